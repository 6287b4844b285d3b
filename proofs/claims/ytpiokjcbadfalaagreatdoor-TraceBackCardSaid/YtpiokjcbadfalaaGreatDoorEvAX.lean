import Derived.Test.YtpiokjcbadfalaaGreatDoorEvAA
import Derived.Test.YtpiokjcbadfalaaGreatDoorEvAQ
import Derived.Test.YtpiokjcbadfalaaGreatDoorEvAW
open Go Go.Proofs.YtpiokjcbadfalaaGreatDoor.Ev
namespace Go.Proofs.YtpiokjcbadfalaaGreatDoor.Tz
theorem kF (z : Int) : ∀ x ∈ bV z,x ≠ 10 := fun x hx e=>by
  have := lX z x hx
  rw [e] at this; exact absurd this (by decide)
theorem a4P : ∀ n,n < 35 → ∀ x ∈ cM n,x ≠ 10 := by decide
theorem sH : ∀ n,n < 9 → ∀ x ∈ bl n,x ≠ 10 := by decide
theorem a6R : ∀ n,n < 256 → ∀ x ∈ kQ n,x ≠ 10 := by decide +kernel
theorem a81 (l : List UInt8) : ∀ x ∈ jw l,x ≠ 10 := fun x hx=>by
  unfold jw at hx
  rcases List.mem_cons.1 hx with rfl | hx
  · decide
  · rcases List.mem_append.1 hx with hx | hx
    · obtain ⟨c,-,hc⟩ := List.mem_flatMap.1 hx
      exact a6R c.toNat c.toNat_lt x hc
    · rw [List.mem_singleton.1 hx]; decide
theorem cU {A B : List UInt8} (a : ∀ x ∈ A,x ≠ 10) (b : ∀ x ∈ B,x ≠ 10) : ∀ x ∈ A ++ B,x ≠ 10 := fun x hx=>(List.mem_append.1 hx).elim (a x) (b x)
theorem a8d {m : cW} {y : Mk} (h : Fits m y) : ∀ x ∈ aM m y,x ≠ 10 := by
  obtain ⟨⟨a1,a2,a3,a4,a5,a6,a7,a8,a9⟩,b0,b1,b2,b3,b4,b5⟩ := h
  unfold aM
  have hif : ∀ x ∈ (if 0 < y.out then [44,32] ++ bl y.out else []),x ≠ 10 := by
    split
    · exact cU (by decide) (sH _ (by omega))
    · intro x hx; exact absurd hx (by simp)
  exact cU (cU (cU (cU (cU (cU (cU (cU (cU (cU (cU (cU (cU (kF _) (by decide)) (kF _)) (by decide)) (a81 _)) (by decide)) (kF _)) (by decide)) (kF _)) (by decide)) (a4P _ b5)) (by decide)) (kF _)) hif
theorem ae6 {y : En} (h : vz y) : ∀ x ∈ ep y,x ≠ 10 := by
  obtain ⟨h1,h2,h3⟩ := h
  unfold ep
  exact cU (cU (cU (cU (cU (by decide) (sH _ (by omega))) (by decide)) (kF _)) (by decide)) (kF _)
theorem qU : ∀ {l : List UInt8} {r : List UInt8},(∀ x ∈ l,x ≠ 10) → aO 10 (l ++ 10 :: r) = l :: aO 10 r
  | [],r,_=>pL
  | b :: l,r,h=>lj (h b (by simp)) (qU fun x hx=>h x (by simp [hx]))
theorem a0u : aO 10 [] = [[]] := rfl
attribute [local irreducible] aO gMk gEn aM ep
theorem aaF (m : cW) (M : Nat → Mk) : ∀ n,pT m M n = (List.range n).flatMap fun i=>aM m (M i) ++ [10]
  | 0=>rfl
  | n + 1=>by
    show pT m M n ++ (aM m (M n) ++ [10]) = _
    rw [List.range_succ,List.flatMap_append,aaF m M n]
    simp
theorem a0t {m : cW} {r : List UInt8} : ∀ {l : List Mk},(∀ y ∈ l,Fits m y) → aO 10 (l.flatMap (fun y=>aM m y ++ [10]) ++ r) = l.map (aM m) ++ aO 10 r
  | [],_=>rfl
  | y :: l,h=>by
    show aO 10 (((aM m y ++ [10]) ++ l.flatMap (fun y=>aM m y ++ [10])) ++ r) = aM m y :: (l.map (aM m) ++ aO 10 r)
    rw [List.append_assoc,List.append_assoc]
    show aO 10 (aM m y ++ 10 :: (l.flatMap (fun y=>aM m y ++ [10]) ++ r)) = _
    rw [qU (a8d (h y (by simp))),a0t fun z hz=>h z (by simp [hz])]
def yB (M : Nat → Mk) (n : Nat) : List Mk := (List.range n).map M
theorem aaG (m : cW) (M : Nat → Mk) (n : Nat) : pT m M n = (yB M n).flatMap fun y=>aM m y ++ [10] := by
  rw [aaF]; unfold yB; rw [List.flatMap_map]
theorem a8n {m : cW} {M : Nat → Mk} {n : Nat} {x : En} (hF : ∀ j,j < n → Fits m (M j)) (hx : vz x) : aO 10 (pT m M n ++ ep x ++ [10]) = ((yB M n).map (aM m) ++ [ep x]) ++ [[]] := by
  rw [aaG,List.append_assoc,a0t fun y hy=>?_,qU (ae6 hx)]
  · rw [a0u,List.append_assoc]; rfl
  · obtain ⟨i,hi,rfl⟩ := List.mem_map.1 hy
    exact hF i (List.mem_range.1 hi)
theorem zL {m : cW} (hn : m.n ≤ 40) (hnc : ∀ i,i < m.n → m.nc i ≤ 300) {y : Mk} (hy : y.Ok) (h : Fits m y) : gMk m (aM m y) = some y := by
  have hl := ni h
  cases e : gMk m (aM m y) with
  | none=>
    rcases a3y e with g | g
    · omega
    · exact absurd rfl (g y hy h)
  | some z=>
    obtain ⟨-,-,k1,k2⟩ := wH e
    rw [acz hn hnc k1 h k2]
theorem ajm {x : En} (h : vz x) : gEn (ep x) = some x := by
  cases e : gEn (ep x) with
  | none=>exact absurd rfl (a3x e x h)
  | some z=>
    obtain ⟨k1,k2⟩ := wG e
    rw [aja k1 h k2]
theorem a2M {m : cW} (hn : m.n ≤ 40) (hnc : ∀ i,i < m.n → m.nc i ≤ 300) : ∀ {l : List Mk},(∀ y ∈ l,y.Ok ∧ Fits m y) → lH (gMk m) (l.map (aM m)) = some l
  | [],_=>rfl
  | y :: l,h=>by
    have h1 := h y (by simp)
    show (match gMk m (aM m y) with | none=>none | some x=>(match lH (gMk m) (l.map (aM m)) with | none=>none | some r=>some (x :: r))) = _
    rw [zL hn hnc h1.1 h1.2,a2M hn hnc fun z hz=>h z (by simp [hz])]
theorem acI {m : cW} (hn : m.n ≤ 40) (hnc : ∀ i,i < m.n → m.nc i ≤ 300) {M : Nat → Mk} {n : Nat} {x : En} (hM : ∀ j,j < n → (M j).Ok ∧ Fits m (M j)) (hx : vz x) (hnn : n ≤ 2000) :
    rdL (gMk m) gEn ((yB M n).map (aM m) ++ [ep x]) [] = some (yB M n,x) := by
  have hl : (yB M n).length = n := by unfold yB; rw [List.length_map,List.length_range]
  have h1 : ((yB M n).map (aM m) ++ [ep x]).length = n + 1 := by rw [List.length_append,List.length_map,hl]; rfl
  unfold rdL
  rw [if_pos ⟨rfl,by omega,by omega⟩]
  have e1 : ((yB M n).map (aM m) ++ [ep x]).getD (((yB M n).map (aM m) ++ [ep x]).length - 1) [] = ep x := by
    rw [h1,List.getD_eq_getElem?_getD,List.getElem?_append_right (by rw [List.length_map,hl]; omega),List.length_map,hl,show n + 1 - 1 - n = 0 by omega]; rfl
  rw [e1,ajm hx,List.dropLast_concat,a2M hn hnc]
  intro y hy
  obtain ⟨i,hi,rfl⟩ := List.mem_map.1 hy
  exact hM i (List.mem_range.1 hi)
theorem np : ∀ (s : List UInt8) (ls : List (List UInt8)) (last : List UInt8),ls ++ [last] = aO 10 s → ls.flatMap (· ++ [10]) ++ last = s
  | [],ls,last,h=>by
    have h' : ls ++ [last] = [[]] := h.trans a0u
    have hl : ls.length = 0 := by have := congrArg List.length h'; rw [List.length_append] at this; simp only [List.length_cons,List.length_nil] at this; omega
    obtain rfl := List.length_eq_zero_iff.1 hl
    injection h' with h' _
  | b :: s,ls,last,h=>by
    by_cases hb : b = 10
    · subst hb
      rw [pL] at h
      cases ls with
      | nil=>
        have hl := fL 10 s
        injection h with _ h
        rw [← h] at hl; exact absurd hl (by decide)
      | cons p r=>
        injection h with h1 h2
        subst h1
        have := np s r last h2
        show [] ++ [10] ++ r.flatMap (· ++ [10]) ++ last = 10 :: s
        rw [← this]; simp
    · cases hq : aO 10 s with
      | nil=>have hl := fL 10 s; rw [hq] at hl; exact absurd hl (by decide)
      | cons p r=>
        rw [lj hb hq] at h
        cases ls with
        | nil=>
          injection h with h1 h2
          subst h2
          have := np s [] p hq.symm
          show last = b :: s
          rw [h1,← this]; rfl
        | cons p' r'=>
          injection h with h1 h2
          subst h1
          have := np s (p :: r') last (by rw [hq]; exact congrArg (p :: ·) h2)
          show (b :: p) ++ [10] ++ r'.flatMap (· ++ [10]) ++ last = b :: s
          rw [← this]; simp
theorem a2K {m : cW} : ∀ {L : List (List UInt8)} {r : List Mk},lH (gMk m) L = some r → L = r.map (aM m) ∧ ∀ y ∈ r,y.Ok ∧ Fits m y
  | [],r,h=>by injection h with h; subst h; exact ⟨rfl,fun y hy=>absurd hy (by simp)⟩
  | s :: L,r,h=>by
    unfold lH at h
    cases hg : gMk m s with
    | none=>simp only [hg] at h; cases h
    | some x=>
      cases hq : lH (gMk m) L with
      | none=>simp only [hg,hq] at h; cases h
      | some r2=>
        simp only [hg,hq] at h
        injection h with h
        subst h
        obtain ⟨i1,i2⟩ := a2K hq
        obtain ⟨-,k1,k2,k3⟩ := wH hg
        refine ⟨by rw [List.map_cons,k3,i1],fun y hy=>?_⟩
        rcases List.mem_cons.1 hy with rfl | hy
        · exact ⟨k1,k2⟩
        · exact i2 y hy
theorem a0n {m : cW} {s : List UInt8} {ls : List (List UInt8)} {last : List UInt8} {l : List Mk} {x : En} (hp : ls ++ [last] = aO 10 s) (h : rdL (gMk m) gEn ls last = some (l,x)) :
    vz x ∧ l.length ≤ 2000 ∧ (∀ y ∈ l,y.Ok ∧ Fits m y) ∧ l.flatMap (fun y=>aM m y ++ [10]) ++ ep x ++ [10] = s := by
  unfold rdL at h
  split at h
  · rename_i hc
    cases hE : gEn (ls.getD (ls.length - 1) []) with
    | none=>rw [hE] at h; cases h
    | some x2=>
      rw [hE] at h
      cases hq : lH (gMk m) ls.dropLast with
      | none=>simp only [hq] at h; cases h
      | some r=>
        simp only [hq] at h
        injection h with h
        injection h with h1 h2
        subst h1 h2
        obtain ⟨k1,k2⟩ := wG hE
        obtain ⟨i1,i2⟩ := a2K hq
        have hl := a2L hq
        rw [List.length_dropLast] at hl
        refine ⟨k1,by omega,i2, ?_⟩
        have hne : ls ≠ [] := by intro e; rw [e] at hc; exact absurd hc.2.1 (by decide)
        have e1 : ls = r.map (aM m) ++ [ep x2] := by
          rw [← i1,k2]
          have : ls.getD (ls.length - 1) [] = ls.getLast hne := by
            rw [List.getD_eq_getElem?_getD,List.getLast_eq_getElem,List.getElem?_eq_getElem]; rfl
          rw [this,List.dropLast_concat_getLast]
        have := np s ls last hp
        rw [← this,hc.1,e1]
        simp [List.flatMap_append,List.flatMap_map]
  · cases h
theorem auQ {m : cW} {s : List UInt8} {ls : List (List UInt8)} {last : List UInt8} {l : List Mk} {x : En} (hp : ls ++ [last] = aO 10 s) (h : rdL (gMk m) gEn ls last = some (l,x)) : txR m (fun i=>l.getD i fp) l.length x = (s,0) := by
  obtain ⟨h1,h2,h3,h4⟩ := a0n hp h
  have hg : ∀ j (hj : j < l.length),l.getD j fp = l[j] := fun j hj=>by rw [List.getD_eq_getElem?_getD,List.getElem?_eq_getElem hj]; rfl
  have e : yB (fun i=>l.getD i fp) l.length = l := by
    show (List.range l.length).map (fun i=>l.getD i fp) = l
    exact List.ext_getElem (by simp) fun i a b=>by rw [List.getElem_map,List.getElem_range,hg i b]
  unfold txR
  rw [if_neg (by omega),if_pos,if_pos h1,aaG,e,h4]
  intro j hj
  show Fits m (l.getD j fp)
  rw [hg j hj]
  exact (h3 _ (List.getElem_mem hj)).2
theorem ahK {m : cW} {M : Nat → Mk} {n : Nat} {x : En} {T : List UInt8} (h : txR m M n x = (T,0)) : n ≤ 2000 ∧ (∀ j,j < n → Fits m (M j)) ∧ vz x ∧ T = pT m M n ++ ep x ++ [10] := by
  unfold txR at h
  split at h
  · injection h with _ h; exact absurd h (by decide)
  · split at h
    · rename_i hal
      split at h
      · rename_i hr
        injection h with h _
        exact ⟨by omega,hal,hr,h.symm⟩
      · injection h with _ h; exact absurd h (by decide)
    · injection h with _ h; exact absurd h (by decide)
end Go.Proofs.YtpiokjcbadfalaaGreatDoor.Tz
namespace Go.Proofs.YtpiokjcbadfalaaGreatDoor.Tz
attribute [local irreducible] mem
set_option linter.unusedSimpArgs false
attribute [local congr] dh aP bB dm dj bj dp cj aW cx cy cA bf bC bD aX eN cq cg cu bh bg aQ aS eO bF cn bx bH bE bz cz ck bd bI di bA bG bJ cP ek
set_option maxHeartbeats 8000000
theorem fz_ok {a : AV} {l : List Mk} (h : Fz 7 a (l.map Mk.av)) (hl : l.length ≤ 100000) : ∃ t,mC 7 a l.length t ∧ dF 7 l.length t fun i=>(l.getD i fp).l := by
  rcases h with ⟨rfl,h⟩ | ⟨t,rfl,h⟩
  · have e : l = [] := List.map_eq_nil_iff.1 h
    subst e
    exact ⟨.lf,a5C,fun i hi=>absurd hi (Nat.not_lt_zero _)⟩
  · rw [List.length_map] at h ⊢
    refine ⟨t,a1U (by omega),fun i hi=>⟨?_,rfl⟩⟩
    have e : l.getD i fp = l[i] := by rw [List.getD_eq_getElem?_getD,List.getElem?_eq_getElem hi]; rfl
    rw [h i hi,List.getD_eq_getElem?_getD,List.getElem?_map,List.getElem?_eq_getElem hi]
    show Mk.av l[i] = .agg (aA (l.getD i fp).l) 7
    rw [e]; rfl
end Go.Proofs.YtpiokjcbadfalaaGreatDoor.Tz
set_option maxRecDepth 100000
namespace Go.Proofs.YtpiokjcbadfalaaGreatDoor.Tz
open Go Go.Proofs.YtpiokjcbadfalaaGreatDoor.Ev
noncomputable section
abbrev o {α : Type} : Tr α := .lf
abbrev n {α : Type} (v : α) (l r : Tr α) : Tr α := .nd v l r
abbrev i (k n : Nat) : AV := .int k n
abbrev i3 : Nat → AV := .int 3
abbrev i4 : Nat → AV := .int 4
abbrev L1 (a : AV) : Row := .nd a .lf .lf
abbrev L2 (a b : AV) : Row := .nd a .lf (L1 b)
abbrev G2 (a b : AV) : AV := .agg (L2 a b) 2
abbrev L3 (a b c : AV) : Row := .nd a .lf (L2 b c)
abbrev G3 (a b c : AV) : AV := .agg (L3 a b c) 3
abbrev L4 (a b c d : AV) : Row := .nd a .lf (L3 b c d)
abbrev G4 (a b c d : AV) : AV := .agg (L4 a b c d) 4
abbrev L5 (a b c d e : AV) : Row := .nd a .lf (L4 b c d e)
abbrev G5 (a b c d e : AV) : AV := .agg (L5 a b c d e) 5
abbrev L6 (a b c d e f : AV) : Row := .nd a .lf (L5 b c d e f)
abbrev G6 (a b c d e f : AV) : AV := .agg (L6 a b c d e f) 6
abbrev L7 (a b c d e f g : AV) : Row := .nd a .lf (L6 b c d e f g)
abbrev G7 (a b c d e f g : AV) : AV := .agg (L7 a b c d e f g) 7
abbrev L8 (a b c d e f g j : AV) : Row := .nd a .lf (L7 b c d e f g j)
abbrev L9 (a b c d e f g j k : AV) : Row := .nd a .lf (L8 b c d e f g j k)
abbrev L10 (a b c d e f g j k l : AV) : Row := .nd a .lf (L9 b c d e f g j k l)
abbrev L11 (a b c d e f g j k l m : AV) : Row := .nd a .lf (L10 b c d e f g j k l m)
abbrev L12 (a b c d e f g j k l m p : AV) : Row := .nd a .lf (L11 b c d e f g j k l m p)
abbrev uf (a b c d e f g j k l m p : AV) : AV := .agg (L12 a b c d e f g j k l m p) 12
def s0 : AV := (i4 2)
def s1 : AV := (i3 0)
def s2 : AV := (.x 8 o 0 0 0)
def s3 : AV := (i4 1)
def s4 : AV := (i4 4)
def s5 : AV := (i3 4)
def s6 : AV := (i4 3)
def s7 : AV := (i4 5)
def s8 : AV := (G2 (.str 110 1) s1)
def s9 : AV := (i3 1)
def s10 : AV := (G2 (.str 28271 2) s9)
def s11 : Row := (L1 (G2 (.str 0 0) s1))
def s12 : AV := (i4 7)
def sQ : AV := (.vs (n (G4 s0 s1 s1 s2) (n (G4 s3 s1 s1 s2) (n (G4 s4 s1 s1 s2) (L1 (G4 s4 s5 s1 s2)) o) (L1 (G4 (i4 6) s1 (i3 3) s2))) (n (G4 s6 s1 s1 s2) (L1 (G4 s7 s1 s1 (.vs (n s8 (n s10 s11 s11) (n (G2 (.str 29793 2) (i3 3)) s11 s11)) 0 3 2))) (L1 (G4 s12 s1 s1 s2)))) 0 8 4)
def s14 : AV := (.str 1702125932 4)
def s15 : AV := (.str 1802723700 4)
def s16 : Row := (L1 (.str 0 0))
def sR : AV := (.vs (n s14 (n s15 s16 s16) (n (.str 1836019554 4) s16 s16)) 0 3 1)
def s18 : AV := (.str 1852399981 4)
def yC : AV := (i3 18446744073709551615)
def s20 : AV := (G2 (.str 107 1) s1)
def s21 : Row := (L1 s20)
def s22 : Row := (n s8 (n s10 (n (G2 (.str 112 1) (i3 3)) s21 o) (L1 (G2 (.str 97 1) (i3 5)))) (n (G2 (.str 115 1) (i3 2)) (n (G2 (.str 114 1) s5) (L1 (G2 (.str 113 1) (i3 7))) o) (L1 (G2 (.str 108 1) (i3 6)))))
def s23 : AV := (.vs s22 0 9 2)
def s24 : AV := (G4 (i4 28) s1 s1 s1)
def s25 : Row := (L1 s24)
def s26 : AV := (i4 34)
def s27 : Row := (L1 (G4 s26 yC s1 s1))
def s28 : AV := (i4 23)
def s29 : Row := (n (G4 s3 s1 (i3 5) s1) (n (G4 s6 s9 s9 s1) (n (G4 (i4 15) (i3 3) s1 s1) (L1 (G4 (i4 18) (i3 6) (i3 7) s1)) s25) (n (G4 s4 (i3 5) s1 s1) (L1 (G4 (i4 12) s9 s9 s1)) o)) (n (G4 s0 (i3 2) s1 s1) (n (G4 s4 s5 s1 s1) (L1 (G4 (i4 15) (i3 8) s1 s1)) s27) (n (G4 s3 (i3 7) (i3 2) s1) (L1 (G4 s28 s9 (i3 12) s1)) o)))
def s30 : AV := (.vs s29 0 13 4)
def nT : AV := (i 7 0)
def s32 : AV := (G2 s1 nT)
def s33 : Row := (L1 s32)
def s34 : Row := (n s32 s33 s33)
def vw : AV := (.vs s34 0 1 2)
def s36 : AV := (.str 1802661751 4)
def s37 : Row := (L1 s10)
def s38 : Row := (n s8 s21 s37)
def s39 : AV := (.vs s38 0 3 2)
def s40 : Row := (n (G4 s3 s9 s9 s1) (n (G4 (i4 10) (i3 2) s1 s9) (n (G4 s12 s9 s1 s9) (L1 (G4 s26 s9 s1 s1)) o) (n (G4 (i4 25) s9 s9 s1) s27 o)) (n (G4 s28 (i3 2) (i3 8) s1) (n (G4 (i4 24) s9 s1 s1) (L1 (G4 s26 s1 s1 s1)) o) (L1 (G4 (i4 6) s9 s9 s1))))
def s41 : AV := (.vs s40 0 10 4)
def s42 : AV := (G4 s28 s9 s5 s1)
def s43 : Row := (n (G4 (i4 31) s1 s1 s1) (n (G4 (i4 33) s9 s1 s1) (L1 (G4 (i4 32) s1 s1 s1)) o) (n s42 s27 o))
def s44 : AV := (.vs s43 0 5 4)
def s45 : AV := (.str 474214393697 5)
def s46 : Row := (n s8 s37 s21)
def s47 : AV := (.vs s46 0 3 2)
def s48 : AV := (G4 (i4 29) s9 (i3 2) s1)
def s49 : Row := (n s48 s25 s27)
def s50 : AV := (.vs s49 0 3 4)
def s51 : AV := (.str 435777791340 5)
def s52 : AV := (G4 (i4 30) s1 s1 s1)
def bP : AV := (i4 0)
def s54 : Row := (L1 (G4 bP s1 s1 s1))
def s55 : Row := (n s48 (n s42 (L1 (G4 s28 s9 (i3 5) s1)) s25) (n (G4 (i4 10) s9 s1 (i3 2)) s27 s27))
def s56 : AV := (.vs s55 0 7 4)
def s57 : AV := (.str 1818845542 4)
def s58 : AV := (.str 499917616497 5)
def s59 : Row := (L1 s8)
def s60 : AV := (G4 (i4 29) s1 s9 s1)
def s61 : AV := (i4 101)
def lh : Row := (L1 s3)
def s63 : Row := (n s3 lh o)
def s64 : Row := (L1 s7)
def iu : Row := (L1 bP)
def s66 : Row := (n s3 iu o)
def s67 : AV := (i4 110)
def qZ : Row := (n bP iu o)
def vP : AV := (i4 97)
def s70 : AV := (i4 111)
def s71 : AV := (i4 108)
def s72 : Row := (L1 s6)
def s73 : Row := (L1 s61)
def s74 : Row := (n s3 s73 o)
def s75 : Row := (L1 s26)
def s76 : Row := (n bP s75 o)
def s77 : AV := (i4 115)
def s78 : AV := (i4 107)
def s79 : Row := (L1 s67)
def s80 : Row := (L1 (i4 105))
def s81 : Row := (L1 vP)
def s82 : Row := (L1 s0)
def s83 : Row := (n s3 s82 o)
def s84 : Row := (n bP s82 o)
def yD : AV := (i4 116)
def s86 : Row := (n bP lh o)
def s87 : Row := (n s26 iu o)
def s88 : Row := (L1 s71)
def s89 : AV := (i4 109)
def s90 : Row := (n (i4 10) lh o)
def s91 : Row := (n s70 lh o)
def s92 : Row := (L1 s70)
def s93 : Row := (n s67 lh o)
def s94 : Row := (L1 s78)
def s95 : Row := (n s0 lh o)
def s96 : Row := (n s3 s79 o)
def s97 : Row := (n s0 iu o)
def tf : AV := (i3 1000)
def tg : AV := (i3 2048)
def iq : AV := (i3 4096)
def s101 : Row := (n s32 (n (G2 s9 (i 7 1)) (n (G2 (i3 3) (i 7 7)) (L1 (G2 (i3 7) (i 7 191))) o) (n (G2 (i3 5) (i 7 31)) (L1 (G2 (i3 9) (i 7 511))) o)) (n (G2 (i3 2) (i 7 3)) (n (G2 s5 (i 7 15)) (L1 (G2 (i3 8) (i 7 255))) o) (n (G2 (i3 6) (i 7 63)) (L1 (G2 (i3 12) nT)) o)))
def aha : AV := (G2 s1 (i 7 1))
def s103 : Row := (n aha (n (G2 s9 (i 7 3)) (L1 (G2 (i3 9) nT)) o) (L1 (G2 (i3 2) (i 7 7))))
def s104 : Row := (n aha (L1 (G2 (i3 2) (i 7 3))) (L1 (G2 s5 nT)))
def s105 : Row := (n s10 s59 o)
def s106 : Row := (n aha (L1 (G2 s9 (i 7 7))) (L1 (G2 (i3 6) nT)))
def s107 : Row := (n aha (L1 (G2 s9 nT)) s33)
def s108 : bN := (.row true false 2 6 s46)
def s109 : Row := (n s24 s27 o)
def s110 : bN := (.row true true 2 2 s34)
def acv : Tr bN := (n s110 o o)
def s112 : Row := (n s1 (L1 s1) (L1 s1))
def s113 : Row := (n s1 s112 s112)
def s114 : Row := (n s1 s113 s113)
def s115 : Row := (n s1 s114 s114)
def s116 : Row := (n s60 s27 o)
def s117 : Row := (n s20 s37 o)
def s118 : Row := (n s52 s27 o)
def s119 : Row := (n s32 (L1 (G2 (i3 5) (i 7 8))) (L1 (G2 (i3 6) nT)))
def s120 : Row := (n aha (L1 (G2 s9 (i 7 7))) (L1 (G2 (i3 2) nT)))
def iL : AV := (.vs (n (G7 s18 s1 yC s23 s30 vw (.vs s101 0 11 2)) (n (G7 s36 s9 s1 s39 s41 (.vs s119 0 3 2) (.vs s103 0 4 2)) (n (G7 s15 s9 yC (.vs s117 0 2 2) s44 vw (.vs s104 0 3 2)) (L1 (G7 s45 s9 yC s47 s50 vw (.vs s120 0 3 2))) o) (L1 (G7 s51 s1 yC s2 (.vs s118 0 2 4) vw vw))) (n (G7 s14 s9 yC s47 s56 vw (.vs s106 0 3 2)) (L1 (G7 s57 s9 yC (.vs s59 0 1 2) (.vs s109 0 2 4) vw (.vs s107 0 2 2))) (L1 (G7 s58 s1 yC (.vs s105 0 2 2) (.vs s116 0 2 4) vw vw)))) 0 8 7)
def s122 : AV := (G3 sQ sR iL)
def s123 : Row := (L1 s122)
def s124 : Row := (n s70 iu o)
def jd : AV := (i 7 65536)
def mg : Row := (n bP iu iu)
def s127 : Row := (n s71 (n vP (n s61 mg (n s78 (L1 s89) o)) (n bP (n vP s92 o) qZ)) (n yD (n bP (n yD (L1 (i4 98)) o) qZ) (n bP (n s77 s92 o) qZ)))
def ahb : AV := (.vs s127 0 24 1)
def z6 : AV := (i 7 16777216)
def a1O : Row := (n bP qZ iu)
def a89 : Row := (n bP a1O a1O)
def ahc : Row := (n bP a1O mg)
def qP : Row := (n bP a89 ahc)
def ahd : Row := (n bP qP qP)
def a1P : Row := (n bP (n bP (n bP a89 a89) qP) ahd)
def s136 : AV := (.vs (L1 (G2 z6 (.vs (n bP a1P (n bP ahd ahd)) 0 152 1))) 0 1 2)
def u5 : AV := (i 7 16777368)
def s138 : AV := (G6 s3 (i 7 256) u5 nT nT s1)
def s139 : Row := (L1 (G6 bP nT nT nT nT s1))
def s140 : AV := (uf sQ sR iL tf tg iq s5 jd ahb s136 (.vs (n s138 s139 s139) 0 1 6) s1)
def s141 : AV := (uf sQ sR iL tf tg iq s5 jd ahb s136 (.vs (L1 s138) 0 1 6) s1)
def s142 : AV := (.bu (L4 (uf sQ sR iL tf tg iq s5 jd (.ms 0 0 24 1) (.ms 2 0 1 2) (.ms 3 0 1 6) s9) bP s1 s1) 4)
def s143 : bN := (.row true false 1 24 s127)
def s144 : Row := (n s7 a1O mg)
def s145 : Row := (n bP a1P (n bP (n bP (n bP a89 s144) qP) ahd))
def s146 : Row := (L1 (G6 s3 (i 7 257) u5 nT nT s1))
def u6 : Tr bN := (n (.row true false 2 2 (L1 (G2 z6 (.ms 1 0 152 1)))) o o)
def s148 : AV := (uf sQ sR iL tf tg iq s5 jd ahb (.vs (L1 (G2 z6 (.vs s145 0 152 1))) 0 1 2) (.vs s146 0 1 6) s9)
def s149 : Row := (n s3 qZ iu)
def s150 : Row := (n bP a1P (n bP (n bP (n bP (n bP s149 a1O) s144) qP) ahd))
def s151 : Row := (L1 (G6 s3 (i 7 258) u5 nT nT s1))
def s152 : AV := (uf sQ sR iL tf tg iq s5 jd ahb (.vs (L1 (G2 z6 (.vs s150 0 152 1))) 0 1 2) (.vs s151 0 1 6) (i3 2))
def s153 : Row := (n bP s149 (n s4 qZ iu))
def s154 : Row := (n bP a1P (n bP (n bP (n bP s153 s144) qP) (n bP (n bP a89 (n bP s149 mg)) qP)))
def s155 : Row := (L1 (G6 s3 (i 7 259) u5 nT nT s1))
def s156 : AV := (uf sQ sR iL tf tg iq s5 jd ahb (.vs (L1 (G2 z6 (.vs s154 0 152 1))) 0 1 2) (.vs s155 0 1 6) (i3 3))
def s157 : Row := (n s71 (n vP (n s61 a1O (n s78 (L1 s89) iu)) (n bP (n vP s92 iu) mg)) (n yD (n bP (n yD (L1 (i4 98)) iu) mg) (n bP (n s77 s92 iu) mg)))
def s158 : bN := (.row true false 1 32 s157)
def s159 : Row := (n (i4 24) iu iu)
def s160 : Row := (n bP s149 (n s3 iu iu))
def s161 : Row := (n bP (n bP a89 s160) qP)
def s162 : Row := (n bP a1P (n bP (n bP (n bP s153 (n s7 a1O s159)) qP) s161))
def s163 : bN := (.row true false 1 152 s162)
def s164 : Row := (L1 (G6 s3 (i 7 260) u5 nT nT s1))
def s165 : AV := (.vs s157 0 32 1)
def s166 : AV := (.vs (L1 (G2 z6 (.vs s162 0 152 1))) 0 1 2)
def s167 : AV := (uf sQ sR iL tf tg iq s5 jd s165 s166 (.vs s164 0 1 6) s5)
def s168 : Row := (L1 (G6 s3 (i 7 261) u5 nT nT s1))
def s169 : AV := (uf sQ sR iL tf tg iq s5 jd s165 s166 (.vs s168 0 1 6) (i3 5))
def s170 : Row := (L1 (G6 s3 (i 7 262) u5 nT nT s1))
def s171 : AV := (uf sQ sR iL tf tg iq s5 jd s165 s166 (.vs s170 0 1 6) (i3 6))
def s172 : Row := (n bP s84 iu)
def s173 : Row := (n bP a1P (n bP (n bP (n bP s153 (n s7 s172 s159)) qP) s161))
def s174 : Row := (L1 (G6 s3 (i 7 263) u5 nT nT s1))
def s175 : AV := (uf sQ sR iL tf tg iq s5 jd s165 (.vs (L1 (G2 z6 (.vs s173 0 152 1))) 0 1 2) (.vs s174 0 1 6) (i3 7))
def s176 : Row := (n bP qZ qZ)
def s177 : Row := (n s71 (n vP (n s61 (n bP mg qZ) (n s78 (n s89 iu o) qZ)) (n bP (n vP s124 qZ) s176)) (n yD (n bP (n yD (n (i4 98) iu o) qZ) s176) (n bP (n s77 s124 qZ) s176)))
def s178 : Row := (n s3 s84 iu)
def s179 : Row := (n s7 s172 (n (i4 24) iu s82))
def s180 : Row := (n bP a1P (n bP (n bP (n bP (n bP s178 (n s4 qZ (L1 (i4 32)))) s179) qP) (n bP (n bP (n bP a1O (n bP qZ lh)) s160) qP)))
def s181 : Row := (L1 (G6 s3 (i 7 264) u5 nT nT s1))
def s182 : AV := (uf sQ sR iL tf tg iq s5 jd (.vs s177 0 48 1) (.vs (L1 (G2 z6 (.vs s180 0 152 1))) 0 1 2) (.vs s181 0 1 6) (i3 8))
def s183 : Row := (n s70 qZ iu)
def s184 : Row := (n s71 (n vP (n s61 a89 (n s78 (n s89 qZ iu) mg)) (n bP (n vP s183 mg) ahc)) (n yD (n bP (n yD (n (i4 98) qZ iu) mg) ahc) (n bP (n s77 s183 mg) ahc)))
def s185 : bN := (.row true false 1 72 s184)
def s186 : Row := (n s4 (n bP (L1 (i4 48)) o) (L1 (i4 32)))
def s187 : Row := (n bP (n bP (n bP a1O (n bP s86 lh)) s160) qP)
def s188 : Row := (n bP a1P (n bP (n bP (n bP (n bP s178 s186) s179) qP) s187))
def s189 : Row := (L1 (G6 s3 (i 7 265) u5 nT nT s1))
def s190 : AV := (.vs s184 0 72 1)
def s191 : AV := (uf sQ sR iL tf tg iq s5 jd s190 (.vs (L1 (G2 z6 (.vs s188 0 152 1))) 0 1 2) (.vs s189 0 1 6) (i3 9))
def s192 : Row := (n bP a1P (n bP (n bP (n bP (n bP s172 s186) s179) qP) s187))
def s193 : bN := (.row true false 1 152 s192)
def s194 : Row := (L1 (G6 s3 (i 7 266) u5 nT nT s1))
def s195 : AV := (.vs (L1 (G2 z6 (.vs s192 0 152 1))) 0 1 2)
def s196 : AV := (uf sQ sR iL tf tg iq s5 jd s190 s195 (.vs s194 0 1 6) (i3 10))
def s197 : Row := (L1 (G6 s3 (i 7 267) u5 nT nT s1))
def s198 : AV := (uf sQ sR iL tf tg iq s5 jd s190 s195 (.vs s197 0 1 6) (i3 11))
def acw : Row := (n bP mg mg)
def s200 : Row := (n s70 mg mg)
def s201 : Row := (n bP acw acw)
def s202 : Row := (n s71 (n vP (n s61 (n bP ahc acw) (n s78 (n s89 mg mg) acw)) (n bP (n vP s200 acw) s201)) (n yD (n bP (n yD (n (i4 98) mg (n bP lh iu)) (n bP mg (n bP s64 iu))) s201) (n bP (n s77 s200 acw) s201)))
def s203 : Row := (L1 (G6 s3 (i 7 267) u5 nT (i 7 65608) s1))
def a8L : Row := (L1 (G3 sQ sR (.vs (n (G7 s18 s1 yC s23 s30 vw vw) (n (G7 s36 s9 s1 s39 s41 vw vw) (n (G7 s15 s9 yC (.vs (n s20 s37 s11) 0 2 2) s44 vw vw) (L1 (G7 s45 s9 yC s47 s50 vw vw)) o) (L1 (G7 s51 s1 yC s2 (.vs (n s52 s27 s54) 0 2 4) vw vw))) (n (G7 s14 s9 yC s47 s56 vw vw) (L1 (G7 s57 s9 yC (.vs (n s8 s11 s11) 0 1 2) (.vs (n s24 s27 s54) 0 2 4) vw vw)) (L1 (G7 s58 s1 yC (.vs (n s10 s59 s11) 0 2 2) (.vs (n s60 s27 s54) 0 2 4) vw vw)))) 0 8 7)))
def aaS : AV := (.bu (L2 (.ms 0 0 352 1) s1) 2)
def a9o : Hp := ⟨(n (.row true true 1 352 (n (i4 8) (n s0 (n s6 (n s6 (n s0 (n s61 (n s6 s63 (n s12 s64 o)) (n s3 s66 s66)) (n s67 (n (i4 13) qZ (n (i4 28) lh o)) (n s26 (n vP lh o) (L1 s4)))) (n bP (n s70 (n s71 (n s67 iu o) (n s3 s72 o)) (n (i4 12) s74 lh)) (n s70 (n s0 s63 qZ) (n s4 s76 lh)))) (n s0 (n (i4 6) (n s77 (n s3 (n s78 s79 o) (n s28 s80 o)) (n (i4 6) (n s26 s64 o) iu)) (n s3 (n s6 (n (i4 8) s81 o) (n s3 (L1 (i4 29)) o)) (n bP s83 lh))) (n s4 (n s4 (n bP s66 s83) (n s3 s84 lh)) (n s77 (n s4 (n s0 s75 o) (n vP iu o)) (n s78 s66 (L1 (i4 102))))))) (n bP (n s67 (n yD (n yD (n (i4 114) s86 (n s3 (L1 (i4 103)) o)) (n s4 s87 lh)) (n s3 (n bP (n s28 s88 o) s87) (n s3 (n s61 s79 o) iu))) (n s4 (n s89 (n s3 s90 (n s0 s79 o)) (n s3 qZ (L1 (i4 31)))) (n s3 (n (i4 15) s83 (n s4 lh o)) (n s70 s91 iu)))) (n s67 (n s6 (n s4 (n s7 (n s0 s82 o) (n s4 lh o)) (n (i4 15) (n s26 (L1 (i4 117)) o) s92)) (n bP (n s3 s74 s84) (n bP s66 iu))) (n vP (n vP (n (i4 113) s90 (n s26 s79 o)) (n (i4 28) (n s4 s92 o) (L1 s28))) (n s3 (n s4 (n (i4 6) lh o) (n s78 lh o)) (n bP (n s78 iu o) s80)))))) (n s3 (n s4 (n s3 (n vP (n s4 (n s3 s93 (n (i4 29) s81 o)) (n s12 s86 s82)) (n bP (n s3 (n s3 s64 o) (n bP s94 o)) (n s3 (n yD lh o) (L1 (i4 32))))) (n s4 (n s70 (n (i4 6) (n s3 s75 o) s86) (n s3 (n bP (L1 yD) o) s64)) (n s67 (n bP (n (i4 24) iu o) s76) (n (i4 119) s95 iu)))) (n s70 (n bP (n s78 (n vP qZ s96) (n s12 (n bP (L1 (i4 113)) o) s82)) (n s67 (n s3 (n s12 (L1 (i4 118)) o) s86) (n s3 (n s6 (L1 (i4 29)) o) lh))) (n s71 (n s89 (n s3 s97 (n s7 s92 o)) (n (i4 12) s84 iu)) (n s0 (n s4 s63 (n s77 iu o)) (n s3 s63 s81))))) (n s7 (n bP (n s6 (n vP (n s4 s63 (n s0 s81 o)) (n (i4 18) s97 s94)) (n (i4 9) (n (i4 10) (n s0 s73 o) (n s3 s72 o)) (n bP s66 s75))) (n s6 (n (i4 8) (n s78 s63 (n s28 iu o)) (n s28 s63 (L1 (i4 33)))) (n s3 (n s6 (n (i4 25) (L1 (i4 30)) o) (n yD lh o)) (n (i4 114) (n s67 iu o) (L1 s4))))) (n s3 (n s12 (n (i4 98) (n s3 (n s70 (L1 (i4 28)) o) s90) (n (i4 8) (n s3 s80 o) s79)) (n s0 (n s0 qZ (n s3 (L1 (i4 28)) o)) (n bP s93 iu))) (n yD (n (i4 105) (n s12 s97 s63) (n bP (n s71 s79 o) lh)) (n (i4 112) (n s7 s66 s66) (n s6 qZ s88)))))))) o o),1,[],0⟩
def a8D : Row := s82
def aaK : AV := (.bu (L3 (G3 sQ sR (.ms 31 0 8 7)) (G5 (.ms 32 0 20 1) tf tg iq s5) s1) 3)
def a9g : Hp := ⟨(n (.row true false 2 18 s22) (n (.row true false 4 52 s29) (n (.row true true 2 22 s101) (n (.row true true 2 8 s103) (n (.row true true 2 6 s104) (n (.row true false 7 56 (n (G7 s18 s1 yC (.ms 0 0 9 2) (.ms 1 0 13 4) (.ms 2 0 1 2) (.ms 3 0 11 2)) (n (G7 s36 s9 s1 (.ms 4 0 3 2) (.ms 5 0 10 4) (.ms 6 0 3 2) (.ms 7 0 4 2)) (n (G7 s15 s9 yC (.ms 12 0 2 2) (.ms 13 0 5 4) (.ms 14 0 1 2) (.ms 15 0 3 2)) (L1 (G7 s45 s9 yC (.ms 27 0 3 2) (.ms 28 0 3 4) (.ms 29 0 1 2) (.ms 30 0 3 2))) o) (L1 (G7 s51 s1 yC s2 (.ms 20 0 2 4) (.ms 21 0 1 2) (.ms 22 0 1 2)))) (n (G7 s14 s9 yC (.ms 8 0 3 2) (.ms 9 0 7 4) (.ms 10 0 1 2) (.ms 11 0 3 2)) (L1 (G7 s57 s9 yC (.ms 16 0 1 2) (.ms 17 0 2 4) (.ms 18 0 1 2) (.ms 19 0 2 2))) (L1 (G7 s58 s1 yC (.ms 23 0 2 2) (.ms 24 0 2 4) (.ms 25 0 1 2) (.ms 26 0 1 2)))))) o o) o) (n (.row true false 2 4 s105) o o)) (n (.row true true 2 6 s106) (n (.row true true 2 4 s107) o o) (n s108 o o))) (n (.row true false 4 40 s40) (n (.row true false 4 28 s55) (n (.row true false 4 8 s109) o o) acv) (n (.row true false 4 20 s43) acv acv))) (n s110 (n (.row true false 2 6 s38) (n s108 (n (.row true false 2 2 s59) (n (.row true true 1 20 s115) o o) o) (n (.row true false 4 8 s116) o o)) (n (.row true false 2 4 s117) (n (.row true false 4 8 s118) o o) (n (.row true false 4 12 s49) o o))) (n (.row true true 2 6 s119) (n s110 acv acv) (n s110 acv (n (.row true true 2 6 s120) o o))))),33,[],0⟩
def a8M : Row := s123
def aaT : AV := (.bu (L2 (.ms 0 0 399 1) s1) 2)
def a9p : Hp := ⟨(n (.row true true 1 399 (n (i4 8) (n s0 (n s6 (n s6 (n s0 (n s61 (n s6 (n s3 (L1 yD) lh) (n bP (L1 (i4 118)) o)) (n s3 s83 (n bP (L1 (i4 29)) o))) (n s67 (n (i4 13) (n (i4 119) (L1 (i4 33)) o) (n s71 (L1 (i4 113)) o)) (n s26 (n (i4 24) (L1 (i4 28)) o) s96))) (n bP (n s70 (n s71 (n (i4 255) s94 iu) s63) (n (i4 12) (n s3 s88 o) s90)) (n s70 (n s0 (n s67 s75 o) (n s67 s82 o)) (n s3 qZ (n s6 s92 o))))) (n s0 (n (i4 6) (n s77 (n s3 (n s3 lh s75) s66) (n (i4 6) (n s0 (L1 s4) o) s95)) (n s3 (n s6 s63 (n s3 (L1 yD) o)) (n bP s63 s63))) (n s4 (n s4 (n bP (n s6 s79 lh) (n s12 lh o)) (n s3 (n s12 lh o) (n s28 s81 o))) (n s77 (n s4 qZ s93) (n s3 (n bP s64 o) (n s12 s94 o)))))) (n bP (n s67 (n yD (n yD (n (i4 114) (n s3 (L1 s77) (L1 (i4 28))) (n s7 iu o)) (n s4 s83 (n (i4 29) lh o))) (n s3 (n bP (n (i4 114) iu o) (n yD s80 o)) (n s3 (n (i4 25) s75 o) s86))) (n s4 (n s89 (n s3 (n s3 s82 iu) (n s6 iu o)) (n s3 s95 qZ)) (n s3 (n (i4 15) s63 (n s0 s79 o)) (n s3 s95 s63)))) (n s67 (n s6 (n s4 (n s7 (n s3 s82 lh) (n s4 (L1 (i4 30)) o)) (n (i4 15) (n s0 s81 o) s66)) (n bP (n s3 (n s6 (L1 (i4 32)) o) (n s6 lh o)) (n bP s66 qZ))) (n vP (n vP (n (i4 113) (n bP s64 lh) qZ) (n (i4 28) qZ (n s7 s81 o))) (n s3 (n s4 s124 s66) (n s3 s74 (n bP s72 o))))))) (n s3 (n s4 (n s3 (n vP (n s4 (n s3 (n (i4 31) s81 s82) (n bP s73 o)) (n s12 (n (i4 10) s72 o) (n s12 iu o))) (n bP (n s3 s91 (n vP (L1 (i4 117)) o)) (n s3 s66 (n (i4 28) lh o)))) (n s4 (n s70 (n (i4 6) (n s3 iu s72) s63) (n s3 (n s28 lh o) s66)) (n s67 (n bP s86 (n bP s92 o)) (n s3 (n s26 lh o) (n bP s79 o))))) (n s70 (n bP (n s78 (n vP (n (i4 191) lh lh) s84) (n s12 (n (i4 10) (L1 (i4 102)) o) (n s28 lh o))) (n s67 (n s3 (n bP (L1 s4) o) s66) (n (i4 11) (n (i4 6) iu o) s96))) (n s71 (n s89 (n s3 (n s6 lh (L1 s12)) (n s12 iu o)) (n (i4 12) s96 (n s3 (L1 (i4 103)) o))) (n s0 (n s4 (n s0 s72 o) s96) (n s12 (n s26 s88 o) (n s7 iu o)))))) (n s7 (n bP (n s6 (n vP (n s4 (n (i4 63) s94 iu) (n (i4 8) lh o)) (n (i4 18) s66 (n s3 s75 o))) (n (i4 9) (n (i4 10) (n s78 (L1 s28) o) (n s61 s73 o)) (n bP s95 (n s26 s72 o)))) (n s6 (n (i4 8) (n s78 (n (i4 255) s92 lh) s66) (n s28 (n (i4 8) lh o) (n s0 s64 o))) (n s3 (n s6 (n s78 iu o) s91) (n s6 s87 s63)))) (n s3 (n s12 (n (i4 98) (n s3 (n s3 lh iu) s76) (n (i4 8) (n bP s80 o) (n s4 iu o))) (n s0 (n s0 s66 s83) (n bP s83 s84))) (n yD (n (i4 105) (n s12 (n s4 (L1 (i4 31)) iu) (n s4 s64 o)) (n bP s83 (n s26 s80 o))) (n (i4 112) (n s7 s93 (n s78 s82 o)) (n (i4 15) (n s6 s81 o) (n s4 (L1 (i4 29)) o))))))))) o o),1,[],0⟩
def a8E : Row := s123
def aaL : AV := s1
def a9h : Hp := ⟨o,0,[],0⟩
def a8H : Row := (L1 s140)
def aaO : AV := s1
def a9k : Hp := ⟨o,0,[],0⟩
def a8I : Row := (L1 s141)
def aaP : AV := s1
def a9l : Hp := ⟨o,0,[],0⟩
def a8F : Row := (L2 s141 s1)
def aaM : AV := s142
def a9i : Hp := ⟨(n s143 (n (.row true false 1 152 s145) (n (.row true false 6 6 s146) o o) o) u6),4,[],0⟩
def a8J : Row := (L1 s148)
def aaQ : AV := s1
def a9m : Hp := ⟨o,0,[],0⟩
def a8G : Row := (L2 s148 s1)
def aaN : AV := (.bu (L4 (uf sQ sR iL tf tg iq s5 jd (.ms 0 0 24 1) (.ms 2 0 1 2) (.ms 3 0 1 6) (i3 2)) bP s1 s1) 4)
def a9j : Hp := ⟨(n s143 (n (.row true false 1 152 s150) (n (.row true false 6 6 s151) o o) o) u6),4,[],0⟩
def a8K : Row := (L1 s152)
def aaR : AV := s1
def a9n : Hp := ⟨o,0,[],0⟩
def a2o : Row := (L2 s152 s1)
def a5T : AV := (.bu (L4 (uf sQ sR iL tf tg iq s5 jd (.ms 0 0 24 1) (.ms 2 0 1 2) (.ms 3 0 1 6) (i3 3)) bP s1 s1) 4)
def a3C : Hp := ⟨(n s143 (n (.row true false 1 152 s154) (n (.row true false 6 6 s155) o o) o) u6),4,[],0⟩
def a2z : Row := (L1 s156)
def a69 : AV := s1
def a3N : Hp := ⟨o,0,[],0⟩
def a2p : Row := (L2 s156 s1)
def a5U : AV := (.bu (L4 (uf sQ sR iL tf tg iq s5 jd (.ms 0 0 32 1) (.ms 2 0 1 2) (.ms 3 0 1 6) s5) bP s1 s1) 4)
def a3D : Hp := ⟨(n s158 (n s163 (n (.row true false 6 6 s164) o o) o) u6),4,[],0⟩
def a2A : Row := (L1 s167)
def a6a : AV := s1
def a3O : Hp := ⟨o,0,[],0⟩
def a2q : Row := (L2 s167 s1)
def a5V : AV := (.bu (L4 (uf sQ sR iL tf tg iq s5 jd (.ms 0 0 32 1) (.ms 2 0 1 2) (.ms 3 0 1 6) (i3 5)) bP s1 s1) 4)
def a3E : Hp := ⟨(n s158 (n s163 (n (.row true false 6 6 s168) o o) o) u6),4,[],0⟩
def a2B : Row := (L1 s169)
def a6b : AV := s1
def a3P : Hp := ⟨o,0,[],0⟩
def a2r : Row := (L2 s169 s1)
def a5W : AV := (.bu (L4 (uf sQ sR iL tf tg iq s5 jd (.ms 0 0 32 1) (.ms 2 0 1 2) (.ms 3 0 1 6) (i3 6)) bP s1 s1) 4)
def a3F : Hp := ⟨(n s158 (n s163 (n (.row true false 6 6 s170) o o) o) u6),4,[],0⟩
def a2C : Row := (L1 s171)
def a6c : AV := s1
def a3Q : Hp := ⟨o,0,[],0⟩
def a2s : Row := (L2 s171 s1)
def a5X : AV := (.bu (L4 (uf sQ sR iL tf tg iq s5 jd (.ms 0 0 32 1) (.ms 2 0 1 2) (.ms 3 0 1 6) (i3 7)) bP s1 s1) 4)
def a3G : Hp := ⟨(n s158 (n (.row true false 1 152 s173) (n (.row true false 6 6 s174) o o) o) u6),4,[],0⟩
def a2D : Row := (L1 s175)
def a6d : AV := s1
def a3R : Hp := ⟨o,0,[],0⟩
def a2t : Row := (L2 s175 s1)
def a5Y : AV := (.bu (L4 (uf sQ sR iL tf tg iq s5 jd (.ms 0 0 48 1) (.ms 2 0 1 2) (.ms 3 0 1 6) (i3 8)) bP s1 s1) 4)
def a3H : Hp := ⟨(n (.row true false 1 48 s177) (n (.row true false 1 152 s180) (n (.row true false 6 6 s181) o o) o) u6),4,[],0⟩
def a2E : Row := (L1 s182)
def a6e : AV := s1
def a3S : Hp := ⟨o,0,[],0⟩
def a2u : Row := (L2 s182 s1)
def a5Z : AV := (.bu (L4 (uf sQ sR iL tf tg iq s5 jd (.ms 0 0 72 1) (.ms 2 0 1 2) (.ms 3 0 1 6) (i3 9)) bP s1 s1) 4)
def a3I : Hp := ⟨(n s185 (n (.row true false 1 152 s188) (n (.row true false 6 6 s189) o o) o) u6),4,[],0⟩
def a2F : Row := (L1 s191)
def a6f : AV := s1
def a3T : Hp := ⟨o,0,[],0⟩
def a2v : Row := (L2 s191 s1)
def a61 : AV := (.bu (L4 (uf sQ sR iL tf tg iq s5 jd (.ms 0 0 72 1) (.ms 2 0 1 2) (.ms 3 0 1 6) (i3 10)) bP s1 s1) 4)
def a3J : Hp := ⟨(n s185 (n s193 (n (.row true false 6 6 s194) o o) o) u6),4,[],0⟩
def a2G : Row := (L1 s196)
def a6g : AV := s1
def a3U : Hp := ⟨o,0,[],0⟩
def a2w : Row := (L2 s196 s1)
def a62 : AV := (.bu (L4 (uf sQ sR iL tf tg iq s5 jd (.ms 0 0 72 1) (.ms 2 0 1 2) (.ms 3 0 1 6) (i3 11)) bP s1 s1) 4)
def a3K : Hp := ⟨(n s185 (n s193 (n (.row true false 6 6 s197) o o) o) u6),4,[],0⟩
def a2H : Row := (L1 s198)
def a6h : AV := s1
def a3V : Hp := ⟨o,0,[],0⟩
def a2x : Row := (L2 s198 s1)
def a65 : AV := (.bu (L4 (uf sQ sR iL tf tg iq s5 jd (.ms 0 0 128 1) (.ms 2 0 1 2) (.ms 3 0 1 6) (i3 12)) s0 s1 s1) 4)
def a3L : Hp := ⟨(n (.row true false 1 128 s202) (n s193 (n (.row true false 6 6 s203) o o) o) u6),4,[],0⟩
def a2I : Row := (L1 (uf sQ sR iL tf tg iq s5 jd (.vs s202 0 128 1) s195 (.vs s203 0 1 6) (i3 12)))
def a6i : AV := s1
def a3W : Hp := ⟨o,0,[],0⟩
def a2y : Row := (L2 s140 s1)
def a68 : AV := s142
def a3M : Hp := ⟨(n s143 (n (.row true false 1 152 s145) (n (.row true false 6 6 s146) o o) o) u6),4,[],0⟩
def a2n : Row := (L2 s122 (G5 (.vs s115 0 20 1) tf tg iq s5))
def a5S : AV := (.bu (L3 (.ms 0 0 12 7) (G3 s0 s1 (i3 12)) s1) 3)
def a3B : Hp := ⟨(n (.row true true 7 84 (n (G7 s1 s1 s1 s1 s3 s9 bP) (n (G7 s9 s1 s1 s9 s6 s9 bP) (n (G7 (i3 3) s1 s1 (i3 3) (i4 15) s9 bP) (L1 (G7 (i3 7) s1 s1 (i3 7) (i4 18) s9 bP)) (L1 (G7 (i3 11) s1 s1 (i3 11) (i4 28) s9 s0))) (n (G7 (i3 5) s1 s1 (i3 5) s4 s9 bP) (L1 (G7 (i3 9) s1 s1 (i3 9) (i4 12) s9 bP)) o)) (n (G7 (i3 2) s1 s1 (i3 2) s0 s9 bP) (n (G7 s5 s1 s1 s5 s4 s9 bP) (L1 (G7 (i3 8) s1 s1 (i3 8) (i4 15) s9 bP)) o) (n (G7 (i3 6) s1 s1 (i3 6) s3 s9 bP) (L1 (G7 (i3 10) s1 s1 (i3 10) s28 s9 bP)) o)))) o o),1,[],0⟩
end
end Go.Proofs.YtpiokjcbadfalaaGreatDoor.Tz
namespace Go.Proofs.YtpiokjcbadfalaaGreatDoor.Tz
noncomputable section
def aou : Cx := kC [] [0,2,6,5,3,4,12,9,10,11] 106 72
def agp : aF := aV aou
def agq : aF := atoF 258
def aof : Cx := kC [(23,r25),(28,r37),(72,agp),(73,agq)] [0,1,4,19,18,17,30,29,28,12,8,11,5,10,9,14] 71 48
def alo : aF := aV aof
def aog : Cx := kC [] [0,2] 39 49
def alp : aF := aV aog
def aqP : Cx := kC [] [0,2,21,20,19] 47 278
def aar : aF := aV aqP
def aqS : Cx := kC [] [0,1,4] 12 281
def an0 : aF := aV aqS
def aox : Cx := kC [] [0,1,2,6] 15 78
def agr : aF := aV aox
def aoz : Cx := kC [(78,agr)] [0,2] 6 80
def alC : aF := aV aoz
def ar1 : Cx := kC [] [0,1,4,8,7] 19 306
def an8 : aF := aV ar1
def aqI : Cx := kC [(306,an8)] [0,1,4] 9 270
def amR : aF := aV aqI
def aq5 : Cx := kC [(270,amR)] [0,1,2,6] 20 209
def aao : aF := aV aq5
def aq4 : Cx := kC [(209,aao)] [0,1,3] 9 208
def amq : aF := aV aq4
def ar4 : Cx := kC [] [0,2] 5 309
def anb : aF := aV ar4
def ap5 : Cx := kC [(80,alC),(208,amq),(309,anb)] [0,1,4,8,7] 19 125
def alQ : aF := aV ap5
def aoy : Cx := kC [(125,alQ)] [0,1,4] 9 79
def aa8 : aF := aV aoy
def aqT : Cx := kC [(79,aa8)] [0,2] 6 282
def an1 : aF := aV aqT
def aqn : Cx := kC [(278,aar),(281,an0),(282,an1)] [0,1,4,16,5,15,29,6,74,73,72,7,9] 118 230
def amA : aF := aV aqn
def aqo : Cx := kC [] [0,2,13,20,19,18,3,4,6,61,60,59,7,5] 82 231
def amB : aF := aV aqo
def apE : Cx := kC [(230,amA),(231,amB)] [0,2,11,10,22,21,20] 29 168
def aak : aF := aV apE
def apG : Cx := kC [] [0,1,4,5,17,16,15,6,7] 68 170
def agG : aF := aV apG
def apF : Cx := kC [(170,agG)] [0,2,12,11,10,3,25,4,18,5] 77 169
def agF : aF := aV apF
def apa : Cx := kC [(168,aak),(169,agF)] [0,1,4,5,7] 30 131
def alT : aF := aV apa
def aoL : Cx := kC [(131,alT)] [0,1,4,5,6,7] 27 94
def a5k : aF := aV aoL
def aqg : Cx := kC [] [0,2] 9 223
def agP : aF := aV aqg
def aqE : Cx := kC [] [0,1,4,35,34,33,5,7] 55 260
def amO : aF := aV aqE
def apR : Cx := kC [(223,agP),(260,amO)] [0,1,4] 15 186
def aal : aF := aV apR
def aqK : Cx := kC [] [0,1,2] 7 273
def amT : aF := aV aqK
def aqL : Cx := kC [] [0] 2 274
def amU : aF := aV aqL
def aqM : Cx := kC [] [0] 2 275
def amV : aF := aV aqM
def aqN : Cx := kC [] [0,2] 6 276
def amW : aF := aV aqN
def aqO : Cx := kC [] [0] 2 277
def amX : aF := aV aqO
def aqe : Cx := kC [(273,amT),(274,amU),(275,amV),(276,amW),(277,amX)] [0,2,3,7,6,16,19,27,46,52,4] 147 221
def aap : aF := aV aqe
def aqf : Cx := kC [] [0,2] 10 222
def aaq : aF := aV aqf
def aqd : Cx := kC [(221,aap),(222,aaq)] [0,2,1,17,16,3] 36 220
def a5m : aF := aV aqd
def ar3 : Cx := kC [] [0,1,3] 9 308
def ana : aF := aV ar3
def ar9 : Cx := kC [(308,ana)] [0,1,4,8,7] 19 318
def anh : aF := aV ar9
def ar2 : Cx := kC [(318,anh)] [0,1,4] 9 307
def an9 : aF := aV ar2
def aqQ : Cx := kC [(278,aar),(307,an9)] [0,2,7,6,5] 24 279
def amY : aF := aV aqQ
def aqh : Cx := kC [(186,aal),(220,a5m),(278,aar),(279,amY)] [0,1,4,3,53,52,51,71,70,69] 95 224
def amx : aF := aV aqh
def apz : Cx := kC [(94,a5k),(168,aak),(224,amx)] [0,2,1,37,36,54,53,52,66,65,64,9,11] 85 163
def am9 : aF := aV apz
def aqR : Cx := kC [] [0,1] 7 280
def amZ : aF := aV aqR
def aqj : Cx := kC [(280,amZ)] [0,2,4,3] 20 226
def a5n : aF := aV aqj
def apB : Cx := kC [(226,a5n)] [0,1] 15 165
def a0l : aF := aV apB
def apC : Cx := kC [(165,a0l)] [0,1] 17 166
def aaj : aF := aV apC
def aqi : Cx := kC [(165,a0l),(166,aaj)] [0,1,12,11,10] 25 225
def agQ : aF := aV aqi
def apA : Cx := kC [(165,a0l),(225,agQ)] [0,1,12,11,10,29,5,28] 53 164
def ama : aF := aV apA
def aqk : Cx := kC [(226,a5n)] [0,2] 11 227
def agR : aF := aV aqk
def aql : Cx := kC [(220,a5m),(221,aap),(222,aaq),(226,a5n),(227,agR)] [0,2,3,1,26,25,6,5,7] 51 228
def amy : aF := aV aql
def aqm : Cx := kC [(186,aal),(226,a5n)] [0,1,4,5,23,22,21,7,8] 44 229
def amz : aF := aV aqm
def apD : Cx := kC [(165,a0l),(166,aaj),(225,agQ),(227,agR),(228,amy),(229,amz)] [0,1,4,44,43,42,7,3,72,71,70,11] 97 167
def amb : aF := aV apD
def ap8 : Cx := kC [(163,am9),(164,ama),(165,a0l),(166,aaj),(167,amb)] [0,2,3,1,23,22,21,4,37,36,35] 53 129
def aa2 : aF := aV ap8
def aa3 : aF := cD a8L aaS a9o aa2
def alS : aF := cD a8M aaT a9p aa3
def aoI : Cx := kC [(129,alS)] [0,2] 11 91
def uT : aF := aV aoI
def ap0 : Cx := kC [] [0,1,4] 13 120
def alM : aF := aV ap0
def apW : Cx := kC [(220,a5m)] [0,2,25,24,23,5,3] 53 200
def aan : aF := aV apW
def apY : Cx := kC [] [0,1,2,5] 16 202
def amn : aF := aV apY
def aqc : Cx := kC [] [0,1,2,3,4,5,8,9] 60 219
def amw : aF := aV aqc
def ard : Cx := kC [] [0,2] 6 334
def ank : aF := aV ard
def arc : Cx := kC [(334,ank)] [0,1,4] 17 325
def anj : aF := aV arc
def ara : Cx := kC [(325,anj)] [0,1,2,6,7] 49 319
def ani : aF := aV ara
def ar7 : Cx := kC [(319,ani)] [0,1,2,3,8,9,12,11,10] 134 316
def anf : aF := aV ar7
def aqG : Cx := kC [] [0,2] 25 265
def amQ : aF := aV aqG
def ar8 : Cx := kC [(265,amQ)] [0,2] 8 317
def ang : aF := aV ar8
def aqZ : Cx := kC [(316,anf),(317,ang)] [0] 11 304
def an6 : aF := aV aqZ
def ar0 : Cx := kC [] [0,2,3,5,4] 61 305
def an7 : aF := aV ar0
def aqH : Cx := kC [(304,an6),(305,an7)] [0,1,4,13,12,5] 36 269
def agU : aF := aV aqH
def apX : Cx := kC [(202,amn),(219,amw),(269,agU)] [0,1,4,29,28,27,5] 42 201
def agK : aF := aV apX
def apn : Cx := kC [(200,aan),(201,agK)] [0,2,3] 23 153
def am1 : aF := aV apn
def apu : Cx := kC [(220,a5m),(221,aap),(222,aaq)] [0,2,3,4,1,23,22,6,8,9] 54 158
def aah : aF := aV apu
def apZ : Cx := kC [] [0,1,4] 13 203
def agL : aF := aV apZ
def aq0 : Cx := kC [] [0,2,9,1] 14 204
def agM : aF := aV aq0
def aq1 : Cx := kC [] [0,1,4] 13 205
def amo : aF := aV aq1
def apo : Cx := kC [(158,aah),(203,agL),(204,agM),(205,amo)] [0,1,4,5,6,24,23,22,2,3] 57 154
def am2 : aF := aV apo
def aq2 : Cx := kC [(203,agL)] [0,1,4,2] 18 206
def agN : aF := aV aq2
def aq3 : Cx := kC [(79,aa8)] [0,1,3] 8 207
def amp : aF := aV aq3
def aq6 : Cx := kC [(209,aao)] [0,1,3] 8 210
def amr : aF := aV aq6
def apq : Cx := kC [(206,agN),(207,amp),(209,aao),(210,amr)] [0,1,4,26,8,5,25,2,39,9,6,50,7,3,202,220] 244 155
def am3 : aF := aV apq
def aoM : Cx := kC [] [0,2,3] 13 95
def agu : aF := aV aoM
def aqa : Cx := kC [(94,a5k),(95,agu)] [0,1,4,5,14,13,12,2,9,6] 43 217
def agO : aF := aV aqa
def aqJ : Cx := kC [] [0,2] 9 272
def amS : aF := aV aqJ
def aq7 : Cx := kC [(204,agM),(206,agN),(217,agO),(272,amS)] [0,1,2,6,7,4,3,10,47,46,45,9] 77 214
def ams : aF := aV aq7
def aq8 : Cx := kC [(200,aan),(269,agU)] [0,1,4,5] 23 215
def amt : aF := aV aq8
def aq9 : Cx := kC [] [0,1,4,13,12] 26 216
def amu : aF := aV aq9
def aps : Cx := kC [(214,ams),(215,amt),(216,amu),(217,agO)] [0,2,3,7,1,4,5,11,73,72,71,6,9,108,107,106,15,16,18] 136 156
def am4 : aF := aV aps
def aqb : Cx := kC [] [0,2,8,7,6,3] 18 218
def amv : aF := aV aqb
def apt : Cx := kC [(158,aah),(200,aan),(201,agK),(218,amv)] [0,1,2,6,7,4,42,41,40,9,10,13,12] 87 157
def am5 : aF := aV apt
def apv : Cx := kC [(223,agP)] [0,2,3,15,14,5,6] 43 159
def am6 : aF := aV apv
def ap1 : Cx := kC [(153,am1),(154,am2),(155,am3),(156,am4),(157,am5),(158,aah),(159,am6)] [0,1,4,5,6,57,56,55,7,111,110,109,124,123,122,18,13,14,11,21] 162 121
def agA : aF := aV ap1
def ap2 : Cx := kC [] [0,2] 8 122
def alN : aF := aV ap2
def ap3 : Cx := kC [] [0,2] 8 123
def alO : aF := aV ap3
def aov : Cx := kC [(91,uT),(120,alM),(121,agA),(122,alN),(123,alO)] [0,1,4,5,2,7] 50 76
def alA : aF := aV aov
def aoh : Cx := kC [(76,alA)] [0,2,3,15,14,1,4,5,6] 36 50
def alq : aF := aV aoh
def aoi : Cx := kC [(72,agp),(73,agq)] [0,1,2,3,4,10,13,12,11] 55 51
def alr : aF := aV aoi
def aoa : Cx := kC [(48,alo),(49,alp),(50,alq),(51,alr)] [0,2,3,14,13,12,4] 64 30
def alj : aF := aV aoa
def ao8 : Cx := kC [(30,alj)] [0,2,3,4,7,8,6,5] 53 12
def agh : aF := aV ao8
def alh : aF := cD a8D aaK a9g agh
def ap4 : Cx := kC [] [0,1,4,13,12] 26 124
def alP : aF := aV ap4
def aow : Cx := kC [(91,uT),(121,agA),(124,alP)] [0,2,3,4,1,17,16,15,8,6] 55 77
def alB : aF := aV aow
def aoj : Cx := kC [(77,alB)] [0,2] 13 52
def agj : aF := aV aoj
def aa5 : aF := cD a8E aaL a9h agj
def aok : Cx := kC [(78,agr),(79,aa8)] [0,2] 38 53
def a0i : aF := aV aok
def adv : Cx := kC [] [0,1,2] 6 86
def aab : aF := aV adv
def aoE : Cx := kC [] [0] 2 87
def alE : aF := aV aoE
def aoF : Cx := kC [] [0,1,4] 27 88
def ags : aF := aV aoF
def apc : Cx := kC [(88,ags)] [0,1,4,5,2] 21 133
def a5l : aF := aV apc
def apw : Cx := kC [] [0,2] 8 160
def am7 : aF := aV apw
def aqF : Cx := kC [] [0,2] 14 261
def amP : aF := aV aqF
def apU : Cx := kC [(261,amP)] [0,2] 13 189
def aam : aF := aV apU
def apx : Cx := kC [(189,aam)] [0,1,4,5,2] 31 161
def am8 : aF := aV apx
def ap6 : Cx := kC [(133,a5l),(160,am7),(161,am8)] [0,1,2,6,7,8,9,3] 54 127
def aaf : aF := aV ap6
def aoB : Cx := kC [] [0,2] 8 82
def a0j : aF := aV aoB
def apy : Cx := kC [] [0,1,2,6,7,3] 37 162
def aai : aF := aV apy
def apk : Cx := kC [(162,aai),(189,aam)] [0,1,2,6,7,3] 26 141
def aag : aF := aV apk
def ap7 : Cx := kC [(82,a0j),(141,aag),(162,aai)] [0,1,2,6,7,8,3] 46 128
def alR : aF := aV ap7
def aoG : Cx := kC [(127,aaf),(128,alR)] [0,1,2,6,7,8,9,10] 35 89
def alF : aF := aV aoG
def adt : Cx := kC [(86,aab),(87,alE),(88,ags),(89,alF)] [0,1,4,5,6,29,28,27,41,40,39,11] 66 55
def aa6 : aF := fnSE adt aab
def aoH : Cx := kC [] [0,2] 32 90
def aac : aF := aV aoH
def aoJ : Cx := kC [] [0,1,4] 14 92
def agt : aF := aV aoJ
def ap9 : Cx := kC [(168,aak),(169,agF),(170,agG)] [0,1,4,5,6,7,27,26,25,44,43,42,9] 67 130
def agB : aF := aV ap9
def aoK : Cx := kC [(95,agu),(130,agB)] [0,1,4,5] 31 93
def aad : aF := aV aoK
def apb : Cx := kC [] [0,1,4] 27 132
def alU : aF := aV apb
def aoN : Cx := kC [(132,alU)] [0,2,11,10,9,3,27,26,25,6] 36 96
def alG : aF := aV aoN
def aom : Cx := kC [(90,aac),(91,uT),(92,agt),(93,aad),(96,alG)] [0,1,2,3,4,5,6,7,16,17,18,9,84,83,88,23,24,25,118,117,116,21,27,29,32,8] 186 56
def alu : aF := aV aom
def aon : Cx := kC [(91,uT)] [0,1,2,6,7,3] 45 57
def alv : aF := aV aon
def aoc : Cx := kC [(52,aa5),(53,a0i),(55,aa6),(56,alu),(57,alv)] [0,1,4,5,3,2,10,7] 74 32
def agl : aF := aV aoc
def aoU : Cx := kC [(91,uT)] [0,1,4,5,6,2,8] 45 103
def aae : aF := aV aoU
def apT : Cx := kC [] [0,1,2,4] 12 188
def amm : aF := aV apT
def apS : Cx := kC [(188,amm)] [0,1,4,5,6] 26 187
def aml : aF := aV apS
def apj : Cx := kC [(186,aal),(187,aml)] [0,1,2,6,7,5,3] 33 140
def alZ : aF := aV apj
def aoV : Cx := kC [(93,aad),(103,aae),(140,alZ)] [0,1,4,5,2,6,7,10,11] 62 104
def agy : aF := aV aoV
def apV : Cx := kC [(162,aai),(189,aam)] [0,1,2,6,7,3,9] 32 190
def agI : aF := aV apV
def apl : Cx := kC [(190,agI)] [0,1,2,6,7,11,10,3,8] 40 142
def agE : aF := aV apl
def aoW : Cx := kC [(90,aac),(92,agt),(141,aag),(142,agE)] [0,1,4,5,6,7,2] 56 105
def alJ : aF := aV aoW
def aor : Cx := kC [(90,aac),(91,uT),(103,aae),(104,agy),(105,alJ)] [0,1,2,6,7,3,4,10,16,12,17,13,14,11,19,20,18] 114 61
def aa7 : aF := aV aor
def aqp : Cx := kC [] [0,2] 7 232
def amC : aF := aV aqp
def aqq : Cx := kC [] [0,2] 9 233
def amD : aF := aV aqq
def aqr : Cx := kC [] [0,2] 14 234
def amE : aF := aV aqr
def apH : Cx := kC [(232,amC),(233,amD),(234,amE)] [0,1,4,3] 65 171
def amc : aF := aV apH
def apd : Cx := kC [(171,amc)] [0,2,15,14,13] 25 134
def agC : aF := aV apd
def apI : Cx := kC [] [0,1,4] 10 172
def amd : aF := aV apI
def ape : Cx := kC [(172,amd)] [0,1,4] 18 135
def alV : aF := aV ape
def aoO : Cx := kC [(52,aa5),(53,a0i),(55,aa6),(61,aa7),(133,a5l),(134,agC),(135,alV)] [0,2,1,102,101,100,10,9] 162 97
def jC : aF := aV aoO
def a9Y : aF := cD a8H aaO a9k jC
def a9Z : aF := cD a8I aaP a9l a9Y
def aa0 : aF := cD a8J aaQ a9m a9Z
def aa1 : aF := cD a8K aaR a9n aa0
def a5a : aF := cD a2z a69 a3N aa1
def a5b : aF := cD a2A a6a a3O a5a
def a5c : aF := cD a2B a6b a3P a5b
def a5d : aF := cD a2C a6c a3Q a5c
def a5e : aF := cD a2D a6d a3R a5d
def a5f : aF := cD a2E a6e a3S a5e
def a5g : aF := cD a2F a6f a3T a5f
def a5h : aF := cD a2G a6g a3U a5g
def a5i : aF := cD a2H a6h a3V a5h
def a0k : aF := cD a2I a6i a3W a5i
def aoP : Cx := kC [(134,agC)] [0,2,3,15,14,13,5] 29 98
def agv : aF := aV aoP
def aoo : Cx := kC [(97,a0k),(98,agv)] [0,1,4,5,2,7] 36 58
def agm : aF := aV aoo
def aoS : Cx := kC [(98,agv)] [0,2] 22 101
def alH : aF := aV aoS
def aoQ : Cx := kC [(97,a0k)] [0,1,4,2] 29 99
def agw : aF := aV aoQ
def aoC : Cx := kC [] [0,2] 8 83
def aa9 : aF := aV aoC
def aoD : Cx := kC [] [0,2] 8 84
def aaa : aF := aV aoD
def apf : Cx := kC [(82,a0j),(83,aa9),(84,aaa)] [0,2,17,16,1] 38 136
def alW : aF := aV apf
def aoR : Cx := kC [(61,aa7),(136,alW)] [0,1,4] 46 100
def agx : aF := aV aoR
def apg : Cx := kC [] [0,2,4] 17 137
def agD : aF := aV apg
def apJ : Cx := kC [(82,a0j),(83,aa9),(84,aaa),(103,aae),(104,agy),(130,agB)] [0,1,4,22,21,2] 112 173
def ame : aF := aV apJ
def aqy : Cx := kC [(94,a5k)] [0,1,4] 21 242
def agT : aF := aV aqy
def aqs : Cx := kC [(242,agT)] [0,1,4] 53 235
def a0m : aF := aV aqs
def apK : Cx := kC [(235,a0m)] [0,1,4] 31 174
def amf : aF := aV apK
def aqu : Cx := kC [(235,a0m)] [0,1,2,15,14,13,20,6,7,8] 36 237
def agS : aF := aV aqu
def aqv : Cx := kC [(55,aa6)] [0,1,4] 23 238
def amG : aF := aV aqv
def aqw : Cx := kC [(235,a0m)] [0,1,2] 15 239
def amH : aF := aV aqw
def apL : Cx := kC [(235,a0m),(237,agS),(238,amG),(239,amH)] [0,1,4,9,3,26,6,5] 162 175
def amg : aF := aV apL
def aqt : Cx := kC [(235,a0m)] [0,1,2,6,20,19,18,7] 34 236
def amF : aF := aV aqt
def aqx : Cx := kC [(127,aaf),(237,agS)] [0,1,2,3,8,9,10] 45 241
def amI : aF := aV aqx
def aqz : Cx := kC [] [0,1,4] 30 243
def amJ : aF := aV aqz
def apM : Cx := kC [(236,amF),(241,amI),(242,agT),(243,amJ)] [0,1,4,5,3,7] 206 176
def amh : aF := aV apM
def apN : Cx := kC [] [0,1,4,5,6,7,8,14,3,16,15] 211 177
def ami : aF := aV apN
def aph : Cx := kC [(97,a0k),(137,agD),(173,ame),(174,amf),(175,amg),(176,amh),(177,ami)] [0,1,4,5,6,2,8,9,12,11,10] 147 138
def alX : aF := aV aph
def apP : Cx := kC [] [0,2] 13 181
def agH : aF := aV apP
def aqX : Cx := kC [(82,a0j),(190,agI)] [0,1,2,3,8,9,11,4,39,38,10] 55 297
def an4 : aF := aV aqX
def aqU : Cx := kC [(297,an4)] [0,1,2,6,24,23,3] 41 286
def an2 : aF := aV aqU
def aqV : Cx := kC [] [0,2,1,3] 95 290
def agV : aF := aV aqV
def aqA : Cx := kC [(127,aaf),(133,a5l),(286,an2),(290,agV)] [0,1,2,6,7,8,4,3,11,12] 44 249
def amK : aF := aV aqA
def ar5 : Cx := kC [(133,a5l)] [0,2] 11 310
def anc : aF := aV ar5
def ar6 : Cx := kC [(141,aag),(310,anc)] [0,1,4,2] 26 311
def ane : aF := aV ar6
def aqW : Cx := kC [(142,agE),(290,agV),(311,ane)] [0,1,4,5,17,2,7,9] 53 291
def an3 : aF := aV aqW
def aqB : Cx := kC [(181,agH),(291,an3)] [0,2,4,6,3,7,8] 114 251
def amL : aF := aV aqB
def apO : Cx := kC [(181,agH),(249,amK),(251,amL)] [0,1,4,7,5,6] 49 178
def amj : aF := aV apO
def aqC : Cx := kC [] [0,2,5,3] 20 254
def amM : aF := aV aqC
def aqY : Cx := kC [(91,uT),(93,aad)] [0,1,2,6,7,8,3] 62 301
def an5 : aF := aV aqY
def aqD : Cx := kC [(94,a5k),(301,an5)] [0,1,2,6,7,8] 60 259
def amN : aF := aV aqD
def apQ : Cx := kC [(254,amM),(259,amN)] [0,2,6] 73 185
def amk : aF := aV apQ
def api : Cx := kC [(178,amj),(185,amk)] [0,1,4] 61 139
def alY : aF := aV api
def aoT : Cx := kC [(99,agw),(100,agx),(137,agD),(138,alX),(139,alY)] [0,1,4,5,6,2,11,8,9,13] 98 102
def alI : aF := aV aoT
def aoq : Cx := kC [(53,a0i),(58,agm),(97,a0k),(101,alH),(102,alI)] [0,1,4,5,6,7,2,47,46,9,13,14,11] 89 60
def kI : aF := aV aoq
def a9W : aF := cD a8F aaM a9i kI
def a9X : aF := cD a8G aaN a9j a9W
def a4U : aF := cD a2o a5T a3C a9X
def a4V : aF := cD a2p a5U a3D a4U
def a4W : aF := cD a2q a5V a3E a4V
def a4X : aF := cD a2r a5W a3F a4W
def a4Y : aF := cD a2s a5X a3G a4X
def a4Z : aF := cD a2t a5Y a3H a4Y
def a50 : aF := cD a2u a5Z a3I a4Z
def a52 : aF := cD a2v a61 a3J a50
def a56 : aF := cD a2w a62 a3K a52
def a57 : aF := cD a2x a65 a3L a56
def agn : aF := cD a2y a68 a3M a57
def aoA : Cx := kC [(97,a0k)] [0,2] 5 81
def alD : aF := aV aoA
def aol : Cx := kC [(53,a0i),(60,agn),(81,alD),(82,a0j),(83,aa9),(84,aaa)] [0,1,4,5,6,2,47,46,65,64,63,13,11,9,12] 110 54
def als : aF := aV aol
def aob : Cx := kC [(32,agl),(52,aa5),(53,a0i),(54,als)] [0,1,4,5,6,3,2,9] 44 31
def alk : aF := aV aob
def aop : Cx := kC [(99,agw),(100,agx)] [0,1,4,5,2] 20 59
def alw : aF := aV aop
def aod : Cx := kC [(58,agm),(59,alw),(60,agn),(61,aa7)] [0,1,4,5,6,2,7,9,11,10,15,13] 105 33
def alm : aF := aV aod
def ao9 : Cx := kC [(31,alk),(32,agl),(33,alm)] [0,1,4,5,6,2,3,8,45,44,43,10,11,14,15] 68 13
def agi : aF := aV ao9
def ali : aF := cD a2n a5S a3B agi
def ao7 : Cx := kC [(8,r9),(10,r39),(12,alh),(13,ali)] [0] 81 4
def a5j : aF := aV ao7
def gA : Cx := kC [(4,a5j),(5,r4),(6,r5),(7,r7),(8,r9),(9,r11),(10,r39),(11,r15)] [0,1,2,3,8,10,4,11,6,9,22,23] 156 3
def aa4 : aF := aV gA
end
end Go.Proofs.YtpiokjcbadfalaaGreatDoor.Tz
