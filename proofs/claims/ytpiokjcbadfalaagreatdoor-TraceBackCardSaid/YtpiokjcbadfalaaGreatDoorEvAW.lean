import Derived.Test.YtpiokjcbadfalaaGreatDoorEvAP
import Derived.Test.YtpiokjcbadfalaaGreatDoorEvAQ
import Derived.Test.YtpiokjcbadfalaaGreatDoorEvAR
import Derived.Test.YtpiokjcbadfalaaGreatDoorEvAS
import Derived.Test.YtpiokjcbadfalaaGreatDoorEvAT
import Derived.Test.YtpiokjcbadfalaaGreatDoorEvAU
import Derived.Test.YtpiokjcbadfalaaGreatDoorEvAV
open Go Go.Proofs.YtpiokjcbadfalaaGreatDoor.Ev
namespace Go.Proofs.YtpiokjcbadfalaaGreatDoor.Tz
attribute [local irreducible] mem
set_option linter.unusedSimpArgs false
attribute [local congr] dh aP bB dm dj bj dp cj aW cx cy cA bf bC bD aX eN cq cg cu bh bg aQ aS eO bF cn bx bH bE bz cz ck bd bI di bA bG bJ cP ek
set_option maxHeartbeats 4000000
theorem cB.a1V {m : cW} (h : cB m) (i : Nat) (hi : i < m.n) (hp : Hp) (k : Nat → ab) : dX mem 1 (m.sl i) hp k = k (m.ns i) := (h.sl i hi).len hp k
theorem cB.akm {m : cW} (h : cB m) (i : Nat) (a : Int) (k : AV → ab) (hi : i < m.n ∧ 0 ≤ a ∧ a < m.ns i) : indexAddr 2 (m.sl i) (I a) k = k (.x 1 (m.lt i) (eo 2 a.toNat 0) 2 2) := (h.sl i hi.1).idx a k hi.2.1 hi.2.2
theorem cB.avf {m : cW} (h : cB m) (i j f q : Nat) (hp : Hp) (k : AV → ab) (hi : i < m.n ∧ j < m.ns i ∧ j < 16777215) (hf : f < 2 ∧ 1 ≤ q) : aI mem false 1 (.x 1 (m.lt i) (eo 2 j f) q 2) hp k = k ((m.slot i j).getD f .uu) := ldx1 (h.sr i hi.1) hi.2 (by omega) k
theorem ajw {m : cW} (h : cB m) {i k : Nat} {x2 : AV} {q : Bool} {hp : Hp} {c : Nat} (hi : i < m.n) (hk : k < m.ns i) (hks : m.ns i ≤ 30) (hc : c < 16777215) (hB : hp.at c = Bx q (m.fn i)) :
    (cO).run .lf (.n m.av (.bool false) x2 (.ptr 0 0) (I k) (.ptr c 0) .uu .uu .e) hp = if 40 < (m.sn i k).length then .ret (.n m.av (.bool true) x2 (.ptr 0 0) (I k) (.ptr c 0) .uu .uu .e) hp else .ok (.n m.av (.bool false) x2 (.ptr 0 0) (I ((k : Int) + 1)) (.ptr c 0) .uu .uu .e) hp := by
  have hlt : (k : Int) < m.ns i := by omega
  have hsn := h.sn i k hi hk
  rw [a3w] at hB
  generalize hr : (cO).run .lf (.n m.av (.bool false) x2 (.ptr 0 0) (I k) (.ptr c 0) .uu .uu .e) hp = r
  simp +contextual (maxSteps := 2000000) (disch := (first | omega | (simp only [Y2,List.length_drop,List.length_take] <;> omega) | ((repeat' (first | exact aw | apply aq | apply ay | refine ax (by omega) ?_ ?_)) <;> (simp (disch := (first | omega | (simp only [Y5] <;> omega))) only [Y4,nd @aD,nd @aE,aj,Nat.reduceAdd,Nat.reduceEqDiff,reduceIte, *])) | (simp (disch := omega) only [Y4,nd @aD,nd @aE,aj,Nat.reduceAdd,Nat.reduceEqDiff,reduceIte]; done) | assumption | exact bL _ | exact bY _ | exact bX _ | exact bZ _ | exact True.intro | rfl)) only [Y1,Y3,jx,mS,lz,mT,Int.reduceLT,Int.reduceLE,Int.reduceEq,Int.reduceNeg,Int.reduceToNat,Nat.reduceAdd,Nat.reduceEqDiff,reduceIte,Nat.reduceLeDiff,Nat.reduceSub,hB,h.a1V,h.akm,h.avf,akn] at hr
  rw [← hr,if_pos hlt]
  by_cases h4 : 40 < (m.sn i k).length
  · rw [if_pos (by omega),if_pos h4]
  · rw [if_neg (by omega),if_neg h4]
theorem aeB {m : cW} (h : cB m) {i : Nat} {x2 : AV} {q : Bool} {hp : Hp} {c : Nat} (hi : i < m.n) (hc : c < 16777215) (hB : hp.at c = Bx q (m.fn i)) (hks : m.ns i ≤ 30) :
    (cO).run .lf (.n m.av (.bool false) x2 (.ptr 0 0) (I (m.ns i)) (.ptr c 0) .uu .uu .e) hp = .exit 4 (.n m.av (.bool false) x2 (.ptr 0 0) (I (m.ns i)) (.ptr c 0) .uu .uu .e) hp := by
  rw [a3w] at hB
  generalize hr : (cO).run .lf (.n m.av (.bool false) x2 (.ptr 0 0) (I (m.ns i)) (.ptr c 0) .uu .uu .e) hp = r
  simp +contextual (maxSteps := 2000000) (disch := (first | omega | (simp only [Y2,List.length_drop,List.length_take] <;> omega) | ((repeat' (first | exact aw | apply aq | apply ay | refine ax (by omega) ?_ ?_)) <;> (simp (disch := (first | omega | (simp only [Y5] <;> omega))) only [Y4,nd @aD,nd @aE,aj,Nat.reduceAdd,Nat.reduceEqDiff,reduceIte, *])) | (simp (disch := omega) only [Y4,nd @aD,nd @aE,aj,Nat.reduceAdd,Nat.reduceEqDiff,reduceIte]; done) | assumption | exact bL _ | exact bY _ | exact bX _ | exact bZ _ | exact True.intro | rfl)) only [Y1,Y3,jx,Int.reduceLT,Int.reduceLE,Int.reduceEq,Int.reduceNeg,Int.reduceToNat,Nat.reduceAdd,Nat.reduceEqDiff,reduceIte,Nat.reduceLeDiff,Nat.reduceSub,hB,h.a1V] at hr
  rw [← hr,if_neg (by omega)]
theorem ala {m : cW} (h : cB m) {i : Nat} {x2 : AV} {q : Bool} {hp : Hp} {c : Nat} (hi : i < m.n) (hc : c < 16777215) (hB : hp.at c = Bx q (m.fn i)) (hks : m.ns i ≤ 30) : ∀ (d k fuel : Nat),m.ns i - k = d → k ≤ m.ns i → d < fuel →
    (∃ z,du (b8 cO fuel (.n m.av (.bool false) x2 (.ptr 0 0) (I k) (.ptr c 0) .uu .uu .e) hp) = .ret (.n m.av (.bool true) x2 (.ptr 0 0) z (.ptr c 0) .uu .uu .e) hp) ∨
    (∃ z,du (b8 cO fuel (.n m.av (.bool false) x2 (.ptr 0 0) (I k) (.ptr c 0) .uu .uu .e) hp) = (jr).run .lf (.n m.av (.bool false) x2 (.ptr 0 0) z (.ptr c 0) .uu .uu .e) hp)
  | d,k,0,_,_,hfu=>absurd hfu (Nat.not_lt_zero _)
  | d,k,fuel + 1,hd,hk,hfu=>by
    by_cases hlt : k < m.ns i
    · have hb := ajw h (x2 := x2) hi hlt hks hc hB
      by_cases h4 : 40 < (m.sn i k).length
      · rw [if_pos h4] at hb
        exact .inl ⟨_,(congrArg du (lU hb)).trans (po _ _)⟩
      · rw [if_neg h4] at hb
        rw [gv hb]
        exact ala h hi hc hB hks (d - 1) (k + 1) fuel (by omega) (by omega) (by omega)
    · have hke : k = m.ns i := by omega
      subst hke
      exact .inr ⟨_,(congrArg du (fR (aeB h hi hc hB hks))).trans (qX _ _)⟩
theorem anX {m : cW} (h : cB m) {i : Nat} {x4 x5 : AV} {q : Bool} {hp : Hp} (hi : i < m.n) (h40 : i ≤ 40) (hpr : hp.pr = []) (hnx : 0 < hp.nx ∧ hp.nx ≤ 1 + i) (h0 : hp.at 0 = Bx q [m.ty,m.tx,m.fs]) :
    (∃ x4' x5' hp',(iY).run .lf (.n m.av (.bool false) (I i) (.ptr 0 0) x4 x5 .uu .uu .e) hp = .ret (.n m.av (.bool true) (I i) (.ptr 0 0) x4' x5' .uu .uu .e) hp') ∨
    (((m.nm i).length ≤ 40 ∧ m.nc i ≤ 300) ∧ ∃ x4' x5' hp',(hp'.pr = [] ∧ hp'.nx = hp.nx + 1 ∧ hp'.at 0 = hp.at 0) ∧ (iY).run .lf (.n m.av (.bool false) (I i) (.ptr 0 0) x4 x5 .uu .uu .e) hp = .ok (.n m.av (.bool false) (I ((i : Int) + 1)) (.ptr 0 0) x4' x5' .uu .uu .e) hp') := by
  have hlt : (i : Int) < m.n := by omega
  have h40' : (i : Int) ≤ 40 := by omega
  have hnm := h.nm i hi
  have hsl := (h.sl i hi).one
  have hcd := (h.cd i hi).one
  have hsz := h.sz i hi
  have s1 := (h.sl i hi).small
  have s2 := (h.cd i hi).small
  have s3 := h.fs.small
  generalize hr : (iY).run .lf (.n m.av (.bool false) (I i) (.ptr 0 0) x4 x5 .uu .uu .e) hp = r
  simp +contextual (maxSteps := 2000000) (disch := (first | omega | (simp only [Y2,List.length_drop,List.length_take] <;> omega) | ((repeat' (first | exact aw | apply aq | apply ay | refine ax (by omega) ?_ ?_)) <;> (simp (disch := (first | omega | (simp only [Y5] <;> omega))) only [Y4,nd @aD,nd @aE,aj,Nat.reduceAdd,Nat.reduceEqDiff,reduceIte, *])) | (simp (disch := omega) only [Y4,nd @aD,nd @aE,aj,Nat.reduceAdd,Nat.reduceEqDiff,reduceIte]; done) | assumption | exact bL _ | exact bY _ | exact bX _ | exact bZ _ | exact True.intro | rfl)) only [Y1,Y3,uo,wU,qv,pQ,Int.reduceLT,Int.reduceLE,Int.reduceEq,Int.reduceNeg,Int.reduceToNat,Nat.reduceAdd,Nat.reduceEqDiff,reduceIte,Nat.reduceLeDiff,Nat.reduceSub,h0,h.fs.len,h.fs.idx,a7I h.fr,a3w,h.a1V,h.a8Z] at hr
  rw [if_pos hlt,if_pos h40'] at hr
  by_cases c1 : 40 < (m.nm i).length
  · rw [if_pos (by omega)] at hr
    exact .inl ⟨_,_,_,hr.symm⟩
  rw [if_neg (by omega)] at hr
  by_cases c2 : 30 < m.ns i
  · rw [if_pos (by omega)] at hr
    exact .inl ⟨_,_,_,hr.symm⟩
  rw [if_neg (by omega)] at hr
  by_cases c3 : 300 < m.nc i
  · rw [if_pos (by omega)] at hr
    exact .inl ⟨_,_,_,hr.symm⟩
  rw [if_neg (by omega)] at hr
  generalize hH : (hp.add (Bx _ [S [],I 0,I 0,AV.x 8 Tr.lf 0 0 0,AV.x 8 Tr.lf 0 0 0,AV.x 8 Tr.lf 0 0 0,AV.x 8 Tr.lf 0 0 0])).eK hp.nx (Bx _ [S (m.nm i),I (m.pa i),I (m.re i),m.sl i,m.cd i,m.sz i,m.lv i]) = H at hr
  have hN : hp.nx < 16777215 := by omega
  have hHp : H.pr = [] := by subst hH; exact hpr
  have hHn : H.nx = hp.nx + 1 := by subst hH; rfl
  have hH0 : H.at 0 = hp.at 0 := by subst hH; rw [kL hN (by omega),fE hN (by omega)]
  have hHB : ∃ q,H.at hp.nx = Bx q (m.fn i) := by subst hH; exact ⟨_,jh hN⟩
  obtain ⟨q2,hHB⟩ := hHB
  rcases ala h (x2 := I i) hi hN hHB (by omega) (m.ns i) 0 1000000 rfl (Nat.zero_le _) (by omega) with ⟨z,e⟩ | ⟨z,e⟩
  · rw [show (I ((0 : Nat) : Int)) = I 0 from rfl] at e
    rw [e] at hr
    exact .inl ⟨_,_,_,hr.symm⟩
  · rw [show (I ((0 : Nat) : Int)) = I 0 from rfl] at e
    rw [e] at hr
    simp +contextual (maxSteps := 2000000) (disch := (first | omega | (simp only [Y2,List.length_drop,List.length_take] <;> omega) | ((repeat' (first | exact aw | apply aq | apply ay | refine ax (by omega) ?_ ?_)) <;> (simp (disch := (first | omega | (simp only [Y5] <;> omega))) only [Y4,nd @aD,nd @aE,aj,Nat.reduceAdd,Nat.reduceEqDiff,reduceIte, *])) | (simp (disch := omega) only [Y4,nd @aD,nd @aE,aj,Nat.reduceAdd,Nat.reduceEqDiff,reduceIte]; done) | assumption | exact bL _ | exact bY _ | exact bX _ | exact bZ _ | exact True.intro | rfl)) only [Y1,Y3,qw,wV,Int.reduceLT,Int.reduceLE,Int.reduceEq,Int.reduceNeg,Int.reduceToNat,Nat.reduceAdd,Nat.reduceEqDiff,reduceIte,Nat.reduceLeDiff,Nat.reduceSub] at hr
    exact .inr ⟨⟨by omega,by omega⟩,_,_,H,⟨hHp,hHn,hH0⟩,hr.symm⟩
theorem afF {m : cW} (h : cB m) {q : Bool} : ∀ (d i fuel : Nat) (x4 x5 : AV) (hp : Hp),41 - i = d → i ≤ 41 → i ≤ m.n → d < fuel → hp.pr = [] → 0 < hp.nx → hp.nx ≤ 1 + i → hp.at 0 = Bx q [m.ty,m.tx,m.fs] → (∀ j,j < i → (m.nm j).length ≤ 40 ∧ m.nc j ≤ 300) →
    ∃ g : Bool,(g = false → m.n ≤ 40 ∧ ∀ j,j < m.n → (m.nm j).length ≤ 40 ∧ m.nc j ≤ 300) ∧ eJ (a9a (mr (b8 iY fuel (.n m.av (.bool false) (I i) (.ptr 0 0) x4 x5 .uu .uu .e) hp))) = some (.bool g)
  | d,i,0,_,_,_,_,_,_,hfu,_,_,_,_,_=>absurd hfu (Nat.not_lt_zero _)
  | d, i, fuel + 1, x4, x5, hp, hd, hi, him, hfu, hpr, hn0, hnx, h0, hall => by
    by_cases hlt : i < m.n ∧ i ≤ 40
    · rcases anX h (x4 := x4) (x5 := x5) hlt.1 hlt.2 hpr ⟨hn0,hnx⟩ h0 with ⟨x4',x5',hp',e⟩ | ⟨hf,x4',x5',hp',⟨e1,e2,e3⟩,e⟩
      · refine ⟨true,fun h=>absurd h (by decide), ?_⟩
        rw [(congrArg mr (lU e)).trans (a27 _ _),ans]; rfl
      · rw [gv e]
        exact afF h (d - 1) (i + 1) fuel x4' x5' hp' (by omega) (by omega) (by omega) (by omega) e1 (by omega) (by omega) (by rw [e3]; exact h0) fun j hj=>by
          by_cases hji : j = i
          · rw [hji]; exact hf
          · exact hall j (by omega)
    · have s3 := h.fs.small
      have hb : (iY).run .lf (.n m.av (.bool false) (I i) (.ptr 0 0) x4 x5 .uu .uu .e) hp = .exit 0 (.n m.av (.bool false) (I i) (.ptr 0 0) x4 x5 .uu .uu .e) hp := by
        generalize hr : (iY).run .lf (.n m.av (.bool false) (I i) (.ptr 0 0) x4 x5 .uu .uu .e) hp = r
        simp +contextual (maxSteps := 2000000) (disch := (first | omega | (simp only [Y2,List.length_drop,List.length_take] <;> omega) | ((repeat' (first | exact aw | apply aq | apply ay | refine ax (by omega) ?_ ?_)) <;> (simp (disch := (first | omega | (simp only [Y5] <;> omega))) only [Y4,nd @aD,nd @aE,aj,Nat.reduceAdd,Nat.reduceEqDiff,reduceIte, *])) | (simp (disch := omega) only [Y4,nd @aD,nd @aE,aj,Nat.reduceAdd,Nat.reduceEqDiff,reduceIte]; done) | assumption | exact bL _ | exact bY _ | exact bX _ | exact bZ _ | exact True.intro | rfl)) only [Y1,Y3,uo,Int.reduceLT,Int.reduceLE,Int.reduceEq,Int.reduceNeg,Int.reduceToNat,Nat.reduceAdd,Nat.reduceEqDiff,reduceIte,Nat.reduceLeDiff,Nat.reduceSub,h0,h.fs.len] at hr
        rw [← hr]
        by_cases c : i < m.n
        · rw [if_pos (by omega),if_neg (by omega)]
        · rw [if_neg (by omega)]
      rw [(congrArg mr (fR hb)).trans (a8s _ _)]
      generalize hr : a9a ((a1j).run .lf (.n m.av (.bool false) (I i) (.ptr 0 0) x4 x5 .uu .uu .e) hp) = r
      simp +contextual (maxSteps := 2000000) (disch := (first | omega | (simp only [Y2,List.length_drop,List.length_take] <;> omega) | ((repeat' (first | exact aw | apply aq | apply ay | refine ax (by omega) ?_ ?_)) <;> (simp (disch := (first | omega | (simp only [Y5] <;> omega))) only [Y4,nd @aD,nd @aE,aj,Nat.reduceAdd,Nat.reduceEqDiff,reduceIte, *])) | (simp (disch := omega) only [Y4,nd @aD,nd @aE,aj,Nat.reduceAdd,Nat.reduceEqDiff,reduceIte]; done) | assumption | exact bL _ | exact bY _ | exact bX _ | exact bZ _ | exact True.intro | rfl)) only [Y1,Y3,a7g,Int.reduceLT,Int.reduceLE,Int.reduceEq,Int.reduceNeg,Int.reduceToNat,Nat.reduceAdd,Nat.reduceEqDiff,reduceIte,Nat.reduceLeDiff,Nat.reduceSub,h0,h.fs.len,ans] at hr
      subst hr
      refine ⟨_,fun hg=>?_,rfl⟩
      have hn : ¬ (40 : Int) < m.n := of_decide_eq_false hg
      exact ⟨by omega,fun j hj=>hall j (by omega)⟩
theorem auC {m : cW} (h : cB m) : ∃ g : Bool,(g = false → m.n ≤ 40 ∧ ∀ j,j < m.n → (m.nm j).length ≤ 40 ∧ m.nc j ≤ 300) ∧ eJ (r16.f (.nd m.av .lf .lf) .empty) = some (.bool g) := by
  generalize hr : r16.f (.nd m.av .lf .lf) .empty = r
  simp only [cW.av] at hr
  simp +contextual (maxSteps := 2000000) (disch := (first | omega | (simp only [Y2,List.length_drop,List.length_take] <;> omega) | ((repeat' (first | exact aw | apply aq | apply ay | refine ax (by omega) ?_ ?_)) <;> (simp (disch := (first | omega | (simp only [Y5] <;> omega))) only [Y4,nd @aD,nd @aE,aj,Nat.reduceAdd,Nat.reduceEqDiff,reduceIte, *])) | (simp (disch := omega) only [Y4,nd @aD,nd @aE,aj,Nat.reduceAdd,Nat.reduceEqDiff,reduceIte]; done) | assumption | exact bL _ | exact bY _ | exact bX _ | exact bZ _ | exact True.intro | rfl)) only [Y1,Y3,t16,a4q,Int.reduceLT,Int.reduceLE,Int.reduceEq,Int.reduceNeg,Int.reduceToNat,Nat.reduceAdd,Nat.reduceEqDiff,reduceIte,Nat.reduceLeDiff,Nat.reduceSub] at hr
  generalize (m.ty.pl && (m.tx.pl && (m.fs.pl && true))) = q at hr
  obtain ⟨g,g1,g2⟩ := afF h (q := q) 41 0 1000000 .uu .uu (Hp.empty.add (Bx q [m.ty,m.tx,m.fs])) rfl (Nat.zero_le _) (Nat.zero_le _) (by omega) rfl (show 0 < 1 by decide) (Nat.le_refl _) (iO (show 0 < 16777215 by decide) rfl) fun j hj=>absurd hj (Nat.not_lt_zero _)
  rw [show (I ((0 : Nat) : Int)) = I 0 from rfl] at g2
  simp only [cW.av] at g2
  rw [hr] at g2
  exact ⟨g,g1,g2⟩
theorem r4_ok {m : cW} (h : cB m) {a : AV} {n : Nat} {t : Row} (hs : mC 7 a n t) : ∃ g : Bool,(g = false → (m.n ≤ 40 ∧ ∀ j,j < m.n → (m.nm j).length ≤ 40 ∧ m.nc j ≤ 300) ∧ (n ≤ 100 ∨ 2000 < n ∧ n ≤ 2010)) ∧ eJ (r4.f (.nd m.av .lf (.nd a .lf .lf)) .empty) = some (.bool g) := by
  obtain ⟨g,g1,g2⟩ := auC h
  have hsm := hs.small
  have e16 := fun hp k=>pf (cW.pb h (fk .lf)) (y9 g).goes g2 hp k
  generalize hr : r4.f (.nd m.av .lf (.nd a .lf .lf)) .empty = r
  simp only [cW.av] at hr e16
  cases g with
  | true=>
    simp +contextual (maxSteps := 2000000) (disch := (first | omega | (simp only [Y2,List.length_drop,List.length_take] <;> omega) | ((repeat' (first | exact aw | apply aq | apply ay | refine ax (by omega) ?_ ?_)) <;> (simp (disch := (first | omega | (simp only [Y5] <;> omega))) only [Y4,nd @aD,nd @aE,aj,Nat.reduceAdd,Nat.reduceEqDiff,reduceIte, *])) | (simp (disch := omega) only [Y4,nd @aD,nd @aE,aj,Nat.reduceAdd,Nat.reduceEqDiff,reduceIte]; done) | assumption | exact bL _ | exact bY _ | exact bX _ | exact bZ _ | exact True.intro | rfl)) only [Y1,Y3,t4,Int.reduceLT,Int.reduceLE,Int.reduceEq,Int.reduceNeg,Int.reduceToNat,Nat.reduceAdd,Nat.reduceEqDiff,reduceIte,Nat.reduceLeDiff,Nat.reduceSub,e16,hs.len,apply_ite fin4,ret4] at hr
    subst hr
    exact ⟨true,fun h=>absurd h (by decide),rfl⟩
  | false =>
    simp +contextual (maxSteps := 2000000) (disch := (first | omega | (simp only [Y2,List.length_drop,List.length_take] <;> omega) | ((repeat' (first | exact aw | apply aq | apply ay | refine ax (by omega) ?_ ?_)) <;> (simp (disch := (first | omega | (simp only [Y5] <;> omega))) only [Y4,nd @aD,nd @aE,aj,Nat.reduceAdd,Nat.reduceEqDiff,reduceIte, *])) | (simp (disch := omega) only [Y4,nd @aD,nd @aE,aj,Nat.reduceAdd,Nat.reduceEqDiff,reduceIte]; done) | assumption | exact bL _ | exact bY _ | exact bX _ | exact bZ _ | exact True.intro | rfl)) only [Y1,Y3,t4,Int.reduceLT,Int.reduceLE,Int.reduceEq,Int.reduceNeg,Int.reduceToNat,Nat.reduceAdd,Nat.reduceEqDiff,reduceIte,Nat.reduceLeDiff,Nat.reduceSub,e16,hs.len,apply_ite fin4,ret4] at hr
    refine ⟨decide (100 < n ∧ n ≤ 2000 ∨ 2010 < n),fun hg=>⟨g1 rfl, ?_⟩, ?_⟩
    · have := of_decide_eq_false hg
      omega
    · by_cases c1 : 100 < n
      · rw [if_pos (by omega)] at hr
        by_cases c2 : n ≤ 2000
        · rw [if_pos (by omega)] at hr
          rw [← hr,decide_eq_true (.inl ⟨c1,c2⟩)]; rfl
        · rw [if_neg (by omega)] at hr
          have : decide ((2010 : Int) < n) = decide (100 < n ∧ n ≤ 2000 ∨ 2010 < n) := decide_eq_decide.2 (by omega)
          rw [← hr,this]; rfl
      · rw [if_neg (by omega)] at hr
        have : decide ((2010 : Int) < n) = decide (100 < n ∧ n ≤ 2000 ∨ 2010 < n) := decide_eq_decide.2 (by omega)
        rw [← hr,this]; rfl
end Go.Proofs.YtpiokjcbadfalaaGreatDoor.Tz
namespace Go.Proofs.YtpiokjcbadfalaaGreatDoor.Tz
theorem dg10 {d : Nat} (h : d < 10) : (dg d).toNat = 48 + d := by
  have : ∀ d,d < 10 → (dg d).toNat = 48 + d := by decide
  exact this d h
theorem vF : ∀ f n,1 ≤ f → fQ 10 f n ≠ []
  | 0,_,h=>absurd h (by decide)
  | f + 1,n,_=>by
    unfold fQ
    split
    · simp
    · simp
theorem acL (c : UInt8) : fj [c] = c.toNat - 48 := by
  show 0 * 10 + (c.toNat - 48) = _
  omega
theorem a0e {f n : Nat} (h : n < 10 ^ f) (h0 : n ≠ 0) : 1 ≤ f := by
  rcases f with _ | f
  · simp at h; omega
  · omega
theorem a3n : ∀ f n,n < 10 ^ f → 1 ≤ f → fj (fQ 10 f n) = n
  | 0,_,_,h=>absurd h (by decide)
  | f + 1,n,h,_=>by
    unfold fQ
    split
    · rename_i h0
      rw [acL,dg10 (by omega)]; omega
    · rename_i h0
      rw [qW,a3n f (n / 10) (by rw [Nat.pow_succ] at h; omega) (a0e (n := n / 10) (by rw [Nat.pow_succ] at h; omega) h0),dg10 (by omega)]
      omega
theorem ot : ∀ f n,∀ c ∈ fQ 10 f n,eC c.toNat = true
  | 0,_,_,h=>(by cases h)
  | f + 1,n,c,h=>by
    have hd : eC (dg (n % 10)).toNat = true := by
      rw [dg10 (by omega)]
      have : ∀ d,d < 10 → eC (48 + d) = true := by decide
      exact this _ (by omega)
    unfold fQ at h
    split at h
    · rw [List.mem_singleton.1 h]; exact hd
    · rcases List.mem_append.1 h with h | h
      · exact ot f (n / 10) c h
      · rw [List.mem_singleton.1 h]; exact hd
theorem zE : ∀ f n,n < 10 ^ f → n ≠ 0 → ((fQ 10 f n).getD 0 0).toNat ≠ 48
  | 0,n,h,h0=>by simp at h; omega
  | f + 1,n,h,h0=>by
    unfold fQ
    split
    · rename_i h1
      show (dg (n % 10)).toNat ≠ 48
      rw [dg10 (by omega)]; omega
    · rename_i h1
      have hlt : n / 10 < 10 ^ f := by rw [Nat.pow_succ] at h; omega
      have hne := vF f (n / 10) (a0e hlt h1)
      have := zE f (n / 10) hlt h1
      cases hq : fQ 10 f (n / 10) with
      | nil=>exact absurd hq hne
      | cons a r=>rw [hq] at this; exact this
theorem adE {n : Nat} (h : n < 10 ^ 64) : okD (fQ 10 64 n) := by
  refine ⟨vF 64 n (by decide),fun i hi=>?_,fun h2=>?_⟩
  · have : (fQ 10 64 n).getD i 0 ∈ fQ 10 64 n := by
      simp only [List.getD,List.getElem?_eq_getElem hi,Option.getD_some]
      exact List.getElem_mem _
    exact ot 64 n _ this
  · by_cases h0 : n = 0
    · subst h0
      exact absurd h2 (by decide)
    · exact zE 64 n h h0
theorem xK {n most : Nat} (h : n ≤ most) (h2 : n < 10 ^ 64) : dL (fQ 10 64 n) most = (n,0) := by
  unfold dL
  rw [if_pos (adE h2),a3n 64 n h2 (by decide),if_pos h]
theorem akL : 9223372036854775808 < 10 ^ 64 := by decide
theorem a5R {z : Int} (h : -9223372036854775808 ≤ z ∧ z < 9223372036854775808) : vS (bV z) = (z,0) := by
  have hlen := cS z
  have hb := akL
  unfold vS
  rw [if_neg (by omega)]
  unfold bV
  by_cases hz : z < 0
  · rw [if_pos hz]
    have hn : (-z).toNat < 10 ^ 64 := by omega
    show (if (45 : UInt8) = 45 then _ else _) = _
    rw [if_pos rfl]
    show (let r := dL (fQ 10 64 (-z).toNat) 9223372036854775808; if r.2 = 0 then if r.1 = 0 then ((0 : Int),12) else (-(r.1 : Int),0) else (0,r.2)) = _
    rw [xK (by omega) hn]
    show (if 0 = 0 then if (-z).toNat = 0 then ((0 : Int),12) else (-((-z).toNat : Int),0) else (0,0)) = _
    rw [if_pos rfl,if_neg (by omega)]
    congr 1
    omega
  · rw [if_neg hz]
    have hn : z.toNat < 10 ^ 64 := by omega
    have hne : (fQ 10 64 z.toNat).getD 0 0 ≠ 45 := by
      intro e
      have hm : (fQ 10 64 z.toNat).getD 0 0 ∈ fQ 10 64 z.toNat := by
        have hl : 0 < (fQ 10 64 z.toNat).length := List.length_pos_iff.2 (vF 64 _ (by decide))
        simp only [List.getD,List.getElem?_eq_getElem hl,Option.getD_some]
        exact List.getElem_mem _
      have := ot 64 _ _ hm
      rw [e] at this
      exact absurd this (by decide)
    rw [if_neg hne,xK (by omega) hn]
    show ((z.toNat : Int),0) = (z,0)
    rw [Int.toNat_of_nonneg (by omega)]
theorem zO {c : UInt8} (h : eC c.toNat = true) : eH c = true := by
  unfold eH; unfold eC at h; rw [h,Bool.or_true]
theorem lX (z : Int) : ∀ c ∈ bV z,eH c = true := by
  intro c h
  unfold bV at h
  split at h
  · rcases List.mem_cons.1 h with rfl | h
    · rfl
    · exact zO (ot _ _ c h)
  · exact zO (ot _ _ c h)
theorem xD : ∀ (l : List UInt8) (c : UInt8) (r : List UInt8),(∀ x ∈ l,eH x = true) → eH c = false → bK (l ++ c :: r) = l.length
  | [],c,r,_,h=>by
    show Bool.rec (motive := fun _=>Nat) 0 (Nat.succ (bK r)) (eH c) = 0
    rw [h]
  | x :: l,c,r,h1,h=>by
    show Bool.rec (motive := fun _=>Nat) 0 (Nat.succ (bK (l ++ c :: r))) (eH x) = l.length + 1
    rw [h1 x (by simp),xD l c r (fun y hy=>h1 y (by simp [hy])) h]
theorem xC : ∀ (l : List UInt8),(∀ x ∈ l,eH x = true) → bK l = l.length
  | [],_=>rfl
  | x :: l,h1=>by
    show Bool.rec (motive := fun _=>Nat) 0 (Nat.succ (bK l)) (eH x) = l.length + 1
    rw [h1 x (by simp),xC l fun y hy=>h1 y (by simp [hy])]
theorem qO (w r : List UInt8) : Lib.hasPrefix (w ++ r) w = true := by
  show w.isPrefixOf (w ++ r) = true
  rw [List.isPrefixOf_iff_prefix]; exact List.prefix_append w r
theorem a5O (w r : List UInt8) : Lib.trimPrefix (w ++ r) w = r := by
  unfold Lib.trimPrefix
  rw [if_pos (qO w r),List.drop_left]
theorem sE {z : Int} {c : UInt8} {w r : List UInt8} (h : -9223372036854775808 ≤ z ∧ z < 9223372036854775808) (hc : eH c = false) : eU (bV z ++ ((c :: w) ++ r)) (c :: w) = (z,true,r) := by
  have e1 : bK (bV z ++ ((c :: w) ++ r)) = (bV z).length := xD _ c (w ++ r) (lX z) hc
  unfold eU
  simp only [e1,List.take_left,List.drop_left,a5R h,qO,a5O]
  rfl
theorem xE {z : Int} (h : -9223372036854775808 ≤ z ∧ z < 9223372036854775808) : eU (bV z) [] = (z,true,[]) := by
  have e1 : bK (bV z) = (bV z).length := xC _ (lX z)
  unfold eU
  simp only [e1,List.take_length,List.drop_length,a5R h]
  rfl
theorem tS {A R w : List UInt8} {c : UInt8} (h : ∀ x ∈ A,x ≠ c) {j : Nat} (hj : j < A.length) : Lib.occAt (A ++ R) (c :: w) j = false := by
  unfold Lib.occAt
  rw [List.drop_append_of_le_length (by omega),List.drop_eq_getElem_cons hj]
  show (c == A[j] && _) = false
  have : A[j] ≠ c := h _ (List.getElem_mem _)
  rw [show (c == A[j]) = false from by rw [beq_eq_false_iff_ne]; exact fun e=>this e.symm]
  rfl
theorem xH {A R w : List UInt8} : Lib.occAt (A ++ (w ++ R)) w A.length = true := by
  unfold Lib.occAt
  rw [List.drop_left,List.isPrefixOf_iff_prefix]; exact List.prefix_append w R
theorem a6X {A R w : List UInt8} {c : UInt8} (h : ∀ x ∈ A,x ≠ c) : Lib.cut (A ++ ((c :: w) ++ R)) (c :: w) = (A,R,true) := by
  have e : Lib.index (A ++ ((c :: w) ++ R)) (c :: w) = A.length := Lib.index_first (by rw [List.length_append]; omega) xH fun j hj=>tS h hj
  unfold Lib.cut
  rw [e,if_pos (by omega),Int.toNat_natCast,List.take_left,← List.drop_drop,List.drop_left,List.drop_left]
theorem adw {A w : List UInt8} {c : UInt8} (h : ∀ x ∈ A,x ≠ c) : Lib.cut A (c :: w) = (A,[],false) := by
  have e : Lib.index A (c :: w) = -1 := Lib.index_none fun j hj=>by
    by_cases hlt : j < A.length
    · have := tS (R := []) (w := w) h hlt
      rwa [List.append_nil] at this
    · unfold Lib.occAt
      rw [List.drop_eq_nil_of_le (by omega)]; rfl
  unfold Lib.cut
  rw [e,if_neg (by decide)]
theorem a9E {A R w : List UInt8} (hw : w ≠ []) (h : ∀ j,A.length < j → j ≤ (A ++ (w ++ R)).length → Lib.occAt (A ++ (w ++ R)) w j = false) : Lib.lastIndex (A ++ (w ++ R)) w = A.length := by
  have hl : (A ++ (w ++ R)).length = A.length + (w.length + R.length) := by rw [List.length_append,List.length_append]
  unfold Lib.lastIndex
  rw [if_pos (by omega)]
  rcases Lib.lastOcc_spec (A ++ (w ++ R)) w ((A ++ (w ++ R)).length - w.length + 1) with ⟨_,h2⟩ | ⟨i,h1,h2,h3,h4⟩
  · have := h2 A.length (by omega)
    rw [xH] at this; exact absurd this (by decide)
  · rw [h2]
    by_cases hi : i < A.length
    · have := h4 A.length hi (by omega)
      rw [xH] at this; exact absurd this (by decide)
    · by_cases hi2 : A.length < i
      · rw [h i hi2 (by omega)] at h3; exact absurd h3 (by decide)
      · congr 1; omega
def w12 : List UInt8 := [58,32,103,111,114,111,117,116,105,110,101,32]
def mid (o : Nat) : List UInt8 := [32] ++ cM o ++ [44,32,102,114,97,109,101,115,32]
def qg (o : Nat) : List UInt8 := if 0 < o then [44,32] ++ bl o else []
theorem ahp (m : cW) (y : Mk) (hf : 0 ≤ y.f) : aM m y = bV y.step ++ (w12 ++ (bV y.g ++ (pre4 m y.f.toNat ++ (bV y.at' ++ (mid y.op ++ (bV y.fr ++ qg y.out)))))) := by
  unfold aM pre4 mid qg w12
  rw [Int.toNat_of_nonneg hf]
  simp only [List.append_assoc]
theorem a1C : ∀ n,n < 9 → ∀ x ∈ bl n,x ≠ 44 := by decide
theorem a4R : ∀ n,n < 35 → ∀ x ∈ cM n,x ≠ 44 := by decide
theorem xN {x : En} (h : vz x) : vm (ep x) = x ∧ vOk (ep x) := by
  have hR := h
  obtain ⟨a1,a2,a3,a4,a5,a6⟩ := h
  have e0 : ep x = [101,110,100,101,100,32] ++ (bl x.out ++ ([44,32,102,97,105,108,105,110,103,32] ++ (bV x.fl ++ ([44,32,117,115,101,100,32] ++ bV x.us)))) := by
    unfold ep; simp only [List.append_assoc]
  have e1 : v1 (ep x) = bl x.out ++ ([44,32,102,97,105,108,105,110,103,32] ++ (bV x.fl ++ ([44,32,117,115,101,100,32] ++ bV x.us))) := by
    unfold v1; rw [e0]; exact a5O _ _
  have e2 : v2 (ep x) = (bl x.out,bV x.fl ++ ([44,32,117,115,101,100,32] ++ bV x.us),true) := by
    unfold v2; rw [e1]; exact a6X (a1C x.out (by omega))
  have e3 : v3 (ep x) = (x.fl,true,bV x.us) := by
    unfold v3; rw [e2]; exact sE ⟨by omega,by omega⟩ rfl
  have e4 : v4 (ep x) = (x.us,true,[]) := by
    unfold v4; rw [e3]; exact xE ⟨by omega,by omega⟩
  have eo : db (bl x.out) = x.out := xL ⟨a1,a2⟩
  have ev : vm (ep x) = x := by
    unfold vm
    rw [e2,e3,e4]
    show En.mk (db (bl x.out)).toNat x.fl x.us = x
    rw [eo,Int.toNat_natCast]
  refine ⟨ev, ?_⟩
  unfold vOk
  rw [ev,e2,e3,e4]
  refine ⟨?_,by rw [e0]; exact qO _ _,rfl,rfl,rfl,rfl,hR⟩
  show ¬ db (bl x.out) < 1
  rw [eo]; omega
def wAt : List UInt8 := [32,97,116,32]
def vV (L : List UInt8) : Prop := ∀ d,Lib.occAt L wAt d = false
theorem a4K : vV [] := fun d=>by
  unfold Lib.occAt; rw [List.drop_nil]; rfl
theorem cV {c : UInt8} {R : List UInt8} (h : c ≠ 32 ∨ R.getD 0 0 ≠ 97 ∨ R.getD 1 0 ≠ 116 ∨ R.getD 2 0 ≠ 32) (hR : vV R) : vV (c :: R) := fun d=>by
  cases d with
  | succ d=>exact hR d
  | zero=>
    show ((32 : UInt8) == c && List.isPrefixOf [97,116,32] R) = false
    rcases h with h | h
    · rw [show ((32 : UInt8) == c) = false from by rw [beq_eq_false_iff_ne]; exact fun e=>h e.symm]; rfl
    · cases R with
      | nil=>exact Bool.and_false _
      | cons a R=>
        cases R with
        | nil=>
          show ((32 : UInt8) == c && ((97 : UInt8) == a && false)) = false
          simp
        | cons b R=>
          show ((32 : UInt8) == c && ((97 : UInt8) == a && ((116 : UInt8) == b && List.isPrefixOf [32] R))) = false
          rcases h with h | h | h
          · have h' : a ≠ 97 := h
            rw [show ((97 : UInt8) == a) = false from by rw [beq_eq_false_iff_ne]; exact fun e=>h' e.symm]; simp
          · have h' : b ≠ 116 := h
            rw [show ((116 : UInt8) == b) = false from by rw [beq_eq_false_iff_ne]; exact fun e=>h' e.symm]; simp
          · cases R with
            | nil=>simp
            | cons x R=>
              have h' : x ≠ 32 := h
              show ((32 : UInt8) == c && ((97 : UInt8) == a && ((116 : UInt8) == b && ((32 : UInt8) == x && true)))) = false
              rw [show ((32 : UInt8) == x) = false from by rw [beq_eq_false_iff_ne]; exact fun e=>h' e.symm]; simp
theorem lW : ∀ {A R : List UInt8},(∀ x ∈ A,x ≠ 32) → vV R → vV (A ++ R)
  | [],_,_,h=>h
  | x :: A,R,h1,h=>cV (.inl (h1 x (by simp))) (lW (fun y hy=>h1 y (by simp [hy])) h)
theorem xG (z : Int) : ∀ x ∈ bV z,x ≠ 32 := fun x hx e=>by
  have := lX z x hx
  rw [e] at this; exact absurd this (by decide)
theorem a1B : ∀ n,n < 9 → (∀ x ∈ bl n,x ≠ 32) ∧ (bl n).getD 0 0 ≠ 97 := by decide
theorem a4Q : ∀ n,n < 35 → 1 ≤ n → (∀ x ∈ cM n,x ≠ 32) ∧ 2 ≤ (cM n).length ∧ ((cM n).getD 0 0 ≠ 97 ∨ (cM n).getD 1 0 ≠ 116 ∨ (cM n).length = 2) := by decide
theorem ace {o : Nat} (h : o ≤ 8) : vV (qg o) := by
  unfold qg
  split
  · have h1 := a1B o (by omega)
    refine cV (.inl (by decide)) (cV (.inr (.inl h1.2)) ?_)
    have := lW h1.1 a4K
    rwa [List.append_nil] at this
  · exact a4K
theorem wJ {A R : List UInt8} {i : Nat} (h : i < A.length) : (A ++ R).getD i 0 = A.getD i 0 := by
  simp only [List.getD_eq_getElem?_getD]
  rw [List.getElem?_append_left h]
theorem afS {o : Nat} {R : List UInt8} (h : 1 ≤ o ∧ o < 35) (hR : vV R) (h97 : R.getD 0 0 ≠ 97) : vV (mid o ++ R) := by
  have h1 := a4Q o h.2 h.1
  have e : mid o ++ R = 32 :: (cM o ++ (44 :: 32 :: 102 :: 114 :: 97 :: 109 :: 101 :: 115 :: 32 :: R)) := by
    unfold mid; simp only [List.append_assoc]; rfl
  rw [e]
  refine cV (.inr ?_) (lW h1.1 ?_)
  · rcases h1.2.2 with h2 | h2 | h2
    · left; rw [wJ (by omega)]; exact h2
    · right; left; rw [wJ (by omega)]; exact h2
    · right; right
      rw [show 2 = (cM o).length + 0 from h2.symm,List.getD_eq_getElem?_getD,List.getElem?_append_right (by omega)]
      simp
  · refine cV (.inl (by decide)) (cV (.inr (.inl (by show (102 : UInt8) ≠ 97; decide))) ?_)
    refine cV (.inl (by decide)) (cV (.inl (by decide)) (cV (.inl (by decide)) (cV (.inl (by decide)) (cV (.inl (by decide)) (cV (.inl (by decide)) (cV (.inr (.inl h97)) hR))))))
theorem a03 (z : Int) : ∃ c r,bV z = c :: r ∧ eH c = true := by
  have h := lX z
  cases hq : bV z with
  | nil=>
    unfold bV at hq
    split at hq
    · cases hq
    · exact absurd hq (vF _ _ (by decide))
  | cons c r=>exact ⟨c,r,rfl,h c (by rw [hq]; simp)⟩
theorem a06 {A R w : List UInt8} {j : Nat} (h : A.length ≤ j) : Lib.occAt (A ++ R) w j = Lib.occAt R w (j - A.length) := by
  unfold Lib.occAt
  rw [List.drop_append,List.drop_eq_nil_of_le h,List.nil_append]
theorem a4N (z : Int) : ∀ x ∈ bV z,x ≠ 44 := fun x hx e=>by
  have := lX z x hx
  rw [e] at this; exact absurd this (by decide)
theorem a7X : ∀ n,n < 9 → 1 ≤ n → bl n ≠ [] := by decide
theorem tY {m : cW} {y : Mk} (hn : m.n ≤ 40) (hnc : ∀ i,i < m.n → m.nc i ≤ 300) (hF : Fits m y) :
    (q1 (aM m y)).2.1 = true ∧ (q2 (aM m y)).2.1 = true ∧ ¬ qi (aM m y) < 0 ∧ (q3 (aM m y)).2.1 = true ∧ (q4 (aM m y)).2.1 = true ∧ (d1 (aM m y)).2.2 = true ∧ (q5 (aM m y)).2.1 = true ∧ ¬ gH (d1 (aM m y)).1 < 0 ∧ ((d2 (aM m y)).2.1 = [] ∨ ¬ db (d2 (aM m y)).2.1 < 1) ∧ qm (aM m y) = y := by
  obtain ⟨⟨a1,a2,a3,a4,a5,a6,a7,a8,a9⟩,b1,b2,b3,b4,b5,b6⟩ := hF
  have hc := hnc y.f.toNat (by omega)
  generalize hB : (m.nm y.f.toNat).flatMap (fun c=>kQ c.toNat) = B
  generalize hZ : bV y.at' ++ (mid y.op ++ (bV y.fr ++ qg y.out)) = Z
  have hs : aM m y = bV y.step ++ (w12 ++ (bV y.g ++ ([32,34] ++ (((B ++ [34]) ++ ([32] ++ bV y.f)) ++ (wAt ++ Z))))) := by
    rw [ahp m y a5,hZ]
    unfold pre4 jw wAt
    rw [hB,Int.toNat_of_nonneg a5]
    simp only [List.append_assoc,List.cons_append,List.nil_append]
  have e1 : q1 (aM m y) = (y.step,true,bV y.g ++ ([32,34] ++ (((B ++ [34]) ++ ([32] ++ bV y.f)) ++ (wAt ++ Z)))) := by
    unfold q1; rw [hs]; exact sE ⟨by omega,by omega⟩ rfl
  have e2 : q2 (aM m y) = (y.g,true,((B ++ [34]) ++ ([32] ++ bV y.f)) ++ (wAt ++ Z)) := by
    unfold q2; rw [e1]; exact sE ⟨by omega,by omega⟩ rfl
  have nt : vV (bV y.fr ++ qg y.out) := lW (xG _) (ace a9)
  have hh : (bV y.fr ++ qg y.out).getD 0 0 ≠ 97 := by
    obtain ⟨c,r,e,h⟩ := a03 y.fr
    rw [e]; show c ≠ 97
    intro e; rw [e] at h; exact absurd h (by decide)
  have nz : vV Z := by rw [← hZ]; exact lW (xG _) (afS ⟨b5,b6⟩ nt hh)
  have hz : Z.getD 0 0 ≠ 97 := by
    obtain ⟨c,r,e,h⟩ := a03 y.at'
    rw [← hZ,e]; show c ≠ 97
    intro e; rw [e] at h; exact absurd h (by decide)
  have nw : vV (97 :: 116 :: 32 :: Z) := cV (.inl (by decide)) (cV (.inl (by decide)) (cV (.inr (.inl hz)) nz))
  generalize hA : (B ++ [34]) ++ ([32] ++ bV y.f) = A at *
  have ei : qi (aM m y) = A.length := by
    unfold qi; rw [e2]
    refine a9E (w := wAt) (by decide) fun j hj _=>?_
    rw [a06 (by omega)]
    obtain ⟨d,hd⟩ : ∃ d,j - A.length = d + 1 := ⟨j - A.length - 1,by omega⟩
    rw [hd]; exact nw d
  have ej : qj (aM m y) = (B ++ [34]).length := by
    unfold qj; rw [ei,e2,Int.toNat_natCast,List.take_left,← hA]
    refine a9E (w := [32]) (by decide) fun j hj _=>?_
    rw [a06 (by omega)]
    obtain ⟨d,hd⟩ : ∃ d,j - (B ++ [34]).length = d + 1 := ⟨j - (B ++ [34]).length - 1,by omega⟩
    rw [hd]
    show Lib.occAt (bV y.f) [32] d = false
    by_cases hlt : d < (bV y.f).length
    · have := tS (R := []) (w := []) (xG y.f) hlt
      rwa [List.append_nil] at this
    · unfold Lib.occAt; rw [List.drop_eq_nil_of_le (by omega)]; rfl
  have e3 : q3 (aM m y) = (y.f,true,[]) := by
    unfold q3; rw [ei,ej,e2,Int.toNat_natCast,List.take_left,← hA]
    have h1 : (((B ++ [34]).length : Int) + 1).toNat = (B ++ [34]).length + 1 := by omega
    rw [h1,← List.drop_drop,List.drop_left]
    exact xE ⟨by omega,by omega⟩
  have e4 : q4 (aM m y) = (y.at',true,cM y.op ++ ([44,32,102,114,97,109,101,115,32] ++ (bV y.fr ++ qg y.out))) := by
    unfold q4; rw [ei,e2,show ((A.length : Int) + 4).toNat = A.length + 4 by omega,← List.drop_drop,List.drop_left]
    show eU Z [32] = _
    rw [← hZ]
    unfold mid
    simp only [List.append_assoc]
    exact sE (w := []) ⟨by omega,by omega⟩ rfl
  have f1 : d1 (aM m y) = (cM y.op,bV y.fr ++ qg y.out,true) := by
    unfold d1; rw [e4]; exact a6X (a4R y.op b6)
  have eop := aci ⟨b5,b6⟩
  have f2 : (d2 (aM m y)).1 = bV y.fr ∧ (d2 (aM m y)).2.1 = bl y.out := by
    unfold d2; rw [f1]
    unfold qg
    by_cases h0 : 0 < y.out
    · rw [if_pos h0]
      show (Lib.cut (bV y.fr ++ ([44,32] ++ bl y.out)) [44,32]).1 = _ ∧ _
      rw [a6X (a4N _)]; exact ⟨rfl,rfl⟩
    · rw [if_neg h0,List.append_nil]
      show (Lib.cut (bV y.fr) [44,32]).1 = _ ∧ (Lib.cut (bV y.fr) [44,32]).2.1 = _
      rw [adw (a4N _),show y.out = 0 by omega]; exact ⟨rfl,rfl⟩
  have e5 : q5 (aM m y) = (y.fr,true,[]) := by
    unfold q5; rw [f2.1]; exact xE ⟨by omega,by omega⟩
  have eout : (bl y.out = [] ∨ ¬ db (bl y.out) < 1) ∧ (if bl y.out = [] then 0 else (db (bl y.out)).toNat) = y.out := by
    by_cases h0 : y.out = 0
    · rw [h0]; exact ⟨.inl rfl,if_pos rfl⟩
    · have e := xL (n := y.out) ⟨by omega,by omega⟩
      rw [e,if_neg (a7X y.out (by omega) (by omega))]
      exact ⟨.inr (by omega),Int.toNat_natCast _⟩
  refine ⟨by rw [e1],by rw [e2],by rw [ei]; omega,by rw [e3],by rw [e4],by rw [f1],by rw [e5],by rw [f1]; show ¬ gH (cM y.op) < 0; rw [eop]; omega,by rw [f2.2]; exact eout.1, ?_⟩
  unfold qm
  rw [f2.2,eout.2,e1,e2,e3,e4,e5,f1]
  show Mk.mk y.step y.g y.f y.at' (gH (cM y.op) + 1).toNat y.fr y.out = y
  rw [eop,show ((y.op : Int) - 1 + 1).toNat = y.op by omega]
open Classical in
noncomputable def gMk (m : cW) (s : List UInt8) : Option Mk := if h : s.length ≤ 2000 ∧ ∃ y : Mk,y.Ok ∧ Fits m y ∧ aM m y = s then some h.2.choose else none
open Classical in
noncomputable def gEn (s : List UInt8) : Option En := if h : ∃ x : En,vz x ∧ ep x = s then some h.choose else none
theorem acz {m : cW} {y z : Mk} (hn : m.n ≤ 40) (hnc : ∀ i,i < m.n → m.nc i ≤ 300) (hy : Fits m y) (hz : Fits m z) (h : aM m y = aM m z) : y = z := by
  have h1 := (tY hn hnc hy).2.2.2.2.2.2.2.2.2
  have h2 := (tY hn hnc hz).2.2.2.2.2.2.2.2.2
  rw [← h1,← h2,h]
theorem aja {x z : En} (hx : vz x) (hz : vz z) (h : ep x = ep z) : x = z := by
  rw [← (xN hx).1,← (xN hz).1,h]
theorem wH {m : cW} {s : List UInt8} {y : Mk} (h : gMk m s = some y) : s.length ≤ 2000 ∧ y.Ok ∧ Fits m y ∧ aM m y = s := by
  unfold gMk at h
  split at h
  · rename_i h1
    injection h with h
    subst h
    exact ⟨h1.1,h1.2.choose_spec⟩
  · cases h
theorem a3y {m : cW} {s : List UInt8} (h : gMk m s = none) : 2000 < s.length ∨ ∀ y : Mk,y.Ok → Fits m y → aM m y ≠ s := by
  unfold gMk at h
  split at h
  · cases h
  · rename_i h1
    by_cases hs : s.length ≤ 2000
    · exact .inr fun y h2 h3 h4=>h1 ⟨hs,y,h2,h3,h4⟩
    · exact .inl (by omega)
theorem rd7 {m : cW} (h : cB m) (hn : m.n ≤ 40) (hnc : ∀ i,i < m.n → m.nc i ≤ 300) : Rd r7 m (gMk m) where
  yes := fun {s x} hs hx=>by
    obtain ⟨h1,h2,h3,h4⟩ := wH hx
    obtain ⟨p1,p2,p3,p4,p5,p6,p7,p8,p9,p10⟩ := tY hn hnc h3
    rw [h4] at p1 p2 p3 p4 p5 p6 p7 p8 p9 p10
    refine ⟨h2, ?_⟩
    have := (ah1 h hn hnc h1).2 p1 p2 p3 p4 p5 p6 p7 p8 p9 (by rw [p10]; exact h3) (by rw [p10]; exact h4)
    rw [this,p10]
  no := fun {s} hs hx=>by
    by_cases h1 : s.length ≤ 2000
    · obtain ⟨v,e,hv⟩ := (ah1 h hn hnc h1).1
      rcases hv with rfl | ⟨x,k1,k2,k3,_⟩
      · exact ⟨12,by omega,by omega,e⟩
      · rcases a3y hx with g | g
        · omega
        · exact absurd k3 (g x k1 k2)
    · exact ⟨4,by omega,by omega,ak9 h (by omega) hs⟩
theorem wG {s : List UInt8} {x : En} (h : gEn s = some x) : vz x ∧ ep x = s := by
  unfold gEn at h
  split at h
  · rename_i h1
    injection h with h
    subst h
    exact h1.choose_spec
  · cases h
theorem a3x {s : List UInt8} (h : gEn s = none) : ∀ x : En,vz x → ep x ≠ s := by
  unfold gEn at h
  split at h
  · cases h
  · rename_i h1
    exact fun x h2 h3=>h1 ⟨x,h2,h3⟩
theorem vz.ok {x : En} (h : vz x) : x.Ok := by
  obtain ⟨a1,a2,a3,a4,a5,a6⟩ := h
  exact ⟨by omega,⟨by omega,by omega⟩,⟨by omega,by omega⟩⟩
theorem zC {n : Nat} (h : eC n = true) : 48 ≤ n ∧ n ≤ 57 := by
  unfold eC at h
  rw [Bool.and_eq_true,bn,bn] at h; exact h
theorem arj {c : UInt8} (h : eC c.toNat = true) : dg (c.toNat - 48) = c := by
  have h1 := zC h
  have key : ∀ n,n < 10 → dg n = (48 + n).toUInt8 := by decide
  rw [key _ (by omega),show 48 + (c.toNat - 48) = c.toNat by omega]; exact UInt8.ofNat_toNat
theorem wA : ∀ (k : Nat) (l : List UInt8) (f : Nat),l.length = k → 1 ≤ k → k ≤ f → (∀ x ∈ l,eC x.toNat = true) → (2 ≤ k → (l.getD 0 0).toNat ≠ 48) → fQ 10 f (fj l) = l ∧ (2 ≤ k ∨ (l.getD 0 0).toNat ≠ 48 → 10 ^ (k - 1) ≤ fj l)
  | 0,_,_,_,h,_,_,_=>absurd h (by decide)
  | k + 1,l,0,_,_,h,_,_=>absurd h (by omega)
  | k + 1,l,f + 1,hk,_,hf,hd,h0=>by
    have hne : l ≠ [] := by intro e; rw [e] at hk; simp at hk
    obtain ⟨l',c,rfl⟩ : ∃ l' c,l = l' ++ [c] := ⟨l.dropLast,l.getLast hne,(List.dropLast_concat_getLast hne).symm⟩
    have hl' : l'.length = k := by rw [List.length_append] at hk; simp only [List.length_cons,List.length_nil] at hk; omega
    have hc := zC (hd c (by simp))
    have hdc := arj (hd c (by simp))
    rw [qW]
    unfold fQ
    rcases Nat.eq_zero_or_pos k with rfl | hkp
    · have : l' = [] := List.length_eq_zero_iff.1 hl'
      subst this
      have hv : fj [] = 0 := rfl
      rw [hv,if_pos (by omega)]
      refine ⟨?_,fun h=>?_⟩
      · rw [show (0 * 10 + (c.toNat - 48)) % 10 = c.toNat - 48 by omega,hdc]; rfl
      · rcases h with h | h
        · omega
        · have h' : c.toNat ≠ 48 := h
          show 1 ≤ _
          omega
    · have hg : (l' ++ [c]).getD 0 0 = l'.getD 0 0 := wJ (by omega)
      have h48 : (l'.getD 0 0).toNat ≠ 48 := by rw [← hg]; exact h0 (by omega)
      obtain ⟨i1,i2⟩ := wA k l' f hl' hkp (by omega) (fun x hx=>hd x (by simp [hx])) fun _=>h48
      have i3 := i2 (.inr h48)
      have hpos : 1 ≤ 10 ^ (k - 1) := Nat.one_le_pow _ _ (by decide)
      rw [if_neg (by omega),show (fj l' * 10 + (c.toNat - 48)) / 10 = fj l' by omega,i1,show (fj l' * 10 + (c.toNat - 48)) % 10 = c.toNat - 48 by omega,hdc]
      refine ⟨rfl,fun _=>?_⟩
      have : 10 ^ (k + 1 - 1) = 10 ^ (k - 1) * 10 := by rw [← Nat.pow_succ]; congr 1; omega
      omega
theorem a09 {l : List UInt8} {most : Nat} (h : (dL l most).2 = 0) : okD l ∧ fj l ≤ most ∧ (dL l most).1 = fj l := by
  unfold dL at h ⊢
  by_cases h1 : okD l
  · rw [if_pos h1] at h ⊢
    by_cases h2 : fj l ≤ most
    · rw [if_pos h2]; exact ⟨h1,h2,rfl⟩
    · rw [if_neg h2] at h; exact absurd h (by decide)
  · rw [if_neg h1] at h; exact absurd h (by decide)
theorem a4O {l : List UInt8} (h : okD l) (h2 : fj l ≤ 9223372036854775808) : fQ 10 64 (fj l) = l := by
  obtain ⟨h1,hd,h0⟩ := h
  have hk : 1 ≤ l.length := by
    rcases l with _ | ⟨x,l⟩
    · exact absurd rfl h1
    · simp only [List.length_cons]; omega
  have hd' : ∀ x ∈ l,eC x.toNat = true := fun x hx=>by
    obtain ⟨i,hi,rfl⟩ := List.getElem_of_mem hx
    have := hd i hi
    simpa [List.getD,List.getElem?_eq_getElem hi] using this
  have hle : l.length ≤ 64 := by
    by_cases h64 : l.length ≤ 64
    · exact h64
    · have := (wA l.length l l.length rfl hk (Nat.le_refl _) hd' h0).2 (.inl (by omega))
      have hp : 10 ^ 64 ≤ 10 ^ (l.length - 1) := Nat.pow_le_pow_right (by decide) (by omega)
      have := akL
      omega
  exact (wA l.length l 64 rfl hk hle hd' h0).1
theorem akA {l : List UInt8} {z : Int} (h : vS l = (z,0)) : l = bV z := by
  unfold vS at h
  split at h
  · injection h with _ h; exact absurd h (by decide)
  · rename_i hl
    split at h
    · rename_i h45
      have h2 : (dL (l.drop 1) 9223372036854775808).2 = 0 := by
        by_cases c : (dL (l.drop 1) 9223372036854775808).2 = 0
        · exact c
        · simp only [c,if_false] at h; injection h with _ h
      simp only [h2,if_true] at h
      obtain ⟨k1,k2,k3⟩ := a09 h2
      rw [k3] at h
      by_cases c : fj (l.drop 1) = 0
      · rw [if_pos c] at h; injection h with _ h; exact absurd h (by decide)
      · rw [if_neg c] at h
        injection h with h _
        unfold bV
        rw [if_pos (by omega),show (-z).toNat = fj (l.drop 1) by omega,a4O k1 k2]
        rcases l with _ | ⟨x,l⟩
        · exact absurd h45 (by decide)
        · have hx : x = 45 := h45
          rw [hx]; rfl
    · simp only at h
      injection h with h h2
      obtain ⟨k1,k2,k3⟩ := a09 h2
      rw [k3] at h
      unfold bV
      rw [if_neg (by omega),show z.toNat = fj l by omega,a4O k1 (by omega)]
theorem a5P {s w : List UInt8} (h : Lib.hasPrefix s w = true) : w ++ Lib.trimPrefix s w = s := by
  unfold Lib.trimPrefix
  rw [if_pos h]
  obtain ⟨r,rfl⟩ := List.isPrefixOf_iff_prefix.1 (show w.isPrefixOf s = true from h)
  rw [List.drop_left]
theorem aiU {s w : List UInt8} (h : (Lib.cut s w).2.2 = true) : (Lib.cut s w).1 ++ (w ++ (Lib.cut s w).2.1) = s := by
  unfold Lib.cut at h ⊢
  rcases Lib.index_spec s w with ⟨h1,_⟩ | ⟨i,h1,h2,h3,_⟩
  · rw [h1,if_neg (by decide)] at h; exact absurd h Bool.false_ne_true
  · rw [h1,if_pos (by omega),Int.toNat_natCast]
    obtain ⟨r,hr⟩ := List.isPrefixOf_iff_prefix.1 (show w.isPrefixOf (s.drop i) = true from h3)
    show s.take i ++ (w ++ s.drop (i + w.length)) = s
    rw [← List.drop_drop,← hr,List.drop_left,hr,List.take_append_drop]
theorem a4M {s w : List UInt8} (h : (eU s w).2.1 = true) : bV (eU s w).1 ++ (w ++ (eU s w).2.2) = s := by
  have h' : (Lib.hasPrefix (s.drop (bK s)) w && decide ((vS (s.take (bK s))).2 = 0)) = true := h
  rw [Bool.and_eq_true,decide_eq_true_eq] at h'
  show bV (vS (s.take (bK s))).1 ++ (w ++ Lib.trimPrefix (s.drop (bK s)) w) = s
  rw [a5P h'.1,← akA (l := s.take (bK s)) (by rw [← h'.2]),List.take_append_drop]
theorem zK (s : List UInt8) : ∀ (l : List (List UInt8)) (i : Nat),j6 s l i ≠ -1 → l.getD (j6 s l i - i).toNat [] = s
  | [],_,h=>absurd rfl h
  | a :: l,i,h=>by
    unfold j6 at h ⊢
    by_cases c : s = a
    · rw [if_pos c,show ((i : Int) - i).toNat = 0 by omega]; exact c.symm
    · rw [if_neg c] at h ⊢
      have ih := zK s l (i + 1) h
      rcases vG s l (i + 1) with e | e
      · exact absurd e h
      · rw [show (j6 s l (i + 1) - i).toNat = (j6 s l (i + 1) - (i + 1 : Nat)).toNat + 1 by omega]
        exact ih
theorem a7Y {s : List UInt8} (h : ¬ db s < 1) : bl (db s).toNat = s := by
  have := zK s qM 0 (by intro e; have : db s = -1 := e; omega)
  have e : db s - ((0 : Nat) : Int) = db s := by omega
  unfold bl
  rw [← e]; exact this
theorem arn {s : List UInt8} (h : vOk s) : vz (vm s) ∧ ep (vm s) = s := by
  obtain ⟨h1,h2,h3,h4,h5,h6,h7⟩ := h
  refine ⟨h7, ?_⟩
  have k4 : bV (v4 s).1 = (v3 s).2.2 := by
    have := a4M (s := (v3 s).2.2) (w := []) h5
    rw [show (eU (v3 s).2.2 []) = v4 s from rfl,h6] at this
    simpa using this
  have k3 : bV (v3 s).1 ++ ([44,32,117,115,101,100,32] ++ (v3 s).2.2) = (v2 s).2.1 := a4M h4
  have k2 : (v2 s).1 ++ ([44,32,102,97,105,108,105,110,103,32] ++ (v2 s).2.1) = v1 s := aiU h3
  have k1 : [101,110,100,101,100,32] ++ v1 s = s := a5P h2
  have ko := a7Y h1
  have e0 : ep (vm s) = [101,110,100,101,100,32] ++ (bl (db (v2 s).1).toNat ++ ([44,32,102,97,105,108,105,110,103,32] ++ (bV (v3 s).1 ++ ([44,32,117,115,101,100,32] ++ bV (v4 s).1)))) := by
    unfold ep vm; simp only [List.append_assoc]
  rw [e0,ko,k4,k3,k2,k1]
theorem ed38 : Ed r38 gEn where
  yes := fun {s x} hs hx=>by
    obtain ⟨h1,h2⟩ := wG hx
    obtain ⟨p1,p2⟩ := xN h1
    rw [h2] at p1 p2
    refine ⟨h1.ok, ?_⟩
    rw [(aat hs).1 p2,p1]
  no := fun {s} hs hx=>by
    refine (aat hs).2 fun hv=>?_
    obtain ⟨h1,h2⟩ := arn hv
    exact a3x hx _ h1 h2
end Go.Proofs.YtpiokjcbadfalaaGreatDoor.Tz
namespace Go.Proofs.YtpiokjcbadfalaaGreatDoor.Ev
section
variable {M : Mem} (ok : mA M)
include ok
end
section
variable {line right outc whole : aF} {m a x xa xb xc : AV} {t : Row} {o n k i : Nat} {acc s word f u : List UInt8} {c : Nat}
theorem ac4 (h1 : mkF (t.at (o + i)) = true) (h2 : oZ (eJ (line.f (.nd m .lf (.nd (t.at (o + i)) .lf .lf)) .empty)) = some (s,0)) : fZ line m t o (k + 1) i acc = fZ line m t o k (i + 1) (acc ++ (s ++ [10])) := by
  rw [fZ,if_pos h1,h2]; rfl
theorem a7J (h1 : mkF (t.at (o + i)) = true) (h2 : oZ (eJ (line.f (.nd m .lf (.nd (t.at (o + i)) .lf .lf)) .empty)) = some (s,c)) (hc : c ≠ 0) : fZ line m t o (k + 1) i acc = some ([],c) := by
  rw [fZ,if_pos h1,h2]; exact if_neg hc
theorem a5J (h1 : bOf (eJ (right.f (.nd x .lf .lf) .empty)) = some false) : mn right outc whole x xa xb xc acc = some ([],8) := by
  rw [mn,h1]
theorem a5K (h1 : bOf (eJ (right.f (.nd x .lf .lf) .empty)) = some true) (h2 : oZ (eJ (outc.f (.nd xa .lf .lf) .empty)) = some (word,0)) (h3 : sOf (eJ (whole.f (.nd xb .lf .lf) .empty)) = some f) (h4 : sOf (eJ (whole.f (.nd xc .lf .lf) .empty)) = some u) :
    mn right outc whole x xa xb xc acc = some (acc ++ a14 word f u,0) := by
  rw [mn,h1]; dsimp only; rw [h2]; dsimp only; rw [h3]; dsimp only; rw [h4]; rfl
theorem ye (h1 : iN a = some (t,o,n)) (h2 : a4a m = true) (h3 : uz x = some (xa,xb,xc)) (h4 : 2000 < n) : lp line right outc whole m a x = some ([],4) := by
  rw [lp,h1]; dsimp only; rw [if_pos h2,h3]; dsimp only; rw [if_pos h4]
theorem a0v (h1 : iN a = some (t,o,n)) (h2 : a4a m = true) (h3 : uz x = some (xa,xb,xc)) (h4 : ¬ 2000 < n) (h5 : fZ line m t o n 0 [] = some (acc,c)) (h6 : c ≠ 0) : lp line right outc whole m a x = some ([],c) := by
  rw [lp,h1]; dsimp only; rw [if_pos h2,h3]; dsimp only; rw [if_neg h4,h5]; dsimp only; rw [if_neg h6]
theorem a5M (h1 : iN a = some (t,o,n)) (h2 : a4a m = true) (h3 : uz x = some (xa,xb,xc)) (h4 : ¬ 2000 < n) (h5 : fZ line m t o n 0 [] = some (acc,0)) : lp line right outc whole m a x = mn right outc whole x xa xb xc acc := by
  rw [lp,h1]; dsimp only; rw [if_pos h2,h3]; dsimp only; rw [if_neg h4,h5]; dsimp only; rw [if_pos rfl]
theorem ahE {T : List UInt8} {z : Nat} (h : lp line right outc whole m a x = some (T,z)) : eJ ((a5L line right outc whole).f (.nd m .lf (.nd a .lf (.nd x .lf .lf))) .empty) = some (.bu (.nd (S T) .lf (.nd (I (z : Int)) .lf .lf)) 2) := by
  unfold a5L
  dsimp only
  rw [h]; rfl
end
end Go.Proofs.YtpiokjcbadfalaaGreatDoor.Ev
namespace Go.Proofs.YtpiokjcbadfalaaGreatDoor.Tz
attribute [local irreducible] mem
theorem ahq {l : List UInt8} {z : Int} (k : Nat) (hk : z = k) (hl : l.length ≤ 1000000) (hz : k ≤ 1000) : oZ (some (.bu (.nd (S l) .lf (.nd (I z) .lf .lf)) 2)) = some (l,k) := by
  show (if 3 = 3 ∧ (z % 18446744073709551616).toNat ≤ 1000 ∧ l.length ≤ 1000000 then some (yj l.length (aR l),(z % 18446744073709551616).toNat) else none) = _
  have e : (z % 18446744073709551616).toNat = k := by omega
  rw [e,if_pos ⟨rfl,hz,hl⟩,fM]
theorem s_ok {l : List UInt8} (hl : l.length ≤ 1000000) : sOf (some (S l)) = some l := by
  show (if l.length ≤ 1000000 then some (yj l.length (aR l)) else none) = _
  rw [if_pos hl,fM]
theorem afL (x : Mk) : mkF x.av = true := by
  show decide (7 = 7 ∧ 3 = 3 ∧ 3 = 3 ∧ 3 = 3 ∧ 3 = 3 ∧ 4 = 4 ∧ 3 = 3 ∧ 4 = 4) = true
  decide
theorem a4F {m : cW} (h : cB m) (hn : m.n ≤ 40) (hnc : ∀ i,i < m.n → m.nc i ≤ 300) {M : Nat → Mk} {n : Nat} {t : Row} (hR : dF 7 n t fun i=>(M i).l) (hM : ∀ i,i < n → (M i).Ok) : ∀ k i,i + k = n → (∀ j,j < i → Fits m (M j)) →
    ((∀ j,j < n → Fits m (M j)) → fZ r5 m.av t 0 k i (pT m M i) = some (pT m M n,0)) ∧ (¬ (∀ j,j < n → Fits m (M j)) → fZ r5 m.av t 0 k i (pT m M i) = some ([],8))
  | 0,i,hi,hf=>by
    obtain rfl : i = n := hi
    exact ⟨fun _=>rfl,fun h=>absurd hf h⟩
  | k + 1,i,hi,hf=>by
    have hin : i < n := by omega
    have e : t.at (0 + i) = (M i).av := by rw [Nat.zero_add]; exact (hR i hin).1
    have e5 := ann h hn hnc (hM i hin)
    by_cases hF : Fits m (M i)
    · rw [if_pos hF] at e5
      have hl := ni hF
      have es : fZ r5 m.av t 0 (k + 1) i (pT m M i) = fZ r5 m.av t 0 k (i + 1) (pT m M (i + 1)) :=
        ac4 (by rw [e]; exact afL _) (by rw [e,e5]; exact ahq (z := (0 : Int)) 0 rfl (by omega) (by decide))
      rw [es]
      exact a4F h hn hnc hR hM k (i + 1) (by omega) fun j hj=>by
        rcases Nat.lt_succ_iff_lt_or_eq.1 hj with q | rfl
        · exact hf j q
        · exact hF
    · refine ⟨fun q=>absurd (q i hin) hF,fun _=>?_⟩
      rw [if_neg hF] at e5
      exact a7J (s := []) (c := 8) (by rw [e]; exact afL _) (by rw [e,e5]; exact ahq (z := (8 : Int)) (l := []) 8 rfl (Nat.zero_le _) (by decide)) (by decide)
set_option maxRecDepth 100000 in
theorem akt {x : En} (hx : x.Ok) (acc : List UInt8) : mn r33 r20 r19 x.av (B8 x.out) (I x.fl) (I x.us) acc = some (if vz x then (acc ++ ep x ++ [10],0) else ([],8)) := by
  obtain ⟨h1,h2,h3⟩ := hx
  have e33 : eJ (r33.f (.nd x.av .lf .lf) .empty) = some (.bool (decide (1 ≤ x.out ∧ x.out ≤ 8 ∧ -1 ≤ x.fl ∧ x.fl < 16 ∧ 0 ≤ x.us ∧ x.us ≤ 2000))) := agY (o := x.out) h2 h3
  by_cases hr : vz x
  · rw [if_pos hr]
    have l1 := jc x.out
    have l2 := cS x.fl
    have l3 := cS x.us
    obtain ⟨p1,q1⟩ := a83 h2
    obtain ⟨p2,q2⟩ := a83 h3
    have ez : lB x.out = 0 := if_pos ⟨hr.1,hr.2.1⟩
    have e := a5K (right := r33) (outc := r20) (whole := r19) (x := x.av) (xa := B8 x.out) (xb := I x.fl) (xc := I x.us) (acc := acc) (word := bl x.out) (f := bV x.fl) (u := bV x.us)
      (by rw [e33]; show some (decide (vz x)) = _; rw [decide_eq_true hr]) (by rw [agW h1]; exact ahq 0 (by rw [ez]) (by omega) (by decide)) (by rw [q1]; exact s_ok (by omega)) (by rw [q2]; exact s_ok (by omega))
    have q : acc ++ a14 (bl x.out) (bV x.fl) (bV x.us) = acc ++ ep x ++ [10] := by
      unfold a14 ep
      simp only [List.append_assoc]
    rw [e,q]
  · rw [if_neg hr]
    exact a5J (by rw [e33]; show some (decide (vz x)) = _; rw [decide_eq_false hr])
theorem ano {m : cW} (h : cB m) (hn : m.n ≤ 40) (hnc : ∀ i,i < m.n → m.nc i ≤ 300) {M : Nat → Mk} {n : Nat} {a : AV} {t : Row} {x : En} (hsl : th m.ty = true ∧ th m.tx = true ∧ th m.fs = true) (ha : iN a = some (t,0,n)) (hR : dF 7 n t fun i=>(M i).l) (hM : ∀ i,i < n → (M i).Ok) (hx : x.Ok) : eJ (r9.f (.nd m.av .lf (.nd a .lf (.nd x.av .lf .lf))) .empty) = some (.bu (.nd (S (txR m M n x).1) .lf (.nd (I (txR m M n x).2) .lf .lf)) 2) := by
  have ht : lp r5 r33 r20 r19 m.av a x.av = some ((txR m M n x).1,(txR m M n x).2.toNat) := by
    have ei : a4a m.av = true := by
      show (decide (3 = 3) && th m.ty && th m.tx && th m.fs) = true
      rw [hsl.1,hsl.2.1,hsl.2.2]; rfl
    have ee : uz x.av = some (B8 x.out,I x.fl,I x.us) := by
      show (if 3 = 3 ∧ 4 = 4 ∧ 3 = 3 ∧ 3 = 3 then some (B8 x.out,I x.fl,I x.us) else none) = _
      rw [if_pos ⟨rfl,rfl,rfl,rfl⟩]
    unfold txR
    by_cases h2 : 2000 < n
    · simp only [if_pos h2]; exact ye ha ei ee h2
    · simp only [if_neg h2]
      obtain ⟨L1,L2⟩ := a4F h hn hnc hR hM n 0 (Nat.zero_add n) fun j hj=>absurd hj (Nat.not_lt_zero j)
      by_cases hal : ∀ j,j < n → Fits m (M j)
      · rw [if_pos hal,a5M ha ei ee h2 (L1 hal),akt hx]
        split <;> rfl
      · rw [if_neg hal]
        exact a0v ha ei ee h2 (L2 hal) (by decide)
  have hz : 0 ≤ (txR m M n x).2 := by unfold txR; split <;> (try split) <;> (try split) <;> simp
  have e := ahE ht
  rw [Int.toNat_of_nonneg hz] at e
  exact e
end Go.Proofs.YtpiokjcbadfalaaGreatDoor.Tz
namespace Go.Proofs.YtpiokjcbadfalaaGreatDoor.Tz
attribute [local irreducible] mem
set_option linter.unusedSimpArgs false
attribute [local congr] dh aP bB dm dj bj dp cj aW cx cy cA bf bC bD aX eN cq cg cu bh bg aQ aS eO bF cn bx bH bE bz cz ck bd bI di bA bG bJ cP ek
set_option maxHeartbeats 4000000
theorem lk (c : UInt8) : ∀ l p,p ∈ aO c l → p.length ≤ l.length
  | [],p,h=>by
    have : p = [] := List.mem_singleton.1 h
    rw [this]; exact Nat.le_refl _
  | b :: l,p,h=>by
    by_cases hb : b = c
    · subst hb
      rw [pL] at h
      rcases List.mem_cons.1 h with rfl | h
      · exact Nat.zero_le _
      · have := lk b l p h; simp only [List.length_cons]; omega
    · have hl := fL c l
      cases hq : aO c l with
      | nil=>rw [hq] at hl; exact absurd hl (by decide)
      | cons a r=>
        rw [lj hb hq] at h
        rcases List.mem_cons.1 h with rfl | h
        · have := lk c l a (by rw [hq]; simp); simp only [List.length_cons]; omega
        · have := lk c l p (by rw [hq]; simp [h]); simp only [List.length_cons]; omega
theorem a2L {G : List UInt8 → Option Mk} : ∀ {L : List (List UInt8)} {r : List Mk},lH G L = some r → r.length = L.length
  | [],r,h=>by injection h with h; subst h; rfl
  | s :: L,r,h=>by
    unfold lH at h
    cases hg : G s with
    | none=>simp only [hg] at h; cases h
    | some x=>
      cases hq : lH G L with
      | none=>simp only [hg,hq] at h; cases h
      | some r2=>
        simp only [hg,hq] at h
        injection h with h
        subst h
        simp only [List.length_cons,a2L hq]
section
variable {m : cW} (h : cB m) (hn : m.n ≤ 40) (hnc : ∀ i,i < m.n → m.nc i ≤ 300) (hnm : ∀ i,i < m.n → (m.nm i).length ≤ 40)
include h hn hnc hnm
end
end Go.Proofs.YtpiokjcbadfalaaGreatDoor.Tz
