import Derived.Test.YtpiokjcbadfalaaGreatDoorEvAP
import Derived.Test.YtpiokjcbadfalaaGreatDoorEvAQ
import Derived.Test.YtpiokjcbadfalaaGreatDoorEvAR
import Derived.Test.YtpiokjcbadfalaaGreatDoorEvAS
import Derived.Test.YtpiokjcbadfalaaGreatDoorEvAT
import Derived.Test.YtpiokjcbadfalaaGreatDoorEvAU
open Go Go.Proofs.YtpiokjcbadfalaaGreatDoor.Ev
namespace Go.Proofs.YtpiokjcbadfalaaGreatDoor.Tz
attribute [local irreducible] mem
set_option linter.unusedSimpArgs false
attribute [local congr] dh aP bB dm dj bj dp cj aW cx cy cA bf bC bD aX eN cq cg cu bh bg aQ aS eO bF cn bx bH bE bz cz ck bd bI di bA bG bJ cP ek
set_option maxHeartbeats 4000000
noncomputable def u1 (s : List UInt8) (o : Nat) : Int × List UInt8 := a7U (s.drop ([101,110,100,101,100,32] ++ bl o ++ [44,32,102,97,105,108,105,110,103,32]).length)
noncomputable def u2 (s : List UInt8) (o : Nat) : Int × List UInt8 := a7U ((u1 s o).2.drop 7)
attribute [local irreducible] u1 u2 a7U
end Go.Proofs.YtpiokjcbadfalaaGreatDoor.Tz
namespace Go.Proofs.YtpiokjcbadfalaaGreatDoor.Tz
noncomputable section
def fF : Sm := o9 Go.Proofs.YtpiokjcbadfalaaGreatDoor.Tz.yJ [1,1,1,0,1,0]
def xl : Fr → Hp → ab := qb Go.Proofs.YtpiokjcbadfalaaGreatDoor.Tz.yJ [1,1,1,0,1,0]
def nu : ab → ab := oy Go.Proofs.YtpiokjcbadfalaaGreatDoor.Tz.yJ [1,1,1,0,1,0]
def pZ : Sm := aT Go.Proofs.YtpiokjcbadfalaaGreatDoor.Tz.yJ [1,1,1,0,1,0,0,0,1]
def tL : Sm := aT Go.Proofs.YtpiokjcbadfalaaGreatDoor.Tz.yJ [1,1,1,0,1]
def js : Sm := aT Go.Proofs.YtpiokjcbadfalaaGreatDoor.Tz.yJ [1,1,1,0,1,0,0,1,0,0,1]
def q8 : Sm := aT Go.Proofs.YtpiokjcbadfalaaGreatDoor.Tz.yJ [1,1,1,0,1,0,0,1,0]
def akY : ab → ab := kO Go.Proofs.YtpiokjcbadfalaaGreatDoor.Tz.yJ
theorem t39 (x0 : AV) (hp : Hp) : r39.f (.nd x0 .lf .lf) hp = akY (xl (.n x0 (.x 8 .lf 0 0 0) (.bool false) (.int 3 0) (.x 8 .lf 0 0 0) (.int 3 0) .uu .uu .e) hp) := (congrArg (fun F=>aF.f F (.nd x0 .lf .lf) hp) (cX Go.Proofs.YtpiokjcbadfalaaGreatDoor.Tz.yJ).symm).trans (by kernel_rfl)
theorem ret39 (x0 x1 x2 x3 x4 x5 : AV) (hp : Hp) : akY (.ret (.n x0 x1 x2 x3 x4 x5 .uu .uu .e) hp) = .val (.bu (.nd x1 .lf (.nd x2 .lf .lf)) 2) hp := by kernel_rfl
theorem pX (x0 x1 x2 x3 x4 x5 : AV) (hp : Hp) : (fF).run .lf (.n x0 x1 x2 x3 x4 x5 .uu .uu .e) hp = dX mem 0 x0 hp (fun v0=>au (Nat.ble v0 9223372036854775807) ((ar .lss 3).f x3 (.int 3 v0) (fun v1=>AV.aJ v1 (fun v2=>when v2 ((pZ).run .lf (.n x0 x1 x2 x3 x4 x5 .uu .uu .e) hp) (.exit 0 (.n x0 x1 x2 x3 x4 x5 .uu .uu .e) hp))))) := by kernel_rfl
theorem yR (fr : Fr) (hp : Hp) : xl fr hp = nu (b8 fF 1000000 fr hp) := rfl
theorem a29 (fr : Fr) (hp : Hp) : nu (.exit 0 fr hp) = (tL).run .lf fr hp := by kernel_rfl
theorem tM (x0 x1 x2 x3 x4 x5 : AV) (hp : Hp) : (pZ).run .lf (.n x0 x1 x2 x3 x4 x5 .uu .uu .e) hp = AV.eE x0 (fun v3 v4=>iG x3 v4 (fun v5=>bQ 4 (Nat.mod (Nat.div v3 (Nat.pow 256 v5)) 256) (fun v6=>(ar .eql 4).f v6 (.int 4 10) (fun v7=>AV.aJ v7 (fun v8=>when v8 (fc x0 (.some x5) (.some x3) (fun v9=>mF mem (br mem) 1 (Tr.full (S []) 2) 1 1 (.cons (.mk 0 (fun v10=>v10 v9)) .nil) hp (fun v11 v12=>cT mem (br mem) 1 x4 v11 v12 (fun v13 v14=>(ar .add 3).f x3 (.int 3 1) (fun v15=>(js).run .lf (.n x0 x1 x2 x3 v13 v15 .uu .uu .e) v14))))) ((js).run .lf (.n x0 x1 x2 x3 x4 x5 .uu .uu .e) hp)))))) := by kernel_rfl
theorem rX (x0 x1 x2 x3 x4 x5 : AV) (hp : Hp) : (tL).run .lf (.n x0 x1 x2 x3 x4 x5 .uu .uu .e) hp = dX mem 0 x0 hp (fun v16=>au (Nat.ble v16 9223372036854775807) ((ar .eql 3).f x5 (.int 3 v16) (fun v17=>.ret (.n x0 x4 v17 x3 x4 x5 .uu .uu .e) hp))) := by kernel_rfl
theorem qx (x0 x1 x2 x3 x4 x5 : AV) (hp : Hp) : (js).run .lf (.n x0 x1 x2 x3 x4 x5 .uu .uu .e) hp = (q8).run .lf (.n x0 x1 x2 x3 x4 x5 .uu .uu .e) hp := by kernel_rfl
theorem tN (x0 x1 x2 x3 x4 x5 : AV) (hp : Hp) : (q8).run .lf (.n x0 x1 x2 x3 x4 x5 .uu .uu .e) hp = (ar .add 3).f x3 (.int 3 1) (fun v18=>.ok (.n x0 x1 x2 v18 x4 x5 .uu .uu .e) hp) := by kernel_rfl
end
attribute [local irreducible] mem
set_option linter.unusedSimpArgs false
attribute [local congr] dh aP bB dm dj bj dp cj aW cx cy cA bf bC bD aX eN cq cg cu bh bg aQ aS eO bF cn bx bH bE bz cz ck bd bI di bA bG bJ cP ek
set_option maxHeartbeats 4000000
theorem pL {c : UInt8} {l : List UInt8} : aO c (c :: l) = [] :: aO c l := by
  show (Bool.rec (motive := fun _=>List (List UInt8)) _ ([] :: aO c l) (Nat.beq c.toNat c.toNat)) = _
  rw [cb]
theorem lj {c b : UInt8} {l p : List UInt8} {r : List (List UInt8)} (h : b ≠ c) (e : aO c l = p :: r) : aO c (b :: l) = (b :: p) :: r := by
  show (Bool.rec (motive := fun _=>List (List UInt8)) (List.rec (motive := fun _=>List (List UInt8)) [[b]] (fun p r _=>(b :: p) :: r) (aO c l)) ([] :: aO c l) (Nat.beq b.toNat c.toNat)) = _
  rw [e,iD (fun h2=>h (UInt8.toNat_inj.1 h2))]
def pre (q : List UInt8) : List (List UInt8) → List (List UInt8)
  | []=>[q]
  | p :: r=>(q ++ p) :: r
theorem anY {s : List UInt8} {i f : Nat} {a x1 x2 : AV} {done : List (List UInt8)} {hp : Hp} (hs : s.length ≤ 99000) (hi : i < s.length) (hf : f ≤ i) (hpr : hp.pr = []) (hnx : hp.nx ≤ 2 * i) (ha : my 1 hp a (done.map S)) (hd : done.length ≤ i) :
    (s.getD i 0 ≠ 10 → (fF).run .lf (.n (S s) x1 x2 (I i) a (I f) .uu .uu .e) hp = .ok (.n (S s) x1 x2 (I ((i : Int) + 1)) a (I f) .uu .uu .e) hp) ∧
    (s.getD i 0 = 10 → ∃ a' hp',my 1 hp' a' ((done ++ [(s.take i).drop f]).map S) ∧ hp'.nx = hp.nx + 2 ∧ hp'.pr = [] ∧ (fF).run .lf (.n (S s) x1 x2 (I i) a (I f) .uu .uu .e) hp = .ok (.n (S s) x1 x2 (I ((i : Int) + 1)) a' (I ((i : Int) + 1)) .uu .uu .e) hp') := by
  obtain ⟨a',hp',g1,g2,g3,-,-,g4⟩ := ad6 (Tr.full (S []) 2) (z := 1) (v := S ((s.take i).drop f)) ⟨Nat.le_refl 1,by omega⟩ (.inl ⟨rfl,True.intro,rfl⟩) ha (by omega) hpr (by rw [List.length_map]; omega)
  generalize hr : (fF).run .lf (.n (S s) x1 x2 (I i) a (I f) .uu .uu .e) hp = r
  simp +contextual (maxSteps := 2000000) (disch := (first | omega | (simp only [Y2,List.length_drop,List.length_take] <;> omega) | ((repeat' (first | exact aw | apply aq | apply ay | refine ax (by omega) ?_ ?_)) <;> (simp (disch := (first | omega | (simp only [Y5] <;> omega))) only [Y4,nd @aD,nd @aE,aj,Nat.reduceAdd,Nat.reduceEqDiff,reduceIte, *])) | (simp (disch := omega) only [Y4,nd @aD,nd @aE,aj,Nat.reduceAdd,Nat.reduceEqDiff,reduceIte]; done) | assumption | exact bL _ | exact bY _ | exact bX _ | exact bZ _ | exact True.intro | rfl)) only [Y1,Y3,pX,tM,rX,qx,tN,Int.reduceLT,Int.reduceLE,Int.reduceEq,Int.reduceNeg,Int.reduceToNat,Nat.reduceAdd,Nat.reduceEqDiff,reduceIte,Nat.reduceLeDiff,Nat.reduceSub,g4] at hr
  subst hr
  have hlt : (i : Int) < s.length := by omega
  rw [if_pos hlt]
  refine ⟨fun h=>if_neg fun h2=>h (UInt8.toNat_inj.1 h2),fun h=>?_⟩
  refine ⟨a',hp', ?_,g2,g3,if_pos (by rw [h]; rfl)⟩
  rw [List.map_append]; exact g1
theorem yd {s : List UInt8} {i f : Nat} (hi : i < s.length) (hf : f ≤ i) : (s.take (i + 1)).drop f = (s.take i).drop f ++ [s.getD i 0] := by
  rw [List.take_succ_eq_append_getElem hi,List.drop_append_of_le_length (by rw [List.length_take]; omega)]
  simp [List.getD,hi]
theorem a7L {s : List UInt8} {x1 x2 : AV} (hs : s.length ≤ 99000) : ∀ (n i f fuel : Nat) (a : AV) (done : List (List UInt8)) (hp : Hp),s.length - i = n → i ≤ s.length → f ≤ i → n < fuel → hp.pr = [] → hp.nx ≤ 2 * i → my 1 hp a (done.map S) → done.length ≤ i →
    ∃ a' hp' done' f' z,my 1 hp' a' (done'.map S) ∧ hp'.nx ≤ 2 * s.length ∧ f' ≤ s.length ∧ done' ++ [s.drop f'] = done ++ pre ((s.take i).drop f) (aO 10 (s.drop i)) ∧
      nu (b8 fF fuel (.n (S s) x1 x2 (I i) a (I f) .uu .uu .e) hp) = (tL).run .lf (.n (S s) x1 x2 z a' (I f') .uu .uu .e) hp'
  | n,i,f,0,a,done,hp,_,_,_,hfu,_,_,_,_=>absurd hfu (Nat.not_lt_zero _)
  | n, i, f, fuel + 1, a, done, hp, hn, hi, hf, hfu, hpr, hnx, ha, hd => by
    by_cases hlt : i < s.length
    · have hb := anY (x1 := x1) (x2 := x2) hs hlt hf hpr hnx ha hd
      have hc : s.drop i = s.getD i 0 :: s.drop (i + 1) := by
        rw [List.drop_eq_getElem_cons hlt]; simp [List.getD,hlt]
      by_cases h10 : s.getD i 0 = 10
      · obtain ⟨a',hp',g1,g2,g3,g4⟩ := hb.2 h10
        rw [gv g4]
        obtain ⟨a2,hp2,d2,f2,z,k1,k2,k3,k4,k5⟩ := a7L (x1 := x1) (x2 := x2) hs (n - 1) (i + 1) (i + 1) fuel a' (done ++ [(s.take i).drop f]) hp' (by omega) (by omega) (Nat.le_refl _) (by omega) g3 (by omega) g1 (by rw [List.length_append]; simp only [List.length_cons,List.length_nil]; omega)
        refine ⟨a2,hp2,d2,f2,z,k1,k2,k3, ?_,k5⟩
        rw [k4,hc,h10,pL]
        have e0 : (s.take (i + 1)).drop (i + 1) = [] := List.drop_eq_nil_of_le (by rw [List.length_take]; omega)
        rw [e0,List.append_assoc]
        congr 1
        have hl := fL 10 (s.drop (i + 1))
        show [_] ++ pre [] _ = (_ ++ []) :: _
        rw [List.append_nil]
        cases hq : aO 10 (s.drop (i + 1)) with
        | nil=>rw [hq] at hl; exact absurd hl (by decide)
        | cons p r=>rfl
      · rw [gv (hb.1 h10)]
        obtain ⟨a2,hp2,d2,f2,z,k1,k2,k3,k4,k5⟩ := a7L (x1 := x1) (x2 := x2) hs (n - 1) (i + 1) f fuel a done hp (by omega) (by omega) (by omega) (by omega) hpr (by omega) ha (by omega)
        refine ⟨a2,hp2,d2,f2,z,k1,k2,k3, ?_,k5⟩
        rw [k4,hc,yd hlt hf]
        congr 1
        have hl := fL 10 (s.drop (i + 1))
        cases hq : aO 10 (s.drop (i + 1)) with
        | nil=>rw [hq] at hl; exact absurd hl (by decide)
        | cons p r=>
          rw [lj h10 hq]
          show (_ ++ [_] ++ p) :: r = (_ ++ (_ :: p)) :: r
          rw [List.append_assoc]; rfl
    · have hie : i = s.length := by omega
      have hb : (fF).run .lf (.n (S s) x1 x2 (I i) a (I f) .uu .uu .e) hp = .exit 0 (.n (S s) x1 x2 (I i) a (I f) .uu .uu .e) hp := by
        generalize hr : (fF).run .lf (.n (S s) x1 x2 (I i) a (I f) .uu .uu .e) hp = r
        simp +contextual (maxSteps := 2000000) (disch := (first | omega | (simp only [Y2,List.length_drop,List.length_take] <;> omega) | ((repeat' (first | exact aw | apply aq | apply ay | refine ax (by omega) ?_ ?_)) <;> (simp (disch := (first | omega | (simp only [Y5] <;> omega))) only [Y4,nd @aD,nd @aE,aj,Nat.reduceAdd,Nat.reduceEqDiff,reduceIte, *])) | (simp (disch := omega) only [Y4,nd @aD,nd @aE,aj,Nat.reduceAdd,Nat.reduceEqDiff,reduceIte]; done) | assumption | exact bL _ | exact bY _ | exact bX _ | exact bZ _ | exact True.intro | rfl)) only [Y1,Y3,pX,Int.reduceLT,Int.reduceLE,Int.reduceEq,Int.reduceNeg,Int.reduceToNat,Nat.reduceAdd,Nat.reduceEqDiff,reduceIte,Nat.reduceLeDiff,Nat.reduceSub] at hr
        rw [← hr,if_neg (by omega)]
      refine ⟨a,hp,done,f,_,ha,by omega,by omega, ?_,(congrArg nu (fR hb)).trans (a29 _ _)⟩
      rw [hie,List.drop_length,List.take_length]
      show _ = done ++ [s.drop f ++ []]
      rw [List.append_nil]
theorem auI {s : List UInt8} (hs : s.length ≤ 99000) : ∃ a h ls last,my 1 h a (ls.map S) ∧ h.nx ≤ 1000000 ∧ ls ++ [last] = aO 10 s ∧ r39.f (.nd (S s) .lf .lf) .empty = .val (.bu (.nd a .lf (aA [.bool (decide (last = []))])) 2) h := by
  generalize hr : r39.f (.nd (S s) .lf .lf) .empty = r
  simp +contextual (maxSteps := 2000000) (disch := (first | omega | (simp only [Y2,List.length_drop,List.length_take] <;> omega) | ((repeat' (first | exact aw | apply aq | apply ay | refine ax (by omega) ?_ ?_)) <;> (simp (disch := (first | omega | (simp only [Y5] <;> omega))) only [Y4,nd @aD,nd @aE,aj,Nat.reduceAdd,Nat.reduceEqDiff,reduceIte, *])) | (simp (disch := omega) only [Y4,nd @aD,nd @aE,aj,Nat.reduceAdd,Nat.reduceEqDiff,reduceIte]; done) | assumption | exact bL _ | exact bY _ | exact bX _ | exact bZ _ | exact True.intro | rfl)) only [Y1,Y3,t39,yR,Int.reduceLT,Int.reduceLE,Int.reduceEq,Int.reduceNeg,Int.reduceToNat,Nat.reduceAdd,Nat.reduceEqDiff,reduceIte,Nat.reduceLeDiff,Nat.reduceSub] at hr
  obtain ⟨a,h,ls,f,z,k1,k2,k3,k4,k5⟩ := a7L (x1 := .x 8 .lf 0 0 0) (x2 := .bool false) hs s.length 0 0 1000000 (.x 8 .lf 0 0 0) [] .empty rfl (Nat.zero_le _) (Nat.le_refl _) (by omega) rfl (Nat.le_refl _) (.inl ⟨rfl,rfl⟩) (Nat.le_refl _)
  refine ⟨a,h,ls,s.drop f,k1,by omega, ?_, ?_⟩
  · rw [k4]
    show pre (List.drop 0 (List.take 0 s)) (aO 10 s) = aO 10 s
    have hl := fL 10 s
    cases hq : aO 10 s with
    | nil=>rw [hq] at hl; exact absurd hl (by decide)
    | cons p r=>rfl
  · have hr2 := hr
    rw [show (I 0) = I ((0 : Nat) : Int) from rfl,k5] at hr2
    simp +contextual (maxSteps := 2000000) (disch := (first | omega | (simp only [Y2,List.length_drop,List.length_take] <;> omega) | ((repeat' (first | exact aw | apply aq | apply ay | refine ax (by omega) ?_ ?_)) <;> (simp (disch := (first | omega | (simp only [Y5] <;> omega))) only [Y4,nd @aD,nd @aE,aj,Nat.reduceAdd,Nat.reduceEqDiff,reduceIte, *])) | (simp (disch := omega) only [Y4,nd @aD,nd @aE,aj,Nat.reduceAdd,Nat.reduceEqDiff,reduceIte]; done) | assumption | exact bL _ | exact bY _ | exact bX _ | exact bZ _ | exact True.intro | rfl)) only [Y1,Y3,rX,Int.reduceLT,Int.reduceLE,Int.reduceEq,Int.reduceNeg,Int.reduceToNat,Nat.reduceAdd,Nat.reduceEqDiff,reduceIte,Nat.reduceLeDiff,Nat.reduceSub,ret39] at hr2
    rw [← hr2]
    have e : decide ((f : Int) = (s.length : Int)) = decide (s.drop f = []) := by
      congr 1
      rw [List.drop_eq_nil_iff]
      apply propext
      omega
    rw [e]; rfl
end Go.Proofs.YtpiokjcbadfalaaGreatDoor.Tz
namespace Go.Proofs.YtpiokjcbadfalaaGreatDoor.Tz
attribute [local irreducible] mem
set_option linter.unusedSimpArgs false
attribute [local congr] dh aP bB dm dj bj dp cj aW cx cy cA bf bC bD aX eN cq cg cu bh bg aQ aS eO bF cn bx bH bE bz cz ck bd bI di bA bG bJ cP ek
set_option maxHeartbeats 4000000
structure Rd (F : aF) (m : cW) (G : List UInt8 → Option Mk) : Prop where
  yes : ∀ {s x},s.length ≤ 100000 → G s = some x → x.Ok ∧ eJ (F.f (.nd m.av .lf (.nd (S s) .lf .lf)) .empty) = some (ahO x)
  no : ∀ {s},s.length ≤ 100000 → G s = none → ∃ e : Int,1 ≤ e ∧ e ≤ 12 ∧ eJ (F.f (.nd m.av .lf (.nd (S s) .lf .lf)) .empty) = some (noMk e)
theorem Rd.a8S {F : aF} {m : cW} {G : List UInt8 → Option Mk} (hG : Rd F m G) (hm : cB m) {s : List UInt8} {x : Mk} (hs : s.length ≤ 100000) (hx : G s = some x) (hp : Hp) (k : AV → Hp → ab) : aH mem false F (.nd (.agg (aA [m.ty,m.tx,m.fs]) 3) .lf (.nd (S s) .lf .lf)) hp k = k (.bu (.nd (.agg (aA [I x.step,I x.g,I x.f,I x.at',B8 x.op,I x.fr,B8 x.out]) 7) .lf (.nd (I 0) .lf .lf)) 2) hp :=
  pf (cW.pb hm (fk (.nd (c8 _) .lf))) (kj (rQ (by rfl)) (kT _)) (hG.yes hs hx).2 hp k
theorem Rd.adh {F : aF} {m : cW} {G : List UInt8 → Option Mk} (hG : Rd F m G) (hm : cB m) {s : List UInt8} (hs : s.length ≤ 100000) (hx : G s = none) : ∃ e : Int,(1 ≤ e ∧ e ≤ 12) ∧ ∀ (hp : Hp) (k : AV → Hp → ab),aH mem false F (.nd (.agg (aA [m.ty,m.tx,m.fs]) 3) .lf (.nd (S s) .lf .lf)) hp k = k (.bu (.nd (.agg (aA [I 0,I 0,I 0,I 0,B8 0,I 0,B8 0]) 7) .lf (.nd (I e) .lf .lf)) 2) hp := by
  obtain ⟨e,h1,h2,h3⟩ := hG.no hs hx
  exact ⟨e,⟨h1,h2⟩,fun hp k=>pf (cW.pb hm (fk (.nd (c8 _) .lf))) (kj (rQ (by rfl)) (kT _)) h3 hp k⟩
def lH (G : List UInt8 → Option Mk) : List (List UInt8) → Option (List Mk)
  | []=>some []
  | s :: r=>match G s with
    | none=>none
    | some x=>(match lH G r with
      | none=>none
      | some l=>some (x :: l))
theorem my.len1 {h : Hp} {a : AV} {l : List AV} {z : Nat} (ha : my z h a l) (hl : l ≠ []) : ∃ c t,a = .ms c 0 l.length z ∧ c < h.nx ∧ h.at c = .row true true z (l.length * z) t ∧ ∀ j,j < l.length → t.at j = l.getD j .uu := by
  rcases ha with ⟨_,h2⟩ | h
  · exact absurd h2 hl
  · exact h
end Go.Proofs.YtpiokjcbadfalaaGreatDoor.Tz
namespace Go.Proofs.YtpiokjcbadfalaaGreatDoor.Tz
attribute [local irreducible] mem
set_option linter.unusedSimpArgs false
attribute [local congr] dh aP bB dm dj bj dp cj aW cx cy cA bf bC bD aX eN cq cg cu bh bg aQ aS eO bF cn bx bH bE bz cz ck bd bI di bA bG bJ cP ek
set_option maxHeartbeats 4000000
structure Ed (F : aF) (E : List UInt8 → Option En) : Prop where
  yes : ∀ {s x},s.length ≤ 50000 → E s = some x → x.Ok ∧ eJ (F.f (.nd (S s) .lf .lf) .empty) = some (.bu (.nd x.av .lf (.nd (.bool true) .lf .lf)) 2)
  no : ∀ {s},s.length ≤ 50000 → E s = none → ∃ x : En,eJ (F.f (.nd (S s) .lf .lf) .empty) = some (.bu (.nd x.av .lf (.nd (.bool false) .lf .lf)) 2)
theorem Ed.a8S {F : aF} {E : List UInt8 → Option En} (hE : Ed F E) {s : List UInt8} {x : En} (hs : s.length ≤ 50000) (hx : E s = some x) (hp : Hp) (k : AV → Hp → ab) : aH mem false F (.nd (S s) .lf .lf) hp k = k (.bu (.nd (.agg (aA [B8 x.out,I x.fl,I x.us]) 3) .lf (.nd (.bool true) .lf .lf)) 2) hp :=
  jD (.nd (c8 _) .lf) (kj (rQ (by rfl)) (a3z _)) (hE.yes hs hx).2 hp k
theorem Ed.adh {F : aF} {E : List UInt8 → Option En} (hE : Ed F E) {s : List UInt8} (hs : s.length ≤ 50000) (hx : E s = none) : ∃ x : En,∀ (hp : Hp) (k : AV → Hp → ab),aH mem false F (.nd (S s) .lf .lf) hp k = k (.bu (.nd (.agg (aA [B8 x.out,I x.fl,I x.us]) 3) .lf (.nd (.bool false) .lf .lf)) 2) hp := by
  obtain ⟨x,h⟩ := hE.no hs hx
  exact ⟨x,fun hp k=>jD (.nd (c8 _) .lf) (kj (rQ (by rfl)) (a3z _)) h hp k⟩
def rdL (G : List UInt8 → Option Mk) (E : List UInt8 → Option En) (ls : List (List UInt8)) (last : List UInt8) : Option (List Mk × En) :=
  if last = [] ∧ 1 ≤ ls.length ∧ ls.length ≤ 2001 then (match E (ls.getD (ls.length - 1) []) with
    | none=>none
    | some x=>(match lH G ls.dropLast with
      | none=>none
      | some r=>some (r,x)))
  else none
def RdIs (o : Option (List Mk × En)) (r : ab) : Prop := ∃ a h,(match o with
  | some (l,x)=>my 7 h a (l.map Mk.av) ∧ r = .val (.bu (.nd a .lf (aA [x.av,I 0])) 3) h
  | none=>my 7 h a [] ∧ r = .val (.bu (.nd a .lf (aA [En.av ⟨0,0,0⟩,I 12])) 3) h) ∧ h.nx ≤ 1000000
end Go.Proofs.YtpiokjcbadfalaaGreatDoor.Tz
namespace Go.Proofs.YtpiokjcbadfalaaGreatDoor.Tz
noncomputable section
def a9v : Sm := aT Go.Proofs.YtpiokjcbadfalaaGreatDoor.Tz.tB [1,0,1]
def wQ : Sm := aT Go.Proofs.YtpiokjcbadfalaaGreatDoor.Tz.tB [1,1,1,1,0,1]
def rT : Sm := aT Go.Proofs.YtpiokjcbadfalaaGreatDoor.Tz.tB [1,1,1,1,1,1,0,1]
def cf : Sm := o9 Go.Proofs.YtpiokjcbadfalaaGreatDoor.Tz.tB [1,1,1,1,1,1,1,1,0,1,0]
def nJ : Fr → Hp → ab := qb Go.Proofs.YtpiokjcbadfalaaGreatDoor.Tz.tB [1,1,1,1,1,1,1,1,0,1,0]
def dD : ab → ab := oy Go.Proofs.YtpiokjcbadfalaaGreatDoor.Tz.tB [1,1,1,1,1,1,1,1,0,1,0]
def ku : Sm := aT Go.Proofs.YtpiokjcbadfalaaGreatDoor.Tz.tB [1,1,1,1,1,1,1,1,0,1,0,0,1,0]
def kr : Sm := aT Go.Proofs.YtpiokjcbadfalaaGreatDoor.Tz.tB [1,1,1,1,1,1,1,1,0,1]
def gj : Sm := aT Go.Proofs.YtpiokjcbadfalaaGreatDoor.Tz.tB [1,1,1,1,1,1,1,1,0,1,0,0,1,1,0,0,1,1,0,1]
def jz : Sm := aT Go.Proofs.YtpiokjcbadfalaaGreatDoor.Tz.tB [1,1,1,1,1,1,1,1,0,1,0,0,1,1,0]
def aed : ab → ab := kO Go.Proofs.YtpiokjcbadfalaaGreatDoor.Tz.tB
theorem t11 (x0 x1 : AV) (hp : Hp) : r11.f (.nd x0 .lf (.nd x1 .lf .lf)) hp = aed (dU mem (br mem) x0 3 3 hp (fun v0 v1=>dU mem (br mem) (AV.agg (aA [.int 4 0,.int 3 0,.int 3 0]) 3) 3 3 v1 (fun v2 v3=>dX mem 0 x1 v3 (fun v4=>au (Nat.ble v4 9223372036854775807) ((ar .gtr 3).f (.int 3 v4) (.int 3 300000) (fun v5=>AV.aJ v5 (fun v6=>when v6 (bk mem 3 v2 (AV.agg (aA [.int 4 0,.int 3 0,.int 3 0]) 3) v3 (fun v7=>.ret (.n x0 x1 (.x 8 .lf 0 0 0) v2 (.int 3 4) .uu .uu .uu (.n .uu .uu v0 .uu .uu .uu .uu .uu .e)) v7)) ((a9v).run .lf (.n x0 x1 (.x 8 .lf 0 0 0) v2 (.int 3 0) .uu .uu .uu (.n .uu .uu v0 .uu .uu .uu .uu .uu .e)) v3)))))))) := (congrArg (fun F=>aF.f F (.nd x0 .lf (.nd x1 .lf .lf)) hp) (cX Go.Proofs.YtpiokjcbadfalaaGreatDoor.Tz.tB).symm).trans (by kernel_rfl)
theorem aav (x0 x1 x2 x3 x4 x5 x6 x7 x8 x9 x10 x11 x12 x13 : AV) (hp : Hp) : aed (.ret (.n x0 x1 x2 x3 x4 x5 x6 x7 (.n x8 x9 x10 x11 x12 x13 .uu .uu .e)) hp) = aI mem true 3 x3 hp (fun v8=>.val (.bu (.nd x2 .lf (.nd v8 .lf (.nd x4 .lf .lf))) 3) hp) := by kernel_rfl
theorem mR (x0 x1 x2 x3 x4 x5 x6 x7 x8 x9 x10 x11 x12 x13 : AV) (hp : Hp) : (a9v).run .lf (.n x0 x1 x2 x3 x4 x5 x6 x7 (.n x8 x9 x10 x11 x12 x13 .uu .uu .e)) hp = aH mem false r37 (.nd x1 .lf (.nd (S [10]) .lf .lf)) hp (fun v9 v10=>dX mem 1 v9 v10 (fun v11=>au (Nat.ble v11 9223372036854775807) ((ar .sub 3).f (.int 3 v11) (.int 3 2) (fun v12=>(ar .lss 3).f v12 (.int 3 0) (fun v13=>gd v13 false v10 (fun k14=>k14 v12 v10) (fun v15 v16=>gd v13 false v16 (fun k17=>(ar .gtr 3).f v15 (.int 3 2000) (fun v18=>k17 v18 v16)) (fun v19 v20=>bo v13 (fun v21=>v21 (.bool true)) (fun v22=>v22 v19) (fun v23=>gd v23 false v20 (fun k24=>k24 v9 v20) (fun v25 v26=>gd v23 false v26 (fun k27=>k27 v12 v26) (fun v28 v29=>gd v23 false v29 (fun k30=>(ar .add 3).f v28 (.int 3 1) (fun v31=>k30 v31 v29)) (fun v32 v33=>gd v23 false v33 (fun k34=>indexAddr 1 v25 v32 (fun v35=>k34 v35 v33)) (fun v36 v37=>gd v23 false v37 (fun k38=>aI mem false 1 v36 v37 (fun v39=>k38 v39 v37)) (fun v40 v41=>gd v23 false v41 (fun k42=>(gM .neq).f v40 (S []) (fun v43=>k42 v43 v41)) (fun v44 v45=>bo v23 (fun v46=>v46 (.bool true)) (fun v47=>v47 v44) (fun v48=>AV.aJ v48 (fun v49=>when v49 (bk mem 3 x3 (AV.agg (aA [.int 4 0,.int 3 0,.int 3 0]) 3) v45 (fun v50=>.ret (.n x0 x1 (.x 8 .lf 0 0 0) x3 (.int 3 12) v9 v12 x7 (.n x8 x9 x10 x11 x12 x13 .uu .uu .e)) v50)) ((wQ).run .lf (.n x0 x1 x2 x3 x4 v9 v12 x7 (.n x8 x9 x10 x11 x12 x13 .uu .uu .e)) v45))))))))))))))))) := by kernel_rfl
theorem gh (x0 x1 x2 x3 x4 x5 x6 x7 x8 x9 x10 x11 x12 x13 : AV) (hp : Hp) : (wQ).run .lf (.n x0 x1 x2 x3 x4 x5 x6 x7 (.n x8 x9 x10 x11 x12 x13 .uu .uu .e)) hp = indexAddr 1 x5 x6 (fun v51=>aI mem false 1 v51 hp (fun v52=>aH mem false r38 (.nd v52 .lf .lf) hp (fun v53 v54=>bS 0 v53 (fun v55=>bS 1 v53 (fun v56=>dU mem (br mem) (AV.agg (aA [.int 4 0,.int 3 0,.int 3 0]) 3) 3 3 v54 (fun v57 v58=>bk mem 3 v57 v55 v58 (fun v59=>AV.aJ v56 (fun v60=>when (de v60) (bk mem 3 x3 (AV.agg (aA [.int 4 0,.int 3 0,.int 3 0]) 3) v59 (fun v61=>.ret (.n x0 x1 (.x 8 .lf 0 0 0) x3 (.int 3 12) x5 x6 x7 (.n x8 x9 x10 x11 x12 v57 .uu .uu .e)) v61)) ((rT).run .lf (.n x0 x1 x2 x3 x4 x5 x6 x7 (.n x8 x9 x10 x11 x12 v57 .uu .uu .e)) v59))))))))) := by kernel_rfl
theorem gu (x0 x1 x2 x3 x4 x5 x6 x7 x8 x9 x10 x11 x12 x13 : AV) (hp : Hp) : (rT).run .lf (.n x0 x1 x2 x3 x4 x5 x6 x7 (.n x8 x9 x10 x11 x12 x13 .uu .uu .e)) hp = eS 1 x5 .none (.some x6) .none (fun v62=>dX mem 1 v62 hp (fun v63=>au (Nat.ble v63 9223372036854775807) (nJ (.n x0 x1 x2 x3 x4 x5 x6 (.int 3 0) (.n (.int 3 v63) v62 x10 (.x 8 .lf 0 0 0) x12 x13 .uu .uu .e)) hp))) := by kernel_rfl
theorem gz (x0 x1 x2 x3 x4 x5 x6 x7 x8 x9 x10 x11 x12 x13 : AV) (hp : Hp) : (cf).run .lf (.n x0 x1 x2 x3 x4 x5 x6 x7 (.n x8 x9 x10 x11 x12 x13 .uu .uu .e)) hp = (ar .lss 3).f x7 x8 (fun v64=>AV.aJ v64 (fun v65=>when v65 ((ku).run .lf (.n x0 x1 x2 x3 x4 x5 x6 x7 (.n x8 x9 x10 x11 x12 x13 .uu .uu .e)) hp) (.exit 0 (.n x0 x1 x2 x3 x4 x5 x6 x7 (.n x8 x9 x10 x11 x12 x13 .uu .uu .e)) hp))) := by kernel_rfl
theorem qB (fr : Fr) (hp : Hp) : nJ fr hp = dD (b8 cf 1000000 fr hp) := rfl
theorem sZ (fr : Fr) (hp : Hp) : dD (.exit 0 fr hp) = (kr).run .lf fr hp := by kernel_rfl
theorem pU (fr : Fr) (hp : Hp) : dD (.ret fr hp) = .ret fr hp := by kernel_rfl
theorem fo (x0 x1 x2 x3 x4 x5 x6 x7 x8 x9 x10 x11 x12 x13 : AV) (hp : Hp) : (ku).run .lf (.n x0 x1 x2 x3 x4 x5 x6 x7 (.n x8 x9 x10 x11 x12 x13 .uu .uu .e)) hp = indexAddr 1 x9 x7 (fun v66=>aI mem false 1 v66 hp (fun v67=>aI mem true 3 x10 hp (fun v68=>aH mem false r7 (.nd v68 .lf (.nd v67 .lf .lf)) hp (fun v69 v70=>bS 0 v69 (fun v71=>bS 1 v69 (fun v72=>dU mem (br mem) (AV.agg (aA [.int 3 0,.int 3 0,.int 3 0,.int 3 0,.int 4 0,.int 3 0,.int 4 0]) 7) 7 7 v70 (fun v73 v74=>bk mem 7 v73 v71 v74 (fun v75=>(ar .neq 3).f v72 (.int 3 0) (fun v76=>AV.aJ v76 (fun v77=>when v77 (bk mem 3 x3 (AV.agg (aA [.int 4 0,.int 3 0,.int 3 0]) 3) v75 (fun v78=>.ret (.n x0 x1 (.x 8 .lf 0 0 0) x3 (.int 3 12) x5 x6 x7 (.n x8 x9 x10 x11 v73 x13 .uu .uu .e)) v78)) ((gj).run .lf (.n x0 x1 x2 x3 x4 x5 x6 x7 (.n x8 x9 x10 x11 v73 x13 .uu .uu .e)) v75))))))))))) := by kernel_rfl
theorem fw (x0 x1 x2 x3 x4 x5 x6 x7 x8 x9 x10 x11 x12 x13 : AV) (hp : Hp) : (kr).run .lf (.n x0 x1 x2 x3 x4 x5 x6 x7 (.n x8 x9 x10 x11 x12 x13 .uu .uu .e)) hp = kh 5 hp (fun v79=>aI mem true 3 x13 v79 (fun v80=>fB mem .nil .nil v79 (fun h81=>bk mem 3 x3 v80 h81 (fun v82=>.val (.bu .lf 0) v82)) (fun v83 _=>.ret (.n x0 x1 x11 x3 (.int 3 0) x5 x6 x7 (.n x8 x9 x10 x11 x12 x13 .uu .uu .e)) v83))) := by kernel_rfl
theorem dH (x0 x1 x2 x3 x4 x5 x6 x7 x8 x9 x10 x11 x12 x13 : AV) (hp : Hp) : (gj).run .lf (.n x0 x1 x2 x3 x4 x5 x6 x7 (.n x8 x9 x10 x11 x12 x13 .uu .uu .e)) hp = aI mem true 7 x12 hp (fun v85=>mF mem (br mem) 7 (Tr.full (AV.agg (aA [.int 3 0,.int 3 0,.int 3 0,.int 3 0,.int 4 0,.int 3 0,.int 4 0]) 7) 2) 7 1 (.cons (.mk 0 (fun v86=>v86 v85)) .nil) hp (fun v87 v88=>cT mem (br mem) 7 x11 v87 v88 (fun v89 v90=>(jz).run .lf (.n x0 x1 x2 x3 x4 x5 x6 x7 (.n x8 x9 x10 v89 x12 x13 .uu .uu .e)) v90))) := by kernel_rfl
theorem eY (x0 x1 x2 x3 x4 x5 x6 x7 x8 x9 x10 x11 x12 x13 : AV) (hp : Hp) : (jz).run .lf (.n x0 x1 x2 x3 x4 x5 x6 x7 (.n x8 x9 x10 x11 x12 x13 .uu .uu .e)) hp = (ar .add 3).f x7 (.int 3 1) (fun v91=>.ok (.n x0 x1 x2 x3 x4 x5 x6 v91 (.n x8 x9 x10 x11 x12 x13 .uu .uu .e)) hp) := by kernel_rfl
end
attribute [local irreducible] mem
set_option linter.unusedSimpArgs false
attribute [local congr] dh aP bB dm dj bj dp cj aW cx cy cA bf bC bD aX eN cq cg cu bh bg aQ aS eO bF cn bx bH bE bz cz ck bd bI di bA bG bJ cP ek
set_option maxHeartbeats 4000000
theorem anV {m : cW} {G : List UInt8 → Option Mk} (hG : Rd r7 m G) (hm : cB m) {x1 x4 x5 x6 x9 a : AV} {c5 n5 s5 ce : Nat} {w5 q q1 : Bool} {t5 : Row} {ln : List UInt8} {i : Nat} {d : List Mk} {hp : Hp}
    (hl : ln.length ≤ 100000) (h5 : hp.at c5 = .row w5 true 1 s5 t5) (h5l : i < n5 ∧ n5 ≤ s5 ∧ n5 ≤ 5000) (h5t : t5.at i = S ln) (h0 : hp.at 0 = Bx q [m.ty,m.tx,m.fs]) (h1 : hp.at 1 = Bx q1 [B8 0,I 0,I 0]) (hc : 2 ≤ c5 ∧ c5 < hp.nx) (hpr : hp.pr = []) (hnx : hp.nx ≤ 100 + 20 * i)
    (ha : my 7 hp a (d.map Mk.av)) (hac : ∀ c n,a = .ms c 0 n 7 → c ≠ c5 ∧ 2 ≤ c) (hd : d.length ≤ i) :
    (∀ x,G ln = some x → ∃ x9' a' hp',(my 7 hp' a' ((d ++ [x]).map Mk.av) ∧ (∀ c n,a' = .ms c 0 n 7 → hp.nx ≤ c) ∧ hp'.nx = hp.nx + 3 ∧ hp'.pr = [] ∧ ∀ c,c < hp.nx → (∀ n,a ≠ .ms c 0 n 7) → hp'.at c = hp.at c) ∧ (cf).run .lf (.n m.av x1 (.x 8 .lf 0 0 0) (.ptr 1 0) x4 x5 x6 (I i) (.n (I n5) (.ms c5 0 n5 1) (.ptr 0 0) a x9 (.ptr ce 0) .uu .uu .e)) hp = .ok (.n m.av x1 (.x 8 .lf 0 0 0) (.ptr 1 0) x4 x5 x6 (I ((i : Int) + 1)) (.n (I n5) (.ms c5 0 n5 1) (.ptr 0 0) a' x9' (.ptr ce 0) .uu .uu .e)) hp') ∧
    (G ln = none → ∃ x9' hp' q1',(hp'.at 1 = Bx q1' [B8 0,I 0,I 0] ∧ hp'.nx ≤ 1000000) ∧ (cf).run .lf (.n m.av x1 (.x 8 .lf 0 0 0) (.ptr 1 0) x4 x5 x6 (I i) (.n (I n5) (.ms c5 0 n5 1) (.ptr 0 0) a x9 (.ptr ce 0) .uu .uu .e)) hp = .ret (.n m.av x1 (.x 8 .lf 0 0 0) (.ptr 1 0) (I 12) x5 x6 (I i) (.n (I n5) (.ms c5 0 n5 1) (.ptr 0 0) a x9' (.ptr ce 0) .uu .uu .e)) hp') := by
  have hlt : (i : Int) < n5 := by omega
  refine ⟨fun x hx=>?_,fun hno=>?_⟩
  · have e8 := hG.a8S hm hl hx
    generalize hr : (cf).run .lf (.n m.av x1 (.x 8 .lf 0 0 0) (.ptr 1 0) x4 x5 x6 (I i) (.n (I n5) (.ms c5 0 n5 1) (.ptr 0 0) a x9 (.ptr ce 0) .uu .uu .e)) hp = r
    simp only [cW.av] at hr
    simp +contextual (maxSteps := 2000000) (disch := (first | omega | (simp only [Y2,List.length_drop,List.length_take] <;> omega) | ((repeat' (first | exact aw | apply aq | apply ay | refine ax (by omega) ?_ ?_)) <;> (simp (disch := (first | omega | (simp only [Y5] <;> omega))) only [Y4,nd @aD,nd @aE,aj,Nat.reduceAdd,Nat.reduceEqDiff,reduceIte, *])) | (simp (disch := omega) only [Y4,nd @aD,nd @aE,aj,Nat.reduceAdd,Nat.reduceEqDiff,reduceIte]; done) | assumption | exact bL _ | exact bY _ | exact bX _ | exact bZ _ | exact True.intro | rfl)) only [Y1,Y3,gz,mR,gh,gu,fo,fw,dH,eY,Int.reduceLT,Int.reduceLE,Int.reduceEq,Int.reduceNeg,Int.reduceToNat,Nat.reduceAdd,Nat.reduceEqDiff,reduceIte,Nat.reduceLeDiff,a0K,Nat.reduceSub,h0,h1,h5,wM,ss,Nat.mul_one,h5t,e8] at hr
    rw [if_pos hlt] at hr
    generalize hH : (hp.add (Bx true [I 0,I 0,I 0,I 0,B8 0,I 0,B8 0])).eK hp.nx (Bx true [I x.step,I x.g,I x.f,I x.at',B8 x.op,I x.fr,B8 x.out]) = H at hr
    have hHa : ∀ c,c < hp.nx → H.at c = hp.at c := fun c hc=>by
      subst hH
      rw [kL (by omega) (by omega),fE (by omega) (by omega)]
    have hHn : H.nx = hp.nx + 1 := by subst hH; rfl
    have hHp : H.pr = [] := by subst hH; exact hpr
    obtain ⟨a',hp',g1,g2,g3,g4,g5,g6⟩ := ad6 (Tr.full (AV.agg (aA [I 0,I 0,I 0,I 0,B8 0,I 0,B8 0]) 7) 2) (z := 7) (v := x.av) (by decide) (.inr ⟨by decide,x.l,rfl,rfl,rfl⟩) (ha.mono hHa (by omega)) (by omega) hHp (by rw [List.length_map]; omega)
    simp only [Mk.av,Mk.l] at g6
    rw [g6] at hr
    simp +contextual (maxSteps := 2000000) (disch := (first | omega | (simp only [Y2,List.length_drop,List.length_take] <;> omega) | ((repeat' (first | exact aw | apply aq | apply ay | refine ax (by omega) ?_ ?_)) <;> (simp (disch := (first | omega | (simp only [Y5] <;> omega))) only [Y4,nd @aD,nd @aE,aj,Nat.reduceAdd,Nat.reduceEqDiff,reduceIte, *])) | (simp (disch := omega) only [Y4,nd @aD,nd @aE,aj,Nat.reduceAdd,Nat.reduceEqDiff,reduceIte]; done) | assumption | exact bL _ | exact bY _ | exact bX _ | exact bZ _ | exact True.intro | rfl)) only [Y1,Y3,mR,gh,gu,fo,fw,dH,eY,Int.reduceLT,Int.reduceLE,Int.reduceEq,Int.reduceNeg,Int.reduceToNat,Nat.reduceAdd,Nat.reduceEqDiff,reduceIte,Nat.reduceLeDiff,Nat.reduceSub] at hr
    refine ⟨_,a',hp',⟨?_, ?_,by omega,g3,fun c hc hca=>by rw [g4 c (by omega) hca,hHa c hc]⟩,hr.symm⟩
    · rw [List.map_append]; exact g1
    · intro c n e
      rw [g5] at e; injection e; omega
  · obtain ⟨e,he,e8⟩ := hG.adh hm hl hno
    generalize hr : (cf).run .lf (.n m.av x1 (.x 8 .lf 0 0 0) (.ptr 1 0) x4 x5 x6 (I i) (.n (I n5) (.ms c5 0 n5 1) (.ptr 0 0) a x9 (.ptr ce 0) .uu .uu .e)) hp = r
    simp only [cW.av] at hr
    simp +contextual (maxSteps := 2000000) (disch := (first | omega | (simp only [Y2,List.length_drop,List.length_take] <;> omega) | ((repeat' (first | exact aw | apply aq | apply ay | refine ax (by omega) ?_ ?_)) <;> (simp (disch := (first | omega | (simp only [Y5] <;> omega))) only [Y4,nd @aD,nd @aE,aj,Nat.reduceAdd,Nat.reduceEqDiff,reduceIte, *])) | (simp (disch := omega) only [Y4,nd @aD,nd @aE,aj,Nat.reduceAdd,Nat.reduceEqDiff,reduceIte]; done) | assumption | exact bL _ | exact bY _ | exact bX _ | exact bZ _ | exact True.intro | rfl)) only [Y1,Y3,gz,mR,gh,gu,fo,fw,dH,eY,Int.reduceLT,Int.reduceLE,Int.reduceEq,Int.reduceNeg,Int.reduceToNat,Nat.reduceAdd,Nat.reduceEqDiff,reduceIte,Nat.reduceLeDiff,a0K,Nat.reduceSub,h0,h1,h5,wM,ss,Nat.mul_one,h5t,e8] at hr
    rw [if_pos hlt,if_neg (by omega)] at hr
    exact ⟨_,_,bp q1 true,⟨jh (by decide),show hp.nx + 1 ≤ _ by omega⟩,hr.symm⟩
theorem afD {m : cW} {G : List UInt8 → Option Mk} (hG : Rd r7 m G) (hm : cB m) {x1 x4 x5 x6 : AV} {c5 ce c0 : Nat} {q q1 : Bool} {t5 : Row} {L : List (List UInt8)} (hL : ∀ l ∈ L,l.length ≤ 100000) {s5 : Nat} (hLn : L.length ≤ s5 ∧ L.length ≤ 5000) (h5t : ∀ j,j < L.length → t5.at j = S (L.getD j [])) (hc : 2 ≤ c5 ∧ c5 < c0 ∧ ce < c0) {BE : bN} : ∀ (k i fuel : Nat) (x9 a : AV) (d : List Mk) (hp : Hp),L.length - i = k → i ≤ L.length → k < fuel →
    hp.at c5 = .row true true 1 s5 t5 → hp.at 0 = Bx q [m.ty,m.tx,m.fs] → hp.at 1 = Bx q1 [B8 0,I 0,I 0] → hp.at ce = BE → c0 ≤ hp.nx → hp.pr = [] → hp.nx ≤ 100 + 20 * i → my 7 hp a (d.map Mk.av) → (∀ c n,a = .ms c 0 n 7 → c0 ≤ c) → d.length ≤ i →
    (∀ r,lH G (L.drop i) = some r → ∃ a' hp' z x9',my 7 hp' a' ((d ++ r).map Mk.av) ∧ hp'.nx ≤ 100 + 20 * L.length ∧ (∀ c n,a' = .ms c 0 n 7 → c0 ≤ c) ∧ hp'.pr = [] ∧ c0 ≤ hp'.nx ∧ hp'.at 1 = Bx q1 [B8 0,I 0,I 0] ∧ hp'.at ce = BE ∧
      dD (b8 cf fuel (.n m.av x1 (.x 8 .lf 0 0 0) (.ptr 1 0) x4 x5 x6 (I i) (.n (I L.length) (.ms c5 0 L.length 1) (.ptr 0 0) a x9 (.ptr ce 0) .uu .uu .e)) hp) = (kr).run .lf (.n m.av x1 (.x 8 .lf 0 0 0) (.ptr 1 0) x4 x5 x6 z (.n (I L.length) (.ms c5 0 L.length 1) (.ptr 0 0) a' x9' (.ptr ce 0) .uu .uu .e)) hp') ∧
    (lH G (L.drop i) = none → ∃ a' x9' z hp' q1',(hp'.at 1 = Bx q1' [B8 0,I 0,I 0] ∧ hp'.nx ≤ 1000000) ∧ dD (b8 cf fuel (.n m.av x1 (.x 8 .lf 0 0 0) (.ptr 1 0) x4 x5 x6 (I i) (.n (I L.length) (.ms c5 0 L.length 1) (.ptr 0 0) a x9 (.ptr ce 0) .uu .uu .e)) hp) = .ret (.n m.av x1 (.x 8 .lf 0 0 0) (.ptr 1 0) (I 12) x5 x6 z (.n (I L.length) (.ms c5 0 L.length 1) (.ptr 0 0) a' x9' (.ptr ce 0) .uu .uu .e)) hp')
  | k,i,0,_,_,_,_,_,_,hfu,_,_,_,_,_,_,_,_,_,_=>absurd hfu (Nat.not_lt_zero _)
  | k, i, fuel + 1, x9, a, d, hp, hk, hi, hfu, h5, h0, h1, he, hc0, hpr, hnx, ha, hac, hd => by
    by_cases hlt : i < L.length
    · have hcons : L.drop i = L.getD i [] :: L.drop (i + 1) := by
        rw [List.drop_eq_getElem_cons hlt]
        congr 1
        simp [List.getD,hlt]
      have hmem : L.getD i [] ∈ L := by
        simp only [List.getD,List.getElem?_eq_getElem (show i < L.length by omega),Option.getD_some]
        exact List.getElem_mem _
      have hb := anV hG hm (x1 := x1) (x4 := x4) (x5 := x5) (x6 := x6) (x9 := x9) (ce := ce) (n5 := L.length) (hL _ hmem) h5 ⟨by omega,hLn.1,hLn.2⟩ (h5t i (by omega)) h0 h1 ⟨hc.1,by omega⟩ hpr hnx ha (fun c n e=>by have := hac c n e; omega) hd
      rw [hcons]
      cases hg : G (L.getD i []) with
      | none=>
        obtain ⟨x9',hp',q1',e1,e2⟩ := hb.2 hg
        refine ⟨fun r hr=>?_,fun _=>⟨a,x9',_,hp',q1',e1,(congrArg dD (lU e2)).trans (pU _ _)⟩⟩
        simp only [lH,hg] at hr
        cases hr
      | some x=>
        obtain ⟨x9',a',hp',⟨e1,e2,e3,e4,e5⟩,e6⟩ := hb.1 x hg
        have hkeep : ∀ c,c < c0 → hp'.at c = hp.at c := fun c h=>e5 c (by omega) fun n e=>by have := hac c n e; omega
        have hrec := afD hG hm (x1 := x1) (x4 := x4) (x5 := x5) (x6 := x6) hL hLn h5t hc (q := q) (q1 := q1) (BE := BE) (k - 1) (i + 1) fuel x9' a' (d ++ [x]) hp' (by omega) (by omega) (by omega) (by rw [hkeep c5 hc.2.1]; exact h5) (by rw [hkeep 0 (by omega)]; exact h0) (by rw [hkeep 1 (by omega)]; exact h1) (by rw [hkeep ce hc.2.2]; exact he) (by omega) e4 (by omega) e1 (fun c n e=>by have := e2 c n e; omega) (by rw [List.length_append]; simp only [List.length_cons,List.length_nil]; omega)
        rw [gv e6]
        refine ⟨fun r hr=>?_,fun hr=>?_⟩
        · simp only [lH,hg] at hr
          cases hq : lH G (L.drop (i + 1)) with
          | none=>rw [hq] at hr; cases hr
          | some r2=>
            rw [hq] at hr
            injection hr with hr
            subst hr
            obtain ⟨a2,hp2,z,x92,k1,k2⟩ := hrec.1 r2 hq
            refine ⟨a2,hp2,z,x92, ?_,k2⟩
            rw [List.append_assoc] at k1; exact k1
        · simp only [lH,hg] at hr
          cases hq : lH G (L.drop (i + 1)) with
          | none=>exact hrec.2 hq
          | some r2=>rw [hq] at hr; cases hr
    · have hie : L.drop i = [] := List.drop_eq_nil_of_le (by omega)
      have hb : (cf).run .lf (.n m.av x1 (.x 8 .lf 0 0 0) (.ptr 1 0) x4 x5 x6 (I i) (.n (I L.length) (.ms c5 0 L.length 1) (.ptr 0 0) a x9 (.ptr ce 0) .uu .uu .e)) hp = .exit 0 (.n m.av x1 (.x 8 .lf 0 0 0) (.ptr 1 0) x4 x5 x6 (I i) (.n (I L.length) (.ms c5 0 L.length 1) (.ptr 0 0) a x9 (.ptr ce 0) .uu .uu .e)) hp := by
        generalize hr : (cf).run .lf (.n m.av x1 (.x 8 .lf 0 0 0) (.ptr 1 0) x4 x5 x6 (I i) (.n (I L.length) (.ms c5 0 L.length 1) (.ptr 0 0) a x9 (.ptr ce 0) .uu .uu .e)) hp = r
        simp +contextual (maxSteps := 2000000) (disch := (first | omega | (simp only [Y2,List.length_drop,List.length_take] <;> omega) | ((repeat' (first | exact aw | apply aq | apply ay | refine ax (by omega) ?_ ?_)) <;> (simp (disch := (first | omega | (simp only [Y5] <;> omega))) only [Y4,nd @aD,nd @aE,aj,Nat.reduceAdd,Nat.reduceEqDiff,reduceIte, *])) | (simp (disch := omega) only [Y4,nd @aD,nd @aE,aj,Nat.reduceAdd,Nat.reduceEqDiff,reduceIte]; done) | assumption | exact bL _ | exact bY _ | exact bX _ | exact bZ _ | exact True.intro | rfl)) only [Y1,Y3,gz,Int.reduceLT,Int.reduceLE,Int.reduceEq,Int.reduceNeg,Int.reduceToNat,Nat.reduceAdd,Nat.reduceEqDiff,reduceIte,Nat.reduceLeDiff,Nat.reduceSub] at hr
        rw [← hr,if_neg (by omega)]
      rw [hie]
      refine ⟨fun r hr=>?_,fun hr=>(by cases hr)⟩
      injection hr with hr
      subst hr
      refine ⟨a,hp,_,x9,by rw [List.append_nil]; exact ha,by omega,hac,hpr,hc0,h1,he,(congrArg dD (fR hb)).trans (sZ _ _)⟩
end Go.Proofs.YtpiokjcbadfalaaGreatDoor.Tz
namespace Go.Proofs.YtpiokjcbadfalaaGreatDoor.Tz
attribute [local irreducible] mem
set_option linter.unusedSimpArgs false
attribute [local congr] dh aP bB dm dj bj dp cj aW cx cy cA bf bC bD aX eN cq cg cu bh bg aQ aS eO bF cn bx bH bE bz cz ck bd bI di bA bG bJ cP ek
set_option maxHeartbeats 4000000
theorem agJ {m : cW} {G : List UInt8 → Option Mk} {E : List UInt8 → Option En} (hG : Rd r7 m G) (hE : Ed r38 E) (hm : cB m) {s : List UInt8} (hs : s.length ≤ 99000) {ls : List (List UInt8)} {last : List UInt8} (hp : ls ++ [last] = aO 10 s) (hlen : ∀ l ∈ ls,l.length ≤ 4000) : RdIs (rdL G E ls last) (r11.f (.nd m.av .lf (.nd (S s) .lf .lf)) .empty) := by
  obtain ⟨hc,k1,k2,k3⟩ := uc (s := s) (c := 10) (by omega)
  have hpl : (aO 10 s).length = ls.length + 1 := by rw [← hp,List.length_append]; rfl
  have hsm : ls.length ≤ 99000 := by have := ud 10 s; omega
  generalize hr : r11.f (.nd m.av .lf (.nd (S s) .lf .lf)) .empty = r
  simp only [cW.av] at hr
  simp +contextual (maxSteps := 2000000) (disch := (first | omega | (simp only [Y2,List.length_drop,List.length_take] <;> omega) | ((repeat' (first | exact aw | apply aq | apply ay | refine ax (by omega) ?_ ?_)) <;> (simp (disch := (first | omega | (simp only [Y5] <;> omega))) only [Y4,nd @aD,nd @aE,aj,Nat.reduceAdd,Nat.reduceEqDiff,reduceIte, *])) | (simp (disch := omega) only [Y4,nd @aD,nd @aE,aj,Nat.reduceAdd,Nat.reduceEqDiff,reduceIte]; done) | assumption | exact bL _ | exact bY _ | exact bX _ | exact bZ _ | exact True.intro | rfl)) only [Y1,Y3,t11,mR,Int.reduceLT,Int.reduceLE,Int.reduceEq,Int.reduceNeg,Int.reduceToNat,Nat.reduceAdd,Nat.reduceEqDiff,reduceIte,Nat.reduceLeDiff,Nat.reduceSub] at hr
  rw [if_neg (by omega)] at hr
  generalize (m.ty.pl && (m.tx.pl && (m.fs.pl && true))) = q at hr
  generalize hH : (Hp.empty.add (Bx q [m.ty,m.tx,m.fs])).add (Bx true [B8 0,I 0,I 0]) = H at hr
  have hn0 : (Hp.empty.add (Bx q [m.ty,m.tx,m.fs])).nx = 1 := rfl
  have hHn : H.nx = 2 := by subst hH; rfl
  have hHp : H.pr = [] := by subst hH; rfl
  have hH0 : H.at 0 = Bx q [m.ty,m.tx,m.fs] := by
    subst hH; rw [fE (by rw [hn0]; decide) (by rw [hn0]; decide),iO (by show 0 < _; decide) rfl]
  have hH1 : H.at 1 = Bx true [B8 0,I 0,I 0] := by
    subst hH; exact iO (show 1 < 16777215 by decide) rfl
  obtain ⟨a',h',⟨T1,T2,T3,T4,T5,T6⟩,e37⟩ := adi (F := y8) (.nd (c8 s) (.nd (c8 [10]) .lf)) k1 (by omega) k3 H (by omega)
  have h0 : h'.at 0 = Bx q [m.ty,m.tx,m.fs] := by rw [T5 0 (by omega)]; exact hH0
  have h1 : h'.at 1 = Bx true [B8 0,I 0,I 0] := by rw [T5 1 (by omega)]; exact hH1
  have hpr' : h'.pr = [] := by rw [T4]; exact hHp
  obtain ⟨c5,t5,rfl,hc5,hat5,ht5⟩ := my.len1 T1 (by intro e; have := congrArg List.length e; rw [List.length_map] at this; simp only [List.length_nil] at this; omega)
  have hc5' : c5 = 2 := (T6 _ _ rfl).trans hHn
  subst hc5'
  rw [List.length_map] at e37 hat5 ht5
  rw [hpl] at e37 hat5 ht5
  have ht5' : ∀ j,j < ls.length + 1 → t5.at j = S ((ls ++ [last]).getD j []) := fun j hj=>by
    rw [ht5 j hj,hp]; simp [List.getD,List.getElem?_map,show j < (aO 10 s).length by omega]
  have hLast : t5.at ls.length = S last := by rw [ht5' _ (by omega)]; simp [List.getD]
  have hNth : ∀ j,j < ls.length → t5.at j = S (ls.getD j []) := fun j hj=>by
    rw [ht5' _ (by omega)]; simp [List.getD,List.getElem?_append_left hj]
  replace e37 : ∀ k,aH mem false r37 (.nd (S s) .lf (.nd (S [10]) .lf .lf)) H k = k (.ms 2 0 (ls.length + 1) 1) h' := e37
  rw [e37] at hr
  have i1 : ((ls.length + 1 : Nat) : Int) - 2 + 1 = ls.length := by omega
  have i2 : (((ls.length + 1 : Nat) : Int) - 2).toNat = ls.length - 1 := by omega
  simp +contextual (maxSteps := 2000000) (disch := (first | omega | (simp only [Y2,List.length_drop,List.length_take] <;> omega) | ((repeat' (first | exact aw | apply aq | apply ay | refine ax (by omega) ?_ ?_)) <;> (simp (disch := (first | omega | (simp only [Y5] <;> omega))) only [Y4,nd @aD,nd @aE,aj,Nat.reduceAdd,Nat.reduceEqDiff,reduceIte, *])) | (simp (disch := omega) only [Y4,nd @aD,nd @aE,aj,Nat.reduceAdd,Nat.reduceEqDiff,reduceIte]; done) | assumption | exact bL _ | exact bY _ | exact bX _ | exact bZ _ | exact True.intro | rfl)) only [Y1,Y3,Int.reduceLT,Int.reduceLE,Int.reduceEq,Int.reduceNeg,Int.reduceToNat,Nat.reduceAdd,Nat.reduceEqDiff,reduceIte,Nat.reduceLeDiff,Nat.reduceSub,h0,h1,hat5,wM,ss,Nat.mul_one,i1,i2,hLast,apply_ite aed,aav] at hr
  unfold rdL
  have fail : ∀ {H2 : Hp},H2.nx ≤ 1000000 → RdIs none (.val (.bu (.nd (.x 8 .lf 0 0 0) .lf (.nd (.agg (aA [B8 0,I 0,I 0]) 3) .lf (.nd (I 12) .lf .lf))) 3) H2) := fun h2=>⟨_,_,⟨.inl ⟨rfl,rfl⟩,rfl⟩,h2⟩
  by_cases c2 : ls.length = 0
  · rw [if_pos (by omega)] at hr
    rw [if_neg (by omega),← hr]
    exact fail (show h'.nx ≤ _ by omega)
  rw [if_neg (by omega)] at hr
  by_cases c3 : 2001 < ls.length
  · rw [if_pos (by omega)] at hr
    rw [if_neg (by omega),← hr]
    exact fail (show h'.nx ≤ _ by omega)
  rw [if_neg (by omega)] at hr
  by_cases c1 : last = []
  · rw [if_pos c1] at hr
    rw [if_pos ⟨c1,by omega,by omega⟩]
    have hend : (ls.getD (ls.length - 1) []).length ≤ 50000 := by
      have := hlen (ls.getD (ls.length - 1) []) (by simp only [List.getD,List.getElem?_eq_getElem (show ls.length - 1 < ls.length by omega),Option.getD_some]; exact List.getElem_mem _)
      omega
    have hlast : t5.at (ls.length - 1) = S (ls.getD (ls.length - 1) []) := hNth _ (by omega)
    have i3 : 0 ≤ ((ls.length + 1 : Nat) : Int) - 2 ∧ ((ls.length + 1 : Nat) : Int) - 2 < (ls.length + 1 : Nat) := by omega
    have i4 : ls.length - 1 + 1 ≤ ls.length + 1 ∧ ls.length - 1 < 16777215 := by omega
    have i5 : ((ls.length + 1 : Nat) : Int) - 2 = ((ls.length - 1 : Nat) : Int) := by omega
    rw [i5] at hr
    have i6 : (((ls.length - 1 : Nat) : Int)).toNat = ls.length - 1 := by omega
    cases hEx : E (ls.getD (ls.length - 1) []) with
    | none=>
      obtain ⟨x,e38⟩ := hE.adh hend hEx
      simp +contextual (maxSteps := 2000000) (disch := (first | omega | (simp only [Y2,List.length_drop,List.length_take] <;> omega) | ((repeat' (first | exact aw | apply aq | apply ay | refine ax (by omega) ?_ ?_)) <;> (simp (disch := (first | omega | (simp only [Y5] <;> omega))) only [Y4,nd @aD,nd @aE,aj,Nat.reduceAdd,Nat.reduceEqDiff,reduceIte, *])) | (simp (disch := omega) only [Y4,nd @aD,nd @aE,aj,Nat.reduceAdd,Nat.reduceEqDiff,reduceIte]; done) | assumption | exact bL _ | exact bY _ | exact bX _ | exact bZ _ | exact True.intro | rfl)) only [Y1,Y3,gh,Int.reduceLT,Int.reduceLE,Int.reduceEq,Int.reduceNeg,Int.reduceToNat,Nat.reduceAdd,Nat.reduceEqDiff,reduceIte,Nat.reduceLeDiff,Nat.reduceSub,h0,h1,hat5,wM,ss,Nat.mul_one,i6,hlast,e38,aav] at hr
      rw [← hr]
      exact fail (show h'.nx + 1 ≤ _ by omega)
    | some x=>
      have e38 := hE.a8S hend hEx
      simp +contextual (maxSteps := 2000000) (disch := (first | omega | (simp only [Y2,List.length_drop,List.length_take] <;> omega) | ((repeat' (first | exact aw | apply aq | apply ay | refine ax (by omega) ?_ ?_)) <;> (simp (disch := (first | omega | (simp only [Y5] <;> omega))) only [Y4,nd @aD,nd @aE,aj,Nat.reduceAdd,Nat.reduceEqDiff,reduceIte, *])) | (simp (disch := omega) only [Y4,nd @aD,nd @aE,aj,Nat.reduceAdd,Nat.reduceEqDiff,reduceIte]; done) | assumption | exact bL _ | exact bY _ | exact bX _ | exact bZ _ | exact True.intro | rfl)) only [Y1,Y3,gh,gu,qB,Int.reduceLT,Int.reduceLE,Int.reduceEq,Int.reduceNeg,Int.reduceToNat,Nat.reduceAdd,Nat.reduceEqDiff,reduceIte,Nat.reduceLeDiff,Nat.reduceSub,h0,h1,hat5,wM,aht,ss,Nat.mul_one,i6,hlast,e38] at hr
      generalize hI : (h'.add (Bx true [B8 0,I 0,I 0])).eK h'.nx (Bx true [B8 x.out,I x.fl,I x.us]) = J at hr
      have hN : h'.nx < 16777215 := by omega
      have hJn : J.nx = h'.nx + 1 := by subst hI; rfl
      have hJp : J.pr = [] := by subst hI; exact hpr'
      have hJe : J.at h'.nx = Bx true [B8 x.out,I x.fl,I x.us] := by subst hI; rw [jh hN]
      have hJk : ∀ c,c < h'.nx → J.at c = h'.at c := fun c hc=>by subst hI; rw [kL hN (by omega),fE hN (by omega)]
      have hdl : ls.dropLast.length = ls.length - 1 := List.length_dropLast
      have hloop := afD hG hm (x1 := S s) (x4 := I 0) (x5 := .ms 2 0 (ls.length + 1) 1) (x6 := I ((ls.length - 1 : Nat) : Int)) (c5 := 2) (ce := h'.nx) (c0 := h'.nx + 1) (q := q) (q1 := true) (t5 := t5) (L := ls.dropLast) (s5 := ls.length + 1) (fun l hl=>by have := hlen l (List.dropLast_subset _ hl); omega) ⟨by omega,by omega⟩ (fun j hj=>by rw [hNth j (by omega)]; simp only [List.getD,List.getElem?_dropLast,if_pos (show j < ls.length - 1 by omega)]) ⟨Nat.le_refl _,by omega,by omega⟩ (BE := Bx true [B8 x.out,I x.fl,I x.us]) (ls.dropLast.length - 0) 0 1000000 .uu (.x 8 .lf 0 0 0) [] J rfl (Nat.zero_le _) (by omega) (by rw [hJk 2 (by omega),hat5,Nat.mul_one]) (by rw [hJk 0 (by omega),h0]) (by rw [hJk 1 (by omega),h1]) hJe (by omega) hJp (by omega) (.inl ⟨rfl,rfl⟩) (fun c n e=>(by cases e)) (Nat.le_refl _)
      rw [List.drop_zero,hdl] at hloop
      show RdIs (match lH G ls.dropLast with | none=>none | some r=>some (r,x)) r
      cases hq : lH G ls.dropLast with
      | none=>
        obtain ⟨a2,x92,z,hp2,q1',⟨g1,g3⟩,g2⟩ := hloop.2 hq
        simp only [cW.av] at g2
        rw [show (I ((0 : Nat) : Int)) = I 0 from rfl] at g2
        rw [g2,aav] at hr
        simp +contextual (maxSteps := 2000000) (disch := (first | omega | (simp only [Y2,List.length_drop,List.length_take] <;> omega) | ((repeat' (first | exact aw | apply aq | apply ay | refine ax (by omega) ?_ ?_)) <;> (simp (disch := (first | omega | (simp only [Y5] <;> omega))) only [Y4,nd @aD,nd @aE,aj,Nat.reduceAdd,Nat.reduceEqDiff,reduceIte, *])) | (simp (disch := omega) only [Y4,nd @aD,nd @aE,aj,Nat.reduceAdd,Nat.reduceEqDiff,reduceIte]; done) | assumption | exact bL _ | exact bY _ | exact bX _ | exact bZ _ | exact True.intro | rfl)) only [Y1,Y3,Int.reduceLT,Int.reduceLE,Int.reduceEq,Int.reduceNeg,Int.reduceToNat,Nat.reduceAdd,Nat.reduceEqDiff,reduceIte,Nat.reduceLeDiff,Nat.reduceSub,g1] at hr
        rw [← hr]
        exact fail g3
      | some l=>
        obtain ⟨a2,hp2,z,x92,g1,g2,g3,g4,g5,g6,g7,g8⟩ := hloop.1 l hq
        simp only [cW.av] at g8
        rw [show (I ((0 : Nat) : Int)) = I 0 from rfl] at g8
        rw [g8] at hr
        have hce : h'.nx < hp2.nx := by omega
        simp +contextual (maxSteps := 2000000) (disch := (first | omega | (simp only [Y2,List.length_drop,List.length_take] <;> omega) | ((repeat' (first | exact aw | apply aq | apply ay | refine ax (by omega) ?_ ?_)) <;> (simp (disch := (first | omega | (simp only [Y5] <;> omega))) only [Y4,nd @aD,nd @aE,aj,Nat.reduceAdd,Nat.reduceEqDiff,reduceIte, *])) | (simp (disch := omega) only [Y4,nd @aD,nd @aE,aj,Nat.reduceAdd,Nat.reduceEqDiff,reduceIte]; done) | assumption | exact bL _ | exact bY _ | exact bX _ | exact bZ _ | exact True.intro | rfl)) only [Y1,Y3,fw,Int.reduceLT,Int.reduceLE,Int.reduceEq,Int.reduceNeg,Int.reduceToNat,Nat.reduceAdd,Nat.reduceEqDiff,reduceIte,Nat.reduceLeDiff,Nat.reduceSub,g6,g7,aav] at hr
        refine ⟨a2,_,⟨?_,hr.symm⟩,show hp2.nx + 5 ≤ _ by omega⟩
        refine my.mono' (h := hp2) g1 (fun c n e=>?_) (show hp2.nx ≤ hp2.nx + 5 by omega)
        have hc1 := g3 c n e
        show ((hp2.yL 5).eK 1 _).at c = _
        rw [kL (by decide) (by omega)]; rfl
  · rw [if_neg c1] at hr
    rw [if_neg fun h=>c1 h.1,← hr]
    exact fail (show h'.nx ≤ _ by omega)
end Go.Proofs.YtpiokjcbadfalaaGreatDoor.Tz
namespace Go.Proofs.YtpiokjcbadfalaaGreatDoor.Tz
attribute [local irreducible] mem
set_option linter.unusedSimpArgs false
attribute [local congr] dh aP bB dm dj bj dp cj aW cx cy cA bf bC bD aX eN cq cg cu bh bg aQ aS eO bF cn bx bH bE bz cz ck bd bI di bA bG bJ cP ek
set_option maxHeartbeats 4000000
def pT (m : cW) (M : Nat → Mk) : Nat → List UInt8
  | 0=>[]
  | i + 1=>pT m M i ++ (aM m (M i) ++ [10])
theorem l_eq (x : Mk) : x.l = [I x.step,I x.g,I x.f,I x.at',B8 x.op,I x.fr,B8 x.out] := rfl
noncomputable def txR (m : cW) (M : Nat → Mk) (n : Nat) (x : En) : List UInt8 × Int := by
  classical
  exact if 2000 < n then ([],4) else if ∀ j,j < n → Fits m (M j) then (if vz x then (pT m M n ++ ep x ++ [10],0) else ([],8)) else ([],8)
end Go.Proofs.YtpiokjcbadfalaaGreatDoor.Tz
namespace Go.Proofs.YtpiokjcbadfalaaGreatDoor.Tz
noncomputable section
def a9x : Sm := aT Go.Proofs.YtpiokjcbadfalaaGreatDoor.Tz.wx [1,0,1]
def iC : Sm := o9 Go.Proofs.YtpiokjcbadfalaaGreatDoor.Tz.wx [1,1,0,1,0]
def zT : Fr → Hp → ab := qb Go.Proofs.YtpiokjcbadfalaaGreatDoor.Tz.wx [1,1,0,1,0]
def pN : ab → ab := oy Go.Proofs.YtpiokjcbadfalaaGreatDoor.Tz.wx [1,1,0,1,0]
def rU : Sm := aT Go.Proofs.YtpiokjcbadfalaaGreatDoor.Tz.wx [1,1,0,1,0,0,0,1]
def wT : Sm := aT Go.Proofs.YtpiokjcbadfalaaGreatDoor.Tz.wx [1,1,0,1]
def oD : Sm := aT Go.Proofs.YtpiokjcbadfalaaGreatDoor.Tz.wx [1,1,0,1,0,0,1,0,0,1]
def rV : Sm := aT Go.Proofs.YtpiokjcbadfalaaGreatDoor.Tz.wx [1,1,0,1,0,0,1,0]
def akW : ab → ab := kO Go.Proofs.YtpiokjcbadfalaaGreatDoor.Tz.wx
theorem t15 (x0 x1 : AV) (hp : Hp) : r15.f (.nd x0 .lf (.nd x1 .lf .lf)) hp = akW (dX mem 1 x0 hp (fun v0=>au (Nat.ble v0 9223372036854775807) (dX mem 1 x1 hp (fun v1=>au (Nat.ble v1 9223372036854775807) ((ar .neq 3).f (.int 3 v0) (.int 3 v1) (fun v2=>AV.aJ v2 (fun v3=>when v3 (.ret (.n x0 x1 (.bool false) .uu .uu .uu .uu .uu .e) hp) ((a9x).run .lf (.n x0 x1 (.bool false) .uu .uu .uu .uu .uu .e) hp)))))))) := (congrArg (fun F=>aF.f F (.nd x0 .lf (.nd x1 .lf .lf)) hp) (cX Go.Proofs.YtpiokjcbadfalaaGreatDoor.Tz.wx).symm).trans (by kernel_rfl)
theorem ret15 (x0 x1 x2 x3 : AV) (hp : Hp) : akW (.ret (.n x0 x1 x2 x3 .uu .uu .uu .uu .e) hp) = .val x2 hp := by kernel_rfl
theorem wS (x0 x1 x2 x3 : AV) (hp : Hp) : (a9x).run .lf (.n x0 x1 x2 x3 .uu .uu .uu .uu .e) hp = zT (.n x0 x1 x2 (.int 3 0) .uu .uu .uu .uu .e) hp := by kernel_rfl
theorem rn (x0 x1 x2 x3 : AV) (hp : Hp) : (iC).run .lf (.n x0 x1 x2 x3 .uu .uu .uu .uu .e) hp = dX mem 1 x0 hp (fun v4=>au (Nat.ble v4 9223372036854775807) ((ar .lss 3).f x3 (.int 3 v4) (fun v5=>AV.aJ v5 (fun v6=>when v6 ((rU).run .lf (.n x0 x1 x2 x3 .uu .uu .uu .uu .e) hp) (.exit 0 (.n x0 x1 x2 x3 .uu .uu .uu .uu .e) hp))))) := by kernel_rfl
theorem a1r (fr : Fr) (hp : Hp) : zT fr hp = pN (b8 iC 1000000 fr hp) := rfl
theorem a6l (fr : Fr) (hp : Hp) : pN (.exit 0 fr hp) = (wT).run .lf fr hp := by kernel_rfl
theorem vi (x0 x1 x2 x3 : AV) (hp : Hp) : (rU).run .lf (.n x0 x1 x2 x3 .uu .uu .uu .uu .e) hp = kh 9 hp (fun v7=>indexAddr 7 x0 x3 (fun v8=>aI mem true 7 v8 v7 (fun v9=>indexAddr 7 x1 x3 (fun v10=>aI mem true 7 v10 v7 (fun v11=>(yX (.cells (.cons 5 (.cons 5 (.cons 5 (.cons 5 (.cons 6 (.cons 5 (.cons 6 .nil)))))))) .neq).f v9 v11 (fun v12=>AV.aJ v12 (fun v13=>when v13 (.ret (.n x0 x1 (.bool false) x3 .uu .uu .uu .uu .e) v7) ((oD).run .lf (.n x0 x1 x2 x3 .uu .uu .uu .uu .e) v7)))))))) := by kernel_rfl
theorem uE (x0 x1 x2 x3 : AV) (hp : Hp) : (wT).run .lf (.n x0 x1 x2 x3 .uu .uu .uu .uu .e) hp = .ret (.n x0 x1 (.bool true) x3 .uu .uu .uu .uu .e) hp := by kernel_rfl
theorem rW (x0 x1 x2 x3 : AV) (hp : Hp) : (oD).run .lf (.n x0 x1 x2 x3 .uu .uu .uu .uu .e) hp = (rV).run .lf (.n x0 x1 x2 x3 .uu .uu .uu .uu .e) hp := by kernel_rfl
theorem vj (x0 x1 x2 x3 : AV) (hp : Hp) : (rV).run .lf (.n x0 x1 x2 x3 .uu .uu .uu .uu .e) hp = (ar .add 3).f x3 (.int 3 1) (fun v14=>.ok (.n x0 x1 x2 v14 .uu .uu .uu .uu .e) hp) := by kernel_rfl
end
attribute [local irreducible] mem
set_option linter.unusedSimpArgs false
attribute [local congr] dh aP bB dm dj bj dp cj aW cx cy cA bf bC bD aX eN cq cg cu bh bg aQ aS eO bF cn bx bH bE bz cz ck bd bI di bA bG bJ cP ek
set_option maxHeartbeats 4000000
theorem eG {c n i : Nat} {k : Bool → ab} (h : i = c) : og (c + 2) (.int i n) (.int i n) k = k true := by
  subst h
  show au (Nat.beq i i) (au (Nat.beq i i) (iF (Nat.beq n n) k)) = _
  rw [aG (cb i),aG (cb i),cb]; rfl
theorem a3p {c : Nat} {l : List Nat} {a b : AV} {t u : Row} {k : Bool → ab} : eqs (c :: l) (.nd a .lf t) (.nd b .lf u) k = og c a b fun x=>eqs l t u fun y=>k (bp x y) := rfl
theorem xv {x : Mk} {k : AV → ab} : (yX (.cells [5,5,5,5,6,5,6]) .neq).f (.agg (aA x.l) 7) (.agg (aA x.l) 7) k = k (.bool false) := by
  show eqs [5,5,5,5,6,5,6] (aA x.l) (aA x.l) (fun r=>k (.bool (de r))) = _
  simp only [Mk.l]
  show eqs [5,5,5,5,6,5,6] (.nd (.int 3 _) .lf (.nd (.int 3 _) .lf (.nd (.int 3 _) .lf (.nd (.int 3 _) .lf (.nd (.int 4 _) .lf (.nd (.int 3 _) .lf (.nd (.int 4 _) .lf .lf))))))) (.nd (.int 3 _) .lf (.nd (.int 3 _) .lf (.nd (.int 3 _) .lf (.nd (.int 3 _) .lf (.nd (.int 4 _) .lf (.nd (.int 3 _) .lf (.nd (.int 4 _) .lf .lf))))))) (fun r=>k (.bool (de r))) = _
  simp only [a3p]
  rw [eG (c := 3) rfl,eG (c := 3) rfl,eG (c := 3) rfl,eG (c := 3) rfl,eG (c := 4) rfl,eG (c := 3) rfl,eG (c := 4) rfl]
  rfl
theorem anW {M : Nat → Mk} {n i : Nat} {a b x2 : AV} {t u : Row} {hp : Hp} (ha : mC 7 a n t) (hA : dF 7 n t fun i=>(M i).l) (hb : mC 7 b n u) (hB : dF 7 n u fun i=>(M i).l) (hn : n ≤ 100000) (hi : i < n) :
    (iC).run .lf (.n a b x2 (I i) .uu .uu .uu .uu .e) hp = .ok (.n a b x2 (I ((i : Int) + 1)) .uu .uu .uu .uu .e) (hp.yL 9) := by
  have hlt : (i : Int) < n := by omega
  generalize hr : (iC).run .lf (.n a b x2 (I i) .uu .uu .uu .uu .e) hp = r
  simp +contextual (maxSteps := 2000000) (disch := (first | omega | (simp only [Y2,List.length_drop,List.length_take] <;> omega) | ((repeat' (first | exact aw | apply aq | apply ay | refine ax (by omega) ?_ ?_)) <;> (simp (disch := (first | omega | (simp only [Y5] <;> omega))) only [Y4,nd @aD,nd @aE,aj,Nat.reduceAdd,Nat.reduceEqDiff,reduceIte, *])) | (simp (disch := omega) only [Y4,nd @aD,nd @aE,aj,Nat.reduceAdd,Nat.reduceEqDiff,reduceIte]; done) | assumption | exact bL _ | exact bY _ | exact bX _ | exact bZ _ | exact True.intro | rfl)) only [Y1,Y3,rn,wS,vi,uE,rW,vj,Int.reduceLT,Int.reduceLE,Int.reduceEq,Int.reduceNeg,Int.reduceToNat,Nat.reduceAdd,Nat.reduceEqDiff,reduceIte,Nat.reduceLeDiff,Nat.reduceSub,ha.len,ha.idx,hb.len,hb.idx,a7I hA,a7I hB,xv] at hr
  rw [← hr,if_pos hlt]
theorem afE {M : Nat → Mk} {n : Nat} {a b x2 : AV} {t u : Row} (ha : mC 7 a n t) (hA : dF 7 n t fun i=>(M i).l) (hb : mC 7 b n u) (hB : dF 7 n u fun i=>(M i).l) (hn : n ≤ 100000) : ∀ (k i fuel : Nat) (hp : Hp),n - i = k → i ≤ n → k < fuel → ∃ z hp',pN (b8 iC fuel (.n a b x2 (I i) .uu .uu .uu .uu .e) hp) = (wT).run .lf (.n a b x2 z .uu .uu .uu .uu .e) hp'
  | k,i,0,_,_,_,hfu=>absurd hfu (Nat.not_lt_zero _)
  | k,i,fuel + 1,hp,hk,hi,hfu=>by
    by_cases hlt : i < n
    · rw [gv (anW ha hA hb hB hn hlt)]
      exact afE ha hA hb hB hn (k - 1) (i + 1) fuel _ (by omega) (by omega) (by omega)
    · have hie : i = n := by omega
      subst hie
      have hsm := ha.small
      have hb : (iC).run .lf (.n a b x2 (I i) .uu .uu .uu .uu .e) hp = .exit 0 (.n a b x2 (I i) .uu .uu .uu .uu .e) hp := by
        generalize hr : (iC).run .lf (.n a b x2 (I i) .uu .uu .uu .uu .e) hp = r
        simp +contextual (maxSteps := 2000000) (disch := (first | omega | (simp only [Y2,List.length_drop,List.length_take] <;> omega) | ((repeat' (first | exact aw | apply aq | apply ay | refine ax (by omega) ?_ ?_)) <;> (simp (disch := (first | omega | (simp only [Y5] <;> omega))) only [Y4,nd @aD,nd @aE,aj,Nat.reduceAdd,Nat.reduceEqDiff,reduceIte, *])) | (simp (disch := omega) only [Y4,nd @aD,nd @aE,aj,Nat.reduceAdd,Nat.reduceEqDiff,reduceIte]; done) | assumption | exact bL _ | exact bY _ | exact bX _ | exact bZ _ | exact True.intro | rfl)) only [Y1,Y3,rn,Int.reduceLT,Int.reduceLE,Int.reduceEq,Int.reduceNeg,Int.reduceToNat,Nat.reduceAdd,Nat.reduceEqDiff,reduceIte,Nat.reduceLeDiff,Nat.reduceSub,ha.len] at hr
        rw [← hr,if_neg (by omega)]
      exact ⟨_,hp,(congrArg pN (fR hb)).trans (a6l _ _)⟩
theorem auB {M : Nat → Mk} {n : Nat} {a b : AV} {t u : Row} (ha : mC 7 a n t) (hA : dF 7 n t fun i=>(M i).l) (hb : mC 7 b n u) (hB : dF 7 n u fun i=>(M i).l) (hn : n ≤ 100000) : eJ (r15.f (.nd a .lf (.nd b .lf .lf)) .empty) = some (.bool true) := by
  generalize hr : r15.f (.nd a .lf (.nd b .lf .lf)) .empty = r
  simp +contextual (maxSteps := 2000000) (disch := (first | omega | (simp only [Y2,List.length_drop,List.length_take] <;> omega) | ((repeat' (first | exact aw | apply aq | apply ay | refine ax (by omega) ?_ ?_)) <;> (simp (disch := (first | omega | (simp only [Y5] <;> omega))) only [Y4,nd @aD,nd @aE,aj,Nat.reduceAdd,Nat.reduceEqDiff,reduceIte, *])) | (simp (disch := omega) only [Y4,nd @aD,nd @aE,aj,Nat.reduceAdd,Nat.reduceEqDiff,reduceIte]; done) | assumption | exact bL _ | exact bY _ | exact bX _ | exact bZ _ | exact True.intro | rfl)) only [Y1,Y3,t15,wS,a1r,Int.reduceLT,Int.reduceLE,Int.reduceEq,Int.reduceNeg,Int.reduceToNat,Nat.reduceAdd,Nat.reduceEqDiff,reduceIte,Nat.reduceLeDiff,Nat.reduceSub,ha.len,hb.len] at hr
  obtain ⟨z,hp',e⟩ := afE (x2 := .bool false) ha hA hb hB hn n 0 1000000 .empty rfl (Nat.zero_le _) (by omega)
  rw [show (I ((0 : Nat) : Int)) = I 0 from rfl] at e
  rw [e,uE,ret15] at hr
  rw [← hr]; rfl
end Go.Proofs.YtpiokjcbadfalaaGreatDoor.Tz
