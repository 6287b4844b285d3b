import Derived.Test.YtpiokjcbadfalaaGreatDoorEvAP
import Derived.Test.YtpiokjcbadfalaaGreatDoorEvAQ
import Derived.Test.YtpiokjcbadfalaaGreatDoorEvAR
import Derived.Test.YtpiokjcbadfalaaGreatDoorEvAS
import Derived.Test.YtpiokjcbadfalaaGreatDoorEvAT
open Go Go.Proofs.YtpiokjcbadfalaaGreatDoor.Ev
namespace Go.Proofs.YtpiokjcbadfalaaGreatDoor.Tz
attribute [local irreducible] mem
set_option linter.unusedSimpArgs false
attribute [local congr] dh aP bB dm dj bj dp cj aW cx cy cA bf bC bD aX eN cq cg cu bh bg aQ aS eO bF cn bx bH bE bz cz ck bd bI di bA bG bJ
theorem cS (z : Int) : (bV z).length ≤ 65 := by
  unfold bV
  split
  · rw [List.length_cons]; have := rF (base := 10) 64 (-z).toNat; omega
  · have := rF (base := 10) 64 z.toNat; omega
theorem qL (n : Nat) : (cM n).length ≤ 7 := by
  by_cases h : n < 35
  · have : ∀ n,n < 35 → (cM n).length ≤ 7 := by decide
    exact this n h
  · have := (ach (n := n)).2 (by omega)
    rw [this]; decide
theorem jc (n : Nat) : (bl n).length ≤ 8 := by
  by_cases h : n < 9
  · have : ∀ n,n < 9 → (bl n).length ≤ 8 := by decide
    exact this n h
  · unfold bl
    rw [List.getD_eq_getElem?_getD,List.getElem?_eq_none (show 9 ≤ n by omega)]
    decide
theorem c19 {z : Int} {hp : Hp} {k : AV → Hp → ab} (h : -9223372036854775808 ≤ z ∧ z < 9223372036854775808) : aH mem false r19 (.nd (I z) .lf .lf) hp k = k (S (bV z)) hp := jD (.nd (ll _) .lf) (c8 _).goes (ue (a83 h)) hp k
theorem c17 {l : List UInt8} {hp : Hp} {k : AV → Hp → ab} (h : l.length ≤ 400) : aH mem false r17 (.nd (S l) .lf .lf) hp k = k (.bu (.nd (S (jw l)) .lf (.nd (I 0) .lf .lf)) 2) hp := jD (.nd (c8 _) .lf) (kj (rP _) (kT _)) (auD h) hp k
section
variable {m : cW} {x : Mk} (h : cB m) (hn : m.n ≤ 40) (hnc : ∀ i,i < m.n → m.nc i ≤ 300) (hx : x.Ok) (hp : Hp) (k : AV → Hp → ab)
include h hn hnc hx
theorem c13 : aH mem false r13 (.nd m.av .lf (.nd x.av .lf .lf)) hp k = k (I ((if Fits m x then 0 else 8 : Nat) : Int)) hp := pf (cW.pb h (fk (.nd Mk.still .lf))) (ll _).goes (auz h hn hnc hx) hp k
end
def aM (m : cW) (x : Mk) : List UInt8 := bV x.step ++ [58,32,103,111,114,111,117,116,105,110,101,32] ++ bV x.g ++ [32] ++ jw (m.nm x.f.toNat) ++ [32] ++ bV x.f ++ [32,97,116,32] ++ bV x.at' ++ [32] ++ cM x.op ++ [44,32,102,114,97,109,101,115,32] ++ bV x.fr ++ (if 0 < x.out then [44,32] ++ bl x.out else [])
theorem ni {m : cW} {x : Mk} (hF : Fits m x) : (aM m x).length ≤ 1000 := by
  unfold Fits at hF
  have l1 := cS x.step
  have l2 := cS x.g
  have l3 := cS x.f
  have l4 := cS x.at'
  have l5 := cS x.fr
  have l6 := qL x.op
  have l7 := jc x.out
  have l8 := nh (m.nm x.f.toNat)
  unfold aM
  split <;> simp only [List.length_append,List.length_cons,List.length_nil] <;> omega
section
variable {m : cW} {x : Mk} (h : cB m) (hn : m.n ≤ 40) (hx : x.Ok) (hF : Fits m x) (hp : Hp) (k : AV → Hp → ab)
include h hn hx hF
end
theorem ack (n : Nat) : lB n ≤ 1000 := by unfold lB; split <;> decide
set_option maxHeartbeats 2000000 in
theorem ann {m : cW} {x : Mk} (h : cB m) (hn : m.n ≤ 40) (hnc : ∀ i,i < m.n → m.nc i ≤ 300) (hx : x.Ok) : eJ (r5.f (.nd m.av .lf (.nd x.av .lf .lf)) .empty) = some (if Fits m x then .bu (.nd (S (aM m x)) .lf (.nd (I 0) .lf .lf)) 2 else .bu (.nd (S []) .lf (.nd (I 8) .lf .lf)) 2) := by
  have e13 := c13 h hn hnc hx
  obtain ⟨⟨a1,a2⟩,⟨a3,a4⟩,⟨a5,a6⟩,⟨a7,a8⟩,a9,⟨b1,b2⟩,b3⟩ := hx
  by_cases hF : Fits m x
  · rw [if_pos hF]
    simp only [cW.av,Mk.av,Mk.l,if_pos hF] at e13 ⊢
    have hF2 := hF
    unfold Fits at hF2
    have l1 := cS x.step
    have l2 := cS x.g
    have l3 := cS x.f
    have l4 := cS x.at'
    have l5 := cS x.fr
    have l6 := qL x.op
    have l7 := jc x.out
    have l8 := nh (m.nm x.f.toNat)
    have e1 : oP x.op = 0 := by unfold oP; rw [if_pos (by omega)]
    have e2 := ack x.out
    simp +contextual (disch := (first | omega | (simp only [Y2] <;> omega) | ((repeat' (first | exact aw | apply aq | apply ay | refine ax (by omega) ?_ ?_)) <;> (simp (disch := (first | omega | (simp only [Y5] <;> omega))) only [Y4,Nat.reduceAdd,Nat.reduceEqDiff,reduceIte, *])) | exact True.intro | rfl)) only [Y1,t5,eF,dW,Nat.reduceAdd,Nat.reduceEqDiff,reduceIte,Nat.reduceLeDiff,Nat.reduceSub,apply_ite fin5,apply_ite eJ,ret5,e13,h.fs.len,h.fs.idx,ldx1 h.fr,a7I h.fr,a3w,c17,c18,c19,c20,e1,a7j,a4j,yP,vn,sf]
    unfold aM
    by_cases h0 : x.out = 0
    · rw [if_pos h0,if_neg (by omega),List.append_nil]
    · have e3 : lB x.out = 0 := by unfold lB; rw [if_pos (by omega)]
      rw [if_neg h0,if_pos (by rw [e3]; rfl),if_pos (by omega),List.append_assoc _ [44,32]]
  · rw [if_neg hF]
    simp only [cW.av,Mk.av,Mk.l,if_neg hF] at e13 ⊢
    simp +contextual (disch := (first | omega | (simp only [Y2] <;> omega) | ((repeat' (first | exact aw | apply aq | apply ay | refine ax (by omega) ?_ ?_)) <;> (simp (disch := (first | omega | (simp only [Y5] <;> omega))) only [Y4,Nat.reduceAdd,Nat.reduceEqDiff,reduceIte, *])) | exact True.intro | rfl)) only [Y1,t5,eF,dW,Nat.reduceAdd,Nat.reduceEqDiff,reduceIte,Nat.reduceLeDiff,Nat.reduceSub,apply_ite fin5,apply_ite eJ,ret5,e13]
    rfl
section
variable {m : cW} {x : Mk} (h : cB m) (hn : m.n ≤ 40) (hnc : ∀ i,i < m.n → m.nc i ≤ 300) (hx : x.Ok) (hp : Hp) (k : AV → Hp → ab)
include h hn hnc hx
theorem c5 : aH mem false r5 (.nd m.av .lf (.nd x.av .lf .lf)) hp k = k (if Fits m x then .bu (.nd (S (aM m x)) .lf (.nd (I 0) .lf .lf)) 2 else .bu (.nd (S []) .lf (.nd (I 8) .lf .lf)) 2) hp := pf (cW.pb h (fk (.nd Mk.still .lf))) (by split <;> exact kj (rP _) (kT _)) (ann h hn hnc hx) hp k
end
end Go.Proofs.YtpiokjcbadfalaaGreatDoor.Tz
namespace Go.Proofs.YtpiokjcbadfalaaGreatDoor.Tz
noncomputable section
def ke : Sm := o9 Go.Proofs.YtpiokjcbadfalaaGreatDoor.Tz.yK [1,0,1,0]
def a4r : Fr → Hp → ab := qb Go.Proofs.YtpiokjcbadfalaaGreatDoor.Tz.yK [1,0,1,0]
def pt : ab → ab := oy Go.Proofs.YtpiokjcbadfalaaGreatDoor.Tz.yK [1,0,1,0]
def uH : Sm := aT Go.Proofs.YtpiokjcbadfalaaGreatDoor.Tz.yK [1,0,1,0,0,1,0]
def a9B : Sm := aT Go.Proofs.YtpiokjcbadfalaaGreatDoor.Tz.yK [1,0,1]
def nH : Sm := aT Go.Proofs.YtpiokjcbadfalaaGreatDoor.Tz.yK [1,0,1,0,0,1,1,0,0,1,1]
def sc : Sm := aT Go.Proofs.YtpiokjcbadfalaaGreatDoor.Tz.yK [1,0,1,0,0,1,1,0]
def al0 : ab → ab := kO Go.Proofs.YtpiokjcbadfalaaGreatDoor.Tz.yK
theorem t53 (x0 x1 : AV) (hp : Hp) : r53.f (.nd x0 .lf (.nd x1 .lf .lf)) hp = al0 (dX mem 1 x0 hp (fun v0=>au (Nat.ble v0 9223372036854775807) (a4r (.n x0 x1 (.int 3 0) (.int 3 0) (.int 3 v0) .uu .uu .uu .e) hp))) := (congrArg (fun F=>aF.f F (.nd x0 .lf (.nd x1 .lf .lf)) hp) (cX Go.Proofs.YtpiokjcbadfalaaGreatDoor.Tz.yK).symm).trans (by kernel_rfl)
theorem ret53 (x0 x1 x2 x3 x4 : AV) (hp : Hp) : al0 (.ret (.n x0 x1 x2 x3 x4 .uu .uu .uu .e) hp) = .val x2 hp := by kernel_rfl
theorem nX (x0 x1 x2 x3 x4 : AV) (hp : Hp) : (ke).run .lf (.n x0 x1 x2 x3 x4 .uu .uu .uu .e) hp = (ar .lss 3).f x3 x4 (fun v1=>AV.aJ v1 (fun v2=>when v2 ((uH).run .lf (.n x0 x1 x2 x3 x4 .uu .uu .uu .e) hp) (.exit 0 (.n x0 x1 x2 x3 x4 .uu .uu .uu .e) hp))) := by kernel_rfl
theorem a4s (fr : Fr) (hp : Hp) : a4r fr hp = pt (b8 ke 1000000 fr hp) := rfl
theorem a8t (fr : Fr) (hp : Hp) : pt (.exit 0 fr hp) = (a9B).run .lf fr hp := by kernel_rfl
theorem a2a (fr : Fr) (hp : Hp) : pt (.ret fr hp) = .ret fr hp := by kernel_rfl
theorem oH (x0 x1 x2 x3 x4 : AV) (hp : Hp) : (uH).run .lf (.n x0 x1 x2 x3 x4 .uu .uu .uu .e) hp = indexAddr 1 x0 x3 (fun v3=>aI mem false 1 v3 hp (fun v4=>(gM .eql).f x1 v4 (fun v5=>AV.aJ v5 (fun v6=>when v6 (.ret (.n x0 x1 x3 x3 x4 .uu .uu .uu .e) hp) ((nH).run .lf (.n x0 x1 x2 x3 x4 .uu .uu .uu .e) hp))))) := by kernel_rfl
theorem qy (x0 x1 x2 x3 x4 : AV) (hp : Hp) : (a9B).run .lf (.n x0 x1 x2 x3 x4 .uu .uu .uu .e) hp = .ret (.n x0 x1 (.int 3 18446744073709551615) x3 x4 .uu .uu .uu .e) hp := by kernel_rfl
theorem kx (x0 x1 x2 x3 x4 : AV) (hp : Hp) : (nH).run .lf (.n x0 x1 x2 x3 x4 .uu .uu .uu .e) hp = (sc).run .lf (.n x0 x1 x2 x3 x4 .uu .uu .uu .e) hp := by kernel_rfl
theorem nI (x0 x1 x2 x3 x4 : AV) (hp : Hp) : (sc).run .lf (.n x0 x1 x2 x3 x4 .uu .uu .uu .e) hp = (ar .add 3).f x3 (.int 3 1) (fun v7=>.ok (.n x0 x1 x2 v7 x4 .uu .uu .uu .e) hp) := by kernel_rfl
end
noncomputable section
def pB : Sm := aT cr25 [1,1,1,0,1]
def a9b : ab → ab := kO cr25
theorem t25 (x0 : AV) (hp : Hp) : r25.f (.nd x0 .lf .lf) hp = a9b (aH mem false r42 .lf hp (fun v0 v1=>dU mem (br mem) (AV.agg (aA [S [],S [],S [],S [],S [],S [],S [],S [],S [],S [],S [],S [],S [],S [],S [],S [],S [],S [],S [],S [],S [],S [],S [],S [],S [],S [],S [],S [],S [],S [],S [],S [],S [],S [],S []]) 35) 1 35 v1 (fun v2 v3=>bk mem 35 v2 v0 v3 (fun v4=>AV.qe v2 (fun v5 v6=>Hp.use mem v4 v5 (Nat.add v6 35) (fun _ _ _ _ _=>eS 1 (.ms v5 v6 35 1) (.some (.int 3 1)) .none .none (fun v12=>aH mem false r53 (.nd v12 .lf (.nd x0 .lf .lf)) v4 (fun v13 v14=>(ar .lss 3).f v13 (.int 3 0) (fun v15=>AV.aJ v15 (fun v16=>when v16 (.ret (.n x0 (.int 4 0) (.int 3 6) v13 .uu .uu .uu .uu .e) v14) ((pB).run .lf (.n x0 (.int 4 0) (.int 3 0) v13 .uu .uu .uu .uu .e) v14))))))) (fun v17 v18 v19 v20=>au (Nat.beq v20 1) (au (Nat.beq (Nat.mod v18 1) 0) (au (Nat.ble 35 v19) (eS 1 (.vs v17 (Nat.div v18 1) 35 1) (.some (.int 3 1)) .none .none (fun v21=>aH mem false r53 (.nd v21 .lf (.nd x0 .lf .lf)) v4 (fun v22 v23=>(ar .lss 3).f v22 (.int 3 0) (fun v24=>AV.aJ v24 (fun v25=>when v25 (.ret (.n x0 (.int 4 0) (.int 3 6) v22 .uu .uu .uu .uu .e) v23) ((pB).run .lf (.n x0 (.int 4 0) (.int 3 0) v22 .uu .uu .uu .uu .e) v23))))))))))))) := (congrArg (fun F=>aF.f F (.nd x0 .lf .lf) hp) (cX cr25).symm).trans (by kernel_rfl)
theorem ret25 (x0 x1 x2 x3 : AV) (hp : Hp) : a9b (.ret (.n x0 x1 x2 x3 .uu .uu .uu .uu .e) hp) = .val (.bu (.nd x1 .lf (.nd x2 .lf .lf)) 2) hp := by kernel_rfl
theorem a1k (x0 x1 x2 x3 : AV) (hp : Hp) : (pB).run .lf (.n x0 x1 x2 x3 .uu .uu .uu .uu .e) hp = (ar .add 3).f x3 (.int 3 1) (fun v26=>AV.bO v26 (fun v27 v28=>bQ 4 (yz (md v27) (hf v27) 256 v28) (fun v29=>.ret (.n x0 v29 (.int 3 0) x3 .uu .uu .uu .uu .e) hp))) := by kernel_rfl
end
noncomputable section
def pC : Sm := aT cr26 [1,1,1,0,1]
def a9c : ab → ab := kO cr26
theorem t26 (x0 : AV) (hp : Hp) : r26.f (.nd x0 .lf .lf) hp = a9c (aH mem false r44 .lf hp (fun v0 v1=>dU mem (br mem) (AV.agg (aA [S [],S [],S [],S [],S [],S [],S [],S [],S []]) 9) 1 9 v1 (fun v2 v3=>bk mem 9 v2 v0 v3 (fun v4=>AV.qe v2 (fun v5 v6=>Hp.use mem v4 v5 (Nat.add v6 9) (fun _ _ _ _ _=>eS 1 (.ms v5 v6 9 1) .none .none .none (fun v12=>aH mem false r53 (.nd v12 .lf (.nd x0 .lf .lf)) v4 (fun v13 v14=>(ar .lss 3).f v13 (.int 3 1) (fun v15=>AV.aJ v15 (fun v16=>when v16 (.ret (.n x0 (.int 4 0) (.int 3 12) v13 .uu .uu .uu .uu .e) v14) ((pC).run .lf (.n x0 (.int 4 0) (.int 3 0) v13 .uu .uu .uu .uu .e) v14))))))) (fun v17 v18 v19 v20=>au (Nat.beq v20 1) (au (Nat.beq (Nat.mod v18 1) 0) (au (Nat.ble 9 v19) (eS 1 (.vs v17 (Nat.div v18 1) 9 1) .none .none .none (fun v21=>aH mem false r53 (.nd v21 .lf (.nd x0 .lf .lf)) v4 (fun v22 v23=>(ar .lss 3).f v22 (.int 3 1) (fun v24=>AV.aJ v24 (fun v25=>when v25 (.ret (.n x0 (.int 4 0) (.int 3 12) v22 .uu .uu .uu .uu .e) v23) ((pC).run .lf (.n x0 (.int 4 0) (.int 3 0) v22 .uu .uu .uu .uu .e) v23))))))))))))) := (congrArg (fun F=>aF.f F (.nd x0 .lf .lf) hp) (cX cr26).symm).trans (by kernel_rfl)
theorem ret26 (x0 x1 x2 x3 : AV) (hp : Hp) : a9c (.ret (.n x0 x1 x2 x3 .uu .uu .uu .uu .e) hp) = .val (.bu (.nd x1 .lf (.nd x2 .lf .lf)) 2) hp := by kernel_rfl
theorem a1l (x0 x1 x2 x3 : AV) (hp : Hp) : (pC).run .lf (.n x0 x1 x2 x3 .uu .uu .uu .uu .e) hp = AV.bO x3 (fun v26 v27=>bQ 4 (yz (md v26) (hf v26) 256 v27) (fun v28=>.ret (.n x0 v28 (.int 3 0) x3 .uu .uu .uu .uu .e) hp)) := by kernel_rfl
end
attribute [local irreducible] mem
set_option linter.unusedSimpArgs false
attribute [local congr] dh aP bB dm dj bj dp cj aW cx cy cA bf bC bD aX eN cq cg cu bh bg aQ aS eO bF cn bx bH bE bz cz ck bd bI di bA bG bJ
theorem a9q {t : Row} {o n : Nat} {i : Nat} {k : AV → ab} (h : i < n ∧ n < 1000000) : indexAddr 1 (.vs t o n 1) (I i) k = k (.x 1 t (eo 1 (o + i) 0) 1 1) := by
  show au (Nat.beq 1 1) (iG (I i) n fun j=>aL ((o + j) * 1) fun p=>k (.x 1 t p 1 1)) = _
  rw [aG (cb 1),a43 (by omega) (by omega) (by omega),az]
  rfl
def j6 (s : List UInt8) : List (List UInt8) → Nat → Int
  | [],_=>-1
  | a :: l,i=>if s = a then (i : Int) else j6 s l (i + 1)
theorem vG (s : List UInt8) : ∀ (l : List (List UInt8)) (i : Nat),j6 s l i = -1 ∨ (i : Int) ≤ j6 s l i ∧ j6 s l i < i + l.length
  | [],_=>.inl rfl
  | a :: l,i=>by
    unfold j6
    split
    · exact .inr ⟨Int.le_refl _,by simp only [List.length_cons]; omega⟩
    · rcases vG s l (i + 1) with h | h
      · exact .inl h
      · exact .inr ⟨by omega,by simp only [List.length_cons]; omega⟩
theorem afH {s : List UInt8} {t : Row} {o : Nat} {L : List (List UInt8)} (hL : L.length < 1000000) (ho : o < 1000000) (ht : ∀ j,j < L.length → t.at (o + j) = S (L.getD j [])) (hp : Hp) : ∀ (f i fuel : Nat),L.length - i = f → i ≤ L.length → f < fuel →
    ∃ x3,pt (b8 ke fuel (.n (.vs t o L.length 1) (S s) (I 0) (I i) (I L.length) .uu .uu .uu .e) hp) = .ret (.n (.vs t o L.length 1) (S s) (I (j6 s (L.drop i) i)) x3 (I L.length) .uu .uu .uu .e) hp
  | f,i,0,_,_,h=>absurd h (Nat.not_lt_zero _)
  | f, i, fuel + 1, hf, hi, hfu => by
    by_cases hil : i < L.length
    · have hd : L.drop i = L.getD i [] :: L.drop (i + 1) := by
        rw [List.drop_eq_getElem_cons hil]; simp [List.getD,hil]
      have hti := ht i hil
      rw [hd]
      by_cases he : s = L.getD i []
      · have hb : (ke).run .lf (.n (.vs t o L.length 1) (S s) (I 0) (I i) (I L.length) .uu .uu .uu .e) hp = .ret (.n (.vs t o L.length 1) (S s) (I i) (I i) (I L.length) .uu .uu .uu .e) hp := by
          simp +contextual (disch := (first | omega | (simp only [Y2] <;> omega) | ((repeat' (first | exact aw | apply aq | apply ay | refine ax (by omega) ?_ ?_)) <;> (simp (disch := (first | omega | (simp only [Y5] <;> omega))) only [Y4,aj,Nat.reduceAdd,Nat.reduceEqDiff,reduceIte, *])) | exact bL _ | exact True.intro | rfl)) only [Y1,Y6,nX,oH,qy,kx,nI,Int.reduceLT,Int.reduceLE,Int.reduceEq,Int.reduceNeg,Int.reduceToNat,a2W,a4C,a5E,a4S,lr,lq,Nat.reduceAdd,Nat.reduceEqDiff,reduceIte,Nat.reduceLeDiff,uu,Nat.reduceSub,a9q,ldxs,hti]
          rw [if_pos (by omega),if_pos he,← he]
        rw [lU hb,a2a]
        unfold j6
        rw [if_pos he]
        exact ⟨_,rfl⟩
      · have hb : (ke).run .lf (.n (.vs t o L.length 1) (S s) (I 0) (I i) (I L.length) .uu .uu .uu .e) hp = .ok (.n (.vs t o L.length 1) (S s) (I 0) (I (i + 1 : Nat)) (I L.length) .uu .uu .uu .e) hp := by
          simp +contextual (disch := (first | omega | (simp only [Y2] <;> omega) | ((repeat' (first | exact aw | apply aq | apply ay | refine ax (by omega) ?_ ?_)) <;> (simp (disch := (first | omega | (simp only [Y5] <;> omega))) only [Y4,aj,Nat.reduceAdd,Nat.reduceEqDiff,reduceIte, *])) | exact bL _ | exact True.intro | rfl)) only [Y1,Y6,nX,oH,qy,kx,nI,Int.reduceLT,Int.reduceLE,Int.reduceEq,Int.reduceNeg,Int.reduceToNat,a2W,a4C,a5E,a4S,lr,lq,Nat.reduceAdd,Nat.reduceEqDiff,reduceIte,Nat.reduceLeDiff,uu,Nat.reduceSub,a9q,ldxs,hti]
          rw [if_pos (by omega),if_neg he]
          rfl
        rw [gv hb]
        obtain ⟨x3,h⟩ := afH hL ho ht hp (f - 1) (i + 1) fuel (by omega) (by omega) (by omega)
        refine ⟨x3,h.trans ?_⟩
        rw [show j6 s (L.getD i [] :: L.drop (i + 1)) i = j6 s (L.drop (i + 1)) (i + 1) from if_neg he]
    · have hi2 : i = L.length := by omega
      have hb : (ke).run .lf (.n (.vs t o L.length 1) (S s) (I 0) (I i) (I L.length) .uu .uu .uu .e) hp = .exit 0 (.n (.vs t o L.length 1) (S s) (I 0) (I i) (I L.length) .uu .uu .uu .e) hp := by
        simp +contextual (disch := (first | omega | (simp only [Y2] <;> omega) | ((repeat' (first | exact aw | apply aq | apply ay | refine ax (by omega) ?_ ?_)) <;> (simp (disch := (first | omega | (simp only [Y5] <;> omega))) only [Y4,aj,Nat.reduceAdd,Nat.reduceEqDiff,reduceIte, *])) | exact bL _ | exact True.intro | rfl)) only [Y1,Y6,nX,Int.reduceLT,Int.reduceLE,Int.reduceEq,Int.reduceNeg,Int.reduceToNat,a2W,a4C,a5E,a4S,lr,lq,Nat.reduceAdd,Nat.reduceEqDiff,reduceIte,Nat.reduceLeDiff,uu,Nat.reduceSub]
        rw [if_neg (by omega)]
      rw [fR hb,a8t,hi2,List.drop_length,qy,a9t]
      exact ⟨_,rfl⟩
theorem agZ {s : List UInt8} {t : Row} {o : Nat} {L : List (List UInt8)} (hL : L.length < 900000) (ho : o < 1000000) (ht : ∀ j,j < L.length → t.at (o + j) = S (L.getD j [])) : eJ (r53.f (.nd (.vs t o L.length 1) .lf (.nd (S s) .lf .lf)) .empty) = some (I (j6 s L 0)) := by
  obtain ⟨x3,h⟩ := afH (s := s) (by omega) ho ht .empty L.length 0 1000000 (by omega) (by omega) (by omega)
  simp +contextual (disch := (first | omega | (simp only [Y2] <;> omega) | ((repeat' (first | exact aw | apply aq | apply ay | refine ax (by omega) ?_ ?_)) <;> (simp (disch := (first | omega | (simp only [Y5] <;> omega))) only [Y4,aj,Nat.reduceAdd,Nat.reduceEqDiff,reduceIte, *])) | exact bL _ | exact True.intro | rfl)) only [Y1,Y6,t53,a4s,Int.reduceLT,Int.reduceLE,Int.reduceEq,Int.reduceNeg,Int.reduceToNat,a2W,a4C,a5E,a4S,lr,lq,Nat.reduceAdd,Nat.reduceEqDiff,reduceIte,Nat.reduceLeDiff,uu,Nat.reduceSub]
  have h' : pt (b8 ke 1000000 (.n (.vs t o L.length 1) (S s) (I 0) (I 0) (I L.length) .uu .uu .uu .e) .empty) = _ := h
  rw [h',ret53,List.drop_zero]
  rfl
noncomputable section
def ah8 (r : ab) : Row := ab.rec (motive := fun _=>Row) (fun _ _=>.lf) (fun _ _ _=>.lf) (fun _ _=>.lf) (fun v _=>match v with | .agg t _=>t | _=>.lf) .lf r
def T25 : Row := ah8 ((nR mem 1 35).f (aA (a07.map S)) .lf 0 fun t=>.val (.agg t 0) .empty)
def T26 : Row := ah8 ((nR mem 1 9).f (aA (qM.map S)) .lf 0 fun t=>.val (.agg t 0) .empty)
def isS (v : AV) (l : List UInt8) : Bool := strB v fun s k=>Nat.beq s (aR l) && Nat.beq k l.length
theorem aic : (List.range 35).all (fun j=>isS (T25.at j) (cM j)) = true := by kernel_rfl
theorem aid : (List.range 9).all (fun j=>isS (T26.at j) (bl j)) = true := by kernel_rfl
def K25 (s : List UInt8) : AV → Hp → ab := fun v13 v14=>(ar .lss 3).f v13 (.int 3 0) (fun v15=>AV.aJ v15 (fun v16=>when v16 (.ret (.n (S s) (.int 4 0) (.int 3 6) v13 .uu .uu .uu .uu .e) v14) ((pB).run .lf (.n (S s) (.int 4 0) (.int 3 0) v13 .uu .uu .uu .uu .e) v14)))
def K26 (s : List UInt8) : AV → Hp → ab := fun v13 v14=>(ar .lss 3).f v13 (.int 3 1) (fun v15=>AV.aJ v15 (fun v16=>when v16 (.ret (.n (S s) (.int 4 0) (.int 3 12) v13 .uu .uu .uu .uu .e) v14) ((pC).run .lf (.n (S s) (.int 4 0) (.int 3 0) v13 .uu .uu .uu .uu .e) v14)))
theorem arA (s : List UInt8) : r25.f (.nd (S s) .lf .lf) .empty = a9b (aH mem false r53 (.nd (.ms 0 1 34 1) .lf (.nd (S s) .lf .lf)) ⟨.nd (.row true true 1 35 T25) .lf .lf,1,[],0⟩ (K25 s)) := by
  rw [t25]; kernel_rfl
theorem arB (s : List UInt8) : r26.f (.nd (S s) .lf .lf) .empty = a9c (aH mem false r53 (.nd (.ms 0 0 9 1) .lf (.nd (S s) .lf .lf)) ⟨.nd (.row true true 1 9 T26) .lf .lf,1,[],0⟩ (K26 s)) := by
  rw [t26]; kernel_rfl
end
theorem a9u {v : AV} {l : List UInt8} (h : isS v l = true) : v = S l := by
  unfold isS at h
  obtain ⟨s,k,rfl,h2⟩ := ahB h
  rw [Bool.and_eq_true,aC,aC] at h2
  rw [h2.1,h2.2]; rfl
theorem anJ (j : Nat) (h : j < 35) : T25.at j = S (cM j) := a9u ((List.all_eq_true (l := List.range 35) (p := fun j=>isS (T25.at j) (cM j))).1 aic j (List.mem_range.2 h))
theorem anL (j : Nat) (h : j < 9) : T26.at j = S (bl j) := a9u ((List.all_eq_true (l := List.range 9) (p := fun j=>isS (T26.at j) (bl j))).1 aid j (List.mem_range.2 h))
def gH (s : List UInt8) : Int := j6 s (a07.drop 1) 0
def db (s : List UInt8) : Int := j6 s qM 0
theorem c53a (s : List UInt8) (k : AV → Hp → ab) : aH mem false r53 (.nd (.ms 0 1 34 1) .lf (.nd (S s) .lf .lf)) ⟨.nd (.row true true 1 35 T25) .lf .lf,1,[],0⟩ k = k (I (gH s)) ⟨.nd (.row true true 1 35 T25) .lf .lf,1,[],0⟩ :=
  zt (by decide) rfl (by decide) (.nd (c8 _) .lf) (ll _).goes (agZ (L := a07.drop 1) (t := T25) (o := 1) (by decide) (by decide) fun j hj=>by
    have hj' : j < 34 := hj
    rw [anJ (1 + j) (by omega)]
    unfold cM
    congr 1
    rw [List.getD_eq_getElem?_getD,List.getD_eq_getElem?_getD,List.getElem?_drop]) k
theorem c53b (s : List UInt8) (k : AV → Hp → ab) : aH mem false r53 (.nd (.ms 0 0 9 1) .lf (.nd (S s) .lf .lf)) ⟨.nd (.row true true 1 9 T26) .lf .lf,1,[],0⟩ k = k (I (db s)) ⟨.nd (.row true true 1 9 T26) .lf .lf,1,[],0⟩ :=
  zt (by decide) rfl (by decide) (.nd (c8 _) .lf) (ll _).goes (agZ (L := qM) (t := T26) (o := 0) (by decide) (by decide) fun j hj=>by
    have hj' : j < 9 := hj
    rw [Nat.zero_add,anL j (by omega)]
    rfl) k
theorem a7W (s : List UInt8) : gH s = -1 ∨ 0 ≤ gH s ∧ gH s < 34 := by
  rcases vG s (a07.drop 1) 0 with h | h
  · exact .inl h
  · exact .inr ⟨h.1,by have h2 := h.2; rw [show (a07.drop 1).length = 34 from rfl] at h2; exact h2⟩
theorem a1A (s : List UInt8) : db s = -1 ∨ 0 ≤ db s ∧ db s < 9 := by
  rcases vG s qM 0 with h | h
  · exact .inl h
  · exact .inr ⟨h.1,by have h2 := h.2; rw [show qM.length = 9 from rfl] at h2; exact h2⟩
theorem auG (s : List UInt8) : eJ (r25.f (.nd (S s) .lf .lf) .empty) = some (.bu (.nd (B8 (gH s + 1).toNat) .lf (.nd (I ((if gH s < 0 then 6 else 0 : Nat) : Int)) .lf .lf)) 2) := by
  have h := a7W s
  rw [arA,c53a]
  unfold K25
  simp +contextual (disch := (first | omega | (simp only [Y2] <;> omega) | ((repeat' (first | exact aw | apply aq | apply ay | refine ax (by omega) ?_ ?_)) <;> (simp (disch := (first | omega | (simp only [Y5] <;> omega))) only [Y4,aj,Nat.reduceAdd,Nat.reduceEqDiff,reduceIte, *])) | exact bL _ | exact True.intro | rfl)) only [Y1,Y6,a1k,Int.reduceLT,Int.reduceLE,Int.reduceEq,Int.reduceNeg,Int.reduceToNat,a2W,a4C,a5E,a4S,lr,lq,Nat.reduceAdd,Nat.reduceEqDiff,reduceIte,Nat.reduceLeDiff,uu,Nat.reduceSub,apply_ite a9b,apply_ite eJ,ret25]
  by_cases h0 : gH s < 0
  · rw [if_pos h0,if_pos h0]
    have : gH s = -1 := by omega
    rw [this]; rfl
  · rw [if_neg h0,if_neg h0]; rfl
theorem auH (s : List UInt8) : eJ (r26.f (.nd (S s) .lf .lf) .empty) = some (if db s < 1 then .bu (.nd (B8 0) .lf (.nd (I 12) .lf .lf)) 2 else .bu (.nd (B8 (db s).toNat) .lf (.nd (I 0) .lf .lf)) 2) := by
  have h := a1A s
  rw [arB,c53b]
  unfold K26
  simp +contextual (disch := (first | omega | (simp only [Y2] <;> omega) | ((repeat' (first | exact aw | apply aq | apply ay | refine ax (by omega) ?_ ?_)) <;> (simp (disch := (first | omega | (simp only [Y5] <;> omega))) only [Y4,aj,Nat.reduceAdd,Nat.reduceEqDiff,reduceIte, *])) | exact bL _ | exact True.intro | rfl)) only [Y1,Y6,a1l,Int.reduceLT,Int.reduceLE,Int.reduceEq,Int.reduceNeg,Int.reduceToNat,a2W,a4C,a5E,a4S,lr,lq,Nat.reduceAdd,Nat.reduceEqDiff,reduceIte,Nat.reduceLeDiff,uu,Nat.reduceSub,apply_ite a9c,apply_ite eJ,ret26]
  by_cases h0 : db s < 1
  · rw [if_pos h0,if_pos h0]
  · rw [if_neg h0,if_neg h0]
theorem c25 {s : List UInt8} {hp : Hp} {k : AV → Hp → ab} : aH mem false r25 (.nd (S s) .lf .lf) hp k = k (.bu (.nd (B8 (gH s + 1).toNat) .lf (.nd (I ((if gH s < 0 then 6 else 0 : Nat) : Int)) .lf .lf)) 2) hp := jD (.nd (c8 _) .lf) (kj (al2 _) (kT _)) (auG s) hp k
theorem c26 {s : List UInt8} {hp : Hp} {k : AV → Hp → ab} : aH mem false r26 (.nd (S s) .lf .lf) hp k = k (if db s < 1 then .bu (.nd (B8 0) .lf (.nd (I 12) .lf .lf)) 2 else .bu (.nd (B8 (db s).toNat) .lf (.nd (I 0) .lf .lf)) 2) hp := jD (.nd (c8 _) .lf) (by split <;> exact kj (al2 _) (kT _)) (auH s) hp k
theorem aci {n : Nat} (h : 1 ≤ n ∧ n < 35) : gH (cM n) = (n : Int) - 1 := by
  have : ∀ n,n < 35 → 1 ≤ n → gH (cM n) = (n : Int) - 1 := by decide
  exact this n h.2 h.1
theorem xL {n : Nat} (h : 1 ≤ n ∧ n ≤ 8) : db (bl n) = (n : Int) := by
  have : ∀ n,n < 9 → 1 ≤ n → db (bl n) = (n : Int) := by decide
  exact this n (by omega) h.1
end Go.Proofs.YtpiokjcbadfalaaGreatDoor.Tz
namespace Go.Proofs.YtpiokjcbadfalaaGreatDoor.Tz
noncomputable section
def aeI : Sm := aT cr7 [1,0,1]
def sj : Sm := aT cr7 [1,1,1,1,1,1,1,0,1]
def fg : Sm := aT cr7 [1,1,1,1,1,1,1,1,1,1,1,1,1,1,1,1,1,1,1,0,1,0,1,0,1]
def eI : Sm := aT cr7 [1,1,1,1,1,1,1,1,1,1,1,1,1,1,1,1,1,1,1,0,1]
def fT : Sm := aT cr7 [1,1,1,1,1,1,1,1,1,1,1,1,1,1,1,1,1,1,1,1,0,1]
def fx : Sm := aT cr7 [1,1,1,1,1,1,1,1,1,1,1,1,1,1,1,1,1,1,1,1,1,0,1,1]
def fin7 : ab → ab := kO cr7
theorem t7 (x0 x1 : AV) (hp : Hp) : r7.f (.nd x0 .lf (.nd x1 .lf .lf)) hp = fin7 (dU mem (br mem) x0 3 3 hp (fun v0 v1=>dU mem (br mem) (AV.agg (aA [.int 3 0,.int 3 0,.int 3 0,.int 3 0,.int 4 0,.int 3 0,.int 4 0]) 7) 7 7 v1 (fun v2 v3=>dX mem 0 x1 v3 (fun v4=>au (Nat.ble v4 9223372036854775807) ((ar .gtr 3).f (.int 3 v4) (.int 3 2000) (fun v5=>AV.aJ v5 (fun v6=>when v6 (bk mem 7 v2 (AV.agg (aA [.int 3 0,.int 3 0,.int 3 0,.int 3 0,.int 4 0,.int 3 0,.int 4 0]) 7) v3 (fun v7=>.ret (.n x0 x1 v2 (.int 3 4) .uu .uu .uu .uu (.n .uu .uu .uu .uu .uu .uu .uu v0 (.n .uu .uu .uu .uu .uu .uu .uu .uu .e))) v7)) ((aeI).run .lf (.n x0 x1 v2 (.int 3 0) .uu .uu .uu .uu (.n .uu .uu .uu .uu .uu .uu .uu v0 (.n .uu .uu .uu .uu .uu .uu .uu .uu .e))) v3)))))))) := (congrArg (fun F=>aF.f F (.nd x0 .lf (.nd x1 .lf .lf)) hp) (cX cr7).symm).trans (by kernel_rfl)
theorem ret7 (x0 x1 x2 x3 x4 x5 x6 x7 x8 x9 x10 x11 x12 x13 x14 x15 : AV) (hp : Hp) : fin7 (.ret (.n x0 x1 x2 x3 x4 x5 x6 x7 (.n x8 x9 x10 x11 x12 x13 x14 x15 (.n .uu .uu .uu .uu .uu .uu .uu .uu .e))) hp) = aI mem true 7 x2 hp (fun v8=>.val (.bu (.nd v8 .lf (.nd x3 .lf .lf)) 2) hp) := by kernel_rfl
theorem abH (x0 x1 x2 x3 x4 x5 x6 x7 x8 x9 x10 x11 x12 x13 x14 x15 : AV) (hp : Hp) : (aeI).run .lf (.n x0 x1 x2 x3 x4 x5 x6 x7 (.n x8 x9 x10 x11 x12 x13 x14 x15 (.n .uu .uu .uu .uu .uu .uu .uu .uu .e))) hp = dU mem (br mem) (AV.agg (aA [.int 3 0,.int 3 0,.int 3 0,.int 3 0,.int 4 0,.int 3 0,.int 4 0]) 7) 7 7 hp (fun v9 v10=>dU mem (br mem) (S []) 1 1 v10 (fun v11 v12=>bk mem 1 v11 x1 v12 (fun v13=>aH mem false r22 (.nd v11 .lf (.nd (S [58,32,103,111,114,111,117,116,105,110,101,32]) .lf .lf)) v13 (fun v14 v15=>bS 0 v14 (fun v16=>bS 1 v14 (fun v17=>aH mem false r22 (.nd v11 .lf (.nd (S [32,34]) .lf .lf)) v15 (fun v18 v19=>bS 0 v18 (fun v20=>bS 1 v18 (fun v21=>aI mem false 1 v11 v19 (fun v22=>aH mem false r23 (.nd v22 .lf (.nd (S [32,97,116,32]) .lf .lf)) v19 (fun v23 v24=>AV.aJ v17 (fun v25=>gd (.bool (de v25)) false v24 (fun k26=>k26 v21 v24) (fun v27 v28=>gd (.bool (de v25)) false v28 (fun k29=>AV.aJ v27 (fun v30=>k29 (.bool (de v30)) v28)) (fun v31 v32=>bo (.bool (de v25)) (fun v33=>v33 (.bool true)) (fun v34=>v34 v31) (fun v35=>gd v35 false v32 (fun k36=>k36 v23 v32) (fun v37 v38=>gd v35 false v38 (fun k39=>(ar .lss 3).f v37 (.int 3 0) (fun v40=>k39 v40 v38)) (fun v41 v42=>bo v35 (fun v43=>v43 (.bool true)) (fun v44=>v44 v41) (fun v45=>AV.aJ v45 (fun v46=>when v46 (bk mem 7 x2 (AV.agg (aA [.int 3 0,.int 3 0,.int 3 0,.int 3 0,.int 4 0,.int 3 0,.int 4 0]) 7) v42 (fun v47=>.ret (.n x0 x1 x2 (.int 3 12) v11 v23 v16 v20 (.n v9 x9 x10 x11 x12 x13 x14 x15 (.n .uu .uu .uu .uu .uu .uu .uu .uu .e))) v47)) ((sj).run .lf (.n x0 x1 x2 x3 v11 v23 v16 v20 (.n v9 x9 x10 x11 x12 x13 x14 x15 (.n .uu .uu .uu .uu .uu .uu .uu .uu .e))) v42)))))))))))))))))))) := by kernel_rfl
theorem vq (x0 x1 x2 x3 x4 x5 x6 x7 x8 x9 x10 x11 x12 x13 x14 x15 : AV) (hp : Hp) : (sj).run .lf (.n x0 x1 x2 x3 x4 x5 x6 x7 (.n x8 x9 x10 x11 x12 x13 x14 x15 (.n .uu .uu .uu .uu .uu .uu .uu .uu .e))) hp = kh 10 hp (fun v48=>aI mem false 1 x4 v48 (fun v49=>aI mem false 1 x4 v48 (fun v50=>fc v50 .none (.some x5) (fun v51=>dU mem (jL mem 8) (S []) 1 1 v48 (fun v52 v53=>fB mem (.cons 8 .nil) (.cons (fun v57=>v57 x4) .nil) v53 (fun h54=>aH mem false r23 (.nd v51 .lf (.nd (S [32]) .lf .lf)) h54 (fun v55 v56=>.val v55 v56)) (fun v58 v59=>(ar .add 3).f v59 (.int 3 1) (fun v60=>fc v49 (.some v60) (.some x5) (fun v61=>fB mem .nil .nil v58 (fun h62=>bk mem 1 v52 v61 h62 (fun v63=>.val (.bu .lf 0) v63)) (fun v64 _=>aH mem false r22 (.nd v52 .lf (.nd (S []) .lf .lf)) v64 (fun v66 v67=>bS 0 v66 (fun v68=>bS 1 v66 (fun v69=>aI mem false 1 x4 v67 (fun v70=>(ar .add 3).f x5 (.int 3 4) (fun v71=>fc v70 (.some v71) .none (fun v72=>bk mem 1 x4 v72 v67 (fun v73=>aH mem false r22 (.nd x4 .lf (.nd (S [32]) .lf .lf)) v73 (fun v74 v75=>bS 0 v74 (fun v76=>bS 1 v74 (fun v77=>aI mem false 1 x4 v75 (fun v78=>aH mem false r24 (.nd v78 .lf (.nd (S [44,32,102,114,97,109,101,115,32]) .lf .lf)) v75 (fun v79 v80=>bS 0 v79 (fun v81=>bS 1 v79 (fun v82=>bS 2 v79 (fun v83=>bk mem 1 x4 v82 v80 (fun v84=>aI mem false 1 x4 v84 (fun v85=>aH mem false r24 (.nd v85 .lf (.nd (S [44,32]) .lf .lf)) v84 (fun v86 v87=>bS 0 v86 (fun v88=>bS 1 v86 (fun v89=>bS 2 v86 (fun _=>dU mem (br mem) (S []) 1 1 v87 (fun v91 v92=>bk mem 1 v91 v88 v92 (fun v93=>fieldAddr 0 x8 (fun v94=>bk mem 1 v94 x6 v93 (fun v95=>fieldAddr 1 x8 (fun v96=>bk mem 1 v96 x7 v95 (fun v97=>fieldAddr 2 x8 (fun v98=>bk mem 1 v98 v68 v97 (fun v99=>fieldAddr 3 x8 (fun v100=>bk mem 1 v100 v76 v99 (fun v101=>aH mem false r25 (.nd v81 .lf .lf) v101 (fun v102 v103=>bS 0 v102 (fun v104=>bS 1 v102 (fun v105=>fieldAddr 4 x8 (fun v106=>bk mem 1 v106 v104 v103 (fun v107=>aH mem false r22 (.nd v91 .lf (.nd (S []) .lf .lf)) v107 (fun v108 v109=>bS 0 v108 (fun v110=>bS 1 v108 (fun v111=>fieldAddr 5 x8 (fun v112=>bk mem 1 v112 v110 v109 (fun v113=>(gM .neq).f v89 (S []) (fun v114=>AV.aJ v114 (fun v115=>when v115 (aH mem false r26 (.nd v89 .lf .lf) v113 (fun v116 v117=>bS 0 v116 (fun v118=>bS 1 v116 (fun v119=>(ar .neq 3).f v119 (.int 3 0) (fun v120=>AV.aJ v120 (fun v121=>when v121 (bk mem 7 x2 (AV.agg (aA [.int 3 0,.int 3 0,.int 3 0,.int 3 0,.int 4 0,.int 3 0,.int 4 0]) 7) v117 (fun v122=>.ret (.n x0 x1 x2 (.int 3 12) x4 x5 x6 x7 (.n x8 v118 v69 v77 v83 v111 v105 x15 (.n .uu .uu .uu .uu .uu .uu .uu .uu .e))) v122)) ((fg).run .lf (.n x0 x1 x2 x3 x4 x5 x6 x7 (.n x8 v118 v69 v77 v83 v111 v105 x15 (.n .uu .uu .uu .uu .uu .uu .uu .uu .e))) v117))))))) ((eI).run .lf (.n x0 x1 x2 x3 x4 x5 x6 x7 (.n x8 x9 v69 v77 v83 v111 v105 x15 (.n .uu .uu .uu .uu .uu .uu .uu .uu .e))) v113))))))))))))))))))))))))))))))))))))))))))))))))))))) := by kernel_rfl
theorem ij (x0 x1 x2 x3 x4 x5 x6 x7 x8 x9 x10 x11 x12 x13 x14 x15 : AV) (hp : Hp) : (fg).run .lf (.n x0 x1 x2 x3 x4 x5 x6 x7 (.n x8 x9 x10 x11 x12 x13 x14 x15 (.n .uu .uu .uu .uu .uu .uu .uu .uu .e))) hp = fieldAddr 6 x8 (fun v123=>bk mem 1 v123 x9 hp (fun v124=>(eI).run .lf (.n x0 x1 x2 x3 x4 x5 x6 x7 (.n x8 x9 x10 x11 x12 x13 x14 x15 (.n .uu .uu .uu .uu .uu .uu .uu .uu .e))) v124)) := by kernel_rfl
theorem jJ (x0 x1 x2 x3 x4 x5 x6 x7 x8 x9 x10 x11 x12 x13 x14 x15 : AV) (hp : Hp) : (eI).run .lf (.n x0 x1 x2 x3 x4 x5 x6 x7 (.n x8 x9 x10 x11 x12 x13 x14 x15 (.n .uu .uu .uu .uu .uu .uu .uu .uu .e))) hp = AV.aJ x10 (fun v125=>gd (.bool (de v125)) false hp (fun k126=>k126 x11 hp) (fun v127 v128=>gd (.bool (de v125)) false v128 (fun k129=>AV.aJ v127 (fun v130=>k129 (.bool (de v130)) v128)) (fun v131 v132=>bo (.bool (de v125)) (fun v133=>v133 (.bool true)) (fun v134=>v134 v131) (fun v135=>gd v135 false v132 (fun k136=>k136 x12 v132) (fun v137 v138=>gd v135 false v138 (fun k139=>AV.aJ v137 (fun v140=>k139 (.bool (de v140)) v138)) (fun v141 v142=>bo v135 (fun v143=>v143 (.bool true)) (fun v144=>v144 v141) (fun v145=>gd v145 false v142 (fun k146=>k146 x13 v142) (fun v147 v148=>gd v145 false v148 (fun k149=>AV.aJ v147 (fun v150=>k149 (.bool (de v150)) v148)) (fun v151 v152=>bo v145 (fun v153=>v153 (.bool true)) (fun v154=>v154 v151) (fun v155=>gd v155 false v152 (fun k156=>k156 x14 v152) (fun v157 v158=>gd v155 false v158 (fun k159=>(ar .neq 3).f v157 (.int 3 0) (fun v160=>k159 v160 v158)) (fun v161 v162=>bo v155 (fun v163=>v163 (.bool true)) (fun v164=>v164 v161) (fun v165=>AV.aJ v165 (fun v166=>when v166 (bk mem 7 x2 (AV.agg (aA [.int 3 0,.int 3 0,.int 3 0,.int 3 0,.int 4 0,.int 3 0,.int 4 0]) 7) v162 (fun v167=>.ret (.n x0 x1 x2 (.int 3 12) x4 x5 x6 x7 (.n x8 x9 x10 x11 x12 x13 x14 x15 (.n .uu .uu .uu .uu .uu .uu .uu .uu .e))) v167)) ((fT).run .lf (.n x0 x1 x2 x3 x4 x5 x6 x7 (.n x8 x9 x10 x11 x12 x13 x14 x15 (.n .uu .uu .uu .uu .uu .uu .uu .uu .e))) v162))))))))))))))) := by kernel_rfl
theorem jt (x0 x1 x2 x3 x4 x5 x6 x7 x8 x9 x10 x11 x12 x13 x14 x15 : AV) (hp : Hp) : (fT).run .lf (.n x0 x1 x2 x3 x4 x5 x6 x7 (.n x8 x9 x10 x11 x12 x13 x14 x15 (.n .uu .uu .uu .uu .uu .uu .uu .uu .e))) hp = aI mem true 3 x15 hp (fun v168=>aI mem true 7 x8 hp (fun v169=>aH mem false r5 (.nd v168 .lf (.nd v169 .lf .lf)) hp (fun v170 v171=>bS 0 v170 (fun v172=>bS 1 v170 (fun v173=>(ar .neq 3).f v173 (.int 3 0) (fun v174=>gd v174 false v171 (fun k175=>k175 v172 v171) (fun v176 v177=>gd v174 false v177 (fun k178=>k178 x1 v177) (fun v179 v180=>gd v174 false v180 (fun k181=>(gM .neq).f v176 v179 (fun v182=>k181 v182 v180)) (fun v183 v184=>bo v174 (fun v185=>v185 (.bool true)) (fun v186=>v186 v183) (fun v187=>AV.aJ v187 (fun v188=>when v188 (bk mem 7 x2 (AV.agg (aA [.int 3 0,.int 3 0,.int 3 0,.int 3 0,.int 4 0,.int 3 0,.int 4 0]) 7) v184 (fun v189=>.ret (.n x0 x1 x2 (.int 3 12) x4 x5 x6 x7 (.n x8 x9 x10 x11 x12 x13 x14 x15 (.n .uu .uu .uu .uu .uu .uu .uu .uu .e))) v189)) ((fx).run .lf (.n x0 x1 x2 x3 x4 x5 x6 x7 (.n x8 x9 x10 x11 x12 x13 x14 x15 (.n .uu .uu .uu .uu .uu .uu .uu .uu .e))) v184)))))))))))) := by kernel_rfl
theorem iH (x0 x1 x2 x3 x4 x5 x6 x7 x8 x9 x10 x11 x12 x13 x14 x15 : AV) (hp : Hp) : (fx).run .lf (.n x0 x1 x2 x3 x4 x5 x6 x7 (.n x8 x9 x10 x11 x12 x13 x14 x15 (.n .uu .uu .uu .uu .uu .uu .uu .uu .e))) hp = aI mem true 7 x8 hp (fun v190=>bk mem 7 x2 v190 hp (fun v191=>.ret (.n x0 x1 x2 (.int 3 0) x4 x5 x6 x7 (.n x8 x9 x10 x11 x12 x13 x14 x15 (.n .uu .uu .uu .uu .uu .uu .uu .uu .e))) v191)) := by kernel_rfl
end
attribute [local irreducible] mem
set_option linter.unusedSimpArgs false
attribute [local congr] dh aP bB dm dj bj dp cj aW cx cy cA bf bC bD aX eN cq cg cu bh bg aQ aS eO bF cn bx bH bE bz cz ck bd bI di bA bG bJ cP a3f
theorem c23 {s p : List UInt8} {hp : Hp} {k : AV → Hp → ab} (h : s.length ≤ 4294967280 ∧ p.length ≤ 4294967280) : aH mem false r23 (.nd (S s) .lf (.nd (S p) .lf .lf)) hp k = k (I (Lib.lastIndex s p)) hp := jD (.nd (c8 _) (.nd (c8 _) .lf)) (ll _).goes (ue ⟨.empty,ya (spec := fun s p=>I (Lib.lastIndex s p)) h.1 h.2 .empty⟩) hp k
theorem c24 {s p : List UInt8} {hp : Hp} {k : AV → Hp → ab} (h : s.length ≤ 4294967280 ∧ p.length ≤ 4294967280) : aH mem false r24 (.nd (S s) .lf (.nd (S p) .lf .lf)) hp k = k (.bu (.nd (S (Lib.cut s p).1) .lf (.nd (S (Lib.cut s p).2.1) .lf (.nd (.bool (Lib.cut s p).2.2) .lf .lf))) 3) hp := jD (.nd (c8 _) (.nd (c8 _) .lf)) (goes3 (rP _) (rP _) (a3z _)) (ue ⟨.empty,ya (spec := fun s p=>.bu (.nd (S (Lib.cut s p).1) .lf (.nd (S (Lib.cut s p).2.1) .lf (.nd (.bool (Lib.cut s p).2.2) .lf .lf))) 3) h.1 h.2 .empty⟩) hp k
theorem c24d {s p : List UInt8} {hp : Hp} {k : AV → Hp → ab} (h : s.length ≤ 4294967280 ∧ p.length ≤ 4294967280) : aH mem false r24 (.nd (S s) .lf (.nd (S p) .lf .lf)) hp k = k (.bu (.nd (S (Lib.cut s p).1) .lf (.nd (S (Lib.cut s p).2.1) .lf (.nd (.bool (decide ((Lib.cut s p).2.2 = true))) .lf .lf))) 3) hp := by
  rw [c24 h,Bool.decide_eq_true]
theorem c25i {s : List UInt8} {hp : Hp} {k : AV → Hp → ab} : aH mem false r25 (.nd (S s) .lf .lf) hp k = if gH s < 0 then k (.bu (.nd (B8 0) .lf (.nd (I 6) .lf .lf)) 2) hp else k (.bu (.nd (B8 (gH s + 1).toNat) .lf (.nd (I 0) .lf .lf)) 2) hp := by
  rw [c25]
  have := a7W s
  by_cases h : gH s < 0
  · have e : gH s = -1 := by omega
    rw [if_pos h,if_pos h,e]; rfl
  · rw [if_neg h,if_neg h]; rfl
theorem c26i {s : List UInt8} {hp : Hp} {k : AV → Hp → ab} : aH mem false r26 (.nd (S s) .lf .lf) hp k = if db s < 1 then k (.bu (.nd (B8 0) .lf (.nd (I 12) .lf .lf)) 2) hp else k (.bu (.nd (B8 (db s).toNat) .lf (.nd (I 0) .lf .lf)) 2) hp := by
  rw [c26]
  by_cases h : db s < 1
  · rw [if_pos h,if_pos h]
  · rw [if_neg h,if_neg h]
theorem c5i {m : cW} {x : Mk} (h : cB m) (hn : m.n ≤ 40) (hnc : ∀ i,i < m.n → m.nc i ≤ 300) (hx : x.Ok) (hp : Hp) (k : AV → Hp → ab) : aH mem false r5 (.nd m.av .lf (.nd x.av .lf .lf)) hp k = if Fits m x then k (.bu (.nd (S (aM m x)) .lf (.nd (I 0) .lf .lf)) 2) hp else k (.bu (.nd (S []) .lf (.nd (I 8) .lf .lf)) 2) hp := by
  rw [c5 h hn hnc hx]
  split <;> rfl
theorem afw (s p : List UInt8) : -1 ≤ Lib.lastIndex s p ∧ (0 ≤ Lib.lastIndex s p → Lib.lastIndex s p + p.length ≤ s.length) := by
  unfold Lib.lastIndex
  split
  · rcases Lib.lastOcc_spec s p (s.length - p.length + 1) with ⟨h,_⟩ | ⟨i,h1,h2,_⟩
    · rw [h]; omega
    · rw [h2]; omega
  · omega
theorem a0Z (s p : List UInt8) : (Lib.cut s p).1.length ≤ s.length ∧ (Lib.cut s p).2.1.length ≤ s.length := by
  unfold Lib.cut
  split
  · exact ⟨by rw [List.length_take]; omega,by rw [List.length_drop]; omega⟩
  · exact ⟨Nat.le_refl _,Nat.zero_le _⟩
def Good (P : AV → Prop) (o : Option AV) : Prop := ∃ v,o = some v ∧ P v
theorem aes {P : AV → Prop} {c : Prop} [Decidable c] {a b : Option AV} (h1 : c → Good P a) (h2 : ¬c → Good P b) : Good P (if c then a else b) := by
  by_cases h : c
  · rw [if_pos h]; exact h1 h
  · rw [if_neg h]; exact h2 h
def fp : Mk := ⟨0,0,0,0,0,0,0⟩
noncomputable def noMk (e : Int) : AV := .bu (.nd fp.av .lf (.nd (I e) .lf .lf)) 2
noncomputable def ahO (x : Mk) : AV := .bu (.nd x.av .lf (.nd (I 0) .lf .lf)) 2
noncomputable def q1 (s : List UInt8) : Int × Bool × List UInt8 := eU s [58,32,103,111,114,111,117,116,105,110,101,32]
noncomputable def q2 (s : List UInt8) : Int × Bool × List UInt8 := eU (q1 s).2.2 [32,34]
noncomputable def qi (s : List UInt8) : Int := Lib.lastIndex (q2 s).2.2 [32,97,116,32]
noncomputable def qj (s : List UInt8) : Int := Lib.lastIndex ((q2 s).2.2.take (qi s).toNat) [32]
noncomputable def q3 (s : List UInt8) : Int × Bool × List UInt8 := eU (((q2 s).2.2.take (qi s).toNat).drop (qj s + 1).toNat) []
noncomputable def q4 (s : List UInt8) : Int × Bool × List UInt8 := eU ((q2 s).2.2.drop (qi s + 4).toNat) [32]
noncomputable def d1 (s : List UInt8) : List UInt8 × List UInt8 × Bool := Lib.cut (q4 s).2.2 [44,32,102,114,97,109,101,115,32]
noncomputable def d2 (s : List UInt8) : List UInt8 × List UInt8 × Bool := Lib.cut (d1 s).2.1 [44,32]
noncomputable def q5 (s : List UInt8) : Int × Bool × List UInt8 := eU (d2 s).1 []
noncomputable def qm (s : List UInt8) : Mk := ⟨(q1 s).1,(q2 s).1,(q3 s).1,(q4 s).1,(gH (d1 s).1 + 1).toNat,(q5 s).1,if (d2 s).2.1 = [] then 0 else (db (d2 s).2.1).toNat⟩
set_option maxHeartbeats 8000000 in
theorem ah1 {m : cW} {s : List UInt8} (h : cB m) (hn : m.n ≤ 40) (hnc : ∀ i,i < m.n → m.nc i ≤ 300) (hs : s.length ≤ 2000) : Good (fun v=>v = noMk 12 ∨ ∃ x : Mk,x.Ok ∧ Fits m x ∧ aM m x = s ∧ v = ahO x) (eJ (r7.f (.nd m.av .lf (.nd (S s) .lf .lf)) .empty)) ∧
    ((q1 s).2.1 = true → (q2 s).2.1 = true → ¬ qi s < 0 → (q3 s).2.1 = true → (q4 s).2.1 = true → (d1 s).2.2 = true → (q5 s).2.1 = true → ¬ gH (d1 s).1 < 0 → ((d2 s).2.1 = [] ∨ ¬ db (d2 s).2.1 < 1) → Fits m (qm s) → aM m (qm s) = s → eJ (r7.f (.nd m.av .lf (.nd (S s) .lf .lf)) .empty) = some (ahO (qm s))) := by
  generalize hv : eJ (r7.f (.nd m.av .lf (.nd (S s) .lf .lf)) .empty) = v
  unfold qm q5 d2 d1 q4 q3 qj qi q2 q1
  have l1 := kE s [58,32,103,111,114,111,117,116,105,110,101,32]
  have m1 := qK s [58,32,103,111,114,111,117,116,105,110,101,32]
  generalize hP1 : eU s [58,32,103,111,114,111,117,116,105,110,101,32] = P1 at *
  have l2 := kE P1.2.2 [32,34]
  have m2 := qK P1.2.2 [32,34]
  generalize hP2 : eU P1.2.2 [32,34] = P2 at *
  have l3 := afw P2.2.2 [32,97,116,32]
  generalize hI : Lib.lastIndex P2.2.2 [32,97,116,32] = i at *
  have l4 := afw (P2.2.2.take i.toNat) [32]
  have l4b : (P2.2.2.take i.toNat).length ≤ P2.2.2.length := by rw [List.length_take]; omega
  have l4c : 0 ≤ i → ((P2.2.2.take i.toNat).length : Int) ≤ i := fun _=>by rw [List.length_take]; omega
  generalize hJ : Lib.lastIndex (P2.2.2.take i.toNat) [32] = j at *
  have l5 : ((P2.2.2.take i.toNat).drop (j + 1).toNat).length ≤ 2000 := by rw [List.length_drop]; omega
  have m3 := qK ((P2.2.2.take i.toNat).drop (j + 1).toNat) []
  have l5b := kE ((P2.2.2.take i.toNat).drop (j + 1).toNat) []
  generalize hP3 : eU ((P2.2.2.take i.toNat).drop (j + 1).toNat) [] = P3 at *
  have l6 : (P2.2.2.drop (i + 4).toNat).length ≤ 2000 := by rw [List.length_drop]; omega
  have m4 := qK (P2.2.2.drop (i + 4).toNat) [32]
  have l6b := kE (P2.2.2.drop (i + 4).toNat) [32]
  generalize hP4 : eU (P2.2.2.drop (i + 4).toNat) [32] = P4 at *
  have l7 := a0Z P4.2.2 [44,32,102,114,97,109,101,115,32]
  generalize hC1 : Lib.cut P4.2.2 [44,32,102,114,97,109,101,115,32] = C1 at *
  have l8 := a0Z C1.2.1 [44,32]
  generalize hC2 : Lib.cut C1.2.1 [44,32] = C2 at *
  have m5 := qK C2.1 []
  have l9 := kE C2.1 []
  generalize hP5 : eU C2.1 [] = P5 at *
  have o1 := a7W C1.1
  have o2 := a1A C2.2.1
  have e50 := c5i (x := ⟨P1.1,P2.1,P3.1,P4.1,(gH C1.1 + 1).toNat,P5.1,0⟩) h hn hnc ⟨m1,m2,m3,m4,by show (gH C1.1 + 1).toNat < 256; omega,m5,by show (0 : Nat) < 256; omega⟩
  have e51 := c5i (x := ⟨P1.1,P2.1,P3.1,P4.1,(gH C1.1 + 1).toNat,P5.1,(db C2.2.1).toNat⟩) h hn hnc ⟨m1,m2,m3,m4,by show (gH C1.1 + 1).toNat < 256; omega,m5,by show (db C2.2.1).toNat < 256; omega⟩
  simp only [List.length_cons,List.length_nil,Nat.zero_add,Nat.reduceAdd] at l3 l4
  have k0 : Mk.Ok ⟨P1.1,P2.1,P3.1,P4.1,(gH C1.1 + 1).toNat,P5.1,0⟩ := ⟨m1,m2,m3,m4,by show (gH C1.1 + 1).toNat < 256; omega,m5,by show (0 : Nat) < 256; omega⟩
  have k1 : Mk.Ok ⟨P1.1,P2.1,P3.1,P4.1,(gH C1.1 + 1).toNat,P5.1,(db C2.2.1).toNat⟩ := ⟨m1,m2,m3,m4,by show (gH C1.1 + 1).toNat < 256; omega,m5,by show (db C2.2.1).toNat < 256; omega⟩
  simp only [cW.av,Mk.av,Mk.l] at e50 e51 hv
  simp +contextual (maxSteps := 2000000) (disch := (first | omega | (simp only [Y2] <;> omega) | ((repeat' (first | exact aw | apply aq | apply ay | refine ax (by omega) ?_ ?_)) <;> (simp (disch := (first | omega | (simp only [Y5] <;> omega))) only [Y4,nd @aD,nd @aE,aj,Nat.reduceAdd,Nat.reduceEqDiff,reduceIte, *])) | (simp (disch := omega) only [Y4,nd @aD,nd @aE,aj,Nat.reduceAdd,Nat.reduceEqDiff,reduceIte]; done) | exact bL _ | exact bY _ | exact bX _ | exact bZ _ | exact True.intro | rfl)) only [Y1,Y6,Y8,t7,abH,vq,ij,jJ,jt,iH,Int.reduceLT,Int.reduceLE,Int.reduceEq,Int.reduceNeg,Int.reduceToNat,Nat.reduceAdd,Nat.reduceEqDiff,reduceIte,Nat.reduceLeDiff,Nat.reduceSub,c22e,a4L,c23,c24d,c25i,c26i,hP1,hP2,hI,hJ,hP3,hP4,hC1,hC2,hP5,e50,e51,apply_ite fin7,apply_ite eJ,ret7] at hv
  subst hv
  refine ⟨?_, ?_⟩
  · repeat' (refine aes (fun _=>?_) (fun _=>?_))
    all_goals first
      | exact ⟨_,rfl,.inl rfl⟩
      | (refine ⟨_,rfl,.inr ⟨⟨P1.1,P2.1,P3.1,P4.1,(gH C1.1 + 1).toNat,P5.1,0⟩,k0,by assumption,by assumption,rfl⟩⟩)
      | (refine ⟨_,rfl,.inr ⟨⟨P1.1,P2.1,P3.1,P4.1,(gH C1.1 + 1).toNat,P5.1,(db C2.2.1).toNat⟩,k1,by assumption,by assumption,rfl⟩⟩)
      | (exfalso; omega)
  · intro h1 h2 h3 h4 h5 h6 h7 h8 h9 h10 h11
    rw [if_neg (by omega),if_pos h1,if_pos h2,if_neg h3,if_neg h8]
    by_cases hw : C2.2.1 = []
    · rw [if_pos hw] at h10 h11 ⊢
      rw [if_pos h4,if_pos h5,if_pos h6,if_pos h7,if_pos h10,if_pos h11,if_pos hw]
      rfl
    · rw [if_neg hw] at h10 h11 ⊢
      rw [if_neg (h9.resolve_left hw),if_pos h4,if_pos h5,if_pos h6,if_pos h7,if_pos h10,if_pos h11,if_neg hw]
      rfl
theorem ak9 {m : cW} {s : List UInt8} (h : cB m) (hs : 2000 < s.length) (hs2 : s.length ≤ 100000) : eJ (r7.f (.nd m.av .lf (.nd (S s) .lf .lf)) .empty) = some (noMk 4) := by
  simp only [cW.av]
  simp +contextual (maxSteps := 2000000) (disch := (first | omega | (simp only [Y2] <;> omega) | ((repeat' (first | exact aw | apply aq | apply ay | refine ax (by omega) ?_ ?_)) <;> (simp (disch := (first | omega | (simp only [Y5] <;> omega))) only [Y4,nd @aD,nd @aE,aj,Nat.reduceAdd,Nat.reduceEqDiff,reduceIte, *])) | (simp (disch := omega) only [Y4,nd @aD,nd @aE,aj,Nat.reduceAdd,Nat.reduceEqDiff,reduceIte]; done) | exact bL _ | exact bY _ | exact bX _ | exact bZ _ | exact True.intro | rfl)) only [Y1,Y6,Y8,t7,Int.reduceLT,Int.reduceLE,Int.reduceEq,Int.reduceNeg,Int.reduceToNat,Nat.reduceAdd,Nat.reduceEqDiff,reduceIte,Nat.reduceLeDiff,Nat.reduceSub,apply_ite fin7,apply_ite eJ,ret7]
  rw [if_pos (by omega)]
  rfl
end Go.Proofs.YtpiokjcbadfalaaGreatDoor.Tz
namespace Go.Proofs.YtpiokjcbadfalaaGreatDoor.Tz
attribute [local irreducible] mem
set_option linter.unusedSimpArgs false
attribute [local congr] dh aP bB dm dj bj dp cj aW cx cy cA bf bC bD aX eN cq cg cu bh bg aQ aS eO bF cn bx bH bE bz cz ck bd bI di bA bG bJ cP
noncomputable def w1 (s : List UInt8) : Int × List UInt8 := a7U s
noncomputable def w2 (s : List UInt8) : Int × List UInt8 := a7U ((w1 s).2.drop 12)
def pre4 (m : cW) (f : Nat) : List UInt8 := [32] ++ jw (m.nm f) ++ [32] ++ bV f ++ [32,97,116,32]
noncomputable def w4 (m : cW) (s : List UInt8) (f : Nat) : Int × List UInt8 := a7U ((w2 s).2.drop (pre4 m f).length)
noncomputable def wop (m : cW) (s : List UInt8) (f : Nat) : Nat := m.op f (w4 m s f).1.toNat
noncomputable def w5 (m : cW) (s : List UInt8) (f : Nat) : Int × List UInt8 := a7U ((w4 m s f).2.drop ([32] ++ cM (wop m s f) ++ [44,32,102,114,97,109,101,115,32]).length)
end Go.Proofs.YtpiokjcbadfalaaGreatDoor.Tz
namespace Go.Proofs.YtpiokjcbadfalaaGreatDoor.Tz
noncomputable section
def aeg : ab → ab := kO cr33
theorem t33 (x0 : AV) (hp : Hp) : r33.f (.nd x0 .lf .lf) hp = aeg (dU mem (br mem) x0 3 3 hp (fun v0 v1=>fieldAddr 0 v0 (fun v2=>aI mem false 1 v2 v1 (fun v3=>(ar .geq 4).f v3 (.int 4 1) (fun v4=>gd v4 true v1 (fun k5=>fieldAddr 0 v0 (fun v6=>k5 v6 v1)) (fun v7 v8=>gd v4 true v8 (fun k9=>aI mem false 1 v7 v8 (fun v10=>k9 v10 v8)) (fun v11 v12=>gd v4 true v12 (fun k13=>(ar .leq 4).f v11 (.int 4 8) (fun v14=>k13 v14 v12)) (fun v15 v16=>bo v4 (fun v17=>v17 v15) (fun v18=>v18 (.bool false)) (fun v19=>gd v19 true v16 (fun k20=>fieldAddr 1 v0 (fun v21=>k20 v21 v16)) (fun v22 v23=>gd v19 true v23 (fun k24=>aI mem false 1 v22 v23 (fun v25=>k24 v25 v23)) (fun v26 v27=>gd v19 true v27 (fun k28=>(ar .geq 3).f v26 (.int 3 18446744073709551615) (fun v29=>k28 v29 v27)) (fun v30 v31=>bo v19 (fun v32=>v32 v30) (fun v33=>v33 (.bool false)) (fun v34=>gd v34 true v31 (fun k35=>fieldAddr 1 v0 (fun v36=>k35 v36 v31)) (fun v37 v38=>gd v34 true v38 (fun k39=>aI mem false 1 v37 v38 (fun v40=>k39 v40 v38)) (fun v41 v42=>gd v34 true v42 (fun k43=>(ar .lss 3).f v41 (.int 3 16) (fun v44=>k43 v44 v42)) (fun v45 v46=>bo v34 (fun v47=>v47 v45) (fun v48=>v48 (.bool false)) (fun v49=>gd v49 true v46 (fun k50=>fieldAddr 2 v0 (fun v51=>k50 v51 v46)) (fun v52 v53=>gd v49 true v53 (fun k54=>aI mem false 1 v52 v53 (fun v55=>k54 v55 v53)) (fun v56 v57=>gd v49 true v57 (fun k58=>(ar .geq 3).f v56 (.int 3 0) (fun v59=>k58 v59 v57)) (fun v60 v61=>bo v49 (fun v62=>v62 v60) (fun v63=>v63 (.bool false)) (fun v64=>gd v64 true v61 (fun k65=>fieldAddr 2 v0 (fun v66=>k65 v66 v61)) (fun v67 v68=>gd v64 true v68 (fun k69=>aI mem false 1 v67 v68 (fun v70=>k69 v70 v68)) (fun v71 v72=>gd v64 true v72 (fun k73=>(ar .leq 3).f v71 (.int 3 2000) (fun v74=>k73 v74 v72)) (fun v75 v76=>bo v64 (fun v77=>v77 v75) (fun v78=>v78 (.bool false)) (fun v79=>.ret (.n x0 v79 .uu .uu .uu .uu .uu .uu .e) v76))))))))))))))))))))))))) := (congrArg (fun F=>aF.f F (.nd x0 .lf .lf) hp) (cX cr33).symm).trans (by kernel_rfl)
theorem ret33 (x0 x1 : AV) (hp : Hp) : aeg (.ret (.n x0 x1 .uu .uu .uu .uu .uu .uu .e) hp) = .val x1 hp := by kernel_rfl
end
set_option linter.unusedSimpArgs false
attribute [local congr] dh aP bB dm dj bj dp cj aW cx cy cA bf bC bD aX eN cq cg cu bh bg aQ aS eO bF cn bx bH bE bz cz ck bd bI di bA bG bJ cP ek
theorem agY {o : Nat} {f u : Int} (hf : jR f) (hu : jR u) : eJ (r33.f (.nd (.agg (aA [B8 o,I f,I u]) 3) .lf .lf) .empty) = some (.bool (decide (1 ≤ o ∧ o ≤ 8 ∧ -1 ≤ f ∧ f < 16 ∧ 0 ≤ u ∧ u ≤ 2000))) := by
  have ⟨hf1,hf2⟩ := hf
  have ⟨hu1,hu2⟩ := hu
  simp +contextual (maxSteps := 2000000) (disch := (first | omega | (simp only [Y2,List.length_drop,List.length_take] <;> omega) | ((repeat' (first | exact aw | apply aq | apply ay | refine ax (by omega) ?_ ?_)) <;> (simp (disch := (first | omega | (simp only [Y5] <;> omega))) only [Y4,nd @aD,nd @aE,aj,Nat.reduceAdd,Nat.reduceEqDiff,reduceIte, *])) | (simp (disch := omega) only [Y4,nd @aD,nd @aE,aj,Nat.reduceAdd,Nat.reduceEqDiff,reduceIte]; done) | assumption | exact bL _ | exact bY _ | exact bX _ | exact bZ _ | exact True.intro | rfl)) only [Y1,Y6,Y8,t33,Int.reduceLT,Int.reduceLE,Int.reduceEq,Int.reduceNeg,Int.reduceToNat,Nat.reduceAdd,Nat.reduceEqDiff,reduceIte,Nat.reduceLeDiff,ahk,ahl,ahm,agg3,Nat.reduceSub,apply_ite aeg,apply_ite eJ,ret33]
  repeat' split
  all_goals (refine avg ?_; rw [Bool.eq_iff_iff]; simp only [decide_eq_true_eq,Bool.false_eq_true,false_iff]; omega)
end Go.Proofs.YtpiokjcbadfalaaGreatDoor.Tz
namespace Go.Proofs.YtpiokjcbadfalaaGreatDoor.Tz
noncomputable section
def aeh : ab → ab := kO cr38
theorem t38 (x0 : AV) (hp : Hp) : r38.f (.nd x0 .lf .lf) hp = aeh (dU mem (br mem) (AV.agg (aA [.int 4 0,.int 3 0,.int 3 0]) 3) 3 3 hp (fun v0 v1=>aH mem false r49 (.nd x0 .lf (.nd (S [101,110,100,101,100,32]) .lf .lf)) v1 (fun v2 v3=>bS 0 v2 (fun v4=>bS 1 v2 (fun v5=>dU mem (br mem) (S []) 1 1 v3 (fun v6 v7=>bk mem 1 v6 v4 v7 (fun v8=>aI mem false 1 v6 v8 (fun v9=>aH mem false r24 (.nd v9 .lf (.nd (S [44,32,102,97,105,108,105,110,103,32]) .lf .lf)) v8 (fun v10 v11=>bS 0 v10 (fun v12=>bS 1 v10 (fun v13=>bS 2 v10 (fun v14=>bk mem 1 v6 v13 v11 (fun v15=>aH mem false r26 (.nd v12 .lf .lf) v15 (fun v16 v17=>bS 0 v16 (fun v18=>bS 1 v16 (fun v19=>aH mem false r22 (.nd v6 .lf (.nd (S [44,32,117,115,101,100,32]) .lf .lf)) v17 (fun v20 v21=>bS 0 v20 (fun v22=>bS 1 v20 (fun v23=>aH mem false r22 (.nd v6 .lf (.nd (S []) .lf .lf)) v21 (fun v24 v25=>bS 0 v24 (fun v26=>bS 1 v24 (fun v27=>xZ 0 1 (.nd (.int 4 0) .lf (.nd (.int 3 0) .lf (.nd (.int 3 0) .lf .lf))) v18 (fun v28=>xZ 1 1 v28 v22 (fun v29=>xZ 2 1 v29 v26 (fun v30=>dU mem (br mem) (AV.agg (aA [.int 4 0,.int 3 0,.int 3 0]) 3) 3 3 v25 (fun v31 v32=>bk mem 3 v31 (.agg v30 3) v32 (fun v33=>kh 25 v33 (fun v34=>aI mem true 3 v31 v34 (fun v35=>gd v5 true v34 (fun k36=>k36 v14 v34) (fun v37 v38=>bo v5 (fun v39=>v39 v37) (fun v40=>v40 (.bool false)) (fun v41=>gd v41 true v38 (fun k42=>k42 v23 v38) (fun v43 v44=>bo v41 (fun v45=>v45 v43) (fun v46=>v46 (.bool false)) (fun v47=>gd v47 true v44 (fun k48=>k48 v27 v44) (fun v49 v50=>bo v47 (fun v51=>v51 v49) (fun v52=>v52 (.bool false)) (fun v53=>gd v53 true v50 (fun k54=>aI mem false 1 v6 v50 (fun v55=>k54 v55 v50)) (fun v56 v57=>gd v53 true v57 (fun k58=>(gM .eql).f v56 (S []) (fun v59=>k58 v59 v57)) (fun v60 v61=>bo v53 (fun v62=>v62 v60) (fun v63=>v63 (.bool false)) (fun v64=>gd v64 true v61 (fun k65=>k65 v19 v61) (fun v66 v67=>gd v64 true v67 (fun k68=>(ar .eql 3).f v66 (.int 3 0) (fun v69=>k68 v69 v67)) (fun v70 v71=>bo v64 (fun v72=>v72 v70) (fun v73=>v73 (.bool false)) (fun v74=>gd v74 true v71 (fun k75=>aI mem true 3 v31 v71 (fun v76=>k75 v76 v71)) (fun v77 v78=>gd v74 true v78 (fun k79=>fB mem .nil (.cons (fun v83=>v83 v31) .nil) v78 (fun h80=>aH mem false r33 (.nd v77 .lf .lf) h80 (fun v81 v82=>.val v81 v82)) (fun v84 v85=>k79 v85 v84)) (fun v86 v87=>bo v74 (fun v88=>v88 v86) (fun v89=>v89 (.bool false)) (fun v90=>fB mem .nil .nil v87 (fun h91=>bk mem 3 v0 v35 h91 (fun v92=>.val (.bu .lf 0) v92)) (fun v93 _=>.ret (.n x0 v0 v90 .uu .uu .uu .uu .uu .e) v93))))))))))))))))))))))))))))))))))))))))))))) := (congrArg (fun F=>aF.f F (.nd x0 .lf .lf) hp) (cX cr38).symm).trans (by kernel_rfl)
theorem ret38 (x0 x1 x2 : AV) (hp : Hp) : aeh (.ret (.n x0 x1 x2 .uu .uu .uu .uu .uu .e) hp) = aI mem true 3 x1 hp (fun v95=>.val (.bu (.nd v95 .lf (.nd x2 .lf .lf)) 2) hp) := by kernel_rfl
end
attribute [local irreducible] mem
set_option linter.unusedSimpArgs false
attribute [local congr] dh aP bB dm dj bj dp cj aW cx cy cA bf bC bD aX eN cq cg cu bh bg aQ aS eO bF cn bx bH bE bz cz ck bd bI di bA bG bJ cP ek a3f
set_option maxHeartbeats 4000000
structure En where
  out : Nat
  fl : Int
  us : Int
def En.l (x : En) : List AV := [B8 x.out,I x.fl,I x.us]
def En.av (x : En) : AV := .agg (aA x.l) 3
structure En.Ok (x : En) : Prop where
  out : x.out < 256
  fl : jR x.fl
  us : jR x.us
def vz (x : En) : Prop := 1 ≤ x.out ∧ x.out ≤ 8 ∧ -1 ≤ x.fl ∧ x.fl < 16 ∧ 0 ≤ x.us ∧ x.us ≤ 2000
instance (x : En) : Decidable (vz x) := by unfold vz; infer_instance
def ep (x : En) : List UInt8 := [101,110,100,101,100,32] ++ bl x.out ++ [44,32,102,97,105,108,105,110,103,32] ++ bV x.fl ++ [44,32,117,115,101,100,32] ++ bV x.us
theorem En.still {x : En} : Still x.av := pc (by rfl)
theorem c33 {o : Nat} {f u : Int} {hp : Hp} {k : AV → Hp → ab} (h : (-9223372036854775808 ≤ f ∧ f < 9223372036854775808) ∧ -9223372036854775808 ≤ u ∧ u < 9223372036854775808) : aH mem false r33 (.nd (.agg (aA [B8 o,I f,I u]) 3) .lf .lf) hp k = k (.bool (decide (vz ⟨o,f,u⟩))) hp := jD (.nd (pc (by rfl)) .lf) (y9 _).goes (agY h.1 h.2) hp k
theorem c49d {s p : List UInt8} {hp : Hp} {k : AV → Hp → ab} (h : s.length ≤ 4294967280 ∧ p.length ≤ 4294967280) : aH mem false r49 (.nd (S s) .lf (.nd (S p) .lf .lf)) hp k = k (.bu (.nd (S (Lib.trimPrefix s p)) .lf (.nd (.bool (decide (Lib.hasPrefix s p = true))) .lf .lf)) 2) hp := by
  rw [c49 h,Bool.decide_eq_true]
theorem ahJ (s p : List UInt8) : (Lib.trimPrefix s p).length ≤ s.length := by
  unfold Lib.trimPrefix
  split
  · rw [List.length_drop]; omega
  · exact Nat.le_refl _
noncomputable def v1 (s : List UInt8) : List UInt8 := Lib.trimPrefix s [101,110,100,101,100,32]
noncomputable def v2 (s : List UInt8) : List UInt8 × List UInt8 × Bool := Lib.cut (v1 s) [44,32,102,97,105,108,105,110,103,32]
noncomputable def v3 (s : List UInt8) : Int × Bool × List UInt8 := eU (v2 s).2.1 [44,32,117,115,101,100,32]
noncomputable def v4 (s : List UInt8) : Int × Bool × List UInt8 := eU (v3 s).2.2 []
noncomputable def vm (s : List UInt8) : En := ⟨(db (v2 s).1).toNat,(v3 s).1,(v4 s).1⟩
def vOk (s : List UInt8) : Prop := ¬ db (v2 s).1 < 1 ∧ Lib.hasPrefix s [101,110,100,101,100,32] = true ∧ (v2 s).2.2 = true ∧ (v3 s).2.1 = true ∧ (v4 s).2.1 = true ∧ (v4 s).2.2 = [] ∧ vz (vm s)
theorem aat {s : List UInt8} (hs : s.length ≤ 50000) : (vOk s → eJ (r38.f (.nd (S s) .lf .lf) .empty) = some (.bu (.nd (vm s).av .lf (.nd (.bool true) .lf .lf)) 2)) ∧ (¬ vOk s → ∃ x : En,eJ (r38.f (.nd (S s) .lf .lf) .empty) = some (.bu (.nd x.av .lf (.nd (.bool false) .lf .lf)) 2)) := by
  generalize hv : eJ (r38.f (.nd (S s) .lf .lf) .empty) = v
  unfold vOk vm v4 v3 v2 v1
  have l1 := ahJ s [101,110,100,101,100,32]
  generalize hT : Lib.trimPrefix s [101,110,100,101,100,32] = T at *
  have l2 := a0Z T [44,32,102,97,105,108,105,110,103,32]
  generalize hC : Lib.cut T [44,32,102,97,105,108,105,110,103,32] = C at *
  have l3 := kE C.2.1 [44,32,117,115,101,100,32]
  have m1 := qK C.2.1 [44,32,117,115,101,100,32]
  generalize hP : eU C.2.1 [44,32,117,115,101,100,32] = P at *
  have l4 := kE P.2.2 []
  have m2 := qK P.2.2 []
  generalize hQ : eU P.2.2 [] = Q at *
  have o2 := a1A C.1
  simp +contextual (maxSteps := 2000000) (disch := (first | omega | (simp only [Y2,List.length_drop,List.length_take] <;> omega) | ((repeat' (first | exact aw | apply aq | apply ay | refine ax (by omega) ?_ ?_)) <;> (simp (disch := (first | omega | (simp only [Y5] <;> omega))) only [Y4,nd @aD,nd @aE,aj,Nat.reduceAdd,Nat.reduceEqDiff,reduceIte, *])) | (simp (disch := omega) only [Y4,nd @aD,nd @aE,aj,Nat.reduceAdd,Nat.reduceEqDiff,reduceIte]; done) | assumption | exact bL _ | exact bY _ | exact bX _ | exact bZ _ | exact True.intro | rfl)) only [Y1,Y6,Y8,t38,Int.reduceLT,Int.reduceLE,Int.reduceEq,Int.reduceNeg,Int.reduceToNat,Nat.reduceAdd,Nat.reduceEqDiff,reduceIte,Nat.reduceLeDiff,ahk,ahl,ahm,agg3,Nat.reduceSub,c49d,c24d,c26i,c22e,a4L,c33,hT,hC,hP,hQ,apply_ite aeh,apply_ite eJ,ret38] at hv
  subst hv
  refine ⟨fun ⟨h1,h2,h3,h4,h5,h6,h7⟩=>?_,fun hno=>?_⟩
  · rw [if_neg h1,if_pos h2,if_pos h3,if_pos h4,if_pos h5,if_pos h6,decide_eq_true h7]; rfl
  · have key : ∀ {c : Prop} [Decidable c] {a b : Option AV},(c → ∃ x : En,a = some (.bu (.nd x.av .lf (.nd (.bool false) .lf .lf)) 2)) → (¬c → ∃ x : En,b = some (.bu (.nd x.av .lf (.nd (.bool false) .lf .lf)) 2)) → ∃ x : En,(if c then a else b) = some (.bu (.nd x.av .lf (.nd (.bool false) .lf .lf)) 2) := by
      intro c _ a b h1 h2
      by_cases h : c
      · rw [if_pos h]; exact h1 h
      · rw [if_neg h]; exact h2 h
    repeat' (refine key (fun _=>?_) (fun _=>?_))
    all_goals first
      | exact ⟨⟨0,P.1,Q.1⟩,rfl⟩
      | exact ⟨⟨(db C.1).toNat,P.1,Q.1⟩,rfl⟩
      | (refine ⟨⟨(db C.1).toNat,P.1,Q.1⟩, ?_⟩
         rw [decide_eq_false (fun hR=>hno ⟨by assumption,by assumption,by assumption,by assumption,by assumption,by assumption,hR⟩)]
         rfl)
end Go.Proofs.YtpiokjcbadfalaaGreatDoor.Tz
