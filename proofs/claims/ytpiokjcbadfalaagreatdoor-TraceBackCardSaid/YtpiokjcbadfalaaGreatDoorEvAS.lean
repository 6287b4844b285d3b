import Derived.Test.YtpiokjcbadfalaaGreatDoorEvAP
import Derived.Test.YtpiokjcbadfalaaGreatDoorEvAQ
import Derived.Test.YtpiokjcbadfalaaGreatDoorEvAR
open Go Go.Proofs.YtpiokjcbadfalaaGreatDoor.Ev
namespace Go.Proofs.YtpiokjcbadfalaaGreatDoor.Tz
set_option linter.defProp false
def Y8 := And.intro @aaJ (And.intro @pl_I (And.intro @pl_B (And.intro @pl_U (And.intro @zi (And.intro @vY (And.intro @ad5 (And.intro @Bool.and_self (And.intro @Bool.true_and (And.intro @aet (And.intro @a2W (And.intro @a4C (And.intro @a5E (And.intro @a4S (And.intro @lr (And.intro @lq (And.intro @uu (And.intro @a0A (And.intro @a6j (And.intro @a0z (@akM))))))))))))))))))))
end Go.Proofs.YtpiokjcbadfalaaGreatDoor.Tz
namespace Go.Proofs.YtpiokjcbadfalaaGreatDoor.Tz
def a07 : List (List UInt8) := [[],[105,110,116],[116,101,120,116],[98,111,111,108],[122,101,114,111],[99,111,112,121],[97,100,100],[115,117,98],[109,117,108],[100,105,118],[108,101,115,115],[115,97,109,101],[110,111,116],[102,105,101,108,100],[112,117,116],[110,101,119],[108,111,97,100],[115,116,111,114,101],[109,97,107,101],[97,116],[115,101,116],[108,101,110],[106,117,109,112],[98,114,97,110,99,104],[97,114,103],[99,97,108,108],[100,101,102,101,114],[103,111],[112,97,110,105,99],[114,101,99,111,118,101,114],[101,120,105,116],[121,105,101,108,100],[98,108,111,99,107],[119,97,107,101],[114,101,116,117,114,110]]
def qM : List (List UInt8) := [[],[110,111,114,109,97,108],[112,97,110,105,99],[100,101,97,100,108,111,99,107],[115,116,97,99,107],[104,101,97,112],[114,111,117,116,105,110,101,115],[115,116,101,112,115],[115,99,114,105,112,116]]
def cM (n : Nat) : List UInt8 := a07.getD n []
def bl (n : Nat) : List UInt8 := qM.getD n []
def oP (n : Nat) : Nat := if 1 ≤ n ∧ n < 35 then 0 else 6
def lB (n : Nat) : Nat := if 1 ≤ n ∧ n ≤ 8 then 0 else 2
noncomputable section
def a1Q (r : ab) (l : List UInt8) (e : Nat) : Bool := resB r fun v=>ag5 v fun s k d=>Nat.beq s (aR l) && Nat.beq k l.length && Nat.beq d e
def adl (n : Nat) : Bool := a1Q (r18.f (.nd (.int 4 n) .lf .lf) .empty) (cM n) (oP n) && a1Q (r20.f (.nd (.int 4 n) .lf .lf) .empty) (bl n) (lB n)
theorem adm : (List.range 256).all adl = true := by kernel_rfl
end
theorem xX {r : ab} {l : List UInt8} {e : Nat} (h : a1Q r l e = true) : eJ r = some (.bu (.nd (S l) .lf (.nd (.int 3 e) .lf .lf)) 2) := by
  unfold a1Q at h
  obtain ⟨v,hp,rfl,h2⟩ := a5r h
  obtain ⟨s,k,d,rfl,h3⟩ := acn h2
  rw [Bool.and_eq_true,Bool.and_eq_true,aC,aC,aC] at h3
  rw [h3.1.1,h3.1.2,h3.2]; rfl
set_option maxRecDepth 100000 in
theorem a8Y (n : Nat) (h : n < 256) : adl n = true := (List.all_eq_true (l := List.range 256) (p := adl)).1 adm n (List.mem_range.2 h)
theorem auE {n : Nat} (h : n < 256) : eJ (r18.f (.nd (B8 n) .lf .lf) .empty) = some (.bu (.nd (S (cM n)) .lf (.nd (I (oP n)) .lf .lf)) 2) := by
  have hc := a8Y n h
  unfold adl at hc
  rw [Bool.and_eq_true] at hc
  rw [← a1g (n := oP n) (by unfold oP; split <;> decide)]
  exact xX hc.1
theorem agW {n : Nat} (h : n < 256) : eJ (r20.f (.nd (B8 n) .lf .lf) .empty) = some (.bu (.nd (S (bl n)) .lf (.nd (I (lB n)) .lf .lf)) 2) := by
  have hc := a8Y n h
  unfold adl at hc
  rw [Bool.and_eq_true] at hc
  rw [← a1g (n := lB n) (by unfold lB; split <;> decide)]
  exact xX hc.2
theorem c18 {n : Nat} {hp : Hp} {k : AV → Hp → ab} (h : n < 256) : aH mem false r18 (.nd (B8 n) .lf .lf) hp k = k (.bu (.nd (S (cM n)) .lf (.nd (I (oP n)) .lf .lf)) 2) hp := jD (.nd (a1X _) .lf) (kj (rP _) (kT _)) (auE h) hp k
theorem c20 {n : Nat} {hp : Hp} {k : AV → Hp → ab} (h : n < 256) : aH mem false r20 (.nd (B8 n) .lf .lf) hp k = k (.bu (.nd (S (bl n)) .lf (.nd (I (lB n)) .lf .lf)) 2) hp := jD (.nd (a1X _) .lf) (kj (rP _) (kT _)) (agW h) hp k
theorem ach {n : Nat} : cM n = [] ↔ ¬ (1 ≤ n ∧ n < 35) := by
  by_cases h : n < 35
  · have : ∀ n,n < 35 → (cM n = [] ↔ ¬ (1 ≤ n ∧ n < 35)) := by decide
    exact this n h
  · have : cM n = [] := by
      unfold cM
      rw [List.getD_eq_getElem?_getD,List.getElem?_eq_none (show 35 ≤ n by omega)]
      rfl
    rw [this]; simp; omega
def acW : List UInt8 := [48,49,50,51,52,53,54,55,56,57]
def eC (c : Nat) : Bool := Nat.ble 48 c && Nat.ble c 57
def digI (c : Nat) : Nat := if eC c then c - 48 else 18446744073709551615
noncomputable section
def intB (v : AV) (f : Nat → Bool) : Bool := match v with
  | .int 3 n=>f n
  | _=>false
def a0V (c : Nat) : Bool := resB (r73.f (.nd (.str (aR acW) 10) .lf (.nd (.int 4 c) .lf .lf)) .empty) fun v=>intB v fun n=>Nat.beq n (digI c)
theorem a6S : (List.range 256).all a0V = true := by kernel_rfl
end
theorem aeC {v : AV} {f : Nat → Bool} (h : intB v f = true) : ∃ n,v = .int 3 n ∧ f n = true := by
  unfold intB at h
  split at h
  · exact ⟨_,rfl,h⟩
  · exact Bool.noConfusion h
set_option maxRecDepth 100000 in
theorem abf (n : Nat) (h : n < 256) : a0V n = true := (List.all_eq_true (l := List.range 256) (p := a0V)).1 a6S n (List.mem_range.2 h)
theorem arl (c : Nat) (h : c < 256) : AV.int 3 (digI c) = I (if eC c then (c : Int) - 48 else -1) := by
  unfold digI
  split
  · rename_i hd
    unfold eC at hd
    rw [Bool.and_eq_true,bn,bn] at hd
    rw [a1g (by omega)]; congr 1; omega
  · rfl
theorem auP {c : Nat} (h : c < 256) : eJ (r73.f (.nd (S acW) .lf (.nd (B8 c) .lf .lf)) .empty) = some (I (if eC c then (c : Int) - 48 else -1)) := by
  have hc := abf c h
  unfold a0V at hc
  obtain ⟨v,h1,e1,hc1⟩ := a5r hc
  obtain ⟨n,rfl,hn⟩ := aeC hc1
  rw [aC] at hn
  rw [hn,arl c h] at e1
  exact ue ⟨h1,e1⟩
theorem c73 {c : Nat} {hp : Hp} {k : AV → Hp → ab} (h : c < 256) : aH mem false r73 (.nd (S acW) .lf (.nd (B8 c) .lf .lf)) hp k = k (I (if eC c then (c : Int) - 48 else -1)) hp := jD (.nd (c8 _) (.nd (a1X _) .lf)) (ll _).goes (auP h) hp k
noncomputable section
def jS : Sm := o9 Go.Proofs.YtpiokjcbadfalaaGreatDoor.Tz.rB [1,1,0,1,0]
def zV : Fr → Hp → ab := qb Go.Proofs.YtpiokjcbadfalaaGreatDoor.Tz.rB [1,1,0,1,0]
def mv : ab → ab := oy Go.Proofs.YtpiokjcbadfalaaGreatDoor.Tz.rB [1,1,0,1,0]
def sg : Sm := aT Go.Proofs.YtpiokjcbadfalaaGreatDoor.Tz.rB [1,1,0,1,0,0,1,0]
def a4k : Sm := aT Go.Proofs.YtpiokjcbadfalaaGreatDoor.Tz.rB [1,1,0,1]
def kz : Sm := aT Go.Proofs.YtpiokjcbadfalaaGreatDoor.Tz.rB [1,1,0,1,0,0,1,1,0,0,1,1,0,1]
def si : Sm := aT Go.Proofs.YtpiokjcbadfalaaGreatDoor.Tz.rB [1,1,1,0,0,1,1,1]
def fY : Sm := aT Go.Proofs.YtpiokjcbadfalaaGreatDoor.Tz.rB [1,1,0,1,0,0,1,1,0,0,1,1,1,1,1]
def wZ : Sm := aT Go.Proofs.YtpiokjcbadfalaaGreatDoor.Tz.rB [1,1,1,0,0,1]
def qa : Sm := aT Go.Proofs.YtpiokjcbadfalaaGreatDoor.Tz.rB [1,1,0,1,0,0,1,1,0]
def a4m : Sm := aT Go.Proofs.YtpiokjcbadfalaaGreatDoor.Tz.rB [1,1,1,0]
def al1 : ab → ab := kO Go.Proofs.YtpiokjcbadfalaaGreatDoor.Tz.rB
theorem t62 (x0 x1 x2 : AV) (hp : Hp) : r62.f (.nd x0 .lf (.nd x1 .lf (.nd x2 .lf .lf))) hp = al1 (dX mem 0 x0 hp (fun v0=>au (Nat.ble v0 9223372036854775807) (zV (.n x0 x1 x2 (.int 7 0) (.int 3 0) (.int 3 0) (.int 3 v0) (.bool false) (.n (.int 7 0) .uu .uu .uu .uu .uu .uu .uu .e)) hp))) := (congrArg (fun F=>aF.f F (.nd x0 .lf (.nd x1 .lf (.nd x2 .lf .lf))) hp) (cX Go.Proofs.YtpiokjcbadfalaaGreatDoor.Tz.rB).symm).trans (by kernel_rfl)
theorem ret62 (x0 x1 x2 x3 x4 x5 x6 x7 x8 x9 : AV) (hp : Hp) : al1 (.ret (.n x0 x1 x2 x3 x4 x5 x6 x7 (.n x8 x9 .uu .uu .uu .uu .uu .uu .e)) hp) = .val (.bu (.nd x3 .lf (.nd x4 .lf .lf)) 2) hp := by kernel_rfl
theorem jF (x0 x1 x2 x3 x4 x5 x6 x7 x8 x9 : AV) (hp : Hp) : (jS).run .lf (.n x0 x1 x2 x3 x4 x5 x6 x7 (.n x8 x9 .uu .uu .uu .uu .uu .uu .e)) hp = (ar .lss 3).f x5 x6 (fun v1=>AV.aJ v1 (fun v2=>when v2 ((sg).run .lf (.n x0 x1 x2 x3 x4 x5 x6 x7 (.n x8 x9 .uu .uu .uu .uu .uu .uu .e)) hp) (.exit 0 (.n x0 x1 x2 x3 x4 x5 x6 x7 (.n x8 x9 .uu .uu .uu .uu .uu .uu .e)) hp))) := by kernel_rfl
theorem a1t (fr : Fr) (hp : Hp) : zV fr hp = mv (b8 jS 1000000 fr hp) := rfl
theorem a6n (fr : Fr) (hp : Hp) : mv (.exit 0 fr hp) = (a4k).run .lf fr hp := by kernel_rfl
theorem ze (fr : Fr) (hp : Hp) : mv (.ret fr hp) = .ret fr hp := by kernel_rfl
theorem vo (x0 x1 x2 x3 x4 x5 x6 x7 x8 x9 : AV) (hp : Hp) : (sg).run .lf (.n x0 x1 x2 x3 x4 x5 x6 x7 (.n x8 x9 .uu .uu .uu .uu .uu .uu .e)) hp = kh 7 hp (fun v3=>fc (S [48,49,50,51,52,53,54,55,56,57,97,98,99,100,101,102]) .none (.some x1) (fun v4=>AV.eE x0 (fun v5 v6=>iG x5 v6 (fun v7=>bQ 4 (Nat.mod (Nat.div v5 (Nat.pow 256 v7)) 256) (fun v8=>fB mem .nil .nil v3 (fun h9=>aH mem false r73 (.nd v4 .lf (.nd v8 .lf .lf)) h9 (fun v10 v11=>.val v10 v11)) (fun v12 v13=>(ar .lss 3).f v13 (.int 3 0) (fun v14=>gd v14 false v12 (fun k15=>k15 x5 v12) (fun v16 v17=>gd v14 false v17 (fun k18=>(ar .eql 3).f v16 (.int 3 1) (fun v19=>k18 v19 v17)) (fun v20 v21=>gd v14 false v21 (fun k22=>k22 v20 v21) (fun v23 v24=>gd v23 true v24 (fun k25=>k25 x0 v24) (fun v26 v27=>gd v23 true v27 (fun k28=>AV.eE v26 (fun v29 v30=>iG (.int 3 0) v30 (fun v31=>bQ 4 (Nat.mod (Nat.div v29 (Nat.pow 256 v31)) 256) (fun v32=>k28 v32 v27)))) (fun v33 v34=>gd v23 true v34 (fun k35=>(ar .eql 4).f v33 (.int 4 48) (fun v36=>k35 v36 v34)) (fun v37 v38=>gd v14 false v38 (fun k39=>bo v23 (fun v40=>v40 v37) (fun v41=>v41 (.bool false)) (fun v42=>k39 v42 v38)) (fun v43 v44=>bo v14 (fun v45=>v45 (.bool true)) (fun v46=>v46 v43) (fun v47=>AV.aJ v47 (fun v48=>when v48 (.ret (.n x0 x1 x2 (.int 7 0) (.int 3 12) x5 x6 x7 (.n x8 v13 .uu .uu .uu .uu .uu .uu .e)) v44) ((kz).run .lf (.n x0 x1 x2 x3 x4 x5 x6 x7 (.n x8 v13 .uu .uu .uu .uu .uu .uu .e)) v44))))))))))))))))) := by kernel_rfl
theorem a4l (x0 x1 x2 x3 x4 x5 x6 x7 x8 x9 : AV) (hp : Hp) : (a4k).run .lf (.n x0 x1 x2 x3 x4 x5 x6 x7 (.n x8 x9 .uu .uu .uu .uu .uu .uu .e)) hp = (gM .eql).f x0 (S []) (fun v49=>AV.aJ v49 (fun v50=>when v50 (.ret (.n x0 x1 x2 (.int 7 0) (.int 3 12) x5 x6 x7 (.n x8 x9 .uu .uu .uu .uu .uu .uu .e)) hp) (AV.aJ x7 (fun v51=>when v51 (.ret (.n x0 x1 x2 (.int 7 0) (.int 3 16) x5 x6 x7 (.n x8 x9 .uu .uu .uu .uu .uu .uu .e)) hp) ((si).run .lf (.n x0 x1 x2 x3 x4 x5 x6 x7 (.n x8 x9 .uu .uu .uu .uu .uu .uu .e)) hp))))) := by kernel_rfl
theorem nQ (x0 x1 x2 x3 x4 x5 x6 x7 x8 x9 : AV) (hp : Hp) : (kz).run .lf (.n x0 x1 x2 x3 x4 x5 x6 x7 (.n x8 x9 .uu .uu .uu .uu .uu .uu .e)) hp = gd x7 false hp (fun k52=>k52 x8 hp) (fun v53 v54=>gd x7 false v54 (fun k55=>k55 x2 v54) (fun v56 v57=>gd x7 false v57 (fun k58=>k58 x9 v57) (fun v59 v60=>gd x7 false v60 (fun k61=>AV.bO v59 (fun v62 v63=>bQ 7 (yz (md v62) (hf v62) 18446744073709551616 v63) (fun v64=>k61 v64 v60))) (fun v65 v66=>gd x7 false v66 (fun k67=>(ar .sub 7).f v56 v65 (fun v68=>k67 v68 v66)) (fun v69 v70=>gd x7 false v70 (fun k71=>k71 x1 v70) (fun v72 v73=>gd x7 false v73 (fun k74=>(ar .quo 7).f v69 v72 (fun v75=>k74 v75 v73)) (fun v76 v77=>gd x7 false v77 (fun k78=>(ar .gtr 7).f v53 v76 (fun v79=>k78 v79 v77)) (fun v80 v81=>bo x7 (fun v82=>v82 (.bool true)) (fun v83=>v83 v80) (fun v84=>AV.aJ v84 (fun v85=>when (de v85) ((ar .mul 7).f x8 x1 (fun v86=>AV.bO x9 (fun v87 v88=>bQ 7 (yz (md v87) (hf v87) 18446744073709551616 v88) (fun v89=>(ar .add 7).f v86 v89 (fun v90=>(fY).run .lf (.n x0 x1 x2 x3 x4 x5 x6 v84 (.n v90 x9 .uu .uu .uu .uu .uu .uu .e)) v81))))) ((fY).run .lf (.n x0 x1 x2 x3 x4 x5 x6 v84 (.n x8 x9 .uu .uu .uu .uu .uu .uu .e)) v81))))))))))) := by kernel_rfl
theorem vp (x0 x1 x2 x3 x4 x5 x6 x7 x8 x9 : AV) (hp : Hp) : (si).run .lf (.n x0 x1 x2 x3 x4 x5 x6 x7 (.n x8 x9 .uu .uu .uu .uu .uu .uu .e)) hp = (wZ).run .lf (.n x0 x1 x2 x3 x4 x5 x6 x7 (.n x8 x9 .uu .uu .uu .uu .uu .uu .e)) hp := by kernel_rfl
theorem mU (x0 x1 x2 x3 x4 x5 x6 x7 x8 x9 : AV) (hp : Hp) : (fY).run .lf (.n x0 x1 x2 x3 x4 x5 x6 x7 (.n x8 x9 .uu .uu .uu .uu .uu .uu .e)) hp = (qa).run .lf (.n x0 x1 x2 x3 x4 x5 x6 x7 (.n x8 x9 .uu .uu .uu .uu .uu .uu .e)) hp := by kernel_rfl
theorem yQ (x0 x1 x2 x3 x4 x5 x6 x7 x8 x9 : AV) (hp : Hp) : (wZ).run .lf (.n x0 x1 x2 x3 x4 x5 x6 x7 (.n x8 x9 .uu .uu .uu .uu .uu .uu .e)) hp = (a4m).run .lf (.n x0 x1 x2 x3 x4 x5 x6 x7 (.n x8 x9 .uu .uu .uu .uu .uu .uu .e)) hp := by kernel_rfl
theorem tO (x0 x1 x2 x3 x4 x5 x6 x7 x8 x9 : AV) (hp : Hp) : (qa).run .lf (.n x0 x1 x2 x3 x4 x5 x6 x7 (.n x8 x9 .uu .uu .uu .uu .uu .uu .e)) hp = (ar .add 3).f x5 (.int 3 1) (fun v91=>.ok (.n x0 x1 x2 x3 x4 v91 x6 x7 (.n x8 x9 .uu .uu .uu .uu .uu .uu .e)) hp) := by kernel_rfl
theorem a4n (x0 x1 x2 x3 x4 x5 x6 x7 x8 x9 : AV) (hp : Hp) : (a4m).run .lf (.n x0 x1 x2 x3 x4 x5 x6 x7 (.n x8 x9 .uu .uu .uu .uu .uu .uu .e)) hp = .ret (.n x0 x1 x2 x8 (.int 3 0) x5 x6 x7 (.n x8 x9 .uu .uu .uu .uu .uu .uu .e)) hp := by kernel_rfl
end
set_option linter.defProp false
def Y9 := And.intro @vo (And.intro @a4l (And.intro @nQ (And.intro @vp (And.intro @mU (And.intro @yQ (And.intro @tO (@a4n)))))))
end Go.Proofs.YtpiokjcbadfalaaGreatDoor.Tz
namespace Go.Proofs.YtpiokjcbadfalaaGreatDoor.Tz
attribute [local irreducible] mem
set_option linter.unusedSimpArgs false
attribute [local congr] dh aP bB dm dj bj dp cj aW cx cy cA bf bC bD aX eN cq cg cu bh bg aQ aS eO bF cn bx bH bE bz cz ck bd bI di bA bG bJ
theorem c73' {c : Nat} {hp : Hp} {k : AV → Hp → ab} (h : c < 256) : aH mem false r73 (.nd (S (List.take 10 [48,49,50,51,52,53,54,55,56,57,97,98,99,100,101,102])) .lf (.nd (B8 c) .lf .lf)) hp k = k (I (if eC c then (c : Int) - 48 else -1)) hp := c73 h
theorem anZ {s : List UInt8} {i most n : Nat} {far : Bool} {x3 x4 x9 : AV} {hp : Hp} (hs : s.length ≤ 2000) (hi : i < s.length) (hm : most ≤ 9223372036854775808) (hm2 : 100 ≤ most) (hn : n ≤ most) :
    ∃ hp',(jS).run .lf (.n (S s) (U 10) (U most) x3 x4 (I i) (I s.length) (.bool far) (.n (U n) x9 .uu .uu .uu .uu .uu .uu .e)) hp =
      if eC (s.getD i 0).toNat = false ∨ i = 1 ∧ (s.getD 0 0).toNat = 48 then .ret (.n (S s) (U 10) (U most) (U 0) (I 12) (I i) (I s.length) (.bool far) (.n (U n) (I (if eC (s.getD i 0).toNat then ((s.getD i 0).toNat : Int) - 48 else -1)) .uu .uu .uu .uu .uu .uu .e)) hp'
      else if far = true ∨ most < n * 10 + ((s.getD i 0).toNat - 48) then .ok (.n (S s) (U 10) (U most) x3 x4 (I (i + 1 : Nat)) (I s.length) (.bool true) (.n (U n) (I (if eC (s.getD i 0).toNat then ((s.getD i 0).toNat : Int) - 48 else -1)) .uu .uu .uu .uu .uu .uu .e)) hp'
      else .ok (.n (S s) (U 10) (U most) x3 x4 (I (i + 1 : Nat)) (I s.length) (.bool false) (.n (U (n * 10 + ((s.getD i 0).toNat - 48))) (I (if eC (s.getD i 0).toNat then ((s.getD i 0).toNat : Int) - 48 else -1)) .uu .uu .uu .uu .uu .uu .e)) hp' := by
  refine ⟨hp.yL 7, ?_⟩
  have hc := (s.getD i 0).toNat_lt
  cases hd : eC (s.getD i 0).toNat with
  | false=>
    rw [if_pos (.inl rfl)]
    simp +contextual (disch := (first | omega | (simp only [Y2] <;> omega) | ((repeat' (first | exact aw | apply aq | apply ay | refine ax (by omega) ?_ ?_)) <;> (simp (disch := (first | omega | (simp only [Y5] <;> omega))) only [Y4,Nat.reduceAdd,Nat.reduceEqDiff,reduceIte, *])) | exact True.intro | rfl)) only [Y1,Y6,Y9,jF,Nat.reduceAdd,Nat.reduceEqDiff,reduceIte,Nat.reduceLeDiff,Nat.reduceSub,c73',hd]
    rw [if_pos (by omega)]
    rfl
  | true=>
    have hd2 := hd
    unfold eC at hd2
    rw [Bool.and_eq_true,bn,bn] at hd2
    have e0 : ((Int.toNat 0)) = 0 := rfl
    cases far with
    | true=>
      simp +contextual (disch := (first | omega | (simp only [Y2] <;> omega) | ((repeat' (first | exact aw | apply aq | apply ay | refine ax (by omega) ?_ ?_)) <;> (simp (disch := (first | omega | (simp only [Y5] <;> omega))) only [Y4,Nat.reduceAdd,Nat.reduceEqDiff,reduceIte, *])) | exact True.intro | rfl)) only [Y1,Y6,Y9,jF,Nat.reduceAdd,Nat.reduceEqDiff,reduceIte,Nat.reduceLeDiff,Nat.reduceSub,c73',hd]
      rw [if_pos (by omega),if_neg (by omega)]
      by_cases h1 : i = 1
      · subst h1
        rw [if_pos (c := (((1 : Nat) : Int) = 1)) rfl,e0]
        by_cases h0 : (s.getD 0 0).toNat = 48
        · rw [if_pos h0,if_pos (.inr ⟨rfl,h0⟩)]
          rfl
        · rw [if_neg h0,if_neg (by simp only [h0,and_false,or_false]; exact id),if_pos (.inl trivial)]
          rfl
      · rw [if_neg (by omega),if_neg (by simp only [h1,false_and,or_false]; exact id),if_pos (.inl trivial)]
        rfl
    | false=>
      simp +contextual (disch := (first | omega | (simp only [Y2] <;> omega) | ((repeat' (first | exact aw | apply aq | apply ay | refine ax (by omega) ?_ ?_)) <;> (simp (disch := (first | omega | (simp only [Y5] <;> omega))) only [Y4,Nat.reduceAdd,Nat.reduceEqDiff,reduceIte, *])) | exact True.intro | rfl)) only [Y1,Y6,Y9,jF,Nat.reduceAdd,Nat.reduceEqDiff,reduceIte,Nat.reduceLeDiff,Nat.reduceSub,c73',hd]
      rw [if_pos (by omega),if_neg (by omega)]
      have ec : (((s.getD i 0).toNat : Int) - 48).toNat = (s.getD i 0).toNat - 48 := by omega
      have eo : (most - ((s.getD i 0).toNat - 48)) / 10 < n ↔ most < n * 10 + ((s.getD i 0).toNat - 48) := by omega
      rw [ec]
      simp only [false_or,eo]
      by_cases h1 : i = 1
      · subst h1
        rw [if_pos (c := (((1 : Nat) : Int) = 1)) rfl,e0]
        by_cases h0 : (s.getD 0 0).toNat = 48
        · rw [if_pos h0,if_pos ⟨rfl,h0⟩]
          rfl
        · rw [if_neg h0,if_neg (c := (1 = 1 ∧ (s.getD 0 0).toNat = 48)) (fun h=>h0 h.2)]
          split <;> rfl
      · rw [if_neg (c := (i : Int) = 1) (by omega),if_neg (c := (i = 1 ∧ (s.getD 0 0).toNat = 48)) (fun h=>h1 h.1)]
        split <;> rfl
def fj (l : List UInt8) : Nat := l.foldl (fun n c=>n * 10 + (c.toNat - 48)) 0
def okD (l : List UInt8) : Prop := l ≠ [] ∧ (∀ i,i < l.length → eC (l.getD i 0).toNat = true) ∧ (2 ≤ l.length → (l.getD 0 0).toNat ≠ 48)
open Classical in
noncomputable def dL (l : List UInt8) (most : Nat) : Nat × Nat := if okD l then if fj l ≤ most then (fj l,0) else (0,16) else (0,12)
theorem qW (l : List UInt8) (c : UInt8) : fj (l ++ [c]) = fj l * 10 + (c.toNat - 48) := by
  unfold fj; rw [List.foldl_append]; rfl
theorem acH {l : List UInt8} {i : Nat} (h : i < l.length) : l.take (i + 1) = l.take i ++ [l.getD i 0] := by
  rw [List.take_add_one,List.getD_eq_getElem?_getD,List.getElem?_eq_getElem h]; rfl
theorem a7M {s : List UInt8} {most : Nat} (hs : s.length ≤ 2000) (hm : most ≤ 9223372036854775808) (hm2 : 100 ≤ most) : ∀ (f i n : Nat) (far : Bool) (x9 : AV) (hp : Hp) (fuel : Nat),s.length - i = f → i ≤ s.length → f < fuel → n ≤ most →
    (∀ j,j < i → eC (s.getD j 0).toNat = true) → (2 ≤ i → (s.getD 0 0).toNat ≠ 48) → (far = true → most < fj (s.take i)) → (far = false → n = fj (s.take i)) →
    ∃ x5 x7 y0 y1 hp',mv (b8 jS fuel (.n (S s) (U 10) (U most) (U 0) (I 0) (I i) (I s.length) (.bool far) (.n (U n) x9 .uu .uu .uu .uu .uu .uu .e)) hp) =
      .ret (.n (S s) (U 10) (U most) (U (dL s most).1) (I (dL s most).2) x5 (I s.length) x7 (.n y0 y1 .uu .uu .uu .uu .uu .uu .e)) hp'
  | f,i,n,far,x9,hp,0,_,_,h,_,_,_,_,_=>absurd h (Nat.not_lt_zero _)
  | f, i, n, far, x9, hp, fuel + 1, hf, hi, hfu, hn, hdig, h0, hfar, hnf => by
    by_cases hil : i < s.length
    · obtain ⟨hp1,hb⟩ := anZ (x3 := U 0) (x4 := I 0) (x9 := x9) (far := far) (n := n) (hp := hp) hs hil hm hm2 hn
      by_cases hbad : eC (s.getD i 0).toNat = false ∨ i = 1 ∧ (s.getD 0 0).toNat = 48
      · rw [if_pos hbad] at hb
        rw [lU hb,ze]
        have e : dL s most = (0,12) := by
          unfold dL
          rw [if_neg]
          rintro ⟨_,w2,w3⟩
          rcases hbad with h | ⟨h,h'⟩
          · have := w2 i hil; rw [h] at this; cases this
          · exact w3 (by omega) h'
        rw [e]
        exact ⟨_,_,_,_,_,rfl⟩
      · rw [if_neg hbad] at hb
        have hd : eC (s.getD i 0).toNat = true := by
          cases h : eC (s.getD i 0).toNat with
          | true=>rfl
          | false=>exact absurd (.inl h) hbad
        have hdig2 : ∀ j,j < i + 1 → eC (s.getD j 0).toNat = true := fun j hj=>by
          by_cases h : j = i
          · rw [h]; exact hd
          · exact hdig j (by omega)
        have h02 : 2 ≤ i + 1 → (s.getD 0 0).toNat ≠ 48 := fun h h'=>by
          by_cases h1 : i = 1
          · exact hbad (.inr ⟨h1,h'⟩)
          · exact h0 (by omega) h'
        have ev : fj (s.take (i + 1)) = fj (s.take i) * 10 + ((s.getD i 0).toNat - 48) := by rw [acH hil,qW]
        by_cases hov : far = true ∨ most < n * 10 + ((s.getD i 0).toNat - 48)
        · rw [if_pos hov] at hb
          rw [gv hb]
          exact a7M hs hm hm2 (f - 1) (i + 1) n true _ hp1 fuel (by omega) (by omega) (by omega) hn hdig2 h02 (fun _=>by
            rw [ev]
            rcases hov with h | h
            · have := hfar h; omega
            · cases far with
              | true=>have := hfar rfl; omega
              | false=>have := hnf rfl; omega) (fun h=>by cases h)
        · rw [if_neg hov] at hb
          rw [gv hb]
          have hff : far = false := by
            cases far with
            | true=>exact absurd (.inl rfl) hov
            | false=>rfl
          exact a7M hs hm hm2 (f - 1) (i + 1) _ false _ hp1 fuel (by omega) (by omega) (by omega) (by
            have : ¬ most < n * 10 + ((s.getD i 0).toNat - 48) := fun h=>hov (.inr h)
            omega) hdig2 h02 (fun h=>by cases h) (fun _=>by rw [ev,hnf hff])
    · have hi2 : i = s.length := by omega
      subst hi2
      have hb : (jS).run .lf (.n (S s) (U 10) (U most) (U 0) (I 0) (I s.length) (I s.length) (.bool far) (.n (U n) x9 .uu .uu .uu .uu .uu .uu .e)) hp = .exit 0 (.n (S s) (U 10) (U most) (U 0) (I 0) (I s.length) (I s.length) (.bool far) (.n (U n) x9 .uu .uu .uu .uu .uu .uu .e)) hp := by
        simp +contextual (disch := (first | omega | (simp only [Y2] <;> omega) | ((repeat' (first | exact aw | apply aq | apply ay | refine ax (by omega) ?_ ?_)) <;> (simp (disch := (first | omega | (simp only [Y5] <;> omega))) only [Y4,Nat.reduceAdd,Nat.reduceEqDiff,reduceIte, *])) | exact True.intro | rfl)) only [Y1,Y6,jF,Nat.reduceAdd,Nat.reduceEqDiff,reduceIte,Nat.reduceLeDiff,Nat.reduceSub,Int.lt_irrefl]
      rw [fR hb,a6n]
      rw [List.take_length] at hfar hnf
      by_cases he : s = []
      · have e : dL s most = (0,12) := by
          unfold dL; rw [if_neg (fun h=>h.1 he)]
        subst he
        rw [e]
        simp +contextual (disch := (first | omega | (simp only [Y2] <;> omega) | ((repeat' (first | exact aw | apply aq | apply ay | refine ax (by omega) ?_ ?_)) <;> (simp (disch := (first | omega | (simp only [Y5] <;> omega))) only [Y4,Nat.reduceAdd,Nat.reduceEqDiff,reduceIte, *])) | exact True.intro | rfl)) only [Y1,Y6,Y9,Nat.reduceAdd,Nat.reduceEqDiff,reduceIte,Nat.reduceLeDiff,Nat.reduceSub]
        exact ⟨_,_,_,_,_,rfl⟩
      · have hok : okD s := ⟨he,hdig,h0⟩
        cases far with
        | true=>
          have := hfar rfl
          have e : dL s most = (0,16) := by
            unfold dL; rw [if_pos hok,if_neg (by omega)]
          rw [e]
          simp +contextual (disch := (first | omega | (simp only [Y2] <;> omega) | ((repeat' (first | exact aw | apply aq | apply ay | refine ax (by omega) ?_ ?_)) <;> (simp (disch := (first | omega | (simp only [Y5] <;> omega))) only [Y4,Nat.reduceAdd,Nat.reduceEqDiff,reduceIte, *])) | exact True.intro | rfl)) only [Y1,Y6,Y9,Nat.reduceAdd,Nat.reduceEqDiff,reduceIte,Nat.reduceLeDiff,Nat.reduceSub,he]
          exact ⟨_,_,_,_,_,rfl⟩
        | false=>
          have := hnf rfl
          have e : dL s most = (n,0) := by
            unfold dL; rw [if_pos hok,if_pos (by omega),this]
          rw [e]
          simp +contextual (disch := (first | omega | (simp only [Y2] <;> omega) | ((repeat' (first | exact aw | apply aq | apply ay | refine ax (by omega) ?_ ?_)) <;> (simp (disch := (first | omega | (simp only [Y5] <;> omega))) only [Y4,Nat.reduceAdd,Nat.reduceEqDiff,reduceIte, *])) | exact True.intro | rfl)) only [Y1,Y6,Y9,Nat.reduceAdd,Nat.reduceEqDiff,reduceIte,Nat.reduceLeDiff,Nat.reduceSub,he]
          exact ⟨_,_,_,_,_,rfl⟩
theorem auN {s : List UInt8} {most : Nat} (hs : s.length ≤ 2000) (hm : most ≤ 9223372036854775808) (hm2 : 100 ≤ most) : eJ (r62.f (.nd (S s) .lf (.nd (U 10) .lf (.nd (U most) .lf .lf))) .empty) = some (.bu (.nd (U (dL s most).1) .lf (.nd (I (dL s most).2) .lf .lf)) 2) := by
  obtain ⟨x5,x7,y0,y1,hp',h⟩ := a7M hs hm hm2 s.length 0 0 false .uu .empty 1000000 (by omega) (by omega) (by omega) (by omega) (fun j hj=>absurd hj (Nat.not_lt_zero _)) (fun h=>absurd h (by omega)) (fun h=>by cases h) (fun _=>rfl)
  simp +contextual (disch := (first | omega | (simp only [Y2] <;> omega) | ((repeat' (first | exact aw | apply aq | apply ay | refine ax (by omega) ?_ ?_)) <;> (simp (disch := (first | omega | (simp only [Y5] <;> omega))) only [Y4,Nat.reduceAdd,Nat.reduceEqDiff,reduceIte, *])) | exact True.intro | rfl)) only [Y1,Y6,t62,a1t,Nat.reduceAdd,Nat.reduceEqDiff,reduceIte,Nat.reduceLeDiff,Nat.reduceSub]
  have h' : mv (b8 jS 1000000 (.n (S s) (U 10) (U most) (U 0) (I 0) (I 0) (I s.length) (.bool false) (.n (U 0) .uu .uu .uu .uu .uu .uu .uu .e)) .empty) = _ := h
  rw [h',ret62]
  rfl
end Go.Proofs.YtpiokjcbadfalaaGreatDoor.Tz
namespace Go.Proofs.YtpiokjcbadfalaaGreatDoor.Tz
noncomputable section
def a9A : Sm := aT Go.Proofs.YtpiokjcbadfalaaGreatDoor.Tz.abm [1,0,1]
def zQ : Sm := aT Go.Proofs.YtpiokjcbadfalaaGreatDoor.Tz.abm [1,1,1,0,1]
def oF : Sm := aT Go.Proofs.YtpiokjcbadfalaaGreatDoor.Tz.abm [1,1,1,1,1,0,1]
def a3t : ab → ab := kO Go.Proofs.YtpiokjcbadfalaaGreatDoor.Tz.abm
theorem t48 (x0 : AV) (hp : Hp) : r48.f (.nd x0 .lf .lf) hp = a3t (dX mem 0 x0 hp (fun v0=>au (Nat.ble v0 9223372036854775807) ((ar .gtr 3).f (.int 3 v0) (.int 3 2000) (fun v1=>AV.aJ v1 (fun v2=>when v2 (.ret (.n x0 (.int 3 0) (.int 3 4) .uu .uu .uu .uu .uu .e) hp) ((a9A).run .lf (.n x0 (.int 3 0) (.int 3 0) .uu .uu .uu .uu .uu .e) hp)))))) := (congrArg (fun F=>aF.f F (.nd x0 .lf .lf) hp) (cX Go.Proofs.YtpiokjcbadfalaaGreatDoor.Tz.abm).symm).trans (by kernel_rfl)
theorem ah7 (x0 x1 x2 x3 x4 x5 : AV) (hp : Hp) : a3t (.ret (.n x0 x1 x2 x3 x4 x5 .uu .uu .e) hp) = .val (.bu (.nd x1 .lf (.nd x2 .lf .lf)) 2) hp := by kernel_rfl
theorem wX (x0 x1 x2 x3 x4 x5 : AV) (hp : Hp) : (a9A).run .lf (.n x0 x1 x2 x3 x4 x5 .uu .uu .e) hp = aH mem false r49 (.nd x0 .lf (.nd (S [45]) .lf .lf)) hp (fun v3 v4=>bS 0 v3 (fun v5=>bS 1 v3 (fun v6=>AV.aJ v6 (fun v7=>when (de v7) (aH mem false r62 (.nd x0 .lf (.nd (.int 7 10) .lf (.nd (.int 7 9223372036854775807) .lf .lf))) v4 (fun v8 v9=>bS 0 v8 (fun v10=>bS 1 v8 (fun v11=>AV.bO v10 (fun v12 v13=>bQ 3 (yz (md v12) (hf v12) 18446744073709551616 v13) (fun v14=>.ret (.n x0 v14 v11 v5 x4 x5 .uu .uu .e) v9)))))) ((zQ).run .lf (.n x0 x1 x2 v5 x4 x5 .uu .uu .e) v4))))) := by kernel_rfl
theorem rZ (x0 x1 x2 x3 x4 x5 : AV) (hp : Hp) : (zQ).run .lf (.n x0 x1 x2 x3 x4 x5 .uu .uu .e) hp = aH mem false r62 (.nd x3 .lf (.nd (.int 7 10) .lf (.nd (.int 7 9223372036854775808) .lf .lf))) hp (fun v15 v16=>bS 0 v15 (fun v17=>bS 1 v15 (fun v18=>(ar .eql 3).f v18 (.int 3 0) (fun v19=>gd v19 true v16 (fun k20=>k20 v17 v16) (fun v21 v22=>gd v19 true v22 (fun k23=>(ar .eql 7).f v21 (.int 7 0) (fun v24=>k23 v24 v22)) (fun v25 v26=>bo v19 (fun v27=>v27 v25) (fun v28=>v28 (.bool false)) (fun v29=>AV.aJ v29 (fun v30=>when v30 ((oF).run .lf (.n x0 x1 x2 x3 v17 (.int 3 12) .uu .uu .e) v26) ((oF).run .lf (.n x0 x1 x2 x3 v17 v18 .uu .uu .e) v26))))))))) := by kernel_rfl
theorem oG (x0 x1 x2 x3 x4 x5 : AV) (hp : Hp) : (oF).run .lf (.n x0 x1 x2 x3 x4 x5 .uu .uu .e) hp = AV.bO x4 (fun v31 v32=>bQ v31 (Nat.mod (Nat.sub (md v31) v32) (md v31)) (fun v33=>AV.bO v33 (fun v34 v35=>bQ 3 (yz (md v34) (hf v34) 18446744073709551616 v35) (fun v36=>.ret (.n x0 v36 x5 x3 x4 x5 .uu .uu .e) hp)))) := by kernel_rfl
end
attribute [local irreducible] mem
set_option linter.unusedSimpArgs false
attribute [local congr] dh aP bB dm dj bj dp cj aW cx cy cA bf bC bD aX eN cq cg cu bh bg aQ aS eO bF cn bx bH bE bz cz ck bd bI di bA bG bJ
theorem c62 {s : List UInt8} {most : Nat} {hp : Hp} {k : AV → Hp → ab} (h : s.length ≤ 2000 ∧ most ≤ 9223372036854775808 ∧ 100 ≤ most) : aH mem false r62 (.nd (S s) .lf (.nd (U 10) .lf (.nd (U most) .lf .lf))) hp k = k (.bu (.nd (U (dL s most).1) .lf (.nd (I (dL s most).2) .lf .lf)) 2) hp := jD (.nd (c8 _) (.nd (vR _) (.nd (vR _) .lf))) (kj (goL_U _) (kT _)) (auN h.1 h.2.1 h.2.2) hp k
theorem mb (s : List UInt8) (most : Nat) : (dL s most).1 ≤ most ∧ (dL s most).2 ≤ 16 := by
  unfold dL
  split
  · split
    · exact ⟨by assumption,by omega⟩
    · exact ⟨Nat.zero_le _,by omega⟩
  · exact ⟨Nat.zero_le _,by omega⟩
noncomputable def vS (s : List UInt8) : Int × Nat :=
  if 2000 < s.length then (0,4)
  else if s.getD 0 0 = 45 then (let r := dL (s.drop 1) 9223372036854775808; if r.2 = 0 then if r.1 = 0 then (0,12) else (-(r.1 : Int),0) else (0,r.2))
  else (let r := dL s 9223372036854775807; (r.1,r.2))
theorem acj {s : List UInt8} {most : Nat} (h : (dL s most).2 ≠ 0) : (dL s most).1 = 0 := by
  unfold dL at h ⊢
  split
  · rename_i h1
    rw [if_pos h1] at h
    split
    · rename_i h2
      rw [if_pos h2] at h
      exact absurd rfl h
    · rfl
  · rfl
theorem c49 {s p : List UInt8} {hp : Hp} {k : AV → Hp → ab} (h : s.length ≤ 4294967280 ∧ p.length ≤ 4294967280) : aH mem false r49 (.nd (S s) .lf (.nd (S p) .lf .lf)) hp k = k (.bu (.nd (S (Lib.trimPrefix s p)) .lf (.nd (.bool (Lib.hasPrefix s p)) .lf .lf)) 2) hp := jD (.nd (c8 _) (.nd (c8 _) .lf)) (kj (rP _) (a3z _)) (ue ⟨.empty,ya (spec := fun s p=>.bu (.nd (S (Lib.trimPrefix s p)) .lf (.nd (.bool (Lib.hasPrefix s p)) .lf .lf)) 2) h.1 h.2 .empty⟩) hp k
theorem agc (s : List UInt8) : Lib.hasPrefix s [45] = decide (s.getD 0 0 = 45) := by
  cases s with
  | nil=>rfl
  | cons c s=>
    rw [show (c :: s).getD 0 0 = c from rfl]
    show ((45 : UInt8) == c && List.isPrefixOf [] s) = decide (c = 45)
    cases h : ((45 : UInt8) == c) with
    | true=>rw [← eq_of_beq h]; rfl
    | false=>
      rw [decide_eq_false (fun e=>by rw [e] at h; cases h)]; rfl
theorem avp {s : List UInt8} (h : s.getD 0 0 = 45) : Lib.trimPrefix s [45] = s.drop 1 := by
  unfold Lib.trimPrefix
  rw [agc,decide_eq_true h]; rfl
theorem avs (s : List UInt8) : (vS s).2 ≤ 16 := by
  have h1 := (mb (s.drop 1) 9223372036854775808).2
  have h2 := (mb s 9223372036854775807).2
  unfold vS
  dsimp only
  split
  · decide
  · split
    · split
      · split
        · decide
        · exact Nat.zero_le _
      · exact h1
    · exact h2
theorem I_mod {a b : Int} (h : a % 18446744073709551616 = b % 18446744073709551616) : I a = I b := by unfold I; rw [h]
theorem auL {s : List UInt8} (hs : s.length ≤ 1000000) : eJ (r48.f (.nd (S s) .lf .lf) .empty) = some (.bu (.nd (I (vS s).1) .lf (.nd (I (vS s).2) .lf .lf)) 2) := by
  have o1 := mb (s.drop 1) 9223372036854775808
  have o2 := mb s 9223372036854775807
  by_cases hl : 2000 < s.length
  · simp +contextual (disch := (first | omega | (simp only [Y2] <;> omega) | ((repeat' (first | exact aw | apply aq | apply ay | refine ax (by omega) ?_ ?_)) <;> (simp (disch := (first | omega | (simp only [Y5] <;> omega))) only [Y4,Nat.reduceAdd,Nat.reduceEqDiff,reduceIte, *])) | exact True.intro | rfl)) only [Y1,Y6,t48,Nat.reduceAdd,Nat.reduceEqDiff,reduceIte,Nat.reduceLeDiff,Nat.reduceSub,apply_ite a3t,apply_ite eJ,ah7]
    rw [if_pos (by omega)]
    unfold vS
    rw [if_pos hl]; rfl
  by_cases h45 : s.getD 0 0 = 45
  · have hd : (s.drop 1).length = s.length - 1 := List.length_drop ..
    simp +contextual (disch := (first | omega | (simp only [Y2] <;> omega) | ((repeat' (first | exact aw | apply aq | apply ay | refine ax (by omega) ?_ ?_)) <;> (simp (disch := (first | omega | (simp only [Y5] <;> omega))) only [Y4,Nat.reduceAdd,Nat.reduceEqDiff,reduceIte, *])) | exact True.intro | rfl)) only [Y1,Y6,t48,wX,rZ,oG,Nat.reduceAdd,Nat.reduceEqDiff,reduceIte,Nat.reduceLeDiff,Nat.reduceSub,c49,c62,agc,h45,avp,apply_ite a3t,apply_ite eJ,ah7]
    rw [if_neg (by omega)]
    unfold vS
    rw [if_neg hl,if_pos h45]
    dsimp only
    by_cases h2 : (dL (s.drop 1) 9223372036854775808).2 = 0
    · rw [if_pos (by omega),if_pos h2]
      by_cases h1 : (dL (s.drop 1) 9223372036854775808).1 = 0
      · rw [if_pos h1,if_pos h1]; rfl
      · rw [if_neg h1,if_neg h1]
        refine congrArg (fun v=>some (AV.bu (Tr.nd v Tr.lf (Tr.nd (I 0) Tr.lf Tr.lf)) 2)) (I_mod ?_)
        omega
    · have h1 := acj h2
      rw [if_neg (by omega),if_neg h2,h1]
      rfl
  · simp +contextual (disch := (first | omega | (simp only [Y2] <;> omega) | ((repeat' (first | exact aw | apply aq | apply ay | refine ax (by omega) ?_ ?_)) <;> (simp (disch := (first | omega | (simp only [Y5] <;> omega))) only [Y4,Nat.reduceAdd,Nat.reduceEqDiff,reduceIte, *])) | exact True.intro | rfl)) only [Y1,Y6,t48,wX,rZ,oG,Nat.reduceAdd,Nat.reduceEqDiff,reduceIte,Nat.reduceLeDiff,Nat.reduceSub,c49,c62,agc,h45,apply_ite a3t,apply_ite eJ,ah7]
    rw [if_neg (by omega)]
    unfold vS
    rw [if_neg hl,if_neg h45]
theorem c48 {s : List UInt8} {hp : Hp} {k : AV → Hp → ab} (h : s.length ≤ 1000000) : aH mem false r48 (.nd (S s) .lf .lf) hp k = k (.bu (.nd (I (vS s).1) .lf (.nd (I (vS s).2) .lf .lf)) 2) hp := jD (.nd (c8 _) .lf) (kj (kT _) (kT _)) (auL h) hp k
end Go.Proofs.YtpiokjcbadfalaaGreatDoor.Tz
namespace Go.Proofs.YtpiokjcbadfalaaGreatDoor.Tz
noncomputable section
def wW : Sm := aT cr22 [1,1,0,1]
def a3s : ab → ab := kO cr22
theorem t22 (x0 x1 : AV) (hp : Hp) : r22.f (.nd x0 .lf (.nd x1 .lf .lf)) hp = a3s (oM x0 (fun v0=>aI mem false 1 v0 hp (fun v1=>aH mem false r46 (.nd v1 .lf (.nd (.x 3 .lf 39 0 0) .lf .lf)) hp (fun v2 v3=>(ar .lss 3).f v2 (.int 3 0) (fun v4=>AV.aJ v4 (fun v5=>when v5 (oM x0 (fun v6=>aI mem false 1 v6 v3 (fun v7=>dX mem 0 v7 v3 (fun v8=>au (Nat.ble v8 9223372036854775807) ((wW).run .lf (.n x0 x1 (.int 3 0) (.bool false) (.int 3 v8) .uu .uu .uu .e) v3))))) ((wW).run .lf (.n x0 x1 (.int 3 0) (.bool false) v2 .uu .uu .uu .e) v3))))))) := (congrArg (fun F=>aF.f F (.nd x0 .lf (.nd x1 .lf .lf)) hp) (cX cr22).symm).trans (by kernel_rfl)
theorem ah6 (x0 x1 x2 x3 x4 : AV) (hp : Hp) : a3s (.ret (.n x0 x1 x2 x3 x4 .uu .uu .uu .e) hp) = .val (.bu (.nd x2 .lf (.nd x3 .lf .lf)) 2) hp := by kernel_rfl
theorem oE (x0 x1 x2 x3 x4 : AV) (hp : Hp) : (wW).run .lf (.n x0 x1 x2 x3 x4 .uu .uu .uu .e) hp = oM x0 (fun v9=>aI mem false 1 v9 hp (fun v10=>fc v10 .none (.some x4) (fun v11=>aH mem false r48 (.nd v11 .lf .lf) hp (fun v12 v13=>bS 0 v12 (fun v14=>bS 1 v12 (fun v15=>oM x0 (fun v16=>aI mem false 1 v16 v13 (fun v17=>fc v17 (.some x4) .none (fun v18=>aH mem false r49 (.nd v18 .lf (.nd x1 .lf .lf)) v13 (fun v19 v20=>bS 0 v19 (fun v21=>bS 1 v19 (fun v22=>oM x0 (fun v23=>bk mem 1 v23 v21 v20 (fun v24=>gd v22 true v24 (fun k25=>k25 v15 v24) (fun v26 v27=>gd v22 true v27 (fun k28=>(ar .eql 3).f v26 (.int 3 0) (fun v29=>k28 v29 v27)) (fun v30 v31=>bo v22 (fun v32=>v32 v30) (fun v33=>v33 (.bool false)) (fun v34=>.ret (.n x0 x1 v14 v34 x4 .uu .uu .uu .e) v31))))))))))))))))) := by kernel_rfl
end
attribute [local irreducible] mem
set_option linter.unusedSimpArgs false
attribute [local congr] dh aP bB dm dj bj dp cj aW cx cy cA bf bC bD aX eN cq cg cu bh bg aQ aS eO bF cn bx bH bE bz cz ck bd bI di bA bG bJ cP
theorem c46 {s : List UInt8} {hp : Hp} {k : AV → Hp → ab} (h : s.length ≤ 4294967280) : aH mem false r46 (.nd (S s) .lf (.nd (.x 3 .lf 39 0 0) .lf .lf)) hp k = k (I (ixN s)) hp := jD (.nd (c8 _) (.nd (acF 47) .lf)) (ll _).goes (ue ⟨.empty,ajy h⟩) hp k
noncomputable def eU (s w : List UInt8) : Int × Bool × List UInt8 :=
  let n := bK s
  let r := vS (s.take n)
  (r.1,(Lib.hasPrefix (s.drop n) w && decide (r.2 = 0)),Lib.trimPrefix (s.drop n) w)
theorem auF {s w : List UInt8} {b : Nat} {p : Bool} {hp : Hp} (hs : s.length ≤ 100000) (hw : w.length ≤ 100000) (hb : b < 16777215) (hpr : hp.pr = []) (hat : hp.at b = yE p (S s)) :
    r22.f (.nd (.ptr b 0) .lf (.nd (S w) .lf .lf)) hp = .val (.bu (.nd (I (eU s w).1) .lf (.nd (.bool (eU s w).2.1) .lf .lf)) 2) (hp.eK b (yE (bp p true) (S (eU s w).2.2))) := by
  have hn := lY s
  have h1 := avs (s.take (bK s))
  have e1 : (List.take (bK s) s).length ≤ 100000 := by rw [List.length_take]; omega
  have e2 : (List.drop (bK s) s).length ≤ 100000 := by rw [List.length_drop]; omega
  have hfin : ∀ P : Bool,(if P = true then (AV.bool (decide (((vS (s.take (bK s))).2 : Int) = 0))) else AV.bool false) = AV.bool (P && decide ((vS (s.take (bK s))).2 = 0)) := fun P=>by
    cases P with
    | false=>rfl
    | true=>
      show AV.bool (decide (((vS (s.take (bK s))).2 : Int) = 0)) = AV.bool (true && decide ((vS (s.take (bK s))).2 = 0))
      congr 1
      rw [Bool.true_and,decide_eq_decide]; omega
  unfold eU
  dsimp only
  rw [← hfin]
  generalize hP : Lib.hasPrefix (s.drop (bK s)) w = P
  by_cases hE : bK s = s.length
  · have e4 : ixN s = -1 := by rw [wO,if_pos hE]
    have t1 : s.take (bK s) = s := by rw [hE,List.take_length]
    have t2 : s.drop (bK s) = [] := by rw [hE,List.drop_length]
    rw [t1] at h1 e1
    rw [t2] at hP
    rw [t1,t2]
    clear hfin
    cases P <;> simp +contextual (maxSteps := 2000000) (disch := (first | omega | (simp only [Y2] <;> omega) | ((repeat' (first | exact aw | apply aq | apply ay | refine ax (by omega) ?_ ?_)) <;> (simp (disch := (first | omega | (simp only [Y5] <;> omega))) only [Y4,nd @aD,nd @aE,aj,Nat.reduceAdd,Nat.reduceEqDiff,reduceIte, *])) | (simp (disch := omega) only [Y4,nd @aD,nd @aE,aj,Nat.reduceAdd,Nat.reduceEqDiff,reduceIte]; done) | exact bL _ | exact bY _ | exact bX _ | exact bZ _ | exact True.intro | rfl)) only [Y1,Y6,Y8,t22,oE,Int.reduceLT,Int.reduceLE,Int.reduceEq,Int.reduceNeg,Int.reduceToNat,Nat.reduceAdd,Nat.reduceEqDiff,reduceIte,Nat.reduceLeDiff,Nat.reduceSub,c46,c48,c49,hat,e4,apply_ite a3s,ah6,hP,List.take_length,List.drop_length]
  · have e4 : ixN s = (bK s : Int) := by rw [wO,if_neg hE]
    clear hfin
    cases P
    · simp +contextual (maxSteps := 2000000) (disch := (first | omega | (simp only [Y2] <;> omega) | ((repeat' (first | exact aw | apply aq | apply ay | refine ax (by omega) ?_ ?_)) <;> (simp (disch := (first | omega | (simp only [Y5] <;> omega))) only [Y4,nd @aD,nd @aE,aj,Nat.reduceAdd,Nat.reduceEqDiff,reduceIte, *])) | (simp (disch := omega) only [Y4,nd @aD,nd @aE,aj,Nat.reduceAdd,Nat.reduceEqDiff,reduceIte]; done) | exact bL _ | exact bY _ | exact bX _ | exact bZ _ | exact True.intro | rfl)) only [Y1,Y6,Y8,t22,oE,Int.reduceLT,Int.reduceLE,Int.reduceEq,Int.reduceNeg,Int.reduceToNat,Nat.reduceAdd,Nat.reduceEqDiff,reduceIte,Nat.reduceLeDiff,Nat.reduceSub,c46,c48,c49,hat,e4,apply_ite a3s,ah6,hP]
      rw [if_neg (by omega)]
    · simp +contextual (maxSteps := 2000000) (disch := (first | omega | (simp only [Y2] <;> omega) | ((repeat' (first | exact aw | apply aq | apply ay | refine ax (by omega) ?_ ?_)) <;> (simp (disch := (first | omega | (simp only [Y5] <;> omega))) only [Y4,nd @aD,nd @aE,aj,Nat.reduceAdd,Nat.reduceEqDiff,reduceIte, *])) | (simp (disch := omega) only [Y4,nd @aD,nd @aE,aj,Nat.reduceAdd,Nat.reduceEqDiff,reduceIte]; done) | exact bL _ | exact bY _ | exact bX _ | exact bZ _ | exact True.intro | rfl)) only [Y1,Y6,Y8,t22,oE,Int.reduceLT,Int.reduceLE,Int.reduceEq,Int.reduceNeg,Int.reduceToNat,Nat.reduceAdd,Nat.reduceEqDiff,reduceIte,Nat.reduceLeDiff,Nat.reduceSub,c46,c48,c49,hat,e4,apply_ite a3s,ah6,hP]
      rw [if_neg (by omega)]
theorem c22 {s w : List UInt8} {b : Nat} {p : Bool} {hp : Hp} {k : AV → Hp → ab} (hs : s.length ≤ 100000) (hw : w.length ≤ 100000) (hb : b < 16777215) (hpr : hp.pr = []) (hat : hp.at b = yE p (S s)) : aH mem false r22 (.nd (.ptr b 0) .lf (.nd (S w) .lf .lf)) hp k = k (.bu (.nd (I (eU s w).1) .lf (.nd (.bool (eU s w).2.1) .lf .lf)) 2) (hp.eK b (yE (bp p true) (S (eU s w).2.2))) := acy (auF hs hw hb hpr hat) k
open Classical in
noncomputable def a02 (B : bN) (b : Nat) (w : List UInt8) (hp : Hp) (k : AV → Hp → ab) : ab :=
  if h : ∃ p s,s.length ≤ 100000 ∧ B = yE p (S s) then k (.bu (.nd (I (eU h.choose_spec.choose w).1) .lf (.nd (.bool (eU h.choose_spec.choose w).2.1) .lf .lf)) 2) (hp.eK b (yE (bp h.choose true) (S (eU h.choose_spec.choose w).2.2)))
  else aH mem false r22 (.nd (.ptr b 0) .lf (.nd (S w) .lf .lf)) hp k
theorem c22e {w : List UInt8} {b : Nat} {hp : Hp} {k : AV → Hp → ab} (h : (w.length ≤ 100000 ∧ b < 16777215)) (hpr : hp.pr = []) : aH mem false r22 (.nd (.ptr b 0) .lf (.nd (S w) .lf .lf)) hp k = a02 (hp.at b) b w hp k := by
  unfold a02
  split
  · rename_i h2
    exact c22 h2.choose_spec.choose_spec.1 h.1 h.2 hpr h2.choose_spec.choose_spec.2
  · rfl
theorem S_inj {a b : List UInt8} (h : S a = S b) : a = b := by
  unfold S at h
  injection h with h1 h2
  exact pJ a b h2 h1
theorem a4L {p : Bool} {s w : List UInt8} {b : Nat} {hp : Hp} {k : AV → Hp → ab} (hs : s.length ≤ 100000) : a02 (yE p (S s)) b w hp k = k (.bu (.nd (I (eU s w).1) .lf (.nd (.bool (decide ((eU s w).2.1 = true))) .lf .lf)) 2) (hp.eK b (yE (bp p true) (S (eU s w).2.2))) := by
  have h : ∃ p' s',s'.length ≤ 100000 ∧ yE p (S s) = yE p' (S s') := ⟨p,s,hs,rfl⟩
  unfold a02
  rw [dif_pos h]
  have e := h.choose_spec.choose_spec.2
  injection e with _ e1 _ _ e2
  injection e2 with e3
  have e4 := S_inj e3
  rw [← e4,← e1,Bool.decide_eq_true]
theorem a3f {B B' : bN} {b : Nat} {w : List UInt8} {hp : Hp} {k : AV → Hp → ab} (h : mk B = B') : a02 B b w hp k = a02 B' b w hp k := by rw [mk_eq] at h; rw [h]
theorem kE (s w : List UInt8) : (eU s w).2.2.length ≤ s.length := by
  unfold eU
  dsimp only
  unfold Lib.trimPrefix
  split
  · rw [List.length_drop,List.length_drop]; omega
  · rw [List.length_drop]; omega
def refL : Bool → List UInt8 → Nat
  | _,[]=>0
  | first,c :: r=>if eC c.toNat = true ∨ (first = true ∧ c.toNat = 45) then refL false r + 1 else 0
noncomputable def a7U (s : List UInt8) : Int × List UInt8 :=
  let n := refL true s
  let r := vS (s.take n)
  (if r.2 = 0 ∧ -1 ≤ r.1 ∧ r.1 ≤ 100000 then r.1 else 0,s.drop n)
theorem unn_R (s : List UInt8) : -9223372036854775808 ≤ (vS s).1 ∧ (vS s).1 < 9223372036854775808 := by
  have h1 := (mb (s.drop 1) 9223372036854775808).1
  have h2 := (mb s 9223372036854775807).1
  unfold vS
  dsimp only
  split
  · decide
  · split
    · split
      · split
        · decide
        · show -9223372036854775808 ≤ -(_ : Int) ∧ -(_ : Int) < 9223372036854775808
          omega
      · show -9223372036854775808 ≤ (0 : Int) ∧ (0 : Int) < 9223372036854775808
        decide
    · show -9223372036854775808 ≤ ((_ : Nat) : Int) ∧ ((_ : Nat) : Int) < 9223372036854775808
      omega
theorem qK (s w : List UInt8) : -9223372036854775808 ≤ (eU s w).1 ∧ (eU s w).1 < 9223372036854775808 := unn_R _
end Go.Proofs.YtpiokjcbadfalaaGreatDoor.Tz
namespace Go.Proofs.YtpiokjcbadfalaaGreatDoor.Ev
section
variable {a b c v : AV} {r : Row} {k : Row → ab}
theorem ahk (h : One v) : xZ 0 1 (.nd a .lf r) v k = k (.nd v .lf r) := by
  show when (Nat.beq 1 1) (lK v fun c _=>k (.nd c .lf r)) _ = _
  rw [cK (cb 1),gK h]
theorem ahl (h : One v) : xZ 1 1 (.nd a .lf (.nd b .lf r)) v k = k (.nd a .lf (.nd v .lf r)) := by
  show when (Nat.beq 1 1) (lK v fun c _=>k (.nd a .lf (.nd c .lf r))) _ = _
  rw [cK (cb 1),gK h]
theorem ahm (h : One v) : xZ 2 1 (.nd a .lf (.nd b .lf (.nd c .lf r))) v k = k (.nd a .lf (.nd b .lf (.nd v .lf r))) := by
  show when (Nat.beq 1 1) (lK v fun x _=>k (.nd a .lf (.nd b .lf (.nd x .lf r)))) _ = _
  rw [cK (cb 1),gK h]
end
theorem agg3 {a b c : AV} : AV.agg (.nd a .lf (.nd b .lf (.nd c .lf .lf))) 3 = AV.agg (aA [a,b,c]) 3 := nd rfl
theorem ek {o s : Nat} {l : Row} {v v' : AV} {k : Row → ab} (h : mk v = v') : xZ o s l v k = xZ o s l v' k := by rw [mk_eq] at h; rw [h]
end Go.Proofs.YtpiokjcbadfalaaGreatDoor.Ev
namespace Go.Proofs.YtpiokjcbadfalaaGreatDoor.Tz
set_option linter.defProp false
def Y3 := And.intro @aaJ (And.intro @pl_I (And.intro @pl_B (And.intro @pl_U (And.intro @zi (And.intro @vY (And.intro @ad5 (And.intro @Bool.and_self (And.intro @Bool.true_and (And.intro @aet (And.intro @a2W (And.intro @a4C (And.intro @a5E (And.intro @a4S (And.intro @iO (And.intro @fE (And.intro @jh (And.intro @kL (And.intro @lr (And.intro @lq (And.intro @gd_u (And.intro @ahk (And.intro @ahl (And.intro @ahm (And.intro @agg3 (And.intro @uu (And.intro @ahD (And.intro @agk (And.intro @ad3 (And.intro @afN (And.intro @akT (And.intro @akU (And.intro @a0q (And.intro @a0s (And.intro @a0p (And.intro @a0r (And.intro @a9L (And.intro @afO (And.intro @afP (And.intro @a0A (And.intro @a6j (And.intro @a0z (@akM))))))))))))))))))))))))))))))))))))))))))
end Go.Proofs.YtpiokjcbadfalaaGreatDoor.Tz
namespace Go.Proofs.YtpiokjcbadfalaaGreatDoor.Ev
def my (z : Nat) (h : Hp) (a : AV) (l : List AV) : Prop := (a = .x 8 .lf 0 0 0 ∧ l = []) ∨ ∃ c t,a = .ms c 0 l.length z ∧ c < h.nx ∧ h.at c = .row true true z (l.length * z) t ∧ ∀ j,j < l.length → t.at j = l.getD j .uu
def PlE (z : Nat) (v : AV) : Prop := (z = 1 ∧ One v ∧ v.pl = true) ∨ (2 ≤ z ∧ ∃ l,v = .agg (aA l) z ∧ l.length = z ∧ iw l = true)
section
variable {M : Mem} (ok : mA M)
include ok
theorem avz {z : Nat} {v : AV} (hv : PlE z v) (r0 : Row) (k : Row → Bool → ab) : wrV M z z r0 0 v k = k (dz .uu r0 0 v) true := by
  rcases hv with ⟨rfl,h1,h2⟩ | ⟨h2,l,rfl,hl,hp⟩
  · show lK v (fun c p=>when (Nat.beq 1 1) (M.rs.f r0 0 c fun t=>k t p) _) = _
    rw [gK h1,cK (cb 1),ok.rs (by decide),h2]
  · show when (Nat.beq z 1) _ (au (Nat.beq z z) (au (Nat.ble 1 z) (eR (aA l) fun p=>when (bp (Nat.beq z z) (Nat.beq (0 % z) 0)) (M.rs.f r0 (0 / z) (.agg (aA l) z) fun t=>k t p) _))) = _
    rw [fA (iD (by omega)),aG (cb z),aG (dR (by omega)),fJ,Nat.zero_mod,cb,cK (show bp true (Nat.beq 0 0) = true from rfl),Nat.zero_div,ok.rs (by decide),hp]
theorem ad7 (r0 : Row) {h : Hp} {a : AV} {l : List AV} {z : Nat} {v : AV} (hz : 1 ≤ z ∧ z ≤ 100) (hv : PlE z v) (ha : my z h a l) (hnx : h.nx + 2 < 16777215) (hpr : h.pr = []) (hl : l.length + 1 ≤ 100000) :
    ∃ a' h',my z h' a' (l ++ [v]) ∧ h'.nx = h.nx + 2 ∧ h'.pr = [] ∧ (∀ c,c < h.nx → (∀ n,a ≠ .ms c 0 n z) → h'.at c = h.at c) ∧ a' = .ms (h.nx + 1) 0 (l.length + 1) z ∧
      ∀ K : AV → Hp → ab,mF M (br M) z r0 z 1 [(0,fun k=>k v)] h (fun v h=>cT M (br M) z a v h K) = K a' h' := by
  have hb : ∀ K,mF M (br M) z r0 z 1 [(0,fun k=>k v)] h K = K (.ms h.nx 0 1 z) (h.add (.row true true z z (dz .uu r0 0 v))) := fun K=>by
    show wrV M z z r0 0 v (fun t b=>(br M).f h (.row true (bp true b) z z t) fun id hp=>K (.ms id 0 1 z) hp) = _
    rw [avz ok hv,iS ok (by omega)]; rfl
  have hq : (h.add (.row true true z z (dz .uu r0 0 v))).at h.nx = .row true true z z (dz .uu r0 0 v) := add_same (by omega)
  have hu0 : (dz .uu r0 0 v : Row).at 0 = v := by rw [vN (by decide),if_pos rfl]
  have hs : ∀ K,lD M z (.ms h.nx 0 1 z) (h.add (.row true true z z (dz .uu r0 0 v))) K = K (dz .uu r0 0 v) 0 1 true := fun K=>by
    show au (Nat.beq z z) ((h.add (.row true true z z (dz .uu r0 0 v))).use M h.nx (0 + 1 * z) fun _ fl x _ t=>au (Nat.beq x z) (au (Nat.beq (0 % z) 0) (aL (0 / z) fun e=>K t e 1 fl))) = _
    rw [aG (cb z),yo ok (by omega) hq (by omega),aG (cb z),Nat.zero_mod,aG (cb 0),az,Nat.zero_div]
  rcases ha with ⟨rfl,rfl⟩ | ⟨c,t,rfl,hc,hct,ht⟩
  · refine ⟨.ms (h.nx + 1) 0 1 z,(h.add (.row true true z z (dz .uu r0 0 v))).add (.row true true z (1 * z) (dz .uu r0 0 v)),.inr ⟨h.nx + 1,dz .uu r0 0 v,rfl,by rw [dy,dy]; omega,iO (by rw [dy]; omega) (by rw [dy]),fun j hj=>by
        have : j = 0 := by simpa using hj
        subst this; exact hu0⟩,rfl,hpr,fun c hc _=>by rw [fE (by rw [dy]; omega) (by rw [dy]; omega),fE (by omega) (by omega)],rfl,fun K=>?_⟩
    rw [hb]
    unfold cT
    rw [hs]
    show au (Nat.beq 8 8 || Nat.beq 8 6) (when (Nat.beq 1 0) (K (.x 8 .lf 0 0 0) (h.add (.row true true z z (dz .uu r0 0 v)))) (tu M (br M) z (dz .uu r0 0 v) 0 1 true (h.add (.row true true z z (dz .uu r0 0 v))) K)) = _
    rw [aG (b := Nat.beq 8 8 || Nat.beq 8 6) rfl,fA (b := Nat.beq 1 0) rfl]
    unfold tu
    rw [aG (b := Nat.ble 1 1073741824) rfl,az,cK (b := Nat.beq 0 0) rfl,iS ok (by rw [dy]; omega)]
    rfl
  · obtain ⟨r,h1,h2⟩ := a0X ok 1 (dz .uu r0 0 v) 0 t l.length (by omega) (by omega)
    have hne : c ≠ h.nx := by omega
    refine ⟨.ms (h.nx + 1) 0 (l.length + 1) z,((h.add (.row true true z z (dz .uu r0 0 v))).eK c .dead).add (.row true true z ((l.length + 1) * z) r),.inr ⟨h.nx + 1,r,by rw [List.length_append]; rfl,by rw [dy,gG,dy]; omega,by rw [iO (by rw [gG,dy]; omega) (by rw [gG,dy]),List.length_append]; rfl,fun j hj=>?_⟩,rfl,hpr,fun c' hc' hn=>?_,rfl,fun K=>?_⟩
    · rw [List.length_append] at hj
      rw [h1]
      by_cases h : l.length ≤ j
      · have hj2 : j = l.length := by simp only [List.length_cons,List.length_nil] at hj; omega
        rw [if_pos ⟨h,by simpa using hj⟩,hj2,Nat.sub_self,Nat.add_zero,hu0]
        simp [List.getD]
      · rw [if_neg (by omega),ht j (by omega)]
        simp only [List.getD_eq_getElem?_getD]
        rw [List.getElem?_append_left (by omega)]
    · have hcc : c' ≠ c := fun e=>hn l.length (by rw [e])
      rw [fE (by rw [gG,dy]; omega) (by rw [gG,dy]; omega),kL (by omega) hcc,fE (by omega) (by omega)]
    · rw [hb]
      unfold cT
      rw [hs]
      have hct' : (h.add (.row true true z z (dz .uu r0 0 v))).at c = .row true true z (l.length * z) t := by rw [fE (by omega) hne]; exact hct
      let H : Hp := h.add (.row true true z z (dz .uu r0 0 v))
      show au (Nat.beq z z) (when (Nat.beq 1 0) (K (.ms c 0 l.length z) H) (H.own M c (0 + l.length * z) fun fl x _ t=>au (Nat.beq x z) (au (Nat.beq (0 % z) 0) (when (Nat.beq 0 0) (iX M (br M) z c l.length fl t (dz .uu r0 0 v) 0 1 true H K) ((cp M l.length).f t (0 / z) .lf 0 fun r=>iX M (br M) z c l.length fl r (dz .uu r0 0 v) 0 1 true H K))))) = _
      rw [aG (cb z),fA (b := Nat.beq 1 0) rfl,ag1 ok (by omega) hct' (by omega) hpr,aG (cb z),Nat.zero_mod,aG (cb 0),cK (b := Nat.beq 0 0) rfl]
      unfold iX
      rw [h2,gx ok (by omega),az]
      show au (Nat.ble (l.length + 1) 1073741824) (aL ((l.length + 1) * z) fun s=>(br M).f ((h.add (.row true true z z (dz .uu r0 0 v))).eK c .dead) (.row true (bp true true) z s r) fun id hp=>K (.ms id 0 (l.length + 1) z) hp) = _
      rw [aG (dR (by omega)),az,iS ok (by rw [gG,dy]; omega)]
      rfl
end
theorem ad6 (r0 : Row) {h : Hp} {a : AV} {l : List AV} {z : Nat} {v : AV} (hz : 1 ≤ z ∧ z ≤ 100) (hv : PlE z v) (ha : my z h a l) (hnx : h.nx + 2 < 16777215) (hpr : h.pr = []) (hl : l.length + 1 ≤ 100000) :
    ∃ a' h',my z h' a' (l ++ [v]) ∧ h'.nx = h.nx + 2 ∧ h'.pr = [] ∧ (∀ c,c < h.nx → (∀ n,a ≠ .ms c 0 n z) → h'.at c = h.at c) ∧ a' = .ms (h.nx + 1) 0 (l.length + 1) z ∧
      ∀ K : AV → Hp → ab,mF mem (br mem) z r0 z 1 [(0,fun k=>k v)] h (fun v h=>cT mem (br mem) z a v h K) = K a' h' := ad7 dx r0 hz hv ha hnx hpr hl
def ab5 (z : Nat) (hp : Hp) (a' : AV) (hp' : Hp) (l : List AV) : Prop := my z hp' a' l ∧ hp.nx ≤ hp'.nx ∧ hp'.nx ≤ hp.nx + 1 ∧ hp'.pr = hp.pr ∧ (∀ c,c < hp.nx → hp'.at c = hp.at c) ∧ (∀ c n,a' = .ms c 0 n z → c = hp.nx)
theorem ajv {M : Mem} {m : Nat} {l : Row} {n : Nat} {hc hp : Hp} {b : Bool} {k : AV → Hp → Hp → Bool → ab} : (imp M (m + 1)).f (.bu l n) hc hp b k = il (imp M m) l hc hp b (fun r hc hp b=>k (.bu r n) hc hp b) := rfl
theorem ajs {z : IK} {v : AV} {l : Row} {hc hp : Hp} {b : Bool} {k : Row → Hp → Hp → Bool → ab} : il z (.nd v .lf l) hc hp b k = z.f v hc hp b fun v hc hp b=>il z l hc hp b fun r hc hp b=>k (.nd v .lf r) hc hp b := rfl
section
variable {M : Mem} (ok : mA M)
include ok
theorem zN {m z : Nat} {hc hp : Hp} {a : AV} {l : List AV} (ha : my z hc a l) (hnc : hc.nx ≤ 1000000) (hnx : hp.nx ≤ 1000000) :
    ∃ a' hp',ab5 z hp a' hp' l ∧ ∃ hc',∀ k,(imp M (m + 2)).f a hc hp false k = k a' hc' hp' false := by
  rcases ha with ⟨rfl,rfl⟩ | ⟨c,t,rfl,hcl,hct,ht⟩
  · exact ⟨.x 8 .lf 0 0 0,hp,⟨.inl ⟨rfl,rfl⟩,Nat.le_refl _,Nat.le_succ _,rfl,fun _ _=>rfl,fun _ _ e=>(by cases e)⟩,hc,fun _=>rfl⟩
  · refine ⟨.ms hp.nx 0 l.length z,hp.add (.row true true z (l.length * z) t),⟨.inr ⟨hp.nx,t,rfl,by rw [dy]; omega,add_same (by omega),ht⟩,by rw [dy]; omega,by rw [dy]; omega,rfl,fun c hc=>fE (by omega) (by omega),fun c n e=>by cases e; rfl⟩,hc.eK c (.fwd hp.nx),fun k=>?_⟩
    show ib M (imp M (m + 1)) c hc hp false (fun id hc hp b=>k (.ms id 0 l.length z) hc hp b) = _
    unfold ib
    rw [Go.Proofs.YtpiokjcbadfalaaGreatDoor.Ev.get_at ok (by omega),hct]
    show hc.put M c (.fwd hp.nx) (fun hc=>(br M).f hp (.row true true z (l.length * z) t) fun id hp=>k (.ms id 0 l.length z) hc hp false) = _
    rw [gx ok (by omega),iS ok (by omega)]
theorem a6J {F : aF} {r : Row} {hc hp : Hp} {a : AV} {l : List AV} {z : Nat} (hz : ∀ hp k,zl (nB M 24) r hp k = k r hp) (ha : my z hc a l) (hnc : hc.nx ≤ 1000000) (hnx : hp.nx ≤ 1000000) (e : F.f r .empty = .val a hc) :
    ∃ a' hp',ab5 z hp a' hp' l ∧ ∀ k,aH M false F r hp k = k a' hp' := by
  obtain ⟨a',hp',h1,hc',h2⟩ := zN ok (m := 22) ha hnc hnx
  refine ⟨a',hp',h1,fun k=>?_⟩
  show er M hp r (fun a ho=>dQ M F a hp ho k) (dB F r hp k) = _
  unfold er
  rw [hz]
  show dQ M F r hp hp k = _
  unfold dQ
  rw [e]
  show (imp M 24).f a hc hp false (fun v' _ hp' b=>when b ((imp M 24).f a hc hp false fun v _ hp _=>k v hp) (k v' hp')) = _
  rw [h2]; rfl
theorem wg {F : aF} {r q : Row} {n : Nat} {hc hp : Hp} {a : AV} {l : List AV} {z : Nat} (hz : ∀ hp k,zl (nB M 24) r hp k = k r hp) (hq : ∀ hc hp b k,il (imp M 23) q hc hp b k = k q hc hp b) (ha : my z hc a l) (hnc : hc.nx ≤ 1000000) (hnx : hp.nx ≤ 1000000) (e : F.f r .empty = .val (.bu (.nd a .lf q) n) hc) :
    ∃ a' hp',ab5 z hp a' hp' l ∧ ∀ k,aH M false F r hp k = k (.bu (.nd a' .lf q) n) hp' := by
  obtain ⟨a',hp',h1,hc',h2⟩ := zN ok (m := 21) ha hnc hnx
  refine ⟨a',hp',h1,fun k=>?_⟩
  show er M hp r (fun a ho=>dQ M F a hp ho k) (dB F r hp k) = _
  unfold er
  rw [hz]
  show dQ M F r hp hp k = _
  unfold dQ
  rw [e]
  show (imp M 24).f (.bu (.nd a .lf q) n) hc hp false (fun v' _ hp' b=>when b ((imp M 24).f (.bu (.nd a .lf q) n) hc hp false fun v _ hp _=>k v hp) (k v' hp')) = _
  generalize hG : (fun (v' : AV) (_ hp' : Hp) (b : Bool)=>when b ((imp M 24).f (.bu (.nd a .lf q) n) hc hp false fun v _ hp _=>k v hp) (k v' hp')) = G
  rw [ajv (m := 23),ajs,h2,hq,← hG]; rfl
end
theorem a9r {l : List AV} (h : ∀ v ∈ l,GoL v) : ∀ hc hp b k,il (imp mem 23) (aA l) hc hp b k = k (aA l) hc hp b := by
  induction l with
  | nil=>exact fun _ _ _ _=>rfl
  | cons v l ih=>
    intro hc hp b k
    show (imp mem 23).f v hc hp b (fun v hc hp b=>il (imp mem 23) (aA l) hc hp b fun r hc hp b=>k (.nd v .lf r) hc hp b) = _
    rw [h v (by simp),ih fun w hw=>h w (by simp [hw])]
    rfl
theorem adi {F : aF} {r : Row} {hc : Hp} {a : AV} {l : List AV} {z : Nat} (hr : lx r) (ha : my z hc a l) (hnc : hc.nx ≤ 1000000) (e : F.f r .empty = .val a hc) (hp : Hp) (hnx : hp.nx ≤ 1000000) :
    ∃ a' hp',ab5 z hp a' hp' l ∧ ∀ k,aH mem false F r hp k = k a' hp' := a6J dx (fk hr) ha hnc hnx e
end Go.Proofs.YtpiokjcbadfalaaGreatDoor.Ev
