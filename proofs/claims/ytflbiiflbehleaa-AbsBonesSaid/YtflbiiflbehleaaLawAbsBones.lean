/- The walk of wreckagelaw36.AbsBones. No condition. -/
import Derived.Test.YtflbiiflbehleaaBonesA
import Derived.Test.YtflbiiflbehleaaSameInts
namespace Go.Proofs.Ytflbiiflbehleaa
open Go.RowKit
theorem allSame_of {α : Type} {f : α → α → Bool} : ∀ (l m : List α), l.length = m.length → (∀ (i : Nat) (x y : α), l[i]? = some x → m[i]? = some y → f x y = true) → allSame f l m = true
  | [], [], _, _ => rfl
  | [], _ :: _, h, _ => by simp at h
  | _ :: _, [], h, _ => by simp at h
  | x :: l, y :: m, h, H => by
    simp only [allSame, Bool.and_eq_true]
    exact ⟨H 0 x y rfl rfl, allSame_of l m (by simpa using h) fun i a b ha hb => H (i + 1) a b (by simpa using ha) (by simpa using hb)⟩
/-- Two that Bones may hand back of one state are the same. -/
theorem bones_same {s a b : St} (a1 : a.out = s.out) (a2 : a.failing = s.failing) (a3 : a.steps = s.steps) (a4 : a.rs.length = s.rs.length) (a5 : ∀ (i : Nat) (y y' : Ro), s.rs[i]? = some y → a.rs[i]? = some y' → BareRo y y')
    (b1 : b.out = s.out) (b2 : b.failing = s.failing) (b3 : b.steps = s.steps) (b4 : b.rs.length = s.rs.length) (b5 : ∀ (i : Nat) (y y' : Ro), s.rs[i]? = some y → b.rs[i]? = some y' → BareRo y y') : St.same a b = true := by
  simp only [St.same, a1, a2, a3, b1, b2, b3, beq_self_eq_true, Bool.true_and]
  refine allSame_of _ _ (by omega) fun i x y hx hy => ?_
  have hi : i < s.rs.length := by rw [← a4]; exact (List.getElem?_eq_some_iff.1 hx).1
  exact (a5 i _ x (List.getElem?_eq_getElem hi) hx).same (b5 i _ y (List.getElem?_eq_getElem hi) hy)
section
variable {P : Program} {ops : Array Oper} {md : Region.Mode} {S : World → Prop} {Q : Exit → Act → World → Prop}
/-- The one that must come next, under a guard that is met. -/
theorem HeadI.onlyW {n i f : Nat} {o : Oper} {seen : Array Bool} {a : Act} {w : World} (ho : ops[i]? = some o) (hg : Region.wanted o (yielded ops a.tmps) = true) (hr : Region.ready md ops seen = [i]) (hin : i < n)
    (h : o.wp P a w (fun a' w' => S w' ∧ HeadI P md ops Q S n f (seen.setIfInBounds i true) a' w') Q) : HeadI P md ops Q S n (f + 1) seen a w := by
  intro inv
  have hm : i ∈ Region.ready md ops seen := by rw [hr]; simp
  refine ⟨List.ne_nil_of_mem hm, fun j hj => ?_⟩
  rw [hr] at hj
  obtain rfl : j = i := by simpa using hj
  refine ⟨hin, ?_⟩
  unfold wpOp
  simp only [ho]
  rw [if_pos hg]
  exact .inl (Oper.wp_mono (fun a' w' h' => ⟨h'.1, h'.2 (inv.set hm hin)⟩) h)
end
theorem abs_Changed' {a b : St} {l : List Int} {er : Int} (hl : (changedS a b).1 = l) (he : (changedS a b).2 = er) (w : World) (ha : a.In w) (hb : b.In w) : Calls Try.prog 22 #[a.agg, b.agg] w (GivesI l er w) := by
  subst hl he
  exact abs_Changed a b w ha hb
theorem ref36_Changed' {a b : St} {l : List Int} {er : Int} (hl : (changedS a b).1 = l) (he : (changedS a b).2 = er) (w : World) (ha : a.In w) (hb : b.In w) : Calls Try.prog 23 #[a.agg, b.agg] w (GivesI l er w) := by
  subst hl he
  exact ref36_Changed a b w ha hb
set_option maxRecDepth 100000 in
set_option maxHeartbeats 4000000 in
theorem absBones_walk (s t : St) (w : World) (hs : s.In w) (ht : t.In w) :
    Calls Try.prog 5 #[s.agg, t.agg] w fun e w' => e = .returned (.bool true) ∧ Grow w w' := by
  have HS := Lib.hid hs
  have HT := Lib.hid ht
  obtain ⟨l, hl⟩ : ∃ l, (changedS s t).1 = l := ⟨_, rfl⟩
  obtain ⟨er, he⟩ : ∃ er, (changedS s t).2 = er := ⟨_, rfl⟩
  have HL := Lib.hid hl
  have HE := Lib.hid he
  clear hs ht hl he
  have g0 : Grow w ((w.alloc (.cells #[.int .u8 s.out, .int .i64 s.failing, .int .i64 s.steps, .slice s.rsP s.rs.length s.rsC] 24)).alloc (.cells #[.int .u8 t.out, .int .i64 t.failing, .int .i64 t.steps, .slice t.rsP t.rs.length t.rsC] 24)) := ((Below.refl _ _).alloc' _).alloc' _
  have G0 := Lib.hid g0
  clear g0
  go_enter Try.func5, Try.ntmps5
  go_wp2_with fail
  refine (ref36_GreatB s _ (HS.out.grow G0.out)).mono ?_
  rintro e w1 ⟨r, rfl, hg1, hm1⟩
  have s0 := hg1.keep (p := ⟨w.heap.size, 0, none⟩) (v := .int .u8 s.out) (by go_simp)
  have s1 := hg1.keep (p := ⟨w.heap.size, 1, none⟩) (v := .int .i64 s.failing) (by go_simp)
  have s2 := hg1.keep (p := ⟨w.heap.size, 2, none⟩) (v := .int .i64 s.steps) (by go_simp)
  have s3 := hg1.keep (p := ⟨w.heap.size, 3, none⟩) (v := .slice s.rsP s.rs.length s.rsC) (by go_simp)
  have t0 := hg1.keep (p := ⟨w.heap.size + 1, 0, none⟩) (v := .int .u8 t.out) (by go_simp)
  have t1 := hg1.keep (p := ⟨w.heap.size + 1, 1, none⟩) (v := .int .i64 t.failing) (by go_simp)
  have t2 := hg1.keep (p := ⟨w.heap.size + 1, 2, none⟩) (v := .int .i64 t.steps) (by go_simp)
  have t3 := hg1.keep (p := ⟨w.heap.size + 1, 3, none⟩) (v := .slice t.rsP t.rs.length t.rsC) (by go_simp)
  have G1 := Lib.hid (G0.out.then hg1)
  clear G0 hg1
  cases r
  · have M1 := Lib.hid (hm1 rfl)
    clear hm1
    go_wp2_with fail
    refine (ref36_GreatB t _ (HT.out.grow G1.out)).mono ?_
    rintro e w2 ⟨r, rfl, hg2, hm2⟩
    replace s0 := hg2.keep s0
    replace s1 := hg2.keep s1
    replace s2 := hg2.keep s2
    replace s3 := hg2.keep s3
    replace t0 := hg2.keep t0
    replace t1 := hg2.keep t1
    replace t2 := hg2.keep t2
    replace t3 := hg2.keep t3
    have G2 := Lib.hid (G1.out.then hg2)
    clear G1 hg2
    cases r
    · clear hm2
      go_wp2_with fail
      refine (abs_Changed' HL.out HE.out _ (HS.out.grow G2.out) (HT.out.grow G2.out)).mono ?_
      rintro e w3 ⟨v5, rfl, i5, hg3⟩
      have I5 := Lib.hid i5
      clear i5
      replace s0 := hg3.keep s0
      replace s1 := hg3.keep s1
      replace s2 := hg3.keep s2
      replace s3 := hg3.keep s3
      replace t0 := hg3.keep t0
      replace t1 := hg3.keep t1
      replace t2 := hg3.keep t2
      replace t3 := hg3.keep t3
      have G3 := Lib.hid (G2.out.then hg3)
      clear G2 hg3
      go_wp2_with fail
      refine (ref36_Changed' HL.out HE.out _ (HS.out.grow G3.out) (HT.out.grow G3.out)).mono ?_
      rintro e w4 ⟨v7, rfl, i7, hg4⟩
      obtain ⟨p5, k5, rfl, J5⟩ := IRow.byt (I5.out.grow hg4)
      obtain ⟨p7, k7, rfl, J7⟩ := IRow.byt i7
      have K5 := Lib.hid J5
      have K7 := Lib.hid J7
      clear i7 I5 J5 J7
      replace s0 := hg4.keep s0
      replace s1 := hg4.keep s1
      replace s2 := hg4.keep s2
      replace s3 := hg4.keep s3
      replace t0 := hg4.keep t0
      replace t1 := hg4.keep t1
      replace t2 := hg4.keep t2
      replace t3 := hg4.keep t3
      have G4 := Lib.hid (G3.out.then hg4)
      clear G3 hg4
      go_wp2_with fail
      have hS0 : (fun w' => w'.cell? ⟨w.heap.size, 0, none⟩ = some (.int .u8 s.out) ∧ w'.cell? ⟨w.heap.size, 1, none⟩ = some (.int .i64 s.failing) ∧ w'.cell? ⟨w.heap.size, 2, none⟩ = some (.int .i64 s.steps) ∧ w'.cell? ⟨w.heap.size, 3, none⟩ = some (.slice s.rsP s.rs.length s.rsC)) w4.drew := ⟨s0, s1, s2, s3⟩
      have HG4 := Lib.hid (show Grow w w4.drew from G4.out.trans ⟨rfl, rfl, rfl, Nat.le_refl _, fun _ _ => rfl⟩)
      have HI5 := Lib.hid (show Its w4.drew p5 k5 l from K5.out)
      have HI7 := Lib.hid (show Its w4.drew p7 k7 l from K7.out)
      clear s0 s1 s2 s3 t0 t1 t2 t3 G4 K5 K7
      refine wp_region_head (n := 15) (fun w' => w'.cell? ⟨w.heap.size, 0, none⟩ = some (.int .u8 s.out) ∧ w'.cell? ⟨w.heap.size, 1, none⟩ = some (.int .i64 s.failing) ∧ w'.cell? ⟨w.heap.size, 2, none⟩ = some (.int .i64 s.steps) ∧ w'.cell? ⟨w.heap.size, 3, none⟩ = some (.slice s.rsP s.rs.length s.rsC)) (by kernel_rfl) (by simp) ?_
      refine HeadI.take (i := 0) (v := ?_) rfl (by kernel_rfl) (fun _ _ _ h => h) (Or.inl ⟨by rfl, ?_⟩) (by assumption) ?_
      rotate_left
      · intro w hSw
        go_split_ands
        go_simp
        try with_reducible rfl
      simp only [Act.put]
      refine HeadI.take (i := 2) (v := ?_) rfl (by kernel_rfl) (fun _ _ _ h => h) (Or.inl ⟨by rfl, ?_⟩) (by assumption) ?_
      rotate_left
      · intro w hSw
        go_split_ands
        go_simp
        try with_reducible rfl
      simp only [Act.put]
      refine HeadI.only (i := 1) rfl rfl (by kernel_rfl) (by omega) ?_
      go_simp
      refine (abs_Bones s _ (HS.out.grow HG4.out) M1.out).mono ?_
      rintro e w5 ⟨sa, rfl, na, ga, a1, a2, a3, a4, a5⟩
      have NA := Lib.hid na
      have GA := Lib.hid ga
      have AA := Lib.hid (And.intro a1 (And.intro a2 (And.intro a3 (And.intro a4 a5))))
      refine ⟨⟨ga.keep hS0.1, ga.keep hS0.2.1, ga.keep hS0.2.2.1, ga.keep hS0.2.2.2⟩, ?_⟩
      have hS1 : (fun w' => w'.cell? ⟨w.heap.size, 0, none⟩ = some (.int .u8 s.out) ∧ w'.cell? ⟨w.heap.size, 1, none⟩ = some (.int .i64 s.failing) ∧ w'.cell? ⟨w.heap.size, 2, none⟩ = some (.int .i64 s.steps) ∧ w'.cell? ⟨w.heap.size, 3, none⟩ = some (.slice s.rsP s.rs.length s.rsC)) w5 := ⟨ga.keep hS0.1, ga.keep hS0.2.1, ga.keep hS0.2.2.1, ga.keep hS0.2.2.2⟩
      clear na ga a1 a2 a3 a4 a5 hS0
      refine HeadI.only (i := 3) rfl rfl (by kernel_rfl) (by omega) ?_
      go_simp
      refine (ref36_Bones s _ (HS.out.grow (HG4.out.then GA.out)) M1.out).mono ?_
      rintro e w6 ⟨sb, rfl, nb, gb, b1, b2, b3, b4, b5⟩
      have NB := Lib.hid nb
      have GB := Lib.hid gb
      have hsame := bones_same AA.out.1 AA.out.2.1 AA.out.2.2.1 AA.out.2.2.2.1 AA.out.2.2.2.2 b1 b2 b3 b4 b5
      have HSM := Lib.hid hsame
      refine ⟨⟨gb.keep hS1.1, gb.keep hS1.2.1, gb.keep hS1.2.2.1, gb.keep hS1.2.2.2⟩, ?_⟩
      have hS2 : (fun w' => w'.cell? ⟨w.heap.size, 0, none⟩ = some (.int .u8 s.out) ∧ w'.cell? ⟨w.heap.size, 1, none⟩ = some (.int .i64 s.failing) ∧ w'.cell? ⟨w.heap.size, 2, none⟩ = some (.int .i64 s.steps) ∧ w'.cell? ⟨w.heap.size, 3, none⟩ = some (.slice s.rsP s.rs.length s.rsC)) w6 := ⟨gb.keep hS1.1, gb.keep hS1.2.1, gb.keep hS1.2.2.1, gb.keep hS1.2.2.2⟩
      clear nb gb b1 b2 b3 b4 b5 hS1 hsame
      refine HeadI.only (i := 4) rfl rfl (by kernel_rfl) (by omega) ?_
      go_simp
      refine (ref34_Same sa sb _ (NA.out.grow GB.out) NB.out).mono ?_
      rintro e w7 ⟨rfl, g7⟩
      have G7 := Lib.hid g7
      refine ⟨⟨g7.keep hS2.1, g7.keep hS2.2.1, g7.keep hS2.2.2.1, g7.keep hS2.2.2.2⟩, ?_⟩
      have hS3 : (fun w' => w'.cell? ⟨w.heap.size, 0, none⟩ = some (.int .u8 s.out) ∧ w'.cell? ⟨w.heap.size, 1, none⟩ = some (.int .i64 s.failing) ∧ w'.cell? ⟨w.heap.size, 2, none⟩ = some (.int .i64 s.steps) ∧ w'.cell? ⟨w.heap.size, 3, none⟩ = some (.slice s.rsP s.rs.length s.rsC)) w7 := ⟨g7.keep hS2.1, g7.keep hS2.2.1, g7.keep hS2.2.2.1, g7.keep hS2.2.2.2⟩
      rw [HSM.out]
      clear g7 hS2
      refine HeadI.take (i := 5) (v := ?_) rfl (by kernel_rfl) (fun _ _ _ h => h) (Or.inl ⟨by rfl, ?_⟩) (by assumption) ?_
      rotate_left
      · intro w hSw
        go_split_ands
        go_simp
        try with_reducible rfl
      simp only [Act.put]
      refine HeadI.take (i := 6) (v := ?_) rfl (by kernel_rfl) (fun _ _ _ h => h) (Or.inl ⟨by rfl, ?_⟩) (by assumption) ?_
      rotate_left
      · intro w hSw
        go_split_ands
        go_simp
        try with_reducible rfl
      simp only [Act.put]
      refine HeadI.take (i := 7) (v := ?_) rfl (by kernel_rfl) (fun _ _ _ h => h) (Or.inl ⟨by rfl, ?_⟩) (by assumption) ?_
      rotate_left
      · intro w hSw
        go_split_ands
        go_simp
        try with_reducible rfl
      simp only [Act.put]
      refine HeadI.onlyW (i := 8) rfl (by rfl) (by kernel_rfl) (by omega) ?_
      go_simp
      have GG := Lib.hid ((GA.out.then GB.out).then G7.out)
      refine (ref36_SameInts p5 p7 k5 k7 l _ (HI5.out.grow GG.out) (HI7.out.grow GG.out)).mono ?_
      rintro e w8 ⟨rfl, g8⟩
      have G8 := Lib.hid g8
      refine ⟨⟨g8.keep hS3.1, g8.keep hS3.2.1, g8.keep hS3.2.2.1, g8.keep hS3.2.2.2⟩, ?_⟩
      have hS4 : (fun w' => w'.cell? ⟨w.heap.size, 0, none⟩ = some (.int .u8 s.out) ∧ w'.cell? ⟨w.heap.size, 1, none⟩ = some (.int .i64 s.failing) ∧ w'.cell? ⟨w.heap.size, 2, none⟩ = some (.int .i64 s.steps) ∧ w'.cell? ⟨w.heap.size, 3, none⟩ = some (.slice s.rsP s.rs.length s.rsC)) w8 := ⟨g8.keep hS3.1, g8.keep hS3.2.1, g8.keep hS3.2.2.1, g8.keep hS3.2.2.2⟩
      clear g8 hS3
      refine HeadI.take (i := 9) (v := ?_) rfl (by kernel_rfl) (fun _ _ _ h => h) (Or.inl ⟨by rfl, ?_⟩) (by assumption) ?_
      rotate_left
      · intro w hSw
        go_split_ands
        go_simp
        try with_reducible rfl
      simp only [Act.put]
      refine HeadI.take (i := 10) (v := ?_) rfl (by kernel_rfl) (fun _ _ _ h => h) (Or.inl ⟨by rfl, ?_⟩) (by assumption) ?_
      rotate_left
      · intro w hSw
        go_split_ands
        go_simp
        try with_reducible rfl
      simp only [Act.put]
      refine HeadI.take (i := 11) (v := ?_) rfl (by kernel_rfl) (fun _ _ _ h => h) (Or.inl ⟨by rfl, ?_⟩) (by assumption) ?_
      rotate_left
      · intro w hSw
        go_split_ands
        go_simp
        try with_reducible rfl
      simp only [Act.put]
      refine HeadI.take (i := 12) (v := ?_) rfl (by kernel_rfl) (fun _ _ _ h => h) (Or.inl ⟨by rfl, ?_⟩) (by assumption) ?_
      rotate_left
      · intro w hSw
        go_split_ands
        go_simp
        try with_reducible rfl
      simp only [Act.put]
      refine HeadI.take (i := 13) (v := ?_) rfl (by kernel_rfl) (fun _ _ _ h => h) (Or.inl ⟨by rfl, ?_⟩) (by assumption) ?_
      rotate_left
      · intro w hSw
        go_split_ands
        go_simp
        try with_reducible rfl
      simp only [Act.put]
      refine HeadI.take (i := 14) (v := ?_) rfl (by kernel_rfl) (fun _ _ _ h => h) (Or.inl ⟨by rfl, ?_⟩) (by assumption) ?_
      rotate_left
      · intro w hSw
        go_split_ands
        go_simp
        try with_reducible rfl
      simp only [Act.put]
      refine HeadI.seq (by kernel_rfl) ?_
      simp only [List.drop_succ_cons, List.drop_zero]
      go_wp2_with fail
      go_ret
      exact ⟨rfl, (HG4.out.then GG.out).then G8.out⟩
    · go_wp2_with fail
      go_ret
      exact ⟨rfl, G2.out⟩
  · go_wp2_with fail
    go_ret
    exact ⟨rfl, G1.out⟩
end Go.Proofs.Ytflbiiflbehleaa
