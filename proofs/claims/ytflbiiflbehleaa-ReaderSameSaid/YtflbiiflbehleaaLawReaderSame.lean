/- wreckagelaw34.ReaderSame returns true for every input, and leaves its arguments as they were. No condition. -/
import Derived.Test.YtflbiiflbehleaaHeavy2
import Derived.Test.YtflbiiflbehleaaSame2
import Derived.Test.YtflbiiflbehleaaRefSame3
import Derived.Test.YtflbiiflbehleaaLater
namespace Go.Proofs.Ytflbiiflbehleaa
open Go.RowKit
theorem allSame_refl {α : Type} {f : α → α → Bool} {l : List α} (h : ∀ x, x ∈ l → f x x = true) : allSame f l l = true := by
  induction l with
  | nil => rfl
  | cons x r ih => simp only [allSame, Bool.and_eq_true]; exact ⟨h x (List.mem_cons_self ..), ih fun y hy => h y (List.mem_cons_of_mem _ hy)⟩
theorem allSame_symm {α : Type} {f : α → α → Bool} {l m : List α} (h : ∀ x y, x ∈ l → f x y = f y x) : allSame f l m = allSame f m l := by
  induction l generalizing m with
  | nil => cases m <;> rfl
  | cons x r ih => cases m with
    | nil => rfl
    | cons y s => simp only [allSame]; rw [h x y (List.mem_cons_self ..), ih fun z u hz => h z u (List.mem_cons_of_mem _ hz)]
theorem beq_comm' {α : Type} [BEq α] [LawfulBEq α] (a b : α) : (a == b) = (b == a) := BEq.comm
theorem V.same_refl : ∀ (N : Nat) (a : V), a.size ≤ N → V.same a a = true
  | 0, a, h => by have := a.size_pos; omega
  | N + 1, a, h => by
    rw [V.same_eq]
    simp only [beq_self_eq_true, Bool.true_and]
    exact allSame_refl fun x hx => V.same_refl N x (by have := V.size_lt hx; omega)
theorem V.same_symm : ∀ (N : Nat) (a b : V), a.size ≤ N → V.same a b = V.same b a
  | 0, a, _, h => by have := a.size_pos; omega
  | N + 1, a, b, h => by
    rw [V.same_eq a b, V.same_eq b a, allSame_symm fun x y hx => V.same_symm N x y (by have := V.size_lt hx; omega), beq_comm' a.k, beq_comm' a.n, beq_comm' a.t.toList, beq_comm' a.c]
theorem V.refl (a : V) : V.same a a = true := V.same_refl a.size a (Nat.le_refl _)
theorem V.symm (a b : V) : V.same a b = V.same b a := V.same_symm a.size a b (Nat.le_refl _)
theorem Loc.refl (a : Loc) : Loc.same a a = true := by simp [Loc.same, V.refl]
theorem Loc.symm (a b : Loc) : Loc.same a b = Loc.same b a := by simp only [Loc.same]; rw [V.symm, beq_comm' a.slot]
theorem Fr.refl (a : Fr) : Fr.same a a = true := by simp [Fr.same, allSame_refl fun x _ => Loc.refl x]
theorem Fr.symm (a b : Fr) : Fr.same a b = Fr.same b a := by simp only [Fr.same]; rw [allSame_symm fun x y _ => Loc.symm x y, beq_comm' a.fn, beq_comm' a.ip, beq_comm' a.mode]
theorem Df.refl (a : Df) : Df.same a a = true := by simp [Df.same, V.refl]
theorem Df.symm (a b : Df) : Df.same a b = Df.same b a := by simp only [Df.same]; rw [V.symm, beq_comm' a.frame, beq_comm' a.fn, beq_comm' a.has]
theorem Pn.refl (a : Pn) : Pn.same a a = true := by simp [Pn.same, V.refl]
theorem Pn.symm (a b : Pn) : Pn.same a b = Pn.same b a := by simp only [Pn.same]; rw [V.symm, beq_comm' a.tag, beq_comm' a.flags]
theorem Ro.refl (a : Ro) : Ro.same a a = true := by simp [Ro.same, allSame_refl fun x _ => Fr.refl x, allSame_refl fun x _ => Df.refl x, allSame_refl fun x _ => Pn.refl x]
theorem Ro.symm (a b : Ro) : Ro.same a b = Ro.same b a := by
  simp only [Ro.same]; rw [allSame_symm fun x y _ => Fr.symm x y, allSame_symm fun x y _ => Df.symm x y, allSame_symm fun x y _ => Pn.symm x y, beq_comm' a.status, beq_comm' a.key]
theorem St.refl (a : St) : St.same a a = true := by simp [St.same, allSame_refl fun x _ => Ro.refl x]
theorem St.symm (a b : St) : St.same a b = St.same b a := by
  simp only [St.same]; rw [allSame_symm fun x y _ => Ro.symm x y, beq_comm' a.out, beq_comm' a.failing, beq_comm' a.steps]
theorem reader_Same_refl (a : St) (w : World) (ha : a.In w) :
    Calls Try.prog 8 #[a.agg, a.agg] w fun e w' => e = .returned (.bool true) ∧ Grow w w' := by
  have := reader_Same a a w ha ha
  rwa [St.refl] at this
theorem reader_Same_symm (a b : St) (w : World) (ha : a.In w) (hb : b.In w) :
    Calls Try.prog 8 #[b.agg, a.agg] w fun e w' => e = .returned (.bool (St.same a b)) ∧ Grow w w' := by
  have := reader_Same b a w hb ha
  rwa [St.symm] at this
set_option maxRecDepth 100000 in
set_option maxHeartbeats 1000000 in
theorem readerSame_walk (s t : St) (w : World) (hs : s.In w) (ht : t.In w) :
    Calls Try.prog 3 #[s.agg, t.agg] w fun e w' => e = .returned (.bool true) ∧ Grow w w' := by
  have HS := Lib.hid hs
  have HT := Lib.hid ht
  clear hs ht
  have g0 : Grow w ((w.alloc (.cells #[.int .u8 s.out, .int .i64 s.failing, .int .i64 s.steps, .slice s.rsP s.rs.length s.rsC] 24)).alloc (.cells #[.int .u8 t.out, .int .i64 t.failing, .int .i64 t.steps, .slice t.rsP t.rs.length t.rsC] 24)) := ((Below.refl _ _).alloc' _).alloc' _
  have G0 := Lib.hid g0
  clear g0
  go_enter Try.func3, Try.ntmps3
  go_wp2_with fail
  refine (ref34_Heavy s _ (HS.out.grow G0.out)).mono ?_
  rintro e w1 ⟨r, rfl, hg1⟩
  have s0 := hg1.keep (p := ⟨w.heap.size, 0, none⟩) (v := .int .u8 s.out) (by go_simp)
  have s1 := hg1.keep (p := ⟨w.heap.size, 1, none⟩) (v := .int .i64 s.failing) (by go_simp)
  have s2 := hg1.keep (p := ⟨w.heap.size, 2, none⟩) (v := .int .i64 s.steps) (by go_simp)
  have s3 := hg1.keep (p := ⟨w.heap.size, 3, none⟩) (v := .slice s.rsP s.rs.length s.rsC) (by go_simp)
  have t0 := hg1.keep (p := ⟨w.heap.size + 1, 0, none⟩) (v := .int .u8 t.out) (by go_simp)
  have t1 := hg1.keep (p := ⟨w.heap.size + 1, 1, none⟩) (v := .int .i64 t.failing) (by go_simp)
  have t2 := hg1.keep (p := ⟨w.heap.size + 1, 2, none⟩) (v := .int .i64 t.steps) (by go_simp)
  have t3 := hg1.keep (p := ⟨w.heap.size + 1, 3, none⟩) (v := .slice t.rsP t.rs.length t.rsC) (by go_simp)
  have G1 := Lib.hid (G0.out.then hg1)
  clear G0 hg1
  cases r
  · go_wp2_with fail
    refine (ref34_Heavy t _ (HT.out.grow G1.out)).mono ?_
    rintro e w2 ⟨r, rfl, hg2⟩
    replace s0 := hg2.keep s0
    replace s1 := hg2.keep s1
    replace s2 := hg2.keep s2
    replace s3 := hg2.keep s3
    replace t0 := hg2.keep t0
    replace t1 := hg2.keep t1
    replace t2 := hg2.keep t2
    replace t3 := hg2.keep t3
    have G2 := Lib.hid (G1.out.then hg2)
    clear G1 hg2
    cases r
    · go_wp2_with fail
      have S0 : ∀ d : Later w2, d.w'.cell? ⟨w.heap.size, 0, none⟩ = some (.int .u8 s.out) := fun d => d.h.keep s0
      have S1 : ∀ d : Later w2, d.w'.cell? ⟨w.heap.size, 1, none⟩ = some (.int .i64 s.failing) := fun d => d.h.keep s1
      have S2 : ∀ d : Later w2, d.w'.cell? ⟨w.heap.size, 2, none⟩ = some (.int .i64 s.steps) := fun d => d.h.keep s2
      have S3 : ∀ d : Later w2, d.w'.cell? ⟨w.heap.size, 3, none⟩ = some (.slice s.rsP s.rs.length s.rsC) := fun d => d.h.keep s3
      have T0 : ∀ d : Later w2, d.w'.cell? ⟨w.heap.size + 1, 0, none⟩ = some (.int .u8 t.out) := fun d => d.h.keep t0
      have T1 : ∀ d : Later w2, d.w'.cell? ⟨w.heap.size + 1, 1, none⟩ = some (.int .i64 t.failing) := fun d => d.h.keep t1
      have T2 : ∀ d : Later w2, d.w'.cell? ⟨w.heap.size + 1, 2, none⟩ = some (.int .i64 t.steps) := fun d => d.h.keep t2
      have T3 : ∀ d : Later w2, d.w'.cell? ⟨w.heap.size + 1, 3, none⟩ = some (.slice t.rsP t.rs.length t.rsC) := fun d => d.h.keep t3
      refine wp_region_later (by kernel_rfl) (by kernel_rfl) ?_
      repeat (go_big_quiet_step (first
        | (go_at_call 9; exact Calls.later (ref34_Same s t _ (HS.out.grow (G2.out.then (Later.h _))) (HT.out.grow (G2.out.then (Later.h _)))))
        | (go_at_call 8; with_reducible exact Calls.later (reader_Same s t _ (HS.out.grow (G2.out.then (Later.h _))) (HT.out.grow (G2.out.then (Later.h _)))))
        | (go_at_call 8; with_reducible exact Calls.later (reader_Same_refl s _ (HS.out.grow (G2.out.then (Later.h _)))))
        | (go_at_call 8; with_reducible exact Calls.later (reader_Same_symm s t _ (HS.out.grow (G2.out.then (Later.h _))) (HT.out.grow (G2.out.then (Later.h _)))))))
      refine wpQuiet_nil ?_
      rintro _ ⟨d, rfl⟩
      go_wp2_with fail
      go_ret
      exact ⟨rfl, G2.out.then d.h⟩
    · go_wp2_with fail
      go_ret
      exact ⟨rfl, G2.out⟩
  · go_wp2_with fail
    go_ret
    exact ⟨rfl, G1.out⟩
end Go.Proofs.Ytflbiiflbehleaa
