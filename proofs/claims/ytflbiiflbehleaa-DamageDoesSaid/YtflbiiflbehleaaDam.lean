import Derived.Test.YtflbiiflbehleaaDamRef3
namespace Go.Proofs.Ytflbiiflbehleaa
open Go.RowKit
/-- What 'changed' comes to, where its closure comes to R. -/
def Done (R : Value → World → Prop) (e : Ending) (w' : World) : Prop := ∃ v, e = .returned (.tuple #[v, .int .i64 0]) ∧ R v w'
/-- A closure's own ending. -/
def Ends (R : Value → World → Prop) (e : Ending) (w' : World) : Prop := ∃ v, e = .returned v ∧ R v w'
theorem Row.full {w : World} {base g : Nat} {t : TypeId} {l : List Int} (ht : t = 5) (hb : base ≤ g) (h : w.heap[g]? = some (.cells (bcs l).toArray t (0, 0))) (hm : l.length ≤ 9223372036854775807) : Row w base (.slice (some ⟨g, 0, none⟩) l.length l.length) l := by
  subst ht
  refine ⟨by rw [bcs_length]; omega, .inr ⟨g, l.length, (bcs l).toArray, rfl, hb, h, Nat.le_refl _, hm, by simp [bcs_length], ?_⟩⟩
  rw [List.take_of_length_le (by simp [bcs_length])]
set_option maxRecDepth 100000 in
set_option maxHeartbeats 1000000 in
theorem damage_changed (p : Option Addr) (cap : Nat) (l : List Int) (F : FuncId) (caps : Array Value) (R : Value → World → Prop) (w : World) (hl : Byt w p cap l) (h1 : l.length ≤ 200000)
    (hc : ∀ (xs : Array Value) (w : World), (callFunc F xs).run Try.prog w = .ok (.enter F xs) w)
    (hF : ∀ (g : Nat) (w1 : World), w.heap.size ≤ g → Grow w w1 → Row w1 w.heap.size (.slice (some ⟨g, 0, none⟩) l.length l.length) l → Calls Try.prog F (#[.slice (some ⟨g, 0, none⟩) l.length l.length] ++ caps) w1 (Ends R)) :
    Calls Try.prog 44 #[.slice p l.length cap, .bool true, .func (.func F) #[] caps] w (Done R) := by
  obtain ⟨i0, hi, hz0, hz1, hz2⟩ := info_parts Try.iu8
  have b1 := hl.le
  have HL := Lib.hid hl
  have HF := Lib.hid hF
  have hsz : (Try.prog.info? 5).map (fun x => x.size) = some 1 := by rw [hi]; simp [hz1]
  clear hl hF
  go_enter Try.func44, Try.ntmps44
  go_wp2_with (at_make; refine wpList_make_full _ rfl _ _ 27 rfl w.heap.size 5 i0 (.int .u8 0) 1 Try.usl hi hz0 hz1 _ _ _ _ l.length rfl rfl rfl rfl ?c1 ?c2 ?c3 ?_)
  case c1 => rw [hz2]; omega
  case c2 => unfold maxLen; omega
  case c3 => exact Nat.le_refl _
  intro w1 hown hgrow
  have G1 : Grow w w1 := (Below.refl w.heap.size w).grown hgrow (Nat.le_refl _) (fun k hk => by cases hk)
  obtain ⟨cur, hcur, hcs⟩ : ∃ cur : List Value, w1.heap[w.heap.size]? = some (.cells cur.toArray 5 (0, 0)) ∧ cur.length = l.length := by
    rcases hown.2 with ⟨h, _⟩ | ⟨g, c, cur, hv, _, hh, _, _, hs, _⟩
    · cases h
    · simp only [Value.slice.injEq, Option.some.injEq, Addr.mk.injEq, and_true, true_and] at hv
      obtain ⟨rfl, rfl⟩ := hv
      exact ⟨cur.toList, by simpa using hh, by simp [hs]⟩
  have HCU := Lib.hid hcur
  have HCS := Lib.hid hcs
  have HLB := Lib.hid (HL.out.grow G1)
  have GG := Lib.hid G1
  clear hown hgrow hcur hcs G1
  go_wp2_with (with_reducible refine wpList_copy_splice rfl _ _ _ _ rfl 5 Try.usl hsz (some ⟨w.heap.size, 0, none⟩) p l.length l.length l.length cap rfl rfl w.heap.size 0 cur 5 HCU.out (bcs l) ?c1 ?c2 ?c3 (bcs_one _) w.heap.size w GG.out (Nat.le_refl _) ?_)
  case c1 => rw [bcs_length]; simp
  case c2 =>
    intro h0
    rcases HLB.out with ⟨_, _, e⟩ | ⟨a, ha, _, _, hcell⟩
    · rw [e] at h0; simp [bcs] at h0
    · first
        | exact ⟨a, ha, hcell⟩
        | exact ⟨rfl, a, ha, hcell⟩
  case c3 => rw [bcs_length, HCS.out]; omega
  intro w2 hw2 hb2
  have e2 : splice cur 0 (bcs l) = bcs l := by
    simp [splice, bcs_length, HCS.out]
  have hrow : Row w2 w.heap.size (.slice (some ⟨w.heap.size, 0, none⟩) l.length l.length) l := by
    refine Row.full rfl (Nat.le_refl _) ?_ (by omega)
    have := hw2.out
    rwa [e2] at this
  have HROW := Lib.hid hrow
  clear hrow e2 hw2
  go_wp2_with fail
  refine (HF.out w.heap.size _ (Nat.le_refl _) hb2 HROW.out).mono ?_
  rintro e w3 ⟨v, rfl, hR⟩
  have HR := Lib.hid hR
  clear hR
  go_wp2_with fail
  go_ret2
  exact ⟨v, rfl, HR.out⟩
end Go.Proofs.Ytflbiiflbehleaa
