import Derived.Test.YtflbiiflbehleaaAbsSame
import Derived.Test.YtflbiiflbehleaaRefSame3
import Derived.Test.YtflbiiflbehleaaInts
import Derived.Test.YtflbiiflbehleaaTail
import Derived.Test.YtflbiiflbehleaaDamRef
namespace Go.Proofs.Ytflbiiflbehleaa
open Go.RowKit
/-- Does number k differ? -/
def differs (a b : St) (k : Nat) : Bool := decide (a.rs.length ≤ k) || decide (b.rs.length ≤ k) || !(match a.rs[k]?, b.rs[k]? with | some x, some y => Ro.same x y | _, _ => true)
/-- Those of the first k that differ. -/
def chTo (a b : St) : Nat → List Int
  | 0 => []
  | k + 1 => if differs a b k then chTo a b k ++ [(k : Int)] else chTo a b k
theorem chTo_length (a b : St) (k : Nat) : (chTo a b k).length ≤ k := by
  induction k with
  | zero => simp [chTo]
  | succ k ih =>
    rw [chTo]; split
    · rw [List.length_append]; simp; omega
    · omega
/-- Changed, plainly. -/
def changedS (a b : St) : List Int × Int := if 16 < a.rs.length ∨ 16 < b.rs.length then ([], 4) else (chTo a b (max a.rs.length b.rs.length), 0)
theorem one_its (w : World) (m : Int) : Its (w.alloc (.cells #[.int .i64 m] 3)) (some ⟨w.heap.size, 0, none⟩) 1 [m] := by
  refine .inr ⟨_, rfl, by simp, by omega, fun j u hj => ?_⟩
  have e : j = 0 := by
    have := (List.getElem?_eq_some_iff.1 hj).1
    simp [ics] at this
    exact this
  subst e
  simp [ics] at hj
  subst hj
  have h0 : (w.alloc (.cells #[.int .i64 m] 3)).heap[w.heap.size]? = some (.cells #[.int .i64 m] 3 (0, 0)) := by show (w.heap.push _)[w.heap.size]? = _; simp
  simp only [Addr.add, if_true, World.cell?, h0]
  rfl
theorem chTo_step (a b : St) (k : Nat) (h : differs a b k = true) : chTo a b (k + 1) = chTo a b k ++ [(k : Int)] := by simp [chTo, h]
theorem chTo_skip (a b : St) (k : Nat) (h : differs a b k = false) : chTo a b (k + 1) = chTo a b k := by simp [chTo, h]
theorem IRow.lt {w : World} {base : Nat} {v : Value} {l : List Int} (h : IRow w base v l) (k : Nat) (hk : v.ownBlock = some k) : base ≤ k ∧ k < w.heap.size := by
  rcases h.2 with ⟨rfl, _⟩ | ⟨g, cap, cur, rfl, hg, hh, _⟩
  · cases hk
  · cases hk; exact ⟨hg, (Array.getElem?_eq_some_iff.1 hh).1⟩
set_option maxRecDepth 100000 in
set_option maxHeartbeats 4000000 in
theorem abs_Changed (a b : St) (w : World) (ha : a.In w) (hb : b.In w) :
    Calls Try.prog 22 #[a.agg, b.agg] w (GivesI (changedS a b).1 (changedS a b).2 w) := by
  have HA := Lib.hid ha
  have HB := Lib.hid hb
  have b1 := ha.rs.1.bound
  have b2 := hb.rs.1.bound
  clear ha hb
  have G0 := Lib.hid (show Grow w ((w.alloc (.cells #[.int .u8 a.out, .int .i64 a.failing, .int .i64 a.steps, .slice a.rsP a.rs.length a.rsC] 24)).alloc (.cells #[.int .u8 b.out, .int .i64 b.failing, .int .i64 b.steps, .slice b.rsP b.rs.length b.rsC] 24)) from ((Below.refl _ _).alloc' _).alloc' _)
  have S1 : ∀ d : Later ((w.alloc (.cells #[.int .u8 a.out, .int .i64 a.failing, .int .i64 a.steps, .slice a.rsP a.rs.length a.rsC] 24)).alloc (.cells #[.int .u8 b.out, .int .i64 b.failing, .int .i64 b.steps, .slice b.rsP b.rs.length b.rsC] 24)), d.w'.cell? ⟨w.heap.size, 3, none⟩ = some (.slice a.rsP a.rs.length a.rsC) := fun d => d.h.keep (by go_simp)
  have S2 : ∀ d : Later ((w.alloc (.cells #[.int .u8 a.out, .int .i64 a.failing, .int .i64 a.steps, .slice a.rsP a.rs.length a.rsC] 24)).alloc (.cells #[.int .u8 b.out, .int .i64 b.failing, .int .i64 b.steps, .slice b.rsP b.rs.length b.rsC] 24)), d.w'.cell? ⟨w.heap.size + 1, 3, none⟩ = some (.slice b.rsP b.rs.length b.rsC) := fun d => d.h.keep (by go_simp)
  obtain ⟨M, hM⟩ : ∃ M, M = max a.rs.length b.rs.length := ⟨_, rfl⟩
  have HM := Lib.hid hM
  have hM' : M = if a.rs.length < b.rs.length then b.rs.length else a.rs.length := by rw [hM]; split <;> omega
  go_enter Try.func22, Try.ntmps22
  go_wp2_with fail
  refine wp_region_later (by kernel_rfl) (by kernel_rfl) ?_
  repeat (go_big_quiet_step (fail))
  refine wpQuiet_nil ?_
  rintro _ ⟨d, rfl⟩
  have c1 := S1 d
  have c2 := S2 d
  have G1 := Lib.hid (G0.out.then d.h)
  clear S1 S2 G0
  obtain ⟨W1, hW1⟩ : ∃ W1, W1 = d.w' := ⟨_, rfl⟩
  rw [← hW1] at c1 c2 G1
  rw [← hW1]
  clear hW1 d
  by_cases hbig : 16 < a.rs.length ∨ 16 < b.rs.length
  · have hc : changedS a b = ([], 4) := by simp [changedS, hbig]
    rw [hc]
    have HH := Lib.hid hc
    clear hc HM hM hM'
    rcases hbig with hbig | hbig
    · by_cases hl : a.rs.length < b.rs.length
      · go_wp2_with fail
        go_ret2
        rw [HH.out]; exact .nil G1.out
      · go_wp2_with fail
        go_ret2
        rw [HH.out]; exact .nil G1.out
    · by_cases hl : a.rs.length < b.rs.length
      · by_cases hl2 : 16 < a.rs.length
        · go_wp2_with fail
          go_ret2
          rw [HH.out]; exact .nil G1.out
        · go_wp2_with fail
          go_ret2
          rw [HH.out]; exact .nil G1.out
      · have hl2 : 16 < a.rs.length := by omega
        go_wp2_with fail
        go_ret2
        rw [HH.out]; exact .nil G1.out
  have hc : changedS a b = (chTo a b M, 0) := by simp [changedS, hbig, hM]
  have HCC := Lib.hid hc
  obtain ⟨hs1, hs2⟩ : a.rs.length ≤ 16 ∧ b.rs.length ≤ 16 := by omega
  have hM16 : M ≤ 16 := by omega
  clear hc hbig hM
  have C1 := Lib.hid c1
  have C2 := Lib.hid c2
  clear c1 c2
  rcases Nat.lt_or_ge a.rs.length b.rs.length with hl | hl
  · have hMb : M = b.rs.length := by rw [hM', if_pos hl]
    clear hM' HM
    subst hMb
    go_wp2_with fail
    go_loopw [8, 23] (fun o i wr => ∃ k : Nat, k ≤ b.rs.length ∧ i = .int .i64 k ∧ Grow W1 wr ∧ IRow wr W1.heap.size o (chTo a b k)) (fun _ i _ => b.rs.length - (intOf i).toNat)
    case atStart => exact ⟨0, Nat.zero_le _, rfl, Below.refl _ _, World.ownsRow_nil _ _ _ _⟩
    case round =>
      obtain ⟨k, hk, rfl, hbl, hrow⟩ := hrel
      have HR := Lib.hid hrow
      have hsz := hbl.size
      have hlen := chTo_length a b k
      have RL := Lib.hid (fun m hm => (hrow.lt m hm).1)
      clear hrow
      by_cases hlt : k < b.rs.length
      · have c1 : ∀ d : Later wr, d.w'.cell? ⟨w.heap.size, 3, none⟩ = some (.slice a.rsP a.rs.length a.rsC) := fun d => d.h.keep (hbl.keep C1.out)
        have c2 : ∀ d : Later wr, d.w'.cell? ⟨w.heap.size + 1, 3, none⟩ = some (.slice b.rsP b.rs.length b.rsC) := fun d => d.h.keep (hbl.keep C2.out)
        by_cases hot : a.rs.length ≤ k
        · have HD := Lib.hid (show differs a b k = true by simp [differs, hot])
          have tt : decide (a.rs.length ≤ k) = true := by simp; omega
          have tf : decide (b.rs.length ≤ k) = false := by simp; omega
          go_wp2_with fail
          refine wp_region_later (by kernel_rfl) (by kernel_rfl) ?_
          repeat (go_big_quiet_step (fail))
          refine wpQuiet_nil ?_
          rintro _ ⟨d, rfl⟩
          have GD := Lib.hid (hbl.then d.h)
          have HRD := Lib.hid (HR.out.grow d.h)
          have hdz := (hbl.then d.h).size
          obtain ⟨W2, hW2⟩ : ∃ W2, W2 = d.w' := ⟨_, rfl⟩
          rw [← hW2] at GD HRD hdz
          rw [← hW2]
          clear hW2 c1 c2 d
          go_wp2_with (at_builtin; refine append_its _ rfl _ _ rfl W1.heap.size _ (chTo a b k) rfl (some ⟨W2.heap.size, 0, none⟩) 1 [(k : Int)] _ rfl rfl (HRD.out.grow ((Below.refl _ _).alloc' _)) (one_its _ _) ?c1 ?c2 ?_)
          case c1 => simp; omega
          case c2 => exact (GD.out.alloc' _).size
          intro v2 w2 hown hgrow
          have GG := Lib.hid ((GD.out.alloc' _).grown hgrow (GD.out.alloc' _).size (fun m hm => RL.out m hm))
          have HO := Lib.hid hown
          clear hown hgrow
          go_wp2_with fail
          exact ⟨⟨k + 1, by omega, by go_num, GG.out, by rw [chTo_step a b k HD.out]; exact HO.out⟩, by simp [intOf]; omega⟩
        · have ia : k < a.rs.length := by omega
          have ib : k < b.rs.length := by omega
          have ta : decide (a.rs.length ≤ k) = false := by simp; omega
          have tb : decide (b.rs.length ≤ k) = false := by simp; omega
          obtain ⟨xa, hxa⟩ : ∃ x, a.rs[k]? = some x := ⟨_, List.getElem?_eq_getElem ia⟩
          obtain ⟨xb, hxb⟩ : ∃ x, b.rs[k]? = some x := ⟨_, List.getElem?_eq_getElem ib⟩
          have hdif : differs a b k = !(Ro.same xa xb) := by simp [differs, hxa, hxb, Nat.not_le.2 ia, Nat.not_le.2 ib]
          obtain ⟨ba, oa, hpa, hba, hea⟩ := HA.out.rs.1.elem hxa
          obtain ⟨bb, ob, hpb, hbb, heb⟩ := HB.out.rs.1.elem hxb
          rw [hpa] at c1
          rw [hpb] at c2
          have A0 := fun d : Later wr => (((hea.grow G1.out).grow hbl).grow d.h).ro.1
          have B0 := fun d : Later wr => (((heb.grow G1.out).grow hbl).grow d.h).ro.1
          have A1 := fun d : Later wr => (((hea.grow G1.out).grow hbl).grow d.h).ro.2.1
          have B1 := fun d : Later wr => (((heb.grow G1.out).grow hbl).grow d.h).ro.2.1
          have A2 := fun d : Later wr => (((hea.grow G1.out).grow hbl).grow d.h).ro.2.2.1
          have B2 := fun d : Later wr => (((heb.grow G1.out).grow hbl).grow d.h).ro.2.2.1
          have A3 := fun d : Later wr => (((hea.grow G1.out).grow hbl).grow d.h).ro.2.2.2.1
          have B3 := fun d : Later wr => (((heb.grow G1.out).grow hbl).grow d.h).ro.2.2.2.1
          have A4 := fun d : Later wr => (((hea.grow G1.out).grow hbl).grow d.h).ro.2.2.2.2
          have B4 := fun d : Later wr => (((heb.grow G1.out).grow hbl).grow d.h).ro.2.2.2.2
          have Hxa := Lib.hid (HA.out.rs.2 xa (getElem?_mem' hxa))
          have Hxb := Lib.hid (HB.out.rs.2 xb (getElem?_mem' hxb))
          clear hea heb hxa hxb hpa hpb
          have HC := Lib.hid (show ∀ d : Later wr, Calls Try.prog 50 #[xa.agg, xb.agg] d.w' fun e w' => e = .returned (.bool (Ro.same xa xb)) ∧ Grow d.w' w' from fun d =>
            abs_same xa xb _ (Hxa.out.grow ((G1.out.then hbl).then d.h)) (Hxb.out.grow ((G1.out.then hbl).then d.h)))
          obtain ⟨r, hr⟩ : ∃ r, Ro.same xa xb = r := ⟨_, rfl⟩
          rw [hr] at HC hdif
          have HD := Lib.hid hdif
          clear hr hdif
          cases r
          · go_wp2_with fail
            refine wp_region_later (by kernel_rfl) (by kernel_rfl) ?_
            repeat (go_big_quiet_step ((go_at_call 50; exact Calls.later (HC.out _))))
            refine wpQuiet_nil ?_
            rintro _ ⟨d, rfl⟩
            have GD := Lib.hid (hbl.then d.h)
            have HRD := Lib.hid (HR.out.grow d.h)
            have hdz := (hbl.then d.h).size
            obtain ⟨W2, hW2⟩ : ∃ W2, W2 = d.w' := ⟨_, rfl⟩
            rw [← hW2] at GD HRD hdz
            rw [← hW2]
            clear hW2 c1 c2 d
            go_wp2_with (at_builtin; refine append_its _ rfl _ _ rfl W1.heap.size _ (chTo a b k) rfl (some ⟨W2.heap.size, 0, none⟩) 1 [(k : Int)] _ rfl rfl (HRD.out.grow ((Below.refl _ _).alloc' _)) (one_its _ _) ?c1 ?c2 ?_)
            case c1 => simp; omega
            case c2 => exact (GD.out.alloc' _).size
            intro v2 w2 hown hgrow
            have GG := Lib.hid ((GD.out.alloc' _).grown hgrow (GD.out.alloc' _).size (fun m hm => RL.out m hm))
            have HO := Lib.hid hown
            clear hown hgrow
            go_wp2_with fail
            exact ⟨⟨k + 1, by omega, by go_num, GG.out, by rw [chTo_step a b k HD.out]; exact HO.out⟩, by simp [intOf]; omega⟩
          · go_wp2_with fail
            refine wp_region_later (by kernel_rfl) (by kernel_rfl) ?_
            repeat (go_big_quiet_step ((go_at_call 50; exact Calls.later (HC.out _))))
            refine wpQuiet_nil ?_
            rintro _ ⟨d, rfl⟩
            have GD := Lib.hid (hbl.then d.h)
            have HRD := Lib.hid (HR.out.grow d.h)
            obtain ⟨W2, hW2⟩ : ∃ W2, W2 = d.w' := ⟨_, rfl⟩
            rw [← hW2] at GD HRD
            rw [← hW2]
            clear hW2 c1 c2 d
            go_wp2_with fail
            exact ⟨⟨k + 1, by omega, by go_num, GD.out, by rw [chTo_skip a b k HD.out]; exact HRD.out⟩, by simp [intOf]; omega⟩
      · obtain rfl : k = b.rs.length := by omega
        go_wp2_with fail
        go_ret2
        rw [HCC.out]
        exact ⟨_, rfl, HR.out.lower G1.out.size, G1.out.then hbl⟩
  · have hMb : M = a.rs.length := by rw [hM', if_neg (by omega)]
    clear hM' HM
    subst hMb
    go_wp2_with fail
    go_loopw [8, 23] (fun o i wr => ∃ k : Nat, k ≤ a.rs.length ∧ i = .int .i64 k ∧ Grow W1 wr ∧ IRow wr W1.heap.size o (chTo a b k)) (fun _ i _ => a.rs.length - (intOf i).toNat)
    case atStart => exact ⟨0, Nat.zero_le _, rfl, Below.refl _ _, World.ownsRow_nil _ _ _ _⟩
    case round =>
      obtain ⟨k, hk, rfl, hbl, hrow⟩ := hrel
      have HR := Lib.hid hrow
      have hsz := hbl.size
      have hlen := chTo_length a b k
      have RL := Lib.hid (fun m hm => (hrow.lt m hm).1)
      clear hrow
      by_cases hlt : k < a.rs.length
      · have c1 : ∀ d : Later wr, d.w'.cell? ⟨w.heap.size, 3, none⟩ = some (.slice a.rsP a.rs.length a.rsC) := fun d => d.h.keep (hbl.keep C1.out)
        have c2 : ∀ d : Later wr, d.w'.cell? ⟨w.heap.size + 1, 3, none⟩ = some (.slice b.rsP b.rs.length b.rsC) := fun d => d.h.keep (hbl.keep C2.out)
        by_cases hot : b.rs.length ≤ k
        · have HD := Lib.hid (show differs a b k = true by simp [differs, hot])
          have tt : decide (b.rs.length ≤ k) = true := by simp; omega
          have tf : decide (a.rs.length ≤ k) = false := by simp; omega
          go_wp2_with fail
          refine wp_region_later (by kernel_rfl) (by kernel_rfl) ?_
          repeat (go_big_quiet_step (fail))
          refine wpQuiet_nil ?_
          rintro _ ⟨d, rfl⟩
          have GD := Lib.hid (hbl.then d.h)
          have HRD := Lib.hid (HR.out.grow d.h)
          have hdz := (hbl.then d.h).size
          obtain ⟨W2, hW2⟩ : ∃ W2, W2 = d.w' := ⟨_, rfl⟩
          rw [← hW2] at GD HRD hdz
          rw [← hW2]
          clear hW2 c1 c2 d
          go_wp2_with (at_builtin; refine append_its _ rfl _ _ rfl W1.heap.size _ (chTo a b k) rfl (some ⟨W2.heap.size, 0, none⟩) 1 [(k : Int)] _ rfl rfl (HRD.out.grow ((Below.refl _ _).alloc' _)) (one_its _ _) ?c1 ?c2 ?_)
          case c1 => simp; omega
          case c2 => exact (GD.out.alloc' _).size
          intro v2 w2 hown hgrow
          have GG := Lib.hid ((GD.out.alloc' _).grown hgrow (GD.out.alloc' _).size (fun m hm => RL.out m hm))
          have HO := Lib.hid hown
          clear hown hgrow
          go_wp2_with fail
          exact ⟨⟨k + 1, by omega, by go_num, GG.out, by rw [chTo_step a b k HD.out]; exact HO.out⟩, by simp [intOf]; omega⟩
        · have ia : k < a.rs.length := by omega
          have ib : k < b.rs.length := by omega
          have ta : decide (a.rs.length ≤ k) = false := by simp; omega
          have tb : decide (b.rs.length ≤ k) = false := by simp; omega
          obtain ⟨xa, hxa⟩ : ∃ x, a.rs[k]? = some x := ⟨_, List.getElem?_eq_getElem ia⟩
          obtain ⟨xb, hxb⟩ : ∃ x, b.rs[k]? = some x := ⟨_, List.getElem?_eq_getElem ib⟩
          have hdif : differs a b k = !(Ro.same xa xb) := by simp [differs, hxa, hxb, Nat.not_le.2 ia, Nat.not_le.2 ib]
          obtain ⟨ba, oa, hpa, hba, hea⟩ := HA.out.rs.1.elem hxa
          obtain ⟨bb, ob, hpb, hbb, heb⟩ := HB.out.rs.1.elem hxb
          rw [hpa] at c1
          rw [hpb] at c2
          have A0 := fun d : Later wr => (((hea.grow G1.out).grow hbl).grow d.h).ro.1
          have B0 := fun d : Later wr => (((heb.grow G1.out).grow hbl).grow d.h).ro.1
          have A1 := fun d : Later wr => (((hea.grow G1.out).grow hbl).grow d.h).ro.2.1
          have B1 := fun d : Later wr => (((heb.grow G1.out).grow hbl).grow d.h).ro.2.1
          have A2 := fun d : Later wr => (((hea.grow G1.out).grow hbl).grow d.h).ro.2.2.1
          have B2 := fun d : Later wr => (((heb.grow G1.out).grow hbl).grow d.h).ro.2.2.1
          have A3 := fun d : Later wr => (((hea.grow G1.out).grow hbl).grow d.h).ro.2.2.2.1
          have B3 := fun d : Later wr => (((heb.grow G1.out).grow hbl).grow d.h).ro.2.2.2.1
          have A4 := fun d : Later wr => (((hea.grow G1.out).grow hbl).grow d.h).ro.2.2.2.2
          have B4 := fun d : Later wr => (((heb.grow G1.out).grow hbl).grow d.h).ro.2.2.2.2
          have Hxa := Lib.hid (HA.out.rs.2 xa (getElem?_mem' hxa))
          have Hxb := Lib.hid (HB.out.rs.2 xb (getElem?_mem' hxb))
          clear hea heb hxa hxb hpa hpb
          have HC := Lib.hid (show ∀ d : Later wr, Calls Try.prog 50 #[xa.agg, xb.agg] d.w' fun e w' => e = .returned (.bool (Ro.same xa xb)) ∧ Grow d.w' w' from fun d =>
            abs_same xa xb _ (Hxa.out.grow ((G1.out.then hbl).then d.h)) (Hxb.out.grow ((G1.out.then hbl).then d.h)))
          obtain ⟨r, hr⟩ : ∃ r, Ro.same xa xb = r := ⟨_, rfl⟩
          rw [hr] at HC hdif
          have HD := Lib.hid hdif
          clear hr hdif
          cases r
          · go_wp2_with fail
            refine wp_region_later (by kernel_rfl) (by kernel_rfl) ?_
            repeat (go_big_quiet_step ((go_at_call 50; exact Calls.later (HC.out _))))
            refine wpQuiet_nil ?_
            rintro _ ⟨d, rfl⟩
            have GD := Lib.hid (hbl.then d.h)
            have HRD := Lib.hid (HR.out.grow d.h)
            have hdz := (hbl.then d.h).size
            obtain ⟨W2, hW2⟩ : ∃ W2, W2 = d.w' := ⟨_, rfl⟩
            rw [← hW2] at GD HRD hdz
            rw [← hW2]
            clear hW2 c1 c2 d
            go_wp2_with (at_builtin; refine append_its _ rfl _ _ rfl W1.heap.size _ (chTo a b k) rfl (some ⟨W2.heap.size, 0, none⟩) 1 [(k : Int)] _ rfl rfl (HRD.out.grow ((Below.refl _ _).alloc' _)) (one_its _ _) ?c1 ?c2 ?_)
            case c1 => simp; omega
            case c2 => exact (GD.out.alloc' _).size
            intro v2 w2 hown hgrow
            have GG := Lib.hid ((GD.out.alloc' _).grown hgrow (GD.out.alloc' _).size (fun m hm => RL.out m hm))
            have HO := Lib.hid hown
            clear hown hgrow
            go_wp2_with fail
            exact ⟨⟨k + 1, by omega, by go_num, GG.out, by rw [chTo_step a b k HD.out]; exact HO.out⟩, by simp [intOf]; omega⟩
          · go_wp2_with fail
            refine wp_region_later (by kernel_rfl) (by kernel_rfl) ?_
            repeat (go_big_quiet_step ((go_at_call 50; exact Calls.later (HC.out _))))
            refine wpQuiet_nil ?_
            rintro _ ⟨d, rfl⟩
            have GD := Lib.hid (hbl.then d.h)
            have HRD := Lib.hid (HR.out.grow d.h)
            obtain ⟨W2, hW2⟩ : ∃ W2, W2 = d.w' := ⟨_, rfl⟩
            rw [← hW2] at GD HRD
            rw [← hW2]
            clear hW2 c1 c2 d
            go_wp2_with fail
            exact ⟨⟨k + 1, by omega, by go_num, GD.out, by rw [chTo_skip a b k HD.out]; exact HRD.out⟩, by simp [intOf]; omega⟩
      · obtain rfl : k = a.rs.length := by omega
        go_wp2_with fail
        go_ret2
        rw [HCC.out]
        exact ⟨_, rfl, HR.out.lower G1.out.size, G1.out.then hbl⟩
set_option maxRecDepth 100000 in
set_option maxHeartbeats 4000000 in
theorem ref36_Changed (a b : St) (w : World) (ha : a.In w) (hb : b.In w) :
    Calls Try.prog 23 #[a.agg, b.agg] w (GivesI (changedS a b).1 (changedS a b).2 w) := by
  have HA := Lib.hid ha
  have HB := Lib.hid hb
  have b1 := ha.rs.1.bound
  have b2 := hb.rs.1.bound
  clear ha hb
  have G0 := Lib.hid (show Grow w ((w.alloc (.cells #[.int .u8 a.out, .int .i64 a.failing, .int .i64 a.steps, .slice a.rsP a.rs.length a.rsC] 24)).alloc (.cells #[.int .u8 b.out, .int .i64 b.failing, .int .i64 b.steps, .slice b.rsP b.rs.length b.rsC] 24)) from ((Below.refl _ _).alloc' _).alloc' _)
  have S1 : ∀ d : Later ((w.alloc (.cells #[.int .u8 a.out, .int .i64 a.failing, .int .i64 a.steps, .slice a.rsP a.rs.length a.rsC] 24)).alloc (.cells #[.int .u8 b.out, .int .i64 b.failing, .int .i64 b.steps, .slice b.rsP b.rs.length b.rsC] 24)), d.w'.cell? ⟨w.heap.size, 3, none⟩ = some (.slice a.rsP a.rs.length a.rsC) := fun d => d.h.keep (by go_simp)
  have S2 : ∀ d : Later ((w.alloc (.cells #[.int .u8 a.out, .int .i64 a.failing, .int .i64 a.steps, .slice a.rsP a.rs.length a.rsC] 24)).alloc (.cells #[.int .u8 b.out, .int .i64 b.failing, .int .i64 b.steps, .slice b.rsP b.rs.length b.rsC] 24)), d.w'.cell? ⟨w.heap.size + 1, 3, none⟩ = some (.slice b.rsP b.rs.length b.rsC) := fun d => d.h.keep (by go_simp)
  obtain ⟨M, hM⟩ : ∃ M, M = max a.rs.length b.rs.length := ⟨_, rfl⟩
  have HM := Lib.hid hM
  have hM' : M = if a.rs.length < b.rs.length then b.rs.length else a.rs.length := by rw [hM]; split <;> omega
  go_enter Try.func23, Try.ntmps23
  go_wp2_with fail
  refine wp_region_later (by kernel_rfl) (by kernel_rfl) ?_
  repeat (go_big_quiet_step (fail))
  refine wpQuiet_nil ?_
  rintro _ ⟨d, rfl⟩
  have c1 := S1 d
  have c2 := S2 d
  have G1 := Lib.hid (G0.out.then d.h)
  clear S1 S2 G0
  obtain ⟨W1, hW1⟩ : ∃ W1, W1 = d.w' := ⟨_, rfl⟩
  rw [← hW1] at c1 c2 G1
  rw [← hW1]
  clear hW1 d
  by_cases hbig : 16 < a.rs.length ∨ 16 < b.rs.length
  · have hc : changedS a b = ([], 4) := by simp [changedS, hbig]
    rw [hc]
    have HH := Lib.hid hc
    clear hc HM hM hM'
    rcases hbig with hbig | hbig
    · by_cases hl : a.rs.length < b.rs.length
      · go_wp2_with fail
        go_ret2
        rw [HH.out]; exact .nil G1.out
      · go_wp2_with fail
        go_ret2
        rw [HH.out]; exact .nil G1.out
    · by_cases hl : a.rs.length < b.rs.length
      · by_cases hl2 : 16 < a.rs.length
        · go_wp2_with fail
          go_ret2
          rw [HH.out]; exact .nil G1.out
        · go_wp2_with fail
          go_ret2
          rw [HH.out]; exact .nil G1.out
      · have hl2 : 16 < a.rs.length := by omega
        go_wp2_with fail
        go_ret2
        rw [HH.out]; exact .nil G1.out
  have hc : changedS a b = (chTo a b M, 0) := by simp [changedS, hbig, hM]
  have HCC := Lib.hid hc
  obtain ⟨hs1, hs2⟩ : a.rs.length ≤ 16 ∧ b.rs.length ≤ 16 := by omega
  have hM16 : M ≤ 16 := by omega
  clear hc hbig hM
  have C1 := Lib.hid c1
  have C2 := Lib.hid c2
  clear c1 c2
  rcases Nat.lt_or_ge a.rs.length b.rs.length with hl | hl
  · have hMb : M = b.rs.length := by rw [hM', if_pos hl]
    clear hM' HM
    subst hMb
    go_wp2_with fail
    go_loopw [8, 9] (fun o i wr => ∃ k : Nat, k ≤ b.rs.length ∧ i = .int .i64 k ∧ Grow W1 wr ∧ IRow wr W1.heap.size o (chTo a b k)) (fun _ i _ => b.rs.length - (intOf i).toNat)
    case atStart => exact ⟨0, Nat.zero_le _, rfl, Below.refl _ _, World.ownsRow_nil _ _ _ _⟩
    case round =>
      obtain ⟨k, hk, rfl, hbl, hrow⟩ := hrel
      have HR := Lib.hid hrow
      have hsz := hbl.size
      have hlen := chTo_length a b k
      have RL := Lib.hid (fun m hm => (hrow.lt m hm).1)
      clear hrow
      by_cases hlt : k < b.rs.length
      · have c1 : ∀ d : Later wr, d.w'.cell? ⟨w.heap.size, 3, none⟩ = some (.slice a.rsP a.rs.length a.rsC) := fun d => d.h.keep (hbl.keep C1.out)
        have c2 : ∀ d : Later wr, d.w'.cell? ⟨w.heap.size + 1, 3, none⟩ = some (.slice b.rsP b.rs.length b.rsC) := fun d => d.h.keep (hbl.keep C2.out)
        by_cases hot : a.rs.length ≤ k
        · have HD := Lib.hid (show differs a b k = true by simp [differs, hot])
          have tt : decide (a.rs.length ≤ k) = true := by simp; omega
          have tf : decide (b.rs.length ≤ k) = false := by simp; omega
          go_wp2_with fail
          refine wp_region_later (by kernel_rfl) (by kernel_rfl) ?_
          repeat (go_big_quiet_step (fail))
          refine wpQuiet_nil ?_
          rintro _ ⟨d, rfl⟩
          have GD := Lib.hid (hbl.then d.h)
          have HRD := Lib.hid (HR.out.grow d.h)
          have hdz := (hbl.then d.h).size
          obtain ⟨W2, hW2⟩ : ∃ W2, W2 = d.w' := ⟨_, rfl⟩
          rw [← hW2] at GD HRD hdz
          rw [← hW2]
          clear hW2 c1 c2 d
          go_wp2_with (at_builtin; refine append_its _ rfl _ _ rfl W1.heap.size _ (chTo a b k) rfl (some ⟨W2.heap.size, 0, none⟩) 1 [(k : Int)] _ rfl rfl (HRD.out.grow ((Below.refl _ _).alloc' _)) (one_its _ _) ?c1 ?c2 ?_)
          case c1 => simp; omega
          case c2 => exact (GD.out.alloc' _).size
          intro v2 w2 hown hgrow
          have GG := Lib.hid ((GD.out.alloc' _).grown hgrow (GD.out.alloc' _).size (fun m hm => RL.out m hm))
          have HO := Lib.hid hown
          clear hown hgrow
          go_wp2_with fail
          exact ⟨⟨k + 1, by omega, by go_num, GG.out, by rw [chTo_step a b k HD.out]; exact HO.out⟩, by simp [intOf]; omega⟩
        · have ia : k < a.rs.length := by omega
          have ib : k < b.rs.length := by omega
          have ta : decide (a.rs.length ≤ k) = false := by simp; omega
          have tb : decide (b.rs.length ≤ k) = false := by simp; omega
          obtain ⟨xa, hxa⟩ : ∃ x, a.rs[k]? = some x := ⟨_, List.getElem?_eq_getElem ia⟩
          obtain ⟨xb, hxb⟩ : ∃ x, b.rs[k]? = some x := ⟨_, List.getElem?_eq_getElem ib⟩
          have hdif : differs a b k = !(Ro.same xa xb) := by simp [differs, hxa, hxb, Nat.not_le.2 ia, Nat.not_le.2 ib]
          obtain ⟨ba, oa, hpa, hba, hea⟩ := HA.out.rs.1.elem hxa
          obtain ⟨bb, ob, hpb, hbb, heb⟩ := HB.out.rs.1.elem hxb
          rw [hpa] at c1
          rw [hpb] at c2
          have A0 := fun d : Later wr => (((hea.grow G1.out).grow hbl).grow d.h).ro.1
          have B0 := fun d : Later wr => (((heb.grow G1.out).grow hbl).grow d.h).ro.1
          have A1 := fun d : Later wr => (((hea.grow G1.out).grow hbl).grow d.h).ro.2.1
          have B1 := fun d : Later wr => (((heb.grow G1.out).grow hbl).grow d.h).ro.2.1
          have A2 := fun d : Later wr => (((hea.grow G1.out).grow hbl).grow d.h).ro.2.2.1
          have B2 := fun d : Later wr => (((heb.grow G1.out).grow hbl).grow d.h).ro.2.2.1
          have A3 := fun d : Later wr => (((hea.grow G1.out).grow hbl).grow d.h).ro.2.2.2.1
          have B3 := fun d : Later wr => (((heb.grow G1.out).grow hbl).grow d.h).ro.2.2.2.1
          have A4 := fun d : Later wr => (((hea.grow G1.out).grow hbl).grow d.h).ro.2.2.2.2
          have B4 := fun d : Later wr => (((heb.grow G1.out).grow hbl).grow d.h).ro.2.2.2.2
          have Hxa := Lib.hid (HA.out.rs.2 xa (getElem?_mem' hxa))
          have Hxb := Lib.hid (HB.out.rs.2 xb (getElem?_mem' hxb))
          clear hea heb hxa hxb hpa hpb
          have HC := Lib.hid (show ∀ d : Later wr, Calls Try.prog 43 #[xa.agg, xb.agg] d.w' fun e w' => e = .returned (.bool (Ro.same xa xb)) ∧ Grow d.w' w' from fun d =>
            ref34_SameRoutine xa xb _ (Hxa.out.grow ((G1.out.then hbl).then d.h)) (Hxb.out.grow ((G1.out.then hbl).then d.h)))
          obtain ⟨r, hr⟩ : ∃ r, Ro.same xa xb = r := ⟨_, rfl⟩
          rw [hr] at HC hdif
          have HD := Lib.hid hdif
          clear hr hdif
          cases r
          · go_wp2_with fail
            refine wp_region_later (by kernel_rfl) (by kernel_rfl) ?_
            repeat (go_big_quiet_step ((go_at_call 43; exact Calls.later (HC.out _))))
            refine wpQuiet_nil ?_
            rintro _ ⟨d, rfl⟩
            have GD := Lib.hid (hbl.then d.h)
            have HRD := Lib.hid (HR.out.grow d.h)
            have hdz := (hbl.then d.h).size
            obtain ⟨W2, hW2⟩ : ∃ W2, W2 = d.w' := ⟨_, rfl⟩
            rw [← hW2] at GD HRD hdz
            rw [← hW2]
            clear hW2 c1 c2 d
            go_wp2_with (at_builtin; refine append_its _ rfl _ _ rfl W1.heap.size _ (chTo a b k) rfl (some ⟨W2.heap.size, 0, none⟩) 1 [(k : Int)] _ rfl rfl (HRD.out.grow ((Below.refl _ _).alloc' _)) (one_its _ _) ?c1 ?c2 ?_)
            case c1 => simp; omega
            case c2 => exact (GD.out.alloc' _).size
            intro v2 w2 hown hgrow
            have GG := Lib.hid ((GD.out.alloc' _).grown hgrow (GD.out.alloc' _).size (fun m hm => RL.out m hm))
            have HO := Lib.hid hown
            clear hown hgrow
            go_wp2_with fail
            exact ⟨⟨k + 1, by omega, by go_num, GG.out, by rw [chTo_step a b k HD.out]; exact HO.out⟩, by simp [intOf]; omega⟩
          · go_wp2_with fail
            refine wp_region_later (by kernel_rfl) (by kernel_rfl) ?_
            repeat (go_big_quiet_step ((go_at_call 43; exact Calls.later (HC.out _))))
            refine wpQuiet_nil ?_
            rintro _ ⟨d, rfl⟩
            have GD := Lib.hid (hbl.then d.h)
            have HRD := Lib.hid (HR.out.grow d.h)
            obtain ⟨W2, hW2⟩ : ∃ W2, W2 = d.w' := ⟨_, rfl⟩
            rw [← hW2] at GD HRD
            rw [← hW2]
            clear hW2 c1 c2 d
            go_wp2_with fail
            exact ⟨⟨k + 1, by omega, by go_num, GD.out, by rw [chTo_skip a b k HD.out]; exact HRD.out⟩, by simp [intOf]; omega⟩
      · obtain rfl : k = b.rs.length := by omega
        go_wp2_with fail
        go_ret2
        rw [HCC.out]
        exact ⟨_, rfl, HR.out.lower G1.out.size, G1.out.then hbl⟩
  · have hMb : M = a.rs.length := by rw [hM', if_neg (by omega)]
    clear hM' HM
    subst hMb
    go_wp2_with fail
    go_loopw [8, 9] (fun o i wr => ∃ k : Nat, k ≤ a.rs.length ∧ i = .int .i64 k ∧ Grow W1 wr ∧ IRow wr W1.heap.size o (chTo a b k)) (fun _ i _ => a.rs.length - (intOf i).toNat)
    case atStart => exact ⟨0, Nat.zero_le _, rfl, Below.refl _ _, World.ownsRow_nil _ _ _ _⟩
    case round =>
      obtain ⟨k, hk, rfl, hbl, hrow⟩ := hrel
      have HR := Lib.hid hrow
      have hsz := hbl.size
      have hlen := chTo_length a b k
      have RL := Lib.hid (fun m hm => (hrow.lt m hm).1)
      clear hrow
      by_cases hlt : k < a.rs.length
      · have c1 : ∀ d : Later wr, d.w'.cell? ⟨w.heap.size, 3, none⟩ = some (.slice a.rsP a.rs.length a.rsC) := fun d => d.h.keep (hbl.keep C1.out)
        have c2 : ∀ d : Later wr, d.w'.cell? ⟨w.heap.size + 1, 3, none⟩ = some (.slice b.rsP b.rs.length b.rsC) := fun d => d.h.keep (hbl.keep C2.out)
        by_cases hot : b.rs.length ≤ k
        · have HD := Lib.hid (show differs a b k = true by simp [differs, hot])
          have tt : decide (b.rs.length ≤ k) = true := by simp; omega
          have tf : decide (a.rs.length ≤ k) = false := by simp; omega
          go_wp2_with fail
          refine wp_region_later (by kernel_rfl) (by kernel_rfl) ?_
          repeat (go_big_quiet_step (fail))
          refine wpQuiet_nil ?_
          rintro _ ⟨d, rfl⟩
          have GD := Lib.hid (hbl.then d.h)
          have HRD := Lib.hid (HR.out.grow d.h)
          have hdz := (hbl.then d.h).size
          obtain ⟨W2, hW2⟩ : ∃ W2, W2 = d.w' := ⟨_, rfl⟩
          rw [← hW2] at GD HRD hdz
          rw [← hW2]
          clear hW2 c1 c2 d
          go_wp2_with (at_builtin; refine append_its _ rfl _ _ rfl W1.heap.size _ (chTo a b k) rfl (some ⟨W2.heap.size, 0, none⟩) 1 [(k : Int)] _ rfl rfl (HRD.out.grow ((Below.refl _ _).alloc' _)) (one_its _ _) ?c1 ?c2 ?_)
          case c1 => simp; omega
          case c2 => exact (GD.out.alloc' _).size
          intro v2 w2 hown hgrow
          have GG := Lib.hid ((GD.out.alloc' _).grown hgrow (GD.out.alloc' _).size (fun m hm => RL.out m hm))
          have HO := Lib.hid hown
          clear hown hgrow
          go_wp2_with fail
          exact ⟨⟨k + 1, by omega, by go_num, GG.out, by rw [chTo_step a b k HD.out]; exact HO.out⟩, by simp [intOf]; omega⟩
        · have ia : k < a.rs.length := by omega
          have ib : k < b.rs.length := by omega
          have ta : decide (a.rs.length ≤ k) = false := by simp; omega
          have tb : decide (b.rs.length ≤ k) = false := by simp; omega
          obtain ⟨xa, hxa⟩ : ∃ x, a.rs[k]? = some x := ⟨_, List.getElem?_eq_getElem ia⟩
          obtain ⟨xb, hxb⟩ : ∃ x, b.rs[k]? = some x := ⟨_, List.getElem?_eq_getElem ib⟩
          have hdif : differs a b k = !(Ro.same xa xb) := by simp [differs, hxa, hxb, Nat.not_le.2 ia, Nat.not_le.2 ib]
          obtain ⟨ba, oa, hpa, hba, hea⟩ := HA.out.rs.1.elem hxa
          obtain ⟨bb, ob, hpb, hbb, heb⟩ := HB.out.rs.1.elem hxb
          rw [hpa] at c1
          rw [hpb] at c2
          have A0 := fun d : Later wr => (((hea.grow G1.out).grow hbl).grow d.h).ro.1
          have B0 := fun d : Later wr => (((heb.grow G1.out).grow hbl).grow d.h).ro.1
          have A1 := fun d : Later wr => (((hea.grow G1.out).grow hbl).grow d.h).ro.2.1
          have B1 := fun d : Later wr => (((heb.grow G1.out).grow hbl).grow d.h).ro.2.1
          have A2 := fun d : Later wr => (((hea.grow G1.out).grow hbl).grow d.h).ro.2.2.1
          have B2 := fun d : Later wr => (((heb.grow G1.out).grow hbl).grow d.h).ro.2.2.1
          have A3 := fun d : Later wr => (((hea.grow G1.out).grow hbl).grow d.h).ro.2.2.2.1
          have B3 := fun d : Later wr => (((heb.grow G1.out).grow hbl).grow d.h).ro.2.2.2.1
          have A4 := fun d : Later wr => (((hea.grow G1.out).grow hbl).grow d.h).ro.2.2.2.2
          have B4 := fun d : Later wr => (((heb.grow G1.out).grow hbl).grow d.h).ro.2.2.2.2
          have Hxa := Lib.hid (HA.out.rs.2 xa (getElem?_mem' hxa))
          have Hxb := Lib.hid (HB.out.rs.2 xb (getElem?_mem' hxb))
          clear hea heb hxa hxb hpa hpb
          have HC := Lib.hid (show ∀ d : Later wr, Calls Try.prog 43 #[xa.agg, xb.agg] d.w' fun e w' => e = .returned (.bool (Ro.same xa xb)) ∧ Grow d.w' w' from fun d =>
            ref34_SameRoutine xa xb _ (Hxa.out.grow ((G1.out.then hbl).then d.h)) (Hxb.out.grow ((G1.out.then hbl).then d.h)))
          obtain ⟨r, hr⟩ : ∃ r, Ro.same xa xb = r := ⟨_, rfl⟩
          rw [hr] at HC hdif
          have HD := Lib.hid hdif
          clear hr hdif
          cases r
          · go_wp2_with fail
            refine wp_region_later (by kernel_rfl) (by kernel_rfl) ?_
            repeat (go_big_quiet_step ((go_at_call 43; exact Calls.later (HC.out _))))
            refine wpQuiet_nil ?_
            rintro _ ⟨d, rfl⟩
            have GD := Lib.hid (hbl.then d.h)
            have HRD := Lib.hid (HR.out.grow d.h)
            have hdz := (hbl.then d.h).size
            obtain ⟨W2, hW2⟩ : ∃ W2, W2 = d.w' := ⟨_, rfl⟩
            rw [← hW2] at GD HRD hdz
            rw [← hW2]
            clear hW2 c1 c2 d
            go_wp2_with (at_builtin; refine append_its _ rfl _ _ rfl W1.heap.size _ (chTo a b k) rfl (some ⟨W2.heap.size, 0, none⟩) 1 [(k : Int)] _ rfl rfl (HRD.out.grow ((Below.refl _ _).alloc' _)) (one_its _ _) ?c1 ?c2 ?_)
            case c1 => simp; omega
            case c2 => exact (GD.out.alloc' _).size
            intro v2 w2 hown hgrow
            have GG := Lib.hid ((GD.out.alloc' _).grown hgrow (GD.out.alloc' _).size (fun m hm => RL.out m hm))
            have HO := Lib.hid hown
            clear hown hgrow
            go_wp2_with fail
            exact ⟨⟨k + 1, by omega, by go_num, GG.out, by rw [chTo_step a b k HD.out]; exact HO.out⟩, by simp [intOf]; omega⟩
          · go_wp2_with fail
            refine wp_region_later (by kernel_rfl) (by kernel_rfl) ?_
            repeat (go_big_quiet_step ((go_at_call 43; exact Calls.later (HC.out _))))
            refine wpQuiet_nil ?_
            rintro _ ⟨d, rfl⟩
            have GD := Lib.hid (hbl.then d.h)
            have HRD := Lib.hid (HR.out.grow d.h)
            obtain ⟨W2, hW2⟩ : ∃ W2, W2 = d.w' := ⟨_, rfl⟩
            rw [← hW2] at GD HRD
            rw [← hW2]
            clear hW2 c1 c2 d
            go_wp2_with fail
            exact ⟨⟨k + 1, by omega, by go_num, GD.out, by rw [chTo_skip a b k HD.out]; exact HRD.out⟩, by simp [intOf]; omega⟩
      · obtain rfl : k = a.rs.length := by omega
        go_wp2_with fail
        go_ret2
        rw [HCC.out]
        exact ⟨_, rfl, HR.out.lower G1.out.size, G1.out.then hbl⟩
end Go.Proofs.Ytflbiiflbehleaa
