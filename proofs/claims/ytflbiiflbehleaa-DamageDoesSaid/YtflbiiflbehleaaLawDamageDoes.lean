import Derived.Test.YtflbiiflbehleaaDam3
import Derived.Test.YtflbiiflbehleaaDam4
namespace Go.Proofs.Ytflbiiflbehleaa
open Go.RowKit
/-- What Long tells. -/
def LongOut (k : Nat) (w : World) (e : Ending) (w' : World) : Prop := ∃ r : Bool, e = .returned (.bool r) ∧ w = w' ∧ (r = false → k ≤ 200100)
set_option maxRecDepth 100000 in
set_option maxHeartbeats 4000000 in
theorem ref42_Long (p : Option Addr) (cap : Nat) (l : List Int) (w : World) (hl : l.length ≤ 9223372036854775807) : Calls Try.prog 10 #[.slice p l.length cap] w (LongOut l.length w) := by
  by_cases h : l.length ≤ 200100
  · go_enter Try.func10, Try.ntmps10
    go_wp2_with fail
    all_goals
      go_ret
      exact ⟨_, rfl, rfl, fun _ => h⟩
  · have t1 : decide ((12000 : Int) < (l.length : Int)) = true := by simp; omega
    have t2 : decide ((l.length : Int) ≤ 200000) = false := by simp; omega
    have t3 : decide ((200100 : Int) < (l.length : Int)) = true := by simp; omega
    clear h
    go_enter Try.func10, Try.ntmps10
    go_wp2_with fail
    go_ret
    exact ⟨true, rfl, rfl, fun h => by cases h⟩
/-- Rows that lie in a world. -/
def AllRows (W : World) (rs : List (Nat × Value × List Int)) : Prop := ∀ r, r ∈ rs → Row W r.1 r.2.1 r.2.2
theorem AllRows.nil (W : World) : AllRows W [] := fun _ h => by cases h
theorem AllRows.grow {W W' : World} {rs : List (Nat × Value × List Int)} (h : AllRows W rs) (g : Grow W W') : AllRows W' rs := fun r hr => (h r hr).grow g
theorem AllRows.cons {W : World} {rs : List (Nat × Value × List Int)} {b : Nat} {v : Value} {l : List Int} (h : AllRows W rs) (k : Row W b v l) : AllRows W ((b, v, l) :: rs) := by
  intro r hr
  rcases List.mem_cons.1 hr with rfl | hr
  · exact k
  · exact h r hr
theorem AllRows.set {W : World} {rs : List (Nat × Value × List Int)} (h : AllRows W rs) {a : Addr} (ha : ∀ r, r ∈ rs → a.block < r.1) (u : Value) : AllRows (W.setCell a u) rs :=
  fun r hr => ownsRow_setCell_below (h r hr) (ha r hr) u
theorem Row.conv {W : World} {b : Nat} {v : Value} {l : List Int} (h : Row W b v l) : (convert 27 9 v).run Try.prog W = .ok (.string (strOfNums l)) W := by
  obtain ⟨p, cap, rfl, hb⟩ := h.byt
  exact hb.string
set_option maxRecDepth 100000 in
set_option maxHeartbeats 4000000 in
theorem damageDoes_walk (pb : Option Addr) (capb : Nat) (l : List Int) (pq : Option Addr) (capq : Nat) (m : List Int) (at_ n : Int) (pm : Option Addr) (capm : Nat) (ms : List Int) (w : World)
    (hb : Byt w pb capb l) (hq : Byt w pq capq m) (hk : -9223372036854775808 ≤ at_ ∧ at_ ≤ 9223372036854775807) (hms : Byt w pm capm ms) :
    Calls Try.prog 4 #[.slice pb l.length capb, .slice pq m.length capq, .int .i64 at_, .int .i64 n, .slice pm ms.length capm] w fun e w' => e = .returned (.bool true) ∧ Grow w w' := by
  have b1 := hb.le
  have b2 := hq.le
  have b3 := hms.le
  have HBY := Lib.hid hb
  have HMO := Lib.hid hq
  have HMS := Lib.hid hms
  have HK := Lib.hid hk
  clear hb hq hms hk
  have HE := Lib.hid (empty_row w)
  go_enter Try.func4, Try.ntmps4
  go_wp2_with fail
  refine (ref42_Long pb capb l _ (by omega)).mono ?_
  rintro e w' ⟨r, rfl, rfl, hr1⟩
  cases r
  case true =>
    clear hr1
    go_wp2_with fail
    go_ret
    exact ⟨rfl, Below.refl _ _⟩
  have hl1 := hr1 rfl
  clear hr1
  go_wp2_with fail
  refine (ref42_Long pq capq m _ (by omega)).mono ?_
  rintro e w' ⟨r, rfl, rfl, hr1⟩
  cases r
  case true =>
    clear hr1
    go_wp2_with fail
    go_ret
    exact ⟨rfl, Below.refl _ _⟩
  have hl2 := hr1 rfl
  clear hr1
  by_cases hm10 : 10 < ms.length
  · go_wp2_with fail
    go_ret
    exact ⟨rfl, Below.refl _ _⟩
  have t1 : decide ((10 : Int) < (ms.length : Int)) = false := by simp; omega
  have HB1 := Lib.hid (HBY.out.grow ((Below.refl _ _).alloc' (.cells #[] 5)))
  go_wp2_with (at_builtin; refine append_byt _ rfl _ _ rfl w.heap.size _ ([]) rfl pb capb (l) _ rfl rfl HE.out HB1.out ?c1 ?c2 ?_)
  case c1 => simp; omega
  case c2 => simp
  intro v0 w1 hown hgrow
  have G1 := (((Below.refl w.heap.size w).alloc' _).grown hgrow (by simp) (by simp [Value.ownBlock]))
  have GG := Lib.hid G1
  have HRO := Lib.hid (show Row w1 w.heap.size v0 l from hown)
  obtain ⟨p0, cap0, rfl, hby0⟩ := HRO.out.byt
  replace HBY := Lib.hid (HBY.out.grow G1)
  replace HMO := Lib.hid (HMO.out.grow G1)
  replace HMS := Lib.hid (HMS.out.grow G1)
  have HOWN := Lib.hid hby0
  have AR := Lib.hid (AllRows.nil w1)
  have hs1 : w1.heap.size ≤ w1.heap.size := Nat.le_refl _
  have GW := Lib.hid (Below.refl w1.heap.size w1)
  clear hown hgrow G1 hby0 HE HB1
  go_wp2_with fail
  refine (damage_Flip p0 cap0 l at_ (IntKind.u8.wrap n) _ HOWN.out HK.out).mono ?_
  rintro e w2 ⟨v1, rfl, hr, hg⟩
  replace AR := Lib.hid ((AR.out.grow hg).cons hr)
  replace HBY := Lib.hid (HBY.out.grow hg)
  replace HMO := Lib.hid (HMO.out.grow hg)
  replace HMS := Lib.hid (HMS.out.grow hg)
  replace HOWN := Lib.hid (HOWN.out.grow hg)
  replace GW := Lib.hid (GW.out.trans (hg.mono hs1))
  have hs2 : w1.heap.size ≤ w2.heap.size := Nat.le_trans hs1 hg.size
  clear hr hg
  go_wp2_with fail
  refine (ref42_Flip pb capb l at_ (IntKind.u8.wrap n) _ HBY.out HK.out).mono ?_
  rintro e w3 ⟨v2, rfl, hr, hg⟩
  replace AR := Lib.hid ((AR.out.grow hg).cons hr)
  replace HBY := Lib.hid (HBY.out.grow hg)
  replace HMO := Lib.hid (HMO.out.grow hg)
  replace HMS := Lib.hid (HMS.out.grow hg)
  replace HOWN := Lib.hid (HOWN.out.grow hg)
  replace GW := Lib.hid (GW.out.trans (hg.mono hs2))
  have hs3 : w1.heap.size ≤ w3.heap.size := Nat.le_trans hs2 hg.size
  clear hr hg
  go_wp2_with fail
  refine (damage_Burst p0 pm cap0 capm l ms at_ _ HOWN.out HMS.out HK.out).mono ?_
  rintro e w4 ⟨v3, rfl, hr, hg⟩
  replace AR := Lib.hid ((AR.out.grow hg).cons hr)
  replace HBY := Lib.hid (HBY.out.grow hg)
  replace HMO := Lib.hid (HMO.out.grow hg)
  replace HMS := Lib.hid (HMS.out.grow hg)
  replace HOWN := Lib.hid (HOWN.out.grow hg)
  replace GW := Lib.hid (GW.out.trans (hg.mono hs3))
  have hs4 : w1.heap.size ≤ w4.heap.size := Nat.le_trans hs3 hg.size
  clear hr hg
  go_wp2_with fail
  refine (ref42_Burst pb pm capb capm l ms at_ _ HBY.out HMS.out HK.out).mono ?_
  rintro e w5 ⟨v4, rfl, hr, hg⟩
  replace AR := Lib.hid ((AR.out.grow hg).cons hr)
  replace HBY := Lib.hid (HBY.out.grow hg)
  replace HMO := Lib.hid (HMO.out.grow hg)
  replace HMS := Lib.hid (HMS.out.grow hg)
  replace HOWN := Lib.hid (HOWN.out.grow hg)
  replace GW := Lib.hid (GW.out.trans (hg.mono hs4))
  have hs5 : w1.heap.size ≤ w5.heap.size := Nat.le_trans hs4 hg.size
  clear hr hg
  go_wp2_with fail
  refine (damage_Cut p0 cap0 l n _ HOWN.out).mono ?_
  rintro e w6 ⟨v5, rfl, hr, hg⟩
  replace AR := Lib.hid ((AR.out.grow hg).cons hr)
  replace HBY := Lib.hid (HBY.out.grow hg)
  replace HMO := Lib.hid (HMO.out.grow hg)
  replace HMS := Lib.hid (HMS.out.grow hg)
  replace HOWN := Lib.hid (HOWN.out.grow hg)
  replace GW := Lib.hid (GW.out.trans (hg.mono hs5))
  have hs6 : w1.heap.size ≤ w6.heap.size := Nat.le_trans hs5 hg.size
  clear hr hg
  go_wp2_with fail
  refine (ref42_Cut pb capb l n _ HBY.out).mono ?_
  rintro e w7 ⟨v6, rfl, hr, hg⟩
  replace AR := Lib.hid ((AR.out.grow hg).cons hr)
  replace HBY := Lib.hid (HBY.out.grow hg)
  replace HMO := Lib.hid (HMO.out.grow hg)
  replace HMS := Lib.hid (HMS.out.grow hg)
  replace HOWN := Lib.hid (HOWN.out.grow hg)
  replace GW := Lib.hid (GW.out.trans (hg.mono hs6))
  have hs7 : w1.heap.size ≤ w7.heap.size := Nat.le_trans hs6 hg.size
  clear hr hg
  go_wp2_with fail
  refine (damage_Stretch p0 pq cap0 capq l m _ HOWN.out HMO.out).mono ?_
  rintro e w8 ⟨v7, rfl, hr, hg⟩
  replace AR := Lib.hid ((AR.out.grow hg).cons hr)
  replace HBY := Lib.hid (HBY.out.grow hg)
  replace HMO := Lib.hid (HMO.out.grow hg)
  replace HMS := Lib.hid (HMS.out.grow hg)
  replace HOWN := Lib.hid (HOWN.out.grow hg)
  replace GW := Lib.hid (GW.out.trans (hg.mono hs7))
  have hs8 : w1.heap.size ≤ w8.heap.size := Nat.le_trans hs7 hg.size
  clear hr hg
  go_wp2_with fail
  refine (ref42_Stretch pb pq capb capq l m _ HBY.out HMO.out).mono ?_
  rintro e w9 ⟨v8, rfl, hr, hg⟩
  replace AR := Lib.hid ((AR.out.grow hg).cons hr)
  replace HBY := Lib.hid (HBY.out.grow hg)
  replace HMO := Lib.hid (HMO.out.grow hg)
  replace HMS := Lib.hid (HMS.out.grow hg)
  replace HOWN := Lib.hid (HOWN.out.grow hg)
  replace GW := Lib.hid (GW.out.trans (hg.mono hs8))
  have hs9 : w1.heap.size ≤ w9.heap.size := Nat.le_trans hs8 hg.size
  clear hr hg
  go_wp2_with fail
  refine (damage_Swap p0 cap0 l at_ n _ HOWN.out).mono ?_
  rintro e w10 ⟨v9, rfl, hr, hg⟩
  replace AR := Lib.hid ((AR.out.grow hg).cons hr)
  replace HBY := Lib.hid (HBY.out.grow hg)
  replace HMO := Lib.hid (HMO.out.grow hg)
  replace HMS := Lib.hid (HMS.out.grow hg)
  replace HOWN := Lib.hid (HOWN.out.grow hg)
  replace GW := Lib.hid (GW.out.trans (hg.mono hs9))
  have hs10 : w1.heap.size ≤ w10.heap.size := Nat.le_trans hs9 hg.size
  clear hr hg
  go_wp2_with fail
  refine (ref42_Swap pb capb l at_ n _ HBY.out).mono ?_
  rintro e w11 ⟨v10, rfl, hr, hg⟩
  replace AR := Lib.hid ((AR.out.grow hg).cons hr)
  replace HBY := Lib.hid (HBY.out.grow hg)
  replace HMO := Lib.hid (HMO.out.grow hg)
  replace HMS := Lib.hid (HMS.out.grow hg)
  replace HOWN := Lib.hid (HOWN.out.grow hg)
  replace GW := Lib.hid (GW.out.trans (hg.mono hs10))
  have hs11 : w1.heap.size ≤ w11.heap.size := Nat.le_trans hs10 hg.size
  clear hr hg
  have cv0 := HOWN.out.string
  have cvb := HBY.out.string
  obtain ⟨rs, hrs⟩ : ∃ rs : List (Nat × Value × List Int), rs = [(w10.heap.size, v10, (swapS l at_ n).1), (w9.heap.size, v9, (swapS l at_ n).1), (w8.heap.size, v8, (stretchS l m).1), (w7.heap.size, v7, (stretchS l m).1), (w6.heap.size, v6, (cutS l n).1), (w5.heap.size, v5, (cutS l n).1), (w4.heap.size, v4, (burstS l at_ ms).1), (w3.heap.size, v3, (burstS l at_ ms).1), (w2.heap.size, v2, (burstS l at_ [n % 256]).1), (w1.heap.size, v1, (burstS l at_ [n % 256]).1)] := ⟨_, rfl⟩
  have hbs : ∀ r, r ∈ rs → w1.heap.size ≤ r.1 := by
    intro r hr
    rw [hrs] at hr
    simp only [List.mem_cons, List.not_mem_nil, or_false] at hr
    rcases hr with rfl | rfl | rfl | rfl | rfl | rfl | rfl | rfl | rfl | rfl <;> assumption
  have AR2 : Hid (AllRows w11 rs) := by
    show AllRows w11 rs
    rw [hrs]
    exact AR.out
  have HBS := Lib.hid hbs
  have HRS := Lib.hid hrs
  have HRO2 := Lib.hid (HRO.out.grow GW.out)
  have GW2 := Lib.hid (GG.out.then GW.out)
  clear AR hbs hrs HOWN HBY HMO HMS
  go_wp2_with fail
  have FIN : ∀ wr : World, AllRows wr rs → (convert 27 9 v1).run Try.prog wr = .ok (.string (strOfNums (burstS l at_ [n % 256]).1)) wr ∧ (convert 27 9 v2).run Try.prog wr = .ok (.string (strOfNums (burstS l at_ [n % 256]).1)) wr ∧ (convert 27 9 v3).run Try.prog wr = .ok (.string (strOfNums (burstS l at_ ms).1)) wr ∧ (convert 27 9 v4).run Try.prog wr = .ok (.string (strOfNums (burstS l at_ ms).1)) wr ∧ (convert 27 9 v5).run Try.prog wr = .ok (.string (strOfNums (cutS l n).1)) wr ∧ (convert 27 9 v6).run Try.prog wr = .ok (.string (strOfNums (cutS l n).1)) wr ∧ (convert 27 9 v7).run Try.prog wr = .ok (.string (strOfNums (stretchS l m).1)) wr ∧ (convert 27 9 v8).run Try.prog wr = .ok (.string (strOfNums (stretchS l m).1)) wr ∧ (convert 27 9 v9).run Try.prog wr = .ok (.string (strOfNums (swapS l at_ n).1)) wr ∧ (convert 27 9 v10).run Try.prog wr = .ok (.string (strOfNums (swapS l at_ n).1)) wr := by
    intro wr har
    rw [HRS.out] at har
    exact ⟨Row.conv (har (w1.heap.size, v1, (burstS l at_ [n % 256]).1) (by simp)), Row.conv (har (w2.heap.size, v2, (burstS l at_ [n % 256]).1) (by simp)), Row.conv (har (w3.heap.size, v3, (burstS l at_ ms).1) (by simp)), Row.conv (har (w4.heap.size, v4, (burstS l at_ ms).1) (by simp)), Row.conv (har (w5.heap.size, v5, (cutS l n).1) (by simp)), Row.conv (har (w6.heap.size, v6, (cutS l n).1) (by simp)), Row.conv (har (w7.heap.size, v7, (stretchS l m).1) (by simp)), Row.conv (har (w8.heap.size, v8, (stretchS l m).1) (by simp)), Row.conv (har (w9.heap.size, v9, (swapS l at_ n).1) (by simp)), Row.conv (har (w10.heap.size, v10, (swapS l at_ n).1) (by simp))⟩
  have HFIN := Lib.hid FIN
  clear FIN cv0 cvb
  by_cases hz : l.length = 0
  · obtain ⟨z1, z2, z3, z4, z5, z6, z7, z8, z9, z10⟩ := HFIN.out w11 AR2.out
    go_wp2_with fail
    refine wp_loop_rounds 1 ?_
    rw [rounds_succ]
    go_wp2_with fail
    go_ret
    exact ⟨rfl, GW2.out⟩
  · obtain ⟨g, gc, e, hgb, hgl, _, _⟩ := HRO.out.place (by omega)
    simp only [Value.slice.injEq, true_and] at e
    obtain ⟨rfl, rfl⟩ := e
    go_loopw [33] (fun i wr => ∃ k : Nat, k ≤ l.length ∧ i = .int .i64 k ∧ Grow w wr ∧ (∃ cur : List Int, cur.length = l.length ∧ Row wr w.heap.size (.slice (some ⟨g, 0, none⟩) l.length cap0) cur) ∧ AllRows wr rs) (fun i _ => l.length - (intOf i).toNat)
    case atStart => exact ⟨0, Nat.zero_le _, rfl, GW2.out, ⟨l, rfl, HRO2.out⟩, AR2.out⟩
    case round =>
      obtain ⟨k, hk, rfl, hbl, ⟨cur, hcl, hrow⟩, har⟩ := hrel
      have HA := Lib.hid har
      have HR := Lib.hid hrow
      have HCL := Lib.hid hcl
      by_cases hlt : k < l.length
      · obtain ⟨g', gc', e', _, _, _, hcell⟩ := hrow.place (by omega)
        simp only [Value.slice.injEq, Option.some.injEq, Addr.mk.injEq, and_true] at e'
        obtain ⟨rfl, _, rfl⟩ := e'
        obtain ⟨c1, c2⟩ := hcell k (by omega)
        generalize cur.getD k 0 = xv at c1
        clear hcell hrow har hcl
        go_wp2_with fail
        exact ⟨⟨k + 1, by omega, by go_num, hbl.setCell (by exact hgb) _, ⟨_, by rw [List.length_set]; exact HCL.out, HR.out.set' k _ HCL.out⟩, HA.out.set (fun r hr => Nat.lt_of_lt_of_le hgl (HBS.out r hr)) _⟩, by simp [intOf]; omega⟩
      · obtain rfl : k = l.length := by omega
        obtain ⟨z1, z2, z3, z4, z5, z6, z7, z8, z9, z10⟩ := HFIN.out wr har
        clear hrow har hcl
        go_wp2_with fail
        go_ret
        exact ⟨rfl, hbl⟩
theorem damageDoes_walk' (pb : Option Addr) (capb : Nat) (l : List Int) (pq : Option Addr) (capq : Nat) (m : List Int) (at_ n : Int) (pm : Option Addr) (capm : Nat) (ms : List Int) (w : World)
    (hb : Byt w pb capb l) (hq : Byt w pq capq m) (hk : (Lit.int .i64 at_).wf = true) (_ : (Lit.int .i64 n).wf = true) (hms : Byt w pm capm ms) :
    Calls Try.prog 4 #[.slice pb l.length capb, .slice pq m.length capq, .int .i64 at_, .int .i64 n, .slice pm ms.length capm] w fun e w' => e = .returned (.bool true) ∧ Grow w w' :=
  damageDoes_walk pb capb l pq capq m at_ n pm capm ms w hb hq (by simp [Lit.wf, IntKind.min, IntKind.max, IntKind.signed, IntKind.bits] at hk; omega) hms
end Go.Proofs.Ytflbiiflbehleaa
