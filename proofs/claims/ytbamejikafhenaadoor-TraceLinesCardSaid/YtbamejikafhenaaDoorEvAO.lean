import Derived.Test.YtbamejikafhenaaDoorEvAL
import Derived.Test.YtbamejikafhenaaDoorEvAM
import Derived.Test.YtbamejikafhenaaDoorEvAN
import Derived.ProofKit
open Go Go.Proofs.YtbamejikafhenaaDoor.Ev
namespace Go.Proofs.YtbamejikafhenaaDoor.Tz
def dg (d : Nat) : UInt8 := (if d < 10 then 48 + d else 87 + d).toUInt8
def ep (base : Nat) : Nat → Nat → List UInt8
  | 0, _ => []
  | f + 1, n => if n / base = 0 then [dg (n % base)] else ep base f (n / base) ++ [dg (n % base)]
theorem zH : ∀ d, d < 16 → 136107713667768957684761770045455085872 / 256 ^ d % 256 = (dg d).toNat := by decide
theorem agI {a n : Nat} {k : Nat → aa} (h : a < n) : fP (U a) n k = k a := by
  show ar (Nat.ble (Nat.succ a) n) (nD 7 a (k a)) = _
  rw [aB (by rw [bA]; exact h)]
  rfl
theorem arr_I {a : Int} (h0 : 0 ≤ a) (h : a < 64) (k : AV → aa) : kB 1 64 (.ptr 0 0) (I a) k = k (.ptr 0 a.toNat) := by
  show fP (I a) 64 (fun j => aG (0 + j * 1) fun p => k (.ptr 0 p)) = _
  rw [a03 h0 (by omega) (by decide), az, Nat.zero_add, Nat.mul_one]
theorem a6B {b o n z : Nat} {f : Nat → Nat → Nat → Nat → aa} {r : Row → Nat → Nat → Nat → aa} {y : Nat → aa} {s : Nat → Nat → aa} : AV.fg (.ms b o n z) f r y s = f b o n z := rfl
theorem a9X {b o n : Nat} {a : Int} {k : AV → aa} (h0 : 0 ≤ a) (h : a ≤ n) (hn : n < 9223372036854775808) : eS 1 (.ms b o n 1) (.some (I a)) .none .none k = k (.ms b (o + a.toNat) (n - a.toNat) 1) := by
  show ar (Nat.beq 1 1) (gY (I a) n fun l => when false (k (.x 6 .lf 0 0 0)) (aG (Nat.add o (Nat.mul l 1)) fun o => aG (Nat.sub n l) fun n => k (.ms b o n 1))) = _
  rw [aB (b := Nat.beq 1 1) rfl, a0k h0 h hn, a1g, az, az]
  show k (.ms b (o + a.toNat * 1) (n - a.toNat) 1) = _
  rw [Nat.mul_one]
theorem aiu {M : Mem} (ok : a3r M) {fl : Bool} {t : Row} {o m : Nat} (h : o + m ≤ 64) (k : Row → Nat → Nat → Bool → aa) : my M 1 (.ms 0 o m 1) (H1 (.row true fl 1 64 t)) k = k t o m fl := a5y (a6l ok _) h k
theorem aid {n base : Nat} {at' : Int} {fl : Bool} {t : Row} {x2 : AV} (hn : n < 18446744073709551616) (hb : 2 ≤ base) (hb2 : base ≤ 16) (h1 : 1 ≤ at') (h2 : at' ≤ 64) (acc : List UInt8) (hacc : (acc.length : Int) = 64 - at')
    (hrow : ∀ j (h : j < acc.length), t.at (at'.toNat + j) = B8 (acc[j]).toNat) :
    ∃ t' fl', (∀ j (h : j < (dg (n % base) :: acc).length), t'.at ((at' - 1).toNat + j) = B8 ((dg (n % base) :: acc)[j]).toNat) ∧
      (sK).run .lf (.n (U n) (U base) x2 (I at') (.ptr 0 0) .uu .uu .uu .e) (H1 (.row true fl 1 64 t)) =
        if n / base = 0 then .ret (.n (U (n / base)) (U base) (S (dg (n % base) :: acc)) (I (at' - 1)) (.ptr 0 0) .uu .uu .uu .e) (H1 (.row true fl' 1 64 t'))
        else (kz).run .lf (.n (U (n / base)) (U base) x2 (I (at' - 1)) (.ptr 0 0) .uu .uu .uu .e) (H1 (.row true fl' 1 64 t')) := by
  have hd : n % base < 16 := Nat.lt_of_lt_of_le (Nat.mod_lt _ (by omega)) hb2
  obtain ⟨t', ht, hk⟩ := adK tF (fl := fl) (s := 64) (t := t) (o := (at' - 1).toNat) (c := (dg (n % base)).toNat) (by omega) (by decide)
  have hrow' : ∀ j (h : j < (dg (n % base) :: acc).length), t'.at ((at' - 1).toNat + j) = B8 ((dg (n % base) :: acc)[j]).toNat := fun j h => by
    have e : t'.at ((at' - 1).toNat + j) = if (at' - 1).toNat + j = (at' - 1).toNat then B8 (dg (n % base)).toNat else t.at ((at' - 1).toNat + j) := ht _
    rw [e]
    cases j with
    | zero => rw [if_pos (by omega)]; rfl
    | succ j =>
      rw [if_neg (by omega), show (at' - 1).toNat + (j + 1) = at'.toNat + j by omega]
      exact hrow j (by simpa using h)
  refine ⟨t', bp fl true, hrow', ?_⟩
  rw [a2n, a0N, ags, adm (by omega) hn, agI hd, gy]
  show kB 1 64 (.ptr 0 0) (I (at' - 1)) _ = _
  rw [arr_I (by omega) (by omega)]
  have ed : AV.int 4 (Nat.mod (Nat.div 136107713667768957684761770045455085872 (Nat.pow 256 (n % base))) 256) = B8 (dg (n % base)).toNat := congrArg (AV.int 4) (zH _ hd)
  rw [ed, hk, aat (by omega) hn]
  show (ae .eql 7).f (U (n / base)) (U 0) _ = _
  rw [agM, lX, oU]
  by_cases h0 : n / base = 0
  · rw [if_pos h0, if_pos h0]
    show Hp.use mem (H1 (.row true (bp fl true) 1 64 t')) 0 64 _ = _
    rw [a0M (a6l tF _) (Nat.le_refl 64), a9X (by omega) (by omega) (by decide)]
    have e1 : 64 - (at' - 1).toNat = (dg (n % base) :: acc).length := by
      show 64 - (at' - 1).toNat = acc.length + 1
      omega
    have e2 : 0 + (at' - 1).toNat = (at' - 1).toNat := Nat.zero_add _
    rw [e1, e2]
    rw [a6B]
    refine (aiu tF (by simp only [List.length_cons]; omega) _).trans ?_
    refine (a8A tF (dg (n % base) :: acc) (by simp only [List.length_cons]; omega) hrow' _).trans ?_
    rfl
  · rw [if_neg h0, if_neg h0]
theorem aaN {base : Nat} (hb : 2 ≤ base) (hb2 : base ≤ 16) : ∀ (f n : Nat) (acc : List UInt8) (at' : Int) (fl : Bool) (t : Row) (x2 : AV) (fuel : Nat), n < base ^ f → n < 18446744073709551616 → 1 ≤ f → f ≤ fuel → (f : Int) ≤ at' → at' ≤ 64 → (acc.length : Int) = 64 - at' →
    (∀ j (h : j < acc.length), t.at (at'.toNat + j) = B8 (acc[j]).toNat) →
    ∃ x3 x4 hp', aD sK fuel (.n (U n) (U base) x2 (I at') (.ptr 0 0) .uu .uu .uu .e) (H1 (.row true fl 1 64 t)) = .ret (.n (U 0) (U base) (S (ep base f n ++ acc)) x3 x4 .uu .uu .uu .e) hp'
  | 0, _, _, _, _, _, _, _, _, _, h, _, _, _, _, _ => absurd h (by decide)
  | f + 1, n, acc, at', fl, t, x2, 0, _, _, _, h, _, _, _, _ => absurd h (by omega)
  | f + 1, n, acc, at', fl, t, x2, fuel + 1, hn, hn2, _, hf, ha, ha2, hacc, hrow => by
    obtain ⟨t', fl', hrow', hs⟩ := aid (fl := fl) (x2 := x2) hn2 hb hb2 (by omega) ha2 acc hacc hrow
    by_cases h0 : n / base = 0
    · rw [if_pos h0] at hs
      rw [eQ hs, h0]
      have e : ep base (f + 1) n = [dg (n % base)] := by simp only [ep, h0, if_true]
      rw [e]
      exact ⟨_, _, _, rfl⟩
    · rw [if_neg h0, rh, a1c] at hs
      rw [cY hs]
      have hlt : n / base < base ^ f := by
        rw [Nat.div_lt_iff_lt_mul (by omega), ← Nat.pow_succ]; exact hn
      have hf1 : 1 ≤ f := by
        cases f with
        | zero => exact absurd hlt (by simpa using h0)
        | succ f => omega
      obtain ⟨x3, x4, hp', h⟩ := aaN hb hb2 f (n / base) (dg (n % base) :: acc) (at' - 1) fl' t' x2 fuel hlt (Nat.lt_of_le_of_lt (Nat.div_le_self _ _) hn2) hf1 (by omega) (by omega) (by omega) (by simp only [List.length_cons]; omega) hrow'
      refine ⟨x3, x4, hp', h.trans ?_⟩
      have e : ep base (f + 1) n = ep base f (n / base) ++ [dg (n % base)] := by simp only [ep, h0, if_false]
      rw [e, List.append_assoc]; rfl
theorem ab5 {n base : Nat} (hn : n < 18446744073709551616) (hb : 2 ≤ base) (hb2 : base ≤ 16) : ∃ hp', r59.f (.nd (U n) .lf (.nd (U base) .lf .lf)) .empty = .val (S (ep base 64 n)) hp' := by
  obtain ⟨t0, h0⟩ := ajh tF (z := 64) (l := qR (List.replicate 64 (.int .u8 0))) (by decide) (by decide) rfl (fun k => by kernel_rfl) rfl
  have e0 := h0 (fun v0 v1 => yu (.n (U n) (U base) (.str 0 0) (.int 3 64) v0 .uu .uu .uu .e) v1)
  obtain ⟨x3, x4, hp', hl⟩ := aaN hb hb2 64 n [] 64 true t0 (.str 0 0) 1000000 (by
    have : 2 ^ 64 ≤ base ^ 64 := Nat.pow_le_pow_left hb 64
    omega) hn (by decide) (by decide) (by decide) (by decide) rfl (fun j h => absurd h (Nat.not_lt_zero _))
  rw [List.append_nil] at hl
  refine ⟨hp', ?_⟩
  rw [t59]
  refine (congrArg abp (e0.trans ?_)).trans (ret59 (U 0) (U base) (S (ep base 64 n)) x3 x4 hp')
  rw [a2k]
  exact (congrArg wQ hl).trans (a18 _ _)
end Go.Proofs.YtbamejikafhenaaDoor.Tz
namespace Go.Proofs.YtbamejikafhenaaDoor.Tz
noncomputable section
def a8u : Sm := aC Go.Proofs.YtbamejikafhenaaDoor.Tz.abg [1, 0, 1]
def a7F : aa → aa := eN Go.Proofs.YtbamejikafhenaaDoor.Tz.abg
theorem t43 (x0 : AV) (hp : Hp) : r43.f (.nd x0 .lf .lf) hp = a7F ((ae .lss 3).f x0 (.int 3 0) (fun v0 => AV.ay v0 (fun v1 => when v1 (AV.bV x0 (fun v2 v3 => bu 7 (rF (md v2) (hf v2) 18446744073709551616 v3) (fun v4 => AV.bV v4 (fun v5 v6 => bu v5 (Nat.mod (Nat.sub (md v5) v6) (md v5)) (fun v7 => au mem false r59 (.nd v7 .lf (.nd (.int 7 10) .lf .lf)) hp (fun v8 v9 => (cx .add).f (S [45]) v8 (fun v10 => .ret (.n x0 v10 .uu .uu .uu .uu .uu .uu .e) v9))))))) ((a8u).run .lf (.n x0 (S []) .uu .uu .uu .uu .uu .uu .e) hp)))) := (congrArg (fun F => bN.f F (.nd x0 .lf .lf) hp) (ba Go.Proofs.YtbamejikafhenaaDoor.Tz.abg).symm).trans (by kernel_rfl)
theorem agf (x0 x1 : AV) (hp : Hp) : a7F (.ret (.n x0 x1 .uu .uu .uu .uu .uu .uu .e) hp) = .val x1 hp := by kernel_rfl
theorem a5h (x0 x1 : AV) (hp : Hp) : (a8u).run .lf (.n x0 x1 .uu .uu .uu .uu .uu .uu .e) hp = AV.bV x0 (fun v11 v12 => bu 7 (rF (md v11) (hf v11) 18446744073709551616 v12) (fun v13 => au mem false r59 (.nd v13 .lf (.nd (.int 7 10) .lf .lf)) hp (fun v14 v15 => .ret (.n x0 v14 .uu .uu .uu .uu .uu .uu .e) v15))) := by kernel_rfl
end
noncomputable section
def adi : aa → aa := eN cr19
theorem t19 (x0 : AV) (hp : Hp) : r19.f (.nd x0 .lf .lf) hp = adi (au mem false r43 (.nd x0 .lf .lf) hp (fun v0 v1 => .ret (.n x0 v0 .uu .uu .uu .uu .uu .uu .e) v1)) := (congrArg (fun F => bN.f F (.nd x0 .lf .lf) hp) (ba cr19).symm).trans (by kernel_rfl)
theorem ret19 (x0 x1 : AV) (hp : Hp) : adi (.ret (.n x0 x1 .uu .uu .uu .uu .uu .uu .e) hp) = .val x1 hp := by kernel_rfl
end
noncomputable section
def sN : Sm := gT Go.Proofs.YtbamejikafhenaaDoor.Tz.yJ [1, 1, 0, 0]
def a3f : Fr → Hp → aa := iA Go.Proofs.YtbamejikafhenaaDoor.Tz.yJ [1, 1, 0, 0]
def sc : aa → aa := gX Go.Proofs.YtbamejikafhenaaDoor.Tz.yJ [1, 1, 0, 0]
def uO : Sm := aC Go.Proofs.YtbamejikafhenaaDoor.Tz.yJ [1, 1, 0, 0, 0, 0, 1]
def a7N : Sm := aC Go.Proofs.YtbamejikafhenaaDoor.Tz.yJ [1, 1, 0]
def xK : Sm := aC Go.Proofs.YtbamejikafhenaaDoor.Tz.yJ [1, 1, 0, 0, 0, 1]
def a7H : aa → aa := eN Go.Proofs.YtbamejikafhenaaDoor.Tz.yJ
theorem t67 (x0 x1 : AV) (hp : Hp) : r67.f (.nd x0 .lf (.nd x1 .lf .lf)) hp = a7H (a3f (.n x0 x1 (S []) (S []) .uu .uu .uu .uu .e) hp) := (congrArg (fun F => bN.f F (.nd x0 .lf (.nd x1 .lf .lf)) hp) (ba Go.Proofs.YtbamejikafhenaaDoor.Tz.yJ).symm).trans (by kernel_rfl)
theorem agt (x0 x1 x2 x3 : AV) (hp : Hp) : a7H (.ret (.n x0 x1 x2 x3 .uu .uu .uu .uu .e) hp) = .val x2 hp := by kernel_rfl
theorem a4f (x0 x1 x2 x3 : AV) (hp : Hp) : (sN).run .lf (.n x0 x1 x2 x3 .uu .uu .uu .uu .e) hp = (ae .geq 7).f x0 x1 (fun v0 => AV.ay v0 (fun v1 => when v1 ((uO).run .lf (.n x0 x1 x2 x3 .uu .uu .uu .uu .e) hp) (.exit 0 (.n x0 x1 x2 x3 .uu .uu .uu .uu .e) hp))) := by kernel_rfl
theorem a4p (fr : Fr) (hp : Hp) : a3f fr hp = sc (aD sN 1000000 fr hp) := rfl
theorem a5f (fr : Fr) (hp : Hp) : sc (.exit 0 fr hp) = (a7N).run .lf fr hp := by kernel_rfl
theorem wV (x0 x1 x2 x3 : AV) (hp : Hp) : (uO).run .lf (.n x0 x1 x2 x3 .uu .uu .uu .uu .e) hp = eY 11 hp (fun v2 => (ae .rem 7).f x0 x1 (fun v3 => (ae .rem 7).f x0 x1 (fun v4 => (ae .add 7).f v4 (.int 7 1) (fun v5 => dj (S [48, 49, 50, 51, 52, 53, 54, 55, 56, 57, 97, 98, 99, 100, 101, 102]) (.some v3) (.some v5) (fun v6 => (cx .add).f v6 x3 (fun v7 => (ae .quo 7).f x0 x1 (fun v8 => (xK).run .lf (.n v8 x1 x2 v7 .uu .uu .uu .uu .e) v2))))))) := by kernel_rfl
theorem a5C (x0 x1 x2 x3 : AV) (hp : Hp) : (a7N).run .lf (.n x0 x1 x2 x3 .uu .uu .uu .uu .e) hp = (ae .add 7).f x0 (.int 7 1) (fun v9 => dj (S [48, 49, 50, 51, 52, 53, 54, 55, 56, 57, 97, 98, 99, 100, 101, 102]) (.some x0) (.some v9) (fun v10 => (cx .add).f v10 x3 (fun v11 => .ret (.n x0 x1 v11 x3 .uu .uu .uu .uu .e) hp))) := by kernel_rfl
theorem yM (x0 x1 x2 x3 : AV) (hp : Hp) : (xK).run .lf (.n x0 x1 x2 x3 .uu .uu .uu .uu .e) hp = .ok (.n x0 x1 x2 x3 .uu .uu .uu .uu .e) hp := by kernel_rfl
end
noncomputable section
def a8B : Sm := aC Go.Proofs.YtbamejikafhenaaDoor.Tz.aaQ [1, 0, 1]
def a89 : aa → aa := eN Go.Proofs.YtbamejikafhenaaDoor.Tz.aaQ
theorem t56 (x0 : AV) (hp : Hp) : r56.f (.nd x0 .lf .lf) hp = a89 ((ae .geq 3).f x0 (.int 3 0) (fun v0 => AV.ay v0 (fun v1 => when v1 (AV.bV x0 (fun v2 v3 => bu 7 (rF (md v2) (hf v2) 18446744073709551616 v3) (fun v4 => au mem false r67 (.nd v4 .lf (.nd (.int 7 10) .lf .lf)) hp (fun v5 v6 => .ret (.n x0 v5 .uu .uu .uu .uu .uu .uu .e) v6)))) ((a8B).run .lf (.n x0 (S []) .uu .uu .uu .uu .uu .uu .e) hp)))) := (congrArg (fun F => bN.f F (.nd x0 .lf .lf) hp) (ba Go.Proofs.YtbamejikafhenaaDoor.Tz.aaQ).symm).trans (by kernel_rfl)
theorem agd (x0 x1 : AV) (hp : Hp) : a89 (.ret (.n x0 x1 .uu .uu .uu .uu .uu .uu .e) hp) = .val x1 hp := by kernel_rfl
theorem a5Q (x0 x1 : AV) (hp : Hp) : (a8B).run .lf (.n x0 x1 .uu .uu .uu .uu .uu .uu .e) hp = (ae .add 3).f x0 (.int 3 1) (fun v7 => AV.bV v7 (fun v8 v9 => bu v8 (Nat.mod (Nat.sub (md v8) v9) (md v8)) (fun v10 => AV.bV v10 (fun v11 v12 => bu 7 (rF (md v11) (hf v11) 18446744073709551616 v12) (fun v13 => (ae .add 7).f v13 (.int 7 1) (fun v14 => au mem false r67 (.nd v14 .lf (.nd (.int 7 10) .lf .lf)) hp (fun v15 v16 => (cx .add).f (S [45]) v15 (fun v17 => .ret (.n x0 v17 .uu .uu .uu .uu .uu .uu .e) v16)))))))) := by kernel_rfl
end
noncomputable section
def aaj : aa → aa := eN cr30
theorem t30 (x0 : AV) (hp : Hp) : r30.f (.nd x0 .lf .lf) hp = aaj (au mem false r56 (.nd x0 .lf .lf) hp (fun v0 v1 => .ret (.n x0 v0 .uu .uu .uu .uu .uu .uu .e) v1)) := (congrArg (fun F => bN.f F (.nd x0 .lf .lf) hp) (ba cr30).symm).trans (by kernel_rfl)
theorem ret30 (x0 x1 : AV) (hp : Hp) : aaj (.ret (.n x0 x1 .uu .uu .uu .uu .uu .uu .e) hp) = .val x1 hp := by kernel_rfl
end
def bo (z : Int) : List UInt8 := if z < 0 then 45 :: ep 10 64 (-z).toNat else ep 10 64 z.toNat
theorem oG {base : Nat} : ∀ f n, (ep base f n).length ≤ f
  | 0, _ => Nat.le_refl _
  | f + 1, n => by
    unfold ep
    split
    · simp
    · rw [List.length_append]; have := oG (base := base) f (n / base); simp only [List.length_cons, List.length_nil]; omega
theorem aii {z : Int} (h : gD z) : ∃ hp', r43.f (.nd (I z) .lf .lf) .empty = .val (S (bo z)) hp' := by
  obtain ⟨h1, h2⟩ := h
  refine ⟨.empty, ?_⟩
  rw [t43, abY, aa8 ⟨h1, h2⟩ (by unfold gD; omega), lX, oU]
  by_cases hz : z < 0
  · have hl := oG (base := 10) 64 (-z).toNat
    rw [if_pos hz, qZ, agp]
    have e : (18446744073709551616 - (z % 18446744073709551616).toNat) % 18446744073709551616 = (-z).toNat := by omega
    rw [e]
    refine (congrArg a7F (call2 (ll _) (ja 7 10) (aV _).goes (ab5 (n := (-z).toNat) (base := 10) (by omega) (by decide) (by decide)) _ _)).trans ?_
    rw [wy (by simp only [List.length_cons, List.length_nil]; omega), agf]
    unfold bo
    rw [if_pos hz]; rfl
  · rw [if_neg hz, a5h, qZ]
    have e : (z % 18446744073709551616).toNat = z.toNat := by omega
    rw [e]
    refine (congrArg a7F (call2 (ll _) (ja 7 10) (aV _).goes (ab5 (n := z.toNat) (base := 10) (by omega) (by decide) (by decide)) _ _)).trans ?_
    rw [agf]
    unfold bo
    rw [if_neg hz]
theorem a6d {z : Int} (h : gD z) : ∃ hp', r19.f (.nd (I z) .lf .lf) .empty = .val (S (bo z)) hp' := by
  refine ⟨.empty, ?_⟩
  rw [t19]
  refine (congrArg adi (acE (fD _) (aV _).goes (aii h) _ _)).trans ?_
  rw [ret19]
def DIG : List UInt8 := [48, 49, 50, 51, 52, 53, 54, 55, 56, 57, 97, 98, 99, 100, 101, 102]
theorem afA : ∀ i, i < 16 → (DIG.take (i + 1)).drop i = [dg i] := by decide
theorem zY {i : Nat} (h : i < 16) (k : AV → aa) : dj (S [48, 49, 50, 51, 52, 53, 54, 55, 56, 57, 97, 98, 99, 100, 101, 102]) (.some (U i)) (.some (U (i + 1))) k = k (S [dg i]) := by
  rw [show S [48, 49, 50, 51, 52, 53, 54, 55, 56, 57, 97, 98, 99, 100, 101, 102] = S DIG from rfl, a6f (by omega) (by show i + 1 ≤ 16; omega), afA i h]
theorem a6j : AV.int 7 1 = U 1 := rfl
theorem ac2 {base : Nat} (hb : 2 ≤ base) (hb2 : base ≤ 16) : ∀ (f n : Nat) (acc : List UInt8) (x2 : AV) (hp : Hp) (fuel : Nat), n < base ^ f → n < 18446744073709551616 → 1 ≤ f → f ≤ fuel → acc.length + f ≤ 1000 →
    ∃ x3 hp', sc (aD sN fuel (.n (U n) (U base) x2 (S acc) .uu .uu .uu .uu .e) hp) = .ret (.n x3 (U base) (S (ep base f n ++ acc)) x3 .uu .uu .uu .uu .e) hp' ∨
      ∃ y0 y3, sc (aD sN fuel (.n (U n) (U base) x2 (S acc) .uu .uu .uu .uu .e) hp) = .ret (.n y0 (U base) (S (ep base f n ++ acc)) y3 .uu .uu .uu .uu .e) hp'
  | 0, _, _, _, _, _, _, _, h, _, _ => absurd h (by decide)
  | f + 1, n, acc, x2, hp, 0, _, _, _, h, _ => absurd h (by omega)
  | f + 1, n, acc, x2, hp, fuel + 1, hn, hn2, _, hf, ha => by
    have hs := a4f (U n) (U base) x2 (S acc) hp
    rw [agv, lX, oU] at hs
    by_cases h0 : base ≤ n
    · have hd : n % base < 16 := Nat.lt_of_lt_of_le (Nat.mod_lt _ (by omega)) hb2
      rw [if_pos h0, wV, a3c, adm (by omega) hn2, adm (by omega) hn2, a6j, a81, Nat.mod_eq_of_lt (show n % base + 1 < 18446744073709551616 by omega), zY hd, wy (by simp only [List.length_cons, List.length_nil]; omega), aat (by omega) hn2, yM] at hs
      rw [cY hs]
      have hlt : n / base < base ^ f := by
        rw [Nat.div_lt_iff_lt_mul (by omega), ← Nat.pow_succ]; exact hn
      have hn0 : ¬ n / base = 0 := by
        rw [Nat.div_eq_zero_iff]; omega
      have hf1 : 1 ≤ f := by
        cases f with
        | zero => exact absurd hlt (by simpa using hn0)
        | succ f => omega
      obtain ⟨x3, hp', h⟩ := ac2 hb hb2 f (n / base) ([dg (n % base)] ++ acc) x2 _ fuel hlt (Nat.lt_of_le_of_lt (Nat.div_le_self _ _) hn2) hf1 (by omega) (by simp only [List.length_append, List.length_cons, List.length_nil]; omega)
      have e : ep base (f + 1) n = ep base f (n / base) ++ [dg (n % base)] := by simp only [ep, hn0, if_false]
      rw [e, List.append_assoc]
      exact ⟨x3, hp', h⟩
    · have hd : n < 16 := by omega
      rw [if_neg h0] at hs
      have hn0 : n / base = 0 := by rw [Nat.div_eq_zero_iff]; omega
      have e : ep base (f + 1) n = [dg n] := by simp only [ep, hn0, if_true, Nat.mod_eq_of_lt (Nat.lt_of_not_le h0)]
      rw [cE hs, a5f, a5C, a6j, a81, Nat.mod_eq_of_lt (show n + 1 < 18446744073709551616 by omega), zY hd, wy (by simp only [List.length_cons, List.length_nil]; omega), e]
      exact ⟨.uu, _, .inr ⟨_, _, rfl⟩⟩
theorem acn {n base : Nat} (hn : n < 18446744073709551616) (hb : 2 ≤ base) (hb2 : base ≤ 16) : ∃ hp', r67.f (.nd (U n) .lf (.nd (U base) .lf .lf)) .empty = .val (S (ep base 64 n)) hp' := by
  obtain ⟨x3, hp', h⟩ := ac2 hb hb2 64 n [] (.str 0 0) .empty 1000000 (by
    have : 2 ^ 64 ≤ base ^ 64 := Nat.pow_le_pow_left hb 64
    omega) hn (by decide) (by decide) (by decide)
  refine ⟨hp', ?_⟩
  rw [t67, a4p]
  rw [List.append_nil] at h
  rcases h with h | ⟨y0, y3, h⟩
  · exact (congrArg a7H h).trans (agt _ _ _ _ _)
  · exact (congrArg a7H h).trans (agt _ _ _ _ _)
theorem ahw {z : Int} (h : gD z) : ∃ hp', r56.f (.nd (I z) .lf .lf) .empty = .val (S (bo z)) hp' := by
  obtain ⟨h1, h2⟩ := h
  refine ⟨.empty, ?_⟩
  rw [t56, abY, agD ⟨h1, h2⟩ (by unfold gD; omega), lX, oU]
  by_cases hz : z < 0
  · have hl := oG (base := 10) 64 (-z).toNat
    rw [if_neg (by omega), a5Q, a0N, a6Y, agA, qZ, a6j, a81]
    have e : ((-(z + 1)) % 18446744073709551616).toNat + 1 = (-z).toNat := by omega
    rw [e, Nat.mod_eq_of_lt (show (-z).toNat < 18446744073709551616 by omega)]
    refine (congrArg a89 (call2 (ll _) (ja 7 10) (aV _).goes (acn (n := (-z).toNat) (base := 10) (by omega) (by decide) (by decide)) _ _)).trans ?_
    rw [wy (by simp only [List.length_cons, List.length_nil]; omega), agd]
    unfold bo
    rw [if_pos hz]; rfl
  · rw [if_pos (by omega), qZ]
    have e : (z % 18446744073709551616).toNat = z.toNat := by omega
    rw [e]
    refine (congrArg a89 (call2 (ll _) (ja 7 10) (aV _).goes (acn (n := z.toNat) (base := 10) (by omega) (by decide) (by decide)) _ _)).trans ?_
    rw [agd]
    unfold bo
    rw [if_neg hz]
theorem ahA {z : Int} (h : gD z) : ∃ hp', r30.f (.nd (I z) .lf .lf) .empty = .val (S (bo z)) hp' := by
  refine ⟨.empty, ?_⟩
  rw [t30]
  refine (congrArg aaj (acE (fD _) (aV _).goes (ahw h) _ _)).trans ?_
  rw [ret30]
noncomputable section
def a9R (r : aa) (f : AV → Bool) : Bool := aa.rec (motive := fun _ => Bool) (fun _ _ => false) (fun _ _ _ => false) (fun _ _ => false) (fun v _ => f v) false r
def acQ (v : AV) (f : Nat → Nat → Bool) : Bool := match v with
  | .str s k => f s k
  | _ => false
def acB (v : AV) (f : Nat → Nat → Nat → Bool) : Bool := match v with
  | .bB (.nd (.str s k) .lf (.nd (.int 3 e) .lf .lf)) 2 => f s k e
  | _ => false
end
theorem oT {r : aa} {f : AV → Bool} (h : a9R r f = true) : ∃ v hp, r = .val v hp ∧ f v = true := by
  cases r <;> first | exact ⟨_, _, rfl, h⟩ | exact Bool.noConfusion h
theorem xM {v : AV} {f : Nat → Nat → Bool} (h : acQ v f = true) : ∃ s k, v = .str s k ∧ f s k = true := by
  unfold acQ at h
  split at h
  · exact ⟨_, _, rfl, h⟩
  · exact Bool.noConfusion h
theorem a9v {v : AV} {f : Nat → Nat → Nat → Bool} (h : acB v f = true) : ∃ s k e, v = .bB (.nd (.str s k) .lf (.nd (.int 3 e) .lf .lf)) 2 ∧ f s k e = true := by
  unfold acB at h
  split at h
  · exact ⟨_, _, _, rfl, h⟩
  · exact Bool.noConfusion h
theorem sf (k s : Nat) : (vz k s).length = k := by
  unfold vz
  rw [List.length_map]
  induction k generalizing s with
  | zero => rfl
  | succ k ih => exact congrArg (· + 1) (ih (s / 256))
noncomputable section
end
noncomputable section
def tO : Sm := gT Go.Proofs.YtbamejikafhenaaDoor.Tz.yN [1, 1, 0, 1, 0]
def a00 : Fr → Hp → aa := iA Go.Proofs.YtbamejikafhenaaDoor.Tz.yN [1, 1, 0, 1, 0]
def tk : aa → aa := gX Go.Proofs.YtbamejikafhenaaDoor.Tz.yN [1, 1, 0, 1, 0]
def sA : Sm := aC Go.Proofs.YtbamejikafhenaaDoor.Tz.yN [1, 1, 0, 1, 0, 0, 0, 1]
def a2P : Sm := aC Go.Proofs.YtbamejikafhenaaDoor.Tz.yN [1, 1, 0, 1]
def rH : Sm := aC Go.Proofs.YtbamejikafhenaaDoor.Tz.yN [1, 1, 0, 1, 0, 0, 1, 0]
def adC : aa → aa := eN Go.Proofs.YtbamejikafhenaaDoor.Tz.yN
theorem t29 (x0 : AV) (hp : Hp) : r29.f (.nd x0 .lf .lf) hp = adC (a00 (.n x0 (S []) (.int 3 0) (S [34]) .uu .uu .uu .uu .e) hp) := (congrArg (fun F => bN.f F (.nd x0 .lf .lf) hp) (ba Go.Proofs.YtbamejikafhenaaDoor.Tz.yN).symm).trans (by kernel_rfl)
theorem ret29 (x0 x1 x2 x3 : AV) (hp : Hp) : adC (.ret (.n x0 x1 x2 x3 .uu .uu .uu .uu .e) hp) = .val x1 hp := by kernel_rfl
theorem a1j (x0 x1 x2 x3 : AV) (hp : Hp) : (tO).run .lf (.n x0 x1 x2 x3 .uu .uu .uu .uu .e) hp = cz mem 0 x0 hp (fun v0 => ar (Nat.ble v0 9223372036854775807) ((ae .lss 3).f x2 (.int 3 v0) (fun v1 => AV.ay v1 (fun v2 => when v2 ((sA).run .lf (.n x0 x1 x2 x3 .uu .uu .uu .uu .e) hp) (.exit 0 (.n x0 x1 x2 x3 .uu .uu .uu .uu .e) hp))))) := by kernel_rfl
theorem a1W (fr : Fr) (hp : Hp) : a00 fr hp = tk (aD tO 1000000 fr hp) := rfl
theorem a3D (fr : Fr) (hp : Hp) : tk (.exit 0 fr hp) = (a2P).run .lf fr hp := by kernel_rfl
theorem vq (x0 x1 x2 x3 : AV) (hp : Hp) : (sA).run .lf (.n x0 x1 x2 x3 .uu .uu .uu .uu .e) hp = AV.ea x0 (fun v3 v4 => fP x2 v4 (fun v5 => bu 4 (Nat.mod (Nat.div v3 (Nat.pow 256 v5)) 256) (fun v6 => au mem false r55 (.nd v6 .lf .lf) hp (fun v7 v8 => (cx .add).f x3 v7 (fun v9 => (rH).run .lf (.n x0 x1 x2 v9 .uu .uu .uu .uu .e) v8))))) := by kernel_rfl
theorem a2v (x0 x1 x2 x3 : AV) (hp : Hp) : (a2P).run .lf (.n x0 x1 x2 x3 .uu .uu .uu .uu .e) hp = (cx .add).f x3 (S [34]) (fun v10 => .ret (.n x0 v10 x2 x3 .uu .uu .uu .uu .e) hp) := by kernel_rfl
theorem uZ (x0 x1 x2 x3 : AV) (hp : Hp) : (rH).run .lf (.n x0 x1 x2 x3 .uu .uu .uu .uu .e) hp = (ae .add 3).f x2 (.int 3 1) (fun v11 => .ok (.n x0 x1 v11 x3 .uu .uu .uu .uu .e) hp) := by kernel_rfl
end
def iP (c : Nat) : List UInt8 := if c = 34 ∨ c = 92 then [92, c.toUInt8] else if c = 10 then [92, 110] else if c < 32 ∨ 126 < c then [92, 120, dg (c / 16), dg (c % 16)] else [c.toUInt8]
def j5 (l : List UInt8) : List UInt8 := 34 :: (l.flatMap (fun c => iP c.toNat) ++ [34])
noncomputable section
def a1Q (c : Nat) : Bool := a9R (r55.f (.nd (.int 4 c) .lf .lf) .empty) fun v => acQ v fun s k => Nat.beq s (aL (iP c)) && Nat.beq k (iP c).length
theorem a2w : (List.range 256).all a1Q = true := by kernel_rfl
end
set_option maxRecDepth 100000 in
theorem ail {c : Nat} (h : c < 256) : ∃ hp', r55.f (.nd (B8 c) .lf .lf) .empty = .val (S (iP c)) hp' := by
  have hc := (List.all_eq_true (l := List.range 256) (p := a1Q)).1 a2w c (List.mem_range.2 h)
  unfold a1Q at hc
  obtain ⟨v, h1, e1, hc1⟩ := oT hc
  obtain ⟨s, k, rfl, hc2⟩ := xM hc1
  rw [Bool.and_eq_true, aF, aF] at hc2
  refine ⟨h1, e1.trans ?_⟩
  unfold S
  rw [hc2.1, hc2.2]
theorem tS (c : Nat) : (iP c).length ≤ 4 := by
  unfold iP
  split
  · simp
  · split
    · simp
    · split <;> simp
theorem a3E (l : List UInt8) : (l.flatMap (fun c => iP c.toNat)).length ≤ 4 * l.length := by
  induction l with
  | nil => simp
  | cons c l ih =>
    rw [List.flatMap_cons, List.length_append, List.length_cons]
    have := tS c.toNat
    omega
theorem aaP {l : List UInt8} (hl : l.length ≤ 1000000000) : ∀ (f : Nat) (i : Nat) (acc : List UInt8) (x1 : AV) (hp : Hp) (fuel : Nat), l.length - i = f → i ≤ l.length → f < fuel → acc.length + 4 * f ≤ 9000000000 →
    ∃ x2 x3 hp', tk (aD tO fuel (.n (S l) x1 (I (i : Int)) (S acc) .uu .uu .uu .uu .e) hp) = .ret (.n (S l) (S (acc ++ (l.drop i).flatMap (fun c => iP c.toNat) ++ [34])) x2 x3 .uu .uu .uu .uu .e) hp'
  | f, i, acc, x1, hp, 0, _, _, h, _ => absurd h (Nat.not_lt_zero _)
  | f, i, acc, x1, hp, fuel + 1, hf, hi, hfu, ha => by
    have hs := a1j (S l) x1 (I (i : Int)) (S acc) hp
    rw [ah6, aB (by rw [bA]; omega), wC (n := l.length) (by omega), aa8 (by unfold gD; omega) (by unfold gD; omega), lX, oU] at hs
    by_cases h0 : (i : Int) < (l.length : Int)
    · have hil : i < l.length := by omega
      have hcl := tS (l[i]).toNat
      rw [if_pos h0, vq, a7O, a03 (by omega) h0 (by omega)] at hs
      have e0 : ((i : Int)).toNat = i := Int.toNat_natCast i
      rw [e0, adB hil] at hs
      have hcall := acE (n9 (l[i]).toNat) (aV _).goes (ail (c := (l[i]).toNat) (l[i]).toNat_lt) hp
      rw [hcall, wy (by omega), uZ, a0N, a6Y] at hs
      rw [cY hs]
      obtain ⟨x2, x3, hp', h⟩ := aaP hl (f - 1) (i + 1) (acc ++ iP (l[i]).toNat) x1 hp fuel (by omega) (by omega) (by omega) (by rw [List.length_append]; omega)
      refine ⟨x2, x3, hp', h.trans ?_⟩
      rw [List.drop_eq_getElem_cons hil, List.flatMap_cons]
      simp only [List.append_assoc]
    · rw [if_neg h0] at hs
      have hil : i = l.length := by omega
      rw [cE hs, a3D, a2v, wy (by simp only [List.length_cons, List.length_nil]; omega), hil, List.drop_length]
      simp only [List.flatMap_nil, List.append_nil]
      exact ⟨_, _, _, rfl⟩
theorem ahQ {l : List UInt8} (hl : l.length < 1000000) : ∃ hp', r29.f (.nd (S l) .lf .lf) .empty = .val (S (j5 l)) hp' := by
  obtain ⟨x2, x3, hp', h⟩ := aaP (l := l) (by omega) l.length 0 [34] (.str 0 0) .empty 1000000 (by omega) (by omega) (by omega) (by simp only [List.length_cons, List.length_nil]; omega)
  refine ⟨hp', ?_⟩
  rw [t29, a1W]
  refine (congrArg adC h).trans ((ret29 _ _ _ _ _).trans ?_)
  rw [List.drop_zero]
  rfl
end Go.Proofs.YtbamejikafhenaaDoor.Tz
open Go Go.Proofs.YtbamejikafhenaaDoor.Ev Go.Proofs.YtbamejikafhenaaDoor.Tz
namespace Go.Proofs.YtbamejikafhenaaDoor.Ev
theorem byteK {a : List UInt8} {j : Nat} {k : AV → aa} (h : j < a.length) : bu 4 (Nat.mod (Nat.div (aL a) (Nat.pow 256 j)) 256) k = k (B8 (a.getD j 0).toNat) := by
  rw [adB h]; congr 2; simp [List.getD, h]
theorem digK {d : Nat} {k : AV → aa} (h : d < 16) : bu 4 (Nat.mod (Nat.div 136107713667768957684761770045455085872 (Nat.pow 256 d)) 256) k = k (B8 (dg d).toNat) := by
  rw [gy]
  show k (AV.int 4 (136107713667768957684761770045455085872 / 256 ^ d % 256)) = _
  rw [zH d h]; rfl
theorem idx_B {a n : Nat} {k : Nat → aa} (h : a < n) : fP (B8 a) n k = k a := by
  show ar (Nat.ble (Nat.succ a) n) (nD 4 a (k a)) = _
  rw [aB (by rw [bA]; exact h)]
  rfl
theorem ahT {a n : Nat} {k : Nat → aa} (h : a < n) : fP (U a) n k = k a := agI h
theorem ai5 {a : Nat} {k : AV → aa} : (ae .shr 4).f (B8 a) (U 4) k = k (B8 (a / 16)) := by
  show bu 4 (a / 2 ^ 4) k = _
  rw [gy]; rfl
theorem aep {a : Nat} {k : AV → aa} : (ae .and 4).f (B8 a) (B8 15) k = k (B8 (a % 16)) := by
  show bu 4 (Nat.land a 15) k = _
  rw [gy]
  show k (B8 (a &&& 15)) = _
  rw [show (15 : Nat) = 2 ^ 4 - 1 from rfl, Nat.and_two_pow_sub_one_eq_mod]
theorem add_B {a b : Nat} {k : AV → aa} : (ae .add 4).f (B8 a) (B8 b) k = k (B8 ((a + b) % 256)) := by
  show bu 4 ((a + b) % 256) k = _
  rw [gy]; rfl
theorem neq_B {a b : Nat} {k : AV → aa} : (ae .neq 4).f (B8 a) (B8 b) k = k (.bool (!decide (a = b))) := by
  show k (.bool (dv (Nat.beq a b))) = _
  rw [rl, fA]
theorem afK {a b : Nat} (h : a ≤ b) (x : aa) : ar (Nat.ble a b) x = x := aB (dY h) x
theorem aiX {a : Int} {n : Nat} {k : Nat → aa} (h : (0 ≤ a ∧ a < n) ∧ n < 9223372036854775808) : fP (I a) n k = k a.toNat := a03 h.1.1 h.1.2 h.2
theorem aiN {t : Row} {o n z : Nat} {hp : Hp} {k : Nat → aa} : cz mem 1 (.vs t o n z) hp k = k n := rfl
theorem aiw {b o n z : Nat} {hp : Hp} {k : Nat → aa} : cz mem 1 (.ms b o n z) hp k = k n := rfl
theorem len_nil {hp : Hp} {k : Nat → aa} : cz mem 1 (.x 8 .lf 0 0 0) hp k = k 0 := rfl
theorem bJ {M : Mem} {hp : Hp} {pl : List Nat} {r r' : aa} {K : Hp → AV → aa} (h : mk r = r') : a8E M hp pl r K = a8E M hp pl r' K := by rw [mk_eq] at h; rw [h]
end Go.Proofs.YtbamejikafhenaaDoor.Ev
namespace Go.Proofs.YtbamejikafhenaaDoor.Ev
theorem a9G {M : Mem} (ok : oK M) {F : bN} {l : Row} {hc hp : Hp} {c n z s : Nat} {t : Row} (hz : ∀ hp k, zl (pN M 24) l hp k = k l hp) (hcl : c < 16777215) (hct : hc.at c = .row true true z s t) (hnx : hp.nx < 16777215) (e : F.f l .empty = .val (.ms c 0 n z) hc) (k : AV → Hp → aa) :
    au M false F l hp k = k (.ms hp.nx 0 n z) (hp.add (.row true true z s t)) := by
  show fh M hp l (fun a ho => eX M F a hp ho k) (fe F l hp k) = _
  unfold fh
  rw [hz]
  show eX M F l hp hp k = _
  unfold eX
  rw [e]
  show ib M (imp M 23) c hc hp false (fun id hc hp' b => when b _ (k (.ms id 0 n z) hp')) = _
  unfold ib
  rw [Go.Proofs.YtbamejikafhenaaDoor.Ev.get_at ok hcl, hct]
  show hc.put M c (.fwd hp.nx) (fun hc => (aY M).f hp (.row true true z s t) fun id hp => when false _ (k (.ms id 0 n z) hp)) = _
  rw [gJ ok hcl, je ok hnx]
  rfl
theorem aeb {F : bN} {l : Row} {hc hp : Hp} {c n z s : Nat} {t : Row} (hl : kK l) (hcl : c < 16777215) (hct : hc.at c = .row true true z s t) (hnx : hp.nx < 16777215) (e : F.f l .empty = .val (.ms c 0 n z) hc) (k : AV → Hp → aa) :
    au mem false F l hp k = k (.ms hp.nx 0 n z) (hp.add (.row true true z s t)) := a9G dD (dA hl) hcl hct hnx e k
theorem callB {F : bN} {l : Row} {a : AV} {hc hp : Hp} {m : List UInt8} (hl : kK l) (hb : mw hc a m) (hm : m ≠ []) (hnc : hc.nx ≤ 1000000) (hnx : hp.nx ≤ 1000000) (e : F.f l .empty = .val a hc) :
    ∃ a' hp', mw hp' a' m ∧ hp'.nx = hp.nx + 1 ∧ hp'.pr = hp.pr ∧ ∀ k, au mem false F l hp k = k a' hp' := by
  rcases hb with ⟨_, h⟩ | ⟨c, t, rfl, hcl, hct, ht⟩
  · exact absurd h hm
  exact ⟨.ms hp.nx 0 m.length 1, hp.add (.row true true 1 m.length t), .inr ⟨_, t, rfl, by rw [cZ]; omega, add_same (by omega), ht⟩, rfl, rfl, fun k => aeb hl (by omega) hct (by omega) e k⟩
theorem a5s : Still (.x 8 .lf 0 0 0) := ⟨fun _ _ => rfl, fun _ _ _ _ => rfl⟩
theorem ac8 {h : Hp} {a : AV} {m : List UInt8} (hb : mw h a m) (hm : m ≠ []) (hnx : h.nx ≤ 1000000) (hl : m.length ≤ 1000000) {G : Row → Nat → Nat → Nat → aa} {y : Nat → aa} {s : Nat → Nat → aa} {F : Nat → Nat → aa} : 
    AV.fg a (fun _ _ _ _ => my mem 1 a h fun t o n _ => (pack mem n).f t o fun s => F s n) G y s = F (aL m) m.length := by
  rcases hb with ⟨_, h⟩ | ⟨c, t, rfl, hcl, hct, ht⟩
  · exact absurd h hm
  · show my mem 1 (.ms c 0 m.length 1) h (fun t o n _ => (pack mem n).f t o fun s => F s n) = _
    rw [a5y (fun k => by rw [get_at dD (by omega), hct]) (by omega)]
    exact a8A tF m (by omega) (fun j hj => by rw [Nat.zero_add, ht j hj]; congr 2; simp [List.getD, hj]) _
def eo (z i f : Nat) : Nat := i * z + f
structure mK (z : Nat) (v : AV) (n : Nat) (t : Row) : Prop where
  len : ∀ hp k, cz mem 1 v hp k = k n
  idx : ∀ (a : Int) k, 0 ≤ a → a < n → indexAddr z v (I a) k = k (.x 1 t (eo z a.toNat 0) z z)
  still : ∀ m, (∀ hp k, (pN mem (m + 1)).f hp v k = k v hp)
  one : One v
  small : n < 9223372036854775808
theorem a1N {z n : Nat} {t : Row} (h : n < 9223372036854775808) : mK z (.vs t 0 n z) n t where
  len := fun _ _ => rfl
  idx := fun a k h0 h1 => by
    show ar (Nat.beq z z) (fP (I a) n fun j => aG ((0 + j) * z) fun p => k (.x 1 t p z z)) = _
    rw [aB (cu z), a03 h0 h1 h, az, Nat.zero_add]; rfl
  still := fun _ _ _ => rfl
  one := True.intro
  small := h
theorem a2M {z : Nat} {t : Row} : mK z (.x 8 .lf 0 0 0) 0 t where
  len := fun _ _ => rfl
  idx := fun a k h0 h1 => absurd h1 (by omega)
  still := fun _ _ _ => rfl
  one := show 1 ≤ 8 by decide
  small := by decide
theorem fax {f off n z i : Nat} {t : Row} {k : AV → aa} (h : off ≤ n) : fieldAddr off (.x 1 t (eo z i f) n z) k = k (.x 1 t (eo z i (f + off)) (n - off) z) := by
  show ar (Nat.ble off n) (aG (eo z i f + off) fun p => aG (n - off) fun q => k (.x 1 t p q z)) = _
  rw [aB (dY h), az, az]
  show k (.x 1 t (i * z + f + off) (n - off) z) = k (.x 1 t (i * z + (f + off)) (n - off) z)
  rw [Nat.add_assoc]
section
variable {M : Mem} (ok : oK M) {t : Row} {z i f m : Nat} {l : List AV} {hp : Hp}
include ok
theorem ahb (ht : t.at i = .agg (aw l) z) (hl : l.length = z) (hi : i < 16777215) (hf : f < z) (h2 : 2 ≤ z) (hm : 1 ≤ m) (k : AV → aa) : aq M false 1 (.x 1 t (eo z i f) m z) hp k = k (l.getD f .uu) := by
  have hd : (i * z + f) / z = i := by rw [Nat.mul_comm, Nat.mul_add_div (by omega), Nat.div_eq_of_lt hf, Nat.add_zero]
  have hr : (i * z + f) % z = f := by rw [Nat.mul_comm, Nat.mul_add_mod, Nat.mod_eq_of_lt hf]
  show ar (Nat.ble 1 m) (ar (Nat.beq 1 1) (when (Nat.beq z 1) _ (M.rg.f t ((i * z + f) / z) fun v => v.jq fun l n => (yD ((i * z + f) % z)).f l k))) = _
  rw [aB (dY hm), aB (cu 1), fB (jb (by omega)), hd, hr, ok.rg hi, ht]
  show (yD f).f (aw l) k = _
  rw [zO (by omega)]; congr 1; simp [List.getD, show f < l.length by omega]
theorem aiT (ht : t.at i = .agg (aw l) z) (hi : i < 16777215) (h2 : 2 ≤ z) (hm : z ≤ m) (k : AV → aa) : aq M true z (.x 1 t (eo z i 0) m z) hp k = k (.agg (aw l) z) := by
  have hd : (i * z + 0) / z = i := by rw [Nat.add_zero]; exact Nat.mul_div_cancel _ (by omega)
  have hr : (i * z + 0) % z = 0 := by rw [Nat.add_zero]; exact Nat.mul_mod_left _ _
  show ar (Nat.ble z m) (when (Nat.beq z 1) _ (when (bp (Nat.beq z z) (Nat.beq ((i * z + 0) % z) 0)) (M.rg.f t ((i * z + 0) / z) fun v => v.jq fun l n => ar (Nat.beq n z) (k (.agg l n))) _)) = _
  rw [aB (dY hm), fB (jb (by omega)), hd, hr, cu, cQ (show bp true (Nat.beq 0 0) = true from rfl), ok.rg hi, ht]
  show ar (Nat.beq z z) (k (.agg (aw l) z)) = _
  rw [cu]; rfl
theorem ahq (hi : i < 16777215) (hm : 1 ≤ m) (k : AV → aa) : aq M false 1 (.x 1 t (eo 1 i 0) m 1) hp k = k (t.at i) := by
  show ar (Nat.ble 1 m) (ar (Nat.beq 1 1) (when (Nat.beq 1 1) (M.rg.f t (i * 1 + 0) k) (M.rg.f t (Nat.div (i * 1 + 0) 1) fun v => v.jq fun l n => (yD (Nat.mod (i * 1 + 0) 1)).f l k))) = _
  rw [aB (dY hm), aB (cu 1), cQ (cu 1), Nat.mul_one, Nat.add_zero, ok.rg hi]
end
def dV (z n : Nat) (t : Row) (R : Nat → List AV) : Prop := ∀ i, i < n → t.at i = .agg (aw (R i)) z ∧ (R i).length = z
theorem a6k {t : Row} {z i f m n : Nat} {R : Nat → List AV} {hp : Hp} (h : dV z n t R) (hi : i < n ∧ i < 16777215) (hf : f < z ∧ 2 ≤ z ∧ 1 ≤ m) (k : AV → aa) : aq mem false 1 (.x 1 t (eo z i f) m z) hp k = k ((R i).getD f .uu) :=
  ahb dD (h i hi.1).1 (h i hi.1).2 hi.2 hf.1 hf.2.1 hf.2.2 k
theorem yT {t : Row} {z i m n : Nat} {R : Nat → List AV} {hp : Hp} (h : dV z n t R) (hi : i < n ∧ i < 16777215) (hf : 2 ≤ z ∧ z ≤ m) (k : AV → aa) : aq mem true z (.x 1 t (eo z i 0) m z) hp k = k (.agg (aw (R i)) z) :=
  aiT dD (h i hi.1).1 hi.2 hf.1 hf.2 k
theorem ldxs {t : Row} {i m : Nat} {hp : Hp} (hi : i < 16777215 ∧ 1 ≤ m) (k : AV → aa) : aq mem false 1 (.x 1 t (eo 1 i 0) m 1) hp k = k (t.at i) := ahq dD hi.1 hi.2 k
theorem a3M {M : Mem} {l : List AV} {n m : Nat} (h : ∀ v ∈ l, ∀ hp k, (pN M (m + 1)).f hp v k = k v hp) (hp : Hp) (k : AV → Hp → aa) : (pN M (m + 2)).f hp (.agg (aw l) n) k = k (.agg (aw l) n) hp := by
  have hz : ∀ (l : List AV), (∀ v ∈ l, ∀ hp k, (pN M (m + 1)).f hp v k = k v hp) → ∀ (hp : Hp) (k : Row → Hp → aa), zl (pN M (m + 1)) (aw l) hp k = k (aw l) hp := by
    intro l
    induction l with
    | nil => exact fun _ _ _ => rfl
    | cons v l ih =>
      intro h hp k
      show (pN M (m + 1)).f hp v (fun v hp => zl (pN M (m + 1)) (aw l) hp fun r hp => k (.nd v .lf r) hp) = _
      rw [h v (by simp), ih fun w hw => h w (by simp [hw])]
      rfl
  show eM (aw l) (fun p => when p (k (.agg (aw l) n) hp) (zl (pN M (m + 1)) (aw l) hp fun r hp => k (.agg r n) hp)) = _
  rw [fW, hz l h]
  cases iH l <;> rfl
theorem jr {l : List AV} {n : Nat} (h : iH l = true) : Still (.agg (aw l) n) := by
  refine ⟨fun hp k => ?_, fun hc hp b k => ?_⟩
  · show eM (aw l) (fun p => when p (k (.agg (aw l) n) hp) _) = _
    rw [fW, h]; rfl
  · show eM (aw l) (fun p => when p (k (.agg (aw l) n) hc hp b) _) = _
    rw [fW, h]; rfl
theorem a3W {l : List AV} {n : Nat} (h : ∀ v ∈ l, ∀ hc hp b k, (imp mem 23).f v hc hp b k = k v hc hp b) : yx (.bB (aw l) n) := by
  intro hc hp b k
  have hz : ∀ (l : List AV), (∀ v ∈ l, ∀ hc hp b k, (imp mem 23).f v hc hp b k = k v hc hp b) → ∀ hc hp b k, il (imp mem 23) (aw l) hc hp b k = k (aw l) hc hp b := by
    intro l
    induction l with
    | nil => exact fun _ _ _ _ _ => rfl
    | cons v l ih =>
      intro h hc hp b k
      show (imp mem 23).f v hc hp b (fun v hc hp b => il (imp mem 23) (aw l) hc hp b fun r hc hp b => k (.nd v .lf r) hc hp b) = _
      rw [h v (by simp), ih fun w hw => h w (by simp [hw])]
      rfl
  show il (imp mem 23) (aw l) hc hp b (fun r hc hp b => k (.bB r n) hc hp b) = _
  rw [hz l h]
def GoL (v : AV) : Prop := ∀ hc hp b k, (imp mem 23).f v hc hp b k = k v hc hp b
theorem oA (l : List UInt8) : GoL (S l) := fun _ _ _ _ => rfl
theorem a0H (i n : Nat) : GoL (.int i n) := fun _ _ _ _ => rfl
theorem gG (z : Int) : GoL (I z) := a0H 3 _
theorem agH (n : Nat) : GoL (U n) := a0H 7 n
theorem agl (n : Nat) : GoL (B8 n) := a0H 4 n
theorem a2s (b : Bool) : GoL (.bool b) := fun _ _ _ _ => rfl
theorem nu {l : List AV} {n : Nat} (h : iH l = true) : GoL (.agg (aw l) n) := fun hc hp b k => by
  show eM (aw l) (fun p => when p (k (.agg (aw l) n) hc hp b) _) = _
  rw [fW, h]; rfl
theorem gB {a b : AV} (ha : GoL a) (hb : GoL b) : yx (.bB (.nd a .lf (.nd b .lf .lf)) 2) := a3W (l := [a, b]) fun v hv => by
  simp only [List.mem_cons, List.not_mem_nil, or_false] at hv
  rcases hv with rfl | rfl
  · exact ha
  · exact hb
theorem goes3 {a b c : AV} (ha : GoL a) (hb : GoL b) (hc : GoL c) : yx (.bB (.nd a .lf (.nd b .lf (.nd c .lf .lf))) 3) := a3W (l := [a, b, c]) fun v hv => by
  simp only [List.mem_cons, List.not_mem_nil, or_false] at hv
  rcases hv with rfl | rfl | rfl
  · exact ha
  · exact hb
  · exact hc
section
variable {h : Hp} {l : List Nat} {t : Tr bX} {n r : Nat} {b : Nat}
theorem ace : (h.pro l).nx = h.nx := rfl
theorem adl : (h.pro l).pr = l := rfl
theorem acL : (h.pro l).rb = h.rb := rfl
theorem aiR : (h.pro l).at b = h.at b := rfl
theorem agO : (Hp.mk h.t n l r).at b = h.at b := rfl
theorem agT : (Hp.mk t n l r).nx = n := rfl
theorem ah4 : (Hp.mk t n l r).pr = l := rfl
theorem ah0 : (Hp.mk t n l r).rb = r := rfl
theorem a3F {a : List Nat} : pQ [] a = a := rfl
theorem a0e {x : Nat} {l a : List Nat} : pQ (x :: l) a = x :: pQ l a := rfl
end
theorem qG {α : Type} {c : Prop} [Decidable c] {a b v : α} (h1 : c → a = v) (h2 : ¬c → b = v) : (if c then a else b) = v := by
  by_cases h : c
  · rw [if_pos h]; exact h1 h
  · rw [if_neg h]; exact h2 h
theorem adr {M : Mem} {F : bN} {l : Row} {v : AV} (hl : ∀ hp k, zl (pN M 24) l hp k = k l hp) (hv : ∀ hc hp b k, (imp M 24).f v hc hp b k = k v hc hp b) (e : db (F.f l .empty) = some v) (hp : Hp) (k : AV → Hp → aa) : au M false F l hp k = k v hp := by
  obtain ⟨hc, e⟩ := sL e
  show fh M hp l (fun a ho => eX M F a hp ho k) (fe F l hp k) = _
  unfold fh
  rw [hl]
  show eX M F l hp hp k = _
  unfold eX
  rw [e]
  show (imp M 24).f v hc hp false (fun v' _ hp' b => when b _ (k v' hp')) = _
  rw [hv]
  rfl
theorem j6 {F : bN} {l : Row} {v : AV} (hl : ∀ hp k, zl (pN mem 24) l hp k = k l hp) (hv : yx v) (e : db (F.f l .empty) = some v) (hp : Hp) (k : AV → Hp → aa) : au mem false F l hp k = k v hp := adr hl hv e hp k
noncomputable def kpB (B B' : bX) (h : Hp) (b : Nat) (l : List Nat) (hp : Hp) (k : Hp → aa) : aa := match B, B' with
  | .row _ f1 z1 s1 t1, .row r2 _ _ _ _ => gp mem h l (hp.dS b (.row r2 f1 z1 s1 t1)) k
  | _, _ => gp mem h (b :: l) hp k
theorem dd {B B' C C' : bX} {h : Hp} {b : Nat} {l : List Nat} {hp : Hp} {k : Hp → aa} (h1 : mk B = B') (h2 : C = C') : kpB B C h b l hp k = kpB B' C' h b l hp k := by rw [mk_eq] at h1; rw [h1, h2]
theorem bE {M : Mem} {h : Hp} {l l' : List Nat} {hp : Hp} {k : Hp → aa} (h1 : mk l = l') : gp M h l hp k = gp M h l' hp k := by rw [mk_eq] at h1; rw [h1]
theorem bI {l l' : List ((AV → aa) → aa)} {acc : List Nat} {k : List Nat → aa} (h1 : mk l = l') : lZ l acc k = lZ l' acc k := by rw [mk_eq] at h1; rw [h1]
theorem bC {hp h4 : Hp} {v v' : AV} {K : Hp → AV → aa} (h1 : mk v = v') : xt hp h4 v K = xt hp h4 v' K := by rw [mk_eq] at h1; rw [h1]
end Go.Proofs.YtbamejikafhenaaDoor.Ev
namespace Go.Proofs.YtbamejikafhenaaDoor.Tz
set_option linter.defProp false
def Y2 := And.intro @List.length_append.{0} (And.intro @cZ (And.intro @eu (And.intro @te (And.intro @a8S (And.intro @List.length_cons.{0} (And.intro @List.length_nil.{0} (And.intro @List.length_set.{0} (And.intro @pr_e (And.intro @a1E (And.intro @a14 (And.intro @ad0 (And.intro @ace (And.intro @adl (And.intro @agT (And.intro @ah4 (And.intro @ah0 (And.intro @acL (And.intro @a6p (And.intro @abV (And.intro @a6i (And.intro @a3F (@a0e))))))))))))))))))))))
end Go.Proofs.YtbamejikafhenaaDoor.Tz
namespace Go.Proofs.YtbamejikafhenaaDoor.Tz
def sP (W : World) (l : List AV) (vs : List Value) : Prop := l.length = vs.length ∧ ∀ i v, vs[i]? = some v → v.oneCell' = true ∧ ao W (fun B => B < W.heap.size) dQ (l.getD i .uu) v
def yP : Nat → (Nat → AV) → Row
  | 0, _ => .lf
  | k + 1, f => .nd (f 0) (yP k fun i => f (2 * i + 1)) (yP k fun i => f (2 * i + 2))
theorem rE : ∀ (k : Nat) (f : Nat → AV) (i : Nat), i < k → (yP k f).at i = f i
  | 0, _, i, h => absurd h (Nat.not_lt_zero i)
  | k + 1, f, 0, _ => rfl
  | k + 1, f, j + 1, h => by
    show (if j % 2 = 0 then (yP k fun i => f (2 * i + 1)).get .uu (j / 2) else (yP k fun i => f (2 * i + 2)).get .uu (j / 2)) = _
    split
    · exact (rE k _ (j / 2) (by omega)).trans (congrArg f (by omega))
    · exact (rE k _ (j / 2) (by omega)).trans (congrArg f (by omega))
theorem add_plain (b off i : Nat) : (⟨b, off, none⟩ : Addr).add i = ⟨b, off + i, none⟩ := by
  unfold Addr.add; split
  · subst_vars; rfl
  · rfl
theorem a8F {w : World} {p : Addr} {v : Value} (h : w.cell? p = some v) : p.block < w.heap.size := by
  simp only [World.cell?] at h
  split at h
  · rename_i heq
    exact (Array.getElem?_eq_some_iff.1 heq).1
  · cases h
theorem xN : ∀ (l : List AV) (i : Nat), nth (aw l) i = l.getD i .uu
  | [], i => by cases i <;> rfl
  | a :: l, 0 => rfl
  | a :: l, i + 1 => by
    show nth (aw l) i = _
    rw [xN l i]; rfl
structure SlV (z : Nat) (s : AV) (n : Nat) (t : Row) : Prop where
  form : (s = .vs t 0 n z) ∨ (s = .x 8 .lf 0 0 0 ∧ n = 0 ∧ t = .lf)
  ok : mK z s n t
section
variable {H : Type} {enc : TypeId × Value → H} {P : Program} {W : World} {spare : Nat → Bool} {held : Bool}
theorem fV {α : Type} (a0 : α) {av : α → List AV} {In : α → Prop} {t e : TypeId} {z m : Nat} {cs : List Value} {x : DataW H × List MemPlace}
    (ht : P.underlying t = some (.slice e)) (hc : P.cellsOf e = z) (h0 : 0 < z) (hl : ∀ a, (av a).length = z)
    (ho : ∀ m cs x, DataW.trod enc P W 0 spare held m e cs = some x → ∃ a, In a ∧ sP W (av a) cs)
    (h : DataW.trod enc P W 0 spare held m t cs = some x) :
    ∃ (f : Nat → α) (n : Nat) (s : AV) (r : Row), SlV z s n r ∧ (2 ≤ z → dV z n r fun i => av (f i)) ∧ (∀ i, i < n → In (f i)) ∧ sP W [s] cs := by
  rcases DataW.trod_slice ht h with ⟨rfl, _⟩ | ⟨a, len, cap, elems, rest, m', rfl, rfl, _, _, hle, hm, hlen, hel, _, _⟩
  · refine ⟨fun _ => a0, 0, .x 8 .lf 0 0 0, .lf, ⟨.inr ⟨rfl, rfl, rfl⟩, a2M⟩, fun _ i hi => absurd hi (Nat.not_lt_zero i), fun i hi => absurd hi (Nat.not_lt_zero i), rfl, fun i v hv => ?_⟩
    match i with
    | 0 => injection hv with hv; subst hv; exact ⟨rfl, .qK⟩
    | i + 1 => cases hv
  · have key : ∀ i : Nat, i < len → ∃ (y : α) (c : List Value), In y ∧ sP W (av y) c ∧ W.cells? 0 (a.add (i * z)) z = some c := by
      intro i hi
      have h1 := hel i hi
      rw [List.getElem?_eq_getElem (by omega), hc] at h1
      obtain ⟨cs', h2, h3⟩ := Option.bind_eq_some_iff.1 h1
      obtain ⟨y, hy, hr⟩ := ho m' cs' _ h3
      exact ⟨y, cs', hy, hr, h2⟩
    have hcap : cap < 9223372036854775808 := by
      have : maxLen = 9223372036854775807 := by decide
      omega
    have one : ∀ {s : AV}, ao W (fun B => B < W.heap.size) dQ s (.slice (some a) len cap) → sP W [s] [.slice (some a) len cap] := fun hs => ⟨rfl, fun i v hv => by
      match i with
      | 0 => injection hv with hv; subst hv; exact ⟨rfl, hs⟩
      | i + 1 => cases hv⟩
    by_cases hz : len = 0
    · subst hz
      exact ⟨fun _ => a0, 0, .vs .lf 0 0 z, .lf, ⟨.inl rfl, a1N (by decide)⟩, fun _ i hi => absurd hi (Nat.not_lt_zero i), fun i hi => absurd hi (Nat.not_lt_zero i), one .vs0⟩
    · obtain ⟨y0, c0, _, hr0, hy0⟩ := key 0 (by omega)
      obtain ⟨_, hl0, hc0⟩ := World.cells?_some hy0
      have ha : W.cell? a = c0[0]? := by have := hc0 0 h0; simpa [Addr.add] using this
      have hsome : c0[0]? = some (c0[0]'(by omega)) := List.getElem?_eq_getElem _
      rw [hsome] at ha
      obtain ⟨b, off, spot⟩ := a
      have hs : spot = none := by
        cases spot with
        | none => rfl
        | some s =>
          simp only [World.cell?] at ha
          split at ha <;> simp at ha
      subst hs
      have hblt : b < W.heap.size := a8F ha
      have key2 : ∀ i : Nat, ∃ y : α, i < len → In y ∧ ∃ c, sP W (av y) c ∧ W.cells? 0 ((⟨b, off, none⟩ : Addr).add (i * z)) z = some c := fun i => by
        by_cases hi : i < len
        · obtain ⟨y, c, h1, h2, h3⟩ := key i hi
          exact ⟨y, fun _ => ⟨h1, c, h2, h3⟩⟩
        · exact ⟨a0, fun h => absurd h hi⟩
      let f : Nat → α := fun i => Classical.choose (key2 i)
      have hf : ∀ i, i < len → In (f i) ∧ ∃ c, sP W (av (f i)) c ∧ W.cells? 0 ((⟨b, off, none⟩ : Addr).add (i * z)) z = some c := fun i => Classical.choose_spec (key2 i)
      let g : Nat → AV := fun i => if z = 1 then (av (f i)).getD 0 .uu else .agg (aw (av (f i))) z
      have hg : ∀ i j, i < len → j < z → cellAt z (yP len g) (i * z + j) = (av (f i)).getD j .uu := fun i j hi hj => by
        unfold cellAt
        by_cases hz1 : z = 1
        · subst hz1
          obtain rfl : j = 0 := by omega
          rw [if_pos rfl, Nat.mul_one, Nat.add_zero, rE len g i hi]
          show (if 1 = 1 then _ else _) = _
          rw [if_pos rfl]
        · have e1 : (i * z + j) / z = i := by rw [Nat.mul_comm, Nat.mul_add_div h0, Nat.div_eq_of_lt hj, Nat.add_zero]
          have e2 : (i * z + j) % z = j := by rw [Nat.mul_comm, Nat.mul_add_mod, Nat.mod_eq_of_lt hj]
          rw [if_neg hz1, e1, e2, rE len g i hi]
          show elc (if z = 1 then _ else AV.agg (aw (av (f i))) z) j = _
          rw [if_neg hz1]
          exact xN _ j
      have hcell : ∀ k, k < len * z → ∃ v, W.cell? ⟨b, off + k, none⟩ = some v ∧ v.oneCell' = true ∧ ao W (fun B => B < W.heap.size) dQ (cellAt z (yP len g) k) v := fun k hk => by
        have hi : k / z < len := Nat.div_lt_of_lt_mul (by rw [Nat.mul_comm]; exact hk)
        have hj : k % z < z := Nat.mod_lt k h0
        have hk2 : k / z * z + k % z = k := Nat.div_add_mod' k z
        obtain ⟨_, c, hr, hcs⟩ := hf (k / z) hi
        obtain ⟨_, hlc, hcc⟩ := World.cells?_some hcs
        have hx : c[k % z]? = some (c[k % z]'(by omega)) := List.getElem?_eq_getElem _
        have h1 := hcc (k % z) hj
        rw [add_plain, add_plain, Nat.add_assoc, hk2, hx] at h1
        obtain ⟨h2, h3⟩ := hr.2 _ _ hx
        have h4 := hg (k / z) (k % z) hi hj
        rw [hk2] at h4
        rw [h4]
        exact ⟨_, h1, h2, h3⟩
      refine ⟨f, len, .vs (yP len g) 0 len z, yP len g, ⟨.inl rfl, a1N (by omega)⟩, fun h2 i hi => ⟨?_, hl _⟩, fun i hi => (hf i hi).1, one ?_⟩
      · rw [rE len g i hi]
        show (if z = 1 then _ else AV.agg (aw (av (f i))) z) = _
        rw [if_neg (by omega)]
      · let us : Nat → Value := fun k => if h : k < len * z then Classical.choose (hcell k h) else .nilIface
        have hus : ∀ k, k < len * z → W.cell? ⟨b, off + k, none⟩ = some (us k) ∧ (us k).oneCell' = true ∧ ao W (fun B => B < W.heap.size) dQ (cellAt z (yP len g) k) (us k) := fun k hk => by
          simp only [us, dif_pos hk]
          exact Classical.choose_spec (hcell k hk)
        exact .vs us hblt hle (fun k hk => (hus k hk).1) (fun k hk => (hus k hk).2.1) fun k hk => by rw [Nat.zero_mul, Nat.zero_add]; exact (hus k hk).2.2
theorem pw : sP W [] [] := ⟨rfl, fun i v hv => by cases hv⟩
theorem bR {a : AV} {l : List AV} {c : Value} {vs : List Value} (h : sP W [a] [c]) (k : sP W l vs) : sP W (a :: l) (c :: vs) :=
  ⟨by simp [k.1], fun i v hv => by
    match i with
    | 0 => exact h.2 0 v hv
    | i + 1 => exact k.2 i v hv⟩
theorem yj {c : Value} (h : c.oneCell' = true) : sP W [.uu] [c] := ⟨rfl, fun i v hv => by
  match i with
  | 0 => injection hv with hv; subst hv; exact ⟨h, .uu _⟩
  | i + 1 => cases hv⟩
theorem a5A {a : AV} {c : Value} (h : c.oneCell' = true) (k : ao W (fun B => B < W.heap.size) dQ a c) : sP W [a] [c] := ⟨rfl, fun i v hv => by
  match i with
  | 0 => injection hv with hv; subst hv; exact ⟨h, k⟩
  | i + 1 => cases hv⟩
theorem rel_B {F : Nat → Prop} {μ : Mu} {n : Nat} (h : n < 256) : ao W F μ (B8 n) (.int .u8 n) := by
  have := ao.int (w := W) (F := F) (μ := μ) (k := 4) (n := n) (by show n < 256; exact h)
  have e : (kd 4).wrap (n : Int) = n := by
    show IntKind.u8.wrap _ = _
    simp only [IntKind.wrap]
    first
      | omega
      | (simp [IntKind.bits, IntKind.signed]; omega)
  rw [e] at this
  exact this
theorem dF {t : TypeId} {m : Nat} {cs : List Value} {x : DataW H × List MemPlace} (ht : P.underlying t = some (.int .i64)) (h : DataW.trod enc P W 0 spare held m t cs = some x) : ∃ z, gD z ∧ sP W [I z] cs := by
  obtain ⟨z, rfl, _, hw⟩ := DataW.trod_int ht h
  have : gD z := by
    simp only [Lit.wf, Bool.and_eq_true, decide_eq_true_eq] at hw
    have e1 : IntKind.i64.min = -9223372036854775808 := by decide
    have e2 : IntKind.i64.max = 9223372036854775807 := by decide
    unfold gD; omega
  exact ⟨z, this, a5A rfl (a7j this)⟩
theorem sj {t : TypeId} {m : Nat} {cs : List Value} {x : DataW H × List MemPlace} (ht : P.underlying t = some (.int .u8)) (h : DataW.trod enc P W 0 spare held m t cs = some x) : ∃ n, n < 256 ∧ sP W [B8 n] cs := by
  obtain ⟨z, rfl, _, hw⟩ := DataW.trod_int ht h
  simp only [Lit.wf, Bool.and_eq_true, decide_eq_true_eq] at hw
  have e1 : IntKind.u8.min = 0 := by decide
  have e2 : IntKind.u8.max = 255 := by decide
  obtain ⟨n, rfl⟩ : ∃ n : Nat, z = n := ⟨z.toNat, by omega⟩
  exact ⟨n, by omega, a5A rfl (rel_B (by omega))⟩
theorem open_int {k : IntKind} {t : TypeId} {m : Nat} {cs : List Value} {x : DataW H × List MemPlace} (ht : P.underlying t = some (.int k)) (h : DataW.trod enc P W 0 spare held m t cs = some x) : sP W [.uu] cs := by
  obtain ⟨z, rfl, _, hw⟩ := DataW.trod_int ht h
  exact yj rfl
theorem oE {t : TypeId} {m : Nat} {cs : List Value} {x : DataW H × List MemPlace} (ht : P.underlying t = some .string) (h : DataW.trod enc P W 0 spare held m t cs = some x) : ∃ l : List UInt8, l.length < 9223372036854775808 ∧ sP W [S l] cs := by
  obtain ⟨s, rfl, _, hw⟩ := DataW.trod_string ht h
  refine ⟨s.data.toList, ?_, a5A rfl .str⟩
  have : maxLen = 9223372036854775807 := by decide
  show s.size < _
  omega
theorem yG {t e : TypeId} {m : Nat} {cs : List Value} {x : DataW H × List MemPlace} (ht : P.underlying t = some (.slice e)) (h : DataW.trod enc P W 0 spare held m t cs = some x) : sP W [.uu] cs := by
  rcases DataW.trod_slice ht h with ⟨rfl, _⟩ | ⟨a, len, cap, elems, rest, m', rfl, rfl, _⟩
  · exact yj rfl
  · exact yj rfl
theorem eV {t : TypeId} {m : Nat} {cs : List Value} {x : DataW H × List MemPlace} {l : List (TypeId × Nat)} {z : Nat}
    (hh : (P.underlying t).map (fun d => match d with | .struct fs => fs.toList.map (fun f => (f.type, f.offset)) | _ => []) = some l) (hl : l ≠ []) (hz : P.cellsOf t = z) (h : DataW.trod enc P W 0 spare held m t cs = some x) :
    cs.length = z ∧ ∃ m', ∀ (i : Nat) (ty : TypeId) (off : Nat), l[i]? = some (ty, off) → ∃ y, DataW.trod enc P W 0 spare held m' ty ((cs.drop off).take (P.cellsOf ty)) = some y := by
  obtain ⟨fs, hu, hfs⟩ : ∃ fs : Array Field, P.underlying t = some (.struct fs) ∧ fs.toList.map (fun f => (f.type, f.offset)) = l := by
    cases hu : P.underlying t with
    | none => rw [hu] at hh; simp at hh
    | some d => cases d with
      | struct fs => rw [hu] at hh; simp only [Option.map_some, Option.some.injEq] at hh; exact ⟨fs, rfl, hh⟩
      | _ => rw [hu] at hh; simp at hh; exact absurd hh hl
  obtain ⟨xs, m, rfl, -, hlen, hxl, hf⟩ := DataW.trod_struct hu h
  refine ⟨hlen.trans hz, m, fun i ty off hi => ?_⟩
  rw [← hfs, List.getElem?_map] at hi
  obtain ⟨f, hfi, he⟩ := Option.map_eq_some_iff.1 hi
  simp only [Prod.mk.injEq] at he
  obtain ⟨rfl, rfl⟩ := he
  have h1 := hf i f (by simpa using hfi)
  have hil : i < xs.length := by
    have := (List.getElem?_eq_some_iff.1 hfi).1
    rw [hxl]; simpa using this
  rw [List.getElem?_eq_getElem hil] at h1
  exact ⟨_, h1⟩
end
end Go.Proofs.YtbamejikafhenaaDoor.Tz
