import Derived.Test.YtbamejikafhenaaDoorEvAE
namespace Go.Proofs.YtbamejikafhenaaDoor.Ev
def dz (w : World) (F : Nat → Prop) (μ : Mu) : Option AV → Option Value → Prop
  | none, none => True
  | some a, some v => ao w F μ a v
  | _, _ => False
theorem run_sliceBound {P : Program} {w : World} {k : IntKind} {m y : Nat} (h : m ≤ y) (code : BoundsCode) : (Instr.sliceBound (.int k (m : Int)) y code).run P w = .ok m w := by
  have h1 : ((m : Int) ≤ (y : Int)) := by omega
  simp [Instr.sliceBound, asIntOf, h1]
noncomputable def lowK (lo : Option AV) (h : Nat) (c : Nat → Nat → Bool → aa) (e : Nat → Bool) : aa := match lo with | none => c 0 h (e 0) | some v => gY v h fun l => c l h (e l)
def Bnd (lo : Option AV) (l d : Nat) : Prop := (lo = none ∧ l = d) ∨ ∃ i, lo = some (.int i l) ∧ (4 ≤ i ∨ l < hf i)
theorem Bnd.val {lo : Option AV} {l d : Nat} (h : Bnd lo l d) {w : World} {F : Nat → Prop} {μ : Mu} {u : Option Value} (hu : dz w F μ lo u) : (lo = none ∧ u = none ∧ l = d) ∨ (lo.isSome = true ∧ ∃ k, u = some (.int k (l : Int))) := by
  rcases h with ⟨rfl, rfl⟩ | ⟨i, rfl, hn⟩
  · cases u with
    | none => exact .inl ⟨rfl, rfl, rfl⟩
    | some v => exact hu.elim
  · cases u with
    | none => exact hu.elim
    | some v => exact .inr ⟨rfl, kd i, by rw [lu hn hu]⟩
section
variable {P : Program} {R : aa} (hR : R ≠ .fail)
include hR
theorem xF {lo : Option AV} {h : Nat} {c : Nat → Nat → Bool → aa} {e : Nat → Bool} (g : lowK lo h c e = R) : ∃ l, c l h (e l) = R ∧ l ≤ h ∧ Bnd lo l 0 := by
  cases lo with
  | none => exact ⟨0, g, Nat.zero_le _, .inl ⟨rfl, rfl⟩⟩
  | some v =>
    obtain ⟨i, m, rfl, hm, hn, g2⟩ := mc hR (show gY v h (fun l => c l h (e l)) = R from g)
    exact ⟨m, g2, hm, .inr ⟨i, rfl, hn⟩⟩
theorem iW {lo hi mx : Option AV} {n : Nat} {c : Nat → Nat → Bool → aa} (g : bounds lo hi mx n c = R) : ∃ l h e m, c l h e = R ∧ l ≤ h ∧ h ≤ n ∧ (mx.isSome = true → h ≤ m ∧ m ≤ n ∧ e = Nat.beq m l) ∧ (mx = none → e = false) ∧
    Bnd lo l 0 ∧ Bnd hi h n ∧ Bnd mx m m ∧ (mx.isSome = true → hi.isSome = true) := by
  cases mx with
  | none =>
    cases hi with
    | none =>
      obtain ⟨l, g, hl, hb⟩ := xF hR (show lowK lo n c (fun _ => false) = R from g)
      exact ⟨l, n, _, 0, g, hl, Nat.le_refl _, (fun e => by cases e), fun _ => rfl, hb, .inl ⟨rfl, rfl⟩, .inl ⟨rfl, rfl⟩, fun e => by cases e⟩
    | some v =>
      obtain ⟨i, h, rfl, hh, hn, g2⟩ := mc hR (show gY v n (fun h => lowK lo h c (fun _ => false)) = R from g)
      obtain ⟨l, g, hl, hb⟩ := xF hR g2
      exact ⟨l, h, _, 0, g, hl, hh, (fun e => by cases e), fun _ => rfl, hb, .inr ⟨i, rfl, hn⟩, .inl ⟨rfl, rfl⟩, fun e => by cases e⟩
  | some x =>
    cases hi with
    | none =>
      obtain ⟨i, m, rfl, hm, hmn, g2⟩ := mc hR (show gY x n (fun m => .fail) = R from g)
      exact an hR g2
    | some v =>
      obtain ⟨i, m, rfl, hm, hmn, g2⟩ := mc hR (show gY x n (fun m => gY v m fun h => lowK lo h c (fun l => Nat.beq m l)) = R from g)
      obtain ⟨j, h, rfl, hh, hn, g3⟩ := mc hR g2
      obtain ⟨l, g, hl, hb⟩ := xF hR g3
      exact ⟨l, h, _, m, g, hl, Nat.le_trans hh hm, (fun _ => ⟨hh, hm, rfl⟩), (fun e => by cases e), hb, .inr ⟨j, rfl, hn⟩, .inr ⟨i, rfl, hmn⟩, fun _ => rfl⟩
omit hR in
theorem jd {w : World} {F : Nat → Prop} {μ : Mu} {lo hi mx : Option AV} {ulo uhi umx : Option Value} {s : Bool} {l h m n cap : Nat} (h1 : dz w F μ lo ulo) (h2 : dz w F μ hi uhi) (h3 : dz w F μ mx umx)
    (b1 : Bnd lo l 0) (b2 : Bnd hi h n) (b3 : Bnd mx m m) (hsome : mx.isSome = true → hi.isSome = true) (hl : l ≤ h) (hh : h ≤ n) (hm : mx.isSome = true → h ≤ m ∧ m ≤ n) (hc : n ≤ cap) :
    (Instr.sliceBounds s n cap ulo uhi umx).run P w = .ok (l, h, if mx.isSome = true then m else cap) w := by
  rcases b3.val h3 with ⟨rfl, rfl, _⟩ | ⟨e3, k3, rfl⟩
  · rcases b2.val h2 with ⟨rfl, rfl, rfl⟩ | ⟨e2, k2, rfl⟩
    · rcases b1.val h1 with ⟨rfl, rfl, rfl⟩ | ⟨e1, k1, rfl⟩
      · simp [Instr.sliceBounds]
      · simp [Instr.sliceBounds, run_sliceBound hl]
    · have hhc := Nat.le_trans hh hc
      rcases b1.val h1 with ⟨rfl, rfl, rfl⟩ | ⟨e1, k1, rfl⟩
      · simp [Instr.sliceBounds, run_sliceBound hhc]
      · simp [Instr.sliceBounds, run_sliceBound hhc, run_sliceBound hl]
  · obtain ⟨q1, q2⟩ := hm e3
    have hmc := Nat.le_trans q2 hc
    rcases b2.val h2 with ⟨rfl, _, _⟩ | ⟨e2, k2, rfl⟩
    · have := hsome e3; cases this
    · rcases b1.val h1 with ⟨rfl, rfl, rfl⟩ | ⟨e1, k1, rfl⟩
      · simp [Instr.sliceBounds, run_sliceBound hmc, run_sliceBound q1, e3]
      · simp [Instr.sliceBounds, run_sliceBound hmc, run_sliceBound q1, run_sliceBound hl, e3]
end
def a6J (P : Program) (s : Value → Option Value → Option Value → Option Value → Sem Value) (x : AV) (lo hi mx : Option AV) (v : AV) : Prop :=
  ∀ {w : World} {F : Nat → Prop} {μ : Mu} {u : Value} {a b c : Option Value}, ao w F μ x u → dz w F μ lo a → dz w F μ hi b → dz w F μ mx c → ∃ r, (s u a b c).run P w = .ok r w ∧ ao w F μ v r
section
variable {P : Program} {R : aa} (hR : R ≠ .fail)
omit hR in
theorem ow {t e : TypeId} {i : TypeInfo} (ht : eI P t = some (.slice e)) (hi : P.info? e = some i) {w : World} {ad : Option Addr} {n cap l h m : Nat} {a b c : Option Value} (hb : (Instr.sliceBounds true n cap a b c).run P w = .ok (l, h, m) w) :
    (Instr.sliceAt t (.slice ad n cap) a b c).run P w = .ok (.slice (if m = l then ad else ad.map (·.add (l * i.size))) (h - l) (m - l)) w := by
  simp [Instr.sliceAt, Instr.slice, run_underlying (aE ht).1, hb, sizeOf, typeInfo, hi]
include hR
theorem a4J {t e : TypeId} (ht : eI P t = some (.slice e)) {z : Nat} (hsz : bw P e = z) (hz : 1 ≤ z) {x : AV} {lo hi mx : Option AV} {k : AV → aa} (g : eS z x lo hi mx k = R) : ∃ v, k v = R ∧ a6J P (Instr.sliceAt t) x lo hi mx v := by
  obtain ⟨i, _, hi', hsi⟩ := ji (P := P) (t := e) (by omega)
  have hiz : i.size = z := by omega
  rcases gV hR g with ⟨b, o, n, y, rfl, g⟩ | ⟨tt, o, n, y, rfl, g⟩ | ⟨i', tt, a', b', c, rfl, g⟩ | ⟨s, n, rfl, g⟩
  · obtain ⟨hy, g2⟩ := ax hR g
    rw [aF] at hy
    obtain ⟨l, h, e', m, g3, hl, hh, h1, h2, b1, b2, b3, b4⟩ := iW hR g2
    have hm : mx.isSome = true → h ≤ m ∧ m ≤ n := fun e => ⟨(h1 e).1, (h1 e).2.1⟩
    have hrun : ∀ {w : World} {F : Nat → Prop} {μ : Mu} {ad : Option Addr} {cap : Nat} {a bb c : Option Value}, dz w F μ lo a → dz w F μ hi bb → dz w F μ mx c → n ≤ cap →
        (Instr.sliceAt t (.slice ad n cap) a bb c).run P w = .ok (.slice (if (if mx.isSome = true then m else cap) = l then ad else ad.map (·.add (l * i.size))) (h - l) ((if mx.isSome = true then m else cap) - l)) w := fun q1 q2 q3 hc => ow ht hi' (jd q1 q2 q3 b1 b2 b3 b4 hl hh hm hc)
    rcases aM hR g3 with ⟨he, g4⟩ | ⟨he, g4⟩
    · have hs : mx.isSome = true := by cases mx with
        | none => rw [h2 rfl] at he; cases he
        | some _ => rfl
      have hml : m = l := by rw [← aF, ← (h1 hs).2.2]; exact he
      refine ⟨_, g4, fun {w F μ u a bb c} ha q1 q2 q3 => ?_⟩
      have fin : ∀ {ad : Addr} {cap : Nat}, n ≤ cap → ∃ r, (Instr.sliceAt t (.slice (some ad) n cap) a bb c).run P w = .ok r w ∧ ao w F μ (.x 6 .lf 0 0 0) r := fun {ad cap} hc => by
        refine ⟨_, hrun q1 q2 q3 hc, ?_⟩
        have := (h1 hs).1
        rw [if_pos hs, if_pos hml, show h - l = 0 by omega, show m - l = 0 by omega]
        exact .emp
      cases ha with
      | ms hm hc hs => exact fin hc
      | ms0 => exact fin (Nat.le_refl _)
    · rw [az, az] at g4
      refine ⟨_, g4, fun {w F μ u a bb c} ha q1 q2 q3 => ?_⟩
      have hcase : ∀ {cap : Nat}, n ≤ cap → h ≤ (if mx.isSome = true then m else cap) ∧ (if mx.isSome = true then m else cap) ≤ cap := fun {cap} hc => by
        by_cases hs : mx.isSome = true
        · rw [if_pos hs]; have := hm hs; omega
        · rw [if_neg hs]; omega
      cases ha with
      | ms hmu hc hcs =>
        rename_i cap mp
        obtain ⟨c1, c2⟩ := hcase hc
        refine ⟨_, hrun q1 q2 q3 hc, ?_⟩
        generalize (if mx.isSome = true then m else cap) = M at *
        by_cases e1 : M = l
        · rw [if_pos e1, show h - l = 0 by omega, show M - l = 0 by omega]
          show ao w F μ (.ms b (o + l * z) (h - l) z) _
          rw [show h - l = 0 by omega]; exact .ms0
        · rw [if_neg e1]
          show ao w F μ (.ms b (o + l * z) (h - l) z) (.slice (some ((⟨mp.c8, mp.base + o, none⟩ : Addr).add (l * i.size))) (h - l) (M - l))
          rw [Addr.add_mid, Nat.add_assoc, hiz]
          refine .ms hmu (by omega) ?_
          have : (M - l) * z + l * z = M * z := by rw [← Nat.add_mul]; congr 1; omega
          have h3 : M * z ≤ cap * z := Nat.mul_le_mul_right z c2
          rw [hy] at hcs; omega
      | ms0 =>
        obtain ⟨c1, c2⟩ := hcase (Nat.le_refl 0)
        refine ⟨_, hrun q1 q2 q3 (Nat.le_refl 0), ?_⟩
        generalize (if mx.isSome = true then m else 0) = M at *
        show ao w F μ (.ms b (o + l * z) (h - l) z) _
        rw [if_pos (by omega), show h - l = 0 by omega, show M - l = 0 by omega]; exact .ms0
  · obtain ⟨hy, g2⟩ := ax hR g
    rw [aF] at hy
    obtain ⟨l, h, e', m, g3, hl, hh, h1, h2, b1, b2, b3, b4⟩ := iW hR g2
    have hm : mx.isSome = true → h ≤ m ∧ m ≤ n := fun e => ⟨(h1 e).1, (h1 e).2.1⟩
    have hrun : ∀ {w : World} {F : Nat → Prop} {μ : Mu} {ad : Option Addr} {cap : Nat} {a bb c : Option Value}, dz w F μ lo a → dz w F μ hi bb → dz w F μ mx c → n ≤ cap →
        (Instr.sliceAt t (.slice ad n cap) a bb c).run P w = .ok (.slice (if (if mx.isSome = true then m else cap) = l then ad else ad.map (·.add (l * i.size))) (h - l) ((if mx.isSome = true then m else cap) - l)) w := fun q1 q2 q3 hc => ow ht hi' (jd q1 q2 q3 b1 b2 b3 b4 hl hh hm hc)
    rcases aM hR g3 with ⟨he, g4⟩ | ⟨he, g4⟩
    · have hs : mx.isSome = true := by cases mx with
        | none => rw [h2 rfl] at he; cases he
        | some _ => rfl
      have hml : m = l := by rw [← aF, ← (h1 hs).2.2]; exact he
      refine ⟨_, g4, fun {w F μ u a bb c} ha q1 q2 q3 => ?_⟩
      have fin : ∀ {ad : Addr} {cap : Nat}, n ≤ cap → ∃ r, (Instr.sliceAt t (.slice (some ad) n cap) a bb c).run P w = .ok r w ∧ ao w F μ (.x 6 .lf 0 0 0) r := fun {ad cap} hc => by
        refine ⟨_, hrun q1 q2 q3 hc, ?_⟩
        have := (h1 hs).1
        rw [if_pos hs, if_pos hml, show h - l = 0 by omega, show m - l = 0 by omega]
        exact .emp
      cases ha with
      | vs us hF hc hu h1 h => exact fin hc
      | vs0 => exact fin (Nat.zero_le _)
    · rw [az, az] at g4
      refine ⟨_, g4, fun {w F μ u a bb c} ha q1 q2 q3 => ?_⟩
      have hcase : ∀ {cap : Nat}, n ≤ cap → h ≤ (if mx.isSome = true then m else cap) ∧ (if mx.isSome = true then m else cap) ≤ cap := fun {cap} hc => by
        by_cases hs : mx.isSome = true
        · rw [if_pos hs]; have := hm hs; omega
        · rw [if_neg hs]; omega
      cases ha with
      | vs us hF hc hu ho1 hrel =>
        rename_i B off cap
        obtain ⟨c1, c2⟩ := hcase hc
        refine ⟨_, hrun q1 q2 q3 hc, ?_⟩
        generalize (if mx.isSome = true then m else cap) = M at *
        show ao w F μ (.vs tt (o + l) (h - l) z) _
        by_cases e1 : M = l
        · rw [if_pos e1, show h - l = 0 by omega]; exact .vs0
        · rw [if_neg e1]
          show ao w F μ (.vs tt (o + l) (h - l) z) (.slice (some ((⟨B, off, none⟩ : Addr).add (l * i.size))) (h - l) (M - l))
          rw [Addr.add_mid, hiz]
          rw [hy] at hu ho1 hrel
          have hlt : ∀ i, i < (h - l) * z → l * z + i < n * z := fun i hi => by
            have h3 : (h - l) * z + l * z = h * z := by rw [← Nat.add_mul]; congr 1; omega
            have h4 : h * z ≤ n * z := Nat.mul_le_mul_right z hh
            omega
          refine .vs (fun i => us (l * z + i)) hF (by omega) (fun i hi => ?_) (fun i hi => ho1 _ (hlt i hi)) fun i hi => ?_
          · rw [Nat.add_assoc]; exact hu _ (hlt i hi)
          · rw [Nat.add_mul, Nat.add_assoc]; exact hrel _ (hlt i hi)
      | @vs0 _ _ _ _ cap ad_ =>
        have hl0 : l = 0 := by omega
        refine ⟨_, hrun q1 q2 q3 (Nat.zero_le cap), ?_⟩
        generalize (if mx.isSome = true then m else cap) = M at *
        show ao w F μ (.vs tt (o + l) (h - l) z) _
        rw [show h - l = 0 by omega]
        by_cases e1 : M = l
        · rw [if_pos e1]; exact .vs0
        · rw [if_neg e1]; exact .vs0
  · have nilc : ∀ {ad : Option Addr} {v : AV}, (∀ {w : World} {F : Nat → Prop} {μ : Mu} {ad' : Option Addr}, (ad = none → ad' = none) → (ad.isSome = true → ad'.isSome = true) → ao w F μ v (.slice ad' 0 0)) → bounds lo hi mx 0 (fun _ _ _ => k v) = R →
        k v = R ∧ ∀ {w : World} {F : Nat → Prop} {μ : Mu} {a bb c : Option Value}, dz w F μ lo a → dz w F μ hi bb → dz w F μ mx c → ∃ r, (Instr.sliceAt t (.slice ad 0 0) a bb c).run P w = .ok r w ∧ ao w F μ v r := by
      intro ad v hv g2
      obtain ⟨l, h, e', m, g3, hl, hh, h1, h2, b1, b2, b3, b4⟩ := iW hR g2
      have hm : mx.isSome = true → h ≤ m ∧ m ≤ 0 := fun e => ⟨(h1 e).1, (h1 e).2.1⟩
      refine ⟨g3, fun {w F μ a bb c} q1 q2 q3 => ⟨_, ow ht hi' (jd q1 q2 q3 b1 b2 b3 b4 hl hh hm (Nat.le_refl 0)), ?_⟩⟩
      have hM : (if mx.isSome = true then m else 0) = 0 := by
        by_cases hs : mx.isSome = true
        · rw [if_pos hs]; have := hm hs; omega
        · rw [if_neg hs]
      rw [hM, show h - l = 0 by omega, show 0 - l = 0 by omega]
      exact hv (fun e => by subst e; split <;> rfl) (fun e => by
        obtain ⟨q, rfl⟩ := Option.isSome_iff_exists.1 e
        split <;> rfl)
    rcases aM hR g with ⟨hg, g2⟩ | ⟨_, g2⟩
    · rw [aF] at hg
      obtain ⟨g3, H⟩ := nilc (ad := none) (v := .x 8 .lf 0 0 0) (fun h _ => by rw [h rfl]; exact .qK) g2
      refine ⟨_, g3, fun {w F μ u a bb c} ha q1 q2 q3 => ?_⟩
      subst hg
      cases ha
      exact H q1 q2 q3
    · obtain ⟨hg, g2⟩ := ax hR g2
      rw [aF] at hg
      obtain ⟨g3, _⟩ := nilc (ad := some default) (v := .x 6 .lf 0 0 0) (fun _ h => by
        obtain ⟨q, hq⟩ := Option.isSome_iff_exists.1 (h rfl)
        rw [hq]; exact .emp) g2
      refine ⟨_, g3, fun {w F μ u a bb c} ha q1 q2 q3 => ?_⟩
      subst hg
      cases ha with
      | emp =>
        rename_i p
        exact (nilc (ad := some p) (v := .x 6 .lf 0 0 0) (fun _ h => by
          obtain ⟨q, hq⟩ := Option.isSome_iff_exists.1 (h rfl)
          rw [hq]; exact .emp) g2).2 q1 q2 q3
  · exact an hR g
end
section
variable {P : Program} {R : aa} (hR : R ≠ .fail)
theorem run_indexAt_slice {t e : TypeId} {i : TypeInfo} (ht : eI P t = some (.slice e)) (hi : P.info? e = some i) {w : World} {a : Addr} {n cap j : Nat} {k : IntKind} (hj : j < n) :
    (Instr.indexAt t (.slice (some a) n cap) (.int k (j : Int))).run P w = .ok (.pointer (some (a.add (j * i.size)))) w := by
  have h1 : (j : Int) < (n : Int) := by omega
  simp [Instr.indexAt, asIntOf, run_underlying (aE ht).1, sizeOf, typeInfo, hi]
  intro h; omega
theorem run_indexAt_array {t e : TypeId} {n : Nat} {i : TypeInfo} (ht : eI P t = some (.array n e)) (hi : P.info? e = some i) {w : World} {a : Addr} {j : Nat} {k : IntKind} (hj : j < n) :
    (Instr.indexAt t (.pointer (some a)) (.int k (j : Int))).run P w = .ok (.pointer (some (a.add (j * i.size)))) w := by
  have h1 : (j : Int) < (n : Int) := by omega
  simp [Instr.indexAt, asIntOf, run_underlying (aE ht).1, sizeOf, typeInfo, hi, Instr.sureAddr]
  intro h; omega
include hR
theorem z6 {t e : TypeId} (ht : eI P t = some (.slice e)) {z : Nat} (hsz : bw P e = z) (hz : 1 ≤ z) {x j : AV} {k : AV → aa} (g : indexAddr z x j k = R) : ∃ v, k v = R ∧ iq P (Instr.indexAt t) x j v := by
  obtain ⟨i, _, hi', hsi⟩ := ji (P := P) (t := e) (by omega)
  have hiz : i.size = z := by omega
  rcases gV hR g with ⟨b, o, n, y, rfl, g⟩ | ⟨tt, o, n, y, rfl, g⟩ | ⟨i', tt, a', b', c, rfl, g⟩ | ⟨s, n, rfl, g⟩
  · obtain ⟨i', m, rfl, hm, hn, g⟩ := lQ hR g
    rw [az] at g
    refine ⟨_, g, fun {w F μ u u'} ha hb => ?_⟩
    rw [lu hn hb]
    cases ha with
    | ms hmu hc hcs =>
      refine ⟨_, run_indexAt_slice ht hi' hm, ?_⟩
      rw [Addr.add_mid, Nat.add_assoc, hiz]; exact .ptr hmu
    | ms0 => exact absurd hm (Nat.not_lt_zero _)
  · obtain ⟨hy, g⟩ := ax hR g
    rw [aF] at hy
    obtain ⟨i', m, rfl, hm, hn, g⟩ := lQ hR g
    rw [az] at g
    refine ⟨_, g, fun {w F μ u u'} ha hb => ?_⟩
    rw [lu hn hb]
    cases ha with
    | vs us hF hc hu h1 h =>
      refine ⟨_, run_indexAt_slice ht hi' hm, ?_⟩
      rw [Addr.add_mid, hiz]
      rw [hy] at hu h1 h
      have hlt : ∀ i, i < z → m * z + i < n * z := fun i hi => by
        have : (m + 1) * z ≤ n * z := Nat.mul_le_mul_right z hm
        rw [Nat.add_mul, Nat.one_mul] at this; omega
      refine .pO (fun i => us (m * z + i)) hF (fun i hi => ?_) (fun i hi => h1 _ (hlt i hi)) fun i hi => ?_
      · rw [Nat.add_assoc]; exact hu _ (hlt i hi)
      · show ao w F dQ (cellAt z tt ((o + m) * z + i)) _
        rw [Nat.add_mul, Nat.add_assoc]; exact h _ (hlt i hi)
    | vs0 => exact absurd hm (Nat.not_lt_zero _)
  · exact an hR g
  · exact an hR g
theorem a1h {t e : TypeId} {n : Nat} (ht : eI P t = some (.array n e)) {z : Nat} (hsz : bw P e = z) (hz : 1 ≤ z) {x j : AV} {k : AV → aa} (g : kB z n x j k = R) : ∃ v, k v = R ∧ iq P (Instr.indexAt t) x j v := by
  obtain ⟨i, _, hi', hsi⟩ := ji (P := P) (t := e) (by omega)
  have hiz : i.size = z := by omega
  rcases kp hR g with ⟨b, o, rfl, g⟩ | ⟨tt, o, m', y, rfl, g⟩
  · obtain ⟨i', m, rfl, hm, hn, g⟩ := lQ hR g
    rw [az] at g
    refine ⟨_, g, fun {w F μ u u'} ha hb => ?_⟩
    rw [lu hn hb]
    obtain ⟨mp, hmu, rfl⟩ := jX ha
    refine ⟨_, run_indexAt_array ht hi' hm, ?_⟩
    rw [Addr.add_mid, Nat.add_assoc, hiz]; exact .ptr hmu
  · obtain ⟨i', m, rfl, hm, hn, g⟩ := lQ hR g
    obtain ⟨hle, g⟩ := ax hR g
    rw [bA] at hle
    rw [az] at g
    have hle : (m + 1) * z ≤ m' := hle
    rw [Nat.add_mul, Nat.one_mul] at hle
    refine ⟨_, g, fun {w F μ u u'} ha hb => ?_⟩
    rw [lu hn hb]
    cases ha with
    | pO us hF hu h1 h =>
      refine ⟨_, run_indexAt_array ht hi' hm, ?_⟩
      rw [Addr.add_mid, hiz]
      refine .pO (fun i => us (m * z + i)) hF (fun i hi => ?_) (fun i hi => h1 _ (by omega)) fun i hi => ?_
      · rw [Nat.add_assoc]; exact hu _ (by omega)
      · show ao w F dQ (cellAt y tt (o + m * z + i)) _
        rw [Nat.add_assoc]; exact h _ (by omega)
omit hR in
theorem tW {fs : Array Field} {f : Nat} (h : f < fs.size) : ∃ x, fs[f]? = some x ∧ fL fs f = x.offset ∧ gN fs f = x.type := by
  have hg : fs[f]? = some fs[f] := Array.getElem?_eq_getElem h
  refine ⟨fs[f], hg, ?_, ?_⟩
  · unfold fL; rw [mR, Array.getElem?_toList, hg]
  · unfold gN; rw [mR, Array.getElem?_toList, hg]
theorem yI {t : TypeId} {fs : Array Field} {f : Nat} (ht : eI P t = some (.struct fs)) (hf : f < fs.size) (hz : 1 ≤ bw P (gN fs f)) {x : AV} {k : AV → aa} (g : fieldAddr (fL fs f) x k = R) :
    ∃ v, k v = R ∧ pT P (fun u => Instr.fieldAt t u f) x v := by
  obtain ⟨fd, hfd, ho, hft⟩ := tW hf
  rw [hft] at hz
  obtain ⟨i, _, hi', hsi⟩ := ji (P := P) (t := fd.type) hz
  have hne : ¬ i.size = 0 := by omega
  have hrun : ∀ (w : World) (a : Addr), (Instr.fieldAt t (.pointer (some a)) f).run P w = .ok (.pointer (some (a.add fd.offset))) w := fun w a => by
    simp [Instr.fieldAt, run_underlying (aE ht).1, hfd, Instr.sureAddr, fieldPlace, sizeOf, typeInfo, hi', hne]
  rw [ho] at g
  rcases kp hR g with ⟨b, o, e0, g2⟩ | ⟨tt, o, n, y, e0, g2⟩
  · subst e0; have g := g2
    rw [az] at g
    refine ⟨_, g, fun {w F μ u} ha => ?_⟩
    obtain ⟨mp, hmu, rfl⟩ := jX ha
    refine ⟨_, hrun w _, ?_⟩
    rw [Addr.add_mid, Nat.add_assoc]; exact .ptr hmu
  · subst e0
    obtain ⟨hle, g⟩ := ax hR g2
    rw [bA] at hle
    rw [az, az] at g
    refine ⟨_, g, fun {w F μ u} ha => ?_⟩
    cases ha with
    | pO us hF hu h1 h =>
      refine ⟨_, hrun w _, ?_⟩
      rw [Addr.add_mid]
      have hlt : ∀ i, i < Nat.sub n fd.offset → fd.offset + i < n := fun i hi => by
        have : i < n - fd.offset := hi
        omega
      refine .pO (fun i => us (fd.offset + i)) hF (fun i hi => ?_) (fun i hi => h1 _ (hlt i hi)) fun i hi => ?_
      · rw [Nat.add_assoc]; exact hu _ (hlt i hi)
      · show ao w F dQ (cellAt y tt (o + fd.offset + i)) _
        rw [Nat.add_assoc]; exact h _ (hlt i hi)
omit hR in
theorem j9 {t : TypeId} (h : known P t = true) : ∃ d, eI P t = some d := by
  unfold known at h
  cases hu : eI P t with
  | none => rw [hu] at h; exact Bool.noConfusion h
  | some d => exact ⟨d, rfl⟩
theorem zA {t : TypeId} (hk : ∃ d, eI P t = some d) {off : Nat} {x : AV} {k : AV → aa} (g : uQ (Go.Proofs.YtbamejikafhenaaDoor.Ev.isAgg P t) (bw P t) off x k = R) :
    ∃ v, k v = R ∧ ∀ {w : World} {F : Nat → Prop} {μ : Mu} {u : Value}, ao w F μ x u → ∃ cs r, u = .agg cs ∧ (part t cs off).run P w = .ok r w ∧ ao w F μ v r := by
  obtain ⟨l, n, rfl, g⟩ := gb hR g
  obtain ⟨hle, g⟩ := ax hR g
  rw [bA] at hle
  have hle : off + bw P t ≤ n := hle
  obtain ⟨d, hd⟩ := hk
  obtain ⟨_, i, hi, hi2⟩ := aE hd
  cases hag : Go.Proofs.YtbamejikafhenaaDoor.Ev.isAgg P t with
  | false =>
    rw [hag] at g
    obtain ⟨hs, g⟩ := ax hR g
    rw [aF] at hs
    obtain ⟨_, g⟩ := yg hR _ g
    refine ⟨_, g, fun {w F μ u} ha => ?_⟩
    cases ha with
    | agg us hsz hu h1 h =>
      refine ⟨_, us off, rfl, ?_, h off (by omega)⟩
      unfold part
      rw [Sem.run_bind, uu hag ⟨i, hi2⟩ w ⟨d, hd⟩]
      simp [hu off (by omega)]
  | true =>
    rw [hag] at g
    obtain ⟨l1, ⟨q1, q2⟩, g⟩ := a0o hR _ g
    obtain ⟨l2, ⟨q3, q4, q5⟩, g⟩ := zg hR _ g
    refine ⟨_, g, fun {w F μ u} ha => ?_⟩
    cases ha with
    | @agg _ _ _ cs us hsz hu h1 h =>
      obtain ⟨d', hd', hrow, _⟩ := qD hag
      rw [hd] at hd'
      cases hd'
      refine ⟨_, .agg (cs.extract off (off + bw P t)), rfl, ?_, ?_⟩
      · have hagr : (Go.isAgg t).run P w = .ok true w := by
          unfold Go.isAgg
          rw [Sem.run_bind, vL hd]
          cases d <;> first | rfl | cases hrow
        unfold part
        rw [Sem.run_bind, hagr]
        simp [sizeOf, typeInfo, hi, dP hi2]
      · refine .agg (fun i => us (off + i)) ?_ (fun i hi => ?_) (fun i hi => h1 _ (by omega)) fun i hi => ?_
        · rw [Array.size_extract, hsz]; omega
        · rw [Array.getElem?_extract, if_pos (by rw [hsz]; omega)]; exact hu _ (by omega)
        · rw [q5 i hi, q2]; exact h _ (by omega)
end
section
variable {P : Program} {R : aa} (hR : R ≠ .fail)
include hR
theorem a9m {t : TypeId} {fs : Array Field} {f : Nat} (ht : eI P t = some (.struct fs)) (hf : f < fs.size) (hk : known P (gN fs f) = true) {x : AV} {k : AV → aa} (g : uQ (Go.Proofs.YtbamejikafhenaaDoor.Ev.isAgg P (gN fs f)) (bw P (gN fs f)) (fL fs f) x k = R) :
    ∃ v, k v = R ∧ pT P (fun u => Instr.field t u f) x v := by
  obtain ⟨fd, hfd, ho, hft⟩ := tW hf
  obtain ⟨v, g, H⟩ := zA hR (j9 hk) g
  refine ⟨v, g, fun {w F μ u} ha => ?_⟩
  obtain ⟨cs, r, rfl, hr, hc⟩ := H ha
  rw [ho, hft] at hr
  exact ⟨r, by simp [Instr.field, run_underlying (aE ht).1, hfd, asAgg, hr], hc⟩
theorem a9x {t e : TypeId} {n : Nat} (ht : eI P t = some (.array n e)) (hk : known P e = true) {x j : AV} {k : AV → aa} (g : (fP j n fun j => uQ (Go.Proofs.YtbamejikafhenaaDoor.Ev.isAgg P e) (bw P e) (Nat.mul j (bw P e)) x k) = R) :
    ∃ v, k v = R ∧ iq P (Instr.index t) x j v := by
  obtain ⟨i, m, rfl, hm, hn, g⟩ := lQ hR g
  obtain ⟨v, g, H⟩ := zA hR (j9 hk) g
  refine ⟨v, g, fun {w F μ u u'} ha hb => ?_⟩
  obtain ⟨cs, r, rfl, hr, hc⟩ := H ha
  rw [lu hn hb]
  obtain ⟨d, hd⟩ := j9 hk
  obtain ⟨_, i', hi, hi2⟩ := aE hd
  have hr : (part e cs (m * bw P e)).run P w = .ok r w := hr
  rw [dP hi2] at hr
  have h1 : (m : Int) < (n : Int) := by omega
  refine ⟨r, ?_, hc⟩
  simp [Instr.index, asIntOf, run_underlying (aE ht).1, sizeOf, typeInfo, hi, hm, hr]
theorem a0J {t : TypeId} (ht : eI P t = some .string) {x j : AV} {k : AV → aa} (g : (x.ea fun s n => fP j n fun j => bu 4 (Nat.mod (Nat.div s (Nat.pow 256 j)) 256) k) = R) : ∃ v, k v = R ∧ iq P (Instr.index t) x j v := by
  obtain ⟨s, n, rfl, g⟩ := dO hR g
  obtain ⟨i, m, rfl, hm, hn, g⟩ := lQ hR g
  rw [et] at g
  refine ⟨_, g, fun {w F μ u u'} ha hb => ?_⟩
  obtain ⟨B, rfl, h1, h2⟩ := iF ha
  rw [lu hn hb]
  have hm' : m < B.data.toList.length := by rw [Array.length_toList]; rw [h2] at hm; exact hm
  have hmB : m < B.size := by rw [h2] at hm; exact hm
  have hget : B[m]? = some (B.data.toList[m]) := by
    rw [getElem?_pos B m hmB]; rfl
  refine ⟨.int .u8 ((B.data.toList[m]).toNat : Int), ?_, ?_⟩
  · simp [Instr.index, asIntOf, run_underlying (aE ht).1, hget]
  · have := pF B.data.toList m hm'
    rw [← h1] at this
    have e : Nat.mod (Nat.div s (Nat.pow 256 m)) 256 = (B.data.toList[m]).toNat := this
    rw [e]; exact vQ _
theorem a4d {x : AV} {i : Nat} {fr : Fr} {k : AV → aa} (g : (x.wx fun t _ => (a4b i).get t fr k) = R) : ∃ v, k v = R ∧ pT P (fun u => Instr.extract u i) x v := by
  obtain ⟨t, n, rfl, g⟩ := a94 hR g
  obtain ⟨hl, g⟩ := wR hR _ g
  refine ⟨_, g, fun {w F μ u} ha => ?_⟩
  cases ha with
  | bB us hl2 hu h =>
    rw [hl2] at hl
    exact ⟨us i, by simp [Instr.extract, hu i hl], h i hl⟩
theorem af4 {x : AV} {k : AV → aa} (g : (x.bV fun i n => bu i (Nat.mod (Nat.sub (md i) n) (md i)) k) = R) : ∃ v, k v = R ∧ pT P (Op.unary .neg) x v := by
  obtain ⟨i, n, e0, g'⟩ := dR hR g
  subst e0; clear g; have g := g'; clear g'
  rw [et] at g
  refine ⟨_, g, fun {w F μ u} ha => ?_⟩
  obtain ⟨hn, rfl⟩ := ga ha
  have := ah2 i 0 n (oM i) hn
  rw [a1o i 0 (by omega), Nat.zero_add] at this
  refine ⟨.int (kd i) (T i ((md i - n) % md i)), ?_, cX (Nat.mod_lt _ (oM i))⟩
  rw [← this]
  simp [Op.unary, Op.intArith]
theorem ae4 {x : AV} {k : AV → aa} (g : (x.ay fun b => k (.bool (dv b))) = R) : ∃ v, k v = R ∧ pT P (Op.unary .not) x v := by
  obtain ⟨b, rfl, g⟩ := kP hR g
  refine ⟨_, g, fun {w F μ u} ha => ?_⟩
  rw [jz ha, fA]
  exact ⟨_, by simp only [Op.unary, Sem.run_pure], .bool _⟩
theorem ae1 {s d : TypeId} {k1 k2 : IntKind} (hs : eI P s = some (.int k1)) (hd : eI P d = some (.int k2)) {x : AV} {k : AV → aa} (g : (x.bV fun i n => bu (kc k2) (rF (md i) (hf i) (md (kc k2)) n) k) = R) : ∃ v, k v = R ∧ pT P (convert s d) x v := by
  obtain ⟨i, n, e0, g'⟩ := dR hR g
  subst e0; clear g; have g := g'; clear g'
  rw [et] at g
  refine ⟨_, g, fun {w F μ u} ha => ?_⟩
  obtain ⟨hn, rfl⟩ := ga ha
  obtain ⟨h1, h2⟩ := T_cvt i (kc k2) n hn
  refine ⟨.int k2 (k2.wrap (T i n)), ?_, ?_⟩
  · simp [convert, run_underlying (aE hs).1, run_underlying (aE hd).1, Conv.intToInt]
  · have := cX (w := w) (F := F) (μ := μ) h2
    rw [← h1, ac5] at this; exact this
theorem abL {M : Mem} (ok : cW M) {V : Env} {q : Nat} {ts : Array TypeId} {t ty : TypeId} (h0 : ts[0]? = some t) (hq : (q = 0 ∧ eI V.P t = some .string) ∨ (q = 1 ∧ ∃ e, eI V.P t = some (.slice e)) ∨ (q = 2 ∧ ∃ a b, eI V.P t = some (.map a b)))
    {x : AV} {hp : Hp} {k : Nat → aa} (g : cz M q x hp k = R) : ∃ n, k n = R ∧ (q = 2 → gE hp x) ∧ ∀ {w : World} {F : Nat → Prop} {μ : Mu} {u : Value}, ao w F μ x u → (q = 2 → ni V w F μ hp x) → (Builtin.len_ ts ty #[u]).run V.P w = .ok (goInt (n : Nat)) w := by
  cases x with
  | str s n =>
    obtain ⟨hq0, g⟩ := ax hR (show ar (Nat.beq q 0) (k n) = R from g)
    rw [aF] at hq0
    refine ⟨_, g, fun e => by omega, fun {w F μ u} ha _ => ?_⟩
    obtain ⟨B, rfl, _, rfl⟩ := iF ha
    rcases hq with ⟨_, ht⟩ | ⟨h1, _⟩ | ⟨h1, _⟩
    · simp [Builtin.len_, h0, run_underlying (aE ht).1]
    · omega
    · omega
  | ms b o n z =>
    obtain ⟨hq0, g⟩ := ax hR (show ar (Nat.beq q 1) (k n) = R from g)
    rw [aF] at hq0
    refine ⟨_, g, fun e => by omega, fun {w F μ u} ha _ => ?_⟩
    rcases hq with ⟨h1, _⟩ | ⟨_, e, ht⟩ | ⟨h1, _⟩
    · omega
    · cases ha <;> simp [Builtin.len_, h0, run_underlying (aE ht).1]
    · omega
  | vs tt o n z =>
    obtain ⟨hq0, g⟩ := ax hR (show ar (Nat.beq q 1) (k n) = R from g)
    rw [aF] at hq0
    refine ⟨_, g, fun e => by omega, fun {w F μ u} ha _ => ?_⟩
    rcases hq with ⟨h1, _⟩ | ⟨_, e, ht⟩ | ⟨h1, _⟩
    · omega
    · cases ha <;> simp [Builtin.len_, h0, run_underlying (aE ht).1]
    · omega
  | x gg tt a b c =>
    rcases aM hR (show when (Nat.beq q 1) (ar (Nat.beq gg 8 || Nat.beq gg 6) (k 0)) (ar (Nat.beq q 2) (when (Nat.beq gg 10) (k 0) (ar (Nat.beq gg 4) (hp.get M a fun B => B.q8 fun n _ => k n)))) = R from g) with ⟨hq1, g⟩ | ⟨_, g⟩
    · rw [aF] at hq1
      obtain ⟨hg, g⟩ := ax hR g
      rw [Bool.or_eq_true, aF, aF] at hg
      refine ⟨_, g, fun e => by omega, fun {w F μ u} ha _ => ?_⟩
      rcases hq with ⟨h1, _⟩ | ⟨_, e, ht⟩ | ⟨h1, _⟩
      · omega
      · rcases hg with rfl | rfl <;> cases ha <;> simp [Builtin.len_, h0, run_underlying (aE ht).1]
      · omega
    · obtain ⟨hq2, g⟩ := ax hR g
      rw [aF] at hq2
      obtain ⟨ta, tb, ht⟩ : ∃ a b, eI V.P t = some (.map a b) := by
        rcases hq with ⟨h1, _⟩ | ⟨h1, _⟩ | ⟨_, h⟩
        · omega
        · omega
        · exact h
      rcases aM hR g with ⟨hg, g⟩ | ⟨_, g⟩
      · rw [aF] at hg
        refine ⟨_, g, fun _ c hc => (by subst hg; cases hc), fun {w F μ u} ha _ => ?_⟩
        subst hg; cases ha
        simp [Builtin.len_, h0, run_underlying (aE ht).1]
      · obtain ⟨hg, g⟩ := ax hR g
        rw [aF] at hg
        have g := iu ok hR g
        obtain ⟨n, tr, hB, g⟩ := tY hR g
        refine ⟨_, g, fun _ c hc => (by subst hg; cases hc; rw [hB]; trivial), fun {w F μ u} ha hr => ?_⟩
        subst hg
        have hb := hr hq2 a rfl
        rw [hB] at hb
        obtain ⟨m, es, clk, h1, h2, _, h4, _⟩ := hb
        cases ha with
        | map hm =>
          rw [hm] at h1; cases h1
          simp [Builtin.len_, h0, run_underlying (aE ht).1, getObj, Sem.run, h2, h4]
  | _ => exact an hR g
end
theorem tV (off : Nat) : ∀ (vs : List Value) (j0 : Nat) (cs : Array Value), ((vs.zipIdx j0).foldl (fun (cs : Array Value) (p : Value × Nat) => cs.setIfInBounds (off + p.2) p.1) cs).size = cs.size ∧
    ∀ j, ((vs.zipIdx j0).foldl (fun (cs : Array Value) (p : Value × Nat) => cs.setIfInBounds (off + p.2) p.1) cs)[j]? = if off + j0 ≤ j ∧ j < off + j0 + vs.length ∧ j < cs.size then vs[j - (off + j0)]? else cs[j]?
  | [], j0, cs => ⟨rfl, fun j => by rw [if_neg (by simp only [List.length_nil]; omega)]; rfl⟩
  | v :: r, j0, cs => by
    obtain ⟨h1, h2⟩ := tV off r (j0 + 1) (cs.setIfInBounds (off + j0) v)
    rw [List.zipIdx_cons, List.foldl_cons]
    refine ⟨by rw [h1, Array.size_setIfInBounds], fun j => ?_⟩
    rw [h2 j, Array.size_setIfInBounds, Array.getElem?_setIfInBounds]
    by_cases e : j = off + j0
    · subst e
      rw [if_neg (by omega)]
      by_cases hj : off + j0 < cs.size
      · rw [if_pos rfl, if_pos hj, if_pos ⟨Nat.le_refl _, by simp only [List.length_cons]; omega, hj⟩, Nat.sub_self]; rfl
      · rw [if_pos rfl, if_neg hj, if_neg (by omega), Array.getElem?_eq_none (by omega)]
    · by_cases e1 : off + (j0 + 1) ≤ j ∧ j < off + (j0 + 1) + r.length ∧ j < cs.size
      · rw [if_pos e1, if_pos (by simp only [List.length_cons]; omega), show j - (off + j0) = (j - (off + (j0 + 1))) + 1 by omega]; rfl
      · rw [if_neg e1, if_neg (Ne.symm e), if_neg (by simp only [List.length_cons]; omega)]
def a3b (w : World) (F : Nat → Prop) (μ : Mu) (l : Row) (cs : Array Value) (n : Nat) : Prop := cs.size = n ∧ ∀ i, i < n → ∃ y, cs[i]? = some y ∧ y.oneCell' = true ∧ ao w F μ (nth l i) y
theorem a3b.agg {w : World} {F : Nat → Prop} {μ : Mu} {l : Row} {cs : Array Value} {n : Nat} (h : a3b w F μ l cs n) : ao w F μ (.agg l n) (.agg cs) := by
  obtain ⟨us, hus⟩ := mT h.2
  exact .agg us h.1 (fun i hi => (hus i hi).1) (fun i hi => (hus i hi).2.1) fun i hi => (hus i hi).2.2
def PSet (l : Row) (off sz : Nat) (v : AV) (l' : Row) : Prop := ∀ j, nth l' j = if off ≤ j ∧ j < off + sz then cv v (j - off) else nth l j
theorem abO {R : aa} (hR : R ≠ .fail) {k : Row → aa} (n : Nat) : ∀ {i : Nat} {u l : Row}, (Nat.rec (motive := fun _ => Nat → Row → Row → aa) (fun _ _ l => k l) (fun _ ih i u l => Tr.rec (motive := fun _ => aa) .fail (fun c _ r _ _ => (yY i).f l c fun l => ih (Nat.succ i) r l) u) n i u l : aa) = R →
    ∃ l', k l' = R ∧ ∀ j, nth l' j = if i ≤ j ∧ j < i + n then nth u (j - i) else nth l j := by
  induction n with
  | zero => intro i u l g; exact ⟨l, g, fun j => by rw [if_neg (by omega)]⟩
  | succ n ih =>
    intro i u l g
    cases u with
    | lf => exact an hR g
    | nd c a r =>
      obtain ⟨l1, ⟨_, _, h1⟩, g⟩ := wZ hR (k := fun l => (Nat.rec (motive := fun _ => Nat → Row → Row → aa) (fun _ _ l => k l) (fun _ ih i u l => Tr.rec (motive := fun _ => aa) .fail (fun c _ r _ _ => (yY i).f l c fun l => ih (Nat.succ i) r l) u) n (Nat.succ i) r l : aa)) i g
      obtain ⟨l', g, h2⟩ := ih g
      refine ⟨l', g, fun j => ?_⟩
      rw [h2 j, h1 j]
      by_cases e : j = i
      · have e1 : ¬ (Nat.succ i ≤ j ∧ j < Nat.succ i + n) := by omega
        have e2 : i ≤ j ∧ j < i + (n + 1) := by omega
        rw [if_neg e1, if_pos e, if_pos e2, e, Nat.sub_self]; rfl
      · by_cases e1 : Nat.succ i ≤ j ∧ j < Nat.succ i + n
        · have e2 : i ≤ j ∧ j < i + (n + 1) := by omega
          rw [if_pos e1, if_pos e2, show j - i = (j - Nat.succ i) + 1 by omega]; rfl
        · have e2 : ¬ (i ≤ j ∧ j < i + (n + 1)) := by omega
          rw [if_neg e1, if_neg e, if_neg e2]
section
variable {M : Mem} (ok : cW M) {R : aa} (hR : R ≠ .fail)
include ok hR
theorem abP {off sz : Nat} {l : Row} {v : AV} {k : Row → aa} (g : vn off sz l v k = R) : ∃ l', k l' = R ∧ Fits v sz ∧ PSet l off sz v l' := by
  rcases aM hR g with ⟨hs, g⟩ | ⟨hs, g⟩
  · rw [aF] at hs
    obtain ⟨c, f, hf, hc, _, g2⟩ := tg ok hR g
    obtain ⟨l', ⟨_, _, hl⟩, g3⟩ := wZ hR _ g2
    refine ⟨l', g3, by rw [hs]; exact hf, fun j => ?_⟩
    rw [hl j, hc, hs]
    by_cases e : j = off
    · have e2 : off ≤ j ∧ j < off + 1 := by omega
      rw [if_pos e, if_pos e2, show j - off = 0 by omega]
    · have e2 : ¬ (off ≤ j ∧ j < off + 1) := by omega
      rw [if_neg e, if_neg e2]
  · obtain ⟨u, n, e0, g2⟩ := gb hR g
    subst e0
    obtain ⟨hn, g3⟩ := ax hR g2
    rw [aF] at hn
    subst hn
    obtain ⟨l', g4, hl⟩ := abO hR _ g3
    exact ⟨l', g4, .agg u n, fun j => hl j⟩
omit ok hR in
theorem a3b.set {w : World} {F : Nat → Prop} {μ : Mu} {l l' : Row} {cs : Array Value} {n off sz : Nat} {v : AV} {u : Value} (h : a3b w F μ l cs n) (hf : Fits v sz) (hv : ao w F μ v u) (hp : PSet l off sz v l') (hle : off + sz ≤ n) :
    u.cells.size = sz ∧ ¬ (off + u.cells.size > cs.size) ∧ a3b w F μ l' (u.cells.zipIdx.foldl (fun cs (p : Value × Nat) => cs.setIfInBounds (off + p.2) p.1) cs) n := by
  obtain ⟨h1, h2⟩ := pJ hf hv
  refine ⟨h1, by rw [h1, h.1]; omega, ?_⟩
  obtain ⟨q1, q2⟩ := tV off u.cells.toList 0 cs
  have e : u.cells.zipIdx.foldl (fun (cs : Array Value) (p : Value × Nat) => cs.setIfInBounds (off + p.2) p.1) cs = (u.cells.toList.zipIdx 0).foldl (fun (cs : Array Value) (p : Value × Nat) => cs.setIfInBounds (off + p.2) p.1) cs := by
    rw [← Array.foldl_toList, Array.toList_zipIdx]
  rw [e]
  refine ⟨by rw [q1, h.1], fun i hi => ?_⟩
  have hl : u.cells.toList.length = sz := by rw [Array.length_toList, h1]
  rw [q2 i, hp i, hl, h.1, Nat.add_zero]
  by_cases c : off ≤ i ∧ i < off + sz
  · rw [if_pos ⟨c.1, c.2, hi⟩, if_pos c]
    obtain ⟨y, r1, r2, r3⟩ := h2 (i - off) (by omega)
    exact ⟨y, by rw [Array.getElem?_toList]; exact r1, r2, r3⟩
  · rw [if_neg (fun q => c ⟨q.1, q.2.1⟩), if_neg c]; exact h.2 i hi
end
noncomputable def sv (d : Nat) (s : Src) (sk : Row) (fr : Fr) : AV := match s with
  | .c v => v
  | .s l => nth sk (Nat.sub (Nat.sub d 1) l)
  | .f i => fr.at i
  | .no => .uu
theorem s8 {R : aa} (hR : R ≠ .fail) {d : Nat} {s : Src} {sk : Row} {fr : Fr} {k : AV → aa} (g : (a9K d s).get sk fr k = R) : k (sv d s sk fr) = R ∧ s ≠ .no ∧ ∀ l, s = .s l → l < d := by
  cases s with
  | c v => exact ⟨g, by simp, fun l e => by simp at e⟩
  | s l =>
    have g' : ((Bool.rec (motive := fun _ => Rd) ⟨fun _ _ _ => .fail⟩ (a4b (Nat.sub (Nat.sub d 1) l)) (Nat.ble (Nat.succ l) d) : Rd)).get sk fr k = R := g
    cases hb : Nat.ble (Nat.succ l) d with
    | false => rw [hb] at g'; exact an hR g'
    | true =>
      rw [hb] at g'
      refine ⟨(wR hR _ g').2, by simp, fun l' e => ?_⟩
      cases e
      rw [bA] at hb; exact hb
  | f i => exact ⟨a4q hR i g, by simp, fun l e => by simp at e⟩
  | no => exact an hR g
noncomputable def ov (C : Cx) (g : G) (sk : Row) (fr : Fr) (x : Operand) : AV := sv g.d (src C g x) sk fr
theorem bP {R : aa} (hR : R ≠ .fail) {C : Cx} {g : G} {x : Operand} {sk : Row} {fr : Fr} {k : AV → aa} (h : (jI C g x).get sk fr k = R) : k (ov C g sk fr x) = R := (s8 hR h).1
section
variable {C : Cx} {g : G} {R : aa} (hR : R ≠ .fail)
theorem aiC (ok : cW C.M) (hR : R ≠ .fail) {o z : Nat → Nat} {sk : Row} {fr : Fr} : ∀ {ps : List (Nat × Operand)} {t : Row} {k : Row → aa}, (uk (partsOf C g ps o z)).f sk fr t k = R →
    ∃ l', k l' = R ∧ ∀ {w : World} {F : Nat → Prop} {μ : Mu} {ρ : Operand → Value} {cs : Array Value} {n : Nat} {place : Nat → Option (Nat × Nat)}, (∀ p ∈ ps, ao w F μ (ov C g sk fr p.2) (ρ p.2)) → a3b w F μ t cs n → (∀ p ∈ ps, o p.1 + z p.1 ≤ n) →
      (∀ p ∈ ps, place p.1 = some (o p.1, z p.1)) → ∃ cs', Instr.fill place cs (ps.map fun p => (p.1, ρ p.2)) = some cs' ∧ a3b w F μ l' cs' n := by
  intro ps
  induction ps with
  | nil => intro t k h; exact ⟨t, h, fun {w F μ ρ cs n place} _ hl _ _ => ⟨cs, rfl, hl⟩⟩
  | cons p r ih =>
    intro t k h
    have h1 := bP hR (k := fun v => vn (o p.1) (z p.1) t v fun t => (uk (partsOf C g r o z)).f sk fr t k) h
    obtain ⟨l1, h2, hf, hs⟩ := abP ok hR h1
    obtain ⟨l', h3, H⟩ := ih h2
    refine ⟨l', h3, fun {w F μ ρ cs n place} hρ hl hle hpl => ?_⟩
    obtain ⟨e1, e2, e3⟩ := hl.set hf (hρ p (List.mem_cons_self ..)) hs (hle p (List.mem_cons_self ..))
    obtain ⟨cs', q1, q2⟩ := H (ρ := ρ) (place := place) (fun q hq => hρ q (List.mem_cons_of_mem _ hq)) e3 (fun q hq => hle q (List.mem_cons_of_mem _ hq)) (fun q hq => hpl q (List.mem_cons_of_mem _ hq))
    refine ⟨cs', ?_, q2⟩
    rw [List.map_cons, Instr.fill, hpl p (List.mem_cons_self ..)]
    simp only []
    rw [if_neg]
    · exact q1
    · simp only [Bool.or_eq_true, decide_eq_true_eq]
      rintro (h | h)
      · exact h e1
      · exact e2 h
end
section
variable {P : Program}
theorem a9N {t : TypeId} {z : Nat} (h : fi P t z = true) : ∃ i v, eT P t = some i ∧ P.info? t = some i ∧ i.zero = some v ∧ v.cells.size = z ∧ ∀ w F μ, a3b w F μ (a2N P t) v.cells z := by
  obtain ⟨i, v, h1, h2, h3, h4, h5⟩ := j8 h
  refine ⟨i, v, h1, h2, h3, h4, fun w F μ => ⟨h4, fun j hj => ?_⟩⟩
  have hz := u7 h1 h3
  have hrel := pe (w := w) (F := F) (μ := μ) v
  rw [← hz] at hrel
  obtain ⟨y, hy, ho, _⟩ := h5 j hj
  refine ⟨y, hy, ho, ?_⟩
  unfold a2N
  cases hc : dI P t with
  | agg l n =>
    rw [hc] at hrel
    cases hrel with
    | agg us hs hu h1' h =>
      have e : n = z := by rw [← hs]; exact h4
      have hy' := hu j (by omega)
      have e2 := Option.some.inj (hy.symm.trans hy')
      rw [e2]; exact h j (by omega)
  | _ =>
    rw [hc] at hrel
    have hz1 : z = 1 := by
      unfold fi at h; rw [hc] at h
      first
        | (rw [← aF]; exact h)
        | (rename_i gg _ _ _ _; cases gg with
            | zero => exact Bool.noConfusion h
            | succ gg => rw [← aF]; exact h)
    subst hz1
    have hj0 : j = 0 := by omega
    subst hj0
    have hna : ∀ cs, v ≠ .agg cs := fun cs e => by
      rw [e, jH, hc] at hz
      split at hz
      · exact AV.noConfusion hz
      · first
          | exact AV.noConfusion hz
          | (injection hz with e1; subst e1; unfold fi at h; rw [hc] at h; exact Bool.noConfusion h)
    have hy2 : v.cells = #[v] := by cases v <;> first | rfl | exact absurd rfl (hna _)
    rw [hy2] at hy
    have e2 := Option.some.inj hy
    rw [← e2]; exact hrel
end
section
variable {P : Program} {R : aa} (hR : R ≠ .fail)
include hR
theorem a5B {t : TypeId} (ht : eI P t = some .string) {x : AV} {lo hi : Option AV} {k : AV → aa} (g : dj x lo hi k = R) : ∃ v, k v = R ∧ a6J P (Instr.sliceAt t) x lo hi none v := by
  obtain ⟨s, n, e0, g1⟩ := dO hR g
  subst e0
  obtain ⟨l, h, e', m, g3, hl, hh, h1, h2, b1, b2, b3, b4⟩ := iW hR g1
  rw [a7a] at g3
  refine ⟨_, g3, fun {w F μ u a b c} ha q1 q2 q3 => ?_⟩
  obtain ⟨B, rfl, r1, r2⟩ := iF ha
  have hc : c = none := by
    cases c with
    | none => rfl
    | some v => exact q3.elim
  subst hc
  subst r2
  have hrun := jd (P := P) (s := false) q1 q2 q3 b1 b2 b3 b4 hl hh (fun e => by cases e) (Nat.le_refl B.size)
  refine ⟨.string (B.extract l h), ?_, rR ?_ ?_⟩
  · simp [Instr.sliceAt, Instr.slice, run_underlying (aE ht).1, hrun]
  · have e1 : Nat.mod (Nat.div s (Nat.pow 256 l)) (Nat.pow 256 (Nat.sub h l)) = aL B.data.toList / 256 ^ l % 256 ^ (h - l) := by rw [r1]; rfl
    rw [e1, nJ, qI, ByteArray.data_extract, Array.toList_extract, List.extract_eq_take_drop]
  · rw [ByteArray.size_extract]
    show h - l = _
    omega
theorem afm {x : AV} {k : AV → aa} (g : (x.on (fun _ _ => .fail) (fun _ => .fail) (fun _ _ => .fail) (fun _ _ => k x) (fun _ _ _ _ => .fail) (fun _ _ _ _ => .fail) (fun _ _ => .fail) (fun _ _ => .fail) (fun g _ _ _ _ => ar (Nat.beq g 1 || Nat.beq g 3 || Nat.beq g 5 || Nat.beq g 12) (k x))) = R) :
    k x = R ∧ ∀ {w : World} {F : Nat → Prop} {μ : Mu} {u : Value}, ao w F μ x u → (∃ a, u = .pointer (some a)) ∨ (∃ f fs cs, u = .func (.func f) fs cs) ∨ (∃ l, u = .func (.yield l) #[] #[]) ∨ ∃ t v, u = .iface t v := by
  cases x with
  | ptr b o => exact ⟨g, fun ha => .inl (by obtain ⟨m, _, rfl⟩ := jX ha; exact ⟨_, rfl⟩)⟩
  | x i t a b c =>
    obtain ⟨hi, g⟩ := ax hR (show ar (Nat.beq i 1 || Nat.beq i 3 || Nat.beq i 5 || Nat.beq i 12) (k (.x i t a b c)) = R from g)
    rw [Bool.or_eq_true, Bool.or_eq_true, Bool.or_eq_true, aF, aF, aF, aF] at hi
    refine ⟨g, fun ha => ?_⟩
    rcases hi with ((rfl | rfl) | rfl) | rfl <;> cases ha
    · exact .inl ⟨_, rfl⟩
    · exact .inr (.inl ⟨_, _, _, rfl⟩)
    · exact .inr (.inr (.inl ⟨_, rfl⟩))
    · exact .inr (.inr (.inr ⟨_, _, rfl⟩))
  | _ => exact an hR g
end
section
variable {C : Cx} {g : G} {R : aa} (hR : R ≠ .fail)
include hR
theorem a5N {sk : Row} {fr : Fr} : ∀ {l : List Operand} {k : Row → aa}, (ak (l.map (jI C g))).f sk fr k = R → ∃ r, k r = R ∧ len r = l.length ∧ ∀ i x, l[i]? = some x → nth r i = ov C g sk fr x := by
  intro l
  induction l with
  | nil => intro k h; exact ⟨.lf, h, rfl, fun i x e => by cases e⟩
  | cons a r ih =>
    intro k h
    have h1 := bP hR (k := fun v => (ak (r.map (jI C g))).f sk fr fun t => k (.nd v .lf t)) h
    obtain ⟨t, h2, h3, h4⟩ := ih h1
    refine ⟨_, h2, congrArg (· + 1) h3, fun i x e => ?_⟩
    cases i with
    | zero => cases e; rfl
    | succ i => exact h4 i x e
omit hR in
theorem aaM {sk : Row} {fr : Fr} {v : Value} {w : World} {F : Nat → Prop} {μ : Mu} : ao w F μ (ov C g sk fr (.const v)) v := pe v
omit hR in
theorem aay {sk : Row} {fr : Fr} {w : World} {F : Nat → Prop} {μ : Mu} {f : FuncId} {ρ : Operand → Value} {a b : Array Operand} {r : Row} (hl : len r = (a.toList ++ b.toList).length) (hr : ∀ i x, (a.toList ++ b.toList)[i]? = some x → nth r i = ov C g sk fr x)
    (h : ∀ x, x ∈ a.toList ++ b.toList → ao w F μ (ov C g sk fr x) (ρ x)) : ao w F μ (.x 3 r f a.size b.size) (.func (.func f) (a.map ρ) (b.map ρ)) := by
  have ha : a.toList.length = a.size := Array.length_toList
  have hb : b.toList.length = b.size := Array.length_toList
  have hlen : (a.toList ++ b.toList).length = a.size + b.size := by rw [List.length_append, ha, hb]
  have hx : ∀ i, i < a.size + b.size → ∃ u, ∃ x, (a.toList ++ b.toList)[i]? = some x ∧ u = ρ x := fun i hi => by
    have : i < (a.toList ++ b.toList).length := by rw [hlen]; exact hi
    exact ⟨_, _, List.getElem?_eq_getElem this, rfl⟩
  obtain ⟨us, hus⟩ := mT hx
  refine .fn us (by rw [Array.size_map]) (by rw [Array.size_map]) (by rw [hl, hlen]) (fun i hi => ?_) (fun i hi => ?_) fun i hi => ?_
  · obtain ⟨x, h1, h2⟩ := hus i (by omega)
    rw [List.getElem?_append_left (by rw [ha]; exact hi), Array.getElem?_toList] at h1
    rw [Array.getElem?_map, h1, h2]; rfl
  · obtain ⟨x, h1, h2⟩ := hus (a.size + i) (by omega)
    rw [List.getElem?_append_right (by rw [ha]; omega), ha, show a.size + i - a.size = i by omega, Array.getElem?_toList] at h1
    rw [Array.getElem?_map, h1, h2]; rfl
  · obtain ⟨x, h1, h2⟩ := hus i hi
    rw [hr i x h1, h2]
    exact h x (List.mem_of_getElem? h1)
end
end Go.Proofs.YtbamejikafhenaaDoor.Ev
