import Derived.Test.YtdlohaedegmiaaaGreatDoorEvAG
import Derived.OrdersIn
namespace Go.Proofs.YtdlohaedegmiaaaGreatDoor.Ev
section
variable {P : Program} {R : ab} (hR : R ≠ .fail)
theorem a3O (i : Nat) : BitVec.ofInt (kd i).bits (if (kd i).signed then -1 else (kd i).max) = BitVec.allOnes (kd i).bits := by
  generalize kd i = k
  cases k <;> decide
include hR in
theorem a3U {x : AV} {k : AV → ab} (g : (x.bo fun i n => bX i (Nat.sub (Nat.sub (md i) 1) n) k) = R) : ∃ v, k v = R ∧ iu P (Op.unary .xor) x v := by
  obtain ⟨i, n, rfl, g2⟩ := aR hR g
  rw [bx] at g2
  refine ⟨_, g2, fun {w F μ u} ha => ?_⟩
  obtain ⟨hn, rfl⟩ := aY ha
  have hx : (BitVec.allOnes (kd i).bits ^^^ BitVec.ofInt (kd i).bits (T i n)).toNat = md i - 1 - n := by
    rw [BitVec.allOnes_xor, BitVec.toNat_not, oE i n hn, pw, cW]
  obtain ⟨h1, h2⟩ := gf hR i _ _ hx
  refine ⟨_, ?_, aN h1⟩
  simp only [Op.unary, Op.intBits, a3O, Sem.run_pure]
  exact congrArg (Result.ok · w) h2
include hR in
theorem a4P {x y : AV} {k : AV → ab} (ts : Array TypeId) (ty : TypeId) (g : (x.bo fun i m => y.bo fun j n => aq (Nat.beq i j) (when (Nat.ble (Nat.mod (Nat.add m (hf i)) (md i)) (Nat.mod (Nat.add n (hf i)) (md i))) (k (.int i n)) (k (.int i m)))) = R) :
    ∃ v, k v = R ∧ bY P (fun u u' => Builtin.max_ ts ty #[u, u']) x y v := by
  obtain ⟨i, m, rfl, g⟩ := aR hR g
  obtain ⟨j, n, rfl, g1⟩ := aR hR (show (y.bo fun j n => aq (Nat.beq i j) (when (Nat.ble (Nat.mod (Nat.add m (hf i)) (md i)) (Nat.mod (Nat.add n (hf i)) (md i))) (k (.int i n)) (k (.int i m)))) = R from g)
  obtain ⟨hij, g2⟩ := ah hR g1
  rw [an] at hij
  have hrun : ∀ (w : World) (a c : Int) (q q' : IntKind), (Builtin.max_ ts ty #[.int q a, .int q' c]).run P w = .ok (.int q (if c > a then c else a)) w := fun w a c q q' => by
    simp [Builtin.max_, Builtin.max2]
  rcases ar hR g2 with ⟨hc, g3⟩ | ⟨hc, g3⟩
  · rw [aK] at hc
    refine ⟨_, g3, fun {w F μ u u'} ha hb => ?_⟩
    obtain ⟨h1, rfl⟩ := aY ha
    obtain ⟨h2, rfl⟩ := aY hb
    rw [← hij] at h2 ⊢
    refine ⟨_, hrun w _ _ _ _, ?_⟩
    have hle := (pV i m n h1 h2).2 hc
    by_cases e : T i n > T i m
    · rw [if_pos e]; exact aN h2
    · rw [if_neg e]
      have : T i m = T i n := by omega
      rw [this]; exact aN h2
  · have hc' : ¬ (m + hf i) % md i ≤ (n + hf i) % md i := fun e => by
      have e2 : Nat.ble (Nat.mod (Nat.add m (hf i)) (md i)) (Nat.mod (Nat.add n (hf i)) (md i)) = true := cZ e
      rw [e2] at hc; cases hc
    refine ⟨_, g3, fun {w F μ u u'} ha hb => ?_⟩
    obtain ⟨h1, rfl⟩ := aY ha
    obtain ⟨h2, rfl⟩ := aY hb
    rw [← hij] at h2 ⊢
    refine ⟨_, hrun w _ _ _ _, ?_⟩
    have := mt (pV i m n h1 h2).1 hc'
    rw [if_neg (by omega)]; exact aN h1
end
section
variable {V : Env} {M : Mem} (ok : aT M) {R : ab} (hR : R ≠ .fail)
include ok hR in
theorem pH {t e : TypeId} {n : Nat} (ht : bj V.P t = some (.array n e)) {z : Nat} (hsz : aC V.P e = z) (hz : 1 ≤ z) {b o : Nat} {lo hi mx : Option AV} {hp : Hp} {k : AV → ab}
    (g : (hp.use M b (Nat.add o (Nat.mul n z)) fun _ _ _ _ _ => fI z (.ms b o n z) lo hi mx k) = R) :
    ∃ v, k v = R ∧ bB hp (.ptr b o) ∧ ∀ {w : World} {F : Nat → Prop} {μ : Mu} {u : Value} {a bb c : Option Value}, ae w F μ (.ptr b o) u → b8 w F μ lo a → b8 w F μ hi bb → b8 w F μ mx c → du V w F μ hp (.ptr b o) →
      ∃ r, (Instr.sliceAt t u a bb c).run V.P w = .ok r w ∧ ae w F μ v r := by
  obtain ⟨rw', fl, z', s, tr, hB, hs, g1⟩ := eU ok hR g
  obtain ⟨_, g2⟩ := ah hR (show aq (Nat.beq z z) (bounds lo hi mx n fun l h e => when e (k (.x 6 .lf 0 0 0)) (aA (Nat.add o (Nat.mul l z)) fun o => aA (Nat.sub h l) fun n => k (.ms b o n z))) = R from g1)
  obtain ⟨l, h, e', m, g3, hl, hh, h1, h2, b1, b2, b3, b4⟩ := cL hR g2
  have hs : o + n * z ≤ s := hs
  obtain ⟨i, _, hi', hsi⟩ := cD (P := V.P) (t := e) (by omega)
  have hiz : i.size = z := by omega
  have hm : mx.isSome = true → h ≤ m ∧ m ≤ n := fun e => ⟨(h1 e).1, (h1 e).2.1⟩
  have live : bB hp (.ptr b o) := fun c hc => by cases hc; rw [hB]; trivial
  have hsl : ∀ {w : World} {F : Nat → Prop} {μ : Mu} {ad : Addr} {a bb c : Option Value}, b8 w F μ lo a → b8 w F μ hi bb → b8 w F μ mx c →
      (Instr.sliceAt t (.pointer (some ad)) a bb c).run V.P w = .ok (.slice (some (if (if mx.isSome = true then m else n) = l then ad else ad.add (l * i.size))) (h - l) ((if mx.isSome = true then m else n) - l)) w := fun {w F μ ad a bb c} q1 q2 q3 => by
    have hb := cO (P := V.P) (s := false) q1 q2 q3 b1 b2 b3 b4 hl hh hm (Nat.le_refl n)
    simp [Instr.sliceAt, Instr.sureAddr, run_underlying (aj ht).1, hb, sizeOf, typeInfo, hi']
  have size : ∀ {w : World} {F : Nat → Prop} {μ : Mu} {mp : Mp}, μ b = some mp → du V w F μ hp (.ptr b o) → n * z = 0 ∨ mp.base + o + n * z ≤ mp.size := fun {w F μ mp} hmu hro => by
    have hr := hro b rfl
    rw [hB] at hr
    obtain ⟨m', c, T, fz, p1, p2, p3, p4, _⟩ := hr
    rw [hmu] at p1; cases p1
    by_cases e0 : n * z = 0
    · exact .inl e0
    · obtain ⟨u, hu, _⟩ := p4 (o + n * z - 1) (by omega)
      have := (Array.getElem?_eq_some_iff.1 hu).1
      exact .inr (by omega)
  rcases ar hR g3 with ⟨he, g4⟩ | ⟨he, g4⟩
  · have hs : mx.isSome = true := by cases mx with
      | none => rw [h2 rfl] at he; cases he
      | some _ => rfl
    have hml : m = l := by rw [← an, ← (h1 hs).2.2]; exact he
    refine ⟨_, g4, live, fun {w F μ u a bb c} ha q1 q2 q3 _ => ?_⟩
    obtain ⟨mp, hmu, rfl⟩ := dC ha
    refine ⟨_, hsl q1 q2 q3, ?_⟩
    have := (h1 hs).1
    rw [if_pos hs, if_pos hml, show h - l = 0 by omega, show m - l = 0 by omega]
    exact .emp
  · rw [aw, aw] at g4
    refine ⟨_, g4, live, fun {w F μ u a bb c} ha q1 q2 q3 hro => ?_⟩
    obtain ⟨mp, hmu, rfl⟩ := dC ha
    refine ⟨_, hsl q1 q2 q3, ?_⟩
    have hM : h ≤ (if mx.isSome = true then m else n) ∧ (if mx.isSome = true then m else n) ≤ n := by
      by_cases hs : mx.isSome = true
      · rw [if_pos hs]; have := hm hs; omega
      · rw [if_neg hs]; omega
    generalize (if mx.isSome = true then m else n) = N at *
    by_cases e1 : N = l
    · rw [if_pos e1, show h - l = 0 by omega, show N - l = 0 by omega]
      show ae w F μ (.ms b (o + l * z) (h - l) z) _
      rw [show h - l = 0 by omega]; exact .pN
    · rw [if_neg e1]
      show ae w F μ (.ms b (o + l * z) (h - l) z) (.slice (some ((⟨mp.aF, mp.base + o, none⟩ : Addr).add (l * i.size))) (h - l) (N - l))
      rw [Addr.add_mid, Nat.add_assoc, hiz]
      refine .ms hmu (by omega) ?_
      have h3 : (N - l) * z + l * z = N * z := by rw [← Nat.add_mul]; congr 1; omega
      have h4 : N * z ≤ n * z := Nat.mul_le_mul_right z hM.2
      rcases size hmu hro with h5 | h5
      · have : n = 0 := by
          rcases Nat.mul_eq_zero.1 h5 with h | h
          · exact h
          · omega
        omega
      · omega
include hR in
theorem nr {t e : TypeId} {n : Nat} (ht : bj V.P t = some (.array n e)) {z : Nat} (hsz : aC V.P e = z) (hz : 1 ≤ z) {tt : Row} {o cc y : Nat} {lo hi mx : Option AV} {k : AV → ab}
    (g : (aq (Nat.beq y z) (aq (Nat.beq (Nat.mod o z) 0) (aq (Nat.ble (Nat.mul n z) cc) (fI z (.vs tt (Nat.div o z) n z) lo hi mx k)))) = R) :
    ∃ v, k v = R ∧ vR V.P (Instr.sliceAt t) (.x 1 tt o cc y) lo hi mx v := by
  obtain ⟨hy, g1⟩ := ah hR g
  obtain ⟨ho, g1⟩ := ah hR g1
  obtain ⟨hc, g1⟩ := ah hR g1
  rw [an] at hy ho
  rw [aK] at hc
  have ho : o % z = 0 := ho
  have hc : n * z ≤ cc := hc
  subst hy
  obtain ⟨_, g2⟩ := ah hR (show aq (Nat.beq y y) (bounds lo hi mx n fun l h e => when e (k (.x 6 .lf 0 0 0)) (aA (Nat.add (Nat.div o y) l) fun o => aA (Nat.sub h l) fun n => k (.vs tt o n y))) = R from g1)
  obtain ⟨l, h, e', m, g3, hl, hh, h1, h2, b1, b2, b3, b4⟩ := cL hR g2
  obtain ⟨i, _, hi', hsi⟩ := cD (P := V.P) (t := e) (by omega)
  have hiz : i.size = y := by omega
  have hoz : o / y * y = o := Nat.div_mul_cancel (Nat.dvd_of_mod_eq_zero ho)
  have hm : mx.isSome = true → h ≤ m ∧ m ≤ n := fun e => ⟨(h1 e).1, (h1 e).2.1⟩
  have hsl : ∀ {w : World} {F : Nat → Prop} {μ : Mu} {ad : Addr} {a bb c : Option Value}, b8 w F μ lo a → b8 w F μ hi bb → b8 w F μ mx c →
      (Instr.sliceAt t (.pointer (some ad)) a bb c).run V.P w = .ok (.slice (some (if (if mx.isSome = true then m else n) = l then ad else ad.add (l * i.size))) (h - l) ((if mx.isSome = true then m else n) - l)) w := fun {w F μ ad a bb c} q1 q2 q3 => by
    have hb := cO (P := V.P) (s := false) q1 q2 q3 b1 b2 b3 b4 hl hh hm (Nat.le_refl n)
    simp [Instr.sliceAt, Instr.sureAddr, run_underlying (aj ht).1, hb, sizeOf, typeInfo, hi']
  rcases ar hR g3 with ⟨he, g4⟩ | ⟨he, g4⟩
  · have hs : mx.isSome = true := by cases mx with
      | none => rw [h2 rfl] at he; cases he
      | some _ => rfl
    have hml : m = l := by rw [← an, ← (h1 hs).2.2]; exact he
    refine ⟨_, g4, fun {w F μ u a bb c} ha q1 q2 q3 => ?_⟩
    cases ha with
    | gV us hF hu ho1 hrel =>
      refine ⟨_, hsl q1 q2 q3, ?_⟩
      have := (h1 hs).1
      rw [if_pos hs, if_pos hml, show h - l = 0 by omega, show m - l = 0 by omega]
      exact .emp
  · rw [aw, aw] at g4
    refine ⟨_, g4, fun {w F μ u a bb c} ha q1 q2 q3 => ?_⟩
    cases ha with
    | gV us hF hu ho1 hrel =>
      rename_i B off
      refine ⟨_, hsl q1 q2 q3, ?_⟩
      have hM : h ≤ (if mx.isSome = true then m else n) ∧ (if mx.isSome = true then m else n) ≤ n := by
        by_cases hs : mx.isSome = true
        · rw [if_pos hs]; have := hm hs; omega
        · rw [if_neg hs]; omega
      generalize (if mx.isSome = true then m else n) = N at *
      show ae w F μ (.vs tt (o / y + l) (h - l) y) _
      by_cases e1 : N = l
      · rw [if_pos e1, show h - l = 0 by omega, show N - l = 0 by omega]; exact .pP
      · rw [if_neg e1]
        show ae w F μ (.vs tt (o / y + l) (h - l) y) (.slice (some ((⟨B, off, none⟩ : Addr).add (l * i.size))) (h - l) (N - l))
        rw [Addr.add_mid, hiz]
        have hlt : ∀ i, i < (h - l) * y → l * y + i < cc := fun i hi => by
          have h3 : (h - l) * y + l * y = h * y := by rw [← Nat.add_mul]; congr 1; omega
          have h4 : h * y ≤ n * y := Nat.mul_le_mul_right y hh
          omega
        refine .vs (fun i => us (l * y + i)) hF (by omega) (fun i hi => ?_) (fun i hi => ho1 _ (hlt i hi)) fun i hi => ?_
        · rw [Nat.add_assoc]; exact hu _ (hlt i hi)
        · rw [Nat.add_mul, hoz, Nat.add_assoc]; exact hrel _ (hlt i hi)
include ok hR in
theorem uj {ts : Array TypeId} {dT e ty : TypeId} (h0 : ts[0]? = some dT) (hu : bj V.P dT = some (.slice e)) (hz : 1 ≤ aC V.P e) (hzk : bq V.P e (aC V.P e) = true) {a : AV} {hp : Hp} {k : Hp → ab} (g : a04 M (aC V.P e) (bE V.P e) a hp k = R) :
    ∃ hp', k hp' = R ∧ ∀ {w : World} {F : Nat → Prop} {μ : Mu} {u : Value}, ae w F μ a u → au V μ F hp w → cb V μ F hp w (Builtin.clear_ ts ty #[u]) hp' fun _ _ μ' r => r = .tuple #[] ∧ μ' = μ := by
  obtain ⟨i, v, q1, q2, q3, q4, q5⟩ := bQ hzk
  generalize hze : aC V.P e = z at hz hzk g q4 q5
  have hU := (aj hu).1
  have stay : ∀ {w : World} {ad : Option Addr} {c : Nat}, (Builtin.clear_ ts ty #[.slice ad 0 c]).run V.P w = .ok (.tuple #[]) w := fun {w ad c} => by
    cases ad <;> simp [Builtin.clear_, h0, run_underlying hU]
  rcases bF hR g with ⟨c, o, n, y, rfl, g⟩ | ⟨t, o, n, y, rfl, g⟩ | ⟨i', t, a', b', c, rfl, g⟩ | ⟨s, n, rfl, g⟩
  · obtain ⟨hy, g2⟩ := ah hR g
    rw [an] at hy; subst hy
    rcases ar hR g2 with ⟨h0', g3⟩ | ⟨h0', g3⟩
    · rw [an] at h0'
      subst h0'
      refine ⟨_, g3, fun {w F μ u} ha H => ?_⟩
      cases ha <;> exact cb.stay H stay ⟨rfl, rfl⟩
    · have hn0 : ¬ n = 0 := fun e => by rw [← an] at e; rw [e] at h0'; cases h0'
      obtain ⟨fl, x', s, t, hB, hs, hpr, g4⟩ := gz ok hR g3
      obtain ⟨hx, g5⟩ := ah hR g4
      rw [an] at hx; subst hx
      obtain ⟨ho, g6⟩ := ah hR g5
      rw [an] at ho
      have ho : o % x' = 0 := ho
      obtain ⟨r, hr, g7⟩ := a50 ok hR _ g6
      obtain ⟨hp', hset, _, g8⟩ := bw ok hR g7
      have hoz : Nat.div o x' * x' = o := Nat.div_mul_cancel (Nat.dvd_of_mod_eq_zero ho)
      have hx0 : 0 < x' := hz
      obtain ⟨hr1, hr2⟩ := yo hx0 hr
      rw [hoz] at hr1 hr2
      have hs : o + n * x' ≤ s := hs
      refine ⟨_, g8, fun {w F μ u} ha H => ?_⟩
      have hlen : (Builtin.zeroCells v.cells n).toList.length = n * x' := by rw [Array.length_toList, cE, q4]
      cases ha with
      | pN => exact absurd rfl hn0
      | ms hm hc hcs =>
        rename_i cc mm
        obtain ⟨hH, hE, hrun⟩ := H.write (o := o) (vs := (Builtin.zeroCells v.cells n).toList) (fl' := false) hB hpr hm (by rw [hlen]; exact hs) (fun j hj => by
            rw [hlen] at hj
            obtain ⟨y, h1, h2, h3, _⟩ := q5 (j % x') (Nat.mod_lt _ (by omega))
            refine ⟨y, ?_, h2, ?_⟩
            · rw [Array.getElem?_toList]
              unfold Builtin.zeroCells
              rw [Array.getElem?_map, q4, Array.getElem?_range, if_pos hj]
              show some (v.cells[j % x']!) = some y
              rw [getElem!_def, h1]
            · rw [hr1 j hj]; exact h3 w F μ)
          (fun j hj hne => hr2 j (by rw [← hlen]; exact hne)) (fun e => Bool.noConfusion e) hset
        refine ⟨μ, F, _, _, ?_, ⟨rfl, rfl⟩, hH, hE⟩
        cases n with
        | zero => exact absurd rfl hn0
        | succ n =>
          simp [Builtin.clear_, h0, run_underlying hU, zeroValue, typeInfo, q2, q3, hrun]
  · exact aa hR g
  · obtain ⟨hg, g⟩ := ah hR g
    rw [Bool.or_eq_true, an, an] at hg
    refine ⟨_, g, fun {w F μ u} ha H => ?_⟩
    rcases hg with rfl | rfl <;> cases ha <;> exact cb.stay H stay ⟨rfl, rfl⟩
  · exact aa hR g
include ok hR in
theorem a1S {s e : TypeId} (hs : bj V.P s = some (.slice e)) (he : rH V.P e = true) {a : AV} {hp : Hp} {k : AV → Hp → ab}
    (g : (a.cU (fun b _ n _ => aq (Nat.ble 1 n) (hp.own M b 0 fun _ _ _ _ => k a hp)) (fun _ _ _ _ => .fail) (fun _ => .fail) (fun _ _ => .fail)) = R) :
    k a hp = R ∧ ∀ {w : World} {F : Nat → Prop} {μ : Mu} {u : Value}, ae w F μ a u → au V μ F hp w → cb V μ F hp w (convert s s u) hp fun w' F' μ' r => ae w' F' μ' a r ∧ μ' = μ := by
  rcases bF hR g with ⟨b, o, n, y, rfl, g⟩ | ⟨t, o, n, y, rfl, g⟩ | ⟨i', t, a', b', c, rfl, g⟩ | ⟨s, n, rfl, g⟩
  · obtain ⟨hn, g2⟩ := ah hR g
    rw [aK] at hn
    obtain ⟨fl, z, sz, t, hB, _, hpr, g3⟩ := gz ok hR g2
    refine ⟨g3, fun {w F μ u} ha H => ?_⟩
    cases ha with
    | pN => omega
    | @ms _ _ _ _ _ cap m hm hc hcs =>
      have hb := H.aF b
      rw [hB] at hb
      obtain ⟨m', c, T, fz, p1, p2, p3, p4, p5, p6, p7⟩ := hb
      rw [hm] at p1; cases p1
      have hshape : w.shape? m.aF = some (T, c.size) := by simp [World.shape?, p2]
      let fz' : Nat × Nat := if fz.1 = fz.2 then (c.size, c.size + 1) else (min fz.1 c.size, max fz.2 (c.size + 1))
      have hmod : (w.freeze ⟨m.aF, c.size, none⟩ 1).heap[m.aF]? = some (.cells c T fz') := by
        simp only [World.freeze, Nat.one_ne_zero, if_false, Array.getElem?_modify, p2, if_true, Option.map_some, fz']
        obtain ⟨f1, f2⟩ := fz
        simp only [beq_iff_eq]
      have hoth : ∀ X, X ≠ m.aF → (w.freeze ⟨m.aF, c.size, none⟩ 1).heap[X]? = w.heap[X]? := fun X hX => by
        simp only [World.freeze, Nat.one_ne_zero, if_false, Array.getElem?_modify, if_neg (Ne.symm hX)]
      have hsz : (w.freeze ⟨m.aF, c.size, none⟩ 1).heap.size = w.heap.size := by
        simp only [World.freeze, Nat.one_ne_zero, if_false, Array.size_modify]
      have hwr : (hp.at b).wr := by rw [hB]; exact rfl
      have hF : ∀ X, F X → (w.freeze ⟨m.aF, c.size, none⟩ 1).heap[X]? = w.heap[X]? := fun X hX => hoth X fun e => (p6 rfl).2 (e ▸ hX)
      obtain ⟨hH, hE⟩ := H.set (h' := hp) hwr hpr hm hsz hoth (B := hp.at b) ⟨fun c => by
          by_cases e : c = b
          · rw [if_pos e, e]
          · rw [if_neg e], Nat.le_refl _, rfl, rfl⟩ (by
        rw [hB]
        refine ⟨m, c, T, fz', hm, hmod, p3, fun i hi => ?_, p5, fun _ => ⟨?_, (p6 rfl).2⟩, fun e => Bool.noConfusion e⟩
        · obtain ⟨u, h1, h2, h3⟩ := p4 i hi
          exact ⟨u, h1, h2, h3.mono hF (fun _ h => h) (fun _ _ h => h)⟩
        · right
          simp only [fz']
          split
          · exact Nat.le_refl _
          · rcases (p6 rfl).1 with h | h
            · contradiction
            · show c.size ≤ min fz.1 c.size
              omega)
      refine ⟨μ, F, _, .slice (some ⟨m.aF, m.base + o, none⟩) n cap, ?_, ⟨.ms hm hc hcs, rfl⟩, hH, hE⟩
      simp [convert, run_underlying (aj hs).1, run_underlying (gB he), markStringish, hshape]
  · exact aa hR g
  · exact aa hR g
  · exact aa hR g
end
theorem iV {P : Program} {kt : TypeId} {c : Nat} (hk : fA P kt = some c) : ∃ d, bj P kt = some d ∧ (∀ u v, n8 c u → n8 c v → ∃ r, Instr.sameNow d u v = some r ∧ (r = true ↔ u = v)) ∧
    (∀ b n v w, (Instr.checkKey b (n + 1) kt v).run P w = .ok () w) ∧ ∀ u, n8 c u → Instr.sameBits 10000 u u = true := by
  unfold fA at hk
  cases hu : bj P kt with
  | none => rw [hu] at hk; cases hk
  | some d =>
    rw [hu] at hk
    have hU := (aj hu).1
    have sb : ∀ n (u : Value), (∃ b, u = .bool b) ∨ (∃ s, u = .string s) ∨ (∃ q n, u = .int q n) → Instr.sameBits n u u = true := fun n u h => by
      rcases h with ⟨b, rfl⟩ | ⟨s, rfl⟩ | ⟨q, m, rfl⟩
      · cases n <;> simp [Instr.sameBits]
      · have : (s == s) = true := by rw [beq_toListBytes]; exact (jc s s).2 rfl
        cases n <;> simp [Instr.sameBits, this]
      · cases n <;> simp [Instr.sameBits]
    cases d with
    | bool =>
      cases hk
      refine ⟨_, rfl, fun u v ⟨x, hx⟩ ⟨y, hy⟩ => ?_, fun b n v w => ?_, fun u ⟨x, hx⟩ => sb _ _ (.inl ⟨x, hx⟩)⟩
      · subst hx; subst hy
        exact ⟨_, rfl, by simp⟩
      · cases v <;> simp [Instr.checkKey, run_underlying hU]
    | string =>
      cases hk
      refine ⟨_, rfl, fun u v ⟨x, hx⟩ ⟨y, hy⟩ => ?_, fun b n v w => ?_, fun u ⟨x, hx⟩ => sb _ _ (.inr (.inl ⟨x, hx⟩))⟩
      · subst hx; subst hy
        exact ⟨_, rfl, by rw [beq_toListBytes, jc]; simp⟩
      · cases v <;> simp [Instr.checkKey, run_underlying hU]
    | int q =>
      have : c = kc q + 2 := (Option.some.inj hk).symm
      subst this
      refine ⟨_, rfl, fun u v ⟨x, hx⟩ ⟨y, hy⟩ => ?_, fun b n v w => ?_, fun u ⟨x, hx⟩ => sb _ _ (.inr (.inr ⟨_, x, hx⟩))⟩
      · subst hx; subst hy
        refine ⟨decide (x = y), ?_, by simp⟩
        simp only [Instr.sameNow, if_true]
        congr 1
      · cases v <;> simp [Instr.checkKey, run_underlying hU]
    | _ => cases hk
def tS (c : Nat) (kv : Value) (ks : Nat → Value) (n : Nat) (r : Option Nat) : Prop := match r with
  | some j => j < n ∧ n8 c kv ∧ ks j = kv ∧ (∀ i, i ≤ j → n8 c (ks i)) ∧ ∀ i, i < j → ks i ≠ kv
  | none => (0 < n → n8 c kv) ∧ ∀ i, i < n → n8 c (ks i) ∧ ks i ≠ kv
section
variable {M : Mem} (ok : aT M) {R : ab} (hR : R ≠ .fail)
include ok hR in
theorem nP {c : Nat} {key : AV} {k : Nat → ab} {z : ab} (n : Nat) : ∀ {t : Row} {s : Nat}, (jh M c n).f t (2 * s) key k z = R →
    ∃ r : Option Nat, (match r with | some j => k (2 * (s + j)) | none => z) = R ∧ ∀ {w : World} {F : Nat → Prop} {μ : Mu} {kv : Value} {ks : Nat → Value}, ae w F μ key kv → (∀ i, i < n → ae w F μ (t.at (2 * (s + i))) (ks i)) → tS c kv ks n r := by
  induction n with
  | zero => intro t s g; exact ⟨none, g, fun _ _ => ⟨fun h => absurd h (Nat.lt_irrefl _), fun i hi => absurd hi (Nat.not_lt_zero _)⟩⟩
  | succ n ih =>
    intro t s g
    have g1 := ok.rg hR (show M.rg.f t (2 * s) (fun a => jW c a key fun r => when r (k (2 * s)) ((jh M c n).f t (Nat.succ (Nat.succ (2 * s))) key k z)) = R from g)
    obtain ⟨r, g2, h⟩ := iI hR g1
    rcases ar hR g2 with ⟨hr, g3⟩ | ⟨hr, g3⟩
    · subst hr
      refine ⟨some 0, g3, fun {w F μ kv ks} hk hks => ?_⟩
      obtain ⟨h1, h2, h3⟩ := h (hks 0 (Nat.succ_pos _)) hk
      exact ⟨Nat.succ_pos _, h2, h3.1 rfl, fun i hi => by rw [Nat.le_zero.1 hi]; exact h1, fun i hi => absurd hi (Nat.not_lt_zero _)⟩
    · subst hr
      obtain ⟨r', g4, h'⟩ := ih (s := s + 1) (show (jh M c n).f t (2 * (s + 1)) key k z = R from g3)
      refine ⟨r'.map (· + 1), ?_, fun {w F μ kv ks} hk hks => ?_⟩
      · cases r' with
        | none => exact g4
        | some j => rw [← g4]; show k (2 * (s + (j + 1))) = k (2 * (s + 1 + j)); congr 1; omega
      · obtain ⟨h1, h2, h3⟩ := h (hks 0 (Nat.succ_pos _)) hk
        have hne : ks 0 ≠ kv := fun e => Bool.noConfusion (h3.2 e)
        have := h' (ks := fun i => ks (i + 1)) hk fun i hi => by
          have := hks (i + 1) (by omega)
          rw [show s + 1 + i = s + (i + 1) by omega]; exact this
        cases r' with
        | none =>
          refine ⟨fun _ => h2, fun i hi => ?_⟩
          cases i with
          | zero => exact ⟨h1, hne⟩
          | succ i => exact this.2 i (Nat.lt_of_succ_lt_succ hi)
        | some j =>
          obtain ⟨q1, q2, q3, q4, q5⟩ := this
          refine ⟨Nat.succ_lt_succ q1, q2, q3, fun i hi => ?_, fun i hi => ?_⟩
          · cases i with
            | zero => exact h1
            | succ i => exact q4 i (Nat.le_of_succ_le_succ hi)
          · cases i with
            | zero => exact hne
            | succ i => exact q5 i (Nat.lt_of_succ_lt_succ hi)
theorem iJ {d : TypeDesc} {c : Nat} {kv : Value} (hd : ∀ u v, n8 c u → n8 c v → ∃ r, Instr.sameNow d u v = some r ∧ (r = true ↔ u = v)) : ∀ (l : List MapEntry) (s : Nat) (ks : Nat → Value) (r : Option Nat), (∀ i e, l[i]? = some e → ks i = e.key) → tS c kv ks l.length r →
    Instr.findNow d kv l s = some (match r with | some j => l[j]?.map fun e => (s + j, e.val) | none => none)
  | [], s, ks, r, _, h => by
    cases r with
    | none => rfl
    | some j => exact absurd h.1 (Nat.not_lt_zero _)
  | e :: l, s, ks, r, hk, h => by
    have h0 : ks 0 = e.key := hk 0 e rfl
    have rest : ∀ i e', l[i]? = some e' → ks (i + 1) = e'.key := fun i e' h => hk (i + 1) e' h
    have hkv : n8 c kv := by
      cases r with
      | none => exact h.1 (Nat.succ_pos _)
      | some j => exact h.2.1
    have hk0 : n8 c e.key := by
      rw [← h0]
      cases r with
      | none => exact (h.2 0 (Nat.succ_pos _)).1
      | some j => exact h.2.2.2.1 0 (Nat.zero_le _)
    obtain ⟨b, hb, hbe⟩ := hd kv e.key hkv hk0
    unfold Instr.findNow
    rw [hb]
    cases b with
    | true =>
      have e0 := hbe.1 rfl
      cases r with
      | none => exact absurd (h0.trans e0.symm) (h.2 0 (Nat.succ_pos _)).2
      | some j =>
        cases j with
        | zero => simp
        | succ j => exact absurd (h0.trans e0.symm) (h.2.2.2.2 0 (Nat.succ_pos _))
    | false =>
      have e0 : ¬ kv = e.key := fun x => Bool.noConfusion (hbe.2 x)
      cases r with
      | none =>
        have := iJ hd l (s + 1) (fun i => ks (i + 1)) none rest ⟨fun _ => hkv, fun i hi => h.2 (i + 1) (Nat.succ_lt_succ hi)⟩
        exact this
      | some j =>
        cases j with
        | zero => exact absurd (h.2.2.1.symm.trans h0) e0
        | succ j =>
          obtain ⟨q1, q2, q3, q4, q5⟩ := h
          have := iJ hd l (s + 1) (fun i => ks (i + 1)) (some j) rest ⟨Nat.lt_of_succ_lt_succ q1, q2, q3, fun i hi => q4 (i + 1) (Nat.succ_le_succ hi), fun i hi => q5 (i + 1) (Nat.succ_lt_succ hi)⟩
          simp only [this]
          rw [show s + 1 + j = s + (j + 1) by omega]
          rfl
end
section
variable {V : Env} {M : Mem} (ok : aT M) {R : ab} (hR : R ≠ .fail)
include ok hR
theorem a1Y {m : AV} {hp : Hp} {f : Nat → Nat → Row → ab} (g : (m.tO fun q _ b _ _ => aq (Nat.beq q 4) (hp.get M b fun B => B.eX fun n t => f b n t)) = R) : ∃ tr b p c n t, m = .x 4 tr b p c ∧ hp.at b = .map n t ∧ f b n t = R := by
  obtain ⟨q, tr, b, p, c, rfl, g⟩ := fE hR g
  obtain ⟨hq, g2⟩ := ah hR g
  rw [an] at hq; subst hq
  have g3 := bu ok hR g2
  obtain ⟨n, t, hB, g4⟩ := eY hR g3
  exact ⟨tr, b, p, c, n, t, rfl, hB, g4⟩
omit ok hR in
theorem World.pC {P : Program} {w : World} {r : Nat} {es : Array MapEntry} {clock : Nat} (hb : w.heap[r]? = some (.map es clock)) : (getObj r).run P w = .ok (.map es clock) w := by simp [getObj, Sem.run, hb]
omit ok hR in
theorem pt {kt : TypeId} {c : Nat} (hk : fA V.P kt = some c) {key : AV} {n : Nat} {tb : Row} {r : Option Nat}
    (H : ∀ {w : World} {F : Nat → Prop} {μ : Mu} {kv : Value} {ks : Nat → Value}, ae w F μ key kv → (∀ i, i < n → ae w F μ (tb.at (2 * (0 + i))) (ks i)) → tS c kv ks n r)
    {w : World} {F : Nat → Prop} {μ : Mu} {u u' : Value} {tr : Row} {b p cc : Nat} (hu : ae w F μ (.x 4 tr b p cc) u) (hkv : ae w F μ key u') (hr : j3 V w F μ b (.map n tb)) :
    ∃ (mp : Mp) (es : Array MapEntry) (clk : Nat), u = .map (some mp.aF) ∧ μ b = some mp ∧ w.heap[mp.aF]? = some (.map es clk) ∧ ¬ F mp.aF ∧ es.size = n ∧ (∀ i, i < n → ∃ en, es[i]? = some en ∧ ae w F μ (tb.at (2 * i)) en.key ∧ ae w F μ (tb.at (2 * i + 1)) en.val) ∧
      (∀ j, r = some j → j < n ∧ n8 c u' ∧ ∀ en, es[j]? = some en → en.key = u') ∧
      ∀ w', (Instr.findKey kt u' es.toList).run V.P w' = .ok (match r with | some j => es[j]?.map fun en => (j, en.val) | none => none) w' := by
  obtain ⟨d, hd1, hd2, hd3, _⟩ := iV hk
  cases hu with
  | map hm =>
    obtain ⟨m', es, clk, p1, p2, p3, p4, p5⟩ := hr
    rw [hm] at p1; cases p1
    obtain ⟨ks, hks⟩ := eD (n := n) (Q := fun i u => ae w F μ (tb.at (2 * (0 + i))) u ∧ ∃ en, es[i]? = some en ∧ u = en.key) fun i hi => by
      obtain ⟨en, h1, h2, _⟩ := p5 i hi
      exact ⟨en.key, by rw [Nat.zero_add]; exact h2, en, h1, rfl⟩
    have hf := H hkv fun i hi => (hks i hi).1
    have hlen : es.toList.length = n := by rw [Array.length_toList, p4]
    have hnow := iJ hd2 es.toList 0 ks r (fun i en hi => by
      have hi' : i < n := by rw [← hlen]; exact (List.getElem?_eq_some_iff.1 hi).1
      obtain ⟨en', q1, q2⟩ := (hks i hi').2
      rw [Array.getElem?_toList, q1] at hi; cases hi; exact q2) (by rw [hlen]; exact hf)
    refine ⟨_, es, clk, rfl, hm, p2, p3, p4, p5, fun j hj => ?_, fun w' => ?_⟩
    · subst hj
      refine ⟨hf.1, hf.2.1, fun en he => ?_⟩
      obtain ⟨en', q1, q2⟩ := (hks j hf.1).2
      rw [q1] at he; cases he
      rw [← q2]; exact hf.2.2.1
    · simp only [Instr.findKey, Sem.run_bind, run_underlying (aj hd1).1, Result.andThen_ok, hnow, Sem.run_pure]
      cases r with
      | none => rfl
      | some j => simp only [Array.getElem?_toList, Nat.zero_add]
theorem vg {t kt e : TypeId} {c : Nat} {cm : Bool} (ht : bj V.P t = some (.map kt e)) (hk : fA V.P kt = some c) {m key : AV} {hp : Hp} {k : AV → Hp → ab}
    (g : (m.tO fun q _ b _ _ => aq (Nat.beq q 4) (hp.get M b fun B => B.eX fun n t =>
      (jh M c n).f t 0 key (fun j => M.rg.f t (Nat.succ j) fun v => when cm (k (.bM (.nd v .lf (.nd (.bool true) .lf .lf)) 2) hp) (k v hp)) (aq (bm (aU V.P e)) (when cm (k (.bM (.nd (aU V.P e) .lf (.nd (.bool false) .lf .lf)) 2) hp) (k (aU V.P e) hp))))) = R) :
    ∃ v, k v hp = R ∧ bB hp m ∧ a5t V (fun u u' => Instr.lookup t u u' cm) hp m key v := by
  obtain ⟨tr, b, p, cc, n, tb, rfl, hB, g1⟩ := a1Y ok hR (f := fun b n t => (jh M c n).f t 0 key (fun j => M.rg.f t (Nat.succ j) fun v => when cm (k (.bM (.nd v .lf (.nd (.bool true) .lf .lf)) 2) hp) (k v hp)) (aq (bm (aU V.P e)) (when cm (k (.bM (.nd (aU V.P e) .lf (.nd (.bool false) .lf .lf)) 2) hp) (k (aU V.P e) hp)))) g
  obtain ⟨r, g2, H⟩ := nP ok hR n (s := 0) g1
  obtain ⟨d, hd1, hd2, hd3, _⟩ := iV hk
  have run := fun {w F μ u u'} => pt (V := V) (w := w) (F := F) (μ := μ) (u := u) (u' := u') (tr := tr) (b := b) (p := p) (cc := cc) hk H
  have live : bB hp (.x 4 tr b p cc) := fun c' hc => by cases hc; rw [hB]; trivial
  have pair : ∀ {w : World} {F : Nat → Prop} {μ : Mu} {v : AV} {u : Value} {bb : Bool}, ae w F μ v u → ae w F μ (.bM (.nd v .lf (.nd (.bool bb) .lf .lf)) 2) (.tuple #[u, .bool bb]) := fun {w F μ v u bb} h =>
    .bM (fun i => if i = 0 then u else .bool bb) rfl (fun i hi => by
      have hi : i < 2 := hi
      rcases (by omega : i = 0 ∨ i = 1) with rfl | rfl <;> rfl) fun i hi => by
      have hi : i < 2 := hi
      rcases (by omega : i = 0 ∨ i = 1) with rfl | rfl
      · exact h
      · exact .bool _
  cases r with
  | some j =>
    have g3 := ok.rg hR g2
    rw [Nat.zero_add] at g3
    have fin : ∀ {w : World} {F : Nat → Prop} {μ : Mu} {u u' : Value}, ae w F μ (.x 4 tr b p cc) u → ae w F μ key u' → du V w F μ hp (.x 4 tr b p cc) → ∃ x, ae w F μ (tb.at (2 * j + 1)) x ∧ (Instr.lookup t u u' cm).run V.P w = .ok (if cm then .tuple #[x, .bool true] else x) w := by
      intro w F μ u u' hu hkv hro
      have hro' := hro b rfl
      rw [hB] at hro'
      obtain ⟨mp, es, clk, rfl, hmu, p2, p3, p4, p5, hj, p6⟩ := run hu hkv hro'
      obtain ⟨en, q1, q2, q3⟩ := p5 j (hj j rfl).1
      refine ⟨en.val, q3, ?_⟩
      simp only [Instr.lookup, Sem.run_bind, run_underlying (aj ht).1, Result.andThen_ok, World.pC p2, hd3 _ 9999, p6, q1, Option.map_some, Sem.run_pure]
    rcases ar hR g3 with ⟨hc, g4⟩ | ⟨hc, g4⟩
    · refine ⟨_, g4, live, fun {w F μ u u'} hu hkv hro => ?_⟩
      obtain ⟨x, h1, h2⟩ := fin hu hkv hro
      rw [if_pos hc] at h2
      exact ⟨_, h2, pair h1⟩
    · refine ⟨_, g4, live, fun {w F μ u u'} hu hkv hro => ?_⟩
      obtain ⟨x, h1, h2⟩ := fin hu hkv hro
      rw [if_neg (by rw [hc]; decide)] at h2
      exact ⟨_, h2, h1⟩
  | none =>
    obtain ⟨hkn, g3⟩ := ah hR g2
    obtain ⟨i, zv, z1, z2, z3, z4⟩ := j1 hkn
    have fin : ∀ {w : World} {F : Nat → Prop} {μ : Mu} {u u' : Value}, ae w F μ (.x 4 tr b p cc) u → ae w F μ key u' → du V w F μ hp (.x 4 tr b p cc) → ae w F μ (aU V.P e) zv ∧ (Instr.lookup t u u' cm).run V.P w = .ok (if cm then .tuple #[zv, .bool false] else zv) w := by
      intro w F μ u u' hu hkv hro
      have hro' := hro b rfl
      rw [hB] at hro'
      obtain ⟨mp, es, clk, rfl, hmu, p2, p3, p4, p5, hj, p6⟩ := run hu hkv hro'
      refine ⟨by rw [z4]; exact eE zv, ?_⟩
      simp [Instr.lookup, Sem.run_bind, run_underlying (aj ht).1, Result.andThen_ok, World.pC p2, hd3 _ 9999, p6, zeroValue, typeInfo, z2, z3]
    rcases ar hR g3 with ⟨hc, g4⟩ | ⟨hc, g4⟩
    · refine ⟨_, g4, live, fun {w F μ u u'} hu hkv hro => ?_⟩
      obtain ⟨h1, h2⟩ := fin hu hkv hro
      rw [if_pos hc] at h2
      exact ⟨_, h2, pair h1⟩
    · refine ⟨_, g4, live, fun {w F μ u u'} hu hkv hro => ?_⟩
      obtain ⟨h1, h2⟩ := fin hu hkv hro
      rw [if_neg (by rw [hc]; decide)] at h2
      exact ⟨_, h2, h1⟩
theorem ni {t kt e : TypeId} {c : Nat} (ht : bj V.P t = some (.map kt e)) (hk : fA V.P kt = some c) {m key v : AV} {hp : Hp} {k : Hp → ab}
    (g : (m.tO fun q _ b _ _ => aq (Nat.beq q 4) (eC b hp (hp.get M b fun B => B.eX fun n t =>
      (jh M c n).f t 0 key (fun j => M.rs.f t (Nat.succ j) v fun t => hp.put M b (.map n t) k)
        (M.rs.f t (Nat.mul 2 n) key fun t => M.rs.f t (Nat.succ (Nat.mul 2 n)) v fun t => hp.put M b (.map (Nat.succ n) t) k)))) = R) :
    ∃ hp', k hp' = R ∧ ∀ {w : World} {F : Nat → Prop} {μ : Mu} {um uk uv : Value}, ae w F μ m um → ae w F μ key uk → ae w F μ v uv → au V μ F hp w → cb V μ F hp w (Instr.mapUpdate t um uk uv) hp' fun _ _ μ' _ => μ' = μ := by
  obtain ⟨q, tr, b, p, cc, rfl, g1⟩ := fE hR g
  obtain ⟨hq, g2⟩ := ah hR g1
  rw [an] at hq; subst hq
  obtain ⟨hpr, g3⟩ := ig hR (show kR b hp.pr _ = R from g2)
  have g4 := bu ok hR g3
  obtain ⟨n, tb, hB, g5⟩ := eY hR g4
  obtain ⟨r, g6, H⟩ := nP ok hR n (s := 0) g5
  obtain ⟨d, hd1, hd2, hd3, hd4⟩ := iV hk
  have fin : ∀ {w : World} {F : Nat → Prop} {μ : Mu} {uk uv : Value} {hp' : Hp} {n' : Nat} {t' : Row} {mp : Mp} {es es' : Array MapEntry} {clk clk' : Nat}, au V μ F hp w → br hp b (.map n' t') hp' → μ b = some mp → w.heap[mp.aF]? = some (.map es clk) → ¬ F mp.aF →
      es'.size = n' → (∀ i, i < n' → ∃ en, es'[i]? = some en ∧ ae w F μ (t'.at (2 * i)) en.key ∧ ae w F μ (t'.at (2 * i + 1)) en.val) →
      (Instr.mapUpdate t (.map (some mp.aF)) uk uv).run V.P w = (setObj mp.aF (.map es' clk')).run V.P w → cb V μ F hp w (Instr.mapUpdate t (.map (some mp.aF)) uk uv) hp' fun _ _ μ' _ => μ' = μ := by
    intro w F μ uk uv hp' n' t' mp es es' clk clk' hH hset hmu hblk hnF hsz hes hrun
    have hlt : mp.aF < w.heap.size := (hH.et b mp hmu).2
    have hwr : (hp.at b).wr := by rw [hB]; exact trivial
    have hoth : ∀ X, X ≠ mp.aF → (w.heap.setIfInBounds mp.aF (.map es' clk'))[X]? = w.heap[X]? := fun X hX => by
      rw [Array.getElem?_setIfInBounds, if_neg (Ne.symm hX)]
    obtain ⟨h1, h2⟩ := hH.set (w' := { w with heap := w.heap.setIfInBounds mp.aF (.map es' clk') }) hwr hpr hmu (by simp) hoth hset ⟨mp, es', clk', hmu, by
        show (w.heap.setIfInBounds mp.aF (.map es' clk'))[mp.aF]? = _
        rw [Array.getElem?_setIfInBounds, if_pos rfl, if_pos hlt], hnF, hsz, fun i hi => by
        obtain ⟨en, q1, q2, q3⟩ := hes i hi
        have hF : ∀ X, F X → (w.heap.setIfInBounds mp.aF (.map es' clk'))[X]? = w.heap[X]? := fun X hX => hoth X fun e => hnF (e ▸ hX)
        exact ⟨en, q1, q2.mono hF (fun _ h => h) (fun _ _ h => h), q3.mono hF (fun _ h => h) (fun _ _ h => h)⟩⟩
    refine ⟨μ, F, _, (), ?_, rfl, h1, h2⟩
    rw [hrun]
    simp [setObj, Sem.run, hblk]
  cases r with
  | some j =>
    obtain ⟨t', ht0, g7⟩ := ok.rs hR g6
    have ht' : ∀ x, t'.at x = if x = 2 * j + 1 then v else tb.at x := fun x => (ht0 x).trans (by rw [Nat.zero_add])
    obtain ⟨hp', hset, _, g8⟩ := bw ok hR g7
    refine ⟨hp', g8, fun {w F μ um uk uv} hm hkv hv hH => ?_⟩
    have hro := (hH.aF b).read
    rw [hB] at hro
    obtain ⟨mp, es, clk, rfl, hmu, p2, p3, p4, p5, hj, p6⟩ := pt (V := V) hk H hm hkv hro
    obtain ⟨hj1, hj2, hj3⟩ := hj j rfl
    obtain ⟨en, q1, q2, q3⟩ := p5 j hj1
    have hen := hj3 en q1
    refine fin (es' := es.modify j fun en => { en with key := uk, val := uv }) (clk' := clk) hH hset hmu p2 p3 (by rw [Array.size_modify]; exact p4) (fun i hi => ?_) ?_
    · obtain ⟨ei, r1, r2, r3⟩ := p5 i hi
      by_cases e : i = j
      · subst e
        rw [q1] at r1; cases r1
        refine ⟨{ en with key := uk, val := uv }, by rw [Array.getElem?_modify, if_pos rfl, q1]; rfl, ?_, ?_⟩
        · show ae w F μ _ uk
          rw [ht', if_neg (by omega), ← hen]; exact q2
        · rw [ht', if_pos (by omega)]; exact hv
      · refine ⟨ei, by rw [Array.getElem?_modify, if_neg (Ne.symm e)]; exact r1, ?_, ?_⟩
        · rw [ht', if_neg (by omega)]; exact r2
        · rw [ht', if_neg (by omega)]; exact r3
    · have hsame := hd4 uk hj2
      simp only [Instr.mapUpdate, Sem.run_bind, run_underlying (aj ht).1, Result.andThen_ok, World.pC p2, hd3 _ 9999, p6, q1, Option.map_some, Option.getD_some, Instr.keyThatStays, hen, hsame, if_true, Sem.run_pure]
  | none =>
    obtain ⟨t1, ht1', g7⟩ := ok.rs hR g6
    obtain ⟨t2, ht2', g8⟩ := ok.rs hR g7
    have ht1 : ∀ x, t1.at x = if x = 2 * n then key else tb.at x := fun x => ht1' x
    have ht2 : ∀ x, t2.at x = if x = 2 * n + 1 then v else t1.at x := fun x => ht2' x
    obtain ⟨hp', hset, _, g9⟩ := bw ok hR g8
    have h2n : Nat.mul 2 n = 2 * n := rfl
    refine ⟨hp', g9, fun {w F μ um uk uv} hm hkv hv hH => ?_⟩
    have hro := (hH.aF b).read
    rw [hB] at hro
    obtain ⟨mp, es, clk, rfl, hmu, p2, p3, p4, p5, hj, p6⟩ := pt (V := V) hk H hm hkv hro
    refine fin (es' := es.push { key := uk, val := uv, born := clk }) (clk' := clk + 1) hH hset hmu p2 p3 (by rw [Array.size_push, p4]) (fun i hi => ?_) ?_
    · by_cases e : i = n
      · subst e
        refine ⟨{ key := uk, val := uv, born := clk }, by rw [Array.getElem?_push, if_pos p4.symm], ?_, ?_⟩
        · rw [ht2, if_neg (by omega), ht1, if_pos rfl]; exact hkv
        · rw [ht2, if_pos rfl]; exact hv
      · obtain ⟨ei, r1, r2, r3⟩ := p5 i (by omega)
        refine ⟨ei, by rw [Array.getElem?_push, if_neg (by omega)]; exact r1, ?_, ?_⟩
        · rw [ht2, if_neg (by omega), ht1, if_neg (by omega)]; exact r2
        · rw [ht2, if_neg (by omega), ht1, if_neg (by omega)]; exact r3
    · simp only [Instr.mapUpdate, Sem.run_bind, run_underlying (aj ht).1, Result.andThen_ok, World.pC p2, hd3 _ 9999, p6]
end
def CR (w : World) (F : Nat → Prop) (μ : Mu) (f : Nat → AV) (cs : Array Value) (n : Nat) : Prop := cs.size = n ∧ ∀ i, i < n → ∃ y, cs[i]? = some y ∧ y.oneCell' = true ∧ ae w F μ (f i) y
theorem CR.set {w : World} {F : Nat → Prop} {μ : Mu} {f f' : Nat → AV} {cs : Array Value} {n off sz : Nat} {v : AV} {u : Value} (h : CR w F μ f cs n) (hf : Fits v sz) (hv : ae w F μ v u) (hp : ∀ j, f' j = if off ≤ j ∧ j < off + sz then cv v (j - off) else f j) (hle : off + sz ≤ n) :
    u.cells.size = sz ∧ ¬ (off + u.cells.size > cs.size) ∧ CR w F μ f' (u.cells.zipIdx.foldl (fun cs (p : Value × Nat) => cs.setIfInBounds (off + p.2) p.1) cs) n := by
  obtain ⟨h1, h2⟩ := gZ hf hv
  refine ⟨h1, by rw [h1, h.1]; omega, ?_⟩
  obtain ⟨q1, q2⟩ := k7 off u.cells.toList 0 cs
  have e : u.cells.zipIdx.foldl (fun (cs : Array Value) (p : Value × Nat) => cs.setIfInBounds (off + p.2) p.1) cs = (u.cells.toList.zipIdx 0).foldl (fun (cs : Array Value) (p : Value × Nat) => cs.setIfInBounds (off + p.2) p.1) cs := by
    rw [← Array.foldl_toList, Array.toList_zipIdx]
  rw [e]
  refine ⟨by rw [q1, h.1], fun i hi => ?_⟩
  have hl : u.cells.toList.length = sz := by rw [Array.length_toList, h1]
  rw [q2 i, hp i, hl, h.1, Nat.add_zero]
  by_cases c : off ≤ i ∧ i < off + sz
  · rw [if_pos ⟨c.1, c.2, hi⟩, if_pos c]
    obtain ⟨y, r1, r2, r3⟩ := h2 (i - off) (by omega)
    exact ⟨y, by rw [Array.getElem?_toList]; exact r1, r2, r3⟩
  · rw [if_neg (fun q => c ⟨q.1, q.2.1⟩), if_neg c]; exact h.2 i hi
theorem lV {o z : Nat → Nat} {n : Nat} : ∀ {l : List (Nat × Operand)}, qT o z n l = true → ∀ p ∈ l, o p.1 + z p.1 ≤ n
  | [], _, p, hp => by cases hp
  | a :: l, h, p, hp => by
    have h' : aW (Nat.ble (Nat.add (o a.1) (z a.1)) n) (qT o z n l) = true := h
    rw [aG, aK] at h'
    rcases List.mem_cons.1 hp with rfl | hp
    · exact h'.1
    · exact lV h'.2 p hp
section
variable {C : Cx} {g : G} {R : ab}
theorem aed (ok : aT C.M) (hR : R ≠ .fail) {o : Nat → Nat} {z : Nat} {sk : Row} {fr : Fr} : ∀ {ps : List (Nat × Operand)} {t : Row} {f : Bool} {k : Row → Bool → ab}, (vk C.M z (partsOf C g ps o fun _ => z)).f sk fr t f k = R →
    ∃ t' f', k t' f' = R ∧ (∀ {n : Nat}, (∀ p ∈ ps, o p.1 + z ≤ n) → (f = true → ∀ i, i < n → (cellAt z t i).aS = true) → (f' = true → ∀ i, i < n → (cellAt z t' i).aS = true)) ∧
      ∀ {w : World} {F : Nat → Prop} {μ : Mu} {ρ : Operand → Value} {cs : Array Value} {n : Nat} {place : Nat → Option (Nat × Nat)}, (∀ p ∈ ps, ae w F μ (ov C g sk fr p.2) (ρ p.2)) → CR w F μ (cellAt z t) cs n → (∀ p ∈ ps, o p.1 + z ≤ n) →
      (∀ p ∈ ps, place p.1 = some (o p.1, z)) → ∃ cs', Instr.fill place cs (ps.map fun p => (p.1, ρ p.2)) = some cs' ∧ CR w F μ (cellAt z t') cs' n := by
  intro ps
  induction ps with
  | nil => intro t f k h; exact ⟨t, f, h, fun _ h => h, fun {w F μ ρ cs n place} _ hl _ _ => ⟨cs, rfl, hl⟩⟩
  | cons p r ih =>
    intro t f k h
    have h1 := aE hR (k := fun v => wrV C.M z z t (o p.1) v fun t b => (vk C.M z (partsOf C g r o fun _ => z)).f sk fr t (aW f b) k) h
    obtain ⟨t1, b, hf, hs, hfree, h2⟩ := yb ok hR h1
    obtain ⟨t', f', h3, H1, H2⟩ := ih h2
    refine ⟨t', f', h3, fun {n} hle hfr => H1 (fun q hq => hle q (List.mem_cons_of_mem _ hq)) fun e i hi => ?_, fun {w F μ ρ cs n place} hρ hl hle hpl => ?_⟩
    · rw [aG] at e
      rw [hs]
      by_cases c : o p.1 ≤ i ∧ i < o p.1 + z
      · rw [if_pos c]
        rcases hfree e.2 (i - o p.1) (by omega) with h | ⟨l, n, hl, h⟩
        · exact bJ h
        · rw [hl]
          show (nth l (i - o p.1)).aS = true
          rw [mA h]; rfl
      · rw [if_neg c]; exact hfr e.1 i hi
    · obtain ⟨e1, e2, e3⟩ := hl.set hf (hρ p (List.mem_cons_self ..)) hs (hle p (List.mem_cons_self ..))
      obtain ⟨cs', q1, q2⟩ := H2 (ρ := ρ) (place := place) (fun q hq => hρ q (List.mem_cons_of_mem _ hq)) e3 (fun q hq => hle q (List.mem_cons_of_mem _ hq)) (fun q hq => hpl q (List.mem_cons_of_mem _ hq))
      refine ⟨cs', ?_, q2⟩
      rw [List.map_cons, Instr.fill, hpl p (List.mem_cons_self ..)]
      simp only []
      rw [if_neg]
      · exact q1
      · simp only [Bool.or_eq_true, decide_eq_true_eq]
        rintro (h | h)
        · exact h e1
        · exact e2 h
theorem lE (ok : aT C.M) (hR : R ≠ .fail) {V : Env} {N : NK} {hp : Hp} {id : Nat} (hN : bO N hp id) {t e : TypeId} {len : Nat} {ps : Array (Nat × Operand)} {sk : Row} {fr : Fr} {k : AV → Hp → ab} (ht : bj V.P t = some (.slice e)) {z : Nat} (hsz : aC V.P e = z) (hz : 1 ≤ z)
    (hzk : bq V.P e z = true) (hb : len * z ≤ 16777216) (hfit : qT (fun i => i * z) (fun _ => z) (len * z) ps.toList = true)
    (h : (vk C.M z (partsOf C g ps.toList (fun i => i * z) fun _ => z)).f sk fr (Tr.full (bE V.P e) (depth len)) true (fun r f => N.f hp (.row true f z (len * z) r) fun id hp => k (.ms id 0 len z) hp) = R) :
    ∃ B hp', k (.ms id 0 len z) hp' = R ∧ br hp id B hp' ∧ id < hp'.nx ∧ New V (fun w F μ (ρ : Operand → Value) => ∀ p ∈ ps.toList, ae w F μ (ov C g sk fr p.2) (ρ p.2)) (fun ρ => Instr.buildSlice t len (ps.map fun (i, x) => (i, ρ x))) id B (.ms id 0 len z) := by
  obtain ⟨i, zv, q1, q2, q3, q4, q5⟩ := bQ hzk
  have hi : i.size = z := by rw [← hsz, ba q1]
  obtain ⟨r, f, h2, H1, H2⟩ := aed ok hR h
  obtain ⟨hp', h3, hset, hid⟩ := hN hR rfl rfl h2
  have hle := lV hfit
  have hc : ∀ i, i < len * z → cellAt z (Tr.full (bE V.P e) (depth len)) i = zc V.P e z (i % z) := fun i hi => by rw [gp (by omega) hi]; rfl
  refine ⟨_, hp', h3, hset, hid, js (fun e i hi => H1 hle (fun _ i hi => by
    rw [hc i hi]
    obtain ⟨y, _, _, _, hf⟩ := q5 (i % z) (Nat.mod_lt _ (by omega))
    exact hf) e i hi) fun {w F μ ρ} hρ => ?_⟩
  have hz0 : CR w F μ (cellAt z (Tr.full (bE V.P e) (depth len))) ((Array.range (len * z)).map (zv.cells[· % zv.cells.size]!)) (len * z) := by
    refine ⟨by simp, fun j hj => ?_⟩
    obtain ⟨y, h1, h2, h3, _⟩ := q5 (j % z) (Nat.mod_lt _ (by omega))
    refine ⟨y, ?_, h2, by rw [hc j hj]; exact h3 w F μ⟩
    rw [Array.getElem?_map, Array.getElem?_range, if_pos hj, q4]
    show some (zv.cells[j % z]!) = some y
    rw [getElem!_def, h1]
  obtain ⟨cs, e1, e2, e3⟩ := H2 (ρ := ρ) (place := fun i => some (i * z, z)) hρ hz0 hle (fun p _ => rfl)
  have hmap : (ps.map fun (i, x) => (i, ρ x)).toList = ps.toList.map fun p => (p.1, ρ p.2) := by rw [Array.toList_map]
  refine ⟨.slice (some ⟨w.heap.size, 0, none⟩) len len, w.alloc (.cells cs e), cs, e, (0, 0), ?_, ⟨rfl, rfl, rfl⟩, .inl rfl, e3, fun {μ'} hμ => .ms hμ (Nat.le_refl _) (by show 0 + 0 + len * z ≤ cs.size; rw [e2]; omega)⟩
  by_cases h0 : len * z = 0
  · have hnil : ((Array.range (len * z)).map (zv.cells[· % zv.cells.size]!)) = ((Array.range (len * z)).map ((#[] : Array Value)[· % (#[] : Array Value).size]!)) := by rw [h0]; simp
    rw [hnil] at e1
    simp [Instr.buildSlice, run_underlying (aj ht).1, sizeOf, typeInfo, q2, hi, h0, newRow]
    rw [h0] at e1
    simp at e1
    simp [e1]
  · have : ¬ len * z > 2 ^ 24 := by omega
    simp only [Instr.buildSlice, Sem.run_bind, run_underlying (aj ht).1, Result.andThen_ok, sizeOf, typeInfo, hmap, zeroValue]
    simp [q2, q3, hi, h0, this, e1, newRow]
end
def Wf (r : Option Nat) : Fence := { fn := fun _ => True, depth := none, alive := false, round := r }
def iC (w : World) (F : Nat → Prop) (μ : Mu) (O : Operand → AV) (l : List Operand) (ρ : Operand → Value) : Prop := ∀ x ∈ l, ae w F μ (O x) (ρ x)
def Nx (r : Next) (x : Value) : Prop := r = .value x ∨ (r = .skip ∧ x = undef)
def dO (id : Nat) (hp : Hp) (μ μ' : Mu) : Prop := ∀ b, μ' b ≠ none → μ b ≠ none ∨ b = id ∨ hp.nx ≤ b
theorem cI.news {id : Nat} {hp : Hp} {μ μ' : Mu} (h : cI id μ μ') : dO id hp μ μ' := fun b hb => (h b hb).imp (fun h => h) .inl
theorem dO.refl (id : Nat) (hp : Hp) (μ : Mu) : dO id hp μ μ := fun _ h => .inl h
def fL (V : Env) (μ : Mu) (F : Nat → Prop) (h : Hp) (w : World) (s : Sem Next) (v : AV) (id : Nat) (h' : Hp) : Prop :=
  ∃ r x w' μ' F', s.run V.P w = .ok r w' ∧ Nx r x ∧ ae w' F' μ' v x ∧ cI id μ μ' ∧ au V μ' F' h' w' ∧ Ext μ F h w μ' F' h' w'
inductive ep (V : Env) (O : Operand → AV) (o : Oper) (id : Nat) (hp : Hp) (v : AV) (hp' : Hp) : Nat → Prop
  | pure (h : hp' = hp) (H : ∀ {w : World} {F : Nat → Prop} {μ : Mu} {ρ : Operand → Value}, iC w F μ O o.op.operands.toList ρ → ∃ r x, (execOp ρ o).run V.P w = .ok r w ∧ Nx r x ∧ ae w F μ v x) : ep V O o id hp v hp' 0
  | read (p : Operand) (h : hp' = hp) (hsp : spot o.op = some p) (hm : p ∈ o.op.operands.toList) (hl : bB hp (O p)) (H : ∀ {w : World} {F : Nat → Prop} {μ : Mu} {ρ : Operand → Value}, iC w F μ O o.op.operands.toList ρ → du V w F μ hp (O p) → ∃ r x, (execOp ρ o).run V.P w = .ok r w ∧ Nx r x ∧ ae w F μ v x) : ep V O o id hp v hp' 1
  | make (B : aX) (hs : br hp id B hp') (hn : id < hp'.nx) (H : ∀ {w : World} {F : Nat → Prop} {μ : Mu} {ρ : Operand → Value} {h h' : Hp}, iC w F μ O o.op.operands.toList ρ → μ id = none → au V μ F h w → br h id B h' → id < h'.nx → fL V μ F h w (execOp ρ o) v id h') : ep V O o id hp v hp' 2
  | other (H : ∀ {w : World} {F : Nat → Prop} {μ : Mu} {a : Act} {r : Option Nat} {n : Nat} {Q : Exit → Act → World → Prop} {K : Act → World → Prop}, iC w F μ O o.op.operands.toList a.eval → μ id = none → au V μ F hp w →
      (∀ x w' μ' F', ae w' F' μ' v x → dO id hp μ μ' → au V μ' F' hp' w' → Ext μ F hp w μ' F' hp' w' → K (a.put o.dst x) w') → o.wpIn (Wf r) n V.P a w K Q) : ep V O o id hp v hp' 3
theorem dq {V : Env} {o : Oper} {a : Act} {w w' : World} {r : Option Nat} {n : Nat} {Q : Exit → Act → World → Prop} {K : Act → World → Prop} {nx : Next} {x : Value} (hd : ∀ c, o.op ≠ .defer c) (h : (execOp a.eval o).run V.P w = .ok nx w') (hx : Nx nx x) (hk : K (a.put o.dst x) w') : o.wpIn (Wf r) n V.P a w K Q := by
  refine ⟨fun _ _ => trivial, ?_⟩
  rw [Oper.semAt_eq _ _ _ hd, h]
  rcases hx with rfl | ⟨rfl, rfl⟩
  · exact hk
  · exact hk
theorem ep.wp {V : Env} {O : Operand → AV} {o : Oper} {id : Nat} {hp : Hp} {v : AV} {hp' : Hp} {kd : Nat} (k : ep V O o id hp v hp' kd) (hd : ∀ c, o.op ≠ .defer c) {w : World} {F : Nat → Prop} {μ : Mu} {a : Act} {r : Option Nat} {n : Nat} {Q : Exit → Act → World → Prop} {K : Act → World → Prop}
    (hO : iC w F μ O o.op.operands.toList a.eval) (hid : μ id = none) (H : au V μ F hp w) (hK : ∀ x w' μ' F', ae w' F' μ' v x → dO id hp μ μ' → au V μ' F' hp' w' → Ext μ F hp w μ' F' hp' w' → K (a.put o.dst x) w') : o.wpIn (Wf r) n V.P a w K Q := by
  cases k with
  | pure h G =>
    subst h
    obtain ⟨nx, x, h1, h2, h3⟩ := G hO
    exact dq hd h1 h2 (hK x w μ F h3 (dO.refl _ _ _) H (Ext.refl _ _ _ _))
  | read p h hsp hm hl G =>
    subst h
    obtain ⟨nx, x, h1, h2, h3⟩ := G hO (H.read _)
    exact dq hd h1 h2 (hK x w μ F h3 (dO.refl _ _ _) H (Ext.refl _ _ _ _))
  | make B hs hn G =>
    obtain ⟨nx, x, w', μ', F', h1, h2, h3, h4, h5, h6⟩ := G hO hid H hs hn
    exact dq hd h1 h2 (hK x w' μ' F' h3 h4.news h5 h6)
  | other G => exact G hO hid H hK
section
variable {V : Env} {O : Operand → AV} {o : Oper} {id : Nat} {hp hp' : Hp} {v : AV}
theorem b7 {P : Program} {s : Sem Value} {w w' : World} {x : Value} (h : s.run P w = .ok x w') : ((do pure (.value (← s)) : Sem Next)).run P w = .ok (.value x) w' := by
  rw [Sem.run_bind, h]; rfl
theorem a2U {P : Program} {s : Sem Unit} {w w' : World} (h : s.run P w = .ok () w') : ((do s; pure .skip : Sem Next)).run P w = .ok .skip w' := by
  rw [Sem.run_bind, h]; rfl
theorem ep.pure1 {x : Operand} {s : Value → Sem Value} (hx : x ∈ o.op.operands.toList) (he : ∀ ρ, execOp ρ o = (do Pure.pure (.value (← s (ρ x))))) (h : iu V.P s (O x) v) : ep V O o id hp v hp 0 := .pure rfl fun hO => by
  obtain ⟨r, h1, h2⟩ := h (hO x hx)
  exact ⟨_, r, by rw [he]; exact b7 h1, .inl rfl, h2⟩
theorem ep.pure2 {x y : Operand} {s : Value → Value → Sem Value} (hx : x ∈ o.op.operands.toList) (hy : y ∈ o.op.operands.toList) (he : ∀ ρ, execOp ρ o = (do Pure.pure (.value (← s (ρ x) (ρ y))))) (h : bY V.P s (O x) (O y) v) : ep V O o id hp v hp 0 := .pure rfl fun hO => by
  obtain ⟨r, h1, h2⟩ := h (hO x hx) (hO y hy)
  exact ⟨_, r, by rw [he]; exact b7 h1, .inl rfl, h2⟩
theorem ep.a7Q {x : Operand} {s : Value → Sem Value} (hsp : spot o.op = some x) (hx : x ∈ o.op.operands.toList) (he : ∀ ρ, execOp ρ o = (do Pure.pure (.value (← s (ρ x))))) (hl : bB hp (O x)) (h : zP V s hp (O x) v) : ep V O o id hp v hp 1 := .read x rfl hsp hx hl fun hO hr => by
  obtain ⟨r, h1, h2⟩ := h (hO x hx) hr
  exact ⟨_, r, by rw [he]; exact b7 h1, .inl rfl, h2⟩
theorem ep.read2 {x y : Operand} {s : Value → Value → Sem Value} (hsp : spot o.op = some x) (hx : x ∈ o.op.operands.toList) (hy : y ∈ o.op.operands.toList) (he : ∀ ρ, execOp ρ o = (do Pure.pure (.value (← s (ρ x) (ρ y))))) (hl : bB hp (O x)) (h : a5t V s hp (O x) (O y) v) : ep V O o id hp v hp 1 := .read x rfl hsp hx hl fun hO hr => by
  obtain ⟨r, h1, h2⟩ := h (hO x hx) (hO y hy) hr
  exact ⟨_, r, by rw [he]; exact b7 h1, .inl rfl, h2⟩
theorem ep.new {α : Type} {Q : World → (Nat → Prop) → Mu → α → Prop} {s : α → Sem Value} {B : aX} (A : (Operand → Value) → α) (he : ∀ ρ, execOp ρ o = (do Pure.pure (.value (← s (A ρ))))) (hQ : ∀ {w : World} {F : Nat → Prop} {μ : Mu} {ρ : Operand → Value}, iC w F μ O o.op.operands.toList ρ → Q w F μ (A ρ)) (hs : br hp id B hp') (hn : id < hp'.nx) (h : New V Q s id B v) : ep V O o id hp v hp' 2 :=
  .make B hs hn fun hO hid hH hs' hn' => by
    obtain ⟨μ', F', w', x, h1, ⟨h2, h3⟩, h4, h5⟩ := h.out (hQ hO) hid hH hs' hn'
    exact ⟨_, x, w', μ', F', by rw [he]; exact b7 h1, .inl rfl, h2, h3, h4, h5⟩
theorem ep.ux (hd : ∀ c, o.op ≠ .defer c) (h : ∀ {w : World} {F : Nat → Prop} {μ : Mu} {ρ : Operand → Value}, iC w F μ O o.op.operands.toList ρ → μ id = none → au V μ F hp w → fL V μ F hp w (execOp ρ o) v id hp') : ep V O o id hp v hp' 3 := .other fun hO hid hH hK => by
  obtain ⟨nx, x, w', μ', F', h1, h2, h3, h4, h5, h6⟩ := h hO hid hH
  exact dq hd h1 h2 (hK x w' μ' F' h3 h4.news h5 h6)
theorem fL.of {μ : Mu} {F : Nat → Prop} {w : World} {ρ : Operand → Value} {s : Sem Value} {Q : World → (Nat → Prop) → Mu → Value → Prop} (he : execOp ρ o = (do Pure.pure (.value (← s)))) (h : cb V μ F hp w s hp' Q) (hQ : ∀ w' F' μ' r, Q w' F' μ' r → ae w' F' μ' v r ∧ cI id μ μ') : fL V μ F hp w (execOp ρ o) v id hp' := by
  obtain ⟨μ', F', w', x, h1, h2, h3, h4⟩ := h
  exact ⟨_, x, w', μ', F', by rw [he]; exact b7 h1, .inl rfl, (hQ _ _ _ _ h2).1, (hQ _ _ _ _ h2).2, h3, h4⟩
theorem im {w : World} {F : Nat → Prop} {μ : Mu} : ae w F μ bp undef := .bM (fun _ => undef) rfl (fun _ hi => absurd hi (Nat.not_lt_zero _)) fun _ hi => absurd hi (Nat.not_lt_zero _)
theorem fL.ofU {μ : Mu} {F : Nat → Prop} {w : World} {ρ : Operand → Value} {s : Sem Unit} (he : execOp ρ o = (do s; Pure.pure .skip)) (h : cb V μ F hp w s hp' fun _ _ μ' _ => μ' = μ) : fL V μ F hp w (execOp ρ o) bp id hp' := by
  obtain ⟨μ', F', w', x, h1, rfl, h3, h4⟩ := h
  exact ⟨_, undef, w', _, F', by rw [he]; exact a2U h1, .inr ⟨rfl, rfl⟩, im, cI.refl _ _, h3, h4⟩
end
end Go.Proofs.YtdlohaedegmiaaaGreatDoor.Ev
