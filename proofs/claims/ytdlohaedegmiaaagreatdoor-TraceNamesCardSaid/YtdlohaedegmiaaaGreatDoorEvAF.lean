import Derived.Test.YtdlohaedegmiaaaGreatDoorEvAE
import Derived.Laws.IdiomStrings
import Derived.Lib.AppendZeros
namespace Go.Proofs.YtdlohaedegmiaaaGreatDoor.Ev
section
variable {V : Env} {M : Mem} (ok : aT M) {R : ab} (hR : R ≠ .fail)
theorem cS {w : World} {F : Nat → Prop} {μ : Mu} {i m : Nat} {u : Value} (hn : 4 ≤ i ∨ m < hf i) (h : ae w F μ (.int i m) u) : u = .int (kd i) (m : Int) := by
  obtain ⟨hm, rfl⟩ := aY h
  rw [cX i m hm hn]
include hR in
theorem da {v : AV} {n : Nat} {k : Nat → ab} (g : fo v n k = R) : ∃ i m, v = .int i m ∧ m ≤ n ∧ (4 ≤ i ∨ m < hf i) ∧ k m = R := by
  obtain ⟨i, m, rfl, g⟩ := aR hR g
  obtain ⟨hm, g⟩ := ah hR g
  obtain ⟨hn, g⟩ := iS hR g
  rw [aK] at hm
  exact ⟨i, m, rfl, hm, hn, g⟩
include hR in
theorem eV {v : AV} {n : Nat} {k : Nat → ab} (g : p8 v n k = R) : ∃ i m, v = .int i m ∧ m < n ∧ (4 ≤ i ∨ m < hf i) ∧ k m = R := by
  obtain ⟨i, m, rfl, g⟩ := aR hR g
  obtain ⟨hm, g⟩ := ah hR g
  obtain ⟨hn, g⟩ := iS hR g
  rw [aK] at hm
  exact ⟨i, m, rfl, hm, hn, g⟩
theorem wrap_i64 (n : Nat) (h : n < 9223372036854775808) : IntKind.i64.wrap (n : Int) = n := by
  have := cX 3 n (by show n < 18446744073709551616; omega) (.inr h)
  exact this
theorem run_makeSlice {P : Program} {t e : TypeId} {i : TypeInfo} {zv : Value} (ht : bj P t = some (.slice e)) (hi : P.info? e = some i) (hz : i.zero = some zv) (hb : i.bytes ≤ 65536) (h1 : 1 ≤ i.size) {n m : Nat} (hnm : n ≤ m) (hm : m ≤ 1073741824) (k1 k2 : IntKind) (w : World) :
    (Instr.makeSlice t (.int k1 (n : Int)) (.int k2 (m : Int))).run P w = .ok (.slice (some ⟨w.heap.size, 0, none⟩) n m) (w.alloc (.cells ((Array.range (m * i.size)).map (zv.cells[· % zv.cells.size]!)) e)) := by
  have hw1 : IntKind.i64.wrap (n : Int) = n := wrap_i64 n (by omega)
  have hw2 : IntKind.i64.wrap (m : Int) = m := wrap_i64 m (by omega)
  have hmul : i.bytes * m ≤ 65536 * 1073741824 := Nat.mul_le_mul hb hm
  have c1 : ¬ ((i.bytes : Int) * (m : Int) > 281474976710656) := by
    have : ((i.bytes * m : Nat) : Int) = (i.bytes : Int) * (m : Int) := by push_cast; rfl
    omega
  have c2 : ¬ (281474976710656 < (i.bytes : Int) * (m : Int)) := c1
  have c3 : ¬ ((m : Int) < (n : Int)) := by omega
  have c4 : ¬ (m * i.bytes > roomBytes) := by
    have : roomBytes = 140737488355328 := by decide
    rw [this, Nat.mul_comm]; omega
  have hn0 : ¬ ((n : Int) < 0) := by omega
  have hm0 : ¬ ((m : Int) < 0) := by omega
  by_cases h0 : m = 0
  · subst h0
    have : n = 0 := by omega
    subst this
    have hw0 : IntKind.i64.wrap 0 = 0 := by decide
    simp [Instr.makeSlice, run_underlying (aj ht).1, asInt, asIntOf, typeInfo, hi, sizeOf, askRoom, newRow, hw0]
    have e0 : ∀ f : Nat → Value, Array.map f (Array.range 0) = #[] := fun f => by apply Array.ext <;> simp
    rw [e0, e0]
  · have h0' : ¬ (m = 0 ∨ i.size = 0) := by omega
    simp [Instr.makeSlice, run_underlying (aj ht).1, asInt, asIntOf, typeInfo, hi, hz, sizeOf, zeroValue, askRoom, newRow, hw1, hw2, c2, c3, hn0, hm0]
    intro h
    exact absurd h (Nat.ne_of_gt (Nat.mul_pos (by omega) (by omega)))
theorem gp {z n : Nat} (hz : 0 < z) {v : AV} {i : Nat} (hi : i < n * z) : cellAt z (Tr.full v (depth n)) i = if z = 1 then v else elc v (i % z) := by
  have hd : i / z < n := (Nat.div_lt_iff_lt_mul hz).2 hi
  have hdep := qP n
  by_cases h1 : z = 1
  · subst h1; rw [cellAt, if_pos rfl, if_pos rfl, wA v _ _ (by rw [Nat.div_one] at hd; omega)]
  · rw [cellAt, if_neg h1, if_neg h1, wA v _ _ (by generalize i / z = d at hd; omega)]
include hR in
theorem zi {N : NK} {hp : Hp} {id : Nat} (hN : bO N hp id) {t e : TypeId} (ht : bj V.P t = some (.slice e)) {z : Nat} (hsz : aC V.P e = z) (h1 : 1 ≤ z) (hz : bq V.P e z = true) (hb : bytesOf V.P e ≤ 65536) {a b : AV} {k : AV → Hp → ab}
    (g : (fo b 1073741824 fun m => fo a m fun n => aA (Nat.mul n z) fun s => N.f hp (.row true true z s (Tr.full (bE V.P e) (depth n))) fun id hp => k (.ms id 0 n z) hp) = R) :
    ∃ B v hp', k v hp' = R ∧ br hp id B hp' ∧ id < hp'.nx ∧ New V (fun w F μ (u : Value × Value) => ae w F μ a u.1 ∧ ae w F μ b u.2) (fun u => Instr.makeSlice t u.1 u.2) id B v := by
  obtain ⟨j, m, rfl, hm, hmn, g⟩ := da hR g
  obtain ⟨j', n, rfl, hn, hnn, g⟩ := da hR g
  rw [aw] at g
  obtain ⟨h', g, hs, hid⟩ := hN hR rfl rfl g
  obtain ⟨i, zv, q1, q2, q3, q4, q5⟩ := bQ hz
  have hi : i.size = z := by rw [← hsz, ba q1]
  have hbi : i.bytes ≤ 65536 := by unfold bytesOf at hb; rw [q1] at hb; exact hb
  have hc : ∀ i, i < n * z → cellAt z (Tr.full (bE V.P e) (depth n)) i = zc V.P e z (i % z) := fun i hi => by rw [gp (by omega) hi]; rfl
  refine ⟨_, _, h', g, hs, hid, js (fun _ i hi => ?_) fun {w F μ u} ⟨ha, hb⟩ => ?_⟩
  · rw [hc i hi]
    obtain ⟨y, _, _, _, hf⟩ := q5 (i % z) (Nat.mod_lt _ (by omega))
    exact hf
  · have e1 := cS hnn ha
    have e2 := cS hmn hb
    refine ⟨_, w.alloc (.cells ((Array.range (m * i.size)).map (zv.cells[· % zv.cells.size]!)) e), _, e, (0, 0), by rw [e1, e2]; exact run_makeSlice ht q2 q3 hbi (by omega) hn hm _ _ w, ⟨rfl, rfl, rfl⟩, .inl rfl, fun j hj => ?_, fun {μ'} hμ => ?_⟩
    · obtain ⟨y, h1, h2, h3, _⟩ := q5 (j % z) (Nat.mod_lt _ (by omega))
      have hjm : j < m * z := Nat.lt_of_lt_of_le hj (Nat.mul_le_mul_right z hn)
      refine ⟨y, ?_, h2, by rw [hc j hj]; exact h3 _ _ _⟩
      rw [Array.getElem?_map, hi, Array.getElem?_range, if_pos hjm, q4]
      show some (zv.cells[j % z]!) = some y
      rw [getElem!_def, h1]
    · exact ae.ms hμ hn (by simp [hi])
include hR in
theorem qz {N : NK} {hp : Hp} {id : Nat} (hN : bO N hp id) {t u e : TypeId} {ty : TypeId} {kn : IntKind} (ht : bj V.P t = some (.slice e)) (hu : bj V.P u = some (.int kn)) {z : Nat} (hsz : aC V.P e = z) (h1 : 1 ≤ z) (hz : bq V.P e z = true) (hb : bytesOf V.P e ≤ 65536) {a b : AV} {k : AV → Hp → ab}
    (g : (a.tO fun q _ _ _ _ => aq (Nat.beq q 8) (fo b 1073741824 fun n => aq (Nat.ble 1 n) (aA (Nat.mul n z) fun s => N.f hp (.row true true z s (Tr.full (bE V.P e) (depth n))) fun id hp => k (.ms id 0 n z) hp))) = R) :
    ∃ B v hp', k v hp' = R ∧ br hp id B hp' ∧ id < hp'.nx ∧ New V (fun w F μ (u : Value × Value) => ae w F μ a u.1 ∧ ae w F μ b u.2) (fun x => Builtin.append_ #[t, u] ty #[x.1, x.2]) id B v := by
  obtain ⟨q, u1, u2, u3, u4, rfl, g⟩ := fE hR g
  obtain ⟨hq, g⟩ := ah hR g
  rw [an] at hq
  subst hq
  obtain ⟨j, n, rfl, hn, hnn, g⟩ := da hR g
  obtain ⟨hn1, g⟩ := ah hR g
  rw [aK] at hn1
  rw [aw] at g
  obtain ⟨h', g, hs, hid⟩ := hN hR rfl rfl g
  obtain ⟨i, zv, q1, q2, q3, q4, q5⟩ := bQ hz
  have hi : i.size = z := by rw [← hsz, ba q1]
  have hbi : i.bytes ≤ 65536 := by unfold bytesOf at hb; rw [q1] at hb; exact hb
  have hc : ∀ i, i < n * z → cellAt z (Tr.full (bE V.P e) (depth n)) i = zc V.P e z (i % z) := fun i hi => by rw [gp (by omega) hi]; rfl
  refine ⟨_, _, h', g, hs, hid, js (fun _ i hi => ?_) fun {w F μ u} ⟨ha, hb⟩ => ?_⟩
  · rw [hc i hi]
    obtain ⟨y, _, _, _, hf⟩ := q5 (i % z) (Nat.mod_lt _ (by omega))
    exact hf
  · obtain ⟨v1, v2⟩ := u
    have e1 : v1 = .slice none 0 0 := by
      have ha' : ae w F μ (.x 8 u1 u2 u3 u4) v1 := ha
      cases ha'; rfl
    have e2 := cS hnn hb
    have hby : n * i.bytes ≤ 281474976710656 := Nat.le_trans (Nat.mul_le_mul hn hbi) (by decide)
    have hcells : ∀ j, j < n * z → ∃ y, (Builtin.zeroCells zv.cells n)[j]? = some y ∧ zv.cells[j % z]? = some y := fun j hj => by
      obtain ⟨y, h1, _⟩ := q5 (j % z) (Nat.mod_lt _ (by omega))
      refine ⟨y, ?_, h1⟩
      simp only [Builtin.zeroCells, Array.getElem?_map, Array.getElem?_range, q4, if_pos hj, Option.map_some]
      rw [getElem!_def, h1]
    have e2' : v2 = .int (kd j) (n : Int) := e2
    subst e1; subst e2'
    refine ⟨_, w.drew.alloc (.cells (Builtin.zeroCells zv.cells n ++ Builtin.zeroCells zv.cells (grownCap w n 0 e - n)) e), _, e, (0, 0), Lib.run_append_nil_zeros w t _ ty e i zv _ _ (aj ht).1 (aj hu).1 q2 q3 n hn1 (by omega) (by omega) hby, ⟨rfl, rfl, rfl⟩, .inl rfl, fun j hj => ?_, fun {μ'} hμ => ?_⟩
    · obtain ⟨y0, h1, h2, h3, _⟩ := q5 (j % z) (Nat.mod_lt _ (by omega))
      obtain ⟨y, r1, r2⟩ := hcells j hj
      rw [r2] at h1; cases h1
      exact ⟨_, by rw [Array.getElem?_append_left (Array.getElem?_eq_some_iff.1 r1).1]; exact r1, h2, by rw [hc j hj]; exact h3 _ _ _⟩
    · have hcap : n ≤ grownCap w n 0 e := grownCap_ge w n 0 e
      refine ae.ms hμ hcap ?_
      show 0 + 0 + grownCap w n 0 e * z ≤ (Builtin.zeroCells zv.cells n ++ Builtin.zeroCells zv.cells (grownCap w n 0 e - n)).size
      rw [Array.size_append, cE, cE, q4, ← Nat.add_mul]
      have : n + (grownCap w n 0 e - n) = grownCap w n 0 e := by omega
      rw [this]; omega
end
def od : List Nat → Nat
  | [] => 0
  | x :: r => x + 256 * od r
theorem wX : ∀ l : List UInt8, aI l = od (l.map (·.toNat))
  | [] => rfl
  | b :: l => by rw [bH, wX l]; rfl
section
variable {V : Env} {M : Mem} (ok : aT M) {R : ab} (hR : R ≠ .fail)
theorem gB {P : Program} {e : TypeId} (h : rH P e = true) : P.underlying e = some (.int .u8) := by
  unfold rH at h
  cases hu : bj P e with
  | none => rw [hu] at h; exact Bool.noConfusion h
  | some d =>
    rw [hu] at h
    cases d with
    | int q => cases q <;> first | exact (aj hu).1 | exact Bool.noConfusion h
    | _ => exact Bool.noConfusion h
include ok hR
theorem a27 (n : Nat) : ∀ {t : Row} {o : Nat} {k : Nat → ab}, (pack M n).f t o k = R → ∃ xs : List Nat, xs.length = n ∧ (∀ j (h : j < xs.length), t.at (o + j) = .int 4 xs[j]) ∧ k (od xs) = R := by
  induction n with
  | zero => intro t o k g; exact ⟨[], rfl, fun j h => absurd h (Nat.not_lt_zero _), g⟩
  | succ n ih =>
    intro t o k g
    have g1 := ok.rg hR (k := fun v => v.bo fun i x => aq (Nat.beq i 4) ((pack M n).f t (Nat.succ o) fun r => aA (Nat.add x (Nat.mul 256 r)) k)) g
    obtain ⟨i, x, hx, g1⟩ := aR hR g1
    obtain ⟨hi, g1⟩ := ah hR g1
    rw [an] at hi
    obtain ⟨xs, h1, h2, h3⟩ := ih g1
    rw [aw] at h3
    refine ⟨x :: xs, by rw [List.length_cons, h1], fun j hj => ?_, h3⟩
    cases j with
    | zero => have hx : t.at o = .int i x := hx; show t.at o = .int 4 x; rw [hx, hi]
    | succ j =>
      have hj' : j < xs.length := by rw [List.length_cons] at hj; omega
      have := h2 j hj'
      show t.at (o + (j + 1)) = .int 4 (xs[j]'hj')
      rw [← this]; congr 1; omega
omit ok hR in
theorem aef (d : Nat) : ∀ {t : Row}, zT d t = true → ∀ j, j + 1 < 2 ^ d → t.at j = .int 4 0 := by
  induction d with
  | zero => intro t _ j hj; exact absurd hj (by rw [Nat.pow_zero]; omega)
  | succ d ih =>
    intro t h j hj
    have hp : 2 ^ (d + 1) = 2 * 2 ^ d := by rw [Nat.pow_succ, Nat.mul_comm]
    cases t with
    | lf => exact Bool.noConfusion h
    | nd v l r =>
      have h' : aW (isZb v) (aW (zT d l) (zT d r)) = true := h
      rw [aG, aG] at h'
      obtain ⟨h1, h2, h3⟩ := h'
      cases j with
      | zero =>
        show v = _
        cases v with
        | int k n =>
          have h1' : aW (Nat.beq k 4) (Nat.beq n 0) = true := h1
          rw [aG, an, an] at h1'
          rw [h1'.1, h1'.2]
        | _ => exact Bool.noConfusion h1
      | succ j =>
        show (if j % 2 = 0 then l.get .uu (j / 2) else r.get .uu (j / 2)) = _
        split
        · exact ih h2 (j / 2) (by omega)
        · exact ih h3 (j / 2) (by omega)
omit ok hR in
theorem mE : ∀ n, od (List.replicate n 0) = 0
  | 0 => rfl
  | n + 1 => by rw [List.replicate_succ, od, mE n]
theorem zn (n : Nat) {t : Row} {o : Nat} {k : Nat → ab} (g : (sc M n).f t o k = R) : ∃ xs : List Nat, xs.length = n ∧ (∀ j (h : j < xs.length), t.at (o + j) = .int 4 xs[j]) ∧ k (od xs) = R := by
  have g' : Bool.rec (motive := fun _ => ab) ((pack M n).f t o k) (k 0) (aW (Nat.ble 1000 n) (aW (Nat.beq o 0) (zT (depth n) t))) = R := g
  cases hc : aW (Nat.ble 1000 n) (aW (Nat.beq o 0) (zT (depth n) t)) with
  | false => rw [hc] at g'; exact a27 ok hR n g'
  | true =>
    rw [hc] at g'
    rw [aG, aG, an] at hc
    obtain ⟨_, h2, h3⟩ := hc
    refine ⟨List.replicate n 0, List.length_replicate, fun j hj => ?_, by rw [mE]; exact g'⟩
    rw [List.length_replicate] at hj
    rw [List.getElem_replicate, h2, Nat.zero_add]
    exact aef _ h3 j (by have := qP n; omega)
theorem oL {src dst e : TypeId} (hs : bj V.P src = some (.slice e)) (he : rH V.P e = true) (hd : bj V.P dst = some .string) {a : AV} (hsl : (∃ b o n z, a = .ms b o n z) ∨ ∃ t o n z, a = .vs t o n z) {hp : Hp} {k : AV → ab}
    (g : (vz M 1 a hp fun t o n _ => (sc M n).f t o fun s => k (.str s n)) = R) : ∃ v, k v = R ∧ bB hp a ∧ zP V (convert src dst) hp a v := by
  have live : bB hp a := fun c hc => by
    rcases hsl with ⟨b, o, n, z, rfl⟩ | ⟨t, o, n, z, rfl⟩
    · have hc : b = c := by cases n with | zero => cases hc | succ n => cases hc; rfl
      subst hc
      obtain ⟨_, g⟩ := ah hR (show aq (Nat.beq z 1) _ = R from g)
      obtain ⟨_, _, _, _, _, hB, _⟩ := eU ok hR g
      rw [hB]; trivial
    · cases hc
  obtain ⟨u, p, m, f, g, hseq⟩ := mP (V := V) ok hR Nat.one_pos g
  obtain ⟨xs, hx1, hx2, g⟩ := zn ok hR _ g
  refine ⟨_, g, live, fun {w F μ x} ha hr => ?_⟩
  obtain ⟨news, hsq, hnew, _⟩ := hseq ha hr
  have hshape : ∃ ad n c, x = .slice (some ad) n c := by
    rcases hsl with ⟨b, o, n, z, rfl⟩ | ⟨t, o, n, z, rfl⟩ <;> cases ha <;> exact ⟨_, _, _, rfl⟩
  obtain ⟨ad, n, c, rfl⟩ := hshape
  have hn : n = m := by
    have := hsq.len w
    simp only [Builtin.lenOf, Sem.run_pure] at this
    injection this
  subst hn
  have hx : ∀ j (h : j < xs.length), xs[j] < 256 ∧ news[j]? = some (.int .u8 (xs[j] : Int)) := fun j h => by
    obtain ⟨y, hy, hc⟩ := hnew j (by omega)
    have e1 : cellAt 1 u (p * 1 + j) = .int 4 xs[j] := by rw [cellAt, if_pos rfl, Nat.mul_one]; exact hx2 j h
    rw [e1] at hc
    obtain ⟨hlt, rfl⟩ := aY hc
    exact ⟨hlt, by rw [hy, cX 4 _ hlt (.inl (Nat.le_refl _))]; rfl⟩
  have hnl : news = (xs.map fun x : Nat => (x : Int)).map (Value.int .u8) := by
    apply List.ext_getElem?
    intro j
    by_cases hj : j < xs.length
    · rw [(hx j hj).2]; simp [hj]
    · rw [List.getElem?_eq_none (by rw [hsq.size]; omega), List.getElem?_eq_none (by simp; omega)]
  have hto : xs.map (fun x : Nat => (x : Int)) = (xs.map UInt8.ofNat).map (fun b => (b.toNat : Int)) := by
    rw [List.map_map]
    apply List.map_congr_left
    intro x hxm
    obtain ⟨j, hj, rfl⟩ := List.mem_iff_getElem.1 hxm
    have := (hx j hj).1
    show ((xs[j] : Nat) : Int) = ((UInt8.ofNat xs[j]).toNat : Int)
    rw [UInt8.toNat_ofNat']; omega
  have hload : (loadCells ad n).run V.P w = .ok ((xs.map fun x : Nat => (x : Int)).map (Value.int .u8)).toArray w := by
    have := hsq.cells w rfl n (Nat.le_refl _)
    rw [List.take_of_length_le (by rw [hsq.size]; exact Nat.le_refl _), hnl] at this
    simpa only [Builtin.firstCells, Nat.mul_one] using this
  refine ⟨_, by rw [run_convert_bytes_string w src dst e (some ad) n c (aj hs).1 (gB he) (aj hd).1, run_bytesToString w ad n c _ hload], ?_⟩
  rw [hto, foldl_push_byteCells]
  have he0 : ByteArray.empty.data = #[] := rfl
  rw [he0]
  refine jA ?_ ?_
  · rw [wX]
    simp only [Array.empty_append, List.map_map]
    congr 1
    symm
    apply List.ext_getElem
    · simp
    · intro j h1 h2
      have hj : j < xs.length := h2
      have := (hx j hj).1
      simp [UInt8.toNat_ofNat']; omega
  · show n = (#[] ++ (xs.map UInt8.ofNat).toArray).size
    simp [hx1]
theorem pK {N : NK} {hp : Hp} {id : Nat} (hN : bO N hp id) {src dst e : TypeId} (hs : bj V.P src = some .string) (he : rH V.P e = true) (hd : bj V.P dst = some (.slice e)) {a : AV} {k : AV → Hp → ab}
    (g : (a.bW fun s n => (unpack M n).f s 0 .lf fun r => N.f hp (.row true true 1 n r) fun id hp => k (.ms id 0 n 1) hp) = R) :
    ∃ B v hp', k v hp' = R ∧ br hp id B hp' ∧ id < hp'.nx ∧ New V (fun w F μ u => ae w F μ a u) (convert src dst) id B v := by
  obtain ⟨s, n, rfl, g⟩ := aM hR g
  obtain ⟨r, hr, g⟩ := mW ok hR n g
  obtain ⟨h', g, hset, hid⟩ := hN hR rfl rfl g
  have hat : ∀ i, i < n → cellAt 1 r i = .int 4 (s / 256 ^ i % 256) := fun i hi => by rw [cellAt, if_pos rfl, hr, if_pos (by omega), Nat.sub_zero]
  refine ⟨_, _, h', g, hset, hid, js (fun _ i hi => by rw [hat i hi]; rfl) fun {w F μ u} ha => ?_⟩
  obtain ⟨B, rfl, h1, rfl⟩ := cy ha
  refine ⟨_, _, _, e, _, run_bytes_of_string w src dst e B (aj hs).1 (aj hd).1 (gB he), ⟨rfl, rfl, rfl⟩, .inr (Nat.le_refl _), fun i hi => ?_, fun {μ'} hμ => ?_⟩
  · have hi' : i < B.data.toList.length := by rw [Array.length_toList]; exact hi
    have hi2 : i < B.data.size := hi
    refine ⟨.int .u8 ((B.data.toList[i]).toNat : Int), ?_, rfl, ?_⟩
    · unfold bytesRow
      rw [Array.getElem?_append, if_pos (by rw [Array.size_map]; exact hi), Array.getElem?_map, Array.getElem?_eq_getElem hi2]
      simp
    · rw [hat i hi, h1, kl _ i hi']; exact mK _
  · refine ae.ms hμ (grownCap_ge w B.size 0 e) ?_
    show 0 + 0 + grownCap w B.size 0 e * 1 ≤ (bytesRow B (grownCap w B.size 0 e)).size
    have := grownCap_ge w B.size 0 e
    have h2 : B.data.size = B.size := rfl
    simp only [bytesRow, Array.size_append, Array.size_map, Array.size_replicate, h2]
    omega
end
def b8 (w : World) (F : Nat → Prop) (μ : Mu) : Option AV → Option Value → Prop
  | none, none => True
  | some a, some v => ae w F μ a v
  | _, _ => False
theorem run_sliceBound {P : Program} {w : World} {k : IntKind} {m y : Nat} (h : m ≤ y) (code : BoundsCode) : (Instr.sliceBound (.int k (m : Int)) y code).run P w = .ok m w := by
  have h1 : ((m : Int) ≤ (y : Int)) := by omega
  simp [Instr.sliceBound, asIntOf, h1]
noncomputable def lowK (lo : Option AV) (h : Nat) (c : Nat → Nat → Bool → ab) (e : Nat → Bool) : ab := match lo with | none => c 0 h (e 0) | some v => fo v h fun l => c l h (e l)
def Bnd (lo : Option AV) (l d : Nat) : Prop := (lo = none ∧ l = d) ∨ ∃ i, lo = some (.int i l) ∧ (4 ≤ i ∨ l < hf i)
theorem Bnd.val {lo : Option AV} {l d : Nat} (h : Bnd lo l d) {w : World} {F : Nat → Prop} {μ : Mu} {u : Option Value} (hu : b8 w F μ lo u) : (lo = none ∧ u = none ∧ l = d) ∨ (lo.isSome = true ∧ ∃ k, u = some (.int k (l : Int))) := by
  rcases h with ⟨rfl, rfl⟩ | ⟨i, rfl, hn⟩
  · cases u with
    | none => exact .inl ⟨rfl, rfl, rfl⟩
    | some v => exact hu.elim
  · cases u with
    | none => exact hu.elim
    | some v => exact .inr ⟨rfl, kd i, by rw [cS hn hu]⟩
section
variable {P : Program} {R : ab} (hR : R ≠ .fail)
include hR
theorem mq {lo : Option AV} {h : Nat} {c : Nat → Nat → Bool → ab} {e : Nat → Bool} (g : lowK lo h c e = R) : ∃ l, c l h (e l) = R ∧ l ≤ h ∧ Bnd lo l 0 := by
  cases lo with
  | none => exact ⟨0, g, Nat.zero_le _, .inl ⟨rfl, rfl⟩⟩
  | some v =>
    obtain ⟨i, m, rfl, hm, hn, g2⟩ := da hR (show fo v h (fun l => c l h (e l)) = R from g)
    exact ⟨m, g2, hm, .inr ⟨i, rfl, hn⟩⟩
theorem cL {lo hi mx : Option AV} {n : Nat} {c : Nat → Nat → Bool → ab} (g : bounds lo hi mx n c = R) : ∃ l h e m, c l h e = R ∧ l ≤ h ∧ h ≤ n ∧ (mx.isSome = true → h ≤ m ∧ m ≤ n ∧ e = Nat.beq m l) ∧ (mx = none → e = false) ∧
    Bnd lo l 0 ∧ Bnd hi h n ∧ Bnd mx m m ∧ (mx.isSome = true → hi.isSome = true) := by
  cases mx with
  | none =>
    cases hi with
    | none =>
      obtain ⟨l, g, hl, hb⟩ := mq hR (show lowK lo n c (fun _ => false) = R from g)
      exact ⟨l, n, _, 0, g, hl, Nat.le_refl _, (fun e => by cases e), fun _ => rfl, hb, .inl ⟨rfl, rfl⟩, .inl ⟨rfl, rfl⟩, fun e => by cases e⟩
    | some v =>
      obtain ⟨i, h, rfl, hh, hn, g2⟩ := da hR (show fo v n (fun h => lowK lo h c (fun _ => false)) = R from g)
      obtain ⟨l, g, hl, hb⟩ := mq hR g2
      exact ⟨l, h, _, 0, g, hl, hh, (fun e => by cases e), fun _ => rfl, hb, .inr ⟨i, rfl, hn⟩, .inl ⟨rfl, rfl⟩, fun e => by cases e⟩
  | some x =>
    cases hi with
    | none =>
      obtain ⟨i, m, rfl, hm, hmn, g2⟩ := da hR (show fo x n (fun m => .fail) = R from g)
      exact aa hR g2
    | some v =>
      obtain ⟨i, m, rfl, hm, hmn, g2⟩ := da hR (show fo x n (fun m => fo v m fun h => lowK lo h c (fun l => Nat.beq m l)) = R from g)
      obtain ⟨j, h, rfl, hh, hn, g3⟩ := da hR g2
      obtain ⟨l, g, hl, hb⟩ := mq hR g3
      exact ⟨l, h, _, m, g, hl, Nat.le_trans hh hm, (fun _ => ⟨hh, hm, rfl⟩), (fun e => by cases e), hb, .inr ⟨j, rfl, hn⟩, .inr ⟨i, rfl, hmn⟩, fun _ => rfl⟩
omit hR in
theorem cO {w : World} {F : Nat → Prop} {μ : Mu} {lo hi mx : Option AV} {ulo uhi umx : Option Value} {s : Bool} {l h m n cap : Nat} (h1 : b8 w F μ lo ulo) (h2 : b8 w F μ hi uhi) (h3 : b8 w F μ mx umx)
    (b1 : Bnd lo l 0) (b2 : Bnd hi h n) (b3 : Bnd mx m m) (hsome : mx.isSome = true → hi.isSome = true) (hl : l ≤ h) (hh : h ≤ n) (hm : mx.isSome = true → h ≤ m ∧ m ≤ n) (hc : n ≤ cap) :
    (Instr.sliceBounds s n cap ulo uhi umx).run P w = .ok (l, h, if mx.isSome = true then m else cap) w := by
  rcases b3.val h3 with ⟨rfl, rfl, _⟩ | ⟨e3, k3, rfl⟩
  · rcases b2.val h2 with ⟨rfl, rfl, rfl⟩ | ⟨e2, k2, rfl⟩
    · rcases b1.val h1 with ⟨rfl, rfl, rfl⟩ | ⟨e1, k1, rfl⟩
      · simp [Instr.sliceBounds]
      · simp [Instr.sliceBounds, run_sliceBound hl]
    · have hhc := Nat.le_trans hh hc
      rcases b1.val h1 with ⟨rfl, rfl, rfl⟩ | ⟨e1, k1, rfl⟩
      · simp [Instr.sliceBounds, run_sliceBound hhc]
      · simp [Instr.sliceBounds, run_sliceBound hhc, run_sliceBound hl]
  · obtain ⟨q1, q2⟩ := hm e3
    have hmc := Nat.le_trans q2 hc
    rcases b2.val h2 with ⟨rfl, _, _⟩ | ⟨e2, k2, rfl⟩
    · have := hsome e3; cases this
    · rcases b1.val h1 with ⟨rfl, rfl, rfl⟩ | ⟨e1, k1, rfl⟩
      · simp [Instr.sliceBounds, run_sliceBound hmc, run_sliceBound q1, e3]
      · simp [Instr.sliceBounds, run_sliceBound hmc, run_sliceBound q1, run_sliceBound hl, e3]
end
def vR (P : Program) (s : Value → Option Value → Option Value → Option Value → Sem Value) (x : AV) (lo hi mx : Option AV) (v : AV) : Prop :=
  ∀ {w : World} {F : Nat → Prop} {μ : Mu} {u : Value} {a b c : Option Value}, ae w F μ x u → b8 w F μ lo a → b8 w F μ hi b → b8 w F μ mx c → ∃ r, (s u a b c).run P w = .ok r w ∧ ae w F μ v r
section
variable {P : Program} {R : ab} (hR : R ≠ .fail)
omit hR in
theorem gM {t e : TypeId} {i : TypeInfo} (ht : bj P t = some (.slice e)) (hi : P.info? e = some i) {w : World} {ad : Option Addr} {n cap l h m : Nat} {a b c : Option Value} (hb : (Instr.sliceBounds true n cap a b c).run P w = .ok (l, h, m) w) :
    (Instr.sliceAt t (.slice ad n cap) a b c).run P w = .ok (.slice (if m = l then ad else ad.map (·.add (l * i.size))) (h - l) (m - l)) w := by
  simp [Instr.sliceAt, Instr.slice, run_underlying (aj ht).1, hb, sizeOf, typeInfo, hi]
include hR
theorem vB {t e : TypeId} (ht : bj P t = some (.slice e)) {z : Nat} (hsz : aC P e = z) (hz : 1 ≤ z) {x : AV} {lo hi mx : Option AV} {k : AV → ab} (g : fI z x lo hi mx k = R) : ∃ v, k v = R ∧ vR P (Instr.sliceAt t) x lo hi mx v := by
  obtain ⟨i, _, hi', hsi⟩ := cD (P := P) (t := e) (by omega)
  have hiz : i.size = z := by omega
  rcases bF hR g with ⟨b, o, n, y, rfl, g⟩ | ⟨tt, o, n, y, rfl, g⟩ | ⟨i', tt, a', b', c, rfl, g⟩ | ⟨s, n, rfl, g⟩
  · obtain ⟨hy, g2⟩ := ah hR g
    rw [an] at hy
    obtain ⟨l, h, e', m, g3, hl, hh, h1, h2, b1, b2, b3, b4⟩ := cL hR g2
    have hm : mx.isSome = true → h ≤ m ∧ m ≤ n := fun e => ⟨(h1 e).1, (h1 e).2.1⟩
    have hrun : ∀ {w : World} {F : Nat → Prop} {μ : Mu} {ad : Option Addr} {cap : Nat} {a bb c : Option Value}, b8 w F μ lo a → b8 w F μ hi bb → b8 w F μ mx c → n ≤ cap →
        (Instr.sliceAt t (.slice ad n cap) a bb c).run P w = .ok (.slice (if (if mx.isSome = true then m else cap) = l then ad else ad.map (·.add (l * i.size))) (h - l) ((if mx.isSome = true then m else cap) - l)) w := fun q1 q2 q3 hc => gM ht hi' (cO q1 q2 q3 b1 b2 b3 b4 hl hh hm hc)
    rcases ar hR g3 with ⟨he, g4⟩ | ⟨he, g4⟩
    · have hs : mx.isSome = true := by cases mx with
        | none => rw [h2 rfl] at he; cases he
        | some _ => rfl
      have hml : m = l := by rw [← an, ← (h1 hs).2.2]; exact he
      refine ⟨_, g4, fun {w F μ u a bb c} ha q1 q2 q3 => ?_⟩
      have fin : ∀ {ad : Addr} {cap : Nat}, n ≤ cap → ∃ r, (Instr.sliceAt t (.slice (some ad) n cap) a bb c).run P w = .ok r w ∧ ae w F μ (.x 6 .lf 0 0 0) r := fun {ad cap} hc => by
        refine ⟨_, hrun q1 q2 q3 hc, ?_⟩
        have := (h1 hs).1
        rw [if_pos hs, if_pos hml, show h - l = 0 by omega, show m - l = 0 by omega]
        exact .emp
      cases ha with
      | ms hm hc hs => exact fin hc
      | pN => exact fin (Nat.le_refl _)
    · rw [aw, aw] at g4
      refine ⟨_, g4, fun {w F μ u a bb c} ha q1 q2 q3 => ?_⟩
      have hcase : ∀ {cap : Nat}, n ≤ cap → h ≤ (if mx.isSome = true then m else cap) ∧ (if mx.isSome = true then m else cap) ≤ cap := fun {cap} hc => by
        by_cases hs : mx.isSome = true
        · rw [if_pos hs]; have := hm hs; omega
        · rw [if_neg hs]; omega
      cases ha with
      | ms hmu hc hcs =>
        rename_i cap mp
        obtain ⟨c1, c2⟩ := hcase hc
        refine ⟨_, hrun q1 q2 q3 hc, ?_⟩
        generalize (if mx.isSome = true then m else cap) = M at *
        by_cases e1 : M = l
        · rw [if_pos e1, show h - l = 0 by omega, show M - l = 0 by omega]
          show ae w F μ (.ms b (o + l * z) (h - l) z) _
          rw [show h - l = 0 by omega]; exact .pN
        · rw [if_neg e1]
          show ae w F μ (.ms b (o + l * z) (h - l) z) (.slice (some ((⟨mp.aF, mp.base + o, none⟩ : Addr).add (l * i.size))) (h - l) (M - l))
          rw [Addr.add_mid, Nat.add_assoc, hiz]
          refine .ms hmu (by omega) ?_
          have : (M - l) * z + l * z = M * z := by rw [← Nat.add_mul]; congr 1; omega
          have h3 : M * z ≤ cap * z := Nat.mul_le_mul_right z c2
          rw [hy] at hcs; omega
      | pN =>
        obtain ⟨c1, c2⟩ := hcase (Nat.le_refl 0)
        refine ⟨_, hrun q1 q2 q3 (Nat.le_refl 0), ?_⟩
        generalize (if mx.isSome = true then m else 0) = M at *
        show ae w F μ (.ms b (o + l * z) (h - l) z) _
        rw [if_pos (by omega), show h - l = 0 by omega, show M - l = 0 by omega]; exact .pN
  · obtain ⟨hy, g2⟩ := ah hR g
    rw [an] at hy
    obtain ⟨l, h, e', m, g3, hl, hh, h1, h2, b1, b2, b3, b4⟩ := cL hR g2
    have hm : mx.isSome = true → h ≤ m ∧ m ≤ n := fun e => ⟨(h1 e).1, (h1 e).2.1⟩
    have hrun : ∀ {w : World} {F : Nat → Prop} {μ : Mu} {ad : Option Addr} {cap : Nat} {a bb c : Option Value}, b8 w F μ lo a → b8 w F μ hi bb → b8 w F μ mx c → n ≤ cap →
        (Instr.sliceAt t (.slice ad n cap) a bb c).run P w = .ok (.slice (if (if mx.isSome = true then m else cap) = l then ad else ad.map (·.add (l * i.size))) (h - l) ((if mx.isSome = true then m else cap) - l)) w := fun q1 q2 q3 hc => gM ht hi' (cO q1 q2 q3 b1 b2 b3 b4 hl hh hm hc)
    rcases ar hR g3 with ⟨he, g4⟩ | ⟨he, g4⟩
    · have hs : mx.isSome = true := by cases mx with
        | none => rw [h2 rfl] at he; cases he
        | some _ => rfl
      have hml : m = l := by rw [← an, ← (h1 hs).2.2]; exact he
      refine ⟨_, g4, fun {w F μ u a bb c} ha q1 q2 q3 => ?_⟩
      have fin : ∀ {ad : Addr} {cap : Nat}, n ≤ cap → ∃ r, (Instr.sliceAt t (.slice (some ad) n cap) a bb c).run P w = .ok r w ∧ ae w F μ (.x 6 .lf 0 0 0) r := fun {ad cap} hc => by
        refine ⟨_, hrun q1 q2 q3 hc, ?_⟩
        have := (h1 hs).1
        rw [if_pos hs, if_pos hml, show h - l = 0 by omega, show m - l = 0 by omega]
        exact .emp
      cases ha with
      | vs us hF hc hu h1 h => exact fin hc
      | pP => exact fin (Nat.zero_le _)
    · rw [aw, aw] at g4
      refine ⟨_, g4, fun {w F μ u a bb c} ha q1 q2 q3 => ?_⟩
      have hcase : ∀ {cap : Nat}, n ≤ cap → h ≤ (if mx.isSome = true then m else cap) ∧ (if mx.isSome = true then m else cap) ≤ cap := fun {cap} hc => by
        by_cases hs : mx.isSome = true
        · rw [if_pos hs]; have := hm hs; omega
        · rw [if_neg hs]; omega
      cases ha with
      | vs us hF hc hu ho1 hrel =>
        rename_i B off cap
        obtain ⟨c1, c2⟩ := hcase hc
        refine ⟨_, hrun q1 q2 q3 hc, ?_⟩
        generalize (if mx.isSome = true then m else cap) = M at *
        show ae w F μ (.vs tt (o + l) (h - l) z) _
        by_cases e1 : M = l
        · rw [if_pos e1, show h - l = 0 by omega]; exact .pP
        · rw [if_neg e1]
          show ae w F μ (.vs tt (o + l) (h - l) z) (.slice (some ((⟨B, off, none⟩ : Addr).add (l * i.size))) (h - l) (M - l))
          rw [Addr.add_mid, hiz]
          rw [hy] at hu ho1 hrel
          have hlt : ∀ i, i < (h - l) * z → l * z + i < n * z := fun i hi => by
            have h3 : (h - l) * z + l * z = h * z := by rw [← Nat.add_mul]; congr 1; omega
            have h4 : h * z ≤ n * z := Nat.mul_le_mul_right z hh
            omega
          refine .vs (fun i => us (l * z + i)) hF (by omega) (fun i hi => ?_) (fun i hi => ho1 _ (hlt i hi)) fun i hi => ?_
          · rw [Nat.add_assoc]; exact hu _ (hlt i hi)
          · rw [Nat.add_mul, Nat.add_assoc]; exact hrel _ (hlt i hi)
      | @pP _ _ _ _ cap ad_ =>
        have hl0 : l = 0 := by omega
        refine ⟨_, hrun q1 q2 q3 (Nat.zero_le cap), ?_⟩
        generalize (if mx.isSome = true then m else cap) = M at *
        show ae w F μ (.vs tt (o + l) (h - l) z) _
        rw [show h - l = 0 by omega]
        by_cases e1 : M = l
        · rw [if_pos e1]; exact .pP
        · rw [if_neg e1]; exact .pP
  · have nilc : ∀ {ad : Option Addr} {v : AV}, (∀ {w : World} {F : Nat → Prop} {μ : Mu} {ad' : Option Addr}, (ad = none → ad' = none) → (ad.isSome = true → ad'.isSome = true) → ae w F μ v (.slice ad' 0 0)) → bounds lo hi mx 0 (fun _ _ _ => k v) = R →
        k v = R ∧ ∀ {w : World} {F : Nat → Prop} {μ : Mu} {a bb c : Option Value}, b8 w F μ lo a → b8 w F μ hi bb → b8 w F μ mx c → ∃ r, (Instr.sliceAt t (.slice ad 0 0) a bb c).run P w = .ok r w ∧ ae w F μ v r := by
      intro ad v hv g2
      obtain ⟨l, h, e', m, g3, hl, hh, h1, h2, b1, b2, b3, b4⟩ := cL hR g2
      have hm : mx.isSome = true → h ≤ m ∧ m ≤ 0 := fun e => ⟨(h1 e).1, (h1 e).2.1⟩
      refine ⟨g3, fun {w F μ a bb c} q1 q2 q3 => ⟨_, gM ht hi' (cO q1 q2 q3 b1 b2 b3 b4 hl hh hm (Nat.le_refl 0)), ?_⟩⟩
      have hM : (if mx.isSome = true then m else 0) = 0 := by
        by_cases hs : mx.isSome = true
        · rw [if_pos hs]; have := hm hs; omega
        · rw [if_neg hs]
      rw [hM, show h - l = 0 by omega, show 0 - l = 0 by omega]
      exact hv (fun e => by subst e; split <;> rfl) (fun e => by
        obtain ⟨q, rfl⟩ := Option.isSome_iff_exists.1 e
        split <;> rfl)
    rcases ar hR g with ⟨hg, g2⟩ | ⟨_, g2⟩
    · rw [an] at hg
      obtain ⟨g3, H⟩ := nilc (ad := none) (v := .x 8 .lf 0 0 0) (fun h _ => by rw [h rfl]; exact .ju) g2
      refine ⟨_, g3, fun {w F μ u a bb c} ha q1 q2 q3 => ?_⟩
      subst hg
      cases ha
      exact H q1 q2 q3
    · obtain ⟨hg, g2⟩ := ah hR g2
      rw [an] at hg
      obtain ⟨g3, _⟩ := nilc (ad := some default) (v := .x 6 .lf 0 0 0) (fun _ h => by
        obtain ⟨q, hq⟩ := Option.isSome_iff_exists.1 (h rfl)
        rw [hq]; exact .emp) g2
      refine ⟨_, g3, fun {w F μ u a bb c} ha q1 q2 q3 => ?_⟩
      subst hg
      cases ha with
      | emp =>
        rename_i p
        exact (nilc (ad := some p) (v := .x 6 .lf 0 0 0) (fun _ h => by
          obtain ⟨q, hq⟩ := Option.isSome_iff_exists.1 (h rfl)
          rw [hq]; exact .emp) g2).2 q1 q2 q3
  · exact aa hR g
end
section
variable {P : Program} {R : ab} (hR : R ≠ .fail)
theorem run_indexAt_slice {t e : TypeId} {i : TypeInfo} (ht : bj P t = some (.slice e)) (hi : P.info? e = some i) {w : World} {a : Addr} {n cap j : Nat} {k : IntKind} (hj : j < n) :
    (Instr.indexAt t (.slice (some a) n cap) (.int k (j : Int))).run P w = .ok (.pointer (some (a.add (j * i.size)))) w := by
  have h1 : (j : Int) < (n : Int) := by omega
  simp [Instr.indexAt, asIntOf, run_underlying (aj ht).1, sizeOf, typeInfo, hi]
  intro h; omega
theorem run_indexAt_array {t e : TypeId} {n : Nat} {i : TypeInfo} (ht : bj P t = some (.array n e)) (hi : P.info? e = some i) {w : World} {a : Addr} {j : Nat} {k : IntKind} (hj : j < n) :
    (Instr.indexAt t (.pointer (some a)) (.int k (j : Int))).run P w = .ok (.pointer (some (a.add (j * i.size)))) w := by
  have h1 : (j : Int) < (n : Int) := by omega
  simp [Instr.indexAt, asIntOf, run_underlying (aj ht).1, sizeOf, typeInfo, hi, Instr.sureAddr]
  intro h; omega
include hR
theorem nh {t e : TypeId} (ht : bj P t = some (.slice e)) {z : Nat} (hsz : aC P e = z) (hz : 1 ≤ z) {x j : AV} {k : AV → ab} (g : indexAddr z x j k = R) : ∃ v, k v = R ∧ bY P (Instr.indexAt t) x j v := by
  obtain ⟨i, _, hi', hsi⟩ := cD (P := P) (t := e) (by omega)
  have hiz : i.size = z := by omega
  rcases bF hR g with ⟨b, o, n, y, rfl, g⟩ | ⟨tt, o, n, y, rfl, g⟩ | ⟨i', tt, a', b', c, rfl, g⟩ | ⟨s, n, rfl, g⟩
  · obtain ⟨i', m, rfl, hm, hn, g⟩ := eV hR g
    rw [aw] at g
    refine ⟨_, g, fun {w F μ u u'} ha hb => ?_⟩
    rw [cS hn hb]
    cases ha with
    | ms hmu hc hcs =>
      refine ⟨_, run_indexAt_slice ht hi' hm, ?_⟩
      rw [Addr.add_mid, Nat.add_assoc, hiz]; exact .ptr hmu
    | pN => exact absurd hm (Nat.not_lt_zero _)
  · obtain ⟨hy, g⟩ := ah hR g
    rw [an] at hy
    obtain ⟨i', m, rfl, hm, hn, g⟩ := eV hR g
    rw [aw] at g
    refine ⟨_, g, fun {w F μ u u'} ha hb => ?_⟩
    rw [cS hn hb]
    cases ha with
    | vs us hF hc hu h1 h =>
      refine ⟨_, run_indexAt_slice ht hi' hm, ?_⟩
      rw [Addr.add_mid, hiz]
      rw [hy] at hu h1 h
      have hlt : ∀ i, i < z → m * z + i < n * z := fun i hi => by
        have : (m + 1) * z ≤ n * z := Nat.mul_le_mul_right z hm
        rw [Nat.add_mul, Nat.one_mul] at this; omega
      refine .gV (fun i => us (m * z + i)) hF (fun i hi => ?_) (fun i hi => h1 _ (hlt i hi)) fun i hi => ?_
      · rw [Nat.add_assoc]; exact hu _ (hlt i hi)
      · show ae w F bz (cellAt z tt ((o + m) * z + i)) _
        rw [Nat.add_mul, Nat.add_assoc]; exact h _ (hlt i hi)
    | pP => exact absurd hm (Nat.not_lt_zero _)
  · exact aa hR g
  · exact aa hR g
theorem p9 {t e : TypeId} {n : Nat} (ht : bj P t = some (.array n e)) {z : Nat} (hsz : aC P e = z) (hz : 1 ≤ z) {x j : AV} {k : AV → ab} (g : rE z n x j k = R) : ∃ v, k v = R ∧ bY P (Instr.indexAt t) x j v := by
  obtain ⟨i, _, hi', hsi⟩ := cD (P := P) (t := e) (by omega)
  have hiz : i.size = z := by omega
  rcases dL hR g with ⟨b, o, rfl, g⟩ | ⟨tt, o, m', y, rfl, g⟩
  · obtain ⟨i', m, rfl, hm, hn, g⟩ := eV hR g
    rw [aw] at g
    refine ⟨_, g, fun {w F μ u u'} ha hb => ?_⟩
    rw [cS hn hb]
    obtain ⟨mp, hmu, rfl⟩ := dC ha
    refine ⟨_, run_indexAt_array ht hi' hm, ?_⟩
    rw [Addr.add_mid, Nat.add_assoc, hiz]; exact .ptr hmu
  · obtain ⟨i', m, rfl, hm, hn, g⟩ := eV hR g
    obtain ⟨hle, g⟩ := ah hR g
    rw [aK] at hle
    rw [aw] at g
    have hle : (m + 1) * z ≤ m' := hle
    rw [Nat.add_mul, Nat.one_mul] at hle
    refine ⟨_, g, fun {w F μ u u'} ha hb => ?_⟩
    rw [cS hn hb]
    cases ha with
    | gV us hF hu h1 h =>
      refine ⟨_, run_indexAt_array ht hi' hm, ?_⟩
      rw [Addr.add_mid, hiz]
      refine .gV (fun i => us (m * z + i)) hF (fun i hi => ?_) (fun i hi => h1 _ (by omega)) fun i hi => ?_
      · rw [Nat.add_assoc]; exact hu _ (by omega)
      · show ae w F bz (cellAt y tt (o + m * z + i)) _
        rw [Nat.add_assoc]; exact h _ (by omega)
omit hR in
theorem k6 {fs : Array Field} {f : Nat} (h : f < fs.size) : ∃ x, fs[f]? = some x ∧ bP fs f = x.offset ∧ cd fs f = x.type := by
  have hg : fs[f]? = some fs[f] := Array.getElem?_eq_getElem h
  refine ⟨fs[f], hg, ?_, ?_⟩
  · unfold bP; rw [c8, Array.getElem?_toList, hg]
  · unfold cd; rw [c8, Array.getElem?_toList, hg]
theorem ng {t : TypeId} {fs : Array Field} {f : Nat} (ht : bj P t = some (.struct fs)) (hf : f < fs.size) (hz : 1 ≤ aC P (cd fs f)) {x : AV} {k : AV → ab} (g : fieldAddr (bP fs f) x k = R) :
    ∃ v, k v = R ∧ iu P (fun u => Instr.fieldAt t u f) x v := by
  obtain ⟨fd, hfd, ho, hft⟩ := k6 hf
  rw [hft] at hz
  obtain ⟨i, _, hi', hsi⟩ := cD (P := P) (t := fd.type) hz
  have hne : ¬ i.size = 0 := by omega
  have hrun : ∀ (w : World) (a : Addr), (Instr.fieldAt t (.pointer (some a)) f).run P w = .ok (.pointer (some (a.add fd.offset))) w := fun w a => by
    simp [Instr.fieldAt, run_underlying (aj ht).1, hfd, Instr.sureAddr, fieldPlace, sizeOf, typeInfo, hi', hne]
  rw [ho] at g
  rcases dL hR g with ⟨b, o, e0, g2⟩ | ⟨tt, o, n, y, e0, g2⟩
  · subst e0; have g := g2
    rw [aw] at g
    refine ⟨_, g, fun {w F μ u} ha => ?_⟩
    obtain ⟨mp, hmu, rfl⟩ := dC ha
    refine ⟨_, hrun w _, ?_⟩
    rw [Addr.add_mid, Nat.add_assoc]; exact .ptr hmu
  · subst e0
    obtain ⟨hle, g⟩ := ah hR g2
    rw [aK] at hle
    rw [aw, aw] at g
    refine ⟨_, g, fun {w F μ u} ha => ?_⟩
    cases ha with
    | gV us hF hu h1 h =>
      refine ⟨_, hrun w _, ?_⟩
      rw [Addr.add_mid]
      have hlt : ∀ i, i < Nat.sub n fd.offset → fd.offset + i < n := fun i hi => by
        have : i < n - fd.offset := hi
        omega
      refine .gV (fun i => us (fd.offset + i)) hF (fun i hi => ?_) (fun i hi => h1 _ (hlt i hi)) fun i hi => ?_
      · rw [Nat.add_assoc]; exact hu _ (hlt i hi)
      · show ae w F bz (cellAt y tt (o + fd.offset + i)) _
        rw [Nat.add_assoc]; exact h _ (hlt i hi)
omit hR in
theorem cM {t : TypeId} (h : known P t = true) : ∃ d, bj P t = some d := by
  unfold known at h
  cases hu : bj P t with
  | none => rw [hu] at h; exact Bool.noConfusion h
  | some d => exact ⟨d, rfl⟩
theorem oh {t : TypeId} (hk : ∃ d, bj P t = some d) {off : Nat} {x : AV} {k : AV → ab} (g : og (Go.Proofs.YtdlohaedegmiaaaGreatDoor.Ev.isAgg P t) (aC P t) off x k = R) :
    ∃ v, k v = R ∧ ∀ {w : World} {F : Nat → Prop} {μ : Mu} {u : Value}, ae w F μ x u → ∃ cs r, u = .agg cs ∧ (part t cs off).run P w = .ok r w ∧ ae w F μ v r := by
  obtain ⟨l, n, rfl, g⟩ := bU hR g
  obtain ⟨hle, g⟩ := ah hR g
  rw [aK] at hle
  have hle : off + aC P t ≤ n := hle
  obtain ⟨d, hd⟩ := hk
  obtain ⟨_, i, hi, hi2⟩ := aj hd
  cases hag : Go.Proofs.YtdlohaedegmiaaaGreatDoor.Ev.isAgg P t with
  | false =>
    rw [hag] at g
    obtain ⟨hs, g⟩ := ah hR g
    rw [an] at hs
    obtain ⟨_, g⟩ := mj hR _ g
    refine ⟨_, g, fun {w F μ u} ha => ?_⟩
    cases ha with
    | agg us hsz hu h1 h =>
      refine ⟨_, us off, rfl, ?_, h off (by omega)⟩
      unfold part
      rw [Sem.run_bind, kK hag ⟨i, hi2⟩ w ⟨d, hd⟩]
      simp [hu off (by omega)]
  | true =>
    rw [hag] at g
    obtain ⟨l1, ⟨q1, q2⟩, g⟩ := nT hR _ g
    obtain ⟨l2, ⟨q3, q4, q5⟩, g⟩ := nW hR _ g
    refine ⟨_, g, fun {w F μ u} ha => ?_⟩
    cases ha with
    | @agg _ _ _ cs us hsz hu h1 h =>
      obtain ⟨d', hd', hrow, _⟩ := iK hag
      rw [hd] at hd'
      cases hd'
      refine ⟨_, .agg (cs.extract off (off + aC P t)), rfl, ?_, ?_⟩
      · have hagr : (Go.isAgg t).run P w = .ok true w := by
          unfold Go.isAgg
          rw [Sem.run_bind, lu hd]
          cases d <;> first | rfl | cases hrow
        unfold part
        rw [Sem.run_bind, hagr]
        simp [sizeOf, typeInfo, hi, ba hi2]
      · refine .agg (fun i => us (off + i)) ?_ (fun i hi => ?_) (fun i hi => h1 _ (by omega)) fun i hi => ?_
        · rw [Array.size_extract, hsz]; omega
        · rw [Array.getElem?_extract, if_pos (by rw [hsz]; omega)]; exact hu _ (by omega)
        · rw [q5 i hi, q2]; exact h _ (by omega)
end
section
variable {P : Program} {R : ab} (hR : R ≠ .fail)
include hR
theorem yB {t : TypeId} {fs : Array Field} {f : Nat} (ht : bj P t = some (.struct fs)) (hf : f < fs.size) (hk : known P (cd fs f) = true) {x : AV} {k : AV → ab} (g : og (Go.Proofs.YtdlohaedegmiaaaGreatDoor.Ev.isAgg P (cd fs f)) (aC P (cd fs f)) (bP fs f) x k = R) :
    ∃ v, k v = R ∧ iu P (fun u => Instr.field t u f) x v := by
  obtain ⟨fd, hfd, ho, hft⟩ := k6 hf
  obtain ⟨v, g, H⟩ := oh hR (cM hk) g
  refine ⟨v, g, fun {w F μ u} ha => ?_⟩
  obtain ⟨cs, r, rfl, hr, hc⟩ := H ha
  rw [ho, hft] at hr
  exact ⟨r, by simp [Instr.field, run_underlying (aj ht).1, hfd, asAgg, hr], hc⟩
theorem yH {t e : TypeId} {n : Nat} (ht : bj P t = some (.array n e)) (hk : known P e = true) {x j : AV} {k : AV → ab} (g : (p8 j n fun j => og (Go.Proofs.YtdlohaedegmiaaaGreatDoor.Ev.isAgg P e) (aC P e) (Nat.mul j (aC P e)) x k) = R) :
    ∃ v, k v = R ∧ bY P (Instr.index t) x j v := by
  obtain ⟨i, m, rfl, hm, hn, g⟩ := eV hR g
  obtain ⟨v, g, H⟩ := oh hR (cM hk) g
  refine ⟨v, g, fun {w F μ u u'} ha hb => ?_⟩
  obtain ⟨cs, r, rfl, hr, hc⟩ := H ha
  rw [cS hn hb]
  obtain ⟨d, hd⟩ := cM hk
  obtain ⟨_, i', hi, hi2⟩ := aj hd
  have hr : (part e cs (m * aC P e)).run P w = .ok r w := hr
  rw [ba hi2] at hr
  have h1 : (m : Int) < (n : Int) := by omega
  refine ⟨r, ?_, hc⟩
  simp [Instr.index, asIntOf, run_underlying (aj ht).1, sizeOf, typeInfo, hi, hm, hr]
theorem pa {t : TypeId} (ht : bj P t = some .string) {x j : AV} {k : AV → ab} (g : (x.bW fun s n => p8 j n fun j => bX 4 (Nat.mod (Nat.div s (Nat.pow 256 j)) 256) k) = R) : ∃ v, k v = R ∧ bY P (Instr.index t) x j v := by
  obtain ⟨s, n, rfl, g⟩ := aM hR g
  obtain ⟨i, m, rfl, hm, hn, g⟩ := eV hR g
  rw [bx] at g
  refine ⟨_, g, fun {w F μ u u'} ha hb => ?_⟩
  obtain ⟨B, rfl, h1, h2⟩ := cy ha
  rw [cS hn hb]
  have hm' : m < B.data.toList.length := by rw [Array.length_toList]; rw [h2] at hm; exact hm
  have hmB : m < B.size := by rw [h2] at hm; exact hm
  have hget : B[m]? = some (B.data.toList[m]) := by
    rw [getElem?_pos B m hmB]; rfl
  refine ⟨.int .u8 ((B.data.toList[m]).toNat : Int), ?_, ?_⟩
  · simp [Instr.index, asIntOf, run_underlying (aj ht).1, hget]
  · have := kl B.data.toList m hm'
    rw [← h1] at this
    have e : Nat.mod (Nat.div s (Nat.pow 256 m)) 256 = (B.data.toList[m]).toNat := this
    rw [e]; exact mK _
theorem qR {x : AV} {i : Nat} {fr : Fr} {k : AV → ab} (g : (x.o8 fun t _ => (vI i).get t fr k) = R) : ∃ v, k v = R ∧ iu P (fun u => Instr.extract u i) x v := by
  obtain ⟨t, n, rfl, g⟩ := zm hR g
  obtain ⟨hl, g⟩ := mT hR _ g
  refine ⟨_, g, fun {w F μ u} ha => ?_⟩
  cases ha with
  | bM us hl2 hu h =>
    rw [hl2] at hl
    exact ⟨us i, by simp [Instr.extract, hu i hl], h i hl⟩
theorem a4T {x : AV} {k : AV → ab} (g : (x.bo fun i n => bX i (Nat.mod (Nat.sub (md i) n) (md i)) k) = R) : ∃ v, k v = R ∧ iu P (Op.unary .neg) x v := by
  obtain ⟨i, n, e0, g'⟩ := aR hR g
  subst e0; clear g; have g := g'; clear g'
  rw [bx] at g
  refine ⟨_, g, fun {w F μ u} ha => ?_⟩
  obtain ⟨hn, rfl⟩ := aY ha
  have := a5v i 0 n (gE i) hn
  rw [oF i 0 (by omega), Nat.zero_add] at this
  refine ⟨.int (kd i) (T i ((md i - n) % md i)), ?_, aN (Nat.mod_lt _ (gE i))⟩
  rw [← this]
  simp [Op.unary, Op.intArith]
theorem a4W {x : AV} {k : AV → ab} (g : (x.dx fun b => k (.bool (bZ b))) = R) : ∃ v, k v = R ∧ iu P (Op.unary .not) x v := by
  obtain ⟨b, rfl, g⟩ := dZ hR g
  refine ⟨_, g, fun {w F μ u} ha => ?_⟩
  rw [de ha, cR]
  exact ⟨_, by simp only [Op.unary, Sem.run_pure], .bool _⟩
theorem a3X {s d : TypeId} {k1 k2 : IntKind} (hs : bj P s = some (.int k1)) (hd : bj P d = some (.int k2)) {x : AV} {k : AV → ab} (g : (x.bo fun i n => bX (kc k2) (cvt (md i) (hf i) (md (kc k2)) n) k) = R) : ∃ v, k v = R ∧ iu P (convert s d) x v := by
  obtain ⟨i, n, e0, g'⟩ := aR hR g
  subst e0; clear g; have g := g'; clear g'
  rw [bx] at g
  refine ⟨_, g, fun {w F μ u} ha => ?_⟩
  obtain ⟨hn, rfl⟩ := aY ha
  obtain ⟨h1, h2⟩ := T_cvt i (kc k2) n hn
  refine ⟨.int k2 (k2.wrap (T i n)), ?_, ?_⟩
  · simp [convert, run_underlying (aj hs).1, run_underlying (aj hd).1, Conv.intToInt]
  · have := aN (w := w) (F := F) (μ := μ) h2
    rw [← h1, a0Y] at this; exact this
theorem a4R {x y : AV} {k : AV → ab} (ts : Array TypeId) (ty : TypeId) (g : (x.bo fun i m => y.bo fun j n => aq (Nat.beq i j) (when (Nat.ble (Nat.mod (Nat.add m (hf i)) (md i)) (Nat.mod (Nat.add n (hf i)) (md i))) (k (.int i m)) (k (.int i n)))) = R) :
    ∃ v, k v = R ∧ bY P (fun u u' => Builtin.min_ ts ty #[u, u']) x y v := by
  obtain ⟨i, m, e0, g'⟩ := aR hR g
  subst e0; clear g; have g := g'; clear g'
  obtain ⟨j, n, e0, g'⟩ := aR hR g
  subst e0; clear g; have g := g'; clear g'
  obtain ⟨hij, g⟩ := ah hR g
  rw [an] at hij
  have hrun : ∀ (w : World) (a c : Int) (q q' : IntKind), (Builtin.min_ ts ty #[.int q a, .int q' c]).run P w = .ok (.int q (if c < a then c else a)) w := fun w a c q q' => by
    simp [Builtin.min_, Builtin.min2]
  rcases ar hR g with ⟨hc, g⟩ | ⟨hc, g⟩
  · rw [aK] at hc
    refine ⟨_, g, fun {w F μ u u'} ha hb => ?_⟩
    obtain ⟨h1, rfl⟩ := aY ha
    obtain ⟨h2, rfl⟩ := aY hb
    rw [← hij] at h2 ⊢
    refine ⟨_, hrun w _ _ _ _, ?_⟩
    have := (pV i m n h1 h2).2 hc
    rw [if_neg (by omega)]; exact aN h1
  · have hc' : ¬ (m + hf i) % md i ≤ (n + hf i) % md i := fun e => by
      have e2 : Nat.ble (Nat.mod (Nat.add m (hf i)) (md i)) (Nat.mod (Nat.add n (hf i)) (md i)) = true := cZ e
      rw [e2] at hc; cases hc
    refine ⟨_, g, fun {w F μ u u'} ha hb => ?_⟩
    obtain ⟨h1, rfl⟩ := aY ha
    obtain ⟨h2, rfl⟩ := aY hb
    rw [← hij] at h2 ⊢
    refine ⟨_, hrun w _ _ _ _, ?_⟩
    have := mt (pV i m n h1 h2).1 hc'
    rw [if_pos (by omega)]; exact aN h2
theorem a1Q {M : Mem} (ok : aT M) {V : Env} {q : Nat} {ts : Array TypeId} {t ty : TypeId} (h0 : ts[0]? = some t) (hq : (q = 0 ∧ bj V.P t = some .string) ∨ (q = 1 ∧ ∃ e, bj V.P t = some (.slice e)) ∨ (q = 2 ∧ ∃ a b, bj V.P t = some (.map a b)))
    {x : AV} {hp : Hp} {k : Nat → ab} (g : lenK M q x hp k = R) : ∃ n, k n = R ∧ (q = 2 → bB hp x) ∧ ∀ {w : World} {F : Nat → Prop} {μ : Mu} {u : Value}, ae w F μ x u → (q = 2 → du V w F μ hp x) → (Builtin.len_ ts ty #[u]).run V.P w = .ok (goInt (n : Nat)) w := by
  cases x with
  | str s n =>
    obtain ⟨hq0, g⟩ := ah hR (show aq (Nat.beq q 0) (k n) = R from g)
    rw [an] at hq0
    refine ⟨_, g, fun e => by omega, fun {w F μ u} ha _ => ?_⟩
    obtain ⟨B, rfl, _, rfl⟩ := cy ha
    rcases hq with ⟨_, ht⟩ | ⟨h1, _⟩ | ⟨h1, _⟩
    · simp [Builtin.len_, h0, run_underlying (aj ht).1]
    · omega
    · omega
  | ms b o n z =>
    obtain ⟨hq0, g⟩ := ah hR (show aq (Nat.beq q 1) (k n) = R from g)
    rw [an] at hq0
    refine ⟨_, g, fun e => by omega, fun {w F μ u} ha _ => ?_⟩
    rcases hq with ⟨h1, _⟩ | ⟨_, e, ht⟩ | ⟨h1, _⟩
    · omega
    · cases ha <;> simp [Builtin.len_, h0, run_underlying (aj ht).1]
    · omega
  | vs tt o n z =>
    obtain ⟨hq0, g⟩ := ah hR (show aq (Nat.beq q 1) (k n) = R from g)
    rw [an] at hq0
    refine ⟨_, g, fun e => by omega, fun {w F μ u} ha _ => ?_⟩
    rcases hq with ⟨h1, _⟩ | ⟨_, e, ht⟩ | ⟨h1, _⟩
    · omega
    · cases ha <;> simp [Builtin.len_, h0, run_underlying (aj ht).1]
    · omega
  | x gg tt a b c =>
    rcases ar hR (show when (Nat.beq q 1) (aq (Nat.beq gg 8 || Nat.beq gg 6) (k 0)) (aq (Nat.beq q 2) (when (Nat.beq gg 10) (k 0) (aq (Nat.beq gg 4) (hp.get M a fun B => B.eX fun n _ => k n)))) = R from g) with ⟨hq1, g⟩ | ⟨_, g⟩
    · rw [an] at hq1
      obtain ⟨hg, g⟩ := ah hR g
      rw [Bool.or_eq_true, an, an] at hg
      refine ⟨_, g, fun e => by omega, fun {w F μ u} ha _ => ?_⟩
      rcases hq with ⟨h1, _⟩ | ⟨_, e, ht⟩ | ⟨h1, _⟩
      · omega
      · rcases hg with rfl | rfl <;> cases ha <;> simp [Builtin.len_, h0, run_underlying (aj ht).1]
      · omega
    · obtain ⟨hq2, g⟩ := ah hR g
      rw [an] at hq2
      obtain ⟨ta, tb, ht⟩ : ∃ a b, bj V.P t = some (.map a b) := by
        rcases hq with ⟨h1, _⟩ | ⟨h1, _⟩ | ⟨_, h⟩
        · omega
        · omega
        · exact h
      rcases ar hR g with ⟨hg, g⟩ | ⟨_, g⟩
      · rw [an] at hg
        refine ⟨_, g, fun _ c hc => (by subst hg; cases hc), fun {w F μ u} ha _ => ?_⟩
        subst hg; cases ha
        simp [Builtin.len_, h0, run_underlying (aj ht).1]
      · obtain ⟨hg, g⟩ := ah hR g
        rw [an] at hg
        have g := bu ok hR g
        obtain ⟨n, tr, hB, g⟩ := eY hR g
        refine ⟨_, g, fun _ c hc => (by subst hg; cases hc; rw [hB]; trivial), fun {w F μ u} ha hr => ?_⟩
        subst hg
        have hb := hr hq2 a rfl
        rw [hB] at hb
        obtain ⟨m, es, clk, h1, h2, _, h4, _⟩ := hb
        cases ha with
        | map hm =>
          rw [hm] at h1; cases h1
          simp [Builtin.len_, h0, run_underlying (aj ht).1, getObj, Sem.run, h2, h4]
  | _ => exact aa hR g
end
theorem k7 (off : Nat) : ∀ (vs : List Value) (j0 : Nat) (cs : Array Value), ((vs.zipIdx j0).foldl (fun (cs : Array Value) (p : Value × Nat) => cs.setIfInBounds (off + p.2) p.1) cs).size = cs.size ∧
    ∀ j, ((vs.zipIdx j0).foldl (fun (cs : Array Value) (p : Value × Nat) => cs.setIfInBounds (off + p.2) p.1) cs)[j]? = if off + j0 ≤ j ∧ j < off + j0 + vs.length ∧ j < cs.size then vs[j - (off + j0)]? else cs[j]?
  | [], j0, cs => ⟨rfl, fun j => by rw [if_neg (by simp only [List.length_nil]; omega)]; rfl⟩
  | v :: r, j0, cs => by
    obtain ⟨h1, h2⟩ := k7 off r (j0 + 1) (cs.setIfInBounds (off + j0) v)
    rw [List.zipIdx_cons, List.foldl_cons]
    refine ⟨by rw [h1, Array.size_setIfInBounds], fun j => ?_⟩
    rw [h2 j, Array.size_setIfInBounds, Array.getElem?_setIfInBounds]
    by_cases e : j = off + j0
    · subst e
      rw [if_neg (by omega)]
      by_cases hj : off + j0 < cs.size
      · rw [if_pos rfl, if_pos hj, if_pos ⟨Nat.le_refl _, by simp only [List.length_cons]; omega, hj⟩, Nat.sub_self]; rfl
      · rw [if_pos rfl, if_neg hj, if_neg (by omega), Array.getElem?_eq_none (by omega)]
    · by_cases e1 : off + (j0 + 1) ≤ j ∧ j < off + (j0 + 1) + r.length ∧ j < cs.size
      · rw [if_pos e1, if_pos (by simp only [List.length_cons]; omega), show j - (off + j0) = (j - (off + (j0 + 1))) + 1 by omega]; rfl
      · rw [if_neg e1, if_neg (Ne.symm e), if_neg (by simp only [List.length_cons]; omega)]
def pT (w : World) (F : Nat → Prop) (μ : Mu) (l : Row) (cs : Array Value) (n : Nat) : Prop := cs.size = n ∧ ∀ i, i < n → ∃ y, cs[i]? = some y ∧ y.oneCell' = true ∧ ae w F μ (nth l i) y
theorem pT.agg {w : World} {F : Nat → Prop} {μ : Mu} {l : Row} {cs : Array Value} {n : Nat} (h : pT w F μ l cs n) : ae w F μ (.agg l n) (.agg cs) := by
  obtain ⟨us, hus⟩ := eD h.2
  exact .agg us h.1 (fun i hi => (hus i hi).1) (fun i hi => (hus i hi).2.1) fun i hi => (hus i hi).2.2
def PSet (l : Row) (off sz : Nat) (v : AV) (l' : Row) : Prop := ∀ j, nth l' j = if off ≤ j ∧ j < off + sz then cv v (j - off) else nth l j
theorem a3b {R : ab} (hR : R ≠ .fail) {k : Row → ab} (n : Nat) : ∀ {i : Nat} {u l : Row}, (Nat.rec (motive := fun _ => Nat → Row → Row → ab) (fun _ _ l => k l) (fun _ ih i u l => Tr.rec (motive := fun _ => ab) .fail (fun c _ r _ _ => (zg i).f l c fun l => ih (Nat.succ i) r l) u) n i u l : ab) = R →
    ∃ l', k l' = R ∧ ∀ j, nth l' j = if i ≤ j ∧ j < i + n then nth u (j - i) else nth l j := by
  induction n with
  | zero => intro i u l g; exact ⟨l, g, fun j => by rw [if_neg (by omega)]⟩
  | succ n ih =>
    intro i u l g
    cases u with
    | lf => exact aa hR g
    | nd c a r =>
      obtain ⟨l1, ⟨_, _, h1⟩, g⟩ := mr hR (k := fun l => (Nat.rec (motive := fun _ => Nat → Row → Row → ab) (fun _ _ l => k l) (fun _ ih i u l => Tr.rec (motive := fun _ => ab) .fail (fun c _ r _ _ => (zg i).f l c fun l => ih (Nat.succ i) r l) u) n (Nat.succ i) r l : ab)) i g
      obtain ⟨l', g, h2⟩ := ih g
      refine ⟨l', g, fun j => ?_⟩
      rw [h2 j, h1 j]
      by_cases e : j = i
      · have e1 : ¬ (Nat.succ i ≤ j ∧ j < Nat.succ i + n) := by omega
        have e2 : i ≤ j ∧ j < i + (n + 1) := by omega
        rw [if_neg e1, if_pos e, if_pos e2, e, Nat.sub_self]; rfl
      · by_cases e1 : Nat.succ i ≤ j ∧ j < Nat.succ i + n
        · have e2 : i ≤ j ∧ j < i + (n + 1) := by omega
          rw [if_pos e1, if_pos e2, show j - i = (j - Nat.succ i) + 1 by omega]; rfl
        · have e2 : ¬ (i ≤ j ∧ j < i + (n + 1)) := by omega
          rw [if_neg e1, if_neg e, if_neg e2]
section
variable {M : Mem} (ok : aT M) {R : ab} (hR : R ≠ .fail)
include ok hR
theorem a3c {off sz : Nat} {l : Row} {v : AV} {k : Row → ab} (g : setP off sz l v k = R) : ∃ l', k l' = R ∧ Fits v sz ∧ PSet l off sz v l' := by
  rcases ar hR g with ⟨hs, g⟩ | ⟨hs, g⟩
  · rw [an] at hs
    obtain ⟨c, f, hf, hc, _, g2⟩ := jV ok hR g
    obtain ⟨l', ⟨_, _, hl⟩, g3⟩ := mr hR _ g2
    refine ⟨l', g3, by rw [hs]; exact hf, fun j => ?_⟩
    rw [hl j, hc, hs]
    by_cases e : j = off
    · have e2 : off ≤ j ∧ j < off + 1 := by omega
      rw [if_pos e, if_pos e2, show j - off = 0 by omega]
    · have e2 : ¬ (off ≤ j ∧ j < off + 1) := by omega
      rw [if_neg e, if_neg e2]
  · obtain ⟨u, n, e0, g2⟩ := bU hR g
    subst e0
    obtain ⟨hn, g3⟩ := ah hR g2
    rw [an] at hn
    subst hn
    obtain ⟨l', g4, hl⟩ := a3b hR _ g3
    exact ⟨l', g4, .agg u n, fun j => hl j⟩
omit ok hR in
theorem pT.set {w : World} {F : Nat → Prop} {μ : Mu} {l l' : Row} {cs : Array Value} {n off sz : Nat} {v : AV} {u : Value} (h : pT w F μ l cs n) (hf : Fits v sz) (hv : ae w F μ v u) (hp : PSet l off sz v l') (hle : off + sz ≤ n) :
    u.cells.size = sz ∧ ¬ (off + u.cells.size > cs.size) ∧ pT w F μ l' (u.cells.zipIdx.foldl (fun cs (p : Value × Nat) => cs.setIfInBounds (off + p.2) p.1) cs) n := by
  obtain ⟨h1, h2⟩ := gZ hf hv
  refine ⟨h1, by rw [h1, h.1]; omega, ?_⟩
  obtain ⟨q1, q2⟩ := k7 off u.cells.toList 0 cs
  have e : u.cells.zipIdx.foldl (fun (cs : Array Value) (p : Value × Nat) => cs.setIfInBounds (off + p.2) p.1) cs = (u.cells.toList.zipIdx 0).foldl (fun (cs : Array Value) (p : Value × Nat) => cs.setIfInBounds (off + p.2) p.1) cs := by
    rw [← Array.foldl_toList, Array.toList_zipIdx]
  rw [e]
  refine ⟨by rw [q1, h.1], fun i hi => ?_⟩
  have hl : u.cells.toList.length = sz := by rw [Array.length_toList, h1]
  rw [q2 i, hp i, hl, h.1, Nat.add_zero]
  by_cases c : off ≤ i ∧ i < off + sz
  · rw [if_pos ⟨c.1, c.2, hi⟩, if_pos c]
    obtain ⟨y, r1, r2, r3⟩ := h2 (i - off) (by omega)
    exact ⟨y, by rw [Array.getElem?_toList]; exact r1, r2, r3⟩
  · rw [if_neg (fun q => c ⟨q.1, q.2.1⟩), if_neg c]; exact h.2 i hi
end
end Go.Proofs.YtdlohaedegmiaaaGreatDoor.Ev
