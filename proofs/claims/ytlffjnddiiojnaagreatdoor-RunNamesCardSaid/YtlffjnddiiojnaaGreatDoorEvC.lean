import Derived.Test.YtlffjnddiiojnaaGreatDoorEvB
import Derived.Laws.IdiomStrings
import Derived.Lib.AppendZeros
/- Constants; zero values. -/
namespace Go.Proofs.YtlffjnddiiojnaaGreatDoor.Ev
theorem lm_spec (k : IntKind) {n : Nat} (h : n < lm (kc k)) : n < md (kc k) ∧ (4 ≤ kc k ∨ n < hf (kc k)) := by
  cases k <;> simp only [kc, lm, md, hf] at h ⊢ <;> omega
theorem rel_constCell {w : World} {F : Nat → Prop} {μ : Mu} {v : Value} (h : isKnown (constCell v) = true) : CRel w F μ (constCell v) v ∧ v.oneCell' = true ∧ (constCell v).isFree = true ∧ (∀ l n, constCell v ≠ .agg l n) ∧ (∀ l n, constCell v ≠ .tup l n) ∧ (∀ t a b c, constCell v ≠ .x 0 t a b c) := by
  cases v with
  | int k n =>
    cases n with
    | ofNat m =>
      have e : constCell (.int k (.ofNat m)) = (Bool.rec (motive := fun _ => AV) .undef (.int (kc k) m) (Nat.ble (Nat.succ m) (lm (kc k))) : AV) := rfl
      rw [e] at h ⊢
      by_cases c : m < lm (kc k)
      · rw [ble_true (show Nat.succ m ≤ lm (kc k) from c)]
        obtain ⟨h1, h2⟩ := lm_spec k c
        refine ⟨?_, rfl, rfl, fun _ _ => AV.noConfusion, fun _ _ => AV.noConfusion, fun _ _ _ _ => AV.noConfusion⟩
        have := rel_int (w := w) (F := F) (μ := μ) h1
        rw [T_nonneg _ _ h1 h2, kc_kd] at this; exact this
      · rw [ble_false (show ¬ Nat.succ m ≤ lm (kc k) from c)] at h; exact Bool.noConfusion h
    | negSucc m =>
      have e : constCell (.int k (.negSucc m)) = (Bool.rec (motive := fun _ => AV) .undef (.int (kc k) (Nat.sub (md (kc k)) (Nat.succ m))) (Nat.ble (Nat.succ m) (hf (kc k))) : AV) := rfl
      rw [e] at h ⊢
      by_cases c : Nat.succ m ≤ hf (kc k)
      · rw [ble_true c]
        refine ⟨?_, rfl, rfl, fun _ _ => AV.noConfusion, fun _ _ => AV.noConfusion, fun _ _ _ _ => AV.noConfusion⟩
        have hlt := hf_lt (kc k)
        have h2 : 2 * hf (kc k) ≤ md (kc k) := by cases k <;> simp only [kc, md, hf] <;> omega
        have h1 : md (kc k) - (m + 1) < md (kc k) := by omega
        have := rel_int (w := w) (F := F) (μ := μ) h1
        rw [T_eq _ _ h1, kc_kd, if_pos ⟨by omega, by omega⟩] at this
        have e2 : ((md (kc k) - (m + 1) : Nat) : Int) - md (kc k) = Int.negSucc m := by omega
        rw [e2] at this; exact this
      · rw [ble_false c] at h; exact Bool.noConfusion h
  | bool b => exact ⟨.bool b, rfl, rfl, fun _ _ => AV.noConfusion, fun _ _ => AV.noConfusion, fun _ _ _ _ => AV.noConfusion⟩
  | string s => exact ⟨.str, rfl, rfl, fun _ _ => AV.noConfusion, fun _ _ => AV.noConfusion, fun _ _ _ _ => AV.noConfusion⟩
  | pointer a =>
    cases a with
    | none => exact ⟨.nilp, rfl, rfl, fun _ _ => AV.noConfusion, fun _ _ => AV.noConfusion, fun _ _ _ _ e => by simp [constCell] at e⟩
    | some a => exact Bool.noConfusion h
  | slice a n c =>
    cases a with
    | none =>
      have e : constCell (.slice none n c) = (Bool.rec (motive := fun _ => AV) .undef (.x 8 .lf 0 0 0) (and2 (Nat.beq n 0) (Nat.beq c 0)) : AV) := rfl
      rw [e] at h ⊢
      cases hb : and2 (Nat.beq n 0) (Nat.beq c 0) with
      | false => rw [hb] at h; exact Bool.noConfusion h
      | true =>
        rw [and2_eq, beqN, beqN] at hb
        obtain ⟨rfl, rfl⟩ := hb
        exact ⟨.nils, rfl, rfl, fun _ _ => AV.noConfusion, fun _ _ => AV.noConfusion, fun _ _ _ _ e => by simp at e⟩
    | some a => exact Bool.noConfusion h
  | map m =>
    cases m with
    | none => exact ⟨.nilm, rfl, rfl, fun _ _ => AV.noConfusion, fun _ _ => AV.noConfusion, fun _ _ _ _ e => by simp [constCell] at e⟩
    | some m => exact Bool.noConfusion h
  | nilFunc => exact ⟨.nilf, rfl, rfl, fun _ _ => AV.noConfusion, fun _ _ => AV.noConfusion, fun _ _ _ _ e => by simp [constCell] at e⟩
  | nilIface => exact ⟨.nili, rfl, rfl, fun _ _ => AV.noConfusion, fun _ _ => AV.noConfusion, fun _ _ _ _ e => by simp [constCell] at e⟩
  | _ => exact Bool.noConfusion h
theorem constCell_free (v : Value) : (constCell v).isFree = true := by
  by_cases h : isKnown (constCell v) = true
  · exact (rel_constCell (w := default) (F := fun _ => False) (μ := noMu) h).2.2.1
  · cases hc : constCell v with
    | x g t a b c =>
      rw [hc] at h
      cases g with
      | zero => rfl
      | succ g => exact absurd rfl h
    | _ => rw [hc] at h; exact absurd rfl h
theorem listOf_nth : ∀ (l : List Value) (i : Nat), nth (listOf l) i = (l[i]?.map constCell).getD .undef
  | [], i => by cases i <;> rfl
  | v :: l, 0 => rfl
  | v :: l, i + 1 => listOf_nth l i
theorem listOf_len : ∀ (l : List Value), len (listOf l) = l.length
  | [] => rfl
  | _ :: l => congrArg (· + 1) (listOf_len l)
theorem allKnown_get : ∀ (l : List Value), allKnown l = true → ∀ (i : Nat) (v : Value), l[i]? = some v → isKnown (constCell v) = true
  | [], _, i, v, h => by cases h
  | a :: l, h, i, v, hi => by
    have h' : and2 (isKnown (constCell a)) (allKnown l) = true := h
    rw [and2_eq] at h'
    cases i with
    | zero => cases hi; exact h'.1
    | succ i => exact allKnown_get l h'.2 i v hi
theorem constAV_agg (cs : Array Value) : constAV (.agg cs) = if allKnown cs.toList = true then .agg (listOf cs.toList) cs.size else .undef := bcase _ _ _
theorem constAV_cell {v : Value} (h : ∀ cs, v ≠ .agg cs) : constAV v = constCell v := by
  cases v <;> first | rfl | exact absurd rfl (h _)
theorem isKnown_undef : isKnown .undef = false := rfl
/-- A constant stands for itself. -/
theorem rel_constAV {w : World} {F : Nat → Prop} {μ : Mu} (v : Value) : CRel w F μ (constAV v) v := by
  by_cases hk : isKnown (constAV v) = true
  · by_cases hv : ∃ cs, v = .agg cs
    · obtain ⟨cs, rfl⟩ := hv
      rw [constAV_agg] at hk ⊢
      by_cases ha : allKnown cs.toList = true
      · rw [if_pos ha]
        have hget : ∀ i, i < cs.size → ∃ u, cs[i]? = some u ∧ cs.toList[i]? = some u := fun i hi => ⟨cs[i], Array.getElem?_eq_getElem hi, by rw [Array.getElem?_toList]; exact Array.getElem?_eq_getElem hi⟩
        obtain ⟨us, hus⟩ := pick_fn hget
        refine .agg us rfl (fun i hi => (hus i hi).1) (fun i hi => ?_) fun i hi => ?_
        · exact (rel_constCell (w := w) (F := F) (μ := μ) (allKnown_get _ ha i _ (hus i hi).2)).2.1
        · rw [listOf_nth, (hus i hi).2]
          exact (rel_constCell (allKnown_get _ ha i _ (hus i hi).2)).1
      · rw [if_neg ha] at hk; exact Bool.noConfusion hk
    · rw [constAV_cell fun cs e => hv ⟨cs, e⟩] at hk ⊢
      exact (rel_constCell hk).1
  · have : ∃ t a b c, constAV v = .x 0 t a b c := by
      cases hc : constAV v with
      | x g t a b c =>
        rw [hc] at hk
        cases g with
        | zero => exact ⟨t, a, b, c, rfl⟩
        | succ g => exact absurd rfl hk
      | _ => rw [hc] at hk; exact absurd rfl hk
    obtain ⟨t, a, b, c, e⟩ := this
    rw [e]; exact .undef v
section
variable {P : Program}
theorem zeroAV_some {t : TypeId} {i : TypeInfo} (h : infoL P t = some i) {v : Value} (hz : i.zero = some v) : zeroAV P t = constAV v := by
  unfold zeroAV
  rw [h]; show (match i.zero with | some v => constAV v | none => _) = _
  rw [hz]
theorem zero_known {t : TypeId} (h : isKnown (zeroAV P t) = true) : ∃ i v, infoL P t = some i ∧ P.info? t = some i ∧ i.zero = some v ∧ zeroAV P t = constAV v := by
  cases hi : infoL P t with
  | none => unfold zeroAV at h; rw [hi] at h; exact Bool.noConfusion h
  | some i =>
    cases hz : i.zero with
    | none => unfold zeroAV at h; rw [hi] at h; have h' : (match i.zero with | some v => isKnown (constAV v) | none => isKnown .undef) = true := by
                rw [hz]; simp only [Option.bind_some, hz] at h; exact h
              rw [hz] at h'; exact Bool.noConfusion h'
    | some v => exact ⟨i, v, rfl, infoL_some hi, hz, zeroAV_some hi hz⟩
theorem zeroEl_one {t : TypeId} {v : AV} {a : Row} (h : zeroAV P t = .agg (.nd v a .lf) 1) : zeroEl P t = v := by unfold zeroEl; rw [h]; rfl
theorem zeroEl_agg {t : TypeId} {l : Row} {n : Nat} (h : zeroAV P t = .agg l n) (hn : ¬ n = 1) : zeroEl P t = .agg l n := by
  unfold zeroEl; rw [h]
  split
  · rename_i heq; injection heq with _ e2; exact absurd e2 hn
  · rfl
/-- A cell of the zero value, as it stands in a row of elements of so many. -/
noncomputable def zc (P : Program) (t : TypeId) (z j : Nat) : AV := if z = 1 then zeroEl P t else elc (zeroEl P t) j
theorem zeroOk_out {t : TypeId} {z : Nat} (h : zeroOk P t z = true) : ∃ i v, infoL P t = some i ∧ P.info? t = some i ∧ i.zero = some v ∧ v.cells.size = z ∧
    ∀ j, j < z → ∃ y, v.cells[j]? = some y ∧ y.oneCell' = true ∧ (∀ w F μ, CRel w F μ (zc P t z j) y) ∧ (zc P t z j).isFree = true := by
  have hk : isKnown (zeroAV P t) = true := by
    unfold zeroOk at h
    cases hc : zeroAV P t with
    | x g a b c d =>
      rw [hc] at h
      cases g with
      | zero => exact Bool.noConfusion h
      | succ g => rfl
    | _ => rfl
  obtain ⟨i, v, h1, h2, h3, h4⟩ := zero_known hk
  refine ⟨i, v, h1, h2, h3, ?_⟩
  by_cases hv : ∃ cs, v = .agg cs
  · obtain ⟨cs, rfl⟩ := hv
    rw [h4, constAV_agg] at hk
    have ha : allKnown cs.toList = true := by
      cases ha : allKnown cs.toList with
      | true => rfl
      | false => rw [ha] at hk; exact Bool.noConfusion hk
    have hz : zeroAV P t = .agg (listOf cs.toList) cs.size := by rw [h4, constAV_agg, if_pos ha]
    have hs : cs.size = z := by unfold zeroOk at h; rw [hz] at h; rw [← beqN]; exact h
    refine ⟨hs, fun j hj => ?_⟩
    obtain ⟨y, hg⟩ : ∃ y, cs[j]? = some y := ⟨cs[j], Array.getElem?_eq_getElem (by omega)⟩
    have hkj : isKnown (constCell y) = true := allKnown_get _ ha j _ (by rw [Array.getElem?_toList]; exact hg)
    have hc : zc P t z j = constCell y := by
      have hn : nth (listOf cs.toList) j = constCell y := by rw [listOf_nth, Array.getElem?_toList, hg]; rfl
      unfold zc
      by_cases e : z = 1
      · rw [if_pos e]
        have hj0 : j = 0 := by omega
        subst hj0
        have hl : (listOf cs.toList) = .nd (constCell y) .lf .lf := by
          have : cs.toList.length = 1 := by rw [Array.length_toList]; omega
          match hh : cs.toList, this with
          | [a], _ =>
            have : y = a := by
              have h5 : cs.toList[0]? = some y := by rw [Array.getElem?_toList]; exact hg
              rw [hh] at h5; exact (Option.some.inj h5).symm
            rw [this]; rfl
        rw [hl, hs, e] at hz
        exact zeroEl_one hz
      · rw [if_neg e]
        rw [hs] at hz
        rw [zeroEl_agg hz e]; exact hn
    rw [hc]
    exact ⟨_, hg, (rel_constCell (w := default) (F := fun _ => False) (μ := noMu) hkj).2.1, fun w F μ => (rel_constCell hkj).1, constCell_free _⟩
  · have hcell := constAV_cell fun cs e => hv ⟨cs, e⟩
    have hz : zeroAV P t = constCell v := h4.trans hcell
    rw [hz] at hk
    obtain ⟨q1, q2, q3, q4, q5, q6⟩ := rel_constCell (w := default) (F := fun _ => False) (μ := noMu) hk
    have hcs : v.cells = #[v] := by cases v <;> first | rfl | exact absurd ⟨_, rfl⟩ hv
    have hz1 : z = 1 := by
      unfold zeroOk at h
      rw [hz] at h
      cases hc : constCell v with
      | agg l n => exact absurd hc (q4 l n)
      | x g a b c d =>
        rw [hc] at h
        cases g with
        | zero => exact Bool.noConfusion h
        | succ g => rw [← beqN]; exact h
      | _ => rw [hc] at h; rw [← beqN]; exact h
    subst hz1
    refine ⟨by rw [hcs]; rfl, fun j hj => ?_⟩
    have hj0 : j = 0 := by omega
    subst hj0
    have hc : zc P t 1 0 = constCell v := by
      unfold zc
      rw [if_pos rfl]
      unfold zeroEl
      rw [hz]
      split
      · rename_i heq; exact absurd heq (q4 _ _)
      · rfl
    rw [hc]
    exact ⟨v, by rw [hcs]; rfl, q2, fun w F μ => (rel_constCell hk).1, constCell_free _⟩
end
end Go.Proofs.YtlffjnddiiojnaaGreatDoor.Ev

/- Append. -/
namespace Go.Proofs.YtlffjnddiiojnaaGreatDoor.Ev
theorem Seq.src {P : Program} {z : Nat} {x : Value} {m : Nat} {news : List Value} {w : World} {tx : TypeId} (hk : (∃ e', P.underlying tx = some (.slice e')) ∨ P.underlying tx = some .string) (h : Seq P z x m news w) : Go.Src P z tx x m news w := by
  have e : news.take (m * z) = news := List.take_of_length_le (by rw [h.size]; exact Nat.le_refl _)
  exact ⟨hk, h.len, by have := h.cells w rfl m (Nat.le_refl _); rwa [e] at this, by have := h.cells w.drew rfl m (Nat.le_refl _); rwa [e] at this, h.size, h.one⟩
theorem zeroCells_size (z : Array Value) (n : Nat) : (Builtin.zeroCells z n).size = n * z.size := by simp [Builtin.zeroCells]
theorem isSeq_out {C : Cx} {t : TypeId} (h : isSeq C t = true) : (∃ e', C.P.underlying t = some (.slice e')) ∨ C.P.underlying t = some .string := by
  unfold isSeq at h
  cases hu : und C.P t with
  | none => rw [hu] at h; exact Bool.noConfusion h
  | some d =>
    rw [hu] at h
    cases d <;> first | exact Bool.noConfusion h | exact .inl ⟨_, (und_some hu).1⟩ | exact .inr (und_some hu).1
section
variable {V : Env} {μ : Mu} {F : Nat → Prop} {hp hp' : Hp} {w : World}
/-- A new row, of known cells. -/
theorem HRel.row (H : HRel V μ F hp w) {id : Nat} (hid : μ id = none) {z sz : Nat} {fl : Bool} {r : Row} {w' : World} {c : Array Value} {T : TypeId} {fz : Nat × Nat} (hw : w'.heap = w.heap.push (.cells c T fz)) (s : HSet hp id (.row true fl z sz r) hp') (hn : id < hp'.nx)
    (hfz : fz.1 = fz.2 ∨ c.size ≤ fz.1) (hc : ∀ i, i < sz → ∃ y, c[i]? = some y ∧ y.oneCell' = true ∧ CRel w F μ (cellAt z r i) y) (hfl : fl = true → ∀ i, i < sz → (cellAt z r i).isFree = true) (hio : SameIo w w' := by exact ⟨rfl, rfl⟩) :
    HRel V (upd μ id ⟨w.heap.size, 0, c.size⟩) F hp' w' ∧ Ext μ F hp w (upd μ id ⟨w.heap.size, 0, c.size⟩) F hp' w' := by
  have hold : ∀ B, B < w.heap.size → w'.heap[B]? = w.heap[B]? := fun B hB => by rw [hw, Array.getElem?_push, if_neg (by omega)]
  refine H.new hid hw s hn rfl ⟨_, c, T, fz, upd_self _ _ _, ?_, rfl, fun i hi => ?_, hfl, fun _ => ⟨hfz, fun hF => absurd (H.imm _ hF) (Nat.lt_irrefl _)⟩, fun e => Bool.noConfusion e⟩ hio
  · rw [hw]; simp
  · obtain ⟨y, h1, h2, h3⟩ := hc i hi
    exact ⟨y, by rw [Nat.zero_add]; exact h1, h2, h3.mono (fun B hB => hold B (H.imm B hB)) (fun _ h => h) (upd_le _ hid)⟩
theorem nextcap_le (need old : Nat) (h : old < need) (hn : need ≤ 1073741824) : Builtin.nextslicecap need old ≤ 4294967296 := by
  have g : ∀ r c, c ≤ 1073741824 * 2 → (∀ c', c' < need → c' + (c' + 768) / 4 ≤ 1073741824 * 2) → Builtin.growBy need r c ≤ 1073741824 * 2 := by
    intro r
    induction r with
    | zero => intro c hc _; exact hc
    | succ r ih =>
      intro c hc hs
      unfold Builtin.growBy
      split
      · exact hc
      · exact ih _ (hs c (by omega)) hs
  unfold Builtin.nextslicecap
  split
  · omega
  · split
    · omega
    · exact Nat.le_trans (g 4 old (by omega) fun c' hc' => by omega) (by omega)
/-- There is no room: a new row. -/
theorem append_grow (H : HRel V μ F hp w) {id : Nat} (hid : μ id = none) {t tx ty e : TypeId} (ht : und V.P t = some (.slice e)) (hk : (∃ e', V.P.underlying tx = some (.slice e')) ∨ V.P.underlying tx = some .string)
    {z : Nat} (hz : zeroOk V.P e z = true) (hsz : szOf V.P e = z) (hby : bytesOf V.P e ≤ 65536) {base : Option Addr} {n cap : Nat} {olds : List Value} (hold : (Builtin.firstCells z n (.slice base n cap)).run V.P w.drew = .ok olds.toArray w.drew) (holdl : olds.length = n * z)
    {x : Value} {m : Nat} {news : List Value} (hs : Seq V.P z x m news w) (hg : cap < n + m) (hq : n + m ≤ 1073741824) {fl : Bool} {r : Row} (s : HSet hp id (.row true fl z ((n + m) * z) r) hp') (hn : id < hp'.nx)
    (hc : ∀ i, i < (n + m) * z → ∃ y, (olds ++ news)[i]? = some y ∧ y.oneCell' = true ∧ CRel w F μ (cellAt z r i) y) (hfl : fl = true → ∀ i, i < (n + m) * z → (cellAt z r i).isFree = true) :
    Does V μ F hp w (Builtin.append_ #[t, tx] ty #[.slice base n cap, x]) hp' fun w F μ' v => CRel w F μ' (.ms id 0 (n + m) z) v ∧ InId id μ μ' := by
  obtain ⟨i, zv, h1, h2, h3, h4, _⟩ := zeroOk_out hz
  have hi : i.size = z := by rw [← hsz, szOf_info h1]
  have hb : i.bytes ≤ 65536 := by unfold bytesOf at hby; rw [h1] at hby; exact hby
  have hfit : Builtin.nextslicecap (n + m) cap * i.bytes ≤ 281474976710656 := by
    have := Nat.mul_le_mul (nextcap_le (n + m) cap hg hq) hb
    omega
  have hrun := run_append_grow_src w t tx ty e i zv (und_some ht).1 h2 h3 base n cap olds (by rw [hi]; exact hold) x m news (by rw [hi]; exact hs.src hk) hg (by omega) hfit
  have hge := grownCap_ge w (n + m) cap e
  have hlen : (olds ++ news).length = (n + m) * z := by rw [List.length_append, holdl, hs.size, Nat.add_mul]
  obtain ⟨hH, hE⟩ := H.row hid (w' := w.drew.alloc (.cells ((olds ++ news).toArray ++ Builtin.zeroCells zv.cells (grownCap w (n + m) cap e - (n + m))) e)) (fl := fl) (z := z) rfl s hn (.inl rfl) (fun i hi => by
      obtain ⟨y, q1, q2, q3⟩ := hc i hi
      refine ⟨y, ?_, q2, q3⟩
      rw [Array.getElem?_append, if_pos (by rw [List.size_toArray, hlen]; exact hi), List.getElem?_toArray]; exact q1) hfl
  refine ⟨_, _, _, _, hrun, ?_, hH, hE⟩
  have := CRel.ms (w := w.drew.alloc (.cells ((olds ++ news).toArray ++ Builtin.zeroCells zv.cells (grownCap w (n + m) cap e - (n + m))) e)) (F := F) (μ := upd μ id ⟨w.heap.size, 0, ((olds ++ news).toArray ++ Builtin.zeroCells zv.cells (grownCap w (n + m) cap e - (n + m))).size⟩) (b := id) (o := 0) (z := z) (upd_self _ _ _) hge (by
    show 0 + 0 + grownCap w (n + m) cap e * z ≤ ((olds ++ news).toArray ++ Builtin.zeroCells zv.cells (grownCap w (n + m) cap e - (n + m))).size
    rw [Array.size_append, List.size_toArray, hlen, zeroCells_size, h4, ← Nat.add_mul]
    have : n + m + (grownCap w (n + m) cap e - (n + m)) = grownCap w (n + m) cap e := by omega
    rw [this]; omega)
  exact ⟨this, InId.upd _ _ _⟩
/-- There is room: the old block's place under a new number. -/
theorem append_room (H : HRel V μ F hp w) {id c : Nat} (hid : μ id = none) {t tx ty e : TypeId} (ht : und V.P t = some (.slice e)) (hk : (∃ e', V.P.underlying tx = some (.slice e')) ∨ V.P.underlying tx = some .string)
    {z : Nat} (hz : zeroOk V.P e z = true) (hsz : szOf V.P e = z) {fl0 : Bool} {sz : Nat} {t0 : Row} (hB : hp.at c = .row true fl0 z sz t0) (hpr : c ∉ hp.pr) {mp : Mp} (hm : μ c = some mp) {o n cap : Nat} (ho : o + n * z ≤ sz) (hcs : mp.base + o + cap * z ≤ mp.size)
    {x : Value} {m : Nat} {news : List Value} (hs : Seq V.P z x m news w) (hroom : n + m ≤ cap) {fl : Bool} {r : Row} {h1 : Hp} (s1 : HSet hp c .dead h1) (s : HSet h1 id (.row true fl z ((n + m) * z) r) hp') (hn : id < hp'.nx)
    (hold : ∀ i, i < n * z → cellAt z r i = cellAt z t0 (o + i)) (hnew : ∀ i, i < m * z → ∃ y, news[i]? = some y ∧ CRel w F μ (cellAt z r (n * z + i)) y) (hfl : fl = true → ∀ i, i < (n + m) * z → (cellAt z r i).isFree = true) :
    Does V μ F hp w (Builtin.append_ #[t, tx] ty #[.slice (some ⟨mp.blk, mp.base + o, none⟩) n cap, x]) hp' fun w F μ' v => CRel w F μ' (.ms id 0 (n + m) z) v ∧ InId id μ μ' := by
  obtain ⟨i, zv, h1', h2, h3, h4, _⟩ := zeroOk_out hz
  have hi : i.size = z := by rw [← hsz, szOf_info h1']
  have hb := H.blk c
  rw [hB] at hb
  obtain ⟨m', ca, T, fz, q1, q2, q3, q4, q5, q6, _⟩ := hb
  rw [hm] at q1; cases q1
  obtain ⟨q6a, q6b⟩ := q6 rfl
  have hmz : (n + m) * z = n * z + m * z := Nat.add_mul _ _ _
  have hle : (n + m) * z ≤ cap * z := Nat.mul_le_mul_right z hroom
  have hlen : news.length = m * z := hs.size
  obtain ⟨c', h7, h8, h9⟩ := setCells_at news (mp.base + o + n * z) w ca T fz q2
  have hrun := run_append_room_src w t tx ty e i (und_some ht).1 h2 mp.blk (mp.base + o) n cap x m news (by rw [hi]; exact hs.src hk) hroom (fun j hj => by
      rw [hi, cell_of q2, Array.getElem?_eq_getElem (by omega)]; rfl) (fun j hj => by
      rw [hi]
      simp only [World.frozen?, q2, Bool.and_eq_false_iff, decide_eq_false_iff_not]
      omega)
  rw [hi] at hrun
  have hne : id ≠ c := fun e => by rw [e, hm] at hid; cases hid
  have hwr : (hp.at c).wr := by rw [hB]; exact rfl
  have hF : ∀ X, F X → (w.setCells mp.blk (mp.base + o + n * z) news).heap[X]? = w.heap[X]? := fun X hX => setCells_ne (B := mp.blk) (X := X) (fun e => q6b (by rw [← e]; exact hX)) _ _ _
  obtain ⟨hH, hE⟩ := H.move (m' := ⟨mp.blk, mp.base + o, mp.size⟩) hwr hpr hm hid s1 s hn hne (setCells_size news (mp.base + o + n * z) w) (fun X hX => setCells_ne hX news _ w) rfl (by
    refine ⟨_, c', T, fz, upd_self _ _ _, h7, h8.trans q3, fun j hj => ?_, hfl, fun _ => ⟨by rw [h8]; exact q6a, q6b⟩, fun e => Bool.noConfusion e⟩
    show ∃ u, c'[mp.base + o + j]? = some u ∧ _
    rw [h9]
    by_cases e : j < n * z
    · obtain ⟨u, hu, hu1, hu2⟩ := q4 (o + j) (by omega)
      rw [if_neg (by omega)]
      refine ⟨u, by rw [Nat.add_assoc]; exact hu, hu1, ?_⟩
      rw [hold j e]; exact hu2.mono hF (fun _ h => h) (upd_le _ hid)
    · obtain ⟨y, hy, hc⟩ := hnew (j - n * z) (by omega)
      rw [if_pos ⟨by omega, by omega, by omega⟩, show mp.base + o + j - (mp.base + o + n * z) = j - n * z by omega]
      refine ⟨y, hy, hs.one y (List.mem_of_getElem? hy), ?_⟩
      rw [show n * z + (j - n * z) = j by omega] at hc
      exact hc.mono hF (fun _ h => h) (upd_le _ hid)) (hio := setCells_io _ _ _)
  refine ⟨_, _, _, _, hrun, ?_, hH, hE⟩
  exact ⟨CRel.ms (μ := upd μ id ⟨mp.blk, mp.base + o, mp.size⟩) (b := id) (o := 0) (z := z) (upd_self _ _ _) hroom (by show mp.base + o + 0 + cap * z ≤ mp.size; omega), InId.upd _ _ _⟩
theorem Does.after {h1 : Hp} {α : Type} {s : Sem α} {Q : World → (Nat → Prop) → Mu → α → Prop} (E : Ext μ F hp w μ F h1 w) (h : Does V μ F h1 w s hp' Q) : Does V μ F hp w s hp' Q := by
  obtain ⟨μ', F', w', x, h1, h2, h3, h4⟩ := h
  exact ⟨μ', F', w', x, h1, h2, h3, E.trans h4⟩
end
end Go.Proofs.YtlffjnddiiojnaaGreatDoor.Ev

/- Append, whole. -/
namespace Go.Proofs.YtlffjnddiiojnaaGreatDoor.Ev
theorem first_none {P : Program} (w : World) (z c : Nat) (a : Option Addr) : (Builtin.firstCells z 0 (.slice a 0 c)).run P w = .ok ([] : List Value).toArray w := by
  cases a with
  | none => exact run_firstCells_none w z 0 0 c
  | some a => exact run_firstCells_some w z 0 a 0 c [] (by simp) (fun _ _ h => by cases h)
section
variable {V : Env} {M : Mem} (ok : MemOk M) {R : Res} (hR : R ≠ .fail)
include ok hR
/-- What is appended, as the new cells of a row. -/
theorem append_new {z : Nat} (hz : 0 < z) {n m p : Nat} {u r t : Row} (h : ∀ j, r.at j = if n ≤ j ∧ j < n + m then u.at (p + (j - n)) else t.at j) :
    (∀ i, i < m * z → cellAt z r (n * z + i) = cellAt z u (p * z + i)) ∧ ∀ i, i < n * z → cellAt z r i = cellAt z t i := have _ := ok; have _ := hR; 
  ⟨(cells_cp hz h).1, fun i hi => (cells_cp hz h).2 i (by omega)⟩
theorem appendK_out {N : NK} {hp : Hp} {id : Nat} (hN : NSpec N hp id) {t tx ty e : TypeId} (ht : und V.P t = some (.slice e)) (hk : (∃ e', V.P.underlying tx = some (.slice e')) ∨ V.P.underlying tx = some .string)
    {z : Nat} (hzk : zeroOk V.P e z = true) (hz : 0 < z) (hsz : szOf V.P e = z) (hby : bytesOf V.P e ≤ 65536) {a b : AV} {k : AV → Hp → Res} (g : appendK M N z a b hp k = R) :
    ∃ v hp', k v hp' = R ∧ ∀ {w : World} {F : Nat → Prop} {μ : Mu} {u x : Value}, CRel w F μ a u → CRel w F μ b x → HRel V μ F hp w → μ id = none → Does V μ F hp w (Builtin.append_ #[t, tx] ty #[u, x]) hp' fun w F μ' r => CRel w F μ' v r ∧ InId id μ μ' := by
  obtain ⟨i, zv, h1', h2, h3, h4, _⟩ := zeroOk_out hzk
  have hi : i.size = z := by rw [← hsz, szOf_info h1']
  obtain ⟨u, p, m, f, g, hseq⟩ := seqK_out (V := V) ok hR hz g
  -- nothing is appended
  have none : m = 0 → k a hp = R → (∀ {w : World} {F : Nat → Prop} {μ : Mu} {v : Value}, CRel w F μ a v → ∃ base n c, v = .slice base n c ∧ n ≤ c) → ∃ v hp', k v hp' = R ∧ ∀ {w : World} {F : Nat → Prop} {μ : Mu} {u x : Value}, CRel w F μ a u → CRel w F μ b x → HRel V μ F hp w → μ id = none → Does V μ F hp w (Builtin.append_ #[t, tx] ty #[u, x]) hp' fun w F μ' r => CRel w F μ' v r ∧ InId id μ μ' := by
    intro hm g hsl
    refine ⟨a, hp, g, fun {w F μ v x} ha hb H _ => ?_⟩
    obtain ⟨base, n, c, rfl, hle⟩ := hsl ha
    obtain ⟨news, hs, _⟩ := hseq hb (H.read _)
    subst hm
    have hnil : news = [] := List.length_eq_zero_iff.1 (by rw [hs.size, Nat.zero_mul])
    subst hnil
    exact Does.stay H (run_append_nothing w t tx ty e i (und_some ht).1 h2 base n c hle x (by rw [hi]; exact hs.src hk)) ⟨ha, InId.refl _ _⟩
  rcases onSlice_out hR g with ⟨c, o, n, y, rfl, g⟩ | ⟨tt, o, n, y, rfl, g⟩ | ⟨i', tt, a', b', c, rfl, g⟩ | ⟨s, n, rfl, g⟩
  · obtain ⟨hy, g2⟩ := must_out hR g
    rw [beqN] at hy; subst hy
    rcases when_out hR g2 with ⟨hm, g3⟩ | ⟨hm, g3⟩
    · rw [beqN] at hm
      refine none hm g3 fun {w F μ v} ha => ?_
      cases ha with
      | ms _ hc _ => exact ⟨_, _, _, rfl, hc⟩
      | ms0 => exact ⟨_, _, _, rfl, Nat.le_refl _⟩
    · obtain ⟨fl, x', s, t0, hB, hs, hpr, g4⟩ := hown_out ok hR g3
      obtain ⟨hx, g5⟩ := must_out hR g4
      rw [beqN] at hx; subst hx
      obtain ⟨ho, g6⟩ := must_out hR g5
      rw [beqN] at ho
      have ho : o % x' = 0 := ho
      have hs : o + n * x' ≤ s := hs
      have hoz : Nat.div o x' * x' = o := Nat.div_mul_cancel (Nat.dvd_of_mod_eq_zero ho)
      have hm0 : ¬ m = 0 := fun e => by rw [← beqN] at e; rw [e] at hm; cases hm
      -- both ways to the row to which is appended
      have on : ∀ {t1 : Row}, (∀ i, i < n * x' → cellAt x' t1 i = cellAt x' t0 (o + i)) → appendOn M N x' c n fl t1 u p m f hp k = R → ∃ v hp', k v hp' = R ∧ ∀ {w : World} {F : Nat → Prop} {μ : Mu} {u x : Value}, CRel w F μ (.ms c o n x') u → CRel w F μ b x → HRel V μ F hp w → μ id = Option.none → Does V μ F hp w (Builtin.append_ #[t, tx] ty #[u, x]) hp' fun w F μ' r => CRel w F μ' v r ∧ InId id μ μ' := by
        intro t1 ht1 g
        obtain ⟨r, hr, g⟩ := cp_out ok hR _ g
        obtain ⟨h1, s1, hnx, g⟩ := hput_out ok hR g
        rw [forceN_eq] at g
        obtain ⟨hq, g⟩ := must_out hR g
        rw [forceN_eq] at g
        rw [bleN] at hq
        obtain ⟨h2', g, s2, hid'⟩ := hN hR hnx s1.rb g
        obtain ⟨hr1, hr2⟩ := append_new ok hR hz hr
        have hr3 : ∀ i, i < n * x' → cellAt x' r i = cellAt x' t0 (o + i) := fun i hi => (hr2 i hi).trans (ht1 i hi)
        have hmz : (n + m) * x' = n * x' + m * x' := Nat.add_mul _ _ _
        refine ⟨_, _, g, fun {w F μ v x} ha hb H hid => ?_⟩
        obtain ⟨news, hsq, hnew, hfree⟩ := hseq hb (H.read _)
        have hnews : ∀ i, i < m * x' → ∃ y, news[i]? = some y ∧ CRel w F μ (cellAt x' r (n * x' + i)) y := fun i hi => by rw [hr1 i hi]; exact hnew i hi
        have hfl : and2 fl f = true → ∀ i, i < (n + m) * x' → (cellAt x' r i).isFree = true := fun e i hi => by
          rw [and2_eq] at e
          by_cases e2 : i < n * x'
          · rw [hr3 i e2]; exact (ofRow H hB).2 e.1 _ (by omega)
          · have := hr1 (i - n * x') (by omega)
            rw [show n * x' + (i - n * x') = i by omega] at this
            rw [this]; exact hfree e.2 _ (by omega)
        obtain ⟨hK, hKE⟩ := H.kill s1
        have grow : ∀ {base : Option Addr} {cap : Nat} {us : Nat → Value}, (∀ i, i < n * x' → (us i).oneCell' = true ∧ CRel w F μ (cellAt x' t0 (o + i)) (us i)) → (Builtin.firstCells x' n (.slice base n cap)).run V.P w.drew = .ok (seqL us (n * x')).toArray w.drew → cap < n + m →
            Does V μ F hp w (Builtin.append_ #[t, tx] ty #[.slice base n cap, x]) h2' fun w F μ' r => CRel w F μ' (.ms id 0 (n + m) x') r ∧ InId id μ μ' := fun {base cap us} hus hold hg => by
          refine Does.after hKE (append_grow hK hid ht hk hzk hsz hby hold (seqL_len _ _) hsq hg hq s2 hid' (fun i hi => ?_) hfl)
          by_cases e2 : i < n * x'
          · refine ⟨us i, ?_, (hus i e2).1, ?_⟩
            · rw [List.getElem?_append_left (by rw [seqL_len]; exact e2), seqL_get us _ i e2]
            · rw [hr3 i e2]; exact (hus i e2).2
          · obtain ⟨y, hy, hc⟩ := hnews (i - n * x') (by omega)
            rw [show n * x' + (i - n * x') = i by omega] at hc
            refine ⟨y, ?_, hsq.one y (List.mem_of_getElem? hy), hc⟩
            rw [List.getElem?_append_right (by rw [seqL_len]; omega), seqL_len]; exact hy
        cases ha with
        | ms0 =>
          exact grow (us := fun _ => .bool true) (fun i hi => absurd hi (by omega)) (by rw [Nat.zero_mul]; exact first_none _ _ _ _) (by omega)
        | ms hm hc hcs =>
          rename_i cap mp
          by_cases hroom : n + m ≤ cap
          · exact append_room H hid ht hk hzk hsz hB hpr hm hs hcs hsq hroom s1 s2 hid' hr3 hnews hfl
          · have hb' := (H.blk c)
            rw [hB] at hb'
            obtain ⟨us, hus⟩ := pick_fn (fun i (hi : i < n * x') => hb'.cells hm (o + i) (by omega))
            refine grow (us := us) (fun i hi => (hus i hi).2) ?_ (by omega)
            exact run_firstCells_some w.drew x' n _ n cap _ (seqL_len _ _) fun j v hj => by
              obtain ⟨hj1, rfl⟩ := seqL_some hj
              have := (hus j hj1).1
              rw [Addr.add_mid, Nat.add_assoc]; exact (cell_heap (w' := w.drew) (w := w) rfl _).trans this
      rcases when_out hR g6 with ⟨ho0, g7⟩ | ⟨_, g7⟩
      · rw [beqN] at ho0
        exact on (fun i _ => by rw [ho0, Nat.zero_add]) g7
      · obtain ⟨r, hr, g8⟩ := cp_out ok hR _ g7
        refine on (fun i hi => ?_) g8
        have := (cells_cp hz hr).1 i hi
        rw [Nat.zero_mul, Nat.zero_add] at this
        rw [this]
        exact congrArg (fun q => cellAt x' t0 (q + i)) hoz
  · obtain ⟨hm, g⟩ := must_out hR g
    rw [beqN] at hm
    refine none hm g fun {w F μ v} ha => ?_
    cases ha with
    | vs _ _ hc _ _ _ => exact ⟨_, _, _, rfl, hc⟩
    | vs0 => exact ⟨_, _, _, rfl, Nat.zero_le _⟩
  · obtain ⟨hg, g⟩ := must_out hR g
    rw [Bool.or_eq_true, beqN, beqN] at hg
    have hsl : ∀ {w : World} {F : Nat → Prop} {μ : Mu} {v : Value}, CRel w F μ (.x i' tt a' b' c) v → ∃ base, v = .slice base 0 0 := fun ha => by
      rcases hg with rfl | rfl <;> cases ha <;> exact ⟨_, rfl⟩
    rcases when_out hR g with ⟨hm, g⟩ | ⟨hm, g⟩
    · rw [beqN] at hm
      exact none hm g fun ha => let ⟨b, hb⟩ := hsl ha; ⟨b, 0, 0, hb, Nat.le_refl _⟩
    · have hm0 : ¬ m = 0 := fun e => by rw [← beqN] at e; rw [e] at hm; cases hm
      obtain ⟨hq, g⟩ := must_out hR g
      rw [bleN] at hq
      rw [forceN_eq] at g
      have on : ∀ {r : Row}, (∀ i, i < m * z → cellAt z r i = cellAt z u (p * z + i)) → N.f hp (.row true f z (Nat.mul m z) r) (fun id hp => k (.ms id 0 m z) hp) = R → ∃ v hp', k v hp' = R ∧ ∀ {w : World} {F : Nat → Prop} {μ : Mu} {u x : Value}, CRel w F μ (.x i' tt a' b' c) u → CRel w F μ b x → HRel V μ F hp w → μ id = Option.none → Does V μ F hp w (Builtin.append_ #[t, tx] ty #[u, x]) hp' fun w F μ' r => CRel w F μ' v r ∧ InId id μ μ' := by
        intro r hr g
        obtain ⟨h2', g, s2, hid'⟩ := hN hR rfl rfl g
        refine ⟨_, _, g, fun {w F μ v x} ha hb H hid => ?_⟩
        obtain ⟨news, hsq, hnew, hfree⟩ := hseq hb (H.read _)
        obtain ⟨base, rfl⟩ := hsl ha
        have e0 : (0 + m) * z = m * z := by rw [Nat.zero_add]
        have := append_grow (n := 0) (cap := 0) (olds := []) (fl := f) (r := r) (hp' := h2') (id := id) (ty := ty) H hid ht hk hzk hsz hby (first_none _ _ _ base) (by rw [Nat.zero_mul]; rfl) hsq (by omega) (by omega) (by rw [e0]; exact s2) hid' (fun i hi => by
          rw [e0] at hi
          obtain ⟨y, hy, hc⟩ := hnew i hi
          exact ⟨y, by rw [List.nil_append]; exact hy, hsq.one y (List.mem_of_getElem? hy), by rw [hr i hi]; exact hc⟩) (fun e i hi => by rw [e0] at hi; rw [hr i hi]; exact hfree e i hi)
        rw [Nat.zero_add] at this
        exact this
      rcases when_out hR g with ⟨hp0, g⟩ | ⟨_, g⟩
      · rw [beqN] at hp0
        exact on (fun i _ => by rw [hp0, Nat.zero_mul, Nat.zero_add]) g
      · obtain ⟨r, hr, g⟩ := cp_out ok hR _ g
        refine on (fun i hi => ?_) g
        have := (cells_cp hz hr).1 i hi
        rw [Nat.zero_mul, Nat.zero_add] at this
        exact this
  · exact fail_out hR g
end
end Go.Proofs.YtlffjnddiiojnaaGreatDoor.Ev

/- What makes memory. -/
namespace Go.Proofs.YtlffjnddiiojnaaGreatDoor.Ev
/-- An operation that makes one block, whatever else the heap holds. -/
structure New (V : Env) {α : Type} (Q : World → (Nat → Prop) → Mu → α → Prop) (s : α → Sem Value) (id : Nat) (B : Blk) (v : AV) : Prop where
  out : ∀ {w : World} {F : Nat → Prop} {μ : Mu} {u : α} {h h' : Hp}, Q w F μ u → μ id = none → HRel V μ F h w → HSet h id B h' → id < h'.nx → Does V μ F h w (s u) h' fun w F μ' r => CRel w F μ' v r ∧ InId id μ μ'
section
variable {V : Env} {M : Mem} (ok : MemOk M) {R : Res} (hR : R ≠ .fail)
theorem at_one (v : AV) : (Tr.nd v .lf .lf : Row).at 0 = v := rfl
theorem new_row {id : Nat} {z sz : Nat} {fl : Bool} {r : Row} {α : Type} {Q : World → (Nat → Prop) → Mu → α → Prop} {s : α → Sem Value} {v : AV}
    (hfl : fl = true → ∀ i, i < sz → (cellAt z r i).isFree = true)
    (H : ∀ {w : World} {F : Nat → Prop} {μ : Mu} {u : α}, Q w F μ u → ∃ x w' c T fz, (s u).run V.P w = .ok x w' ∧ (w'.heap = w.heap.push (.cells c T fz) ∧ SameIo w w') ∧ (fz.1 = fz.2 ∨ c.size ≤ fz.1) ∧
      (∀ i, i < sz → ∃ y, c[i]? = some y ∧ y.oneCell' = true ∧ CRel w F μ (cellAt z r i) y) ∧ ∀ {μ' : Mu}, μ' id = some ⟨w.heap.size, 0, c.size⟩ → CRel w' F μ' v x) : New V Q s id (.row true fl z sz r) v := by
  refine ⟨fun {w F μ u h h'} hq hid hH hs hn => ?_⟩
  obtain ⟨x, w', c, T, fz, h1, h2, h3, h4, h5⟩ := H hq
  obtain ⟨hH', hE⟩ := hH.row hid h2.1 hs hn h3 h4 hfl h2.2
  exact ⟨_, _, w', x, h1, ⟨h5 (upd_self _ _ _), InId.upd _ _ _⟩, hH', hE⟩
theorem run_newVar {P : Program} (t : TypeId) (u : Value) (w : World) : (Instr.box t u).run P w = .ok (.pointer (some ⟨w.heap.size, 0, none⟩)) (w.alloc (.cells u.cells t)) := by
  simp [Instr.box, newVar, newRow]
theorem cellAt_one {z : Nat} {l : Row} {n i : Nat} (hi : i < z) (hz : ¬ z = 1) : cellAt z (.nd (.agg l n) .lf .lf) i = nth l i := by
  rw [cellAt, if_neg hz, Nat.div_eq_of_lt hi, Nat.mod_eq_of_lt hi]; rfl
include ok hR
theorem boxK_out {N : NK} {hp : Hp} {id : Nat} (hN : NSpec N hp id) {t : TypeId} {v : AV} {z sz : Nat} {k : AV → Hp → Res} (g : boxK M N v z sz hp k = R) :
    ∃ B hp', k (.ptr id 0) hp' = R ∧ HSet hp id B hp' ∧ id < hp'.nx ∧ New V (fun w F μ u => CRel w F μ v u) (Instr.box t) id B (.ptr id 0) := by
  have fin : ∀ {zz : Nat} {p : Bool} {r : Row}, Fits v sz → (∀ i, i < sz → cellAt zz r i = cv v i) → (p = true → ∀ i, i < sz → (cv v i).isFree = true) → N.f hp (.row true p zz sz r) (fun id hp => k (.ptr id 0) hp) = R →
      ∃ B hp', k (.ptr id 0) hp' = R ∧ HSet hp id B hp' ∧ id < hp'.nx ∧ New V (fun w F μ u => CRel w F μ v u) (Instr.box t) id B (.ptr id 0) := by
    intro zz p r hf hc hp0 g
    obtain ⟨h', g, hs, hn⟩ := hN hR rfl rfl g
    refine ⟨_, h', g, hs, hn, new_row (fun e i hi => by rw [hc i hi]; exact hp0 e i hi) fun {w F μ u} hu => ?_⟩
    obtain ⟨hc1, hc2⟩ := cells_rel hf hu
    refine ⟨_, _, u.cells, t, (0, 0), run_newVar t u w, ⟨rfl, rfl, rfl⟩, .inl rfl, fun i hi => ?_, fun {μ'} hm => ?_⟩
    · obtain ⟨y, h1, h2, h3⟩ := hc2 i hi
      exact ⟨y, h1, h2, by rw [hc i hi]; exact h3⟩
    · exact CRel.ptr hm
  rcases when_out hR g with ⟨hs, g⟩ | ⟨hs, g⟩
  · rw [beqN] at hs
    subst hs
    obtain ⟨c, p, hf, hcv, hpl, g2⟩ := cell1_out ok hR (by assumption)
    subst hcv
    refine fin hf (fun i hi => ?_) (fun e i hi => ?_) g2
    · have : i = 0 := by omega
      subst this; rfl
    · have : i = 0 := by omega
      subst this; exact isFree_of_plain (hpl e)
  · have hs1 : ¬ sz = 1 := fun e => by rw [← beqN, hs] at e; exact Bool.noConfusion e
    obtain ⟨l, n, rfl, g⟩ := onAgg_out hR g
    obtain ⟨hn, g⟩ := must_out hR g
    rw [beqN] at hn
    subst hn
    obtain ⟨p, hpl, g⟩ := lplain_out g
    have hfree : p = true → ∀ i, i < n → (cv (.agg l n) i).isFree = true := fun e i hi => by
      show (nth l i).isFree = true
      by_cases hl : i < len l
      · exact isFree_of_plain (hpl e i hl)
      · rw [nth_ge (by omega)]; rfl
    rcases when_out hR g with ⟨hz, g⟩ | ⟨hz, g⟩
    · exact fin (.agg l n) (fun i hi => cellAt_one hi hs1) hfree g
    · rcases when_out hR g with ⟨hz1, g⟩ | ⟨hz1, g⟩
      · obtain ⟨r, hr, g⟩ := putC_out ok hR _ g
        refine fin (.agg l n) (fun i hi => ?_) hfree g
        rw [hr, if_pos (by omega)]; rfl
      · obtain ⟨h2, g⟩ := must_out hR g
        obtain ⟨hd, g⟩ := must_out hR g
        rw [bleN] at h2
        rw [beqN] at hd
        have hd : n / z * z = n := hd
        obtain ⟨r, hr, g⟩ := putE_out ok hR _ g
        refine fin (.agg l n) (fun i hi => ?_) hfree g
        have hlt : i / z < n / z := (Nat.div_lt_iff_lt_mul (by omega)).2 (by omega)
        obtain ⟨a, ha, hb⟩ := (hr (i / z)).1 ⟨Nat.zero_le _, by rw [Nat.zero_add]; exact hlt⟩
        have hz1 : ¬ z = 1 := by omega
        rw [cellAt, if_neg hz1, ha]
        show nth a (i % z) = nth l i
        rw [hb _ (Nat.mod_lt _ (by omega)), Nat.sub_zero, Nat.div_add_mod' i z]
omit ok hR in
theorem run_alloc {P : Program} {t : TypeId} {i : TypeInfo} {v : Value} (h : P.info? t = some i) (hz : i.zero = some v) (w : World) : (Instr.alloc t true (.tuple #[])).run P w = (Instr.box t v).run P w := by
  simp [Instr.alloc, Instr.box, zeroValue, typeInfo, h, hz]
/-- A variable of the zero value. -/
theorem allocK_out {N : NK} {hp : Hp} {id : Nat} (hN : NSpec N hp id) {t : TypeId} {z sz : Nat} {k : AV → Hp → Res} (hk : isKnown (zeroAV V.P t) = true) (g : boxK M N (zeroAV V.P t) z sz hp k = R) :
    ∃ B hp', k (.ptr id 0) hp' = R ∧ HSet hp id B hp' ∧ id < hp'.nx ∧ New V (fun _ _ _ (_ : Unit) => True) (fun _ => Instr.alloc t true (.tuple #[])) id B (.ptr id 0) := by
  obtain ⟨i, v, h1, h2, h3, h4⟩ := zero_known hk
  obtain ⟨B, hp', g, hs, hn, H⟩ := boxK_out (V := V) (t := t) ok hR hN g
  refine ⟨B, hp', g, hs, hn, ⟨fun {w F μ u h h'} _ hid hH hs hn => ?_⟩⟩
  have := H.out (w := w) (F := F) (μ := μ) (u := v) (h := h) (h' := h') (by rw [h4]; exact rel_constAV v) hid hH hs hn
  unfold Does at *
  rw [run_alloc h2 h3]; exact this
theorem mapK_out {N : NK} {hp : Hp} {id : Nat} (hN : NSpec N hp id) {t : TypeId} {k : AV → Hp → Res} (g : N.f hp (.map 0 .lf) (fun id hp => k (.x 4 .lf id 0 0) hp) = R) :
    ∃ B hp', k (.x 4 .lf id 0 0) hp' = R ∧ HSet hp id B hp' ∧ id < hp'.nx ∧ New V (fun _ _ _ (_ : Unit) => True) (fun _ => Instr.makeMap t none) id B (.x 4 .lf id 0 0) := by
  have _ := ok
  obtain ⟨h', g, hs, hn⟩ := hN hR rfl rfl g
  refine ⟨_, h', g, hs, hn, ⟨fun {w F μ u h h'} _ hid hH hs hn => ?_⟩⟩
  obtain ⟨hH', hE⟩ := hH.new (w' := w.alloc (.map #[] 0)) (m := ⟨w.heap.size, 0, 0⟩) hid rfl hs hn rfl ⟨_, #[], 0, upd_self _ _ _, by show (w.heap.push _)[w.heap.size]? = _; simp, fun hF => absurd (hH.imm _ hF) (Nat.lt_irrefl _), rfl, fun i hi => absurd hi (Nat.not_lt_zero _)⟩
  exact ⟨_, _, _, _, by simp [Instr.makeMap], ⟨CRel.map (upd_self μ id ⟨w.heap.size, 0, 0⟩), InId.upd _ _ _⟩, hH', hE⟩
end
end Go.Proofs.YtlffjnddiiojnaaGreatDoor.Ev

/- Slices that are made; bytes and strings. -/
namespace Go.Proofs.YtlffjnddiiojnaaGreatDoor.Ev
section
variable {V : Env} {M : Mem} (ok : MemOk M) {R : Res} (hR : R ≠ .fail)
theorem idx_int {w : World} {F : Nat → Prop} {μ : Mu} {i m : Nat} {u : Value} (hn : 4 ≤ i ∨ m < hf i) (h : CRel w F μ (.int i m) u) : u = .int (kd i) (m : Int) := by
  obtain ⟨hm, rfl⟩ := inv_int h
  rw [T_nonneg i m hm hn]
include hR in
theorem bndK_out {v : AV} {n : Nat} {k : Nat → Res} (g : bndK v n k = R) : ∃ i m, v = .int i m ∧ m ≤ n ∧ (4 ≤ i ∨ m < hf i) ∧ k m = R := by
  obtain ⟨i, m, rfl, g⟩ := onInt_out hR g
  obtain ⟨hm, g⟩ := must_out hR g
  obtain ⟨hn, g⟩ := nonneg_out hR g
  rw [bleN] at hm
  exact ⟨i, m, rfl, hm, hn, g⟩
include hR in
theorem idxK_out {v : AV} {n : Nat} {k : Nat → Res} (g : idxK v n k = R) : ∃ i m, v = .int i m ∧ m < n ∧ (4 ≤ i ∨ m < hf i) ∧ k m = R := by
  obtain ⟨i, m, rfl, g⟩ := onInt_out hR g
  obtain ⟨hm, g⟩ := must_out hR g
  obtain ⟨hn, g⟩ := nonneg_out hR g
  rw [bleN] at hm
  exact ⟨i, m, rfl, hm, hn, g⟩
theorem wrap_i64 (n : Nat) (h : n < 9223372036854775808) : IntKind.i64.wrap (n : Int) = n := by
  have := T_nonneg 3 n (by show n < 18446744073709551616; omega) (.inr h)
  exact this
theorem run_makeSlice {P : Program} {t e : TypeId} {i : TypeInfo} {zv : Value} (ht : und P t = some (.slice e)) (hi : P.info? e = some i) (hz : i.zero = some zv) (hb : i.bytes ≤ 65536) (h1 : 1 ≤ i.size) {n m : Nat} (hnm : n ≤ m) (hm : m ≤ 1073741824) (k1 k2 : IntKind) (w : World) :
    (Instr.makeSlice t (.int k1 (n : Int)) (.int k2 (m : Int))).run P w = .ok (.slice (some ⟨w.heap.size, 0, none⟩) n m) (w.alloc (.cells ((Array.range (m * i.size)).map (zv.cells[· % zv.cells.size]!)) e)) := by
  have hw1 : IntKind.i64.wrap (n : Int) = n := wrap_i64 n (by omega)
  have hw2 : IntKind.i64.wrap (m : Int) = m := wrap_i64 m (by omega)
  have hmul : i.bytes * m ≤ 65536 * 1073741824 := Nat.mul_le_mul hb hm
  have c1 : ¬ ((i.bytes : Int) * (m : Int) > 281474976710656) := by
    have : ((i.bytes * m : Nat) : Int) = (i.bytes : Int) * (m : Int) := by push_cast; rfl
    omega
  have c2 : ¬ (281474976710656 < (i.bytes : Int) * (m : Int)) := c1
  have c3 : ¬ ((m : Int) < (n : Int)) := by omega
  have c4 : ¬ (m * i.bytes > roomBytes) := by
    have : roomBytes = 140737488355328 := by decide
    rw [this, Nat.mul_comm]; omega
  have hn0 : ¬ ((n : Int) < 0) := by omega
  have hm0 : ¬ ((m : Int) < 0) := by omega
  by_cases h0 : m = 0
  · subst h0
    have : n = 0 := by omega
    subst this
    have hw0 : IntKind.i64.wrap 0 = 0 := by decide
    simp [Instr.makeSlice, run_underlying (und_some ht).1, asInt, asIntOf, typeInfo, hi, sizeOf, askRoom, newRow, hw0]
    have e0 : ∀ f : Nat → Value, Array.map f (Array.range 0) = #[] := fun f => by apply Array.ext <;> simp
    rw [e0, e0]
  · have h0' : ¬ (m = 0 ∨ i.size = 0) := by omega
    simp [Instr.makeSlice, run_underlying (und_some ht).1, asInt, asIntOf, typeInfo, hi, hz, sizeOf, zeroValue, askRoom, newRow, hw1, hw2, c2, c3, hn0, hm0]
    intro h
    exact absurd h (Nat.ne_of_gt (Nat.mul_pos (by omega) (by omega)))
theorem cellAt_full {z n : Nat} (hz : 0 < z) {v : AV} {i : Nat} (hi : i < n * z) : cellAt z (Tr.full v (depth n)) i = if z = 1 then v else elc v (i % z) := by
  have hd : i / z < n := (Nat.div_lt_iff_lt_mul hz).2 hi
  have hdep := depth_ok n
  by_cases h1 : z = 1
  · subst h1; rw [cellAt, if_pos rfl, if_pos rfl, full_at v _ _ (by rw [Nat.div_one] at hd; omega)]
  · rw [cellAt, if_neg h1, if_neg h1, full_at v _ _ (by generalize i / z = d at hd; omega)]
include hR in
theorem makeK_out {N : NK} {hp : Hp} {id : Nat} (hN : NSpec N hp id) {t e : TypeId} (ht : und V.P t = some (.slice e)) {z : Nat} (hsz : szOf V.P e = z) (h1 : 1 ≤ z) (hz : zeroOk V.P e z = true) (hb : bytesOf V.P e ≤ 65536) {a b : AV} {k : AV → Hp → Res}
    (g : (bndK b 1073741824 fun m => bndK a m fun n => forceN (Nat.mul n z) fun s => N.f hp (.row true true z s (Tr.full (zeroEl V.P e) (depth n))) fun id hp => k (.ms id 0 n z) hp) = R) :
    ∃ B v hp', k v hp' = R ∧ HSet hp id B hp' ∧ id < hp'.nx ∧ New V (fun w F μ (u : Value × Value) => CRel w F μ a u.1 ∧ CRel w F μ b u.2) (fun u => Instr.makeSlice t u.1 u.2) id B v := by
  obtain ⟨j, m, rfl, hm, hmn, g⟩ := bndK_out hR g
  obtain ⟨j', n, rfl, hn, hnn, g⟩ := bndK_out hR g
  rw [forceN_eq] at g
  obtain ⟨h', g, hs, hid⟩ := hN hR rfl rfl g
  obtain ⟨i, zv, q1, q2, q3, q4, q5⟩ := zeroOk_out hz
  have hi : i.size = z := by rw [← hsz, szOf_info q1]
  have hbi : i.bytes ≤ 65536 := by unfold bytesOf at hb; rw [q1] at hb; exact hb
  have hc : ∀ i, i < n * z → cellAt z (Tr.full (zeroEl V.P e) (depth n)) i = zc V.P e z (i % z) := fun i hi => by rw [cellAt_full (by omega) hi]; rfl
  refine ⟨_, _, h', g, hs, hid, new_row (fun _ i hi => ?_) fun {w F μ u} ⟨ha, hb⟩ => ?_⟩
  · rw [hc i hi]
    obtain ⟨y, _, _, _, hf⟩ := q5 (i % z) (Nat.mod_lt _ (by omega))
    exact hf
  · have e1 := idx_int hnn ha
    have e2 := idx_int hmn hb
    refine ⟨_, w.alloc (.cells ((Array.range (m * i.size)).map (zv.cells[· % zv.cells.size]!)) e), _, e, (0, 0), by rw [e1, e2]; exact run_makeSlice ht q2 q3 hbi (by omega) hn hm _ _ w, ⟨rfl, rfl, rfl⟩, .inl rfl, fun j hj => ?_, fun {μ'} hμ => ?_⟩
    · obtain ⟨y, h1, h2, h3, _⟩ := q5 (j % z) (Nat.mod_lt _ (by omega))
      have hjm : j < m * z := Nat.lt_of_lt_of_le hj (Nat.mul_le_mul_right z hn)
      refine ⟨y, ?_, h2, by rw [hc j hj]; exact h3 _ _ _⟩
      rw [Array.getElem?_map, hi, Array.getElem?_range, if_pos hjm, q4]
      show some (zv.cells[j % z]!) = some y
      rw [getElem!_def, h1]
    · exact CRel.ms hμ hn (by simp [hi])
include hR in
/-- append(nil, make([]T, n)...) -/
theorem appendZ_out {N : NK} {hp : Hp} {id : Nat} (hN : NSpec N hp id) {t u e : TypeId} {ty : TypeId} {kn : IntKind} (ht : und V.P t = some (.slice e)) (hu : und V.P u = some (.int kn)) {z : Nat} (hsz : szOf V.P e = z) (h1 : 1 ≤ z) (hz : zeroOk V.P e z = true) (hb : bytesOf V.P e ≤ 65536) {a b : AV} {k : AV → Hp → Res}
    (g : (a.onX fun q _ _ _ _ => must (Nat.beq q 8) (bndK b 1073741824 fun n => must (Nat.ble 1 n) (forceN (Nat.mul n z) fun s => N.f hp (.row true true z s (Tr.full (zeroEl V.P e) (depth n))) fun id hp => k (.ms id 0 n z) hp))) = R) :
    ∃ B v hp', k v hp' = R ∧ HSet hp id B hp' ∧ id < hp'.nx ∧ New V (fun w F μ (u : Value × Value) => CRel w F μ a u.1 ∧ CRel w F μ b u.2) (fun x => Builtin.append_ #[t, u] ty #[x.1, x.2]) id B v := by
  obtain ⟨q, u1, u2, u3, u4, rfl, g⟩ := onX_out hR g
  obtain ⟨hq, g⟩ := must_out hR g
  rw [beqN] at hq
  subst hq
  obtain ⟨j, n, rfl, hn, hnn, g⟩ := bndK_out hR g
  obtain ⟨hn1, g⟩ := must_out hR g
  rw [bleN] at hn1
  rw [forceN_eq] at g
  obtain ⟨h', g, hs, hid⟩ := hN hR rfl rfl g
  obtain ⟨i, zv, q1, q2, q3, q4, q5⟩ := zeroOk_out hz
  have hi : i.size = z := by rw [← hsz, szOf_info q1]
  have hbi : i.bytes ≤ 65536 := by unfold bytesOf at hb; rw [q1] at hb; exact hb
  have hc : ∀ i, i < n * z → cellAt z (Tr.full (zeroEl V.P e) (depth n)) i = zc V.P e z (i % z) := fun i hi => by rw [cellAt_full (by omega) hi]; rfl
  refine ⟨_, _, h', g, hs, hid, new_row (fun _ i hi => ?_) fun {w F μ u} ⟨ha, hb⟩ => ?_⟩
  · rw [hc i hi]
    obtain ⟨y, _, _, _, hf⟩ := q5 (i % z) (Nat.mod_lt _ (by omega))
    exact hf
  · obtain ⟨v1, v2⟩ := u
    have e1 : v1 = .slice none 0 0 := by
      have ha' : CRel w F μ (.x 8 u1 u2 u3 u4) v1 := ha
      cases ha'; rfl
    have e2 := idx_int hnn hb
    have hby : n * i.bytes ≤ 281474976710656 := Nat.le_trans (Nat.mul_le_mul hn hbi) (by decide)
    have hcells : ∀ j, j < n * z → ∃ y, (Builtin.zeroCells zv.cells n)[j]? = some y ∧ zv.cells[j % z]? = some y := fun j hj => by
      obtain ⟨y, h1, _⟩ := q5 (j % z) (Nat.mod_lt _ (by omega))
      refine ⟨y, ?_, h1⟩
      simp only [Builtin.zeroCells, Array.getElem?_map, Array.getElem?_range, q4, if_pos hj, Option.map_some]
      rw [getElem!_def, h1]
    have e2' : v2 = .int (kd j) (n : Int) := e2
    subst e1; subst e2'
    refine ⟨_, w.drew.alloc (.cells (Builtin.zeroCells zv.cells n ++ Builtin.zeroCells zv.cells (grownCap w n 0 e - n)) e), _, e, (0, 0), Lib.run_append_nil_zeros w t _ ty e i zv _ _ (und_some ht).1 (und_some hu).1 q2 q3 n hn1 (by omega) (by omega) hby, ⟨rfl, rfl, rfl⟩, .inl rfl, fun j hj => ?_, fun {μ'} hμ => ?_⟩
    · obtain ⟨y0, h1, h2, h3, _⟩ := q5 (j % z) (Nat.mod_lt _ (by omega))
      obtain ⟨y, r1, r2⟩ := hcells j hj
      rw [r2] at h1; cases h1
      exact ⟨_, by rw [Array.getElem?_append_left (Array.getElem?_eq_some_iff.1 r1).1]; exact r1, h2, by rw [hc j hj]; exact h3 _ _ _⟩
    · have hcap : n ≤ grownCap w n 0 e := grownCap_ge w n 0 e
      refine CRel.ms hμ hcap ?_
      show 0 + 0 + grownCap w n 0 e * z ≤ (Builtin.zeroCells zv.cells n ++ Builtin.zeroCells zv.cells (grownCap w n 0 e - n)).size
      rw [Array.size_append, zeroCells_size, zeroCells_size, q4, ← Nat.add_mul]
      have : n + (grownCap w n 0 e - n) = grownCap w n 0 e := by omega
      rw [this]; omega
end
end Go.Proofs.YtlffjnddiiojnaaGreatDoor.Ev

/- Bytes and strings. -/
namespace Go.Proofs.YtlffjnddiiojnaaGreatDoor.Ev
def packN : List Nat → Nat
  | [] => 0
  | x :: r => x + 256 * packN r
theorem packL_N : ∀ l : List UInt8, packL l = packN (l.map (·.toNat))
  | [] => rfl
  | b :: l => by rw [packL_cons, packL_N l]; rfl
section
variable {V : Env} {M : Mem} (ok : MemOk M) {R : Res} (hR : R ≠ .fail)
theorem isU8_out {P : Program} {e : TypeId} (h : isU8 P e = true) : P.underlying e = some (.int .u8) := by
  unfold isU8 at h
  cases hu : und P e with
  | none => rw [hu] at h; exact Bool.noConfusion h
  | some d =>
    rw [hu] at h
    cases d with
    | int q => cases q <;> first | exact (und_some hu).1 | exact Bool.noConfusion h
    | _ => exact Bool.noConfusion h
include ok hR
theorem pack_out (n : Nat) : ∀ {t : Row} {o : Nat} {k : Nat → Res}, (pack M n).f t o k = R → ∃ xs : List Nat, xs.length = n ∧ (∀ j (h : j < xs.length), t.at (o + j) = .int 4 xs[j]) ∧ k (packN xs) = R := by
  induction n with
  | zero => intro t o k g; exact ⟨[], rfl, fun j h => absurd h (Nat.not_lt_zero _), g⟩
  | succ n ih =>
    intro t o k g
    have g1 := ok.rg hR (k := fun v => v.onInt fun i x => must (Nat.beq i 4) ((pack M n).f t (Nat.succ o) fun r => forceN (Nat.add x (Nat.mul 256 r)) k)) g
    obtain ⟨i, x, hx, g1⟩ := onInt_out hR g1
    obtain ⟨hi, g1⟩ := must_out hR g1
    rw [beqN] at hi
    obtain ⟨xs, h1, h2, h3⟩ := ih g1
    rw [forceN_eq] at h3
    refine ⟨x :: xs, by rw [List.length_cons, h1], fun j hj => ?_, h3⟩
    cases j with
    | zero => have hx : t.at o = .int i x := hx; show t.at o = .int 4 x; rw [hx, hi]
    | succ j =>
      have hj' : j < xs.length := by rw [List.length_cons] at hj; omega
      have := h2 j hj'
      show t.at (o + (j + 1)) = .int 4 (xs[j]'hj')
      rw [← this]; congr 1; omega
/-- The bytes of a slice. -/
theorem bytesStr_out {src dst e : TypeId} (hs : und V.P src = some (.slice e)) (he : isU8 V.P e = true) (hd : und V.P dst = some .string) {a : AV} (hsl : (∃ b o n z, a = .ms b o n z) ∨ ∃ t o n z, a = .vs t o n z) {hp : Hp} {k : AV → Res}
    (g : (seqK M 1 a hp fun t o n _ => (pack M n).f t o fun s => k (.str s n)) = R) : ∃ v, k v = R ∧ SpotLive hp a ∧ Read1 V (convert src dst) hp a v := by
  have live : SpotLive hp a := fun c hc => by
    rcases hsl with ⟨b, o, n, z, rfl⟩ | ⟨t, o, n, z, rfl⟩
    · have hc : b = c := by cases n with | zero => cases hc | succ n => cases hc; rfl
      subst hc
      obtain ⟨_, g⟩ := must_out hR (show must (Nat.beq z 1) _ = R from g)
      obtain ⟨_, _, _, _, _, hB, _⟩ := huse_out ok hR g
      rw [hB]; trivial
    · cases hc
  obtain ⟨u, p, m, f, g, hseq⟩ := seqK_out (V := V) ok hR Nat.one_pos g
  obtain ⟨xs, hx1, hx2, g⟩ := pack_out ok hR _ g
  refine ⟨_, g, live, fun {w F μ x} ha hr => ?_⟩
  obtain ⟨news, hsq, hnew, _⟩ := hseq ha hr
  have hshape : ∃ ad n c, x = .slice (some ad) n c := by
    rcases hsl with ⟨b, o, n, z, rfl⟩ | ⟨t, o, n, z, rfl⟩ <;> cases ha <;> exact ⟨_, _, _, rfl⟩
  obtain ⟨ad, n, c, rfl⟩ := hshape
  have hn : n = m := by
    have := hsq.len w
    simp only [Builtin.lenOf, Sem.run_pure] at this
    injection this
  subst hn
  have hx : ∀ j (h : j < xs.length), xs[j] < 256 ∧ news[j]? = some (.int .u8 (xs[j] : Int)) := fun j h => by
    obtain ⟨y, hy, hc⟩ := hnew j (by omega)
    have e1 : cellAt 1 u (p * 1 + j) = .int 4 xs[j] := by rw [cellAt, if_pos rfl, Nat.mul_one]; exact hx2 j h
    rw [e1] at hc
    obtain ⟨hlt, rfl⟩ := inv_int hc
    exact ⟨hlt, by rw [hy, T_nonneg 4 _ hlt (.inl (Nat.le_refl _))]; rfl⟩
  have hnl : news = (xs.map fun x : Nat => (x : Int)).map (Value.int .u8) := by
    apply List.ext_getElem?
    intro j
    by_cases hj : j < xs.length
    · rw [(hx j hj).2]; simp [hj]
    · rw [List.getElem?_eq_none (by rw [hsq.size]; omega), List.getElem?_eq_none (by simp; omega)]
  have hto : xs.map (fun x : Nat => (x : Int)) = (xs.map UInt8.ofNat).map (fun b => (b.toNat : Int)) := by
    rw [List.map_map]
    apply List.map_congr_left
    intro x hxm
    obtain ⟨j, hj, rfl⟩ := List.mem_iff_getElem.1 hxm
    have := (hx j hj).1
    show ((xs[j] : Nat) : Int) = ((UInt8.ofNat xs[j]).toNat : Int)
    rw [UInt8.toNat_ofNat']; omega
  have hload : (loadCells ad n).run V.P w = .ok ((xs.map fun x : Nat => (x : Int)).map (Value.int .u8)).toArray w := by
    have := hsq.cells w rfl n (Nat.le_refl _)
    rw [List.take_of_length_le (by rw [hsq.size]; exact Nat.le_refl _), hnl] at this
    simpa only [Builtin.firstCells, Nat.mul_one] using this
  refine ⟨_, by rw [run_convert_bytes_string w src dst e (some ad) n c (und_some hs).1 (isU8_out he) (und_some hd).1, run_bytesToString w ad n c _ hload], ?_⟩
  rw [hto, foldl_push_byteCells]
  have he0 : ByteArray.empty.data = #[] := rfl
  rw [he0]
  refine rel_str ?_ ?_
  · rw [packL_N]
    simp only [Array.empty_append, List.map_map]
    congr 1
    symm
    apply List.ext_getElem
    · simp
    · intro j h1 h2
      have hj : j < xs.length := h2
      have := (hx j hj).1
      simp [UInt8.toNat_ofNat']; omega
  · show n = (#[] ++ (xs.map UInt8.ofNat).toArray).size
    simp [hx1]
/-- A string's bytes. -/
theorem strBytes_out {N : NK} {hp : Hp} {id : Nat} (hN : NSpec N hp id) {src dst e : TypeId} (hs : und V.P src = some .string) (he : isU8 V.P e = true) (hd : und V.P dst = some (.slice e)) {a : AV} {k : AV → Hp → Res}
    (g : (a.onStr fun s n => (unpack M n).f s 0 .lf fun r => N.f hp (.row true true 1 n r) fun id hp => k (.ms id 0 n 1) hp) = R) :
    ∃ B v hp', k v hp' = R ∧ HSet hp id B hp' ∧ id < hp'.nx ∧ New V (fun w F μ u => CRel w F μ a u) (convert src dst) id B v := by
  obtain ⟨s, n, rfl, g⟩ := onStr_out hR g
  obtain ⟨r, hr, g⟩ := unpack_out ok hR n g
  obtain ⟨h', g, hset, hid⟩ := hN hR rfl rfl g
  have hat : ∀ i, i < n → cellAt 1 r i = .int 4 (s / 256 ^ i % 256) := fun i hi => by rw [cellAt, if_pos rfl, hr, if_pos (by omega), Nat.sub_zero]
  refine ⟨_, _, h', g, hset, hid, new_row (fun _ i hi => by rw [hat i hi]; rfl) fun {w F μ u} ha => ?_⟩
  obtain ⟨B, rfl, h1, rfl⟩ := inv_str ha
  refine ⟨_, _, _, e, _, run_bytes_of_string w src dst e B (und_some hs).1 (und_some hd).1 (isU8_out he), ⟨rfl, rfl, rfl⟩, .inr (Nat.le_refl _), fun i hi => ?_, fun {μ'} hμ => ?_⟩
  · have hi' : i < B.data.toList.length := by rw [Array.length_toList]; exact hi
    have hi2 : i < B.data.size := hi
    refine ⟨.int .u8 ((B.data.toList[i]).toNat : Int), ?_, rfl, ?_⟩
    · unfold bytesRow
      rw [Array.getElem?_append, if_pos (by rw [Array.size_map]; exact hi), Array.getElem?_map, Array.getElem?_eq_getElem hi2]
      simp
    · rw [hat i hi, h1, packL_get _ i hi']; exact rel_byte _
  · refine CRel.ms hμ (grownCap_ge w B.size 0 e) ?_
    show 0 + 0 + grownCap w B.size 0 e * 1 ≤ (bytesRow B (grownCap w B.size 0 e)).size
    have := grownCap_ge w B.size 0 e
    have h2 : B.data.size = B.size := rfl
    simp only [bytesRow, Array.size_append, Array.size_map, Array.size_replicate, h2]
    omega
end
end Go.Proofs.YtlffjnddiiojnaaGreatDoor.Ev

/- Slices of slices; addresses; parts. -/
namespace Go.Proofs.YtlffjnddiiojnaaGreatDoor.Ev
def OptRel (w : World) (F : Nat → Prop) (μ : Mu) : Option AV → Option Value → Prop
  | none, none => True
  | some a, some v => CRel w F μ a v
  | _, _ => False
theorem run_sliceBound {P : Program} {w : World} {k : IntKind} {m y : Nat} (h : m ≤ y) (code : BoundsCode) : (Instr.sliceBound (.int k (m : Int)) y code).run P w = .ok m w := by
  have h1 : ((m : Int) ≤ (y : Int)) := by omega
  simp [Instr.sliceBound, asIntOf, h1]
noncomputable def lowK (lo : Option AV) (h : Nat) (c : Nat → Nat → Bool → Res) (e : Nat → Bool) : Res := match lo with | none => c 0 h (e 0) | some v => bndK v h fun l => c l h (e l)
/-- A bound, and what it is read as. -/
def Bnd (lo : Option AV) (l d : Nat) : Prop := (lo = none ∧ l = d) ∨ ∃ i, lo = some (.int i l) ∧ (4 ≤ i ∨ l < hf i)
theorem Bnd.val {lo : Option AV} {l d : Nat} (h : Bnd lo l d) {w : World} {F : Nat → Prop} {μ : Mu} {u : Option Value} (hu : OptRel w F μ lo u) : (lo = none ∧ u = none ∧ l = d) ∨ (lo.isSome = true ∧ ∃ k, u = some (.int k (l : Int))) := by
  rcases h with ⟨rfl, rfl⟩ | ⟨i, rfl, hn⟩
  · cases u with
    | none => exact .inl ⟨rfl, rfl, rfl⟩
    | some v => exact hu.elim
  · cases u with
    | none => exact hu.elim
    | some v => exact .inr ⟨rfl, kd i, by rw [idx_int hn hu]⟩
section
variable {P : Program} {R : Res} (hR : R ≠ .fail)
include hR
theorem lowK_out {lo : Option AV} {h : Nat} {c : Nat → Nat → Bool → Res} {e : Nat → Bool} (g : lowK lo h c e = R) : ∃ l, c l h (e l) = R ∧ l ≤ h ∧ Bnd lo l 0 := by
  cases lo with
  | none => exact ⟨0, g, Nat.zero_le _, .inl ⟨rfl, rfl⟩⟩
  | some v =>
    obtain ⟨i, m, rfl, hm, hn, g2⟩ := bndK_out hR (show bndK v h (fun l => c l h (e l)) = R from g)
    exact ⟨m, g2, hm, .inr ⟨i, rfl, hn⟩⟩
theorem bounds_out {lo hi mx : Option AV} {n : Nat} {c : Nat → Nat → Bool → Res} (g : bounds lo hi mx n c = R) : ∃ l h e m, c l h e = R ∧ l ≤ h ∧ h ≤ n ∧ (mx.isSome = true → h ≤ m ∧ m ≤ n ∧ e = Nat.beq m l) ∧ (mx = none → e = false) ∧
    Bnd lo l 0 ∧ Bnd hi h n ∧ Bnd mx m m ∧ (mx.isSome = true → hi.isSome = true) := by
  cases mx with
  | none =>
    cases hi with
    | none =>
      obtain ⟨l, g, hl, hb⟩ := lowK_out hR (show lowK lo n c (fun _ => false) = R from g)
      exact ⟨l, n, _, 0, g, hl, Nat.le_refl _, (fun e => by cases e), fun _ => rfl, hb, .inl ⟨rfl, rfl⟩, .inl ⟨rfl, rfl⟩, fun e => by cases e⟩
    | some v =>
      obtain ⟨i, h, rfl, hh, hn, g2⟩ := bndK_out hR (show bndK v n (fun h => lowK lo h c (fun _ => false)) = R from g)
      obtain ⟨l, g, hl, hb⟩ := lowK_out hR g2
      exact ⟨l, h, _, 0, g, hl, hh, (fun e => by cases e), fun _ => rfl, hb, .inr ⟨i, rfl, hn⟩, .inl ⟨rfl, rfl⟩, fun e => by cases e⟩
  | some x =>
    cases hi with
    | none =>
      obtain ⟨i, m, rfl, hm, hmn, g2⟩ := bndK_out hR (show bndK x n (fun m => .fail) = R from g)
      exact fail_out hR g2
    | some v =>
      obtain ⟨i, m, rfl, hm, hmn, g2⟩ := bndK_out hR (show bndK x n (fun m => bndK v m fun h => lowK lo h c (fun l => Nat.beq m l)) = R from g)
      obtain ⟨j, h, rfl, hh, hn, g3⟩ := bndK_out hR g2
      obtain ⟨l, g, hl, hb⟩ := lowK_out hR g3
      exact ⟨l, h, _, m, g, hl, Nat.le_trans hh hm, (fun _ => ⟨hh, hm, rfl⟩), (fun e => by cases e), hb, .inr ⟨j, rfl, hn⟩, .inr ⟨i, rfl, hmn⟩, fun _ => rfl⟩
omit hR in
theorem run_bounds {w : World} {F : Nat → Prop} {μ : Mu} {lo hi mx : Option AV} {ulo uhi umx : Option Value} {s : Bool} {l h m n cap : Nat} (h1 : OptRel w F μ lo ulo) (h2 : OptRel w F μ hi uhi) (h3 : OptRel w F μ mx umx)
    (b1 : Bnd lo l 0) (b2 : Bnd hi h n) (b3 : Bnd mx m m) (hsome : mx.isSome = true → hi.isSome = true) (hl : l ≤ h) (hh : h ≤ n) (hm : mx.isSome = true → h ≤ m ∧ m ≤ n) (hc : n ≤ cap) :
    (Instr.sliceBounds s n cap ulo uhi umx).run P w = .ok (l, h, if mx.isSome = true then m else cap) w := by
  rcases b3.val h3 with ⟨rfl, rfl, _⟩ | ⟨e3, k3, rfl⟩
  · rcases b2.val h2 with ⟨rfl, rfl, rfl⟩ | ⟨e2, k2, rfl⟩
    · rcases b1.val h1 with ⟨rfl, rfl, rfl⟩ | ⟨e1, k1, rfl⟩
      · simp [Instr.sliceBounds]
      · simp [Instr.sliceBounds, run_sliceBound hl]
    · have hhc := Nat.le_trans hh hc
      rcases b1.val h1 with ⟨rfl, rfl, rfl⟩ | ⟨e1, k1, rfl⟩
      · simp [Instr.sliceBounds, run_sliceBound hhc]
      · simp [Instr.sliceBounds, run_sliceBound hhc, run_sliceBound hl]
  · obtain ⟨q1, q2⟩ := hm e3
    have hmc := Nat.le_trans q2 hc
    rcases b2.val h2 with ⟨rfl, _, _⟩ | ⟨e2, k2, rfl⟩
    · have := hsome e3; cases this
    · rcases b1.val h1 with ⟨rfl, rfl, rfl⟩ | ⟨e1, k1, rfl⟩
      · simp [Instr.sliceBounds, run_sliceBound hmc, run_sliceBound q1, e3]
      · simp [Instr.sliceBounds, run_sliceBound hmc, run_sliceBound q1, run_sliceBound hl, e3]
end
end Go.Proofs.YtlffjnddiiojnaaGreatDoor.Ev

/- Slices of slices. -/
namespace Go.Proofs.YtlffjnddiiojnaaGreatDoor.Ev
/-- An operation on a value and three bounds. -/
def PureS (P : Program) (s : Value → Option Value → Option Value → Option Value → Sem Value) (x : AV) (lo hi mx : Option AV) (v : AV) : Prop :=
  ∀ {w : World} {F : Nat → Prop} {μ : Mu} {u : Value} {a b c : Option Value}, CRel w F μ x u → OptRel w F μ lo a → OptRel w F μ hi b → OptRel w F μ mx c → ∃ r, (s u a b c).run P w = .ok r w ∧ CRel w F μ v r
section
variable {P : Program} {R : Res} (hR : R ≠ .fail)
omit hR in
theorem run_sliceAt {t e : TypeId} {i : TypeInfo} (ht : und P t = some (.slice e)) (hi : P.info? e = some i) {w : World} {ad : Option Addr} {n cap l h m : Nat} {a b c : Option Value} (hb : (Instr.sliceBounds true n cap a b c).run P w = .ok (l, h, m) w) :
    (Instr.sliceAt t (.slice ad n cap) a b c).run P w = .ok (.slice (if m = l then ad else ad.map (·.add (l * i.size))) (h - l) (m - l)) w := by
  simp [Instr.sliceAt, Instr.slice, run_underlying (und_some ht).1, hb, sizeOf, typeInfo, hi]
include hR
theorem sliceK_out {t e : TypeId} (ht : und P t = some (.slice e)) {z : Nat} (hsz : szOf P e = z) (hz : 1 ≤ z) {x : AV} {lo hi mx : Option AV} {k : AV → Res} (g : sliceK z x lo hi mx k = R) : ∃ v, k v = R ∧ PureS P (Instr.sliceAt t) x lo hi mx v := by
  obtain ⟨i, _, hi', hsi⟩ := szOf_pos (P := P) (t := e) (by omega)
  have hiz : i.size = z := by omega
  rcases onSlice_out hR g with ⟨b, o, n, y, rfl, g⟩ | ⟨tt, o, n, y, rfl, g⟩ | ⟨i', tt, a', b', c, rfl, g⟩ | ⟨s, n, rfl, g⟩
  · obtain ⟨hy, g2⟩ := must_out hR g
    rw [beqN] at hy
    obtain ⟨l, h, e', m, g3, hl, hh, h1, h2, b1, b2, b3, b4⟩ := bounds_out hR g2
    have hm : mx.isSome = true → h ≤ m ∧ m ≤ n := fun e => ⟨(h1 e).1, (h1 e).2.1⟩
    have hrun : ∀ {w : World} {F : Nat → Prop} {μ : Mu} {ad : Option Addr} {cap : Nat} {a bb c : Option Value}, OptRel w F μ lo a → OptRel w F μ hi bb → OptRel w F μ mx c → n ≤ cap →
        (Instr.sliceAt t (.slice ad n cap) a bb c).run P w = .ok (.slice (if (if mx.isSome = true then m else cap) = l then ad else ad.map (·.add (l * i.size))) (h - l) ((if mx.isSome = true then m else cap) - l)) w := fun q1 q2 q3 hc => run_sliceAt ht hi' (run_bounds q1 q2 q3 b1 b2 b3 b4 hl hh hm hc)
    rcases when_out hR g3 with ⟨he, g4⟩ | ⟨he, g4⟩
    · have hs : mx.isSome = true := by cases mx with
        | none => rw [h2 rfl] at he; cases he
        | some _ => rfl
      have hml : m = l := by rw [← beqN, ← (h1 hs).2.2]; exact he
      refine ⟨_, g4, fun {w F μ u a bb c} ha q1 q2 q3 => ?_⟩
      have fin : ∀ {ad : Addr} {cap : Nat}, n ≤ cap → ∃ r, (Instr.sliceAt t (.slice (some ad) n cap) a bb c).run P w = .ok r w ∧ CRel w F μ (.x 6 .lf 0 0 0) r := fun {ad cap} hc => by
        refine ⟨_, hrun q1 q2 q3 hc, ?_⟩
        have := (h1 hs).1
        rw [if_pos hs, if_pos hml, show h - l = 0 by omega, show m - l = 0 by omega]
        exact .emp
      cases ha with
      | ms hm hc hs => exact fin hc
      | ms0 => exact fin (Nat.le_refl _)
    · rw [forceN_eq, forceN_eq] at g4
      refine ⟨_, g4, fun {w F μ u a bb c} ha q1 q2 q3 => ?_⟩
      -- what the bound of the capacity is
      have hcase : ∀ {cap : Nat}, n ≤ cap → h ≤ (if mx.isSome = true then m else cap) ∧ (if mx.isSome = true then m else cap) ≤ cap := fun {cap} hc => by
        by_cases hs : mx.isSome = true
        · rw [if_pos hs]; have := hm hs; omega
        · rw [if_neg hs]; omega
      cases ha with
      | ms hmu hc hcs =>
        rename_i cap mp
        obtain ⟨c1, c2⟩ := hcase hc
        refine ⟨_, hrun q1 q2 q3 hc, ?_⟩
        generalize (if mx.isSome = true then m else cap) = M at *
        by_cases e1 : M = l
        · rw [if_pos e1, show h - l = 0 by omega, show M - l = 0 by omega]
          show CRel w F μ (.ms b (o + l * z) (h - l) z) _
          rw [show h - l = 0 by omega]; exact .ms0
        · rw [if_neg e1]
          show CRel w F μ (.ms b (o + l * z) (h - l) z) (.slice (some ((⟨mp.blk, mp.base + o, none⟩ : Addr).add (l * i.size))) (h - l) (M - l))
          rw [Addr.add_mid, Nat.add_assoc, hiz]
          refine .ms hmu (by omega) ?_
          have : (M - l) * z + l * z = M * z := by rw [← Nat.add_mul]; congr 1; omega
          have h3 : M * z ≤ cap * z := Nat.mul_le_mul_right z c2
          rw [hy] at hcs; omega
      | ms0 =>
        obtain ⟨c1, c2⟩ := hcase (Nat.le_refl 0)
        refine ⟨_, hrun q1 q2 q3 (Nat.le_refl 0), ?_⟩
        generalize (if mx.isSome = true then m else 0) = M at *
        show CRel w F μ (.ms b (o + l * z) (h - l) z) _
        rw [if_pos (by omega), show h - l = 0 by omega, show M - l = 0 by omega]; exact .ms0
  · obtain ⟨hy, g2⟩ := must_out hR g
    rw [beqN] at hy
    obtain ⟨l, h, e', m, g3, hl, hh, h1, h2, b1, b2, b3, b4⟩ := bounds_out hR g2
    have hm : mx.isSome = true → h ≤ m ∧ m ≤ n := fun e => ⟨(h1 e).1, (h1 e).2.1⟩
    have hrun : ∀ {w : World} {F : Nat → Prop} {μ : Mu} {ad : Option Addr} {cap : Nat} {a bb c : Option Value}, OptRel w F μ lo a → OptRel w F μ hi bb → OptRel w F μ mx c → n ≤ cap →
        (Instr.sliceAt t (.slice ad n cap) a bb c).run P w = .ok (.slice (if (if mx.isSome = true then m else cap) = l then ad else ad.map (·.add (l * i.size))) (h - l) ((if mx.isSome = true then m else cap) - l)) w := fun q1 q2 q3 hc => run_sliceAt ht hi' (run_bounds q1 q2 q3 b1 b2 b3 b4 hl hh hm hc)
    rcases when_out hR g3 with ⟨he, g4⟩ | ⟨he, g4⟩
    · have hs : mx.isSome = true := by cases mx with
        | none => rw [h2 rfl] at he; cases he
        | some _ => rfl
      have hml : m = l := by rw [← beqN, ← (h1 hs).2.2]; exact he
      refine ⟨_, g4, fun {w F μ u a bb c} ha q1 q2 q3 => ?_⟩
      have fin : ∀ {ad : Addr} {cap : Nat}, n ≤ cap → ∃ r, (Instr.sliceAt t (.slice (some ad) n cap) a bb c).run P w = .ok r w ∧ CRel w F μ (.x 6 .lf 0 0 0) r := fun {ad cap} hc => by
        refine ⟨_, hrun q1 q2 q3 hc, ?_⟩
        have := (h1 hs).1
        rw [if_pos hs, if_pos hml, show h - l = 0 by omega, show m - l = 0 by omega]
        exact .emp
      cases ha with
      | vs us hF hc hu h1 h => exact fin hc
      | vs0 => exact fin (Nat.zero_le _)
    · rw [forceN_eq, forceN_eq] at g4
      refine ⟨_, g4, fun {w F μ u a bb c} ha q1 q2 q3 => ?_⟩
      have hcase : ∀ {cap : Nat}, n ≤ cap → h ≤ (if mx.isSome = true then m else cap) ∧ (if mx.isSome = true then m else cap) ≤ cap := fun {cap} hc => by
        by_cases hs : mx.isSome = true
        · rw [if_pos hs]; have := hm hs; omega
        · rw [if_neg hs]; omega
      cases ha with
      | vs us hF hc hu ho1 hrel =>
        rename_i B off cap
        obtain ⟨c1, c2⟩ := hcase hc
        refine ⟨_, hrun q1 q2 q3 hc, ?_⟩
        generalize (if mx.isSome = true then m else cap) = M at *
        show CRel w F μ (.vs tt (o + l) (h - l) z) _
        by_cases e1 : M = l
        · rw [if_pos e1, show h - l = 0 by omega]; exact .vs0
        · rw [if_neg e1]
          show CRel w F μ (.vs tt (o + l) (h - l) z) (.slice (some ((⟨B, off, none⟩ : Addr).add (l * i.size))) (h - l) (M - l))
          rw [Addr.add_mid, hiz]
          rw [hy] at hu ho1 hrel
          have hlt : ∀ i, i < (h - l) * z → l * z + i < n * z := fun i hi => by
            have h3 : (h - l) * z + l * z = h * z := by rw [← Nat.add_mul]; congr 1; omega
            have h4 : h * z ≤ n * z := Nat.mul_le_mul_right z hh
            omega
          refine .vs (fun i => us (l * z + i)) hF (by omega) (fun i hi => ?_) (fun i hi => ho1 _ (hlt i hi)) fun i hi => ?_
          · rw [Nat.add_assoc]; exact hu _ (hlt i hi)
          · rw [Nat.add_mul, Nat.add_assoc]; exact hrel _ (hlt i hi)
      | @vs0 _ _ _ _ cap ad_ =>
        have hl0 : l = 0 := by omega
        refine ⟨_, hrun q1 q2 q3 (Nat.zero_le cap), ?_⟩
        generalize (if mx.isSome = true then m else cap) = M at *
        show CRel w F μ (.vs tt (o + l) (h - l) z) _
        rw [show h - l = 0 by omega]
        by_cases e1 : M = l
        · rw [if_pos e1]; exact .vs0
        · rw [if_neg e1]; exact .vs0
  · have nilc : ∀ {ad : Option Addr} {v : AV}, (∀ {w : World} {F : Nat → Prop} {μ : Mu} {ad' : Option Addr}, (ad = none → ad' = none) → (ad.isSome = true → ad'.isSome = true) → CRel w F μ v (.slice ad' 0 0)) → bounds lo hi mx 0 (fun _ _ _ => k v) = R →
        k v = R ∧ ∀ {w : World} {F : Nat → Prop} {μ : Mu} {a bb c : Option Value}, OptRel w F μ lo a → OptRel w F μ hi bb → OptRel w F μ mx c → ∃ r, (Instr.sliceAt t (.slice ad 0 0) a bb c).run P w = .ok r w ∧ CRel w F μ v r := by
      intro ad v hv g2
      obtain ⟨l, h, e', m, g3, hl, hh, h1, h2, b1, b2, b3, b4⟩ := bounds_out hR g2
      have hm : mx.isSome = true → h ≤ m ∧ m ≤ 0 := fun e => ⟨(h1 e).1, (h1 e).2.1⟩
      refine ⟨g3, fun {w F μ a bb c} q1 q2 q3 => ⟨_, run_sliceAt ht hi' (run_bounds q1 q2 q3 b1 b2 b3 b4 hl hh hm (Nat.le_refl 0)), ?_⟩⟩
      have hM : (if mx.isSome = true then m else 0) = 0 := by
        by_cases hs : mx.isSome = true
        · rw [if_pos hs]; have := hm hs; omega
        · rw [if_neg hs]
      rw [hM, show h - l = 0 by omega, show 0 - l = 0 by omega]
      exact hv (fun e => by subst e; split <;> rfl) (fun e => by
        obtain ⟨q, rfl⟩ := Option.isSome_iff_exists.1 e
        split <;> rfl)
    rcases when_out hR g with ⟨hg, g2⟩ | ⟨_, g2⟩
    · rw [beqN] at hg
      obtain ⟨g3, H⟩ := nilc (ad := none) (v := .x 8 .lf 0 0 0) (fun h _ => by rw [h rfl]; exact .nils) g2
      refine ⟨_, g3, fun {w F μ u a bb c} ha q1 q2 q3 => ?_⟩
      subst hg
      cases ha
      exact H q1 q2 q3
    · obtain ⟨hg, g2⟩ := must_out hR g2
      rw [beqN] at hg
      obtain ⟨g3, _⟩ := nilc (ad := some default) (v := .x 6 .lf 0 0 0) (fun _ h => by
        obtain ⟨q, hq⟩ := Option.isSome_iff_exists.1 (h rfl)
        rw [hq]; exact .emp) g2
      refine ⟨_, g3, fun {w F μ u a bb c} ha q1 q2 q3 => ?_⟩
      subst hg
      cases ha with
      | emp =>
        rename_i p
        exact (nilc (ad := some p) (v := .x 6 .lf 0 0 0) (fun _ h => by
          obtain ⟨q, hq⟩ := Option.isSome_iff_exists.1 (h rfl)
          rw [hq]; exact .emp) g2).2 q1 q2 q3
  · exact fail_out hR g
end
end Go.Proofs.YtlffjnddiiojnaaGreatDoor.Ev

/- Addresses; parts. -/
namespace Go.Proofs.YtlffjnddiiojnaaGreatDoor.Ev
section
variable {P : Program} {R : Res} (hR : R ≠ .fail)
theorem run_indexAt_slice {t e : TypeId} {i : TypeInfo} (ht : und P t = some (.slice e)) (hi : P.info? e = some i) {w : World} {a : Addr} {n cap j : Nat} {k : IntKind} (hj : j < n) :
    (Instr.indexAt t (.slice (some a) n cap) (.int k (j : Int))).run P w = .ok (.pointer (some (a.add (j * i.size)))) w := by
  have h1 : (j : Int) < (n : Int) := by omega
  simp [Instr.indexAt, asIntOf, run_underlying (und_some ht).1, sizeOf, typeInfo, hi]
  intro h; omega
theorem run_indexAt_array {t e : TypeId} {n : Nat} {i : TypeInfo} (ht : und P t = some (.array n e)) (hi : P.info? e = some i) {w : World} {a : Addr} {j : Nat} {k : IntKind} (hj : j < n) :
    (Instr.indexAt t (.pointer (some a)) (.int k (j : Int))).run P w = .ok (.pointer (some (a.add (j * i.size)))) w := by
  have h1 : (j : Int) < (n : Int) := by omega
  simp [Instr.indexAt, asIntOf, run_underlying (und_some ht).1, sizeOf, typeInfo, hi, Instr.sureAddr]
  intro h; omega
include hR
theorem indexAddr_out {t e : TypeId} (ht : und P t = some (.slice e)) {z : Nat} (hsz : szOf P e = z) (hz : 1 ≤ z) {x j : AV} {k : AV → Res} (g : indexAddr z x j k = R) : ∃ v, k v = R ∧ Pure2 P (Instr.indexAt t) x j v := by
  obtain ⟨i, _, hi', hsi⟩ := szOf_pos (P := P) (t := e) (by omega)
  have hiz : i.size = z := by omega
  rcases onSlice_out hR g with ⟨b, o, n, y, rfl, g⟩ | ⟨tt, o, n, y, rfl, g⟩ | ⟨i', tt, a', b', c, rfl, g⟩ | ⟨s, n, rfl, g⟩
  · obtain ⟨i', m, rfl, hm, hn, g⟩ := idxK_out hR g
    rw [forceN_eq] at g
    refine ⟨_, g, fun {w F μ u u'} ha hb => ?_⟩
    rw [idx_int hn hb]
    cases ha with
    | ms hmu hc hcs =>
      refine ⟨_, run_indexAt_slice ht hi' hm, ?_⟩
      rw [Addr.add_mid, Nat.add_assoc, hiz]; exact .ptr hmu
    | ms0 => exact absurd hm (Nat.not_lt_zero _)
  · obtain ⟨hy, g⟩ := must_out hR g
    rw [beqN] at hy
    obtain ⟨i', m, rfl, hm, hn, g⟩ := idxK_out hR g
    rw [forceN_eq] at g
    refine ⟨_, g, fun {w F μ u u'} ha hb => ?_⟩
    rw [idx_int hn hb]
    cases ha with
    | vs us hF hc hu h1 h =>
      refine ⟨_, run_indexAt_slice ht hi' hm, ?_⟩
      rw [Addr.add_mid, hiz]
      rw [hy] at hu h1 h
      have hlt : ∀ i, i < z → m * z + i < n * z := fun i hi => by
        have : (m + 1) * z ≤ n * z := Nat.mul_le_mul_right z hm
        rw [Nat.add_mul, Nat.one_mul] at this; omega
      refine .vptr (fun i => us (m * z + i)) hF (fun i hi => ?_) (fun i hi => h1 _ (hlt i hi)) fun i hi => ?_
      · rw [Nat.add_assoc]; exact hu _ (hlt i hi)
      · show CRel w F noMu (cellAt z tt ((o + m) * z + i)) _
        rw [Nat.add_mul, Nat.add_assoc]; exact h _ (hlt i hi)
    | vs0 => exact absurd hm (Nat.not_lt_zero _)
  · exact fail_out hR g
  · exact fail_out hR g
theorem indexArr_out {t e : TypeId} {n : Nat} (ht : und P t = some (.array n e)) {z : Nat} (hsz : szOf P e = z) (hz : 1 ≤ z) {x j : AV} {k : AV → Res} (g : indexArr z n x j k = R) : ∃ v, k v = R ∧ Pure2 P (Instr.indexAt t) x j v := by
  obtain ⟨i, _, hi', hsi⟩ := szOf_pos (P := P) (t := e) (by omega)
  have hiz : i.size = z := by omega
  rcases onPtr_out hR g with ⟨b, o, rfl, g⟩ | ⟨tt, o, m', y, rfl, g⟩
  · obtain ⟨i', m, rfl, hm, hn, g⟩ := idxK_out hR g
    rw [forceN_eq] at g
    refine ⟨_, g, fun {w F μ u u'} ha hb => ?_⟩
    rw [idx_int hn hb]
    obtain ⟨mp, hmu, rfl⟩ := inv_ptr ha
    refine ⟨_, run_indexAt_array ht hi' hm, ?_⟩
    rw [Addr.add_mid, Nat.add_assoc, hiz]; exact .ptr hmu
  · obtain ⟨i', m, rfl, hm, hn, g⟩ := idxK_out hR g
    obtain ⟨hle, g⟩ := must_out hR g
    rw [bleN] at hle
    rw [forceN_eq] at g
    have hle : (m + 1) * z ≤ m' := hle
    rw [Nat.add_mul, Nat.one_mul] at hle
    refine ⟨_, g, fun {w F μ u u'} ha hb => ?_⟩
    rw [idx_int hn hb]
    cases ha with
    | vptr us hF hu h1 h =>
      refine ⟨_, run_indexAt_array ht hi' hm, ?_⟩
      rw [Addr.add_mid, hiz]
      refine .vptr (fun i => us (m * z + i)) hF (fun i hi => ?_) (fun i hi => h1 _ (by omega)) fun i hi => ?_
      · rw [Nat.add_assoc]; exact hu _ (by omega)
      · show CRel w F noMu (cellAt y tt (o + m * z + i)) _
        rw [Nat.add_assoc]; exact h _ (by omega)
omit hR in
theorem field_get {fs : Array Field} {f : Nat} (h : f < fs.size) : ∃ x, fs[f]? = some x ∧ fieldOff fs f = x.offset ∧ fieldT fs f = x.type := by
  have hg : fs[f]? = some fs[f] := Array.getElem?_eq_getElem h
  refine ⟨fs[f], hg, ?_, ?_⟩
  · unfold fieldOff; rw [getO_eq, Array.getElem?_toList, hg]
  · unfold fieldT; rw [getO_eq, Array.getElem?_toList, hg]
theorem fieldAddr_out {t : TypeId} {fs : Array Field} {f : Nat} (ht : und P t = some (.struct fs)) (hf : f < fs.size) (hz : 1 ≤ szOf P (fieldT fs f)) {x : AV} {k : AV → Res} (g : fieldAddr (fieldOff fs f) x k = R) :
    ∃ v, k v = R ∧ Pure1 P (fun u => Instr.fieldAt t u f) x v := by
  obtain ⟨fd, hfd, ho, hft⟩ := field_get hf
  rw [hft] at hz
  obtain ⟨i, _, hi', hsi⟩ := szOf_pos (P := P) (t := fd.type) hz
  have hne : ¬ i.size = 0 := by omega
  have hrun : ∀ (w : World) (a : Addr), (Instr.fieldAt t (.pointer (some a)) f).run P w = .ok (.pointer (some (a.add fd.offset))) w := fun w a => by
    simp [Instr.fieldAt, run_underlying (und_some ht).1, hfd, Instr.sureAddr, fieldPlace, sizeOf, typeInfo, hi', hne]
  rw [ho] at g
  rcases onPtr_out hR g with ⟨b, o, e0, g2⟩ | ⟨tt, o, n, y, e0, g2⟩
  · subst e0; have g := g2
    rw [forceN_eq] at g
    refine ⟨_, g, fun {w F μ u} ha => ?_⟩
    obtain ⟨mp, hmu, rfl⟩ := inv_ptr ha
    refine ⟨_, hrun w _, ?_⟩
    rw [Addr.add_mid, Nat.add_assoc]; exact .ptr hmu
  · subst e0
    obtain ⟨hle, g⟩ := must_out hR g2
    rw [bleN] at hle
    rw [forceN_eq, forceN_eq] at g
    refine ⟨_, g, fun {w F μ u} ha => ?_⟩
    cases ha with
    | vptr us hF hu h1 h =>
      refine ⟨_, hrun w _, ?_⟩
      rw [Addr.add_mid]
      have hlt : ∀ i, i < Nat.sub n fd.offset → fd.offset + i < n := fun i hi => by
        have : i < n - fd.offset := hi
        omega
      refine .vptr (fun i => us (fd.offset + i)) hF (fun i hi => ?_) (fun i hi => h1 _ (hlt i hi)) fun i hi => ?_
      · rw [Nat.add_assoc]; exact hu _ (hlt i hi)
      · show CRel w F noMu (cellAt y tt (o + fd.offset + i)) _
        rw [Nat.add_assoc]; exact h _ (hlt i hi)
omit hR in
theorem known_out {t : TypeId} (h : known P t = true) : ∃ d, und P t = some d := by
  unfold known at h
  cases hu : und P t with
  | none => rw [hu] at h; exact Bool.noConfusion h
  | some d => exact ⟨d, rfl⟩
/-- A part of an aggregate. -/
theorem partK_out {t : TypeId} (hk : ∃ d, und P t = some d) {off : Nat} {x : AV} {k : AV → Res} (g : partK (Go.Proofs.YtlffjnddiiojnaaGreatDoor.Ev.isAgg P t) (szOf P t) off x k = R) :
    ∃ v, k v = R ∧ ∀ {w : World} {F : Nat → Prop} {μ : Mu} {u : Value}, CRel w F μ x u → ∃ cs r, u = .agg cs ∧ (part t cs off).run P w = .ok r w ∧ CRel w F μ v r := by
  obtain ⟨l, n, rfl, g⟩ := onAgg_out hR g
  obtain ⟨hle, g⟩ := must_out hR g
  rw [bleN] at hle
  have hle : off + szOf P t ≤ n := hle
  obtain ⟨d, hd⟩ := hk
  obtain ⟨_, i, hi, hi2⟩ := und_some hd
  cases hag : Go.Proofs.YtlffjnddiiojnaaGreatDoor.Ev.isAgg P t with
  | false =>
    rw [hag] at g
    obtain ⟨hs, g⟩ := must_out hR g
    rw [beqN] at hs
    obtain ⟨_, g⟩ := lget_out hR _ g
    refine ⟨_, g, fun {w F μ u} ha => ?_⟩
    cases ha with
    | agg us hsz hu h1 h =>
      refine ⟨_, us off, rfl, ?_, h off (by omega)⟩
      unfold part
      rw [Sem.run_bind, isAgg_false hag ⟨i, hi2⟩ w ⟨d, hd⟩]
      simp [hu off (by omega)]
  | true =>
    rw [hag] at g
    obtain ⟨l1, ⟨q1, q2⟩, g⟩ := ldrop_out hR _ g
    obtain ⟨l2, ⟨q3, q4, q5⟩, g⟩ := ltake_out hR _ g
    refine ⟨_, g, fun {w F μ u} ha => ?_⟩
    cases ha with
    | @agg _ _ _ cs us hsz hu h1 h =>
      obtain ⟨d', hd', hrow, _⟩ := isAgg_true hag
      rw [hd] at hd'
      cases hd'
      refine ⟨_, .agg (cs.extract off (off + szOf P t)), rfl, ?_, ?_⟩
      · have hagr : (Go.isAgg t).run P w = .ok true w := by
          unfold Go.isAgg
          rw [Sem.run_bind, run_und hd]
          cases d <;> first | rfl | cases hrow
        unfold part
        rw [Sem.run_bind, hagr]
        simp [sizeOf, typeInfo, hi, szOf_info hi2]
      · refine .agg (fun i => us (off + i)) ?_ (fun i hi => ?_) (fun i hi => h1 _ (by omega)) fun i hi => ?_
        · rw [Array.size_extract, hsz]; omega
        · rw [Array.getElem?_extract, if_pos (by rw [hsz]; omega)]; exact hu _ (by omega)
        · rw [q5 i hi, q2]; exact h _ (by omega)
end
end Go.Proofs.YtlffjnddiiojnaaGreatDoor.Ev

/- Indexes, fields, conversions of integers, lengths. -/
namespace Go.Proofs.YtlffjnddiiojnaaGreatDoor.Ev
section
variable {P : Program} {R : Res} (hR : R ≠ .fail)
include hR
theorem field_out {t : TypeId} {fs : Array Field} {f : Nat} (ht : und P t = some (.struct fs)) (hf : f < fs.size) (hk : known P (fieldT fs f) = true) {x : AV} {k : AV → Res} (g : partK (Go.Proofs.YtlffjnddiiojnaaGreatDoor.Ev.isAgg P (fieldT fs f)) (szOf P (fieldT fs f)) (fieldOff fs f) x k = R) :
    ∃ v, k v = R ∧ Pure1 P (fun u => Instr.field t u f) x v := by
  obtain ⟨fd, hfd, ho, hft⟩ := field_get hf
  obtain ⟨v, g, H⟩ := partK_out hR (known_out hk) g
  refine ⟨v, g, fun {w F μ u} ha => ?_⟩
  obtain ⟨cs, r, rfl, hr, hc⟩ := H ha
  rw [ho, hft] at hr
  exact ⟨r, by simp [Instr.field, run_underlying (und_some ht).1, hfd, asAgg, hr], hc⟩
theorem index_out {t e : TypeId} {n : Nat} (ht : und P t = some (.array n e)) (hk : known P e = true) {x j : AV} {k : AV → Res} (g : (idxK j n fun j => partK (Go.Proofs.YtlffjnddiiojnaaGreatDoor.Ev.isAgg P e) (szOf P e) (Nat.mul j (szOf P e)) x k) = R) :
    ∃ v, k v = R ∧ Pure2 P (Instr.index t) x j v := by
  obtain ⟨i, m, rfl, hm, hn, g⟩ := idxK_out hR g
  obtain ⟨v, g, H⟩ := partK_out hR (known_out hk) g
  refine ⟨v, g, fun {w F μ u u'} ha hb => ?_⟩
  obtain ⟨cs, r, rfl, hr, hc⟩ := H ha
  rw [idx_int hn hb]
  obtain ⟨d, hd⟩ := known_out hk
  obtain ⟨_, i', hi, hi2⟩ := und_some hd
  have hr : (part e cs (m * szOf P e)).run P w = .ok r w := hr
  rw [szOf_info hi2] at hr
  have h1 : (m : Int) < (n : Int) := by omega
  refine ⟨r, ?_, hc⟩
  simp [Instr.index, asIntOf, run_underlying (und_some ht).1, sizeOf, typeInfo, hi, hm, hr]
theorem indexStr_out {t : TypeId} (ht : und P t = some .string) {x j : AV} {k : AV → Res} (g : (x.onStr fun s n => idxK j n fun j => intK 4 (Nat.mod (Nat.div s (Nat.pow 256 j)) 256) k) = R) : ∃ v, k v = R ∧ Pure2 P (Instr.index t) x j v := by
  obtain ⟨s, n, rfl, g⟩ := onStr_out hR g
  obtain ⟨i, m, rfl, hm, hn, g⟩ := idxK_out hR g
  rw [intK_eq] at g
  refine ⟨_, g, fun {w F μ u u'} ha hb => ?_⟩
  obtain ⟨B, rfl, h1, h2⟩ := inv_str ha
  rw [idx_int hn hb]
  have hm' : m < B.data.toList.length := by rw [Array.length_toList]; rw [h2] at hm; exact hm
  have hmB : m < B.size := by rw [h2] at hm; exact hm
  have hget : B[m]? = some (B.data.toList[m]) := by
    rw [getElem?_pos B m hmB]; rfl
  refine ⟨.int .u8 ((B.data.toList[m]).toNat : Int), ?_, ?_⟩
  · simp [Instr.index, asIntOf, run_underlying (und_some ht).1, hget]
  · have := packL_get B.data.toList m hm'
    rw [← h1] at this
    have e : Nat.mod (Nat.div s (Nat.pow 256 m)) 256 = (B.data.toList[m]).toNat := this
    rw [e]; exact rel_byte _
theorem extract_out {x : AV} {i : Nat} {fr : Fr} {k : AV → Res} (g : (x.onTup fun t _ => (tget i).get t fr k) = R) : ∃ v, k v = R ∧ Pure1 P (fun u => Instr.extract u i) x v := by
  obtain ⟨t, n, rfl, g⟩ := onTup_out hR g
  obtain ⟨hl, g⟩ := tget_out hR _ g
  refine ⟨_, g, fun {w F μ u} ha => ?_⟩
  cases ha with
  | tup us hl2 hu h =>
    rw [hl2] at hl
    exact ⟨us i, by simp [Instr.extract, hu i hl], h i hl⟩
theorem neg_out {x : AV} {k : AV → Res} (g : (x.onInt fun i n => intK i (Nat.mod (Nat.sub (md i) n) (md i)) k) = R) : ∃ v, k v = R ∧ Pure1 P (Op.unary .neg) x v := by
  obtain ⟨i, n, e0, g'⟩ := onInt_out hR g
  subst e0; clear g; have g := g'; clear g'
  rw [intK_eq] at g
  refine ⟨_, g, fun {w F μ u} ha => ?_⟩
  obtain ⟨hn, rfl⟩ := inv_int ha
  have := T_sub i 0 n (md_pos i) hn
  rw [T_small i 0 (by omega), Nat.zero_add] at this
  refine ⟨.int (kd i) (T i ((md i - n) % md i)), ?_, rel_int (Nat.mod_lt _ (md_pos i))⟩
  rw [← this]
  simp [Op.unary, Op.intArith]
theorem not_out {x : AV} {k : AV → Res} (g : (x.onBool fun b => k (.bool (bnot b))) = R) : ∃ v, k v = R ∧ Pure1 P (Op.unary .not) x v := by
  obtain ⟨b, rfl, g⟩ := onBool_out hR g
  refine ⟨_, g, fun {w F μ u} ha => ?_⟩
  rw [inv_bool ha, bnot_eq]
  exact ⟨_, by simp only [Op.unary, Sem.run_pure], .bool _⟩
theorem cvt_out {s d : TypeId} {k1 k2 : IntKind} (hs : und P s = some (.int k1)) (hd : und P d = some (.int k2)) {x : AV} {k : AV → Res} (g : (x.onInt fun i n => intK (kc k2) (cvt (md i) (hf i) (md (kc k2)) n) k) = R) : ∃ v, k v = R ∧ Pure1 P (convert s d) x v := by
  obtain ⟨i, n, e0, g'⟩ := onInt_out hR g
  subst e0; clear g; have g := g'; clear g'
  rw [intK_eq] at g
  refine ⟨_, g, fun {w F μ u} ha => ?_⟩
  obtain ⟨hn, rfl⟩ := inv_int ha
  obtain ⟨h1, h2⟩ := T_cvt i (kc k2) n hn
  refine ⟨.int k2 (k2.wrap (T i n)), ?_, ?_⟩
  · simp [convert, run_underlying (und_some hs).1, run_underlying (und_some hd).1, Conv.intToInt]
  · have := rel_int (w := w) (F := F) (μ := μ) h2
    rw [← h1, kc_kd] at this; exact this
theorem min_out {x y : AV} {k : AV → Res} (ts : Array TypeId) (ty : TypeId) (g : (x.onInt fun i m => y.onInt fun j n => must (Nat.beq i j) (when (Nat.ble (Nat.mod (Nat.add m (hf i)) (md i)) (Nat.mod (Nat.add n (hf i)) (md i))) (k (.int i m)) (k (.int i n)))) = R) :
    ∃ v, k v = R ∧ Pure2 P (fun u u' => Builtin.min_ ts ty #[u, u']) x y v := by
  obtain ⟨i, m, e0, g'⟩ := onInt_out hR g
  subst e0; clear g; have g := g'; clear g'
  obtain ⟨j, n, e0, g'⟩ := onInt_out hR g
  subst e0; clear g; have g := g'; clear g'
  obtain ⟨hij, g⟩ := must_out hR g
  rw [beqN] at hij
  have hrun : ∀ (w : World) (a c : Int) (q q' : IntKind), (Builtin.min_ ts ty #[.int q a, .int q' c]).run P w = .ok (.int q (if c < a then c else a)) w := fun w a c q q' => by
    simp [Builtin.min_, Builtin.min2]
  rcases when_out hR g with ⟨hc, g⟩ | ⟨hc, g⟩
  · rw [bleN] at hc
    refine ⟨_, g, fun {w F μ u u'} ha hb => ?_⟩
    obtain ⟨h1, rfl⟩ := inv_int ha
    obtain ⟨h2, rfl⟩ := inv_int hb
    rw [← hij] at h2 ⊢
    refine ⟨_, hrun w _ _ _ _, ?_⟩
    have := (T_le i m n h1 h2).2 hc
    rw [if_neg (by omega)]; exact rel_int h1
  · have hc' : ¬ (m + hf i) % md i ≤ (n + hf i) % md i := fun e => by
      have e2 : Nat.ble (Nat.mod (Nat.add m (hf i)) (md i)) (Nat.mod (Nat.add n (hf i)) (md i)) = true := ble_true e
      rw [e2] at hc; cases hc
    refine ⟨_, g, fun {w F μ u u'} ha hb => ?_⟩
    obtain ⟨h1, rfl⟩ := inv_int ha
    obtain ⟨h2, rfl⟩ := inv_int hb
    rw [← hij] at h2 ⊢
    refine ⟨_, hrun w _ _ _ _, ?_⟩
    have := mt (T_le i m n h1 h2).1 hc'
    rw [if_pos (by omega)]; exact rel_int h2
theorem lenK_out {M : Mem} (ok : MemOk M) {V : Env} {q : Nat} {ts : Array TypeId} {t ty : TypeId} (h0 : ts[0]? = some t) (hq : (q = 0 ∧ und V.P t = some .string) ∨ (q = 1 ∧ ∃ e, und V.P t = some (.slice e)) ∨ (q = 2 ∧ ∃ a b, und V.P t = some (.map a b)))
    {x : AV} {hp : Hp} {k : Nat → Res} (g : lenK M q x hp k = R) : ∃ n, k n = R ∧ (q = 2 → SpotLive hp x) ∧ ∀ {w : World} {F : Nat → Prop} {μ : Mu} {u : Value}, CRel w F μ x u → (q = 2 → ReadOk V w F μ hp x) → (Builtin.len_ ts ty #[u]).run V.P w = .ok (goInt (n : Nat)) w := by
  cases x with
  | str s n =>
    obtain ⟨hq0, g⟩ := must_out hR (show must (Nat.beq q 0) (k n) = R from g)
    rw [beqN] at hq0
    refine ⟨_, g, fun e => by omega, fun {w F μ u} ha _ => ?_⟩
    obtain ⟨B, rfl, _, rfl⟩ := inv_str ha
    rcases hq with ⟨_, ht⟩ | ⟨h1, _⟩ | ⟨h1, _⟩
    · simp [Builtin.len_, h0, run_underlying (und_some ht).1]
    · omega
    · omega
  | ms b o n z =>
    obtain ⟨hq0, g⟩ := must_out hR (show must (Nat.beq q 1) (k n) = R from g)
    rw [beqN] at hq0
    refine ⟨_, g, fun e => by omega, fun {w F μ u} ha _ => ?_⟩
    rcases hq with ⟨h1, _⟩ | ⟨_, e, ht⟩ | ⟨h1, _⟩
    · omega
    · cases ha <;> simp [Builtin.len_, h0, run_underlying (und_some ht).1]
    · omega
  | vs tt o n z =>
    obtain ⟨hq0, g⟩ := must_out hR (show must (Nat.beq q 1) (k n) = R from g)
    rw [beqN] at hq0
    refine ⟨_, g, fun e => by omega, fun {w F μ u} ha _ => ?_⟩
    rcases hq with ⟨h1, _⟩ | ⟨_, e, ht⟩ | ⟨h1, _⟩
    · omega
    · cases ha <;> simp [Builtin.len_, h0, run_underlying (und_some ht).1]
    · omega
  | x gg tt a b c =>
    rcases when_out hR (show when (Nat.beq q 1) (must (Nat.beq gg 8 || Nat.beq gg 6) (k 0)) (must (Nat.beq q 2) (when (Nat.beq gg 10) (k 0) (must (Nat.beq gg 4) (hp.get M a fun B => B.onMap fun n _ => k n)))) = R from g) with ⟨hq1, g⟩ | ⟨_, g⟩
    · rw [beqN] at hq1
      obtain ⟨hg, g⟩ := must_out hR g
      rw [Bool.or_eq_true, beqN, beqN] at hg
      refine ⟨_, g, fun e => by omega, fun {w F μ u} ha _ => ?_⟩
      rcases hq with ⟨h1, _⟩ | ⟨_, e, ht⟩ | ⟨h1, _⟩
      · omega
      · rcases hg with rfl | rfl <;> cases ha <;> simp [Builtin.len_, h0, run_underlying (und_some ht).1]
      · omega
    · obtain ⟨hq2, g⟩ := must_out hR g
      rw [beqN] at hq2
      obtain ⟨ta, tb, ht⟩ : ∃ a b, und V.P t = some (.map a b) := by
        rcases hq with ⟨h1, _⟩ | ⟨h1, _⟩ | ⟨_, h⟩
        · omega
        · omega
        · exact h
      rcases when_out hR g with ⟨hg, g⟩ | ⟨_, g⟩
      · rw [beqN] at hg
        refine ⟨_, g, fun _ c hc => (by subst hg; cases hc), fun {w F μ u} ha _ => ?_⟩
        subst hg; cases ha
        simp [Builtin.len_, h0, run_underlying (und_some ht).1]
      · obtain ⟨hg, g⟩ := must_out hR g
        rw [beqN] at hg
        have g := hget_out ok hR g
        obtain ⟨n, tr, hB, g⟩ := onMap_out hR g
        refine ⟨_, g, fun _ c hc => (by subst hg; cases hc; rw [hB]; trivial), fun {w F μ u} ha hr => ?_⟩
        subst hg
        have hb := hr hq2 a rfl
        rw [hB] at hb
        obtain ⟨m, es, clk, h1, h2, _, h4, _⟩ := hb
        cases ha with
        | map hm =>
          rw [hm] at h1; cases h1
          simp [Builtin.len_, h0, run_underlying (und_some ht).1, getObj, Sem.run, h2, h4]
  | _ => exact fail_out hR g
end
end Go.Proofs.YtlffjnddiiojnaaGreatDoor.Ev

/- Aggregates that are built. -/
namespace Go.Proofs.YtlffjnddiiojnaaGreatDoor.Ev
theorem foldl_set (off : Nat) : ∀ (vs : List Value) (j0 : Nat) (cs : Array Value), ((vs.zipIdx j0).foldl (fun (cs : Array Value) (p : Value × Nat) => cs.setIfInBounds (off + p.2) p.1) cs).size = cs.size ∧
    ∀ j, ((vs.zipIdx j0).foldl (fun (cs : Array Value) (p : Value × Nat) => cs.setIfInBounds (off + p.2) p.1) cs)[j]? = if off + j0 ≤ j ∧ j < off + j0 + vs.length ∧ j < cs.size then vs[j - (off + j0)]? else cs[j]?
  | [], j0, cs => ⟨rfl, fun j => by rw [if_neg (by simp only [List.length_nil]; omega)]; rfl⟩
  | v :: r, j0, cs => by
    obtain ⟨h1, h2⟩ := foldl_set off r (j0 + 1) (cs.setIfInBounds (off + j0) v)
    rw [List.zipIdx_cons, List.foldl_cons]
    refine ⟨by rw [h1, Array.size_setIfInBounds], fun j => ?_⟩
    rw [h2 j, Array.size_setIfInBounds, Array.getElem?_setIfInBounds]
    by_cases e : j = off + j0
    · subst e
      rw [if_neg (by omega)]
      by_cases hj : off + j0 < cs.size
      · rw [if_pos rfl, if_pos hj, if_pos ⟨Nat.le_refl _, by simp only [List.length_cons]; omega, hj⟩, Nat.sub_self]; rfl
      · rw [if_pos rfl, if_neg hj, if_neg (by omega), Array.getElem?_eq_none (by omega)]
    · by_cases e1 : off + (j0 + 1) ≤ j ∧ j < off + (j0 + 1) + r.length ∧ j < cs.size
      · rw [if_pos e1, if_pos (by simp only [List.length_cons]; omega), show j - (off + j0) = (j - (off + (j0 + 1))) + 1 by omega]; rfl
      · rw [if_neg e1, if_neg (Ne.symm e), if_neg (by simp only [List.length_cons]; omega)]
/-- A list of cells stands for an array of so many. -/
def LRel (w : World) (F : Nat → Prop) (μ : Mu) (l : Row) (cs : Array Value) (n : Nat) : Prop := cs.size = n ∧ ∀ i, i < n → ∃ y, cs[i]? = some y ∧ y.oneCell' = true ∧ CRel w F μ (nth l i) y
theorem LRel.agg {w : World} {F : Nat → Prop} {μ : Mu} {l : Row} {cs : Array Value} {n : Nat} (h : LRel w F μ l cs n) : CRel w F μ (.agg l n) (.agg cs) := by
  obtain ⟨us, hus⟩ := pick_fn h.2
  exact .agg us h.1 (fun i hi => (hus i hi).1) (fun i hi => (hus i hi).2.1) fun i hi => (hus i hi).2.2
/-- Cells of a list, from a place on, set to a value's. -/
def PSet (l : Row) (off sz : Nat) (v : AV) (l' : Row) : Prop := ∀ j, nth l' j = if off ≤ j ∧ j < off + sz then cv v (j - off) else nth l j
theorem setL_out {R : Res} (hR : R ≠ .fail) {k : Row → Res} (n : Nat) : ∀ {i : Nat} {u l : Row}, (Nat.rec (motive := fun _ => Nat → Row → Row → Res) (fun _ _ l => k l) (fun _ ih i u l => Tr.rec (motive := fun _ => Res) .fail (fun c _ r _ _ => (lset i).f l c fun l => ih (Nat.succ i) r l) u) n i u l : Res) = R →
    ∃ l', k l' = R ∧ ∀ j, nth l' j = if i ≤ j ∧ j < i + n then nth u (j - i) else nth l j := by
  induction n with
  | zero => intro i u l g; exact ⟨l, g, fun j => by rw [if_neg (by omega)]⟩
  | succ n ih =>
    intro i u l g
    cases u with
    | lf => exact fail_out hR g
    | nd c a r =>
      obtain ⟨l1, ⟨_, _, h1⟩, g⟩ := lset_out hR (k := fun l => (Nat.rec (motive := fun _ => Nat → Row → Row → Res) (fun _ _ l => k l) (fun _ ih i u l => Tr.rec (motive := fun _ => Res) .fail (fun c _ r _ _ => (lset i).f l c fun l => ih (Nat.succ i) r l) u) n (Nat.succ i) r l : Res)) i g
      obtain ⟨l', g, h2⟩ := ih g
      refine ⟨l', g, fun j => ?_⟩
      rw [h2 j, h1 j]
      by_cases e : j = i
      · have e1 : ¬ (Nat.succ i ≤ j ∧ j < Nat.succ i + n) := by omega
        have e2 : i ≤ j ∧ j < i + (n + 1) := by omega
        rw [if_neg e1, if_pos e, if_pos e2, e, Nat.sub_self]; rfl
      · by_cases e1 : Nat.succ i ≤ j ∧ j < Nat.succ i + n
        · have e2 : i ≤ j ∧ j < i + (n + 1) := by omega
          rw [if_pos e1, if_pos e2, show j - i = (j - Nat.succ i) + 1 by omega]; rfl
        · have e2 : ¬ (i ≤ j ∧ j < i + (n + 1)) := by omega
          rw [if_neg e1, if_neg e, if_neg e2]
section
variable {M : Mem} (ok : MemOk M) {R : Res} (hR : R ≠ .fail)
include ok hR
theorem setP_out {off sz : Nat} {l : Row} {v : AV} {k : Row → Res} (g : setP off sz l v k = R) : ∃ l', k l' = R ∧ Fits v sz ∧ PSet l off sz v l' := by
  rcases when_out hR g with ⟨hs, g⟩ | ⟨hs, g⟩
  · rw [beqN] at hs
    obtain ⟨c, f, hf, hc, _, g2⟩ := cell1_out ok hR g
    obtain ⟨l', ⟨_, _, hl⟩, g3⟩ := lset_out hR _ g2
    refine ⟨l', g3, by rw [hs]; exact hf, fun j => ?_⟩
    rw [hl j, hc, hs]
    by_cases e : j = off
    · have e2 : off ≤ j ∧ j < off + 1 := by omega
      rw [if_pos e, if_pos e2, show j - off = 0 by omega]
    · have e2 : ¬ (off ≤ j ∧ j < off + 1) := by omega
      rw [if_neg e, if_neg e2]
  · obtain ⟨u, n, e0, g2⟩ := onAgg_out hR g
    subst e0
    obtain ⟨hn, g3⟩ := must_out hR g2
    rw [beqN] at hn
    subst hn
    obtain ⟨l', g4, hl⟩ := setL_out hR _ g3
    exact ⟨l', g4, .agg u n, fun j => hl j⟩
omit ok hR in
/-- One part. -/
theorem LRel.set {w : World} {F : Nat → Prop} {μ : Mu} {l l' : Row} {cs : Array Value} {n off sz : Nat} {v : AV} {u : Value} (h : LRel w F μ l cs n) (hf : Fits v sz) (hv : CRel w F μ v u) (hp : PSet l off sz v l') (hle : off + sz ≤ n) :
    u.cells.size = sz ∧ ¬ (off + u.cells.size > cs.size) ∧ LRel w F μ l' (u.cells.zipIdx.foldl (fun cs (p : Value × Nat) => cs.setIfInBounds (off + p.2) p.1) cs) n := by
  obtain ⟨h1, h2⟩ := cells_rel hf hv
  refine ⟨h1, by rw [h1, h.1]; omega, ?_⟩
  obtain ⟨q1, q2⟩ := foldl_set off u.cells.toList 0 cs
  have e : u.cells.zipIdx.foldl (fun (cs : Array Value) (p : Value × Nat) => cs.setIfInBounds (off + p.2) p.1) cs = (u.cells.toList.zipIdx 0).foldl (fun (cs : Array Value) (p : Value × Nat) => cs.setIfInBounds (off + p.2) p.1) cs := by
    rw [← Array.foldl_toList, Array.toList_zipIdx]
  rw [e]
  refine ⟨by rw [q1, h.1], fun i hi => ?_⟩
  have hl : u.cells.toList.length = sz := by rw [Array.length_toList, h1]
  rw [q2 i, hp i, hl, h.1, Nat.add_zero]
  by_cases c : off ≤ i ∧ i < off + sz
  · rw [if_pos ⟨c.1, c.2, hi⟩, if_pos c]
    obtain ⟨y, r1, r2, r3⟩ := h2 (i - off) (by omega)
    exact ⟨y, by rw [Array.getElem?_toList]; exact r1, r2, r3⟩
  · rw [if_neg (fun q => c ⟨q.1, q.2.1⟩), if_neg c]; exact h.2 i hi
end
end Go.Proofs.YtlffjnddiiojnaaGreatDoor.Ev

/- Operands; aggregates that are built out of parts. -/
namespace Go.Proofs.YtlffjnddiiojnaaGreatDoor.Ev
/-- What a slot's place holds. -/
noncomputable def sv (d : Nat) (s : Src) (sk : Row) (fr : Fr) : AV := match s with
  | .c v => v
  | .s l => nth sk (Nat.sub (Nat.sub d 1) l)
  | .f i => fr.at i
  | .no => .undef
theorem mkRd_out {R : Res} (hR : R ≠ .fail) {d : Nat} {s : Src} {sk : Row} {fr : Fr} {k : AV → Res} (g : (mkRd d s).get sk fr k = R) : k (sv d s sk fr) = R ∧ s ≠ .no ∧ ∀ l, s = .s l → l < d := by
  cases s with
  | c v => exact ⟨g, by simp, fun l e => by simp at e⟩
  | s l =>
    have g' : ((Bool.rec (motive := fun _ => Rd) ⟨fun _ _ _ => .fail⟩ (tget (Nat.sub (Nat.sub d 1) l)) (Nat.ble (Nat.succ l) d) : Rd)).get sk fr k = R := g
    cases hb : Nat.ble (Nat.succ l) d with
    | false => rw [hb] at g'; exact fail_out hR g'
    | true =>
      rw [hb] at g'
      refine ⟨(tget_out hR _ g').2, by simp, fun l' e => ?_⟩
      cases e
      rw [bleN] at hb; exact hb
  | f i => exact ⟨fget_out hR i g, by simp, fun l e => by simp at e⟩
  | no => exact fail_out hR g
/-- What an operand is read as. -/
noncomputable def ov (C : Cx) (g : G) (sk : Row) (fr : Fr) (x : Operand) : AV := sv g.d (src C g x) sk fr
theorem rdO_out {R : Res} (hR : R ≠ .fail) {C : Cx} {g : G} {x : Operand} {sk : Row} {fr : Fr} {k : AV → Res} (h : (rdO C g x).get sk fr k = R) : k (ov C g sk fr x) = R := (mkRd_out hR h).1
section
variable {C : Cx} {g : G} {R : Res} (hR : R ≠ .fail)
theorem uk_out (ok : MemOk C.M) (hR : R ≠ .fail) {o z : Nat → Nat} {sk : Row} {fr : Fr} : ∀ {ps : List (Nat × Operand)} {t : Row} {k : Row → Res}, (uk (partsOf C g ps o z)).f sk fr t k = R →
    ∃ l', k l' = R ∧ ∀ {w : World} {F : Nat → Prop} {μ : Mu} {ρ : Operand → Value} {cs : Array Value} {n : Nat} {place : Nat → Option (Nat × Nat)}, (∀ p ∈ ps, CRel w F μ (ov C g sk fr p.2) (ρ p.2)) → LRel w F μ t cs n → (∀ p ∈ ps, o p.1 + z p.1 ≤ n) →
      (∀ p ∈ ps, place p.1 = some (o p.1, z p.1)) → ∃ cs', Instr.fill place cs (ps.map fun p => (p.1, ρ p.2)) = some cs' ∧ LRel w F μ l' cs' n := by
  intro ps
  induction ps with
  | nil => intro t k h; exact ⟨t, h, fun {w F μ ρ cs n place} _ hl _ _ => ⟨cs, rfl, hl⟩⟩
  | cons p r ih =>
    intro t k h
    have h1 := rdO_out hR (k := fun v => setP (o p.1) (z p.1) t v fun t => (uk (partsOf C g r o z)).f sk fr t k) h
    obtain ⟨l1, h2, hf, hs⟩ := setP_out ok hR h1
    obtain ⟨l', h3, H⟩ := ih h2
    refine ⟨l', h3, fun {w F μ ρ cs n place} hρ hl hle hpl => ?_⟩
    obtain ⟨e1, e2, e3⟩ := hl.set hf (hρ p (List.mem_cons_self ..)) hs (hle p (List.mem_cons_self ..))
    obtain ⟨cs', q1, q2⟩ := H (ρ := ρ) (place := place) (fun q hq => hρ q (List.mem_cons_of_mem _ hq)) e3 (fun q hq => hle q (List.mem_cons_of_mem _ hq)) (fun q hq => hpl q (List.mem_cons_of_mem _ hq))
    refine ⟨cs', ?_, q2⟩
    rw [List.map_cons, Instr.fill, hpl p (List.mem_cons_self ..)]
    simp only []
    rw [if_neg]
    · exact q1
    · simp only [Bool.or_eq_true, decide_eq_true_eq]
      rintro (h | h)
      · exact h e1
      · exact e2 h
end
section
variable {P : Program}
/-- The zero value's list. -/
theorem zeroL_out {t : TypeId} {z : Nat} (h : zeroOk P t z = true) : ∃ i v, infoL P t = some i ∧ P.info? t = some i ∧ i.zero = some v ∧ v.cells.size = z ∧ ∀ w F μ, LRel w F μ (zeroL P t) v.cells z := by
  obtain ⟨i, v, h1, h2, h3, h4, h5⟩ := zeroOk_out h
  refine ⟨i, v, h1, h2, h3, h4, fun w F μ => ⟨h4, fun j hj => ?_⟩⟩
  have hz := zeroAV_some h1 h3
  have hrel := rel_constAV (w := w) (F := F) (μ := μ) v
  rw [← hz] at hrel
  obtain ⟨y, hy, ho, _⟩ := h5 j hj
  refine ⟨y, hy, ho, ?_⟩
  unfold zeroL
  cases hc : zeroAV P t with
  | agg l n =>
    rw [hc] at hrel
    cases hrel with
    | agg us hs hu h1' h =>
      have e : n = z := by rw [← hs]; exact h4
      have hy' := hu j (by omega)
      have e2 := Option.some.inj (hy.symm.trans hy')
      rw [e2]; exact h j (by omega)
  | _ =>
    rw [hc] at hrel
    have hz1 : z = 1 := by
      unfold zeroOk at h; rw [hc] at h
      first
        | (rw [← beqN]; exact h)
        | (rename_i gg _ _ _ _; cases gg with
            | zero => exact Bool.noConfusion h
            | succ gg => rw [← beqN]; exact h)
    subst hz1
    have hj0 : j = 0 := by omega
    subst hj0
    have hna : ∀ cs, v ≠ .agg cs := fun cs e => by
      rw [e, constAV_agg, hc] at hz
      split at hz
      · exact AV.noConfusion hz
      · first
          | exact AV.noConfusion hz
          | (injection hz with e1; subst e1; unfold zeroOk at h; rw [hc] at h; exact Bool.noConfusion h)
    have hy2 : v.cells = #[v] := by cases v <;> first | rfl | exact absurd rfl (hna _)
    rw [hy2] at hy
    have e2 := Option.some.inj hy
    rw [← e2]; exact hrel
end
end Go.Proofs.YtlffjnddiiojnaaGreatDoor.Ev

/- Slices of strings; checks for nil. -/
namespace Go.Proofs.YtlffjnddiiojnaaGreatDoor.Ev
section
variable {P : Program} {R : Res} (hR : R ≠ .fail)
include hR
theorem sliceS_out {t : TypeId} (ht : und P t = some .string) {x : AV} {lo hi : Option AV} {k : AV → Res} (g : sliceS x lo hi k = R) : ∃ v, k v = R ∧ PureS P (Instr.sliceAt t) x lo hi none v := by
  obtain ⟨s, n, e0, g1⟩ := onStr_out hR g
  subst e0
  obtain ⟨l, h, e', m, g3, hl, hh, h1, h2, b1, b2, b3, b4⟩ := bounds_out hR g1
  rw [strK_eq] at g3
  refine ⟨_, g3, fun {w F μ u a b c} ha q1 q2 q3 => ?_⟩
  obtain ⟨B, rfl, r1, r2⟩ := inv_str ha
  have hc : c = none := by
    cases c with
    | none => rfl
    | some v => exact q3.elim
  subst hc
  subst r2
  have hrun := run_bounds (P := P) (s := false) q1 q2 q3 b1 b2 b3 b4 hl hh (fun e => by cases e) (Nat.le_refl B.size)
  refine ⟨.string (B.extract l h), ?_, rel_str ?_ ?_⟩
  · simp [Instr.sliceAt, Instr.slice, run_underlying (und_some ht).1, hrun]
  · have e1 : Nat.mod (Nat.div s (Nat.pow 256 l)) (Nat.pow 256 (Nat.sub h l)) = packL B.data.toList / 256 ^ l % 256 ^ (h - l) := by rw [r1]; rfl
    rw [e1, packL_drop, packL_take, ByteArray.data_extract, Array.toList_extract, List.extract_eq_take_drop]
  · rw [ByteArray.size_extract]
    show h - l = _
    omega
theorem nil_out {x : AV} {k : AV → Res} (g : (x.on (fun _ _ => .fail) (fun _ => .fail) (fun _ _ => .fail) (fun _ _ => k x) (fun _ _ _ _ => .fail) (fun _ _ _ _ => .fail) (fun _ _ => .fail) (fun _ _ => .fail) (fun g _ _ _ _ => must (Nat.beq g 1 || Nat.beq g 3 || Nat.beq g 5 || Nat.beq g 12) (k x))) = R) :
    k x = R ∧ ∀ {w : World} {F : Nat → Prop} {μ : Mu} {u : Value}, CRel w F μ x u → (∃ a, u = .pointer (some a)) ∨ (∃ f fs cs, u = .func (.func f) fs cs) ∨ (∃ l, u = .func (.yield l) #[] #[]) ∨ ∃ t v, u = .iface t v := by
  cases x with
  | ptr b o => exact ⟨g, fun ha => .inl (by obtain ⟨m, _, rfl⟩ := inv_ptr ha; exact ⟨_, rfl⟩)⟩
  | x i t a b c =>
    obtain ⟨hi, g⟩ := must_out hR (show must (Nat.beq i 1 || Nat.beq i 3 || Nat.beq i 5 || Nat.beq i 12) (k (.x i t a b c)) = R from g)
    rw [Bool.or_eq_true, Bool.or_eq_true, Bool.or_eq_true, beqN, beqN, beqN, beqN] at hi
    refine ⟨g, fun ha => ?_⟩
    rcases hi with ((rfl | rfl) | rfl) | rfl <;> cases ha
    · exact .inl ⟨_, rfl⟩
    · exact .inr (.inl ⟨_, _, _, rfl⟩)
    · exact .inr (.inr (.inl ⟨_, rfl⟩))
    · exact .inr (.inr (.inr ⟨_, _, rfl⟩))
  | _ => exact fail_out hR g
end
end Go.Proofs.YtlffjnddiiojnaaGreatDoor.Ev

/- Lists of operands; functions as values. -/
namespace Go.Proofs.YtlffjnddiiojnaaGreatDoor.Ev
section
variable {C : Cx} {g : G} {R : Res} (hR : R ≠ .fail)
include hR
theorem ak_out {sk : Row} {fr : Fr} : ∀ {l : List Operand} {k : Row → Res}, (ak (l.map (rdO C g))).f sk fr k = R → ∃ r, k r = R ∧ len r = l.length ∧ ∀ i x, l[i]? = some x → nth r i = ov C g sk fr x := by
  intro l
  induction l with
  | nil => intro k h; exact ⟨.lf, h, rfl, fun i x e => by cases e⟩
  | cons a r ih =>
    intro k h
    have h1 := rdO_out hR (k := fun v => (ak (r.map (rdO C g))).f sk fr fun t => k (.nd v .lf t)) h
    obtain ⟨t, h2, h3, h4⟩ := ih h1
    refine ⟨_, h2, congrArg (· + 1) h3, fun i x e => ?_⟩
    cases i with
    | zero => cases e; rfl
    | succ i => exact h4 i x e
omit hR in
theorem ov_const {sk : Row} {fr : Fr} {v : Value} {w : World} {F : Nat → Prop} {μ : Mu} : CRel w F μ (ov C g sk fr (.const v)) v := rel_constAV v
omit hR in
/-- A function's value. -/
theorem rel_func {sk : Row} {fr : Fr} {w : World} {F : Nat → Prop} {μ : Mu} {f : FuncId} {ρ : Operand → Value} {a b : Array Operand} {r : Row} (hl : len r = (a.toList ++ b.toList).length) (hr : ∀ i x, (a.toList ++ b.toList)[i]? = some x → nth r i = ov C g sk fr x)
    (h : ∀ x, x ∈ a.toList ++ b.toList → CRel w F μ (ov C g sk fr x) (ρ x)) : CRel w F μ (.x 3 r f a.size b.size) (.func (.func f) (a.map ρ) (b.map ρ)) := by
  have ha : a.toList.length = a.size := Array.length_toList
  have hb : b.toList.length = b.size := Array.length_toList
  have hlen : (a.toList ++ b.toList).length = a.size + b.size := by rw [List.length_append, ha, hb]
  have hx : ∀ i, i < a.size + b.size → ∃ u, ∃ x, (a.toList ++ b.toList)[i]? = some x ∧ u = ρ x := fun i hi => by
    have : i < (a.toList ++ b.toList).length := by rw [hlen]; exact hi
    exact ⟨_, _, List.getElem?_eq_getElem this, rfl⟩
  obtain ⟨us, hus⟩ := pick_fn hx
  refine .fn us (by rw [Array.size_map]) (by rw [Array.size_map]) (by rw [hl, hlen]) (fun i hi => ?_) (fun i hi => ?_) fun i hi => ?_
  · obtain ⟨x, h1, h2⟩ := hus i (by omega)
    rw [List.getElem?_append_left (by rw [ha]; exact hi), Array.getElem?_toList] at h1
    rw [Array.getElem?_map, h1, h2]; rfl
  · obtain ⟨x, h1, h2⟩ := hus (a.size + i) (by omega)
    rw [List.getElem?_append_right (by rw [ha]; omega), ha, show a.size + i - a.size = i by omega, Array.getElem?_toList] at h1
    rw [Array.getElem?_map, h1, h2]; rfl
  · obtain ⟨x, h1, h2⟩ := hus i hi
    rw [hr i x h1, h2]
    exact h x (List.mem_of_getElem? h1)
end
end Go.Proofs.YtlffjnddiiojnaaGreatDoor.Ev
