import Derived.Test.YtflbiiflbehleaaData
import Derived.Test.YtflbiiflbehleaaRows
import Derived.ProofKit
namespace Go.Proofs.Ytflbiiflbehleaa
open Go.RowKit
section
variable {H : Type} {enc : TypeId × Value → H} {P : Program} {w : World} {base : Nat} {spare : Nat → Bool} {held : Bool}
theorem add_plain' (b off i : Nat) : (⟨b, off, none⟩ : Addr).add i = ⟨b, off + i, none⟩ := by
  unfold Addr.add; split
  · subst_vars; rfl
  · rfl
/-- A slice that reads, opened: its elements lie where its header says. -/
theorem open_lies {α : Type} {cells : α → List Value} {In : α → Prop} {t e : TypeId} {size n : Nat} {cs : List Value} {x : DataW H × List MemPlace}
    (ht : P.underlying t = some (.slice e)) (hc : P.cellsOf e = size) (h0 : 0 < size) (hl : ∀ a, (cells a).length = size)
    (ho : ∀ m cs x, m < n → DataW.trod enc P w base spare held m e cs = some x → ∃ a, cs = cells a ∧ In a)
    (h : DataW.trod enc P w base spare held n t cs = some x) :
    ∃ p cap l, cs = [.slice p l.length cap] ∧ Lies w p cap size cells l ∧ ∀ y, y ∈ l → In y := by
  rcases DataW.trod_slice ht h with ⟨rfl, _⟩ | ⟨a, len, cap, elems, rest, m, rfl, rfl, _, hb, hle, hm, hlen, hel, _, _⟩
  · exact ⟨none, 0, [], rfl, ⟨⟨Nat.le_refl _, by omega⟩, .inl rfl⟩, fun _ h => by cases h⟩
  · have key : ∀ i : Nat, i < len → ∃ y : α, In y ∧ w.cells? base (a.add (i * size)) size = some (cells y) := by
      intro i hi
      have h1 := hel i hi
      rw [List.getElem?_eq_getElem (by omega), hc] at h1
      obtain ⟨cs', h2, h3⟩ := Option.bind_eq_some_iff.1 h1
      obtain ⟨y, rfl, hy⟩ := ho m cs' _ (by omega) h3
      exact ⟨y, hy, h2⟩
    by_cases hz : len = 0
    · subst hz
      exact ⟨some a, cap, [], rfl, ⟨⟨Nat.zero_le _, hm⟩, .inl rfl⟩, fun _ h => by cases h⟩
    · obtain ⟨y0, _, hy0⟩ := key 0 (by omega)
      obtain ⟨_, hl0, hc0⟩ := World.cells?_some hy0
      have ha : w.cell? a = (cells y0)[0]? := by have := hc0 0 h0; simpa [Addr.add] using this
      obtain ⟨b, off, spot⟩ := a
      have hs : spot = none := by
        cases spot with
        | none => rfl
        | some s =>
          have : (cells y0)[0]? = some ((cells y0)[0]'(by rw [hl]; exact h0)) := List.getElem?_eq_getElem _
          rw [this] at ha
          simp only [World.cell?] at ha
          split at ha <;> simp at ha
      subst hs
      have hblt : b < w.heap.size := by
        have : (cells y0)[0]? = some ((cells y0)[0]'(by rw [hl]; exact h0)) := List.getElem?_eq_getElem _
        rw [this] at ha
        exact cell_lt ha
      let f : Nat → α := fun i => if hi : i < len then Classical.choose (key i hi) else y0
      have hf : ∀ i, i < len → In (f i) ∧ w.cells? base ((⟨b, off, none⟩ : Addr).add (i * size)) size = some (cells (f i)) := by
        intro i hi
        simp only [f, dif_pos hi]
        exact Classical.choose_spec (key i hi)
      refine ⟨some ⟨b, off, none⟩, cap, (List.range len).map f, by simp, ⟨⟨by simpa using hle, hm⟩, .inr ⟨b, off, rfl, hblt, ?_⟩⟩, ?_⟩
      · intro i y hi j v hj
        have hil : i < len := by
          have := (List.getElem?_eq_some_iff.1 hi).1; simpa using this
        have hy : y = f i := by
          rw [List.getElem?_map, List.getElem?_range hil] at hi; simpa using hi.symm
        subst hy
        have hjs : j < size := by
          have := (List.getElem?_eq_some_iff.1 hj).1; rwa [hl] at this
        obtain ⟨_, _, hcc⟩ := World.cells?_some (hf i hil).2
        have := hcc j hjs
        rw [add_plain', add_plain', hj] at this
        exact this
      · intro y hy
        obtain ⟨i, hi, rfl⟩ := List.mem_map.1 hy
        exact (hf i (by simpa using hi)).1
end
theorem list1 {α : Type} {l : List α} (h : l.length = 1) : ∃ c0, l = [c0] := by
  match l, h with
  | [c0], _ => exact ⟨c0, rfl⟩
theorem list2 {α : Type} {l : List α} (h : l.length = 2) : ∃ c0 c1, l = [c0, c1] := by
  match l, h with
  | [c0, c1], _ => exact ⟨c0, c1, rfl⟩
theorem list3 {α : Type} {l : List α} (h : l.length = 3) : ∃ c0 c1 c2, l = [c0, c1, c2] := by
  match l, h with
  | [c0, c1, c2], _ => exact ⟨c0, c1, c2, rfl⟩
theorem list4 {α : Type} {l : List α} (h : l.length = 4) : ∃ c0 c1 c2 c3, l = [c0, c1, c2, c3] := by
  match l, h with
  | [c0, c1, c2, c3], _ => exact ⟨c0, c1, c2, c3, rfl⟩
theorem list5 {α : Type} {l : List α} (h : l.length = 5) : ∃ c0 c1 c2 c3 c4, l = [c0, c1, c2, c3, c4] := by
  match l, h with
  | [c0, c1, c2, c3, c4], _ => exact ⟨c0, c1, c2, c3, c4, rfl⟩
theorem list6 {α : Type} {l : List α} (h : l.length = 6) : ∃ c0 c1 c2 c3 c4 c5, l = [c0, c1, c2, c3, c4, c5] := by
  match l, h with
  | [c0, c1, c2, c3, c4, c5], _ => exact ⟨c0, c1, c2, c3, c4, c5, rfl⟩
theorem list7 {α : Type} {l : List α} (h : l.length = 7) : ∃ c0 c1 c2 c3 c4 c5 c6, l = [c0, c1, c2, c3, c4, c5, c6] := by
  match l, h with
  | [c0, c1, c2, c3, c4, c5, c6], _ => exact ⟨c0, c1, c2, c3, c4, c5, c6, rfl⟩
theorem list8 {α : Type} {l : List α} (h : l.length = 8) : ∃ c0 c1 c2 c3 c4 c5 c6 c7, l = [c0, c1, c2, c3, c4, c5, c6, c7] := by
  match l, h with
  | [c0, c1, c2, c3, c4, c5, c6, c7], _ => exact ⟨c0, c1, c2, c3, c4, c5, c6, c7, rfl⟩
theorem list9 {α : Type} {l : List α} (h : l.length = 9) : ∃ c0 c1 c2 c3 c4 c5 c6 c7 c8, l = [c0, c1, c2, c3, c4, c5, c6, c7, c8] := by
  match l, h with
  | [c0, c1, c2, c3, c4, c5, c6, c7, c8], _ => exact ⟨c0, c1, c2, c3, c4, c5, c6, c7, c8, rfl⟩
theorem list10 {α : Type} {l : List α} (h : l.length = 10) : ∃ c0 c1 c2 c3 c4 c5 c6 c7 c8 c9, l = [c0, c1, c2, c3, c4, c5, c6, c7, c8, c9] := by
  match l, h with
  | [c0, c1, c2, c3, c4, c5, c6, c7, c8, c9], _ => exact ⟨c0, c1, c2, c3, c4, c5, c6, c7, c8, c9, rfl⟩
theorem list11 {α : Type} {l : List α} (h : l.length = 11) : ∃ c0 c1 c2 c3 c4 c5 c6 c7 c8 c9 c10, l = [c0, c1, c2, c3, c4, c5, c6, c7, c8, c9, c10] := by
  match l, h with
  | [c0, c1, c2, c3, c4, c5, c6, c7, c8, c9, c10], _ => exact ⟨c0, c1, c2, c3, c4, c5, c6, c7, c8, c9, c10, rfl⟩
theorem list12 {α : Type} {l : List α} (h : l.length = 12) : ∃ c0 c1 c2 c3 c4 c5 c6 c7 c8 c9 c10 c11, l = [c0, c1, c2, c3, c4, c5, c6, c7, c8, c9, c10, c11] := by
  match l, h with
  | [c0, c1, c2, c3, c4, c5, c6, c7, c8, c9, c10, c11], _ => exact ⟨c0, c1, c2, c3, c4, c5, c6, c7, c8, c9, c10, c11, rfl⟩
theorem okWide_struct' {P : Program} {w : World} {r : Reach} {base : Nat} {t : TypeId} {v : Value} (hu : ∃ fs, P.underlying t = some (.struct fs)) (h : Value.okWide P w r base t v) : ∃ cs, v = .agg cs := by
  obtain ⟨fs, hu⟩ := hu
  unfold Value.okWide at h
  rw [hu] at h
  obtain ⟨cs, h, _⟩ := h
  exact ⟨cs, h⟩
theorem struct_of {P : Program} {t : TypeId} {x : TypeId × Nat} {l : List (TypeId × Nat)} (hh : (P.underlying t).map (fun d => match d with | .struct fs => fs.toList.map (fun f => (f.type, f.offset)) | _ => []) = some (x :: l)) : ∃ fs, P.underlying t = some (.struct fs) := by
  cases hu : P.underlying t with
  | none => rw [hu] at hh; simp at hh
  | some d => cases d with
    | struct fs => exact ⟨fs, rfl⟩
    | _ => rw [hu] at hh; simp at hh
theorem trod_bool' {H : Type} {enc : TypeId × Value → H} {P : Program} {w : World} {base : Nat} {spare : Nat → Bool} {held : Bool} {fuel : Nat} {t : TypeId} {cs : List Value} {x : DataW H × List MemPlace}
    (ht : P.underlying t = some .bool) (h : DataW.trod enc P w base spare held fuel t cs = some x) : ∃ b, cs = [.bool b] ∧ x = (.lit (.bool b), []) := by
  cases fuel with
  | zero => simp [DataW.trod] at h
  | succ n =>
    unfold DataW.trod at h
    rw [ht] at h
    split at h <;> simp_all
theorem Try.under5 : Try.prog.underlying 5 = some (.int .u8) := by kernel_rfl
theorem Try.cells5 : Try.prog.cellsOf 5 = 1 := by kernel_rfl
theorem Try.under2 : Try.prog.underlying 2 = some (.int .i64) := by kernel_rfl
theorem Try.cells2 : Try.prog.cellsOf 2 = 1 := by kernel_rfl
theorem Try.under9 : Try.prog.underlying 9 = some (.string) := by kernel_rfl
theorem Try.cells9 : Try.prog.cellsOf 9 = 1 := by kernel_rfl
theorem Try.under77 : Try.prog.underlying 77 = some (.slice 79) := by kernel_rfl
theorem Try.cells77 : Try.prog.cellsOf 77 = 1 := by kernel_rfl
theorem Try.under4 : Try.prog.underlying 4 = some (.bool) := by kernel_rfl
theorem Try.cells4 : Try.prog.cellsOf 4 = 1 := by kernel_rfl
theorem Try.under3 : Try.prog.underlying 3 = some (.int .i64) := by kernel_rfl
theorem Try.cells3 : Try.prog.cellsOf 3 = 1 := by kernel_rfl
theorem Try.cells79 : Try.prog.cellsOf 79 = 5 := by kernel_rfl
theorem Try.under71 : Try.prog.underlying 71 = some (.int .u64) := by kernel_rfl
theorem Try.cells71 : Try.prog.cellsOf 71 = 1 := by kernel_rfl
theorem Try.under72 : Try.prog.underlying 72 = some (.slice 92) := by kernel_rfl
theorem Try.cells72 : Try.prog.cellsOf 72 = 1 := by kernel_rfl
theorem Try.under64 : Try.prog.underlying 64 = some (.slice 74) := by kernel_rfl
theorem Try.cells64 : Try.prog.cellsOf 64 = 1 := by kernel_rfl
theorem Try.under65 : Try.prog.underlying 65 = some (.slice 81) := by kernel_rfl
theorem Try.cells65 : Try.prog.cellsOf 65 = 1 := by kernel_rfl
theorem Try.under66 : Try.prog.underlying 66 = some (.slice 85) := by kernel_rfl
theorem Try.cells66 : Try.prog.cellsOf 66 = 1 := by kernel_rfl
theorem Try.under22 : Try.prog.underlying 22 = some (.slice 68) := by kernel_rfl
theorem Try.cells22 : Try.prog.cellsOf 22 = 1 := by kernel_rfl
theorem Try.fields79 : (Try.prog.underlying 79).map (fun d => match d with | .struct fs => fs.toList.map (fun f => (f.type, f.offset)) | _ => []) = some [(5, 0), (2, 1), (9, 2), (77, 3), (4, 4)] := by kernel_rfl
theorem Try.fields92 : (Try.prog.underlying 92).map (fun d => match d with | .struct fs => fs.toList.map (fun f => (f.type, f.offset)) | _ => []) = some [(3, 0), (79, 1)] := by kernel_rfl
theorem Try.cells92 : Try.prog.cellsOf 92 = 6 := by kernel_rfl
theorem Try.fields74 : (Try.prog.underlying 74).map (fun d => match d with | .struct fs => fs.toList.map (fun f => (f.type, f.offset)) | _ => []) = some [(3, 0), (3, 1), (71, 2), (72, 3)] := by kernel_rfl
theorem Try.cells74 : Try.prog.cellsOf 74 = 4 := by kernel_rfl
theorem Try.fields81 : (Try.prog.underlying 81).map (fun d => match d with | .struct fs => fs.toList.map (fun f => (f.type, f.offset)) | _ => []) = some [(3, 0), (3, 1), (4, 2), (79, 3)] := by kernel_rfl
theorem Try.cells81 : Try.prog.cellsOf 81 = 8 := by kernel_rfl
theorem Try.fields85 : (Try.prog.underlying 85).map (fun d => match d with | .struct fs => fs.toList.map (fun f => (f.type, f.offset)) | _ => []) = some [(71, 0), (79, 1), (71, 6)] := by kernel_rfl
theorem Try.cells85 : Try.prog.cellsOf 85 = 7 := by kernel_rfl
theorem Try.fields68 : (Try.prog.underlying 68).map (fun d => match d with | .struct fs => fs.toList.map (fun f => (f.type, f.offset)) | _ => []) = some [(5, 0), (2, 1), (64, 2), (65, 3), (66, 4)] := by kernel_rfl
theorem Try.cells68 : Try.prog.cellsOf 68 = 5 := by kernel_rfl
theorem Try.fields24 : (Try.prog.underlying 24).map (fun d => match d with | .struct fs => fs.toList.map (fun f => (f.type, f.offset)) | _ => []) = some [(5, 0), (3, 1), (3, 2), (22, 3)] := by kernel_rfl
theorem Try.cells24 : Try.prog.cellsOf 24 = 4 := by kernel_rfl
theorem openV {H : Type} {enc : TypeId × Value → H} {w : World} {base : Nat} {spare : Nat → Bool} {held : Bool} (n : Nat) : ∀ (cs : List Value) (x : DataW H × List MemPlace),
    DataW.trod enc Try.prog w base spare held n 79 cs = some x → ∃ a : V, cs = a.cells ∧ a.In w := by
  induction n using Nat.strongRecOn with
  | ind n ih =>
  intro cs x h
  obtain ⟨fs, hu, hfs⟩ : ∃ fs : Array Field, Try.prog.underlying 79 = some (.struct fs) ∧ fs.toList.map (fun f => (f.type, f.offset)) = _ := by
    have hh := Try.fields79
    cases hu : Try.prog.underlying 79 with
    | none => rw [hu] at hh; simp at hh
    | some d => cases d with
      | struct fs => rw [hu] at hh; simp only [Option.map_some, Option.some.injEq] at hh; exact ⟨fs, rfl, hh⟩
      | _ => rw [hu] at hh; simp at hh
  obtain ⟨xs, m, rfl, -, hlen, hxl, hf⟩ := DataW.trod_struct hu h
  rw [Try.cells79] at hlen
  have fld : ∀ (i : Nat) (ty : TypeId) (off : Nat), ((fs.toList.map (fun f => (f.type, f.offset)))[i]? = some (ty, off)) → ∃ y, DataW.trod enc Try.prog w base spare held m ty ((cs.drop off).take (Try.prog.cellsOf ty)) = some y := by
    intro i ty off hi
    rw [List.getElem?_map] at hi
    obtain ⟨f, hfi, he⟩ := Option.map_eq_some_iff.1 hi
    simp only [Prod.mk.injEq] at he
    obtain ⟨rfl, rfl⟩ := he
    have h1 := hf i f (by simpa using hfi)
    have hil : i < xs.length := by
      have := (List.getElem?_eq_some_iff.1 hfi).1
      rw [hxl]; simpa using this
    rw [List.getElem?_eq_getElem hil] at h1
    exact ⟨_, h1⟩
  rw [hfs] at fld
  clear hf hxl h hu hfs
  obtain ⟨c0, c1, c2, c3, c4, rfl⟩ := list5 hlen
  obtain ⟨y0, h0⟩ := fld 0 _ _ rfl
  simp only [Try.cells5, List.drop_zero, List.take_succ_cons, List.take_zero] at h0
  obtain ⟨v0, e0, -, -⟩ := DataW.trod_int Try.under5 h0
  simp only [List.cons.injEq, and_true] at e0
  subst e0
  obtain ⟨y1, h1⟩ := fld 1 _ _ rfl
  simp only [Try.cells2, List.drop_succ_cons, List.drop_zero, List.take_succ_cons, List.take_zero] at h1
  obtain ⟨v1, e1, -, -⟩ := DataW.trod_int Try.under2 h1
  simp only [List.cons.injEq, and_true] at e1
  subst e1
  obtain ⟨y2, h2⟩ := fld 2 _ _ rfl
  simp only [Try.cells9, List.drop_succ_cons, List.drop_zero, List.take_succ_cons, List.take_zero] at h2
  obtain ⟨v2, e2, -, -⟩ := DataW.trod_string Try.under9 h2
  simp only [List.cons.injEq, and_true] at e2
  subst e2
  obtain ⟨y3, h3⟩ := fld 3 _ _ rfl
  simp only [Try.cells77, List.drop_succ_cons, List.drop_zero, List.take_succ_cons, List.take_zero] at h3
  obtain ⟨p3, cap3, l3, e3, L3, i3⟩ := open_lies (cells := V.cells) (In := V.In w) Try.under77 Try.cells79 (by decide) (fun _ => rfl) (fun m' cs' x' hm h => ih m' (by omega) cs' x' h) h3
  simp only [List.cons.injEq, and_true] at e3
  subst e3
  obtain ⟨y4, h4⟩ := fld 4 _ _ rfl
  simp only [Try.cells4, List.drop_succ_cons, List.drop_zero, List.take_succ_cons, List.take_zero] at h4
  obtain ⟨v4, e4, -⟩ := trod_bool' Try.under4 h4
  simp only [List.cons.injEq, and_true] at e4
  subst e4
  exact ⟨.mk v0 v1 v2 p3 cap3 l3 v4, rfl, .mk L3 i3⟩
theorem openLoc {H : Type} {enc : TypeId × Value → H} {w : World} {base : Nat} {spare : Nat → Bool} {held : Bool} (n : Nat) : ∀ (cs : List Value) (x : DataW H × List MemPlace),
    DataW.trod enc Try.prog w base spare held n 92 cs = some x → ∃ a : Loc, cs = a.cells ∧ a.In w := by
  intro cs x h
  obtain ⟨fs, hu, hfs⟩ : ∃ fs : Array Field, Try.prog.underlying 92 = some (.struct fs) ∧ fs.toList.map (fun f => (f.type, f.offset)) = _ := by
    have hh := Try.fields92
    cases hu : Try.prog.underlying 92 with
    | none => rw [hu] at hh; simp at hh
    | some d => cases d with
      | struct fs => rw [hu] at hh; simp only [Option.map_some, Option.some.injEq] at hh; exact ⟨fs, rfl, hh⟩
      | _ => rw [hu] at hh; simp at hh
  obtain ⟨xs, m, rfl, -, hlen, hxl, hf⟩ := DataW.trod_struct hu h
  rw [Try.cells92] at hlen
  have fld : ∀ (i : Nat) (ty : TypeId) (off : Nat), ((fs.toList.map (fun f => (f.type, f.offset)))[i]? = some (ty, off)) → ∃ y, DataW.trod enc Try.prog w base spare held m ty ((cs.drop off).take (Try.prog.cellsOf ty)) = some y := by
    intro i ty off hi
    rw [List.getElem?_map] at hi
    obtain ⟨f, hfi, he⟩ := Option.map_eq_some_iff.1 hi
    simp only [Prod.mk.injEq] at he
    obtain ⟨rfl, rfl⟩ := he
    have h1 := hf i f (by simpa using hfi)
    have hil : i < xs.length := by
      have := (List.getElem?_eq_some_iff.1 hfi).1
      rw [hxl]; simpa using this
    rw [List.getElem?_eq_getElem hil] at h1
    exact ⟨_, h1⟩
  rw [hfs] at fld
  clear hf hxl h hu hfs
  obtain ⟨c0, c1, c2, c3, c4, c5, rfl⟩ := list6 hlen
  obtain ⟨y0, h0⟩ := fld 0 _ _ rfl
  simp only [Try.cells3, List.drop_zero, List.take_succ_cons, List.take_zero] at h0
  obtain ⟨v0, e0, -, -⟩ := DataW.trod_int Try.under3 h0
  simp only [List.cons.injEq, and_true] at e0
  subst e0
  obtain ⟨y1, h1⟩ := fld 1 _ _ rfl
  simp only [Try.cells79, List.drop_succ_cons, List.drop_zero, List.take_succ_cons, List.take_zero] at h1
  obtain ⟨v1, e1, i1⟩ := openV m _ _ h1
  simp only [V.cells, List.cons.injEq, and_true] at e1
  obtain ⟨rfl, rfl, rfl, rfl, rfl⟩ := e1
  exact ⟨⟨v0, v1⟩, rfl, ⟨i1⟩⟩
theorem openFr {H : Type} {enc : TypeId × Value → H} {w : World} {base : Nat} {spare : Nat → Bool} {held : Bool} (n : Nat) : ∀ (cs : List Value) (x : DataW H × List MemPlace),
    DataW.trod enc Try.prog w base spare held n 74 cs = some x → ∃ a : Fr, cs = a.cells ∧ a.In w := by
  intro cs x h
  obtain ⟨fs, hu, hfs⟩ : ∃ fs : Array Field, Try.prog.underlying 74 = some (.struct fs) ∧ fs.toList.map (fun f => (f.type, f.offset)) = _ := by
    have hh := Try.fields74
    cases hu : Try.prog.underlying 74 with
    | none => rw [hu] at hh; simp at hh
    | some d => cases d with
      | struct fs => rw [hu] at hh; simp only [Option.map_some, Option.some.injEq] at hh; exact ⟨fs, rfl, hh⟩
      | _ => rw [hu] at hh; simp at hh
  obtain ⟨xs, m, rfl, -, hlen, hxl, hf⟩ := DataW.trod_struct hu h
  rw [Try.cells74] at hlen
  have fld : ∀ (i : Nat) (ty : TypeId) (off : Nat), ((fs.toList.map (fun f => (f.type, f.offset)))[i]? = some (ty, off)) → ∃ y, DataW.trod enc Try.prog w base spare held m ty ((cs.drop off).take (Try.prog.cellsOf ty)) = some y := by
    intro i ty off hi
    rw [List.getElem?_map] at hi
    obtain ⟨f, hfi, he⟩ := Option.map_eq_some_iff.1 hi
    simp only [Prod.mk.injEq] at he
    obtain ⟨rfl, rfl⟩ := he
    have h1 := hf i f (by simpa using hfi)
    have hil : i < xs.length := by
      have := (List.getElem?_eq_some_iff.1 hfi).1
      rw [hxl]; simpa using this
    rw [List.getElem?_eq_getElem hil] at h1
    exact ⟨_, h1⟩
  rw [hfs] at fld
  clear hf hxl h hu hfs
  obtain ⟨c0, c1, c2, c3, rfl⟩ := list4 hlen
  obtain ⟨y0, h0⟩ := fld 0 _ _ rfl
  simp only [Try.cells3, List.drop_zero, List.take_succ_cons, List.take_zero] at h0
  obtain ⟨v0, e0, -, -⟩ := DataW.trod_int Try.under3 h0
  simp only [List.cons.injEq, and_true] at e0
  subst e0
  obtain ⟨y1, h1⟩ := fld 1 _ _ rfl
  simp only [Try.cells3, List.drop_succ_cons, List.drop_zero, List.take_succ_cons, List.take_zero] at h1
  obtain ⟨v1, e1, -, -⟩ := DataW.trod_int Try.under3 h1
  simp only [List.cons.injEq, and_true] at e1
  subst e1
  obtain ⟨y2, h2⟩ := fld 2 _ _ rfl
  simp only [Try.cells71, List.drop_succ_cons, List.drop_zero, List.take_succ_cons, List.take_zero] at h2
  obtain ⟨v2, e2, -, -⟩ := DataW.trod_int Try.under71 h2
  simp only [List.cons.injEq, and_true] at e2
  subst e2
  obtain ⟨y3, h3⟩ := fld 3 _ _ rfl
  simp only [Try.cells72, List.drop_succ_cons, List.drop_zero, List.take_succ_cons, List.take_zero] at h3
  obtain ⟨p3, cap3, l3, e3, L3, i3⟩ := open_lies (cells := Loc.cells) (In := Loc.In w) Try.under72 Try.cells92 (by decide) (fun _ => rfl) (fun m' cs' x' _ h => openLoc m' cs' x' h) h3
  simp only [List.cons.injEq, and_true] at e3
  subst e3
  exact ⟨⟨v0, v1, v2, p3, cap3, l3⟩, rfl, ⟨⟨L3, i3⟩⟩⟩
theorem openDf {H : Type} {enc : TypeId × Value → H} {w : World} {base : Nat} {spare : Nat → Bool} {held : Bool} (n : Nat) : ∀ (cs : List Value) (x : DataW H × List MemPlace),
    DataW.trod enc Try.prog w base spare held n 81 cs = some x → ∃ a : Df, cs = a.cells ∧ a.In w := by
  intro cs x h
  obtain ⟨fs, hu, hfs⟩ : ∃ fs : Array Field, Try.prog.underlying 81 = some (.struct fs) ∧ fs.toList.map (fun f => (f.type, f.offset)) = _ := by
    have hh := Try.fields81
    cases hu : Try.prog.underlying 81 with
    | none => rw [hu] at hh; simp at hh
    | some d => cases d with
      | struct fs => rw [hu] at hh; simp only [Option.map_some, Option.some.injEq] at hh; exact ⟨fs, rfl, hh⟩
      | _ => rw [hu] at hh; simp at hh
  obtain ⟨xs, m, rfl, -, hlen, hxl, hf⟩ := DataW.trod_struct hu h
  rw [Try.cells81] at hlen
  have fld : ∀ (i : Nat) (ty : TypeId) (off : Nat), ((fs.toList.map (fun f => (f.type, f.offset)))[i]? = some (ty, off)) → ∃ y, DataW.trod enc Try.prog w base spare held m ty ((cs.drop off).take (Try.prog.cellsOf ty)) = some y := by
    intro i ty off hi
    rw [List.getElem?_map] at hi
    obtain ⟨f, hfi, he⟩ := Option.map_eq_some_iff.1 hi
    simp only [Prod.mk.injEq] at he
    obtain ⟨rfl, rfl⟩ := he
    have h1 := hf i f (by simpa using hfi)
    have hil : i < xs.length := by
      have := (List.getElem?_eq_some_iff.1 hfi).1
      rw [hxl]; simpa using this
    rw [List.getElem?_eq_getElem hil] at h1
    exact ⟨_, h1⟩
  rw [hfs] at fld
  clear hf hxl h hu hfs
  obtain ⟨c0, c1, c2, c3, c4, c5, c6, c7, rfl⟩ := list8 hlen
  obtain ⟨y0, h0⟩ := fld 0 _ _ rfl
  simp only [Try.cells3, List.drop_zero, List.take_succ_cons, List.take_zero] at h0
  obtain ⟨v0, e0, -, -⟩ := DataW.trod_int Try.under3 h0
  simp only [List.cons.injEq, and_true] at e0
  subst e0
  obtain ⟨y1, h1⟩ := fld 1 _ _ rfl
  simp only [Try.cells3, List.drop_succ_cons, List.drop_zero, List.take_succ_cons, List.take_zero] at h1
  obtain ⟨v1, e1, -, -⟩ := DataW.trod_int Try.under3 h1
  simp only [List.cons.injEq, and_true] at e1
  subst e1
  obtain ⟨y2, h2⟩ := fld 2 _ _ rfl
  simp only [Try.cells4, List.drop_succ_cons, List.drop_zero, List.take_succ_cons, List.take_zero] at h2
  obtain ⟨v2, e2, -⟩ := trod_bool' Try.under4 h2
  simp only [List.cons.injEq, and_true] at e2
  subst e2
  obtain ⟨y3, h3⟩ := fld 3 _ _ rfl
  simp only [Try.cells79, List.drop_succ_cons, List.drop_zero, List.take_succ_cons, List.take_zero] at h3
  obtain ⟨v3, e3, i3⟩ := openV m _ _ h3
  simp only [V.cells, List.cons.injEq, and_true] at e3
  obtain ⟨rfl, rfl, rfl, rfl, rfl⟩ := e3
  exact ⟨⟨v0, v1, v2, v3⟩, rfl, ⟨i3⟩⟩
theorem openPn {H : Type} {enc : TypeId × Value → H} {w : World} {base : Nat} {spare : Nat → Bool} {held : Bool} (n : Nat) : ∀ (cs : List Value) (x : DataW H × List MemPlace),
    DataW.trod enc Try.prog w base spare held n 85 cs = some x → ∃ a : Pn, cs = a.cells ∧ a.In w := by
  intro cs x h
  obtain ⟨fs, hu, hfs⟩ : ∃ fs : Array Field, Try.prog.underlying 85 = some (.struct fs) ∧ fs.toList.map (fun f => (f.type, f.offset)) = _ := by
    have hh := Try.fields85
    cases hu : Try.prog.underlying 85 with
    | none => rw [hu] at hh; simp at hh
    | some d => cases d with
      | struct fs => rw [hu] at hh; simp only [Option.map_some, Option.some.injEq] at hh; exact ⟨fs, rfl, hh⟩
      | _ => rw [hu] at hh; simp at hh
  obtain ⟨xs, m, rfl, -, hlen, hxl, hf⟩ := DataW.trod_struct hu h
  rw [Try.cells85] at hlen
  have fld : ∀ (i : Nat) (ty : TypeId) (off : Nat), ((fs.toList.map (fun f => (f.type, f.offset)))[i]? = some (ty, off)) → ∃ y, DataW.trod enc Try.prog w base spare held m ty ((cs.drop off).take (Try.prog.cellsOf ty)) = some y := by
    intro i ty off hi
    rw [List.getElem?_map] at hi
    obtain ⟨f, hfi, he⟩ := Option.map_eq_some_iff.1 hi
    simp only [Prod.mk.injEq] at he
    obtain ⟨rfl, rfl⟩ := he
    have h1 := hf i f (by simpa using hfi)
    have hil : i < xs.length := by
      have := (List.getElem?_eq_some_iff.1 hfi).1
      rw [hxl]; simpa using this
    rw [List.getElem?_eq_getElem hil] at h1
    exact ⟨_, h1⟩
  rw [hfs] at fld
  clear hf hxl h hu hfs
  obtain ⟨c0, c1, c2, c3, c4, c5, c6, rfl⟩ := list7 hlen
  obtain ⟨y0, h0⟩ := fld 0 _ _ rfl
  simp only [Try.cells71, List.drop_zero, List.take_succ_cons, List.take_zero] at h0
  obtain ⟨v0, e0, -, -⟩ := DataW.trod_int Try.under71 h0
  simp only [List.cons.injEq, and_true] at e0
  subst e0
  obtain ⟨y1, h1⟩ := fld 1 _ _ rfl
  simp only [Try.cells79, List.drop_succ_cons, List.drop_zero, List.take_succ_cons, List.take_zero] at h1
  obtain ⟨v1, e1, i1⟩ := openV m _ _ h1
  simp only [V.cells, List.cons.injEq, and_true] at e1
  obtain ⟨rfl, rfl, rfl, rfl, rfl⟩ := e1
  obtain ⟨y2, h2⟩ := fld 2 _ _ rfl
  simp only [Try.cells71, List.drop_succ_cons, List.drop_zero, List.take_succ_cons, List.take_zero] at h2
  obtain ⟨v2, e2, -, -⟩ := DataW.trod_int Try.under71 h2
  simp only [List.cons.injEq, and_true] at e2
  subst e2
  exact ⟨⟨v0, v1, v2⟩, rfl, ⟨i1⟩⟩
theorem openRo {H : Type} {enc : TypeId × Value → H} {w : World} {base : Nat} {spare : Nat → Bool} {held : Bool} (n : Nat) : ∀ (cs : List Value) (x : DataW H × List MemPlace),
    DataW.trod enc Try.prog w base spare held n 68 cs = some x → ∃ a : Ro, cs = a.cells ∧ a.In w := by
  intro cs x h
  obtain ⟨fs, hu, hfs⟩ : ∃ fs : Array Field, Try.prog.underlying 68 = some (.struct fs) ∧ fs.toList.map (fun f => (f.type, f.offset)) = _ := by
    have hh := Try.fields68
    cases hu : Try.prog.underlying 68 with
    | none => rw [hu] at hh; simp at hh
    | some d => cases d with
      | struct fs => rw [hu] at hh; simp only [Option.map_some, Option.some.injEq] at hh; exact ⟨fs, rfl, hh⟩
      | _ => rw [hu] at hh; simp at hh
  obtain ⟨xs, m, rfl, -, hlen, hxl, hf⟩ := DataW.trod_struct hu h
  rw [Try.cells68] at hlen
  have fld : ∀ (i : Nat) (ty : TypeId) (off : Nat), ((fs.toList.map (fun f => (f.type, f.offset)))[i]? = some (ty, off)) → ∃ y, DataW.trod enc Try.prog w base spare held m ty ((cs.drop off).take (Try.prog.cellsOf ty)) = some y := by
    intro i ty off hi
    rw [List.getElem?_map] at hi
    obtain ⟨f, hfi, he⟩ := Option.map_eq_some_iff.1 hi
    simp only [Prod.mk.injEq] at he
    obtain ⟨rfl, rfl⟩ := he
    have h1 := hf i f (by simpa using hfi)
    have hil : i < xs.length := by
      have := (List.getElem?_eq_some_iff.1 hfi).1
      rw [hxl]; simpa using this
    rw [List.getElem?_eq_getElem hil] at h1
    exact ⟨_, h1⟩
  rw [hfs] at fld
  clear hf hxl h hu hfs
  obtain ⟨c0, c1, c2, c3, c4, rfl⟩ := list5 hlen
  obtain ⟨y0, h0⟩ := fld 0 _ _ rfl
  simp only [Try.cells5, List.drop_zero, List.take_succ_cons, List.take_zero] at h0
  obtain ⟨v0, e0, -, -⟩ := DataW.trod_int Try.under5 h0
  simp only [List.cons.injEq, and_true] at e0
  subst e0
  obtain ⟨y1, h1⟩ := fld 1 _ _ rfl
  simp only [Try.cells2, List.drop_succ_cons, List.drop_zero, List.take_succ_cons, List.take_zero] at h1
  obtain ⟨v1, e1, -, -⟩ := DataW.trod_int Try.under2 h1
  simp only [List.cons.injEq, and_true] at e1
  subst e1
  obtain ⟨y2, h2⟩ := fld 2 _ _ rfl
  simp only [Try.cells64, List.drop_succ_cons, List.drop_zero, List.take_succ_cons, List.take_zero] at h2
  obtain ⟨p2, cap2, l2, e2, L2, i2⟩ := open_lies (cells := Fr.cells) (In := Fr.In w) Try.under64 Try.cells74 (by decide) (fun _ => rfl) (fun m' cs' x' _ h => openFr m' cs' x' h) h2
  simp only [List.cons.injEq, and_true] at e2
  subst e2
  obtain ⟨y3, h3⟩ := fld 3 _ _ rfl
  simp only [Try.cells65, List.drop_succ_cons, List.drop_zero, List.take_succ_cons, List.take_zero] at h3
  obtain ⟨p3, cap3, l3, e3, L3, i3⟩ := open_lies (cells := Df.cells) (In := Df.In w) Try.under65 Try.cells81 (by decide) (fun _ => rfl) (fun m' cs' x' _ h => openDf m' cs' x' h) h3
  simp only [List.cons.injEq, and_true] at e3
  subst e3
  obtain ⟨y4, h4⟩ := fld 4 _ _ rfl
  simp only [Try.cells66, List.drop_succ_cons, List.drop_zero, List.take_succ_cons, List.take_zero] at h4
  obtain ⟨p4, cap4, l4, e4, L4, i4⟩ := open_lies (cells := Pn.cells) (In := Pn.In w) Try.under66 Try.cells85 (by decide) (fun _ => rfl) (fun m' cs' x' _ h => openPn m' cs' x' h) h4
  simp only [List.cons.injEq, and_true] at e4
  subst e4
  exact ⟨⟨v0, v1, p2, cap2, l2, p3, cap3, l3, p4, cap4, l4⟩, rfl, ⟨⟨L2, i2⟩, ⟨L3, i3⟩, ⟨L4, i4⟩⟩⟩
theorem openSt {H : Type} {enc : TypeId × Value → H} {w : World} {base : Nat} {spare : Nat → Bool} {held : Bool} (n : Nat) : ∀ (cs : List Value) (x : DataW H × List MemPlace),
    DataW.trod enc Try.prog w base spare held n 24 cs = some x → ∃ a : St, cs = a.cells ∧ a.In w := by
  intro cs x h
  obtain ⟨fs, hu, hfs⟩ : ∃ fs : Array Field, Try.prog.underlying 24 = some (.struct fs) ∧ fs.toList.map (fun f => (f.type, f.offset)) = _ := by
    have hh := Try.fields24
    cases hu : Try.prog.underlying 24 with
    | none => rw [hu] at hh; simp at hh
    | some d => cases d with
      | struct fs => rw [hu] at hh; simp only [Option.map_some, Option.some.injEq] at hh; exact ⟨fs, rfl, hh⟩
      | _ => rw [hu] at hh; simp at hh
  obtain ⟨xs, m, rfl, -, hlen, hxl, hf⟩ := DataW.trod_struct hu h
  rw [Try.cells24] at hlen
  have fld : ∀ (i : Nat) (ty : TypeId) (off : Nat), ((fs.toList.map (fun f => (f.type, f.offset)))[i]? = some (ty, off)) → ∃ y, DataW.trod enc Try.prog w base spare held m ty ((cs.drop off).take (Try.prog.cellsOf ty)) = some y := by
    intro i ty off hi
    rw [List.getElem?_map] at hi
    obtain ⟨f, hfi, he⟩ := Option.map_eq_some_iff.1 hi
    simp only [Prod.mk.injEq] at he
    obtain ⟨rfl, rfl⟩ := he
    have h1 := hf i f (by simpa using hfi)
    have hil : i < xs.length := by
      have := (List.getElem?_eq_some_iff.1 hfi).1
      rw [hxl]; simpa using this
    rw [List.getElem?_eq_getElem hil] at h1
    exact ⟨_, h1⟩
  rw [hfs] at fld
  clear hf hxl h hu hfs
  obtain ⟨c0, c1, c2, c3, rfl⟩ := list4 hlen
  obtain ⟨y0, h0⟩ := fld 0 _ _ rfl
  simp only [Try.cells5, List.drop_zero, List.take_succ_cons, List.take_zero] at h0
  obtain ⟨v0, e0, -, -⟩ := DataW.trod_int Try.under5 h0
  simp only [List.cons.injEq, and_true] at e0
  subst e0
  obtain ⟨y1, h1⟩ := fld 1 _ _ rfl
  simp only [Try.cells3, List.drop_succ_cons, List.drop_zero, List.take_succ_cons, List.take_zero] at h1
  obtain ⟨v1, e1, -, -⟩ := DataW.trod_int Try.under3 h1
  simp only [List.cons.injEq, and_true] at e1
  subst e1
  obtain ⟨y2, h2⟩ := fld 2 _ _ rfl
  simp only [Try.cells3, List.drop_succ_cons, List.drop_zero, List.take_succ_cons, List.take_zero] at h2
  obtain ⟨v2, e2, -, -⟩ := DataW.trod_int Try.under3 h2
  simp only [List.cons.injEq, and_true] at e2
  subst e2
  obtain ⟨y3, h3⟩ := fld 3 _ _ rfl
  simp only [Try.cells22, List.drop_succ_cons, List.drop_zero, List.take_succ_cons, List.take_zero] at h3
  obtain ⟨p3, cap3, l3, e3, L3, i3⟩ := open_lies (cells := Ro.cells) (In := Ro.In w) Try.under22 Try.cells68 (by decide) (fun _ => rfl) (fun m' cs' x' _ h => openRo m' cs' x' h) h3
  simp only [List.cons.injEq, and_true] at e3
  subst e3
  exact ⟨⟨v0, v1, v2, p3, cap3, l3⟩, rfl, ⟨⟨L3, i3⟩⟩⟩
set_option maxRecDepth 100000 in
theorem openV_arg {H : Type} {enc : TypeId × Value → H} {W : World} {base base' : Nat} {spare : Nat → Bool} {held : Bool} {v : Value} {d : DataW H} {p : List MemPlace} {r : Reach}
    (h : Value.okWide Try.prog W r base 79 v) (k : DataW.Trod enc Try.prog W base' spare held 79 v d p) : ∃ a : V, v = a.agg ∧ a.In W := by
  obtain ⟨cs, rfl⟩ := okWide_struct' (struct_of Try.fields79) h
  obtain ⟨fuel, k⟩ := k
  obtain ⟨a, e, i⟩ := openV fuel _ _ k
  refine ⟨a, ?_, i⟩
  have e2 : cs = a.cells.toArray := by
    have := congrArg List.toArray e
    simpa [Value.cells] using this
  rw [e2]; rfl
set_option maxRecDepth 100000 in
theorem openSt_arg {H : Type} {enc : TypeId × Value → H} {W : World} {base base' : Nat} {spare : Nat → Bool} {held : Bool} {v : Value} {d : DataW H} {p : List MemPlace} {r : Reach}
    (h : Value.okWide Try.prog W r base 24 v) (k : DataW.Trod enc Try.prog W base' spare held 24 v d p) : ∃ a : St, v = a.agg ∧ a.In W := by
  obtain ⟨cs, rfl⟩ := okWide_struct' (struct_of Try.fields24) h
  obtain ⟨fuel, k⟩ := k
  obtain ⟨a, e, i⟩ := openSt fuel _ _ k
  refine ⟨a, ?_, i⟩
  have e2 : cs = a.cells.toArray := by
    have := congrArg List.toArray e
    simpa [Value.cells] using this
  rw [e2]; rfl
end Go.Proofs.Ytflbiiflbehleaa
