import Derived.Test.YtflbiiflbehleaaOpen
namespace Go.Proofs.Ytflbiiflbehleaa
open Go.RowKit
theorem Try.fields51 : (Try.prog.underlying 51).map (fun d => match d with | .struct fs => fs.toList.map (fun f => (f.type, f.offset)) | _ => []) = some [(3, 0), (3, 1), (3, 2), (3, 3)] := by kernel_rfl
theorem Try.cells51 : Try.prog.cellsOf 51 = 4 := by kernel_rfl
theorem openCost {H : Type} {enc : TypeId × Value → H} {w : World} {base : Nat} {spare : Nat → Bool} {held : Bool} (n : Nat) : ∀ (cs : List Value) (x : DataW H × List MemPlace),
    DataW.trod enc Try.prog w base spare held n 51 cs = some x → ∃ a b c d : Int, cs = [.int .i64 a, .int .i64 b, .int .i64 c, .int .i64 d] := by
  intro cs x h
  obtain ⟨fs, hu, hfs⟩ : ∃ fs : Array Field, Try.prog.underlying 51 = some (.struct fs) ∧ fs.toList.map (fun f => (f.type, f.offset)) = _ := by
    have hh := Try.fields51
    cases hu : Try.prog.underlying 51 with
    | none => rw [hu] at hh; simp at hh
    | some d => cases d with
      | struct fs => rw [hu] at hh; simp only [Option.map_some, Option.some.injEq] at hh; exact ⟨fs, rfl, hh⟩
      | _ => rw [hu] at hh; simp at hh
  obtain ⟨xs, m, rfl, -, hlen, hxl, hf⟩ := DataW.trod_struct hu h
  rw [Try.cells51] at hlen
  have fld : ∀ (i : Nat) (ty : TypeId) (off : Nat), ((fs.toList.map (fun f => (f.type, f.offset)))[i]? = some (ty, off)) → ∃ y, DataW.trod enc Try.prog w base spare held m ty ((cs.drop off).take (Try.prog.cellsOf ty)) = some y := by
    intro i ty off hi
    rw [List.getElem?_map] at hi
    obtain ⟨f, hfi, he⟩ := Option.map_eq_some_iff.1 hi
    simp only [Prod.mk.injEq] at he
    obtain ⟨rfl, rfl⟩ := he
    have h1 := hf i f (by simpa using hfi)
    have hil : i < xs.length := by
      have := (List.getElem?_eq_some_iff.1 hfi).1
      rw [hxl]; simpa using this
    rw [List.getElem?_eq_getElem hil] at h1
    exact ⟨_, h1⟩
  rw [hfs] at fld
  clear hf hxl h hu hfs
  obtain ⟨c0, c1, c2, c3, rfl⟩ := list4 hlen
  obtain ⟨y0, h0⟩ := fld 0 _ _ rfl
  simp only [Try.cells3, List.drop_zero, List.take_succ_cons, List.take_zero] at h0
  obtain ⟨v0, e0, -, -⟩ := DataW.trod_int Try.under3 h0
  simp only [List.cons.injEq, and_true] at e0
  subst e0
  obtain ⟨y1, h1⟩ := fld 1 _ _ rfl
  simp only [Try.cells3, List.drop_succ_cons, List.drop_zero, List.take_succ_cons, List.take_zero] at h1
  obtain ⟨v1, e1, -, -⟩ := DataW.trod_int Try.under3 h1
  simp only [List.cons.injEq, and_true] at e1
  subst e1
  obtain ⟨y2, h2⟩ := fld 2 _ _ rfl
  simp only [Try.cells3, List.drop_succ_cons, List.drop_zero, List.take_succ_cons, List.take_zero] at h2
  obtain ⟨v2, e2, -, -⟩ := DataW.trod_int Try.under3 h2
  simp only [List.cons.injEq, and_true] at e2
  subst e2
  obtain ⟨y3, h3⟩ := fld 3 _ _ rfl
  simp only [Try.cells3, List.drop_succ_cons, List.drop_zero, List.take_succ_cons, List.take_zero] at h3
  obtain ⟨v3, e3, -, -⟩ := DataW.trod_int Try.under3 h3
  simp only [List.cons.injEq, and_true] at e3
  subst e3
  exact ⟨v0, v1, v2, v3, rfl⟩
set_option maxRecDepth 100000 in
theorem openCost_arg {H : Type} {enc : TypeId × Value → H} {W : World} {base base' : Nat} {spare : Nat → Bool} {held : Bool} {v : Value} {d : DataW H} {p : List MemPlace} {r : Reach}
    (h : Value.okWide Try.prog W r base 51 v) (k : DataW.Trod enc Try.prog W base' spare held 51 v d p) : ∃ a : Int × Int × Int × Int, v = .agg #[.int .i64 a.1, .int .i64 a.2.1, .int .i64 a.2.2.1, .int .i64 a.2.2.2] := by
  obtain ⟨cs, rfl⟩ := okWide_struct' (struct_of Try.fields51) h
  obtain ⟨fuel, k⟩ := k
  obtain ⟨a, b, c, d, e⟩ := openCost fuel _ _ k
  refine ⟨⟨a, b, c, d⟩, ?_⟩
  have e2 : cs = [.int .i64 a, .int .i64 b, .int .i64 c, .int .i64 d].toArray := by
    have := congrArg List.toArray e
    simpa [Value.cells] using this
  rw [e2]
end Go.Proofs.Ytflbiiflbehleaa
