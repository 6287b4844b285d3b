import Derived.Test.YtlffjnddiiojnaaGreatDoorEvH
import Derived.Test.YtlffjnddiiojnaaGreatDoorEvG
import Derived.Shelf.Small.Bits
import Derived.Shelf.Utf8.RuneCount
import Derived.Shelf.Strconv.Atoi
import Derived.Shelf.Strconv.Itoa0
import Derived.Shelf.Strconv.Itoa1
import Derived.Shelf.LaysM
import Derived.Shelf.Strconv.Itoa2
import Derived.Shelf.Strconv.Itoa3
import Derived.Shelf.Strconv.AtoiErrFast
import Derived.Shelf.Strconv.ParseIntEmpty
import Derived.Shelf.Strconv.AtoiFail
import Derived.Shelf.Strconv.Clone
import Derived.Shelf.Strconv.SyntaxError
import Derived.Shelf.LaysC
import Derived.Shelf.Strconv.ToError
import Derived.Shelf.Strconv.AtoiErr
import Derived.Shelf.Strings.Search1
import Derived.Shelf.Strings.Search2
import Derived.Shelf.Strings.Search3
import Derived.Shelf.Strings.Count
import Derived.Shelf.Strings.Shaped
import Derived.Shelf.Strings.Split
import Derived.Shelf.Strings.Fields
import Derived.Shelf.Strings.SplitShaped
import Derived.Shelf.Unicode.Latin
import Derived.Shelf.Unicode.Decode
import Derived.Shelf.Strings.RuneCount
import Derived.Shelf.Strings.Explode
import Derived.Shelf.Unicode.DecodeSlow
import Derived.Shelf.Unicode.DecodeAny
import Derived.Shelf.Unicode.Is16White
import Derived.Shelf.Unicode.IsSpaceAny
import Derived.Shelf.Unicode.Is16Any
import Derived.Shelf.Unicode.Is32Any
import Derived.Shelf.Unicode.ExclAny
import Derived.Ground.Names2Prog
import Derived.Shelf.Slices.CompactI
import Derived.Shelf.Slices.SearchI
import Derived.Shelf.Slices.Cells
import Derived.Test.YtlffjnddiiojnaaGreatDoorProg
/- What is known of the library's variables: strings.asciiSpace, and that internal/bytealg.MaxLen is a number, strconv.ErrSyntax an error. -/
open Go Go.Proofs.YtlffjnddiiojnaaGreatDoor.Ev
namespace Go.Proofs.YtlffjnddiiojnaaGreatDoor.Tz
def asc (i : Nat) : Nat := if i = 32 ∨ (9 ≤ i ∧ i ≤ 13) then 1 else 0
def GW (mx es : Nat) (w : World) : Prop := (∀ i, i < 256 → w.cell? ⟨0, i, none⟩ = some (.int .u8 (asc i))) ∧ (∃ m, w.cell? ⟨mx, 0, none⟩ = some (.int .i64 m)) ∧ ∃ ev, w.cell? ⟨es, 0, none⟩ = some ev ∧ (ev = .nilIface ∨ ∃ te pe, ev = .iface te pe)
theorem GW.keep {mx es nG : Nat} (h0 : 0 < nG) (h1 : mx < nG) (h2 : es < nG) {w w' : World} (h : GW mx es w) (hk : ∀ B, B < nG → w'.heap[B]? = w.heap[B]?) : GW mx es w' := by
  have e : ∀ B o, B < nG → w'.cell? ⟨B, o, none⟩ = w.cell? ⟨B, o, none⟩ := fun B o hB => by simp only [World.cell?, hk B hB]
  refine ⟨fun i hi => (e 0 i h0).trans (h.1 i hi), ?_, ?_⟩
  · obtain ⟨m, hm⟩ := h.2.1
    exact ⟨m, (e mx 0 h1).trans hm⟩
  · obtain ⟨ev, hm, hx⟩ := h.2.2
    exact ⟨ev, (e es 0 h2).trans hm, hx⟩
theorem asc_row : (List.range 256).all (fun i => eqTt (.nd (cellAt 1 ascRow i) .lf .lf) (.nd (.int 4 (asc i)) .lf .lf)) = true := by kernel_rfl
theorem asc_at (i : Nat) (h : i < 256) : cellAt 1 ascRow i = .int 4 (asc i) := by
  have := List.all_eq_true.1 asc_row i (List.mem_range.2 h)
  have e := eqTt_out _ _ this
  injection e
theorem asc_rel {P : Program} {vs : Vs} {mx es : Nat} (hG : vs.G = GW mx es) (hn : 0 < vs.nG) {w : World} {F : Nat → Prop} {μ : Mu} (h : Env.Glo ⟨P, vs⟩ w F) : CRel w F μ (.x 1 ascRow 0 256 1) (.pointer (some ⟨0, 0, none⟩)) := by
  obtain ⟨h1, h2⟩ := h
  have h1' : vs.G w := h1
  rw [hG] at h1'
  refine .vptr (fun i => .int .u8 (asc i)) (h2 0 hn) (fun i hi => by simpa using h1'.1 i hi) (fun _ _ => rfl) fun i hi => ?_
  rw [Nat.zero_add, asc_at i hi]
  have e : (Value.int .u8 (asc i)) = .int (kd 4) ((kd 4).wrap (asc i)) := by
    unfold asc; split <;> rfl
  rw [e]
  exact .int (by unfold asc; split <;> decide)
theorem glk_of {vs : Vs} {mx es : Nat} (hG : vs.G = GW mx es) (hn : 0 < vs.nG) {C : Cx} (hg : C.gl = gls) : GlOk C vs := fun p hp => by
  rw [hg] at hp
  have e : p = (0, .x 1 ascRow 0 256 1) := by
    rcases List.mem_cons.1 hp with h | h
    · exact h
    · cases h
  subst e
  exact ⟨⟨_, _, _, _, rfl⟩, fun w F μ h => asc_rel hG hn h⟩
theorem dfq {o : Option Dfd} {q : Dfd} {n : Nat} (e : o.map Dfd.g = some n) (h : o = some q) : q.g = n := by subst h; simpa using e
end Go.Proofs.YtlffjnddiiojnaaGreatDoor.Tz

/-
  DERIVED: THE SHELF's CONTRACTS AT THIS DUMP, IN PLAIN WORDS (tools/lay-plain.mjs out of 'TryzShelf.lean', which tools/lay-shelf.mjs wrote): THE SAME DECLARATIONS UNDER THE SAME NAMES: 'import', 'namespace', 'open', 'def', 'theorem' AND NOTHING ELSE: no command of the shelf's: FOR A HAND-IN. Each laying: the table of numbers ('.._ren') and one theorem, a field a fact of the dump's own or the kernel's comparison; each contract: ONE APPLICATION.
-/
namespace Go.Proofs
open Go.Shelf
def Tryz.lays172_ren : Go.Shelf.Ren := ⟨fun | 172 => 164 | 244 => 253 | 245 => 254 | 247 => 303 | 279 => 304 | 280 => 305 | 281 => 306 | 282 => 307 | 287 => 328 | 316 => 329 | 171 => 166 | 205 => 330 | 321 => 343 | 322 => 344 | 243 => 255 | 246 => 308 | 283 => 331 | 284 => 332 | 285 => 333 | 286 => 334 | 129 => 346 | 317 => 345 | 318 => 347 | 319 => 348 | 320 => 349 | 337 => 362 | 338 => 363 | n => n, fun | 9 => 9 | 3 => 3 | 75 => 271 | 76 => 272 | 4 => 4 | 5 => 5 | 167 => 399 | 37 => 31 | 0 => 0 | 85 => 400 | 2 => 2 | 168 => 402 | 53 => 30 | 175 => 432 | 46 => 118 | 210 => 436 | 127 => 449 | 145 => 452 | 143 => 450 | 21 => 21 | 171 => 438 | 173 => 441 | 212 => 454 | 51 => 396 | 20 => 20 | 213 => 455 | 232 => 474 | 233 => 475 | 80 => 478 | n => n, fun | 15 => 2 | 16 => 3 | 17 => 5 | 18 => 8 | 19 => 9 | n => n⟩
theorem Tryz.lays172 : Go.Proofs.Lays.n172 Tryz.prog Tryz.lays172_ren := {
  mixed := by kernel_rfl
  f129 := Tryz.func346.trans (congrArg some (by kernel_rfl))
  f171 := Tryz.func166.trans (congrArg some (by kernel_rfl))
  f172 := Tryz.func164.trans (congrArg some (by kernel_rfl))
  f205 := Tryz.func330.trans (congrArg some (by kernel_rfl))
  f243 := Tryz.func255.trans (congrArg some (by kernel_rfl))
  f244 := Tryz.func253.trans (congrArg some (by kernel_rfl))
  f245 := Tryz.func254.trans (congrArg some (by kernel_rfl))
  f246 := Tryz.func308.trans (congrArg some (by kernel_rfl))
  f247 := Tryz.func303.trans (congrArg some (by kernel_rfl))
  f279 := Tryz.func304.trans (congrArg some (by kernel_rfl))
  f280 := Tryz.func305.trans (congrArg some (by kernel_rfl))
  f281 := Tryz.func306.trans (congrArg some (by kernel_rfl))
  f282 := Tryz.func307.trans (congrArg some (by kernel_rfl))
  f283 := Tryz.func331.trans (congrArg some (by kernel_rfl))
  f284 := Tryz.func332.trans (congrArg some (by kernel_rfl))
  f285 := Tryz.func333.trans (congrArg some (by kernel_rfl))
  f286 := Tryz.func334.trans (congrArg some (by kernel_rfl))
  f287 := Tryz.func328.trans (congrArg some (by kernel_rfl))
  f316 := Tryz.func329.trans (congrArg some (by kernel_rfl))
  f317 := Tryz.func345.trans (congrArg some (by kernel_rfl))
  f318 := Tryz.func347.trans (congrArg some (by kernel_rfl))
  f319 := Tryz.func348.trans (congrArg some (by kernel_rfl))
  f320 := Tryz.func349.trans (congrArg some (by kernel_rfl))
  f321 := Tryz.func343.trans (congrArg some (by kernel_rfl))
  f322 := Tryz.func344.trans (congrArg some (by kernel_rfl))
  f337 := Tryz.func362.trans (congrArg some (by kernel_rfl))
  f338 := Tryz.func363.trans (congrArg some (by kernel_rfl))
  t0 := Tryz.underlying0
  a0 := Tryz.isAgg0
  z0 := Tryz.sizeOf0
  v0 := Tryz.zeroValue0
  t2 := Tryz.underlying2
  a2 := Tryz.isAgg2
  z2 := Tryz.sizeOf2
  v2 := Tryz.zeroValue2
  t3 := Tryz.underlying3
  a3 := Tryz.isAgg3
  z3 := Tryz.sizeOf3
  v3 := Tryz.zeroValue3
  t4 := Tryz.underlying4
  a4 := Tryz.isAgg4
  z4 := Tryz.sizeOf4
  v4 := Tryz.zeroValue4
  t5 := Tryz.underlying5
  a5 := Tryz.isAgg5
  z5 := Tryz.sizeOf5
  v5 := Tryz.zeroValue5
  t9 := Tryz.underlying9
  a9 := Tryz.isAgg9
  z9 := Tryz.sizeOf9
  v9 := Tryz.zeroValue9
  t20 := Tryz.underlying20
  a20 := Tryz.isAgg20
  z20 := Tryz.sizeOf20
  v20 := Tryz.zeroValue20
  t21 := Tryz.underlying21
  a21 := Tryz.isAgg21
  z21 := Tryz.sizeOf21
  v21 := Tryz.zeroValue21
  t37 := Tryz.underlying31
  a37 := Tryz.isAgg31
  z37 := Tryz.sizeOf31
  v37 := Tryz.zeroValue31
  t46 := Tryz.underlying118
  a46 := Tryz.isAgg118
  z46 := Tryz.sizeOf118
  v46 := Tryz.zeroValue118
  t51 := Tryz.underlying396
  a51 := Tryz.isAgg396
  z51 := Tryz.sizeOf396
  v51 := Tryz.zeroValue396
  t53 := Tryz.underlying30
  a53 := Tryz.isAgg30
  z53 := Tryz.sizeOf30
  v53 := Tryz.zeroValue30
  t75 := Tryz.underlying271
  a75 := Tryz.isAgg271
  z75 := Tryz.sizeOf271
  v75 := Tryz.zeroValue271
  t76 := Tryz.underlying272
  a76 := Tryz.isAgg272
  z76 := Tryz.sizeOf272
  v76 := Tryz.zeroValue272
  t85 := Tryz.underlying400
  a85 := Tryz.isAgg400
  z85 := Tryz.sizeOf400
  v85 := Tryz.zeroValue400
  t127 := Tryz.underlying449
  a127 := Tryz.isAgg449
  z127 := Tryz.sizeOf449
  v127 := Tryz.zeroValue449
  t143 := Tryz.underlying450
  a143 := Tryz.isAgg450
  z143 := Tryz.sizeOf450
  v143 := Tryz.zeroValue450
  t145 := Tryz.underlying452
  a145 := Tryz.isAgg452
  z145 := Tryz.sizeOf452
  v145 := Tryz.zeroValue452
  t167 := Tryz.underlying399
  a167 := Tryz.isAgg399
  z167 := Tryz.sizeOf399
  v167 := Tryz.zeroValue399
  t168 := Tryz.underlying402
  a168 := Tryz.isAgg402
  z168 := Tryz.sizeOf402
  v168 := Tryz.zeroValue402
  t171 := Tryz.underlying438
  a171 := Tryz.isAgg438
  z171 := Tryz.sizeOf438
  v171 := Tryz.zeroValue438
  t173 := Tryz.underlying441
  a173 := Tryz.isAgg441
  z173 := Tryz.sizeOf441
  v173 := Tryz.zeroValue441
  t175 := Tryz.underlying432
  a175 := Tryz.isAgg432
  z175 := Tryz.sizeOf432
  v175 := Tryz.zeroValue432
  t210 := Tryz.underlying436
  a210 := Tryz.isAgg436
  z210 := Tryz.sizeOf436
  v210 := Tryz.zeroValue436
  t212 := Tryz.underlying454
  a212 := Tryz.isAgg454
  z212 := Tryz.sizeOf454
  v212 := Tryz.zeroValue454
  t213 := Tryz.underlying455
  a213 := Tryz.isAgg455
  z213 := Tryz.sizeOf455
  t232 := Tryz.underlying474
  a232 := Tryz.isAgg474
  z232 := Tryz.sizeOf474
  v232 := Tryz.zeroValue474
  t233 := Tryz.underlying475
  a233 := Tryz.isAgg475
  z233 := Tryz.sizeOf475
  v233 := Tryz.zeroValue475
  g15 := by kernel_rfl
  g16 := by kernel_rfl
  g17 := by kernel_rfl
  g18 := by kernel_rfl
  g19 := by kernel_rfl }
open Go.RowKit in
/-- strconv.Atoi: "Atoi is equivalent to ParseInt(s, 10, 0), converted to type int.": AT A DECIMAL NUMERAL OF AT MOST 18 BYTES: its value, and a nil error. The world behind the call: the one new row that the library's '[]byte(s)' lays. (LAID: no walk: one application.) -/
theorem Tryz.strconv_Atoi (s : ByteArray) (n : Int) (hl : s.size ≤ 18) (h : Lib.atoi s.data.toList = some n) (w : World) :
    Calls Tryz.prog 164 #[.string s] w fun e w' => e = .returned (.tuple #[.int .i64 n, .nilIface]) ∧ ∃ t, w' = Lib.bytesWorld w 5 t := Any.strconv_Atoi Tryz.lays172 s n hl h w
def Tryz.laysC172_ren : Go.Shelf.Ren := ⟨fun | 172 => 164 | 244 => 253 | 245 => 254 | 247 => 303 | 279 => 304 | 280 => 305 | 281 => 306 | 282 => 307 | 287 => 328 | 316 => 329 | 171 => 166 | 205 => 330 | 321 => 343 | 322 => 344 | 243 => 255 | 246 => 308 | 283 => 331 | 284 => 332 | 285 => 333 | 286 => 334 | 129 => 346 | 317 => 345 | 318 => 347 | 319 => 348 | 320 => 349 | 337 => 362 | 338 => 363 | n => n, fun | 9 => 9 | 3 => 3 | 75 => 271 | 76 => 272 | 4 => 4 | 5 => 5 | 167 => 399 | 37 => 31 | 0 => 0 | 85 => 400 | 2 => 2 | 168 => 402 | 53 => 30 | 175 => 432 | 46 => 118 | 210 => 436 | 127 => 449 | 145 => 452 | 143 => 450 | 21 => 21 | 171 => 438 | 173 => 441 | 212 => 454 | 51 => 396 | 20 => 20 | 213 => 455 | 232 => 474 | 233 => 475 | 80 => 478 | n => n, fun | 15 => 2 | 16 => 3 | 17 => 5 | 18 => 8 | 19 => 9 | n => n⟩
theorem Tryz.laysC172 : Go.Proofs.LaysC.n172 Tryz.prog Tryz.laysC172_ren := {
  mixed := by kernel_rfl
  f129 := Tryz.func346.trans (congrArg some (by kernel_rfl))
  f171 := Tryz.func166.trans (congrArg some (by kernel_rfl))
  f172 := Tryz.func164.trans (congrArg some (by kernel_rfl))
  f205 := Tryz.func330.trans (congrArg some (by kernel_rfl))
  f243 := Tryz.func255.trans (congrArg some (by kernel_rfl))
  f244 := Tryz.func253.trans (congrArg some (by kernel_rfl))
  f245 := Tryz.func254.trans (congrArg some (by kernel_rfl))
  f246 := Tryz.func308.trans (congrArg some (by kernel_rfl))
  f247 := Tryz.func303.trans (congrArg some (by kernel_rfl))
  f279 := Tryz.func304.trans (congrArg some (by kernel_rfl))
  f280 := Tryz.func305.trans (congrArg some (by kernel_rfl))
  f281 := Tryz.func306.trans (congrArg some (by kernel_rfl))
  f282 := Tryz.func307.trans (congrArg some (by kernel_rfl))
  f283 := Tryz.func331.trans (congrArg some (by kernel_rfl))
  f284 := Tryz.func332.trans (congrArg some (by kernel_rfl))
  f285 := Tryz.func333.trans (congrArg some (by kernel_rfl))
  f286 := Tryz.func334.trans (congrArg some (by kernel_rfl))
  f287 := Tryz.func328.trans (congrArg some (by kernel_rfl))
  f316 := Tryz.func329.trans (congrArg some (by kernel_rfl))
  f317 := Tryz.func345.trans (congrArg some (by kernel_rfl))
  f318 := Tryz.func347.trans (congrArg some (by kernel_rfl))
  f319 := Tryz.func348.trans (congrArg some (by kernel_rfl))
  f320 := Tryz.func349.trans (congrArg some (by kernel_rfl))
  f321 := Tryz.func343.trans (congrArg some (by kernel_rfl))
  f322 := Tryz.func344.trans (congrArg some (by kernel_rfl))
  f337 := Tryz.func362.trans (congrArg some (by kernel_rfl))
  f338 := Tryz.func363.trans (congrArg some (by kernel_rfl))
  t0 := Tryz.underlying0
  a0 := Tryz.isAgg0
  z0 := Tryz.sizeOf0
  v0 := Tryz.zeroValue0
  t2 := Tryz.underlying2
  a2 := Tryz.isAgg2
  z2 := Tryz.sizeOf2
  v2 := Tryz.zeroValue2
  t3 := Tryz.underlying3
  a3 := Tryz.isAgg3
  z3 := Tryz.sizeOf3
  v3 := Tryz.zeroValue3
  t4 := Tryz.underlying4
  a4 := Tryz.isAgg4
  z4 := Tryz.sizeOf4
  v4 := Tryz.zeroValue4
  t5 := Tryz.underlying5
  a5 := Tryz.isAgg5
  z5 := Tryz.sizeOf5
  v5 := Tryz.zeroValue5
  t9 := Tryz.underlying9
  a9 := Tryz.isAgg9
  z9 := Tryz.sizeOf9
  v9 := Tryz.zeroValue9
  t20 := Tryz.underlying20
  a20 := Tryz.isAgg20
  z20 := Tryz.sizeOf20
  v20 := Tryz.zeroValue20
  t21 := Tryz.underlying21
  a21 := Tryz.isAgg21
  z21 := Tryz.sizeOf21
  v21 := Tryz.zeroValue21
  t37 := Tryz.underlying31
  a37 := Tryz.isAgg31
  z37 := Tryz.sizeOf31
  v37 := Tryz.zeroValue31
  t46 := Tryz.underlying118
  a46 := Tryz.isAgg118
  z46 := Tryz.sizeOf118
  v46 := Tryz.zeroValue118
  t51 := Tryz.underlying396
  a51 := Tryz.isAgg396
  z51 := Tryz.sizeOf396
  v51 := Tryz.zeroValue396
  t53 := Tryz.underlying30
  a53 := Tryz.isAgg30
  z53 := Tryz.sizeOf30
  v53 := Tryz.zeroValue30
  t75 := Tryz.underlying271
  a75 := Tryz.isAgg271
  z75 := Tryz.sizeOf271
  v75 := Tryz.zeroValue271
  t76 := Tryz.underlying272
  a76 := Tryz.isAgg272
  z76 := Tryz.sizeOf272
  v76 := Tryz.zeroValue272
  t85 := Tryz.underlying400
  a85 := Tryz.isAgg400
  z85 := Tryz.sizeOf400
  v85 := Tryz.zeroValue400
  t127 := Tryz.underlying449
  a127 := Tryz.isAgg449
  z127 := Tryz.sizeOf449
  v127 := Tryz.zeroValue449
  t143 := Tryz.underlying450
  a143 := Tryz.isAgg450
  z143 := Tryz.sizeOf450
  v143 := Tryz.zeroValue450
  t145 := Tryz.underlying452
  a145 := Tryz.isAgg452
  z145 := Tryz.sizeOf452
  v145 := Tryz.zeroValue452
  t167 := Tryz.underlying399
  a167 := Tryz.isAgg399
  z167 := Tryz.sizeOf399
  v167 := Tryz.zeroValue399
  t168 := Tryz.underlying402
  a168 := Tryz.isAgg402
  z168 := Tryz.sizeOf402
  v168 := Tryz.zeroValue402
  t171 := Tryz.underlying438
  a171 := Tryz.isAgg438
  z171 := Tryz.sizeOf438
  v171 := Tryz.zeroValue438
  t173 := Tryz.underlying441
  a173 := Tryz.isAgg441
  z173 := Tryz.sizeOf441
  v173 := Tryz.zeroValue441
  t175 := Tryz.underlying432
  a175 := Tryz.isAgg432
  z175 := Tryz.sizeOf432
  v175 := Tryz.zeroValue432
  t210 := Tryz.underlying436
  a210 := Tryz.isAgg436
  z210 := Tryz.sizeOf436
  v210 := Tryz.zeroValue436
  t212 := Tryz.underlying454
  a212 := Tryz.isAgg454
  z212 := Tryz.sizeOf454
  v212 := Tryz.zeroValue454
  t213 := Tryz.underlying455
  a213 := Tryz.isAgg455
  z213 := Tryz.sizeOf455
  t232 := Tryz.underlying474
  a232 := Tryz.isAgg474
  z232 := Tryz.sizeOf474
  v232 := Tryz.zeroValue474
  t233 := Tryz.underlying475
  a233 := Tryz.isAgg475
  z233 := Tryz.sizeOf475
  v233 := Tryz.zeroValue475
  g15 := by kernel_rfl
  g16 := by kernel_rfl
  g17 := by kernel_rfl
  g18 := by kernel_rfl
  g19 := by kernel_rfl
  t80 := Tryz.underlying478
  a80 := Tryz.isAgg478
  z80 := Tryz.sizeOf478
  v80 := Tryz.zeroValue478
  i0 := by kernel_rfl
  i2 := by kernel_rfl
  i3 := by kernel_rfl
  i4 := by kernel_rfl
  i5 := by kernel_rfl
  i9 := by kernel_rfl
  i20 := by kernel_rfl
  i21 := by kernel_rfl
  i37 := by kernel_rfl
  i46 := by kernel_rfl
  i51 := by kernel_rfl
  i53 := by kernel_rfl
  i75 := by kernel_rfl
  i76 := by kernel_rfl
  i80 := by kernel_rfl
  i85 := by kernel_rfl
  i127 := by kernel_rfl
  i143 := by kernel_rfl
  i145 := by kernel_rfl
  i167 := by kernel_rfl
  i168 := by kernel_rfl
  i171 := by kernel_rfl
  i173 := by kernel_rfl
  i175 := by kernel_rfl
  i210 := by kernel_rfl
  i212 := by kernel_rfl
  i232 := by kernel_rfl
  i233 := by kernel_rfl
  m15 := by kernel_rfl
  m16 := by kernel_rfl
  m17 := by kernel_rfl
  m18 := by kernel_rfl
  m19 := by kernel_rfl
  c0 := by kernel_rfl
  c2 := by kernel_rfl
  c3 := by kernel_rfl
  c4 := by kernel_rfl
  c5 := by kernel_rfl
  c9 := by kernel_rfl
  c20 := by kernel_rfl
  c21 := by kernel_rfl
  c37 := by kernel_rfl
  c46 := by kernel_rfl
  c51 := by kernel_rfl
  c53 := by kernel_rfl
  c75 := by kernel_rfl
  c76 := by kernel_rfl
  c80 := by kernel_rfl
  c85 := by kernel_rfl
  c127 := by kernel_rfl
  c143 := by kernel_rfl
  c145 := by kernel_rfl
  c167 := by kernel_rfl
  c168 := by kernel_rfl
  c171 := by kernel_rfl
  c173 := by kernel_rfl
  c175 := by kernel_rfl
  c210 := by kernel_rfl
  c212 := by kernel_rfl
  c213 := by kernel_rfl
  c232 := by kernel_rfl
  c233 := by kernel_rfl }
open Go.RowKit in
/-- strconv.Atoi, AT EVERY STRING OF AT MOST 18 BYTES THAT IS NO DECIMAL NUMERAL (the empty one too): 0, AND AN ERROR THAT IS NOT nil: a *NumError in a new block N: {Func: "Atoi", Num: s's bytes, Err: what the variable ErrSyntax holds}. Of what was there nothing has turned. (LAID: no walk: one application.) -/
theorem Tryz.strconv_Atoi_err (s : ByteArray) (hl : s.size ≤ 18) (h : Lib.atoi s.data.toList = none) (ev : Value) (w : World) (hv : w.cell? ⟨2, 0, none⟩ = some ev) (hev : ev = .nilIface ∨ ∃ te pe, ev = .iface te pe) :
    Calls Tryz.prog 164 #[.string s] w fun e w' => ∃ N, e = .returned (.tuple #[.int .i64 0, .iface 402 (.pointer (some ⟨N, 0, none⟩))]) ∧ w.heap.size ≤ N ∧ w'.heap[N]? = some (.cells #[.string ⟨#[65, 116, 111, 105]⟩, .string s, ev] 436 (0, 0)) ∧ Below w.heap.size w w' := Any.strconv_Atoi_err Tryz.laysC172 s hl h ev w hv hev
def Tryz.lays217_ren : Go.Shelf.Ren := ⟨fun | 217 => 339 | 266 => 360 | n => n, fun | 9 => 9 | 5 => 5 | 3 => 3 | n => n, fun | n => n⟩
theorem Tryz.lays217 : Go.Proofs.Lays.n217 Tryz.prog Tryz.lays217_ren := {
  mixed := by kernel_rfl
  f217 := Tryz.func339.trans (congrArg some (by kernel_rfl))
  f266 := Tryz.func360.trans (congrArg some (by kernel_rfl))
  t3 := Tryz.underlying3
  a3 := Tryz.isAgg3
  z3 := Tryz.sizeOf3
  v3 := Tryz.zeroValue3
  t5 := Tryz.underlying5
  a5 := Tryz.isAgg5
  z5 := Tryz.sizeOf5
  v5 := Tryz.zeroValue5
  t9 := Tryz.underlying9
  a9 := Tryz.isAgg9
  z9 := Tryz.sizeOf9
  v9 := Tryz.zeroValue9 }
open Go.RowKit Go.Lib in
/-- internal/stringslite.IndexByte (what strings.IndexByte calls): IT RETURNS 'Lib.indexByte s c'; the world is as it was. (LAID: no walk: one application.) -/
theorem Tryz.stringslite_IndexByte (s : ByteArray) (c : Int) (w : World) :
    Calls Tryz.prog 339 #[.string s, .int .u8 c] w fun e w' => e = .returned (.int .i64 (Lib.indexByte s.data.toList c.toNat.toUInt8)) ∧ w' = w := Any.stringslite_IndexByte Tryz.lays217 s c w
def Tryz.lays219_ren : Go.Shelf.Ren := ⟨fun | 219 => 325 | 217 => 339 | 225 => 340 | 224 => 341 | 267 => 342 | 266 => 360 | 314 => 361 | n => n, fun | 9 => 9 | 3 => 3 | 4 => 4 | 5 => 5 | 46 => 118 | 146 => 467 | 51 => 396 | n => n, fun | 1 => 4 | n => n⟩
theorem Tryz.lays219 : Go.Proofs.Lays.n219 Tryz.prog Tryz.lays219_ren := {
  mixed := by kernel_rfl
  f217 := Tryz.func339.trans (congrArg some (by kernel_rfl))
  f219 := Tryz.func325.trans (congrArg some (by kernel_rfl))
  f224 := Tryz.func341.trans (congrArg some (by kernel_rfl))
  f225 := Tryz.func340.trans (congrArg some (by kernel_rfl))
  f266 := Tryz.func360.trans (congrArg some (by kernel_rfl))
  f267 := Tryz.func342.trans (congrArg some (by kernel_rfl))
  f314 := Tryz.func361.trans (congrArg some (by kernel_rfl))
  t3 := Tryz.underlying3
  a3 := Tryz.isAgg3
  z3 := Tryz.sizeOf3
  v3 := Tryz.zeroValue3
  t4 := Tryz.underlying4
  a4 := Tryz.isAgg4
  z4 := Tryz.sizeOf4
  v4 := Tryz.zeroValue4
  t5 := Tryz.underlying5
  a5 := Tryz.isAgg5
  z5 := Tryz.sizeOf5
  v5 := Tryz.zeroValue5
  t9 := Tryz.underlying9
  a9 := Tryz.isAgg9
  z9 := Tryz.sizeOf9
  v9 := Tryz.zeroValue9
  t46 := Tryz.underlying118
  a46 := Tryz.isAgg118
  z46 := Tryz.sizeOf118
  v46 := Tryz.zeroValue118
  t51 := Tryz.underlying396
  a51 := Tryz.isAgg396
  z51 := Tryz.sizeOf396
  v51 := Tryz.zeroValue396
  t146 := Tryz.underlying467
  a146 := Tryz.isAgg467
  z146 := Tryz.sizeOf467
  v146 := Tryz.zeroValue467
  g1 := by kernel_rfl }
open Go.RowKit Go.Lib in
/-- internal/stringslite.Index (what strings.Index calls) AT A substr OF WHATEVER LENGTH: IT RETURNS 'Lib.index s substr'; the world is as it was. 'm': what internal/bytealg.MaxLen holds: whatever. (LAID: no walk: one application.) -/
theorem Tryz.stringslite_Index (s sub : ByteArray) (m : Int) (w : World) (hs : s.size < 4294967281) (hm : w.cell? ⟨4, 0, none⟩ = some (.int .i64 m)) :
    Calls Tryz.prog 325 #[.string s, .string sub] w fun e w' => e = .returned (.int .i64 (Lib.index s.data.toList sub.data.toList)) ∧ w' = w := Any.stringslite_Index Tryz.lays219 s sub m w hs hm
def Tryz.lays138_ren : Go.Shelf.Ren := ⟨fun | 138 => 300 | 195 => 322 | 218 => 324 | 143 => 301 | 219 => 325 | 217 => 339 | 225 => 340 | 224 => 341 | 267 => 342 | 266 => 360 | 314 => 361 | n => n, fun | 9 => 9 | 3 => 3 | 4 => 4 | 5 => 5 | 0 => 0 | 46 => 118 | 146 => 467 | 51 => 396 | n => n, fun | 1 => 4 | n => n⟩
theorem Tryz.lays138 : Go.Proofs.Lays.n138 Tryz.prog Tryz.lays138_ren := {
  mixed := by kernel_rfl
  f138 := Tryz.func300.trans (congrArg some (by kernel_rfl))
  f143 := Tryz.func301.trans (congrArg some (by kernel_rfl))
  f195 := Tryz.func322.trans (congrArg some (by kernel_rfl))
  f217 := Tryz.func339.trans (congrArg some (by kernel_rfl))
  f218 := Tryz.func324.trans (congrArg some (by kernel_rfl))
  f219 := Tryz.func325.trans (congrArg some (by kernel_rfl))
  f224 := Tryz.func341.trans (congrArg some (by kernel_rfl))
  f225 := Tryz.func340.trans (congrArg some (by kernel_rfl))
  f266 := Tryz.func360.trans (congrArg some (by kernel_rfl))
  f267 := Tryz.func342.trans (congrArg some (by kernel_rfl))
  f314 := Tryz.func361.trans (congrArg some (by kernel_rfl))
  t0 := Tryz.underlying0
  a0 := Tryz.isAgg0
  z0 := Tryz.sizeOf0
  v0 := Tryz.zeroValue0
  t3 := Tryz.underlying3
  a3 := Tryz.isAgg3
  z3 := Tryz.sizeOf3
  v3 := Tryz.zeroValue3
  t4 := Tryz.underlying4
  a4 := Tryz.isAgg4
  z4 := Tryz.sizeOf4
  v4 := Tryz.zeroValue4
  t5 := Tryz.underlying5
  a5 := Tryz.isAgg5
  z5 := Tryz.sizeOf5
  v5 := Tryz.zeroValue5
  t9 := Tryz.underlying9
  a9 := Tryz.isAgg9
  z9 := Tryz.sizeOf9
  v9 := Tryz.zeroValue9
  t46 := Tryz.underlying118
  a46 := Tryz.isAgg118
  z46 := Tryz.sizeOf118
  v46 := Tryz.zeroValue118
  t51 := Tryz.underlying396
  a51 := Tryz.isAgg396
  z51 := Tryz.sizeOf396
  v51 := Tryz.zeroValue396
  t146 := Tryz.underlying467
  a146 := Tryz.isAgg467
  z146 := Tryz.sizeOf467
  v146 := Tryz.zeroValue467
  g1 := by kernel_rfl }
open Go.RowKit Go.Lib in
/-- strings.Count AT A substr OF ONE BYTE ('hp'): "Count counts the number of non-overlapping instances of substr in s.": IT RETURNS 'Lib.countByte s (that byte)'; the world is as it was. ✋ NO CONTRACT HERE YET at an empty substr (utf8.RuneCountInString) or at a longer one (a loop over strings.Index). (LAID: no walk: one application.) -/
theorem Tryz.strings_Count_one (s : ByteArray) (c : UInt8) (w : World) :
    Calls Tryz.prog 300 #[.string s, .string ⟨#[c]⟩] w fun e w' => e = .returned (.int .i64 (Lib.countByte s.data.toList c)) ∧ w' = w := Any.strings_Count_one Tryz.lays138 s c w
end Go.Proofs

/- The functions of Go's library whose contracts are known. -/
open Go Go.Proofs.YtlffjnddiiojnaaGreatDoor.Ev
namespace Go.Proofs.YtlffjnddiiojnaaGreatDoor.Tz
section
variable {vs : Vs} (hG : vs.G = GW 4 2)
theorem h339 : FnOk ⟨Tryz.prog, vs⟩ 339 idxF := idxF_ok ⟨_, Tryz.func339, by kernel_rfl, by kernel_rfl⟩ fun s c w => Tryz.stringslite_IndexByte s c w
theorem h300 {G : FnS} (h : FnOk ⟨Tryz.prog, vs⟩ 300 G) : FnOk ⟨Tryz.prog, vs⟩ 300 (cntG G) := cntG_ok h (fun s c w => Tryz.strings_Count_one s c w) ⟨_, Tryz.func300, by kernel_rfl, by kernel_rfl⟩
include hG
theorem h325 : FnOk ⟨Tryz.prog, vs⟩ 325 subF := subF_ok ⟨_, Tryz.func325, by kernel_rfl, by kernel_rfl⟩ fun s m w F hg hs => by
  obtain ⟨h1, _⟩ := hg
  have h1' : vs.G w := h1
  rw [hG] at h1'
  obtain ⟨_, ⟨k, hk⟩, _⟩ := h1'
  exact Tryz.stringslite_Index s m k w hs hk
theorem h164 : FnOk ⟨Tryz.prog, vs⟩ 164 (atoF 402) := by
  refine atoF_ok ⟨_, Tryz.func164, by kernel_rfl, by kernel_rfl⟩ (fun s n w hl h => (Tryz.strconv_Atoi s n hl h w).mono fun e w' ⟨h1, t, h2⟩ => ⟨h1, by rw [h2]; exact Lib.bytesWorld_below w 5 t⟩) fun s w F hg hl h => ?_
  obtain ⟨h1, _⟩ := hg
  have h1' : vs.G w := h1
  rw [hG] at h1'
  obtain ⟨_, _, ev, he, hx⟩ := h1'
  exact (Tryz.strconv_Atoi_err s hl h ev w he hx).mono fun e w' ⟨N, e1, _, _, hb⟩ => ⟨⟨_, e1⟩, hb⟩
end
end Go.Proofs.YtlffjnddiiojnaaGreatDoor.Tz
