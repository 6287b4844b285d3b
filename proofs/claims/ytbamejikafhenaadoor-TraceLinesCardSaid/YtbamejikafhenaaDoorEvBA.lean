/- For every image, mark, list of marks, ending and two strings, TraceLines returns true and leaves its arguments as they were. No condition beyond the bounds in the law itself. -/
import Derived.Test.YtbamejikafhenaaDoorEvAM
import Derived.Test.YtbamejikafhenaaDoorEvAN
import Derived.Test.YtbamejikafhenaaDoorEvAY
import Derived.Test.YtbamejikafhenaaDoorEvAZ
import Derived.Handed
import Derived.HandedShaped
import Derived.Stop.Joined
import Derived.Test.YtbamejikafhenaaDoorRows
import Derived.Test.YtbamejikafhenaaDoorTie
import Derived.Test.YtbamejikafhenaaDoorCards
import Derived.Lib.LaidTab
import Derived.Stop.LaidErr
import Derived.Shelf.Vars
import Derived.LaidLaws
import Derived.MakeChecks
import Derived.Lay
import Derived.ProofKit
import Derived.OpenShut
import Derived.ChangeOld
import Derived.Below
import Derived.SevenTiedAt
open Go Go.Proofs.YtbamejikafhenaaDoor.Ev
namespace Go.Proofs.YtbamejikafhenaaDoor.Tz
def GW (w : World) : Prop := ∃ m, w.cell? ⟨0, 0, none⟩ = some (.int .i64 m)
theorem GW.dC (w w' : World) (h : GW w) (hk : ∀ B, B < 1 → w'.heap[B]? = w.heap[B]?) : GW w' := by
  obtain ⟨m, hm⟩ := h
  refine ⟨m, ?_⟩
  rw [← hm]
  simp only [World.cell?, hk 0 (by decide)]
noncomputable def vs : Vs := ⟨fun _ => [], 1, GW, GW.dC⟩
noncomputable def V : Env := ⟨Go.Proofs.Tryd.prog, vs⟩
theorem mo : (Go.Proofs.Tryd.prog).follows .mixedOrders = true := by kernel_rfl
theorem jK {C : Cx} (hg : C.gl = []) : yW C vs := fun p hp => by rw [hg] at hp; cases hp
theorem k49 : bn V 49 acX := acx ⟨_, Tryd.func49, by kernel_rfl, by kernel_rfl⟩ fun s p w => Tryd.strings_CutPrefix s p w
theorem k24 : bn V 24 cutF := aen ⟨_, Tryd.func24, by kernel_rfl, by kernel_rfl⟩ fun s t w F hg hs => by
  obtain ⟨m, hm⟩ := hg.1
  exact (Tryd.strings_Cut s t m w hs hm).mono fun e w' ⟨h1, n, h2⟩ => ⟨h1, by rw [h2]; exact ⟨rfl, rfl, rfl, Nat.le_refl _, fun _ _ => rfl⟩⟩
theorem k23 : bn V 23 ac9 := aac ⟨_, Tryd.func23, by kernel_rfl, by kernel_rfl⟩ fun s t w hs => Tryd.strings_LastIndex s t hs w
theorem k75 : bn V 75 idxF := aeS ⟨_, Tryd.func75, by kernel_rfl, by kernel_rfl⟩ fun s c w => Tryd.stringslite_IndexByte s c w
theorem kr16 : bn V 16 r16 := bc (C := nY) (vs := vs) b8 (jK rfl) mo bd rfl (by kernel_rfl) (by kernel_rfl)
theorem kr4 : bn V 4 r4 := bc (C := cr4) (vs := vs) b8 (jK rfl) mo (aA kr16 bd) rfl (by kernel_rfl) (by kernel_rfl)
theorem kr42 : bn V 42 r42 := bc (C := cr42) (vs := vs) b8 (jK rfl) mo bd rfl (by kernel_rfl) (by kernel_rfl)
theorem kr18 : bn V 18 r18 := bc (C := cr18) (vs := vs) b8 (jK rfl) mo (aA kr42 bd) rfl (by kernel_rfl) (by kernel_rfl)
theorem kr13 : bn V 13 r13 := bc (C := a5u) (vs := vs) b8 (jK rfl) mo (aA kr18 bd) rfl (by kernel_rfl) (by kernel_rfl)
theorem kr41 : bn V 41 r41 := bc (C := rq) (vs := vs) b8 (jK rfl) mo bd rfl (by kernel_rfl) (by kernel_rfl)
theorem kr17 : bn V 17 r17 := bc (C := acI) (vs := vs) b8 (jK rfl) mo (aA kr41 bd) rfl (by kernel_rfl) (by kernel_rfl)
theorem kr59 : bn V 59 r59 := bc (C := a1L) (vs := vs) b8 (jK rfl) mo bd rfl (by kernel_rfl) (by kernel_rfl)
theorem kr43 : bn V 43 r43 := bc (C := abg) (vs := vs) b8 (jK rfl) mo (aA kr59 bd) rfl (by kernel_rfl) (by kernel_rfl)
theorem kr19 : bn V 19 r19 := bc (C := cr19) (vs := vs) b8 (jK rfl) mo (aA kr43 bd) rfl (by kernel_rfl) (by kernel_rfl)
theorem kr44 : bn V 44 r44 := bc (C := cr44) (vs := vs) b8 (jK rfl) mo bd rfl (by kernel_rfl) (by kernel_rfl)
theorem kr20 : bn V 20 r20 := bc (C := abb) (vs := vs) b8 (jK rfl) mo (aA kr44 bd) rfl (by kernel_rfl) (by kernel_rfl)
theorem kr5 : bn V 5 r5 := bc (C := cr5) (vs := vs) b8 (jK rfl) mo (aA kr13 (aA kr17 (aA kr18 (aA kr19 (aA kr20 bd))))) rfl (by kernel_rfl) (by kernel_rfl)
theorem kr31 : bn V 31 r31 := bc (C := abJ) (vs := vs) b8 (jK rfl) mo bd rfl (by kernel_rfl) (by kernel_rfl)
theorem kr14 : bn V 14 r14 := bc (C := a9Q) (vs := vs) b8 (jK rfl) mo (aA kr31 bd) rfl (by kernel_rfl) (by kernel_rfl)
theorem kr55 : bn V 55 r55 := bc (C := cr55) (vs := vs) b8 (jK rfl) mo bd rfl (by kernel_rfl) (by kernel_rfl)
theorem kr29 : bn V 29 r29 := bc (C := yN) (vs := vs) b8 (jK rfl) mo (aA kr55 bd) rfl (by kernel_rfl) (by kernel_rfl)
theorem kr67 : bn V 67 r67 := bc (C := yJ) (vs := vs) b8 (jK rfl) mo bd rfl (by kernel_rfl) (by kernel_rfl)
theorem kr56 : bn V 56 r56 := bc (C := aaQ) (vs := vs) b8 (jK rfl) mo (aA kr67 bd) rfl (by kernel_rfl) (by kernel_rfl)
theorem kr30 : bn V 30 r30 := bc (C := cr30) (vs := vs) b8 (jK rfl) mo (aA kr56 bd) rfl (by kernel_rfl) (by kernel_rfl)
theorem kr72 : bn V 72 r72 := bc (C := cr72) (vs := vs) b8 (jK rfl) mo bd rfl (by kernel_rfl) (by kernel_rfl)
theorem kr60 : bn V 60 r60 := bc (C := cr60) (vs := vs) b8 (jK rfl) mo (aA kr72 bd) rfl (by kernel_rfl) (by kernel_rfl)
theorem kr45 : bn V 45 r45 := bc (C := cr45) (vs := vs) b8 (jK rfl) mo (aA kr60 bd) rfl (by kernel_rfl) (by kernel_rfl)
theorem kr21 : bn V 21 r21 := bc (C := ac3) (vs := vs) b8 (jK rfl) mo (aA kr29 (aA kr30 (aA kr31 (aA kr45 bd)))) rfl (by kernel_rfl) (by kernel_rfl)
theorem kr6 : bn V 6 r6 := bc (C := cr6) (vs := vs) b8 (jK rfl) mo (aA kr14 (aA kr21 bd)) rfl (by kernel_rfl) (by kernel_rfl)
theorem kr46 : bn V 46 r46 := aef
theorem kr47 : bn V 47 r47 := bc (C := cr47) (vs := vs) b8 (jK rfl) mo bd rfl (by kernel_rfl) (by kernel_rfl)
theorem kr49 : bn V 49 r49 := k49
theorem kr75 : bn V 75 r75 := k75
theorem kr73 : bn V 73 r73 := bc (C := cr73) (vs := vs) b8 (jK rfl) mo (aA kr75 bd) rfl (by kernel_rfl) (by kernel_rfl)
theorem kr62 : bn V 62 r62 := bc (C := qy) (vs := vs) b8 (jK rfl) mo (aA kr73 bd) rfl (by kernel_rfl) (by kernel_rfl)
theorem kr48 : bn V 48 r48 := bc (C := a6o) (vs := vs) b8 (jK rfl) mo (aA kr49 (aA kr62 bd)) rfl (by kernel_rfl) (by kernel_rfl)
theorem kr22 : bn V 22 r22 := bc (C := abq) (vs := vs) b8 (jK rfl) mo (aA kr46 (aA kr47 (aA kr48 (aA kr49 bd)))) rfl (by kernel_rfl) (by kernel_rfl)
theorem kr23 : bn V 23 r23 := k23
theorem kr24 : bn V 24 r24 := k24
theorem kr53 : bn V 53 r53 := bc (C := wF) (vs := vs) b8 (jK rfl) mo bd rfl (by kernel_rfl) (by kernel_rfl)
theorem kr25 : bn V 25 r25 := bc (C := aaY) (vs := vs) b8 (jK rfl) mo (aA kr42 (aA kr53 bd)) rfl (by kernel_rfl) (by kernel_rfl)
theorem kr26 : bn V 26 r26 := bc (C := abz) (vs := vs) b8 (jK rfl) mo (aA kr44 (aA kr53 bd)) rfl (by kernel_rfl) (by kernel_rfl)
theorem kr7 : bn V 7 r7 := bc (C := cr7) (vs := vs) b8 (jK rfl) mo (aA kr5 (aA kr22 (aA kr23 (aA kr24 (aA kr25 (aA kr26 bd)))))) rfl (by kernel_rfl) (by kernel_rfl)
theorem kr79 : bn V 79 r79 := bc (C := cr79) (vs := vs) b8 (jK rfl) mo bd rfl (by kernel_rfl) (by kernel_rfl)
theorem kr66 : bn V 66 r66 := bc (C := nr) (vs := vs) b8 (jK rfl) mo (aA kr79 bd) rfl (by kernel_rfl) (by kernel_rfl)
theorem kr54 : bn V 54 r54 := bc (C := a1u) (vs := vs) b8 (jK rfl) mo (aA kr66 bd) rfl (by kernel_rfl) (by kernel_rfl)
theorem kr27 : bn V 27 r27 := bc (C := xy) (vs := vs) b8 (jK rfl) mo (aA kr54 bd) rfl (by kernel_rfl) (by kernel_rfl)
theorem kr28 : bn V 28 r28 := bc (C := adz) (vs := vs) b8 (jK rfl) mo bd rfl (by kernel_rfl) (by kernel_rfl)
theorem kr8 : bn V 8 r8 := bc (C := cr8) (vs := vs) b8 (jK rfl) mo (aA kr14 (aA kr21 (aA kr27 (aA kr28 (aA kr29 (aA kr30 (aA kr31 bd))))))) rfl (by kernel_rfl) (by kernel_rfl)
theorem kr33 : bn V 33 r33 := bc (C := cr33) (vs := vs) b8 (jK rfl) mo bd rfl (by kernel_rfl) (by kernel_rfl)
theorem kr9 : bn V 9 r9 := abK kr5 kr33 kr20 kr19
theorem kr35 : bn V 35 r35 := bc (C := cr35) (vs := vs) b8 (jK rfl) mo bd rfl (by kernel_rfl) (by kernel_rfl)
theorem kr36 : bn V 36 r36 := bc (C := cr36) (vs := vs) b8 (jK rfl) mo (aA kr30 (aA kr45 bd)) rfl (by kernel_rfl) (by kernel_rfl)
theorem kr10 : bn V 10 r10 := bc (C := tv) (vs := vs) b8 (jK rfl) mo (aA kr14 (aA kr21 (aA kr35 (aA kr36 bd)))) rfl (by kernel_rfl) (by kernel_rfl)
theorem kr37 : bn V 37 r37 := tm fun _ h => h
theorem kr38 : bn V 38 r38 := bc (C := cr38) (vs := vs) b8 (jK rfl) mo (aA kr22 (aA kr24 (aA kr26 (aA kr33 (aA kr49 bd))))) rfl (by kernel_rfl) (by kernel_rfl)
theorem kr11 : bn V 11 r11 := bc (C := rM) (vs := vs) b8 (jK rfl) mo (aA kr7 (aA kr37 (aA kr38 bd))) rfl (by kernel_rfl) (by kernel_rfl)
theorem kr39 : bn V 39 r39 := bc (C := xH) (vs := vs) b8 (jK rfl) mo bd rfl (by kernel_rfl) (by kernel_rfl)
theorem kr40 : bn V 40 r40 := bc (C := y7) (vs := vs) b8 (jK rfl) mo (aA kr27 (aA kr28 (aA kr35 (aA kr36 (aA kr45 bd))))) rfl (by kernel_rfl) (by kernel_rfl)
theorem kr12 : bn V 12 r12 := bc (C := rS) (vs := vs) b8 (jK rfl) mo (aA kr8 (aA kr39 (aA kr40 bd))) rfl (by kernel_rfl) (by kernel_rfl)
theorem kr15 : bn V 15 r15 := bc (C := vp) (vs := vs) b8 (jK rfl) mo bd rfl (by kernel_rfl) (by kernel_rfl)
theorem kr3 : bn V 3 r3 := bc (C := cr3) (vs := vs) b8 (jK rfl) mo (aA kr4 (aA kr5 (aA kr6 (aA kr7 (aA kr8 (aA kr9 (aA kr10 (aA kr11 (aA kr12 (aA kr13 (aA kr14 (aA kr15 bd)))))))))))) rfl (by kernel_rfl) (by kernel_rfl)
end Go.Proofs.YtbamejikafhenaaDoor.Tz
namespace Go.Proofs.YtbamejikafhenaaDoor
variable {H : Type} {enc : TypeId × Value → H}
theorem kG {a : Assume} {C : Checked} {os : Os} {f : FuncId} {fn : Func} {s : ChangeSpec} {conds : List PathCond} {apart fresh handsOn again : Bool} {X : World → Array Value → Prop}
    (hX : ∀ (w w' : World) (args : Array Value), w.heap = w'.heap → X w args → X w' args)
    (own : ownKnob C.prog.godebug = none) (started : os.Started) (noInit : C.prog.inits.idxOf? f = none) (hfn : C.prog.funcs[f]? = some fn)
    (witness : ∃ (w : World) (tape : Tape) (i : Input), w.os = os ∧ (w.forCall tape i).Shaped C.prog ∧ i.vars = [] ∧ Input.okWide C.prog (w.forCall tape i) .any w.heap.size f i ∧
      ((s.pre enc C.prog fn conds apart (w.forCall tape i).memory i.args ∧ X (w.forCall tape i).memory i.args) ∧ sizedMet enc C.prog fn (OpenSpec.ofChange s) apart (w.forCall tape i).memory i.args) ∧ a.holds C.prog (lone (Frame.enter C.prog f i.args .normal) [] (w.forCall tape i)))
    (contract : ∀ (W : World) (base : Nat) (args : Array Value) (ds gs : List (DataW H)) (before : List MemPlace),
      (∀ (j : Nat) t v, fn.params[j]? = some t → args[j]? = some v → Value.okWide C.prog W .any base t v) →
      DataW.Whole enc C.prog fn.params.toList s.vars apart W args.toList ds gs before → W.ShapedOpen C.prog → X W args →
      Calls C.prog f args W fun e W' => ∃ v, e = .returned v ∧ s.post enc C.prog fn apart fresh handsOn again W args v W') :
    ReturnsInHanded a C os f .any (fun w args => (s.pre enc C.prog fn conds apart w args ∧ X w args) ∧ sizedMet enc C.prog fn (OpenSpec.ofChange s) apart w args) (s.post enc C.prog fn apart fresh handsOn again) := by
  refine returnsInHanded_of_calls own started noInit witness ?_
  intro w tape i _ hsh _ hok hpre _
  obtain ⟨_, _, _, fn', hfn', _, _, _, _, hval⟩ := hok
  have e : fn' = fn := Option.some.inj (hfn'.symm.trans hfn)
  subst e
  obtain ⟨⟨⟨ds, gs, before, hw, _⟩, hx⟩, _⟩ := hpre
  have hw' := DataW.Whole.of_heap (w' := w.forCall tape i) (by rfl) hw
  refine (contract (w.forCall tape i) w.heap.size i.args ds gs before hval hw' hsh (hX _ _ _ (by rfl) hx)).mono fun e W' ⟨v, he, hp⟩ => ?_
  subst he
  exact ChangeSpec.post_blind hp
end Go.Proofs.YtbamejikafhenaaDoor
namespace Go.Proofs.YtbamejikafhenaaDoor
open Go Go.Lib Go.ChangeShapes Go.WideShapes Go.ChangeAt Go.RowKit
set_option maxRecDepth 100000
theorem gw {W : World} (hsh : W.ShapedOpen Tryd.prog) : Tz.GW W :=
  cell_of_shapedOpen_int (t := 3) hsh (by decide +kernel) (zero := #[.int .i64 0]) (by kernel_rfl) (by kernel_rfl) (by kernel_rfl) (by kernel_rfl) (by kernel_rfl)
theorem own : ownKnob Tryd.prog.godebug = none := by kernel_rfl
theorem laidOut : laidOutB Tryd.prog = true := by kernel_rfl
theorem aic : Tryd.prog.underlying 4 = some .bool := by kernel_rfl
theorem abD : Tryd.prog.underlying 26 = some (.struct (match Tryd.prog.underlying 26 with | some (.struct fs) => fs | _ => #[])) := by kernel_rfl
theorem aaT : Tryd.prog.underlying 28 = some (.struct (match Tryd.prog.underlying 28 with | some (.struct fs) => fs | _ => #[])) := by kernel_rfl
theorem adn : Tryd.prog.underlying 31 = some (.struct (match Tryd.prog.underlying 31 with | some (.struct fs) => fs | _ => #[])) := by kernel_rfl
theorem a2t : Tryd.prog.underlying 29 = some (.slice 28) := by kernel_rfl
theorem aaK {H : Type} {enc : TypeId × Value → H} {W : World} (hg : Tz.GW W) {v0 v1 v2 v3 v4 v5 : Value} {d0 d1 d2 d3 d4 d5 : DataW H} {p0 p1 p2 p3 p4 p5 : List MemPlace}
    (o0 : Value.okWide Tryd.prog W .any 0 26 v0) (o1 : Value.okWide Tryd.prog W .any 0 28 v1) (o2 : Value.okWide Tryd.prog W .any 0 29 v2) (o3 : Value.okWide Tryd.prog W .any 0 31 v3) (o4 : Value.okWide Tryd.prog W .any 0 9 v4) (o5 : Value.okWide Tryd.prog W .any 0 9 v5)
    (h0 : DataW.Trod enc Tryd.prog W 0 (fun _ => true) true 26 v0 d0 p0) (h1 : DataW.Trod enc Tryd.prog W 0 (fun _ => true) true 28 v1 d1 p1) (h2 : DataW.Trod enc Tryd.prog W 0 (fun _ => true) true 29 v2 d2 p2) (h3 : DataW.Trod enc Tryd.prog W 0 (fun _ => true) true 31 v3 d3 p3) (h4 : DataW.Trod enc Tryd.prog W 0 (fun _ => true) true 9 v4 d4 p4) (h5 : DataW.Trod enc Tryd.prog W 0 (fun _ => true) true 9 v5 d5 p5) :
    Calls Tryd.prog 3 #[v0, v1, v2, v3, v4, v5] W fun e W' => e = .returned (.bool true) ∧ Below W.heap.size W W' := by
  obtain ⟨cs0, rfl, _⟩ := okWide_struct (fs := _) abD o0
  obtain ⟨cs1, rfl, _⟩ := okWide_struct (fs := _) aaT o1
  obtain ⟨a2, l2, c2, rfl⟩ := okWide_slice a2t o2
  obtain ⟨cs3, rfl, _⟩ := okWide_struct (fs := _) adn o3
  obtain ⟨s4, rfl⟩ := okWide_string Tz.qv o4
  obtain ⟨s5, rfl⟩ := okWide_string Tz.qv o5
  obtain ⟨_, h0⟩ := h0
  obtain ⟨_, h1⟩ := h1
  obtain ⟨_, h2⟩ := h2
  obtain ⟨_, h3⟩ := h3
  obtain ⟨_, h4⟩ := h4
  obtain ⟨_, h5⟩ := h5
  obtain ⟨im, i0, r0⟩ := Tz.aie h0
  obtain ⟨ma, i1, r1⟩ := Tz.aaz h1
  obtain ⟨f2, n2, sv2, t2, b2, b3, b4, r2⟩ := Tz.fV (α := Tz.MaA) ⟨0, 0, 0, 0, 0, 0, 0⟩ (av := Tz.MaA.av) (In := Tz.MaA.In) a2t Tz.a6X (by decide) (fun _ => rfl) (fun m cs x h => Tz.aaz h) h2
  obtain ⟨en, i3, r3⟩ := Tz.ajs h3
  obtain ⟨s, b5, r4⟩ := Tz.oE Tz.qv h4
  obtain ⟨u, b6, r5⟩ := Tz.oE Tz.qv h5
  obtain ⟨ok, q1, q2, q3⟩ := Tz.ImA.ok i0
  have e := Tz.r3_ok ok ⟨q1, q2, q3⟩ (M := fun i => (f2 i).mk') (n := n2) (a := sv2) (t := t2) (Tz.a9r b2) (x := ma.mk') (en := en.en) (s := s) (u := u) b2.ok (b3 (by decide)) (fun i hi => Tz.MaA.ok (b4 i hi)) (Tz.MaA.ok i1) (Tz.EdA.ok i3) b5 b6
  have args := Tz.aim (Tz.rB r0) (Tz.rB r1) (Tz.xx r2 rfl) (Tz.rB r3) (Tz.xx r4 rfl) (Tz.xx r5 rfl)
  have hsz : 1 ≤ W.heap.size := by
    obtain ⟨m, hm⟩ := hg
    exact Tz.a8F hm
  exact (Tz.bn.top Tz.kr3 e (F := fun B => B < W.heap.size) ⟨hg, fun B hB => Nat.lt_of_lt_of_le hB hsz⟩ (fun _ h => h) args).mono fun e' W' ⟨x, e1, hb, F', μ', hx⟩ => by
    cases hx
    exact ⟨e1, hb⟩
end Go.Proofs.YtbamejikafhenaaDoor
namespace Go.Proofs.YtbamejikafhenaaDoor
open Go Go.Lib Go.ChangeShapes Go.WideShapes Go.ChangeAt Go.RowKit
set_option maxRecDepth 100000
def sb : Array Value := #[.agg #[.slice none 0 0, .slice none 0 0, .slice none 0 0], .agg #[.int .i64 0, .int .i64 0, .int .i64 0, .int .i64 0, .int .u8 0, .int .i64 0, .int .u8 0], .slice none 0 0, .agg #[.int .u8 0, .int .i64 0, .int .i64 0], .string .empty, .string .empty]
noncomputable abbrev lay (os : Os) : World := World.laidAll Tryd.prog os Rows.traceLinesRow.laid
theorem wit1 (os : Os) : ((lay os).forCall (fun _ _ => 0) ⟨#[], sb, []⟩).variablesZipB Tryd.prog = true := by kernel_rfl
theorem wit2 (os : Os) : (((lay os).forCall (fun _ _ => 0) ⟨#[], sb, []⟩).heap.toList.drop Tryd.prog.globals.size).take ((begin Tryd.prog (fun _ _ => 0) default).world.heap.size - Tryd.prog.globals.size) = (begin Tryd.prog (fun _ _ => 0) default).world.heap.toList.drop Tryd.prog.globals.size := by kernel_rfl
theorem wit3 (os : Os) : Input.okWideB Tryd.prog ((lay os).forCall (fun _ _ => 0) ⟨#[], sb, []⟩) 3 ⟨#[], sb, []⟩ = true := by kernel_rfl
theorem wit4 (os : Os) (H : Type) (enc : TypeId × Value → H) : Rows.traceLinesSpec.preB enc Tryd.prog Tryd.f3 [] false ((lay os).forCall (fun _ _ => 0) ⟨#[], sb, []⟩).memory sb 8 = true := by kernel_rfl
theorem wit5 (os : Os) (H : Type) (enc : TypeId × Value → H) : Rows.traceLinesSpec.sizedB enc Tryd.prog Tryd.f3 false ((lay os).forCall (fun _ _ => 0) ⟨#[], sb, []⟩).memory sb 8 = true := by kernel_rfl
theorem wit6 (os : Os) : (World.holding Tryd.prog os ⟨#[], #[], []⟩).layFits Tryd.prog Rows.traceLinesRow.laid [] = true := by kernel_rfl
theorem wit7 (os : Os) : (World.holding Tryd.prog os ⟨#[], #[], []⟩).layIfaces Tryd.prog Rows.traceLinesRow.laid (lay os) = true := by kernel_rfl
theorem ait (W : World) : laidMetH Tryd.prog Rows.traceLinesRow.laid W = laidMet Tryd.prog Rows.traceLinesRow.laid W := MakeChecks.laidMetH_plain _ _ _ (by kernel_rfl)
theorem lifted (os : Os) (started : os.Started) (H : Type) (enc : TypeId × Value → H) :
    ReturnsInHanded {} Tryd.checked os 3 .any (fun w args => (Rows.traceLinesSpec.pre enc Tryd.prog Tryd.f3 [] false w args ∧ laidMetH Tryd.prog Rows.traceLinesRow.laid w) ∧ sizedMet enc Tryd.prog Tryd.f3 (OpenSpec.ofChange Rows.traceLinesSpec) false w args)
      (Rows.traceLinesSpec.post enc Tryd.prog Tryd.f3 false true false false) := by
  refine kG (C := Tryd.checked) (X := fun w _ => laidMetH Tryd.prog Rows.traceLinesRow.laid w) (fun _ _ _ hh h => h.of_heap hh) own started (by kernel_rfl) Tryd.func3
    (ChangeSpec.witness_shaped (enc := enc) (C := Tryd.checked) (os := os) (X := fun w _ => laidMetH Tryd.prog Rows.traceLinesRow.laid w) false (lay os) sb 8 (World.laidAll_os _ _ _)
      (World.shaped_of_ZipB (wit1 os) (wit2 os)) (wit3 os) (wit4 os H enc) (wit5 os H enc) (by rw [ait]; exact laidMet_laidAll _ (wit6 os) (wit7 os))) ?_
  intro W base args ds gs before hval0 hW hsh _
  have hval : ∀ (j : Nat) t v, Tryd.f3.params[j]? = some t → args[j]? = some v → Value.okWide Tryd.prog W .any base t v := hval0
  have hW' := hW
  obtain ⟨p, q, hA0, hV, rfl, hfz, hnd⟩ := hW
  have hA : DataW.TrodAll enc Tryd.prog W 0 (fun _ => true) true Tryd.f3.params.toList args.toList ds p := hA0
  rw [Tryd.params3] at hA hval
  obtain ⟨v0, vs0, d0, ds0, p0, q0, hargs, rfl, rfl, h0, r0⟩ := trodAll_cons hA
  obtain ⟨v1, vs1, d1, ds1, p1, q1, rfl, rfl, rfl, h1, r1⟩ := trodAll_cons r0
  obtain ⟨v2, vs2, d2, ds2, p2, q2, rfl, rfl, rfl, h2, r2⟩ := trodAll_cons r1
  obtain ⟨v3, vs3, d3, ds3, p3, q3, rfl, rfl, rfl, h3, r3⟩ := trodAll_cons r2
  obtain ⟨v4, vs4, d4, ds4, p4, q4, rfl, rfl, rfl, h4, r4⟩ := trodAll_cons r3
  obtain ⟨v5, vs5, d5, ds5, p5, q5, rfl, rfl, rfl, h5, r5⟩ := trodAll_cons r4
  obtain ⟨rfl, rfl, rfl⟩ := trodAll_nil r5
  obtain rfl : args = #[v0, v1, v2, v3, v4, v5] := by cases args; simp_all
  obtain ⟨rfl, rfl⟩ := trodVars_none hV
  have lt0 : ∀ x ∈ p0, x.block < W.heap.size := by obtain ⟨m, hm⟩ := h0; exact DataW.trod_lt m _ _ _ hm
  have lt1 : ∀ x ∈ p1, x.block < W.heap.size := by obtain ⟨m, hm⟩ := h1; exact DataW.trod_lt m _ _ _ hm
  have lt2 : ∀ x ∈ p2, x.block < W.heap.size := by obtain ⟨m, hm⟩ := h2; exact DataW.trod_lt m _ _ _ hm
  have lt3 : ∀ x ∈ p3, x.block < W.heap.size := by obtain ⟨m, hm⟩ := h3; exact DataW.trod_lt m _ _ _ hm
  have lt4 : ∀ x ∈ p4, x.block < W.heap.size := by obtain ⟨m, hm⟩ := h4; exact DataW.trod_lt m _ _ _ hm
  have lt5 : ∀ x ∈ p5, x.block < W.heap.size := by obtain ⟨m, hm⟩ := h5; exact DataW.trod_lt m _ _ _ hm
  refine (aaK (gw hsh) (hval 0 26 v0 rfl rfl) (hval 1 28 v1 rfl rfl) (hval 2 29 v2 rfl rfl) (hval 3 31 v3 rfl rfl) (hval 4 9 v4 rfl rfl) (hval 5 9 v5 rfl rfl) h0 h1 h2 h3 h4 h5).mono fun e W' ⟨he, bel⟩ => ?_
  subst he
  exact ⟨_, rfl, _, _, _, [], _, [], hW', trodAll_mk1 (shut_bool aic _), (trodAll_cons_mk (Below.trod laidOut (by kernel_rfl) (of_decide_eq_true (by kernel_rfl)) h0 bel lt0) (trodAll_cons_mk (Below.trod laidOut (by kernel_rfl) (of_decide_eq_true (by kernel_rfl)) h1 bel lt1) (trodAll_cons_mk (Below.trod laidOut (by kernel_rfl) (of_decide_eq_true (by kernel_rfl)) h2 bel lt2) (trodAll_cons_mk (Below.trod laidOut (by kernel_rfl) (of_decide_eq_true (by kernel_rfl)) h3 bel lt3) (trodAll_cons_mk (Below.trod laidOut (by kernel_rfl) (of_decide_eq_true (by kernel_rfl)) h4 bel lt4) (trodAll_cons_mk (Below.trod laidOut (by kernel_rfl) (of_decide_eq_true (by kernel_rfl)) h5 bel lt5) trodAll_mk0)))))), rfl, bel.frame _, fun h => by cases h⟩
end Go.Proofs.YtbamejikafhenaaDoor
namespace Go.Proofs.YtbamejikafhenaaDoor
open Go
set_option maxRecDepth 100000
theorem holds : Rows.TraceLinesSaid :=
  OpenClaim.holds_of_wide 3 Tryd.f3 rfl rfl rfl rfl rfl rfl rfl ⟨rfl, rfl, rfl, rfl, rfl⟩ rfl rfl rfl rfl rfl (by kernel_rfl) Tryd.func3 (by kernel_rfl)
    (of_decide_eq_true (by kernel_rfl)) (by unfold Func.isWrapper; first | (rw [if_pos (by decide +kernel)]; kernel_rfl) | (rw [if_neg (by decide +kernel)]; exact ⟨rfl, rfl⟩))
    (fun os started H enc _ => lifted os started H enc)
theorem cd1 : Rows.traceLinesRow.wfByText (OpenSpec.ofChange Rows.traceLinesSpec) = true := by kernel_rfl
theorem cd2 : Tryd.pinned.checked.prog.mainIs = some (true, "10a7cc1a4e9043b7f687cf8d35735475f904019c31aefbd28daafec64cf9a0f5".toList) := by kernel_rfl
theorem cd3 : Tryd.prog.funcNamed "wreckage/wreckagelaw45.TraceLines" = some 3 := by kernel_rfl
theorem cd4 : false = Tryd.pinned.checked.prog.looks [] := by kernel_rfl
theorem cd5 : false = Rows.traceLinesRow.goesBy Tryd.pinned.checked.prog := by kernel_rfl
theorem cd6 : Tryd.f3.params.toList.all (fun t => !(Tryd.pinned.checked.prog.wantsStandIn t)) = true := by kernel_rfl
theorem traceLines_card : Rows.TraceLinesCardSaid :=
  Claim7.holds_tied_plain_at .later [] [.data, .pinned] true (true, "10a7cc1a4e9043b7f687cf8d35735475f904019c31aefbd28daafec64cf9a0f5") false
    holds (fun _ h => by cases h) cd1 (fun _ h => by cases h) traceLines_row_tie rfl ⟨rfl, rfl⟩ cd2 rfl
    (fun f fn hf hfn => by
      obtain rfl : f = 3 := Option.some.inj (cd3.symm.trans hf) |>.symm
      obtain rfl : fn = Tryd.f3 := (Option.some.inj (Tryd.func3.symm.trans hfn)).symm
      exact ⟨cd4, fun j t ht => by
        have h := List.all_eq_true.1 cd6 t (List.mem_of_getElem? (by rw [Array.getElem?_toList]; exact ht))
        simpa using h⟩)
    cd5
end Go.Proofs.YtbamejikafhenaaDoor
