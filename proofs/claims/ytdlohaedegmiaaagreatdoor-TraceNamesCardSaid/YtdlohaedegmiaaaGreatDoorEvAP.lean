import Derived.Test.YtdlohaedegmiaaaGreatDoorEvAB
import Derived.Test.YtdlohaedegmiaaaGreatDoorEvAO
import Derived.Handed
import Derived.HandedShaped
import Derived.Stop.Joined
open Go Go.Proofs.YtdlohaedegmiaaaGreatDoor.Ev
namespace Go.Proofs.YtdlohaedegmiaaaGreatDoor.Tz
def asc (i : Nat) : Nat := if i = 32 ∨ (9 ≤ i ∧ i ≤ 13) then 1 else 0
def GW (ga mx es : Nat) (w : World) : Prop := (∀ i, i < 256 → w.cell? ⟨ga, i, none⟩ = some (.int .u8 (asc i))) ∧ (∃ m, w.cell? ⟨mx, 0, none⟩ = some (.int .i64 m)) ∧ ∃ ev, w.cell? ⟨es, 0, none⟩ = some ev ∧ (ev = .nilIface ∨ ∃ te pe, ev = .iface te pe)
theorem GW.keep {ga mx es nG : Nat} (h0 : ga < nG) (h1 : mx < nG) (h2 : es < nG) {w w' : World} (h : GW ga mx es w) (hk : ∀ B, B < nG → w'.heap[B]? = w.heap[B]?) : GW ga mx es w' := by
  have e : ∀ B o, B < nG → w'.cell? ⟨B, o, none⟩ = w.cell? ⟨B, o, none⟩ := fun B o hB => by simp only [World.cell?, hk B hB]
  refine ⟨fun i hi => (e ga i h0).trans (h.1 i hi), ?_, ?_⟩
  · obtain ⟨m, hm⟩ := h.2.1
    exact ⟨m, (e mx 0 h1).trans hm⟩
  · obtain ⟨ev, hm, hx⟩ := h.2.2
    exact ⟨ev, (e es 0 h2).trans hm, hx⟩
theorem a3I : (List.range 256).all (fun i => lQ (.nd (cellAt 1 lD i) .lf .lf) (.nd (.int 4 (asc i)) .lf .lf)) = true := by kernel_rfl
theorem a83 (i : Nat) (h : i < 256) : cellAt 1 lD i = .int 4 (asc i) := by
  have := List.all_eq_true.1 a3I i (List.mem_range.2 h)
  have e := qQ _ _ this
  injection e
theorem a3H {P : Program} {vs : Vs} {ga mx es : Nat} (hG : vs.G = GW ga mx es) (hn : ga < vs.nG) {w : World} {F : Nat → Prop} {μ : Mu} (h : Env.pL ⟨P, vs⟩ w F) : ae w F μ (.x 1 lD 0 256 1) (.pointer (some ⟨ga, 0, none⟩)) := by
  obtain ⟨h1, h2⟩ := h
  have h1' : vs.G w := h1
  rw [hG] at h1'
  refine .gV (fun i => .int .u8 (asc i)) (h2 ga hn) (fun i hi => by simpa using h1'.1 i hi) (fun _ _ => rfl) fun i hi => ?_
  rw [Nat.zero_add, a83 i hi]
  have e : (Value.int .u8 (asc i)) = .int (kd 4) ((kd 4).wrap (asc i)) := by
    unfold asc; split <;> rfl
  rw [e]
  exact .int (by unfold asc; split <;> decide)
theorem abt {vs : Vs} {mx es : Nat} (hG : vs.G = GW 1 mx es) (hn : 1 < vs.nG) {C : Cx} (hg : C.gl = gls) : ly C vs := fun p hp => by
  rw [hg] at hp
  have e : p = (1, .x 1 lD 0 256 1) := by
    rcases List.mem_cons.1 hp with h | h
    · exact h
    · cases h
  subst e
  exact ⟨⟨_, _, _, _, rfl⟩, fun w F μ h => a3H hG hn h⟩
theorem dfq {o : Option Dfd} {q : Dfd} {n : Nat} (e : o.map Dfd.g = some n) (h : o = some q) : q.g = n := by subst h; simpa using e
end Go.Proofs.YtdlohaedegmiaaaGreatDoor.Tz
namespace Go.Proofs.YtdlohaedegmiaaaGreatDoor
variable {H : Type} {enc : TypeId × Value → H}
theorem ee {a : Assume} {C : Checked} {os : Os} {f : FuncId} {fn : Func} {s : ChangeSpec} {conds : List PathCond} {apart fresh handsOn again : Bool} {X : World → Array Value → Prop}
    (hX : ∀ (w w' : World) (args : Array Value), w.heap = w'.heap → X w args → X w' args)
    (own : ownKnob C.prog.godebug = none) (started : os.Started) (noInit : C.prog.inits.idxOf? f = none) (hfn : C.prog.funcs[f]? = some fn)
    (witness : ∃ (w : World) (tape : Tape) (i : Input), w.os = os ∧ (w.forCall tape i).Shaped C.prog ∧ i.vars = [] ∧ Input.okWide C.prog (w.forCall tape i) .any w.heap.size f i ∧
      ((s.pre enc C.prog fn conds apart (w.forCall tape i).memory i.args ∧ X (w.forCall tape i).memory i.args) ∧ sizedMet enc C.prog fn (OpenSpec.ofChange s) apart (w.forCall tape i).memory i.args) ∧ a.holds C.prog (lone (Frame.enter C.prog f i.args .normal) [] (w.forCall tape i)))
    (contract : ∀ (W : World) (base : Nat) (args : Array Value) (ds gs : List (DataW H)) (before : List MemPlace),
      (∀ (j : Nat) t v, fn.params[j]? = some t → args[j]? = some v → Value.okWide C.prog W .any base t v) →
      DataW.Whole enc C.prog fn.params.toList s.vars apart W args.toList ds gs before → W.ShapedOpen C.prog → X W args →
      Calls C.prog f args W fun e W' => ∃ v, e = .returned v ∧ s.post enc C.prog fn apart fresh handsOn again W args v W') :
    ReturnsInHanded a C os f .any (fun w args => (s.pre enc C.prog fn conds apart w args ∧ X w args) ∧ sizedMet enc C.prog fn (OpenSpec.ofChange s) apart w args) (s.post enc C.prog fn apart fresh handsOn again) := by
  refine returnsInHanded_of_calls own started noInit witness ?_
  intro w tape i _ hsh _ hok hpre _
  obtain ⟨_, _, _, fn', hfn', _, _, _, _, hval⟩ := hok
  have e : fn' = fn := Option.some.inj (hfn'.symm.trans hfn)
  subst e
  obtain ⟨⟨⟨ds, gs, before, hw, _⟩, hx⟩, _⟩ := hpre
  have hw' := DataW.Whole.of_heap (w' := w.forCall tape i) (by rfl) hw
  refine (contract (w.forCall tape i) w.heap.size i.args ds gs before hval hw' hsh (hX _ _ _ (by rfl) hx)).mono fun e W' ⟨v, he, hp⟩ => ?_
  subst he
  exact ChangeSpec.post_blind hp
end Go.Proofs.YtdlohaedegmiaaaGreatDoor
