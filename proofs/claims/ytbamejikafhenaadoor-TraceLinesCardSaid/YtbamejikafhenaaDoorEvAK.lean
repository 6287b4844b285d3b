import Derived.Test.YtbamejikafhenaaDoorEvAJ
import Derived.RangeFuncLeaves
namespace Go.Proofs.YtbamejikafhenaaDoor.Ev
theorem a0z {α : Type} {p p' : α → Bool} (hpp : ∀ x, p' x = true → p x = true) : ∀ {l : List α}, l.countP p' ≤ l.countP p ∧ ∀ {x : α}, x ∈ l → p x = true → p' x = false → l.countP p' < l.countP p
  | [] => ⟨Nat.le_refl _, fun h => by cases h⟩
  | y :: l => by
    obtain ⟨h1, h2⟩ := a0z hpp (l := l)
    rw [List.countP_cons, List.countP_cons]
    refine ⟨?_, fun {x} hx hp hp' => ?_⟩
    · by_cases e : p' y = true
      · rw [if_pos e, if_pos (hpp y e)]; omega
      · rw [if_neg e]; omega
    · rcases List.mem_cons.1 hx with rfl | hx
      · rw [hp, hp']; simp; omega
      · have := h2 hx hp hp'
        by_cases e : p' y = true
        · rw [if_pos e, if_pos (hpp y e)]; omega
        · rw [if_neg e]; omega
section
variable {V : Env} {ops : Array Oper} {nt rb : Nat} {all : List Dr} {T : Nat → TP} {H : Nat → Hp} {S : Nat → Nat → AV} (A : mS V ops nt rb ops.size all T H S) (hb : oN ops.toList 0 = true)
  {μ0 : Mu} {F0 : Nat → Prop} {w0 : World} {df : List Deferred} {Q : Exit → Act → World → Prop} {r : Option Nat} {m : Nat}
include A hb
theorem abe (hQ : ∀ (D : Nat → Prop) q μ F a w, Inv V nt rb ops.size T H S μ0 F0 w0 df D q μ F a w → (∀ i, i < ops.size → D i) → Q .normal a w) : ∀ (fuel : Nat) (listed : Array Bool) (q : Nat) (μ : Mu) (F : Nat → Prop) (a : Act) (w : World), listed.size = ops.size → (List.range ops.size).countP (fun i => !listed.getD i false) ≤ fuel →
    Inv V nt rb ops.size T H S μ0 F0 w0 df (fun i => listed.getD i false = true) q μ F a w → wpAnyIn (Wf r) m V.P .any ops Q fuel listed a w := by
  have ready : ∀ {listed : Array Bool} {i : Nat}, i ∈ Region.ready .any ops listed ↔ listed.getD i true = false ∧ ∃ o, ops[i]? = some o ∧ ∀ e ∈ o.after, Region.binds .any e = true → listed.getD e.on false = true := fun {listed i} => mem_ready
  have getT : ∀ {listed : Array Bool} {i : Nat}, listed.getD i true = false → i < listed.size ∧ listed.getD i false = false := fun {listed i} h => by
    rw [Array.getD_eq_getD_getElem?] at h
    cases hx : listed[i]? with
    | none => rw [hx] at h; cases h
    | some b =>
      rw [hx] at h
      refine ⟨(Array.getElem?_eq_some_iff.1 hx).1, ?_⟩
      rw [Array.getD_eq_getD_getElem?, hx]; exact h
  have getF : ∀ {listed : Array Bool} {i : Nat}, listed.size = ops.size → i < ops.size → listed.getD i false ≠ true → listed.getD i true = false := fun {listed i} hs hi h => by
    rw [Array.getD_eq_getD_getElem?] at h ⊢
    cases hx : listed[i]? with
    | none => rw [Array.getElem?_eq_none_iff] at hx; omega
    | some b => rw [hx] at h; cases b with | false => rfl | true => exact absurd rfl h
  have all' : ∀ {listed : Array Bool}, listed.size = ops.size → Region.ready .any ops listed = [] → ∀ i, i < ops.size → listed.getD i false = true := fun {listed} hs hr i => by
    induction i using Nat.strongRecOn with
    | _ i ih =>
      intro hi
      exact Classical.byContradiction fun h => by
        have hmem : i ∈ Region.ready .any ops listed := ready.2 ⟨getF hs hi h, ops[i], Array.getElem?_eq_getElem hi, fun e he hbi => by
          have hlt := qO hb i ops[i] (by rw [Array.getElem?_toList, Array.getElem?_eq_getElem hi]) e (by simpa using he) hbi
          exact ih e.on (by omega) (by omega)⟩
        rw [hr] at hmem; cases hmem
  intro fuel
  induction fuel with
  | zero =>
    intro listed q μ F a w hs hc I
    have hall : ∀ i, i < ops.size → listed.getD i false = true := fun i hi => by
      have h0 := List.countP_eq_zero.1 (Nat.le_zero.1 hc) i (List.mem_range.2 hi)
      simpa using h0
    refine ⟨?_, hQ _ q μ F a w I hall⟩
    cases hr : Region.ready .any ops listed with
    | nil => rfl
    | cons i l =>
      exfalso
      have hi : i ∈ Region.ready .any ops listed := by rw [hr]; exact List.mem_cons_self ..
      obtain ⟨h1, _⟩ := ready.1 hi
      obtain ⟨h2, h3⟩ := getT h1
      rw [hall i (by omega)] at h3; cases h3
  | succ fuel ih =>
    intro listed q μ F a w hs hc I
    refine ⟨fun hr => hQ _ q μ F a w I (all' hs hr), fun i hi => ?_⟩
    obtain ⟨h1, o, ho, hon⟩ := ready.1 hi
    obtain ⟨hilt, hiF⟩ := getT h1
    rw [hs] at hilt
    obtain ⟨k, hk, rfl⟩ := A.surj i hilt
    obtain ⟨op1, op2, op3, _⟩ := A.op k hk
    rw [ho] at op1
    have hoo : o = (T k).x.o := Option.some.inj op1
    subst hoo
    have hD : ¬ listed.getD (T k).x.i false = true := by rw [hiF]; simp
    have rd : ∀ j, j < ops.size → bit (T k).x.m (T j).x.i = true → listed.getD (T j).x.i false = true := fun j hj hbit => by
      rw [op2] at hbit
      obtain ⟨e, e1, e2, e3, e4⟩ := ae9 hb ho hbit
      have hDe := hon e (by simpa using e1) e2
      rcases e4 with e4 | e4
      · rw [e4]; exact hDe
      · obtain ⟨k', hk', hke⟩ := A.surj e.on (by omega)
        refine I.cl k' j hk' hj (by rw [hke]; exact hDe) ?_
        rw [(A.op k' hk').2.1, hke]; exact e4
    have hD' : ∀ j, (listed.setIfInBounds (T k).x.i true).getD j false = true ↔ listed.getD j false = true ∨ j = (T k).x.i := fun j => by
      rw [Array.getD_eq_getD_getElem?, Array.getElem?_setIfInBounds]
      by_cases e : (T k).x.i = j
      · subst e
        rw [if_pos rfl, if_pos (by omega)]
        exact ⟨fun _ => .inr rfl, fun _ => rfl⟩
      · rw [if_neg e, ← Array.getD_eq_getD_getElem?]
        exact ⟨.inl, fun h => h.resolve_right fun h2 => e h2.symm⟩
    have hs' : (listed.setIfInBounds (T k).x.i true).size = ops.size := by rw [Array.size_setIfInBounds, hs]
    have hc' : (List.range ops.size).countP (fun i => !(listed.setIfInBounds (T k).x.i true).getD i false) ≤ fuel := by
      have := (a0z (p := fun i => !listed.getD i false) (p' := fun i => !(listed.setIfInBounds (T k).x.i true).getD i false) (fun x hx => by
        have hx' : ¬ (listed.setIfInBounds (T k).x.i true).getD x false = true := by simpa using hx
        rw [hD'] at hx'
        have : ¬ listed.getD x false = true := fun h => hx' (.inl h)
        simpa using this) (l := List.range ops.size)).2 (List.mem_range.2 hilt) (by rw [hiF]; rfl) (by rw [(hD' _).2 (.inr rfl)]; rfl)
      omega
    have next := fun {q μ F a w} I' => ih (listed.setIfInBounds (T k).x.i true) q μ F a w hs' hc' I'
    obtain ⟨dn, ok, _⟩ := A.tp k hk
    obtain ⟨hS, HS, ES, nS, pS, sS⟩ := I.hp
    have hslot : ∀ t, t ∈ jY ops (T k).x.o → ao w F μ ((T k).σ t) (a.tmps.getD t undef) := fun t ht => by
      rw [(A.sk k hk).1]
      exact I.slot A hk hD rd (by rw [op3]; exact ht)
    have hO : qw w F μ (T k).O (T k).x.o.op.operands.toList a.eval := fun x hx => ok.oo x HS.ve fun t e => hslot t (mem_reads (.inl (e ▸ hx)))
    have HA : (T k).kd = 3 → aP V μ F (T k).hA w := fun e => HS.sub (I.hidA A hk hD rd e sS) (by rw [nS, (A.wrap hk e).anx]; exact (A.mono (I.w3 A hk hD e) (by omega)).1)
    refine ok.step.wpS (hS := hS) ho hO (fun j want t hg hd => by rw [ok.os]; exact hslot t (mem_reads (.inr ⟨j, want, hg, hd⟩))) (I.un k hk hD) HS ?_ (fun e p hsp hm hl => ?_) HA (fun e x hv => next (I.low A hk hD rd hD' e hv)) (fun e B hB hS' x w' μ' F' hset hnx hv hid HS' E => ?_) (fun e x w' μ' F' hv hid HB E => next (I.write A hk hD rd hD' e HS ES nS pS sS (HA e) hv hid HB E))
    · rw [nS]
      have h1 := (A.vP (k := 0) (by omega)).2
      have h2 := (A.mono (Nat.zero_le q) (I.qn A)).1
      have h3 := (A.op k hk).2.2.2
      omega
    · have eA := (A.low hk (by omega)).1
      rw [eA] at hl ⊢
      exact I.read A hk hD rd HS sS e hsp hl (hO p hm)
    · obtain ⟨eA, eB, _⟩ := A.low hk (by omega)
      rw [eA, eB] at hB
      exact next (I.make A hk hD rd hD' e HS ES nS pS sS hB hset hnx hv hid HS' E)
end
theorem uL : ∀ (n D : Nat) (l : List Dr), (l.map (·.i)).Nodup → ((order n D l).map (·.i)).Nodup
  | 0, D, l, _ => List.nodup_nil
  | n + 1, D, l, hn => by
    have e0 : order (n + 1) D l = Option.rec (motive := fun _ => List Dr) [] (fun x => x :: order n (Nat.lor D (Nat.pow 2 x.i)) (dH x.i l)) (sH D l (rQ D l)) := rfl
    cases hp : sH D l (rQ D l) with
    | none => rw [e0, hp]; exact List.nodup_nil
    | some z =>
      have e1 : order (n + 1) D l = z :: order n (D ||| 2 ^ z.i) (dH z.i l) := by rw [e0, hp]; rfl
      have hw : ((dH z.i l).map (·.i)).Nodup := hn.sublist ((lk l).map _)
      rw [e1, List.map_cons, List.nodup_cons]
      refine ⟨fun hm => ?_, uL n _ _ hw⟩
      obtain ⟨y, hy, e⟩ := List.mem_map.1 hm
      obtain ⟨k, hk, hky⟩ := List.getElem_of_mem hy
      have := (nH n (D ||| 2 ^ z.i) (dH z.i l) hw k y (by rw [List.getElem?_eq_getElem hk, hky])).1
      exact ou hn this e
theorem Ext.congr {μ μ' : Mu} {F F' : Nat → Prop} {h h1 h2 : Hp} {w w' : World} (E : Ext μ F h w μ' F' h1 w') (he : ∀ b, BEq (h1.at b) (h2.at b)) (hp : h2.pr = h1.pr) (hn : h1.nx ≤ h2.nx) (hr : h2.rb = h.rb) : Ext μ F h w μ' F' h2 w' :=
  ⟨E.mu, E.fr, E.size, E.dC, fun B ⟨b, m, q1, q2, q3, q4⟩ => E.own B ⟨b, m, (he b).symm.wr q1, by rw [← hp]; exact q2, q3, q4⟩, fun B ⟨b, m, q1, q3, q4⟩ => E.wb B ⟨b, m, (he b).symm.wr q1, q3, q4⟩, E.tA, E.pd, Nat.le_trans E.nx hn, hp.trans E.pr, hr, E.io⟩
section
variable {C : Cx} {vs : Vs} {R : aa} (ok : cW C.M) (hR : R ≠ .fail) {ops : Array Oper}
include ok hR
theorem a5v (hc : mG C (C.env vs)) (hgl : yW C vs) (hm : C.P.follows .mixedOrders = true) {s0 : nV} {k : G → Sm} {Q : Exit → Act → World → Prop} {r : Option Nat} {n rid : Nat} {g : G} {sk : Row} {fr : Fr} {hp : Hp} {μ : Mu} {F : Nat → Prop} {a : Act} {w : World}
    (h : (pE C ops g k).run sk fr hp = R) (St0 : St C (C.env vs) s0 g sk fr hp μ F a w)
    (hQ : ∀ g' sk' fr' hp' μ' F' a' w', (k g').run sk' fr' hp' = R → St C (C.env vs) s0 g' sk' fr' hp' μ' F' a' w' → kF μ F hp w μ' F' hp' w' → Q .normal a' w') : (Code.region rid ops true).wpIn (Wf r) n C.P Q a w := by
  refine wpIn_region_any hm ?_
  have h1 : (Bool.rec (motive := fun _ => Sm) cK (⟨fun sk fr hp => Hp.rec (motive := fun _ => aa) (fun t nx pr _ => aG nx fun nx => aG (Nat.add nx ops.size) fun m => (uy C ops (order ops.size 0 (drs C.P ops ops.toList (rp (iC ops.toList [] 0) []) 0)) (order ops.size 0 (drs C.P ops ops.toList (rp (iC ops.toList [] 0) []) 0)) g k []).run sk fr ⟨t, m, pr, nx⟩) hp⟩ : Sm)
    (eP (oN ops.toList 0) (tX (order ops.size 0 (drs C.P ops ops.toList (rp (iC ops.toList [] 0) []) 0)) ops.size)) : Sm).run sk fr hp = R := h
  generalize hl : order ops.size 0 (drs C.P ops ops.toList (rp (iC ops.toList [] 0) []) 0) = l at h1
  cases hbd : eP (oN ops.toList 0) (tX l ops.size) with
  | false => rw [hbd] at h1; exact an hR h1
  | true =>
    rw [hbd] at h1
    rw [gj] at hbd
    obtain ⟨hb, hd⟩ := hbd
    have h2 : aG hp.nx (fun nx => aG (Nat.add nx ops.size) fun m => (uy C ops l l g k []).run sk fr ⟨hp.t, m, hp.pr, nx⟩) = R := h1
    rw [az, az] at h2
    have hids : ((drs C.P ops ops.toList (rp (iC ops.toList [] 0) []) 0).map (·.i)).Nodup := by rw [s9]; exact List.nodup_range'
    obtain ⟨ts, g', sk', fr', hp', q1, q2, q3⟩ := zK (vs := vs) ok hR hc hgl (all := l) (rb := hp.nx) (n := ops.size) l St0.gi (fun x hx => by
      rw [← hl] at hx
      obtain ⟨j, hj, e⟩ := List.getElem_of_mem hx
      have hm := (nH ops.size 0 _ hids j x (by rw [List.getElem?_eq_getElem hj, e])).1
      obtain ⟨j', o, e1, e2⟩ := a0T hm
      rw [e2]
      refine ⟨?_, rfl⟩
      show 0 + j' < ops.size
      have := (List.getElem?_eq_some_iff.1 e1).1
      simpa using this) rfl (Nat.le_refl _) (by
      rw [List.map_nil, List.append_nil, ← hl]; exact uL _ _ _ hids) h2
    obtain ⟨T, H, S, A, eH0, eHn, eS0, eSn⟩ := q3.plan (hl.symm) hd
    have hw : aP (C.env vs) μ F hp { w with drawn := w.drawn + 1 } := (St0.h.world (w' := { w with drawn := w.drawn + 1 }) rfl).1
    have hH0at : ∀ b, (H 0).at b = hp.at b := fun b => by rw [eH0]
    have H0 : aP (C.env vs) μ F (H 0) { w with drawn := w.drawn + 1 } := hw.sub (fun b => .inr (hH0at b)) (by rw [eH0]; exact Nat.le_add_right _ _)
    have hfree : ∀ k, k < ops.size → μ (dL hp.nx T k) = none := fun k hk => by
      cases hx : μ (dL hp.nx T k) with
      | none => rfl
      | some m => exact absurd (St0.h.nM _ m hx).1 (Nat.not_lt.2 (Nat.le_add_right _ _))
    have hgone : ∀ k, k < ops.size → ((H 0).at (dL hp.nx T k)).gone := fun k hk => Classical.byContradiction fun hng => by
      obtain ⟨m, hm⟩ := (H0.c8 (dL hp.nx T k)).some hng
      rw [hfree k hk] at hm; cases hm
    have hnone : ∀ i, ¬ (Array.replicate ops.size false).getD i false = true := fun i => by
      rw [Array.getD_eq_getD_getElem?, Array.getElem?_replicate]
      split <;> simp
    refine abe (V := C.env vs) (μ0 := μ) (F0 := F) (w0 := { w with drawn := w.drawn + 1 }) (df := a.defers) A hb (fun D q μ' F' a' w' I hall => ?_) ops.size _ 0 μ F a _ (by simp) (by
      have : (List.range ops.size).countP (fun i => !(Array.replicate ops.size false).getD i false) ≤ (List.range ops.size).length := List.countP_le_length
      simpa using this) ⟨fun k j _ _ h => absurd h (hnone _), fun k _ _ h => absurd h (hnone _), .inl rfl, fun t => .inr ⟨fun k _ h => absurd h (hnone _), by rw [eS0]; exact ao.mono (w := w) (w' := { w with drawn := w.drawn + 1 }) (F := F) (F' := F) (fun _ _ => rfl) (fun _ h => h) (St0.sl t) (fun _ _ h => h)⟩, ⟨H 0, H0, Ext.refl _ _ _ _, rfl, rfl, fun b => ⟨fun k hk _ e => ⟨fun h => absurd h (hnone _), fun _ => e ▸ hgone k hk⟩, fun _ => BEq.refl _⟩⟩, fun k hk _ => hfree k hk, fun k hk _ => by rw [Nat.zero_min]; exact hgone k hk, fun b h => .inl h, St0.nt, rfl⟩
    obtain ⟨hS, HS, ES, nS, pS, sS⟩ := I.hp
    have hqn := I.qn A
    have hwr : ∀ j, j < ops.size → (T j).kd = 3 → j < q := fun j hj e => I.wl j hj e (hall _ (A.op j hj).2.2.2)
    have hbeq : ∀ b, BEq (hS.at b) ((H ops.size).at b) := fun b => by
      by_cases hmk : ∃ j, j < ops.size ∧ (T j).kd = 2 ∧ dL hp.nx T j = b
      · obtain ⟨j, hj, hkj, hjb⟩ := hmk
        have hX := ((sS b).1 j hj hkj hjb).1 (hall _ (A.op j hj).2.2.2)
        have hother : ∀ m, m < ops.size → (T m).kd = 2 → m ≠ j → dL hp.nx T m ≠ b := fun m hm _ hne e => hne (A.kH hm hj (e.trans hjb.symm))
        by_cases hqj : q ≤ j
        · rw [I.gh A (k := ops.size) hqn (Nat.le_refl _) hwr (j := j + 1) (by omega) (by omega) fun m h1 h2 h3 => hother m h2 h3 (by omega)]
          exact hX.1 hqj
        · rw [I.gh A (k := ops.size) hqn (Nat.le_refl _) hwr (Nat.le_refl q) hqn fun m h1 h2 h3 => hother m h2 h3 (by omega)]
          exact hX.2 (by omega)
      · rw [I.gh A (k := ops.size) hqn (Nat.le_refl _) hwr (Nat.le_refl q) hqn fun m h1 h2 h3 e => hmk ⟨m, h2, h3, e⟩]
        exact (sS b).2 fun j hj hkj e => hmk ⟨j, hj, hkj, e⟩
    have hnxn : hS.nx ≤ (H ops.size).nx := by rw [nS]; exact (A.mono hqn (Nat.le_refl _)).1
    have hprn : (H ops.size).pr = hS.pr := by rw [pS]; exact (A.mono (Nat.zero_le _) (Nat.le_refl _)).2
    have HN : aP (C.env vs) μ' F' (H ops.size) w' := HS.congr hbeq hnxn
    have EN : Ext μ F hp w μ' F' ((H ops.size).vP hp.rb) w' := by
      have e1 : Ext μ F (H 0) { w with drawn := w.drawn + 1 } μ' F' ((H ops.size).vP (H 0).rb) w' := ES.congr hbeq hprn hnxn rfl
      refine ⟨e1.mu, e1.fr, e1.size, fun B hB ho => e1.dC B hB fun ⟨b, m, o1, o2, o3, o4⟩ => ho ⟨b, m, by rw [← hH0at]; exact o1, by rw [eH0] at o2; exact o2, o3, o4⟩, fun B hB => (e1.own B hB).imp id fun ⟨b, m, o1, o2, o3, o4⟩ => ⟨b, m, by rw [← hH0at]; exact o1, by rw [eH0] at o2; exact o2, o3, o4⟩, fun B hB => (e1.wb B hB).imp id fun ⟨b, m, o1, o3, o4⟩ => ⟨b, m, by rw [← hH0at]; exact o1, o3, o4⟩, fun B hB => (e1.tA B hB).imp id fun h => h.imp id fun ⟨b, m, o1, o3, o4⟩ => ⟨b, m, by rw [← hH0at]; exact o1, o3, o4⟩, fun b m hm => (e1.pd b m hm).imp id fun ⟨z1, z2⟩ => ⟨z1, z2.imp id fun ⟨b, m, o1, o2, o3, o4⟩ => ⟨b, m, by rw [← hH0at]; exact o1, by rw [eH0] at o2; exact o2, o3, o4⟩⟩, ?_, ?_, rfl, e1.io⟩
      · have := e1.nx
        rw [eH0] at this
        exact Nat.le_trans (Nat.le_add_right _ _) this
      · have := e1.pr
        rw [eH0] at this
        exact this
    rw [eHn] at HN EN
    have EC : kF μ F hp w μ' F' hp' w' := ⟨EN, I.ids⟩
    refine hQ g' sk' fr' hp' μ' F' a' w' q1 ⟨q2, fun t => ?_, HN, I.nt, by rw [I.df]; exact (St0.df.ext EC.ext).vP⟩ EC
    rw [← eSn]
    rcases I.sl t with ⟨j, hj, hDj, hdst, hcj⟩ | ⟨hno, hcj⟩
    · have hs : S (j + 1) t = (T j).v := (A.slot hj t).1 hdst
      rcases A.lW (j := j + 1) (t := t) (k := ops.size) (by omega) (Nat.le_refl _) (fun m h1 h2 => (mN (A.pair j m (by omega) h2).1 hdst).1) with h | h
      · rw [h, hs]; exact hcj
      · rw [h]; exact .uu _
    · rcases A.lW (j := 0) (t := t) (k := ops.size) (Nat.zero_le _) (Nat.le_refl _) (fun m _ h2 => hno m h2 (hall _ (A.op m h2).2.2.2)) with h | h
      · rw [h]; exact hcj
      · rw [h]; exact .uu _
end
theorem a4y {p : Nat → Prop} (h : ∃ n, p n) : ∃ n, p n ∧ ∀ m, p m → n ≤ m := by
  obtain ⟨n, hn⟩ := h
  induction n using Nat.strongRecOn with
  | _ n ih =>
    by_cases h : ∃ m, m < n ∧ p m
    · obtain ⟨m, hm, hp⟩ := h; exact ih m hm hp
    · exact ⟨n, hn, fun m hm => Nat.le_of_not_lt fun hlt => h ⟨m, hlt, hm⟩⟩
open Classical in
noncomputable def least (p : Nat → Prop) : Nat := if h : ∃ n, p n then Classical.choose (a4y h) else 0
theorem vV {p : Nat → Prop} {n : Nat} (h : p n) : p (least p) ∧ least p ≤ n := by
  have he : ∃ n, p n := ⟨n, h⟩
  unfold least
  rw [dif_pos he]
  obtain ⟨h1, h2⟩ := Classical.choose_spec (a4y he)
  exact ⟨h1, h2 n h⟩
theorem xB {Fc : Fence} {n : Nat} {P : Program} {c : Code} {Q : Exit → Act → World → Prop} (J : Nat → Act → World → Prop) (h0 : ∀ a w, ¬ J 0 a w) (round : ∀ N a w, J (N + 1) a w → c.wpIn Fc n P (Exit.then (J N) Q) a w) {N : Nat} {a : Act} {w : World} (h : J N a w) : (Code.loop c).wpIn Fc n P Q a w := by
  refine wpIn_loop (fun a w => ∃ N, J N a w) (fun a w => least fun N => J N a w) ⟨N, h⟩ fun a w ⟨M, hM⟩ => ?_
  obtain ⟨h1, _⟩ := vV (p := fun N => J N a w) hM
  cases hl : least (fun N => J N a w) with
  | zero => rw [hl] at h1; exact absurd h1 (h0 a w)
  | succ L =>
    rw [hl] at h1
    refine wpIn_mono (round L a w h1) fun e a' w' hq => ?_
    cases e with
    | normal =>
      refine ⟨⟨L, hq⟩, ?_⟩
      have := (vV (p := fun N => J N a' w') hq).2
      show least (fun N => J N a' w') < L + 1
      omega
    | _ => exact hq
section scope
variable {P : Program} {b : Frame} {a : Act} {k : List Item} {cs : List Frame} {w : World}
theorem a4t {c : Code} : step P (lone (b.atR a (.code (.scope c) :: k)) cs w) = .next (lone (b.atR a (.code c :: .inScope c :: k)) cs w) :=
  step_lone_go (by simp [stepG, stepG.exec, Frame.atR])
theorem yC {c : Code} : step P (lone (b.atR a (.inScope c :: k)) cs w) = .next (lone (b.atR a k) cs w) :=
  step_lone_go (by simp [stepG, stepG.exec, Frame.atR])
end scope
def a9Z (c : Code) (K : Code → Act → World → Prop) (Q : Exit → Act → World → Prop) : Exit → Act → World → Prop
  | .goto l, a, w => (∃ rest, findLabel c l = some rest ∧ K rest a w) ∨ (findLabel c l = none ∧ Q (.goto l) a w)
  | e, a, w => Q e a w
theorem a4W {Fc : Fence} {n : Nat} {P : Program} {c : Code} {Q : Exit → Act → World → Prop} (K : Nat → Code → Act → World → Prop) (h0 : ∀ d a w, ¬ K 0 d a w) (hs : ∀ N d a w, K (N + 1) d a w → d.wpIn Fc n P (a9Z c (K N) Q) a w) {N : Nat} {a : Act} {w : World} (h : K N c a w) : (Code.scope c).wpIn Fc n P Q a w := by
  intro b k cs hro hb hr
  have key : ∀ N d a w, K N d a w → ∃ e a' w', Q e a' w' ∧ ArrivesIn (Machine.fenced P Fc) P (lone (b.atR a (.code d :: .inScope c :: k)) cs w) b k cs e a' w' := by
    intro N
    induction N with
    | zero => intro d a w h; exact absurd h (h0 d a w)
    | succ N ih =>
      intro d a w h
      obtain ⟨e, a₁, w₁, hq, harr⟩ := hs N d a w h b (.inScope c :: k) cs hro hb hr
      cases e with
      | normal => exact ⟨.normal, a₁, w₁, hq, StepsIn.trans harr (.one (fenced_calm hb hr rfl) yC)⟩
      | exit id =>
        have hx : exitTo id (.inScope c :: k) = exitTo id k := by simp [exitTo]
        exact ⟨.exit id, a₁, w₁, hq, fun k' hk => harr.1 k' (by rw [hx]; exact hk), fun hr' hk => harr.2 hr' (by rw [hx]; exact hk)⟩
      | goto l =>
        rcases hq with ⟨rest, hf, hK⟩ | ⟨hf, hq⟩
        · have hg : gotoIn l (.inScope c :: k) = some (.code rest :: .inScope c :: k) := by simp [gotoIn, hf]
          obtain ⟨e₂, a₂, w₂, hq₂, harr₂⟩ := ih rest a₁ w₁ hK
          exact ⟨e₂, a₂, w₂, hq₂, .of_steps (harr.1 _ hg) harr₂⟩
        · have hg : gotoIn l (.inScope c :: k) = gotoIn l k := by simp [gotoIn, hf]
          exact ⟨.goto l, a₁, w₁, hq, fun k' hk => harr.1 k' (by rw [hg]; exact hk), fun hr' hk => harr.2 hr' (by rw [hg]; exact hk)⟩
      | ret => exact ⟨_, a₁, w₁, hq, harr⟩
      | panic ch => exact ⟨_, a₁, w₁, hq, harr⟩
      | outgrown => exact ⟨_, a₁, w₁, hq, harr⟩
  obtain ⟨e, a', w', hq, harr⟩ := key N c a w h
  exact ⟨e, a', w', hq, .of_steps (.one (fenced_calm hb hr rfl) a4t) harr⟩
section
variable {C : Cx}
theorem rf : ∀ (c : Code) (l : Nat), (den C c).lab l = (findLabel c l).map fun rest => (den C rest).run
  | .skip, _ | .region .., _ | .cond .., _ | .block .., _ | .loop _, _ | .rangeFunc .., _ | .exit _, _ | .scope _, _ | .goto _, _ | .ret, _ | .refuse _, _ => rfl
  | .label l', l => by
    have e : (den C (.label l')).lab l = (Bool.rec (motive := fun _ => Option (G → (G → Sm) → vy → Sm → Sm)) none (some fun g k _ _ => k g) (Nat.beq l' l) : Option _) := rfl
    rw [e, eF]
    by_cases h : l' = l
    · rw [if_pos (by rw [aF]; exact h)]
      simp only [findLabel, beq_iff_eq, h, if_true]; rfl
    · rw [if_neg (by rw [aF]; exact h)]
      simp [findLabel, h]
  | .seq a b, l => by
    have e : (den C (.seq a b)).lab l = (Option.rec (motive := fun _ => Option (G → (G → Sm) → vy → Sm → Sm)) ((den C b).lab l) (fun r => some fun g k ex rt => r g (fun g => (den C b).run g k ex rt) ex rt) ((den C a).lab l) : Option _) := rfl
    rw [e, rf a l, rf b l]
    cases h : findLabel a l with
    | none => simp [findLabel, h]
    | some r => simp only [findLabel, h, Option.map_some]; rfl
theorem a1s : ∀ (c : Code) (l : Nat), l ∉ (den C c).ls → findLabel c l = none
  | .skip, _, _ | .region .., _, _ | .cond .., _, _ | .block .., _, _ | .loop _, _, _ | .rangeFunc .., _, _ | .exit _, _, _ | .scope _, _, _ | .goto _, _, _ | .ret, _, _ | .refuse _, _, _ => rfl
  | .label l', l, h => by
    have e : (den C (.label l')).ls = [l'] := rfl
    rw [e, List.mem_singleton] at h
    simp [findLabel, Ne.symm h]
  | .seq a b, l, h => by
    have e : (den C (.seq a b)).ls = yR (den C a).ls (den C b).ls := rfl
    rw [e, a1r, List.mem_append, not_or] at h
    simp [findLabel, a1s a l h.1, a1s b l h.2]
theorem mi (n : Nat) (p : Nat × Sm) (l : vy) : og n (p :: l) = if p.1 = n then p.2 else og n l := by
  show (Bool.rec (motive := fun _ => Sm) (og n l) p.2 (Nat.beq p.1 n) : Sm) = _
  rw [eF]; simp only [aF]
theorem a0S (n : Nat) (fr : Fr) (hp : Hp) : ∀ (l : vy), goOn l n fr hp = (og n l).run .lf fr hp
  | [] => rfl
  | p :: l => by
    rw [mi]
    show (Bool.rec (motive := fun _ => aa) (goOn l n fr hp) (p.2.run .lf fr hp) (Nat.beq p.1 n) : aa) = _
    rw [eF]
    by_cases e : p.1 = n
    · rw [if_pos (by rw [aF]; exact e), if_pos e]
    · rw [if_neg (by rw [aF]; exact e), if_neg e, a0S n fr hp l]
theorem sT {R : aa} (hR : R ≠ .fail) {n : Nat} {sk : Row} {fr : Fr} {hp : Hp} : ∀ {l : vy}, (og n (nU l)).run sk fr hp = R → R = .exit n fr hp
  | [], h => an hR h
  | p :: l, h => by
    have h' : (og n ((p.1, exS p.1) :: nU l)).run sk fr hp = R := h
    rw [mi] at h'
    split at h'
    · rename_i e
      simp only at e
      rw [← h', ← e]; rfl
    · exact sT hR h'
theorem xl {R : aa} (hR : R ≠ .fail) {n : Nat} {sk : Row} {fr : Fr} {hp : Hp} {l : vy} : ∀ {ls : List Nat}, (og n (adL ls (nU l))).run sk fr hp = R → R = .exit n fr hp
  | [], h => sT hR h
  | q :: ls, h => by
    have h' : (og n ((Nat.succ (Nat.mul 2 q), exS (Nat.succ (Nat.mul 2 q))) :: adL ls (nU l))).run sk fr hp = R := h
    rw [mi] at h'
    split at h'
    · rename_i e
      simp only at e
      rw [← h', ← e]; rfl
    · exact xl hR h'
def At (C : Cx) (vs : Vs) (s0 : nV) (μ0 : Mu) (F0 : Nat → Prop) (h0 : Hp) (w0 : World) (g : G) (sk : Row) (fr : Fr) (hp : Hp) (a : Act) (w : World) : Prop := ∃ μ F, St C (C.env vs) (s0.at w0.heap.size) g sk fr hp μ F a w ∧ kF μ0 F0 h0 w0 μ F hp w
variable {vs : Vs} {s0 : nV} {μ0 : Mu} {F0 : Nat → Prop} {h0 : Hp} {w0 : World}
theorem At.drop {g : G} {sk : Row} {fr : Fr} {hp : Hp} {a : Act} {w : World} (h : At C vs s0 μ0 F0 h0 w0 g sk fr hp a w) : At C vs s0 μ0 F0 h0 w0 .e .lf fr hp a w := by
  obtain ⟨μ, F, S, E⟩ := h
  refine ⟨μ, F, ⟨gC.e, fun t => ?_, S.h, S.nt, S.df⟩, E⟩
  have e : look C .e t = idxOf t C.vars 0 := rfl
  show ao w F μ (sv 0 (look C .e t) .lf fr) _
  rw [e]
  rcases vE (l := C.vars) (t := t) (i := 0) with ⟨j, hj⟩ | hj
  · rw [hj]
    have h1 := S.sl t
    have hl : look C g t = .f j := by
      rw [look_eq]
      rcases lT (z := idxOf t C.vars 0) (t := t) (l := g.m) with ⟨x, p1, p2, _⟩ | ⟨_, p2⟩
      · have := S.gi.nv x p1
        rw [p2, a0a hj] at this; cases this
      · rw [p2]; exact hj
    unfold sig at h1
    rw [hl] at h1
    exact h1
  · rw [hj]; exact .uu _
def bW (C : Cx) (vs : Vs) (r : Option Nat) (n : Nat) (c : Code) : Prop := ∀ {s0 : nV} {μ0 : Mu} {F0 : Nat → Prop} {h0 : Hp} {w0 : World} {g : G} {k : G → Sm} {ex : vy} {rt : Sm} {sk : Row} {fr : Fr} {hp : Hp} {R : aa} {a : Act} {w : World} {Q : Exit → Act → World → Prop}, R ≠ .fail → ((den C c).run g k ex rt).run sk fr hp = R → At C vs s0 μ0 F0 h0 w0 g sk fr hp a w →
  (∀ g' sk' fr' hp' a' w', (k g').run sk' fr' hp' = R → At C vs s0 μ0 F0 h0 w0 g' sk' fr' hp' a' w' → Q .normal a' w') →
  (∀ id fr' hp' a' w', (og (2 * id) ex).run .lf fr' hp' = R → At C vs s0 μ0 F0 h0 w0 .e .lf fr' hp' a' w' → Q (.exit id) a' w') →
  (∀ l fr' hp' a' w', (og (2 * l + 1) ex).run .lf fr' hp' = R → At C vs s0 μ0 F0 h0 w0 .e .lf fr' hp' a' w' → Q (.goto l) a' w') →
  (∀ fr' hp' a' w', rt.run .lf fr' hp' = R → At C vs s0 μ0 F0 h0 w0 .e .lf fr' hp' a' w' → Q .ret a' w') → c.wpIn (Wf r) n C.P Q a w
end
end Go.Proofs.YtbamejikafhenaaDoor.Ev
namespace Go.Proofs.YtbamejikafhenaaDoor.Ev
structure CxOk (C : Cx) (vs : Vs) : Prop where
  ok : cW C.M
  gl : yW C vs
  mo : C.P.follows .mixedOrders = true
  calls : mG C (C.env vs)
section
variable {C : Cx} {vs : Vs} (X : CxOk C vs) {r : Option Nat} {n : Nat}
theorem bW.skip : bW C vs r n .skip := fun _ h S hN _ _ _ => wpIn_skip (hN _ _ _ _ _ _ h S)
theorem bW.label {l : Nat} : bW C vs r n (.label l) := fun _ h S hN _ _ _ => wpIn_label (hN _ _ _ _ _ _ h S)
theorem bW.seq {x y : Code} (hx : bW C vs r n x) (hy : bW C vs r n y) : bW C vs r n (.seq x y) := fun hR h S hN hE hG hT => by
  refine wpIn_seq (hx hR (show ((den C x).run _ (fun g => (den C y).run g _ _ _) _ _).run _ _ _ = _ from h) S (fun g' sk' fr' hp' a' w' h1 S1 => ?_) hE hG hT)
  exact hy hR h1 S1 hN hE hG hT
include X
theorem bW.region {id : Nat} {ops : Array Oper} {d : Bool} : bW C vs r n (.region id ops d) := by
  intro s0 μ0 F0 h0 w0 g k ex rt sk fr hp R a w Q hR h ⟨μ, F, S, E⟩ hN hE hG hT
  have h1 : (Bool.rec (motive := fun _ => Sm) (oC C ops ops.toList g k) (pE C ops g k) d : Sm).run sk fr hp = R := h
  cases d with
  | false =>
    refine wpIn_region ?_
    rw [List.range_eq_range']
    have hsz : ops.size = ops.toList.length := by simp
    rw [hsz]
    exact zt X.ok hR X.calls X.gl ops.toList 0 (fun j o hj => by rw [Nat.zero_add, ← Array.getElem?_toList]; exact hj) h1 S fun g' sk' fr' hp' μ' F' a' w' q1 q2 q3 _ => hN _ _ _ _ _ _ q1 ⟨μ', F', q2, E.trans q3⟩
  | true => exact a5v X.ok hR X.calls X.gl X.mo h1 S fun g' sk' fr' hp' μ' F' a' w' q1 q2 q3 => hN _ _ _ _ _ _ q1 ⟨μ', F', q2, E.trans q3⟩
theorem bW.cond {c : Operand} {x y : Code} (hx : bW C vs r n x) (hy : bW C vs r n y) : bW C vs r n (.cond c x y) := by
  intro s0 μ0 F0 h0 w0 g k ex rt sk fr hp R a w Q hR h S hN hE hG hT
  let j := jx (k .e)
  have h1 := bP hR (C := C) (g := g) (x := c) (sk := sk) (fr := fr) (k := fun v => v.ay fun t => when t (((den C x).run g (fun _ => j) ex rt).run sk fr hp) (((den C y).run g (fun _ => j) ex rt).run sk fr hp)) h
  obtain ⟨b, hb, h2⟩ := kP hR h1
  obtain ⟨μ, F, St0, E⟩ := S
  have hc := a0U X.gl (a := a) St0.h.ve c (fun t _ => St0.sl t)
  rw [hb] at hc
  have hN' : ∀ g' sk' fr' hp' a' w', (j).run sk' fr' hp' = R → At C vs s0 μ0 F0 h0 w0 g' sk' fr' hp' a' w' → Q .normal a' w' := fun g' sk' fr' hp' a' w' q1 q2 => hN .e .lf fr' hp' a' w' q1 q2.drop
  refine wpIn_cond (jz hc) ?_
  rcases aM hR h2 with ⟨e, h3⟩ | ⟨e, h3⟩
  · rw [if_pos e]
    exact hx hR h3 ⟨μ, F, St0, E⟩ hN' hE hG hT
  · rw [if_neg (by rw [e]; decide)]
    exact hy hR h3 ⟨μ, F, St0, E⟩ hN' hE hG hT
omit X
theorem bW.block {id : Nat} {x : Code} (hx : bW C vs r n x) : bW C vs r n (.block id x) := by
  intro s0 μ0 F0 h0 w0 g k ex rt sk fr hp R a w Q hR h S hN hE hG hT
  let j := jx (k .e)
  have h1 : ((den C x).run g (fun _ => j) ((Nat.mul 2 id, j) :: ex) rt).run sk fr hp = R := h
  refine wpIn_block (hx hR h1 S (fun g' sk' fr' hp' a' w' q1 q2 => hN .e .lf fr' hp' a' w' q1 q2.drop) (fun id' fr' hp' a' w' q1 q2 => ?_) (fun l fr' hp' a' w' q1 q2 => ?_) hT)
  · rw [mi] at q1
    by_cases e : id' = id
    · subst e
      rw [if_pos (show Nat.mul 2 id' = 2 * id' from rfl)] at q1
      show Exit.inBlock id' Q (.exit id') a' w'
      simp only [Exit.inBlock, if_true]
      exact hN .e .lf fr' hp' a' w' q1 q2
    · rw [if_neg (fun q => e (by have q : 2 * id = 2 * id' := q; omega))] at q1
      show Exit.inBlock id Q (.exit id') a' w'
      simp only [Exit.inBlock, e, if_false]
      exact hE id' fr' hp' a' w' q1 q2
  · rw [mi, if_neg (fun q => by have q : 2 * id = 2 * l + 1 := q; omega)] at q1
    exact hG l fr' hp' a' w' q1 q2
theorem bW.exit {id : Nat} : bW C vs r n (.exit id) := fun _ h S _ hE _ _ => wpIn_exit (hE id _ _ _ _ h S.drop)
theorem bW.goto {l : Nat} : bW C vs r n (.goto l) := fun _ h S _ _ hG _ => wpIn_goto (hG l _ _ _ _ h S.drop)
theorem bW.ret : bW C vs r n .ret := fun _ h S _ _ _ hT => wpIn_ret (hT _ _ _ _ h S.drop)
theorem bW.refuse {s : String} : bW C vs r n (.refuse s) := fun hR h _ _ _ _ _ => an hR h
theorem aaR {R : aa} (hR : R ≠ .fail) {s : Sm} {ih : Fr → Hp → aa} {fr : Fr} {hp : Hp} (h : tick s ih fr hp = R) : s.run .lf fr hp ≠ .fail ∧ ((∃ fr' hp', s.run .lf fr hp = .ok fr' hp' ∧ ih fr' hp' = R) ∨ (∃ m fr' hp', s.run .lf fr hp = .exit m fr' hp' ∧ R = .exit m fr' hp') ∨ ∃ fr' hp', s.run .lf fr hp = .ret fr' hp' ∧ R = .ret fr' hp') := by
  unfold tick at h
  cases hs : s.run .lf fr hp with
  | ok fr' hp' => rw [hs] at h; exact ⟨by simp, .inl ⟨_, _, rfl, h⟩⟩
  | exit m fr' hp' => rw [hs] at h; exact ⟨by simp, .inr (.inl ⟨_, _, _, rfl, h.symm⟩)⟩
  | ret fr' hp' => rw [hs] at h; exact ⟨by simp, .inr (.inr ⟨_, _, rfl, h.symm⟩)⟩
  | _ => rw [hs] at h; exact an hR h
theorem bW.loop {x : Code} (hx : bW C vs r n x) : bW C vs r n (.loop x) := by
  intro s0 μ0 F0 h0 w0 g k ex rt sk fr hp R a w Q hR h S hN hE hG hT
  let s := (den C x).run .e (fun _ => vN) (nU ex) vO
  have h1 : qq (aD s 1000000 fr hp) (fun _ _ => .fail) ex rt = R := h
  generalize hN0 : 1000000 = N at h1
  generalize hres : aD s N fr hp = R1 at h1
  have hR1 : R1 ≠ .fail := fun e => by rw [e] at h1; exact hR h1.symm
  refine xB (fun N a w => ∃ fr hp, aD s N fr hp = R1 ∧ At C vs s0 μ0 F0 h0 w0 .e .lf fr hp a w) (fun a w ⟨fr, hp, q, _⟩ => hR1 q.symm) (fun M a w ⟨fr, hp, q, S⟩ => ?_) (N := N) ⟨fr, hp, hres, S.drop⟩
  have q' : tick s (aD s M) fr hp = R1 := q
  obtain ⟨hb, hcases⟩ := aaR hR1 q'
  have body : ∀ {Rb : aa}, s.run .lf fr hp = Rb → Rb ≠ .fail → (∀ fr' hp', Rb = .ok fr' hp' → aD s M fr' hp' = R1) → (∀ m fr' hp', Rb = .exit m fr' hp' → R1 = .exit m fr' hp') → (∀ fr' hp', Rb = .ret fr' hp' → R1 = .ret fr' hp') → x.wpIn (Wf r) n C.P (Exit.then (fun a w => ∃ fr hp, aD s M fr hp = R1 ∧ At C vs s0 μ0 F0 h0 w0 .e .lf fr hp a w) Q) a w := by
    intro Rb hs hRb h1' h2' h3'
    have ends : ∀ m fr' hp' , (og m (nU ex)).run .lf fr' hp' = Rb → (og m ex).run .lf fr' hp' = R := fun m fr' hp' e => by
      have e2 := h2' m fr' hp' (sT hRb e)
      rw [e2] at h1
      rw [← a0S]; exact h1
    refine hx hRb hs S (fun g' sk' fr' hp' a' w' e S1 => ?_) (fun id fr' hp' a' w' e S1 => hE id fr' hp' a' w' (ends _ _ _ e) S1) (fun l fr' hp' a' w' e S1 => hG l fr' hp' a' w' (ends _ _ _ e) S1) (fun fr' hp' a' w' e S1 => ?_)
    · exact ⟨fr', hp', h1' fr' hp' e.symm, S1.drop⟩
    · have e2 := h3' fr' hp' e.symm
      rw [e2] at h1
      exact hT fr' hp' a' w' h1 S1
  rcases hcases with ⟨fr', hp', e1, e2⟩ | ⟨m, fr', hp', e1, e2⟩ | ⟨fr', hp', e1, e2⟩
  · exact body e1 (by simp) (fun _ _ e => by cases e; exact e2) (fun _ _ _ e => by cases e) (fun _ _ e => by cases e)
  · exact body e1 (by simp) (fun _ _ e => by cases e) (fun _ _ _ e => by cases e; exact e2) (fun _ _ e => by cases e)
  · exact body e1 (by simp) (fun _ _ e => by cases e) (fun _ _ _ e => by cases e) (fun _ _ e => by cases e; exact e2)
theorem ai2 (ls : List Nat) (segs : Lb) (ih : Sm → Fr → Hp → aa) (m : Nat) (fr : Fr) (hp : Hp) : (∃ l ∈ ls, m = 2 * l + 1 ∧ (List.rec (motive := fun _ => aa) (.exit m fr hp) (fun l _ r => Bool.rec (motive := fun _ => aa) r (ih (segs.f l) fr hp) (Nat.beq (Nat.succ (Nat.mul 2 l)) m)) ls : aa) = ih (segs.f l) fr hp) ∨
    ((∀ l ∈ ls, m ≠ 2 * l + 1) ∧ (List.rec (motive := fun _ => aa) (.exit m fr hp) (fun l _ r => Bool.rec (motive := fun _ => aa) r (ih (segs.f l) fr hp) (Nat.beq (Nat.succ (Nat.mul 2 l)) m)) ls : aa) = .exit m fr hp) := by
  induction ls with
  | nil => exact .inr ⟨fun _ h => (by cases h), rfl⟩
  | cons l ls ihl =>
    by_cases e : m = 2 * l + 1
    · refine .inl ⟨l, List.mem_cons_self .., e, ?_⟩
      show (Bool.rec (motive := fun _ => aa) _ (ih (segs.f l) fr hp) (Nat.beq (Nat.succ (Nat.mul 2 l)) m) : aa) = _
      rw [eF, if_pos (by rw [aF]; exact e.symm)]
    · have hb : ¬ Nat.beq (Nat.succ (Nat.mul 2 l)) m = true := by rw [aF]; exact fun q => e q.symm
      rcases ihl with ⟨l', h1, h2, h3⟩ | ⟨h1, h2⟩
      · refine .inl ⟨l', List.mem_cons_of_mem _ h1, h2, ?_⟩
        show (Bool.rec (motive := fun _ => aa) _ (ih (segs.f l) fr hp) (Nat.beq (Nat.succ (Nat.mul 2 l)) m) : aa) = _
        rw [eF, if_neg hb]; exact h3
      · refine .inr ⟨fun q hq => (List.mem_cons.1 hq).elim (fun h => h ▸ e) (h1 q), ?_⟩
        show (Bool.rec (motive := fun _ => aa) _ (ih (segs.f l) fr hp) (Nat.beq (Nat.succ (Nat.mul 2 l)) m) : aa) = _
        rw [eF, if_neg hb]; exact h2
theorem bW.scope {x : Code} (hx : bW C vs r n x) (hl : ∀ l rest, findLabel x l = some rest → bW C vs r n rest) : bW C vs r n (.scope x) := by
  intro s0 μ0 F0 h0 w0 g k ex rt sk fr hp R a w Q hR h S hN hE hG hT
  let ex' := adL (den C x).ls (nU ex)
  let j := k .e
  let segs : Lb := ⟨fun l => Option.rec (motive := fun _ => Sm) cK (fun r => r .e (fun _ => vN) ex' vO) ((den C x).lab l)⟩
  let s := (den C x).run .e (fun _ => vN) ex' vO
  have h1 : qq (jC (den C x).ls segs 1000000 s fr hp) (fun fr hp => j.run .lf fr hp) ex rt = R := h
  generalize hN0 : 1000000 = N at h1
  generalize hres : jC (den C x).ls segs N s fr hp = R1 at h1
  have hR1 : R1 ≠ .fail := fun e => by rw [e] at h1; exact hR h1.symm
  refine a4W (fun N d a w => bW C vs r n d ∧ ∃ fr hp, jC (den C x).ls segs N ((den C d).run .e (fun _ => vN) ex' vO) fr hp = R1 ∧ At C vs s0 μ0 F0 h0 w0 .e .lf fr hp a w) (fun d a w ⟨_, fr, hp, q, _⟩ => hR1 q.symm) (fun M d a w ⟨hd, fr, hp, q, S⟩ => ?_) (N := N) ⟨hx, fr, hp, hres, S.drop⟩
  generalize hs : ((den C d).run .e (fun _ => vN) ex' vO).run .lf fr hp = Rb
  have q' : tG (den C x).ls segs (jC (den C x).ls segs M) ((den C d).run .e (fun _ => vN) ex' vO) fr hp = R1 := q
  unfold tG at q'
  rw [hs] at q'
  have hRb : Rb ≠ .fail := fun e => by rw [e] at q'; exact hR1 q'.symm
  have ends : ∀ m fr' hp', Rb = .exit m fr' hp' → (∃ l ∈ (den C x).ls, m = 2 * l + 1 ∧ jC (den C x).ls segs M (segs.f l) fr' hp' = R1) ∨ ((∀ l ∈ (den C x).ls, m ≠ 2 * l + 1) ∧ (og m ex).run .lf fr' hp' = R) := fun m fr' hp' e => by
    rw [e] at q'
    rcases ai2 (den C x).ls segs (jC (den C x).ls segs M) m fr' hp' with ⟨l, p1, p2, p3⟩ | ⟨p1, p2⟩
    · exact .inl ⟨l, p1, p2, p3.symm.trans q'⟩
    · refine .inr ⟨p1, ?_⟩
      have e3 : R1 = .exit m fr' hp' := q'.symm.trans p2
      rw [e3] at h1
      rw [← a0S]; exact h1
  refine hd hRb hs S (fun g' sk' fr' hp' a' w' e S1 => ?_) (fun id fr' hp' a' w' e S1 => ?_) (fun l fr' hp' a' w' e S1 => ?_) (fun fr' hp' a' w' e S1 => ?_)
  · have e0 : Rb = .ok fr' hp' := e.symm
    rw [e0] at q'
    have q2 : R1 = .ok fr' hp' := q'.symm
    rw [q2] at h1
    exact hN .e .lf fr' hp' a' w' h1 S1.drop
  · rcases ends _ _ _ (xl hRb e) with ⟨l, _, p2, _⟩ | ⟨_, p2⟩
    · omega
    · exact hE id fr' hp' a' w' p2 S1
  · rcases ends _ _ _ (xl hRb e) with ⟨l', p1, p2, p3⟩ | ⟨p1, p2⟩
    · have : l' = l := by omega
      subst this
      cases hf : findLabel x l' with
      | some rest =>
        refine .inl ⟨rest, hf, hl l' rest hf, fr', hp', ?_, S1⟩
        have e4 : segs.f l' = (den C rest).run .e (fun _ => vN) ex' vO := by
          show (Option.rec (motive := fun _ => Sm) cK (fun r => r .e (fun _ => vN) ex' vO) ((den C x).lab l') : Sm) = _
          rw [rf, hf]; rfl
        rw [← e4]; exact p3
      | none =>
        exfalso
        have e4 : segs.f l' = cK := by
          show (Option.rec (motive := fun _ => Sm) cK (fun r => r .e (fun _ => vN) ex' vO) ((den C x).lab l') : Sm) = _
          rw [rf, hf]; rfl
        rw [e4] at p3
        cases M with
        | zero => exact hR1 p3.symm
        | succ M => exact hR1 p3.symm
    · exact .inr ⟨a1s x l fun hm => p1 l hm rfl, hG l fr' hp' a' w' p2 S1⟩
  · have e0 : Rb = .ret fr' hp' := e.symm
    rw [e0] at q'
    have q2 : R1 = .ret fr' hp' := q'.symm
    rw [q2] at h1
    exact hT fr' hp' a' w' h1 S1
include X
omit X in
theorem a7E {α : Type} (a b : List α) : a8M a b = a ++ b := by
  induction a with
  | nil => rfl
  | cons x r ih => exact congrArg (x :: ·) ih
theorem runOk (c : Code) (hrf : ∀ x ∈ qf c, bW C vs r n (.rangeFunc x.1 x.2.1 x.2.2.1 x.2.2.2)) : bW C vs r n c ∧ ∀ l rest, findLabel c l = some rest → bW C vs r n rest := by
  induction c with
  | skip => exact ⟨bW.skip, fun l rest h => by cases h⟩
  | region id ops d => exact ⟨bW.region X, fun l rest h => by cases h⟩
  | seq x y ihx ihy =>
    have e : qf (.seq x y) = a8M (qf x) (qf y) := rfl
    rw [e, a7E] at hrf
    have ihx := ihx fun z hz => hrf z (List.mem_append_left _ hz)
    have ihy := ihy fun z hz => hrf z (List.mem_append_right _ hz)
    refine ⟨bW.seq ihx.1 ihy.1, fun l rest h => ?_⟩
    cases hf : findLabel x l with
    | none => simp [findLabel, hf] at h; exact ihy.2 l rest h
    | some rx =>
      simp [findLabel, hf] at h
      rw [← h]
      exact bW.seq (ihx.2 l rx hf) ihy.1
  | cond c x y ihx ihy =>
    have e : qf (.cond c x y) = a8M (qf x) (qf y) := rfl
    rw [e, a7E] at hrf
    have ihx := ihx fun z hz => hrf z (List.mem_append_left _ hz)
    have ihy := ihy fun z hz => hrf z (List.mem_append_right _ hz)
    exact ⟨bW.cond X ihx.1 ihy.1, fun l rest h => by cases h⟩
  | block id x ih => exact ⟨bW.block (ih hrf).1, fun l rest h => by cases h⟩
  | loop x ih => exact ⟨bW.loop (ih hrf).1, fun l rest h => by cases h⟩
  | rangeFunc f ps x y ihx ihy => exact ⟨hrf _ (List.mem_cons_self ..), fun l rest h => by cases h⟩
  | exit id => exact ⟨bW.exit, fun l rest h => by cases h⟩
  | scope x ih => exact ⟨bW.scope (ih hrf).1 (ih hrf).2, fun l rest h => by cases h⟩
  | label l' =>
    refine ⟨bW.label, fun l rest h => ?_⟩
    by_cases e : l' = l
    · simp [findLabel, e] at h
      rw [← h]; exact bW.skip
    · simp [findLabel, e] at h
  | goto l' => exact ⟨bW.goto, fun l rest h => by cases h⟩
  | ret => exact ⟨bW.ret, fun l rest h => by cases h⟩
  | refuse s => exact ⟨bW.refuse, fun l rest h => by cases h⟩
end
theorem a3a : ∀ (n j : Nat), (blank n).at j = .uu
  | 0, j | 1, j | 2, j | 3, j | 4, j | 5, j | 6, j | 7, j => by rcases j with _ | _ | _ | _ | _ | _ | _ | _ | j <;> rfl
  | n + 8, j => by
    rcases j with _ | _ | _ | _ | _ | _ | _ | _ | j
    iterate 8 rfl
    exact a3a n j
theorem zV {R : aa} (hR : R ≠ .fail) : ∀ {l : Row} {i : Nat} {fr : Fr} {k : Fr → aa}, zu i l fr k = R → ∃ fr', k fr' = R ∧ ∀ j, fr'.at j = if i ≤ j ∧ j < i + len l then nth l (j - i) else fr.at j
  | .lf, i, fr, k, h => ⟨fr, h, fun j => by rw [if_neg (by show ¬ (i ≤ j ∧ j < i + 0); omega)]⟩
  | .nd v a l, i, fr, k, h => by
    obtain ⟨fr1, h1, h2⟩ := wO hR i (k := fun fr => zu (Nat.succ i) l fr k) h
    obtain ⟨fr', h3, h4⟩ := zV hR h2
    refine ⟨fr', h3, fun j => ?_⟩
    rw [h4 j, h1 j]
    show _ = if i ≤ j ∧ j < i + (len l + 1) then nth (.nd v a l) (j - i) else fr.at j
    by_cases e : j = i
    · subst e
      rw [if_neg (by omega), if_pos rfl, if_pos (by omega), Nat.sub_self]; rfl
    · by_cases e2 : i + 1 ≤ j ∧ j < i + 1 + len l
      · rw [if_pos e2, if_pos (by omega), show j - i = (j - (i + 1)) + 1 by omega]; rfl
      · rw [if_neg e2, if_neg e, if_neg (by omega)]
theorem a7T : ∀ l : Row, adE l = len l
  | .lf => rfl
  | .nd _ _ l => congrArg (· + 1) (a7T l)
theorem a2a {n : Nat} {l : List Nat} (h : lS n l = true) : ∀ j, j < n → idxOf j l 0 = .f j := by
  have key : ∀ (n s : Nat) (l : List Nat), (Nat.rec (motive := fun _ => Nat → List Nat → Bool) (fun _ _ => true) (fun _ ih i l => List.rec (motive := fun _ => Bool) false (fun a r _ => eP (Nat.beq a i) (ih (Nat.succ i) r)) l) n s l : Bool) = true → ∀ j, j < n → idxOf (s + j) l s = .f (s + j) := by
    intro n
    induction n with
    | zero => intro s l _ j hj; omega
    | succ n ih =>
      intro s l h j hj
      cases l with
      | nil => cases h
      | cons a r =>
        have h' : eP (Nat.beq a s) (Nat.rec (motive := fun _ => Nat → List Nat → Bool) (fun _ _ => true) (fun _ ih i l => List.rec (motive := fun _ => Bool) false (fun a r _ => eP (Nat.beq a i) (ih (Nat.succ i) r)) l) n (Nat.succ s) r : Bool) = true := h
        rw [gj, aF] at h'
        rw [idxOf_cons]
        cases j with
        | zero => rw [if_pos (by rw [h'.1]; rfl)]; rfl
        | succ j =>
          rw [if_neg (by rw [h'.1]; omega)]
          have := ih (s + 1) r h'.2 j (by omega)
          rw [show s + (j + 1) = s + 1 + j by omega]; exact this
  intro j hj
  have := key n 0 l h j hj
  rw [Nat.zero_add] at this
  exact this
section
variable {C : Cx} {vs : Vs} {R : aa} (ok : cW C.M) (hR : R ≠ .fail)
def oh (tmps : Array Value) : ResultVar → Sem Value
  | .tmp t => pure (tmps.getD t undef)
  | .cell a t => do loadVar t (← asAddr (tmps.getD a undef))
include ok hR
theorem yz {fr : Fr} {hp : Hp} : ∀ {l : List ResultVar} {k : Row → aa}, resK C l fr hp k = R → ∃ r, k r = R ∧ len r = l.length ∧ ∀ {w : World} {F : Nat → Prop} {μ : Mu} {tmps : Array Value}, aP (C.env vs) μ F hp w → (∀ t, ao w F μ (sig C .e .lf fr t) (tmps.getD t undef)) →
    ∃ us : List Value, (l.mapM (oh tmps)).run C.P w = .ok us w ∧ us.length = l.length ∧ ∀ i u, us[i]? = some u → ao w F μ (nth r i) u
  | [], k, h => ⟨.lf, h, rfl, fun {w F μ tmps} _ _ => ⟨[], by simp, rfl, fun i u e => by cases e⟩⟩
  | .tmp t :: l, k, h => by
    obtain ⟨h1, _, _⟩ := s8 hR (d := 0) (s := look C .e t) (sk := .lf) (fr := fr) (k := fun v => resK C l fr hp fun r => k (.nd v .lf r)) h
    obtain ⟨r, h2, h3, H⟩ := yz (l := l) h1
    refine ⟨_, h2, congrArg (· + 1) h3, fun {w F μ tmps} hH hsl => ?_⟩
    obtain ⟨us, e1, e2, e3⟩ := H hH hsl
    refine ⟨tmps.getD t undef :: us, by simp [List.mapM_cons, oh, e1], congrArg (· + 1) e2, fun i u e => ?_⟩
    cases i with
    | zero => cases e; exact hsl t
    | succ i => exact e3 i u e
  | .cell t ty :: l, k, h => by
    obtain ⟨h1, _, _⟩ := s8 hR (d := 0) (s := look C .e t) (sk := .lf) (fr := fr) (k := fun p => ar (known C.P ty) (aq C.M (isAgg C.P ty) (bw C.P ty) p hp fun v => resK C l fr hp fun r => k (.nd v .lf r))) h
    obtain ⟨hk, h2⟩ := ax hR h1
    have hptr : ∀ {w : World} {F : Nat → Prop} {μ : Mu} {u : Value}, ao w F μ (sv 0 (look C .e t) .lf fr) u → ∃ ad, u = .pointer (some ad) := by
      rcases kp hR h2 with ⟨b, o, e, _⟩ | ⟨tt, o, n, z, e, _⟩
      · intro w F μ u hu
        rw [e] at hu
        obtain ⟨m, _, rfl⟩ := jX hu
        exact ⟨_, rfl⟩
      · intro w F μ u hu
        rw [e] at hu
        cases hu; exact ⟨_, rfl⟩
    obtain ⟨v, h3, _, hrd⟩ := zq (V := C.env vs) ok hR (j9 hk) h2
    obtain ⟨r, h4, h5, H⟩ := yz (l := l) h3
    refine ⟨_, h4, congrArg (· + 1) h5, fun {w F μ tmps} hH hsl => ?_⟩
    obtain ⟨us, e1, e2, e3⟩ := H hH hsl
    obtain ⟨x, q1, q2⟩ := hrd (hsl t) (hH.read _)
    obtain ⟨ad, had⟩ := hptr (hsl t)
    rw [had] at q1
    have hload : (oh tmps (.cell t ty)).run C.P w = .ok x w := by
      rw [Instr.loadAt, Sem.run_bind, rk] at q1
      have q1' : (loadVar ty ad).run C.P w = .ok x w := q1
      simp [oh, had, asAddr, q1']
    refine ⟨x :: us, by simp [List.mapM_cons, hload, e1], congrArg (· + 1) e2, fun i u e => ?_⟩
    cases i with
    | zero => cases e; exact q2
    | succ i => exact e3 i u e
omit ok hR in
theorem uF {P : Program} {fn : Func} {tmps : Array Value} {w : World} {us : List Value} (h : (fn.results.toList.mapM (oh tmps)).run P w = .ok us w) : (results fn tmps).run P w = .ok (if h : us.toArray.size = 1 then us.toArray[0] else .tuple us.toArray) w := by
  have e : (fn.results.mapM (oh tmps)).run P w = .ok us.toArray w := by
    rw [Array.mapM_eq_mapM_toList]
    simp [h]
  have e2 : results fn tmps = (do let vs ← fn.results.mapM (oh tmps); pure (if h : vs.size = 1 then vs[0] else .tuple vs)) := by
    unfold results oh
    congr 1
  rw [e2, Sem.run_bind, e]
  rfl
theorem abG {l : List ResultVar} {fr : Fr} {hp : Hp} (h : tQ C l fr hp = R) : ∃ v, R = .val v hp ∧ ∀ {fn : Func} {w : World} {F : Nat → Prop} {μ : Mu} {tmps : Array Value}, fn.results.toList = l → aP (C.env vs) μ F hp w → (∀ t, ao w F μ (sig C .e .lf fr t) (tmps.getD t undef)) → ∃ x, (results fn tmps).run C.P w = .ok x w ∧ ao w F μ v x := by
  unfold tQ at h
  obtain ⟨r, h1, h2, H⟩ := yz (vs := vs) ok hR h
  have many : (∀ x, l ≠ [x]) → aa.val (.bB r l.length) hp = R → ∃ v, R = .val v hp ∧ ∀ {fn : Func} {w : World} {F : Nat → Prop} {μ : Mu} {tmps : Array Value}, fn.results.toList = l → aP (C.env vs) μ F hp w → (∀ t, ao w F μ (sig C .e .lf fr t) (tmps.getD t undef)) → ∃ x, (results fn tmps).run C.P w = .ok x w ∧ ao w F μ v x := fun hne e => by
    refine ⟨_, e.symm, fun {fn w F μ tmps} hfn hH hsl => ?_⟩
    obtain ⟨us, e1, e2, e3⟩ := H hH hsl
    have hsz : us.toArray.size ≠ 1 := fun q => by
      rw [List.size_toArray, e2] at q
      obtain ⟨x, hx⟩ := List.length_eq_one_iff.1 q
      exact hne x hx
    refine ⟨.tuple us.toArray, ?_, .bB (fun i => us.toArray[i]?.getD undef) (by rw [List.size_toArray, h2, e2]) (fun i hi => by rw [Array.getElem?_eq_getElem hi]; rfl) fun i hi => ?_⟩
    · rw [uF (by rw [hfn]; exact e1), dif_neg hsz]
    · have hi' : i < us.length := by simpa using hi
      refine e3 i _ ?_
      rw [List.getElem?_toArray, List.getElem?_eq_getElem hi']; rfl
  cases l with
  | nil => exact many (fun x => by simp) h1
  | cons x l =>
    cases l with
    | nil =>
      cases r with
      | lf => exact an hR h1
      | nd v a r' =>
        refine ⟨v, h1.symm, fun {fn w F μ tmps} hfn hH hsl => ?_⟩
        obtain ⟨us, e1, e2, e3⟩ := H hH hsl
        obtain ⟨u, rfl⟩ := List.length_eq_one_iff.1 e2
        refine ⟨u, ?_, e3 0 u rfl⟩
        rw [uF (by rw [hfn]; exact e1), dif_pos (by simp)]
        rfl
    | cons y l => exact many (fun x => by simp) h1
end
theorem aP.other {V : Env} {μ : Mu} {F : Nat → Prop} {h : Hp} {w w' : World} (H : aP V μ F h w) {r : Nat} (hsz : w'.heap.size = w.heap.size) (hk : ∀ X, X ≠ r → w'.heap[X]? = w.heap[X]?) (hw : ¬ WB h μ r) (hF : ¬ F r) : aP V μ F h w' := by
  have same : ∀ B, F B → w'.heap[B]? = w.heap[B]? := fun B hB => hk B fun e => hF (e ▸ hB)
  refine ⟨fun b => ?_, H.kr, fun b m hm => by rw [hsz]; exact H.nM b m hm, fun B hB => by rw [hsz]; exact H.qt B hB, H.ve.mono same fun _ h => h⟩
  have hb := H.c8 b
  cases hX : h.at b with
  | dead => exact trivial
  | fwd i => rw [hX] at hb; exact hb.elim
  | row rw fl z s t =>
    rw [hX] at hb
    obtain ⟨m, c, T, fz, p1, p2, p3, p4, p5, p6, p7⟩ := hb
    have hne : m.c8 ≠ r := fun e => by
      cases rw with
      | true => exact hw ⟨b, m, by rw [hX]; exact rfl, p1, e⟩
      | false => exact hF (e ▸ p7 rfl)
    exact ⟨m, c, T, fz, p1, (hk _ hne).trans p2, p3, fun i hi => let ⟨u, u1, u2, u3⟩ := p4 i hi; ⟨u, u1, u2, u3.mono same (fun _ h => h) (fun _ _ h => h)⟩, p5, p6, p7⟩
  | map n t =>
    rw [hX] at hb
    obtain ⟨m, es, clk, p1, p2, p3, p4, p5⟩ := hb
    have hne : m.c8 ≠ r := fun e => hw ⟨b, m, by rw [hX]; exact trivial, p1, e⟩
    exact ⟨m, es, clk, p1, (hk _ hne).trans p2, p3, p4, fun i hi => let ⟨u, u1, u2, u3⟩ := p5 i hi; ⟨u, u1, u2.mono same (fun _ h => h) (fun _ _ h => h), u3.mono same (fun _ h => h) (fun _ _ h => h)⟩⟩
  | loop st f i fr =>
    rw [hX] at hb
    obtain ⟨m, L, p1, p2, p3, p4⟩ := hb
    have hne : m.c8 ≠ r := fun e => hw ⟨b, m, by rw [hX]; exact trivial, p1, e⟩
    exact ⟨m, L, p1, (hk _ hne).trans p2, p3, p4.mono same (fun _ h => h) (fun _ _ h => h)⟩
theorem rN {V : Env} {n : Nat} {fn : Func} {tmps : Array Value} {Rp : Ending → World → Prop} {s0 : nV} {μ μ0 : Mu} {F F0 : Nat → Prop} {hp h0 : Hp} {w0 wI : World}
    (hfin : ∀ w, aP V μ F hp w → kF μ0 F0 h0 w0 μ F hp w → (∀ B, F B → w.heap[B]? = wI.heap[B]?) → LeavesInM (Wf none) n V.P fn tmps Rp s0.D .returning w) (hs : w0.heap.size ≤ s0.n) : ∀ (ds : List Deferred) (w : World), aP V μ F hp w → kF μ0 F0 h0 w0 μ F hp w → (∀ B, F B → w.heap[B]? = wI.heap[B]?) → lE s0 hp μ F w ds → LeavesInM (Wf none) n V.P fn tmps Rp (ds ++ s0.D) .returning w
  | [], w, H, E, hI, _ => by
    exact hfin w H E hI
  | d :: ds, w, H, E, hI, ⟨⟨r, h1, h2, h3, h4, h5, h6, h7⟩, hr⟩ => by
    let w' : World := { w with heap := w.heap.setIfInBounds r (.deferred none) }
    have hne : ∀ X, X ≠ r → w'.heap[X]? = w.heap[X]? := fun X hX => by
      show (w.heap.setIfInBounds r (.deferred none))[X]? = _
      rw [Array.getElem?_setIfInBounds, if_neg (Ne.symm hX)]
    have hsz : w'.heap.size = w.heap.size := by show (w.heap.setIfInBounds r _).size = _; simp
    have H' : aP V μ F hp w' := H.other hsz hne h5 h6
    have E' : kF μ0 F0 h0 w0 μ F hp w' := by
      refine ⟨⟨E.ext.mu, E.ext.fr, by rw [hsz]; exact E.ext.size, fun B hB ho => (hne B (by omega)).trans (E.ext.dC B hB ho), E.ext.own, E.ext.wb, E.ext.tA, E.ext.pd, E.ext.nx, E.ext.pr, E.ext.rb, E.ext.io⟩, E.ids⟩
    have M' : lE s0 hp μ F w' ds := by
      clear hfin
      revert hr h7
      induction ds with
      | nil => exact fun _ _ => trivial
      | cons d' ds ih =>
        intro h7 ⟨⟨r', q1, q2, q3, q4, q5, q6, q7⟩, hr'⟩
        have hne' : r' ≠ r := fun e => h7 d' (List.mem_cons_self ..) (e ▸ q1)
        exact ⟨⟨r', q1, q2, by rw [hsz]; exact q3, (hne r' hne').trans q4, q5, q6, q7⟩, ih (fun d'' hd => h7 d'' (List.mem_cons_of_mem _ hd)) hr'⟩
    refine ⟨by simp, .inl ⟨r, w', h1, ?_, rN hfin hs ds w' H' E' (fun B hB => (hne B fun e => h6 (e ▸ hB)).trans (hI B hB)) M'⟩⟩
    simp [Instr.takeDeferred, getObj, setObj, Sem.run, h4, w']
def qJ (w : World) (F : Nat → Prop) (μ : Mu) (l : Row) (args : Array Value) : Prop := len l = args.size ∧ ∀ i u, args[i]? = some u → ao w F μ (nth l i) u
def Can (P : Program) (f : FuncId) : Prop := ∃ fn, P.funcs[f]? = some fn ∧ fn.body.isNone = false ∧ (fn.name == "runtime.NumGoroutine") = false
def bn (V : Env) (f : FuncId) (G : bN) : Prop := ∀ (l : Row) (hp : Hp) (R : aa), G.f l hp = R → R ≠ .fail → Can V.P f ∧ ∃ v hp', R = .val v hp' ∧
  ∀ (w : World) (μ : Mu) (F : Nat → Prop) (args : Array Value) (n : Nat), aP V μ F hp w → qJ w F μ l args → CallsIn (Wf none) n V.P f args w fun e w' => ∃ x, e = .returned x ∧ ∃ μ' F', ao w' F' μ' v x ∧ aP V μ' F' hp' w' ∧ kF μ F hp w μ' F' hp' w'
theorem a9P {c : Code} (h : xV c = true) : (qf c).length ≤ 1 := by
  unfold xV at h
  revert h
  generalize qf c = l
  intro h
  cases l with
  | nil => exact Nat.zero_le _
  | cons x r =>
    cases r with
    | nil => exact Nat.le_refl _
    | cons y r => exact Bool.noConfusion h
theorem aaX {c : Code} (h : noRF c = true) : qf c = [] := by
  unfold noRF at h
  revert h
  generalize qf c = l
  intro h
  cases l with
  | nil => rfl
  | cons x r => exact Bool.noConfusion h
theorem afZ {C : Cx} {vs : Vs} (X : CxOk C vs) (hname : ∀ fn, C.P.funcs[C.self]? = some fn → (fn.name == "runtime.NumGoroutine") = false)
    (hrf : ∀ fn c n, C.P.funcs[C.self]? = some fn → fn.body = some c → (qf c).length ≤ 1 → ∀ x ∈ qf c, bW C vs none n (.rangeFunc x.1 x.2.1 x.2.2.1 x.2.2.2)) : bn (C.env vs) C.self (j1 C) := by
  intro l hp R h hR
  unfold j1 at h
  split at h
  · exact an hR h
  · rename_i fn hfn
    rw [mR, Array.getElem?_toList] at hfn
    split at h
    · exact an hR h
    · rename_i c hbody
      have h0 : (Bool.rec (motive := fun _ => bN) pL (Bool.rec (motive := fun _ => bN) pL ⟨fun l hp => ar (Nat.beq (adE l) (fn.params.size + fn.nfree)) (zu 0 l (blank C.vars.length) fun fr =>
        aa.rec (motive := fun _ => aa) (fun fr hp => tQ C fn.results.toList fr hp) (fun _ _ _ => .fail) (fun fr hp => tQ C fn.results.toList fr hp) (fun _ _ => .fail) .fail (((den C c).run .e (fun _ => vN) [] vO).run .lf fr hp))⟩ (lS (fn.params.size + fn.nfree) C.vars)) (eP (xV c) (Nat.ble C.nt fn.ntmps)) : bN).f l hp = R := h
      cases hnt : eP (xV c) (Nat.ble C.nt fn.ntmps) with
      | false => rw [hnt] at h0; exact an hR h0
      | true =>
        rw [hnt] at h0
        rw [gj, bA] at hnt
        obtain ⟨hfew, hnt⟩ := hnt
        cases hhv : lS (fn.params.size + fn.nfree) C.vars with
        | false => rw [hhv] at h0; exact an hR h0
        | true =>
          rw [hhv] at h0
          have hvars := a2a hhv
          obtain ⟨hlen, h1⟩ := ax hR h0
          rw [aF, a7T] at hlen
          obtain ⟨fr0, h2, hfr⟩ := zV hR h1
          generalize hRb : ((den C c).run .e (fun _ => vN) [] vO).run .lf fr0 hp = Rb at h2
          have hRb0 : Rb ≠ .fail := fun e => by rw [e] at h2; exact hR h2.symm
          refine ⟨⟨fn, hfn, by rw [hbody]; rfl, hname fn hfn⟩, ?_⟩
          have hend : ∃ fr' hp', (Rb = .ok fr' hp' ∨ Rb = .ret fr' hp') ∧ tQ C fn.results.toList fr' hp' = R := by
            cases Rb with
            | ok fr' hp' => exact ⟨fr', hp', .inl rfl, h2⟩
            | ret fr' hp' => exact ⟨fr', hp', .inr rfl, h2⟩
            | _ => exact an hR h2
          obtain ⟨fr', hp', hor, h3⟩ := hend
          obtain ⟨v, h4, H⟩ := abG (vs := vs) X.ok hR h3
          refine ⟨v, hp', h4, fun w μ F args n hH ha => ?_⟩
          refine callsIn_of_wp_marks (c := c) hfn hbody trivial ?_ rfl
          have hSt : St C (C.env vs) (.of w.heap.size) .e .lf fr0 hp μ F { tmps := args ++ Array.replicate (fn.ntmps - args.size) undef, defers := [] } w := by
            refine ⟨gC.e, fun t => ?_, hH, ?_, ⟨[], rfl, trivial⟩⟩
            · show ao w F μ (sv 0 (look C .e t) .lf fr0) _
              have e : look C .e t = idxOf t C.vars 0 := rfl
              rw [e]
              rcases vE (l := C.vars) (t := t) (i := 0) with ⟨j, hj⟩ | hj
              · rw [hj]
                show ao w F μ (fr0.at j) _
                rw [hfr j]
                by_cases hjl : 0 ≤ j ∧ j < 0 + len l
                · rw [if_pos hjl, Nat.sub_zero]
                  have ht : t = j := tJ hj (hvars j (by omega))
                  subst ht
                  have hlt : t < args.size := by have := ha.1; omega
                  have : (args ++ Array.replicate (fn.ntmps - args.size) undef).getD t undef = args[t] := by
                    rw [Array.getD_eq_getD_getElem?, Array.getElem?_append_left hlt, Array.getElem?_eq_getElem hlt]; rfl
                  rw [this]
                  exact ha.2 t _ (Array.getElem?_eq_getElem hlt)
                · rw [if_neg hjl, a3a]; exact .uu _
              · rw [hj]; exact .uu _
            · show C.nt ≤ (args ++ Array.replicate (fn.ntmps - args.size) undef).size
              simp only [Array.size_append, Array.size_replicate]
              omega
          have fin : ∀ (fr2 : Fr) (hp2 : Hp) (a' : Act) (w' : World), (Rb = .ok fr2 hp2 ∨ Rb = .ret fr2 hp2) → At C vs (.of w.heap.size) μ F hp w .e .lf fr2 hp2 a' w' →
              LeavesInM (Wf none) n C.P fn a'.tmps (fun e w' => ∃ x, e = .returned x ∧ ∃ μ' F', ao w' F' μ' v x ∧ aP (C.env vs) μ' F' hp' w' ∧ kF μ F hp w μ' F' hp' w') a'.defers .returning w' := fun fr2 hp2 a' w' hor2 ⟨μ', F', S', E'⟩ => by
            have hsame : fr2 = fr' ∧ hp2 = hp' := by
              rcases hor with e | e <;> rcases hor2 with e2 | e2 <;> rw [e] at e2 <;> cases e2 <;> exact ⟨rfl, rfl⟩
            obtain ⟨rfl, rfl⟩ := hsame
            obtain ⟨ms, hms, hmk⟩ := S'.df
            rw [hms]
            refine rN (V := C.env vs) (s0 := .of w.heap.size) (μ := μ') (F := F') (hp := hp2) (μ0 := μ) (F0 := F) (h0 := hp) (w0 := w) (wI := w') (fun w2 H2 E2 hI => ?_) (Nat.le_refl _) ms w' S'.h E' (fun _ _ => rfl) hmk
            obtain ⟨x, q1, q2⟩ := H (fn := fn) (tmps := a'.tmps) rfl H2 fun t => (S'.sl t).mono hI (fun _ h => h) (fun _ _ h => h)
            exact ⟨x, q1, x, rfl, μ', F', q2, H2, E2⟩
          refine (runOk X c (hrf fn c n hfn hbody (a9P hfew))).1 (s0 := .of w.heap.size) hRb0 hRb ⟨μ, F, hSt, kF.refl _ _ _ _⟩ (fun g2 sk2 fr2 hp2 a' w' e S' => fin fr2 hp2 a' w' (.inl e.symm) S'.drop) (fun id fr2 hp2 a' w' e _ => absurd e.symm (by exact fun q => hRb0 q)) (fun l fr2 hp2 a' w' e _ => absurd e.symm (by exact fun q => hRb0 q)) (fun fr2 hp2 a' w' e S' => fin fr2 hp2 a' w' (.inr e.symm) S')
end Go.Proofs.YtbamejikafhenaaDoor.Ev
