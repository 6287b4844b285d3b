import Derived.Test.YtbamejikafhenaaDoorEvAI
namespace Go.Proofs.YtbamejikafhenaaDoor.Ev
theorem o8.up {V : Env} {O : Operand → AV} {o : Oper} {id : Nat} {hp : Hp} {v : AV} {hp' : Hp} {kd : Nat} (k : o8 V O o id hp v hp' kd) (hd : ∀ c, o.op ≠ .defer c) : o8 V O o id hp v hp' 3 := .other fun hO hid H hK => k.wp hd hO hid H hK
theorem iV.low {V : Env} {ops : Array Oper} {O : Operand → AV} {o : Oper} {id : Nat} {hp : Hp} {v : AV} {hp' : Hp} {kd : Nat} (s : iV V ops O o id hp v hp' kd) (hk : kd ≤ 2) : hp.nx ≤ hp'.nx ∧ hp'.rb = hp.rb ∧ hp'.pr = hp.pr := by
  cases s with
  | skip hw hv hh => subst hh; exact ⟨Nat.le_refl _, rfl, rfl⟩
  | run hw hd k =>
    cases k with
    | pure h => subst h; exact ⟨Nat.le_refl _, rfl, rfl⟩
    | read p h => subst h; exact ⟨Nat.le_refl _, rfl, rfl⟩
    | make B hs hn => exact ⟨hs.nx, hs.rb, hs.pr⟩
    | other => omega
structure TP where
  x : Dr
  σ : Nat → AV
  σ' : Nat → AV
  O : Operand → AV
  h : Hp
  h' : Hp
  hA : Hp
  hB : Hp
  A : List Nat
  pl : List Nat
  v : AV
  kd : Nat
structure a4X (V : Env) (ops : Array Oper) (nt rb n : Nat) (all dn : List Dr) (p : TP) : Prop where
  step : iV V ops p.O p.x.o (rb + p.x.i) p.hA p.v p.hB p.kd
  kdc : (p.kd = 3 ∧ 3 ≤ p.x.c) ∨ (p.kd ≤ 2 ∧ (p.kd = 1 → p.x.c = 1) ∧ (p.kd = 2 → p.x.c = 2))
  slot : nq p.σ p.σ' p.x.o.dst p.v
  dst : ∀ t, p.x.o.dst = some t → t < nt
  os : ∀ t, p.O (.tmp t) = p.σ t
  oo : ∀ (x : Operand) {w : World} {F : Nat → Prop} {μ : Mu} {a : Act}, V.Glo w F → (∀ t, x = .tmp t → ao w F μ (p.σ t) (a.tmps.getD t undef)) → ao w F μ (p.O x) (a.eval x)
  oc : ∀ x : Operand, (∀ t, x ≠ .tmp t) → jo (p.O x) = none
  yB : p.h.rb = rb
  nx : rb + n ≤ p.h.nx
  low : p.kd ≤ 2 → p.hA = p.h ∧ p.h' = p.hB
  wrap : p.kd = 3 → a1D p.A p.pl p.h p.hA p.hB p.h'
  ix : p.kd = 3 → p.A = Go.Proofs.YtbamejikafhenaaDoor.Ev.ix p.x dn
  lM : p.kd = 3 → ∀ y ∈ Go.Proofs.YtbamejikafhenaaDoor.Ev.lM p.x dn, a0I all y = true ∧ ∃ q, spot y.o.op = some q ∧ (∀ t a b c, p.O q ≠ .x 0 t a b c) ∧ ∀ b, jo (p.O q) = some b → b ∈ p.pl
inductive Trace (V : Env) (ops : Array Oper) (nt rb n : Nat) (all : List Dr) : (Nat → AV) → Hp → List Dr → List Dr → List TP → (Nat → AV) → Hp → Prop
  | nil (σ : Nat → AV) (h : Hp) (dn : List Dr) : Trace V ops nt rb n all σ h [] dn [] σ h
  | cons {l dn : List Dr} {ts : List TP} {σe : Nat → AV} {he : Hp} (p : TP) (ok : a4X V ops nt rb n all dn p) (t : Trace V ops nt rb n all p.σ' p.h' l (p.x :: dn) ts σe he) : Trace V ops nt rb n all p.σ p.h (p.x :: l) dn (p :: ts) σe he
theorem uB (x y : Dr) (l : List Dr) : ix x (y :: l) = if eP (Nat.beq y.c 2) (dv (bit x.m y.i)) = true then y.i :: ix x l else ix x l := eF _ _ _
theorem a4c (x y : Dr) (l : List Dr) : lM x (y :: l) = if eP (Nat.beq y.c 1) (dv (bit x.m y.i)) = true then y :: lM x l else lM x l := eF _ _ _
theorem qC (x : Dr) : ∀ (l : List Dr), (ix x l).Sublist (l.map (·.i))
  | [] => List.Sublist.slnil
  | y :: l => by
    rw [uB, List.map_cons]
    split
    · exact (qC x l).cons_cons _
    · exact (qC x l).cons _
theorem n7 {y x : Dr} {c : Nat} : eP (Nat.beq y.c c) (dv (bit x.m y.i)) = true ↔ y.c = c ∧ bit x.m y.i = false := by
  rw [gj, aF, fA, Bool.not_eq_true']
theorem kx {x : Dr} {i : Nat} : ∀ {l : List Dr}, i ∈ ix x l ↔ ∃ y ∈ l, y.i = i ∧ y.c = 2 ∧ bit x.m y.i = false
  | [] => ⟨fun h => (by cases h), fun ⟨_, h, _⟩ => by cases h⟩
  | y :: l => by
    rw [uB]
    by_cases e : eP (Nat.beq y.c 2) (dv (bit x.m y.i)) = true
    · rw [if_pos e, List.mem_cons, kx]
      rw [n7] at e
      constructor
      · rintro (rfl | ⟨z, h1, h2⟩)
        · exact ⟨y, List.mem_cons_self .., rfl, e⟩
        · exact ⟨z, List.mem_cons_of_mem _ h1, h2⟩
      · rintro ⟨z, h1, h2⟩
        rcases List.mem_cons.1 h1 with rfl | h1
        · exact .inl h2.1.symm
        · exact .inr ⟨z, h1, h2⟩
    · rw [if_neg e, kx]
      rw [n7] at e
      constructor
      · rintro ⟨z, h1, h2⟩; exact ⟨z, List.mem_cons_of_mem _ h1, h2⟩
      · rintro ⟨z, h1, h2⟩
        rcases List.mem_cons.1 h1 with rfl | h1
        · exact absurd h2.2 e
        · exact ⟨z, h1, h2⟩
theorem qT {x y : Dr} : ∀ {l : List Dr}, y ∈ lM x l ↔ y ∈ l ∧ y.c = 1 ∧ bit x.m y.i = false
  | [] => ⟨fun h => (by cases h), fun ⟨h, _⟩ => by cases h⟩
  | z :: l => by
    rw [a4c]
    by_cases e : eP (Nat.beq z.c 1) (dv (bit x.m z.i)) = true
    · rw [if_pos e, List.mem_cons, qT, List.mem_cons]
      rw [n7] at e
      constructor
      · rintro (rfl | ⟨h1, h2⟩)
        · exact ⟨.inl rfl, e⟩
        · exact ⟨.inr h1, h2⟩
      · rintro ⟨rfl | h1, h2⟩
        · exact .inl rfl
        · exact .inr ⟨h1, h2⟩
    · rw [if_neg e, qT, List.mem_cons]
      rw [n7] at e
      constructor
      · rintro ⟨h1, h2⟩; exact ⟨.inr h1, h2⟩
      · rintro ⟨rfl | h1, h2⟩
        · exact absurd h2 e
        · exact ⟨h1, h2⟩
theorem a9H {a : AV} (h : a.cM = true) : jo a = none := by
  cases a with
  | x gg t a b c =>
    unfold jo
    split <;> first | rfl | (rename_i q; cases q; first | done | (cases h))
  | _ => first | rfl | cases h
theorem a83 {C : Cx} {g : G} {sk : Row} {fr : Fr} {vs : Vs} (hgl : yW C vs) (x : Operand) (hx : ∀ t, x ≠ .tmp t) : jo (ov C g sk fr x) = none := by
  cases x with
  | tmp t => exact absurd rfl (hx t)
  | const v =>
    show jo (fZ v) = none
    by_cases h : ∃ cs, v = .agg cs
    · obtain ⟨cs, rfl⟩ := h
      rw [jH]
      split <;> rfl
    · rw [nh fun cs e => h ⟨cs, e⟩]
      exact a9H (kL v)
  | func f => rfl
  | global n =>
    rcases a7K (C := C) (g := g) (sk := sk) (fr := fr) n with e | ⟨p, hp, _, e⟩
    · rw [e]; rfl
    · obtain ⟨t, a, b, c, e2⟩ := (hgl p hp).1
      rw [e, e2]; rfl
section
variable {C : Cx} {vs : Vs} {R : aa} (ok : cW C.M) (hR : R ≠ .fail) {ops : Array Oper}
include ok hR
theorem acs (hc : mG C (C.env vs)) (hgl : yW C vs) {all : List Dr} {rb n : Nat} {g : G} (hg : gC C g) {x : Dr} {rest dn : List Dr} {k : G → Sm} {sk : Row} {fr : Fr} {hp : Hp} (hx : x.i < n) (hcls : x.c = cls C.P x.o.op) (yB : hp.rb = rb) (hnx : rb + n ≤ hp.nx) (hnd : (dn.map (·.i)).Nodup)
    (h : (a4R C ops all g x rest dn k).run sk fr hp = R) : ∃ p : TP, ∃ g' sk' fr', (k g').run sk' fr' p.h' = R ∧ gC C g' ∧ p.x = x ∧ p.σ = sig C g sk fr ∧ p.h = hp ∧ p.σ' = sig C g' sk' fr' ∧ a4X (C.env vs) ops C.nt rb n all dn p ∧ p.h'.rb = rb ∧ rb + n ≤ p.h'.nx := by
  have hN : iQ (jR C.M x.i) hp (rb + x.i) := by rw [← yB]; exact a8h ok (by omega)
  have low : ∀ {g' : G} {sk' : Row} {fr' : Fr} {v : AV} {hp' : Hp} {kd : Nat}, (k g').run sk' fr' hp' = R → iV (C.env vs) ops (ov C g sk fr) x.o (rb + x.i) hp v hp' kd → kd ≤ 2 → (kd = 1 → x.c = 1) → (kd = 2 → x.c = 2) → gC C g' → nq (sig C g sk fr) (sig C g' sk' fr') x.o.dst v → (∀ t, x.o.dst = some t → t < C.nt) →
      ∃ p : TP, ∃ g' sk' fr', (k g').run sk' fr' p.h' = R ∧ gC C g' ∧ p.x = x ∧ p.σ = sig C g sk fr ∧ p.h = hp ∧ p.σ' = sig C g' sk' fr' ∧ a4X (C.env vs) ops C.nt rb n all dn p ∧ p.h'.rb = rb ∧ rb + n ≤ p.h'.nx := by
    intro g' sk' fr' v hp' kd h1 h2 hk hk1 hk2 h3 h4 h5
    obtain ⟨l1, l2, l3⟩ := h2.low hk
    refine ⟨⟨x, sig C g sk fr, sig C g' sk' fr', ov C g sk fr, hp, hp', hp, hp', [], [], v, kd⟩, g', sk', fr', h1, h3, rfl, rfl, rfl, rfl, ⟨h2, .inr ⟨hk, hk1, hk2⟩, h4, h5, fun t => rfl, fun y => fun hG => a0U hgl hG y, a83 hgl, yB, hnx, fun _ => ⟨rfl, rfl⟩, ?_, ?_, ?_⟩, l2.trans yB, Nat.le_trans hnx l1⟩ <;> exact fun e => absurd e (by show kd ≠ 3; omega)
  have zero : (∃ g' sk' fr' v hp', (k g').run sk' fr' hp' = R ∧ iV (C.env vs) ops (ov C g sk fr) x.o (rb + x.i) hp v hp' 0 ∧ gC C g' ∧ nq (sig C g sk fr) (sig C g' sk' fr') x.o.dst v ∧ ∀ t, x.o.dst = some t → t < C.nt) → ∃ p : TP, ∃ g' sk' fr', (k g').run sk' fr' p.h' = R ∧ gC C g' ∧ p.x = x ∧ p.σ = sig C g sk fr ∧ p.h = hp ∧ p.σ' = sig C g' sk' fr' ∧ a4X (C.env vs) ops C.nt rb n all dn p ∧ p.h'.rb = rb ∧ rb + n ≤ p.h'.nx :=
    fun ⟨g', sk', fr', v, hp', h1, h2, h3, h4, h5⟩ => low h1 h2 (by omega) (fun e => by omega) (fun e => by omega) h3 h4 h5
  have run : ri (ov C g sk fr) ops x.o true → (vw C g all x dn (dst C g x.o.dst).p (k (dst C g x.o.dst).g)).run sk fr hp = R → ∃ p : TP, ∃ g' sk' fr', (k g').run sk' fr' p.h' = R ∧ gC C g' ∧ p.x = x ∧ p.σ = sig C g sk fr ∧ p.h = hp ∧ p.σ' = sig C g' sk' fr' ∧ a4X (C.env vs) ops C.nt rb n all dn p ∧ p.h'.rb = rb ∧ rb + n ≤ p.h'.nx := by
    intro hw h
    unfold vw at h
    cases hcc : Nat.ble x.c 2 with
    | true =>
      rw [hcc] at h
      rw [bA] at hcc
      obtain ⟨v, hp', kd, h1, h2, h3, h4⟩ := tB (vs := vs) ok hR hN x.o (fun f as ts hop hh => hc x.o f as ts hR hop hh) h
      obtain ⟨g', sk', fr', h5, h6, h7, h8⟩ := rG hR hg h1
      rw [← hcls] at h3
      have hkd : kd ≤ 2 ∧ (kd = 1 → x.c = 1) ∧ (kd = 2 → x.c = 2) := by rcases h3 with q | q | q | q <;> omega
      exact low h5 (.run hw h4 h2) hkd.1 hkd.2.1 hkd.2.2 h6 h7 h8
    | false =>
      rw [hcc] at h
      have hc3 : 3 ≤ x.c := by
        have : ¬ x.c ≤ 2 := fun e => by rw [mq e] at hcc; cases hcc
        omega
      obtain ⟨hsp, h1⟩ := dy hR h
      have hAnd : (ix x dn).Nodup := hnd.sublist (qC x dn)
      obtain ⟨pl, hA, v, h2, h4, r1, r2, r3, r4⟩ := a9C ok hR hAnd h1
      have hNA : iQ (jR C.M x.i) hA (rb + x.i) := by
        have e : hA.rb + x.i = rb + x.i := by rw [r3.arb, yB]
        have hlt : hA.rb + x.i < hA.nx := by rw [r3.arb, r3.anx, yB]; omega
        rw [← e]; exact fun {R} => a8h ok hlt
      have hR2 : aa.val v h2 ≠ .fail := by simp
      obtain ⟨v', hp', kd, q1, q2, q3, q4⟩ := tB (vs := vs) ok hR2 hNA x.o (fun f as ts hop hh => hc x.o f as ts hR2 hop hh) r1
      have q1' : aa.val v' hp' = aa.val v h2 := q1
      cases q1'
      obtain ⟨g', sk', fr', h5, h6, h7, h8⟩ := rG hR hg r2
      refine ⟨⟨x, sig C g sk fr, sig C g' sk' fr', ov C g sk fr, hp, h4, hA, h2, ix x dn, pl, v, 3⟩, g', sk', fr', h5, h6, rfl, rfl, rfl, rfl, ⟨.run hw q4 (q2.up q4), .inl ⟨rfl, hc3⟩, h7, h8, fun t => rfl, fun y => fun hG => a0U hgl hG y, a83 hgl, yB, hnx, fun e => absurd e (by show ¬ 3 ≤ 2; omega), fun _ => r3, fun _ => rfl, fun _ y hy => ⟨lU hsp y hy, r4 y hy⟩⟩, r3.rb.trans yB, Nat.le_trans hnx r3.nxle⟩
  unfold a4R at h
  split at h
  · rename_i a ha
    obtain ⟨hb, h'⟩ := dy hR h
    rw [bA] at hb
    obtain ⟨y, hop, hgd, hdst, hgi, hsl⟩ := a02 hg ha sk fr
    have hd : ∀ c, x.o.op ≠ .defer c := by rcases hop with e | e <;> rw [e] <;> simp
    refine zero ⟨_, sk, fr, _, hp, h', .run (mH hgd) hd (.pure rfl fun {w F μ ρ} hO => ⟨.value (ρ y), _, ?_, .inl rfl, hO y (by rcases hop with e | e <;> rw [e] <;> simp [Op.operands])⟩), hgi, hsl, fun t e => by rw [hdst] at e; cases e; exact hb⟩
    rcases hop with e | e <;> simp only [execOp, e, Sem.run_pure]
  · have e' : (match x.o.guard with
        | none => vw C g all x dn (dst C g x.o.dst).p (k (dst C g x.o.dst).g)
        | some (j, want) => guarded C g (dst C g x.o.dst).p (k (dst C g x.o.dst).g) (vw C g all x dn (dst C g x.o.dst).p (k (dst C g x.o.dst).g)) ((ops[j]?).bind (·.dst)) want : Sm).run sk fr hp = R := h
    split at e'
    · rename_i hgd
      exact run (mH hgd) e'
    · rename_i j want hgd
      rcases uz hR hgd e' with ⟨hw, h1⟩ | ⟨hw, h1⟩
      · exact run hw h1
      · obtain ⟨g', sk', fr', h5, h6, h7, h8⟩ := rG hR hg h1
        exact zero ⟨g', sk', fr', _, hp, h5, .skip hw rfl rfl, h6, h7, h8⟩
theorem zK (hc : mG C (C.env vs)) (hgl : yW C vs) {all : List Dr} {rb n : Nat} {k : G → Sm} : ∀ (l : List Dr) {g : G} {dn : List Dr} {sk : Row} {fr : Fr} {hp : Hp}, gC C g → (∀ x ∈ l, x.i < n ∧ x.c = cls C.P x.o.op) → hp.rb = rb → rb + n ≤ hp.nx → (l.map (·.i) ++ dn.map (·.i)).Nodup →
    (uy C ops all l g k dn).run sk fr hp = R → ∃ ts g' sk' fr' hp', (k g').run sk' fr' hp' = R ∧ gC C g' ∧ Trace (C.env vs) ops C.nt rb n all (sig C g sk fr) hp l dn ts (sig C g' sk' fr') hp'
  | [], g, dn, sk, fr, hp, hg, _, _, _, _, h => ⟨[], g, sk, fr, hp, h, hg, .nil _ _ _⟩
  | x :: l, g, dn, sk, fr, hp, hg, hx, yB, hnx, hnd, h => by
    have h' : (a4R C ops all g x l dn fun g => uy C ops all l g k (x :: dn)).run sk fr hp = R := h
    have hnd2 : (dn.map (·.i)).Nodup := (List.nodup_append.1 hnd).2.1
    obtain ⟨p, g1, sk1, fr1, h1, hg1, px, pσ, ph, pσ', pok, prb, pnx⟩ := acs (vs := vs) ok hR hc hgl hg (hx x (List.mem_cons_self ..)).1 (hx x (List.mem_cons_self ..)).2 yB hnx hnd2 h'
    have hnd3 : (l.map (·.i) ++ (x :: dn).map (·.i)).Nodup := by
      rw [List.map_cons, List.cons_append, List.nodup_cons] at hnd
      rw [List.map_cons]
      rw [List.nodup_append] at hnd ⊢
      obtain ⟨q1, q2, q3, q4⟩ := hnd
      rw [List.mem_append, not_or] at q1
      refine ⟨q2, List.nodup_cons.2 ⟨q1.2, q3⟩, fun a ha b hb e => ?_⟩
      rcases List.mem_cons.1 hb with rfl | hb
      · exact q1.1 (e ▸ ha)
      · exact q4 a ha b hb e
    obtain ⟨ts, g', sk', fr', hp', h2, hg', ht⟩ := zK hc hgl l hg1 (fun y hy => hx y (List.mem_cons_of_mem _ hy)) prb pnx hnd3 h1
    refine ⟨p :: ts, g', sk', fr', hp', h2, hg', ?_⟩
    rw [← pσ'] at ht
    rw [← px] at ht ⊢
    rw [← pσ, ← ph]
    exact .cons p pok ht
end
instance : Inhabited Dr := ⟨⟨0, default, 0, 0, []⟩⟩
instance : Inhabited TP := ⟨⟨default, fun _ => .uu, fun _ => .uu, fun _ => .uu, .empty, .empty, .empty, .empty, [], [], .uu, 0⟩⟩
structure mS (V : Env) (ops : Array Oper) (nt rb n : Nat) (all : List Dr) (T : Nat → TP) (H : Nat → Hp) (S : Nat → Nat → AV) : Prop where
  tp : ∀ k, k < n → ∃ dn, a4X V ops nt rb n all dn (T k) ∧ ∀ y, y ∈ dn ↔ ∃ q, q < k ∧ (T q).x = y
  hk : ∀ k, k < n → (T k).h = H k ∧ (T k).h' = H (k + 1)
  sk : ∀ k, k < n → (T k).σ = S k ∧ (T k).σ' = S (k + 1)
  op : ∀ k, k < n → ops[(T k).x.i]? = some (T k).x.o ∧ (T k).x.m = msk ops (T k).x.i ∧ (T k).x.r = jY ops (T k).x.o ∧ (T k).x.i < n
  mem : ∀ k, k < n → (T k).x ∈ all
  mem' : ∀ y, y ∈ all → ∃ k, k < n ∧ (T k).x = y
  inj : ∀ k j, k < n → j < n → (T k).x.i = (T j).x.i → k = j
  surj : ∀ i, i < n → ∃ k, k < n ∧ (T k).x.i = i
  top : ∀ k j, k < n → j < n → bit (T k).x.m (T j).x.i = true → j < k
  pair : ∀ k j, k < j → j < n → tT (T k).x (T j).x = true ∧ tT (T j).x (T k).x = true ∧ a0F (T k).x (T j).x = true
theorem Trace.spec {V : Env} {ops : Array Oper} {nt rb n : Nat} {all : List Dr} {σ : Nat → AV} {h : Hp} {l dn : List Dr} {ts : List TP} {σe : Nat → AV} {he : Hp} (t : Trace V ops nt rb n all σ h l dn ts σe he) :
    ts.map (·.x) = l ∧ (∀ (k : Nat) (p : TP), ts[k]? = some p → ∃ dnk, a4X V ops nt rb n all dnk p ∧ ∀ y, y ∈ dnk ↔ y ∈ dn ∨ ∃ (q : Nat) (pq : TP), q < k ∧ ts[q]? = some pq ∧ pq.x = y) ∧
    (((ts[0]?).map (·.h)).getD he = h ∧ ∀ (k : Nat) (p : TP), ts[k]? = some p → ((ts[k + 1]?).map (·.h)).getD he = p.h') ∧
    (((ts[0]?).map (·.σ)).getD σe = σ ∧ ∀ (k : Nat) (p : TP), ts[k]? = some p → ((ts[k + 1]?).map (·.σ)).getD σe = p.σ') := by
  induction t with
  | nil => exact ⟨rfl, fun k p h => (by cases h), ⟨rfl, fun k p h => (by cases h)⟩, ⟨rfl, fun k p h => (by cases h)⟩⟩
  | cons p ok t ih =>
    obtain ⟨h1, h2, ⟨h3, h4⟩, ⟨h5, h6⟩⟩ := ih
    refine ⟨by rw [List.map_cons, h1], fun k q hq => ?_, ⟨rfl, fun k q hq => ?_⟩, ⟨rfl, fun k q hq => ?_⟩⟩
    · cases k with
      | zero =>
        cases hq
        exact ⟨_, ok, fun y => ⟨.inl, fun h => h.elim id fun ⟨q, _, hq, _⟩ => absurd hq (Nat.not_lt_zero _)⟩⟩
      | succ k =>
        obtain ⟨dnk, q1, q2⟩ := h2 k q hq
        refine ⟨dnk, q1, fun y => (q2 y).trans ⟨fun h => ?_, fun h => ?_⟩⟩
        · rcases h with h | ⟨j, pj, hj, hpj, e⟩
          · rcases List.mem_cons.1 h with rfl | h
            · exact .inr ⟨0, p, Nat.succ_pos _, rfl, rfl⟩
            · exact .inl h
          · exact .inr ⟨j + 1, pj, Nat.succ_lt_succ hj, hpj, e⟩
        · rcases h with h | ⟨j, pj, hj, hpj, e⟩
          · exact .inl (List.mem_cons_of_mem _ h)
          · cases j with
            | zero => cases hpj; exact .inl (e ▸ List.mem_cons_self ..)
            | succ j => exact .inr ⟨j, pj, Nat.lt_of_succ_lt_succ hj, hpj, e⟩
    · cases k with
      | zero => cases hq; exact h3
      | succ k => exact h4 k q hq
    · cases k with
      | zero => cases hq; exact h5
      | succ k => exact h6 k q hq
theorem aeI {P : Program} {ops : Array Oper} {ms : List Nat} {l : List Oper} {i0 j : Nat} (h : j < l.length) : ∃ x ∈ drs P ops l ms i0, x.i = i0 + j := by
  have hm : i0 + j ∈ (drs P ops l ms i0).map (·.i) := by rw [s9, List.mem_range']; exact ⟨j, h, by omega⟩
  obtain ⟨x, h1, h2⟩ := List.mem_map.1 hm
  exact ⟨x, h1, h2⟩
theorem afx {P : Program} {ops : Array Oper} {ms : List Nat} (l : List Oper) (i0 : Nat) : (drs P ops l ms i0).length = l.length := by
  have := congrArg List.length (s9 (P := P) (ops := ops) (ms := ms) l i0)
  rw [List.length_map, List.length_range'] at this
  exact this
theorem Trace.plan {V : Env} {ops : Array Oper} {nt rb : Nat} {σ : Nat → AV} {h : Hp} {l : List Dr} {ts : List TP} {σe : Nat → AV} {he : Hp} (hl : l = order ops.size 0 (drs V.P ops ops.toList (rp (iC ops.toList [] 0) []) 0)) (hd : tX l ops.size = true)
    (t : Trace V ops nt rb ops.size l σ h l [] ts σe he) : ∃ T H S, mS V ops nt rb ops.size l T H S ∧ H 0 = h ∧ H ops.size = he ∧ S 0 = σ ∧ S ops.size = σe := by
  obtain ⟨h1, h2, ⟨h3, h4⟩, ⟨h5, h6⟩⟩ := t.spec
  have hlen0 : ∀ l : List Dr, (List.rec (motive := fun _ => Nat) 0 (fun _ _ ih => Nat.succ ih) l : Nat) = l.length := fun l => by
    induction l with
    | nil => rfl
    | cons x l ih => exact congrArg Nat.succ ih
  unfold tX at hd
  rw [gj, hlen0, aF] at hd
  obtain ⟨hlen, hpairs⟩ := hd
  have hts : ts.length = ops.size := by rw [← hlen, ← h1, List.length_map]
  have hget : ∀ k, k < ops.size → ts[k]? = some (ts.getD k default) := fun k hk => by
    rw [List.getD_eq_getElem?_getD, List.getElem?_eq_getElem (by omega)]; rfl
  have hx : ∀ k, k < ops.size → l[k]? = some (ts.getD k default).x := fun k hk => by rw [← h1, List.getElem?_map, hget k hk]; rfl
  have hids : ((drs V.P ops ops.toList (rp (iC ops.toList [] 0) []) 0).map (·.i)).Nodup := by rw [s9]; exact List.nodup_range'
  have hord := nH ops.size 0 (drs V.P ops ops.toList (rp (iC ops.toList [] 0) []) 0) hids
  rw [← hl] at hord
  have hpair := zC hpairs
  refine ⟨fun k => ts.getD k default, fun k => ((ts[k]?).map (·.h)).getD he, fun k => ((ts[k]?).map (·.σ)).getD σe, ⟨fun k hk => ?_, fun k hk => ?_, fun k hk => ?_, fun k hk => ?_, fun k hk => ?_, fun y hy => ?_, fun k j hk hj e => ?_, fun i hi => ?_, fun k j hk hj hb => ?_, fun k j hkj hj => ?_⟩, h3, ?_, h5, ?_⟩
  · obtain ⟨dnk, q1, q2⟩ := h2 k _ (hget k hk)
    refine ⟨dnk, q1, fun y => (q2 y).trans ⟨fun h => ?_, fun ⟨q, hq, e⟩ => .inr ⟨q, _, hq, hget q (by omega), e⟩⟩⟩
    rcases h with h | ⟨q, pq, hq, hpq, e⟩
    · cases h
    · rw [hget q (by omega)] at hpq; cases hpq
      exact ⟨q, hq, e⟩
  · refine ⟨?_, (h4 k _ (hget k hk)).symm⟩
    show (ts.getD k default).h = ((ts[k]?).map (·.h)).getD he
    rw [hget k hk]; rfl
  · refine ⟨?_, (h6 k _ (hget k hk)).symm⟩
    show (ts.getD k default).σ = ((ts[k]?).map (·.σ)).getD σe
    rw [hget k hk]; rfl
  · have hm := (hord k _ (hx k hk)).1
    obtain ⟨j, o, e1, e2⟩ := a0T hm
    show ops[(ts.getD k default).x.i]? = some (ts.getD k default).x.o ∧ (ts.getD k default).x.m = msk ops (ts.getD k default).x.i ∧ (ts.getD k default).x.r = jY ops (ts.getD k default).x.o ∧ (ts.getD k default).x.i < ops.size
    rw [e2]
    simp only [Nat.zero_add]
    rw [Array.getElem?_toList] at e1
    exact ⟨e1, by first | trivial | rfl, by first | trivial | rfl, (Array.getElem?_eq_some_iff.1 e1).1⟩
  · exact List.mem_of_getElem? (hx k hk)
  · obtain ⟨k, hk, e⟩ := List.getElem_of_mem hy
    refine ⟨k, by omega, ?_⟩
    have := hx k (by omega)
    rw [List.getElem?_eq_getElem hk, e] at this
    exact (Option.some.inj this).symm
  · exact (hord j _ (hx j hj)).2.2 k _ (hx k hk) e
  · have hiop : i < ops.toList.length := by simpa using hi
    obtain ⟨y, hy, hyi⟩ := aeI (P := V.P) (ops := ops) (ms := rp (iC ops.toList [] 0) []) (i0 := 0) hiop
    obtain ⟨x, hx1, hx2⟩ := a0h ops.size 0 _ (by rw [afx]; simp) (by rw [← hl]; exact hlen) y hy
    rw [← hl] at hx1
    obtain ⟨k, hk, e⟩ := List.getElem_of_mem hx1
    refine ⟨k, by omega, ?_⟩
    have := hx k (by omega)
    rw [List.getElem?_eq_getElem hk, e] at this
    rw [← Option.some.inj this, hx2, hyi, Nat.zero_add]
  · rcases (hord k _ (hx k hk)).2.1 _ hb with h | ⟨q, y, hq, hy, e⟩
    · rw [js] at h; simp at h
    · have := (hord j _ (hx j hj)).2.2 q y hy e
      omega
  · have := hpair k j _ _ hkj (hx k (by omega)) (hx j hj)
    simp only [gj] at this
    exact this
  · simp only [List.getElem?_eq_none (Nat.le_of_eq hts)]; rfl
  · simp only [List.getElem?_eq_none (Nat.le_of_eq hts)]; rfl
section
variable {V : Env} {ops : Array Oper} {nt rb n : Nat} {all : List Dr} {T : Nat → TP} {H : Nat → Hp} {S : Nat → Nat → AV} (p : mS V ops nt rb n all T H S)
include p
theorem mS.kd {k : Nat} (hk : k < n) : ((T k).kd = 3 ∧ 3 ≤ (T k).x.c) ∨ ((T k).kd ≤ 2 ∧ ((T k).kd = 1 → (T k).x.c = 1) ∧ ((T k).kd = 2 → (T k).x.c = 2)) := let ⟨_, h, _⟩ := p.tp k hk; h.kdc
theorem mS.slot {k : Nat} (hk : k < n) : nq (S k) (S (k + 1)) (T k).x.o.dst (T k).v := by
  obtain ⟨_, h, _⟩ := p.tp k hk
  have := h.slot
  rw [(p.sk k hk).1, (p.sk k hk).2] at this; exact this
theorem mS.low {k : Nat} (hk : k < n) (hkd : (T k).kd ≤ 2) : (T k).hA = H k ∧ (T k).hB = H (k + 1) ∧ iV V ops (T k).O (T k).x.o (rb + (T k).x.i) (H k) (T k).v (H (k + 1)) (T k).kd := by
  obtain ⟨_, h, _⟩ := p.tp k hk
  obtain ⟨e1, e2⟩ := h.low hkd
  rw [(p.hk k hk).1] at e1
  rw [(p.hk k hk).2] at e2
  have := h.step
  rw [e1, ← e2] at this
  exact ⟨e1, e2.symm, this⟩
theorem mS.still {k : Nat} (hk : k < n) (hkd : (T k).kd ≤ 1) : H (k + 1) = H k := by
  obtain ⟨_, _, h⟩ := p.low hk (by omega)
  revert hkd
  generalize (T k).kd = kd at h
  intro hkd
  cases h with
  | skip _ _ hh => exact hh
  | run _ _ kn =>
    cases kn with
    | pure h => exact h
    | read _ h => exact h
    | make => omega
    | other => omega
theorem mS.make {k : Nat} (hk : k < n) (hkd : (T k).kd = 2) : ∃ B, fq (H k) (rb + (T k).x.i) B (H (k + 1)) := by
  obtain ⟨_, _, h⟩ := p.low hk (by omega)
  rw [hkd] at h
  cases h with
  | run _ _ kn =>
    cases kn with
    | make B hs hn _ => exact ⟨B, hs⟩
theorem mS.wrap {k : Nat} (hk : k < n) (hkd : (T k).kd = 3) : a1D (T k).A (T k).pl (H k) (T k).hA (T k).hB (H (k + 1)) := by
  obtain ⟨_, h, _⟩ := p.tp k hk
  have := h.wrap hkd
  rw [(p.hk k hk).1, (p.hk k hk).2] at this; exact this
theorem mS.vP {k : Nat} (hk : k < n) : (H k).rb = rb ∧ rb + n ≤ (H k).nx := by
  obtain ⟨_, h, _⟩ := p.tp k hk
  have h1 := h.yB
  have h2 := h.nx
  rw [(p.hk k hk).1] at h1 h2
  exact ⟨h1, h2⟩
theorem mS.step {k : Nat} (hk : k < n) : (H k).nx ≤ (H (k + 1)).nx ∧ (H (k + 1)).pr = (H k).pr := by
  by_cases e : (T k).kd = 3
  · have hw := p.wrap hk e
    exact ⟨hw.nxle, hw.pr⟩
  · have hkd : (T k).kd ≤ 2 := by rcases p.kd hk with h | h <;> omega
    obtain ⟨_, _, h⟩ := p.low hk hkd
    obtain ⟨q1, _, q3⟩ := h.low hkd
    exact ⟨q1, q3⟩
theorem mS.mono {j : Nat} : ∀ {k : Nat}, j ≤ k → k ≤ n → (H j).nx ≤ (H k).nx ∧ (H k).pr = (H j).pr := by
  intro k hjk
  induction hjk with
  | refl => exact fun _ => ⟨Nat.le_refl _, rfl⟩
  | @step m _ ih =>
    intro hk
    obtain ⟨h1, h2⟩ := ih (by omega)
    obtain ⟨h3, h4⟩ := p.step (k := m) (by omega)
    exact ⟨Nat.le_trans h1 h3, h4.trans h2⟩
abbrev dL (rb : Nat) (T : Nat → TP) (k : Nat) : Nat := rb + (T k).x.i
theorem mS.kH {k j : Nat} (hk : k < n) (hj : j < n) (h : dL rb T k = dL rb T j) : k = j := p.inj k j hk hj (by unfold dL at h; omega)
theorem mS.stays {j b : Nat} : ∀ {k : Nat}, j ≤ k → k ≤ n → (∀ q, j ≤ q → q < k → (T q).kd ≠ 3 ∧ ((T q).kd = 2 → dL rb T q ≠ b)) → (H k).at b = (H j).at b := by
  intro k hjk
  induction hjk with
  | refl => exact fun _ _ => rfl
  | @step m hm ih =>
    intro hk hno
    rw [← ih (by omega) fun q h1 h2 => hno q h1 (by omega)]
    obtain ⟨h1, h2⟩ := hno m hm (Nat.lt_succ_self _)
    have hmn : m < n := by omega
    by_cases e : (T m).kd ≤ 1
    · rw [p.still hmn e]
    · have e2 : (T m).kd = 2 := by rcases p.kd hmn with h | h <;> omega
      obtain ⟨B, hs⟩ := p.make hmn e2
      exact hs.ne (Ne.symm (h2 e2))
def Sim (B B' : bX) : Prop := B = B' ∨ ∃ rw rw' fl z s t, B = .row rw fl z s t ∧ B' = .row rw' fl z s t
omit p in
theorem Sim.trans {B B' B'' : bX} (h : Sim B B') (h' : Sim B' B'') : Sim B B'' := by
  rcases h with rfl | ⟨rw, rw', fl, z, s, t, e1, e2⟩
  · exact h'
  · rcases h' with rfl | ⟨rwa, rwa', fla, za, sa, ta, o1, o2⟩
    · exact .inr ⟨rw, rw', fl, z, s, t, e1, e2⟩
    · rw [e2] at o1; cases o1
      exact .inr ⟨rw, rwa', fl, z, s, t, e1, o2⟩
omit p in
theorem Kept.sim {B B' X : bX} (h : Kept B B' X) : Sim B X := by
  rcases h with ⟨rw, rw', fl, fl', z, z', s, s', t, t', e1, _, e3⟩ | ⟨n, n', t, t', e1, _, e3⟩
  · exact .inr ⟨rw, rw', fl, z, s, t, e1, e3⟩
  · exact .inl (e1.trans e3.symm)
omit p in
theorem Kept.self {B X : bX} (h : Kept B B X) : X = B := by
  rcases h with ⟨rw, rw', fl, fl', z, z', s, s', t, t', e1, e2, e3⟩ | ⟨n, n', t, t', e1, _, e3⟩
  · rw [e1] at e2; cases e2
    exact e3.trans e1.symm
  · exact e3.trans e1.symm
omit p in
theorem Kept.live {B B' X : bX} (h : Kept B B' X) : Live B ∧ Live B' := by
  rcases h with ⟨rw, rw', fl, fl', z, z', s, s', t, t', e1, e2, _⟩ | ⟨n, n', t, t', e1, e2, _⟩ <;> rw [e1, e2] <;> exact ⟨trivial, trivial⟩
omit p in
theorem Sim.live {B B' : bX} (h : Sim B B') (hl : Live B) : Live B' := by
  rcases h with rfl | ⟨rw, rw', fl, z, s, t, e1, e2⟩
  · exact hl
  · rw [e2]; trivial
omit p in
theorem ui.sim {w : World} {F : Nat → Prop} {μ : Mu} {b : Nat} {B B' : bX} (h : Sim B B') (hr : ui V w F μ b B) : ui V w F μ b B' := by
  rcases h with rfl | ⟨rw, rw', fl, z, s, t, e1, e2⟩
  · exact hr
  · rw [e1] at hr; rw [e2]; exact hr
omit p in
theorem Sim.symm {B B' : bX} (h : Sim B B') : Sim B' B := by
  rcases h with rfl | ⟨rw, rw', fl, z, s, t, e1, e2⟩
  · exact .inl rfl
  · exact .inr ⟨rw', rw, fl, z, s, t, e2, e1⟩
theorem mS.keeps {j b : Nat} : ∀ {k : Nat}, j ≤ k → k ≤ n → (∀ q, j ≤ q → q < k → ((T q).kd = 3 → b ∈ (T q).pl) ∧ ((T q).kd = 2 → dL rb T q ≠ b)) → Sim ((H j).at b) ((H k).at b) := by
  intro k hjk
  induction hjk with
  | refl => exact fun _ _ => .inl rfl
  | @step m hm ih =>
    intro hk hno
    refine (ih (by omega) fun q h1 h2 => hno q h1 (by omega)).trans ?_
    obtain ⟨h1, h2⟩ := hno m hm (Nat.lt_succ_self _)
    have hmn : m < n := by omega
    rcases p.kd hmn with ⟨e, _⟩ | ⟨e, _⟩
    · have hw := p.wrap hmn e
      by_cases hA : ∃ i ∈ (T m).A, b = (H m).rb + i
      · exact (hw.pin b hA (h1 e)).sim
      · exact (hw.pout b hA (h1 e)).sim
    · refine .inl (p.stays (j := m) (k := m + 1) (by omega) (by omega) fun q q1 q2 => ?_).symm
      have : q = m := by omega
      subst this
      exact ⟨by omega, h2⟩
theorem mS.hidden {k : Nat} (hk : k < n) : ∀ {j : Nat}, k + 1 ≤ j → j ≤ n → (∀ q, k + 1 ≤ q → q < j → (T q).kd = 3 → (T k).x.i ∈ (T q).A) → (H j).at (dL rb T k) = (H (k + 1)).at (dL rb T k) := by
  intro j hkj
  induction hkj with
  | refl => exact fun _ _ => rfl
  | @step m hm ih =>
    intro hj hno
    rw [← ih (by omega) fun q h1 h2 => hno q h1 (by omega)]
    have hmn : m < n := by omega
    have hm : k + 1 ≤ m := hm
    rcases p.kd hmn with ⟨e, _⟩ | ⟨e, _⟩
    · have hw := p.wrap hmn e
      have hA : ∃ i ∈ (T m).A, dL rb T k = (H m).rb + i := ⟨_, hno m hm (Nat.lt_succ_self _) e, by rw [(p.vP hmn).1]⟩
      by_cases hp : dL rb T k ∈ (T m).pl
      · exact (hw.pin _ hA hp).self
      · exact hw.kin _ hA hp
    · refine p.stays (j := m) (k := m + 1) (by omega) (by omega) fun q q1 q2 => ?_
      have : q = m := by omega
      subst this
      exact ⟨by omega, fun _ e2 => absurd (p.kH hmn hk e2) (by omega)⟩
theorem mS.lW {j t : Nat} : ∀ {k : Nat}, j ≤ k → k ≤ n → (∀ q, j ≤ q → q < k → (T q).x.o.dst ≠ some t) → S k t = S j t ∨ S k t = .uu := by
  intro k hjk
  induction hjk with
  | refl => exact fun _ _ => .inl rfl
  | @step m hm ih =>
    intro hk hno
    have hmn : m < n := by omega
    rcases (p.slot hmn t).2 (hno m hm (Nat.lt_succ_self _)) with h | h
    · rw [h]; exact ih (by omega) fun q h1 h2 => hno q h1 (by omega)
    · exact .inr h
end
theorem aP.sub {V : Env} {w : World} {F : Nat → Prop} {μ : Mu} {h h' : Hp} (H : aP V μ F h w) (he : ∀ b, (h'.at b).gone ∨ h'.at b = h.at b) (hn : h.nx ≤ h'.nx) : aP V μ F h' w := by
  have wr : ∀ b, (h'.at b).wr → (h.at b).wr := fun b hw => (he b).elim (fun g => absurd hw (mJ g)) fun e => e ▸ hw
  exact ⟨fun b => (he b).elim (fun g => .gone g) fun e => e ▸ H.c8 b, fun b b' m m' h1 h2 => H.kr b b' m m' (wr b h1) (wr b' h2), fun b m hm => let ⟨q1, q2⟩ := H.nM b m hm; ⟨Nat.lt_of_lt_of_le q1 hn, q2⟩, H.qt, H.ve⟩
theorem mX {t : Nat} : ∀ {l : List Operand}, Operand.tmp t ∈ l → t ∈ tmpsOf l
  | x :: l, h => by
    rcases List.mem_cons.1 h with rfl | h
    · exact List.mem_cons_self ..
    · have := mX h
      cases x with
      | tmp u => exact List.mem_cons_of_mem _ this
      | _ => exact this
theorem mem_reads {ops : Array Oper} {o : Oper} {t : Nat} (h : Operand.tmp t ∈ o.op.operands.toList ∨ ∃ j want, o.guard = some (j, want) ∧ (ops[j]?).bind (·.dst) = some t) : t ∈ jY ops o := by
  unfold jY
  cases hg : o.guard with
  | none =>
    rcases h with h | ⟨j, want, h, _⟩
    · exact mX h
    · rw [hg] at h; cases h
  | some gq =>
    obtain ⟨j, want⟩ := gq
    simp only
    cases hd : (ops[j]?).bind (·.dst) with
    | none =>
      rcases h with h | ⟨j', want', h, h2⟩
      · exact mX h
      · rw [hg] at h; cases h
        rw [hd] at h2; cases h2
    | some u =>
      rcases h with h | ⟨j', want', h, h2⟩
      · exact List.mem_cons_of_mem _ (mX h)
      · rw [hg] at h; cases h
        rw [hd] at h2; cases h2
        exact List.mem_cons_self ..
theorem afy {w : World} {F : Nat → Prop} {μ : Mu} {v : AV} {u : Value} {b : Nat} (h : ao w F μ v u) (hb : jo v = some b) : μ b ≠ none := by
  cases h with
  | ptr h => cases hb; rw [h]; simp
  | @ms _ b' o n z c m h _ _ =>
    cases n with
    | zero => cases hb
    | succ n => cases hb; rw [h]; simp
  | map h => cases hb; rw [h]; simp
  | _ => cases hb
theorem iV.wpS {V : Env} {ops : Array Oper} {O : Operand → AV} {o : Oper} {id : Nat} {hA hB hS : Hp} {v : AV} {kd : Nat} (s : iV V ops O o id hA v hB kd) {i : Nat} (hi : ops[i]? = some o) {w : World} {F : Nat → Prop} {μ : Mu} {a : Act} {r : Option Nat} {n : Nat} {Q : Exit → Act → World → Prop} {K : Act → World → Prop}
    (hO : qw w F μ O o.op.operands.toList a.eval) (hG : ∀ j want t, o.guard = some (j, want) → (ops[j]?).bind (·.dst) = some t → ao w F μ (O (.tmp t)) (a.tmps.getD t undef)) (hid : μ id = none) (HS : aP V μ F hS w) (hidn : id < hS.nx)
    (hread : kd = 1 → ∀ p, spot o.op = some p → p ∈ o.op.operands.toList → gE hA (O p) → ni V w F μ hA (O p)) (h3 : kd = 3 → aP V μ F hA w)
    (k01 : kd ≤ 1 → ∀ x, ao w F μ v x → K (a.put o.dst x) w)
    (k2 : kd = 2 → ∀ B, fq hA id B hB → ∀ hS' x w' μ' F', fq hS id B hS' → hS'.nx = hS.nx → ao w' F' μ' v x → ki id μ μ' → aP V μ' F' hS' w' → Ext μ F hS w μ' F' hS' w' → K (a.put o.dst x) w')
    (k3 : kd = 3 → ∀ x w' μ' F', ao w' F' μ' v x → kN id hA μ μ' → aP V μ' F' hB w' → Ext μ F hA w μ' F' hB w' → K (a.put o.dst x) w') : wpOpIn (Wf r) n V.P ops Q i K a w := by
  unfold wpOpIn
  rw [hi]
  cases s with
  | skip hw hv hh =>
    subst hv
    simp only [hw hG, Bool.false_eq_true, if_false]
    exact ⟨fun _ _ => trivial, k01 (by omega) undef tw⟩
  | run hw hd k =>
    simp only [hw hG, if_true]
    cases k with
    | pure h G =>
      obtain ⟨nx, x, h1, h2, h3⟩ := G hO
      exact ks hd h1 h2 (k01 (by omega) x h3)
    | read p h hsp hm hl G =>
      obtain ⟨nx, x, h1, h2, h3⟩ := G hO (hread rfl p hsp hm hl)
      exact ks hd h1 h2 (k01 (by omega) x h3)
    | make B hs hn G =>
      obtain ⟨t', ht⟩ := aag .dead id hS.t B
      have hset : fq hS id B ⟨t', hS.nx, hS.pr, hS.rb⟩ := ⟨fun b => ht b, Nat.le_refl _, rfl, rfl⟩
      obtain ⟨nx, x, w', μ', F', h1, h2, h3, h4, h5, h6⟩ := G hO hid HS hset hidn
      exact ks hd h1 h2 (k2 rfl B hs _ x w' μ' F' hset rfl h3 h4 h5 h6)
    | other G => exact G hO hid (h3 rfl) (k3 rfl)
def HSp (rb n : Nat) (T : Nat → TP) (H : Nat → Hp) (D : Nat → Prop) (q b : Nat) (X : bX) : Prop :=
  (∀ k, k < n → (T k).kd = 2 → dL rb T k = b → (D (T k).x.i → (q ≤ k → BEq X ((H (k + 1)).at b)) ∧ (k < q → BEq X ((H q).at b))) ∧ (¬ D (T k).x.i → X.gone)) ∧ ((∀ k, k < n → (T k).kd = 2 → dL rb T k ≠ b) → BEq X ((H q).at b))
structure Inv (V : Env) (nt rb n : Nat) (T : Nat → TP) (H : Nat → Hp) (S : Nat → Nat → AV) (μ0 : Mu) (F0 : Nat → Prop) (w0 : World) (df : List Deferred) (D : Nat → Prop) (q : Nat) (μ : Mu) (F : Nat → Prop) (a : Act) (w : World) : Prop where
  cl : ∀ k j, k < n → j < n → D (T k).x.i → bit (T k).x.m (T j).x.i = true → D (T j).x.i
  wl : ∀ k, k < n → (T k).kd = 3 → D (T k).x.i → k < q
  wq : q = 0 ∨ ∃ j, q = j + 1 ∧ j < n ∧ (T j).kd = 3 ∧ D (T j).x.i
  sl : ∀ t, (∃ k, k < n ∧ D (T k).x.i ∧ (T k).x.o.dst = some t ∧ ao w F μ (T k).v (a.tmps.getD t undef)) ∨ ((∀ k, k < n → D (T k).x.i → (T k).x.o.dst ≠ some t) ∧ ao w F μ (S 0 t) (a.tmps.getD t undef))
  hp : ∃ hS, aP V μ F hS w ∧ Ext μ0 F0 (H 0) w0 μ F hS w ∧ hS.nx = (H q).nx ∧ hS.pr = (H 0).pr ∧ ∀ b, HSp rb n T H D q b (hS.at b)
  un : ∀ k, k < n → ¬ D (T k).x.i → μ (dL rb T k) = none
  gn : ∀ k, k < n → (T k).kd = 2 → ((H (min q k)).at (dL rb T k)).gone
  ids : ∀ b, μ b ≠ none → μ0 b ≠ none ∨ rb ≤ b
  nt : nt ≤ a.tmps.size
  df : a.defers = df
section
variable {V : Env} {ops : Array Oper} {nt rb n : Nat} {all : List Dr} {T : Nat → TP} {H : Nat → Hp} {S : Nat → Nat → AV} (A : mS V ops nt rb n all T H S)
  {μ0 : Mu} {F0 : Nat → Prop} {w0 : World} {df : List Deferred} {D : Nat → Prop} {q : Nat} {μ : Mu} {F : Nat → Prop} {a : Act} {w : World} (I : Inv V nt rb n T H S μ0 F0 w0 df D q μ F a w)
  {k : Nat} (hk : k < n) (hD : ¬ D (T k).x.i) (rd : ∀ j, j < n → bit (T k).x.m (T j).x.i = true → D (T j).x.i)
include A I
theorem Inv.qn : q ≤ n := by
  have _ := A
  rcases I.wq with h | ⟨j, h, hj, _⟩ <;> omega
theorem Inv.ran {j : Nat} (hj : j < q) (hkd : (T j).kd = 3) : D (T j).x.i := by
  rcases I.wq with h | ⟨j0, h, hj0, hkd0, hD0⟩
  · omega
  · by_cases e : j = j0
    · subst e; exact hD0
    · rcases kV (A.pair j j0 (by omega) hj0).2.2 with h1 | h1 | h1
      · exact I.cl j0 j hj0 (by omega) hD0 h1
      · rcases A.kd hj0 with h2 | h2 <;> omega
      · rcases A.kd (k := j) (by omega) with h2 | h2 <;> omega
include hk rd in
theorem Inv.w1 (hc : 1 ≤ (T k).x.c) {j : Nat} (hj : j < k) (hkd : (T j).kd = 3) : j < q := by
  rcases kV (A.pair j k hj hk).2.2 with h1 | h1 | h1
  · exact I.wl j (by omega) hkd (rd j (by omega) h1)
  · omega
  · rcases A.kd (k := j) (by omega) with h2 | h2 <;> omega
include hk hD in
theorem Inv.w2 {j : Nat} (hj : j < n) (hDj : D (T j).x.i) : bit (T j).x.m (T k).x.i = false := by
  have _ := A
  cases h : bit (T j).x.m (T k).x.i with
  | false => rfl
  | true => exact absurd (I.cl j k hj hk hDj h) hD
include hk hD in
theorem Inv.w3 (hkd : (T k).kd = 3) : q ≤ k := by
  rcases I.wq with h | ⟨j, h, hj, hkdj, hDj⟩
  · omega
  · by_cases e : j < k
    · omega
    · exfalso
      have hne : j ≠ k := fun e => hD (e ▸ hDj)
      rcases kV (A.pair k j (by omega) hj).2.2 with h1 | h1 | h1
      · rw [I.w2 A hk hD hj hDj] at h1; cases h1
      · rcases A.kd hj with h2 | h2 <;> omega
      · rcases A.kd hk with h2 | h2 <;> omega
theorem Inv.gh (_ : q ≤ k) (hkn : k ≤ n) (hno : ∀ j, j < k → (T j).kd = 3 → j < q) {j b : Nat} (hqj : q ≤ j) (hjk : j ≤ k) (hb : ∀ m, j ≤ m → m < k → (T m).kd = 2 → dL rb T m ≠ b) : (H k).at b = (H j).at b := have _ := I; 
  A.stays hjk hkn fun m h1 h2 => ⟨fun e => by have := hno m h2 e; omega, hb m h1 h2⟩
include hk hD rd in
theorem Inv.slot {t : Nat} (ht : t ∈ (T k).x.r) : ao w F μ (S k t) (a.tmps.getD t undef) := by
  rcases I.sl t with ⟨j, hj, hDj, hdst, hc⟩ | ⟨hno, hc⟩
  · have hne : j ≠ k := fun e => hD (e ▸ hDj)
    by_cases e : j < k
    · have hs : S (j + 1) t = (T j).v := (A.slot hj t).1 hdst
      rcases A.lW (j := j + 1) (t := t) (k := k) (by omega) (by omega) (fun m h1 h2 => (mN (A.pair j m (by omega) (by omega)).1 hdst).1) with h | h
      · rw [h, hs]; exact hc
      · rw [h]; exact .uu _
    · exfalso
      rcases (mN (A.pair k j (by omega) hj).2.1 hdst).2 ht with h | h
      · have := A.top k j hk hj h; omega
      · rw [I.w2 A hk hD hj hDj] at h; cases h
  · rcases A.lW (j := 0) (t := t) (k := k) (by omega) (by omega) (fun m _ h2 hdst => by
        rcases (mN (A.pair m k h2 hk).1 hdst).2 ht with h | h
        · exact hno m (by omega) (rd m (by omega) h) hdst
        · have := A.top m k (by omega) hk h; omega) with h | h
    · rw [h]; exact hc
    · rw [h]; exact .uu _
include hk hD in
theorem Inv.kept (hc : (T k).x.c = 1) {p : Operand} (hsp : spot (T k).x.o.op = some p) {b : Nat} (hb : jo ((T k).O p) = some b) {m : Nat} (hkm : k ≤ m) (hmq : m ≤ q) (hno : ∀ j, k ≤ j → j < m → (T j).kd = 2 → dL rb T j ≠ b) : Sim ((H k).at b) ((H m).at b) := by
  have hqn := I.qn A
  refine A.keeps hkm (by omega) fun j h1 h2 => ⟨fun e3 => ?_, hno j h1 h2⟩
  have hjn : j < n := by omega
  have hDj := I.ran A (by omega) e3
  have hne : j ≠ k := fun e => hD (e ▸ hDj)
  obtain ⟨dn, ok, hdn⟩ := A.tp j hjn
  have hloose : (T k).x ∈ lM (T j).x dn := qT.2 ⟨(hdn _).2 ⟨k, by omega, rfl⟩, hc, I.w2 A hk hD hjn hDj⟩
  obtain ⟨hspot, p', hp', hnu, hpl⟩ := ok.lM e3 _ hloose
  rw [hsp] at hp'; cases hp'
  refine hpl b ?_
  obtain ⟨dk, okk, _⟩ := A.tp k hk
  cases p with
  | tmp t =>
    rw [okk.os, (A.sk k hk).1] at hb
    rw [ok.os, (A.sk j hjn).1] at hnu ⊢
    have hw : ∀ z ∈ all, z.o.dst = some t → bit (T k).x.m z.i = true := fun z hz hdst => by
      unfold a0I at hspot
      rw [hsp] at hspot
      have h' : uW (fun z : Dr => Option.rec (motive := fun _ => Bool) true (fun d => Bool.rec (motive := fun _ => Bool) true (bit (T k).x.m z.i) (Nat.beq d t)) z.o.dst) all = true := hspot
      have := lU h' z hz
      simp only [hdst, Nat.beq_refl] at this
      exact this
    rcases A.lW (j := k) (t := t) (k := j) (by omega) (by omega) (fun m' h3 h4 hdst => by
      have := A.top k m' hk (by omega) (hw _ (A.mem m' (by omega)) hdst)
      omega) with h | h
    · rw [h]; exact hb
    · exact absurd h (hnu _ _ _ _)
  | const v => rw [okk.oc _ (fun t => by simp)] at hb; cases hb
  | func f => rw [okk.oc _ (fun t => by simp)] at hb; cases hb
  | global g => rw [okk.oc _ (fun t => by simp)] at hb; cases hb
include hk hD rd in
theorem Inv.read {hS : Hp} (HS : aP V μ F hS w) (hsp0 : ∀ b, HSp rb n T H D q b (hS.at b)) (hkd : (T k).kd = 1) {p : Operand} (hsp : spot (T k).x.o.op = some p) (hlive : gE (H k) ((T k).O p)) {u : Value} (hu : ao w F μ ((T k).O p) u) : ni V w F μ (H k) ((T k).O p) := by
  intro b hb
  have hc : (T k).x.c = 1 := by rcases A.kd hk with h | h <;> omega
  have hl := hlive b hb
  have hmu : μ b ≠ none := afy hu hb
  have hno : ∀ j, j < k → (T j).kd = 3 → j < q := fun j => I.w1 A hk rd (by omega)
  have fin : ∀ {Y : bX}, BEq (hS.at b) Y → Sim ((H k).at b) Y → ui V w F μ b ((H k).at b) := fun {Y} h1 h2 => by
    have hY := h2.live hl
    have e : hS.at b = Y := h1.symm.eq (a8H hY) |>.symm
    have := (HS.c8 b).read
    rw [e] at this
    exact this.sim h2.symm
  by_cases hm : ∃ j, j < n ∧ (T j).kd = 2 ∧ dL rb T j = b
  · obtain ⟨j, hj, hkj, hjb⟩ := hm
    have hDj : D (T j).x.i := Classical.byContradiction fun h => hmu (hjb ▸ I.un j hj h)
    have hother : ∀ m, m < n → (T m).kd = 2 → m ≠ j → dL rb T m ≠ b := fun m hm _ hne e => hne (A.kH hm hj (e.trans hjb.symm))
    have hX := ((hsp0 b).1 j hj hkj hjb).1 hDj
    have hjk : j ≠ k := fun e => by rw [e] at hkj; omega
    by_cases hlt : j < k
    · by_cases hqk : q ≤ k
      · by_cases hqj : q ≤ j
        · refine fin (hX.1 hqj) (.inl (I.gh A hqk (by omega) hno (j := j + 1) (by omega) (by omega) fun m h1 h2 h3 => hother m (by omega) h3 (by omega)))
        · refine fin (hX.2 (by omega)) (.inl (I.gh A hqk (by omega) hno (Nat.le_refl q) hqk fun m h1 h2 h3 => hother m (by omega) h3 (by omega)))
      · exact fin (hX.2 (by omega)) (I.kept A hk hD hc hsp hb (by omega) (Nat.le_refl q) fun m h1 h2 h3 => hother m (by have := I.qn A; omega) h3 (by omega))
    · exfalso
      have hg := I.gn j hj hkj
      rw [hjb] at hg
      by_cases hqk : q ≤ k
      · rw [Nat.min_eq_left (by omega)] at hg
        have := I.gh A hqk (by omega) hno (Nat.le_refl q) hqk (b := b) fun m h1 h2 h3 => hother m (by omega) h3 (by omega)
        rw [this] at hl
        exact tj hg hl
      · exact tj hg ((I.kept A hk hD hc hsp hb (m := min q j) (by omega) (Nat.min_le_left _ _) fun m h1 h2 h3 => hother m (by have := I.qn A; omega) h3 (by omega)).live hl)
  · have hX := (hsp0 b).2 fun j hj hkj e => hm ⟨j, hj, hkj, e⟩
    have hother : ∀ m, m < n → (T m).kd = 2 → dL rb T m ≠ b := fun j hj hkj e => hm ⟨j, hj, hkj, e⟩
    by_cases hqk : q ≤ k
    · exact fin hX (.inl (I.gh A hqk (by omega) hno (Nat.le_refl q) hqk fun m h1 h2 h3 => hother m (by omega) h3))
    · exact fin hX (I.kept A hk hD hc hsp hb (by omega) (Nat.le_refl q) fun m h1 h2 h3 => hother m (by have := I.qn A; omega) h3)
end
section
variable {V : Env} {ops : Array Oper} {nt rb n : Nat} {all : List Dr} {T : Nat → TP} {H : Nat → Hp} {S : Nat → Nat → AV} (A : mS V ops nt rb n all T H S)
  {μ0 : Mu} {F0 : Nat → Prop} {w0 : World} {df : List Deferred} {D : Nat → Prop} {q : Nat} {μ : Mu} {F : Nat → Prop} {a : Act} {w : World} (I : Inv V nt rb n T H S μ0 F0 w0 df D q μ F a w)
  {k : Nat} (hk : k < n) (hD : ¬ D (T k).x.i) (rd : ∀ j, j < n → bit (T k).x.m (T j).x.i = true → D (T j).x.i) {D' : Nat → Prop} (hD' : ∀ i, D' i ↔ D i ∨ i = (T k).x.i)
include A I hk hD rd hD'
theorem Inv.old {j : Nat} (hj : j < n) (hne : j ≠ k) : D' (T j).x.i ↔ D (T j).x.i := have _ := I; have _ := hD; have _ := rd; 
  (hD' _).trans ⟨fun h => h.elim id fun e => absurd (A.inj j k hj hk e) hne, .inl⟩
theorem Inv.here : D' (T k).x.i := have _ := A; have _ := I; have _ := hk; have _ := hD; have _ := rd; (hD' _).2 (.inr rfl)
theorem Inv.cl' : ∀ k' j, k' < n → j < n → D' (T k').x.i → bit (T k').x.m (T j).x.i = true → D' (T j).x.i := fun k' j hk' hj h hb => by
  by_cases e : k' = k
  · subst e; exact (hD' _).2 (.inl (rd j hj hb))
  · exact (hD' _).2 (.inl (I.cl k' j hk' hj ((I.old A hk hD rd hD' hk' e).1 h) hb))
theorem Inv.sl' {w' : World} {F' : Nat → Prop} {μ' : Mu} {x : Value} (hv : ao w' F' μ' (T k).v x) (hold : ∀ {b : AV} {u : Value}, ao w F μ b u → ao w' F' μ' b u) (t : Nat) :
    (∃ j, j < n ∧ D' (T j).x.i ∧ (T j).x.o.dst = some t ∧ ao w' F' μ' (T j).v ((a.put (T k).x.o.dst x).tmps.getD t undef)) ∨ ((∀ j, j < n → D' (T j).x.i → (T j).x.o.dst ≠ some t) ∧ ao w' F' μ' (S 0 t) ((a.put (T k).x.o.dst x).tmps.getD t undef)) := by
  obtain ⟨dn, ok, _⟩ := A.tp k hk
  by_cases e : (T k).x.o.dst = some t
  · refine .inl ⟨k, hk, I.here A hk hD rd hD', e, ?_⟩
    rw [e]
    have hlt : t < nt := ok.dst t e
    have hnt : nt ≤ a.tmps.size := I.nt
    have hlt2 : t < a.tmps.size := Nat.lt_of_lt_of_le hlt hnt
    have : (a.put (some t) x).tmps.getD t undef = x := by
      simp only [Act.put, Array.getD_eq_getD_getElem?, Array.getElem?_setIfInBounds, if_true]
      rw [if_pos hlt2]; rfl
    rw [this]; exact hv
  · have hsame : (a.put (T k).x.o.dst x).tmps.getD t undef = a.tmps.getD t undef := by
      cases hd : (T k).x.o.dst with
      | none => rfl
      | some u =>
        have hne : u ≠ t := fun h => e (by rw [hd, h])
        simp only [Act.put, Array.getD_eq_getD_getElem?, Array.getElem?_setIfInBounds, if_neg hne]
    rw [hsame]
    rcases I.sl t with ⟨j, h1, h2, h3, h4⟩ | ⟨h1, h2⟩
    · exact .inl ⟨j, h1, (hD' _).2 (.inl h2), h3, hold h4⟩
    · refine .inr ⟨fun j hj hDj hdst => ?_, hold h2⟩
      by_cases ej : j = k
      · subst ej; exact e hdst
      · exact h1 j hj ((I.old A hk hD rd hD' hj ej).1 hDj) hdst
theorem Inv.low (hkd : (T k).kd ≤ 1) {x : Value} (hv : ao w F μ (T k).v x) : Inv V nt rb n T H S μ0 F0 w0 df D' q μ F (a.put (T k).x.o.dst x) w where
  cl := I.cl' A hk hD rd hD'
  wl := fun j hj e h => by
    have hne : j ≠ k := fun e2 => by rw [e2] at e; omega
    exact I.wl j hj e ((I.old A hk hD rd hD' hj hne).1 h)
  wq := I.wq.imp id fun ⟨j, h1, h2, h3, h4⟩ => ⟨j, h1, h2, h3, (hD' _).2 (.inl h4)⟩
  sl := I.sl' A hk hD rd hD' hv id
  hp := by
    obtain ⟨hS, h1, h2, h3, h4, h5⟩ := I.hp
    refine ⟨hS, h1, h2, h3, h4, fun b => ⟨fun j hj e hb => ?_, (h5 b).2⟩⟩
    have hne : j ≠ k := fun e2 => by rw [e2] at e; omega
    rw [I.old A hk hD rd hD' hj hne]
    exact (h5 b).1 j hj e hb
  un := fun j hj h => I.un j hj fun h' => h ((hD' _).2 (.inl h'))
  gn := I.gn
  ids := I.ids
  nt := by rw [(iz a _ x).1]; exact I.nt
  df := by rw [(iz a _ x).2]; exact I.df
theorem Inv.make (hkd : (T k).kd = 2) {hS hS' : Hp} (HS : aP V μ F hS w) (ES : Ext μ0 F0 (H 0) w0 μ F hS w) (nS : hS.nx = (H q).nx) (pS : hS.pr = (H 0).pr) (sS : ∀ b, HSp rb n T H D q b (hS.at b)) {B : bX} (hB : fq (H k) (dL rb T k) B (H (k + 1))) (hset : fq hS (dL rb T k) B hS') (hnx : hS'.nx = hS.nx)
    {w' : World} {F' : Nat → Prop} {μ' : Mu} {x : Value} (hv : ao w' F' μ' (T k).v x) (hid : ki (dL rb T k) μ μ') (HS' : aP V μ' F' hS' w') (E : Ext μ F hS w μ' F' hS' w') : Inv V nt rb n T H S μ0 F0 w0 df D' q μ' F' (a.put (T k).x.o.dst x) w' where
  cl := I.cl' A hk hD rd hD'
  wl := fun j hj e h => by
    have hne : j ≠ k := fun e2 => by rw [e2] at e; omega
    exact I.wl j hj e ((I.old A hk hD rd hD' hj hne).1 h)
  wq := I.wq.imp id fun ⟨j, h1, h2, h3, h4⟩ => ⟨j, h1, h2, h3, (hD' _).2 (.inl h4)⟩
  sl := I.sl' A hk hD rd hD' hv fun h => h.ext HS E
  hp := by
    refine ⟨hS', HS', ES.trans E, hnx.trans nS, hset.pr.trans pS, fun b => ⟨fun j hj e hb => ?_, fun hno => ?_⟩⟩
    · by_cases ej : j = k
      · subst ej
        subst hb
        rw [hset.same]
        refine ⟨fun _ => ⟨fun _ => .inl hB.same.symm, fun hkq => ?_⟩, fun h => absurd (I.here A hk hD rd hD') h⟩
        have := A.hidden hk (j := q) (by omega) (I.qn A) fun m h1 h2 h3 => by
          obtain ⟨dn, ok, hdn⟩ := A.tp m (by have := I.qn A; omega)
          rw [ok.ix h3]
          have hc : (T j).x.c = 2 := by rcases A.kd hk with h | h <;> omega
          exact kx.2 ⟨_, (hdn _).2 ⟨j, by omega, rfl⟩, rfl, hc, I.w2 A hk hD (by have := I.qn A; omega) (I.ran A h2 h3)⟩
        rw [this, hB.same]; exact BEq.refl B
      · have hne : b ≠ dL rb T k := fun e2 => ej (A.kH hj hk (hb.trans e2))
        rw [hset.ne hne, I.old A hk hD rd hD' hj ej]
        exact (sS b).1 j hj e hb
    · have hne : b ≠ dL rb T k := fun e2 => hno k hk hkd e2.symm
      rw [hset.ne hne]
      exact (sS b).2 hno
  un := fun j hj h => Classical.byContradiction fun hne => by
    rcases hid _ hne with h1 | h1
    · exact h1 (I.un j hj fun h' => h ((hD' _).2 (.inl h')))
    · have := A.kH hj hk h1
      subst this
      exact h (I.here A hk hD rd hD')
  gn := I.gn
  ids := fun b hb => (hid b hb).elim (I.ids b) fun e => .inr (by rw [e]; exact Nat.le_add_right _ _)
  nt := by rw [(iz a _ x).1]; exact I.nt
  df := by rw [(iz a _ x).2]; exact I.df
omit hD' in
theorem Inv.alike (hkd : (T k).kd = 3) {hS : Hp} (sS : ∀ b, HSp rb n T H D q b (hS.at b)) (b : Nat) (hno : ¬ ∃ j, j < n ∧ (T j).kd = 2 ∧ ¬ D (T j).x.i ∧ dL rb T j = b) : BEq (hS.at b) ((H k).at b) := by
  have hqk := I.w3 A hk hD hkd
  have hw := fun j => I.w1 A hk rd (j := j) (by rcases A.kd hk with h | h <;> omega)
  by_cases hm : ∃ j, j < n ∧ (T j).kd = 2 ∧ dL rb T j = b
  · obtain ⟨j, hj, hkj, hjb⟩ := hm
    have hDj : D (T j).x.i := Classical.byContradiction fun h => hno ⟨j, hj, hkj, h, hjb⟩
    have hother : ∀ m, m < n → (T m).kd = 2 → m ≠ j → dL rb T m ≠ b := fun m hm _ hne e => hne (A.kH hm hj (e.trans hjb.symm))
    have hne : j ≠ k := fun e => by rw [e] at hkj; omega
    have hjk : j < k := by
      by_cases e : j < k
      · exact e
      · exfalso
        rcases kV (A.pair k j (by omega) hj).2.2 with h1 | h1 | h1
        · rw [I.w2 A hk hD hj hDj] at h1; cases h1
        · rcases A.kd hj with h2 | h2 <;> omega
        · rcases A.kd hk with h2 | h2 <;> omega
    have hX := ((sS b).1 j hj hkj hjb).1 hDj
    by_cases hqj : q ≤ j
    · rw [I.gh A hqk (by omega) hw (j := j + 1) (by omega) (by omega) fun m h1 h2 h3 => hother m (by omega) h3 (by omega)]
      exact hX.1 hqj
    · rw [I.gh A hqk (by omega) hw (Nat.le_refl q) hqk fun m h1 h2 h3 => hother m (by omega) h3 (by omega)]
      exact hX.2 (by omega)
  · rw [I.gh A hqk (by omega) hw (Nat.le_refl q) hqk fun m h1 h2 h3 e => hm ⟨m, by omega, h3, e⟩]
    exact (sS b).2 fun j hj hkj e => hm ⟨j, hj, hkj, e⟩
omit hD' in
theorem Inv.unrun (hkd : (T k).kd = 3) {j : Nat} (hj : j < n) (hkj : (T j).kd = 2) (hDj : ¬ D (T j).x.i) : (j < k ∧ (T j).x.i ∈ (T k).A) ∨ (k < j ∧ ((H k).at (dL rb T j)).gone) := by
  have hne : j ≠ k := fun e => by rw [e] at hkj; omega
  by_cases hjk : j < k
  · left
    refine ⟨hjk, ?_⟩
    obtain ⟨dn, ok, hdn⟩ := A.tp k hk
    rw [ok.ix hkd]
    refine kx.2 ⟨_, (hdn _).2 ⟨j, hjk, rfl⟩, rfl, by rcases A.kd hj with h | h <;> omega, ?_⟩
    cases hb : bit (T k).x.m (T j).x.i with
    | false => rfl
    | true => exact absurd (rd j hj hb) hDj
  · right
    have hqk := I.w3 A hk hD hkd
    have hw := fun j => I.w1 A hk rd (j := j) (by rcases A.kd hk with h | h <;> omega)
    refine ⟨by omega, ?_⟩
    have hg := I.gn j hj hkj
    rw [Nat.min_eq_left (by omega)] at hg
    rw [I.gh A hqk (by omega) hw (Nat.le_refl q) hqk fun m h1 h2 h3 e => absurd (A.kH (by omega) hj e) (by omega)]
    exact hg
omit hD' in
theorem Inv.hidA (hkd : (T k).kd = 3) {hS : Hp} (sS : ∀ b, HSp rb n T H D q b (hS.at b)) (b : Nat) : ((T k).hA.at b).gone ∨ (T k).hA.at b = hS.at b := by
  have hw := A.wrap hk hkd
  have yB := (A.vP hk).1
  by_cases hA : ∃ i ∈ (T k).A, b = (H k).rb + i
  · rw [hw.ain b hA]; exact .inl trivial
  · rw [hw.aout b hA]
    by_cases hno : ∃ j, j < n ∧ (T j).kd = 2 ∧ ¬ D (T j).x.i ∧ dL rb T j = b
    · obtain ⟨j, hj, hkj, hDj, rfl⟩ := hno
      rcases I.unrun A hk hD rd hkd hj hkj hDj with ⟨_, h⟩ | ⟨_, h⟩
      · exact absurd ⟨_, h, by rw [yB]⟩ hA
      · exact .inl h
    · rcases I.alike A hk hD rd hkd sS b hno with h | ⟨_, h⟩
      · exact .inr h.symm
      · exact .inl h
open Classical in
theorem Inv.write (hkd : (T k).kd = 3) {hS : Hp} (HS : aP V μ F hS w) (ES : Ext μ0 F0 (H 0) w0 μ F hS w) (nS : hS.nx = (H q).nx) (pS : hS.pr = (H 0).pr) (sS : ∀ b, HSp rb n T H D q b (hS.at b)) (HA : aP V μ F (T k).hA w)
    {w' : World} {F' : Nat → Prop} {μ' : Mu} {x : Value} (hv : ao w' F' μ' (T k).v x) (hid : kN (dL rb T k) (T k).hA μ μ') (HB : aP V μ' F' (T k).hB w') (E : Ext μ F (T k).hA w μ' F' (T k).hB w') : Inv V nt rb n T H S μ0 F0 w0 df D' (k + 1) μ' F' (a.put (T k).x.o.dst x) w' := by
  have hw := A.wrap hk hkd
  have yB := (A.vP hk).1
  have hqk := I.w3 A hk hD hkd
  have hw1 := fun j => I.w1 A hk rd (j := j) (by rcases A.kd hk with h | h <;> omega)
  have hprk : (H k).pr = (H 0).pr := (A.mono (Nat.zero_le k) (by omega)).2
  have later : ∀ j, j < n → (T j).kd = 2 → k < j → ¬ D' (T j).x.i := fun j hj hkj hkj2 h => by
    have hDj := (I.old A hk hD rd hD' hj (by omega)).1 h
    rcases kV (A.pair k j hkj2 hj).2.2 with h1 | h1 | h1
    · rw [I.w2 A hk hD hj hDj] at h1; cases h1
    · rcases A.kd hj with h2 | h2 <;> omega
    · rcases A.kd hk with h2 | h2 <;> omega
  have un' : ∀ j, j < n → ¬ D' (T j).x.i → μ' (dL rb T j) = none := fun j hj h => Classical.byContradiction fun hne => by
    rcases hid _ hne with h1 | h1 | h1
    · exact h1 (I.un j hj fun h' => h ((hD' _).2 (.inl h')))
    · have := A.kH hj hk h1
      subst this
      exact h (I.here A hk hD rd hD')
    · rw [hw.anx] at h1
      have h2 := (A.vP hk).2
      have h3 := (A.op j hj).2.2.2
      unfold dL at h1; omega
  let f : Nat → bX := fun b => if ∃ j, j < n ∧ (T j).kd = 2 ∧ ¬ D' (T j).x.i ∧ dL rb T j = b then .dead else (H (k + 1)).at b
  obtain ⟨hS', s1, s2, s3, s4⟩ := abT (T k).hB f (T k).hB.nx hS.pr hS.rb ((T k).A.map (fun i => (H k).rb + i) ++ (T k).pl ++ (List.range n).map (dL rb T))
  have hf : ∀ b, hS'.at b = f b := fun b => by
    by_cases hb : b ∈ (T k).A.map (fun i => (H k).rb + i) ++ (T k).pl ++ (List.range n).map (dL rb T)
    · exact (s4 b).1 hb
    · rw [(s4 b).2 hb]
      rw [List.mem_append, List.mem_append, not_or, not_or] at hb
      have h1 : ¬ ∃ j, j < n ∧ (T j).kd = 2 ∧ ¬ D' (T j).x.i ∧ dL rb T j = b := fun ⟨j, hj, _, _, e⟩ => hb.2 (List.mem_map.2 ⟨j, List.mem_range.2 hj, e⟩)
      show (T k).hB.at b = if _ then _ else _
      rw [if_neg h1]
      exact (hw.kout b (fun ⟨i, hi, e⟩ => hb.1.1 (List.mem_map.2 ⟨i, hi, e.symm⟩)) hb.1.2).symm
  have hAS := I.hidA A hk hD rd hkd sS
  obtain ⟨HS', ES'⟩ := aP.frame HS HA HB E (hS' := hS') (fun b hg => (hAS b).resolve_left hg) (fun b hb => by rw [hw.apr, hprk, ← pS]; exact List.mem_append_right _ hb) (by rw [nS, hw.anx]; exact (A.mono hqk (by omega)).1) s1 s2 s3 (fun b => by
    rw [hf b]
    by_cases h1 : ∃ j, j < n ∧ (T j).kd = 2 ∧ ¬ D' (T j).x.i ∧ dL rb T j = b
    · left
      show (if _ then bX.dead else _ : bX).gone
      rw [if_pos h1]; trivial
    · have hfb : f b = (H (k + 1)).at b := if_neg h1
      rw [hfb]
      by_cases hA : ∃ i ∈ (T k).A, b = (H k).rb + i
      · -- put away
        have hback : (H (k + 1)).at b = (H k).at b := by
          by_cases hp : b ∈ (T k).pl
          · exact (hw.pin b hA hp).self
          · exact hw.kin b hA hp
        rw [hback]
        have halike := I.alike A hk hD rd hkd sS b fun ⟨j, hj, hkj, hDj, e⟩ => h1 ⟨j, hj, hkj, fun h => hDj ((I.old A hk hD rd hD' hj (fun e2 => by rw [e2] at hkj; omega)).1 h), e⟩
        rcases halike with h | ⟨_, h⟩
        · exact .inr (.inr (.inl ⟨h.symm, by rw [hw.ain b hA]; trivial⟩))
        · exact .inl h
      · by_cases hp : b ∈ (T k).pl
        · refine .inr (.inr (.inr ⟨by rw [hw.apr]; exact List.mem_append_left _ hp, ?_⟩))
          rw [hw.aout b hA]; exact hw.pout b hA hp
        · refine .inr (.inl ⟨hw.kout b hA hp, fun h => ?_⟩)
          rw [hw.apr, hprk, ← pS] at h
          exact (List.mem_append.1 h).resolve_left hp)
  refine ⟨I.cl' A hk hD rd hD', fun j hj e h => ?_, .inr ⟨k, rfl, hk, hkd, I.here A hk hD rd hD'⟩, I.sl' A hk hD rd hD' hv fun h => h.ext HA E, ⟨hS', HS', ES.trans ES', s1.trans hw.nx.symm, s2.trans pS, fun b => ⟨fun j hj e hb => ⟨fun hDj => ⟨fun hle => ?_, fun hlt => ?_⟩, fun hDj => ?_⟩, fun hno => ?_⟩⟩, un', fun j hj hkj => ?_, fun b hb => ?_, by rw [(iz a _ x).1]; exact I.nt, by rw [(iz a _ x).2]; exact I.df⟩
  · by_cases ej : j = k
    · omega
    · have := I.wl j hj e ((I.old A hk hD rd hD' hj ej).1 h); omega
  · exact absurd hDj (later j hj e (by omega))
  · rw [hf b]
    have h1 : ¬ ∃ j, j < n ∧ (T j).kd = 2 ∧ ¬ D' (T j).x.i ∧ dL rb T j = b := fun ⟨j', hj', _, hD2, e2⟩ => by
      have := A.kH hj' hj (e2.trans hb.symm)
      subst this; exact hD2 hDj
    show BEq (if _ then _ else _) _
    rw [if_neg h1]; exact BEq.refl _
  · rw [hf b]
    show (if _ then bX.dead else _ : bX).gone
    rw [if_pos ⟨j, hj, e, hDj, hb⟩]; trivial
  · rw [hf b]
    show BEq (if _ then _ else _) _
    rw [if_neg (fun ⟨j, hj, hkj, _, e⟩ => hno j hj hkj e)]; exact BEq.refl _
  · -- free numbers
    have hne : j ≠ k := fun e => by rw [e] at hkj; omega
    have hg := I.gn j hj hkj
    by_cases hjk : j < k
    · rw [Nat.min_eq_right (by omega)]
      by_cases hjq : j ≤ q
      · rw [Nat.min_eq_right hjq] at hg; exact hg
      · rw [Nat.min_eq_left (by omega)] at hg
        have := I.gh A (k := j) (by omega) (by omega) (fun m h1 h2 => hw1 m (by omega) h2) (Nat.le_refl q) (by omega) (b := dL rb T j) fun m h1 h2 h3 e => absurd (A.kH (by omega) hj e) (by omega)
        rw [this]; exact hg
    · rw [Nat.min_eq_left (by omega)]
      have hgk : ((H k).at (dL rb T j)).gone := by
        rw [Nat.min_eq_left (by omega)] at hg
        rw [I.gh A hqk (by omega) hw1 (Nat.le_refl q) hqk fun m h1 h2 h3 e => absurd (A.kH (by omega) hj e) (by omega)]
        exact hg
      have hnA : ¬ ∃ i ∈ (T k).A, dL rb T j = (H k).rb + i := fun ⟨i, hi, e⟩ => by
        obtain ⟨dn, ok, hdn⟩ := A.tp k hk
        rw [ok.ix hkd] at hi
        obtain ⟨y, hy, hyi, _⟩ := kx.1 hi
        obtain ⟨m, hm, hmy⟩ := (hdn y).1 hy
        have : (T m).x.i = (T j).x.i := by rw [hmy, hyi]; rw [yB] at e; unfold dL at e; omega
        have := A.inj m j (by omega) hj this
        omega
      have hnp : dL rb T j ∉ (T k).pl := fun hp => tj hgk (hw.pout _ hnA hp).live.1
      rw [hw.kout _ hnA hnp]
      have hμ := un' j hj (later j hj hkj (by omega))
      exact Classical.byContradiction fun hng => by
        obtain ⟨m, hm⟩ := (HB.c8 (dL rb T j)).some hng
        rw [hμ] at hm; cases hm
  · rcases hid b hb with h | h | h
    · exact I.ids b h
    · exact .inr (by rw [h]; exact Nat.le_add_right _ _)
    · refine .inr ?_
      rw [hw.anx] at h
      have := (A.vP hk).2
      omega
end
end Go.Proofs.YtbamejikafhenaaDoor.Ev
