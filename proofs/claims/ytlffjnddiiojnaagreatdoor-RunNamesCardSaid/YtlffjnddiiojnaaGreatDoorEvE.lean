import Derived.Test.YtlffjnddiiojnaaGreatDoorEvD
/- Slots: where they stand, how they are written. -/
namespace Go.Proofs.YtlffjnddiiojnaaGreatDoor.Ev
section
variable {C : Cx}
/-- Slots as values. -/
noncomputable def sig (C : Cx) (g : G) (sk : Row) (fr : Fr) (t : Nat) : AV := sv g.d (look C g t) sk fr
/-- What is known of where slots stand. -/
structure GInv (C : Cx) (g : G) : Prop where
  nv : ∀ e ∈ g.m, isVar C e.1 = false
  st : ∀ e ∈ g.m, ∀ l, e.2 = .s l → l < g.d
  nd : (g.m.map (·.1)).Nodup
theorem GInv.e : GInv C .e := ⟨fun _ h => (by cases h), fun _ h => (by cases h), List.nodup_nil⟩
noncomputable def lookL (l : List (Nat × Src)) (z : Src) (t : Nat) : Src := List.rec (motive := fun _ => Src) z (fun a _ ih => Bool.rec (motive := fun _ => Src) ih a.2 (Nat.beq a.1 t)) l
theorem look_eq (g : G) (t : Nat) : look C g t = lookL g.m (idxOf t C.vars 0) t := rfl
theorem lookL_cons (a : Nat × Src) (l : List (Nat × Src)) (z : Src) (t : Nat) : lookL (a :: l) z t = if a.1 = t then a.2 else lookL l z t := by
  show (Bool.rec (motive := fun _ => Src) (lookL l z t) a.2 (Nat.beq a.1 t) : Src) = _
  rw [bcase]; simp only [beqN]
theorem isVar_eq (t : Nat) : isVar C t = true ↔ t ∈ C.vars := by
  unfold isVar
  induction C.vars with
  | nil => simp
  | cons a l ih =>
    show (Bool.rec (motive := fun _ => Bool) _ true (Nat.beq a t) : Bool) = true ↔ _
    rw [bcase]
    by_cases e : a = t
    · subst e; simp
    · rw [if_neg (by rw [beqN]; exact e), ih, List.mem_cons]
      exact ⟨.inr, fun h => h.resolve_left fun h => e h.symm⟩
theorem idxOf_cons (a : Nat) (l : List Nat) (t i : Nat) : idxOf t (a :: l) i = if a = t then .f i else idxOf t l (i + 1) := by
  show (Bool.rec (motive := fun _ => Src) (idxOf t l (Nat.succ i)) (.f i) (Nat.beq a t) : Src) = _
  rw [bcase]; simp only [beqN]
theorem idxOf_no : ∀ {l : List Nat} {t i : Nat}, t ∉ l → idxOf t l i = .no
  | [], _, _, _ => rfl
  | a :: l, t, i, h => by
    rw [idxOf_cons, if_neg (by rintro rfl; exact h (List.mem_cons_self ..))]
    exact idxOf_no fun hm => h (List.mem_cons_of_mem _ hm)
theorem idxOf_mem : ∀ {l : List Nat} {t i : Nat}, t ∈ l → ∃ j, idxOf t l i = .f j ∧ i ≤ j
  | a :: l, t, i, h => by
    rw [idxOf_cons]
    by_cases e : a = t
    · rw [if_pos e]; exact ⟨i, rfl, Nat.le_refl _⟩
    · rw [if_neg e]
      obtain ⟨j, h1, h2⟩ := idxOf_mem (i := i + 1) ((List.mem_cons.1 h).resolve_left fun q => e q.symm)
      exact ⟨j, h1, by omega⟩
theorem idxOf_f {l : List Nat} {t i : Nat} : (∃ j, idxOf t l i = .f j) ∨ idxOf t l i = .no := by
  by_cases h : t ∈ l
  · obtain ⟨j, h, _⟩ := idxOf_mem (i := i) h; exact .inl ⟨j, h⟩
  · exact .inr (idxOf_no h)
theorem idxOf_ge : ∀ {l : List Nat} {t i j : Nat}, idxOf t l i = .f j → i ≤ j
  | [], _, _, _, h => by cases h
  | a :: l, t, i, j, h => by
    rw [idxOf_cons] at h
    split at h
    · cases h; exact Nat.le_refl _
    · have := idxOf_ge h; omega
theorem idxOf_inj : ∀ {l : List Nat} {t u i j : Nat}, idxOf t l i = .f j → idxOf u l i = .f j → t = u
  | [], _, _, _, _, h, _ => by cases h
  | a :: l, t, u, i, j, h1, h2 => by
    rw [idxOf_cons] at h1 h2
    split at h1
    · rename_i e1
      split at h2
      · rename_i e2; exact e1.symm.trans e2
      · cases h1; have := idxOf_ge h2; omega
    · split at h2
      · cases h2; have := idxOf_ge h1; omega
      · exact idxOf_inj h1 h2
theorem idxOf_var {t j : Nat} (h : idxOf t C.vars 0 = .f j) : isVar C t = true := by
  rw [isVar_eq]
  exact Classical.byContradiction fun hn => by rw [idxOf_no hn] at h; cases h
theorem dropKey_cons (d : Nat) (a : Nat × Src) (l : List (Nat × Src)) : dropKey d (a :: l) = if a.1 = d then dropKey d l else a :: dropKey d l := by
  show (Bool.rec (motive := fun _ => List (Nat × Src)) (a :: dropKey d l) (dropKey d l) (Nat.beq a.1 d) : List (Nat × Src)) = _
  rw [bcase]; simp only [beqN]
theorem dropKey_sub {d : Nat} : ∀ {l : List (Nat × Src)} {e : Nat × Src}, e ∈ dropKey d l → e ∈ l ∧ e.1 ≠ d
  | [], _, h => by cases h
  | a :: l, e, h => by
    rw [dropKey_cons] at h
    split at h
    · obtain ⟨h1, h2⟩ := dropKey_sub h; exact ⟨List.mem_cons_of_mem _ h1, h2⟩
    · rcases List.mem_cons.1 h with rfl | h
      · exact ⟨List.mem_cons_self .., by assumption⟩
      · obtain ⟨h1, h2⟩ := dropKey_sub h; exact ⟨List.mem_cons_of_mem _ h1, h2⟩
theorem dropKey_sublist (d : Nat) : ∀ (l : List (Nat × Src)), (dropKey d l).Sublist l
  | [] => List.Sublist.slnil
  | a :: l => by
    rw [dropKey_cons]
    split
    · exact (dropKey_sublist d l).cons _
    · exact (dropKey_sublist d l).cons_cons _
theorem dropKey_look {d t : Nat} (h : t ≠ d) (z : Src) : ∀ (l : List (Nat × Src)), lookL (dropKey d l) z t = lookL l z t
  | [] => rfl
  | a :: l => by
    rw [dropKey_cons, lookL_cons]
    by_cases e : a.1 = d
    · rw [if_pos e, if_neg (fun q => h (q.symm.trans e)), dropKey_look h z l]
    · rw [if_neg e, lookL_cons, dropKey_look h z l]
/-- A slot's new place. -/
theorem GInv.push {g : G} (h : GInv C g) {d : Nat} {s : Src} {m : Nat} (hd : isVar C d = false) (hs : ∀ l, s = .s l → l < m) (hm : g.d ≤ m) : GInv C ⟨m, (d, s) :: dropKey d g.m⟩ where
  nv := fun e he => by
    rcases List.mem_cons.1 he with rfl | he
    · exact hd
    · exact h.nv e (dropKey_sub he).1
  st := fun e he l hl => by
    rcases List.mem_cons.1 he with rfl | he
    · exact hs l hl
    · exact Nat.lt_of_lt_of_le (h.st e (dropKey_sub he).1 l hl) hm
  nd := by
    show (d :: (dropKey d g.m).map (·.1)).Nodup
    rw [List.nodup_cons]
    refine ⟨fun hm => ?_, h.nd.sublist ((dropKey_sublist d g.m).map _)⟩
    obtain ⟨e, he, rfl⟩ := List.mem_map.1 hm
    exact (dropKey_sub he).2 rfl
theorem look_push {g : G} {d : Nat} {s : Src} {m : Nat} (t : Nat) : look C ⟨m, (d, s) :: dropKey d g.m⟩ t = if t = d then s else look C g t := by
  rw [look_eq, look_eq, lookL_cons]
  by_cases e : t = d
  · rw [if_pos e, if_pos e.symm]
  · rw [if_neg e, if_neg (Ne.symm e), dropKey_look e]
theorem lookL_mem {z : Src} {t : Nat} : ∀ {l : List (Nat × Src)}, (∃ e ∈ l, e.1 = t ∧ lookL l z t = e.2) ∨ ((∀ e ∈ l, e.1 ≠ t) ∧ lookL l z t = z)
  | [] => .inr ⟨fun _ h => (by cases h), rfl⟩
  | a :: l => by
    rw [lookL_cons]
    by_cases e : a.1 = t
    · rw [if_pos e]; exact .inl ⟨a, List.mem_cons_self .., e, rfl⟩
    · rw [if_neg e]
      rcases lookL_mem (z := z) (t := t) (l := l) with ⟨x, h1, h2⟩ | ⟨h1, h2⟩
      · exact .inl ⟨x, List.mem_cons_of_mem _ h1, h2⟩
      · exact .inr ⟨fun x hx => (List.mem_cons.1 hx).elim (fun q => q ▸ e) (h1 x), h2⟩
theorem look_st {g : G} (h : GInv C g) {t l : Nat} (hl : look C g t = .s l) : l < g.d := by
  rw [look_eq] at hl
  rcases lookL_mem (z := idxOf t C.vars 0) (t := t) (l := g.m) with ⟨e, h1, _, h3⟩ | ⟨_, h2⟩
  · rw [h3] at hl; exact h.st e h1 l hl
  · rw [h2] at hl
    rcases idxOf_f (l := C.vars) (t := t) (i := 0) with ⟨j, hj⟩ | hj <;> rw [hj] at hl <;> cases hl
open Classical in
/-- Purged of a variable. -/
theorem purge_cons (d i : Nat) (a : Nat × Src) (l : List (Nat × Src)) : purge d i (a :: l) = if a.1 = d ∨ a.2 = .f i ∨ a.2 = .no then purge d i l else a :: purge d i l := by
  show (Bool.rec (motive := fun _ => List (Nat × Src)) (Src.rec (motive := fun _ => List (Nat × Src)) (fun _ => a :: purge d i l) (fun _ => a :: purge d i l) (fun j => Bool.rec (motive := fun _ => List (Nat × Src)) (a :: purge d i l) (purge d i l) (Nat.beq j i)) (purge d i l) a.2) (purge d i l) (Nat.beq a.1 d) : List (Nat × Src)) = _
  rw [bcase]
  simp only [beqN]
  by_cases e : a.1 = d
  · rw [if_pos e, if_pos (.inl e)]
  · rw [if_neg e]
    obtain ⟨x, s⟩ := a
    cases s with
    | c v => simp [e]
    | s l => simp [e]
    | f j =>
      show (Bool.rec (motive := fun _ => List (Nat × Src)) _ _ (Nat.beq j i) : List (Nat × Src)) = _
      rw [bcase]
      simp only [beqN]
      by_cases e2 : j = i
      · rw [if_pos e2]; simp [e2]
      · rw [if_neg e2]; simp [e, e2]
    | no => simp [e]
theorem purge_sub {d i : Nat} : ∀ {l : List (Nat × Src)} {e : Nat × Src}, e ∈ purge d i l → e ∈ l ∧ e.1 ≠ d ∧ e.2 ≠ .f i ∧ e.2 ≠ .no
  | [], _, h => by cases h
  | a :: l, e, h => by
    rw [purge_cons] at h
    split at h
    · obtain ⟨h1, h2⟩ := purge_sub h; exact ⟨List.mem_cons_of_mem _ h1, h2⟩
    · rename_i hn
      rcases List.mem_cons.1 h with rfl | h
      · exact ⟨List.mem_cons_self .., fun q => hn (.inl q), fun q => hn (.inr (.inl q)), fun q => hn (.inr (.inr q))⟩
      · obtain ⟨h1, h2⟩ := purge_sub h; exact ⟨List.mem_cons_of_mem _ h1, h2⟩
theorem purge_sublist (d i : Nat) : ∀ (l : List (Nat × Src)), (purge d i l).Sublist l
  | [] => List.Sublist.slnil
  | a :: l => by
    rw [purge_cons]
    split
    · exact (purge_sublist d i l).cons _
    · exact (purge_sublist d i l).cons_cons _
theorem GInv.purge {g : G} (h : GInv C g) (d i : Nat) : GInv C ⟨g.d, Go.Proofs.YtlffjnddiiojnaaGreatDoor.Ev.purge d i g.m⟩ where
  nv := fun e he => h.nv e (purge_sub he).1
  st := fun e he l hl => h.st e (purge_sub he).1 l hl
  nd := h.nd.sublist ((purge_sublist d i g.m).map _)
/-- The list's first place of a slot is its only one. -/
theorem look_only {l : List (Nat × Src)} {z : Src} {t : Nat} (hn : (l.map (·.1)).Nodup) {e : Nat × Src} (he : e ∈ l) (ht : e.1 = t) : lookL l z t = e.2 := by
  induction l with
  | nil => cases he
  | cons a l ih =>
    rw [List.map_cons, List.nodup_cons] at hn
    rw [lookL_cons]
    rcases List.mem_cons.1 he with rfl | he
    · rw [if_pos ht]
    · rw [if_neg fun q => hn.1 (by rw [q, ← ht]; exact List.mem_map.2 ⟨e, he, rfl⟩)]
      exact ih hn.2 he
/-- A variable that was written. -/
theorem look_purge {g : G} (h : GInv C g) {d i : Nat} (hd : idxOf d C.vars 0 = .f i) (t : Nat) : (t = d → look C ⟨g.d, Go.Proofs.YtlffjnddiiojnaaGreatDoor.Ev.purge d i g.m⟩ t = .f i) ∧ (t ≠ d → look C ⟨g.d, Go.Proofs.YtlffjnddiiojnaaGreatDoor.Ev.purge d i g.m⟩ t = .no ∨ (look C ⟨g.d, Go.Proofs.YtlffjnddiiojnaaGreatDoor.Ev.purge d i g.m⟩ t = look C g t ∧ look C g t ≠ .f i)) := by
  rw [look_eq, look_eq]
  show (t = d → lookL (Go.Proofs.YtlffjnddiiojnaaGreatDoor.Ev.purge d i g.m) (idxOf t C.vars 0) t = .f i) ∧ (t ≠ d → lookL (Go.Proofs.YtlffjnddiiojnaaGreatDoor.Ev.purge d i g.m) (idxOf t C.vars 0) t = .no ∨ (lookL (Go.Proofs.YtlffjnddiiojnaaGreatDoor.Ev.purge d i g.m) (idxOf t C.vars 0) t = lookL g.m (idxOf t C.vars 0) t ∧ lookL g.m (idxOf t C.vars 0) t ≠ .f i))
  rcases lookL_mem (z := idxOf t C.vars 0) (t := t) (l := Go.Proofs.YtlffjnddiiojnaaGreatDoor.Ev.purge d i g.m) with ⟨e, h1, h2, h3⟩ | ⟨h1, h2⟩
  · obtain ⟨q1, q2, q3, q4⟩ := purge_sub h1
    refine ⟨fun e' => absurd (h2.trans e') q2, fun _ => .inr ?_⟩
    rw [h3, look_only h.nd q1 h2]
    exact ⟨rfl, q3⟩
  · refine ⟨fun e => by rw [h2, e]; exact hd, fun e => ?_⟩
    rw [h2]
    rcases idxOf_f (l := C.vars) (t := t) (i := 0) with ⟨j, hj⟩ | hj
    · right
      have hnone : ∀ e ∈ g.m, e.1 ≠ t := fun e he q => by
        have := h.nv e he
        rw [q, idxOf_var hj] at this; cases this
      rcases lookL_mem (z := idxOf t C.vars 0) (t := t) (l := g.m) with ⟨x, p1, p2, _⟩ | ⟨_, p2⟩
      · exact absurd p2 (hnone x p1)
      · rw [p2]
        refine ⟨rfl, fun q => e ?_⟩
        exact idxOf_inj q hd
    · exact .inl hj
/-- How slots change: the written one has the value, others stay, or are not known any more. -/
def SlStep (σ σ' : Nat → AV) (dst : Option Nat) (v : AV) : Prop := ∀ t, (dst = some t → σ' t = v) ∧ (dst ≠ some t → σ' t = σ t ∨ σ' t = .undef)
theorem sv_no (d : Nat) (sk : Row) (fr : Fr) : sv d .no sk fr = .undef := rfl
/-- What comes out of the writing of a result. -/
theorem dst_out {R : Res} (hR : R ≠ .fail) {g : G} (hg : GInv C g) {dt : Option Nat} {k : G → Sm} {sk : Row} {fr : Fr} {hp : Hp} {v : AV} (h : (dst C g dt).p.f (k (dst C g dt).g) sk fr hp v = R) :
    ∃ g' sk' fr', (k g').run sk' fr' hp = R ∧ GInv C g' ∧ SlStep (sig C g sk fr) (sig C g' sk' fr') dt v ∧ ∀ t, dt = some t → t < C.nt := by
  cases dt with
  | none => exact ⟨g, sk, fr, h, hg, fun t => ⟨fun e => (by cases e), fun _ => .inl rfl⟩, fun t e => (by cases e)⟩
  | some d =>
    have e0 : dst C g (some d) = Bool.rec (motive := fun _ => PG) ⟨ptFail, g⟩ (dst.dstOf C g d) (Nat.ble (Nat.succ d) C.nt) := rfl
    rw [e0] at h
    cases hb : Nat.ble (Nat.succ d) C.nt with
    | false => rw [hb] at h; exact fail_out hR h
    | true =>
      rw [hb] at h
      rw [bleN] at hb
      have h' : (dst.dstOf C g d).p.f (k (dst.dstOf C g d).g) sk fr hp v = R := h
      unfold dst.dstOf at h'
      cases hi : idxOf d C.vars 0 with
      | f i =>
        rw [hi] at h'
        obtain ⟨fr', hf, h2⟩ := fset_out hR i (k := fun fr => (k ⟨g.d, purge d i g.m⟩).run sk fr hp) h'
        refine ⟨_, sk, fr', h2, hg.purge d i, fun t => ⟨fun e => ?_, fun e => ?_⟩, fun t e => by cases e; exact hb⟩
        · cases e
          show sv g.d (look C ⟨g.d, purge d i g.m⟩ d) sk fr' = v
          rw [(look_purge hg hi d).1 rfl]
          show fr'.at i = v
          rw [hf, if_pos rfl]
        · show sv g.d (look C ⟨g.d, purge d i g.m⟩ t) sk fr' = sv g.d (look C g t) sk fr ∨ sv g.d (look C ⟨g.d, purge d i g.m⟩ t) sk fr' = .undef
          rcases (look_purge hg hi t).2 (fun q => e (by rw [q])) with q | ⟨q1, q2⟩
          · rw [q]; exact .inr rfl
          · rw [q1]
            left
            cases hl : look C g t with
            | f j =>
              show fr'.at j = fr.at j
              rw [hf, if_neg]
              intro ej; rw [ej] at hl; exact q2 hl
            | _ => rfl
      | _ =>
        rw [hi] at h'
        have hnv : isVar C d = false := by
          cases hv : isVar C d with
          | false => rfl
          | true =>
            obtain ⟨j, hj, _⟩ := idxOf_mem (i := 0) ((isVar_eq (C := C) d).1 hv)
            rw [hj] at hi; cases hi
        refine ⟨⟨Nat.succ g.d, (d, .s g.d) :: dropKey d g.m⟩, .nd v .lf sk, fr, h', hg.push hnv (fun l e => by cases e; exact Nat.lt_succ_self _) (Nat.le_succ _), fun t => ⟨fun e => ?_, fun e => .inl ?_⟩, fun t e => by cases e; exact hb⟩
        · cases e
          show sv (Nat.succ g.d) (look C ⟨Nat.succ g.d, (d, .s g.d) :: dropKey d g.m⟩ d) (.nd v .lf sk) fr = v
          rw [look_push, if_pos rfl]
          show nth (.nd v .lf sk) (Nat.sub (Nat.sub (Nat.succ g.d) 1) g.d) = v
          have : Nat.sub (Nat.sub (Nat.succ g.d) 1) g.d = 0 := by show g.d + 1 - 1 - g.d = 0; omega
          rw [this]; rfl
        · show sv (Nat.succ g.d) (look C ⟨Nat.succ g.d, (d, .s g.d) :: dropKey d g.m⟩ t) (.nd v .lf sk) fr = sv g.d (look C g t) sk fr
          rw [look_push, if_neg (fun q => e (by rw [q]))]
          cases hl : look C g t with
          | s l =>
            have hlt := look_st hg hl
            show nth (.nd v .lf sk) (Nat.sub (Nat.sub (Nat.succ g.d) 1) l) = nth sk (Nat.sub (Nat.sub g.d 1) l)
            have : Nat.sub (Nat.sub (Nat.succ g.d) 1) l = Nat.sub (Nat.sub g.d 1) l + 1 := by show g.d + 1 - 1 - l = g.d - 1 - l + 1; omega
            rw [this]; rfl
          | _ => rfl
/-- A copy that needs no code. -/
theorem alias_out {g : G} (hg : GInv C g) {o : Oper} {rest : List Oper} {a : Nat × Src} (h : alias C g o rest = some a) (sk : Row) (fr : Fr) :
    ∃ x, (o.op = .move x ∨ o.op = .assign x) ∧ o.guard = none ∧ o.dst = some a.1 ∧ GInv C ⟨g.d, a :: dropKey a.1 g.m⟩ ∧ SlStep (sig C g sk fr) (sig C ⟨g.d, a :: dropKey a.1 g.m⟩ sk fr) o.dst (ov C g sk fr x) := by
  have fin : ∀ (d : Nat) (x : Operand) (b : Nat × Src), isVar C d = false → (if isVar C d then none else
    (match src C g x with
     | .c v => some (d, .c v)
     | .s l => some (d, .s l)
     | .f i => (match x with | .tmp t => if writes t rest then none else some (d, .f i) | _ => none)
     | .no => none)) = some b → b.1 = d ∧ b.2 = src C g x := by
    intro d x b hv h
    rw [hv] at h
    simp only [Bool.false_eq_true, if_false] at h
    cases hs : src C g x with
    | c v => rw [hs] at h; cases h; exact ⟨rfl, rfl⟩
    | s l => rw [hs] at h; cases h; exact ⟨rfl, rfl⟩
    | f i =>
      rw [hs] at h
      cases x with
      | tmp t =>
        simp only at h
        split at h
        · cases h
        · cases h; exact ⟨rfl, rfl⟩
      | _ => cases h
    | no => rw [hs] at h; cases h
  have fin2 : ∀ (d : Nat) (x : Operand), (o.op = .move x ∨ o.op = .assign x) → o.guard = none → o.dst = some d → (if isVar C d then none else
    (match src C g x with
     | .c v => some (d, .c v)
     | .s l => some (d, .s l)
     | .f i => (match x with | .tmp t => if writes t rest then none else some (d, .f i) | _ => none)
     | .no => none)) = some a → ∃ x, (o.op = .move x ∨ o.op = .assign x) ∧ o.guard = none ∧ o.dst = some a.1 ∧ GInv C ⟨g.d, a :: dropKey a.1 g.m⟩ ∧ SlStep (sig C g sk fr) (sig C ⟨g.d, a :: dropKey a.1 g.m⟩ sk fr) o.dst (ov C g sk fr x) := by
    intro d x hop hgd hdst h
    have hv : isVar C d = false := by
      cases hv : isVar C d with
      | false => rfl
      | true => rw [hv] at h; simp at h
    obtain ⟨q1, q2⟩ := fin d x a hv h
    obtain ⟨a1, a2⟩ := a
    simp only at q1 q2
    subst q1; subst q2
    refine ⟨x, hop, hgd, hdst, hg.push hv (fun l e => ?_) (Nat.le_refl _), fun t => ⟨fun e => ?_, fun e => .inl ?_⟩⟩
    · cases x with
      | tmp t => exact look_st hg e
      | const v => cases e
      | func f => cases e
      | global n =>
        exfalso
        have e' : (List.rec (motive := fun _ => Src) .no (fun a _ ih => Bool.rec (motive := fun _ => Src) ih (.c a.2) (Nat.beq a.1 n)) C.gl : Src) = .s l := e
        revert e'
        generalize C.gl = gl
        intro e'
        induction gl with
        | nil => cases e'
        | cons y r ih =>
          have e2 : (Bool.rec (motive := fun _ => Src) (List.rec (motive := fun _ => Src) .no (fun a _ ih => Bool.rec (motive := fun _ => Src) ih (.c a.2) (Nat.beq a.1 n)) r) (.c y.2) (Nat.beq y.1 n) : Src) = .s l := e'
          rw [bcase] at e2
          split at e2
          · cases e2
          · exact ih e2
    · rw [hdst] at e; cases e
      show sv g.d (look C ⟨g.d, (a1, src C g x) :: dropKey a1 g.m⟩ a1) sk fr = ov C g sk fr x
      rw [look_push, if_pos rfl]; rfl
    · show sv g.d (look C ⟨g.d, (a1, src C g x) :: dropKey a1 g.m⟩ t) sk fr = sv g.d (look C g t) sk fr
      rw [look_push, if_neg (fun q => e (by rw [hdst, q]))]
  unfold alias at h
  split at h
  · rename_i d x hgd hdst hop
    exact fin2 d x (.inl hop) hgd hdst h
  · rename_i d x hgd hdst hop
    exact fin2 d x (.inr hop) hgd hdst h
  · cases h
end
end Go.Proofs.YtlffjnddiiojnaaGreatDoor.Ev

/- The state; one operation of a region; regions in their order. -/
namespace Go.Proofs.YtlffjnddiiojnaaGreatDoor.Ev
/-- What lies behind: the heap's size at the beginning; the deferred calls of the function itself, which are no marks. -/
structure Base where
  n : Nat
  D : List Deferred
  free : ∀ d ∈ D, ∀ r, d.target ≠ .collected r
def Base.of (n : Nat) : Base := ⟨n, [], fun _ h => (by cases h)⟩
def Base.at (s : Base) (n : Nat) : Base := ⟨n, s.D, s.free⟩
/-- Marks of loops over functions among the deferred calls: their blocks are as they were laid. -/
def MarksL (s0 : Base) (h : Hp) (μ : Mu) (F : Nat → Prop) (w : World) : List Deferred → Prop
  | [] => True
  | d :: ds => (∃ r, d.target = .collected r ∧ s0.n ≤ r ∧ r < w.heap.size ∧ w.heap[r]? = some (.deferred (some [])) ∧ ¬ WB h μ r ∧ ¬ F r ∧ ∀ d' ∈ ds, d'.target ≠ .collected r) ∧ MarksL s0 h μ F w ds
theorem MarksL.ext {s0 : Base} {h h' : Hp} {μ μ' : Mu} {F F' : Nat → Prop} {w w' : World} (e : Ext μ F h w μ' F' h' w') : ∀ {ds : List Deferred}, MarksL s0 h μ F w ds → MarksL s0 h' μ' F' w' ds
  | [], _ => trivial
  | d :: ds, ⟨⟨r, h1, h2, h3, h4, h5, h6, h7⟩, hr⟩ => by
    refine ⟨⟨r, h1, h2, Nat.lt_of_lt_of_le h3 e.size, (e.keep r h3 fun ho => h5 ho.wb).trans h4, fun hw => ?_, fun hF => ?_, h7⟩, hr.ext e⟩
    · rcases e.wb r hw with h | h
      · omega
      · exact h5 h
    · rcases e.newF r hF with h | h | h
      · exact h6 h
      · omega
      · exact h5 h
def Marks (s0 : Base) (h : Hp) (μ : Mu) (F : Nat → Prop) (w : World) (ds : List Deferred) : Prop := ∃ ms, ds = ms ++ s0.D ∧ MarksL s0 h μ F w ms
theorem Marks.ext {s0 : Base} {h h' : Hp} {μ μ' : Mu} {F F' : Nat → Prop} {w w' : World} (e : Ext μ F h w μ' F' h' w') {ds : List Deferred} : Marks s0 h μ F w ds → Marks s0 h' μ' F' w' ds := fun ⟨ms, e1, e2⟩ => ⟨ms, e1, e2.ext e⟩
structure St (C : Cx) (V : Env) (s0 : Base) (g : G) (sk : Row) (fr : Fr) (hp : Hp) (μ : Mu) (F : Nat → Prop) (a : Act) (w : World) : Prop where
  gi : GInv C g
  sl : ∀ t, CRel w F μ (sig C g sk fr t) (a.tmps.getD t undef)
  h : HRel V μ F hp w
  nt : C.nt ≤ a.tmps.size
  df : Marks s0 hp μ F w a.defers
/-- The heap, its region's first number aside. -/
def Hp.rbs (h : Hp) (r : Nat) : Hp := ⟨h.t, h.nx, h.pr, r⟩
/-- How a run of code goes on to another state: new numbers are free ones. -/
structure ExtC (μ : Mu) (F : Nat → Prop) (h : Hp) (w : World) (μ' : Mu) (F' : Nat → Prop) (h' : Hp) (w' : World) : Prop where
  ext : Ext μ F h w μ' F' (h'.rbs h.rb) w'
  ids : ∀ b, μ' b ≠ none → μ b ≠ none ∨ h.nx ≤ b
theorem Ext.rbs {μ μ' : Mu} {F F' : Nat → Prop} {h h' : Hp} {w w' : World} {r' : Nat} (e : Ext μ F h w μ' F' (h'.rbs r') w') (q : Nat) : Ext μ F (h.rbs q) w μ' F' (h'.rbs q) w' :=
  ⟨e.mu, e.fr, e.size, e.keep, e.own, e.wb, e.newF, e.newMu, e.nx, e.pr, rfl, e.io⟩
theorem Ext.rbs' {μ μ' : Mu} {F F' : Nat → Prop} {h h' : Hp} {w w' : World} (e : Ext μ F h w μ' F' h' w') (q : Nat) : Ext μ F (h.rbs q) w μ' F' (h'.rbs q) w' :=
  ⟨e.mu, e.fr, e.size, e.keep, e.own, e.wb, e.newF, e.newMu, e.nx, e.pr, rfl, e.io⟩
theorem ExtC.refl (μ : Mu) (F : Nat → Prop) (h : Hp) (w : World) : ExtC μ F h w μ F h w := ⟨Ext.refl μ F h w, fun _ h => .inl h⟩
theorem ExtC.trans {μ μ₁ μ₂ : Mu} {F F₁ F₂ : Nat → Prop} {h h₁ h₂ : Hp} {w w₁ w₂ : World} (a : ExtC μ F h w μ₁ F₁ h₁ w₁) (b : ExtC μ₁ F₁ h₁ w₁ μ₂ F₂ h₂ w₂) : ExtC μ F h w μ₂ F₂ h₂ w₂ :=
  ⟨a.ext.trans (b.ext.rbs (r' := h₁.rb) h.rb), fun x hx => (b.ids x hx).elim (a.ids x) fun h => .inr (Nat.le_trans a.ext.nx h)⟩
theorem ExtC.of {μ μ' : Mu} {F F' : Nat → Prop} {h h' : Hp} {w w' : World} (e : Ext μ F h w μ' F' h' w') (i : ∀ b, μ' b ≠ none → μ b ≠ none ∨ h.nx ≤ b) : ExtC μ F h w μ' F' h' w' :=
  ⟨⟨e.mu, e.fr, e.size, e.keep, e.own, e.wb, e.newF, e.newMu, e.nx, e.pr, rfl, e.io⟩, i⟩
theorem HRel.rbs {V : Env} {μ : Mu} {F : Nat → Prop} {h : Hp} {w : World} (H : HRel V μ F h w) (r : Nat) : HRel V μ F (h.rbs r) w := ⟨H.blk, H.excl, H.dom, H.imm, H.glo⟩
theorem HRel.rbs' {V : Env} {μ : Mu} {F : Nat → Prop} {h : Hp} {w : World} {r : Nat} (H : HRel V μ F (h.rbs r) w) : HRel V μ F h w := ⟨H.blk, H.excl, H.dom, H.imm, H.glo⟩
theorem MarksL.rbs {s0 : Base} {h : Hp} {μ : Mu} {F : Nat → Prop} {w : World} {r : Nat} : ∀ {ds : List Deferred}, MarksL s0 (h.rbs r) μ F w ds → MarksL s0 h μ F w ds
  | [], _ => trivial
  | _ :: _, ⟨h1, h2⟩ => ⟨h1, h2.rbs⟩
theorem Marks.rbs {s0 : Base} {h : Hp} {μ : Mu} {F : Nat → Prop} {w : World} {r : Nat} {ds : List Deferred} : Marks s0 (h.rbs r) μ F w ds → Marks s0 h μ F w ds := fun ⟨ms, e1, e2⟩ => ⟨ms, e1, e2.rbs⟩
theorem CRel.extC {V : Env} {μ μ' : Mu} {F F' : Nat → Prop} {h h' : Hp} {w w' : World} (H : HRel V μ F h w) (e : ExtC μ F h w μ' F' h' w') {a : AV} {v : Value} (hc : CRel w F μ a v) : CRel w' F' μ' a v := hc.ext H e.ext
/-- Does the guard say that the operation is run? -/
def Wants (O : Operand → AV) (ops : Array Oper) (o : Oper) (b : Bool) : Prop := ∀ {w : World} {F : Nat → Prop} {μ : Mu} {a : Act}, (∀ j want t, o.guard = some (j, want) → (ops[j]?).bind (·.dst) = some t → CRel w F μ (O (.tmp t)) (a.tmps.getD t undef)) → Region.wanted o (yielded ops a.tmps) = b
/-- One operation of a region, run or not. -/
inductive OpStep (V : Env) (ops : Array Oper) (O : Operand → AV) (o : Oper) (id : Nat) (hp : Hp) (v : AV) (hp' : Hp) : Nat → Prop
  | run {kd : Nat} (hw : Wants O ops o true) (hd : ∀ c, o.op ≠ .defer c) (k : Knd V O o id hp v hp' kd) : OpStep V ops O o id hp v hp' kd
  | skip (hw : Wants O ops o false) (hv : v = undefT) (hh : hp' = hp) : OpStep V ops O o id hp v hp' 0
theorem OpStep.wp {V : Env} {ops : Array Oper} {O : Operand → AV} {o : Oper} {id : Nat} {hp : Hp} {v : AV} {hp' : Hp} {kd : Nat} (s : OpStep V ops O o id hp v hp' kd) {i : Nat} (hi : ops[i]? = some o) {w : World} {F : Nat → Prop} {μ : Mu} {a : Act} {r : Option Nat} {n : Nat} {Q : Exit → Act → World → Prop} {K : Act → World → Prop}
    (hO : ORel w F μ O o.op.operands.toList a.eval) (hG : ∀ j want t, o.guard = some (j, want) → (ops[j]?).bind (·.dst) = some t → CRel w F μ (O (.tmp t)) (a.tmps.getD t undef)) (hid : μ id = none) (H : HRel V μ F hp w)
    (hK : ∀ x w' μ' F', CRel w' F' μ' v x → NewIds id hp μ μ' → HRel V μ' F' hp' w' → Ext μ F hp w μ' F' hp' w' → K (a.put o.dst x) w') : wpOpIn (Wf r) n V.P ops Q i K a w := by
  unfold wpOpIn
  rw [hi]
  cases s with
  | run hw hd k =>
    simp only [hw hG, if_true]
    exact k.wp hd hO hid H hK
  | skip hw hv hh =>
    subst hv; subst hh
    simp only [hw hG, Bool.false_eq_true, if_false]
    exact ⟨fun _ _ => trivial, hK undef w μ F rel_undef (NewIds.refl _ _ _) H (Ext.refl _ _ _ _)⟩
theorem getD_bool {t : Array Value} {i : Nat} {b : Bool} (h : t.getD i undef = .bool b) : t[i]? = some (.bool b) := by
  rw [Array.getD_eq_getD_getElem?] at h
  cases hx : t[i]? with
  | none => rw [hx] at h; cases h
  | some v => rw [hx] at h; exact congrArg some h
section
variable {C : Cx} {R : Res} (hR : R ≠ .fail) {ops : Array Oper}
include hR
theorem guarded_out {g : G} {P : Pt} {k s : Sm} {sk : Row} {fr : Fr} {hp : Hp} {o : Oper} {j : Nat} {want : Bool} (hg : o.guard = some (j, want)) (h : (guarded C g P k s ((ops[j]?).bind (·.dst)) want).run sk fr hp = R) :
    (Wants (ov C g sk fr) ops o true ∧ s.run sk fr hp = R) ∨ (Wants (ov C g sk fr) ops o false ∧ P.f k sk fr hp undefT = R) := by
  cases ht : (ops[j]?).bind (·.dst) with
  | none => rw [ht] at h; exact fail_out hR h
  | some t =>
    rw [ht] at h
    obtain ⟨h1, _, _⟩ := mkRd_out hR (k := fun v => v.on (fun _ _ => .fail) (fun b => when (bxor b want) (P.f k sk fr hp undefT) (s.run sk fr hp)) (fun _ _ => .fail) (fun _ _ => .fail) (fun _ _ _ _ => .fail) (fun _ _ _ _ => .fail) (fun _ _ => .fail) (fun _ _ => P.f k sk fr hp undefT) (fun _ _ _ _ _ => .fail)) h
    have hslot : ov C g sk fr (.tmp t) = sv g.d (look C g t) sk fr := rfl
    have wants : ∀ {b : Bool}, (∀ {w : World} {F : Nat → Prop} {μ : Mu} {u : Value}, CRel w F μ (sv g.d (look C g t) sk fr) u → (∃ y, u = .bool y ∧ (y == want) = b) ∨ ((∀ y, u ≠ .bool y) ∧ b = false)) → Wants (ov C g sk fr) ops o b := by
      intro b hb w F μ a hG
      have hc := hG j want t hg ht
      rw [hslot] at hc
      unfold Region.wanted
      rw [hg]
      simp only
      unfold yielded
      rw [ht]
      simp only [Option.bind_some]
      rcases hb hc with ⟨y, hy, e⟩ | ⟨hy, rfl⟩
      · rw [getD_bool hy]
        simp only
        rw [← e]
        cases y <;> cases want <;> rfl
      · cases hx : a.tmps[t]? with
        | none => rfl
        | some x =>
          have hx2 : a.tmps.getD t undef = x := by rw [Array.getD_eq_getD_getElem?, hx]; rfl
          rw [hx2] at hy
          cases x <;> first | rfl | exact absurd rfl (hy _)
    revert h1 wants
    generalize sv g.d (look C g t) sk fr = v
    intro h1 wants
    cases v with
    | bool b =>
      rcases when_out hR (show when (bxor b want) (P.f k sk fr hp undefT) (s.run sk fr hp) = R from h1) with ⟨e, h2⟩ | ⟨e, h2⟩
      · refine .inr ⟨wants fun hc => .inl ⟨b, inv_bool hc, ?_⟩, h2⟩
        rw [bxor_eq] at e
        cases b <;> cases want <;> simp_all
      · refine .inl ⟨wants fun hc => .inl ⟨b, inv_bool hc, ?_⟩, h2⟩
        rw [bxor_eq] at e
        cases b <;> cases want <;> simp_all
    | tup l n => exact .inr ⟨wants fun hc => .inr ⟨fun y e => (by subst e; cases hc), rfl⟩, h1⟩
    | _ => exact fail_out hR h1
end
theorem wants_none {O : Operand → AV} {ops : Array Oper} {o : Oper} (h : o.guard = none) : Wants O ops o true := fun _ => by unfold Region.wanted; rw [h]
/-- Calls of functions, as operations. -/
def CallsOk (C : Cx) (V : Env) : Prop := ∀ {g : G} {P : Pt} {k : Sm} {R : Res} {sk : Row} {fr : Fr} {hp : Hp} {id : Nat} (o : Oper) (f : Operand) (as : Array Operand) (ts : Array TypeId), R ≠ .fail → o.op = .call ⟨.value f, as, ts⟩ → (cCall C g P k f as).run sk fr hp = R → Out C V g P k sk fr o id hp R
/-- What comes out of one operation of a region. -/
def StepOut (C : Cx) (V : Env) (ops : Array Oper) (g : G) (sk : Row) (fr : Fr) (o : Oper) (id : Nat) (hp : Hp) (k : G → Sm) (R : Res) : Prop :=
  ∃ g' sk' fr' v hp' kd, (k g').run sk' fr' hp' = R ∧ OpStep V ops (ov C g sk fr) o id hp v hp' kd ∧ ClsOk kd (cls C.P o.op) ∧ GInv C g' ∧ SlStep (sig C g sk fr) (sig C g' sk' fr') o.dst v ∧ ∀ t, o.dst = some t → t < C.nt
section
variable {C : Cx} {vs : Vs} {R : Res} (ok : MemOk C.M) (hR : R ≠ .fail) {ops : Array Oper}
theorem alias_step (_ : R ≠ .fail) {g : G} (hg : GInv C g) {o : Oper} {rest : List Oper} {a : Nat × Src} (ha : alias C g o rest = some a) (hnt : a.1 < C.nt) {sk : Row} {fr : Fr} {hp : Hp} {id : Nat} {k : G → Sm} (h : (k ⟨g.d, a :: dropKey a.1 g.m⟩).run sk fr hp = R) : StepOut C (C.env vs) ops g sk fr o id hp k R := by
  obtain ⟨x, hop, hgd, hdst, hgi, hsl⟩ := alias_out hg ha sk fr
  have hd : ∀ c, o.op ≠ .defer c := by rcases hop with e | e <;> rw [e] <;> simp
  refine ⟨_, sk, fr, _, hp, 0, h, .run (wants_none hgd) hd (.pure rfl fun {w F μ ρ} hO => ⟨.value (ρ x), _, ?_, .inl rfl, hO x (by rcases hop with e | e <;> rw [e] <;> simp [Op.operands])⟩), .inl rfl, hgi, hsl, fun t e => by rw [hdst] at e; cases e; exact hnt⟩
  rcases hop with e | e <;> simp only [execOp, e, Sem.run_pure]
include ok hR
theorem op_step {g : G} (hg : GInv C g) {N : NK} {id : Nat} {sk : Row} {fr : Fr} {hp : Hp} {o : Oper} {k : G → Sm} (hrun : Wants (ov C g sk fr) ops o true) (hout : ∀ {P : Pt} {k : Sm}, (denOp C g P N k o.op).run sk fr hp = R → Out C (C.env vs) g P k sk fr o id hp R)
    (h : (denOp C g (dst C g o.dst).p N (k (dst C g o.dst).g) o.op).run sk fr hp = R) : StepOut C (C.env vs) ops g sk fr o id hp k R := by
  have _ := ok
  obtain ⟨v, hp', kd, h1, h2, h3, h4⟩ := hout h
  obtain ⟨g', sk', fr', h5, h6, h7, h8⟩ := dst_out hR hg h1
  exact ⟨g', sk', fr', v, hp', kd, h5, .run hrun h4 h2, h3, h6, h7, h8⟩
theorem skip_step {g : G} (hg : GInv C g) {id : Nat} {sk : Row} {fr : Fr} {hp : Hp} {o : Oper} {k : G → Sm} (hskip : Wants (ov C g sk fr) ops o false)
    (h : (dst C g o.dst).p.f (k (dst C g o.dst).g) sk fr hp undefT = R) : StepOut C (C.env vs) ops g sk fr o id hp k R := by
  have _ := ok
  obtain ⟨g', sk', fr', h5, h6, h7, h8⟩ := dst_out hR hg h
  exact ⟨g', sk', fr', _, hp, 0, h5, .skip hskip rfl rfl, .inl rfl, h6, h7, h8⟩
theorem denG_out (hc : CallsOk C (C.env vs)) {g : G} (hg : GInv C g) {N : NK} {id : Nat} {sk : Row} {fr : Fr} {hp : Hp} (hN : NSpec N hp id) {o : Oper} {rest : List Oper} {k : G → Sm} (h : (denG C ops g N o rest k).run sk fr hp = R) : StepOut C (C.env vs) ops g sk fr o id hp k R := by
  have hout : ∀ {P : Pt} {k : Sm}, (denOp C g P N k o.op).run sk fr hp = R → Out C (C.env vs) g P k sk fr o id hp R := fun h => denOp_out ok hR hN o (fun f as ts hop hh => hc o f as ts hR hop hh) h
  unfold denG at h
  split at h
  · rename_i a ha
    obtain ⟨hb, h'⟩ := iff_out hR h
    rw [bleN] at hb
    exact alias_step hR hg ha hb h'
  · have e : (match dst C g o.dst with
      | ⟨P, g'⟩ => (match o.guard with
        | none => denOp C g P N (k g') o.op
        | some (j, want) => guarded C g P (k g') (denOp C g P N (k g') o.op) ((ops[j]?).bind (·.dst)) want) : Sm).run sk fr hp = R := h
    have e' : (match o.guard with
        | none => denOp C g (dst C g o.dst).p N (k (dst C g o.dst).g) o.op
        | some (j, want) => guarded C g (dst C g o.dst).p (k (dst C g o.dst).g) (denOp C g (dst C g o.dst).p N (k (dst C g o.dst).g) o.op) ((ops[j]?).bind (·.dst)) want : Sm).run sk fr hp = R := e
    split at e'
    · rename_i hgd
      exact op_step ok hR hg (wants_none hgd) hout e'
    · rename_i j want hgd
      rcases guarded_out hR hgd e' with ⟨hw, h1⟩ | ⟨hw, h1⟩
      · exact op_step ok hR hg hw hout h1
      · exact skip_step ok hR hg hw h1
omit ok hR in
/-- Package variables that are known: addresses of what nobody writes. -/
def GlOk (C : Cx) (vs : Vs) : Prop := ∀ p ∈ C.gl, (∃ t a b c, p.2 = .x 1 t a b c) ∧ ∀ w F μ, (C.env vs).Glo w F → CRel w F μ p.2 (.pointer (some ⟨p.1, 0, none⟩))
omit ok hR in
theorem ov_glob {C : Cx} {g : G} {sk : Row} {fr : Fr} (n : Nat) : ov C g sk fr (.global n) = .undef ∨ ∃ p ∈ C.gl, p.1 = n ∧ ov C g sk fr (.global n) = p.2 := by
  have key : ∀ l : List (Nat × AV), sv g.d (List.rec (motive := fun _ => Src) .no (fun a _ ih => Bool.rec (motive := fun _ => Src) ih (.c a.2) (Nat.beq a.1 n)) l) sk fr = .undef ∨ ∃ p ∈ l, p.1 = n ∧ sv g.d (List.rec (motive := fun _ => Src) .no (fun a _ ih => Bool.rec (motive := fun _ => Src) ih (.c a.2) (Nat.beq a.1 n)) l) sk fr = p.2 := by
    intro l
    induction l with
    | nil => exact .inl rfl
    | cons y r ih =>
      have e : sv g.d (List.rec (motive := fun _ => Src) .no (fun a _ ih => Bool.rec (motive := fun _ => Src) ih (.c a.2) (Nat.beq a.1 n)) (y :: r)) sk fr = sv g.d (Bool.rec (motive := fun _ => Src) (List.rec (motive := fun _ => Src) .no (fun a _ ih => Bool.rec (motive := fun _ => Src) ih (.c a.2) (Nat.beq a.1 n)) r) (.c y.2) (Nat.beq y.1 n)) sk fr := rfl
      rw [e, bcase]
      split
      · rename_i q
        exact .inr ⟨y, List.mem_cons_self .., by rw [beqN] at q; exact q, rfl⟩
      · exact ih.imp id fun ⟨p, h1, h2⟩ => ⟨p, List.mem_cons_of_mem _ h1, h2⟩
  exact key C.gl
omit ok hR in
theorem ov_rel (hgl : GlOk C vs) {g : G} {sk : Row} {fr : Fr} {w : World} {F : Nat → Prop} {μ : Mu} {a : Act} (hG : (C.env vs).Glo w F) (x : Operand) (h : ∀ t, x = .tmp t → CRel w F μ (sig C g sk fr t) (a.tmps.getD t undef)) : CRel w F μ (ov C g sk fr x) (a.eval x) := by
  cases x with
  | tmp t => exact h t rfl
  | const v => exact ov_const
  | func f => exact .fn (fun _ => undef) rfl rfl rfl (fun i hi => absurd hi (Nat.not_lt_zero _)) (fun i hi => absurd hi (Nat.not_lt_zero _)) fun i hi => absurd hi (Nat.not_lt_zero _)
  | global n =>
    rcases ov_glob (C := C) (g := g) (sk := sk) (fr := fr) n with e | ⟨p, hp, rfl, e⟩
    · rw [e]; exact .undef _
    · rw [e]; exact (hgl p hp).2 w F μ hG
omit ok hR in
theorem put_size (a : Act) (d : Option Tmp) (x : Value) : (a.put d x).tmps.size = a.tmps.size ∧ (a.put d x).defers = a.defers := by
  cases d <;> simp [Act.put]
omit ok hR in
theorem put_rel {σ σ' : Nat → AV} {d : Option Nat} {v : AV} {x : Value} {a : Act} {m : Nat} {w w' : World} {F F' : Nat → Prop} {μ μ' : Mu} (hs : SlStep σ σ' d v) (hm : m ≤ a.tmps.size) (hd : ∀ t, d = some t → t < m) (hv : CRel w' F' μ' v x)
    (hold : ∀ {b : AV} {u : Value}, CRel w F μ b u → CRel w' F' μ' b u) (h : ∀ t, CRel w F μ (σ t) (a.tmps.getD t undef)) (t : Nat) : CRel w' F' μ' (σ' t) ((a.put d x).tmps.getD t undef) := by
  by_cases e : d = some t
  · subst e
    rw [(hs t).1 rfl]
    have : (a.put (some t) x).tmps.getD t undef = x := by
      have hlt := hd t rfl
      simp only [Act.put, Array.getD_eq_getD_getElem?, Array.getElem?_setIfInBounds, if_true]
      rw [if_pos (by omega)]; rfl
    rw [this]; exact hv
  · have hsame : (a.put d x).tmps.getD t undef = a.tmps.getD t undef := by
      cases d with
      | none => rfl
      | some q =>
        have hne : q ≠ t := fun h => e (by rw [h])
        simp only [Act.put, Array.getD_eq_getD_getElem?, Array.getElem?_setIfInBounds, if_neg hne]
    rw [hsame]
    rcases (hs t).2 e with q | q
    · rw [q]; exact hold (h t)
    · rw [q]; exact .undef _
/-- A region in its order. -/
theorem denOps_ok (hc : CallsOk C (C.env vs)) (hgl : GlOk C vs) {s0 : Base} {k : G → Sm} {Q : Exit → Act → World → Prop} {r : Option Nat} {n : Nat} : ∀ (l : List Oper) (i : Nat) {g : G} {sk : Row} {fr : Fr} {hp : Hp} {μ : Mu} {F : Nat → Prop} {a : Act} {w : World}, (∀ j o, l[j]? = some o → ops[i + j]? = some o) →
    (denOps C ops l g k).run sk fr hp = R → St C (C.env vs) s0 g sk fr hp μ F a w →
    (∀ g' sk' fr' hp' μ' F' a' w', (k g').run sk' fr' hp' = R → St C (C.env vs) s0 g' sk' fr' hp' μ' F' a' w' → ExtC μ F hp w μ' F' hp' w' → a'.defers = a.defers → Q .normal a' w') → wpOpsIn (Wf r) n C.P ops Q (List.range' i l.length) a w
  | [], i, g, sk, fr, hp, μ, F, a, w, _, h, S, hQ => hQ g sk fr hp μ F a w h S (ExtC.refl _ _ _ _) rfl
  | o :: l, i, g, sk, fr, hp, μ, F, a, w, hl, h, S, hQ => by
    have h' : (denG C ops g (newS C.M) o l fun g => denOps C ops l g k).run sk fr hp = R := h
    obtain ⟨g', sk', fr', v, hp', kd, h1, h2, _, h4, h5, h6⟩ := denG_out (vs := vs) ok hR hc S.gi (newS_ok ok) h'
    rw [List.length_cons, List.range'_succ, wpOpsIn_cons]
    refine h2.wp (hl 0 o rfl) (fun x hx => ov_rel hgl S.h.glo x fun t _ => S.sl t) (fun j want t _ _ => S.sl t) (newS_free S.h) S.h fun x w' μ' F' hv hid hH hE => ?_
    have hEC : ExtC μ F hp w μ' F' hp' w' := .of hE fun b hb => (hid b hb).imp (fun h => h) fun h => h.elim (fun h => by omega) fun h => h
    have S' : St C (C.env vs) s0 g' sk' fr' hp' μ' F' (a.put o.dst x) w' :=
      ⟨h4, put_rel h5 S.nt h6 hv (fun h => h.ext S.h hE) S.sl, hH, by rw [(put_size a o.dst x).1]; exact S.nt, by rw [(put_size a o.dst x).2]; exact S.df.ext hE⟩
    exact denOps_ok hc hgl l (i + 1) (fun j o' hj => by rw [show i + 1 + j = i + (j + 1) by omega]; exact hl (j + 1) o' hj) h1 S' fun g'' sk'' fr'' hp'' μ'' F'' a'' w'' q1 q2 q3 q4 => hQ _ _ _ _ _ _ _ _ q1 q2 (hEC.trans q3) (q4.trans (put_size a o.dst x).2)
end
end Go.Proofs.YtlffjnddiiojnaaGreatDoor.Ev

/- Heaps that are alike; what a step does where the heap holds more. -/
namespace Go.Proofs.YtlffjnddiiojnaaGreatDoor.Ev
/-- A block that is not there any more. -/
def Blk.gone : Blk → Prop
  | .dead => True
  | _ => False
theorem gone_wr {B : Blk} (h : B.gone) : ¬ B.wr := by cases B <;> first | exact h.elim | exact fun h => h
theorem gone_live {B : Blk} (h : B.gone) : ¬ Live B := by cases B <;> first | exact h.elim | exact fun h => h
theorem live_gone {B : Blk} (h : Live B) : ¬ B.gone := by cases B <;> first | exact h.elim | exact fun h => h
/-- The same, or both gone. -/
def BEq (B B' : Blk) : Prop := B = B' ∨ (B.gone ∧ B'.gone)
theorem BEq.refl (B : Blk) : BEq B B := .inl rfl
theorem BEq.symm {B B' : Blk} (h : BEq B B') : BEq B' B := h.imp Eq.symm And.symm
theorem BEq.trans {B B' B'' : Blk} (h : BEq B B') (h' : BEq B' B'') : BEq B B'' := by
  rcases h with rfl | ⟨h1, h2⟩
  · exact h'
  · rcases h' with rfl | ⟨_, h4⟩
    · exact .inr ⟨h1, h2⟩
    · exact .inr ⟨h1, h4⟩
theorem BEq.gone {B B' : Blk} (h : BEq B B') (hg : B.gone) : B'.gone := h.elim (fun e => e ▸ hg) And.right
theorem BEq.eq {B B' : Blk} (h : BEq B B') (hl : ¬ B.gone) : B = B' := h.elim id fun h => absurd h.1 hl
theorem BEq.wr {B B' : Blk} (h : BEq B B') (hw : B.wr) : B'.wr := h.elim (fun e => e ▸ hw) fun h => absurd hw (gone_wr h.1)
section
variable {V : Env} {w : World} {F : Nat → Prop} {μ : Mu}
theorem BRel.gone {b : Nat} {B : Blk} (h : B.gone) : BRel V w F μ b B := by cases B <;> first | exact trivial | exact h.elim
theorem BRel.beq {b : Nat} {B B' : Blk} (h : BEq B B') (hB : BRel V w F μ b B) : BRel V w F μ b B' := h.elim (fun e => e ▸ hB) fun h => .gone h.2
/-- A block that is there has a place. -/
theorem BRel.some {b : Nat} {B : Blk} (hB : BRel V w F μ b B) (hg : ¬ B.gone) : ∃ m, μ b = some m := by
  cases B with
  | dead => exact absurd trivial hg
  | fwd i => exact hB.elim
  | row => obtain ⟨m, _, _, _, h, _⟩ := hB; exact ⟨m, h⟩
  | map => obtain ⟨m, _, _, h, _⟩ := hB; exact ⟨m, h⟩
  | loop => obtain ⟨m, _, h, _⟩ := hB; exact ⟨m, h⟩
theorem HRel.congr {h h' : Hp} (H : HRel V μ F h w) (he : ∀ b, BEq (h.at b) (h'.at b)) (hn : h.nx ≤ h'.nx) : HRel V μ F h' w :=
  ⟨fun b => (H.blk b).beq (he b), fun b b' m m' h1 h2 => H.excl b b' m m' ((he b).symm.wr h1) ((he b').symm.wr h2), fun b m hm => let ⟨q1, q2⟩ := H.dom b m hm; ⟨Nat.lt_of_lt_of_le q1 hn, q2⟩, H.imm, H.glo⟩
end
theorem tr_set {α : Type} (d : α) : ∀ (i : Nat) (t : Tr α) (x : α), ∃ t', IsSet d t i x t' := by
  intro i
  induction i using Nat.strongRecOn with
  | _ i ih =>
    intro t x
    have nd : ∀ (v : α) (l r : Tr α), ∃ t', IsSet d (.nd v l r) i x t' := fun v l r => by
      cases i with
      | zero => exact ⟨.nd x l r, fun j => by cases j <;> simp [Tr.get]⟩
      | succ j =>
        rcases mod2 j with hj | hj
        · obtain ⟨l', hl⟩ := ih (j / 2) (by omega) l x
          exact ⟨_, set_left hj hl⟩
        · obtain ⟨r', hr⟩ := ih (j / 2) (by omega) r x
          exact ⟨_, set_right hj hr⟩
    cases t with
    | lf => obtain ⟨t', h⟩ := nd d .lf .lf; exact ⟨t', set_lf h⟩
    | nd v l r => exact nd v l r
/-- A heap that is another one but at some numbers. -/
theorem hp_set (h : Hp) (f : Nat → Blk) (nx : Nat) (pr : List Nat) (rb : Nat) : ∀ (l : List Nat), ∃ h' : Hp, h'.nx = nx ∧ h'.pr = pr ∧ h'.rb = rb ∧ ∀ b, (b ∈ l → h'.at b = f b) ∧ (b ∉ l → h'.at b = h.at b)
  | [] => ⟨⟨h.t, nx, pr, rb⟩, rfl, rfl, rfl, fun b => ⟨fun hb => absurd hb List.not_mem_nil, fun _ => rfl⟩⟩
  | c :: l => by
    obtain ⟨h1, q1, q2, q3, q4⟩ := hp_set h f nx pr rb l
    obtain ⟨t', ht⟩ := tr_set .dead c h1.t (f c)
    refine ⟨⟨t', nx, pr, rb⟩, rfl, rfl, rfl, fun b => ?_⟩
    have hb : (⟨t', nx, pr, rb⟩ : Hp).at b = if b = c then f c else h1.at b := ht b
    rw [hb]
    by_cases e : b = c
    · subst e; rw [if_pos rfl]; exact ⟨fun _ => rfl, fun h => absurd (List.mem_cons_self ..) h⟩
    · rw [if_neg e]
      exact ⟨fun h => (q4 b).1 ((List.mem_cons.1 h).resolve_left e), fun h => (q4 b).2 fun hm => h (List.mem_cons_of_mem _ hm)⟩
/-- A block that was kept: as it was, but for the mark. -/
def Kept (B B' X : Blk) : Prop := (∃ rw rw' fl fl' z z' s s' t t', B = .row rw fl z s t ∧ B' = .row rw' fl' z' s' t' ∧ X = .row rw' fl z s t) ∨ (∃ n n' t t', B = .map n t ∧ B' = .map n' t' ∧ X = .map n t)
/-- A step that was taken in a heap that holds less: hS' is what it makes of the whole heap. -/
theorem HRel.frame {V : Env} {μ μ' : Mu} {F F' : Nat → Prop} {h hA hB hS' : Hp} {w w' : World} (H : HRel V μ F h w) (HA : HRel V μ F hA w) (HB : HRel V μ' F' hB w') (E : Ext μ F hA w μ' F' hB w')
    (sub : ∀ b, ¬ (hA.at b).gone → hA.at b = h.at b) (hpr : ∀ b, b ∈ h.pr → b ∈ hA.pr) (hnx : h.nx ≤ hA.nx) (q1 : hS'.nx = hB.nx) (q2 : hS'.pr = h.pr) (q3 : hS'.rb = h.rb)
    (what : ∀ b, (hS'.at b).gone ∨ (hS'.at b = hB.at b ∧ (b ∈ hA.pr → b ∈ h.pr)) ∨ (hS'.at b = h.at b ∧ (hA.at b).gone) ∨ (b ∈ hA.pr ∧ Kept (hA.at b) (hB.at b) (hS'.at b))) :
    HRel V μ' F' hS' w' ∧ Ext μ F h w μ' F' hS' w' := by
  have subwr : ∀ b, (hA.at b).wr → hA.at b = h.at b := fun b hw => sub b fun hg => gone_wr hg hw
  have ownA : ∀ B, Own hA μ B → Own h μ B := fun B ⟨b, m, h1, h2, h3, h4⟩ => ⟨b, m, subwr b h1 ▸ h1, fun hp => h2 (hpr b hp), h3, h4⟩
  have wbA : ∀ B, WB hA μ B → WB h μ B := fun B ⟨b, m, h1, h3, h4⟩ => ⟨b, m, subwr b h1 ▸ h1, h3, h4⟩
  have same := E.same HA
  -- a block that was put away does not lie where another one lies
  have away : ∀ b m, (h.at b).wr → (hA.at b).gone → μ b = some m → ¬ WB hA μ m.blk := fun b m hw hg hm ⟨b2, m2, h1, h2, h3⟩ => by
    have hne : b2 ≠ b := fun e => by subst e; exact gone_wr hg h1
    exact H.excl b2 b m2 m (subwr b2 h1 ▸ h1) hw hne h2 hm h3
  have keepRow : ∀ {b : Nat} {rw fl : Bool} {z s : Nat} {t : Row} {m : Mp} {c : Array Value} {T : TypeId} {fz : Nat × Nat}, (h.at b = .row rw fl z s t) → μ b = some m → w.heap[m.blk]? = some (.cells c T fz) → (rw = true → ¬ Own hA μ m.blk) → w'.heap[m.blk]? = some (.cells c T fz) := by
    intro b rw fl z s t m c T fz hb hm hc hno
    refine (E.keep m.blk (H.dom b m hm).2 fun ho => ?_).trans hc
    have hbr := H.blk b
    rw [hb] at hbr
    obtain ⟨m', c', T', fz', p1, _, _, _, _, _, p7⟩ := hbr
    rw [hm] at p1; cases p1
    cases rw with
    | true => exact hno rfl ho
    | false => exact HA.notF ho.wb (p7 rfl)
  have blk : ∀ b, BRel V w' F' μ' b (hS'.at b) := by
    intro b
    rcases what b with hg | ⟨e, _⟩ | ⟨e, hg⟩ | ⟨hbp, hk⟩
    · exact .gone hg
    · rw [e]; exact HB.blk b
    · rw [e]
      have hbr := H.blk b
      by_cases hw : (h.at b).wr
      · obtain ⟨m, hm⟩ := hbr.some fun hg' => gone_wr hg' hw
        have hno : ¬ Own hA μ m.blk := fun ho => away b m hw hg hm ho.wb
        have hnF : ¬ F' m.blk := fun hF => by
          rcases E.newF _ hF with h1 | h1 | h1
          · exact H.notF ⟨b, m, hw, hm, rfl⟩ h1
          · have := (H.dom b m hm).2; omega
          · exact away b m hw hg hm h1
        cases hX : h.at b with
        | dead => exact trivial
        | fwd i => rw [hX] at hbr; exact hbr.elim
        | row rw fl z s t =>
          rw [hX] at hbr hw
          obtain ⟨m', c, T, fz, p1, p2, p3, p4, p5, p6, p7⟩ := hbr
          rw [hm] at p1; cases p1
          have hrw : rw = true := hw
          exact ⟨m, c, T, fz, E.mu b m hm, keepRow hX hm p2 (fun _ => hno), p3, fun i hi => let ⟨u, u1, u2, u3⟩ := p4 i hi; ⟨u, u1, u2, u3.mono same E.fr E.mu⟩, p5, fun e => ⟨(p6 e).1, hnF⟩, fun e => by rw [hrw] at e; cases e⟩
        | map n t =>
          rw [hX] at hbr
          obtain ⟨m', es, clk, p1, p2, p3, p4, p5⟩ := hbr
          rw [hm] at p1; cases p1
          exact ⟨m, es, clk, E.mu b m hm, (E.keep m.blk (H.dom b m hm).2 hno).trans p2, hnF, p4, fun i hi => let ⟨u, u1, u2, u3⟩ := p5 i hi; ⟨u, u1, u2.mono same E.fr E.mu, u3.mono same E.fr E.mu⟩⟩
        | loop st f i fr =>
          rw [hX] at hbr
          obtain ⟨m', L, p1, p2, p3, p4⟩ := hbr
          rw [hm] at p1; cases p1
          exact ⟨m, L, E.mu b m hm, (E.keep m.blk (H.dom b m hm).2 hno).trans p2, hnF, p4.mono same E.fr E.mu⟩
      · cases hX : h.at b with
        | dead => exact trivial
        | fwd i => rw [hX] at hbr; exact hbr.elim
        | row rw fl z s t =>
          rw [hX] at hbr hw
          obtain ⟨m', c, T, fz, p1, p2, p3, p4, p5, p6, p7⟩ := hbr
          have hrw : rw = false := by cases rw with | false => rfl | true => exact absurd rfl hw
          exact ⟨m', c, T, fz, E.mu b m' p1, keepRow hX p1 p2 (fun e => by rw [hrw] at e; cases e), p3, fun i hi => let ⟨u, u1, u2, u3⟩ := p4 i hi; ⟨u, u1, u2, u3.mono same E.fr E.mu⟩, p5, fun e => (by rw [hrw] at e; cases e), fun e => E.fr _ (p7 e)⟩
        | map n t => rw [hX] at hw; exact absurd trivial hw
        | loop st f i fr => rw [hX] at hw; exact absurd trivial hw
    · -- a block that was kept
      have nown : ∀ m, μ b = some m → ((hA.at b).wr ∨ F m.blk) → ¬ Own hA μ m.blk := fun m hm hor ⟨b2, m2, h1, h2, h3, h4⟩ => by
        have hne : b2 ≠ b := fun e => h2 (e ▸ hbp)
        rcases hor with hw | hF
        · exact HA.excl b2 b m2 m h1 hw hne h3 hm h4
        · exact HA.notF ⟨b2, m2, h1, h3, h4⟩ hF
      have hbr := HA.blk b
      have hbB := HB.blk b
      rcases hk with ⟨rw, rw', fl, fl', z, z', s, s', t, t', e1, e2, e3⟩ | ⟨n, n', t, t', e1, e2, e3⟩
      · rw [e1] at hbr nown
        rw [e2] at hbB
        rw [e3]
        obtain ⟨m, c, T, fz, p1, p2, p3, p4, p5, p6, p7⟩ := hbr
        obtain ⟨m', c', T', fz', o1, o2, _, _, _, o6, o7⟩ := hbB
        have hm' := E.mu b m p1
        rw [hm'] at o1; cases o1
        have hkeep : w'.heap[m.blk]? = some (.cells c T fz) := (E.keep m.blk (HA.dom b m p1).2 (nown m p1 (by cases rw with | true => exact .inl rfl | false => exact .inr (p7 rfl)))).trans p2
        rw [hkeep] at o2; cases o2
        exact ⟨m, c, T, fz, hm', hkeep, p3, fun i hi => let ⟨u, u1, u2, u3⟩ := p4 i hi; ⟨u, u1, u2, u3.mono same E.fr E.mu⟩, p5, o6, o7⟩
      · rw [e1] at hbr nown
        rw [e2] at hbB
        rw [e3]
        obtain ⟨m, es, clk, p1, p2, p3, p4, p5⟩ := hbr
        obtain ⟨m', _, _, o1, _, o3, _⟩ := hbB
        have hm' := E.mu b m p1
        rw [hm'] at o1; cases o1
        exact ⟨m, es, clk, hm', (E.keep m.blk (HA.dom b m p1).2 (nown m p1 (.inl trivial))).trans p2, o3, p4, fun i hi => let ⟨u, u1, u2, u3⟩ := p5 i hi; ⟨u, u1, u2.mono same E.fr E.mu, u3.mono same E.fr E.mu⟩⟩
  -- what is there to be written was there, or was put away
  have wr : ∀ b, (hS'.at b).wr → ((hB.at b).wr ∧ ¬ (hA.at b).gone ∧ b ∈ hA.pr ∧ (hA.at b).wr ∨ (hB.at b).wr ∧ (b ∈ hA.pr → b ∈ h.pr)) ∨ ((h.at b).wr ∧ (hA.at b).gone) := by
    intro b hw
    rcases what b with hg | ⟨e, hp⟩ | ⟨e, hg⟩ | ⟨hbp, hk⟩
    · exact absurd hw (gone_wr hg)
    · rw [e] at hw; exact .inl (.inr ⟨hw, hp⟩)
    · rw [e] at hw; exact .inr ⟨hw, hg⟩
    · left; left
      rcases hk with ⟨rw, rw', fl, fl', z, z', s, s', t, t', e1, e2, e3⟩ | ⟨n, n', t, t', e1, e2, e3⟩
      · rw [e3] at hw
        have hrw : rw' = true := hw
        subst hrw
        rw [e2, e1]
        refine ⟨rfl, fun h => h, hbp, ?_⟩
        cases rw with
        | true => rfl
        | false =>
          exfalso
          have hbr := HA.blk b
          have hbB := HB.blk b
          rw [e1] at hbr
          rw [e2] at hbB
          obtain ⟨m, c, T, fz, p1, p2, p3, p4, p5, p6, p7⟩ := hbr
          obtain ⟨m', c', T', fz', o1, o2, _, _, _, o6, o7⟩ := hbB
          have hm' := E.mu b m p1
          rw [hm'] at o1; cases o1
          exact (o6 rfl).2 (E.fr _ (p7 rfl))
      · rw [e2, e1]
        exact ⟨trivial, fun h => h, hbp, trivial⟩
  have wrB : ∀ b, (hS'.at b).wr → (hB.at b).wr ∨ ((h.at b).wr ∧ (hA.at b).gone) := fun b hw => (wr b hw).imp (fun h => h.elim And.left And.left) id
  have place : ∀ b, (h.at b).wr → ∃ m, μ b = some m := fun b hw => (H.blk b).some fun hg => gone_wr hg hw
  have mixed : ∀ b b' m m', ((h.at b).wr ∧ (hA.at b).gone) → (hB.at b').wr → μ' b = some m → μ' b' = some m' → m.blk ≠ m'.blk := fun b b' m m' ⟨h1, h2⟩ h3 hm hm' e => by
    obtain ⟨m0, hm0⟩ := place b h1
    have := E.mu b m0 hm0
    rw [hm] at this; cases this
    rcases E.wb m.blk ⟨b', m', h3, hm', e.symm⟩ with q | q
    · have := (H.dom b m hm0).2; omega
    · exact away b m h1 h2 hm0 q
  refine ⟨⟨blk, fun b b' m m' h1 h2 hne hm hm' => ?_, fun b m hm => by rw [q1]; exact HB.dom b m hm, HB.imm, HB.glo⟩, ⟨E.mu, E.fr, E.size, fun B hB ho => E.keep B hB fun hA => ho (ownA B hA), fun B ⟨b, m, h1, h2, h3, h4⟩ => ?_, fun B ⟨b, m, h1, h3, h4⟩ => ?_, fun B hF => (E.newF B hF).imp id fun h => h.imp id (wbA B), fun b m hm => (E.newMu b m hm).imp id fun ⟨h1, h2⟩ => ⟨h1, h2.imp id (ownA _)⟩, by rw [q1]; exact Nat.le_trans hnx E.nx, q2, q3, E.io⟩⟩
  · rcases wrB b h1 with w1 | w1
    · rcases wrB b' h2 with w2 | w2
      · exact HB.excl b b' m m' w1 w2 hne hm hm'
      · exact (mixed b' b m' m w2 w1 hm' hm).symm
    · rcases wrB b' h2 with w2 | w2
      · exact mixed b b' m m' w1 w2 hm hm'
      · obtain ⟨m0, hm0⟩ := place b w1.1
        obtain ⟨m1, hm1⟩ := place b' w2.1
        have e0 := E.mu b m0 hm0
        have e1 := E.mu b' m1 hm1
        rw [hm] at e0; cases e0
        rw [hm'] at e1; cases e1
        exact H.excl b b' m m' w1.1 w2.1 hne hm0 hm1
  · rcases wr b h1 with (⟨w1, _, hp, w2⟩ | ⟨w1, hp⟩) | ⟨w1, hg⟩
    · obtain ⟨m0, hm0⟩ := place b (subwr b w2 ▸ w2)
      have := E.mu b m0 hm0
      rw [h3] at this; cases this
      exact .inr ⟨b, m, subwr b w2 ▸ w2, q2 ▸ h2, hm0, h4⟩
    · have hnA : b ∉ hB.pr := fun hb => h2 (q2 ▸ hp (E.pr ▸ hb))
      exact (E.own B ⟨b, m, w1, hnA, h3, h4⟩).imp id (ownA B)
    · obtain ⟨m0, hm0⟩ := place b w1
      have := E.mu b m0 hm0
      rw [h3] at this; cases this
      exact .inr ⟨b, m, w1, q2 ▸ h2, hm0, h4⟩
  · rcases wrB b h1 with w1 | ⟨w1, hg⟩
    · exact (E.wb B ⟨b, m, w1, h3, h4⟩).imp id (wbA B)
    · obtain ⟨m0, hm0⟩ := place b w1
      have := E.mu b m0 hm0
      rw [h3] at this; cases this
      exact .inr ⟨b, m, w1, hm0, h4⟩
end Go.Proofs.YtlffjnddiiojnaaGreatDoor.Ev

/- Regions that draw their order: what their plan says. -/
namespace Go.Proofs.YtlffjnddiiojnaaGreatDoor.Ev
theorem bit_test (m i : Nat) : bit m i = m.testBit i := by
  rw [Nat.testBit_eq_decide_div_mod_eq]
  show Nat.beq (m / 2 ^ i % 2) 1 = decide (m / 2 ^ i % 2 = 1)
  exact beq_dec _ _
theorem band_eq (a b : Bool) : (band a b = true) = (a = true ∧ b = true) := by cases a <;> cases b <;> simp [band]
theorem allL_out {α : Type} {f : α → Bool} : ∀ {l : List α}, allL f l = true → ∀ x ∈ l, f x = true
  | [], _, x, hx => by cases hx
  | a :: l, h, x, hx => by
    have h' : band (f a) (allL f l) = true := h
    rw [band_eq] at h'
    rcases List.mem_cons.1 hx with rfl | hx
    · exact h'.1
    · exact allL_out h'.2 x hx
theorem getL_eq {α : Type} (d : α) : ∀ (l : List α) (i : Nat), getL d l i = (l[i]?).getD d
  | [], i => by cases i <;> rfl
  | a :: l, 0 => rfl
  | a :: l, i + 1 => by
    have := getL_eq d l i
    rw [List.getElem?_cons_succ]; exact this
theorem revN_eq : ∀ (l acc : List Nat), revN l acc = l.reverse ++ acc
  | [], acc => rfl
  | a :: l, acc => by
    show revN l (a :: acc) = _
    rw [revN_eq l (a :: acc), List.reverse_cons, List.append_assoc]; rfl
/-- A bit of an operation's mask comes of one of its edges. -/
theorem maskOf_bit {l : List Nat} {n a : Nat} : ∀ {es : List Edge}, bit (maskOf l n es) a = true → ∃ e ∈ es, bindsAny e = true ∧ (a = e.on ∨ bit (getL 0 l (n - 1 - e.on)) a = true)
  | [], h => by
    rw [bit_test] at h
    have : maskOf l n [] = 0 := rfl
    rw [this] at h; simp at h
  | e :: es, h => by
    have e0 : maskOf l n (e :: es) = if bindsAny e = true then Nat.lor (maskOf l n es) (Nat.lor (Nat.pow 2 e.on) (getL 0 l (n - 1 - e.on))) else maskOf l n es := by
      show (Bool.rec (motive := fun _ => Nat) (maskOf l n es) (Nat.lor (maskOf l n es) (Nat.lor (Nat.pow 2 e.on) (getL 0 l (Nat.sub (Nat.sub n 1) e.on)))) (bindsAny e) : Nat) = _
      rw [bcase]; rfl
    have ih : bit (maskOf l n es) a = true → ∃ e' ∈ e :: es, bindsAny e' = true ∧ (a = e'.on ∨ bit (getL 0 l (n - 1 - e'.on)) a = true) := fun h => by
      obtain ⟨e', h1, h2⟩ := maskOf_bit h
      exact ⟨e', List.mem_cons_of_mem _ h1, h2⟩
    rw [e0] at h
    split at h
    · rename_i hb
      have h' : bit (maskOf l n es ||| (2 ^ e.on ||| getL 0 l (n - 1 - e.on))) a = true := h
      rw [bit_test, Nat.testBit_or, Nat.testBit_or, Bool.or_eq_true, Bool.or_eq_true] at h'
      rcases h' with h' | h' | h'
      · exact ih (by rw [bit_test]; exact h')
      · rw [Nat.testBit_two_pow] at h'
        exact ⟨e, List.mem_cons_self .., hb, .inl (by simp at h'; exact h'.symm)⟩
      · exact ⟨e, List.mem_cons_self .., hb, .inr (by rw [bit_test]; exact h')⟩
    · exact ih h
/-- The masks, one behind the other. -/
theorem masksR_spec : ∀ (ops : List Oper) (acc : List Nat) (n : Nat), ∃ ms : List Nat, masksR ops acc n = ms.reverse ++ acc ∧ ms.length = ops.length ∧ ∀ j o, ops[j]? = some o → ms[j]? = some (maskOf ((ms.take j).reverse ++ acc) (n + j) o.after.toList)
  | [], acc, n => ⟨[], rfl, rfl, fun j o h => by cases h⟩
  | o :: ops, acc, n => by
    obtain ⟨ms, h1, h2, h3⟩ := masksR_spec ops (maskOf acc n o.after.toList :: acc) (n + 1)
    refine ⟨maskOf acc n o.after.toList :: ms, ?_, by rw [List.length_cons, List.length_cons, h2], fun j o' hj => ?_⟩
    · show masksR ops (maskOf acc n o.after.toList :: acc) (Nat.succ n) = _
      rw [h1, List.reverse_cons, List.append_assoc]; rfl
    · cases j with
      | zero => cases hj; rfl
      | succ j =>
        have := h3 j o' hj
        rw [List.getElem?_cons_succ, this, List.take_succ_cons, List.reverse_cons, List.append_assoc, show n + 1 + j = n + (j + 1) by omega]
        rfl
theorem backOk_out : ∀ {ops : List Oper} {n : Nat}, backOk ops n = true → ∀ j o, ops[j]? = some o → ∀ e ∈ o.after.toList, bindsAny e = true → e.on < n + j
  | [], _, _, _, _, h => by cases h
  | o :: ops, n, h, j, o', hj => by
    have h' : band (allL (fun e => Bool.rec (motive := fun _ => Bool) true (Nat.ble (Nat.succ e.on) n) (bindsAny e)) o.after.toList) (backOk ops (Nat.succ n)) = true := h
    rw [band_eq] at h'
    cases j with
    | zero =>
      cases hj
      intro e he hb
      have := allL_out h'.1 e he
      simp only [hb] at this
      rw [bleN] at this
      omega
    | succ j =>
      intro e he hb
      have := backOk_out h'.2 j o' hj e he hb
      omega
/-- The masks of a region's operations. -/
noncomputable def msk (ops : Array Oper) (i : Nat) : Nat := getL 0 (revN (masksR ops.toList [] 0) []) i
theorem msk_bit {ops : Array Oper} (hb : backOk ops.toList 0 = true) {i a : Nat} {o : Oper} (ho : ops[i]? = some o) (h : bit (msk ops i) a = true) : ∃ e ∈ o.after.toList, bindsAny e = true ∧ e.on < i ∧ (a = e.on ∨ bit (msk ops e.on) a = true) := by
  obtain ⟨ms, h1, h2, h3⟩ := masksR_spec ops.toList [] 0
  have hm : ∀ j, msk ops j = (ms[j]?).getD 0 := fun j => by
    unfold msk
    rw [getL_eq, revN_eq, h1]; simp
  have ho' : ops.toList[i]? = some o := by rw [Array.getElem?_toList]; exact ho
  have hi := h3 i o ho'
  rw [hm, hi] at h
  obtain ⟨e, e1, e2, e3⟩ := maskOf_bit h
  have hlt : e.on < i := by have := backOk_out hb i o ho' e e1 e2; omega
  refine ⟨e, e1, e2, hlt, e3.imp id fun h => ?_⟩
  rw [hm]
  have hil : i < ms.length := by rw [h2]; exact (List.getElem?_eq_some_iff.1 ho').1
  rw [getL_eq, List.append_nil] at h
  have : ((ms.take i).reverse)[0 + i - 1 - e.on]? = ms[e.on]? := by
    have hl : (ms.take i).length = i := by rw [List.length_take]; omega
    rw [List.getElem?_reverse (by omega), hl, List.getElem?_take]
    rw [if_pos (by omega)]
    congr 1; omega
  rw [this] at h; exact h
/-- The list of what is seen of the operations. -/
theorem drs_get {P : Program} {ops : Array Oper} {ms : List Nat} : ∀ {l : List Oper} {i0 : Nat} {x : Dr}, x ∈ drs P ops l ms i0 → ∃ j o, l[j]? = some o ∧ x = ⟨i0 + j, o, cls P o.op, getL 0 ms (i0 + j), readsOf ops o⟩
  | [], _, _, h => by cases h
  | o :: l, i0, x, h => by
    have h' : x ∈ (⟨i0, o, cls P o.op, getL 0 ms i0, readsOf ops o⟩ : Dr) :: drs P ops l ms (Nat.succ i0) := h
    rcases List.mem_cons.1 h' with rfl | h'
    · exact ⟨0, o, rfl, rfl⟩
    · obtain ⟨j, o', h1, h2⟩ := drs_get h'
      exact ⟨j + 1, o', h1, by rw [h2, show Nat.succ i0 + j = i0 + (j + 1) by omega]⟩
theorem drs_cons {P : Program} {ops : Array Oper} {ms : List Nat} (o : Oper) (l : List Oper) (i0 : Nat) : drs P ops (o :: l) ms i0 = (⟨i0, o, cls P o.op, getL 0 ms i0, readsOf ops o⟩ : Dr) :: drs P ops l ms (i0 + 1) := rfl
theorem drs_ids {P : Program} {ops : Array Oper} {ms : List Nat} : ∀ (l : List Oper) (i0 : Nat), (drs P ops l ms i0).map (·.i) = List.range' i0 l.length
  | [], _ => rfl
  | o :: l, i0 => by rw [drs_cons, List.map_cons, drs_ids l (i0 + 1), List.length_cons, List.range'_succ]
theorem without_cons (i : Nat) (x : Dr) (l : List Dr) : without i (x :: l) = if x.i = i then l else x :: without i l := by
  show (Bool.rec (motive := fun _ => List Dr) (x :: without i l) l (Nat.beq x.i i) : List Dr) = _
  rw [bcase]; simp only [beqN]
theorem without_sub {i : Nat} : ∀ (l : List Dr), (without i l).Sublist l
  | [] => List.Sublist.slnil
  | x :: l => by
    rw [without_cons]
    split
    · exact (List.Sublist.refl l).cons _
    · exact (without_sub l).cons_cons _
theorem mem_without {i : Nat} {y : Dr} (hi : y.i ≠ i) : ∀ {l : List Dr}, y ∈ l → y ∈ without i l
  | x :: l, h => by
    rw [without_cons]
    by_cases e : x.i = i
    · rw [if_pos e]; exact (List.mem_cons.1 h).resolve_left fun q => hi (q ▸ e)
    · rw [if_neg e, List.mem_cons]; exact (List.mem_cons.1 h).imp id (mem_without hi)
theorem not_without {i : Nat} {y : Dr} : ∀ {l : List Dr}, (l.map (·.i)).Nodup → y ∈ without i l → y.i ≠ i
  | [], _, h => by cases h
  | x :: l, hn, h => by
    rw [List.map_cons, List.nodup_cons] at hn
    rw [without_cons] at h
    by_cases e : x.i = i
    · rw [if_pos e] at h
      intro q
      exact hn.1 (by rw [e, ← q]; exact List.mem_map.2 ⟨y, h, rfl⟩)
    · rw [if_neg e] at h
      rcases List.mem_cons.1 h with rfl | h
      · exact e
      · exact not_without hn.2 h
theorem without_len {i : Nat} : ∀ (l : List Dr), (∃ x ∈ l, x.i = i) → (without i l).length + 1 = l.length
  | [], ⟨x, h, _⟩ => by cases h
  | x :: l, ⟨y, hy, hyi⟩ => by
    rw [without_cons]
    by_cases e : x.i = i
    · rw [if_pos e, List.length_cons]
    · rw [if_neg e, List.length_cons, List.length_cons, without_len l ⟨y, (List.mem_cons.1 hy).resolve_left fun q => e (q ▸ hyi), hyi⟩]
theorem pickA_out {D : Nat} {x : Dr} : ∀ {l : List Dr}, pickA D l = some x → x ∈ l ∧ ready D x = true
  | [], h => by cases h
  | y :: l, h => by
    have h' : (Bool.rec (motive := fun _ => Option Dr) (pickA D l) (some y) (ready D y) : Option Dr) = some x := h
    rw [bcase] at h'
    split at h'
    · cases h'; exact ⟨List.mem_cons_self .., by assumption⟩
    · obtain ⟨h1, h2⟩ := pickA_out h'; exact ⟨List.mem_cons_of_mem _ h1, h2⟩
theorem pickF_out {D : Nat} {x : Dr} {no : Option Dr} : ∀ {l : List Dr}, pickF D l no = some x → (x ∈ l ∧ ready D x = true) ∨ no = some x
  | [], h => .inr h
  | y :: l, h => by
    have h' : (Bool.rec (motive := fun _ => Option Dr) (pickF D l no) (some y) (band (ready D y) (Nat.ble y.c 2)) : Option Dr) = some x := h
    rw [bcase] at h'
    split at h'
    · rename_i hb
      rw [band_eq] at hb
      cases h'; exact .inl ⟨List.mem_cons_self .., hb.1⟩
    · rcases pickF_out h' with ⟨h1, h2⟩ | h
      · exact .inl ⟨List.mem_cons_of_mem _ h1, h2⟩
      · exact .inr h
theorem ready_bit {D : Nat} {x : Dr} (h : ready D x = true) {a : Nat} (ha : bit x.m a = true) : bit D a = true := by
  have h' : Nat.beq (x.m &&& D) x.m = true := h
  rw [beqN] at h'
  rw [bit_test] at ha ⊢
  have : (x.m &&& D).testBit a = true := by rw [h']; exact ha
  rw [Nat.testBit_and, Bool.and_eq_true] at this
  exact this.2
/-- The order: each one stands behind those ahead of it, and once. -/
theorem order_spec : ∀ (n D : Nat) (l : List Dr), (l.map (·.i)).Nodup → ∀ (k : Nat) (x : Dr), (order n D l)[k]? = some x → x ∈ l ∧ (∀ a, bit x.m a = true → bit D a = true ∨ ∃ (q : Nat) (y : Dr), q < k ∧ (order n D l)[q]? = some y ∧ y.i = a) ∧ ∀ (q : Nat) (y : Dr), (order n D l)[q]? = some y → y.i = x.i → q = k
  | 0, D, l, _, k, x, h => by cases h
  | n + 1, D, l, hnd, k, x, h => by
    have e0 : order (n + 1) D l = Option.rec (motive := fun _ => List Dr) [] (fun x => x :: order n (Nat.lor D (Nat.pow 2 x.i)) (without x.i l)) (pickF D l (pickA D l)) := rfl
    cases hp : pickF D l (pickA D l) with
    | none => rw [e0, hp] at h; cases h
    | some z =>
      have e1 : order (n + 1) D l = z :: order n (D ||| 2 ^ z.i) (without z.i l) := by rw [e0, hp]; rfl
      have hz : z ∈ l ∧ ready D z = true := (pickF_out hp).elim id pickA_out
      have ih := order_spec n (D ||| 2 ^ z.i) (without z.i l) (hnd.sublist ((without_sub l).map _))
      rw [e1] at h ⊢
      have far : ∀ (q : Nat) (y : Dr), (order n (D ||| 2 ^ z.i) (without z.i l))[q]? = some y → y.i ≠ z.i := fun q y hy => not_without hnd (ih q y hy).1
      cases k with
      | zero =>
        cases h
        refine ⟨hz.1, fun a ha => .inl (ready_bit hz.2 ha), fun q y hy he => ?_⟩
        cases q with
        | zero => rfl
        | succ q => exact absurd he (far q y hy)
      | succ k =>
        obtain ⟨h1, h2, h3⟩ := ih k x h
        refine ⟨(without_sub l).subset h1, fun a ha => ?_, fun q y hy he => ?_⟩
        · rcases h2 a ha with h4 | ⟨q, y, h4, h5, h6⟩
          · rw [bit_test, Nat.testBit_or, Bool.or_eq_true, Nat.testBit_two_pow] at h4
            rcases h4 with h4 | h4
            · exact .inl (by rw [bit_test]; exact h4)
            · exact .inr ⟨0, z, Nat.succ_pos _, rfl, by simp at h4; exact h4⟩
          · exact .inr ⟨q + 1, y, Nat.succ_lt_succ h4, h5, h6⟩
        · cases q with
          | zero => cases hy; exact absurd he.symm (far k x h)
          | succ q => exact congrArg (· + 1) (h3 q y hy he)
theorem order_all : ∀ (n D : Nat) (l : List Dr), l.length ≤ n → (order n D l).length = n → ∀ y ∈ l, ∃ x ∈ order n D l, x.i = y.i
  | 0, D, l, hl, _, y, hy => by
    have : l = [] := List.length_eq_zero_iff.1 (Nat.le_zero.1 hl)
    subst this; cases hy
  | n + 1, D, l, hl, hn, y, hy => by
    have e0 : order (n + 1) D l = Option.rec (motive := fun _ => List Dr) [] (fun x => x :: order n (Nat.lor D (Nat.pow 2 x.i)) (without x.i l)) (pickF D l (pickA D l)) := rfl
    cases hp : pickF D l (pickA D l) with
    | none => rw [e0, hp] at hn; cases hn
    | some z =>
      have e1 : order (n + 1) D l = z :: order n (D ||| 2 ^ z.i) (without z.i l) := by rw [e0, hp]; rfl
      have hz : z ∈ l := ((pickF_out hp).elim id pickA_out).1
      rw [e1] at hn ⊢
      by_cases e : y.i = z.i
      · exact ⟨z, List.mem_cons_self .., e.symm⟩
      · have hw := without_len (i := z.i) l ⟨z, hz, rfl⟩
        obtain ⟨x, h1, h2⟩ := order_all n (D ||| 2 ^ z.i) (without z.i l) (by omega) (by rw [List.length_cons] at hn; omega) y (mem_without e hy)
        exact ⟨x, List.mem_cons_of_mem _ h1, h2⟩
theorem pairs_out {f : Dr → Dr → Bool} : ∀ {l : List Dr}, pairs f l = true → ∀ (k j : Nat) (x y : Dr), k < j → l[k]? = some x → l[j]? = some y → f x y = true
  | [], _, _, _, _, _, _, h, _ => by cases h
  | z :: l, h, k, j, x, y, hkj, hx, hy => by
    have h' : band (allL (fun y => f z y) l) (pairs f l) = true := h
    rw [band_eq] at h'
    cases j with
    | zero => omega
    | succ j =>
      cases k with
      | zero => cases hx; exact allL_out h'.1 y (List.mem_of_getElem? hy)
      | succ k => exact pairs_out h'.2 k j x y (by omega) hx hy
theorem slotOk_out {x y : Dr} {d : Nat} (h : slotOk x y = true) (hd : x.o.dst = some d) : y.o.dst ≠ some d ∧ (d ∈ y.r → bit y.m x.i = true ∨ bit x.m y.i = true) := by
  unfold slotOk at h
  rw [hd] at h
  have h' : band (Option.rec (motive := fun _ => Bool) true (fun e => bnot (Nat.beq d e)) y.o.dst) (allL (fun t => Bool.rec (motive := fun _ => Bool) true (Bool.rec (motive := fun _ => Bool) (bit x.m y.i) true (bit y.m x.i)) (Nat.beq t d)) y.r) = true := h
  rw [band_eq] at h'
  refine ⟨fun e => ?_, fun hm => ?_⟩
  · rw [e] at h'
    have := h'.1
    have e2 : bnot (Nat.beq d d) = true := this
    rw [bnot_eq, Nat.beq_refl] at e2; cases e2
  · have := allL_out h'.2 d hm
    simp only [Nat.beq_refl] at this
    cases hb : bit y.m x.i with
    | true => exact .inl rfl
    | false => rw [hb] at this; exact .inr this
theorem pairOk_out {x y : Dr} (h : pairOk x y = true) : bit y.m x.i = true ∨ y.c = 0 ∨ x.c ≤ 2 := by
  unfold pairOk at h
  cases hb : bit y.m x.i with
  | true => exact .inl rfl
  | false =>
    rw [hb] at h
    have h' : band (bnot (Nat.beq x.c 6)) (band (bnot (Nat.beq y.c 6)) (Bool.rec (motive := fun _ => Bool) (Nat.beq y.c 0) true (Nat.ble x.c 2))) = true := h
    rw [band_eq, band_eq] at h'
    have h2 := h'.2.2
    cases hc : Nat.ble x.c 2 with
    | true => rw [bleN] at hc; exact .inr (.inr hc)
    | false => rw [hc] at h2; exact .inr (.inl (by rw [← beqN]; exact h2))
end Go.Proofs.YtlffjnddiiojnaaGreatDoor.Ev

/- Regions that draw their order: what is put away, and what is kept. -/
namespace Go.Proofs.YtlffjnddiiojnaaGreatDoor.Ev
section
variable {M : Mem} (ok : MemOk M) {R : Res} (hR : R ≠ .fail)
include hR in
theorem protK_out {C : Cx} {g : G} {sk : Row} {fr : Fr} {k : List Nat → Res} : ∀ {l : List Dr} {acc : List Nat}, protK sk fr (l.map (spotRd C g)) acc k = R →
    ∃ pl, k pl = R ∧ (∀ b ∈ acc, b ∈ pl) ∧ ∀ y ∈ l, ∃ p, spot y.o.op = some p ∧ (∀ t a b c, ov C g sk fr p ≠ .x 0 t a b c) ∧ ∀ b, spotB (ov C g sk fr p) = some b → b ∈ pl
  | [], acc, h => ⟨acc, h, fun _ h => h, fun _ h => (by cases h)⟩
  | y :: l, acc, h => by
    cases hsp : spot y.o.op with
    | none =>
      have h' : (spotRd C g y).get sk fr _ = R := h
      unfold spotRd at h'
      rw [hsp] at h'; exact fail_out hR h'
    | some p =>
      have h1 : (rdO C g p).get sk fr (fun v => v.on (fun _ _ => .fail) (fun _ => .fail) (fun _ _ => protK sk fr (l.map (spotRd C g)) acc k) (fun b _ => protK sk fr (l.map (spotRd C g)) (b :: acc) k) (fun b _ _ _ => protK sk fr (l.map (spotRd C g)) (b :: acc) k) (fun _ _ _ _ => protK sk fr (l.map (spotRd C g)) acc k) (fun _ _ => .fail) (fun _ _ => .fail)
        (fun g' _ b _ _ => when (Nat.beq g' 4) (protK sk fr (l.map (spotRd C g)) (b :: acc) k) (must (Nat.beq g' 1 || Nat.ble 6 g') (protK sk fr (l.map (spotRd C g)) acc k)))) = R := by
        have h' : (spotRd C g y).get sk fr _ = R := h
        unfold spotRd at h'
        rw [hsp] at h'; exact h'
      have h2 := rdO_out hR h1
      have plain : ∀ {q : AV}, ov C g sk fr p = q → spotB q = none → (∀ t a b c, q ≠ .x 0 t a b c) → protK sk fr (l.map (spotRd C g)) acc k = R → ∃ pl, k pl = R ∧ (∀ b ∈ acc, b ∈ pl) ∧ ∀ y' ∈ y :: l, ∃ p, spot y'.o.op = some p ∧ (∀ t a b c, ov C g sk fr p ≠ .x 0 t a b c) ∧ ∀ b, spotB (ov C g sk fr p) = some b → b ∈ pl := fun {q} hq hs hn h => by
        obtain ⟨pl, q1, q2, q3⟩ := protK_out h
        refine ⟨pl, q1, q2, fun y' hy => ?_⟩
        rcases List.mem_cons.1 hy with rfl | hy
        · exact ⟨p, hsp, by rw [hq]; exact hn, fun b hb => by rw [hq, hs] at hb; cases hb⟩
        · exact q3 y' hy
      have block : ∀ {q : AV} {b0 : Nat}, ov C g sk fr p = q → (∀ b, spotB q = some b → b = b0) → (∀ t a b c, q ≠ .x 0 t a b c) → protK sk fr (l.map (spotRd C g)) (b0 :: acc) k = R → ∃ pl, k pl = R ∧ (∀ b ∈ acc, b ∈ pl) ∧ ∀ y' ∈ y :: l, ∃ p, spot y'.o.op = some p ∧ (∀ t a b c, ov C g sk fr p ≠ .x 0 t a b c) ∧ ∀ b, spotB (ov C g sk fr p) = some b → b ∈ pl := fun {q b0} hq hs hn h => by
        obtain ⟨pl, q1, q2, q3⟩ := protK_out h
        refine ⟨pl, q1, fun b hb => q2 b (List.mem_cons_of_mem _ hb), fun y' hy => ?_⟩
        rcases List.mem_cons.1 hy with rfl | hy
        · exact ⟨p, hsp, by rw [hq]; exact hn, fun b hb => by rw [hq] at hb; rw [hs b hb]; exact q2 _ (List.mem_cons_self ..)⟩
        · exact q3 y' hy
      cases hv : ov C g sk fr p with
      | int => rw [hv] at h2; exact fail_out hR h2
      | bool => rw [hv] at h2; exact fail_out hR h2
      | str s n => rw [hv] at h2; exact plain hv rfl (fun _ _ _ _ => by simp) h2
      | ptr b o => rw [hv] at h2; exact block hv (fun c hc => by cases hc; rfl) (fun _ _ _ _ => by simp) h2
      | ms b o n z => rw [hv] at h2; exact block hv (fun c hc => by cases n with | zero => cases hc | succ n => cases hc; rfl) (fun _ _ _ _ => by simp) h2
      | vs t o n z => rw [hv] at h2; exact plain hv rfl (fun _ _ _ _ => by simp) h2
      | agg => rw [hv] at h2; exact fail_out hR h2
      | tup => rw [hv] at h2; exact fail_out hR h2
      | x g' t b c d =>
        rw [hv] at h2
        rcases when_out hR (show when (Nat.beq g' 4) (protK sk fr (l.map (spotRd C g)) (b :: acc) k) (must (Nat.beq g' 1 || Nat.ble 6 g') (protK sk fr (l.map (spotRd C g)) acc k)) = R from h2) with ⟨e, h3⟩ | ⟨e, h3⟩
        · rw [beqN] at e; subst e
          exact block hv (fun c hc => by cases hc; rfl) (fun _ _ _ _ => by simp) h3
        · obtain ⟨e2, h4⟩ := must_out hR h3
          have hne : g' ≠ 4 := fun q => by rw [q] at e; cases e
          have hn0 : g' ≠ 0 := fun q => by rw [q] at e2; cases e2
          refine plain hv ?_ (fun _ _ _ _ q => by cases q; exact hn0 rfl) h4
          unfold spotB
          split <;> first | rfl | (rename_i q; cases q; first | done | exact absurd rfl hne)
include ok hR
theorem hideK_out {k : List (Nat × Blk) → Hp → Res} : ∀ {l : List Nat} {hp : Hp} {acc : List (Nat × Blk)}, l.Nodup → hideK M l hp acc k = R →
    ∃ h1, k ((l.map fun i => (hp.rb + i, hp.at (hp.rb + i))).reverse ++ acc) h1 = R ∧ h1.nx = hp.nx ∧ h1.pr = hp.pr ∧ h1.rb = hp.rb ∧ (∀ b, (∃ i ∈ l, b = hp.rb + i) → h1.at b = .dead) ∧ ∀ b, (¬ ∃ i ∈ l, b = hp.rb + i) → h1.at b = hp.at b
  | [], hp, acc, _, h => ⟨hp, h, rfl, rfl, rfl, fun b hb => (by obtain ⟨i, hi, _⟩ := hb; cases hi), fun _ _ => rfl⟩
  | i :: l, hp, acc, hn, h => by
    rw [List.nodup_cons] at hn
    have h1 : forceN (Nat.add hp.rb i) (fun b => hp.get M b fun B => hp.put M b .dead fun hp => hideK M l hp ((b, B) :: acc) k) = R := h
    rw [forceN_eq] at h1
    have h2 := hget_out ok hR h1
    obtain ⟨hq, hs, hnx, h3⟩ := hput_out ok hR h2
    obtain ⟨h4, q1, q2, q3, q4, q5, q6⟩ := hideK_out hn.2 h3
    have hrb : hq.rb = hp.rb := hs.rb
    have hother : ∀ j ∈ l, hq.at (hp.rb + j) = hp.at (hp.rb + j) := fun j hj => hs.ne fun e => hn.1 (by
      have : j = i := by have : hp.rb + j = hp.rb + i := e; omega
      rw [← this]; exact hj)
    refine ⟨h4, ?_, q2.trans hnx, q3.trans hs.pr, q4.trans hrb, fun b hb => ?_, fun b hb => ?_⟩
    · rw [← q1]
      congr 1
      rw [List.map_cons, List.reverse_cons, List.append_assoc, hrb]
      congr 2
      exact List.map_congr_left fun j hj => by rw [hother j hj]
    · obtain ⟨j, hj, rfl⟩ := hb
      rcases List.mem_cons.1 hj with rfl | hj
      · by_cases e : ∃ j' ∈ l, hp.rb + j = hq.rb + j'
        · exact q5 _ e
        · rw [q6 _ e]; exact hs.same
      · exact q5 _ ⟨j, hj, by rw [hrb]⟩
    · have : ¬ ∃ j ∈ l, b = hq.rb + j := fun ⟨j, hj, e⟩ => hb ⟨j, List.mem_cons_of_mem _ hj, by rw [e, hrb]⟩
      rw [q6 b this]
      exact hs.ne fun e => hb ⟨i, List.mem_cons_self .., e⟩
theorem backK_out {k : Hp → Res} : ∀ {l : List (Nat × Blk)} {hp : Hp}, (l.map (·.1)).Nodup → backK M l hp k = R → ∃ h', k h' = R ∧ h'.nx = hp.nx ∧ h'.pr = hp.pr ∧ h'.rb = hp.rb ∧ (∀ p ∈ l, h'.at p.1 = p.2) ∧ ∀ b, b ∉ l.map (·.1) → h'.at b = hp.at b
  | [], hp, _, h => ⟨hp, h, rfl, rfl, rfl, fun _ h => (by cases h), fun _ _ => rfl⟩
  | p :: l, hp, hn, h => by
    rw [List.map_cons, List.nodup_cons] at hn
    obtain ⟨hq, hs, hnx, h1⟩ := hput_out ok hR (show hp.put M p.1 p.2 (fun hp => backK M l hp k) = R from h)
    obtain ⟨h', q1, q2, q3, q4, q5, q6⟩ := backK_out hn.2 h1
    refine ⟨h', q1, q2.trans hnx, q3.trans hs.pr, q4.trans hs.rb, fun x hx => ?_, fun b hb => ?_⟩
    · rcases List.mem_cons.1 hx with rfl | hx
      · rw [q6 _ hn.1]; exact hs.same
      · exact q5 x hx
    · rw [List.map_cons, List.mem_cons, not_or] at hb
      rw [q6 b hb.2]; exact hs.ne hb.1
theorem keepK_out {h : Hp} {k : Hp → Res} : ∀ {l : List Nat} {hp : Hp}, keepK M h l hp k = R → ∃ h', k h' = R ∧ h'.nx = hp.nx ∧ h'.pr = hp.pr ∧ h'.rb = hp.rb ∧ (∀ b ∈ l, Kept (h.at b) (hp.at b) (h'.at b)) ∧ ∀ b, b ∉ l → h'.at b = hp.at b
  | [], hp, g => ⟨hp, g, rfl, rfl, rfl, fun _ h => (by cases h), fun _ _ => rfl⟩
  | b :: l, hp, g => by
    have g1 := hget_out ok hR (show h.get M b (fun B => hp.get M b fun B' => Blk.rec (motive := fun _ => Res) .fail (fun _ fl z s t => B'.onRow fun rw _ _ _ _ => hp.put M b (.row rw fl z s t) fun hp => keepK M h l hp k) (fun n t => B'.onMap fun _ _ => hp.put M b (.map n t) fun hp => keepK M h l hp k) (fun _ _ _ _ => .fail) (fun _ => .fail) B) = R from g)
    have g2 := hget_out ok hR g1
    -- the rest, once the block is put
    have rest : ∀ {X : Blk}, Kept (h.at b) (hp.at b) X → hp.put M b X (fun hp => keepK M h l hp k) = R → ∃ h', k h' = R ∧ h'.nx = hp.nx ∧ h'.pr = hp.pr ∧ h'.rb = hp.rb ∧ (∀ c ∈ b :: l, Kept (h.at c) (hp.at c) (h'.at c)) ∧ ∀ c, c ∉ b :: l → h'.at c = hp.at c := by
      intro X hX g
      obtain ⟨hq, hs, hnx, g'⟩ := hput_out ok hR g
      obtain ⟨h', q1, q2, q3, q4, q5, q6⟩ := keepK_out g'
      refine ⟨h', q1, q2.trans hnx, q3.trans hs.pr, q4.trans hs.rb, fun c hc => ?_, fun c hc => ?_⟩
      · by_cases hcl : c ∈ l
        · have hk := q5 c hcl
          by_cases e : c = b
          · subst e
            rw [hs.same] at hk
            rcases hX with ⟨rw, rw', fl, fl', z, z', s, s', t, t', e1, e2, e3⟩ | ⟨n, n', t, t', e1, e2, e3⟩
            · rcases hk with ⟨rwa, rwa', fla, fla', za, za', sa, sa', ta, ta', o1, o2, o3⟩ | ⟨n, n', t, t', o1, o2, o3⟩
              · rw [e3] at o2; cases o2
                exact .inl ⟨rwa, rw', fla, fl', za, z', sa, s', ta, t', o1, e2, o3⟩
              · rw [e1] at o1; cases o1
            · rcases hk with ⟨rwa, rwa', fla, fla', za, za', sa, sa', ta, ta', o1, o2, o3⟩ | ⟨na, na', ta, ta', o1, o2, o3⟩
              · rw [e1] at o1; cases o1
              · exact .inr ⟨na, n', ta, t', o1, e2, o3⟩
          · rw [hs.ne e] at hk; exact hk
        · have e : c = b := (List.mem_cons.1 hc).resolve_right hcl
          subst e
          rw [q6 c hcl, hs.same]; exact hX
      · rw [List.mem_cons, not_or] at hc
        rw [q6 c hc.2]; exact hs.ne hc.1
    cases hB : h.at b with
    | dead => rw [hB] at g2; exact fail_out hR g2
    | fwd i => rw [hB] at g2; exact fail_out hR g2
    | loop => rw [hB] at g2; exact fail_out hR g2
    | row rw fl z s t =>
      rw [hB] at g2
      obtain ⟨rw', fl', z', s', t', e, g3⟩ := onRow_out hR g2
      exact rest (by rw [hB]; exact .inl ⟨_, _, _, _, _, _, _, _, _, _, rfl, e, rfl⟩) g3
    | map n t =>
      rw [hB] at g2
      obtain ⟨n', t', e, g3⟩ := onMap_out hR g2
      exact rest (by rw [hB]; exact .inr ⟨_, _, _, _, rfl, e, rfl⟩) g3
omit ok hR in
theorem appN_eq (a b : List Nat) : appN a b = a ++ b := by
  induction a with
  | nil => rfl
  | cons x a ih => exact congrArg (x :: ·) ih
/-- What a wrapped operation does: it is run in the heap hA, with h2 behind it. -/
structure Wrapped (A pl : List Nat) (hp hA h2 h4 : Hp) : Prop where
  anx : hA.nx = hp.nx
  arb : hA.rb = hp.rb
  apr : hA.pr = pl ++ hp.pr
  ain : ∀ b, (∃ i ∈ A, b = hp.rb + i) → hA.at b = .dead
  aout : ∀ b, (¬ ∃ i ∈ A, b = hp.rb + i) → hA.at b = hp.at b
  nx : h4.nx = h2.nx
  nxle : hp.nx ≤ h4.nx
  pr : h4.pr = hp.pr
  rb : h4.rb = hp.rb
  kin : ∀ b, (∃ i ∈ A, b = hp.rb + i) → b ∉ pl → h4.at b = hp.at b
  kout : ∀ b, (¬ ∃ i ∈ A, b = hp.rb + i) → b ∉ pl → h4.at b = h2.at b
  pin : ∀ b, (∃ i ∈ A, b = hp.rb + i) → b ∈ pl → Kept (hp.at b) (hp.at b) (h4.at b)
  pout : ∀ b, (¬ ∃ i ∈ A, b = hp.rb + i) → b ∈ pl → Kept (hp.at b) (h2.at b) (h4.at b)
theorem wrapS_out {C : Cx} {g : G} {A : List Nat} (hA : A.Nodup) {l : List Dr} {s : Sm} {P : Pt} {k : Sm} {sk : Row} {fr : Fr} {hp : Hp} (h : (wrapS M A (l.map (spotRd C g)) s P k).run sk fr hp = R) :
    ∃ pl hA v h2 h4, s.run sk fr hA = .val v h2 ∧ P.f k sk fr h4 v = R ∧ Wrapped A pl hp hA h2 h4 ∧ ∀ y ∈ l, ∃ p, spot y.o.op = some p ∧ (∀ t a b c, ov C g sk fr p ≠ .x 0 t a b c) ∧ ∀ b, spotB (ov C g sk fr p) = some b → b ∈ pl := by
  obtain ⟨pl, h1, _, hpl⟩ := protK_out hR (show protK sk fr (l.map (spotRd C g)) [] (fun pl => hideK M A hp [] fun sv h1 =>
    Res.rec (motive := fun _ => Res) (fun _ _ => .fail) (fun _ _ _ => .fail) (fun _ _ => .fail) (fun v h2 => backK M sv h2 fun h3 => keepK M hp pl h3 fun h4 => Hp.rec (motive := fun _ => Res) (fun t nx _ _ => Hp.rec (motive := fun _ => Res) (fun _ nx0 pr rb => must (Nat.ble nx0 nx) (P.f k sk fr ⟨t, nx, pr, rb⟩ v)) hp) h4) .fail (s.run sk fr (h1.prot (appN pl hp.pr)))) = R from h)
  obtain ⟨hH, h2, a1, a2, a3, a4, a5⟩ := hideK_out ok hR hA h1
  rw [List.append_nil] at h2
  cases hres : s.run sk fr (hH.prot (appN pl hp.pr)) with
  | val v hq =>
    rw [hres] at h2
    have hnd : (((A.map fun i => (hp.rb + i, hp.at (hp.rb + i))).reverse).map (·.1)).Nodup := by
      rw [List.map_reverse, List.map_map]
      show (List.reverse (A.map fun i => hp.rb + i)).Nodup
      exact List.pairwise_reverse.2 (List.Pairwise.map (fun i => hp.rb + i) (fun a b hne e => hne (by omega)) hA)
    obtain ⟨h3, g1, b1, b2, b3, b4, b5⟩ := backK_out ok hR hnd (show backK M ((A.map fun i => (hp.rb + i, hp.at (hp.rb + i))).reverse) hq (fun h3 => keepK M hp pl h3 fun h4 => Hp.rec (motive := fun _ => Res) (fun t nx _ _ => Hp.rec (motive := fun _ => Res) (fun _ nx0 pr rb => must (Nat.ble nx0 nx) (P.f k sk fr ⟨t, nx, pr, rb⟩ v)) hp) h4) = R from h2)
    obtain ⟨h4, g2, c1, c2, c3, c4, c5⟩ := keepK_out ok hR g1
    obtain ⟨hle, g3⟩ := must_out hR (show must (Nat.ble hp.nx h4.nx) (P.f k sk fr ⟨h4.t, h4.nx, hp.pr, hp.rb⟩ v) = R from g2)
    rw [bleN] at hle
    have hback : ∀ b, (∃ i ∈ A, b = hp.rb + i) → h3.at b = hp.at b := fun b ⟨i, hi, e⟩ => by
      subst e
      exact b4 (hp.rb + i, hp.at (hp.rb + i)) (List.mem_reverse.2 (List.mem_map.2 ⟨i, hi, rfl⟩))
    have hstay : ∀ b, (¬ ∃ i ∈ A, b = hp.rb + i) → h3.at b = hq.at b := fun b hb => b5 b fun hm => hb (by
      obtain ⟨p, hp', rfl⟩ := List.mem_map.1 hm
      obtain ⟨i, hi, rfl⟩ := List.mem_map.1 (List.mem_reverse.1 hp')
      exact ⟨i, hi, rfl⟩)
    refine ⟨pl, hH.prot (appN pl hp.pr), v, hq, ⟨h4.t, h4.nx, hp.pr, hp.rb⟩, hres, g3, ⟨a1, a3, appN_eq _ _, a4, a5, c1.trans b1, hle, rfl, rfl, fun b hb hn => ?_, fun b hb hn => ?_, fun b hb hi => ?_, fun b hb hi => ?_⟩, hpl⟩
    · exact (c5 b hn).trans (hback b hb)
    · exact (c5 b hn).trans (hstay b hb)
    · have := c4 b hi
      rw [hback b hb] at this; exact this
    · have := c4 b hi
      rw [hstay b hb] at this; exact this
  | _ => rw [hres] at h2; exact fail_out hR h2
end
end Go.Proofs.YtlffjnddiiojnaaGreatDoor.Ev

/- Regions that draw their order: the evaluator's way through them. -/
namespace Go.Proofs.YtlffjnddiiojnaaGreatDoor.Ev
theorem Knd.up {V : Env} {O : Operand → AV} {o : Oper} {id : Nat} {hp : Hp} {v : AV} {hp' : Hp} {kd : Nat} (k : Knd V O o id hp v hp' kd) (hd : ∀ c, o.op ≠ .defer c) : Knd V O o id hp v hp' 3 := .other fun hO hid H hK => k.wp hd hO hid H hK
theorem OpStep.low {V : Env} {ops : Array Oper} {O : Operand → AV} {o : Oper} {id : Nat} {hp : Hp} {v : AV} {hp' : Hp} {kd : Nat} (s : OpStep V ops O o id hp v hp' kd) (hk : kd ≤ 2) : hp.nx ≤ hp'.nx ∧ hp'.rb = hp.rb ∧ hp'.pr = hp.pr := by
  cases s with
  | skip hw hv hh => subst hh; exact ⟨Nat.le_refl _, rfl, rfl⟩
  | run hw hd k =>
    cases k with
    | pure h => subst h; exact ⟨Nat.le_refl _, rfl, rfl⟩
    | read p h => subst h; exact ⟨Nat.le_refl _, rfl, rfl⟩
    | make B hs hn => exact ⟨hs.nx, hs.rb, hs.pr⟩
    | other => omega
/-- A place on the way. -/
structure TP where
  x : Dr
  σ : Nat → AV
  σ' : Nat → AV
  O : Operand → AV
  h : Hp
  h' : Hp
  hA : Hp
  hB : Hp
  A : List Nat
  pl : List Nat
  v : AV
  kd : Nat
structure TPOk (V : Env) (ops : Array Oper) (nt rb n : Nat) (all dn : List Dr) (p : TP) : Prop where
  step : OpStep V ops p.O p.x.o (rb + p.x.i) p.hA p.v p.hB p.kd
  kdc : (p.kd = 3 ∧ 3 ≤ p.x.c) ∨ (p.kd ≤ 2 ∧ (p.kd = 1 → p.x.c = 1) ∧ (p.kd = 2 → p.x.c = 2))
  slot : SlStep p.σ p.σ' p.x.o.dst p.v
  dst : ∀ t, p.x.o.dst = some t → t < nt
  os : ∀ t, p.O (.tmp t) = p.σ t
  oo : ∀ (x : Operand) {w : World} {F : Nat → Prop} {μ : Mu} {a : Act}, V.Glo w F → (∀ t, x = .tmp t → CRel w F μ (p.σ t) (a.tmps.getD t undef)) → CRel w F μ (p.O x) (a.eval x)
  oc : ∀ x : Operand, (∀ t, x ≠ .tmp t) → spotB (p.O x) = none
  hrb : p.h.rb = rb
  nx : rb + n ≤ p.h.nx
  low : p.kd ≤ 2 → p.hA = p.h ∧ p.h' = p.hB
  wrap : p.kd = 3 → Wrapped p.A p.pl p.h p.hA p.hB p.h'
  looseA : p.kd = 3 → p.A = Go.Proofs.YtlffjnddiiojnaaGreatDoor.Ev.looseA p.x dn
  looseL : p.kd = 3 → ∀ y ∈ Go.Proofs.YtlffjnddiiojnaaGreatDoor.Ev.looseL p.x dn, spotOk all y = true ∧ ∃ q, spot y.o.op = some q ∧ (∀ t a b c, p.O q ≠ .x 0 t a b c) ∧ ∀ b, spotB (p.O q) = some b → b ∈ p.pl
inductive Trace (V : Env) (ops : Array Oper) (nt rb n : Nat) (all : List Dr) : (Nat → AV) → Hp → List Dr → List Dr → List TP → (Nat → AV) → Hp → Prop
  | nil (σ : Nat → AV) (h : Hp) (dn : List Dr) : Trace V ops nt rb n all σ h [] dn [] σ h
  | cons {l dn : List Dr} {ts : List TP} {σe : Nat → AV} {he : Hp} (p : TP) (ok : TPOk V ops nt rb n all dn p) (t : Trace V ops nt rb n all p.σ' p.h' l (p.x :: dn) ts σe he) : Trace V ops nt rb n all p.σ p.h (p.x :: l) dn (p :: ts) σe he
theorem looseA_cons (x y : Dr) (l : List Dr) : looseA x (y :: l) = if band (Nat.beq y.c 2) (bnot (bit x.m y.i)) = true then y.i :: looseA x l else looseA x l := bcase _ _ _
theorem looseL_cons (x y : Dr) (l : List Dr) : looseL x (y :: l) = if band (Nat.beq y.c 1) (bnot (bit x.m y.i)) = true then y :: looseL x l else looseL x l := bcase _ _ _
theorem looseA_sub (x : Dr) : ∀ (l : List Dr), (looseA x l).Sublist (l.map (·.i))
  | [] => List.Sublist.slnil
  | y :: l => by
    rw [looseA_cons, List.map_cons]
    split
    · exact (looseA_sub x l).cons_cons _
    · exact (looseA_sub x l).cons _
theorem loose_test {y x : Dr} {c : Nat} : band (Nat.beq y.c c) (bnot (bit x.m y.i)) = true ↔ y.c = c ∧ bit x.m y.i = false := by
  rw [band_eq, beqN, bnot_eq, Bool.not_eq_true']
theorem mem_looseA {x : Dr} {i : Nat} : ∀ {l : List Dr}, i ∈ looseA x l ↔ ∃ y ∈ l, y.i = i ∧ y.c = 2 ∧ bit x.m y.i = false
  | [] => ⟨fun h => (by cases h), fun ⟨_, h, _⟩ => by cases h⟩
  | y :: l => by
    rw [looseA_cons]
    by_cases e : band (Nat.beq y.c 2) (bnot (bit x.m y.i)) = true
    · rw [if_pos e, List.mem_cons, mem_looseA]
      rw [loose_test] at e
      constructor
      · rintro (rfl | ⟨z, h1, h2⟩)
        · exact ⟨y, List.mem_cons_self .., rfl, e⟩
        · exact ⟨z, List.mem_cons_of_mem _ h1, h2⟩
      · rintro ⟨z, h1, h2⟩
        rcases List.mem_cons.1 h1 with rfl | h1
        · exact .inl h2.1.symm
        · exact .inr ⟨z, h1, h2⟩
    · rw [if_neg e, mem_looseA]
      rw [loose_test] at e
      constructor
      · rintro ⟨z, h1, h2⟩; exact ⟨z, List.mem_cons_of_mem _ h1, h2⟩
      · rintro ⟨z, h1, h2⟩
        rcases List.mem_cons.1 h1 with rfl | h1
        · exact absurd h2.2 e
        · exact ⟨z, h1, h2⟩
theorem mem_looseL {x y : Dr} : ∀ {l : List Dr}, y ∈ looseL x l ↔ y ∈ l ∧ y.c = 1 ∧ bit x.m y.i = false
  | [] => ⟨fun h => (by cases h), fun ⟨h, _⟩ => by cases h⟩
  | z :: l => by
    rw [looseL_cons]
    by_cases e : band (Nat.beq z.c 1) (bnot (bit x.m z.i)) = true
    · rw [if_pos e, List.mem_cons, mem_looseL, List.mem_cons]
      rw [loose_test] at e
      constructor
      · rintro (rfl | ⟨h1, h2⟩)
        · exact ⟨.inl rfl, e⟩
        · exact ⟨.inr h1, h2⟩
      · rintro ⟨rfl | h1, h2⟩
        · exact .inl rfl
        · exact .inr ⟨h1, h2⟩
    · rw [if_neg e, mem_looseL, List.mem_cons]
      rw [loose_test] at e
      constructor
      · rintro ⟨h1, h2⟩; exact ⟨.inr h1, h2⟩
      · rintro ⟨rfl | h1, h2⟩
        · exact absurd h2 e
        · exact ⟨h1, h2⟩
theorem free_spot {a : AV} (h : a.isFree = true) : spotB a = none := by
  cases a with
  | x gg t a b c =>
    unfold spotB
    split <;> first | rfl | (rename_i q; cases q; first | done | (cases h))
  | _ => first | rfl | cases h
theorem ov_spot {C : Cx} {g : G} {sk : Row} {fr : Fr} {vs : Vs} (hgl : GlOk C vs) (x : Operand) (hx : ∀ t, x ≠ .tmp t) : spotB (ov C g sk fr x) = none := by
  cases x with
  | tmp t => exact absurd rfl (hx t)
  | const v =>
    show spotB (constAV v) = none
    by_cases h : ∃ cs, v = .agg cs
    · obtain ⟨cs, rfl⟩ := h
      rw [constAV_agg]
      split <;> rfl
    · rw [constAV_cell fun cs e => h ⟨cs, e⟩]
      exact free_spot (constCell_free v)
  | func f => rfl
  | global n =>
    rcases ov_glob (C := C) (g := g) (sk := sk) (fr := fr) n with e | ⟨p, hp, _, e⟩
    · rw [e]; rfl
    · obtain ⟨t, a, b, c, e2⟩ := (hgl p hp).1
      rw [e, e2]; rfl
section
variable {C : Cx} {vs : Vs} {R : Res} (ok : MemOk C.M) (hR : R ≠ .fail) {ops : Array Oper}
include ok hR
theorem denD_out (hc : CallsOk C (C.env vs)) (hgl : GlOk C vs) {all : List Dr} {rb n : Nat} {g : G} (hg : GInv C g) {x : Dr} {rest dn : List Dr} {k : G → Sm} {sk : Row} {fr : Fr} {hp : Hp} (hx : x.i < n) (hcls : x.c = cls C.P x.o.op) (hrb : hp.rb = rb) (hnx : rb + n ≤ hp.nx) (hnd : (dn.map (·.i)).Nodup)
    (h : (denD C ops all g x rest dn k).run sk fr hp = R) : ∃ p : TP, ∃ g' sk' fr', (k g').run sk' fr' p.h' = R ∧ GInv C g' ∧ p.x = x ∧ p.σ = sig C g sk fr ∧ p.h = hp ∧ p.σ' = sig C g' sk' fr' ∧ TPOk (C.env vs) ops C.nt rb n all dn p ∧ p.h'.rb = rb ∧ rb + n ≤ p.h'.nx := by
  have hN : NSpec (newD C.M x.i) hp (rb + x.i) := by rw [← hrb]; exact newD_ok ok (by omega)
  -- of a step that is not wrapped
  have low : ∀ {g' : G} {sk' : Row} {fr' : Fr} {v : AV} {hp' : Hp} {kd : Nat}, (k g').run sk' fr' hp' = R → OpStep (C.env vs) ops (ov C g sk fr) x.o (rb + x.i) hp v hp' kd → kd ≤ 2 → (kd = 1 → x.c = 1) → (kd = 2 → x.c = 2) → GInv C g' → SlStep (sig C g sk fr) (sig C g' sk' fr') x.o.dst v → (∀ t, x.o.dst = some t → t < C.nt) →
      ∃ p : TP, ∃ g' sk' fr', (k g').run sk' fr' p.h' = R ∧ GInv C g' ∧ p.x = x ∧ p.σ = sig C g sk fr ∧ p.h = hp ∧ p.σ' = sig C g' sk' fr' ∧ TPOk (C.env vs) ops C.nt rb n all dn p ∧ p.h'.rb = rb ∧ rb + n ≤ p.h'.nx := by
    intro g' sk' fr' v hp' kd h1 h2 hk hk1 hk2 h3 h4 h5
    obtain ⟨l1, l2, l3⟩ := h2.low hk
    refine ⟨⟨x, sig C g sk fr, sig C g' sk' fr', ov C g sk fr, hp, hp', hp, hp', [], [], v, kd⟩, g', sk', fr', h1, h3, rfl, rfl, rfl, rfl, ⟨h2, .inr ⟨hk, hk1, hk2⟩, h4, h5, fun t => rfl, fun y => fun hG => ov_rel hgl hG y, ov_spot hgl, hrb, hnx, fun _ => ⟨rfl, rfl⟩, ?_, ?_, ?_⟩, l2.trans hrb, Nat.le_trans hnx l1⟩ <;> exact fun e => absurd e (by show kd ≠ 3; omega)
  have zero : (∃ g' sk' fr' v hp', (k g').run sk' fr' hp' = R ∧ OpStep (C.env vs) ops (ov C g sk fr) x.o (rb + x.i) hp v hp' 0 ∧ GInv C g' ∧ SlStep (sig C g sk fr) (sig C g' sk' fr') x.o.dst v ∧ ∀ t, x.o.dst = some t → t < C.nt) → ∃ p : TP, ∃ g' sk' fr', (k g').run sk' fr' p.h' = R ∧ GInv C g' ∧ p.x = x ∧ p.σ = sig C g sk fr ∧ p.h = hp ∧ p.σ' = sig C g' sk' fr' ∧ TPOk (C.env vs) ops C.nt rb n all dn p ∧ p.h'.rb = rb ∧ rb + n ≤ p.h'.nx :=
    fun ⟨g', sk', fr', v, hp', h1, h2, h3, h4, h5⟩ => low h1 h2 (by omega) (fun e => by omega) (fun e => by omega) h3 h4 h5
  have run : Wants (ov C g sk fr) ops x.o true → (denW C g all x dn (dst C g x.o.dst).p (k (dst C g x.o.dst).g)).run sk fr hp = R → ∃ p : TP, ∃ g' sk' fr', (k g').run sk' fr' p.h' = R ∧ GInv C g' ∧ p.x = x ∧ p.σ = sig C g sk fr ∧ p.h = hp ∧ p.σ' = sig C g' sk' fr' ∧ TPOk (C.env vs) ops C.nt rb n all dn p ∧ p.h'.rb = rb ∧ rb + n ≤ p.h'.nx := by
    intro hw h
    unfold denW at h
    cases hcc : Nat.ble x.c 2 with
    | true =>
      rw [hcc] at h
      rw [bleN] at hcc
      obtain ⟨v, hp', kd, h1, h2, h3, h4⟩ := denOp_out (vs := vs) ok hR hN x.o (fun f as ts hop hh => hc x.o f as ts hR hop hh) h
      obtain ⟨g', sk', fr', h5, h6, h7, h8⟩ := dst_out hR hg h1
      rw [← hcls] at h3
      have hkd : kd ≤ 2 ∧ (kd = 1 → x.c = 1) ∧ (kd = 2 → x.c = 2) := by rcases h3 with q | q | q | q <;> omega
      exact low h5 (.run hw h4 h2) hkd.1 hkd.2.1 hkd.2.2 h6 h7 h8
    | false =>
      rw [hcc] at h
      have hc3 : 3 ≤ x.c := by
        have : ¬ x.c ≤ 2 := fun e => by rw [ble_true e] at hcc; cases hcc
        omega
      obtain ⟨hsp, h1⟩ := iff_out hR h
      have hAnd : (looseA x dn).Nodup := hnd.sublist (looseA_sub x dn)
      obtain ⟨pl, hA, v, h2, h4, r1, r2, r3, r4⟩ := wrapS_out ok hR hAnd h1
      have hNA : NSpec (newD C.M x.i) hA (rb + x.i) := by
        have e : hA.rb + x.i = rb + x.i := by rw [r3.arb, hrb]
        have hlt : hA.rb + x.i < hA.nx := by rw [r3.arb, r3.anx, hrb]; omega
        rw [← e]; exact fun {R} => newD_ok ok hlt
      have hR2 : Res.val v h2 ≠ .fail := by simp
      obtain ⟨v', hp', kd, q1, q2, q3, q4⟩ := denOp_out (vs := vs) ok hR2 hNA x.o (fun f as ts hop hh => hc x.o f as ts hR2 hop hh) r1
      have q1' : Res.val v' hp' = Res.val v h2 := q1
      cases q1'
      obtain ⟨g', sk', fr', h5, h6, h7, h8⟩ := dst_out hR hg r2
      refine ⟨⟨x, sig C g sk fr, sig C g' sk' fr', ov C g sk fr, hp, h4, hA, h2, looseA x dn, pl, v, 3⟩, g', sk', fr', h5, h6, rfl, rfl, rfl, rfl, ⟨.run hw q4 (q2.up q4), .inl ⟨rfl, hc3⟩, h7, h8, fun t => rfl, fun y => fun hG => ov_rel hgl hG y, ov_spot hgl, hrb, hnx, fun e => absurd e (by show ¬ 3 ≤ 2; omega), fun _ => r3, fun _ => rfl, fun _ y hy => ⟨allL_out hsp y hy, r4 y hy⟩⟩, r3.rb.trans hrb, Nat.le_trans hnx r3.nxle⟩
  unfold denD at h
  split at h
  · rename_i a ha
    obtain ⟨hb, h'⟩ := iff_out hR h
    rw [bleN] at hb
    obtain ⟨y, hop, hgd, hdst, hgi, hsl⟩ := alias_out hg ha sk fr
    have hd : ∀ c, x.o.op ≠ .defer c := by rcases hop with e | e <;> rw [e] <;> simp
    refine zero ⟨_, sk, fr, _, hp, h', .run (wants_none hgd) hd (.pure rfl fun {w F μ ρ} hO => ⟨.value (ρ y), _, ?_, .inl rfl, hO y (by rcases hop with e | e <;> rw [e] <;> simp [Op.operands])⟩), hgi, hsl, fun t e => by rw [hdst] at e; cases e; exact hb⟩
    rcases hop with e | e <;> simp only [execOp, e, Sem.run_pure]
  · have e' : (match x.o.guard with
        | none => denW C g all x dn (dst C g x.o.dst).p (k (dst C g x.o.dst).g)
        | some (j, want) => guarded C g (dst C g x.o.dst).p (k (dst C g x.o.dst).g) (denW C g all x dn (dst C g x.o.dst).p (k (dst C g x.o.dst).g)) ((ops[j]?).bind (·.dst)) want : Sm).run sk fr hp = R := h
    split at e'
    · rename_i hgd
      exact run (wants_none hgd) e'
    · rename_i j want hgd
      rcases guarded_out hR hgd e' with ⟨hw, h1⟩ | ⟨hw, h1⟩
      · exact run hw h1
      · obtain ⟨g', sk', fr', h5, h6, h7, h8⟩ := dst_out hR hg h1
        exact zero ⟨g', sk', fr', _, hp, h5, .skip hw rfl rfl, h6, h7, h8⟩
theorem denDs_out (hc : CallsOk C (C.env vs)) (hgl : GlOk C vs) {all : List Dr} {rb n : Nat} {k : G → Sm} : ∀ (l : List Dr) {g : G} {dn : List Dr} {sk : Row} {fr : Fr} {hp : Hp}, GInv C g → (∀ x ∈ l, x.i < n ∧ x.c = cls C.P x.o.op) → hp.rb = rb → rb + n ≤ hp.nx → (l.map (·.i) ++ dn.map (·.i)).Nodup →
    (denDs C ops all l g k dn).run sk fr hp = R → ∃ ts g' sk' fr' hp', (k g').run sk' fr' hp' = R ∧ GInv C g' ∧ Trace (C.env vs) ops C.nt rb n all (sig C g sk fr) hp l dn ts (sig C g' sk' fr') hp'
  | [], g, dn, sk, fr, hp, hg, _, _, _, _, h => ⟨[], g, sk, fr, hp, h, hg, .nil _ _ _⟩
  | x :: l, g, dn, sk, fr, hp, hg, hx, hrb, hnx, hnd, h => by
    have h' : (denD C ops all g x l dn fun g => denDs C ops all l g k (x :: dn)).run sk fr hp = R := h
    have hnd2 : (dn.map (·.i)).Nodup := (List.nodup_append.1 hnd).2.1
    obtain ⟨p, g1, sk1, fr1, h1, hg1, px, pσ, ph, pσ', pok, prb, pnx⟩ := denD_out (vs := vs) ok hR hc hgl hg (hx x (List.mem_cons_self ..)).1 (hx x (List.mem_cons_self ..)).2 hrb hnx hnd2 h'
    have hnd3 : (l.map (·.i) ++ (x :: dn).map (·.i)).Nodup := by
      rw [List.map_cons, List.cons_append, List.nodup_cons] at hnd
      rw [List.map_cons]
      rw [List.nodup_append] at hnd ⊢
      obtain ⟨q1, q2, q3, q4⟩ := hnd
      rw [List.mem_append, not_or] at q1
      refine ⟨q2, List.nodup_cons.2 ⟨q1.2, q3⟩, fun a ha b hb e => ?_⟩
      rcases List.mem_cons.1 hb with rfl | hb
      · exact q1.1 (e ▸ ha)
      · exact q4 a ha b hb e
    obtain ⟨ts, g', sk', fr', hp', h2, hg', ht⟩ := denDs_out hc hgl l hg1 (fun y hy => hx y (List.mem_cons_of_mem _ hy)) prb pnx hnd3 h1
    refine ⟨p :: ts, g', sk', fr', hp', h2, hg', ?_⟩
    rw [← pσ'] at ht
    rw [← px] at ht ⊢
    rw [← pσ, ← ph]
    exact .cons p pok ht
end
end Go.Proofs.YtlffjnddiiojnaaGreatDoor.Ev

/- Regions that draw their order: the plan as functions of places. -/
namespace Go.Proofs.YtlffjnddiiojnaaGreatDoor.Ev
instance : Inhabited Dr := ⟨⟨0, default, 0, 0, []⟩⟩
instance : Inhabited TP := ⟨⟨default, fun _ => .undef, fun _ => .undef, fun _ => .undef, .empty, .empty, .empty, .empty, [], [], .undef, 0⟩⟩
/-- What is known of a way through a region, place by place. -/
structure Plan (V : Env) (ops : Array Oper) (nt rb n : Nat) (all : List Dr) (T : Nat → TP) (H : Nat → Hp) (S : Nat → Nat → AV) : Prop where
  tp : ∀ k, k < n → ∃ dn, TPOk V ops nt rb n all dn (T k) ∧ ∀ y, y ∈ dn ↔ ∃ q, q < k ∧ (T q).x = y
  hk : ∀ k, k < n → (T k).h = H k ∧ (T k).h' = H (k + 1)
  sk : ∀ k, k < n → (T k).σ = S k ∧ (T k).σ' = S (k + 1)
  op : ∀ k, k < n → ops[(T k).x.i]? = some (T k).x.o ∧ (T k).x.m = msk ops (T k).x.i ∧ (T k).x.r = readsOf ops (T k).x.o ∧ (T k).x.i < n
  mem : ∀ k, k < n → (T k).x ∈ all
  mem' : ∀ y, y ∈ all → ∃ k, k < n ∧ (T k).x = y
  inj : ∀ k j, k < n → j < n → (T k).x.i = (T j).x.i → k = j
  surj : ∀ i, i < n → ∃ k, k < n ∧ (T k).x.i = i
  top : ∀ k j, k < n → j < n → bit (T k).x.m (T j).x.i = true → j < k
  pair : ∀ k j, k < j → j < n → slotOk (T k).x (T j).x = true ∧ slotOk (T j).x (T k).x = true ∧ pairOk (T k).x (T j).x = true
theorem Trace.spec {V : Env} {ops : Array Oper} {nt rb n : Nat} {all : List Dr} {σ : Nat → AV} {h : Hp} {l dn : List Dr} {ts : List TP} {σe : Nat → AV} {he : Hp} (t : Trace V ops nt rb n all σ h l dn ts σe he) :
    ts.map (·.x) = l ∧ (∀ (k : Nat) (p : TP), ts[k]? = some p → ∃ dnk, TPOk V ops nt rb n all dnk p ∧ ∀ y, y ∈ dnk ↔ y ∈ dn ∨ ∃ (q : Nat) (pq : TP), q < k ∧ ts[q]? = some pq ∧ pq.x = y) ∧
    (((ts[0]?).map (·.h)).getD he = h ∧ ∀ (k : Nat) (p : TP), ts[k]? = some p → ((ts[k + 1]?).map (·.h)).getD he = p.h') ∧
    (((ts[0]?).map (·.σ)).getD σe = σ ∧ ∀ (k : Nat) (p : TP), ts[k]? = some p → ((ts[k + 1]?).map (·.σ)).getD σe = p.σ') := by
  induction t with
  | nil => exact ⟨rfl, fun k p h => (by cases h), ⟨rfl, fun k p h => (by cases h)⟩, ⟨rfl, fun k p h => (by cases h)⟩⟩
  | cons p ok t ih =>
    obtain ⟨h1, h2, ⟨h3, h4⟩, ⟨h5, h6⟩⟩ := ih
    refine ⟨by rw [List.map_cons, h1], fun k q hq => ?_, ⟨rfl, fun k q hq => ?_⟩, ⟨rfl, fun k q hq => ?_⟩⟩
    · cases k with
      | zero =>
        cases hq
        exact ⟨_, ok, fun y => ⟨.inl, fun h => h.elim id fun ⟨q, _, hq, _⟩ => absurd hq (Nat.not_lt_zero _)⟩⟩
      | succ k =>
        obtain ⟨dnk, q1, q2⟩ := h2 k q hq
        refine ⟨dnk, q1, fun y => (q2 y).trans ⟨fun h => ?_, fun h => ?_⟩⟩
        · rcases h with h | ⟨j, pj, hj, hpj, e⟩
          · rcases List.mem_cons.1 h with rfl | h
            · exact .inr ⟨0, p, Nat.succ_pos _, rfl, rfl⟩
            · exact .inl h
          · exact .inr ⟨j + 1, pj, Nat.succ_lt_succ hj, hpj, e⟩
        · rcases h with h | ⟨j, pj, hj, hpj, e⟩
          · exact .inl (List.mem_cons_of_mem _ h)
          · cases j with
            | zero => cases hpj; exact .inl (e ▸ List.mem_cons_self ..)
            | succ j => exact .inr ⟨j, pj, Nat.lt_of_succ_lt_succ hj, hpj, e⟩
    · cases k with
      | zero => cases hq; exact h3
      | succ k => exact h4 k q hq
    · cases k with
      | zero => cases hq; exact h5
      | succ k => exact h6 k q hq
theorem drs_mem {P : Program} {ops : Array Oper} {ms : List Nat} {l : List Oper} {i0 j : Nat} (h : j < l.length) : ∃ x ∈ drs P ops l ms i0, x.i = i0 + j := by
  have hm : i0 + j ∈ (drs P ops l ms i0).map (·.i) := by rw [drs_ids, List.mem_range']; exact ⟨j, h, by omega⟩
  obtain ⟨x, h1, h2⟩ := List.mem_map.1 hm
  exact ⟨x, h1, h2⟩
theorem drs_len {P : Program} {ops : Array Oper} {ms : List Nat} (l : List Oper) (i0 : Nat) : (drs P ops l ms i0).length = l.length := by
  have := congrArg List.length (drs_ids (P := P) (ops := ops) (ms := ms) l i0)
  rw [List.length_map, List.length_range'] at this
  exact this
/-- The plan of a way. -/
theorem Trace.plan {V : Env} {ops : Array Oper} {nt rb : Nat} {σ : Nat → AV} {h : Hp} {l : List Dr} {ts : List TP} {σe : Nat → AV} {he : Hp} (hl : l = order ops.size 0 (drs V.P ops ops.toList (revN (masksR ops.toList [] 0) []) 0)) (hd : drawOk l ops.size = true)
    (t : Trace V ops nt rb ops.size l σ h l [] ts σe he) : ∃ T H S, Plan V ops nt rb ops.size l T H S ∧ H 0 = h ∧ H ops.size = he ∧ S 0 = σ ∧ S ops.size = σe := by
  obtain ⟨h1, h2, ⟨h3, h4⟩, ⟨h5, h6⟩⟩ := t.spec
  have hlen0 : ∀ l : List Dr, (List.rec (motive := fun _ => Nat) 0 (fun _ _ ih => Nat.succ ih) l : Nat) = l.length := fun l => by
    induction l with
    | nil => rfl
    | cons x l ih => exact congrArg Nat.succ ih
  unfold drawOk at hd
  rw [band_eq, hlen0, beqN] at hd
  obtain ⟨hlen, hpairs⟩ := hd
  have hts : ts.length = ops.size := by rw [← hlen, ← h1, List.length_map]
  have hget : ∀ k, k < ops.size → ts[k]? = some (ts.getD k default) := fun k hk => by
    rw [List.getD_eq_getElem?_getD, List.getElem?_eq_getElem (by omega)]; rfl
  have hx : ∀ k, k < ops.size → l[k]? = some (ts.getD k default).x := fun k hk => by rw [← h1, List.getElem?_map, hget k hk]; rfl
  have hids : ((drs V.P ops ops.toList (revN (masksR ops.toList [] 0) []) 0).map (·.i)).Nodup := by rw [drs_ids]; exact List.nodup_range'
  have hord := order_spec ops.size 0 (drs V.P ops ops.toList (revN (masksR ops.toList [] 0) []) 0) hids
  rw [← hl] at hord
  have hpair := pairs_out hpairs
  refine ⟨fun k => ts.getD k default, fun k => ((ts[k]?).map (·.h)).getD he, fun k => ((ts[k]?).map (·.σ)).getD σe, ⟨fun k hk => ?_, fun k hk => ?_, fun k hk => ?_, fun k hk => ?_, fun k hk => ?_, fun y hy => ?_, fun k j hk hj e => ?_, fun i hi => ?_, fun k j hk hj hb => ?_, fun k j hkj hj => ?_⟩, h3, ?_, h5, ?_⟩
  · obtain ⟨dnk, q1, q2⟩ := h2 k _ (hget k hk)
    refine ⟨dnk, q1, fun y => (q2 y).trans ⟨fun h => ?_, fun ⟨q, hq, e⟩ => .inr ⟨q, _, hq, hget q (by omega), e⟩⟩⟩
    rcases h with h | ⟨q, pq, hq, hpq, e⟩
    · cases h
    · rw [hget q (by omega)] at hpq; cases hpq
      exact ⟨q, hq, e⟩
  · refine ⟨?_, (h4 k _ (hget k hk)).symm⟩
    show (ts.getD k default).h = ((ts[k]?).map (·.h)).getD he
    rw [hget k hk]; rfl
  · refine ⟨?_, (h6 k _ (hget k hk)).symm⟩
    show (ts.getD k default).σ = ((ts[k]?).map (·.σ)).getD σe
    rw [hget k hk]; rfl
  · have hm := (hord k _ (hx k hk)).1
    obtain ⟨j, o, e1, e2⟩ := drs_get hm
    show ops[(ts.getD k default).x.i]? = some (ts.getD k default).x.o ∧ (ts.getD k default).x.m = msk ops (ts.getD k default).x.i ∧ (ts.getD k default).x.r = readsOf ops (ts.getD k default).x.o ∧ (ts.getD k default).x.i < ops.size
    rw [e2]
    simp only [Nat.zero_add]
    rw [Array.getElem?_toList] at e1
    exact ⟨e1, by first | trivial | rfl, by first | trivial | rfl, (Array.getElem?_eq_some_iff.1 e1).1⟩
  · exact List.mem_of_getElem? (hx k hk)
  · obtain ⟨k, hk, e⟩ := List.getElem_of_mem hy
    refine ⟨k, by omega, ?_⟩
    have := hx k (by omega)
    rw [List.getElem?_eq_getElem hk, e] at this
    exact (Option.some.inj this).symm
  · exact (hord j _ (hx j hj)).2.2 k _ (hx k hk) e
  · have hiop : i < ops.toList.length := by simpa using hi
    obtain ⟨y, hy, hyi⟩ := drs_mem (P := V.P) (ops := ops) (ms := revN (masksR ops.toList [] 0) []) (i0 := 0) hiop
    obtain ⟨x, hx1, hx2⟩ := order_all ops.size 0 _ (by rw [drs_len]; simp) (by rw [← hl]; exact hlen) y hy
    rw [← hl] at hx1
    obtain ⟨k, hk, e⟩ := List.getElem_of_mem hx1
    refine ⟨k, by omega, ?_⟩
    have := hx k (by omega)
    rw [List.getElem?_eq_getElem hk, e] at this
    rw [← Option.some.inj this, hx2, hyi, Nat.zero_add]
  · rcases (hord k _ (hx k hk)).2.1 _ hb with h | ⟨q, y, hq, hy, e⟩
    · rw [bit_test] at h; simp at h
    · have := (hord j _ (hx j hj)).2.2 q y hy e
      omega
  · have := hpair k j _ _ hkj (hx k (by omega)) (hx j hj)
    simp only [band_eq] at this
    exact this
  · simp only [List.getElem?_eq_none (Nat.le_of_eq hts)]; rfl
  · simp only [List.getElem?_eq_none (Nat.le_of_eq hts)]; rfl
section
variable {V : Env} {ops : Array Oper} {nt rb n : Nat} {all : List Dr} {T : Nat → TP} {H : Nat → Hp} {S : Nat → Nat → AV} (p : Plan V ops nt rb n all T H S)
include p
theorem Plan.kd {k : Nat} (hk : k < n) : ((T k).kd = 3 ∧ 3 ≤ (T k).x.c) ∨ ((T k).kd ≤ 2 ∧ ((T k).kd = 1 → (T k).x.c = 1) ∧ ((T k).kd = 2 → (T k).x.c = 2)) := let ⟨_, h, _⟩ := p.tp k hk; h.kdc
theorem Plan.slot {k : Nat} (hk : k < n) : SlStep (S k) (S (k + 1)) (T k).x.o.dst (T k).v := by
  obtain ⟨_, h, _⟩ := p.tp k hk
  have := h.slot
  rw [(p.sk k hk).1, (p.sk k hk).2] at this; exact this
/-- A step that is not wrapped. -/
theorem Plan.low {k : Nat} (hk : k < n) (hkd : (T k).kd ≤ 2) : (T k).hA = H k ∧ (T k).hB = H (k + 1) ∧ OpStep V ops (T k).O (T k).x.o (rb + (T k).x.i) (H k) (T k).v (H (k + 1)) (T k).kd := by
  obtain ⟨_, h, _⟩ := p.tp k hk
  obtain ⟨e1, e2⟩ := h.low hkd
  rw [(p.hk k hk).1] at e1
  rw [(p.hk k hk).2] at e2
  have := h.step
  rw [e1, ← e2] at this
  exact ⟨e1, e2.symm, this⟩
theorem Plan.still {k : Nat} (hk : k < n) (hkd : (T k).kd ≤ 1) : H (k + 1) = H k := by
  obtain ⟨_, _, h⟩ := p.low hk (by omega)
  revert hkd
  generalize (T k).kd = kd at h
  intro hkd
  cases h with
  | skip _ _ hh => exact hh
  | run _ _ kn =>
    cases kn with
    | pure h => exact h
    | read _ h => exact h
    | make => omega
    | other => omega
theorem Plan.make {k : Nat} (hk : k < n) (hkd : (T k).kd = 2) : ∃ B, HSet (H k) (rb + (T k).x.i) B (H (k + 1)) := by
  obtain ⟨_, _, h⟩ := p.low hk (by omega)
  rw [hkd] at h
  cases h with
  | run _ _ kn =>
    cases kn with
    | make B hs hn _ => exact ⟨B, hs⟩
theorem Plan.wrap {k : Nat} (hk : k < n) (hkd : (T k).kd = 3) : Wrapped (T k).A (T k).pl (H k) (T k).hA (T k).hB (H (k + 1)) := by
  obtain ⟨_, h, _⟩ := p.tp k hk
  have := h.wrap hkd
  rw [(p.hk k hk).1, (p.hk k hk).2] at this; exact this
theorem Plan.rbs {k : Nat} (hk : k < n) : (H k).rb = rb ∧ rb + n ≤ (H k).nx := by
  obtain ⟨_, h, _⟩ := p.tp k hk
  have h1 := h.hrb
  have h2 := h.nx
  rw [(p.hk k hk).1] at h1 h2
  exact ⟨h1, h2⟩
theorem Plan.step {k : Nat} (hk : k < n) : (H k).nx ≤ (H (k + 1)).nx ∧ (H (k + 1)).pr = (H k).pr := by
  by_cases e : (T k).kd = 3
  · have hw := p.wrap hk e
    exact ⟨hw.nxle, hw.pr⟩
  · have hkd : (T k).kd ≤ 2 := by rcases p.kd hk with h | h <;> omega
    obtain ⟨_, _, h⟩ := p.low hk hkd
    obtain ⟨q1, _, q3⟩ := h.low hkd
    exact ⟨q1, q3⟩
theorem Plan.mono {j : Nat} : ∀ {k : Nat}, j ≤ k → k ≤ n → (H j).nx ≤ (H k).nx ∧ (H k).pr = (H j).pr := by
  intro k hjk
  induction hjk with
  | refl => exact fun _ => ⟨Nat.le_refl _, rfl⟩
  | @step m _ ih =>
    intro hk
    obtain ⟨h1, h2⟩ := ih (by omega)
    obtain ⟨h3, h4⟩ := p.step (k := m) (by omega)
    exact ⟨Nat.le_trans h1 h3, h4.trans h2⟩
/-- The number of a place's own block. -/
abbrev idOf (rb : Nat) (T : Nat → TP) (k : Nat) : Nat := rb + (T k).x.i
theorem Plan.id_inj {k j : Nat} (hk : k < n) (hj : j < n) (h : idOf rb T k = idOf rb T j) : k = j := p.inj k j hk hj (by unfold idOf at h; omega)
/-- No writer in between: blocks that are not made there stay. -/
theorem Plan.stays {j b : Nat} : ∀ {k : Nat}, j ≤ k → k ≤ n → (∀ q, j ≤ q → q < k → (T q).kd ≠ 3 ∧ ((T q).kd = 2 → idOf rb T q ≠ b)) → (H k).at b = (H j).at b := by
  intro k hjk
  induction hjk with
  | refl => exact fun _ _ => rfl
  | @step m hm ih =>
    intro hk hno
    rw [← ih (by omega) fun q h1 h2 => hno q h1 (by omega)]
    obtain ⟨h1, h2⟩ := hno m hm (Nat.lt_succ_self _)
    have hmn : m < n := by omega
    by_cases e : (T m).kd ≤ 1
    · rw [p.still hmn e]
    · have e2 : (T m).kd = 2 := by rcases p.kd hmn with h | h <;> omega
      obtain ⟨B, hs⟩ := p.make hmn e2
      exact hs.ne (Ne.symm (h2 e2))
/-- Blocks that are alike but for the mark. -/
def Sim (B B' : Blk) : Prop := B = B' ∨ ∃ rw rw' fl z s t, B = .row rw fl z s t ∧ B' = .row rw' fl z s t
omit p in
theorem Sim.trans {B B' B'' : Blk} (h : Sim B B') (h' : Sim B' B'') : Sim B B'' := by
  rcases h with rfl | ⟨rw, rw', fl, z, s, t, e1, e2⟩
  · exact h'
  · rcases h' with rfl | ⟨rwa, rwa', fla, za, sa, ta, o1, o2⟩
    · exact .inr ⟨rw, rw', fl, z, s, t, e1, e2⟩
    · rw [e2] at o1; cases o1
      exact .inr ⟨rw, rwa', fl, z, s, t, e1, o2⟩
omit p in
theorem Kept.sim {B B' X : Blk} (h : Kept B B' X) : Sim B X := by
  rcases h with ⟨rw, rw', fl, fl', z, z', s, s', t, t', e1, _, e3⟩ | ⟨n, n', t, t', e1, _, e3⟩
  · exact .inr ⟨rw, rw', fl, z, s, t, e1, e3⟩
  · exact .inl (e1.trans e3.symm)
omit p in
theorem Kept.self {B X : Blk} (h : Kept B B X) : X = B := by
  rcases h with ⟨rw, rw', fl, fl', z, z', s, s', t, t', e1, e2, e3⟩ | ⟨n, n', t, t', e1, _, e3⟩
  · rw [e1] at e2; cases e2
    exact e3.trans e1.symm
  · exact e3.trans e1.symm
omit p in
theorem Kept.live {B B' X : Blk} (h : Kept B B' X) : Live B ∧ Live B' := by
  rcases h with ⟨rw, rw', fl, fl', z, z', s, s', t, t', e1, e2, _⟩ | ⟨n, n', t, t', e1, e2, _⟩ <;> rw [e1, e2] <;> exact ⟨trivial, trivial⟩
omit p in
theorem Sim.live {B B' : Blk} (h : Sim B B') (hl : Live B) : Live B' := by
  rcases h with rfl | ⟨rw, rw', fl, z, s, t, e1, e2⟩
  · exact hl
  · rw [e2]; trivial
omit p in
theorem Sim.live' {B B' : Blk} (h : Sim B B') (hl : Live B') : Live B := by
  rcases h with rfl | ⟨rw, rw', fl, z, s, t, e1, e2⟩
  · exact hl
  · rw [e1]; trivial
omit p in
theorem BRead.sim {w : World} {F : Nat → Prop} {μ : Mu} {b : Nat} {B B' : Blk} (h : Sim B B') (hr : BRead V w F μ b B) : BRead V w F μ b B' := by
  rcases h with rfl | ⟨rw, rw', fl, z, s, t, e1, e2⟩
  · exact hr
  · rw [e1] at hr; rw [e2]; exact hr
omit p in
theorem Sim.symm {B B' : Blk} (h : Sim B B') : Sim B' B := by
  rcases h with rfl | ⟨rw, rw', fl, z, s, t, e1, e2⟩
  · exact .inl rfl
  · exact .inr ⟨rw', rw, fl, z, s, t, e2, e1⟩
/-- A block that each writer in between keeps or puts away. -/
theorem Plan.keeps {j b : Nat} : ∀ {k : Nat}, j ≤ k → k ≤ n → (∀ q, j ≤ q → q < k → ((T q).kd = 3 → b ∈ (T q).pl) ∧ ((T q).kd = 2 → idOf rb T q ≠ b)) → Sim ((H j).at b) ((H k).at b) := by
  intro k hjk
  induction hjk with
  | refl => exact fun _ _ => .inl rfl
  | @step m hm ih =>
    intro hk hno
    refine (ih (by omega) fun q h1 h2 => hno q h1 (by omega)).trans ?_
    obtain ⟨h1, h2⟩ := hno m hm (Nat.lt_succ_self _)
    have hmn : m < n := by omega
    rcases p.kd hmn with ⟨e, _⟩ | ⟨e, _⟩
    · have hw := p.wrap hmn e
      by_cases hA : ∃ i ∈ (T m).A, b = (H m).rb + i
      · exact (hw.pin b hA (h1 e)).sim
      · exact (hw.pout b hA (h1 e)).sim
    · refine .inl (p.stays (j := m) (k := m + 1) (by omega) (by omega) fun q q1 q2 => ?_).symm
      have : q = m := by omega
      subst this
      exact ⟨by omega, h2⟩
/-- A place's own block, which each writer in between puts away. -/
theorem Plan.hidden {k : Nat} (hk : k < n) : ∀ {j : Nat}, k + 1 ≤ j → j ≤ n → (∀ q, k + 1 ≤ q → q < j → (T q).kd = 3 → (T k).x.i ∈ (T q).A) → (H j).at (idOf rb T k) = (H (k + 1)).at (idOf rb T k) := by
  intro j hkj
  induction hkj with
  | refl => exact fun _ _ => rfl
  | @step m hm ih =>
    intro hj hno
    rw [← ih (by omega) fun q h1 h2 => hno q h1 (by omega)]
    have hmn : m < n := by omega
    have hm : k + 1 ≤ m := hm
    rcases p.kd hmn with ⟨e, _⟩ | ⟨e, _⟩
    · have hw := p.wrap hmn e
      have hA : ∃ i ∈ (T m).A, idOf rb T k = (H m).rb + i := ⟨_, hno m hm (Nat.lt_succ_self _) e, by rw [(p.rbs hmn).1]⟩
      by_cases hp : idOf rb T k ∈ (T m).pl
      · exact (hw.pin _ hA hp).self
      · exact hw.kin _ hA hp
    · refine p.stays (j := m) (k := m + 1) (by omega) (by omega) fun q q1 q2 => ?_
      have : q = m := by omega
      subst this
      exact ⟨by omega, fun _ e2 => absurd (p.id_inj hmn hk e2) (by omega)⟩
/-- A slot that nobody writes in between. -/
theorem Plan.unwritten {j t : Nat} : ∀ {k : Nat}, j ≤ k → k ≤ n → (∀ q, j ≤ q → q < k → (T q).x.o.dst ≠ some t) → S k t = S j t ∨ S k t = .undef := by
  intro k hjk
  induction hjk with
  | refl => exact fun _ _ => .inl rfl
  | @step m hm ih =>
    intro hk hno
    have hmn : m < n := by omega
    rcases (p.slot hmn t).2 (hno m hm (Nat.lt_succ_self _)) with h | h
    · rw [h]; exact ih (by omega) fun q h1 h2 => hno q h1 (by omega)
    · exact .inr h
end
end Go.Proofs.YtlffjnddiiojnaaGreatDoor.Ev

/- Regions that draw their order: every order comes to the plan's end. -/
namespace Go.Proofs.YtlffjnddiiojnaaGreatDoor.Ev
theorem HRel.sub {V : Env} {w : World} {F : Nat → Prop} {μ : Mu} {h h' : Hp} (H : HRel V μ F h w) (he : ∀ b, (h'.at b).gone ∨ h'.at b = h.at b) (hn : h.nx ≤ h'.nx) : HRel V μ F h' w := by
  have wr : ∀ b, (h'.at b).wr → (h.at b).wr := fun b hw => (he b).elim (fun g => absurd hw (gone_wr g)) fun e => e ▸ hw
  exact ⟨fun b => (he b).elim (fun g => .gone g) fun e => e ▸ H.blk b, fun b b' m m' h1 h2 => H.excl b b' m m' (wr b h1) (wr b' h2), fun b m hm => let ⟨q1, q2⟩ := H.dom b m hm; ⟨Nat.lt_of_lt_of_le q1 hn, q2⟩, H.imm, H.glo⟩
theorem mem_tmpsOf {t : Nat} : ∀ {l : List Operand}, Operand.tmp t ∈ l → t ∈ tmpsOf l
  | x :: l, h => by
    rcases List.mem_cons.1 h with rfl | h
    · exact List.mem_cons_self ..
    · have := mem_tmpsOf h
      cases x with
      | tmp u => exact List.mem_cons_of_mem _ this
      | _ => exact this
theorem mem_reads {ops : Array Oper} {o : Oper} {t : Nat} (h : Operand.tmp t ∈ o.op.operands.toList ∨ ∃ j want, o.guard = some (j, want) ∧ (ops[j]?).bind (·.dst) = some t) : t ∈ readsOf ops o := by
  unfold readsOf
  cases hg : o.guard with
  | none =>
    rcases h with h | ⟨j, want, h, _⟩
    · exact mem_tmpsOf h
    · rw [hg] at h; cases h
  | some gq =>
    obtain ⟨j, want⟩ := gq
    simp only
    cases hd : (ops[j]?).bind (·.dst) with
    | none =>
      rcases h with h | ⟨j', want', h, h2⟩
      · exact mem_tmpsOf h
      · rw [hg] at h; cases h
        rw [hd] at h2; cases h2
    | some u =>
      rcases h with h | ⟨j', want', h, h2⟩
      · exact List.mem_cons_of_mem _ (mem_tmpsOf h)
      · rw [hg] at h; cases h
        rw [hd] at h2; cases h2
        exact List.mem_cons_self ..
theorem spot_mu {w : World} {F : Nat → Prop} {μ : Mu} {v : AV} {u : Value} {b : Nat} (h : CRel w F μ v u) (hb : spotB v = some b) : μ b ≠ none := by
  cases h with
  | ptr h => cases hb; rw [h]; simp
  | @ms _ b' o n z c m h _ _ =>
    cases n with
    | zero => cases hb
    | succ n => cases hb; rw [h]; simp
  | map h => cases hb; rw [h]; simp
  | _ => cases hb
/-- One operation at another place of the order. -/
theorem OpStep.wpS {V : Env} {ops : Array Oper} {O : Operand → AV} {o : Oper} {id : Nat} {hA hB hS : Hp} {v : AV} {kd : Nat} (s : OpStep V ops O o id hA v hB kd) {i : Nat} (hi : ops[i]? = some o) {w : World} {F : Nat → Prop} {μ : Mu} {a : Act} {r : Option Nat} {n : Nat} {Q : Exit → Act → World → Prop} {K : Act → World → Prop}
    (hO : ORel w F μ O o.op.operands.toList a.eval) (hG : ∀ j want t, o.guard = some (j, want) → (ops[j]?).bind (·.dst) = some t → CRel w F μ (O (.tmp t)) (a.tmps.getD t undef)) (hid : μ id = none) (HS : HRel V μ F hS w) (hidn : id < hS.nx)
    (hread : kd = 1 → ∀ p, spot o.op = some p → p ∈ o.op.operands.toList → SpotLive hA (O p) → ReadOk V w F μ hA (O p)) (h3 : kd = 3 → HRel V μ F hA w)
    (k01 : kd ≤ 1 → ∀ x, CRel w F μ v x → K (a.put o.dst x) w)
    (k2 : kd = 2 → ∀ B, HSet hA id B hB → ∀ hS' x w' μ' F', HSet hS id B hS' → hS'.nx = hS.nx → CRel w' F' μ' v x → InId id μ μ' → HRel V μ' F' hS' w' → Ext μ F hS w μ' F' hS' w' → K (a.put o.dst x) w')
    (k3 : kd = 3 → ∀ x w' μ' F', CRel w' F' μ' v x → NewIds id hA μ μ' → HRel V μ' F' hB w' → Ext μ F hA w μ' F' hB w' → K (a.put o.dst x) w') : wpOpIn (Wf r) n V.P ops Q i K a w := by
  unfold wpOpIn
  rw [hi]
  cases s with
  | skip hw hv hh =>
    subst hv
    simp only [hw hG, Bool.false_eq_true, if_false]
    exact ⟨fun _ _ => trivial, k01 (by omega) undef rel_undef⟩
  | run hw hd k =>
    simp only [hw hG, if_true]
    cases k with
    | pure h G =>
      obtain ⟨nx, x, h1, h2, h3⟩ := G hO
      exact wp_value hd h1 h2 (k01 (by omega) x h3)
    | read p h hsp hm hl G =>
      obtain ⟨nx, x, h1, h2, h3⟩ := G hO (hread rfl p hsp hm hl)
      exact wp_value hd h1 h2 (k01 (by omega) x h3)
    | make B hs hn G =>
      obtain ⟨t', ht⟩ := tr_set .dead id hS.t B
      have hset : HSet hS id B ⟨t', hS.nx, hS.pr, hS.rb⟩ := ⟨fun b => ht b, Nat.le_refl _, rfl, rfl⟩
      obtain ⟨nx, x, w', μ', F', h1, h2, h3, h4, h5, h6⟩ := G hO hid HS hset hidn
      exact wp_value hd h1 h2 (k2 rfl B hs _ x w' μ' F' hset rfl h3 h4 h5 h6)
    | other G => exact G hO hid (h3 rfl) (k3 rfl)
/-- What a block is in the heap, once some operations were run (q: behind the last one of them that writes). -/
def HSp (rb n : Nat) (T : Nat → TP) (H : Nat → Hp) (D : Nat → Prop) (q b : Nat) (X : Blk) : Prop :=
  (∀ k, k < n → (T k).kd = 2 → idOf rb T k = b → (D (T k).x.i → (q ≤ k → BEq X ((H (k + 1)).at b)) ∧ (k < q → BEq X ((H q).at b))) ∧ (¬ D (T k).x.i → X.gone)) ∧ ((∀ k, k < n → (T k).kd = 2 → idOf rb T k ≠ b) → BEq X ((H q).at b))
structure Inv (V : Env) (nt rb n : Nat) (T : Nat → TP) (H : Nat → Hp) (S : Nat → Nat → AV) (μ0 : Mu) (F0 : Nat → Prop) (w0 : World) (df : List Deferred) (D : Nat → Prop) (q : Nat) (μ : Mu) (F : Nat → Prop) (a : Act) (w : World) : Prop where
  cl : ∀ k j, k < n → j < n → D (T k).x.i → bit (T k).x.m (T j).x.i = true → D (T j).x.i
  wl : ∀ k, k < n → (T k).kd = 3 → D (T k).x.i → k < q
  wq : q = 0 ∨ ∃ j, q = j + 1 ∧ j < n ∧ (T j).kd = 3 ∧ D (T j).x.i
  sl : ∀ t, (∃ k, k < n ∧ D (T k).x.i ∧ (T k).x.o.dst = some t ∧ CRel w F μ (T k).v (a.tmps.getD t undef)) ∨ ((∀ k, k < n → D (T k).x.i → (T k).x.o.dst ≠ some t) ∧ CRel w F μ (S 0 t) (a.tmps.getD t undef))
  hp : ∃ hS, HRel V μ F hS w ∧ Ext μ0 F0 (H 0) w0 μ F hS w ∧ hS.nx = (H q).nx ∧ hS.pr = (H 0).pr ∧ ∀ b, HSp rb n T H D q b (hS.at b)
  un : ∀ k, k < n → ¬ D (T k).x.i → μ (idOf rb T k) = none
  gn : ∀ k, k < n → (T k).kd = 2 → ((H (min q k)).at (idOf rb T k)).gone
  ids : ∀ b, μ b ≠ none → μ0 b ≠ none ∨ rb ≤ b
  nt : nt ≤ a.tmps.size
  df : a.defers = df
section
variable {V : Env} {ops : Array Oper} {nt rb n : Nat} {all : List Dr} {T : Nat → TP} {H : Nat → Hp} {S : Nat → Nat → AV} (A : Plan V ops nt rb n all T H S)
  {μ0 : Mu} {F0 : Nat → Prop} {w0 : World} {df : List Deferred} {D : Nat → Prop} {q : Nat} {μ : Mu} {F : Nat → Prop} {a : Act} {w : World} (I : Inv V nt rb n T H S μ0 F0 w0 df D q μ F a w)
  {k : Nat} (hk : k < n) (hD : ¬ D (T k).x.i) (rd : ∀ j, j < n → bit (T k).x.m (T j).x.i = true → D (T j).x.i)
include A I
theorem Inv.qn : q ≤ n := by
  have _ := A
  rcases I.wq with h | ⟨j, h, hj, _⟩ <;> omega
theorem Inv.ran {j : Nat} (hj : j < q) (hkd : (T j).kd = 3) : D (T j).x.i := by
  rcases I.wq with h | ⟨j0, h, hj0, hkd0, hD0⟩
  · omega
  · by_cases e : j = j0
    · subst e; exact hD0
    · rcases pairOk_out (A.pair j j0 (by omega) hj0).2.2 with h1 | h1 | h1
      · exact I.cl j0 j hj0 (by omega) hD0 h1
      · rcases A.kd hj0 with h2 | h2 <;> omega
      · rcases A.kd (k := j) (by omega) with h2 | h2 <;> omega
include hk rd in
theorem Inv.w1 (hc : 1 ≤ (T k).x.c) {j : Nat} (hj : j < k) (hkd : (T j).kd = 3) : j < q := by
  rcases pairOk_out (A.pair j k hj hk).2.2 with h1 | h1 | h1
  · exact I.wl j (by omega) hkd (rd j (by omega) h1)
  · omega
  · rcases A.kd (k := j) (by omega) with h2 | h2 <;> omega
include hk hD in
theorem Inv.w2 {j : Nat} (hj : j < n) (hDj : D (T j).x.i) : bit (T j).x.m (T k).x.i = false := by
  have _ := A
  cases h : bit (T j).x.m (T k).x.i with
  | false => rfl
  | true => exact absurd (I.cl j k hj hk hDj h) hD
include hk hD in
theorem Inv.w3 (hkd : (T k).kd = 3) : q ≤ k := by
  rcases I.wq with h | ⟨j, h, hj, hkdj, hDj⟩
  · omega
  · by_cases e : j < k
    · omega
    · exfalso
      have hne : j ≠ k := fun e => hD (e ▸ hDj)
      rcases pairOk_out (A.pair k j (by omega) hj).2.2 with h1 | h1 | h1
      · rw [I.w2 A hk hD hj hDj] at h1; cases h1
      · rcases A.kd hj with h2 | h2 <;> omega
      · rcases A.kd hk with h2 | h2 <;> omega
/-- No writer stands between the last one that was run and this one. -/
theorem Inv.between (_ : q ≤ k) (hkn : k ≤ n) (hno : ∀ j, j < k → (T j).kd = 3 → j < q) {j b : Nat} (hqj : q ≤ j) (hjk : j ≤ k) (hb : ∀ m, j ≤ m → m < k → (T m).kd = 2 → idOf rb T m ≠ b) : (H k).at b = (H j).at b := have _ := I; 
  A.stays hjk hkn fun m h1 h2 => ⟨fun e => by have := hno m h2 e; omega, hb m h1 h2⟩
include hk hD rd in
theorem Inv.slot {t : Nat} (ht : t ∈ (T k).x.r) : CRel w F μ (S k t) (a.tmps.getD t undef) := by
  rcases I.sl t with ⟨j, hj, hDj, hdst, hc⟩ | ⟨hno, hc⟩
  · have hne : j ≠ k := fun e => hD (e ▸ hDj)
    by_cases e : j < k
    · have hs : S (j + 1) t = (T j).v := (A.slot hj t).1 hdst
      rcases A.unwritten (j := j + 1) (t := t) (k := k) (by omega) (by omega) (fun m h1 h2 => (slotOk_out (A.pair j m (by omega) (by omega)).1 hdst).1) with h | h
      · rw [h, hs]; exact hc
      · rw [h]; exact .undef _
    · exfalso
      rcases (slotOk_out (A.pair k j (by omega) hj).2.1 hdst).2 ht with h | h
      · have := A.top k j hk hj h; omega
      · rw [I.w2 A hk hD hj hDj] at h; cases h
  · rcases A.unwritten (j := 0) (t := t) (k := k) (by omega) (by omega) (fun m _ h2 hdst => by
        rcases (slotOk_out (A.pair m k h2 hk).1 hdst).2 ht with h | h
        · exact hno m (by omega) (rd m (by omega) h) hdst
        · have := A.top m k (by omega) hk h; omega) with h | h
    · rw [h]; exact hc
    · rw [h]; exact .undef _
include hk hD in
/-- What a reader reads is kept by the writers that were run ahead of it. -/
theorem Inv.kept (hc : (T k).x.c = 1) {p : Operand} (hsp : spot (T k).x.o.op = some p) {b : Nat} (hb : spotB ((T k).O p) = some b) {m : Nat} (hkm : k ≤ m) (hmq : m ≤ q) (hno : ∀ j, k ≤ j → j < m → (T j).kd = 2 → idOf rb T j ≠ b) : Sim ((H k).at b) ((H m).at b) := by
  have hqn := I.qn A
  refine A.keeps hkm (by omega) fun j h1 h2 => ⟨fun e3 => ?_, hno j h1 h2⟩
  have hjn : j < n := by omega
  have hDj := I.ran A (by omega) e3
  have hne : j ≠ k := fun e => hD (e ▸ hDj)
  obtain ⟨dn, ok, hdn⟩ := A.tp j hjn
  have hloose : (T k).x ∈ looseL (T j).x dn := mem_looseL.2 ⟨(hdn _).2 ⟨k, by omega, rfl⟩, hc, I.w2 A hk hD hjn hDj⟩
  obtain ⟨hspot, p', hp', hnu, hpl⟩ := ok.looseL e3 _ hloose
  rw [hsp] at hp'; cases hp'
  refine hpl b ?_
  obtain ⟨dk, okk, _⟩ := A.tp k hk
  cases p with
  | tmp t =>
    rw [okk.os, (A.sk k hk).1] at hb
    rw [ok.os, (A.sk j hjn).1] at hnu ⊢
    have hw : ∀ z ∈ all, z.o.dst = some t → bit (T k).x.m z.i = true := fun z hz hdst => by
      unfold spotOk at hspot
      rw [hsp] at hspot
      have h' : allL (fun z : Dr => Option.rec (motive := fun _ => Bool) true (fun d => Bool.rec (motive := fun _ => Bool) true (bit (T k).x.m z.i) (Nat.beq d t)) z.o.dst) all = true := hspot
      have := allL_out h' z hz
      simp only [hdst, Nat.beq_refl] at this
      exact this
    rcases A.unwritten (j := k) (t := t) (k := j) (by omega) (by omega) (fun m' h3 h4 hdst => by
      have := A.top k m' hk (by omega) (hw _ (A.mem m' (by omega)) hdst)
      omega) with h | h
    · rw [h]; exact hb
    · exact absurd h (hnu _ _ _ _)
  | const v => rw [okk.oc _ (fun t => by simp)] at hb; cases hb
  | func f => rw [okk.oc _ (fun t => by simp)] at hb; cases hb
  | global g => rw [okk.oc _ (fun t => by simp)] at hb; cases hb
include hk hD rd in
theorem Inv.read {hS : Hp} (HS : HRel V μ F hS w) (hsp0 : ∀ b, HSp rb n T H D q b (hS.at b)) (hkd : (T k).kd = 1) {p : Operand} (hsp : spot (T k).x.o.op = some p) (hlive : SpotLive (H k) ((T k).O p)) {u : Value} (hu : CRel w F μ ((T k).O p) u) : ReadOk V w F μ (H k) ((T k).O p) := by
  intro b hb
  have hc : (T k).x.c = 1 := by rcases A.kd hk with h | h <;> omega
  have hl := hlive b hb
  have hmu : μ b ≠ none := spot_mu hu hb
  have hno : ∀ j, j < k → (T j).kd = 3 → j < q := fun j => I.w1 A hk rd (by omega)
  have fin : ∀ {Y : Blk}, BEq (hS.at b) Y → Sim ((H k).at b) Y → BRead V w F μ b ((H k).at b) := fun {Y} h1 h2 => by
    have hY := h2.live hl
    have e : hS.at b = Y := h1.symm.eq (live_gone hY) |>.symm
    have := (HS.blk b).read
    rw [e] at this
    exact this.sim h2.symm
  by_cases hm : ∃ j, j < n ∧ (T j).kd = 2 ∧ idOf rb T j = b
  · obtain ⟨j, hj, hkj, hjb⟩ := hm
    have hDj : D (T j).x.i := Classical.byContradiction fun h => hmu (hjb ▸ I.un j hj h)
    have hother : ∀ m, m < n → (T m).kd = 2 → m ≠ j → idOf rb T m ≠ b := fun m hm _ hne e => hne (A.id_inj hm hj (e.trans hjb.symm))
    have hX := ((hsp0 b).1 j hj hkj hjb).1 hDj
    have hjk : j ≠ k := fun e => by rw [e] at hkj; omega
    by_cases hlt : j < k
    · by_cases hqk : q ≤ k
      · by_cases hqj : q ≤ j
        · refine fin (hX.1 hqj) (.inl (I.between A hqk (by omega) hno (j := j + 1) (by omega) (by omega) fun m h1 h2 h3 => hother m (by omega) h3 (by omega)))
        · refine fin (hX.2 (by omega)) (.inl (I.between A hqk (by omega) hno (Nat.le_refl q) hqk fun m h1 h2 h3 => hother m (by omega) h3 (by omega)))
      · exact fin (hX.2 (by omega)) (I.kept A hk hD hc hsp hb (by omega) (Nat.le_refl q) fun m h1 h2 h3 => hother m (by have := I.qn A; omega) h3 (by omega))
    · exfalso
      have hg := I.gn j hj hkj
      rw [hjb] at hg
      by_cases hqk : q ≤ k
      · rw [Nat.min_eq_left (by omega)] at hg
        have := I.between A hqk (by omega) hno (Nat.le_refl q) hqk (b := b) fun m h1 h2 h3 => hother m (by omega) h3 (by omega)
        rw [this] at hl
        exact gone_live hg hl
      · exact gone_live hg ((I.kept A hk hD hc hsp hb (m := min q j) (by omega) (Nat.min_le_left _ _) fun m h1 h2 h3 => hother m (by have := I.qn A; omega) h3 (by omega)).live hl)
  · have hX := (hsp0 b).2 fun j hj hkj e => hm ⟨j, hj, hkj, e⟩
    have hother : ∀ m, m < n → (T m).kd = 2 → idOf rb T m ≠ b := fun j hj hkj e => hm ⟨j, hj, hkj, e⟩
    by_cases hqk : q ≤ k
    · exact fin hX (.inl (I.between A hqk (by omega) hno (Nat.le_refl q) hqk fun m h1 h2 h3 => hother m (by omega) h3))
    · exact fin hX (I.kept A hk hD hc hsp hb (by omega) (Nat.le_refl q) fun m h1 h2 h3 => hother m (by have := I.qn A; omega) h3)
end
end Go.Proofs.YtlffjnddiiojnaaGreatDoor.Ev

/- Regions that draw their order: each kind of operation. -/
namespace Go.Proofs.YtlffjnddiiojnaaGreatDoor.Ev
section
variable {V : Env} {ops : Array Oper} {nt rb n : Nat} {all : List Dr} {T : Nat → TP} {H : Nat → Hp} {S : Nat → Nat → AV} (A : Plan V ops nt rb n all T H S)
  {μ0 : Mu} {F0 : Nat → Prop} {w0 : World} {df : List Deferred} {D : Nat → Prop} {q : Nat} {μ : Mu} {F : Nat → Prop} {a : Act} {w : World} (I : Inv V nt rb n T H S μ0 F0 w0 df D q μ F a w)
  {k : Nat} (hk : k < n) (hD : ¬ D (T k).x.i) (rd : ∀ j, j < n → bit (T k).x.m (T j).x.i = true → D (T j).x.i) {D' : Nat → Prop} (hD' : ∀ i, D' i ↔ D i ∨ i = (T k).x.i)
include A I hk hD rd hD'
theorem Inv.old {j : Nat} (hj : j < n) (hne : j ≠ k) : D' (T j).x.i ↔ D (T j).x.i := have _ := I; have _ := hD; have _ := rd; 
  (hD' _).trans ⟨fun h => h.elim id fun e => absurd (A.inj j k hj hk e) hne, .inl⟩
theorem Inv.here : D' (T k).x.i := have _ := A; have _ := I; have _ := hk; have _ := hD; have _ := rd; (hD' _).2 (.inr rfl)
theorem Inv.cl' : ∀ k' j, k' < n → j < n → D' (T k').x.i → bit (T k').x.m (T j).x.i = true → D' (T j).x.i := fun k' j hk' hj h hb => by
  by_cases e : k' = k
  · subst e; exact (hD' _).2 (.inl (rd j hj hb))
  · exact (hD' _).2 (.inl (I.cl k' j hk' hj ((I.old A hk hD rd hD' hk' e).1 h) hb))
theorem Inv.sl' {w' : World} {F' : Nat → Prop} {μ' : Mu} {x : Value} (hv : CRel w' F' μ' (T k).v x) (hold : ∀ {b : AV} {u : Value}, CRel w F μ b u → CRel w' F' μ' b u) (t : Nat) :
    (∃ j, j < n ∧ D' (T j).x.i ∧ (T j).x.o.dst = some t ∧ CRel w' F' μ' (T j).v ((a.put (T k).x.o.dst x).tmps.getD t undef)) ∨ ((∀ j, j < n → D' (T j).x.i → (T j).x.o.dst ≠ some t) ∧ CRel w' F' μ' (S 0 t) ((a.put (T k).x.o.dst x).tmps.getD t undef)) := by
  obtain ⟨dn, ok, _⟩ := A.tp k hk
  by_cases e : (T k).x.o.dst = some t
  · refine .inl ⟨k, hk, I.here A hk hD rd hD', e, ?_⟩
    rw [e]
    have hlt : t < nt := ok.dst t e
    have hnt : nt ≤ a.tmps.size := I.nt
    have hlt2 : t < a.tmps.size := Nat.lt_of_lt_of_le hlt hnt
    have : (a.put (some t) x).tmps.getD t undef = x := by
      simp only [Act.put, Array.getD_eq_getD_getElem?, Array.getElem?_setIfInBounds, if_true]
      rw [if_pos hlt2]; rfl
    rw [this]; exact hv
  · have hsame : (a.put (T k).x.o.dst x).tmps.getD t undef = a.tmps.getD t undef := by
      cases hd : (T k).x.o.dst with
      | none => rfl
      | some u =>
        have hne : u ≠ t := fun h => e (by rw [hd, h])
        simp only [Act.put, Array.getD_eq_getD_getElem?, Array.getElem?_setIfInBounds, if_neg hne]
    rw [hsame]
    rcases I.sl t with ⟨j, h1, h2, h3, h4⟩ | ⟨h1, h2⟩
    · exact .inl ⟨j, h1, (hD' _).2 (.inl h2), h3, hold h4⟩
    · refine .inr ⟨fun j hj hDj hdst => ?_, hold h2⟩
      by_cases ej : j = k
      · subst ej; exact e hdst
      · exact h1 j hj ((I.old A hk hD rd hD' hj ej).1 hDj) hdst
theorem Inv.low (hkd : (T k).kd ≤ 1) {x : Value} (hv : CRel w F μ (T k).v x) : Inv V nt rb n T H S μ0 F0 w0 df D' q μ F (a.put (T k).x.o.dst x) w where
  cl := I.cl' A hk hD rd hD'
  wl := fun j hj e h => by
    have hne : j ≠ k := fun e2 => by rw [e2] at e; omega
    exact I.wl j hj e ((I.old A hk hD rd hD' hj hne).1 h)
  wq := I.wq.imp id fun ⟨j, h1, h2, h3, h4⟩ => ⟨j, h1, h2, h3, (hD' _).2 (.inl h4)⟩
  sl := I.sl' A hk hD rd hD' hv id
  hp := by
    obtain ⟨hS, h1, h2, h3, h4, h5⟩ := I.hp
    refine ⟨hS, h1, h2, h3, h4, fun b => ⟨fun j hj e hb => ?_, (h5 b).2⟩⟩
    have hne : j ≠ k := fun e2 => by rw [e2] at e; omega
    rw [I.old A hk hD rd hD' hj hne]
    exact (h5 b).1 j hj e hb
  un := fun j hj h => I.un j hj fun h' => h ((hD' _).2 (.inl h'))
  gn := I.gn
  ids := I.ids
  nt := by rw [(put_size a _ x).1]; exact I.nt
  df := by rw [(put_size a _ x).2]; exact I.df
theorem Inv.make (hkd : (T k).kd = 2) {hS hS' : Hp} (HS : HRel V μ F hS w) (ES : Ext μ0 F0 (H 0) w0 μ F hS w) (nS : hS.nx = (H q).nx) (pS : hS.pr = (H 0).pr) (sS : ∀ b, HSp rb n T H D q b (hS.at b)) {B : Blk} (hB : HSet (H k) (idOf rb T k) B (H (k + 1))) (hset : HSet hS (idOf rb T k) B hS') (hnx : hS'.nx = hS.nx)
    {w' : World} {F' : Nat → Prop} {μ' : Mu} {x : Value} (hv : CRel w' F' μ' (T k).v x) (hid : InId (idOf rb T k) μ μ') (HS' : HRel V μ' F' hS' w') (E : Ext μ F hS w μ' F' hS' w') : Inv V nt rb n T H S μ0 F0 w0 df D' q μ' F' (a.put (T k).x.o.dst x) w' where
  cl := I.cl' A hk hD rd hD'
  wl := fun j hj e h => by
    have hne : j ≠ k := fun e2 => by rw [e2] at e; omega
    exact I.wl j hj e ((I.old A hk hD rd hD' hj hne).1 h)
  wq := I.wq.imp id fun ⟨j, h1, h2, h3, h4⟩ => ⟨j, h1, h2, h3, (hD' _).2 (.inl h4)⟩
  sl := I.sl' A hk hD rd hD' hv fun h => h.ext HS E
  hp := by
    refine ⟨hS', HS', ES.trans E, hnx.trans nS, hset.pr.trans pS, fun b => ⟨fun j hj e hb => ?_, fun hno => ?_⟩⟩
    · by_cases ej : j = k
      · subst ej
        subst hb
        rw [hset.same]
        refine ⟨fun _ => ⟨fun _ => .inl hB.same.symm, fun hkq => ?_⟩, fun h => absurd (I.here A hk hD rd hD') h⟩
        have := A.hidden hk (j := q) (by omega) (I.qn A) fun m h1 h2 h3 => by
          obtain ⟨dn, ok, hdn⟩ := A.tp m (by have := I.qn A; omega)
          rw [ok.looseA h3]
          have hc : (T j).x.c = 2 := by rcases A.kd hk with h | h <;> omega
          exact mem_looseA.2 ⟨_, (hdn _).2 ⟨j, by omega, rfl⟩, rfl, hc, I.w2 A hk hD (by have := I.qn A; omega) (I.ran A h2 h3)⟩
        rw [this, hB.same]; exact BEq.refl B
      · have hne : b ≠ idOf rb T k := fun e2 => ej (A.id_inj hj hk (hb.trans e2))
        rw [hset.ne hne, I.old A hk hD rd hD' hj ej]
        exact (sS b).1 j hj e hb
    · have hne : b ≠ idOf rb T k := fun e2 => hno k hk hkd e2.symm
      rw [hset.ne hne]
      exact (sS b).2 hno
  un := fun j hj h => Classical.byContradiction fun hne => by
    rcases hid _ hne with h1 | h1
    · exact h1 (I.un j hj fun h' => h ((hD' _).2 (.inl h')))
    · have := A.id_inj hj hk h1
      subst this
      exact h (I.here A hk hD rd hD')
  gn := I.gn
  ids := fun b hb => (hid b hb).elim (I.ids b) fun e => .inr (by rw [e]; exact Nat.le_add_right _ _)
  nt := by rw [(put_size a _ x).1]; exact I.nt
  df := by rw [(put_size a _ x).2]; exact I.df
omit hD' in
/-- Where an operation that writes is run, what the heap holds is what the plan's heap holds there. -/
theorem Inv.alike (hkd : (T k).kd = 3) {hS : Hp} (sS : ∀ b, HSp rb n T H D q b (hS.at b)) (b : Nat) (hno : ¬ ∃ j, j < n ∧ (T j).kd = 2 ∧ ¬ D (T j).x.i ∧ idOf rb T j = b) : BEq (hS.at b) ((H k).at b) := by
  have hqk := I.w3 A hk hD hkd
  have hw := fun j => I.w1 A hk rd (j := j) (by rcases A.kd hk with h | h <;> omega)
  by_cases hm : ∃ j, j < n ∧ (T j).kd = 2 ∧ idOf rb T j = b
  · obtain ⟨j, hj, hkj, hjb⟩ := hm
    have hDj : D (T j).x.i := Classical.byContradiction fun h => hno ⟨j, hj, hkj, h, hjb⟩
    have hother : ∀ m, m < n → (T m).kd = 2 → m ≠ j → idOf rb T m ≠ b := fun m hm _ hne e => hne (A.id_inj hm hj (e.trans hjb.symm))
    have hne : j ≠ k := fun e => by rw [e] at hkj; omega
    have hjk : j < k := by
      by_cases e : j < k
      · exact e
      · exfalso
        rcases pairOk_out (A.pair k j (by omega) hj).2.2 with h1 | h1 | h1
        · rw [I.w2 A hk hD hj hDj] at h1; cases h1
        · rcases A.kd hj with h2 | h2 <;> omega
        · rcases A.kd hk with h2 | h2 <;> omega
    have hX := ((sS b).1 j hj hkj hjb).1 hDj
    by_cases hqj : q ≤ j
    · rw [I.between A hqk (by omega) hw (j := j + 1) (by omega) (by omega) fun m h1 h2 h3 => hother m (by omega) h3 (by omega)]
      exact hX.1 hqj
    · rw [I.between A hqk (by omega) hw (Nat.le_refl q) hqk fun m h1 h2 h3 => hother m (by omega) h3 (by omega)]
      exact hX.2 (by omega)
  · rw [I.between A hqk (by omega) hw (Nat.le_refl q) hqk fun m h1 h2 h3 e => hm ⟨m, by omega, h3, e⟩]
    exact (sS b).2 fun j hj hkj e => hm ⟨j, hj, hkj, e⟩
omit hD' in
/-- An operation that was not run, of those that make memory: it is hidden, or its number is free. -/
theorem Inv.unrun (hkd : (T k).kd = 3) {j : Nat} (hj : j < n) (hkj : (T j).kd = 2) (hDj : ¬ D (T j).x.i) : (j < k ∧ (T j).x.i ∈ (T k).A) ∨ (k < j ∧ ((H k).at (idOf rb T j)).gone) := by
  have hne : j ≠ k := fun e => by rw [e] at hkj; omega
  by_cases hjk : j < k
  · left
    refine ⟨hjk, ?_⟩
    obtain ⟨dn, ok, hdn⟩ := A.tp k hk
    rw [ok.looseA hkd]
    refine mem_looseA.2 ⟨_, (hdn _).2 ⟨j, hjk, rfl⟩, rfl, by rcases A.kd hj with h | h <;> omega, ?_⟩
    cases hb : bit (T k).x.m (T j).x.i with
    | false => rfl
    | true => exact absurd (rd j hj hb) hDj
  · right
    have hqk := I.w3 A hk hD hkd
    have hw := fun j => I.w1 A hk rd (j := j) (by rcases A.kd hk with h | h <;> omega)
    refine ⟨by omega, ?_⟩
    have hg := I.gn j hj hkj
    rw [Nat.min_eq_left (by omega)] at hg
    rw [I.between A hqk (by omega) hw (Nat.le_refl q) hqk fun m h1 h2 h3 e => absurd (A.id_inj (by omega) hj e) (by omega)]
    exact hg
omit hD' in
theorem Inv.hidA (hkd : (T k).kd = 3) {hS : Hp} (sS : ∀ b, HSp rb n T H D q b (hS.at b)) (b : Nat) : ((T k).hA.at b).gone ∨ (T k).hA.at b = hS.at b := by
  have hw := A.wrap hk hkd
  have hrb := (A.rbs hk).1
  by_cases hA : ∃ i ∈ (T k).A, b = (H k).rb + i
  · rw [hw.ain b hA]; exact .inl trivial
  · rw [hw.aout b hA]
    by_cases hno : ∃ j, j < n ∧ (T j).kd = 2 ∧ ¬ D (T j).x.i ∧ idOf rb T j = b
    · obtain ⟨j, hj, hkj, hDj, rfl⟩ := hno
      rcases I.unrun A hk hD rd hkd hj hkj hDj with ⟨_, h⟩ | ⟨_, h⟩
      · exact absurd ⟨_, h, by rw [hrb]⟩ hA
      · exact .inl h
    · rcases I.alike A hk hD rd hkd sS b hno with h | ⟨_, h⟩
      · exact .inr h.symm
      · exact .inl h
open Classical in
theorem Inv.write (hkd : (T k).kd = 3) {hS : Hp} (HS : HRel V μ F hS w) (ES : Ext μ0 F0 (H 0) w0 μ F hS w) (nS : hS.nx = (H q).nx) (pS : hS.pr = (H 0).pr) (sS : ∀ b, HSp rb n T H D q b (hS.at b)) (HA : HRel V μ F (T k).hA w)
    {w' : World} {F' : Nat → Prop} {μ' : Mu} {x : Value} (hv : CRel w' F' μ' (T k).v x) (hid : NewIds (idOf rb T k) (T k).hA μ μ') (HB : HRel V μ' F' (T k).hB w') (E : Ext μ F (T k).hA w μ' F' (T k).hB w') : Inv V nt rb n T H S μ0 F0 w0 df D' (k + 1) μ' F' (a.put (T k).x.o.dst x) w' := by
  have hw := A.wrap hk hkd
  have hrb := (A.rbs hk).1
  have hqk := I.w3 A hk hD hkd
  have hw1 := fun j => I.w1 A hk rd (j := j) (by rcases A.kd hk with h | h <;> omega)
  have hprk : (H k).pr = (H 0).pr := (A.mono (Nat.zero_le k) (by omega)).2
  -- later operations that make memory come behind this one
  have later : ∀ j, j < n → (T j).kd = 2 → k < j → ¬ D' (T j).x.i := fun j hj hkj hkj2 h => by
    have hDj := (I.old A hk hD rd hD' hj (by omega)).1 h
    rcases pairOk_out (A.pair k j hkj2 hj).2.2 with h1 | h1 | h1
    · rw [I.w2 A hk hD hj hDj] at h1; cases h1
    · rcases A.kd hj with h2 | h2 <;> omega
    · rcases A.kd hk with h2 | h2 <;> omega
  have un' : ∀ j, j < n → ¬ D' (T j).x.i → μ' (idOf rb T j) = none := fun j hj h => Classical.byContradiction fun hne => by
    rcases hid _ hne with h1 | h1 | h1
    · exact h1 (I.un j hj fun h' => h ((hD' _).2 (.inl h')))
    · have := A.id_inj hj hk h1
      subst this
      exact h (I.here A hk hD rd hD')
    · rw [hw.anx] at h1
      have h2 := (A.rbs hk).2
      have h3 := (A.op j hj).2.2.2
      unfold idOf at h1; omega
  let f : Nat → Blk := fun b => if ∃ j, j < n ∧ (T j).kd = 2 ∧ ¬ D' (T j).x.i ∧ idOf rb T j = b then .dead else (H (k + 1)).at b
  obtain ⟨hS', s1, s2, s3, s4⟩ := hp_set (T k).hB f (T k).hB.nx hS.pr hS.rb ((T k).A.map (fun i => (H k).rb + i) ++ (T k).pl ++ (List.range n).map (idOf rb T))
  have hf : ∀ b, hS'.at b = f b := fun b => by
    by_cases hb : b ∈ (T k).A.map (fun i => (H k).rb + i) ++ (T k).pl ++ (List.range n).map (idOf rb T)
    · exact (s4 b).1 hb
    · rw [(s4 b).2 hb]
      rw [List.mem_append, List.mem_append, not_or, not_or] at hb
      have h1 : ¬ ∃ j, j < n ∧ (T j).kd = 2 ∧ ¬ D' (T j).x.i ∧ idOf rb T j = b := fun ⟨j, hj, _, _, e⟩ => hb.2 (List.mem_map.2 ⟨j, List.mem_range.2 hj, e⟩)
      show (T k).hB.at b = if _ then _ else _
      rw [if_neg h1]
      exact (hw.kout b (fun ⟨i, hi, e⟩ => hb.1.1 (List.mem_map.2 ⟨i, hi, e.symm⟩)) hb.1.2).symm
  have hAS := I.hidA A hk hD rd hkd sS
  obtain ⟨HS', ES'⟩ := HRel.frame HS HA HB E (hS' := hS') (fun b hg => (hAS b).resolve_left hg) (fun b hb => by rw [hw.apr, hprk, ← pS]; exact List.mem_append_right _ hb) (by rw [nS, hw.anx]; exact (A.mono hqk (by omega)).1) s1 s2 s3 (fun b => by
    rw [hf b]
    by_cases h1 : ∃ j, j < n ∧ (T j).kd = 2 ∧ ¬ D' (T j).x.i ∧ idOf rb T j = b
    · left
      show (if _ then Blk.dead else _ : Blk).gone
      rw [if_pos h1]; trivial
    · have hfb : f b = (H (k + 1)).at b := if_neg h1
      rw [hfb]
      by_cases hA : ∃ i ∈ (T k).A, b = (H k).rb + i
      · -- put away
        have hback : (H (k + 1)).at b = (H k).at b := by
          by_cases hp : b ∈ (T k).pl
          · exact (hw.pin b hA hp).self
          · exact hw.kin b hA hp
        rw [hback]
        have halike := I.alike A hk hD rd hkd sS b fun ⟨j, hj, hkj, hDj, e⟩ => h1 ⟨j, hj, hkj, fun h => hDj ((I.old A hk hD rd hD' hj (fun e2 => by rw [e2] at hkj; omega)).1 h), e⟩
        rcases halike with h | ⟨_, h⟩
        · exact .inr (.inr (.inl ⟨h.symm, by rw [hw.ain b hA]; trivial⟩))
        · exact .inl h
      · by_cases hp : b ∈ (T k).pl
        · refine .inr (.inr (.inr ⟨by rw [hw.apr]; exact List.mem_append_left _ hp, ?_⟩))
          rw [hw.aout b hA]; exact hw.pout b hA hp
        · refine .inr (.inl ⟨hw.kout b hA hp, fun h => ?_⟩)
          rw [hw.apr, hprk, ← pS] at h
          exact (List.mem_append.1 h).resolve_left hp)
  refine ⟨I.cl' A hk hD rd hD', fun j hj e h => ?_, .inr ⟨k, rfl, hk, hkd, I.here A hk hD rd hD'⟩, I.sl' A hk hD rd hD' hv fun h => h.ext HA E, ⟨hS', HS', ES.trans ES', s1.trans hw.nx.symm, s2.trans pS, fun b => ⟨fun j hj e hb => ⟨fun hDj => ⟨fun hle => ?_, fun hlt => ?_⟩, fun hDj => ?_⟩, fun hno => ?_⟩⟩, un', fun j hj hkj => ?_, fun b hb => ?_, by rw [(put_size a _ x).1]; exact I.nt, by rw [(put_size a _ x).2]; exact I.df⟩
  · by_cases ej : j = k
    · omega
    · have := I.wl j hj e ((I.old A hk hD rd hD' hj ej).1 h); omega
  · exact absurd hDj (later j hj e (by omega))
  · rw [hf b]
    have h1 : ¬ ∃ j, j < n ∧ (T j).kd = 2 ∧ ¬ D' (T j).x.i ∧ idOf rb T j = b := fun ⟨j', hj', _, hD2, e2⟩ => by
      have := A.id_inj hj' hj (e2.trans hb.symm)
      subst this; exact hD2 hDj
    show BEq (if _ then _ else _) _
    rw [if_neg h1]; exact BEq.refl _
  · rw [hf b]
    show (if _ then Blk.dead else _ : Blk).gone
    rw [if_pos ⟨j, hj, e, hDj, hb⟩]; trivial
  · rw [hf b]
    show BEq (if _ then _ else _) _
    rw [if_neg (fun ⟨j, hj, hkj, _, e⟩ => hno j hj hkj e)]; exact BEq.refl _
  · -- free numbers
    have hne : j ≠ k := fun e => by rw [e] at hkj; omega
    have hg := I.gn j hj hkj
    by_cases hjk : j < k
    · rw [Nat.min_eq_right (by omega)]
      by_cases hjq : j ≤ q
      · rw [Nat.min_eq_right hjq] at hg; exact hg
      · rw [Nat.min_eq_left (by omega)] at hg
        have := I.between A (k := j) (by omega) (by omega) (fun m h1 h2 => hw1 m (by omega) h2) (Nat.le_refl q) (by omega) (b := idOf rb T j) fun m h1 h2 h3 e => absurd (A.id_inj (by omega) hj e) (by omega)
        rw [this]; exact hg
    · rw [Nat.min_eq_left (by omega)]
      have hgk : ((H k).at (idOf rb T j)).gone := by
        rw [Nat.min_eq_left (by omega)] at hg
        rw [I.between A hqk (by omega) hw1 (Nat.le_refl q) hqk fun m h1 h2 h3 e => absurd (A.id_inj (by omega) hj e) (by omega)]
        exact hg
      have hnA : ¬ ∃ i ∈ (T k).A, idOf rb T j = (H k).rb + i := fun ⟨i, hi, e⟩ => by
        obtain ⟨dn, ok, hdn⟩ := A.tp k hk
        rw [ok.looseA hkd] at hi
        obtain ⟨y, hy, hyi, _⟩ := mem_looseA.1 hi
        obtain ⟨m, hm, hmy⟩ := (hdn y).1 hy
        have : (T m).x.i = (T j).x.i := by rw [hmy, hyi]; rw [hrb] at e; unfold idOf at e; omega
        have := A.inj m j (by omega) hj this
        omega
      have hnp : idOf rb T j ∉ (T k).pl := fun hp => gone_live hgk (hw.pout _ hnA hp).live.1
      rw [hw.kout _ hnA hnp]
      have hμ := un' j hj (later j hj hkj (by omega))
      exact Classical.byContradiction fun hng => by
        obtain ⟨m, hm⟩ := (HB.blk (idOf rb T j)).some hng
        rw [hμ] at hm; cases hm
  · rcases hid b hb with h | h | h
    · exact I.ids b h
    · exact .inr (by rw [h]; exact Nat.le_add_right _ _)
    · refine .inr ?_
      rw [hw.anx] at h
      have := (A.rbs hk).2
      omega
end
end Go.Proofs.YtlffjnddiiojnaaGreatDoor.Ev

/- Regions that draw their order: the whole. -/
namespace Go.Proofs.YtlffjnddiiojnaaGreatDoor.Ev
theorem countP_lt {α : Type} {p p' : α → Bool} (hpp : ∀ x, p' x = true → p x = true) : ∀ {l : List α}, l.countP p' ≤ l.countP p ∧ ∀ {x : α}, x ∈ l → p x = true → p' x = false → l.countP p' < l.countP p
  | [] => ⟨Nat.le_refl _, fun h => by cases h⟩
  | y :: l => by
    obtain ⟨h1, h2⟩ := countP_lt hpp (l := l)
    rw [List.countP_cons, List.countP_cons]
    refine ⟨?_, fun {x} hx hp hp' => ?_⟩
    · by_cases e : p' y = true
      · rw [if_pos e, if_pos (hpp y e)]; omega
      · rw [if_neg e]; omega
    · rcases List.mem_cons.1 hx with rfl | hx
      · rw [hp, hp']; simp; omega
      · have := h2 hx hp hp'
        by_cases e : p' y = true
        · rw [if_pos e, if_pos (hpp y e)]; omega
        · rw [if_neg e]; omega
section
variable {V : Env} {ops : Array Oper} {nt rb : Nat} {all : List Dr} {T : Nat → TP} {H : Nat → Hp} {S : Nat → Nat → AV} (A : Plan V ops nt rb ops.size all T H S) (hb : backOk ops.toList 0 = true)
  {μ0 : Mu} {F0 : Nat → Prop} {w0 : World} {df : List Deferred} {Q : Exit → Act → World → Prop} {r : Option Nat} {m : Nat}
include A hb
theorem draw_any (hQ : ∀ (D : Nat → Prop) q μ F a w, Inv V nt rb ops.size T H S μ0 F0 w0 df D q μ F a w → (∀ i, i < ops.size → D i) → Q .normal a w) : ∀ (fuel : Nat) (listed : Array Bool) (q : Nat) (μ : Mu) (F : Nat → Prop) (a : Act) (w : World), listed.size = ops.size → (List.range ops.size).countP (fun i => !listed.getD i false) ≤ fuel →
    Inv V nt rb ops.size T H S μ0 F0 w0 df (fun i => listed.getD i false = true) q μ F a w → wpAnyIn (Wf r) m V.P .any ops Q fuel listed a w := by
  have ready : ∀ {listed : Array Bool} {i : Nat}, i ∈ Region.ready .any ops listed ↔ listed.getD i true = false ∧ ∃ o, ops[i]? = some o ∧ ∀ e ∈ o.after, Region.binds .any e = true → listed.getD e.on false = true := fun {listed i} => mem_ready
  have getT : ∀ {listed : Array Bool} {i : Nat}, listed.getD i true = false → i < listed.size ∧ listed.getD i false = false := fun {listed i} h => by
    rw [Array.getD_eq_getD_getElem?] at h
    cases hx : listed[i]? with
    | none => rw [hx] at h; cases h
    | some b =>
      rw [hx] at h
      refine ⟨(Array.getElem?_eq_some_iff.1 hx).1, ?_⟩
      rw [Array.getD_eq_getD_getElem?, hx]; exact h
  have getF : ∀ {listed : Array Bool} {i : Nat}, listed.size = ops.size → i < ops.size → listed.getD i false ≠ true → listed.getD i true = false := fun {listed i} hs hi h => by
    rw [Array.getD_eq_getD_getElem?] at h ⊢
    cases hx : listed[i]? with
    | none => rw [Array.getElem?_eq_none_iff] at hx; omega
    | some b => rw [hx] at h; cases b with | false => rfl | true => exact absurd rfl h
  -- where none may come up, all were run
  have all' : ∀ {listed : Array Bool}, listed.size = ops.size → Region.ready .any ops listed = [] → ∀ i, i < ops.size → listed.getD i false = true := fun {listed} hs hr i => by
    induction i using Nat.strongRecOn with
    | _ i ih =>
      intro hi
      exact Classical.byContradiction fun h => by
        have hmem : i ∈ Region.ready .any ops listed := ready.2 ⟨getF hs hi h, ops[i], Array.getElem?_eq_getElem hi, fun e he hbi => by
          have hlt := backOk_out hb i ops[i] (by rw [Array.getElem?_toList, Array.getElem?_eq_getElem hi]) e (by simpa using he) hbi
          exact ih e.on (by omega) (by omega)⟩
        rw [hr] at hmem; cases hmem
  intro fuel
  induction fuel with
  | zero =>
    intro listed q μ F a w hs hc I
    have hall : ∀ i, i < ops.size → listed.getD i false = true := fun i hi => by
      have h0 := List.countP_eq_zero.1 (Nat.le_zero.1 hc) i (List.mem_range.2 hi)
      simpa using h0
    refine ⟨?_, hQ _ q μ F a w I hall⟩
    cases hr : Region.ready .any ops listed with
    | nil => rfl
    | cons i l =>
      exfalso
      have hi : i ∈ Region.ready .any ops listed := by rw [hr]; exact List.mem_cons_self ..
      obtain ⟨h1, _⟩ := ready.1 hi
      obtain ⟨h2, h3⟩ := getT h1
      rw [hall i (by omega)] at h3; cases h3
  | succ fuel ih =>
    intro listed q μ F a w hs hc I
    refine ⟨fun hr => hQ _ q μ F a w I (all' hs hr), fun i hi => ?_⟩
    obtain ⟨h1, o, ho, hon⟩ := ready.1 hi
    obtain ⟨hilt, hiF⟩ := getT h1
    rw [hs] at hilt
    obtain ⟨k, hk, rfl⟩ := A.surj i hilt
    obtain ⟨op1, op2, op3, _⟩ := A.op k hk
    rw [ho] at op1
    have hoo : o = (T k).x.o := Option.some.inj op1
    subst hoo
    have hD : ¬ listed.getD (T k).x.i false = true := by rw [hiF]; simp
    have rd : ∀ j, j < ops.size → bit (T k).x.m (T j).x.i = true → listed.getD (T j).x.i false = true := fun j hj hbit => by
      rw [op2] at hbit
      obtain ⟨e, e1, e2, e3, e4⟩ := msk_bit hb ho hbit
      have hDe := hon e (by simpa using e1) e2
      rcases e4 with e4 | e4
      · rw [e4]; exact hDe
      · obtain ⟨k', hk', hke⟩ := A.surj e.on (by omega)
        refine I.cl k' j hk' hj (by rw [hke]; exact hDe) ?_
        rw [(A.op k' hk').2.1, hke]; exact e4
    have hD' : ∀ j, (listed.setIfInBounds (T k).x.i true).getD j false = true ↔ listed.getD j false = true ∨ j = (T k).x.i := fun j => by
      rw [Array.getD_eq_getD_getElem?, Array.getElem?_setIfInBounds]
      by_cases e : (T k).x.i = j
      · subst e
        rw [if_pos rfl, if_pos (by omega)]
        exact ⟨fun _ => .inr rfl, fun _ => rfl⟩
      · rw [if_neg e, ← Array.getD_eq_getD_getElem?]
        exact ⟨.inl, fun h => h.resolve_right fun h2 => e h2.symm⟩
    have hs' : (listed.setIfInBounds (T k).x.i true).size = ops.size := by rw [Array.size_setIfInBounds, hs]
    have hc' : (List.range ops.size).countP (fun i => !(listed.setIfInBounds (T k).x.i true).getD i false) ≤ fuel := by
      have := (countP_lt (p := fun i => !listed.getD i false) (p' := fun i => !(listed.setIfInBounds (T k).x.i true).getD i false) (fun x hx => by
        have hx' : ¬ (listed.setIfInBounds (T k).x.i true).getD x false = true := by simpa using hx
        rw [hD'] at hx'
        have : ¬ listed.getD x false = true := fun h => hx' (.inl h)
        simpa using this) (l := List.range ops.size)).2 (List.mem_range.2 hilt) (by rw [hiF]; rfl) (by rw [(hD' _).2 (.inr rfl)]; rfl)
      omega
    have next := fun {q μ F a w} I' => ih (listed.setIfInBounds (T k).x.i true) q μ F a w hs' hc' I'
    obtain ⟨dn, ok, _⟩ := A.tp k hk
    obtain ⟨hS, HS, ES, nS, pS, sS⟩ := I.hp
    have hslot : ∀ t, t ∈ readsOf ops (T k).x.o → CRel w F μ ((T k).σ t) (a.tmps.getD t undef) := fun t ht => by
      rw [(A.sk k hk).1]
      exact I.slot A hk hD rd (by rw [op3]; exact ht)
    have hO : ORel w F μ (T k).O (T k).x.o.op.operands.toList a.eval := fun x hx => ok.oo x HS.glo fun t e => hslot t (mem_reads (.inl (e ▸ hx)))
    have HA : (T k).kd = 3 → HRel V μ F (T k).hA w := fun e => HS.sub (I.hidA A hk hD rd e sS) (by rw [nS, (A.wrap hk e).anx]; exact (A.mono (I.w3 A hk hD e) (by omega)).1)
    refine ok.step.wpS (hS := hS) ho hO (fun j want t hg hd => by rw [ok.os]; exact hslot t (mem_reads (.inr ⟨j, want, hg, hd⟩))) (I.un k hk hD) HS ?_ (fun e p hsp hm hl => ?_) HA (fun e x hv => next (I.low A hk hD rd hD' e hv)) (fun e B hB hS' x w' μ' F' hset hnx hv hid HS' E => ?_) (fun e x w' μ' F' hv hid HB E => next (I.write A hk hD rd hD' e HS ES nS pS sS (HA e) hv hid HB E))
    · rw [nS]
      have h1 := (A.rbs (k := 0) (by omega)).2
      have h2 := (A.mono (Nat.zero_le q) (I.qn A)).1
      have h3 := (A.op k hk).2.2.2
      omega
    · have eA := (A.low hk (by omega)).1
      rw [eA] at hl ⊢
      exact I.read A hk hD rd HS sS e hsp hl (hO p hm)
    · obtain ⟨eA, eB, _⟩ := A.low hk (by omega)
      rw [eA, eB] at hB
      exact next (I.make A hk hD rd hD' e HS ES nS pS sS hB hset hnx hv hid HS' E)
end
theorem order_nodup : ∀ (n D : Nat) (l : List Dr), (l.map (·.i)).Nodup → ((order n D l).map (·.i)).Nodup
  | 0, D, l, _ => List.nodup_nil
  | n + 1, D, l, hn => by
    have e0 : order (n + 1) D l = Option.rec (motive := fun _ => List Dr) [] (fun x => x :: order n (Nat.lor D (Nat.pow 2 x.i)) (without x.i l)) (pickF D l (pickA D l)) := rfl
    cases hp : pickF D l (pickA D l) with
    | none => rw [e0, hp]; exact List.nodup_nil
    | some z =>
      have e1 : order (n + 1) D l = z :: order n (D ||| 2 ^ z.i) (without z.i l) := by rw [e0, hp]; rfl
      have hw : ((without z.i l).map (·.i)).Nodup := hn.sublist ((without_sub l).map _)
      rw [e1, List.map_cons, List.nodup_cons]
      refine ⟨fun hm => ?_, order_nodup n _ _ hw⟩
      obtain ⟨y, hy, e⟩ := List.mem_map.1 hm
      obtain ⟨k, hk, hky⟩ := List.getElem_of_mem hy
      have := (order_spec n (D ||| 2 ^ z.i) (without z.i l) hw k y (by rw [List.getElem?_eq_getElem hk, hky])).1
      exact not_without hn this e
theorem Ext.congr {μ μ' : Mu} {F F' : Nat → Prop} {h h1 h2 : Hp} {w w' : World} (E : Ext μ F h w μ' F' h1 w') (he : ∀ b, BEq (h1.at b) (h2.at b)) (hp : h2.pr = h1.pr) (hn : h1.nx ≤ h2.nx) (hr : h2.rb = h.rb) : Ext μ F h w μ' F' h2 w' :=
  ⟨E.mu, E.fr, E.size, E.keep, fun B ⟨b, m, q1, q2, q3, q4⟩ => E.own B ⟨b, m, (he b).symm.wr q1, by rw [← hp]; exact q2, q3, q4⟩, fun B ⟨b, m, q1, q3, q4⟩ => E.wb B ⟨b, m, (he b).symm.wr q1, q3, q4⟩, E.newF, E.newMu, Nat.le_trans E.nx hn, hp.trans E.pr, hr, E.io⟩
section
variable {C : Cx} {vs : Vs} {R : Res} (ok : MemOk C.M) (hR : R ≠ .fail) {ops : Array Oper}
include ok hR
/-- A region that draws its order. -/
theorem denDraw_ok (hc : CallsOk C (C.env vs)) (hgl : GlOk C vs) (hm : C.P.follows .mixedOrders = true) {s0 : Base} {k : G → Sm} {Q : Exit → Act → World → Prop} {r : Option Nat} {n rid : Nat} {g : G} {sk : Row} {fr : Fr} {hp : Hp} {μ : Mu} {F : Nat → Prop} {a : Act} {w : World}
    (h : (denDraw C ops g k).run sk fr hp = R) (St0 : St C (C.env vs) s0 g sk fr hp μ F a w)
    (hQ : ∀ g' sk' fr' hp' μ' F' a' w', (k g').run sk' fr' hp' = R → St C (C.env vs) s0 g' sk' fr' hp' μ' F' a' w' → ExtC μ F hp w μ' F' hp' w' → Q .normal a' w') : (Code.region rid ops true).wpIn (Wf r) n C.P Q a w := by
  refine wpIn_region_any hm ?_
  have h1 : (Bool.rec (motive := fun _ => Sm) failS (⟨fun sk fr hp => Hp.rec (motive := fun _ => Res) (fun t nx pr _ => forceN nx fun nx => forceN (Nat.add nx ops.size) fun m => (denDs C ops (order ops.size 0 (drs C.P ops ops.toList (revN (masksR ops.toList [] 0) []) 0)) (order ops.size 0 (drs C.P ops ops.toList (revN (masksR ops.toList [] 0) []) 0)) g k []).run sk fr ⟨t, m, pr, nx⟩) hp⟩ : Sm)
    (band (backOk ops.toList 0) (drawOk (order ops.size 0 (drs C.P ops ops.toList (revN (masksR ops.toList [] 0) []) 0)) ops.size)) : Sm).run sk fr hp = R := h
  generalize hl : order ops.size 0 (drs C.P ops ops.toList (revN (masksR ops.toList [] 0) []) 0) = l at h1
  cases hbd : band (backOk ops.toList 0) (drawOk l ops.size) with
  | false => rw [hbd] at h1; exact fail_out hR h1
  | true =>
    rw [hbd] at h1
    rw [band_eq] at hbd
    obtain ⟨hb, hd⟩ := hbd
    have h2 : forceN hp.nx (fun nx => forceN (Nat.add nx ops.size) fun m => (denDs C ops l l g k []).run sk fr ⟨hp.t, m, hp.pr, nx⟩) = R := h1
    rw [forceN_eq, forceN_eq] at h2
    have hids : ((drs C.P ops ops.toList (revN (masksR ops.toList [] 0) []) 0).map (·.i)).Nodup := by rw [drs_ids]; exact List.nodup_range'
    obtain ⟨ts, g', sk', fr', hp', q1, q2, q3⟩ := denDs_out (vs := vs) ok hR hc hgl (all := l) (rb := hp.nx) (n := ops.size) l St0.gi (fun x hx => by
      rw [← hl] at hx
      obtain ⟨j, hj, e⟩ := List.getElem_of_mem hx
      have hm := (order_spec ops.size 0 _ hids j x (by rw [List.getElem?_eq_getElem hj, e])).1
      obtain ⟨j', o, e1, e2⟩ := drs_get hm
      rw [e2]
      refine ⟨?_, rfl⟩
      show 0 + j' < ops.size
      have := (List.getElem?_eq_some_iff.1 e1).1
      simpa using this) rfl (Nat.le_refl _) (by
      rw [List.map_nil, List.append_nil, ← hl]; exact order_nodup _ _ _ hids) h2
    obtain ⟨T, H, S, A, eH0, eHn, eS0, eSn⟩ := q3.plan (hl.symm) hd
    have hw : HRel (C.env vs) μ F hp { w with drawn := w.drawn + 1 } := (St0.h.world (w' := { w with drawn := w.drawn + 1 }) rfl).1
    have hH0at : ∀ b, (H 0).at b = hp.at b := fun b => by rw [eH0]
    have H0 : HRel (C.env vs) μ F (H 0) { w with drawn := w.drawn + 1 } := hw.sub (fun b => .inr (hH0at b)) (by rw [eH0]; exact Nat.le_add_right _ _)
    have hfree : ∀ k, k < ops.size → μ (idOf hp.nx T k) = none := fun k hk => by
      cases hx : μ (idOf hp.nx T k) with
      | none => rfl
      | some m => exact absurd (St0.h.dom _ m hx).1 (Nat.not_lt.2 (Nat.le_add_right _ _))
    have hgone : ∀ k, k < ops.size → ((H 0).at (idOf hp.nx T k)).gone := fun k hk => Classical.byContradiction fun hng => by
      obtain ⟨m, hm⟩ := (H0.blk (idOf hp.nx T k)).some hng
      rw [hfree k hk] at hm; cases hm
    have hnone : ∀ i, ¬ (Array.replicate ops.size false).getD i false = true := fun i => by
      rw [Array.getD_eq_getD_getElem?, Array.getElem?_replicate]
      split <;> simp
    refine draw_any (V := C.env vs) (μ0 := μ) (F0 := F) (w0 := { w with drawn := w.drawn + 1 }) (df := a.defers) A hb (fun D q μ' F' a' w' I hall => ?_) ops.size _ 0 μ F a _ (by simp) (by
      have : (List.range ops.size).countP (fun i => !(Array.replicate ops.size false).getD i false) ≤ (List.range ops.size).length := List.countP_le_length
      simpa using this) ⟨fun k j _ _ h => absurd h (hnone _), fun k _ _ h => absurd h (hnone _), .inl rfl, fun t => .inr ⟨fun k _ h => absurd h (hnone _), by rw [eS0]; exact CRel.mono (w := w) (w' := { w with drawn := w.drawn + 1 }) (F := F) (F' := F) (fun _ _ => rfl) (fun _ h => h) (St0.sl t) (fun _ _ h => h)⟩, ⟨H 0, H0, Ext.refl _ _ _ _, rfl, rfl, fun b => ⟨fun k hk _ e => ⟨fun h => absurd h (hnone _), fun _ => e ▸ hgone k hk⟩, fun _ => BEq.refl _⟩⟩, fun k hk _ => hfree k hk, fun k hk _ => by rw [Nat.zero_min]; exact hgone k hk, fun b h => .inl h, St0.nt, rfl⟩
    -- the end
    obtain ⟨hS, HS, ES, nS, pS, sS⟩ := I.hp
    have hqn := I.qn A
    have hwr : ∀ j, j < ops.size → (T j).kd = 3 → j < q := fun j hj e => I.wl j hj e (hall _ (A.op j hj).2.2.2)
    have hbeq : ∀ b, BEq (hS.at b) ((H ops.size).at b) := fun b => by
      by_cases hmk : ∃ j, j < ops.size ∧ (T j).kd = 2 ∧ idOf hp.nx T j = b
      · obtain ⟨j, hj, hkj, hjb⟩ := hmk
        have hX := ((sS b).1 j hj hkj hjb).1 (hall _ (A.op j hj).2.2.2)
        have hother : ∀ m, m < ops.size → (T m).kd = 2 → m ≠ j → idOf hp.nx T m ≠ b := fun m hm _ hne e => hne (A.id_inj hm hj (e.trans hjb.symm))
        by_cases hqj : q ≤ j
        · rw [I.between A (k := ops.size) hqn (Nat.le_refl _) hwr (j := j + 1) (by omega) (by omega) fun m h1 h2 h3 => hother m h2 h3 (by omega)]
          exact hX.1 hqj
        · rw [I.between A (k := ops.size) hqn (Nat.le_refl _) hwr (Nat.le_refl q) hqn fun m h1 h2 h3 => hother m h2 h3 (by omega)]
          exact hX.2 (by omega)
      · rw [I.between A (k := ops.size) hqn (Nat.le_refl _) hwr (Nat.le_refl q) hqn fun m h1 h2 h3 e => hmk ⟨m, h2, h3, e⟩]
        exact (sS b).2 fun j hj hkj e => hmk ⟨j, hj, hkj, e⟩
    have hnxn : hS.nx ≤ (H ops.size).nx := by rw [nS]; exact (A.mono hqn (Nat.le_refl _)).1
    have hprn : (H ops.size).pr = hS.pr := by rw [pS]; exact (A.mono (Nat.zero_le _) (Nat.le_refl _)).2
    have HN : HRel (C.env vs) μ' F' (H ops.size) w' := HS.congr hbeq hnxn
    have EN : Ext μ F hp w μ' F' ((H ops.size).rbs hp.rb) w' := by
      have e1 : Ext μ F (H 0) { w with drawn := w.drawn + 1 } μ' F' ((H ops.size).rbs (H 0).rb) w' := ES.congr hbeq hprn hnxn rfl
      refine ⟨e1.mu, e1.fr, e1.size, fun B hB ho => e1.keep B hB fun ⟨b, m, o1, o2, o3, o4⟩ => ho ⟨b, m, by rw [← hH0at]; exact o1, by rw [eH0] at o2; exact o2, o3, o4⟩, fun B hB => (e1.own B hB).imp id fun ⟨b, m, o1, o2, o3, o4⟩ => ⟨b, m, by rw [← hH0at]; exact o1, by rw [eH0] at o2; exact o2, o3, o4⟩, fun B hB => (e1.wb B hB).imp id fun ⟨b, m, o1, o3, o4⟩ => ⟨b, m, by rw [← hH0at]; exact o1, o3, o4⟩, fun B hB => (e1.newF B hB).imp id fun h => h.imp id fun ⟨b, m, o1, o3, o4⟩ => ⟨b, m, by rw [← hH0at]; exact o1, o3, o4⟩, fun b m hm => (e1.newMu b m hm).imp id fun ⟨z1, z2⟩ => ⟨z1, z2.imp id fun ⟨b, m, o1, o2, o3, o4⟩ => ⟨b, m, by rw [← hH0at]; exact o1, by rw [eH0] at o2; exact o2, o3, o4⟩⟩, ?_, ?_, rfl, e1.io⟩
      · have := e1.nx
        rw [eH0] at this
        exact Nat.le_trans (Nat.le_add_right _ _) this
      · have := e1.pr
        rw [eH0] at this
        exact this
    rw [eHn] at HN EN
    have EC : ExtC μ F hp w μ' F' hp' w' := ⟨EN, I.ids⟩
    refine hQ g' sk' fr' hp' μ' F' a' w' q1 ⟨q2, fun t => ?_, HN, I.nt, by rw [I.df]; exact (St0.df.ext EC.ext).rbs⟩ EC
    rw [← eSn]
    rcases I.sl t with ⟨j, hj, hDj, hdst, hcj⟩ | ⟨hno, hcj⟩
    · have hs : S (j + 1) t = (T j).v := (A.slot hj t).1 hdst
      rcases A.unwritten (j := j + 1) (t := t) (k := ops.size) (by omega) (Nat.le_refl _) (fun m h1 h2 => (slotOk_out (A.pair j m (by omega) h2).1 hdst).1) with h | h
      · rw [h, hs]; exact hcj
      · rw [h]; exact .undef _
    · rcases A.unwritten (j := 0) (t := t) (k := ops.size) (Nat.zero_le _) (Nat.le_refl _) (fun m _ h2 => hno m h2 (hall _ (A.op m h2).2.2.2)) with h | h
      · rw [h]; exact hcj
      · rw [h]; exact .undef _
end
end Go.Proofs.YtlffjnddiiojnaaGreatDoor.Ev
