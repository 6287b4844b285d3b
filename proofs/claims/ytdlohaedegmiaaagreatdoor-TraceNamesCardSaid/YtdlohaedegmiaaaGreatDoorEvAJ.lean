import Derived.Test.YtdlohaedegmiaaaGreatDoorEvAI
namespace Go.Proofs.YtdlohaedegmiaaaGreatDoor.Ev
section
variable {C : Cx}
noncomputable def sig (C : Cx) (g : G) (sk : Row) (fr : Fr) (t : Nat) : AV := sv g.d (look C g t) sk fr
structure bN (C : Cx) (g : G) : Prop where
  nv : ∀ e ∈ g.m, isVar C e.1 = false
  st : ∀ e ∈ g.m, ∀ l, e.2 = .s l → l < g.d
  nd : (g.m.map (·.1)).Nodup
theorem bN.e : bN C .e := ⟨fun _ h => (by cases h), fun _ h => (by cases h), List.nodup_nil⟩
noncomputable def ew (l : List (Nat × Src)) (z : Src) (t : Nat) : Src := List.rec (motive := fun _ => Src) z (fun a _ ih => Bool.rec (motive := fun _ => Src) ih a.2 (Nat.beq a.1 t)) l
theorem look_eq (g : G) (t : Nat) : look C g t = ew g.m (idxOf t C.vars 0) t := rfl
theorem dV (a : Nat × Src) (l : List (Nat × Src)) (z : Src) (t : Nat) : ew (a :: l) z t = if a.1 = t then a.2 else ew l z t := by
  show (Bool.rec (motive := fun _ => Src) (ew l z t) a.2 (Nat.beq a.1 t) : Src) = _
  rw [aZ]; simp only [an]
theorem rI (t : Nat) : isVar C t = true ↔ t ∈ C.vars := by
  unfold isVar
  induction C.vars with
  | nil => simp
  | cons a l ih =>
    show (Bool.rec (motive := fun _ => Bool) _ true (Nat.beq a t) : Bool) = true ↔ _
    rw [aZ]
    by_cases e : a = t
    · subst e; simp
    · rw [if_neg (by rw [an]; exact e), ih, List.mem_cons]
      exact ⟨.inr, fun h => h.resolve_left fun h => e h.symm⟩
theorem idxOf_cons (a : Nat) (l : List Nat) (t i : Nat) : idxOf t (a :: l) i = if a = t then .f i else idxOf t l (i + 1) := by
  show (Bool.rec (motive := fun _ => Src) (idxOf t l (Nat.succ i)) (.f i) (Nat.beq a t) : Src) = _
  rw [aZ]; simp only [an]
theorem lY : ∀ {l : List Nat} {t i : Nat}, t ∉ l → idxOf t l i = .no
  | [], _, _, _ => rfl
  | a :: l, t, i, h => by
    rw [idxOf_cons, if_neg (by rintro rfl; exact h (List.mem_cons_self ..))]
    exact lY fun hm => h (List.mem_cons_of_mem _ hm)
theorem ka : ∀ {l : List Nat} {t i : Nat}, t ∈ l → ∃ j, idxOf t l i = .f j ∧ i ≤ j
  | a :: l, t, i, h => by
    rw [idxOf_cons]
    by_cases e : a = t
    · rw [if_pos e]; exact ⟨i, rfl, Nat.le_refl _⟩
    · rw [if_neg e]
      obtain ⟨j, h1, h2⟩ := ka (i := i + 1) ((List.mem_cons.1 h).resolve_left fun q => e q.symm)
      exact ⟨j, h1, by omega⟩
theorem dB {l : List Nat} {t i : Nat} : (∃ j, idxOf t l i = .f j) ∨ idxOf t l i = .no := by
  by_cases h : t ∈ l
  · obtain ⟨j, h, _⟩ := ka (i := i) h; exact .inl ⟨j, h⟩
  · exact .inr (lY h)
theorem lX : ∀ {l : List Nat} {t i j : Nat}, idxOf t l i = .f j → i ≤ j
  | [], _, _, _, h => by cases h
  | a :: l, t, i, j, h => by
    rw [idxOf_cons] at h
    split at h
    · cases h; exact Nat.le_refl _
    · have := lX h; omega
theorem dI : ∀ {l : List Nat} {t u i j : Nat}, idxOf t l i = .f j → idxOf u l i = .f j → t = u
  | [], _, _, _, _, h, _ => by cases h
  | a :: l, t, u, i, j, h1, h2 => by
    rw [idxOf_cons] at h1 h2
    split at h1
    · rename_i e1
      split at h2
      · rename_i e2; exact e1.symm.trans e2
      · cases h1; have := lX h2; omega
    · split at h2
      · cases h2; have := lX h1; omega
      · exact dI h1 h2
theorem kb {t j : Nat} (h : idxOf t C.vars 0 = .f j) : isVar C t = true := by
  rw [rI]
  exact Classical.byContradiction fun hn => by rw [lY hn] at h; cases h
theorem fu (d : Nat) (a : Nat × Src) (l : List (Nat × Src)) : dropKey d (a :: l) = if a.1 = d then dropKey d l else a :: dropKey d l := by
  show (Bool.rec (motive := fun _ => List (Nat × Src)) (a :: dropKey d l) (dropKey d l) (Nat.beq a.1 d) : List (Nat × Src)) = _
  rw [aZ]; simp only [an]
theorem dc {d : Nat} : ∀ {l : List (Nat × Src)} {e : Nat × Src}, e ∈ dropKey d l → e ∈ l ∧ e.1 ≠ d
  | [], _, h => by cases h
  | a :: l, e, h => by
    rw [fu] at h
    split at h
    · obtain ⟨h1, h2⟩ := dc h; exact ⟨List.mem_cons_of_mem _ h1, h2⟩
    · rcases List.mem_cons.1 h with rfl | h
      · exact ⟨List.mem_cons_self .., by assumption⟩
      · obtain ⟨h1, h2⟩ := dc h; exact ⟨List.mem_cons_of_mem _ h1, h2⟩
theorem dv (d : Nat) : ∀ (l : List (Nat × Src)), (dropKey d l).Sublist l
  | [] => List.Sublist.slnil
  | a :: l => by
    rw [fu]
    split
    · exact (dv d l).cons _
    · exact (dv d l).cons_cons _
theorem fw {d t : Nat} (h : t ≠ d) (z : Src) : ∀ (l : List (Nat × Src)), ew (dropKey d l) z t = ew l z t
  | [] => rfl
  | a :: l => by
    rw [fu, dV]
    by_cases e : a.1 = d
    · rw [if_pos e, if_neg (fun q => h (q.symm.trans e)), fw h z l]
    · rw [if_neg e, dV, fw h z l]
theorem bN.push {g : G} (h : bN C g) {d : Nat} {s : Src} {m : Nat} (hd : isVar C d = false) (hs : ∀ l, s = .s l → l < m) (hm : g.d ≤ m) : bN C ⟨m, (d, s) :: dropKey d g.m⟩ where
  nv := fun e he => by
    rcases List.mem_cons.1 he with rfl | he
    · exact hd
    · exact h.nv e (dc he).1
  st := fun e he l hl => by
    rcases List.mem_cons.1 he with rfl | he
    · exact hs l hl
    · exact Nat.lt_of_lt_of_le (h.st e (dc he).1 l hl) hm
  nd := by
    show (d :: (dropKey d g.m).map (·.1)).Nodup
    rw [List.nodup_cons]
    refine ⟨fun hm => ?_, h.nd.sublist ((dv d g.m).map _)⟩
    obtain ⟨e, he, rfl⟩ := List.mem_map.1 hm
    exact (dc he).2 rfl
theorem hZ {g : G} {d : Nat} {s : Src} {m : Nat} (t : Nat) : look C ⟨m, (d, s) :: dropKey d g.m⟩ t = if t = d then s else look C g t := by
  rw [look_eq, look_eq, dV]
  by_cases e : t = d
  · rw [if_pos e, if_pos e.symm]
  · rw [if_neg e, if_neg (Ne.symm e), fw e]
theorem dJ {z : Src} {t : Nat} : ∀ {l : List (Nat × Src)}, (∃ e ∈ l, e.1 = t ∧ ew l z t = e.2) ∨ ((∀ e ∈ l, e.1 ≠ t) ∧ ew l z t = z)
  | [] => .inr ⟨fun _ h => (by cases h), rfl⟩
  | a :: l => by
    rw [dV]
    by_cases e : a.1 = t
    · rw [if_pos e]; exact .inl ⟨a, List.mem_cons_self .., e, rfl⟩
    · rw [if_neg e]
      rcases dJ (z := z) (t := t) (l := l) with ⟨x, h1, h2⟩ | ⟨h1, h2⟩
      · exact .inl ⟨x, List.mem_cons_of_mem _ h1, h2⟩
      · exact .inr ⟨fun x hx => (List.mem_cons.1 hx).elim (fun q => q ▸ e) (h1 x), h2⟩
theorem wQ {g : G} (h : bN C g) {t l : Nat} (hl : look C g t = .s l) : l < g.d := by
  rw [look_eq] at hl
  rcases dJ (z := idxOf t C.vars 0) (t := t) (l := g.m) with ⟨e, h1, _, h3⟩ | ⟨_, h2⟩
  · rw [h3] at hl; exact h.st e h1 l hl
  · rw [h2] at hl
    rcases dB (l := C.vars) (t := t) (i := 0) with ⟨j, hj⟩ | hj <;> rw [hj] at hl <;> cases hl
open Classical in
theorem mH (d i : Nat) (a : Nat × Src) (l : List (Nat × Src)) : bG d i (a :: l) = if a.1 = d ∨ a.2 = .f i ∨ a.2 = .no then bG d i l else a :: bG d i l := by
  show (Bool.rec (motive := fun _ => List (Nat × Src)) (Src.rec (motive := fun _ => List (Nat × Src)) (fun _ => a :: bG d i l) (fun _ => a :: bG d i l) (fun j => Bool.rec (motive := fun _ => List (Nat × Src)) (a :: bG d i l) (bG d i l) (Nat.beq j i)) (bG d i l) a.2) (bG d i l) (Nat.beq a.1 d) : List (Nat × Src)) = _
  rw [aZ]
  simp only [an]
  by_cases e : a.1 = d
  · rw [if_pos e, if_pos (.inl e)]
  · rw [if_neg e]
    obtain ⟨x, s⟩ := a
    cases s with
    | c v => simp [e]
    | s l => simp [e]
    | f j =>
      show (Bool.rec (motive := fun _ => List (Nat × Src)) _ _ (Nat.beq j i) : List (Nat × Src)) = _
      rw [aZ]
      simp only [an]
      by_cases e2 : j = i
      · rw [if_pos e2]; simp [e2]
      · rw [if_neg e2]; simp [e, e2]
    | no => simp [e]
theorem fb {d i : Nat} : ∀ {l : List (Nat × Src)} {e : Nat × Src}, e ∈ bG d i l → e ∈ l ∧ e.1 ≠ d ∧ e.2 ≠ .f i ∧ e.2 ≠ .no
  | [], _, h => by cases h
  | a :: l, e, h => by
    rw [mH] at h
    split at h
    · obtain ⟨h1, h2⟩ := fb h; exact ⟨List.mem_cons_of_mem _ h1, h2⟩
    · rename_i hn
      rcases List.mem_cons.1 h with rfl | h
      · exact ⟨List.mem_cons_self .., fun q => hn (.inl q), fun q => hn (.inr (.inl q)), fun q => hn (.inr (.inr q))⟩
      · obtain ⟨h1, h2⟩ := fb h; exact ⟨List.mem_cons_of_mem _ h1, h2⟩
theorem eN (d i : Nat) : ∀ (l : List (Nat × Src)), (bG d i l).Sublist l
  | [] => List.Sublist.slnil
  | a :: l => by
    rw [mH]
    split
    · exact (eN d i l).cons _
    · exact (eN d i l).cons_cons _
theorem bN.bG {g : G} (h : bN C g) (d i : Nat) : bN C ⟨g.d, Go.Proofs.YtdlohaedegmiaaaGreatDoor.Ev.bG d i g.m⟩ where
  nv := fun e he => h.nv e (fb he).1
  st := fun e he l hl => h.st e (fb he).1 l hl
  nd := h.nd.sublist ((eN d i g.m).map _)
theorem zf {l : List (Nat × Src)} {z : Src} {t : Nat} (hn : (l.map (·.1)).Nodup) {e : Nat × Src} (he : e ∈ l) (ht : e.1 = t) : ew l z t = e.2 := by
  induction l with
  | nil => cases he
  | cons a l ih =>
    rw [List.map_cons, List.nodup_cons] at hn
    rw [dV]
    rcases List.mem_cons.1 he with rfl | he
    · rw [if_pos ht]
    · rw [if_neg fun q => hn.1 (by rw [q, ← ht]; exact List.mem_map.2 ⟨e, he, rfl⟩)]
      exact ih hn.2 he
theorem mn {g : G} (h : bN C g) {d i : Nat} (hd : idxOf d C.vars 0 = .f i) (t : Nat) : (t = d → look C ⟨g.d, Go.Proofs.YtdlohaedegmiaaaGreatDoor.Ev.bG d i g.m⟩ t = .f i) ∧ (t ≠ d → look C ⟨g.d, Go.Proofs.YtdlohaedegmiaaaGreatDoor.Ev.bG d i g.m⟩ t = .no ∨ (look C ⟨g.d, Go.Proofs.YtdlohaedegmiaaaGreatDoor.Ev.bG d i g.m⟩ t = look C g t ∧ look C g t ≠ .f i)) := by
  rw [look_eq, look_eq]
  show (t = d → ew (Go.Proofs.YtdlohaedegmiaaaGreatDoor.Ev.bG d i g.m) (idxOf t C.vars 0) t = .f i) ∧ (t ≠ d → ew (Go.Proofs.YtdlohaedegmiaaaGreatDoor.Ev.bG d i g.m) (idxOf t C.vars 0) t = .no ∨ (ew (Go.Proofs.YtdlohaedegmiaaaGreatDoor.Ev.bG d i g.m) (idxOf t C.vars 0) t = ew g.m (idxOf t C.vars 0) t ∧ ew g.m (idxOf t C.vars 0) t ≠ .f i))
  rcases dJ (z := idxOf t C.vars 0) (t := t) (l := Go.Proofs.YtdlohaedegmiaaaGreatDoor.Ev.bG d i g.m) with ⟨e, h1, h2, h3⟩ | ⟨h1, h2⟩
  · obtain ⟨q1, q2, q3, q4⟩ := fb h1
    refine ⟨fun e' => absurd (h2.trans e') q2, fun _ => .inr ?_⟩
    rw [h3, zf h.nd q1 h2]
    exact ⟨rfl, q3⟩
  · refine ⟨fun e => by rw [h2, e]; exact hd, fun e => ?_⟩
    rw [h2]
    rcases dB (l := C.vars) (t := t) (i := 0) with ⟨j, hj⟩ | hj
    · right
      have hnone : ∀ e ∈ g.m, e.1 ≠ t := fun e he q => by
        have := h.nv e he
        rw [q, kb hj] at this; cases this
      rcases dJ (z := idxOf t C.vars 0) (t := t) (l := g.m) with ⟨x, p1, p2, _⟩ | ⟨_, p2⟩
      · exact absurd p2 (hnone x p1)
      · rw [p2]
        refine ⟨rfl, fun q => e ?_⟩
        exact dI q hd
    · exact .inl hj
def fk (σ σ' : Nat → AV) (dst : Option Nat) (v : AV) : Prop := ∀ t, (dst = some t → σ' t = v) ∧ (dst ≠ some t → σ' t = σ t ∨ σ' t = .uu)
theorem jf {R : ab} (hR : R ≠ .fail) {g : G} (hg : bN C g) {dt : Option Nat} {k : G → Sm} {sk : Row} {fr : Fr} {hp : Hp} {v : AV} (h : (dst C g dt).p.f (k (dst C g dt).g) sk fr hp v = R) :
    ∃ g' sk' fr', (k g').run sk' fr' hp = R ∧ bN C g' ∧ fk (sig C g sk fr) (sig C g' sk' fr') dt v ∧ ∀ t, dt = some t → t < C.nt := by
  cases dt with
  | none => exact ⟨g, sk, fr, h, hg, fun t => ⟨fun e => (by cases e), fun _ => .inl rfl⟩, fun t e => (by cases e)⟩
  | some d =>
    have e0 : dst C g (some d) = Bool.rec (motive := fun _ => PG) ⟨a2c, g⟩ (dst.dstOf C g d) (Nat.ble (Nat.succ d) C.nt) := rfl
    rw [e0] at h
    cases hb : Nat.ble (Nat.succ d) C.nt with
    | false => rw [hb] at h; exact aa hR h
    | true =>
      rw [hb] at h
      rw [aK] at hb
      have h' : (dst.dstOf C g d).p.f (k (dst.dstOf C g d).g) sk fr hp v = R := h
      unfold dst.dstOf at h'
      cases hi : idxOf d C.vars 0 with
      | f i =>
        rw [hi] at h'
        obtain ⟨fr', hf, h2⟩ := ji hR i (k := fun fr => (k ⟨g.d, bG d i g.m⟩).run sk fr hp) h'
        refine ⟨_, sk, fr', h2, hg.bG d i, fun t => ⟨fun e => ?_, fun e => ?_⟩, fun t e => by cases e; exact hb⟩
        · cases e
          show sv g.d (look C ⟨g.d, bG d i g.m⟩ d) sk fr' = v
          rw [(mn hg hi d).1 rfl]
          show fr'.at i = v
          rw [hf, if_pos rfl]
        · show sv g.d (look C ⟨g.d, bG d i g.m⟩ t) sk fr' = sv g.d (look C g t) sk fr ∨ sv g.d (look C ⟨g.d, bG d i g.m⟩ t) sk fr' = .uu
          rcases (mn hg hi t).2 (fun q => e (by rw [q])) with q | ⟨q1, q2⟩
          · rw [q]; exact .inr rfl
          · rw [q1]
            left
            cases hl : look C g t with
            | f j =>
              show fr'.at j = fr.at j
              rw [hf, if_neg]
              intro ej; rw [ej] at hl; exact q2 hl
            | _ => rfl
      | _ =>
        rw [hi] at h'
        have hnv : isVar C d = false := by
          cases hv : isVar C d with
          | false => rfl
          | true =>
            obtain ⟨j, hj, _⟩ := ka (i := 0) ((rI (C := C) d).1 hv)
            rw [hj] at hi; cases hi
        refine ⟨⟨Nat.succ g.d, (d, .s g.d) :: dropKey d g.m⟩, .nd v .lf sk, fr, h', hg.push hnv (fun l e => by cases e; exact Nat.lt_succ_self _) (Nat.le_succ _), fun t => ⟨fun e => ?_, fun e => .inl ?_⟩, fun t e => by cases e; exact hb⟩
        · cases e
          show sv (Nat.succ g.d) (look C ⟨Nat.succ g.d, (d, .s g.d) :: dropKey d g.m⟩ d) (.nd v .lf sk) fr = v
          rw [hZ, if_pos rfl]
          show nth (.nd v .lf sk) (Nat.sub (Nat.sub (Nat.succ g.d) 1) g.d) = v
          have : Nat.sub (Nat.sub (Nat.succ g.d) 1) g.d = 0 := by show g.d + 1 - 1 - g.d = 0; omega
          rw [this]; rfl
        · show sv (Nat.succ g.d) (look C ⟨Nat.succ g.d, (d, .s g.d) :: dropKey d g.m⟩ t) (.nd v .lf sk) fr = sv g.d (look C g t) sk fr
          rw [hZ, if_neg (fun q => e (by rw [q]))]
          cases hl : look C g t with
          | s l =>
            have hlt := wQ hg hl
            show nth (.nd v .lf sk) (Nat.sub (Nat.sub (Nat.succ g.d) 1) l) = nth sk (Nat.sub (Nat.sub g.d 1) l)
            have : Nat.sub (Nat.sub (Nat.succ g.d) 1) l = Nat.sub (Nat.sub g.d 1) l + 1 := by show g.d + 1 - 1 - l = g.d - 1 - l + 1; omega
            rw [this]; rfl
          | _ => rfl
theorem nz {g : G} (hg : bN C g) {o : Oper} {rest : List Oper} {a : Nat × Src} (h : alias C g o rest = some a) (sk : Row) (fr : Fr) :
    ∃ x, (o.op = .move x ∨ o.op = .assign x) ∧ o.guard = none ∧ o.dst = some a.1 ∧ bN C ⟨g.d, a :: dropKey a.1 g.m⟩ ∧ fk (sig C g sk fr) (sig C ⟨g.d, a :: dropKey a.1 g.m⟩ sk fr) o.dst (ov C g sk fr x) := by
  have fin : ∀ (d : Nat) (x : Operand) (b : Nat × Src), isVar C d = false → (if isVar C d then none else
    (match src C g x with
     | .c v => some (d, .c v)
     | .s l => some (d, .s l)
     | .f i => (match x with | .tmp t => if writes t rest then none else some (d, .f i) | _ => none)
     | .no => none)) = some b → b.1 = d ∧ b.2 = src C g x := by
    intro d x b hv h
    rw [hv] at h
    simp only [Bool.false_eq_true, if_false] at h
    cases hs : src C g x with
    | c v => rw [hs] at h; cases h; exact ⟨rfl, rfl⟩
    | s l => rw [hs] at h; cases h; exact ⟨rfl, rfl⟩
    | f i =>
      rw [hs] at h
      cases x with
      | tmp t =>
        simp only at h
        split at h
        · cases h
        · cases h; exact ⟨rfl, rfl⟩
      | _ => cases h
    | no => rw [hs] at h; cases h
  have fin2 : ∀ (d : Nat) (x : Operand), (o.op = .move x ∨ o.op = .assign x) → o.guard = none → o.dst = some d → (if isVar C d then none else
    (match src C g x with
     | .c v => some (d, .c v)
     | .s l => some (d, .s l)
     | .f i => (match x with | .tmp t => if writes t rest then none else some (d, .f i) | _ => none)
     | .no => none)) = some a → ∃ x, (o.op = .move x ∨ o.op = .assign x) ∧ o.guard = none ∧ o.dst = some a.1 ∧ bN C ⟨g.d, a :: dropKey a.1 g.m⟩ ∧ fk (sig C g sk fr) (sig C ⟨g.d, a :: dropKey a.1 g.m⟩ sk fr) o.dst (ov C g sk fr x) := by
    intro d x hop hgd hdst h
    have hv : isVar C d = false := by
      cases hv : isVar C d with
      | false => rfl
      | true => rw [hv] at h; simp at h
    obtain ⟨q1, q2⟩ := fin d x a hv h
    obtain ⟨a1, a2⟩ := a
    simp only at q1 q2
    subst q1; subst q2
    refine ⟨x, hop, hgd, hdst, hg.push hv (fun l e => ?_) (Nat.le_refl _), fun t => ⟨fun e => ?_, fun e => .inl ?_⟩⟩
    · cases x with
      | tmp t => exact wQ hg e
      | const v => cases e
      | func f => cases e
      | global n =>
        exfalso
        have e' : (List.rec (motive := fun _ => Src) .no (fun a _ ih => Bool.rec (motive := fun _ => Src) ih (.c a.2) (Nat.beq a.1 n)) C.gl : Src) = .s l := e
        revert e'
        generalize C.gl = gl
        intro e'
        induction gl with
        | nil => cases e'
        | cons y r ih =>
          have e2 : (Bool.rec (motive := fun _ => Src) (List.rec (motive := fun _ => Src) .no (fun a _ ih => Bool.rec (motive := fun _ => Src) ih (.c a.2) (Nat.beq a.1 n)) r) (.c y.2) (Nat.beq y.1 n) : Src) = .s l := e'
          rw [aZ] at e2
          split at e2
          · cases e2
          · exact ih e2
    · rw [hdst] at e; cases e
      show sv g.d (look C ⟨g.d, (a1, src C g x) :: dropKey a1 g.m⟩ a1) sk fr = ov C g sk fr x
      rw [hZ, if_pos rfl]; rfl
    · show sv g.d (look C ⟨g.d, (a1, src C g x) :: dropKey a1 g.m⟩ t) sk fr = sv g.d (look C g t) sk fr
      rw [hZ, if_neg (fun q => e (by rw [hdst, q]))]
  unfold alias at h
  split at h
  · rename_i d x hgd hdst hop
    exact fin2 d x (.inl hop) hgd hdst h
  · rename_i d x hgd hdst hop
    exact fin2 d x (.inr hop) hgd hdst h
  · cases h
end
structure ek where
  n : Nat
  D : List Deferred
  free : ∀ d ∈ D, ∀ r, d.target ≠ .collected r
def ek.of (n : Nat) : ek := ⟨n, [], fun _ h => (by cases h)⟩
def ek.at (s : ek) (n : Nat) : ek := ⟨n, s.D, s.free⟩
def dr (s0 : ek) (h : Hp) (μ : Mu) (F : Nat → Prop) (w : World) : List Deferred → Prop
  | [] => True
  | d :: ds => (∃ r, d.target = .collected r ∧ s0.n ≤ r ∧ r < w.heap.size ∧ w.heap[r]? = some (.deferred (some [])) ∧ ¬ WB h μ r ∧ ¬ F r ∧ ∀ d' ∈ ds, d'.target ≠ .collected r) ∧ dr s0 h μ F w ds
theorem dr.ext {s0 : ek} {h h' : Hp} {μ μ' : Mu} {F F' : Nat → Prop} {w w' : World} (e : Ext μ F h w μ' F' h' w') : ∀ {ds : List Deferred}, dr s0 h μ F w ds → dr s0 h' μ' F' w' ds
  | [], _ => trivial
  | d :: ds, ⟨⟨r, h1, h2, h3, h4, h5, h6, h7⟩, hr⟩ => by
    refine ⟨⟨r, h1, h2, Nat.lt_of_lt_of_le h3 e.size, (e.keep r h3 fun ho => h5 ho.wb).trans h4, fun hw => ?_, fun hF => ?_, h7⟩, hr.ext e⟩
    · rcases e.wb r hw with h | h
      · omega
      · exact h5 h
    · rcases e.iq r hF with h | h | h
      · exact h6 h
      · omega
      · exact h5 h
def Marks (s0 : ek) (h : Hp) (μ : Mu) (F : Nat → Prop) (w : World) (ds : List Deferred) : Prop := ∃ ms, ds = ms ++ s0.D ∧ dr s0 h μ F w ms
theorem Marks.ext {s0 : ek} {h h' : Hp} {μ μ' : Mu} {F F' : Nat → Prop} {w w' : World} (e : Ext μ F h w μ' F' h' w') {ds : List Deferred} : Marks s0 h μ F w ds → Marks s0 h' μ' F' w' ds := fun ⟨ms, e1, e2⟩ => ⟨ms, e1, e2.ext e⟩
structure St (C : Cx) (V : Env) (s0 : ek) (g : G) (sk : Row) (fr : Fr) (hp : Hp) (μ : Mu) (F : Nat → Prop) (a : Act) (w : World) : Prop where
  gi : bN C g
  sl : ∀ t, ae w F μ (sig C g sk fr t) (a.tmps.getD t undef)
  h : au V μ F hp w
  nt : C.nt ≤ a.tmps.size
  df : Marks s0 hp μ F w a.defers
def Hp.lr (h : Hp) (r : Nat) : Hp := ⟨h.t, h.nx, h.pr, r⟩
structure bR (μ : Mu) (F : Nat → Prop) (h : Hp) (w : World) (μ' : Mu) (F' : Nat → Prop) (h' : Hp) (w' : World) : Prop where
  ext : Ext μ F h w μ' F' (h'.lr h.rb) w'
  ids : ∀ b, μ' b ≠ none → μ b ≠ none ∨ h.nx ≤ b
theorem Ext.lr {μ μ' : Mu} {F F' : Nat → Prop} {h h' : Hp} {w w' : World} {r' : Nat} (e : Ext μ F h w μ' F' (h'.lr r') w') (q : Nat) : Ext μ F (h.lr q) w μ' F' (h'.lr q) w' :=
  ⟨e.mu, e.fr, e.size, e.keep, e.own, e.wb, e.iq, e.eW, e.nx, e.pr, rfl, e.io⟩
theorem bR.refl (μ : Mu) (F : Nat → Prop) (h : Hp) (w : World) : bR μ F h w μ F h w := ⟨Ext.refl μ F h w, fun _ h => .inl h⟩
theorem bR.trans {μ μ₁ μ₂ : Mu} {F F₁ F₂ : Nat → Prop} {h h₁ h₂ : Hp} {w w₁ w₂ : World} (a : bR μ F h w μ₁ F₁ h₁ w₁) (b : bR μ₁ F₁ h₁ w₁ μ₂ F₂ h₂ w₂) : bR μ F h w μ₂ F₂ h₂ w₂ :=
  ⟨a.ext.trans (b.ext.lr (r' := h₁.rb) h.rb), fun x hx => (b.ids x hx).elim (a.ids x) fun h => .inr (Nat.le_trans a.ext.nx h)⟩
theorem bR.of {μ μ' : Mu} {F F' : Nat → Prop} {h h' : Hp} {w w' : World} (e : Ext μ F h w μ' F' h' w') (i : ∀ b, μ' b ≠ none → μ b ≠ none ∨ h.nx ≤ b) : bR μ F h w μ' F' h' w' :=
  ⟨⟨e.mu, e.fr, e.size, e.keep, e.own, e.wb, e.iq, e.eW, e.nx, e.pr, rfl, e.io⟩, i⟩
theorem au.lr {V : Env} {μ : Mu} {F : Nat → Prop} {h : Hp} {w : World} (H : au V μ F h w) (r : Nat) : au V μ F (h.lr r) w := ⟨H.aF, H.dw, H.et, H.fN, H.jk⟩
theorem dr.lr {s0 : ek} {h : Hp} {μ : Mu} {F : Nat → Prop} {w : World} {r : Nat} : ∀ {ds : List Deferred}, dr s0 (h.lr r) μ F w ds → dr s0 h μ F w ds
  | [], _ => trivial
  | _ :: _, ⟨h1, h2⟩ => ⟨h1, h2.lr⟩
theorem Marks.lr {s0 : ek} {h : Hp} {μ : Mu} {F : Nat → Prop} {w : World} {r : Nat} {ds : List Deferred} : Marks s0 (h.lr r) μ F w ds → Marks s0 h μ F w ds := fun ⟨ms, e1, e2⟩ => ⟨ms, e1, e2.lr⟩
theorem ae.extC {V : Env} {μ μ' : Mu} {F F' : Nat → Prop} {h h' : Hp} {w w' : World} (H : au V μ F h w) (e : bR μ F h w μ' F' h' w') {a : AV} {v : Value} (hc : ae w F μ a v) : ae w' F' μ' a v := hc.ext H e.ext
def j8 (O : Operand → AV) (ops : Array Oper) (o : Oper) (b : Bool) : Prop := ∀ {w : World} {F : Nat → Prop} {μ : Mu} {a : Act}, (∀ j want t, o.guard = some (j, want) → (ops[j]?).bind (·.dst) = some t → ae w F μ (O (.tmp t)) (a.tmps.getD t undef)) → Region.wanted o (yielded ops a.tmps) = b
inductive cK (V : Env) (ops : Array Oper) (O : Operand → AV) (o : Oper) (id : Nat) (hp : Hp) (v : AV) (hp' : Hp) : Nat → Prop
  | run {kd : Nat} (hw : j8 O ops o true) (hd : ∀ c, o.op ≠ .defer c) (k : ep V O o id hp v hp' kd) : cK V ops O o id hp v hp' kd
  | skip (hw : j8 O ops o false) (hv : v = bp) (hh : hp' = hp) : cK V ops O o id hp v hp' 0
theorem cK.wp {V : Env} {ops : Array Oper} {O : Operand → AV} {o : Oper} {id : Nat} {hp : Hp} {v : AV} {hp' : Hp} {kd : Nat} (s : cK V ops O o id hp v hp' kd) {i : Nat} (hi : ops[i]? = some o) {w : World} {F : Nat → Prop} {μ : Mu} {a : Act} {r : Option Nat} {n : Nat} {Q : Exit → Act → World → Prop} {K : Act → World → Prop}
    (hO : iC w F μ O o.op.operands.toList a.eval) (hG : ∀ j want t, o.guard = some (j, want) → (ops[j]?).bind (·.dst) = some t → ae w F μ (O (.tmp t)) (a.tmps.getD t undef)) (hid : μ id = none) (H : au V μ F hp w)
    (hK : ∀ x w' μ' F', ae w' F' μ' v x → dO id hp μ μ' → au V μ' F' hp' w' → Ext μ F hp w μ' F' hp' w' → K (a.put o.dst x) w') : wpOpIn (Wf r) n V.P ops Q i K a w := by
  unfold wpOpIn
  rw [hi]
  cases s with
  | run hw hd k =>
    simp only [hw hG, if_true]
    exact k.wp hd hO hid H hK
  | skip hw hv hh =>
    subst hv; subst hh
    simp only [hw hG, Bool.false_eq_true, if_false]
    exact ⟨fun _ _ => trivial, hK undef w μ F im (dO.refl _ _ _) H (Ext.refl _ _ _ _)⟩
theorem yE {t : Array Value} {i : Nat} {b : Bool} (h : t.getD i undef = .bool b) : t[i]? = some (.bool b) := by
  rw [Array.getD_eq_getD_getElem?] at h
  cases hx : t[i]? with
  | none => rw [hx] at h; cases h
  | some v => rw [hx] at h; exact congrArg some h
section
variable {C : Cx} {R : ab} (hR : R ≠ .fail) {ops : Array Oper}
include hR
theorem kJ {g : G} {P : Pt} {k s : Sm} {sk : Row} {fr : Fr} {hp : Hp} {o : Oper} {j : Nat} {want : Bool} (hg : o.guard = some (j, want)) (h : (guarded C g P k s ((ops[j]?).bind (·.dst)) want).run sk fr hp = R) :
    (j8 (ov C g sk fr) ops o true ∧ s.run sk fr hp = R) ∨ (j8 (ov C g sk fr) ops o false ∧ P.f k sk fr hp bp = R) := by
  cases ht : (ops[j]?).bind (·.dst) with
  | none => rw [ht] at h; exact aa hR h
  | some t =>
    rw [ht] at h
    obtain ⟨h1, _, _⟩ := jq hR (k := fun v => v.on (fun _ _ => .fail) (fun b => when (u6 b want) (P.f k sk fr hp bp) (s.run sk fr hp)) (fun _ _ => .fail) (fun _ _ => .fail) (fun _ _ _ _ => .fail) (fun _ _ _ _ => .fail) (fun _ _ => .fail) (fun _ _ => P.f k sk fr hp bp) (fun _ _ _ _ _ => .fail)) h
    have hslot : ov C g sk fr (.tmp t) = sv g.d (look C g t) sk fr := rfl
    have wants : ∀ {b : Bool}, (∀ {w : World} {F : Nat → Prop} {μ : Mu} {u : Value}, ae w F μ (sv g.d (look C g t) sk fr) u → (∃ y, u = .bool y ∧ (y == want) = b) ∨ ((∀ y, u ≠ .bool y) ∧ b = false)) → j8 (ov C g sk fr) ops o b := by
      intro b hb w F μ a hG
      have hc := hG j want t hg ht
      rw [hslot] at hc
      unfold Region.wanted
      rw [hg]
      simp only
      unfold yielded
      rw [ht]
      simp only [Option.bind_some]
      rcases hb hc with ⟨y, hy, e⟩ | ⟨hy, rfl⟩
      · rw [yE hy]
        simp only
        rw [← e]
        cases y <;> cases want <;> rfl
      · cases hx : a.tmps[t]? with
        | none => rfl
        | some x =>
          have hx2 : a.tmps.getD t undef = x := by rw [Array.getD_eq_getD_getElem?, hx]; rfl
          rw [hx2] at hy
          cases x <;> first | rfl | exact absurd rfl (hy _)
    revert h1 wants
    generalize sv g.d (look C g t) sk fr = v
    intro h1 wants
    cases v with
    | bool b =>
      rcases ar hR (show when (u6 b want) (P.f k sk fr hp bp) (s.run sk fr hp) = R from h1) with ⟨e, h2⟩ | ⟨e, h2⟩
      · refine .inr ⟨wants fun hc => .inl ⟨b, de hc, ?_⟩, h2⟩
        rw [lj] at e
        cases b <;> cases want <;> simp_all
      · refine .inl ⟨wants fun hc => .inl ⟨b, de hc, ?_⟩, h2⟩
        rw [lj] at e
        cases b <;> cases want <;> simp_all
    | bM l n => exact .inr ⟨wants fun hc => .inr ⟨fun y e => (by subst e; cases hc), rfl⟩, h1⟩
    | _ => exact aa hR h1
end
theorem fK {O : Operand → AV} {ops : Array Oper} {o : Oper} (h : o.guard = none) : j8 O ops o true := fun _ => by unfold Region.wanted; rw [h]
def fh (C : Cx) (V : Env) : Prop := ∀ {g : G} {P : Pt} {k : Sm} {R : ab} {sk : Row} {fr : Fr} {hp : Hp} {id : Nat} (o : Oper) (f : Operand) (aas : Array Operand) (ts : Array TypeId), R ≠ .fail → o.op = .call ⟨.value f, aas, ts⟩ → (zY C g P k f aas).run sk fr hp = R → Out C V g P k sk fr o id hp R
def lg (C : Cx) (V : Env) (ops : Array Oper) (g : G) (sk : Row) (fr : Fr) (o : Oper) (id : Nat) (hp : Hp) (k : G → Sm) (R : ab) : Prop :=
  ∃ g' sk' fr' v hp' kd, (k g').run sk' fr' hp' = R ∧ cK V ops (ov C g sk fr) o id hp v hp' kd ∧ a5r kd (cls C.P o.op) ∧ bN C g' ∧ fk (sig C g sk fr) (sig C g' sk' fr') o.dst v ∧ ∀ t, o.dst = some t → t < C.nt
section
variable {C : Cx} {vs : Vs} {R : ab} (ok : aT C.M) (hR : R ≠ .fail) {ops : Array Oper}
theorem tV (_ : R ≠ .fail) {g : G} (hg : bN C g) {o : Oper} {rest : List Oper} {a : Nat × Src} (ha : alias C g o rest = some a) (hnt : a.1 < C.nt) {sk : Row} {fr : Fr} {hp : Hp} {id : Nat} {k : G → Sm} (h : (k ⟨g.d, a :: dropKey a.1 g.m⟩).run sk fr hp = R) : lg C (C.env vs) ops g sk fr o id hp k R := by
  obtain ⟨x, hop, hgd, hdst, hgi, hsl⟩ := nz hg ha sk fr
  have hd : ∀ c, o.op ≠ .defer c := by rcases hop with e | e <;> rw [e] <;> simp
  refine ⟨_, sk, fr, _, hp, 0, h, .run (fK hgd) hd (.pure rfl fun {w F μ ρ} hO => ⟨.value (ρ x), _, ?_, .inl rfl, hO x (by rcases hop with e | e <;> rw [e] <;> simp [Op.operands])⟩), .inl rfl, hgi, hsl, fun t e => by rw [hdst] at e; cases e; exact hnt⟩
  rcases hop with e | e <;> simp only [execOp, e, Sem.run_pure]
include ok hR
theorem wU {g : G} (hg : bN C g) {N : NK} {id : Nat} {sk : Row} {fr : Fr} {hp : Hp} {o : Oper} {k : G → Sm} (hrun : j8 (ov C g sk fr) ops o true) (hout : ∀ {P : Pt} {k : Sm}, (er C g P N k o.op).run sk fr hp = R → Out C (C.env vs) g P k sk fr o id hp R)
    (h : (er C g (dst C g o.dst).p N (k (dst C g o.dst).g) o.op).run sk fr hp = R) : lg C (C.env vs) ops g sk fr o id hp k R := by
  have _ := ok
  obtain ⟨v, hp', kd, h1, h2, h3, h4⟩ := hout h
  obtain ⟨g', sk', fr', h5, h6, h7, h8⟩ := jf hR hg h1
  exact ⟨g', sk', fr', v, hp', kd, h5, .run hrun h4 h2, h3, h6, h7, h8⟩
theorem zA {g : G} (hg : bN C g) {id : Nat} {sk : Row} {fr : Fr} {hp : Hp} {o : Oper} {k : G → Sm} (hskip : j8 (ov C g sk fr) ops o false)
    (h : (dst C g o.dst).p.f (k (dst C g o.dst).g) sk fr hp bp = R) : lg C (C.env vs) ops g sk fr o id hp k R := by
  have _ := ok
  obtain ⟨g', sk', fr', h5, h6, h7, h8⟩ := jf hR hg h
  exact ⟨g', sk', fr', _, hp, 0, h5, .skip hskip rfl rfl, .inl rfl, h6, h7, h8⟩
theorem a0f (hc : fh C (C.env vs)) {g : G} (hg : bN C g) {N : NK} {id : Nat} {sk : Row} {fr : Fr} {hp : Hp} (hN : bO N hp id) {o : Oper} {rest : List Oper} {k : G → Sm} (h : (denG C ops g N o rest k).run sk fr hp = R) : lg C (C.env vs) ops g sk fr o id hp k R := by
  have hout : ∀ {P : Pt} {k : Sm}, (er C g P N k o.op).run sk fr hp = R → Out C (C.env vs) g P k sk fr o id hp R := fun h => jX ok hR hN o (fun f aas ts hop hh => hc o f aas ts hR hop hh) h
  unfold denG at h
  split at h
  · rename_i a ha
    obtain ⟨hb, h'⟩ := aQ hR h
    rw [aK] at hb
    exact tV hR hg ha hb h'
  · have e : (match dst C g o.dst with
      | ⟨P, g'⟩ => (match o.guard with
        | none => er C g P N (k g') o.op
        | some (j, want) => guarded C g P (k g') (er C g P N (k g') o.op) ((ops[j]?).bind (·.dst)) want) : Sm).run sk fr hp = R := h
    have e' : (match o.guard with
        | none => er C g (dst C g o.dst).p N (k (dst C g o.dst).g) o.op
        | some (j, want) => guarded C g (dst C g o.dst).p (k (dst C g o.dst).g) (er C g (dst C g o.dst).p N (k (dst C g o.dst).g) o.op) ((ops[j]?).bind (·.dst)) want : Sm).run sk fr hp = R := e
    split at e'
    · rename_i hgd
      exact wU ok hR hg (fK hgd) hout e'
    · rename_i j want hgd
      rcases kJ hR hgd e' with ⟨hw, h1⟩ | ⟨hw, h1⟩
      · exact wU ok hR hg hw hout h1
      · exact zA ok hR hg hw h1
omit ok hR in
def ly (C : Cx) (vs : Vs) : Prop := ∀ p ∈ C.gl, (∃ t a b c, p.2 = .x 1 t a b c) ∧ ∀ w F μ, (C.env vs).pL w F → ae w F μ p.2 (.pointer (some ⟨p.1, 0, none⟩))
omit ok hR in
theorem wV {C : Cx} {g : G} {sk : Row} {fr : Fr} (n : Nat) : ov C g sk fr (.global n) = .uu ∨ ∃ p ∈ C.gl, p.1 = n ∧ ov C g sk fr (.global n) = p.2 := by
  have key : ∀ l : List (Nat × AV), sv g.d (List.rec (motive := fun _ => Src) .no (fun a _ ih => Bool.rec (motive := fun _ => Src) ih (.c a.2) (Nat.beq a.1 n)) l) sk fr = .uu ∨ ∃ p ∈ l, p.1 = n ∧ sv g.d (List.rec (motive := fun _ => Src) .no (fun a _ ih => Bool.rec (motive := fun _ => Src) ih (.c a.2) (Nat.beq a.1 n)) l) sk fr = p.2 := by
    intro l
    induction l with
    | nil => exact .inl rfl
    | cons y r ih =>
      have e : sv g.d (List.rec (motive := fun _ => Src) .no (fun a _ ih => Bool.rec (motive := fun _ => Src) ih (.c a.2) (Nat.beq a.1 n)) (y :: r)) sk fr = sv g.d (Bool.rec (motive := fun _ => Src) (List.rec (motive := fun _ => Src) .no (fun a _ ih => Bool.rec (motive := fun _ => Src) ih (.c a.2) (Nat.beq a.1 n)) r) (.c y.2) (Nat.beq y.1 n)) sk fr := rfl
      rw [e, aZ]
      split
      · rename_i q
        exact .inr ⟨y, List.mem_cons_self .., by rw [an] at q; exact q, rfl⟩
      · exact ih.imp id fun ⟨p, h1, h2⟩ => ⟨p, List.mem_cons_of_mem _ h1, h2⟩
  exact key C.gl
omit ok hR in
theorem kj (hgl : ly C vs) {g : G} {sk : Row} {fr : Fr} {w : World} {F : Nat → Prop} {μ : Mu} {a : Act} (hG : (C.env vs).pL w F) (x : Operand) (h : ∀ t, x = .tmp t → ae w F μ (sig C g sk fr t) (a.tmps.getD t undef)) : ae w F μ (ov C g sk fr x) (a.eval x) := by
  cases x with
  | tmp t => exact h t rfl
  | const v => exact a25
  | func f => exact .fn (fun _ => undef) rfl rfl rfl (fun i hi => absurd hi (Nat.not_lt_zero _)) (fun i hi => absurd hi (Nat.not_lt_zero _)) fun i hi => absurd hi (Nat.not_lt_zero _)
  | global n =>
    rcases wV (C := C) (g := g) (sk := sk) (fr := fr) n with e | ⟨p, hp, rfl, e⟩
    · rw [e]; exact .uu _
    · rw [e]; exact (hgl p hp).2 w F μ hG
omit ok hR in
theorem bL (a : Act) (d : Option Tmp) (x : Value) : (a.put d x).tmps.size = a.tmps.size ∧ (a.put d x).defers = a.defers := by
  cases d <;> simp [Act.put]
omit ok hR in
theorem a4X {σ σ' : Nat → AV} {d : Option Nat} {v : AV} {x : Value} {a : Act} {m : Nat} {w w' : World} {F F' : Nat → Prop} {μ μ' : Mu} (hs : fk σ σ' d v) (hm : m ≤ a.tmps.size) (hd : ∀ t, d = some t → t < m) (hv : ae w' F' μ' v x)
    (hold : ∀ {b : AV} {u : Value}, ae w F μ b u → ae w' F' μ' b u) (h : ∀ t, ae w F μ (σ t) (a.tmps.getD t undef)) (t : Nat) : ae w' F' μ' (σ' t) ((a.put d x).tmps.getD t undef) := by
  by_cases e : d = some t
  · subst e
    rw [(hs t).1 rfl]
    have : (a.put (some t) x).tmps.getD t undef = x := by
      have hlt := hd t rfl
      simp only [Act.put, Array.getD_eq_getD_getElem?, Array.getElem?_setIfInBounds, if_true]
      rw [if_pos (by omega)]; rfl
    rw [this]; exact hv
  · have hsame : (a.put d x).tmps.getD t undef = a.tmps.getD t undef := by
      cases d with
      | none => rfl
      | some q =>
        have hne : q ≠ t := fun h => e (by rw [h])
        simp only [Act.put, Array.getD_eq_getD_getElem?, Array.getElem?_setIfInBounds, if_neg hne]
    rw [hsame]
    rcases (hs t).2 e with q | q
    · rw [q]; exact hold (h t)
    · rw [q]; exact .uu _
theorem jY (hc : fh C (C.env vs)) (hgl : ly C vs) {s0 : ek} {k : G → Sm} {Q : Exit → Act → World → Prop} {r : Option Nat} {n : Nat} : ∀ (l : List Oper) (i : Nat) {g : G} {sk : Row} {fr : Fr} {hp : Hp} {μ : Mu} {F : Nat → Prop} {a : Act} {w : World}, (∀ j o, l[j]? = some o → ops[i + j]? = some o) →
    (gu C ops l g k).run sk fr hp = R → St C (C.env vs) s0 g sk fr hp μ F a w →
    (∀ g' sk' fr' hp' μ' F' a' w', (k g').run sk' fr' hp' = R → St C (C.env vs) s0 g' sk' fr' hp' μ' F' a' w' → bR μ F hp w μ' F' hp' w' → a'.defers = a.defers → Q .normal a' w') → wpOpsIn (Wf r) n C.P ops Q (List.range' i l.length) a w
  | [], i, g, sk, fr, hp, μ, F, a, w, _, h, S, hQ => hQ g sk fr hp μ F a w h S (bR.refl _ _ _ _) rfl
  | o :: l, i, g, sk, fr, hp, μ, F, a, w, hl, h, S, hQ => by
    have h' : (denG C ops g (jr C.M) o l fun g => gu C ops l g k).run sk fr hp = R := h
    obtain ⟨g', sk', fr', v, hp', kd, h1, h2, _, h4, h5, h6⟩ := a0f (vs := vs) ok hR hc S.gi (lq ok) h'
    rw [List.length_cons, List.range'_succ, wpOpsIn_cons]
    refine h2.wp (hl 0 o rfl) (fun x hx => kj hgl S.h.jk x fun t _ => S.sl t) (fun j want t _ _ => S.sl t) (ic S.h) S.h fun x w' μ' F' hv hid hH hE => ?_
    have hEC : bR μ F hp w μ' F' hp' w' := .of hE fun b hb => (hid b hb).imp (fun h => h) fun h => h.elim (fun h => by omega) fun h => h
    have S' : St C (C.env vs) s0 g' sk' fr' hp' μ' F' (a.put o.dst x) w' :=
      ⟨h4, a4X h5 S.nt h6 hv (fun h => h.ext S.h hE) S.sl, hH, by rw [(bL a o.dst x).1]; exact S.nt, by rw [(bL a o.dst x).2]; exact S.df.ext hE⟩
    exact jY hc hgl l (i + 1) (fun j o' hj => by rw [show i + 1 + j = i + (j + 1) by omega]; exact hl (j + 1) o' hj) h1 S' fun g'' sk'' fr'' hp'' μ'' F'' a'' w'' q1 q2 q3 q4 => hQ _ _ _ _ _ _ _ _ q1 q2 (hEC.trans q3) (q4.trans (bL a o.dst x).2)
end
def aX.gone : aX → Prop
  | .dead => True
  | _ => False
theorem fx {B : aX} (h : B.gone) : ¬ B.wr := by cases B <;> first | exact h.elim | exact fun h => h
theorem k8 {B : aX} (h : B.gone) : ¬ Live B := by cases B <;> first | exact h.elim | exact fun h => h
theorem ze {B : aX} (h : Live B) : ¬ B.gone := by cases B <;> first | exact h.elim | exact fun h => h
def BEq (B B' : aX) : Prop := B = B' ∨ (B.gone ∧ B'.gone)
theorem BEq.refl (B : aX) : BEq B B := .inl rfl
theorem BEq.symm {B B' : aX} (h : BEq B B') : BEq B' B := h.imp Eq.symm And.symm
theorem BEq.trans {B B' B'' : aX} (h : BEq B B') (h' : BEq B' B'') : BEq B B'' := by
  rcases h with rfl | ⟨h1, h2⟩
  · exact h'
  · rcases h' with rfl | ⟨_, h4⟩
    · exact .inr ⟨h1, h2⟩
    · exact .inr ⟨h1, h4⟩
theorem BEq.gone {B B' : aX} (h : BEq B B') (hg : B.gone) : B'.gone := h.elim (fun e => e ▸ hg) And.right
theorem BEq.eq {B B' : aX} (h : BEq B B') (hl : ¬ B.gone) : B = B' := h.elim id fun h => absurd h.1 hl
theorem BEq.wr {B B' : aX} (h : BEq B B') (hw : B.wr) : B'.wr := h.elim (fun e => e ▸ hw) fun h => absurd hw (fx h.1)
section
variable {V : Env} {w : World} {F : Nat → Prop} {μ : Mu}
theorem dN.gone {b : Nat} {B : aX} (h : B.gone) : dN V w F μ b B := by cases B <;> first | exact trivial | exact h.elim
theorem dN.beq {b : Nat} {B B' : aX} (h : BEq B B') (hB : dN V w F μ b B) : dN V w F μ b B' := h.elim (fun e => e ▸ hB) fun h => .gone h.2
theorem dN.some {b : Nat} {B : aX} (hB : dN V w F μ b B) (hg : ¬ B.gone) : ∃ m, μ b = some m := by
  cases B with
  | dead => exact absurd trivial hg
  | fwd i => exact hB.elim
  | row => obtain ⟨m, _, _, _, h, _⟩ := hB; exact ⟨m, h⟩
  | map => obtain ⟨m, _, _, h, _⟩ := hB; exact ⟨m, h⟩
  | loop => obtain ⟨m, _, h, _⟩ := hB; exact ⟨m, h⟩
theorem au.congr {h h' : Hp} (H : au V μ F h w) (he : ∀ b, BEq (h.at b) (h'.at b)) (hn : h.nx ≤ h'.nx) : au V μ F h' w :=
  ⟨fun b => (H.aF b).beq (he b), fun b b' m m' h1 h2 => H.dw b b' m m' ((he b).symm.wr h1) ((he b').symm.wr h2), fun b m hm => let ⟨q1, q2⟩ := H.et b m hm; ⟨Nat.lt_of_lt_of_le q1 hn, q2⟩, H.fN, H.jk⟩
end
theorem a3q {α : Type} (d : α) : ∀ (i : Nat) (t : Tr α) (x : α), ∃ t', eo d t i x t' := by
  intro i
  induction i using Nat.strongRecOn with
  | _ i ih =>
    intro t x
    have nd : ∀ (v : α) (l r : Tr α), ∃ t', eo d (.nd v l r) i x t' := fun v l r => by
      cases i with
      | zero => exact ⟨.nd x l r, fun j => by cases j <;> simp [Tr.get]⟩
      | succ j =>
        rcases rY j with hj | hj
        · obtain ⟨l', hl⟩ := ih (j / 2) (by omega) l x
          exact ⟨_, gR hj hl⟩
        · obtain ⟨r', hr⟩ := ih (j / 2) (by omega) r x
          exact ⟨_, ff hj hr⟩
    cases t with
    | lf => obtain ⟨t', h⟩ := nd d .lf .lf; exact ⟨t', iW h⟩
    | nd v l r => exact nd v l r
theorem a0P (h : Hp) (f : Nat → aX) (nx : Nat) (pr : List Nat) (rb : Nat) : ∀ (l : List Nat), ∃ h' : Hp, h'.nx = nx ∧ h'.pr = pr ∧ h'.rb = rb ∧ ∀ b, (b ∈ l → h'.at b = f b) ∧ (b ∉ l → h'.at b = h.at b)
  | [] => ⟨⟨h.t, nx, pr, rb⟩, rfl, rfl, rfl, fun b => ⟨fun hb => absurd hb List.not_mem_nil, fun _ => rfl⟩⟩
  | c :: l => by
    obtain ⟨h1, q1, q2, q3, q4⟩ := a0P h f nx pr rb l
    obtain ⟨t', ht⟩ := a3q .dead c h1.t (f c)
    refine ⟨⟨t', nx, pr, rb⟩, rfl, rfl, rfl, fun b => ?_⟩
    have hb : (⟨t', nx, pr, rb⟩ : Hp).at b = if b = c then f c else h1.at b := ht b
    rw [hb]
    by_cases e : b = c
    · subst e; rw [if_pos rfl]; exact ⟨fun _ => rfl, fun h => absurd (List.mem_cons_self ..) h⟩
    · rw [if_neg e]
      exact ⟨fun h => (q4 b).1 ((List.mem_cons.1 h).resolve_left e), fun h => (q4 b).2 fun hm => h (List.mem_cons_of_mem _ hm)⟩
def Kept (B B' X : aX) : Prop := (∃ rw rw' fl fl' z z' s s' t t', B = .row rw fl z s t ∧ B' = .row rw' fl' z' s' t' ∧ X = .row rw' fl z s t) ∨ (∃ n n' t t', B = .map n t ∧ B' = .map n' t' ∧ X = .map n t)
theorem au.frame {V : Env} {μ μ' : Mu} {F F' : Nat → Prop} {h hA hB hS' : Hp} {w w' : World} (H : au V μ F h w) (HA : au V μ F hA w) (HB : au V μ' F' hB w') (E : Ext μ F hA w μ' F' hB w')
    (sub : ∀ b, ¬ (hA.at b).gone → hA.at b = h.at b) (hpr : ∀ b, b ∈ h.pr → b ∈ hA.pr) (hnx : h.nx ≤ hA.nx) (q1 : hS'.nx = hB.nx) (q2 : hS'.pr = h.pr) (q3 : hS'.rb = h.rb)
    (what : ∀ b, (hS'.at b).gone ∨ (hS'.at b = hB.at b ∧ (b ∈ hA.pr → b ∈ h.pr)) ∨ (hS'.at b = h.at b ∧ (hA.at b).gone) ∨ (b ∈ hA.pr ∧ Kept (hA.at b) (hB.at b) (hS'.at b))) :
    au V μ' F' hS' w' ∧ Ext μ F h w μ' F' hS' w' := by
  have subwr : ∀ b, (hA.at b).wr → hA.at b = h.at b := fun b hw => sub b fun hg => fx hg hw
  have ownA : ∀ B, Own hA μ B → Own h μ B := fun B ⟨b, m, h1, h2, h3, h4⟩ => ⟨b, m, subwr b h1 ▸ h1, fun hp => h2 (hpr b hp), h3, h4⟩
  have wbA : ∀ B, WB hA μ B → WB h μ B := fun B ⟨b, m, h1, h3, h4⟩ => ⟨b, m, subwr b h1 ▸ h1, h3, h4⟩
  have same := E.same HA
  have away : ∀ b m, (h.at b).wr → (hA.at b).gone → μ b = some m → ¬ WB hA μ m.aF := fun b m hw hg hm ⟨b2, m2, h1, h2, h3⟩ => by
    have hne : b2 ≠ b := fun e => by subst e; exact fx hg h1
    exact H.dw b2 b m2 m (subwr b2 h1 ▸ h1) hw hne h2 hm h3
  have keepRow : ∀ {b : Nat} {rw fl : Bool} {z s : Nat} {t : Row} {m : Mp} {c : Array Value} {T : TypeId} {fz : Nat × Nat}, (h.at b = .row rw fl z s t) → μ b = some m → w.heap[m.aF]? = some (.cells c T fz) → (rw = true → ¬ Own hA μ m.aF) → w'.heap[m.aF]? = some (.cells c T fz) := by
    intro b rw fl z s t m c T fz hb hm hc hno
    refine (E.keep m.aF (H.et b m hm).2 fun ho => ?_).trans hc
    have hbr := H.aF b
    rw [hb] at hbr
    obtain ⟨m', c', T', fz', p1, _, _, _, _, _, p7⟩ := hbr
    rw [hm] at p1; cases p1
    cases rw with
    | true => exact hno rfl ho
    | false => exact HA.vq ho.wb (p7 rfl)
  have aF : ∀ b, dN V w' F' μ' b (hS'.at b) := by
    intro b
    rcases what b with hg | ⟨e, _⟩ | ⟨e, hg⟩ | ⟨hbp, hk⟩
    · exact .gone hg
    · rw [e]; exact HB.aF b
    · rw [e]
      have hbr := H.aF b
      by_cases hw : (h.at b).wr
      · obtain ⟨m, hm⟩ := hbr.some fun hg' => fx hg' hw
        have hno : ¬ Own hA μ m.aF := fun ho => away b m hw hg hm ho.wb
        have hnF : ¬ F' m.aF := fun hF => by
          rcases E.iq _ hF with h1 | h1 | h1
          · exact H.vq ⟨b, m, hw, hm, rfl⟩ h1
          · have := (H.et b m hm).2; omega
          · exact away b m hw hg hm h1
        cases hX : h.at b with
        | dead => exact trivial
        | fwd i => rw [hX] at hbr; exact hbr.elim
        | row rw fl z s t =>
          rw [hX] at hbr hw
          obtain ⟨m', c, T, fz, p1, p2, p3, p4, p5, p6, p7⟩ := hbr
          rw [hm] at p1; cases p1
          have hrw : rw = true := hw
          exact ⟨m, c, T, fz, E.mu b m hm, keepRow hX hm p2 (fun _ => hno), p3, fun i hi => let ⟨u, u1, u2, u3⟩ := p4 i hi; ⟨u, u1, u2, u3.mono same E.fr E.mu⟩, p5, fun e => ⟨(p6 e).1, hnF⟩, fun e => by rw [hrw] at e; cases e⟩
        | map n t =>
          rw [hX] at hbr
          obtain ⟨m', es, clk, p1, p2, p3, p4, p5⟩ := hbr
          rw [hm] at p1; cases p1
          exact ⟨m, es, clk, E.mu b m hm, (E.keep m.aF (H.et b m hm).2 hno).trans p2, hnF, p4, fun i hi => let ⟨u, u1, u2, u3⟩ := p5 i hi; ⟨u, u1, u2.mono same E.fr E.mu, u3.mono same E.fr E.mu⟩⟩
        | loop st f i fr =>
          rw [hX] at hbr
          obtain ⟨m', L, p1, p2, p3, p4⟩ := hbr
          rw [hm] at p1; cases p1
          exact ⟨m, L, E.mu b m hm, (E.keep m.aF (H.et b m hm).2 hno).trans p2, hnF, p4.mono same E.fr E.mu⟩
      · cases hX : h.at b with
        | dead => exact trivial
        | fwd i => rw [hX] at hbr; exact hbr.elim
        | row rw fl z s t =>
          rw [hX] at hbr hw
          obtain ⟨m', c, T, fz, p1, p2, p3, p4, p5, p6, p7⟩ := hbr
          have hrw : rw = false := by cases rw with | false => rfl | true => exact absurd rfl hw
          exact ⟨m', c, T, fz, E.mu b m' p1, keepRow hX p1 p2 (fun e => by rw [hrw] at e; cases e), p3, fun i hi => let ⟨u, u1, u2, u3⟩ := p4 i hi; ⟨u, u1, u2, u3.mono same E.fr E.mu⟩, p5, fun e => (by rw [hrw] at e; cases e), fun e => E.fr _ (p7 e)⟩
        | map n t => rw [hX] at hw; exact absurd trivial hw
        | loop st f i fr => rw [hX] at hw; exact absurd trivial hw
    · -- a block that was kept
      have nown : ∀ m, μ b = some m → ((hA.at b).wr ∨ F m.aF) → ¬ Own hA μ m.aF := fun m hm hor ⟨b2, m2, h1, h2, h3, h4⟩ => by
        have hne : b2 ≠ b := fun e => h2 (e ▸ hbp)
        rcases hor with hw | hF
        · exact HA.dw b2 b m2 m h1 hw hne h3 hm h4
        · exact HA.vq ⟨b2, m2, h1, h3, h4⟩ hF
      have hbr := HA.aF b
      have hbB := HB.aF b
      rcases hk with ⟨rw, rw', fl, fl', z, z', s, s', t, t', e1, e2, e3⟩ | ⟨n, n', t, t', e1, e2, e3⟩
      · rw [e1] at hbr nown
        rw [e2] at hbB
        rw [e3]
        obtain ⟨m, c, T, fz, p1, p2, p3, p4, p5, p6, p7⟩ := hbr
        obtain ⟨m', c', T', fz', o1, o2, _, _, _, o6, o7⟩ := hbB
        have hm' := E.mu b m p1
        rw [hm'] at o1; cases o1
        have hkeep : w'.heap[m.aF]? = some (.cells c T fz) := (E.keep m.aF (HA.et b m p1).2 (nown m p1 (by cases rw with | true => exact .inl rfl | false => exact .inr (p7 rfl)))).trans p2
        rw [hkeep] at o2; cases o2
        exact ⟨m, c, T, fz, hm', hkeep, p3, fun i hi => let ⟨u, u1, u2, u3⟩ := p4 i hi; ⟨u, u1, u2, u3.mono same E.fr E.mu⟩, p5, o6, o7⟩
      · rw [e1] at hbr nown
        rw [e2] at hbB
        rw [e3]
        obtain ⟨m, es, clk, p1, p2, p3, p4, p5⟩ := hbr
        obtain ⟨m', _, _, o1, _, o3, _⟩ := hbB
        have hm' := E.mu b m p1
        rw [hm'] at o1; cases o1
        exact ⟨m, es, clk, hm', (E.keep m.aF (HA.et b m p1).2 (nown m p1 (.inl trivial))).trans p2, o3, p4, fun i hi => let ⟨u, u1, u2, u3⟩ := p5 i hi; ⟨u, u1, u2.mono same E.fr E.mu, u3.mono same E.fr E.mu⟩⟩
  have wr : ∀ b, (hS'.at b).wr → ((hB.at b).wr ∧ ¬ (hA.at b).gone ∧ b ∈ hA.pr ∧ (hA.at b).wr ∨ (hB.at b).wr ∧ (b ∈ hA.pr → b ∈ h.pr)) ∨ ((h.at b).wr ∧ (hA.at b).gone) := by
    intro b hw
    rcases what b with hg | ⟨e, hp⟩ | ⟨e, hg⟩ | ⟨hbp, hk⟩
    · exact absurd hw (fx hg)
    · rw [e] at hw; exact .inl (.inr ⟨hw, hp⟩)
    · rw [e] at hw; exact .inr ⟨hw, hg⟩
    · left; left
      rcases hk with ⟨rw, rw', fl, fl', z, z', s, s', t, t', e1, e2, e3⟩ | ⟨n, n', t, t', e1, e2, e3⟩
      · rw [e3] at hw
        have hrw : rw' = true := hw
        subst hrw
        rw [e2, e1]
        refine ⟨rfl, fun h => h, hbp, ?_⟩
        cases rw with
        | true => rfl
        | false =>
          exfalso
          have hbr := HA.aF b
          have hbB := HB.aF b
          rw [e1] at hbr
          rw [e2] at hbB
          obtain ⟨m, c, T, fz, p1, p2, p3, p4, p5, p6, p7⟩ := hbr
          obtain ⟨m', c', T', fz', o1, o2, _, _, _, o6, o7⟩ := hbB
          have hm' := E.mu b m p1
          rw [hm'] at o1; cases o1
          exact (o6 rfl).2 (E.fr _ (p7 rfl))
      · rw [e2, e1]
        exact ⟨trivial, fun h => h, hbp, trivial⟩
  have wrB : ∀ b, (hS'.at b).wr → (hB.at b).wr ∨ ((h.at b).wr ∧ (hA.at b).gone) := fun b hw => (wr b hw).imp (fun h => h.elim And.left And.left) id
  have place : ∀ b, (h.at b).wr → ∃ m, μ b = some m := fun b hw => (H.aF b).some fun hg => fx hg hw
  have mixed : ∀ b b' m m', ((h.at b).wr ∧ (hA.at b).gone) → (hB.at b').wr → μ' b = some m → μ' b' = some m' → m.aF ≠ m'.aF := fun b b' m m' ⟨h1, h2⟩ h3 hm hm' e => by
    obtain ⟨m0, hm0⟩ := place b h1
    have := E.mu b m0 hm0
    rw [hm] at this; cases this
    rcases E.wb m.aF ⟨b', m', h3, hm', e.symm⟩ with q | q
    · have := (H.et b m hm0).2; omega
    · exact away b m h1 h2 hm0 q
  refine ⟨⟨aF, fun b b' m m' h1 h2 hne hm hm' => ?_, fun b m hm => by rw [q1]; exact HB.et b m hm, HB.fN, HB.jk⟩, ⟨E.mu, E.fr, E.size, fun B hB ho => E.keep B hB fun hA => ho (ownA B hA), fun B ⟨b, m, h1, h2, h3, h4⟩ => ?_, fun B ⟨b, m, h1, h3, h4⟩ => ?_, fun B hF => (E.iq B hF).imp id fun h => h.imp id (wbA B), fun b m hm => (E.eW b m hm).imp id fun ⟨h1, h2⟩ => ⟨h1, h2.imp id (ownA _)⟩, by rw [q1]; exact Nat.le_trans hnx E.nx, q2, q3, E.io⟩⟩
  · rcases wrB b h1 with w1 | w1
    · rcases wrB b' h2 with w2 | w2
      · exact HB.dw b b' m m' w1 w2 hne hm hm'
      · exact (mixed b' b m' m w2 w1 hm' hm).symm
    · rcases wrB b' h2 with w2 | w2
      · exact mixed b b' m m' w1 w2 hm hm'
      · obtain ⟨m0, hm0⟩ := place b w1.1
        obtain ⟨m1, hm1⟩ := place b' w2.1
        have e0 := E.mu b m0 hm0
        have e1 := E.mu b' m1 hm1
        rw [hm] at e0; cases e0
        rw [hm'] at e1; cases e1
        exact H.dw b b' m m' w1.1 w2.1 hne hm0 hm1
  · rcases wr b h1 with (⟨w1, _, hp, w2⟩ | ⟨w1, hp⟩) | ⟨w1, hg⟩
    · obtain ⟨m0, hm0⟩ := place b (subwr b w2 ▸ w2)
      have := E.mu b m0 hm0
      rw [h3] at this; cases this
      exact .inr ⟨b, m, subwr b w2 ▸ w2, q2 ▸ h2, hm0, h4⟩
    · have hnA : b ∉ hB.pr := fun hb => h2 (q2 ▸ hp (E.pr ▸ hb))
      exact (E.own B ⟨b, m, w1, hnA, h3, h4⟩).imp id (ownA B)
    · obtain ⟨m0, hm0⟩ := place b w1
      have := E.mu b m0 hm0
      rw [h3] at this; cases this
      exact .inr ⟨b, m, w1, q2 ▸ h2, hm0, h4⟩
  · rcases wrB b h1 with w1 | ⟨w1, hg⟩
    · exact (E.wb B ⟨b, m, w1, h3, h4⟩).imp id (wbA B)
    · obtain ⟨m0, hm0⟩ := place b w1
      have := E.mu b m0 hm0
      rw [h3] at this; cases this
      exact .inr ⟨b, m, w1, hm0, h4⟩
end Go.Proofs.YtdlohaedegmiaaaGreatDoor.Ev
