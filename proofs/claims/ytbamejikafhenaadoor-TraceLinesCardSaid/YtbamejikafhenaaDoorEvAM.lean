import Derived.Test.YtbamejikafhenaaDoorEvAB
import Derived.Test.YtbamejikafhenaaDoorEvAL
import Derived.Lib.Bytealg
import Derived.Lib.Index
import Derived.Lib.Atoi
import Derived.Below
import Derived.Lib.AtoiErrMem
import Derived.Lib.IndexMore
import Derived.Lib.LastIndexLaws
import Derived.DefersIn
import Derived.KernelRfl
namespace Go.Proofs.YtbamejikafhenaaDoor.Ev
noncomputable section
def tz (n : Nat) : Nat → List Nat := Nat.rec (motive := fun _ => Nat → List Nat) (fun _ => []) (fun _ ih s => Nat.mod s 256 :: ih (Nat.div s 256)) n
def abd (l : List UInt8) : List Nat := l.map (·.toNat)
def a16 : Nat := 18446744073709551615
def idxA (c : Nat) (l : List Nat) : Nat → Nat := List.rec (motive := fun _ => Nat → Nat) (fun _ => a16) (fun a _ ih i => Bool.rec (motive := fun _ => Nat) (ih (Nat.succ i)) i (Nat.beq a c)) l
def a1t (l : Row) (k : AV → Row → aa) : aa := Tr.rec (motive := fun _ => aa) .fail (fun v _ r _ _ => k v r) l
def ac6 (l : Row) (k : aa) : aa := Tr.rec (motive := fun _ => aa) k (fun _ _ _ _ _ => .fail) l
def idxF : bN := ⟨fun l hp => a1t l fun a r => a1t r fun b r => ac6 r (a.ea fun s n => b.bV fun i c => ar (Nat.beq i 4) (ar (Nat.ble n 4294967280) (bu 3 (idxA c (tz n s) 0) fun v => .val v hp)))⟩
structure Dfd where
  ia : Nat
  a : Array Oper
  id : Nat
  o0 : Oper
  o1 : Oper
  g : Nat
  fs : Array Operand
  caps : Array Operand
  t : Nat
  t' : Nat
  as : Array Operand
  ts : Array TypeId
  rest : Code
def okD (q : Dfd) : Bool := eP (Nat.beq q.fs.size 0) (eP (Nat.beq q.as.size 0) (Nat.beq q.t q.t'))
end
theorem oa : ∀ (l : List UInt8), tz l.length (aL l) = abd l
  | [] => rfl
  | b :: l => by
    have hb : b.toNat < 256 := b.toNat_lt
    have e : aL (b :: l) = b.toNat + 256 * aL l := rfl
    show Nat.mod (aL (b :: l)) 256 :: tz l.length (Nat.div (aL (b :: l)) 256) = _
    have e1 : Nat.mod (aL (b :: l)) 256 = b.toNat := by rw [e]; show (b.toNat + 256 * aL l) % 256 = _; omega
    have e2 : Nat.div (aL (b :: l)) 256 = aL l := by rw [e]; show (b.toNat + 256 * aL l) / 256 = _; omega
    rw [e1, e2, oa l]; rfl
theorem ahK (a b : UInt8) : Nat.beq a.toNat b.toNat = (a == b) := by
  rw [Bool.eq_iff_iff, aF, beq_iff_eq]
  exact ⟨fun h => UInt8.toNat_inj.1 h, fun h => by rw [h]⟩
theorem a3x (c : UInt8) : ∀ (l : List UInt8) (i : Nat), idxA c.toNat (abd l) i = if Lib.indexByte l c < 0 then a16 else i + (Lib.indexByte l c).toNat
  | [], i => rfl
  | b :: l, i => by
    have e : idxA c.toNat (abd (b :: l)) i = (Bool.rec (motive := fun _ => Nat) (idxA c.toNat (abd l) (Nat.succ i)) i (Nat.beq b.toNat c.toNat)) := rfl
    rw [e, eF, ahK, a3x c l]
    have hg : ∀ l : List UInt8, -1 ≤ Lib.indexByte l c := fun l => by
      induction l with
      | nil => simp [Lib.indexByte]
      | cons b l ih => simp only [Lib.indexByte]; split; · omega
                       · split <;> omega
    have := hg l
    simp only [Lib.indexByte]
    by_cases h : (b == c) = true
    · simp [h]
    · simp only [h, if_false, Bool.false_eq_true]
      by_cases h2 : Lib.indexByte l c = -1
      · simp [h2]
      · have : (Lib.indexByte l c == -1) = false := by simpa using h2
        simp only [this, Bool.false_eq_true, if_false]
        have hn : ¬ Lib.indexByte l c < 0 := by omega
        have hn2 : ¬ Lib.indexByte l c + 1 < 0 := by omega
        rw [if_neg hn, if_neg hn2]
        show Nat.succ i + _ = _
        omega
section
variable {V : Env} {f : FuncId}
theorem jt {R : aa} (hR : R ≠ .fail) {l : Row} {k : AV → Row → aa} (h : a1t l k = R) : ∃ v a r, l = .nd v a r ∧ k v r = R := by
  cases l with
  | lf => exact an hR h
  | nd v a r => exact ⟨v, a, r, rfl, h⟩
theorem rr {R : aa} (hR : R ≠ .fail) {l : Row} {k : aa} (h : ac6 l k = R) : l = .lf ∧ k = R := by
  cases l with
  | lf => exact ⟨rfl, h⟩
  | nd v a r => exact an hR h
theorem a7c {w : World} {F : Nat → Prop} {μ : Mu} {v u : AV} {a b : Row} {args : Array Value} (h : qJ w F μ (.nd v a (.nd u b .lf)) args) : ∃ x y, args = #[x, y] ∧ ao w F μ v x ∧ ao w F μ u y := by
  obtain ⟨h1, h2⟩ := h
  obtain ⟨l⟩ := args
  cases l with
  | nil => cases h1
  | cons x r =>
    cases r with
    | nil => cases h1
    | cons y r =>
      cases r with
      | nil => exact ⟨x, y, rfl, h2 0 x rfl, h2 1 y rfl⟩
      | cons z r => exact absurd h1 (by simp [len])
theorem kF.grow {μ : Mu} {F : Nat → Prop} {hp : Hp} {w w' : World} (g : RowKit.Below w.heap.size w w') : kF μ F hp w μ F hp w' :=
  .of ⟨fun _ _ h => h, fun _ h => h, g.size, fun B hB _ => g.block B hB, fun _ h => .inr h, fun _ h => .inr h, fun _ h => .inl h, fun _ _ h => .inl h, Nat.le_refl _, rfl, rfl, ⟨by rw [g.os, g.tape], g.output⟩⟩ fun _ h => .inl h
theorem bn.known {G : bN} (hcan : Can V.P f) (h : ∀ l hp R, G.f l hp = R → R ≠ .fail → ∃ v, R = .val v hp ∧ ∀ w F μ args, V.Glo w F → qJ w F μ l args → Calls V.P f args w fun e w' => ∃ x, e = .returned x ∧ RowKit.Below w.heap.size w w' ∧ ao w' F μ v x) : bn V f G := fun l hp R h1 hR => by
  obtain ⟨v, e, H⟩ := h l hp R h1 hR
  refine ⟨hcan, v, hp, e, fun w μ F args n hH ha => callsIn_wide.2 ((H w F μ args hH.ve ha).mono fun e w' ⟨x, e1, g, hx⟩ => ⟨x, e1, μ, F, hx, ?_, .grow g⟩)⟩
  exact hH.grow g.size g.block (fun _ h => h) (fun _ h => .inl h) fun B hB => Nat.lt_of_lt_of_le (hH.qt B hB) g.size
theorem sd {w : World} {F : Nat → Prop} {μ : Mu} {s n : Nat} {x : Value} (h : ao w F μ (.str s n) x) : ∃ b : ByteArray, x = .string b ∧ n = b.size ∧ s = aL b.data.toList := by
  cases h; exact ⟨_, rfl, rfl, rfl⟩
theorem a56 (b : ByteArray) : tz b.size (aL b.data.toList) = abd b.data.toList := by
  have e : b.size = b.data.toList.length := rfl
  rw [e, oa]
theorem aaf {i n : Nat} {k : AV → aa} : bu i n k = k (.int i n) := by cases n <;> rfl
theorem ab1 {w : World} {F : Nat → Prop} {μ : Mu} {i : Int} (h1 : -1 ≤ i) (h2 : i < 9223372036854775808) : ao w F μ (.int 3 (if i < 0 then a16 else 0 + i.toNat)) (.int .i64 i) := by
  by_cases h : i < 0
  · have : i = -1 := by omega
    subst this
    exact .int (k := 3) (n := a16) (by decide)
  · rw [if_neg h]
    have hn : i = (i.toNat : Int) := by omega
    have := ao.int (w := w) (F := F) (μ := μ) (k := 3) (n := 0 + i.toNat) (by show 0 + i.toNat < 18446744073709551616; omega)
    have e : (kd 3).wrap ((0 + i.toNat : Nat) : Int) = i := by
      show IntKind.i64.wrap _ = i
      rw [Nat.zero_add, wrap_i64 _ (by omega), ← hn]
    rw [e] at this
    exact this
theorem rJ (c : UInt8) : ∀ l : List UInt8, -1 ≤ Lib.indexByte l c ∧ Lib.indexByte l c ≤ l.length
  | [] => by simp [Lib.indexByte]
  | b :: l => by
    have := rJ c l
    simp only [Lib.indexByte, List.length_cons]
    split
    · omega
    · split <;> omega
theorem size_eq (b : ByteArray) : b.data.toList.length = b.size := rfl
theorem aeC {c : Nat} (h : c < 256) : ((c : Int).toNat.toUInt8).toNat = c := by
  show (UInt8.ofNat c).toNat = c
  rw [UInt8.toNat_ofNat']; omega
theorem aeS (hcan : Can V.P f) (H : ∀ (s : ByteArray) (c : Int) (w : World), Calls V.P f #[.string s, .int .u8 c] w fun e w' => e = .returned (.int .i64 (Lib.indexByte s.data.toList c.toNat.toUInt8)) ∧ w' = w) : bn V f idxF := by
  refine bn.known hcan fun l hp R h hR => ?_
  obtain ⟨a, _, r, rfl, h1⟩ := jt hR h
  obtain ⟨b, _, r, rfl, h2⟩ := jt hR h1
  obtain ⟨rfl, h3⟩ := rr hR h2
  obtain ⟨s, n, rfl, h4⟩ := dO hR h3
  obtain ⟨i, c, rfl, h5⟩ := dR hR h4
  obtain ⟨hi, h6⟩ := ax hR h5
  obtain ⟨hn, h7⟩ := ax hR h6
  rw [aF] at hi
  rw [bA] at hn
  subst hi
  rw [aaf] at h7
  refine ⟨_, h7.symm, fun w F μ args _ ha => ?_⟩
  obtain ⟨x, y, rfl, hx, hy⟩ := a7c ha
  obtain ⟨b, rfl, rfl, rfl⟩ := sd hx
  obtain ⟨hc, rfl⟩ := ga hy
  have hw : T 4 c = c := jl 4 c hc (.inl (by decide))
  rw [hw]
  refine (H b c w).mono fun e w' ⟨e1, e2⟩ => ⟨_, e1, by rw [e2]; exact .refl _ _, ?_⟩
  have := a3x ((c : Int).toNat.toUInt8) b.data.toList 0
  rw [aeC hc] at this
  rw [a56, this]
  obtain ⟨h1, h2⟩ := rJ ((c : Int).toNat.toUInt8) b.data.toList
  rw [size_eq] at h2
  exact ab1 h1 (by omega)
theorem a4e {w : World} {F : Nat → Prop} {μ : Mu} {a b : AV} {x y : Value} (ha : ao w F μ a x) (hb : ao w F μ b y) : ao w F μ (.bB (.nd a .lf (.nd b .lf .lf)) 2) (.tuple #[x, y]) :=
  .bB (fun i => if i = 0 then x else y) rfl (fun i hi => by
    have : i < 2 := hi
    rcases (by omega : i = 0 ∨ i = 1) with rfl | rfl <;> rfl) fun i hi => by
    have : i < 2 := hi
    rcases (by omega : i = 0 ∨ i = 1) with rfl | rfl
    · exact ha
    · exact hb
end
noncomputable section
def gd (v : AV) (want : Bool) (hp : Hp) (s : (AV → Hp → aa) → aa) (k : AV → Hp → aa) : aa :=
  v.on (fun _ _ => .fail) (fun b => when (a15 b want) (k dw hp) (s k)) (fun _ _ => .fail) (fun _ _ => .fail) (fun _ _ _ _ => .fail) (fun _ _ _ _ => .fail) (fun _ _ => .fail) (fun _ _ => k dw hp) (fun _ _ _ _ _ => .fail)
def bg (i : Nat) (v : AV) (k : AV → aa) : aa := v.wx fun t _ => (a4b i).get t .e k
def oL (v : AV) (k : AV → aa) : aa := v.on (fun _ _ => .fail) (fun _ => .fail) (fun _ _ => .fail) (fun _ _ => k v) (fun _ _ _ _ => .fail) (fun _ _ _ _ => .fail) (fun _ _ => .fail) (fun _ _ => .fail) (fun g _ _ _ _ => ar (Nat.beq g 1 || Nat.beq g 3 || Nat.beq g 5 || Nat.beq g 12) (k v))
def eY (n : Nat) (hp : Hp) (f : Hp → aa) : aa := Hp.rec (motive := fun _ => aa) (fun t nx pr _ => aG nx fun nx => aG (Nat.add nx n) fun m => f ⟨t, m, pr, nx⟩) hp
end
noncomputable section
def ptK (K : AV → Hp → aa) : Pt := ⟨fun _ _ _ hp v => K v hp⟩
end
theorem eK {b : Bool} {s s' : Sm} {sk : Row} {fr : Fr} {hp : Hp} (h : s.run sk fr hp = s'.run sk fr hp) : (iff b s).run sk fr hp = (iff b s').run sk fr hp := by
  cases b
  · rfl
  · exact h
theorem a7C (C : Cx) (g : G) (P : Pt) (N : NK) (k : Sm) (op : Op) (sk : Row) (fr : Fr) (hp : Hp) : (iO C g P N k op).run sk fr hp = (iO C g (ptK fun v hp => P.f k sk fr hp v) N cK op).run sk fr hp := by
  unfold iO
  split
  all_goals first
    | rfl
    | (unfold a1F; split <;> first | rfl | (exact eK rfl))
    | (unfold gW; split <;> first | rfl | (exact eK rfl))
    | (unfold a2g; split <;> rfl)
    | (unfold a2g; generalize known C.P _ = b; cases b <;> rfl)
    | (exact eK rfl)
    | (unfold a5G; exact eK rfl)
    | (unfold cBin; generalize bp _ _ = b; cases b <;> first | rfl | (unfold a7B; split <;> rfl) | (unfold a2A; rfl))
    | (unfold cUn; split <;> rfl)
    | (unfold a6E; split <;> first | rfl | (exact eK rfl))
    | (unfold a8R; exact eK rfl)
    | (unfold a6u; split <;> first | rfl | (exact eK rfl))
    | (unfold a0V; split <;> first | rfl | (exact eK rfl))
    | (unfold nB; split <;> first | rfl | (exact eK rfl))
    | (unfold a0R; split <;> first | rfl | (exact eK rfl))
    | (unfold nK; split <;> first | rfl | (exact eK rfl))
    | (unfold a0E; split <;> first | rfl | (exact eK rfl))
    | (unfold ae3; split <;> first | rfl | (split <;> rfl))
    | (unfold a5S; split <;> first | rfl | (split <;> rfl))
    | skip
  split
  · unfold rn
    split
    all_goals first
      | rfl
      | (split <;> first | rfl | (exact eK rfl))
      | (split
         · refine eK ?_
           split <;> first | rfl | (exact eK rfl)
         · rfl)
  · unfold a8D
    split <;> rfl
  · rfl
noncomputable section
def aI (v : AV) (A B : (AV → aa) → aa) (K : AV → aa) : aa := v.ay fun t => when t (A K) (B K)
def aiz (C : Cx) (g : G) (P : Pt) (k : Sm) (c x y : Operand) : Sm := let c := jI C g c; let a := jI C g x; let b := jI C g y; ⟨fun sk fr hp => c.get sk fr fun v => aI v (a.get sk fr) (b.get sk fr) fun v => P.f k sk fr hp v⟩
def lL (M : Mem) (N : NK) (z : Nat) (r0 : Row) (s n : Nat) (l : List (Nat × ((AV → aa) → aa))) (hp : Hp) (k : AV → Hp → aa) : aa :=
  List.rec (motive := fun _ => Row → Bool → aa) (fun r f => N.f hp (.row true f z s r) fun id hp => k (.ms id 0 n z) hp) (fun p _ ih t f => p.2 fun v => wrV M z z t p.1 v fun t b => ih t (bp f b)) l r0 true
def nj (C : Cx) (g : G) (P : Pt) (N : NK) (k : Sm) (t : TypeId) (len : Nat) (ps : Array (Nat × Operand)) : Sm := match slT C.P t with
  | none => cK
  | some e => let z := bw C.P e; let q := partsOf C g ps.toList (fun i => i * z) fun _ => z; let r0 := Tr.full (gr C.P e) (depth len); let s := len * z
    iff (bp (Nat.ble 1 z) (bp (fi C.P e z) (bp (Nat.ble s 16777216) (a3h (fun i => i * z) (fun _ => z) s ps.toList)))) ⟨fun sk fr hp => lL C.M N z r0 s len (q.map fun p => (p.o, p.x.get sk fr)) hp fun v hp => P.f k sk fr hp v⟩
def po (C : Cx) (g : G) (P : Pt) (N : NK) (k : Sm) (op : Op) : Sm := match op with
  | .pick c a b => aiz C g P k c a b
  | .buildSlice t n ps => nj C g P N k t n ps
  | op => iO C g P N k op
def lR (C : Cx) (g : G) (P : Pt) (k : Sm) (W : Pt → Sm → Sm) (t : Option Nat) (want : Bool) : Sm := match t with
  | none => cK
  | some t => let a := a9K g.d (look C g t); ⟨fun sk fr hp => a.get sk fr fun v => gd v want hp (fun K => (W (ptK K) cK).run sk fr hp) (fun v hp => P.f k sk fr hp v)⟩
end
theorem aje (M : Mem) (z : Nat) (sk : Row) (fr : Fr) (K : Row → Bool → aa) (l : List Part) : ∀ (t : Row) (f : Bool), (vk M z l).f sk fr t f K = List.rec (motive := fun (_ : List (Nat × ((AV → aa) → aa))) => Row → Bool → aa) K (fun p _ ih t f => p.2 fun v => wrV M z z t p.1 v fun t b => ih t (bp f b)) (l.map fun p => (p.o, p.x.get sk fr)) t f := by
  induction l with
  | nil => exact fun _ _ => rfl
  | cons p l ih =>
    intro t f
    show (p.x.get sk fr fun v => wrV M z z t p.o v fun t b => (vk M z l).f sk fr t (bp f b) K) = _
    simp only [ih]
    rfl
theorem lY (C : Cx) (g : G) (P : Pt) (N : NK) (k : Sm) (op : Op) : po C g P N k op = iO C g P N k op := by
  cases op
  case buildSlice t n ps =>
    show nj C g P N k t n ps = gW C g P N k t n ps
    unfold nj gW
    generalize slT C.P t = q
    cases q with
    | none => rfl
    | some e =>
      dsimp only
      refine congrArg (iff _) ?_
      refine congrArg Sm.mk ?_
      funext sk fr hp
      rw [aje]
      rfl
  all_goals rfl
def a8t (W : Pt → Sm → Sm) : Prop := ∀ P k sk fr hp, (W P k).run sk fr hp = (W (ptK fun v hp => P.f k sk fr hp v) cK).run sk fr hp
theorem uT {C : Cx} {g : G} {P : Pt} {k : Sm} {W : Pt → Sm → Sm} (hW : a8t W) (t : Option Nat) (want : Bool) : lR C g P k W t want = guarded C g P k (W P k) t want := by
  cases t with
  | none => rfl
  | some t =>
    unfold lR guarded
    dsimp only
    congr 1
    funext sk fr hp
    congr 1
    funext v
    cases v with
    | bool b =>
      show when (a15 b want) (P.f k sk fr hp dw) ((W (ptK fun v hp => P.f k sk fr hp v) cK).run sk fr hp) = when (a15 b want) (P.f k sk fr hp dw) ((W P k).run sk fr hp)
      rw [← hW]
    | _ => rfl
theorem aeW (C : Cx) (g : G) (N : NK) (op : Op) : a8t fun P k => po C g P N k op := fun P k sk fr hp => by
  show (po C g P N k op).run sk fr hp = (po C g (ptK fun v hp => P.f k sk fr hp v) N cK op).run sk fr hp
  rw [lY, lY]
  exact a7C C g P N k op sk fr hp
theorem onceW (C : Cx) (g : G) (all : List Dr) (x : Dr) (done : List Dr) : a8t fun P k => vw C g all x done P k := fun P k sk fr hp => by
  show (vw C g all x done P k).run sk fr hp = (vw C g all x done (ptK fun v hp => P.f k sk fr hp v) cK).run sk fr hp
  unfold vw
  cases Nat.ble x.c 2 with
  | true => exact a7C C g P _ k _ sk fr hp
  | false => exact eK rfl
noncomputable section
def a6P (C : Cx) (ops : Array Oper) (g : G) (N : NK) (o : Oper) (rest : List Oper) (k : G → Sm) : Sm :=
  match alias C g o rest with
  | some a => iff (Nat.ble (Nat.succ a.1) C.nt) (k ⟨g.d, a :: dropKey a.1 g.m⟩)
  | none => (match dst C g o.dst with
    | ⟨P, g'⟩ => (match o.guard with
      | none => po C g P N (k g') o.op
      | some (j, want) => lR C g P (k g') (fun P k => po C g P N k o.op) ((ops[j]?).bind (·.dst)) want))
def rY (C : Cx) (ops : Array Oper) (l : List Oper) (g : G) (k : G → Sm) : Sm :=
  List.rec (motive := fun _ => G → Sm) k (fun o r ih g => a6P C ops g (aY C.M) o r ih) l g
def lZ (l : List ((AV → aa) → aa)) : List Nat → (List Nat → aa) → aa := List.rec (motive := fun _ => List Nat → (List Nat → aa) → aa) (fun acc k => k acc) (fun x _ ih acc k => x fun v => v.on (fun _ _ => .fail) (fun _ => .fail) (fun _ _ => ih acc k) (fun b _ => ih (b :: acc) k) (fun b _ _ _ => ih (b :: acc) k) (fun _ _ _ _ => ih acc k) (fun _ _ => .fail) (fun _ _ => .fail)
  (fun g _ b _ _ => when (Nat.beq g 4) (ih (b :: acc) k) (ar (Nat.beq g 1 || Nat.ble 6 g) (ih acc k)))) l
def cO (M : Mem) (A : List Nat) (l : List ((AV → aa) → aa)) (hp : Hp) (body : Hp → aa) (K : Hp → AV → aa) : aa := lZ l [] fun pl => a3n M A hp [] fun sv h1 =>
    aa.rec (motive := fun _ => aa) (fun _ _ => .fail) (fun _ _ _ => .fail) (fun _ _ => .fail) (fun v h2 => xG M sv h2 fun h3 => gp M hp pl h3 fun h4 => Hp.rec (motive := fun _ => aa) (fun t nx _ _ => Hp.rec (motive := fun _ => aa) (fun _ nx0 pr rb => ar (Nat.ble nx0 nx) (K ⟨t, nx, pr, rb⟩ v)) hp) h4) .fail (body (h1.a3L (pQ pl hp.pr)))
def a4O (M : Mem) (A : List Nat) (L : List Rd) (s : Sm) (P : Pt) (k : Sm) : Sm :=
  ⟨fun sk fr hp => cO M A (L.map fun x => x.get sk fr) hp (fun h => s.run sk fr h) fun h v => P.f k sk fr h v⟩
def ux (C : Cx) (g : G) (all : List Dr) (x : Dr) (done : List Dr) (P : Pt) (k : Sm) : Sm :=
  Bool.rec (motive := fun _ => Sm)
    (let A := ix x done; let L := lM x done
     iff (uW (a0I all) L) (a4O C.M A (L.map (fc C g)) (iO C g agb (jR C.M x.i) retS x.o.op) P k)) (po C g P (jR C.M x.i) k x.o.op) (Nat.ble x.c 2)
def a7A (C : Cx) (ops : Array Oper) (all : List Dr) (g : G) (x : Dr) (rest done : List Dr) (k : G → Sm) : Sm :=
  match alias C g x.o (opers rest) with
  | some a => iff (Nat.ble (Nat.succ a.1) C.nt) (k ⟨g.d, a :: dropKey a.1 g.m⟩)
  | none => (match dst C g x.o.dst with
    | ⟨P, g'⟩ => (match x.o.guard with
      | none => ux C g all x done P (k g')
      | some (j, want) => lR C g P (k g') (fun P k => ux C g all x done P k) ((ops[j]?).bind (·.dst)) want))
end
theorem abZ (sk : Row) (fr : Fr) (k : List Nat → aa) (L : List Rd) : ∀ acc, lZ (L.map fun x => x.get sk fr) acc k = lp sk fr L acc k := by
  induction L with
  | nil => exact fun _ => rfl
  | cons x L ih =>
    intro acc
    show (x.get sk fr fun v => v.on (fun _ _ => .fail) (fun _ => .fail) (fun _ _ => lZ (L.map fun x => x.get sk fr) acc k) (fun b _ => lZ (L.map fun x => x.get sk fr) (b :: acc) k) (fun b _ _ _ => lZ (L.map fun x => x.get sk fr) (b :: acc) k) (fun _ _ _ _ => lZ (L.map fun x => x.get sk fr) acc k) (fun _ _ => .fail) (fun _ _ => .fail)
      (fun g _ b _ _ => when (Nat.beq g 4) (lZ (L.map fun x => x.get sk fr) (b :: acc) k) (ar (Nat.beq g 1 || Nat.ble 6 g) (lZ (L.map fun x => x.get sk fr) acc k)))) = _
    simp only [ih]
    rfl
theorem a9J (M : Mem) (A : List Nat) (L : List Rd) (s : Sm) (P : Pt) (k : Sm) : a4O M A L s P k = a6G M A L s P k := by
  unfold a4O a6G cO
  refine congrArg Sm.mk ?_
  funext sk fr hp
  rw [abZ]
theorem qV (C : Cx) (g : G) (all : List Dr) (x : Dr) (done : List Dr) (P : Pt) (k : Sm) : ux C g all x done P k = vw C g all x done P k := by
  unfold ux vw
  rw [lY]
  cases Nat.ble x.c 2 with
  | true => rfl
  | false =>
    dsimp only
    rw [a9J]
theorem ajn (C : Cx) (g : G) (all : List Dr) (x : Dr) (done : List Dr) : a8t fun P k => ux C g all x done P k := fun P k sk fr hp => by
  show (ux C g all x done P k).run sk fr hp = (ux C g all x done (ptK fun v hp => P.f k sk fr hp v) cK).run sk fr hp
  rw [qV, qV]
  exact onceW C g all x done P k sk fr hp
theorem abC (C : Cx) (ops : Array Oper) (g : G) (N : NK) (o : Oper) (rest : List Oper) (k : G → Sm) : a6P C ops g N o rest k = a69 C ops g N o rest k := by
  unfold a6P a69
  generalize alias C g o rest = A
  cases A with
  | some a => rfl
  | none =>
    cases hd : o.guard with
    | none => exact lY ..
    | some p =>
      show lR C g (dst C g o.dst).p (k (dst C g o.dst).g) (fun P k => po C g P N k o.op) ((ops[p.1]?).bind (·.dst)) p.2 = _
      rw [uT (aeW C g N o.op), lY]
theorem a4T (C : Cx) (ops : Array Oper) (l : List Oper) : ∀ (g : G) (k : G → Sm), rY C ops l g k = oC C ops l g k := by
  induction l with
  | nil => exact fun _ _ => rfl
  | cons o r ih =>
    intro g k
    show a6P C ops g (aY C.M) o r (fun g => rY C ops r g k) = a69 C ops g (aY C.M) o r (fun g => oC C ops r g k)
    rw [abC, show (fun g => rY C ops r g k) = fun g => oC C ops r g k from funext fun g => ih g k]
theorem abW (C : Cx) (ops : Array Oper) (all : List Dr) (g : G) (x : Dr) (rest done : List Dr) (k : G → Sm) : a7A C ops all g x rest done k = a4R C ops all g x rest done k := by
  unfold a7A a4R
  generalize alias C g x.o (opers rest) = A
  cases A with
  | some a => rfl
  | none =>
    cases hd : x.o.guard with
    | none => exact qV ..
    | some p =>
      show lR C g (dst C g x.o.dst).p (k (dst C g x.o.dst).g) (fun P k => ux C g all x done P k) ((ops[p.1]?).bind (·.dst)) p.2 = _
      rw [uT (ajn C g all x done), qV]
noncomputable section
def a1e (C : Cx) (ops : Array Oper) (all l : List Dr) (g : G) (k : G → Sm) : List Dr → Sm :=
  List.rec (motive := fun _ => G → List Dr → Sm) (fun g _ => k g) (fun x r ih g done => a7A C ops all g x r done (fun g => ih g (x :: done))) l g
def ss (C : Cx) (ops : Array Oper) (g : G) (k : G → Sm) : Sm :=
  let n := ops.size
  let l := order n 0 (drs C.P ops ops.toList (rp (iC ops.toList [] 0) []) 0)
  Bool.rec (motive := fun _ => Sm) cK (let s := a1e C ops l l g k []
    ⟨fun sk fr hp => eY n hp fun hp => s.run sk fr hp⟩) (eP (oN ops.toList 0) (tX l n))
end
theorem a97 (C : Cx) (ops : Array Oper) (all l : List Dr) : ∀ (g : G) (k : G → Sm) (done : List Dr), a1e C ops all l g k done = uy C ops all l g k done := by
  induction l with
  | nil => exact fun _ _ _ => rfl
  | cons x r ih =>
    intro g k done
    show a7A C ops all g x r done (fun g => a1e C ops all r g k (x :: done)) = a4R C ops all g x r done (fun g => uy C ops all r g k (x :: done))
    rw [abW, show (fun g => a1e C ops all r g k (x :: done)) = fun g => uy C ops all r g k (x :: done) from funext fun g => ih g k _]
theorem a3Q (C : Cx) (ops : Array Oper) (g : G) (k : G → Sm) : ss C ops g k = pE C ops g k := by
  unfold ss pE
  dsimp only
  rw [a97]
  rfl
noncomputable section
def xd (C : Cx) (c : Code) : DC := Code.rec (motive := fun _ => DC)
  ⟨fun g k _ _ => k g, fJ, []⟩
  (fun _ ops d => ⟨fun g k _ _ => Bool.rec (motive := fun _ => Sm) (rY C ops ops.toList g k) (ss C ops g k) d, fJ, []⟩)
  (fun _ _ a b => ⟨fun g k ex rt => a.run g (fun g => b.run g k ex rt) ex rt, fun l => Option.rec (motive := fun _ => Option (G → (G → Sm) → vy → Sm → Sm)) (b.lab l) (fun r => some fun g k ex rt => r g (fun g => b.run g k ex rt) ex rt) (a.lab l), yR a.ls b.ls⟩)
  (fun c _ _ a b => ⟨fun g k ex rt => let r := jI C g c; let j := jx (k .e); let A := a.run g (fun _ => j) ex rt; let B := b.run g (fun _ => j) ex rt; ⟨fun sk fr hp => r.get sk fr fun v => v.ay fun t => when t (A.run sk fr hp) (B.run sk fr hp)⟩, fJ, []⟩)
  (fun id _ b => ⟨fun g k ex rt => let j := jx (k .e); b.run g (fun _ => j) ((Nat.mul 2 id, j) :: ex) rt, fJ, []⟩)
  (fun _ b => ⟨fun _ _ ex rt => let s := b.run .e (fun _ => vN) (nU ex) vO; ⟨fun _ fr hp => qq (aD s 1000000 fr hp) (fun _ _ => .fail) ex rt⟩, fJ, []⟩)
  (fun f ps _ _ _ _ => ⟨fun g k ex rt => let j := k .e; abF C (ps.getD 0 0) (jI C g f) (fun fr hp => j.run .lf fr hp) ex rt, fJ, []⟩)
  (fun id => ⟨fun _ _ ex _ => jx (og (Nat.mul 2 id) ex), fJ, []⟩)
  (fun _ b => ⟨fun _ k ex rt => let j := k .e; let ex' := adL b.ls (nU ex); let s := b.run .e (fun _ => vN) ex' vO
      let segs : Lb := ⟨fun l => Option.rec (motive := fun _ => Sm) cK (fun r => r .e (fun _ => vN) ex' vO) (b.lab l)⟩
      ⟨fun _ fr hp => qq (jC b.ls segs 1000000 s fr hp) (fun fr hp => j.run .lf fr hp) ex rt⟩, fJ, []⟩)
  (fun l => ⟨fun g k _ _ => k g, fun m => Bool.rec (motive := fun _ => Option (G → (G → Sm) → vy → Sm → Sm)) none (some fun g k _ _ => k g) (Nat.beq l m), [l]⟩)
  (fun l => ⟨fun _ _ ex _ => jx (og (Nat.succ (Nat.mul 2 l)) ex), fJ, []⟩)
  ⟨fun _ _ _ rt => jx rt, fJ, []⟩
  (fun _ => ⟨fun _ _ _ _ => cK, fJ, []⟩) c
def fnS2 (C : Cx) : bN :=
  match tn C.P.funcs.toList C.self with
  | none => pL
  | some fn => match fn.body with
    | none => pL
    | some c =>
      let s := (xd C c).run .e (fun _ => vN) [] vO
      let rs := fn.results.toList
      let n := fn.params.size + fn.nfree
      Bool.rec (motive := fun _ => bN) pL (Bool.rec (motive := fun _ => bN) pL ⟨fun l hp => ar (Nat.beq (adE l) n) (zu 0 l (blank C.vars.length) fun fr =>
        aa.rec (motive := fun _ => aa) (fun fr hp => tQ C rs fr hp) (fun _ _ _ => .fail) (fun fr hp => tQ C rs fr hp) (fun _ _ => .fail) .fail (s.run .lf fr hp))⟩ (lS n C.vars)) (eP (xV c) (Nat.ble C.nt fn.ntmps))
structure Ctx where
  c : Code
  k : G → Sm
  ex : vy
  rt : Sm
def Ctx.down (C : Cx) (x : Ctx) (i : Nat) : Ctx := match x.c with
  | .seq a b => match i with
    | 0 => ⟨a, fun g => (xd C b).run g x.k x.ex x.rt, x.ex, x.rt⟩
    | _ => ⟨b, x.k, x.ex, x.rt⟩
  | .cond _ a b => match i with
    | 0 => ⟨a, fun _ => jx (x.k .e), x.ex, x.rt⟩
    | _ => ⟨b, fun _ => jx (x.k .e), x.ex, x.rt⟩
  | .block id b => ⟨b, fun _ => jx (x.k .e), (Nat.mul 2 id, jx (x.k .e)) :: x.ex, x.rt⟩
  | .loop b => ⟨b, fun _ => vN, nU x.ex, vO⟩
  | _ => x
def Ctx.at (C : Cx) (x : Ctx) (p : List Nat) : Ctx := List.rec (motive := fun _ => Ctx → Ctx) (fun x => x) (fun i _ ih x => ih (x.down C i)) p x
def topC (C : Cx) : Ctx := match tn C.P.funcs.toList C.self with
  | none => ⟨.skip, fun _ => vN, [], vO⟩
  | some fn => match fn.body with
    | none => ⟨.skip, fun _ => vN, [], vO⟩
    | some c => ⟨c, fun _ => vN, [], vO⟩
def atC (C : Cx) (p : List Nat) : Ctx := (topC C).at C p
def aC (C : Cx) (p : List Nat) : Sm := jx ((atC C p).k .e)
def gT (C : Cx) (p : List Nat) : Sm := let x := (atC C p).down C 0; (xd C x.c).run .e x.k x.ex x.rt
def gX (C : Cx) (p : List Nat) (r : aa) : aa := let x := atC C p; qq r (fun _ _ => .fail) x.ex x.rt
def iA (C : Cx) (p : List Nat) (fr : Fr) (hp : Hp) : aa := gX C p (aD (gT C p) 1000000 fr hp)
def eN (C : Cx) (r : aa) : aa := match tn C.P.funcs.toList C.self with
  | none => .fail
  | some fn => aa.rec (motive := fun _ => aa) (fun fr hp => tQ C fn.results.toList fr hp) (fun _ _ _ => .fail) (fun fr hp => tQ C fn.results.toList fr hp) (fun _ _ => .fail) .fail r
def fnG (D : Code → DC) (C : Cx) : bN :=
  match tn C.P.funcs.toList C.self with
  | none => pL
  | some fn => match fn.body with
    | none => pL
    | some c =>
      let s := (D c).run .e (fun _ => vN) [] vO
      let rs := fn.results.toList
      let n := fn.params.size + fn.nfree
      Bool.rec (motive := fun _ => bN) pL (Bool.rec (motive := fun _ => bN) pL ⟨fun l hp => ar (Nat.beq (adE l) n) (zu 0 l (blank C.vars.length) fun fr =>
        aa.rec (motive := fun _ => aa) (fun fr hp => tQ C rs fr hp) (fun _ _ _ => .fail) (fun fr hp => tQ C rs fr hp) (fun _ _ => .fail) .fail (s.run .lf fr hp))⟩ (lS n C.vars)) (eP (xV c) (Nat.ble C.nt fn.ntmps))
end
theorem aes (C : Cx) (c : Code) : xd C c = den C c := by
  induction c with
  | region id ops d =>
    show (⟨fun g k _ _ => Bool.rec (motive := fun _ => Sm) (rY C ops ops.toList g k) (ss C ops g k) d, fJ, []⟩ : DC) = ⟨fun g k _ _ => Bool.rec (motive := fun _ => Sm) (oC C ops ops.toList g k) (pE C ops g k) d, fJ, []⟩
    congr 1
    funext g k _ _
    rw [a4T, a3Q]
  | seq a b iha ihb => unfold xd den at *; dsimp only; rw [iha, ihb]
  | cond c a b iha ihb => unfold xd den at *; dsimp only; rw [iha, ihb]
  | block id b ih => unfold xd den at *; dsimp only; rw [ih]
  | loop b ih => unfold xd den at *; dsimp only; rw [ih]
  | scope b ih => unfold xd den at *; dsimp only; rw [ih]
  | _ => rfl
theorem ba (C : Cx) : fnS2 C = j1 C := by
  show fnG (xd C) C = fnG (den C) C
  rw [show xd C = den C from funext fun c => aes C c]
noncomputable def S (l : List UInt8) : AV := .str (aL l) l.length
def I (z : Int) : AV := .int 3 (z % 18446744073709551616).toNat
def U (n : Nat) : AV := .int 7 n
def B8 (n : Nat) : AV := .int 4 n
def gD (a : Int) : Prop := -9223372036854775808 ≤ a ∧ a < 9223372036854775808
theorem wC {n : Nat} (h : n < 18446744073709551616) : AV.int 3 n = I n := by
  unfold I; congr 1; omega
theorem a8p : AV.int 3 18446744073709551615 = I (-1) := rfl
theorem abY : AV.int 3 0 = I 0 := rfl
theorem a0N : AV.int 3 1 = I 1 := rfl
theorem lX (b : Bool) (f : Bool → aa) : AV.ay (.bool b) f = f b := rfl
theorem a7d (z : Int) (f : Nat → Nat → aa) : AV.bV (I z) f = f 3 (z % 18446744073709551616).toNat := rfl
theorem a6W (n : Nat) (f : Nat → Nat → aa) : AV.bV (U n) f = f 7 n := rfl
theorem aeO (n : Nat) (f : Nat → Nat → aa) : AV.bV (B8 n) f = f 4 n := rfl
theorem a7O (l : List UInt8) (f : Nat → Nat → aa) : AV.ea (S l) f = f (aL l) l.length := rfl
theorem ai1 (x y : aa) : when true x y = x := rfl
theorem a1g (x y : aa) : when false x y = y := rfl
theorem gy (i n : Nat) (k : AV → aa) : bu i n k = k (.int i n) := by cases n <;> rfl
theorem aB {b : Bool} (h : b = true) (x : aa) : ar b x = x := by rw [h]; rfl
theorem oY (a b : Nat) : Nat.ble a b = decide (a ≤ b) := by rw [Bool.eq_iff_iff, bA, decide_eq_true_eq]
theorem rl (a b : Nat) : Nat.beq a b = decide (a = b) := by rw [Bool.eq_iff_iff, aF, decide_eq_true_eq]
theorem oU {p : Prop} [Decidable p] (x y : aa) : when (decide p) x y = if p then x else y := by
  by_cases h : p <;> simp [h, when]
theorem acq (hp : Hp) (s : (AV → Hp → aa) → aa) (k : AV → Hp → aa) : gd (.bool true) true hp s k = s k := rfl
theorem ade (hp : Hp) (s : (AV → Hp → aa) → aa) (k : AV → Hp → aa) : gd (.bool false) false hp s k = s k := rfl
theorem abr (hp : Hp) (s : (AV → Hp → aa) → aa) (k : AV → Hp → aa) : gd (.bool true) false hp s k = k dw hp := rfl
theorem aav (hp : Hp) (s : (AV → Hp → aa) → aa) (k : AV → Hp → aa) : gd (.bool false) true hp s k = k dw hp := rfl
theorem aeP (i x y : Nat) (f : Nat → Nat → aa) : kS i (.int i x) (.int i y) f = f x y := by
  show ar (Nat.beq i i) (ar (Nat.beq i i) (f x y)) = _
  rw [Nat.beq_refl]; rfl
theorem wS (i M H w x y : Nat) (k : AV → aa) : (uX i M H w .sub).f (.int i x) (.int i y) k = k (.int i ((x + M - y) % M)) := by
  show kS i (.int i x) (.int i y) (fun x y => bu i (Nat.mod (Nat.sub (Nat.add x M) y) M) k) = _
  rw [aeP, gy]; rfl
theorem afb (op : BinOp) : ae op 3 = uX 3 18446744073709551616 9223372036854775808 64 op := rfl
theorem a7y (op : BinOp) : ae op 7 = uX 7 18446744073709551616 0 64 op := rfl
section
variable {a b : Int} {k : AV → aa}
theorem a6Y : (ae .add 3).f (I a) (I b) k = k (I (a + b)) := by
  show bu 3 (((a % 18446744073709551616).toNat + (b % 18446744073709551616).toNat) % 18446744073709551616) k = _
  rw [gy]; unfold I; congr 2; omega
theorem ags : (ae .sub 3).f (I a) (I b) k = k (I (a - b)) := by
  rw [afb]
  unfold I
  rw [wS]
  congr 2; omega
theorem uR {a : Int} (h : gD a) : ((a % 18446744073709551616).toNat + 9223372036854775808) % 18446744073709551616 = (a + 9223372036854775808).toNat := by
  obtain ⟨h1, h2⟩ := h
  omega
theorem aa8 (ha : gD a) (hb : gD b) : (ae .lss 3).f (I a) (I b) k = k (.bool (decide (a < b))) := by
  show k (.bool (Nat.ble (Nat.succ (((a % 18446744073709551616).toNat + 9223372036854775808) % 18446744073709551616)) (((b % 18446744073709551616).toNat + 9223372036854775808) % 18446744073709551616))) = _
  rw [uR ha, uR hb, oY]
  congr 3; have := ha.1; have := hb.1; rw [eq_iff_iff]; omega
theorem leq_I (ha : gD a) (hb : gD b) : (ae .leq 3).f (I a) (I b) k = k (.bool (decide (a ≤ b))) := by
  show k (.bool (Nat.ble (((a % 18446744073709551616).toNat + 9223372036854775808) % 18446744073709551616) (((b % 18446744073709551616).toNat + 9223372036854775808) % 18446744073709551616))) = _
  rw [uR ha, uR hb, oY]
  congr 3; have := ha.1; have := hb.1; rw [eq_iff_iff]; omega
theorem gtr_I (ha : gD a) (hb : gD b) : (ae .gtr 3).f (I a) (I b) k = k (.bool (decide (b < a))) := by
  show k (.bool (Nat.ble (Nat.succ (((b % 18446744073709551616).toNat + 9223372036854775808) % 18446744073709551616)) (((a % 18446744073709551616).toNat + 9223372036854775808) % 18446744073709551616))) = _
  rw [uR ha, uR hb, oY]
  congr 3; have := ha.1; have := hb.1; rw [eq_iff_iff]; omega
theorem agD (ha : gD a) (hb : gD b) : (ae .geq 3).f (I a) (I b) k = k (.bool (decide (b ≤ a))) := by
  show k (.bool (Nat.ble (((b % 18446744073709551616).toNat + 9223372036854775808) % 18446744073709551616) (((a % 18446744073709551616).toNat + 9223372036854775808) % 18446744073709551616))) = _
  rw [uR ha, uR hb, oY]
  congr 3; have := ha.1; have := hb.1; rw [eq_iff_iff]; omega
theorem eql_I (ha : gD a) (hb : gD b) : (ae .eql 3).f (I a) (I b) k = k (.bool (decide (a = b))) := by
  show k (.bool (Nat.beq (a % 18446744073709551616).toNat (b % 18446744073709551616).toNat)) = _
  rw [rl]
  congr 3; have := ha.1; have := hb.1; have := ha.2; have := hb.2; rw [eq_iff_iff]; omega
theorem neq_I (ha : gD a) (hb : gD b) : (ae .neq 3).f (I a) (I b) k = k (.bool (!decide (a = b))) := by
  show k (.bool (dv (Nat.beq (a % 18446744073709551616).toNat (b % 18446744073709551616).toNat))) = _
  rw [rl, fA]
  congr 4; have := ha.1; have := hb.1; have := ha.2; have := hb.2; rw [eq_iff_iff]; omega
theorem a03 {n : Nat} {k : Nat → aa} (h0 : 0 ≤ a) (h : a < n) (hn : n < 9223372036854775808) : fP (I a) n k = k a.toNat := by
  show ar (Nat.ble (Nat.succ (a % 18446744073709551616).toNat) n) (nD 3 (a % 18446744073709551616).toNat (k (a % 18446744073709551616).toNat)) = _
  have e : (a % 18446744073709551616).toNat = a.toNat := by omega
  rw [e, aB (by rw [bA]; omega)]
  show ar (Nat.ble (Nat.succ a.toNat) 9223372036854775808) _ = _
  rw [aB (by rw [bA]; omega)]
theorem a0k {n : Nat} {k : Nat → aa} (h0 : 0 ≤ a) (h : a ≤ n) (hn : n < 9223372036854775808) : gY (I a) n k = k a.toNat := by
  show ar (Nat.ble (a % 18446744073709551616).toNat n) (nD 3 (a % 18446744073709551616).toNat (k (a % 18446744073709551616).toNat)) = _
  have e : (a % 18446744073709551616).toNat = a.toNat := by omega
  rw [e, aB (by rw [bA]; omega)]
  show ar (Nat.ble (Nat.succ a.toNat) 9223372036854775808) _ = _
  rw [aB (by rw [bA]; omega)]
end
section
variable {a b : Nat} {k : AV → aa}
theorem a81 : (ae .add 7).f (U a) (U b) k = k (U ((a + b) % 18446744073709551616)) := by
  show bu 7 ((a + b) % 18446744073709551616) k = _
  rw [gy]; rfl
theorem sub_U (h : b ≤ a) (ha : a < 18446744073709551616) : (ae .sub 7).f (U a) (U b) k = k (U (a - b)) := by
  rw [a7y]
  unfold U
  rw [wS]
  congr 2; omega
theorem mul_U : (ae .mul 7).f (U a) (U b) k = k (U ((a * b) % 18446744073709551616)) := by
  show bu 7 ((a * b) % 18446744073709551616) k = _
  rw [gy]; rfl
theorem aat (h : b ≠ 0) (ha : a < 18446744073709551616) : (ae .quo 7).f (U a) (U b) k = k (U (a / b)) := by
  show when (Nat.beq b 0) .fail (bu 7 ((a / b) % 18446744073709551616) k) = _
  rw [rl, oU, if_neg h, gy]
  show k (AV.int 7 _) = k (AV.int 7 _)
  rw [Nat.mod_eq_of_lt (Nat.lt_of_le_of_lt (Nat.div_le_self _ _) ha)]
theorem adm (h : b ≠ 0) (ha : a < 18446744073709551616) : (ae .rem 7).f (U a) (U b) k = k (U (a % b)) := by
  show when (Nat.beq b 0) .fail (bu 7 ((a % b) % 18446744073709551616) k) = _
  rw [rl, oU, if_neg h, gy]
  show k (AV.int 7 _) = k (AV.int 7 _)
  rw [Nat.mod_eq_of_lt (Nat.lt_of_le_of_lt (Nat.mod_le _ _) ha)]
theorem agM : (ae .eql 7).f (U a) (U b) k = k (.bool (decide (a = b))) := by
  show k (.bool (Nat.beq a b)) = _
  rw [rl]
theorem lss_U : (ae .lss 7).f (U a) (U b) k = k (.bool (decide (a < b))) := by
  show k (.bool (Nat.ble (Nat.succ a) b)) = _
  rw [oY]; rfl
theorem gtr_U : (ae .gtr 7).f (U a) (U b) k = k (.bool (decide (b < a))) := by
  show k (.bool (Nat.ble (Nat.succ b) a)) = _
  rw [oY]; rfl
theorem agv : (ae .geq 7).f (U a) (U b) k = k (.bool (decide (b ≤ a))) := by
  show k (.bool (Nat.ble b a)) = _
  rw [oY]
theorem eql_B : (ae .eql 4).f (B8 a) (B8 b) k = k (.bool (decide (a = b))) := by
  show k (.bool (Nat.beq a b)) = _
  rw [rl]
theorem lss_B : (ae .lss 4).f (B8 a) (B8 b) k = k (.bool (decide (a < b))) := by
  show k (.bool (Nat.ble (Nat.succ a) b)) = _
  rw [oY]; rfl
theorem gtr_B : (ae .gtr 4).f (B8 a) (B8 b) k = k (.bool (decide (b < a))) := by
  show k (.bool (Nat.ble (Nat.succ b) a)) = _
  rw [oY]; rfl
theorem leq_B : (ae .leq 4).f (B8 a) (B8 b) k = k (.bool (decide (a ≤ b))) := by
  show k (.bool (Nat.ble a b)) = _
  rw [oY]
theorem geq_B : (ae .geq 4).f (B8 a) (B8 b) k = k (.bool (decide (b ≤ a))) := by
  show k (.bool (Nat.ble b a)) = _
  rw [oY]
end
section
variable {a b : List UInt8} {k : AV → aa} {hp : Hp}
theorem ah6 {k : Nat → aa} : cz mem 0 (S a) hp k = k a.length := rfl
theorem wy (h : a.length + b.length ≤ 9223372036854775807) : (cx .add).f (S a) (S b) k = k (S (a ++ b)) := by
  show ar (Nat.ble (a.length + b.length) 9223372036854775807) (tM (aL a + aL b * 256 ^ a.length) (a.length + b.length) k) = _
  rw [aB (by rw [bA]; exact h)]
  unfold tM S
  rw [az, az, mM, List.length_append]
theorem eq_S : sE (aL a) a.length (aL b) b.length = decide (a = b) := by
  rw [Bool.eq_iff_iff, decide_eq_true_eq]
  show (Bool.rec (motive := fun _ => Bool) false (Nat.beq (aL a) (aL b)) (Nat.beq a.length b.length)) = true ↔ _
  constructor
  · intro h
    rw [rl, rl] at h
    by_cases h1 : a.length = b.length
    · rw [decide_eq_true h1] at h
      exact pB a b h1 (by simpa using h)
    · rw [decide_eq_false h1] at h; cases h
  · rintro rfl
    rw [Nat.beq_refl, Nat.beq_refl]
theorem eql_S : (cx .eql).f (S a) (S b) k = k (.bool (decide (a = b))) := by
  show k (.bool (sE (aL a) a.length (aL b) b.length)) = _
  rw [eq_S]
theorem neq_S : (cx .neq).f (S a) (S b) k = k (.bool (!decide (a = b))) := by
  show k (.bool (dv (sE (aL a) a.length (aL b) b.length))) = _
  rw [eq_S, fA]
theorem adB {j : Nat} (h : j < a.length) : bu 4 (Nat.mod (Nat.div (aL a) (Nat.pow 256 j)) 256) k = k (B8 (a[j]).toNat) := by
  rw [gy]
  show k (AV.int 4 (aL a / 256 ^ j % 256)) = _
  rw [pF a j h]; rfl
theorem a2H {i j : Nat} (h : i ≤ j) (hj : j ≤ a.length) : tM (Nat.mod (Nat.div (aL a) (Nat.pow 256 i)) (Nat.pow 256 (Nat.sub j i))) (Nat.sub j i) k = k (S ((a.take j).drop i)) := by
  unfold tM
  rw [az, az]
  show k (AV.str (aL a / 256 ^ i % 256 ^ (j - i)) (j - i)) = _
  rw [nJ, qI]
  unfold S
  rw [List.drop_take]
  congr 2
  rw [List.length_take, List.length_drop]; omega
theorem a4S {i : Int} (h0 : 0 ≤ i) (hi : i ≤ a.length) (hl : a.length < 9223372036854775808) : dj (S a) (.some (I i)) .none k = k (S (a.drop i.toNat)) := by
  show gY (I i) a.length (fun l => tM (Nat.mod (Nat.div (aL a) (Nat.pow 256 l)) (Nat.pow 256 (Nat.sub a.length l))) (Nat.sub a.length l) k) = _
  rw [a0k h0 hi hl, a2H (by omega) (Nat.le_refl _), List.take_length]
theorem a6A {j : Int} (h0 : 0 ≤ j) (hj : j ≤ a.length) (hl : a.length < 9223372036854775808) : dj (S a) .none (.some (I j)) k = k (S (a.take j.toNat)) := by
  show gY (I j) a.length (fun h => tM (Nat.mod (Nat.div (aL a) (Nat.pow 256 0)) (Nat.pow 256 (Nat.sub h 0))) (Nat.sub h 0) k) = _
  rw [a0k h0 hj hl, a2H (by omega) (by omega), List.drop_zero]
theorem a1m {i j : Int} (h0 : 0 ≤ i) (hi : i ≤ j) (hj : j ≤ a.length) (hl : a.length < 9223372036854775808) : dj (S a) (.some (I i)) (.some (I j)) k = k (S ((a.take j.toNat).drop i.toNat)) := by
  show gY (I j) a.length (fun h => gY (I i) h (fun l => tM (Nat.mod (Nat.div (aL a) (Nat.pow 256 l)) (Nat.pow 256 (Nat.sub h l))) (Nat.sub h l) k)) = _
  rw [a0k (by omega) hj hl, a0k h0 (by omega) (by omega), a2H (by omega) (by omega)]
end
section
variable {s : Sm} {n : Nat} {fr fr' : Fr} {hp hp' : Hp} {id : Nat}
theorem cY (h : s.run .lf fr hp = .ok fr' hp') : aD s (n + 1) fr hp = aD s n fr' hp' := by
  show tick s (aD s n) fr hp = _
  unfold tick; rw [h]
theorem cE (h : s.run .lf fr hp = .exit id fr' hp') : aD s (n + 1) fr hp = .exit id fr' hp' := by
  show tick s (aD s n) fr hp = _
  unfold tick; rw [h]
theorem eQ (h : s.run .lf fr hp = .ret fr' hp') : aD s (n + 1) fr hp = .ret fr' hp' := by
  show tick s (aD s n) fr hp = _
  unfold tick; rw [h]
end
def vz (n s : Nat) : List UInt8 := (tz n s).map Nat.toUInt8
theorem fQ (l : List UInt8) : vz l.length (aL l) = l := by
  unfold vz
  rw [oa]
  show (l.map (·.toNat)).map Nat.toUInt8 = l
  rw [List.map_map]
  conv => rhs; rw [← List.map_id l]
  exact List.map_congr_left fun b _ => by simp
noncomputable def a2z (q : Nat) (spec : List UInt8 → List UInt8 → AV) : bN := ⟨fun l hp => a1t l fun a r => a1t r fun b r => ac6 r (a.ea fun s n => b.ea fun t m => ar (Nat.ble n q) (ar (Nat.ble m q) (.val (spec (vz n s) (vz m t)) hp)))⟩
theorem xI {q : Nat} {spec : List UInt8 → List UInt8 → AV} {a b : List UInt8} (ha : a.length ≤ q) (hb : b.length ≤ q) (hp : Hp) : (a2z q spec).f (.nd (S a) .lf (.nd (S b) .lf .lf)) hp = .val (spec a b) hp := by
  show ar (Nat.ble a.length q) (ar (Nat.ble b.length q) (.val (spec (vz a.length (aL a)) (vz b.length (aL b))) hp)) = _
  rw [aB (by rw [bA]; exact ha), aB (by rw [bA]; exact hb), fQ, fQ]
section
variable {V : Env} {f : FuncId}
theorem xR {q : Nat} {spec : List UInt8 → List UInt8 → AV} (hcan : Can V.P f)
    (H : ∀ (s t : ByteArray) (w : World) (F : Nat → Prop) (μ : Mu), V.Glo w F → s.size ≤ q → t.size ≤ q → Calls V.P f #[.string s, .string t] w fun e w' => ∃ x, e = .returned x ∧ RowKit.Below w.heap.size w w' ∧ ao w' F μ (spec s.data.toList t.data.toList) x) : bn V f (a2z q spec) := by
  refine bn.known hcan fun l hp R h hR => ?_
  obtain ⟨a, _, r, rfl, h1⟩ := jt hR h
  obtain ⟨b, _, r, rfl, h2⟩ := jt hR h1
  obtain ⟨rfl, h3⟩ := rr hR h2
  obtain ⟨s, n, rfl, h4⟩ := dO hR h3
  obtain ⟨t, m, rfl, h5⟩ := dO hR h4
  obtain ⟨hn, h6⟩ := ax hR h5
  obtain ⟨hm, h7⟩ := ax hR h6
  rw [bA] at hn hm
  refine ⟨_, h7.symm, fun w F μ args hg ha => ?_⟩
  obtain ⟨x, y, rfl, hx, hy⟩ := a7c ha
  obtain ⟨b1, rfl, rfl, rfl⟩ := sd hx
  obtain ⟨b2, rfl, rfl, rfl⟩ := sd hy
  have e1 : vz b1.size (aL b1.data.toList) = b1.data.toList := fQ b1.data.toList
  have e2 : vz b2.size (aL b2.data.toList) = b2.data.toList := fQ b2.data.toList
  rw [e1, e2]
  exact H b1 b2 w F μ hg hn hm
theorem a39 {w : World} {F : Nat → Prop} {μ : Mu} (l : List UInt8) : ao w F μ (S l) (.string ⟨l.toArray⟩) := rR (b := ⟨l.toArray⟩) rfl rfl
theorem a7j {w : World} {F : Nat → Prop} {μ : Mu} {i : Int} (h : gD i) : ao w F μ (I i) (.int .i64 i) := by
  obtain ⟨h1, h2⟩ := h
  have := ao.int (w := w) (F := F) (μ := μ) (k := 3) (n := (i % 18446744073709551616).toNat) (by show (i % 18446744073709551616).toNat < 18446744073709551616; omega)
  have e : (kd 3).wrap (((i % 18446744073709551616).toNat : Nat) : Int) = i := by
    show IntKind.i64.wrap _ = i
    have e2 : (((i % 18446744073709551616).toNat : Nat) : Int) = i % 18446744073709551616 := by omega
    rw [e2]
    simp only [IntKind.wrap]
    first
      | omega
      | (simp [IntKind.bits, IntKind.signed]; omega)
  rw [e] at this
  exact this
noncomputable def acX : bN := a2z 4294967280 fun s p => .bB (.nd (S (Lib.trimPrefix s p)) .lf (.nd (.bool (Lib.hasPrefix s p)) .lf .lf)) 2
theorem acx (hcan : Can V.P f) (H : ∀ (s p : ByteArray) (w : World), Calls V.P f #[.string s, .string p] w fun e w' => e = .returned (.tuple #[.string ⟨(Lib.trimPrefix s.data.toList p.data.toList).toArray⟩, .bool (Lib.hasPrefix s.data.toList p.data.toList)]) ∧ w' = w) : bn V f acX :=
  xR hcan fun s t w F μ _ _ _ => (H s t w).mono fun e w' ⟨e1, e2⟩ => ⟨_, e1, by rw [e2]; exact .refl _ _, a4e (a39 _) (.bool _)⟩
noncomputable def cutF : bN := a2z 4294967280 fun s p => .bB (.nd (S (Lib.cut s p).1) .lf (.nd (S (Lib.cut s p).2.1) .lf (.nd (.bool (Lib.cut s p).2.2) .lf .lf))) 3
theorem a9h {w : World} {F : Nat → Prop} {μ : Mu} {a b c : AV} {x y z : Value} (ha : ao w F μ a x) (hb : ao w F μ b y) (hc : ao w F μ c z) : ao w F μ (.bB (.nd a .lf (.nd b .lf (.nd c .lf .lf))) 3) (.tuple #[x, y, z]) :=
  .bB (fun i => if i = 0 then x else if i = 1 then y else z) rfl (fun i hi => by
    have : i < 3 := hi
    rcases (by omega : i = 0 ∨ i = 1 ∨ i = 2) with rfl | rfl | rfl <;> rfl) fun i hi => by
    have : i < 3 := hi
    rcases (by omega : i = 0 ∨ i = 1 ∨ i = 2) with rfl | rfl | rfl
    · exact ha
    · exact hb
    · exact hc
theorem aen (hcan : Can V.P f) (H : ∀ (s t : ByteArray) (w : World) (F : Nat → Prop), V.Glo w F → s.size < 4294967281 → Calls V.P f #[.string s, .string t] w fun e w' => e = .returned (.tuple #[.string ⟨(Lib.cut s.data.toList t.data.toList).1.toArray⟩, .string ⟨(Lib.cut s.data.toList t.data.toList).2.1.toArray⟩, .bool (Lib.cut s.data.toList t.data.toList).2.2]) ∧ RowKit.Below w.heap.size w w') : bn V f cutF :=
  xR hcan fun s t w F μ hg hs _ => (H s t w F hg (by omega)).mono fun e w' ⟨e1, e2⟩ => ⟨_, e1, e2, a9h (a39 _) (a39 _) (.bool _)⟩
noncomputable def ac9 : bN := a2z 4294967280 fun s p => I (Lib.lastIndex s p)
theorem a4H (s sub : List UInt8) : ∀ k, -1 ≤ Lib.lastOcc s sub k ∧ Lib.lastOcc s sub k < k + 1 := by
  intro k
  rcases Lib.lastOcc_spec s sub k with ⟨h, _⟩ | ⟨i, h1, h2, _⟩
  · rw [h]; omega
  · rw [h2]; omega
theorem aac (hcan : Can V.P f) (H : ∀ (s t : ByteArray) (w : World), s.size < 4611686018427387904 → Calls V.P f #[.string s, .string t] w fun e w' => e = .returned (.int .i64 (Lib.lastIndex s.data.toList t.data.toList)) ∧ w' = w) : bn V f ac9 :=
  xR hcan fun s t w F μ _ hs _ => (H s t w (by omega)).mono fun e w' ⟨e1, e2⟩ => ⟨_, e1, by rw [e2]; exact .refl _ _, a7j (by
    have hl : s.data.toList.length ≤ 4294967280 := hs
    unfold gD Lib.lastIndex
    split
    · have := a4H s.data.toList t.data.toList (s.data.toList.length - t.data.toList.length + 1)
      omega
    · omega)⟩
end

noncomputable section
def AV.cs {ρ : Type} (y : AV) (i : Nat → Nat → ρ) (b : Bool → ρ) (s p : Nat → Nat → ρ) (m v : Nat → Nat → Nat → Nat → ρ) (vr : Row → ρ → ρ) (a t : Row → Nat → ρ) (x : Nat → Row → Nat → Nat → Nat → ρ) : ρ :=
  @AV.rec (fun _ => ρ) (fun _ => Unit) i b s p m (fun t o n z _ => vr t (v o n z 0)) (fun u n _ => a u n) (fun u n _ => t u n) (fun g u a b c _ => x g u a b c) () (fun _ _ _ _ _ _ => ()) y
end
theorem a8b {α : Type} (d : α) : ∀ (n : Nat) (t : Tr α) (i : Nat) (k : α → aa), i + 1 < 2 ^ n → (gk d n).f t i k = k (t.get d i)
  | 0, t, i, k, h => absurd h (by simp)
  | n + 1, .lf, i, k, h => by rw [qg]; rfl
  | n + 1, .nd v l r, 0, k, h => rfl
  | n + 1, .nd v l r, j + 1, k, h => by
    have e : (gk d (n + 1)).f (.nd v l r) (j + 1) k = (Nat.rec (motive := fun _ => aa) ((gk d n).f l (Nat.div j 2) k) (fun _ _ => (gk d n).f r (Nat.div j 2) k) (j % 2) : aa) := rfl
    have hlt : j / 2 + 1 < 2 ^ n := by have : 2 ^ (n + 1) = 2 * 2 ^ n := by rw [Nat.pow_succ, Nat.mul_comm]
                                       omega
    rw [e, jh]
    rcases vj j with hj | hj
    · rw [hj, if_pos rfl]; exact a8b d n l (j / 2) k hlt
    · rw [hj, if_neg (by decide)]; exact a8b d n r (j / 2) k hlt
theorem uq {α : Type} (d : α) : ∀ (n : Nat) (t : Tr α) (i : Nat) (x : α), i + 1 < 2 ^ n → ∃ t', jE d t i x t' ∧ ∀ k, (sk d n).f t i x k = k t'
  | 0, t, i, x, h => absurd h (by simp)
  | n + 1, .lf, 0, x, h => ⟨_, qE (fun j => by cases j <;> rfl), fun _ => rfl⟩
  | n + 1, .nd v l r, 0, x, h => ⟨_, fun j => by cases j <;> rfl, fun _ => rfl⟩
  | n + 1, .lf, j + 1, x, h => by
    have hlt : j / 2 + 1 < 2 ^ n := by have : 2 ^ (n + 1) = 2 * 2 ^ n := by rw [Nat.pow_succ, Nat.mul_comm]
                                       omega
    obtain ⟨t', h1, h2⟩ := uq d n .lf (j / 2) x hlt
    have e : ∀ k, (sk d (n + 1)).f .lf (j + 1) x k = (Nat.rec (motive := fun _ => aa) ((sk d n).f .lf (Nat.div j 2) x fun l => k (.nd d l .lf)) (fun _ _ => (sk d n).f .lf (Nat.div j 2) x fun r => k (.nd d .lf r)) (j % 2) : aa) := fun _ => rfl
    rcases vj j with hj | hj
    · exact ⟨_, qE (oS hj h1), fun k => by rw [e, hj]; exact h2 _⟩
    · exact ⟨_, qE (lN hj h1), fun k => by rw [e, hj]; exact h2 _⟩
  | n + 1, .nd v l r, j + 1, x, h => by
    have hlt : j / 2 + 1 < 2 ^ n := by have : 2 ^ (n + 1) = 2 * 2 ^ n := by rw [Nat.pow_succ, Nat.mul_comm]
                                       omega
    have e : ∀ k, (sk d (n + 1)).f (.nd v l r) (j + 1) x k = (Nat.rec (motive := fun _ => aa) ((sk d n).f l (Nat.div j 2) x fun l' => k (.nd v l' r)) (fun _ _ => (sk d n).f r (Nat.div j 2) x fun r' => k (.nd v l r')) (j % 2) : aa) := fun _ => rfl
    rcases vj j with hj | hj
    · obtain ⟨t', h1, h2⟩ := uq d n l (j / 2) x hlt
      exact ⟨_, oS hj h1, fun k => by rw [e, hj]; exact h2 _⟩
    · obtain ⟨t', h1, h2⟩ := uq d n r (j / 2) x hlt
      exact ⟨_, lN hj h1, fun k => by rw [e, hj]; exact h2 _⟩
theorem agE {t : Row} {i : Nat} (h : i < 16777215) (k : AV → aa) : mem.rg.f t i k = k (t.at i) := (a8b (α := AV) .uu 24 t i k (by omega) :)
theorem rs_in {t : Row} {i : Nat} (x : AV) (h : i < 16777215) : ∃ t', jE .uu t i x t' ∧ ∀ k, mem.rs.f t i x k = k t' := uq (α := AV) .uu 24 t i x (by omega)
theorem agB {t : Tr bX} {i : Nat} (h : i < 16777215) (k : bX → aa) : mem.hg.f t i k = k (t.get .dead i) := (a8b (α := bX) .dead 24 t i k (by omega) :)
theorem hs_in {t : Tr bX} {i : Nat} (x : bX) (h : i < 16777215) : ∃ t', jE .dead t i x t' ∧ ∀ k, mem.hs.f t i x k = k t' := uq (α := bX) .dead 24 t i x (by omega)
structure a3r (M : Mem) : Prop where
  rg : ∀ {t : Row} {i : Nat}, i < 16777215 → ∀ k, M.rg.f t i k = k (t.at i)
  rs : ∀ {t : Row} {i : Nat} (x : AV), i < 16777215 → ∃ t', jE .uu t i x t' ∧ ∀ k, M.rs.f t i x k = k t'
  hg : ∀ {t : Tr bX} {i : Nat}, i < 16777215 → ∀ k, M.hg.f t i k = k (t.get .dead i)
  hs : ∀ {t : Tr bX} {i : Nat} (x : bX), i < 16777215 → ∃ t', jE .dead t i x t' ∧ ∀ k, M.hs.f t i x k = k t'
  h0 : ∀ (B B' : bX) (k : Tr bX → aa), M.hs.f (.nd B .lf .lf) 0 B' k = k (.nd B' .lf .lf)
  n0 : ∀ (B : bX) (k : Tr bX → aa), M.hs.f .lf 0 B k = k (.nd B .lf .lf)
theorem ahV (B B' : bX) (k : Tr bX → aa) : mem.hs.f (.nd B .lf .lf) 0 B' k = k (.nd B' .lf .lf) := by kernel_rfl
theorem ahd (B : bX) (k : Tr bX → aa) : mem.hs.f .lf 0 B k = k (.nd B .lf .lf) := by kernel_rfl
theorem tF : a3r mem := ⟨agE, rs_in, agB, hs_in, ahV, ahd⟩
def H1 (B : bX) : Hp := ⟨.nd B .lf .lf, 1, [], 0⟩
section
variable {M : Mem} (ok : a3r M)
include ok
theorem a6l (B : bX) (k : bX → aa) : (H1 B).get M 0 k = k B := by
  show M.hg.f (.nd B .lf .lf) 0 k = _
  rw [ok.hg (by decide)]; rfl
theorem ahJ (B B' : bX) (k : Hp → aa) : (H1 B).put M 0 B' k = k (H1 B') := by
  show M.hs.f (.nd B .lf .lf) 0 B' (fun t' => k ⟨t', 1, [], 0⟩) = _
  rw [ok.h0]; rfl
theorem aju (B : bX) (k : Nat → Hp → aa) : (aY M).f .empty B k = k 0 (H1 B) := by
  show aG 0 (fun nx => M.hs.f .lf nx B fun t' => k nx ⟨t', Nat.succ nx, [], 0⟩) = _
  rw [az, ok.n0]; rfl
end
section
variable {M : Mem} {h : Hp} {b m : Nat}
theorem a0M {rw' fl : Bool} {z s : Nat} {t : Row} (hg : ∀ k, h.get M b k = k (.row rw' fl z s t)) (hm : m ≤ s) (k : Bool → Bool → Nat → Nat → Row → aa) : h.use M b m k = k rw' fl z s t := by
  unfold Hp.use
  rw [hg]
  exact aB (by rw [bA]; exact hm) _
theorem ab6 {fl : Bool} {z s : Nat} {t : Row} (hg : ∀ k, h.get M b k = k (.row true fl z s t)) (hm : m ≤ s) (hp : h.pr = []) (k : Bool → Nat → Nat → Row → aa) : h.own M b m k = k fl z s t := by
  unfold Hp.own
  rw [a0M hg hm]
  obtain ⟨tt, nx, pr, rb⟩ := h
  have hp' : pr = [] := hp
  subst hp'
  rfl
theorem aaI {fl : Bool} {s : Nat} {t : Row} {o i c : Nat} (hg : ∀ k, h.get M b k = k (.row true fl 1 s t)) (hm : o + 1 ≤ s) (hp : h.pr = []) (k : Hp → aa) : aH M 1 (.ptr b o) (.int i c) h k = M.rs.f t o (.int i c) fun t => h.put M b (.row true (bp fl true) 1 s t) k := by
  show h.own M b (Nat.add o 1) (fun fl z s t => wrV M 1 z t o (.int i c) fun t f => h.put M b (.row true (bp fl f) z s t) k) = _
  rw [ab6 hg hm hp]
  rfl
theorem a99 (n : Nat) (t : Row) (o : Nat) (k : Nat → aa) : (pack M (n + 1)).f t o k = M.rg.f t o fun v => v.bV fun i x => ar (Nat.beq i 4) ((pack M n).f t (Nat.succ o) fun r => aG (Nat.add x (Nat.mul 256 r)) k) := rfl
theorem a5y {rw' fl : Bool} {s : Nat} {t : Row} {o n : Nat} (hg : ∀ k, h.get M b k = k (.row rw' fl 1 s t)) (hm : o + n ≤ s) (k : Row → Nat → Nat → Bool → aa) : my M 1 (.ms b o n 1) h k = k t o n fl := by
  show ar (Nat.beq 1 1) (h.use M b (Nat.add o (Nat.mul n 1)) fun _ fl x _ t => ar (Nat.beq x 1) (ar (Nat.beq (Nat.mod o 1) 0) (aG (Nat.div o 1) fun e => k t e n fl))) = _
  rw [aB (b := Nat.beq 1 1) rfl, a0M hg (by show o + n * 1 ≤ s; omega)]
  show ar (Nat.beq 1 1) (ar (Nat.beq (o % 1) 0) (aG (o / 1) fun e => k t e n fl)) = _
  rw [aB (b := Nat.beq 1 1) rfl, aB (by rw [aF]; omega), az, Nat.div_one]
end
section
variable {M : Mem} (ok : a3r M)
include ok
theorem adK {fl : Bool} {s : Nat} {t : Row} {o : Nat} {c : Nat} (ho : o < s) (hs : s < 16777215) : ∃ t', jE .uu t o (B8 c) t' ∧ ∀ k, aH M 1 (.ptr 0 o) (B8 c) (H1 (.row true fl 1 s t)) k = k (H1 (.row true (bp fl true) 1 s t')) := by
  obtain ⟨t', h1, h2⟩ := ok.rs (t := t) (i := o) (B8 c) (by omega)
  refine ⟨t', h1, fun k => ?_⟩
  exact (aaI (M := M) (i := 4) (c := c) (o := o) (a6l ok (.row true fl 1 s t)) ho rfl k).trans ((h2 _).trans (ahJ ok _ _ _))
theorem a8A (b : List UInt8) : ∀ {t : Row} {o : Nat}, o + b.length < 16777215 → (∀ j (h : j < b.length), t.at (o + j) = B8 (b[j]).toNat) → ∀ k, (pack M b.length).f t o k = k (aL b) := by
  induction b with
  | nil => exact fun _ _ k => rfl
  | cons c b ih =>
    intro t o hl h k
    simp only [List.length_cons] at hl
    have h0 := h 0 (by simp)
    rw [Nat.add_zero] at h0
    rw [List.length_cons, a99, ok.rg (by omega), h0]
    have e : ∀ f : Nat → Nat → aa, AV.bV (B8 ((c :: b)[0]).toNat) f = f 4 c.toNat := fun _ => rfl
    rw [e, aB (b := Nat.beq 4 4) rfl, ih (by omega) (fun j hj => by
      have := h (j + 1) (by simp; omega)
      rw [show Nat.succ o + j = o + (j + 1) by omega, this]; rfl), az]
    rfl
end
section
variable {M : Mem} (ok : a3r M)
include ok
theorem a8c : ∀ (n : Nat) (l t : Row) (o : Nat), n ≤ len l → o + n < 16777215 → ∃ t', ∀ k, (nW M 1 n).f l t o k = k t'
  | 0, l, t, o, _, _ => ⟨t, fun _ => rfl⟩
  | n + 1, .lf, t, o, h, _ => absurd h (Nat.not_succ_le_zero n)
  | n + 1, .nd v a r, t, o, h, ho => by
    obtain ⟨t1, _, h1⟩ := ok.rs (t := t) (i := o) v (by omega)
    obtain ⟨t2, h2⟩ := a8c n r t1 (o + 1) (Nat.le_of_succ_le_succ h) (by omega)
    refine ⟨t2, fun k => ?_⟩
    show wrC M 1 t o v (fun t => (nW M 1 n).f r t (Nat.succ o) k) = _
    show M.rs.f t o v (fun t => (nW M 1 n).f r t (Nat.succ o) k) = _
    rw [h1]
    exact h2 k
theorem ajh {z : Nat} {l : Row} (hz : 2 ≤ z) (hz2 : z < 16777215) (hl : len l = z) (hp : ∀ k, eM l k = k true) (_ : True = True) : ∃ t, ∀ k, cF M (aY M) (.agg l z) 1 z .empty k = k (.ptr 0 0) (H1 (.row true true 1 z t)) := by
  obtain ⟨t, h⟩ := a8c ok z l .lf 0 (by omega) (by omega)
  refine ⟨t, fun k => ?_⟩
  show when (Nat.beq z 1) _ (ar (Nat.beq z z) (eM l fun p => when (Nat.beq 1 z) _ (when (Nat.beq 1 1) ((nW M 1 z).f l .lf 0 fun t => (aY M).f .empty (.row true p 1 z t) fun id hp => k (.ptr id 0) hp) _))) = _
  have e1 : Nat.beq z 1 = false := by
    cases hb : Nat.beq z 1 with
    | false => rfl
    | true => rw [aF] at hb; omega
  have e2 : Nat.beq 1 z = false := by
    cases hb : Nat.beq 1 z with
    | false => rfl
    | true => rw [aF] at hb; omega
  rw [e1, a1g, aB (Nat.beq_refl z), hp, e2, a1g]
  show (nW M 1 z).f l .lf 0 (fun t => (aY M).f .empty (.row true true 1 z t) fun id hp => k (.ptr id 0) hp) = _
  rw [h, aju ok]
end
def Still (v : AV) : Prop := (∀ hp k, (pN mem 24).f hp v k = k v hp) ∧ ∀ hc hp b k, (imp mem 24).f v hc hp b k = k v hc hp b
theorem ja (i n : Nat) : Still (.int i n) := ⟨fun _ _ => rfl, fun _ _ _ _ => rfl⟩
theorem fD (z : Int) : Still (I z) := ja 3 _
theorem ll (n : Nat) : Still (U n) := ja 7 n
theorem n9 (n : Nat) : Still (B8 n) := ja 4 n
theorem aV (l : List UInt8) : Still (S l) := ⟨fun _ _ => rfl, fun _ _ _ _ => rfl⟩
theorem qL (b : Bool) : Still (.bool b) := ⟨fun _ _ => rfl, fun _ _ _ _ => rfl⟩
inductive kK : Row → Prop
  | lf : kK .lf
  | nd {v : AV} {r : Row} (h : Still v) (hr : kK r) : kK (.nd v .lf r)
theorem dA {l : Row} (h : kK l) : ∀ hp k, zl (pN mem 24) l hp k = k l hp := by
  induction h with
  | lf => exact fun _ _ => rfl
  | @nd v r hv _ ih =>
    intro hp k
    show (pN mem 24).f hp v (fun v hp => zl (pN mem 24) r hp fun r hp => k (.nd v .lf r) hp) = _
    rw [hv.1]
    exact ih _ _
def yx (v : AV) : Prop := ∀ hc hp b k, (imp mem 24).f v hc hp b k = k v hc hp b
theorem Still.goes {v : AV} (h : Still v) : yx v := h.2
theorem a0A {F : bN} {l : Row} {v : AV} {hc : Hp} (hl : kK l) (hv : yx v) (e : F.f l .empty = .val v hc) (hp : Hp) (k : AV → Hp → aa) : au mem false F l hp k = k v hp := by
  show fh mem hp l (fun a ho => eX mem F a hp ho k) (fe F l hp k) = _
  unfold fh
  rw [dA hl]
  show eX mem F l hp hp k = _
  unfold eX
  rw [e]
  show (imp mem 24).f v hc hp false (fun v' _ hp' b => when b _ (k v' hp')) = _
  rw [hv]
  rfl
theorem xO {M H M' n : Nat} (h : Nat.sub big M = 0) : rF M H M' n = n % M' := by
  cases H with
  | zero => rfl
  | succ H =>
    show (Bool.rec (motive := fun _ => Nat) (Nat.mod n M') (Nat.mod (Nat.add n (Nat.sub big M)) M') (Nat.ble (H + 1) n)) = _
    rw [h]
    cases Nat.ble (H + 1) n <;> rfl
theorem qZ {z : Int} {k : AV → aa} : AV.bV (I z) (fun i n => bu 7 (rF (md i) (hf i) 18446744073709551616 n) k) = k (U (z % 18446744073709551616).toNat) := by
  rw [a7d, xO (by rfl), gy]
  show k (AV.int 7 _) = k (AV.int 7 _)
  congr 2; omega
theorem aeq {n : Nat} {k : AV → aa} : AV.bV (U n) (fun i n => bu 3 (rF (md i) (hf i) 18446744073709551616 n) k) = k (I (n : Int)) := by
  rw [a6W, xO (by rfl), gy]
  show k (AV.int 3 _) = k (AV.int 3 _)
  congr 2
theorem a6R {i n M : Nat} {k : AV → aa} (h : md i = M) : AV.bV (.int i n) (fun i n => bu i (Nat.mod (Nat.sub (md i) n) (md i)) k) = k (.int i ((M - n) % M)) := by
  show bu i (Nat.mod (Nat.sub (md i) n) (md i)) k = _
  rw [h, gy]; rfl
theorem agp {n : Nat} {k : AV → aa} : AV.bV (U n) (fun i n => bu i (Nat.mod (Nat.sub (md i) n) (md i)) k) = k (U ((18446744073709551616 - n) % 18446744073709551616)) := by
  unfold U
  rw [a6R (M := 18446744073709551616) rfl]
theorem agA {z : Int} {k : AV → aa} : AV.bV (I z) (fun i n => bu i (Nat.mod (Nat.sub (md i) n) (md i)) k) = k (I (-z)) := by
  unfold I
  rw [a6R (M := 18446744073709551616) rfl]
  congr 2; omega
theorem a3c (n : Nat) (hp : Hp) (f : Hp → aa) : eY n hp f = f ⟨hp.t, hp.nx + n, hp.pr, hp.nx⟩ := by
  obtain ⟨t, nx, pr, rb⟩ := hp
  show aG nx (fun nx => aG (nx + n) fun m => f ⟨t, m, pr, nx⟩) = _
  rw [az, az]
theorem acM {a n : Nat} {k : Nat → aa} (h : a ≤ n) : gY (U a) n k = k a := by
  show ar (Nat.ble a n) (nD 7 a (k a)) = _
  rw [aB (by rw [bA]; exact h)]
  rfl
theorem a6f {a : List UInt8} {i j : Nat} {k : AV → aa} (h : i ≤ j) (hj : j ≤ a.length) : dj (S a) (.some (U i)) (.some (U j)) k = k (S ((a.take j).drop i)) := by
  show gY (U j) a.length (fun h => gY (U i) h (fun l => tM (Nat.mod (Nat.div (aL a) (Nat.pow 256 l)) (Nat.pow 256 (Nat.sub h l))) (Nat.sub h l) k)) = _
  rw [acM hj, acM h, a2H h hj]
theorem acE {F : bN} {a v : AV} (ha : Still a) (hv : yx v) (e : ∃ hc, F.f (.nd a .lf .lf) .empty = .val v hc) (hp : Hp) (k : AV → Hp → aa) : au mem false F (.nd a .lf .lf) hp k = k v hp := by
  obtain ⟨hc, e⟩ := e
  exact a0A (.nd ha .lf) hv e hp k
theorem call2 {F : bN} {a b v : AV} (ha : Still a) (hb : Still b) (hv : yx v) (e : ∃ hc, F.f (.nd a .lf (.nd b .lf .lf)) .empty = .val v hc) (hp : Hp) (k : AV → Hp → aa) : au mem false F (.nd a .lf (.nd b .lf .lf)) hp k = k v hp := by
  obtain ⟨hc, e⟩ := e
  exact a0A (.nd ha (.nd hb .lf)) hv e hp k
end Go.Proofs.YtbamejikafhenaaDoor.Ev
