import Derived.Test.YtbamejikafhenaaDoorProg
import Derived.Test.YtbamejikafhenaaDoorEvAM
import Derived.KernelRfl
namespace Go.Proofs.YtbamejikafhenaaDoor.Ev
noncomputable section
open Classical in
def dB {α : Type} (d : α) (t : Tr α) (i : Nat) (x : α) : Tr α := if h : i + 1 < 2 ^ 24 then (uq d 24 t i x h).choose else t
def Hp.dS (h : Hp) (b : Nat) (B : bX) : Hp := ⟨dB .dead h.t b B, h.nx, h.pr, h.rb⟩
def Hp.add (h : Hp) (B : bX) : Hp := ⟨dB .dead h.t h.nx B, h.nx + 1, h.pr, h.rb⟩
def Hp.u5 (h : Hp) (n : Nat) : Hp := ⟨h.t, h.nx + n, h.pr, h.nx⟩
end
theorem su {α : Type} {d : α} {t : Tr α} {i : Nat} {x : α} (h : i < 16777215) (j : Nat) : (dB d t i x).get d j = if j = i then x else t.get d j := by
  unfold dB
  rw [dif_pos (by omega)]
  exact (uq d 24 t i x (by omega)).choose_spec.1 j
theorem ke {α : Type} {d : α} {t : Tr α} {i : Nat} {x : α} (h : i < 16777215) (k : Tr α → aa) : (sk d 24).f t i x k = k (dB d t i x) := by
  unfold dB
  rw [dif_pos (by omega)]
  exact (uq d 24 t i x (by omega)).choose_spec.2 k
structure oK (M : Mem) : Prop where
  rg : ∀ {t : Row} {i : Nat}, i < 16777215 → ∀ k, M.rg.f t i k = k (t.at i)
  rs : ∀ {t : Row} {i : Nat} {x : AV}, i < 16777215 → ∀ k, M.rs.f t i x k = k (dB .uu t i x)
  hg : ∀ {t : Tr bX} {i : Nat}, i < 16777215 → ∀ k, M.hg.f t i k = k (t.get .dead i)
  hs : ∀ {t : Tr bX} {i : Nat} {x : bX}, i < 16777215 → ∀ k, M.hs.f t i x k = k (dB .dead t i x)
theorem rs_t {t : Row} {i : Nat} {x : AV} (h : i < 16777215) (k : Row → aa) : mem.rs.f t i x k = k (dB .uu t i x) := (ke (α := AV) (d := .uu) h k :)
theorem hs_t {t : Tr bX} {i : Nat} {x : bX} (h : i < 16777215) (k : Tr bX → aa) : mem.hs.f t i x k = k (dB .dead t i x) := (ke (α := bX) (d := .dead) h k :)
theorem dD : oK mem := ⟨agE, rs_t, agB, hs_t⟩
theorem vJ {t : Row} {i : Nat} {x : AV} (h : i < 16777215) (j : Nat) : (dB .uu t i x : Row).at j = if j = i then x else t.at j := su h j
section
variable {h : Hp} {b c : Nat} {B : bX}
theorem br (hb : b < 16777215) : (h.dS b B).at c = if c = b then B else h.at c := su hb c
theorem bx (hb : h.nx < 16777215) : (h.add B).at c = if c = h.nx then B else h.at c := su hb c
theorem cB (hb : b < 16777215) : (h.dS b B).at b = B := by rw [br hb, if_pos rfl]
theorem cL (hb : b < 16777215) (hc : c ≠ b) : (h.dS b B).at c = h.at c := by rw [br hb, if_neg hc]
theorem add_same (hb : h.nx < 16777215) : (h.add B).at h.nx = B := by rw [bx hb, if_pos rfl]
theorem cV (hb : h.nx < 16777215) (hc : c = h.nx) : (h.add B).at c = B := by rw [bx hb, if_pos hc]
theorem bZ (hb : h.nx < 16777215) (hc : c ≠ h.nx) : (h.add B).at c = h.at c := by rw [bx hb, if_neg hc]
theorem eu : (h.dS b B).nx = h.nx := rfl
theorem cZ : (h.add B).nx = h.nx + 1 := rfl
theorem a14 : (h.dS b B).pr = h.pr := rfl
theorem a1E : (h.add B).pr = h.pr := rfl
theorem a6p : (h.dS b B).rb = h.rb := rfl
theorem abV : (h.add B).rb = h.rb := rfl
theorem mZ {n : Nat} : (h.u5 n).at c = h.at c := rfl
theorem te {n : Nat} : (h.u5 n).nx = h.nx + n := rfl
theorem ad0 {n : Nat} : (h.u5 n).pr = h.pr := rfl
theorem a6i {n : Nat} : (h.u5 n).rb = h.nx := rfl
theorem a8S : Hp.empty.nx = 0 := rfl
theorem pr_e : Hp.empty.pr = [] := rfl
theorem a8X (n : Nat) (f : Hp → aa) : eY n h f = f (h.u5 n) := a3c n h f
end
def aw : List AV → Row
  | [] => .lf
  | a :: l => .nd a .lf (aw l)
def Bx (p : Bool) (l : List AV) : bX := .row true p l.length l.length (.nd (.agg (aw l) l.length) .lf .lf)
noncomputable def AV.pl (v : AV) : Bool := match v with
  | .int .. | .bool .. | .str .. => true
  | .x g .. => jP g
  | _ => false
noncomputable def iH (l : List AV) : Bool := l.all AV.pl
def One (v : AV) : Prop := match v with
  | .agg .. | .bB .. => False
  | .x g .. => 1 ≤ g
  | _ => True
theorem ado (v : AV) (k : Bool → aa) : v.plain k = k v.pl := by
  cases v with
  | x g t a b c => show iU (jP g) k = k (jP g); cases jP g <;> rfl
  | _ => rfl
theorem fW (l : List AV) (k : Bool → aa) : eM (aw l) k = k (iH l) := by
  induction l generalizing k with
  | nil => rfl
  | cons a l ih =>
    show a.plain (fun b => when b (eM (aw l) k) (k false)) = _
    rw [ado, ih]
    show when a.pl _ _ = k (a.pl && iH l)
    cases a.pl <;> rfl
theorem gU {v : AV} (h : One v) (k : AV → Bool → aa) : lP v k = k v v.pl := by
  cases v with
  | x g t a b c =>
    have hg : 1 ≤ g := h
    show ar (Nat.ble 1 g) (iU (jP g) fun f => k _ f) = k _ (jP g)
    rw [aB (by rw [bA]; exact hg)]
    cases jP g <;> rfl
  | agg _ _ => exact absurd h (fun x => x)
  | bB _ _ => exact absurd h (fun x => x)
  | _ => rfl
theorem zO {l : List AV} {i : Nat} (h : i < l.length) (k : AV → aa) : (yD i).f (aw l) k = k l[i] := by
  induction l generalizing i with
  | nil => exact absurd h (Nat.not_lt_zero _)
  | cons a l ih =>
    cases i with
    | zero => rfl
    | succ i => exact ih (Nat.lt_of_succ_lt_succ h)
theorem a8W {l : List AV} {i : Nat} (h : i < l.length) (v : AV) (k : Row → aa) : (yY i).f (aw l) v k = k (aw (l.set i v)) := by
  induction l generalizing i k with
  | nil => exact absurd h (Nat.not_lt_zero _)
  | cons a l ih =>
    cases i with
    | zero => rfl
    | succ i =>
      show (yY i).f (aw l) v (fun r => k (.nd a .lf r)) = _
      rw [ih (Nat.lt_of_succ_lt_succ h)]
      rfl
theorem cu (n : Nat) : Nat.beq n n = true := Nat.beq_refl n
theorem jb {a b : Nat} (h : a ≠ b) : Nat.beq a b = false := by
  cases hb : Nat.beq a b with
  | false => rfl
  | true => rw [aF] at hb; exact absurd hb h
theorem dY {a b : Nat} (h : a ≤ b) : Nat.ble a b = true := by rw [bA]; exact h
theorem fB {b : Bool} (h : b = false) (x y : aa) : when b x y = y := by rw [h]; rfl
theorem cQ {b : Bool} (h : b = true) (x y : aa) : when b x y = x := by rw [h]; rfl
section
variable {M : Mem} (ok : oK M)
include ok
theorem get_at {h : Hp} {b : Nat} (hb : b < 16777215) (k : bX → aa) : h.get M b k = k (h.at b) := ok.hg hb k
theorem gJ {h : Hp} {b : Nat} (hb : b < 16777215) (B : bX) (k : Hp → aa) : h.put M b B k = k (h.dS b B) := ok.hs hb _
theorem je {h : Hp} (hb : h.nx < 16777215) (B : bX) (k : Nat → Hp → aa) : (aY M).f h B k = k h.nx (h.add B) := by
  show aG h.nx (fun nx => M.hs.f h.t nx B fun t' => k nx ⟨t', nx + 1, h.pr, h.rb⟩) = _
  rw [az, ok.hs hb]; rfl
theorem sm {h : Hp} {i : Nat} (hb : h.rb + i < 16777215) (B : bX) (k : Nat → Hp → aa) : (jR M i).f h B k = k (h.rb + i) (h.dS (h.rb + i) B) := by
  show aG (h.rb + i) (fun id => M.hs.f h.t id B fun t' => k id ⟨t', h.nx, h.pr, h.rb⟩) = _
  rw [az, ok.hs hb]; rfl
theorem yd {h : Hp} {b m : Nat} {rw' fl : Bool} {z s : Nat} {t : Row} (hb : b < 16777215) (hat : h.at b = .row rw' fl z s t) (hm : m ≤ s) (k : Bool → Bool → Nat → Nat → Row → aa) : h.use M b m k = k rw' fl z s t :=
  a0M (fun k => by rw [get_at ok hb, hat]) hm k
theorem acp {h : Hp} {b m : Nat} {fl : Bool} {z s : Nat} {t : Row} (hb : b < 16777215) (hat : h.at b = .row true fl z s t) (hm : m ≤ s) (hp : h.pr = []) (k : Bool → Nat → Nat → Row → aa) : h.own M b m k = k fl z s t :=
  ab6 (fun k => by rw [get_at ok hb, hat]) hm hp k
theorem ld_f {h : Hp} {b o : Nat} {p : Bool} {l : List AV} (hb : b < 16777215) (hat : h.at b = Bx p l) (ho : o < l.length) (h2 : 2 ≤ l.length) (k : AV → aa) : aq M false 1 (.ptr b o) h k = k l[o] := by
  show h.use M b (o + 1) (fun _ _ z _ t => rdV M false 1 z t o k) = _
  rw [yd ok hb hat (by omega)]
  show ar (Nat.beq 1 1) (when (Nat.beq l.length 1) _ (M.rg.f _ (o / l.length) fun v => v.jq fun l' n => (yD (o % l.length)).f l' k)) = _
  rw [aB (cu 1), fB (jb (by omega)), Nat.div_eq_of_lt ho, ok.rg (by decide), Nat.mod_eq_of_lt ho]
  exact zO ho k
theorem aiQ {h : Hp} {b n : Nat} {p : Bool} {l : List AV} (hb : b < 16777215) (hat : h.at b = Bx p l) (hn : n = l.length) (h2 : 2 ≤ l.length) (k : AV → aa) : aq M true n (.ptr b 0) h k = k (.agg (aw l) n) := by
  subst hn
  show h.use M b (0 + l.length) (fun _ _ z _ t => rdV M true l.length z t 0 k) = _
  rw [yd ok hb hat (by omega)]
  show when (Nat.beq l.length 1) _ (when (bp (Nat.beq l.length l.length) (Nat.beq (0 % l.length) 0)) (M.rg.f _ (0 / l.length) fun v => v.jq fun l' n => ar (Nat.beq n l.length) (k (.agg l' n))) _) = _
  rw [fB (jb (by omega)), Nat.zero_mod, cu, cQ (show bp true (Nat.beq 0 0) = true from rfl), Nat.zero_div, ok.rg (by decide)]
  show ar (Nat.beq l.length l.length) (k (.agg (aw l) l.length)) = _
  rw [cu]; rfl
theorem box_s {h : Hp} {n : Nat} {l : List AV} (hn : n = l.length) (h2 : 2 ≤ l.length) (hb : h.nx < 16777215) (k : AV → Hp → aa) : cF M (aY M) (.agg (aw l) n) n n h k = k (.ptr h.nx 0) (h.add (Bx (iH l) l)) := by
  subst hn
  show when (Nat.beq l.length 1) _ (ar (Nat.beq l.length l.length) (eM (aw l) fun p => when (Nat.beq l.length l.length) ((aY M).f h (.row true p l.length l.length (.nd (.agg (aw l) l.length) .lf .lf)) fun id hp => k (.ptr id 0) hp) _)) = _
  rw [fB (jb (by omega)), aB (cu _), fW, cu, cQ rfl, je ok hb]
  rfl
end
theorem fa (o f b : Nat) (k : AV → aa) : fieldAddr f (.ptr b o) k = k (.ptr b (o + f)) := by
  show aG (o + f) (fun p => k (.ptr b p)) = _
  rw [az]
theorem ext0 {a : AV} {r : Row} {n : Nat} {k : AV → aa} : bg 0 (.bB (.nd a .lf r) n) k = k a := rfl
theorem ext1 {a b : AV} {r : Row} {n : Nat} {k : AV → aa} : bg 1 (.bB (.nd a .lf (.nd b .lf r)) n) k = k b := rfl
theorem ext2 {a b c : AV} {r : Row} {n : Nat} {k : AV → aa} : bg 2 (.bB (.nd a .lf (.nd b .lf (.nd c .lf r))) n) k = k c := rfl
theorem a1R (A B : (AV → aa) → aa) (k : AV → aa) : aI (.bool true) A B k = A k := rfl
theorem a1z (A B : (AV → aa) → aa) (k : AV → aa) : aI (.bool false) A B k = B k := rfl
end Go.Proofs.YtbamejikafhenaaDoor.Ev
namespace Go.Proofs.YtbamejikafhenaaDoor.Ev
noncomputable def ldC (M : Mem) (B : bX) (o : Nat) (k : AV → aa) : aa := B.lO fun _ _ z s t => ar (Nat.ble (o + 1) s) (rdV M false 1 z t o k)
noncomputable def ldA (M : Mem) (n : Nat) (B : bX) (o : Nat) (k : AV → aa) : aa := B.lO fun _ _ z s t => ar (Nat.ble (o + n) s) (rdV M true n z t o k)
noncomputable def stC (M : Mem) (sz : Nat) (B : bX) (h : Hp) (b o : Nat) (v : AV) (k : Hp → aa) : aa := B.lO fun rw fl z s t => ar (Nat.ble (o + sz) s) (ar rw (wrV M sz z t o v fun t f => h.put M b (.row true (bp fl f) z s t) k))
section
variable {M : Mem} (ok : oK M) {h : Hp} {b o : Nat} {p : Bool} {l l' : List AV} {v : AV}
include ok
theorem a8n (hb : b < 16777215) (k : AV → aa) : aq M false 1 (.ptr b o) h k = ldC M (h.at b) o k := by
  show (h.get M b fun B => B.lO fun rw fl z s t => ar (Nat.ble (o + 1) s) (rdV M false 1 z t o k)) = _
  rw [get_at ok hb]; rfl
theorem a6M (hb : b < 16777215) (n : Nat) (k : AV → aa) : aq M true n (.ptr b o) h k = ldA M n (h.at b) o k := by
  show (h.get M b fun B => B.lO fun rw fl z s t => ar (Nat.ble (o + n) s) (rdV M true n z t o k)) = _
  rw [get_at ok hb]; rfl
theorem abw (ho : o < l.length) (h2 : 2 ≤ l.length) (k : AV → aa) : ldC M (Bx p l) o k = k (l.getD o .uu) := by
  have hat : (Hp.mk (.nd (Bx p l) .lf .lf) 1 [] 0).at 0 = Bx p l := rfl
  have e1 := a8n ok (h := Hp.mk (.nd (Bx p l) .lf .lf) 1 [] 0) (b := 0) (o := o) (by decide) k
  rw [hat, ld_f ok (by decide) hat ho h2] at e1
  rw [← e1]; congr 1; simp [List.getD, ho]
theorem aaw {n : Nat} (hn : n = l.length) (h2 : 2 ≤ l.length) (k : AV → aa) : ldA M n (Bx p l) 0 k = k (.agg (aw l) n) := by
  have hat : (Hp.mk (.nd (Bx p l) .lf .lf) 1 [] 0).at 0 = Bx p l := rfl
  have e1 := a6M ok (h := Hp.mk (.nd (Bx p l) .lf .lf) 1 [] 0) (b := 0) (o := 0) (by decide) n k
  rw [hat, aiQ ok (by decide) hat hn h2] at e1
  exact e1.symm
theorem abM (hb : b < 16777215) (hp : h.pr = []) (k : Hp → aa) (sz : Nat) : aH M sz (.ptr b o) v h k = stC M sz (h.at b) h b o v k := by
  obtain ⟨t, nx, pr, rb⟩ := h
  have hp' : pr = [] := hp
  subst hp'
  show (Hp.get M ⟨t, nx, [], rb⟩ b fun B => B.lO fun rw fl z s t' => ar (Nat.ble (o + sz) s) (ar rw (wrV M sz z t' o v fun t' f => Hp.put M ⟨t, nx, [], rb⟩ b (.row true (bp fl f) z s t') k))) = _
  rw [get_at ok hb]; rfl
theorem acA (hb : b < 16777215) (ho : o < l.length) (h2 : 2 ≤ l.length) (hv : One v) (k : Hp → aa) : stC M 1 (Bx p l) h b o v k = k (h.dS b (Bx (bp p v.pl) (l.set o v))) := by
  have hat : (Hp.mk (dB .dead h.t b (Bx p l)) h.nx [] h.rb).at b = Bx p l := by
    show (dB .dead h.t b (Bx p l)).get .dead b = _
    rw [su hb, if_pos rfl]
  show ar (Nat.ble (o + 1) l.length) (ar true (lP v (fun c p' => wrC M l.length _ o c fun t => h.put M b (.row true (bp p p') l.length l.length t) k))) = _
  rw [aB (dY (by omega)), aB rfl, gU hv]
  show when (Nat.beq l.length 1) _ (M.rg.f _ (o / l.length) fun w => w.jq fun l' n => (yY (o % l.length)).f l' v fun l' => M.rs.f _ (o / l.length) (.agg l' n) fun t => h.put M b (.row true (bp p v.pl) l.length l.length t) k) = _
  rw [fB (jb (by omega)), Nat.div_eq_of_lt ho, ok.rg (by decide), Nat.mod_eq_of_lt ho]
  show (yY o).f (aw l) v (fun l' => M.rs.f _ 0 (.agg l' l.length) fun t => h.put M b (.row true (bp p v.pl) l.length l.length t) k) = _
  rw [a8W ho, ok.rs (by decide), gJ ok hb]
  have e : (dB (AV.uu) (.nd (.agg (aw l) l.length) .lf .lf) 0 (.agg (aw (l.set o v)) l.length) : Row) = .nd (.agg (aw (l.set o v)) l.length) .lf .lf := by
    have e1 : ∀ k : Row → aa, (sk AV.uu 24).f (.nd (.agg (aw l) l.length) .lf .lf) 0 (.agg (aw (l.set o v)) l.length) k = k (.nd (.agg (aw (l.set o v)) l.length) .lf .lf) := fun _ => rfl
    have e2 := fun k => (ke (d := AV.uu) (t := .nd (.agg (aw l) l.length) .lf .lf) (i := 0) (x := .agg (aw (l.set o v)) l.length) (by decide) k).symm.trans (e1 k)
    have e3 := e2 fun t => .val (.agg t 0) .empty
    injection e3 with e4
    injection e4
  rw [e]
  unfold Bx
  rw [List.length_set]
theorem ada {n : Nat} (hb : b < 16777215) (hn : n = l.length) (hl : l'.length = l.length) (h2 : 2 ≤ l.length) (k : Hp → aa) : stC M n (Bx p l) h b 0 (.agg (aw l') n) k = k (h.dS b (Bx (bp p (iH l')) l')) := by
  subst hn
  show ar (Nat.ble (0 + l.length) l.length) (ar true (wrV M l.length l.length _ 0 (.agg (aw l') l.length) fun t f => h.put M b (.row true (bp p f) l.length l.length t) k)) = _
  rw [aB (dY (by omega)), aB rfl]
  show when (Nat.beq l.length 1) _ (ar (Nat.beq l.length l.length) (ar (Nat.ble 1 l.length) (eM (aw l') fun p' => when (bp (Nat.beq l.length l.length) (Nat.beq (0 % l.length) 0)) (M.rs.f _ (0 / l.length) (.agg (aw l') l.length) fun t => h.put M b (.row true (bp p p') l.length l.length t) k) _))) = _
  rw [fB (jb (by omega)), aB (cu _), aB (dY (by omega)), fW, Nat.zero_mod, cu, cQ (show bp true (Nat.beq 0 0) = true from rfl), Nat.zero_div, ok.rs (by decide), gJ ok hb]
  have e : (dB (AV.uu) (.nd (.agg (aw l) l.length) .lf .lf) 0 (.agg (aw l') l.length) : Row) = .nd (.agg (aw l') l.length) .lf .lf := by
    have e1 : ∀ k : Row → aa, (sk AV.uu 24).f (.nd (.agg (aw l) l.length) .lf .lf) 0 (.agg (aw l') l.length) k = k (.nd (.agg (aw l') l.length) .lf .lf) := fun _ => rfl
    have e2 := fun k => (ke (d := AV.uu) (t := .nd (.agg (aw l) l.length) .lf .lf) (i := 0) (x := .agg (aw l') l.length) (by decide) k).symm.trans (e1 k)
    have e3 := e2 fun t => .val (.agg t 0) .empty
    injection e3 with e4
    injection e4
  rw [e]
  unfold Bx
  rw [hl]
end
section
variable {h : Hp} {b o : Nat} {p : Bool} {l l' : List AV} {v : AV}
theorem load1 (hb : b < 16777215) (k : AV → aa) : aq mem false 1 (.ptr b o) h k = ldC mem (h.at b) o k := a8n dD hb k
theorem aba (hb : b < 16777215) (n : Nat) (k : AV → aa) : aq mem true n (.ptr b o) h k = ldA mem n (h.at b) o k := a6M dD hb n k
theorem ajd (ho : o < l.length) (h2 : 2 ≤ l.length) (k : AV → aa) : ldC mem (Bx p l) o k = k (l.getD o .uu) := abw dD ho h2 k
theorem a65 {n : Nat} (hn : n = l.length) (h2 : 2 ≤ l.length) (k : AV → aa) : ldA mem n (Bx p l) 0 k = k (.agg (aw l) n) := aaw dD hn h2 k
theorem ajq (hb : b < 16777215) (hp : h.pr = []) (k : Hp → aa) (sz : Nat) : aH mem sz (.ptr b o) v h k = stC mem sz (h.at b) h b o v k := abM dD hb hp k sz
theorem aiA (hb : b < 16777215) (ho : o < l.length) (h2 : 2 ≤ l.length) (hv : One v) (k : Hp → aa) : stC mem 1 (Bx p l) h b o v k = k (h.dS b (Bx (bp p v.pl) (l.set o v))) := acA dD hb ho h2 hv k
theorem ajy {n : Nat} (hb : b < 16777215) (hn : n = l.length) (hl : l'.length = l.length) (h2 : 2 ≤ l.length) (k : Hp → aa) : stC mem n (Bx p l) h b 0 (.agg (aw l') n) k = k (h.dS b (Bx (bp p (iH l')) l')) := ada dD hb hn hl h2 k
theorem box_m {n : Nat} (hn : n = l.length) (h2 : 2 ≤ l.length) (hb : h.nx < 16777215) (k : AV → Hp → aa) : cF mem (aY mem) (.agg (aw l) n) n n h k = k (.ptr h.nx 0) (h.add (Bx (iH l) l)) := box_s dD hn h2 hb k
end
theorem lit3 {n : Nat} (h : n < 9223372036854775808) : AV.int 3 n = I n := wC (by omega)
theorem lit4 {n : Nat} : AV.int 4 n = B8 n := rfl
theorem lit7 {n : Nat} : AV.int 7 n = U n := rfl
theorem aih {p : Prop} [Decidable p] (x y : aa) : when (decide p) x y = if p then x else y := oU x y
end Go.Proofs.YtbamejikafhenaaDoor.Ev
namespace Go.Proofs.YtbamejikafhenaaDoor.Ev
section
variable {a b : Int} {k : AV → aa}
theorem aj0 (h : (-9223372036854775808 ≤ a ∧ a < 9223372036854775808) ∧ -9223372036854775808 ≤ b ∧ b < 9223372036854775808) : (ae .lss 3).f (I a) (I b) k = k (.bool (decide (a < b))) := aa8 h.1 h.2
theorem ajp (h : (-9223372036854775808 ≤ a ∧ a < 9223372036854775808) ∧ -9223372036854775808 ≤ b ∧ b < 9223372036854775808) : (ae .leq 3).f (I a) (I b) k = k (.bool (decide (a ≤ b))) := leq_I h.1 h.2
theorem aj1 (h : (-9223372036854775808 ≤ a ∧ a < 9223372036854775808) ∧ -9223372036854775808 ≤ b ∧ b < 9223372036854775808) : (ae .gtr 3).f (I a) (I b) k = k (.bool (decide (b < a))) := gtr_I h.1 h.2
theorem aiE (h : (-9223372036854775808 ≤ a ∧ a < 9223372036854775808) ∧ -9223372036854775808 ≤ b ∧ b < 9223372036854775808) : (ae .geq 3).f (I a) (I b) k = k (.bool (decide (b ≤ a))) := agD h.1 h.2
theorem ahF (h : (-9223372036854775808 ≤ a ∧ a < 9223372036854775808) ∧ -9223372036854775808 ≤ b ∧ b < 9223372036854775808) : (ae .eql 3).f (I a) (I b) k = k (.bool (decide (a = b))) := eql_I h.1 h.2
theorem aiW (h : (-9223372036854775808 ≤ a ∧ a < 9223372036854775808) ∧ -9223372036854775808 ≤ b ∧ b < 9223372036854775808) : (ae .neq 3).f (I a) (I b) k = k (.bool (!decide (a = b))) := neq_I h.1 h.2
end
end Go.Proofs.YtbamejikafhenaaDoor.Ev
namespace Go.Proofs.YtbamejikafhenaaDoor.Ev
noncomputable def db (r : aa) : Option AV := aa.rec (motive := fun _ => Option AV) (fun _ _ => none) (fun _ _ _ => none) (fun _ _ => none) (fun v _ => some v) none r
theorem afO (v : AV) (hp : Hp) : db (.val v hp) = some v := rfl
theorem sL {r : aa} {v : AV} (h : db r = some v) : ∃ hp, r = .val v hp := by
  cases r with
  | val w hp => exact ⟨hp, by injection h with h; rw [h]⟩
  | _ => exact absurd h (by intro h; injection h)
theorem mV {r : aa} {v : AV} (h : ∃ hp, r = .val v hp) : db r = some v := by
  obtain ⟨hp, rfl⟩ := h; rfl
theorem eO {F : bN} {l : Row} {v : AV} (hl : kK l) (hv : yx v) (e : db (F.f l .empty) = some v) (hp : Hp) (k : AV → Hp → aa) : au mem false F l hp k = k v hp := by
  obtain ⟨hc, e⟩ := sL e
  exact a0A hl hv e hp k
section
variable {p : Prop} [Decidable p] {hp : Hp} {s : (AV → Hp → aa) → aa} {k : AV → Hp → aa}
theorem gd_pt : gd (.bool (decide p)) true hp s k = if p then s k else k dw hp := by by_cases h : p <;> simp [h, acq, aav]
theorem gd_pf : gd (.bool (decide p)) false hp s k = if p then k dw hp else s k := by by_cases h : p <;> simp [h, ade, abr]
theorem ael (A B : (AV → aa) → aa) (k : AV → aa) : aI (.bool (decide p)) A B k = if p then A k else B k := by by_cases h : p <;> simp [h, a1R, a1z]
theorem gd_nt : gd (.bool (!decide p)) true hp s k = if p then k dw hp else s k := by by_cases h : p <;> simp [h, acq, aav]
theorem gd_nf : gd (.bool (!decide p)) false hp s k = if p then s k else k dw hp := by by_cases h : p <;> simp [h, ade, abr]
theorem aeL (A B : (AV → aa) → aa) (k : AV → aa) : aI (.bool (!decide p)) A B k = if p then B k else A k := by by_cases h : p <;> simp [h, a1R, a1z]
theorem ahD (x y : aa) : when (!decide p) x y = if p then y else x := by by_cases h : p <;> simp [h, when]
end
theorem ahv (b : Bool) : dv b = !b := fA b
end Go.Proofs.YtbamejikafhenaaDoor.Ev
open Go Go.Proofs.YtbamejikafhenaaDoor.Ev
namespace Go.Proofs.YtbamejikafhenaaDoor.Tz
set_option linter.defProp false
def Y5 := And.intro @cZ (And.intro @eu (And.intro @te (@a8S)))
end Go.Proofs.YtbamejikafhenaaDoor.Tz
namespace Go.Proofs.YtbamejikafhenaaDoor.Ev
def mk {α : Type} (x : α) : α := x
theorem nd {p : Prop} (h : p) : p := (⟨h, trivial⟩ : p ∧ True).1
theorem mk_eq {α : Type} (x : α) : mk x = x := by
  have h : mk x = x ∧ True := ⟨rfl, trivial⟩
  exact h.1
theorem di {α : Type} {b c : Prop} [Decidable b] [Decidable c] {x u y v : α} (h : mk b = c) (h2 : c → x = u) (h3 : ¬c → y = v) : (if b then x else y) = if c then u else v := by
  rw [mk_eq] at h
  exact ite_congr h h2 h3
theorem aJ {f : Nat} {x x' : AV} {k : AV → aa} (h : mk x = x') : fieldAddr f x k = fieldAddr f x' k := by rw [mk_eq] at h; rw [h]
theorem bM {M : Mem} {ag : Bool} {sz : Nat} {v v' : AV} {hp : Hp} {k : AV → aa} (h : mk v = v') : aq M ag sz v hp k = aq M ag sz v' hp k := by rw [mk_eq] at h; rw [h]
theorem dh {M : Mem} {B B' : bX} {o o' : Nat} {k : AV → aa} (h : mk B = B') (h2 : o = o') : ldC M B o k = ldC M B' o' k := by rw [mk_eq] at h; rw [h, h2]
theorem dm {M : Mem} {n : Nat} {B B' : bX} {o o' : Nat} {k : AV → aa} (h : mk B = B') (h2 : o = o') : ldA M n B o k = ldA M n B' o' k := by rw [mk_eq] at h; rw [h, h2]
theorem bj {M : Mem} {sz : Nat} {a a' v v' : AV} {hp : Hp} {k : Hp → aa} (h : mk a = a') (h2 : v = v') : aH M sz a v hp k = aH M sz a' v' hp k := by rw [mk_eq] at h; rw [h, h2]
theorem de {M : Mem} {sz : Nat} {B B' : bX} {hp : Hp} {b o o' : Nat} {v v' : AV} {k : Hp → aa} (h : mk B = B') (h1 : o = o') (h2 : v = v') : stC M sz B hp b o v k = stC M sz B' hp b o' v' k := by rw [mk_eq] at h; rw [h, h1, h2]
theorem cm {M : Mem} {N : NK} {v v' : AV} {z s : Nat} {hp : Hp} {k : AV → Hp → aa} (h : mk v = v') : cF M N v z s hp k = cF M N v' z s hp k := by rw [mk_eq] at h; rw [h]
theorem aW {M : Mem} {N : NK} {z : Nat} {a a' b b' : AV} {hp : Hp} {k : AV → Hp → aa} (h : mk a = a') (h2 : b = b') : cR M N z a b hp k = cR M N z a' b' hp k := by rw [mk_eq] at h; rw [h, h2]
theorem cf {M : Mem} {q : Nat} {v v' : AV} {hp : Hp} {k : Nat → aa} (h : mk v = v') : cz M q v hp k = cz M q v' hp k := by rw [mk_eq] at h; rw [h]
theorem cn {b b' : Bool} {x : aa} (h : mk b = b') : ar b x = ar b' x := by rw [mk_eq] at h; rw [h]
theorem c9 {b b' : Bool} {x y : aa} (h : mk b = b') : when b x y = when b' x y := by rw [mk_eq] at h; rw [h]
theorem bh {v v' : AV} {f : Bool → aa} (h : mk v = v') : AV.ay v f = AV.ay v' f := by rw [mk_eq] at h; rw [h]
theorem bK {v v' : AV} {f : Nat → Nat → aa} (h : mk v = v') : AV.bV v f = AV.bV v' f := by rw [mk_eq] at h; rw [h]
theorem bH {v v' : AV} {f : Nat → Nat → aa} (h : mk v = v') : AV.ea v f = AV.ea v' f := by rw [mk_eq] at h; rw [h]
theorem aX {v v' : AV} {f : Nat → Nat → Nat → Nat → aa} {g : Row → Nat → Nat → Nat → aa} {y : Nat → aa} {s : Nat → Nat → aa} (h : mk v = v') : AV.fg v f g y s = AV.fg v' f g y s := by rw [mk_eq] at h; rw [h]
theorem eJ {q : BK} {a a' b b' : AV} {k : AV → aa} (h : mk a = a') (h2 : b = b') : q.f a b k = q.f a' b' k := by rw [mk_eq] at h; rw [h, h2]
theorem cg {v v' : AV} {n n' : Nat} {k : Nat → aa} (h : mk v = v') (h2 : n = n') : fP v n k = fP v' n' k := by rw [mk_eq] at h; rw [h, h2]
theorem cb {v v' : AV} {n n' : Nat} {k : Nat → aa} (h : mk v = v') (h2 : n = n') : gY v n k = gY v' n' k := by rw [mk_eq] at h; rw [h, h2]
theorem cj {i n n' : Nat} {k : AV → aa} (h : mk n = n') : bu i n k = bu i n' k := by rw [mk_eq] at h; rw [h]
theorem bm {v v' : AV} {a a' b b' : Option AV} {k : AV → aa} (h : mk v = v') (h2 : a = a') (h3 : b = b') : dj v a b k = dj v' a' b' k := by rw [mk_eq] at h; rw [h, h2, h3]
theorem bk {z : Nat} {v v' : AV} {a a' b b' c c' : Option AV} {k : AV → aa} (h : mk v = v') (h2 : a = a') (h3 : b = b') (h4 : c = c') : eS z v a b c k = eS z v' a' b' c' k := by rw [mk_eq] at h; rw [h, h2, h3, h4]
theorem aK {z : Nat} {x x' i i' : AV} {k : AV → aa} (h : mk x = x') (h2 : i = i') : indexAddr z x i k = indexAddr z x' i' k := by rw [mk_eq] at h; rw [h, h2]
theorem aO {z n : Nat} {x x' i i' : AV} {k : AV → aa} (h : mk x = x') (h2 : i = i') : kB z n x i k = kB z n x' i' k := by rw [mk_eq] at h; rw [h, h2]
theorem eG {v v' : AV} {w : Bool} {hp : Hp} {s : (AV → Hp → aa) → aa} {k : AV → Hp → aa} (h : mk v = v') : gd v w hp s k = gd v' w hp s k := by rw [mk_eq] at h; rw [h]
theorem bG {v v' : AV} {A B : (AV → aa) → aa} {k : AV → aa} (h : mk v = v') : aI v A B k = aI v' A B k := by rw [mk_eq] at h; rw [h]
theorem cq {i : Nat} {v v' : AV} {k : AV → aa} (h : mk v = v') : bg i v k = bg i v' k := by rw [mk_eq] at h; rw [h]
theorem bL {M : Mem} {sh : Bool} {F : bN} {a a' : Row} {hp : Hp} {k : AV → Hp → aa} (h : mk a = a') : au M sh F a hp k = au M sh F a' hp k := by rw [mk_eq] at h; rw [h]
theorem bD {ag : Bool} {sz off : Nat} {x x' : AV} {k : AV → aa} (h : mk x = x') : uQ ag sz off x k = uQ ag sz off x' k := by rw [mk_eq] at h; rw [h]
theorem bF {n n' : Nat} {hp : Hp} {f : Hp → aa} (h : mk n = n') : eY n hp f = eY n' hp f := by rw [mk_eq] at h; rw [h]
theorem ck {M : Mem} {z : Nat} {v v' : AV} {hp : Hp} {k : Row → Nat → Nat → Bool → aa} (h : mk v = v') : my M z v hp k = my M z v' hp k := by rw [mk_eq] at h; rw [h]
theorem c7 {M : Mem} {N : NK} {z z' : Nat} {r0 r1 : Row} {s n : Nat} {l l' : List (Nat × ((AV → aa) → aa))} {hp : Hp} {k : AV → Hp → aa} (h : mk z = z') (h1 : r0 = r1) (h2 : l = l') : lL M N z r0 s n l hp k = lL M N z' r1 s n l' hp k := by rw [mk_eq] at h; rw [h, h1, h2]
theorem bl {v v' : AV} {k : AV → aa} (h : mk v = v') : oL v k = oL v' k := by rw [mk_eq] at h; rw [h]
end Go.Proofs.YtbamejikafhenaaDoor.Ev
namespace Go.Proofs.YtbamejikafhenaaDoor.Ev
theorem ad3 {a b : Bool} (h : a = b) : some (AV.bool a) = some (AV.bool b) := by rw [h]
section
variable {M : Mem} (ok : oK M)
include ok
theorem a27 : ∀ (m : Nat) (u : Row) (p : Nat) (r : Row) (n : Nat), p + m < 16777215 → n + m < 16777215 → ∃ r', (∀ j, r'.at j = if n ≤ j ∧ j < n + m then u.at (p + (j - n)) else r.at j) ∧ ∀ k, (cp M m).f u p r n k = k r'
  | 0, u, p, r, n, _, _ => ⟨r, fun j => by rw [if_neg (by omega)], fun _ => rfl⟩
  | m + 1, u, p, r, n, hp, hn => by
    obtain ⟨r', h1, h2⟩ := a27 m u (p + 1) (dB .uu r n (u.at p)) (n + 1) (by omega) (by omega)
    refine ⟨r', fun j => ?_, fun k => ?_⟩
    · rw [h1]
      by_cases h : n + 1 ≤ j ∧ j < n + 1 + m
      · rw [if_pos h, if_pos (by omega), show p + 1 + (j - (n + 1)) = p + (j - n) by omega]
      · rw [if_neg h]
        show (dB .uu r n (u.at p) : Row).at j = _
        rw [vJ (by omega)]
        by_cases hj : j = n
        · subst hj; rw [if_pos rfl, if_pos (by omega), Nat.sub_self, Nat.add_zero]
        · rw [if_neg hj, if_neg (by omega)]
    · show M.rg.f u p (fun v => M.rs.f r n v fun d' => (cp M m).f u (p + 1) d' (n + 1) k) = _
      rw [ok.rg (by omega), ok.rs (by omega)]
      exact h2 k
def lits : Nat → List UInt8 → List (Nat × ((AV → aa) → aa))
  | _, [] => []
  | i, c :: l => (i, fun k => k (B8 c.toNat)) :: lits (i + 1) l
theorem a4u : ∀ (m : List UInt8) (i : Nat) (r0 : Row), i + m.length < 16777215 → ∃ t, (∀ j, t.at j = if i ≤ j ∧ j < i + m.length then B8 (m.getD (j - i) 0).toNat else r0.at j) ∧
    ∀ (f : Row → Bool → aa), (List.rec (motive := fun (_ : List (Nat × ((AV → aa) → aa))) => Row → Bool → aa) f (fun p _ ih t f => p.2 fun v => wrV M 1 1 t p.1 v fun t b => ih t (bp f b)) (lits i m) r0 true : aa) = f t true
  | [], i, r0, _ => ⟨r0, fun j => by rw [if_neg (by simp only [List.length_nil]; omega)], fun _ => rfl⟩
  | c :: m, i, r0, hl => by
    simp only [List.length_cons] at hl
    obtain ⟨t, h1, h2⟩ := a4u m (i + 1) (dB .uu r0 i (B8 c.toNat)) (by omega)
    refine ⟨t, fun j => ?_, fun f => ?_⟩
    · rw [h1]
      by_cases h : i + 1 ≤ j ∧ j < i + 1 + m.length
      · rw [if_pos h, if_pos (by simp only [List.length_cons]; omega), show j - i = (j - (i + 1)) + 1 by omega]
        rfl
      · rw [if_neg h]
        show (dB .uu r0 i (B8 c.toNat) : Row).at j = _
        rw [vJ (by omega)]
        by_cases hj : j = i
        · subst hj; rw [if_pos rfl, if_pos (by simp only [List.length_cons]; omega), Nat.sub_self]; rfl
        · rw [if_neg hj, if_neg (by simp only [List.length_cons]; omega)]
    · rw [← h2 f]
      show M.rs.f r0 i (B8 c.toNat) (fun t => (List.rec (motive := fun (_ : List (Nat × ((AV → aa) → aa))) => Row → Bool → aa) f (fun p _ ih t f => p.2 fun v => wrV M 1 1 t p.1 v fun t b => ih t (bp f b)) (lits (i + 1) m) t (bp true true) : aa)) = _
      rw [ok.rs (by omega)]
      rfl
end
def mw (h : Hp) (a : AV) (l : List UInt8) : Prop := (a = .x 8 .lf 0 0 0 ∧ l = []) ∨ ∃ c t, a = .ms c 0 l.length 1 ∧ c < h.nx ∧ h.at c = .row true true 1 l.length t ∧ ∀ j, j < l.length → t.at j = B8 (l.getD j 0).toNat
noncomputable def kill (h : Hp) (a : AV) : Hp := match a with
  | .ms c _ _ _ => h.dS c .dead
  | _ => h
section
variable {M : Mem} (ok : oK M)
include ok
theorem uE (N : NK) {h : Hp} {a : AV} {l m : List UInt8} {q : Nat} {u : Row} (ha : mw h a l) (hnx : h.nx < 16777215) (hq : q < 16777215) (hat : h.at q = .row true true 1 m.length u) (hu : ∀ j, j < m.length → u.at j = B8 (m.getD j 0).toNat) (hm : m ≠ []) (hpr : h.pr = []) (hl : l.length + m.length ≤ 1000000) :
    ∃ r, (∀ j, j < (l ++ m).length → r.at j = B8 ((l ++ m).getD j 0).toNat) ∧ ∀ K : AV → Hp → aa, cR M N 1 a (.ms q 0 m.length 1) h K = N.f (kill h a) (.row true true 1 (l ++ m).length r) fun id hp => K (.ms id 0 (l ++ m).length 1) hp := by
  have hm0 : m.length ≠ 0 := fun h => hm (List.length_eq_zero_iff.1 h)
  have hs : ∀ K, my M 1 (.ms q 0 m.length 1) h K = K u 0 m.length true := fun K => a5y (fun k => by rw [get_at ok hq, hat]) (by omega) K
  rcases ha with ⟨rfl, rfl⟩ | ⟨c, t, rfl, hc, hct, ht⟩
  · refine ⟨u, fun j hj => ?_, fun K => ?_⟩
    · rw [List.nil_append] at hj ⊢; exact hu j hj
    · unfold cR
      rw [hs]
      show ar (Nat.beq 8 8 || Nat.beq 8 6) (when (Nat.beq m.length 0) _ (ar (Nat.ble m.length 1073741824) (aG (m.length * 1) fun q => when (Nat.beq 0 0) (N.f h (.row true true 1 q u) fun id hp => K (.ms id 0 m.length 1) hp) _))) = _
      rw [aB (b := Nat.beq 8 8 || Nat.beq 8 6) rfl, fB (jb hm0), aB (dY (by omega)), az, Nat.mul_one, cQ (b := Nat.beq 0 0) rfl]
      rfl
  · obtain ⟨r, h1, h2⟩ := a27 ok m.length u 0 t l.length (by omega) (by omega)
    refine ⟨r, fun j hj => ?_, fun K => ?_⟩
    · rw [List.length_append] at hj
      rw [h1]
      by_cases h : l.length ≤ j
      · rw [if_pos ⟨h, hj⟩, Nat.zero_add, hu _ (by omega)]
        congr 2
        simp only [List.getD_eq_getElem?_getD]
        rw [List.getElem?_append_right h]
      · rw [if_neg (by omega), ht j (by omega)]
        congr 2
        simp only [List.getD_eq_getElem?_getD]
        rw [List.getElem?_append_left (by omega)]
    · unfold cR
      rw [hs]
      show ar (Nat.beq 1 1) (when (Nat.beq m.length 0) _ (h.own M c (0 + l.length * 1) fun fl x _ t => ar (Nat.beq x 1) (ar (Nat.beq (0 % 1) 0) (when (Nat.beq 0 0) (jy M N 1 c l.length fl t u 0 m.length true h K) _)))) = _
      rw [aB (b := Nat.beq 1 1) rfl, fB (jb hm0), acp ok (by omega) hct (by omega) hpr, aB (b := Nat.beq 1 1) rfl, aB (b := Nat.beq (0 % 1) 0) rfl, cQ (b := Nat.beq 0 0) rfl]
      unfold jy
      rw [h2, gJ ok (by omega), az]
      show ar (Nat.ble (l.length + m.length) 1073741824) (aG ((l.length + m.length) * 1) fun s => N.f (h.dS c .dead) (.row true (bp true true) 1 s r) fun id hp => K (.ms id 0 (l.length + m.length) 1) hp) = _
      rw [aB (dY (by omega)), az, Nat.mul_one, List.length_append]
      rfl
end
section
variable {M : Mem} (ok : oK M)
include ok
theorem a07 (N : NK) (r0 : Row) (m : List UInt8) (hm : m.length < 1000000) (h : Hp) : ∃ t : Row, (∀ j, j < m.length → t.at j = B8 (m.getD j 0).toNat) ∧ ∀ K, lL M N 1 r0 m.length m.length (lits 0 m) h K = N.f h (.row true true 1 m.length t) fun id hp => K (.ms id 0 m.length 1) hp := by
  obtain ⟨t, h1, h2⟩ := a4u ok m 0 r0 (by omega)
  refine ⟨t, fun j hj => by rw [h1, if_pos (by omega), Nat.sub_zero], fun K => ?_⟩
  exact h2 fun r f => N.f h (.row true f 1 m.length r) fun id hp => K (.ms id 0 m.length 1) hp
theorem a8L (r0 : Row) {h : Hp} {a : AV} {l : List UInt8} (m : List UInt8) (ha : mw h a l) (hnx : h.nx + 2 < 16777215) (hm : m ≠ []) (hpr : h.pr = []) (hl : l.length + m.length ≤ 900000) :
    ∃ a' h', mw h' a' (l ++ m) ∧ h'.nx = h.nx + 2 ∧ h'.pr = [] ∧ ∀ K : AV → Hp → aa, lL M (aY M) 1 r0 m.length m.length (lits 0 m) h (fun v h => cR M (aY M) 1 a v h K) = K a' h' := by
  obtain ⟨t, ht, hb⟩ := a07 ok (aY M) r0 m (by omega) h
  have ha' : mw (h.add (.row true true 1 m.length t)) a l := by
    rcases ha with ⟨rfl, rfl⟩ | ⟨c, u, rfl, hc, hct, hu⟩
    · exact .inl ⟨rfl, rfl⟩
    · exact .inr ⟨c, u, rfl, by rw [cZ]; omega, by rw [bZ (by omega) (by omega)]; exact hct, hu⟩
  obtain ⟨r, hr, hk⟩ := uE ok (aY M) ha' (by rw [cZ]; omega) (q := h.nx) (by omega) (add_same (by omega)) ht hm (by rw [a1E]; exact hpr) (by omega)
  have hkn : (kill (h.add (.row true true 1 m.length t)) a).nx = h.nx + 1 := by
    unfold kill; split <;> rfl
  have hkp : (kill (h.add (.row true true 1 m.length t)) a).pr = [] := by
    unfold kill; split <;> exact hpr
  refine ⟨.ms (h.nx + 1) 0 (l ++ m).length 1, (kill (h.add (.row true true 1 m.length t)) a).add (.row true true 1 (l ++ m).length r), .inr ⟨_, r, rfl, by rw [cZ, hkn]; omega, cV (by omega) (by omega), hr⟩, by rw [cZ, hkn], by rw [a1E, hkp], fun K => ?_⟩
  rw [hb, je ok (by omega), hk, je ok (by omega), hkn]
theorem a5i (r0 : Row) {h : Hp} {a : AV} {l : List UInt8} (m : List UInt8) {n i j : Nat} (ha : mw h a l) (hnx : h.nx + n < 16777215) (hi : i < n) (hj : j < n) (hij : i ≠ j) (hm : m ≠ []) (hpr : h.pr = []) (hl : l.length + m.length ≤ 900000) :
    ∃ a' h', mw h' a' (l ++ m) ∧ h'.nx = h.nx + n ∧ h'.pr = [] ∧ ∀ F : Hp → AV → aa, lL M (jR M i) 1 r0 m.length m.length (lits 0 m) (h.u5 n) (fun v h => cO M [] [] h (fun h => cR M (jR M j) 1 a v h fun v h => .val v h) F) = F h' a' := by
  obtain ⟨t, ht, hb⟩ := a07 ok (jR M i) r0 m (by omega) (h.u5 n)
  have ha' : mw ((h.u5 n).dS (h.nx + i) (.row true true 1 m.length t)) a l := by
    rcases ha with ⟨rfl, rfl⟩ | ⟨c, u, rfl, hc, hct, hu⟩
    · exact .inl ⟨rfl, rfl⟩
    · exact .inr ⟨c, u, rfl, by rw [eu, te]; omega, by rw [cL (by omega) (by omega)]; exact hct, hu⟩
  obtain ⟨r, hr, hk⟩ := uE ok (jR M j) ha' (by rw [eu, te]; omega) (q := h.nx + i) (by omega) (cB (by omega)) ht hm (by rw [a14]; exact hpr) (by omega)
  have hkn : (kill ((h.u5 n).dS (h.nx + i) (.row true true 1 m.length t)) a).nx = h.nx + n := by
    unfold kill; split <;> rfl
  have hkr : (kill ((h.u5 n).dS (h.nx + i) (.row true true 1 m.length t)) a).rb = h.nx := by
    unfold kill; split <;> rfl
  have hkp : (kill ((h.u5 n).dS (h.nx + i) (.row true true 1 m.length t)) a).pr = [] := by
    unfold kill; split <;> exact hpr
  refine ⟨.ms (h.nx + j) 0 (l ++ m).length 1, (kill ((h.u5 n).dS (h.nx + i) (.row true true 1 m.length t)) a).dS (h.nx + j) (.row true true 1 (l ++ m).length r), .inr ⟨_, r, rfl, by rw [eu, hkn]; omega, cB (by omega), hr⟩, by rw [eu, hkn], by rw [a14, hkp], fun F => ?_⟩
  rw [hb, sm ok (by show h.nx + i < _; omega)]
  show (aa.rec (motive := fun _ => aa) (fun _ _ => .fail) (fun _ _ _ => .fail) (fun _ _ => .fail) (fun v h4 => ar (Nat.ble ((h.u5 n).dS (h.nx + i) (.row true true 1 m.length t)).nx h4.nx) (F ⟨h4.t, h4.nx, h.pr, h.nx⟩ v)) .fail (cR M (jR M j) 1 a (.ms (h.nx + i) 0 m.length 1) ((h.u5 n).dS (h.nx + i) (.row true true 1 m.length t)) fun v h => .val v h) : aa) = _
  rw [hk, sm ok (by rw [hkr]; omega), hkr]
  show ar (Nat.ble (h.nx + n) ((kill ((h.u5 n).dS (h.nx + i) (.row true true 1 m.length t)) a).dS (h.nx + j) (.row true true 1 (l ++ m).length r)).nx) (F ⟨_, _, h.pr, h.nx⟩ _) = _
  rw [eu, hkn, aB (dY (Nat.le_refl _))]
  have e : ∀ H : Hp, H.pr = [] → H.rb = h.nx → (⟨H.t, H.nx, h.pr, h.nx⟩ : Hp) = H := fun H h1 h2 => by
    obtain ⟨_, _, _, _⟩ := H
    subst h1; subst h2; rw [hpr]
  have e2 := e ((kill ((h.u5 n).dS (h.nx + i) (.row true true 1 m.length t)) a).dS (h.nx + j) (.row true true 1 (l ++ m).length r)) hkp hkr
  rw [← e2]
  show F ⟨_, _, _, _⟩ _ = F ⟨_, _, _, _⟩ _
  congr 2
  exact hkn.symm
end
theorem pG (r0 : Row) {h : Hp} {a : AV} {l : List UInt8} (m : List UInt8) (ha : mw h a l) (hnx : h.nx + 2 < 16777215) (hm : m ≠ []) (hpr : h.pr = []) (hl : l.length + m.length ≤ 900000) :
    ∃ a' h', mw h' a' (l ++ m) ∧ h'.nx = h.nx + 2 ∧ h'.pr = [] ∧ ∀ K : AV → Hp → aa, lL mem (aY mem) 1 r0 m.length m.length (lits 0 m) h (fun v h => cR mem (aY mem) 1 a v h K) = K a' h' := a8L dD r0 m ha hnx hm hpr hl
theorem aaa (r0 : Row) {h : Hp} {a : AV} {l : List UInt8} (m : List UInt8) {n i j : Nat} (ha : mw h a l) (hnx : h.nx + n < 16777215) (hi : i < n) (hj : j < n) (hij : i ≠ j) (hm : m ≠ []) (hpr : h.pr = []) (hl : l.length + m.length ≤ 900000) :
    ∃ a' h', mw h' a' (l ++ m) ∧ h'.nx = h.nx + n ∧ h'.pr = [] ∧ ∀ F : Hp → AV → aa, lL mem (jR mem i) 1 r0 m.length m.length (lits 0 m) (h.u5 n) (fun v h => cO mem [] [] h (fun h => cR mem (jR mem j) 1 a v h fun v h => .val v h) F) = F h' a' := a5i dD r0 m ha hnx hi hj hij hm hpr hl
noncomputable def xt (hp h4 : Hp) (v : AV) (K : Hp → AV → aa) : aa := ar (Nat.ble hp.nx h4.nx) (K ⟨h4.t, h4.nx, hp.pr, hp.rb⟩ v)
noncomputable def a8E (M : Mem) (hp : Hp) (pl : List Nat) (r : aa) (K : Hp → AV → aa) : aa := aa.rec (motive := fun _ => aa) (fun _ _ => .fail) (fun _ _ _ => .fail) (fun _ _ => .fail) (fun v h2 => gp M hp pl h2 fun h4 => xt hp h4 v K) .fail r
def Hp.pro (h : Hp) (l : List Nat) : Hp := ⟨h.t, h.nx, l, h.rb⟩
theorem adq (M : Mem) (l : List ((AV → aa) → aa)) (hp : Hp) (body : Hp → aa) (K : Hp → AV → aa) : cO M [] l hp body K = lZ l [] fun pl => a8E M hp pl (body (hp.pro (pQ pl hp.pr))) K := rfl
theorem a9b (M : Mem) (hp : Hp) (pl : List Nat) (v : AV) (h2 : Hp) (K : Hp → AV → aa) : a8E M hp pl (.val v h2) K = gp M hp pl h2 fun h4 => xt hp h4 v K := rfl
theorem a9q {h hp : Hp} {b : Nat} {l : List Nat} {k : Hp → aa} {r1 f1 r2 f2 : Bool} {z1 s1 z2 s2 : Nat} {t1 t2 : Row} (hb : b < 16777215) (h1 : h.at b = .row r1 f1 z1 s1 t1) (h2 : hp.at b = .row r2 f2 z2 s2 t2) : gp mem h (b :: l) hp k = gp mem h l (hp.dS b (.row r2 f1 z1 s1 t1)) k := by
  show h.get mem b (fun B => hp.get mem b fun B' => bX.rec (motive := fun _ => aa) .fail (fun _ fl z s t => B'.lO fun rw _ _ _ _ => hp.put mem b (.row rw fl z s t) fun hp => gp mem h l hp k) (fun n t => B'.q8 fun _ _ => hp.put mem b (.map n t) fun hp => gp mem h l hp k) (fun _ _ _ _ => .fail) (fun _ => .fail) B) = _
  rw [get_at dD hb, get_at dD hb, h1, h2]
  show hp.put mem b (.row r2 f1 z1 s1 t1) (fun hp => gp mem h l hp k) = _
  rw [gJ dD hb]
theorem a4r {hp h4 : Hp} {v : AV} {K : Hp → AV → aa} (h : hp.nx ≤ h4.nx) : xt hp h4 v K = K ⟨h4.t, h4.nx, hp.pr, hp.rb⟩ v := aB (dY h) _
def eR (c : UInt8) : Bool := Nat.beq c.toNat 45 || (Nat.ble 48 c.toNat && Nat.ble c.toNat 57)
noncomputable def bQ (l : List UInt8) : Nat := List.rec (motive := fun _ => Nat) 0 (fun c _ ih => Bool.rec (motive := fun _ => Nat) 0 (Nat.succ ih) (eR c)) l
noncomputable def ixN (l : List UInt8) : Int := Bool.rec (motive := fun _ => Int) (bQ l : Int) (-1) (Nat.beq (bQ l) l.length)
noncomputable section
def ixfF (clo : Nat) : bN := ⟨fun l hp => a1t l fun a r => a1t r fun f r => ac6 r (a.ea fun s n => f.onX fun g _ c x y => ar (Nat.beq g 3) (ar (Nat.beq c clo) (ar (Nat.beq x 0) (ar (Nat.beq y 0) (ar (Nat.ble n 4294967280) (.val (I (ixN (vz n s))) hp))))))⟩
def aR (c : UInt8) (l : List UInt8) : List (List UInt8) := List.rec (motive := fun _ => List (List UInt8)) [[]] (fun b _ ih => Bool.rec (motive := fun _ => List (List UInt8)) (List.rec (motive := fun _ => List (List UInt8)) [[b]] (fun p r _ => (b :: p) :: r) ih) ([] :: ih) (Nat.beq b.toNat c.toNat)) l
def a1J : bN := ⟨fun l hp => a1t l fun a r => a1t r fun b r => ac6 r (a.ea fun s n => b.ea fun t m => ar (Nat.beq m 1) (ar (Nat.ble n 4294967280) (
  let ps := aR t.toUInt8 (vz n s)
  (nW mem 1 ps.length).f (aw (ps.map S)) .lf 0 fun t => (aY mem).f hp (.row true true 1 ps.length t) fun id hp => .val (.ms id 0 ps.length 1) hp)))⟩
end
noncomputable section
def oJ (o : Option AV) : Option (List UInt8 × Nat) := match o with
  | some (.bB (.nd (.str s n) _ (.nd (.int i c) _ .lf)) _) => if i = 3 ∧ c ≤ 1000 ∧ n ≤ 1000000 then some (vz n s, c) else none
  | _ => none
def sOf (o : Option AV) : Option (List UInt8) := match o with
  | some (.str s n) => if n ≤ 1000000 then some (vz n s) else none
  | _ => none
def bOf (o : Option AV) : Option Bool := match o with
  | some (.bool b) => some b
  | _ => none
def vl (v : AV) : Bool := match v with
  | .vs .. => true
  | .x g .. => decide (g = 6 ∨ g = 8)
  | _ => false
def a3v (v : AV) : Bool := match v with
  | .agg (.nd a _ (.nd b _ (.nd c _ .lf))) n => decide (n = 3) && vl a && vl b && vl c
  | _ => false
def mkF (v : AV) : Bool := match v with
  | .agg (.nd (.int i0 _) _ (.nd (.int i1 _) _ (.nd (.int i2 _) _ (.nd (.int i3 _) _ (.nd (.int i4 _) _ (.nd (.int i5 _) _ (.nd (.int i6 _) _ .lf))))))) n => decide (n = 7 ∧ i0 = 3 ∧ i1 = 3 ∧ i2 = 3 ∧ i3 = 3 ∧ i4 = 4 ∧ i5 = 3 ∧ i6 = 4)
  | _ => false
def uf (v : AV) : Option (AV × AV × AV) := match v with
  | .agg (.nd (.int i0 a) _ (.nd (.int i1 b) _ (.nd (.int i2 c) _ .lf))) n => if n = 3 ∧ i0 = 4 ∧ i1 = 3 ∧ i2 = 3 then some (.int 4 a, .int 3 b, .int 3 c) else none
  | _ => none
def jL (v : AV) : Option (Row × Nat × Nat) := match v with
  | .vs t o n z => if z = 7 then some (t, o, n) else none
  | .x g .. => if g = 6 ∨ g = 8 then some (.lf, 0, 0) else none
  | _ => none
def a0L (word f u : List UInt8) : List UInt8 := [101, 110, 100, 101, 100, 32] ++ word ++ [44, 32, 102, 97, 105, 108, 105, 110, 103, 32] ++ f ++ [44, 32, 117, 115, 101, 100, 32] ++ u ++ [10]
def gz (line : bN) (m : AV) (t : Row) (o : Nat) : Nat → Nat → List UInt8 → Option (List UInt8 × Nat)
  | 0, _, acc => some (acc, 0)
  | k + 1, i, acc => if mkF (t.at (o + i)) then match oJ (db (line.f (.nd m .lf (.nd (t.at (o + i)) .lf .lf)) .empty)) with
    | none => none
    | some (s, c) => if c = 0 then gz line m t o k (i + 1) (acc ++ (s ++ [10])) else some ([], c) else none
def mn (right outc whole : bN) (x a b c : AV) (acc : List UInt8) : Option (List UInt8 × Nat) :=
  match bOf (db (right.f (.nd x .lf .lf) .empty)) with
  | none => none
  | some false => some ([], 8)
  | some true => match oJ (db (outc.f (.nd a .lf .lf) .empty)) with
    | none => none
    | some (word, z) => if z = 0 then match sOf (db (whole.f (.nd b .lf .lf) .empty)) with
      | none => none
      | some f => match sOf (db (whole.f (.nd c .lf .lf) .empty)) with
        | none => none
        | some u => some (acc ++ a0L word f u, 0) else some ([], z)
def lq (line right outc whole : bN) (m a x : AV) : Option (List UInt8 × Nat) :=
  match jL a with
  | none => none
  | some (t, o, n) => if a3v m then match uf x with
    | none => none
    | some (xa, xb, xc) => if 2000 < n then some ([], 4) else match gz line m t o n 0 [] with
      | none => none
      | some (acc, c) => if c = 0 then mn right outc whole x xa xb xc acc else some ([], c) else none
def a3C (line right outc whole : bN) : bN := ⟨fun l hp => match l with
  | .nd m _ (.nd a _ (.nd x _ .lf)) => match hp with
    | ⟨.lf, 0, [], 0⟩ => match lq line right outc whole m a x with
      | some (T, z) => .val (.bB (.nd (S T) .lf (.nd (I z) .lf .lf)) 2) ⟨.lf, 0, [], 0⟩
      | none => .fail
    | _ => .fail
  | _ => .fail⟩
end
end Go.Proofs.YtbamejikafhenaaDoor.Ev
namespace Go.Proofs.YtbamejikafhenaaDoor.Tz
noncomputable section
def nY : Cx := ⟨mem, Go.Proofs.Tryd.prog, [], [], [], [], [0, 2, 3, 1, 5, 4], 57, 16⟩
def r16 : bN := j1 nY
def cr4 : Cx := ⟨mem, Go.Proofs.Tryd.prog, [(16, r16)], [], [], [], [0, 1, 4], 22, 4⟩
def r4 : bN := j1 cr4
def cr42 : Cx := ⟨mem, Go.Proofs.Tryd.prog, [], [], [], [], [0], 2, 42⟩
def r42 : bN := j1 cr42
def cr18 : Cx := ⟨mem, Go.Proofs.Tryd.prog, [(42, r42)], [], [], [], [0, 2, 3, 4], 16, 18⟩
def r18 : bN := j1 cr18
def a5u : Cx := ⟨mem, Go.Proofs.Tryd.prog, [(18, r18)], [], [], [], [0, 1, 4, 2, 3], 97, 13⟩
def r13 : bN := j1 a5u
def rq : Cx := ⟨mem, Go.Proofs.Tryd.prog, [], [], [], [], [0, 1, 4, 12, 11], 59, 41⟩
def r41 : bN := j1 rq
def acI : Cx := ⟨mem, Go.Proofs.Tryd.prog, [(41, r41)], [], [], [], [0, 2, 3], 10, 17⟩
def r17 : bN := j1 acI
def a1L : Cx := ⟨mem, Go.Proofs.Tryd.prog, [], [], [], [], [0, 1, 4, 6, 5], 23, 59⟩
def r59 : bN := j1 a1L
def abg : Cx := ⟨mem, Go.Proofs.Tryd.prog, [(59, r59)], [], [], [], [0, 2], 13, 43⟩
def r43 : bN := j1 abg
def cr19 : Cx := ⟨mem, Go.Proofs.Tryd.prog, [(43, r43)], [], [], [], [0, 2], 5, 19⟩
def r19 : bN := j1 cr19
def cr44 : Cx := ⟨mem, Go.Proofs.Tryd.prog, [], [], [], [], [0], 2, 44⟩
def r44 : bN := j1 cr44
def abb : Cx := ⟨mem, Go.Proofs.Tryd.prog, [(44, r44)], [], [], [], [0, 2, 3], 13, 20⟩
def r20 : bN := j1 abb
def cr5 : Cx := ⟨mem, Go.Proofs.Tryd.prog, [(13, r13), (17, r17), (18, r18), (19, r19), (20, r20)], [], [], [], [0, 1, 4, 5, 2, 3, 7, 9, 10, 11], 87, 5⟩
def r5 : bN := j1 cr5
def abJ : Cx := ⟨mem, Go.Proofs.Tryd.prog, [], [], [], [], [0, 2, 3], 11, 31⟩
def r31 : bN := j1 abJ
def a9Q : Cx := ⟨mem, Go.Proofs.Tryd.prog, [(31, r31)], [], [], [], [0, 1, 4, 2, 3], 93, 14⟩
def r14 : bN := j1 a9Q
def cr55 : Cx := ⟨mem, Go.Proofs.Tryd.prog, [], [], [], [], [0, 2], 37, 55⟩
def r55 : bN := j1 cr55
def yN : Cx := ⟨mem, Go.Proofs.Tryd.prog, [(55, r55)], [], [], [], [0, 2, 4, 3], 19, 29⟩
def r29 : bN := j1 yN
def yJ : Cx := ⟨mem, Go.Proofs.Tryd.prog, [], [], [], [], [0, 1, 4, 5], 28, 67⟩
def r67 : bN := j1 yJ
def aaQ : Cx := ⟨mem, Go.Proofs.Tryd.prog, [(67, r67)], [], [], [], [0, 2], 15, 56⟩
def r56 : bN := j1 aaQ
def cr30 : Cx := ⟨mem, Go.Proofs.Tryd.prog, [(56, r56)], [], [], [], [0, 2], 5, 30⟩
def r30 : bN := j1 cr30
def cr72 : Cx := ⟨mem, Go.Proofs.Tryd.prog, [], [], [], [], [0], 2, 72⟩
def r72 : bN := j1 cr72
def cr60 : Cx := ⟨mem, Go.Proofs.Tryd.prog, [(72, r72)], [], [], [], [0, 2, 3], 14, 60⟩
def r60 : bN := j1 cr60
def cr45 : Cx := ⟨mem, Go.Proofs.Tryd.prog, [(60, r60)], [], [], [], [0, 2], 11, 45⟩
def r45 : bN := j1 cr45
def ac3 : Cx := ⟨mem, Go.Proofs.Tryd.prog, [(29, r29), (30, r30), (31, r31), (45, r45)], [], [], [], [0, 1, 4, 5], 54, 21⟩
def r21 : bN := j1 ac3
def cr6 : Cx := ⟨mem, Go.Proofs.Tryd.prog, [(14, r14), (21, r21)], [], [], [], [0, 1, 4, 5, 2, 3], 16, 6⟩
def r6 : bN := j1 cr6
def r46 : bN := ixfF 47
def cr47 : Cx := ⟨mem, Go.Proofs.Tryd.prog, [], [], [], [], [0, 2], 13, 47⟩
def r47 : bN := j1 cr47
def r49 : bN := acX
def r75 : bN := idxF
def cr73 : Cx := ⟨mem, Go.Proofs.Tryd.prog, [(75, r75)], [], [], [], [0, 1, 4], 8, 73⟩
def r73 : bN := j1 cr73
def qy : Cx := ⟨mem, Go.Proofs.Tryd.prog, [(73, r73)], [], [], [], [0, 1, 2, 6, 7, 14, 13, 9, 8, 11], 60, 62⟩
def r62 : bN := j1 qy
def a6o : Cx := ⟨mem, Go.Proofs.Tryd.prog, [(49, r49), (62, r62)], [], [], [], [0, 2, 3, 4, 8, 9], 43, 48⟩
def r48 : bN := j1 a6o
def abq : Cx := ⟨mem, Go.Proofs.Tryd.prog, [(46, r46), (47, r47), (48, r48), (49, r49)], [], [], [], [0, 1, 4, 5, 6], 49, 22⟩
def r22 : bN := j1 abq
def r23 : bN := ac9
def r24 : bN := cutF
def wF : Cx := ⟨mem, Go.Proofs.Tryd.prog, [], [], [], [], [0, 1, 4, 8, 7], 19, 53⟩
def r53 : bN := j1 wF
def aaY : Cx := ⟨mem, Go.Proofs.Tryd.prog, [(42, r42), (53, r53)], [], [], [], [0, 2, 3, 5], 15, 25⟩
def r25 : bN := j1 aaY
def abz : Cx := ⟨mem, Go.Proofs.Tryd.prog, [(44, r44), (53, r53)], [], [], [], [0, 2, 3, 5], 14, 26⟩
def r26 : bN := j1 abz
def cr7 : Cx := ⟨mem, Go.Proofs.Tryd.prog, [(5, r5), (22, r22), (23, r23), (24, r24), (25, r25), (26, r26)], [], [], [], [0, 1, 4, 5, 7, 12, 8, 10, 6, 27, 15, 17, 19, 26, 24, 2], 156, 7⟩
def r7 : bN := j1 cr7
def cr79 : Cx := ⟨mem, Go.Proofs.Tryd.prog, [], [], [], [], [0, 1, 4, 5], 16, 79⟩
def r79 : bN := j1 cr79
def nr : Cx := ⟨mem, Go.Proofs.Tryd.prog, [(79, r79)], [], [], [], [0, 1, 2, 6, 7, 8, 10, 9, 11], 64, 66⟩
def r66 : bN := j1 nr
def a1u : Cx := ⟨mem, Go.Proofs.Tryd.prog, [(66, r66)], [], [], [], [0, 2, 3, 4, 6], 45, 54⟩
def r54 : bN := j1 a1u
def xy : Cx := ⟨mem, Go.Proofs.Tryd.prog, [(54, r54)], [], [], [], [0, 2, 3, 4, 5], 59, 27⟩
def r27 : bN := j1 xy
def adz : Cx := ⟨mem, Go.Proofs.Tryd.prog, [], [], [], [], [0, 1, 4], 12, 28⟩
def r28 : bN := j1 adz
def cr8 : Cx := ⟨mem, Go.Proofs.Tryd.prog, [(14, r14), (21, r21), (27, r27), (28, r28), (29, r29), (30, r30), (31, r31)], [], [], [], [0, 1, 4, 5, 8, 2, 6, 7, 9, 10, 11], 120, 8⟩
def r8 : bN := j1 cr8
def cr33 : Cx := ⟨mem, Go.Proofs.Tryd.prog, [], [], [], [], [0, 2], 31, 33⟩
def r33 : bN := j1 cr33
def r9 : bN := a3C r5 r33 r20 r19
def cr35 : Cx := ⟨mem, Go.Proofs.Tryd.prog, [], [], [], [], [0, 2], 31, 35⟩
def r35 : bN := j1 cr35
def cr36 : Cx := ⟨mem, Go.Proofs.Tryd.prog, [(30, r30), (45, r45)], [], [], [], [0, 2], 17, 36⟩
def r36 : bN := j1 cr36
def tv : Cx := ⟨mem, Go.Proofs.Tryd.prog, [(14, r14), (21, r21), (35, r35), (36, r36)], [], [], [], [0, 1, 2, 6, 7, 9, 3, 8, 5], 46, 10⟩
def r10 : bN := j1 tv
def r37 : bN := a1J
def cr38 : Cx := ⟨mem, Go.Proofs.Tryd.prog, [(22, r22), (24, r24), (26, r26), (33, r33), (49, r49)], [], [], [], [0, 2, 3], 66, 38⟩
def r38 : bN := j1 cr38
def rM : Cx := ⟨mem, Go.Proofs.Tryd.prog, [(7, r7), (37, r37), (38, r38)], [], [], [], [0, 1, 4, 5, 6, 7, 8, 55, 54, 53, 2, 11, 14, 9], 75, 11⟩
def r11 : bN := j1 rM
def xH : Cx := ⟨mem, Go.Proofs.Tryd.prog, [], [], [], [], [0, 2, 3, 6, 4, 5], 31, 39⟩
def r39 : bN := j1 xH
def y7 : Cx := ⟨mem, Go.Proofs.Tryd.prog, [(27, r27), (28, r28), (35, r35), (36, r36), (45, r45)], [], [], [], [0, 2, 3, 4], 42, 40⟩
def r40 : bN := j1 y7
def rS : Cx := ⟨mem, Go.Proofs.Tryd.prog, [(8, r8), (39, r39), (40, r40)], [], [], [], [0, 1, 4, 5, 6, 7, 12, 2, 11, 13, 9], 75, 12⟩
def r12 : bN := j1 rS
def vp : Cx := ⟨mem, Go.Proofs.Tryd.prog, [], [], [], [], [0, 1, 4, 5], 26, 15⟩
def r15 : bN := j1 vp
def cr3 : Cx := ⟨mem, Go.Proofs.Tryd.prog, [(4, r4), (5, r5), (6, r6), (7, r7), (8, r8), (9, r9), (10, r10), (11, r11), (12, r12), (13, r13), (14, r14), (15, r15)], [], [], [], [0, 1, 2, 3, 4, 5, 12, 6, 7, 9], 158, 3⟩
def r3 : bN := j1 cr3
end
noncomputable section
def sK : Sm := gT Go.Proofs.YtbamejikafhenaaDoor.Tz.a1L [1, 1, 1, 0]
def yu : Fr → Hp → aa := iA Go.Proofs.YtbamejikafhenaaDoor.Tz.a1L [1, 1, 1, 0]
def wQ : aa → aa := gX Go.Proofs.YtbamejikafhenaaDoor.Tz.a1L [1, 1, 1, 0]
def kz : Sm := aC Go.Proofs.YtbamejikafhenaaDoor.Tz.a1L [1, 1, 1, 0, 0, 0, 1, 1, 1, 1]
def zf : Sm := aC Go.Proofs.YtbamejikafhenaaDoor.Tz.a1L [1, 1, 1, 0, 0]
def abp : aa → aa := eN Go.Proofs.YtbamejikafhenaaDoor.Tz.a1L
theorem t59 (x0 x1 : AV) (hp : Hp) : r59.f (.nd x0 .lf (.nd x1 .lf .lf)) hp = abp (cF mem (aY mem) (AV.agg (aw [.int 4 0, .int 4 0, .int 4 0, .int 4 0, .int 4 0, .int 4 0, .int 4 0, .int 4 0, .int 4 0, .int 4 0, .int 4 0, .int 4 0, .int 4 0, .int 4 0, .int 4 0, .int 4 0, .int 4 0, .int 4 0, .int 4 0, .int 4 0, .int 4 0, .int 4 0, .int 4 0, .int 4 0, .int 4 0, .int 4 0, .int 4 0, .int 4 0, .int 4 0, .int 4 0, .int 4 0, .int 4 0, .int 4 0, .int 4 0, .int 4 0, .int 4 0, .int 4 0, .int 4 0, .int 4 0, .int 4 0, .int 4 0, .int 4 0, .int 4 0, .int 4 0, .int 4 0, .int 4 0, .int 4 0, .int 4 0, .int 4 0, .int 4 0, .int 4 0, .int 4 0, .int 4 0, .int 4 0, .int 4 0, .int 4 0, .int 4 0, .int 4 0, .int 4 0, .int 4 0, .int 4 0, .int 4 0, .int 4 0, .int 4 0]) 64) 1 64 hp (fun v0 v1 => yu (.n x0 x1 (S []) (.int 3 64) v0 .uu .uu .uu .e) v1)) := (congrArg (fun F => bN.f F (.nd x0 .lf (.nd x1 .lf .lf)) hp) (ba Go.Proofs.YtbamejikafhenaaDoor.Tz.a1L).symm).trans (by kernel_rfl)
theorem ret59 (x0 x1 x2 x3 x4 : AV) (hp : Hp) : abp (.ret (.n x0 x1 x2 x3 x4 .uu .uu .uu .e) hp) = .val x2 hp := by kernel_rfl
theorem a2n (x0 x1 x2 x3 x4 : AV) (hp : Hp) : (sK).run .lf (.n x0 x1 x2 x3 x4 .uu .uu .uu .e) hp = (ae .sub 3).f x3 (.int 3 1) (fun v2 => (ae .rem 7).f x0 x1 (fun v3 => fP v3 16 (fun v4 => bu 4 (Nat.mod (Nat.div 136107713667768957684761770045455085872 (Nat.pow 256 v4)) 256) (fun v5 => kB 1 64 x4 v2 (fun v6 => aH mem 1 v6 v5 hp (fun v7 => (ae .quo 7).f x0 x1 (fun v8 => (ae .eql 7).f v8 (.int 7 0) (fun v9 => AV.ay v9 (fun v10 => when v10 (AV.pX x4 (fun v11 v12 => Hp.use mem v7 v11 (Nat.add v12 64) (fun _ _ _ _ _ => eS 1 (.ms v11 v12 64 1) (.some v2) .none .none (fun v18 => AV.fg v18 (fun _ _ _ _ => my mem 1 v18 v7 (fun v23 v24 v25 _ => (pack mem v25).f v23 v24 (fun v27 => .ret (.n v8 x1 (.str v27 v25) v2 x4 .uu .uu .uu .e) v7))) (fun _ _ _ _ => my mem 1 v18 v7 (fun v32 v33 v34 _ => (pack mem v34).f v32 v33 (fun v36 => .ret (.n v8 x1 (.str v36 v34) v2 x4 .uu .uu .uu .e) v7))) (fun v37 => ar (or (Nat.beq v37 8) (Nat.beq v37 6)) (.ret (.n v8 x1 (S []) v2 x4 .uu .uu .uu .e) v7)) (fun _ _ => .fail)))) (fun v40 v41 v42 v43 => ar (Nat.beq v43 1) (ar (Nat.beq (Nat.mod v41 1) 0) (ar (Nat.ble 64 v42) (eS 1 (.vs v40 (Nat.div v41 1) 64 1) (.some v2) .none .none (fun v44 => AV.fg v44 (fun _ _ _ _ => my mem 1 v44 v7 (fun v49 v50 v51 _ => (pack mem v51).f v49 v50 (fun v53 => .ret (.n v8 x1 (.str v53 v51) v2 x4 .uu .uu .uu .e) v7))) (fun _ _ _ _ => my mem 1 v44 v7 (fun v58 v59 v60 _ => (pack mem v60).f v58 v59 (fun v62 => .ret (.n v8 x1 (.str v62 v60) v2 x4 .uu .uu .uu .e) v7))) (fun v63 => ar (or (Nat.beq v63 8) (Nat.beq v63 6)) (.ret (.n v8 x1 (S []) v2 x4 .uu .uu .uu .e) v7)) (fun _ _ => .fail))))))) ((kz).run .lf (.n v8 x1 x2 v2 x4 .uu .uu .uu .e) v7)))))))))) := by kernel_rfl
theorem a2k (fr : Fr) (hp : Hp) : yu fr hp = wQ (aD sK 1000000 fr hp) := rfl
theorem a18 (fr : Fr) (hp : Hp) : wQ (.ret fr hp) = .ret fr hp := by kernel_rfl
theorem rh (x0 x1 x2 x3 x4 : AV) (hp : Hp) : (kz).run .lf (.n x0 x1 x2 x3 x4 .uu .uu .uu .e) hp = (zf).run .lf (.n x0 x1 x2 x3 x4 .uu .uu .uu .e) hp := by kernel_rfl
theorem a1c (x0 x1 x2 x3 x4 : AV) (hp : Hp) : (zf).run .lf (.n x0 x1 x2 x3 x4 .uu .uu .uu .e) hp = .ok (.n x0 x1 x2 x3 x4 .uu .uu .uu .e) hp := by kernel_rfl
end
end Go.Proofs.YtbamejikafhenaaDoor.Tz
