import Derived.Test.YtpiokjcbadfalaaGreatDoorEvAN
import Derived.Test.YtpiokjcbadfalaaGreatDoorEvAO
import Derived.KernelRfl
import Derived.Test.YtpiokjcbadfalaaGreatDoorProg
namespace Go.Proofs.YtpiokjcbadfalaaGreatDoor.Ev
theorem a9f {α : Type} (d : α) : ∀ (n : Nat) (t : Tr α) (i : Nat) (k : α → ab),i + 1 < 2 ^ n → (gk d n).f t i k = k (t.get d i)
  | 0,t,i,k,h=>absurd h (by simp)
  | n + 1,.lf,i,k,h=>by rw [qs]; rfl
  | n + 1,.nd v l r,0,k,h=>rfl
  | n + 1,.nd v l r,j + 1,k,h=>by
    have e : (gk d (n + 1)).f (.nd v l r) (j + 1) k = (Nat.rec (motive := fun _=>ab) ((gk d n).f l (Nat.div j 2) k) (fun _ _=>(gk d n).f r (Nat.div j 2) k) (j % 2) : ab) := rfl
    have hlt : j / 2 + 1 < 2 ^ n := by have : 2 ^ (n + 1) = 2 * 2 ^ n := by rw [Nat.pow_succ,Nat.mul_comm]
                                       omega
    rw [e,j7]
    rcases vu j with hj | hj
    · rw [hj,if_pos rfl]; exact a9f d n l (j / 2) k hlt
    · rw [hj,if_neg (by decide)]; exact a9f d n r (j / 2) k hlt
theorem uV {α : Type} (d : α) : ∀ (n : Nat) (t : Tr α) (i : Nat) (x : α),i + 1 < 2 ^ n → ∃ t',iV d t i x t' ∧ ∀ k,(sk d n).f t i x k = k t'
  | 0,t,i,x,h=>absurd h (by simp)
  | n + 1,.lf,0,x,h=>⟨_,qR (fun j=>by cases j <;> rfl),fun _=>rfl⟩
  | n + 1,.nd v l r,0,x,h=>⟨_,fun j=>by cases j <;> rfl,fun _=>rfl⟩
  | n + 1,.lf,j + 1,x,h=>by
    have hlt : j / 2 + 1 < 2 ^ n := by have : 2 ^ (n + 1) = 2 * 2 ^ n := by rw [Nat.pow_succ,Nat.mul_comm]
                                       omega
    obtain ⟨t',h1,h2⟩ := uV d n .lf (j / 2) x hlt
    have e : ∀ k,(sk d (n + 1)).f .lf (j + 1) x k = (Nat.rec (motive := fun _=>ab) ((sk d n).f .lf (Nat.div j 2) x fun l=>k (.nd d l .lf)) (fun _ _=>(sk d n).f .lf (Nat.div j 2) x fun r=>k (.nd d .lf r)) (j % 2) : ab) := fun _=>rfl
    rcases vu j with hj | hj
    · exact ⟨_,qR (oY hj h1),fun k=>by rw [e,hj]; exact h2 _⟩
    · exact ⟨_,qR (mi hj h1),fun k=>by rw [e,hj]; exact h2 _⟩
  | n + 1,.nd v l r,j + 1,x,h=>by
    have hlt : j / 2 + 1 < 2 ^ n := by have : 2 ^ (n + 1) = 2 * 2 ^ n := by rw [Nat.pow_succ,Nat.mul_comm]
                                       omega
    have e : ∀ k,(sk d (n + 1)).f (.nd v l r) (j + 1) x k = (Nat.rec (motive := fun _=>ab) ((sk d n).f l (Nat.div j 2) x fun l'=>k (.nd v l' r)) (fun _ _=>(sk d n).f r (Nat.div j 2) x fun r'=>k (.nd v l r')) (j % 2) : ab) := fun _=>rfl
    rcases vu j with hj | hj
    · obtain ⟨t',h1,h2⟩ := uV d n l (j / 2) x hlt
      exact ⟨_,oY hj h1,fun k=>by rw [e,hj]; exact h2 _⟩
    · obtain ⟨t',h1,h2⟩ := uV d n r (j / 2) x hlt
      exact ⟨_,mi hj h1,fun k=>by rw [e,hj]; exact h2 _⟩
theorem anu {t : Row} {i : Nat} (h : i < 16777215) (k : AV → ab) : mem.rg.f t i k = k (t.at i) := (a9f (α := AV) .uu 24 t i k (by omega) :)
theorem rs_in {t : Row} {i : Nat} (x : AV) (h : i < 16777215) : ∃ t',iV .uu t i x t' ∧ ∀ k,mem.rs.f t i x k = k t' := uV (α := AV) .uu 24 t i x (by omega)
theorem al3 {t : Tr bN} {i : Nat} (h : i < 16777215) (k : bN → ab) : mem.hg.f t i k = k (t.get .dead i) := (a9f (α := bN) .dead 24 t i k (by omega) :)
theorem hs_in {t : Tr bN} {i : Nat} (x : bN) (h : i < 16777215) : ∃ t',iV .dead t i x t' ∧ ∀ k,mem.hs.f t i x k = k t' := uV (α := bN) .dead 24 t i x (by omega)
structure a2j (M : Mem) : Prop where
  rg : ∀ {t : Row} {i : Nat},i < 16777215 → ∀ k,M.rg.f t i k = k (t.at i)
  rs : ∀ {t : Row} {i : Nat} (x : AV),i < 16777215 → ∃ t',iV .uu t i x t' ∧ ∀ k,M.rs.f t i x k = k t'
  hg : ∀ {t : Tr bN} {i : Nat},i < 16777215 → ∀ k,M.hg.f t i k = k (t.get .dead i)
  hs : ∀ {t : Tr bN} {i : Nat} (x : bN),i < 16777215 → ∃ t',iV .dead t i x t' ∧ ∀ k,M.hs.f t i x k = k t'
  h0 : ∀ (B B' : bN) (k : Tr bN → ab),M.hs.f (.nd B .lf .lf) 0 B' k = k (.nd B' .lf .lf)
  n0 : ∀ (B : bN) (k : Tr bN → ab),M.hs.f .lf 0 B k = k (.nd B .lf .lf)
theorem aub (B B' : bN) (k : Tr bN → ab) : mem.hs.f (.nd B .lf .lf) 0 B' k = k (.nd B' .lf .lf) := by kernel_rfl
theorem auc (B : bN) (k : Tr bN → ab) : mem.hs.f .lf 0 B k = k (.nd B .lf .lf) := by kernel_rfl
theorem tP : a2j mem := ⟨anu,rs_in,al3,hs_in,aub,auc⟩
def H1 (B : bN) : Hp := ⟨.nd B .lf .lf,1,[],0⟩
section
variable {M : Mem} (ok : a2j M)
include ok
theorem a7b (B : bN) (k : bN → ab) : (H1 B).get M 0 k = k B := by
  show M.hg.f (.nd B .lf .lf) 0 k = _
  rw [ok.hg (by decide)]; rfl
theorem auw (B B' : bN) (k : Hp → ab) : (H1 B).put M 0 B' k = k (H1 B') := by
  show M.hs.f (.nd B .lf .lf) 0 B' (fun t'=>k ⟨t',1,[],0⟩) = _
  rw [ok.h0]; rfl
theorem aug (B : bN) (k : Nat → Hp → ab) : (br M).f .empty B k = k 0 (H1 B) := by
  show aL 0 (fun nx=>M.hs.f .lf nx B fun t'=>k nx ⟨t',Nat.succ nx,[],0⟩) = _
  rw [az,ok.n0]; rfl
end
section
variable {M : Mem} {h : Hp} {b m : Nat}
theorem a1Z {rw' fl : Bool} {z s : Nat} {t : Row} (hg : ∀ k,h.get M b k = k (.row rw' fl z s t)) (hm : m ≤ s) (k : Bool → Bool → Nat → Nat → Row → ab) : h.use M b m k = k rw' fl z s t := by
  unfold Hp.use
  rw [hg]
  exact aG (by rw [bn]; exact hm) _
theorem ag2 {fl : Bool} {z s : Nat} {t : Row} (hg : ∀ k,h.get M b k = k (.row true fl z s t)) (hm : m ≤ s) (hp : h.pr = []) (k : Bool → Nat → Nat → Row → ab) : h.own M b m k = k fl z s t := by
  unfold Hp.own
  rw [a1Z hg hm]
  obtain ⟨tt,nx,pr,rb⟩ := h
  have hp' : pr = [] := hp
  subst hp'
  rfl
theorem ahz {fl : Bool} {s : Nat} {t : Row} {o i c : Nat} (hg : ∀ k,h.get M b k = k (.row true fl 1 s t)) (hm : o + 1 ≤ s) (hp : h.pr = []) (k : Hp → ab) : bk M 1 (.ptr b o) (.int i c) h k = M.rs.f t o (.int i c) fun t=>h.put M b (.row true (bp fl true) 1 s t) k := by
  show h.own M b (Nat.add o 1) (fun fl z s t=>wrV M 1 z t o (.int i c) fun t f=>h.put M b (.row true (bp fl f) z s t) k) = _
  rw [ag2 hg hm hp]
  rfl
theorem acm (n : Nat) (t : Row) (o : Nat) (k : Nat → ab) : (pack M (n + 1)).f t o k = M.rg.f t o fun v=>v.bO fun i x=>au (Nat.beq i 4) ((pack M n).f t (Nat.succ o) fun r=>aL (Nat.add x (Nat.mul 256 r)) k) := rfl
theorem a8c {rw' fl : Bool} {s : Nat} {t : Row} {o n : Nat} (hg : ∀ k,h.get M b k = k (.row rw' fl 1 s t)) (hm : o + n ≤ s) (k : Row → Nat → Nat → Bool → ab) : lD M 1 (.ms b o n 1) h k = k t o n fl := by
  show au (Nat.beq 1 1) (h.use M b (Nat.add o (Nat.mul n 1)) fun _ fl x _ t=>au (Nat.beq x 1) (au (Nat.beq (Nat.mod o 1) 0) (aL (Nat.div o 1) fun e=>k t e n fl))) = _
  rw [aG (b := Nat.beq 1 1) rfl,a1Z hg (by show o + n * 1 ≤ s; omega)]
  show au (Nat.beq 1 1) (au (Nat.beq (o % 1) 0) (aL (o / 1) fun e=>k t e n fl)) = _
  rw [aG (b := Nat.beq 1 1) rfl,aG (by rw [aC]; omega),az,Nat.div_one]
end
section
variable {M : Mem} (ok : a2j M)
include ok
theorem ahy {fl : Bool} {s : Nat} {t : Row} {o : Nat} {c : Nat} (ho : o < s) (hs : s < 16777215) : ∃ t',iV .uu t o (B8 c) t' ∧ ∀ k,bk M 1 (.ptr 0 o) (B8 c) (H1 (.row true fl 1 s t)) k = k (H1 (.row true (bp fl true) 1 s t')) := by
  obtain ⟨t',h1,h2⟩ := ok.rs (t := t) (i := o) (B8 c) (by omega)
  refine ⟨t',h1,fun k=>?_⟩
  exact (ahz (M := M) (i := 4) (c := c) (o := o) (a7b ok (.row true fl 1 s t)) ho rfl k).trans ((h2 _).trans (auw ok _ _ _))
theorem a9U (b : List UInt8) : ∀ {t : Row} {o : Nat},o + b.length < 16777215 → (∀ j (h : j < b.length),t.at (o + j) = B8 (b[j]).toNat) → ∀ k,(pack M b.length).f t o k = k (aR b) := by
  induction b with
  | nil=>exact fun _ _ k=>rfl
  | cons c b ih=>
    intro t o hl h k
    simp only [List.length_cons] at hl
    have h0 := h 0 (by simp)
    rw [Nat.add_zero] at h0
    rw [List.length_cons,acm,ok.rg (by omega),h0]
    have e : ∀ f : Nat → Nat → ab,AV.bO (B8 ((c :: b)[0]).toNat) f = f 4 c.toNat := fun _=>rfl
    rw [e,aG (b := Nat.beq 4 4) rfl,ih (by omega) (fun j hj=>by
      have := h (j + 1) (by simp; omega)
      rw [show Nat.succ o + j = o + (j + 1) by omega,this]; rfl),az]
    rfl
end
section
variable {M : Mem} (ok : a2j M)
include ok
theorem a9V : ∀ (n : Nat) (l t : Row) (o : Nat),n ≤ len l → o + n < 16777215 → ∃ t',∀ k,(nR M 1 n).f l t o k = k t'
  | 0,l,t,o,_,_=>⟨t,fun _=>rfl⟩
  | n + 1,.lf,t,o,h,_=>absurd h (Nat.not_succ_le_zero n)
  | n + 1,.nd v a r,t,o,h,ho=>by
    obtain ⟨t1,_,h1⟩ := ok.rs (t := t) (i := o) v (by omega)
    obtain ⟨t2,h2⟩ := a9V n r t1 (o + 1) (Nat.le_of_succ_le_succ h) (by omega)
    refine ⟨t2,fun k=>?_⟩
    show wrC M 1 t o v (fun t=>(nR M 1 n).f r t (Nat.succ o) k) = _
    show M.rs.f t o v (fun t=>(nR M 1 n).f r t (Nat.succ o) k) = _
    rw [h1]
    exact h2 k
theorem ao1 {z : Nat} {l : Row} (hz : 2 ≤ z) (hz2 : z < 16777215) (hl : len l = z) (hp : ∀ k,eR l k = k true) (_ : True = True) : ∃ t,∀ k,dU M (br M) (.agg l z) 1 z .empty k = k (.ptr 0 0) (H1 (.row true true 1 z t)) := by
  obtain ⟨t,h⟩ := a9V ok z l .lf 0 (by omega) (by omega)
  refine ⟨t,fun k=>?_⟩
  show when (Nat.beq z 1) _ (au (Nat.beq z z) (eR l fun p=>when (Nat.beq 1 z) _ (when (Nat.beq 1 1) ((nR M 1 z).f l .lf 0 fun t=>(br M).f .empty (.row true p 1 z t) fun id hp=>k (.ptr id 0) hp) _))) = _
  have e1 : Nat.beq z 1 = false := by
    cases hb : Nat.beq z 1 with
    | false=>rfl
    | true=>rw [aC] at hb; omega
  have e2 : Nat.beq 1 z = false := by
    cases hb : Nat.beq 1 z with
    | false=>rfl
    | true=>rw [aC] at hb; omega
  rw [e1,a25,aG (Nat.beq_refl z),hp,e2,a25]
  show (nR M 1 z).f l .lf 0 (fun t=>(br M).f .empty (.row true true 1 z t) fun id hp=>k (.ptr id 0) hp) = _
  rw [h,aug ok]
end
def Still (v : AV) : Prop := (∀ hp k,(nB mem 24).f hp v k = k v hp) ∧ ∀ hc hp b k,(imp mem 24).f v hc hp b k = k v hc hp b
theorem mj (i n : Nat) : Still (.int i n) := ⟨fun _ _=>rfl,fun _ _ _ _=>rfl⟩
theorem ll (z : Int) : Still (I z) := mj 3 _
theorem vR (n : Nat) : Still (U n) := mj 7 n
theorem a1X (n : Nat) : Still (B8 n) := mj 4 n
theorem c8 (l : List UInt8) : Still (S l) := ⟨fun _ _=>rfl,fun _ _ _ _=>rfl⟩
theorem y9 (b : Bool) : Still (.bool b) := ⟨fun _ _=>rfl,fun _ _ _ _=>rfl⟩
inductive lx : Row → Prop
  | lf : lx .lf
  | nd {v : AV} {r : Row} (h : Still v) (hr : lx r) : lx (.nd v .lf r)
theorem fk {l : Row} (h : lx l) : ∀ hp k,zl (nB mem 24) l hp k = k l hp := by
  induction h with
  | lf=>exact fun _ _=>rfl
  | @nd v r hv _ ih=>
    intro hp k
    show (nB mem 24).f hp v (fun v hp=>zl (nB mem 24) r hp fun r hp=>k (.nd v .lf r) hp) = _
    rw [hv.1]
    exact ih _ _
def vU (v : AV) : Prop := ∀ hc hp b k,(imp mem 24).f v hc hp b k = k v hc hp b
theorem Still.goes {v : AV} (h : Still v) : vU v := h.2
theorem a0S {F : aF} {l : Row} {v : AV} {hc : Hp} (hl : lx l) (hv : vU v) (e : F.f l .empty = .val v hc) (hp : Hp) (k : AV → Hp → ab) : aH mem false F l hp k = k v hp := by
  show er mem hp l (fun a ho=>dQ mem F a hp ho k) (dB F l hp k) = _
  unfold er
  rw [fk hl]
  show dQ mem F l hp hp k = _
  unfold dQ
  rw [e]
  show (imp mem 24).f v hc hp false (fun v' _ hp' b=>when b _ (k v' hp')) = _
  rw [hv]
  rfl
theorem wy {M H M' n : Nat} (h : Nat.sub big M = 0) : yz M H M' n = n % M' := by
  cases H with
  | zero=>rfl
  | succ H=>
    show (Bool.rec (motive := fun _=>Nat) (Nat.mod n M') (Nat.mod (Nat.add n (Nat.sub big M)) M') (Nat.ble (H + 1) n)) = _
    rw [h]
    cases Nat.ble (H + 1) n <;> rfl
theorem a0W {z : Int} {k : AV → ab} : AV.bO (I z) (fun i n=>bQ 7 (yz (md i) (hf i) 18446744073709551616 n) k) = k (U (z % 18446744073709551616).toNat) := by
  rw [a9N,wy (by rfl),fX]
  show k (AV.int 7 _) = k (AV.int 7 _)
  congr 2; omega
theorem aiK {n : Nat} {k : AV → ab} : AV.bO (U n) (fun i n=>bQ 3 (yz (md i) (hf i) 18446744073709551616 n) k) = k (I (n : Int)) := by
  rw [a9O,wy (by rfl),fX]
  show k (AV.int 3 _) = k (AV.int 3 _)
  congr 2
theorem a9J {i n M : Nat} {k : AV → ab} (h : md i = M) : AV.bO (.int i n) (fun i n=>bQ i (Nat.mod (Nat.sub (md i) n) (md i)) k) = k (.int i ((M - n) % M)) := by
  show bQ i (Nat.mod (Nat.sub (md i) n) (md i)) k = _
  rw [h,fX]; rfl
theorem alc {n : Nat} {k : AV → ab} : AV.bO (U n) (fun i n=>bQ i (Nat.mod (Nat.sub (md i) n) (md i)) k) = k (U ((18446744073709551616 - n) % 18446744073709551616)) := by
  unfold U
  rw [a9J (M := 18446744073709551616) rfl]
theorem neg_I {z : Int} {k : AV → ab} : AV.bO (I z) (fun i n=>bQ i (Nat.mod (Nat.sub (md i) n) (md i)) k) = k (I (-z)) := by
  unfold I
  rw [a9J (M := 18446744073709551616) rfl]
  congr 2; omega
theorem adF (n : Nat) (hp : Hp) (f : Hp → ab) : kh n hp f = f ⟨hp.t,hp.nx + n,hp.pr,hp.nx⟩ := by
  obtain ⟨t,nx,pr,rb⟩ := hp
  show aL nx (fun nx=>aL (nx + n) fun m=>f ⟨t,m,pr,nx⟩) = _
  rw [az,az]
theorem bnd_U {a n : Nat} {k : Nat → ab} (h : a ≤ n) : gL (U a) n k = k a := by
  show au (Nat.ble a n) (mY 7 a (k a)) = _
  rw [aG (by rw [bn]; exact h)]
  rfl
theorem call1 {F : aF} {a v : AV} (ha : Still a) (hv : vU v) (e : ∃ hc,F.f (.nd a .lf .lf) .empty = .val v hc) (hp : Hp) (k : AV → Hp → ab) : aH mem false F (.nd a .lf .lf) hp k = k v hp := by
  obtain ⟨hc,e⟩ := e
  exact a0S (.nd ha .lf) hv e hp k
theorem call2 {F : aF} {a b v : AV} (ha : Still a) (hb : Still b) (hv : vU v) (e : ∃ hc,F.f (.nd a .lf (.nd b .lf .lf)) .empty = .val v hc) (hp : Hp) (k : AV → Hp → ab) : aH mem false F (.nd a .lf (.nd b .lf .lf)) hp k = k v hp := by
  obtain ⟨hc,e⟩ := e
  exact a0S (.nd ha (.nd hb .lf)) hv e hp k
noncomputable section
open Classical in
def dz {α : Type} (d : α) (t : Tr α) (i : Nat) (x : α) : Tr α := if h : i + 1 < 2 ^ 24 then (uV d 24 t i x h).choose else t
def Hp.eK (h : Hp) (b : Nat) (B : bN) : Hp := ⟨dz .dead h.t b B,h.nx,h.pr,h.rb⟩
def Hp.add (h : Hp) (B : bN) : Hp := ⟨dz .dead h.t h.nx B,h.nx + 1,h.pr,h.rb⟩
def Hp.yL (h : Hp) (n : Nat) : Hp := ⟨h.t,h.nx + n,h.pr,h.nx⟩
end
theorem sW {α : Type} {d : α} {t : Tr α} {i : Nat} {x : α} (h : i < 16777215) (j : Nat) : (dz d t i x).get d j = if j = i then x else t.get d j := by
  unfold dz
  rw [dif_pos (by omega)]
  exact (uV d 24 t i x (by omega)).choose_spec.1 j
theorem jO {α : Type} {d : α} {t : Tr α} {i : Nat} {x : α} (h : i < 16777215) (k : Tr α → ab) : (sk d 24).f t i x k = k (dz d t i x) := by
  unfold dz
  rw [dif_pos (by omega)]
  exact (uV d 24 t i x (by omega)).choose_spec.2 k
structure mA (M : Mem) : Prop where
  rg : ∀ {t : Row} {i : Nat},i < 16777215 → ∀ k,M.rg.f t i k = k (t.at i)
  rs : ∀ {t : Row} {i : Nat} {x : AV},i < 16777215 → ∀ k,M.rs.f t i x k = k (dz .uu t i x)
  hg : ∀ {t : Tr bN} {i : Nat},i < 16777215 → ∀ k,M.hg.f t i k = k (t.get .dead i)
  hs : ∀ {t : Tr bN} {i : Nat} {x : bN},i < 16777215 → ∀ k,M.hs.f t i x k = k (dz .dead t i x)
theorem rs_t {t : Row} {i : Nat} {x : AV} (h : i < 16777215) (k : Row → ab) : mem.rs.f t i x k = k (dz .uu t i x) := (jO (α := AV) (d := .uu) h k :)
theorem hs_t {t : Tr bN} {i : Nat} {x : bN} (h : i < 16777215) (k : Tr bN → ab) : mem.hs.f t i x k = k (dz .dead t i x) := (jO (α := bN) (d := .dead) h k :)
theorem dx : mA mem := ⟨anu,rs_t,al3,hs_t⟩
theorem vN {t : Row} {i : Nat} {x : AV} (h : i < 16777215) (j : Nat) : (dz .uu t i x : Row).at j = if j = i then x else t.at j := sW h j
section
variable {h : Hp} {b c : Nat} {B : bN}
theorem dW (hb : b < 16777215) : (h.eK b B).at c = if c = b then B else h.at c := sW hb c
theorem eF (hb : h.nx < 16777215) : (h.add B).at c = if c = h.nx then B else h.at c := sW hb c
theorem jh (hb : b < 16777215) : (h.eK b B).at b = B := by rw [dW hb,if_pos rfl]
theorem kL (hb : b < 16777215) (hc : c ≠ b) : (h.eK b B).at c = h.at c := by rw [dW hb,if_neg hc]
theorem add_same (hb : h.nx < 16777215) : (h.add B).at h.nx = B := by rw [eF hb,if_pos rfl]
theorem iO (hb : h.nx < 16777215) (hc : c = h.nx) : (h.add B).at c = B := by rw [eF hb,if_pos hc]
theorem fE (hb : h.nx < 16777215) (hc : c ≠ h.nx) : (h.add B).at c = h.at c := by rw [eF hb,if_neg hc]
theorem gG : (h.eK b B).nx = h.nx := rfl
theorem dy : (h.add B).nx = h.nx + 1 := rfl
theorem a1H : (h.eK b B).pr = h.pr := rfl
theorem a1G : (h.add B).pr = h.pr := rfl
theorem aE : (h.eK b B).rb = h.rb := rfl
theorem ah3 : (h.add B).rb = h.rb := rfl
theorem nW {n : Nat} : (h.yL n).at c = h.at c := rfl
theorem tR {n : Nat} : (h.yL n).nx = h.nx + n := rfl
theorem aga {n : Nat} : (h.yL n).pr = h.pr := rfl
theorem aD {n : Nat} : (h.yL n).rb = h.nx := rfl
theorem acf : Hp.empty.nx = 0 := rfl
theorem pr_e : Hp.empty.pr = [] := rfl
theorem abp (n : Nat) (f : Hp → ab) : kh n h f = f (h.yL n) := adF n h f
end
def aA : List AV → Row
  | []=>.lf
  | a :: l=>.nd a .lf (aA l)
def Bx (p : Bool) (l : List AV) : bN := .row true p l.length l.length (.nd (.agg (aA l) l.length) .lf .lf)
noncomputable def AV.pl (v : AV) : Bool := match v with
  | .int .. | .bool .. | .str .. => true
  | .x g .. => jv g
  | _=>false
noncomputable def iw (l : List AV) : Bool := l.all AV.pl
def One (v : AV) : Prop := match v with
  | .agg .. | .bu .. => False
  | .x g .. => 1 ≤ g
  | _=>True
theorem ag9 (v : AV) (k : Bool → ab) : v.plain k = k v.pl := by
  cases v with
  | x g t a b c=>show iF (jv g) k = k (jv g); cases jv g <;> rfl
  | _=>rfl
theorem fJ (l : List AV) (k : Bool → ab) : eR (aA l) k = k (iw l) := by
  induction l generalizing k with
  | nil=>rfl
  | cons a l ih=>
    show a.plain (fun b=>when b (eR (aA l) k) (k false)) = _
    rw [ag9,ih]
    show when a.pl _ _ = k (a.pl && iw l)
    cases a.pl <;> rfl
theorem gK {v : AV} (h : One v) (k : AV → Bool → ab) : lK v k = k v v.pl := by
  cases v with
  | x g t a b c=>
    have hg : 1 ≤ g := h
    show au (Nat.ble 1 g) (iF (jv g) fun f=>k _ f) = k _ (jv g)
    rw [aG (by rw [bn]; exact hg)]
    cases jv g <;> rfl
  | agg _ _=>exact absurd h (fun x=>x)
  | bu _ _=>exact absurd h (fun x=>x)
  | _=>rfl
theorem zX {l : List AV} {i : Nat} (h : i < l.length) (k : AV → ab) : (yS i).f (aA l) k = k l[i] := by
  induction l generalizing i with
  | nil=>exact absurd h (Nat.not_lt_zero _)
  | cons a l ih=>
    cases i with
    | zero=>rfl
    | succ i=>exact ih (Nat.lt_of_succ_lt_succ h)
theorem ac7 {l : List AV} {i : Nat} (h : i < l.length) (v : AV) (k : Row → ab) : (yT i).f (aA l) v k = k (aA (l.set i v)) := by
  induction l generalizing i k with
  | nil=>exact absurd h (Nat.not_lt_zero _)
  | cons a l ih=>
    cases i with
    | zero=>rfl
    | succ i=>
      show (yT i).f (aA l) v (fun r=>k (.nd a .lf r)) = _
      rw [ih (Nat.lt_of_succ_lt_succ h)]
      rfl
theorem cb (n : Nat) : Nat.beq n n = true := Nat.beq_refl n
theorem iD {a b : Nat} (h : a ≠ b) : Nat.beq a b = false := by
  cases hb : Nat.beq a b with
  | false=>rfl
  | true=>rw [aC] at hb; exact absurd hb h
theorem dR {a b : Nat} (h : a ≤ b) : Nat.ble a b = true := by rw [bn]; exact h
theorem fA {b : Bool} (h : b = false) (x y : ab) : when b x y = y := by rw [h]; rfl
theorem cK {b : Bool} (h : b = true) (x y : ab) : when b x y = x := by rw [h]; rfl
section
variable {M : Mem} (ok : mA M)
include ok
theorem get_at {h : Hp} {b : Nat} (hb : b < 16777215) (k : bN → ab) : h.get M b k = k (h.at b) := ok.hg hb k
theorem gx {h : Hp} {b : Nat} (hb : b < 16777215) (B : bN) (k : Hp → ab) : h.put M b B k = k (h.eK b B) := ok.hs hb _
theorem iS {h : Hp} (hb : h.nx < 16777215) (B : bN) (k : Nat → Hp → ab) : (br M).f h B k = k h.nx (h.add B) := by
  show aL h.nx (fun nx=>M.hs.f h.t nx B fun t'=>k nx ⟨t',nx + 1,h.pr,h.rb⟩) = _
  rw [az,ok.hs hb]; rfl
theorem sA {h : Hp} {i : Nat} (hb : h.rb + i < 16777215) (B : bN) (k : Nat → Hp → ab) : (jL M i).f h B k = k (h.rb + i) (h.eK (h.rb + i) B) := by
  show aL (h.rb + i) (fun id=>M.hs.f h.t id B fun t'=>k id ⟨t',h.nx,h.pr,h.rb⟩) = _
  rw [az,ok.hs hb]; rfl
theorem yo {h : Hp} {b m : Nat} {rw' fl : Bool} {z s : Nat} {t : Row} (hb : b < 16777215) (hat : h.at b = .row rw' fl z s t) (hm : m ≤ s) (k : Bool → Bool → Nat → Nat → Row → ab) : h.use M b m k = k rw' fl z s t :=
  a1Z (fun k=>by rw [get_at ok hb,hat]) hm k
theorem ag1 {h : Hp} {b m : Nat} {fl : Bool} {z s : Nat} {t : Row} (hb : b < 16777215) (hat : h.at b = .row true fl z s t) (hm : m ≤ s) (hp : h.pr = []) (k : Bool → Nat → Nat → Row → ab) : h.own M b m k = k fl z s t :=
  ag2 (fun k=>by rw [get_at ok hb,hat]) hm hp k
theorem ld_f {h : Hp} {b o : Nat} {p : Bool} {l : List AV} (hb : b < 16777215) (hat : h.at b = Bx p l) (ho : o < l.length) (h2 : 2 ≤ l.length) (k : AV → ab) : aI M false 1 (.ptr b o) h k = k l[o] := by
  show h.use M b (o + 1) (fun _ _ z _ t=>rdV M false 1 z t o k) = _
  rw [yo ok hb hat (by omega)]
  show au (Nat.beq 1 1) (when (Nat.beq l.length 1) _ (M.rg.f _ (o / l.length) fun v=>v.ja fun l' n=>(yS (o % l.length)).f l' k)) = _
  rw [aG (cb 1),fA (iD (by omega)),Nat.div_eq_of_lt ho,ok.rg (by decide),Nat.mod_eq_of_lt ho]
  exact zX ho k
theorem au3 {h : Hp} {b n : Nat} {p : Bool} {l : List AV} (hb : b < 16777215) (hat : h.at b = Bx p l) (hn : n = l.length) (h2 : 2 ≤ l.length) (k : AV → ab) : aI M true n (.ptr b 0) h k = k (.agg (aA l) n) := by
  subst hn
  show h.use M b (0 + l.length) (fun _ _ z _ t=>rdV M true l.length z t 0 k) = _
  rw [yo ok hb hat (by omega)]
  show when (Nat.beq l.length 1) _ (when (bp (Nat.beq l.length l.length) (Nat.beq (0 % l.length) 0)) (M.rg.f _ (0 / l.length) fun v=>v.ja fun l' n=>au (Nat.beq n l.length) (k (.agg l' n))) _) = _
  rw [fA (iD (by omega)),Nat.zero_mod,cb,cK (show bp true (Nat.beq 0 0) = true from rfl),Nat.zero_div,ok.rg (by decide)]
  show au (Nat.beq l.length l.length) (k (.agg (aA l) l.length)) = _
  rw [cb]; rfl
theorem box_s {h : Hp} {n : Nat} {l : List AV} (hn : n = l.length) (h2 : 2 ≤ l.length) (hb : h.nx < 16777215) (k : AV → Hp → ab) : dU M (br M) (.agg (aA l) n) n n h k = k (.ptr h.nx 0) (h.add (Bx (iw l) l)) := by
  subst hn
  show when (Nat.beq l.length 1) _ (au (Nat.beq l.length l.length) (eR (aA l) fun p=>when (Nat.beq l.length l.length) ((br M).f h (.row true p l.length l.length (.nd (.agg (aA l) l.length) .lf .lf)) fun id hp=>k (.ptr id 0) hp) _)) = _
  rw [fA (iD (by omega)),aG (cb _),fJ,cb,cK rfl,iS ok hb]
  rfl
end
theorem fa (o f b : Nat) (k : AV → ab) : fieldAddr f (.ptr b o) k = k (.ptr b (o + f)) := by
  show aL (o + f) (fun p=>k (.ptr b p)) = _
  rw [az]
theorem ext0 {a : AV} {r : Row} {n : Nat} {k : AV → ab} : bS 0 (.bu (.nd a .lf r) n) k = k a := rfl
theorem ext1 {a b : AV} {r : Row} {n : Nat} {k : AV → ab} : bS 1 (.bu (.nd a .lf (.nd b .lf r)) n) k = k b := rfl
theorem ext2 {a b c : AV} {r : Row} {n : Nat} {k : AV → ab} : bS 2 (.bu (.nd a .lf (.nd b .lf (.nd c .lf r))) n) k = k c := rfl
theorem a1F (A B : (AV → ab) → ab) (k : AV → ab) : bo (.bool true) A B k = A k := rfl
theorem a1E (A B : (AV → ab) → ab) (k : AV → ab) : bo (.bool false) A B k = B k := rfl
end Go.Proofs.YtpiokjcbadfalaaGreatDoor.Ev
namespace Go.Proofs.YtpiokjcbadfalaaGreatDoor.Ev
noncomputable def ldC (M : Mem) (B : bN) (o : Nat) (k : AV → ab) : ab := B.ma fun _ _ z s t=>au (Nat.ble (o + 1) s) (rdV M false 1 z t o k)
noncomputable def ldA (M : Mem) (n : Nat) (B : bN) (o : Nat) (k : AV → ab) : ab := B.ma fun _ _ z s t=>au (Nat.ble (o + n) s) (rdV M true n z t o k)
noncomputable def stC (M : Mem) (sz : Nat) (B : bN) (h : Hp) (b o : Nat) (v : AV) (k : Hp → ab) : ab := B.ma fun rw fl z s t=>au (Nat.ble (o + sz) s) (au rw (wrV M sz z t o v fun t f=>h.put M b (.row true (bp fl f) z s t) k))
section
variable {M : Mem} (ok : mA M) {h : Hp} {b o : Nat} {p : Bool} {l l' : List AV} {v : AV}
include ok
theorem a9G (hb : b < 16777215) (k : AV → ab) : aI M false 1 (.ptr b o) h k = ldC M (h.at b) o k := by
  show (h.get M b fun B=>B.ma fun rw fl z s t=>au (Nat.ble (o + 1) s) (rdV M false 1 z t o k)) = _
  rw [get_at ok hb]; rfl
theorem a9H (hb : b < 16777215) (n : Nat) (k : AV → ab) : aI M true n (.ptr b o) h k = ldA M n (h.at b) o k := by
  show (h.get M b fun B=>B.ma fun rw fl z s t=>au (Nat.ble (o + n) s) (rdV M true n z t o k)) = _
  rw [get_at ok hb]; rfl
theorem afB (ho : o < l.length) (h2 : 2 ≤ l.length) (k : AV → ab) : ldC M (Bx p l) o k = k (l.getD o .uu) := by
  have hat : (Hp.mk (.nd (Bx p l) .lf .lf) 1 [] 0).at 0 = Bx p l := rfl
  have e1 := a9G ok (h := Hp.mk (.nd (Bx p l) .lf .lf) 1 [] 0) (b := 0) (o := o) (by decide) k
  rw [hat,ld_f ok (by decide) hat ho h2] at e1
  rw [← e1]; congr 1; simp [List.getD,ho]
theorem afA {n : Nat} (hn : n = l.length) (h2 : 2 ≤ l.length) (k : AV → ab) : ldA M n (Bx p l) 0 k = k (.agg (aA l) n) := by
  have hat : (Hp.mk (.nd (Bx p l) .lf .lf) 1 [] 0).at 0 = Bx p l := rfl
  have e1 := a9H ok (h := Hp.mk (.nd (Bx p l) .lf .lf) 1 [] 0) (b := 0) (o := 0) (by decide) n k
  rw [hat,au3 ok (by decide) hat hn h2] at e1
  exact e1.symm
theorem ahx (hb : b < 16777215) (hp : h.pr = []) (k : Hp → ab) (sz : Nat) : bk M sz (.ptr b o) v h k = stC M sz (h.at b) h b o v k := by
  obtain ⟨t,nx,pr,rb⟩ := h
  have hp' : pr = [] := hp
  subst hp'
  show (Hp.get M ⟨t,nx,[],rb⟩ b fun B=>B.ma fun rw fl z s t'=>au (Nat.ble (o + sz) s) (au rw (wrV M sz z t' o v fun t' f=>Hp.put M ⟨t,nx,[],rb⟩ b (.row true (bp fl f) z s t') k))) = _
  rw [get_at ok hb]; rfl
theorem ahw (hb : b < 16777215) (ho : o < l.length) (h2 : 2 ≤ l.length) (hv : One v) (k : Hp → ab) : stC M 1 (Bx p l) h b o v k = k (h.eK b (Bx (bp p v.pl) (l.set o v))) := by
  have hat : (Hp.mk (dz .dead h.t b (Bx p l)) h.nx [] h.rb).at b = Bx p l := by
    show (dz .dead h.t b (Bx p l)).get .dead b = _
    rw [sW hb,if_pos rfl]
  show au (Nat.ble (o + 1) l.length) (au true (lK v (fun c p'=>wrC M l.length _ o c fun t=>h.put M b (.row true (bp p p') l.length l.length t) k))) = _
  rw [aG (dR (by omega)),aG rfl,gK hv]
  show when (Nat.beq l.length 1) _ (M.rg.f _ (o / l.length) fun w=>w.ja fun l' n=>(yT (o % l.length)).f l' v fun l'=>M.rs.f _ (o / l.length) (.agg l' n) fun t=>h.put M b (.row true (bp p v.pl) l.length l.length t) k) = _
  rw [fA (iD (by omega)),Nat.div_eq_of_lt ho,ok.rg (by decide),Nat.mod_eq_of_lt ho]
  show (yT o).f (aA l) v (fun l'=>M.rs.f _ 0 (.agg l' l.length) fun t=>h.put M b (.row true (bp p v.pl) l.length l.length t) k) = _
  rw [ac7 ho,ok.rs (by decide),gx ok hb]
  have e : (dz (AV.uu) (.nd (.agg (aA l) l.length) .lf .lf) 0 (.agg (aA (l.set o v)) l.length) : Row) = .nd (.agg (aA (l.set o v)) l.length) .lf .lf := by
    have e1 : ∀ k : Row → ab,(sk AV.uu 24).f (.nd (.agg (aA l) l.length) .lf .lf) 0 (.agg (aA (l.set o v)) l.length) k = k (.nd (.agg (aA (l.set o v)) l.length) .lf .lf) := fun _=>rfl
    have e2 := fun k=>(jO (d := AV.uu) (t := .nd (.agg (aA l) l.length) .lf .lf) (i := 0) (x := .agg (aA (l.set o v)) l.length) (by decide) k).symm.trans (e1 k)
    have e3 := e2 fun t=>.val (.agg t 0) .empty
    injection e3 with e4
    injection e4
  rw [e]
  unfold Bx
  rw [List.length_set]
theorem ahv {n : Nat} (hb : b < 16777215) (hn : n = l.length) (hl : l'.length = l.length) (h2 : 2 ≤ l.length) (k : Hp → ab) : stC M n (Bx p l) h b 0 (.agg (aA l') n) k = k (h.eK b (Bx (bp p (iw l')) l')) := by
  subst hn
  show au (Nat.ble (0 + l.length) l.length) (au true (wrV M l.length l.length _ 0 (.agg (aA l') l.length) fun t f=>h.put M b (.row true (bp p f) l.length l.length t) k)) = _
  rw [aG (dR (by omega)),aG rfl]
  show when (Nat.beq l.length 1) _ (au (Nat.beq l.length l.length) (au (Nat.ble 1 l.length) (eR (aA l') fun p'=>when (bp (Nat.beq l.length l.length) (Nat.beq (0 % l.length) 0)) (M.rs.f _ (0 / l.length) (.agg (aA l') l.length) fun t=>h.put M b (.row true (bp p p') l.length l.length t) k) _))) = _
  rw [fA (iD (by omega)),aG (cb _),aG (dR (by omega)),fJ,Nat.zero_mod,cb,cK (show bp true (Nat.beq 0 0) = true from rfl),Nat.zero_div,ok.rs (by decide),gx ok hb]
  have e : (dz (AV.uu) (.nd (.agg (aA l) l.length) .lf .lf) 0 (.agg (aA l') l.length) : Row) = .nd (.agg (aA l') l.length) .lf .lf := by
    have e1 : ∀ k : Row → ab,(sk AV.uu 24).f (.nd (.agg (aA l) l.length) .lf .lf) 0 (.agg (aA l') l.length) k = k (.nd (.agg (aA l') l.length) .lf .lf) := fun _=>rfl
    have e2 := fun k=>(jO (d := AV.uu) (t := .nd (.agg (aA l) l.length) .lf .lf) (i := 0) (x := .agg (aA l') l.length) (by decide) k).symm.trans (e1 k)
    have e3 := e2 fun t=>.val (.agg t 0) .empty
    injection e3 with e4
    injection e4
  rw [e]
  unfold Bx
  rw [hl]
end
section
variable {h : Hp} {b o : Nat} {p : Bool} {l l' : List AV} {v : AV}
theorem load1 (hb : b < 16777215) (k : AV → ab) : aI mem false 1 (.ptr b o) h k = ldC mem (h.at b) o k := a9G dx hb k
theorem loadn (hb : b < 16777215) (n : Nat) (k : AV → ab) : aI mem true n (.ptr b o) h k = ldA mem n (h.at b) o k := a9H dx hb n k
theorem au2 (ho : o < l.length) (h2 : 2 ≤ l.length) (k : AV → ab) : ldC mem (Bx p l) o k = k (l.getD o .uu) := afB dx ho h2 k
theorem au0 {n : Nat} (hn : n = l.length) (h2 : 2 ≤ l.length) (k : AV → ab) : ldA mem n (Bx p l) 0 k = k (.agg (aA l) n) := afA dx hn h2 k
theorem avm (hb : b < 16777215) (hp : h.pr = []) (k : Hp → ab) (sz : Nat) : bk mem sz (.ptr b o) v h k = stC mem sz (h.at b) h b o v k := ahx dx hb hp k sz
theorem avj (hb : b < 16777215) (ho : o < l.length) (h2 : 2 ≤ l.length) (hv : One v) (k : Hp → ab) : stC mem 1 (Bx p l) h b o v k = k (h.eK b (Bx (bp p v.pl) (l.set o v))) := ahw dx hb ho h2 hv k
theorem avh {n : Nat} (hb : b < 16777215) (hn : n = l.length) (hl : l'.length = l.length) (h2 : 2 ≤ l.length) (k : Hp → ab) : stC mem n (Bx p l) h b 0 (.agg (aA l') n) k = k (h.eK b (Bx (bp p (iw l')) l')) := ahv dx hb hn hl h2 k
theorem box_m {n : Nat} (hn : n = l.length) (h2 : 2 ≤ l.length) (hb : h.nx < 16777215) (k : AV → Hp → ab) : dU mem (br mem) (.agg (aA l) n) n n h k = k (.ptr h.nx 0) (h.add (Bx (iw l) l)) := box_s dx hn h2 hb k
end
theorem lit3 {n : Nat} (h : n < 9223372036854775808) : AV.int 3 n = I n := a1g (by omega)
theorem lit4 {n : Nat} : AV.int 4 n = B8 n := rfl
theorem lit7 {n : Nat} : AV.int 7 n = U n := rfl
theorem avv {p : Prop} [Decidable p] (x y : ab) : when (decide p) x y = if p then x else y := yp x y
end Go.Proofs.YtpiokjcbadfalaaGreatDoor.Ev
namespace Go.Proofs.YtpiokjcbadfalaaGreatDoor.Ev
section
variable {a b : Int} {k : AV → ab}
theorem aua (h : (-9223372036854775808 ≤ a ∧ a < 9223372036854775808) ∧ -9223372036854775808 ≤ b ∧ b < 9223372036854775808) : (ar .lss 3).f (I a) (I b) k = k (.bool (decide (a < b))) := alb h.1 h.2
theorem au9 (h : (-9223372036854775808 ≤ a ∧ a < 9223372036854775808) ∧ -9223372036854775808 ≤ b ∧ b < 9223372036854775808) : (ar .leq 3).f (I a) (I b) k = k (.bool (decide (a ≤ b))) := leq_I h.1 h.2
theorem arz (h : (-9223372036854775808 ≤ a ∧ a < 9223372036854775808) ∧ -9223372036854775808 ≤ b ∧ b < 9223372036854775808) : (ar .gtr 3).f (I a) (I b) k = k (.bool (decide (b < a))) := gtr_I h.1 h.2
theorem arw (h : (-9223372036854775808 ≤ a ∧ a < 9223372036854775808) ∧ -9223372036854775808 ≤ b ∧ b < 9223372036854775808) : (ar .geq 3).f (I a) (I b) k = k (.bool (decide (b ≤ a))) := geq_I h.1 h.2
theorem aro (h : (-9223372036854775808 ≤ a ∧ a < 9223372036854775808) ∧ -9223372036854775808 ≤ b ∧ b < 9223372036854775808) : (ar .eql 3).f (I a) (I b) k = k (.bool (decide (a = b))) := eql_I h.1 h.2
theorem auf (h : (-9223372036854775808 ≤ a ∧ a < 9223372036854775808) ∧ -9223372036854775808 ≤ b ∧ b < 9223372036854775808) : (ar .neq 3).f (I a) (I b) k = k (.bool (!decide (a = b))) := neq_I h.1 h.2
end
end Go.Proofs.YtpiokjcbadfalaaGreatDoor.Ev
namespace Go.Proofs.YtpiokjcbadfalaaGreatDoor.Ev
noncomputable def eJ (r : ab) : Option AV := ab.rec (motive := fun _=>Option AV) (fun _ _=>none) (fun _ _ _=>none) (fun _ _=>none) (fun v _=>some v) none r
theorem akC (v : AV) (hp : Hp) : eJ (.val v hp) = some v := rfl
theorem pM {r : ab} {v : AV} (h : eJ r = some v) : ∃ hp,r = .val v hp := by
  cases r with
  | val w hp=>exact ⟨hp,by injection h with h; rw [h]⟩
  | _=>exact absurd h (by intro h; injection h)
theorem ue {r : ab} {v : AV} (h : ∃ hp,r = .val v hp) : eJ r = some v := by
  obtain ⟨hp,rfl⟩ := h; rfl
theorem jD {F : aF} {l : Row} {v : AV} (hl : lx l) (hv : vU v) (e : eJ (F.f l .empty) = some v) (hp : Hp) (k : AV → Hp → ab) : aH mem false F l hp k = k v hp := by
  obtain ⟨hc,e⟩ := pM e
  exact a0S hl hv e hp k
section
variable {p : Prop} [Decidable p] {hp : Hp} {s : (AV → Hp → ab) → ab} {k : AV → Hp → ab}
theorem gd_pt : gd (.bool (decide p)) true hp s k = if p then s k else k cI hp := by by_cases h : p <;> simp [h,aep,aen]
theorem gd_pf : gd (.bool (decide p)) false hp s k = if p then k cI hp else s k := by by_cases h : p <;> simp [h,aem,aeo]
theorem ak2 (A B : (AV → ab) → ab) (k : AV → ab) : bo (.bool (decide p)) A B k = if p then A k else B k := by by_cases h : p <;> simp [h,a1F,a1E]
theorem gd_nt : gd (.bool (!decide p)) true hp s k = if p then k cI hp else s k := by by_cases h : p <;> simp [h,aep,aen]
theorem gd_nf : gd (.bool (!decide p)) false hp s k = if p then s k else k cI hp := by by_cases h : p <;> simp [h,aem,aeo]
theorem ak1 (A B : (AV → ab) → ab) (k : AV → ab) : bo (.bool (!decide p)) A B k = if p then B k else A k := by by_cases h : p <;> simp [h,a1F,a1E]
theorem avw (x y : ab) : when (!decide p) x y = if p then y else x := by by_cases h : p <;> simp [h,when]
end
theorem anU (b : Bool) : de b = !b := fq b
end Go.Proofs.YtpiokjcbadfalaaGreatDoor.Ev
open Go Go.Proofs.YtpiokjcbadfalaaGreatDoor.Ev
namespace Go.Proofs.YtpiokjcbadfalaaGreatDoor.Tz
set_option linter.defProp false
def Y5 := And.intro @dy (And.intro @gG (And.intro @tR (@acf)))
end Go.Proofs.YtpiokjcbadfalaaGreatDoor.Tz
namespace Go.Proofs.YtpiokjcbadfalaaGreatDoor.Ev
def mk {α : Type} (x : α) : α := x
theorem nd {p : Prop} (h : p) : p := (⟨h,trivial⟩ : p ∧ True).1
theorem mk_eq {α : Type} (x : α) : mk x = x := by
  have h : mk x = x ∧ True := ⟨rfl,trivial⟩
  exact h.1
theorem dh {α : Type} {b c : Prop} [Decidable b] [Decidable c] {x u y v : α} (h : mk b = c) (h2 : c → x = u) (h3 : ¬c → y = v) : (if b then x else y) = if c then u else v := by
  rw [mk_eq] at h
  exact ite_congr h h2 h3
theorem aP {f : Nat} {x x' : AV} {k : AV → ab} (h : mk x = x') : fieldAddr f x k = fieldAddr f x' k := by rw [mk_eq] at h; rw [h]
theorem bB {M : Mem} {ag : Bool} {sz : Nat} {v v' : AV} {hp : Hp} {k : AV → ab} (h : mk v = v') : aI M ag sz v hp k = aI M ag sz v' hp k := by rw [mk_eq] at h; rw [h]
theorem dm {M : Mem} {B B' : bN} {o o' : Nat} {k : AV → ab} (h : mk B = B') (h2 : o = o') : ldC M B o k = ldC M B' o' k := by rw [mk_eq] at h; rw [h,h2]
theorem dj {M : Mem} {n : Nat} {B B' : bN} {o o' : Nat} {k : AV → ab} (h : mk B = B') (h2 : o = o') : ldA M n B o k = ldA M n B' o' k := by rw [mk_eq] at h; rw [h,h2]
theorem bj {M : Mem} {sz : Nat} {a a' v v' : AV} {hp : Hp} {k : Hp → ab} (h : mk a = a') (h2 : v = v') : bk M sz a v hp k = bk M sz a' v' hp k := by rw [mk_eq] at h; rw [h,h2]
theorem dp {M : Mem} {sz : Nat} {B B' : bN} {hp : Hp} {b o o' : Nat} {v v' : AV} {k : Hp → ab} (h : mk B = B') (h1 : o = o') (h2 : v = v') : stC M sz B hp b o v k = stC M sz B' hp b o' v' k := by rw [mk_eq] at h; rw [h,h1,h2]
theorem cj {M : Mem} {N : NK} {v v' : AV} {z s : Nat} {hp : Hp} {k : AV → Hp → ab} (h : mk v = v') : dU M N v z s hp k = dU M N v' z s hp k := by rw [mk_eq] at h; rw [h]
theorem aW {M : Mem} {N : NK} {z : Nat} {a a' b b' : AV} {hp : Hp} {k : AV → Hp → ab} (h : mk a = a') (h2 : b = b') : cT M N z a b hp k = cT M N z a' b' hp k := by rw [mk_eq] at h; rw [h,h2]
theorem cx {M : Mem} {q : Nat} {v v' : AV} {hp : Hp} {k : Nat → ab} (h : mk v = v') : dX M q v hp k = dX M q v' hp k := by rw [mk_eq] at h; rw [h]
theorem cy {b b' : Bool} {x : ab} (h : mk b = b') : au b x = au b' x := by rw [mk_eq] at h; rw [h]
theorem cA {b b' : Bool} {x y : ab} (h : mk b = b') : when b x y = when b' x y := by rw [mk_eq] at h; rw [h]
theorem bf {v v' : AV} {f : Bool → ab} (h : mk v = v') : AV.aJ v f = AV.aJ v' f := by rw [mk_eq] at h; rw [h]
theorem bC {v v' : AV} {f : Nat → Nat → ab} (h : mk v = v') : AV.bO v f = AV.bO v' f := by rw [mk_eq] at h; rw [h]
theorem bD {v v' : AV} {f : Nat → Nat → ab} (h : mk v = v') : AV.eE v f = AV.eE v' f := by rw [mk_eq] at h; rw [h]
theorem aX {v v' : AV} {f : Nat → Nat → Nat → Nat → ab} {g : Row → Nat → Nat → Nat → ab} {y : Nat → ab} {s : Nat → Nat → ab} (h : mk v = v') : AV.eD v f g y s = AV.eD v' f g y s := by rw [mk_eq] at h; rw [h]
theorem eN {q : BK} {a a' b b' : AV} {k : AV → ab} (h : mk a = a') (h2 : b = b') : q.f a b k = q.f a' b' k := by rw [mk_eq] at h; rw [h,h2]
theorem cq {v v' : AV} {n n' : Nat} {k : Nat → ab} (h : mk v = v') (h2 : n = n') : iG v n k = iG v' n' k := by rw [mk_eq] at h; rw [h,h2]
theorem cg {v v' : AV} {n n' : Nat} {k : Nat → ab} (h : mk v = v') (h2 : n = n') : gL v n k = gL v' n' k := by rw [mk_eq] at h; rw [h,h2]
theorem cu {i n n' : Nat} {k : AV → ab} (h : mk n = n') : bQ i n k = bQ i n' k := by rw [mk_eq] at h; rw [h]
theorem bh {v v' : AV} {a a' b b' : Option AV} {k : AV → ab} (h : mk v = v') (h2 : a = a') (h3 : b = b') : fc v a b k = fc v' a' b' k := by rw [mk_eq] at h; rw [h,h2,h3]
theorem bg {z : Nat} {v v' : AV} {a a' b b' c c' : Option AV} {k : AV → ab} (h : mk v = v') (h2 : a = a') (h3 : b = b') (h4 : c = c') : eS z v a b c k = eS z v' a' b' c' k := by rw [mk_eq] at h; rw [h,h2,h3,h4]
theorem aQ {z : Nat} {x x' i i' : AV} {k : AV → ab} (h : mk x = x') (h2 : i = i') : indexAddr z x i k = indexAddr z x' i' k := by rw [mk_eq] at h; rw [h,h2]
theorem aS {z n : Nat} {x x' i i' : AV} {k : AV → ab} (h : mk x = x') (h2 : i = i') : km z n x i k = km z n x' i' k := by rw [mk_eq] at h; rw [h,h2]
theorem eO {v v' : AV} {w : Bool} {hp : Hp} {s : (AV → Hp → ab) → ab} {k : AV → Hp → ab} (h : mk v = v') : gd v w hp s k = gd v' w hp s k := by rw [mk_eq] at h; rw [h]
theorem bF {v v' : AV} {A B : (AV → ab) → ab} {k : AV → ab} (h : mk v = v') : bo v A B k = bo v' A B k := by rw [mk_eq] at h; rw [h]
theorem cn {i : Nat} {v v' : AV} {k : AV → ab} (h : mk v = v') : bS i v k = bS i v' k := by rw [mk_eq] at h; rw [h]
theorem bx {M : Mem} {sh : Bool} {F : aF} {a a' : Row} {hp : Hp} {k : AV → Hp → ab} (h : mk a = a') : aH M sh F a hp k = aH M sh F a' hp k := by rw [mk_eq] at h; rw [h]
theorem bE {ag : Bool} {sz off : Nat} {x x' : AV} {k : AV → ab} (h : mk x = x') : uR ag sz off x k = uR ag sz off x' k := by rw [mk_eq] at h; rw [h]
theorem bz {n n' : Nat} {hp : Hp} {f : Hp → ab} (h : mk n = n') : kh n hp f = kh n' hp f := by rw [mk_eq] at h; rw [h]
theorem cz {M : Mem} {z : Nat} {v v' : AV} {hp : Hp} {k : Row → Nat → Nat → Bool → ab} (h : mk v = v') : lD M z v hp k = lD M z v' hp k := by rw [mk_eq] at h; rw [h]
theorem ck {M : Mem} {N : NK} {z z' : Nat} {r0 r1 : Row} {s n : Nat} {l l' : List (Nat × ((AV → ab) → ab))} {hp : Hp} {k : AV → Hp → ab} (h : mk z = z') (h1 : r0 = r1) (h2 : l = l') : mF M N z r0 s n l hp k = mF M N z' r1 s n l' hp k := by rw [mk_eq] at h; rw [h,h1,h2]
theorem bd {v v' : AV} {k : AV → ab} (h : mk v = v') : oM v k = oM v' k := by rw [mk_eq] at h; rw [h]
end Go.Proofs.YtpiokjcbadfalaaGreatDoor.Ev
namespace Go.Proofs.YtpiokjcbadfalaaGreatDoor.Ev
theorem avg {a b : Bool} (h : a = b) : some (AV.bool a) = some (AV.bool b) := by rw [h]
section
variable {M : Mem} (ok : mA M)
include ok
theorem a0X : ∀ (m : Nat) (u : Row) (p : Nat) (r : Row) (n : Nat),p + m < 16777215 → n + m < 16777215 → ∃ r',(∀ j,r'.at j = if n ≤ j ∧ j < n + m then u.at (p + (j - n)) else r.at j) ∧ ∀ k,(cp M m).f u p r n k = k r'
  | 0,u,p,r,n,_,_=>⟨r,fun j=>by rw [if_neg (by omega)],fun _=>rfl⟩
  | m + 1,u,p,r,n,hp,hn=>by
    obtain ⟨r',h1,h2⟩ := a0X m u (p + 1) (dz .uu r n (u.at p)) (n + 1) (by omega) (by omega)
    refine ⟨r',fun j=>?_,fun k=>?_⟩
    · rw [h1]
      by_cases h : n + 1 ≤ j ∧ j < n + 1 + m
      · rw [if_pos h,if_pos (by omega),show p + 1 + (j - (n + 1)) = p + (j - n) by omega]
      · rw [if_neg h]
        show (dz .uu r n (u.at p) : Row).at j = _
        rw [vN (by omega)]
        by_cases hj : j = n
        · subst hj; rw [if_pos rfl,if_pos (by omega),Nat.sub_self,Nat.add_zero]
        · rw [if_neg hj,if_neg (by omega)]
    · show M.rg.f u p (fun v=>M.rs.f r n v fun d'=>(cp M m).f u (p + 1) d' (n + 1) k) = _
      rw [ok.rg (by omega),ok.rs (by omega)]
      exact h2 k
def lits : Nat → List UInt8 → List (Nat × ((AV → ab) → ab))
  | _,[]=>[]
  | i,c :: l=>(i,fun k=>k (B8 c.toNat)) :: lits (i + 1) l
theorem a2Y : ∀ (m : List UInt8) (i : Nat) (r0 : Row),i + m.length < 16777215 → ∃ t,(∀ j,t.at j = if i ≤ j ∧ j < i + m.length then B8 (m.getD (j - i) 0).toNat else r0.at j) ∧
    ∀ (f : Row → Bool → ab),(List.rec (motive := fun (_ : List (Nat × ((AV → ab) → ab)))=>Row → Bool → ab) f (fun p _ ih t f=>p.2 fun v=>wrV M 1 1 t p.1 v fun t b=>ih t (bp f b)) (lits i m) r0 true : ab) = f t true
  | [],i,r0,_=>⟨r0,fun j=>by rw [if_neg (by simp only [List.length_nil]; omega)],fun _=>rfl⟩
  | c :: m,i,r0,hl=>by
    simp only [List.length_cons] at hl
    obtain ⟨t,h1,h2⟩ := a2Y m (i + 1) (dz .uu r0 i (B8 c.toNat)) (by omega)
    refine ⟨t,fun j=>?_,fun f=>?_⟩
    · rw [h1]
      by_cases h : i + 1 ≤ j ∧ j < i + 1 + m.length
      · rw [if_pos h,if_pos (by simp only [List.length_cons]; omega),show j - i = (j - (i + 1)) + 1 by omega]
        rfl
      · rw [if_neg h]
        show (dz .uu r0 i (B8 c.toNat) : Row).at j = _
        rw [vN (by omega)]
        by_cases hj : j = i
        · subst hj; rw [if_pos rfl,if_pos (by simp only [List.length_cons]; omega),Nat.sub_self]; rfl
        · rw [if_neg hj,if_neg (by simp only [List.length_cons]; omega)]
    · rw [← h2 f]
      show M.rs.f r0 i (B8 c.toNat) (fun t=>(List.rec (motive := fun (_ : List (Nat × ((AV → ab) → ab)))=>Row → Bool → ab) f (fun p _ ih t f=>p.2 fun v=>wrV M 1 1 t p.1 v fun t b=>ih t (bp f b)) (lits (i + 1) m) t (bp true true) : ab)) = _
      rw [ok.rs (by omega)]
      rfl
end
def lF (h : Hp) (a : AV) (l : List UInt8) : Prop := (a = .x 8 .lf 0 0 0 ∧ l = []) ∨ ∃ c t,a = .ms c 0 l.length 1 ∧ c < h.nx ∧ h.at c = .row true true 1 l.length t ∧ ∀ j,j < l.length → t.at j = B8 (l.getD j 0).toNat
noncomputable def kill (h : Hp) (a : AV) : Hp := match a with
  | .ms c _ _ _=>h.eK c .dead
  | _=>h
section
variable {M : Mem} (ok : mA M)
include ok
theorem uj (N : NK) {h : Hp} {a : AV} {l m : List UInt8} {q : Nat} {u : Row} (ha : lF h a l) (hnx : h.nx < 16777215) (hq : q < 16777215) (hat : h.at q = .row true true 1 m.length u) (hu : ∀ j,j < m.length → u.at j = B8 (m.getD j 0).toNat) (hm : m ≠ []) (hpr : h.pr = []) (hl : l.length + m.length ≤ 1000000) :
    ∃ r,(∀ j,j < (l ++ m).length → r.at j = B8 ((l ++ m).getD j 0).toNat) ∧ ∀ K : AV → Hp → ab,cT M N 1 a (.ms q 0 m.length 1) h K = N.f (kill h a) (.row true true 1 (l ++ m).length r) fun id hp=>K (.ms id 0 (l ++ m).length 1) hp := by
  have hm0 : m.length ≠ 0 := fun h=>hm (List.length_eq_zero_iff.1 h)
  have hs : ∀ K,lD M 1 (.ms q 0 m.length 1) h K = K u 0 m.length true := fun K=>a8c (fun k=>by rw [get_at ok hq,hat]) (by omega) K
  rcases ha with ⟨rfl,rfl⟩ | ⟨c,t,rfl,hc,hct,ht⟩
  · refine ⟨u,fun j hj=>?_,fun K=>?_⟩
    · rw [List.nil_append] at hj ⊢; exact hu j hj
    · unfold cT
      rw [hs]
      show au (Nat.beq 8 8 || Nat.beq 8 6) (when (Nat.beq m.length 0) _ (au (Nat.ble m.length 1073741824) (aL (m.length * 1) fun q=>when (Nat.beq 0 0) (N.f h (.row true true 1 q u) fun id hp=>K (.ms id 0 m.length 1) hp) _))) = _
      rw [aG (b := Nat.beq 8 8 || Nat.beq 8 6) rfl,fA (iD hm0),aG (dR (by omega)),az,Nat.mul_one,cK (b := Nat.beq 0 0) rfl]
      rfl
  · obtain ⟨r,h1,h2⟩ := a0X ok m.length u 0 t l.length (by omega) (by omega)
    refine ⟨r,fun j hj=>?_,fun K=>?_⟩
    · rw [List.length_append] at hj
      rw [h1]
      by_cases h : l.length ≤ j
      · rw [if_pos ⟨h,hj⟩,Nat.zero_add,hu _ (by omega)]
        congr 2
        simp only [List.getD_eq_getElem?_getD]
        rw [List.getElem?_append_right h]
      · rw [if_neg (by omega),ht j (by omega)]
        congr 2
        simp only [List.getD_eq_getElem?_getD]
        rw [List.getElem?_append_left (by omega)]
    · unfold cT
      rw [hs]
      show au (Nat.beq 1 1) (when (Nat.beq m.length 0) _ (h.own M c (0 + l.length * 1) fun fl x _ t=>au (Nat.beq x 1) (au (Nat.beq (0 % 1) 0) (when (Nat.beq 0 0) (iX M N 1 c l.length fl t u 0 m.length true h K) _)))) = _
      rw [aG (b := Nat.beq 1 1) rfl,fA (iD hm0),ag1 ok (by omega) hct (by omega) hpr,aG (b := Nat.beq 1 1) rfl,aG (b := Nat.beq (0 % 1) 0) rfl,cK (b := Nat.beq 0 0) rfl]
      unfold iX
      rw [h2,gx ok (by omega),az]
      show au (Nat.ble (l.length + m.length) 1073741824) (aL ((l.length + m.length) * 1) fun s=>N.f (h.eK c .dead) (.row true (bp true true) 1 s r) fun id hp=>K (.ms id 0 (l.length + m.length) 1) hp) = _
      rw [aG (dR (by omega)),az,Nat.mul_one,List.length_append]
      rfl
end
section
variable {M : Mem} (ok : mA M)
include ok
theorem zo (N : NK) (r0 : Row) (m : List UInt8) (hm : m.length < 1000000) (h : Hp) : ∃ t : Row,(∀ j,j < m.length → t.at j = B8 (m.getD j 0).toNat) ∧ ∀ K,mF M N 1 r0 m.length m.length (lits 0 m) h K = N.f h (.row true true 1 m.length t) fun id hp=>K (.ms id 0 m.length 1) hp := by
  obtain ⟨t,h1,h2⟩ := a2Y ok m 0 r0 (by omega)
  refine ⟨t,fun j hj=>by rw [h1,if_pos (by omega),Nat.sub_zero],fun K=>?_⟩
  exact h2 fun r f=>N.f h (.row true f 1 m.length r) fun id hp=>K (.ms id 0 m.length 1) hp
theorem ab8 (r0 : Row) {h : Hp} {a : AV} {l : List UInt8} (m : List UInt8) (ha : lF h a l) (hnx : h.nx + 2 < 16777215) (hm : m ≠ []) (hpr : h.pr = []) (hl : l.length + m.length ≤ 900000) :
    ∃ a' h',lF h' a' (l ++ m) ∧ h'.nx = h.nx + 2 ∧ h'.pr = [] ∧ ∀ K : AV → Hp → ab,mF M (br M) 1 r0 m.length m.length (lits 0 m) h (fun v h=>cT M (br M) 1 a v h K) = K a' h' := by
  obtain ⟨t,ht,hb⟩ := zo ok (br M) r0 m (by omega) h
  have ha' : lF (h.add (.row true true 1 m.length t)) a l := by
    rcases ha with ⟨rfl,rfl⟩ | ⟨c,u,rfl,hc,hct,hu⟩
    · exact .inl ⟨rfl,rfl⟩
    · exact .inr ⟨c,u,rfl,by rw [dy]; omega,by rw [fE (by omega) (by omega)]; exact hct,hu⟩
  obtain ⟨r,hr,hk⟩ := uj ok (br M) ha' (by rw [dy]; omega) (q := h.nx) (by omega) (add_same (by omega)) ht hm (by rw [a1G]; exact hpr) (by omega)
  have hkn : (kill (h.add (.row true true 1 m.length t)) a).nx = h.nx + 1 := by
    unfold kill; split <;> rfl
  have hkp : (kill (h.add (.row true true 1 m.length t)) a).pr = [] := by
    unfold kill; split <;> exact hpr
  refine ⟨.ms (h.nx + 1) 0 (l ++ m).length 1,(kill (h.add (.row true true 1 m.length t)) a).add (.row true true 1 (l ++ m).length r),.inr ⟨_,r,rfl,by rw [dy,hkn]; omega,iO (by omega) (by omega),hr⟩,by rw [dy,hkn],by rw [a1G,hkp],fun K=>?_⟩
  rw [hb,iS ok (by omega),hk,iS ok (by omega),hkn]
theorem a6B (r0 : Row) {h : Hp} {a : AV} {l : List UInt8} (m : List UInt8) {n i j : Nat} (ha : lF h a l) (hnx : h.nx + n < 16777215) (hi : i < n) (hj : j < n) (hij : i ≠ j) (hm : m ≠ []) (hpr : h.pr = []) (hl : l.length + m.length ≤ 900000) :
    ∃ a' h',lF h' a' (l ++ m) ∧ h'.nx = h.nx + n ∧ h'.pr = [] ∧ ∀ F : Hp → AV → ab,mF M (jL M i) 1 r0 m.length m.length (lits 0 m) (h.yL n) (fun v h=>fB M [] [] h (fun h=>cT M (jL M j) 1 a v h fun v h=>.val v h) F) = F h' a' := by
  obtain ⟨t,ht,hb⟩ := zo ok (jL M i) r0 m (by omega) (h.yL n)
  have ha' : lF ((h.yL n).eK (h.nx + i) (.row true true 1 m.length t)) a l := by
    rcases ha with ⟨rfl,rfl⟩ | ⟨c,u,rfl,hc,hct,hu⟩
    · exact .inl ⟨rfl,rfl⟩
    · exact .inr ⟨c,u,rfl,by rw [gG,tR]; omega,by rw [kL (by omega) (by omega)]; exact hct,hu⟩
  obtain ⟨r,hr,hk⟩ := uj ok (jL M j) ha' (by rw [gG,tR]; omega) (q := h.nx + i) (by omega) (jh (by omega)) ht hm (by rw [a1H]; exact hpr) (by omega)
  have hkn : (kill ((h.yL n).eK (h.nx + i) (.row true true 1 m.length t)) a).nx = h.nx + n := by
    unfold kill; split <;> rfl
  have hkr : (kill ((h.yL n).eK (h.nx + i) (.row true true 1 m.length t)) a).rb = h.nx := by
    unfold kill; split <;> rfl
  have hkp : (kill ((h.yL n).eK (h.nx + i) (.row true true 1 m.length t)) a).pr = [] := by
    unfold kill; split <;> exact hpr
  refine ⟨.ms (h.nx + j) 0 (l ++ m).length 1,(kill ((h.yL n).eK (h.nx + i) (.row true true 1 m.length t)) a).eK (h.nx + j) (.row true true 1 (l ++ m).length r),.inr ⟨_,r,rfl,by rw [gG,hkn]; omega,jh (by omega),hr⟩,by rw [gG,hkn],by rw [a1H,hkp],fun F=>?_⟩
  rw [hb,sA ok (by show h.nx + i < _; omega)]
  show (ab.rec (motive := fun _=>ab) (fun _ _=>.fail) (fun _ _ _=>.fail) (fun _ _=>.fail) (fun v h4=>au (Nat.ble ((h.yL n).eK (h.nx + i) (.row true true 1 m.length t)).nx h4.nx) (F ⟨h4.t,h4.nx,h.pr,h.nx⟩ v)) .fail (cT M (jL M j) 1 a (.ms (h.nx + i) 0 m.length 1) ((h.yL n).eK (h.nx + i) (.row true true 1 m.length t)) fun v h=>.val v h) : ab) = _
  rw [hk,sA ok (by rw [hkr]; omega),hkr]
  show au (Nat.ble (h.nx + n) ((kill ((h.yL n).eK (h.nx + i) (.row true true 1 m.length t)) a).eK (h.nx + j) (.row true true 1 (l ++ m).length r)).nx) (F ⟨_,_,h.pr,h.nx⟩ _) = _
  rw [gG,hkn,aG (dR (Nat.le_refl _))]
  have e : ∀ H : Hp,H.pr = [] → H.rb = h.nx → (⟨H.t,H.nx,h.pr,h.nx⟩ : Hp) = H := fun H h1 h2=>by
    obtain ⟨_,_,_,_⟩ := H
    subst h1; subst h2; rw [hpr]
  have e2 := e ((kill ((h.yL n).eK (h.nx + i) (.row true true 1 m.length t)) a).eK (h.nx + j) (.row true true 1 (l ++ m).length r)) hkp hkr
  rw [← e2]
  show F ⟨_,_,_,_⟩ _ = F ⟨_,_,_,_⟩ _
  congr 2
  exact hkn.symm
end
theorem pw (r0 : Row) {h : Hp} {a : AV} {l : List UInt8} (m : List UInt8) (ha : lF h a l) (hnx : h.nx + 2 < 16777215) (hm : m ≠ []) (hpr : h.pr = []) (hl : l.length + m.length ≤ 900000) :
    ∃ a' h',lF h' a' (l ++ m) ∧ h'.nx = h.nx + 2 ∧ h'.pr = [] ∧ ∀ K : AV → Hp → ab,mF mem (br mem) 1 r0 m.length m.length (lits 0 m) h (fun v h=>cT mem (br mem) 1 a v h K) = K a' h' := ab8 dx r0 m ha hnx hm hpr hl
theorem ad8 (r0 : Row) {h : Hp} {a : AV} {l : List UInt8} (m : List UInt8) {n i j : Nat} (ha : lF h a l) (hnx : h.nx + n < 16777215) (hi : i < n) (hj : j < n) (hij : i ≠ j) (hm : m ≠ []) (hpr : h.pr = []) (hl : l.length + m.length ≤ 900000) :
    ∃ a' h',lF h' a' (l ++ m) ∧ h'.nx = h.nx + n ∧ h'.pr = [] ∧ ∀ F : Hp → AV → ab,mF mem (jL mem i) 1 r0 m.length m.length (lits 0 m) (h.yL n) (fun v h=>fB mem [] [] h (fun h=>cT mem (jL mem j) 1 a v h fun v h=>.val v h) F) = F h' a' := a6B dx r0 m ha hnx hi hj hij hm hpr hl
noncomputable def yr (hp h4 : Hp) (v : AV) (K : Hp → AV → ab) : ab := au (Nat.ble hp.nx h4.nx) (K ⟨h4.t,h4.nx,hp.pr,hp.rb⟩ v)
noncomputable def aaX (M : Mem) (hp : Hp) (pl : List Nat) (r : ab) (K : Hp → AV → ab) : ab := ab.rec (motive := fun _=>ab) (fun _ _=>.fail) (fun _ _ _=>.fail) (fun _ _=>.fail) (fun v h2=>fU M hp pl h2 fun h4=>yr hp h4 v K) .fail r
def Hp.pro (h : Hp) (l : List Nat) : Hp := ⟨h.t,h.nx,l,h.rb⟩
theorem ahM (M : Mem) (l : List ((AV → ab) → ab)) (hp : Hp) (body : Hp → ab) (K : Hp → AV → ab) : fB M [] l hp body K = mc l [] fun pl=>aaX M hp pl (body (hp.pro (pO pl hp.pr))) K := rfl
theorem acM (M : Mem) (hp : Hp) (pl : List Nat) (v : AV) (h2 : Hp) (K : Hp → AV → ab) : aaX M hp pl (.val v h2) K = fU M hp pl h2 fun h4=>yr hp h4 v K := rfl
theorem abI {h hp : Hp} {b : Nat} {l : List Nat} {k : Hp → ab} {r1 f1 r2 f2 : Bool} {z1 s1 z2 s2 : Nat} {t1 t2 : Row} (hb : b < 16777215) (h1 : h.at b = .row r1 f1 z1 s1 t1) (h2 : hp.at b = .row r2 f2 z2 s2 t2) : fU mem h (b :: l) hp k = fU mem h l (hp.eK b (.row r2 f1 z1 s1 t1)) k := by
  show h.get mem b (fun B=>hp.get mem b fun B'=>bN.rec (motive := fun _=>ab) .fail (fun _ fl z s t=>B'.ma fun rw _ _ _ _=>hp.put mem b (.row rw fl z s t) fun hp=>fU mem h l hp k) (fun n t=>B'.kY fun _ _=>hp.put mem b (.map n t) fun hp=>fU mem h l hp k) (fun _ _ _ _=>.fail) (fun _=>.fail) B) = _
  rw [get_at dx hb,get_at dx hb,h1,h2]
  show hp.put mem b (.row r2 f1 z1 s1 t1) (fun hp=>fU mem h l hp k) = _
  rw [gx dx hb]
theorem a6k {hp h4 : Hp} {v : AV} {K : Hp → AV → ab} (h : hp.nx ≤ h4.nx) : yr hp h4 v K = K ⟨h4.t,h4.nx,hp.pr,hp.rb⟩ v := aG (dR h) _
end Go.Proofs.YtpiokjcbadfalaaGreatDoor.Ev
namespace Go.Proofs.YtpiokjcbadfalaaGreatDoor.Tz
noncomputable section
def vZ : Row := (.nd (.int 4 0) (.nd (.int 4 0) (.nd (.int 4 0) (Tr.full (.int 4 0) 6) (.nd (.int 4 1) (Tr.full (.int 4 0) 4) (Tr.full (.int 4 0) 4))) (.nd (.int 4 0) (.nd (.int 4 1) (Tr.full (.int 4 0) 4) (Tr.full (.int 4 0) 4)) (.nd (.int 4 1) (Tr.full (.int 4 0) 4) (Tr.full (.int 4 0) 4)))) (.nd (.int 4 0) (.nd (.int 4 0) (.nd (.int 4 0) (.nd (.int 4 0) (.nd (.int 4 1) (Tr.full (.int 4 0) 2) (Tr.full (.int 4 0) 2)) (Tr.full (.int 4 0) 3)) (Tr.full (.int 4 0) 4)) (.nd (.int 4 1) (Tr.full (.int 4 0) 4) (Tr.full (.int 4 0) 4))) (.nd (.int 4 0) (.nd (.int 4 1) (Tr.full (.int 4 0) 4) (Tr.full (.int 4 0) 4)) (Tr.full (.int 4 0) 5))))
def gls : List (Nat × AV) := [(1,.x 1 vZ 0 256 1)]
end
end Go.Proofs.YtpiokjcbadfalaaGreatDoor.Tz
namespace Go.Proofs.YtpiokjcbadfalaaGreatDoor.Ev
noncomputable section
end
noncomputable section
end
noncomputable section
def finE (C : Cx) (G : aF) (rs : List ResultVar) (u : Row) (fr : Fr) (hp : Hp) : ab := dB G u hp fun _ hp=>ou C rs fr hp
def a97 (C : Cx) (G : aF) (rs : List ResultVar) (u : Row) (r : ab) : ab := ab.rec (motive := fun _=>ab) (fun fr hp=>finE C G rs u fr hp) (fun _ _ _=>.fail) (fun fr hp=>finE C G rs u fr hp) (fun _ _=>.fail) .fail r
def midE (C : Cx) (G : aF) (rs : List ResultVar) (q : Dfd) (g : Ev.G) : Sm :=
  let k := ak (q.uZ.toList.map (iz C g)); let s2 := (den C q.rest).run g (fun _=>pG) [] qf
  iff (a7R C g q.t) ⟨fun sk fr hp=>k.f sk fr fun u=>a97 C G rs u (s2.run sk fr hp)⟩
def fnSE (C : Cx) (G : aF) : aF :=
  match nP C.P.funcs.toList C.self with
  | none=>ju
  | some fn=>match fn.body with
    | none=>ju
    | some c=>match y7 c with
      | none=>ju
      | some q=>
        let s := jm C q.a q.a.toList .e (fun g=>midE C G fn.results.toList q g)
        let n := fn.params.size + fn.nfree
        Bool.rec (motive := fun _=>aF) ju (Bool.rec (motive := fun _=>aF) ju ⟨fun l hp=>au (Nat.beq (a4E l) n) (rL 0 l (blank C.vars.length) fun fr=>a9P (s.run .lf fr hp))⟩ (fH n C.vars)) (aY (okD q) (aY (yW q.rest) (Nat.ble C.nt fn.ntmps)))
end
end Go.Proofs.YtpiokjcbadfalaaGreatDoor.Ev
