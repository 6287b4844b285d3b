import Derived.Test.YtpiokjcbadfalaaGreatDoorEvAA
import Derived.Test.YtpiokjcbadfalaaGreatDoorEvAN
import Derived.Test.YtpiokjcbadfalaaGreatDoorEvAO
import Derived.Test.YtpiokjcbadfalaaGreatDoorEvAQ
import Derived.ProofKit
import Derived.Test.YtpiokjcbadfalaaGreatDoorProg
namespace Go.Proofs.YtpiokjcbadfalaaGreatDoor.Ev
def eo (z i f : Nat) : Nat := i * z + f
structure mC (z : Nat) (v : AV) (n : Nat) (t : Row) : Prop where
  len : ∀ hp k,dX mem 1 v hp k = k n
  idx : ∀ (a : Int) k,0 ≤ a → a < n → indexAddr z v (I a) k = k (.x 1 t (eo z a.toNat 0) z z)
  still : ∀ m,(∀ hp k,(nB mem (m + 1)).f hp v k = k v hp)
  one : One v
  small : n < 9223372036854775808
theorem a1U {z n : Nat} {t : Row} (h : n < 9223372036854775808) : mC z (.vs t 0 n z) n t where
  len := fun _ _=>rfl
  idx := fun a k h0 h1=>by
    show au (Nat.beq z z) (iG (I a) n fun j=>aL ((0 + j) * z) fun p=>k (.x 1 t p z z)) = _
    rw [aG (cb z),a43 h0 h1 h,az,Nat.zero_add]; rfl
  still := fun _ _ _=>rfl
  one := True.intro
  small := h
theorem a5C {z : Nat} {t : Row} : mC z (.x 8 .lf 0 0 0) 0 t where
  len := fun _ _=>rfl
  idx := fun a k h0 h1=>absurd h1 (by omega)
  still := fun _ _ _=>rfl
  one := show 1 ≤ 8 by decide
  small := by decide
theorem fax {f off n z i : Nat} {t : Row} {k : AV → ab} (h : off ≤ n) : fieldAddr off (.x 1 t (eo z i f) n z) k = k (.x 1 t (eo z i (f + off)) (n - off) z) := by
  show au (Nat.ble off n) (aL (eo z i f + off) fun p=>aL (n - off) fun q=>k (.x 1 t p q z)) = _
  rw [aG (dR h),az,az]
  show k (.x 1 t (i * z + f + off) (n - off) z) = k (.x 1 t (i * z + (f + off)) (n - off) z)
  rw [Nat.add_assoc]
section
variable {M : Mem} (ok : mA M) {t : Row} {z i f m : Nat} {l : List AV} {hp : Hp}
include ok
theorem au4 (ht : t.at i = .agg (aA l) z) (hl : l.length = z) (hi : i < 16777215) (hf : f < z) (h2 : 2 ≤ z) (hm : 1 ≤ m) (k : AV → ab) : aI M false 1 (.x 1 t (eo z i f) m z) hp k = k (l.getD f .uu) := by
  have hd : (i * z + f) / z = i := by rw [Nat.mul_comm,Nat.mul_add_div (by omega),Nat.div_eq_of_lt hf,Nat.add_zero]
  have hr : (i * z + f) % z = f := by rw [Nat.mul_comm,Nat.mul_add_mod,Nat.mod_eq_of_lt hf]
  show au (Nat.ble 1 m) (au (Nat.beq 1 1) (when (Nat.beq z 1) _ (M.rg.f t ((i * z + f) / z) fun v=>v.ja fun l n=>(yS ((i * z + f) % z)).f l k))) = _
  rw [aG (dR hm),aG (cb 1),fA (iD (by omega)),hd,hr,ok.rg hi,ht]
  show (yS f).f (aA l) k = _
  rw [zX (by omega)]; congr 1; simp [List.getD,show f < l.length by omega]
theorem au5 (ht : t.at i = .agg (aA l) z) (hi : i < 16777215) (h2 : 2 ≤ z) (hm : z ≤ m) (k : AV → ab) : aI M true z (.x 1 t (eo z i 0) m z) hp k = k (.agg (aA l) z) := by
  have hd : (i * z + 0) / z = i := by rw [Nat.add_zero]; exact Nat.mul_div_cancel _ (by omega)
  have hr : (i * z + 0) % z = 0 := by rw [Nat.add_zero]; exact Nat.mul_mod_left _ _
  show au (Nat.ble z m) (when (Nat.beq z 1) _ (when (bp (Nat.beq z z) (Nat.beq ((i * z + 0) % z) 0)) (M.rg.f t ((i * z + 0) / z) fun v=>v.ja fun l n=>au (Nat.beq n z) (k (.agg l n))) _)) = _
  rw [aG (dR hm),fA (iD (by omega)),hd,hr,cb,cK (show bp true (Nat.beq 0 0) = true from rfl),ok.rg hi,ht]
  show au (Nat.beq z z) (k (.agg (aA l) z)) = _
  rw [cb]; rfl
theorem au6 (hi : i < 16777215) (hm : 1 ≤ m) (k : AV → ab) : aI M false 1 (.x 1 t (eo 1 i 0) m 1) hp k = k (t.at i) := by
  show au (Nat.ble 1 m) (au (Nat.beq 1 1) (when (Nat.beq 1 1) (M.rg.f t (i * 1 + 0) k) (M.rg.f t (Nat.div (i * 1 + 0) 1) fun v=>v.ja fun l n=>(yS (Nat.mod (i * 1 + 0) 1)).f l k))) = _
  rw [aG (dR hm),aG (cb 1),cK (cb 1),Nat.mul_one,Nat.add_zero,ok.rg hi]
end
def dF (z n : Nat) (t : Row) (R : Nat → List AV) : Prop := ∀ i,i < n → t.at i = .agg (aA (R i)) z ∧ (R i).length = z
theorem ldx1 {t : Row} {z i f m n : Nat} {R : Nat → List AV} {hp : Hp} (h : dF z n t R) (hi : i < n ∧ i < 16777215) (hf : f < z ∧ 2 ≤ z ∧ 1 ≤ m) (k : AV → ab) : aI mem false 1 (.x 1 t (eo z i f) m z) hp k = k ((R i).getD f .uu) :=
  au4 dx (h i hi.1).1 (h i hi.1).2 hi.2 hf.1 hf.2.1 hf.2.2 k
theorem a7I {t : Row} {z i m n : Nat} {R : Nat → List AV} {hp : Hp} (h : dF z n t R) (hi : i < n ∧ i < 16777215) (hf : 2 ≤ z ∧ z ≤ m) (k : AV → ab) : aI mem true z (.x 1 t (eo z i 0) m z) hp k = k (.agg (aA (R i)) z) :=
  au5 dx (h i hi.1).1 hi.2 hf.1 hf.2 k
theorem ldxs {t : Row} {i m : Nat} {hp : Hp} (hi : i < 16777215 ∧ 1 ≤ m) (k : AV → ab) : aI mem false 1 (.x 1 t (eo 1 i 0) m 1) hp k = k (t.at i) := au6 dx hi.1 hi.2 k
theorem a5G {M : Mem} {l : List AV} {n m : Nat} (h : ∀ v ∈ l,∀ hp k,(nB M (m + 1)).f hp v k = k v hp) (hp : Hp) (k : AV → Hp → ab) : (nB M (m + 2)).f hp (.agg (aA l) n) k = k (.agg (aA l) n) hp := by
  have hz : ∀ (l : List AV),(∀ v ∈ l,∀ hp k,(nB M (m + 1)).f hp v k = k v hp) → ∀ (hp : Hp) (k : Row → Hp → ab),zl (nB M (m + 1)) (aA l) hp k = k (aA l) hp := by
    intro l
    induction l with
    | nil=>exact fun _ _ _=>rfl
    | cons v l ih=>
      intro h hp k
      show (nB M (m + 1)).f hp v (fun v hp=>zl (nB M (m + 1)) (aA l) hp fun r hp=>k (.nd v .lf r) hp) = _
      rw [h v (by simp),ih fun w hw=>h w (by simp [hw])]
      rfl
  show eR (aA l) (fun p=>when p (k (.agg (aA l) n) hp) (zl (nB M (m + 1)) (aA l) hp fun r hp=>k (.agg r n) hp)) = _
  rw [fJ,hz l h]
  cases iw l <;> rfl
theorem pc {l : List AV} {n : Nat} (h : iw l = true) : Still (.agg (aA l) n) := by
  refine ⟨fun hp k=>?_,fun hc hp b k=>?_⟩
  · show eR (aA l) (fun p=>when p (k (.agg (aA l) n) hp) _) = _
    rw [fJ,h]; rfl
  · show eR (aA l) (fun p=>when p (k (.agg (aA l) n) hc hp b) _) = _
    rw [fJ,h]; rfl
theorem a3A {l : List AV} {n : Nat} (h : ∀ v ∈ l,∀ hc hp b k,(imp mem 23).f v hc hp b k = k v hc hp b) : vU (.bu (aA l) n) := by
  intro hc hp b k
  have hz : ∀ (l : List AV),(∀ v ∈ l,∀ hc hp b k,(imp mem 23).f v hc hp b k = k v hc hp b) → ∀ hc hp b k,il (imp mem 23) (aA l) hc hp b k = k (aA l) hc hp b := by
    intro l
    induction l with
    | nil=>exact fun _ _ _ _ _=>rfl
    | cons v l ih=>
      intro h hc hp b k
      show (imp mem 23).f v hc hp b (fun v hc hp b=>il (imp mem 23) (aA l) hc hp b fun r hc hp b=>k (.nd v .lf r) hc hp b) = _
      rw [h v (by simp),ih fun w hw=>h w (by simp [hw])]
      rfl
  show il (imp mem 23) (aA l) hc hp b (fun r hc hp b=>k (.bu r n) hc hp b) = _
  rw [hz l h]
def GoL (v : AV) : Prop := ∀ hc hp b k,(imp mem 23).f v hc hp b k = k v hc hp b
theorem rP (l : List UInt8) : GoL (S l) := fun _ _ _ _=>rfl
theorem a1d (i n : Nat) : GoL (.int i n) := fun _ _ _ _=>rfl
theorem kT (z : Int) : GoL (I z) := a1d 3 _
theorem goL_U (n : Nat) : GoL (U n) := a1d 7 n
theorem al2 (n : Nat) : GoL (B8 n) := a1d 4 n
theorem a3z (b : Bool) : GoL (.bool b) := fun _ _ _ _=>rfl
theorem rQ {l : List AV} {n : Nat} (h : iw l = true) : GoL (.agg (aA l) n) := fun hc hp b k=>by
  show eR (aA l) (fun p=>when p (k (.agg (aA l) n) hc hp b) _) = _
  rw [fJ,h]; rfl
theorem kj {a b : AV} (ha : GoL a) (hb : GoL b) : vU (.bu (.nd a .lf (.nd b .lf .lf)) 2) := a3A (l := [a,b]) fun v hv=>by
  simp only [List.mem_cons,List.not_mem_nil,or_false] at hv
  rcases hv with rfl | rfl
  · exact ha
  · exact hb
theorem goes3 {a b c : AV} (ha : GoL a) (hb : GoL b) (hc : GoL c) : vU (.bu (.nd a .lf (.nd b .lf (.nd c .lf .lf))) 3) := a3A (l := [a,b,c]) fun v hv=>by
  simp only [List.mem_cons,List.not_mem_nil,or_false] at hv
  rcases hv with rfl | rfl | rfl
  · exact ha
  · exact hb
  · exact hc
section
variable {h : Hp} {l : List Nat} {t : Tr bN} {n r : Nat} {b : Nat}
theorem afT : (h.pro l).nx = h.nx := rfl
theorem agb : (h.pro l).pr = l := rfl
theorem ah4 : (h.pro l).rb = h.rb := rfl
theorem anR : (h.pro l).at b = h.at b := rfl
theorem at_mk : (Hp.mk h.t n l r).at b = h.at b := rfl
theorem ald : (Hp.mk t n l r).nx = n := rfl
theorem ale : (Hp.mk t n l r).pr = l := rfl
theorem anp : (Hp.mk t n l r).rb = r := rfl
theorem a2O {a : List Nat} : pO [] a = a := rfl
theorem zj {x : Nat} {l a : List Nat} : pO (x :: l) a = x :: pO l a := rfl
end
theorem aeG {α : Type} {c : Prop} [Decidable c] {a b v : α} (h1 : c → a = v) (h2 : ¬c → b = v) : (if c then a else b) = v := by
  by_cases h : c
  · rw [if_pos h]; exact h1 h
  · rw [if_neg h]; exact h2 h
theorem ahL {M : Mem} {F : aF} {l : Row} {v : AV} (hl : ∀ hp k,zl (nB M 24) l hp k = k l hp) (hv : ∀ hc hp b k,(imp M 24).f v hc hp b k = k v hc hp b) (e : eJ (F.f l .empty) = some v) (hp : Hp) (k : AV → Hp → ab) : aH M false F l hp k = k v hp := by
  obtain ⟨hc,e⟩ := pM e
  show er M hp l (fun a ho=>dQ M F a hp ho k) (dB F l hp k) = _
  unfold er
  rw [hl]
  show dQ M F l hp hp k = _
  unfold dQ
  rw [e]
  show (imp M 24).f v hc hp false (fun v' _ hp' b=>when b _ (k v' hp')) = _
  rw [hv]
  rfl
theorem pf {F : aF} {l : Row} {v : AV} (hl : ∀ hp k,zl (nB mem 24) l hp k = k l hp) (hv : vU v) (e : eJ (F.f l .empty) = some v) (hp : Hp) (k : AV → Hp → ab) : aH mem false F l hp k = k v hp := ahL hl hv e hp k
noncomputable def kpB (B B' : bN) (h : Hp) (b : Nat) (l : List Nat) (hp : Hp) (k : Hp → ab) : ab := match B,B' with
  | .row _ f1 z1 s1 t1,.row r2 _ _ _ _=>fU mem h l (hp.eK b (.row r2 f1 z1 s1 t1)) k
  | _,_=>fU mem h (b :: l) hp k
theorem di {B B' C C' : bN} {h : Hp} {b : Nat} {l : List Nat} {hp : Hp} {k : Hp → ab} (h1 : mk B = B') (h2 : C = C') : kpB B C h b l hp k = kpB B' C' h b l hp k := by rw [mk_eq] at h1; rw [h1,h2]
theorem bA {M : Mem} {h : Hp} {l l' : List Nat} {hp : Hp} {k : Hp → ab} (h1 : mk l = l') : fU M h l hp k = fU M h l' hp k := by rw [mk_eq] at h1; rw [h1]
theorem bG {l l' : List ((AV → ab) → ab)} {acc : List Nat} {k : List Nat → ab} (h1 : mk l = l') : mc l acc k = mc l' acc k := by rw [mk_eq] at h1; rw [h1]
theorem bJ {hp h4 : Hp} {v v' : AV} {K : Hp → AV → ab} (h1 : mk v = v') : yr hp h4 v K = yr hp h4 v' K := by rw [mk_eq] at h1; rw [h1]
end Go.Proofs.YtpiokjcbadfalaaGreatDoor.Ev
open Go Go.Proofs.YtpiokjcbadfalaaGreatDoor.Ev
namespace Go.Proofs.YtpiokjcbadfalaaGreatDoor.Tz
set_option linter.defProp false
def Y2 := And.intro @List.length_append.{0} (And.intro @dy (And.intro @gG (And.intro @tR (And.intro @acf (And.intro @List.length_cons.{0} (And.intro @List.length_nil.{0} (And.intro @List.length_set.{0} (And.intro @pr_e (And.intro @a1G (And.intro @a1H (And.intro @aga (And.intro @afT (And.intro @agb (And.intro @ald (And.intro @ale (And.intro @anp (And.intro @ah4 (And.intro @aE (And.intro @ah3 (And.intro @aD (And.intro @a2O (@zj))))))))))))))))))))))
end Go.Proofs.YtpiokjcbadfalaaGreatDoor.Tz
namespace Go.Proofs.YtpiokjcbadfalaaGreatDoor.Tz
def td (W : World) (l : List AV) (vs : List Value) : Prop := l.length = vs.length ∧ ∀ i v,vs[i]? = some v → v.oneCell' = true ∧ ai W (fun B=>B < W.heap.size) dI (l.getD i .uu) v
def yV : Nat → (Nat → AV) → Row
  | 0,_=>.lf
  | k + 1,f=>.nd (f 0) (yV k fun i=>f (2 * i + 1)) (yV k fun i=>f (2 * i + 2))
theorem sy : ∀ (k : Nat) (f : Nat → AV) (i : Nat),i < k → (yV k f).at i = f i
  | 0,_,i,h=>absurd h (Nat.not_lt_zero i)
  | k + 1,f,0,_=>rfl
  | k + 1,f,j + 1,h=>by
    show (if j % 2 = 0 then (yV k fun i=>f (2 * i + 1)).get .uu (j / 2) else (yV k fun i=>f (2 * i + 2)).get .uu (j / 2)) = _
    split
    · exact (sy k _ (j / 2) (by omega)).trans (congrArg f (by omega))
    · exact (sy k _ (j / 2) (by omega)).trans (congrArg f (by omega))
theorem add_plain (b off i : Nat) : (⟨b,off,none⟩ : Addr).add i = ⟨b,off + i,none⟩ := by
  unfold Addr.add; split
  · subst_vars; rfl
  · rfl
theorem aiz {w : World} {p : Addr} {v : Value} (h : w.cell? p = some v) : p.block < w.heap.size := by
  simp only [World.cell?] at h
  split at h
  · rename_i heq
    exact (Array.getElem?_eq_some_iff.1 heq).1
  · cases h
theorem xB : ∀ (l : List AV) (i : Nat),nth (aA l) i = l.getD i .uu
  | [],i=>by cases i <;> rfl
  | a :: l,0=>rfl
  | a :: l,i + 1=>by
    show nth (aA l) i = _
    rw [xB l i]; rfl
structure SlV (z : Nat) (s : AV) (n : Nat) (t : Row) : Prop where
  form : (s = .vs t 0 n z) ∨ (s = .x 8 .lf 0 0 0 ∧ n = 0 ∧ t = .lf)
  ok : mC z s n t
section
variable {H : Type} {enc : TypeId × Value → H} {P : Program} {W : World} {spare : Nat → Bool} {held : Bool}
theorem fK {α : Type} (a0 : α) {av : α → List AV} {In : α → Prop} {t e : TypeId} {z m : Nat} {cs : List Value} {x : DataW H × List MemPlace}
    (ht : P.underlying t = some (.slice e)) (hc : P.cellsOf e = z) (h0 : 0 < z) (hl : ∀ a,(av a).length = z)
    (ho : ∀ m cs x,DataW.trod enc P W 0 spare held m e cs = some x → ∃ a,In a ∧ td W (av a) cs)
    (h : DataW.trod enc P W 0 spare held m t cs = some x) :
    ∃ (f : Nat → α) (n : Nat) (s : AV) (r : Row),SlV z s n r ∧ (2 ≤ z → dF z n r fun i=>av (f i)) ∧ (∀ i,i < n → In (f i)) ∧ td W [s] cs := by
  rcases DataW.trod_slice ht h with ⟨rfl,_⟩ | ⟨a,len,cap,elems,rest,m',rfl,rfl,_,_,hle,hm,hlen,hel,_,_⟩
  · refine ⟨fun _=>a0,0,.x 8 .lf 0 0 0,.lf,⟨.inr ⟨rfl,rfl,rfl⟩,a5C⟩,fun _ i hi=>absurd hi (Nat.not_lt_zero i),fun i hi=>absurd hi (Nat.not_lt_zero i),rfl,fun i v hv=>?_⟩
    match i with
    | 0=>injection hv with hv; subst hv; exact ⟨rfl,.qH⟩
    | i + 1=>cases hv
  · have key : ∀ i : Nat,i < len → ∃ (y : α) (c : List Value),In y ∧ td W (av y) c ∧ W.cells? 0 (a.add (i * z)) z = some c := by
      intro i hi
      have h1 := hel i hi
      rw [List.getElem?_eq_getElem (by omega),hc] at h1
      obtain ⟨cs',h2,h3⟩ := Option.bind_eq_some_iff.1 h1
      obtain ⟨y,hy,hr⟩ := ho m' cs' _ h3
      exact ⟨y,cs',hy,hr,h2⟩
    have hcap : cap < 9223372036854775808 := by
      have : maxLen = 9223372036854775807 := by decide
      omega
    have one : ∀ {s : AV},ai W (fun B=>B < W.heap.size) dI s (.slice (some a) len cap) → td W [s] [.slice (some a) len cap] := fun hs=>⟨rfl,fun i v hv=>by
      match i with
      | 0=>injection hv with hv; subst hv; exact ⟨rfl,hs⟩
      | i + 1=>cases hv⟩
    by_cases hz : len = 0
    · subst hz
      exact ⟨fun _=>a0,0,.vs .lf 0 0 z,.lf,⟨.inl rfl,a1U (by decide)⟩,fun _ i hi=>absurd hi (Nat.not_lt_zero i),fun i hi=>absurd hi (Nat.not_lt_zero i),one .vs0⟩
    · obtain ⟨y0,c0,_,hr0,hy0⟩ := key 0 (by omega)
      obtain ⟨_,hl0,hc0⟩ := World.cells?_some hy0
      have ha : W.cell? a = c0[0]? := by have := hc0 0 h0; simpa [Addr.add] using this
      have hsome : c0[0]? = some (c0[0]'(by omega)) := List.getElem?_eq_getElem _
      rw [hsome] at ha
      obtain ⟨b,off,spot⟩ := a
      have hs : spot = none := by
        cases spot with
        | none=>rfl
        | some s=>
          simp only [World.cell?] at ha
          split at ha <;> simp at ha
      subst hs
      have hblt : b < W.heap.size := aiz ha
      have key2 : ∀ i : Nat,∃ y : α,i < len → In y ∧ ∃ c,td W (av y) c ∧ W.cells? 0 ((⟨b,off,none⟩ : Addr).add (i * z)) z = some c := fun i=>by
        by_cases hi : i < len
        · obtain ⟨y,c,h1,h2,h3⟩ := key i hi
          exact ⟨y,fun _=>⟨h1,c,h2,h3⟩⟩
        · exact ⟨a0,fun h=>absurd h hi⟩
      let f : Nat → α := fun i=>Classical.choose (key2 i)
      have hf : ∀ i,i < len → In (f i) ∧ ∃ c,td W (av (f i)) c ∧ W.cells? 0 ((⟨b,off,none⟩ : Addr).add (i * z)) z = some c := fun i=>Classical.choose_spec (key2 i)
      let g : Nat → AV := fun i=>if z = 1 then (av (f i)).getD 0 .uu else .agg (aA (av (f i))) z
      have hg : ∀ i j,i < len → j < z → cellAt z (yV len g) (i * z + j) = (av (f i)).getD j .uu := fun i j hi hj=>by
        unfold cellAt
        by_cases hz1 : z = 1
        · subst hz1
          obtain rfl : j = 0 := by omega
          rw [if_pos rfl,Nat.mul_one,Nat.add_zero,sy len g i hi]
          show (if 1 = 1 then _ else _) = _
          rw [if_pos rfl]
        · have e1 : (i * z + j) / z = i := by rw [Nat.mul_comm,Nat.mul_add_div h0,Nat.div_eq_of_lt hj,Nat.add_zero]
          have e2 : (i * z + j) % z = j := by rw [Nat.mul_comm,Nat.mul_add_mod,Nat.mod_eq_of_lt hj]
          rw [if_neg hz1,e1,e2,sy len g i hi]
          show elc (if z = 1 then _ else AV.agg (aA (av (f i))) z) j = _
          rw [if_neg hz1]
          exact xB _ j
      have hcell : ∀ k,k < len * z → ∃ v,W.cell? ⟨b,off + k,none⟩ = some v ∧ v.oneCell' = true ∧ ai W (fun B=>B < W.heap.size) dI (cellAt z (yV len g) k) v := fun k hk=>by
        have hi : k / z < len := Nat.div_lt_of_lt_mul (by rw [Nat.mul_comm]; exact hk)
        have hj : k % z < z := Nat.mod_lt k h0
        have hk2 : k / z * z + k % z = k := Nat.div_add_mod' k z
        obtain ⟨_,c,hr,hcs⟩ := hf (k / z) hi
        obtain ⟨_,hlc,hcc⟩ := World.cells?_some hcs
        have hx : c[k % z]? = some (c[k % z]'(by omega)) := List.getElem?_eq_getElem _
        have h1 := hcc (k % z) hj
        rw [add_plain,add_plain,Nat.add_assoc,hk2,hx] at h1
        obtain ⟨h2,h3⟩ := hr.2 _ _ hx
        have h4 := hg (k / z) (k % z) hi hj
        rw [hk2] at h4
        rw [h4]
        exact ⟨_,h1,h2,h3⟩
      refine ⟨f,len,.vs (yV len g) 0 len z,yV len g,⟨.inl rfl,a1U (by omega)⟩,fun h2 i hi=>⟨?_,hl _⟩,fun i hi=>(hf i hi).1,one ?_⟩
      · rw [sy len g i hi]
        show (if z = 1 then _ else AV.agg (aA (av (f i))) z) = _
        rw [if_neg (by omega)]
      · let us : Nat → Value := fun k=>if h : k < len * z then Classical.choose (hcell k h) else .nilIface
        have hus : ∀ k,k < len * z → W.cell? ⟨b,off + k,none⟩ = some (us k) ∧ (us k).oneCell' = true ∧ ai W (fun B=>B < W.heap.size) dI (cellAt z (yV len g) k) (us k) := fun k hk=>by
          simp only [us,dif_pos hk]
          exact Classical.choose_spec (hcell k hk)
        exact .vs us hblt hle (fun k hk=>(hus k hk).1) (fun k hk=>(hus k hk).2.1) fun k hk=>by rw [Nat.zero_mul,Nat.zero_add]; exact (hus k hk).2.2
theorem oQ : td W [] [] := ⟨rfl,fun i v hv=>by cases hv⟩
theorem bM {a : AV} {l : List AV} {c : Value} {vs : List Value} (h : td W [a] [c]) (k : td W l vs) : td W (a :: l) (c :: vs) :=
  ⟨by simp [k.1],fun i v hv=>by
    match i with
    | 0=>exact h.2 0 v hv
    | i + 1=>exact k.2 i v hv⟩
theorem xQ {c : Value} (h : c.oneCell' = true) : td W [.uu] [c] := ⟨rfl,fun i v hv=>by
  match i with
  | 0=>injection hv with hv; subst hv; exact ⟨h,.uu _⟩
  | i + 1=>cases hv⟩
theorem a86 {a : AV} {c : Value} (h : c.oneCell' = true) (k : ai W (fun B=>B < W.heap.size) dI a c) : td W [a] [c] := ⟨rfl,fun i v hv=>by
  match i with
  | 0=>injection hv with hv; subst hv; exact ⟨h,k⟩
  | i + 1=>cases hv⟩
theorem rel_B {F : Nat → Prop} {μ : Mu} {n : Nat} (h : n < 256) : ai W F μ (B8 n) (.int .u8 n) := by
  have := ai.int (w := W) (F := F) (μ := μ) (k := 4) (n := n) (by show n < 256; exact h)
  have e : (kd 4).wrap (n : Int) = n := by
    show IntKind.u8.wrap _ = _
    simp only [IntKind.wrap]
    first
      | omega
      | (simp [IntKind.bits,IntKind.signed]; omega)
  rw [e] at this
  exact this
theorem dE {t : TypeId} {m : Nat} {cs : List Value} {x : DataW H × List MemPlace} (ht : P.underlying t = some (.int .i64)) (h : DataW.trod enc P W 0 spare held m t cs = some x) : ∃ z,jR z ∧ td W [I z] cs := by
  obtain ⟨z,rfl,_,hw⟩ := DataW.trod_int ht h
  have : jR z := by
    simp only [Lit.wf,Bool.and_eq_true,decide_eq_true_eq] at hw
    have e1 : IntKind.i64.min = -9223372036854775808 := by decide
    have e2 : IntKind.i64.max = 9223372036854775807 := by decide
    unfold jR; omega
  exact ⟨z,this,a86 rfl (aau this)⟩
theorem sG {t : TypeId} {m : Nat} {cs : List Value} {x : DataW H × List MemPlace} (ht : P.underlying t = some (.int .u8)) (h : DataW.trod enc P W 0 spare held m t cs = some x) : ∃ n,n < 256 ∧ td W [B8 n] cs := by
  obtain ⟨z,rfl,_,hw⟩ := DataW.trod_int ht h
  simp only [Lit.wf,Bool.and_eq_true,decide_eq_true_eq] at hw
  have e1 : IntKind.u8.min = 0 := by decide
  have e2 : IntKind.u8.max = 255 := by decide
  obtain ⟨n,rfl⟩ : ∃ n : Nat,z = n := ⟨z.toNat,by omega⟩
  exact ⟨n,by omega,a86 rfl (rel_B (by omega))⟩
theorem open_int {k : IntKind} {t : TypeId} {m : Nat} {cs : List Value} {x : DataW H × List MemPlace} (ht : P.underlying t = some (.int k)) (h : DataW.trod enc P W 0 spare held m t cs = some x) : td W [.uu] cs := by
  obtain ⟨z,rfl,_,hw⟩ := DataW.trod_int ht h
  exact xQ rfl
theorem sF {t : TypeId} {m : Nat} {cs : List Value} {x : DataW H × List MemPlace} (ht : P.underlying t = some .string) (h : DataW.trod enc P W 0 spare held m t cs = some x) : ∃ l : List UInt8,l.length < 9223372036854775808 ∧ td W [S l] cs := by
  obtain ⟨s,rfl,_,hw⟩ := DataW.trod_string ht h
  refine ⟨s.data.toList, ?_,a86 rfl .str⟩
  have : maxLen = 9223372036854775807 := by decide
  show s.size < _
  omega
theorem yY {t e : TypeId} {m : Nat} {cs : List Value} {x : DataW H × List MemPlace} (ht : P.underlying t = some (.slice e)) (h : DataW.trod enc P W 0 spare held m t cs = some x) : td W [.uu] cs := by
  rcases DataW.trod_slice ht h with ⟨rfl,_⟩ | ⟨a,len,cap,elems,rest,m',rfl,rfl,_⟩
  · exact xQ rfl
  · exact xQ rfl
theorem eW {t : TypeId} {m : Nat} {cs : List Value} {x : DataW H × List MemPlace} {l : List (TypeId × Nat)} {z : Nat}
    (hh : (P.underlying t).map (fun d=>match d with | .struct fs=>fs.toList.map (fun f=>(f.type,f.offset)) | _=>[]) = some l) (hl : l ≠ []) (hz : P.cellsOf t = z) (h : DataW.trod enc P W 0 spare held m t cs = some x) :
    cs.length = z ∧ ∃ m',∀ (i : Nat) (ty : TypeId) (off : Nat),l[i]? = some (ty,off) → ∃ y,DataW.trod enc P W 0 spare held m' ty ((cs.drop off).take (P.cellsOf ty)) = some y := by
  obtain ⟨fs,hu,hfs⟩ : ∃ fs : Array Field,P.underlying t = some (.struct fs) ∧ fs.toList.map (fun f=>(f.type,f.offset)) = l := by
    cases hu : P.underlying t with
    | none=>rw [hu] at hh; simp at hh
    | some d=>cases d with
      | struct fs=>rw [hu] at hh; simp only [Option.map_some,Option.some.injEq] at hh; exact ⟨fs,rfl,hh⟩
      | _=>rw [hu] at hh; simp at hh; exact absurd hh hl
  obtain ⟨xs,m,rfl,-,hlen,hxl,hf⟩ := DataW.trod_struct hu h
  refine ⟨hlen.trans hz,m,fun i ty off hi=>?_⟩
  rw [← hfs,List.getElem?_map] at hi
  obtain ⟨f,hfi,he⟩ := Option.map_eq_some_iff.1 hi
  simp only [Prod.mk.injEq] at he
  obtain ⟨rfl,rfl⟩ := he
  have h1 := hf i f (by simpa using hfi)
  have hil : i < xs.length := by
    have := (List.getElem?_eq_some_iff.1 hfi).1
    rw [hxl]; simpa using this
  rw [List.getElem?_eq_getElem hil] at h1
  exact ⟨_,h1⟩
end
theorem al5 {α : Type} {l : List α} (h : l.length = 2) : ∃ c0 c1,l = [c0,c1] := by
  match l,h with
  | [c0,c1],_=>exact ⟨c0,c1,rfl⟩
theorem al6 {α : Type} {l : List α} (h : l.length = 3) : ∃ c0 c1 c2,l = [c0,c1,c2] := by
  match l,h with
  | [c0,c1,c2],_=>exact ⟨c0,c1,c2,rfl⟩
theorem al7 {α : Type} {l : List α} (h : l.length = 4) : ∃ c0 c1 c2 c3,l = [c0,c1,c2,c3] := by
  match l,h with
  | [c0,c1,c2,c3],_=>exact ⟨c0,c1,c2,c3,rfl⟩
theorem al8 {α : Type} {l : List α} (h : l.length = 7) : ∃ c0 c1 c2 c3 c4 c5 c6,l = [c0,c1,c2,c3,c4,c5,c6] := by
  match l,h with
  | [c0,c1,c2,c3,c4,c5,c6],_=>exact ⟨c0,c1,c2,c3,c4,c5,c6,rfl⟩
theorem ym : Tryz.prog.underlying 9 = some (.string) := by kernel_rfl
theorem a6O : Tryz.prog.cellsOf 9 = 1 := by kernel_rfl
theorem gb : Tryz.prog.underlying 3 = some (.int .i64) := by kernel_rfl
theorem fW : Tryz.prog.cellsOf 3 = 1 := by kernel_rfl
theorem abv : (Tryz.prog.underlying 101).map (fun d=>match d with | .struct fs=>fs.toList.map (fun f=>(f.type,f.offset)) | _=>[]) = some [(9,0),(3,1)] := by kernel_rfl
theorem a3c : Tryz.prog.cellsOf 101 = 2 := by kernel_rfl
structure FdA where
  nm : List UInt8
  ty : Int
noncomputable def FdA.av (x : FdA) : List AV := [S x.nm,I x.ty]
def FdA.In (x : FdA) : Prop := x.nm.length < 9223372036854775808 ∧ jR x.ty
theorem auk {H : Type} {enc : TypeId × Value → H} {W : World} {spare : Nat → Bool} {held : Bool} {m : Nat} {cs : List Value} {x : DataW H × List MemPlace} (h : DataW.trod enc Tryz.prog W 0 spare held m 101 cs = some x) : ∃ a : FdA,a.In ∧ td W a.av cs := by
  obtain ⟨hlen,m2,fld⟩ := eW abv (by simp) a3c h
  obtain ⟨c0,c1,rfl⟩ := al5 hlen
  obtain ⟨y0,h0⟩ := fld 0 _ _ rfl
  simp only [a6O,List.drop_zero,List.take_succ_cons,List.take_zero] at h0
  obtain ⟨v0,g0,r0⟩ := sF ym h0
  obtain ⟨y1,h1⟩ := fld 1 _ _ rfl
  simp only [Y7,fW] at h1
  obtain ⟨v1,g1,r1⟩ := dE gb h1
  exact ⟨⟨v0,v1⟩,⟨g0,g1⟩,(bM r0 (bM r1 oQ))⟩
theorem yk : Tryz.prog.underlying 5 = some (.int .u8) := by kernel_rfl
theorem wj : Tryz.prog.cellsOf 5 = 1 := by kernel_rfl
theorem abw : (Tryz.prog.underlying 103).map (fun d=>match d with | .struct fs=>fs.toList.map (fun f=>(f.type,f.offset)) | _=>[]) = some [(5,0),(3,1),(3,2),(3,3)] := by kernel_rfl
theorem a3d : Tryz.prog.cellsOf 103 = 4 := by kernel_rfl
structure a0D where
  op : Nat
  a : Int
  b : Int
  c : Int
noncomputable def a0D.av (x : a0D) : List AV := [B8 x.op,I x.a,I x.b,I x.c]
def a0D.In (x : a0D) : Prop := x.op < 256 ∧ jR x.a ∧ jR x.b ∧ jR x.c
theorem ak0 {H : Type} {enc : TypeId × Value → H} {W : World} {spare : Nat → Bool} {held : Bool} {m : Nat} {cs : List Value} {x : DataW H × List MemPlace} (h : DataW.trod enc Tryz.prog W 0 spare held m 103 cs = some x) : ∃ a : a0D,a.In ∧ td W a.av cs := by
  obtain ⟨hlen,m2,fld⟩ := eW abw (by simp) a3d h
  obtain ⟨c0,c1,c2,c3,rfl⟩ := al7 hlen
  obtain ⟨y0,h0⟩ := fld 0 _ _ rfl
  simp only [wj,List.drop_zero,List.take_succ_cons,List.take_zero] at h0
  obtain ⟨v0,g0,r0⟩ := sG yk h0
  obtain ⟨y1,h1⟩ := fld 1 _ _ rfl
  simp only [Y7,fW] at h1
  obtain ⟨v1,g1,r1⟩ := dE gb h1
  obtain ⟨y2,h2⟩ := fld 2 _ _ rfl
  simp only [Y7,fW] at h2
  obtain ⟨v2,g2,r2⟩ := dE gb h2
  obtain ⟨y3,h3⟩ := fld 3 _ _ rfl
  simp only [Y7,fW] at h3
  obtain ⟨v3,g3,r3⟩ := dE gb h3
  exact ⟨⟨v0,v1,v2,v3⟩,⟨g0,g1,g2,g3⟩,(bM r0 (bM r1 (bM r2 (bM r3 oQ))))⟩
theorem akz : Tryz.prog.underlying 87 = some (.int .u64) := by kernel_rfl
theorem aiG : Tryz.prog.cellsOf 87 = 1 := by kernel_rfl
theorem aby : (Tryz.prog.underlying 166).map (fun d=>match d with | .struct fs=>fs.toList.map (fun f=>(f.type,f.offset)) | _=>[]) = some [(3,0),(87,1)] := by kernel_rfl
theorem wi : Tryz.prog.cellsOf 166 = 2 := by kernel_rfl
structure RnA where
  f : Int
noncomputable def RnA.av (x : RnA) : List AV := [I x.f,.uu]
def RnA.In (x : RnA) : Prop := jR x.f
theorem afY {H : Type} {enc : TypeId × Value → H} {W : World} {spare : Nat → Bool} {held : Bool} {m : Nat} {cs : List Value} {x : DataW H × List MemPlace} (h : DataW.trod enc Tryz.prog W 0 spare held m 166 cs = some x) : ∃ a : RnA,a.In ∧ td W a.av cs := by
  obtain ⟨hlen,m2,fld⟩ := eW aby (by simp) wi h
  obtain ⟨c0,c1,rfl⟩ := al5 hlen
  obtain ⟨y0,h0⟩ := fld 0 _ _ rfl
  simp only [fW,List.drop_zero,List.take_succ_cons,List.take_zero] at h0
  obtain ⟨v0,g0,r0⟩ := dE gb h0
  obtain ⟨y1,h1⟩ := fld 1 _ _ rfl
  simp only [Y7,aiG] at h1
  have r1 := open_int akz h1
  exact ⟨⟨v0⟩,g0,(bM r0 (bM r1 oQ))⟩
theorem aaH : Tryz.prog.underlying 57 = some (.slice 101) := by kernel_rfl
theorem a8V : Tryz.prog.cellsOf 57 = 1 := by kernel_rfl
theorem abx : (Tryz.prog.underlying 123).map (fun d=>match d with | .struct fs=>fs.toList.map (fun f=>(f.type,f.offset)) | _=>[]) = some [(5,0),(3,1),(3,2),(57,3)] := by kernel_rfl
theorem a3e : Tryz.prog.cellsOf 123 = 4 := by kernel_rfl
structure TyA where
  k : Nat
  e : Int
  l : Int
noncomputable def TyA.av (x : TyA) : List AV := [B8 x.k,I x.e,I x.l,.uu]
def TyA.In (x : TyA) : Prop := x.k < 256 ∧ jR x.e ∧ jR x.l
theorem aup {H : Type} {enc : TypeId × Value → H} {W : World} {spare : Nat → Bool} {held : Bool} {m : Nat} {cs : List Value} {x : DataW H × List MemPlace} (h : DataW.trod enc Tryz.prog W 0 spare held m 123 cs = some x) : ∃ a : TyA,a.In ∧ td W a.av cs := by
  obtain ⟨hlen,m2,fld⟩ := eW abx (by simp) a3e h
  obtain ⟨c0,c1,c2,c3,rfl⟩ := al7 hlen
  obtain ⟨y0,h0⟩ := fld 0 _ _ rfl
  simp only [wj,List.drop_zero,List.take_succ_cons,List.take_zero] at h0
  obtain ⟨v0,g0,r0⟩ := sG yk h0
  obtain ⟨y1,h1⟩ := fld 1 _ _ rfl
  simp only [Y7,fW] at h1
  obtain ⟨v1,g1,r1⟩ := dE gb h1
  obtain ⟨y2,h2⟩ := fld 2 _ _ rfl
  simp only [Y7,fW] at h2
  obtain ⟨v2,g2,r2⟩ := dE gb h2
  obtain ⟨y3,h3⟩ := fld 3 _ _ rfl
  simp only [Y7,a8V] at h3
  have r3 := yY aaH h3
  exact ⟨⟨v0,v1,v2⟩,⟨g0,g1,g2⟩,(bM r0 (bM r1 (bM r2 (bM r3 oQ))))⟩
structure SgA where
  s : List UInt8
noncomputable def SgA.av (x : SgA) : List AV := [S x.s]
def SgA.In (x : SgA) : Prop := x.s.length < 9223372036854775808
theorem auo {H : Type} {enc : TypeId × Value → H} {W : World} {spare : Nat → Bool} {held : Bool} {m : Nat} {cs : List Value} {x : DataW H × List MemPlace} (h : DataW.trod enc Tryz.prog W 0 spare held m 9 cs = some x) : ∃ a : SgA,a.In ∧ td W a.av cs := by
  obtain ⟨v,g,r⟩ := sF ym h
  exact ⟨⟨v⟩,g,r⟩
theorem aky : Tryz.prog.underlying 58 = some (.slice 103) := by kernel_rfl
theorem aiF : Tryz.prog.cellsOf 58 = 1 := by kernel_rfl
theorem aaI : Tryz.prog.underlying 59 = some (.slice 166) := by kernel_rfl
theorem a8W : Tryz.prog.cellsOf 59 = 1 := by kernel_rfl
theorem aec : (Tryz.prog.underlying 61).map (fun d=>match d with | .struct fs=>fs.toList.map (fun f=>(f.type,f.offset)) | _=>[]) = some [(9,0),(3,1),(3,2),(57,3),(58,4),(59,5),(59,6)] := by kernel_rfl
theorem a8X : Tryz.prog.cellsOf 61 = 7 := by kernel_rfl
structure FuA where
  nm : List UInt8
  pa : Int
  re : Int
  sl : AV
  slN : Nat
  slT : Row
  th : Nat → FdA
  cd : AV
  cdN : Nat
  cdT : Row
  cdF : Nat → a0D
  sz : AV
  lv : AV
noncomputable def FuA.av (x : FuA) : List AV := [S x.nm,I x.pa,I x.re,x.sl,x.cd,x.sz,x.lv]
def FuA.In (x : FuA) : Prop := x.nm.length < 9223372036854775808 ∧ jR x.pa ∧ jR x.re ∧ (SlV 2 x.sl x.slN x.slT ∧ (dF 2 x.slN x.slT fun i=>(x.th i).av) ∧ ∀ i,i < x.slN → (x.th i).In) ∧ (SlV 4 x.cd x.cdN x.cdT ∧ (dF 4 x.cdN x.cdT fun i=>(x.cdF i).av) ∧ ∀ i,i < x.cdN → (x.cdF i).In) ∧ (∃ n t,SlV 2 x.sz n t) ∧ (∃ n t,SlV 2 x.lv n t)
theorem aul {H : Type} {enc : TypeId × Value → H} {W : World} {spare : Nat → Bool} {held : Bool} {m : Nat} {cs : List Value} {x : DataW H × List MemPlace} (h : DataW.trod enc Tryz.prog W 0 spare held m 61 cs = some x) : ∃ a : FuA,a.In ∧ td W a.av cs := by
  obtain ⟨hlen,m2,fld⟩ := eW aec (by simp) a8X h
  obtain ⟨c0,c1,c2,c3,c4,c5,c6,rfl⟩ := al8 hlen
  obtain ⟨y0,h0⟩ := fld 0 _ _ rfl
  simp only [a6O,List.drop_zero,List.take_succ_cons,List.take_zero] at h0
  obtain ⟨v0,g0,r0⟩ := sF ym h0
  obtain ⟨y1,h1⟩ := fld 1 _ _ rfl
  simp only [Y7,fW] at h1
  obtain ⟨v1,g1,r1⟩ := dE gb h1
  obtain ⟨y2,h2⟩ := fld 2 _ _ rfl
  simp only [Y7,fW] at h2
  obtain ⟨v2,g2,r2⟩ := dE gb h2
  obtain ⟨y3,h3⟩ := fld 3 _ _ rfl
  simp only [Y7,a8V] at h3
  obtain ⟨f3,n3,s3,t3,a3,b3,d3,r3⟩ := fK (α := FdA) ⟨[],0⟩ (av := FdA.av) (In := FdA.In) aaH a3c (by decide) (fun _=>rfl) (fun m cs x h=>auk h) h3
  obtain ⟨y4,h4⟩ := fld 4 _ _ rfl
  simp only [Y7,aiF] at h4
  obtain ⟨f4,n4,s4,t4,a4,b4,d4,r4⟩ := fK (α := a0D) ⟨0,0,0,0⟩ (av := a0D.av) (In := a0D.In) aky a3d (by decide) (fun _=>rfl) (fun m cs x h=>ak0 h) h4
  obtain ⟨y5,h5⟩ := fld 5 _ _ rfl
  simp only [Y7,a8W] at h5
  obtain ⟨f5,n5,s5,t5,a5,b5,d5,r5⟩ := fK (α := RnA) ⟨0⟩ (av := RnA.av) (In := RnA.In) aaI wi (by decide) (fun _=>rfl) (fun m cs x h=>afY h) h5
  obtain ⟨y6,h6⟩ := fld 6 _ _ rfl
  simp only [Y7,a8W] at h6
  obtain ⟨f6,n6,s6,t6,a6,b6,d6,r6⟩ := fK (α := RnA) ⟨0⟩ (av := RnA.av) (In := RnA.In) aaI wi (by decide) (fun _=>rfl) (fun m cs x h=>afY h) h6
  exact ⟨⟨v0,v1,v2,s3,n3,t3,f3,s4,n4,t4,f4,s5,s6⟩,⟨g0,g1,g2,⟨a3,b3 (by decide),d3⟩,⟨a4,b4 (by decide),d4⟩,⟨n5,t5,a5⟩,⟨n6,t6,a6⟩⟩,(bM r0 (bM r1 (bM r2 (bM r3 (bM r4 (bM r5 (bM r6 oQ)))))))⟩
theorem akv : Tryz.prog.underlying 22 = some (.slice 123) := by kernel_rfl
theorem aiA : Tryz.prog.cellsOf 22 = 1 := by kernel_rfl
theorem akw : Tryz.prog.underlying 23 = some (.slice 9) := by kernel_rfl
theorem aiB : Tryz.prog.cellsOf 23 = 1 := by kernel_rfl
theorem akx : Tryz.prog.underlying 24 = some (.slice 61) := by kernel_rfl
theorem aiC : Tryz.prog.cellsOf 24 = 1 := by kernel_rfl
theorem ae9 : (Tryz.prog.underlying 26).map (fun d=>match d with | .struct fs=>fs.toList.map (fun f=>(f.type,f.offset)) | _=>[]) = some [(22,0),(23,1),(24,2)] := by kernel_rfl
theorem aiD : Tryz.prog.cellsOf 26 = 3 := by kernel_rfl
structure ImA where
  ty : AV
  tx : AV
  fs : AV
  fsN : Nat
  fsT : Row
  fsF : Nat → FuA
noncomputable def ImA.av (x : ImA) : List AV := [x.ty,x.tx,x.fs]
def ImA.In (x : ImA) : Prop := (∃ n t,SlV 4 x.ty n t) ∧ (∃ n t,SlV 1 x.tx n t) ∧ (SlV 7 x.fs x.fsN x.fsT ∧ (dF 7 x.fsN x.fsT fun i=>(x.fsF i).av) ∧ ∀ i,i < x.fsN → (x.fsF i).In)
theorem aum {H : Type} {enc : TypeId × Value → H} {W : World} {spare : Nat → Bool} {held : Bool} {m : Nat} {cs : List Value} {x : DataW H × List MemPlace} (h : DataW.trod enc Tryz.prog W 0 spare held m 26 cs = some x) : ∃ a : ImA,a.In ∧ td W a.av cs := by
  obtain ⟨hlen,m2,fld⟩ := eW ae9 (by simp) aiD h
  obtain ⟨c0,c1,c2,rfl⟩ := al6 hlen
  obtain ⟨y0,h0⟩ := fld 0 _ _ rfl
  simp only [aiA,List.drop_zero,List.take_succ_cons,List.take_zero] at h0
  obtain ⟨f0,n0,s0,t0,a0,b0,d0,r0⟩ := fK (α := TyA) ⟨0,0,0⟩ (av := TyA.av) (In := TyA.In) akv a3e (by decide) (fun _=>rfl) (fun m cs x h=>aup h) h0
  obtain ⟨y1,h1⟩ := fld 1 _ _ rfl
  simp only [Y7,aiB] at h1
  obtain ⟨f1,n1,s1,t1,a1,b1,d1,r1⟩ := fK (α := SgA) ⟨[]⟩ (av := SgA.av) (In := SgA.In) akw a6O (by decide) (fun _=>rfl) (fun m cs x h=>auo h) h1
  obtain ⟨y2,h2⟩ := fld 2 _ _ rfl
  simp only [Y7,aiC] at h2
  obtain ⟨f2,n2,s2,t2,a2,b2,d2,r2⟩ := fK (α := FuA) ⟨[],0,0,.uu,0,.lf,fun _=>⟨[],0⟩,.uu,0,.lf,fun _=>⟨0,0,0,0⟩,.uu,.uu⟩ (av := FuA.av) (In := FuA.In) akx a8X (by decide) (fun _=>rfl) (fun m cs x h=>aul h) h2
  exact ⟨⟨s0,s1,s2,n2,t2,f2⟩,⟨⟨n0,t0,a0⟩,⟨n1,t1,a1⟩,⟨a2,b2 (by decide),d2⟩⟩,(bM r0 (bM r1 (bM r2 oQ)))⟩
theorem aeb : (Tryz.prog.underlying 36).map (fun d=>match d with | .struct fs=>fs.toList.map (fun f=>(f.type,f.offset)) | _=>[]) = some [(3,0),(3,1),(3,2),(3,3),(5,4),(3,5),(5,6)] := by kernel_rfl
theorem a8U : Tryz.prog.cellsOf 36 = 7 := by kernel_rfl
structure MaA where
  step : Int
  g : Int
  f : Int
  at_ : Int
  op : Nat
  fr : Int
  out : Nat
noncomputable def MaA.av (x : MaA) : List AV := [I x.step,I x.g,I x.f,I x.at_,B8 x.op,I x.fr,B8 x.out]
def MaA.In (x : MaA) : Prop := jR x.step ∧ jR x.g ∧ jR x.f ∧ jR x.at_ ∧ x.op < 256 ∧ jR x.fr ∧ x.out < 256
theorem aun {H : Type} {enc : TypeId × Value → H} {W : World} {spare : Nat → Bool} {held : Bool} {m : Nat} {cs : List Value} {x : DataW H × List MemPlace} (h : DataW.trod enc Tryz.prog W 0 spare held m 36 cs = some x) : ∃ a : MaA,a.In ∧ td W a.av cs := by
  obtain ⟨hlen,m2,fld⟩ := eW aeb (by simp) a8U h
  obtain ⟨c0,c1,c2,c3,c4,c5,c6,rfl⟩ := al8 hlen
  obtain ⟨y0,h0⟩ := fld 0 _ _ rfl
  simp only [fW,List.drop_zero,List.take_succ_cons,List.take_zero] at h0
  obtain ⟨v0,g0,r0⟩ := dE gb h0
  obtain ⟨y1,h1⟩ := fld 1 _ _ rfl
  simp only [Y7,fW] at h1
  obtain ⟨v1,g1,r1⟩ := dE gb h1
  obtain ⟨y2,h2⟩ := fld 2 _ _ rfl
  simp only [Y7,fW] at h2
  obtain ⟨v2,g2,r2⟩ := dE gb h2
  obtain ⟨y3,h3⟩ := fld 3 _ _ rfl
  simp only [Y7,fW] at h3
  obtain ⟨v3,g3,r3⟩ := dE gb h3
  obtain ⟨y4,h4⟩ := fld 4 _ _ rfl
  simp only [Y7,wj] at h4
  obtain ⟨v4,g4,r4⟩ := sG yk h4
  obtain ⟨y5,h5⟩ := fld 5 _ _ rfl
  simp only [Y7,fW] at h5
  obtain ⟨v5,g5,r5⟩ := dE gb h5
  obtain ⟨y6,h6⟩ := fld 6 _ _ rfl
  simp only [Y7,wj] at h6
  obtain ⟨v6,g6,r6⟩ := sG yk h6
  exact ⟨⟨v0,v1,v2,v3,v4,v5,v6⟩,⟨g0,g1,g2,g3,g4,g5,g6⟩,(bM r0 (bM r1 (bM r2 (bM r3 (bM r4 (bM r5 (bM r6 oQ)))))))⟩
theorem aea : (Tryz.prog.underlying 29).map (fun d=>match d with | .struct fs=>fs.toList.map (fun f=>(f.type,f.offset)) | _=>[]) = some [(5,0),(3,1),(3,2)] := by kernel_rfl
theorem aiE : Tryz.prog.cellsOf 29 = 3 := by kernel_rfl
structure EdA where
  out : Nat
  fl : Int
  us : Int
noncomputable def EdA.av (x : EdA) : List AV := [B8 x.out,I x.fl,I x.us]
def EdA.In (x : EdA) : Prop := x.out < 256 ∧ jR x.fl ∧ jR x.us
theorem auj {H : Type} {enc : TypeId × Value → H} {W : World} {spare : Nat → Bool} {held : Bool} {m : Nat} {cs : List Value} {x : DataW H × List MemPlace} (h : DataW.trod enc Tryz.prog W 0 spare held m 29 cs = some x) : ∃ a : EdA,a.In ∧ td W a.av cs := by
  obtain ⟨hlen,m2,fld⟩ := eW aea (by simp) aiE h
  obtain ⟨c0,c1,c2,rfl⟩ := al6 hlen
  obtain ⟨y0,h0⟩ := fld 0 _ _ rfl
  simp only [wj,List.drop_zero,List.take_succ_cons,List.take_zero] at h0
  obtain ⟨v0,g0,r0⟩ := sG yk h0
  obtain ⟨y1,h1⟩ := fld 1 _ _ rfl
  simp only [Y7,fW] at h1
  obtain ⟨v1,g1,r1⟩ := dE gb h1
  obtain ⟨y2,h2⟩ := fld 2 _ _ rfl
  simp only [Y7,fW] at h2
  obtain ⟨v2,g2,r2⟩ := dE gb h2
  exact ⟨⟨v0,v1,v2⟩,⟨g0,g1,g2⟩,(bM r0 (bM r1 (bM r2 oQ)))⟩
end Go.Proofs.YtpiokjcbadfalaaGreatDoor.Tz
namespace Go.Proofs.YtpiokjcbadfalaaGreatDoor.Ev
theorem a1R {α : Type} (d : α) : ∀ (n : Nat) (t : Tr α) (i : Nat) (k : Tr α → ab),i + 1 < 2 ^ n → t.get d i ≠ d → (sk d n).f t i (t.get d i) k = k t
  | 0,t,i,k,h,_=>absurd h (by simp)
  | n + 1,.lf,i,k,h,hne=>absurd (qs d i) hne
  | n + 1,.nd v l r,0,k,h,_=>rfl
  | n + 1, .nd v l r, j + 1, k, h, hne => by
    have hlt : j / 2 + 1 < 2 ^ n := by have : 2 ^ (n + 1) = 2 * 2 ^ n := by rw [Nat.pow_succ,Nat.mul_comm]
                                       omega
    have e : ∀ x,(sk d (n + 1)).f (.nd v l r) (j + 1) x k = (Nat.rec (motive := fun _=>ab) ((sk d n).f l (Nat.div j 2) x fun l'=>k (.nd v l' r)) (fun _ _=>(sk d n).f r (Nat.div j 2) x fun r'=>k (.nd v l r')) (j % 2) : ab) := fun _=>rfl
    rw [j7] at hne ⊢
    rw [e]
    rcases vu j with hj | hj
    · rw [if_pos hj] at hne ⊢
      rw [hj]
      exact a1R d n l (j / 2) _ hlt hne
    · rw [if_neg (by omega)] at hne ⊢
      rw [hj]
      exact a1R d n r (j / 2) _ hlt hne
theorem acJ {α : Type} {d : α} {t : Tr α} {i : Nat} (h : i < 16777215) (hne : t.get d i ≠ d) (K : Tr α → bN → ab) (hK : ∀ a b,K a .dead = K b .dead → a = b) : dz d t i (t.get d i) = t := by
  have e := (jO (d := d) (t := t) (i := i) (x := t.get d i) h fun t=>K t .dead).symm.trans (a1R d 24 t i (fun t=>K t .dead) (by omega) hne)
  exact hK _ _ e
theorem yh {t : Tr bN} {i : Nat} (h : i < 16777215) (hne : t.get .dead i ≠ .dead) : dz .dead t i (t.get .dead i) = t :=
  acJ h hne (fun t _=>.val (.int 0 0) ⟨t,0,[],0⟩) fun a b e=>by
    injection e with _ e2
    injection e2
def ug (B : bN) : Prop := match B with
  | .row .. => True
  | _=>False
theorem akB {h : Hp} {b : Nat} {B : bN} (hb : b < 16777215) (hB : h.at b = B) (hr : ug B) : h.eK b B = h := by
  obtain ⟨t,nx,pr,rb⟩ := h
  have e : dz .dead t b (t.get .dead b) = t := yh hb (by
    intro h0
    have : (.dead : bN) = B := h0.symm.trans hB
    rw [← this] at hr; exact hr)
  have hB' : t.get .dead b = B := hB
  show (⟨dz .dead t b B,nx,pr,rb⟩ : Hp) = _
  rw [← hB',e]
theorem qz {hp : Hp} {q : List Nat} {k : Hp → ab} : ∀ (pl : List Nat),(∀ b ∈ pl,b < 16777215 ∧ ug (hp.at b)) → fU mem hp pl (hp.pro q) k = k (hp.pro q)
  | [],_=>rfl
  | b :: l,h=>by
    have hb := h b (by simp)
    have hr := hb.2
    generalize hB : hp.at b = B at hr
    cases B with
    | row r1 f1 z1 s1 t1=>
      rw [abI hb.1 hB (show (hp.pro q).at b = .row r1 f1 z1 s1 t1 from hB),akB hb.1 (show (hp.pro q).at b = .row r1 f1 z1 s1 t1 from hB) hr]
      exact qz l fun b hb=>h b (by simp [hb])
    | _=>exact absurd hr id
def r8 (hp : Hp) (l : List ((AV → ab) → ab)) : Prop := ∃ pl,(∀ acc k,mc l acc k = k (pl ++ acc)) ∧ ∀ b ∈ pl,b < 16777215 ∧ ug (hp.at b)
theorem aw {hp : Hp} : r8 hp [] := ⟨[],fun _ _=>rfl,fun b hb=>absurd hb (by simp)⟩
theorem ax {hp : Hp} {b o : Nat} {l : List ((AV → ab) → ab)} (hb : b < 16777215) (hr : ug (hp.at b)) (h : r8 hp l) : r8 hp ((fun k=>k (.ptr b o)) :: l) := by
  obtain ⟨pl,h1,h2⟩ := h
  refine ⟨pl ++ [b],fun acc k=>?_,fun c hc=>?_⟩
  · show mc l (b :: acc) k = _
    rw [h1,List.append_assoc]; rfl
  · rcases List.mem_append.1 hc with h | h
    · exact h2 c h
    · have : c = b := by simpa using h
      subst this; exact ⟨hb,hr⟩
theorem aq {hp : Hp} {t : Row} {a b c : Nat} {l : List ((AV → ab) → ab)} (h : r8 hp l) : r8 hp ((fun k=>k (.x 1 t a b c)) :: l) := h
theorem ay {hp : Hp} {s : List UInt8} {l : List ((AV → ab) → ab)} (h : r8 hp l) : r8 hp ((fun k=>k (S s)) :: l) := h
theorem aeE {p : Bool} {l : List AV} : ug (Bx p l) = True := nd rfl
theorem ahN {l : List ((AV → ab) → ab)} {hp : Hp} {v : AV} {K : Hp → AV → ab} (h : r8 hp l) : fB mem [] l hp (fun h=>.val v h) K = K hp v := by
  obtain ⟨pl,h1,h2⟩ := h
  rw [ahM,h1,List.append_nil]
  rw [acM,qz pl h2]
  exact a6k (Nat.le_refl _)
theorem bH {M : Mem} {A A' : List Nat} {l l' : List ((AV → ab) → ab)} {hp : Hp} {b b' : Hp → ab} {K : Hp → AV → ab} (h : mk A = A') (hl : l = l') (hb : ∀ h,b h = b' h) : fB M A l hp b K = fB M A' l' hp b' K := by
  rw [mk_eq] at h
  rw [h,hl,show b = b' from funext hb]
end Go.Proofs.YtpiokjcbadfalaaGreatDoor.Ev
namespace Go.Proofs.YtpiokjcbadfalaaGreatDoor.Ev
theorem ahD {a b : Nat} {k : AV → ab} (h : b ≤ a ∧ a < 18446744073709551616) : (ar .sub 7).f (U a) (U b) k = k (U (a - b)) := sub_U h.1 h.2
theorem agk {a b : Nat} {k : AV → ab} (h : b ≠ 0 ∧ a < 18446744073709551616) : (ar .quo 7).f (U a) (U b) k = k (U (a / b)) := alg h.1 h.2
theorem ad3 {a b : Nat} {k : AV → ab} (h : a + b < 18446744073709551616) : (ar .add 7).f (U a) (U b) k = k (U (a + b)) := by rw [add_U,Nat.mod_eq_of_lt h]
theorem afN {a b : Nat} {k : AV → ab} (h : a * b < 18446744073709551616) : (ar .mul 7).f (U a) (U b) k = k (U (a * b)) := by rw [mul_U,Nat.mod_eq_of_lt h]
theorem akT {z : Int} {k : AV → ab} (h : 0 ≤ z ∧ z < 18446744073709551616) : bQ 7 (yz (md 3) (hf 3) 18446744073709551616 (z % 18446744073709551616).toNat) k = k (U z.toNat) := by
  have e : bQ 7 (yz (md 3) (hf 3) 18446744073709551616 (z % 18446744073709551616).toNat) k = _ := a0W (z := z) (k := k)
  rw [e]; congr 2; omega
theorem akU {n : Nat} {k : AV → ab} : bQ 3 (yz (md 7) (hf 7) 18446744073709551616 n) k = k (I (n : Int)) := aiK (n := n) (k := k)
theorem a0q {a : List UInt8} {j : Nat} {k : AV → ab} (hj : j ≤ a.length) : fc (S a) .none (.some (U j)) k = k (S (a.take j)) := by
  show gL (U j) a.length (fun h=>vy (Nat.mod (Nat.div (aR a) (Nat.pow 256 0)) (Nat.pow 256 (Nat.sub h 0))) (Nat.sub h 0) k) = _
  rw [bnd_U hj,aaC (by omega) (by omega),List.drop_zero]
theorem a0s {a : List UInt8} {i : Int} {k : AV → ab} (h : (0 ≤ i ∧ i ≤ a.length) ∧ a.length < 9223372036854775808) : fc (S a) (.some (I i)) .none k = k (S (a.drop i.toNat)) := a8j h.1.1 h.1.2 h.2
theorem a0p {a : List UInt8} {i : Int} {k : AV → ab} (h : (0 ≤ i ∧ i ≤ a.length) ∧ a.length < 9223372036854775808) : fc (S a) .none (.some (I i)) k = k (S (a.take i.toNat)) := a8i h.1.1 h.1.2 h.2
theorem a0r {a : List UInt8} {i j : Int} {k : AV → ab} (h : (0 ≤ i ∧ i ≤ j) ∧ j ≤ a.length ∧ a.length < 9223372036854775808) : fc (S a) (.some (I i)) (.some (I j)) k = k (S ((a.take j.toNat).drop i.toNat)) := a1T h.1.1 h.1.2 h.2.1 h.2.2
theorem a9L {b o : Nat} {k : AV → ab} : oM (.ptr b o) k = k (.ptr b o) := rfl
theorem afO {z : Int} {k : AV → ab} : bQ 3 (Nat.mod (Nat.sub (md 3) (z % 18446744073709551616).toNat) (md 3)) k = k (I (-z)) := neg_I (z := z) (k := k)
theorem afP {n : Nat} {k : AV → ab} : bQ 7 (Nat.mod (Nat.sub (md 7) n) (md 7)) k = k (U ((18446744073709551616 - n) % 18446744073709551616)) := alc (n := n) (k := k)
theorem gd_u {w : Bool} {hp : Hp} {s : (AV → Hp → ab) → ab} {k : AV → Hp → ab} : gd cI w hp s k = k cI hp := rfl
theorem lr {x y : ab} : when true x y = x := nd rfl
theorem lq {x y : ab} : when false x y = y := nd rfl
end Go.Proofs.YtpiokjcbadfalaaGreatDoor.Ev
namespace Go.Proofs.YtpiokjcbadfalaaGreatDoor.Tz
set_option linter.defProp false
def Y1 := And.intro @mk_eq (And.intro @Int.cast_ofNat_Int (And.intro @afT (And.intro @agb (And.intro @ah4 (And.intro @anR (And.intro @at_mk (And.intro @ald (And.intro @ale (And.intro @anp (And.intro @a2O (And.intro @zj (And.intro @Bool.not_true (And.intro @Bool.not_false (And.intro @box_m (And.intro @List.length_cons.{0} (And.intro @List.length_nil.{0} (And.intro @fa (And.intro @load1 (And.intro @loadn (And.intro @au2 (And.intro @au0 (And.intro @avj (And.intro @avh (And.intro @List.getD_cons_zero.{0} (And.intro @List.getD_cons_succ.{0} (And.intro @acf (And.intro @dy (And.intro @gG (And.intro @tR (And.intro @pr_e (And.intro @a1G (And.intro @a1H (And.intro @aga (And.intro @ah3 (And.intro @aE (And.intro @aD (And.intro @nW (And.intro @abp (And.intro @lit4 (And.intro @lit7 (And.intro @a9t (And.intro @lit3 (And.intro @xI (And.intro @avx (And.intro @a25 (And.intro @avv (And.intro @avw (And.intro @aep (And.intro @aem (And.intro @aeo (And.intro @aen (And.intro @gd_pt (And.intro @gd_pf (And.intro @gd_nt (And.intro @gd_nf (And.intro @a1F (And.intro @a1E (And.intro @ak2 (And.intro @ak1 (And.intro @akC (And.intro @anU (And.intro @ext0 (And.intro @ext1 (And.intro @ext2 (And.intro @decide_true (And.intro @decide_false (And.intro @if_true.{1} (And.intro @if_false.{1} (And.intro @List.set_cons_zero.{0} (And.intro @List.set_cons_succ.{0} (And.intro @Nat.zero_add (And.intro @Nat.add_zero (And.intro @a9N (And.intro @a9O (And.intro @ajX (And.intro @avm (And.intro @Bool.true_eq_false (And.intro @Bool.false_eq_true (And.intro @fax (And.intro @ahN (And.intro @len_S (And.intro @ajY (And.intro @ajS (And.intro @arD (And.intro @byteK (And.intro @digK (And.intro @idx_B (And.intro @arE (And.intro @avd (And.intro @aif (And.intro @add_B (And.intro @neq_B (And.intro @au8 (And.intro @au7 (And.intro @len_nil (And.intro @Int.toNat_natCast (And.intro @akQ (And.intro @eql_S (And.intro @neq_S (And.intro @geq_B (And.intro @leq_B (And.intro @eql_B (And.intro @lss_B (And.intro @gtr_B (And.intro @add_I (And.intro @anA (And.intro @aua (And.intro @au9 (And.intro @arz (And.intro @arw (And.intro @aro (And.intro @auf (And.intro @akV (And.intro @lss_U (And.intro @gtr_U (@geq_U))))))))))))))))))))))))))))))))))))))))))))))))))))))))))))))))))))))))))))))))))))))))))))))))))))))))))))))))))))
def Y4 := And.intro @nW (And.intro @eF (And.intro @dW (And.intro @dy (And.intro @gG (And.intro @tR (And.intro @acf (And.intro @aeE (And.intro @Nat.zero_add (And.intro @if_true.{1} (@if_false.{1}))))))))))
def Y6 := And.intro @eF (And.intro @dW (And.intro @gd_u (And.intro @ahD (And.intro @agk (And.intro @ad3 (And.intro @afN (And.intro @akT (And.intro @akU (And.intro @a0q (And.intro @a0s (And.intro @a0p (And.intro @a0r (And.intro @a9L (And.intro @afO (@afP)))))))))))))))
end Go.Proofs.YtpiokjcbadfalaaGreatDoor.Tz
namespace Go.Proofs.YtpiokjcbadfalaaGreatDoor.Ev
def yE (p : Bool) (v : AV) : bN := .row true p 1 1 (.nd v .lf .lf)
section
variable {M : Mem} (ok : mA M) {h : Hp} {b : Nat} {p : Bool} {v w : AV}
include ok
theorem ao0 {z : Nat} (hv : One v) (hb : h.nx < 16777215) (k : AV → Hp → ab) : dU M (br M) v z 1 h k = k (.ptr h.nx 0) (h.add (yE v.pl v)) := by
  show when (Nat.beq 1 1) (lK v fun c p=>(br M).f h (.row true p 1 1 (.nd c .lf .lf)) fun id hp=>k (.ptr id 0) hp) _ = _
  rw [cK (cb 1),gK hv,iS ok hb]
  rfl
theorem au1 (k : AV → ab) : ldC M (yE p v) 0 k = k v := by
  show au (Nat.ble 1 1) (au (Nat.beq 1 1) (when (Nat.beq 1 1) (M.rg.f (.nd v .lf .lf) 0 k) (M.rg.f (.nd v .lf .lf) (Nat.div 0 1) fun v=>v.ja fun l n=>(yS (Nat.mod 0 1)).f l k))) = _
  rw [aG (b := Nat.ble 1 1) rfl,aG (cb 1),cK (cb 1),ok.rg (by decide)]; rfl
theorem avi (hb : b < 16777215) (hv : One w) (k : Hp → ab) : stC M 1 (yE p v) h b 0 w k = k (h.eK b (yE (bp p w.pl) w)) := by
  show au (Nat.ble 1 1) (au true (lK w fun c p'=>when (Nat.beq 1 1) (M.rs.f (.nd v .lf .lf) 0 c fun t=>h.put M b (.row true (bp p p') 1 1 t) k) _)) = _
  rw [aG (b := Nat.ble 1 1) rfl,aG rfl,gK hv,cK (cb 1),ok.rs (by decide),gx ok hb]
  have e : (dz (AV.uu) (.nd v .lf .lf) 0 w : Row) = .nd w .lf .lf := by
    have e1 : ∀ k : Row → ab,(sk AV.uu 24).f (.nd v .lf .lf) 0 w k = k (.nd w .lf .lf) := fun _=>rfl
    have e2 := fun k=>(jO (d := AV.uu) (t := .nd v .lf .lf) (i := 0) (x := w) (by decide) k).symm.trans (e1 k)
    have e3 := e2 fun t=>.val (.agg t 0) .empty
    injection e3 with e4
    injection e4
  rw [e]; rfl
end
theorem a2W {h : Hp} {v : AV} {z : Nat} (hv : One v) (hb : h.nx < 16777215) (k : AV → Hp → ab) : dU mem (br mem) v z 1 h k = k (.ptr h.nx 0) (h.add (yE v.pl v)) := ao0 dx hv hb k
theorem a4C {p : Bool} {v : AV} (k : AV → ab) : ldC mem (yE p v) 0 k = k v := au1 dx k
theorem a5E {h : Hp} {b : Nat} {p : Bool} {v w : AV} (hb : b < 16777215) (hv : One w) (k : Hp → ab) : stC mem 1 (yE p v) h b 0 w k = k (h.eK b (yE (bp p w.pl) w)) := avi dx hb hv k
theorem aj {p : Bool} {v : AV} : ug (yE p v) = True := nd rfl
theorem a4S (l : List UInt8) : (S l).pl = true := nd rfl
theorem bL (l : List UInt8) : One (S l) := True.intro
theorem a5w {M : Mem} {F : aF} {b o : Nat} {r : Row} {hp h : Hp} {v : AV} (e : F.f (.nd (.ptr b o) .lf r) hp = .val v h) (k : AV → Hp → ab) : aH M false F (.nd (.ptr b o) .lf r) hp k = k v ⟨h.t,h.nx,hp.pr,hp.rb⟩ := by
  show dB F (.nd (.ptr b o) .lf r) hp k = _
  unfold dB
  rw [e]
theorem acy {F : aF} {b o : Nat} {r : Row} {hp h : Hp} {v : AV} (e : F.f (.nd (.ptr b o) .lf r) hp = .val v h) (k : AV → Hp → ab) : aH mem false F (.nd (.ptr b o) .lf r) hp k = k v ⟨h.t,h.nx,hp.pr,hp.rb⟩ := a5w e k
theorem ajy {s : List UInt8} {clo : Nat} {hp : Hp} (h : s.length ≤ 4294967280) : (ixfF clo).f (.nd (S s) .lf (.nd (.x 3 .lf clo 0 0) .lf .lf)) hp = .val (I (ixN s)) hp := by
  show au (Nat.beq 3 3) (au (Nat.beq clo clo) (au (Nat.beq 0 0) (au (Nat.beq 0 0) (au (Nat.ble s.length 4294967280) (.val (I (ixN (yj s.length (aR s)))) hp))))) = _
  rw [aG (cb 3),aG (cb clo),aG (cb 0),aG (cb 0),aG (dR h),fM]
theorem lY (l : List UInt8) : bK l ≤ l.length := by
  induction l with
  | nil=>exact Nat.le_refl 0
  | cons c l ih=>
    show (Bool.rec (motive := fun _=>Nat) 0 (Nat.succ (bK l)) (eH c) : Nat) ≤ l.length + 1
    cases eH c
    · exact Nat.zero_le _
    · exact Nat.succ_le_succ ih
theorem wO (l : List UInt8) : ixN l = if bK l = l.length then -1 else (bK l : Int) := by
  unfold ixN
  by_cases h : bK l = l.length
  · rw [if_pos h,h,cb]
  · rw [if_neg h,iD h]
theorem acF (c : Nat) : Still (.x 3 .lf c 0 0) := ⟨fun _ _=>rfl,fun _ _ _ _=>rfl⟩
theorem a3b {M : Mem} (ok : mA M) {F : aF} {r : Row} {hp hc : Hp} {b o n s : Nat} {rw' : Bool} {t : Row} {v : AV} (hb : b < 16777215) (hat : hp.at b = .row rw' true 1 s t) (hm : o + n ≤ s) (hr : ∀ hp k,zl (nB M 24) r hp k = k r hp) (hv : ∀ hc hp b k,(imp M 24).f v hc hp b k = k v hc hp b) (e : F.f (.nd (.vs t o n 1) .lf r) .empty = .val v hc) (k : AV → Hp → ab) :
    aH M false F (.nd (.ms b o n 1) .lf r) hp k = k v hp := by
  show er M hp (.nd (.ms b o n 1) .lf r) (fun a ho=>dQ M F a hp ho k) (dB F (.nd (.ms b o n 1) .lf r) hp k) = _
  unfold er
  have e1 : ∀ K : Row → Hp → ab,zl (nB M 24) (.nd (.ms b o n 1) .lf r) hp K = K (.nd (.vs t o n 1) .lf r) (hp.eK b (.row false true 1 s t)) := fun K=>by
    show hp.use M b (o + n * 1) (fun _ fl x s t=>au (Nat.beq x 1) (au (Nat.beq (o % 1) 0) (hp.put M b (.row false fl 1 s t) fun hp=>when fl (aL (o / 1) fun e=>zl (nB M 24) r hp fun r hp=>K (.nd (.vs t e n 1) .lf r) hp) _))) = _
    rw [yo ok hb hat (by omega),aG (cb 1),aG (by rw [aC]; omega),gx ok hb,cK rfl,az,Nat.div_one,hr]
  rw [e1]
  show dQ M F (.nd (.vs t o n 1) .lf r) hp (hp.eK b (.row false true 1 s t)) k = _
  unfold dQ
  rw [e]
  show (imp M 24).f v hc hp false (fun v' _ hp' b=>when b _ (k v' hp')) = _
  rw [hv]
  rfl
theorem zt {F : aF} {r : Row} {hp : Hp} {b o n s : Nat} {rw' : Bool} {t : Row} {v : AV} (hb : b < 16777215) (hat : hp.at b = .row rw' true 1 s t) (hm : o + n ≤ s) (hr : lx r) (hv : vU v) (e : eJ (F.f (.nd (.vs t o n 1) .lf r) .empty) = some v) (k : AV → Hp → ab) :
    aH mem false F (.nd (.ms b o n 1) .lf r) hp k = k v hp := by
  obtain ⟨hc,e⟩ := pM e
  exact a3b dx hb hat hm (fk hr) hv e k
theorem uu {z : Int} {k : AV → ab} (h : 0 ≤ z ∧ z < 256) : bQ 4 (yz (md 3) (hf 3) 256 (z % 18446744073709551616).toNat) k = k (B8 z.toNat) := by
  have e : yz (md 3) (hf 3) 256 (z % 18446744073709551616).toNat = (z % 18446744073709551616).toNat % 256 := wy (by rfl)
  rw [e,fX]
  show k (AV.int 4 _) = k (AV.int 4 _)
  congr 2; omega
theorem a5A {α : Type} (d : α) : ∀ (n : Nat) (t : Tr α) (i : Nat) (x y : α) (k : Tr α → ab),i + 1 < 2 ^ n → (sk d n).f t i x (fun t'=>(sk d n).f t' i y k) = (sk d n).f t i y k
  | 0,t,i,x,y,k,h=>absurd h (by simp)
  | n + 1,.lf,0,x,y,k,h=>rfl
  | n + 1,.nd v l r,0,x,y,k,h=>rfl
  | n + 1,.lf,j + 1,x,y,k,h=>by
    have hlt : j / 2 + 1 < 2 ^ n := by have : 2 ^ (n + 1) = 2 * 2 ^ n := by rw [Nat.pow_succ,Nat.mul_comm]
                                       omega
    have e : ∀ x k,(sk d (n + 1)).f .lf (j + 1) x k = (Nat.rec (motive := fun _=>ab) ((sk d n).f .lf (Nat.div j 2) x fun l=>k (.nd d l .lf)) (fun _ _=>(sk d n).f .lf (Nat.div j 2) x fun r=>k (.nd d .lf r)) (j % 2) : ab) := fun _ _=>rfl
    have e2 : ∀ v l r x k,(sk d (n + 1)).f (.nd v l r) (j + 1) x k = (Nat.rec (motive := fun _=>ab) ((sk d n).f l (Nat.div j 2) x fun l'=>k (.nd v l' r)) (fun _ _=>(sk d n).f r (Nat.div j 2) x fun r'=>k (.nd v l r')) (j % 2) : ab) := fun _ _ _ _ _=>rfl
    rw [e,e]
    simp only [e2]
    rcases vu j with hj | hj
    · rw [hj]; exact a5A d n .lf (j / 2) x y (fun l=>k (.nd d l .lf)) hlt
    · rw [hj]; exact a5A d n .lf (j / 2) x y (fun r=>k (.nd d .lf r)) hlt
  | n + 1,.nd v l r,j + 1,x,y,k,h=>by
    have hlt : j / 2 + 1 < 2 ^ n := by have : 2 ^ (n + 1) = 2 * 2 ^ n := by rw [Nat.pow_succ,Nat.mul_comm]
                                       omega
    have e2 : ∀ v l r x k,(sk d (n + 1)).f (.nd v l r) (j + 1) x k = (Nat.rec (motive := fun _=>ab) ((sk d n).f l (Nat.div j 2) x fun l'=>k (.nd v l' r)) (fun _ _=>(sk d n).f r (Nat.div j 2) x fun r'=>k (.nd v l r')) (j % 2) : ab) := fun _ _ _ _ _=>rfl
    rw [e2,e2]
    simp only [e2]
    rcases vu j with hj | hj
    · rw [hj]; exact a5A d n l (j / 2) x y (fun l'=>k (.nd v l' r)) hlt
    · rw [hj]; exact a5A d n r (j / 2) x y (fun r'=>k (.nd v l r')) hlt
theorem a0w {t : Tr bN} {i : Nat} {x y : bN} (h : i < 16777215) : dz .dead (dz .dead t i x) i y = dz .dead t i y := by
  have e1 := a5A bN.dead 24 t i x y (fun t=>.val (.int 0 0) ⟨t,0,[],0⟩) (by omega)
  rw [jO h,jO h,jO h] at e1
  injection e1 with _ e2
  injection e2
theorem a0A {i : Nat} {l : List ((AV → ab) → ab)} {hp : Hp} {v : AV} {K : Hp → AV → ab} (hi : hp.rb + i < 16777215) (hr : ug (hp.at (hp.rb + i))) (h : r8 hp l) : fB mem [i] l hp (fun h=>.val v h) K = K hp v := by
  obtain ⟨pl,h1,h2⟩ := h
  unfold fB
  rw [h1,List.append_nil]
  show aL (hp.rb + i) (fun b=>hp.get mem b fun B=>hp.put mem b .dead fun h1=>w7 mem [(b,B)] (h1.a4T (pO pl hp.pr)) fun h3=>fU mem hp pl h3 fun h4=>yr hp h4 v K) = _
  rw [az,get_at dx hi,gx dx hi]
  show ((hp.eK (hp.rb + i) .dead).a4T (pO pl hp.pr)).put mem (hp.rb + i) (hp.at (hp.rb + i)) (fun h3=>fU mem hp pl h3 fun h4=>yr hp h4 v K) = _
  rw [gx dx hi]
  have e : ((hp.eK (hp.rb + i) .dead).a4T (pO pl hp.pr)).eK (hp.rb + i) (hp.at (hp.rb + i)) = hp.pro (pO pl hp.pr) := by
    obtain ⟨t,nx,pr,rb⟩ := hp
    show (⟨dz .dead (dz .dead t (rb + i) .dead) (rb + i) (t.get .dead (rb + i)),nx,pO pl pr,rb⟩ : Hp) = ⟨t,nx,pO pl pr,rb⟩
    rw [a0w hi,yh hi (by
      intro h0
      have hr' : ug (t.get .dead (rb + i)) := hr
      rw [h0] at hr'; exact hr')]
  rw [e,qz pl h2]
  exact a6k (Nat.le_refl _)
noncomputable def aaY (hp : Hp) (r : ab) (K : Hp → AV → ab) : ab := ab.rec (motive := fun _=>ab) (fun _ _=>.fail) (fun _ _ _=>.fail) (fun _ _=>.fail) (fun v h4=>au (Nat.ble hp.nx h4.nx) (K ⟨h4.t,h4.nx,hp.pr,hp.rb⟩ v)) .fail r
theorem a6j {hp : Hp} {body : Hp → ab} {K : Hp → AV → ab} : fB mem [] [] hp body K = aaY hp (body hp) K := by
  obtain ⟨t,nx,pr,rb⟩ := hp
  exact nd rfl
theorem a0z {hp h4 : Hp} {v : AV} {K : Hp → AV → ab} (h : hp.nx ≤ h4.nx) : aaY hp (.val v h4) K = K ⟨h4.t,h4.nx,hp.pr,hp.rb⟩ v := aG (dR h) _
theorem cP {hp : Hp} {r r' : ab} {K : Hp → AV → ab} (h : mk r = r') : aaY hp r K = aaY hp r' K := by rw [mk_eq] at h; rw [h]
theorem air {M : Mem} (ok : mA M) {h : Hp} {v : AV} {z i : Nat} (hv : One v) (hb : h.rb + i < 16777215) (k : AV → Hp → ab) : dU M (jL M i) v z 1 h k = k (.ptr (h.rb + i) 0) (h.eK (h.rb + i) (yE v.pl v)) := by
  show when (Nat.beq 1 1) (lK v fun c p=>(jL M i).f h (.row true p 1 1 (.nd c .lf .lf)) fun id hp=>k (.ptr id 0) hp) _ = _
  rw [cK (cb 1),gK hv,sA ok hb]
  rfl
theorem akM {h : Hp} {v : AV} {z i : Nat} (hv : One v) (hb : h.rb + i < 16777215) (k : AV → Hp → ab) : dU mem (jL mem i) v z 1 h k = k (.ptr (h.rb + i) 0) (h.eK (h.rb + i) (yE v.pl v)) := air dx hv hb k
end Go.Proofs.YtpiokjcbadfalaaGreatDoor.Ev
namespace Go.Proofs.YtpiokjcbadfalaaGreatDoor.Ev
theorem bY (z : Int) : One (I z) := True.intro
theorem bX (z : Nat) : One (B8 z) := True.intro
theorem bZ (z : Nat) : One (U z) := True.intro
end Go.Proofs.YtpiokjcbadfalaaGreatDoor.Ev
namespace Go.Proofs.YtpiokjcbadfalaaGreatDoor.Ev
theorem aaJ {h : Hp} {b : Nat} {B B' : bN} (hb : b < 16777215) : (h.eK b B).eK b B' = h.eK b B' := by
  obtain ⟨t,nx,pr,rb⟩ := h
  show (⟨dz .dead (dz .dead t b B) b B',nx,pr,rb⟩ : Hp) = _
  rw [a0w hb]
  rfl
theorem pl_I (z : Int) : (I z).pl = true := nd rfl
theorem pl_B (z : Nat) : (B8 z).pl = true := nd rfl
theorem pl_U (z : Nat) : (U z).pl = true := nd rfl
theorem zi : iw [] = true := nd rfl
theorem vY {v : AV} {l : List AV} : iw (v :: l) = (v.pl && iw l) := nd rfl
theorem ad5 {b : Bool} : bp true b = b := nd rfl
theorem aet {h : Hp} : Hp.mk h.t h.nx h.pr h.rb = h := nd rfl
end Go.Proofs.YtpiokjcbadfalaaGreatDoor.Ev
