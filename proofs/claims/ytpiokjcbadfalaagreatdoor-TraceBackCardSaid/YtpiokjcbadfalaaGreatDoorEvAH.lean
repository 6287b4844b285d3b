import Derived.Test.YtpiokjcbadfalaaGreatDoorEvAG
import Derived.OrdersIn
import Derived.Laws.Tables
namespace Go.Proofs.YtpiokjcbadfalaaGreatDoor.Ev
theorem qQ {P : Program} {kt : TypeId} {c : Nat} (hk : mV P kt = some c) : ∃ d,dN P kt = some d ∧ (∀ u v,yF c u → yF c v → ∃ r,Instr.sameNow d u v = some r ∧ (r = true ↔ u = v)) ∧
    (∀ b n v w,(Instr.checkKey b (n + 1) kt v).run P w = .ok () w) ∧ ∀ u,yF c u → Instr.sameBits 10000 u u = true := by
  unfold mV at hk
  cases hu : dN P kt with
  | none=>rw [hu] at hk; cases hk
  | some d=>
    rw [hu] at hk
    have hU := (aB hu).1
    have sb : ∀ n (u : Value),(∃ b,u = .bool b) ∨ (∃ s,u = .string s) ∨ (∃ q n,u = .int q n) → Instr.sameBits n u u = true := fun n u h=>by
      rcases h with ⟨b,rfl⟩ | ⟨s,rfl⟩ | ⟨q,m,rfl⟩
      · cases n <;> simp [Instr.sameBits]
      · have : (s == s) = true := by rw [beq_toListBytes]; exact (ry s s).2 rfl
        cases n <;> simp [Instr.sameBits,this]
      · cases n <;> simp [Instr.sameBits]
    cases d with
    | bool=>
      cases hk
      refine ⟨_,rfl,fun u v ⟨x,hx⟩ ⟨y,hy⟩=>?_,fun b n v w=>?_,fun u ⟨x,hx⟩=>sb _ _ (.inl ⟨x,hx⟩)⟩
      · subst hx; subst hy
        exact ⟨_,rfl,by simp⟩
      · cases v <;> simp [Instr.checkKey,run_underlying hU]
    | string=>
      cases hk
      refine ⟨_,rfl,fun u v ⟨x,hx⟩ ⟨y,hy⟩=>?_,fun b n v w=>?_,fun u ⟨x,hx⟩=>sb _ _ (.inr (.inl ⟨x,hx⟩))⟩
      · subst hx; subst hy
        exact ⟨_,rfl,by rw [beq_toListBytes,ry]; simp⟩
      · cases v <;> simp [Instr.checkKey,run_underlying hU]
    | int q=>
      have : c = kc q + 2 := (Option.some.inj hk).symm
      subst this
      refine ⟨_,rfl,fun u v ⟨x,hx⟩ ⟨y,hy⟩=>?_,fun b n v w=>?_,fun u ⟨x,hx⟩=>sb _ _ (.inr (.inr ⟨_,x,hx⟩))⟩
      · subst hx; subst hy
        refine ⟨decide (x = y), ?_,by simp⟩
        simp only [Instr.sameNow,if_true]
        congr 1
      · cases v <;> simp [Instr.checkKey,run_underlying hU]
    | _=>cases hk
def a6v (c : Nat) (kv : Value) (ks : Nat → Value) (n : Nat) (r : Option Nat) : Prop := match r with
  | some j=>j < n ∧ yF c kv ∧ ks j = kv ∧ (∀ i,i ≤ j → yF c (ks i)) ∧ ∀ i,i < j → ks i ≠ kv
  | none=>(0 < n → yF c kv) ∧ ∀ i,i < n → yF c (ks i) ∧ ks i ≠ kv
section
variable {M : Mem} (ok : cL M) {R : ab} (hR : R ≠ .fail)
include ok hR in
theorem zI {c : Nat} {key : AV} {k : Nat → ab} {z : ab} (n : Nat) : ∀ {t : Row} {s : Nat},(rM M c n).f t (2 * s) key k z = R →
    ∃ r : Option Nat,(match r with | some j=>k (2 * (s + j)) | none=>z) = R ∧ ∀ {w : World} {F : Nat → Prop} {μ : Mu} {kv : Value} {ks : Nat → Value},ai w F μ key kv → (∀ i,i < n → ai w F μ (t.at (2 * (s + i))) (ks i)) → a6v c kv ks n r := by
  induction n with
  | zero=>intro t s g; exact ⟨none,g,fun _ _=>⟨fun h=>absurd h (Nat.lt_irrefl _),fun i hi=>absurd hi (Nat.not_lt_zero _)⟩⟩
  | succ n ih=>
    intro t s g
    have g1 := ok.rg hR (show M.rg.f t (2 * s) (fun a=>og c a key fun r=>when r (k (2 * s)) ((rM M c n).f t (Nat.succ (Nat.succ (2 * s))) key k z)) = R from g)
    obtain ⟨r,g2,h⟩ := qo hR g1
    rcases aK hR g2 with ⟨hr,g3⟩ | ⟨hr,g3⟩
    · subst hr
      refine ⟨some 0,g3,fun {w F μ kv ks} hk hks=>?_⟩
      obtain ⟨h1,h2,h3⟩ := h (hks 0 (Nat.succ_pos _)) hk
      exact ⟨Nat.succ_pos _,h2,h3.1 rfl,fun i hi=>by rw [Nat.le_zero.1 hi]; exact h1,fun i hi=>absurd hi (Nat.not_lt_zero _)⟩
    · subst hr
      obtain ⟨r',g4,h'⟩ := ih (s := s + 1) (show (rM M c n).f t (2 * (s + 1)) key k z = R from g3)
      refine ⟨r'.map (· + 1), ?_,fun {w F μ kv ks} hk hks=>?_⟩
      · cases r' with
        | none=>exact g4
        | some j=>rw [← g4]; show k (2 * (s + (j + 1))) = k (2 * (s + 1 + j)); congr 1; omega
      · obtain ⟨h1,h2,h3⟩ := h (hks 0 (Nat.succ_pos _)) hk
        have hne : ks 0 ≠ kv := fun e=>Bool.noConfusion (h3.2 e)
        have := h' (ks := fun i=>ks (i + 1)) hk fun i hi=>by
          have := hks (i + 1) (by omega)
          rw [show s + 1 + i = s + (i + 1) by omega]; exact this
        cases r' with
        | none=>
          refine ⟨fun _=>h2,fun i hi=>?_⟩
          cases i with
          | zero=>exact ⟨h1,hne⟩
          | succ i=>exact this.2 i (Nat.lt_of_succ_lt_succ hi)
        | some j=>
          obtain ⟨q1,q2,q3,q4,q5⟩ := this
          refine ⟨Nat.succ_lt_succ q1,q2,q3,fun i hi=>?_,fun i hi=>?_⟩
          · cases i with
            | zero=>exact h1
            | succ i=>exact q4 i (Nat.le_of_succ_le_succ hi)
          · cases i with
            | zero=>exact hne
            | succ i=>exact q5 i (Nat.lt_of_succ_lt_succ hi)
theorem qq {d : TypeDesc} {c : Nat} {kv : Value} (hd : ∀ u v,yF c u → yF c v → ∃ r,Instr.sameNow d u v = some r ∧ (r = true ↔ u = v)) : ∀ (l : List MapEntry) (s : Nat) (ks : Nat → Value) (r : Option Nat),(∀ i e,l[i]? = some e → ks i = e.key) → a6v c kv ks l.length r →
    Instr.findNow d kv l s = some (match r with | some j=>l[j]?.map fun e=>(s + j,e.val) | none=>none)
  | [],s,ks,r,_,h=>by
    cases r with
    | none=>rfl
    | some j=>exact absurd h.1 (Nat.not_lt_zero _)
  | e :: l,s,ks,r,hk,h=>by
    have h0 : ks 0 = e.key := hk 0 e rfl
    have rest : ∀ i e',l[i]? = some e' → ks (i + 1) = e'.key := fun i e' h=>hk (i + 1) e' h
    have hkv : yF c kv := by
      cases r with
      | none=>exact h.1 (Nat.succ_pos _)
      | some j=>exact h.2.1
    have hk0 : yF c e.key := by
      rw [← h0]
      cases r with
      | none=>exact (h.2 0 (Nat.succ_pos _)).1
      | some j=>exact h.2.2.2.1 0 (Nat.zero_le _)
    obtain ⟨b,hb,hbe⟩ := hd kv e.key hkv hk0
    unfold Instr.findNow
    rw [hb]
    cases b with
    | true=>
      have e0 := hbe.1 rfl
      cases r with
      | none=>exact absurd (h0.trans e0.symm) (h.2 0 (Nat.succ_pos _)).2
      | some j=>
        cases j with
        | zero=>simp
        | succ j=>exact absurd (h0.trans e0.symm) (h.2.2.2.2 0 (Nat.succ_pos _))
    | false=>
      have e0 : ¬ kv = e.key := fun x=>Bool.noConfusion (hbe.2 x)
      cases r with
      | none=>
        have := qq hd l (s + 1) (fun i=>ks (i + 1)) none rest ⟨fun _=>hkv,fun i hi=>h.2 (i + 1) (Nat.succ_lt_succ hi)⟩
        exact this
      | some j=>
        cases j with
        | zero=>exact absurd (h.2.2.1.symm.trans h0) e0
        | succ j=>
          obtain ⟨q1,q2,q3,q4,q5⟩ := h
          have := qq hd l (s + 1) (fun i=>ks (i + 1)) (some j) rest ⟨Nat.lt_of_succ_lt_succ q1,q2,q3,fun i hi=>q4 (i + 1) (Nat.succ_le_succ hi),fun i hi=>q5 (i + 1) (Nat.succ_lt_succ hi)⟩
          simp only [this]
          rw [show s + 1 + j = s + (j + 1) by omega]
          rfl
end
section
variable {V : Env} {M : Mem} (ok : cL M) {R : ab} (hR : R ≠ .fail)
include ok hR
theorem afW {m : AV} {hp : Hp} {f : Nat → Nat → Row → ab} (g : (m.onX fun q _ b _ _=>au (Nat.beq q 4) (hp.get M b fun B=>B.kY fun n t=>f b n t)) = R) : ∃ tr b p c n t,m = .x 4 tr b p c ∧ hp.at b = .map n t ∧ f b n t = R := by
  obtain ⟨q,tr,b,p,c,rfl,g⟩ := n7 hR g
  obtain ⟨hq,g2⟩ := an hR g
  rw [aC] at hq; subst hq
  have g3 := et ok hR g2
  obtain ⟨n,t,hB,g4⟩ := lZ hR g3
  exact ⟨tr,b,p,c,n,t,rfl,hB,g4⟩
omit ok hR in
theorem World.a1L {P : Program} {w : World} {r : Nat} {es : Array MapEntry} {clock : Nat} (hb : w.heap[r]? = some (.map es clock)) : (getObj r).run P w = .ok (.map es clock) w := by simp [getObj,Sem.run,hb]
omit ok hR in
theorem a1w {kt : TypeId} {c : Nat} (hk : mV V.P kt = some c) {key : AV} {n : Nat} {tb : Row} {r : Option Nat}
    (H : ∀ {w : World} {F : Nat → Prop} {μ : Mu} {kv : Value} {ks : Nat → Value},ai w F μ key kv → (∀ i,i < n → ai w F μ (tb.at (2 * (0 + i))) (ks i)) → a6v c kv ks n r)
    {w : World} {F : Nat → Prop} {μ : Mu} {u u' : Value} {tr : Row} {b p cc : Nat} (hu : ai w F μ (.x 4 tr b p cc) u) (hkv : ai w F μ key u') (hr : rf V w F μ b (.map n tb)) :
    ∃ (mp : Mp) (es : Array MapEntry) (clk : Nat),u = .map (some mp.bq) ∧ μ b = some mp ∧ w.heap[mp.bq]? = some (.map es clk) ∧ ¬ F mp.bq ∧ es.size = n ∧ (∀ i,i < n → ∃ en,es[i]? = some en ∧ ai w F μ (tb.at (2 * i)) en.key ∧ ai w F μ (tb.at (2 * i + 1)) en.val) ∧
      (∀ j,r = some j → j < n ∧ yF c u' ∧ ∀ en,es[j]? = some en → en.key = u') ∧
      ∀ w',(Instr.findKey kt u' es.toList).run V.P w' = .ok (match r with | some j=>es[j]?.map fun en=>(j,en.val) | none=>none) w' := by
  obtain ⟨d,hd1,hd2,hd3,_⟩ := qQ hk
  cases hu with
  | map hm=>
    obtain ⟨m',es,clk,p1,p2,p3,p4,p5⟩ := hr
    rw [hm] at p1; cases p1
    obtain ⟨ks,hks⟩ := kZ (n := n) (Q := fun i u=>ai w F μ (tb.at (2 * (0 + i))) u ∧ ∃ en,es[i]? = some en ∧ u = en.key) fun i hi=>by
      obtain ⟨en,h1,h2,_⟩ := p5 i hi
      exact ⟨en.key,by rw [Nat.zero_add]; exact h2,en,h1,rfl⟩
    have hf := H hkv fun i hi=>(hks i hi).1
    have hlen : es.toList.length = n := by rw [Array.length_toList,p4]
    have hnow := qq hd2 es.toList 0 ks r (fun i en hi=>by
      have hi' : i < n := by rw [← hlen]; exact (List.getElem?_eq_some_iff.1 hi).1
      obtain ⟨en',q1,q2⟩ := (hks i hi').2
      rw [Array.getElem?_toList,q1] at hi; cases hi; exact q2) (by rw [hlen]; exact hf)
    refine ⟨_,es,clk,rfl,hm,p2,p3,p4,p5,fun j hj=>?_,fun w'=>?_⟩
    · subst hj
      refine ⟨hf.1,hf.2.1,fun en he=>?_⟩
      obtain ⟨en',q1,q2⟩ := (hks j hf.1).2
      rw [q1] at he; cases he
      rw [← q2]; exact hf.2.2.1
    · simp only [Instr.findKey,Sem.run_bind,run_underlying (aB hd1).1,Result.andThen_ok,hnow,Sem.run_pure]
      cases r with
      | none=>rfl
      | some j=>simp only [Array.getElem?_toList,Nat.zero_add]
theorem a7K {t kt e : TypeId} {c : Nat} {cm : Bool} (ht : dN V.P t = some (.map kt e)) (hk : mV V.P kt = some c) {m key : AV} {hp : Hp} {k : AV → Hp → ab}
    (g : (m.onX fun q _ b _ _=>au (Nat.beq q 4) (hp.get M b fun B=>B.kY fun n t=>
      (rM M c n).f t 0 key (fun j=>M.rg.f t (Nat.succ j) fun v=>when cm (k (.bu (.nd v .lf (.nd (.bool true) .lf .lf)) 2) hp) (k v hp)) (au (dS (cN V.P e)) (when cm (k (.bu (.nd (cN V.P e) .lf (.nd (.bool false) .lf .lf)) 2) hp) (k (cN V.P e) hp))))) = R) :
    ∃ v,k v hp = R ∧ eM hp m ∧ akG V (fun u u'=>Instr.lookup t u u' cm) hp m key v := by
  obtain ⟨tr,b,p,cc,n,tb,rfl,hB,g1⟩ := afW ok hR (f := fun b n t=>(rM M c n).f t 0 key (fun j=>M.rg.f t (Nat.succ j) fun v=>when cm (k (.bu (.nd v .lf (.nd (.bool true) .lf .lf)) 2) hp) (k v hp)) (au (dS (cN V.P e)) (when cm (k (.bu (.nd (cN V.P e) .lf (.nd (.bool false) .lf .lf)) 2) hp) (k (cN V.P e) hp)))) g
  obtain ⟨r,g2,H⟩ := zI ok hR n (s := 0) g1
  obtain ⟨d,hd1,hd2,hd3,_⟩ := qQ hk
  have run := fun {w F μ u u'}=>a1w (V := V) (w := w) (F := F) (μ := μ) (u := u) (u' := u') (tr := tr) (b := b) (p := p) (cc := cc) hk H
  have live : eM hp (.x 4 tr b p cc) := fun c' hc=>by cases hc; rw [hB]; trivial
  have pair : ∀ {w : World} {F : Nat → Prop} {μ : Mu} {v : AV} {u : Value} {bb : Bool},ai w F μ v u → ai w F μ (.bu (.nd v .lf (.nd (.bool bb) .lf .lf)) 2) (.tuple #[u,.bool bb]) := fun {w F μ v u bb} h=>
    .bu (fun i=>if i = 0 then u else .bool bb) rfl (fun i hi=>by
      have hi : i < 2 := hi
      rcases (by omega : i = 0 ∨ i = 1) with rfl | rfl <;> rfl) fun i hi=>by
      have hi : i < 2 := hi
      rcases (by omega : i = 0 ∨ i = 1) with rfl | rfl
      · exact h
      · exact .bool _
  cases r with
  | some j=>
    have g3 := ok.rg hR g2
    rw [Nat.zero_add] at g3
    have fin : ∀ {w : World} {F : Nat → Prop} {μ : Mu} {u u' : Value},ai w F μ (.x 4 tr b p cc) u → ai w F μ key u' → jk V w F μ hp (.x 4 tr b p cc) → ∃ x,ai w F μ (tb.at (2 * j + 1)) x ∧ (Instr.lookup t u u' cm).run V.P w = .ok (if cm then .tuple #[x,.bool true] else x) w := by
      intro w F μ u u' hu hkv hro
      have hro' := hro b rfl
      rw [hB] at hro'
      obtain ⟨mp,es,clk,rfl,hmu,p2,p3,p4,p5,hj,p6⟩ := run hu hkv hro'
      obtain ⟨en,q1,q2,q3⟩ := p5 j (hj j rfl).1
      refine ⟨en.val,q3, ?_⟩
      simp only [Instr.lookup,Sem.run_bind,run_underlying (aB ht).1,Result.andThen_ok,World.a1L p2,hd3 _ 9999,p6,q1,Option.map_some,Sem.run_pure]
    rcases aK hR g3 with ⟨hc,g4⟩ | ⟨hc,g4⟩
    · refine ⟨_,g4,live,fun {w F μ u u'} hu hkv hro=>?_⟩
      obtain ⟨x,h1,h2⟩ := fin hu hkv hro
      rw [if_pos hc] at h2
      exact ⟨_,h2,pair h1⟩
    · refine ⟨_,g4,live,fun {w F μ u u'} hu hkv hro=>?_⟩
      obtain ⟨x,h1,h2⟩ := fin hu hkv hro
      rw [if_neg (by rw [hc]; decide)] at h2
      exact ⟨_,h2,h1⟩
  | none=>
    obtain ⟨hkn,g3⟩ := an hR g2
    obtain ⟨i,zv,z1,z2,z3,z4⟩ := qY hkn
    have fin : ∀ {w : World} {F : Nat → Prop} {μ : Mu} {u u' : Value},ai w F μ (.x 4 tr b p cc) u → ai w F μ key u' → jk V w F μ hp (.x 4 tr b p cc) → ai w F μ (cN V.P e) zv ∧ (Instr.lookup t u u' cm).run V.P w = .ok (if cm then .tuple #[zv,.bool false] else zv) w := by
      intro w F μ u u' hu hkv hro
      have hro' := hro b rfl
      rw [hB] at hro'
      obtain ⟨mp,es,clk,rfl,hmu,p2,p3,p4,p5,hj,p6⟩ := run hu hkv hro'
      refine ⟨by rw [z4]; exact ld zv, ?_⟩
      simp [Instr.lookup,Sem.run_bind,run_underlying (aB ht).1,Result.andThen_ok,World.a1L p2,hd3 _ 9999,p6,zeroValue,typeInfo,z2,z3]
    rcases aK hR g3 with ⟨hc,g4⟩ | ⟨hc,g4⟩
    · refine ⟨_,g4,live,fun {w F μ u u'} hu hkv hro=>?_⟩
      obtain ⟨h1,h2⟩ := fin hu hkv hro
      rw [if_pos hc] at h2
      exact ⟨_,h2,pair h1⟩
    · refine ⟨_,g4,live,fun {w F μ u u'} hu hkv hro=>?_⟩
      obtain ⟨h1,h2⟩ := fin hu hkv hro
      rw [if_neg (by rw [hc]; decide)] at h2
      exact ⟨_,h2,h1⟩
theorem yU {t kt e : TypeId} {c : Nat} (ht : dN V.P t = some (.map kt e)) (hk : mV V.P kt = some c) {m key v : AV} {hp : Hp} {k : Hp → ab}
    (g : (m.onX fun q _ b _ _=>au (Nat.beq q 4) (kX b hp (hp.get M b fun B=>B.kY fun n t=>
      (rM M c n).f t 0 key (fun j=>M.rs.f t (Nat.succ j) v fun t=>hp.put M b (.map n t) k)
        (M.rs.f t (Nat.mul 2 n) key fun t=>M.rs.f t (Nat.succ (Nat.mul 2 n)) v fun t=>hp.put M b (.map (Nat.succ n) t) k)))) = R) :
    ∃ hp',k hp' = R ∧ ∀ {w : World} {F : Nat → Prop} {μ : Mu} {um uk uv : Value},ai w F μ m um → ai w F μ key uk → ai w F μ v uv → aN V μ F hp w → gy V μ F hp w (Instr.mapUpdate t um uk uv) hp' fun _ _ μ' _=>μ' = μ := by
  obtain ⟨q,tr,b,p,cc,rfl,g1⟩ := n7 hR g
  obtain ⟨hq,g2⟩ := an hR g1
  rw [aC] at hq; subst hq
  obtain ⟨hpr,g3⟩ := pF hR (show uO b hp.pr _ = R from g2)
  have g4 := et ok hR g3
  obtain ⟨n,tb,hB,g5⟩ := lZ hR g4
  obtain ⟨r,g6,H⟩ := zI ok hR n (s := 0) g5
  obtain ⟨d,hd1,hd2,hd3,hd4⟩ := qQ hk
  have fin : ∀ {w : World} {F : Nat → Prop} {μ : Mu} {uk uv : Value} {hp' : Hp} {n' : Nat} {t' : Row} {mp : Mp} {es es' : Array MapEntry} {clk clk' : Nat},aN V μ F hp w → dZ hp b (.map n' t') hp' → μ b = some mp → w.heap[mp.bq]? = some (.map es clk) → ¬ F mp.bq →
      es'.size = n' → (∀ i,i < n' → ∃ en,es'[i]? = some en ∧ ai w F μ (t'.at (2 * i)) en.key ∧ ai w F μ (t'.at (2 * i + 1)) en.val) →
      (Instr.mapUpdate t (.map (some mp.bq)) uk uv).run V.P w = (setObj mp.bq (.map es' clk')).run V.P w → gy V μ F hp w (Instr.mapUpdate t (.map (some mp.bq)) uk uv) hp' fun _ _ μ' _=>μ' = μ := by
    intro w F μ uk uv hp' n' t' mp es es' clk clk' hH hset hmu hblk hnF hsz hes hrun
    have hlt : mp.bq < w.heap.size := (hH.kR b mp hmu).2
    have hwr : (hp.at b).wr := by rw [hB]; exact trivial
    have hoth : ∀ X,X ≠ mp.bq → (w.heap.setIfInBounds mp.bq (.map es' clk'))[X]? = w.heap[X]? := fun X hX=>by
      rw [Array.getElem?_setIfInBounds,if_neg (Ne.symm hX)]
    obtain ⟨h1,h2⟩ := hH.set (w' := { w with heap := w.heap.setIfInBounds mp.bq (.map es' clk') }) hwr hpr hmu (by simp) hoth hset ⟨mp,es',clk',hmu,by
        show (w.heap.setIfInBounds mp.bq (.map es' clk'))[mp.bq]? = _
        rw [Array.getElem?_setIfInBounds,if_pos rfl,if_pos hlt],hnF,hsz,fun i hi=>by
        obtain ⟨en,q1,q2,q3⟩ := hes i hi
        have hF : ∀ X,F X → (w.heap.setIfInBounds mp.bq (.map es' clk'))[X]? = w.heap[X]? := fun X hX=>hoth X fun e=>hnF (e ▸ hX)
        exact ⟨en,q1,q2.mono hF (fun _ h=>h) (fun _ _ h=>h),q3.mono hF (fun _ h=>h) (fun _ _ h=>h)⟩⟩
    refine ⟨μ,F,_,(), ?_,rfl,h1,h2⟩
    rw [hrun]
    simp [setObj,Sem.run,hblk]
  cases r with
  | some j=>
    obtain ⟨t',ht0,g7⟩ := ok.rs hR g6
    have ht' : ∀ x,t'.at x = if x = 2 * j + 1 then v else tb.at x := fun x=>(ht0 x).trans (by rw [Nat.zero_add])
    obtain ⟨hp',hset,_,g8⟩ := eu ok hR g7
    refine ⟨hp',g8,fun {w F μ um uk uv} hm hkv hv hH=>?_⟩
    have hro := (hH.bq b).read
    rw [hB] at hro
    obtain ⟨mp,es,clk,rfl,hmu,p2,p3,p4,p5,hj,p6⟩ := a1w (V := V) hk H hm hkv hro
    obtain ⟨hj1,hj2,hj3⟩ := hj j rfl
    obtain ⟨en,q1,q2,q3⟩ := p5 j hj1
    have hen := hj3 en q1
    refine fin (es' := es.modify j fun en=>{ en with key := uk,val := uv }) (clk' := clk) hH hset hmu p2 p3 (by rw [Array.size_modify]; exact p4) (fun i hi=>?_) ?_
    · obtain ⟨ei,r1,r2,r3⟩ := p5 i hi
      by_cases e : i = j
      · subst e
        rw [q1] at r1; cases r1
        refine ⟨{ en with key := uk,val := uv },by rw [Array.getElem?_modify,if_pos rfl,q1]; rfl, ?_, ?_⟩
        · show ai w F μ _ uk
          rw [ht',if_neg (by omega),← hen]; exact q2
        · rw [ht',if_pos (by omega)]; exact hv
      · refine ⟨ei,by rw [Array.getElem?_modify,if_neg (Ne.symm e)]; exact r1, ?_, ?_⟩
        · rw [ht',if_neg (by omega)]; exact r2
        · rw [ht',if_neg (by omega)]; exact r3
    · have hsame := hd4 uk hj2
      simp only [Instr.mapUpdate,Sem.run_bind,run_underlying (aB ht).1,Result.andThen_ok,World.a1L p2,hd3 _ 9999,p6,q1,Option.map_some,Option.getD_some,Instr.keyThatStays,hen,hsame,if_true,Sem.run_pure]
  | none=>
    obtain ⟨t1,ht1',g7⟩ := ok.rs hR g6
    obtain ⟨t2,ht2',g8⟩ := ok.rs hR g7
    have ht1 : ∀ x,t1.at x = if x = 2 * n then key else tb.at x := fun x=>ht1' x
    have ht2 : ∀ x,t2.at x = if x = 2 * n + 1 then v else t1.at x := fun x=>ht2' x
    obtain ⟨hp',hset,_,g9⟩ := eu ok hR g8
    have h2n : Nat.mul 2 n = 2 * n := rfl
    refine ⟨hp',g9,fun {w F μ um uk uv} hm hkv hv hH=>?_⟩
    have hro := (hH.bq b).read
    rw [hB] at hro
    obtain ⟨mp,es,clk,rfl,hmu,p2,p3,p4,p5,hj,p6⟩ := a1w (V := V) hk H hm hkv hro
    refine fin (es' := es.push { key := uk,val := uv,born := clk }) (clk' := clk + 1) hH hset hmu p2 p3 (by rw [Array.size_push,p4]) (fun i hi=>?_) ?_
    · by_cases e : i = n
      · subst e
        refine ⟨{ key := uk,val := uv,born := clk },by rw [Array.getElem?_push,if_pos p4.symm], ?_, ?_⟩
        · rw [ht2,if_neg (by omega),ht1,if_pos rfl]; exact hkv
        · rw [ht2,if_pos rfl]; exact hv
      · obtain ⟨ei,r1,r2,r3⟩ := p5 i (by omega)
        refine ⟨ei,by rw [Array.getElem?_push,if_neg (by omega)]; exact r1, ?_, ?_⟩
        · rw [ht2,if_neg (by omega),ht1,if_neg (by omega)]; exact r2
        · rw [ht2,if_neg (by omega),ht1,if_neg (by omega)]; exact r3
    · simp only [Instr.mapUpdate,Sem.run_bind,run_underlying (aB ht).1,Result.andThen_ok,World.a1L p2,hd3 _ 9999,p6]
end
def CR (w : World) (F : Nat → Prop) (μ : Mu) (f : Nat → AV) (cs : Array Value) (n : Nat) : Prop := cs.size = n ∧ ∀ i,i < n → ∃ y,cs[i]? = some y ∧ y.oneCell' = true ∧ ai w F μ (f i) y
theorem CR.set {w : World} {F : Nat → Prop} {μ : Mu} {f f' : Nat → AV} {cs : Array Value} {n off sz : Nat} {v : AV} {u : Value} (h : CR w F μ f cs n) (hf : Fits v sz) (hv : ai w F μ v u) (hp : ∀ j,f' j = if off ≤ j ∧ j < off + sz then cv v (j - off) else f j) (hle : off + sz ≤ n) :
    u.cells.size = sz ∧ ¬ (off + u.cells.size > cs.size) ∧ CR w F μ f' (u.cells.zipIdx.foldl (fun cs (p : Value × Nat)=>cs.setIfInBounds (off + p.2) p.1) cs) n := by
  obtain ⟨h1,h2⟩ := py hf hv
  refine ⟨h1,by rw [h1,h.1]; omega, ?_⟩
  obtain ⟨q1,q2⟩ := tH off u.cells.toList 0 cs
  have e : u.cells.zipIdx.foldl (fun (cs : Array Value) (p : Value × Nat)=>cs.setIfInBounds (off + p.2) p.1) cs = (u.cells.toList.zipIdx 0).foldl (fun (cs : Array Value) (p : Value × Nat)=>cs.setIfInBounds (off + p.2) p.1) cs := by
    rw [← Array.foldl_toList,Array.toList_zipIdx]
  rw [e]
  refine ⟨by rw [q1,h.1],fun i hi=>?_⟩
  have hl : u.cells.toList.length = sz := by rw [Array.length_toList,h1]
  rw [q2 i,hp i,hl,h.1,Nat.add_zero]
  by_cases c : off ≤ i ∧ i < off + sz
  · rw [if_pos ⟨c.1,c.2,hi⟩,if_pos c]
    obtain ⟨y,r1,r2,r3⟩ := h2 (i - off) (by omega)
    exact ⟨y,by rw [Array.getElem?_toList]; exact r1,r2,r3⟩
  · rw [if_neg (fun q=>c ⟨q.1,q.2.1⟩),if_neg c]; exact h.2 i hi
theorem wF {o z : Nat → Nat} {n : Nat} : ∀ {l : List (Nat × Operand)},a3u o z n l = true → ∀ p ∈ l,o p.1 + z p.1 ≤ n
  | [],_,p,hp=>by cases hp
  | a :: l,h,p,hp=>by
    have h' : bp (Nat.ble (Nat.add (o a.1) (z a.1)) n) (a3u o z n l) = true := h
    rw [bR,bn] at h'
    rcases List.mem_cons.1 hp with rfl | hp
    · exact h'.1
    · exact wF h'.2 p hp
section
variable {C : Cx} {g : G} {R : ab}
theorem avu (ok : cL C.M) (hR : R ≠ .fail) {o : Nat → Nat} {z : Nat} {sk : Row} {fr : Fr} : ∀ {ps : List (Nat × Operand)} {t : Row} {f : Bool} {k : Row → Bool → ab},(vk C.M z (partsOf C g ps o fun _=>z)).f sk fr t f k = R →
    ∃ t' f',k t' f' = R ∧ (∀ {n : Nat},(∀ p ∈ ps,o p.1 + z ≤ n) → (f = true → ∀ i,i < n → (cellAt z t i).cH = true) → (f' = true → ∀ i,i < n → (cellAt z t' i).cH = true)) ∧
      ∀ {w : World} {F : Nat → Prop} {μ : Mu} {ρ : Operand → Value} {cs : Array Value} {n : Nat} {place : Nat → Option (Nat × Nat)},(∀ p ∈ ps,ai w F μ (ov C g sk fr p.2) (ρ p.2)) → CR w F μ (cellAt z t) cs n → (∀ p ∈ ps,o p.1 + z ≤ n) →
      (∀ p ∈ ps,place p.1 = some (o p.1,z)) → ∃ cs',Instr.fill place cs (ps.map fun p=>(p.1,ρ p.2)) = some cs' ∧ CR w F μ (cellAt z t') cs' n := by
  intro ps
  induction ps with
  | nil=>intro t f k h; exact ⟨t,f,h,fun _ h=>h,fun {w F μ ρ cs n place} _ hl _ _=>⟨cs,rfl,hl⟩⟩
  | cons p r ih=>
    intro t f k h
    have h1 := bm hR (k := fun v=>wrV C.M z z t (o p.1) v fun t b=>(vk C.M z (partsOf C g r o fun _=>z)).f sk fr t (bp f b) k) h
    obtain ⟨t1,b,hf,hs,hfree,h2⟩ := aaW ok hR h1
    obtain ⟨t',f',h3,H1,H2⟩ := ih h2
    refine ⟨t',f',h3,fun {n} hle hfr=>H1 (fun q hq=>hle q (List.mem_cons_of_mem _ hq)) fun e i hi=>?_,fun {w F μ ρ cs n place} hρ hl hle hpl=>?_⟩
    · rw [bR] at e
      rw [hs]
      by_cases c : o p.1 ≤ i ∧ i < o p.1 + z
      · rw [if_pos c]
        rcases hfree e.2 (i - o p.1) (by omega) with h | ⟨l,n,hl,h⟩
        · exact ff h
        · rw [hl]
          show (nth l (i - o p.1)).cH = true
          rw [xA h]; rfl
      · rw [if_neg c]; exact hfr e.1 i hi
    · obtain ⟨e1,e2,e3⟩ := hl.set hf (hρ p (List.mem_cons_self ..)) hs (hle p (List.mem_cons_self ..))
      obtain ⟨cs',q1,q2⟩ := H2 (ρ := ρ) (place := place) (fun q hq=>hρ q (List.mem_cons_of_mem _ hq)) e3 (fun q hq=>hle q (List.mem_cons_of_mem _ hq)) (fun q hq=>hpl q (List.mem_cons_of_mem _ hq))
      refine ⟨cs', ?_,q2⟩
      rw [List.map_cons,Instr.fill,hpl p (List.mem_cons_self ..)]
      simp only []
      rw [if_neg]
      · exact q1
      · simp only [Bool.or_eq_true,decide_eq_true_eq]
        rintro (h | h)
        · exact h e1
        · exact e2 h
theorem wc (ok : cL C.M) (hR : R ≠ .fail) {V : Env} {N : NK} {hp : Hp} {id : Nat} (hN : fC N hp id) {t e : TypeId} {len : Nat} {ps : Array (Nat × Operand)} {sk : Row} {fr : Fr} {k : AV → Hp → ab} (ht : dN V.P t = some (.slice e)) {z : Nat} (hsz : ba V.P e = z) (hz : 1 ≤ z)
    (hzk : dY V.P e z = true) (hb : len * z ≤ 16777216) (hfit : a3u (fun i=>i * z) (fun _=>z) (len * z) ps.toList = true)
    (h : (vk C.M z (partsOf C g ps.toList (fun i=>i * z) fun _=>z)).f sk fr (Tr.full (eT V.P e) (depth len)) true (fun r f=>N.f hp (.row true f z (len * z) r) fun id hp=>k (.ms id 0 len z) hp) = R) :
    ∃ B hp',k (.ms id 0 len z) hp' = R ∧ dZ hp id B hp' ∧ id < hp'.nx ∧ New V (fun w F μ (ρ : Operand → Value)=>∀ p ∈ ps.toList,ai w F μ (ov C g sk fr p.2) (ρ p.2)) (fun ρ => Instr.buildSlice t len (ps.map fun (i,x)=>(i,ρ x))) id B (.ms id 0 len z) := by
  obtain ⟨i,zv,q1,q2,q3,q4,q5⟩ := fN hzk
  have hi : i.size = z := by rw [← hsz,dA q1]
  obtain ⟨r,f,h2,H1,H2⟩ := avu ok hR h
  obtain ⟨hp',h3,hset,hid⟩ := hN hR rfl rfl h2
  have hle := wF hfit
  have hc : ∀ i,i < len * z → cellAt z (Tr.full (eT V.P e) (depth len)) i = zc V.P e z (i % z) := fun i hi=>by rw [oe (by omega) hi]; rfl
  refine ⟨_,hp',h3,hset,hid,sC (fun e i hi=>H1 hle (fun _ i hi=>by
    rw [hc i hi]
    obtain ⟨y,_,_,_,hf⟩ := q5 (i % z) (Nat.mod_lt _ (by omega))
    exact hf) e i hi) fun {w F μ ρ} hρ => ?_⟩
  have hz0 : CR w F μ (cellAt z (Tr.full (eT V.P e) (depth len))) ((Array.range (len * z)).map (zv.cells[· % zv.cells.size]!)) (len * z) := by
    refine ⟨by simp,fun j hj=>?_⟩
    obtain ⟨y,h1,h2,h3,_⟩ := q5 (j % z) (Nat.mod_lt _ (by omega))
    refine ⟨y, ?_,h2,by rw [hc j hj]; exact h3 w F μ⟩
    rw [Array.getElem?_map,Array.getElem?_range,if_pos hj,q4]
    show some (zv.cells[j % z]!) = some y
    rw [getElem!_def,h1]
  obtain ⟨cs,e1,e2,e3⟩ := H2 (ρ := ρ) (place := fun i=>some (i * z,z)) hρ hz0 hle (fun p _=>rfl)
  have hmap : (ps.map fun (i,x)=>(i,ρ x)).toList = ps.toList.map fun p=>(p.1,ρ p.2) := by rw [Array.toList_map]
  refine ⟨.slice (some ⟨w.heap.size,0,none⟩) len len,w.alloc (.cells cs e),cs,e,(0,0), ?_,⟨rfl,rfl,rfl⟩,.inl rfl,e3,fun {μ'} hμ => .ms hμ (Nat.le_refl _) (by show 0 + 0 + len * z ≤ cs.size; rw [e2]; omega)⟩
  by_cases h0 : len * z = 0
  · have hnil : ((Array.range (len * z)).map (zv.cells[· % zv.cells.size]!)) = ((Array.range (len * z)).map ((#[] : Array Value)[· % (#[] : Array Value).size]!)) := by rw [h0]; simp
    rw [hnil] at e1
    simp [Instr.buildSlice,run_underlying (aB ht).1,sizeOf,typeInfo,q2,hi,h0,newRow]
    rw [h0] at e1
    simp at e1
    simp [e1]
  · have : ¬ len * z > 2 ^ 24 := by omega
    simp only [Instr.buildSlice,Sem.run_bind,run_underlying (aB ht).1,Result.andThen_ok,sizeOf,typeInfo,hmap,zeroValue]
    simp [q2,q3,hi,h0,this,e1,newRow]
end
def Wf (r : Option Nat) : Fence := { fn := fun _=>True,depth := none,alive := false,round := r }
def qk (w : World) (F : Nat → Prop) (μ : Mu) (O : Operand → AV) (l : List Operand) (ρ : Operand → Value) : Prop := ∀ x ∈ l,ai w F μ (O x) (ρ x)
def Nx (r : Next) (x : Value) : Prop := r = .value x ∨ (r = .skip ∧ x = undef)
def ka (id : Nat) (hp : Hp) (μ μ' : Mu) : Prop := ∀ b,μ' b ≠ none → μ b ≠ none ∨ b = id ∨ hp.nx ≤ b
theorem iA.news {id : Nat} {hp : Hp} {μ μ' : Mu} (h : iA id μ μ') : ka id hp μ μ' := fun b hb=>(h b hb).imp (fun h=>h) .inl
theorem ka.refl (id : Nat) (hp : Hp) (μ : Mu) : ka id hp μ μ := fun _ h=>.inl h
def ny (V : Env) (μ : Mu) (F : Nat → Prop) (h : Hp) (w : World) (s : Sem Next) (v : AV) (id : Nat) (h' : Hp) : Prop :=
  ∃ r x w' μ' F',s.run V.P w = .ok r w' ∧ Nx r x ∧ ai w' F' μ' v x ∧ iA id μ μ' ∧ aN V μ' F' h' w' ∧ Ext μ F h w μ' F' h' w'
inductive kP (V : Env) (O : Operand → AV) (o : Oper) (id : Nat) (hp : Hp) (v : AV) (hp' : Hp) : Nat → Prop
  | pure (h : hp' = hp) (H : ∀ {w : World} {F : Nat → Prop} {μ : Mu} {ρ : Operand → Value},qk w F μ O o.op.operands.toList ρ → ∃ r x,(execOp ρ o).run V.P w = .ok r w ∧ Nx r x ∧ ai w F μ v x) : kP V O o id hp v hp' 0
  | read (p : Operand) (h : hp' = hp) (hsp : spot o.op = some p) (hm : p ∈ o.op.operands.toList) (hl : eM hp (O p)) (H : ∀ {w : World} {F : Nat → Prop} {μ : Mu} {ρ : Operand → Value},qk w F μ O o.op.operands.toList ρ → jk V w F μ hp (O p) → ∃ r x,(execOp ρ o).run V.P w = .ok r w ∧ Nx r x ∧ ai w F μ v x) : kP V O o id hp v hp' 1
  | make (B : bN) (hs : dZ hp id B hp') (hn : id < hp'.nx) (H : ∀ {w : World} {F : Nat → Prop} {μ : Mu} {ρ : Operand → Value} {h h' : Hp},qk w F μ O o.op.operands.toList ρ → μ id = none → aN V μ F h w → dZ h id B h' → id < h'.nx → ny V μ F h w (execOp ρ o) v id h') : kP V O o id hp v hp' 2
  | other (H : ∀ {w : World} {F : Nat → Prop} {μ : Mu} {a : Act} {r : Option Nat} {n : Nat} {Q : Exit → Act → World → Prop} {K : Act → World → Prop},qk w F μ O o.op.operands.toList a.eval → μ id = none → aN V μ F hp w →
      (∀ x w' μ' F',ai w' F' μ' v x → ka id hp μ μ' → aN V μ' F' hp' w' → Ext μ F hp w μ' F' hp' w' → K (a.put o.dst x) w') → o.wpIn (Wf r) n V.P a w K Q) : kP V O o id hp v hp' 3
theorem ji {V : Env} {o : Oper} {a : Act} {w w' : World} {r : Option Nat} {n : Nat} {Q : Exit → Act → World → Prop} {K : Act → World → Prop} {nx : Next} {x : Value} (hd : ∀ c,o.op ≠ .defer c) (h : (execOp a.eval o).run V.P w = .ok nx w') (hx : Nx nx x) (hk : K (a.put o.dst x) w') : o.wpIn (Wf r) n V.P a w K Q := by
  refine ⟨fun _ _=>trivial, ?_⟩
  rw [Oper.semAt_eq _ _ _ hd,h]
  rcases hx with rfl | ⟨rfl,rfl⟩
  · exact hk
  · exact hk
theorem kP.wp {V : Env} {O : Operand → AV} {o : Oper} {id : Nat} {hp : Hp} {v : AV} {hp' : Hp} {kd : Nat} (k : kP V O o id hp v hp' kd) (hd : ∀ c,o.op ≠ .defer c) {w : World} {F : Nat → Prop} {μ : Mu} {a : Act} {r : Option Nat} {n : Nat} {Q : Exit → Act → World → Prop} {K : Act → World → Prop}
    (hO : qk w F μ O o.op.operands.toList a.eval) (hid : μ id = none) (H : aN V μ F hp w) (hK : ∀ x w' μ' F',ai w' F' μ' v x → ka id hp μ μ' → aN V μ' F' hp' w' → Ext μ F hp w μ' F' hp' w' → K (a.put o.dst x) w') : o.wpIn (Wf r) n V.P a w K Q := by
  cases k with
  | pure h G=>
    subst h
    obtain ⟨nx,x,h1,h2,h3⟩ := G hO
    exact ji hd h1 h2 (hK x w μ F h3 (ka.refl _ _ _) H (Ext.refl _ _ _ _))
  | read p h hsp hm hl G=>
    subst h
    obtain ⟨nx,x,h1,h2,h3⟩ := G hO (H.read _)
    exact ji hd h1 h2 (hK x w μ F h3 (ka.refl _ _ _) H (Ext.refl _ _ _ _))
  | make B hs hn G=>
    obtain ⟨nx,x,w',μ',F',h1,h2,h3,h4,h5,h6⟩ := G hO hid H hs hn
    exact ji hd h1 h2 (hK x w' μ' F' h3 h4.news h5 h6)
  | other G=>exact G hO hid H hK
section
variable {V : Env} {O : Operand → AV} {o : Oper} {id : Nat} {hp hp' : Hp} {v : AV}
theorem dr {P : Program} {s : Sem Value} {w w' : World} {x : Value} (h : s.run P w = .ok x w') : ((do pure (.value (← s)) : Sem Next)).run P w = .ok (.value x) w' := by
  rw [Sem.run_bind,h]; rfl
theorem ah9 {P : Program} {s : Sem Unit} {w w' : World} (h : s.run P w = .ok () w') : ((do s; pure .skip : Sem Next)).run P w = .ok .skip w' := by
  rw [Sem.run_bind,h]; rfl
theorem kP.pure1 {x : Operand} {s : Value → Sem Value} (hx : x ∈ o.op.operands.toList) (he : ∀ ρ,execOp ρ o = (do Pure.pure (.value (← s (ρ x))))) (h : pV V.P s (O x) v) : kP V O o id hp v hp 0 := .pure rfl fun hO=>by
  obtain ⟨r,h1,h2⟩ := h (hO x hx)
  exact ⟨_,r,by rw [he]; exact dr h1,.inl rfl,h2⟩
theorem kP.pure2 {x y : Operand} {s : Value → Value → Sem Value} (hx : x ∈ o.op.operands.toList) (hy : y ∈ o.op.operands.toList) (he : ∀ ρ,execOp ρ o = (do Pure.pure (.value (← s (ρ x) (ρ y))))) (h : gf V.P s (O x) (O y) v) : kP V O o id hp v hp 0 := .pure rfl fun hO=>by
  obtain ⟨r,h1,h2⟩ := h (hO x hx) (hO y hy)
  exact ⟨_,r,by rw [he]; exact dr h1,.inl rfl,h2⟩
theorem kP.anr {x : Operand} {s : Value → Sem Value} (hsp : spot o.op = some x) (hx : x ∈ o.op.operands.toList) (he : ∀ ρ,execOp ρ o = (do Pure.pure (.value (← s (ρ x))))) (hl : eM hp (O x)) (h : acY V s hp (O x) v) : kP V O o id hp v hp 1 := .read x rfl hsp hx hl fun hO hr=>by
  obtain ⟨r,h1,h2⟩ := h (hO x hx) hr
  exact ⟨_,r,by rw [he]; exact dr h1,.inl rfl,h2⟩
theorem kP.read2 {x y : Operand} {s : Value → Value → Sem Value} (hsp : spot o.op = some x) (hx : x ∈ o.op.operands.toList) (hy : y ∈ o.op.operands.toList) (he : ∀ ρ,execOp ρ o = (do Pure.pure (.value (← s (ρ x) (ρ y))))) (hl : eM hp (O x)) (h : akG V s hp (O x) (O y) v) : kP V O o id hp v hp 1 := .read x rfl hsp hx hl fun hO hr=>by
  obtain ⟨r,h1,h2⟩ := h (hO x hx) (hO y hy) hr
  exact ⟨_,r,by rw [he]; exact dr h1,.inl rfl,h2⟩
theorem kP.new {α : Type} {Q : World → (Nat → Prop) → Mu → α → Prop} {s : α → Sem Value} {B : bN} (A : (Operand → Value) → α) (he : ∀ ρ,execOp ρ o = (do Pure.pure (.value (← s (A ρ))))) (hQ : ∀ {w : World} {F : Nat → Prop} {μ : Mu} {ρ : Operand → Value},qk w F μ O o.op.operands.toList ρ → Q w F μ (A ρ)) (hs : dZ hp id B hp') (hn : id < hp'.nx) (h : New V Q s id B v) : kP V O o id hp v hp' 2 :=
  .make B hs hn fun hO hid hH hs' hn'=>by
    obtain ⟨μ',F',w',x,h1,⟨h2,h3⟩,h4,h5⟩ := h.out (hQ hO) hid hH hs' hn'
    exact ⟨_,x,w',μ',F',by rw [he]; exact dr h1,.inl rfl,h2,h3,h4,h5⟩
theorem kP.a74 (hd : ∀ c,o.op ≠ .defer c) (h : ∀ {w : World} {F : Nat → Prop} {μ : Mu} {ρ : Operand → Value},qk w F μ O o.op.operands.toList ρ → μ id = none → aN V μ F hp w → ny V μ F hp w (execOp ρ o) v id hp') : kP V O o id hp v hp' 3 := .other fun hO hid hH hK=>by
  obtain ⟨nx,x,w',μ',F',h1,h2,h3,h4,h5,h6⟩ := h hO hid hH
  exact ji hd h1 h2 (hK x w' μ' F' h3 h4.news h5 h6)
theorem ny.of {μ : Mu} {F : Nat → Prop} {w : World} {ρ : Operand → Value} {s : Sem Value} {Q : World → (Nat → Prop) → Mu → Value → Prop} (he : execOp ρ o = (do Pure.pure (.value (← s)))) (h : gy V μ F hp w s hp' Q) (hQ : ∀ w' F' μ' r,Q w' F' μ' r → ai w' F' μ' v r ∧ iA id μ μ') : ny V μ F hp w (execOp ρ o) v id hp' := by
  obtain ⟨μ',F',w',x,h1,h2,h3,h4⟩ := h
  exact ⟨_,x,w',μ',F',by rw [he]; exact dr h1,.inl rfl,(hQ _ _ _ _ h2).1,(hQ _ _ _ _ h2).2,h3,h4⟩
theorem pK {w : World} {F : Nat → Prop} {μ : Mu} : ai w F μ cI undef := .bu (fun _=>undef) rfl (fun _ hi=>absurd hi (Nat.not_lt_zero _)) fun _ hi=>absurd hi (Nat.not_lt_zero _)
theorem ny.ofU {μ : Mu} {F : Nat → Prop} {w : World} {ρ : Operand → Value} {s : Sem Unit} (he : execOp ρ o = (do s; Pure.pure .skip)) (h : gy V μ F hp w s hp' fun _ _ μ' _=>μ' = μ) : ny V μ F hp w (execOp ρ o) cI id hp' := by
  obtain ⟨μ',F',w',x,h1,rfl,h3,h4⟩ := h
  exact ⟨_,undef,w',_,F',by rw [he]; exact ah9 h1,.inr ⟨rfl,rfl⟩,pK,iA.refl _ _,h3,h4⟩
end
theorem a2J {f : Field → Bool} : ∀ {l : List Field},allF f l = true → ∀ x ∈ l,f x = true
  | [],_,x,hx=>by cases hx
  | a :: l,h,x,hx=>by
    have h' : bp (f a) (allF f l) = true := h
    rw [bR] at h'
    rcases List.mem_cons.1 hx with rfl | hx
    · exact h'.1
    · exact a2J h'.2 x hx
theorem a2N {n : Nat} : ∀ {l : List (Nat × Operand)},allP n l = true → ∀ p ∈ l,p.1 < n
  | [],_,p,hp=>by cases hp
  | a :: l,h,p,hp=>by
    have h' : bp (Nat.ble (Nat.succ a.1) n) (allP n l) = true := h
    rw [bR,bn] at h'
    rcases List.mem_cons.1 hp with rfl | hp
    · exact h'.1
    · exact a2N h'.2 p hp
theorem a0c {P : Program} : ∀ (fs : List Field),(∀ x ∈ fs,known P x.type = true) → fs.mapM (fun f=>(P.info? f.type).map fun i=>(f.offset,i.size)) = some (fs.map fun f=>(f.offset,ba P f.type))
  | [],_=>rfl
  | f :: fs,h=>by
    obtain ⟨d,hd⟩ := iI (h f (List.mem_cons_self ..))
    obtain ⟨_,i,hi,hi2⟩ := aB hd
    rw [List.mapM_cons,a0c fs fun x hx=>h x (List.mem_cons_of_mem _ hx),hi]
    simp [dA hi2]
section
variable {C : Cx} {g : G} {R : ab}
theorem zp (ok : cL C.M) (hR : R ≠ .fail) {P : Program} {t : TypeId} {ps : Array (Nat × Operand)} {sk : Row} {fr : Fr} {o z : Nat → Nat} {k : AV → ab}
    (hz : dY P t (ba P t) = true) (hfit : a3u o z (ba P t) ps.toList = true)
    (hb : ∀ (v : Value) (i : TypeInfo) (l : List (Nat × Value)) (cs : Array Value),eP P t = some i → i.zero = some v → Instr.fill (fun i=>some (o i,z i)) v.cells l = some cs → (∀ p ∈ l,∃ q ∈ ps.toList,p.1 = q.1) → P.built t l = some cs)
    (h : (uk (partsOf C g ps.toList o z)).f sk fr (a6o P t) (fun l=>k (.agg l (ba P t))) = R) :
    ∃ v,k v = R ∧ ∀ {w : World} {F : Nat → Prop} {μ : Mu} {ρ : Operand → Value},(∀ p ∈ ps.toList,ai w F μ (ov C g sk fr p.2) (ρ p.2)) → ∃ r,(Instr.build t (ps.map fun (i,x)=>(i,ρ x))).run P w = .ok r w ∧ ai w F μ v r := by
  obtain ⟨l,h2,H⟩ := avq ok hR h
  refine ⟨_,h2,fun {w F μ ρ} hρ => ?_⟩
  obtain ⟨i,v,q1,q2,q3,q4,q5⟩ := acQ hz
  obtain ⟨cs,e1,e2⟩ := H (ρ := ρ) (place := fun i=>some (o i,z i)) hρ (q5 w F μ) (wF hfit) fun p _=>rfl
  have hmap : (ps.map fun (i,x)=>(i,ρ x)).toList = ps.toList.map fun p=>(p.1,ρ p.2) := by rw [Array.toList_map]
  refine ⟨.agg cs,run_build w t _ cs ?_,e2.agg⟩
  rw [hmap]
  exact hb v i _ cs q1 q3 e1 fun p hp=>by
    obtain ⟨q,hq,rfl⟩ := List.mem_map.1 hp
    exact ⟨q,hq,rfl⟩
theorem wD {p q : Nat → Option (Nat × Nat)} : ∀ (l : List (Nat × Value)) (cs : Array Value),(∀ x ∈ l,p x.1 = q x.1) → Instr.fill p cs l = Instr.fill q cs l
  | [],_,_=>rfl
  | (i,v) :: l,cs,h=>by
    have h0 := h (i,v) (List.mem_cons_self ..)
    have ih : ∀ cs,Instr.fill p cs l = Instr.fill q cs l := fun cs=>wD l cs fun x hx=>h x (List.mem_cons_of_mem _ hx)
    simp only at h0
    simp only [Instr.fill,h0,ih]
theorem a0L {P : Program} {t : TypeId} {fs : Array Field} (ht : dN P t = some (.struct fs)) (hk : allF (fun f=>known P f.type) fs.toList = true) {v : Value} {i : TypeInfo} {l : List (Nat × Value)} {cs : Array Value} (hi : eP P t = some i) (hv : i.zero = some v)
    (hl : ∀ p ∈ l,p.1 < fs.size) (h : Instr.fill (fun i=>some (fG fs i,ba P (gB fs i))) v.cells l = some cs) : P.built t l = some cs := by
  unfold Program.built
  have hm := a0c fs.toList (a2J hk)
  simp only [dP hi,(aB ht).1,hv,hm]
  rw [← h]
  refine wD _ _ fun x hx=>?_
  obtain ⟨f,hf,h1,h2⟩ := tG (hl x hx)
  rw [h1,h2]
  simp [hf]
theorem a2Z {P : Program} {t e : TypeId} {n : Nat} (ht : dN P t = some (.array n e)) (hk : known P e = true) {v : Value} {i : TypeInfo} {l : List (Nat × Value)} {cs : Array Value} (hi : eP P t = some i) (hv : i.zero = some v)
    (h : Instr.fill (fun i=>some (i * ba P e,ba P e)) v.cells l = some cs) : P.built t l = some cs := by
  obtain ⟨d,hd⟩ := iI hk
  obtain ⟨_,ie,hie,hie2⟩ := aB hd
  unfold Program.built
  simp only [dP hi,(aB ht).1,hv,hie]
  rw [dA hie2] at h
  exact h
end
def akE (kd c : Nat) : Prop := kd = 0 ∨ (kd = 1 ∧ c = 1) ∨ (kd = 2 ∧ c = 2) ∨ (kd = 3 ∧ 3 ≤ c)
def Out (C : Cx) (V : Env) (g : G) (P : Pt) (k : Sm) (sk : Row) (fr : Fr) (o : Oper) (id : Nat) (hp : Hp) (R : ab) : Prop :=
  ∃ v hp' kd,P.f k sk fr hp' v = R ∧ kP V (ov C g sk fr) o id hp v hp' kd ∧ akE kd (cls C.P o.op) ∧ ∀ c,o.op ≠ .defer c
section
variable {C : Cx} {vs : Vs} {g : G} {P : Pt} {N : NK} {k : Sm} {R : ab} (ok : cL C.M) (hR : R ≠ .fail) {sk : Row} {fr : Fr} {hp : Hp} {id : Nat} {d : Option Tmp} {ty : TypeId} {pos : String} {af : Array Edge} {gd : Option (Nat × Bool)}
abbrev Cx.env (C : Cx) (vs : Vs) : Env := ⟨C.P,vs⟩
theorem cE (hR : R ≠ .fail) {b : Bool} {s : Sm} (h : (iff b s).run sk fr hp = R) : b = true ∧ s.run sk fr hp = R := by
  cases b
  · exact ah hR h
  · exact ⟨rfl,h⟩
theorem iJ {o : Oper} {x : Operand} {s : Value → Sem Value} (hd : ∀ c,o.op ≠ .defer c) (hx : x ∈ o.op.operands.toList) (he : ∀ ρ,execOp ρ o = (do Pure.pure (.value (← s (ρ x))))) (h : ∃ v,P.f k sk fr hp v = R ∧ pV C.P s (ov C g sk fr x) v) : Out C (C.env vs) g P k sk fr o id hp R :=
  let ⟨v,h1,h2⟩ := h; ⟨v,hp,0,h1,kP.pure1 hx he h2,.inl rfl,hd⟩
theorem jY {o : Oper} {x y : Operand} {s : Value → Value → Sem Value} (hd : ∀ c,o.op ≠ .defer c) (hx : x ∈ o.op.operands.toList) (hy : y ∈ o.op.operands.toList) (he : ∀ ρ,execOp ρ o = (do Pure.pure (.value (← s (ρ x) (ρ y))))) (h : ∃ v,P.f k sk fr hp v = R ∧ gf C.P s (ov C g sk fr x) (ov C g sk fr y) v) : Out C (C.env vs) g P k sk fr o id hp R :=
  let ⟨v,h1,h2⟩ := h; ⟨v,hp,0,h1,kP.pure2 hx hy he h2,.inl rfl,hd⟩
theorem gm {o : Oper} (hd : ∀ c,o.op ≠ .defer c) (h : ∃ v,P.f k sk fr hp v = R ∧ ∀ {w : World} {F : Nat → Prop} {μ : Mu} {ρ : Operand → Value},qk w F μ (ov C g sk fr) o.op.operands.toList ρ → ∃ r x,(execOp ρ o).run C.P w = .ok r w ∧ Nx r x ∧ ai w F μ v x) : Out C (C.env vs) g P k sk fr o id hp R :=
  let ⟨v,h1,h2⟩ := h; ⟨v,hp,0,h1,kP.pure rfl h2,.inl rfl,hd⟩
include ok hR
theorem a4J {x : Operand} (o : Oper) (hop : o.op = .move x ∨ o.op = .assign x) (h : (akO C g P k x).run sk fr hp = R) : Out C (C.env vs) g P k sk fr o id hp R := by
  have _ := ok
  have h1 := bm hR (k := fun v=>P.f k sk fr hp v) h
  refine gm (by rcases hop with e | e <;> rw [e] <;> simp) ⟨_,h1,fun hO=>⟨_,_, ?_,.inl rfl,hO x (by rcases hop with e | e <;> rw [e] <;> simp [Op.operands])⟩⟩
  rcases hop with e | e <;> simp only [execOp,e,Sem.run_pure]
theorem ag8 {c x y : Operand} (o : Oper) (hop : o.op = .pick c x y) (h : (akP C g P k c x y).run sk fr hp = R) : Out C (C.env vs) g P k sk fr o id hp R := by
  have _ := ok
  have h1 := bm hR (k := fun v=>v.aJ fun t=>when t ((iz C g x).get sk fr fun v=>P.f k sk fr hp v) ((iz C g y).get sk fr fun v=>P.f k sk fr hp v)) h
  obtain ⟨b,hb,h2⟩ := kG hR h1
  have hd : ∀ c,o.op ≠ .defer c := by rw [hop]; simp
  have mem : ∀ z,z = c ∨ z = x ∨ z = y → z ∈ o.op.operands.toList := fun z hz=>by rw [hop]; rcases hz with rfl | rfl | rfl <;> simp [Op.operands]
  rcases aK hR h2 with ⟨e,h3⟩ | ⟨e,h3⟩
  · have h4 := bm hR (k := fun v=>P.f k sk fr hp v) h3
    refine gm hd ⟨_,h4,fun {w F μ ρ} hO=>⟨.value (ρ x),_, ?_,.inl rfl,hO x (mem x (.inr (.inl rfl)))⟩⟩
    have hc := hO c (mem c (.inl rfl))
    rw [hb] at hc
    simp [execOp,hop,j8 hc,asBool,e]
  · have h4 := bm hR (k := fun v=>P.f k sk fr hp v) h3
    refine gm hd ⟨_,h4,fun {w F μ ρ} hO=>⟨.value (ρ y),_, ?_,.inl rfl,hO y (mem y (.inr (.inr rfl)))⟩⟩
    have hc := hO c (mem c (.inl rfl))
    rw [hb] at hc
    simp [execOp,hop,j8 hc,asBool,e]
theorem ab6 (hN : fC N hp id) {t : TypeId} (o : Oper) (hop : o.op = .alloc t) (hk : dS (cN C.P t) = true) (h : (adg C P N k t ⟨fun _ _ k=>k (cN C.P t)⟩).run sk fr hp = R) : Out C (C.env vs) g P k sk fr o id hp R := by
  obtain ⟨B,hp',h1,hs,hn,H⟩ := a6A (V := C.env vs) ok hR hN (t := t) (k := fun v hp=>P.f k sk fr hp v) hk h
  exact ⟨_,hp',2,h1,kP.new (fun _=>()) (fun ρ => by simp only [execOp,hop]) (fun _=>trivial) hs hn H,.inr (.inr (.inl ⟨rfl,by rw [hop]; rfl⟩)),by rw [hop]; simp⟩
theorem ais (hN : fC N hp id) {t : TypeId} {x : Operand} (o : Oper) (hop : o.op = .box t x) (h : (adg C P N k t (iz C g x)).run sk fr hp = R) : Out C (C.env vs) g P k sk fr o id hp R := by
  have h1 := bm hR (k := fun a=>dU C.M N a (ae4 C.P t) (ba C.P t) hp fun v hp=>P.f k sk fr hp v) h
  obtain ⟨B,hp',h2,hs,hn,H⟩ := a2X (V := C.env vs) ok hR hN (t := t) (k := fun v hp=>P.f k sk fr hp v) h1
  exact ⟨_,hp',2,h2,kP.new (fun ρ => ρ x) (fun ρ => by simp only [execOp,hop]) (fun hO=>hO x (by rw [hop]; simp [Op.operands])) hs hn H,.inr (.inr (.inl ⟨rfl,by rw [hop]; rfl⟩)),by rw [hop]; simp⟩
end
end Go.Proofs.YtpiokjcbadfalaaGreatDoor.Ev
