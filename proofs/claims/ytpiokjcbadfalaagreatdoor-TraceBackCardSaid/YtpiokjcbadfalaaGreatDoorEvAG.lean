import Derived.Test.YtpiokjcbadfalaaGreatDoorEvAF
namespace Go.Proofs.YtpiokjcbadfalaaGreatDoor.Ev
section
variable {P : Program} {R : ab} (hR : R ≠ .fail)
include hR
theorem a8h {t : TypeId} (ht : dN P t = some .string) {x : AV} {lo hi : Option AV} {k : AV → ab} (g : fc x lo hi k = R) : ∃ v,k v = R ∧ a8A P (Instr.sliceAt t) x lo hi none v := by
  obtain ⟨s,n,e0,g1⟩ := bW hR g
  subst e0
  obtain ⟨l,h,e',m,g3,hl,hh,h1,h2,b1,b2,b3,b4⟩ := iE hR g1
  rw [aaB] at g3
  refine ⟨_,g3,fun {w F μ u a b c} ha q1 q2 q3=>?_⟩
  obtain ⟨B,rfl,r1,r2⟩ := gT ha
  have hc : c = none := by
    cases c with
    | none=>rfl
    | some v=>exact q3.elim
  subst hc
  subst r2
  have hrun := iK (P := P) (s := false) q1 q2 q3 b1 b2 b3 b4 hl hh (fun e=>by cases e) (Nat.le_refl B.size)
  refine ⟨.string (B.extract l h), ?_,sM ?_ ?_⟩
  · simp [Instr.sliceAt,Instr.slice,run_underlying (aB ht).1,hrun]
  · have e1 : Nat.mod (Nat.div s (Nat.pow 256 l)) (Nat.pow 256 (Nat.sub h l)) = aR B.data.toList / 256 ^ l % 256 ^ (h - l) := by rw [r1]; rfl
    rw [e1,ng,qN,ByteArray.data_extract,Array.toList_extract,List.extract_eq_take_drop]
  · rw [ByteArray.size_extract]
    show h - l = _
    omega
theorem ajU {x : AV} {k : AV → ab} (g : (x.on (fun _ _=>.fail) (fun _=>.fail) (fun _ _=>.fail) (fun _ _=>k x) (fun _ _ _ _=>.fail) (fun _ _ _ _=>.fail) (fun _ _=>.fail) (fun _ _=>.fail) (fun g _ _ _ _=>au (Nat.beq g 1 || Nat.beq g 3 || Nat.beq g 5 || Nat.beq g 12) (k x))) = R) :
    k x = R ∧ ∀ {w : World} {F : Nat → Prop} {μ : Mu} {u : Value},ai w F μ x u → (∃ a,u = .pointer (some a)) ∨ (∃ f fs cs,u = .func (.func f) fs cs) ∨ (∃ l,u = .func (.yield l) #[] #[]) ∨ ∃ t v,u = .iface t v := by
  cases x with
  | ptr b o=>exact ⟨g,fun ha=>.inl (by obtain ⟨m,_,rfl⟩ := jI ha; exact ⟨_,rfl⟩)⟩
  | x i t a b c=>
    obtain ⟨hi,g⟩ := an hR (show au (Nat.beq i 1 || Nat.beq i 3 || Nat.beq i 5 || Nat.beq i 12) (k (.x i t a b c)) = R from g)
    rw [Bool.or_eq_true,Bool.or_eq_true,Bool.or_eq_true,aC,aC,aC,aC] at hi
    refine ⟨g,fun ha=>?_⟩
    rcases hi with ((rfl | rfl) | rfl) | rfl <;> cases ha
    · exact .inl ⟨_,rfl⟩
    · exact .inr (.inl ⟨_,_,_,rfl⟩)
    · exact .inr (.inr (.inl ⟨_,rfl⟩))
    · exact .inr (.inr (.inr ⟨_,_,rfl⟩))
  | _=>exact ah hR g
end
section
variable {C : Cx} {g : G} {R : ab} (hR : R ≠ .fail)
include hR
theorem a0H {sk : Row} {fr : Fr} : ∀ {l : List Operand} {k : Row → ab},(ak (l.map (iz C g))).f sk fr k = R → ∃ r,k r = R ∧ len r = l.length ∧ ∀ i x,l[i]? = some x → nth r i = ov C g sk fr x := by
  intro l
  induction l with
  | nil=>intro k h; exact ⟨.lf,h,rfl,fun i x e=>by cases e⟩
  | cons a r ih=>
    intro k h
    have h1 := bm hR (k := fun v=>(ak (r.map (iz C g))).f sk fr fun t=>k (.nd v .lf t)) h
    obtain ⟨t,h2,h3,h4⟩ := ih h1
    refine ⟨_,h2,congrArg (· + 1) h3,fun i x e=>?_⟩
    cases i with
    | zero=>cases e; rfl
    | succ i=>exact h4 i x e
omit hR in
theorem ag0 {sk : Row} {fr : Fr} {v : Value} {w : World} {F : Nat → Prop} {μ : Mu} : ai w F μ (ov C g sk fr (.const v)) v := ld v
omit hR in
theorem ah5 {sk : Row} {fr : Fr} {w : World} {F : Nat → Prop} {μ : Mu} {f : FuncId} {ρ : Operand → Value} {a b : Array Operand} {r : Row} (hl : len r = (a.toList ++ b.toList).length) (hr : ∀ i x,(a.toList ++ b.toList)[i]? = some x → nth r i = ov C g sk fr x)
    (h : ∀ x,x ∈ a.toList ++ b.toList → ai w F μ (ov C g sk fr x) (ρ x)) : ai w F μ (.x 3 r f a.size b.size) (.func (.func f) (a.map ρ) (b.map ρ)) := by
  have ha : a.toList.length = a.size := Array.length_toList
  have hb : b.toList.length = b.size := Array.length_toList
  have hlen : (a.toList ++ b.toList).length = a.size + b.size := by rw [List.length_append,ha,hb]
  have hx : ∀ i,i < a.size + b.size → ∃ u,∃ x,(a.toList ++ b.toList)[i]? = some x ∧ u = ρ x := fun i hi=>by
    have : i < (a.toList ++ b.toList).length := by rw [hlen]; exact hi
    exact ⟨_,_,List.getElem?_eq_getElem this,rfl⟩
  obtain ⟨us,hus⟩ := kZ hx
  refine .fn us (by rw [Array.size_map]) (by rw [Array.size_map]) (by rw [hl,hlen]) (fun i hi=>?_) (fun i hi=>?_) fun i hi=>?_
  · obtain ⟨x,h1,h2⟩ := hus i (by omega)
    rw [List.getElem?_append_left (by rw [ha]; exact hi),Array.getElem?_toList] at h1
    rw [Array.getElem?_map,h1,h2]; rfl
  · obtain ⟨x,h1,h2⟩ := hus (a.size + i) (by omega)
    rw [List.getElem?_append_right (by rw [ha]; omega),ha,show a.size + i - a.size = i by omega,Array.getElem?_toList] at h1
    rw [Array.getElem?_map,h1,h2]; rfl
  · obtain ⟨x,h1,h2⟩ := hus i hi
    rw [hr i x h1,h2]
    exact h x (List.mem_of_getElem? h1)
end
def yF (c : Nat) (v : Value) : Prop := match c with
  | 0=>∃ b,v = .bool b
  | 1=>∃ s,v = .string s
  | q + 2=>∃ n,v = .int (kd q) n
theorem ry (x y : ByteArray) : (x.toList == y.toList) = true ↔ x = y := by
  rw [ByteArray.toList_eq,ByteArray.toList_eq,beq_iff_eq]
  constructor
  · intro h
    obtain ⟨⟨a⟩⟩ := x
    obtain ⟨⟨b⟩⟩ := y
    simp only at h
    rw [h]
  · rintro rfl; rfl
section
variable {R : ab} (hR : R ≠ .fail)
include hR in
theorem qo {c : Nat} {a b : AV} {k : Bool → ab} (g : og c a b k = R) : ∃ r,k r = R ∧ ∀ {w : World} {F : Nat → Prop} {μ : Mu} {u v : Value},ai w F μ a u → ai w F μ b v → yF c u ∧ yF c v ∧ (r = true ↔ u = v) := by
  match c with
  | 0=>
    obtain ⟨x,rfl,g2⟩ := kG hR g
    obtain ⟨y,rfl,g3⟩ := kG hR g2
    rw [jT] at g3
    refine ⟨_,g3,fun {w F μ u v} ha hb=>?_⟩
    rw [j8 ha,j8 hb]
    refine ⟨⟨_,rfl⟩,⟨_,rfl⟩, ?_⟩
    rw [fq,vC]
    cases x <;> cases y <;> simp
  | 1=>
    obtain ⟨s,n,t,m,rfl,rfl,g2⟩ := sU hR g
    rw [jT] at g2
    refine ⟨_,g2,fun {w F μ u v} ha hb=>?_⟩
    obtain ⟨x,rfl,rfl,rfl⟩ := gT ha
    obtain ⟨y,rfl,rfl,rfl⟩ := gT hb
    refine ⟨⟨_,rfl⟩,⟨_,rfl⟩, ?_⟩
    rw [pd,ry]
    simp
  | q + 2=>
    obtain ⟨x,y,rfl,rfl,g2⟩ := cQ hR g
    rw [jT] at g2
    refine ⟨_,g2,fun {w F μ u v} ha hb=>?_⟩
    obtain ⟨h1,rfl⟩ := cY ha
    obtain ⟨h2,rfl⟩ := cY hb
    refine ⟨⟨_,rfl⟩,⟨_,rfl⟩, ?_⟩
    rw [aC,Value.int.injEq,a2k q x y h1 h2]
    simp
include hR in
theorem a99 : ∀ {l : List Nat} {t u : Row} {k : Bool → ab},eqs l t u k = R → ∃ r,k r = R ∧ ∀ {w : World} {F : Nat → Prop} {μ : Mu} {us vs : Nat → Value},(∀ i,i < l.length → ai w F μ (nth t i) (us i) ∧ ai w F μ (nth u i) (vs i)) →
    (∀ i c,l[i]? = some c → yF c (us i) ∧ yF c (vs i)) ∧ (r = true ↔ ∀ i,i < l.length → us i = vs i)
  | [],t,u,k,g=>⟨true,g,fun _=>⟨fun i c h=>by simp at h,by simp⟩⟩
  | c :: l, t, u, k, g => by
    cases t with
    | lf=>exact ah hR g
    | nd a tl tr=>
      cases u with
      | lf=>exact ah hR g
      | nd b ul ur=>
        obtain ⟨r,g,h1⟩ := qo hR g
        obtain ⟨r2,g,h2⟩ := a99 g
        refine ⟨_,g,fun {w F μ us vs} h=>?_⟩
        obtain ⟨q1,q2,q3⟩ := h1 (h 0 (Nat.succ_pos _)).1 (h 0 (Nat.succ_pos _)).2
        obtain ⟨p1,p2⟩ := h2 (us := fun i=>us (i + 1)) (vs := fun i=>vs (i + 1)) fun i hi=>h (i + 1) (Nat.succ_lt_succ hi)
        refine ⟨fun i c' hc=>?_, ?_⟩
        · cases i with
          | zero=>simp at hc; subst hc; exact ⟨q1,q2⟩
          | succ i=>exact p1 i c' (by simpa using hc)
        · rw [bR,q3,p2]
          constructor
          · rintro ⟨e1,e2⟩ i hi
            cases i with
            | zero=>exact e1
            | succ i=>exact e2 i (Nat.lt_of_succ_lt_succ hi)
          · intro e
            exact ⟨e 0 (Nat.succ_pos _),fun i hi=>e (i + 1) (Nat.succ_lt_succ hi)⟩
end
section
variable {P : Program}
theorem a0I (a b : List Nat) : yH a b = a ++ b := by
  induction a with
  | nil=>rfl
  | cons x a ih=>exact congrArg (x :: ·) ih
theorem adn {n : Nat} {o : Option (List Nat)} {l : List Nat} (h : chkO n o = some l) : o = some l ∧ l.length = n := by
  cases o with
  | none=>cases h
  | some a=>
    have h' : (Bool.rec (motive := fun _=>Option (List Nat)) none (some a) (Nat.beq a.length n) : Option (List Nat)) = some l := h
    rw [da] at h'
    split at h'
    · rename_i hb; rw [aC] at hb; cases h'; exact ⟨rfl,hb⟩
    · cases h'
def mz (l : List Nat) (xs : Array Value) (o : Nat) : Prop := ∀ i c,l[i]? = some c → ∃ v,xs[o + i]? = some v ∧ yF c v
theorem mz.left {a b : List Nat} {xs : Array Value} {o : Nat} (h : mz (a ++ b) xs o) : mz a xs o := fun i c hc=>h i c (by
  obtain ⟨hi,_⟩ := List.getElem?_eq_some_iff.1 hc
  rw [List.getElem?_append_left hi]; exact hc)
theorem mz.right {a b : List Nat} {xs : Array Value} {o : Nat} (h : mz (a ++ b) xs o) : mz b xs (o + a.length) := fun i c hc=>by
  obtain ⟨v,h1,h2⟩ := h (a.length + i) c (by rw [List.getElem?_append_right (by omega),Nat.add_sub_cancel_left]; exact hc)
  exact ⟨v,by rw [Nat.add_assoc]; exact h1,h2⟩
def a6w (xs ys : Array Value) (o n : Nat) : Prop := ∀ i,i < n → xs[o + i]? = ys[o + i]?
theorem sT {xs ys : Array Value} {o n m : Nat} : a6w xs ys o (n + m) ↔ a6w xs ys o n ∧ a6w xs ys (o + n) m :=
  ⟨fun h=>⟨fun i hi=>h i (by omega),fun i hi=>by rw [Nat.add_assoc]; exact h (n + i) (by omega)⟩,fun ⟨h1,h2⟩ i hi=>by
    by_cases e : i < n
    · exact h1 i e
    · have := h2 (i - n) (by omega)
      rw [show o + n + (i - n) = o + i by omega] at this; exact this⟩
def ab1 (P : Program) (t : TypeId) (l : List Nat) (D : Nat) : Prop :=
  l.length = ba P t ∧ (∃ d i,dN P t = some d ∧ eP P t = some i) ∧
  (isAgg P t = false → ∃ c,l = [c] ∧ ∀ w v v',yF c v → yF c v' → ∃ r,(Op.equalIn D t v v').run P w = .ok r w ∧ (r = true ↔ v = v')) ∧
  (isAgg P t = true → ∀ w xs ys,mz l xs 0 → mz l ys 0 → ∃ r,(Op.equalIn D t (.agg xs) (.agg ys)).run P w = .ok r w ∧ (r = true ↔ a6w xs ys 0 l.length))
theorem ab1.part {t : TypeId} {l : List Nat} {D : Nat} (h : ab1 P t l D) (w : World) {xs ys : Array Value} {o : Nat} (hx : mz l xs o) (hy : mz l ys o) :
    ∃ a b r,(part t xs o).run P w = .ok a w ∧ (part t ys o).run P w = .ok b w ∧ (Op.equalIn D t a b).run P w = .ok r w ∧ (r = true ↔ a6w xs ys o l.length) := by
  obtain ⟨hl,⟨d,i,hd,hi⟩,hA,hB⟩ := h
  cases hag : isAgg P t with
  | false=>
    obtain ⟨c,rfl,hc⟩ := hA hag
    obtain ⟨v,hv,kv⟩ := hx 0 c rfl
    obtain ⟨v',hv',kv'⟩ := hy 0 c rfl
    obtain ⟨r,h1,h2⟩ := hc w v v' kv kv'
    rw [Nat.add_zero] at hv hv'
    have run : ∀ {zs : Array Value} {z : Value},zs[o]? = some z → (Go.part t zs o).run P w = .ok z w := fun hz=>by
      unfold Go.part
      rw [Sem.run_bind,uC hag ⟨i,hi⟩ w ⟨d,hd⟩]
      simp [hz]
    refine ⟨v,v',r,run hv,run hv',h1,h2.trans ⟨fun e j hj=>?_,fun e=>?_⟩⟩
    · have : j = 0 := by simp at hj; exact hj
      subst this
      rw [Nat.add_zero,hv,hv',e]
    · have := e 0 (by simp)
      rw [Nat.add_zero,hv,hv'] at this
      exact Option.some.inj this
  | true=>
    have run : ∀ zs : Array Value,(Go.part t zs o).run P w = .ok (.agg (zs.extract o (o + l.length))) w := fun zs=>by
      obtain ⟨d',hd',hrow,_⟩ := qt hag
      have hagr : (Go.isAgg t).run P w = .ok true w := by
        unfold Go.isAgg
        rw [Sem.run_bind,vO hd']
        cases d' <;> first | rfl | cases hrow
      unfold Go.part
      rw [Sem.run_bind,hagr]
      simp [auS hi,hl]
    have ex : ∀ {zs : Array Value},mz l zs o → ∀ j,j < l.length → (zs.extract o (o + l.length))[0 + j]? = zs[o + j]? := fun {zs} hz j hj=>by
      obtain ⟨v,hv,_⟩ := hz j l[j] (List.getElem?_eq_getElem hj)
      have hlt := (Array.getElem?_eq_some_iff.1 hv).1
      rw [Nat.zero_add,Array.getElem?_extract,if_pos (by omega)]
    have exK : ∀ {zs : Array Value},mz l zs o → mz l (zs.extract o (o + l.length)) 0 := fun {zs} hz j c hc=>by
      obtain ⟨v,hv,k⟩ := hz j c hc
      exact ⟨v,by rw [ex hz j (List.getElem?_eq_some_iff.1 hc).1]; exact hv,k⟩
    obtain ⟨r,h1,h2⟩ := hB hag w _ _ (exK hx) (exK hy)
    refine ⟨_,_,r,run xs,run ys,h1,h2.trans ⟨fun e j hj=>?_,fun e j hj=>?_⟩⟩
    · rw [← ex hx j hj,← ex hy j hj]; exact e j hj
    · rw [ex hx j hj,ex hy j hj]; exact e j hj
theorem zH (w : World) {D : Nat} {f : TypeId → Option (List Nat)} (hf : ∀ t l,f t = some l → ab1 P t l D) {xs ys : Array Value} : ∀ (fs : List Field) (o : Nat) (l : List Nat),gR f fs o = some l → mz l xs o → mz l ys o →
    ∃ r,(Op.eqFields D xs ys fs).run P w = .ok r w ∧ (r = true ↔ a6w xs ys o l.length)
  | [],o,l,h,_,_=>by
    have : l = [] := (Option.some.inj h).symm
    subst this
    exact ⟨true,by simp [Op.eqFields],⟨fun _ i hi=>absurd hi (Nat.not_lt_zero _),fun _=>rfl⟩⟩
  | x :: fs,o,l,h,hx,hy=>by
    have h' : (Bool.rec (motive := fun _=>Option (List Nat)) none (Option.rec (motive := fun _=>Option (List Nat)) none (fun a=>Option.rec (motive := fun _=>Option (List Nat)) none (fun b=>some (yH a b)) (gR f fs (o + a.length))) (f x.type)) (bp (Nat.beq x.offset o) (de (x.name == "_"))) : Option (List Nat)) = some l := h
    rw [da] at h'
    split at h'
    · rename_i hb
      rw [bR,aC,fq] at hb
      obtain ⟨ho,hn⟩ := hb
      cases ha : f x.type with
      | none=>rw [ha] at h'; cases h'
      | some a=>
        rw [ha] at h'
        have h2 : (Option.rec (motive := fun _=>Option (List Nat)) none (fun b=>some (yH a b)) (gR f fs (o + a.length)) : Option (List Nat)) = some l := h'
        cases hbb : gR f fs (o + a.length) with
        | none=>rw [hbb] at h2; cases h2
        | some b=>
          rw [hbb] at h2
          have : l = a ++ b := by rw [← a0I]; exact (Option.some.inj h2).symm
          subst this
          obtain ⟨va,vb,r,p1,p2,p3,p4⟩ := (hf _ _ ha).part w hx.left hy.left
          obtain ⟨r',q1,q2⟩ := zH w hf fs (o + a.length) b hbb hx.right hy.right
          have hn' : x.name ≠ "_" := by simpa using hn
          subst ho
          rw [List.length_append]
          cases r with
          | false=>
            refine ⟨false, ?_, ?_⟩
            · simp [Op.eqFields,hn',Sem.run_bind,p1,p2,p3]
            · rw [sT]
              exact ⟨fun e=>Bool.noConfusion e,fun e=>p4.2 e.1⟩
          | true=>
            refine ⟨r', ?_, ?_⟩
            · simp [Op.eqFields,hn',Sem.run_bind,p1,p2,p3,q1]
            · rw [sT,q2]
              exact ⟨fun e=>⟨p4.1 rfl,e⟩,fun e=>e.2⟩
    · cases h'
theorem a0o (n : Nat) (a : List Nat) : a1K (n + 1) a = a ++ a1K n a := a0I _ _
theorem a4f (w : World) {D : Nat} {e : TypeId} {a : List Nat} (h : ab1 P e a D) {xs ys : Array Value} : ∀ (n s : Nat),mz (a1K n a) xs (s * a.length) → mz (a1K n a) ys (s * a.length) →
    ∃ r,(Op.eqItems D e a.length xs ys (List.range' s n)).run P w = .ok r w ∧ (r = true ↔ a6w xs ys (s * a.length) (a1K n a).length)
  | 0,s,_,_=>⟨true,by simp [Op.eqItems],⟨fun _ i hi=>absurd hi (Nat.not_lt_zero _),fun _=>rfl⟩⟩
  | n + 1,s,hx,hy=>by
    rw [a0o] at hx hy
    obtain ⟨va,vb,r,p1,p2,p3,p4⟩ := h.part w hx.left hy.left
    have e1 : s * a.length + a.length = (s + 1) * a.length := by rw [Nat.add_mul,Nat.one_mul]
    obtain ⟨r',q1,q2⟩ := a4f w h n (s + 1) (by rw [← e1]; exact hx.right) (by rw [← e1]; exact hy.right)
    rw [a0o,List.length_append,List.range'_succ]
    cases r with
    | false=>
      refine ⟨false, ?_, ?_⟩
      · simp [Op.eqItems,Sem.run_bind,p1,p2,p3]
      · rw [sT]
        exact ⟨fun e=>Bool.noConfusion e,fun e=>p4.2 e.1⟩
    | true=>
      refine ⟨r', ?_, ?_⟩
      · simp [Op.eqItems,Sem.run_bind,p1,p2,p3,q1]
      · rw [sT,e1,q2]
        exact ⟨fun e=>⟨p4.1 rfl,e⟩,fun e=>e.2⟩
theorem aeA {t : TypeId} {d : TypeDesc} (h : dN P t = some d) : ∃ i,eP P t = some i := let ⟨_,i,_,h2⟩ := aB h; ⟨i,h2⟩
theorem a15 : ∀ (d : Nat) (t : TypeId) (l : List Nat),nO P d t = some l → ∀ D,ab1 P t l (d + D) ∧ P.eqGuardType (d + D) t = false
  | 0,t,l,h,D=>by cases h
  | d + 1, t, l, h, D => by
    have ih := a15 d
    obtain ⟨h,hl⟩ := adn (o := (match dN P t with
      | some .bool=>some [0]
      | some .string=>some [1]
      | some (.int q)=>some [kc q + 2]
      | some (.struct fs)=>Bool.rec (motive := fun _=>Option (List Nat)) none (gR (nO P d) fs.toList 0) (de (P.stoodInHeld t))
      | some (.array n e)=>Option.rec (motive := fun _=>Option (List Nat)) none (fun a=>some (a1K n a)) (nO P d e)
      | _=>none)) h
    rw [show d + 1 + D = (d + D) + 1 by omega]
    cases hu : dN P t with
    | none=>rw [hu] at h; cases h
    | some ds =>
      have hU := (aB hu).1
      obtain ⟨i,hi⟩ := aeA hu
      rw [hu] at h
      have cell : isAgg P t = false → ∀ c,l = [c] → (∀ w v v',yF c v → yF c v' → ∃ r,(Op.equalIn (d + D + 1) t v v').run P w = .ok r w ∧ (r = true ↔ v = v')) → ab1 P t l (d + D + 1) := fun hag c hlc hc=>
        ⟨hl,⟨_,i,hu,hi⟩,fun _=>⟨c,hlc,hc⟩,fun e=>by rw [hag] at e; cases e⟩
      have hisA : ∀ b : Bool,(match some ds with | some (.struct _) | some (.array ..)=>true | _=>false) = b → isAgg P t = b := fun b e=>by
        unfold isAgg; rw [hu]; exact e
      cases ds with
      | bool=>
        refine ⟨cell (hisA _ rfl) 0 (Option.some.inj h).symm fun w v v' hv hv'=>?_,by simp [Program.eqGuardType,hU]⟩
        obtain ⟨x,rfl⟩ := hv
        obtain ⟨y,rfl⟩ := hv'
        exact ⟨_,run_equalIn_bool w _ t x y hU,by simp⟩
      | string=>
        refine ⟨cell (hisA _ rfl) 1 (Option.some.inj h).symm fun w v v' hv hv'=>?_,by simp [Program.eqGuardType,hU]⟩
        obtain ⟨x,rfl⟩ := hv
        obtain ⟨y,rfl⟩ := hv'
        exact ⟨_,run_equalIn_string w _ t x y hU,by rw [ry]; simp⟩
      | int q=>
        refine ⟨cell (hisA _ rfl) (kc q + 2) (Option.some.inj h).symm fun w v v' hv hv'=>?_,by simp [Program.eqGuardType,hU]⟩
        obtain ⟨x,rfl⟩ := hv
        obtain ⟨y,rfl⟩ := hv'
        exact ⟨_,run_equalIn_int w _ t _ q x y hU,by simp⟩
      | struct fs =>
        have h' : (Bool.rec (motive := fun _=>Option (List Nat)) none (gR (nO P d) fs.toList 0) (de (P.stoodInHeld t)) : Option (List Nat)) = some l := h
        rw [da] at h'
        split at h'
        · rename_i hb
          rw [fq,Bool.not_eq_true'] at hb
          have hfs : P.fieldsOf t = fs := by simp [Program.fieldsOf,hU]
          refine ⟨⟨hl,⟨_,i,hu,hi⟩,fun e=>by rw [hisA true rfl] at e; exact Bool.noConfusion e,fun _ w xs ys hx hy=>?_⟩, ?_⟩
          · rw [run_equalIn_struct w (d + D) t xs ys (by rw [hfs]; exact hU) hb,hfs]
            exact zH w (fun t l h=>(ih t l h D).1) fs.toList 0 l h' hx hy
          · have key : ∀ (gs : List Field) (o : Nat) (l : List Nat),gR (nO P d) gs o = some l → ∀ f ∈ gs,P.eqGuardType (d + D) f.type = false := by
              intro gs
              induction gs with
              | nil=>intro _ _ _ f hf; cases hf
              | cons x gs ihg=>
                intro o l h f hf
                have h' : (Bool.rec (motive := fun _=>Option (List Nat)) none (Option.rec (motive := fun _=>Option (List Nat)) none (fun a=>Option.rec (motive := fun _=>Option (List Nat)) none (fun b=>some (yH a b)) (gR (nO P d) gs (o + a.length))) (nO P d x.type)) (bp (Nat.beq x.offset o) (de (x.name == "_"))) : Option (List Nat)) = some l := h
                rw [da] at h'
                split at h'
                · cases ha : nO P d x.type with
                  | none=>rw [ha] at h'; cases h'
                  | some a=>
                    rw [ha] at h'
                    have h2 : (Option.rec (motive := fun _=>Option (List Nat)) none (fun b=>some (yH a b)) (gR (nO P d) gs (o + a.length)) : Option (List Nat)) = some l := h'
                    cases hbb : gR (nO P d) gs (o + a.length) with
                    | none=>rw [hbb] at h2; cases h2
                    | some b=>
                      rcases List.mem_cons.1 hf with rfl | hf
                      · exact (ih _ _ ha D).2
                      · exact ihg _ _ hbb f hf
                · cases h'
            simp only [Program.eqGuardType,hU]
            rw [Array.any_eq_false]
            intro j hj
            have := key fs.toList 0 l h' fs[j] (by simp)
            simp [this]
        · cases h'
      | array n e=>
        have h' : (Option.rec (motive := fun _=>Option (List Nat)) none (fun a=>some (a1K n a)) (nO P d e) : Option (List Nat)) = some l := h
        cases ha : nO P d e with
        | none=>rw [ha] at h'; cases h'
        | some a=>
          rw [ha] at h'
          have : l = a1K n a := (Option.some.inj h').symm
          subst this
          obtain ⟨hea,hg⟩ := ih e a ha D
          obtain ⟨he1,⟨d',ie,he2,he3⟩,_,_⟩ := hea
          refine ⟨⟨hl,⟨_,i,hu,hi⟩,fun e=>by rw [hisA true rfl] at e; exact Bool.noConfusion e,fun _ w xs ys hx hy=>?_⟩, ?_⟩
          · rw [run_equalIn_array w (d + D) xs ys hU (dP he3)]
            have hc : P.cellsOf e = a.length := by rw [he1,dA he3]; simp [Program.cellsOf,dP he3]
            rw [hc,List.range_eq_range']
            have := a4f w (ih e a ha D).1 (xs := xs) (ys := ys) n 0 (by rw [Nat.zero_mul]; exact hx) (by rw [Nat.zero_mul]; exact hy)
            rw [Nat.zero_mul] at this
            exact this
          · simp only [Program.eqGuardType,hU]; exact hg
      | _=>cases h
end
def dc (q : Nat) (x : Bool) (u : Value) : Prop := match q,x with
  | 0,true=>u = .pointer none
  | 0,false=>∃ a,u = .pointer (some a)
  | 1,true=>u = .slice none 0 0
  | 1,false=>∃ a n c,u = .slice (some a) n c
  | 2,true=>u = .nilFunc
  | 2,false=>∃ f a b,u = .func f a b
  | 3,true=>u = .map none
  | 3,false=>∃ m,u = .map (some m)
  | _,true=>u = .nilIface
  | _,false=>∃ t v,u = .iface t v
section
variable {R : ab} (hR : R ≠ .fail)
include hR
theorem sD {q : Nat} (hq : q < 5) {v : AV} {k : Bool → ab} (g : a7P q v k = R) : ∃ x,k x = R ∧ ∀ {w : World} {F : Nat → Prop} {μ : Mu} {u : Value},ai w F μ v u → dc q x u := by
  cases v with
  | int=>exact ah hR g
  | bool=>exact ah hR g
  | str=>exact ah hR g
  | ptr b o=>
    obtain ⟨h,g2⟩ := an hR g
    rw [aC] at h; subst h
    exact ⟨false,g2,fun hc=>by obtain ⟨m,_,rfl⟩ := jI hc; exact ⟨_,rfl⟩⟩
  | ms b o n z=>
    obtain ⟨h,g2⟩ := an hR g
    rw [aC] at h; subst h
    exact ⟨false,g2,fun hc=>by cases hc <;> exact ⟨_,_,_,rfl⟩⟩
  | vs t o n z=>
    obtain ⟨h,g2⟩ := an hR g
    rw [aC] at h; subst h
    exact ⟨false,g2,fun hc=>by cases hc <;> exact ⟨_,_,_,rfl⟩⟩
  | agg=>exact ah hR g
  | bu=>exact ah hR g
  | x i t a b c=>
    have g' : when (Nat.beq i (Nat.add q 7)) (k true) (au (nilX q i) (k false)) = R := g
    rcases aK hR g' with ⟨h,g2⟩ | ⟨_,g2⟩
    · rw [aC] at h; subst h
      refine ⟨true,g2,fun hc=>?_⟩
      match q,hq with
      | 0,_=>cases hc; rfl
      | 1,_=>cases hc; rfl
      | 2,_=>cases hc; rfl
      | 3,_=>cases hc; rfl
      | 4,_=>cases hc; rfl
    · obtain ⟨h,g2⟩ := an hR g2
      refine ⟨false,g2,fun hc=>?_⟩
      match q,hq with
      | 0,_=>
        have h : Nat.beq i 1 = true := h
        rw [aC] at h; subst h; cases hc; exact ⟨_,rfl⟩
      | 1,_=>
        have h : Nat.beq i 6 = true := h
        rw [aC] at h; subst h; cases hc; exact ⟨_,_,_,rfl⟩
      | 2,_=>
        have h : (Nat.beq i 3 || Nat.beq i 5) = true := h
        rw [Bool.or_eq_true,aC,aC] at h
        rcases h with rfl | rfl <;> cases hc <;> exact ⟨_,_,_,rfl⟩
      | 3,_=>
        have h : Nat.beq i 4 = true := h
        rw [aC] at h; subst h; cases hc; exact ⟨_,rfl⟩
      | 4,_=>
        have h : Nat.beq i 12 = true := h
        rw [aC] at h; subst h; cases hc; exact ⟨_,_,rfl⟩
end
section
variable {P : Program} {R : ab} (hR : R ≠ .fail)
theorem oT {op : BinOp} {t : TypeId} {x y : Operand} {u v : Value} (w : World) (h1 : ¬ (u = .nilIface ∧ v = .nilIface)) (h2 : ∀ cs ds,u = .agg cs → v = .agg ds → P.eqGuardType P.depth t = false) : (eqGuard op t x y u v).run P w = .ok () w := by
  unfold eqGuard
  cases op <;> first
    | rfl
    | (simp only [Bool.not_true,Bool.false_eq_true,if_false]
       split
       · exact absurd ⟨rfl,rfl⟩ h1
       · rename_i cs ds
         simp [h2 cs ds rfl rfl]
       · rfl)
def a0J (op : BinOp) (t : TypeId) (x y : Operand) (u v : Value) : Sem Value := do eqGuard op t x y u v; binOp op t u v
theorem nZ {op : BinOp} {t : TypeId} {x y : Operand} {u v : Value} {w : World} (h : (eqGuard op t x y u v).run P w = .ok () w) : (a0J op t x y u v).run P w = (binOp op t u v).run P w := by
  unfold a0J; rw [Sem.run_bind,h]; rfl
theorem a98 {t : TypeId} {u v : Value} {w : World} {r : Bool} (h : (Op.equal t u v).run P w = .ok r w) (h1 : ∀ k n,u ≠ .int k n) (h2 : ∀ s,u ≠ .string s) (h3 : ∀ k n,u ≠ .float k n) (h4 : ∀ k n m,u ≠ .complex k n m) :
    (binOp .eql t u v).run P w = .ok (.bool r) w ∧ (binOp .neq t u v).run P w = .ok (.bool (!r)) w := by
  constructor <;> unfold binOp <;> split <;> first | (exact absurd rfl (h1 _ _)) | (exact absurd rfl (h2 _)) | (exact absurd rfl (h3 _ _)) | (exact absurd rfl (h4 _ _ _)) | (simp [h,Sem.run_bind]; done) | simp_all
theorem abo (P : Program) : ∃ D,P.depth = 20 + D := ⟨P.depth - 20,by unfold Program.depth Made.depth; omega⟩
theorem aje (D : Nat) {t : TypeId} {e : TypeId} (hU : P.underlying t = some (.pointer e)) {w : World} {x y : Bool} {u v : Value} (hxy : x = true ∨ y = true) (hx : dc 0 x u) (hy : dc 0 y v) : (Op.equalIn (D + 1) t u v).run P w = .ok (x && y) w := by
  cases x <;> cases y <;> simp only [dc] at hx hy
  · simp at hxy
  · obtain ⟨_,rfl⟩ := hx; subst hy
    simp [Op.equalIn,run_underlying hU]
  · obtain ⟨_,rfl⟩ := hy; subst hx
    simp [Op.equalIn,run_underlying hU]
  · subst hx; subst hy
    simp [Op.equalIn,run_underlying hU]
theorem afR (x : Bool) (u : Value) (hx : dc 0 x u) : ((∀ k n,u ≠ .int k n) ∧ (∀ s,u ≠ .string s) ∧ (∀ k n,u ≠ .float k n) ∧ (∀ k n m,u ≠ .complex k n m)) ∧ u ≠ .nilIface ∧ ∀ cs,u ≠ .agg cs := by
  cases x <;> simp only [dc] at hx
  · obtain ⟨_,rfl⟩ := hx; simp
  · subst hx; simp
theorem abt (D : Nat) {t : TypeId} {e : TypeId} (hU : P.underlying t = some (.slice e)) {w : World} {x y : Bool} {u v : Value} (hxy : x = true ∨ y = true) (hx : dc 1 x u) (hy : dc 1 y v) : (Op.equalIn (D + 1) t u v).run P w = .ok (x && y) w := by
  cases x <;> cases y <;> simp only [dc] at hx hy
  · simp at hxy
  · obtain ⟨_,_,_,rfl⟩ := hx; subst hy
    simp [Op.equalIn,run_underlying hU]
  · obtain ⟨_,_,_,rfl⟩ := hy; subst hx
    simp [Op.equalIn,run_underlying hU]
  · subst hx; subst hy
    simp [Op.equalIn,run_underlying hU]
theorem a7Q (x : Bool) (u : Value) (hx : dc 1 x u) : ((∀ k n,u ≠ .int k n) ∧ (∀ s,u ≠ .string s) ∧ (∀ k n,u ≠ .float k n) ∧ (∀ k n m,u ≠ .complex k n m)) ∧ u ≠ .nilIface ∧ ∀ cs,u ≠ .agg cs := by
  cases x <;> simp only [dc] at hx
  · obtain ⟨_,_,_,rfl⟩ := hx; simp
  · subst hx; simp
theorem ae7 (D : Nat) {t : TypeId} {e e1 e2} (hU : P.underlying t = some (.func e e1 e2)) {w : World} {x y : Bool} {u v : Value} (hxy : x = true ∨ y = true) (hx : dc 2 x u) (hy : dc 2 y v) : (Op.equalIn (D + 1) t u v).run P w = .ok (x && y) w := by
  cases x <;> cases y <;> simp only [dc] at hx hy
  · simp at hxy
  · obtain ⟨_,_,_,rfl⟩ := hx; subst hy
    simp [Op.equalIn,run_underlying hU]
  · obtain ⟨_,_,_,rfl⟩ := hy; subst hx
    simp [Op.equalIn,run_underlying hU]
  · subst hx; subst hy
    simp [Op.equalIn,run_underlying hU]
theorem acd (x : Bool) (u : Value) (hx : dc 2 x u) : ((∀ k n,u ≠ .int k n) ∧ (∀ s,u ≠ .string s) ∧ (∀ k n,u ≠ .float k n) ∧ (∀ k n m,u ≠ .complex k n m)) ∧ u ≠ .nilIface ∧ ∀ cs,u ≠ .agg cs := by
  cases x <;> simp only [dc] at hx
  · obtain ⟨_,_,_,rfl⟩ := hx; simp
  · subst hx; simp
theorem ajd (D : Nat) {t : TypeId} {e e1 : TypeId} (hU : P.underlying t = some (.map e e1)) {w : World} {x y : Bool} {u v : Value} (hxy : x = true ∨ y = true) (hx : dc 3 x u) (hy : dc 3 y v) : (Op.equalIn (D + 1) t u v).run P w = .ok (x && y) w := by
  cases x <;> cases y <;> simp only [dc] at hx hy
  · simp at hxy
  · obtain ⟨_,rfl⟩ := hx; subst hy
    simp [Op.equalIn,run_underlying hU]
  · obtain ⟨_,rfl⟩ := hy; subst hx
    simp [Op.equalIn,run_underlying hU]
  · subst hx; subst hy
    simp [Op.equalIn,run_underlying hU]
theorem afQ (x : Bool) (u : Value) (hx : dc 3 x u) : ((∀ k n,u ≠ .int k n) ∧ (∀ s,u ≠ .string s) ∧ (∀ k n,u ≠ .float k n) ∧ (∀ k n m,u ≠ .complex k n m)) ∧ u ≠ .nilIface ∧ ∀ cs,u ≠ .agg cs := by
  cases x <;> simp only [dc] at hx
  · obtain ⟨_,rfl⟩ := hx; simp
  · subst hx; simp
def a8y (P : Program) (R : ab) (t : TypeId) (a b : AV) (k : Bool → ab) : Prop :=
  ∃ r,k r = R ∧ ∀ {w : World} {F : Nat → Prop} {μ : Mu} {u v : Value},ai w F μ a u → ai w F μ b v → (Op.equal t u v).run P w = .ok r w ∧ ((∀ k n,u ≠ .int k n) ∧ (∀ s,u ≠ .string s) ∧ (∀ k n,u ≠ .float k n) ∧ (∀ k n m,u ≠ .complex k n m)) ∧
      ¬ (u = .nilIface ∧ v = .nilIface) ∧ ∀ cs ds,u = .agg cs → v = .agg ds → P.eqGuardType P.depth t = false
include hR in
theorem ajc {t : TypeId} {a b : AV} {k : Bool → ab} (g : eqV (ow P t) a b k = R) :
    a8y P R t a b k := by
  have nil : ∀ q,q < 4 → eqV (.nil q) a b k = R → (∀ {w : World} {x y : Bool} {u v : Value},(x = true ∨ y = true) → dc q x u → dc q y v → (Op.equal t u v).run P w = .ok (x && y) w) →
      (∀ x u,dc q x u → ((∀ k n,u ≠ .int k n) ∧ (∀ s,u ≠ .string s) ∧ (∀ k n,u ≠ .float k n) ∧ (∀ k n m,u ≠ .complex k n m)) ∧ u ≠ .nilIface ∧ ∀ cs,u ≠ .agg cs) →
      a8y P R t a b k := by
    intro q hq g he hs
    obtain ⟨x,g1,h1⟩ := sD hR (Nat.lt_succ_of_lt hq) (show a7P q a (fun x=>a7P q b fun y=>(Bool.rec (motive := fun _=>ab) (au y (k false)) (iF y k) x : ab)) = R from g)
    obtain ⟨y,g2,h2⟩ := sD hR (Nat.lt_succ_of_lt hq) g1
    have fin : ∀ r,r = (x && y) → (x = true ∨ y = true) → k r = R → a8y P R t a b k := fun r hr hxy g=>⟨r,g,fun {w F μ u v} ha hb=>by
      have hn := hs x u (h1 ha)
      exact ⟨hr ▸ he hxy (h1 ha) (h2 hb),hn.1,fun e=>hn.2.1 e.1,fun cs ds e=>absurd e (hn.2.2 cs)⟩⟩
    cases x with
    | true=>
      have g2' : iF y k = R := g2
      rw [jT] at g2'
      exact fin y (by simp) (.inl rfl) g2'
    | false=>
      obtain ⟨hy,g3⟩ := an hR (show au y (k false) = R from g2)
      subst hy
      exact fin false rfl (.inr rfl) g3
  unfold ow at g
  cases hu : dN P t with
  | none=>rw [hu] at g; exact ah hR g
  | some d=>
    have hU := (aB hu).1
    rw [hu] at g
    have aggs : (Option.rec (motive := fun _=>EqP) .no (fun l=>.cells l) (nO P 20 t) : EqP) = .no ∨ (∃ l,nO P 20 t = some l ∧ (Option.rec (motive := fun _=>EqP) .no (fun l=>.cells l) (nO P 20 t) : EqP) = .cells l) := by
      cases nO P 20 t with
      | none=>exact .inl rfl
      | some l=>exact .inr ⟨l,rfl,rfl⟩
    have agg : isAgg P t = true → eqV (Option.rec (motive := fun _=>EqP) .no (fun l=>.cells l) (nO P 20 t)) a b k = R → a8y P R t a b k := fun hag g=>by
      rcases aggs with e | ⟨l,hl,e⟩
      · rw [e] at g; exact ah hR g
      · rw [e] at g
        obtain ⟨tl,m,rfl,g1⟩ := fS hR g
        obtain ⟨ul,n,rfl,g2⟩ := fS hR g1
        obtain ⟨hm,g3⟩ := an hR g2
        obtain ⟨hn,g4⟩ := an hR g3
        rw [aC] at hm hn
        obtain ⟨r,g5,h5⟩ := a99 hR g4
        refine ⟨r,g5,fun {w F μ u v} ha hb=>?_⟩
        cases ha with
        | @agg _ _ _ cs us hs hu1 h1 h=>
          cases hb with
          | @agg _ _ _ ds vs hs' hu1' h1' h'=>
            obtain ⟨q1,q2⟩ := h5 (us := us) (vs := vs) fun i hi=>⟨h i (by omega),h' i (by omega)⟩
            have hk : mz l cs 0 := fun i c hc=>⟨us i,by rw [Nat.zero_add]; exact hu1 i (by have := (List.getElem?_eq_some_iff.1 hc).1; omega),(q1 i c hc).1⟩
            have hk' : mz l ds 0 := fun i c hc=>⟨vs i,by rw [Nat.zero_add]; exact hu1' i (by have := (List.getElem?_eq_some_iff.1 hc).1; omega),(q1 i c hc).2⟩
            obtain ⟨r',p1,p2⟩ := (a15 20 t l hl 9980).1.2.2.2 hag w cs ds hk hk'
            have hrr : r' = r := by
              have : r' = true ↔ r = true := by
                rw [p2,q2]
                refine ⟨fun e i hi=>?_,fun e i hi=>?_⟩
                · have := e i hi
                  rw [Nat.zero_add,hu1 i (by omega),hu1' i (by omega)] at this
                  exact Option.some.inj this
                · rw [Nat.zero_add,hu1 i (by omega),hu1' i (by omega),e i hi]
              cases r <;> cases r' <;> simp_all
            subst hrr
            obtain ⟨D,hD⟩ := abo P
            exact ⟨p1,⟨fun _ _=>by simp,fun _=>by simp,fun _ _=>by simp,fun _ _ _=>by simp⟩,fun e=>by simp at e,fun _ _ _ _=>by rw [hD]; exact (a15 20 t l hl D).2⟩
    cases d with
    | bool=>
      obtain ⟨r,g1,h1⟩ := qo (c := 0) hR (show og 0 a b k = R from g)
      refine ⟨r,g1,fun {w F μ u v} ha hb=>?_⟩
      obtain ⟨⟨x,rfl⟩,⟨y,rfl⟩,h3⟩ := h1 ha hb
      refine ⟨?_,⟨fun _ _=>by simp,fun _=>by simp,fun _ _=>by simp,fun _ _ _=>by simp⟩,fun e=>by simp at e,fun _ _ e=>by simp at e⟩
      have := run_equalIn_bool w 9999 t x y hU
      have e : (x == y) = r := by
        cases r <;> simp_all
      rw [e] at this; exact this
    | pointer e=>exact nil 0 (by omega) g (fun hxy hx hy=>aje 9999 hU hxy hx hy) afR
    | slice e=>exact nil 1 (by omega) g (fun hxy hx hy=>abt 9999 hU hxy hx hy) a7Q
    | func a b c=>exact nil 2 (by omega) g (fun hxy hx hy=>ae7 9999 hU hxy hx hy) acd
    | map a b=>exact nil 3 (by omega) g (fun hxy hx hy=>ajd 9999 hU hxy hx hy) afQ
    | struct fs=>exact agg (by unfold isAgg; rw [hu]) g
    | array n e=>exact agg (by unfold isAgg; rw [hu]) g
    | _=>exact ah hR g
include hR in
theorem afU {t : TypeId} {op : BinOp} {x y : Operand} {a b : AV} {k : AV → ab} (g : (yX (ow P t) op).f a b k = R) : ∃ v,k v = R ∧ gf P (a0J op t x y) a b v := by
  have fin : ∀ (s : Bool → Bool),(op = .eql ∧ s = id ∨ op = .neq ∧ s = (!·)) → (eqV (ow P t) a b fun r=>k (.bool (s r))) = R → ∃ v,k v = R ∧ gf P (a0J op t x y) a b v := fun s hs g=>by
    obtain ⟨r,g1,h⟩ := ajc hR g
    refine ⟨_,g1,fun {w F μ u v} ha hb=>?_⟩
    obtain ⟨h1,⟨h2,h3,h4,h5⟩,h6,h7⟩ := h ha hb
    obtain ⟨e1,e2⟩ := a98 h1 h2 h3 h4 h5
    rw [nZ (oT w h6 h7)]
    rcases hs with ⟨rfl,rfl⟩ | ⟨rfl,rfl⟩
    · exact ⟨_,e1,.bool _⟩
    · exact ⟨_,e2,.bool _⟩
  cases op with
  | eql=>exact fin id (.inl ⟨rfl,rfl⟩) g
  | neq=>exact fin (!·) (.inr ⟨rfl,rfl⟩) (by
      have e : (fun r : Bool=>k (.bool (!r))) = fun r=>k (.bool (de r)) := funext fun r=>by rw [fq]
      rw [e]; exact g)
  | _=>exact ah hR g
theorem a4c {P : Program} {t : TypeId} (h : isIface P t = true) : ∃ ms,P.underlying t = some (.interface ms) := by
  unfold isIface at h
  split at h
  · rename_i ms hu; exact ⟨ms,(aB hu).1⟩
  · cases h
theorem abr (D : Nat) {P : Program} {t : TypeId} {ms : Array (String × TypeId)} (hU : P.underlying t = some (.interface ms)) {b : Bool} {u : Value} (hu : dc 4 b u) (w : World) : (Op.equalIn (D + 1) t u .nilIface).run P w = .ok b w := by
  cases b with
  | true=>
    have hu' : u = .nilIface := hu
    subst hu'
    simp [Op.equalIn,run_underlying hU]
  | false=>
    obtain ⟨tt,v,rfl⟩ : ∃ tt v,u = .iface tt v := hu
    simp [Op.equalIn,run_underlying hU]
theorem aip {t : TypeId} {x y : Operand} (hi : isIface P t = true) (hy : a1h y = true) {b : Bool} {u : Value} (hu : dc 4 b u) (w : World) :
    y = .const .nilIface ∧ (a0J .eql t x y u .nilIface).run P w = .ok (.bool b) w ∧ (a0J .neq t x y u .nilIface).run P w = .ok (.bool (!b)) w := by
  obtain ⟨ms,hU⟩ := a4c hi
  have e : y = .const .nilIface := by
    unfold a1h at hy
    split at hy
    · rfl
    · cases hy
  subst e
  have hg : ∀ op : BinOp,(eqGuard op t x (.const .nilIface) u .nilIface).run P w = .ok () w := fun op=>by
    unfold eqGuard
    cases b with
    | true=>
      have hu' : u = .nilIface := hu
      subst hu'
      cases op <;> simp
    | false=>
      obtain ⟨tt,v,rfl⟩ : ∃ tt v,u = .iface tt v := hu
      cases op <;> simp
  have he : (Op.equal t u .nilIface).run P w = .ok b w := abr 9999 hU hu w
  have hno : (∀ k n,u ≠ .int k n) ∧ (∀ s,u ≠ .string s) ∧ (∀ k n,u ≠ .float k n) ∧ ∀ k n m,u ≠ .complex k n m := by
    cases b with
    | true=>
      have hu' : u = .nilIface := hu
      subst hu'; simp
    | false=>
      obtain ⟨tt,v,rfl⟩ : ∃ tt v,u = .iface tt v := hu
      simp
  obtain ⟨e1,e2⟩ := a98 he hno.1 hno.2.1 hno.2.2.1 hno.2.2.2
  exact ⟨rfl,by rw [nZ (hg _)]; exact e1,by rw [nZ (hg _)]; exact e2⟩
include hR in
theorem aiq {t : TypeId} {op : BinOp} {x y : Operand} {a b : AV} {k : AV → ab} (g : (match dN P t with
    | some (.int ik)=>ar op (kc ik)
    | some .string=>gM op
    | _=>yX (ow P t) op : BK).f a b k = R) : ∃ v,k v = R ∧ gf P (a0J op t x y) a b v := by
  split at g
  · rename_i ik _
    obtain ⟨v,h1,g1⟩ := aev hR ik t g
    have hint : ∃ i n,a = .int i n := by
      cases ik <;> cases op <;> exact (let ⟨i,n,h,_⟩ := cF hR g; ⟨i,n,h⟩)
    obtain ⟨i,n,rfl⟩ := hint
    refine ⟨v,g1,fun {w F μ u u'} ha hb=>?_⟩
    have ha' := cY ha
    rw [nZ (oT w (fun e=>by rw [ha'.2] at e; simp at e) (fun cs ds e=>by rw [ha'.2] at e; cases e))]
    exact h1 ha hb
  · obtain ⟨v,h1,g1⟩ := ahg hR t g
    have hstr : ∃ i n,a = .str i n := by
      cases op <;> first | exact (let ⟨i,n,h,_⟩ := bW hR g; ⟨i,n,h⟩) | exact ah hR g
    obtain ⟨i,n,rfl⟩ := hstr
    refine ⟨v,g1,fun {w F μ u u'} ha hb=>?_⟩
    obtain ⟨s,hs,_⟩ := gT ha
    rw [nZ (oT w (fun e=>by rw [hs] at e; simp at e) (fun cs ds e=>by rw [hs] at e; cases e))]
    exact h1 ha hb
  · exact afU hR g
end
section
variable {P : Program} {R : ab} (hR : R ≠ .fail)
theorem ait (i : Nat) : BitVec.ofInt (kd i).bits (if (kd i).signed then -1 else (kd i).max) = BitVec.allOnes (kd i).bits := by
  generalize kd i = k
  cases k <;> decide
include hR in
theorem aiL {x : AV} {k : AV → ab} (g : (x.bO fun i n=>bQ i (Nat.sub (Nat.sub (md i) 1) n) k) = R) : ∃ v,k v = R ∧ pV P (Op.unary .xor) x v := by
  obtain ⟨i,n,rfl,g2⟩ := cF hR g
  rw [ew] at g2
  refine ⟨_,g2,fun {w F μ u} ha=>?_⟩
  obtain ⟨hn,rfl⟩ := cY ha
  have hx : (BitVec.allOnes (kd i).bits ^^^ BitVec.ofInt (kd i).bits (T i n)).toNat = md i - 1 - n := by
    rw [BitVec.allOnes_xor,BitVec.toNat_not,a0E i n hn,a1y,iU]
  obtain ⟨h1,h2⟩ := o5 hR i _ _ hx
  refine ⟨_, ?_,c7 h1⟩
  simp only [Op.unary,Op.intBits,ait,Sem.run_pure]
  exact congrArg (Result.ok · w) h2
include hR in
theorem ajO {x y : AV} {k : AV → ab} (ts : Array TypeId) (ty : TypeId) (g : (x.bO fun i m=>y.bO fun j n=>au (Nat.beq i j) (when (Nat.ble (Nat.mod (Nat.add m (hf i)) (md i)) (Nat.mod (Nat.add n (hf i)) (md i))) (k (.int i n)) (k (.int i m)))) = R) :
    ∃ v,k v = R ∧ gf P (fun u u'=>Builtin.max_ ts ty #[u,u']) x y v := by
  obtain ⟨i,m,rfl,g⟩ := cF hR g
  obtain ⟨j,n,rfl,g1⟩ := cF hR (show (y.bO fun j n=>au (Nat.beq i j) (when (Nat.ble (Nat.mod (Nat.add m (hf i)) (md i)) (Nat.mod (Nat.add n (hf i)) (md i))) (k (.int i n)) (k (.int i m)))) = R from g)
  obtain ⟨hij,g2⟩ := an hR g1
  rw [aC] at hij
  have hrun : ∀ (w : World) (a c : Int) (q q' : IntKind),(Builtin.max_ ts ty #[.int q a,.int q' c]).run P w = .ok (.int q (if c > a then c else a)) w := fun w a c q q'=>by
    simp [Builtin.max_,Builtin.max2]
  rcases aK hR g2 with ⟨hc,g3⟩ | ⟨hc,g3⟩
  · rw [bn] at hc
    refine ⟨_,g3,fun {w F μ u u'} ha hb=>?_⟩
    obtain ⟨h1,rfl⟩ := cY ha
    obtain ⟨h2,rfl⟩ := cY hb
    rw [← hij] at h2 ⊢
    refine ⟨_,hrun w _ _ _ _, ?_⟩
    have hle := (a2l i m n h1 h2).2 hc
    by_cases e : T i n > T i m
    · rw [if_pos e]; exact c7 h2
    · rw [if_neg e]
      have : T i m = T i n := by omega
      rw [this]; exact c7 h2
  · have hc' : ¬ (m + hf i) % md i ≤ (n + hf i) % md i := fun e=>by
      have e2 : Nat.ble (Nat.mod (Nat.add m (hf i)) (md i)) (Nat.mod (Nat.add n (hf i)) (md i)) = true := j1 e
      rw [e2] at hc; cases hc
    refine ⟨_,g3,fun {w F μ u u'} ha hb=>?_⟩
    obtain ⟨h1,rfl⟩ := cY ha
    obtain ⟨h2,rfl⟩ := cY hb
    rw [← hij] at h2 ⊢
    refine ⟨_,hrun w _ _ _ _, ?_⟩
    have := mt (a2l i m n h1 h2).1 hc'
    rw [if_neg (by omega)]; exact c7 h1
end
section
variable {V : Env} {M : Mem} (ok : cL M) {R : ab} (hR : R ≠ .fail)
include ok hR in
theorem a1S {t e : TypeId} {n : Nat} (ht : dN V.P t = some (.array n e)) {z : Nat} (hsz : ba V.P e = z) (hz : 1 ≤ z) {b o : Nat} {lo hi mx : Option AV} {hp : Hp} {k : AV → ab}
    (g : (hp.use M b (Nat.add o (Nat.mul n z)) fun _ _ _ _ _=>eS z (.ms b o n z) lo hi mx k) = R) :
    ∃ v,k v = R ∧ eM hp (.ptr b o) ∧ ∀ {w : World} {F : Nat → Prop} {μ : Mu} {u : Value} {a bb c : Option Value},ai w F μ (.ptr b o) u → dv w F μ lo a → dv w F μ hi bb → dv w F μ mx c → jk V w F μ hp (.ptr b o) →
      ∃ r,(Instr.sliceAt t u a bb c).run V.P w = .ok r w ∧ ai w F μ v r := by
  obtain ⟨rw',fl,z',s,tr,hB,hs,g1⟩ := lP ok hR g
  obtain ⟨_,g2⟩ := an hR (show au (Nat.beq z z) (bounds lo hi mx n fun l h e=>when e (k (.x 6 .lf 0 0 0)) (aL (Nat.add o (Nat.mul l z)) fun o=>aL (Nat.sub h l) fun n=>k (.ms b o n z))) = R from g1)
  obtain ⟨l,h,e',m,g3,hl,hh,h1,h2,b1,b2,b3,b4⟩ := iE hR g2
  have hs : o + n * z ≤ s := hs
  obtain ⟨i,_,hi',hsi⟩ := gZ (P := V.P) (t := e) (by omega)
  have hiz : i.size = z := by omega
  have hm : mx.isSome = true → h ≤ m ∧ m ≤ n := fun e=>⟨(h1 e).1,(h1 e).2.1⟩
  have live : eM hp (.ptr b o) := fun c hc=>by cases hc; rw [hB]; trivial
  have hsl : ∀ {w : World} {F : Nat → Prop} {μ : Mu} {ad : Addr} {a bb c : Option Value},dv w F μ lo a → dv w F μ hi bb → dv w F μ mx c →
      (Instr.sliceAt t (.pointer (some ad)) a bb c).run V.P w = .ok (.slice (some (if (if mx.isSome = true then m else n) = l then ad else ad.add (l * i.size))) (h - l) ((if mx.isSome = true then m else n) - l)) w := fun {w F μ ad a bb c} q1 q2 q3=>by
    have hb := iK (P := V.P) (s := false) q1 q2 q3 b1 b2 b3 b4 hl hh hm (Nat.le_refl n)
    simp [Instr.sliceAt,Instr.sureAddr,run_underlying (aB ht).1,hb,sizeOf,typeInfo,hi']
  have size : ∀ {w : World} {F : Nat → Prop} {μ : Mu} {mp : Mp},μ b = some mp → jk V w F μ hp (.ptr b o) → n * z = 0 ∨ mp.base + o + n * z ≤ mp.size := fun {w F μ mp} hmu hro=>by
    have hr := hro b rfl
    rw [hB] at hr
    obtain ⟨m',c,T,fz,p1,p2,p3,p4,_⟩ := hr
    rw [hmu] at p1; cases p1
    by_cases e0 : n * z = 0
    · exact .inl e0
    · obtain ⟨u,hu,_⟩ := p4 (o + n * z - 1) (by omega)
      have := (Array.getElem?_eq_some_iff.1 hu).1
      exact .inr (by omega)
  rcases aK hR g3 with ⟨he,g4⟩ | ⟨he,g4⟩
  · have hs : mx.isSome = true := by cases mx with
      | none=>rw [h2 rfl] at he; cases he
      | some _=>rfl
    have hml : m = l := by rw [← aC,← (h1 hs).2.2]; exact he
    refine ⟨_,g4,live,fun {w F μ u a bb c} ha q1 q2 q3 _=>?_⟩
    obtain ⟨mp,hmu,rfl⟩ := jI ha
    refine ⟨_,hsl q1 q2 q3, ?_⟩
    have := (h1 hs).1
    rw [if_pos hs,if_pos hml,show h - l = 0 by omega,show m - l = 0 by omega]
    exact .emp
  · rw [az,az] at g4
    refine ⟨_,g4,live,fun {w F μ u a bb c} ha q1 q2 q3 hro=>?_⟩
    obtain ⟨mp,hmu,rfl⟩ := jI ha
    refine ⟨_,hsl q1 q2 q3, ?_⟩
    have hM : h ≤ (if mx.isSome = true then m else n) ∧ (if mx.isSome = true then m else n) ≤ n := by
      by_cases hs : mx.isSome = true
      · rw [if_pos hs]; have := hm hs; omega
      · rw [if_neg hs]; omega
    generalize (if mx.isSome = true then m else n) = N at *
    by_cases e1 : N = l
    · rw [if_pos e1,show h - l = 0 by omega,show N - l = 0 by omega]
      show ai w F μ (.ms b (o + l * z) (h - l) z) _
      rw [show h - l = 0 by omega]; exact .ms0
    · rw [if_neg e1]
      show ai w F μ (.ms b (o + l * z) (h - l) z) (.slice (some ((⟨mp.bq,mp.base + o,none⟩ : Addr).add (l * i.size))) (h - l) (N - l))
      rw [Addr.add_mid,Nat.add_assoc,hiz]
      refine .ms hmu (by omega) ?_
      have h3 : (N - l) * z + l * z = N * z := by rw [← Nat.add_mul]; congr 1; omega
      have h4 : N * z ≤ n * z := Nat.mul_le_mul_right z hM.2
      rcases size hmu hro with h5 | h5
      · have : n = 0 := by
          rcases Nat.mul_eq_zero.1 h5 with h | h
          · exact h
          · omega
        omega
      · omega
include hR in
theorem z8 {t e : TypeId} {n : Nat} (ht : dN V.P t = some (.array n e)) {z : Nat} (hsz : ba V.P e = z) (hz : 1 ≤ z) {tt : Row} {o cc y : Nat} {lo hi mx : Option AV} {k : AV → ab}
    (g : (au (Nat.beq y z) (au (Nat.beq (Nat.mod o z) 0) (au (Nat.ble (Nat.mul n z) cc) (eS z (.vs tt (Nat.div o z) n z) lo hi mx k)))) = R) :
    ∃ v,k v = R ∧ a8A V.P (Instr.sliceAt t) (.x 1 tt o cc y) lo hi mx v := by
  obtain ⟨hy,g1⟩ := an hR g
  obtain ⟨ho,g1⟩ := an hR g1
  obtain ⟨hc,g1⟩ := an hR g1
  rw [aC] at hy ho
  rw [bn] at hc
  have ho : o % z = 0 := ho
  have hc : n * z ≤ cc := hc
  subst hy
  obtain ⟨_,g2⟩ := an hR (show au (Nat.beq y y) (bounds lo hi mx n fun l h e=>when e (k (.x 6 .lf 0 0 0)) (aL (Nat.add (Nat.div o y) l) fun o=>aL (Nat.sub h l) fun n=>k (.vs tt o n y))) = R from g1)
  obtain ⟨l,h,e',m,g3,hl,hh,h1,h2,b1,b2,b3,b4⟩ := iE hR g2
  obtain ⟨i,_,hi',hsi⟩ := gZ (P := V.P) (t := e) (by omega)
  have hiz : i.size = y := by omega
  have hoz : o / y * y = o := Nat.div_mul_cancel (Nat.dvd_of_mod_eq_zero ho)
  have hm : mx.isSome = true → h ≤ m ∧ m ≤ n := fun e=>⟨(h1 e).1,(h1 e).2.1⟩
  have hsl : ∀ {w : World} {F : Nat → Prop} {μ : Mu} {ad : Addr} {a bb c : Option Value},dv w F μ lo a → dv w F μ hi bb → dv w F μ mx c →
      (Instr.sliceAt t (.pointer (some ad)) a bb c).run V.P w = .ok (.slice (some (if (if mx.isSome = true then m else n) = l then ad else ad.add (l * i.size))) (h - l) ((if mx.isSome = true then m else n) - l)) w := fun {w F μ ad a bb c} q1 q2 q3=>by
    have hb := iK (P := V.P) (s := false) q1 q2 q3 b1 b2 b3 b4 hl hh hm (Nat.le_refl n)
    simp [Instr.sliceAt,Instr.sureAddr,run_underlying (aB ht).1,hb,sizeOf,typeInfo,hi']
  rcases aK hR g3 with ⟨he,g4⟩ | ⟨he,g4⟩
  · have hs : mx.isSome = true := by cases mx with
      | none=>rw [h2 rfl] at he; cases he
      | some _=>rfl
    have hml : m = l := by rw [← aC,← (h1 hs).2.2]; exact he
    refine ⟨_,g4,fun {w F μ u a bb c} ha q1 q2 q3=>?_⟩
    cases ha with
    | pg us hF hu ho1 hrel=>
      refine ⟨_,hsl q1 q2 q3, ?_⟩
      have := (h1 hs).1
      rw [if_pos hs,if_pos hml,show h - l = 0 by omega,show m - l = 0 by omega]
      exact .emp
  · rw [az,az] at g4
    refine ⟨_,g4,fun {w F μ u a bb c} ha q1 q2 q3=>?_⟩
    cases ha with
    | pg us hF hu ho1 hrel=>
      rename_i B off
      refine ⟨_,hsl q1 q2 q3, ?_⟩
      have hM : h ≤ (if mx.isSome = true then m else n) ∧ (if mx.isSome = true then m else n) ≤ n := by
        by_cases hs : mx.isSome = true
        · rw [if_pos hs]; have := hm hs; omega
        · rw [if_neg hs]; omega
      generalize (if mx.isSome = true then m else n) = N at *
      show ai w F μ (.vs tt (o / y + l) (h - l) y) _
      by_cases e1 : N = l
      · rw [if_pos e1,show h - l = 0 by omega,show N - l = 0 by omega]; exact .vs0
      · rw [if_neg e1]
        show ai w F μ (.vs tt (o / y + l) (h - l) y) (.slice (some ((⟨B,off,none⟩ : Addr).add (l * i.size))) (h - l) (N - l))
        rw [Addr.add_mid,hiz]
        have hlt : ∀ i,i < (h - l) * y → l * y + i < cc := fun i hi=>by
          have h3 : (h - l) * y + l * y = h * y := by rw [← Nat.add_mul]; congr 1; omega
          have h4 : h * y ≤ n * y := Nat.mul_le_mul_right y hh
          omega
        refine .vs (fun i=>us (l * y + i)) hF (by omega) (fun i hi=>?_) (fun i hi=>ho1 _ (hlt i hi)) fun i hi=>?_
        · rw [Nat.add_assoc]; exact hu _ (hlt i hi)
        · rw [Nat.add_mul,hoz,Nat.add_assoc]; exact hrel _ (hlt i hi)
include ok hR in
theorem a6U {ts : Array TypeId} {dT e ty : TypeId} (h0 : ts[0]? = some dT) (hu : dN V.P dT = some (.slice e)) (hz : 1 ≤ ba V.P e) (hzk : dY V.P e (ba V.P e) = true) {a : AV} {hp : Hp} {k : Hp → ab} (g : ado M (ba V.P e) (eT V.P e) a hp k = R) :
    ∃ hp',k hp' = R ∧ ∀ {w : World} {F : Nat → Prop} {μ : Mu} {u : Value},ai w F μ a u → aN V μ F hp w → gy V μ F hp w (Builtin.clear_ ts ty #[u]) hp' fun _ _ μ' r=>r = .tuple #[] ∧ μ' = μ := by
  obtain ⟨i,v,q1,q2,q3,q4,q5⟩ := fN hzk
  generalize hze : ba V.P e = z at hz hzk g q4 q5
  have hU := (aB hu).1
  have stay : ∀ {w : World} {ad : Option Addr} {c : Nat},(Builtin.clear_ ts ty #[.slice ad 0 c]).run V.P w = .ok (.tuple #[]) w := fun {w ad c}=>by
    cases ad <;> simp [Builtin.clear_,h0,run_underlying hU]
  rcases eV hR g with ⟨c,o,n,y,rfl,g⟩ | ⟨t,o,n,y,rfl,g⟩ | ⟨i',t,a',b',c,rfl,g⟩ | ⟨s,n,rfl,g⟩
  · obtain ⟨hy,g2⟩ := an hR g
    rw [aC] at hy; subst hy
    rcases aK hR g2 with ⟨h0',g3⟩ | ⟨h0',g3⟩
    · rw [aC] at h0'
      subst h0'
      refine ⟨_,g3,fun {w F μ u} ha H=>?_⟩
      cases ha <;> exact gy.stay H stay ⟨rfl,rfl⟩
    · have hn0 : ¬ n = 0 := fun e=>by rw [← aC] at e; rw [e] at h0'; cases h0'
      obtain ⟨fl,x',s,t,hB,hs,hpr,g4⟩ := oz ok hR g3
      obtain ⟨hx,g5⟩ := an hR g4
      rw [aC] at hx; subst hx
      obtain ⟨ho,g6⟩ := an hR g5
      rw [aC] at ho
      have ho : o % x' = 0 := ho
      obtain ⟨r,hr,g7⟩ := akb ok hR _ g6
      obtain ⟨hp',hset,_,g8⟩ := eu ok hR g7
      have hoz : Nat.div o x' * x' = o := Nat.div_mul_cancel (Nat.dvd_of_mod_eq_zero ho)
      have hx0 : 0 < x' := hz
      obtain ⟨hr1,hr2⟩ := abd hx0 hr
      rw [hoz] at hr1 hr2
      have hs : o + n * x' ≤ s := hs
      refine ⟨_,g8,fun {w F μ u} ha H=>?_⟩
      have hlen : (Builtin.zeroCells v.cells n).toList.length = n * x' := by rw [Array.length_toList,ig,q4]
      cases ha with
      | ms0=>exact absurd rfl hn0
      | ms hm hc hcs=>
        rename_i cc mm
        obtain ⟨hH,hE,hrun⟩ := H.write (o := o) (vs := (Builtin.zeroCells v.cells n).toList) (fl' := false) hB hpr hm (by rw [hlen]; exact hs) (fun j hj=>by
            rw [hlen] at hj
            obtain ⟨y,h1,h2,h3,_⟩ := q5 (j % x') (Nat.mod_lt _ (by omega))
            refine ⟨y, ?_,h2, ?_⟩
            · rw [Array.getElem?_toList]
              unfold Builtin.zeroCells
              rw [Array.getElem?_map,q4,Array.getElem?_range,if_pos hj]
              show some (v.cells[j % x']!) = some y
              rw [getElem!_def,h1]
            · rw [hr1 j hj]; exact h3 w F μ)
          (fun j hj hne=>hr2 j (by rw [← hlen]; exact hne)) (fun e=>Bool.noConfusion e) hset
        refine ⟨μ,F,_,_, ?_,⟨rfl,rfl⟩,hH,hE⟩
        cases n with
        | zero=>exact absurd rfl hn0
        | succ n=>
          simp [Builtin.clear_,h0,run_underlying hU,zeroValue,typeInfo,q2,q3,hrun]
  · exact ah hR g
  · obtain ⟨hg,g⟩ := an hR g
    rw [Bool.or_eq_true,aC,aC] at hg
    refine ⟨_,g,fun {w F μ u} ha H=>?_⟩
    rcases hg with rfl | rfl <;> cases ha <;> exact gy.stay H stay ⟨rfl,rfl⟩
  · exact ah hR g
include ok hR in
theorem afK {s e : TypeId} (hs : dN V.P s = some (.slice e)) (he : a4d V.P e = true) {a : AV} {hp : Hp} {k : AV → Hp → ab}
    (g : (a.eD (fun b _ n _=>au (Nat.ble 1 n) (hp.own M b 0 fun _ _ _ _=>k a hp)) (fun _ _ _ _=>.fail) (fun _=>.fail) (fun _ _=>.fail)) = R) :
    k a hp = R ∧ ∀ {w : World} {F : Nat → Prop} {μ : Mu} {u : Value},ai w F μ a u → aN V μ F hp w → gy V μ F hp w (convert s s u) hp fun w' F' μ' r=>ai w' F' μ' a r ∧ μ' = μ := by
  rcases eV hR g with ⟨b,o,n,y,rfl,g⟩ | ⟨t,o,n,y,rfl,g⟩ | ⟨i',t,a',b',c,rfl,g⟩ | ⟨s,n,rfl,g⟩
  · obtain ⟨hn,g2⟩ := an hR g
    rw [bn] at hn
    obtain ⟨fl,z,sz,t,hB,_,hpr,g3⟩ := oz ok hR g2
    refine ⟨g3,fun {w F μ u} ha H=>?_⟩
    cases ha with
    | ms0=>omega
    | @ms _ _ _ _ _ cap m hm hc hcs=>
      have hb := H.bq b
      rw [hB] at hb
      obtain ⟨m',c,T,fz,p1,p2,p3,p4,p5,p6,p7⟩ := hb
      rw [hm] at p1; cases p1
      have hshape : w.shape? m.bq = some (T,c.size) := by simp [World.shape?,p2]
      let fz' : Nat × Nat := if fz.1 = fz.2 then (c.size,c.size + 1) else (min fz.1 c.size,max fz.2 (c.size + 1))
      have hmod : (w.freeze ⟨m.bq,c.size,none⟩ 1).heap[m.bq]? = some (.cells c T fz') := by
        simp only [World.freeze,Nat.one_ne_zero,if_false,Array.getElem?_modify,p2,if_true,Option.map_some,fz']
        obtain ⟨f1,f2⟩ := fz
        simp only [beq_iff_eq]
      have hoth : ∀ X,X ≠ m.bq → (w.freeze ⟨m.bq,c.size,none⟩ 1).heap[X]? = w.heap[X]? := fun X hX=>by
        simp only [World.freeze,Nat.one_ne_zero,if_false,Array.getElem?_modify,if_neg (Ne.symm hX)]
      have hsz : (w.freeze ⟨m.bq,c.size,none⟩ 1).heap.size = w.heap.size := by
        simp only [World.freeze,Nat.one_ne_zero,if_false,Array.size_modify]
      have hwr : (hp.at b).wr := by rw [hB]; exact rfl
      have hF : ∀ X,F X → (w.freeze ⟨m.bq,c.size,none⟩ 1).heap[X]? = w.heap[X]? := fun X hX=>hoth X fun e=>(p6 rfl).2 (e ▸ hX)
      obtain ⟨hH,hE⟩ := H.set (h' := hp) hwr hpr hm hsz hoth (B := hp.at b) ⟨fun c=>by
          by_cases e : c = b
          · rw [if_pos e,e]
          · rw [if_neg e],Nat.le_refl _,rfl,rfl⟩ (by
        rw [hB]
        refine ⟨m,c,T,fz',hm,hmod,p3,fun i hi=>?_,p5,fun _=>⟨?_,(p6 rfl).2⟩,fun e=>Bool.noConfusion e⟩
        · obtain ⟨u,h1,h2,h3⟩ := p4 i hi
          exact ⟨u,h1,h2,h3.mono hF (fun _ h=>h) (fun _ _ h=>h)⟩
        · right
          simp only [fz']
          split
          · exact Nat.le_refl _
          · rcases (p6 rfl).1 with h | h
            · contradiction
            · show c.size ≤ min fz.1 c.size
              omega)
      refine ⟨μ,F,_,.slice (some ⟨m.bq,m.base + o,none⟩) n cap, ?_,⟨.ms hm hc hcs,rfl⟩,hH,hE⟩
      simp [convert,run_underlying (aB hs).1,run_underlying (oA he),markStringish,hshape]
  · exact ah hR g
  · exact ah hR g
  · exact ah hR g
end
end Go.Proofs.YtpiokjcbadfalaaGreatDoor.Ev
