import Derived.Test.YtpiokjcbadfalaaGreatDoorEvAH
namespace Go.Proofs.YtpiokjcbadfalaaGreatDoor.Ev
section
variable {C : Cx} {vs : Vs} {g : G} {P : Pt} {N : NK} {k : Sm} {R : ab} (ok : cL C.M) (hR : R ≠ .fail) {sk : Row} {fr : Fr} {hp : Hp} {id : Nat}
theorem a6G (hR : R ≠ .fail) {v : AV} {z sz : Nat} {q : AV → Hp → ab} {M : Mem} (h : dU M N v z sz hp q = R) : dS v = true := by
  cases hv : dS v with
  | true=>rfl
  | false=>
    cases v with
    | x gg t a b c=>
      cases gg with
      | zero=>
        rcases aK hR h with ⟨_,h1⟩ | ⟨_,h1⟩
        · exact ah hR h1
        · exact ah hR h1
      | succ n=>cases hv
    | _=>cases hv
include ok hR
theorem a6z (hN : fC N hp id) {t : TypeId} (o : Oper) (hop : o.op = .alloc t) (h : (adg C P N k t ⟨fun _ _ k=>k (cN C.P t)⟩).run sk fr hp = R) : Out C (C.env vs) g P k sk fr o id hp R :=
  ab6 ok hR hN o hop (a6G hR (M := C.M) (hp := hp) (N := N) (v := cN C.P t) (z := ae4 C.P t) (sz := ba C.P t) (q := fun v hp=>P.f k sk fr hp v) h) h
theorem a6M {t : TypeId} {ps : Array (Nat × Operand)} (o : Oper) (hop : o.op = .build t ps) (h : (a0O C g P k t ps).run sk fr hp = R) : Out C (C.env vs) g P k sk fr o id hp R := by
  have hd : ∀ c,o.op ≠ .defer c := by rw [hop]; simp
  have mem : ∀ p ∈ ps.toList,p.2 ∈ o.op.operands.toList := fun p hp=>by
    rw [hop]
    show p.2 ∈ ((ps.toList.map (·.2)).toArray).toList
    rw [List.toList_toArray]
    exact List.mem_map.2 ⟨p,hp,rfl⟩
  have fin : (∃ v,P.f k sk fr hp v = R ∧ ∀ {w : World} {F : Nat → Prop} {μ : Mu} {ρ : Operand → Value},(∀ p ∈ ps.toList,ai w F μ (ov C g sk fr p.2) (ρ p.2)) → ∃ r,(Instr.build t (ps.map fun (i,x)=>(i,ρ x))).run C.P w = .ok r w ∧ ai w F μ v r) → Out C (C.env vs) g P k sk fr o id hp R := fun ⟨v,h1,h2⟩=>by
    refine gm hd ⟨v,h1,fun {w F μ ρ} hO=>?_⟩
    obtain ⟨r,e1,e2⟩ := h2 (w := w) (F := F) (μ := μ) (ρ := ρ) fun p hp=>hO _ (mem p hp)
    exact ⟨_,r,by simp only [execOp,hop]; exact dr e1,.inl rfl,e2⟩
  unfold a0O at h
  split at h
  · rename_i fs hu
    obtain ⟨hb,h1⟩ := cE hR h
    rw [bR,bR,bR] at hb
    obtain ⟨hz,hk,hP,hfit⟩ := hb
    exact fin (zp (k := fun v=>P.f k sk fr hp v) ok hR hz hfit (fun v i l cs hi hv hf hl=>a0L hu hk hi hv (fun p hp=>by
      obtain ⟨q,hq,e⟩ := hl p hp
      rw [e]; exact a2N hP q hq) hf) h1)
  · rename_i n e hu
    obtain ⟨hb,h1⟩ := cE hR h
    rw [bR,bR] at hb
    obtain ⟨hz,hk,hfit⟩ := hb
    exact fin (zp (k := fun v=>P.f k sk fr hp v) ok hR hz hfit (fun v i l cs hi hv hf hl=>a2Z hu hk hi hv hf) h1)
  · exact ah hR h
theorem nj {Q : Program} {t e : TypeId} (h : slT Q t = some e) : dN Q t = some (.slice e) := by
  have _ := ok
  have _ := hR
  unfold slT at h
  split at h
  · rename_i e' hu; cases h; exact hu
  · cases h
theorem vc (hN : fC N hp id) {t : TypeId} {len : Nat} {ps : Array (Nat × Operand)} (o : Oper) (hop : o.op = .buildSlice t len ps) (h : (gJ C g P N k t len ps).run sk fr hp = R) : Out C (C.env vs) g P k sk fr o id hp R := by
  have mem : ∀ p ∈ ps.toList,p.2 ∈ o.op.operands.toList := fun p hp=>by
    rw [hop]
    show p.2 ∈ ((ps.toList.map (·.2)).toArray).toList
    rw [List.toList_toArray]
    exact List.mem_map.2 ⟨p,hp,rfl⟩
  unfold gJ at h
  split at h
  · exact ah hR h
  · rename_i e hs
    obtain ⟨hb,h1⟩ := cE hR h
    rw [bR,bR,bR,bn,bn] at hb
    obtain ⟨hz,hzk,hle,hfit⟩ := hb
    obtain ⟨B,hp',h2,hset,hn,H⟩ := wc (V := C.env vs) ok hR hN (k := fun v hp=>P.f k sk fr hp v) (nj ok hR hs) rfl hz hzk hle hfit h1
    exact ⟨_,hp',2,h2,kP.new (fun ρ => ρ) (fun ρ => by simp only [execOp,hop]) (fun hO p hp=>hO _ (mem p hp)) hset hn H,.inr (.inr (.inl ⟨rfl,by rw [hop]; rfl⟩)),by rw [hop]; simp⟩
theorem abg {t : TypeId} {x : Operand} (o : Oper) (hop : o.op = .load t x) (h : (a39 C g P k t x).run sk fr hp = R) : Out C (C.env vs) g P k sk fr o id hp R := by
  unfold a39 at h
  cases hk : known C.P t with
  | false=>rw [hk] at h; exact ah hR h
  | true=>
    rw [hk] at h
    have h1 := bm hR (k := fun a=>aI C.M (isAgg C.P t) (ba C.P t) a hp fun v=>P.f k sk fr hp v) h
    obtain ⟨v,h2,hl,H⟩ := zZ (V := C.env vs) ok hR (iI hk) h1
    exact ⟨v,hp,1,h2,kP.anr (by rw [hop]; rfl) (by rw [hop]; simp [Op.operands]) (fun ρ => by simp only [execOp,hop]) hl H,.inr (.inl ⟨rfl,by rw [hop]; rfl⟩),by rw [hop]; simp⟩
theorem a6W {t : TypeId} {x y : Operand} (o : Oper) (hop : o.op = .store t x y) (h : (a6I C g P k t x y).run sk fr hp = R) : Out C (C.env vs) g P k sk fr o id hp R := by
  have hd : ∀ c,o.op ≠ .defer c := by rw [hop]; simp
  obtain ⟨hz,h0⟩ := cE hR h
  rw [bn] at hz
  have h1 := bm hR (k := fun a=>(iz C g y).get sk fr fun v=>bk C.M (ba C.P t) a v hp fun hp=>P.f k sk fr hp cI) h0
  have h2 := bm hR (k := fun v=>bk C.M (ba C.P t) (ov C g sk fr x) v hp fun hp=>P.f k sk fr hp cI) h1
  obtain ⟨hp',h3,H⟩ := a8m (V := C.env vs) ok hR hz h2
  exact ⟨_,hp',3,h3,kP.a74 hd fun hO _ hH=>ny.ofU (by simp only [execOp,hop]) (H (hO x (by rw [hop]; simp [Op.operands])) (hO y (by rw [hop]; simp [Op.operands])) hH),.inr (.inr (.inr ⟨rfl,by rw [hop]; exact Nat.le_refl _⟩)),hd⟩
theorem adq {x : Operand} (o : Oper) (hop : o.op = .nilCheck x) (h : (zq C g P k x).run sk fr hp = R) : Out C (C.env vs) g P k sk fr o id hp R := by
  have _ := ok
  have h1 := bm hR (k := fun v=>v.on (fun _ _=>.fail) (fun _=>.fail) (fun _ _=>.fail) (fun _ _=>P.f k sk fr hp v) (fun _ _ _ _=>.fail) (fun _ _ _ _=>.fail) (fun _ _=>.fail) (fun _ _=>.fail) (fun g _ _ _ _=>au (Nat.beq g 1 || Nat.beq g 3 || Nat.beq g 5 || Nat.beq g 12) (P.f k sk fr hp v))) h
  obtain ⟨h2,H⟩ := ajU hR (k := fun v=>P.f k sk fr hp v) h1
  refine gm (by rw [hop]; simp) ⟨_,h2,fun {w F μ ρ} hO=>?_⟩
  have hx := hO x (by rw [hop]; simp [Op.operands])
  refine ⟨.value (ρ x),_, ?_,.inl rfl,hx⟩
  simp only [execOp,hop]
  rcases H hx with ⟨a,e⟩ | ⟨f,fs,cs,e⟩ | ⟨l,e⟩ | ⟨t,v,e⟩ <;> rw [e] <;> rfl
theorem a8O {x : Operand} {f : AV → (AV → ab) → ab} (h : (c1 C g P k x f).run sk fr hp = R) : f (ov C g sk fr x) (fun v=>P.f k sk fr hp v) = R := have _ := ok; bm hR (k := fun a=>f a fun v=>P.f k sk fr hp v) h
theorem aba {op : BinOp} {t u : TypeId} {x y : Operand} (o : Oper) (hop : o.op = .binOp op t x y u) (h : (a34 C g P k op t x y).run sk fr hp = R) : Out C (C.env vs) g P k sk fr o id hp R := by
  have _ := ok
  unfold a34 at h
  have h1 := bm hR (k := fun a=>(iz C g y).get sk fr fun b=>(match dN C.P t with
    | some (.int ik)=>ar op (kc ik)
    | some .string=>gM op
    | _=>yX (ow C.P t) op : BK).f a b fun v=>P.f k sk fr hp v) h
  have h2 := bm hR (k := fun b=>(match dN C.P t with
    | some (.int ik)=>ar op (kc ik)
    | some .string=>gM op
    | _=>yX (ow C.P t) op : BK).f (ov C g sk fr x) b fun v=>P.f k sk fr hp v) h1
  obtain ⟨v,h3,H⟩ := aiq hR (x := x) (y := y) h2
  exact jY (s := a0J op t x y) (by rw [hop]; simp) (by rw [hop]; simp [Op.operands]) (by rw [hop]; simp [Op.operands]) (fun ρ => by simp only [execOp,hop]; rfl) ⟨v,h3,H⟩
theorem adk {op : BinOp} {t u : TypeId} {x y : Operand} (o : Oper) (hop : o.op = .binOp op t x y u) (h : (cBin C g P k op t x y).run sk fr hp = R) : Out C (C.env vs) g P k sk fr o id hp R := by
  have e : cBin C g P k op t x y = if bp (isIface C.P t) (a1h y) = true then a8P C g P k op x else a34 C g P k op t x y := da _ _ _
  rw [e] at h
  split at h
  · rename_i hc
    rw [bR] at hc
    have fin : ∀ (q : Bool → Bool),(op = .eql ∧ q = (fun b=>b) ∨ op = .neq ∧ q = (!·)) → (∃ b,P.f k sk fr hp (.bool (q b)) = R ∧ ∀ {w : World} {F : Nat → Prop} {μ : Mu} {u : Value},ai w F μ (ov C g sk fr x) u → dc 4 b u) → Out C (C.env vs) g P k sk fr o id hp R := fun q hq ⟨b,h1,h2⟩=>by
      refine jY (x := x) (y := y) (s := a0J op t x y) (by rw [hop]; simp) (by rw [hop]; simp [Op.operands]) (by rw [hop]; simp [Op.operands]) (fun ρ => by simp only [execOp,hop]; rfl) ⟨_,h1,fun {w F μ u v} ha hb=>?_⟩
      obtain ⟨ey,e1,e2⟩ := aip (x := x) hc.1 hc.2 (h2 ha) w
      have hv : v = .nilIface := by
        have hb' : ai w F μ (.x 11 .lf 0 0 0) v := by rw [ey] at hb; exact hb
        cases hb'; rfl
      subst hv
      rcases hq with ⟨rfl,rfl⟩ | ⟨rfl,rfl⟩
      · exact ⟨_,e1,.bool _⟩
      · exact ⟨_,e2,.bool _⟩
    unfold a8P at h
    split at h
    · obtain ⟨b,h1,h2⟩ := sD hR (by omega) (a8O ok hR h)
      exact fin (fun b=>b) (.inl ⟨rfl,rfl⟩) ⟨b,h1,h2⟩
    · obtain ⟨b,h1,h2⟩ := sD hR (by omega) (a8O ok hR h)
      exact fin (!·) (.inr ⟨rfl,rfl⟩) ⟨b,by rw [← fq]; exact h1,h2⟩
    · exact ah hR h
  · exact aba ok hR o hop h
theorem aiS {op : UnOp} {t : TypeId} {x : Operand} (o : Oper) (hop : o.op = .unOp op t x) (h : (cUn C g P k op x).run sk fr hp = R) : Out C (C.env vs) g P k sk fr o id hp R := by
  have _ := ok
  have fin : ∀ (f : AV → (AV → ab) → ab),(c1 C g P k x f).run sk fr hp = R → (∀ {a : AV} {q : AV → ab},f a q = R → ∃ v,q v = R ∧ pV C.P (Op.unary op) a v) → Out C (C.env vs) g P k sk fr o id hp R := fun f h H=>
    iJ (s := Op.unary op) (by rw [hop]; simp) (by rw [hop]; simp [Op.operands]) (fun ρ => by simp only [execOp,hop]) (H (bm hR (k := fun a=>f a fun v=>P.f k sk fr hp v) h))
  cases op with
  | neg=>exact fin (fun a k=>a.bO fun i n=>bQ i (Nat.mod (Nat.sub (md i) n) (md i)) k) h fun h=>ajT hR h
  | xor=>exact fin (fun a k=>a.bO fun i n=>bQ i (Nat.sub (Nat.sub (md i) 1) n) k) h fun h=>aiL hR h
  | not=>exact fin (fun a k=>a.aJ fun b=>k (.bool (de b))) h fun h=>ajW hR h
  | _=>exact ah hR h
theorem wk {t : TypeId} {x : Operand} {f : Nat} (o : Oper) (hop : o.op = .fieldAddr t x f) (h : (mH C g P k t x f).run sk fr hp = R) : Out C (C.env vs) g P k sk fr o id hp R := by
  have _ := ok
  unfold mH at h
  split at h
  · rename_i fs hu
    obtain ⟨hb,h0⟩ := cE hR h
    rw [bR,bn,bn] at hb
    have h1 := bm hR (k := fun a=>fieldAddr (fG fs f) a fun v=>P.f k sk fr hp v) h0
    exact iJ (s := fun u=>Instr.fieldAt t u f) (by rw [hop]; simp) (by rw [hop]; simp [Op.operands]) (fun ρ => by simp only [execOp,hop]) (yM hR hu hb.1 hb.2 h1)
  · exact ah hR h
theorem a6Q {t : TypeId} {x : Operand} {f : Nat} (o : Oper) (hop : o.op = .field t x f) (h : (a0P C g P k t x f).run sk fr hp = R) : Out C (C.env vs) g P k sk fr o id hp R := by
  have _ := ok
  unfold a0P at h
  split at h
  · rename_i fs hu
    obtain ⟨hb,h0⟩ := cE hR h
    rw [bR,bn] at hb
    have h1 := bm hR (k := fun a=>uR (isAgg C.P (gB fs f)) (ba C.P (gB fs f)) (fG fs f) a fun v=>P.f k sk fr hp v) h0
    exact iJ (s := fun u=>Instr.field t u f) (by rw [hop]; simp) (by rw [hop]; simp [Op.operands]) (fun ρ => by simp only [execOp,hop]) (abu hR hu hb.1 hb.2 h1)
  · exact ah hR h
theorem tw {x y : Operand} {f : AV → AV → (AV → ab) → ab} (h : (c2 C g P k x y f).run sk fr hp = R) : f (ov C g sk fr x) (ov C g sk fr y) (fun v=>P.f k sk fr hp v) = R := by
  have _ := ok
  have h1 := bm hR (k := fun a=>(iz C g y).get sk fr fun b=>f a b fun v=>P.f k sk fr hp v) h
  exact bm hR (k := fun b=>f (ov C g sk fr x) b fun v=>P.f k sk fr hp v) h1
theorem rz {x y : Operand} {f : AV → AV → Hp → (AV → Hp → ab) → ab} (h : (c2h C g P k x y f).run sk fr hp = R) : f (ov C g sk fr x) (ov C g sk fr y) hp (fun v hp=>P.f k sk fr hp v) = R := by
  have _ := ok
  have h1 := bm hR (k := fun a=>(iz C g y).get sk fr fun b=>f a b hp fun v hp=>P.f k sk fr hp v) h
  exact bm hR (k := fun b=>f (ov C g sk fr x) b hp fun v hp=>P.f k sk fr hp v) h1
theorem wm {t : TypeId} {x i : Operand} (o : Oper) (hop : o.op = .indexAddr t x i) (h : (mI C g P k t x i).run sk fr hp = R) : Out C (C.env vs) g P k sk fr o id hp R := by
  have fin : ∀ {v : AV},_ → _ → _ := fun {v} h H=>jY (C := C) (vs := vs) (g := g) (P := P) (k := k) (R := R) (sk := sk) (fr := fr) (hp := hp) (id := id) (o := o) (x := x) (y := i) (s := Instr.indexAt t) (by rw [hop]; simp) (by rw [hop]; simp [Op.operands]) (by rw [hop]; simp [Op.operands]) (fun ρ => by simp only [execOp,hop]) ⟨v,h,H⟩
  unfold mI at h
  split at h
  · rename_i n e hu
    obtain ⟨hb,h0⟩ := cE hR h
    rw [bn] at hb
    obtain ⟨v,h1,H⟩ := a1e hR hu rfl hb (tw ok hR h0)
    exact fin h1 H
  · rename_i e hu
    obtain ⟨hb,h0⟩ := cE hR h
    rw [bn] at hb
    obtain ⟨v,h1,H⟩ := yN hR hu rfl hb (tw ok hR h0)
    exact fin h1 H
  · exact ah hR h
theorem a6T {t : TypeId} {x i : Operand} (o : Oper) (hop : o.op = .index t x i) (h : (a0Q C g P k t x i).run sk fr hp = R) : Out C (C.env vs) g P k sk fr o id hp R := by
  have fin : ∀ {v : AV},_ → _ → _ := fun {v} h H=>jY (C := C) (vs := vs) (g := g) (P := P) (k := k) (R := R) (sk := sk) (fr := fr) (hp := hp) (id := id) (o := o) (x := x) (y := i) (s := Instr.index t) (by rw [hop]; simp) (by rw [hop]; simp [Op.operands]) (by rw [hop]; simp [Op.operands]) (fun ρ => by simp only [execOp,hop]) ⟨v,h,H⟩
  unfold a0Q at h
  split at h
  · rename_i n e hu
    obtain ⟨hb,h0⟩ := cE hR h
    obtain ⟨v,h1,H⟩ := abF hR hu hb (tw ok hR h0)
    exact fin h1 H
  · rename_i hu
    obtain ⟨v,h1,H⟩ := a1f hR hu (tw ok hR h)
    exact fin h1 H
  · exact ah hR h
theorem a3g {t : TypeId} {x i : Operand} {cm : Bool} (o : Oper) (hop : o.op = .lookup t x i cm) (h : (vE C g P k t x i cm).run sk fr hp = R) : Out C (C.env vs) g P k sk fr o id hp R := by
  unfold vE at h
  split at h
  · rename_i kt e hu
    split at h
    · exact ah hR h
    · rename_i c hk
      obtain ⟨v,h1,hl,H⟩ := a7K (V := C.env vs) ok hR (cm := cm) hu hk (m := ov C g sk fr x) (key := ov C g sk fr i) (hp := hp) (k := fun v hp=>P.f k sk fr hp v) (rz ok hR h)
      exact ⟨v,hp,1,h1,kP.read2 (by rw [hop]; rfl) (by rw [hop]; simp [Op.operands]) (by rw [hop]; simp [Op.operands]) (fun ρ => by simp only [execOp,hop]) hl H,.inr (.inl ⟨rfl,by rw [hop]; rfl⟩),by rw [hop]; simp⟩
  · exact ah hR h
theorem wu {t : TypeId} {m i x : Operand} (o : Oper) (hop : o.op = .mapUpdate t m i x) (h : (mK C g P k t m i x).run sk fr hp = R) : Out C (C.env vs) g P k sk fr o id hp R := by
  have hd : ∀ c,o.op ≠ .defer c := by rw [hop]; simp
  unfold mK at h
  simp only at h
  split at h
  · rename_i kt e hu
    split at h
    · exact ah hR h
    · rename_i c hk
      let body : AV → AV → AV → ab := fun m key v=>m.onX fun q _ b _ _=>au (Nat.beq q 4) (kX b hp (hp.get C.M b fun B=>B.kY fun n t=>
        (rM C.M c n).f t 0 key (fun j=>C.M.rs.f t (Nat.succ j) v fun t=>hp.put C.M b (.map n t) fun hp=>P.f k sk fr hp cI)
        (C.M.rs.f t (Nat.mul 2 n) key fun t=>C.M.rs.f t (Nat.succ (Nat.mul 2 n)) v fun t=>hp.put C.M b (.map (Nat.succ n) t) fun hp=>P.f k sk fr hp cI)))
      have h1 := bm hR (k := fun m=>(iz C g i).get sk fr fun key=>(iz C g x).get sk fr fun v=>body m key v) h
      have h2 := bm hR (k := fun key=>(iz C g x).get sk fr fun v=>body (ov C g sk fr m) key v) h1
      have h3 := bm hR (k := fun v=>body (ov C g sk fr m) (ov C g sk fr i) v) h2
      obtain ⟨hp',h4,H⟩ := yU (V := C.env vs) ok hR hu hk (k := fun hp=>P.f k sk fr hp cI) h3
      exact ⟨_,hp',3,h4,kP.a74 hd fun hO _ hH=>ny.ofU (by simp only [execOp,hop]) (H (hO m (by rw [hop]; simp [Op.operands])) (hO i (by rw [hop]; simp [Op.operands])) (hO x (by rw [hop]; simp [Op.operands])) hH),.inr (.inr (.inr ⟨rfl,by rw [hop]; exact Nat.le_refl _⟩)),hd⟩
  · exact ah hR h
theorem a0U {x : Operand} {i : Nat} (o : Oper) (hop : o.op = .extract x i) (h : (a36 C g P k x i).run sk fr hp = R) : Out C (C.env vs) g P k sk fr o id hp R := by
  have _ := ok
  have h1 := bm hR (k := fun v=>v.xJ fun t _=>(a5N i).get t fr fun v=>P.f k sk fr hp v) h
  exact iJ (s := fun u=>Instr.extract u i) (by rw [hop]; simp) (by rw [hop]; simp [Op.operands]) (fun ρ => by simp only [execOp,hop]) (a3q hR h1)
theorem abe {f : FuncId} {a b : Array Operand} (o : Oper) (hop : o.op = .makeFunc (.func f) a b) (h : (akN C g P k f a b).run sk fr hp = R) : Out C (C.env vs) g P k sk fr o id hp R := by
  have _ := ok
  obtain ⟨r,h1,hl,hr⟩ := a0H hR (l := a.toList ++ b.toList) (k := fun l=>P.f k sk fr hp (.x 3 l f a.size b.size)) h
  refine gm (by rw [hop]; simp) ⟨_,h1,fun {w F μ ρ} hO=>⟨_,_, ?_,.inl rfl,ah5 (ρ := ρ) hl hr fun x hx=>hO x (by rw [hop]; simp only [Op.operands,Array.toList_append]; exact hx)⟩⟩
  simp only [execOp,hop]
  rfl
theorem adp (hN : fC N hp id) {t : TypeId} (o : Oper) (hop : o.op = .makeMap t none) (h : (a3a P N k).run sk fr hp = R) : Out C (C.env vs) g P k sk fr o id hp R := by
  obtain ⟨B,hp',h1,hs,hn,H⟩ := a4H (V := C.env vs) (M := C.M) ok hR hN (t := t) (k := fun v hp=>P.f k sk fr hp v) h
  exact ⟨_,hp',2,h1,kP.new (fun _=>()) (fun ρ => by simp only [execOp,hop]; rfl) (fun _=>trivial) hs hn H,.inr (.inr (.inl ⟨rfl,by rw [hop]; rfl⟩)),by rw [hop]; simp⟩
theorem abh (hN : fC N hp id) {t : TypeId} {x : Operand} (o : Oper) (hop : o.op = .makeMap t (some x)) (h : (tz C g P N k t x).run sk fr hp = R) : Out C (C.env vs) g P k sk fr o id hp R := by
  obtain ⟨hb,h0⟩ := cE hR h
  have h1 := bm hR (k := fun v=>v.bO fun _ _=>N.f hp (.map 0 .lf) fun id hp=>P.f k sk fr hp (.x 4 .lf id 0 0)) h0
  obtain ⟨i,n,hx,h2⟩ := cF hR h1
  obtain ⟨B,hp',h3,hs,hn,H⟩ := a4H (V := C.env vs) (M := C.M) ok hR hN (t := t) (k := fun v hp=>P.f k sk fr hp v) h2
  refine ⟨_,hp',2,h3,.make B hs hn fun {w F μ ρ h h'} hO hid hH hs' hn'=>?_,.inr (.inr (.inl ⟨rfl,by rw [hop]; rfl⟩)),by rw [hop]; simp⟩
  obtain ⟨μ',F',w',r,e1,⟨e2,e3⟩,e4,e5⟩ := H.out (u := ()) (w := w) (F := F) (μ := μ) (h := h) (h' := h') trivial hid hH hs' hn'
  refine ⟨_,r,w',μ',F', ?_,.inl rfl,e2,e3,e4,e5⟩
  have hxx := hO x (by rw [hop]; simp [Op.operands])
  rw [hx] at hxx
  obtain ⟨_,hxv⟩ := cY hxx
  have hmap : ∃ a b,dN C.P t = some (.map a b) := by
    split at hb
    · exact ⟨_,_,by assumption⟩
    · cases hb
  obtain ⟨a,b,hu⟩ := hmap
  simp only [execOp,hop]
  refine dr ?_
  rw [← e1]
  simp [Instr.makeMap,run_underlying (aB hu).1,hxv,asInt,asIntOf]
theorem wo (hN : fC N hp id) {t : TypeId} {x y : Operand} (o : Oper) (hop : o.op = .makeSlice t x y) (h : (mJ C g P N k t x y).run sk fr hp = R) : Out C (C.env vs) g P k sk fr o id hp R := by
  unfold mJ at h
  split at h
  · exact ah hR h
  · rename_i e hs
    obtain ⟨hb,h0⟩ := cE hR h
    rw [bR,bR,bn,bn] at hb
    obtain ⟨hz,hzk,hby⟩ := hb
    obtain ⟨B,v,hp',h1,hset,hn,H⟩ := ac9 (V := C.env vs) hR hN (nj ok hR hs) rfl hz hzk hby (k := fun v hp=>P.f k sk fr hp v) (rz ok hR h0)
    exact ⟨v,hp',2,h1,kP.new (fun ρ => (ρ x,ρ y)) (fun ρ => by simp only [execOp,hop]) (fun hO=>⟨hO x (by rw [hop]; simp [Op.operands]),hO y (by rw [hop]; simp [Op.operands])⟩) hset hn H,.inr (.inr (.inl ⟨rfl,by rw [hop]; rfl⟩)),by rw [hop]; simp⟩
end
section
variable {C : Cx} {vs : Vs} {g : G} {P : Pt} {N : NK} {k : Sm} {R : ab} (ok : cL C.M) (hR : R ≠ .fail) {sk : Row} {fr : Fr} {hp : Hp} {id : Nat}
noncomputable def oo (C : Cx) (g : G) (sk : Row) (fr : Fr) (x : Option Operand) : Option AV := x.map (ov C g sk fr)
theorem pH {w : World} {F : Nat → Prop} {μ : Mu} {ρ : Operand → Value} {l : List Operand} (x : Option Operand) (h : qk w F μ (ov C g sk fr) l ρ) (hm : ∀ y,x = some y → y ∈ l) : dv w F μ (oo C g sk fr x) (x.map ρ) := by
  cases x with
  | none=>trivial
  | some y=>exact h y (hm y rfl)
include hR
theorem jb {x : Option Operand} {q : Option AV → ab} (h : (n8 C g x).f sk fr q = R) : q (oo C g sk fr x) = R := by
  cases x with
  | none=>exact h
  | some y=>exact bm hR (k := fun v=>q (some v)) h
include ok
theorem vD {x : Operand} {f : AV → Hp → (AV → Hp → ab) → ab} (h : (c1h C g P k x f).run sk fr hp = R) : f (ov C g sk fr x) hp (fun v hp=>P.f k sk fr hp v) = R := have _ := ok; 
  bm hR (k := fun a=>f a hp fun v hp=>P.f k sk fr hp v) h
theorem a6H {x : Operand} {f : AV → (AV → ab) → ab} (h : (c1 C g P k x f).run sk fr hp = R) : f (ov C g sk fr x) (fun v=>P.f k sk fr hp v) = R := have _ := ok; 
  bm hR (k := fun a=>f a fun v=>P.f k sk fr hp v) h
theorem a6V {t : TypeId} {x : Operand} {lo hi mx : Option Operand} (o : Oper) (hop : o.op = .slice t x lo hi mx) (h : (a0R C g P k t x lo hi mx).run sk fr hp = R) : Out C (C.env vs) g P k sk fr o id hp R := by
  have hd : ∀ c,o.op ≠ .defer c := by rw [hop]; simp
  have mx0 : x ∈ o.op.operands.toList := by rw [hop]; simp [Op.operands]
  have ml : ∀ y,lo = some y → y ∈ o.op.operands.toList := fun y e=>by rw [hop]; subst e; simp [Op.operands]
  have mh : ∀ y,hi = some y → y ∈ o.op.operands.toList := fun y e=>by rw [hop]; subst e; simp [Op.operands]
  have mm : ∀ y,mx = some y → y ∈ o.op.operands.toList := fun y e=>by rw [hop]; subst e; simp [Op.operands]
  have he : ∀ ρ,execOp ρ o = (do Pure.pure (.value (← Instr.sliceAt t (ρ x) (lo.map ρ) (hi.map ρ) (mx.map ρ)))) := fun ρ => by simp only [execOp,hop]
  have pure : (∃ v,P.f k sk fr hp v = R ∧ a8A C.P (Instr.sliceAt t) (ov C g sk fr x) (oo C g sk fr lo) (oo C g sk fr hi) (oo C g sk fr mx) v) → Out C (C.env vs) g P k sk fr o id hp R := fun ⟨v,h1,H⟩=>gm hd ⟨v,h1,fun {w F μ ρ} hO=>by
    obtain ⟨r,e1,e2⟩ := H (hO x mx0) (pH lo hO ml) (pH hi hO mh) (pH mx hO mm)
    exact ⟨_,r,by rw [he]; exact dr e1,.inl rfl,e2⟩⟩
  unfold a0R at h
  simp only at h
  split at h
  · rename_i n e hu
    obtain ⟨hb,h0⟩ := cE hR h
    rw [bn] at hb
    let body : AV → Option AV → Option AV → Option AV → ab := fun v l h m=>v.qe (fun b o=>hp.use C.M b (Nat.add o (Nat.mul n (ba C.P e))) fun _ _ _ _ _=>eS (ba C.P e) (.ms b o n (ba C.P e)) l h m fun v=>P.f k sk fr hp v)
      (fun t o c y=>au (Nat.beq y (ba C.P e)) (au (Nat.beq (Nat.mod o (ba C.P e)) 0) (au (Nat.ble (Nat.mul n (ba C.P e)) c) (eS (ba C.P e) (.vs t (Nat.div o (ba C.P e)) n (ba C.P e)) l h m fun v=>P.f k sk fr hp v))))
    have h1 := bm hR (k := fun v=>(n8 C g lo).f sk fr fun l=>(n8 C g hi).f sk fr fun h=>(n8 C g mx).f sk fr fun m=>body v l h m) h0
    have h2 := jb hR (q := fun l=>(n8 C g hi).f sk fr fun h=>(n8 C g mx).f sk fr fun m=>body (ov C g sk fr x) l h m) h1
    have h3 := jb hR (q := fun h=>(n8 C g mx).f sk fr fun m=>body (ov C g sk fr x) (oo C g sk fr lo) h m) h2
    have h4 := jb hR (q := fun m=>body (ov C g sk fr x) (oo C g sk fr lo) (oo C g sk fr hi) m) h3
    rcases jX hR h4 with ⟨b,o',hx,h5⟩ | ⟨tt,o',c,y,hx,h5⟩
    · obtain ⟨v,h6,hl,H⟩ := a1S (V := C.env vs) ok hR hu rfl hb h5
      refine ⟨v,hp,1,h6,.read x rfl (by rw [hop]; rfl) mx0 (by rw [hx]; exact hl) fun {w F μ ρ} hO hro=>?_,.inr (.inl ⟨rfl,by rw [hop]; simp only [cls,hu]⟩),hd⟩
      rw [hx] at hro
      obtain ⟨r,e1,e2⟩ := H (by rw [← hx]; exact hO x mx0) (pH lo hO ml) (pH hi hO mh) (pH mx hO mm) hro
      exact ⟨_,r,by rw [he]; exact dr e1,.inl rfl,e2⟩
    · obtain ⟨v,h6,H⟩ := z8 (V := C.env vs) hR hu rfl hb h5
      exact pure ⟨v,h6,by rw [hx]; exact H⟩
  · rename_i e hu
    obtain ⟨hb,h0⟩ := cE hR h
    rw [bn] at hb
    let body : AV → Option AV → Option AV → Option AV → ab := fun v l h m=>eS (ba C.P e) v l h m fun v=>P.f k sk fr hp v
    have h1 := bm hR (k := fun v=>(n8 C g lo).f sk fr fun l=>(n8 C g hi).f sk fr fun h=>(n8 C g mx).f sk fr fun m=>body v l h m) h0
    have h2 := jb hR (q := fun l=>(n8 C g hi).f sk fr fun h=>(n8 C g mx).f sk fr fun m=>body (ov C g sk fr x) l h m) h1
    have h3 := jb hR (q := fun h=>(n8 C g mx).f sk fr fun m=>body (ov C g sk fr x) (oo C g sk fr lo) h m) h2
    have h4 := jb hR (q := fun m=>body (ov C g sk fr x) (oo C g sk fr lo) (oo C g sk fr hi) m) h3
    exact pure (a8g hR hu rfl hb h4)
  · rename_i hu
    obtain ⟨hb,h0⟩ := cE hR h
    cases mx with
    | some y=>cases hb
    | none=>
      let body : AV → Option AV → Option AV → ab := fun v l h=>fc v l h fun v=>P.f k sk fr hp v
      have h1 := bm hR (k := fun v=>(n8 C g lo).f sk fr fun l=>(n8 C g hi).f sk fr fun h=>body v l h) h0
      have h2 := jb hR (q := fun l=>(n8 C g hi).f sk fr fun h=>body (ov C g sk fr x) l h) h1
      have h3 := jb hR (q := fun h=>body (ov C g sk fr x) (oo C g sk fr lo) h) h2
      exact pure (a8h hR hu h3)
  · exact ah hR h
theorem abb (hN : fC N hp id) {s d : TypeId} {x : Operand} (o : Oper) (hop : o.op = .convert s d x) (h : (a8R C g P N k s d x).run sk fr hp = R) : Out C (C.env vs) g P k sk fr o id hp R := by
  have hd : ∀ c,o.op ≠ .defer c := by rw [hop]; simp
  have hx : x ∈ o.op.operands.toList := by rw [hop]; simp [Op.operands]
  have he : ∀ ρ,execOp ρ o = (do Pure.pure (.value (← convert s d (ρ x)))) := fun ρ => by simp only [execOp,hop]
  unfold a8R at h
  split at h
  · rename_i k1 k2 h1 h2
    exact iJ hd hx he (aiV hR h1 h2 (a6H ok hR h))
  · rename_i h1 h2
    obtain ⟨s',n,hs,h4⟩ := bW hR (a6H ok hR h)
    refine iJ (s := convert s d) hd hx he ⟨_,h4,fun {w F μ u} ha=>?_⟩
    rw [hs] at ha
    obtain ⟨B,rfl,_⟩ := gT ha
    exact ⟨.string B,by simp [convert,run_underlying (aB h1).1,run_underlying (aB h2).1],ha⟩
  · rename_i e h1 h2
    obtain ⟨he8,h3⟩ := cE hR h
    obtain ⟨B,v,hp',h4,hs,hn,H⟩ := a1Y (V := C.env vs) ok hR hN h1 he8 h2 (k := fun v hp=>P.f k sk fr hp v) (vD ok hR h3)
    exact ⟨v,hp',2,h4,kP.new (fun ρ => ρ x) he (fun hO=>hO x hx) hs hn H,.inr (.inr (.inl ⟨rfl,by rw [hop]; simp only [cls,h1,h2]⟩)),hd⟩
  · rename_i e h1 h2
    obtain ⟨he8,h3⟩ := cE hR h
    have h4 := vD ok hR h3
    have hcls : cls C.P o.op = 1 := by rw [hop]; simp only [cls,h1,h2]
    have fin : ((∃ b o n z,ov C g sk fr x = .ms b o n z) ∨ ∃ t o n z,ov C g sk fr x = .vs t o n z) → (lD C.M 1 (ov C g sk fr x) hp fun t o n _=>(pack C.M n).f t o fun s=>P.f k sk fr hp (.str s n)) = R → Out C (C.env vs) g P k sk fr o id hp R := fun hsl h5=>by
      obtain ⟨v,h6,hl,H⟩ := a0N (V := C.env vs) ok hR h1 he8 h2 hsl (k := fun v=>P.f k sk fr hp v) h5
      exact ⟨v,hp,1,h6,kP.anr (by rw [hop]; rfl) hx he hl H,.inr (.inl ⟨rfl,hcls⟩),hd⟩
    rcases eV hR h4 with ⟨b,o',n,y,hv,h5⟩ | ⟨tt,o',n,y,hv,h5⟩ | ⟨i,tt,a',b',c,hv,h5⟩ | ⟨s',n,hv,h5⟩
    · exact fin (.inl ⟨b,o',n,y,hv⟩) h5
    · exact fin (.inr ⟨tt,o',n,y,hv⟩) h5
    · obtain ⟨hg,h6⟩ := an hR h5
      rw [Bool.or_eq_true,aC,aC] at hg
      refine iJ (s := convert s d) hd hx he ⟨_,h6,fun {w F μ u} ha=>?_⟩
      rw [hv] at ha
      have hempty : ai w F μ (.str 0 0) (.string ByteArray.empty) := sM rfl rfl
      rcases hg with rfl | rfl
      · cases ha
        exact ⟨_,by simp [convert,run_underlying (aB h1).1,run_underlying (aB h2).1,run_underlying (oA he8),Conv.bytesToString],hempty⟩
      · cases ha
        exact ⟨_,by simp [convert,run_underlying (aB h1).1,run_underlying (aB h2).1,run_underlying (oA he8),Conv.bytesToString]; rfl,hempty⟩
    · exact ah hR h5
  · rename_i e' e h1 h2
    obtain ⟨hb,h3⟩ := cE hR h
    rw [bR,aC] at hb
    obtain ⟨rfl,he8⟩ := hb
    obtain ⟨h4,H⟩ := afK (V := C.env vs) ok hR h2 he8 (k := fun v hp=>P.f k sk fr hp v) (vD ok hR h3)
    refine ⟨_,hp,3,h4,kP.a74 hd fun {w F μ ρ} hO _ hH=>ny.of (he ρ) (H (hO x hx) hH) fun w' F' μ' r h=>?_,.inr (.inr (.inr ⟨rfl,by rw [hop]; simp only [cls,h1]; decide⟩)),hd⟩
    obtain ⟨q1,rfl⟩ := h
    exact ⟨q1,iA.refl _ _⟩
  · exact ah hR h
omit ok hR in
theorem mf {w : World} {F : Nat → Prop} {μ : Mu} {n : Nat} (h : n ≤ 9223372036854775807) : ai w F μ (.int 3 n) (goInt (n : Nat)) := by
  have := c7 (w := w) (F := F) (μ := μ) (i := 3) (n := n) (by show n < 18446744073709551616; omega)
  rw [iW 3 n (by show n < 18446744073709551616; omega) (.inr (by show n < 9223372036854775808; omega))] at this
  exact this
theorem a0T (hN : fC N hp id) {b : Builtin} {ts : Array TypeId} {as : Array Operand} (o : Oper) (hop : o.op = .call ⟨.builtin b,as,ts⟩) (h : (rA C g P N k b ts.toList as.toList).run sk fr hp = R) : Out C (C.env vs) g P k sk fr o id hp R := by
  have hd : ∀ c,o.op ≠ .defer c := by rw [hop]; simp
  have mem : ∀ x ∈ as.toList,x ∈ o.op.operands.toList := fun x hx=>by rw [hop]; simpa [Op.operands,Call.operands] using hx
  have h0 : ∀ {t r},ts.toList = t :: r → ts[0]? = some t := fun e=>by rw [← Array.getElem?_toList,e]; rfl
  have he0 : ∀ ρ,execOp ρ o = builtin b ts o.type (as.map fun | .const _=>true | _=>false) (as.map ρ) := fun ρ => by
    simp only [execOp,hop]; rfl
  unfold rA at h
  split at h
  · -- len
    rename_i t r x hts has
    have hmap : ∀ ρ : Operand → Value,as.map ρ = #[ρ x] := fun ρ => by rw [← Array.toList_inj,Array.toList_map,has]; rfl
    have he : ∀ ρ,execOp ρ o = (do Pure.pure (.value (← Builtin.len_ ts o.type #[ρ x]))) := fun ρ => by rw [he0,hmap]; rfl
    have hx := mem x (by rw [has]; exact List.mem_cons_self ..)
    have fin : ∀ q,(q = 0 ∧ dN C.P t = some .string) ∨ (q = 1 ∧ ∃ e,dN C.P t = some (.slice e)) ∨ (q = 2 ∧ ∃ a b,dN C.P t = some (.map a b)) → (cLen C g P k q x).run sk fr hp = R → Out C (C.env vs) g P k sk fr o id hp R := fun q hq h=>by
      have h1 := bm hR (k := fun a=>dX C.M q a hp fun n=>au (Nat.ble n 9223372036854775807) (P.f k sk fr hp (.int 3 n))) h
      obtain ⟨n,h2,hl,H⟩ := afC hR ok (V := C.env vs) (ts := ts) (ty := o.type) (h0 hts) hq h1
      obtain ⟨hn,h3⟩ := an hR h2
      rw [bn] at hn
      by_cases e2 : q = 2
      · obtain ⟨a,b,hm⟩ : ∃ a b,dN C.P t = some (.map a b) := by
          rcases hq with ⟨h,_⟩ | ⟨h,_⟩ | ⟨_,h⟩
          · omega
          · omega
          · exact h
        have has0 : as[0]? = some x := by rw [← Array.getElem?_toList,has]; rfl
        have hts0 : ts.getD 0 0 = t := by rw [Array.getD_eq_getD_getElem?,h0 hts]; rfl
        exact ⟨_,hp,1,h3,.read x rfl (by rw [hop]; exact has0) hx (hl e2) fun {w F μ ρ} hO hro=>⟨_,_,by rw [he]; exact dr (H (hO x hx) fun _=>hro),.inl rfl,mf hn⟩,.inr (.inl ⟨rfl,by rw [hop]; simp only [cls,hts0,hm]⟩),hd⟩
      · exact gm hd ⟨_,h3,fun {w F μ ρ} hO=>⟨_,_,by rw [he]; exact dr (H (hO x hx) fun e=>absurd e e2),.inl rfl,mf hn⟩⟩
    split at h
    · rename_i n e hu
      obtain ⟨hn,h1⟩ := cE hR h
      rw [bn] at hn
      exact gm hd ⟨_,h1,fun {w F μ ρ} hO=>⟨_,goInt (n : Nat),by rw [he]; exact dr (by simp [Builtin.len_,h0 hts,run_underlying (aB hu).1]),.inl rfl,mf hn⟩⟩
    · rename_i hu; exact fin 0 (.inl ⟨rfl,hu⟩) h
    · rename_i e hu; exact fin 1 (.inr (.inl ⟨rfl,e,hu⟩)) h
    · rename_i a b hu; exact fin 2 (.inr (.inr ⟨rfl,a,b,hu⟩)) h
    · exact ah hR h
  · -- append
    rename_i t u x y hts has
    have hmap : ∀ ρ : Operand → Value,as.map ρ = #[ρ x,ρ y] := fun ρ => by rw [← Array.toList_inj,Array.toList_map,has]; rfl
    have htl : ts = #[t,u] := by rw [← Array.toList_inj,hts]
    have he : ∀ ρ,execOp ρ o = (do Pure.pure (.value (← Builtin.append_ #[t,u] o.type #[ρ x,ρ y]))) := fun ρ => by rw [he0,hmap,htl]; rfl
    have hx := mem x (by rw [has]; exact List.mem_cons_self ..)
    have hy := mem y (by rw [has]; exact List.mem_cons_of_mem _ (List.mem_cons_self ..))
    split at h
    · rename_i e hs
      obtain ⟨hb,h1⟩ := cE hR h
      rw [bR,bR,bn,bn] at hb
      obtain ⟨hby,hz,hzk⟩ := hb
      split at h1
      · rename_i kk hu
        obtain ⟨B,v,hp',h2,hs2,hid2,H⟩ := a2Q (V := C.env vs) hR hN (ty := o.type) (nj ok hR hs) hu rfl hz hzk hby (k := fun v hp=>P.f k sk fr hp v) (rz ok hR h1)
        exact ⟨v,hp',3,h2,kP.a74 hd fun {w F μ ρ} hO hid hH=>by
          obtain ⟨μ',F',w',r,r1,⟨r2,r3⟩,r4,r5⟩ := H.out (u := (ρ x,ρ y)) ⟨hO x hx,hO y hy⟩ hid hH hs2 hid2
          exact ⟨_,r,w',μ',F',by rw [he]; exact dr r1,.inl rfl,r2,r3,r4,r5⟩,.inr (.inr (.inr ⟨rfl,by rw [hop]; exact Nat.le_refl _⟩)),hd⟩
      · obtain ⟨hk,h1⟩ := cE hR h1
        obtain ⟨v,hp',h2,H⟩ := a2P (V := C.env vs) ok hR hN (ty := o.type) (nj ok hR hs) (abG hk) hzk hz rfl hby (k := fun v hp=>P.f k sk fr hp v) (rz ok hR h1)
        exact ⟨v,hp',3,h2,kP.a74 hd fun {w F μ ρ} hO hid hH=>ny.of (he ρ) (H (hO x hx) (hO y hy) hH hid) fun w' F' μ' r h=>h,.inr (.inr (.inr ⟨rfl,by rw [hop]; exact Nat.le_refl _⟩)),hd⟩
    · exact ah hR h
  · -- cap
    rename_i t r x hts has
    have hmap : ∀ ρ : Operand → Value,as.map ρ = #[ρ x] := fun ρ => by rw [← Array.toList_inj,Array.toList_map,has]; rfl
    have he : ∀ ρ,execOp ρ o = (do Pure.pure (.value (← Builtin.cap_ ts o.type #[ρ x]))) := fun ρ => by rw [he0,hmap]; rfl
    have hx := mem x (by rw [has]; exact List.mem_cons_self ..)
    split at h
    · rename_i e hs
      have h1 := a6H ok hR h
      obtain ⟨q,u1,u2,u3,u4,hv,h2⟩ := n7 hR h1
      obtain ⟨hq,h3⟩ := an hR h2
      exact gm hd ⟨_,h3,fun {w F μ ρ} hO=>⟨_,goInt (0 : Nat),by
        have hr := hO x hx
        rw [hv] at hr
        have hq' : q = 8 ∨ q = 6 := by simpa [Bool.or_eq_true,aC] using hq
        have : ∃ b,ρ x = .slice b 0 0 := by
          rcases hq' with rfl | rfl
          · generalize ρ x = rx at hr; cases hr; exact ⟨_,rfl⟩
          · generalize ρ x = rx at hr; cases hr; exact ⟨_,rfl⟩
        obtain ⟨b,hb⟩ := this
        rw [he,hb]
        exact dr (by simp [Builtin.cap_,h0 hts,run_underlying (aB (nj ok hR hs)).1]),.inl rfl,mf (by omega)⟩⟩
    · exact ah hR h
  · -- copy
    rename_i t r x y hts has
    have hmap : ∀ ρ : Operand → Value,as.map ρ = #[ρ x,ρ y] := fun ρ => by rw [← Array.toList_inj,Array.toList_map,has]; rfl
    have he : ∀ ρ,execOp ρ o = (do Pure.pure (.value (← Builtin.copy_ ts o.type #[ρ x,ρ y]))) := fun ρ => by rw [he0,hmap]; rfl
    have hx := mem x (by rw [has]; exact List.mem_cons_self ..)
    have hy := mem y (by rw [has]; exact List.mem_cons_of_mem _ (List.mem_cons_self ..))
    split at h
    · rename_i e hs
      obtain ⟨hz,h1⟩ := cE hR h
      rw [bn] at hz
      obtain ⟨n,hp',h2,H⟩ := abk (V := C.env vs) ok hR (ty := o.type) (h0 hts) (nj ok hR hs) hz (k := fun n hp=>au (Nat.ble n 9223372036854775807) (P.f k sk fr hp (.int 3 n))) (rz ok hR h1)
      obtain ⟨hn,h3⟩ := an hR h2
      rw [bn] at hn
      exact ⟨_,hp',3,h3,kP.a74 hd fun {w F μ ρ} hO hid hH=>ny.of (he ρ) (H (hO x hx) (hO y hy) hH) fun w' F' μ' r h=>by
        obtain ⟨rfl,rfl⟩ := h
        exact ⟨mf hn,iA.refl _ _⟩,.inr (.inr (.inr ⟨rfl,by rw [hop]; exact Nat.le_refl _⟩)),hd⟩
    · exact ah hR h
  · -- clear
    rename_i t r x hts has
    have hmap : ∀ ρ : Operand → Value,as.map ρ = #[ρ x] := fun ρ => by rw [← Array.toList_inj,Array.toList_map,has]; rfl
    have he : ∀ ρ,execOp ρ o = (do Pure.pure (.value (← Builtin.clear_ ts o.type #[ρ x]))) := fun ρ => by rw [he0,hmap]; rfl
    have hx := mem x (by rw [has]; exact List.mem_cons_self ..)
    split at h
    · rename_i e hs
      obtain ⟨hb,h1⟩ := cE hR h
      rw [bR,bn] at hb
      obtain ⟨hp',h2,H⟩ := a6U (V := C.env vs) ok hR (ty := o.type) (h0 hts) (nj ok hR hs) hb.1 hb.2 (k := fun hp=>P.f k sk fr hp cI) (vD ok hR h1)
      exact ⟨_,hp',3,h2,kP.a74 hd fun {w F μ ρ} hO hid hH=>ny.of (he ρ) (H (hO x hx) hH) fun w' F' μ' r h=>by
        obtain ⟨rfl,rfl⟩ := h
        exact ⟨pK,iA.refl _ _⟩,.inr (.inr (.inr ⟨rfl,by rw [hop]; exact Nat.le_refl _⟩)),hd⟩
    · exact ah hR h
  · rename_i x y has
    have hmap : ∀ ρ : Operand → Value,as.map ρ = #[ρ x,ρ y] := fun ρ => by rw [← Array.toList_inj,Array.toList_map,has]; rfl
    exact jY (s := fun u u'=>Builtin.min_ ts o.type #[u,u']) hd (mem x (by rw [has]; exact List.mem_cons_self ..)) (mem y (by rw [has]; exact List.mem_cons_of_mem _ (List.mem_cons_self ..))) (fun ρ => by rw [he0,hmap]; rfl) (ajQ hR ts o.type (tw ok hR h))
  · rename_i x y has
    have hmap : ∀ ρ : Operand → Value,as.map ρ = #[ρ x,ρ y] := fun ρ => by rw [← Array.toList_inj,Array.toList_map,has]; rfl
    exact jY (s := fun u u'=>Builtin.max_ ts o.type #[u,u']) hd (mem x (by rw [has]; exact List.mem_cons_self ..)) (mem y (by rw [has]; exact List.mem_cons_of_mem _ (List.mem_cons_self ..))) (fun ρ => by rw [he0,hmap]; rfl) (ajO hR ts o.type (tw ok hR h))
  · exact ah hR h
theorem tD (hN : fC N hp id) (o : Oper) (hcall : ∀ f as ts,o.op = .call ⟨.value f,as,ts⟩ → (a8Q C g P k f as).run sk fr hp = R → Out C (C.env vs) g P k sk fr o id hp R) (h : (ix C g P N k o.op).run sk fr hp = R) : Out C (C.env vs) g P k sk fr o id hp R := by
  cases hop : o.op <;> rw [hop] at h <;> first | exact ah hR h | skip
  case move x=>exact a4J ok hR o (.inl hop) h
  case assign x=>exact a4J ok hR o (.inr hop) h
  case pick c a b=>exact ag8 ok hR o hop h
  case alloc t=>exact a6z ok hR hN o hop h
  case box t x=>exact ais ok hR hN o hop h
  case build t ps=>exact a6M ok hR o hop h
  case buildSlice t n ps=>exact vc ok hR hN o hop h
  case load t a=>exact abg ok hR o hop h
  case store t a x=>exact a6W ok hR o hop h
  case nilCheck x=>exact adq ok hR o hop h
  case binOp op t x y u=>exact adk ok hR o hop h
  case unOp op t x=>exact aiS ok hR o hop h
  case convert s d x=>exact abb ok hR hN o hop h
  case makeFunc f a b=>
    cases f with
    | func f=>exact abe ok hR o hop h
    | _=>exact ah hR h
  case makeMap t r=>
    cases r with
    | none=>exact adp ok hR hN o hop h
    | some x=>exact abh ok hR hN o hop h
  case makeSlice t a b=>exact wo ok hR hN o hop h
  case slice t x lo hi mx=>exact a6V ok hR o hop h
  case fieldAddr t x f=>exact wk ok hR o hop h
  case field t x f=>exact a6Q ok hR o hop h
  case indexAddr t x i=>exact wm ok hR o hop h
  case index t x i=>exact a6T ok hR o hop h
  case lookup t x i cm=>exact a3g ok hR o hop h
  case mapUpdate t m i x=>exact wu ok hR o hop h
  case extract x i=>exact a0U ok hR o hop h
  case call c=>
    obtain ⟨cal,as,ts⟩ := c
    cases cal with
    | value f=>exact hcall f as ts hop h
    | invoke r m=>exact ah hR h
    | builtin b=>exact a0T ok hR hN o hop h
end
section
variable {C : Cx}
noncomputable def sig (C : Cx) (g : G) (sk : Row) (fr : Fr) (t : Nat) : AV := sv g.d (look C g t) sk fr
structure fm (C : Cx) (g : G) : Prop where
  nv : ∀ e ∈ g.m,isVar C e.1 = false
  st : ∀ e ∈ g.m,∀ l,e.2 = .s l → l < g.d
  nd : (g.m.map (·.1)).Nodup
theorem fm.e : fm C .e := ⟨fun _ h=>(by cases h),fun _ h=>(by cases h),List.nodup_nil⟩
noncomputable def kW (l : List (Nat × Src)) (z : Src) (t : Nat) : Src := List.rec (motive := fun _=>Src) z (fun a _ ih=>Bool.rec (motive := fun _=>Src) ih a.2 (Nat.beq a.1 t)) l
theorem look_eq (g : G) (t : Nat) : look C g t = kW g.m (idxOf t C.vars 0) t := rfl
theorem kA (a : Nat × Src) (l : List (Nat × Src)) (z : Src) (t : Nat) : kW (a :: l) z t = if a.1 = t then a.2 else kW l z t := by
  show (Bool.rec (motive := fun _=>Src) (kW l z t) a.2 (Nat.beq a.1 t) : Src) = _
  rw [da]; simp only [aC]
theorem a4e (t : Nat) : isVar C t = true ↔ t ∈ C.vars := by
  unfold isVar
  induction C.vars with
  | nil=>simp
  | cons a l ih=>
    show (Bool.rec (motive := fun _=>Bool) _ true (Nat.beq a t) : Bool) = true ↔ _
    rw [da]
    by_cases e : a = t
    · subst e; simp
    · rw [if_neg (by rw [aC]; exact e),ih,List.mem_cons]
      exact ⟨.inr,fun h=>h.resolve_left fun h=>e h.symm⟩
theorem idxOf_cons (a : Nat) (l : List Nat) (t i : Nat) : idxOf t (a :: l) i = if a = t then .f i else idxOf t l (i + 1) := by
  show (Bool.rec (motive := fun _=>Src) (idxOf t l (Nat.succ i)) (.f i) (Nat.beq a t) : Src) = _
  rw [da]; simp only [aC]
theorem wL : ∀ {l : List Nat} {t i : Nat},t ∉ l → idxOf t l i = .no
  | [],_,_,_=>rfl
  | a :: l,t,i,h=>by
    rw [idxOf_cons,if_neg (by rintro rfl; exact h (List.mem_cons_self ..))]
    exact wL fun hm=>h (List.mem_cons_of_mem _ hm)
theorem tJ : ∀ {l : List Nat} {t i : Nat},t ∈ l → ∃ j,idxOf t l i = .f j ∧ i ≤ j
  | a :: l,t,i,h=>by
    rw [idxOf_cons]
    by_cases e : a = t
    · rw [if_pos e]; exact ⟨i,rfl,Nat.le_refl _⟩
    · rw [if_neg e]
      obtain ⟨j,h1,h2⟩ := tJ (i := i + 1) ((List.mem_cons.1 h).resolve_left fun q=>e q.symm)
      exact ⟨j,h1,by omega⟩
theorem jH {l : List Nat} {t i : Nat} : (∃ j,idxOf t l i = .f j) ∨ idxOf t l i = .no := by
  by_cases h : t ∈ l
  · obtain ⟨j,h,_⟩ := tJ (i := i) h; exact .inl ⟨j,h⟩
  · exact .inr (wL h)
theorem wK : ∀ {l : List Nat} {t i j : Nat},idxOf t l i = .f j → i ≤ j
  | [],_,_,_,h=>by cases h
  | a :: l,t,i,j,h=>by
    rw [idxOf_cons] at h
    split at h
    · cases h; exact Nat.le_refl _
    · have := wK h; omega
theorem jU : ∀ {l : List Nat} {t u i j : Nat},idxOf t l i = .f j → idxOf u l i = .f j → t = u
  | [],_,_,_,_,h,_=>by cases h
  | a :: l,t,u,i,j,h1,h2=>by
    rw [idxOf_cons] at h1 h2
    split at h1
    · rename_i e1
      split at h2
      · rename_i e2; exact e1.symm.trans e2
      · cases h1; have := wK h2; omega
    · split at h2
      · cases h2; have := wK h1; omega
      · exact jU h1 h2
theorem tK {t j : Nat} (h : idxOf t C.vars 0 = .f j) : isVar C t = true := by
  rw [a4e]
  exact Classical.byContradiction fun hn=>by rw [wL hn] at h; cases h
theorem mN (d : Nat) (a : Nat × Src) (l : List (Nat × Src)) : dropKey d (a :: l) = if a.1 = d then dropKey d l else a :: dropKey d l := by
  show (Bool.rec (motive := fun _=>List (Nat × Src)) (a :: dropKey d l) (dropKey d l) (Nat.beq a.1 d) : List (Nat × Src)) = _
  rw [da]; simp only [aC]
theorem j4 {d : Nat} : ∀ {l : List (Nat × Src)} {e : Nat × Src},e ∈ dropKey d l → e ∈ l ∧ e.1 ≠ d
  | [],_,h=>by cases h
  | a :: l,e,h=>by
    rw [mN] at h
    split at h
    · obtain ⟨h1,h2⟩ := j4 h; exact ⟨List.mem_cons_of_mem _ h1,h2⟩
    · rcases List.mem_cons.1 h with rfl | h
      · exact ⟨List.mem_cons_self ..,by assumption⟩
      · obtain ⟨h1,h2⟩ := j4 h; exact ⟨List.mem_cons_of_mem _ h1,h2⟩
theorem jn (d : Nat) : ∀ (l : List (Nat × Src)),(dropKey d l).Sublist l
  | []=>List.Sublist.slnil
  | a :: l=>by
    rw [mN]
    split
    · exact (jn d l).cons _
    · exact (jn d l).cons_cons _
theorem mO {d t : Nat} (h : t ≠ d) (z : Src) : ∀ (l : List (Nat × Src)),kW (dropKey d l) z t = kW l z t
  | []=>rfl
  | a :: l=>by
    rw [mN,kA]
    by_cases e : a.1 = d
    · rw [if_pos e,if_neg (fun q=>h (q.symm.trans e)),mO h z l]
    · rw [if_neg e,kA,mO h z l]
theorem fm.push {g : G} (h : fm C g) {d : Nat} {s : Src} {m : Nat} (hd : isVar C d = false) (hs : ∀ l,s = .s l → l < m) (hm : g.d ≤ m) : fm C ⟨m,(d,s) :: dropKey d g.m⟩ where
  nv := fun e he=>by
    rcases List.mem_cons.1 he with rfl | he
    · exact hd
    · exact h.nv e (j4 he).1
  st := fun e he l hl=>by
    rcases List.mem_cons.1 he with rfl | he
    · exact hs l hl
    · exact Nat.lt_of_lt_of_le (h.st e (j4 he).1 l hl) hm
  nd := by
    show (d :: (dropKey d g.m).map (·.1)).Nodup
    rw [List.nodup_cons]
    refine ⟨fun hm=>?_,h.nd.sublist ((jn d g.m).map _)⟩
    obtain ⟨e,he,rfl⟩ := List.mem_map.1 hm
    exact (j4 he).2 rfl
theorem pD {g : G} {d : Nat} {s : Src} {m : Nat} (t : Nat) : look C ⟨m,(d,s) :: dropKey d g.m⟩ t = if t = d then s else look C g t := by
  rw [look_eq,look_eq,kA]
  by_cases e : t = d
  · rw [if_pos e,if_pos e.symm]
  · rw [if_neg e,if_neg (Ne.symm e),mO e]
theorem jV {z : Src} {t : Nat} : ∀ {l : List (Nat × Src)},(∃ e ∈ l,e.1 = t ∧ kW l z t = e.2) ∨ ((∀ e ∈ l,e.1 ≠ t) ∧ kW l z t = z)
  | []=>.inr ⟨fun _ h=>(by cases h),rfl⟩
  | a :: l=>by
    rw [kA]
    by_cases e : a.1 = t
    · rw [if_pos e]; exact .inl ⟨a,List.mem_cons_self ..,e,rfl⟩
    · rw [if_neg e]
      rcases jV (z := z) (t := t) (l := l) with ⟨x,h1,h2⟩ | ⟨h1,h2⟩
      · exact .inl ⟨x,List.mem_cons_of_mem _ h1,h2⟩
      · exact .inr ⟨fun x hx=>(List.mem_cons.1 hx).elim (fun q=>q ▸ e) (h1 x),h2⟩
theorem a9I {g : G} (h : fm C g) {t l : Nat} (hl : look C g t = .s l) : l < g.d := by
  rw [look_eq] at hl
  rcases jV (z := idxOf t C.vars 0) (t := t) (l := g.m) with ⟨e,h1,_,h3⟩ | ⟨_,h2⟩
  · rw [h3] at hl; exact h.st e h1 l hl
  · rw [h2] at hl
    rcases jH (l := C.vars) (t := t) (i := 0) with ⟨j,hj⟩ | hj <;> rw [hj] at hl <;> cases hl
open Classical in
theorem xO (d i : Nat) (a : Nat × Src) (l : List (Nat × Src)) : eX d i (a :: l) = if a.1 = d ∨ a.2 = .f i ∨ a.2 = .no then eX d i l else a :: eX d i l := by
  show (Bool.rec (motive := fun _=>List (Nat × Src)) (Src.rec (motive := fun _=>List (Nat × Src)) (fun _=>a :: eX d i l) (fun _=>a :: eX d i l) (fun j=>Bool.rec (motive := fun _=>List (Nat × Src)) (a :: eX d i l) (eX d i l) (Nat.beq j i)) (eX d i l) a.2) (eX d i l) (Nat.beq a.1 d) : List (Nat × Src)) = _
  rw [da]
  simp only [aC]
  by_cases e : a.1 = d
  · rw [if_pos e,if_pos (.inl e)]
  · rw [if_neg e]
    obtain ⟨x,s⟩ := a
    cases s with
    | c v=>simp [e]
    | s l=>simp [e]
    | f j=>
      show (Bool.rec (motive := fun _=>List (Nat × Src)) _ _ (Nat.beq j i) : List (Nat × Src)) = _
      rw [da]
      simp only [aC]
      by_cases e2 : j = i
      · rw [if_pos e2]; simp [e2]
      · rw [if_neg e2]; simp [e,e2]
    | no=>simp [e]
theorem me {d i : Nat} : ∀ {l : List (Nat × Src)} {e : Nat × Src},e ∈ eX d i l → e ∈ l ∧ e.1 ≠ d ∧ e.2 ≠ .f i ∧ e.2 ≠ .no
  | [],_,h=>by cases h
  | a :: l,e,h=>by
    rw [xO] at h
    split at h
    · obtain ⟨h1,h2⟩ := me h; exact ⟨List.mem_cons_of_mem _ h1,h2⟩
    · rename_i hn
      rcases List.mem_cons.1 h with rfl | h
      · exact ⟨List.mem_cons_self ..,fun q=>hn (.inl q),fun q=>hn (.inr (.inl q)),fun q=>hn (.inr (.inr q))⟩
      · obtain ⟨h1,h2⟩ := me h; exact ⟨List.mem_cons_of_mem _ h1,h2⟩
theorem lC (d i : Nat) : ∀ (l : List (Nat × Src)),(eX d i l).Sublist l
  | []=>List.Sublist.slnil
  | a :: l=>by
    rw [xO]
    split
    · exact (lC d i l).cons _
    · exact (lC d i l).cons_cons _
theorem fm.eX {g : G} (h : fm C g) (d i : Nat) : fm C ⟨g.d,Go.Proofs.YtpiokjcbadfalaaGreatDoor.Ev.eX d i g.m⟩ where
  nv := fun e he=>h.nv e (me he).1
  st := fun e he l hl=>h.st e (me he).1 l hl
  nd := h.nd.sublist ((lC d i g.m).map _)
theorem ac6 {l : List (Nat × Src)} {z : Src} {t : Nat} (hn : (l.map (·.1)).Nodup) {e : Nat × Src} (he : e ∈ l) (ht : e.1 = t) : kW l z t = e.2 := by
  induction l with
  | nil=>cases he
  | cons a l ih=>
    rw [List.map_cons,List.nodup_cons] at hn
    rw [kA]
    rcases List.mem_cons.1 he with rfl | he
    · rw [if_pos ht]
    · rw [if_neg fun q=>hn.1 (by rw [q,← ht]; exact List.mem_map.2 ⟨e,he,rfl⟩)]
      exact ih hn.2 he
theorem xp {g : G} (h : fm C g) {d i : Nat} (hd : idxOf d C.vars 0 = .f i) (t : Nat) : (t = d → look C ⟨g.d,Go.Proofs.YtpiokjcbadfalaaGreatDoor.Ev.eX d i g.m⟩ t = .f i) ∧ (t ≠ d → look C ⟨g.d,Go.Proofs.YtpiokjcbadfalaaGreatDoor.Ev.eX d i g.m⟩ t = .no ∨ (look C ⟨g.d,Go.Proofs.YtpiokjcbadfalaaGreatDoor.Ev.eX d i g.m⟩ t = look C g t ∧ look C g t ≠ .f i)) := by
  rw [look_eq,look_eq]
  show (t = d → kW (Go.Proofs.YtpiokjcbadfalaaGreatDoor.Ev.eX d i g.m) (idxOf t C.vars 0) t = .f i) ∧ (t ≠ d → kW (Go.Proofs.YtpiokjcbadfalaaGreatDoor.Ev.eX d i g.m) (idxOf t C.vars 0) t = .no ∨ (kW (Go.Proofs.YtpiokjcbadfalaaGreatDoor.Ev.eX d i g.m) (idxOf t C.vars 0) t = kW g.m (idxOf t C.vars 0) t ∧ kW g.m (idxOf t C.vars 0) t ≠ .f i))
  rcases jV (z := idxOf t C.vars 0) (t := t) (l := Go.Proofs.YtpiokjcbadfalaaGreatDoor.Ev.eX d i g.m) with ⟨e,h1,h2,h3⟩ | ⟨h1,h2⟩
  · obtain ⟨q1,q2,q3,q4⟩ := me h1
    refine ⟨fun e'=>absurd (h2.trans e') q2,fun _=>.inr ?_⟩
    rw [h3,ac6 h.nd q1 h2]
    exact ⟨rfl,q3⟩
  · refine ⟨fun e=>by rw [h2,e]; exact hd,fun e=>?_⟩
    rw [h2]
    rcases jH (l := C.vars) (t := t) (i := 0) with ⟨j,hj⟩ | hj
    · right
      have hnone : ∀ e ∈ g.m,e.1 ≠ t := fun e he q=>by
        have := h.nv e he
        rw [q,tK hj] at this; cases this
      rcases jV (z := idxOf t C.vars 0) (t := t) (l := g.m) with ⟨x,p1,p2,_⟩ | ⟨_,p2⟩
      · exact absurd p2 (hnone x p1)
      · rw [p2]
        refine ⟨rfl,fun q=>e ?_⟩
        exact jU q hd
    · exact .inl hj
def mD (σ σ' : Nat → AV) (dst : Option Nat) (v : AV) : Prop := ∀ t,(dst = some t → σ' t = v) ∧ (dst ≠ some t → σ' t = σ t ∨ σ' t = .uu)
theorem rH {R : ab} (hR : R ≠ .fail) {g : G} (hg : fm C g) {dt : Option Nat} {k : G → Sm} {sk : Row} {fr : Fr} {hp : Hp} {v : AV} (h : (dst C g dt).p.f (k (dst C g dt).g) sk fr hp v = R) :
    ∃ g' sk' fr',(k g').run sk' fr' hp = R ∧ fm C g' ∧ mD (sig C g sk fr) (sig C g' sk' fr') dt v ∧ ∀ t,dt = some t → t < C.nt := by
  cases dt with
  | none=>exact ⟨g,sk,fr,h,hg,fun t=>⟨fun e=>(by cases e),fun _=>.inl rfl⟩,fun t e=>(by cases e)⟩
  | some d=>
    have e0 : dst C g (some d) = Bool.rec (motive := fun _=>PG) ⟨age,g⟩ (dst.dstOf C g d) (Nat.ble (Nat.succ d) C.nt) := rfl
    rw [e0] at h
    cases hb : Nat.ble (Nat.succ d) C.nt with
    | false=>rw [hb] at h; exact ah hR h
    | true=>
      rw [hb] at h
      rw [bn] at hb
      have h' : (dst.dstOf C g d).p.f (k (dst.dstOf C g d).g) sk fr hp v = R := h
      unfold dst.dstOf at h'
      cases hi : idxOf d C.vars 0 with
      | f i =>
        rw [hi] at h'
        obtain ⟨fr',hf,h2⟩ := rN hR i (k := fun fr=>(k ⟨g.d,eX d i g.m⟩).run sk fr hp) h'
        refine ⟨_,sk,fr',h2,hg.eX d i,fun t=>⟨fun e=>?_,fun e=>?_⟩,fun t e=>by cases e; exact hb⟩
        · cases e
          show sv g.d (look C ⟨g.d,eX d i g.m⟩ d) sk fr' = v
          rw [(xp hg hi d).1 rfl]
          show fr'.at i = v
          rw [hf,if_pos rfl]
        · show sv g.d (look C ⟨g.d,eX d i g.m⟩ t) sk fr' = sv g.d (look C g t) sk fr ∨ sv g.d (look C ⟨g.d,eX d i g.m⟩ t) sk fr' = .uu
          rcases (xp hg hi t).2 (fun q=>e (by rw [q])) with q | ⟨q1,q2⟩
          · rw [q]; exact .inr rfl
          · rw [q1]
            left
            cases hl : look C g t with
            | f j=>
              show fr'.at j = fr.at j
              rw [hf,if_neg]
              intro ej; rw [ej] at hl; exact q2 hl
            | _=>rfl
      | _ =>
        rw [hi] at h'
        have hnv : isVar C d = false := by
          cases hv : isVar C d with
          | false=>rfl
          | true=>
            obtain ⟨j,hj,_⟩ := tJ (i := 0) ((a4e (C := C) d).1 hv)
            rw [hj] at hi; cases hi
        refine ⟨⟨Nat.succ g.d,(d,.s g.d) :: dropKey d g.m⟩,.nd v .lf sk,fr,h',hg.push hnv (fun l e=>by cases e; exact Nat.lt_succ_self _) (Nat.le_succ _),fun t=>⟨fun e=>?_,fun e=>.inl ?_⟩,fun t e=>by cases e; exact hb⟩
        · cases e
          show sv (Nat.succ g.d) (look C ⟨Nat.succ g.d,(d,.s g.d) :: dropKey d g.m⟩ d) (.nd v .lf sk) fr = v
          rw [pD,if_pos rfl]
          show nth (.nd v .lf sk) (Nat.sub (Nat.sub (Nat.succ g.d) 1) g.d) = v
          have : Nat.sub (Nat.sub (Nat.succ g.d) 1) g.d = 0 := by show g.d + 1 - 1 - g.d = 0; omega
          rw [this]; rfl
        · show sv (Nat.succ g.d) (look C ⟨Nat.succ g.d,(d,.s g.d) :: dropKey d g.m⟩ t) (.nd v .lf sk) fr = sv g.d (look C g t) sk fr
          rw [pD,if_neg (fun q=>e (by rw [q]))]
          cases hl : look C g t with
          | s l=>
            have hlt := a9I hg hl
            show nth (.nd v .lf sk) (Nat.sub (Nat.sub (Nat.succ g.d) 1) l) = nth sk (Nat.sub (Nat.sub g.d 1) l)
            have : Nat.sub (Nat.sub (Nat.succ g.d) 1) l = Nat.sub (Nat.sub g.d 1) l + 1 := by show g.d + 1 - 1 - l = g.d - 1 - l + 1; omega
            rw [this]; rfl
          | _=>rfl
theorem zh {g : G} (hg : fm C g) {o : Oper} {rest : List Oper} {a : Nat × Src} (h : alias C g o rest = some a) (sk : Row) (fr : Fr) :
    ∃ x,(o.op = .move x ∨ o.op = .assign x) ∧ o.guard = none ∧ o.dst = some a.1 ∧ fm C ⟨g.d,a :: dropKey a.1 g.m⟩ ∧ mD (sig C g sk fr) (sig C ⟨g.d,a :: dropKey a.1 g.m⟩ sk fr) o.dst (ov C g sk fr x) := by
  have fin : ∀ (d : Nat) (x : Operand) (b : Nat × Src),isVar C d = false → (if isVar C d then none else
    (match src C g x with
     | .c v=>some (d,.c v)
     | .s l=>some (d,.s l)
     | .f i=>(match x with | .tmp t=>if writes t rest then none else some (d,.f i) | _=>none)
     | .no=>none)) = some b → b.1 = d ∧ b.2 = src C g x := by
    intro d x b hv h
    rw [hv] at h
    simp only [Bool.false_eq_true,if_false] at h
    cases hs : src C g x with
    | c v=>rw [hs] at h; cases h; exact ⟨rfl,rfl⟩
    | s l=>rw [hs] at h; cases h; exact ⟨rfl,rfl⟩
    | f i=>
      rw [hs] at h
      cases x with
      | tmp t=>
        simp only at h
        split at h
        · cases h
        · cases h; exact ⟨rfl,rfl⟩
      | _=>cases h
    | no=>rw [hs] at h; cases h
  have fin2 : ∀ (d : Nat) (x : Operand),(o.op = .move x ∨ o.op = .assign x) → o.guard = none → o.dst = some d → (if isVar C d then none else
    (match src C g x with
     | .c v=>some (d,.c v)
     | .s l=>some (d,.s l)
     | .f i=>(match x with | .tmp t=>if writes t rest then none else some (d,.f i) | _=>none)
     | .no=>none)) = some a → ∃ x,(o.op = .move x ∨ o.op = .assign x) ∧ o.guard = none ∧ o.dst = some a.1 ∧ fm C ⟨g.d,a :: dropKey a.1 g.m⟩ ∧ mD (sig C g sk fr) (sig C ⟨g.d,a :: dropKey a.1 g.m⟩ sk fr) o.dst (ov C g sk fr x) := by
    intro d x hop hgd hdst h
    have hv : isVar C d = false := by
      cases hv : isVar C d with
      | false=>rfl
      | true=>rw [hv] at h; simp at h
    obtain ⟨q1,q2⟩ := fin d x a hv h
    obtain ⟨a1,a2⟩ := a
    simp only at q1 q2
    subst q1; subst q2
    refine ⟨x,hop,hgd,hdst,hg.push hv (fun l e=>?_) (Nat.le_refl _),fun t=>⟨fun e=>?_,fun e=>.inl ?_⟩⟩
    · cases x with
      | tmp t=>exact a9I hg e
      | const v=>cases e
      | func f=>cases e
      | global n=>
        exfalso
        have e' : (List.rec (motive := fun _=>Src) .no (fun a _ ih=>Bool.rec (motive := fun _=>Src) ih (.c a.2) (Nat.beq a.1 n)) C.gl : Src) = .s l := e
        revert e'
        generalize C.gl = gl
        intro e'
        induction gl with
        | nil=>cases e'
        | cons y r ih=>
          have e2 : (Bool.rec (motive := fun _=>Src) (List.rec (motive := fun _=>Src) .no (fun a _ ih=>Bool.rec (motive := fun _=>Src) ih (.c a.2) (Nat.beq a.1 n)) r) (.c y.2) (Nat.beq y.1 n) : Src) = .s l := e'
          rw [da] at e2
          split at e2
          · cases e2
          · exact ih e2
    · rw [hdst] at e; cases e
      show sv g.d (look C ⟨g.d,(a1,src C g x) :: dropKey a1 g.m⟩ a1) sk fr = ov C g sk fr x
      rw [pD,if_pos rfl]; rfl
    · show sv g.d (look C ⟨g.d,(a1,src C g x) :: dropKey a1 g.m⟩ t) sk fr = sv g.d (look C g t) sk fr
      rw [pD,if_neg (fun q=>e (by rw [hdst,q]))]
  unfold alias at h
  split at h
  · rename_i d x hgd hdst hop
    exact fin2 d x (.inl hop) hgd hdst h
  · rename_i d x hgd hdst hop
    exact fin2 d x (.inr hop) hgd hdst h
  · cases h
end
end Go.Proofs.YtpiokjcbadfalaaGreatDoor.Ev
