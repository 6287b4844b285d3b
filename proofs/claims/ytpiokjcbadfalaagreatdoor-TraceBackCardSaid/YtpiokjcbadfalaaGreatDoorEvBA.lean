import Derived.Test.YtpiokjcbadfalaaGreatDoorEvAN
import Derived.Test.YtpiokjcbadfalaaGreatDoorEvAQ
import Derived.Test.YtpiokjcbadfalaaGreatDoorEvAZ
open Go Go.Proofs.YtpiokjcbadfalaaGreatDoor.Ev
namespace Go.Proofs.YtpiokjcbadfalaaGreatDoor.Tz
section
variable {vs : Vs} {line right outc whole : aF} (k5 : ao ⟨Tryz.prog,vs⟩ 6 line) (k33 : ao ⟨Tryz.prog,vs⟩ 26 right) (k20 : ao ⟨Tryz.prog,vs⟩ 19 outc) (k19 : ao ⟨Tryz.prog,vs⟩ 18 whole)
include k5 k33 k20 k19
theorem ahG {m a x : AV} {T : List UInt8} {z : Nat} (ht : lp line right outc whole m a x = some (T,z)) {w : World} {F : Nat → Prop} {vm va vx : Value} (hm : ai w F dI m vm) (hva : ai w F dI a va) (hx : ai w F dI x vx)
    (hg : Env.Glo ⟨Tryz.prog,vs⟩ w F) (hi : ∀ B,F B → B < w.heap.size) : z ≤ 1000 ∧ Calls Tryz.prog 8 #[vm,va,vx] w (nA (a5Q T z) w) := by
  cases hsl : iN a with
  | none=>rw [lp,hsl] at ht; cases ht
  | some p=>
  obtain ⟨t,o,n⟩ := p
  cases him : a4a m with
  | false=>rw [lp,hsl] at ht; dsimp only at ht; rw [if_neg (by rw [him]; decide)] at ht; cases ht
  | true=>
  cases hen : uz x with
  | none=>rw [lp,hsl] at ht; dsimp only at ht; rw [if_pos him,hen] at ht; cases ht
  | some p=>
  obtain ⟨xa,xb,xc⟩ := p
  obtain ⟨p0,n0,c0,p1,n1,c1,p2,n2,c2,rfl⟩ := ajt him hm
  obtain ⟨q,cap,rfl,hq⟩ := acD hsl hva
  obtain ⟨ov,fv,uv,rfl,ha,hb,hc⟩ := ajb hen hx
  have later : ∀ {w' : World} {v : AV} {u : Value},Grow w w' → ai w F dI v u → ai w' F dI v u := fun g h=>h.mono (fun B hB=>g.block B (hi B hB)) (fun _ h=>h) fun _ _ h=>h
  have rO : ∀ {w' : World},Grow w w' → Env.Glo ⟨Tryz.prog,vs⟩ w' F := fun g=>hg.mono (fun B hB=>g.block B (hi B hB)) fun _ h=>h
  have nC : ∀ {w' : World},Grow w w' → ∀ B,F B → B < w'.heap.size := fun g B hB=>Nat.lt_of_lt_of_le (hi B hB) g.size
  have callsi : ∀ {f : FuncId} {G : aF} {l : Row} {args : Array Value} {s : List UInt8} {c : Nat} {w' : World},ao ⟨Tryz.prog,vs⟩ f G → oZ (eJ (G.f l .empty)) = some (s,c) → Grow w w' → kM w' F dI l args → Calls Tryz.prog f args w' (nA (a5Q s c) w') := fun {f G l args s c w'} hG e g harg=>by
    cases hv : eJ (G.f l .empty) with
    | none=>rw [hv] at e; cases e
    | some v=>
      rw [hv] at e
      exact (ao.top hG hv (rO g) (nC g) harg).mono fun e' w'' ⟨u,e1,hb,F',μ',hu⟩=>⟨by rw [e1,(ave e hu).1],hb⟩
  have bnd : ∀ {r : ab} {s : List UInt8} {c : Nat},oZ (eJ r) = some (s,c) → c ≤ 1000 ∧ s.length ≤ 1000000 := fun {r s c} e=>by
    cases hv : eJ r with
    | none=>rw [hv] at e; cases e
    | some v=>
      rw [hv] at e
      unfold oZ at e
      split at e
      · split at e
        · rename_i hh
          injection e with e
          injection e with e1 e2
          subst e1 e2
          exact ⟨hh.2.1,by rw [sY]; exact hh.2.2⟩
        · cases e
      · cases e
  have sB : ∀ j,(sJ line m t o j).length ≤ 1000000 := fun j=>by
    unfold sJ
    cases e : oZ (eJ (line.f (.nd m .lf (.nd (t.at (o + j)) .lf .lf)) .empty)) with
    | none=>exact Nat.zero_le _
    | some p=>exact (bnd (s := p.1) (c := p.2) e).2
  by_cases hn : 2000 < n
  · rw [ye hsl him hen hn] at ht
    injection ht with ht
    injection ht with h1 h2
    subst h1 h2
    refine ⟨by decide,kK w p0 p1 p2 n0 n1 n2 c0 c1 c2 q n cap (fun _=>⟨0,0,0,0,0,0,0⟩) ov fv uv (fun _=>[]) (fun _=>0) false [] 0 [] [] [] 4 (fun h=>absurd h (by omega)) (fun _=>Nat.zero_le _) (Nat.zero_le _) (Nat.zero_le _) (Nat.zero_le _) (fun h=>absurd h (by omega)) (fun h=>absurd h (by omega)) (fun h=>absurd h (by omega)) (fun h=>absurd h (by omega)) ⟨fun _=>⟨rfl,rfl⟩,fun h=>absurd h (by omega)⟩⟩
  · cases hlin : fZ line m t o n 0 [] with
    | none=>rw [lp,hsl] at ht; dsimp only at ht; rw [if_pos him,hen] at ht; dsimp only at ht; rw [if_neg hn,hlin] at ht; cases ht
    | some p=>
    obtain ⟨acc,ce⟩ := p
    have hat : ∀ j,(∀ i,i < j → ((cJ line m t o i : Nat) : Int) = 0) → j < n → (∀ j,j < n → (∀ i,i < j → ((cJ line m t o i : Nat) : Int) = 0) → nU line m t o j) → nU line m t o j := fun j h1 h2 h3=>h3 j h2 h1
    have mkat : (∀ j,j < n → (∀ i,i < j → ((cJ line m t o i : Nat) : Int) = 0) → nU line m t o j) → MkAt w q n (fun j=>mkV (t.at (o + j))) (fun j=>((cJ line m t o j : Nat) : Int)) := fun h3 _=>by
      rcases hq with h | ⟨b,off,e,_,h⟩
      · exact .inl h
      · exact .inr ⟨b,off,e,fun j hj hz=>(h j hj (h3 j hj hz).1).1⟩
    have C5 : (∀ j,j < n → (∀ i,i < j → ((cJ line m t o i : Nat) : Int) = 0) → nU line m t o j) → n ≤ 2000 → ∀ j,j < n → (∀ i,i < j → ((cJ line m t o i : Nat) : Int) = 0) → ∀ w',Grow w w' → Calls Tryz.prog 6 #[.agg #[.slice p0 n0 c0,.slice p1 n1 c1,.slice p2 n2 c2],(mkV (t.at (o + j))).agg] w' (nA (a5Q (sJ line m t o j) ((cJ line m t o j : Nat) : Int)) w') := fun h3 _ j hj hz w' g=>by
      have hgd := h3 j hj hz
      rcases hq with h | ⟨b,off,e,_,h⟩
      · omega
      · exact callsi k5 hgd.2 g (anO (later g hm) (later g (h j hj hgd.1).2))
    rcases zY line m t o n n 0 acc ce (Nat.zero_add n) hlin (fun j hj=>absurd hj (Nat.not_lt_zero j)) with ⟨rfl,hacc,hall⟩ | ⟨k,hk,hbef,hgk,hck,hce,hacc⟩
    · have good : ∀ j,j < n → (∀ i,i < j → ((cJ line m t o i : Nat) : Int) = 0) → nU line m t o j := fun j hj _=>(hall j hj).1
      rw [a5M hsl him hen hn hlin] at ht
      have hz : ∀ j,j < n → ((cJ line m t o j : Nat) : Int) = 0 := fun j hj=>by rw [(hall j hj).2]; rfl
      cases h33 : bOf (eJ (right.f (.nd x .lf .lf) .empty)) with
      | none=>rw [mn,h33] at ht; cases ht
      | some r=>
      have C33 : n ≤ 2000 → (∀ i,i < n → ((cJ line m t o i : Nat) : Int) = 0) → ∀ w',Grow w w' → Calls Tryz.prog 26 #[.agg #[.int .u8 ov,.int .i64 fv,.int .i64 uv]] w' (nA (.bool r) w') := fun _ _ w' g=>by
        cases hv : eJ (right.f (.nd x .lf .lf) .empty) with
        | none=>rw [hv] at h33; cases h33
        | some v=>
          rw [hv] at h33
          exact (ao.top k33 hv (rO g) (nC g) (a6D (later g hx))).mono fun e' w'' ⟨u,e1,hb,F',μ',hu⟩=>⟨by rw [e1,b_val h33 hu],hb⟩
      cases r with
      | false=>
        rw [a5J h33] at ht
        injection ht with ht
        injection ht with h1 h2
        subst h1 h2
        exact ⟨by decide,kK w p0 p1 p2 n0 n1 n2 c0 c1 c2 q n cap (fun j=>mkV (t.at (o + j))) ov fv uv (sJ line m t o) (fun j=>((cJ line m t o j : Nat) : Int)) false [] 0 [] [] [] 8 (mkat good) sB (Nat.zero_le _) (Nat.zero_le _) (Nat.zero_le _) (C5 good) C33 (fun _ _ h=>absurd h (by decide)) (fun _ _ h=>absurd h (by decide))
          ⟨fun h=>absurd h hn,fun _=>⟨fun k hk _ h=>absurd (hz k hk) h,fun _=>⟨fun _=>⟨rfl,rfl⟩,fun h=>absurd h (by decide)⟩⟩⟩⟩
      | true=>
        cases h20 : oZ (eJ (outc.f (.nd xa .lf .lf) .empty)) with
        | none=>rw [mn,h33] at ht; dsimp only at ht; rw [h20] at ht; cases ht
        | some p=>
        obtain ⟨word,cw⟩ := p
        have b20 := bnd h20
        have C20 : n ≤ 2000 → (∀ i,i < n → ((cJ line m t o i : Nat) : Int) = 0) → true = true → ∀ w',Grow w w' → Calls Tryz.prog 19 #[.int .u8 ov] w' (nA (a5Q word (cw : Int)) w') := fun _ _ _ w' g=>callsi k20 h20 g (a6D (later g ha))
        by_cases hcw : cw = 0
        · subst hcw
          cases h1 : sOf (eJ (whole.f (.nd xb .lf .lf) .empty)) with
          | none=>rw [mn,h33] at ht; dsimp only at ht; rw [h20] at ht; dsimp only at ht; rw [if_pos rfl,h1] at ht; cases ht
          | some fl=>
          cases h2 : sOf (eJ (whole.f (.nd xc .lf .lf) .empty)) with
          | none=>rw [mn,h33] at ht; dsimp only at ht; rw [h20] at ht; dsimp only at ht; rw [if_pos rfl,h1] at ht; dsimp only at ht; rw [h2] at ht; cases ht
          | some ul=>
          rw [a5K h33 h20 h1 h2] at ht
          injection ht with ht
          injection ht with e1 e2
          subst e1 e2
          have c19 : ∀ {v : AV} {i : Int} {s : List UInt8} {w' : World},sOf (eJ (whole.f (.nd v .lf .lf) .empty)) = some s → ai w F dI v (.int .i64 i) → Grow w w' → Calls Tryz.prog 18 #[.int .i64 i] w' (nA (qV s) w') ∧ s.length ≤ 1000000 := fun {v i s w'} e hv g=>by
            cases hvo : eJ (whole.f (.nd v .lf .lf) .empty) with
            | none=>rw [hvo] at e; cases e
            | some v'=>
              rw [hvo] at e
              refine ⟨(ao.top k19 hvo (rO g) (nC g) (a6D (later g hv))).mono fun e' w'' ⟨u,e1,hb,F',μ',hu⟩=>⟨by rw [e1,(s_val e hu).1],hb⟩, ?_⟩
              unfold sOf at e
              split at e
              · split at e
                · injection e with e; subst e; rw [sY]; assumption
                · cases e
              · cases e
          refine ⟨by decide,kK w p0 p1 p2 n0 n1 n2 c0 c1 c2 q n cap (fun j=>mkV (t.at (o + j))) ov fv uv (sJ line m t o) (fun j=>((cJ line m t o j : Nat) : Int)) true word 0 fl ul (acc ++ a14 word fl ul) 0 (mkat good) sB b20.2 (c19 h1 hb (RowKit.Below.refl _ _)).2 (c19 h2 hc (RowKit.Below.refl _ _)).2 (C5 good) C33 C20 (fun _ _ _ _ w' g=>⟨(c19 h1 hb g).1,(c19 h2 hc g).1⟩)
            ⟨fun h=>absurd h hn,fun _=>⟨fun k hk _ h=>absurd (hz k hk) h,fun _=>⟨fun h=>absurd h (by decide),fun _=>⟨fun h=>absurd rfl h,fun _=>⟨by rw [hacc],rfl⟩⟩⟩⟩⟩⟩
        · have e : mn right outc whole x xa xb xc acc = some ([],cw) := by
            rw [mn,h33]; dsimp only; rw [h20]; dsimp only; rw [if_neg hcw]
          rw [e] at ht
          injection ht with ht
          injection ht with e1 e2
          subst e1 e2
          exact ⟨b20.1,kK w p0 p1 p2 n0 n1 n2 c0 c1 c2 q n cap (fun j=>mkV (t.at (o + j))) ov fv uv (sJ line m t o) (fun j=>((cJ line m t o j : Nat) : Int)) true word cw [] [] [] cw (mkat good) sB b20.2 (Nat.zero_le _) (Nat.zero_le _) (C5 good) C33 C20 (fun _ _ _ h=>absurd h (by omega))
            ⟨fun h=>absurd h hn,fun _=>⟨fun k hk _ h=>absurd (hz k hk) h,fun _=>⟨fun h=>absurd h (by decide),fun _=>⟨fun _=>⟨rfl,rfl⟩,fun h=>absurd h (by omega)⟩⟩⟩⟩⟩
    · have good : ∀ j,j < n → (∀ i,i < j → ((cJ line m t o i : Nat) : Int) = 0) → nU line m t o j := fun j hj hz=>by
        rcases Nat.lt_trichotomy j k with h | rfl | h
        · exact (hbef j h).1
        · exact hgk
        · have := hz k h; omega
      rw [a0v hsl him hen hn hlin (by rw [hce]; exact hck)] at ht
      injection ht with ht
      injection ht with e1 e2
      subst e1 e2
      refine ⟨by rw [hce]; exact (bnd hgk.2).1,kK w p0 p1 p2 n0 n1 n2 c0 c1 c2 q n cap (fun j=>mkV (t.at (o + j))) ov fv uv (sJ line m t o) (fun j=>((cJ line m t o j : Nat) : Int)) false [] 0 [] [] [] ce (mkat good) sB (Nat.zero_le _) (Nat.zero_le _) (Nat.zero_le _) (C5 good) (fun _ h=>absurd (h k hk) (by omega)) (fun _ _ h=>absurd h (by decide)) (fun _ _ h=>absurd h (by decide))
        ⟨fun h=>absurd h hn,fun _=>⟨fun j hj hz h=>?_,fun h=>absurd (h k hk) (by dsimp only; omega)⟩⟩⟩
      rcases Nat.lt_trichotomy j k with h' | rfl | h'
      · exact absurd (by dsimp only; rw [(hbef j h').2]; rfl) h
      · exact ⟨rfl,by rw [hce]⟩
      · have := hz k h'; dsimp only at this; omega
theorem ahF : ao ⟨Tryz.prog,vs⟩ 8 (a5L line right outc whole) := by
  intro l hp R h hR
  unfold a5L at h
  dsimp only at h
  split at h
  · rename_i m _ a _ x _
    split at h
    · split at h
      · rename_i T z ht
        subst h
        refine ⟨⟨_,Tryz.func8,by kernel_rfl,by kernel_rfl⟩,_,_,rfl,fun w μ F args n hH ha=>?_⟩
        have hμ : μ = dI := funext fun b=>by
          cases hb : μ b with
          | none=>rfl
          | some mm=>exact absurd (hH.kR b mm hb).1 (Nat.not_lt_zero _)
        subst hμ
        obtain ⟨vm,va,vx,rfl,hm,hva,hx⟩ := args3 ha
        obtain ⟨hz,hc⟩ := ahG k5 k33 k20 k19 ht hm hva hx hH.rO hH.nC
        refine callsIn_wide.2 (hc.mono fun e w' ⟨e1,g⟩=>⟨_,e1,dI,F,sL (a5p T) (aau ?_), ?_,.grow g⟩)
        · unfold jR; omega
        · exact hH.grow g.size g.block (fun _ h=>h) (fun _ h=>.inl h) fun B hB=>Nat.lt_of_lt_of_le (hH.nC B hB) g.size
      · exact absurd h.symm hR
    · exact absurd h.symm hR
  · exact absurd h.symm hR
end
end Go.Proofs.YtpiokjcbadfalaaGreatDoor.Tz
namespace Go.Proofs.YtpiokjcbadfalaaGreatDoor.Tz
def xF (r : Nat) : Bool := !(Nat.beq r 45 || (Nat.ble 48 r && Nat.ble r 57))
set_option maxRecDepth 100000 in
theorem num1 (r : Nat) (W : World) : Calls Tryz.prog 39 #[.int .i32 r] W fun e w'=>e = .returned (.bool (xF r)) ∧ ∃ q,w' = W.drewN q := by
  by_cases h1 : r = 45
  · subst h1
    go_enter Tryz.func39,Tryz.ntmps39
    go_wp2_with fail
    go_ret
    exact ⟨rfl,0,rfl⟩
  · have t1 : ((r : Int) != 45) = true := by simp; omega
    by_cases h2 : r < 48
    · have t2 : decide ((r : Int) < 48) = true := by simp; omega
      have e : xF r = true := by
        unfold xF
        rw [show Nat.beq r 45 = false from by rw [← Bool.not_eq_true]; intro h; exact h1 (Nat.eq_of_beq_eq_true h),show Nat.ble 48 r = false from by rw [← Bool.not_eq_true]; intro h; have := Nat.le_of_ble_eq_true h; omega]
        rfl
      rw [e]
      go_enter Tryz.func39,Tryz.ntmps39
      go_wp2_with fail
      go_ret
      exact ⟨rfl,0,rfl⟩
    · have t2 : decide ((r : Int) < 48) = false := by simp; omega
      have e : xF r = decide ((57 : Int) < (r : Int)) := by
        unfold xF
        rw [show Nat.beq r 45 = false from by rw [← Bool.not_eq_true]; intro h; exact h1 (Nat.eq_of_beq_eq_true h),show Nat.ble 48 r = true from Nat.ble_eq_true_of_le (by omega)]
        by_cases h3 : r ≤ 57
        · rw [Nat.ble_eq_true_of_le h3,decide_eq_false (by omega)]; rfl
        · rw [show Nat.ble r 57 = false from by rw [← Bool.not_eq_true]; intro h; exact h3 (Nat.le_of_ble_eq_true h),decide_eq_true (by omega)]; rfl
      rw [e]
      go_enter Tryz.func39,Tryz.ntmps39
      go_wp2_with fail
      go_ret
      exact ⟨rfl,0,rfl⟩
theorem a04 (c : UInt8) : xF c.toNat = !eH c := rfl
theorem a05 {r : Nat} (h : 128 ≤ r) : xF r = true := by
  unfold xF
  rw [show Nat.beq r 45 = false from by rw [← Bool.not_eq_true]; intro h2; have := Nat.eq_of_beq_eq_true h2; omega,show Nat.ble r 57 = false from by rw [← Bool.not_eq_true]; intro h2; have := Nat.le_of_ble_eq_true h2; omega]
  cases Nat.ble 48 r <;> rfl
theorem uP (c : UInt8) (l : List UInt8) : bK (c :: l) = if eH c then bK l + 1 else 0 := by
  show Bool.rec (motive := fun _=>Nat) 0 (Nat.succ (bK l)) (eH c) = _
  cases eH c <;> rfl
theorem lY : ∀ l : List UInt8,bK l ≤ l.length
  | []=>Nat.le_refl _
  | c :: l=>by
    rw [uP]
    have := lY l
    split <;> simp only [List.length_cons] <;> omega
theorem a7e {c : UInt8} (h : 128 ≤ c.toNat) : eH c = false := by
  have := a05 h
  rw [a04] at this
  cases hb : eH c with
  | false=>rfl
  | true=>rw [hb] at this; cases this
theorem idx_eq (s : ByteArray) : ∀ f pos,s.size ≤ pos + f → Lib.idxFuncFrom xF true s f pos = if bK (s.data.toList.drop pos) = (s.data.toList.drop pos).length then -1 else ((pos + bK (s.data.toList.drop pos) : Nat) : Int)
  | 0,pos,h=>by
    have : s.data.toList.drop pos = [] := List.drop_eq_nil_of_le (by show s.data.toList.length ≤ pos; have : s.data.toList.length = s.size := rfl; omega)
    rw [this]; rfl
  | f + 1,pos,h=>by
    have hl : s.data.toList.length = s.size := rfl
    by_cases hp : pos < s.size
    · have hd : s.data.toList.drop pos = s[pos]'hp :: s.data.toList.drop (pos + 1) := List.drop_eq_getElem_cons (by omega)
      have hle := lY (s.data.toList.drop (pos + 1))
      rw [hd,uP,Lib.idxFuncFrom,if_pos hp]
      by_cases ha : (s[pos]'hp).toNat < 128
      · rw [decode_ascii s pos hp ha]
        dsimp only
        rw [a04]
        cases hb : eH (s[pos]'hp) with
        | false=>
          simp only [Bool.not_false,if_true,Bool.false_eq_true,if_false,List.length_cons]
          rw [if_neg (by omega)]
          rfl
        | true=>
          rw [idx_eq s f (pos + 1) (by omega)]
          simp only [Bool.not_true,Bool.false_eq_true,if_false,if_true,List.length_cons,Nat.add_right_cancel_iff]
          split
          · rfl
          · congr 1; omega
      · have hh := decode_high s pos hp (by omega)
        rw [if_pos (a05 hh.1),a7e (by omega)]
        simp only [Bool.false_eq_true,if_false,List.length_cons]
        rw [if_neg (by omega)]
        rfl
    · rw [Lib.idxFuncFrom,if_neg hp,List.drop_eq_nil_of_le (by omega)]
      rfl
theorem wO (l : List UInt8) : ixN l = if bK l = l.length then -1 else (bK l : Int) := by
  unfold ixN
  cases hb : Nat.beq (bK l) l.length with
  | true=>rw [if_pos (Nat.eq_of_beq_eq_true hb)]
  | false=>rw [if_neg fun h=>by rw [h,Nat.beq_refl] at hb; cases hb]
theorem ajr (s : ByteArray) : Lib.idxFunc xF true s = ixN s.data.toList := by
  unfold Lib.idxFunc
  rw [idx_eq s s.size 0 (by omega),wO,List.drop_zero]
  split
  · rfl
  · rw [Nat.zero_add]
theorem ajz {vs : Vs} : ao ⟨Tryz.prog,vs⟩ 38 (ixfF 39) := by
  refine ao.known ⟨_,Tryz.func38,by kernel_rfl,by kernel_rfl⟩ fun l hp R h hR=>?_
  obtain ⟨a,_,r,rfl,h1⟩ := dw hR h
  obtain ⟨b,_,r,rfl,h2⟩ := dw hR h1
  obtain ⟨rfl,h3⟩ := kb hR h2
  obtain ⟨s,n,rfl,h4⟩ := bW hR h3
  obtain ⟨g,tt,c,x,y,rfl,h5⟩ := n7 hR h4
  obtain ⟨hg,h6⟩ := an hR h5
  obtain ⟨hc,h7⟩ := an hR h6
  obtain ⟨hx,h8⟩ := an hR h7
  obtain ⟨hy,h9⟩ := an hR h8
  obtain ⟨hn,h10⟩ := an hR h9
  rw [aC] at hg hc hx hy
  rw [bn] at hn
  subst hg hc hx hy
  refine ⟨_,h10.symm,fun w F μ args hgl ha=>?_⟩
  obtain ⟨vs',vf,rfl,hs,hf⟩ := zk ha
  cases hs with
  | str=>
  rename_i b1
  cases hf with
  | fn us e1 e2 e3 e4 e5 e6=>
  rename_i fs cs
  obtain rfl : fs = #[] := Array.eq_empty_of_size_eq_zero e1
  obtain rfl : cs = #[] := Array.eq_empty_of_size_eq_zero e2
  rw [show yj b1.size (aR b1.data.toList) = b1.data.toList from fM b1.data.toList]
  refine (Tryz.strings_IndexFunc_runes 39 #[] (fun args w=>jN ⟨_,Tryz.func39,by kernel_rfl,by kernel_rfl⟩ args w) xF b1 w (fun W r _ _=>num1 r W)).mono fun e w' ⟨h1,h2⟩=>⟨_,h1,h2, ?_⟩
  rw [ajr]
  refine aau ?_
  have hl : b1.data.toList.length ≤ 4294967280 := hn
  have := lY b1.data.toList
  unfold jR
  rw [wO]
  split <;> omega
theorem sp_nl {c : UInt8} {l : List UInt8} : aO c (c :: l) = [] :: aO c l := by
  show (Bool.rec (motive := fun _=>List (List UInt8)) _ ([] :: aO c l) (Nat.beq c.toNat c.toNat)) = _
  rw [Nat.beq_refl]
theorem aaA {c b : UInt8} {l p : List UInt8} {r : List (List UInt8)} (h : b ≠ c) (e : aO c l = p :: r) : aO c (b :: l) = (b :: p) :: r := by
  show (Bool.rec (motive := fun _=>List (List UInt8)) (List.rec (motive := fun _=>List (List UInt8)) [[b]] (fun p r _=>(b :: p) :: r) (aO c l)) ([] :: aO c l) (Nat.beq b.toNat c.toNat)) = _
  have : Nat.beq b.toNat c.toNat = false := by
    rw [← Bool.not_eq_true]; intro h2; exact h (UInt8.toNat_inj.1 (Nat.eq_of_beq_eq_true h2))
  rw [e,this]
theorem a5D (c : UInt8) : ∀ s : List UInt8,Lib.splitK [c] 0 (s.count c) s = aO c s
  | []=>rfl
  | b :: t=>by
    have ih := a5D c t
    by_cases h : b = c
    · subst h
      rw [List.count_cons_self,Lib.splitK,Lib.index_one]
      have e : Lib.indexByte (b :: t) b = 0 := by unfold Lib.indexByte; rw [if_pos (beq_self_eq_true b)]
      rw [e,if_neg (by decide),sp_nl,← ih]
      rfl
    · rw [List.count_cons_of_ne h]
      cases hk : t.count c with
      | zero=>
        rw [hk] at ih
        rw [aaA h ih.symm]
        rfl
      | succ k=>
        rw [hk] at ih
        have hmem : c ∈ t := List.count_pos_iff.1 (by omega)
        have hne : Lib.indexByte t c ≠ -1 := fun e=>by
          obtain ⟨i,hi,hc⟩ := List.mem_iff_getElem.1 hmem
          exact Lib.indexByte_none e i (by rw [List.getElem?_eq_getElem hi,hc])
        have hge := Lib.indexByte_ge t c
        obtain ⟨i,hi⟩ : ∃ i : Nat,Lib.indexByte t c = i := ⟨(Lib.indexByte t c).toNat,by omega⟩
        have e : Lib.indexByte (b :: t) c = ((i + 1 : Nat) : Int) := by
          unfold Lib.indexByte
          rw [if_neg (by simpa using h),hi,if_neg (by rw [beq_iff_eq]; omega)]
          omega
        rw [Lib.splitK,Lib.index_one,hi,if_neg (by rw [beq_iff_eq]; omega)] at ih
        rw [Lib.splitK,Lib.index_one,e,if_neg (by rw [beq_iff_eq]; omega),aaA h ih.symm]
        have e1 : (((i + 1 : Nat) : Int)).toNat = i + 1 := rfl
        have e2 : ((i : Int)).toNat = i := rfl
        rw [e1,e2]
        rfl
theorem tQ : ∀ {l : List AV} {i : Nat} {v : AV},l[i]? = some v → nth (aA l) i = v
  | [],i,v,h=>by simp at h
  | a :: l,0,v,h=>Option.some.inj h
  | a :: l,i + 1,v,h=>tQ (l := l) (i := i) h
theorem uc {vs : Vs} (hG : ∀ w,vs.G w → ∃ m,w.cell? ⟨0,0,none⟩ = some (.int .i64 m)) : ao ⟨Tryz.prog,vs⟩ 28 y8 := by
  intro l hp R h hR
  obtain ⟨a,_,r,rfl,h1⟩ := dw hR h
  obtain ⟨b,_,r,rfl,h2⟩ := dw hR h1
  obtain ⟨rfl,h3⟩ := kb hR h2
  obtain ⟨s,n,rfl,h4⟩ := bW hR h3
  obtain ⟨t,m,rfl,h5⟩ := bW hR h4
  obtain ⟨hm,h6⟩ := an hR h5
  obtain ⟨hn,h7⟩ := an hR h6
  rw [aC] at hm
  rw [bn] at hn
  subst hm
  dsimp only at h7
  obtain ⟨tr,htr,h8⟩ := xP (z := 1) oL hR _ h7
  obtain ⟨hp',h9,hs,hid⟩ := vK oL hR rfl rfl h8
  refine ⟨⟨_,Tryz.func28,by kernel_rfl,by kernel_rfl⟩,_,hp',h9.symm,fun w μ F args k hH ha=>?_⟩
  obtain ⟨x,y,rfl,hx,hy⟩ := zk ha
  obtain ⟨bs,rfl,rfl,rfl⟩ := iT hx
  obtain ⟨bt,rfl,h1t,rfl⟩ := iT hy
  obtain ⟨mm,hmm⟩ := hG w hH.rO.1
  have hone : ∃ c : UInt8,bt.data.toList = [c] := by
    have : bt.data.toList.length = 1 := h1t.symm
    match hb : bt.data.toList with
    | [c]=>exact ⟨c,rfl⟩
    | []=>rw [hb] at this; cases this
    | _ :: _ :: _=>rw [hb] at this; cases this
  obtain ⟨c,hc⟩ := hone
  have hps : aO (aR bt.data.toList).toUInt8 (yj bs.size (aR bs.data.toList)) = aO c bs.data.toList := by
    rw [show yj bs.size (aR bs.data.toList) = bs.data.toList from fM _,hc]
    congr 1
    show (c.toNat + 256 * 0).toUInt8 = c
    simp
  rw [hps] at htr hs
  have hdat : (Lib.splitB bt 0 (Lib.countB bs bt) bs).map (·.data.toList) = aO c bs.data.toList := by
    rw [Lib.splitB_data,hc,← a5D,← Lib.count_one,← hc]
  generalize hL : Lib.splitB bt 0 (Lib.countB bs bt) bs = L at hdat
  have hlen : L.length = (aO c bs.data.toList).length := by rw [← hdat,List.length_map]
  have hcnt : Lib.countB bs bt + 1 = (aO c bs.data.toList).length := by
    rw [← hlen,← hL]
    exact (Lib.splitB_all bt (by omega) 0 _ bs rfl).symm
  refine callsIn_wide.2 ((Tryz.strings_Split bs bt mm w (by omega) hmm (by omega)).mono fun e w' ⟨e1,e2⟩=>?_)
  rw [hL] at e2
  have hcells : ∀ i,i < (aO c bs.data.toList).length → ∃ y,((L.map Value.string).toArray)[i]? = some y ∧ y.oneCell' = true ∧ ai w F μ (cellAt 1 tr i) y := fun i hi=>by
    have hiL : i < L.length := by omega
    refine ⟨.string L[i], ?_,rfl, ?_⟩
    · rw [List.getElem?_toArray,List.getElem?_map,List.getElem?_eq_getElem hiL]; rfl
    · rw [htr i,if_pos ⟨Nat.zero_le _,by omega⟩,Nat.sub_zero]
      have e : nth (aA ((aO c bs.data.toList).map S)) i = S L[i].data.toList := by
        have hg : (aO c bs.data.toList)[i]? = some L[i].data.toList := by
          rw [← hdat,List.getElem?_map,List.getElem?_eq_getElem hiL]; rfl
        exact tQ (by rw [List.getElem?_map,hg]; rfl)
      rw [e]
      exact a5p _
  have hid0 : μ hp.nx = none := pE hH
  obtain ⟨hH',hE⟩ := hH.row hid0 (w' := w') (c := (L.map Value.string).toArray) (T := 9) (fz := (0,0)) (by rw [e2]; rfl) hs hid (.inl rfl) hcells (fun _ i hi=>by
    rw [htr i,if_pos ⟨Nat.zero_le _,by omega⟩,Nat.sub_zero]
    obtain ⟨x,hx⟩ : ∃ x,(aO c bs.data.toList)[i]? = some x := ⟨_,List.getElem?_eq_getElem hi⟩
    rw [tQ (v := S x) (by rw [List.getElem?_map,hx]; rfl)]
    rfl) (by rw [e2]; exact ⟨rfl,rfl⟩)
  refine ⟨_,e1,_,F, ?_,hH',.of hE fun b hb=>?_⟩
  · rw [hcnt,hps]
    have := ai.ms (w := w') (F := F) (o := 0) (n := (aO c bs.data.toList).length) (z := 1) (c := (aO c bs.data.toList).length) (bc μ hp.nx ⟨w.heap.size,0,(L.map Value.string).toArray.size⟩) (Nat.le_refl _) (by simp; omega)
    exact this
  · by_cases h : b = hp.nx
    · exact .inr (by omega)
    · rw [dC μ _ h] at hb; exact .inl hb
end Go.Proofs.YtpiokjcbadfalaaGreatDoor.Tz
namespace Go.Proofs.YtpiokjcbadfalaaGreatDoor.Ev
theorem acE {V : Env} {f : FuncId} {G : aF} (hG : ao V f G) (hS : ao V f y8) : ao V f (ahu G) := by
  intro l hp R h hR
  obtain ⟨a,_,r,rfl,h1⟩ := dw hR h
  obtain ⟨b,_,r,rfl,h2⟩ := dw hR h1
  obtain ⟨t,m,rfl,h3⟩ := bW hR h2
  cases hm : Nat.beq m 1 with
  | true=>rw [hm] at h3; exact hS _ _ _ h3 hR
  | false=>rw [hm] at h3; exact hG _ _ _ h3 hR
end Go.Proofs.YtpiokjcbadfalaaGreatDoor.Ev
