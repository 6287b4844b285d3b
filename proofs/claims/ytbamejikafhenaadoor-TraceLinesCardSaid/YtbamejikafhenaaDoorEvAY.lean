import Derived.Test.YtbamejikafhenaaDoorEvAN
import Derived.Test.YtbamejikafhenaaDoorEvAO
import Derived.Test.YtbamejikafhenaaDoorEvAP
import Derived.Test.YtbamejikafhenaaDoorEvAR
import Derived.Test.YtbamejikafhenaaDoorEvAX
import Derived.WideShapes
import Derived.StillTailTactics
import Derived.WalkKit
import Derived.WalkSpells
import Derived.WalkLawsBesides
import Derived.Lib.Hide
import Derived.BigQuiet
import Derived.WalkSmall
import Derived.Shelf.Strings.Builder1
import Derived.Shelf.Small.Strs
import Derived.Shelf.Small.Wraps
import Derived.Shelf.Strings.BuilderF
import Derived.Shelf.Strings.BuilderK
import Derived.Shelf.Utf8.RuneCount
import Derived.Shelf.Strings.Search1
import Derived.Shelf.Strings.Search2
import Derived.Shelf.Strings.Search3
import Derived.Shelf.Strings.Cut
import Derived.Shelf.Strings.Count
import Derived.Shelf.LaysM
import Derived.Shelf.Strings.Shaped
import Derived.Shelf.Strings.LastIndex
import Derived.Shelf.Strings.LastIndexAll
import Derived.Shelf.GgClosure.StringsIndexFunc
import Derived.Ground.GgwProg
import Derived.Shelf.GgClosure.StringsIndexFuncTop
import Derived.Shelf.GgClosure.StringsRunes
import Derived.Shelf.Strings.Prefix
import Derived.Shelf.Strings.Split
import Derived.Shelf.Strings.SplitShaped
import Derived.Shelf.Unicode.Decode
import Derived.Shelf.Strings.RuneCount
import Derived.Shelf.Strings.Explode
import Derived.Shelf.Unicode.DecodeSlow
import Derived.Shelf.Unicode.DecodeAny
import Derived.Shelf.Strings.FuncGrows
import Derived.Shelf.Strings.BuilderCap
import Derived.Shelf.Slices.Turned
import Derived.Ground.PaProg
import Derived.Shelf.Path.Small
import Derived.Test.YtbamejikafhenaaDoorProg
open Go Go.Proofs.YtbamejikafhenaaDoor.Ev
namespace Go.Proofs.YtbamejikafhenaaDoor.Tz
attribute [local irreducible] mem
set_option linter.unusedSimpArgs false
attribute [local congr] di aJ bM dh dm bj de cm aW cf cn c9 bh bK bH aX eJ cg cb cj bm bk aK aO eG bG cq bL bO bD bF ck c7 bl bJ dd bE bI bC cN fK
set_option maxHeartbeats 8000000
theorem abB {x : Mk} {k : AV → aa} : (wi (.cells [5, 5, 5, 5, 6, 5, 6]) .eql).f (.agg (aw x.l) 7) (.agg (aw x.l) 7) k = k (.bool true) := by
  show eqs [5, 5, 5, 5, 6, 5, 6] (aw x.l) (aw x.l) (fun r => k (.bool r)) = _
  simp only [Mk.l]
  show eqs [5, 5, 5, 5, 6, 5, 6] (.nd (.int 3 _) .lf (.nd (.int 3 _) .lf (.nd (.int 3 _) .lf (.nd (.int 3 _) .lf (.nd (.int 4 _) .lf (.nd (.int 3 _) .lf (.nd (.int 4 _) .lf .lf))))))) (.nd (.int 3 _) .lf (.nd (.int 3 _) .lf (.nd (.int 3 _) .lf (.nd (.int 3 _) .lf (.nd (.int 4 _) .lf (.nd (.int 3 _) .lf (.nd (.int 4 _) .lf .lf))))))) (fun r => k (.bool r)) = _
  simp only [wX]
  rw [cy (c := 3) rfl, cy (c := 3) rfl, cy (c := 3) rfl, cy (c := 3) rfl, cy (c := 4) rfl, cy (c := 3) rfl, cy (c := 4) rfl]
  rfl
theorem a8I {o : Nat} {f u : Int} {k : AV → aa} : (wi (.cells [6, 5, 5]) .eql).f (.agg (aw [B8 o, I f, I u]) 3) (.agg (aw [B8 o, I f, I u]) 3) k = k (.bool true) := by
  show eqs [6, 5, 5] (.nd (.int 4 _) .lf (.nd (.int 3 _) .lf (.nd (.int 3 _) .lf .lf))) (.nd (.int 4 _) .lf (.nd (.int 3 _) .lf (.nd (.int 3 _) .lf .lf))) (fun r => k (.bool r)) = _
  simp only [wX]
  rw [cy (c := 4) rfl, cy (c := 3) rfl, cy (c := 3) rfl]
  rfl
theorem agz {a : AV} {l : List Mk} (h : Fz 7 a (l.map Mk.av)) (hl : l.length ≤ 100000) : ∃ t, mK 7 a l.length t ∧ dV 7 l.length t fun i => (l.getD i tf).l := by
  rcases h with ⟨rfl, h⟩ | ⟨t, rfl, h⟩
  · have e : l = [] := List.map_eq_nil_iff.1 h
    subst e
    exact ⟨.lf, a2M, fun i hi => absurd hi (Nat.not_lt_zero _)⟩
  · rw [List.length_map] at h ⊢
    refine ⟨t, a1N (by omega), fun i hi => ⟨?_, rfl⟩⟩
    have e : l.getD i tf = l[i] := by rw [List.getD_eq_getElem?_getD, List.getElem?_eq_getElem hi]; rfl
    rw [h i hi, List.getD_eq_getElem?_getD, List.getElem?_map, List.getElem?_eq_getElem hi]
    show Mk.av l[i] = .agg (aw (l.getD i tf).l) 7
    rw [e]; rfl
theorem c15 {a b : AV} {l : List Mk} {hp : Hp} (ha : kj 7 hp a (l.map Mk.av)) (hb : kj 7 hp b (l.map Mk.av)) (hnx : hp.nx ≤ 1000000) (hl : l.length ≤ 100000) (k : AV → Hp → aa) : au mem false r15 (.nd a .lf (.nd b .lf .lf)) hp k = k (.bool true) hp :=
  a9F ha hb hnx (fun _ _ _ _ => rfl) (fun a' b' fa fb => by
    obtain ⟨t, t1, t2⟩ := agz fa hl
    obtain ⟨u, u1, u2⟩ := agz fb hl
    exact aiq t1 t2 u1 u2 hl) k
theorem core3 {m : cD} (h : bz m) (hm : vl m.ty = true ∧ vl m.tx = true ∧ vl m.fs = true) {M : Nat → Mk} {n : Nat} {a : AV} {t : Row} (ha : jL a = some (t, 0, n)) {x : Mk} {en : En} {s u : List UInt8} (hs : mK 7 a n t) (hR : dV 7 n t fun i => (M i).l) (hM : ∀ i, i < n → (M i).Ok) (hx : x.Ok) (he : en.Ok) (hn : m.n ≤ 40) (hall : ∀ j, j < m.n → (m.nm j).length ≤ 40 ∧ m.nc j ≤ 300) (hnn : n ≤ 100 ∨ 2000 < n ∧ n ≤ 2010) (hsl : s.length ≤ 2100) (hul : u.length ≤ 4000 ∨ 300000 < u.length ∧ u.length ≤ 300100) {q : Bool} {H : Hp} (hH0 : H.at 0 = Bx q [m.ty, m.tx, m.fs]) (hH1 : H.at 1 = Bx true x.l) (hH2 : H.at 2 = Bx true en.l) (hHn : H.nx = 3) (hHp : H.pr = []) :
    db (fin3 ((a62).run .lf (.n m.av x.av a en.av (S s) (S u) (.bool false) (.ptr 0 0) (.n (.ptr 1 0) (.ptr 2 0) .uu .uu .uu .uu .uu .uu .e)) H)) = some (.bool true) := by
  have hnc := fun i hi => (hall i hi).2
  have hnm := fun i hi => (hall i hi).1
  have L5 : ∃ (l : List UInt8) (e : Int), (0 ≤ e ∧ e ≤ 12) ∧ l.length ≤ 1000 ∧ (∀ hp k, au mem false r5 (.nd m.av .lf (.nd x.av .lf .lf)) hp k = k (.bB (.nd (S l) .lf (.nd (I e) .lf .lf)) 2) hp) ∧ (∀ hp k, au mem false r6 (.nd m.av .lf (.nd x.av .lf .lf)) hp k = k (.bB (.nd (S l) .lf (.nd (I e) .lf .lf)) 2) hp) := by
    by_cases hF : Fits m x
    · exact ⟨aQ m x, 0, by omega, mQ hF, fun hp k => by rw [c5 h hn hnc hx, if_pos hF], fun hp k => by rw [c6 h hn hnc hx, if_pos hF]⟩
    · exact ⟨[], 8, by omega, Nat.zero_le _, fun hp k => by rw [c5 h hn hnc hx, if_neg hF], fun hp k => by rw [c6 h hn hnc hx, if_neg hF]⟩
  obtain ⟨l5, z5, hz5, hl5, e5, e6⟩ := L5
  obtain ⟨x7, z7, hz7, f7, f8⟩ := aiG h hn hnc hnm (s := s) (by omega)
  have e7 := fun hp k => j6 (cD.iS h (dA (.nd (aV s) .lf))) (gB (nu (by rfl)) (gG z7)) f7 hp k
  have e8 := fun hp k => j6 (cD.iS h (dA (.nd (aV s) .lf))) (gB (nu (by rfl)) (gG z7)) f8 hp k
  have zl3 : ∀ hp k, zl (pN mem 24) (.nd m.av .lf (.nd a .lf (.nd en.av .lf .lf))) hp k = k (.nd m.av .lf (.nd a .lf (.nd en.av .lf .lf))) hp := cD.iS h fun hp k => by
    rw [abx, hs.still 23, dA (.nd En.still .lf)]
  have e9 := fun hp k => j6 zl3 (gB (oA _) (gG _)) (r9_ok h hn hnc hm ha hR hM he) hp k
  have e10 := fun hp k => j6 zl3 (gB (oA _) (gG _)) (ajf h hn hnc hs hR hM he) hp k
  have hT : ∃ T z, txR m M n en = (T, z) ∧ (0 ≤ z ∧ z ≤ 12) ∧ T.length ≤ 3000000 := by
    unfold txR
    split
    · exact ⟨[], 4, rfl, by omega, Nat.zero_le _⟩
    · split
      · rename_i hal
        split
        · refine ⟨_, 0, rfl, by omega, ?_⟩
          have h1 := sq n hal
          have h2 := a2I en
          simp only [List.length_append, List.length_cons, List.length_nil]
          omega
        · exact ⟨[], 8, rfl, by omega, Nat.zero_le _⟩
      · exact ⟨[], 8, rfl, by omega, Nat.zero_le _⟩
  obtain ⟨T9, z9, hT, hz9, hT9⟩ := hT
  rw [hT] at e9 e10
  have e13 := fun hp k => c13 h hn hnc hx hp k
  have e14 := fun hp k => c14 h hn hnc hx hp k
  have hz13 : (if Fits m x then 0 else 8 : Nat) ≤ 8 := by split <;> omega
  generalize (if Fits m x then 0 else 8 : Nat) = z13 at e13 e14 hz13
  obtain ⟨ls, xe, z11, hz11, hls, ⟨a11, h11, k1, k2, k3⟩, ⟨a12, h12, k4, k5, k6⟩⟩ := acD h hn hnc hnm (s := u) (by omega)
  simp only [cD.av, Mk.av, Mk.l, En.av, En.l] at e5 e6 e7 e8 e9 e10 e13 e14 hH1 hH2 k3 k6 ⊢
  generalize hr : fin3 _ = r
  simp +contextual (maxSteps := 2000000) (disch := (first | omega | (simp only [Y2, List.length_drop, List.length_take] <;> omega) | ((repeat' (first | exact ai | apply ab | apply aj | refine ah (by omega) ?_ ?_)) <;> (simp (disch := (first | omega | (simp only [Y5] <;> omega))) only [Y4, Nat.reduceAdd, Nat.reduceEqDiff, reduceIte, *])) | (simp (disch := omega) only [Y4, Nat.reduceAdd, Nat.reduceEqDiff, reduceIte]; done) | assumption | exact aN _ | exact aU _ | exact aT _ | exact aS _ | exact True.intro | rfl)) only [Y1, Y3, Y7, a9w, Int.reduceLT, Int.reduceLE, Int.reduceEq, Int.reduceNeg, Int.reduceToNat, Nat.reduceAdd, Nat.reduceEqDiff, reduceIte, Nat.reduceLeDiff, Nat.reduceSub, hH0, hH1, hH2, hHn, e5, e6, e7, e8, e9, e10] at hr
  generalize hK : ((((H.add (Bx _ [I 0, I 0, I 0, I 0, B8 0, I 0, B8 0])).dS 3 (Bx _ [I x7.step, I x7.g, I x7.f, I x7.at', B8 x7.op, I x7.fr, B8 x7.out])).add (Bx _ [I 0, I 0, I 0, I 0, B8 0, I 0, B8 0])).dS 4 (Bx _ [I x7.step, I x7.g, I x7.f, I x7.at', B8 x7.op, I x7.fr, B8 x7.out])) = K at hr
  have nA : ∀ B, (H.add B).nx = 4 := fun B => by rw [cZ, hHn]
  have hKn : K.nx = 5 := by subst hK; rw [eu, cZ, eu, nA]
  have hKp : K.pr = [] := by subst hK; exact hHp
  have hKl : ∀ c, c < 3 → K.at c = H.at c := fun c hc => by
    subst hK
    rw [cL (by decide) (by omega), bZ (by rw [eu, nA]; decide) (by rw [eu, nA]; omega), cL (by decide) (by omega), bZ (by rw [hHn]; decide) (by rw [hHn]; omega)]
  have hK3 : ∃ q, K.at 3 = Bx q [I x7.step, I x7.g, I x7.f, I x7.at', B8 x7.op, I x7.fr, B8 x7.out] := by
    subst hK
    rw [cL (by decide) (by decide), bZ (by rw [eu, nA]; decide) (by rw [eu, nA]; decide)]
    exact ⟨_, cB (by decide)⟩
  have hK4 : ∃ q, K.at 4 = Bx q [I x7.step, I x7.g, I x7.f, I x7.at', B8 x7.op, I x7.fr, B8 x7.out] := by
    subst hK; exact ⟨_, cB (by decide)⟩
  obtain ⟨q3, hK3⟩ := hK3
  obtain ⟨q4, hK4⟩ := hK4
  clear hK
  have rd : ∀ {F : bN} {a : AV} {hc : Hp}, kj 7 hc a (ls.map Mk.av) → hc.nx ≤ 1000000 → F.f (.nd (.agg (aw [m.ty, m.tx, m.fs]) 3) .lf (.nd (S u) .lf .lf)) .empty = .val (.bB (.nd a .lf (aw [.agg (aw [B8 xe.out, I xe.fl, I xe.us]) 3, I z11])) 3) hc → ∀ hp, hp.nx ≤ 1000000 → ∃ a' hp', a9g 7 hp a' hp' (ls.map Mk.av) ∧ ∀ k, au mem false F (.nd (.agg (aw [m.ty, m.tx, m.fs]) 3) .lf (.nd (S u) .lf .lf)) hp k = k (.bB (.nd a' .lf (.nd (.agg (aw [B8 xe.out, I xe.fl, I xe.us]) 3) .lf (.nd (I z11) .lf .lf))) 3) hp' :=
    fun ha hc e hp hnx => yh dD (cD.iS h (dA (.nd (aV u) .lf))) (a8a (l := [_, _]) fun v hv => by
      rcases List.mem_cons.1 hv with rfl | hv
      · exact nu (by rfl)
      · rw [List.mem_singleton.1 hv]; exact gG _) ha hc hnx e
  obtain ⟨a', h', ⟨T1, T2, T3, T4, T5, T6⟩, e11⟩ := rd k1 k2 k3 K (by omega)
  have g0 : h'.at 0 = Bx q [m.ty, m.tx, m.fs] := by rw [T5 0 (by omega), hKl 0 (by decide), hH0]
  have g1 : h'.at 1 = Bx true [I x.step, I x.g, I x.f, I x.at', B8 x.op, I x.fr, B8 x.out] := by rw [T5 1 (by omega), hKl 1 (by decide), hH1]
  have g3 : h'.at 3 = Bx q3 [I x7.step, I x7.g, I x7.f, I x7.at', B8 x7.op, I x7.fr, B8 x7.out] := by rw [T5 3 (by omega), hK3]
  have g4 : h'.at 4 = Bx q4 [I x7.step, I x7.g, I x7.f, I x7.at', B8 x7.op, I x7.fr, B8 x7.out] := by rw [T5 4 (by omega), hK4]
  have hpr' : h'.pr = [] := T4.trans hKp
  rw [e11] at hr
  simp +contextual (maxSteps := 2000000) (disch := (first | omega | (simp only [Y2, List.length_drop, List.length_take] <;> omega) | ((repeat' (first | exact ai | apply ab | apply aj | refine ah (by omega) ?_ ?_)) <;> (simp (disch := (first | omega | (simp only [Y5] <;> omega))) only [Y4, Nat.reduceAdd, Nat.reduceEqDiff, reduceIte, *])) | (simp (disch := omega) only [Y4, Nat.reduceAdd, Nat.reduceEqDiff, reduceIte]; done) | assumption | exact aN _ | exact aU _ | exact aT _ | exact aS _ | exact True.intro | rfl)) only [Y1, Y3, Y7, Int.reduceLT, Int.reduceLE, Int.reduceEq, Int.reduceNeg, Int.reduceToNat, Nat.reduceAdd, Nat.reduceEqDiff, reduceIte, Nat.reduceLeDiff, Nat.reduceSub, g0, g1, g3, g4, hpr'] at hr
  generalize hJ : ((h'.add (Bx _ [B8 0, I 0, I 0])).dS h'.nx (Bx _ [B8 xe.out, I xe.fl, I xe.us])) = J at hr
  have hN : h'.nx < 16777215 := by omega
  have hJn : J.nx = h'.nx + 1 := by subst hJ; rfl
  have hJp : J.pr = [] := by subst hJ; exact hpr'
  have hJl : ∀ c, c < h'.nx → J.at c = h'.at c := fun c hc => by subst hJ; rw [cL hN (by omega), bZ hN (by omega)]
  have hJe : ∃ q, J.at h'.nx = Bx q [B8 xe.out, I xe.fl, I xe.us] := by subst hJ; exact ⟨_, cB hN⟩
  obtain ⟨q5, hJe⟩ := hJe
  clear hJ
  obtain ⟨a'', h'', ⟨U1, U2, U3, U4, U5, U6⟩, e12⟩ := rd k4 k5 k6 J (by omega)
  have m0 : h''.at 0 = Bx q [m.ty, m.tx, m.fs] := by rw [U5 0 (by omega), hJl 0 (by omega), g0]
  have m1 : h''.at 1 = Bx true [I x.step, I x.g, I x.f, I x.at', B8 x.op, I x.fr, B8 x.out] := by rw [U5 1 (by omega), hJl 1 (by omega), g1]
  have m3 : h''.at 3 = Bx q3 [I x7.step, I x7.g, I x7.f, I x7.at', B8 x7.op, I x7.fr, B8 x7.out] := by rw [U5 3 (by omega), hJl 3 (by omega), g3]
  have m4 : h''.at 4 = Bx q4 [I x7.step, I x7.g, I x7.f, I x7.at', B8 x7.op, I x7.fr, B8 x7.out] := by rw [U5 4 (by omega), hJl 4 (by omega), g4]
  have m5 : h''.at h'.nx = Bx q5 [B8 xe.out, I xe.fl, I xe.us] := by rw [U5 h'.nx (by omega), hJe]
  have mp : h''.pr = [] := U4.trans hJp
  have T1' : kj 7 h'' a' (ls.map Mk.av) := T1.mono (fun c hc => by rw [U5 c (by omega), hJl c hc]) (by omega)
  rw [e12] at hr
  simp +contextual (maxSteps := 2000000) (disch := (first | omega | (simp only [Y2, List.length_drop, List.length_take] <;> omega) | ((repeat' (first | exact ai | apply ab | apply aj | refine ah (by omega) ?_ ?_)) <;> (simp (disch := (first | omega | (simp only [Y5] <;> omega))) only [Y4, Nat.reduceAdd, Nat.reduceEqDiff, reduceIte, *])) | (simp (disch := omega) only [Y4, Nat.reduceAdd, Nat.reduceEqDiff, reduceIte]; done) | assumption | exact aN _ | exact aU _ | exact aT _ | exact aS _ | exact True.intro | rfl)) only [Y1, Y3, Y7, Int.reduceLT, Int.reduceLE, Int.reduceEq, Int.reduceNeg, Int.reduceToNat, Nat.reduceAdd, Nat.reduceEqDiff, reduceIte, Nat.reduceLeDiff, Nat.reduceSub, m0, m1, m3, m4, m5, mp, e13, e14] at hr
  generalize hQ : ((h''.add (Bx _ [B8 0, I 0, I 0])).dS h''.nx (Bx _ [B8 xe.out, I xe.fl, I xe.us])).u5 53 = Q at hr
  have hN2 : h''.nx < 16777215 := by omega
  have hQn : h''.nx ≤ Q.nx := by subst hQ; show h''.nx ≤ h''.nx + 1 + 53; omega
  have hQn2 : Q.nx ≤ 1000000 := by subst hQ; show h''.nx + 1 + 53 ≤ 1000000; omega
  have hQp : Q.pr = [] := by subst hQ; exact mp
  have hQl : ∀ c, c < h''.nx → Q.at c = h''.at c := fun c hc => by subst hQ; rw [mZ, cL hN2 (by omega), bZ hN2 (by omega)]
  have hQe : ∃ q, Q.at h''.nx = Bx q [B8 xe.out, I xe.fl, I xe.us] := by subst hQ; exact ⟨_, by rw [mZ]; exact cB hN2⟩
  obtain ⟨q6, hQe⟩ := hQe
  clear hQ
  have p0 : Q.at 0 = Bx q [m.ty, m.tx, m.fs] := by rw [hQl 0 (by omega), m0]
  have p1 : Q.at 1 = Bx true [I x.step, I x.g, I x.f, I x.at', B8 x.op, I x.fr, B8 x.out] := by rw [hQl 1 (by omega), m1]
  have p3 : Q.at 3 = Bx q3 [I x7.step, I x7.g, I x7.f, I x7.at', B8 x7.op, I x7.fr, B8 x7.out] := by rw [hQl 3 (by omega), m3]
  have p4 : Q.at 4 = Bx q4 [I x7.step, I x7.g, I x7.f, I x7.at', B8 x7.op, I x7.fr, B8 x7.out] := by rw [hQl 4 (by omega), m4]
  have p5 : Q.at h'.nx = Bx q5 [B8 xe.out, I xe.fl, I xe.us] := by rw [hQl h'.nx (by omega), m5]
  have e15 := fun k => c15 (T1'.mono hQl hQn) (U1.mono hQl hQn) hQn2 hls k
  have eq7 := @abB x7
  simp only [Mk.l] at eq7
  rw [a3k (ah (by decide) (by rw [p1]; exact True.intro) (ah (by decide) (by rw [p0]; exact True.intro) ai))] at hr
  have hH4 : ∀ B, (H.add B).nx = 4 := fun B => by rw [cZ, hHn]
  simp +contextual (maxSteps := 2000000) (disch := (first | omega | (simp only [Y2, List.length_drop, List.length_take] <;> omega) | ((repeat' (first | exact ai | apply ab | apply aj | refine ah (by omega) ?_ ?_)) <;> (simp (disch := (first | omega | (simp only [Y5] <;> omega))) only [Y4, Nat.reduceAdd, Nat.reduceEqDiff, reduceIte, *])) | (simp (disch := omega) only [Y4, Nat.reduceAdd, Nat.reduceEqDiff, reduceIte]; done) | assumption | exact aN _ | exact aU _ | exact aT _ | exact aS _ | exact True.intro | rfl)) only [Y1, Y3, Y7, Int.reduceLT, Int.reduceLE, Int.reduceEq, Int.reduceNeg, Int.reduceToNat, Nat.reduceAdd, Nat.reduceEqDiff, reduceIte, Nat.reduceLeDiff, Nat.reduceSub, p0, p1, p3, p4, p5, hQe, hQp, hHn, hH4, e14, e15, eq7, a8I] at hr
  rw [ab8] at hr
  rw [← hr]; rfl
end Go.Proofs.YtbamejikafhenaaDoor.Tz
namespace Go.Proofs.YtbamejikafhenaaDoor.Tz
attribute [local irreducible] mem
set_option linter.unusedSimpArgs false
attribute [local congr] di aJ bM dh dm bj de cm aW cf cn c9 bh bK bH aX eJ cg cb cj bm bk aK aO eG bG cq bL bO bD bF ck c7 bl bJ dd bE bI bC cN fK
set_option maxHeartbeats 4000000
theorem r3_ok {m : cD} (h : bz m) (hm : vl m.ty = true ∧ vl m.tx = true ∧ vl m.fs = true) {M : Nat → Mk} {n : Nat} {a : AV} {t : Row} (ha : jL a = some (t, 0, n)) {x : Mk} {en : En} {s u : List UInt8} (hs : mK 7 a n t) (hR : dV 7 n t fun i => (M i).l) (hM : ∀ i, i < n → (M i).Ok) (hx : x.Ok) (he : en.Ok) (hsl : s.length < 9223372036854775808) (hul : u.length < 9223372036854775808) :
    db (r3.f (.nd m.av .lf (.nd x.av .lf (.nd a .lf (.nd en.av .lf (.nd (S s) .lf (.nd (S u) .lf .lf)))))) .empty) = some (.bool true) := by
  obtain ⟨g, hg, e4⟩ := r4_ok h hs
  have zl2 : ∀ hp k, zl (pN mem 24) (.nd m.av .lf (.nd a .lf .lf)) hp k = k (.nd m.av .lf (.nd a .lf .lf)) hp := cD.iS h fun hp k => by
    rw [abx, hs.still 23]; rfl
  have c4 := fun hp k => j6 zl2 (fun _ _ _ _ => rfl) e4 hp k
  have hc := fun (q : Bool) (H : Hp) (h0 : H.at 0 = Bx q [m.ty, m.tx, m.fs]) h1 h2 h3 h4 (hn : m.n ≤ 40) hall hnn hsl hul => core3 (s := s) (u := u) h hm ha hs hR hM hx he hn hall hnn hsl hul (q := q) (H := H) h0 h1 h2 h3 h4
  simp only [cD.av, Mk.av, Mk.l, En.av, En.l] at c4 hc ⊢
  generalize hr : r3.f _ _ = r
  simp +contextual (maxSteps := 2000000) (disch := (first | omega | (simp only [Y2, List.length_drop, List.length_take] <;> omega) | ((repeat' (first | exact ai | apply ab | apply aj | refine ah (by omega) ?_ ?_)) <;> (simp (disch := (first | omega | (simp only [Y5] <;> omega))) only [Y4, Nat.reduceAdd, Nat.reduceEqDiff, reduceIte, *])) | (simp (disch := omega) only [Y4, Nat.reduceAdd, Nat.reduceEqDiff, reduceIte]; done) | assumption | exact aN _ | exact aU _ | exact aT _ | exact aS _ | exact True.intro | rfl)) only [Y1, Y3, Y7, t3, Int.reduceLT, Int.reduceLE, Int.reduceEq, Int.reduceNeg, Int.reduceToNat, Nat.reduceAdd, Nat.reduceEqDiff, reduceIte, Nat.reduceLeDiff, Nat.reduceSub, c4] at hr
  generalize hH : ((Hp.empty.add (Bx (iH [m.ty, m.tx, m.fs]) [m.ty, m.tx, m.fs])).add (Bx (iH [I x.step, I x.g, I x.f, I x.at', B8 x.op, I x.fr, B8 x.out]) [I x.step, I x.g, I x.f, I x.at', B8 x.op, I x.fr, B8 x.out])).add (Bx (iH [B8 en.out, I en.fl, I en.us]) [B8 en.out, I en.fl, I en.us]) = H at hr
  have h0 : H.at 0 = Bx (iH [m.ty, m.tx, m.fs]) [m.ty, m.tx, m.fs] := by subst hH; rw [bZ (show 2 < 16777215 by decide) (show 0 ≠ 2 by decide), bZ (show 1 < 16777215 by decide) (show 0 ≠ 1 by decide), cV (show 0 < 16777215 by decide) rfl]
  have h1 : H.at 1 = Bx true [I x.step, I x.g, I x.f, I x.at', B8 x.op, I x.fr, B8 x.out] := by subst hH; rw [bZ (show 2 < 16777215 by decide) (show 1 ≠ 2 by decide)]; exact cV (show 1 < 16777215 by decide) rfl
  have h2 : H.at 2 = Bx true [B8 en.out, I en.fl, I en.us] := by subst hH; exact cV (show 2 < 16777215 by decide) rfl
  have h3 : H.nx = 3 := by subst hH; rfl
  have h4 : H.pr = [] := by subst hH; rfl
  clear hH
  cases g with
  | true =>
    simp +contextual (maxSteps := 2000000) (disch := (first | omega | (simp only [Y2, List.length_drop, List.length_take] <;> omega) | ((repeat' (first | exact ai | apply ab | apply aj | refine ah (by omega) ?_ ?_)) <;> (simp (disch := (first | omega | (simp only [Y5] <;> omega))) only [Y4, Nat.reduceAdd, Nat.reduceEqDiff, reduceIte, *])) | (simp (disch := omega) only [Y4, Nat.reduceAdd, Nat.reduceEqDiff, reduceIte]; done) | assumption | exact aN _ | exact aU _ | exact aT _ | exact aS _ | exact True.intro | rfl)) only [Y1, Y3, Y7, Int.reduceLT, Int.reduceLE, Int.reduceEq, Int.reduceNeg, Int.reduceToNat, Nat.reduceAdd, Nat.reduceEqDiff, reduceIte, Nat.reduceLeDiff, Nat.reduceSub] at hr
    rw [ab8] at hr
    rw [← hr]; rfl
  | false =>
    obtain ⟨⟨hn, hall⟩, hnn⟩ := hg rfl
    by_cases k1 : s.length ≤ 2100
    · by_cases k2 : u.length ≤ 4000
      · skip
        have a1 : ((2100 : Int) < (s.length : Int)) = False := eq_false (by omega)
        have a2 : ((4000 : Int) < (u.length : Int)) = False := eq_false (by omega)
        have a4 : ((300100 : Int) < (u.length : Int)) = False := eq_false (by omega)
        simp +contextual (maxSteps := 2000000) (disch := (first | omega | (simp only [Y2, List.length_drop, List.length_take] <;> omega) | ((repeat' (first | exact ai | apply ab | apply aj | refine ah (by omega) ?_ ?_)) <;> (simp (disch := (first | omega | (simp only [Y5] <;> omega))) only [Y4, Nat.reduceAdd, Nat.reduceEqDiff, reduceIte, *])) | (simp (disch := omega) only [Y4, Nat.reduceAdd, Nat.reduceEqDiff, reduceIte]; done) | assumption | exact aN _ | exact aU _ | exact aT _ | exact aS _ | exact True.intro | rfl)) only [Y1, Y3, Y7, Int.reduceLT, Int.reduceLE, Int.reduceEq, Int.reduceNeg, Int.reduceToNat, Nat.reduceAdd, Nat.reduceEqDiff, reduceIte, Nat.reduceLeDiff, Nat.reduceSub] at hr
        simp only [a1, a2, a4, if_true, if_false] at hr
        rw [← hr]
        exact hc _ H h0 h1 h2 h3 h4 hn hall hnn k1 (.inl k2)
      · by_cases k3 : u.length ≤ 300000
        · skip
          have a1 : ((2100 : Int) < (s.length : Int)) = False := eq_false (by omega)
          have a2 : ((4000 : Int) < (u.length : Int)) = True := eq_true (by omega)
          have a3 : ((u.length : Int) ≤ 300000) = True := eq_true (by omega)
          simp +contextual (maxSteps := 2000000) (disch := (first | omega | (simp only [Y2, List.length_drop, List.length_take] <;> omega) | ((repeat' (first | exact ai | apply ab | apply aj | refine ah (by omega) ?_ ?_)) <;> (simp (disch := (first | omega | (simp only [Y5] <;> omega))) only [Y4, Nat.reduceAdd, Nat.reduceEqDiff, reduceIte, *])) | (simp (disch := omega) only [Y4, Nat.reduceAdd, Nat.reduceEqDiff, reduceIte]; done) | assumption | exact aN _ | exact aU _ | exact aT _ | exact aS _ | exact True.intro | rfl)) only [Y1, Y3, Y7, Int.reduceLT, Int.reduceLE, Int.reduceEq, Int.reduceNeg, Int.reduceToNat, Nat.reduceAdd, Nat.reduceEqDiff, reduceIte, Nat.reduceLeDiff, Nat.reduceSub] at hr
          simp only [a1, a2, a3, if_true, if_false] at hr
          rw [ab8] at hr
          rw [← hr]; rfl
        · by_cases k4 : u.length ≤ 300100
          · skip
            have a1 : ((2100 : Int) < (s.length : Int)) = False := eq_false (by omega)
            have a2 : ((4000 : Int) < (u.length : Int)) = True := eq_true (by omega)
            have a3 : ((u.length : Int) ≤ 300000) = False := eq_false (by omega)
            have a4 : ((300100 : Int) < (u.length : Int)) = False := eq_false (by omega)
            simp +contextual (maxSteps := 2000000) (disch := (first | omega | (simp only [Y2, List.length_drop, List.length_take] <;> omega) | ((repeat' (first | exact ai | apply ab | apply aj | refine ah (by omega) ?_ ?_)) <;> (simp (disch := (first | omega | (simp only [Y5] <;> omega))) only [Y4, Nat.reduceAdd, Nat.reduceEqDiff, reduceIte, *])) | (simp (disch := omega) only [Y4, Nat.reduceAdd, Nat.reduceEqDiff, reduceIte]; done) | assumption | exact aN _ | exact aU _ | exact aT _ | exact aS _ | exact True.intro | rfl)) only [Y1, Y3, Y7, Int.reduceLT, Int.reduceLE, Int.reduceEq, Int.reduceNeg, Int.reduceToNat, Nat.reduceAdd, Nat.reduceEqDiff, reduceIte, Nat.reduceLeDiff, Nat.reduceSub] at hr
            simp only [a1, a2, a3, a4, if_true, if_false] at hr
            rw [← hr]
            exact hc _ H h0 h1 h2 h3 h4 hn hall hnn k1 (.inr ⟨by omega, k4⟩)
          · skip
            have a1 : ((2100 : Int) < (s.length : Int)) = False := eq_false (by omega)
            have a2 : ((4000 : Int) < (u.length : Int)) = True := eq_true (by omega)
            have a3 : ((u.length : Int) ≤ 300000) = False := eq_false (by omega)
            have a4 : ((300100 : Int) < (u.length : Int)) = True := eq_true (by omega)
            simp +contextual (maxSteps := 2000000) (disch := (first | omega | (simp only [Y2, List.length_drop, List.length_take] <;> omega) | ((repeat' (first | exact ai | apply ab | apply aj | refine ah (by omega) ?_ ?_)) <;> (simp (disch := (first | omega | (simp only [Y5] <;> omega))) only [Y4, Nat.reduceAdd, Nat.reduceEqDiff, reduceIte, *])) | (simp (disch := omega) only [Y4, Nat.reduceAdd, Nat.reduceEqDiff, reduceIte]; done) | assumption | exact aN _ | exact aU _ | exact aT _ | exact aS _ | exact True.intro | rfl)) only [Y1, Y3, Y7, Int.reduceLT, Int.reduceLE, Int.reduceEq, Int.reduceNeg, Int.reduceToNat, Nat.reduceAdd, Nat.reduceEqDiff, reduceIte, Nat.reduceLeDiff, Nat.reduceSub] at hr
            simp only [a1, a2, a3, a4, if_true, if_false] at hr
            rw [ab8] at hr
            rw [← hr]; rfl
    · skip
      have a1 : ((2100 : Int) < (s.length : Int)) = True := eq_true (by omega)
      simp +contextual (maxSteps := 2000000) (disch := (first | omega | (simp only [Y2, List.length_drop, List.length_take] <;> omega) | ((repeat' (first | exact ai | apply ab | apply aj | refine ah (by omega) ?_ ?_)) <;> (simp (disch := (first | omega | (simp only [Y5] <;> omega))) only [Y4, Nat.reduceAdd, Nat.reduceEqDiff, reduceIte, *])) | (simp (disch := omega) only [Y4, Nat.reduceAdd, Nat.reduceEqDiff, reduceIte]; done) | assumption | exact aN _ | exact aU _ | exact aT _ | exact aS _ | exact True.intro | rfl)) only [Y1, Y3, Y7, Int.reduceLT, Int.reduceLE, Int.reduceEq, Int.reduceNeg, Int.reduceToNat, Nat.reduceAdd, Nat.reduceEqDiff, reduceIte, Nat.reduceLeDiff, Nat.reduceSub] at hr
      simp only [a1, if_true, if_false] at hr
      rw [ab8] at hr
      rw [← hr]; rfl
end Go.Proofs.YtbamejikafhenaaDoor.Tz
namespace Go.Proofs.YtbamejikafhenaaDoor.Tz
theorem a5Z {z : Nat} {s : AV} {n : Nat} {t : Row} (h : SlV z s n t) : vl s = true := by
  rcases h.form with rfl | ⟨rfl, _, _⟩
  · rfl
  · show decide (8 = 6 ∨ 8 = 8) = true
    decide
theorem a9r {s : AV} {n : Nat} {t : Row} (h : SlV 7 s n t) : jL s = some (t, 0, n) := by
  rcases h.form with rfl | ⟨rfl, rfl, rfl⟩
  · show (if 7 = 7 then some (t, 0, n) else none) = _
    rw [if_pos rfl]
  · show (if 8 = 6 ∨ 8 = 8 then some (Tr.lf, 0, 0) else none) = _
    rw [if_pos (.inr rfl)]
noncomputable def ImA.img (x : ImA) : cD := { n := x.fsN, nm := fun i => (x.fsF i).nm, pa := fun i => (x.fsF i).pa, re := fun i => (x.fsF i).re, sl := fun i => (x.fsF i).sl, cd := fun i => (x.fsF i).cd, sz := fun i => (x.fsF i).sz, lv := fun i => (x.fsF i).lv, ns := fun i => (x.fsF i).slN, nc := fun i => (x.fsF i).cdN, sn := fun i j => ((x.fsF i).vl j).nm, st := fun i j => I ((x.fsF i).vl j).ty, op := fun i j => ((x.fsF i).cdF j).op, ia := fun i j => ((x.fsF i).cdF j).a, ib := fun i j => ((x.fsF i).cdF j).b, ic := fun i j => ((x.fsF i).cdF j).c, ty := x.ty, tx := x.tx, fs := x.fs, ft := x.fsT, ct := fun i => (x.fsF i).cdT, lt := fun i => (x.fsF i).slT }
theorem ImA.ok {x : ImA} (h : x.In) : bz x.img ∧ vl x.ty = true ∧ vl x.tx = true ∧ vl x.fs = true := by
  obtain ⟨⟨n1, t1, h1⟩, ⟨n2, t2, h2⟩, h3, h4, h5⟩ := h
  have fu := fun i hi => (h5 i hi)
  refine ⟨{ fs := h3.ok, fr := h4, cd := fun i hi => ?_, cr := fun i hi => ?_, sl := fun i hi => ?_, sr := fun i hi => ?_, nm := fun i hi => ?_, sn := fun i j hi hj => ?_, op := fun i j hi hj => ?_, sz := fun i hi => ?_, ty := ⟨h1.ok.one, h1.ok.still⟩, tx := ⟨h2.ok.one, h2.ok.still⟩ }, a5Z h1, a5Z h2, a5Z h3⟩
  · obtain ⟨_, _, _, _, ⟨g, _, _⟩, _⟩ := fu i hi; exact g.ok
  · obtain ⟨_, _, _, _, ⟨_, g, _⟩, _⟩ := fu i hi; exact g
  · obtain ⟨_, _, _, ⟨g, _, _⟩, _⟩ := fu i hi; exact g.ok
  · obtain ⟨_, _, _, ⟨_, g, _⟩, _⟩ := fu i hi; exact g
  · obtain ⟨g, _⟩ := fu i hi; exact g
  · obtain ⟨_, _, _, ⟨_, _, g⟩, _⟩ := fu i hi; exact (g j hj).1
  · obtain ⟨_, _, _, _, ⟨_, _, g⟩, _⟩ := fu i hi; exact (g j hj).1
  · obtain ⟨_, _, _, _, _, ⟨_, _, g⟩, ⟨_, _, g2⟩⟩ := fu i hi; exact ⟨g.ok.one, g2.ok.one⟩
def MaA.mk' (x : MaA) : Mk := ⟨x.step, x.g, x.f, x.at_, x.op, x.fr, x.out⟩
theorem MaA.ok {x : MaA} (h : x.In) : x.mk'.Ok := by
  obtain ⟨h1, h2, h3, h4, h5, h6, h7⟩ := h
  exact ⟨h1, h2, h3, h4, h5, h6, h7⟩
def EdA.en (x : EdA) : En := ⟨x.out, x.fl, x.us⟩
theorem EdA.ok {x : EdA} (h : x.In) : x.en.Ok := by
  obtain ⟨h1, h2, h3⟩ := h
  exact ⟨h1, h2, h3⟩
section
variable {W : World}
theorem rB {l : List AV} {cs : Array Value} (h : sP W l cs.toList) : ao W (fun B => B < W.heap.size) dQ (.agg (aw l) l.length) (.agg cs) := by
  obtain ⟨h1, h2⟩ := h
  have hs : cs.size = l.length := by rw [h1]; rfl
  refine .agg (fun i => cs.getD i .nilIface) hs (fun i hi => ?_) (fun i hi => ?_) fun i hi => ?_
  · rw [Array.getD_eq_getD_getElem?, Array.getElem?_eq_getElem (by omega)]; rfl
  · have hi' : i < cs.size := by omega
    rw [Array.getD_eq_getD_getElem?, Array.getElem?_eq_getElem hi']
    exact (h2 i cs[i] (by rw [Array.getElem?_toList, Array.getElem?_eq_getElem hi'])).1
  · have hi' : i < cs.size := by omega
    rw [Array.getD_eq_getD_getElem?, Array.getElem?_eq_getElem hi', xN]
    exact (h2 i cs[i] (by rw [Array.getElem?_toList, Array.getElem?_eq_getElem hi'])).2
theorem xx {a : AV} {v : Value} (h : sP W [a] v.cells.toList) (hv : v.cells = #[v]) : ao W (fun B => B < W.heap.size) dQ a v := by
  rw [hv] at h
  exact (h.2 0 v rfl).2
end
theorem aim {w : World} {F : Nat → Prop} {μ : Mu} {a b c d e f : AV} {x y z u v q : Value} (h1 : ao w F μ a x) (h2 : ao w F μ b y) (h3 : ao w F μ c z) (h4 : ao w F μ d u) (h5 : ao w F μ e v) (h6 : ao w F μ f q) : qJ w F μ (.nd a .lf (.nd b .lf (.nd c .lf (.nd d .lf (.nd e .lf (.nd f .lf .lf)))))) #[x, y, z, u, v, q] :=
  ⟨rfl, fun i u hu => by
    match i with
    | 0 => injection hu with hu; subst hu; exact h1
    | 1 => injection hu with hu; subst hu; exact h2
    | 2 => injection hu with hu; subst hu; exact h3
    | 3 => injection hu with hu; subst hu; exact h4
    | 4 => injection hu with hu; subst hu; exact h5
    | 5 => injection hu with hu; subst hu; exact h6
    | i + 6 => cases hu⟩
open Go.RowKit
abbrev Grow (w w' : World) : Prop := Below w.heap.size w w'
theorem a7s {w : World} {p : Addr} {v : Value} (h : w.cell? p = some v) : p.block < w.heap.size := by
  simp only [World.cell?] at h
  split at h
  · rename_i heq
    exact (Array.getElem?_eq_some_iff.1 heq).1
  · cases h
theorem _root_.Go.RowKit.Below.dC {w w' : World} (g : Grow w w') {p : Addr} {v : Value} (h : w.cell? p = some v) : w'.cell? p = some v := by
  rw [g.cell (a7s h)]; exact h
theorem _root_.Go.RowKit.Below.then {w w1 w2 : World} (g : Grow w w1) (h : Grow w1 w2) : Grow w w2 := g.trans (h.mono g.size)
theorem _root_.Go.RowKit.Below.tu {w w' : World} (g : Grow w w') (o : Obj) : Grow w (w'.alloc o) := g.alloc g.size o
structure sM (w : World) where
  w' : World
  h : Grow w w'
theorem Calls.later {P : Program} {f : FuncId} {args : Array Value} {w : World} {d : sM w} {v : Value}
    (h : Calls P f args d.w' fun e w' => e = .returned v ∧ Grow d.w' w') : Calls P f args d.w' fun e w'' => e = .returned v ∧ ∃ d' : sM w, w'' = d'.w' :=
  h.mono fun _ w' ⟨he, hg⟩ => ⟨he, ⟨w', d.h.then hg⟩, rfl⟩
def Has (w : World) (b off : Nat) (cs : List Value) : Prop := ∀ j v, cs[j]? = some v → w.cell? ⟨b, off + j, none⟩ = some v
theorem Has.grow {w w' : World} {b off : Nat} {cs : List Value} (h : Has w b off cs) (g : Grow w w') : Has w' b off cs :=
  fun j v hj => g.dC (h j v hj)
instance {w : World} : Nonempty (sM w) := ⟨⟨w, Below.refl _ _⟩⟩
end Go.Proofs.YtbamejikafhenaaDoor.Tz
namespace Go.Proofs.YtbamejikafhenaaDoor.Tz
open Go.RowKit
section
variable {P : Program} {ops : Array Oper} {md : Region.Mode} {C : World → Prop}
def iy (P : Program) (md : Region.Mode) (ops : Array Oper) (C : World → Prop) (n : Nat) (L : Array Bool → Act → Prop) : Nat → Array Bool → Act → Prop
  | 0, seen, a => L seen a
  | f + 1, seen, a => Region.ready md ops seen ≠ [] ∧ ∀ i, i ∈ Region.ready md ops seen → i < n ∧ qOp P ops C i (iy P md ops C n L f (seen.setIfInBounds i true)) a
theorem iy.wpAny {n g : Nat} {L : Array Bool → Act → Prop} {Q : Exit → Act → World → Prop} (hL : ∀ seen a w, C w → L seen a → wpAny P md ops Q g seen a w) (f : Nat) :
    ∀ (seen : Array Bool) (a : Act) (w : World), C w → iy P md ops C n L f seen a → wpAny P md ops Q (f + g) seen a w := by
  induction f with
  | zero => intro seen a w hw h; rw [Nat.zero_add]; exact hL seen a w hw h
  | succ f ih =>
    intro seen a w hw h
    rw [Nat.succ_add]
    refine ⟨fun h0 => absurd h0 h.1, fun i hi => ?_⟩
    exact wpOp_of_qOp hw (fun a' w' hw' h' => ih _ a' w' hw' h') (h.2 i hi).2
theorem iy.first {n i : Nat} {oi : Oper} {v : Value} {L : Array Bool → Act → Prop} (hi : ops[i]? = some oi) (hsel : ∀ (j : Nat) (o : Oper) cs b, ops[j]? = some o → o.op ≠ .select cs b)
    (hs : Region.sinkB md ops n = true) (hc : Region.chainB md ops n = true) (hn : n < ops.size) (hin : i < n)
    (hdone : ∀ seen a, L seen a → ∀ j, j ∈ Region.ready md ops seen → n ≤ j) (f : Nat) :
    ∀ (seen : Array Bool) (a : Act), HeadInv md ops n seen →
      (∀ j oj, ops[j]? = some oj → j ≠ i → seen.getD j true = false → (∀ e ∈ oj.after, Region.binds md e = true → e.on ≠ i) → oi.apart ops oj = true) →
      i ∈ Region.ready md ops seen → YieldsIn P ops C oi v a →
      iy P md ops C n L f (seen.setIfInBounds i true) (a.put oi.dst v) → iy P md ops C n L (f + 1) seen a := by
  induction f with
  | zero =>
    intro seen a inv _ hr hy H
    have hun := (mem_ready.1 hr).1
    refine ⟨List.ne_nil_of_mem hr, fun j hj => ?_⟩
    have hjn : j < n := Nat.lt_of_not_le fun h => tail_waits hs hc hn inv _ i rfl hin hun j h hj
    refine ⟨hjn, ?_⟩
    by_cases hji : j = i
    · subst hji; exact hy.qOp hi H
    · exact absurd (hdone _ _ H j (ready_mono hj hji)) (Nat.not_le_of_lt hjn)
  | succ f ih =>
    intro seen a inv hfree hr hy H
    have hun := (mem_ready.1 hr).1
    refine ⟨List.ne_nil_of_mem hr, fun j hj => ?_⟩
    have hjn : j < n := Nat.lt_of_not_le fun h => tail_waits hs hc hn inv _ i rfl hin hun j h hj
    refine ⟨hjn, ?_⟩
    by_cases hji : j = i
    · subst hji; exact hy.qOp hi H
    · have h1 := (H.2 j (ready_mono hj hji)).2
      obtain ⟨hjun, oj, hoj, hall⟩ := mem_ready.1 hj
      have hnot : ∀ e ∈ oj.after, Region.binds md e = true → e.on ≠ i := by
        intro e he hb heq
        have h2 := hall e he hb
        rw [heq, getD_both hun] at h2
        cases h2
      have h2 := qOp_put hoj (hfree j oj hoj hji hjun hnot) (fun cs b => hsel i oi cs b hi) (fun cs b => hsel j oj cs b hoj) hy h1
      refine qOp_mono (fun a' h3 => ih (seen.setIfInBounds j true) a' (inv.set hj hjn) ?_ (ready_mono hr (Ne.symm hji)) h3.1 ?_) h2
      · intro k ok hk hki hun' hno
        refine hfree k ok hk hki ?_ hno
        by_cases hjk : j = k
        · subst hjk; exact hjun
        · rw [getD_set_ne true hjk] at hun'; exact hun'
      · rw [Array.setIfInBounds_comm _ _ hji]
        exact h3.2
theorem iy.lex {n g : Nat} {K : Act → Prop} (hsel : Region.noSelect ops = true) (hs : Region.sinkB md ops n = true) (hc : Region.chainB md ops n = true) (hn : n < ops.size) (l : List Oper) :
    ∀ (k : Nat) (seen : Array Bool) (a : Act), (∀ j, j < l.length → l[j]? = ops[k + j]?) → k + l.length = n → HeadInv md ops n seen →
    Region.lexHead md ops g l.length k seen = true → wpQuiet P ops C K l a →
    iy P md ops C n (fun seen' a' => Region.seqB md ops g n seen' = true ∧ K a') l.length seen a := by
  induction l with
  | nil =>
    intro k seen a _ hk _ hB h
    obtain rfl : k = n := by simpa using hk
    exact ⟨by simpa [Region.lexHead] using hB, h⟩
  | cons o l ih =>
    intro k seen a hl hk inv hB h
    have h0 : ops[k]? = some o := by simpa using (hl 0 (by simp)).symm
    simp only [List.length_cons, Region.lexHead, Bool.and_eq_true] at hB
    obtain ⟨⟨hr, hf⟩, hB'⟩ := hB
    simp only [List.length_cons] at hk
    have hkn : k < n := by omega
    have hr' : k ∈ Region.ready md ops seen := by simpa using hr
    have hst : qOp P ops C k (wpQuiet P ops C K l) a := by unfold qOp; simp only [h0]; exact h
    obtain ⟨v, hy, hK⟩ := yieldsIn_of_qOp h0 hst
    refine iy.first h0 (Region.noSelect_spec hsel) hs hc hn hkn (fun seen' a' hL => seqB_ready hL.1) l.length seen a inv (Region.free_spec h0 hf) hr' hy ?_
    refine ih (k + 1) _ _ (fun j hj => ?_) (by omega) (inv.set hr' hkn) hB' hK
    have := hl (j + 1) (by simp; omega)
    simpa [Nat.add_assoc, Nat.add_comm 1 j] using this
theorem o9 {id : Nat} {Q : Exit → Act → World → Prop} {a : Act} {w : World} {l : List Oper} (n : Nat) (hm : P.follows .mixedOrders = true) (hB : Region.lexTailB .any l.toArray n = true)
    (hC : C { w with drawn := w.drawn + 1 }) (h : wpQuiet P l.toArray C (fun a' => ∀ w', C w' → wpList P l.toArray Q (l.drop n) a' w') (l.take n) a) : (Code.region id l.toArray true).wp P Q a w := by
  simp only [Region.lexTailB, Bool.and_eq_true, decide_eq_true_eq] at hB
  obtain ⟨⟨⟨⟨hsel, hn⟩, hs⟩, hc⟩, hlex⟩ := hB
  have hn' : n < l.length := by simpa using hn
  have htl : (l.take n).length = n := by simp; omega
  have hdl : (l.drop n).length = l.toArray.size - n := by simp
  have inv0 : HeadInv .any l.toArray n (Array.replicate l.toArray.size false) :=
    ⟨by simp, fun j oj _ hl => (by rw [getD_replicate_false] at hl; cases hl), fun t _ ht => getD_in (by simpa using ht) (getD_replicate_false _ _)⟩
  have H := iy.lex (md := .any) (C := C) (g := l.toArray.size - n) hsel hs hc hn (l.take n) 0 _ a (fun j hj => by
    have hj' : j < n := by rw [htl] at hj; exact hj
    simp [hj']) (by simpa using htl) inv0 (by rw [htl]; exact hlex) h
  refine wp_region_any hm ?_
  have := iy.wpAny (Q := Q) (g := l.toArray.size - n) (fun seen a' w' hw' hL => by
    have := wpAny_of_seq (md := .any) (Q' := Q) (l.drop n) n seen a' w' (fun j => by simp [List.getElem?_drop]) (by rw [hdl]; exact hL.1) (hL.2 w' hw')
    rwa [hdl] at this) _ _ _ _ hC H
  rw [htl, show n + (l.toArray.size - n) = l.toArray.size by omega] at this
  exact this
end
theorem pg {P : Program} {id : Nat} {Q : Exit → Act → World → Prop} {a : Act} {w : World} {l : List Oper} (n : Nat) (hm : P.follows .mixedOrders = true) (hB : Region.lexTailB .any l.toArray n = true)
    (h : wpQuiet P l.toArray (fun w' => ∃ d : sM w, w' = d.w') (fun a' => ∀ w', (∃ d : sM w, w' = d.w') → wpList P l.toArray Q (l.drop n) a' w') (l.take n) a) : (Code.region id l.toArray true).wp P Q a w :=
  o9 n hm hB ⟨⟨_, (Below.refl _ _).drew⟩, rfl⟩ h
end Go.Proofs.YtbamejikafhenaaDoor.Tz
namespace Go.Proofs
open Go.Shelf
def Tryd.uD : Go.Shelf.Ren := ⟨fun | 166 => 32 | 240 => 57 | 276 => 68 | n => n, fun | 70 => 77 | 72 => 80 | 37 => 78 | 75 => 82 | 80 => 86 | 164 => 125 | n => n, fun | n => n⟩
theorem Tryd.afU : Go.Proofs.Lays.n166 Tryd.prog Tryd.uD := {
  mixed := by kernel_rfl
  f166 := Tryd.func32.trans (congrArg some (by kernel_rfl))
  f240 := Tryd.func57.trans (congrArg some (by kernel_rfl))
  f276 := Tryd.func68.trans (congrArg some (by kernel_rfl))
  t0 := Tryd.underlying0
  a0 := Tryd.isAgg0
  z0 := Tryd.sizeOf0
  v0 := Tryd.zeroValue0
  t3 := Tryd.underlying3
  a3 := Tryd.isAgg3
  z3 := Tryd.sizeOf3
  v3 := Tryd.zeroValue3
  t4 := Tryd.underlying4
  a4 := Tryd.isAgg4
  z4 := Tryd.sizeOf4
  v4 := Tryd.zeroValue4
  t9 := Tryd.underlying9
  a9 := Tryd.isAgg9
  z9 := Tryd.sizeOf9
  v9 := Tryd.zeroValue9
  t20 := Tryd.underlying20
  a20 := Tryd.isAgg20
  z20 := Tryd.sizeOf20
  v20 := Tryd.zeroValue20
  t37 := Tryd.underlying78
  a37 := Tryd.isAgg78
  z37 := Tryd.sizeOf78
  v37 := Tryd.zeroValue78
  t70 := Tryd.underlying77
  a70 := Tryd.isAgg77
  z70 := Tryd.sizeOf77
  v70 := Tryd.zeroValue77
  t72 := Tryd.underlying80
  a72 := Tryd.isAgg80
  z72 := Tryd.sizeOf80
  v72 := Tryd.zeroValue80
  t75 := Tryd.underlying82
  a75 := Tryd.isAgg82
  z75 := Tryd.sizeOf82
  v75 := Tryd.zeroValue82
  t164 := Tryd.underlying125
  a164 := Tryd.isAgg125
  z164 := Tryd.sizeOf125
  v164 := Tryd.zeroValue125 }
theorem Tryd.sI : Builder.Extra Tryd.prog Tryd.uD := {
  sizeBuilder := by kernel_rfl
  liesBuilder := by kernel_rfl
  t5 := Tryd.underlying5
  a5 := Tryd.isAgg5
  z5 := Tryd.sizeOf5
  v5 := Tryd.zeroValue5
  infoByte := by kernel_rfl
  cellsByte := by kernel_rfl
  sizeByte := by kernel_rfl
  neB5 := by decide }
open Go.RowKit in
theorem Tryd.Builder_WriteString_k (B b : Nat) (bs : List Value) (s : ByteArray) (w : World) (h : Lib.IsBuilderF 80 5 B b bs w) (hlen : bs.length + s.size ≤ 140737488355328) (hBw : B ≤ w.heap.size) :
    Calls Tryd.prog 32 #[.pointer (some ⟨b, 0, none⟩), .string s] w fun e w' => e = .returned (.tuple #[.int .i64 s.size, .nilIface]) ∧ (Lib.BuilderAtF 80 5 B b (.pointer (some ⟨b, 0, none⟩)) (bs ++ Lib.strCells s) w' ∧ Below B w w' ∧ Lib.OthersKept 5 (some b) w w') := Any.Builder_WriteString_k Tryd.afU Tryd.sI B b bs s w h hlen hBw
def Tryd.uU : Go.Shelf.Ren := ⟨fun | 169 => 34 | n => n, fun | 70 => 77 | 9 => 9 | 0 => 0 | 72 => 80 | 37 => 78 | 127 => 111 | 3 => 3 | 5 => 5 | n => n, fun | n => n⟩
theorem Tryd.ag2 : Go.Proofs.Lays.n169 Tryd.prog Tryd.uU := {
  mixed := by kernel_rfl
  f169 := Tryd.func34.trans (congrArg some (by kernel_rfl))
  t0 := Tryd.underlying0
  a0 := Tryd.isAgg0
  z0 := Tryd.sizeOf0
  v0 := Tryd.zeroValue0
  t3 := Tryd.underlying3
  a3 := Tryd.isAgg3
  z3 := Tryd.sizeOf3
  v3 := Tryd.zeroValue3
  t9 := Tryd.underlying9
  a9 := Tryd.isAgg9
  z9 := Tryd.sizeOf9
  v9 := Tryd.zeroValue9
  t37 := Tryd.underlying78
  a37 := Tryd.isAgg78
  z37 := Tryd.sizeOf78
  v37 := Tryd.zeroValue78
  t70 := Tryd.underlying77
  a70 := Tryd.isAgg77
  z70 := Tryd.sizeOf77
  v70 := Tryd.zeroValue77
  t72 := Tryd.underlying80
  a72 := Tryd.isAgg80
  z72 := Tryd.sizeOf80
  v72 := Tryd.zeroValue80
  t127 := Tryd.underlying111
  a127 := Tryd.isAgg111
  z127 := Tryd.sizeOf111
  v127 := Tryd.zeroValue111 }
theorem Tryd.rm : Builder.Extra Tryd.prog Tryd.uU := {
  sizeBuilder := by kernel_rfl
  liesBuilder := by kernel_rfl
  t5 := Tryd.underlying5
  a5 := Tryd.isAgg5
  z5 := Tryd.sizeOf5
  v5 := Tryd.zeroValue5
  infoByte := by kernel_rfl
  cellsByte := by kernel_rfl
  sizeByte := by kernel_rfl
  neB5 := by decide }
def Tryd.a3e : Go.Shelf.Ren := ⟨fun | 103 => 49 | 210 => 63 | 206 => 74 | n => n, fun | 9 => 9 | 4 => 4 | 24 => 105 | 3 => 3 | n => n, fun | n => n⟩
theorem Tryd.aeR : Go.Proofs.Lays.n103 Tryd.prog Tryd.a3e := {
  mixed := by kernel_rfl
  f103 := Tryd.func49.trans (congrArg some (by kernel_rfl))
  f206 := Tryd.func74.trans (congrArg some (by kernel_rfl))
  f210 := Tryd.func63.trans (congrArg some (by kernel_rfl))
  t3 := Tryd.underlying3
  a3 := Tryd.isAgg3
  z3 := Tryd.sizeOf3
  v3 := Tryd.zeroValue3
  t4 := Tryd.underlying4
  a4 := Tryd.isAgg4
  z4 := Tryd.sizeOf4
  v4 := Tryd.zeroValue4
  t9 := Tryd.underlying9
  a9 := Tryd.isAgg9
  z9 := Tryd.sizeOf9
  v9 := Tryd.zeroValue9
  t24 := Tryd.underlying105
  a24 := Tryd.isAgg105
  z24 := Tryd.sizeOf105
  v24 := Tryd.zeroValue105 }
open Go.RowKit in
theorem Tryd.strings_CutPrefix (s p : ByteArray) (w : World) :
    Calls Tryd.prog 49 #[.string s, .string p] w fun e w' => e = .returned (.tuple #[.string ⟨(Lib.trimPrefix s.data.toList p.data.toList).toArray⟩, .bool (Lib.hasPrefix s.data.toList p.data.toList)]) ∧ w' = w := Any.strings_CutPrefix Tryd.aeR s p w
open Go.RowKit in
theorem Tryd.Builder_String_any_k (B b : Nat) (l : List UInt8) (w : World) (h : Lib.IsBuilderF 80 5 B b (Lib.byteCells l) w) (hBw : B ≤ w.heap.size) :
    Calls Tryd.prog 34 #[.pointer (some ⟨b, 0, none⟩)] w fun e w' => e = .returned (.string ⟨l.toArray⟩) ∧ (Lib.IsBuilderF 80 5 B b (Lib.byteCells l) w' ∧ Below B w w' ∧ Lib.OthersKept 5 (some b) w w') := Any.Builder_String_any_k Tryd.ag2 Tryd.rm B b l w h hBw
def Tryd.a4v : Go.Shelf.Ren := ⟨fun | 217 => 75 | 266 => 83 | n => n, fun | 9 => 9 | 5 => 5 | 3 => 3 | n => n, fun | n => n⟩
theorem Tryd.afI : Go.Proofs.Lays.n217 Tryd.prog Tryd.a4v := {
  mixed := by kernel_rfl
  f217 := Tryd.func75.trans (congrArg some (by kernel_rfl))
  f266 := Tryd.func83.trans (congrArg some (by kernel_rfl))
  t3 := Tryd.underlying3
  a3 := Tryd.isAgg3
  z3 := Tryd.sizeOf3
  v3 := Tryd.zeroValue3
  t5 := Tryd.underlying5
  a5 := Tryd.isAgg5
  z5 := Tryd.sizeOf5
  v5 := Tryd.zeroValue5
  t9 := Tryd.underlying9
  a9 := Tryd.isAgg9
  z9 := Tryd.sizeOf9
  v9 := Tryd.zeroValue9 }
open Go.RowKit Go.Lib in
theorem Tryd.stringslite_IndexByte (s : ByteArray) (c : Int) (w : World) :
    Calls Tryd.prog 75 #[.string s, .int .u8 c] w fun e w' => e = .returned (.int .i64 (Lib.indexByte s.data.toList c.toNat.toUInt8)) ∧ w' = w := Any.stringslite_IndexByte Tryd.afI s c w
def Tryd.a3A : Go.Shelf.Ren := ⟨fun | 145 => 24 | 220 => 52 | 219 => 65 | 217 => 75 | 225 => 76 | 224 => 77 | 267 => 78 | 266 => 83 | 314 => 84 | n => n, fun | 9 => 9 | 4 => 4 | 59 => 66 | 3 => 3 | 5 => 5 | 46 => 113 | 146 => 121 | 51 => 120 | n => n, fun | 1 => 0 | n => n⟩
theorem Tryd.afE : Go.Proofs.Lays.n145 Tryd.prog Tryd.a3A := {
  mixed := by kernel_rfl
  f145 := Tryd.func24.trans (congrArg some (by kernel_rfl))
  f217 := Tryd.func75.trans (congrArg some (by kernel_rfl))
  f219 := Tryd.func65.trans (congrArg some (by kernel_rfl))
  f220 := Tryd.func52.trans (congrArg some (by kernel_rfl))
  f224 := Tryd.func77.trans (congrArg some (by kernel_rfl))
  f225 := Tryd.func76.trans (congrArg some (by kernel_rfl))
  f266 := Tryd.func83.trans (congrArg some (by kernel_rfl))
  f267 := Tryd.func78.trans (congrArg some (by kernel_rfl))
  f314 := Tryd.func84.trans (congrArg some (by kernel_rfl))
  t3 := Tryd.underlying3
  a3 := Tryd.isAgg3
  z3 := Tryd.sizeOf3
  v3 := Tryd.zeroValue3
  t4 := Tryd.underlying4
  a4 := Tryd.isAgg4
  z4 := Tryd.sizeOf4
  v4 := Tryd.zeroValue4
  t5 := Tryd.underlying5
  a5 := Tryd.isAgg5
  z5 := Tryd.sizeOf5
  v5 := Tryd.zeroValue5
  t9 := Tryd.underlying9
  a9 := Tryd.isAgg9
  z9 := Tryd.sizeOf9
  v9 := Tryd.zeroValue9
  t46 := Tryd.underlying113
  a46 := Tryd.isAgg113
  z46 := Tryd.sizeOf113
  v46 := Tryd.zeroValue113
  t51 := Tryd.underlying120
  a51 := Tryd.isAgg120
  z51 := Tryd.sizeOf120
  v51 := Tryd.zeroValue120
  t59 := Tryd.underlying66
  a59 := Tryd.isAgg66
  z59 := Tryd.sizeOf66
  v59 := Tryd.zeroValue66
  t146 := Tryd.underlying121
  a146 := Tryd.isAgg121
  z146 := Tryd.sizeOf121
  v146 := Tryd.zeroValue121
  g1 := by kernel_rfl }
open Go.RowKit Go.Lib in
theorem Tryd.strings_Cut (s sep : ByteArray) (m : Int) (w : World) (hs : s.size < 4294967281) (hm : w.cell? ⟨0, 0, none⟩ = some (.int .i64 m)) :
    Calls Tryd.prog 24 #[.string s, .string sep] w fun e w' => e = .returned (.tuple #[.string ⟨(Lib.cut s.data.toList sep.data.toList).1.toArray⟩, .string ⟨(Lib.cut s.data.toList sep.data.toList).2.1.toArray⟩, .bool (Lib.cut s.data.toList sep.data.toList).2.2]) ∧ ∃ n, w' = w.drewN n := Any.strings_Cut Tryd.afE s sep m w hs hm
def Tryd.a2r : Go.Shelf.Ren := ⟨fun | 148 => 23 | 222 => 50 | 223 => 51 | 269 => 64 | n => n, fun | 9 => 9 | 3 => 3 | 4 => 4 | 5 => 5 | 146 => 121 | 51 => 120 | 46 => 113 | n => n, fun | n => n⟩
theorem Tryd.aew : Go.Proofs.Lays.n148 Tryd.prog Tryd.a2r := {
  mixed := by kernel_rfl
  f148 := Tryd.func23.trans (congrArg some (by kernel_rfl))
  f222 := Tryd.func50.trans (congrArg some (by kernel_rfl))
  f223 := Tryd.func51.trans (congrArg some (by kernel_rfl))
  f269 := Tryd.func64.trans (congrArg some (by kernel_rfl))
  t3 := Tryd.underlying3
  a3 := Tryd.isAgg3
  z3 := Tryd.sizeOf3
  v3 := Tryd.zeroValue3
  t4 := Tryd.underlying4
  a4 := Tryd.isAgg4
  z4 := Tryd.sizeOf4
  v4 := Tryd.zeroValue4
  t5 := Tryd.underlying5
  a5 := Tryd.isAgg5
  z5 := Tryd.sizeOf5
  v5 := Tryd.zeroValue5
  t9 := Tryd.underlying9
  a9 := Tryd.isAgg9
  z9 := Tryd.sizeOf9
  v9 := Tryd.zeroValue9
  t46 := Tryd.underlying113
  a46 := Tryd.isAgg113
  z46 := Tryd.sizeOf113
  v46 := Tryd.zeroValue113
  t51 := Tryd.underlying120
  a51 := Tryd.isAgg120
  z51 := Tryd.sizeOf120
  v51 := Tryd.zeroValue120
  t146 := Tryd.underlying121
  a146 := Tryd.isAgg121
  z146 := Tryd.sizeOf121
  v146 := Tryd.zeroValue121 }
open Go.RowKit Go.Lib in
theorem Tryd.strings_LastIndex (s sub : ByteArray) (hs : s.size < 4611686018427387904) (w : World) :
    Calls Tryd.prog 23 #[.string s, .string sub] w fun e w' => e = .returned (.int .i64 (Lib.lastIndex s.data.toList sub.data.toList)) ∧ w' = w := Any.strings_LastIndex Tryd.aew s sub hs w
def Tryd.a1i : Go.Shelf.Ren := ⟨fun | 15 => 46 | 20 => 61 | n => n, fun | 9 => 9 | 23 => 102 | 3 => 3 | 4 => 4 | 0 => 0 | 21 => 21 | n => n, fun | n => n⟩
theorem Tryd.acy : Go.Proofs.LaysGw.n15 Tryd.prog Tryd.a1i := {
  mixed := by kernel_rfl
  f15 := Tryd.func46.trans (congrArg some (by kernel_rfl))
  f20 := Tryd.func61.trans (congrArg some (by kernel_rfl))
  t0 := Tryd.underlying0
  a0 := Tryd.isAgg0
  z0 := Tryd.sizeOf0
  v0 := Tryd.zeroValue0
  i0 := by kernel_rfl
  t3 := Tryd.underlying3
  a3 := Tryd.isAgg3
  z3 := Tryd.sizeOf3
  v3 := Tryd.zeroValue3
  i3 := by kernel_rfl
  t4 := Tryd.underlying4
  a4 := Tryd.isAgg4
  z4 := Tryd.sizeOf4
  v4 := Tryd.zeroValue4
  i4 := by kernel_rfl
  t9 := Tryd.underlying9
  a9 := Tryd.isAgg9
  z9 := Tryd.sizeOf9
  v9 := Tryd.zeroValue9
  i9 := by kernel_rfl
  t21 := Tryd.underlying21
  a21 := Tryd.isAgg21
  z21 := Tryd.sizeOf21
  v21 := Tryd.zeroValue21
  i21 := by kernel_rfl
  t23 := Tryd.underlying102
  a23 := Tryd.isAgg102
  z23 := Tryd.sizeOf102
  v23 := Tryd.zeroValue102
  i23 := by kernel_rfl }
open Go.RowKit Go.Lib in
theorem Tryd.strings_IndexFunc_runes (g : Nat) (lb : Array Value) (eg : ∀ args w, (callFunc g args).run Tryd.prog w = .ok (.enter g args) w) (p : Nat → Bool) (s : ByteArray) (w : World) (hp : PredAtRunes Tryd.prog g lb p w) :
    Calls Tryd.prog 46 #[.string s, .func (.func g) #[] lb] w fun e w' => e = .returned (.int .i64 (Lib.idxFunc p true s)) ∧ Below w.heap.size w w' := Any.strings_IndexFunc_runes Tryd.acy g lb eg p s w hp
def Tryd.a2f : Go.Shelf.Ren := ⟨fun | 146 => 37 | 221 => 58 | 268 => 69 | 138 => 70 | 143 => 71 | 195 => 80 | 197 => 81 | 218 => 82 | 219 => 65 | 260 => 85 | 217 => 75 | 225 => 76 | 224 => 77 | 267 => 78 | 266 => 83 | 314 => 84 | n => n, fun | 9 => 9 | 31 => 23 | 3 => 3 | 4 => 4 | 0 => 0 | 105 => 134 | 21 => 21 | 5 => 5 | 46 => 113 | 119 => 136 | 139 => 139 | 138 => 138 | 146 => 121 | 51 => 120 | n => n, fun | 1 => 0 | 3 => 1 | 4 => 2 | n => n⟩
theorem Tryd.aeF : Go.Proofs.Lays.n146 Tryd.prog Tryd.a2f := {
  mixed := by kernel_rfl
  f138 := Tryd.func70.trans (congrArg some (by kernel_rfl))
  f143 := Tryd.func71.trans (congrArg some (by kernel_rfl))
  f146 := Tryd.func37.trans (congrArg some (by kernel_rfl))
  f195 := Tryd.func80.trans (congrArg some (by kernel_rfl))
  f197 := Tryd.func81.trans (congrArg some (by kernel_rfl))
  f217 := Tryd.func75.trans (congrArg some (by kernel_rfl))
  f218 := Tryd.func82.trans (congrArg some (by kernel_rfl))
  f219 := Tryd.func65.trans (congrArg some (by kernel_rfl))
  f221 := Tryd.func58.trans (congrArg some (by kernel_rfl))
  f224 := Tryd.func77.trans (congrArg some (by kernel_rfl))
  f225 := Tryd.func76.trans (congrArg some (by kernel_rfl))
  f260 := Tryd.func85.trans (congrArg some (by kernel_rfl))
  f266 := Tryd.func83.trans (congrArg some (by kernel_rfl))
  f267 := Tryd.func78.trans (congrArg some (by kernel_rfl))
  f268 := Tryd.func69.trans (congrArg some (by kernel_rfl))
  f314 := Tryd.func84.trans (congrArg some (by kernel_rfl))
  t0 := Tryd.underlying0
  a0 := Tryd.isAgg0
  z0 := Tryd.sizeOf0
  v0 := Tryd.zeroValue0
  t3 := Tryd.underlying3
  a3 := Tryd.isAgg3
  z3 := Tryd.sizeOf3
  v3 := Tryd.zeroValue3
  t4 := Tryd.underlying4
  a4 := Tryd.isAgg4
  z4 := Tryd.sizeOf4
  v4 := Tryd.zeroValue4
  t5 := Tryd.underlying5
  a5 := Tryd.isAgg5
  z5 := Tryd.sizeOf5
  v5 := Tryd.zeroValue5
  t9 := Tryd.underlying9
  a9 := Tryd.isAgg9
  z9 := Tryd.sizeOf9
  v9 := Tryd.zeroValue9
  t21 := Tryd.underlying21
  a21 := Tryd.isAgg21
  z21 := Tryd.sizeOf21
  v21 := Tryd.zeroValue21
  t31 := Tryd.underlying23
  a31 := Tryd.isAgg23
  z31 := Tryd.sizeOf23
  v31 := Tryd.zeroValue23
  t46 := Tryd.underlying113
  a46 := Tryd.isAgg113
  z46 := Tryd.sizeOf113
  v46 := Tryd.zeroValue113
  t51 := Tryd.underlying120
  a51 := Tryd.isAgg120
  z51 := Tryd.sizeOf120
  v51 := Tryd.zeroValue120
  t105 := Tryd.underlying134
  a105 := Tryd.isAgg134
  z105 := Tryd.sizeOf134
  v105 := Tryd.zeroValue134
  t119 := Tryd.underlying136
  a119 := Tryd.isAgg136
  z119 := Tryd.sizeOf136
  t138 := Tryd.underlying138
  a138 := Tryd.isAgg138
  z138 := Tryd.sizeOf138
  v138 := Tryd.zeroValue138
  t139 := Tryd.underlying139
  a139 := Tryd.isAgg139
  z139 := Tryd.sizeOf139
  v139 := Tryd.zeroValue139
  t146 := Tryd.underlying121
  a146 := Tryd.isAgg121
  z146 := Tryd.sizeOf121
  v146 := Tryd.zeroValue121
  g1 := by kernel_rfl
  g3 := by kernel_rfl
  g4 := by kernel_rfl }
open Go.RowKit Go.Lib in
theorem Tryd.strings_Split (s sep : ByteArray) (m : Int) (w : World) (hs : s.size < 4294967281) (hm : w.cell? ⟨0, 0, none⟩ = some (.int .i64 m)) (h1 : 1 ≤ sep.size) :
    Calls Tryd.prog 37 #[.string s, .string sep] w fun e w' =>
      e = .returned (.slice (some ⟨w.heap.size, 0, none⟩) (Lib.countB s sep + 1) (Lib.countB s sep + 1)) ∧ w' = w.alloc (.cells ((Lib.splitB sep 0 (Lib.countB s sep) s).map Value.string).toArray 9) := Any.strings_Split Tryd.aeF (by kernel_rfl) s sep m w hs hm h1
end Go.Proofs
