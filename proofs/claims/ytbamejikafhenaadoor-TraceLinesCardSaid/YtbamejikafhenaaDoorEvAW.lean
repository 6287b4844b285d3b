import Derived.Test.YtbamejikafhenaaDoorEvAN
import Derived.Test.YtbamejikafhenaaDoorEvAO
import Derived.Test.YtbamejikafhenaaDoorEvAP
import Derived.Test.YtbamejikafhenaaDoorEvAR
import Derived.Test.YtbamejikafhenaaDoorEvAS
import Derived.Test.YtbamejikafhenaaDoorEvAV
open Go Go.Proofs.YtbamejikafhenaaDoor.Ev
namespace Go.Proofs.YtbamejikafhenaaDoor.Tz
attribute [local irreducible] mem
set_option linter.unusedSimpArgs false
attribute [local congr] di aJ bM dh dm bj de cm aW cf cn c9 bh bK bH aX eJ cg cb cj bm bk aK aO eG bG cq bL bO bD bF ck c7 bl bJ dd bE bI bC cN fK
set_option maxHeartbeats 4000000
theorem ahZ {m : cD} {G : List UInt8 → Option Mk} {E : List UInt8 → Option En} (hG : Rd r7 m G) (hE : Ed r38 E) (hm : bz m) {s : List UInt8} (hs : s.length ≤ 4000) {ls : List (List UInt8)} {last : List UInt8} (hp : ls ++ [last] = aR 10 s) (hlen : ∀ l ∈ ls, l.length ≤ 4000) : a9T (rdL G E ls last) (r11.f (.nd m.av .lf (.nd (S s) .lf .lf)) .empty) := by
  obtain ⟨hc, k1, k2, k3⟩ := tm (s := s) (c := 10) (by omega)
  have hpl : (aR 10 s).length = ls.length + 1 := by rw [← hp, List.length_append]; rfl
  have hsm : ls.length ≤ 4000 := by have := mB 10 s; omega
  generalize hr : r11.f (.nd m.av .lf (.nd (S s) .lf .lf)) .empty = r
  simp only [cD.av] at hr
  simp +contextual (maxSteps := 2000000) (disch := (first | omega | (simp only [Y2, List.length_drop, List.length_take] <;> omega) | ((repeat' (first | exact ai | apply ab | apply aj | refine ah (by omega) ?_ ?_)) <;> (simp (disch := (first | omega | (simp only [Y5] <;> omega))) only [Y4, Nat.reduceAdd, Nat.reduceEqDiff, reduceIte, *])) | (simp (disch := omega) only [Y4, Nat.reduceAdd, Nat.reduceEqDiff, reduceIte]; done) | assumption | exact aN _ | exact aU _ | exact aT _ | exact aS _ | exact True.intro | rfl)) only [Y1, Y3, Y7, t11, np, Int.reduceLT, Int.reduceLE, Int.reduceEq, Int.reduceNeg, Int.reduceToNat, Nat.reduceAdd, Nat.reduceEqDiff, reduceIte, Nat.reduceLeDiff, Nat.reduceSub] at hr
  rw [if_neg (by omega)] at hr
  generalize (m.ty.pl && (m.tx.pl && (m.fs.pl && true))) = q at hr
  generalize hH : (Hp.empty.add (Bx q [m.ty, m.tx, m.fs])).add (Bx true [B8 0, I 0, I 0]) = H at hr
  have hn0 : (Hp.empty.add (Bx q [m.ty, m.tx, m.fs])).nx = 1 := rfl
  have hHn : H.nx = 2 := by subst hH; rfl
  have hHp : H.pr = [] := by subst hH; rfl
  have hH0 : H.at 0 = Bx q [m.ty, m.tx, m.fs] := by
    subst hH; rw [bZ (by rw [hn0]; decide) (by rw [hn0]; decide), cV (by show 0 < _; decide) rfl]
  have hH1 : H.at 1 = Bx true [B8 0, I 0, I 0] := by
    subst hH; exact cV (show 1 < 16777215 by decide) rfl
  obtain ⟨a', h', ⟨T1, T2, T3, T4, T5, T6⟩, e37⟩ := aa7 (F := a1J) (.nd (aV s) (.nd (aV [10]) .lf)) k1 (by omega) k3 H (by omega)
  have h0 : h'.at 0 = Bx q [m.ty, m.tx, m.fs] := by rw [T5 0 (by omega)]; exact hH0
  have h1 : h'.at 1 = Bx true [B8 0, I 0, I 0] := by rw [T5 1 (by omega)]; exact hH1
  have hpr' : h'.pr = [] := by rw [T4]; exact hHp
  obtain ⟨c5, t5, rfl, hc5, hat5, ht5⟩ := kj.len1 T1 (by intro e; have := congrArg List.length e; rw [List.length_map] at this; simp only [List.length_nil] at this; omega)
  have hc5' : c5 = 2 := (T6 _ _ rfl).trans hHn
  subst hc5'
  rw [List.length_map] at e37 hat5 ht5
  rw [hpl] at e37 hat5 ht5
  have ht5' : ∀ j, j < ls.length + 1 → t5.at j = S ((ls ++ [last]).getD j []) := fun j hj => by
    rw [ht5 j hj, hp]; simp [List.getD, List.getElem?_map, show j < (aR 10 s).length by omega]
  have hLast : t5.at ls.length = S last := by rw [ht5' _ (by omega)]; simp [List.getD]
  have hNth : ∀ j, j < ls.length → t5.at j = S (ls.getD j []) := fun j hj => by
    rw [ht5' _ (by omega)]; simp [List.getD, List.getElem?_append_left hj]
  replace e37 : ∀ k, au mem false r37 (.nd (S s) .lf (.nd (S [10]) .lf .lf)) H k = k (.ms 2 0 (ls.length + 1) 1) h' := e37
  rw [e37] at hr
  have i1 : ((ls.length + 1 : Nat) : Int) - 2 + 1 = ls.length := by omega
  have i2 : (((ls.length + 1 : Nat) : Int) - 2).toNat = ls.length - 1 := by omega
  simp +contextual (maxSteps := 2000000) (disch := (first | omega | (simp only [Y2, List.length_drop, List.length_take] <;> omega) | ((repeat' (first | exact ai | apply ab | apply aj | refine ah (by omega) ?_ ?_)) <;> (simp (disch := (first | omega | (simp only [Y5] <;> omega))) only [Y4, Nat.reduceAdd, Nat.reduceEqDiff, reduceIte, *])) | (simp (disch := omega) only [Y4, Nat.reduceAdd, Nat.reduceEqDiff, reduceIte]; done) | assumption | exact aN _ | exact aU _ | exact aT _ | exact aS _ | exact True.intro | rfl)) only [Y1, Y3, Y7, Int.reduceLT, Int.reduceLE, Int.reduceEq, Int.reduceNeg, Int.reduceToNat, Nat.reduceAdd, Nat.reduceEqDiff, reduceIte, Nat.reduceLeDiff, Nat.reduceSub, h0, h1, hat5, mL, kb, Nat.mul_one, i1, i2, hLast, apply_ite a7J, a34] at hr
  unfold rdL
  have fail : ∀ {H2 : Hp}, H2.nx ≤ 1000000 → a9T none (.val (.bB (.nd (.x 8 .lf 0 0 0) .lf (.nd (.agg (aw [B8 0, I 0, I 0]) 3) .lf (.nd (I 12) .lf .lf))) 3) H2) := fun h2 => ⟨_, _, ⟨.inl ⟨rfl, rfl⟩, rfl⟩, h2⟩
  by_cases c2 : ls.length = 0
  · rw [if_pos (by omega)] at hr
    rw [if_neg (by omega), ← hr]
    exact fail (show h'.nx ≤ _ by omega)
  rw [if_neg (by omega)] at hr
  by_cases c3 : 2001 < ls.length
  · rw [if_pos (by omega)] at hr
    rw [if_neg (by omega), ← hr]
    exact fail (show h'.nx ≤ _ by omega)
  rw [if_neg (by omega)] at hr
  by_cases c1 : last = []
  · rw [if_pos c1] at hr
    rw [if_pos ⟨c1, by omega, by omega⟩]
    have hend : (ls.getD (ls.length - 1) []).length ≤ 50000 := by
      have := hlen (ls.getD (ls.length - 1) []) (by simp only [List.getD, List.getElem?_eq_getElem (show ls.length - 1 < ls.length by omega), Option.getD_some]; exact List.getElem_mem _)
      omega
    have hlast : t5.at (ls.length - 1) = S (ls.getD (ls.length - 1) []) := hNth _ (by omega)
    have i3 : 0 ≤ ((ls.length + 1 : Nat) : Int) - 2 ∧ ((ls.length + 1 : Nat) : Int) - 2 < (ls.length + 1 : Nat) := by omega
    have i4 : ls.length - 1 + 1 ≤ ls.length + 1 ∧ ls.length - 1 < 16777215 := by omega
    have i5 : ((ls.length + 1 : Nat) : Int) - 2 = ((ls.length - 1 : Nat) : Int) := by omega
    rw [i5] at hr
    have i6 : (((ls.length - 1 : Nat) : Int)).toNat = ls.length - 1 := by omega
    cases hEx : E (ls.getD (ls.length - 1) []) with
    | none =>
      obtain ⟨x, e38⟩ := hE.a3j hend hEx
      simp +contextual (maxSteps := 2000000) (disch := (first | omega | (simp only [Y2, List.length_drop, List.length_take] <;> omega) | ((repeat' (first | exact ai | apply ab | apply aj | refine ah (by omega) ?_ ?_)) <;> (simp (disch := (first | omega | (simp only [Y5] <;> omega))) only [Y4, Nat.reduceAdd, Nat.reduceEqDiff, reduceIte, *])) | (simp (disch := omega) only [Y4, Nat.reduceAdd, Nat.reduceEqDiff, reduceIte]; done) | assumption | exact aN _ | exact aU _ | exact aT _ | exact aS _ | exact True.intro | rfl)) only [Y1, Y3, Y7, gI, Int.reduceLT, Int.reduceLE, Int.reduceEq, Int.reduceNeg, Int.reduceToNat, Nat.reduceAdd, Nat.reduceEqDiff, reduceIte, Nat.reduceLeDiff, Nat.reduceSub, h0, h1, hat5, mL, kb, Nat.mul_one, i6, hlast, e38, a34] at hr
      rw [← hr]
      exact fail (show h'.nx + 1 ≤ _ by omega)
    | some x =>
      have e38 := hE.a3w hend hEx
      simp +contextual (maxSteps := 2000000) (disch := (first | omega | (simp only [Y2, List.length_drop, List.length_take] <;> omega) | ((repeat' (first | exact ai | apply ab | apply aj | refine ah (by omega) ?_ ?_)) <;> (simp (disch := (first | omega | (simp only [Y5] <;> omega))) only [Y4, Nat.reduceAdd, Nat.reduceEqDiff, reduceIte, *])) | (simp (disch := omega) only [Y4, Nat.reduceAdd, Nat.reduceEqDiff, reduceIte]; done) | assumption | exact aN _ | exact aU _ | exact aT _ | exact aS _ | exact True.intro | rfl)) only [Y1, Y3, Y7, gI, gK, qe, Int.reduceLT, Int.reduceLE, Int.reduceEq, Int.reduceNeg, Int.reduceToNat, Nat.reduceAdd, Nat.reduceEqDiff, reduceIte, Nat.reduceLeDiff, Nat.reduceSub, h0, h1, hat5, mL, adH, kb, Nat.mul_one, i6, hlast, e38] at hr
      generalize hI : (h'.add (Bx true [B8 0, I 0, I 0])).dS h'.nx (Bx true [B8 x.out, I x.fl, I x.us]) = J at hr
      have hN : h'.nx < 16777215 := by omega
      have hJn : J.nx = h'.nx + 1 := by subst hI; rfl
      have hJp : J.pr = [] := by subst hI; exact hpr'
      have hJe : J.at h'.nx = Bx true [B8 x.out, I x.fl, I x.us] := by subst hI; rw [cB hN]
      have hJk : ∀ c, c < h'.nx → J.at c = h'.at c := fun c hc => by subst hI; rw [cL hN (by omega), bZ hN (by omega)]
      have hdl : ls.dropLast.length = ls.length - 1 := List.length_dropLast
      have hloop := ac7 hG hm (x1 := S s) (x4 := I 0) (x5 := .ms 2 0 (ls.length + 1) 1) (x6 := I ((ls.length - 1 : Nat) : Int)) (c5 := 2) (ce := h'.nx) (c0 := h'.nx + 1) (q := q) (q1 := true) (t5 := t5) (L := ls.dropLast) (s5 := ls.length + 1) (fun l hl => by have := hlen l (List.dropLast_subset _ hl); omega) ⟨by omega, by omega⟩ (fun j hj => by rw [hNth j (by omega)]; simp only [List.getD, List.getElem?_dropLast, if_pos (show j < ls.length - 1 by omega)]) ⟨Nat.le_refl _, by omega, by omega⟩ (BE := Bx true [B8 x.out, I x.fl, I x.us]) (ls.dropLast.length - 0) 0 1000000 .uu (.x 8 .lf 0 0 0) [] J rfl (Nat.zero_le _) (by omega) (by rw [hJk 2 (by omega), hat5, Nat.mul_one]) (by rw [hJk 0 (by omega), h0]) (by rw [hJk 1 (by omega), h1]) hJe (by omega) hJp (by omega) (.inl ⟨rfl, rfl⟩) (fun c n e => (by cases e)) (Nat.le_refl _)
      rw [List.drop_zero, hdl] at hloop
      show a9T (match kh G ls.dropLast with | none => none | some r => some (r, x)) r
      cases hq : kh G ls.dropLast with
      | none =>
        obtain ⟨a2, x92, z, hp2, q1', ⟨g1, g3⟩, g2⟩ := hloop.2 hq
        simp only [cD.av] at g2
        rw [show (I ((0 : Nat) : Int)) = I 0 from rfl] at g2
        rw [g2, a34] at hr
        simp +contextual (maxSteps := 2000000) (disch := (first | omega | (simp only [Y2, List.length_drop, List.length_take] <;> omega) | ((repeat' (first | exact ai | apply ab | apply aj | refine ah (by omega) ?_ ?_)) <;> (simp (disch := (first | omega | (simp only [Y5] <;> omega))) only [Y4, Nat.reduceAdd, Nat.reduceEqDiff, reduceIte, *])) | (simp (disch := omega) only [Y4, Nat.reduceAdd, Nat.reduceEqDiff, reduceIte]; done) | assumption | exact aN _ | exact aU _ | exact aT _ | exact aS _ | exact True.intro | rfl)) only [Y1, Y3, Y7, Int.reduceLT, Int.reduceLE, Int.reduceEq, Int.reduceNeg, Int.reduceToNat, Nat.reduceAdd, Nat.reduceEqDiff, reduceIte, Nat.reduceLeDiff, Nat.reduceSub, g1] at hr
        rw [← hr]
        exact fail g3
      | some l =>
        obtain ⟨a2, hp2, z, x92, g1, g2, g3, g4, g5, g6, g7, g8⟩ := hloop.1 l hq
        simp only [cD.av] at g8
        rw [show (I ((0 : Nat) : Int)) = I 0 from rfl] at g8
        rw [g8] at hr
        have hce : h'.nx < hp2.nx := by omega
        simp +contextual (maxSteps := 2000000) (disch := (first | omega | (simp only [Y2, List.length_drop, List.length_take] <;> omega) | ((repeat' (first | exact ai | apply ab | apply aj | refine ah (by omega) ?_ ?_)) <;> (simp (disch := (first | omega | (simp only [Y5] <;> omega))) only [Y4, Nat.reduceAdd, Nat.reduceEqDiff, reduceIte, *])) | (simp (disch := omega) only [Y4, Nat.reduceAdd, Nat.reduceEqDiff, reduceIte]; done) | assumption | exact aN _ | exact aU _ | exact aT _ | exact aS _ | exact True.intro | rfl)) only [Y1, Y3, Y7, fC, Int.reduceLT, Int.reduceLE, Int.reduceEq, Int.reduceNeg, Int.reduceToNat, Nat.reduceAdd, Nat.reduceEqDiff, reduceIte, Nat.reduceLeDiff, Nat.reduceSub, g6, g7, a34] at hr
        refine ⟨a2, _, ⟨?_, hr.symm⟩, show hp2.nx + 5 ≤ _ by omega⟩
        refine kj.agi (h := hp2) g1 (fun c n e => ?_) (show hp2.nx ≤ hp2.nx + 5 by omega)
        have hc1 := g3 c n e
        show ((hp2.u5 5).dS 1 _).at c = _
        rw [cL (by decide) (by omega)]; rfl
  · rw [if_neg c1] at hr
    rw [if_neg fun h => c1 h.1, ← hr]
    exact fail (show h'.nx ≤ _ by omega)
theorem aaZ {m : cD} {s : List UInt8} (hs : 300000 < s.length) (hs2 : s.length ≤ 1000000) : ∃ h, h.nx ≤ 1000000 ∧ r11.f (.nd m.av .lf (.nd (S s) .lf .lf)) .empty = .val (.bB (.nd (.x 8 .lf 0 0 0) .lf (aw [En.av ⟨0, 0, 0⟩, I 4])) 3) h := by
  generalize hr : r11.f (.nd m.av .lf (.nd (S s) .lf .lf)) .empty = r
  simp only [cD.av] at hr
  simp +contextual (maxSteps := 2000000) (disch := (first | omega | (simp only [Y2, List.length_drop, List.length_take] <;> omega) | ((repeat' (first | exact ai | apply ab | apply aj | refine ah (by omega) ?_ ?_)) <;> (simp (disch := (first | omega | (simp only [Y5] <;> omega))) only [Y4, Nat.reduceAdd, Nat.reduceEqDiff, reduceIte, *])) | (simp (disch := omega) only [Y4, Nat.reduceAdd, Nat.reduceEqDiff, reduceIte]; done) | assumption | exact aN _ | exact aU _ | exact aT _ | exact aS _ | exact True.intro | rfl)) only [Y1, Y3, Y7, t11, Int.reduceLT, Int.reduceLE, Int.reduceEq, Int.reduceNeg, Int.reduceToNat, Nat.reduceAdd, Nat.reduceEqDiff, reduceIte, Nat.reduceLeDiff, Nat.reduceSub, apply_ite a7J, a34] at hr
  rw [if_pos (by omega)] at hr
  exact ⟨_, show 2 ≤ 1000000 by decide, hr.symm⟩
end Go.Proofs.YtbamejikafhenaaDoor.Tz
namespace Go.Proofs.YtbamejikafhenaaDoor.Tz
noncomputable section
def a8k : Sm := aC Go.Proofs.YtbamejikafhenaaDoor.Tz.tv [1, 0, 1]
def eE : Sm := gT Go.Proofs.YtbamejikafhenaaDoor.Tz.tv [1, 1, 1, 0, 1, 0]
def xL : Fr → Hp → aa := iA Go.Proofs.YtbamejikafhenaaDoor.Tz.tv [1, 1, 1, 0, 1, 0]
def gR : aa → aa := gX Go.Proofs.YtbamejikafhenaaDoor.Tz.tv [1, 1, 1, 0, 1, 0]
def pU : Sm := aC Go.Proofs.YtbamejikafhenaaDoor.Tz.tv [1, 1, 1, 0, 1, 0, 0, 0, 1]
def tK : Sm := aC Go.Proofs.YtbamejikafhenaaDoor.Tz.tv [1, 1, 1, 0, 1]
def lj : Sm := aC Go.Proofs.YtbamejikafhenaaDoor.Tz.tv [1, 1, 1, 0, 1, 0, 0, 1, 0, 0, 0, 1, 1]
def yt : Sm := aC Go.Proofs.YtbamejikafhenaaDoor.Tz.tv [1, 1, 1, 1, 0, 1]
def qd : Sm := aC Go.Proofs.YtbamejikafhenaaDoor.Tz.tv [1, 1, 1, 0, 1, 0, 0, 1, 0]
def aao : aa → aa := eN Go.Proofs.YtbamejikafhenaaDoor.Tz.tv
theorem t10 (x0 x1 x2 : AV) (hp : Hp) : r10.f (.nd x0 .lf (.nd x1 .lf (.nd x2 .lf .lf))) hp = aao (cF mem (aY mem) x0 3 3 hp (fun v0 v1 => cF mem (aY mem) x2 3 3 v1 (fun v2 v3 => cz mem 1 x1 v3 (fun v4 => ar (Nat.ble v4 9223372036854775807) ((ae .gtr 3).f (.int 3 v4) (.int 3 2000) (fun v5 => AV.ay v5 (fun v6 => when v6 (.ret (.n x0 x1 x2 (S []) (.int 3 4) .uu v0 .uu (.n v2 .uu .uu .uu .uu .uu .uu .uu .e)) v3) ((a8k).run .lf (.n x0 x1 x2 (S []) (.int 3 0) .uu v0 .uu (.n v2 .uu .uu .uu .uu .uu .uu .uu .e)) v3)))))))) := (congrArg (fun F => bN.f F (.nd x0 .lf (.nd x1 .lf (.nd x2 .lf .lf))) hp) (ba Go.Proofs.YtbamejikafhenaaDoor.Tz.tv).symm).trans (by kernel_rfl)
theorem ad2 (x0 x1 x2 x3 x4 x5 x6 x7 x8 : AV) (hp : Hp) : aao (.ret (.n x0 x1 x2 x3 x4 x5 x6 x7 (.n x8 .uu .uu .uu .uu .uu .uu .uu .e)) hp) = .val (.bB (.nd x3 .lf (.nd x4 .lf .lf)) 2) hp := by kernel_rfl
theorem mO (x0 x1 x2 x3 x4 x5 x6 x7 x8 : AV) (hp : Hp) : (a8k).run .lf (.n x0 x1 x2 x3 x4 x5 x6 x7 (.n x8 .uu .uu .uu .uu .uu .uu .uu .e)) hp = xL (.n x0 x1 x2 x3 x4 (.int 3 0) x6 (S []) (.n x8 .uu .uu .uu .uu .uu .uu .uu .e)) hp := by kernel_rfl
theorem lD (x0 x1 x2 x3 x4 x5 x6 x7 x8 : AV) (hp : Hp) : (eE).run .lf (.n x0 x1 x2 x3 x4 x5 x6 x7 (.n x8 .uu .uu .uu .uu .uu .uu .uu .e)) hp = cz mem 1 x1 hp (fun v7 => ar (Nat.ble v7 9223372036854775807) ((ae .lss 3).f x5 (.int 3 v7) (fun v8 => AV.ay v8 (fun v9 => when v9 ((pU).run .lf (.n x0 x1 x2 x3 x4 x5 x6 x7 (.n x8 .uu .uu .uu .uu .uu .uu .uu .e)) hp) (.exit 0 (.n x0 x1 x2 x3 x4 x5 x6 x7 (.n x8 .uu .uu .uu .uu .uu .uu .uu .e)) hp))))) := by kernel_rfl
theorem yQ (fr : Fr) (hp : Hp) : xL fr hp = gR (aD eE 1000000 fr hp) := rfl
theorem a1w (fr : Fr) (hp : Hp) : gR (.exit 0 fr hp) = (tK).run .lf fr hp := by kernel_rfl
theorem xo (fr : Fr) (hp : Hp) : gR (.ret fr hp) = .ret fr hp := by kernel_rfl
theorem iX (x0 x1 x2 x3 x4 x5 x6 x7 x8 : AV) (hp : Hp) : (pU).run .lf (.n x0 x1 x2 x3 x4 x5 x6 x7 (.n x8 .uu .uu .uu .uu .uu .uu .uu .e)) hp = eY 7 hp (fun v10 => aq mem true 3 x6 v10 (fun v11 => indexAddr 7 x1 x5 (fun v12 => aq mem true 7 v12 v10 (fun v13 => cO mem .nil .nil v10 (fun h14 => au mem false r14 (.nd v11 .lf (.nd v13 .lf .lf)) h14 (fun v15 v16 => .val v15 v16)) (fun v17 v18 => (ae .neq 3).f v18 (.int 3 0) (fun v19 => AV.ay v19 (fun v20 => when v20 (.ret (.n x0 x1 x2 (S []) v18 x5 x6 x7 (.n x8 .uu .uu .uu .uu .uu .uu .uu .e)) v17) ((lj).run .lf (.n x0 x1 x2 x3 x4 x5 x6 x7 (.n x8 .uu .uu .uu .uu .uu .uu .uu .e)) v17)))))))) := by kernel_rfl
theorem mF (x0 x1 x2 x3 x4 x5 x6 x7 x8 : AV) (hp : Hp) : (tK).run .lf (.n x0 x1 x2 x3 x4 x5 x6 x7 (.n x8 .uu .uu .uu .uu .uu .uu .uu .e)) hp = aq mem true 3 x8 hp (fun v21 => au mem false r35 (.nd v21 .lf .lf) hp (fun v22 v23 => AV.ay v22 (fun v24 => when (dv v24) (.ret (.n x0 x1 x2 (S []) (.int 3 8) x5 x6 x7 (.n x8 .uu .uu .uu .uu .uu .uu .uu .e)) v23) ((yt).run .lf (.n x0 x1 x2 x3 x4 x5 x6 x7 (.n x8 .uu .uu .uu .uu .uu .uu .uu .e)) v23)))) := by kernel_rfl
theorem fX (x0 x1 x2 x3 x4 x5 x6 x7 x8 : AV) (hp : Hp) : (lj).run .lf (.n x0 x1 x2 x3 x4 x5 x6 x7 (.n x8 .uu .uu .uu .uu .uu .uu .uu .e)) hp = eY 10 hp (fun v25 => aq mem true 3 x6 v25 (fun v26 => indexAddr 7 x1 x5 (fun v27 => aq mem true 7 v27 v25 (fun v28 => cO mem .nil .nil v25 (fun h29 => au mem false r21 (.nd v26 .lf (.nd v28 .lf .lf)) h29 (fun v30 v31 => .val v30 v31)) (fun v32 v33 => (cx .add).f v33 (S [10]) (fun v34 => (cx .add).f x7 v34 (fun v35 => (qd).run .lf (.n x0 x1 x2 x3 x4 x5 x6 v35 (.n x8 .uu .uu .uu .uu .uu .uu .uu .e)) v32))))))) := by kernel_rfl
theorem lI (x0 x1 x2 x3 x4 x5 x6 x7 x8 : AV) (hp : Hp) : (yt).run .lf (.n x0 x1 x2 x3 x4 x5 x6 x7 (.n x8 .uu .uu .uu .uu .uu .uu .uu .e)) hp = aq mem true 3 x8 hp (fun v36 => au mem false r36 (.nd v36 .lf .lf) hp (fun v37 v38 => (cx .add).f x7 v37 (fun v39 => (cx .add).f v39 (S [10]) (fun v40 => .ret (.n x0 x1 x2 v40 (.int 3 0) x5 x6 x7 (.n x8 .uu .uu .uu .uu .uu .uu .uu .e)) v38)))) := by kernel_rfl
theorem j2 (x0 x1 x2 x3 x4 x5 x6 x7 x8 : AV) (hp : Hp) : (qd).run .lf (.n x0 x1 x2 x3 x4 x5 x6 x7 (.n x8 .uu .uu .uu .uu .uu .uu .uu .e)) hp = (ae .add 3).f x5 (.int 3 1) (fun v41 => .ok (.n x0 x1 x2 x3 x4 v41 x6 x7 (.n x8 .uu .uu .uu .uu .uu .uu .uu .e)) hp) := by kernel_rfl
end
attribute [local irreducible] mem
set_option linter.unusedSimpArgs false
attribute [local congr] di aJ bM dh dm bj de cm aW cf cn c9 bh bK bH aX eJ cg cb cj bm bk aK aO eG bG cq bL bO bD bF ck c7 bl bJ dd bE bI bC cN fK
set_option maxHeartbeats 4000000
def pR (m : cD) (M : Nat → Mk) : Nat → List UInt8
  | 0 => []
  | i + 1 => pR m M i ++ (aQ m (M i) ++ [10])
theorem sq {m : cD} {M : Nat → Mk} : ∀ i, (∀ j, j < i → Fits m (M j)) → (pR m M i).length ≤ 1001 * i
  | 0, _ => Nat.le_refl _
  | i + 1, h => by
    have ih := sq i fun j hj => h j (by omega)
    have h1 := mQ (h i (by omega))
    show (pR m M i ++ (aQ m (M i) ++ [10])).length ≤ _
    rw [List.length_append, List.length_append]
    simp only [List.length_cons, List.length_nil]
    omega
theorem l_eq (x : Mk) : x.l = [I x.step, I x.g, I x.f, I x.at', B8 x.op, I x.fr, B8 x.out] := rfl
theorem ahG {m : cD} (h : bz m) (hn : m.n ≤ 40) (hnc : ∀ i, i < m.n → m.nc i ≤ 300) {M : Nat → Mk} {n i : Nat} {a x2 x8 : AV} {t : Row} {T : List UInt8} {q : Bool} {hp : Hp} (hs : mK 7 a n t) (hR : dV 7 n t fun i => (M i).l) (hM : ∀ i, i < n → (M i).Ok) (hnn : n ≤ 2000) (hi : i < n) (hT : T.length ≤ 1001 * i) (hpr : hp.pr = []) (hnx : 0 < hp.nx ∧ hp.nx ≤ 100 + 30 * i) (h0 : hp.at 0 = Bx q [m.ty, m.tx, m.fs]) :
    (Fits m (M i) → ∃ hp', (hp'.pr = [] ∧ hp.nx ≤ hp'.nx ∧ hp'.nx ≤ hp.nx + 30 ∧ ∀ c, c < hp.nx → hp'.at c = hp.at c) ∧ (eE).run .lf (.n m.av a x2 (S []) (I 0) (I i) (.ptr 0 0) (S T) (.n x8 .uu .uu .uu .uu .uu .uu .uu .e)) hp = .ok (.n m.av a x2 (S []) (I 0) (I ((i : Int) + 1)) (.ptr 0 0) (S (T ++ (aQ m (M i) ++ [10]))) (.n x8 .uu .uu .uu .uu .uu .uu .uu .e)) hp') ∧
    (¬ Fits m (M i) → ∃ hp', (eE).run .lf (.n m.av a x2 (S []) (I 0) (I i) (.ptr 0 0) (S T) (.n x8 .uu .uu .uu .uu .uu .uu .uu .e)) hp = .ret (.n m.av a x2 (S []) (I 8) (I i) (.ptr 0 0) (S T) (.n x8 .uu .uu .uu .uu .uu .uu .uu .e)) hp') := by
  have e14 := fun hp k => c14 h hn hnc (hM i hi) hp k
  have hlt : (i : Int) < n := by omega
  have hsm := hs.small
  by_cases hF : Fits m (M i)
  · have hl := mQ hF
    have e21 := fun hp k => c21 h hn (hM i hi) hF hp k
    refine ⟨fun _ => ?_, fun h => absurd hF h⟩
    generalize hr : (eE).run .lf (.n m.av a x2 (S []) (I 0) (I i) (.ptr 0 0) (S T) (.n x8 .uu .uu .uu .uu .uu .uu .uu .e)) hp = r
    simp only [cD.av, Mk.av, Mk.l, if_pos hF] at hr e14 e21
    simp +contextual (maxSteps := 2000000) (disch := (first | omega | (simp only [Y2, List.length_drop, List.length_take] <;> omega) | ((repeat' (first | exact ai | apply ab | apply aj | refine ah (by omega) ?_ ?_)) <;> (simp (disch := (first | omega | (simp only [Y5] <;> omega))) only [Y4, Nat.reduceAdd, Nat.reduceEqDiff, reduceIte, *])) | (simp (disch := omega) only [Y4, Nat.reduceAdd, Nat.reduceEqDiff, reduceIte]; done) | assumption | exact aN _ | exact aU _ | exact aT _ | exact aS _ | exact True.intro | rfl)) only [Y1, Y3, Y7, lD, mO, iX, mF, fX, lI, j2, Int.reduceLT, Int.reduceLE, Int.reduceEq, Int.reduceNeg, Int.reduceToNat, Nat.reduceAdd, Nat.reduceEqDiff, reduceIte, Nat.reduceLeDiff, Nat.reduceSub, hs.len, hs.idx, yT hR, l_eq, h0, e14, e21] at hr
    rw [if_pos hlt] at hr
    refine ⟨(hp.u5 7).u5 10, ⟨hpr, show hp.nx ≤ hp.nx + 7 + 10 by omega, show hp.nx + 7 + 10 ≤ hp.nx + 30 by omega, fun c hc => rfl⟩, hr.symm⟩
  · refine ⟨fun h => absurd h hF, fun _ => ?_⟩
    generalize hr : (eE).run .lf (.n m.av a x2 (S []) (I 0) (I i) (.ptr 0 0) (S T) (.n x8 .uu .uu .uu .uu .uu .uu .uu .e)) hp = r
    simp only [cD.av, Mk.av, Mk.l, if_neg hF] at hr e14
    simp +contextual (maxSteps := 2000000) (disch := (first | omega | (simp only [Y2, List.length_drop, List.length_take] <;> omega) | ((repeat' (first | exact ai | apply ab | apply aj | refine ah (by omega) ?_ ?_)) <;> (simp (disch := (first | omega | (simp only [Y5] <;> omega))) only [Y4, Nat.reduceAdd, Nat.reduceEqDiff, reduceIte, *])) | (simp (disch := omega) only [Y4, Nat.reduceAdd, Nat.reduceEqDiff, reduceIte]; done) | assumption | exact aN _ | exact aU _ | exact aT _ | exact aS _ | exact True.intro | rfl)) only [Y1, Y3, Y7, lD, mO, iX, mF, fX, lI, j2, Int.reduceLT, Int.reduceLE, Int.reduceEq, Int.reduceNeg, Int.reduceToNat, Nat.reduceAdd, Nat.reduceEqDiff, reduceIte, Nat.reduceLeDiff, Nat.reduceSub, hs.len, hs.idx, yT hR, l_eq, h0, e14] at hr
    rw [if_pos hlt] at hr
    exact ⟨_, hr.symm⟩
theorem acm {m : cD} (h : bz m) (hn : m.n ≤ 40) (hnc : ∀ i, i < m.n → m.nc i ≤ 300) {M : Nat → Mk} {n : Nat} {a x2 x8 : AV} {t : Row} {q : Bool} {B1 : bX} (hs : mK 7 a n t) (hR : dV 7 n t fun i => (M i).l) (hM : ∀ i, i < n → (M i).Ok) (hnn : n ≤ 2000) : ∀ (k i fuel : Nat) (hp : Hp), n - i = k → i ≤ n → k < fuel → (∀ j, j < i → Fits m (M j)) → hp.pr = [] → 1 < hp.nx → hp.nx ≤ 100 + 30 * i → hp.at 0 = Bx q [m.ty, m.tx, m.fs] → hp.at 1 = B1 →
    ((∀ j, i ≤ j → j < n → Fits m (M j)) → ∃ z hp', hp'.pr = [] ∧ hp'.nx ≤ 100 + 30 * n ∧ 1 < hp'.nx ∧ hp'.at 1 = B1 ∧ gR (aD eE fuel (.n m.av a x2 (S []) (I 0) (I i) (.ptr 0 0) (S (pR m M i)) (.n x8 .uu .uu .uu .uu .uu .uu .uu .e)) hp) = (tK).run .lf (.n m.av a x2 (S []) (I 0) z (.ptr 0 0) (S (pR m M n)) (.n x8 .uu .uu .uu .uu .uu .uu .uu .e)) hp') ∧
    (¬ (∀ j, i ≤ j → j < n → Fits m (M j)) → ∃ z T hp', gR (aD eE fuel (.n m.av a x2 (S []) (I 0) (I i) (.ptr 0 0) (S (pR m M i)) (.n x8 .uu .uu .uu .uu .uu .uu .uu .e)) hp) = .ret (.n m.av a x2 (S []) (I 8) z (.ptr 0 0) (S T) (.n x8 .uu .uu .uu .uu .uu .uu .uu .e)) hp')
  | k, i, 0, _, _, _, hfu, _, _, _, _, _, _ => absurd hfu (Nat.not_lt_zero _)
  | k, i, fuel + 1, hp, hk, hi, hfu, hF, hpr, hn0, hnx, h0, h1 => by
    by_cases hlt : i < n
    · have hb := ahG (x2 := x2) (x8 := x8) h hn hnc hs hR hM hnn hlt (sq i hF) hpr ⟨by omega, hnx⟩ h0
      by_cases hFi : Fits m (M i)
      · obtain ⟨hp', ⟨e1, e2, e3, e4⟩, e5⟩ := hb.1 hFi
        rw [cY e5]
        have hF' : ∀ j, j < i + 1 → Fits m (M j) := fun j hj => by
          by_cases hji : j = i
          · rw [hji]; exact hFi
          · exact hF j (by omega)
        have hrec := acm h hn hnc (x2 := x2) (x8 := x8) (B1 := B1) hs hR hM hnn (k - 1) (i + 1) fuel hp' (by omega) (by omega) (by omega) hF' e1 (by omega) (by omega) (by rw [e4 0 (by omega)]; exact h0) (by rw [e4 1 (by omega)]; exact h1)
        refine ⟨fun hall => hrec.1 fun j hj => hall j (by omega), fun hno => hrec.2 fun hall => hno fun j hj hj2 => ?_⟩
        by_cases hji : j = i
        · rw [hji]; exact hFi
        · exact hall j (by omega) hj2
      · obtain ⟨hp', e5⟩ := hb.2 hFi
        exact ⟨fun hall => absurd (hall i (Nat.le_refl _) hlt) hFi, fun _ => ⟨_, _, hp', (congrArg gR (eQ e5)).trans (xo _ _)⟩⟩
    · have hie : i = n := by omega
      subst hie
      have hsm := hs.small
      have hb : (eE).run .lf (.n m.av a x2 (S []) (I 0) (I i) (.ptr 0 0) (S (pR m M i)) (.n x8 .uu .uu .uu .uu .uu .uu .uu .e)) hp = .exit 0 (.n m.av a x2 (S []) (I 0) (I i) (.ptr 0 0) (S (pR m M i)) (.n x8 .uu .uu .uu .uu .uu .uu .uu .e)) hp := by
        generalize hr : (eE).run .lf (.n m.av a x2 (S []) (I 0) (I i) (.ptr 0 0) (S (pR m M i)) (.n x8 .uu .uu .uu .uu .uu .uu .uu .e)) hp = r
        simp +contextual (maxSteps := 2000000) (disch := (first | omega | (simp only [Y2, List.length_drop, List.length_take] <;> omega) | ((repeat' (first | exact ai | apply ab | apply aj | refine ah (by omega) ?_ ?_)) <;> (simp (disch := (first | omega | (simp only [Y5] <;> omega))) only [Y4, Nat.reduceAdd, Nat.reduceEqDiff, reduceIte, *])) | (simp (disch := omega) only [Y4, Nat.reduceAdd, Nat.reduceEqDiff, reduceIte]; done) | assumption | exact aN _ | exact aU _ | exact aT _ | exact aS _ | exact True.intro | rfl)) only [Y1, Y3, Y7, lD, Int.reduceLT, Int.reduceLE, Int.reduceEq, Int.reduceNeg, Int.reduceToNat, Nat.reduceAdd, Nat.reduceEqDiff, reduceIte, Nat.reduceLeDiff, Nat.reduceSub, hs.len] at hr
        rw [← hr, if_neg (by omega)]
      exact ⟨fun _ => ⟨_, hp, hpr, hnx, hn0, h1, (congrArg gR (cE hb)).trans (a1w _ _)⟩, fun hno => absurd (fun j h1 h2 => by omega) hno⟩
noncomputable def txR (m : cD) (M : Nat → Mk) (n : Nat) (x : En) : List UInt8 × Int := by
  classical
  exact if 2000 < n then ([], 4) else if ∀ j, j < n → Fits m (M j) then (if qc x then (pR m M n ++ fk x ++ [10], 0) else ([], 8)) else ([], 8)
theorem a2I (x : En) : (fk x).length ≤ 200 := by
  have l1 := fO x.out
  have l2 := cA x.fl
  have l3 := cA x.us
  unfold fk
  simp only [List.length_append, List.length_cons, List.length_nil]
  omega
theorem ajf {m : cD} (h : bz m) (hn : m.n ≤ 40) (hnc : ∀ i, i < m.n → m.nc i ≤ 300) {M : Nat → Mk} {n : Nat} {a : AV} {t : Row} {x : En} (hs : mK 7 a n t) (hR : dV 7 n t fun i => (M i).l) (hM : ∀ i, i < n → (M i).Ok) (hx : x.Ok) : db (r10.f (.nd m.av .lf (.nd a .lf (.nd x.av .lf .lf))) .empty) = some (.bB (.nd (S (txR m M n x).1) .lf (.nd (I (txR m M n x).2) .lf .lf)) 2) := by
  have hsm := hs.small
  obtain ⟨x1, ⟨x2, x3⟩, ⟨x4, x5⟩⟩ := hx
  have le := a2I ⟨x.out, x.fl, x.us⟩
  generalize hr : r10.f (.nd m.av .lf (.nd a .lf (.nd x.av .lf .lf))) .empty = r
  simp only [cD.av, En.av, En.l] at hr
  simp +contextual (maxSteps := 2000000) (disch := (first | omega | (simp only [Y2, List.length_drop, List.length_take] <;> omega) | ((repeat' (first | exact ai | apply ab | apply aj | refine ah (by omega) ?_ ?_)) <;> (simp (disch := (first | omega | (simp only [Y5] <;> omega))) only [Y4, Nat.reduceAdd, Nat.reduceEqDiff, reduceIte, *])) | (simp (disch := omega) only [Y4, Nat.reduceAdd, Nat.reduceEqDiff, reduceIte]; done) | assumption | exact aN _ | exact aU _ | exact aT _ | exact aS _ | exact True.intro | rfl)) only [Y1, Y3, Y7, t10, mO, yQ, Int.reduceLT, Int.reduceLE, Int.reduceEq, Int.reduceNeg, Int.reduceToNat, Nat.reduceAdd, Nat.reduceEqDiff, reduceIte, Nat.reduceLeDiff, Nat.reduceSub, hs.len, hs.idx] at hr
  unfold txR
  by_cases h2 : 2000 < n
  · rw [if_pos (by omega), ad2] at hr
    rw [← hr]; simp only [h2, if_true]; rfl
  rw [if_neg (by omega)] at hr
  simp only [h2, if_false]
  generalize (m.ty.pl && (m.tx.pl && (m.fs.pl && true))) = q at hr
  have hn0 : (Hp.empty.add (Bx q [m.ty, m.tx, m.fs])).nx = 1 := rfl
  have hloop := acm h hn hnc (M := M) (x2 := .agg (aw [B8 x.out, I x.fl, I x.us]) 3) (x8 := .ptr 1 0) (B1 := Bx true [B8 x.out, I x.fl, I x.us]) (q := q) hs hR hM (by omega) n 0 1000000 ((Hp.empty.add (Bx q [m.ty, m.tx, m.fs])).add (Bx true [B8 x.out, I x.fl, I x.us])) rfl (Nat.zero_le _) (by omega) (fun j hj => absurd hj (by omega)) rfl (show 1 < 2 by decide) (show 2 ≤ 100 by decide) (by rw [bZ (by rw [hn0]; decide) (by rw [hn0]; decide), cV (by show 0 < _; decide) rfl]) (cV (show 1 < 16777215 by decide) rfl)
  rw [show (I ((0 : Nat) : Int)) = I 0 from rfl] at hloop
  simp only [cD.av, pR] at hloop
  by_cases hall : ∀ j, j < n → Fits m (M j)
  · obtain ⟨z, hp', g1, g2, g3, g4, g5⟩ := hloop.1 fun j _ hj => hall j hj
    have lt := sq n hall
    rw [g5] at hr
    simp +contextual (maxSteps := 2000000) (disch := (first | omega | (simp only [Y2, List.length_drop, List.length_take] <;> omega) | ((repeat' (first | exact ai | apply ab | apply aj | refine ah (by omega) ?_ ?_)) <;> (simp (disch := (first | omega | (simp only [Y5] <;> omega))) only [Y4, Nat.reduceAdd, Nat.reduceEqDiff, reduceIte, *])) | (simp (disch := omega) only [Y4, Nat.reduceAdd, Nat.reduceEqDiff, reduceIte]; done) | assumption | exact aN _ | exact aU _ | exact aT _ | exact aS _ | exact True.intro | rfl)) only [Y1, Y3, Y7, mO, iX, mF, fX, lI, j2, Int.reduceLT, Int.reduceLE, Int.reduceEq, Int.reduceNeg, Int.reduceToNat, Nat.reduceAdd, Nat.reduceEqDiff, reduceIte, Nat.reduceLeDiff, Nat.reduceSub, g4, c35, c36, apply_ite aao, ad2] at hr
    by_cases hR : qc x
    · rw [if_pos (show qc ⟨x.out, x.fl, x.us⟩ from hR)] at hr
      rw [← hr, if_pos hall, if_pos hR]; rfl
    · rw [if_neg (show ¬ qc ⟨x.out, x.fl, x.us⟩ from hR)] at hr
      rw [← hr, if_pos hall, if_neg hR]; rfl
  · obtain ⟨z, T, hp', g5⟩ := hloop.2 fun h => hall fun j hj => h j (Nat.zero_le _) hj
    rw [g5, ad2] at hr
    rw [← hr]; simp only [hall, if_false]; rfl
end Go.Proofs.YtbamejikafhenaaDoor.Tz
namespace Go.Proofs.YtbamejikafhenaaDoor.Tz
noncomputable section
def a8v : Sm := aC Go.Proofs.YtbamejikafhenaaDoor.Tz.vp [1, 0, 1]
def j7 : Sm := gT Go.Proofs.YtbamejikafhenaaDoor.Tz.vp [1, 1, 0, 1, 0]
def a0y : Fr → Hp → aa := iA Go.Proofs.YtbamejikafhenaaDoor.Tz.vp [1, 1, 0, 1, 0]
def pI : aa → aa := gX Go.Proofs.YtbamejikafhenaaDoor.Tz.vp [1, 1, 0, 1, 0]
def si : Sm := aC Go.Proofs.YtbamejikafhenaaDoor.Tz.vp [1, 1, 0, 1, 0, 0, 0, 1]
def wk : Sm := aC Go.Proofs.YtbamejikafhenaaDoor.Tz.vp [1, 1, 0, 1]
def oW : Sm := aC Go.Proofs.YtbamejikafhenaaDoor.Tz.vp [1, 1, 0, 1, 0, 0, 1, 0, 0, 1]
def rZ : Sm := aC Go.Proofs.YtbamejikafhenaaDoor.Tz.vp [1, 1, 0, 1, 0, 0, 1, 0]
def ah1 : aa → aa := eN Go.Proofs.YtbamejikafhenaaDoor.Tz.vp
theorem t15 (x0 x1 : AV) (hp : Hp) : r15.f (.nd x0 .lf (.nd x1 .lf .lf)) hp = ah1 (cz mem 1 x0 hp (fun v0 => ar (Nat.ble v0 9223372036854775807) (cz mem 1 x1 hp (fun v1 => ar (Nat.ble v1 9223372036854775807) ((ae .neq 3).f (.int 3 v0) (.int 3 v1) (fun v2 => AV.ay v2 (fun v3 => when v3 (.ret (.n x0 x1 (.bool false) .uu .uu .uu .uu .uu .e) hp) ((a8v).run .lf (.n x0 x1 (.bool false) .uu .uu .uu .uu .uu .e) hp)))))))) := (congrArg (fun F => bN.f F (.nd x0 .lf (.nd x1 .lf .lf)) hp) (ba Go.Proofs.YtbamejikafhenaaDoor.Tz.vp).symm).trans (by kernel_rfl)
theorem ret15 (x0 x1 x2 x3 : AV) (hp : Hp) : ah1 (.ret (.n x0 x1 x2 x3 .uu .uu .uu .uu .e) hp) = .val x2 hp := by kernel_rfl
theorem wT (x0 x1 x2 x3 : AV) (hp : Hp) : (a8v).run .lf (.n x0 x1 x2 x3 .uu .uu .uu .uu .e) hp = a0y (.n x0 x1 x2 (.int 3 0) .uu .uu .uu .uu .e) hp := by kernel_rfl
theorem se (x0 x1 x2 x3 : AV) (hp : Hp) : (j7).run .lf (.n x0 x1 x2 x3 .uu .uu .uu .uu .e) hp = cz mem 1 x0 hp (fun v4 => ar (Nat.ble v4 9223372036854775807) ((ae .lss 3).f x3 (.int 3 v4) (fun v5 => AV.ay v5 (fun v6 => when v6 ((si).run .lf (.n x0 x1 x2 x3 .uu .uu .uu .uu .e) hp) (.exit 0 (.n x0 x1 x2 x3 .uu .uu .uu .uu .e) hp))))) := by kernel_rfl
theorem a1B (fr : Fr) (hp : Hp) : a0y fr hp = pI (aD j7 1000000 fr hp) := rfl
theorem a2F (fr : Fr) (hp : Hp) : pI (.exit 0 fr hp) = (wk).run .lf fr hp := by kernel_rfl
theorem vd (x0 x1 x2 x3 : AV) (hp : Hp) : (si).run .lf (.n x0 x1 x2 x3 .uu .uu .uu .uu .e) hp = eY 9 hp (fun v7 => indexAddr 7 x0 x3 (fun v8 => aq mem true 7 v8 v7 (fun v9 => indexAddr 7 x1 x3 (fun v10 => aq mem true 7 v10 v7 (fun v11 => (wi (.cells (.cons 5 (.cons 5 (.cons 5 (.cons 5 (.cons 6 (.cons 5 (.cons 6 .nil)))))))) .neq).f v9 v11 (fun v12 => AV.ay v12 (fun v13 => when v13 (.ret (.n x0 x1 (.bool false) x3 .uu .uu .uu .uu .e) v7) ((oW).run .lf (.n x0 x1 x2 x3 .uu .uu .uu .uu .e) v7)))))))) := by kernel_rfl
theorem uN (x0 x1 x2 x3 : AV) (hp : Hp) : (wk).run .lf (.n x0 x1 x2 x3 .uu .uu .uu .uu .e) hp = .ret (.n x0 x1 (.bool true) x3 .uu .uu .uu .uu .e) hp := by kernel_rfl
theorem rT (x0 x1 x2 x3 : AV) (hp : Hp) : (oW).run .lf (.n x0 x1 x2 x3 .uu .uu .uu .uu .e) hp = (rZ).run .lf (.n x0 x1 x2 x3 .uu .uu .uu .uu .e) hp := by kernel_rfl
theorem uV (x0 x1 x2 x3 : AV) (hp : Hp) : (rZ).run .lf (.n x0 x1 x2 x3 .uu .uu .uu .uu .e) hp = (ae .add 3).f x3 (.int 3 1) (fun v14 => .ok (.n x0 x1 x2 v14 .uu .uu .uu .uu .e) hp) := by kernel_rfl
end
attribute [local irreducible] mem
set_option linter.unusedSimpArgs false
attribute [local congr] di aJ bM dh dm bj de cm aW cf cn c9 bh bK bH aX eJ cg cb cj bm bk aK aO eG bG cq bL bO bD bF ck c7 bl bJ dd bE bI bC cN fK
set_option maxHeartbeats 4000000
theorem cy {c n i : Nat} {k : Bool → aa} (h : i = c) : qA (c + 2) (.int i n) (.int i n) k = k true := by
  subst h
  show ar (Nat.beq i i) (ar (Nat.beq i i) (iU (Nat.beq n n) k)) = _
  rw [aB (cu i), aB (cu i), cu]; rfl
theorem wX {c : Nat} {l : List Nat} {a b : AV} {t u : Row} {k : Bool → aa} : eqs (c :: l) (.nd a .lf t) (.nd b .lf u) k = qA c a b fun x => eqs l t u fun y => k (bp x y) := rfl
theorem ac4 {x : Mk} {k : AV → aa} : (wi (.cells [5, 5, 5, 5, 6, 5, 6]) .neq).f (.agg (aw x.l) 7) (.agg (aw x.l) 7) k = k (.bool false) := by
  show eqs [5, 5, 5, 5, 6, 5, 6] (aw x.l) (aw x.l) (fun r => k (.bool (dv r))) = _
  simp only [Mk.l]
  show eqs [5, 5, 5, 5, 6, 5, 6] (.nd (.int 3 _) .lf (.nd (.int 3 _) .lf (.nd (.int 3 _) .lf (.nd (.int 3 _) .lf (.nd (.int 4 _) .lf (.nd (.int 3 _) .lf (.nd (.int 4 _) .lf .lf))))))) (.nd (.int 3 _) .lf (.nd (.int 3 _) .lf (.nd (.int 3 _) .lf (.nd (.int 3 _) .lf (.nd (.int 4 _) .lf (.nd (.int 3 _) .lf (.nd (.int 4 _) .lf .lf))))))) (fun r => k (.bool (dv r))) = _
  simp only [wX]
  rw [cy (c := 3) rfl, cy (c := 3) rfl, cy (c := 3) rfl, cy (c := 3) rfl, cy (c := 4) rfl, cy (c := 3) rfl, cy (c := 4) rfl]
  rfl
theorem ai8 {M : Nat → Mk} {n i : Nat} {a b x2 : AV} {t u : Row} {hp : Hp} (ha : mK 7 a n t) (hA : dV 7 n t fun i => (M i).l) (hb : mK 7 b n u) (hB : dV 7 n u fun i => (M i).l) (hn : n ≤ 100000) (hi : i < n) :
    (j7).run .lf (.n a b x2 (I i) .uu .uu .uu .uu .e) hp = .ok (.n a b x2 (I ((i : Int) + 1)) .uu .uu .uu .uu .e) (hp.u5 9) := by
  have hlt : (i : Int) < n := by omega
  generalize hr : (j7).run .lf (.n a b x2 (I i) .uu .uu .uu .uu .e) hp = r
  simp +contextual (maxSteps := 2000000) (disch := (first | omega | (simp only [Y2, List.length_drop, List.length_take] <;> omega) | ((repeat' (first | exact ai | apply ab | apply aj | refine ah (by omega) ?_ ?_)) <;> (simp (disch := (first | omega | (simp only [Y5] <;> omega))) only [Y4, Nat.reduceAdd, Nat.reduceEqDiff, reduceIte, *])) | (simp (disch := omega) only [Y4, Nat.reduceAdd, Nat.reduceEqDiff, reduceIte]; done) | assumption | exact aN _ | exact aU _ | exact aT _ | exact aS _ | exact True.intro | rfl)) only [Y1, Y3, Y7, se, wT, vd, uN, rT, uV, Int.reduceLT, Int.reduceLE, Int.reduceEq, Int.reduceNeg, Int.reduceToNat, Nat.reduceAdd, Nat.reduceEqDiff, reduceIte, Nat.reduceLeDiff, Nat.reduceSub, ha.len, ha.idx, hb.len, hb.idx, yT hA, yT hB, ac4] at hr
  rw [← hr, if_pos hlt]
theorem adx {M : Nat → Mk} {n : Nat} {a b x2 : AV} {t u : Row} (ha : mK 7 a n t) (hA : dV 7 n t fun i => (M i).l) (hb : mK 7 b n u) (hB : dV 7 n u fun i => (M i).l) (hn : n ≤ 100000) : ∀ (k i fuel : Nat) (hp : Hp), n - i = k → i ≤ n → k < fuel → ∃ z hp', pI (aD j7 fuel (.n a b x2 (I i) .uu .uu .uu .uu .e) hp) = (wk).run .lf (.n a b x2 z .uu .uu .uu .uu .e) hp'
  | k, i, 0, _, _, _, hfu => absurd hfu (Nat.not_lt_zero _)
  | k, i, fuel + 1, hp, hk, hi, hfu => by
    by_cases hlt : i < n
    · rw [cY (ai8 ha hA hb hB hn hlt)]
      exact adx ha hA hb hB hn (k - 1) (i + 1) fuel _ (by omega) (by omega) (by omega)
    · have hie : i = n := by omega
      subst hie
      have hsm := ha.small
      have hb : (j7).run .lf (.n a b x2 (I i) .uu .uu .uu .uu .e) hp = .exit 0 (.n a b x2 (I i) .uu .uu .uu .uu .e) hp := by
        generalize hr : (j7).run .lf (.n a b x2 (I i) .uu .uu .uu .uu .e) hp = r
        simp +contextual (maxSteps := 2000000) (disch := (first | omega | (simp only [Y2, List.length_drop, List.length_take] <;> omega) | ((repeat' (first | exact ai | apply ab | apply aj | refine ah (by omega) ?_ ?_)) <;> (simp (disch := (first | omega | (simp only [Y5] <;> omega))) only [Y4, Nat.reduceAdd, Nat.reduceEqDiff, reduceIte, *])) | (simp (disch := omega) only [Y4, Nat.reduceAdd, Nat.reduceEqDiff, reduceIte]; done) | assumption | exact aN _ | exact aU _ | exact aT _ | exact aS _ | exact True.intro | rfl)) only [Y1, Y3, Y7, se, Int.reduceLT, Int.reduceLE, Int.reduceEq, Int.reduceNeg, Int.reduceToNat, Nat.reduceAdd, Nat.reduceEqDiff, reduceIte, Nat.reduceLeDiff, Nat.reduceSub, ha.len] at hr
        rw [← hr, if_neg (by omega)]
      exact ⟨_, hp, (congrArg pI (cE hb)).trans (a2F _ _)⟩
theorem aiq {M : Nat → Mk} {n : Nat} {a b : AV} {t u : Row} (ha : mK 7 a n t) (hA : dV 7 n t fun i => (M i).l) (hb : mK 7 b n u) (hB : dV 7 n u fun i => (M i).l) (hn : n ≤ 100000) : db (r15.f (.nd a .lf (.nd b .lf .lf)) .empty) = some (.bool true) := by
  generalize hr : r15.f (.nd a .lf (.nd b .lf .lf)) .empty = r
  simp +contextual (maxSteps := 2000000) (disch := (first | omega | (simp only [Y2, List.length_drop, List.length_take] <;> omega) | ((repeat' (first | exact ai | apply ab | apply aj | refine ah (by omega) ?_ ?_)) <;> (simp (disch := (first | omega | (simp only [Y5] <;> omega))) only [Y4, Nat.reduceAdd, Nat.reduceEqDiff, reduceIte, *])) | (simp (disch := omega) only [Y4, Nat.reduceAdd, Nat.reduceEqDiff, reduceIte]; done) | assumption | exact aN _ | exact aU _ | exact aT _ | exact aS _ | exact True.intro | rfl)) only [Y1, Y3, Y7, t15, wT, a1B, Int.reduceLT, Int.reduceLE, Int.reduceEq, Int.reduceNeg, Int.reduceToNat, Nat.reduceAdd, Nat.reduceEqDiff, reduceIte, Nat.reduceLeDiff, Nat.reduceSub, ha.len, hb.len] at hr
  obtain ⟨z, hp', e⟩ := adx (x2 := .bool false) ha hA hb hB hn n 0 1000000 .empty rfl (Nat.zero_le _) (by omega)
  rw [show (I ((0 : Nat) : Int)) = I 0 from rfl] at e
  rw [e, uN, ret15] at hr
  rw [← hr]; rfl
end Go.Proofs.YtbamejikafhenaaDoor.Tz
namespace Go.Proofs.YtbamejikafhenaaDoor.Tz
attribute [local irreducible] mem
set_option linter.unusedSimpArgs false
attribute [local congr] di aJ bM dh dm bj de cm aW cf cn c9 bh bK bH aX eJ cg cb cj bm bk aK aO eG bG cq bL bO bD bF ck c7 bl bJ dd bE bI bC cN fK
set_option maxHeartbeats 4000000
theorem bz.a1d {m : cD} (h : bz m) (i : Nat) (hi : i < m.n) (hp : Hp) (k : Nat → aa) : cz mem 1 (m.sl i) hp k = k (m.ns i) := (h.sl i hi).len hp k
theorem bz.aeG {m : cD} (h : bz m) (i : Nat) (a : Int) (k : AV → aa) (hi : i < m.n ∧ 0 ≤ a ∧ a < m.ns i) : indexAddr 2 (m.sl i) (I a) k = k (.x 1 (m.lt i) (eo 2 a.toNat 0) 2 2) := (h.sl i hi.1).idx a k hi.2.1 hi.2.2
theorem bz.ajl {m : cD} (h : bz m) (i j f q : Nat) (hp : Hp) (k : AV → aa) (hi : i < m.n ∧ j < m.ns i ∧ j < 16777215) (hf : f < 2 ∧ 1 ≤ q) : aq mem false 1 (.x 1 (m.lt i) (eo 2 j f) q 2) hp k = k ((m.slot i j).getD f .uu) := a6k (h.sr i hi.1) hi.2 (by omega) k
theorem aek {m : cD} (h : bz m) {i k : Nat} {x2 : AV} {q : Bool} {hp : Hp} {c : Nat} (hi : i < m.n) (hk : k < m.ns i) (hks : m.ns i ≤ 30) (hc : c < 16777215) (hB : hp.at c = Bx q (m.fn i)) :
    (cU).run .lf (.n m.av (.bool false) x2 (.ptr 0 0) (I k) (.ptr c 0) .uu .uu .e) hp = if 40 < (m.sn i k).length then .ret (.n m.av (.bool true) x2 (.ptr 0 0) (I k) (.ptr c 0) .uu .uu .e) hp else .ok (.n m.av (.bool false) x2 (.ptr 0 0) (I ((k : Int) + 1)) (.ptr c 0) .uu .uu .e) hp := by
  have hlt : (k : Int) < m.ns i := by omega
  have hsn := h.sn i k hi hk
  rw [ua] at hB
  generalize hr : (cU).run .lf (.n m.av (.bool false) x2 (.ptr 0 0) (I k) (.ptr c 0) .uu .uu .e) hp = r
  simp +contextual (maxSteps := 2000000) (disch := (first | omega | (simp only [Y2, List.length_drop, List.length_take] <;> omega) | ((repeat' (first | exact ai | apply ab | apply aj | refine ah (by omega) ?_ ?_)) <;> (simp (disch := (first | omega | (simp only [Y5] <;> omega))) only [Y4, Nat.reduceAdd, Nat.reduceEqDiff, reduceIte, *])) | (simp (disch := omega) only [Y4, Nat.reduceAdd, Nat.reduceEqDiff, reduceIte]; done) | assumption | exact aN _ | exact aU _ | exact aT _ | exact aS _ | exact True.intro | rfl)) only [Y1, Y3, Y7, jW, mW, lF, nE, Int.reduceLT, Int.reduceLE, Int.reduceEq, Int.reduceNeg, Int.reduceToNat, Nat.reduceAdd, Nat.reduceEqDiff, reduceIte, Nat.reduceLeDiff, Nat.reduceSub, hB, h.a1d, h.aeG, h.ajl, afk] at hr
  rw [← hr, if_pos hlt]
  by_cases h4 : 40 < (m.sn i k).length
  · rw [if_pos (by omega), if_pos h4]
  · rw [if_neg (by omega), if_neg h4]
theorem acW {m : cD} (h : bz m) {i : Nat} {x2 : AV} {q : Bool} {hp : Hp} {c : Nat} (hi : i < m.n) (hc : c < 16777215) (hB : hp.at c = Bx q (m.fn i)) (hks : m.ns i ≤ 30) :
    (cU).run .lf (.n m.av (.bool false) x2 (.ptr 0 0) (I (m.ns i)) (.ptr c 0) .uu .uu .e) hp = .exit 4 (.n m.av (.bool false) x2 (.ptr 0 0) (I (m.ns i)) (.ptr c 0) .uu .uu .e) hp := by
  rw [ua] at hB
  generalize hr : (cU).run .lf (.n m.av (.bool false) x2 (.ptr 0 0) (I (m.ns i)) (.ptr c 0) .uu .uu .e) hp = r
  simp +contextual (maxSteps := 2000000) (disch := (first | omega | (simp only [Y2, List.length_drop, List.length_take] <;> omega) | ((repeat' (first | exact ai | apply ab | apply aj | refine ah (by omega) ?_ ?_)) <;> (simp (disch := (first | omega | (simp only [Y5] <;> omega))) only [Y4, Nat.reduceAdd, Nat.reduceEqDiff, reduceIte, *])) | (simp (disch := omega) only [Y4, Nat.reduceAdd, Nat.reduceEqDiff, reduceIte]; done) | assumption | exact aN _ | exact aU _ | exact aT _ | exact aS _ | exact True.intro | rfl)) only [Y1, Y3, Y7, jW, Int.reduceLT, Int.reduceLE, Int.reduceEq, Int.reduceNeg, Int.reduceToNat, Nat.reduceAdd, Nat.reduceEqDiff, reduceIte, Nat.reduceLeDiff, Nat.reduceSub, hB, h.a1d] at hr
  rw [← hr, if_neg (by omega)]
theorem agy {m : cD} (h : bz m) {i : Nat} {x2 : AV} {q : Bool} {hp : Hp} {c : Nat} (hi : i < m.n) (hc : c < 16777215) (hB : hp.at c = Bx q (m.fn i)) (hks : m.ns i ≤ 30) : ∀ (d k fuel : Nat), m.ns i - k = d → k ≤ m.ns i → d < fuel →
    (∃ z, du (aD cU fuel (.n m.av (.bool false) x2 (.ptr 0 0) (I k) (.ptr c 0) .uu .uu .e) hp) = .ret (.n m.av (.bool true) x2 (.ptr 0 0) z (.ptr c 0) .uu .uu .e) hp) ∨
    (∃ z, du (aD cU fuel (.n m.av (.bool false) x2 (.ptr 0 0) (I k) (.ptr c 0) .uu .uu .e) hp) = (jS).run .lf (.n m.av (.bool false) x2 (.ptr 0 0) z (.ptr c 0) .uu .uu .e) hp)
  | d, k, 0, _, _, hfu => absurd hfu (Nat.not_lt_zero _)
  | d, k, fuel + 1, hd, hk, hfu => by
    by_cases hlt : k < m.ns i
    · have hb := aek h (x2 := x2) hi hlt hks hc hB
      by_cases h4 : 40 < (m.sn i k).length
      · rw [if_pos h4] at hb
        exact .inl ⟨_, (congrArg du (eQ hb)).trans (oH _ _)⟩
      · rw [if_neg h4] at hb
        rw [cY hb]
        exact agy h hi hc hB hks (d - 1) (k + 1) fuel (by omega) (by omega) (by omega)
    · have hke : k = m.ns i := by omega
      subst hke
      exact .inr ⟨_, (congrArg du (cE (acW h hi hc hB hks))).trans (qo _ _)⟩
theorem aiK {m : cD} (h : bz m) {i : Nat} {x4 x5 : AV} {q : Bool} {hp : Hp} (hi : i < m.n) (h40 : i ≤ 40) (hpr : hp.pr = []) (hnx : 0 < hp.nx ∧ hp.nx ≤ 1 + i) (h0 : hp.at 0 = Bx q [m.ty, m.tx, m.fs]) :
    (∃ x4' x5' hp', (jm).run .lf (.n m.av (.bool false) (I i) (.ptr 0 0) x4 x5 .uu .uu .e) hp = .ret (.n m.av (.bool true) (I i) (.ptr 0 0) x4' x5' .uu .uu .e) hp') ∨
    (((m.nm i).length ≤ 40 ∧ m.nc i ≤ 300) ∧ ∃ x4' x5' hp', (hp'.pr = [] ∧ hp'.nx = hp.nx + 1 ∧ hp'.at 0 = hp.at 0) ∧ (jm).run .lf (.n m.av (.bool false) (I i) (.ptr 0 0) x4 x5 .uu .uu .e) hp = .ok (.n m.av (.bool false) (I ((i : Int) + 1)) (.ptr 0 0) x4' x5' .uu .uu .e) hp') := by
  have hlt : (i : Int) < m.n := by omega
  have h40' : (i : Int) ≤ 40 := by omega
  have hnm := h.nm i hi
  have hsl := (h.sl i hi).one
  have hcd := (h.cd i hi).one
  have hsz := h.sz i hi
  have s1 := (h.sl i hi).small
  have s2 := (h.cd i hi).small
  have s3 := h.fs.small
  generalize hr : (jm).run .lf (.n m.av (.bool false) (I i) (.ptr 0 0) x4 x5 .uu .uu .e) hp = r
  simp +contextual (maxSteps := 2000000) (disch := (first | omega | (simp only [Y2, List.length_drop, List.length_take] <;> omega) | ((repeat' (first | exact ai | apply ab | apply aj | refine ah (by omega) ?_ ?_)) <;> (simp (disch := (first | omega | (simp only [Y5] <;> omega))) only [Y4, Nat.reduceAdd, Nat.reduceEqDiff, reduceIte, *])) | (simp (disch := omega) only [Y4, Nat.reduceAdd, Nat.reduceEqDiff, reduceIte]; done) | assumption | exact aN _ | exact aU _ | exact aT _ | exact aS _ | exact True.intro | rfl)) only [Y1, Y3, Y7, u0, wB, qQ, pM, Int.reduceLT, Int.reduceLE, Int.reduceEq, Int.reduceNeg, Int.reduceToNat, Nat.reduceAdd, Nat.reduceEqDiff, reduceIte, Nat.reduceLeDiff, Nat.reduceSub, h0, h.fs.len, h.fs.idx, yT h.fr, ua, h.a1d, h.sx] at hr
  rw [if_pos hlt, if_pos h40'] at hr
  by_cases c1 : 40 < (m.nm i).length
  · rw [if_pos (by omega)] at hr
    exact .inl ⟨_, _, _, hr.symm⟩
  rw [if_neg (by omega)] at hr
  by_cases c2 : 30 < m.ns i
  · rw [if_pos (by omega)] at hr
    exact .inl ⟨_, _, _, hr.symm⟩
  rw [if_neg (by omega)] at hr
  by_cases c3 : 300 < m.nc i
  · rw [if_pos (by omega)] at hr
    exact .inl ⟨_, _, _, hr.symm⟩
  rw [if_neg (by omega)] at hr
  generalize hH : (hp.add (Bx _ [S [], I 0, I 0, AV.x 8 Tr.lf 0 0 0, AV.x 8 Tr.lf 0 0 0, AV.x 8 Tr.lf 0 0 0, AV.x 8 Tr.lf 0 0 0])).dS hp.nx (Bx _ [S (m.nm i), I (m.pa i), I (m.re i), m.sl i, m.cd i, m.sz i, m.lv i]) = H at hr
  have hN : hp.nx < 16777215 := by omega
  have hHp : H.pr = [] := by subst hH; exact hpr
  have hHn : H.nx = hp.nx + 1 := by subst hH; rfl
  have hH0 : H.at 0 = hp.at 0 := by subst hH; rw [cL hN (by omega), bZ hN (by omega)]
  have hHB : ∃ q, H.at hp.nx = Bx q (m.fn i) := by subst hH; exact ⟨_, cB hN⟩
  obtain ⟨q2, hHB⟩ := hHB
  rcases agy h (x2 := I i) hi hN hHB (by omega) (m.ns i) 0 1000000 rfl (Nat.zero_le _) (by omega) with ⟨z, e⟩ | ⟨z, e⟩
  · rw [show (I ((0 : Nat) : Int)) = I 0 from rfl] at e
    rw [e] at hr
    exact .inl ⟨_, _, _, hr.symm⟩
  · rw [show (I ((0 : Nat) : Int)) = I 0 from rfl] at e
    rw [e] at hr
    simp +contextual (maxSteps := 2000000) (disch := (first | omega | (simp only [Y2, List.length_drop, List.length_take] <;> omega) | ((repeat' (first | exact ai | apply ab | apply aj | refine ah (by omega) ?_ ?_)) <;> (simp (disch := (first | omega | (simp only [Y5] <;> omega))) only [Y4, Nat.reduceAdd, Nat.reduceEqDiff, reduceIte, *])) | (simp (disch := omega) only [Y4, Nat.reduceAdd, Nat.reduceEqDiff, reduceIte]; done) | assumption | exact aN _ | exact aU _ | exact aT _ | exact aS _ | exact True.intro | rfl)) only [Y1, Y3, Y7, qM, vU, Int.reduceLT, Int.reduceLE, Int.reduceEq, Int.reduceNeg, Int.reduceToNat, Nat.reduceAdd, Nat.reduceEqDiff, reduceIte, Nat.reduceLeDiff, Nat.reduceSub] at hr
    exact .inr ⟨⟨by omega, by omega⟩, _, _, H, ⟨hHp, hHn, hH0⟩, hr.symm⟩
theorem aaJ {m : cD} (h : bz m) {q : Bool} : ∀ (d i fuel : Nat) (x4 x5 : AV) (hp : Hp), 41 - i = d → i ≤ 41 → i ≤ m.n → d < fuel → hp.pr = [] → 0 < hp.nx → hp.nx ≤ 1 + i → hp.at 0 = Bx q [m.ty, m.tx, m.fs] → (∀ j, j < i → (m.nm j).length ≤ 40 ∧ m.nc j ≤ 300) →
    ∃ g : Bool, (g = false → m.n ≤ 40 ∧ ∀ j, j < m.n → (m.nm j).length ≤ 40 ∧ m.nc j ≤ 300) ∧ db (a8o (mA (aD jm fuel (.n m.av (.bool false) (I i) (.ptr 0 0) x4 x5 .uu .uu .e) hp))) = some (.bool g)
  | d, i, 0, _, _, _, _, _, _, hfu, _, _, _, _, _ => absurd hfu (Nat.not_lt_zero _)
  | d, i, fuel + 1, x4, x5, hp, hd, hi, him, hfu, hpr, hn0, hnx, h0, hall => by
    by_cases hlt : i < m.n ∧ i ≤ 40
    · rcases aiK h (x4 := x4) (x5 := x5) hlt.1 hlt.2 hpr ⟨hn0, hnx⟩ h0 with ⟨x4', x5', hp', e⟩ | ⟨hf, x4', x5', hp', ⟨e1, e2, e3⟩, e⟩
      · refine ⟨true, fun h => absurd h (by decide), ?_⟩
        rw [(congrArg mA (eQ e)).trans (a1X _ _), agP]; rfl
      · rw [cY e]
        exact aaJ h (d - 1) (i + 1) fuel x4' x5' hp' (by omega) (by omega) (by omega) (by omega) e1 (by omega) (by omega) (by rw [e3]; exact h0) fun j hj => by
          by_cases hji : j = i
          · rw [hji]; exact hf
          · exact hall j (by omega)
    · have s3 := h.fs.small
      have hb : (jm).run .lf (.n m.av (.bool false) (I i) (.ptr 0 0) x4 x5 .uu .uu .e) hp = .exit 0 (.n m.av (.bool false) (I i) (.ptr 0 0) x4 x5 .uu .uu .e) hp := by
        generalize hr : (jm).run .lf (.n m.av (.bool false) (I i) (.ptr 0 0) x4 x5 .uu .uu .e) hp = r
        simp +contextual (maxSteps := 2000000) (disch := (first | omega | (simp only [Y2, List.length_drop, List.length_take] <;> omega) | ((repeat' (first | exact ai | apply ab | apply aj | refine ah (by omega) ?_ ?_)) <;> (simp (disch := (first | omega | (simp only [Y5] <;> omega))) only [Y4, Nat.reduceAdd, Nat.reduceEqDiff, reduceIte, *])) | (simp (disch := omega) only [Y4, Nat.reduceAdd, Nat.reduceEqDiff, reduceIte]; done) | assumption | exact aN _ | exact aU _ | exact aT _ | exact aS _ | exact True.intro | rfl)) only [Y1, Y3, Y7, u0, Int.reduceLT, Int.reduceLE, Int.reduceEq, Int.reduceNeg, Int.reduceToNat, Nat.reduceAdd, Nat.reduceEqDiff, reduceIte, Nat.reduceLeDiff, Nat.reduceSub, h0, h.fs.len] at hr
        rw [← hr]
        by_cases c : i < m.n
        · rw [if_pos (by omega), if_neg (by omega)]
        · rw [if_neg (by omega)]
      rw [(congrArg mA (cE hb)).trans (a4Q _ _)]
      generalize hr : a8o ((a10).run .lf (.n m.av (.bool false) (I i) (.ptr 0 0) x4 x5 .uu .uu .e) hp) = r
      simp +contextual (maxSteps := 2000000) (disch := (first | omega | (simp only [Y2, List.length_drop, List.length_take] <;> omega) | ((repeat' (first | exact ai | apply ab | apply aj | refine ah (by omega) ?_ ?_)) <;> (simp (disch := (first | omega | (simp only [Y5] <;> omega))) only [Y4, Nat.reduceAdd, Nat.reduceEqDiff, reduceIte, *])) | (simp (disch := omega) only [Y4, Nat.reduceAdd, Nat.reduceEqDiff, reduceIte]; done) | assumption | exact aN _ | exact aU _ | exact aT _ | exact aS _ | exact True.intro | rfl)) only [Y1, Y3, Y7, a5e, Int.reduceLT, Int.reduceLE, Int.reduceEq, Int.reduceNeg, Int.reduceToNat, Nat.reduceAdd, Nat.reduceEqDiff, reduceIte, Nat.reduceLeDiff, Nat.reduceSub, h0, h.fs.len, agP] at hr
      subst hr
      refine ⟨_, fun hg => ?_, rfl⟩
      have hn : ¬ (40 : Int) < m.n := of_decide_eq_false hg
      exact ⟨by omega, fun j hj => hall j (by omega)⟩
theorem ajb {m : cD} (h : bz m) : ∃ g : Bool, (g = false → m.n ≤ 40 ∧ ∀ j, j < m.n → (m.nm j).length ≤ 40 ∧ m.nc j ≤ 300) ∧ db (r16.f (.nd m.av .lf .lf) .empty) = some (.bool g) := by
  generalize hr : r16.f (.nd m.av .lf .lf) .empty = r
  simp only [cD.av] at hr
  simp +contextual (maxSteps := 2000000) (disch := (first | omega | (simp only [Y2, List.length_drop, List.length_take] <;> omega) | ((repeat' (first | exact ai | apply ab | apply aj | refine ah (by omega) ?_ ?_)) <;> (simp (disch := (first | omega | (simp only [Y5] <;> omega))) only [Y4, Nat.reduceAdd, Nat.reduceEqDiff, reduceIte, *])) | (simp (disch := omega) only [Y4, Nat.reduceAdd, Nat.reduceEqDiff, reduceIte]; done) | assumption | exact aN _ | exact aU _ | exact aT _ | exact aS _ | exact True.intro | rfl)) only [Y1, Y3, Y7, t16, a2T, Int.reduceLT, Int.reduceLE, Int.reduceEq, Int.reduceNeg, Int.reduceToNat, Nat.reduceAdd, Nat.reduceEqDiff, reduceIte, Nat.reduceLeDiff, Nat.reduceSub] at hr
  generalize (m.ty.pl && (m.tx.pl && (m.fs.pl && true))) = q at hr
  obtain ⟨g, g1, g2⟩ := aaJ h (q := q) 41 0 1000000 .uu .uu (Hp.empty.add (Bx q [m.ty, m.tx, m.fs])) rfl (Nat.zero_le _) (Nat.zero_le _) (by omega) rfl (show 0 < 1 by decide) (Nat.le_refl _) (cV (show 0 < 16777215 by decide) rfl) fun j hj => absurd hj (Nat.not_lt_zero _)
  rw [show (I ((0 : Nat) : Int)) = I 0 from rfl] at g2
  simp only [cD.av] at g2
  rw [hr] at g2
  exact ⟨g, g1, g2⟩
theorem r4_ok {m : cD} (h : bz m) {a : AV} {n : Nat} {t : Row} (hs : mK 7 a n t) : ∃ g : Bool, (g = false → (m.n ≤ 40 ∧ ∀ j, j < m.n → (m.nm j).length ≤ 40 ∧ m.nc j ≤ 300) ∧ (n ≤ 100 ∨ 2000 < n ∧ n ≤ 2010)) ∧ db (r4.f (.nd m.av .lf (.nd a .lf .lf)) .empty) = some (.bool g) := by
  obtain ⟨g, g1, g2⟩ := ajb h
  have hsm := hs.small
  have e16 := fun hp k => j6 (cD.iS h (dA .lf)) (qL g).goes g2 hp k
  generalize hr : r4.f (.nd m.av .lf (.nd a .lf .lf)) .empty = r
  simp only [cD.av] at hr e16
  cases g with
  | true =>
    simp +contextual (maxSteps := 2000000) (disch := (first | omega | (simp only [Y2, List.length_drop, List.length_take] <;> omega) | ((repeat' (first | exact ai | apply ab | apply aj | refine ah (by omega) ?_ ?_)) <;> (simp (disch := (first | omega | (simp only [Y5] <;> omega))) only [Y4, Nat.reduceAdd, Nat.reduceEqDiff, reduceIte, *])) | (simp (disch := omega) only [Y4, Nat.reduceAdd, Nat.reduceEqDiff, reduceIte]; done) | assumption | exact aN _ | exact aU _ | exact aT _ | exact aS _ | exact True.intro | rfl)) only [Y1, Y3, Y7, t4, Int.reduceLT, Int.reduceLE, Int.reduceEq, Int.reduceNeg, Int.reduceToNat, Nat.reduceAdd, Nat.reduceEqDiff, reduceIte, Nat.reduceLeDiff, Nat.reduceSub, e16, hs.len, apply_ite fin4, ret4] at hr
    subst hr
    exact ⟨true, fun h => absurd h (by decide), rfl⟩
  | false =>
    simp +contextual (maxSteps := 2000000) (disch := (first | omega | (simp only [Y2, List.length_drop, List.length_take] <;> omega) | ((repeat' (first | exact ai | apply ab | apply aj | refine ah (by omega) ?_ ?_)) <;> (simp (disch := (first | omega | (simp only [Y5] <;> omega))) only [Y4, Nat.reduceAdd, Nat.reduceEqDiff, reduceIte, *])) | (simp (disch := omega) only [Y4, Nat.reduceAdd, Nat.reduceEqDiff, reduceIte]; done) | assumption | exact aN _ | exact aU _ | exact aT _ | exact aS _ | exact True.intro | rfl)) only [Y1, Y3, Y7, t4, Int.reduceLT, Int.reduceLE, Int.reduceEq, Int.reduceNeg, Int.reduceToNat, Nat.reduceAdd, Nat.reduceEqDiff, reduceIte, Nat.reduceLeDiff, Nat.reduceSub, e16, hs.len, apply_ite fin4, ret4] at hr
    refine ⟨decide (100 < n ∧ n ≤ 2000 ∨ 2010 < n), fun hg => ⟨g1 rfl, ?_⟩, ?_⟩
    · have := of_decide_eq_false hg
      omega
    · by_cases c1 : 100 < n
      · rw [if_pos (by omega)] at hr
        by_cases c2 : n ≤ 2000
        · rw [if_pos (by omega)] at hr
          rw [← hr, decide_eq_true (.inl ⟨c1, c2⟩)]; rfl
        · rw [if_neg (by omega)] at hr
          have : decide ((2010 : Int) < n) = decide (100 < n ∧ n ≤ 2000 ∨ 2010 < n) := decide_eq_decide.2 (by omega)
          rw [← hr, this]; rfl
      · rw [if_neg (by omega)] at hr
        have : decide ((2010 : Int) < n) = decide (100 < n ∧ n ≤ 2000 ∨ 2010 < n) := decide_eq_decide.2 (by omega)
        rw [← hr, this]; rfl
end Go.Proofs.YtbamejikafhenaaDoor.Tz
namespace Go.Proofs.YtbamejikafhenaaDoor.Tz
theorem dg10 {d : Nat} (h : d < 10) : (dg d).toNat = 48 + d := by
  have : ∀ d, d < 10 → (dg d).toNat = 48 + d := by decide
  exact this d h
theorem rL : ∀ f n, 1 ≤ f → ep 10 f n ≠ []
  | 0, _, h => absurd h (by decide)
  | f + 1, n, _ => by
    unfold ep
    split
    · simp
    · simp
theorem aa0 (c : UInt8) : dc [c] = c.toNat - 48 := by
  show 0 * 10 + (c.toNat - 48) = _
  omega
theorem ze {f n : Nat} (h : n < 10 ^ f) (h0 : n ≠ 0) : 1 ≤ f := by
  rcases f with _ | f
  · simp at h; omega
  · omega
theorem a2Z : ∀ f n, n < 10 ^ f → 1 ≤ f → dc (ep 10 f n) = n
  | 0, _, _, h => absurd h (by decide)
  | f + 1, n, h, _ => by
    unfold ep
    split
    · rename_i h0
      rw [aa0, dg10 (by omega)]; omega
    · rename_i h0
      rw [mU, a2Z f (n / 10) (by rw [Nat.pow_succ] at h; omega) (ze (n := n / 10) (by rw [Nat.pow_succ] at h; omega) h0), dg10 (by omega)]
      omega
theorem kO : ∀ f n, ∀ c ∈ ep 10 f n, bT c.toNat = true
  | 0, _, _, h => (by cases h)
  | f + 1, n, c, h => by
    have hd : bT (dg (n % 10)).toNat = true := by
      rw [dg10 (by omega)]
      have : ∀ d, d < 10 → bT (48 + d) = true := by decide
      exact this _ (by omega)
    unfold ep at h
    split at h
    · rw [List.mem_singleton.1 h]; exact hd
    · rcases List.mem_append.1 h with h | h
      · exact kO f (n / 10) c h
      · rw [List.mem_singleton.1 h]; exact hd
theorem a0s : ∀ f n, n < 10 ^ f → n ≠ 0 → ((ep 10 f n).getD 0 0).toNat ≠ 48
  | 0, n, h, h0 => by simp at h; omega
  | f + 1, n, h, h0 => by
    unfold ep
    split
    · rename_i h1
      show (dg (n % 10)).toNat ≠ 48
      rw [dg10 (by omega)]; omega
    · rename_i h1
      have hlt : n / 10 < 10 ^ f := by rw [Nat.pow_succ] at h; omega
      have hne := rL f (n / 10) (ze hlt h1)
      have := a0s f (n / 10) hlt h1
      cases hq : ep 10 f (n / 10) with
      | nil => exact absurd hq hne
      | cons a r => rw [hq] at this; exact this
theorem aar {n : Nat} (h : n < 10 ^ 64) : okD (ep 10 64 n) := by
  refine ⟨rL 64 n (by decide), fun i hi => ?_, fun h2 => ?_⟩
  · have : (ep 10 64 n).getD i 0 ∈ ep 10 64 n := by
      simp only [List.getD, List.getElem?_eq_getElem hi, Option.getD_some]
      exact List.getElem_mem _
    exact kO 64 n _ this
  · by_cases h0 : n = 0
    · subst h0
      exact absurd h2 (by decide)
    · exact a0s 64 n h h0
theorem xS {n most : Nat} (h : n ≤ most) (h2 : n < 10 ^ 64) : bq (ep 10 64 n) most = (n, 0) := by
  unfold bq
  rw [if_pos (aar h2), a2Z 64 n h2 (by decide), if_pos h]
theorem agc : 9223372036854775808 < 10 ^ 64 := by decide
theorem yo {z : Int} (h : -9223372036854775808 ≤ z ∧ z < 9223372036854775808) : qU (bo z) = (z, 0) := by
  have hlen := cA z
  have hb := agc
  unfold qU
  rw [if_neg (by omega)]
  unfold bo
  by_cases hz : z < 0
  · rw [if_pos hz]
    have hn : (-z).toNat < 10 ^ 64 := by omega
    show (if (45 : UInt8) = 45 then _ else _) = _
    rw [if_pos rfl]
    show (let r := bq (ep 10 64 (-z).toNat) 9223372036854775808; if r.2 = 0 then if r.1 = 0 then ((0 : Int), 12) else (-(r.1 : Int), 0) else (0, r.2)) = _
    rw [xS (by omega) hn]
    show (if 0 = 0 then if (-z).toNat = 0 then ((0 : Int), 12) else (-((-z).toNat : Int), 0) else (0, 0)) = _
    rw [if_pos rfl, if_neg (by omega)]
    congr 1
    omega
  · rw [if_neg hz]
    have hn : z.toNat < 10 ^ 64 := by omega
    have hne : (ep 10 64 z.toNat).getD 0 0 ≠ 45 := by
      intro e
      have hm : (ep 10 64 z.toNat).getD 0 0 ∈ ep 10 64 z.toNat := by
        have hl : 0 < (ep 10 64 z.toNat).length := List.length_pos_iff.2 (rL 64 _ (by decide))
        simp only [List.getD, List.getElem?_eq_getElem hl, Option.getD_some]
        exact List.getElem_mem _
      have := kO 64 _ _ hm
      rw [e] at this
      exact absurd this (by decide)
    rw [if_neg hne, xS (by omega) hn]
    show ((z.toNat : Int), 0) = (z, 0)
    rw [Int.toNat_of_nonneg (by omega)]
theorem a0i {c : UInt8} (h : bT c.toNat = true) : eR c = true := by
  unfold eR; unfold bT at h; rw [h, Bool.or_true]
theorem oZ (z : Int) : ∀ c ∈ bo z, eR c = true := by
  intro c h
  unfold bo at h
  split at h
  · rcases List.mem_cons.1 h with rfl | h
    · rfl
    · exact a0i (kO _ _ c h)
  · exact a0i (kO _ _ c h)
theorem xi : ∀ (l : List UInt8) (c : UInt8) (r : List UInt8), (∀ x ∈ l, eR x = true) → eR c = false → bQ (l ++ c :: r) = l.length
  | [], c, r, _, h => by
    show Bool.rec (motive := fun _ => Nat) 0 (Nat.succ (bQ r)) (eR c) = 0
    rw [h]
  | x :: l, c, r, h1, h => by
    show Bool.rec (motive := fun _ => Nat) 0 (Nat.succ (bQ (l ++ c :: r))) (eR x) = l.length + 1
    rw [h1 x (by simp), xi l c r (fun y hy => h1 y (by simp [hy])) h]
theorem xZ : ∀ (l : List UInt8), (∀ x ∈ l, eR x = true) → bQ l = l.length
  | [], _ => rfl
  | x :: l, h1 => by
    show Bool.rec (motive := fun _ => Nat) 0 (Nat.succ (bQ l)) (eR x) = l.length + 1
    rw [h1 x (by simp), xZ l fun y hy => h1 y (by simp [hy])]
theorem qx (w r : List UInt8) : Lib.hasPrefix (w ++ r) w = true := by
  show w.isPrefixOf (w ++ r) = true
  rw [List.isPrefixOf_iff_prefix]; exact List.prefix_append w r
theorem a4i (w r : List UInt8) : Lib.trimPrefix (w ++ r) w = r := by
  unfold Lib.trimPrefix
  rw [if_pos (qx w r), List.drop_left]
theorem sG {z : Int} {c : UInt8} {w r : List UInt8} (h : -9223372036854775808 ≤ z ∧ z < 9223372036854775808) (hc : eR c = false) : eU (bo z ++ ((c :: w) ++ r)) (c :: w) = (z, true, r) := by
  have e1 : bQ (bo z ++ ((c :: w) ++ r)) = (bo z).length := xi _ c (w ++ r) (oZ z) hc
  unfold eU
  simp only [e1, List.take_left, List.drop_left, yo h, qx, a4i]
  rfl
theorem yp {z : Int} (h : -9223372036854775808 ≤ z ∧ z < 9223372036854775808) : eU (bo z) [] = (z, true, []) := by
  have e1 : bQ (bo z) = (bo z).length := xZ _ (oZ z)
  unfold eU
  simp only [e1, List.take_length, List.drop_length, yo h]
  rfl
end Go.Proofs.YtbamejikafhenaaDoor.Tz
