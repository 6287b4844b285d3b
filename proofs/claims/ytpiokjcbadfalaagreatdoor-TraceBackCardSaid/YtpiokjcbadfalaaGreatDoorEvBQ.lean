import Derived.Test.YtpiokjcbadfalaaGreatDoorEvAY
import Derived.Test.YtpiokjcbadfalaaGreatDoorEvBM
import Derived.Test.YtpiokjcbadfalaaGreatDoorEvBN
import Derived.Test.YtpiokjcbadfalaaGreatDoorEvBP
namespace Go.Proofs.YtpiokjcbadfalaaGreatDoor
open Go Go.Lib Go.ChangeShapes Go.WideShapes Go.ChangeAt Go.RowKit
set_option maxRecDepth 100000
theorem afx {H : Type} {enc : TypeId × Value → H} {W : World} (hg : Tz.GW 1 0 5 W) (hsz : 11 ≤ W.heap.size) {v0 v1 v2 v3 : Value} {d0 d1 d2 d3 : DataW H} {p0 p1 p2 p3 : List MemPlace}
    (o0 : Value.okWide Tryz.prog W .any 0 26 v0) (o1 : Value.okWide Tryz.prog W .any 0 27 v1) (o2 : Value.okWide Tryz.prog W .any 0 29 v2) (o3 : Value.okWide Tryz.prog W .any 0 9 v3)
    (h0 : DataW.Trod enc Tryz.prog W 0 (fun _=>true) true 26 v0 d0 p0) (h1 : DataW.Trod enc Tryz.prog W 0 (fun _=>true) true 27 v1 d1 p1) (h2 : DataW.Trod enc Tryz.prog W 0 (fun _=>true) true 29 v2 d2 p2) (h3 : DataW.Trod enc Tryz.prog W 0 (fun _=>true) true 9 v3 d3 p3) :
    Calls Tryz.prog 3 #[v0,v1,v2,v3] W fun e W'=>e = .returned (.bool true) ∧ Below W.heap.size W W' := by
  obtain ⟨cs0,rfl,_⟩ := okWide_struct (fs := _) aey o0
  obtain ⟨a2,l2,c2,rfl⟩ := okWide_slice a5B o1
  obtain ⟨cs3,rfl,_⟩ := okWide_struct (fs := _) ae5 o2
  obtain ⟨s4,rfl⟩ := okWide_string Tz.ym o3
  obtain ⟨_,h0⟩ := h0
  obtain ⟨_,h1⟩ := h1
  obtain ⟨_,h2⟩ := h2
  obtain ⟨_,h3⟩ := h3
  obtain ⟨im,i0,r0⟩ := Tz.aum h0
  obtain ⟨f2,n2,sv2,t2,b2,b3,b4,r2⟩ := Tz.fK (α := Tz.MaA) ⟨0,0,0,0,0,0,0⟩ (av := Tz.MaA.av) (In := Tz.MaA.In) a5B Tz.a8U (by decide) (fun _=>rfl) (fun m cs x h=>Tz.aun h) h1
  obtain ⟨en,i3,r3⟩ := Tz.auj h2
  obtain ⟨s,b5,r4⟩ := Tz.sF Tz.ym h3
  obtain ⟨ok,q1,q2,q3⟩ := Tz.ImA.ok i0
  have e := Tz.aim Tz.ad4 ok ⟨q1,q2,q3⟩ (M := fun i=>(f2 i).mk') (n := n2) (a := sv2) (t := t2) (Tz.acB b2) (en := en.en) (s := s) b2.ok (b3 (by decide)) (fun i hi=>Tz.MaA.ok (b4 i hi)) (Tz.EdA.ok i3) b5
  have args := Tz.anP (Tz.vM r0) (Tz.a5q r2 rfl) (Tz.vM r3) (Tz.a5q r4 rfl)
  exact (Tz.ao.top Tz.arM e (F := fun B=>B < W.heap.size) ⟨hg,fun B hB=>Nat.lt_of_lt_of_le hB hsz⟩ (fun _ h=>h) args).mono fun e' W' ⟨x,e1,hb,F',μ',hx⟩=>by
    cases hx
    exact ⟨e1,hb⟩
end Go.Proofs.YtpiokjcbadfalaaGreatDoor
