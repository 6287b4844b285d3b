import Derived.Test.YtbjcjppphoppfaaGreatEAO
import Derived.Test.YtbjcjppphoppfaaGreatEAP
import Derived.Test.YtbjcjppphoppfaaGreatEAQ
import Derived.Test.YtbjcjppphoppfaaGreatEAR
set_option linter.all false
set_option maxRecDepth 100000
namespace Go.Proofs.YtbjcjppphoppfaaGreat.M
open Go.Proofs.YtbjcjppphoppfaaGreat.T hiding a8 ae av aH aw bd bM cC
noncomputable section
def a6F:bB:=⟨[gB,(.u 7),(.i 3)],[(.sl (.u 4)),(.i 3)],true,λx=>Mr x.1 x.2.1 x.2.2⟩
theorem Uc:aL Pr 267 a6F:=aB (aj O5 (az O6))
def a5O:bB:=⟨[gB,(.u 7),(.u 7)],[.s,(.i 3)],false,λx=>VP x.1 x.2.1 x.2.2⟩
theorem a1Q:aL Pr 204 a5O:=aB (az Uc)
def a6G:bB:=⟨[(.sl ca),(.i 3)],[(.i 3)],false,λx=>xS x.1 x.2⟩
theorem Ud:aL Pr 268 a6G:=aB (az CX)
def Uy (n:Nat):bB:=⟨[gB,(.sl (.u 4)),(.i 3),(.i 3)],[.gv,(.i 3)],false,λx=>sm n x.1 x.2.1 x.2.2.1 x.2.2.2⟩
def a5Q (n:Nat):bB:=⟨[gB,(.sl (.u 4)),(.sl (.i 3)),(.sl (.i 3)),(.i 3)],[(.sl .gv),(.i 3)],false,λx=>C5 (sm n) x.1 x.2.1 x.2.2.1 x.2.2.2.1 x.2.2.2.2⟩
theorem Ob (n:Nat)(h:aL Pr 154 (Uy n)):aL Pr 206 (a5Q n):=aB (az h)
def a5P (n:Nat):bB:=⟨[gB,(.u 7),ca,(.i 3),(.i 3),(.i 3)],[.gv,(.i 3)],false,λx=>Ek (sm n) x.1 x.2.1 x.2.2.1 x.2.2.2.1 x.2.2.2.2.1 x.2.2.2.2.2⟩
theorem Xu (n:Nat)(h:aL Pr 154 (Uy n)):aL Pr 205 (a5P n):=aB (aj (Ob n h) (aj Uc (az Ud)))
def a5R:bB:=⟨[ca],[(.sl (.i 3))],true,λx=>LJ x⟩
theorem a1R:aL Pr 207 a5R:=aB a_
def a5S:bB:=⟨[(.sl ca),ca],[(.sl (.i 3))],false,λx=>LL x.1 x.2⟩
theorem a1S:aL Pr 208 a5S:=aB (aj TO (az Ud))
theorem a1d(n:Nat):aL Pr 154 (Uy n):=by
 induction n with
 |zero=>exact uG (λ_=>rfl) (by kernel_rfl) (by kernel_rfl)
 |succ n ih=>exact iq [] [([1,1,1,1,0,1,1,1,1,1,1,1,1,1,0,1,0,1,1,1],([2],[])),([1,1,0,1,1,1,1,1,1,1,1,1,0,1,0,1,1,1],([2],[])),([1,1,1,1,1,1,1,1,1,0,1,0,1,1,1],([2],[])),([1,1,0,1,1,1,1,1,1,1,0,1,0,1,1,1],([2],[])),([1,1,1,1,1,1,1,0,1,0,1,1,1],([2],[])),([1,1,1,1,1,0,1,0,1,1,1],([2],[])),([1,1,1,0,1,0,1,1,1],([2],[])),([1,0,1,0,1,1,1],([2],[]))] [[1,1,1,1,0,1,1,1,1,1,1,1,1,1,0,1,0,1,1,1],[1,1,0,1,1,1,1,1,1,1,1,1,0,1,0,1,1,1],[1,1,1,1,1,1,1,1,1,0,1,0,1,1,1],[1,1,0,1,1,1,1,1,1,1,0,1,0,1,1,1],[1,1,1,1,1,1,1,0,1,0,1,1,1],[1,1,1,1,1,0,1,0,1,1,1],[1,1,1,0,1,0,1,1,1],[1,0,1,0,1,1,1]] (aj a1P (aj a1Q (aj (Xu n ih) (aj (Ob n ih) (aj a1R (az a1S))))))
def a4p (n:Nat):bB:=⟨[(.sl ca),(.sl aP),(.u 7),(.i 3),(.i 3)],[.gv,(.i 3)],false,λx=>C1 n x.1 x.2.1 x.2.2.1 x.2.2.2.1 x.2.2.2.2⟩
theorem a0O(n:Nat):aL Pr 104 (a4p n):=aB (aj O5 (aj O6 (aj a1c (aj CX (az (a1d n))))))
def F62 (n:Nat):bB:=⟨[gb,(.i 3),(.u 7)],[.gv,(.i 3)],false,λx=>PJ n x.1 x.2.1 x.2.2⟩
theorem a2S(n:Nat):aL Pr 62 (F62 n):=aB (az (a0O n))
def F57 (n:Nat):bB:=⟨[gb,t_],[(.sl xG),(.i 3)],false,λx=>Ri n x.1 x.2⟩
theorem a8W(n:Nat):aL Pr 57 (F57 n):=aB (aj (a2S n) (aj a2' (az a0L)))
def F30 (n:Nat):bB:=⟨[gb,(.sl t_)],[(.sl tZ),(.i 3)],false,λx=>Yb n x.1 x.2⟩
theorem a8E(n:Nat):aL Pr 30 (F30 n):=aB (az (a8W n))
def a4n:bB:=⟨[aP,(.u 7)],[mG,(.i 3)],false,λx=>KP x.1 x.2⟩
theorem a0M:aL Pr 102 a4n:=dB [([0,1,0,1,1,1,1],([2],[]))] (aj On (aj Oo (az Xx)))
def F58:bB:=⟨[aP,(.u 7)],[(.sl mG),(.i 3)],false,λx=>f58 x.1 x.2⟩
theorem a8X:aL Pr 58 F58:=aB (aj On (az a0M))
def a4o:bB:=⟨[ca],[.b],false,λx=>KQ x⟩
theorem a0N:aL Pr 103 a4o:=aB a_
def F61:bB:=⟨[gb,(.i 3),.b],[.b],false,λx=>Zz x.1 x.2.1 x.2.2⟩
theorem a8Y:aL Pr 61 F61:=aB (az a0N)
def F31 (n:Nat):bB:=⟨[gb,(.u 7),(.sl t_)],[(.sl nQ),(.i 3)],false,λx=>Yc n x.1 x.2.1 x.2.2⟩
theorem a8F(n:Nat):aL Pr 31 (F31 n):=iq [59,60] [([0,1,0,1,1,1,1],([6],[])),([1,0,1,1,1,1,0,0,1,1,0,0,1,0,1,1,1,1],([6],[]))] [[1,0,1,1,1,1,0,0,1,1,0,0,1,0,1,1,1,1]] (aj a8X (aj a8Y (az (a2S n))))
def a4q:bB:=⟨[aP],[(.i 3)],false,λx=>KR x⟩
theorem TH:aL Pr 105 a4q:=aB (az On)
def a53:bB:=⟨[aP,(.u 7)],[(.i 3)],false,λx=>Qv x.1 x.2⟩
theorem a1e:aL Pr 155 a53:=aB (aj Oo (az TH))
def a54:bB:=⟨[gR],[.b],false,λx=>Qw x⟩
theorem a1f:aL Pr 156 a54:=aB a_
def a4r:bB:=⟨[aP,(.u 7)],[gR,(.i 3)],false,λx=>KS x.1 x.2⟩
theorem a0P:aL Pr 106 a4r:=dB [([0,1,0,1,1,1],([2],[]))] (aj Xx (aj a1e (az a1f)))
def F63:bB:=⟨[aP,(.u 7)],[(.sl gR),(.i 3)],false,λx=>f63 x.1 x.2⟩
theorem a8Z:aL Pr 63 F63:=aB (aj TH (az a0P))
def F64:bB:=⟨[gb,(.u 7),(.u 7)],[.s,(.i 3)],false,λx=>f64 x.1 x.2.1 x.2.2⟩
theorem a8_:aL Pr 64 F64:=aB (aj O5 (az O6))
def F32:bB:=⟨[gb,(.u 7)],[(.sl nR),(.i 3)],false,λx=>f32 x.1 x.2⟩
theorem a8G:aL Pr 32 F32:=dB [([0,1,0,1,1,1,1],([6],[])),([1,0,1,0,1,1,0,0,1,1,0,0,1,0,1,1,1,1],([6],[]))] (aj a8Z (az a8_))
def F18 (n:Nat):bB:=⟨[gb,(.i 3)],[eQ,(.i 3)],false,λx=>PI n x.1 x.2⟩
theorem a1x(n:Nat):aL Pr 18 (F18 n):=aB (aj a2t (aj (a8E n) (aj (a8F n) (az a8G))))
def F6 (n:Nat):bB:=⟨[bH,(.i 3)],[eQ,(.i 3)],false,λx=>f6 n x.1 x.2⟩
theorem ok6(n:Nat):aL Pr 6 (F6 n):=aB (aj a1p (az (a1x n)))
def a78:bB:=⟨[(.u 4)],[.b],false,λx=>MQ x⟩
theorem a2D:aL Pr 303 a78:=aB a_
def a6J:bB:=⟨[.s],[.b],false,λx=>IY x⟩
theorem Ue:aL Pr 271 a6J:=aB (az a2D)
def a6K:bB:=⟨[(.sl eP),(.i 3)],[.b],false,λx=>IZ x.1 x.2⟩
theorem Uf:aL Pr 272 a6K:=aB (az Ue)
def a6H:bB:=⟨[(.sl ca),(.i 3)],[.b],false,λx=>R5 x.1 x.2⟩
theorem a2i:aL Pr 269 a6H:=aB (az Uf)
def a6X:bB:=⟨[ca],[(.sl (.i 3))],true,λx=>ED x⟩
theorem Ui:aL Pr 285 a6X:=aB a_
def a6I (n:Nat):bB:=⟨[(.sl ca),(.i 3)],[(.sl (.i 3))],true,λx=>IX n x.1 x.2⟩
theorem a2j(n:Nat):aL Pr 270 (a6I n):=by
 induction n with
 |zero=>exact uG (λ_=>rfl) (by kernel_rfl) (by kernel_rfl)
 |succ n ih=>exact iq [] [] [[1,0,1,1]] (aj ih (az Ui))
def a5T (n:Nat):bB:=⟨[(.sl ca)],[(.i 3)],false,λx=>IP n x⟩
theorem TZ(n:Nat):aL Pr 210 (a5T n):=aB (aj a2i (az (a2j n)))
def a5h:bB:=⟨[(.i 3),(.i 3)],[(.i 3)],false,λx=>IL x.1 x.2⟩
theorem TT:aL Pr 170 a5h:=aB a_
def a5g:bB:=⟨[(.sl (.i 3)),(.sl (.i 3)),(.sl eP)],[(.sl (.i 3)),(.i 3),(.i 3)],true,λx=>Ln x.1 x.2.1 x.2.2⟩
theorem TR:aL Pr 169 a5g:=aB (az TT)
def a5f:bB:=⟨[(.sl ca)],[(.sl (.i 3)),(.sl (.i 3))],true,λx=>Ae x⟩
theorem zh:aL Pr 168 a5f:=aB (az TR)
def a6N:bB:=⟨[(.u 4)],[.s],false,λx=>cJ x⟩
theorem Oi:aL Pr 275 a6N:=aB a_
def a6O:bB:=⟨[cK],[(.ar 3 (.i 3))],false,λx=>MK x⟩
theorem Oj:aL Pr 276 a6O:=aB a_
def a79:bB:=⟨[(.u 4),(.i 3)],[.b],false,λx=>Rc x.1 x.2⟩
theorem a2E:aL Pr 304 a79:=aB a_
end
end Go.Proofs.YtbjcjppphoppfaaGreat.M
