import Derived.Test.YtbjcjppphoppfaaGreatEAO
import Derived.Test.YtbjcjppphoppfaaGreatEAR
import Derived.Test.YtbjcjppphoppfaaGreatEAS
import Derived.Test.YtbjcjppphoppfaaGreatEAT
import Derived.Test.YtbjcjppphoppfaaGreatEAU
set_option linter.all false
set_option maxRecDepth 100000
namespace Go.Proofs.YtbjcjppphoppfaaGreat.M
open Go.Proofs.YtbjcjppphoppfaaGreat.T hiding a8 ae av aH aw bd bM cC
noncomputable section
def a69:bB:=⟨[ca],[(.sl (.i 3))],true,λx=>QX x⟩
theorem a1':aL Pr 228 a69:=aB (az Ui)
def a5i:bB:=⟨[(.sl ca),(.i 3)],[(.sl (.i 3))],true,λx=>QD x.1 x.2⟩
theorem a1q:aL Pr 171 a5i:=dB [([0,1,0,1,1,1],([1,2,3],[])),([0,1,0,0,1,0,0,1,0,1,1,1],([1,2,3],[])),([0,1,1,0,0,1,0,0,1,0,0,1,0,0,1,0,1,1,1],([1,2,3],[]))] (az a1')
def a4F (n:Nat):bB:=⟨[(.sl ca),(.i 3)],[(.i 3)],false,λx=>KZ n x.1 x.2⟩
theorem a0X(n:Nat):aL Pr 120 (a4F n):=aB (aj (TK n) (az a1q))
def a6a:bB:=⟨[(.u 7)],[.b],false,λx=>QY x⟩
theorem a20:aL Pr 229 a6a:=aB a_
def a5j:bB:=⟨[aP],[(.i 3)],false,λx=>QE x⟩
theorem a1r:aL Pr 172 a5j:=aB (az a20)
def a5k:bB:=⟨[aP,aP],[.b],false,λx=>QF x.1 x.2⟩
theorem a1s:aL Pr 173 a5k:=aB (az tK)
def a4G:bB:=⟨[(.sl aP)],[(.i 3)],false,λx=>K_ x⟩
theorem a0Y:aL Pr 121 a4G:=aB (aj a1r (az a1s))
def a4I:bB:=⟨[(.sl aP),(.u 7),(.i 3)],[.b],false,λx=>Qq x.1 x.2.1 x.2.2⟩
theorem a0Z:aL Pr 123 a4I:=aB (az tK)
def a6c:bB:=⟨[(.sl aP),(.u 7)],[(.u 7)],false,λx=>ng x.1 x.2⟩
theorem U7:aL Pr 231 a6c:=aB (aj tK (az CV))
def a6Y:bB:=⟨[(.sl ca),(.i 3)],[(.i 3)],false,λx=>Wi x.1 x.2⟩
theorem a2r:aL Pr 286 a6Y:=aB (az zh)
def a6f:bB:=⟨[(.sl ca),(.i 3)],[(.i 3)],false,λx=>xR x.1 x.2⟩
theorem U8:aL Pr 234 a6f:=aB (az a2r)
def a4N:bB:=⟨[(.sl aP),(.u 7),(.i 3)],[aP,.b],false,λx=>IG x.1 x.2.1 x.2.2⟩
theorem O7:aL Pr 129 a4N:=dB [([0,1,0,1,1],([1],[]))] (az tK)
def PX (n:Nat):bB:=⟨[(.sl ca),(.sl aP),(.u 7),(.i 3),(.i 3)],[.gv,(.i 3)],false,λx=>u9 n x.1 x.2.1 x.2.2.1 x.2.2.2.1 x.2.2.2.2⟩
def a5p (n:Nat):bB:=⟨[(.sl ca),(.sl aP),(.u 7),(.i 3),(.sl (.i 3)),(.sl (.i 3)),(.i 3)],[.gv,(.i 3)],false,λx=>Lq (u9 n) x.1 x.2.1 x.2.2.1 x.2.2.2.1 x.2.2.2.2.1 x.2.2.2.2.2.1 x.2.2.2.2.2.2⟩
theorem O9 (n:Nat)(h:aL Pr 124 (PX n)):aL Pr 178 (a5p n):=dB [([0,1,0,1,1],([1,3],[]))] (az h)
def a6d (n:Nat):bB:=⟨[(.sl ca),(.sl aP),(.u 7),(.i 3),(.i 3),(.i 3),(.i 3)],[.gv,(.i 3)],false,λx=>Q_ (u9 n) x.1 x.2.1 x.2.2.1 x.2.2.2.1 x.2.2.2.2.1 x.2.2.2.2.2.1 x.2.2.2.2.2.2⟩
theorem Xv (n:Nat)(h:aL Pr 124 (PX n)):aL Pr 232 (a6d n):=aB (aj O7 (aj (O9 n h) (az U8)))
def a5m (n:Nat):bB:=⟨[(.sl ca),(.sl aP),(.u 7),(.i 3),(.i 3)],[.gv,(.i 3)],false,λx=>QH (u9 n) x.1 x.2.1 x.2.2.1 x.2.2.2.1 x.2.2.2.2⟩
theorem Xt (n:Nat)(h:aL Pr 124 (PX n)):aL Pr 175 (a5m n):=dB [([1,0,1,1],([1],[]))] (aj U7 (az (Xv n h)))
def a6e:bB:=⟨[(.sl aP),(.u 7)],[(.u 4)],false,λx=>IU x.1 x.2⟩
theorem a22:aL Pr 233 a6e:=aB (aj tK (az CV))
def a4O:bB:=⟨[aP,(.u 7),(.i 3)],[(.sl (.u 4))],true,λx=>L9 x.1 x.2.1 x.2.2⟩
theorem TN:aL Pr 130 a4O:=aB a_
def a5n:bB:=⟨[(.sl ca),(.sl aP),(.u 7),(.i 3)],[.gv,(.i 3)],false,λx=>Lp x.1 x.2.1 x.2.2.1 x.2.2.2⟩
theorem a1u:aL Pr 176 a5n:=iq [] [([1,1,1,1,1,0,1,0,1,1],([1],[]))] [[1,1,1,1,1,0,1,0,1,1]] (aj O7 (aj TN (aj U7 (az a22))))
def a5o:bB:=⟨[(.sl ca),(.i 3)],[(.sl (.i 3)),(.sl (.i 3))],true,λx=>QI x.1 x.2⟩
theorem a1v:aL Pr 177 a5o:=aB (aj TI (az U8))
theorem a0_(n:Nat):aL Pr 124 (PX n):=by
 induction n with
 |zero=>exact uG (λ_=>rfl) (by kernel_rfl) (by kernel_rfl)
 |succ n ih=>exact aB (aj (Xt n ih) (aj a1u (aj a1v (az (O9 n ih)))))
def F75 (n:Nat):bB:=⟨[(.sl ca),(.sl aP),(.u 7),(.i 3),(.i 3)],[.gv,(.i 3)],false,λx=>Tc n x.1 x.2.1 x.2.2.1 x.2.2.2.1 x.2.2.2.2⟩
theorem a2V(n:Nat):aL Pr 75 (F75 n):=aB (aj (a0X n) (aj a0Y (aj (TK n) (aj a0Z (az (a0_ n))))))
def F41 (n:Nat):bB:=⟨[bH,t_],[(.sl xG),.b],false,λx=>Wv n x.1 x.2⟩
theorem a8L(n:Nat):aL Pr 41 (F41 n):=aB (aj a2T (aj a2U (aj (a2V n) (az Xw))))
def a4J:bB:=⟨[aP,(.u 7)],[mG,(.i 3)],false,λx=>L5 x.1 x.2⟩
theorem a0':aL Pr 125 a4J:=aB (aj Jz (aj tK (az CV)))
def F77:bB:=⟨[aP,(.u 7)],[(.sl mG),(.i 3)],false,λx=>f77 x.1 x.2⟩
theorem a97:aL Pr 77 F77:=aB (aj Jz (az a0'))
def F78:bB:=⟨[(.sl t_),(.u 7)],[(.i 3)],false,λx=>f78 x.1 x.2⟩
theorem a98:aL Pr 78 F78:=aB a_
def F42 (n:Nat):bB:=⟨[bH,(.u 7),(.sl t_)],[(.sl nQ),.b],false,λx=>f42 n x.1 x.2.1 x.2.2⟩
theorem a8M(n:Nat):aL Pr 42 (F42 n):=iq [] [([0,1,0,1,1,1,1],([5],[])),([1,0,1,1,0,0,1,0,0,1,0,1,1,1,1],([5],[]))] [[1,0,1,1,0,0,1,0,0,1,0,1,1,1,1]] (aj (a2V n) (aj Xw (aj a97 (aj a98 (az a2W)))))
def a6g:bB:=⟨[aP,(.u 7)],[(.i 3)],false,λx=>M0 x.1 x.2⟩
theorem a23:aL Pr 235 a6g:=aB (aj Jz (az tK))
def a4M:bB:=⟨[aP,(.u 7)],[gR],false,λx=>IF x.1 x.2⟩
theorem TM:aL Pr 128 a4M:=aB (az CV)
def a6h:bB:=⟨[gR],[.b],false,λx=>R0 x⟩
theorem a24:aL Pr 236 a6h:=aB a_
def a5q:bB:=⟨[aP,(.u 7)],[gR,(.i 3)],false,λx=>Lr x.1 x.2⟩
theorem a1w:aL Pr 179 a5q:=aB (aj TM (aj a23 (az a24)))
def a4L:bB:=⟨[aP,(.u 7)],[(.sl (.u 7)),(.i 3)],false,λx=>Vf x.1 x.2⟩
theorem a10:aL Pr 127 a4L:=aB (aj Jz (az a1w))
def F80:bB:=⟨[aP,(.u 7)],[(.sl gR),(.i 3)],true,λx=>f80 x.1 x.2⟩
theorem a99:aL Pr 80 F80:=aB (aj a10 (az TM))
def F81:bB:=⟨[bH,(.u 7),(.u 7)],[.s,.b],false,λx=>ZN x.1 x.2.1 x.2.2⟩
theorem a9a:aL Pr 81 F81:=aB (aj Xw (aj O7 (az TN)))
def F43:bB:=⟨[bH,(.u 7)],[(.sl nR),.b],false,λx=>f43 x.1 x.2⟩
theorem a8N:aL Pr 43 F43:=dB [([0,1,0,1,1,1,1],([6],[])),([1,0,1,0,1,0,0,1,0,0,1,0,1,1,1,1],([6],[]))] (aj a99 (az a9a))
def F20 (n:Nat):bB:=⟨[bH,(.i 3)],[eQ,.b],false,λx=>Ya n x.1 x.2⟩
theorem a1L(n:Nat):aL Pr 20 (F20 n):=dB [([0,1,0,1,1,1,1,1],([4,9],[]))] (aj a2O (aj (a8L n) (aj (a8M n) (az a8N))))
def F7 (n:Nat):bB:=⟨[bH,(.i 3)],[eQ,(.i 3)],false,λx=>f7 n x.1 x.2⟩
theorem ok7(n:Nat):aL Pr 7 (F7 n):=aB (aj (a1G n) (az (a1L n)))
def F8 (n:Nat):bB:=⟨[bH,jK],[BB,(.i 3)],false,λx=>f8 n x.1 x.2⟩
theorem ok8(n:Nat):aL Pr 8 (F8 n):=dB [([0,1,0,1,1,1,1,1,1],([3,13],[]))] (aj a1p (az (a1x n)))
def F9 (n:Nat):bB:=⟨[bH,jK],[BB,(.i 3)],false,λx=>f9 n x.1 x.2⟩
theorem ok9(n:Nat):aL Pr 9 (F9 n):=dB [([0,1,0,1,1,1,1],([3,5],[]))] (aj (a1G n) (az (a1L n)))
def F22 (n:Nat):bB:=⟨[.gv,.gv],[.b],false,λx=>VS n x.1 x.2⟩
theorem a1Y(n:Nat):aL Pr 22 (F22 n):=by
 induction n with
 |zero=>exact uG (λ_=>rfl) (by kernel_rfl) (by kernel_rfl)
 |succ n ih=>exact aB (az ih)
end
end Go.Proofs.YtbjcjppphoppfaaGreat.M
