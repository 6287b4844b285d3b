import Derived.Test.YtbjcjppphoppfaaGreatEAO
import Derived.Test.YtbjcjppphoppfaaGreatEAP
import Derived.Test.YtbjcjppphoppfaaGreatEAS
import Derived.Test.YtbjcjppphoppfaaGreatEAT
set_option linter.all false
set_option maxRecDepth 100000
namespace Go.Proofs.YtbjcjppphoppfaaGreat.M
open Go.Proofs.YtbjcjppphoppfaaGreat.T hiding a8 ae av aH aw bd bM cC
noncomputable section
def F82:bB:=⟨[(.sl eP),(.sl eP)],[.b],false,λx=>ZO x.1 x.2⟩
theorem a2X:aL Pr 82 F82:=aB a_
def F83:bB:=⟨[(.sl cK),(.sl cK)],[.b],false,λx=>f83 x.1 x.2⟩
theorem a9b:aL Pr 83 F83:=aB a_
def F84:bB:=⟨[(.sl lf),(.sl lf)],[.b],false,λx=>f84 x.1 x.2⟩
theorem a9c:aL Pr 84 F84:=aB a_
def F45:bB:=⟨[iE,iE],[.b],false,λx=>Yd x.1 x.2⟩
theorem a2P:aL Pr 45 F45:=aB (aj a2X (aj a9b (az a9c)))
def a4v:bB:=⟨[bJ,(.i 3)],[(.i 3),(.i 3)],false,λx=>KU x.1 x.2⟩
theorem a0R:aL Pr 110 a4v:=aB (aj a2P (aj a1k (az a1l)))
def F65 (n:Nat):bB:=⟨[bJ],[(.i 3),(.i 3),(.i 3)],false,λx=>f65 n x⟩
theorem a8'(n:Nat):aL Pr 65 (F65 n):=aB (aj (a0Q n) (az a0R))
def F33 (n:Nat):bB:=⟨[bJ],[(.i 3)],false,λx=>f33 n x⟩
theorem a8H(n:Nat):aL Pr 33 (F33 n):=aB (az (a8' n))
def a4w:bB:=⟨[rQ],[.b],false,λx=>Qm x⟩
theorem a0S:aL Pr 111 a4w:=aB a_
def F66:bB:=⟨[Ib],[(.i 3)],false,λx=>f66 x⟩
theorem a90:aL Pr 66 F66:=aB (az a0S)
def F34:bB:=⟨[rQ],[.b],false,λx=>f34 x⟩
theorem a8I:aL Pr 34 F34:=aB (az a90)
def F35:bB:=⟨[aP],[.b],false,λx=>Rh x⟩
theorem Jz:aL Pr 35 F35:=aB a_
def F38:bB:=⟨[(.i 3)],[(.u 7)],false,λx=>Wu x⟩
theorem a2M:aL Pr 38 F38:=aB a_
def a4x:bB:=⟨[(.u 7)],[.b],false,λx=>Qn x⟩
theorem a0T:aL Pr 112 a4x:=aB a_
def a4y:bB:=⟨[(.u 7)],[.b],false,λx=>KV x⟩
theorem a0U:aL Pr 113 a4y:=aB a_
def F67:bB:=⟨[(.i 3),fk],[.b],false,λx=>f67 x.1 x.2⟩
theorem a91:aL Pr 67 F67:=aB (aj a2M (aj a0T (az a0U)))
def F36:bB:=⟨[(.sl fk)],[(.i 3)],false,λx=>f36 x⟩
theorem a8J:aL Pr 36 F36:=aB (az a91)
def F68:bB:=⟨[],[aP],true,λ_=>f68⟩
theorem a92:aL Pr 68 F68:=aB a_
def a5c:bB:=⟨[aP,(.i 3)],[(.i 3)],false,λx=>Lm x.1 x.2⟩
theorem a1m:aL Pr 165 a5c:=aB (az Jz)
def a68:bB:=⟨[(.i 3)],[(.i 3)],false,λx=>LZ x⟩
theorem U6:aL Pr 227 a68:=aB a_
def a5d:bB:=⟨[aP,(.i 3),(.i 3)],[.b],false,λx=>QB x.1 x.2.1 x.2.2⟩
theorem a1n:aL Pr 166 a5d:=aB (az U6)
def a5e:bB:=⟨[aP,(.i 3)],[aP,(.u 7)],true,λx=>QC x.1 x.2⟩
theorem a1o:aL Pr 167 a5e:=dB [([0,1,0,1,1],([5],[]))] (aj a1a (az U6))
def a4z:bB:=⟨[aP,(.i 3),(.i 3)],[aP,(.u 7),(.i 3)],true,λx=>Qo x.1 x.2.1 x.2.2⟩
theorem a0V:aL Pr 114 a4z:=aB (aj a1m (aj a1n (az a1o)))
def F69:bB:=⟨[aP,(.sl (.u 4)),(.i 3)],[aP,(.u 7),(.i 3)],true,λx=>ZF x.1 x.2.1 x.2.2⟩
theorem a93:aL Pr 69 F69:=dB [([0,1,0,1,1,1],([5],[]))] (az a0V)
def F37:bB:=⟨[(.sl .s),(.i 3)],[aP,(.sl (.u 7)),(.i 3)],false,λx=>f37 x.1 x.2⟩
theorem a8K:aL Pr 37 F37:=dB [([0,1,0,1,1,1,1,1,1],([1,6],[])),([0,1,0,1,1,1],([1],[]))] (aj a92 (az a93))
def F39:bB:=⟨[aP],[.b],false,λx=>Zk x⟩
theorem a2N:aL Pr 39 F39:=aB a_
def F70:bB:=⟨[bJ,(.u 7)],[(.i 3),(.i 3),.b],false,λx=>f70 x.1 x.2⟩
theorem a94:aL Pr 70 F70:=aB a_
def a4D:bB:=⟨[(.sl ca),(.sl eP)],[(.sl (.i 3)),(.i 3),(.i 3)],true,λx=>ID x.1 x.2⟩
theorem TI:aL Pr 118 a4D:=aB (aj zh (az TR))
def F74:bB:=⟨[bJ,(.i 3)],[(.sl (.i 3)),(.i 3)],true,λx=>ZL x.1 x.2⟩
theorem a2U:aL Pr 74 F74:=dB [([0,1,0,1,1,1],([3],[]))] (aj TI (az TJ))
def F73:bB:=⟨[(.sl lf),(.i 3)],[(.u 7)],false,λx=>Yg x.1 x.2⟩
theorem a2T:aL Pr 73 F73:=aB a_
def F71:bB:=⟨[bJ,(.i 3),(.i 3)],[(.i 3)],false,λx=>f71 x.1 x.2.1 x.2.2⟩
theorem a95:aL Pr 71 F71:=aB (aj a2T (az a2U))
def a4A:bB:=⟨[aP,(.u 7),(.i 3)],[.b],false,λx=>vD x.1 x.2.1 x.2.2⟩
theorem tK:aL Pr 115 a4A:=aB a_
def a4B:bB:=⟨[aP,(.u 7),(.i 3)],[(.u 7)],false,λx=>jm x.1 x.2.1 x.2.2⟩
theorem CV:aL Pr 116 a4B:=aB a_
def a4C:bB:=⟨[(.u 7),(.u 7)],[.b],false,λx=>Qp x.1 x.2⟩
theorem a0W:aL Pr 117 a4C:=aB a_
def F72:bB:=⟨[aP,(.u 7)],[(.u 7),(.u 7),(.u 7),(.i 3)],false,λx=>f72 x.1 x.2⟩
theorem a96:aL Pr 72 F72:=aB (aj a2N (aj tK (aj CV (az a0W))))
def F40:bB:=⟨[aP,bJ,(.u 7)],[(.sl t_),(.i 3)],false,λx=>Zl x.1 x.2.1 x.2.2⟩
theorem a2O:aL Pr 40 F40:=aB (aj a94 (aj a95 (az a96)))
def F19 (n:Nat):bB:=⟨[bH],[(.i 3)],false,λx=>Y9 n x⟩
theorem a1G(n:Nat):aL Pr 19 (F19 n):=aB (aj (a8H n) (aj a8I (aj Jz (aj a8J (aj a8K (aj a2M (aj a2N (az a2O))))))))
def F76:bB:=⟨[bH],[(.sl aP)],false,λx=>Yh x⟩
theorem Xw:aL Pr 76 F76:=aB a_
def a6b (n:Nat):bB:=⟨[(.sl ca),(.i 3),(.i 3)],[(.i 3)],false,λx=>QZ n x.1 x.2.1 x.2.2⟩
theorem a21(n:Nat):aL Pr 230 (a6b n):=aB (az (TZ n))
def a5l (n:Nat):bB:=⟨[(.sl ca),(.i 3)],[(.i 3)],false,λx=>QG n x.1 x.2⟩
theorem a1t(n:Nat):aL Pr 174 (a5l n):=aB (aj zh (az (a21 n)))
def a4H (n:Nat):bB:=⟨[(.sl ca),(.i 3)],[(.i 3),(.i 3),(.i 3)],false,λx=>IE n x.1 x.2⟩
theorem TK(n:Nat):aL Pr 122 (a4H n):=aB (aj zh (az (a1t n)))
end
end Go.Proofs.YtbjcjppphoppfaaGreat.M
