import Derived.Test.YtbjcjppphoppfaaGreatEAO
import Derived.Test.YtbjcjppphoppfaaGreatEAP
import Derived.Test.YtbjcjppphoppfaaGreatEAS
import Derived.Test.YtbjcjppphoppfaaGreatEAU
import Derived.Test.YtbjcjppphoppfaaGreatEAV
set_option linter.all false
set_option maxRecDepth 100000
namespace Go.Proofs.YtbjcjppphoppfaaGreat.M
open Go.Proofs.YtbjcjppphoppfaaGreat.T hiding a8 ae av aH aw bd bM cC
noncomputable section
def F21 (n:Nat):bB:=⟨[(.sl xG),(.sl xG)],[.b],false,λx=>f21 n x.1 x.2⟩
theorem a8x(n:Nat):aL Pr 21 (F21 n):=aB (az (a1Y n))
def F10 (n:Nat):bB:=⟨[eQ,eQ],[.b],false,λx=>Z1 n x.1 x.2⟩
theorem a0J(n:Nat):aL Pr 10 (F10 n):=aB (aj (a8x n) (az (a1Y n)))
def F11 (n:Nat):bB:=⟨[BB,BB],[.b],false,λx=>f11 n x.1 x.2⟩
theorem a8t(n:Nat):aL Pr 11 (F11 n):=aB (az (a0J n))
def F44:bB:=⟨[(.sl ca),(.sl ca)],[.b],false,λx=>f44 x.1 x.2⟩
theorem a8O:aL Pr 44 F44:=aB (az a2X)
def F23:bB:=⟨[bJ,bJ],[.b],false,λx=>f23 x.1 x.2⟩
theorem a8y:aL Pr 23 F23:=aB (aj a8O (az a2P))
def F24:bB:=⟨[aP,aP],[.b],false,λx=>Z7 x.1 x.2⟩
theorem a8z:aL Pr 24 F24:=aB a_
def F25:bB:=⟨[(.sl fk),(.sl fk)],[.b],false,λx=>f25 x.1 x.2⟩
theorem a8A:aL Pr 25 F25:=aB a_
def F12:bB:=⟨[bH,bH],[.b],false,λx=>f12 x.1 x.2⟩
theorem a8u:aL Pr 12 F12:=aB (aj a8y (aj a8z (az a8A)))
def F3 (n:Nat):bB:=⟨[bH,(.i 3),jK],[.b],false,λx=>f3 n x.1 x.2.1 x.2.2⟩
theorem ok3(n:Nat):aL Pr 3 (F3 n):=aB (aj ok4 (aj ok5 (aj (ok6 n) (aj (ok7 n) (aj (ok8 n) (aj (ok9 n) (aj (a0J n) (aj (a8t n) (az a8u)))))))))
end
end Go.Proofs.YtbjcjppphoppfaaGreat.M
