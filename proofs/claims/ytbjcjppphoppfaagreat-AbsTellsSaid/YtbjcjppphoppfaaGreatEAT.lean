import Derived.Test.YtbjcjppphoppfaaGreatEAO
import Derived.Test.YtbjcjppphoppfaaGreatEAP
import Derived.Test.YtbjcjppphoppfaaGreatEAS
set_option linter.all false
set_option maxRecDepth 100000
namespace Go.Proofs.YtbjcjppphoppfaaGreat.M
open Go.Proofs.YtbjcjppphoppfaaGreat.T hiding a8 ae av aH aw bd bM cC
noncomputable section
def a6L:bB:=⟨[cK],[(.i 3)],false,λx=>Cb x⟩
theorem Ug:aL Pr 273 a6L:=aB (aj Oi (aj Oj (az a2E)))
def a6M:bB:=⟨[(.sl lf),(.i 3)],[.b],false,λx=>Mx x.1 x.2⟩
theorem a2k:aL Pr 274 a6M:=aB a_
def a5U:bB:=⟨[(.sl ca),iE],[.b],false,λx=>QT x.1 x.2⟩
theorem a1T:aL Pr 211 a5U:=aB (aj Ue (aj Uf (aj Ug (az a2k))))
def a58 (n:Nat):bB:=⟨[bJ],[.b],false,λx=>Qy n x⟩
theorem a1i(n:Nat):aL Pr 161 (a58 n):=aB (aj zh (aj (TZ n) (az a1T)))
def a5Y:bB:=⟨[(.u 7)],[(.sl (.u 4))],true,λx=>vG x⟩
theorem CY:aL Pr 215 a5Y:=aB a_
def a5V:bB:=⟨[(.i 3)],[(.sl (.u 4))],true,λx=>oK x⟩
theorem T_:aL Pr 212 a5V:=aB (az CY)
def a5X:bB:=⟨[.s],[(.sl (.u 4))],true,λx=>IS x⟩
theorem U0:aL Pr 214 a5X:=aB (az CY)
def a5W:bB:=⟨[(.sl eP)],[(.sl (.u 4))],true,λx=>IQ x⟩
theorem a1U:aL Pr 213 a5W:=aB (aj T_ (az U0))
def a5Z:bB:=⟨[(.i 3)],[(.u 7)],false,λx=>LO x⟩
theorem U1:aL Pr 216 a5Z:=aB a_
def a6P:bB:=⟨[(.u 4)],[.b],false,λx=>R6 x⟩
theorem a2l:aL Pr 277 a6P:=aB a_
def a5_:bB:=⟨[cK],[(.sl (.u 4))],true,λx=>Em x⟩
theorem a1V:aL Pr 217 a5_:=aB (aj CY (aj U1 (aj Oi (aj Oj (az a2l)))))
def a5':bB:=⟨[(.sl lf)],[(.sl (.u 4))],true,λx=>LS x⟩
theorem a1W:aL Pr 218 a5':=aB (az CY)
def a59:bB:=⟨[bJ],[(.sl (.u 4))],true,λx=>Qz x⟩
theorem a1j:aL Pr 162 a59:=aB (aj T_ (aj a1U (aj U0 (aj CY (aj U1 (aj a1V (az a1W)))))))
def a4u (n:Nat):bB:=⟨[bJ],[(.i 3)],false,λx=>Ql n x⟩
theorem a0Q(n:Nat):aL Pr 109 (a4u n):=aB (aj (a1i n) (az a1j))
def a60:bB:=⟨[(.sl cK)],[(.i 3)],false,λx=>QV x⟩
theorem a1X:aL Pr 219 a60:=aB (az Ug)
def a6Q:bB:=⟨[(.sl cK),(.i 3)],[(.sl (.i 3))],true,λx=>xT x.1 x.2⟩
theorem Ok:aL Pr 278 a6Q:=aB a_
def a61:bB:=⟨[(.sl cK)],[(.sl .b)],true,λx=>LV x⟩
theorem U2:aL Pr 220 a61:=dB [([0,1,0,1,1,1],([1,2,3],[])),([0,1,1,0,1,0,0,1,0,1,1,1],([1,2,3],[])),([0,1,1,0,0,1,0,0,1,1,0,1,0,0,1,0,1,1,1],([1,2,3],[]))] (az Ok)
def a65:bB:=⟨[cK],[(.sl (.i 3)),(.sl (.i 3))],true,λx=>C7 x⟩
theorem Oc:aL Pr 224 a65:=aB (aj Oi (az Oj))
def a7a:bB:=⟨[cK],[(.i 3)],false,λx=>MR x⟩
theorem Uj:aL Pr 305 a7a:=aB a_
def a6R:bB:=⟨[bJ,(.i 3),cK],[.b],false,λx=>R7 x.1 x.2.1 x.2.2⟩
theorem a2m:aL Pr 279 a6R:=aB (aj Oc (az Uj))
def a7b:bB:=⟨[bJ,(.i 3),(.i 3)],[(.i 3)],false,λx=>EI x.1 x.2.1 x.2.2⟩
theorem Uk:aL Pr 306 a7b:=aB a_
def a7c:bB:=⟨[bJ,(.i 3)],[(.u 4)],false,λx=>Cd x.1 x.2⟩
theorem Om:aL Pr 307 a7c:=aB a_
def a4K:bB:=⟨[ca],[.b],false,λx=>L6 x⟩
theorem TL:aL Pr 126 a4K:=aB a_
def a7d:bB:=⟨[bJ,(.i 3),(.i 3)],[(.i 3)],false,λx=>MT x.1 x.2.1 x.2.2⟩
theorem a2F:aL Pr 308 a7d:=aB (az Om)
def a7e:bB:=⟨[bJ,(.i 3),(.u 4),(.u 4)],[(.i 3)],false,λx=>EJ x.1 x.2.1 x.2.2.1 x.2.2.2⟩
theorem a2G:aL Pr 309 a7e:=aB (az Om)
def F79:bB:=⟨[bJ,(.i 3)],[.b],false,λx=>Wx x.1 x.2⟩
theorem a2W:aL Pr 79 F79:=aB (az TL)
def a6S:bB:=⟨[bJ,(.i 3),cK],[.b],false,λx=>R8 x.1 x.2.1 x.2.2⟩
theorem a2n:aL Pr 280 a6S:=aB (aj a2W (aj TL (aj Uk (aj Om (aj a2F (az a2G))))))
def a62:bB:=⟨[bJ,(.i 3),(.i 3),.b],[(.i 3)],false,λx=>C6 x.1 x.2.1 x.2.2.1 x.2.2.2⟩
theorem a1Z:aL Pr 221 a62:=aB (aj a2m (az a2n))
def a7f:bB:=⟨[bJ,(.i 3),cK],[(.sl (.i 3)),(.i 3)],true,λx=>Rd x.1 x.2.1 x.2.2⟩
theorem a2H:aL Pr 310 a7f:=aB (aj Uj (az Uk))
def a6U:bB:=⟨[(.sl (.i 3)),(.sl (.i 3))],[.b],false,λx=>EB x.1 x.2⟩
theorem Uh:aL Pr 282 a6U:=aB a_
def a4E:bB:=⟨[(.i 3)],[(.i 3)],false,λx=>KW x⟩
theorem TJ:aL Pr 119 a4E:=aB (az TT)
def a66:bB:=⟨[bJ,(.sl (.i 3))],[(.i 3)],false,λx=>C8 x.1 x.2⟩
theorem U5:aL Pr 225 a66:=aB (aj TJ (az zh))
def a6T:bB:=⟨[bJ,(.i 3),cK,(.sl (.i 3))],[(.sl (.i 3)),.b],true,λx=>I_ x.1 x.2.1 x.2.2.1 x.2.2.2⟩
theorem a2o:aL Pr 281 a6T:=aB (aj U5 (aj Uh (az a2H)))
def a63:bB:=⟨[bJ,(.i 3)],[(.sl (.sl (.i 3))),.b],false,λx=>En x.1 x.2⟩
theorem U3:aL Pr 222 a63:=dB [([0,1,1,1,1,1,0,0,1,0,0,1,1,0,1,0,0,1,0,1,1,1,1],([2,4,5,3,6,7],[8])),([0,1,0,1,1,1,1],([2,4,5,3,6,7],[])),([0,1,1,0,1,0,0,1,0,1,1,1,1],([2,4,5,3,6,7],[]))] (aj Ok (aj a2o (az Uh)))
def a6V:bB:=⟨[(.i 3)],[(.u 7)],false,λx=>ML x⟩
theorem a2p:aL Pr 283 a6V:=aB a_
def a6W:bB:=⟨[cK],[(.u 7)],false,λx=>MM x⟩
theorem a2q:aL Pr 284 a6W:=aB (az Oc)
def a64:bB:=⟨[(.sl cK),(.i 3),(.i 3)],[(.sl (.u 7))],true,λx=>IT x.1 x.2.1 x.2.2⟩
theorem U4:aL Pr 223 a64:=dB [([0,1,0,1,1,1,1,1,1],([4],[])),([0,1,0,1,1,1,1,1],([3,4,5],[])),([0,1,1,0,1,0,0,1,0,1,1,1,1,1],([3,4,5],[])),([0,1,1,0,0,1,0,0,1,1,0,1,0,0,1,0,1,1,1,1,1],([3,4,5],[])),([0,1,0,1,1,1],([2],[]))] (aj U2 (aj Ok (aj a2p (az a2q))))
def a5a:bB:=⟨[bJ,(.i 3)],[(.i 3),(.i 3)],false,λx=>QA x.1 x.2⟩
theorem a1k:aL Pr 163 a5a:=aB (aj a1X (aj U2 (aj a1Z (aj U3 (aj U4 (az Oc))))))
def a67:bB:=⟨[(.sl (.u 7))],[(.sl lf)],true,λx=>Ep x⟩
theorem a1_:aL Pr 226 a67:=aB a_
def a5b:bB:=⟨[bJ,(.i 3)],[iE],false,λx=>Lk x.1 x.2⟩
theorem a1l:aL Pr 164 a5b:=aB (aj a19 (aj U3 (aj U4 (aj U5 (az a1_)))))
end
end Go.Proofs.YtbjcjppphoppfaaGreat.M
