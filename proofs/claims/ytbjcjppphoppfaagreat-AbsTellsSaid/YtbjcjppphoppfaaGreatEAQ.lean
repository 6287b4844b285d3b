import Derived.Test.YtbjcjppphoppfaaGreatEAO
import Derived.Test.YtbjcjppphoppfaaGreatEAP
set_option linter.all false
set_option maxRecDepth 100000
namespace Go.Proofs.YtbjcjppphoppfaaGreat.M
open Go.Proofs.YtbjcjppphoppfaaGreat.T hiding a8 ae av aH aw bd bM cC
noncomputable section
def a7j:bB:=⟨[(.u 7)],[(.i 3)],false,λx=>Rg x⟩
theorem a2L:aL Pr 328 a7j:=aB a_
def a7i:bB:=⟨[(.u 7)],[(.i 3)],false,λx=>Rf x⟩
theorem a2K:aL Pr 317 a7i:=aB (az a2L)
def a6Z:bB:=⟨[(.sl cK),(.i 3)],[(.sl (.i 3))],false,λx=>pz x.1 x.2⟩
theorem Ol:aL Pr 287 a6Z:=iq [311,312,316,318,324,334] [] [[999]] (az a2K)
def a5r:bB:=⟨[(.sl cK)],[(.sl .b),(.i 3)],true,λx=>IM x⟩
theorem a1y:aL Pr 180 a5r:=iq [238,239] [([0,1,1,1238,0,1,1,1],([3],[])),([0,1,1,1,0,1,0,0,1,1,1238,0,1,1,1],([3],[]))] [] (aj Od (az Ol))
def a5w:bB:=⟨[cK],[(.sl (.i 3)),(.sl (.i 3)),(.i 3)],true,λx=>C3 x⟩
theorem Oa:aL Pr 185 a5w:=aB (aj Hx (aj Of (az Og)))
def a6j:bB:=⟨[(.sl eP),(.i 3)],[.b],false,λx=>C9 x.1 x.2⟩
theorem Oe:aL Pr 240 a6j:=aB a_
def a6k:bB:=⟨[cK],[(.i 3)],false,λx=>IW x⟩
theorem U9:aL Pr 241 a6k:=aB a_
def a6l:bB:=⟨[(.sl .s),(.i 3)],[.b],false,λx=>M3 x.1 x.2⟩
theorem a25:aL Pr 242 a6l:=aB a_
def a5s:bB:=⟨[dg,cK],[(.i 3)],false,λx=>QJ x.1 x.2⟩
theorem a1z:aL Pr 181 a5s:=aB (aj Oa (aj Oe (aj U9 (az a25))))
def a6m:bB:=⟨[dg,(.i 3)],[(.i 3)],false,λx=>Et x.1 x.2⟩
theorem Ua:aL Pr 243 a6m:=aB (az Oe)
def a7g:bB:=⟨[(.sl (.u 4)),(.u 4)],[(.i 3)],false,λx=>Wr x.1 x.2⟩
theorem a2I:aL Pr 313 a7g:=aB a_
def a6_:bB:=⟨[(.sl (.u 4)),(.u 4)],[.b],false,λx=>R9 x.1 x.2⟩
theorem a2s:aL Pr 288 a6_:=aB (az a2I)
def a6n:bB:=⟨[dg,(.i 3),(.sl (.u 4))],[.b],false,λx=>gr x.1 x.2.1 x.2.2⟩
theorem Hw:aL Pr 246 a6n:=aB (az a2s)
def a6o:bB:=⟨[dg,(.i 3),(.i 3),(.i 3)],[.b],false,λx=>M4 x.1 x.2.1 x.2.2.1 x.2.2.2⟩
theorem a26:aL Pr 248 a6o:=aB (aj Oe (az Hw))
def a6p:bB:=⟨[dg,(.i 3),(.i 3),(.sl (.u 4))],[.b],false,λx=>Eu x.1 x.2.1 x.2.2.1 x.2.2.2⟩
theorem a27:aL Pr 249 a6p:=aB (az Hw)
def a6q:bB:=⟨[dg,iE],[.b],false,λx=>R1 x.1 x.2⟩
theorem a28:aL Pr 250 a6q:=iq [289] [] [] (az Hw)
def a5t:bB:=⟨[dg,cK],[.b],false,λx=>QK x.1 x.2⟩
theorem a1A:aL Pr 182 a5t:=iq [87,133,244,245,247] [] [] (aj Ua (aj Hw (aj a26 (aj a27 (az a28)))))
def a4Y:bB:=⟨[(.i 3)],[(.i 3),(.i 3)],false,λx=>IK x⟩
theorem TP:aL Pr 145 a4Y:=aB a_
def a6u:bB:=⟨[dg,(.sl (.i 3))],[(.i 3),(.i 3)],false,λx=>Aj x.1 x.2⟩
theorem Ub:aL Pr 254 a6u:=aB (aj TP (az CX))
def a6r:bB:=⟨[dg,cK,(.sl (.i 3))],[(.sl (.i 3)),.b],false,λx=>M7 x.1 x.2.1 x.2.2⟩
theorem a29:aL Pr 251 a6r:=iq [290] [] [] (aj U9 (aj Ua (az Ub)))
def a6s:bB:=⟨[(.sl cK),(.i 3)],[(.sl (.i 3)),(.i 3)],false,λx=>M8 x.1 x.2⟩
theorem a2a:aL Pr 252 a6s:=aB (aj Od (az Ol))
def a6t:bB:=⟨[(.sl (.i 3)),(.sl (.i 3))],[.b],false,λx=>M9 x.1 x.2⟩
theorem a2b:aL Pr 253 a6t:=aB a_
def a5u:bB:=⟨[dg],[(.sl (.u 7)),.b],false,λx=>Lt x⟩
theorem a1B:aL Pr 183 a5u:=dB [([0,1,0,1,1,1,1,1,1],([6],[])),([0,1,0,1,1,1,1],([2,5,3,6],[])),([0,1,1,1,1,1,1,0,1,0,0,1,0,1,1,1,1],([2,5,3,6],[]))] (aj a29 (aj a2a (aj a2b (az Ub))))
def a6v:bB:=⟨[(.sl (.i 3))],[(.u 7)],false,λx=>Ev x⟩
theorem a2c:aL Pr 255 a6v:=aB a_
def a5v:bB:=⟨[(.sl cK),(.i 3),(.i 3)],[(.sl (.u 7)),(.i 3)],false,λx=>QL x.1 x.2.1 x.2.2⟩
theorem a1C:aL Pr 184 a5v:=iq [238,256] [([0,1,1,1238,0,1,1,1,1,1,1],([11,9],[])),([0,1,1,1,0,1,0,0,1,1,1238,0,1,1,1,1,1,1],([11,9],[])),([0,1,0,1,1,1,1],([4],[]))] [] (aj Oa (aj Od (aj a2c (az Ol))))
def a5x:bB:=⟨[(.sl (.u 7))],[(.sl lf),(.i 3)],true,λx=>Lu x⟩
theorem a1D:aL Pr 186 a5x:=aB (az TY)
def a4P:bB:=⟨[bJ,(.i 3)],[yh],false,λx=>Lb x.1 x.2⟩
theorem a11:aL Pr 131 a4P:=dB [([1,0,1,1,1,1,1,1,1,1,1,1,1,1,1,1],([19],[])),([0,1,0,1,1,1,1,1,1,1,1,1,1,1],([3],[])),([0,1,1,1,0,0,1,1,0,0,1,0,1,1,1,1,1,1,1,1,1,1,1],([3],[])),([0,1,0,1,1,1,1,1,1],([3],[]))] (aj a1y (aj a1z (aj a1A (aj a1B (aj a1C (aj Oa (az a1D)))))))
def a4Q:bB:=⟨[(.sl lf),(.sl lf)],[.b],false,λx=>II x.1 x.2⟩
theorem a12:aL Pr 132 a4Q:=aB a_
def F85:bB:=⟨[bJ],[(.i 3),(.i 3),(.i 3)],false,λx=>f85 x⟩
theorem a9d:aL Pr 85 F85:=dB [([0,1,0,1,1],([8],[])),([1,0,1,1,0,0,1,1,0,0,1,0,1,1],([8],[]))] (aj S5 (aj a11 (az a12)))
def F46:bB:=⟨[bJ],[(.i 3)],false,λx=>Ye x⟩
theorem a8P:aL Pr 46 F46:=aB (az a9d)
def F86:bB:=⟨[(.i 3),(.i 3),(.i 3)],[.b],false,λx=>Tf x.1 x.2.1 x.2.2⟩
theorem a2Y:aL Pr 86 F86:=aB a_
def F88:bB:=⟨[(.i 3)],[.b],false,λx=>ZP x⟩
theorem a9e:aL Pr 88 F88:=aB (az a2Y)
def F47:bB:=⟨[Ib],[(.i 3)],false,λx=>f47 x⟩
theorem a8Q:aL Pr 47 F47:=iq [87,133] [] [] (aj a2Y (az a9e))
def F89:bB:=⟨[aP,(.i 3)],[(.i 3)],false,λx=>ZR x.1 x.2⟩
theorem a2Z:aL Pr 89 F89:=aB a_
def F48:bB:=⟨[aP,(.i 3)],[(.i 3),(.i 3)],false,λx=>T7 x.1 x.2⟩
theorem On:aL Pr 48 F48:=aB (az a2Z)
def a4R:bB:=⟨[(.i 3)],[(.u 7)],false,λx=>Eb x⟩
theorem a13:aL Pr 134 a4R:=aB a_
def a4S:bB:=⟨[(.u 7)],[.b],false,λx=>Le x⟩
theorem a14:aL Pr 135 a4S:=aB a_
def a4T:bB:=⟨[(.u 7)],[.b],false,λx=>Ec x⟩
theorem a15:aL Pr 136 a4T:=aB a_
def F90:bB:=⟨[(.i 3),fk],[.b],false,λx=>f90 x.1 x.2⟩
theorem a9f:aL Pr 90 F90:=aB (aj a13 (aj a14 (az a15)))
def F49:bB:=⟨[(.sl fk)],[(.i 3)],false,λx=>f49 x⟩
theorem a8R:aL Pr 49 F49:=aB (az a9f)
end
end Go.Proofs.YtbjcjppphoppfaaGreat.M
