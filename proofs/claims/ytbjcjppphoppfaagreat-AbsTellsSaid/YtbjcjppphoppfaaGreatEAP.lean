import Derived.Test.YtbjcjppphoppfaaGreatEAO
set_option linter.all false
set_option maxRecDepth 100000
namespace Go.Proofs.YtbjcjppphoppfaaGreat.M
open Go.Proofs.YtbjcjppphoppfaaGreat.T hiding a8 ae av aH aw bd bM cC
noncomputable section
def F26:bB:=⟨[(.sl ca)],[.b],false,λx=>f26 x⟩
theorem a8B:aL Pr 26 F26:=aB a_
def F13:bB:=⟨[bJ],[.b],false,λx=>Z2 x⟩
theorem a8v:aL Pr 13 F13:=aB (az a8B)
def F4:bB:=⟨[bH],[.b],false,λx=>f4 x⟩
theorem ok4:aL Pr 4 F4:=aB (az a8v)
def F27:bB:=⟨[(.sl ca)],[(.sl ca)],false,λx=>f27 x⟩
theorem a8C:aL Pr 27 F27:=aB a_
def F14:bB:=⟨[bJ],[bJ],false,λx=>Z3 x⟩
theorem a19:aL Pr 14 F14:=dB [([0,1,0,1,1],([9],[]))] (az a8C)
def F15:bB:=⟨[aP],[aP],true,λx=>SW x⟩
theorem a1a:aL Pr 15 F15:=aB a_
def F16:bB:=⟨[(.sl fk)],[(.sl fk)],true,λx=>f16 x⟩
theorem a8w:aL Pr 16 F16:=aB a_
def F5:bB:=⟨[bH],[bH],false,λx=>f5 x⟩
theorem ok5:aL Pr 5 F5:=dB [([0,1,0,1,1,1,1,1],([14],[]))] (aj a19 (aj a1a (az a8w)))
def a73:bB:=⟨[(.i 3),(.i 3)],[.b],false,λx=>EF x.1 x.2⟩
theorem a2y:aL Pr 296 a73:=aB a_
def a7h:bB:=⟨[(.i 3)],[.b],false,λx=>Re x⟩
theorem a2J:aL Pr 314 a7h:=aB a_
def a74:bB:=⟨[(.sl (.i 3))],[.b],false,λx=>xU x⟩
theorem a2z:aL Pr 297 a74:=iq [87,133] [] [] (az a2J)
def a6B:bB:=⟨[.s],[.b],false,λx=>Ex x⟩
theorem Oh:aL Pr 262 a6B:=aB a_
def a6z:bB:=⟨[(.sl ca),(.i 3)],[.b],false,λx=>R2 x.1 x.2⟩
theorem a2d:aL Pr 260 a6z:=dB [([0,1,0,1,0,1,1,1,1,1,1,1,0,1,0,1,1,1],([2],[]))] (aj Oh (aj a2y (az a2z)))
def a6A:bB:=⟨[(.sl ca)],[(.sl (.i 3))],true,λx=>R3 x⟩
theorem a2e:aL Pr 261 a6A:=dB [([0,1,0,1,1],([3],[])),([0,1,0,1,0,0,1,1,0,0,1,0,1,1],([3],[]))] a_
def a5A:bB:=⟨[(.sl ca)],[(.i 3)],false,λx=>C4 x⟩
theorem Hu:aL Pr 189 a5A:=aB (aj a2d (az a2e))
def a5H:bB:=⟨[(.sl (.pr (.i 3) (.pr (.i 3) .un))),(.sl eP)],[(.sl (.i 3)),(.pr (.i 3) (.pr (.i 3) .un))],true,λx=>LC x.1 x.2⟩
theorem TX:aL Pr 197 a5H:=dB [([0,1,0,1,1],([2,3],[]))] a_
def a5G:bB:=⟨[(.sl ca)],[(.sl (.pr (.i 3) (.pr (.i 3) .un)))],true,λx=>LB x⟩
theorem TW:aL Pr 196 a5G:=dB [([0,1,0,1,1],([1],[]))] (az TX)
def a5M:bB:=⟨[(.sl ca),(.i 3)],[(.sl (.pr (.i 3) (.pr (.i 3) .un))),(.i 3)],true,λx=>VN x.1 x.2⟩
theorem a1O:aL Pr 202 a5M:=aB (aj Hu (az TW))
def a52:bB:=⟨[(.sl ca),(.i 3)],[(.i 3),(.i 3),(.i 3)],false,λx=>xQ x.1 x.2⟩
theorem CX:aL Pr 153 a52:=aB (az a1O)
def a6C:bB:=⟨[(.sl eP)],[.b],false,λx=>Mq x⟩
theorem a2f:aL Pr 263 a6C:=iq [298,299,315] [] [] (az Oh)
def a6':bB:=⟨[],[(.pr (.i 3) (.pr (.i 3) (.pr .b (.pr .b .un))))],false,λ_=>ua⟩
theorem a2u:aL Pr 292 a6':=aB a_
def a70:bB:=⟨[],[(.pr (.i 3) (.pr (.i 3) (.pr .b (.pr .b .un))))],false,λ_=>Wk⟩
theorem a2v:aL Pr 293 a70:=aB a_
def a71:bB:=⟨[(.i 3)],[(.pr (.i 3) (.pr (.i 3) (.pr .b (.pr .b .un))))],false,λx=>pA x⟩
theorem a2w:aL Pr 294 a71:=aB a_
def a72:bB:=⟨[],[(.pr (.i 3) (.pr (.i 3) (.pr .b (.pr .b .un))))],false,λ_=>oM⟩
theorem a2x:aL Pr 295 a72:=aB a_
def a6x:bB:=⟨[(.u 4)],[(.ar 3 (.pr (.i 3) (.pr (.i 3) (.pr .b (.pr .b .un))))),(.i 3)],false,λx=>cI x⟩
theorem Of:aL Pr 258 a6x:=iq [291] [([1,1,0,1,0,0,0,0,0,0,0,0,0,0,0,0,0,0,0,0,0,0,0,0,0,0,0,0,0,1,0,1,1],([1],[])),([1,0,1,1],([0,1],[]))] [[0,0,0,0,0,0,0,0,0,0,0,0,0,0,0,0,0,0,0,0,0,0,0,0,0,0,1,0,1,1]] (aj a2u (aj a2v (aj a2w (az a2x))))
def a6y:bB:=⟨[cK],[(.ar 3 (.i 3))],false,λx=>Mo x⟩
theorem Og:aL Pr 259 a6y:=aB a_
def a6w:bB:=⟨[cK],[(.i 3)],false,λx=>oL x⟩
theorem Hx:aL Pr 257 a6w:=aB (aj Of (az Og))
def a5I:bB:=⟨[(.i 3)],[(.i 3)],false,λx=>LD x⟩
theorem TY:aL Pr 198 a5I:=aB a_
def a5J:bB:=⟨[(.sl lf),(.i 3)],[.b],false,λx=>QQ x.1 x.2⟩
theorem a1K:aL Pr 199 a5J:=dB [([0,1,0,1,1,1],([0],[]))] a_
def a4Z:bB:=⟨[(.sl lf),(.i 3)],[(.i 3)],false,λx=>Ee x.1 x.2⟩
theorem O8:aL Pr 146 a4Z:=aB (aj TY (az a1K))
def a5B:bB:=⟨[(.sl ca),iE],[.b],false,λx=>QN x.1 x.2⟩
theorem a1H:aL Pr 190 a5B:=aB (aj O8 (aj Hx (aj Oh (az a2f))))
def a4W:bB:=⟨[bJ],[.b],false,λx=>Qt x⟩
theorem a18:aL Pr 139 a4W:=dB [([0,1,0,1,1,1,1,1],([1],[]))] (aj CX (aj Hu (az a1H)))
def a5C:bB:=⟨[(.u 7)],[(.sl (.u 4))],true,λx=>gi x⟩
theorem Hv:aL Pr 192 a5C:=iq [264] [([0,0,1,1,1],([2],[]))] [] a_
def a5D:bB:=⟨[(.i 3)],[(.sl (.u 4))],true,λx=>Ly x⟩
theorem TU:aL Pr 193 a5D:=aB (az Hv)
def a5E:bB:=⟨[cK],[(.sl (.u 4)),(.i 3)],true,λx=>IN x⟩
theorem a1I:aL Pr 194 a5E:=aB (aj Hv (aj TU (aj Hx (aj Of (az Og)))))
def a5F:bB:=⟨[(.sl lf),(.i 3)],[(.sl (.u 4)),(.i 3)],true,λx=>QP x.1 x.2⟩
theorem a1J:aL Pr 195 a5F:=aB (aj O8 (az Hv))
def F95:bB:=⟨[bJ],[(.sl (.u 4)),(.i 3)],false,λx=>f95 x⟩
theorem a9j:aL Pr 95 F95:=iq [140,141,142,143,191] [([0,1,0,1,1,1,1,1,1,1,1143,0,1,0,0,1,1,0,0,1,0,1,1,1,1,1,1,1],([3],[])),([0,1,0,1,1,1,1,1,1,1143,0,1,0,0,1,1,0,0,1,0,1,1,1,1,1,1,1],([3],[])),([0,1,1,1191,0,1,1,1,1,1143,0,1,0,0,1,1,0,0,1,0,1,1,1,1,1,1,1],([3],[])),([0,1,0,1,1,1,1,1,1,1],([3],[])),([0,1,0,1,1,1,1,1],([3],[])),([0,1,1,1191,0,1,1,1,1,1,0,1,1,1,0,0,1,1,0,0,1,1,1140,0,1,1,1],([3],[])),([0,1,1,1140,0,1,1,1],([3],[]))] [] (aj a18 (aj Hv (aj TU (aj a1I (az a1J)))))
def F53:bB:=⟨[bJ],[(.i 3)],false,λx=>Ww x⟩
theorem S5:aL Pr 53 F53:=aB (az a9j)
def a6i:bB:=⟨[(.sl cK)],[(.i 3)],false,λx=>IV x⟩
theorem Od:aL Pr 237 a6i:=aB (az Hx)
end
end Go.Proofs.YtbjcjppphoppfaaGreat.M
