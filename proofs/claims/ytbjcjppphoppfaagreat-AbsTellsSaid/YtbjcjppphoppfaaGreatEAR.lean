import Derived.Test.YtbjcjppphoppfaaGreatEAO
import Derived.Test.YtbjcjppphoppfaaGreatEAP
import Derived.Test.YtbjcjppphoppfaaGreatEAQ
set_option linter.all false
set_option maxRecDepth 100000
namespace Go.Proofs.YtbjcjppphoppfaaGreat.M
open Go.Proofs.YtbjcjppphoppfaaGreat.T hiding a8 ae av aH aw bd bM cC
noncomputable section
def F92:bB:=⟨[],[aP],true,λ_=>f92⟩
theorem a9g:aL Pr 92 F92:=aB a_
def a5y:bB:=⟨[(.i 3)],[(.i 3)],false,λx=>Lw x⟩
theorem a1E:aL Pr 187 a5y:=aB a_
def a5K:bB:=⟨[(.u 7)],[.b],false,λx=>QR x⟩
theorem a1M:aL Pr 200 a5K:=aB a_
def a4_:bB:=⟨[aP],[(.i 3)],false,λx=>Ef x⟩
theorem Ht:aL Pr 149 a4_:=aB (az a1M)
def a5z:bB:=⟨[aP,(.i 3)],[aP,(.i 3)],true,λx=>QM x.1 x.2⟩
theorem a1F:aL Pr 188 a5z:=aB (az Ht)
def a4U:bB:=⟨[aP,(.i 3),(.i 3)],[aP,(.u 7),(.i 3)],true,λx=>Qr x.1 x.2.1 x.2.2⟩
theorem a16:aL Pr 137 a4U:=aB (aj On (aj a1E (az a1F)))
def a4':bB:=⟨[aP,(.u 7),(.i 3)],[(.i 3),.b],false,λx=>Ad x.1 x.2.1 x.2.2⟩
theorem CW:aL Pr 150 a4':=aB a_
def F98:bB:=⟨[aP,(.u 7),(.i 3)],[.b,(.i 3)],false,λx=>Tj x.1 x.2.1 x.2.2⟩
theorem Oo:aL Pr 98 F98:=aB (aj Ht (az CW))
def a57:bB:=⟨[(.sl (.u 4))],[(.sl (.u 4))],true,λx=>Li x⟩
theorem TQ:aL Pr 160 a57:=aB a_
def a4V:bB:=⟨[aP,(.u 7),(.sl (.u 4))],[aP,(.i 3)],true,λx=>Qs x.1 x.2.1 x.2.2⟩
theorem a17:aL Pr 138 a4V:=aB (aj Oo (aj CW (az TQ)))
def F93:bB:=⟨[aP,(.sl (.u 4)),(.i 3)],[aP,(.u 7),(.i 3)],true,λx=>ZT x.1 x.2.1 x.2.2⟩
theorem a9h:aL Pr 93 F93:=aB (aj a16 (az a17))
def F50:bB:=⟨[(.sl .s),(.i 3)],[aP,(.sl (.u 7)),(.i 3)],true,λx=>f50 x.1 x.2⟩
theorem a8S:aL Pr 50 F50:=WD [91] [([0,1,0,1,1,1,1,2],([1,4,3],[])),([0,1,0,1,1,1,2],([1,3,4],[]))] [] (aj a2Z (aj a9g (az a9h)))
def F94:bB:=⟨[(.sl (.u 4)),(.sl (.u 4))],[.b],false,λx=>f94 x.1 x.2⟩
theorem a9i:aL Pr 94 F94:=aB a_
def F51:bB:=⟨[(.sl (.u 4)),(.sl (.u 4))],[.b],false,λx=>f51 x.1 x.2⟩
theorem a8T:aL Pr 51 F51:=aB (az a9i)
def F52:bB:=⟨[aP],[(.i 3)],false,λx=>Zt x⟩
theorem a2Q:aL Pr 52 F52:=aB a_
def F54:bB:=⟨[bJ,(.u 7)],[(.i 3),(.i 3),(.i 3)],false,λx=>Yf x.1 x.2⟩
theorem a2R:aL Pr 54 F54:=aB (az S5)
def a4X:bB:=⟨[(.sl ca),(.sl eP)],[(.sl (.i 3)),(.i 3),(.i 3),(.i 3)],false,λx=>Ed x.1 x.2⟩
theorem TO:aL Pr 144 a4X:=aB (aj Hu (aj TW (az TX)))
def F96:bB:=⟨[bJ,(.i 3)],[(.sl (.i 3)),(.i 3)],false,λx=>ZW x.1 x.2⟩
theorem a2_:aL Pr 96 F96:=aB (aj TO (az TP))
def F97:bB:=⟨[(.sl lf),(.i 3),(.i 3)],[(.u 7),(.i 3)],false,λx=>ZX x.1 x.2.1 x.2.2⟩
theorem a2':aL Pr 97 F97:=iq [147,148] [] [] (az O8)
def F55:bB:=⟨[bJ,(.u 7)],[(.i 3),(.i 3)],false,λx=>Zu x.1 x.2⟩
theorem a8U:aL Pr 55 F55:=aB (aj a2R (aj a2_ (az a2')))
def a50:bB:=⟨[aP,(.u 7),(.i 3)],[(.i 3),(.i 3)],false,λx=>Vn x.1 x.2.1 x.2.2⟩
theorem a1b:aL Pr 151 a50:=aB (aj Ht (az CW))
def F99:bB:=⟨[aP,(.u 7),(.i 3)],[(.u 7),(.i 3)],false,λx=>N2 x.1 x.2.1 x.2.2⟩
theorem Xx:aL Pr 99 F99:=aB (az a1b)
def a4l:bB:=⟨[(.u 7),(.u 7)],[.b],false,λx=>Qj x.1 x.2⟩
theorem a0K:aL Pr 100 a4l:=aB a_
def F56:bB:=⟨[aP,(.u 7)],[(.u 7),(.u 7),(.u 7),(.i 3)],false,λx=>Zv x.1 x.2⟩
theorem a8V:aL Pr 56 F56:=aB (aj a2Q (aj Oo (aj Xx (az a0K))))
def F29:bB:=⟨[aP,bJ,(.u 7)],[(.sl t_),(.i 3)],false,λx=>Za x.1 x.2.1 x.2.2⟩
theorem a2t:aL Pr 29 F29:=aB (aj a2Q (aj S5 (aj a2R (aj a8U (az a8V)))))
def F28:bB:=⟨[bH],[(.i 3)],false,λx=>f28 x⟩
theorem a8D:aL Pr 28 F28:=aB (aj a2t (aj a8P (aj a8Q (aj On (aj a8R (aj a8S (az a8T)))))))
def F17:bB:=⟨[bH],[gb,(.i 3)],false,λx=>Z5 x⟩
theorem a1p:aL Pr 17 F17:=aB (az a8D)
def a4m:bB:=⟨[bJ,(.i 3),(.i 3)],[(.i 3),(.i 3),(.i 3)],false,λx=>Qk x.1 x.2.1 x.2.2⟩
theorem a0L:aL Pr 101 a4m:=aB (aj S5 (az a2_))
def a75:bB:=⟨[(.sl (.i 3))],[(.i 3)],false,λx=>Ra x⟩
theorem a2A:aL Pr 300 a75:=aB a_
def a76:bB:=⟨[(.sl (.i 3))],[(.i 3)],false,λx=>Rb x⟩
theorem a2B:aL Pr 301 a76:=aB a_
def a6D:bB:=⟨[(.sl ca),(.sl (.i 3))],[(.i 3)],false,λx=>W9 x.1 x.2⟩
theorem a2g:aL Pr 265 a6D:=aB (aj Hu (aj a2A (az a2B)))
def a77:bB:=⟨[ca,.b],[(.sl (.i 3))],true,λx=>MP x.1 x.2⟩
theorem a2C:aL Pr 302 a77:=aB a_
def a6E:bB:=⟨[(.sl ca),(.i 3),.b],[(.sl .b)],true,λx=>R4 x.1 x.2.1 x.2.2⟩
theorem a2h:aL Pr 266 a6E:=dB [([0,1,0,1,1,1],([1,3],[])),([0,1,1,1,0,1,0,0,1,0,1,1,1],([1,3],[]))] (az a2C)
def a5L:bB:=⟨[(.sl ca),(.i 3)],[(.sl (.i 3)),(.i 3)],true,λx=>QS x.1 x.2⟩
theorem a1N:aL Pr 201 a5L:=aB (aj a2g (az a2h))
def a51:bB:=⟨[(.sl ca),(.i 3)],[(.i 3),(.i 3)],false,λx=>Qu x.1 x.2⟩
theorem a1c:aL Pr 152 a51:=aB (aj CX (az a1N))
def a55:bB:=⟨[aP],[.b],false,λx=>Qx x⟩
theorem a1g:aL Pr 158 a55:=aB (az Ht)
def a56:bB:=⟨[aP,aP],[.b],false,λx=>Lh x.1 x.2⟩
theorem a1h:aL Pr 159 a56:=aB a_
def a4s:bB:=⟨[(.sl aP),(.u 7),(.i 3)],[(.i 3),(.i 3)],false,λx=>E6 x.1 x.2.1 x.2.2⟩
theorem O5:aL Pr 107 a4s:=iq [157,209] [] [] (aj CW (aj a1g (az a1h)))
def a4t:bB:=⟨[aP,(.u 7),(.i 3)],[(.sl (.u 4)),(.i 3)],true,λx=>IC x.1 x.2.1 x.2.2⟩
theorem O6:aL Pr 108 a4t:=aB (aj Oo (aj CW (az TQ)))
def a5N:bB:=⟨[(.sl (.u 4)),(.i 3)],[(.u 7)],false,λx=>mO x.1 x.2⟩
theorem a1P:aL Pr 203 a5N:=aB a_
end
end Go.Proofs.YtbjcjppphoppfaaGreat.M
