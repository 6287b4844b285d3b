import Derived.Test.YtpiokjcbadfalaaGreatDoorEvAO
import Derived.Test.YtpiokjcbadfalaaGreatDoorEvAQ
import Derived.Test.YtpiokjcbadfalaaGreatDoorEvAX
import Derived.Test.YtpiokjcbadfalaaGreatDoorEvAZ
import Derived.Test.YtpiokjcbadfalaaGreatDoorEvBA
import Derived.Test.YtpiokjcbadfalaaGreatDoorEvBB
import Derived.Test.YtpiokjcbadfalaaGreatDoorEvBC
import Derived.Test.YtpiokjcbadfalaaGreatDoorEvBD
import Derived.Test.YtpiokjcbadfalaaGreatDoorEvBE
import Derived.Test.YtpiokjcbadfalaaGreatDoorEvBF
import Derived.Test.YtpiokjcbadfalaaGreatDoorEvBG
import Derived.Test.YtpiokjcbadfalaaGreatDoorEvBH
import Derived.Test.YtpiokjcbadfalaaGreatDoorEvBI
import Derived.Test.YtpiokjcbadfalaaGreatDoorEvBJ
import Derived.Test.YtpiokjcbadfalaaGreatDoorEvBK
import Derived.Test.YtpiokjcbadfalaaGreatDoorEvBL
open Go Go.Proofs.YtpiokjcbadfalaaGreatDoor.Ev
namespace Go.Proofs.YtpiokjcbadfalaaGreatDoor.Tz
noncomputable def varsOf (_ : Nat) : List Nat := []
noncomputable def vs : Vs := ⟨varsOf,11,GW 1 0 5,fun _ _ h hk=>h.keep (by decide) (by decide) (by decide) hk⟩
noncomputable def V : Env := ⟨Go.Proofs.Tryz.prog,vs⟩
theorem mo : (Go.Proofs.Tryz.prog).follows .mixedOrders = true := by kernel_rfl
theorem glk {C : Cx} (hg : C.gl = gls) : vT C vs := ary rfl (by decide) hg
theorem kk {l : List (Nat × aF)} {v : List Nat} {n s : Nat} (hf : ∀ p ∈ l,ao V p.1 p.2) (h : (qG (kC l v n s) && xU (kC l v n s)) = true) : ao V s (aV (kC l v n s)) :=
  a7a (C := kC l v n s) (vs := vs) oL (glk rfl) mo hf yw (Bool.and_eq_true_iff.1 h).1 (.inl (Bool.and_eq_true_iff.1 h).2)
theorem gwm (w : World) (h : vs.G w) : ∃ m,w.cell? ⟨0,0,none⟩ = some (.int .i64 m) := h.2.1
theorem kr42 : ao V 35 r42 := kk ae (by kernel_rfl)
theorem kr18 : ao V 17 r18 := kk (aa kr42 ae) (by kernel_rfl)
theorem kr13 : ao V 15 r13 := kk (aa kr18 ae) (by kernel_rfl)
theorem kr41 : ao V 34 r41 := kk ae (by kernel_rfl)
theorem kr17 : ao V 16 r17 := kk (aa kr41 ae) (by kernel_rfl)
theorem kr59 : ao V 62 r59 := kk ae (by kernel_rfl)
theorem kr43 : ao V 36 r43 := kk (aa kr59 ae) (by kernel_rfl)
theorem kr19 : ao V 18 r19 := kk (aa kr43 ae) (by kernel_rfl)
theorem kr44 : ao V 37 r44 := kk ae (by kernel_rfl)
theorem kr20 : ao V 19 r20 := kk (aa kr44 ae) (by kernel_rfl)
theorem kr5 : ao V 6 r5 := kk (aa kr13 (aa kr17 (aa kr18 (aa kr19 (aa kr20 ae))))) (by kernel_rfl)
theorem kr33 : ao V 26 r33 := kk ae (by kernel_rfl)
theorem kr9 : ao V 8 r9 := ahF kr5 kr33 kr20 kr19
theorem kr39 : ao V 10 r39 := kk ae (by kernel_rfl)
theorem kr53 : ao V 45 r53 := kk ae (by kernel_rfl)
theorem kr25 : ao V 23 r25 := kk (aa kr42 (aa kr53 ae)) (by kernel_rfl)
theorem af8 : ao V 112 agz := kk ae (by kernel_rfl)
theorem asy : ao V 145 am0 := kk ae (by kernel_rfl)
theorem ash : ao V 113 alK := kk (aa asy ae) (by kernel_rfl)
theorem as3 : ao V 69 aly := kk (aa af8 (aa ash ae)) (by kernel_rfl)
theorem as2 : ao V 67 alx := h67 rfl
theorem aeX : ao V 71 ago := kk (aa as2 ae) (by kernel_rfl)
theorem asi : ao V 114 alL := kk ae (by kernel_rfl)
theorem as4 : ao V 70 alz := h70 (a7a (C := adu) (vs := vs) oL (glk rfl) mo (aa aeX (aa af8 (aa asi ae))) yw (by kernel_rfl) (.inl (by kernel_rfl)))
theorem arT : ao V 47 aln := kk (aa as3 (aa as4 (aa aeX ae))) (by kernel_rfl)
theorem kr37 : ao V 28 r37 := acE (a7a (C := cr37) (vs := vs) oL (glk rfl) mo (aa arT ae) yw (by kernel_rfl) (.inl (by kernel_rfl))) (uc gwm)
theorem aeY : ao V 72 agp := kk ae (by kernel_rfl)
theorem aeZ : ao V 73 agq := h73 rfl
theorem arU : ao V 48 alo := kk (aa kr25 (aa kr37 (aa aeY (aa aeZ ae)))) (by kernel_rfl)
theorem arV : ao V 49 alp := kk ae (by kernel_rfl)
theorem a7G : ao V 278 aar := kk ae (by kernel_rfl)
theorem atE : ao V 281 an0 := kk ae (by kernel_rfl)
theorem af0 : ao V 78 agr := kk ae (by kernel_rfl)
theorem as7 : ao V 80 alC := kk (aa af0 ae) (by kernel_rfl)
theorem atM : ao V 306 an8 := kk ae (by kernel_rfl)
theorem atu : ao V 270 amR := kk (aa atM ae) (by kernel_rfl)
theorem a7D : ao V 209 aao := kk (aa atu ae) (by kernel_rfl)
theorem asY : ao V 208 amq := kk (aa a7D ae) (by kernel_rfl)
theorem atP : ao V 309 anb := kk ae (by kernel_rfl)
theorem aso : ao V 125 alQ := kk (aa as7 (aa asY (aa atP ae))) (by kernel_rfl)
theorem a7o : ao V 79 aa8 := kk (aa aso ae) (by kernel_rfl)
theorem atF : ao V 282 an1 := kk (aa a7o ae) (by kernel_rfl)
theorem atd : ao V 230 amA := kk (aa a7G (aa atE (aa atF ae))) (by kernel_rfl)
theorem ate : ao V 231 amB := kk ae (by kernel_rfl)
theorem a7z : ao V 168 aak := kk (aa atd (aa ate ae)) (by kernel_rfl)
theorem aff : ao V 170 agG := kk ae (by kernel_rfl)
theorem afe : ao V 169 agF := kk (aa aff ae) (by kernel_rfl)
theorem asr : ao V 131 alT := kk (aa a7z (aa afe ae)) (by kernel_rfl)
theorem a1n : ao V 94 a5k := kk (aa asr ae) (by kernel_rfl)
theorem afn : ao V 223 agP := kk ae (by kernel_rfl)
theorem atr : ao V 260 amO := kk ae (by kernel_rfl)
theorem a7A : ao V 186 aal := kk (aa afn (aa atr ae)) (by kernel_rfl)
theorem atw : ao V 273 amT := kk ae (by kernel_rfl)
theorem atx : ao V 274 amU := kk ae (by kernel_rfl)
theorem aty : ao V 275 amV := kk ae (by kernel_rfl)
theorem atz : ao V 276 amW := kk ae (by kernel_rfl)
theorem atA : ao V 277 amX := kk ae (by kernel_rfl)
theorem a7E : ao V 221 aap := kk (aa atw (aa atx (aa aty (aa atz (aa atA ae))))) (by kernel_rfl)
theorem a7F : ao V 222 aaq := kk ae (by kernel_rfl)
theorem a1p : ao V 220 a5m := kk (aa a7E (aa a7F ae)) (by kernel_rfl)
theorem atO : ao V 308 ana := kk ae (by kernel_rfl)
theorem atV : ao V 318 anh := kk (aa atO ae) (by kernel_rfl)
theorem atN : ao V 307 an9 := kk (aa atV ae) (by kernel_rfl)
theorem atB : ao V 279 amY := kk (aa a7G (aa atN ae)) (by kernel_rfl)
theorem ata : ao V 224 amx := kk (aa a7A (aa a1p (aa a7G (aa atB ae)))) (by kernel_rfl)
theorem asH : ao V 163 am9 := kk (aa a1n (aa a7z (aa ata ae))) (by kernel_rfl)
theorem atD : ao V 280 amZ := kk ae (by kernel_rfl)
theorem a1q : ao V 226 a5n := kk (aa atD ae) (by kernel_rfl)
theorem xj : ao V 165 a0l := kk (aa a1q ae) (by kernel_rfl)
theorem a7y : ao V 166 aaj := kk (aa xj ae) (by kernel_rfl)
theorem afo : ao V 225 agQ := kk (aa xj (aa a7y ae)) (by kernel_rfl)
theorem asI : ao V 164 ama := kk (aa xj (aa afo ae)) (by kernel_rfl)
theorem afp : ao V 227 agR := kk (aa a1q ae) (by kernel_rfl)
theorem atb : ao V 228 amy := kk (aa a1p (aa a7E (aa a7F (aa a1q (aa afp ae))))) (by kernel_rfl)
theorem atc : ao V 229 amz := kk (aa a7A (aa a1q ae)) (by kernel_rfl)
theorem asJ : ao V 167 amb := kk (aa xj (aa a7y (aa afo (aa afp (aa atb (aa atc ae)))))) (by kernel_rfl)
theorem a7k : ao V 129 aa2 := kk (aa asH (aa asI (aa xj (aa a7y (aa asJ ae))))) (by kernel_rfl)
theorem aeT : ao V 129 aa3 := aU a7k (cG a7k) aj8
theorem asq : ao V 129 alS := aU aeT (cG a7k) aj9
theorem qA : ao V 91 uT := kk (aa asq ae) (by kernel_rfl)
theorem asj : ao V 120 alM := kk ae (by kernel_rfl)
theorem a7C : ao V 200 aan := kk (aa a1p ae) (by kernel_rfl)
theorem asV : ao V 202 amn := kk ae (by kernel_rfl)
theorem at7 : ao V 219 amw := kk ae (by kernel_rfl)
theorem atY : ao V 334 ank := kk ae (by kernel_rfl)
theorem atX : ao V 325 anj := kk (aa atY ae) (by kernel_rfl)
theorem atW : ao V 319 ani := kk (aa atX ae) (by kernel_rfl)
theorem atT : ao V 316 anf := kk (aa atW ae) (by kernel_rfl)
theorem att : ao V 265 amQ := kk ae (by kernel_rfl)
theorem atU : ao V 317 ang := kk (aa att ae) (by kernel_rfl)
theorem atK : ao V 304 an6 := kk (aa atT (aa atU ae)) (by kernel_rfl)
theorem atL : ao V 305 an7 := kk ae (by kernel_rfl)
theorem afs : ao V 269 agU := kk (aa atK (aa atL ae)) (by kernel_rfl)
theorem afi : ao V 201 agK := kk (aa asV (aa at7 (aa afs ae))) (by kernel_rfl)
theorem asz : ao V 153 am1 := kk (aa a7C (aa afi ae)) (by kernel_rfl)
theorem a7w : ao V 158 aah := kk (aa a1p (aa a7E (aa a7F ae))) (by kernel_rfl)
theorem afj : ao V 203 agL := kk ae (by kernel_rfl)
theorem afk : ao V 204 agM := kk ae (by kernel_rfl)
theorem asW : ao V 205 amo := kk ae (by kernel_rfl)
theorem asA : ao V 154 am2 := kk (aa a7w (aa afj (aa afk (aa asW ae)))) (by kernel_rfl)
theorem afl : ao V 206 agN := kk (aa afj ae) (by kernel_rfl)
theorem asX : ao V 207 amp := kk (aa a7o ae) (by kernel_rfl)
theorem asZ : ao V 210 amr := kk (aa a7D ae) (by kernel_rfl)
theorem asB : ao V 155 am3 := kk (aa afl (aa asX (aa a7D (aa asZ ae)))) (by kernel_rfl)
theorem af3 : ao V 95 agu := kk ae (by kernel_rfl)
theorem afm : ao V 217 agO := kk (aa a1n (aa af3 ae)) (by kernel_rfl)
theorem atv : ao V 272 amS := kk ae (by kernel_rfl)
theorem at0 : ao V 214 ams := kk (aa afk (aa afl (aa afm (aa atv ae)))) (by kernel_rfl)
theorem at1 : ao V 215 amt := kk (aa a7C (aa afs ae)) (by kernel_rfl)
theorem at5 : ao V 216 amu := kk ae (by kernel_rfl)
theorem asC : ao V 156 am4 := kk (aa at0 (aa at1 (aa at5 (aa afm ae)))) (by kernel_rfl)
theorem at6 : ao V 218 amv := kk ae (by kernel_rfl)
theorem asD : ao V 157 am5 := kk (aa a7w (aa a7C (aa afi (aa at6 ae)))) (by kernel_rfl)
theorem asE : ao V 159 am6 := kk (aa afn ae) (by kernel_rfl)
theorem af9 : ao V 121 agA := kk (aa asz (aa asA (aa asB (aa asC (aa asD (aa a7w (aa asE ae))))))) (by kernel_rfl)
theorem asl : ao V 122 alN := kk ae (by kernel_rfl)
theorem asm : ao V 123 alO := kk ae (by kernel_rfl)
theorem as5 : ao V 76 alA := kk (aa qA (aa asj (aa af9 (aa asl (aa asm ae))))) (by kernel_rfl)
theorem arW : ao V 50 alq := kk (aa as5 ae) (by kernel_rfl)
theorem arX : ao V 51 alr := kk (aa aeY (aa aeZ ae)) (by kernel_rfl)
theorem arQ : ao V 30 alj := kk (aa arU (aa arV (aa arW (aa arX ae)))) (by kernel_rfl)
theorem aeK : ao V 12 agh := kk (aa arQ ae) (by kernel_rfl)
theorem arO : ao V 12 alh := aU aeK (cG aeK) aj0
theorem asn : ao V 124 alP := kk ae (by kernel_rfl)
theorem as6 : ao V 77 alB := kk (aa qA (aa af9 (aa asn ae))) (by kernel_rfl)
theorem aeM : ao V 52 agj := kk (aa as6 ae) (by kernel_rfl)
theorem a7l : ao V 52 aa5 := aU aeM (cG aeM) aj1
theorem xg : ao V 53 a0i := kk (aa af0 (aa a7o ae)) (by kernel_rfl)
theorem as9 : ao V 86 aab := kk ae (by kernel_rfl)
theorem asa : ao V 87 alE := kk ae (by kernel_rfl)
theorem af1 : ao V 88 ags := kk ae (by kernel_rfl)
theorem a1o : ao V 133 a5l := kk (aa af1 ae) (by kernel_rfl)
theorem asF : ao V 160 am7 := kk ae (by kernel_rfl)
theorem ats : ao V 261 amP := kk ae (by kernel_rfl)
theorem a7B : ao V 189 aam := kk (aa ats ae) (by kernel_rfl)
theorem asG : ao V 161 am8 := kk (aa a7B ae) (by kernel_rfl)
theorem a7u : ao V 127 aaf := kk (aa a1o (aa asF (aa asG ae))) (by kernel_rfl)
theorem xh : ao V 82 a0j := kk ae (by kernel_rfl)
theorem a7x : ao V 162 aai := kk ae (by kernel_rfl)
theorem a7v : ao V 141 aag := kk (aa a7x (aa a7B ae)) (by kernel_rfl)
theorem asp : ao V 128 alR := kk (aa xh (aa a7v (aa a7x ae))) (by kernel_rfl)
theorem asb : ao V 89 alF := kk (aa a7u (aa asp ae)) (by kernel_rfl)
theorem arK : a2g V 86 aab := ajk (C := adv) (vs := vs) (a90 oL (glk rfl) mo ae yw) (by kernel_rfl) (by kernel_rfl)
theorem a7m : ao V 55 aa6 := aji (C := adt) (vs := vs) (a90 oL (glk rfl) mo (aa as9 (aa asa (aa af1 (aa asb ae)))) yw) (by kernel_rfl) arK (fun q h=>dfq (n := 86) (by kernel_rfl) h)
theorem a7r : ao V 90 aac := kk ae (by kernel_rfl)
theorem af2 : ao V 92 agt := kk ae (by kernel_rfl)
theorem afa : ao V 130 agB := kk (aa a7z (aa afe (aa aff ae))) (by kernel_rfl)
theorem a7s : ao V 93 aad := kk (aa af3 (aa afa ae)) (by kernel_rfl)
theorem ass : ao V 132 alU := kk ae (by kernel_rfl)
theorem asd : ao V 96 alG := kk (aa ass ae) (by kernel_rfl)
theorem arZ : ao V 56 alu := kk (aa a7r (aa qA (aa af2 (aa a7s (aa asd ae))))) (by kernel_rfl)
theorem as0 : ao V 57 alv := kk (aa qA ae) (by kernel_rfl)
theorem aeU : ao V 32 agl := kk (aa a7l (aa xg (aa a7m (aa arZ (aa as0 ae))))) (by kernel_rfl)
theorem a7t : ao V 103 aae := kk (aa qA ae) (by kernel_rfl)
theorem asU : ao V 188 amm := kk ae (by kernel_rfl)
theorem asT : ao V 187 aml := kk (aa asU ae) (by kernel_rfl)
theorem asx : ao V 140 alZ := kk (aa a7A (aa asT ae)) (by kernel_rfl)
theorem af7 : ao V 104 agy := kk (aa a7s (aa a7t (aa asx ae))) (by kernel_rfl)
theorem afh : ao V 190 agI := kk (aa a7x (aa a7B ae)) (by kernel_rfl)
theorem afd : ao V 142 agE := kk (aa afh ae) (by kernel_rfl)
theorem asg : ao V 105 alJ := kk (aa a7r (aa af2 (aa a7v (aa afd ae)))) (by kernel_rfl)
theorem a7n : ao V 61 aa7 := kk (aa a7r (aa qA (aa a7t (aa af7 (aa asg ae))))) (by kernel_rfl)
theorem atf : ao V 232 amC := kk ae (by kernel_rfl)
theorem atg : ao V 233 amD := kk ae (by kernel_rfl)
theorem ath : ao V 234 amE := kk ae (by kernel_rfl)
theorem asK : ao V 171 amc := kk (aa atf (aa atg (aa ath ae))) (by kernel_rfl)
theorem afb : ao V 134 agC := kk (aa asK ae) (by kernel_rfl)
theorem asL : ao V 172 amd := kk ae (by kernel_rfl)
theorem ast : ao V 135 alV := kk (aa asL ae) (by kernel_rfl)
theorem gF : ao V 97 jC := kk (aa a7l (aa xg (aa a7m (aa a7n (aa a1o (aa afb (aa ast ae))))))) (by kernel_rfl)
theorem aeP : ao V 97 a9Y := aU gF (cG gF) aj4
theorem aeQ : ao V 97 a9Z := aU aeP (cG gF) aj5
theorem aeR : ao V 97 aa0 := aU aeQ (cG gF) aj6
theorem aeS : ao V 97 aa1 := aU aeR (cG gF) aj7
theorem abU : ao V 97 a5a := aU aeS (cG gF) adU
theorem abV : ao V 97 a5b := aU abU (cG gF) adV
theorem abW : ao V 97 a5c := aU abV (cG gF) adW
theorem abX : ao V 97 a5d := aU abW (cG gF) adX
theorem abY : ao V 97 a5e := aU abX (cG gF) adY
theorem abZ : ao V 97 a5f := aU abY (cG gF) adZ
theorem ac0 : ao V 97 a5g := aU abZ (cG gF) ae0
theorem ac1 : ao V 97 a5h := aU ac0 (cG gF) ae1
theorem ac2 : ao V 97 a5i := aU ac1 (cG gF) ae2
theorem xi : ao V 97 a0k := aU ac2 (cG gF) ae3
theorem af4 : ao V 98 agv := kk (aa afb ae) (by kernel_rfl)
theorem aeV : ao V 58 agm := kk (aa xi (aa af4 ae)) (by kernel_rfl)
theorem ase : ao V 101 alH := kk (aa af4 ae) (by kernel_rfl)
theorem af5 : ao V 99 agw := kk (aa xi ae) (by kernel_rfl)
theorem a7p : ao V 83 aa9 := kk ae (by kernel_rfl)
theorem a7q : ao V 84 aaa := kk ae (by kernel_rfl)
theorem asu : ao V 136 alW := kk (aa xh (aa a7p (aa a7q ae))) (by kernel_rfl)
theorem af6 : ao V 100 agx := kk (aa a7n (aa asu ae)) (by kernel_rfl)
theorem afc : ao V 137 agD := kk ae (by kernel_rfl)
theorem asM : ao V 173 ame := kk (aa xh (aa a7p (aa a7q (aa a7t (aa af7 (aa afa ae)))))) (by kernel_rfl)
theorem afr : ao V 242 agT := kk (aa a1n ae) (by kernel_rfl)
theorem xk : ao V 235 a0m := kk (aa afr ae) (by kernel_rfl)
theorem asN : ao V 174 amf := kk (aa xk ae) (by kernel_rfl)
theorem afq : ao V 237 agS := kk (aa xk ae) (by kernel_rfl)
theorem atj : ao V 238 amG := kk (aa a7m ae) (by kernel_rfl)
theorem atk : ao V 239 amH := kk (aa xk ae) (by kernel_rfl)
theorem asO : ao V 175 amg := kk (aa xk (aa afq (aa atj (aa atk ae)))) (by kernel_rfl)
theorem ati : ao V 236 amF := kk (aa xk ae) (by kernel_rfl)
theorem atl : ao V 241 amI := kk (aa a7u (aa afq ae)) (by kernel_rfl)
theorem atm : ao V 243 amJ := kk ae (by kernel_rfl)
theorem asP : ao V 176 amh := kk (aa ati (aa atl (aa afr (aa atm ae)))) (by kernel_rfl)
theorem asQ : ao V 177 ami := kk ae (by kernel_rfl)
theorem asv : ao V 138 alX := kk (aa xi (aa afc (aa asM (aa asN (aa asO (aa asP (aa asQ ae))))))) (by kernel_rfl)
theorem afg : ao V 181 agH := kk ae (by kernel_rfl)
theorem atI : ao V 297 an4 := kk (aa xh (aa afh ae)) (by kernel_rfl)
theorem atG : ao V 286 an2 := kk (aa atI ae) (by kernel_rfl)
theorem aft : ao V 290 agV := kk ae (by kernel_rfl)
theorem atn : ao V 249 amK := kk (aa a7u (aa a1o (aa atG (aa aft ae)))) (by kernel_rfl)
theorem atQ : ao V 310 anc := kk (aa a1o ae) (by kernel_rfl)
theorem atS : ao V 311 ane := kk (aa a7v (aa atQ ae)) (by kernel_rfl)
theorem atH : ao V 291 an3 := kk (aa afd (aa aft (aa atS ae))) (by kernel_rfl)
theorem ato : ao V 251 amL := kk (aa afg (aa atH ae)) (by kernel_rfl)
theorem asR : ao V 178 amj := kk (aa afg (aa atn (aa ato ae))) (by kernel_rfl)
theorem atp : ao V 254 amM := kk ae (by kernel_rfl)
theorem atJ : ao V 301 an5 := kk (aa qA (aa a7s ae)) (by kernel_rfl)
theorem atq : ao V 259 amN := kk (aa a1n (aa atJ ae)) (by kernel_rfl)
theorem asS : ao V 185 amk := kk (aa atp (aa atq ae)) (by kernel_rfl)
theorem asw : ao V 139 alY := kk (aa asR (aa asS ae)) (by kernel_rfl)
theorem asf : ao V 102 alI := kk (aa af5 (aa af6 (aa afc (aa asv (aa asw ae))))) (by kernel_rfl)
theorem gV : ao V 60 kI := kk (aa xg (aa aeV (aa xi (aa ase (aa asf ae))))) (by kernel_rfl)
theorem aeN : ao V 60 a9W := aU gV (cG gV) aj2
theorem aeO : ao V 60 a9X := aU aeN (cG gV) aj3
theorem abK : ao V 60 a4U := aU aeO (cG gV) adJ
theorem abL : ao V 60 a4V := aU abK (cG gV) adK
theorem abM : ao V 60 a4W := aU abL (cG gV) adL
theorem abN : ao V 60 a4X := aU abM (cG gV) adM
theorem abO : ao V 60 a4Y := aU abN (cG gV) adN
theorem abP : ao V 60 a4Z := aU abO (cG gV) adO
theorem abQ : ao V 60 a50 := aU abP (cG gV) adP
theorem abR : ao V 60 a52 := aU abQ (cG gV) adQ
theorem abS : ao V 60 a56 := aU abR (cG gV) adR
theorem abT : ao V 60 a57 := aU abS (cG gV) adS
theorem aeW : ao V 60 agn := aU abT (cG gV) adT
theorem as8 : ao V 81 alD := kk (aa xi ae) (by kernel_rfl)
theorem arY : ao V 54 als := kk (aa xg (aa aeW (aa as8 (aa xh (aa a7p (aa a7q ae)))))) (by kernel_rfl)
theorem arR : ao V 31 alk := kk (aa aeU (aa a7l (aa xg (aa arY ae)))) (by kernel_rfl)
theorem as1 : ao V 59 alw := kk (aa af5 (aa af6 ae)) (by kernel_rfl)
theorem arS : ao V 33 alm := kk (aa aeV (aa as1 (aa aeW (aa a7n ae)))) (by kernel_rfl)
theorem aeL : ao V 13 agi := kk (aa arR (aa aeU (aa arS ae))) (by kernel_rfl)
theorem arP : ao V 13 ali := aU aeL (cG aeL) adI
theorem arN : ao V 4 a5j := kk (aa kr9 (aa kr39 (aa arO (aa arP ae)))) (by kernel_rfl)
theorem kr16 : ao V 14 r16 := kk ae (by kernel_rfl)
theorem kr4 : ao V 5 r4 := kk (aa kr16 ae) (by kernel_rfl)
theorem kr46 : ao V 38 r46 := ajz
theorem kr47 : ao V 39 r47 := kk ae (by kernel_rfl)
theorem kr49 : ao V 41 r49 := h41
theorem kr75 : ao V 108 r75 := h108
theorem kr73 : ao V 106 r73 := kk (aa kr75 ae) (by kernel_rfl)
theorem kr62 : ao V 64 r62 := kk (aa kr73 ae) (by kernel_rfl)
theorem kr48 : ao V 40 r48 := kk (aa kr49 (aa kr62 ae)) (by kernel_rfl)
theorem kr22 : ao V 20 r22 := kk (aa kr46 (aa kr47 (aa kr48 (aa kr49 ae)))) (by kernel_rfl)
theorem kr23 : ao V 21 r23 := h21
theorem kr24 : ao V 22 r24 := h22 rfl
theorem kr26 : ao V 24 r26 := kk (aa kr44 (aa kr53 ae)) (by kernel_rfl)
theorem kr7 : ao V 7 r7 := kk (aa kr5 (aa kr22 (aa kr23 (aa kr24 (aa kr25 (aa kr26 ae)))))) (by kernel_rfl)
theorem kr38 : ao V 29 r38 := kk (aa kr22 (aa kr24 (aa kr26 (aa kr33 (aa kr49 ae))))) (by kernel_rfl)
theorem kr11 : ao V 9 r11 := kk (aa kr7 (aa kr37 (aa kr38 ae))) (by kernel_rfl)
theorem kr15 : ao V 11 r15 := kk ae (by kernel_rfl)
theorem arM : ao V 3 aa4 := kk (aa arN (aa kr4 (aa kr5 (aa kr7 (aa kr9 (aa kr11 (aa kr39 (aa kr15 ae)))))))) (by kernel_rfl)
end Go.Proofs.YtpiokjcbadfalaaGreatDoor.Tz
