import Derived.Test.YtdlohaedegmiaaaGreatDoorEvAU
import Derived.Test.YtdlohaedegmiaaaGreatDoorEvAV
import Derived.Test.YtdlohaedegmiaaaGreatDoorEvAW
import Derived.Test.YtdlohaedegmiaaaGreatDoorEvAX
import Derived.Test.YtdlohaedegmiaaaGreatDoorEvAY
import Derived.Test.YtdlohaedegmiaaaGreatDoorEvAZ
import Derived.Test.YtdlohaedegmiaaaGreatDoorEvBA
import Derived.Test.YtdlohaedegmiaaaGreatDoorEvBB
import Derived.Test.YtdlohaedegmiaaaGreatDoorEvBC
import Derived.Test.YtdlohaedegmiaaaGreatDoorEvBD
import Derived.Test.YtdlohaedegmiaaaGreatDoorEvBE
import Derived.Test.YtdlohaedegmiaaaGreatDoorEvBF
import Derived.Test.YtdlohaedegmiaaaGreatDoorEvBG
import Derived.Test.YtdlohaedegmiaaaGreatDoorEvBH
import Derived.Test.YtdlohaedegmiaaaGreatDoorEvBI
import Derived.Test.YtdlohaedegmiaaaGreatDoorEvBJ
open Go Go.Proofs.YtdlohaedegmiaaaGreatDoor.Ev
namespace Go.Proofs.YtdlohaedegmiaaaGreatDoor.Tz
noncomputable def varsOf (_ : Nat) : List Nat := []
noncomputable def vs : Vs := ⟨varsOf, 11, GW 1 0 5, fun _ _ h hk => h.keep (by decide) (by decide) (by decide) hk⟩
noncomputable def V : Env := ⟨Go.Proofs.Tryz.prog, vs⟩
theorem mo : (Go.Proofs.Tryz.prog).follows .mixedOrders = true := by kernel_rfl
theorem glk {C : Cx} (hg : C.gl = gls) : ly C vs := abt rfl (by decide) hg
theorem kk {l : List (Nat × ao)} {v : List Nat} {n s : Nat} (hf : ∀ p ∈ l, ai V p.1 p.2) (h : (iQ (kC l v n s) && mM (kC l v n s)) = true) : ai V s (ax (kC l v n s)) :=
  uz (C := kC l v n s) (vs := vs) gF (glk rfl) mo hf mZ (Bool.and_eq_true_iff.1 h).1 (.inl (Bool.and_eq_true_iff.1 h).2)
theorem gwm (w : World) (h : vs.G w) : ∃ m, w.cell? ⟨0, 0, none⟩ = some (.int .i64 m) := h.2.1
theorem mg : ai V 9 oA := kk a8 (by kernel_rfl)
theorem kr42 : ai V 49 r42 := kk a8 (by kernel_rfl)
theorem kr18 : ai V 37 r18 := kk (a7 kr42 a8) (by kernel_rfl)
theorem kr13 : ai V 16 r13 := kk (a7 kr18 a8) (by kernel_rfl)
theorem kr44 : ai V 39 r44 := kk a8 (by kernel_rfl)
theorem kr20 : ai V 19 r20 := kk (a7 kr44 a8) (by kernel_rfl)
theorem kr59 : ai V 70 r59 := kk a8 (by kernel_rfl)
theorem kr43 : ai V 40 r43 := kk (a7 kr59 a8) (by kernel_rfl)
theorem kr19 : ai V 20 r19 := kk (a7 kr43 a8) (by kernel_rfl)
theorem kr41 : ai V 68 r41 := kk a8 (by kernel_rfl)
theorem kr17 : ai V 36 r17 := kk (a7 kr41 a8) (by kernel_rfl)
theorem kr5 : ai V 15 r5 := kk (a7 kr13 (a7 kr20 (a7 kr19 (a7 kr17 (a7 kr18 a8))))) (by kernel_rfl)
theorem kr49 : ai V 42 r49 := h42
theorem kr46 : ai V 43 r46 := a4B
theorem kr75 : ai V 112 r75 := h112
theorem kr73 : ai V 111 r73 := kk (a7 kr75 a8) (by kernel_rfl)
theorem kr62 : ai V 76 r62 := kk (a7 kr73 a8) (by kernel_rfl)
theorem kr48 : ai V 45 r48 := kk (a7 kr49 (a7 kr62 a8)) (by kernel_rfl)
theorem kr22 : ai V 24 r22 := kk (a7 kr49 (a7 kr46 (a7 kr48 a8))) (by kernel_rfl)
theorem kr23 : ai V 25 r23 := h25
theorem kr24 : ai V 26 r24 := h26 rfl
theorem kr53 : ai V 50 r53 := kk a8 (by kernel_rfl)
theorem kr25 : ai V 27 r25 := kk (a7 kr42 (a7 kr53 a8)) (by kernel_rfl)
theorem kr26 : ai V 28 r26 := kk (a7 kr44 (a7 kr53 a8)) (by kernel_rfl)
theorem kr7 : ai V 11 r7 := kk (a7 kr5 (a7 kr22 (a7 kr23 (a7 kr24 (a7 kr25 (a7 kr26 a8)))))) (by kernel_rfl)
theorem adB : ai V 4 a7M := kk (a7 mg (a7 kr7 (a7 kr5 a8))) (by kernel_rfl)
theorem kr33 : ai V 18 r33 := kk a8 (by kernel_rfl)
theorem kr9 : ai V 8 r9 := a3m kr5 kr33 kr20 kr19
theorem adC : ai V 5 a7N := kk (a7 kr9 (a7 mg (a7 kr5 (a7 kr13 a8)))) (by kernel_rfl)
theorem adD : ai V 6 a7O := kk (a7 mg (a7 kr7 a8)) (by kernel_rfl)
theorem abK : ai V 78 a5P := h78 rfl
theorem a1g : ai V 73 a2l := kk (a7 abK a8) (by kernel_rfl)
theorem abX : ai V 109 a62 := kk a8 (by kernel_rfl)
theorem abL : ai V 72 a5Q := h72 (uz (C := a0a) (vs := vs) gF (glk rfl) mo (a7 a1g (a7 abX a8)) mZ (by kernel_rfl) (.inl (by kernel_rfl)))
theorem abB : ai V 41 a5G := kk (a7 abL (a7 a1g a8)) (by kernel_rfl)
theorem kr37 : ai V 22 r37 := zD (uz (C := cr37) (vs := vs) gF (glk rfl) mo (a7 abB a8) mZ (by kernel_rfl) (.inl (by kernel_rfl))) (zC gwm)
theorem kr38 : ai V 23 r38 := kk (a7 kr33 (a7 kr22 (a7 kr24 (a7 kr26 (a7 kr49 a8))))) (by kernel_rfl)
theorem kr11 : ai V 10 r11 := kk (a7 kr7 (a7 kr37 (a7 kr38 a8))) (by kernel_rfl)
theorem adE : ai V 7 a7P := kk (a7 mg (a7 kr11 a8)) (by kernel_rfl)
theorem vc : ai V 264 xJ := kk a8 (by kernel_rfl)
theorem adg : ai V 267 a7r := kk a8 (by kernel_rfl)
theorem a1j : ai V 59 a2o := kk a8 (by kernel_rfl)
theorem abO : ai V 61 a5T := kk (a7 a1j a8) (by kernel_rfl)
theorem ado : ai V 290 a7z := kk a8 (by kernel_rfl)
theorem ad5 : ai V 249 a7i := kk (a7 ado a8) (by kernel_rfl)
theorem uZ : ai V 187 xG := kk (a7 ad5 a8) (by kernel_rfl)
theorem acE : ai V 186 a6K := kk (a7 uZ a8) (by kernel_rfl)
theorem adr : ai V 302 a7C := kk a8 (by kernel_rfl)
theorem ac2 : ai V 101 a6b := kk (a7 abO (a7 acE (a7 adr a8))) (by kernel_rfl)
theorem uK : ai V 60 xn := kk (a7 ac2 a8) (by kernel_rfl)
theorem adh : ai V 268 a7s := kk (a7 uK a8) (by kernel_rfl)
theorem acO : ai V 216 a6U := kk (a7 vc (a7 adg (a7 adh a8))) (by kernel_rfl)
theorem acP : ai V 217 a6V := kk a8 (by kernel_rfl)
theorem uV : ai V 155 xC := kk (a7 acO (a7 acP a8)) (by kernel_rfl)
theorem a1x : ai V 157 a2C := kk a8 (by kernel_rfl)
theorem a1w : ai V 156 a2B := kk (a7 a1x a8) (by kernel_rfl)
theorem ac5 : ai V 120 a6e := kk (a7 uV (a7 a1w a8)) (by kernel_rfl)
theorem pd : ai V 87 sH := kk (a7 ac5 a8) (by kernel_rfl)
theorem a1F : ai V 201 a2K := kk a8 (by kernel_rfl)
theorem ad2 : ai V 246 a7f := kk a8 (by kernel_rfl)
theorem uW : ai V 173 xD := kk (a7 a1F (a7 ad2 a8)) (by kernel_rfl)
theorem ad7 : ai V 252 a7k := kk a8 (by kernel_rfl)
theorem ad8 : ai V 253 a7l := kk a8 (by kernel_rfl)
theorem ad9 : ai V 254 a7m := kk a8 (by kernel_rfl)
theorem ada : ai V 255 a7n := kk a8 (by kernel_rfl)
theorem adb : ai V 256 a7o := kk a8 (by kernel_rfl)
theorem v7 : ai V 199 xH := kk (a7 ad7 (a7 ad8 (a7 ad9 (a7 ada (a7 adb a8))))) (by kernel_rfl)
theorem v8 : ai V 200 xI := kk a8 (by kernel_rfl)
theorem pg : ai V 198 sK := kk (a7 v7 (a7 v8 a8)) (by kernel_rfl)
theorem adq : ai V 301 a7B := kk a8 (by kernel_rfl)
theorem adw : ai V 318 a7H := kk (a7 adq a8) (by kernel_rfl)
theorem adp : ai V 300 a7A := kk (a7 adw a8) (by kernel_rfl)
theorem ade : ai V 265 a7p := kk (a7 vc (a7 adp a8)) (by kernel_rfl)
theorem acL : ai V 210 a6R := kk (a7 uW (a7 pg (a7 vc (a7 ade a8)))) (by kernel_rfl)
theorem acm : ai V 150 a6t := kk (a7 pd (a7 uV (a7 acL a8))) (by kernel_rfl)
theorem adf : ai V 266 a7q := kk a8 (by kernel_rfl)
theorem pk : ai V 212 sL := kk (a7 adf a8) (by kernel_rfl)
theorem me : ai V 152 oy := kk (a7 pk a8) (by kernel_rfl)
theorem uU : ai V 153 xB := kk (a7 me a8) (by kernel_rfl)
theorem a1G : ai V 211 a2L := kk (a7 me (a7 uU a8)) (by kernel_rfl)
theorem acn : ai V 151 a6u := kk (a7 me (a7 a1G a8)) (by kernel_rfl)
theorem a1H : ai V 213 a2M := kk (a7 pk a8) (by kernel_rfl)
theorem acM : ai V 214 a6S := kk (a7 pg (a7 v7 (a7 v8 (a7 pk (a7 a1H a8))))) (by kernel_rfl)
theorem acN : ai V 215 a6T := kk (a7 uW (a7 pk a8)) (by kernel_rfl)
theorem aco : ai V 154 a6v := kk (a7 me (a7 uU (a7 a1G (a7 a1H (a7 acM (a7 acN a8)))))) (by kernel_rfl)
theorem pc : ai V 118 sG := kk (a7 acm (a7 acn (a7 me (a7 uU (a7 aco a8))))) (by kernel_rfl)
theorem a19 : ai V 118 xi := av pc (aO pc) a4k
theorem a1a : ai V 118 xj := av a19 (aO pc) a4l
theorem ac4 : ai V 118 a6d := av a1a (aO pc) a0G
theorem iL : ai V 84 kV := kk (a7 ac4 a8) (by kernel_rfl)
theorem uY : ai V 178 xF := kk (a7 pg a8) (by kernel_rfl)
theorem acB : ai V 180 a6H := kk a8 (by kernel_rfl)
theorem acK : ai V 197 a6Q := kk a8 (by kernel_rfl)
theorem adz : ai V 336 a7K := kk a8 (by kernel_rfl)
theorem ady : ai V 325 a7J := kk (a7 adz a8) (by kernel_rfl)
theorem adx : ai V 319 a7I := kk (a7 ady a8) (by kernel_rfl)
theorem adu : ai V 309 a7F := kk (a7 adx a8) (by kernel_rfl)
theorem ad4 : ai V 314 a7h := kk a8 (by kernel_rfl)
theorem adv : ai V 310 a7G := kk (a7 ad4 a8) (by kernel_rfl)
theorem adm : ai V 288 a7x := kk (a7 adu (a7 adv a8)) (by kernel_rfl)
theorem adn : ai V 289 a7y := kk a8 (by kernel_rfl)
theorem a1K : ai V 248 a2P := kk (a7 adm (a7 adn a8)) (by kernel_rfl)
theorem a1A : ai V 179 a2F := kk (a7 acB (a7 acK (a7 a1K a8))) (by kernel_rfl)
theorem acd : ai V 132 a6l := kk (a7 uY (a7 a1A a8)) (by kernel_rfl)
theorem uS : ai V 137 xz := kk (a7 pg (a7 v7 (a7 v8 a8))) (by kernel_rfl)
theorem a1B : ai V 181 a2G := kk a8 (by kernel_rfl)
theorem a1C : ai V 182 a2H := kk a8 (by kernel_rfl)
theorem acC : ai V 183 a6I := kk a8 (by kernel_rfl)
theorem ace : ai V 133 a6m := kk (a7 uS (a7 a1B (a7 a1C (a7 acC a8)))) (by kernel_rfl)
theorem a1D : ai V 184 a2I := kk (a7 a1B a8) (by kernel_rfl)
theorem acD : ai V 185 a6J := kk (a7 uK a8) (by kernel_rfl)
theorem acF : ai V 188 a6L := kk (a7 uZ a8) (by kernel_rfl)
theorem acf : ai V 134 a6n := kk (a7 a1D (a7 acD (a7 uZ (a7 acF a8)))) (by kernel_rfl)
theorem a1m : ai V 88 a2r := kk a8 (by kernel_rfl)
theorem a1E : ai V 195 a2J := kk (a7 pd (a7 a1m a8)) (by kernel_rfl)
theorem ad6 : ai V 251 a7j := kk a8 (by kernel_rfl)
theorem acG : ai V 192 a6M := kk (a7 a1C (a7 a1D (a7 a1E (a7 ad6 a8)))) (by kernel_rfl)
theorem acH : ai V 193 a6N := kk (a7 uY (a7 a1K a8)) (by kernel_rfl)
theorem acI : ai V 194 a6O := kk a8 (by kernel_rfl)
theorem acg : ai V 135 a6o := kk (a7 acG (a7 acH (a7 acI (a7 a1E a8)))) (by kernel_rfl)
theorem acJ : ai V 196 a6P := kk a8 (by kernel_rfl)
theorem ach : ai V 136 a6p := kk (a7 uS (a7 uY (a7 a1A (a7 acJ a8)))) (by kernel_rfl)
theorem aci : ai V 138 a6q := kk (a7 a1F a8) (by kernel_rfl)
theorem a1r : ai V 99 a2w := kk (a7 acd (a7 ace (a7 acf (a7 acg (a7 ach (a7 uS (a7 aci a8))))))) (by kernel_rfl)
theorem ac1 : ai V 100 a6a := kk a8 (by kernel_rfl)
theorem abN : ai V 58 a5S := kk (a7 iL (a7 a1r (a7 ac1 a8))) (by kernel_rfl)
theorem uG : ai V 31 wZ := kk (a7 abN a8) (by kernel_rfl)
theorem a10 : ai V 31 x6 := av uG (aO uG) a4d
theorem uH : ai V 31 xk := av a10 (aO uG) a0k
theorem ma : ai V 32 ou := kk (a7 a1j (a7 uK a8)) (by kernel_rfl)
theorem abQ : ai V 79 xq := kk a8 (by kernel_rfl)
theorem abR : ai V 80 a5V := kk a8 (by kernel_rfl)
theorem a1k : ai V 81 a2p := kk a8 (by kernel_rfl)
theorem pf : ai V 122 sI := kk (a7 a1k a8) (by kernel_rfl)
theorem acj : ai V 147 a6r := kk a8 (by kernel_rfl)
theorem ad3 : ai V 247 a7g := kk a8 (by kernel_rfl)
theorem uX : ai V 176 xE := kk (a7 ad3 a8) (by kernel_rfl)
theorem ack : ai V 148 a6s := kk (a7 uX a8) (by kernel_rfl)
theorem uQ : ai V 116 xw := kk (a7 pf (a7 acj (a7 ack a8))) (by kernel_rfl)
theorem mb : ai V 63 ow := kk a8 (by kernel_rfl)
theorem uT : ai V 149 xA := kk a8 (by kernel_rfl)
theorem uR : ai V 130 xy := kk (a7 uT (a7 uX a8)) (by kernel_rfl)
theorem ac3 : ai V 117 a6c := kk (a7 mb (a7 uR (a7 uT a8))) (by kernel_rfl)
theorem abS : ai V 82 a5W := kk (a7 uQ (a7 ac3 a8)) (by kernel_rfl)
theorem abv : pQ V 79 xq := a4s (C := a0b) (vs := vs) (wu gF (glk rfl) mo a8 mZ) (by kernel_rfl) (by kernel_rfl)
theorem uI : ai V 51 xl := a4q (C := a09) (vs := vs) (wu gF (glk rfl) mo (a7 abQ (a7 abR (a7 a1k (a7 abS a8)))) mZ) (by kernel_rfl) abv (fun q h => dfq (n := 79) (by kernel_rfl) h)
theorem uN : ai V 83 xr := kk a8 (by kernel_rfl)
theorem a1l : ai V 85 a2q := kk a8 (by kernel_rfl)
theorem a1s : ai V 119 a2x := kk (a7 uV (a7 a1w (a7 a1x a8))) (by kernel_rfl)
theorem uO : ai V 86 xt := kk (a7 a1m (a7 a1s a8)) (by kernel_rfl)
theorem ac6 : ai V 121 a6f := kk a8 (by kernel_rfl)
theorem abT : ai V 89 a5X := kk (a7 ac6 a8) (by kernel_rfl)
theorem abH : ai V 52 a5M := kk (a7 uN (a7 iL (a7 a1l (a7 uO (a7 abT a8))))) (by kernel_rfl)
theorem abI : ai V 53 a5N := kk (a7 iL a8) (by kernel_rfl)
theorem a1d : ai V 29 a2i := kk (a7 uH (a7 ma (a7 uI (a7 abH (a7 abI a8))))) (by kernel_rfl)
theorem uP : ai V 96 xv := kk (a7 iL a8) (by kernel_rfl)
theorem acA : ai V 175 a6G := kk a8 (by kernel_rfl)
theorem acz : ai V 174 a6F := kk (a7 acA a8) (by kernel_rfl)
theorem acb : ai V 129 a6k := kk (a7 uW (a7 acz a8)) (by kernel_rfl)
theorem a1q : ai V 97 a2v := kk (a7 uO (a7 uP (a7 acb a8))) (by kernel_rfl)
theorem a1z : ai V 177 a2E := kk (a7 uT (a7 uX a8)) (by kernel_rfl)
theorem a1v : ai V 131 a2A := kk (a7 a1z a8) (by kernel_rfl)
theorem abW : ai V 98 a61 := kk (a7 uN (a7 a1l (a7 uR (a7 a1v a8)))) (by kernel_rfl)
theorem uJ : ai V 57 xm := kk (a7 uN (a7 iL (a7 uP (a7 a1q (a7 abW a8))))) (by kernel_rfl)
theorem acQ : ai V 218 a6W := kk a8 (by kernel_rfl)
theorem acR : ai V 219 a6X := kk a8 (by kernel_rfl)
theorem acS : ai V 220 a6Y := kk a8 (by kernel_rfl)
theorem acp : ai V 158 a6w := kk (a7 acQ (a7 acR (a7 acS a8))) (by kernel_rfl)
theorem a1t : ai V 123 a2y := kk (a7 acp a8) (by kernel_rfl)
theorem acq : ai V 159 a6x := kk a8 (by kernel_rfl)
theorem ac7 : ai V 124 a6g := kk (a7 acq a8) (by kernel_rfl)
theorem cg : ai V 90 dz := kk (a7 uH (a7 ma (a7 uI (a7 uJ (a7 pf (a7 a1t (a7 ac7 a8))))))) (by kernel_rfl)
theorem a14 : ai V 90 x9 := av cg (aO cg) a4g
theorem a15 : ai V 90 xe := av a14 (aO cg) a4h
theorem a16 : ai V 90 xg := av a15 (aO cg) a4i
theorem a18 : ai V 90 xh := av a16 (aO cg) a4j
theorem yV : ai V 90 su := av a18 (aO cg) a0w
theorem yW : ai V 90 sw := av yV (aO cg) a0x
theorem yX : ai V 90 sx := av yW (aO cg) a0y
theorem yY : ai V 90 sy := av yX (aO cg) a0z
theorem yZ : ai V 90 sA := av yY (aO cg) a0A
theorem z6 : ai V 90 sC := av yZ (aO cg) a0B
theorem z7 : ai V 90 sD := av z6 (aO cg) a0C
theorem z8 : ai V 90 sE := av z7 (aO cg) a0D
theorem zb : ai V 90 sF := av z8 (aO cg) a0E
theorem mc : ai V 90 ox := av zb (aO cg) a0F
theorem a1n : ai V 91 a2s := kk (a7 a1t a8) (by kernel_rfl)
theorem a1e : ai V 54 a2j := kk (a7 mc (a7 a1n a8)) (by kernel_rfl)
theorem abU : ai V 94 a5Y := kk (a7 a1n a8) (by kernel_rfl)
theorem a1o : ai V 92 a2t := kk (a7 mc a8) (by kernel_rfl)
theorem uL : ai V 64 xo := kk a8 (by kernel_rfl)
theorem uM : ai V 65 xp := kk a8 (by kernel_rfl)
theorem ac8 : ai V 125 a6h := kk (a7 mb (a7 uL (a7 uM a8))) (by kernel_rfl)
theorem a1p : ai V 93 a2u := kk (a7 uJ (a7 ac8 a8)) (by kernel_rfl)
theorem a1u : ai V 126 a2z := kk a8 (by kernel_rfl)
theorem acr : ai V 160 a6y := kk (a7 mb (a7 uL (a7 uM (a7 uP (a7 a1q (a7 a1s a8)))))) (by kernel_rfl)
theorem a1J : ai V 228 a2O := kk (a7 pd a8) (by kernel_rfl)
theorem mf : ai V 221 oz := kk (a7 a1J a8) (by kernel_rfl)
theorem acs : ai V 161 a6z := kk (a7 mf a8) (by kernel_rfl)
theorem a1I : ai V 223 a2N := kk (a7 mf a8) (by kernel_rfl)
theorem acU : ai V 224 a71 := kk (a7 uI a8) (by kernel_rfl)
theorem acV : ai V 225 a73 := kk (a7 mf a8) (by kernel_rfl)
theorem acu : ai V 162 a6A := kk (a7 mf (a7 a1I (a7 acU (a7 acV a8)))) (by kernel_rfl)
theorem acT : ai V 222 a6Z := kk (a7 mf a8) (by kernel_rfl)
theorem acW : ai V 227 a74 := kk (a7 uQ (a7 a1I a8)) (by kernel_rfl)
theorem acX : ai V 229 a7a := kk a8 (by kernel_rfl)
theorem acv : ai V 163 a6B := kk (a7 acT (a7 acW (a7 a1J (a7 acX a8)))) (by kernel_rfl)
theorem acw : ai V 164 a6C := kk a8 (by kernel_rfl)
theorem ac9 : ai V 127 a6i := kk (a7 mc (a7 a1u (a7 acr (a7 acs (a7 acu (a7 acv (a7 acw a8))))))) (by kernel_rfl)
theorem a1y : ai V 168 a2D := kk a8 (by kernel_rfl)
theorem adk : ai V 283 a7v := kk (a7 mb (a7 a1z a8)) (by kernel_rfl)
theorem adi : ai V 272 a7t := kk (a7 adk a8) (by kernel_rfl)
theorem a1L : ai V 276 a2Q := kk a8 (by kernel_rfl)
theorem acY : ai V 235 a7b := kk (a7 uQ (a7 pf (a7 adi (a7 a1L a8)))) (by kernel_rfl)
theorem ads : ai V 303 a7D := kk (a7 pf a8) (by kernel_rfl)
theorem adt : ai V 304 a7E := kk (a7 uR (a7 ads a8)) (by kernel_rfl)
theorem adj : ai V 277 a7u := kk (a7 a1v (a7 a1L (a7 adt a8))) (by kernel_rfl)
theorem acZ : ai V 237 a7c := kk (a7 a1y (a7 adj a8)) (by kernel_rfl)
theorem acx : ai V 165 a6D := kk (a7 a1y (a7 acY (a7 acZ a8))) (by kernel_rfl)
theorem ad0 : ai V 240 a7d := kk a8 (by kernel_rfl)
theorem adl : ai V 287 a7w := kk (a7 iL (a7 uO a8)) (by kernel_rfl)
theorem ad1 : ai V 245 a7e := kk (a7 pd (a7 adl a8)) (by kernel_rfl)
theorem acy : ai V 172 a6E := kk (a7 ad0 (a7 ad1 a8)) (by kernel_rfl)
theorem aca : ai V 128 a6j := kk (a7 acx (a7 acy a8)) (by kernel_rfl)
theorem abV : ai V 95 a5Z := kk (a7 a1o (a7 a1p (a7 a1u (a7 ac9 (a7 aca a8))))) (by kernel_rfl)
theorem cz : ai V 56 ed := kk (a7 ma (a7 a1e (a7 mc (a7 abU (a7 abV a8))))) (by kernel_rfl)
theorem a11 : ai V 56 x7 := av cz (aO cz) a4e
theorem a13 : ai V 56 x8 := av a11 (aO cz) a4f
theorem yL : ai V 56 se := av a13 (aO cz) a0l
theorem yM : ai V 56 sf := av yL (aO cz) a0m
theorem yN : ai V 56 sg := av yM (aO cz) a0n
theorem yO : ai V 56 si := av yN (aO cz) a0o
theorem yP : ai V 56 sj := av yO (aO cz) a0p
theorem yQ : ai V 56 sn := av yP (aO cz) a0q
theorem yR : ai V 56 so := av yQ (aO cz) a0r
theorem yS : ai V 56 sq := av yR (aO cz) a0s
theorem yT : ai V 56 sr := av yS (aO cz) a0t
theorem yU : ai V 56 ss := av yT (aO cz) a0u
theorem a1f : ai V 56 a2k := av yU (aO cz) a0v
theorem abP : ai V 62 a5U := kk (a7 mc a8) (by kernel_rfl)
theorem abG : ai V 33 a5L := kk (a7 ma (a7 a1f (a7 abP (a7 mb (a7 uL (a7 uM a8)))))) (by kernel_rfl)
theorem a1c : ai V 13 a2h := kk (a7 a1d (a7 uH (a7 ma (a7 abG a8)))) (by kernel_rfl)
theorem abJ : ai V 55 a5O := kk (a7 a1o (a7 a1p a8)) (by kernel_rfl)
theorem abA : ai V 30 a5F := kk (a7 a1e (a7 abJ (a7 a1f (a7 uJ a8)))) (by kernel_rfl)
theorem uF : ai V 12 wY := kk (a7 a1c (a7 a1d (a7 abA a8))) (by kernel_rfl)
theorem yK : ai V 12 sd := av uF (aO uF) a0i
theorem a1b : ai V 12 a2g := av yK (aO uF) a0j
theorem a1h : ai V 139 a2m := kk a8 (by kernel_rfl)
theorem a1i : ai V 140 a2n := h140 rfl
theorem abC : ai V 103 a5H := kk (a7 kr37 (a7 kr25 (a7 a1h (a7 a1i a8)))) (by kernel_rfl)
theorem abD : ai V 104 a5I := kk a8 (by kernel_rfl)
theorem abY : ai V 207 a65 := kk a8 (by kernel_rfl)
theorem abZ : ai V 208 a68 := kk a8 (by kernel_rfl)
theorem ac0 : ai V 209 a69 := kk a8 (by kernel_rfl)
theorem abM : ai V 143 a5R := kk (a7 iL (a7 a1r (a7 abY (a7 abZ (a7 ac0 a8))))) (by kernel_rfl)
theorem abE : ai V 105 a5J := kk (a7 abM a8) (by kernel_rfl)
theorem abF : ai V 106 a5K := kk (a7 a1h (a7 a1i a8)) (by kernel_rfl)
theorem abz : ai V 67 a5E := kk (a7 abC (a7 abD (a7 abE (a7 abF a8)))) (by kernel_rfl)
theorem a0Z : ai V 34 a2f := kk (a7 abz a8) (by kernel_rfl)
theorem aby : ai V 34 a5D := av a0Z (aO a0Z) a4c
theorem kr39 : ai V 35 r39 := kk a8 (by kernel_rfl)
theorem abx : ai V 14 a5C := kk (a7 kr9 (a7 a1b (a7 aby (a7 kr39 a8)))) (by kernel_rfl)
theorem adA : ai V 3 a7L := kk (a7 adB (a7 adC (a7 adD (a7 adE (a7 kr9 (a7 mg (a7 kr11 (a7 kr7 (a7 a1b (a7 a1c (a7 abx a8))))))))))) (by kernel_rfl)
end Go.Proofs.YtdlohaedegmiaaaGreatDoor.Tz
