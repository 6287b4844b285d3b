import Derived.Test.YtlffjnddiiojnaaGreatDoorEvJ
import Derived.Test.YtlffjnddiiojnaaGreatDoorEvX57N0
import Derived.Test.YtlffjnddiiojnaaGreatDoorEvX57N1
import Derived.Test.YtlffjnddiiojnaaGreatDoorEvX57N2
import Derived.Test.YtlffjnddiiojnaaGreatDoorEvX57N3
import Derived.Test.YtlffjnddiiojnaaGreatDoorEvX57N4
import Derived.Test.YtlffjnddiiojnaaGreatDoorEvX57N5
import Derived.Test.YtlffjnddiiojnaaGreatDoorEvX57N6
import Derived.Test.YtlffjnddiiojnaaGreatDoorEvX57N7
import Derived.Test.YtlffjnddiiojnaaGreatDoorEvX57N8
import Derived.Test.YtlffjnddiiojnaaGreatDoorEvX30N0
import Derived.Test.YtlffjnddiiojnaaGreatDoorEvX30N1
import Derived.Test.YtlffjnddiiojnaaGreatDoorEvX30N2
import Derived.Test.YtlffjnddiiojnaaGreatDoorEvX30N3
import Derived.Test.YtlffjnddiiojnaaGreatDoorEvX30N4
import Derived.Test.YtlffjnddiiojnaaGreatDoorEvX30N5
import Derived.Test.YtlffjnddiiojnaaGreatDoorEvX30N6
import Derived.Test.YtlffjnddiiojnaaGreatDoorEvX30N7
import Derived.Test.YtlffjnddiiojnaaGreatDoorEvX30N8
import Derived.Test.YtlffjnddiiojnaaGreatDoorEvX30N9
import Derived.Test.YtlffjnddiiojnaaGreatDoorEvX30N10
import Derived.Test.YtlffjnddiiojnaaGreatDoorEvX30N11
import Derived.Test.YtlffjnddiiojnaaGreatDoorEvXrN0
import Derived.Test.YtlffjnddiiojnaaGreatDoorEvXrN1
import Derived.Test.YtlffjnddiiojnaaGreatDoorEvXrN2
import Derived.Test.YtlffjnddiiojnaaGreatDoorEvXrN3
import Derived.Test.YtlffjnddiiojnaaGreatDoorEvXrN4
import Derived.Test.YtlffjnddiiojnaaGreatDoorEvXrN5
/- The functions are sound. -/
open Go Go.Proofs.YtlffjnddiiojnaaGreatDoor.Ev
namespace Go.Proofs.YtlffjnddiiojnaaGreatDoor.Tz
noncomputable def varsOf (_ : Nat) : List Nat := []
noncomputable def vs : Vs := ⟨varsOf, 11, GW 4 2, fun _ _ h hk => h.keep (by decide) (by decide) (by decide) hk⟩
noncomputable def V : Env := ⟨Go.Proofs.Tryz.prog, vs⟩
theorem mo : (Go.Proofs.Tryz.prog).follows .mixedOrders = true := by kernel_rfl
theorem glk {C : Cx} (hg : C.gl = gls) : GlOk C vs := glk_of rfl (by decide) hg
theorem kr12 : FnOk V 12 r12 := fnS_ok (C := cr12) (vs := vs) mem_ok (glk rfl) mo fn_nil yl_nil (by kernel_rfl) (.inl (by kernel_rfl))
theorem kr14 : FnOk V 14 r14 := fnS_ok (C := cr14) (vs := vs) mem_ok (glk rfl) mo (fn_cons kr12 fn_nil) yl_nil (by kernel_rfl) (.inl (by kernel_rfl))
theorem kr36 : FnOk V 36 r36 := fnS_ok (C := cr36) (vs := vs) mem_ok (glk rfl) mo fn_nil yl_nil (by kernel_rfl) (.inl (by kernel_rfl))
theorem kr15 : FnOk V 15 r15 := fnS_ok (C := cr15) (vs := vs) mem_ok (glk rfl) mo (fn_cons kr36 fn_nil) yl_nil (by kernel_rfl) (.inl (by kernel_rfl))
theorem kr16 : FnOk V 16 r16 := fnS_ok (C := cr16) (vs := vs) mem_ok (glk rfl) mo (fn_cons kr12 (fn_cons kr14 (fn_cons kr15 fn_nil))) yl_nil (by kernel_rfl) (.inl (by kernel_rfl))
theorem kr56 : FnOk V 56 r56 := fnS_ok (C := cr56) (vs := vs) mem_ok (glk rfl) mo fn_nil yl_nil (by kernel_rfl) (.inl (by kernel_rfl))
theorem kr23 : FnOk V 23 r23 := fnS_ok (C := cr23) (vs := vs) mem_ok (glk rfl) mo (fn_cons kr56 fn_nil) yl_nil (by kernel_rfl) (.inl (by kernel_rfl))
theorem kr260 : FnOk V 260 r260 := fnS_ok (C := cr260) (vs := vs) mem_ok (glk rfl) mo fn_nil yl_nil (by kernel_rfl) (.inl (by kernel_rfl))
theorem kr171 : FnOk V 171 r171 := fnS_ok (C := cr171) (vs := vs) mem_ok (glk rfl) mo (fn_cons kr260 fn_nil) yl_nil (by kernel_rfl) (.inl (by kernel_rfl))
theorem kr172 : FnOk V 172 r172 := fnS_ok (C := cr172) (vs := vs) mem_ok (glk rfl) mo (fn_cons kr171 fn_nil) yl_nil (by kernel_rfl) (.inl (by kernel_rfl))
theorem kr168 : FnOk V 168 r168 := fnS_ok (C := cr168) (vs := vs) mem_ok (glk rfl) mo (fn_cons kr172 fn_nil) yl_nil (by kernel_rfl) (.inl (by kernel_rfl))
theorem kr259 : FnOk V 259 r259 := fnS_ok (C := cr259) (vs := vs) mem_ok (glk rfl) mo fn_nil yl_nil (by kernel_rfl) (.inl (by kernel_rfl))
theorem kr169_1 : FnOk V 169 r169_1 := fnS_ok (C := cr169_1) (vs := vs) mem_ok (glk rfl) mo (fn_cons kr259 fn_nil) yl_nil (by kernel_rfl) (.inl (by kernel_rfl))
theorem kr169_2 : FnOk V 169 r169_2 := fnS_ok (C := cr169_2) (vs := vs) mem_ok (glk rfl) mo (fn_cons kr259 (fn_cons kr169_1 fn_nil)) yl_nil (by kernel_rfl) (.inl (by kernel_rfl))
theorem kr169_3 : FnOk V 169 r169_3 := fnS_ok (C := cr169_3) (vs := vs) mem_ok (glk rfl) mo (fn_cons kr259 (fn_cons kr169_2 fn_nil)) yl_nil (by kernel_rfl) (.inl (by kernel_rfl))
theorem kr169_4 : FnOk V 169 r169_4 := fnS_ok (C := cr169_4) (vs := vs) mem_ok (glk rfl) mo (fn_cons kr259 (fn_cons kr169_3 fn_nil)) yl_nil (by kernel_rfl) (.inl (by kernel_rfl))
theorem kr102 : FnOk V 102 r102 := fnS_ok (C := cr102) (vs := vs) mem_ok (glk rfl) mo (fn_cons kr168 (fn_cons kr169_4 fn_nil)) yl_nil (by kernel_rfl) (.inl (by kernel_rfl))
theorem kr184 : FnOk V 184 r184 := fnS_ok (C := cr184) (vs := vs) mem_ok (glk rfl) mo fn_nil yl_nil (by kernel_rfl) (.inl (by kernel_rfl))
theorem kr170 : FnOk V 170 r170 := fnS_ok (C := cr170) (vs := vs) mem_ok (glk rfl) mo (fn_cons kr184 fn_nil) yl_nil (by kernel_rfl) (.inl (by kernel_rfl))
theorem kr103 : FnOk V 103 r103 := fnS_ok (C := cr103) (vs := vs) mem_ok (glk rfl) mo (fn_cons kr170 fn_nil) yl_nil (by kernel_rfl) (.inl (by kernel_rfl))
theorem kr120 : FnOk V 120 r120 := fnS_ok (C := cr120) (vs := vs) mem_ok (glk rfl) mo fn_nil yl_nil (by kernel_rfl) (.inl (by kernel_rfl))
theorem kr121 : FnOk V 121 r121 := fnS_ok (C := cr121) (vs := vs) mem_ok (glk rfl) mo fn_nil yl_nil (by kernel_rfl) (.inl (by kernel_rfl))
theorem kr175 : FnOk V 175 r175 := fnS_ok (C := cr175) (vs := vs) mem_ok (glk rfl) mo fn_nil yl_nil (by kernel_rfl) (.inl (by kernel_rfl))
theorem kr112 : FnOk V 112 r112 := fnS_ok (C := cr112) (vs := vs) mem_ok (glk rfl) mo (fn_cons kr120 (fn_cons kr121 (fn_cons kr175 fn_nil))) yl_nil (by kernel_rfl) (.inl (by kernel_rfl))
theorem kr173 : FnOk V 173 r173 := fnS_ok (C := cr173) (vs := vs) mem_ok (glk rfl) mo fn_nil yl_nil (by kernel_rfl) (.inl (by kernel_rfl))
theorem kr104 : FnOk V 104 r104 := fnS_ok (C := cr104) (vs := vs) mem_ok (glk rfl) mo (fn_cons kr112 (fn_cons kr171 (fn_cons kr172 (fn_cons kr173 fn_nil)))) yl_nil (by kernel_rfl) (.inl (by kernel_rfl))
theorem kr65 : FnOk V 65 r65 := fnS_ok (C := cr65) (vs := vs) mem_ok (glk rfl) mo (fn_cons kr102 (fn_cons kr103 (fn_cons kr104 fn_nil))) yl_nil (by kernel_rfl) (.inl (by kernel_rfl))
theorem kr108 : FnOk V 108 r108 := fnS_ok (C := cr108) (vs := vs) mem_ok (glk rfl) mo fn_nil yl_nil (by kernel_rfl) (.inl (by kernel_rfl))
theorem kr105 : FnOk V 105 r105 := fnS_ok (C := cr105) (vs := vs) mem_ok (glk rfl) mo (fn_cons kr108 fn_nil) yl_nil (by kernel_rfl) (.inl (by kernel_rfl))
theorem kr107 : FnOk V 107 r107 := fnS_ok (C := cr107) (vs := vs) mem_ok (glk rfl) mo (fn_cons kr108 fn_nil) yl_nil (by kernel_rfl) (.inl (by kernel_rfl))
theorem kr106 : FnOk V 106 r106 := fnS_ok (C := cr106) (vs := vs) mem_ok (glk rfl) mo (fn_cons kr105 (fn_cons kr107 fn_nil)) yl_nil (by kernel_rfl) (.inl (by kernel_rfl))
theorem kr109 : FnOk V 109 r109 := fnS_ok (C := cr109) (vs := vs) mem_ok (glk rfl) mo fn_nil yl_nil (by kernel_rfl) (.inl (by kernel_rfl))
theorem kr174 : FnOk V 174 r174 := fnS_ok (C := cr174) (vs := vs) mem_ok (glk rfl) mo fn_nil yl_nil (by kernel_rfl) (.inl (by kernel_rfl))
theorem kr110 : FnOk V 110 r110 := fnS_ok (C := cr110) (vs := vs) mem_ok (glk rfl) mo (fn_cons kr108 (fn_cons kr109 (fn_cons kr120 (fn_cons kr121 (fn_cons kr174 fn_nil))))) yl_nil (by kernel_rfl) (.inl (by kernel_rfl))
theorem kr111 : FnOk V 111 r111 := fnS_ok (C := cr111) (vs := vs) mem_ok (glk rfl) mo (fn_cons kr108 fn_nil) yl_nil (by kernel_rfl) (.inl (by kernel_rfl))
theorem kr66 : FnOk V 66 r66 := fnS_ok (C := cr66) (vs := vs) mem_ok (glk rfl) mo (fn_cons kr105 (fn_cons kr106 (fn_cons kr107 (fn_cons kr108 (fn_cons kr109 (fn_cons kr110 (fn_cons kr111 fn_nil))))))) yl_nil (by kernel_rfl) (.inl (by kernel_rfl))
theorem kr37 : FnOk V 37 r37 := fnS_ok (C := cr37) (vs := vs) mem_ok (glk rfl) mo (fn_cons kr65 (fn_cons kr66 fn_nil)) yl_nil (by kernel_rfl) (.inl (by kernel_rfl))
theorem kr67 : FnOk V 67 r67 := fnS_ok (C := cr67) (vs := vs) mem_ok (glk rfl) mo (fn_cons kr112 fn_nil) yl_nil (by kernel_rfl) (.inl (by kernel_rfl))
theorem kr113 : FnOk V 113 r113 := fnS_ok (C := cr113) (vs := vs) mem_ok (glk rfl) mo fn_nil yl_nil (by kernel_rfl) (.inl (by kernel_rfl))
theorem kr68 : FnOk V 68 r68 := fnS_ok (C := cr68) (vs := vs) mem_ok (glk rfl) mo (fn_cons kr113 fn_nil) yl_nil (by kernel_rfl) (.inl (by kernel_rfl))
theorem kr72 : FnOk V 72 r72 := fnS_ok (C := cr72) (vs := vs) mem_ok (glk rfl) mo (fn_cons kr120 (fn_cons kr121 fn_nil)) yl_nil (by kernel_rfl) (.inl (by kernel_rfl))
theorem kr176 : FnOk V 176 r176 := fnS_ok (C := cr176) (vs := vs) mem_ok (glk rfl) mo fn_nil yl_nil (by kernel_rfl) (.inl (by kernel_rfl))
theorem kr114 : FnOk V 114 r114 := fnS_ok (C := cr114) (vs := vs) mem_ok (glk rfl) mo (fn_cons kr72 (fn_cons kr176 fn_nil)) yl_nil (by kernel_rfl) (.inl (by kernel_rfl))
theorem kr177 : FnOk V 177 r177 := fnS_ok (C := cr177) (vs := vs) mem_ok (glk rfl) mo fn_nil yl_nil (by kernel_rfl) (.inl (by kernel_rfl))
theorem kr178 : FnOk V 178 r178 := fnS_ok (C := cr178) (vs := vs) mem_ok (glk rfl) mo fn_nil yl_nil (by kernel_rfl) (.inl (by kernel_rfl))
theorem kr115 : FnOk V 115 r115 := fnS_ok (C := cr115) (vs := vs) mem_ok (glk rfl) mo (fn_cons kr177 (fn_cons kr178 fn_nil)) yl_nil (by kernel_rfl) (.inl (by kernel_rfl))
theorem kr69 : FnOk V 69 r69 := fnS_ok (C := cr69) (vs := vs) mem_ok (glk rfl) mo (fn_cons kr114 (fn_cons kr115 fn_nil)) yl_nil (by kernel_rfl) (.inl (by kernel_rfl))
theorem kr122 : FnOk V 122 r122 := fnS_ok (C := cr122) (vs := vs) mem_ok (glk rfl) mo (fn_cons kr184 fn_nil) yl_nil (by kernel_rfl) (.inl (by kernel_rfl))
theorem kr73 : FnOk V 73 r73 := fnS_ok (C := cr73) (vs := vs) mem_ok (glk rfl) mo (fn_cons kr103 (fn_cons kr122 fn_nil)) yl_nil (by kernel_rfl) (.inl (by kernel_rfl))
theorem kr117 : FnOk V 117 r117 := fnS_ok (C := cr117) (vs := vs) mem_ok (glk rfl) mo fn_nil yl_nil (by kernel_rfl) (.inl (by kernel_rfl))
theorem kr183 : FnOk V 183 r183 := fnS_ok (C := cr183) (vs := vs) mem_ok (glk rfl) mo (fn_cons kr176 (fn_cons kr177 fn_nil)) yl_nil (by kernel_rfl) (.inl (by kernel_rfl))
theorem kr116 : FnOk V 116 r116 := fnS_ok (C := cr116) (vs := vs) mem_ok (glk rfl) mo (fn_cons kr73 (fn_cons kr117 (fn_cons kr183 fn_nil))) yl_nil (by kernel_rfl) (.inl (by kernel_rfl))
theorem kr70 : FnOk V 70 r70 := fnS_ok (C := cr70) (vs := vs) mem_ok (glk rfl) mo (fn_cons kr113 (fn_cons kr116 (fn_cons kr117 fn_nil))) yl_nil (by kernel_rfl) (.inl (by kernel_rfl))
theorem kr118 : FnOk V 118 r118 := fnS_ok (C := cr118) (vs := vs) mem_ok (glk rfl) mo fn_nil yl_nil (by kernel_rfl) (.inl (by kernel_rfl))
theorem kr119 : FnOk V 119 r119 := fnS_ok (C := cr119) (vs := vs) mem_ok (glk rfl) mo (fn_cons kr72 fn_nil) yl_nil (by kernel_rfl) (.inl (by kernel_rfl))
theorem kr71 : FnOk V 71 r71 := fnS_ok (C := cr71) (vs := vs) mem_ok (glk rfl) mo (fn_cons kr68 (fn_cons kr113 (fn_cons kr118 (fn_cons kr119 fn_nil)))) yl_nil (by kernel_rfl) (.inl (by kernel_rfl))
theorem kr38 : FnOk V 38 r38 := fnS_ok (C := cr38) (vs := vs) mem_ok (glk rfl) mo (fn_cons kr67 (fn_cons kr68 (fn_cons kr69 (fn_cons kr70 (fn_cons kr71 (fn_cons kr72 fn_nil)))))) yl_nil (by kernel_rfl) (.inl (by kernel_rfl))
theorem kr39 : FnOk V 39 r39 := fnS_ok (C := cr39) (vs := vs) mem_ok (glk rfl) mo (fn_cons kr23 (fn_cons kr36 (fn_cons kr70 (fn_cons kr71 (fn_cons kr73 fn_nil))))) yl_nil (by kernel_rfl) (.inl (by kernel_rfl))
theorem kr99 : FnOk V 99 r99 := fnS_ok (C := cr99) (vs := vs) mem_ok (glk rfl) mo fn_nil yl_nil (by kernel_rfl) (.inl (by kernel_rfl))
theorem kr100 : FnOk V 100 r100 := fnS_ok (C := cr100) (vs := vs) mem_ok (glk rfl) mo fn_nil yl_nil (by kernel_rfl) (.inl (by kernel_rfl))
theorem kr101 : FnOk V 101 r101 := fnS_ok (C := cr101) (vs := vs) mem_ok (glk rfl) mo fn_nil yl_nil (by kernel_rfl) (.inl (by kernel_rfl))
theorem kr64 : FnOk V 64 r64 := fnS_ok (C := cr64) (vs := vs) mem_ok (glk rfl) mo (fn_cons kr99 (fn_cons kr100 (fn_cons kr101 fn_nil))) yl_nil (by kernel_rfl) (.inl (by kernel_rfl))
theorem kr123 : FnOk V 123 r123 := fnS_ok (C := cr123) (vs := vs) mem_ok (glk rfl) mo (fn_cons kr38 (fn_cons kr39 (fn_cons kr64 fn_nil))) yl_nil (by kernel_rfl) (.inl (by kernel_rfl))
theorem kr74 : FnOk V 74 r74 := fnS_ok (C := cr74) (vs := vs) mem_ok (glk rfl) mo (fn_cons kr37 (fn_cons kr123 fn_nil)) yl_nil (by kernel_rfl) (.inl (by kernel_rfl))
theorem kr40 : FnOk V 40 r40 := fnS_ok (C := cr40) (vs := vs) mem_ok (glk rfl) mo (fn_cons kr74 fn_nil) yl_nil (by kernel_rfl) (.inl (by kernel_rfl))
theorem kr17 : FnOk V 17 r17 := fnS_ok (C := cr17) (vs := vs) mem_ok (glk rfl) mo (fn_cons kr23 (fn_cons kr37 (fn_cons kr38 (fn_cons kr39 (fn_cons kr40 fn_nil))))) yl_nil (by kernel_rfl) (.inl (by kernel_rfl))
theorem kq4 : FnOk V 4 q4 := fnS_ok (C := cr4) (vs := vs) mem_ok (glk rfl) mo (fn_cons kr12 (fn_cons kr14 (fn_cons kr15 (fn_cons kr16 (fn_cons kr17 fn_nil))))) yl_nil (by kernel_rfl) (.inl (by kernel_rfl))
theorem kr4 : FnOk V 4 r4 := knownF_ok kq4 (cptF_ok kq4) e4_302
theorem kr271 : FnOk V 271 r271 := fnS_ok (C := cr271) (vs := vs) mem_ok (glk rfl) mo fn_nil yl_nil (by kernel_rfl) (.inl (by kernel_rfl))
theorem kr275 : FnOk V 275 r275 := fnS_ok (C := cr275) (vs := vs) mem_ok (glk rfl) mo fn_nil yl_nil (by kernel_rfl) (.inl (by kernel_rfl))
theorem kr42 : FnOk V 42 r42 := fnS_ok (C := cr42) (vs := vs) mem_ok (glk rfl) mo fn_nil yl_nil (by kernel_rfl) (.inl (by kernel_rfl))
theorem kr44 : FnOk V 44 r44 := fnS_ok (C := cr44) (vs := vs) mem_ok (glk rfl) mo (fn_cons kr42 fn_nil) yl_nil (by kernel_rfl) (.inl (by kernel_rfl))
theorem kr311 : FnOk V 311 r311 := fnS_ok (C := cr311) (vs := vs) mem_ok (glk rfl) mo fn_nil yl_nil (by kernel_rfl) (.inl (by kernel_rfl))
theorem kr262 : FnOk V 262 r262 := fnS_ok (C := cr262) (vs := vs) mem_ok (glk rfl) mo (fn_cons kr311 fn_nil) yl_nil (by kernel_rfl) (.inl (by kernel_rfl))
theorem kr194 : FnOk V 194 r194 := fnS_ok (C := cr194) (vs := vs) mem_ok (glk rfl) mo (fn_cons kr262 fn_nil) yl_nil (by kernel_rfl) (.inl (by kernel_rfl))
theorem kr193 : FnOk V 193 r193 := fnS_ok (C := cr193) (vs := vs) mem_ok (glk rfl) mo (fn_cons kr194 fn_nil) yl_nil (by kernel_rfl) (.inl (by kernel_rfl))
theorem kr315 : FnOk V 315 r315 := fnS_ok (C := cr315) (vs := vs) mem_ok (glk rfl) mo fn_nil yl_nil (by kernel_rfl) (.inl (by kernel_rfl))
theorem kr77 : FnOk V 77 r77 := fnS_ok (C := cr77) (vs := vs) mem_ok (glk rfl) mo (fn_cons kr44 (fn_cons kr193 (fn_cons kr315 fn_nil))) yl_nil (by kernel_rfl) (.inl (by kernel_rfl))
theorem kr43 : FnOk V 43 r43 := fnS_ok (C := cr43) (vs := vs) mem_ok (glk rfl) mo (fn_cons kr77 fn_nil) yl_nil (by kernel_rfl) (.inl (by kernel_rfl))
theorem kr276 : FnOk V 276 r276 := fnS_ok (C := cr276) (vs := vs) mem_ok (glk rfl) mo (fn_cons kr43 fn_nil) yl_nil (by kernel_rfl) (.inl (by kernel_rfl))
theorem kr216 : FnOk V 216 r216 := fnS_ok (C := cr216) (vs := vs) mem_ok (glk rfl) mo (fn_cons kr271 (fn_cons kr275 (fn_cons kr276 fn_nil))) yl_nil (by kernel_rfl) (.inl (by kernel_rfl))
theorem kr217 : FnOk V 217 r217 := fnS_ok (C := cr217) (vs := vs) mem_ok (glk rfl) mo fn_nil yl_nil (by kernel_rfl) (.inl (by kernel_rfl))
theorem kq140 : FnOk V 140 q140 := fnS_ok (C := cr140) (vs := vs) mem_ok (glk rfl) mo (fn_cons kr216 (fn_cons kr217 fn_nil)) yl_nil (by kernel_rfl) (.inl (by kernel_rfl))
theorem kq140_339 : FnOk V 140 q140_339 := knownF_ok kq140 (cptF_ok kq140) e140_339
theorem kr140 : FnOk V 140 r140 := knownF_ok kq140_339 (cptF_ok kq140) e140_340
theorem kr142 : FnOk V 142 r142 := fnS_ok (C := cr142) (vs := vs) mem_ok (glk rfl) mo fn_nil yl_nil (by kernel_rfl) (.inl (by kernel_rfl))
theorem kr141 : FnOk V 141 r141 := fnS_ok (C := cr141) (vs := vs) mem_ok (glk rfl) mo (fn_cons kr142 fn_nil) yl_nil (by kernel_rfl) (.inl (by kernel_rfl))
theorem kr82 : FnOk V 82 r82 := fnS_ok (C := cr82) (vs := vs) mem_ok (glk rfl) mo (fn_cons kr140 (fn_cons kr141 fn_nil)) yl_nil (by kernel_rfl) (.inl (by kernel_rfl))
theorem kr53 : FnOk V 53 r53 := fnS_ok (C := cr53) (vs := vs) mem_ok (glk rfl) mo (fn_cons kr82 fn_nil) yl_nil (by kernel_rfl) (.inl (by kernel_rfl))
theorem kr265 : FnOk V 265 r265 := fnS_ok (C := cr265) (vs := vs) mem_ok (glk rfl) mo fn_nil yl_nil (by kernel_rfl) (.inl (by kernel_rfl))
theorem kr266 : FnOk V 266 r266 := fnS_ok (C := cr266) (vs := vs) mem_ok (glk rfl) mo fn_nil yl_nil (by kernel_rfl) (.inl (by kernel_rfl))
theorem kr267 : FnOk V 267 r267 := fnS_ok (C := cr267) (vs := vs) mem_ok (glk rfl) mo fn_nil yl_nil (by kernel_rfl) (.inl (by kernel_rfl))
theorem kr268 : FnOk V 268 r268 := fnS_ok (C := cr268) (vs := vs) mem_ok (glk rfl) mo fn_nil yl_nil (by kernel_rfl) (.inl (by kernel_rfl))
theorem kr269 : FnOk V 269 r269 := fnS_ok (C := cr269) (vs := vs) mem_ok (glk rfl) mo fn_nil yl_nil (by kernel_rfl) (.inl (by kernel_rfl))
theorem kr206 : FnOk V 206 r206 := fnS_ok (C := cr206) (vs := vs) mem_ok (glk rfl) mo (fn_cons kr265 (fn_cons kr266 (fn_cons kr267 (fn_cons kr268 (fn_cons kr269 fn_nil))))) yl_nil (by kernel_rfl) (.inl (by kernel_rfl))
theorem kr207 : FnOk V 207 r207 := fnS_ok (C := cr207) (vs := vs) mem_ok (glk rfl) mo fn_nil yl_nil (by kernel_rfl) (.inl (by kernel_rfl))
theorem kr205 : FnOk V 205 r205 := fnS_ok (C := cr205) (vs := vs) mem_ok (glk rfl) mo (fn_cons kr206 (fn_cons kr207 fn_nil)) yl_nil (by kernel_rfl) (.inl (by kernel_rfl))
theorem kr313 : FnOk V 313 r313 := fnS_ok (C := cr313) (vs := vs) mem_ok (glk rfl) mo fn_nil yl_nil (by kernel_rfl) (.inl (by kernel_rfl))
theorem kr337 : FnOk V 337 r337 := fnS_ok (C := cr337) (vs := vs) mem_ok (glk rfl) mo (fn_cons kr313 fn_nil) yl_nil (by kernel_rfl) (.inl (by kernel_rfl))
theorem kr312 : FnOk V 312 r312 := fnS_ok (C := cr312) (vs := vs) mem_ok (glk rfl) mo (fn_cons kr337 fn_nil) yl_nil (by kernel_rfl) (.inl (by kernel_rfl))
theorem kr272 : FnOk V 272 r272 := fnS_ok (C := cr272) (vs := vs) mem_ok (glk rfl) mo (fn_cons kr271 (fn_cons kr312 fn_nil)) yl_nil (by kernel_rfl) (.inl (by kernel_rfl))
theorem kr208 : FnOk V 208 r208 := fnS_ok (C := cr208) (vs := vs) mem_ok (glk rfl) mo fn_nil yl_nil (by kernel_rfl) (.inl (by kernel_rfl))
theorem kr314 : FnOk V 314 r314 := fnS_ok (C := cr314) (vs := vs) mem_ok (glk rfl) mo fn_nil yl_nil (by kernel_rfl) (.inl (by kernel_rfl))
theorem kr273 : FnOk V 273 r273 := fnS_ok (C := cr273) (vs := vs) mem_ok (glk rfl) mo (fn_cons kr208 (fn_cons kr314 fn_nil)) yl_nil (by kernel_rfl) (.inl (by kernel_rfl))
theorem kr210 : FnOk V 210 r210 := fnS_ok (C := cr210) (vs := vs) mem_ok (glk rfl) mo (fn_cons kr205 (fn_cons kr271 (fn_cons kr272 (fn_cons kr273 fn_nil)))) yl_nil (by kernel_rfl) (.inl (by kernel_rfl))
theorem kr135 : FnOk V 135 r135 := fnS_ok (C := cr135) (vs := vs) mem_ok (glk rfl) mo (fn_cons kr53 (fn_cons kr140 (fn_cons kr210 fn_nil))) yl_nil (by kernel_rfl) (.inl (by kernel_rfl))
theorem kr274 : FnOk V 274 r274 := fnS_ok (C := cr274) (vs := vs) mem_ok (glk rfl) mo fn_nil yl_nil (by kernel_rfl) (.inl (by kernel_rfl))
theorem kr212 : FnOk V 212 r212 := fnS_ok (C := cr212) (vs := vs) mem_ok (glk rfl) mo (fn_cons kr274 fn_nil) yl_nil (by kernel_rfl) (.inl (by kernel_rfl))
theorem kr137 : FnOk V 137 r137 := fnS_ok (C := cr137) (vs := vs) mem_ok (glk rfl) mo (fn_cons kr212 fn_nil) yl_nil (by kernel_rfl) (.inl (by kernel_rfl))
theorem kr138 : FnOk V 138 r138 := fnS_ok (C := cr138) (vs := vs) mem_ok (glk rfl) mo (fn_cons kr137 fn_nil) yl_nil (by kernel_rfl) (.inl (by kernel_rfl))
theorem kr211 : FnOk V 211 r211 := fnS_ok (C := cr211) (vs := vs) mem_ok (glk rfl) mo (fn_cons kr137 (fn_cons kr138 fn_nil)) yl_nil (by kernel_rfl) (.inl (by kernel_rfl))
theorem kr136 : FnOk V 136 r136 := fnS_ok (C := cr136) (vs := vs) mem_ok (glk rfl) mo (fn_cons kr137 (fn_cons kr211 fn_nil)) yl_nil (by kernel_rfl) (.inl (by kernel_rfl))
theorem kr213 : FnOk V 213 r213 := fnS_ok (C := cr213) (vs := vs) mem_ok (glk rfl) mo (fn_cons kr212 fn_nil) yl_nil (by kernel_rfl) (.inl (by kernel_rfl))
theorem kr214 : FnOk V 214 r214 := fnS_ok (C := cr214) (vs := vs) mem_ok (glk rfl) mo (fn_cons kr205 (fn_cons kr206 (fn_cons kr207 (fn_cons kr212 (fn_cons kr213 fn_nil))))) yl_nil (by kernel_rfl) (.inl (by kernel_rfl))
theorem kr215 : FnOk V 215 r215 := fnS_ok (C := cr215) (vs := vs) mem_ok (glk rfl) mo (fn_cons kr212 (fn_cons kr273 fn_nil)) yl_nil (by kernel_rfl) (.inl (by kernel_rfl))
theorem kr139 : FnOk V 139 r139 := fnS_ok (C := cr139) (vs := vs) mem_ok (glk rfl) mo (fn_cons kr137 (fn_cons kr138 (fn_cons kr211 (fn_cons kr213 (fn_cons kr214 (fn_cons kr215 fn_nil)))))) yl_nil (by kernel_rfl) (.inl (by kernel_rfl))
theorem kq80 : FnOk V 80 q80 := fnS_ok (C := cr80) (vs := vs) mem_ok (glk rfl) mo (fn_cons kr135 (fn_cons kr136 (fn_cons kr137 (fn_cons kr138 (fn_cons kr139 fn_nil))))) yl_nil (by kernel_rfl) (.inl (by kernel_rfl))
theorem kq80_341 : FnOk V 80 q80_341 := knownF_ok kq80 (cptF_ok kq80) e80_341
theorem kq80_342 : FnOk V 80 q80_342 := knownF_ok kq80_341 (cptF_ok kq80) e80_342
theorem kq80_343 : FnOk V 80 q80_343 := knownF_ok kq80_342 (cptF_ok kq80) e80_343
theorem kq80_344 : FnOk V 80 q80_344 := knownF_ok kq80_343 (cptF_ok kq80) e80_344
theorem kq80_345 : FnOk V 80 q80_345 := knownF_ok kq80_344 (cptF_ok kq80) e80_345
theorem kq80_346 : FnOk V 80 q80_346 := knownF_ok kq80_345 (cptF_ok kq80) e80_346
theorem kr80 : FnOk V 80 r80 := knownF_ok kq80_346 (cptF_ok kq80) e80_347
theorem kr50 : FnOk V 50 r50 := fnS_ok (C := cr50) (vs := vs) mem_ok (glk rfl) mo (fn_cons kr80 fn_nil) yl_nil (by kernel_rfl) (.inl (by kernel_rfl))
theorem kr185 : FnOk V 185 r185 := fnS_ok (C := cr185) (vs := vs) mem_ok (glk rfl) mo (fn_cons kr205 fn_nil) yl_nil (by kernel_rfl) (.inl (by kernel_rfl))
theorem kr187 : FnOk V 187 r187 := fnS_ok (C := cr187) (vs := vs) mem_ok (glk rfl) mo fn_nil yl_nil (by kernel_rfl) (.inl (by kernel_rfl))
theorem kr204 : FnOk V 204 r204 := fnS_ok (C := cr204) (vs := vs) mem_ok (glk rfl) mo fn_nil yl_nil (by kernel_rfl) (.inl (by kernel_rfl))
theorem kr369 : FnOk V 369 r369 := fnS_ok (C := cr369) (vs := vs) mem_ok (glk rfl) mo fn_nil yl_nil (by kernel_rfl) (.inl (by kernel_rfl))
theorem kr356 : FnOk V 356 r356 := fnS_ok (C := cr356) (vs := vs) mem_ok (glk rfl) mo (fn_cons kr369 fn_nil) yl_nil (by kernel_rfl) (.inl (by kernel_rfl))
theorem kr350 : FnOk V 350 r350 := fnS_ok (C := cr350) (vs := vs) mem_ok (glk rfl) mo (fn_cons kr356 fn_nil) yl_nil (by kernel_rfl) (.inl (by kernel_rfl))
theorem kr335 : FnOk V 335 r335 := fnS_ok (C := cr335) (vs := vs) mem_ok (glk rfl) mo (fn_cons kr350 fn_nil) yl_nil (by kernel_rfl) (.inl (by kernel_rfl))
theorem kr346 : FnOk V 346 r346 := fnS_ok (C := cr346) (vs := vs) mem_ok (glk rfl) mo fn_nil yl_nil (by kernel_rfl) (.inl (by kernel_rfl))
theorem kr336 : FnOk V 336 r336 := fnS_ok (C := cr336) (vs := vs) mem_ok (glk rfl) mo (fn_cons kr346 fn_nil) yl_nil (by kernel_rfl) (.inl (by kernel_rfl))
theorem kr309 : FnOk V 309 r309 := fnS_ok (C := cr309) (vs := vs) mem_ok (glk rfl) mo (fn_cons kr335 (fn_cons kr336 fn_nil)) yl_nil (by kernel_rfl) (.inl (by kernel_rfl))
theorem kr310 : FnOk V 310 r310 := fnS_ok (C := cr310) (vs := vs) mem_ok (glk rfl) mo fn_nil yl_nil (by kernel_rfl) (.inl (by kernel_rfl))
theorem kr261 : FnOk V 261 r261 := fnS_ok (C := cr261) (vs := vs) mem_ok (glk rfl) mo (fn_cons kr309 (fn_cons kr310 fn_nil)) yl_nil (by kernel_rfl) (.inl (by kernel_rfl))
theorem kr186 : FnOk V 186 r186 := fnS_ok (C := cr186) (vs := vs) mem_ok (glk rfl) mo (fn_cons kr187 (fn_cons kr204 (fn_cons kr261 fn_nil))) yl_nil (by kernel_rfl) (.inl (by kernel_rfl))
theorem kr124 : FnOk V 124 r124 := fnS_ok (C := cr124) (vs := vs) mem_ok (glk rfl) mo (fn_cons kr185 (fn_cons kr186 fn_nil)) yl_nil (by kernel_rfl) (.inl (by kernel_rfl))
theorem kr129 : FnOk V 129 r129 := fnS_ok (C := cr129) (vs := vs) mem_ok (glk rfl) mo (fn_cons kr205 (fn_cons kr206 (fn_cons kr207 fn_nil))) yl_nil (by kernel_rfl) (.inl (by kernel_rfl))
theorem kr188 : FnOk V 188 r188 := fnS_ok (C := cr188) (vs := vs) mem_ok (glk rfl) mo fn_nil yl_nil (by kernel_rfl) (.inl (by kernel_rfl))
theorem kr189 : FnOk V 189 r189 := fnS_ok (C := cr189) (vs := vs) mem_ok (glk rfl) mo fn_nil yl_nil (by kernel_rfl) (.inl (by kernel_rfl))
theorem kr190 : FnOk V 190 r190 := fnS_ok (C := cr190) (vs := vs) mem_ok (glk rfl) mo fn_nil yl_nil (by kernel_rfl) (.inl (by kernel_rfl))
theorem kr125 : FnOk V 125 r125 := fnS_ok (C := cr125) (vs := vs) mem_ok (glk rfl) mo (fn_cons kr129 (fn_cons kr188 (fn_cons kr189 (fn_cons kr190 fn_nil)))) yl_nil (by kernel_rfl) (.inl (by kernel_rfl))
theorem kr191 : FnOk V 191 r191 := fnS_ok (C := cr191) (vs := vs) mem_ok (glk rfl) mo (fn_cons kr188 fn_nil) yl_nil (by kernel_rfl) (.inl (by kernel_rfl))
theorem kr192 : FnOk V 192 r192 := fnS_ok (C := cr192) (vs := vs) mem_ok (glk rfl) mo (fn_cons kr43 fn_nil) yl_nil (by kernel_rfl) (.inl (by kernel_rfl))
theorem kr195 : FnOk V 195 r195 := fnS_ok (C := cr195) (vs := vs) mem_ok (glk rfl) mo (fn_cons kr194 fn_nil) yl_nil (by kernel_rfl) (.inl (by kernel_rfl))
theorem kr263 : FnOk V 263 r263 := fnS_ok (C := cr263) (vs := vs) mem_ok (glk rfl) mo (fn_cons kr194 fn_nil) yl_nil (by kernel_rfl) (.inl (by kernel_rfl))
theorem kr198 : FnOk V 198 r198 := fnS_ok (C := cr198) (vs := vs) mem_ok (glk rfl) mo (fn_cons kr263 fn_nil) yl_nil (by kernel_rfl) (.inl (by kernel_rfl))
theorem kr126 : FnOk V 126 r126 := fnS_ok (C := cr126) (vs := vs) mem_ok (glk rfl) mo (fn_cons kr191 (fn_cons kr192 (fn_cons kr194 (fn_cons kr195 (fn_cons kr198 fn_nil))))) yl_nil (by kernel_rfl) (.inl (by kernel_rfl))
theorem kr54 : FnOk V 54 r54 := fnS_ok (C := cr54) (vs := vs) mem_ok (glk rfl) mo fn_nil yl_nil (by kernel_rfl) (.inl (by kernel_rfl))
theorem kr202 : FnOk V 202 r202 := fnS_ok (C := cr202) (vs := vs) mem_ok (glk rfl) mo (fn_cons kr53 (fn_cons kr54 fn_nil)) yl_nil (by kernel_rfl) (.inl (by kernel_rfl))
theorem kr264 : FnOk V 264 r264 := fnS_ok (C := cr264) (vs := vs) mem_ok (glk rfl) mo fn_nil yl_nil (by kernel_rfl) (.inl (by kernel_rfl))
theorem kr199 : FnOk V 199 r199 := fnS_ok (C := cr199) (vs := vs) mem_ok (glk rfl) mo (fn_cons kr189 (fn_cons kr191 (fn_cons kr202 (fn_cons kr264 fn_nil)))) yl_nil (by kernel_rfl) (.inl (by kernel_rfl))
theorem kr200 : FnOk V 200 r200 := fnS_ok (C := cr200) (vs := vs) mem_ok (glk rfl) mo (fn_cons kr185 (fn_cons kr261 fn_nil)) yl_nil (by kernel_rfl) (.inl (by kernel_rfl))
theorem kr201 : FnOk V 201 r201 := fnS_ok (C := cr201) (vs := vs) mem_ok (glk rfl) mo fn_nil yl_nil (by kernel_rfl) (.inl (by kernel_rfl))
theorem kr127 : FnOk V 127 r127 := fnS_ok (C := cr127) (vs := vs) mem_ok (glk rfl) mo (fn_cons kr199 (fn_cons kr200 (fn_cons kr201 (fn_cons kr202 fn_nil)))) yl_nil (by kernel_rfl) (.inl (by kernel_rfl))
theorem kr203 : FnOk V 203 r203 := fnS_ok (C := cr203) (vs := vs) mem_ok (glk rfl) mo fn_nil yl_nil (by kernel_rfl) (.inl (by kernel_rfl))
theorem kr128 : FnOk V 128 r128 := fnS_ok (C := cr128) (vs := vs) mem_ok (glk rfl) mo (fn_cons kr129 (fn_cons kr185 (fn_cons kr186 (fn_cons kr203 fn_nil)))) yl_nil (by kernel_rfl) (.inl (by kernel_rfl))
theorem kr130 : FnOk V 130 r130 := fnS_ok (C := cr130) (vs := vs) mem_ok (glk rfl) mo (fn_cons kr208 fn_nil) yl_nil (by kernel_rfl) (.inl (by kernel_rfl))
theorem kr75 : FnOk V 75 r75 := fnS_ok (C := cr75) (vs := vs) mem_ok (glk rfl) mo (fn_cons kr124 (fn_cons kr125 (fn_cons kr126 (fn_cons kr127 (fn_cons kr128 (fn_cons kr129 (fn_cons kr130 fn_nil))))))) yl_nil (by kernel_rfl) (.inl (by kernel_rfl))
theorem kr76 : FnOk V 76 r76 := fnS_ok (C := cr76) (vs := vs) mem_ok (glk rfl) mo fn_nil yl_nil (by kernel_rfl) (.inl (by kernel_rfl))
theorem kr41 : FnOk V 41 r41 := fnS_ok (C := cr41) (vs := vs) mem_ok (glk rfl) mo (fn_cons kr50 (fn_cons kr75 (fn_cons kr76 fn_nil))) yl_nil (by kernel_rfl) (.inl (by kernel_rfl))
theorem kq18 : FnOk V 18 q18 := fnS_ok (C := cr18) (vs := vs) mem_ok (glk rfl) mo (fn_cons kr41 fn_nil) yl_nil (by kernel_rfl) (.inl (by kernel_rfl))
theorem kq18_1 : FnOk V 18 q18_1 := knownF_ok kq18 (cptF_ok kq18) e18_1
theorem kq18_28 : FnOk V 18 q18_28 := knownF_ok kq18_1 (cptF_ok kq18) e18_28
theorem kq18_60 : FnOk V 18 q18_60 := knownF_ok kq18_28 (cptF_ok kq18) e18_60
theorem kq18_92 : FnOk V 18 q18_92 := knownF_ok kq18_60 (cptF_ok kq18) e18_92
theorem kq18_251 : FnOk V 18 q18_251 := knownF_ok kq18_92 (cptF_ok kq18) e18_251
theorem kq18_303 : FnOk V 18 q18_303 := knownF_ok kq18_251 (cptF_ok kq18) e18_303
theorem kq18_305 : FnOk V 18 q18_305 := knownF_ok kq18_303 (cptF_ok kq18) e18_305
theorem kr18 : FnOk V 18 r18 := knownF_ok kq18_305 (cptF_ok kq18) e18_311
theorem kr19 : FnOk V 19 r19 := fnS_ok (C := cr19) (vs := vs) mem_ok (glk rfl) mo (fn_cons kr42 (fn_cons kr43 fn_nil)) yl_nil (by kernel_rfl) (.inl (by kernel_rfl))
theorem kr45 : FnOk V 45 r45 := fnS_ok (C := cr45) (vs := vs) mem_ok (glk rfl) mo fn_nil yl_nil (by kernel_rfl) (.inl (by kernel_rfl))
theorem kr46 : FnOk V 46 r46 := fnS_ok (C := cr46) (vs := vs) mem_ok (glk rfl) mo fn_nil yl_nil (by kernel_rfl) (.inl (by kernel_rfl))
theorem kr47 : FnOk V 47 r47 := fnS_ok (C := cr47) (vs := vs) mem_ok (glk rfl) mo fn_nil yl_nil (by kernel_rfl) (.inl (by kernel_rfl))
theorem kr84 : FnOk V 84 r84 := fnS_ok (C := cr84) (vs := vs) mem_ok (glk rfl) mo (fn_cons kr47 fn_nil) yl_nil (by kernel_rfl) (.inl (by kernel_rfl))
theorem kr131 : FnOk V 131 r131 := fnS_ok (C := cr131) (vs := vs) mem_ok (glk rfl) mo fn_nil yl_nil (by kernel_rfl) (.inl (by kernel_rfl))
theorem kr270 : FnOk V 270 r270 := fnS_ok (C := cr270) (vs := vs) mem_ok (glk rfl) mo fn_nil yl_nil (by kernel_rfl) (.inl (by kernel_rfl))
theorem kr209 : FnOk V 209 r209 := fnS_ok (C := cr209) (vs := vs) mem_ok (glk rfl) mo (fn_cons kr270 fn_nil) yl_nil (by kernel_rfl) (.inl (by kernel_rfl))
theorem kr132 : FnOk V 132 r132 := fnS_ok (C := cr132) (vs := vs) mem_ok (glk rfl) mo (fn_cons kr209 fn_nil) yl_nil (by kernel_rfl) (.inl (by kernel_rfl))
theorem kr78 : FnOk V 78 r78 := fnS_ok (C := cr78) (vs := vs) mem_ok (glk rfl) mo (fn_cons kr84 (fn_cons kr131 (fn_cons kr132 fn_nil))) yl_nil (by kernel_rfl) (.inl (by kernel_rfl))
theorem kr27 : FnOk V 27 r27 := fnS_ok (C := cr27) (vs := vs) mem_ok (glk rfl) mo fn_nil yl_nil (by kernel_rfl) (.inl (by kernel_rfl))
theorem kr134 : FnOk V 134 r134 := fnS_ok (C := cr134) (vs := vs) mem_ok (glk rfl) mo fn_nil yl_nil (by kernel_rfl) (.inl (by kernel_rfl))
theorem kr133 : FnOk V 133 r133 := fnS_ok (C := cr133) (vs := vs) mem_ok (glk rfl) mo (fn_cons kr134 (fn_cons kr209 fn_nil)) yl_nil (by kernel_rfl) (.inl (by kernel_rfl))
theorem kr79 : FnOk V 79 r79 := fnS_ok (C := cr79) (vs := vs) mem_ok (glk rfl) mo (fn_cons kr27 (fn_cons kr133 (fn_cons kr134 fn_nil))) yl_nil (by kernel_rfl) (.inl (by kernel_rfl))
theorem kr48 : FnOk V 48 r48 := fnS_ok (C := cr48) (vs := vs) mem_ok (glk rfl) mo (fn_cons kr78 (fn_cons kr79 fn_nil)) yl_nil (by kernel_rfl) (.inl (by kernel_rfl))
theorem kd45 : FnOkD V 45 r45 := fnS_okD (C := cr45) (vs := vs) (cx_ok mem_ok (glk rfl) mo fn_nil yl_nil) (by kernel_rfl) (by kernel_rfl)
theorem kr20 : FnOk V 20 r20 := fnSE_ok (C := cr20) (vs := vs) (cx_ok mem_ok (glk rfl) mo (fn_cons kr45 (fn_cons kr46 (fn_cons kr47 (fn_cons kr48 fn_nil)))) yl_nil) (by kernel_rfl) kd45 (fun q h => dfq (n := 45) (by kernel_rfl) h)
theorem kr49 : FnOk V 49 r49 := fnS_ok (C := cr49) (vs := vs) mem_ok (glk rfl) mo fn_nil yl_nil (by kernel_rfl) (.inl (by kernel_rfl))
theorem kr51 : FnOk V 51 r51 := fnS_ok (C := cr51) (vs := vs) mem_ok (glk rfl) mo fn_nil yl_nil (by kernel_rfl) (.inl (by kernel_rfl))
theorem kr81 : FnOk V 81 r81 := fnS_ok (C := cr81) (vs := vs) mem_ok (glk rfl) mo (fn_cons kr140 (fn_cons kr141 (fn_cons kr142 fn_nil))) yl_nil (by kernel_rfl) (.inl (by kernel_rfl))
theorem kr52 : FnOk V 52 r52 := fnS_ok (C := cr52) (vs := vs) mem_ok (glk rfl) mo (fn_cons kr54 (fn_cons kr81 fn_nil)) yl_nil (by kernel_rfl) (.inl (by kernel_rfl))
theorem kr83 : FnOk V 83 r83 := fnS_ok (C := cr83) (vs := vs) mem_ok (glk rfl) mo fn_nil yl_nil (by kernel_rfl) (.inl (by kernel_rfl))
theorem kr55 : FnOk V 55 r55 := fnS_ok (C := cr55) (vs := vs) mem_ok (glk rfl) mo (fn_cons kr83 fn_nil) yl_nil (by kernel_rfl) (.inl (by kernel_rfl))
theorem kr21 : FnOk V 21 r21 := fnS_ok (C := cr21) (vs := vs) mem_ok (glk rfl) mo (fn_cons kr49 (fn_cons kr50 (fn_cons kr51 (fn_cons kr52 (fn_cons kr53 (fn_cons kr54 (fn_cons kr55 fn_nil))))))) yl_nil (by kernel_rfl) (.inl (by kernel_rfl))
theorem kr22 : FnOk V 22 r22 := fnS_ok (C := cr22) (vs := vs) mem_ok (glk rfl) mo (fn_cons kr50 fn_nil) yl_nil (by kernel_rfl) (.inl (by kernel_rfl))
theorem kq5 : FnOk V 5 q5 := fnS_ok (C := cr5) (vs := vs) mem_ok (glk rfl) mo (fn_cons kr18 (fn_cons kr19 (fn_cons kr20 (fn_cons kr21 (fn_cons kr22 fn_nil))))) yl_nil (by kernel_rfl) (.inl (by kernel_rfl))
theorem kq5_2 : FnOk V 5 q5_2 := knownF_ok kq5 (cptF_ok kq5) e5_2
theorem kq5_29 : FnOk V 5 q5_29 := knownF_ok kq5_2 (cptF_ok kq5) e5_29
theorem kq5_61 : FnOk V 5 q5_61 := knownF_ok kq5_29 (cptF_ok kq5) e5_61
theorem kq5_93 : FnOk V 5 q5_93 := knownF_ok kq5_61 (cptF_ok kq5) e5_93
theorem kq5_230 : FnOk V 5 q5_230 := knownF_ok kq5_93 (cptF_ok kq5) e5_230
theorem kq5_252 : FnOk V 5 q5_252 := knownF_ok kq5_230 (cptF_ok kq5) e5_252
theorem kq5_283 : FnOk V 5 q5_283 := knownF_ok kq5_252 (cptF_ok kq5) e5_283
theorem kq5_304 : FnOk V 5 q5_304 := knownF_ok kq5_283 (cptF_ok kq5) e5_304
theorem kq5_306 : FnOk V 5 q5_306 := knownF_ok kq5_304 (cptF_ok kq5) e5_306
theorem kq5_307 : FnOk V 5 q5_307 := knownF_ok kq5_306 (cptF_ok kq5) e5_307
theorem kq5_308 : FnOk V 5 q5_308 := knownF_ok kq5_307 (cptF_ok kq5) e5_308
theorem kq5_309 : FnOk V 5 q5_309 := knownF_ok kq5_308 (cptF_ok kq5) e5_309
theorem kr5 : FnOk V 5 r5 := knownF_ok kq5_309 (cptF_ok kq5) e5_324
theorem kr6 : FnOk V 6 r6 := fnS_ok (C := cr6) (vs := vs) mem_ok (glk rfl) mo fn_nil yl_nil (by kernel_rfl) (.inl (by kernel_rfl))
theorem kr24 : FnOk V 24 r24 := fnS_ok (C := cr24) (vs := vs) mem_ok (glk rfl) mo fn_nil yl_nil (by kernel_rfl) (.inl (by kernel_rfl))
theorem kr25 : FnOk V 25 r25 := fnS_ok (C := cr25) (vs := vs) mem_ok (glk rfl) mo fn_nil yl_nil (by kernel_rfl) (.inl (by kernel_rfl))
theorem kq7 : FnOk V 7 q7 := fnS_ok (C := cr7) (vs := vs) mem_ok (glk rfl) mo (fn_cons kr23 (fn_cons kr24 (fn_cons kr25 fn_nil))) yl_nil (by kernel_rfl) (.inl (by kernel_rfl))
theorem kr7 : FnOk V 7 r7 := knownF_ok kq7 (cptF_ok kq7) e7_310
theorem kr218 : FnOk V 218 r218 := fnS_ok (C := cr218) (vs := vs) mem_ok (glk rfl) mo fn_nil yl_nil (by kernel_rfl) (.inl (by kernel_rfl))
theorem kr219 : FnOk V 219 r219 := fnS_ok (C := cr219) (vs := vs) mem_ok (glk rfl) mo fn_nil yl_nil (by kernel_rfl) (.inl (by kernel_rfl))
theorem kr220 : FnOk V 220 r220 := fnS_ok (C := cr220) (vs := vs) mem_ok (glk rfl) mo fn_nil yl_nil (by kernel_rfl) (.inl (by kernel_rfl))
theorem kr143 : FnOk V 143 r143 := fnS_ok (C := cr143) (vs := vs) mem_ok (glk rfl) mo (fn_cons kr218 (fn_cons kr219 (fn_cons kr220 fn_nil))) yl_nil (by kernel_rfl) (.inl (by kernel_rfl))
theorem kr85 : FnOk V 85 r85 := fnS_ok (C := cr85) (vs := vs) mem_ok (glk rfl) mo (fn_cons kr143 fn_nil) yl_nil (by kernel_rfl) (.inl (by kernel_rfl))
theorem kr144 : FnOk V 144 r144 := fnS_ok (C := cr144) (vs := vs) mem_ok (glk rfl) mo fn_nil yl_nil (by kernel_rfl) (.inl (by kernel_rfl))
theorem kr86 : FnOk V 86 r86 := fnS_ok (C := cr86) (vs := vs) mem_ok (glk rfl) mo (fn_cons kr144 fn_nil) yl_nil (by kernel_rfl) (.inl (by kernel_rfl))
theorem kr145 : FnOk V 145 r145 := fnS_ok (C := cr145) (vs := vs) mem_ok (glk rfl) mo (fn_cons kr50 fn_nil) yl_nil (by kernel_rfl) (.inl (by kernel_rfl))
theorem kr278 : FnOk V 278 r278 := fnS_ok (C := cr278) (vs := vs) mem_ok (glk rfl) mo fn_nil yl_nil (by kernel_rfl) (.inl (by kernel_rfl))
theorem kr277 : FnOk V 277 r277 := fnS_ok (C := cr277) (vs := vs) mem_ok (glk rfl) mo (fn_cons kr278 fn_nil) yl_nil (by kernel_rfl) (.inl (by kernel_rfl))
theorem kr221 : FnOk V 221 r221 := fnS_ok (C := cr221) (vs := vs) mem_ok (glk rfl) mo (fn_cons kr273 (fn_cons kr277 fn_nil)) yl_nil (by kernel_rfl) (.inl (by kernel_rfl))
theorem kr146 : FnOk V 146 r146 := fnS_ok (C := cr146) (vs := vs) mem_ok (glk rfl) mo (fn_cons kr52 (fn_cons kr145 (fn_cons kr221 fn_nil))) yl_nil (by kernel_rfl) (.inl (by kernel_rfl))
theorem kr279 : FnOk V 279 r279 := fnS_ok (C := cr279) (vs := vs) mem_ok (glk rfl) mo (fn_cons kr134 (fn_cons kr209 fn_nil)) yl_nil (by kernel_rfl) (.inl (by kernel_rfl))
theorem kr222 : FnOk V 222 r222 := fnS_ok (C := cr222) (vs := vs) mem_ok (glk rfl) mo (fn_cons kr279 fn_nil) yl_nil (by kernel_rfl) (.inl (by kernel_rfl))
theorem kr147 : FnOk V 147 r147 := fnS_ok (C := cr147) (vs := vs) mem_ok (glk rfl) mo (fn_cons kr49 (fn_cons kr51 (fn_cons kr133 (fn_cons kr222 fn_nil)))) yl_nil (by kernel_rfl) (.inl (by kernel_rfl))
theorem kr87 : FnOk V 87 r87 := fnS_ok (C := cr87) (vs := vs) mem_ok (glk rfl) mo (fn_cons kr49 (fn_cons kr50 (fn_cons kr145 (fn_cons kr146 (fn_cons kr147 fn_nil))))) yl_nil (by kernel_rfl) (.inl (by kernel_rfl))
theorem kq57 : FnOk V 57 q57 := fnS_ok (C := cr57) (vs := vs) mem_ok (glk rfl) mo (fn_cons kr18 (fn_cons kr19 (fn_cons kr20 (fn_cons kr84 (fn_cons kr85 (fn_cons kr86 (fn_cons kr87 fn_nil))))))) yl_nil (by kernel_rfl) (.inl (by kernel_rfl))
theorem kq57_3 : FnOk V 57 q57_3 := knownF_ok kq57 (cptF_ok kq57) e57_3
theorem kq57_4 : FnOk V 57 q57_4 := knownF_ok kq57_3 (cptF_ok kq57) e57_4
theorem kq57_30 : FnOk V 57 q57_30 := knownF_ok kq57_4 (cptF_ok kq57) e57_30
theorem kq57_31 : FnOk V 57 q57_31 := knownF_ok kq57_30 (cptF_ok kq57) e57_31
theorem kq57_62 : FnOk V 57 q57_62 := knownF_ok kq57_31 (cptF_ok kq57) e57_62
theorem kq57_63 : FnOk V 57 q57_63 := knownF_ok kq57_62 (cptF_ok kq57) e57_63
theorem kq57_94 : FnOk V 57 q57_94 := knownF_ok kq57_63 (cptF_ok kq57) e57_94
theorem kq57_95 : FnOk V 57 q57_95 := knownF_ok kq57_94 (cptF_ok kq57) e57_95
theorem kq57_231 : FnOk V 57 q57_231 := knownF_ok kq57_95 (cptF_ok kq57) e57_231
theorem kq57_232 : FnOk V 57 q57_232 := knownF_ok kq57_231 (cptF_ok kq57) e57_232
theorem kq57_253 : FnOk V 57 q57_253 := knownF_ok kq57_232 (cptF_ok kq57) e57_253
theorem kq57_254 : FnOk V 57 q57_254 := knownF_ok kq57_253 (cptF_ok kq57) e57_254
theorem kq57_284 : FnOk V 57 q57_284 := knownF_ok kq57_254 (cptF_ok kq57) e57_284
theorem kq57_285 : FnOk V 57 q57_285 := knownF_ok kq57_284 (cptF_ok kq57) e57_285
theorem kq57_314 : FnOk V 57 q57_314 := knownF_ok kq57_285 (cptF_ok kq57) e57_314
theorem kq57_318 : FnOk V 57 q57_318 := knownF_ok kq57_314 (cptF_ok kq57) e57_318
theorem kq57_325 : FnOk V 57 q57_325 := knownF_ok kq57_318 (cptF_ok kq57) e57_325
theorem kq57_326 : FnOk V 57 q57_326 := knownF_ok kq57_325 (cptF_ok kq57) e57_326
theorem kq57_6 : FnOk V 57 q57_6 := knownF_ok kq57 (cptF_ok kq57) e57_6
theorem kq57_33 : FnOk V 57 q57_33 := knownF_ok kq57_6 (cptF_ok kq57) e57_33
theorem kq57_65 : FnOk V 57 q57_65 := knownF_ok kq57_33 (cptF_ok kq57) e57_65
theorem kq57_97 : FnOk V 57 q57_97 := knownF_ok kq57_65 (cptF_ok kq57) e57_97
theorem kq57_234 : FnOk V 57 q57_234 := knownF_ok kq57_97 (cptF_ok kq57) e57_234
theorem kq57_256 : FnOk V 57 q57_256 := knownF_ok kq57_234 (cptF_ok kq57) e57_256
theorem kq57_287 : FnOk V 57 q57_287 := knownF_ok kq57_256 (cptF_ok kq57) e57_287
theorem kq57_328 : FnOk V 57 q57_328 := knownF_ok kq57_287 (cptF_ok kq57) e57_328
theorem kq57_8 : FnOk V 57 q57_8 := knownF_ok kq57 (cptF_ok kq57) e57_8
theorem kq57_35 : FnOk V 57 q57_35 := knownF_ok kq57_8 (cptF_ok kq57) e57_35
theorem kq57_67 : FnOk V 57 q57_67 := knownF_ok kq57_35 (cptF_ok kq57) e57_67
theorem kq57_99 : FnOk V 57 q57_99 := knownF_ok kq57_67 (cptF_ok kq57) e57_99
theorem kq57_236 : FnOk V 57 q57_236 := knownF_ok kq57_99 (cptF_ok kq57) e57_236
theorem kq57_258 : FnOk V 57 q57_258 := knownF_ok kq57_236 (cptF_ok kq57) e57_258
theorem kq57_289 : FnOk V 57 q57_289 := knownF_ok kq57_258 (cptF_ok kq57) e57_289
theorem kq57_330 : FnOk V 57 q57_330 := knownF_ok kq57_289 (cptF_ok kq57) e57_330
theorem kq57_10 : FnOk V 57 q57_10 := knownF_ok kq57 (cptF_ok kq57) e57_10
theorem kq57_37 : FnOk V 57 q57_37 := knownF_ok kq57_10 (cptF_ok kq57) e57_37
theorem kq57_69 : FnOk V 57 q57_69 := knownF_ok kq57_37 (cptF_ok kq57) e57_69
theorem kq57_101 : FnOk V 57 q57_101 := knownF_ok kq57_69 (cptF_ok kq57) e57_101
theorem kq57_238 : FnOk V 57 q57_238 := knownF_ok kq57_101 (cptF_ok kq57) e57_238
theorem kq57_260 : FnOk V 57 q57_260 := knownF_ok kq57_238 (cptF_ok kq57) e57_260
theorem kq57_291 : FnOk V 57 q57_291 := knownF_ok kq57_260 (cptF_ok kq57) e57_291
theorem kq57_332 : FnOk V 57 q57_332 := knownF_ok kq57_291 (cptF_ok kq57) e57_332
theorem kq57_12 : FnOk V 57 q57_12 := knownF_ok kq57 (cptF_ok kq57) e57_12
theorem kq57_39 : FnOk V 57 q57_39 := knownF_ok kq57_12 (cptF_ok kq57) e57_39
theorem kq57_71 : FnOk V 57 q57_71 := knownF_ok kq57_39 (cptF_ok kq57) e57_71
theorem kq57_103 : FnOk V 57 q57_103 := knownF_ok kq57_71 (cptF_ok kq57) e57_103
theorem kq57_240 : FnOk V 57 q57_240 := knownF_ok kq57_103 (cptF_ok kq57) e57_240
theorem kq57_262 : FnOk V 57 q57_262 := knownF_ok kq57_240 (cptF_ok kq57) e57_262
theorem kq57_293 : FnOk V 57 q57_293 := knownF_ok kq57_262 (cptF_ok kq57) e57_293
theorem kq57_14 : FnOk V 57 q57_14 := knownF_ok kq57 (cptF_ok kq57) e57_14
theorem kq57_41 : FnOk V 57 q57_41 := knownF_ok kq57_14 (cptF_ok kq57) e57_41
theorem kq57_73 : FnOk V 57 q57_73 := knownF_ok kq57_41 (cptF_ok kq57) e57_73
theorem kq57_105 : FnOk V 57 q57_105 := knownF_ok kq57_73 (cptF_ok kq57) e57_105
theorem kq57_242 : FnOk V 57 q57_242 := knownF_ok kq57_105 (cptF_ok kq57) e57_242
theorem kq57_264 : FnOk V 57 q57_264 := knownF_ok kq57_242 (cptF_ok kq57) e57_264
theorem kq57_295 : FnOk V 57 q57_295 := knownF_ok kq57_264 (cptF_ok kq57) e57_295
theorem kq57_16 : FnOk V 57 q57_16 := knownF_ok kq57 (cptF_ok kq57) e57_16
theorem kq57_44 : FnOk V 57 q57_44 := knownF_ok kq57_16 (cptF_ok kq57) e57_44
theorem kq57_75 : FnOk V 57 q57_75 := knownF_ok kq57_44 (cptF_ok kq57) e57_75
theorem kq57_107 : FnOk V 57 q57_107 := knownF_ok kq57_75 (cptF_ok kq57) e57_107
theorem kq57_244 : FnOk V 57 q57_244 := knownF_ok kq57_107 (cptF_ok kq57) e57_244
theorem kq57_266 : FnOk V 57 q57_266 := knownF_ok kq57_244 (cptF_ok kq57) e57_266
theorem kq57_18 : FnOk V 57 q57_18 := knownF_ok kq57 (cptF_ok kq57) e57_18
theorem kq57_46 : FnOk V 57 q57_46 := knownF_ok kq57_18 (cptF_ok kq57) e57_46
theorem kq57_77 : FnOk V 57 q57_77 := knownF_ok kq57_46 (cptF_ok kq57) e57_77
theorem kq57_109 : FnOk V 57 q57_109 := knownF_ok kq57_77 (cptF_ok kq57) e57_109
theorem kq57_246 : FnOk V 57 q57_246 := knownF_ok kq57_109 (cptF_ok kq57) e57_246
theorem kq57_268 : FnOk V 57 q57_268 := knownF_ok kq57_246 (cptF_ok kq57) e57_268
theorem kq57_20 : FnOk V 57 q57_20 := knownF_ok kq57 (cptF_ok kq57) e57_20
theorem kq57_48 : FnOk V 57 q57_48 := knownF_ok kq57_20 (cptF_ok kq57) e57_48
theorem kq57_79 : FnOk V 57 q57_79 := knownF_ok kq57_48 (cptF_ok kq57) e57_79
theorem kq57_111 : FnOk V 57 q57_111 := knownF_ok kq57_79 (cptF_ok kq57) e57_111
theorem kq57_270 : FnOk V 57 q57_270 := knownF_ok kq57_111 (cptF_ok kq57) e57_270
theorem kq57_22 : FnOk V 57 q57_22 := knownF_ok kq57 (cptF_ok kq57) e57_22
theorem kq57_50 : FnOk V 57 q57_50 := knownF_ok kq57_22 (cptF_ok kq57) e57_50
theorem kq57_81 : FnOk V 57 q57_81 := knownF_ok kq57_50 (cptF_ok kq57) e57_81
theorem kq57_113 : FnOk V 57 q57_113 := knownF_ok kq57_81 (cptF_ok kq57) e57_113
theorem kq57_272 : FnOk V 57 q57_272 := knownF_ok kq57_113 (cptF_ok kq57) e57_272
theorem kq57_24 : FnOk V 57 q57_24 := knownF_ok kq57 (cptF_ok kq57) e57_24
theorem kq57_52 : FnOk V 57 q57_52 := knownF_ok kq57_24 (cptF_ok kq57) e57_52
theorem kq57_83 : FnOk V 57 q57_83 := knownF_ok kq57_52 (cptF_ok kq57) e57_83
theorem kq57_115 : FnOk V 57 q57_115 := knownF_ok kq57_83 (cptF_ok kq57) e57_115
theorem kq57_274 : FnOk V 57 q57_274 := knownF_ok kq57_115 (cptF_ok kq57) e57_274
theorem kq57_54 : FnOk V 57 q57_54 := knownF_ok kq57 (cptF_ok kq57) e57_54
theorem kq57_85 : FnOk V 57 q57_85 := knownF_ok kq57_54 (cptF_ok kq57) e57_85
theorem kq57_117 : FnOk V 57 q57_117 := knownF_ok kq57_85 (cptF_ok kq57) e57_117
theorem kq57_276 : FnOk V 57 q57_276 := knownF_ok kq57_117 (cptF_ok kq57) e57_276
theorem kq57_56 : FnOk V 57 q57_56 := knownF_ok kq57 (cptF_ok kq57) e57_56
theorem kq57_87 : FnOk V 57 q57_87 := knownF_ok kq57_56 (cptF_ok kq57) e57_87
theorem kq57_119 : FnOk V 57 q57_119 := knownF_ok kq57_87 (cptF_ok kq57) e57_119
theorem kq57_278 : FnOk V 57 q57_278 := knownF_ok kq57_119 (cptF_ok kq57) e57_278
theorem kq57_121 : FnOk V 57 q57_121 := knownF_ok kq57 (cptF_ok kq57) e57_121
theorem kq57_123 : FnOk V 57 q57_123 := knownF_ok kq57 (cptF_ok kq57) e57_123
theorem kq57_125 : FnOk V 57 q57_125 := knownF_ok kq57 (cptF_ok kq57) e57_125
theorem kq57_127 : FnOk V 57 q57_127 := knownF_ok kq57 (cptF_ok kq57) e57_127
theorem kq57_129 : FnOk V 57 q57_129 := knownF_ok kq57 (cptF_ok kq57) e57_129
theorem kq57_131 : FnOk V 57 q57_131 := knownF_ok kq57 (cptF_ok kq57) e57_131
theorem kq57_133 : FnOk V 57 q57_133 := knownF_ok kq57 (cptF_ok kq57) e57_133
theorem kq57_135 : FnOk V 57 q57_135 := knownF_ok kq57 (cptF_ok kq57) e57_135
theorem kq57_137 : FnOk V 57 q57_137 := knownF_ok kq57 (cptF_ok kq57) e57_137
theorem kq57_139 : FnOk V 57 q57_139 := knownF_ok kq57 (cptF_ok kq57) e57_139
theorem kq57_141 : FnOk V 57 q57_141 := knownF_ok kq57 (cptF_ok kq57) e57_141
theorem kq57_143 : FnOk V 57 q57_143 := knownF_ok kq57 (cptF_ok kq57) e57_143
theorem kq57_145 : FnOk V 57 q57_145 := knownF_ok kq57 (cptF_ok kq57) e57_145
theorem kq57_147 : FnOk V 57 q57_147 := knownF_ok kq57 (cptF_ok kq57) e57_147
theorem kq57_149 : FnOk V 57 q57_149 := knownF_ok kq57 (cptF_ok kq57) e57_149
theorem kq57_151 : FnOk V 57 q57_151 := knownF_ok kq57 (cptF_ok kq57) e57_151
theorem kq57_153 : FnOk V 57 q57_153 := knownF_ok kq57 (cptF_ok kq57) e57_153
theorem kq57_155 : FnOk V 57 q57_155 := knownF_ok kq57 (cptF_ok kq57) e57_155
theorem kq57_157 : FnOk V 57 q57_157 := knownF_ok kq57 (cptF_ok kq57) e57_157
theorem kq57_159 : FnOk V 57 q57_159 := knownF_ok kq57 (cptF_ok kq57) e57_159
theorem kq57_161 : FnOk V 57 q57_161 := knownF_ok kq57 (cptF_ok kq57) e57_161
theorem kq57_163 : FnOk V 57 q57_163 := knownF_ok kq57 (cptF_ok kq57) e57_163
theorem kq57_165 : FnOk V 57 q57_165 := knownF_ok kq57 (cptF_ok kq57) e57_165
theorem kq57_167 : FnOk V 57 q57_167 := knownF_ok kq57 (cptF_ok kq57) e57_167
theorem kq57_169 : FnOk V 57 q57_169 := knownF_ok kq57 (cptF_ok kq57) e57_169
theorem kq57_171 : FnOk V 57 q57_171 := knownF_ok kq57 (cptF_ok kq57) e57_171
theorem kq57_173 : FnOk V 57 q57_173 := knownF_ok kq57 (cptF_ok kq57) e57_173
theorem kq57_175 : FnOk V 57 q57_175 := knownF_ok kq57 (cptF_ok kq57) e57_175
theorem kq57_177 : FnOk V 57 q57_177 := knownF_ok kq57 (cptF_ok kq57) e57_177
theorem kq57_179 : FnOk V 57 q57_179 := knownF_ok kq57 (cptF_ok kq57) e57_179
theorem kq57_181 : FnOk V 57 q57_181 := knownF_ok kq57 (cptF_ok kq57) e57_181
theorem kq57_183 : FnOk V 57 q57_183 := knownF_ok kq57 (cptF_ok kq57) e57_183
theorem kq57_185 : FnOk V 57 q57_185 := knownF_ok kq57 (cptF_ok kq57) e57_185
theorem kq57_187 : FnOk V 57 q57_187 := knownF_ok kq57 (cptF_ok kq57) e57_187
theorem kq57_189 : FnOk V 57 q57_189 := knownF_ok kq57 (cptF_ok kq57) e57_189
theorem kq57_191 : FnOk V 57 q57_191 := knownF_ok kq57 (cptF_ok kq57) e57_191
theorem kq57_193 : FnOk V 57 q57_193 := knownF_ok kq57 (cptF_ok kq57) e57_193
theorem kq57_195 : FnOk V 57 q57_195 := knownF_ok kq57 (cptF_ok kq57) e57_195
theorem kq57_197 : FnOk V 57 q57_197 := knownF_ok kq57 (cptF_ok kq57) e57_197
theorem kq57_199 : FnOk V 57 q57_199 := knownF_ok kq57 (cptF_ok kq57) e57_199
theorem kq57_201 : FnOk V 57 q57_201 := knownF_ok kq57 (cptF_ok kq57) e57_201
theorem kq57_203 : FnOk V 57 q57_203 := knownF_ok kq57 (cptF_ok kq57) e57_203
theorem kq57_205 : FnOk V 57 q57_205 := knownF_ok kq57 (cptF_ok kq57) e57_205
theorem kq57_207 : FnOk V 57 q57_207 := knownF_ok kq57 (cptF_ok kq57) e57_207
theorem kq57_209 : FnOk V 57 q57_209 := knownF_ok kq57 (cptF_ok kq57) e57_209
theorem kq57_211 : FnOk V 57 q57_211 := knownF_ok kq57 (cptF_ok kq57) e57_211
theorem kq57_213 : FnOk V 57 q57_213 := knownF_ok kq57 (cptF_ok kq57) e57_213
theorem kq57_215 : FnOk V 57 q57_215 := knownF_ok kq57 (cptF_ok kq57) e57_215
theorem kq57_217 : FnOk V 57 q57_217 := knownF_ok kq57 (cptF_ok kq57) e57_217
theorem kq57_219 : FnOk V 57 q57_219 := knownF_ok kq57 (cptF_ok kq57) e57_219
theorem kq57_221 : FnOk V 57 q57_221 := knownF_ok kq57 (cptF_ok kq57) e57_221
theorem kq57_223 : FnOk V 57 q57_223 := knownF_ok kq57 (cptF_ok kq57) e57_223
theorem kq57_225 : FnOk V 57 q57_225 := knownF_ok kq57 (cptF_ok kq57) e57_225
theorem kq57_312 : FnOk V 57 q57_312 := knownF_ok kq57 (cptF_ok kq57) e57_312
theorem kr57 : FnOk V 57 r57 := chooseF_ok (ch_cons kq57_326 (ch_cons kq57_328 (ch_cons kq57_330 (ch_cons kq57_332 (ch_cons kq57_293 (ch_cons kq57_295 (ch_cons kq57_266 (ch_cons kq57_268 (ch_cons kq57_270 (ch_cons kq57_272 (ch_cons kq57_274 (ch_cons kq57_276 (ch_cons kq57_278 (ch_cons kq57_121 (ch_cons kq57_123 (ch_cons kq57_125 (ch_cons kq57_127 (ch_cons kq57_129 (ch_cons kq57_131 (ch_cons kq57_133 (ch_cons kq57_135 (ch_cons kq57_137 (ch_cons kq57_139 (ch_cons kq57_141 (ch_cons kq57_143 (ch_cons kq57_145 (ch_cons kq57_147 (ch_cons kq57_149 (ch_cons kq57_151 (ch_cons kq57_153 (ch_cons kq57_155 (ch_cons kq57_157 (ch_cons kq57_159 (ch_cons kq57_161 (ch_cons kq57_163 (ch_cons kq57_165 (ch_cons kq57_167 (ch_cons kq57_169 (ch_cons kq57_171 (ch_cons kq57_173 (ch_cons kq57_175 (ch_cons kq57_177 (ch_cons kq57_179 (ch_cons kq57_181 (ch_cons kq57_183 (ch_cons kq57_185 (ch_cons kq57_187 (ch_cons kq57_189 (ch_cons kq57_191 (ch_cons kq57_193 (ch_cons kq57_195 (ch_cons kq57_197 (ch_cons kq57_199 (ch_cons kq57_201 (ch_cons kq57_203 (ch_cons kq57_205 (ch_cons kq57_207 (ch_cons kq57_209 (ch_cons kq57_211 (ch_cons kq57_213 (ch_cons kq57_215 (ch_cons kq57_217 (ch_cons kq57_219 (ch_cons kq57_221 (ch_cons kq57_223 (ch_cons kq57_225 (ch_cons kq57_312 ch_nil))))))))))))))))))))))))))))))))))))))))))))))))))))))))))))))))))) kq57
theorem kr26 : FnOk V 26 r26 := fnS_ok (C := cr26) (vs := vs) mem_ok (glk rfl) mo (fn_cons kr57 fn_nil) yl_nil (by kernel_rfl) (.inl (by kernel_rfl))
theorem kr28 : FnOk V 28 r28 := fnS_ok (C := cr28) (vs := vs) mem_ok (glk rfl) mo fn_nil yl_nil (by kernel_rfl) (.inl (by kernel_rfl))
theorem kr29 : FnOk V 29 r29 := fnS_ok (C := cr29) (vs := vs) mem_ok (glk rfl) mo fn_nil yl_nil (by kernel_rfl) (.inl (by kernel_rfl))
theorem kr88 : FnOk V 88 r88 := fnS_ok (C := cr88) (vs := vs) mem_ok (glk rfl) mo (fn_cons kr85 fn_nil) yl_nil (by kernel_rfl) (.inl (by kernel_rfl))
theorem kr58 : FnOk V 58 r58 := fnS_ok (C := cr58) (vs := vs) mem_ok (glk rfl) mo (fn_cons kr88 fn_nil) yl_nil (by kernel_rfl) (.inl (by kernel_rfl))
theorem kr59 : FnOk V 59 r59 := fnS_ok (C := cr59) (vs := vs) mem_ok (glk rfl) mo (fn_cons kr57 (fn_cons kr88 fn_nil)) yl_nil (by kernel_rfl) (.inl (by kernel_rfl))
theorem kr89 : FnOk V 89 r89 := fnS_ok (C := cr89) (vs := vs) mem_ok (glk rfl) mo (fn_cons kr57 fn_nil) yl_nil (by kernel_rfl) (.inl (by kernel_rfl))
theorem kr94 : FnOk V 94 r94 := fnS_ok (C := cr94) (vs := vs) mem_ok (glk rfl) mo (fn_cons kr27 (fn_cons kr28 (fn_cons kr29 fn_nil))) yl_nil (by kernel_rfl) (.inl (by kernel_rfl))
theorem kr90 : FnOk V 90 r90 := fnS_ok (C := cr90) (vs := vs) mem_ok (glk rfl) mo (fn_cons kr87 (fn_cons kr94 fn_nil)) yl_nil (by kernel_rfl) (.inl (by kernel_rfl))
theorem kr91 : FnOk V 91 r91 := fnS_ok (C := cr91) (vs := vs) mem_ok (glk rfl) mo fn_nil yl_nil (by kernel_rfl) (.inl (by kernel_rfl))
theorem kr148 : FnOk V 148 r148 := fnS_ok (C := cr148) (vs := vs) mem_ok (glk rfl) mo (fn_cons kr27 (fn_cons kr28 (fn_cons kr29 (fn_cons kr81 (fn_cons kr145 (fn_cons kr146 fn_nil)))))) yl_nil (by kernel_rfl) (.inl (by kernel_rfl))
theorem kr230 : FnOk V 230 r230 := fnS_ok (C := cr230) (vs := vs) mem_ok (glk rfl) mo (fn_cons kr53 fn_nil) yl_nil (by kernel_rfl) (.inl (by kernel_rfl))
theorem kr223 : FnOk V 223 r223 := fnS_ok (C := cr223) (vs := vs) mem_ok (glk rfl) mo (fn_cons kr230 fn_nil) yl_nil (by kernel_rfl) (.inl (by kernel_rfl))
theorem kr149 : FnOk V 149 r149 := fnS_ok (C := cr149) (vs := vs) mem_ok (glk rfl) mo (fn_cons kr223 fn_nil) yl_nil (by kernel_rfl) (.inl (by kernel_rfl))
theorem kr224 : FnOk V 224 r224 := fnS_ok (C := cr224) (vs := vs) mem_ok (glk rfl) mo (fn_cons kr223 fn_nil) yl_nil (by kernel_rfl) (.inl (by kernel_rfl))
theorem kr225 : FnOk V 225 r225 := fnS_ok (C := cr225) (vs := vs) mem_ok (glk rfl) mo (fn_cons kr223 fn_nil) yl_nil (by kernel_rfl) (.inl (by kernel_rfl))
theorem kr226 : FnOk V 226 r226 := fnS_ok (C := cr226) (vs := vs) mem_ok (glk rfl) mo (fn_cons kr20 fn_nil) yl_nil (by kernel_rfl) (.inl (by kernel_rfl))
theorem kr227 : FnOk V 227 r227 := fnS_ok (C := cr227) (vs := vs) mem_ok (glk rfl) mo (fn_cons kr223 fn_nil) yl_nil (by kernel_rfl) (.inl (by kernel_rfl))
theorem kr150 : FnOk V 150 r150 := fnS_ok (C := cr150) (vs := vs) mem_ok (glk rfl) mo (fn_cons kr223 (fn_cons kr224 (fn_cons kr225 (fn_cons kr226 (fn_cons kr227 fn_nil))))) yl_nil (by kernel_rfl) (.inl (by kernel_rfl))
theorem kr229 : FnOk V 229 r229 := fnS_ok (C := cr229) (vs := vs) mem_ok (glk rfl) mo (fn_cons kr78 (fn_cons kr225 fn_nil)) yl_nil (by kernel_rfl) (.inl (by kernel_rfl))
theorem kr231 : FnOk V 231 r231 := fnS_ok (C := cr231) (vs := vs) mem_ok (glk rfl) mo fn_nil yl_nil (by kernel_rfl) (.inl (by kernel_rfl))
theorem kr151 : FnOk V 151 r151 := fnS_ok (C := cr151) (vs := vs) mem_ok (glk rfl) mo (fn_cons kr224 (fn_cons kr229 (fn_cons kr230 (fn_cons kr231 fn_nil)))) yl_nil (by kernel_rfl) (.inl (by kernel_rfl))
theorem kr284 : FnOk V 284 r284 := fnS_ok (C := cr284) (vs := vs) mem_ok (glk rfl) mo (fn_cons kr85 fn_nil) yl_nil (by kernel_rfl) (.inl (by kernel_rfl))
theorem kr235 : FnOk V 235 r235 := fnS_ok (C := cr235) (vs := vs) mem_ok (glk rfl) mo (fn_cons kr28 (fn_cons kr284 fn_nil)) yl_nil (by kernel_rfl) (.inl (by kernel_rfl))
theorem kr152 : FnOk V 152 r152 := fnS_ok (C := cr152) (vs := vs) mem_ok (glk rfl) mo (fn_cons kr54 (fn_cons kr55 (fn_cons kr223 (fn_cons kr224 (fn_cons kr235 fn_nil))))) yl_nil (by kernel_rfl) (.inl (by kernel_rfl))
theorem kr92 : FnOk V 92 r92 := fnS_ok (C := cr92) (vs := vs) mem_ok (glk rfl) mo (fn_cons kr57 (fn_cons kr91 (fn_cons kr148 (fn_cons kr149 (fn_cons kr150 (fn_cons kr151 (fn_cons kr152 fn_nil))))))) yl_nil (by kernel_rfl) (.inl (by kernel_rfl))
theorem kr156 : FnOk V 156 r156 := fnS_ok (C := cr156) (vs := vs) mem_ok (glk rfl) mo fn_nil yl_nil (by kernel_rfl) (.inl (by kernel_rfl))
theorem kr294 : FnOk V 294 r294 := fnS_ok (C := cr294) (vs := vs) mem_ok (glk rfl) mo (fn_cons kr27 (fn_cons kr279 fn_nil)) yl_nil (by kernel_rfl) (.inl (by kernel_rfl))
theorem kr283 : FnOk V 283 r283 := fnS_ok (C := cr283) (vs := vs) mem_ok (glk rfl) mo (fn_cons kr294 fn_nil) yl_nil (by kernel_rfl) (.inl (by kernel_rfl))
theorem kr287 : FnOk V 287 r287 := fnS_ok (C := cr287) (vs := vs) mem_ok (glk rfl) mo fn_nil yl_nil (by kernel_rfl) (.inl (by kernel_rfl))
theorem kr237 : FnOk V 237 r237 := fnS_ok (C := cr237) (vs := vs) mem_ok (glk rfl) mo (fn_cons kr78 (fn_cons kr84 (fn_cons kr283 (fn_cons kr287 fn_nil)))) yl_nil (by kernel_rfl) (.inl (by kernel_rfl))
theorem kr316 : FnOk V 316 r316 := fnS_ok (C := cr316) (vs := vs) mem_ok (glk rfl) mo (fn_cons kr84 fn_nil) yl_nil (by kernel_rfl) (.inl (by kernel_rfl))
theorem kr317 : FnOk V 317 r317 := fnS_ok (C := cr317) (vs := vs) mem_ok (glk rfl) mo (fn_cons kr133 (fn_cons kr316 fn_nil)) yl_nil (by kernel_rfl) (.inl (by kernel_rfl))
theorem kr288 : FnOk V 288 r288 := fnS_ok (C := cr288) (vs := vs) mem_ok (glk rfl) mo (fn_cons kr222 (fn_cons kr287 (fn_cons kr317 fn_nil))) yl_nil (by kernel_rfl) (.inl (by kernel_rfl))
theorem kr239 : FnOk V 239 r239 := fnS_ok (C := cr239) (vs := vs) mem_ok (glk rfl) mo (fn_cons kr156 (fn_cons kr288 fn_nil)) yl_nil (by kernel_rfl) (.inl (by kernel_rfl))
theorem kr153 : FnOk V 153 r153 := fnS_ok (C := cr153) (vs := vs) mem_ok (glk rfl) mo (fn_cons kr156 (fn_cons kr237 (fn_cons kr239 fn_nil))) yl_nil (by kernel_rfl) (.inl (by kernel_rfl))
theorem kr240 : FnOk V 240 r240 := fnS_ok (C := cr240) (vs := vs) mem_ok (glk rfl) mo (fn_cons kr27 (fn_cons kr156 fn_nil)) yl_nil (by kernel_rfl) (.inl (by kernel_rfl))
theorem kr154 : FnOk V 154 r154 := fnS_ok (C := cr154) (vs := vs) mem_ok (glk rfl) mo (fn_cons kr53 (fn_cons kr54 (fn_cons kr240 fn_nil))) yl_nil (by kernel_rfl) (.inl (by kernel_rfl))
theorem kr241 : FnOk V 241 r241 := fnS_ok (C := cr241) (vs := vs) mem_ok (glk rfl) mo fn_nil yl_nil (by kernel_rfl) (.inl (by kernel_rfl))
theorem kr155 : FnOk V 155 r155 := fnS_ok (C := cr155) (vs := vs) mem_ok (glk rfl) mo (fn_cons kr21 (fn_cons kr241 fn_nil)) yl_nil (by kernel_rfl) (.inl (by kernel_rfl))
theorem kr158 : FnOk V 158 r158 := fnS_ok (C := cr158) (vs := vs) mem_ok (glk rfl) mo (fn_cons kr154 (fn_cons kr155 (fn_cons kr156 fn_nil))) yl_nil (by kernel_rfl) (.inl (by kernel_rfl))
theorem kr244 : FnOk V 244 r244 := fnS_ok (C := cr244) (vs := vs) mem_ok (glk rfl) mo (fn_cons kr84 fn_nil) yl_nil (by kernel_rfl) (.inl (by kernel_rfl))
theorem kr318 : FnOk V 318 r318 := fnS_ok (C := cr318) (vs := vs) mem_ok (glk rfl) mo (fn_cons kr28 (fn_cons kr218 (fn_cons kr284 fn_nil))) yl_nil (by kernel_rfl) (.inl (by kernel_rfl))
theorem kr289 : FnOk V 289 r289 := fnS_ok (C := cr289) (vs := vs) mem_ok (glk rfl) mo (fn_cons kr318 fn_nil) yl_nil (by kernel_rfl) (.inl (by kernel_rfl))
theorem kr246 : FnOk V 246 r246 := fnS_ok (C := cr246) (vs := vs) mem_ok (glk rfl) mo (fn_cons kr147 (fn_cons kr289 fn_nil)) yl_nil (by kernel_rfl) (.inl (by kernel_rfl))
theorem kr159 : FnOk V 159 r159 := fnS_ok (C := cr159) (vs := vs) mem_ok (glk rfl) mo (fn_cons kr156 (fn_cons kr244 (fn_cons kr246 fn_nil))) yl_nil (by kernel_rfl) (.inl (by kernel_rfl))
theorem kr242 : FnOk V 242 r242 := fnS_ok (C := cr242) (vs := vs) mem_ok (glk rfl) mo fn_nil yl_nil (by kernel_rfl) (.inl (by kernel_rfl))
theorem kr298 : FnOk V 298 r298 := fnS_ok (C := cr298) (vs := vs) mem_ok (glk rfl) mo (fn_cons kr50 (fn_cons kr52 fn_nil)) yl_nil (by kernel_rfl) (.inl (by kernel_rfl))
theorem kr247 : FnOk V 247 r247 := fnS_ok (C := cr247) (vs := vs) mem_ok (glk rfl) mo (fn_cons kr53 (fn_cons kr298 fn_nil)) yl_nil (by kernel_rfl) (.inl (by kernel_rfl))
theorem kr160 : FnOk V 160 r160 := fnS_ok (C := cr160) (vs := vs) mem_ok (glk rfl) mo (fn_cons kr242 (fn_cons kr247 fn_nil)) yl_nil (by kernel_rfl) (.inl (by kernel_rfl))
theorem kr93 : FnOk V 93 r93 := fnS_ok (C := cr93) (vs := vs) mem_ok (glk rfl) mo (fn_cons kr153 (fn_cons kr154 (fn_cons kr155 (fn_cons kr156 (fn_cons kr158 (fn_cons kr159 (fn_cons kr160 fn_nil))))))) yl_nil (by kernel_rfl) (.inl (by kernel_rfl))
theorem kr60 : FnOk V 60 r60 := fnS_ok (C := cr60) (vs := vs) mem_ok (glk rfl) mo (fn_cons kr89 (fn_cons kr90 (fn_cons kr91 (fn_cons kr92 (fn_cons kr93 (fn_cons kr94 fn_nil)))))) yl_nil (by kernel_rfl) (.inl (by kernel_rfl))
theorem kq30 : FnOk V 30 q30 := fnS_ok (C := cr30) (vs := vs) mem_ok (glk rfl) mo (fn_cons kr19 (fn_cons kr27 (fn_cons kr28 (fn_cons kr29 (fn_cons kr57 (fn_cons kr58 (fn_cons kr59 (fn_cons kr60 fn_nil)))))))) yl_nil (by kernel_rfl) (.inl (by kernel_rfl))
theorem kq30_5 : FnOk V 30 q30_5 := knownF_ok kq30 (cptF_ok kq30) e30_5
theorem kq30_32 : FnOk V 30 q30_32 := knownF_ok kq30_5 (cptF_ok kq30) e30_32
theorem kq30_43 : FnOk V 30 q30_43 := knownF_ok kq30_32 (cptF_ok kq30) e30_43
theorem kq30_64 : FnOk V 30 q30_64 := knownF_ok kq30_43 (cptF_ok kq30) e30_64
theorem kq30_96 : FnOk V 30 q30_96 := knownF_ok kq30_64 (cptF_ok kq30) e30_96
theorem kq30_233 : FnOk V 30 q30_233 := knownF_ok kq30_96 (cptF_ok kq30) e30_233
theorem kq30_255 : FnOk V 30 q30_255 := knownF_ok kq30_233 (cptF_ok kq30) e30_255
theorem kq30_286 : FnOk V 30 q30_286 := knownF_ok kq30_255 (cptF_ok kq30) e30_286
theorem kq30_327 : FnOk V 30 q30_327 := knownF_ok kq30_286 (cptF_ok kq30) e30_327
theorem kq30_7 : FnOk V 30 q30_7 := knownF_ok kq30 (cptF_ok kq30) e30_7
theorem kq30_34 : FnOk V 30 q30_34 := knownF_ok kq30_7 (cptF_ok kq30) e30_34
theorem kq30_66 : FnOk V 30 q30_66 := knownF_ok kq30_34 (cptF_ok kq30) e30_66
theorem kq30_98 : FnOk V 30 q30_98 := knownF_ok kq30_66 (cptF_ok kq30) e30_98
theorem kq30_235 : FnOk V 30 q30_235 := knownF_ok kq30_98 (cptF_ok kq30) e30_235
theorem kq30_257 : FnOk V 30 q30_257 := knownF_ok kq30_235 (cptF_ok kq30) e30_257
theorem kq30_288 : FnOk V 30 q30_288 := knownF_ok kq30_257 (cptF_ok kq30) e30_288
theorem kq30_329 : FnOk V 30 q30_329 := knownF_ok kq30_288 (cptF_ok kq30) e30_329
theorem kq30_9 : FnOk V 30 q30_9 := knownF_ok kq30 (cptF_ok kq30) e30_9
theorem kq30_36 : FnOk V 30 q30_36 := knownF_ok kq30_9 (cptF_ok kq30) e30_36
theorem kq30_68 : FnOk V 30 q30_68 := knownF_ok kq30_36 (cptF_ok kq30) e30_68
theorem kq30_100 : FnOk V 30 q30_100 := knownF_ok kq30_68 (cptF_ok kq30) e30_100
theorem kq30_237 : FnOk V 30 q30_237 := knownF_ok kq30_100 (cptF_ok kq30) e30_237
theorem kq30_259 : FnOk V 30 q30_259 := knownF_ok kq30_237 (cptF_ok kq30) e30_259
theorem kq30_290 : FnOk V 30 q30_290 := knownF_ok kq30_259 (cptF_ok kq30) e30_290
theorem kq30_331 : FnOk V 30 q30_331 := knownF_ok kq30_290 (cptF_ok kq30) e30_331
theorem kq30_11 : FnOk V 30 q30_11 := knownF_ok kq30 (cptF_ok kq30) e30_11
theorem kq30_38 : FnOk V 30 q30_38 := knownF_ok kq30_11 (cptF_ok kq30) e30_38
theorem kq30_70 : FnOk V 30 q30_70 := knownF_ok kq30_38 (cptF_ok kq30) e30_70
theorem kq30_102 : FnOk V 30 q30_102 := knownF_ok kq30_70 (cptF_ok kq30) e30_102
theorem kq30_239 : FnOk V 30 q30_239 := knownF_ok kq30_102 (cptF_ok kq30) e30_239
theorem kq30_261 : FnOk V 30 q30_261 := knownF_ok kq30_239 (cptF_ok kq30) e30_261
theorem kq30_292 : FnOk V 30 q30_292 := knownF_ok kq30_261 (cptF_ok kq30) e30_292
theorem kq30_335 : FnOk V 30 q30_335 := knownF_ok kq30_292 (cptF_ok kq30) e30_335
theorem kq30_13 : FnOk V 30 q30_13 := knownF_ok kq30 (cptF_ok kq30) e30_13
theorem kq30_40 : FnOk V 30 q30_40 := knownF_ok kq30_13 (cptF_ok kq30) e30_40
theorem kq30_72 : FnOk V 30 q30_72 := knownF_ok kq30_40 (cptF_ok kq30) e30_72
theorem kq30_104 : FnOk V 30 q30_104 := knownF_ok kq30_72 (cptF_ok kq30) e30_104
theorem kq30_241 : FnOk V 30 q30_241 := knownF_ok kq30_104 (cptF_ok kq30) e30_241
theorem kq30_263 : FnOk V 30 q30_263 := knownF_ok kq30_241 (cptF_ok kq30) e30_263
theorem kq30_294 : FnOk V 30 q30_294 := knownF_ok kq30_263 (cptF_ok kq30) e30_294
theorem kq30_15 : FnOk V 30 q30_15 := knownF_ok kq30 (cptF_ok kq30) e30_15
theorem kq30_42 : FnOk V 30 q30_42 := knownF_ok kq30_15 (cptF_ok kq30) e30_42
theorem kq30_74 : FnOk V 30 q30_74 := knownF_ok kq30_42 (cptF_ok kq30) e30_74
theorem kq30_106 : FnOk V 30 q30_106 := knownF_ok kq30_74 (cptF_ok kq30) e30_106
theorem kq30_243 : FnOk V 30 q30_243 := knownF_ok kq30_106 (cptF_ok kq30) e30_243
theorem kq30_265 : FnOk V 30 q30_265 := knownF_ok kq30_243 (cptF_ok kq30) e30_265
theorem kq30_296 : FnOk V 30 q30_296 := knownF_ok kq30_265 (cptF_ok kq30) e30_296
theorem kq30_17 : FnOk V 30 q30_17 := knownF_ok kq30 (cptF_ok kq30) e30_17
theorem kq30_45 : FnOk V 30 q30_45 := knownF_ok kq30_17 (cptF_ok kq30) e30_45
theorem kq30_76 : FnOk V 30 q30_76 := knownF_ok kq30_45 (cptF_ok kq30) e30_76
theorem kq30_108 : FnOk V 30 q30_108 := knownF_ok kq30_76 (cptF_ok kq30) e30_108
theorem kq30_245 : FnOk V 30 q30_245 := knownF_ok kq30_108 (cptF_ok kq30) e30_245
theorem kq30_267 : FnOk V 30 q30_267 := knownF_ok kq30_245 (cptF_ok kq30) e30_267
theorem kq30_19 : FnOk V 30 q30_19 := knownF_ok kq30 (cptF_ok kq30) e30_19
theorem kq30_47 : FnOk V 30 q30_47 := knownF_ok kq30_19 (cptF_ok kq30) e30_47
theorem kq30_78 : FnOk V 30 q30_78 := knownF_ok kq30_47 (cptF_ok kq30) e30_78
theorem kq30_110 : FnOk V 30 q30_110 := knownF_ok kq30_78 (cptF_ok kq30) e30_110
theorem kq30_247 : FnOk V 30 q30_247 := knownF_ok kq30_110 (cptF_ok kq30) e30_247
theorem kq30_269 : FnOk V 30 q30_269 := knownF_ok kq30_247 (cptF_ok kq30) e30_269
theorem kq30_21 : FnOk V 30 q30_21 := knownF_ok kq30 (cptF_ok kq30) e30_21
theorem kq30_49 : FnOk V 30 q30_49 := knownF_ok kq30_21 (cptF_ok kq30) e30_49
theorem kq30_80 : FnOk V 30 q30_80 := knownF_ok kq30_49 (cptF_ok kq30) e30_80
theorem kq30_112 : FnOk V 30 q30_112 := knownF_ok kq30_80 (cptF_ok kq30) e30_112
theorem kq30_271 : FnOk V 30 q30_271 := knownF_ok kq30_112 (cptF_ok kq30) e30_271
theorem kq30_23 : FnOk V 30 q30_23 := knownF_ok kq30 (cptF_ok kq30) e30_23
theorem kq30_51 : FnOk V 30 q30_51 := knownF_ok kq30_23 (cptF_ok kq30) e30_51
theorem kq30_82 : FnOk V 30 q30_82 := knownF_ok kq30_51 (cptF_ok kq30) e30_82
theorem kq30_114 : FnOk V 30 q30_114 := knownF_ok kq30_82 (cptF_ok kq30) e30_114
theorem kq30_273 : FnOk V 30 q30_273 := knownF_ok kq30_114 (cptF_ok kq30) e30_273
theorem kq30_53 : FnOk V 30 q30_53 := knownF_ok kq30 (cptF_ok kq30) e30_53
theorem kq30_84 : FnOk V 30 q30_84 := knownF_ok kq30_53 (cptF_ok kq30) e30_84
theorem kq30_116 : FnOk V 30 q30_116 := knownF_ok kq30_84 (cptF_ok kq30) e30_116
theorem kq30_275 : FnOk V 30 q30_275 := knownF_ok kq30_116 (cptF_ok kq30) e30_275
theorem kq30_55 : FnOk V 30 q30_55 := knownF_ok kq30 (cptF_ok kq30) e30_55
theorem kq30_86 : FnOk V 30 q30_86 := knownF_ok kq30_55 (cptF_ok kq30) e30_86
theorem kq30_118 : FnOk V 30 q30_118 := knownF_ok kq30_86 (cptF_ok kq30) e30_118
theorem kq30_277 : FnOk V 30 q30_277 := knownF_ok kq30_118 (cptF_ok kq30) e30_277
theorem kq30_88 : FnOk V 30 q30_88 := knownF_ok kq30 (cptF_ok kq30) e30_88
theorem kq30_120 : FnOk V 30 q30_120 := knownF_ok kq30_88 (cptF_ok kq30) e30_120
theorem kq30_279 : FnOk V 30 q30_279 := knownF_ok kq30_120 (cptF_ok kq30) e30_279
theorem kq30_122 : FnOk V 30 q30_122 := knownF_ok kq30 (cptF_ok kq30) e30_122
theorem kq30_124 : FnOk V 30 q30_124 := knownF_ok kq30 (cptF_ok kq30) e30_124
theorem kq30_126 : FnOk V 30 q30_126 := knownF_ok kq30 (cptF_ok kq30) e30_126
theorem kq30_128 : FnOk V 30 q30_128 := knownF_ok kq30 (cptF_ok kq30) e30_128
theorem kq30_130 : FnOk V 30 q30_130 := knownF_ok kq30 (cptF_ok kq30) e30_130
theorem kq30_132 : FnOk V 30 q30_132 := knownF_ok kq30 (cptF_ok kq30) e30_132
theorem kq30_134 : FnOk V 30 q30_134 := knownF_ok kq30 (cptF_ok kq30) e30_134
theorem kq30_136 : FnOk V 30 q30_136 := knownF_ok kq30 (cptF_ok kq30) e30_136
theorem kq30_138 : FnOk V 30 q30_138 := knownF_ok kq30 (cptF_ok kq30) e30_138
theorem kq30_140 : FnOk V 30 q30_140 := knownF_ok kq30 (cptF_ok kq30) e30_140
theorem kq30_142 : FnOk V 30 q30_142 := knownF_ok kq30 (cptF_ok kq30) e30_142
theorem kq30_144 : FnOk V 30 q30_144 := knownF_ok kq30 (cptF_ok kq30) e30_144
theorem kq30_146 : FnOk V 30 q30_146 := knownF_ok kq30 (cptF_ok kq30) e30_146
theorem kq30_148 : FnOk V 30 q30_148 := knownF_ok kq30 (cptF_ok kq30) e30_148
theorem kq30_150 : FnOk V 30 q30_150 := knownF_ok kq30 (cptF_ok kq30) e30_150
theorem kq30_152 : FnOk V 30 q30_152 := knownF_ok kq30 (cptF_ok kq30) e30_152
theorem kq30_154 : FnOk V 30 q30_154 := knownF_ok kq30 (cptF_ok kq30) e30_154
theorem kq30_156 : FnOk V 30 q30_156 := knownF_ok kq30 (cptF_ok kq30) e30_156
theorem kq30_158 : FnOk V 30 q30_158 := knownF_ok kq30 (cptF_ok kq30) e30_158
theorem kq30_160 : FnOk V 30 q30_160 := knownF_ok kq30 (cptF_ok kq30) e30_160
theorem kq30_162 : FnOk V 30 q30_162 := knownF_ok kq30 (cptF_ok kq30) e30_162
theorem kq30_164 : FnOk V 30 q30_164 := knownF_ok kq30 (cptF_ok kq30) e30_164
theorem kq30_166 : FnOk V 30 q30_166 := knownF_ok kq30 (cptF_ok kq30) e30_166
theorem kq30_168 : FnOk V 30 q30_168 := knownF_ok kq30 (cptF_ok kq30) e30_168
theorem kq30_170 : FnOk V 30 q30_170 := knownF_ok kq30 (cptF_ok kq30) e30_170
theorem kq30_172 : FnOk V 30 q30_172 := knownF_ok kq30 (cptF_ok kq30) e30_172
theorem kq30_174 : FnOk V 30 q30_174 := knownF_ok kq30 (cptF_ok kq30) e30_174
theorem kq30_176 : FnOk V 30 q30_176 := knownF_ok kq30 (cptF_ok kq30) e30_176
theorem kq30_178 : FnOk V 30 q30_178 := knownF_ok kq30 (cptF_ok kq30) e30_178
theorem kq30_180 : FnOk V 30 q30_180 := knownF_ok kq30 (cptF_ok kq30) e30_180
theorem kq30_182 : FnOk V 30 q30_182 := knownF_ok kq30 (cptF_ok kq30) e30_182
theorem kq30_184 : FnOk V 30 q30_184 := knownF_ok kq30 (cptF_ok kq30) e30_184
theorem kq30_186 : FnOk V 30 q30_186 := knownF_ok kq30 (cptF_ok kq30) e30_186
theorem kq30_188 : FnOk V 30 q30_188 := knownF_ok kq30 (cptF_ok kq30) e30_188
theorem kq30_190 : FnOk V 30 q30_190 := knownF_ok kq30 (cptF_ok kq30) e30_190
theorem kq30_192 : FnOk V 30 q30_192 := knownF_ok kq30 (cptF_ok kq30) e30_192
theorem kq30_194 : FnOk V 30 q30_194 := knownF_ok kq30 (cptF_ok kq30) e30_194
theorem kq30_196 : FnOk V 30 q30_196 := knownF_ok kq30 (cptF_ok kq30) e30_196
theorem kq30_198 : FnOk V 30 q30_198 := knownF_ok kq30 (cptF_ok kq30) e30_198
theorem kq30_200 : FnOk V 30 q30_200 := knownF_ok kq30 (cptF_ok kq30) e30_200
theorem kq30_202 : FnOk V 30 q30_202 := knownF_ok kq30 (cptF_ok kq30) e30_202
theorem kq30_204 : FnOk V 30 q30_204 := knownF_ok kq30 (cptF_ok kq30) e30_204
theorem kq30_206 : FnOk V 30 q30_206 := knownF_ok kq30 (cptF_ok kq30) e30_206
theorem kq30_208 : FnOk V 30 q30_208 := knownF_ok kq30 (cptF_ok kq30) e30_208
theorem kq30_210 : FnOk V 30 q30_210 := knownF_ok kq30 (cptF_ok kq30) e30_210
theorem kq30_212 : FnOk V 30 q30_212 := knownF_ok kq30 (cptF_ok kq30) e30_212
theorem kq30_214 : FnOk V 30 q30_214 := knownF_ok kq30 (cptF_ok kq30) e30_214
theorem kq30_216 : FnOk V 30 q30_216 := knownF_ok kq30 (cptF_ok kq30) e30_216
theorem kq30_218 : FnOk V 30 q30_218 := knownF_ok kq30 (cptF_ok kq30) e30_218
theorem kq30_220 : FnOk V 30 q30_220 := knownF_ok kq30 (cptF_ok kq30) e30_220
theorem kq30_222 : FnOk V 30 q30_222 := knownF_ok kq30 (cptF_ok kq30) e30_222
theorem kq30_224 : FnOk V 30 q30_224 := knownF_ok kq30 (cptF_ok kq30) e30_224
theorem kq30_226 : FnOk V 30 q30_226 := knownF_ok kq30 (cptF_ok kq30) e30_226
theorem kr30 : FnOk V 30 r30 := chooseF_ok (ch_cons kq30_327 (ch_cons kq30_329 (ch_cons kq30_331 (ch_cons kq30_335 (ch_cons kq30_294 (ch_cons kq30_296 (ch_cons kq30_267 (ch_cons kq30_269 (ch_cons kq30_271 (ch_cons kq30_273 (ch_cons kq30_275 (ch_cons kq30_277 (ch_cons kq30_279 (ch_cons kq30_122 (ch_cons kq30_124 (ch_cons kq30_126 (ch_cons kq30_128 (ch_cons kq30_130 (ch_cons kq30_132 (ch_cons kq30_134 (ch_cons kq30_136 (ch_cons kq30_138 (ch_cons kq30_140 (ch_cons kq30_142 (ch_cons kq30_144 (ch_cons kq30_146 (ch_cons kq30_148 (ch_cons kq30_150 (ch_cons kq30_152 (ch_cons kq30_154 (ch_cons kq30_156 (ch_cons kq30_158 (ch_cons kq30_160 (ch_cons kq30_162 (ch_cons kq30_164 (ch_cons kq30_166 (ch_cons kq30_168 (ch_cons kq30_170 (ch_cons kq30_172 (ch_cons kq30_174 (ch_cons kq30_176 (ch_cons kq30_178 (ch_cons kq30_180 (ch_cons kq30_182 (ch_cons kq30_184 (ch_cons kq30_186 (ch_cons kq30_188 (ch_cons kq30_190 (ch_cons kq30_192 (ch_cons kq30_194 (ch_cons kq30_196 (ch_cons kq30_198 (ch_cons kq30_200 (ch_cons kq30_202 (ch_cons kq30_204 (ch_cons kq30_206 (ch_cons kq30_208 (ch_cons kq30_210 (ch_cons kq30_212 (ch_cons kq30_214 (ch_cons kq30_216 (ch_cons kq30_218 (ch_cons kq30_220 (ch_cons kq30_222 (ch_cons kq30_224 (ch_cons kq30_226 ch_nil)))))))))))))))))))))))))))))))))))))))))))))))))))))))))))))))))) kq30
theorem kr61 : FnOk V 61 r61 := fnS_ok (C := cr61) (vs := vs) mem_ok (glk rfl) mo (fn_cons kr57 (fn_cons kr58 fn_nil)) yl_nil (by kernel_rfl) (.inl (by kernel_rfl))
theorem kr31 : FnOk V 31 r31 := fnS_ok (C := cr31) (vs := vs) mem_ok (glk rfl) mo (fn_cons kr61 fn_nil) yl_nil (by kernel_rfl) (.inl (by kernel_rfl))
theorem kq8 : FnOk V 8 q8 := fnS_ok (C := cr8) (vs := vs) mem_ok (glk rfl) mo (fn_cons kr19 (fn_cons kr26 (fn_cons kr27 (fn_cons kr28 (fn_cons kr29 (fn_cons kr30 (fn_cons kr31 fn_nil))))))) yl_nil (by kernel_rfl) (.inl (by kernel_rfl))
theorem kq8_25 : FnOk V 8 q8_25 := knownF_ok kq8 (cptF_ok kq8) e8_25
theorem kq8_57 : FnOk V 8 q8_57 := knownF_ok kq8_25 (cptF_ok kq8) e8_57
theorem kq8_89 : FnOk V 8 q8_89 := knownF_ok kq8_57 (cptF_ok kq8) e8_89
theorem kq8_227 : FnOk V 8 q8_227 := knownF_ok kq8_89 (cptF_ok kq8) e8_227
theorem kq8_248 : FnOk V 8 q8_248 := knownF_ok kq8_227 (cptF_ok kq8) e8_248
theorem kq8_280 : FnOk V 8 q8_280 := knownF_ok kq8_248 (cptF_ok kq8) e8_280
theorem kq8_297 : FnOk V 8 q8_297 := knownF_ok kq8_280 (cptF_ok kq8) e8_297
theorem kq8_300 : FnOk V 8 q8_300 := knownF_ok kq8_297 (cptF_ok kq8) e8_300
theorem kq8_313 : FnOk V 8 q8_313 := knownF_ok kq8_300 (cptF_ok kq8) e8_313
theorem kq8_315 : FnOk V 8 q8_315 := knownF_ok kq8_313 (cptF_ok kq8) e8_315
theorem kq8_316 : FnOk V 8 q8_316 := knownF_ok kq8_315 (cptF_ok kq8) e8_316
theorem kq8_317 : FnOk V 8 q8_317 := knownF_ok kq8_316 (cptF_ok kq8) e8_317
theorem kq8_319 : FnOk V 8 q8_319 := knownF_ok kq8_317 (cptF_ok kq8) e8_319
theorem kq8_333 : FnOk V 8 q8_333 := knownF_ok kq8_319 (cptF_ok kq8) e8_333
theorem kr8 : FnOk V 8 r8 := knownF_ok kq8_333 (cptF_ok kq8) e8_336
theorem kq9 : FnOk V 9 q9 := fnS_ok (C := cr9) (vs := vs) mem_ok (glk rfl) mo (fn_cons kr5 (fn_cons kr8 (fn_cons kr18 (fn_cons kr19 fn_nil)))) yl_nil (by kernel_rfl) (.inl (by kernel_rfl))
theorem kq9_26 : FnOk V 9 q9_26 := knownF_ok kq9 (cptF_ok kq9) e9_26
theorem kq9_58 : FnOk V 9 q9_58 := knownF_ok kq9_26 (cptF_ok kq9) e9_58
theorem kq9_90 : FnOk V 9 q9_90 := knownF_ok kq9_58 (cptF_ok kq9) e9_90
theorem kq9_228 : FnOk V 9 q9_228 := knownF_ok kq9_90 (cptF_ok kq9) e9_228
theorem kq9_249 : FnOk V 9 q9_249 := knownF_ok kq9_228 (cptF_ok kq9) e9_249
theorem kq9_281 : FnOk V 9 q9_281 := knownF_ok kq9_249 (cptF_ok kq9) e9_281
theorem kq9_298 : FnOk V 9 q9_298 := knownF_ok kq9_281 (cptF_ok kq9) e9_298
theorem kq9_301 : FnOk V 9 q9_301 := knownF_ok kq9_298 (cptF_ok kq9) e9_301
theorem kq9_320 : FnOk V 9 q9_320 := knownF_ok kq9_301 (cptF_ok kq9) e9_320
theorem kq9_321 : FnOk V 9 q9_321 := knownF_ok kq9_320 (cptF_ok kq9) e9_321
theorem kq9_322 : FnOk V 9 q9_322 := knownF_ok kq9_321 (cptF_ok kq9) e9_322
theorem kq9_323 : FnOk V 9 q9_323 := knownF_ok kq9_322 (cptF_ok kq9) e9_323
theorem kq9_334 : FnOk V 9 q9_334 := knownF_ok kq9_323 (cptF_ok kq9) e9_334
theorem kr9 : FnOk V 9 r9 := knownF_ok kq9_334 (cptF_ok kq9) e9_337
theorem kr325 : FnOk V 325 r325 := (h325 rfl)
theorem kr301 : FnOk V 301 r301 := fnS_ok (C := cr301) (vs := vs) mem_ok (glk rfl) mo (fn_cons kr325 fn_nil) yl_nil (by kernel_rfl) (.inl (by kernel_rfl))
theorem kr300 : FnOk V 300 r300 := h300 (fnS_ok (C := cr300) (vs := vs) mem_ok (glk rfl) mo (fn_cons kr301 fn_nil) yl_nil (by kernel_rfl) (.inl (by kernel_rfl)))
theorem kr248 : FnOk V 248 r248 := fnS_ok (C := cr248) (vs := vs) mem_ok (glk rfl) mo (fn_cons kr300 (fn_cons kr301 fn_nil)) yl_nil (by kernel_rfl) (.inl (by kernel_rfl))
theorem kr161 : FnOk V 161 r161 := fnS_ok (C := cr161) (vs := vs) mem_ok (glk rfl) mo (fn_cons kr248 fn_nil) yl_nil (by kernel_rfl) (.inl (by kernel_rfl))
theorem kr162 : FnOk V 162 r162 := fnS_ok (C := cr162) (vs := vs) mem_ok (glk rfl) mo fn_nil yl_nil (by kernel_rfl) (.inl (by kernel_rfl))
theorem kr251 : FnOk V 251 r251 := fnS_ok (C := cr251) (vs := vs) mem_ok (glk rfl) mo fn_nil yl_nil (by kernel_rfl) (.inl (by kernel_rfl))
theorem kr252 : FnOk V 252 r252 := fnS_ok (C := cr252) (vs := vs) mem_ok (glk rfl) mo fn_nil yl_nil (by kernel_rfl) (.inl (by kernel_rfl))
theorem kr163 : FnOk V 163 r163 := fnS_ok (C := cr163) (vs := vs) mem_ok (glk rfl) mo (fn_cons kr251 (fn_cons kr252 fn_nil)) yl_nil (by kernel_rfl) (.inl (by kernel_rfl))
theorem kr164 : FnOk V 164 r164 := (h164 rfl)
theorem kr95 : FnOk V 95 r95 := fnS_ok (C := cr95) (vs := vs) mem_ok (glk rfl) mo (fn_cons kr161 (fn_cons kr162 (fn_cons kr163 (fn_cons kr164 fn_nil)))) yl_nil (by kernel_rfl) (.inl (by kernel_rfl))
theorem kr331 : FnOk V 331 r331 := fnS_ok (C := cr331) (vs := vs) mem_ok (glk rfl) mo fn_nil yl_nil (by kernel_rfl) (.inl (by kernel_rfl))
theorem kr308 : FnOk V 308 r308 := fnS_ok (C := cr308) (vs := vs) mem_ok (glk rfl) mo (fn_cons kr331 fn_nil) yl_nil (by kernel_rfl) (.inl (by kernel_rfl))
theorem kr255 : FnOk V 255 r255 := fnS_ok (C := cr255) (vs := vs) mem_ok (glk rfl) mo (fn_cons kr308 fn_nil) yl_nil (by kernel_rfl) (.inl (by kernel_rfl))
theorem kr166 : FnOk V 166 r166 := fnS_ok (C := cr166) (vs := vs) mem_ok (glk rfl) mo (fn_cons kr255 fn_nil) yl_nil (by kernel_rfl) (.inl (by kernel_rfl))
theorem kr96 : FnOk V 96 r96 := fnS_ok (C := cr96) (vs := vs) mem_ok (glk rfl) mo (fn_cons kr166 fn_nil) yl_nil (by kernel_rfl) (.inl (by kernel_rfl))
theorem kr256 : FnOk V 256 r256 := fnS_ok (C := cr256) (vs := vs) mem_ok (glk rfl) mo fn_nil yl_nil (by kernel_rfl) (.inl (by kernel_rfl))
theorem kr257 : FnOk V 257 r257 := fnS_ok (C := cr257) (vs := vs) mem_ok (glk rfl) mo fn_nil yl_nil (by kernel_rfl) (.inl (by kernel_rfl))
theorem kr258 : FnOk V 258 r258 := fnS_ok (C := cr258) (vs := vs) mem_ok (glk rfl) mo fn_nil yl_nil (by kernel_rfl) (.inl (by kernel_rfl))
theorem kr167 : FnOk V 167 r167 := fnS_ok (C := cr167) (vs := vs) mem_ok (glk rfl) mo (fn_cons kr50 (fn_cons kr75 (fn_cons kr256 (fn_cons kr257 (fn_cons kr258 fn_nil))))) yl_nil (by kernel_rfl) (.inl (by kernel_rfl))
theorem kr97 : FnOk V 97 r97 := fnS_ok (C := cr97) (vs := vs) mem_ok (glk rfl) mo (fn_cons kr167 fn_nil) yl_nil (by kernel_rfl) (.inl (by kernel_rfl))
theorem kr98 : FnOk V 98 r98 := fnS_ok (C := cr98) (vs := vs) mem_ok (glk rfl) mo (fn_cons kr162 (fn_cons kr164 fn_nil)) yl_nil (by kernel_rfl) (.inl (by kernel_rfl))
theorem kr62 : FnOk V 62 r62 := fnS_ok (C := cr62) (vs := vs) mem_ok (glk rfl) mo (fn_cons kr95 (fn_cons kr96 (fn_cons kr97 (fn_cons kr98 fn_nil)))) yl_nil (by kernel_rfl) (.inl (by kernel_rfl))
theorem kq32 : FnOk V 32 q32 := fnS_ok (C := cr32) (vs := vs) mem_ok (glk rfl) mo (fn_cons kr62 fn_nil) yl_nil (by kernel_rfl) (.inl (by kernel_rfl))
theorem kq32_0 : FnOk V 32 q32_0 := knownF_ok kq32 (cptF_ok kq32) e32_0
theorem kq32_27 : FnOk V 32 q32_27 := knownF_ok kq32_0 (cptF_ok kq32) e32_27
theorem kq32_59 : FnOk V 32 q32_59 := knownF_ok kq32_27 (cptF_ok kq32) e32_59
theorem kq32_91 : FnOk V 32 q32_91 := knownF_ok kq32_59 (cptF_ok kq32) e32_91
theorem kq32_229 : FnOk V 32 q32_229 := knownF_ok kq32_91 (cptF_ok kq32) e32_229
theorem kq32_250 : FnOk V 32 q32_250 := knownF_ok kq32_229 (cptF_ok kq32) e32_250
theorem kq32_282 : FnOk V 32 q32_282 := knownF_ok kq32_250 (cptF_ok kq32) e32_282
theorem kr32 : FnOk V 32 r32 := knownF_ok kq32_282 (cptF_ok kq32) e32_299
theorem kr10 : FnOk V 10 r10 := fnS_ok (C := cr10) (vs := vs) mem_ok (glk rfl) mo (fn_cons kr9 (fn_cons kr32 fn_nil)) yl_nil (by kernel_rfl) (.inl (by kernel_rfl))
theorem kr63 : FnOk V 63 r63 := fnS_ok (C := cr63) (vs := vs) mem_ok (glk rfl) mo (fn_cons kr99 fn_nil) yl_nil (by kernel_rfl) (.inl (by kernel_rfl))
theorem kr33 : FnOk V 33 r33 := fnS_ok (C := cr33) (vs := vs) mem_ok (glk rfl) mo (fn_cons kr63 (fn_cons kr64 fn_nil)) yl_nil (by kernel_rfl) (.inl (by kernel_rfl))
theorem kr34 : FnOk V 34 r34 := fnS_ok (C := cr34) (vs := vs) mem_ok (glk rfl) mo fn_nil yl_nil (by kernel_rfl) (.inl (by kernel_rfl))
theorem kr35 : FnOk V 35 r35 := fnS_ok (C := cr35) (vs := vs) mem_ok (glk rfl) mo fn_nil yl_nil (by kernel_rfl) (.inl (by kernel_rfl))
theorem kq11 : FnOk V 11 q11 := fnS_ok (C := cr11) (vs := vs) mem_ok (glk rfl) mo (fn_cons kr33 (fn_cons kr34 (fn_cons kr35 fn_nil))) yl_nil (by kernel_rfl) (.inl (by kernel_rfl))
theorem kr11 : FnOk V 11 r11 := knownF_ok kq11 (cptF_ok kq11) e11_338
theorem kr3 : FnOk V 3 r3 := fnS_ok (C := cr3) (vs := vs) mem_ok (glk rfl) mo (fn_cons kr4 (fn_cons kr5 (fn_cons kr6 (fn_cons kr7 (fn_cons kr8 (fn_cons kr9 (fn_cons kr10 (fn_cons kr11 fn_nil)))))))) yl_nil (by kernel_rfl) (.inl (by kernel_rfl))
theorem kr253 : FnOk V 253 r253 := fnS_ok (C := cr253) (vs := vs) mem_ok (glk rfl) mo fn_nil yl_nil (by kernel_rfl) (.inl (by kernel_rfl))
theorem kr329 : FnOk V 329 r329 := fnS_ok (C := cr329) (vs := vs) mem_ok (glk rfl) mo fn_nil yl_nil (by kernel_rfl) (.inl (by kernel_rfl))
theorem kr304 : FnOk V 304 r304 := fnS_ok (C := cr304) (vs := vs) mem_ok (glk rfl) mo (fn_cons kr329 fn_nil) yl_nil (by kernel_rfl) (.inl (by kernel_rfl))
theorem kr254 : FnOk V 254 r254 := fnS_ok (C := cr254) (vs := vs) mem_ok (glk rfl) mo (fn_cons kr304 fn_nil) yl_nil (by kernel_rfl) (.inl (by kernel_rfl))
theorem kr339 : FnOk V 339 r339 := h339
theorem kr340 : FnOk V 340 r340 := fnS_ok (C := cr340) (vs := vs) mem_ok (glk rfl) mo fn_nil yl_nil (by kernel_rfl) (.inl (by kernel_rfl))
theorem kr360 : FnOk V 360 r360 := fnS_ok (C := cr360) (vs := vs) mem_ok (glk rfl) mo fn_nil yl_nil (by kernel_rfl) (.inl (by kernel_rfl))
end Go.Proofs.YtlffjnddiiojnaaGreatDoor.Tz
