import Derived.Test.YtlffjnddiiojnaaGreatDoorEvH
import Derived.Test.YtlffjnddiiojnaaGreatDoorEvG
/- The functions. -/
open Go Go.Proofs.YtlffjnddiiojnaaGreatDoor.Ev
namespace Go.Proofs.YtlffjnddiiojnaaGreatDoor.Tz
noncomputable section
/-- wreckage/wreckageref12.in -/
def cr12 : Cx := ⟨mem, Go.Proofs.Tryz.prog, [], [], [], gls, [0, 1, 2, 3, 8], 14, 12⟩
def r12 : FnS := fnS cr12
/-- wreckage/wreckageref12.end -/
def cr14 : Cx := ⟨mem, Go.Proofs.Tryz.prog, [(12, r12)], [], [], gls, [0], 2, 14⟩
def r14 : FnS := fnS cr14
/-- wreckage/wreckageref08.Made -/
def cr36 : Cx := ⟨mem, Go.Proofs.Tryz.prog, [], [], [], gls, [0, 2, 4, 3], 35, 36⟩
def r36 : FnS := fnS cr36
/-- wreckage/wreckageref12.fn -/
def cr15 : Cx := ⟨mem, Go.Proofs.Tryz.prog, [(36, r36)], [], [], gls, [0, 1, 2, 3, 4, 5, 12, 14, 13, 15], 56, 15⟩
def r15 : FnS := fnS cr15
/-- wreckage/wreckageref12.others -/
def cr16 : Cx := ⟨mem, Go.Proofs.Tryz.prog, [(12, r12), (14, r14), (15, r15)], [], [], gls, [0], 53, 16⟩
def r16 : FnS := fnS cr16
/-- wreckage/wreckageref04.Twin -/
def cr56 : Cx := ⟨mem, Go.Proofs.Tryz.prog, [], [], [], gls, [0, 2, 4, 3], 29, 56⟩
def r56 : FnS := fnS cr56
/-- wreckage/wreckageref09.Twin -/
def cr23 : Cx := ⟨mem, Go.Proofs.Tryz.prog, [(56, r56)], [], [], gls, [0, 2, 4, 1, 3], 53, 23⟩
def r23 : FnS := fnS cr23
/-- wreckage/wreckageref04.Letter -/
def cr260 : Cx := ⟨mem, Go.Proofs.Tryz.prog, [], [], [], gls, [0, 2], 17, 260⟩
def r260 : FnS := fnS cr260
/-- wreckage/wreckageref04.Named -/
def cr171 : Cx := ⟨mem, Go.Proofs.Tryz.prog, [(260, r260)], [], [], gls, [0, 2, 3], 41, 171⟩
def r171 : FnS := fnS cr171
/-- wreckage/wreckageref04.Fields -/
def cr172 : Cx := ⟨mem, Go.Proofs.Tryz.prog, [(171, r171)], [], [], gls, [0, 1, 4, 5, 6], 40, 172⟩
def r172 : FnS := fnS cr172
/-- wreckage/wreckageref04.fine -/
def cr168 : Cx := ⟨mem, Go.Proofs.Tryz.prog, [(172, r172)], [], [], gls, [0, 1, 4, 13, 5, 12, 31, 6], 127, 168⟩
def r168 : FnS := fnS cr168
/-- wreckage/wreckageref04.Parts -/
def cr259 : Cx := ⟨mem, Go.Proofs.Tryz.prog, [], [], [], gls, [0, 2, 4, 1, 3], 30, 259⟩
def r259 : FnS := fnS cr259
/-- wreckage/wreckageref04.Widths -/
def cr169_1 : Cx := ⟨mem, Go.Proofs.Tryz.prog, [(259, r259)], [], [], gls, [0, 1, 4, 7, 10, 9, 8, 11, 6, 5], 106, 169⟩
def r169_1 : FnS := fnS cr169_1
/-- wreckage/wreckageref04.Widths -/
def cr169_2 : Cx := ⟨mem, Go.Proofs.Tryz.prog, [(259, r259), (169, r169_1)], [], [], gls, [0, 1, 4, 7, 10, 9, 8, 11, 6, 5], 106, 169⟩
def r169_2 : FnS := fnS cr169_2
/-- wreckage/wreckageref04.Widths -/
def cr169_3 : Cx := ⟨mem, Go.Proofs.Tryz.prog, [(259, r259), (169, r169_2)], [], [], gls, [0, 1, 4, 7, 10, 9, 8, 11, 6, 5], 106, 169⟩
def r169_3 : FnS := fnS cr169_3
/-- wreckage/wreckageref04.Widths -/
def cr169_4 : Cx := ⟨mem, Go.Proofs.Tryz.prog, [(259, r259), (169, r169_3)], [], [], gls, [0, 1, 4, 7, 10, 9, 8, 11, 6, 5], 106, 169⟩
def r169_4 : FnS := fnS cr169_4
/-- wreckage/wreckageref04.Check -/
def cr102 : Cx := ⟨mem, Go.Proofs.Tryz.prog, [(168, r168), (169, r169_4)], [], [], gls, [0, 2, 3, 5, 4], 32, 102⟩
def r102 : FnS := fnS cr102
/-- wreckage/wreckageref05.up -/
def cr184 : Cx := ⟨mem, Go.Proofs.Tryz.prog, [], [], [], gls, [0, 1, 4], 13, 184⟩
def r184 : FnS := fnS cr184
/-- wreckage/wreckageref05.together -/
def cr170 : Cx := ⟨mem, Go.Proofs.Tryz.prog, [(184, r184)], [], [], gls, [0, 1, 2, 6, 7, 8, 12, 10, 9, 11], 55, 170⟩
def r170 : FnS := fnS cr170
/-- wreckage/wreckageref05.Sizes -/
def cr103 : Cx := ⟨mem, Go.Proofs.Tryz.prog, [(170, r170)], [], [], gls, [0, 2, 3, 6, 4, 5, 7, 8], 75, 103⟩
def r103 : FnS := fnS cr103
/-- wreckage/wreckageref06.Shape -/
def cr120 : Cx := ⟨mem, Go.Proofs.Tryz.prog, [], [], [], gls, [0, 2, 10, 3, 13, 19, 39, 45, 50], 57, 120⟩
def r120 : FnS := fnS cr120
/-- wreckage/wreckageref06.Operands -/
def cr121 : Cx := ⟨mem, Go.Proofs.Tryz.prog, [], [], [], gls, [0, 2], 10, 121⟩
def r121 : FnS := fnS cr121
/-- wreckage/wreckageref06.Fits -/
def cr175 : Cx := ⟨mem, Go.Proofs.Tryz.prog, [], [], [], gls, [0, 1, 4, 10, 5, 19, 28], 61, 175⟩
def r175 : FnS := fnS cr175
/-- wreckage/wreckageref06.Check -/
def cr112 : Cx := ⟨mem, Go.Proofs.Tryz.prog, [(120, r120), (121, r121), (175, r175)], [], [], gls, [0, 2, 5, 3, 4], 26, 112⟩
def r112 : FnS := fnS cr112
/-- wreckage/wreckageref08.Fine -/
def cr173 : Cx := ⟨mem, Go.Proofs.Tryz.prog, [], [], [], gls, [0, 1, 4, 5], 61, 173⟩
def r173 : FnS := fnS cr173
/-- wreckage/wreckageref09.function -/
def cr104 : Cx := ⟨mem, Go.Proofs.Tryz.prog, [(112, r112), (171, r171), (172, r172), (173, r173)], [], [], gls, [0, 1, 4, 5, 3, 6], 107, 104⟩
def r104 : FnS := fnS cr104
/-- wreckage/wreckageref09.Fine -/
def cr65 : Cx := ⟨mem, Go.Proofs.Tryz.prog, [(102, r102), (103, r103), (104, r104)], [], [], gls, [0, 2, 1, 5, 3, 6, 7, 8], 96, 65⟩
def r65 : FnS := fnS cr65
/-- wreckage/wreckageref02.Minimal -/
def cr108 : Cx := ⟨mem, Go.Proofs.Tryz.prog, [], [], [], gls, [0, 2, 3], 20, 108⟩
def r108 : FnS := fnS cr108
/-- wreckage/wreckageref09.number -/
def cr105 : Cx := ⟨mem, Go.Proofs.Tryz.prog, [(108, r108)], [], [], gls, [0, 2], 6, 105⟩
def r105 : FnS := fnS cr105
/-- wreckage/wreckageref02.Said -/
def cr107 : Cx := ⟨mem, Go.Proofs.Tryz.prog, [(108, r108)], [], [], gls, [0, 2], 9, 107⟩
def r107 : FnS := fnS cr107
/-- wreckage/wreckageref09.fields -/
def cr106 : Cx := ⟨mem, Go.Proofs.Tryz.prog, [(105, r105), (107, r107)], [], [], gls, [0, 2, 4, 3], 30, 106⟩
def r106 : FnS := fnS cr106
/-- wreckage/wreckageref02.Double -/
def cr109 : Cx := ⟨mem, Go.Proofs.Tryz.prog, [], [], [], gls, [0, 2], 14, 109⟩
def r109 : FnS := fnS cr109
/-- wreckage/wreckageref06.Signed -/
def cr174 : Cx := ⟨mem, Go.Proofs.Tryz.prog, [], [], [], gls, [0, 2], 13, 174⟩
def r174 : FnS := fnS cr174
/-- wreckage/wreckageref06.Coded -/
def cr110 : Cx := ⟨mem, Go.Proofs.Tryz.prog, [(108, r108), (109, r109), (120, r120), (121, r121), (174, r174)], [], [], gls, [0, 2, 6, 4, 3, 5], 42, 110⟩
def r110 : FnS := fnS cr110
/-- wreckage/wreckageref08.Coded -/
def cr111 : Cx := ⟨mem, Go.Proofs.Tryz.prog, [(108, r108)], [], [], gls, [0, 2, 5, 3, 4], 41, 111⟩
def r111 : FnS := fnS cr111
/-- wreckage/wreckageref09.Coded -/
def cr66 : Cx := ⟨mem, Go.Proofs.Tryz.prog, [(105, r105), (106, r106), (107, r107), (108, r108), (109, r109), (110, r110), (111, r111)], [], [], gls, [0, 2, 4, 1, 3, 33, 5, 32, 6, 7, 9, 8], 148, 66⟩
def r66 : FnS := fnS cr66
/-- wreckage/wreckageref09.Check -/
def cr37 : Cx := ⟨mem, Go.Proofs.Tryz.prog, [(65, r65), (66, r66)], [], [], gls, [0, 2, 1], 10, 37⟩
def r37 : FnS := fnS cr37
/-- wreckage/wreckageref07.Check -/
def cr67 : Cx := ⟨mem, Go.Proofs.Tryz.prog, [(112, r112)], [], [], gls, [0, 2, 3], 58, 67⟩
def r67 : FnS := fnS cr67
/-- wreckage/wreckageref07.Behind -/
def cr113 : Cx := ⟨mem, Go.Proofs.Tryz.prog, [], [], [], gls, [0, 1, 4, 12, 11, 5], 45, 113⟩
def r113 : FnS := fnS cr113
/-- wreckage/wreckageref07.Led -/
def cr68 : Cx := ⟨mem, Go.Proofs.Tryz.prog, [(113, r113)], [], [], gls, [0, 2, 4, 5, 7, 6, 3], 50, 68⟩
def r68 : FnS := fnS cr68
/-- wreckage/wreckageref06.Touched -/
def cr72 : Cx := ⟨mem, Go.Proofs.Tryz.prog, [(120, r120), (121, r121)], [], [], gls, [0, 2, 3, 8, 6, 7, 4, 5], 64, 72⟩
def r72 : FnS := fnS cr72
/-- wreckage/wreckageref10.Called -/
def cr176 : Cx := ⟨mem, Go.Proofs.Tryz.prog, [], [], [], gls, [0, 2, 9, 1], 14, 176⟩
def r176 : FnS := fnS cr176
/-- wreckage/wreckageref10.Near -/
def cr114 : Cx := ⟨mem, Go.Proofs.Tryz.prog, [(72, r72), (176, r176)], [], [], gls, [0, 1, 2, 6, 10, 9, 3, 5], 60, 114⟩
def r114 : FnS := fnS cr114
/-- wreckage/wreckageref10.slot -/
def cr177 : Cx := ⟨mem, Go.Proofs.Tryz.prog, [], [], [], gls, [0, 1, 2, 6, 3], 30, 177⟩
def r177 : FnS := fnS cr177
/-- wreckage/wreckageref10.kind -/
def cr178 : Cx := ⟨mem, Go.Proofs.Tryz.prog, [], [], [], gls, [0, 1, 4, 2], 13, 178⟩
def r178 : FnS := fnS cr178
/-- wreckage/wreckageref10.Typed -/
def cr115 : Cx := ⟨mem, Go.Proofs.Tryz.prog, [(177, r177), (178, r178)], [], [], gls, [0, 1, 2, 6, 39, 10, 38, 48, 7, 8, 58, 11, 12, 9, 3, 5, 208, 227], 251, 115⟩
def r115 : FnS := fnS cr115
/-- wreckage/wreckageref10.instruction -/
def cr69 : Cx := ⟨mem, Go.Proofs.Tryz.prog, [(114, r114), (115, r115)], [], [], gls, [0, 1, 2, 3, 8, 4, 9], 31, 69⟩
def r69 : FnS := fnS cr69
/-- wreckage/wreckageref05.Rounded -/
def cr122 : Cx := ⟨mem, Go.Proofs.Tryz.prog, [(184, r184)], [], [], gls, [0, 2], 5, 122⟩
def r122 : FnS := fnS cr122
/-- wreckage/wreckageref10.Bytes -/
def cr73 : Cx := ⟨mem, Go.Proofs.Tryz.prog, [(103, r103), (122, r122)], [], [], gls, [0, 1, 4, 8, 7, 5], 32, 73⟩
def r73 : FnS := fnS cr73
/-- wreckage/wreckageref04.SameInts -/
def cr117 : Cx := ⟨mem, Go.Proofs.Tryz.prog, [], [], [], gls, [0, 1, 4, 5], 26, 117⟩
def r117 : FnS := fnS cr117
/-- wreckage/wreckageref10.Pushed -/
def cr183 : Cx := ⟨mem, Go.Proofs.Tryz.prog, [(176, r176), (177, r177)], [], [], gls, [0, 1, 2, 6, 7, 5, 10, 3, 9, 8], 47, 183⟩
def r183 : FnS := fnS cr183
/-- wreckage/wreckageref10.after -/
def cr116 : Cx := ⟨mem, Go.Proofs.Tryz.prog, [(73, r73), (117, r117), (183, r183)], [], [], gls, [0, 1, 2, 3, 8, 9, 12, 11, 13, 4], 52, 116⟩
def r116 : FnS := fnS cr116
/-- wreckage/wreckageref10.Scratch -/
def cr70 : Cx := ⟨mem, Go.Proofs.Tryz.prog, [(113, r113), (116, r116), (117, r117)], [], [], gls, [0, 1, 4, 5, 9, 10, 6, 8, 2, 7, 14, 13, 11, 15], 105, 70⟩
def r70 : FnS := fnS cr70
/-- wreckage/wreckageref07.Least -/
def cr118 : Cx := ⟨mem, Go.Proofs.Tryz.prog, [], [], [], gls, [0, 2], 6, 118⟩
def r118 : FnS := fnS cr118
/-- wreckage/wreckageref07.Written -/
def cr119 : Cx := ⟨mem, Go.Proofs.Tryz.prog, [(72, r72)], [], [], gls, [0, 2, 6, 4, 5], 26, 119⟩
def r119 : FnS := fnS cr119
/-- wreckage/wreckageref07.Live -/
def cr71 : Cx := ⟨mem, Go.Proofs.Tryz.prog, [(68, r68), (113, r113), (118, r118), (119, r119)], [], [], gls, [0, 1, 2, 6, 9, 8, 10, 11, 13, 12, 7, 15], 114, 71⟩
def r71 : FnS := fnS cr71
/-- wreckage/wreckageref10.Untabled -/
def cr38 : Cx := ⟨mem, Go.Proofs.Tryz.prog, [(67, r67), (68, r68), (69, r69), (70, r70), (71, r71), (72, r72)], [], [], gls, [0, 1, 4, 5, 6, 9, 2, 7, 8, 14, 17, 15, 13], 120, 38⟩
def r38 : FnS := fnS cr38
/-- wreckage/wreckageref10.Tabled -/
def cr39 : Cx := ⟨mem, Go.Proofs.Tryz.prog, [(23, r23), (36, r36), (70, r70), (71, r71), (73, r73)], [], [], gls, [0, 1, 4, 9, 6, 8, 2, 5], 52, 39⟩
def r39 : FnS := fnS cr39
/-- wreckage/wreckageref04.SameFields -/
def cr99 : Cx := ⟨mem, Go.Proofs.Tryz.prog, [], [], [], gls, [0, 1, 4, 5], 26, 99⟩
def r99 : FnS := fnS cr99
/-- wreckage/wreckageref07.Same -/
def cr100 : Cx := ⟨mem, Go.Proofs.Tryz.prog, [], [], [], gls, [0, 1, 4, 5], 26, 100⟩
def r100 : FnS := fnS cr100
/-- wreckage/wreckageref08.Same -/
def cr101 : Cx := ⟨mem, Go.Proofs.Tryz.prog, [], [], [], gls, [0, 1, 4, 5], 26, 101⟩
def r101 : FnS := fnS cr101
/-- wreckage/wreckageref09.SameFunc -/
def cr64 : Cx := ⟨mem, Go.Proofs.Tryz.prog, [(99, r99), (100, r100), (101, r101)], [], [], gls, [0, 1, 4], 52, 64⟩
def r64 : FnS := fnS cr64
/-- wreckage/wreckageref10.Wrong -/
def cr123 : Cx := ⟨mem, Go.Proofs.Tryz.prog, [(38, r38), (39, r39), (64, r64)], [], [], gls, [0, 1, 4, 5, 6, 7], 30, 123⟩
def r123 : FnS := fnS cr123
/-- wreckage/wreckageref10.Fault -/
def cr74 : Cx := ⟨mem, Go.Proofs.Tryz.prog, [(37, r37), (123, r123)], [], [], gls, [0, 2, 3, 4, 6, 1], 32, 74⟩
def r74 : FnS := fnS cr74
/-- wreckage/wreckageref10.Check -/
def cr40 : Cx := ⟨mem, Go.Proofs.Tryz.prog, [(74, r74)], [], [], gls, [0, 2], 13, 40⟩
def r40 : FnS := fnS cr40
/-- wreckage/wreckageref10.Compiled -/
def cr17 : Cx := ⟨mem, Go.Proofs.Tryz.prog, [(23, r23), (37, r37), (38, r38), (39, r39), (40, r40)], [], [], gls, [0, 2, 3, 5, 4], 40, 17⟩
def r17 : FnS := fnS cr17
/-- wreckage/wreckageref12.Made -/
def cr4 : Cx := ⟨mem, Go.Proofs.Tryz.prog, [(12, r12), (14, r14), (15, r15), (16, r16), (17, r17)], [], [], gls, [0, 2, 4, 3], 64, 4⟩
def q4 : FnS := fnS cr4
def r4 : FnS := knownF a4_302 v4_302 h4_302 q4
/-- wreckage/kinds.Named -/
def cr271 : Cx := ⟨mem, Go.Proofs.Tryz.prog, [], [], [], gls, [0, 2, 21, 20, 19], 47, 271⟩
def r271 : FnS := fnS cr271
/-- wreckage/kinds.fine$1 -/
def cr275 : Cx := ⟨mem, Go.Proofs.Tryz.prog, [], [], [], gls, [0, 1, 4], 12, 275⟩
def r275 : FnS := fnS cr275
/-- wreckage/script.within -/
def cr42 : Cx := ⟨mem, Go.Proofs.Tryz.prog, [], [], [], gls, [0, 1, 2, 6], 15, 42⟩
def r42 : FnS := fnS cr42
/-- wreckage/script.Check$1 -/
def cr44 : Cx := ⟨mem, Go.Proofs.Tryz.prog, [(42, r42)], [], [], gls, [0, 2], 6, 44⟩
def r44 : FnS := fnS cr44
/-- slices.Index[[]uint8,uint8] -/
def cr311 : Cx := ⟨mem, Go.Proofs.Tryz.prog, [], [], [], gls, [0, 1, 4, 8, 7], 19, 311⟩
def r311 : FnS := fnS cr311
/-- slices.Contains[[]uint8,uint8] -/
def cr262 : Cx := ⟨mem, Go.Proofs.Tryz.prog, [(311, r311)], [], [], gls, [0, 1, 4], 9, 262⟩
def r262 : FnS := fnS cr262
/-- (wreckage/check.function).is -/
def cr194 : Cx := ⟨mem, Go.Proofs.Tryz.prog, [(262, r262)], [], [], gls, [0, 1, 2, 6], 20, 194⟩
def r194 : FnS := fnS cr194
/-- (wreckage/check.function).typed$1$1 -/
def cr193 : Cx := ⟨mem, Go.Proofs.Tryz.prog, [(194, r194)], [], [], gls, [0, 1, 3], 9, 193⟩
def r193 : FnS := fnS cr193
/-- wreckage/kinds.zero$1 -/
def cr315 : Cx := ⟨mem, Go.Proofs.Tryz.prog, [], [], [], gls, [0, 2], 5, 315⟩
def r315 : FnS := fnS cr315
/-- slices.IndexFunc[[]int,int] -/
def cr77 : Cx := ⟨mem, Go.Proofs.Tryz.prog, [(44, r44), (193, r193), (315, r315)], [], [], gls, [0, 1, 4, 8, 7], 19, 77⟩
def r77 : FnS := fnS cr77
/-- slices.ContainsFunc[[]int,int] -/
def cr43 : Cx := ⟨mem, Go.Proofs.Tryz.prog, [(77, r77)], [], [], gls, [0, 1, 4], 9, 43⟩
def r43 : FnS := fnS cr43
/-- wreckage/kinds.zero -/
def cr276 : Cx := ⟨mem, Go.Proofs.Tryz.prog, [(43, r43)], [], [], gls, [0, 2], 6, 276⟩
def r276 : FnS := fnS cr276
/-- wreckage/kinds.fine -/
def cr216 : Cx := ⟨mem, Go.Proofs.Tryz.prog, [(271, r271), (275, r275), (276, r276)], [], [], gls, [0, 1, 4, 16, 5, 15, 29, 6, 74, 73, 72, 7, 9], 118, 216⟩
def r216 : FnS := fnS cr216
/-- wreckage/kinds.widths -/
def cr217 : Cx := ⟨mem, Go.Proofs.Tryz.prog, [], [], [], gls, [0, 2, 13, 20, 19, 18, 3, 4, 6, 61, 60, 59, 7, 5], 82, 217⟩
def r217 : FnS := fnS cr217
/-- wreckage/kinds.Check -/
def cr140 : Cx := ⟨mem, Go.Proofs.Tryz.prog, [(216, r216), (217, r217)], [], [], gls, [0, 2, 11, 10, 22, 21, 20], 29, 140⟩
def q140 : FnS := fnS cr140
def q140_339 : FnS := knownF a140_339 v140_339 h140_339 q140
def r140 : FnS := knownF a140_340 v140_340 h140_340 q140_339
/-- wreckage/layout.lay -/
def cr142 : Cx := ⟨mem, Go.Proofs.Tryz.prog, [], [], [], gls, [0, 1, 4, 5, 17, 16, 15, 6, 7], 68, 142⟩
def r142 : FnS := fnS cr142
/-- wreckage/layout.extents -/
def cr141 : Cx := ⟨mem, Go.Proofs.Tryz.prog, [(142, r142)], [], [], gls, [0, 2, 12, 11, 10, 3, 25, 4, 18, 5], 77, 141⟩
def r141 : FnS := fnS cr141
/-- wreckage/layout.asked -/
def cr82 : Cx := ⟨mem, Go.Proofs.Tryz.prog, [(140, r140), (141, r141)], [], [], gls, [0, 1, 4, 5, 7], 30, 82⟩
def r82 : FnS := fnS cr82
/-- wreckage/layout.Size -/
def cr53 : Cx := ⟨mem, Go.Proofs.Tryz.prog, [(82, r82)], [], [], gls, [0, 1, 4, 5, 6, 7], 27, 53⟩
def r53 : FnS := fnS cr53
/-- wreckage/ops.shape$1 -/
def cr265 : Cx := ⟨mem, Go.Proofs.Tryz.prog, [], [], [], gls, [0, 1, 2], 7, 265⟩
def r265 : FnS := fnS cr265
/-- wreckage/ops.write -/
def cr266 : Cx := ⟨mem, Go.Proofs.Tryz.prog, [], [], [], gls, [0], 2, 266⟩
def r266 : FnS := fnS cr266
/-- wreckage/ops.whole -/
def cr267 : Cx := ⟨mem, Go.Proofs.Tryz.prog, [], [], [], gls, [0], 2, 267⟩
def r267 : FnS := fnS cr267
/-- wreckage/ops.below -/
def cr268 : Cx := ⟨mem, Go.Proofs.Tryz.prog, [], [], [], gls, [0, 2], 6, 268⟩
def r268 : FnS := fnS cr268
/-- wreckage/ops.read -/
def cr269 : Cx := ⟨mem, Go.Proofs.Tryz.prog, [], [], [], gls, [0], 2, 269⟩
def r269 : FnS := fnS cr269
/-- wreckage/ops.shape -/
def cr206 : Cx := ⟨mem, Go.Proofs.Tryz.prog, [(265, r265), (266, r266), (267, r267), (268, r268), (269, r269)], [], [], gls, [0, 2, 3, 7, 6, 16, 19, 27, 46, 52, 4], 147, 206⟩
def r206 : FnS := fnS cr206
/-- wreckage/ops.operands -/
def cr207 : Cx := ⟨mem, Go.Proofs.Tryz.prog, [], [], [], gls, [0, 2], 10, 207⟩
def r207 : FnS := fnS cr207
/-- wreckage/ops.Check -/
def cr205 : Cx := ⟨mem, Go.Proofs.Tryz.prog, [(206, r206), (207, r207)], [], [], gls, [0, 2, 1, 17, 16, 3], 36, 205⟩
def r205 : FnS := fnS cr205
/-- wreckage/image.named$1 -/
def cr313 : Cx := ⟨mem, Go.Proofs.Tryz.prog, [], [], [], gls, [0, 1, 3], 9, 313⟩
def r313 : FnS := fnS cr313
/-- slices.IndexFunc[[]wreckage/api.Field,wreckage/api.Field] -/
def cr337 : Cx := ⟨mem, Go.Proofs.Tryz.prog, [(313, r313)], [], [], gls, [0, 1, 4, 8, 7], 19, 337⟩
def r337 : FnS := fnS cr337
/-- slices.ContainsFunc[[]wreckage/api.Field,wreckage/api.Field] -/
def cr312 : Cx := ⟨mem, Go.Proofs.Tryz.prog, [(337, r337)], [], [], gls, [0, 1, 4], 9, 312⟩
def r312 : FnS := fnS cr312
/-- wreckage/image.named -/
def cr272 : Cx := ⟨mem, Go.Proofs.Tryz.prog, [(271, r271), (312, r312)], [], [], gls, [0, 2, 7, 6, 5], 24, 272⟩
def r272 : FnS := fnS cr272
/-- wreckage/tables.counted -/
def cr208 : Cx := ⟨mem, Go.Proofs.Tryz.prog, [], [], [], gls, [0, 2], 9, 208⟩
def r208 : FnS := fnS cr208
/-- wreckage/tables.fine -/
def cr314 : Cx := ⟨mem, Go.Proofs.Tryz.prog, [], [], [], gls, [0, 1, 4, 35, 34, 33, 5, 7], 55, 314⟩
def r314 : FnS := fnS cr314
/-- wreckage/tables.Check -/
def cr273 : Cx := ⟨mem, Go.Proofs.Tryz.prog, [(208, r208), (314, r314)], [], [], gls, [0, 1, 4], 15, 273⟩
def r273 : FnS := fnS cr273
/-- wreckage/image.function -/
def cr210 : Cx := ⟨mem, Go.Proofs.Tryz.prog, [(205, r205), (271, r271), (272, r272), (273, r273)], [], [], gls, [0, 1, 4, 3, 53, 52, 51, 71, 70, 69], 95, 210⟩
def r210 : FnS := fnS cr210
/-- wreckage/image.fine -/
def cr135 : Cx := ⟨mem, Go.Proofs.Tryz.prog, [(53, r53), (140, r140), (210, r210)], [], [], gls, [0, 2, 1, 37, 36, 54, 53, 52, 66, 65, 64, 9, 11], 85, 135⟩
def r135 : FnS := fnS cr135
/-- wreckage/wire.Vary$1 -/
def cr274 : Cx := ⟨mem, Go.Proofs.Tryz.prog, [], [], [], gls, [0, 1], 7, 274⟩
def r274 : FnS := fnS cr274
/-- wreckage/wire.Vary -/
def cr212 : Cx := ⟨mem, Go.Proofs.Tryz.prog, [(274, r274)], [], [], gls, [0, 2, 4, 3], 20, 212⟩
def r212 : FnS := fnS cr212
/-- (*wreckage/image.writer).number -/
def cr137 : Cx := ⟨mem, Go.Proofs.Tryz.prog, [(212, r212)], [], [], gls, [0, 1], 15, 137⟩
def r137 : FnS := fnS cr137
/-- (*wreckage/image.writer).text -/
def cr138 : Cx := ⟨mem, Go.Proofs.Tryz.prog, [(137, r137)], [], [], gls, [0, 1], 17, 138⟩
def r138 : FnS := fnS cr138
/-- (*wreckage/image.writer).fields -/
def cr211 : Cx := ⟨mem, Go.Proofs.Tryz.prog, [(137, r137), (138, r138)], [], [], gls, [0, 1, 12, 11, 10], 25, 211⟩
def r211 : FnS := fnS cr211
/-- (*wreckage/image.writer).types -/
def cr136 : Cx := ⟨mem, Go.Proofs.Tryz.prog, [(137, r137), (211, r211)], [], [], gls, [0, 1, 12, 11, 10, 29, 5, 28], 53, 136⟩
def r136 : FnS := fnS cr136
/-- wreckage/wire.Signed -/
def cr213 : Cx := ⟨mem, Go.Proofs.Tryz.prog, [(212, r212)], [], [], gls, [0, 2], 11, 213⟩
def r213 : FnS := fnS cr213
/-- wreckage/ops.Encode -/
def cr214 : Cx := ⟨mem, Go.Proofs.Tryz.prog, [(205, r205), (206, r206), (207, r207), (212, r212), (213, r213)], [], [], gls, [0, 2, 3, 1, 26, 25, 6, 5, 7], 51, 214⟩
def r214 : FnS := fnS cr214
/-- wreckage/tables.Encode -/
def cr215 : Cx := ⟨mem, Go.Proofs.Tryz.prog, [(212, r212), (273, r273)], [], [], gls, [0, 1, 4, 5, 23, 22, 21, 7, 8], 44, 215⟩
def r215 : FnS := fnS cr215
/-- (*wreckage/image.writer).function -/
def cr139 : Cx := ⟨mem, Go.Proofs.Tryz.prog, [(137, r137), (138, r138), (211, r211), (213, r213), (214, r214), (215, r215)], [], [], gls, [0, 1, 4, 44, 43, 42, 7, 3, 72, 71, 70, 11], 97, 139⟩
def r139 : FnS := fnS cr139
/-- wreckage/image.Encode -/
def cr80 : Cx := ⟨mem, Go.Proofs.Tryz.prog, [(135, r135), (136, r136), (137, r137), (138, r138), (139, r139)], [], [], gls, [0, 2, 3, 1, 23, 22, 21, 4, 37, 36, 35], 53, 80⟩
def q80 : FnS := fnS cr80
def q80_341 : FnS := knownF a80_341 v80_341 h80_341 q80
def q80_342 : FnS := knownF a80_342 v80_342 h80_342 q80_341
def q80_343 : FnS := knownF a80_343 v80_343 h80_343 q80_342
def q80_344 : FnS := knownF a80_344 v80_344 h80_344 q80_343
def q80_345 : FnS := knownF a80_345 v80_345 h80_345 q80_344
def q80_346 : FnS := knownF a80_346 v80_346 h80_346 q80_345
def r80 : FnS := knownF a80_347 v80_347 h80_347 q80_346
/-- wreckage/image.Check -/
def cr50 : Cx := ⟨mem, Go.Proofs.Tryz.prog, [(80, r80)], [], [], gls, [0, 2], 11, 50⟩
def r50 : FnS := fnS cr50
/-- wreckage/flow.Check -/
def cr185 : Cx := ⟨mem, Go.Proofs.Tryz.prog, [(205, r205)], [], [], gls, [0, 2, 25, 24, 23, 5, 3], 53, 185⟩
def r185 : FnS := fnS cr185
/-- wreckage/flow.Reached$1 -/
def cr187 : Cx := ⟨mem, Go.Proofs.Tryz.prog, [], [], [], gls, [0, 1, 2, 5], 16, 187⟩
def r187 : FnS := fnS cr187
/-- wreckage/flow.Masks$1 -/
def cr204 : Cx := ⟨mem, Go.Proofs.Tryz.prog, [], [], [], gls, [0, 1, 2, 3, 4, 5, 8, 9], 60, 204⟩
def r204 : FnS := fnS cr204
/-- cmp.isNaN[int] -/
def cr369 : Cx := ⟨mem, Go.Proofs.Tryz.prog, [], [], [], gls, [0, 2], 6, 369⟩
def r369 : FnS := fnS cr369
/-- cmp.Less[int] -/
def cr356 : Cx := ⟨mem, Go.Proofs.Tryz.prog, [(369, r369)], [], [], gls, [0, 1, 4], 17, 356⟩
def r356 : FnS := fnS cr356
/-- slices.insertionSortOrdered[int] -/
def cr350 : Cx := ⟨mem, Go.Proofs.Tryz.prog, [(356, r356)], [], [], gls, [0, 1, 2, 6, 7], 49, 350⟩
def r350 : FnS := fnS cr350
/-- slices.pdqsortOrdered[int] -/
def cr335 : Cx := ⟨mem, Go.Proofs.Tryz.prog, [(350, r350)], [], [], gls, [0, 1, 2, 3, 8, 9, 12, 11, 10], 134, 335⟩
def r335 : FnS := fnS cr335
/-- math/bits.Len64 -/
def cr346 : Cx := ⟨mem, Go.Proofs.Tryz.prog, [], [], [], gls, [0, 2], 25, 346⟩
def r346 : FnS := fnS cr346
/-- math/bits.Len -/
def cr336 : Cx := ⟨mem, Go.Proofs.Tryz.prog, [(346, r346)], [], [], gls, [0, 2], 8, 336⟩
def r336 : FnS := fnS cr336
/-- slices.Sort[[]int,int] -/
def cr309 : Cx := ⟨mem, Go.Proofs.Tryz.prog, [(335, r335), (336, r336)], [], [], gls, [0], 11, 309⟩
def r309 : FnS := fnS cr309
/-- slices.Compact[[]int,int] -/
def cr310 : Cx := ⟨mem, Go.Proofs.Tryz.prog, [], [], [], gls, [0, 2, 3, 5, 4], 61, 310⟩
def r310 : FnS := fnS cr310
/-- wreckage/flow.behind -/
def cr261 : Cx := ⟨mem, Go.Proofs.Tryz.prog, [(309, r309), (310, r310)], [], [], gls, [0, 1, 4, 13, 12, 5], 36, 261⟩
def r261 : FnS := fnS cr261
/-- wreckage/flow.spread -/
def cr186 : Cx := ⟨mem, Go.Proofs.Tryz.prog, [(187, r187), (204, r204), (261, r261)], [], [], gls, [0, 1, 4, 29, 28, 27, 5], 42, 186⟩
def r186 : FnS := fnS cr186
/-- wreckage/flow.Reached -/
def cr124 : Cx := ⟨mem, Go.Proofs.Tryz.prog, [(185, r185), (186, r186)], [], [], gls, [0, 2, 3], 23, 124⟩
def r124 : FnS := fnS cr124
/-- wreckage/ops.Slots -/
def cr129 : Cx := ⟨mem, Go.Proofs.Tryz.prog, [(205, r205), (206, r206), (207, r207)], [], [], gls, [0, 2, 3, 4, 1, 23, 22, 6, 8, 9], 54, 129⟩
def r129 : FnS := fnS cr129
/-- wreckage/check.within[wreckage/api.Field] -/
def cr188 : Cx := ⟨mem, Go.Proofs.Tryz.prog, [], [], [], gls, [0, 1, 4], 13, 188⟩
def r188 : FnS := fnS cr188
/-- wreckage/check.called -/
def cr189 : Cx := ⟨mem, Go.Proofs.Tryz.prog, [], [], [], gls, [0, 2, 9, 1], 14, 189⟩
def r189 : FnS := fnS cr189
/-- wreckage/check.within[string] -/
def cr190 : Cx := ⟨mem, Go.Proofs.Tryz.prog, [], [], [], gls, [0, 1, 4], 13, 190⟩
def r190 : FnS := fnS cr190
/-- (wreckage/check.function).near -/
def cr125 : Cx := ⟨mem, Go.Proofs.Tryz.prog, [(129, r129), (188, r188), (189, r189), (190, r190)], [], [], gls, [0, 1, 4, 5, 6, 24, 23, 22, 2, 3], 57, 125⟩
def r125 : FnS := fnS cr125
/-- (wreckage/check.function).slot -/
def cr191 : Cx := ⟨mem, Go.Proofs.Tryz.prog, [(188, r188)], [], [], gls, [0, 1, 4, 2], 18, 191⟩
def r191 : FnS := fnS cr191
/-- (wreckage/check.function).typed$1 -/
def cr192 : Cx := ⟨mem, Go.Proofs.Tryz.prog, [(43, r43)], [], [], gls, [0, 1, 3], 8, 192⟩
def r192 : FnS := fnS cr192
/-- (wreckage/check.function).typed$2 -/
def cr195 : Cx := ⟨mem, Go.Proofs.Tryz.prog, [(194, r194)], [], [], gls, [0, 1, 3], 8, 195⟩
def r195 : FnS := fnS cr195
/-- (wreckage/check.function).later$1 -/
def cr263 : Cx := ⟨mem, Go.Proofs.Tryz.prog, [(194, r194)], [], [], gls, [0, 1, 3], 8, 263⟩
def r263 : FnS := fnS cr263
/-- (wreckage/check.function).later -/
def cr198 : Cx := ⟨mem, Go.Proofs.Tryz.prog, [(263, r263)], [], [], gls, [0, 1, 4], 29, 198⟩
def r198 : FnS := fnS cr198
/-- (wreckage/check.function).typed -/
def cr126 : Cx := ⟨mem, Go.Proofs.Tryz.prog, [(191, r191), (192, r192), (194, r194), (195, r195), (198, r198)], [], [], gls, [0, 1, 4, 26, 8, 5, 25, 2, 39, 9, 6, 50, 7, 3, 202, 220], 244, 126⟩
def r126 : FnS := fnS cr126
/-- wreckage/layout.Round -/
def cr54 : Cx := ⟨mem, Go.Proofs.Tryz.prog, [], [], [], gls, [0, 2, 3], 13, 54⟩
def r54 : FnS := fnS cr54
/-- (wreckage/check.function).bytes -/
def cr202 : Cx := ⟨mem, Go.Proofs.Tryz.prog, [(53, r53), (54, r54)], [], [], gls, [0, 1, 4, 5, 14, 13, 12, 2, 9, 6], 43, 202⟩
def r202 : FnS := fnS cr202
/-- slices.Clip[[]int,int] -/
def cr264 : Cx := ⟨mem, Go.Proofs.Tryz.prog, [], [], [], gls, [0, 2], 9, 264⟩
def r264 : FnS := fnS cr264
/-- (wreckage/check.function).step -/
def cr199 : Cx := ⟨mem, Go.Proofs.Tryz.prog, [(189, r189), (191, r191), (202, r202), (264, r264)], [], [], gls, [0, 1, 2, 6, 7, 4, 3, 10, 47, 46, 45, 9], 77, 199⟩
def r199 : FnS := fnS cr199
/-- wreckage/flow.Next -/
def cr200 : Cx := ⟨mem, Go.Proofs.Tryz.prog, [(185, r185), (261, r261)], [], [], gls, [0, 1, 4, 5], 23, 200⟩
def r200 : FnS := fnS cr200
/-- slices.Equal[[]int,int] -/
def cr201 : Cx := ⟨mem, Go.Proofs.Tryz.prog, [], [], [], gls, [0, 1, 4, 13, 12], 26, 201⟩
def r201 : FnS := fnS cr201
/-- (wreckage/check.function).scratch -/
def cr127 : Cx := ⟨mem, Go.Proofs.Tryz.prog, [(199, r199), (200, r200), (201, r201), (202, r202)], [], [], gls, [0, 2, 3, 7, 1, 4, 5, 11, 73, 72, 71, 6, 9, 108, 107, 106, 15, 16, 18], 136, 127⟩
def r127 : FnS := fnS cr127
/-- wreckage/flow.mask -/
def cr203 : Cx := ⟨mem, Go.Proofs.Tryz.prog, [], [], [], gls, [0, 2, 8, 7, 6, 3], 18, 203⟩
def r203 : FnS := fnS cr203
/-- wreckage/flow.Masks -/
def cr128 : Cx := ⟨mem, Go.Proofs.Tryz.prog, [(129, r129), (185, r185), (186, r186), (203, r203)], [], [], gls, [0, 1, 2, 6, 7, 4, 42, 41, 40, 9, 10, 13, 12], 87, 128⟩
def r128 : FnS := fnS cr128
/-- wreckage/tables.Make -/
def cr130 : Cx := ⟨mem, Go.Proofs.Tryz.prog, [(208, r208)], [], [], gls, [0, 2, 3, 15, 14, 5, 6], 43, 130⟩
def r130 : FnS := fnS cr130
/-- wreckage/check.look -/
def cr75 : Cx := ⟨mem, Go.Proofs.Tryz.prog, [(124, r124), (125, r125), (126, r126), (127, r127), (128, r128), (129, r129), (130, r130)], [], [], gls, [0, 1, 4, 5, 6, 57, 56, 55, 7, 111, 110, 109, 124, 123, 122, 18, 13, 14, 11, 21], 162, 75⟩
def r75 : FnS := fnS cr75
/-- slices.Equal[[]wreckage/api.Run,wreckage/api.Run] -/
def cr76 : Cx := ⟨mem, Go.Proofs.Tryz.prog, [], [], [], gls, [0, 1, 4, 13, 12], 26, 76⟩
def r76 : FnS := fnS cr76
/-- wreckage/check.Fault -/
def cr41 : Cx := ⟨mem, Go.Proofs.Tryz.prog, [(50, r50), (75, r75), (76, r76)], [], [], gls, [0, 2, 3, 4, 1, 17, 16, 15, 8, 6], 55, 41⟩
def r41 : FnS := fnS cr41
/-- wreckage/check.Check -/
def cr18 : Cx := ⟨mem, Go.Proofs.Tryz.prog, [(41, r41)], [], [], gls, [0, 2], 13, 18⟩
def q18 : FnS := fnS cr18
def q18_1 : FnS := knownF a18_1 v18_1 h18_1 q18
def q18_28 : FnS := knownF a18_28 v18_28 h18_28 q18_1
def q18_60 : FnS := knownF a18_60 v18_60 h18_60 q18_28
def q18_92 : FnS := knownF a18_92 v18_92 h18_92 q18_60
def q18_251 : FnS := knownF a18_251 v18_251 h18_251 q18_92
def q18_303 : FnS := knownF a18_303 v18_303 h18_303 q18_251
def q18_305 : FnS := knownF a18_305 v18_305 h18_305 q18_303
def r18 : FnS := knownF a18_311 v18_311 h18_311 q18_305
/-- wreckage/script.Check -/
def cr19 : Cx := ⟨mem, Go.Proofs.Tryz.prog, [(42, r42), (43, r43)], [], [], gls, [0, 2], 38, 19⟩
def r19 : FnS := fnS cr19
/-- wreckage/bump.Texts$1 -/
def cr45 : Cx := ⟨mem, Go.Proofs.Tryz.prog, [], [], [], gls, [0, 1, 2], 6, 45⟩
def r45 : FnS := fnS cr45
/-- wreckage/bump.New -/
def cr46 : Cx := ⟨mem, Go.Proofs.Tryz.prog, [], [], [], gls, [0], 2, 46⟩
def r46 : FnS := fnS cr46
/-- wreckage/bump.check -/
def cr47 : Cx := ⟨mem, Go.Proofs.Tryz.prog, [], [], [], gls, [0, 1, 4], 27, 47⟩
def r47 : FnS := fnS cr47
/-- wreckage/bump.Room -/
def cr84 : Cx := ⟨mem, Go.Proofs.Tryz.prog, [(47, r47)], [], [], gls, [0, 1, 4, 5, 2], 21, 84⟩
def r84 : FnS := fnS cr84
/-- wreckage/bump.size -/
def cr131 : Cx := ⟨mem, Go.Proofs.Tryz.prog, [], [], [], gls, [0, 2], 8, 131⟩
def r131 : FnS := fnS cr131
/-- wreckage/region.based -/
def cr270 : Cx := ⟨mem, Go.Proofs.Tryz.prog, [], [], [], gls, [0, 2], 14, 270⟩
def r270 : FnS := fnS cr270
/-- wreckage/region.Check -/
def cr209 : Cx := ⟨mem, Go.Proofs.Tryz.prog, [(270, r270)], [], [], gls, [0, 2], 13, 209⟩
def r209 : FnS := fnS cr209
/-- wreckage/region.Resize -/
def cr132 : Cx := ⟨mem, Go.Proofs.Tryz.prog, [(209, r209)], [], [], gls, [0, 1, 4, 5, 2], 31, 132⟩
def r132 : FnS := fnS cr132
/-- wreckage/bump.Alloc -/
def cr78 : Cx := ⟨mem, Go.Proofs.Tryz.prog, [(84, r84), (131, r131), (132, r132)], [], [], gls, [0, 1, 2, 6, 7, 8, 9, 3], 54, 78⟩
def r78 : FnS := fnS cr78
/-- slices.Clone[[]byte,byte] -/
def cr27 : Cx := ⟨mem, Go.Proofs.Tryz.prog, [], [], [], gls, [0, 2], 8, 27⟩
def r27 : FnS := fnS cr27
/-- wreckage/region.index -/
def cr134 : Cx := ⟨mem, Go.Proofs.Tryz.prog, [], [], [], gls, [0, 1, 2, 6, 7, 3], 37, 134⟩
def r134 : FnS := fnS cr134
/-- wreckage/region.Has -/
def cr133 : Cx := ⟨mem, Go.Proofs.Tryz.prog, [(134, r134), (209, r209)], [], [], gls, [0, 1, 2, 6, 7, 3], 26, 133⟩
def r133 : FnS := fnS cr133
/-- wreckage/region.Write -/
def cr79 : Cx := ⟨mem, Go.Proofs.Tryz.prog, [(27, r27), (133, r133), (134, r134)], [], [], gls, [0, 1, 2, 6, 7, 8, 3], 46, 79⟩
def r79 : FnS := fnS cr79
/-- wreckage/bump.Put -/
def cr48 : Cx := ⟨mem, Go.Proofs.Tryz.prog, [(78, r78), (79, r79)], [], [], gls, [0, 1, 2, 6, 7, 8, 9, 10], 35, 48⟩
def r48 : FnS := fnS cr48
/-- wreckage/bump.Texts -/
def cr20 : Cx := ⟨mem, Go.Proofs.Tryz.prog, [(45, r45), (46, r46), (47, r47), (48, r48)], [], [], gls, [0, 1, 4, 5, 6, 29, 28, 27, 41, 40, 39, 11], 66, 20⟩
def r20 : FnS := fnSE cr20 r45
/-- wreckage/frame.check -/
def cr49 : Cx := ⟨mem, Go.Proofs.Tryz.prog, [], [], [], gls, [0, 2], 32, 49⟩
def r49 : FnS := fnS cr49
/-- wreckage/frame.moded -/
def cr51 : Cx := ⟨mem, Go.Proofs.Tryz.prog, [], [], [], gls, [0, 1, 4], 14, 51⟩
def r51 : FnS := fnS cr51
/-- wreckage/layout.Offsets -/
def cr81 : Cx := ⟨mem, Go.Proofs.Tryz.prog, [(140, r140), (141, r141), (142, r142)], [], [], gls, [0, 1, 4, 5, 6, 7, 27, 26, 25, 44, 43, 42, 9], 67, 81⟩
def r81 : FnS := fnS cr81
/-- wreckage/frame.laid -/
def cr52 : Cx := ⟨mem, Go.Proofs.Tryz.prog, [(54, r54), (81, r81)], [], [], gls, [0, 1, 4, 5], 31, 52⟩
def r52 : FnS := fnS cr52
/-- slices.Grow[[]byte,byte] -/
def cr83 : Cx := ⟨mem, Go.Proofs.Tryz.prog, [], [], [], gls, [0, 1, 4], 27, 83⟩
def r83 : FnS := fnS cr83
/-- slices.Concat[[]byte,byte] -/
def cr55 : Cx := ⟨mem, Go.Proofs.Tryz.prog, [(83, r83)], [], [], gls, [0, 2, 11, 10, 9, 3, 27, 26, 25, 6], 36, 55⟩
def r55 : FnS := fnS cr55
/-- wreckage/frame.Push -/
def cr21 : Cx := ⟨mem, Go.Proofs.Tryz.prog, [(49, r49), (50, r50), (51, r51), (52, r52), (53, r53), (54, r54), (55, r55)], [], [], gls, [0, 1, 2, 3, 4, 5, 6, 7, 16, 17, 18, 9, 84, 83, 88, 23, 24, 25, 118, 117, 116, 21, 27, 29, 32, 8], 186, 21⟩
def r21 : FnS := fnS cr21
/-- wreckage/image.Address -/
def cr22 : Cx := ⟨mem, Go.Proofs.Tryz.prog, [(50, r50)], [], [], gls, [0, 1, 2, 6, 7, 3], 45, 22⟩
def r22 : FnS := fnS cr22
/-- wreckage/run.New -/
def cr5 : Cx := ⟨mem, Go.Proofs.Tryz.prog, [(18, r18), (19, r19), (20, r20), (21, r21), (22, r22)], [], [], gls, [0, 1, 4, 5, 3, 2, 10, 7], 74, 5⟩
def q5 : FnS := fnS cr5
def q5_2 : FnS := knownF a5_2 v5_2 h5_2 q5
def q5_29 : FnS := knownF a5_29 v5_29 h5_29 q5_2
def q5_61 : FnS := knownF a5_61 v5_61 h5_61 q5_29
def q5_93 : FnS := knownF a5_93 v5_93 h5_93 q5_61
def q5_230 : FnS := knownF a5_230 v5_230 h5_230 q5_93
def q5_252 : FnS := knownF a5_252 v5_252 h5_252 q5_230
def q5_283 : FnS := knownF a5_283 v5_283 h5_283 q5_252
def q5_304 : FnS := knownF a5_304 v5_304 h5_304 q5_283
def q5_306 : FnS := knownF a5_306 v5_306 h5_306 q5_304
def q5_307 : FnS := knownF a5_307 v5_307 h5_307 q5_306
def q5_308 : FnS := knownF a5_308 v5_308 h5_308 q5_307
def q5_309 : FnS := knownF a5_309 v5_309 h5_309 q5_308
def r5 : FnS := knownF a5_324 v5_324 h5_324 q5_309
/-- wreckage/wreckagelaw23.limits -/
def cr6 : Cx := ⟨mem, Go.Proofs.Tryz.prog, [], [], [], gls, [0], 2, 6⟩
def r6 : FnS := fnS cr6
/-- wreckage/wreckageref13.Twin -/
def cr24 : Cx := ⟨mem, Go.Proofs.Tryz.prog, [], [], [], gls, [0, 2], 10, 24⟩
def r24 : FnS := fnS cr24
/-- wreckage/wreckageref19.Twin -/
def cr25 : Cx := ⟨mem, Go.Proofs.Tryz.prog, [], [], [], gls, [0, 2], 6, 25⟩
def r25 : FnS := fnS cr25
/-- wreckage/wreckageref20.Twin -/
def cr7 : Cx := ⟨mem, Go.Proofs.Tryz.prog, [(23, r23), (24, r24), (25, r25)], [], [], gls, [0, 2, 4, 1, 3], 38, 7⟩
def q7 : FnS := fnS cr7
def r7 : FnS := knownF a7_310 v7_310 h7_310 q7
/-- wreckage/routine.base -/
def cr218 : Cx := ⟨mem, Go.Proofs.Tryz.prog, [], [], [], gls, [0, 2], 7, 218⟩
def r218 : FnS := fnS cr218
/-- wreckage/routine.coded -/
def cr219 : Cx := ⟨mem, Go.Proofs.Tryz.prog, [], [], [], gls, [0, 2], 9, 219⟩
def r219 : FnS := fnS cr219
/-- wreckage/routine.high -/
def cr220 : Cx := ⟨mem, Go.Proofs.Tryz.prog, [], [], [], gls, [0, 2], 14, 220⟩
def r220 : FnS := fnS cr220
/-- wreckage/routine.valid -/
def cr143 : Cx := ⟨mem, Go.Proofs.Tryz.prog, [(218, r218), (219, r219), (220, r220)], [], [], gls, [0, 1, 4, 3], 65, 143⟩
def r143 : FnS := fnS cr143
/-- wreckage/routine.Check -/
def cr85 : Cx := ⟨mem, Go.Proofs.Tryz.prog, [(143, r143)], [], [], gls, [0, 2, 15, 14, 13], 25, 85⟩
def r85 : FnS := fnS cr85
/-- bytes.Equal -/
def cr144 : Cx := ⟨mem, Go.Proofs.Tryz.prog, [], [], [], gls, [0, 1, 4], 10, 144⟩
def r144 : FnS := fnS cr144
/-- bytes.HasPrefix -/
def cr86 : Cx := ⟨mem, Go.Proofs.Tryz.prog, [(144, r144)], [], [], gls, [0, 1, 4], 18, 86⟩
def r86 : FnS := fnS cr86
/-- wreckage/image.Find -/
def cr145 : Cx := ⟨mem, Go.Proofs.Tryz.prog, [(50, r50)], [], [], gls, [0, 1, 4, 5, 6, 2, 8], 45, 145⟩
def r145 : FnS := fnS cr145
/-- wreckage/tables.At$1 -/
def cr278 : Cx := ⟨mem, Go.Proofs.Tryz.prog, [], [], [], gls, [0, 1, 2, 4], 12, 278⟩
def r278 : FnS := fnS cr278
/-- sort.Search -/
def cr277 : Cx := ⟨mem, Go.Proofs.Tryz.prog, [(278, r278)], [], [], gls, [0, 1, 4, 5, 6], 26, 277⟩
def r277 : FnS := fnS cr277
/-- wreckage/tables.At -/
def cr221 : Cx := ⟨mem, Go.Proofs.Tryz.prog, [(273, r273), (277, r277)], [], [], gls, [0, 1, 2, 6, 7, 5, 3], 33, 221⟩
def r221 : FnS := fnS cr221
/-- wreckage/frame.Size -/
def cr146 : Cx := ⟨mem, Go.Proofs.Tryz.prog, [(52, r52), (145, r145), (221, r221)], [], [], gls, [0, 1, 4, 5, 2, 6, 7, 10, 11], 62, 146⟩
def r146 : FnS := fnS cr146
/-- wreckage/region.word -/
def cr279 : Cx := ⟨mem, Go.Proofs.Tryz.prog, [(134, r134), (209, r209)], [], [], gls, [0, 1, 2, 6, 7, 3, 9], 32, 279⟩
def r279 : FnS := fnS cr279
/-- wreckage/region.Load -/
def cr222 : Cx := ⟨mem, Go.Proofs.Tryz.prog, [(279, r279)], [], [], gls, [0, 1, 2, 6, 7, 11, 10, 3, 8], 40, 222⟩
def r222 : FnS := fnS cr222
/-- wreckage/frame.Head -/
def cr147 : Cx := ⟨mem, Go.Proofs.Tryz.prog, [(49, r49), (51, r51), (133, r133), (222, r222)], [], [], gls, [0, 1, 4, 5, 6, 7, 2], 56, 147⟩
def r147 : FnS := fnS cr147
/-- wreckage/frame.Walk -/
def cr87 : Cx := ⟨mem, Go.Proofs.Tryz.prog, [(49, r49), (50, r50), (145, r145), (146, r146), (147, r147)], [], [], gls, [0, 1, 2, 6, 7, 3, 4, 10, 16, 12, 17, 13, 14, 11, 19, 20, 18], 114, 87⟩
def r87 : FnS := fnS cr87
/-- wreckage/basic.Check -/
def cr57 : Cx := ⟨mem, Go.Proofs.Tryz.prog, [(18, r18), (19, r19), (20, r20), (84, r84), (85, r85), (86, r86), (87, r87)], [], [], gls, [0, 2, 1, 102, 101, 100, 10, 9], 162, 57⟩
def q57 : FnS := fnS cr57
def q57_3 : FnS := knownF a57_3 v57_3 h57_3 q57
def q57_4 : FnS := knownF a57_4 v57_4 h57_4 q57_3
def q57_30 : FnS := knownF a57_30 v57_30 h57_30 q57_4
def q57_31 : FnS := knownF a57_31 v57_31 h57_31 q57_30
def q57_62 : FnS := knownF a57_62 v57_62 h57_62 q57_31
def q57_63 : FnS := knownF a57_63 v57_63 h57_63 q57_62
def q57_94 : FnS := knownF a57_94 v57_94 h57_94 q57_63
def q57_95 : FnS := knownF a57_95 v57_95 h57_95 q57_94
def q57_231 : FnS := knownF a57_231 v57_231 h57_231 q57_95
def q57_232 : FnS := knownF a57_232 v57_232 h57_232 q57_231
def q57_253 : FnS := knownF a57_253 v57_253 h57_253 q57_232
def q57_254 : FnS := knownF a57_254 v57_254 h57_254 q57_253
def q57_284 : FnS := knownF a57_284 v57_284 h57_284 q57_254
def q57_285 : FnS := knownF a57_285 v57_285 h57_285 q57_284
def q57_314 : FnS := knownF a57_314 v57_314 h57_314 q57_285
def q57_318 : FnS := knownF a57_318 v57_318 h57_318 q57_314
def q57_325 : FnS := knownF a57_325 v57_325 h57_325 q57_318
def q57_326 : FnS := knownF a57_326 v57_326 h57_326 q57_325
def q57_6 : FnS := knownF a57_6 v57_6 h57_6 q57
def q57_33 : FnS := knownF a57_33 v57_33 h57_33 q57_6
def q57_65 : FnS := knownF a57_65 v57_65 h57_65 q57_33
def q57_97 : FnS := knownF a57_97 v57_97 h57_97 q57_65
def q57_234 : FnS := knownF a57_234 v57_234 h57_234 q57_97
def q57_256 : FnS := knownF a57_256 v57_256 h57_256 q57_234
def q57_287 : FnS := knownF a57_287 v57_287 h57_287 q57_256
def q57_328 : FnS := knownF a57_328 v57_328 h57_328 q57_287
def q57_8 : FnS := knownF a57_8 v57_8 h57_8 q57
def q57_35 : FnS := knownF a57_35 v57_35 h57_35 q57_8
def q57_67 : FnS := knownF a57_67 v57_67 h57_67 q57_35
def q57_99 : FnS := knownF a57_99 v57_99 h57_99 q57_67
def q57_236 : FnS := knownF a57_236 v57_236 h57_236 q57_99
def q57_258 : FnS := knownF a57_258 v57_258 h57_258 q57_236
def q57_289 : FnS := knownF a57_289 v57_289 h57_289 q57_258
def q57_330 : FnS := knownF a57_330 v57_330 h57_330 q57_289
def q57_10 : FnS := knownF a57_10 v57_10 h57_10 q57
def q57_37 : FnS := knownF a57_37 v57_37 h57_37 q57_10
def q57_69 : FnS := knownF a57_69 v57_69 h57_69 q57_37
def q57_101 : FnS := knownF a57_101 v57_101 h57_101 q57_69
def q57_238 : FnS := knownF a57_238 v57_238 h57_238 q57_101
def q57_260 : FnS := knownF a57_260 v57_260 h57_260 q57_238
def q57_291 : FnS := knownF a57_291 v57_291 h57_291 q57_260
def q57_332 : FnS := knownF a57_332 v57_332 h57_332 q57_291
def q57_12 : FnS := knownF a57_12 v57_12 h57_12 q57
def q57_39 : FnS := knownF a57_39 v57_39 h57_39 q57_12
def q57_71 : FnS := knownF a57_71 v57_71 h57_71 q57_39
def q57_103 : FnS := knownF a57_103 v57_103 h57_103 q57_71
def q57_240 : FnS := knownF a57_240 v57_240 h57_240 q57_103
def q57_262 : FnS := knownF a57_262 v57_262 h57_262 q57_240
def q57_293 : FnS := knownF a57_293 v57_293 h57_293 q57_262
def q57_14 : FnS := knownF a57_14 v57_14 h57_14 q57
def q57_41 : FnS := knownF a57_41 v57_41 h57_41 q57_14
def q57_73 : FnS := knownF a57_73 v57_73 h57_73 q57_41
def q57_105 : FnS := knownF a57_105 v57_105 h57_105 q57_73
def q57_242 : FnS := knownF a57_242 v57_242 h57_242 q57_105
def q57_264 : FnS := knownF a57_264 v57_264 h57_264 q57_242
def q57_295 : FnS := knownF a57_295 v57_295 h57_295 q57_264
def q57_16 : FnS := knownF a57_16 v57_16 h57_16 q57
def q57_44 : FnS := knownF a57_44 v57_44 h57_44 q57_16
def q57_75 : FnS := knownF a57_75 v57_75 h57_75 q57_44
def q57_107 : FnS := knownF a57_107 v57_107 h57_107 q57_75
def q57_244 : FnS := knownF a57_244 v57_244 h57_244 q57_107
def q57_266 : FnS := knownF a57_266 v57_266 h57_266 q57_244
def q57_18 : FnS := knownF a57_18 v57_18 h57_18 q57
def q57_46 : FnS := knownF a57_46 v57_46 h57_46 q57_18
def q57_77 : FnS := knownF a57_77 v57_77 h57_77 q57_46
def q57_109 : FnS := knownF a57_109 v57_109 h57_109 q57_77
def q57_246 : FnS := knownF a57_246 v57_246 h57_246 q57_109
def q57_268 : FnS := knownF a57_268 v57_268 h57_268 q57_246
def q57_20 : FnS := knownF a57_20 v57_20 h57_20 q57
def q57_48 : FnS := knownF a57_48 v57_48 h57_48 q57_20
def q57_79 : FnS := knownF a57_79 v57_79 h57_79 q57_48
def q57_111 : FnS := knownF a57_111 v57_111 h57_111 q57_79
def q57_270 : FnS := knownF a57_270 v57_270 h57_270 q57_111
def q57_22 : FnS := knownF a57_22 v57_22 h57_22 q57
def q57_50 : FnS := knownF a57_50 v57_50 h57_50 q57_22
def q57_81 : FnS := knownF a57_81 v57_81 h57_81 q57_50
def q57_113 : FnS := knownF a57_113 v57_113 h57_113 q57_81
def q57_272 : FnS := knownF a57_272 v57_272 h57_272 q57_113
def q57_24 : FnS := knownF a57_24 v57_24 h57_24 q57
def q57_52 : FnS := knownF a57_52 v57_52 h57_52 q57_24
def q57_83 : FnS := knownF a57_83 v57_83 h57_83 q57_52
def q57_115 : FnS := knownF a57_115 v57_115 h57_115 q57_83
def q57_274 : FnS := knownF a57_274 v57_274 h57_274 q57_115
def q57_54 : FnS := knownF a57_54 v57_54 h57_54 q57
def q57_85 : FnS := knownF a57_85 v57_85 h57_85 q57_54
def q57_117 : FnS := knownF a57_117 v57_117 h57_117 q57_85
def q57_276 : FnS := knownF a57_276 v57_276 h57_276 q57_117
def q57_56 : FnS := knownF a57_56 v57_56 h57_56 q57
def q57_87 : FnS := knownF a57_87 v57_87 h57_87 q57_56
def q57_119 : FnS := knownF a57_119 v57_119 h57_119 q57_87
def q57_278 : FnS := knownF a57_278 v57_278 h57_278 q57_119
def q57_121 : FnS := knownF a57_121 v57_121 h57_121 q57
def q57_123 : FnS := knownF a57_123 v57_123 h57_123 q57
def q57_125 : FnS := knownF a57_125 v57_125 h57_125 q57
def q57_127 : FnS := knownF a57_127 v57_127 h57_127 q57
def q57_129 : FnS := knownF a57_129 v57_129 h57_129 q57
def q57_131 : FnS := knownF a57_131 v57_131 h57_131 q57
def q57_133 : FnS := knownF a57_133 v57_133 h57_133 q57
def q57_135 : FnS := knownF a57_135 v57_135 h57_135 q57
def q57_137 : FnS := knownF a57_137 v57_137 h57_137 q57
def q57_139 : FnS := knownF a57_139 v57_139 h57_139 q57
def q57_141 : FnS := knownF a57_141 v57_141 h57_141 q57
def q57_143 : FnS := knownF a57_143 v57_143 h57_143 q57
def q57_145 : FnS := knownF a57_145 v57_145 h57_145 q57
def q57_147 : FnS := knownF a57_147 v57_147 h57_147 q57
def q57_149 : FnS := knownF a57_149 v57_149 h57_149 q57
def q57_151 : FnS := knownF a57_151 v57_151 h57_151 q57
def q57_153 : FnS := knownF a57_153 v57_153 h57_153 q57
def q57_155 : FnS := knownF a57_155 v57_155 h57_155 q57
def q57_157 : FnS := knownF a57_157 v57_157 h57_157 q57
def q57_159 : FnS := knownF a57_159 v57_159 h57_159 q57
def q57_161 : FnS := knownF a57_161 v57_161 h57_161 q57
def q57_163 : FnS := knownF a57_163 v57_163 h57_163 q57
def q57_165 : FnS := knownF a57_165 v57_165 h57_165 q57
def q57_167 : FnS := knownF a57_167 v57_167 h57_167 q57
def q57_169 : FnS := knownF a57_169 v57_169 h57_169 q57
def q57_171 : FnS := knownF a57_171 v57_171 h57_171 q57
def q57_173 : FnS := knownF a57_173 v57_173 h57_173 q57
def q57_175 : FnS := knownF a57_175 v57_175 h57_175 q57
def q57_177 : FnS := knownF a57_177 v57_177 h57_177 q57
def q57_179 : FnS := knownF a57_179 v57_179 h57_179 q57
def q57_181 : FnS := knownF a57_181 v57_181 h57_181 q57
def q57_183 : FnS := knownF a57_183 v57_183 h57_183 q57
def q57_185 : FnS := knownF a57_185 v57_185 h57_185 q57
def q57_187 : FnS := knownF a57_187 v57_187 h57_187 q57
def q57_189 : FnS := knownF a57_189 v57_189 h57_189 q57
def q57_191 : FnS := knownF a57_191 v57_191 h57_191 q57
def q57_193 : FnS := knownF a57_193 v57_193 h57_193 q57
def q57_195 : FnS := knownF a57_195 v57_195 h57_195 q57
def q57_197 : FnS := knownF a57_197 v57_197 h57_197 q57
def q57_199 : FnS := knownF a57_199 v57_199 h57_199 q57
def q57_201 : FnS := knownF a57_201 v57_201 h57_201 q57
def q57_203 : FnS := knownF a57_203 v57_203 h57_203 q57
def q57_205 : FnS := knownF a57_205 v57_205 h57_205 q57
def q57_207 : FnS := knownF a57_207 v57_207 h57_207 q57
def q57_209 : FnS := knownF a57_209 v57_209 h57_209 q57
def q57_211 : FnS := knownF a57_211 v57_211 h57_211 q57
def q57_213 : FnS := knownF a57_213 v57_213 h57_213 q57
def q57_215 : FnS := knownF a57_215 v57_215 h57_215 q57
def q57_217 : FnS := knownF a57_217 v57_217 h57_217 q57
def q57_219 : FnS := knownF a57_219 v57_219 h57_219 q57
def q57_221 : FnS := knownF a57_221 v57_221 h57_221 q57
def q57_223 : FnS := knownF a57_223 v57_223 h57_223 q57
def q57_225 : FnS := knownF a57_225 v57_225 h57_225 q57
def q57_312 : FnS := knownF a57_312 v57_312 h57_312 q57
def r57 : FnS := chooseF selM [(0, q57_326), (1, q57_328), (2, q57_330), (3, q57_332), (4, q57_293), (5, q57_295), (6, q57_266), (7, q57_268), (8, q57_270), (9, q57_272), (10, q57_274), (11, q57_276), (12, q57_278), (13, q57_121), (14, q57_123), (15, q57_125), (16, q57_127), (17, q57_129), (18, q57_131), (19, q57_133), (20, q57_135), (21, q57_137), (22, q57_139), (23, q57_141), (24, q57_143), (25, q57_145), (26, q57_147), (27, q57_149), (28, q57_151), (29, q57_153), (30, q57_155), (31, q57_157), (32, q57_159), (33, q57_161), (34, q57_163), (35, q57_165), (36, q57_167), (37, q57_169), (38, q57_171), (39, q57_173), (40, q57_175), (41, q57_177), (42, q57_179), (43, q57_181), (44, q57_183), (45, q57_185), (46, q57_187), (47, q57_189), (48, q57_191), (49, q57_193), (50, q57_195), (51, q57_197), (52, q57_199), (53, q57_201), (54, q57_203), (55, q57_205), (56, q57_207), (57, q57_209), (58, q57_211), (59, q57_213), (60, q57_215), (61, q57_217), (62, q57_219), (63, q57_221), (64, q57_223), (65, q57_225), (18446744073709551615, q57_312)] q57
/-- wreckage/run.Check -/
def cr26 : Cx := ⟨mem, Go.Proofs.Tryz.prog, [(57, r57)], [], [], gls, [0, 2], 5, 26⟩
def r26 : FnS := fnS cr26
/-- slices.Clone[[]wreckage/api.Routine,wreckage/api.Routine] -/
def cr28 : Cx := ⟨mem, Go.Proofs.Tryz.prog, [], [], [], gls, [0, 2], 8, 28⟩
def r28 : FnS := fnS cr28
/-- slices.Clone[[]wreckage/api.Region,wreckage/api.Region] -/
def cr29 : Cx := ⟨mem, Go.Proofs.Tryz.prog, [], [], [], gls, [0, 2], 8, 29⟩
def r29 : FnS := fnS cr29
/-- wreckage/routine.Ready -/
def cr88 : Cx := ⟨mem, Go.Proofs.Tryz.prog, [(85, r85)], [], [], gls, [0, 2, 3, 15, 14, 13, 5], 29, 88⟩
def r88 : FnS := fnS cr88
/-- wreckage/sched.ended -/
def cr58 : Cx := ⟨mem, Go.Proofs.Tryz.prog, [(88, r88)], [], [], gls, [0, 2], 22, 58⟩
def r58 : FnS := fnS cr58
/-- wreckage/sched.Pick -/
def cr59 : Cx := ⟨mem, Go.Proofs.Tryz.prog, [(57, r57), (88, r88)], [], [], gls, [0, 1, 4, 5, 2, 7], 36, 59⟩
def r59 : FnS := fnS cr59
/-- wreckage/unwind.check -/
def cr89 : Cx := ⟨mem, Go.Proofs.Tryz.prog, [(57, r57)], [], [], gls, [0, 1, 4, 2], 29, 89⟩
def r89 : FnS := fnS cr89
/-- wreckage/unwind.copied -/
def cr94 : Cx := ⟨mem, Go.Proofs.Tryz.prog, [(27, r27), (28, r28), (29, r29)], [], [], gls, [0, 2, 17, 16, 1], 38, 94⟩
def r94 : FnS := fnS cr94
/-- wreckage/unwind.open -/
def cr90 : Cx := ⟨mem, Go.Proofs.Tryz.prog, [(87, r87), (94, r94)], [], [], gls, [0, 1, 4], 46, 90⟩
def r90 : FnS := fnS cr90
/-- wreckage/basic.Does -/
def cr91 : Cx := ⟨mem, Go.Proofs.Tryz.prog, [], [], [], gls, [0, 2, 4], 17, 91⟩
def r91 : FnS := fnS cr91
/-- wreckage/basic.open -/
def cr148 : Cx := ⟨mem, Go.Proofs.Tryz.prog, [(27, r27), (28, r28), (29, r29), (81, r81), (145, r145), (146, r146)], [], [], gls, [0, 1, 4, 22, 21, 2], 112, 148⟩
def r148 : FnS := fnS cr148
/-- (*wreckage/basic.cpu).size -/
def cr230 : Cx := ⟨mem, Go.Proofs.Tryz.prog, [(53, r53)], [], [], gls, [0, 1, 4], 21, 230⟩
def r230 : FnS := fnS cr230
/-- (*wreckage/basic.cpu).slot -/
def cr223 : Cx := ⟨mem, Go.Proofs.Tryz.prog, [(230, r230)], [], [], gls, [0, 1, 4], 53, 223⟩
def r223 : FnS := fnS cr223
/-- (*wreckage/basic.cpu).next -/
def cr149 : Cx := ⟨mem, Go.Proofs.Tryz.prog, [(223, r223)], [], [], gls, [0, 1, 4], 31, 149⟩
def r149 : FnS := fnS cr149
/-- (*wreckage/basic.cpu).word -/
def cr224 : Cx := ⟨mem, Go.Proofs.Tryz.prog, [(223, r223)], [], [], gls, [0, 1, 2, 6, 20, 19, 18, 7], 34, 224⟩
def r224 : FnS := fnS cr224
/-- (*wreckage/basic.cpu).put -/
def cr225 : Cx := ⟨mem, Go.Proofs.Tryz.prog, [(223, r223)], [], [], gls, [0, 1, 2, 15, 14, 13, 20, 6, 7, 8], 36, 225⟩
def r225 : FnS := fnS cr225
/-- (*wreckage/basic.cpu).text -/
def cr226 : Cx := ⟨mem, Go.Proofs.Tryz.prog, [(20, r20)], [], [], gls, [0, 1, 4], 23, 226⟩
def r226 : FnS := fnS cr226
/-- (*wreckage/basic.cpu).tell -/
def cr227 : Cx := ⟨mem, Go.Proofs.Tryz.prog, [(223, r223)], [], [], gls, [0, 1, 2], 15, 227⟩
def r227 : FnS := fnS cr227
/-- (*wreckage/basic.cpu).numbers -/
def cr150 : Cx := ⟨mem, Go.Proofs.Tryz.prog, [(223, r223), (224, r224), (225, r225), (226, r226), (227, r227)], [], [], gls, [0, 1, 4, 9, 3, 26, 6, 5], 162, 150⟩
def r150 : FnS := fnS cr150
/-- (*wreckage/basic.cpu).alloc -/
def cr229 : Cx := ⟨mem, Go.Proofs.Tryz.prog, [(78, r78), (225, r225)], [], [], gls, [0, 1, 2, 3, 8, 9, 10], 45, 229⟩
def r229 : FnS := fnS cr229
/-- (*wreckage/basic.cpu).kind -/
def cr231 : Cx := ⟨mem, Go.Proofs.Tryz.prog, [], [], [], gls, [0, 1, 4], 30, 231⟩
def r231 : FnS := fnS cr231
/-- (*wreckage/basic.cpu).parts -/
def cr151 : Cx := ⟨mem, Go.Proofs.Tryz.prog, [(224, r224), (229, r229), (230, r230), (231, r231)], [], [], gls, [0, 1, 4, 5, 3, 7], 206, 151⟩
def r151 : FnS := fnS cr151
/-- wreckage/routine.numbered -/
def cr284 : Cx := ⟨mem, Go.Proofs.Tryz.prog, [(85, r85)], [], [], gls, [0, 1, 4], 19, 284⟩
def r284 : FnS := fnS cr284
/-- wreckage/routine.Block -/
def cr235 : Cx := ⟨mem, Go.Proofs.Tryz.prog, [(28, r28), (284, r284)], [], [], gls, [0, 1, 2, 6, 7], 34, 235⟩
def r235 : FnS := fnS cr235
/-- (*wreckage/basic.cpu).others -/
def cr152 : Cx := ⟨mem, Go.Proofs.Tryz.prog, [(54, r54), (55, r55), (223, r223), (224, r224), (235, r235)], [], [], gls, [0, 1, 4, 5, 6, 7, 8, 14, 3, 16, 15], 211, 152⟩
def r152 : FnS := fnS cr152
/-- wreckage/basic.Step -/
def cr92 : Cx := ⟨mem, Go.Proofs.Tryz.prog, [(57, r57), (91, r91), (148, r148), (149, r149), (150, r150), (151, r151), (152, r152)], [], [], gls, [0, 1, 4, 5, 6, 2, 8, 9, 12, 11, 10], 147, 92⟩
def r92 : FnS := fnS cr92
/-- (*wreckage/unwind.cpu).self -/
def cr156 : Cx := ⟨mem, Go.Proofs.Tryz.prog, [], [], [], gls, [0, 2], 13, 156⟩
def r156 : FnS := fnS cr156
/-- wreckage/region.Store -/
def cr294 : Cx := ⟨mem, Go.Proofs.Tryz.prog, [(27, r27), (279, r279)], [], [], gls, [0, 1, 2, 3, 8, 9, 11, 4, 39, 38, 10], 55, 294⟩
def r294 : FnS := fnS cr294
/-- wreckage/panics.written -/
def cr283 : Cx := ⟨mem, Go.Proofs.Tryz.prog, [(294, r294)], [], [], gls, [0, 1, 2, 6, 24, 23, 3], 41, 283⟩
def r283 : FnS := fnS cr283
/-- wreckage/panics.valid -/
def cr287 : Cx := ⟨mem, Go.Proofs.Tryz.prog, [], [], [], gls, [0, 2, 1, 3], 95, 287⟩
def r287 : FnS := fnS cr287
/-- wreckage/panics.Push -/
def cr237 : Cx := ⟨mem, Go.Proofs.Tryz.prog, [(78, r78), (84, r84), (283, r283), (287, r287)], [], [], gls, [0, 1, 2, 6, 7, 8, 4, 3, 11, 12], 44, 237⟩
def r237 : FnS := fnS cr237
/-- wreckage/panics.check -/
def cr316 : Cx := ⟨mem, Go.Proofs.Tryz.prog, [(84, r84)], [], [], gls, [0, 2], 11, 316⟩
def r316 : FnS := fnS cr316
/-- wreckage/panics.there -/
def cr317 : Cx := ⟨mem, Go.Proofs.Tryz.prog, [(133, r133), (316, r316)], [], [], gls, [0, 1, 4, 2], 26, 317⟩
def r317 : FnS := fnS cr317
/-- wreckage/panics.Read -/
def cr288 : Cx := ⟨mem, Go.Proofs.Tryz.prog, [(222, r222), (287, r287), (317, r317)], [], [], gls, [0, 1, 4, 5, 17, 2, 7, 9], 53, 288⟩
def r288 : FnS := fnS cr288
/-- (*wreckage/unwind.cpu).on -/
def cr239 : Cx := ⟨mem, Go.Proofs.Tryz.prog, [(156, r156), (288, r288)], [], [], gls, [0, 2, 4, 6, 3, 7, 8], 114, 239⟩
def r239 : FnS := fnS cr239
/-- (*wreckage/unwind.cpu).raise -/
def cr153 : Cx := ⟨mem, Go.Proofs.Tryz.prog, [(156, r156), (237, r237), (239, r239)], [], [], gls, [0, 1, 4, 7, 5, 6], 49, 153⟩
def r153 : FnS := fnS cr153
/-- (*wreckage/unwind.cpu).cut -/
def cr240 : Cx := ⟨mem, Go.Proofs.Tryz.prog, [(27, r27), (156, r156)], [], [], gls, [0, 1, 4], 53, 240⟩
def r240 : FnS := fnS cr240
/-- (*wreckage/unwind.cpu).args -/
def cr154 : Cx := ⟨mem, Go.Proofs.Tryz.prog, [(53, r53), (54, r54), (240, r240)], [], [], gls, [0, 1, 4, 35, 34, 33, 5], 64, 154⟩
def r154 : FnS := fnS cr154
/-- wreckage/unwind.address -/
def cr241 : Cx := ⟨mem, Go.Proofs.Tryz.prog, [], [], [], gls, [0, 1, 4], 12, 241⟩
def r241 : FnS := fnS cr241
/-- (*wreckage/unwind.cpu).push -/
def cr155 : Cx := ⟨mem, Go.Proofs.Tryz.prog, [(21, r21), (241, r241)], [], [], gls, [0, 1, 2, 3, 4, 5, 6, 14, 17, 15], 87, 155⟩
def r155 : FnS := fnS cr155
/-- (*wreckage/unwind.cpu).spawn -/
def cr158 : Cx := ⟨mem, Go.Proofs.Tryz.prog, [(154, r154), (155, r155), (156, r156)], [], [], gls, [0, 2, 3], 75, 158⟩
def r158 : FnS := fnS cr158
/-- wreckage/defers.Take -/
def cr244 : Cx := ⟨mem, Go.Proofs.Tryz.prog, [(84, r84)], [], [], gls, [0, 1, 2, 6, 7, 8, 3, 11], 42, 244⟩
def r244 : FnS := fnS cr244
/-- wreckage/routine.End -/
def cr318 : Cx := ⟨mem, Go.Proofs.Tryz.prog, [(28, r28), (218, r218), (284, r284)], [], [], gls, [0, 1, 4, 5], 29, 318⟩
def r318 : FnS := fnS cr318
/-- (*wreckage/unwind.cpu).end -/
def cr289 : Cx := ⟨mem, Go.Proofs.Tryz.prog, [(318, r318)], [], [], gls, [0], 30, 289⟩
def r289 : FnS := fnS cr289
/-- (*wreckage/unwind.cpu).gone -/
def cr246 : Cx := ⟨mem, Go.Proofs.Tryz.prog, [(147, r147), (289, r289)], [], [], gls, [0, 2, 9, 3, 8, 11, 14, 13, 7], 251, 246⟩
def r246 : FnS := fnS cr246
/-- (*wreckage/unwind.cpu).back -/
def cr159 : Cx := ⟨mem, Go.Proofs.Tryz.prog, [(156, r156), (244, r244), (246, r246)], [], [], gls, [0, 2, 4, 3], 35, 159⟩
def r159 : FnS := fnS cr159
/-- wreckage/unwind.word -/
def cr242 : Cx := ⟨mem, Go.Proofs.Tryz.prog, [], [], [], gls, [0, 2, 5, 3], 20, 242⟩
def r242 : FnS := fnS cr242
/-- wreckage/frame.Slot -/
def cr298 : Cx := ⟨mem, Go.Proofs.Tryz.prog, [(50, r50), (52, r52)], [], [], gls, [0, 1, 2, 6, 7, 8, 3], 62, 298⟩
def r298 : FnS := fnS cr298
/-- (*wreckage/unwind.cpu).slot -/
def cr247 : Cx := ⟨mem, Go.Proofs.Tryz.prog, [(53, r53), (298, r298)], [], [], gls, [0, 1, 2, 6, 7, 8], 60, 247⟩
def r247 : FnS := fnS cr247
/-- (*wreckage/unwind.cpu).thrown -/
def cr160 : Cx := ⟨mem, Go.Proofs.Tryz.prog, [(242, r242), (247, r247)], [], [], gls, [0, 2, 6], 73, 160⟩
def r160 : FnS := fnS cr160
/-- (*wreckage/unwind.cpu).step -/
def cr93 : Cx := ⟨mem, Go.Proofs.Tryz.prog, [(153, r153), (154, r154), (155, r155), (156, r156), (158, r158), (159, r159), (160, r160)], [], [], gls, [0, 1, 4], 61, 93⟩
def r93 : FnS := fnS cr93
/-- wreckage/unwind.Step -/
def cr60 : Cx := ⟨mem, Go.Proofs.Tryz.prog, [(89, r89), (90, r90), (91, r91), (92, r92), (93, r93), (94, r94)], [], [], gls, [0, 1, 4, 5, 6, 2, 11, 8, 9, 13], 98, 60⟩
def r60 : FnS := fnS cr60
/-- wreckage/sched.Step -/
def cr30 : Cx := ⟨mem, Go.Proofs.Tryz.prog, [(19, r19), (27, r27), (28, r28), (29, r29), (57, r57), (58, r58), (59, r59), (60, r60)], [], [], gls, [0, 1, 4, 5, 6, 7, 2, 47, 46, 9, 13, 14, 11], 89, 30⟩
def q30 : FnS := fnS cr30
def q30_5 : FnS := knownF a30_5 v30_5 h30_5 q30
def q30_32 : FnS := knownF a30_32 v30_32 h30_32 q30_5
def q30_43 : FnS := knownF a30_43 v30_43 h30_43 q30_32
def q30_64 : FnS := knownF a30_64 v30_64 h30_64 q30_43
def q30_96 : FnS := knownF a30_96 v30_96 h30_96 q30_64
def q30_233 : FnS := knownF a30_233 v30_233 h30_233 q30_96
def q30_255 : FnS := knownF a30_255 v30_255 h30_255 q30_233
def q30_286 : FnS := knownF a30_286 v30_286 h30_286 q30_255
def q30_327 : FnS := knownF a30_327 v30_327 h30_327 q30_286
def q30_7 : FnS := knownF a30_7 v30_7 h30_7 q30
def q30_34 : FnS := knownF a30_34 v30_34 h30_34 q30_7
def q30_66 : FnS := knownF a30_66 v30_66 h30_66 q30_34
def q30_98 : FnS := knownF a30_98 v30_98 h30_98 q30_66
def q30_235 : FnS := knownF a30_235 v30_235 h30_235 q30_98
def q30_257 : FnS := knownF a30_257 v30_257 h30_257 q30_235
def q30_288 : FnS := knownF a30_288 v30_288 h30_288 q30_257
def q30_329 : FnS := knownF a30_329 v30_329 h30_329 q30_288
def q30_9 : FnS := knownF a30_9 v30_9 h30_9 q30
def q30_36 : FnS := knownF a30_36 v30_36 h30_36 q30_9
def q30_68 : FnS := knownF a30_68 v30_68 h30_68 q30_36
def q30_100 : FnS := knownF a30_100 v30_100 h30_100 q30_68
def q30_237 : FnS := knownF a30_237 v30_237 h30_237 q30_100
def q30_259 : FnS := knownF a30_259 v30_259 h30_259 q30_237
def q30_290 : FnS := knownF a30_290 v30_290 h30_290 q30_259
def q30_331 : FnS := knownF a30_331 v30_331 h30_331 q30_290
def q30_11 : FnS := knownF a30_11 v30_11 h30_11 q30
def q30_38 : FnS := knownF a30_38 v30_38 h30_38 q30_11
def q30_70 : FnS := knownF a30_70 v30_70 h30_70 q30_38
def q30_102 : FnS := knownF a30_102 v30_102 h30_102 q30_70
def q30_239 : FnS := knownF a30_239 v30_239 h30_239 q30_102
def q30_261 : FnS := knownF a30_261 v30_261 h30_261 q30_239
def q30_292 : FnS := knownF a30_292 v30_292 h30_292 q30_261
def q30_335 : FnS := knownF a30_335 v30_335 h30_335 q30_292
def q30_13 : FnS := knownF a30_13 v30_13 h30_13 q30
def q30_40 : FnS := knownF a30_40 v30_40 h30_40 q30_13
def q30_72 : FnS := knownF a30_72 v30_72 h30_72 q30_40
def q30_104 : FnS := knownF a30_104 v30_104 h30_104 q30_72
def q30_241 : FnS := knownF a30_241 v30_241 h30_241 q30_104
def q30_263 : FnS := knownF a30_263 v30_263 h30_263 q30_241
def q30_294 : FnS := knownF a30_294 v30_294 h30_294 q30_263
def q30_15 : FnS := knownF a30_15 v30_15 h30_15 q30
def q30_42 : FnS := knownF a30_42 v30_42 h30_42 q30_15
def q30_74 : FnS := knownF a30_74 v30_74 h30_74 q30_42
def q30_106 : FnS := knownF a30_106 v30_106 h30_106 q30_74
def q30_243 : FnS := knownF a30_243 v30_243 h30_243 q30_106
def q30_265 : FnS := knownF a30_265 v30_265 h30_265 q30_243
def q30_296 : FnS := knownF a30_296 v30_296 h30_296 q30_265
def q30_17 : FnS := knownF a30_17 v30_17 h30_17 q30
def q30_45 : FnS := knownF a30_45 v30_45 h30_45 q30_17
def q30_76 : FnS := knownF a30_76 v30_76 h30_76 q30_45
def q30_108 : FnS := knownF a30_108 v30_108 h30_108 q30_76
def q30_245 : FnS := knownF a30_245 v30_245 h30_245 q30_108
def q30_267 : FnS := knownF a30_267 v30_267 h30_267 q30_245
def q30_19 : FnS := knownF a30_19 v30_19 h30_19 q30
def q30_47 : FnS := knownF a30_47 v30_47 h30_47 q30_19
def q30_78 : FnS := knownF a30_78 v30_78 h30_78 q30_47
def q30_110 : FnS := knownF a30_110 v30_110 h30_110 q30_78
def q30_247 : FnS := knownF a30_247 v30_247 h30_247 q30_110
def q30_269 : FnS := knownF a30_269 v30_269 h30_269 q30_247
def q30_21 : FnS := knownF a30_21 v30_21 h30_21 q30
def q30_49 : FnS := knownF a30_49 v30_49 h30_49 q30_21
def q30_80 : FnS := knownF a30_80 v30_80 h30_80 q30_49
def q30_112 : FnS := knownF a30_112 v30_112 h30_112 q30_80
def q30_271 : FnS := knownF a30_271 v30_271 h30_271 q30_112
def q30_23 : FnS := knownF a30_23 v30_23 h30_23 q30
def q30_51 : FnS := knownF a30_51 v30_51 h30_51 q30_23
def q30_82 : FnS := knownF a30_82 v30_82 h30_82 q30_51
def q30_114 : FnS := knownF a30_114 v30_114 h30_114 q30_82
def q30_273 : FnS := knownF a30_273 v30_273 h30_273 q30_114
def q30_53 : FnS := knownF a30_53 v30_53 h30_53 q30
def q30_84 : FnS := knownF a30_84 v30_84 h30_84 q30_53
def q30_116 : FnS := knownF a30_116 v30_116 h30_116 q30_84
def q30_275 : FnS := knownF a30_275 v30_275 h30_275 q30_116
def q30_55 : FnS := knownF a30_55 v30_55 h30_55 q30
def q30_86 : FnS := knownF a30_86 v30_86 h30_86 q30_55
def q30_118 : FnS := knownF a30_118 v30_118 h30_118 q30_86
def q30_277 : FnS := knownF a30_277 v30_277 h30_277 q30_118
def q30_88 : FnS := knownF a30_88 v30_88 h30_88 q30
def q30_120 : FnS := knownF a30_120 v30_120 h30_120 q30_88
def q30_279 : FnS := knownF a30_279 v30_279 h30_279 q30_120
def q30_122 : FnS := knownF a30_122 v30_122 h30_122 q30
def q30_124 : FnS := knownF a30_124 v30_124 h30_124 q30
def q30_126 : FnS := knownF a30_126 v30_126 h30_126 q30
def q30_128 : FnS := knownF a30_128 v30_128 h30_128 q30
def q30_130 : FnS := knownF a30_130 v30_130 h30_130 q30
def q30_132 : FnS := knownF a30_132 v30_132 h30_132 q30
def q30_134 : FnS := knownF a30_134 v30_134 h30_134 q30
def q30_136 : FnS := knownF a30_136 v30_136 h30_136 q30
def q30_138 : FnS := knownF a30_138 v30_138 h30_138 q30
def q30_140 : FnS := knownF a30_140 v30_140 h30_140 q30
def q30_142 : FnS := knownF a30_142 v30_142 h30_142 q30
def q30_144 : FnS := knownF a30_144 v30_144 h30_144 q30
def q30_146 : FnS := knownF a30_146 v30_146 h30_146 q30
def q30_148 : FnS := knownF a30_148 v30_148 h30_148 q30
def q30_150 : FnS := knownF a30_150 v30_150 h30_150 q30
def q30_152 : FnS := knownF a30_152 v30_152 h30_152 q30
def q30_154 : FnS := knownF a30_154 v30_154 h30_154 q30
def q30_156 : FnS := knownF a30_156 v30_156 h30_156 q30
def q30_158 : FnS := knownF a30_158 v30_158 h30_158 q30
def q30_160 : FnS := knownF a30_160 v30_160 h30_160 q30
def q30_162 : FnS := knownF a30_162 v30_162 h30_162 q30
def q30_164 : FnS := knownF a30_164 v30_164 h30_164 q30
def q30_166 : FnS := knownF a30_166 v30_166 h30_166 q30
def q30_168 : FnS := knownF a30_168 v30_168 h30_168 q30
def q30_170 : FnS := knownF a30_170 v30_170 h30_170 q30
def q30_172 : FnS := knownF a30_172 v30_172 h30_172 q30
def q30_174 : FnS := knownF a30_174 v30_174 h30_174 q30
def q30_176 : FnS := knownF a30_176 v30_176 h30_176 q30
def q30_178 : FnS := knownF a30_178 v30_178 h30_178 q30
def q30_180 : FnS := knownF a30_180 v30_180 h30_180 q30
def q30_182 : FnS := knownF a30_182 v30_182 h30_182 q30
def q30_184 : FnS := knownF a30_184 v30_184 h30_184 q30
def q30_186 : FnS := knownF a30_186 v30_186 h30_186 q30
def q30_188 : FnS := knownF a30_188 v30_188 h30_188 q30
def q30_190 : FnS := knownF a30_190 v30_190 h30_190 q30
def q30_192 : FnS := knownF a30_192 v30_192 h30_192 q30
def q30_194 : FnS := knownF a30_194 v30_194 h30_194 q30
def q30_196 : FnS := knownF a30_196 v30_196 h30_196 q30
def q30_198 : FnS := knownF a30_198 v30_198 h30_198 q30
def q30_200 : FnS := knownF a30_200 v30_200 h30_200 q30
def q30_202 : FnS := knownF a30_202 v30_202 h30_202 q30
def q30_204 : FnS := knownF a30_204 v30_204 h30_204 q30
def q30_206 : FnS := knownF a30_206 v30_206 h30_206 q30
def q30_208 : FnS := knownF a30_208 v30_208 h30_208 q30
def q30_210 : FnS := knownF a30_210 v30_210 h30_210 q30
def q30_212 : FnS := knownF a30_212 v30_212 h30_212 q30
def q30_214 : FnS := knownF a30_214 v30_214 h30_214 q30
def q30_216 : FnS := knownF a30_216 v30_216 h30_216 q30
def q30_218 : FnS := knownF a30_218 v30_218 h30_218 q30
def q30_220 : FnS := knownF a30_220 v30_220 h30_220 q30
def q30_222 : FnS := knownF a30_222 v30_222 h30_222 q30
def q30_224 : FnS := knownF a30_224 v30_224 h30_224 q30
def q30_226 : FnS := knownF a30_226 v30_226 h30_226 q30
def r30 : FnS := chooseF selM [(0, q30_327), (1, q30_329), (2, q30_331), (3, q30_335), (4, q30_294), (5, q30_296), (6, q30_267), (7, q30_269), (8, q30_271), (9, q30_273), (10, q30_275), (11, q30_277), (12, q30_279), (13, q30_122), (14, q30_124), (15, q30_126), (16, q30_128), (17, q30_130), (18, q30_132), (19, q30_134), (20, q30_136), (21, q30_138), (22, q30_140), (23, q30_142), (24, q30_144), (25, q30_146), (26, q30_148), (27, q30_150), (28, q30_152), (29, q30_154), (30, q30_156), (31, q30_158), (32, q30_160), (33, q30_162), (34, q30_164), (35, q30_166), (36, q30_168), (37, q30_170), (38, q30_172), (39, q30_174), (40, q30_176), (41, q30_178), (42, q30_180), (43, q30_182), (44, q30_184), (45, q30_186), (46, q30_188), (47, q30_190), (48, q30_192), (49, q30_194), (50, q30_196), (51, q30_198), (52, q30_200), (53, q30_202), (54, q30_204), (55, q30_206), (56, q30_208), (57, q30_210), (58, q30_212), (59, q30_214), (60, q30_216), (61, q30_218), (62, q30_220), (63, q30_222), (64, q30_224), (65, q30_226)] q30
/-- wreckage/sched.Ended -/
def cr61 : Cx := ⟨mem, Go.Proofs.Tryz.prog, [(57, r57), (58, r58)], [], [], gls, [0, 2, 3, 1], 12, 61⟩
def r61 : FnS := fnS cr61
/-- wreckage/run.end -/
def cr31 : Cx := ⟨mem, Go.Proofs.Tryz.prog, [(61, r61)], [], [], gls, [0, 1, 4, 5], 17, 31⟩
def r31 : FnS := fnS cr31
/-- wreckage/run.Go -/
def cr8 : Cx := ⟨mem, Go.Proofs.Tryz.prog, [(19, r19), (26, r26), (27, r27), (28, r28), (29, r29), (30, r30), (31, r31)], [], [], gls, [0, 1, 4, 5, 6, 2, 47, 46, 65, 64, 63, 13, 11, 9, 12], 110, 8⟩
def q8 : FnS := fnS cr8
def q8_25 : FnS := knownF a8_25 v8_25 h8_25 q8
def q8_57 : FnS := knownF a8_57 v8_57 h8_57 q8_25
def q8_89 : FnS := knownF a8_89 v8_89 h8_89 q8_57
def q8_227 : FnS := knownF a8_227 v8_227 h8_227 q8_89
def q8_248 : FnS := knownF a8_248 v8_248 h8_248 q8_227
def q8_280 : FnS := knownF a8_280 v8_280 h8_280 q8_248
def q8_297 : FnS := knownF a8_297 v8_297 h8_297 q8_280
def q8_300 : FnS := knownF a8_300 v8_300 h8_300 q8_297
def q8_313 : FnS := knownF a8_313 v8_313 h8_313 q8_300
def q8_315 : FnS := knownF a8_315 v8_315 h8_315 q8_313
def q8_316 : FnS := knownF a8_316 v8_316 h8_316 q8_315
def q8_317 : FnS := knownF a8_317 v8_317 h8_317 q8_316
def q8_319 : FnS := knownF a8_319 v8_319 h8_319 q8_317
def q8_333 : FnS := knownF a8_333 v8_333 h8_333 q8_319
def r8 : FnS := knownF a8_336 v8_336 h8_336 q8_333
/-- wreckage/run.Whole -/
def cr9 : Cx := ⟨mem, Go.Proofs.Tryz.prog, [(5, r5), (8, r8), (18, r18), (19, r19)], [], [], gls, [0, 1, 4, 5, 6, 3, 2, 9], 44, 9⟩
def q9 : FnS := fnS cr9
def q9_26 : FnS := knownF a9_26 v9_26 h9_26 q9
def q9_58 : FnS := knownF a9_58 v9_58 h9_58 q9_26
def q9_90 : FnS := knownF a9_90 v9_90 h9_90 q9_58
def q9_228 : FnS := knownF a9_228 v9_228 h9_228 q9_90
def q9_249 : FnS := knownF a9_249 v9_249 h9_249 q9_228
def q9_281 : FnS := knownF a9_281 v9_281 h9_281 q9_249
def q9_298 : FnS := knownF a9_298 v9_298 h9_298 q9_281
def q9_301 : FnS := knownF a9_301 v9_301 h9_301 q9_298
def q9_320 : FnS := knownF a9_320 v9_320 h9_320 q9_301
def q9_321 : FnS := knownF a9_321 v9_321 h9_321 q9_320
def q9_322 : FnS := knownF a9_322 v9_322 h9_322 q9_321
def q9_323 : FnS := knownF a9_323 v9_323 h9_323 q9_322
def q9_334 : FnS := knownF a9_334 v9_334 h9_334 q9_323
def r9 : FnS := knownF a9_337 v9_337 h9_337 q9_334
/-- internal/stringslite.Index -/
def r325 : FnS := subF
/-- strings.Index -/
def cr301 : Cx := ⟨mem, Go.Proofs.Tryz.prog, [(325, r325)], [], [], gls, [0, 1, 4], 8, 301⟩
def r301 : FnS := fnS cr301
/-- strings.Count -/
def cr300 : Cx := ⟨mem, Go.Proofs.Tryz.prog, [(301, r301)], [], [], gls, [0, 1, 4, 5, 6], 34, 300⟩
def r300 : FnS := cntG (fnS cr300)
/-- strings.genSplit -/
def cr248 : Cx := ⟨mem, Go.Proofs.Tryz.prog, [(300, r300), (301, r301)], [], [], gls, [0, 1, 2, 3, 8, 10, 9, 11], 66, 248⟩
def r248 : FnS := fnS cr248
/-- strings.Split -/
def cr161 : Cx := ⟨mem, Go.Proofs.Tryz.prog, [(248, r248)], [], [], gls, [0, 1, 4], 8, 161⟩
def r161 : FnS := fnS cr161
/-- strings.Fields -/
def cr162 : Cx := ⟨mem, Go.Proofs.Tryz.prog, [], [], [], gls, [0, 2, 6, 5, 3, 4, 12, 9, 10, 11], 106, 162⟩
def r162 : FnS := fnS cr162
/-- wreckage/ops.names -/
def cr251 : Cx := ⟨mem, Go.Proofs.Tryz.prog, [], [], [], gls, [0], 2, 251⟩
def r251 : FnS := fnS cr251
/-- slices.Index[[]string,string] -/
def cr252 : Cx := ⟨mem, Go.Proofs.Tryz.prog, [], [], [], gls, [0, 1, 4, 8, 7], 19, 252⟩
def r252 : FnS := fnS cr252
/-- wreckage/ops.Op -/
def cr163 : Cx := ⟨mem, Go.Proofs.Tryz.prog, [(251, r251), (252, r252)], [], [], gls, [0, 2, 3, 5], 15, 163⟩
def r163 : FnS := fnS cr163
/-- strconv.Atoi -/
def r164 : FnS := atoF 402
/-- wreckage/sample.code -/
def cr95 : Cx := ⟨mem, Go.Proofs.Tryz.prog, [(161, r161), (162, r162), (163, r163), (164, r164)], [], [], gls, [0, 1, 4, 19, 18, 17, 30, 29, 28, 12, 8, 11, 5, 10, 9, 14], 71, 95⟩
def r95 : FnS := fnS cr95
/-- internal/strconv.small -/
def cr331 : Cx := ⟨mem, Go.Proofs.Tryz.prog, [], [], [], gls, [0, 2], 15, 331⟩
def r331 : FnS := fnS cr331
/-- internal/strconv.FormatInt -/
def cr308 : Cx := ⟨mem, Go.Proofs.Tryz.prog, [(331, r331)], [], [], gls, [0, 1, 4, 6, 5, 7], 54, 308⟩
def r308 : FnS := fnS cr308
/-- internal/strconv.Itoa -/
def cr255 : Cx := ⟨mem, Go.Proofs.Tryz.prog, [(308, r308)], [], [], gls, [0, 2], 5, 255⟩
def r255 : FnS := fnS cr255
/-- strconv.Itoa -/
def cr166 : Cx := ⟨mem, Go.Proofs.Tryz.prog, [(255, r255)], [], [], gls, [0, 2], 5, 166⟩
def r166 : FnS := fnS cr166
/-- wreckage/sample.piece -/
def cr96 : Cx := ⟨mem, Go.Proofs.Tryz.prog, [(166, r166)], [], [], gls, [0, 2], 39, 96⟩
def r96 : FnS := fnS cr96
/-- wreckage/check.within[wreckage/api.Func] -/
def cr256 : Cx := ⟨mem, Go.Proofs.Tryz.prog, [], [], [], gls, [0, 1, 4], 13, 256⟩
def r256 : FnS := fnS cr256
/-- slices.Clone[[]wreckage/api.Field,wreckage/api.Field] -/
def cr257 : Cx := ⟨mem, Go.Proofs.Tryz.prog, [], [], [], gls, [0, 2], 8, 257⟩
def r257 : FnS := fnS cr257
/-- slices.Clone[[]wreckage/api.Instr,wreckage/api.Instr] -/
def cr258 : Cx := ⟨mem, Go.Proofs.Tryz.prog, [], [], [], gls, [0, 2], 8, 258⟩
def r258 : FnS := fnS cr258
/-- wreckage/check.Tables -/
def cr167 : Cx := ⟨mem, Go.Proofs.Tryz.prog, [(50, r50), (75, r75), (256, r256), (257, r257), (258, r258)], [], [], gls, [0, 1, 4, 5, 2, 7], 50, 167⟩
def r167 : FnS := fnS cr167
/-- wreckage/sample.finish -/
def cr97 : Cx := ⟨mem, Go.Proofs.Tryz.prog, [(167, r167)], [], [], gls, [0, 2, 3, 15, 14, 1, 4, 5, 6], 36, 97⟩
def r97 : FnS := fnS cr97
/-- wreckage/sample.function -/
def cr98 : Cx := ⟨mem, Go.Proofs.Tryz.prog, [(162, r162), (164, r164)], [], [], gls, [0, 1, 2, 3, 4, 10, 13, 12, 11], 55, 98⟩
def r98 : FnS := fnS cr98
/-- wreckage/sample.Make -/
def cr62 : Cx := ⟨mem, Go.Proofs.Tryz.prog, [(95, r95), (96, r96), (97, r97), (98, r98)], [], [], gls, [0, 2, 3, 14, 13, 12, 4], 64, 62⟩
def r62 : FnS := fnS cr62
/-- wreckage/sample.Exhibit -/
def cr32 : Cx := ⟨mem, Go.Proofs.Tryz.prog, [(62, r62)], [], [], gls, [0, 2, 3, 4, 7, 8, 6, 5], 53, 32⟩
def q32 : FnS := fnS cr32
def q32_0 : FnS := knownF a32_0 v32_0 h32_0 q32
def q32_27 : FnS := knownF a32_27 v32_27 h32_27 q32_0
def q32_59 : FnS := knownF a32_59 v32_59 h32_59 q32_27
def q32_91 : FnS := knownF a32_91 v32_91 h32_91 q32_59
def q32_229 : FnS := knownF a32_229 v32_229 h32_229 q32_91
def q32_250 : FnS := knownF a32_250 v32_250 h32_250 q32_229
def q32_282 : FnS := knownF a32_282 v32_282 h32_282 q32_250
def r32 : FnS := knownF a32_299 v32_299 h32_299 q32_282
/-- wreckage/wreckagelaw23.alive -/
def cr10 : Cx := ⟨mem, Go.Proofs.Tryz.prog, [(9, r9), (32, r32)], [], [], gls, [0, 1], 60, 10⟩
def r10 : FnS := fnS cr10
/-- wreckage/wreckageref04.SameTable -/
def cr63 : Cx := ⟨mem, Go.Proofs.Tryz.prog, [(99, r99)], [], [], gls, [0, 1, 4, 5], 68, 63⟩
def r63 : FnS := fnS cr63
/-- wreckage/wreckageref09.Same -/
def cr33 : Cx := ⟨mem, Go.Proofs.Tryz.prog, [(63, r63), (64, r64)], [], [], gls, [0, 1, 4, 5, 2, 3, 6], 68, 33⟩
def r33 : FnS := fnS cr33
/-- wreckage/wreckageref13.Same -/
def cr34 : Cx := ⟨mem, Go.Proofs.Tryz.prog, [], [], [], gls, [0, 1, 4], 19, 34⟩
def r34 : FnS := fnS cr34
/-- wreckage/wreckageref19.Same -/
def cr35 : Cx := ⟨mem, Go.Proofs.Tryz.prog, [], [], [], gls, [0, 1, 4, 5], 26, 35⟩
def r35 : FnS := fnS cr35
/-- wreckage/wreckageref20.Same -/
def cr11 : Cx := ⟨mem, Go.Proofs.Tryz.prog, [(33, r33), (34, r34), (35, r35)], [], [], gls, [0, 1, 4, 5, 2, 3], 70, 11⟩
def q11 : FnS := fnS cr11
def r11 : FnS := knownF a11_338 v11_338 h11_338 q11
/-- wreckage/wreckagelaw23.RunNames -/
def cr3 : Cx := ⟨mem, Go.Proofs.Tryz.prog, [(4, r4), (5, r5), (6, r6), (7, r7), (8, r8), (9, r9), (10, r10), (11, r11)], [], [], gls, [0], 265, 3⟩
def r3 : FnS := fnS cr3
/-- internal/strconv.Atoi -/
def cr253 : Cx := ⟨mem, Go.Proofs.Tryz.prog, [], [], [], gls, [0, 2, 3, 49, 48, 47, 6, 8, 5], 77, 253⟩
def r253 : FnS := fnS cr253
/-- internal/stringslite.Clone -/
def cr329 : Cx := ⟨mem, Go.Proofs.Tryz.prog, [], [], [], gls, [0, 2], 18, 329⟩
def r329 : FnS := fnS cr329
/-- strconv.syntaxError -/
def cr304 : Cx := ⟨mem, Go.Proofs.Tryz.prog, [(329, r329)], [], [], gls, [0, 1, 4], 11, 304⟩
def r304 : FnS := fnS cr304
/-- strconv.toError -/
def cr254 : Cx := ⟨mem, Go.Proofs.Tryz.prog, [(304, r304)], [], [], gls, [0, 1, 2, 3, 4, 10], 43, 254⟩
def r254 : FnS := fnS cr254
/-- internal/stringslite.IndexByte -/
def r339 : FnS := idxF
/-- internal/bytealg.IndexString -/
def cr340 : Cx := ⟨mem, Go.Proofs.Tryz.prog, [], [], [], gls, [0, 1], 2, 340⟩
def r340 : FnS := fnS cr340
/-- internal/bytealg.IndexByteString -/
def cr360 : Cx := ⟨mem, Go.Proofs.Tryz.prog, [], [], [], gls, [0, 1], 2, 360⟩
def r360 : FnS := fnS cr360
end
end Go.Proofs.YtlffjnddiiojnaaGreatDoor.Tz
