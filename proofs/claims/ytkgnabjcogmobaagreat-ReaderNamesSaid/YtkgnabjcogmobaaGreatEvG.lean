import Derived.Test.YtkgnabjcogmobaaGreatEvA
import Derived.Test.YtkgnabjcogmobaaGreatProg
/- The functions. -/
open Go Go.Proofs.YtkgnabjcogmobaaGreat.Ev
namespace Go.Proofs.YtkgnabjcogmobaaGreat.Tz
noncomputable section
/-- wreckage/wreckagelaw34.example -/
def cr8 : Cx := ⟨mem, Go.Proofs.Tryz.prog, [], [], [], [], [0], 21, 8⟩
def r8 : FnS := fnS cr8
/-- wreckage/wreckagelaw34.died -/
def cr4 : Cx := ⟨mem, Go.Proofs.Tryz.prog, [(8, r8)], [], [], [], [0, 2, 1], 40, 4⟩
def r4 : FnS := fnS cr4
/-- wreckage/dump.rows -/
def cr99 : Cx := ⟨mem, Go.Proofs.Tryz.prog, [], [], [], [], [0], 9, 99⟩
def r99 : FnS := fnS cr99
/-- wreckage/kinds.zero$1 -/
def cr272 : Cx := ⟨mem, Go.Proofs.Tryz.prog, [], [], [], [], [0, 2], 5, 272⟩
def r272 : FnS := fnS cr272
/-- slices.IndexFunc[[]int,int] -/
def cr282 : Cx := ⟨mem, Go.Proofs.Tryz.prog, [(272, r272)], [], [], [], [0, 1, 4, 8, 7], 19, 282⟩
def r282 : FnS := fnS cr282
/-- slices.ContainsFunc[[]int,int] -/
def cr255 : Cx := ⟨mem, Go.Proofs.Tryz.prog, [(282, r282)], [], [], [], [0, 1, 4], 9, 255⟩
def r255 : FnS := fnS cr255
/-- wreckage/kinds.zero -/
def cr234 : Cx := ⟨mem, Go.Proofs.Tryz.prog, [(255, r255)], [], [], [], [0, 2], 6, 234⟩
def r234 : FnS := fnS cr234
/-- wreckage/kinds.fine -/
def cr187 : Cx := ⟨mem, Go.Proofs.Tryz.prog, [(234, r234)], [], [], [], [0, 1, 4, 16, 5, 15, 29, 6, 74, 73, 72, 7, 9], 118, 187⟩
def r187 : FnS := fnS cr187
/-- wreckage/kinds.widths -/
def cr188 : Cx := ⟨mem, Go.Proofs.Tryz.prog, [], [], [], [], [0, 2, 13, 20, 19, 18, 3, 4, 6, 61, 60, 59, 7, 5], 82, 188⟩
def r188 : FnS := fnS cr188
/-- wreckage/kinds.Check -/
def cr124 : Cx := ⟨mem, Go.Proofs.Tryz.prog, [(187, r187), (188, r188)], [], [], [], [0, 2, 11, 10, 22, 21, 20], 29, 124⟩
def r124 : FnS := fnS cr124
/-- wreckage/tables.counted -/
def cr215 : Cx := ⟨mem, Go.Proofs.Tryz.prog, [], [], [], [], [0, 2], 9, 215⟩
def r215 : FnS := fnS cr215
/-- wreckage/tables.fine -/
def cr216 : Cx := ⟨mem, Go.Proofs.Tryz.prog, [], [], [], [], [0, 1, 4, 35, 34, 33, 5, 7], 55, 216⟩
def r216 : FnS := fnS cr216
/-- wreckage/tables.Check -/
def cr158 : Cx := ⟨mem, Go.Proofs.Tryz.prog, [(215, r215), (216, r216)], [], [], [], [0, 1, 4], 15, 158⟩
def r158 : FnS := fnS cr158
/-- wreckage/ops.shape$1 -/
def cr226 : Cx := ⟨mem, Go.Proofs.Tryz.prog, [], [], [], [], [0, 1, 2], 7, 226⟩
def r226 : FnS := fnS cr226
/-- wreckage/ops.read -/
def cr230 : Cx := ⟨mem, Go.Proofs.Tryz.prog, [], [], [], [], [0], 2, 230⟩
def r230 : FnS := fnS cr230
/-- wreckage/ops.shape -/
def cr184 : Cx := ⟨mem, Go.Proofs.Tryz.prog, [(226, r226), (230, r230)], [], [], [], [0, 2, 3, 7, 6, 16, 19, 27, 46, 52, 4], 147, 184⟩
def r184 : FnS := fnS cr184
/-- wreckage/ops.operands -/
def cr231 : Cx := ⟨mem, Go.Proofs.Tryz.prog, [], [], [], [], [0, 2], 10, 231⟩
def r231 : FnS := fnS cr231
/-- wreckage/ops.Check -/
def cr185 : Cx := ⟨mem, Go.Proofs.Tryz.prog, [(184, r184), (231, r231)], [], [], [], [0, 2, 1, 17, 16, 3], 36, 185⟩
def r185 : FnS := fnS cr185
/-- wreckage/kinds.Named -/
def cr189 : Cx := ⟨mem, Go.Proofs.Tryz.prog, [], [], [], [], [0, 2, 21, 20, 19], 47, 189⟩
def r189 : FnS := fnS cr189
/-- wreckage/image.named -/
def cr190 : Cx := ⟨mem, Go.Proofs.Tryz.prog, [], [], [], [], [0, 2, 7, 6, 5], 24, 190⟩
def r190 : FnS := fnS cr190
/-- wreckage/image.function -/
def cr125 : Cx := ⟨mem, Go.Proofs.Tryz.prog, [(158, r158), (185, r185), (189, r189), (190, r190)], [], [], [], [0, 1, 4, 3, 53, 52, 51, 71, 70, 69], 95, 125⟩
def r125 : FnS := fnS cr125
/-- wreckage/image.fine -/
def cr68 : Cx := ⟨mem, Go.Proofs.Tryz.prog, [(124, r124), (125, r125)], [], [], [], [0, 2, 1, 37, 36, 54, 53, 52, 66, 65, 64, 9, 11], 85, 68⟩
def r68 : FnS := fnS cr68
/-- wreckage/wire.Vary$1 -/
def cr246 : Cx := ⟨mem, Go.Proofs.Tryz.prog, [], [], [], [], [0, 1], 7, 246⟩
def r246 : FnS := fnS cr246
/-- wreckage/wire.Vary -/
def cr206 : Cx := ⟨mem, Go.Proofs.Tryz.prog, [(246, r246)], [], [], [], [0, 2, 4, 3], 20, 206⟩
def r206 : FnS := fnS cr206
/-- (*wreckage/image.writer).number -/
def cr201 : Cx := ⟨mem, Go.Proofs.Tryz.prog, [(206, r206)], [], [], [], [0, 1], 15, 201⟩
def r201 : FnS := fnS cr201
/-- (*wreckage/image.writer).types -/
def cr200 : Cx := ⟨mem, Go.Proofs.Tryz.prog, [(201, r201)], [], [], [], [0, 1, 12, 11, 10, 29, 5, 28], 53, 200⟩
def r200 : FnS := fnS cr200
/-- (*wreckage/image.writer).text -/
def cr202 : Cx := ⟨mem, Go.Proofs.Tryz.prog, [(201, r201)], [], [], [], [0, 1], 17, 202⟩
def r202 : FnS := fnS cr202
/-- wreckage/wire.Signed -/
def cr204 : Cx := ⟨mem, Go.Proofs.Tryz.prog, [(206, r206)], [], [], [], [0, 2], 11, 204⟩
def r204 : FnS := fnS cr204
/-- (*wreckage/image.writer).fields -/
def cr243 : Cx := ⟨mem, Go.Proofs.Tryz.prog, [(201, r201)], [], [], [], [0, 1, 12, 11, 10], 25, 243⟩
def r243 : FnS := fnS cr243
/-- wreckage/ops.Encode -/
def cr244 : Cx := ⟨mem, Go.Proofs.Tryz.prog, [(184, r184), (185, r185), (204, r204), (231, r231)], [], [], [], [0, 2, 3, 1, 26, 25, 6, 5, 7], 51, 244⟩
def r244 : FnS := fnS cr244
/-- wreckage/tables.Encode -/
def cr245 : Cx := ⟨mem, Go.Proofs.Tryz.prog, [(158, r158), (206, r206)], [], [], [], [0, 1, 4, 5, 23, 22, 21, 7, 8], 44, 245⟩
def r245 : FnS := fnS cr245
/-- (*wreckage/image.writer).function -/
def cr203 : Cx := ⟨mem, Go.Proofs.Tryz.prog, [(201, r201), (202, r202), (204, r204), (243, r243), (244, r244), (245, r245)], [], [], [], [0, 1, 4, 44, 43, 42, 7, 3, 72, 71, 70, 11], 97, 203⟩
def r203 : FnS := fnS cr203
/-- wreckage/image.Encode -/
def cr142 : Cx := ⟨mem, Go.Proofs.Tryz.prog, [(68, r68), (200, r200), (201, r201), (203, r203)], [], [], [], [0, 2, 3, 1, 23, 22, 21, 4, 37, 36, 35], 53, 142⟩
def r142 : FnS := fnS cr142
/-- wreckage/dump.rows$1 -/
def cr141 : Cx := ⟨mem, Go.Proofs.Tryz.prog, [(142, r142)], [], [], [], [0, 2, 3], 9, 141⟩
def r141 : FnS := fnS cr141
/-- wreckage/heads.isEnded -/
def cr74 : Cx := ⟨mem, Go.Proofs.Tryz.prog, [], [], [], [], [0, 2, 1], 35, 74⟩
def r74 : FnS := fnS cr74
/-- wreckage/heads.put -/
def cr205 : Cx := ⟨mem, Go.Proofs.Tryz.prog, [(206, r206)], [], [], [], [0, 1, 4, 9, 8, 7], 19, 205⟩
def r205 : FnS := fnS cr205
/-- wreckage/heads.WriteEnded -/
def cr144 : Cx := ⟨mem, Go.Proofs.Tryz.prog, [(74, r74), (204, r204), (205, r205)], [205], [], [], [0, 2, 3, 1], 21, 144⟩
def r144 : FnS := fnS cr144
/-- wreckage/dump.rows$2 -/
def cr143 : Cx := ⟨mem, Go.Proofs.Tryz.prog, [(144, r144)], [], [], [], [0, 2, 3], 9, 143⟩
def r143 : FnS := fnS cr143
/-- wreckage/memory.fits -/
def cr128 : Cx := ⟨mem, Go.Proofs.Tryz.prog, [], [], [], [], [0, 1, 2, 6], 25, 128⟩
def r128 : FnS := fnS cr128
/-- wreckage/memory.isHeap -/
def cr78 : Cx := ⟨mem, Go.Proofs.Tryz.prog, [(128, r128)], [], [], [], [0, 2], 5, 78⟩
def r78 : FnS := fnS cr78
/-- wreckage/memory.WriteHeap -/
def cr146 : Cx := ⟨mem, Go.Proofs.Tryz.prog, [(78, r78), (206, r206)], [], [], [], [0, 2, 3, 1], 15, 146⟩
def r146 : FnS := fnS cr146
/-- wreckage/dump.rows$3 -/
def cr145 : Cx := ⟨mem, Go.Proofs.Tryz.prog, [(146, r146)], [], [], [], [0, 2, 3], 9, 145⟩
def r145 : FnS := fnS cr145
/-- wreckage/memory.base -/
def cr80 : Cx := ⟨mem, Go.Proofs.Tryz.prog, [], [], [], [], [0, 2], 7, 80⟩
def r80 : FnS := fnS cr80
/-- wreckage/memory.areStacks -/
def cr81 : Cx := ⟨mem, Go.Proofs.Tryz.prog, [(80, r80), (128, r128)], [], [], [], [0, 2, 7, 6, 5], 26, 81⟩
def r81 : FnS := fnS cr81
/-- wreckage/memory.WriteStacks$1 -/
def cr207 : Cx := ⟨mem, Go.Proofs.Tryz.prog, [(206, r206)], [], [], [], [0, 1], 14, 207⟩
def r207 : FnS := fnS cr207
/-- wreckage/memory.WriteStacks -/
def cr148 : Cx := ⟨mem, Go.Proofs.Tryz.prog, [(81, r81), (206, r206), (207, r207)], [], [], [], [0, 2, 3, 18, 17, 16, 5, 4], 27, 148⟩
def r148 : FnS := fnS cr148
/-- wreckage/dump.rows$4 -/
def cr147 : Cx := ⟨mem, Go.Proofs.Tryz.prog, [(148, r148)], [], [], [], [0, 2, 3], 9, 147⟩
def r147 : FnS := fnS cr147
/-- wreckage/heads.base -/
def cr84 : Cx := ⟨mem, Go.Proofs.Tryz.prog, [], [], [], [], [0, 2], 7, 84⟩
def r84 : FnS := fnS cr84
/-- wreckage/heads.isHead -/
def cr130 : Cx := ⟨mem, Go.Proofs.Tryz.prog, [(84, r84)], [], [], [], [0, 1, 4, 11, 3], 56, 130⟩
def r130 : FnS := fnS cr130
/-- wreckage/heads.areHeads -/
def cr86 : Cx := ⟨mem, Go.Proofs.Tryz.prog, [(130, r130)], [], [], [], [0, 2, 7, 6, 5], 25, 86⟩
def r86 : FnS := fnS cr86
/-- wreckage/heads.WriteHeads -/
def cr150 : Cx := ⟨mem, Go.Proofs.Tryz.prog, [(84, r84), (86, r86), (204, r204), (205, r205)], [205], [], [], [0, 2, 3, 17, 16, 15, 4], 51, 150⟩
def r150 : FnS := fnS cr150
/-- wreckage/dump.rows$5 -/
def cr149 : Cx := ⟨mem, Go.Proofs.Tryz.prog, [(150, r150)], [], [], [], [0, 2, 3], 9, 149⟩
def r149 : FnS := fnS cr149
/-- wreckage/heads.areChains$1 -/
def cr132 : Cx := ⟨mem, Go.Proofs.Tryz.prog, [], [], [], [], [0, 2], 14, 132⟩
def r132 : FnS := fnS cr132
/-- slices.IndexFunc[[]uint64,uint64] -/
def cr191 : Cx := ⟨mem, Go.Proofs.Tryz.prog, [(132, r132)], [], [], [], [0, 1, 4, 8, 7], 19, 191⟩
def r191 : FnS := fnS cr191
/-- slices.ContainsFunc[[]uint64,uint64] -/
def cr131 : Cx := ⟨mem, Go.Proofs.Tryz.prog, [(191, r191)], [], [], [], [0, 1, 4], 9, 131⟩
def r131 : FnS := fnS cr131
/-- wreckage/heads.areChains -/
def cr89 : Cx := ⟨mem, Go.Proofs.Tryz.prog, [(131, r131)], [], [], [], [0, 2, 7, 6, 5], 27, 89⟩
def r89 : FnS := fnS cr89
/-- wreckage/heads.WriteChains -/
def cr152 : Cx := ⟨mem, Go.Proofs.Tryz.prog, [(89, r89), (205, r205)], [205], [], [], [0, 2, 3, 19, 18, 17, 4, 31, 30, 29], 43, 152⟩
def r152 : FnS := fnS cr152
/-- wreckage/dump.rows$6 -/
def cr151 : Cx := ⟨mem, Go.Proofs.Tryz.prog, [(152, r152)], [], [], [], [0, 2, 3], 9, 151⟩
def r151 : FnS := fnS cr151
/-- wreckage/dump.rows$7 -/
def cr153 : Cx := ⟨mem, Go.Proofs.Tryz.prog, [(152, r152)], [], [], [], [0, 2, 3], 9, 153⟩
def r153 : FnS := fnS cr153
/-- wreckage/dump.sections -/
def cr42 : Cx := ⟨mem, Go.Proofs.Tryz.prog, [(99, r99), (141, r141), (143, r143), (145, r145), (147, r147), (149, r149), (151, r151), (153, r153)], [], [], [], [0, 2, 3, 11, 10, 9, 1, 4, 6, 7], 33, 42⟩
def r42 : FnS := fnS cr42
/-- wreckage/image.Check -/
def cr101 : Cx := ⟨mem, Go.Proofs.Tryz.prog, [(142, r142)], [], [], [], [0, 2], 11, 101⟩
def r101 : FnS := fnS cr101
/-- wreckage/flow.Check -/
def cr247 : Cx := ⟨mem, Go.Proofs.Tryz.prog, [(185, r185)], [], [], [], [0, 2, 25, 24, 23, 5, 3], 53, 247⟩
def r247 : FnS := fnS cr247
/-- wreckage/flow.Reached$1 -/
def cr249 : Cx := ⟨mem, Go.Proofs.Tryz.prog, [], [], [], [], [0, 1, 2, 5], 16, 249⟩
def r249 : FnS := fnS cr249
/-- wreckage/flow.Masks$1 -/
def cr267 : Cx := ⟨mem, Go.Proofs.Tryz.prog, [], [], [], [], [0, 1, 2, 3, 4, 5, 8, 9], 60, 267⟩
def r267 : FnS := fnS cr267
/-- wreckage/flow.behind -/
def cr281 : Cx := ⟨mem, Go.Proofs.Tryz.prog, [], [], [], [], [0, 1, 4, 13, 12, 5], 36, 281⟩
def r281 : FnS := fnS cr281
/-- wreckage/flow.spread -/
def cr248 : Cx := ⟨mem, Go.Proofs.Tryz.prog, [(249, r249), (267, r267), (281, r281)], [], [], [], [0, 1, 4, 29, 28, 27, 5], 42, 248⟩
def r248 : FnS := fnS cr248
/-- wreckage/flow.Reached -/
def cr208 : Cx := ⟨mem, Go.Proofs.Tryz.prog, [(247, r247), (248, r248)], [], [], [], [0, 2, 3], 23, 208⟩
def r208 : FnS := fnS cr208
/-- wreckage/ops.Slots -/
def cr213 : Cx := ⟨mem, Go.Proofs.Tryz.prog, [(184, r184), (185, r185), (231, r231)], [], [], [], [0, 2, 3, 4, 1, 23, 22, 6, 8, 9], 54, 213⟩
def r213 : FnS := fnS cr213
/-- wreckage/check.called -/
def cr251 : Cx := ⟨mem, Go.Proofs.Tryz.prog, [], [], [], [], [0, 2, 9, 1], 14, 251⟩
def r251 : FnS := fnS cr251
/-- (wreckage/check.function).near -/
def cr209 : Cx := ⟨mem, Go.Proofs.Tryz.prog, [(213, r213), (251, r251)], [], [], [], [0, 1, 4, 5, 6, 24, 23, 22, 2, 3], 57, 209⟩
def r209 : FnS := fnS cr209
/-- wreckage/check.within[wreckage/api.Field] -/
def cr250 : Cx := ⟨mem, Go.Proofs.Tryz.prog, [], [], [], [], [0, 1, 4], 13, 250⟩
def r250 : FnS := fnS cr250
/-- (wreckage/check.function).slot -/
def cr253 : Cx := ⟨mem, Go.Proofs.Tryz.prog, [(250, r250)], [], [], [], [0, 1, 4, 2], 18, 253⟩
def r253 : FnS := fnS cr253
/-- (wreckage/check.function).typed -/
def cr210 : Cx := ⟨mem, Go.Proofs.Tryz.prog, [(253, r253)], [], [], [], [0, 1, 4, 26, 8, 5, 25, 2, 39, 9, 6, 50, 7, 3, 202, 220], 244, 210⟩
def r210 : FnS := fnS cr210
/-- (wreckage/check.function).bytes -/
def cr265 : Cx := ⟨mem, Go.Proofs.Tryz.prog, [], [], [], [], [0, 1, 4, 5, 14, 13, 12, 2, 9, 6], 43, 265⟩
def r265 : FnS := fnS cr265
/-- (wreckage/check.function).step -/
def cr262 : Cx := ⟨mem, Go.Proofs.Tryz.prog, [(251, r251), (265, r265)], [], [], [], [0, 1, 2, 6, 7, 4, 3, 10, 47, 46, 45, 9], 77, 262⟩
def r262 : FnS := fnS cr262
/-- wreckage/flow.Next -/
def cr263 : Cx := ⟨mem, Go.Proofs.Tryz.prog, [(247, r247), (281, r281)], [], [], [], [0, 1, 4, 5], 23, 263⟩
def r263 : FnS := fnS cr263
/-- (wreckage/check.function).scratch -/
def cr211 : Cx := ⟨mem, Go.Proofs.Tryz.prog, [(262, r262), (263, r263), (265, r265)], [], [], [], [0, 2, 3, 7, 1, 4, 5, 11, 73, 72, 71, 6, 9, 108, 107, 106, 15, 16, 18], 136, 211⟩
def r211 : FnS := fnS cr211
/-- wreckage/flow.mask -/
def cr266 : Cx := ⟨mem, Go.Proofs.Tryz.prog, [], [], [], [], [0, 2, 8, 7, 6, 3], 18, 266⟩
def r266 : FnS := fnS cr266
/-- wreckage/flow.Masks -/
def cr212 : Cx := ⟨mem, Go.Proofs.Tryz.prog, [(213, r213), (247, r247), (248, r248), (266, r266)], [], [], [], [0, 1, 2, 6, 7, 4, 42, 41, 40, 9, 10, 13, 12], 87, 212⟩
def r212 : FnS := fnS cr212
/-- wreckage/tables.Make -/
def cr214 : Cx := ⟨mem, Go.Proofs.Tryz.prog, [(215, r215)], [], [], [], [0, 2, 3, 15, 14, 5, 6], 43, 214⟩
def r214 : FnS := fnS cr214
/-- wreckage/check.look -/
def cr154 : Cx := ⟨mem, Go.Proofs.Tryz.prog, [(208, r208), (209, r209), (210, r210), (211, r211), (212, r212), (213, r213), (214, r214)], [], [], [], [0, 1, 4, 5, 6, 57, 56, 55, 7, 111, 110, 109, 124, 123, 122, 18, 13, 14, 11, 21], 162, 154⟩
def r154 : FnS := fnS cr154
/-- slices.Equal[[]wreckage/api.Run,wreckage/api.Run] -/
def cr155 : Cx := ⟨mem, Go.Proofs.Tryz.prog, [], [], [], [], [0, 1, 4, 13, 12], 26, 155⟩
def r155 : FnS := fnS cr155
/-- wreckage/check.Fault -/
def cr100 : Cx := ⟨mem, Go.Proofs.Tryz.prog, [(101, r101), (154, r154), (155, r155)], [], [], [], [0, 2, 3, 4, 1, 17, 16, 15, 8, 6], 55, 100⟩
def r100 : FnS := fnS cr100
/-- wreckage/check.Check -/
def cr43 : Cx := ⟨mem, Go.Proofs.Tryz.prog, [(100, r100)], [], [], [], [0, 2], 13, 43⟩
def r43 : FnS := fnS cr43
/-- wreckage/dump.headed -/
def cr44 : Cx := ⟨mem, Go.Proofs.Tryz.prog, [], [], [], [], [0, 1, 4], 15, 44⟩
def r44 : FnS := fnS cr44
/-- wreckage/image.Find -/
def cr45 : Cx := ⟨mem, Go.Proofs.Tryz.prog, [(101, r101)], [], [], [], [0, 1, 4, 5, 6, 2, 8], 45, 45⟩
def r45 : FnS := fnS cr45
/-- wreckage/dump.Check -/
def cr17 : Cx := ⟨mem, Go.Proofs.Tryz.prog, [(42, r42), (43, r43), (44, r44), (45, r45)], [], [], [], [0, 2, 1, 56, 55, 54, 7], 118, 17⟩
def r17 : FnS := fnS cr17
/-- (*wreckage/walk.walker).all -/
def cr46 : Cx := ⟨mem, Go.Proofs.Tryz.prog, [], [], [], [], [0, 2], 4, 46⟩
def r46 : FnS := fnS cr46
/-- wreckage/walk.Frames -/
def cy19_40 : Cx := ⟨mem, Go.Proofs.Tryz.prog, [], [], [], [], [0, 1, 4, 5, 2, 40, 7, 8, 9], 50, 19⟩
def y19_40 : YldS := yldS cy19_40 40
/-- wreckage/tables.At$1 -/
def cr160 : Cx := ⟨mem, Go.Proofs.Tryz.prog, [], [], [], [], [0, 1, 2, 4], 12, 160⟩
def r160 : FnS := fnS cr160
/-- sort.Search -/
def cr159 : Cx := ⟨mem, Go.Proofs.Tryz.prog, [(160, r160)], [], [], [], [0, 1, 4, 5, 6], 26, 159⟩
def r159 : FnS := fnS cr159
/-- wreckage/tables.At -/
def cr105 : Cx := ⟨mem, Go.Proofs.Tryz.prog, [(158, r158), (159, r159)], [], [], [], [0, 1, 2, 6, 7, 5, 3], 33, 105⟩
def r105 : FnS := fnS cr105
/-- wreckage/layout.extents -/
def cr217 : Cx := ⟨mem, Go.Proofs.Tryz.prog, [], [], [], [], [0, 2, 12, 11, 10, 3, 25, 4, 18, 5], 77, 217⟩
def r217 : FnS := fnS cr217
/-- wreckage/layout.lay -/
def cr218 : Cx := ⟨mem, Go.Proofs.Tryz.prog, [], [], [], [], [0, 1, 4, 5, 17, 16, 15, 6, 7], 68, 218⟩
def r218 : FnS := fnS cr218
/-- wreckage/layout.Offsets -/
def cr161 : Cx := ⟨mem, Go.Proofs.Tryz.prog, [(124, r124), (217, r217), (218, r218)], [], [], [], [0, 1, 4, 5, 6, 7, 27, 26, 25, 44, 43, 42, 9], 67, 161⟩
def r161 : FnS := fnS cr161
/-- wreckage/layout.Round -/
def cr162 : Cx := ⟨mem, Go.Proofs.Tryz.prog, [], [], [], [], [0, 2, 3], 13, 162⟩
def r162 : FnS := fnS cr162
/-- wreckage/frame.laid -/
def cr106 : Cx := ⟨mem, Go.Proofs.Tryz.prog, [(161, r161), (162, r162)], [], [], [], [0, 1, 4, 5], 31, 106⟩
def r106 : FnS := fnS cr106
/-- wreckage/frame.Size -/
def cr156 : Cx := ⟨mem, Go.Proofs.Tryz.prog, [(45, r45), (105, r105), (106, r106)], [], [], [], [0, 1, 4, 5, 2, 6, 7, 10, 11], 62, 156⟩
def r156 : FnS := fnS cr156
/-- wreckage/wire.New -/
def cr75 : Cx := ⟨mem, Go.Proofs.Tryz.prog, [], [], [], [], [0, 2, 3], 12, 75⟩
def r75 : FnS := fnS cr75
/-- wreckage/wire.check -/
def cr129 : Cx := ⟨mem, Go.Proofs.Tryz.prog, [], [], [], [], [0, 2], 20, 129⟩
def r129 : FnS := fnS cr129
/-- wreckage/wire.fine -/
def cr181 : Cx := ⟨mem, Go.Proofs.Tryz.prog, [], [], [], [], [0, 2, 7, 6, 5], 15, 181⟩
def r181 : FnS := fnS cr181
/-- wreckage/wire.wide -/
def cr182 : Cx := ⟨mem, Go.Proofs.Tryz.prog, [], [], [], [], [0, 2, 4], 9, 182⟩
def r182 : FnS := fnS cr182
/-- wreckage/wire.Unfixed -/
def cr118 : Cx := ⟨mem, Go.Proofs.Tryz.prog, [(129, r129), (181, r181), (182, r182)], [], [], [], [0, 1, 4, 5, 6, 2, 40, 39, 38, 8], 60, 118⟩
def r118 : FnS := fnS cr118
/-- wreckage/memory.regions -/
def cr268 : Cx := ⟨mem, Go.Proofs.Tryz.prog, [], [], [], [], [0, 1, 4], 6, 268⟩
def r268 : FnS := fnS cr268
/-- bytes.Clone -/
def cr62 : Cx := ⟨mem, Go.Proofs.Tryz.prog, [], [], [], [], [0, 2], 8, 62⟩
def r62 : FnS := fnS cr62
/-- wreckage/memory.find -/
def cy219_15 : Cx := ⟨mem, Go.Proofs.Tryz.prog, [(62, r62)], [], [], [], [0, 1, 2, 3, 8, 9, 15, 6, 10, 7], 46, 219⟩
def y219_15 : YldS := yldS cy219_15 15
/-- wreckage/memory.regions$1 -/
def cr286 : Cx := ⟨mem, Go.Proofs.Tryz.prog, [], [], [(219, 15, y219_15)], [], [0, 1, 2, 12, 11, 10], 21, 286⟩
def r286 : FnS := fnS cr286
/-- wreckage/memory.find -/
def cr219 : Cx := ⟨mem, Go.Proofs.Tryz.prog, [(268, r268), (286, r286)], [], [], [], [0, 1, 2, 3, 8, 9, 15, 6, 10, 7], 46, 219⟩
def r219 : FnS := fnS cr219
/-- wreckage/memory.Bytes -/
def cr163 : Cx := ⟨mem, Go.Proofs.Tryz.prog, [(78, r78), (81, r81), (219, r219)], [], [], [], [0, 1, 2, 3, 8, 9, 4, 10], 42, 163⟩
def r163 : FnS := fnS cr163
/-- wreckage/memory.Word -/
def cr107 : Cx := ⟨mem, Go.Proofs.Tryz.prog, [(75, r75), (118, r118), (163, r163)], [], [], [], [0, 1, 2, 6, 7, 8], 42, 107⟩
def r107 : FnS := fnS cr107
/-- (*wreckage/walk.walker).word -/
def cr157 : Cx := ⟨mem, Go.Proofs.Tryz.prog, [(107, r107)], [], [], [], [0, 1, 4], 23, 157⟩
def r157 : FnS := fnS cr157
/-- (*wreckage/walk.walker).frame -/
def cr103 : Cx := ⟨mem, Go.Proofs.Tryz.prog, [(45, r45), (156, r156), (157, r157)], [], [], [], [0, 1, 2, 6, 7, 11, 8, 9, 12], 96, 103⟩
def r103 : FnS := fnS cr103
/-- (*wreckage/walk.walker).all$1 -/
def cr102 : Cx := ⟨mem, Go.Proofs.Tryz.prog, [(103, r103)], [], [(19, 40, y19_40)], [], [0, 1, 3, 4, 6, 5, 7], 96, 102⟩
def r102 : FnS := fnS cr102
/-- wreckage/walk.Frames -/
def cr19 : Cx := ⟨mem, Go.Proofs.Tryz.prog, [(17, r17), (46, r46), (102, r102)], [], [], [], [0, 1, 4, 5, 2, 40, 7, 8, 9], 50, 19⟩
def r19 : FnS := fnS cr19
/-- (wreckage/valid.look).frames -/
def cr26 : Cx := ⟨mem, Go.Proofs.Tryz.prog, [(19, r19)], [], [], [], [0, 2], 14, 26⟩
def r26 : FnS := fnS cr26
/-- wreckage/chain.records -/
def cr51 : Cx := ⟨mem, Go.Proofs.Tryz.prog, [(107, r107)], [], [], [], [0, 1, 2, 6, 7, 17, 16, 15, 22, 21, 3, 10, 11, 13, 8], 52, 51⟩
def r51 : FnS := fnS cr51
/-- wreckage/chain.linked -/
def cr52 : Cx := ⟨mem, Go.Proofs.Tryz.prog, [], [], [], [], [0, 1, 4, 10, 9, 8, 6, 7], 31, 52⟩
def r52 : FnS := fnS cr52
/-- wreckage/chain.Defers -/
def cr21 : Cx := ⟨mem, Go.Proofs.Tryz.prog, [(19, r19), (51, r51), (52, r52)], [], [], [], [0, 1, 4, 5, 2, 8, 46, 45, 44, 6, 10, 13, 9, 11, 12], 120, 21⟩
def r21 : FnS := fnS cr21
/-- (wreckage/valid.look).defers -/
def cr27 : Cx := ⟨mem, Go.Proofs.Tryz.prog, [(21, r21)], [], [], [], [0, 2], 14, 27⟩
def r27 : FnS := fnS cr27
/-- wreckage/chain.valued -/
def cr55 : Cx := ⟨mem, Go.Proofs.Tryz.prog, [], [], [], [], [0, 2, 1], 68, 55⟩
def r55 : FnS := fnS cr55
/-- wreckage/chain.noted -/
def cr56 : Cx := ⟨mem, Go.Proofs.Tryz.prog, [], [], [], [], [0, 1, 4, 3, 5], 53, 56⟩
def r56 : FnS := fnS cr56
/-- wreckage/chain.Panics -/
def cr24 : Cx := ⟨mem, Go.Proofs.Tryz.prog, [(19, r19), (51, r51), (52, r52), (55, r55), (56, r56)], [], [], [], [0, 1, 4, 5, 2, 8, 49, 48, 47, 6, 10, 13, 9, 106, 105, 104], 124, 24⟩
def r24 : FnS := fnS cr24
/-- (wreckage/valid.look).panics -/
def cr28 : Cx := ⟨mem, Go.Proofs.Tryz.prog, [(24, r24)], [], [], [], [0, 2], 14, 28⟩
def r28 : FnS := fnS cr28
/-- wreckage/locals.asked -/
def cr47 : Cx := ⟨mem, Go.Proofs.Tryz.prog, [(17, r17)], [], [], [], [0, 1, 4], 17, 47⟩
def r47 : FnS := fnS cr47
/-- wreckage/walk.Live -/
def cr48 : Cx := ⟨mem, Go.Proofs.Tryz.prog, [(101, r101), (105, r105)], [], [], [], [0, 1, 4, 5, 3, 2], 61, 48⟩
def r48 : FnS := fnS cr48
/-- wreckage/locals.Locals -/
def cr20 : Cx := ⟨mem, Go.Proofs.Tryz.prog, [(47, r47), (48, r48)], [], [], [], [0, 1, 2, 6, 7, 3, 4, 43, 42, 9, 12, 11, 16], 84, 20⟩
def r20 : FnS := fnS cr20
/-- (wreckage/valid.look).locals -/
def cr29 : Cx := ⟨mem, Go.Proofs.Tryz.prog, [(19, r19), (20, r20)], [], [], [], [0, 2, 19, 18, 17, 1], 34, 29⟩
def r29 : FnS := fnS cr29
/-- (wreckage/valid.look).args -/
def cr30 : Cx := ⟨mem, Go.Proofs.Tryz.prog, [(21, r21)], [], [], [], [0, 2, 22, 21, 20, 1, 6, 7, 63, 8], 93, 30⟩
def r30 : FnS := fnS cr30
/-- wreckage/layout.asked -/
def cr170 : Cx := ⟨mem, Go.Proofs.Tryz.prog, [(124, r124), (217, r217)], [], [], [], [0, 1, 4, 5, 7], 30, 170⟩
def r170 : FnS := fnS cr170
/-- wreckage/layout.Size -/
def cr112 : Cx := ⟨mem, Go.Proofs.Tryz.prog, [(170, r170)], [], [], [], [0, 1, 4, 5, 6, 7], 27, 112⟩
def r112 : FnS := fnS cr112
/-- slices.Min[[]int,int] -/
def cr269 : Cx := ⟨mem, Go.Proofs.Tryz.prog, [], [], [], [], [0, 2, 4, 3], 25, 269⟩
def r269 : FnS := fnS cr269
/-- slices.Max[[]int,int] -/
def cr270 : Cx := ⟨mem, Go.Proofs.Tryz.prog, [], [], [], [], [0, 2, 4, 3], 25, 270⟩
def r270 : FnS := fnS cr270
/-- wreckage/kinds.asked -/
def cr220 : Cx := ⟨mem, Go.Proofs.Tryz.prog, [(124, r124), (269, r269), (270, r270)], [], [], [], [0, 1, 4], 21, 220⟩
def r220 : FnS := fnS cr220
/-- wreckage/kinds.leads -/
def cr271 : Cx := ⟨mem, Go.Proofs.Tryz.prog, [], [], [], [], [0, 1, 4, 2, 32, 31, 30, 5], 43, 271⟩
def r271 : FnS := fnS cr271
/-- wreckage/kinds.closure -/
def cr221 : Cx := ⟨mem, Go.Proofs.Tryz.prog, [(271, r271)], [], [], [], [0, 1, 2, 6, 8, 41, 40, 39, 7], 59, 221⟩
def r221 : FnS := fnS cr221
/-- wreckage/kinds.Reach -/
def cr164 : Cx := ⟨mem, Go.Proofs.Tryz.prog, [(220, r220), (221, r221)], [], [], [], [0, 1, 4, 5, 21, 20, 19, 7], 33, 164⟩
def r164 : FnS := fnS cr164
/-- wreckage/value.check -/
def cr110 : Cx := ⟨mem, Go.Proofs.Tryz.prog, [(112, r112), (164, r164)], [], [], [], [0, 1, 4, 5, 34, 33, 32, 6], 50, 110⟩
def r110 : FnS := fnS cr110
/-- wreckage/region.based -/
def cr223 : Cx := ⟨mem, Go.Proofs.Tryz.prog, [], [], [], [], [0, 2], 14, 223⟩
def r223 : FnS := fnS cr223
/-- wreckage/region.Check -/
def cr167 : Cx := ⟨mem, Go.Proofs.Tryz.prog, [(223, r223)], [], [], [], [0, 2], 13, 167⟩
def r167 : FnS := fnS cr167
/-- wreckage/region.Find$1 -/
def cr166 : Cx := ⟨mem, Go.Proofs.Tryz.prog, [(167, r167)], [], [], [], [0, 2], 6, 166⟩
def r166 : FnS := fnS cr166
/-- slices.IndexFunc[[]wreckage/api.Region,wreckage/api.Region] -/
def cr222 : Cx := ⟨mem, Go.Proofs.Tryz.prog, [(166, r166)], [], [], [], [0, 1, 4, 8, 7], 19, 222⟩
def r222 : FnS := fnS cr222
/-- slices.ContainsFunc[[]wreckage/api.Region,wreckage/api.Region] -/
def cr165 : Cx := ⟨mem, Go.Proofs.Tryz.prog, [(222, r222)], [], [], [], [0, 1, 4], 9, 165⟩
def r165 : FnS := fnS cr165
/-- wreckage/region.overlap -/
def cr168 : Cx := ⟨mem, Go.Proofs.Tryz.prog, [], [], [], [], [0, 1, 4], 27, 168⟩
def r168 : FnS := fnS cr168
/-- wreckage/region.index -/
def cr169 : Cx := ⟨mem, Go.Proofs.Tryz.prog, [], [], [], [], [0, 1, 2, 6, 7, 3], 37, 169⟩
def r169 : FnS := fnS cr169
/-- wreckage/region.Find -/
def cr111 : Cx := ⟨mem, Go.Proofs.Tryz.prog, [(165, r165), (168, r168), (169, r169)], [], [], [], [0, 1, 2, 6, 7, 23, 22, 21, 32, 31, 30, 9, 57, 56, 55], 72, 111⟩
def r111 : FnS := fnS cr111
/-- wreckage/region.Has -/
def cr171 : Cx := ⟨mem, Go.Proofs.Tryz.prog, [(167, r167), (169, r169)], [], [], [], [0, 1, 2, 6, 7, 3], 26, 171⟩
def r171 : FnS := fnS cr171
/-- slices.Clone[[]byte,byte] -/
def cr172 : Cx := ⟨mem, Go.Proofs.Tryz.prog, [], [], [], [], [0, 2], 8, 172⟩
def r172 : FnS := fnS cr172
/-- wreckage/region.Bytes -/
def cr113 : Cx := ⟨mem, Go.Proofs.Tryz.prog, [(169, r169), (171, r171), (172, r172)], [], [], [], [0, 1, 2, 6, 7, 8, 3], 39, 113⟩
def r113 : FnS := fnS cr113
/-- wreckage/value.word -/
def cr173 : Cx := ⟨mem, Go.Proofs.Tryz.prog, [], [], [], [], [0, 1, 4, 6, 5], 23, 173⟩
def r173 : FnS := fnS cr173
/-- (wreckage/value.memory).find -/
def cr224 : Cx := ⟨mem, Go.Proofs.Tryz.prog, [(111, r111), (113, r113)], [], [], [], [0, 1, 2, 6, 7, 3, 8], 36, 224⟩
def r224 : FnS := fnS cr224
/-- (wreckage/value.memory).text -/
def cr174 : Cx := ⟨mem, Go.Proofs.Tryz.prog, [(224, r224)], [], [], [], [0, 1, 2, 6, 7, 3], 25, 174⟩
def r174 : FnS := fnS cr174
/-- (wreckage/value.memory).load -/
def cr114 : Cx := ⟨mem, Go.Proofs.Tryz.prog, [(173, r173), (174, r174)], [], [], [], [0, 1, 2, 3, 8, 9], 124, 114⟩
def r114 : FnS := fnS cr114
/-- wreckage/value.Load -/
def cr54 : Cx := ⟨mem, Go.Proofs.Tryz.prog, [(110, r110), (111, r111), (112, r112), (113, r113), (114, r114)], [], [], [], [0, 1, 2, 3, 4, 10, 11, 19, 16], 96, 54⟩
def r54 : FnS := fnS cr54
/-- wreckage/valid.regions -/
def cr57 : Cx := ⟨mem, Go.Proofs.Tryz.prog, [], [], [], [], [0, 2], 9, 57⟩
def r57 : FnS := fnS cr57
/-- (wreckage/valid.look).texts -/
def cr31 : Cx := ⟨mem, Go.Proofs.Tryz.prog, [(24, r24), (54, r54), (57, r57)], [], [], [], [0, 2, 19, 18, 17, 1, 6], 41, 31⟩
def r31 : FnS := fnS cr31
/-- wreckage/valid.Goroutine -/
def cr13 : Cx := ⟨mem, Go.Proofs.Tryz.prog, [(26, r26), (27, r27), (28, r28), (29, r29), (30, r30), (31, r31)], [], [], [], [0, 1, 4, 32, 31, 30], 43, 13⟩
def r13 : FnS := fnS cr13
/-- wreckage/valid.End -/
def cr18 : Cx := ⟨mem, Go.Proofs.Tryz.prog, [(17, r17), (21, r21), (24, r24)], [], [], [], [0, 2, 1, 24, 23, 22, 4, 7, 9], 88, 18⟩
def r18 : FnS := fnS cr18
/-- wreckage/valid.Dump -/
def cr11 : Cx := ⟨mem, Go.Proofs.Tryz.prog, [(13, r13), (17, r17), (18, r18)], [], [], [], [0, 2, 1, 14, 13], 26, 11⟩
def r11 : FnS := fnS cr11
/-- wreckage/reader.loaded -/
def cr23 : Cx := ⟨mem, Go.Proofs.Tryz.prog, [(54, r54)], [], [], [], [0, 1, 2, 3, 8], 25, 23⟩
def r23 : FnS := fnS cr23
/-- wreckage/reader.alarm -/
def cr25 : Cx := ⟨mem, Go.Proofs.Tryz.prog, [(23, r23)], [], [], [], [0, 1, 4, 13, 3, 5, 12, 2], 41, 25⟩
def r25 : FnS := fnS cr25
/-- wreckage/reader.told -/
def cr12 : Cx := ⟨mem, Go.Proofs.Tryz.prog, [(19, r19), (20, r20), (21, r21), (24, r24), (25, r25)], [], [], [], [0, 1, 4, 44, 43, 42, 2, 5, 76, 75, 74, 6, 18, 130, 129, 128], 144, 12⟩
def r12 : FnS := fnS cr12
/-- wreckage/reader.State -/
def cr5 : Cx := ⟨mem, Go.Proofs.Tryz.prog, [(11, r11), (12, r12)], [], [], [], [0, 2, 3, 1, 26, 25, 5], 39, 5⟩
def r5 : FnS := fnS cr5
/-- wreckage/wreckageref15.Same -/
def cr6 : Cx := ⟨mem, Go.Proofs.Tryz.prog, [], [], [], [], [0, 1, 4, 5, 2, 3], 60, 6⟩
def r6 : FnS := fnS cr6
/-- wreckage/reader.Goroutine -/
def cr7 : Cx := ⟨mem, Go.Proofs.Tryz.prog, [(12, r12), (13, r13)], [], [], [], [0, 1, 4, 5, 2], 17, 7⟩
def r7 : FnS := fnS cr7
/-- bytes.Equal -/
def cr115 : Cx := ⟨mem, Go.Proofs.Tryz.prog, [], [], [], [], [0, 1, 4], 10, 115⟩
def r115 : FnS := fnS cr115
/-- bytes.HasPrefix -/
def cr58 : Cx := ⟨mem, Go.Proofs.Tryz.prog, [(115, r115)], [], [], [], [0, 1, 4], 18, 58⟩
def r58 : FnS := fnS cr58
/-- wreckage/crc.turn -/
def cr116 : Cx := ⟨mem, Go.Proofs.Tryz.prog, [], [], [], [], [0, 2], 11, 116⟩
def r116 : FnS := fnS cr116
/-- wreckage/crc.Table -/
def cr59 : Cx := ⟨mem, Go.Proofs.Tryz.prog, [(116, r116)], [], [], [], [0, 4, 9, 3, 2, 1], 19, 59⟩
def r59 : FnS := fnS cr59
/-- wreckage/crc.check -/
def cr179 : Cx := ⟨mem, Go.Proofs.Tryz.prog, [(59, r59)], [], [], [], [0, 2], 6, 179⟩
def r179 : FnS := fnS cr179
/-- wreckage/crc.steps -/
def cr180 : Cx := ⟨mem, Go.Proofs.Tryz.prog, [], [], [], [], [0, 1, 2, 6, 11, 10, 9, 3], 26, 180⟩
def r180 : FnS := fnS cr180
/-- wreckage/crc.Next -/
def cr117 : Cx := ⟨mem, Go.Proofs.Tryz.prog, [(179, r179), (180, r180)], [], [], [], [0, 1, 2, 6, 7, 3], 23, 117⟩
def r117 : FnS := fnS cr117
/-- wreckage/crc.Sum -/
def cr60 : Cx := ⟨mem, Go.Proofs.Tryz.prog, [(117, r117)], [], [], [], [0, 1, 4, 5], 11, 60⟩
def r60 : FnS := fnS cr60
/-- wreckage/section.number -/
def cr61 : Cx := ⟨mem, Go.Proofs.Tryz.prog, [], [], [], [], [0, 2], 25, 61⟩
def r61 : FnS := fnS cr61
/-- wreckage/section.ordered -/
def cr63 : Cx := ⟨mem, Go.Proofs.Tryz.prog, [], [], [], [], [0, 2, 8, 7, 6, 3, 5], 24, 63⟩
def r63 : FnS := fnS cr63
/-- wreckage/section.Read -/
def cr32 : Cx := ⟨mem, Go.Proofs.Tryz.prog, [(58, r58), (59, r59), (60, r60), (61, r61), (62, r62), (63, r63)], [], [], [], [0, 2, 3, 5, 12, 11, 9, 13, 10, 130, 129, 128, 6], 151, 32⟩
def r32 : FnS := fnS cr32
/-- wreckage/wire.Unvary -/
def cr79 : Cx := ⟨mem, Go.Proofs.Tryz.prog, [(129, r129)], [], [], [], [0, 1, 4, 5, 6, 2, 9, 8, 10], 67, 79⟩
def r79 : FnS := fnS cr79
/-- (*wreckage/image.reader).number -/
def cr64 : Cx := ⟨mem, Go.Proofs.Tryz.prog, [(79, r79)], [], [], [], [0, 1, 4], 30, 64⟩
def r64 : FnS := fnS cr64
/-- wreckage/wire.Untext -/
def cr120 : Cx := ⟨mem, Go.Proofs.Tryz.prog, [(79, r79), (129, r129)], [], [], [], [0, 1, 4, 5, 6, 7, 2, 8, 9], 71, 120⟩
def r120 : FnS := fnS cr120
/-- (*wreckage/image.reader).text -/
def cr66 : Cx := ⟨mem, Go.Proofs.Tryz.prog, [(120, r120)], [], [], [], [0, 1, 4], 28, 66⟩
def r66 : FnS := fnS cr66
/-- (*wreckage/image.reader).fields -/
def cr119 : Cx := ⟨mem, Go.Proofs.Tryz.prog, [(64, r64)], [], [], [], [0, 1, 4, 10, 9, 5], 23, 119⟩
def r119 : FnS := fnS cr119
/-- wreckage/wire.Unsigned -/
def cr121 : Cx := ⟨mem, Go.Proofs.Tryz.prog, [(79, r79)], [], [], [], [0, 2, 3, 4], 24, 121⟩
def r121 : FnS := fnS cr121
/-- wreckage/wire.Left -/
def cr126 : Cx := ⟨mem, Go.Proofs.Tryz.prog, [(129, r129)], [], [], [], [0, 2, 3, 1], 16, 126⟩
def r126 : FnS := fnS cr126
/-- wreckage/ops.Decode -/
def cr122 : Cx := ⟨mem, Go.Proofs.Tryz.prog, [(121, r121), (126, r126), (184, r184), (185, r185)], [], [], [], [0, 2, 3, 4, 6, 5, 1, 8, 10, 64, 63, 9, 11, 7], 115, 122⟩
def r122 : FnS := fnS cr122
/-- wreckage/tables.Decode -/
def cr186 : Cx := ⟨mem, Go.Proofs.Tryz.prog, [(79, r79), (126, r126), (215, r215), (216, r216)], [], [], [], [0, 1, 4, 5, 6, 7, 2, 11, 58, 57, 14, 15, 13, 16], 111, 186⟩
def r186 : FnS := fnS cr186
/-- (*wreckage/image.reader).runs -/
def cr123 : Cx := ⟨mem, Go.Proofs.Tryz.prog, [(186, r186)], [], [], [], [0, 1, 4], 28, 123⟩
def r123 : FnS := fnS cr123
/-- (*wreckage/image.reader).function -/
def cr67 : Cx := ⟨mem, Go.Proofs.Tryz.prog, [(64, r64), (66, r66), (119, r119), (121, r121), (122, r122), (123, r123)], [], [], [], [0, 2, 3, 38, 37], 80, 67⟩
def r67 : FnS := fnS cr67
/-- wreckage/image.Decode -/
def cr33 : Cx := ⟨mem, Go.Proofs.Tryz.prog, [(64, r64), (67, r67), (68, r68)], [], [], [], [0, 2, 3, 14, 13, 4, 5, 24, 23, 34, 33], 61, 33⟩
def r33 : FnS := fnS cr33
/-- (*wreckage/heads.reader).step -/
def cr127 : Cx := ⟨mem, Go.Proofs.Tryz.prog, [], [], [], [], [0, 1, 2], 26, 127⟩
def r127 : FnS := fnS cr127
/-- (*wreckage/heads.reader).byte -/
def cr71 : Cx := ⟨mem, Go.Proofs.Tryz.prog, [(118, r118), (127, r127)], [], [], [], [0, 2], 21, 71⟩
def r71 : FnS := fnS cr71
/-- (*wreckage/heads.reader).signed -/
def cr72 : Cx := ⟨mem, Go.Proofs.Tryz.prog, [(121, r121), (127, r127)], [], [], [], [0, 2], 20, 72⟩
def r72 : FnS := fnS cr72
/-- (*wreckage/heads.reader).number -/
def cr73 : Cx := ⟨mem, Go.Proofs.Tryz.prog, [(79, r79), (127, r127)], [], [], [], [0, 1, 4], 23, 73⟩
def r73 : FnS := fnS cr73
/-- wreckage/heads.ReadEnded$1 -/
def cr70 : Cx := ⟨mem, Go.Proofs.Tryz.prog, [(71, r71), (72, r72), (73, r73)], [], [], [], [0, 2], 15, 70⟩
def r70 : FnS := fnS cr70
/-- wreckage/heads.read[wreckage/api.Ended] -/
def cr69 : Cx := ⟨mem, Go.Proofs.Tryz.prog, [(70, r70), (74, r74), (75, r75), (126, r126)], [], [], [], [0, 1, 4, 5, 7, 3, 6, 10], 53, 69⟩
def r69 : FnS := fnS cr69
/-- wreckage/heads.ReadEnded -/
def cr34 : Cx := ⟨mem, Go.Proofs.Tryz.prog, [(69, r69)], [], [], [], [0, 2, 3], 9, 34⟩
def r34 : FnS := fnS cr34
/-- wreckage/memory.read -/
def cr76 : Cx := ⟨mem, Go.Proofs.Tryz.prog, [(120, r120)], [], [], [], [0, 1, 2, 6, 7, 8], 25, 76⟩
def r76 : FnS := fnS cr76
/-- wreckage/memory.ended -/
def cr77 : Cx := ⟨mem, Go.Proofs.Tryz.prog, [(126, r126)], [], [], [], [0, 2], 16, 77⟩
def r77 : FnS := fnS cr77
/-- wreckage/memory.ReadHeap -/
def cr35 : Cx := ⟨mem, Go.Proofs.Tryz.prog, [(75, r75), (76, r76), (77, r77), (78, r78)], [], [], [], [0, 2, 3, 4, 6], 36, 35⟩
def r35 : FnS := fnS cr35
/-- wreckage/memory.ReadStacks -/
def cr36 : Cx := ⟨mem, Go.Proofs.Tryz.prog, [(75, r75), (76, r76), (77, r77), (79, r79), (80, r80), (81, r81)], [], [], [], [0, 2, 3, 4, 6, 29, 28, 9, 7, 10], 57, 36⟩
def r36 : FnS := fnS cr36
/-- (*wreckage/heads.reader).eight -/
def cr85 : Cx := ⟨mem, Go.Proofs.Tryz.prog, [(73, r73)], [], [], [], [0, 2], 6, 85⟩
def r85 : FnS := fnS cr85
/-- wreckage/heads.ReadHeads$1 -/
def cr83 : Cx := ⟨mem, Go.Proofs.Tryz.prog, [(71, r71), (72, r72), (73, r73), (84, r84), (85, r85)], [], [], [], [0, 2, 9, 8, 3], 40, 83⟩
def r83 : FnS := fnS cr83
/-- wreckage/heads.read[[]wreckage/api.Routine] -/
def cr82 : Cx := ⟨mem, Go.Proofs.Tryz.prog, [(75, r75), (83, r83), (86, r86), (126, r126)], [], [], [], [0, 1, 4, 5, 7, 3, 6, 10], 53, 82⟩
def r82 : FnS := fnS cr82
/-- wreckage/heads.ReadHeads -/
def cr37 : Cx := ⟨mem, Go.Proofs.Tryz.prog, [(82, r82)], [], [], [], [0, 2, 3], 9, 37⟩
def r37 : FnS := fnS cr37
/-- wreckage/heads.ReadChains$1 -/
def cr88 : Cx := ⟨mem, Go.Proofs.Tryz.prog, [(73, r73)], [], [], [], [0, 2, 8, 7, 13, 12, 4, 3], 27, 88⟩
def r88 : FnS := fnS cr88
/-- wreckage/heads.read[[][]uint64] -/
def cr87 : Cx := ⟨mem, Go.Proofs.Tryz.prog, [(75, r75), (88, r88), (89, r89), (126, r126)], [], [], [], [0, 1, 4, 5, 7, 3, 6, 10], 53, 87⟩
def r87 : FnS := fnS cr87
/-- wreckage/heads.ReadChains -/
def cr38 : Cx := ⟨mem, Go.Proofs.Tryz.prog, [(87, r87)], [], [], [], [0, 2, 3], 9, 38⟩
def r38 : FnS := fnS cr38
/-- wreckage/parse.Dump -/
def cr14 : Cx := ⟨mem, Go.Proofs.Tryz.prog, [(17, r17), (32, r32), (33, r33), (34, r34), (35, r35), (36, r36), (37, r37), (38, r38)], [], [], [], [0, 2, 3, 4, 95, 94, 6], 109, 14⟩
def r14 : FnS := fnS cr14
/-- wreckage/reader.Read -/
def cr9 : Cx := ⟨mem, Go.Proofs.Tryz.prog, [(5, r5), (14, r14)], [], [], [], [0, 2, 3, 4], 19, 9⟩
def r9 : FnS := fnS cr9
/-- wreckage/wreckageref02.Little -/
def cr133 : Cx := ⟨mem, Go.Proofs.Tryz.prog, [], [], [], [], [0, 1, 4, 6, 5], 21, 133⟩
def r133 : FnS := fnS cr133
/-- wreckage/wreckageref25.four -/
def cr90 : Cx := ⟨mem, Go.Proofs.Tryz.prog, [(133, r133)], [], [], [], [0, 2], 6, 90⟩
def r90 : FnS := fnS cr90
/-- wreckage/wreckageref01.Element -/
def cr192 : Cx := ⟨mem, Go.Proofs.Tryz.prog, [], [], [], [], [0, 2, 3], 18, 192⟩
def r192 : FnS := fnS cr192
/-- wreckage/wreckageref01.Table -/
def cr134 : Cx := ⟨mem, Go.Proofs.Tryz.prog, [(192, r192)], [], [], [], [0, 2, 1], 13, 134⟩
def r134 : FnS := fnS cr134
/-- wreckage/wreckageref01.On -/
def cr91 : Cx := ⟨mem, Go.Proofs.Tryz.prog, [(134, r134)], [], [], [], [0, 1, 4, 7, 6, 5], 32, 91⟩
def r91 : FnS := fnS cr91
/-- wreckage/wreckageref25.Bytes -/
def cr39 : Cx := ⟨mem, Go.Proofs.Tryz.prog, [(90, r90), (91, r91)], [], [], [], [0, 2, 5, 3, 4, 6], 80, 39⟩
def r39 : FnS := fnS cr39
/-- wreckage/wreckageref02.Minimal -/
def cr138 : Cx := ⟨mem, Go.Proofs.Tryz.prog, [], [], [], [], [0, 2, 3], 20, 138⟩
def r138 : FnS := fnS cr138
/-- wreckage/wreckageref09.number -/
def cr194 : Cx := ⟨mem, Go.Proofs.Tryz.prog, [(138, r138)], [], [], [], [0, 2], 6, 194⟩
def r194 : FnS := fnS cr194
/-- wreckage/wreckageref09.fields -/
def cr195 : Cx := ⟨mem, Go.Proofs.Tryz.prog, [(194, r194)], [], [], [], [0, 2, 4, 3], 30, 195⟩
def r195 : FnS := fnS cr195
/-- wreckage/wreckageref02.Said -/
def cr196 : Cx := ⟨mem, Go.Proofs.Tryz.prog, [(138, r138)], [], [], [], [0, 2], 9, 196⟩
def r196 : FnS := fnS cr196
/-- wreckage/wreckageref02.Double -/
def cr197 : Cx := ⟨mem, Go.Proofs.Tryz.prog, [], [], [], [], [0, 2], 14, 197⟩
def r197 : FnS := fnS cr197
/-- wreckage/wreckageref06.Shape -/
def cr240 : Cx := ⟨mem, Go.Proofs.Tryz.prog, [], [], [], [], [0, 2, 10, 3, 13, 19, 39, 45, 50], 57, 240⟩
def r240 : FnS := fnS cr240
/-- wreckage/wreckageref06.Operands -/
def cr241 : Cx := ⟨mem, Go.Proofs.Tryz.prog, [], [], [], [], [0, 2], 10, 241⟩
def r241 : FnS := fnS cr241
/-- wreckage/wreckageref06.Signed -/
def cr242 : Cx := ⟨mem, Go.Proofs.Tryz.prog, [], [], [], [], [0, 2], 13, 242⟩
def r242 : FnS := fnS cr242
/-- wreckage/wreckageref06.Coded -/
def cr198 : Cx := ⟨mem, Go.Proofs.Tryz.prog, [(138, r138), (197, r197), (240, r240), (241, r241), (242, r242)], [], [], [], [0, 2, 6, 4, 3, 5], 42, 198⟩
def r198 : FnS := fnS cr198
/-- wreckage/wreckageref08.Coded -/
def cr199 : Cx := ⟨mem, Go.Proofs.Tryz.prog, [(138, r138)], [], [], [], [0, 2, 5, 3, 4], 41, 199⟩
def r199 : FnS := fnS cr199
/-- wreckage/wreckageref09.Coded -/
def cr136 : Cx := ⟨mem, Go.Proofs.Tryz.prog, [(138, r138), (194, r194), (195, r195), (196, r196), (197, r197), (198, r198), (199, r199)], [], [], [], [0, 2, 4, 1, 3, 33, 5, 32, 6, 7, 9, 8], 148, 136⟩
def r136 : FnS := fnS cr136
/-- wreckage/wreckageref04.Widths -/
def cr275_1 : Cx := ⟨mem, Go.Proofs.Tryz.prog, [], [], [], [], [0, 1, 4, 7, 10, 9, 8, 11, 6, 5], 106, 275⟩
def r275_1 : FnS := fnS cr275_1
/-- wreckage/wreckageref04.Widths -/
def cr275_2 : Cx := ⟨mem, Go.Proofs.Tryz.prog, [(275, r275_1)], [], [], [], [0, 1, 4, 7, 10, 9, 8, 11, 6, 5], 106, 275⟩
def r275_2 : FnS := fnS cr275_2
/-- wreckage/wreckageref04.Widths -/
def cr275_3 : Cx := ⟨mem, Go.Proofs.Tryz.prog, [(275, r275_2)], [], [], [], [0, 1, 4, 7, 10, 9, 8, 11, 6, 5], 106, 275⟩
def r275_3 : FnS := fnS cr275_3
/-- wreckage/wreckageref04.Widths -/
def cr275_4 : Cx := ⟨mem, Go.Proofs.Tryz.prog, [(275, r275_3)], [], [], [], [0, 1, 4, 7, 10, 9, 8, 11, 6, 5], 106, 275⟩
def r275_4 : FnS := fnS cr275_4
/-- wreckage/wreckageref04.Check -/
def cr237 : Cx := ⟨mem, Go.Proofs.Tryz.prog, [(275, r275_4)], [], [], [], [0, 2, 3, 5, 4], 32, 237⟩
def r237 : FnS := fnS cr237
/-- wreckage/wreckageref05.Sizes -/
def cr238 : Cx := ⟨mem, Go.Proofs.Tryz.prog, [], [], [], [], [0, 2, 3, 6, 4, 5, 7, 8], 75, 238⟩
def r238 : FnS := fnS cr238
/-- wreckage/wreckageref04.Letter -/
def cr289 : Cx := ⟨mem, Go.Proofs.Tryz.prog, [], [], [], [], [0, 2], 17, 289⟩
def r289 : FnS := fnS cr289
/-- wreckage/wreckageref04.Named -/
def cr277 : Cx := ⟨mem, Go.Proofs.Tryz.prog, [(289, r289)], [], [], [], [0, 2, 3], 41, 277⟩
def r277 : FnS := fnS cr277
/-- wreckage/wreckageref04.Fields -/
def cr278 : Cx := ⟨mem, Go.Proofs.Tryz.prog, [], [], [], [], [0, 1, 4, 5, 6], 40, 278⟩
def r278 : FnS := fnS cr278
/-- wreckage/wreckageref06.Fits -/
def cr290 : Cx := ⟨mem, Go.Proofs.Tryz.prog, [], [], [], [], [0, 1, 4, 10, 5, 19, 28], 61, 290⟩
def r290 : FnS := fnS cr290
/-- wreckage/wreckageref06.Check -/
def cr279 : Cx := ⟨mem, Go.Proofs.Tryz.prog, [(240, r240), (241, r241), (290, r290)], [], [], [], [0, 2, 5, 3, 4], 26, 279⟩
def r279 : FnS := fnS cr279
/-- wreckage/wreckageref08.Fine -/
def cr280 : Cx := ⟨mem, Go.Proofs.Tryz.prog, [], [], [], [], [0, 1, 4, 5], 61, 280⟩
def r280 : FnS := fnS cr280
/-- wreckage/wreckageref09.function -/
def cr239 : Cx := ⟨mem, Go.Proofs.Tryz.prog, [(277, r277), (278, r278), (279, r279), (280, r280)], [], [], [], [0, 1, 4, 5, 3, 6], 107, 239⟩
def r239 : FnS := fnS cr239
/-- wreckage/wreckageref09.Fine -/
def cr193 : Cx := ⟨mem, Go.Proofs.Tryz.prog, [(237, r237), (238, r238), (239, r239)], [], [], [], [0, 2, 1, 5, 3, 6, 7, 8], 96, 193⟩
def r193 : FnS := fnS cr193
/-- wreckage/wreckageref09.Check -/
def cr135 : Cx := ⟨mem, Go.Proofs.Tryz.prog, [(136, r136), (193, r193)], [], [], [], [0, 2, 1], 10, 135⟩
def r135 : FnS := fnS cr135
/-- wreckage/wreckageref09.Encode -/
def cr92 : Cx := ⟨mem, Go.Proofs.Tryz.prog, [(135, r135), (136, r136)], [], [], [], [0, 2, 3, 1], 12, 92⟩
def r92 : FnS := fnS cr92
/-- wreckage/wreckageref27.signed -/
def cr137 : Cx := ⟨mem, Go.Proofs.Tryz.prog, [(138, r138), (197, r197)], [], [], [], [0, 2], 6, 137⟩
def r137 : FnS := fnS cr137
/-- wreckage/wreckageref27.EndedBytes -/
def cr93 : Cx := ⟨mem, Go.Proofs.Tryz.prog, [(137, r137), (138, r138)], [], [], [], [0, 2], 17, 93⟩
def r93 : FnS := fnS cr93
/-- wreckage/wreckageref26.counted -/
def cr139 : Cx := ⟨mem, Go.Proofs.Tryz.prog, [(138, r138)], [], [], [], [0, 2], 9, 139⟩
def r139 : FnS := fnS cr139
/-- wreckage/wreckageref26.HeapBytes -/
def cr94 : Cx := ⟨mem, Go.Proofs.Tryz.prog, [(139, r139)], [], [], [], [0, 2], 6, 94⟩
def r94 : FnS := fnS cr94
/-- wreckage/wreckageref26.StackBytes -/
def cr95 : Cx := ⟨mem, Go.Proofs.Tryz.prog, [(138, r138), (139, r139)], [], [], [], [0, 2, 4, 3], 24, 95⟩
def r95 : FnS := fnS cr95
/-- wreckage/wreckageref27.Base -/
def cr140 : Cx := ⟨mem, Go.Proofs.Tryz.prog, [], [], [], [], [0, 2], 7, 140⟩
def r140 : FnS := fnS cr140
/-- wreckage/wreckageref27.HeadBytes -/
def cr96 : Cx := ⟨mem, Go.Proofs.Tryz.prog, [(137, r137), (138, r138), (140, r140)], [], [], [], [0, 2, 4, 3], 57, 96⟩
def r96 : FnS := fnS cr96
/-- wreckage/wreckageref27.ChainBytes -/
def cr97 : Cx := ⟨mem, Go.Proofs.Tryz.prog, [(138, r138)], [], [], [], [0, 2, 4, 3, 5], 46, 97⟩
def r97 : FnS := fnS cr97
/-- wreckage/wreckageref28.Sectioned -/
def cr40 : Cx := ⟨mem, Go.Proofs.Tryz.prog, [(92, r92), (93, r93), (94, r94), (95, r95), (96, r96), (97, r97)], [], [], [], [0, 2], 38, 40⟩
def r40 : FnS := fnS cr40
/-- wreckage/wreckageref28.Bytes -/
def cr15 : Cx := ⟨mem, Go.Proofs.Tryz.prog, [(39, r39), (40, r40)], [], [], [], [0, 2], 6, 15⟩
def r15 : FnS := fnS cr15
/-- wreckage/wreckageref32.SameLocals -/
def cr98 : Cx := ⟨mem, Go.Proofs.Tryz.prog, [], [], [], [], [0, 1, 4, 5], 42, 98⟩
def r98 : FnS := fnS cr98
/-- wreckage/wreckageref34.SameRoutine -/
def cr41 : Cx := ⟨mem, Go.Proofs.Tryz.prog, [(6, r6), (98, r98)], [], [], [], [0, 1, 4, 5, 2, 3, 8, 11], 178, 41⟩
def r41 : FnS := fnS cr41
/-- wreckage/wreckageref34.Same -/
def cr16 : Cx := ⟨mem, Go.Proofs.Tryz.prog, [(41, r41)], [], [], [], [0, 1, 4, 5, 2, 3], 53, 16⟩
def r16 : FnS := fnS cr16
/-- wreckage/wreckagelaw34.alive -/
def cr10 : Cx := ⟨mem, Go.Proofs.Tryz.prog, [(4, r4), (5, r5), (8, r8), (9, r9), (15, r15), (16, r16)], [], [], [], [0], 45, 10⟩
def r10 : FnS := fnS cr10
/-- wreckage/wreckagelaw34.ReaderNames -/
def cr3 : Cx := ⟨mem, Go.Proofs.Tryz.prog, [(4, r4), (5, r5), (6, r6), (7, r7), (8, r8), (9, r9), (10, r10)], [], [], [], [0, 4, 1, 2, 3, 9, 12, 15, 17, 19, 22, 23], 288, 3⟩
def r3 : FnS := fnS cr3
end
end Go.Proofs.YtkgnabjcogmobaaGreat.Tz
