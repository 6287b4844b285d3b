import Derived.Test.YtpiokjcbadfalaaGreatDoorEvAO
import Derived.Test.YtpiokjcbadfalaaGreatDoorEvAP
import Derived.Test.YtpiokjcbadfalaaGreatDoorEvAR
import Derived.Test.YtpiokjcbadfalaaGreatDoorEvAS
import Derived.Test.YtpiokjcbadfalaaGreatDoorEvAX
import Derived.WideShapes
open Go Go.Proofs.YtpiokjcbadfalaaGreatDoor.Ev
namespace Go.Proofs.YtpiokjcbadfalaaGreatDoor.Tz
noncomputable section
def wP : Sm := aT Go.Proofs.YtpiokjcbadfalaaGreatDoor.Tz.gA [1,1,0,1]
def ef : Sm := o9 Go.Proofs.YtpiokjcbadfalaaGreatDoor.Tz.gA [1,1,1,0,1,0]
def so : Fr → Hp → ab := qb Go.Proofs.YtpiokjcbadfalaaGreatDoor.Tz.gA [1,1,1,0,1,0]
def jQ : ab → ab := oy Go.Proofs.YtpiokjcbadfalaaGreatDoor.Tz.gA [1,1,1,0,1,0]
def nD : Sm := aT Go.Proofs.YtpiokjcbadfalaaGreatDoor.Tz.gA [1,1,1,0,1,0,0,0,1]
def kU : Sm := aT Go.Proofs.YtpiokjcbadfalaaGreatDoor.Tz.gA [1,1,1,0,1]
def jq : Sm := aT Go.Proofs.YtpiokjcbadfalaaGreatDoor.Tz.gA [1,1,1,0,1,0,0,1,0]
def jy : Sm := aT Go.Proofs.YtpiokjcbadfalaaGreatDoor.Tz.gA [1,1,1,0,1,0,0,1,0,0,1,0,1]
def kV : Sm := aT Go.Proofs.YtpiokjcbadfalaaGreatDoor.Tz.gA [1,1,1,1,1,0,1,0,1,1,1]
def iR : Sm := aT Go.Proofs.YtpiokjcbadfalaaGreatDoor.Tz.gA [1,1,1,1,1,0,1]
def j9 : Sm := aT Go.Proofs.YtpiokjcbadfalaaGreatDoor.Tz.gA [1,1,1,0,1,0,0,1,0,0,1,1,1,1]
def nE : Sm := aT Go.Proofs.YtpiokjcbadfalaaGreatDoor.Tz.gA [1,1,1,1,1,1,1,0,1]
def jG : ab → ab := kO Go.Proofs.YtpiokjcbadfalaaGreatDoor.Tz.gA
theorem t1003 (x0 x1 x2 x3 : AV) (hp : Hp) : aa4.f (.nd x0 .lf (.nd x1 .lf (.nd x2 .lf (.nd x3 .lf .lf)))) hp = jG (dU mem (br mem) x0 3 3 hp (fun v0 v1=>dU mem (br mem) x2 3 3 v1 (fun v2 v3=>aH mem false a5j .lf v3 (fun v4 v5=>aI mem true 3 v0 v5 (fun v6=>aH mem false r4 (.nd v6 .lf (.nd x1 .lf .lf)) v5 (fun v7 v8=>gd v7 false v8 (fun k9=>k9 x1 v8) (fun v10 v11=>gd v7 false v11 (fun k12=>dX mem 1 v10 v11 (fun v13=>au (Nat.ble v13 9223372036854775807) (k12 (.int 3 v13) v11))) (fun v14 v15=>gd v7 false v15 (fun k16=>(ar .gtr 3).f v14 (.int 3 100) (fun v17=>k16 v17 v15)) (fun v18 v19=>bo v7 (fun v20=>v20 (.bool true)) (fun v21=>v21 v18) (fun v22=>gd v22 false v19 (fun k23=>k23 x3 v19) (fun v24 v25=>gd v22 false v25 (fun k26=>dX mem 0 v24 v25 (fun v27=>au (Nat.ble v27 9223372036854775807) (k26 (.int 3 v27) v25))) (fun v28 v29=>gd v22 false v29 (fun k30=>(ar .gtr 3).f v28 (.int 3 4000) (fun v31=>k30 v31 v29)) (fun v32 v33=>bo v22 (fun v34=>v34 (.bool true)) (fun v35=>v35 v32) (fun v36=>gd v36 false v33 (fun k37=>k37 v4 v33) (fun v38 v39=>gd v36 false v39 (fun k40=>AV.aJ v38 (fun v41=>k40 (.bool (de v41)) v39)) (fun v42 v43=>bo v36 (fun v44=>v44 (.bool true)) (fun v45=>v45 v42) (fun v46=>AV.aJ v46 (fun v47=>when v47 (.ret (.n x0 x1 x2 x3 v4 .uu v0 .uu (.n v2 v4 .uu .uu .uu .uu .uu .uu .e)) v43) ((wP).run .lf (.n x0 x1 x2 x3 (.bool false) .uu v0 .uu (.n v2 v4 .uu .uu .uu .uu .uu .uu .e)) v43))))))))))))))))))) := (congrArg (fun F=>aF.f F (.nd x0 .lf (.nd x1 .lf (.nd x2 .lf (.nd x3 .lf .lf)))) hp) (cX Go.Proofs.YtpiokjcbadfalaaGreatDoor.Tz.gA).symm).trans (by kernel_rfl)
theorem sN (x0 x1 x2 x3 x4 x5 x6 x7 x8 x9 x10 x11 : AV) (hp : Hp) : jG (.ret (.n x0 x1 x2 x3 x4 x5 x6 x7 (.n x8 x9 x10 x11 .uu .uu .uu .uu .e)) hp) = .val x4 hp := by kernel_rfl
theorem yO (x0 x1 x2 x3 x4 x5 x6 x7 x8 x9 x10 x11 : AV) (hp : Hp) : (wP).run .lf (.n x0 x1 x2 x3 x4 x5 x6 x7 (.n x8 x9 x10 x11 .uu .uu .uu .uu .e)) hp = so (.n x0 x1 x2 x3 x4 (.int 3 0) x6 x7 (.n x8 x9 x10 x11 .uu .uu .uu .uu .e)) hp := by kernel_rfl
theorem jl (x0 x1 x2 x3 x4 x5 x6 x7 x8 x9 x10 x11 : AV) (hp : Hp) : (ef).run .lf (.n x0 x1 x2 x3 x4 x5 x6 x7 (.n x8 x9 x10 x11 .uu .uu .uu .uu .e)) hp = dX mem 1 x1 hp (fun v48=>au (Nat.ble v48 9223372036854775807) ((ar .lss 3).f x5 (.int 3 v48) (fun v49=>AV.aJ v49 (fun v50=>when v50 ((nD).run .lf (.n x0 x1 x2 x3 x4 x5 x6 x7 (.n x8 x9 x10 x11 .uu .uu .uu .uu .e)) hp) (.exit 0 (.n x0 x1 x2 x3 x4 x5 x6 x7 (.n x8 x9 x10 x11 .uu .uu .uu .uu .e)) hp))))) := by kernel_rfl
theorem vt (fr : Fr) (hp : Hp) : so fr hp = jQ (b8 ef 1000000 fr hp) := rfl
theorem yu (fr : Fr) (hp : Hp) : jQ (.exit 0 fr hp) = (kU).run .lf fr hp := by kernel_rfl
theorem kq (x0 x1 x2 x3 x4 x5 x6 x7 x8 x9 x10 x11 : AV) (hp : Hp) : (nD).run .lf (.n x0 x1 x2 x3 x4 x5 x6 x7 (.n x8 x9 x10 x11 .uu .uu .uu .uu .e)) hp = kh 11 hp (fun v51=>aI mem true 3 x6 v51 (fun v52=>indexAddr 7 x1 x5 (fun v53=>aI mem true 7 v53 v51 (fun v54=>fB mem .nil .nil v51 (fun h55=>aH mem false r5 (.nd v52 .lf (.nd v54 .lf .lf)) h55 (fun v56 v57=>.val v56 v57)) (fun v58 v59=>bS 0 v59 (fun v60=>bS 1 v59 (fun v61=>(ar .neq 3).f v61 (.int 3 0) (fun v62=>AV.aJ v62 (fun v63=>when v63 ((jq).run .lf (.n x0 x1 x2 x3 x4 x5 x6 v60 (.n x8 x9 x10 x11 .uu .uu .uu .uu .e)) v58) ((jy).run .lf (.n x0 x1 x2 x3 x4 x5 x6 v60 (.n x8 x9 x10 x11 .uu .uu .uu .uu .e)) v58)))))))))) := by kernel_rfl
theorem oB (x0 x1 x2 x3 x4 x5 x6 x7 x8 x9 x10 x11 : AV) (hp : Hp) : (kU).run .lf (.n x0 x1 x2 x3 x4 x5 x6 x7 (.n x8 x9 x10 x11 .uu .uu .uu .uu .e)) hp = aI mem true 3 x6 hp (fun v64=>aI mem true 3 x8 hp (fun v65=>aH mem false r9 (.nd v64 .lf (.nd x1 .lf (.nd v65 .lf .lf))) hp (fun v66 v67=>bS 0 v66 (fun v68=>bS 1 v66 (fun v69=>(ar .eql 3).f v69 (.int 3 0) (fun v70=>AV.aJ v70 (fun v71=>when v71 (aI mem true 3 x6 v67 (fun v72=>aH mem false r11 (.nd v72 .lf (.nd v68 .lf .lf)) v67 (fun v73 v74=>bS 0 v73 (fun v75=>bS 1 v73 (fun v76=>bS 2 v73 (fun v77=>dU mem (br mem) (.agg (aA [.int 4 0,.int 3 0,.int 3 0]) 3) 3 3 v74 (fun v78 v79=>bk mem 3 v78 v76 v79 (fun v80=>aH mem false r39 (.nd v68 .lf .lf) v80 (fun v81 v82=>bS 0 v81 (fun v83=>bS 1 v81 (fun v84=>(ar .neq 3).f v77 (.int 3 0) (fun v85=>gd v85 false v82 (fun k86=>k86 v75 v82) (fun v87 v88=>gd v85 false v88 (fun k89=>k89 x1 v88) (fun v90 v91=>gd v85 false v91 (fun k92=>aH mem false r15 (.nd v87 .lf (.nd v90 .lf .lf)) v91 (fun v93 v94=>k92 v93 v94)) (fun v95 v96=>gd v85 false v96 (fun k97=>AV.aJ v95 (fun v98=>k97 (.bool (de v98)) v96)) (fun v99 v100=>bo v85 (fun v101=>v101 (.bool true)) (fun v102=>v102 v99) (fun v103=>gd v103 false v100 (fun k104=>aI mem true 3 v78 v100 (fun v105=>k104 v105 v100)) (fun v106 v107=>gd v103 false v107 (fun k108=>aI mem true 3 x8 v107 (fun v109=>k108 v109 v107)) (fun v110 v111=>gd v103 false v111 (fun k112=>(yX (.cells [6,5,5]) .neq).f v106 v110 (fun v113=>k112 v113 v111)) (fun v114 v115=>bo v103 (fun v116=>v116 (.bool true)) (fun v117=>v117 v114) (fun v118=>gd v118 false v115 (fun k119=>k119 v84 v115) (fun v120 v121=>gd v118 false v121 (fun k122=>AV.aJ v120 (fun v123=>k122 (.bool (de v123)) v121)) (fun v124 v125=>bo v118 (fun v126=>v126 (.bool true)) (fun v127=>v127 v124) (fun v128=>gd v128 false v125 (fun k129=>k129 v83 v125) (fun v130 v131=>gd v128 false v131 (fun k132=>dX mem 1 v130 v131 (fun v133=>au (Nat.ble v133 9223372036854775807) (k132 (.int 3 v133) v131))) (fun v134 v135=>gd v128 false v135 (fun k136=>k136 x1 v135) (fun v137 v138=>gd v128 false v138 (fun k139=>dX mem 1 v137 v138 (fun v140=>au (Nat.ble v140 9223372036854775807) (k139 (.int 3 v140) v138))) (fun v141 v142=>gd v128 false v142 (fun k143=>(ar .add 3).f v141 (.int 3 1) (fun v144=>k143 v144 v142)) (fun v145 v146=>gd v128 false v146 (fun k147=>(ar .neq 3).f v134 v145 (fun v148=>k147 v148 v146)) (fun v149 v150=>bo v128 (fun v151=>v151 (.bool true)) (fun v152=>v152 v149) (fun v153=>AV.aJ v153 (fun v154=>when v154 (.ret (.n x0 x1 x2 x3 (.bool false) x5 x6 x7 (.n x8 x9 x10 x11 .uu .uu .uu .uu .e)) v150) ((kV).run .lf (.n x0 x1 x2 x3 x4 x5 x6 x7 (.n x8 x9 x10 x11 .uu .uu .uu .uu .e)) v150))))))))))))))))))))))))))))))))) ((iR).run .lf (.n x0 x1 x2 x3 x4 x5 x6 x7 (.n x8 x9 x10 x11 .uu .uu .uu .uu .e)) v67)))))))) := by kernel_rfl
theorem gD (x0 x1 x2 x3 x4 x5 x6 x7 x8 x9 x10 x11 : AV) (hp : Hp) : (jq).run .lf (.n x0 x1 x2 x3 x4 x5 x6 x7 (.n x8 x9 x10 x11 .uu .uu .uu .uu .e)) hp = (ar .add 3).f x5 (.int 3 1) (fun v155=>.ok (.n x0 x1 x2 x3 x4 v155 x6 x7 (.n x8 x9 x10 x11 .uu .uu .uu .uu .e)) hp) := by kernel_rfl
theorem gU (x0 x1 x2 x3 x4 x5 x6 x7 x8 x9 x10 x11 : AV) (hp : Hp) : (jy).run .lf (.n x0 x1 x2 x3 x4 x5 x6 x7 (.n x8 x9 x10 x11 .uu .uu .uu .uu .e)) hp = aI mem true 3 x6 hp (fun v156=>aH mem false r7 (.nd v156 .lf (.nd x7 .lf .lf)) hp (fun v157 v158=>bS 0 v157 (fun v159=>bS 1 v157 (fun v160=>dU mem (br mem) (.agg (aA [.int 3 0,.int 3 0,.int 3 0,.int 3 0,.int 4 0,.int 3 0,.int 4 0]) 7) 7 7 v158 (fun v161 v162=>bk mem 7 v161 v159 v162 (fun v163=>kh 10 v163 (fun v164=>(ar .neq 3).f v160 (.int 3 0) (fun v165=>gd v165 false v164 (fun k166=>aI mem true 7 v161 v164 (fun v167=>k166 v167 v164)) (fun v168 v169=>gd v165 false v169 (fun k170=>k170 x1 v169) (fun v171 v172=>gd v165 false v172 (fun k173=>k173 x5 v172) (fun v174 v175=>gd v165 false v175 (fun k176=>indexAddr 7 v171 v174 (fun v177=>k176 v177 v175)) (fun v178 v179=>gd v165 false v179 (fun k180=>aI mem true 7 v178 v179 (fun v181=>k180 v181 v179)) (fun v182 v183=>gd v165 false v183 (fun k184=>(yX (.cells (.cons 5 (.cons 5 (.cons 5 (.cons 5 (.cons 6 (.cons 5 (.cons 6 .nil)))))))) .neq).f v168 v182 (fun v185=>k184 v185 v183)) (fun v186 v187=>bo v165 (fun v188=>v188 (.bool true)) (fun v189=>v189 v186) (fun v190=>AV.aJ v190 (fun v191=>when v191 (.ret (.n x0 x1 x2 x3 (.bool false) x5 x6 x7 (.n x8 x9 x10 x11 .uu .uu .uu .uu .e)) v187) ((j9).run .lf (.n x0 x1 x2 x3 x4 x5 x6 x7 (.n x8 x9 x10 x11 .uu .uu .uu .uu .e)) v187))))))))))))))))) := by kernel_rfl
theorem oC (x0 x1 x2 x3 x4 x5 x6 x7 x8 x9 x10 x11 : AV) (hp : Hp) : (kV).run .lf (.n x0 x1 x2 x3 x4 x5 x6 x7 (.n x8 x9 x10 x11 .uu .uu .uu .uu .e)) hp = (iR).run .lf (.n x0 x1 x2 x3 x4 x5 x6 x7 (.n x8 x9 x10 x11 .uu .uu .uu .uu .e)) hp := by kernel_rfl
theorem lR (x0 x1 x2 x3 x4 x5 x6 x7 x8 x9 x10 x11 : AV) (hp : Hp) : (iR).run .lf (.n x0 x1 x2 x3 x4 x5 x6 x7 (.n x8 x9 x10 x11 .uu .uu .uu .uu .e)) hp = aI mem true 3 x6 hp (fun v192=>aH mem false r11 (.nd v192 .lf (.nd x3 .lf .lf)) hp (fun v193 v194=>bS 0 v193 (fun v195=>bS 1 v193 (fun v196=>bS 2 v193 (fun v197=>dU mem (br mem) (.agg (aA [.int 4 0,.int 3 0,.int 3 0]) 3) 3 3 v194 (fun v198 v199=>bk mem 3 v198 v196 v199 (fun v200=>(ar .neq 3).f v197 (.int 3 0) (fun v201=>AV.aJ v201 (fun v202=>when v202 (gd x9 true v200 (fun k203=>k203 v197 v200) (fun v204 v205=>gd x9 true v205 (fun k206=>(ar .eql 3).f v204 (.int 3 12) (fun v207=>k206 v207 v205)) (fun v208 v209=>bo x9 (fun v210=>v210 v208) (fun v211=>v211 (.bool false)) (fun v212=>.ret (.n x0 x1 x2 x3 v212 x5 x6 x7 (.n x8 x9 v195 v198 .uu .uu .uu .uu .e)) v209)))) ((nE).run .lf (.n x0 x1 x2 x3 x4 x5 x6 x7 (.n x8 x9 v195 v198 .uu .uu .uu .uu .e)) v200)))))))))) := by kernel_rfl
theorem eQ (x0 x1 x2 x3 x4 x5 x6 x7 x8 x9 x10 x11 : AV) (hp : Hp) : (j9).run .lf (.n x0 x1 x2 x3 x4 x5 x6 x7 (.n x8 x9 x10 x11 .uu .uu .uu .uu .e)) hp = (jq).run .lf (.n x0 x1 x2 x3 x4 x5 x6 x7 (.n x8 x9 x10 x11 .uu .uu .uu .uu .e)) hp := by kernel_rfl
theorem qu (x0 x1 x2 x3 x4 x5 x6 x7 x8 x9 x10 x11 : AV) (hp : Hp) : (nE).run .lf (.n x0 x1 x2 x3 x4 x5 x6 x7 (.n x8 x9 x10 x11 .uu .uu .uu .uu .e)) hp = aI mem true 3 x6 hp (fun v213=>aI mem true 3 x11 hp (fun v214=>aH mem false r9 (.nd v213 .lf (.nd x10 .lf (.nd v214 .lf .lf))) hp (fun v215 v216=>bS 0 v215 (fun v217=>bS 1 v215 (fun v218=>gd x9 true v216 (fun k219=>k219 v218 v216) (fun v220 v221=>gd x9 true v221 (fun k222=>(ar .eql 3).f v220 (.int 3 0) (fun v223=>k222 v223 v221)) (fun v224 v225=>bo x9 (fun v226=>v226 v224) (fun v227=>v227 (.bool false)) (fun v228=>gd v228 true v225 (fun k229=>k229 v217 v225) (fun v230 v231=>gd v228 true v231 (fun k232=>k232 x3 v231) (fun v233 v234=>gd v228 true v234 (fun k235=>(gM .eql).f v230 v233 (fun v236=>k235 v236 v234)) (fun v237 v238=>bo v228 (fun v239=>v239 v237) (fun v240=>v240 (.bool false)) (fun v241=>.ret (.n x0 x1 x2 x3 v241 x5 x6 x7 (.n x8 x9 x10 x11 .uu .uu .uu .uu .e)) v238)))))))))))) := by kernel_rfl
end
end Go.Proofs.YtpiokjcbadfalaaGreatDoor.Tz
namespace Go.Proofs.YtpiokjcbadfalaaGreatDoor.Tz
attribute [local irreducible] mem
set_option linter.unusedSimpArgs false
attribute [local congr] dh aP bB dm dj bj dp cj aW cx cy cA bf bC bD aX eN cq cg cu bh bg aQ aS eO bF cn bx bH bE bz cz ck bd bI di bA bG bJ cP ek
set_option maxHeartbeats 4000000
theorem body3 {m : cW} (h : cB m) (hn : m.n ≤ 40) (hnc : ∀ i,i < m.n → m.nc i ≤ 300) {M : Nat → Mk} {n i : Nat} {a x2 x3 x7 x10 x11 : AV} {t : Row} {q : Bool} {B1 : bN} {hp : Hp} (hs : mC 7 a n t) (hR : dF 7 n t fun i=>(M i).l) (hM : ∀ i,i < n → (M i).Ok) (hnn : n ≤ 100) (hi : i < n) (hpr : hp.pr = []) (hnx : 1 < hp.nx ∧ hp.nx ≤ 100 + 30 * i) (h0 : hp.at 0 = Bx q [m.ty,m.tx,m.fs]) (h1 : hp.at 1 = B1) :
    ∃ x7' hp',(hp'.pr = [] ∧ 1 < hp'.nx ∧ hp'.nx ≤ 100 + 30 * (i + 1) ∧ hp'.at 0 = Bx q [m.ty,m.tx,m.fs] ∧ hp'.at 1 = B1) ∧ (ef).run .lf (.n m.av a x2 x3 (.bool false) (I i) (.ptr 0 0) x7 (.n (.ptr 1 0) (.bool true) x10 x11 .uu .uu .uu .uu .e)) hp = .ok (.n m.av a x2 x3 (.bool false) (I ((i : Int) + 1)) (.ptr 0 0) x7' (.n (.ptr 1 0) (.bool true) x10 x11 .uu .uu .uu .uu .e)) hp' := by
  have e5 := fun hp k=>c5 h hn hnc (hM i hi) (hp := hp) (k := k)
  have hlt : (i : Int) < n := by omega
  have hsm := hs.small
  by_cases hF : Fits m (M i)
  · have hl := ni hF
    have e7 := fun hp k=>(rd7 h hn hnc).a8S h (s := aM m (M i)) (by omega) (zL hn hnc (hM i hi) hF) hp k
    generalize hr : (ef).run .lf (.n m.av a x2 x3 (.bool false) (I i) (.ptr 0 0) x7 (.n (.ptr 1 0) (.bool true) x10 x11 .uu .uu .uu .uu .e)) hp = r
    simp only [cW.av,Mk.av,Mk.l,if_pos hF] at hr e5
    simp +contextual (maxSteps := 2000000) (disch := (first | omega | (simp only [Y2,List.length_drop,List.length_take] <;> omega) | ((repeat' (first | exact aw | apply aq | apply ay | refine ax (by omega) ?_ ?_)) <;> (simp (disch := (first | omega | (simp only [Y5] <;> omega))) only [Y4,nd @aD,nd @aE,aj,Nat.reduceAdd,Nat.reduceEqDiff,reduceIte, *])) | (simp (disch := omega) only [Y4,nd @aD,nd @aE,aj,Nat.reduceAdd,Nat.reduceEqDiff,reduceIte]; done) | assumption | exact bL _ | exact bY _ | exact bX _ | exact bZ _ | exact True.intro | rfl)) only [Y1,Y3,jl,kq,gD,gU,eQ,Int.reduceLT,Int.reduceLE,Int.reduceEq,Int.reduceNeg,Int.reduceToNat,Nat.reduceAdd,Nat.reduceEqDiff,reduceIte,Nat.reduceLeDiff,a0K,Nat.reduceSub,hs.len,hs.idx,a7I hR,l_eq,xv,h0,e5,e7] at hr
    rw [if_pos hlt] at hr
    have nq := @xv (M i)
    simp only [Mk.l] at nq
    simp only [nq] at hr
    simp +contextual (maxSteps := 2000000) (disch := (first | omega | (simp only [Y2,List.length_drop,List.length_take] <;> omega) | ((repeat' (first | exact aw | apply aq | apply ay | refine ax (by omega) ?_ ?_)) <;> (simp (disch := (first | omega | (simp only [Y5] <;> omega))) only [Y4,nd @aD,nd @aE,aj,Nat.reduceAdd,Nat.reduceEqDiff,reduceIte, *])) | (simp (disch := omega) only [Y4,nd @aD,nd @aE,aj,Nat.reduceAdd,Nat.reduceEqDiff,reduceIte]; done) | assumption | exact bL _ | exact bY _ | exact bX _ | exact bZ _ | exact True.intro | rfl)) only [Y1,Y3,gD,eQ,Int.reduceLT,Int.reduceLE,Int.reduceEq,Int.reduceNeg,Int.reduceToNat,Nat.reduceAdd,Nat.reduceEqDiff,reduceIte,Nat.reduceLeDiff,Nat.reduceSub] at hr
    refine ⟨_,_, ?_,hr.symm⟩
    refine ⟨hpr, ?_, ?_, ?_, ?_⟩
    · show 1 < hp.nx + 11 + 1 + 10; omega
    · show hp.nx + 11 + 1 + 10 ≤ _; omega
    · rw [nW,kL (by omega) (by omega),fE (by show hp.nx + 11 < _; omega) (by show 0 ≠ hp.nx + 11; omega),nW,h0]
    · rw [nW,kL (by omega) (by omega),fE (by show hp.nx + 11 < _; omega) (by show 1 ≠ hp.nx + 11; omega),nW,h1]
  · generalize hr : (ef).run .lf (.n m.av a x2 x3 (.bool false) (I i) (.ptr 0 0) x7 (.n (.ptr 1 0) (.bool true) x10 x11 .uu .uu .uu .uu .e)) hp = r
    simp only [cW.av,Mk.av,Mk.l,if_neg hF] at hr e5
    simp +contextual (maxSteps := 2000000) (disch := (first | omega | (simp only [Y2,List.length_drop,List.length_take] <;> omega) | ((repeat' (first | exact aw | apply aq | apply ay | refine ax (by omega) ?_ ?_)) <;> (simp (disch := (first | omega | (simp only [Y5] <;> omega))) only [Y4,nd @aD,nd @aE,aj,Nat.reduceAdd,Nat.reduceEqDiff,reduceIte, *])) | (simp (disch := omega) only [Y4,nd @aD,nd @aE,aj,Nat.reduceAdd,Nat.reduceEqDiff,reduceIte]; done) | assumption | exact bL _ | exact bY _ | exact bX _ | exact bZ _ | exact True.intro | rfl)) only [Y1,Y3,jl,kq,gD,gU,eQ,Int.reduceLT,Int.reduceLE,Int.reduceEq,Int.reduceNeg,Int.reduceToNat,Nat.reduceAdd,Nat.reduceEqDiff,reduceIte,Nat.reduceLeDiff,a0K,Nat.reduceSub,hs.len,hs.idx,a7I hR,l_eq,h0,e5] at hr
    rw [if_pos hlt] at hr
    exact ⟨_,hp.yL 11,⟨hpr,show 1 < hp.nx + 11 by omega,show hp.nx + 11 ≤ _ by omega,by rw [nW,h0],by rw [nW,h1]⟩,hr.symm⟩
theorem al9 {m : cW} (h : cB m) (hn : m.n ≤ 40) (hnc : ∀ i,i < m.n → m.nc i ≤ 300) {M : Nat → Mk} {n : Nat} {a x2 x3 x10 x11 : AV} {t : Row} {q : Bool} {B1 : bN} (hs : mC 7 a n t) (hR : dF 7 n t fun i=>(M i).l) (hM : ∀ i,i < n → (M i).Ok) (hnn : n ≤ 100) : ∀ (k i fuel : Nat) (x7 : AV) (hp : Hp),n - i = k → i ≤ n → k < fuel → hp.pr = [] → 1 < hp.nx → hp.nx ≤ 100 + 30 * i → hp.at 0 = Bx q [m.ty,m.tx,m.fs] → hp.at 1 = B1 →
    ∃ x7' hp',(hp'.pr = [] ∧ 1 < hp'.nx ∧ hp'.nx ≤ 100 + 30 * n ∧ hp'.at 0 = Bx q [m.ty,m.tx,m.fs] ∧ hp'.at 1 = B1) ∧ jQ (b8 ef fuel (.n m.av a x2 x3 (.bool false) (I i) (.ptr 0 0) x7 (.n (.ptr 1 0) (.bool true) x10 x11 .uu .uu .uu .uu .e)) hp) = (kU).run .lf (.n m.av a x2 x3 (.bool false) (I n) (.ptr 0 0) x7' (.n (.ptr 1 0) (.bool true) x10 x11 .uu .uu .uu .uu .e)) hp'
  | k,i,0,_,_,_,_,hfu,_,_,_,_,_=>absurd hfu (Nat.not_lt_zero _)
  | k,i,fuel + 1,x7,hp,hk,hi,hfu,hpr,hn0,hnx,h0,h1=>by
    by_cases hlt : i < n
    · obtain ⟨x7',hp',⟨e1,e2,e3,e4,e5⟩,e6⟩ := body3 (x2 := x2) (x3 := x3) (x7 := x7) (x10 := x10) (x11 := x11) h hn hnc hs hR hM hnn hlt hpr ⟨hn0,hnx⟩ h0 h1
      rw [gv e6]
      exact al9 h hn hnc hs hR hM hnn (k - 1) (i + 1) fuel x7' hp' (by omega) (by omega) (by omega) e1 e2 e3 e4 e5
    · have hie : i = n := by omega
      subst hie
      have hsm := hs.small
      have hb : (ef).run .lf (.n m.av a x2 x3 (.bool false) (I i) (.ptr 0 0) x7 (.n (.ptr 1 0) (.bool true) x10 x11 .uu .uu .uu .uu .e)) hp = .exit 0 (.n m.av a x2 x3 (.bool false) (I i) (.ptr 0 0) x7 (.n (.ptr 1 0) (.bool true) x10 x11 .uu .uu .uu .uu .e)) hp := by
        generalize hr : (ef).run .lf (.n m.av a x2 x3 (.bool false) (I i) (.ptr 0 0) x7 (.n (.ptr 1 0) (.bool true) x10 x11 .uu .uu .uu .uu .e)) hp = r
        simp +contextual (maxSteps := 2000000) (disch := (first | omega | (simp only [Y2,List.length_drop,List.length_take] <;> omega) | ((repeat' (first | exact aw | apply aq | apply ay | refine ax (by omega) ?_ ?_)) <;> (simp (disch := (first | omega | (simp only [Y5] <;> omega))) only [Y4,nd @aD,nd @aE,aj,Nat.reduceAdd,Nat.reduceEqDiff,reduceIte, *])) | (simp (disch := omega) only [Y4,nd @aD,nd @aE,aj,Nat.reduceAdd,Nat.reduceEqDiff,reduceIte]; done) | assumption | exact bL _ | exact bY _ | exact bX _ | exact bZ _ | exact True.intro | rfl)) only [Y1,Y3,jl,Int.reduceLT,Int.reduceLE,Int.reduceEq,Int.reduceNeg,Int.reduceToNat,Nat.reduceAdd,Nat.reduceEqDiff,reduceIte,Nat.reduceLeDiff,Nat.reduceSub,hs.len] at hr
        rw [← hr,if_neg (by omega)]
      exact ⟨x7,hp,⟨hpr,hn0,hnx,h0,h1⟩,(congrArg jQ (fR hb)).trans (yu _ _)⟩
end Go.Proofs.YtpiokjcbadfalaaGreatDoor.Tz
namespace Go.Proofs.YtpiokjcbadfalaaGreatDoor.Ev
attribute [local irreducible] mem
section
variable {M : Mem} (ok : mA M)
include ok
theorem a6K {F : aF} {hp : Hp} {v0 a v2 v : AV} {l : List AV} {z : Nat} (h0 : ∀ hp k,(nB M 24).f hp v0 k = k v0 hp) (ha : Elw z hp a l) (hnx : hp.nx ≤ 1000000) (h2 : ∀ hp k,(nB M 24).f hp v2 k = k v2 hp) (hv : ∀ hc hp b k,(imp M 24).f v hc hp b k = k v hc hp b) (e : ∀ a',Fz z a' l → eJ (F.f (.nd v0 .lf (.nd a' .lf (.nd v2 .lf .lf))) .empty) = some v) (k : AV → Hp → ab) : aH M false F (.nd v0 .lf (.nd a .lf (.nd v2 .lf .lf))) hp k = k v hp := by
  obtain ⟨a',h1,f1,n1,w1,e1⟩ := zJ ok (m := 23) ha hnx
  obtain ⟨hc,e3⟩ := pM (e a' f1)
  show er M hp (.nd v0 .lf (.nd a .lf (.nd v2 .lf .lf))) (fun a ho=>dQ M F a hp ho k) (dB F (.nd v0 .lf (.nd a .lf (.nd v2 .lf .lf))) hp k) = _
  unfold er
  rw [yy,h0,yy,e1,yy,h2,anE]
  show dQ M F (.nd v0 .lf (.nd a' .lf (.nd v2 .lf .lf))) hp h1 k = _
  unfold dQ
  rw [e3]
  show (imp M 24).f v hc hp false (fun v' _ hp' b=>when b ((imp M 24).f v hc h1 false fun v _ hp _=>k v hp) (k v' hp')) = _
  rw [hv]; rfl
end
theorem adj {F : aF} {hp : Hp} {v0 a v2 v : AV} {l : List AV} {z : Nat} (h0 : ∀ hp k,(nB mem 24).f hp v0 k = k v0 hp) (ha : my z hp a l) (hnx : hp.nx ≤ 1000000) (h2 : ∀ hp k,(nB mem 24).f hp v2 k = k v2 hp) (hv : vU v) (e : ∀ a',Fz z a' l → eJ (F.f (.nd v0 .lf (.nd a' .lf (.nd v2 .lf .lf))) .empty) = some v) (k : AV → Hp → ab) : aH mem false F (.nd v0 .lf (.nd a .lf (.nd v2 .lf .lf))) hp k = k v hp := a6K dx h0 ha.w hnx h2 hv e k
end Go.Proofs.YtpiokjcbadfalaaGreatDoor.Ev
open Go Go.Proofs.YtpiokjcbadfalaaGreatDoor.Ev
namespace Go.Proofs.YtpiokjcbadfalaaGreatDoor.Tz
attribute [local irreducible] mem
set_option linter.unusedSimpArgs false
attribute [local congr] dh aP bB dm dj bj dp cj aW cx cy cA bf bC bD aX eN cq cg cu bh bg aQ aS eO bF cn bx bH bE bz cz ck bd bI di bA bG bJ cP ek
set_option maxHeartbeats 4000000
theorem ael {a : AV} {l : List Mk} (h : Fz 7 a (l.map Mk.av)) : ∃ t,iN a = some (t,0,l.length) ∧ dF 7 l.length t fun i=>(l.getD i fp).l := by
  rcases h with ⟨rfl,h⟩ | ⟨t,rfl,h⟩
  · have e : l = [] := List.map_eq_nil_iff.1 h
    subst e
    exact ⟨.lf,rfl,fun i hi=>absurd hi (Nat.not_lt_zero _)⟩
  · rw [List.length_map] at h ⊢
    refine ⟨t,rfl,fun i hi=>⟨?_,rfl⟩⟩
    have e : l.getD i fp = l[i] := by rw [List.getD_eq_getElem?_getD,List.getElem?_eq_getElem hi]; rfl
    rw [h i hi,List.getD_eq_getElem?_getD,List.getElem?_map,List.getElem?_eq_getElem hi]
    show Mk.av l[i] = .agg (aA (l.getD i fp).l) 7
    rw [e]; rfl
theorem acb {o : Nat} {f u : Int} {k : AV → ab} : (yX (.cells [6,5,5]) .neq).f (.agg (aA [B8 o,I f,I u]) 3) (.agg (aA [B8 o,I f,I u]) 3) k = k (.bool false) := by
  show eqs [6,5,5] (.nd (.int 4 _) .lf (.nd (.int 3 _) .lf (.nd (.int 3 _) .lf .lf))) (.nd (.int 4 _) .lf (.nd (.int 3 _) .lf (.nd (.int 3 _) .lf .lf))) (fun r=>k (.bool (de r))) = _
  simp only [a3p]
  rw [eG (c := 4) rfl,eG (c := 3) rfl,eG (c := 3) rfl]
  rfl
theorem a1J {F : aF} {m : cW} (h : cB m) {u : List UInt8} {ls : List Mk} {xe : En} {z : Int} {a : AV} {hc : Hp} (ha : my 7 hc a (ls.map Mk.av)) (hcn : hc.nx ≤ 1000000) (e : F.f (.nd m.av .lf (.nd (S u) .lf .lf)) .empty = .val (.bu (.nd a .lf (aA [xe.av,I z])) 3) hc) (hp : Hp) (hnx : hp.nx ≤ 1000000) : ∃ a' hp',ab5 7 hp a' hp' (ls.map Mk.av) ∧ ∀ k,aH mem false F (.nd m.av .lf (.nd (S u) .lf .lf)) hp k = k (.bu (.nd a' .lf (.nd xe.av .lf (.nd (I z) .lf .lf))) 3) hp' :=
  wg dx (cW.pb h (fk (.nd (c8 u) .lf))) (a9r (l := [_,_]) fun v hv=>by
      rcases List.mem_cons.1 hv with rfl | hv
      · exact rQ (by rfl)
      · rw [List.mem_singleton.1 hv]; exact kT _) ha hcn hnx e
theorem ag7 (s : List UInt8) : ∃ ls last,ls ++ [last] = aO 10 s ∧ ∀ l ∈ ls,l.length ≤ s.length := by
  have hne : aO 10 s ≠ [] := by
    have := fL 10 s
    intro e; rw [e] at this; exact absurd this (by decide)
  exact ⟨(aO 10 s).dropLast,(aO 10 s).getLast hne,List.dropLast_concat_getLast hne,fun l hl=>lk 10 s l (List.dropLast_subset _ hl)⟩
theorem anB {m : cW} (h : cB m) (hm : th m.ty = true ∧ th m.tx = true ∧ th m.fs = true) (hn : m.n ≤ 40) (hnc : ∀ i,i < m.n → m.nc i ≤ 300) {a x2 x5 x7 x10 x11 : AV} {s : List UInt8} {q : Bool} {H : Hp} (hs : s.length ≤ 4000) (h0 : H.at 0 = Bx q [m.ty,m.tx,m.fs]) (hnx : 1 < H.nx ∧ H.nx ≤ 900000) (hpr : H.pr = []) :
    eJ (jG ((iR).run .lf (.n m.av a x2 (S s) (.bool false) x5 (.ptr 0 0) x7 (.n (.ptr 1 0) (.bool true) x10 x11 .uu .uu .uu .uu .e)) H)) = some (.bool true) := by
  obtain ⟨ls,last,hp,hle⟩ := ag7 s
  have r1 := agJ (rd7 h hn hnc) ed38 h (show s.length ≤ 99000 by omega) hp fun l hl=>by have := hle l hl; omega
  cases ho : rdL (gMk m) gEn ls last with
  | none=>
    rw [ho] at r1
    obtain ⟨a1,hc,⟨k1,k2⟩,k3⟩ := r1
    obtain ⟨a',h',⟨T1,T2,T3,T4,T5,T6⟩,e11⟩ := a1J (ls := []) h k1 k3 k2 H (by omega)
    have hN : h'.nx < 16777215 := by omega
    have hpr' : h'.pr = [] := T4.trans hpr
    generalize hr : jG _ = r
    simp only [cW.av,En.av,En.l] at hr e11
    simp +contextual (maxSteps := 2000000) (disch := (first | omega | (simp only [Y2,List.length_drop,List.length_take] <;> omega) | ((repeat' (first | exact aw | apply aq | apply ay | refine ax (by omega) ?_ ?_)) <;> (simp (disch := (first | omega | (simp only [Y5] <;> omega))) only [Y4,nd @aD,nd @aE,aj,Nat.reduceAdd,Nat.reduceEqDiff,reduceIte, *])) | (simp (disch := omega) only [Y4,nd @aD,nd @aE,aj,Nat.reduceAdd,Nat.reduceEqDiff,reduceIte]; done) | assumption | exact bL _ | exact bY _ | exact bX _ | exact bZ _ | exact True.intro | rfl)) only [Y1,Y3,lR,Int.reduceLT,Int.reduceLE,Int.reduceEq,Int.reduceNeg,Int.reduceToNat,Nat.reduceAdd,Nat.reduceEqDiff,reduceIte,Nat.reduceLeDiff,Nat.reduceSub,h0,hpr',e11] at hr
    rw [sN] at hr
    rw [← hr]; rfl
  | some o=>
    obtain ⟨l,x⟩ := o
    rw [ho] at r1
    have hT := auQ hp ho
    obtain ⟨hx,hl2,hl3,-⟩ := a0n hp ho
    obtain ⟨a1,hc,⟨k1,k2⟩,k3⟩ := r1
    obtain ⟨a',h',⟨T1,T2,T3,T4,T5,T6⟩,e11⟩ := a1J h k1 k3 k2 H (by omega)
    have hN : h'.nx < 16777215 := by omega
    have hpr' : h'.pr = [] := T4.trans hpr
    have g0 : h'.at 0 = Bx q [m.ty,m.tx,m.fs] := by rw [T5 0 (by omega),h0]
    have e9 : ∀ J : Hp,my 7 J a' (l.map Mk.av) → J.nx ≤ 1000000 → ∀ k,aH mem false r9 (.nd m.av .lf (.nd a' .lf (.nd x.av .lf .lf))) J k = k (.bu (.nd (S s) .lf (.nd (I 0) .lf .lf)) 2) J := fun J hJ hJn=>adj (fun hp k=>cW.still h hp k) hJ hJn En.still.1 (kj (rP _) (kT _)) fun b hb=>by
      obtain ⟨t,t1,t2⟩ := ael hb
      have := ano h hn hnc hm t1 t2 (fun i hi=>by
        have hg : l.getD i fp = l[i] := by rw [List.getD_eq_getElem?_getD,List.getElem?_eq_getElem hi]; rfl
        show (l.getD i fp).Ok
        rw [hg]; exact (hl3 _ (List.getElem_mem hi)).1) hx.ok
      rw [hT] at this; exact this
    generalize hr : jG _ = r
    simp only [cW.av,En.av,En.l] at hr e11 e9
    simp +contextual (maxSteps := 2000000) (disch := (first | omega | (simp only [Y2,List.length_drop,List.length_take] <;> omega) | ((repeat' (first | exact aw | apply aq | apply ay | refine ax (by omega) ?_ ?_)) <;> (simp (disch := (first | omega | (simp only [Y5] <;> omega))) only [Y4,nd @aD,nd @aE,aj,Nat.reduceAdd,Nat.reduceEqDiff,reduceIte, *])) | (simp (disch := omega) only [Y4,nd @aD,nd @aE,aj,Nat.reduceAdd,Nat.reduceEqDiff,reduceIte]; done) | assumption | exact bL _ | exact bY _ | exact bX _ | exact bZ _ | exact True.intro | rfl)) only [Y1,Y3,lR,Int.reduceLT,Int.reduceLE,Int.reduceEq,Int.reduceNeg,Int.reduceToNat,Nat.reduceAdd,Nat.reduceEqDiff,reduceIte,Nat.reduceLeDiff,Nat.reduceSub,h0,hpr',e11] at hr
    generalize hJ : ((h'.add (Bx true [B8 0,I 0,I 0])).eK h'.nx (Bx true [B8 x.out,I x.fl,I x.us])) = J at hr
    have hJn : J.nx = h'.nx + 1 := by subst hJ; rfl
    have hJp : J.pr = [] := by subst hJ; exact hpr'
    have hJl : ∀ c,c < h'.nx → J.at c = h'.at c := fun c hc=>by subst hJ; rw [kL hN (by omega),fE hN (by omega)]
    have hJe : J.at h'.nx = Bx true [B8 x.out,I x.fl,I x.us] := by subst hJ; exact jh hN
    clear hJ
    have e9' := e9 J (T1.mono hJl (by omega)) (by omega)
    have j0 : J.at 0 = Bx q [m.ty,m.tx,m.fs] := by rw [hJl 0 (by omega),g0]
    simp +contextual (maxSteps := 2000000) (disch := (first | omega | (simp only [Y2,List.length_drop,List.length_take] <;> omega) | ((repeat' (first | exact aw | apply aq | apply ay | refine ax (by omega) ?_ ?_)) <;> (simp (disch := (first | omega | (simp only [Y5] <;> omega))) only [Y4,nd @aD,nd @aE,aj,Nat.reduceAdd,Nat.reduceEqDiff,reduceIte, *])) | (simp (disch := omega) only [Y4,nd @aD,nd @aE,aj,Nat.reduceAdd,Nat.reduceEqDiff,reduceIte]; done) | assumption | exact bL _ | exact bY _ | exact bX _ | exact bZ _ | exact True.intro | rfl)) only [Y1,Y3,qu,Int.reduceLT,Int.reduceLE,Int.reduceEq,Int.reduceNeg,Int.reduceToNat,Nat.reduceAdd,Nat.reduceEqDiff,reduceIte,Nat.reduceLeDiff,Nat.reduceSub,j0,hJe,hJp,e9'] at hr
    rw [sN] at hr
    rw [← hr]; rfl
end Go.Proofs.YtpiokjcbadfalaaGreatDoor.Tz
namespace Go.Proofs.YtpiokjcbadfalaaGreatDoor.Ev
attribute [local irreducible] mem
section
variable {M : Mem} (ok : mA M)
include ok
theorem a6L {F : aF} {hp : Hp} {a b v : AV} {l : List AV} {z : Nat} (ha : Elw z hp a l) (hnx : hp.nx ≤ 1000000) (hb : ∀ hp k,(nB M 24).f hp b k = k b hp) (hv : ∀ hc hp b k,(imp M 24).f v hc hp b k = k v hc hp b) (e : ∀ a',Fz z a' l → eJ (F.f (.nd a' .lf (.nd b .lf .lf)) .empty) = some v) (k : AV → Hp → ab) : aH M false F (.nd a .lf (.nd b .lf .lf)) hp k = k v hp := by
  obtain ⟨a',h1,f1,n1,w1,e1⟩ := zJ ok (m := 23) ha hnx
  obtain ⟨hc,e3⟩ := pM (e a' f1)
  show er M hp (.nd a .lf (.nd b .lf .lf)) (fun a ho=>dQ M F a hp ho k) (dB F (.nd a .lf (.nd b .lf .lf)) hp k) = _
  unfold er
  rw [yy,e1,yy,hb,anE]
  show dQ M F (.nd a' .lf (.nd b .lf .lf)) hp h1 k = _
  unfold dQ
  rw [e3]
  show (imp M 24).f v hc hp false (fun v' _ hp' b=>when b ((imp M 24).f v hc h1 false fun v _ hp _=>k v hp) (k v' hp')) = _
  rw [hv]; rfl
end
end Go.Proofs.YtpiokjcbadfalaaGreatDoor.Ev
open Go Go.Proofs.YtpiokjcbadfalaaGreatDoor.Ev
namespace Go.Proofs.YtpiokjcbadfalaaGreatDoor.Tz
attribute [local irreducible] mem
set_option linter.unusedSimpArgs false
attribute [local congr] dh aP bB dm dj bj dp cj aW cx cy cA bf bC bD aX eN cq cg cu bh bg aQ aS eO bF cn bx bH bE bz cz ck bd bI di bA bG bJ cP ek
set_option maxHeartbeats 4000000
theorem zF (x : En) : (ep x).length ≤ 200 := by
  have l1 := jc x.out
  have l2 := cS x.fl
  have l3 := cS x.us
  unfold ep
  simp only [List.length_append,List.length_cons,List.length_nil]
  omega
theorem a5x {m : cW} {x : Mk} (hF : Fits m x) : (aM m x).length ≤ 900 := by
  unfold Fits at hF
  have l1 := cS x.step
  have l2 := cS x.g
  have l3 := cS x.f
  have l4 := cS x.at'
  have l5 := cS x.fr
  have l6 := qL x.op
  have l7 := jc x.out
  have l8 := nh (m.nm x.f.toNat)
  unfold aM
  split <;> simp only [List.length_append,List.length_cons,List.length_nil] <;> omega
theorem a0x {m : cW} {M : Nat → Mk} : ∀ i,(∀ j,j < i → Fits m (M j)) → (pT m M i).length ≤ 901 * i
  | 0,_=>Nat.le_refl _
  | i + 1,h=>by
    have ih := a0x i fun j hj=>h j (by omega)
    have h1 := a5x (h i (by omega))
    show (pT m M i ++ (aM m (M i) ++ [10])).length ≤ _
    rw [List.length_append,List.length_append]
    simp only [List.length_cons,List.length_nil]
    omega
theorem c15v {a b : AV} {l : List Mk} {t : Row} {hp : Hp} (ha : my 7 hp a (l.map Mk.av)) (hs : mC 7 b l.length t) (hR : dF 7 l.length t fun i=>(l.getD i fp).l) (hnx : hp.nx ≤ 1000000) (hl : l.length ≤ 100000) (k : AV → Hp → ab) : aH mem false r15 (.nd a .lf (.nd b .lf .lf)) hp k = k (.bool true) hp :=
  a6L dx ha.w hnx (hs.still 23) (fun _ _ _ _=>rfl) (fun a' fa=>by
    obtain ⟨u,u1,u2⟩ := fz_ok fa hl
    exact auB u1 u2 hs hR hl) k
theorem ajN {M : Nat → Mk} {n i : Nat} (h : i < n) : (yB M n).getD i fp = M i := by
  unfold yB
  rw [List.getD_eq_getElem?_getD,List.getElem?_map,List.getElem?_range h]; rfl
theorem sw {M : Nat → Mk} {n : Nat} : (yB M n).length = n := by unfold yB; rw [List.length_map,List.length_range]
theorem mid3 {m : cW} (h : cB m) (hm : th m.ty = true ∧ th m.tx = true ∧ th m.fs = true) (hn : m.n ≤ 40) (hnc : ∀ i,i < m.n → m.nc i ≤ 300) {M : Nat → Mk} {n : Nat} {a x5 x7 x10 x11 : AV} {t : Row} (ha : iN a = some (t,0,n)) (hsl : mC 7 a n t) (hR : dF 7 n t fun i=>(M i).l) (hM : ∀ i,i < n → (M i).Ok) (hnn : n ≤ 100) {en : En} (he : en.Ok) {s : List UInt8} {q : Bool} {H : Hp} (hs : s.length ≤ 4000) (h0 : H.at 0 = Bx q [m.ty,m.tx,m.fs]) (h1 : H.at 1 = Bx true [B8 en.out,I en.fl,I en.us]) (hnx : 1 < H.nx ∧ H.nx ≤ 10000) (hpr : H.pr = []) :
    eJ (jG ((kU).run .lf (.n m.av a en.av (S s) (.bool false) x5 (.ptr 0 0) x7 (.n (.ptr 1 0) (.bool true) x10 x11 .uu .uu .uu .uu .e)) H)) = some (.bool true) := by
  have zl3 : ∀ hp k,zl (nB mem 24) (.nd m.av .lf (.nd a .lf (.nd en.av .lf .lf))) hp k = k (.nd m.av .lf (.nd a .lf (.nd en.av .lf .lf))) hp := cW.pb h fun hp k=>by
    rw [yy,hsl.still 23,fk (.nd En.still .lf)]
  have e9 := fun hp k=>pf zl3 (kj (rP _) (kT _)) (ano h hn hnc hm ha hR hM he) hp k
  have ht := fun x7=>anB (a := a) (x2 := en.av) (x5 := x5) (x7 := x7) (x10 := x10) (x11 := x11) h hm hn hnc (s := s) (H := H) hs h0 (by omega) hpr
  have hT : ∃ T z,txR m M n en = (T,z) ∧ (0 ≤ z ∧ z ≤ 12) ∧ (z ≠ 0 → T.length ≤ 99000) := by
    unfold txR
    split
    · exact ⟨[],4,rfl,by omega,fun _=>Nat.zero_le _⟩
    · split
      · split
        · exact ⟨_,0,rfl,by omega,fun h=>absurd rfl h⟩
        · exact ⟨[],8,rfl,by omega,fun _=>Nat.zero_le _⟩
      · exact ⟨[],8,rfl,by omega,fun _=>Nat.zero_le _⟩
  obtain ⟨T,z,hT,hz,-⟩ := hT
  rw [hT] at e9
  by_cases z0 : z = 0
  · subst z0
    obtain ⟨-,hF,hre,rfl⟩ := ahK hT
    have hTl : (pT m M n ++ ep en ++ [10]).length ≤ 99000 := by
      have q1 := a0x n hF
      have q2 := zF en
      simp only [List.length_append,List.length_cons,List.length_nil]; omega
    have hsp := a8n hF hre
    generalize hTT : pT m M n ++ ep en ++ [10] = T at *
    have hll : ∀ l ∈ (yB M n).map (aM m) ++ [ep en],l.length ≤ 4000 := fun l hl=>by
      rcases List.mem_append.1 hl with hl | hl
      · obtain ⟨y,hy,rfl⟩ := List.mem_map.1 hl
        obtain ⟨i,hi,rfl⟩ := List.mem_map.1 hy
        have := ni (hF i (List.mem_range.1 hi)); omega
      · rw [List.mem_singleton.1 hl]; have := zF en; omega
    have r1 := agJ (rd7 h hn hnc) ed38 h hTl hsp.symm hll
    rw [acI hn hnc (fun j hj=>⟨hM j hj,hF j hj⟩) hre (by omega)] at r1
    obtain ⟨a1,hc,⟨k1,k2⟩,k3⟩ := r1
    obtain ⟨a',h',⟨T1,T2,T3,T4,T5,T6⟩,e11⟩ := a1J h k1 k3 k2 H (by omega)
    obtain ⟨p,hq,ls,last,s1,s2,s3,s4⟩ := auI hTl
    have hls : ls = (yB M n).map (aM m) ++ [ep en] ∧ last = [] := by
      have := s3.trans hsp
      have h1 := List.append_inj' this rfl
      exact ⟨h1.1,by injection h1.2⟩
    obtain ⟨rfl,rfl⟩ := hls
    have hN : h'.nx < 16777215 := by omega
    have hpr' : h'.pr = [] := T4.trans hpr
    have g0 : h'.at 0 = Bx q [m.ty,m.tx,m.fs] := by rw [T5 0 (by omega),h0]
    have g1 : h'.at 1 = Bx true [B8 en.out,I en.fl,I en.us] := by rw [T5 1 (by omega),h1]
    generalize hr : jG _ = r
    simp only [cW.av,En.av,En.l] at hr e9 ht e11
    simp +contextual (maxSteps := 2000000) (disch := (first | omega | (simp only [Y2,List.length_drop,List.length_take] <;> omega) | ((repeat' (first | exact aw | apply aq | apply ay | refine ax (by omega) ?_ ?_)) <;> (simp (disch := (first | omega | (simp only [Y5] <;> omega))) only [Y4,nd @aD,nd @aE,aj,Nat.reduceAdd,Nat.reduceEqDiff,reduceIte, *])) | (simp (disch := omega) only [Y4,nd @aD,nd @aE,aj,Nat.reduceAdd,Nat.reduceEqDiff,reduceIte]; done) | assumption | exact bL _ | exact bY _ | exact bX _ | exact bZ _ | exact True.intro | rfl)) only [Y1,Y3,oB,Int.reduceLT,Int.reduceLE,Int.reduceEq,Int.reduceNeg,Int.reduceToNat,Nat.reduceAdd,Nat.reduceEqDiff,reduceIte,Nat.reduceLeDiff,Nat.reduceSub,h0,h1,hpr,hpr',e9,e11] at hr
    generalize hJ : ((h'.add (Bx _ [B8 0,I 0,I 0])).eK h'.nx (Bx _ [B8 en.out,I en.fl,I en.us])) = J at hr
    have hJn : J.nx = h'.nx + 1 := by subst hJ; rfl
    have hJp : J.pr = [] := by subst hJ; exact hpr'
    have hJl : ∀ c,c < h'.nx → J.at c = h'.at c := fun c hc=>by subst hJ; rw [kL hN (by omega),fE hN (by omega)]
    have hJe : ∃ q,J.at h'.nx = Bx q [B8 en.out,I en.fl,I en.us] := by subst hJ; exact ⟨_,jh hN⟩
    obtain ⟨q5,hJe⟩ := hJe
    clear hJ
    obtain ⟨p',h2,⟨U1,U2,U3,U4,U5,U6⟩,e39⟩ : ∃ p' h2,ab5 1 J p' h2 (List.map S (List.map (aM m) (yB M n) ++ [ep en])) ∧ ∀ k,aH mem false r39 (.nd (S T) .lf .lf) J k = k (.bu (.nd p' .lf (aA [.bool (decide (([] : List UInt8) = []))])) 2) h2 :=
      wg dx (fk (.nd (c8 T) .lf)) (a9r (l := [_]) fun v hv=>by rw [List.mem_singleton.1 hv]; exact a3z _) s1 s2 (by omega) s4
    have hKp : h2.pr = [] := U4.trans hJp
    have w0 : h2.at 0 = Bx q [m.ty,m.tx,m.fs] := by rw [U5 0 (by omega),hJl 0 (by omega),g0]
    have w1 : h2.at 1 = Bx true [B8 en.out,I en.fl,I en.us] := by rw [U5 1 (by omega),hJl 1 (by omega),g1]
    have w2 : h2.at h'.nx = Bx q5 [B8 en.out,I en.fl,I en.us] := by rw [U5 _ (by omega),hJe]
    have T1' : my 7 h2 a' ((yB M n).map Mk.av) := T1.mono (fun c hc=>by rw [U5 c (by omega),hJl c hc]) (by omega)
    have e15 := fun k=>c15v (k := k) T1' (by rw [sw]; exact hsl) (fun i hi=>by
      have := hR i (by rw [sw] at hi; exact hi)
      have e := ajN (M := M) (n := n) (i := i) (by rw [sw] at hi; exact hi)
      show t.at i = .agg (aA ((yB M n).getD i fp).l) 7 ∧ (((yB M n).getD i fp).l).length = 7
      rw [e]; exact this) (by omega) (by rw [sw]; omega)
    have hLl : (List.map S (List.map (aM m) (yB M n) ++ [ep en])).length = n + 1 := by
      rw [List.length_map,List.length_append,List.length_map,sw]; rfl
    replace e39 : ∀ k,aH mem false r39 (.nd (S T) .lf .lf) J k = k (.bu (.nd p' .lf (.nd (.bool true) .lf .lf)) 2) h2 := e39
    have hp' : ∃ c,p' = .ms c 0 (n + 1) 1 := by
      rcases U1 with ⟨-,e⟩ | ⟨c,_,e,-⟩
      · rw [e] at hLl; exact absurd hLl (by simp)
      · exact ⟨c,by rw [e,hLl]⟩
    obtain ⟨c,rfl⟩ := hp'
    have ht2 := fun x7=>anB (a := a) (x2 := en.av) (x5 := x5) (x7 := x7) (x10 := x10) (x11 := x11) h hm hn hnc (s := s) (H := h2) hs w0 (by omega) hKp
    have hsm := hsl.small
    have hcast : ((n + 1 : Nat) : Int) = (n : Int) + 1 := by omega
    simp only [cW.av,En.av,En.l] at ht2
    rw [e39] at hr
    simp +contextual (maxSteps := 2000000) (disch := (first | omega | (simp only [Y2,List.length_drop,List.length_take] <;> omega) | ((repeat' (first | exact aw | apply aq | apply ay | refine ax (by omega) ?_ ?_)) <;> (simp (disch := (first | omega | (simp only [Y5] <;> omega))) only [Y4,nd @aD,nd @aE,aj,Nat.reduceAdd,Nat.reduceEqDiff,reduceIte, *])) | (simp (disch := omega) only [Y4,nd @aD,nd @aE,aj,Nat.reduceAdd,Nat.reduceEqDiff,reduceIte]; done) | assumption | exact bL _ | exact bY _ | exact bX _ | exact bZ _ | exact True.intro | rfl)) only [Y1,Y3,Int.reduceLT,Int.reduceLE,Int.reduceEq,Int.reduceNeg,Int.reduceToNat,Nat.reduceAdd,Nat.reduceEqDiff,reduceIte,Nat.reduceLeDiff,Nat.reduceSub,w0,w1,w2,hKp,e15,acb,hsl.len,hcast,oC] at hr
    rw [← hr]; exact ht2 _
  · generalize hr : jG _ = r
    have hz0 : (z = 0) = False := eq_false z0
    simp only [cW.av,En.av,En.l] at hr e9 ht
    simp +contextual (maxSteps := 2000000) (disch := (first | omega | (simp only [Y2,List.length_drop,List.length_take] <;> omega) | ((repeat' (first | exact aw | apply aq | apply ay | refine ax (by omega) ?_ ?_)) <;> (simp (disch := (first | omega | (simp only [Y5] <;> omega))) only [Y4,nd @aD,nd @aE,aj,Nat.reduceAdd,Nat.reduceEqDiff,reduceIte, *])) | (simp (disch := omega) only [Y4,nd @aD,nd @aE,aj,Nat.reduceAdd,Nat.reduceEqDiff,reduceIte]; done) | assumption | exact bL _ | exact bY _ | exact bX _ | exact bZ _ | exact True.intro | rfl)) only [Y1,Y3,oB,Int.reduceLT,Int.reduceLE,Int.reduceEq,Int.reduceNeg,Int.reduceToNat,Nat.reduceAdd,Nat.reduceEqDiff,reduceIte,Nat.reduceLeDiff,Nat.reduceSub,h0,h1,hpr,e9,hz0] at hr
    rw [← hr]; exact ht _
end Go.Proofs.YtpiokjcbadfalaaGreatDoor.Tz
namespace Go.Proofs.YtpiokjcbadfalaaGreatDoor.Tz
attribute [local irreducible] mem
set_option linter.unusedSimpArgs false
attribute [local congr] dh aP bB dm dj bj dp cj aW cx cy cA bf bC bD aX eN cq cg cu bh bg aQ aS eO bF cn bx bH bE bz cz ck bd bI di bA bG bJ cP ek
set_option maxHeartbeats 4000000
theorem aim (al : eJ (a5j.f .lf .empty) = some (.bool true)) {m : cW} (h : cB m) (hm : th m.ty = true ∧ th m.tx = true ∧ th m.fs = true) {M : Nat → Mk} {n : Nat} {a : AV} {t : Row} (ha : iN a = some (t,0,n)) {en : En} {s : List UInt8} (hs : mC 7 a n t) (hR : dF 7 n t fun i=>(M i).l) (hM : ∀ i,i < n → (M i).Ok) (he : en.Ok) (hsl : s.length < 9223372036854775808) :
    eJ (aa4.f (.nd m.av .lf (.nd a .lf (.nd en.av .lf (.nd (S s) .lf .lf)))) .empty) = some (.bool true) := by
  obtain ⟨g,hg,e4⟩ := r4_ok h hs
  have zl2 : ∀ hp k,zl (nB mem 24) (.nd m.av .lf (.nd a .lf .lf)) hp k = k (.nd m.av .lf (.nd a .lf .lf)) hp := cW.pb h fun hp k=>by
    rw [yy,hs.still 23]; rfl
  have c4 := fun hp k=>pf zl2 (fun _ _ _ _=>rfl) e4 hp k
  have cal := fun hp k=>pf (l := .lf) (fun _ _=>rfl) (fun _ _ _ _=>rfl) al hp k
  have hsm := hs.small
  have hlen := hs.len
  simp only [cW.av,Mk.av,Mk.l,En.av,En.l] at c4 ⊢
  generalize hr : aa4.f _ _ = r
  simp +contextual (maxSteps := 2000000) (disch := (first | omega | (simp only [Y2,List.length_drop,List.length_take] <;> omega) | ((repeat' (first | exact aw | apply aq | apply ay | refine ax (by omega) ?_ ?_)) <;> (simp (disch := (first | omega | (simp only [Y5] <;> omega))) only [Y4,nd @aD,nd @aE,aj,Nat.reduceAdd,Nat.reduceEqDiff,reduceIte, *])) | (simp (disch := omega) only [Y4,nd @aD,nd @aE,aj,Nat.reduceAdd,Nat.reduceEqDiff,reduceIte]; done) | assumption | exact bL _ | exact bY _ | exact bX _ | exact bZ _ | exact True.intro | rfl)) only [Y1,Y3,t1003,Int.reduceLT,Int.reduceLE,Int.reduceEq,Int.reduceNeg,Int.reduceToNat,Nat.reduceAdd,Nat.reduceEqDiff,reduceIte,Nat.reduceLeDiff,Nat.reduceSub,cal,c4] at hr
  generalize hH : ((Hp.empty.add (Bx (iw [m.ty,m.tx,m.fs]) [m.ty,m.tx,m.fs])).add (Bx (iw [B8 en.out,I en.fl,I en.us]) [B8 en.out,I en.fl,I en.us])) = H at hr
  have h0 : H.at 0 = Bx (iw [m.ty,m.tx,m.fs]) [m.ty,m.tx,m.fs] := by subst hH; rw [fE (show 1 < 16777215 by decide) (show 0 ≠ 1 by decide),iO (show 0 < 16777215 by decide) rfl]
  have h1 : H.at 1 = Bx true [B8 en.out,I en.fl,I en.us] := by subst hH; exact iO (show 1 < 16777215 by decide) rfl
  have h3 : H.nx = 2 := by subst hH; rfl
  have h4 : H.pr = [] := by subst hH; rfl
  clear hH
  cases g with
  | true=>
    simp +contextual (maxSteps := 2000000) (disch := (first | omega | (simp only [Y2,List.length_drop,List.length_take] <;> omega) | ((repeat' (first | exact aw | apply aq | apply ay | refine ax (by omega) ?_ ?_)) <;> (simp (disch := (first | omega | (simp only [Y5] <;> omega))) only [Y4,nd @aD,nd @aE,aj,Nat.reduceAdd,Nat.reduceEqDiff,reduceIte, *])) | (simp (disch := omega) only [Y4,nd @aD,nd @aE,aj,Nat.reduceAdd,Nat.reduceEqDiff,reduceIte]; done) | assumption | exact bL _ | exact bY _ | exact bX _ | exact bZ _ | exact True.intro | rfl)) only [Y1,Y3,Int.reduceLT,Int.reduceLE,Int.reduceEq,Int.reduceNeg,Int.reduceToNat,Nat.reduceAdd,Nat.reduceEqDiff,reduceIte,Nat.reduceLeDiff,Nat.reduceSub] at hr
    rw [sN] at hr
    rw [← hr]; rfl
  | false=>
    obtain ⟨⟨hn,hall⟩,hnn⟩ := hg rfl
    by_cases k0 : n ≤ 100
    · by_cases k2 : s.length ≤ 4000
      · have a1 : ((100 : Int) < (n : Int)) = False := eq_false (by omega)
        have a2 : ((4000 : Int) < (s.length : Int)) = False := eq_false (by omega)
        obtain ⟨x7',hp',⟨w1,w2,w3,w4,w5⟩,e⟩ := al9 (x2 := en.av) (x3 := S s) (x10 := .uu) (x11 := .uu) h hn (fun i hi=>(hall i hi).2) hs hR hM k0 n 0 1000000 .uu H (by omega) (Nat.zero_le _) (by omega) h4 (by omega) (by omega) h0 h1
        have hmid := mid3 (x5 := I n) (x7 := x7') (x10 := .uu) (x11 := .uu) h hm hn (fun i hi=>(hall i hi).2) ha hs hR hM k0 he k2 w4 w5 (by omega) w1
        simp only [cW.av,En.av,En.l] at e hmid
        simp +contextual (maxSteps := 2000000) (disch := (first | omega | (simp only [Y2,List.length_drop,List.length_take] <;> omega) | ((repeat' (first | exact aw | apply aq | apply ay | refine ax (by omega) ?_ ?_)) <;> (simp (disch := (first | omega | (simp only [Y5] <;> omega))) only [Y4,nd @aD,nd @aE,aj,Nat.reduceAdd,Nat.reduceEqDiff,reduceIte, *])) | (simp (disch := omega) only [Y4,nd @aD,nd @aE,aj,Nat.reduceAdd,Nat.reduceEqDiff,reduceIte]; done) | assumption | exact bL _ | exact bY _ | exact bX _ | exact bZ _ | exact True.intro | rfl)) only [Y1,Y3,yO,Int.reduceLT,Int.reduceLE,Int.reduceEq,Int.reduceNeg,Int.reduceToNat,Nat.reduceAdd,Nat.reduceEqDiff,reduceIte,Nat.reduceLeDiff,Nat.reduceSub,hs.len] at hr
        simp only [a1,a2,if_true,if_false] at hr
        rw [vt] at hr
        have e' := (congrArg jG e).symm.trans hr
        rw [← e']; exact hmid
      · have a1 : ((100 : Int) < (n : Int)) = False := eq_false (by omega)
        have a2 : ((4000 : Int) < (s.length : Int)) = True := eq_true (by omega)
        simp +contextual (maxSteps := 2000000) (disch := (first | omega | (simp only [Y2,List.length_drop,List.length_take] <;> omega) | ((repeat' (first | exact aw | apply aq | apply ay | refine ax (by omega) ?_ ?_)) <;> (simp (disch := (first | omega | (simp only [Y5] <;> omega))) only [Y4,nd @aD,nd @aE,aj,Nat.reduceAdd,Nat.reduceEqDiff,reduceIte, *])) | (simp (disch := omega) only [Y4,nd @aD,nd @aE,aj,Nat.reduceAdd,Nat.reduceEqDiff,reduceIte]; done) | assumption | exact bL _ | exact bY _ | exact bX _ | exact bZ _ | exact True.intro | rfl)) only [Y1,Y3,Int.reduceLT,Int.reduceLE,Int.reduceEq,Int.reduceNeg,Int.reduceToNat,Nat.reduceAdd,Nat.reduceEqDiff,reduceIte,Nat.reduceLeDiff,Nat.reduceSub,hs.len] at hr
        simp only [a1,a2,if_true,if_false] at hr
        rw [sN] at hr
        rw [← hr]; rfl
    · have a1 : ((100 : Int) < (n : Int)) = True := eq_true (by omega)
      simp +contextual (maxSteps := 2000000) (disch := (first | omega | (simp only [Y2,List.length_drop,List.length_take] <;> omega) | ((repeat' (first | exact aw | apply aq | apply ay | refine ax (by omega) ?_ ?_)) <;> (simp (disch := (first | omega | (simp only [Y5] <;> omega))) only [Y4,nd @aD,nd @aE,aj,Nat.reduceAdd,Nat.reduceEqDiff,reduceIte, *])) | (simp (disch := omega) only [Y4,nd @aD,nd @aE,aj,Nat.reduceAdd,Nat.reduceEqDiff,reduceIte]; done) | assumption | exact bL _ | exact bY _ | exact bX _ | exact bZ _ | exact True.intro | rfl)) only [Y1,Y3,Int.reduceLT,Int.reduceLE,Int.reduceEq,Int.reduceNeg,Int.reduceToNat,Nat.reduceAdd,Nat.reduceEqDiff,reduceIte,Nat.reduceLeDiff,Nat.reduceSub,hs.len] at hr
      simp only [a1,if_true,if_false] at hr
      rw [sN] at hr
      rw [← hr]; rfl
end Go.Proofs.YtpiokjcbadfalaaGreatDoor.Tz
namespace Go.Proofs.YtpiokjcbadfalaaGreatDoor.Tz
theorem a8e {z : Nat} {s : AV} {n : Nat} {t : Row} (h : SlV z s n t) : th s = true := by
  rcases h.form with rfl | ⟨rfl,_,_⟩
  · rfl
  · show decide (8 = 6 ∨ 8 = 8) = true
    decide
theorem acB {s : AV} {n : Nat} {t : Row} (h : SlV 7 s n t) : iN s = some (t,0,n) := by
  rcases h.form with rfl | ⟨rfl,rfl,rfl⟩
  · show (if 7 = 7 then some (t,0,n) else none) = _
    rw [if_pos rfl]
  · show (if 8 = 6 ∨ 8 = 8 then some (Tr.lf,0,0) else none) = _
    rw [if_pos (.inr rfl)]
noncomputable def ImA.img (x : ImA) : cW := { n := x.fsN,nm := fun i=>(x.fsF i).nm,pa := fun i=>(x.fsF i).pa,re := fun i=>(x.fsF i).re,sl := fun i=>(x.fsF i).sl,cd := fun i=>(x.fsF i).cd,sz := fun i=>(x.fsF i).sz,lv := fun i=>(x.fsF i).lv,ns := fun i=>(x.fsF i).slN,nc := fun i=>(x.fsF i).cdN,sn := fun i j=>((x.fsF i).th j).nm,st := fun i j=>I ((x.fsF i).th j).ty,op := fun i j=>((x.fsF i).cdF j).op,ia := fun i j=>((x.fsF i).cdF j).a,ib := fun i j=>((x.fsF i).cdF j).b,ic := fun i j=>((x.fsF i).cdF j).c,ty := x.ty,tx := x.tx,fs := x.fs,ft := x.fsT,ct := fun i=>(x.fsF i).cdT,lt := fun i=>(x.fsF i).slT }
theorem ImA.ok {x : ImA} (h : x.In) : cB x.img ∧ th x.ty = true ∧ th x.tx = true ∧ th x.fs = true := by
  obtain ⟨⟨n1,t1,h1⟩,⟨n2,t2,h2⟩,h3,h4,h5⟩ := h
  have fu := fun i hi=>(h5 i hi)
  refine ⟨{ fs := h3.ok,fr := h4,cd := fun i hi=>?_,cr := fun i hi=>?_,sl := fun i hi=>?_,sr := fun i hi=>?_,nm := fun i hi=>?_,sn := fun i j hi hj=>?_,op := fun i j hi hj=>?_,sz := fun i hi=>?_,ty := ⟨h1.ok.one,h1.ok.still⟩,tx := ⟨h2.ok.one,h2.ok.still⟩ },a8e h1,a8e h2,a8e h3⟩
  · obtain ⟨_,_,_,_,⟨g,_,_⟩,_⟩ := fu i hi; exact g.ok
  · obtain ⟨_,_,_,_,⟨_,g,_⟩,_⟩ := fu i hi; exact g
  · obtain ⟨_,_,_,⟨g,_,_⟩,_⟩ := fu i hi; exact g.ok
  · obtain ⟨_,_,_,⟨_,g,_⟩,_⟩ := fu i hi; exact g
  · obtain ⟨g,_⟩ := fu i hi; exact g
  · obtain ⟨_,_,_,⟨_,_,g⟩,_⟩ := fu i hi; exact (g j hj).1
  · obtain ⟨_,_,_,_,⟨_,_,g⟩,_⟩ := fu i hi; exact (g j hj).1
  · obtain ⟨_,_,_,_,_,⟨_,_,g⟩,⟨_,_,g2⟩⟩ := fu i hi; exact ⟨g.ok.one,g2.ok.one⟩
def MaA.mk' (x : MaA) : Mk := ⟨x.step,x.g,x.f,x.at_,x.op,x.fr,x.out⟩
theorem MaA.ok {x : MaA} (h : x.In) : x.mk'.Ok := by
  obtain ⟨h1,h2,h3,h4,h5,h6,h7⟩ := h
  exact ⟨h1,h2,h3,h4,h5,h6,h7⟩
def EdA.en (x : EdA) : En := ⟨x.out,x.fl,x.us⟩
theorem EdA.ok {x : EdA} (h : x.In) : x.en.Ok := by
  obtain ⟨h1,h2,h3⟩ := h
  exact ⟨h1,h2,h3⟩
section
variable {W : World}
theorem vM {l : List AV} {cs : Array Value} (h : td W l cs.toList) : ai W (fun B=>B < W.heap.size) dI (.agg (aA l) l.length) (.agg cs) := by
  obtain ⟨h1,h2⟩ := h
  have hs : cs.size = l.length := by rw [h1]; rfl
  refine .agg (fun i=>cs.getD i .nilIface) hs (fun i hi=>?_) (fun i hi=>?_) fun i hi=>?_
  · rw [Array.getD_eq_getD_getElem?,Array.getElem?_eq_getElem (by omega)]; rfl
  · have hi' : i < cs.size := by omega
    rw [Array.getD_eq_getD_getElem?,Array.getElem?_eq_getElem hi']
    exact (h2 i cs[i] (by rw [Array.getElem?_toList,Array.getElem?_eq_getElem hi'])).1
  · have hi' : i < cs.size := by omega
    rw [Array.getD_eq_getD_getElem?,Array.getElem?_eq_getElem hi',xB]
    exact (h2 i cs[i] (by rw [Array.getElem?_toList,Array.getElem?_eq_getElem hi'])).2
theorem a5q {a : AV} {v : Value} (h : td W [a] v.cells.toList) (hv : v.cells = #[v]) : ai W (fun B=>B < W.heap.size) dI a v := by
  rw [hv] at h
  exact (h.2 0 v rfl).2
end
theorem anP {w : World} {F : Nat → Prop} {μ : Mu} {a b c d : AV} {x y z u : Value} (h1 : ai w F μ a x) (h2 : ai w F μ b y) (h3 : ai w F μ c z) (h4 : ai w F μ d u) : kM w F μ (.nd a .lf (.nd b .lf (.nd c .lf (.nd d .lf .lf)))) #[x,y,z,u] :=
  ⟨rfl,fun i u hu=>by
    match i with
    | 0=>injection hu with hu; subst hu; exact h1
    | 1=>injection hu with hu; subst hu; exact h2
    | 2=>injection hu with hu; subst hu; exact h3
    | 3=>injection hu with hu; subst hu; exact h4
    | i + 4=>cases hu⟩
def asc (i : Nat) : Nat := if i = 32 ∨ (9 ≤ i ∧ i ≤ 13) then 1 else 0
def GW (ga mx es : Nat) (w : World) : Prop := (∀ i,i < 256 → w.cell? ⟨ga,i,none⟩ = some (.int .u8 (asc i))) ∧ (∃ m,w.cell? ⟨mx,0,none⟩ = some (.int .i64 m)) ∧ ∃ ev,w.cell? ⟨es,0,none⟩ = some ev ∧ (ev = .nilIface ∨ ∃ te pe,ev = .iface te pe)
theorem GW.keep {ga mx es nG : Nat} (h0 : ga < nG) (h1 : mx < nG) (h2 : es < nG) {w w' : World} (h : GW ga mx es w) (hk : ∀ B,B < nG → w'.heap[B]? = w.heap[B]?) : GW ga mx es w' := by
  have e : ∀ B o,B < nG → w'.cell? ⟨B,o,none⟩ = w.cell? ⟨B,o,none⟩ := fun B o hB=>by simp only [World.cell?,hk B hB]
  refine ⟨fun i hi=>(e ga i h0).trans (h.1 i hi), ?_, ?_⟩
  · obtain ⟨m,hm⟩ := h.2.1
    exact ⟨m,(e mx 0 h1).trans hm⟩
  · obtain ⟨ev,hm,hx⟩ := h.2.2
    exact ⟨ev,(e es 0 h2).trans hm,hx⟩
theorem aik : (List.range 256).all (fun i=>wC (.nd (cellAt 1 vZ i) .lf .lf) (.nd (.int 4 (asc i)) .lf .lf)) = true := by kernel_rfl
theorem anQ (i : Nat) (h : i < 256) : cellAt 1 vZ i = .int 4 (asc i) := by
  have := List.all_eq_true.1 aik i (List.mem_range.2 h)
  have e := a3o _ _ this
  injection e
theorem aij {P : Program} {vs : Vs} {ga mx es : Nat} (hG : vs.G = GW ga mx es) (hn : ga < vs.nG) {w : World} {F : Nat → Prop} {μ : Mu} (h : Env.Glo ⟨P,vs⟩ w F) : ai w F μ (.x 1 vZ 0 256 1) (.pointer (some ⟨ga,0,none⟩)) := by
  obtain ⟨h1,h2⟩ := h
  have h1' : vs.G w := h1
  rw [hG] at h1'
  refine .pg (fun i=>.int .u8 (asc i)) (h2 ga hn) (fun i hi=>by simpa using h1'.1 i hi) (fun _ _=>rfl) fun i hi=>?_
  rw [Nat.zero_add,anQ i hi]
  have e : (Value.int .u8 (asc i)) = .int (kd 4) ((kd 4).wrap (asc i)) := by
    unfold asc; split <;> rfl
  rw [e]
  exact .int (by unfold asc; split <;> decide)
theorem ary {vs : Vs} {mx es : Nat} (hG : vs.G = GW 1 mx es) (hn : 1 < vs.nG) {C : Cx} (hg : C.gl = gls) : vT C vs := fun p hp=>by
  rw [hg] at hp
  have e : p = (1,.x 1 vZ 0 256 1) := by
    rcases List.mem_cons.1 hp with h | h
    · exact h
    · cases h
  subst e
  exact ⟨⟨_,_,_,_,rfl⟩,fun w F μ h=>aij hG hn h⟩
theorem dfq {o : Option Dfd} {q : Dfd} {n : Nat} (e : o.map Dfd.g = some n) (h : o = some q) : q.g = n := by subst h; simpa using e
end Go.Proofs.YtpiokjcbadfalaaGreatDoor.Tz
