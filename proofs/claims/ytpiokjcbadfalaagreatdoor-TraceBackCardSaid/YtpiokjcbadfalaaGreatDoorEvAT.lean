import Derived.Test.YtpiokjcbadfalaaGreatDoorEvAP
import Derived.Test.YtpiokjcbadfalaaGreatDoorEvAQ
import Derived.Test.YtpiokjcbadfalaaGreatDoorEvAR
import Derived.Test.YtpiokjcbadfalaaGreatDoorEvAS
namespace Go.Proofs.YtpiokjcbadfalaaGreatDoor.Ev
attribute [local irreducible] mem
def Fz (z : Nat) (a : AV) (l : List AV) : Prop := (a = .x 8 .lf 0 0 0 ∧ l = []) ∨ ∃ t,a = .vs t 0 l.length z ∧ ∀ j,j < l.length → t.at j = l.getD j .uu
def Elw (z : Nat) (h : Hp) (a : AV) (l : List AV) : Prop := (a = .x 8 .lf 0 0 0 ∧ l = []) ∨ ∃ c t w,a = .ms c 0 l.length z ∧ c < h.nx ∧ h.at c = .row w true z (l.length * z) t ∧ ∀ j,j < l.length → t.at j = l.getD j .uu
theorem yy {z : ZK} {v : AV} {l : Row} {hp : Hp} {k : Row → Hp → ab} : zl z (.nd v .lf l) hp k = z.f hp v fun v hp=>zl z l hp fun r hp=>k (.nd v .lf r) hp := rfl
theorem anE {z : ZK} {hp : Hp} {k : Row → Hp → ab} : zl z .lf hp k = k .lf hp := rfl
section
variable {M : Mem} (ok : mA M)
include ok
theorem a0g : ∀ (l : List AV) (t : Row) (o : Nat),o + l.length < 16777215 → ∃ t',(∀ j,t'.at j = if o ≤ j ∧ j < o + l.length then l.getD (j - o) .uu else t.at j) ∧ ∀ k,(∀ v ∈ l,One v) → (nR M 1 l.length).f (aA l) t o k = k t'
  | [],t,o,_=>⟨t,fun j=>by rw [if_neg (by simp only [List.length_nil]; omega)],fun _ _=>rfl⟩
  | v :: l,t,o,h=>by
    simp only [List.length_cons] at h
    obtain ⟨t',h1,h2⟩ := a0g l (dz .uu t o v) (o + 1) (by omega)
    refine ⟨t',fun j=>?_,fun k hv=>?_⟩
    · rw [h1,vN (by omega)]
      simp only [List.length_cons]
      by_cases hj : o + 1 ≤ j ∧ j < o + 1 + l.length
      · rw [if_pos hj,if_pos (by omega),show j - o = (j - (o + 1)) + 1 by omega]; rfl
      · rw [if_neg hj]
        by_cases h0 : j = o
        · rw [if_pos h0,if_pos (by omega),h0,Nat.sub_self]; rfl
        · rw [if_neg h0,if_neg (by omega)]
    · show wrC M 1 t o v (fun t=>(nR M 1 l.length).f (aA l) t (Nat.succ o) k) = _
      rw [show wrC M 1 t o v (fun t=>(nR M 1 l.length).f (aA l) t (Nat.succ o) k) = M.rs.f t o v (fun t=>(nR M 1 l.length).f (aA l) t (Nat.succ o) k) from rfl,ok.rs (by omega)]
      exact h2 k fun w hw=>hv w (by simp [hw])
theorem ac3 {rw' fl : Bool} {s o : Nat} {t : Row} {k : AV → ab} (h : o + 1 ≤ s ∧ o < 16777215) : ldC M (.row rw' fl 1 s t) o k = k (t.at o) := by
  show au (Nat.ble (o + 1) s) (M.rg.f t o k) = _
  rw [aG (dR h.1),ok.rg h.2]
theorem zJ {z m : Nat} {h : Hp} {a : AV} {l : List AV} (ha : Elw z h a l) (hnx : h.nx ≤ 1000000) : ∃ a' h',Fz z a' l ∧ h'.nx = h.nx ∧ (∀ z' b m,Elw z' h b m → Elw z' h' b m) ∧ ∀ k,(nB M (m + 1)).f h a k = k a' h' := by
  rcases ha with ⟨rfl,rfl⟩ | ⟨c,t,w,rfl,hcl,hct,ht⟩
  · exact ⟨_,h,.inl ⟨rfl,rfl⟩,rfl,fun _ _ _ h=>h,fun _=>rfl⟩
  · refine ⟨.vs t 0 l.length z,h.eK c (.row false true z (l.length * z) t),.inr ⟨t,rfl,ht⟩,rfl,fun z' b m hb=>?_,fun k=>?_⟩
    · rcases hb with ⟨rfl,rfl⟩ | ⟨c2,t2,w2,rfl,hcl2,hct2,ht2⟩
      · exact .inl ⟨rfl,rfl⟩
      · by_cases he : c2 = c
        · subst he
          rw [hct] at hct2
          injection hct2 with e1 e2 e3 e4 e5
          refine .inr ⟨c2,t2,false,rfl,hcl2, ?_,ht2⟩
          rw [dW (by omega),if_pos rfl,e4,e3,e5]
        · refine .inr ⟨c2,t2,w2,rfl,hcl2, ?_,ht2⟩
          rw [dW (by omega),if_neg he,hct2]
    · show h.use M c (0 + l.length * z) (fun _ fl x s t=>au (Nat.beq x z) (au (Nat.beq (0 % z) 0) (h.put M c (.row false fl z s t) fun hp=>when fl (aL (0 / z) fun e=>k (.vs t e l.length z) hp) _))) = _
      rw [yo ok (by omega) hct (by omega),aG (cb z),Nat.zero_mod,aG (cb 0),gx ok (by omega),cK rfl,az,Nat.zero_div]
end
theorem my.w {z : Nat} {h : Hp} {a : AV} {l : List AV} (ha : my z h a l) : Elw z h a l := by
  rcases ha with ⟨h1,h2⟩ | ⟨c,t,h1,h2,h3,h4⟩
  · exact .inl ⟨h1,h2⟩
  · exact .inr ⟨c,t,true,h1,h2,h3,h4⟩
theorem ss {rw' fl : Bool} {s o : Nat} {t : Row} {k : AV → ab} (h : o + 1 ≤ s ∧ o < 16777215) : ldC mem (.row rw' fl 1 s t) o k = k (t.at o) := ac3 dx h
theorem wM {z c n y : Nat} {i : Int} {k : AV → ab} (h : (0 ≤ i ∧ i < n) ∧ n < 9223372036854775808) : indexAddr z (.ms c 0 n y) (I i) k = k (.ptr c (i.toNat * z)) := by
  show iG (I i) n (fun j=>aL (0 + j * z) fun p=>k (.ptr c p)) = _
  rw [a43 h.1.1 h.1.2 h.2,az,Nat.zero_add]
theorem aht {z c n : Nat} {i : Int} {k : AV → ab} (h : (0 ≤ i ∧ i ≤ n) ∧ n < 9223372036854775808) : eS z (.ms c 0 n z) .none (.some (I i)) .none k = k (.ms c 0 i.toNat z) := by
  show au (Nat.beq z z) (gL (I i) n fun h=>when false (k (.x 6 .lf 0 0 0)) (aL (0 + 0 * z) fun o=>aL (h - 0) fun n=>k (.ms c o n z))) = _
  rw [aG (cb z),zn h.1.1 h.1.2 h.2,fA rfl,az,az,Nat.zero_mul]; rfl
theorem fL (c : UInt8) : ∀ l,1 ≤ (aO c l).length
  | []=>Nat.le_refl _
  | b :: l=>by
    have ih := fL c l
    show 1 ≤ (Bool.rec (motive := fun _=>List (List UInt8)) (List.rec (motive := fun _=>List (List UInt8)) [[b]] (fun p r _=>(b :: p) :: r) (aO c l)) ([] :: aO c l) (Nat.beq b.toNat c.toNat)).length
    cases Nat.beq b.toNat c.toNat
    · cases h : aO c l with
      | nil=>rw [h] at ih; exact absurd ih (by decide)
      | cons p r=>exact Nat.succ_le_succ (Nat.zero_le _)
    · exact Nat.succ_le_succ (Nat.zero_le _)
theorem ud (c : UInt8) : ∀ l,(aO c l).length ≤ l.length + 1
  | []=>Nat.le_refl _
  | b :: l=>by
    have ih := ud c l
    show (Bool.rec (motive := fun _=>List (List UInt8)) (List.rec (motive := fun _=>List (List UInt8)) [[b]] (fun p r _=>(b :: p) :: r) (aO c l)) ([] :: aO c l) (Nat.beq b.toNat c.toNat)).length ≤ _
    cases Nat.beq b.toNat c.toNat
    · cases h : aO c l with
      | nil=>simp
      | cons p r=>rw [h] at ih; simp only [List.length_cons] at ih ⊢; omega
    · simp only [List.length_cons]; omega
section
variable {M : Mem} (ok : mA M)
include ok
theorem ako (ps : List (List UInt8)) (h : ps.length ≤ 1000000) : ∃ h,my 1 h (.ms 0 0 ps.length 1) (ps.map S) ∧ h.nx = 1 ∧ (nR M 1 ps.length).f (aA (ps.map S)) .lf 0 (fun t=>(br M).f .empty (.row true true 1 ps.length t) fun id hp=>.val (.ms id 0 ps.length 1) hp) = .val (.ms 0 0 ps.length 1) h := by
  obtain ⟨t',h1,h2⟩ := a0g ok (ps.map S) .lf 0 (by rw [List.length_map]; omega)
  rw [List.length_map] at h1 h2
  refine ⟨Hp.empty.add (.row true true 1 ps.length t'),.inr ⟨0,t',by rw [List.length_map],Nat.one_pos, ?_,fun j hj=>?_⟩,rfl, ?_⟩
  · rw [iO (show 0 < 16777215 by decide) rfl,List.length_map,Nat.mul_one]
  · rw [List.length_map] at hj
    rw [h1,if_pos (by omega)]; rfl
  · rw [h2 _ fun v hv=>by
      obtain ⟨w,-,rfl⟩ := List.mem_map.1 hv
      exact True.intro]
    rw [iS ok (show 0 < 16777215 by decide)]
end
theorem uc {s : List UInt8} {c : UInt8} (hs : s.length ≤ 100000) : ∃ h,my 1 h (.ms 0 0 (aO c s).length 1) ((aO c s).map S) ∧ h.nx = 1 ∧ y8.f (.nd (S s) .lf (.nd (S [c]) .lf .lf)) .empty = .val (.ms 0 0 (aO c s).length 1) h := by
  obtain ⟨h,h1,h2,h3⟩ := ako dx (aO c s) (by have := ud c s; omega)
  refine ⟨h,h1,h2,Eq.trans ?_ h3⟩
  have e1 : yj s.length (aR s) = s := fM s
  have e2 : (aR [c]).toUInt8 = c := by
    have : aR [c] = c.toNat := by simp [aR]
    rw [this]; exact UInt8.ofNat_toNat
  show au (Nat.beq 1 1) (au (Nat.ble s.length 4294967280) ((fun ps : List (List UInt8)=>(nR mem 1 ps.length).f (aA (ps.map S)) .lf 0 (fun t=>(br mem).f .empty (.row true true 1 ps.length t) fun id hp=>.val (.ms id 0 ps.length 1) hp)) (aO (aR [c]).toUInt8 (yj s.length (aR s))))) = _
  rw [e1,e2,aG (cb 1),aG (dR (by omega))]
end Go.Proofs.YtpiokjcbadfalaaGreatDoor.Ev
namespace Go.Proofs.YtpiokjcbadfalaaGreatDoor.Ev
theorem ada {M : Mem} (ok : mA M) {h : Hp} {n i : Nat} {l : List AV} (hn : n = l.length) (h2 : 2 ≤ l.length) (hb : h.rb + i < 16777215) (k : AV → Hp → ab) : dU M (jL M i) (.agg (aA l) n) n n h k = k (.ptr (h.rb + i) 0) (h.eK (h.rb + i) (Bx (iw l) l)) := by
  subst hn
  show when (Nat.beq l.length 1) _ (au (Nat.beq l.length l.length) (eR (aA l) fun p=>when (Nat.beq l.length l.length) ((jL M i).f h (.row true p l.length l.length (.nd (.agg (aA l) l.length) .lf .lf)) fun id hp=>k (.ptr id 0) hp) _)) = _
  rw [fA (iD (by omega)),aG (cb _),fJ,cb,cK rfl,sA ok hb]
  rfl
theorem a0K {h : Hp} {n i : Nat} {l : List AV} (hn : n = l.length) (h2 : 2 ≤ l.length) (hb : h.rb + i < 16777215) (k : AV → Hp → ab) : dU mem (jL mem i) (.agg (aA l) n) n n h k = k (.ptr (h.rb + i) 0) (h.eK (h.rb + i) (Bx (iw l) l)) := ada dx hn h2 hb k
theorem my.mono {z : Nat} {h h' : Hp} {a : AV} {l : List AV} (ha : my z h a l) (h1 : ∀ c,c < h.nx → h'.at c = h.at c) (h2 : h.nx ≤ h'.nx) : my z h' a l := by
  rcases ha with ⟨e1,e2⟩ | ⟨c,t,e1,e2,e3,e4⟩
  · exact .inl ⟨e1,e2⟩
  · exact .inr ⟨c,t,e1,by omega,by rw [h1 c e2]; exact e3,e4⟩
theorem my.mono' {z : Nat} {h h' : Hp} {a : AV} {l : List AV} (ha : my z h a l) (h1 : ∀ c n,a = .ms c 0 n z → h'.at c = h.at c) (h2 : h.nx ≤ h'.nx) : my z h' a l := by
  rcases ha with ⟨e1,e2⟩ | ⟨c,t,e1,e2,e3,e4⟩
  · exact .inl ⟨e1,e2⟩
  · exact .inr ⟨c,t,e1,by omega,by rw [h1 c _ e1]; exact e3,e4⟩
end Go.Proofs.YtpiokjcbadfalaaGreatDoor.Ev
open Go Go.Proofs.YtpiokjcbadfalaaGreatDoor.Ev
namespace Go.Proofs.YtpiokjcbadfalaaGreatDoor.Tz
noncomputable section
def a9w : Sm := aT Go.Proofs.YtpiokjcbadfalaaGreatDoor.Tz.abl [1,0,1]
def zP : Sm := aT Go.Proofs.YtpiokjcbadfalaaGreatDoor.Tz.abl [1,1,1,0,1]
def uD : Sm := aT Go.Proofs.YtpiokjcbadfalaaGreatDoor.Tz.abl [1,1,1,1,0,1,1]
def aee : ab → ab := kO Go.Proofs.YtpiokjcbadfalaaGreatDoor.Tz.abl
theorem t13 (x0 x1 : AV) (hp : Hp) : r13.f (.nd x0 .lf (.nd x1 .lf .lf)) hp = aee (dU mem (br mem) x0 3 3 hp (fun v0 v1=>dU mem (br mem) x1 7 7 v1 (fun v2 v3=>fieldAddr 0 v2 (fun v4=>aI mem false 1 v4 v3 (fun v5=>(ar .lss 3).f v5 (.int 3 0) (fun v6=>gd v6 false v3 (fun k7=>fieldAddr 0 v2 (fun v8=>k7 v8 v3)) (fun v9 v10=>gd v6 false v10 (fun k11=>aI mem false 1 v9 v10 (fun v12=>k11 v12 v10)) (fun v13 v14=>gd v6 false v14 (fun k15=>(ar .gtr 3).f v13 (.int 3 5000) (fun v16=>k15 v16 v14)) (fun v17 v18=>bo v6 (fun v19=>v19 (.bool true)) (fun v20=>v20 v17) (fun v21=>gd v21 false v18 (fun k22=>fieldAddr 1 v2 (fun v23=>k22 v23 v18)) (fun v24 v25=>gd v21 false v25 (fun k26=>aI mem false 1 v24 v25 (fun v27=>k26 v27 v25)) (fun v28 v29=>gd v21 false v29 (fun k30=>(ar .lss 3).f v28 (.int 3 0) (fun v31=>k30 v31 v29)) (fun v32 v33=>bo v21 (fun v34=>v34 (.bool true)) (fun v35=>v35 v32) (fun v36=>gd v36 false v33 (fun k37=>fieldAddr 1 v2 (fun v38=>k37 v38 v33)) (fun v39 v40=>gd v36 false v40 (fun k41=>aI mem false 1 v39 v40 (fun v42=>k41 v42 v40)) (fun v43 v44=>gd v36 false v44 (fun k45=>(ar .geq 3).f v43 (.int 3 16) (fun v46=>k45 v46 v44)) (fun v47 v48=>bo v36 (fun v49=>v49 (.bool true)) (fun v50=>v50 v47) (fun v51=>gd v51 false v48 (fun k52=>fieldAddr 2 v2 (fun v53=>k52 v53 v48)) (fun v54 v55=>gd v51 false v55 (fun k56=>aI mem false 1 v54 v55 (fun v57=>k56 v57 v55)) (fun v58 v59=>gd v51 false v59 (fun k60=>(ar .lss 3).f v58 (.int 3 0) (fun v61=>k60 v61 v59)) (fun v62 v63=>bo v51 (fun v64=>v64 (.bool true)) (fun v65=>v65 v62) (fun v66=>gd v66 false v63 (fun k67=>fieldAddr 2 v2 (fun v68=>k67 v68 v63)) (fun v69 v70=>gd v66 false v70 (fun k71=>aI mem false 1 v69 v70 (fun v72=>k71 v72 v70)) (fun v73 v74=>gd v66 false v74 (fun k75=>fieldAddr 2 v0 (fun v76=>k75 v76 v74)) (fun v77 v78=>gd v66 false v78 (fun k79=>aI mem false 1 v77 v78 (fun v80=>k79 v80 v78)) (fun v81 v82=>gd v66 false v82 (fun k83=>dX mem 1 v81 v82 (fun v84=>au (Nat.ble v84 9223372036854775807) (k83 (.int 3 v84) v82))) (fun v85 v86=>gd v66 false v86 (fun k87=>(ar .geq 3).f v73 v85 (fun v88=>k87 v88 v86)) (fun v89 v90=>bo v66 (fun v91=>v91 (.bool true)) (fun v92=>v92 v89) (fun v93=>gd v93 false v90 (fun k94=>fieldAddr 5 v2 (fun v95=>k94 v95 v90)) (fun v96 v97=>gd v93 false v97 (fun k98=>aI mem false 1 v96 v97 (fun v99=>k98 v99 v97)) (fun v100 v101=>gd v93 false v101 (fun k102=>(ar .lss 3).f v100 (.int 3 0) (fun v103=>k102 v103 v101)) (fun v104 v105=>bo v93 (fun v106=>v106 (.bool true)) (fun v107=>v107 v104) (fun v108=>gd v108 false v105 (fun k109=>fieldAddr 5 v2 (fun v110=>k109 v110 v105)) (fun v111 v112=>gd v108 false v112 (fun k113=>aI mem false 1 v111 v112 (fun v114=>k113 v114 v112)) (fun v115 v116=>gd v108 false v116 (fun k117=>(ar .gtr 3).f v115 (.int 3 170) (fun v118=>k117 v118 v116)) (fun v119 v120=>bo v108 (fun v121=>v121 (.bool true)) (fun v122=>v122 v119) (fun v123=>gd v123 false v120 (fun k124=>fieldAddr 6 v2 (fun v125=>k124 v125 v120)) (fun v126 v127=>gd v123 false v127 (fun k128=>aI mem false 1 v126 v127 (fun v129=>k128 v129 v127)) (fun v130 v131=>gd v123 false v131 (fun k132=>(ar .gtr 4).f v130 (.int 4 8) (fun v133=>k132 v133 v131)) (fun v134 v135=>bo v123 (fun v136=>v136 (.bool true)) (fun v137=>v137 v134) (fun v138=>AV.aJ v138 (fun v139=>when v139 (.ret (.n x0 x1 (.int 3 8) v0 v2 .uu .uu .uu .e) v135) ((a9w).run .lf (.n x0 x1 (.int 3 0) v0 v2 .uu .uu .uu .e) v135))))))))))))))))))))))))))))))))))))))))))) := (congrArg (fun F=>aF.f F (.nd x0 .lf (.nd x1 .lf .lf)) hp) (cX Go.Proofs.YtpiokjcbadfalaaGreatDoor.Tz.abl).symm).trans (by kernel_rfl)
theorem ret13 (x0 x1 x2 x3 x4 : AV) (hp : Hp) : aee (.ret (.n x0 x1 x2 x3 x4 .uu .uu .uu .e) hp) = .val x2 hp := by kernel_rfl
theorem a7f (x0 x1 x2 x3 x4 : AV) (hp : Hp) : (a9w).run .lf (.n x0 x1 x2 x3 x4 .uu .uu .uu .e) hp = fieldAddr 2 x3 (fun v140=>aI mem false 1 v140 hp (fun v141=>fieldAddr 2 x4 (fun v142=>aI mem false 1 v142 hp (fun v143=>indexAddr 7 v141 v143 (fun v144=>aI mem true 7 v144 hp (fun v145=>dU mem (br mem) (AV.agg (aA [S [],.int 3 0,.int 3 0,.x 8 .lf 0 0 0,.x 8 .lf 0 0 0,.x 8 .lf 0 0 0,.x 8 .lf 0 0 0]) 7) 7 7 hp (fun v146 v147=>bk mem 7 v146 v145 v147 (fun v148=>kh 29 v148 (fun v149=>fieldAddr 0 v146 (fun v150=>aI mem false 1 v150 v149 (fun v151=>dX mem 0 v151 v149 (fun v152=>au (Nat.ble v152 9223372036854775807) ((ar .gtr 3).f (.int 3 v152) (.int 3 16) (fun v153=>gd v153 false v149 (fun k154=>fieldAddr 3 x4 (fun v155=>k154 v155 v149)) (fun v156 v157=>gd v153 false v157 (fun k158=>aI mem false 1 v156 v157 (fun v159=>k158 v159 v157)) (fun v160 v161=>gd v153 false v161 (fun k162=>(ar .lss 3).f v160 (.int 3 0) (fun v163=>k162 v163 v161)) (fun v164 v165=>bo v153 (fun v166=>v166 (.bool true)) (fun v167=>v167 v164) (fun v168=>gd v168 false v165 (fun k169=>fieldAddr 3 x4 (fun v170=>k169 v170 v165)) (fun v171 v172=>gd v168 false v172 (fun k173=>aI mem false 1 v171 v172 (fun v174=>k173 v174 v172)) (fun v175 v176=>gd v168 false v176 (fun k177=>fieldAddr 4 v146 (fun v178=>k177 v178 v176)) (fun v179 v180=>gd v168 false v180 (fun k181=>aI mem false 1 v179 v180 (fun v182=>k181 v182 v180)) (fun v183 v184=>gd v168 false v184 (fun k185=>dX mem 1 v183 v184 (fun v186=>au (Nat.ble v186 9223372036854775807) (k185 (.int 3 v186) v184))) (fun v187 v188=>gd v168 false v188 (fun k189=>(ar .geq 3).f v175 v187 (fun v190=>k189 v190 v188)) (fun v191 v192=>bo v168 (fun v193=>v193 (.bool true)) (fun v194=>v194 v191) (fun v195=>gd v195 false v192 (fun k196=>fieldAddr 4 v146 (fun v197=>k196 v197 v192)) (fun v198 v199=>gd v195 false v199 (fun k200=>aI mem false 1 v198 v199 (fun v201=>k200 v201 v199)) (fun v202 v203=>gd v195 false v203 (fun k204=>fieldAddr 3 x4 (fun v205=>k204 v205 v203)) (fun v206 v207=>gd v195 false v207 (fun k208=>aI mem false 1 v206 v207 (fun v209=>k208 v209 v207)) (fun v210 v211=>gd v195 false v211 (fun k212=>indexAddr 4 v202 v210 (fun v213=>k212 v213 v211)) (fun v214 v215=>gd v195 false v215 (fun k216=>fieldAddr 0 v214 (fun v217=>k216 v217 v215)) (fun v218 v219=>gd v195 false v219 (fun k220=>aI mem false 1 v218 v219 (fun v221=>k220 v221 v219)) (fun v222 v223=>gd v195 false v223 (fun k224=>fieldAddr 4 x4 (fun v225=>k224 v225 v223)) (fun v226 v227=>gd v195 false v227 (fun k228=>aI mem false 1 v226 v227 (fun v229=>k228 v229 v227)) (fun v230 v231=>gd v195 false v231 (fun k232=>(ar .neq 4).f v222 v230 (fun v233=>k232 v233 v231)) (fun v234 v235=>bo v195 (fun v236=>v236 (.bool true)) (fun v237=>v237 v234) (fun v238=>AV.aJ v238 (fun v239=>when v239 (.ret (.n x0 x1 (.int 3 8) x3 x4 .uu .uu .uu .e) v235) ((zP).run .lf (.n x0 x1 x2 x3 x4 .uu .uu .uu .e) v235)))))))))))))))))))))))))))))))))))))) := by kernel_rfl
theorem a1i (x0 x1 x2 x3 x4 : AV) (hp : Hp) : (zP).run .lf (.n x0 x1 x2 x3 x4 .uu .uu .uu .e) hp = fieldAddr 4 x4 (fun v240=>aI mem false 1 v240 hp (fun v241=>aH mem false r18 (.nd v241 .lf .lf) hp (fun v242 v243=>bS 0 v242 (fun _=>bS 1 v242 (fun v245=>(ar .neq 3).f v245 (.int 3 0) (fun v246=>AV.aJ v246 (fun v247=>when v247 (.ret (.n x0 x1 (.int 3 8) x3 x4 .uu .uu .uu .e) v243) ((uD).run .lf (.n x0 x1 x2 x3 x4 .uu .uu .uu .e) v243)))))))) := by kernel_rfl
theorem wR (x0 x1 x2 x3 x4 : AV) (hp : Hp) : (uD).run .lf (.n x0 x1 x2 x3 x4 .uu .uu .uu .e) hp = .ret (.n x0 x1 (.int 3 0) x3 x4 .uu .uu .uu .e) hp := by kernel_rfl
end
end Go.Proofs.YtpiokjcbadfalaaGreatDoor.Tz
namespace Go.Proofs.YtpiokjcbadfalaaGreatDoor.Tz
noncomputable section
def iY : Sm := o9 Go.Proofs.YtpiokjcbadfalaaGreatDoor.Tz.om [1,0,1,0]
def a4p : Fr → Hp → ab := qb Go.Proofs.YtpiokjcbadfalaaGreatDoor.Tz.om [1,0,1,0]
def mr : ab → ab := oy Go.Proofs.YtpiokjcbadfalaaGreatDoor.Tz.om [1,0,1,0]
def uF : Sm := aT Go.Proofs.YtpiokjcbadfalaaGreatDoor.Tz.om [1,0,1,0,0,0,1]
def a1j : Sm := aT Go.Proofs.YtpiokjcbadfalaaGreatDoor.Tz.om [1,0,1]
def nF : Sm := aT Go.Proofs.YtpiokjcbadfalaaGreatDoor.Tz.om [1,0,1,0,0,1,0,0,1,0,1]
def cO : Sm := o9 Go.Proofs.YtpiokjcbadfalaaGreatDoor.Tz.om [1,0,1,0,0,1,0,0,1,1,1,0]
def lT : Fr → Hp → ab := qb Go.Proofs.YtpiokjcbadfalaaGreatDoor.Tz.om [1,0,1,0,0,1,0,0,1,1,1,0]
def du : ab → ab := oy Go.Proofs.YtpiokjcbadfalaaGreatDoor.Tz.om [1,0,1,0,0,1,0,0,1,1,1,0]
def jA : Sm := aT Go.Proofs.YtpiokjcbadfalaaGreatDoor.Tz.om [1,0,1,0,0,1,0,0,1,1,1,0,0,0,1]
def jr : Sm := aT Go.Proofs.YtpiokjcbadfalaaGreatDoor.Tz.om [1,0,1,0,0,1,0,0,1,1,1]
def uG : Sm := aT Go.Proofs.YtpiokjcbadfalaaGreatDoor.Tz.om [1,0,1,0,0,1,0]
def iy : Sm := aT Go.Proofs.YtpiokjcbadfalaaGreatDoor.Tz.om [1,0,1,0,0,1,0,0,1,1,1,0,0,1,0,0,1]
def jB : Sm := aT Go.Proofs.YtpiokjcbadfalaaGreatDoor.Tz.om [1,0,1,0,0,1,0,0,1,1,1,0,0,1,0]
def a9a : ab → ab := kO Go.Proofs.YtpiokjcbadfalaaGreatDoor.Tz.om
theorem t16 (x0 : AV) (hp : Hp) : r16.f (.nd x0 .lf .lf) hp = a9a (dU mem (br mem) x0 3 3 hp (fun v0 v1=>a4p (.n x0 (.bool false) (.int 3 0) v0 .uu .uu .uu .uu .e) v1)) := (congrArg (fun F=>aF.f F (.nd x0 .lf .lf) hp) (cX Go.Proofs.YtpiokjcbadfalaaGreatDoor.Tz.om).symm).trans (by kernel_rfl)
theorem ans (x0 x1 x2 x3 x4 x5 : AV) (hp : Hp) : a9a (.ret (.n x0 x1 x2 x3 x4 x5 .uu .uu .e) hp) = .val x1 hp := by kernel_rfl
theorem uo (x0 x1 x2 x3 x4 x5 : AV) (hp : Hp) : (iY).run .lf (.n x0 x1 x2 x3 x4 x5 .uu .uu .e) hp = fieldAddr 2 x3 (fun v2=>aI mem false 1 v2 hp (fun v3=>dX mem 1 v3 hp (fun v4=>au (Nat.ble v4 9223372036854775807) ((ar .lss 3).f x2 (.int 3 v4) (fun v5=>gd v5 true hp (fun k6=>k6 x2 hp) (fun v7 v8=>gd v5 true v8 (fun k9=>(ar .leq 3).f v7 (.int 3 40) (fun v10=>k9 v10 v8)) (fun v11 v12=>bo v5 (fun v13=>v13 v11) (fun v14=>v14 (.bool false)) (fun v15=>AV.aJ v15 (fun v16=>when v16 ((uF).run .lf (.n x0 x1 x2 x3 x4 x5 .uu .uu .e) v12) (.exit 0 (.n x0 x1 x2 x3 x4 x5 .uu .uu .e) v12)))))))))) := by kernel_rfl
theorem a4q (fr : Fr) (hp : Hp) : a4p fr hp = mr (b8 iY 1000000 fr hp) := rfl
theorem a8s (fr : Fr) (hp : Hp) : mr (.exit 0 fr hp) = (a1j).run .lf fr hp := by kernel_rfl
theorem a27 (fr : Fr) (hp : Hp) : mr (.ret fr hp) = .ret fr hp := by kernel_rfl
theorem wU (x0 x1 x2 x3 x4 x5 : AV) (hp : Hp) : (uF).run .lf (.n x0 x1 x2 x3 x4 x5 .uu .uu .e) hp = fieldAddr 2 x3 (fun v17=>aI mem false 1 v17 hp (fun v18=>indexAddr 7 v18 x2 (fun v19=>aI mem true 7 v19 hp (fun v20=>dU mem (br mem) (AV.agg (aA [S [],.int 3 0,.int 3 0,.x 8 .lf 0 0 0,.x 8 .lf 0 0 0,.x 8 .lf 0 0 0,.x 8 .lf 0 0 0]) 7) 7 7 hp (fun v21 v22=>bk mem 7 v21 v20 v22 (fun v23=>fieldAddr 0 v21 (fun v24=>aI mem false 1 v24 v23 (fun v25=>dX mem 0 v25 v23 (fun v26=>au (Nat.ble v26 9223372036854775807) ((ar .gtr 3).f (.int 3 v26) (.int 3 40) (fun v27=>gd v27 false v23 (fun k28=>fieldAddr 3 v21 (fun v29=>k28 v29 v23)) (fun v30 v31=>gd v27 false v31 (fun k32=>aI mem false 1 v30 v31 (fun v33=>k32 v33 v31)) (fun v34 v35=>gd v27 false v35 (fun k36=>dX mem 1 v34 v35 (fun v37=>au (Nat.ble v37 9223372036854775807) (k36 (.int 3 v37) v35))) (fun v38 v39=>gd v27 false v39 (fun k40=>(ar .gtr 3).f v38 (.int 3 30) (fun v41=>k40 v41 v39)) (fun v42 v43=>bo v27 (fun v44=>v44 (.bool true)) (fun v45=>v45 v42) (fun v46=>gd v46 false v43 (fun k47=>fieldAddr 4 v21 (fun v48=>k47 v48 v43)) (fun v49 v50=>gd v46 false v50 (fun k51=>aI mem false 1 v49 v50 (fun v52=>k51 v52 v50)) (fun v53 v54=>gd v46 false v54 (fun k55=>dX mem 1 v53 v54 (fun v56=>au (Nat.ble v56 9223372036854775807) (k55 (.int 3 v56) v54))) (fun v57 v58=>gd v46 false v58 (fun k59=>(ar .gtr 3).f v57 (.int 3 300) (fun v60=>k59 v60 v58)) (fun v61 v62=>bo v46 (fun v63=>v63 (.bool true)) (fun v64=>v64 v61) (fun v65=>AV.aJ v65 (fun v66=>when v66 (.ret (.n x0 (.bool true) x2 x3 x4 v21 .uu .uu .e) v62) ((nF).run .lf (.n x0 x1 x2 x3 x4 v21 .uu .uu .e) v62))))))))))))))))))))))) := by kernel_rfl
theorem a7g (x0 x1 x2 x3 x4 x5 : AV) (hp : Hp) : (a1j).run .lf (.n x0 x1 x2 x3 x4 x5 .uu .uu .e) hp = fieldAddr 2 x3 (fun v67=>aI mem false 1 v67 hp (fun v68=>dX mem 1 v68 hp (fun v69=>au (Nat.ble v69 9223372036854775807) ((ar .gtr 3).f (.int 3 v69) (.int 3 40) (fun v70=>.ret (.n x0 v70 x2 x3 x4 x5 .uu .uu .e) hp))))) := by kernel_rfl
theorem qv (x0 x1 x2 x3 x4 x5 : AV) (hp : Hp) : (nF).run .lf (.n x0 x1 x2 x3 x4 x5 .uu .uu .e) hp = lT (.n x0 x1 x2 x3 (.int 3 0) x5 .uu .uu .e) hp := by kernel_rfl
theorem jx (x0 x1 x2 x3 x4 x5 : AV) (hp : Hp) : (cO).run .lf (.n x0 x1 x2 x3 x4 x5 .uu .uu .e) hp = fieldAddr 3 x5 (fun v71=>aI mem false 1 v71 hp (fun v72=>dX mem 1 v72 hp (fun v73=>au (Nat.ble v73 9223372036854775807) ((ar .lss 3).f x4 (.int 3 v73) (fun v74=>AV.aJ v74 (fun v75=>when v75 ((jA).run .lf (.n x0 x1 x2 x3 x4 x5 .uu .uu .e) hp) (.exit 4 (.n x0 x1 x2 x3 x4 x5 .uu .uu .e) hp))))))) := by kernel_rfl
theorem pQ (fr : Fr) (hp : Hp) : lT fr hp = du (b8 cO 1000000 fr hp) := rfl
theorem qX (fr : Fr) (hp : Hp) : du (.exit 4 fr hp) = (jr).run .lf fr hp := by kernel_rfl
theorem po (fr : Fr) (hp : Hp) : du (.ret fr hp) = .ret fr hp := by kernel_rfl
theorem mS (x0 x1 x2 x3 x4 x5 : AV) (hp : Hp) : (jA).run .lf (.n x0 x1 x2 x3 x4 x5 .uu .uu .e) hp = fieldAddr 3 x5 (fun v76=>aI mem false 1 v76 hp (fun v77=>indexAddr 2 v77 x4 (fun v78=>fieldAddr 0 v78 (fun v79=>aI mem false 1 v79 hp (fun v80=>dX mem 0 v80 hp (fun v81=>au (Nat.ble v81 9223372036854775807) ((ar .gtr 3).f (.int 3 v81) (.int 3 40) (fun v82=>AV.aJ v82 (fun v83=>when v83 (.ret (.n x0 (.bool true) x2 x3 x4 x5 .uu .uu .e) hp) ((iy).run .lf (.n x0 x1 x2 x3 x4 x5 .uu .uu .e) hp)))))))))) := by kernel_rfl
theorem qw (x0 x1 x2 x3 x4 x5 : AV) (hp : Hp) : (jr).run .lf (.n x0 x1 x2 x3 x4 x5 .uu .uu .e) hp = (uG).run .lf (.n x0 x1 x2 x3 x4 x5 .uu .uu .e) hp := by kernel_rfl
theorem wV (x0 x1 x2 x3 x4 x5 : AV) (hp : Hp) : (uG).run .lf (.n x0 x1 x2 x3 x4 x5 .uu .uu .e) hp = (ar .add 3).f x2 (.int 3 1) (fun v84=>.ok (.n x0 x1 v84 x3 x4 x5 .uu .uu .e) hp) := by kernel_rfl
theorem lz (x0 x1 x2 x3 x4 x5 : AV) (hp : Hp) : (iy).run .lf (.n x0 x1 x2 x3 x4 x5 .uu .uu .e) hp = (jB).run .lf (.n x0 x1 x2 x3 x4 x5 .uu .uu .e) hp := by kernel_rfl
theorem mT (x0 x1 x2 x3 x4 x5 : AV) (hp : Hp) : (jB).run .lf (.n x0 x1 x2 x3 x4 x5 .uu .uu .e) hp = (ar .add 3).f x4 (.int 3 1) (fun v85=>.ok (.n x0 x1 x2 x3 v85 x5 .uu .uu .e) hp) := by kernel_rfl
end
noncomputable section
def fin4 : ab → ab := kO cr4
theorem t4 (x0 x1 : AV) (hp : Hp) : r4.f (.nd x0 .lf (.nd x1 .lf .lf)) hp = fin4 (dU mem (br mem) x0 3 3 hp (fun v0 v1=>aI mem true 3 v0 v1 (fun v2=>aH mem false r16 (.nd v2 .lf .lf) v1 (fun v3 v4=>gd v3 false v4 (fun k5=>k5 x1 v4) (fun v6 v7=>gd v3 false v7 (fun k8=>dX mem 1 v6 v7 (fun v9=>au (Nat.ble v9 9223372036854775807) (k8 (.int 3 v9) v7))) (fun v10 v11=>gd v3 false v11 (fun k12=>(ar .gtr 3).f v10 (.int 3 100) (fun v13=>k12 v13 v11)) (fun v14 v15=>gd v3 false v15 (fun k16=>k16 v14 v15) (fun v17 v18=>gd v17 true v18 (fun k19=>k19 x1 v18) (fun v20 v21=>gd v17 true v21 (fun k22=>dX mem 1 v20 v21 (fun v23=>au (Nat.ble v23 9223372036854775807) (k22 (.int 3 v23) v21))) (fun v24 v25=>gd v17 true v25 (fun k26=>(ar .leq 3).f v24 (.int 3 2000) (fun v27=>k26 v27 v25)) (fun v28 v29=>gd v3 false v29 (fun k30=>bo v17 (fun v31=>v31 v28) (fun v32=>v32 (.bool false)) (fun v33=>k30 v33 v29)) (fun v34 v35=>bo v3 (fun v36=>v36 (.bool true)) (fun v37=>v37 v34) (fun v38=>gd v38 false v35 (fun k39=>k39 x1 v35) (fun v40 v41=>gd v38 false v41 (fun k42=>dX mem 1 v40 v41 (fun v43=>au (Nat.ble v43 9223372036854775807) (k42 (.int 3 v43) v41))) (fun v44 v45=>gd v38 false v45 (fun k46=>(ar .gtr 3).f v44 (.int 3 2010) (fun v47=>k46 v47 v45)) (fun v48 v49=>bo v38 (fun v50=>v50 (.bool true)) (fun v51=>v51 v48) (fun v52=>.ret (.n x0 x1 v52 .uu .uu .uu .uu .uu .e) v49))))))))))))))))) := (congrArg (fun F=>aF.f F (.nd x0 .lf (.nd x1 .lf .lf)) hp) (cX cr4).symm).trans (by kernel_rfl)
theorem ret4 (x0 x1 x2 : AV) (hp : Hp) : fin4 (.ret (.n x0 x1 x2 .uu .uu .uu .uu .uu .e) hp) = .val x2 hp := by kernel_rfl
end
attribute [local irreducible] mem
set_option linter.unusedSimpArgs false
attribute [local congr] dh aP bB dm dj bj dp cj aW cx cy cA bf bC bD aX eN cq cg cu bh bg aQ aS eO bF cn bx bH bE bz cz ck bd bI di bA bG bJ
structure cW where
  n : Nat
  nm : Nat → List UInt8
  pa : Nat → Int
  re : Nat → Int
  sl : Nat → AV
  cd : Nat → AV
  sz : Nat → AV
  lv : Nat → AV
  ns : Nat → Nat
  nc : Nat → Nat
  sn : Nat → Nat → List UInt8
  st : Nat → Nat → AV
  op : Nat → Nat → Nat
  ia : Nat → Nat → Int
  ib : Nat → Nat → Int
  ic : Nat → Nat → Int
  ty : AV
  tx : AV
  fs : AV
  ft : Row
  ct : Nat → Row
  lt : Nat → Row
noncomputable def cW.fn (m : cW) (i : Nat) : List AV := [S (m.nm i),I (m.pa i),I (m.re i),m.sl i,m.cd i,m.sz i,m.lv i]
def cW.ins (m : cW) (i j : Nat) : List AV := [B8 (m.op i j),I (m.ia i j),I (m.ib i j),I (m.ic i j)]
noncomputable def cW.slot (m : cW) (i j : Nat) : List AV := [S (m.sn i j),m.st i j]
theorem a3w (m : cW) (i : Nat) : m.fn i = [S (m.nm i),I (m.pa i),I (m.re i),m.sl i,m.cd i,m.sz i,m.lv i] := nd rfl
theorem arF (m : cW) (i j : Nat) : m.ins i j = [B8 (m.op i j),I (m.ia i j),I (m.ib i j),I (m.ic i j)] := nd rfl
theorem akn (m : cW) (i j : Nat) : m.slot i j = [S (m.sn i j),m.st i j] := nd rfl
def cW.av (m : cW) : AV := .agg (aA [m.ty,m.tx,m.fs]) 3
def ad0 (v : AV) : Prop := ∀ q,∀ hp k,(nB mem (q + 1)).f hp v k = k v hp
structure cB (m : cW) : Prop where
  fs : mC 7 m.fs m.n m.ft
  fr : dF 7 m.n m.ft m.fn
  cd : ∀ i,i < m.n → mC 4 (m.cd i) (m.nc i) (m.ct i)
  cr : ∀ i,i < m.n → dF 4 (m.nc i) (m.ct i) (m.ins i)
  sl : ∀ i,i < m.n → mC 2 (m.sl i) (m.ns i) (m.lt i)
  sr : ∀ i,i < m.n → dF 2 (m.ns i) (m.lt i) (m.slot i)
  nm : ∀ i,i < m.n → (m.nm i).length < 9223372036854775808
  sn : ∀ i j,i < m.n → j < m.ns i → (m.sn i j).length < 9223372036854775808
  op : ∀ i j,i < m.n → j < m.nc i → m.op i j < 256
  sz : ∀ i,i < m.n → One (m.sz i) ∧ One (m.lv i)
  ty : One m.ty ∧ ad0 m.ty
  tx : One m.tx ∧ ad0 m.tx
theorem cW.still {m : cW} (h : cB m) : ∀ hp k,(nB mem 24).f hp m.av k = k m.av hp := by
  refine a5G (M := mem) (m := 22) fun v hv=>?_
  simp only [List.mem_cons,List.not_mem_nil,or_false] at hv
  rcases hv with rfl | rfl | rfl
  · exact h.ty.2 22
  · exact h.tx.2 22
  · exact h.fs.still 22
structure Mk where
  step : Int
  g : Int
  f : Int
  at' : Int
  op : Nat
  fr : Int
  out : Nat
def Mk.l (x : Mk) : List AV := [I x.step,I x.g,I x.f,I x.at',B8 x.op,I x.fr,B8 x.out]
def Mk.av (x : Mk) : AV := .agg (aA x.l) 7
structure Mk.Ok (x : Mk) : Prop where
  step : jR x.step
  g : jR x.g
  f : jR x.f
  at' : jR x.at'
  op : x.op < 256
  fr : jR x.fr
  out : x.out < 256
def Fits (m : cW) (x : Mk) : Prop := (0 ≤ x.step ∧ x.step ≤ 5000 ∧ 0 ≤ x.g ∧ x.g < 16 ∧ 0 ≤ x.f ∧ x.f < m.n ∧ 0 ≤ x.fr ∧ x.fr ≤ 170 ∧ x.out ≤ 8) ∧ (m.nm x.f.toNat).length ≤ 16 ∧ 0 ≤ x.at' ∧ x.at' < m.nc x.f.toNat ∧ m.op x.f.toNat x.at'.toNat = x.op ∧ 1 ≤ x.op ∧ x.op < 35
instance (m : cW) (x : Mk) : Decidable (Fits m x) := by unfold Fits; infer_instance
theorem cB.a8Z {m : cW} (h : cB m) (i : Nat) (hi : i < m.n) (hp : Hp) (k : Nat → ab) : dX mem 1 (m.cd i) hp k = k (m.nc i) := (h.cd i hi).len hp k
theorem cB.aiJ {m : cW} (h : cB m) (i : Nat) (a : Int) (k : AV → ab) (hi : i < m.n ∧ 0 ≤ a ∧ a < m.nc i) : indexAddr 4 (m.cd i) (I a) k = k (.x 1 (m.ct i) (eo 4 a.toNat 0) 4 4) := (h.cd i hi.1).idx a k hi.2.1 hi.2.2
theorem cB.ao6 {m : cW} (h : cB m) (i j f q : Nat) (hp : Hp) (k : AV → ab) (hi : i < m.n ∧ j < m.nc i ∧ j < 16777215) (hf : f < 4 ∧ 1 ≤ q) : aI mem false 1 (.x 1 (m.ct i) (eo 4 j f) q 4) hp k = k ((m.ins i j).getD f .uu) := ldx1 (h.cr i hi.1) hi.2 (by omega) k
theorem afX (n : Nat) : oP n ≤ 1000 := by unfold oP; split <;> decide
theorem a1z {n : Nat} : ((oP n : Int) = 0) ↔ (1 ≤ n ∧ n < 35) := by
  unfold oP; split <;> rename_i h <;> simp [h]
set_option maxHeartbeats 1000000 in
theorem auz {m : cW} {x : Mk} (h : cB m) (hn : m.n ≤ 40) (hnc : ∀ i,i < m.n → m.nc i ≤ 300) (hx : x.Ok) : eJ (r13.f (.nd m.av .lf (.nd x.av .lf .lf)) .empty) = some (I ((if Fits m x then 0 else 8 : Nat) : Int)) := by
  obtain ⟨⟨a1,a2⟩,⟨a3,a4⟩,⟨a5,a6⟩,⟨a7,a8⟩,a9,⟨b1,b2⟩,b3⟩ := hx
  have b4 := hnc x.f.toNat
  have b5 := h.nm x.f.toNat
  have b6 := afX x.op
  simp +contextual (disch := (first | omega | (simp only [Y2] <;> omega) | ((repeat' (first | exact aw | apply aq | apply ay | refine ax (by omega) ?_ ?_)) <;> (simp (disch := (first | omega | (simp only [Y5] <;> omega))) only [Y4,Nat.reduceAdd,Nat.reduceEqDiff,reduceIte, *])) | exact True.intro | rfl)) only [Y1,cW.av,Mk.av,Mk.l,t13,eF,dW,Nat.reduceAdd,Nat.reduceEqDiff,reduceIte,Nat.reduceLeDiff,Nat.reduceSub,apply_ite aee,apply_ite eJ,ret13,h.fs.len,h.fs.idx,a7f,a1i,wR,ldx1 h.fr,a7I h.fr,a3w,arF,h.a8Z,h.aiJ,h.ao6,c18,a1z]
  by_cases hF : Fits m x
  · rw [if_pos hF]
    unfold Fits at hF
    have b7 := @a1z x.op
    repeat' (refine aeG (fun _=>?_) (fun _=>?_))
    all_goals first | rfl | omega
  · rw [if_neg hF]
    have b7 := @a1z x.op
    repeat' (refine aeG (fun _=>?_) (fun _=>?_))
    all_goals first | rfl | (exfalso; apply hF; unfold Fits; omega)
theorem Mk.still {x : Mk} : Still x.av := pc (by rfl)
theorem cW.pb {m : cW} (h : cB m) {l : Row} (hl : ∀ hp k,zl (nB mem 24) l hp k = k l hp) : ∀ hp k,zl (nB mem 24) (.nd m.av .lf l) hp k = k (.nd m.av .lf l) hp := fun hp k=>by
  show (nB mem 24).f hp m.av (fun v hp=>zl (nB mem 24) l hp fun r hp=>k (.nd v .lf r) hp) = _
  rw [cW.still h,hl]
end Go.Proofs.YtpiokjcbadfalaaGreatDoor.Tz
namespace Go.Proofs.YtpiokjcbadfalaaGreatDoor.Tz
noncomputable section
def lJ : Sm := o9 Go.Proofs.YtpiokjcbadfalaaGreatDoor.Tz.tC [1,1,0,1,0]
def zU : Fr → Hp → ab := qb Go.Proofs.YtpiokjcbadfalaaGreatDoor.Tz.tC [1,1,0,1,0]
def a0B : ab → ab := oy Go.Proofs.YtpiokjcbadfalaaGreatDoor.Tz.tC [1,1,0,1,0]
def rY : Sm := aT Go.Proofs.YtpiokjcbadfalaaGreatDoor.Tz.tC [1,1,0,1,0,0,1,0]
def a4g : Sm := aT Go.Proofs.YtpiokjcbadfalaaGreatDoor.Tz.tC [1,1,0,1]
def gE : Sm := aT Go.Proofs.YtpiokjcbadfalaaGreatDoor.Tz.tC [1,1,0,1,0,0,1,1,0,0,1,1,0,1]
def fI : Sm := aT Go.Proofs.YtpiokjcbadfalaaGreatDoor.Tz.tC [1,1,0,1,0,0,1,1,0,0,1,1,0,1,1,1]
def eZ : Sm := aT Go.Proofs.YtpiokjcbadfalaaGreatDoor.Tz.tC [1,1,0,1,0,0,1,1,0,0,1,1,0,1,1,1,1,1]
def lS : Sm := aT Go.Proofs.YtpiokjcbadfalaaGreatDoor.Tz.tC [1,1,0,1,0,0,1,1,0,0,1,1]
def q9 : Sm := aT Go.Proofs.YtpiokjcbadfalaaGreatDoor.Tz.tC [1,1,0,1,0,0,1,1,0]
def akZ : ab → ab := kO Go.Proofs.YtpiokjcbadfalaaGreatDoor.Tz.tC
theorem t41 (x0 x1 : AV) (hp : Hp) : r41.f (.nd x0 .lf (.nd x1 .lf .lf)) hp = akZ (mF mem (br mem) 1 (Tr.full (.int 4 0) 2) 1 1 (.cons (.mk 0 (fun v0=>v0 (.int 4 34))) .nil) hp (fun v1 v2=>cT mem (br mem) 1 x0 v1 v2 (fun v3 v4=>dX mem 0 x1 v4 (fun v5=>au (Nat.ble v5 9223372036854775807) (zU (.n v3 x1 (.x 8 .lf 0 0 0) (.int 3 0) (.int 3 v5) .uu .uu .uu .e) v4))))) := (congrArg (fun F=>aF.f F (.nd x0 .lf (.nd x1 .lf .lf)) hp) (cX Go.Proofs.YtpiokjcbadfalaaGreatDoor.Tz.tC).symm).trans (by kernel_rfl)
theorem ret41 (x0 x1 x2 x3 x4 : AV) (hp : Hp) : akZ (.ret (.n x0 x1 x2 x3 x4 .uu .uu .uu .e) hp) = .val x2 hp := by kernel_rfl
theorem rp (x0 x1 x2 x3 x4 : AV) (hp : Hp) : (lJ).run .lf (.n x0 x1 x2 x3 x4 .uu .uu .uu .e) hp = (ar .lss 3).f x3 x4 (fun v6=>AV.aJ v6 (fun v7=>when v7 ((rY).run .lf (.n x0 x1 x2 x3 x4 .uu .uu .uu .e) hp) (.exit 0 (.n x0 x1 x2 x3 x4 .uu .uu .uu .e) hp))) := by kernel_rfl
theorem a1s (fr : Fr) (hp : Hp) : zU fr hp = a0B (b8 lJ 1000000 fr hp) := rfl
theorem a6m (fr : Fr) (hp : Hp) : a0B (.exit 0 fr hp) = (a4g).run .lf fr hp := by kernel_rfl
theorem vl (x0 x1 x2 x3 x4 : AV) (hp : Hp) : (rY).run .lf (.n x0 x1 x2 x3 x4 .uu .uu .uu .e) hp = AV.eE x1 (fun v8 v9=>iG x3 v9 (fun v10=>bQ 4 (Nat.mod (Nat.div v8 (Nat.pow 256 v10)) 256) (fun v11=>(ar .eql 4).f v11 (.int 4 34) (fun v12=>gd v12 false hp (fun k13=>k13 v11 hp) (fun v14 v15=>gd v12 false v15 (fun k16=>(ar .eql 4).f v14 (.int 4 92) (fun v17=>k16 v17 v15)) (fun v18 v19=>bo v12 (fun v20=>v20 (.bool true)) (fun v21=>v21 v18) (fun v22=>AV.aJ v22 (fun v23=>when v23 (mF mem (br mem) 1 (Tr.full (.int 4 0) 2) 2 2 (.cons (.mk 0 (fun v24=>v24 (.int 4 92))) (.cons (.mk 1 (fun v25=>v25 v11)) .nil)) v19 (fun v26 v27=>cT mem (br mem) 1 x0 v26 v27 (fun v28 v29=>(gE).run .lf (.n v28 x1 x2 x3 x4 .uu .uu .uu .e) v29))) ((ar .eql 4).f v11 (.int 4 10) (fun v30=>AV.aJ v30 (fun v31=>when v31 (mF mem (br mem) 1 (Tr.full (.int 4 0) 2) 2 2 (.cons (.mk 0 (fun v32=>v32 (.int 4 92))) (.cons (.mk 1 (fun v33=>v33 (.int 4 110))) .nil)) v19 (fun v34 v35=>cT mem (br mem) 1 x0 v34 v35 (fun v36 v37=>(fI).run .lf (.n v36 x1 x2 x3 x4 .uu .uu .uu .e) v37))) ((ar .lss 4).f v11 (.int 4 32) (fun v38=>gd v38 false v19 (fun k39=>k39 v11 v19) (fun v40 v41=>gd v38 false v41 (fun k42=>(ar .gtr 4).f v40 (.int 4 126) (fun v43=>k42 v43 v41)) (fun v44 v45=>bo v38 (fun v46=>v46 (.bool true)) (fun v47=>v47 v44) (fun v48=>AV.aJ v48 (fun v49=>when v49 (kh 10 v45 (fun v50=>(ar .shr 4).f v11 (.int 7 4) (fun v51=>iG v51 16 (fun v52=>bQ 4 (Nat.mod (Nat.div 136107713667768957684761770045455085872 (Nat.pow 256 v52)) 256) (fun v53=>(ar .and 4).f v11 (.int 4 15) (fun v54=>iG v54 16 (fun v55=>bQ 4 (Nat.mod (Nat.div 136107713667768957684761770045455085872 (Nat.pow 256 v55)) 256) (fun v56=>mF mem (jL mem 7) 1 (Tr.full (.int 4 0) 3) 4 4 (.cons (.mk 0 (fun v57=>v57 (.int 4 92))) (.cons (.mk 1 (fun v58=>v58 (.int 4 120))) (.cons (.mk 2 (fun v59=>v59 v53)) (.cons (.mk 3 (fun v60=>v60 v56)) .nil)))) v50 (fun v61 v62=>fB mem .nil .nil v62 (fun h63=>cT mem (jL mem 8) 1 x0 v61 h63 (fun v64 v65=>.val v64 v65)) (fun v66 v67=>(eZ).run .lf (.n v67 x1 x2 x3 x4 .uu .uu .uu .e) v66)))))))))) (mF mem (br mem) 1 (Tr.full (.int 4 0) 2) 1 1 (.cons (.mk 0 (fun v68=>v68 v11)) .nil) v45 (fun v69 v70=>cT mem (br mem) 1 x0 v69 v70 (fun v71 v72=>(eZ).run .lf (.n v71 x1 x2 x3 x4 .uu .uu .uu .e) v72)))))))))))))))))))) := by kernel_rfl
theorem a4h (x0 x1 x2 x3 x4 : AV) (hp : Hp) : (a4g).run .lf (.n x0 x1 x2 x3 x4 .uu .uu .uu .e) hp = mF mem (br mem) 1 (Tr.full (.int 4 0) 2) 1 1 (.cons (.mk 0 (fun v73=>v73 (.int 4 34))) .nil) hp (fun v74 v75=>cT mem (br mem) 1 x0 v74 v75 (fun v76 v77=>.ret (.n x0 x1 v76 x3 x4 .uu .uu .uu .e) v77)) := by kernel_rfl
theorem bU (x0 x1 x2 x3 x4 : AV) (hp : Hp) : (gE).run .lf (.n x0 x1 x2 x3 x4 .uu .uu .uu .e) hp = (lS).run .lf (.n x0 x1 x2 x3 x4 .uu .uu .uu .e) hp := by kernel_rfl
theorem cR (x0 x1 x2 x3 x4 : AV) (hp : Hp) : (fI).run .lf (.n x0 x1 x2 x3 x4 .uu .uu .uu .e) hp = (gE).run .lf (.n x0 x1 x2 x3 x4 .uu .uu .uu .e) hp := by kernel_rfl
theorem cZ (x0 x1 x2 x3 x4 : AV) (hp : Hp) : (eZ).run .lf (.n x0 x1 x2 x3 x4 .uu .uu .uu .e) hp = (fI).run .lf (.n x0 x1 x2 x3 x4 .uu .uu .uu .e) hp := by kernel_rfl
theorem cC (x0 x1 x2 x3 x4 : AV) (hp : Hp) : (lS).run .lf (.n x0 x1 x2 x3 x4 .uu .uu .uu .e) hp = (q9).run .lf (.n x0 x1 x2 x3 x4 .uu .uu .uu .e) hp := by kernel_rfl
theorem dq (x0 x1 x2 x3 x4 : AV) (hp : Hp) : (q9).run .lf (.n x0 x1 x2 x3 x4 .uu .uu .uu .e) hp = (ar .add 3).f x3 (.int 3 1) (fun v78=>.ok (.n x0 x1 x2 v78 x4 .uu .uu .uu .e) hp) := by kernel_rfl
end
noncomputable section
def a9y : Sm := aT cr17 [1,0,1]
def akX : ab → ab := kO cr17
theorem t17 (x0 : AV) (hp : Hp) : r17.f (.nd x0 .lf .lf) hp = akX (dX mem 0 x0 hp (fun v0=>au (Nat.ble v0 9223372036854775807) ((ar .gtr 3).f (.int 3 v0) (.int 3 400) (fun v1=>AV.aJ v1 (fun v2=>when v2 (.ret (.n x0 (S []) (.int 3 4) .uu .uu .uu .uu .uu .e) hp) ((a9y).run .lf (.n x0 (S []) (.int 3 0) .uu .uu .uu .uu .uu .e) hp)))))) := (congrArg (fun F=>aF.f F (.nd x0 .lf .lf) hp) (cX cr17).symm).trans (by kernel_rfl)
theorem ret17 (x0 x1 x2 : AV) (hp : Hp) : akX (.ret (.n x0 x1 x2 .uu .uu .uu .uu .uu .e) hp) = .val (.bu (.nd x1 .lf (.nd x2 .lf .lf)) 2) hp := by kernel_rfl
theorem a7h (x0 x1 x2 : AV) (hp : Hp) : (a9y).run .lf (.n x0 x1 x2 .uu .uu .uu .uu .uu .e) hp = aH mem false r41 (.nd (.x 8 .lf 0 0 0) .lf (.nd x0 .lf .lf)) hp (fun v3 v4=>AV.eD v3 (fun _ _ _ _=>lD mem 1 v3 v4 (fun v9 v10 v11 _=>(pack mem v11).f v9 v10 (fun v13=>.ret (.n x0 (.str v13 v11) (.int 3 0) .uu .uu .uu .uu .uu .e) v4))) (fun _ _ _ _=>lD mem 1 v3 v4 (fun v18 v19 v20 _=>(pack mem v20).f v18 v19 (fun v22=>.ret (.n x0 (.str v22 v20) (.int 3 0) .uu .uu .uu .uu .uu .e) v4))) (fun v23=>au (or (Nat.beq v23 8) (Nat.beq v23 6)) (.ret (.n x0 (S []) (.int 3 0) .uu .uu .uu .uu .uu .e) v4)) (fun _ _=>.fail)) := by kernel_rfl
end
attribute [local irreducible] mem
set_option linter.unusedSimpArgs false
attribute [local congr] dh aP bB dm dj bj dp cj aW cx cy cA bf bC bD aX eN cq cg cu bh bg aQ aS eO bF cn bx bH bE bz cz ck bd bI di bA bG bJ
set_option maxHeartbeats 1000000 in
theorem avk {s : List UInt8} {i : Nat} (hi : i < s.length) (hs : s.length ≤ 400) {a x2 : AV} {hp : Hp} {acc : List UInt8} (ha : lF hp a acc) (hpr : hp.pr = []) (hnx : hp.nx ≤ 20000) (hacc : acc.length ≤ 10000) :
    ∃ a' hp',lF hp' a' (acc ++ kQ (s.getD i 0).toNat) ∧ hp'.pr = [] ∧ hp'.nx ≤ hp.nx + 10 ∧ (lJ).run .lf (.n a (S s) x2 (I i) (I s.length) .uu .uu .uu .e) hp = .ok (.n a' (S s) x2 (I (i + 1 : Nat)) (I s.length) .uu .uu .uu .e) hp' := by
  have hc := (s.getD i 0).toNat_lt
  generalize hcc : s.getD i 0 = cc at hc
  have e1 : (cc.toNat.toUInt8) = cc := by simp
  simp +contextual (disch := (first | omega | (simp only [Y2] <;> omega) | ((repeat' (first | exact aw | apply aq | apply ay | refine ax (by omega) ?_ ?_)) <;> (simp (disch := (first | omega | (simp only [Y5] <;> omega))) only [Y4,Nat.reduceAdd,Nat.reduceEqDiff,reduceIte, *])) | exact True.intro | rfl)) only [Y1,rp,vl,bU,cR,cZ,cC,dq,eF,dW,Nat.reduceAdd,Nat.reduceEqDiff,reduceIte,Nat.reduceLeDiff,Nat.reduceSub,hcc]
  rw [if_pos (by omega)]
  by_cases h34 : cc.toNat = 34
  · obtain ⟨a',h',q1,q2,q3,q4⟩ := pw (Tr.full (B8 0) 2) [92,cc] ha (by omega) (by simp) hpr (by simp; omega)
    simp only [List.length_cons,List.length_nil,lits,UInt8.reduceToNat,Nat.reduceAdd,h34] at q4
    rw [if_pos h34]
    refine ⟨a',h', ?_,q3,by omega, ?_⟩
    · unfold kQ; rw [if_pos (.inl h34),e1]; exact q1
    · rw [q4]
      simp +contextual (disch := (first | omega | (simp only [Y2] <;> omega) | ((repeat' (first | exact aw | apply aq | apply ay | refine ax (by omega) ?_ ?_)) <;> (simp (disch := (first | omega | (simp only [Y5] <;> omega))) only [Y4,Nat.reduceAdd,Nat.reduceEqDiff,reduceIte, *])) | exact True.intro | rfl)) only [Y1,bU,cC,dq,eF,dW,Nat.reduceAdd,Nat.reduceEqDiff,reduceIte,Nat.reduceLeDiff,Nat.reduceSub,Int.natCast_add]
  rw [if_neg h34]
  by_cases h92 : cc.toNat = 92
  · obtain ⟨a',h',q1,q2,q3,q4⟩ := pw (Tr.full (B8 0) 2) [92,cc] ha (by omega) (by simp) hpr (by simp; omega)
    simp only [List.length_cons,List.length_nil,lits,UInt8.reduceToNat,Nat.reduceAdd,h92] at q4
    rw [if_pos h92]
    refine ⟨a',h', ?_,q3,by omega, ?_⟩
    · unfold kQ; rw [if_pos (.inr h92),e1]; exact q1
    · rw [q4]
      simp +contextual (disch := (first | omega | (simp only [Y2] <;> omega) | ((repeat' (first | exact aw | apply aq | apply ay | refine ax (by omega) ?_ ?_)) <;> (simp (disch := (first | omega | (simp only [Y5] <;> omega))) only [Y4,Nat.reduceAdd,Nat.reduceEqDiff,reduceIte, *])) | exact True.intro | rfl)) only [Y1,bU,cC,dq,eF,dW,Nat.reduceAdd,Nat.reduceEqDiff,reduceIte,Nat.reduceLeDiff,Nat.reduceSub,Int.natCast_add]
  rw [if_neg h92]
  by_cases h10 : cc.toNat = 10
  · obtain ⟨a',h',q1,q2,q3,q4⟩ := pw (Tr.full (B8 0) 2) [92,110] ha (by omega) (by simp) hpr (by simp; omega)
    simp only [List.length_cons,List.length_nil,lits,UInt8.reduceToNat,Nat.reduceAdd] at q4
    rw [if_pos h10]
    refine ⟨a',h', ?_,q3,by omega, ?_⟩
    · unfold kQ; rw [if_neg (by omega),if_pos h10]; exact q1
    · rw [q4]
      simp +contextual (disch := (first | omega | (simp only [Y2] <;> omega) | ((repeat' (first | exact aw | apply aq | apply ay | refine ax (by omega) ?_ ?_)) <;> (simp (disch := (first | omega | (simp only [Y5] <;> omega))) only [Y4,Nat.reduceAdd,Nat.reduceEqDiff,reduceIte, *])) | exact True.intro | rfl)) only [Y1,cR,bU,cC,dq,eF,dW,Nat.reduceAdd,Nat.reduceEqDiff,reduceIte,Nat.reduceLeDiff,Nat.reduceSub,Int.natCast_add]
  rw [if_neg h10]
  by_cases hx : cc.toNat < 32 ∨ 126 < cc.toNat
  · obtain ⟨a',h',q1,q2,q3,q4⟩ := ad8 (Tr.full (B8 0) 3) (n := 10) (i := 7) (j := 8) [92,120,dg (cc.toNat / 16),dg (cc.toNat % 16)] ha (by omega) (by omega) (by omega) (by omega) (by simp) hpr (by simp; omega)
    simp only [List.length_cons,List.length_nil,lits,UInt8.reduceToNat,Nat.reduceAdd] at q4
    refine ⟨a',h', ?_,q3,by omega, ?_⟩
    · unfold kQ; rw [if_neg (by omega),if_neg h10,if_pos hx]; exact q1
    · rw [q4]
      by_cases h32 : cc.toNat < 32
      · rw [if_pos h32]
        simp +contextual (disch := (first | omega | (simp only [Y2] <;> omega) | ((repeat' (first | exact aw | apply aq | apply ay | refine ax (by omega) ?_ ?_)) <;> (simp (disch := (first | omega | (simp only [Y5] <;> omega))) only [Y4,Nat.reduceAdd,Nat.reduceEqDiff,reduceIte, *])) | exact True.intro | rfl)) only [Y1,cZ,cR,bU,cC,dq,eF,dW,Nat.reduceAdd,Nat.reduceEqDiff,reduceIte,Nat.reduceLeDiff,Nat.reduceSub,Int.natCast_add]
      · rw [if_neg h32,if_pos (by omega)]
        simp +contextual (disch := (first | omega | (simp only [Y2] <;> omega) | ((repeat' (first | exact aw | apply aq | apply ay | refine ax (by omega) ?_ ?_)) <;> (simp (disch := (first | omega | (simp only [Y5] <;> omega))) only [Y4,Nat.reduceAdd,Nat.reduceEqDiff,reduceIte, *])) | exact True.intro | rfl)) only [Y1,cZ,cR,bU,cC,dq,eF,dW,Nat.reduceAdd,Nat.reduceEqDiff,reduceIte,Nat.reduceLeDiff,Nat.reduceSub,Int.natCast_add]
  · rw [if_neg (by omega),if_neg (by omega)]
    obtain ⟨a',h',q1,q2,q3,q4⟩ := pw (Tr.full (B8 0) 2) [cc] ha (by omega) (by simp) hpr (by simp; omega)
    simp only [List.length_cons,List.length_nil,lits,UInt8.reduceToNat,Nat.reduceAdd] at q4
    refine ⟨a',h', ?_,q3,by omega, ?_⟩
    · unfold kQ; rw [if_neg (by omega),if_neg h10,if_neg hx,e1]; exact q1
    · rw [q4]
      simp +contextual (disch := (first | omega | (simp only [Y2] <;> omega) | ((repeat' (first | exact aw | apply aq | apply ay | refine ax (by omega) ?_ ?_)) <;> (simp (disch := (first | omega | (simp only [Y5] <;> omega))) only [Y4,Nat.reduceAdd,Nat.reduceEqDiff,reduceIte, *])) | exact True.intro | rfl)) only [Y1,cZ,cR,bU,cC,dq,eF,dW,Nat.reduceAdd,Nat.reduceEqDiff,reduceIte,Nat.reduceLeDiff,Nat.reduceSub,Int.natCast_add]
theorem afG {s : List UInt8} (hs : s.length ≤ 400) : ∀ (f i : Nat) (a x2 : AV) (hp : Hp) (acc : List UInt8) (fuel : Nat),s.length - i = f → i ≤ s.length → f < fuel → lF hp a acc → hp.pr = [] → hp.nx + 10 * f ≤ 10000 → acc.length + 4 * f ≤ 9000 →
    ∃ a' hp',lF hp' a' (acc ++ (s.drop i).flatMap (fun c=>kQ c.toNat)) ∧ hp'.pr = [] ∧ hp'.nx ≤ 10000 ∧ b8 lJ fuel (.n a (S s) x2 (I i) (I s.length) .uu .uu .uu .e) hp = .exit 0 (.n a' (S s) x2 (I s.length) (I s.length) .uu .uu .uu .e) hp'
  | f,i,a,x2,hp,acc,0,_,_,h,_,_,_,_=>absurd h (Nat.not_lt_zero _)
  | f,i,a,x2,hp,acc,fuel + 1,hf,hi,hfu,ha,hpr,hnx,hacc=>by
    by_cases hil : i < s.length
    · obtain ⟨a',hp',q1,q2,q3,q4⟩ := avk (x2 := x2) hil hs ha hpr (by omega) (by omega)
      have hc4 := zx (s.getD i 0).toNat
      obtain ⟨a2,hp2,w1,w2,w3,w4⟩ := afG hs (f - 1) (i + 1) a' x2 hp' (acc ++ kQ (s.getD i 0).toNat) fuel (by omega) (by omega) (by omega) q1 q2 (by omega) (by rw [List.length_append]; omega)
      refine ⟨a2,hp2, ?_,w2,w3,(gv q4).trans w4⟩
      rw [List.append_assoc] at w1
      rw [List.drop_eq_getElem_cons hil,List.flatMap_cons]
      have e : s.getD i 0 = s[i] := by simp [List.getD,hil]
      rw [e] at w1
      exact w1
    · have hi2 : i = s.length := by omega
      subst hi2
      refine ⟨a,hp, ?_,hpr,by omega,fR ?_⟩
      · rw [List.drop_length,List.flatMap_nil,List.append_nil]; exact ha
      · simp +contextual (disch := (first | omega | (simp only [Y2] <;> omega) | ((repeat' (first | exact aw | apply aq | apply ay | refine ax (by omega) ?_ ?_)) <;> (simp (disch := (first | omega | (simp only [Y5] <;> omega))) only [Y4,Nat.reduceAdd,Nat.reduceEqDiff,reduceIte, *])) | exact True.intro | rfl)) only [Y1,rp,eF,dW,Nat.reduceAdd,Nat.reduceEqDiff,reduceIte,Nat.reduceLeDiff,Nat.reduceSub,Int.lt_irrefl]
theorem ade (h : Hp) : lF h (.x 8 .lf 0 0 0) [] := .inl ⟨rfl,rfl⟩
theorem auJ {s : List UInt8} (hs : s.length ≤ 400) : ∃ a hp',lF hp' a (jw s) ∧ hp'.nx ≤ 20000 ∧ r41.f (.nd (.x 8 .lf 0 0 0) .lf (.nd (S s) .lf .lf)) .empty = .val a hp' := by
  obtain ⟨a1,h1,q1,q2,q3,q4⟩ := pw (h := .empty) (Tr.full (B8 0) 2) [34] (ade _) (by decide) (by simp) rfl (by simp)
  simp only [List.length_cons,List.length_nil,lits,UInt8.reduceToNat,Nat.reduceAdd] at q4
  rw [acf] at q2
  obtain ⟨a2,h2,w1,w2,w3,w4⟩ := afG hs s.length 0 a1 (.x 8 .lf 0 0 0) h1 ([] ++ [34]) 1000000 (by omega) (by omega) (by omega) q1 q3 (by omega) (by simp; omega)
  have hfl := a3v s
  obtain ⟨a3,h3,e1,e2,e3,e4⟩ := pw (h := h2) (Tr.full (B8 0) 2) [34] w1 (by omega) (by simp) w2 (by simp only [List.length_append,List.length_cons,List.length_nil,List.drop_zero]; omega)
  simp only [List.length_cons,List.length_nil,lits,UInt8.reduceToNat,Nat.reduceAdd] at e4
  refine ⟨a3,h3, ?_,by omega, ?_⟩
  · unfold jw
    rw [List.drop_zero] at e1
    simpa using e1
  · simp +contextual (disch := (first | omega | (simp only [Y2] <;> omega) | ((repeat' (first | exact aw | apply aq | apply ay | refine ax (by omega) ?_ ?_)) <;> (simp (disch := (first | omega | (simp only [Y5] <;> omega))) only [Y4,Nat.reduceAdd,Nat.reduceEqDiff,reduceIte, *])) | exact True.intro | rfl)) only [Y1,t41,eF,dW,Nat.reduceAdd,Nat.reduceEqDiff,reduceIte,Nat.reduceLeDiff,Nat.reduceSub]
    rw [q4]
    simp +contextual (disch := (first | omega | (simp only [Y2] <;> omega) | ((repeat' (first | exact aw | apply aq | apply ay | refine ax (by omega) ?_ ?_)) <;> (simp (disch := (first | omega | (simp only [Y5] <;> omega))) only [Y4,Nat.reduceAdd,Nat.reduceEqDiff,reduceIte, *])) | exact True.intro | rfl)) only [Y1,a1s,eF,dW,Nat.reduceAdd,Nat.reduceEqDiff,reduceIte,Nat.reduceLeDiff,Nat.reduceSub]
    have w5 : b8 lJ 1000000 (.n a1 (S s) (.x 8 .lf 0 0 0) (I 0) (I s.length) .uu .uu .uu .e) h1 = _ := w4
    rw [w5]
    simp +contextual (disch := (first | omega | (simp only [Y2] <;> omega) | ((repeat' (first | exact aw | apply aq | apply ay | refine ax (by omega) ?_ ?_)) <;> (simp (disch := (first | omega | (simp only [Y5] <;> omega))) only [Y4,Nat.reduceAdd,Nat.reduceEqDiff,reduceIte, *])) | exact True.intro | rfl)) only [Y1,a6m,a4h,eF,dW,Nat.reduceAdd,Nat.reduceEqDiff,reduceIte,Nat.reduceLeDiff,Nat.reduceSub]
    rw [e4,ret41]
end Go.Proofs.YtpiokjcbadfalaaGreatDoor.Tz
namespace Go.Proofs.YtpiokjcbadfalaaGreatDoor.Tz
attribute [local irreducible] mem
set_option linter.unusedSimpArgs false
attribute [local congr] dh aP bB dm dj bj dp cj aW cx cy cA bf bC bD aX eN cq cg cu bh bg aQ aS eO bF cn bx bH bE bz cz ck bd bI di bA bG bJ
theorem a0h (s : List UInt8) : jw s ≠ [] := List.cons_ne_nil _ _
theorem nh (s : List UInt8) : (jw s).length ≤ 4 * s.length + 2 := by
  have := a3v s
  unfold jw
  simp only [List.length_cons,List.length_append,List.length_nil]; omega
theorem auD {s : List UInt8} (hs : s.length ≤ 400) : eJ (r17.f (.nd (S s) .lf .lf) .empty) = some (.bu (.nd (S (jw s)) .lf (.nd (I 0) .lf .lf)) 2) := by
  obtain ⟨a,hc,h1,h2,h3⟩ := auJ hs
  have hq := nh s
  obtain ⟨a',hp',q1,q2,q3,q4⟩ := callB (hp := .empty) (.nd a8l (.nd (c8 s) .lf)) h1 (a0h s) (by omega) (by decide) h3
  rw [acf] at q2
  simp +contextual (disch := (first | omega | (simp only [Y2] <;> omega) | ((repeat' (first | exact aw | apply aq | apply ay | refine ax (by omega) ?_ ?_)) <;> (simp (disch := (first | omega | (simp only [Y5] <;> omega))) only [Y4,Nat.reduceAdd,Nat.reduceEqDiff,reduceIte, *])) | exact True.intro | rfl)) only [Y1,t17,eF,dW,Nat.reduceAdd,Nat.reduceEqDiff,reduceIte,Nat.reduceLeDiff,Nat.reduceSub]
  rw [if_neg (by omega)]
  simp +contextual (disch := (first | omega | (simp only [Y2] <;> omega) | ((repeat' (first | exact aw | apply aq | apply ay | refine ax (by omega) ?_ ?_)) <;> (simp (disch := (first | omega | (simp only [Y5] <;> omega))) only [Y4,Nat.reduceAdd,Nat.reduceEqDiff,reduceIte, *])) | exact True.intro | rfl)) only [Y1,a7h,eF,dW,Nat.reduceAdd,Nat.reduceEqDiff,reduceIte,Nat.reduceLeDiff,Nat.reduceSub]
  rw [q4,adf q1 (a0h s) (by omega) (by omega) (F := fun s n=>.ret _ hp')]
  rw [ret17]
  rfl
end Go.Proofs.YtpiokjcbadfalaaGreatDoor.Tz
namespace Go.Proofs.YtpiokjcbadfalaaGreatDoor.Tz
noncomputable section
def a9C : Sm := aT cr5 [1,0,1,1]
def a4i : Sm := aT cr5 [1,1,1,0,1]
def wY : Sm := aT cr5 [1,1,1,1,1,0,1]
def se : Sm := aT cr5 [1,1,1,1,1,1,1,0,1]
def oI : Sm := aT cr5 [1,1,1,1,1,1,1,1,1,0,1]
def fin5 : ab → ab := kO cr5
theorem t5 (x0 x1 : AV) (hp : Hp) : r5.f (.nd x0 .lf (.nd x1 .lf .lf)) hp = fin5 (dU mem (br mem) x0 3 3 hp (fun v0 v1=>dU mem (br mem) x1 7 7 v1 (fun v2 v3=>aI mem true 3 v0 v3 (fun v4=>aI mem true 7 v2 v3 (fun v5=>aH mem false r13 (.nd v4 .lf (.nd v5 .lf .lf)) v3 (fun v6 v7=>(ar .neq 3).f v6 (.int 3 0) (fun v8=>AV.aJ v8 (fun v9=>when v9 (.ret (.n x0 x1 (S []) v6 v0 v2 .uu .uu (.n .uu .uu .uu .uu .uu .uu .uu .uu .e)) v7) ((a9C).run .lf (.n x0 x1 (S []) (.int 3 0) v0 v2 .uu .uu (.n .uu .uu .uu .uu .uu .uu .uu .uu .e)) v7))))))))) := (congrArg (fun F=>aF.f F (.nd x0 .lf (.nd x1 .lf .lf)) hp) (cX cr5).symm).trans (by kernel_rfl)
theorem ret5 (x0 x1 x2 x3 x4 x5 x6 x7 x8 x9 : AV) (hp : Hp) : fin5 (.ret (.n x0 x1 x2 x3 x4 x5 x6 x7 (.n x8 x9 .uu .uu .uu .uu .uu .uu .e)) hp) = .val (.bu (.nd x2 .lf (.nd x3 .lf .lf)) 2) hp := by kernel_rfl
theorem a7j (x0 x1 x2 x3 x4 x5 x6 x7 x8 x9 : AV) (hp : Hp) : (a9C).run .lf (.n x0 x1 x2 x3 x4 x5 x6 x7 (.n x8 x9 .uu .uu .uu .uu .uu .uu .e)) hp = fieldAddr 2 x4 (fun v10=>aI mem false 1 v10 hp (fun v11=>fieldAddr 2 x5 (fun v12=>aI mem false 1 v12 hp (fun v13=>indexAddr 7 v11 v13 (fun v14=>fieldAddr 0 v14 (fun v15=>aI mem false 1 v15 hp (fun v16=>aH mem false r17 (.nd v16 .lf .lf) hp (fun v17 v18=>bS 0 v17 (fun v19=>bS 1 v17 (fun v20=>(ar .neq 3).f v20 (.int 3 0) (fun v21=>AV.aJ v21 (fun v22=>when v22 (.ret (.n x0 x1 (S []) v20 x4 x5 v19 x7 (.n x8 x9 .uu .uu .uu .uu .uu .uu .e)) v18) ((a4i).run .lf (.n x0 x1 x2 x3 x4 x5 v19 x7 (.n x8 x9 .uu .uu .uu .uu .uu .uu .e)) v18))))))))))))) := by kernel_rfl
theorem a4j (x0 x1 x2 x3 x4 x5 x6 x7 x8 x9 : AV) (hp : Hp) : (a4i).run .lf (.n x0 x1 x2 x3 x4 x5 x6 x7 (.n x8 x9 .uu .uu .uu .uu .uu .uu .e)) hp = fieldAddr 4 x5 (fun v23=>aI mem false 1 v23 hp (fun v24=>aH mem false r18 (.nd v24 .lf .lf) hp (fun v25 v26=>bS 0 v25 (fun v27=>bS 1 v25 (fun v28=>(ar .neq 3).f v28 (.int 3 0) (fun v29=>AV.aJ v29 (fun v30=>when v30 (.ret (.n x0 x1 (S []) v28 x4 x5 x6 v27 (.n x8 x9 .uu .uu .uu .uu .uu .uu .e)) v26) ((wY).run .lf (.n x0 x1 x2 x3 x4 x5 x6 v27 (.n x8 x9 .uu .uu .uu .uu .uu .uu .e)) v26)))))))) := by kernel_rfl
theorem yP (x0 x1 x2 x3 x4 x5 x6 x7 x8 x9 : AV) (hp : Hp) : (wY).run .lf (.n x0 x1 x2 x3 x4 x5 x6 x7 (.n x8 x9 .uu .uu .uu .uu .uu .uu .e)) hp = kh 30 hp (fun v31=>fieldAddr 0 x5 (fun v32=>aI mem false 1 v32 v31 (fun v33=>fieldAddr 1 x5 (fun v34=>aI mem false 1 v34 v31 (fun v35=>fieldAddr 2 x5 (fun v36=>aI mem false 1 v36 v31 (fun v37=>fieldAddr 3 x5 (fun v38=>aI mem false 1 v38 v31 (fun v39=>fieldAddr 5 x5 (fun v40=>aI mem false 1 v40 v31 (fun v41=>fB mem .nil (.cons (fun v45=>v45 v40) (.cons (fun v46=>v46 v38) (.cons (fun v47=>v47 v36) (.cons (fun v48=>v48 v34) .nil)))) v31 (fun h42=>aH mem false r19 (.nd v33 .lf .lf) h42 (fun v43 v44=>.val v43 v44)) (fun v49 v50=>(gM .add).f v50 (S [58,32,103,111,114,111,117,116,105,110,101,32]) (fun v51=>fB mem .nil (.cons (fun v55=>v55 v40) (.cons (fun v56=>v56 v38) (.cons (fun v57=>v57 v36) .nil))) v49 (fun h52=>aH mem false r19 (.nd v35 .lf .lf) h52 (fun v53 v54=>.val v53 v54)) (fun v58 v59=>(gM .add).f v51 v59 (fun v60=>(gM .add).f v60 (S [32]) (fun v61=>(gM .add).f v61 x6 (fun v62=>(gM .add).f v62 (S [32]) (fun v63=>fB mem .nil (.cons (fun v67=>v67 v40) (.cons (fun v68=>v68 v38) .nil)) v58 (fun h64=>aH mem false r19 (.nd v37 .lf .lf) h64 (fun v65 v66=>.val v65 v66)) (fun v69 v70=>(gM .add).f v63 v70 (fun v71=>(gM .add).f v71 (S [32,97,116,32]) (fun v72=>fB mem .nil (.cons (fun v76=>v76 v40) .nil) v69 (fun h73=>aH mem false r19 (.nd v39 .lf .lf) h73 (fun v74 v75=>.val v74 v75)) (fun v77 v78=>(gM .add).f v72 v78 (fun v79=>(gM .add).f v79 (S [32]) (fun v80=>(gM .add).f v80 x7 (fun v81=>(gM .add).f v81 (S [44,32,102,114,97,109,101,115,32]) (fun v82=>fB mem .nil .nil v77 (fun h83=>aH mem false r19 (.nd v41 .lf .lf) h83 (fun v84 v85=>.val v84 v85)) (fun v86 v87=>(gM .add).f v82 v87 (fun v88=>fieldAddr 6 x5 (fun v89=>aI mem false 1 v89 v86 (fun v90=>(ar .eql 4).f v90 (.int 4 0) (fun v91=>AV.aJ v91 (fun v92=>when v92 (.ret (.n x0 x1 v88 (.int 3 0) x4 x5 x6 x7 (.n v88 x9 .uu .uu .uu .uu .uu .uu .e)) v86) ((se).run .lf (.n x0 x1 x2 x3 x4 x5 x6 x7 (.n v88 x9 .uu .uu .uu .uu .uu .uu .e)) v86))))))))))))))))))))))))))))))))) := by kernel_rfl
theorem vn (x0 x1 x2 x3 x4 x5 x6 x7 x8 x9 : AV) (hp : Hp) : (se).run .lf (.n x0 x1 x2 x3 x4 x5 x6 x7 (.n x8 x9 .uu .uu .uu .uu .uu .uu .e)) hp = fieldAddr 6 x5 (fun v93=>aI mem false 1 v93 hp (fun v94=>aH mem false r20 (.nd v94 .lf .lf) hp (fun v95 v96=>bS 0 v95 (fun v97=>bS 1 v95 (fun v98=>(ar .neq 3).f v98 (.int 3 0) (fun v99=>AV.aJ v99 (fun v100=>when v100 (.ret (.n x0 x1 (S []) v98 x4 x5 x6 x7 (.n x8 v97 .uu .uu .uu .uu .uu .uu .e)) v96) ((oI).run .lf (.n x0 x1 x2 x3 x4 x5 x6 x7 (.n x8 v97 .uu .uu .uu .uu .uu .uu .e)) v96)))))))) := by kernel_rfl
theorem sf (x0 x1 x2 x3 x4 x5 x6 x7 x8 x9 : AV) (hp : Hp) : (oI).run .lf (.n x0 x1 x2 x3 x4 x5 x6 x7 (.n x8 x9 .uu .uu .uu .uu .uu .uu .e)) hp = (gM .add).f x8 (S [44,32]) (fun v101=>(gM .add).f v101 x9 (fun v102=>.ret (.n x0 x1 v102 (.int 3 0) x4 x5 x6 x7 (.n x8 x9 .uu .uu .uu .uu .uu .uu .e)) hp)) := by kernel_rfl
end
end Go.Proofs.YtpiokjcbadfalaaGreatDoor.Tz
