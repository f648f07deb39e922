import Derived.Test.YtohhpcggahlpjaaJ1p
import Derived.Test.YtohhpcggahlpjaaY2p
import Derived.Test.YtohhpcggahlpjaaY3p
import Derived.Test.YtohhpcggahlpjaaZ4p
set_option linter.unusedVariables false
set_option linter.unusedSimpArgs false
set_option maxRecDepth 1000000
set_option maxHeartbeats 4000000
namespace Go.Proofs.Ytohhpcggahlpjaa
open Go.RowKit
abbrev EnT := (Int × (Int × (Int × (Int × Int))))
abbrev NT := Int × (Int × (Int × (Int × (Int × (Int × (Int × (Int × (Int × (Int × (Int × (Int × (Int × (Int × (Int × (Int × (Int × (Int × List (Int × (Int × (Int × (Int × Int)))))))))))))))))))))
abbrev Ou := Int × (Int × (Int × Int))
noncomputable def pickB {δ : Type} (v123 v124 v125 v126 v127 v128 v129 v130 v131 v132 v133 v134 v135 v136 v137 x118 : Int) : (Int × Int) → Option ((Int × Int) ⊕ ((Int × Int) ⊕ δ)) :=
(fun (v139, v140) =>
 bif (decide (v139 < (14 : Int))) then
 bif (decide (((0 : Int) ≤ v139) ∧ (v139 < (14 : Int)))) then 
 bindO (v123 :: (v124 :: (v125 :: (v126 :: (v127 :: (v128 :: (v129 :: (v130 :: (v131 :: (v132 :: (v133 :: (v134 :: (v135 :: (v136 :: (v137 :: ([] : List Int))))))))))))))))[(Int.toNat v139)]? fun x141 =>
 bif (decide (x141 ≥ (0 : Int))) then
 bif (decide (((0 : Int) ≤ v139) ∧ (v139 < (14 : Int)))) then 
 bindO (v123 :: (v124 :: (v125 :: (v126 :: (v127 :: (v128 :: (v129 :: (v130 :: (v131 :: (v132 :: (v133 :: (v134 :: (v135 :: (v136 :: (v137 :: ([] : List Int))))))))))))))))[(Int.toNat v139)]? fun x142 =>
 bif (decide (x142 ≤ x118)) then
 bif (decide (v140 < (0 : Int))) then
 some (Sum.inl ((Go.IntKind.wrap .i64 (v139 + (1 : Int))), v139))
 else
 bif (decide (((0 : Int) ≤ v139) ∧ (v139 < (14 : Int)))) then 
 bindO (v123 :: (v124 :: (v125 :: (v126 :: (v127 :: (v128 :: (v129 :: (v130 :: (v131 :: (v132 :: (v133 :: (v134 :: (v135 :: (v136 :: (v137 :: ([] : List Int))))))))))))))))[(Int.toNat v139)]? fun x144 =>
 bif (decide (((0 : Int) ≤ v140) ∧ (v140 < (14 : Int)))) then 
 bindO (v123 :: (v124 :: (v125 :: (v126 :: (v127 :: (v128 :: (v129 :: (v130 :: (v131 :: (v132 :: (v133 :: (v134 :: (v135 :: (v136 :: (v137 :: ([] : List Int))))))))))))))))[(Int.toNat v140)]? fun x145 =>
 bif (decide (x144 < x145)) then
 some (Sum.inl ((Go.IntKind.wrap .i64 (v139 + (1 : Int))), v139))
 else
 some (Sum.inl ((Go.IntKind.wrap .i64 (v139 + (1 : Int))), v140))
 else none
 else none
 else
 some (Sum.inl ((Go.IntKind.wrap .i64 (v139 + (1 : Int))), v140))
 else none
 else
 some (Sum.inl ((Go.IntKind.wrap .i64 (v139 + (1 : Int))), v140))
 else none
 else
 outO (some (Sum.inl (v139, v140))))
noncomputable def takeB {δ : Type} (x159 : List Ou) : (Int × NT) → Option ((Int × NT) ⊕ (NT ⊕ δ)) :=
(fun (v160, (v161, (v162, (v163, (v164, (v165, (v166, (v167, (v168, (v169, (v170, (v171, (v172, (v173, (v174, (v175, (v176, (v177, (v178, v179))))))))))))))))))) =>
 bif (decide (v160 < (((List.length x159) : Nat) : Int))) then
 bif (decide (((0 : Int) ≤ v160) ∧ (v160 < (((List.length x159) : Nat) : Int)))) then 
 bindO x159[(Int.toNat v160)]? fun x180 =>
 bif (decide ((List.length v179) ≤ (List.length v179))) then 
 bif (decide (((List.length ((List.take (List.length v179) v179) ++ ((v178, (x180.1, (x180.2.1, (x180.2.2.1, x180.2.2.2)))) :: ([] : List (Int × (Int × (Int × (Int × Int)))))))) * 40) ≤ 140737488355328)) then 
 bindO (some ((List.take (List.length v179) v179) ++ ((v178, (x180.1, (x180.2.1, (x180.2.2.1, x180.2.2.2)))) :: ([] : List (Int × (Int × (Int × (Int × Int)))))))) fun x181 =>
 bif (decide (((0 : Int) ≤ v160) ∧ (v160 < (((List.length x159) : Nat) : Int)))) then 
 bindO x159[(Int.toNat v160)]? fun x182 =>
 bif (decide (x182.1 = (4 : Int))) then
 bif (decide (((0 : Int) ≤ v160) ∧ (v160 < (((List.length x159) : Nat) : Int)))) then 
 bindO x159[(Int.toNat v160)]? fun x183 =>
 bif (decide (x183.2.2.1 < (14 : Int))) then
 bif (decide (((0 : Int) ≤ v160) ∧ (v160 < (((List.length x159) : Nat) : Int)))) then 
 bindO x159[(Int.toNat v160)]? fun x184 =>
 bif (decide (((0 : Int) ≤ v160) ∧ (v160 < (((List.length x159) : Nat) : Int)))) then 
 bindO x159[(Int.toNat v160)]? fun x185 =>
 bif (decide (((0 : Int) ≤ x184.2.2.1) ∧ (x184.2.2.1 < (14 : Int)))) then 
 bif (decide ((((Int.toNat x184.2.2.1) * 1) + 1) ≤ 15)) then 
 bindO (some (putL (v164 :: (v165 :: (v166 :: (v167 :: (v168 :: (v169 :: (v170 :: (v171 :: (v172 :: (v173 :: (v174 :: (v175 :: (v176 :: (v177 :: (v178 :: ([] : List Int)))))))))))))))) ((Int.toNat x184.2.2.1) * 1) ((Go.IntKind.wrap .i64 (v178 + (maxA (1 : Int) x185.2.2.2))) :: ([] : List Int)))) fun x187 =>
 bif (decide ((List.length x181) ≤ (List.length x181))) then 
 some (Sum.inl ((Go.IntKind.wrap .i64 (v160 + (1 : Int))), (v161, (v162, (v163, ((List.getD x187 0 (0 : Int)), ((List.getD x187 1 (0 : Int)), ((List.getD x187 2 (0 : Int)), ((List.getD x187 3 (0 : Int)), ((List.getD x187 4 (0 : Int)), ((List.getD x187 5 (0 : Int)), ((List.getD x187 6 (0 : Int)), ((List.getD x187 7 (0 : Int)), ((List.getD x187 8 (0 : Int)), ((List.getD x187 9 (0 : Int)), ((List.getD x187 10 (0 : Int)), ((List.getD x187 11 (0 : Int)), ((List.getD x187 12 (0 : Int)), ((List.getD x187 13 (0 : Int)), ((List.getD x187 14 (0 : Int)), (List.take (List.length x181) x181)))))))))))))))))))))
 else none
 else none
 else none
 else none
 else none
 else
 bif (decide ((List.length x181) ≤ (List.length x181))) then 
 some (Sum.inl ((Go.IntKind.wrap .i64 (v160 + (1 : Int))), (v161, (v162, (v163, (v164, (v165, (v166, (v167, (v168, (v169, (v170, (v171, (v172, (v173, (v174, (v175, (v176, (v177, (v178, (List.take (List.length x181) x181)))))))))))))))))))))
 else none
 else none
 else
 bif (decide ((List.length x181) ≤ (List.length x181))) then 
 some (Sum.inl ((Go.IntKind.wrap .i64 (v160 + (1 : Int))), (v161, (v162, (v163, (v164, (v165, (v166, (v167, (v168, (v169, (v170, (v171, (v172, (v173, (v174, (v175, (v176, (v177, (v178, (List.take (List.length x181) x181)))))))))))))))))))))
 else none
 else none
 else none
 else none
 else none
 else
 outO (bif (decide ((List.length v179) ≤ (List.length v179))) then 
 some (Sum.inl (v161, (v162, (v163, (v164, (v165, (v166, (v167, (v168, (v169, (v170, (v171, (v172, (v173, (v174, (v175, (v176, (v177, (v178, (List.take (List.length v179) v179))))))))))))))))))))
 else none))
noncomputable def untilB {γ : Type} (x118 : Int) : (Int × NT) → Option ((Int × NT) ⊕ (NT ⊕ γ)) :=
(fun (v119, (v120, (v121, (v122, (v123, (v124, (v125, (v126, (v127, (v128, (v129, (v130, (v131, (v132, (v133, (v134, (v135, (v136, (v137, v138))))))))))))))))))) =>
 bif (decide (v119 < (200 : Int))) then
 joinO (joinO (loopO (pickB v123 v124 v125 v126 v127 v128 v129 v130 v131 v132 v133 v134 v135 v136 v137 x118) ((0 : Int), (-1 : Int))) fun (v150, v151) =>
 bif (decide (v151 < (0 : Int))) then
 outO (outO (bif (decide ((List.length v138) ≤ (List.length v138))) then 
 some (Sum.inl (v120, (v121, (v122, (v123, (v124, (v125, (v126, (v127, (v128, (v129, (v130, (v131, (v132, (v133, (v134, (v135, (v136, (v137, (List.take (List.length v138) v138))))))))))))))))))))
 else none))
 else
 bif (decide (((0 : Int) ≤ v151) ∧ (v151 < (14 : Int)))) then 
 bindO (v123 :: (v124 :: (v125 :: (v126 :: (v127 :: (v128 :: (v129 :: (v130 :: (v131 :: (v132 :: (v133 :: (v134 :: (v135 :: (v136 :: (v137 :: ([] : List Int))))))))))))))))[(Int.toNat v151)]? fun x152 =>
 bif (decide (((0 : Int) ≤ v151) ∧ (v151 < (14 : Int)))) then 
 bif (decide ((((Int.toNat v151) * 1) + 1) ≤ 15)) then 
 bindO (some (putL (v123 :: (v124 :: (v125 :: (v126 :: (v127 :: (v128 :: (v129 :: (v130 :: (v131 :: (v132 :: (v133 :: (v134 :: (v135 :: (v136 :: (x152 :: ([] : List Int)))))))))))))))) ((Int.toNat v151) * 1) ((-1 : Int) :: ([] : List Int)))) fun x153 =>
 bindO (client_Step ((v120, (v121, v122)), ((5 : Int), ((0 : Int), (Go.IntKind.wrap .u8 v151))))) fun ((x156, (x157, x158)), x159) =>
 joinO (bif (decide ((List.length v138) ≤ (List.length v138))) then 
 loopO (takeB x159) ((0 : Int), (x156, (x157, (x158, ((List.getD x153 0 (0 : Int)), ((List.getD x153 1 (0 : Int)), ((List.getD x153 2 (0 : Int)), ((List.getD x153 3 (0 : Int)), ((List.getD x153 4 (0 : Int)), ((List.getD x153 5 (0 : Int)), ((List.getD x153 6 (0 : Int)), ((List.getD x153 7 (0 : Int)), ((List.getD x153 8 (0 : Int)), ((List.getD x153 9 (0 : Int)), ((List.getD x153 10 (0 : Int)), ((List.getD x153 11 (0 : Int)), ((List.getD x153 12 (0 : Int)), ((List.getD x153 13 (0 : Int)), ((List.getD x153 14 (0 : Int)), (List.take (List.length v138) v138))))))))))))))))))))
 else none) fun (v191, (v192, (v193, (v194, (v195, (v196, (v197, (v198, (v199, (v200, (v201, (v202, (v203, (v204, (v205, (v206, (v207, (v208, v209)))))))))))))))))) =>
 bif (decide ((List.length v209) ≤ (List.length v209))) then 
 some (Sum.inl (v150, (v151, (v191, (v192, (v193, (v194, (v195, (v196, (v197, (v198, (v199, (v200, (v201, (v202, (v203, (v204, (v205, (v206, (v207, (v208, (List.take (List.length v209) v209))))))))))))))))))))))
 else none
 else none
 else none
 else none) fun (v210, (v211, (v212, (v213, (v214, (v215, (v216, (v217, (v218, (v219, (v220, (v221, (v222, (v223, (v224, (v225, (v226, (v227, (v228, (v229, v230)))))))))))))))))))) =>
 bif (decide ((List.length v230) ≤ (List.length v230))) then 
 some (Sum.inl ((Go.IntKind.wrap .i64 (v119 + (1 : Int))), (v212, (v213, (v214, (v215, (v216, (v217, (v218, (v219, (v220, (v221, (v222, (v223, (v224, (v225, (v226, (v227, (v228, (v229, (List.take (List.length v230) v230)))))))))))))))))))))
 else none
 else
 outO (bif (decide ((List.length v138) ≤ (List.length v138))) then 
 some (Sum.inl (v120, (v121, (v122, (v123, (v124, (v125, (v126, (v127, (v128, (v129, (v130, (v131, (v132, (v133, (v134, (v135, (v136, (v137, (List.take (List.length v138) v138))))))))))))))))))))
 else none))
noncomputable def eventsB (a1 : List (Int × (Int × Int))) : (Int × NT) → Option ((Int × NT) ⊕ (NT ⊕ Bool)) :=
(fun (v96, (v97, (v98, (v99, (v100, (v101, (v102, (v103, (v104, (v105, (v106, (v107, (v108, (v109, (v110, (v111, (v112, (v113, (v114, v115))))))))))))))))))) =>
 bif (decide (v96 < (((List.length a1) : Nat) : Int))) then
 bif (decide (v96 < (40 : Int))) then
 bif (decide (((0 : Int) ≤ v96) ∧ (v96 < (((List.length a1) : Nat) : Int)))) then 
 bindO a1[(Int.toNat v96)]? fun x116 =>
 bindO (some (Go.IntKind.wrap .i64 (v114 + (Go.IntKind.wrap .i64 x116.1)))) fun x118 =>
 joinO (joinO (bif (decide ((List.length v115) ≤ (List.length v115))) then 
 loopO (untilB x118) ((0 : Int), (v97, (v98, (v99, (v100, (v101, (v102, (v103, (v104, (v105, (v106, (v107, (v108, (v109, (v110, (v111, (v112, (v113, (v114, (List.take (List.length v115) v115))))))))))))))))))))
 else none) fun (v232, (v233, (v234, (v235, (v236, (v237, (v238, (v239, (v240, (v241, (v242, (v243, (v244, (v245, (v246, (v247, (v248, (v249, v250)))))))))))))))))) =>
 bif (decide ((List.length v250) ≤ (List.length v250))) then 
 some (Sum.inl (v232, (v233, (v234, (v235, (v236, (v237, (v238, (v239, (v240, (v241, (v242, (v243, (v244, (v245, (v246, (v247, (v248, ((maxA v249 x118), (List.take (List.length v250) v250))))))))))))))))))))
 else none) fun (v251, (v252, (v253, (v254, (v255, (v256, (v257, (v258, (v259, (v260, (v261, (v262, (v263, (v264, (v265, (v266, (v267, (v268, v269)))))))))))))))))) =>
 bif (decide (((0 : Int) ≤ v96) ∧ (v96 < (((List.length a1) : Nat) : Int)))) then 
 bindO a1[(Int.toNat v96)]? fun x270 =>
 bif (decide (((0 : Int) ≤ v96) ∧ (v96 < (((List.length a1) : Nat) : Int)))) then 
 bindO a1[(Int.toNat v96)]? fun x271 =>
 bindO (client_Step ((v251, (v252, v253)), (x270.2.1, (x271.2.2, (0 : Int))))) fun ((x273, (x274, x275)), x276) =>
 joinO (bif (decide ((List.length v269) ≤ (List.length v269))) then 
 loopO (takeB x276) ((0 : Int), (x273, (x274, (x275, (v254, (v255, (v256, (v257, (v258, (v259, (v260, (v261, (v262, (v263, (v264, (v265, (v266, (v267, (v268, (List.take (List.length v269) v269))))))))))))))))))))
 else none) fun (v308, (v309, (v310, (v311, (v312, (v313, (v314, (v315, (v316, (v317, (v318, (v319, (v320, (v321, (v322, (v323, (v324, (v325, v326)))))))))))))))))) =>
 bif (decide ((List.length v326) ≤ (List.length v326))) then 
 some (Sum.inl ((Go.IntKind.wrap .i64 (v96 + (1 : Int))), (v308, (v309, (v310, (v311, (v312, (v313, (v314, (v315, (v316, (v317, (v318, (v319, (v320, (v321, (v322, (v323, (v324, (v325, (List.take (List.length v326) v326)))))))))))))))))))))
 else none
 else none
 else none
 else none
 else
 outO (bif (decide ((List.length v115) ≤ (List.length v115))) then 
 some (Sum.inl (v97, (v98, (v99, (v100, (v101, (v102, (v103, (v104, (v105, (v106, (v107, (v108, (v109, (v110, (v111, (v112, (v113, (v114, (List.take (List.length v115) v115))))))))))))))))))))
 else none)
 else
 outO (bif (decide ((List.length v115) ≤ (List.length v115))) then 
 some (Sum.inl (v97, (v98, (v99, (v100, (v101, (v102, (v103, (v104, (v105, (v106, (v107, (v108, (v109, (v110, (v111, (v112, (v113, (v114, (List.take (List.length v115) v115))))))))))))))))))))
 else none))
noncomputable def cntB {δ : Type} (G : List EnT) (K T lo hi : Int) : (Int × Int) → Option ((Int × Int) ⊕ (Int ⊕ δ)) :=
(fun (v499, v500) =>
 bif (decide (v499 < (((List.length G) : Nat) : Int))) then
 bif (decide (((0 : Int) ≤ v499) ∧ (v499 < (((List.length G) : Nat) : Int)))) then 
 bindO G[(Int.toNat v499)]? fun x501 =>
 bif (decide (x501.2.1 = K)) then
 bif (decide (((0 : Int) ≤ v499) ∧ (v499 < (((List.length G) : Nat) : Int)))) then 
 bindO G[(Int.toNat v499)]? fun x502 =>
 bif (decide (x502.1 ≤ T)) then
 bif (decide (((0 : Int) ≤ v499) ∧ (v499 < (((List.length G) : Nat) : Int)))) then 
 bindO G[(Int.toNat v499)]? fun x503 =>
 bif (decide (x503.2.2.1 ≥ lo)) then
 bif (decide (((0 : Int) ≤ v499) ∧ (v499 < (((List.length G) : Nat) : Int)))) then 
 bindO G[(Int.toNat v499)]? fun x504 =>
 bif (decide (x504.2.2.1 ≤ hi)) then
 some (Sum.inl ((Go.IntKind.wrap .i64 (v499 + (1 : Int))), (Go.IntKind.wrap .i64 (v500 + (1 : Int)))))
 else
 some (Sum.inl ((Go.IntKind.wrap .i64 (v499 + (1 : Int))), v500))
 else none
 else
 some (Sum.inl ((Go.IntKind.wrap .i64 (v499 + (1 : Int))), v500))
 else none
 else
 some (Sum.inl ((Go.IntKind.wrap .i64 (v499 + (1 : Int))), v500))
 else none
 else
 some (Sum.inl ((Go.IntKind.wrap .i64 (v499 + (1 : Int))), v500))
 else none
 else
 outO (some (Sum.inl v500)))
noncomputable def overB (v498 : List EnT) : (Int × Bool) → Option ((Int × Bool) ⊕ (Unit ⊕ Bool)) :=
(fun (v543, v544) =>
 bif (decide (v543 < (((List.length v498) : Nat) : Int))) then
 bif (decide (((0 : Int) ≤ v543) ∧ (v543 < (((List.length v498) : Nat) : Int)))) then 
 bindO v498[(Int.toNat v543)]? fun x545 =>
 bif (decide (((0 : Int) ≤ v543) ∧ (v543 < (((List.length v498) : Nat) : Int)))) then 
 bindO v498[(Int.toNat v543)]? fun x546 =>
 joinO (bif v544 then
 bif (decide (x545.2.1 = (3 : Int))) then
 outO (outO (outO (some Bool.false)))
 else
 bif (decide (x545.2.1 = (1 : Int))) then
 outO (outO (outO (some Bool.false)))
 else
 some (Sum.inl ())
 else
 some (Sum.inl ())) fun _ =>
 bif v544 then
 some (Sum.inl ((Go.IntKind.wrap .i64 (v543 + (1 : Int))), Bool.true))
 else
 bif (decide (x545.2.1 = (3 : Int))) then
 bif (decide (x546.2.2.1 ≥ (200 : Int))) then
 some (Sum.inl ((Go.IntKind.wrap .i64 (v543 + (1 : Int))), Bool.true))
 else
 bif (decide (x545.2.1 = (5 : Int))) then
 some (Sum.inl ((Go.IntKind.wrap .i64 (v543 + (1 : Int))), Bool.true))
 else
 some (Sum.inl ((Go.IntKind.wrap .i64 (v543 + (1 : Int))), (decide (x545.2.1 = (6 : Int)))))
 else
 bif (decide (x545.2.1 = (5 : Int))) then
 some (Sum.inl ((Go.IntKind.wrap .i64 (v543 + (1 : Int))), Bool.true))
 else
 some (Sum.inl ((Go.IntKind.wrap .i64 (v543 + (1 : Int))), (decide (x545.2.1 = (6 : Int)))))
 else none
 else none
 else
 outO (some (Sum.inl ())))
noncomputable def onePre (K : NT → Option Bool) : Option Bool :=

 joinO (loopO (fun (v2, (v3, (v4, (v5, (v6, (v7, (v8, (v9, (v10, (v11, (v12, (v13, (v14, (v15, (v16, (v17, (v18, (v19, v20)))))))))))))))))) =>
 bif (decide (v2 < (14 : Int))) then
 bif (decide (((0 : Int) ≤ v2) ∧ (v2 < (14 : Int)))) then 
 bif (decide ((((Int.toNat v2) * 1) + 1) ≤ 15)) then 
 bindO (some (putL (v6 :: (v7 :: (v8 :: (v9 :: (v10 :: (v11 :: (v12 :: (v13 :: (v14 :: (v15 :: (v16 :: (v17 :: (v18 :: (v19 :: (v20 :: ([] : List Int)))))))))))))))) ((Int.toNat v2) * 1) ((-1 : Int) :: ([] : List Int)))) fun x21 =>
 some (Sum.inl ((Go.IntKind.wrap .i64 (v2 + (1 : Int))), (v3, (v4, (v5, ((List.getD x21 0 (0 : Int)), ((List.getD x21 1 (0 : Int)), ((List.getD x21 2 (0 : Int)), ((List.getD x21 3 (0 : Int)), ((List.getD x21 4 (0 : Int)), ((List.getD x21 5 (0 : Int)), ((List.getD x21 6 (0 : Int)), ((List.getD x21 7 (0 : Int)), ((List.getD x21 8 (0 : Int)), ((List.getD x21 9 (0 : Int)), ((List.getD x21 10 (0 : Int)), ((List.getD x21 11 (0 : Int)), ((List.getD x21 12 (0 : Int)), ((List.getD x21 13 (0 : Int)), (List.getD x21 14 (0 : Int)))))))))))))))))))))
 else none
 else none
 else
 outO (some (Sum.inl (v3, (v4, (v5, (v6, (v7, (v8, (v9, (v10, (v11, (v12, (v13, (v14, (v15, (v16, (v17, (v18, (v19, v20)))))))))))))))))))) ((0 : Int), ((0 : Int), ((0 : Int), ((0 : Int), ((0 : Int), ((0 : Int), ((0 : Int), ((0 : Int), ((0 : Int), ((0 : Int), ((0 : Int), ((0 : Int), ((0 : Int), ((0 : Int), ((0 : Int), ((0 : Int), ((0 : Int), ((0 : Int), (0 : Int)))))))))))))))))))) fun (v23, (v24, (v25, (v26, (v27, (v28, (v29, (v30, (v31, (v32, (v33, (v34, (v35, (v36, (v37, (v38, (v39, v40))))))))))))))))) =>
 bindO (client_Start ()) fun ((x42, (x43, x44)), x45) =>
 joinO (loopO (fun (v46, (v47, (v48, (v49, (v50, (v51, (v52, (v53, (v54, (v55, (v56, (v57, (v58, (v59, (v60, (v61, (v62, (v63, (v64, v65))))))))))))))))))) =>
 bif (decide (v46 < (((List.length x45) : Nat) : Int))) then
 bif (decide (((0 : Int) ≤ v46) ∧ (v46 < (((List.length x45) : Nat) : Int)))) then 
 bindO x45[(Int.toNat v46)]? fun x66 =>
 bif (decide ((List.length v65) ≤ (List.length v65))) then 
 bif (decide (((List.length ((List.take (List.length v65) v65) ++ ((v64, (x66.1, (x66.2.1, (x66.2.2.1, x66.2.2.2)))) :: ([] : List (Int × (Int × (Int × (Int × Int)))))))) * 40) ≤ 140737488355328)) then 
 bindO (some ((List.take (List.length v65) v65) ++ ((v64, (x66.1, (x66.2.1, (x66.2.2.1, x66.2.2.2)))) :: ([] : List (Int × (Int × (Int × (Int × Int)))))))) fun x67 =>
 bif (decide (((0 : Int) ≤ v46) ∧ (v46 < (((List.length x45) : Nat) : Int)))) then 
 bindO x45[(Int.toNat v46)]? fun x68 =>
 bif (decide (x68.1 = (4 : Int))) then
 bif (decide (((0 : Int) ≤ v46) ∧ (v46 < (((List.length x45) : Nat) : Int)))) then 
 bindO x45[(Int.toNat v46)]? fun x69 =>
 bif (decide (x69.2.2.1 < (14 : Int))) then
 bif (decide (((0 : Int) ≤ v46) ∧ (v46 < (((List.length x45) : Nat) : Int)))) then 
 bindO x45[(Int.toNat v46)]? fun x70 =>
 bif (decide (((0 : Int) ≤ v46) ∧ (v46 < (((List.length x45) : Nat) : Int)))) then 
 bindO x45[(Int.toNat v46)]? fun x71 =>
 bif (decide (((0 : Int) ≤ x70.2.2.1) ∧ (x70.2.2.1 < (14 : Int)))) then 
 bif (decide ((((Int.toNat x70.2.2.1) * 1) + 1) ≤ 15)) then 
 bindO (some (putL (v50 :: (v51 :: (v52 :: (v53 :: (v54 :: (v55 :: (v56 :: (v57 :: (v58 :: (v59 :: (v60 :: (v61 :: (v62 :: (v63 :: (v64 :: ([] : List Int)))))))))))))))) ((Int.toNat x70.2.2.1) * 1) ((Go.IntKind.wrap .i64 (v64 + (maxA (1 : Int) x71.2.2.2))) :: ([] : List Int)))) fun x73 =>
 bif (decide ((List.length x67) ≤ (List.length x67))) then 
 some (Sum.inl ((Go.IntKind.wrap .i64 (v46 + (1 : Int))), (v47, (v48, (v49, ((List.getD x73 0 (0 : Int)), ((List.getD x73 1 (0 : Int)), ((List.getD x73 2 (0 : Int)), ((List.getD x73 3 (0 : Int)), ((List.getD x73 4 (0 : Int)), ((List.getD x73 5 (0 : Int)), ((List.getD x73 6 (0 : Int)), ((List.getD x73 7 (0 : Int)), ((List.getD x73 8 (0 : Int)), ((List.getD x73 9 (0 : Int)), ((List.getD x73 10 (0 : Int)), ((List.getD x73 11 (0 : Int)), ((List.getD x73 12 (0 : Int)), ((List.getD x73 13 (0 : Int)), ((List.getD x73 14 (0 : Int)), (List.take (List.length x67) x67)))))))))))))))))))))
 else none
 else none
 else none
 else none
 else none
 else
 bif (decide ((List.length x67) ≤ (List.length x67))) then 
 some (Sum.inl ((Go.IntKind.wrap .i64 (v46 + (1 : Int))), (v47, (v48, (v49, (v50, (v51, (v52, (v53, (v54, (v55, (v56, (v57, (v58, (v59, (v60, (v61, (v62, (v63, (v64, (List.take (List.length x67) x67)))))))))))))))))))))
 else none
 else none
 else
 bif (decide ((List.length x67) ≤ (List.length x67))) then 
 some (Sum.inl ((Go.IntKind.wrap .i64 (v46 + (1 : Int))), (v47, (v48, (v49, (v50, (v51, (v52, (v53, (v54, (v55, (v56, (v57, (v58, (v59, (v60, (v61, (v62, (v63, (v64, (List.take (List.length x67) x67)))))))))))))))))))))
 else none
 else none
 else none
 else none
 else none
 else
 outO (bif (decide ((List.length v65) ≤ (List.length v65))) then 
 some (Sum.inl (v47, (v48, (v49, (v50, (v51, (v52, (v53, (v54, (v55, (v56, (v57, (v58, (v59, (v60, (v61, (v62, (v63, (v64, (List.take (List.length v65) v65))))))))))))))))))))
 else none)) ((0 : Int), (x42, (x43, (x44, (v26, (v27, (v28, (v29, (v30, (v31, (v32, (v33, (v34, (v35, (v36, (v37, (v38, (v39, (v40, ([] : List (Int × (Int × (Int × (Int × Int)))))))))))))))))))))))))  K
noncomputable def oneTail (a1 : List (Int × (Int × Int))) : NT → Option Bool := fun (v77, (v78, (v79, (v80, (v81, (v82, (v83, (v84, (v85, (v86, (v87, (v88, (v89, (v90, (v91, (v92, (v93, (v94, v95)))))))))))))))))) =>
 joinO (bif (decide ((List.length v95) ≤ (List.length v95))) then 
 loopO (eventsB a1) ((0 : Int), (v77, (v78, (v79, (v80, (v81, (v82, (v83, (v84, (v85, (v86, (v87, (v88, (v89, (v90, (v91, (v92, (v93, (v94, (List.take (List.length v95) v95))))))))))))))))))))
 else none) fun (v328, (v329, (v330, (v331, (v332, (v333, (v334, (v335, (v336, (v337, (v338, (v339, (v340, (v341, (v342, (v343, (v344, (v345, v346)))))))))))))))))) =>
 bindO (some (Go.IntKind.wrap .i64 (v345 + (37000 : Int)))) fun x347 =>
 joinO (joinO (bif (decide ((List.length v346) ≤ (List.length v346))) then 
 loopO (untilB x347) ((0 : Int), (v328, (v329, (v330, (v331, (v332, (v333, (v334, (v335, (v336, (v337, (v338, (v339, (v340, (v341, (v342, (v343, (v344, (v345, (List.take (List.length v346) v346))))))))))))))))))))
 else none) fun (v461, (v462, (v463, (v464, (v465, (v466, (v467, (v468, (v469, (v470, (v471, (v472, (v473, (v474, (v475, (v476, (v477, (v478, v479)))))))))))))))))) =>
 bif (decide ((List.length v479) ≤ (List.length v479))) then 
 some (Sum.inl (v461, (v462, (v463, (v464, (v465, (v466, (v467, (v468, (v469, (v470, (v471, (v472, (v473, (v474, (v475, (v476, (v477, ((maxA v478 x347), (List.take (List.length v479) v479))))))))))))))))))))
 else none) fun (v480, (v481, (v482, (v483, (v484, (v485, (v486, (v487, (v488, (v489, (v490, (v491, (v492, (v493, (v494, (v495, (v496, (v497, v498)))))))))))))))))) =>
 joinO (joinO (loopO (cntB v498 3 v497 200 699) ((0 : Int), (0 : Int))) fun v511 =>
 some (Sum.inl v511)) fun v512 =>
 joinO (joinO (loopO (cntB v498 5 v497 0 1000) ((0 : Int), (0 : Int))) fun v525 =>
 some (Sum.inl v525)) fun v526 =>
 joinO (joinO (loopO (cntB v498 6 v497 0 1000) ((0 : Int), (0 : Int))) fun v540 =>
 some (Sum.inl v540)) fun v541 =>
 bif (decide ((Go.IntKind.wrap .i64 ((Go.IntKind.wrap .i64 (v512 + v526)) + v541)) ≠ (1 : Int))) then
 some Bool.false
 else
 joinO (loopO (overB v498) ((0 : Int), Bool.false)) fun _ =>
 joinO (joinO (loopO (cntB v498 7 (37000 : Int) 0 0) ((0 : Int), (0 : Int))) fun v565 =>
 some (Sum.inl v565)) fun v566 =>
 bif (decide (v566 = (1 : Int))) then
 bif (decide (v480 = (7 : Int))) then
 bindO (client_May (v480, (v481, v482))) fun x567 =>
 bif x567 then
 joinO (joinO (joinO (loopO (cntB v498 7 v497 0 1000) ((0 : Int), (0 : Int))) fun v580 =>
 some (Sum.inl v580)) fun v581 =>
 bif (decide (v581 > (1 : Int))) then
 some (Sum.inl Bool.false)
 else
 bif ((decide (v581 = (1 : Int))) != (decide (v480 = (7 : Int)))) then
 some (Sum.inl Bool.false)
 else
 bif (decide (v581 = (0 : Int))) then
 some (Sum.inl Bool.true)
 else
 bif (decide ((((List.length v498) : Nat) : Int) > (0 : Int))) then
 bindO (some (Go.IntKind.wrap .i64 ((((List.length v498) : Nat) : Int) - (1 : Int)))) fun x582 =>
 bif (decide (((0 : Int) ≤ x582) ∧ (x582 < (((List.length v498) : Nat) : Int)))) then 
 bindO v498[(Int.toNat x582)]? fun x583 =>
 some (Sum.inl (decide (x583.2.1 = (7 : Int))))
 else none
 else
 some (Sum.inl Bool.false)) fun v584 =>
 bif v584 then
 some Bool.true
 else
 some Bool.false
 else
 some Bool.false
 else
 some Bool.false
 else
 some Bool.false
theorem one_eq (a1 : List (Int × (Int × Int))) : dialtonelaw13_ClientOne a1 = onePre (oneTail a1) := by kernel_rfl
noncomputable def onePreF (K : NT → Option Bool) : Option Bool :=

 joinO (loopF (fun (v2, (v3, (v4, (v5, (v6, (v7, (v8, (v9, (v10, (v11, (v12, (v13, (v14, (v15, (v16, (v17, (v18, (v19, v20)))))))))))))))))) =>
 bif (decide (v2 < (14 : Int))) then
 bif (decide (((0 : Int) ≤ v2) ∧ (v2 < (14 : Int)))) then 
 bif (decide ((((Int.toNat v2) * 1) + 1) ≤ 15)) then 
 bindO (some (putL (v6 :: (v7 :: (v8 :: (v9 :: (v10 :: (v11 :: (v12 :: (v13 :: (v14 :: (v15 :: (v16 :: (v17 :: (v18 :: (v19 :: (v20 :: ([] : List Int)))))))))))))))) ((Int.toNat v2) * 1) ((-1 : Int) :: ([] : List Int)))) fun x21 =>
 some (Sum.inl ((Go.IntKind.wrap .i64 (v2 + (1 : Int))), (v3, (v4, (v5, ((List.getD x21 0 (0 : Int)), ((List.getD x21 1 (0 : Int)), ((List.getD x21 2 (0 : Int)), ((List.getD x21 3 (0 : Int)), ((List.getD x21 4 (0 : Int)), ((List.getD x21 5 (0 : Int)), ((List.getD x21 6 (0 : Int)), ((List.getD x21 7 (0 : Int)), ((List.getD x21 8 (0 : Int)), ((List.getD x21 9 (0 : Int)), ((List.getD x21 10 (0 : Int)), ((List.getD x21 11 (0 : Int)), ((List.getD x21 12 (0 : Int)), ((List.getD x21 13 (0 : Int)), (List.getD x21 14 (0 : Int)))))))))))))))))))))
 else none
 else none
 else
 outO (some (Sum.inl (v3, (v4, (v5, (v6, (v7, (v8, (v9, (v10, (v11, (v12, (v13, (v14, (v15, (v16, (v17, (v18, (v19, v20)))))))))))))))))))) 100 ((0 : Int), ((0 : Int), ((0 : Int), ((0 : Int), ((0 : Int), ((0 : Int), ((0 : Int), ((0 : Int), ((0 : Int), ((0 : Int), ((0 : Int), ((0 : Int), ((0 : Int), ((0 : Int), ((0 : Int), ((0 : Int), ((0 : Int), ((0 : Int), (0 : Int)))))))))))))))))))) fun (v23, (v24, (v25, (v26, (v27, (v28, (v29, (v30, (v31, (v32, (v33, (v34, (v35, (v36, (v37, (v38, (v39, v40))))))))))))))))) =>
 bindO (client_Start ()) fun ((x42, (x43, x44)), x45) =>
 joinO (loopF (fun (v46, (v47, (v48, (v49, (v50, (v51, (v52, (v53, (v54, (v55, (v56, (v57, (v58, (v59, (v60, (v61, (v62, (v63, (v64, v65))))))))))))))))))) =>
 bif (decide (v46 < (((List.length x45) : Nat) : Int))) then
 bif (decide (((0 : Int) ≤ v46) ∧ (v46 < (((List.length x45) : Nat) : Int)))) then 
 bindO x45[(Int.toNat v46)]? fun x66 =>
 bif (decide ((List.length v65) ≤ (List.length v65))) then 
 bif (decide (((List.length ((List.take (List.length v65) v65) ++ ((v64, (x66.1, (x66.2.1, (x66.2.2.1, x66.2.2.2)))) :: ([] : List (Int × (Int × (Int × (Int × Int)))))))) * 40) ≤ 140737488355328)) then 
 bindO (some ((List.take (List.length v65) v65) ++ ((v64, (x66.1, (x66.2.1, (x66.2.2.1, x66.2.2.2)))) :: ([] : List (Int × (Int × (Int × (Int × Int)))))))) fun x67 =>
 bif (decide (((0 : Int) ≤ v46) ∧ (v46 < (((List.length x45) : Nat) : Int)))) then 
 bindO x45[(Int.toNat v46)]? fun x68 =>
 bif (decide (x68.1 = (4 : Int))) then
 bif (decide (((0 : Int) ≤ v46) ∧ (v46 < (((List.length x45) : Nat) : Int)))) then 
 bindO x45[(Int.toNat v46)]? fun x69 =>
 bif (decide (x69.2.2.1 < (14 : Int))) then
 bif (decide (((0 : Int) ≤ v46) ∧ (v46 < (((List.length x45) : Nat) : Int)))) then 
 bindO x45[(Int.toNat v46)]? fun x70 =>
 bif (decide (((0 : Int) ≤ v46) ∧ (v46 < (((List.length x45) : Nat) : Int)))) then 
 bindO x45[(Int.toNat v46)]? fun x71 =>
 bif (decide (((0 : Int) ≤ x70.2.2.1) ∧ (x70.2.2.1 < (14 : Int)))) then 
 bif (decide ((((Int.toNat x70.2.2.1) * 1) + 1) ≤ 15)) then 
 bindO (some (putL (v50 :: (v51 :: (v52 :: (v53 :: (v54 :: (v55 :: (v56 :: (v57 :: (v58 :: (v59 :: (v60 :: (v61 :: (v62 :: (v63 :: (v64 :: ([] : List Int)))))))))))))))) ((Int.toNat x70.2.2.1) * 1) ((Go.IntKind.wrap .i64 (v64 + (maxA (1 : Int) x71.2.2.2))) :: ([] : List Int)))) fun x73 =>
 bif (decide ((List.length x67) ≤ (List.length x67))) then 
 some (Sum.inl ((Go.IntKind.wrap .i64 (v46 + (1 : Int))), (v47, (v48, (v49, ((List.getD x73 0 (0 : Int)), ((List.getD x73 1 (0 : Int)), ((List.getD x73 2 (0 : Int)), ((List.getD x73 3 (0 : Int)), ((List.getD x73 4 (0 : Int)), ((List.getD x73 5 (0 : Int)), ((List.getD x73 6 (0 : Int)), ((List.getD x73 7 (0 : Int)), ((List.getD x73 8 (0 : Int)), ((List.getD x73 9 (0 : Int)), ((List.getD x73 10 (0 : Int)), ((List.getD x73 11 (0 : Int)), ((List.getD x73 12 (0 : Int)), ((List.getD x73 13 (0 : Int)), ((List.getD x73 14 (0 : Int)), (List.take (List.length x67) x67)))))))))))))))))))))
 else none
 else none
 else none
 else none
 else none
 else
 bif (decide ((List.length x67) ≤ (List.length x67))) then 
 some (Sum.inl ((Go.IntKind.wrap .i64 (v46 + (1 : Int))), (v47, (v48, (v49, (v50, (v51, (v52, (v53, (v54, (v55, (v56, (v57, (v58, (v59, (v60, (v61, (v62, (v63, (v64, (List.take (List.length x67) x67)))))))))))))))))))))
 else none
 else none
 else
 bif (decide ((List.length x67) ≤ (List.length x67))) then 
 some (Sum.inl ((Go.IntKind.wrap .i64 (v46 + (1 : Int))), (v47, (v48, (v49, (v50, (v51, (v52, (v53, (v54, (v55, (v56, (v57, (v58, (v59, (v60, (v61, (v62, (v63, (v64, (List.take (List.length x67) x67)))))))))))))))))))))
 else none
 else none
 else none
 else none
 else none
 else
 outO (bif (decide ((List.length v65) ≤ (List.length v65))) then 
 some (Sum.inl (v47, (v48, (v49, (v50, (v51, (v52, (v53, (v54, (v55, (v56, (v57, (v58, (v59, (v60, (v61, (v62, (v63, (v64, (List.take (List.length v65) v65))))))))))))))))))))
 else none)) 100 ((0 : Int), (x42, (x43, (x44, (v26, (v27, (v28, (v29, (v30, (v31, (v32, (v33, (v34, (v35, (v36, (v37, (v38, (v39, (v40, ([] : List (Int × (Int × (Int × (Int × Int)))))))))))))))))))))))))  K
theorem onePre_le (K : NT → Option Bool) : LeO (onePreF K) (onePre K) := by
  unfold onePreF onePre
  repeat' (first | (with_reducible first | exact LeO.refl _ | apply LeO.bind | apply LeO.join | apply LeO.out | apply LeO.cond | apply LeO.loop) | (intro p; obtain ⟨a, p⟩ : Prod _ _ := p; revert p) | intro _ | dsimp only)
def mkS (s w c e f k now : Int) (log : List EnT) : NT := (s, w, c, -1, -1, -1, -1, -1, e, f, -1, -1, -1, -1, k, -1, -1, now, log)
def log0 : List EnT := [(0, 1, 0, 0, 0), (0, 4, 0, 5, 500), (0, 4, 0, 6, 32000)]
theorem one_run (K : NT → Option Bool) : onePreF K = K (mkS 2 500 0 500 32000 (-1) 0 log0) := by kernel_rfl
theorem one_start (a1 : List (Int × (Int × Int))) (r : Bool) (h : oneTail a1 (mkS 2 500 0 500 32000 (-1) 0 log0) = some r) : dialtonelaw13_ClientOne a1 = some r := by
  rw [one_eq]
  refine onePre_le _ _ ?_
  rw [one_run]
  exact h
end Go.Proofs.Ytohhpcggahlpjaa
