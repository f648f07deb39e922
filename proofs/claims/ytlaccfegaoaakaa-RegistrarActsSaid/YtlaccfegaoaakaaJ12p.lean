import Derived.Test.YtlaccfegaoaakaaJ6p
import Derived.Test.YtlaccfegaoaakaaJ11p
set_option linter.unusedVariables false
set_option linter.unusedSimpArgs false
set_option maxRecDepth 100000
set_option maxHeartbeats 4000000
namespace Go.Proofs.Ytlaccfegaoaakaa
open Go.RowKit
abbrev RB := List Int × Bool
noncomputable def vlR {γ : Type} (L : List Int) : (Int × Int) → Option ((Int × Int) ⊕ (Int ⊕ γ)) :=
(fun (v91, v92) =>
 bif (decide (v91 < (((List.length L) : Nat) : Int))) then
 bif (decide (((0 : Int) ≤ v91) ∧ (v91 < (((List.length L) : Nat) : Int)))) then 
 bindO L[(Int.toNat v91)]? fun x94 =>
 some (Sum.inl ((Go.IntKind.wrap .i64 (v91 + (1 : Int))), (Go.IntKind.wrap .i64 ((Go.IntKind.wrap .i64 ((256 : Int) * v92)) + (Go.IntKind.wrap .i64 x94)))))
 else none
 else
 outO (some (Sum.inl v92)))
noncomputable def wrn1 {γ : Type} (R : List Int) (E : Bool) : Option ((Int × RB) ⊕ γ) :=
 (joinO (bif E then
 some (Sum.inl (([] : List Int), (R, Bool.true)))
 else
 bif (decide ((1 : Int) > (((List.length R) : Nat) : Int))) then
 some (Sum.inl (([] : List Int), (R, Bool.true)))
 else
 bif (decide (((0 : Int) ≤ (1 : Int)) ∧ ((1 : Int) ≤ (((List.length R) : Nat) : Int)))) then 
 bif (decide (((0 : Int) ≤ (1 : Int)) ∧ ((1 : Int) ≤ (((List.length R) : Nat) : Int)))) then 
 some (Sum.inl ((List.take 1 R), ((List.drop 1 R), E)))
 else none
 else none) fun (v88, (v89, v90)) =>
 joinO (loopO (vlR v88) ((0 : Int), (0 : Int))) fun v98 =>
 some (Sum.inl (v98, (v89, v90))))
noncomputable def wrn2 {γ : Type} (R : List Int) (E : Bool) : Option ((Int × RB) ⊕ γ) :=
 (joinO (bif E then
 some (Sum.inl (([] : List Int), (R, Bool.true)))
 else
 bif (decide ((2 : Int) > (((List.length R) : Nat) : Int))) then
 some (Sum.inl (([] : List Int), (R, Bool.true)))
 else
 bif (decide (((0 : Int) ≤ (2 : Int)) ∧ ((2 : Int) ≤ (((List.length R) : Nat) : Int)))) then 
 bif (decide (((0 : Int) ≤ (2 : Int)) ∧ ((2 : Int) ≤ (((List.length R) : Nat) : Int)))) then 
 some (Sum.inl ((List.take 2 R), ((List.drop 2 R), E)))
 else none
 else none) fun (v29, (v30, v31)) =>
 joinO (loopO (vlR v29) ((0 : Int), (0 : Int))) fun v39 =>
 some (Sum.inl (v39, (v30, v31))))
noncomputable def wrs4 {γ : Type} (R : List Int) (E : Bool) : Option ((Int × RB) ⊕ γ) :=
 (joinO (bif E then
 some (Sum.inl (([] : List Int), (R, Bool.true)))
 else
 bif (decide ((4 : Int) > (((List.length R) : Nat) : Int))) then
 some (Sum.inl (([] : List Int), (R, Bool.true)))
 else
 bif (decide (((0 : Int) ≤ (4 : Int)) ∧ ((4 : Int) ≤ (((List.length R) : Nat) : Int)))) then 
 bif (decide (((0 : Int) ≤ (4 : Int)) ∧ ((4 : Int) ≤ (((List.length R) : Nat) : Int)))) then 
 some (Sum.inl ((List.take 4 R), ((List.drop 4 R), E)))
 else none
 else none) fun (v71, (v72, v73)) =>
 joinO (loopO (vlR v71) ((0 : Int), (0 : Int))) fun v81 =>
 bif (decide (v81 > (2147483647 : Int))) then
 some (Sum.inl ((Go.IntKind.wrap .i64 (v81 - (4294967296 : Int))), (v72, v73)))
 else
 some (Sum.inl (v81, (v72, v73))))
noncomputable def wrt {γ : Type} (N : Int) (R : List Int) (E : Bool) : Option ((List Int × RB) ⊕ γ) :=
 (bif E then
 some (Sum.inl (([] : List Int), (R, Bool.true)))
 else
 bif (decide (N > (((List.length R) : Nat) : Int))) then
 some (Sum.inl (([] : List Int), (R, Bool.true)))
 else
 bif (decide (((0 : Int) ≤ N) ∧ (N ≤ (((List.length R) : Nat) : Int)))) then 
 bif (decide (((0 : Int) ≤ N) ∧ (N ≤ (((List.length R) : Nat) : Int)))) then 
 some (Sum.inl ((List.take (Int.toNat N) R), ((List.drop (Int.toNat N) R), E)))
 else none
 else none)
noncomputable def wre8 {γ : Type} (a1 : List Int) (x2 : Int) : Option ((Int × RB) ⊕ γ) :=
 (bif (decide (x2 ≥ (128 : Int))) then
 joinO (bif (decide ((8 : Int) > (((List.length a1) : Nat) : Int))) then
 some (Sum.inl (([] : List Int), (a1, Bool.true)))
 else
 bif (decide (((0 : Int) ≤ (8 : Int)) ∧ ((8 : Int) ≤ (((List.length a1) : Nat) : Int)))) then 
 bif (decide (((0 : Int) ≤ (8 : Int)) ∧ ((8 : Int) ≤ (((List.length a1) : Nat) : Int)))) then 
 some (Sum.inl ((List.take 8 a1), ((List.drop 8 a1), Bool.false)))
 else none
 else none) fun (v5, (v6, v7)) =>
 some (Sum.inl ((0 : Int), (v6, v7)))
 else
 joinO (joinO (bif (decide ((8 : Int) > (((List.length a1) : Nat) : Int))) then
 some (Sum.inl (([] : List Int), (a1, Bool.true)))
 else
 bif (decide (((0 : Int) ≤ (8 : Int)) ∧ ((8 : Int) ≤ (((List.length a1) : Nat) : Int)))) then 
 bif (decide (((0 : Int) ≤ (8 : Int)) ∧ ((8 : Int) ≤ (((List.length a1) : Nat) : Int)))) then 
 some (Sum.inl ((List.take 8 a1), ((List.drop 8 a1), Bool.false)))
 else none
 else none) fun (v10, (v11, v12)) =>
 joinO (loopO (vlR v10) ((0 : Int), (0 : Int))) fun v20 =>
 some (Sum.inl (v20, (v11, v12)))) fun (v21, (v22, v23)) =>
 some (Sum.inl (v21, (v22, v23))))
noncomputable def wrz8 {γ : Type} (a1 : List Int) : Option ((Int × RB) ⊕ γ) :=
 (joinO (joinO (bif (decide ((8 : Int) > (((List.length a1) : Nat) : Int))) then
 some (Sum.inl (([] : List Int), (a1, Bool.true)))
 else
 bif (decide (((0 : Int) ≤ (8 : Int)) ∧ ((8 : Int) ≤ (((List.length a1) : Nat) : Int)))) then 
 bif (decide (((0 : Int) ≤ (8 : Int)) ∧ ((8 : Int) ≤ (((List.length a1) : Nat) : Int)))) then 
 some (Sum.inl ((List.take 8 a1), ((List.drop 8 a1), Bool.false)))
 else none
 else none) fun (v315, (v316, v317)) =>
 joinO (loopO (vlR v315) ((0 : Int), (0 : Int))) fun v325 =>
 some (Sum.inl (v325, (v316, v317)))) fun (v326, (v327, v328)) =>
 some (Sum.inl (v326, (v327, v328))))
noncomputable def wrcB {γ : Type} (v170 : Int) : (Int × (Rr × RB)) → Option ((Int × (Rr × RB)) ⊕ ((Rr × RB) ⊕ γ)) :=
(fun (v173, ((v174, (v175, (v176, (v177, (v178, (v179, (v180, v181))))))), (v182, v183))) =>
 bif (decide (v173 < v170)) then
 bif (!v183) then
 joinO (wrn2 v182 v183) fun (v197, (v198, v199)) =>
 joinO (wrt v197 v198 v199) fun (v202, (v203, v204)) =>
 joinO (wrn2 v203 v204) fun (v218, (v219, v220)) =>
 joinO (wrs4 v219 v220) fun (v235, (v236, v237)) =>
 bif (decide ((List.length v178) ≤ (List.length v178))) then 
 bif (decide (((List.length ((List.take (List.length v178) v178) ++ (((bytesU v202), (v218, v235)) :: ([] : List ((List UInt8) × (Int × Int)))))) * 32) ≤ 140737488355328)) then 
 bindO (some ((List.take (List.length v178) v178) ++ (((bytesU v202), (v218, v235)) :: ([] : List ((List UInt8) × (Int × Int)))))) fun x238 =>
 bif (decide ((List.length x238) ≤ (List.length x238))) then 
 some (Sum.inl ((Go.IntKind.wrap .i64 (v173 + (1 : Int))), ((v174, (v175, (v176, (v177, ((List.take (List.length x238) x238), (v179, (v180, v181))))))), (v236, v237))))
 else none
 else none
 else none
 else
 outO (bif (decide ((List.length v178) ≤ (List.length v178))) then 
 some (Sum.inl ((v174, (v175, (v176, (v177, ((List.take (List.length v178) v178), (v179, (v180, v181))))))), (v182, v183)))
 else none)
 else
 outO (bif (decide ((List.length v178) ≤ (List.length v178))) then 
 some (Sum.inl ((v174, (v175, (v176, (v177, ((List.take (List.length v178) v178), (v179, (v180, v181))))))), (v182, v183)))
 else none))
noncomputable def wrpB {γ : Type} (v263 : Int) : (Int × (Rg9 × RB)) → Option ((Int × (Rg9 × RB)) ⊕ ((Rg9 × RB) ⊕ γ)) :=
(fun (v266, ((v267, (v268, (v269, (v270, (v271, (v272, (v273, (v274, v275)))))))), (v276, v277))) =>
 bif (decide (v266 < v263)) then
 bif (!v277) then
 joinO (wrn2 v276 v277) fun (v291, (v292, v293)) =>
 joinO (wrt v291 v292 v293) fun (v296, (v297, v298)) =>
 bif (decide ((List.length v275) ≤ (List.length v275))) then 
 bif (decide (((List.length ((List.take (List.length v275) v275) ++ ((bytesU v296) :: ([] : List (List UInt8))))) * 16) ≤ 140737488355328)) then 
 bindO (some ((List.take (List.length v275) v275) ++ ((bytesU v296) :: ([] : List (List UInt8))))) fun x299 =>
 bif ((decide ((List.length v271) ≤ (List.length v271))) && (decide ((List.length x299) ≤ (List.length x299)))) then 
 some (Sum.inl ((Go.IntKind.wrap .i64 (v266 + (1 : Int))), ((v267, (v268, (v269, (v270, ((List.take (List.length v271) v271), (v272, (v273, (v274, (List.take (List.length x299) x299))))))))), (v297, v298))))
 else none
 else none
 else none
 else
 outO (bif ((decide ((List.length v271) ≤ (List.length v271))) && (decide ((List.length v275) ≤ (List.length v275)))) then 
 some (Sum.inl ((v267, (v268, (v269, (v270, ((List.take (List.length v271) v271), (v272, (v273, (v274, (List.take (List.length v275) v275))))))))), (v276, v277)))
 else none)
 else
 outO (bif ((decide ((List.length v271) ≤ (List.length v271))) && (decide ((List.length v275) ≤ (List.length v275)))) then 
 some (Sum.inl ((v267, (v268, (v269, (v270, ((List.take (List.length v271) v271), (v272, (v273, (v274, (List.take (List.length v275) v275))))))))), (v276, v277)))
 else none))
theorem decR_eq (a1 : List Int) : dialtoneref22_DecodeAct a1 =

  bif (decide ((((List.length a1) : Nat) : Int) ≥ (8 : Int))) then
   bif (decide (((0 : Int) ≤ (0 : Int)) ∧ ((0 : Int) < (((List.length a1) : Nat) : Int)))) then 
    bindO a1[0]? fun x2 =>
    joinO (wre8 a1 x2) fun (v24, (v25, v26)) =>
    joinO (wrn2 v25 v26) fun (v40, (v41, v42)) =>
    joinO (wrt v40 v41 v42) fun (v45, (v46, v47)) =>
    joinO (wrn2 v46 v47) fun (v61, (v62, v63)) =>
    joinO (wrt v61 v62 v63) fun (v66, (v67, v68)) =>
    joinO (wrs4 v67 v68) fun (v83, (v84, v85)) =>
    joinO (wrn1 v84 v85) fun (v99, (v100, v101)) =>
    joinO (wrs4 v100 v101) fun (v116, (v117, v118)) =>
    joinO (wrn2 v117 v118) fun (v132, (v133, v134)) =>
    joinO (wrt v132 v133 v134) fun (v137, (v138, v139)) =>
    joinO (wrs4 v138 v139) fun (v154, (v155, v156)) =>
    joinO (wrn1 v155 v156) fun (v170, (v171, v172)) =>
    joinO (loopO (wrcB v170) ((0 : Int), (((bytesU v45), ((bytesU v66), (v83, ((decide (v99 = (1 : Int))), (([] : List ((List UInt8) × (Int × Int))), (v116, ((bytesU v137), v154))))))), (v171, v172)))) fun ((v240, (v241, (v242, (v243, (v244, (v245, (v246, v247))))))), (v248, v249)) =>
    joinO (wrn1 v248 v249) fun (v263, (v264, v265)) =>
    joinO (bif (decide ((List.length v244) ≤ (List.length v244))) then 
      loopO (wrpB v263) ((0 : Int), ((v240, (v241, (v242, (v243, ((List.take (List.length v244) v244), (v245, (v246, (v247, ([] : List (List UInt8)))))))))), (v264, v265)))
     else none) fun ((v301, (v302, (v303, (v304, (v305, (v306, (v307, (v308, v309)))))))), (v310, v311)) =>
    bif v311 then
     some ((0 : Int), ((([] : List UInt8), (([] : List UInt8), ((0 : Int), (Bool.false, (([] : List ((List UInt8) × (Int × Int))), ((0 : Int), (([] : List UInt8), ((0 : Int), ([] : List (List UInt8)))))))))), (6 : Int)))
    else
     bif (decide ((((List.length v310) : Nat) : Int) > (0 : Int))) then
      some ((0 : Int), ((([] : List UInt8), (([] : List UInt8), ((0 : Int), (Bool.false, (([] : List ((List UInt8) × (Int × Int))), ((0 : Int), (([] : List UInt8), ((0 : Int), ([] : List (List UInt8)))))))))), (5 : Int)))
     else
      bif (decide (v99 > (1 : Int))) then
       some ((0 : Int), ((([] : List UInt8), (([] : List UInt8), ((0 : Int), (Bool.false, (([] : List ((List UInt8) × (Int × Int))), ((0 : Int), (([] : List UInt8), ((0 : Int), ([] : List (List UInt8)))))))))), (5 : Int)))
      else
       bif (decide (x2 ≥ (128 : Int))) then
        some ((0 : Int), ((([] : List UInt8), (([] : List UInt8), ((0 : Int), (Bool.false, (([] : List ((List UInt8) × (Int × Int))), ((0 : Int), (([] : List UInt8), ((0 : Int), ([] : List (List UInt8)))))))))), (5 : Int)))
       else
        bif ((decide ((List.length v305) ≤ (List.length v305))) && (decide ((List.length v309) ≤ (List.length v309)))) then 
         bindO (dialtoneref22_Formed (v301, (v302, (v303, (v304, ((List.take (List.length v305) v305), (v306, (v307, (v308, (List.take (List.length v309) v309)))))))))) fun x312 =>
         bif (!x312) then
          some ((0 : Int), ((([] : List UInt8), (([] : List UInt8), ((0 : Int), (Bool.false, (([] : List ((List UInt8) × (Int × Int))), ((0 : Int), (([] : List UInt8), ((0 : Int), ([] : List (List UInt8)))))))))), (5 : Int)))
         else
          bif (decide (v24 > (1099511627776 : Int))) then
           some ((0 : Int), ((([] : List UInt8), (([] : List UInt8), ((0 : Int), (Bool.false, (([] : List ((List UInt8) × (Int × Int))), ((0 : Int), (([] : List UInt8), ((0 : Int), ([] : List (List UInt8)))))))))), (5 : Int)))
          else
           bif ((decide ((List.length v305) ≤ (List.length v305))) && (decide ((List.length v309) ≤ (List.length v309)))) then 
            some (v24, ((v301, (v302, (v303, (v304, ((List.take (List.length v305) v305), (v306, (v307, (v308, (List.take (List.length v309) v309))))))))), (0 : Int)))
           else none
        else none
   else none
  else
   joinO (wrz8 a1) fun (v329, (v330, v331)) =>
   joinO (wrn2 v330 v331) fun (v345, (v346, v347)) =>
   joinO (wrt v345 v346 v347) fun (v350, (v351, v352)) =>
   joinO (wrn2 v351 v352) fun (v366, (v367, v368)) =>
   joinO (wrt v366 v367 v368) fun (v371, (v372, v373)) =>
   joinO (wrs4 v372 v373) fun (v388, (v389, v390)) =>
   joinO (wrn1 v389 v390) fun (v404, (v405, v406)) =>
   joinO (wrs4 v405 v406) fun (v421, (v422, v423)) =>
   joinO (wrn2 v422 v423) fun (v437, (v438, v439)) =>
   joinO (wrt v437 v438 v439) fun (v442, (v443, v444)) =>
   joinO (wrs4 v443 v444) fun (v459, (v460, v461)) =>
   joinO (wrn1 v460 v461) fun (v475, (v476, v477)) =>
   joinO (loopO (wrcB v475) ((0 : Int), (((bytesU v350), ((bytesU v371), (v388, ((decide (v404 = (1 : Int))), (([] : List ((List UInt8) × (Int × Int))), (v421, ((bytesU v442), v459))))))), (v476, v477)))) fun ((v545, (v546, (v547, (v548, (v549, (v550, (v551, v552))))))), (v553, v554)) =>
   joinO (wrn1 v553 v554) fun (v568, (v569, v570)) =>
   joinO (bif (decide ((List.length v549) ≤ (List.length v549))) then 
     loopO (wrpB v568) ((0 : Int), ((v545, (v546, (v547, (v548, ((List.take (List.length v549) v549), (v550, (v551, (v552, ([] : List (List UInt8)))))))))), (v569, v570)))
    else none) fun ((v606, (v607, (v608, (v609, (v610, (v611, (v612, (v613, v614)))))))), (v615, v616)) =>
   bif v616 then
    some ((0 : Int), ((([] : List UInt8), (([] : List UInt8), ((0 : Int), (Bool.false, (([] : List ((List UInt8) × (Int × Int))), ((0 : Int), (([] : List UInt8), ((0 : Int), ([] : List (List UInt8)))))))))), (6 : Int)))
   else
    bif (decide ((((List.length v615) : Nat) : Int) > (0 : Int))) then
     some ((0 : Int), ((([] : List UInt8), (([] : List UInt8), ((0 : Int), (Bool.false, (([] : List ((List UInt8) × (Int × Int))), ((0 : Int), (([] : List UInt8), ((0 : Int), ([] : List (List UInt8)))))))))), (5 : Int)))
    else
     bif (decide (v404 > (1 : Int))) then
      some ((0 : Int), ((([] : List UInt8), (([] : List UInt8), ((0 : Int), (Bool.false, (([] : List ((List UInt8) × (Int × Int))), ((0 : Int), (([] : List UInt8), ((0 : Int), ([] : List (List UInt8)))))))))), (5 : Int)))
     else
      bif ((decide ((List.length v610) ≤ (List.length v610))) && (decide ((List.length v614) ≤ (List.length v614)))) then 
       bindO (dialtoneref22_Formed (v606, (v607, (v608, (v609, ((List.take (List.length v610) v610), (v611, (v612, (v613, (List.take (List.length v614) v614)))))))))) fun x617 =>
       bif (!x617) then
        some ((0 : Int), ((([] : List UInt8), (([] : List UInt8), ((0 : Int), (Bool.false, (([] : List ((List UInt8) × (Int × Int))), ((0 : Int), (([] : List UInt8), ((0 : Int), ([] : List (List UInt8)))))))))), (5 : Int)))
       else
        bif (decide (v329 > (1099511627776 : Int))) then
         some ((0 : Int), ((([] : List UInt8), (([] : List UInt8), ((0 : Int), (Bool.false, (([] : List ((List UInt8) × (Int × Int))), ((0 : Int), (([] : List UInt8), ((0 : Int), ([] : List (List UInt8)))))))))), (5 : Int)))
        else
         bif ((decide ((List.length v610) ≤ (List.length v610))) && (decide ((List.length v614) ≤ (List.length v614)))) then 
          some (v329, ((v606, (v607, (v608, (v609, ((List.take (List.length v610) v610), (v611, (v612, (v613, (List.take (List.length v614) v614))))))))), (0 : Int)))
         else none
      else none := rfl
theorem vlR_j {γ : Type} (L : List Int) (hL : By L) (hl : L.length ≤ 8) (h63 : val L < 9223372036854775808) : loopO (vlR (γ := γ) L) (0, 0) = some (.inl (val L)) := by
  refine loopO_from (fun i => ((i : Int), val (L.take i))) L.length rfl (fun i hi => ?_) ?_
  · obtain ⟨x, hx, hxb⟩ := get_at (0 : Int) hi
    have ht := take_snoc L 0 hi
    rw [hx] at ht
    have hb : By (L.take i) := fun y hy => hL y (List.mem_of_mem_take hy)
    have hx8 : 0 ≤ x ∧ x ≤ 255 := by rw [← hx, getD_get 0 hi]; exact hL _ (List.getElem_mem hi)
    have hr := val_rng hb
    have hv : val (L.take (i + 1)) = 256 * val (L.take i) + x := by rw [ht, val_snoc]; omega
    have hm : val (L.take (i + 1)) < 9223372036854775808 := by
      by_cases h7 : i + 1 = 8
      · rw [List.take_of_length_le (by omega)]; exact h63
      · have hb' : By (L.take (i + 1)) := fun y hy => hL y (List.mem_of_mem_take hy)
        have hr' := val_rng hb'
        have hlt : (L.take (i + 1)).length ≤ 7 := by rw [List.length_take]; omega
        have hp : (256 : Int) ^ (L.take (i + 1)).length ≤ 256 ^ 7 := by
          have := Nat.pow_le_pow_right (show 0 < 256 by decide) hlt
          exact_mod_cast this
        have h7' : (256 : Int) ^ 7 = 72057594037927936 := by decide
        omega
    rw [hv] at hm
    simp only [hv]
    generalize val (L.take i) = V at hr hm ⊢
    unfold vlR
    simp (disch := (first | omega | (simp only [List.length_append, List.length_cons, List.length_nil, List.nil_append, List.length_take, List.length_drop]; omega))) only [↓bindO_some, ↓bindO_none, ↓joinO_inl, ↓joinO_inr, ↓joinO_none, ↓outO_some, ↓outO_none, ↓cond_true, ↓cond_false, ↓cond_and, ↓cond_or, ↓cond_not, ↓cond_ite, ↓if_pos, ↓if_neg, ↓if_true, ↓if_false, List.take_length, Nat.le_refl, Bool.not_true, Bool.not_false, if_pos, if_neg, ↓hxb, wrap_i64']
    rfl
  · unfold vlR
    simp (disch := (first | omega | (simp only [List.length_append, List.length_cons, List.length_nil, List.nil_append, List.length_take, List.length_drop]; omega))) only [↓bindO_some, ↓bindO_none, ↓joinO_inl, ↓joinO_inr, ↓joinO_none, ↓outO_some, ↓outO_none, ↓cond_true, ↓cond_false, ↓cond_and, ↓cond_or, ↓cond_not, ↓cond_ite, ↓if_pos, ↓if_neg, ↓if_true, ↓if_false, List.take_length, Nat.le_refl, Bool.not_true, Bool.not_false, if_neg, List.take_length]
theorem vlR_0 {γ : Type} : loopO (vlR (γ := γ) []) (0, 0) = some (.inl 0) := vlR_j [] (fun x hx => by cases hx) (by decide) (by decide)
def sgR (n : Int) : Int := if n > 2147483647 then n - 4294967296 else n
theorem wrn1_t {γ : Type} (R : List Int) : wrn1 (γ := γ) R true = some (.inl (0, (R, true))) := by
  unfold wrn1; simp only [↓bindO_some, ↓bindO_none, ↓joinO_inl, ↓joinO_inr, ↓joinO_none, ↓outO_some, ↓outO_none, ↓cond_true, ↓cond_false, ↓cond_and, ↓cond_or, ↓cond_not, ↓cond_ite, ↓if_pos, ↓if_neg, ↓if_true, ↓if_false, List.take_length, Nat.le_refl, Bool.not_true, Bool.not_false, vlR_0]
theorem wrn2_t {γ : Type} (R : List Int) : wrn2 (γ := γ) R true = some (.inl (0, (R, true))) := by
  unfold wrn2; simp only [↓bindO_some, ↓bindO_none, ↓joinO_inl, ↓joinO_inr, ↓joinO_none, ↓outO_some, ↓outO_none, ↓cond_true, ↓cond_false, ↓cond_and, ↓cond_or, ↓cond_not, ↓cond_ite, ↓if_pos, ↓if_neg, ↓if_true, ↓if_false, List.take_length, Nat.le_refl, Bool.not_true, Bool.not_false, vlR_0]
theorem wrs4_t {γ : Type} (R : List Int) : wrs4 (γ := γ) R true = some (.inl (0, (R, true))) := by
  unfold wrs4; simp only [↓bindO_some, ↓bindO_none, ↓joinO_inl, ↓joinO_inr, ↓joinO_none, ↓outO_some, ↓outO_none, ↓cond_true, ↓cond_false, ↓cond_and, ↓cond_or, ↓cond_not, ↓cond_ite, ↓if_pos, ↓if_neg, ↓if_true, ↓if_false, List.take_length, Nat.le_refl, Bool.not_true, Bool.not_false, vlR_0, show ¬ (0 : Int) > 2147483647 by decide, decide_false]
theorem wrt_t {γ : Type} (N : Int) (R : List Int) : wrt (γ := γ) N R true = some (.inl ([], (R, true))) := by
  unfold wrt; simp only [↓bindO_some, ↓bindO_none, ↓joinO_inl, ↓joinO_inr, ↓joinO_none, ↓outO_some, ↓outO_none, ↓cond_true, ↓cond_false, ↓cond_and, ↓cond_or, ↓cond_not, ↓cond_ite, ↓if_pos, ↓if_neg, ↓if_true, ↓if_false, List.take_length, Nat.le_refl, Bool.not_true, Bool.not_false]
theorem nz1 {R : List Int} (h : Rok R) : (∃ v r, pnum 1 R = some (v, r) ∧ (∀ {γ : Type}, wrn1 (γ := γ) R false = some (.inl (v, (r, false)))) ∧ Rok r ∧ (0 ≤ v ∧ v < 256)) ∨ (pnum 1 R = none ∧ ∀ {γ : Type}, wrn1 (γ := γ) R false = some (.inl (0, (R, true)))) := by
  by_cases g : R.length < 1
  · refine .inr ⟨if_pos g, fun {γ} => ?_⟩
    have g' : (1 : Int) > (R.length : Int) := by omega
    unfold wrn1
    simp only [↓bindO_some, ↓bindO_none, ↓joinO_inl, ↓joinO_inr, ↓joinO_none, ↓outO_some, ↓outO_none, ↓cond_true, ↓cond_false, ↓cond_and, ↓cond_or, ↓cond_not, ↓cond_ite, ↓if_pos, ↓if_neg, ↓if_true, ↓if_false, List.take_length, Nat.le_refl, Bool.not_true, Bool.not_false, g', decide_true, vlR_0]
  · have hp : pnum 1 R = some (val (R.take 1), R.drop 1) := if_neg g
    have hk := pnum_rok hp h
    rw [pow1] at hk
    refine .inl ⟨_, _, hp, fun {γ} => ?_, hk⟩
    have g' : ¬ (1 : Int) > (R.length : Int) := by omega
    have hv : ∀ δ, loopO (vlR (γ := δ) (R.take 1)) (0, 0) = some (.inl (val (R.take 1))) := fun δ => vlR_j _ (fun x hx => h.1 x (List.mem_of_mem_take hx)) (by rw [List.length_take]; omega) (by omega)
    unfold wrn1
    simp (disch := (first | omega | (simp only [List.length_append, List.length_cons, List.length_nil, List.nil_append, List.length_take, List.length_drop]; omega))) only [↓bindO_some, ↓bindO_none, ↓joinO_inl, ↓joinO_inr, ↓joinO_none, ↓outO_some, ↓outO_none, ↓cond_true, ↓cond_false, ↓cond_and, ↓cond_or, ↓cond_not, ↓cond_ite, ↓if_pos, ↓if_neg, ↓if_true, ↓if_false, List.take_length, Nat.le_refl, Bool.not_true, Bool.not_false, g', decide_false, if_pos, hv]
theorem nz2 {R : List Int} (h : Rok R) : (∃ v r, pnum 2 R = some (v, r) ∧ (∀ {γ : Type}, wrn2 (γ := γ) R false = some (.inl (v, (r, false)))) ∧ Rok r ∧ (0 ≤ v ∧ v < 65536)) ∨ (pnum 2 R = none ∧ ∀ {γ : Type}, wrn2 (γ := γ) R false = some (.inl (0, (R, true)))) := by
  have e2 : (256 : Int) ^ 2 = 65536 := by decide
  by_cases g : R.length < 2
  · refine .inr ⟨if_pos g, fun {γ} => ?_⟩
    have g' : (2 : Int) > (R.length : Int) := by omega
    unfold wrn2
    simp only [↓bindO_some, ↓bindO_none, ↓joinO_inl, ↓joinO_inr, ↓joinO_none, ↓outO_some, ↓outO_none, ↓cond_true, ↓cond_false, ↓cond_and, ↓cond_or, ↓cond_not, ↓cond_ite, ↓if_pos, ↓if_neg, ↓if_true, ↓if_false, List.take_length, Nat.le_refl, Bool.not_true, Bool.not_false, g', decide_true, vlR_0]
  · have hp : pnum 2 R = some (val (R.take 2), R.drop 2) := if_neg g
    have hk := pnum_rok hp h
    rw [e2] at hk
    refine .inl ⟨_, _, hp, fun {γ} => ?_, hk⟩
    have g' : ¬ (2 : Int) > (R.length : Int) := by omega
    have hv : ∀ δ, loopO (vlR (γ := δ) (R.take 2)) (0, 0) = some (.inl (val (R.take 2))) := fun δ => vlR_j _ (fun x hx => h.1 x (List.mem_of_mem_take hx)) (by rw [List.length_take]; omega) (by omega)
    unfold wrn2
    simp (disch := (first | omega | (simp only [List.length_append, List.length_cons, List.length_nil, List.nil_append, List.length_take, List.length_drop]; omega))) only [↓bindO_some, ↓bindO_none, ↓joinO_inl, ↓joinO_inr, ↓joinO_none, ↓outO_some, ↓outO_none, ↓cond_true, ↓cond_false, ↓cond_and, ↓cond_or, ↓cond_not, ↓cond_ite, ↓if_pos, ↓if_neg, ↓if_true, ↓if_false, List.take_length, Nat.le_refl, Bool.not_true, Bool.not_false, g', decide_false, if_pos, hv]
theorem sz4 {R : List Int} (h : Rok R) : (∃ v r, pnum 4 R = some (v, r) ∧ (∀ {γ : Type}, wrs4 (γ := γ) R false = some (.inl (sgR v, (r, false)))) ∧ Rok r ∧ (0 ≤ v ∧ v < 4294967296)) ∨ (pnum 4 R = none ∧ ∀ {γ : Type}, wrs4 (γ := γ) R false = some (.inl (0, (R, true)))) := by
  by_cases g : R.length < 4
  · refine .inr ⟨if_pos g, fun {γ} => ?_⟩
    have g' : (4 : Int) > (R.length : Int) := by omega
    unfold wrs4
    simp only [↓bindO_some, ↓bindO_none, ↓joinO_inl, ↓joinO_inr, ↓joinO_none, ↓outO_some, ↓outO_none, ↓cond_true, ↓cond_false, ↓cond_and, ↓cond_or, ↓cond_not, ↓cond_ite, ↓if_pos, ↓if_neg, ↓if_true, ↓if_false, List.take_length, Nat.le_refl, Bool.not_true, Bool.not_false, g', decide_true, vlR_0, show ¬ (0 : Int) > 2147483647 by decide, decide_false]
  · have hp : pnum 4 R = some (val (R.take 4), R.drop 4) := if_neg g
    have hk := pnum_rok hp h
    rw [pow4] at hk
    refine .inl ⟨_, _, hp, fun {γ} => ?_, hk⟩
    have g' : ¬ (4 : Int) > (R.length : Int) := by omega
    have hv : ∀ δ, loopO (vlR (γ := δ) (R.take 4)) (0, 0) = some (.inl (val (R.take 4))) := fun δ => vlR_j _ (fun x hx => h.1 x (List.mem_of_mem_take hx)) (by rw [List.length_take]; omega) (by omega)
    have hr := hk.2
    unfold wrs4 sgR
    by_cases q : val (R.take 4) > 2147483647
    · simp (disch := (first | omega | (simp only [List.length_append, List.length_cons, List.length_nil, List.nil_append, List.length_take, List.length_drop]; omega))) only [↓bindO_some, ↓bindO_none, ↓joinO_inl, ↓joinO_inr, ↓joinO_none, ↓outO_some, ↓outO_none, ↓cond_true, ↓cond_false, ↓cond_and, ↓cond_or, ↓cond_not, ↓cond_ite, ↓if_pos, ↓if_neg, ↓if_true, ↓if_false, List.take_length, Nat.le_refl, Bool.not_true, Bool.not_false, g', decide_false, if_pos, hv, q, wrap_i64']
    · simp (disch := (first | omega | (simp only [List.length_append, List.length_cons, List.length_nil, List.nil_append, List.length_take, List.length_drop]; omega))) only [↓bindO_some, ↓bindO_none, ↓joinO_inl, ↓joinO_inr, ↓joinO_none, ↓outO_some, ↓outO_none, ↓cond_true, ↓cond_false, ↓cond_and, ↓cond_or, ↓cond_not, ↓cond_ite, ↓if_pos, ↓if_neg, ↓if_true, ↓if_false, List.take_length, Nat.le_refl, Bool.not_true, Bool.not_false, g', decide_false, if_pos, if_neg, hv, q]
theorem tz {R : List Int} (h : Rok R) : (∃ t r v s, ptxt R = some (t, r) ∧ (∀ {γ : Type}, wrn2 (γ := γ) R false = some (.inl (v, (s, false)))) ∧ (∀ {γ : Type}, wrt (γ := γ) v s false = some (.inl (t, (r, false)))) ∧ Rok r) ∨ (ptxt R = none ∧ ∃ v s e r, (∀ {γ : Type}, wrn2 (γ := γ) R false = some (.inl (v, (s, e)))) ∧ (∀ {γ : Type}, wrt (γ := γ) v s e = some (.inl ([], (r, true))))) := by
  rcases nz2 h with ⟨v, s, h1, g1, o1, b1⟩ | ⟨h1, g1⟩
  · by_cases q : (s.length : Int) < v
    · refine .inr ⟨by unfold ptxt; rw [h1]; exact if_pos q, v, s, false, s, g1, fun {γ} => ?_⟩
      unfold wrt
      simp (disch := (first | omega | (simp only [List.length_append, List.length_cons, List.length_nil, List.nil_append, List.length_take, List.length_drop]; omega))) only [↓bindO_some, ↓bindO_none, ↓joinO_inl, ↓joinO_inr, ↓joinO_none, ↓outO_some, ↓outO_none, ↓cond_true, ↓cond_false, ↓cond_and, ↓cond_or, ↓cond_not, ↓cond_ite, ↓if_pos, ↓if_neg, ↓if_true, ↓if_false, List.take_length, Nat.le_refl, Bool.not_true, Bool.not_false, if_pos, decide_true]
    · refine .inl ⟨s.take v.toNat, s.drop v.toNat, v, s, by unfold ptxt; rw [h1]; exact if_neg q, g1, fun {γ} => ?_, o1.drop _⟩
      unfold wrt
      simp (disch := (first | omega | (simp only [List.length_append, List.length_cons, List.length_nil, List.nil_append, List.length_take, List.length_drop]; omega))) only [↓bindO_some, ↓bindO_none, ↓joinO_inl, ↓joinO_inr, ↓joinO_none, ↓outO_some, ↓outO_none, ↓cond_true, ↓cond_false, ↓cond_and, ↓cond_or, ↓cond_not, ↓cond_ite, ↓if_pos, ↓if_neg, ↓if_true, ↓if_false, List.take_length, Nat.le_refl, Bool.not_true, Bool.not_false, if_pos, if_neg]
  · exact .inr ⟨by unfold ptxt; rw [h1]; rfl, 0, R, true, R, g1, fun {γ} => wrt_t _ _⟩
theorem pmany_none {α : Type} {p : List Int → Option (α × List Int)} {r : List Int} {i : Nat} (h : pmany p i r = none) : ∀ n, i ≤ n → pmany p n r = none := by
  intro n hn
  induction n with
  | zero => have : i = 0 := by omega
            subst this; exact h
  | succ n ih =>
    by_cases g : i = n + 1
    · subst g; exact h
    · rw [pmany, ih (by omega)]; rfl
theorem wrc_step {γ : Type} (n i : Nat) (hn : n ≤ 255) (hi : i < n) (p1 p2 : Tx) (p3 : Int) (p4 : Bool) (l : List Ct) (p6 : Int) (p7 : Tx) (p8 : Int) {R : List Int} (h : Rok R) (hl : l.length ≤ 1000) :
    ∃ c R' e, wrcB (γ := γ) (n : Int) ((i : Int), ((p1, (p2, (p3, (p4, (l, (p6, (p7, p8))))))), (R, false))) = some (.inl (((i + 1 : Nat) : Int), ((p1, (p2, (p3, (p4, (l ++ [c], (p6, (p7, p8))))))), (R', e)))) ∧ ((e = false ∧ Rok R' ∧ ∃ x, pct R = some (x, R') ∧ c = mcS sgR x) ∨ (e = true ∧ pct R = none)) := by
  have hw : IntKind.wrap .i64 ((i : Int) + 1) = ((i + 1 : Nat) : Int) := by rw [wrap_i64' (by omega)]; omega
  rcases tz h with ⟨t, r1, v, s, h1, g1, g2, o1⟩ | ⟨h1, v, s, e, r1, g1, g2⟩
  · rcases nz2 o1 with ⟨q, r2, h2, g3, o2, b2⟩ | ⟨h2, g3⟩
    · rcases sz4 o2 with ⟨w, r3, h3, g4, o3, b3⟩ | ⟨h3, g4⟩
      · refine ⟨(bytesU t, (q, sgR w)), r3, false, ?_, .inl ⟨rfl, o3, (t, (q, w)), ?_, rfl⟩⟩
        · unfold wrcB
          simp (disch := (first | omega | (simp only [List.length_append, List.length_cons, List.length_nil, List.nil_append, List.length_take, List.length_drop]; omega))) only [↓bindO_some, ↓bindO_none, ↓joinO_inl, ↓joinO_inr, ↓joinO_none, ↓outO_some, ↓outO_none, ↓cond_true, ↓cond_false, ↓cond_and, ↓cond_or, ↓cond_not, ↓cond_ite, ↓if_pos, ↓if_neg, ↓if_true, ↓if_false, List.take_length, Nat.le_refl, Bool.not_true, Bool.not_false, if_pos, g1, g2, g3, g4, hw]
        · unfold pct; rw [h1]; simp only [Option.bind_some, h2, h3]
      · refine ⟨(bytesU t, (q, 0)), r2, true, ?_, .inr ⟨rfl, ?_⟩⟩
        · unfold wrcB
          simp (disch := (first | omega | (simp only [List.length_append, List.length_cons, List.length_nil, List.nil_append, List.length_take, List.length_drop]; omega))) only [↓bindO_some, ↓bindO_none, ↓joinO_inl, ↓joinO_inr, ↓joinO_none, ↓outO_some, ↓outO_none, ↓cond_true, ↓cond_false, ↓cond_and, ↓cond_or, ↓cond_not, ↓cond_ite, ↓if_pos, ↓if_neg, ↓if_true, ↓if_false, List.take_length, Nat.le_refl, Bool.not_true, Bool.not_false, if_pos, g1, g2, g3, g4, hw]
        · unfold pct; rw [h1]; simp only [Option.bind_some, Option.bind_none, h2, h3]
    · refine ⟨(bytesU t, (0, 0)), r1, true, ?_, .inr ⟨rfl, ?_⟩⟩
      · unfold wrcB
        simp (disch := (first | omega | (simp only [List.length_append, List.length_cons, List.length_nil, List.nil_append, List.length_take, List.length_drop]; omega))) only [↓bindO_some, ↓bindO_none, ↓joinO_inl, ↓joinO_inr, ↓joinO_none, ↓outO_some, ↓outO_none, ↓cond_true, ↓cond_false, ↓cond_and, ↓cond_or, ↓cond_not, ↓cond_ite, ↓if_pos, ↓if_neg, ↓if_true, ↓if_false, List.take_length, Nat.le_refl, Bool.not_true, Bool.not_false, if_pos, g1, g2, g3, wrs4_t, hw]
      · unfold pct; rw [h1]; simp only [Option.bind_some, Option.bind_none, h2]
  · refine ⟨(bytesU [], (0, 0)), r1, true, ?_, .inr ⟨rfl, ?_⟩⟩
    · unfold wrcB
      simp (disch := (first | omega | (simp only [List.length_append, List.length_cons, List.length_nil, List.nil_append, List.length_take, List.length_drop]; omega))) only [↓bindO_some, ↓bindO_none, ↓joinO_inl, ↓joinO_inr, ↓joinO_none, ↓outO_some, ↓outO_none, ↓cond_true, ↓cond_false, ↓cond_and, ↓cond_or, ↓cond_not, ↓cond_ite, ↓if_pos, ↓if_neg, ↓if_true, ↓if_false, List.take_length, Nat.le_refl, Bool.not_true, Bool.not_false, if_pos, g1, g2, wrn2_t, wrs4_t, hw]
    · unfold pct; rw [h1]; rfl
theorem wrc_j {γ : Type} (n : Nat) (hn : n ≤ 255) (p1 p2 : Tx) (p3 : Int) (p4 : Bool) (p6 : Int) (p7 : Tx) (p8 : Int) {R0 : List Int} (h : Rok R0) :
    (∃ l R', pmany pct n R0 = some (l, R') ∧ Rok R' ∧ loopO (wrcB (γ := γ) (n : Int)) (0, ((p1, (p2, (p3, (p4, ([], (p6, (p7, p8))))))), (R0, false))) = some (.inl ((p1, (p2, (p3, (p4, (l.map (mcS sgR), (p6, (p7, p8))))))), (R', false)))) ∨
    (pmany pct n R0 = none ∧ ∃ l R', loopO (wrcB (γ := γ) (n : Int)) (0, ((p1, (p2, (p3, (p4, ([], (p6, (p7, p8))))))), (R0, false))) = some (.inl ((p1, (p2, (p3, (p4, (l, (p6, (p7, p8))))))), (R', true)))) := by
  have hp := loopO_post (body := wrcB (γ := γ) (n : Int))
    (fun x => ∃ (i : Nat) (l : List Ct) (R : List Int) (E : Bool), x = ((i : Int), ((p1, (p2, (p3, (p4, (l, (p6, (p7, p8))))))), (R, E))) ∧ i ≤ n ∧ l.length = i ∧ ((E = false ∧ Rok R ∧ ∃ l', pmany pct i R0 = some (l', R) ∧ l = l'.map (mcS sgR)) ∨ (E = true ∧ pmany pct n R0 = none)))
    (fun r => ∃ (l : List Ct) (R : List Int) (E : Bool), r = .inl ((p1, (p2, (p3, (p4, (l, (p6, (p7, p8))))))), (R, E)) ∧ ((E = false ∧ Rok R ∧ ∃ l', pmany pct n R0 = some (l', R) ∧ l = l'.map (mcS sgR)) ∨ (E = true ∧ pmany pct n R0 = none)))
    (fun x => ((n : Int) - x.1).toNat)
    (fun x hx => by
      obtain ⟨i, l, R, E, rfl, hi, hl, hE⟩ := hx
      rcases hE with ⟨rfl, hR, l', g1, g2⟩ | ⟨rfl, g⟩
      · by_cases hin : i < n
        · obtain ⟨c, R', e, q1, q2⟩ := wrc_step (γ := γ) n i hn hin p1 p2 p3 p4 l p6 p7 p8 hR (by omega)
          refine .inr ⟨_, q1, ⟨i + 1, _, _, _, rfl, hin, by rw [List.length_append, hl]; rfl, ?_⟩, ?_⟩
          · rcases q2 with ⟨rfl, o, x, w1, w2⟩ | ⟨rfl, w⟩
            · refine .inl ⟨rfl, o, l' ++ [x], ?_, by rw [List.map_append, g2, w2]; rfl⟩
              rw [pmany_succ g1, w1]; rfl
            · refine .inr ⟨rfl, pmany_none (i := i + 1) ?_ n hin⟩
              rw [pmany_succ g1, w]; rfl
          · show ((n : Int) - ((i + 1 : Nat) : Int)).toNat < ((n : Int) - (i : Int)).toNat
            omega
        · have e : i = n := by omega
          subst e
          refine .inl ⟨.inl ((p1, (p2, (p3, (p4, (l, (p6, (p7, p8))))))), (R, false)), ?_, l, R, false, rfl, .inl ⟨rfl, hR, l', g1, g2⟩⟩
          unfold wrcB
          simp (disch := (first | omega | (simp only [List.length_append, List.length_cons, List.length_nil, List.nil_append, List.length_take, List.length_drop]; omega))) only [↓bindO_some, ↓bindO_none, ↓joinO_inl, ↓joinO_inr, ↓joinO_none, ↓outO_some, ↓outO_none, ↓cond_true, ↓cond_false, ↓cond_and, ↓cond_or, ↓cond_not, ↓cond_ite, ↓if_pos, ↓if_neg, ↓if_true, ↓if_false, List.take_length, Nat.le_refl, Bool.not_true, Bool.not_false, if_neg]
      · refine .inl ⟨.inl ((p1, (p2, (p3, (p4, (l, (p6, (p7, p8))))))), (R, true)), ?_, l, R, true, rfl, .inr ⟨rfl, g⟩⟩
        unfold wrcB
        by_cases hin : i < n
        · simp (disch := (first | omega | (simp only [List.length_append, List.length_cons, List.length_nil, List.nil_append, List.length_take, List.length_drop]; omega))) only [↓bindO_some, ↓bindO_none, ↓joinO_inl, ↓joinO_inr, ↓joinO_none, ↓outO_some, ↓outO_none, ↓cond_true, ↓cond_false, ↓cond_and, ↓cond_or, ↓cond_not, ↓cond_ite, ↓if_pos, ↓if_neg, ↓if_true, ↓if_false, List.take_length, Nat.le_refl, Bool.not_true, Bool.not_false, if_pos]
        · simp (disch := (first | omega | (simp only [List.length_append, List.length_cons, List.length_nil, List.nil_append, List.length_take, List.length_drop]; omega))) only [↓bindO_some, ↓bindO_none, ↓joinO_inl, ↓joinO_inr, ↓joinO_none, ↓outO_some, ↓outO_none, ↓cond_true, ↓cond_false, ↓cond_and, ↓cond_or, ↓cond_not, ↓cond_ite, ↓if_pos, ↓if_neg, ↓if_true, ↓if_false, List.take_length, Nat.le_refl, Bool.not_true, Bool.not_false, if_neg])
    (x := (0, ((p1, (p2, (p3, (p4, ([], (p6, (p7, p8))))))), (R0, false)))) ⟨0, [], R0, false, rfl, by omega, rfl, .inl ⟨rfl, h, [], rfl, rfl⟩⟩
  obtain ⟨r, h1, l, R, E, rfl, hE⟩ := hp
  rcases hE with ⟨rfl, o, l', g1, g2⟩ | ⟨rfl, g⟩
  · subst g2; exact .inl ⟨l', R, g1, o, h1⟩
  · exact .inr ⟨g, l, R, h1⟩
theorem wrp_step {γ : Type} (n i : Nat) (hn : n ≤ 255) (hi : i < n) (p1 p2 : Tx) (p3 : Int) (p4 : Bool) (p5 : List Ct) (p6 : Int) (p7 : Tx) (p8 : Int) (l : List Tx) {R : List Int} (h : Rok R) (hl : l.length ≤ 1000) :
    ∃ c R' e, wrpB (γ := γ) (n : Int) ((i : Int), ((p1, (p2, (p3, (p4, (p5, (p6, (p7, (p8, l)))))))), (R, false))) = some (.inl (((i + 1 : Nat) : Int), ((p1, (p2, (p3, (p4, (p5, (p6, (p7, (p8, l ++ [c])))))))), (R', e)))) ∧ ((e = false ∧ Rok R' ∧ ∃ x, ptxt R = some (x, R') ∧ c = bt x) ∨ (e = true ∧ ptxt R = none)) := by
  have hw : IntKind.wrap .i64 ((i : Int) + 1) = ((i + 1 : Nat) : Int) := by rw [wrap_i64' (by omega)]; omega
  rcases tz h with ⟨t, r1, v, s, h1, g1, g2, o1⟩ | ⟨h1, v, s, e, r1, g1, g2⟩
  · refine ⟨bytesU t, r1, false, ?_, .inl ⟨rfl, o1, t, h1, rfl⟩⟩
    unfold wrpB
    simp (disch := (first | omega | (simp only [List.length_append, List.length_cons, List.length_nil, List.nil_append, List.length_take, List.length_drop]; omega))) only [↓bindO_some, ↓bindO_none, ↓joinO_inl, ↓joinO_inr, ↓joinO_none, ↓outO_some, ↓outO_none, ↓cond_true, ↓cond_false, ↓cond_and, ↓cond_or, ↓cond_not, ↓cond_ite, ↓if_pos, ↓if_neg, ↓if_true, ↓if_false, List.take_length, Nat.le_refl, Bool.not_true, Bool.not_false, if_pos, g1, g2, hw]
  · refine ⟨bytesU [], r1, true, ?_, .inr ⟨rfl, h1⟩⟩
    unfold wrpB
    simp (disch := (first | omega | (simp only [List.length_append, List.length_cons, List.length_nil, List.nil_append, List.length_take, List.length_drop]; omega))) only [↓bindO_some, ↓bindO_none, ↓joinO_inl, ↓joinO_inr, ↓joinO_none, ↓outO_some, ↓outO_none, ↓cond_true, ↓cond_false, ↓cond_and, ↓cond_or, ↓cond_not, ↓cond_ite, ↓if_pos, ↓if_neg, ↓if_true, ↓if_false, List.take_length, Nat.le_refl, Bool.not_true, Bool.not_false, if_pos, g1, g2, hw]
theorem wrp_j {γ : Type} (n : Nat) (hn : n ≤ 255) (p1 p2 : Tx) (p3 : Int) (p4 : Bool) (p5 : List Ct) (p6 : Int) (p7 : Tx) (p8 : Int) {R0 : List Int} (h : Rok R0) :
    (∃ l R', pmany ptxt n R0 = some (l, R') ∧ Rok R' ∧ loopO (wrpB (γ := γ) (n : Int)) (0, ((p1, (p2, (p3, (p4, (p5, (p6, (p7, (p8, [])))))))), (R0, false))) = some (.inl ((p1, (p2, (p3, (p4, (p5, (p6, (p7, (p8, l.map bt)))))))), (R', false)))) ∨
    (pmany ptxt n R0 = none ∧ ∃ l R', loopO (wrpB (γ := γ) (n : Int)) (0, ((p1, (p2, (p3, (p4, (p5, (p6, (p7, (p8, [])))))))), (R0, false))) = some (.inl ((p1, (p2, (p3, (p4, (p5, (p6, (p7, (p8, l)))))))), (R', true)))) := by
  have hp := loopO_post (body := wrpB (γ := γ) (n : Int))
    (fun x => ∃ (i : Nat) (l : List Tx) (R : List Int) (E : Bool), x = ((i : Int), ((p1, (p2, (p3, (p4, (p5, (p6, (p7, (p8, l)))))))), (R, E))) ∧ i ≤ n ∧ l.length = i ∧ ((E = false ∧ Rok R ∧ ∃ l', pmany ptxt i R0 = some (l', R) ∧ l = l'.map bt) ∨ (E = true ∧ pmany ptxt n R0 = none)))
    (fun r => ∃ (l : List Tx) (R : List Int) (E : Bool), r = .inl ((p1, (p2, (p3, (p4, (p5, (p6, (p7, (p8, l)))))))), (R, E)) ∧ ((E = false ∧ Rok R ∧ ∃ l', pmany ptxt n R0 = some (l', R) ∧ l = l'.map bt) ∨ (E = true ∧ pmany ptxt n R0 = none)))
    (fun x => ((n : Int) - x.1).toNat)
    (fun x hx => by
      obtain ⟨i, l, R, E, rfl, hi, hl, hE⟩ := hx
      rcases hE with ⟨rfl, hR, l', g1, g2⟩ | ⟨rfl, g⟩
      · by_cases hin : i < n
        · obtain ⟨c, R', e, q1, q2⟩ := wrp_step (γ := γ) n i hn hin p1 p2 p3 p4 p5 p6 p7 p8 l hR (by omega)
          refine .inr ⟨_, q1, ⟨i + 1, _, _, _, rfl, hin, by rw [List.length_append, hl]; rfl, ?_⟩, ?_⟩
          · rcases q2 with ⟨rfl, o, x, w1, w2⟩ | ⟨rfl, w⟩
            · refine .inl ⟨rfl, o, l' ++ [x], ?_, by rw [List.map_append, g2, w2]; rfl⟩
              rw [pmany_succ g1, w1]; rfl
            · refine .inr ⟨rfl, pmany_none (i := i + 1) ?_ n hin⟩
              rw [pmany_succ g1, w]; rfl
          · show ((n : Int) - ((i + 1 : Nat) : Int)).toNat < ((n : Int) - (i : Int)).toNat
            omega
        · have e : i = n := by omega
          subst e
          refine .inl ⟨.inl ((p1, (p2, (p3, (p4, (p5, (p6, (p7, (p8, l)))))))), (R, false)), ?_, l, R, false, rfl, .inl ⟨rfl, hR, l', g1, g2⟩⟩
          unfold wrpB
          simp (disch := (first | omega | (simp only [List.length_append, List.length_cons, List.length_nil, List.nil_append, List.length_take, List.length_drop]; omega))) only [↓bindO_some, ↓bindO_none, ↓joinO_inl, ↓joinO_inr, ↓joinO_none, ↓outO_some, ↓outO_none, ↓cond_true, ↓cond_false, ↓cond_and, ↓cond_or, ↓cond_not, ↓cond_ite, ↓if_pos, ↓if_neg, ↓if_true, ↓if_false, List.take_length, Nat.le_refl, Bool.not_true, Bool.not_false, if_neg, and_dec, and_self, decide_true, Bool.and_self]
      · refine .inl ⟨.inl ((p1, (p2, (p3, (p4, (p5, (p6, (p7, (p8, l)))))))), (R, true)), ?_, l, R, true, rfl, .inr ⟨rfl, g⟩⟩
        unfold wrpB
        by_cases hin : i < n
        · simp (disch := (first | omega | (simp only [List.length_append, List.length_cons, List.length_nil, List.nil_append, List.length_take, List.length_drop]; omega))) only [↓bindO_some, ↓bindO_none, ↓joinO_inl, ↓joinO_inr, ↓joinO_none, ↓outO_some, ↓outO_none, ↓cond_true, ↓cond_false, ↓cond_and, ↓cond_or, ↓cond_not, ↓cond_ite, ↓if_pos, ↓if_neg, ↓if_true, ↓if_false, List.take_length, Nat.le_refl, Bool.not_true, Bool.not_false, if_pos, and_dec, and_self, decide_true, Bool.and_self]
        · simp (disch := (first | omega | (simp only [List.length_append, List.length_cons, List.length_nil, List.nil_append, List.length_take, List.length_drop]; omega))) only [↓bindO_some, ↓bindO_none, ↓joinO_inl, ↓joinO_inr, ↓joinO_none, ↓outO_some, ↓outO_none, ↓cond_true, ↓cond_false, ↓cond_and, ↓cond_or, ↓cond_not, ↓cond_ite, ↓if_pos, ↓if_neg, ↓if_true, ↓if_false, List.take_length, Nat.le_refl, Bool.not_true, Bool.not_false, if_neg, and_dec, and_self, decide_true, Bool.and_self])
    (x := (0, ((p1, (p2, (p3, (p4, (p5, (p6, (p7, (p8, [])))))))), (R0, false)))) ⟨0, [], R0, false, rfl, by omega, rfl, .inl ⟨rfl, h, [], rfl, rfl⟩⟩
  obtain ⟨r, h1, l, R, E, rfl, hE⟩ := hp
  rcases hE with ⟨rfl, o, l', g1, g2⟩ | ⟨rfl, g⟩
  · subst g2; exact .inl ⟨l', R, g1, o, h1⟩
  · exact .inr ⟨g, l, R, h1⟩
theorem wrc_0 {γ : Type} (x : Rr × RB) : loopO (wrcB (γ := γ) 0) (0, x) = some (.inl x) := by
  obtain ⟨⟨p1, p2, p3, p4, p5, p6, p7, p8⟩, R, E⟩ := x
  rw [loopO_eq]
  unfold wrcB
  simp (disch := (first | omega | (simp only [List.length_append, List.length_cons, List.length_nil, List.nil_append, List.length_take, List.length_drop]; omega))) only [↓bindO_some, ↓bindO_none, ↓joinO_inl, ↓joinO_inr, ↓joinO_none, ↓outO_some, ↓outO_none, ↓cond_true, ↓cond_false, ↓cond_and, ↓cond_or, ↓cond_not, ↓cond_ite, ↓if_pos, ↓if_neg, ↓if_true, ↓if_false, List.take_length, Nat.le_refl, Bool.not_true, Bool.not_false, if_neg]
theorem wrp_0 {γ : Type} (x : Rg9 × RB) : loopO (wrpB (γ := γ) 0) (0, x) = some (.inl x) := by
  obtain ⟨⟨p1, p2, p3, p4, p5, p6, p7, p8, p9⟩, R, E⟩ := x
  rw [loopO_eq]
  unfold wrpB
  simp (disch := (first | omega | (simp only [List.length_append, List.length_cons, List.length_nil, List.nil_append, List.length_take, List.length_drop]; omega))) only [↓bindO_some, ↓bindO_none, ↓joinO_inl, ↓joinO_inr, ↓joinO_none, ↓outO_some, ↓outO_none, ↓cond_true, ↓cond_false, ↓cond_and, ↓cond_or, ↓cond_not, ↓cond_ite, ↓if_pos, ↓if_neg, ↓if_true, ↓if_false, List.take_length, Nat.le_refl, Bool.not_true, Bool.not_false, if_neg, and_dec, and_self, decide_true, Bool.and_self]
end Go.Proofs.Ytlaccfegaoaakaa
