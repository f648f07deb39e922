/- Chapter 18, plain: the order of the codes. -/
import Derived.Test.YtonejiaiieiboaaJ6
set_option linter.unusedVariables false
set_option linter.unusedSimpArgs false
namespace Go.Proofs.Ytonejiaiieiboaa
open Go.RowKit

/-- A link: sender, the last number accepted, the codes accepted, the final code, early, failed. -/
abbrev Lk := Int × (Int × (Int × (List Int × (Bool × (Bool × (Int × (List Int × (Int × (Bool × Bool)))))))))
noncomputable def dB {γ : Type} (x28 : List Out18) (x33 : Bool) : (Int × Lk) → Option ((Int × Lk) ⊕ (Lk ⊕ γ)) :=
(fun (v34, (v35, (v36, (v37, (v38, (v39, (v40, (v41, (v42, (v43, (v44, v45))))))))))) =>
               bif (decide (v34 < (((List.length x28) : Nat) : Int))) then
                bif (decide (((0 : Int) ≤ v34) ∧ (v34 < (((List.length x28) : Nat) : Int)))) then 
                 bindO x28[(Int.toNat v34)]? fun x46 =>
                 bif (decide (x46.1 = (1 : Int))) then
                  bif x33 then
                   bif (decide ((List.length v42) ≤ (List.length v42))) then 
                    some (Sum.inl ((Go.IntKind.wrap .i64 (v34 + (1 : Int))), (v35, (v36, (v37, (v38, (v39, (v40, (v41, ((List.take (List.length v42) v42), (v43, (v44, v45))))))))))))
                   else none
                  else
                   bif (decide (((0 : Int) ≤ v34) ∧ (v34 < (((List.length x28) : Nat) : Int)))) then 
                    bindO x28[(Int.toNat v34)]? fun x48 =>
                    bindO (provisional_Accept (v41, x48.2.2.1)) fun (x50, x51) =>
                    bif x51 then
                     bif (decide (((0 : Int) ≤ v34) ∧ (v34 < (((List.length x28) : Nat) : Int)))) then 
                      bindO x28[(Int.toNat v34)]? fun x52 =>
                      bif (decide ((List.length v42) ≤ (List.length v42))) then 
                       bif (decide (((List.length ((List.take (List.length v42) v42) ++ (x52.2.1 :: ([] : List Int)))) * 8) ≤ 140737488355328)) then 
                        bindO (some ((List.take (List.length v42) v42) ++ (x52.2.1 :: ([] : List Int)))) fun x53 =>
                        bif (decide ((List.length x53) ≤ (List.length x53))) then 
                         some (Sum.inl ((Go.IntKind.wrap .i64 (v34 + (1 : Int))), (v35, (v36, (v37, (v38, (v39, (v40, (x50, ((List.take (List.length x53) x53), (v43, (v44, v45))))))))))))
                        else none
                       else none
                      else none
                     else none
                    else
                     bif (decide ((List.length v42) ≤ (List.length v42))) then 
                      some (Sum.inl ((Go.IntKind.wrap .i64 (v34 + (1 : Int))), (v35, (v36, (v37, (v38, (v39, (v40, (v41, ((List.take (List.length v42) v42), (v43, (v44, v45))))))))))))
                     else none
                   else none
                 else
                  bif (decide (x46.1 = (2 : Int))) then
                   bif (decide (((0 : Int) ≤ v34) ∧ (v34 < (((List.length x28) : Nat) : Int)))) then 
                    bindO x28[(Int.toNat v34)]? fun x56 =>
                    bif (decide ((List.length v42) ≤ (List.length v42))) then 
                     some (Sum.inl ((Go.IntKind.wrap .i64 (v34 + (1 : Int))), (v35, (v36, (v37, (v38, (v39, (v40, (v41, ((List.take (List.length v42) v42), (x56.2.1, (v44, v45))))))))))))
                    else none
                   else none
                  else
                   bif (decide (x46.1 = (4 : Int))) then
                    bif (decide ((List.length v42) ≤ (List.length v42))) then 
                     some (Sum.inl ((Go.IntKind.wrap .i64 (v34 + (1 : Int))), (v35, (v36, (v37, (v38, (v39, (v40, (v41, ((List.take (List.length v42) v42), (v43, (v44, Bool.true))))))))))))
                    else none
                   else
                    bif (decide ((List.length v42) ≤ (List.length v42))) then 
                     some (Sum.inl ((Go.IntKind.wrap .i64 (v34 + (1 : Int))), (v35, (v36, (v37, (v38, (v39, (v40, (v41, ((List.take (List.length v42) v42), (v43, (v44, v45))))))))))))
                    else none
                else none
               else
                outO (bif (decide ((List.length v42) ≤ (List.length v42))) then 
                 some (Sum.inl (v35, (v36, (v37, (v38, (v39, (v40, (v41, ((List.take (List.length v42) v42), (v43, (v44, v45)))))))))))
                else none))
noncomputable def dB0 {γ : Type} (x28 : List Out18) : (Int × Lk) → Option ((Int × Lk) ⊕ (Lk ⊕ γ)) :=
(fun (v72, (v73, (v74, (v75, (v76, (v77, (v78, (v79, (v80, (v81, (v82, v83))))))))))) =>
              bif (decide (v72 < (((List.length x28) : Nat) : Int))) then
               bif (decide (((0 : Int) ≤ v72) ∧ (v72 < (((List.length x28) : Nat) : Int)))) then 
                bindO x28[(Int.toNat v72)]? fun x84 =>
                bif (decide (x84.1 = (1 : Int))) then
                 bif (decide (((0 : Int) ≤ v72) ∧ (v72 < (((List.length x28) : Nat) : Int)))) then 
                  bindO x28[(Int.toNat v72)]? fun x85 =>
                  bindO (provisional_Accept (v79, x85.2.2.1)) fun (x87, x88) =>
                  bif x88 then
                   bif (decide (((0 : Int) ≤ v72) ∧ (v72 < (((List.length x28) : Nat) : Int)))) then 
                    bindO x28[(Int.toNat v72)]? fun x89 =>
                    bif (decide ((List.length v80) ≤ (List.length v80))) then 
                     bif (decide (((List.length ((List.take (List.length v80) v80) ++ (x89.2.1 :: ([] : List Int)))) * 8) ≤ 140737488355328)) then 
                      bindO (some ((List.take (List.length v80) v80) ++ (x89.2.1 :: ([] : List Int)))) fun x90 =>
                      bif (decide ((List.length x90) ≤ (List.length x90))) then 
                       some (Sum.inl ((Go.IntKind.wrap .i64 (v72 + (1 : Int))), (v73, (v74, (v75, (v76, (v77, (v78, (x87, ((List.take (List.length x90) x90), (v81, (v82, v83))))))))))))
                      else none
                     else none
                    else none
                   else none
                  else
                   bif (decide ((List.length v80) ≤ (List.length v80))) then 
                    some (Sum.inl ((Go.IntKind.wrap .i64 (v72 + (1 : Int))), (v73, (v74, (v75, (v76, (v77, (v78, (v79, ((List.take (List.length v80) v80), (v81, (v82, v83))))))))))))
                   else none
                 else none
                else
                 bif (decide (x84.1 = (2 : Int))) then
                  bif (decide (((0 : Int) ≤ v72) ∧ (v72 < (((List.length x28) : Nat) : Int)))) then 
                   bindO x28[(Int.toNat v72)]? fun x93 =>
                   bif (decide ((List.length v80) ≤ (List.length v80))) then 
                    some (Sum.inl ((Go.IntKind.wrap .i64 (v72 + (1 : Int))), (v73, (v74, (v75, (v76, (v77, (v78, (v79, ((List.take (List.length v80) v80), (x93.2.1, (v82, v83))))))))))))
                   else none
                  else none
                 else
                  bif (decide (x84.1 = (4 : Int))) then
                   bif (decide ((List.length v80) ≤ (List.length v80))) then 
                    some (Sum.inl ((Go.IntKind.wrap .i64 (v72 + (1 : Int))), (v73, (v74, (v75, (v76, (v77, (v78, (v79, ((List.take (List.length v80) v80), (v81, (v82, Bool.true))))))))))))
                   else none
                  else
                   bif (decide ((List.length v80) ≤ (List.length v80))) then 
                    some (Sum.inl ((Go.IntKind.wrap .i64 (v72 + (1 : Int))), (v73, (v74, (v75, (v76, (v77, (v78, (v79, ((List.take (List.length v80) v80), (v81, (v82, v83))))))))))))
                   else none
               else none
              else
               outO (bif (decide ((List.length v80) ≤ (List.length v80))) then 
                some (Sum.inl (v73, (v74, (v75, (v76, (v77, (v78, (v79, ((List.take (List.length v80) v80), (v81, (v82, v83)))))))))))
               else none))
noncomputable def OA (a1 : List Int) (a2 : List Bool) : (Int × (List Int × (Lk × Int))) → Option ((Int × (List Int × (Lk × Int))) ⊕ ((List Int × (Lk × Int)) ⊕ Bool)) :=
(fun (v3, (v4, ((v5, (v6, (v7, (v8, (v9, (v10, (v11, (v12, (v13, (v14, v15)))))))))), v16))) =>
    bif (decide (v3 < (((List.length a1) : Nat) : Int))) then
     bif (decide (v3 < (14 : Int))) then
      bif (decide (((0 : Int) ≤ v3) ∧ (v3 < (((List.length a1) : Nat) : Int)))) then 
       bindO a1[(Int.toNat v3)]? fun x17 =>
       bindO (some (Go.IntKind.wrap .i64 ((101 : Int) + (Go.IntKind.wrap .i64 (Int.tmod x17 (99 : Int)))))) fun x20 =>
       bindO (provisional_Offer ((v5, (v6, (v7, (v8, (v9, v10))))), x20)) fun ((x22, (x23, (x24, (x25, (x26, x27))))), (x28, x29)) =>
       bif (decide (x29 ≠ (0 : Int))) then
        outO (outO (some Bool.false))
       else
        bif (decide ((List.length v4) ≤ (List.length v4))) then 
         bif (decide (((List.length ((List.take (List.length v4) v4) ++ (x20 :: ([] : List Int)))) * 8) ≤ 140737488355328)) then 
          bindO (some ((List.take (List.length v4) v4) ++ (x20 :: ([] : List Int)))) fun x30 =>
          bindO (some (Go.IntKind.wrap .i64 (v16 + (1 : Int)))) fun x31 =>
          bif (decide (x31 ≤ (((List.length a2) : Nat) : Int))) then
           bindO (some (Go.IntKind.wrap .i64 (x31 - (1 : Int)))) fun x32 =>
           bif (decide (((0 : Int) ≤ x32) ∧ (x32 < (((List.length a2) : Nat) : Int)))) then 
            bindO a2[(Int.toNat x32)]? fun x33 =>
            joinO (bif (decide ((List.length v12) ≤ (List.length v12))) then 
              loopO (dB x28 x33) ((0 : Int), (x22, (x23, (x24, (x25, (x26, (x27, (v11, ((List.take (List.length v12) v12), (v13, (v14, v15)))))))))))
             else none) fun (v60, (v61, (v62, (v63, (v64, (v65, (v66, (v67, (v68, (v69, v70)))))))))) =>
            bif ((decide ((List.length x30) ≤ (List.length x30))) && (decide ((List.length v67) ≤ (List.length v67)))) then 
             some (Sum.inl ((Go.IntKind.wrap .i64 (v3 + (1 : Int))), ((List.take (List.length x30) x30), ((v60, (v61, (v62, (v63, (v64, (v65, (v66, ((List.take (List.length v67) v67), (v68, (v69, v70)))))))))), x31))))
            else none
           else none
          else
           joinO (bif (decide ((List.length v12) ≤ (List.length v12))) then 
             loopO (dB0 x28) ((0 : Int), (x22, (x23, (x24, (x25, (x26, (x27, (v11, ((List.take (List.length v12) v12), (v13, (v14, v15)))))))))))
            else none) fun (v97, (v98, (v99, (v100, (v101, (v102, (v103, (v104, (v105, (v106, v107)))))))))) =>
           bif ((decide ((List.length x30) ≤ (List.length x30))) && (decide ((List.length v104) ≤ (List.length v104)))) then 
            some (Sum.inl ((Go.IntKind.wrap .i64 (v3 + (1 : Int))), ((List.take (List.length x30) x30), ((v97, (v98, (v99, (v100, (v101, (v102, (v103, ((List.take (List.length v104) v104), (v105, (v106, v107)))))))))), x31))))
           else none
         else none
        else none
      else none
     else
      outO (bif ((decide ((List.length v4) ≤ (List.length v4))) && (decide ((List.length v12) ≤ (List.length v12)))) then 
       some (Sum.inl ((List.take (List.length v4) v4), ((v5, (v6, (v7, (v8, (v9, (v10, (v11, ((List.take (List.length v12) v12), (v13, (v14, v15)))))))))), v16)))
      else none)
    else
     outO (bif ((decide ((List.length v4) ≤ (List.length v4))) && (decide ((List.length v12) ≤ (List.length v12)))) then 
      some (Sum.inl ((List.take (List.length v4) v4), ((v5, (v6, (v7, (v8, (v9, (v10, (v11, ((List.take (List.length v12) v12), (v13, (v14, v15)))))))))), v16)))
     else none))
abbrev OT2 := Int × (List Out18 × (Lk × (Int × Rel18)))
noncomputable def OB1 (a2 : List Bool) (v167 v170 v171 v172 : Int) (v173 : List Int) (v174 v175 : Bool) (v176 v181 : Int) : Option ((Int × (List Out18 × (Rel18 × Int))) ⊕ ((Int × OT2) ⊕ (OT2 ⊕ Bool))) :=
(bif (decide (v167 < (100 : Int))) then
          bindO (some (Go.IntKind.wrap .i64 (v181 + (1 : Int)))) fun x188 =>
          bif (decide (x188 ≤ (((List.length a2) : Nat) : Int))) then
           bindO (some (Go.IntKind.wrap .i64 (x188 - (1 : Int)))) fun x189 =>
           bif (decide (((0 : Int) ≤ x189) ∧ (x189 < (((List.length a2) : Nat) : Int)))) then 
            bindO a2[(Int.toNat x189)]? fun x190 =>
            bif x190 then
             bindO (provisional_Fire ((v170, (v171, (v172, (v173, (v174, v175))))), (1 : Int))) fun ((x192, (x193, (x194, (x195, (x196, x197))))), (x198, x199)) =>
             some (Sum.inl (x199, (x198, ((x192, (x193, (x194, (x195, (x196, x197))))), x188))))
            else
             bif (decide (v176 ≠ v170)) then
              bindO (provisional_Fire ((v170, (v171, (v172, (v173, (v174, v175))))), (1 : Int))) fun ((x201, (x202, (x203, (x204, (x205, x206))))), (x207, x208)) =>
              some (Sum.inl (x208, (x207, ((x201, (x202, (x203, (x204, (x205, x206))))), x188))))
             else
              bindO (provisional_Ack ((v170, (v171, (v172, (v173, (v174, v175))))), v176)) fun ((x210, (x211, (x212, (x213, (x214, x215))))), (x216, x217)) =>
              some (Sum.inl (x217, (x216, ((x210, (x211, (x212, (x213, (x214, x215))))), x188))))
           else none
          else
           bif (decide (v176 ≠ v170)) then
            bindO (provisional_Fire ((v170, (v171, (v172, (v173, (v174, v175))))), (1 : Int))) fun ((x219, (x220, (x221, (x222, (x223, x224))))), (x225, x226)) =>
            some (Sum.inl (x226, (x225, ((x219, (x220, (x221, (x222, (x223, x224))))), x188))))
           else
            bindO (provisional_Ack ((v170, (v171, (v172, (v173, (v174, v175))))), v176)) fun ((x228, (x229, (x230, (x231, (x232, x233))))), (x234, x235)) =>
            some (Sum.inl (x235, (x234, ((x228, (x229, (x230, (x231, (x232, x233))))), x188))))
         else
          bif (decide (v176 ≠ v170)) then
           bindO (provisional_Fire ((v170, (v171, (v172, (v173, (v174, v175))))), (1 : Int))) fun ((x237, (x238, (x239, (x240, (x241, x242))))), (x243, x244)) =>
           some (Sum.inl (x244, (x243, ((x237, (x238, (x239, (x240, (x241, x242))))), v181))))
          else
           bindO (provisional_Ack ((v170, (v171, (v172, (v173, (v174, v175))))), v176)) fun ((x246, (x247, (x248, (x249, (x250, x251))))), (x252, x253)) =>
           some (Sum.inl (x253, (x252, ((x246, (x247, (x248, (x249, (x250, x251))))), v181)))))
noncomputable def OB2 (a2 : List Bool) (v109 : List Int) (v167 v254 : Int) (v255 : List Out18) (v256 v257 v258 : Int) (v259 : List Int) (v260 v261 : Bool) (v262 v176 : Int) (v177 : List Int) (v178 : Int) (v179 v180 : Bool) : Option ((Int × OT2) ⊕ (OT2 ⊕ Bool)) :=

        bif (decide (v254 ≠ (0 : Int))) then
         outO (outO (some Bool.false))
        else
         bindO (provisional_May (v256, (v257, (v258, (v259, (v260, v261)))))) fun x263 =>
         bif (!x263) then
          outO (outO (some Bool.false))
         else
          bif (decide (v167 < (100 : Int))) then
           bindO (some (Go.IntKind.wrap .i64 (v262 + (1 : Int)))) fun x264 =>
           bif (decide (x264 ≤ (((List.length a2) : Nat) : Int))) then
            bindO (some (Go.IntKind.wrap .i64 (x264 - (1 : Int)))) fun x265 =>
            bif (decide (((0 : Int) ≤ x265) ∧ (x265 < (((List.length a2) : Nat) : Int)))) then 
             bindO a2[(Int.toNat x265)]? fun x266 =>
             joinO (bif (decide ((List.length v177) ≤ (List.length v177))) then 
               loopO (dB v255 x266) ((0 : Int), (v256, (v257, (v258, (v259, (v260, (v261, (v176, ((List.take (List.length v177) v177), (v178, (v179, v180)))))))))))
              else none) fun (v293, (v294, (v295, (v296, (v297, (v298, (v299, (v300, (v301, (v302, v303)))))))))) =>
             bif v302 then
              bif (decide ((List.length v300) ≤ (List.length v300))) then 
               some (Sum.inl ((Go.IntKind.wrap .i64 (v167 + (1 : Int))), (v254, (v255, ((v293, (v294, (v295, (v296, (v297, (v298, (v299, ((List.take (List.length v300) v300), (v301, (Bool.true, v303)))))))))), (x264, (v256, (v257, (v258, (v259, (v260, v261)))))))))))
              else none
             else
              bif (decide (v301 ≠ (0 : Int))) then
               bif (decide ((List.length v300) ≤ (List.length v300))) then 
                some (Sum.inl ((Go.IntKind.wrap .i64 (v167 + (1 : Int))), (v254, (v255, ((v293, (v294, (v295, (v296, (v297, (v298, (v299, ((List.take (List.length v300) v300), (v301, ((decide ((((List.length v300) : Nat) : Int) < (((List.length v109) : Nat) : Int))), v303)))))))))), (x264, (v256, (v257, (v258, (v259, (v260, v261)))))))))))
               else none
              else
               bif (decide ((List.length v300) ≤ (List.length v300))) then 
                some (Sum.inl ((Go.IntKind.wrap .i64 (v167 + (1 : Int))), (v254, (v255, ((v293, (v294, (v295, (v296, (v297, (v298, (v299, ((List.take (List.length v300) v300), (v301, (Bool.false, v303)))))))))), (x264, (v256, (v257, (v258, (v259, (v260, v261)))))))))))
               else none
            else none
           else
            joinO (bif (decide ((List.length v177) ≤ (List.length v177))) then 
              loopO (dB0 v255) ((0 : Int), (v256, (v257, (v258, (v259, (v260, (v261, (v176, ((List.take (List.length v177) v177), (v178, (v179, v180)))))))))))
             else none) fun (v332, (v333, (v334, (v335, (v336, (v337, (v338, (v339, (v340, (v341, v342)))))))))) =>
            bif v341 then
             bif (decide ((List.length v339) ≤ (List.length v339))) then 
              some (Sum.inl ((Go.IntKind.wrap .i64 (v167 + (1 : Int))), (v254, (v255, ((v332, (v333, (v334, (v335, (v336, (v337, (v338, ((List.take (List.length v339) v339), (v340, (Bool.true, v342)))))))))), (x264, (v256, (v257, (v258, (v259, (v260, v261)))))))))))
             else none
            else
             bif (decide (v340 ≠ (0 : Int))) then
              bif (decide ((List.length v339) ≤ (List.length v339))) then 
               some (Sum.inl ((Go.IntKind.wrap .i64 (v167 + (1 : Int))), (v254, (v255, ((v332, (v333, (v334, (v335, (v336, (v337, (v338, ((List.take (List.length v339) v339), (v340, ((decide ((((List.length v339) : Nat) : Int) < (((List.length v109) : Nat) : Int))), v342)))))))))), (x264, (v256, (v257, (v258, (v259, (v260, v261)))))))))))
              else none
             else
              bif (decide ((List.length v339) ≤ (List.length v339))) then 
               some (Sum.inl ((Go.IntKind.wrap .i64 (v167 + (1 : Int))), (v254, (v255, ((v332, (v333, (v334, (v335, (v336, (v337, (v338, ((List.take (List.length v339) v339), (v340, (Bool.false, v342)))))))))), (x264, (v256, (v257, (v258, (v259, (v260, v261)))))))))))
              else none
          else
           joinO (bif (decide ((List.length v177) ≤ (List.length v177))) then 
             loopO (dB0 v255) ((0 : Int), (v256, (v257, (v258, (v259, (v260, (v261, (v176, ((List.take (List.length v177) v177), (v178, (v179, v180)))))))))))
            else none) fun (v371, (v372, (v373, (v374, (v375, (v376, (v377, (v378, (v379, (v380, v381)))))))))) =>
           bif v380 then
            bif (decide ((List.length v378) ≤ (List.length v378))) then 
             some (Sum.inl ((Go.IntKind.wrap .i64 (v167 + (1 : Int))), (v254, (v255, ((v371, (v372, (v373, (v374, (v375, (v376, (v377, ((List.take (List.length v378) v378), (v379, (Bool.true, v381)))))))))), (v262, (v256, (v257, (v258, (v259, (v260, v261)))))))))))
            else none
           else
            bif (decide (v379 ≠ (0 : Int))) then
             bif (decide ((List.length v378) ≤ (List.length v378))) then 
              some (Sum.inl ((Go.IntKind.wrap .i64 (v167 + (1 : Int))), (v254, (v255, ((v371, (v372, (v373, (v374, (v375, (v376, (v377, ((List.take (List.length v378) v378), (v379, ((decide ((((List.length v378) : Nat) : Int) < (((List.length v109) : Nat) : Int))), v381)))))))))), (v262, (v256, (v257, (v258, (v259, (v260, v261)))))))))))
             else none
            else
             bif (decide ((List.length v378) ≤ (List.length v378))) then 
              some (Sum.inl ((Go.IntKind.wrap .i64 (v167 + (1 : Int))), (v254, (v255, ((v371, (v372, (v373, (v374, (v375, (v376, (v377, ((List.take (List.length v378) v378), (v379, (Bool.false, v381)))))))))), (v262, (v256, (v257, (v258, (v259, (v260, v261)))))))))))
             else none
noncomputable def OB (a2 : List Bool) (v109 : List Int) : (Int × OT2) → Option ((Int × OT2) ⊕ (OT2 ⊕ Bool)) :=
(fun (v167, (v168, (v169, ((v170, (v171, (v172, (v173, (v174, (v175, (v176, (v177, (v178, (v179, v180)))))))))), (v181, (v182, (v183, (v184, (v185, (v186, v187)))))))))) =>
      bif (decide (v167 < (200 : Int))) then
       bif (decide (v178 = (0 : Int))) then
        joinO (OB1 a2 v167 v170 v171 v172 v173 v174 v175 v176 v181) fun (v254, (v255, ((v256, (v257, (v258, (v259, (v260, v261))))), v262))) =>
        OB2 a2 v109 v167 v254 v255 v256 v257 v258 v259 v260 v261 v262 v176 v177 v178 v179 v180
       else
        outO (bif (decide ((List.length v177) ≤ (List.length v177))) then 
         some (Sum.inl (v168, (v169, ((v170, (v171, (v172, (v173, (v174, (v175, (v176, ((List.take (List.length v177) v177), (v178, (v179, v180)))))))))), (v181, (v182, (v183, (v184, (v185, (v186, v187))))))))))
        else none)
      else
       outO (bif (decide ((List.length v177) ≤ (List.length v177))) then 
        some (Sum.inl (v168, (v169, ((v170, (v171, (v172, (v173, (v174, (v175, (v176, ((List.take (List.length v177) v177), (v178, (v179, v180)))))))))), (v181, (v182, (v183, (v184, (v185, (v186, v187))))))))))
       else none))
noncomputable def OC (v109 v394 : List Int) : Int → Option (Int ⊕ (Unit ⊕ Bool)) :=
(fun v405 =>
         bif (decide (v405 < (((List.length v109) : Nat) : Int))) then
          bif (decide (((0 : Int) ≤ v405) ∧ (v405 < (((List.length v394) : Nat) : Int)))) then 
           bindO v394[(Int.toNat v405)]? fun x406 =>
           bif (decide (((0 : Int) ≤ v405) ∧ (v405 < (((List.length v109) : Nat) : Int)))) then 
            bindO v109[(Int.toNat v405)]? fun x407 =>
            bif (decide (x406 ≠ x407)) then
             outO (outO (some Bool.false))
            else
             some (Sum.inl (Go.IntKind.wrap .i64 (v405 + (1 : Int))))
           else none
          else none
         else
          outO (some (Sum.inl ())))
theorem order_eq (a1 : List Int) (a2 : List Bool) : dialtonelaw18_ProvisionalOrder (a1, a2) =

  joinO (loopO (OA a1 a2) ((0 : Int), (([] : List Int), (((0 : Int), ((0 : Int), ((0 : Int), (([] : List Int), (Bool.false, (Bool.false, ((0 : Int), (([] : List Int), ((0 : Int), (Bool.false, Bool.false)))))))))), (0 : Int))))) fun (v109, ((v110, (v111, (v112, (v113, (v114, (v115, (v116, (v117, (v118, (v119, v120)))))))))), v121)) =>
  bindO (provisional_Offer ((v110, (v111, (v112, (v113, (v114, v115))))), (200 : Int))) fun ((x123, (x124, (x125, (x126, (x127, x128))))), (x129, x130)) =>
  bif (decide (x130 ≠ (0 : Int))) then
   some Bool.false
  else
   joinO (bif (decide ((List.length v117) ≤ (List.length v117))) then 
     loopO (dB0 x129) ((0 : Int), (x123, (x124, (x125, (x126, (x127, (x128, (v116, ((List.take (List.length v117) v117), (v118, (v119, v120)))))))))))
    else none) fun (v156, (v157, (v158, (v159, (v160, (v161, (v162, (v163, (v164, (v165, v166)))))))))) =>
   joinO (bif (decide ((List.length v163) ≤ (List.length v163))) then 
     loopO (OB a2 v109) ((0 : Int), (x130, (x129, ((v156, (v157, (v158, (v159, (v160, (v161, (v162, ((List.take (List.length v163) v163), (v164, (v165, v166)))))))))), (v121, (x123, (x124, (x125, (x126, (x127, x128))))))))))
    else none) fun (v385, (v386, ((v387, (v388, (v389, (v390, (v391, (v392, (v393, (v394, (v395, (v396, v397)))))))))), (v398, (v399, (v400, (v401, (v402, (v403, v404))))))))) =>
   bif (decide (v395 ≠ (200 : Int))) then
    some Bool.false
   else
    bif v396 then
     some Bool.false
    else
     bif v397 then
      some Bool.false
     else
      bif (decide ((((List.length v394) : Nat) : Int) ≠ (((List.length v109) : Nat) : Int))) then
       some Bool.false
      else
       joinO (loopO (OC v109 v394) (0 : Int)) fun _ =>
       some Bool.true := rfl
end Go.Proofs.Ytonejiaiieiboaa
