/- Trees of functions, printed by the executor. -/
import Derived.Test.YtohhpcggahlpjaaF
import Derived.Test.YtohhpcggahlpjaaXB
import Derived.Test.YtohhpcggahlpjaaZ1
set_option linter.unusedVariables false
set_option maxRecDepth 1000000
set_option maxHeartbeats 0
namespace Go.Proofs.Ytohhpcggahlpjaa
open Go.RowKit
/-! ### dialtone/dialtonelaw13.ClientAlone -/
def plan6 : List (Nat × PL) := [(134479888, .unroll), (18049585029317121, (.carry [.mix 5 [(.dat (.int .u8)), (.dat (.int .i64)), (.dat (.int .i64)), (.dat (.int .i64)), (.dat (.int .i64)), (.dat (.int .i64)), (.dat (.int .i64)), (.dat (.int .i64)), (.dat (.int .i64)), (.dat (.int .i64)), (.dat (.int .i64)), (.dat (.int .i64)), (.dat (.int .i64)), (.dat (.int .i64)), (.dat (.int .i64)), (.dat (.int .i64)), (.dat (.int .i64)), (.dat (.int .i64)), .nil]])), (68853956627, (.carry [.mix 5 [(.dat (.int .u8)), (.dat (.int .i64)), (.dat (.int .i64)), (.dat (.int .i64)), (.dat (.int .i64)), (.dat (.int .i64)), (.dat (.int .i64)), (.dat (.int .i64)), (.dat (.int .i64)), (.dat (.int .i64)), (.dat (.int .i64)), (.dat (.int .i64)), (.dat (.int .i64)), (.dat (.int .i64)), (.dat (.int .i64)), (.dat (.int .i64)), (.dat (.int .i64)), (.dat (.int .i64)), (.own 10000003 42 (.pair (.int .i64) (.pair (.int .u8) (.pair (.int .i64) (.pair (.int .u8) (.int .i64))))))], .dead 10000002])), (2422574293977757238167558, (.carry [.tmp 2 false [(.dat (.int .i64))], .mix 5 [(.dat (.int .u8)), (.dat (.int .i64)), (.dat (.int .i64)), (.dat (.int .i64)), (.dat (.int .i64)), (.dat (.int .i64)), (.dat (.int .i64)), (.dat (.int .i64)), (.dat (.int .i64)), (.dat (.int .i64)), (.dat (.int .i64)), (.dat (.int .i64)), (.dat (.int .i64)), (.dat (.int .i64)), (.dat (.int .i64)), (.dat (.int .i64)), (.dat (.int .i64)), (.dat (.int .i64)), .nil]])), (2422574293977757372383251, (.carry [.mix 5 [(.dat (.int .u8)), (.dat (.int .i64)), (.dat (.int .i64)), (.dat (.int .i64)), (.dat (.int .i64)), (.dat (.int .i64)), (.dat (.int .i64)), (.dat (.int .i64)), (.dat (.int .i64)), (.dat (.int .i64)), (.dat (.int .i64)), (.dat (.int .i64)), (.dat (.int .i64)), (.dat (.int .i64)), (.dat (.int .i64)), (.dat (.int .i64)), (.dat (.int .i64)), (.dat (.int .i64)), (.own 10000002 42 (.pair (.int .i64) (.pair (.int .u8) (.pair (.int .i64) (.pair (.int .u8) (.int .i64))))))]])), (35253225793025, (.carry [.mix 5 [(.dat (.int .u8)), (.dat (.int .i64)), (.dat (.int .i64)), (.dat (.int .i64)), (.dat (.int .i64)), (.dat (.int .i64)), (.dat (.int .i64)), (.dat (.int .i64)), (.dat (.int .i64)), (.dat (.int .i64)), (.dat (.int .i64)), (.dat (.int .i64)), (.dat (.int .i64)), (.dat (.int .i64)), (.dat (.int .i64)), (.dat (.int .i64)), (.dat (.int .i64)), (.dat (.int .i64)), (.own 10000008 42 (.pair (.int .i64) (.pair (.int .u8) (.pair (.int .i64) (.pair (.int .u8) (.int .i64))))))], .dead 10000002])), (18049651735265299, (.carry [.tmp 0 false [(.dat (.int .i64))]])), (85236755372152894798306972725774911494, (.carry [.tmp 6 false [(.dat (.int .i64))], .mix 5 [(.dat (.int .u8)), (.dat (.int .i64)), (.dat (.int .i64)), (.dat (.int .i64)), (.dat (.int .i64)), (.dat (.int .i64)), (.dat (.int .i64)), (.dat (.int .i64)), (.dat (.int .i64)), (.dat (.int .i64)), (.dat (.int .i64)), (.dat (.int .i64)), (.dat (.int .i64)), (.dat (.int .i64)), (.dat (.int .i64)), (.dat (.int .i64)), (.dat (.int .i64)), (.dat (.int .i64)), (.own 10000001 42 (.pair (.int .i64) (.pair (.int .u8) (.pair (.int .i64) (.pair (.int .u8) (.int .i64))))))]])), (4731607870610679793670, (.carry [.tmp 4 false [(.dat (.int .i64))], .mix 5 [(.dat (.int .u8)), (.dat (.int .i64)), (.dat (.int .i64)), (.dat (.int .i64)), (.dat (.int .i64)), (.dat (.int .i64)), (.dat (.int .i64)), (.dat (.int .i64)), (.dat (.int .i64)), (.dat (.int .i64)), (.dat (.int .i64)), (.dat (.int .i64)), (.dat (.int .i64)), (.dat (.int .i64)), (.dat (.int .i64)), (.dat (.int .i64)), (.dat (.int .i64)), (.dat (.int .i64)), (.own 10000007 42 (.pair (.int .i64) (.pair (.int .u8) (.pair (.int .i64) (.pair (.int .u8) (.int .i64))))))], .dead 10000002])), (2422583247098565909283329, (.carry [.tmp 11 false [(.dat (.int .i64))]])), (1240362613633366043831828993, (.carry [.tmp 6 false [(.dat (.int .i64))], .tmp 5 false [(.dat (.int .i64))], .mix 5 [(.dat (.int .u8)), (.dat (.int .i64)), (.dat (.int .i64)), (.dat (.int .i64)), (.dat (.int .i64)), (.dat (.int .i64)), (.dat (.int .i64)), (.dat (.int .i64)), (.dat (.int .i64)), (.dat (.int .i64)), (.dat (.int .i64)), (.dat (.int .i64)), (.dat (.int .i64)), (.dat (.int .i64)), (.dat (.int .i64)), (.dat (.int .i64)), (.dat (.int .i64)), (.dat (.int .i64)), (.own 10000004 42 (.pair (.int .i64) (.pair (.int .u8) (.pair (.int .i64) (.pair (.int .u8) (.int .i64))))))], .dead 10000007, .dead 10000002])), (325153619316432108402262392702982, (.carry [.tmp 12 false [(.dat (.int .i64))], .tmp 11 false [(.dat (.int .i64))]])), (166478651898012215395456501391819265, (.carry [.tmp 6 false [(.dat (.int .i64))], .tmp 5 false [(.dat (.int .i64))]])), (18049651735265308, (.carry [.tmp 0 false [(.dat (.int .i64))]])), (22344386418254087266624793139638819400976390, (.carry [.tmp 6 false [(.dat (.int .i64))], .tmp 5 false [(.dat (.int .i64))]])), (2422583247098567117242881, (.carry [.tmp 11 false [(.dat (.int .i64))]])), (325153619316432270531848978040838, (.carry [.tmp 12 false [(.dat (.int .i64))], .tmp 11 false [(.dat (.int .i64))]])), (2422583247133747865714714, (.carry [.tmp 0 false [(.dat (.int .i64))]])), (9241421688590303256, (.carry [.tmp 0 false [(.dat (.int .i64))]])), (1535494542649406115655736301400222258491168631116005907, (.carry [.mix 5 [(.dat (.int .u8)), (.dat (.int .i64)), (.dat (.int .i64)), (.dat (.int .i64)), (.dat (.int .i64)), (.dat (.int .i64)), (.dat (.int .i64)), (.dat (.int .i64)), (.dat (.int .i64)), (.dat (.int .i64)), (.dat (.int .i64)), (.dat (.int .i64)), (.dat (.int .i64)), (.dat (.int .i64)), (.dat (.int .i64)), (.dat (.int .i64)), (.dat (.int .i64)), (.dat (.int .i64)), (.own 10000006 42 (.pair (.int .i64) (.pair (.int .u8) (.pair (.int .i64) (.pair (.int .u8) (.int .i64))))))], .dead 10000007])), (325153619321154150661078009512449, (.carry [.tmp 11 false [(.dat (.int .i64))]])), (1240362622532514025851585025, (.carry [.tmp 11 false [(.dat (.int .i64))]])), (54025411328947621564938494028299907951417979498203818825451294689286, (.carry [.tmp 6 false [(.dat (.int .i64))], .mix 5 [(.dat (.int .u8)), (.dat (.int .i64)), (.dat (.int .i64)), (.dat (.int .i64)), (.dat (.int .i64)), (.dat (.int .i64)), (.dat (.int .i64)), (.dat (.int .i64)), (.dat (.int .i64)), (.dat (.int .i64)), (.dat (.int .i64)), (.dat (.int .i64)), (.dat (.int .i64)), (.dat (.int .i64)), (.dat (.int .i64)), (.dat (.int .i64)), (.dat (.int .i64)), (.dat (.int .i64)), (.own 10000005 42 (.pair (.int .i64) (.pair (.int .u8) (.pair (.int .i64) (.pair (.int .u8) (.int .i64))))))], .dead 10000007])), (43641380036262212439499588467523158542342, (.carry [.tmp 12 false [(.dat (.int .i64))], .tmp 11 false [(.dat (.int .i64))]])), (166478653092435638677933007120369670, (.carry [.tmp 12 false [(.dat (.int .i64))], .tmp 11 false [(.dat (.int .i64))]])), (9241421688590303261, (.carry [.tmp 0 false [(.dat (.int .i64))]])), (1240362622532514026522673665, (.carry [.tmp 11 false [(.dat (.int .i64))]])), (166478653092435638768004999667779590, (.carry [.tmp 12 false [(.dat (.int .i64))], .tmp 11 false [(.dat (.int .i64))]])), (9241421688590303266, (.carry [.tmp 0 false [(.dat (.int .i64))]])), (1240362622532514027193762305, (.carry [.tmp 11 false [(.dat (.int .i64))]])), (166478653092435638858076992215189510, (.carry [.tmp 12 false [(.dat (.int .i64))], .tmp 11 false [(.dat (.int .i64))]])), (9241421688590303271, (.carry [.tmp 0 false [(.dat .bool)]])), (1240362622532514027864850453, (.carry [.tmp 0 false [(.dat (.int .i64))]])), (166478653092435638948148918861693441, (.carry [.tmp 11 false [(.dat (.int .i64))]])), (22344386578566885445848857695272839749568518, (.carry [.tmp 12 false [(.dat (.int .i64))], .tmp 11 false [(.dat (.int .i64))]]))]
noncomputable def dialtonelaw13_ClientAlone : Int → Option Bool := fun a1 =>
  joinO (loopO (fun (v2, (v3, (v4, (v5, (v6, (v7, (v8, (v9, (v10, (v11, (v12, (v13, (v14, (v15, (v16, (v17, (v18, (v19, v20)))))))))))))))))) =>
    bif (decide (v2 < (14 : Int))) then
     bif (decide (((0 : Int) ≤ v2) ∧ (v2 < (14 : Int)))) then 
      bif (decide ((((Int.toNat v2) * 1) + 1) ≤ 15)) then 
       bindO (some (putL (v6 :: (v7 :: (v8 :: (v9 :: (v10 :: (v11 :: (v12 :: (v13 :: (v14 :: (v15 :: (v16 :: (v17 :: (v18 :: (v19 :: (v20 :: ([] : List Int)))))))))))))))) ((Int.toNat v2) * 1) ((-1 : Int) :: ([] : List Int)))) fun x21 =>
       some (Sum.inl ((Go.IntKind.wrap .i64 (v2 + (1 : Int))), (v3, (v4, (v5, ((List.getD x21 0 (0 : Int)), ((List.getD x21 1 (0 : Int)), ((List.getD x21 2 (0 : Int)), ((List.getD x21 3 (0 : Int)), ((List.getD x21 4 (0 : Int)), ((List.getD x21 5 (0 : Int)), ((List.getD x21 6 (0 : Int)), ((List.getD x21 7 (0 : Int)), ((List.getD x21 8 (0 : Int)), ((List.getD x21 9 (0 : Int)), ((List.getD x21 10 (0 : Int)), ((List.getD x21 11 (0 : Int)), ((List.getD x21 12 (0 : Int)), ((List.getD x21 13 (0 : Int)), (List.getD x21 14 (0 : Int)))))))))))))))))))))
      else none
     else none
    else
     outO (some (Sum.inl (v3, (v4, (v5, (v6, (v7, (v8, (v9, (v10, (v11, (v12, (v13, (v14, (v15, (v16, (v17, (v18, (v19, v20)))))))))))))))))))) ((0 : Int), ((0 : Int), ((0 : Int), ((0 : Int), ((0 : Int), ((0 : Int), ((0 : Int), ((0 : Int), ((0 : Int), ((0 : Int), ((0 : Int), ((0 : Int), ((0 : Int), ((0 : Int), ((0 : Int), ((0 : Int), ((0 : Int), ((0 : Int), (0 : Int)))))))))))))))))))) fun (v23, (v24, (v25, (v26, (v27, (v28, (v29, (v30, (v31, (v32, (v33, (v34, (v35, (v36, (v37, (v38, (v39, v40))))))))))))))))) =>
  bindO (client_Start ()) fun ((x42, (x43, x44)), x45) =>
  joinO (loopO (fun (v46, (v47, (v48, (v49, (v50, (v51, (v52, (v53, (v54, (v55, (v56, (v57, (v58, (v59, (v60, (v61, (v62, (v63, (v64, v65))))))))))))))))))) =>
    bif (decide (v46 < (((List.length x45) : Nat) : Int))) then
     bif (decide (((0 : Int) ≤ v46) ∧ (v46 < (((List.length x45) : Nat) : Int)))) then 
      bindO x45[(Int.toNat v46)]? fun x66 =>
      bif (decide ((List.length v65) ≤ (List.length v65))) then 
       bif (decide (((List.length ((List.take (List.length v65) v65) ++ ((v64, (x66.1, (x66.2.1, (x66.2.2.1, x66.2.2.2)))) :: ([] : List (Int × (Int × (Int × (Int × Int)))))))) * 40) ≤ 140737488355328)) then 
        bindO (some ((List.take (List.length v65) v65) ++ ((v64, (x66.1, (x66.2.1, (x66.2.2.1, x66.2.2.2)))) :: ([] : List (Int × (Int × (Int × (Int × Int)))))))) fun x67 =>
        bif (decide (((0 : Int) ≤ v46) ∧ (v46 < (((List.length x45) : Nat) : Int)))) then 
         bindO x45[(Int.toNat v46)]? fun x68 =>
         bif (decide (x68.1 = (4 : Int))) then
          bif (decide (((0 : Int) ≤ v46) ∧ (v46 < (((List.length x45) : Nat) : Int)))) then 
           bindO x45[(Int.toNat v46)]? fun x69 =>
           bif (decide (x69.2.2.1 < (14 : Int))) then
            bif (decide (((0 : Int) ≤ v46) ∧ (v46 < (((List.length x45) : Nat) : Int)))) then 
             bindO x45[(Int.toNat v46)]? fun x70 =>
             bif (decide (((0 : Int) ≤ v46) ∧ (v46 < (((List.length x45) : Nat) : Int)))) then 
              bindO x45[(Int.toNat v46)]? fun x71 =>
              bif (decide (((0 : Int) ≤ x70.2.2.1) ∧ (x70.2.2.1 < (14 : Int)))) then 
               bif (decide ((((Int.toNat x70.2.2.1) * 1) + 1) ≤ 15)) then 
                bindO (some (putL (v50 :: (v51 :: (v52 :: (v53 :: (v54 :: (v55 :: (v56 :: (v57 :: (v58 :: (v59 :: (v60 :: (v61 :: (v62 :: (v63 :: (v64 :: ([] : List Int)))))))))))))))) ((Int.toNat x70.2.2.1) * 1) ((Go.IntKind.wrap .i64 (v64 + (maxA (1 : Int) x71.2.2.2))) :: ([] : List Int)))) fun x73 =>
                bif (decide ((List.length x67) ≤ (List.length x67))) then 
                 some (Sum.inl ((Go.IntKind.wrap .i64 (v46 + (1 : Int))), (v47, (v48, (v49, ((List.getD x73 0 (0 : Int)), ((List.getD x73 1 (0 : Int)), ((List.getD x73 2 (0 : Int)), ((List.getD x73 3 (0 : Int)), ((List.getD x73 4 (0 : Int)), ((List.getD x73 5 (0 : Int)), ((List.getD x73 6 (0 : Int)), ((List.getD x73 7 (0 : Int)), ((List.getD x73 8 (0 : Int)), ((List.getD x73 9 (0 : Int)), ((List.getD x73 10 (0 : Int)), ((List.getD x73 11 (0 : Int)), ((List.getD x73 12 (0 : Int)), ((List.getD x73 13 (0 : Int)), ((List.getD x73 14 (0 : Int)), (List.take (List.length x67) x67)))))))))))))))))))))
                else none
               else none
              else none
             else none
            else none
           else
            bif (decide ((List.length x67) ≤ (List.length x67))) then 
             some (Sum.inl ((Go.IntKind.wrap .i64 (v46 + (1 : Int))), (v47, (v48, (v49, (v50, (v51, (v52, (v53, (v54, (v55, (v56, (v57, (v58, (v59, (v60, (v61, (v62, (v63, (v64, (List.take (List.length x67) x67)))))))))))))))))))))
            else none
          else none
         else
          bif (decide ((List.length x67) ≤ (List.length x67))) then 
           some (Sum.inl ((Go.IntKind.wrap .i64 (v46 + (1 : Int))), (v47, (v48, (v49, (v50, (v51, (v52, (v53, (v54, (v55, (v56, (v57, (v58, (v59, (v60, (v61, (v62, (v63, (v64, (List.take (List.length x67) x67)))))))))))))))))))))
          else none
        else none
       else none
      else none
     else none
    else
     outO (bif (decide ((List.length v65) ≤ (List.length v65))) then 
      some (Sum.inl (v47, (v48, (v49, (v50, (v51, (v52, (v53, (v54, (v55, (v56, (v57, (v58, (v59, (v60, (v61, (v62, (v63, (v64, (List.take (List.length v65) v65))))))))))))))))))))
     else none)) ((0 : Int), (x42, (x43, (x44, (v26, (v27, (v28, (v29, (v30, (v31, (v32, (v33, (v34, (v35, (v36, (v37, (v38, (v39, (v40, ([] : List (Int × (Int × (Int × (Int × Int))))))))))))))))))))))))) fun (v77, (v78, (v79, (v80, (v81, (v82, (v83, (v84, (v85, (v86, (v87, (v88, (v89, (v90, (v91, (v92, (v93, (v94, v95)))))))))))))))))) =>
  joinO (joinO (bif (decide ((List.length v95) ≤ (List.length v95))) then 
     loopO (fun (v97, (v98, (v99, (v100, (v101, (v102, (v103, (v104, (v105, (v106, (v107, (v108, (v109, (v110, (v111, (v112, (v113, (v114, (v115, v116))))))))))))))))))) =>
      bif (decide (v97 < (200 : Int))) then
       joinO (joinO (loopO (fun (v117, v118) =>
          bif (decide (v117 < (14 : Int))) then
           bif (decide (((0 : Int) ≤ v117) ∧ (v117 < (14 : Int)))) then 
            bindO (v101 :: (v102 :: (v103 :: (v104 :: (v105 :: (v106 :: (v107 :: (v108 :: (v109 :: (v110 :: (v111 :: (v112 :: (v113 :: (v114 :: (v115 :: ([] : List Int))))))))))))))))[(Int.toNat v117)]? fun x119 =>
            bif (decide (x119 ≥ (0 : Int))) then
             bif (decide (((0 : Int) ≤ v117) ∧ (v117 < (14 : Int)))) then 
              bindO (v101 :: (v102 :: (v103 :: (v104 :: (v105 :: (v106 :: (v107 :: (v108 :: (v109 :: (v110 :: (v111 :: (v112 :: (v113 :: (v114 :: (v115 :: ([] : List Int))))))))))))))))[(Int.toNat v117)]? fun x120 =>
              bif (decide (x120 ≤ (Go.IntKind.wrap .i64 a1))) then
               bif (decide (v118 < (0 : Int))) then
                some (Sum.inl ((Go.IntKind.wrap .i64 (v117 + (1 : Int))), v117))
               else
                bif (decide (((0 : Int) ≤ v117) ∧ (v117 < (14 : Int)))) then 
                 bindO (v101 :: (v102 :: (v103 :: (v104 :: (v105 :: (v106 :: (v107 :: (v108 :: (v109 :: (v110 :: (v111 :: (v112 :: (v113 :: (v114 :: (v115 :: ([] : List Int))))))))))))))))[(Int.toNat v117)]? fun x122 =>
                 bif (decide (((0 : Int) ≤ v118) ∧ (v118 < (14 : Int)))) then 
                  bindO (v101 :: (v102 :: (v103 :: (v104 :: (v105 :: (v106 :: (v107 :: (v108 :: (v109 :: (v110 :: (v111 :: (v112 :: (v113 :: (v114 :: (v115 :: ([] : List Int))))))))))))))))[(Int.toNat v118)]? fun x123 =>
                  bif (decide (x122 < x123)) then
                   some (Sum.inl ((Go.IntKind.wrap .i64 (v117 + (1 : Int))), v117))
                  else
                   some (Sum.inl ((Go.IntKind.wrap .i64 (v117 + (1 : Int))), v118))
                 else none
                else none
              else
               some (Sum.inl ((Go.IntKind.wrap .i64 (v117 + (1 : Int))), v118))
             else none
            else
             some (Sum.inl ((Go.IntKind.wrap .i64 (v117 + (1 : Int))), v118))
           else none
          else
           outO (some (Sum.inl (v117, v118)))) ((0 : Int), (-1 : Int))) fun (v128, v129) =>
        bif (decide (v129 < (0 : Int))) then
         outO (outO (bif (decide ((List.length v116) ≤ (List.length v116))) then 
          some (Sum.inl (v98, (v99, (v100, (v101, (v102, (v103, (v104, (v105, (v106, (v107, (v108, (v109, (v110, (v111, (v112, (v113, (v114, (v115, (List.take (List.length v116) v116))))))))))))))))))))
         else none))
        else
         bif (decide (((0 : Int) ≤ v129) ∧ (v129 < (14 : Int)))) then 
          bindO (v101 :: (v102 :: (v103 :: (v104 :: (v105 :: (v106 :: (v107 :: (v108 :: (v109 :: (v110 :: (v111 :: (v112 :: (v113 :: (v114 :: (v115 :: ([] : List Int))))))))))))))))[(Int.toNat v129)]? fun x130 =>
          bif (decide (((0 : Int) ≤ v129) ∧ (v129 < (14 : Int)))) then 
           bif (decide ((((Int.toNat v129) * 1) + 1) ≤ 15)) then 
            bindO (some (putL (v101 :: (v102 :: (v103 :: (v104 :: (v105 :: (v106 :: (v107 :: (v108 :: (v109 :: (v110 :: (v111 :: (v112 :: (v113 :: (v114 :: (x130 :: ([] : List Int)))))))))))))))) ((Int.toNat v129) * 1) ((-1 : Int) :: ([] : List Int)))) fun x131 =>
            bindO (client_Step ((v98, (v99, v100)), ((5 : Int), ((0 : Int), (Go.IntKind.wrap .u8 v129))))) fun ((x134, (x135, x136)), x137) =>
            joinO (bif (decide ((List.length v116) ≤ (List.length v116))) then 
              loopO (fun (v138, (v139, (v140, (v141, (v142, (v143, (v144, (v145, (v146, (v147, (v148, (v149, (v150, (v151, (v152, (v153, (v154, (v155, (v156, v157))))))))))))))))))) =>
               bif (decide (v138 < (((List.length x137) : Nat) : Int))) then
                bif (decide (((0 : Int) ≤ v138) ∧ (v138 < (((List.length x137) : Nat) : Int)))) then 
                 bindO x137[(Int.toNat v138)]? fun x158 =>
                 bif (decide ((List.length v157) ≤ (List.length v157))) then 
                  bif (decide (((List.length ((List.take (List.length v157) v157) ++ ((v156, (x158.1, (x158.2.1, (x158.2.2.1, x158.2.2.2)))) :: ([] : List (Int × (Int × (Int × (Int × Int)))))))) * 40) ≤ 140737488355328)) then 
                   bindO (some ((List.take (List.length v157) v157) ++ ((v156, (x158.1, (x158.2.1, (x158.2.2.1, x158.2.2.2)))) :: ([] : List (Int × (Int × (Int × (Int × Int)))))))) fun x159 =>
                   bif (decide (((0 : Int) ≤ v138) ∧ (v138 < (((List.length x137) : Nat) : Int)))) then 
                    bindO x137[(Int.toNat v138)]? fun x160 =>
                    bif (decide (x160.1 = (4 : Int))) then
                     bif (decide (((0 : Int) ≤ v138) ∧ (v138 < (((List.length x137) : Nat) : Int)))) then 
                      bindO x137[(Int.toNat v138)]? fun x161 =>
                      bif (decide (x161.2.2.1 < (14 : Int))) then
                       bif (decide (((0 : Int) ≤ v138) ∧ (v138 < (((List.length x137) : Nat) : Int)))) then 
                        bindO x137[(Int.toNat v138)]? fun x162 =>
                        bif (decide (((0 : Int) ≤ v138) ∧ (v138 < (((List.length x137) : Nat) : Int)))) then 
                         bindO x137[(Int.toNat v138)]? fun x163 =>
                         bif (decide (((0 : Int) ≤ x162.2.2.1) ∧ (x162.2.2.1 < (14 : Int)))) then 
                          bif (decide ((((Int.toNat x162.2.2.1) * 1) + 1) ≤ 15)) then 
                           bindO (some (putL (v142 :: (v143 :: (v144 :: (v145 :: (v146 :: (v147 :: (v148 :: (v149 :: (v150 :: (v151 :: (v152 :: (v153 :: (v154 :: (v155 :: (v156 :: ([] : List Int)))))))))))))))) ((Int.toNat x162.2.2.1) * 1) ((Go.IntKind.wrap .i64 (v156 + (maxA (1 : Int) x163.2.2.2))) :: ([] : List Int)))) fun x165 =>
                           bif (decide ((List.length x159) ≤ (List.length x159))) then 
                            some (Sum.inl ((Go.IntKind.wrap .i64 (v138 + (1 : Int))), (v139, (v140, (v141, ((List.getD x165 0 (0 : Int)), ((List.getD x165 1 (0 : Int)), ((List.getD x165 2 (0 : Int)), ((List.getD x165 3 (0 : Int)), ((List.getD x165 4 (0 : Int)), ((List.getD x165 5 (0 : Int)), ((List.getD x165 6 (0 : Int)), ((List.getD x165 7 (0 : Int)), ((List.getD x165 8 (0 : Int)), ((List.getD x165 9 (0 : Int)), ((List.getD x165 10 (0 : Int)), ((List.getD x165 11 (0 : Int)), ((List.getD x165 12 (0 : Int)), ((List.getD x165 13 (0 : Int)), ((List.getD x165 14 (0 : Int)), (List.take (List.length x159) x159)))))))))))))))))))))
                           else none
                          else none
                         else none
                        else none
                       else none
                      else
                       bif (decide ((List.length x159) ≤ (List.length x159))) then 
                        some (Sum.inl ((Go.IntKind.wrap .i64 (v138 + (1 : Int))), (v139, (v140, (v141, (v142, (v143, (v144, (v145, (v146, (v147, (v148, (v149, (v150, (v151, (v152, (v153, (v154, (v155, (v156, (List.take (List.length x159) x159)))))))))))))))))))))
                       else none
                     else none
                    else
                     bif (decide ((List.length x159) ≤ (List.length x159))) then 
                      some (Sum.inl ((Go.IntKind.wrap .i64 (v138 + (1 : Int))), (v139, (v140, (v141, (v142, (v143, (v144, (v145, (v146, (v147, (v148, (v149, (v150, (v151, (v152, (v153, (v154, (v155, (v156, (List.take (List.length x159) x159)))))))))))))))))))))
                     else none
                   else none
                  else none
                 else none
                else none
               else
                outO (bif (decide ((List.length v157) ≤ (List.length v157))) then 
                 some (Sum.inl (v139, (v140, (v141, (v142, (v143, (v144, (v145, (v146, (v147, (v148, (v149, (v150, (v151, (v152, (v153, (v154, (v155, (v156, (List.take (List.length v157) v157))))))))))))))))))))
                else none)) ((0 : Int), (x134, (x135, (x136, ((List.getD x131 0 (0 : Int)), ((List.getD x131 1 (0 : Int)), ((List.getD x131 2 (0 : Int)), ((List.getD x131 3 (0 : Int)), ((List.getD x131 4 (0 : Int)), ((List.getD x131 5 (0 : Int)), ((List.getD x131 6 (0 : Int)), ((List.getD x131 7 (0 : Int)), ((List.getD x131 8 (0 : Int)), ((List.getD x131 9 (0 : Int)), ((List.getD x131 10 (0 : Int)), ((List.getD x131 11 (0 : Int)), ((List.getD x131 12 (0 : Int)), ((List.getD x131 13 (0 : Int)), ((List.getD x131 14 (0 : Int)), (List.take (List.length v116) v116))))))))))))))))))))
             else none) fun (v169, (v170, (v171, (v172, (v173, (v174, (v175, (v176, (v177, (v178, (v179, (v180, (v181, (v182, (v183, (v184, (v185, (v186, v187)))))))))))))))))) =>
            bif (decide ((List.length v187) ≤ (List.length v187))) then 
             some (Sum.inl (v128, (v129, (v169, (v170, (v171, (v172, (v173, (v174, (v175, (v176, (v177, (v178, (v179, (v180, (v181, (v182, (v183, (v184, (v185, (v186, (List.take (List.length v187) v187))))))))))))))))))))))
            else none
           else none
          else none
         else none) fun (v188, (v189, (v190, (v191, (v192, (v193, (v194, (v195, (v196, (v197, (v198, (v199, (v200, (v201, (v202, (v203, (v204, (v205, (v206, (v207, v208)))))))))))))))))))) =>
       bif (decide ((List.length v208) ≤ (List.length v208))) then 
        some (Sum.inl ((Go.IntKind.wrap .i64 (v97 + (1 : Int))), (v190, (v191, (v192, (v193, (v194, (v195, (v196, (v197, (v198, (v199, (v200, (v201, (v202, (v203, (v204, (v205, (v206, (v207, (List.take (List.length v208) v208)))))))))))))))))))))
       else none
      else
       outO (bif (decide ((List.length v116) ≤ (List.length v116))) then 
        some (Sum.inl (v98, (v99, (v100, (v101, (v102, (v103, (v104, (v105, (v106, (v107, (v108, (v109, (v110, (v111, (v112, (v113, (v114, (v115, (List.take (List.length v116) v116))))))))))))))))))))
       else none)) ((0 : Int), (v77, (v78, (v79, (v80, (v81, (v82, (v83, (v84, (v85, (v86, (v87, (v88, (v89, (v90, (v91, (v92, (v93, (v94, (List.take (List.length v95) v95))))))))))))))))))))
    else none) fun (v210, (v211, (v212, (v213, (v214, (v215, (v216, (v217, (v218, (v219, (v220, (v221, (v222, (v223, (v224, (v225, (v226, (v227, v228)))))))))))))))))) =>
   bif (decide ((List.length v228) ≤ (List.length v228))) then 
    some (Sum.inl (v210, (v211, (v212, (v213, (v214, (v215, (v216, (v217, (v218, (v219, (v220, (v221, (v222, (v223, (v224, (v225, (v226, ((maxA v227 (Go.IntKind.wrap .i64 a1)), (List.take (List.length v228) v228))))))))))))))))))))
   else none) fun (v229, (v230, (v231, (v232, (v233, (v234, (v235, (v236, (v237, (v238, (v239, (v240, (v241, (v242, (v243, (v244, (v245, (v246, v247)))))))))))))))))) =>
  joinO (joinO (loopO (fun (v249, v250) =>
     bif (decide (v249 < (((List.length v247) : Nat) : Int))) then
      bif (decide (((0 : Int) ≤ v249) ∧ (v249 < (((List.length v247) : Nat) : Int)))) then 
       bindO v247[(Int.toNat v249)]? fun x251 =>
       bif (decide (x251.2.1 = (1 : Int))) then
        bif (decide (((0 : Int) ≤ v249) ∧ (v249 < (((List.length v247) : Nat) : Int)))) then 
         bindO v247[(Int.toNat v249)]? fun x252 =>
         bif (decide (x252.1 ≤ (Go.IntKind.wrap .i64 a1))) then
          bif (decide (((0 : Int) ≤ v249) ∧ (v249 < (((List.length v247) : Nat) : Int)))) then 
           bindO v247[(Int.toNat v249)]? fun x253 =>
           bif (decide (x253.2.2.1 ≥ (0 : Int))) then
            bif (decide (((0 : Int) ≤ v249) ∧ (v249 < (((List.length v247) : Nat) : Int)))) then 
             bindO v247[(Int.toNat v249)]? fun x254 =>
             bif (decide (x254.2.2.1 ≤ (0 : Int))) then
              some (Sum.inl ((Go.IntKind.wrap .i64 (v249 + (1 : Int))), (Go.IntKind.wrap .i64 (v250 + (1 : Int)))))
             else
              some (Sum.inl ((Go.IntKind.wrap .i64 (v249 + (1 : Int))), v250))
            else none
           else
            some (Sum.inl ((Go.IntKind.wrap .i64 (v249 + (1 : Int))), v250))
          else none
         else
          some (Sum.inl ((Go.IntKind.wrap .i64 (v249 + (1 : Int))), v250))
        else none
       else
        some (Sum.inl ((Go.IntKind.wrap .i64 (v249 + (1 : Int))), v250))
      else none
     else
      outO (some (Sum.inl v250))) ((0 : Int), (0 : Int))) fun v261 =>
   some (Sum.inl v261)) fun v262 =>
  bindO (client_Copies (Go.IntKind.wrap .i64 a1)) fun x264 =>
  bif (decide (v262 ≠ x264)) then
   some Bool.false
  else
   joinO (joinO (loopO (fun (v266, v267) =>
      bif (decide (v266 < (((List.length v247) : Nat) : Int))) then
       bif (decide (((0 : Int) ≤ v266) ∧ (v266 < (((List.length v247) : Nat) : Int)))) then 
        bindO v247[(Int.toNat v266)]? fun x268 =>
        bif (decide (x268.2.1 = (3 : Int))) then
         bif (decide (((0 : Int) ≤ v266) ∧ (v266 < (((List.length v247) : Nat) : Int)))) then 
          bindO v247[(Int.toNat v266)]? fun x269 =>
          bif (decide (x269.1 ≤ (Go.IntKind.wrap .i64 a1))) then
           bif (decide (((0 : Int) ≤ v266) ∧ (v266 < (((List.length v247) : Nat) : Int)))) then 
            bindO v247[(Int.toNat v266)]? fun x270 =>
            bif (decide (x270.2.2.1 ≥ (0 : Int))) then
             bif (decide (((0 : Int) ≤ v266) ∧ (v266 < (((List.length v247) : Nat) : Int)))) then 
              bindO v247[(Int.toNat v266)]? fun x271 =>
              bif (decide (x271.2.2.1 ≤ (1000 : Int))) then
               some (Sum.inl ((Go.IntKind.wrap .i64 (v266 + (1 : Int))), (Go.IntKind.wrap .i64 (v267 + (1 : Int)))))
              else
               some (Sum.inl ((Go.IntKind.wrap .i64 (v266 + (1 : Int))), v267))
             else none
            else
             some (Sum.inl ((Go.IntKind.wrap .i64 (v266 + (1 : Int))), v267))
           else none
          else
           some (Sum.inl ((Go.IntKind.wrap .i64 (v266 + (1 : Int))), v267))
         else none
        else
         some (Sum.inl ((Go.IntKind.wrap .i64 (v266 + (1 : Int))), v267))
       else none
      else
       outO (some (Sum.inl v267))) ((0 : Int), (0 : Int))) fun v278 =>
    some (Sum.inl v278)) fun v279 =>
   bif (decide (v279 ≠ (0 : Int))) then
    some Bool.false
   else
    bif (decide (a1 < (32000 : Int))) then
     bif (decide (v229 = (2 : Int))) then
      joinO (joinO (loopO (fun (v281, v282) =>
         bif (decide (v281 < (((List.length v247) : Nat) : Int))) then
          bif (decide (((0 : Int) ≤ v281) ∧ (v281 < (((List.length v247) : Nat) : Int)))) then 
           bindO v247[(Int.toNat v281)]? fun x283 =>
           bif (decide (x283.2.1 = (5 : Int))) then
            bif (decide (((0 : Int) ≤ v281) ∧ (v281 < (((List.length v247) : Nat) : Int)))) then 
             bindO v247[(Int.toNat v281)]? fun x284 =>
             bif (decide (x284.1 ≤ (Go.IntKind.wrap .i64 a1))) then
              bif (decide (((0 : Int) ≤ v281) ∧ (v281 < (((List.length v247) : Nat) : Int)))) then 
               bindO v247[(Int.toNat v281)]? fun x285 =>
               bif (decide (x285.2.2.1 ≥ (0 : Int))) then
                bif (decide (((0 : Int) ≤ v281) ∧ (v281 < (((List.length v247) : Nat) : Int)))) then 
                 bindO v247[(Int.toNat v281)]? fun x286 =>
                 bif (decide (x286.2.2.1 ≤ (0 : Int))) then
                  some (Sum.inl ((Go.IntKind.wrap .i64 (v281 + (1 : Int))), (Go.IntKind.wrap .i64 (v282 + (1 : Int)))))
                 else
                  some (Sum.inl ((Go.IntKind.wrap .i64 (v281 + (1 : Int))), v282))
                else none
               else
                some (Sum.inl ((Go.IntKind.wrap .i64 (v281 + (1 : Int))), v282))
              else none
             else
              some (Sum.inl ((Go.IntKind.wrap .i64 (v281 + (1 : Int))), v282))
            else none
           else
            some (Sum.inl ((Go.IntKind.wrap .i64 (v281 + (1 : Int))), v282))
          else none
         else
          outO (some (Sum.inl v282))) ((0 : Int), (0 : Int))) fun v293 =>
       some (Sum.inl v293)) fun v294 =>
      bif (decide (v294 = (0 : Int))) then
       some Bool.true
      else
       some Bool.false
     else
      some Bool.false
    else
     bif ((decide (v229 = (7 : Int))) && ((decide (v230 = (0 : Int))) && (decide (v231 = (0 : Int))))) then
      joinO (joinO (loopO (fun (v296, v297) =>
         bif (decide (v296 < (((List.length v247) : Nat) : Int))) then
          bif (decide (((0 : Int) ≤ v296) ∧ (v296 < (((List.length v247) : Nat) : Int)))) then 
           bindO v247[(Int.toNat v296)]? fun x298 =>
           bif (decide (x298.2.1 = (5 : Int))) then
            bif (decide (((0 : Int) ≤ v296) ∧ (v296 < (((List.length v247) : Nat) : Int)))) then 
             bindO v247[(Int.toNat v296)]? fun x299 =>
             bif (decide (x299.1 ≤ (31999 : Int))) then
              bif (decide (((0 : Int) ≤ v296) ∧ (v296 < (((List.length v247) : Nat) : Int)))) then 
               bindO v247[(Int.toNat v296)]? fun x300 =>
               bif (decide (x300.2.2.1 ≥ (0 : Int))) then
                bif (decide (((0 : Int) ≤ v296) ∧ (v296 < (((List.length v247) : Nat) : Int)))) then 
                 bindO v247[(Int.toNat v296)]? fun x301 =>
                 bif (decide (x301.2.2.1 ≤ (0 : Int))) then
                  some (Sum.inl ((Go.IntKind.wrap .i64 (v296 + (1 : Int))), (Go.IntKind.wrap .i64 (v297 + (1 : Int)))))
                 else
                  some (Sum.inl ((Go.IntKind.wrap .i64 (v296 + (1 : Int))), v297))
                else none
               else
                some (Sum.inl ((Go.IntKind.wrap .i64 (v296 + (1 : Int))), v297))
              else none
             else
              some (Sum.inl ((Go.IntKind.wrap .i64 (v296 + (1 : Int))), v297))
            else none
           else
            some (Sum.inl ((Go.IntKind.wrap .i64 (v296 + (1 : Int))), v297))
          else none
         else
          outO (some (Sum.inl v297))) ((0 : Int), (0 : Int))) fun v308 =>
       some (Sum.inl v308)) fun v309 =>
      bif (decide (v309 = (0 : Int))) then
       joinO (joinO (loopO (fun (v310, v311) =>
          bif (decide (v310 < (((List.length v247) : Nat) : Int))) then
           bif (decide (((0 : Int) ≤ v310) ∧ (v310 < (((List.length v247) : Nat) : Int)))) then 
            bindO v247[(Int.toNat v310)]? fun x312 =>
            bif (decide (x312.2.1 = (5 : Int))) then
             bif (decide (((0 : Int) ≤ v310) ∧ (v310 < (((List.length v247) : Nat) : Int)))) then 
              bindO v247[(Int.toNat v310)]? fun x313 =>
              bif (decide (x313.1 ≤ (32000 : Int))) then
               bif (decide (((0 : Int) ≤ v310) ∧ (v310 < (((List.length v247) : Nat) : Int)))) then 
                bindO v247[(Int.toNat v310)]? fun x314 =>
                bif (decide (x314.2.2.1 ≥ (0 : Int))) then
                 bif (decide (((0 : Int) ≤ v310) ∧ (v310 < (((List.length v247) : Nat) : Int)))) then 
                  bindO v247[(Int.toNat v310)]? fun x315 =>
                  bif (decide (x315.2.2.1 ≤ (0 : Int))) then
                   some (Sum.inl ((Go.IntKind.wrap .i64 (v310 + (1 : Int))), (Go.IntKind.wrap .i64 (v311 + (1 : Int)))))
                  else
                   some (Sum.inl ((Go.IntKind.wrap .i64 (v310 + (1 : Int))), v311))
                 else none
                else
                 some (Sum.inl ((Go.IntKind.wrap .i64 (v310 + (1 : Int))), v311))
               else none
              else
               some (Sum.inl ((Go.IntKind.wrap .i64 (v310 + (1 : Int))), v311))
             else none
            else
             some (Sum.inl ((Go.IntKind.wrap .i64 (v310 + (1 : Int))), v311))
           else none
          else
           outO (some (Sum.inl v311))) ((0 : Int), (0 : Int))) fun v322 =>
        some (Sum.inl v322)) fun v323 =>
       bif (decide (v323 = (1 : Int))) then
        joinO (joinO (loopO (fun (v324, v325) =>
           bif (decide (v324 < (((List.length v247) : Nat) : Int))) then
            bif (decide (((0 : Int) ≤ v324) ∧ (v324 < (((List.length v247) : Nat) : Int)))) then 
             bindO v247[(Int.toNat v324)]? fun x326 =>
             bif (decide (x326.2.1 = (7 : Int))) then
              bif (decide (((0 : Int) ≤ v324) ∧ (v324 < (((List.length v247) : Nat) : Int)))) then 
               bindO v247[(Int.toNat v324)]? fun x327 =>
               bif (decide (x327.1 ≤ (32000 : Int))) then
                bif (decide (((0 : Int) ≤ v324) ∧ (v324 < (((List.length v247) : Nat) : Int)))) then 
                 bindO v247[(Int.toNat v324)]? fun x328 =>
                 bif (decide (x328.2.2.1 ≥ (0 : Int))) then
                  bif (decide (((0 : Int) ≤ v324) ∧ (v324 < (((List.length v247) : Nat) : Int)))) then 
                   bindO v247[(Int.toNat v324)]? fun x329 =>
                   bif (decide (x329.2.2.1 ≤ (0 : Int))) then
                    some (Sum.inl ((Go.IntKind.wrap .i64 (v324 + (1 : Int))), (Go.IntKind.wrap .i64 (v325 + (1 : Int)))))
                   else
                    some (Sum.inl ((Go.IntKind.wrap .i64 (v324 + (1 : Int))), v325))
                  else none
                 else
                  some (Sum.inl ((Go.IntKind.wrap .i64 (v324 + (1 : Int))), v325))
                else none
               else
                some (Sum.inl ((Go.IntKind.wrap .i64 (v324 + (1 : Int))), v325))
              else none
             else
              some (Sum.inl ((Go.IntKind.wrap .i64 (v324 + (1 : Int))), v325))
            else none
           else
            outO (some (Sum.inl v325))) ((0 : Int), (0 : Int))) fun v336 =>
         some (Sum.inl v336)) fun v337 =>
        bif (decide (v337 = (1 : Int))) then
         joinO (joinO (joinO (loopO (fun (v338, v339) =>
             bif (decide (v338 < (((List.length v247) : Nat) : Int))) then
              bif (decide (((0 : Int) ≤ v338) ∧ (v338 < (((List.length v247) : Nat) : Int)))) then 
               bindO v247[(Int.toNat v338)]? fun x340 =>
               bif (decide (x340.2.1 = (7 : Int))) then
                bif (decide (((0 : Int) ≤ v338) ∧ (v338 < (((List.length v247) : Nat) : Int)))) then 
                 bindO v247[(Int.toNat v338)]? fun x341 =>
                 bif (decide (x341.1 ≤ v246)) then
                  bif (decide (((0 : Int) ≤ v338) ∧ (v338 < (((List.length v247) : Nat) : Int)))) then 
                   bindO v247[(Int.toNat v338)]? fun x342 =>
                   bif (decide (x342.2.2.1 ≥ (0 : Int))) then
                    bif (decide (((0 : Int) ≤ v338) ∧ (v338 < (((List.length v247) : Nat) : Int)))) then 
                     bindO v247[(Int.toNat v338)]? fun x343 =>
                     bif (decide (x343.2.2.1 ≤ (1000 : Int))) then
                      some (Sum.inl ((Go.IntKind.wrap .i64 (v338 + (1 : Int))), (Go.IntKind.wrap .i64 (v339 + (1 : Int)))))
                     else
                      some (Sum.inl ((Go.IntKind.wrap .i64 (v338 + (1 : Int))), v339))
                    else none
                   else
                    some (Sum.inl ((Go.IntKind.wrap .i64 (v338 + (1 : Int))), v339))
                  else none
                 else
                  some (Sum.inl ((Go.IntKind.wrap .i64 (v338 + (1 : Int))), v339))
                else none
               else
                some (Sum.inl ((Go.IntKind.wrap .i64 (v338 + (1 : Int))), v339))
              else none
             else
              outO (some (Sum.inl v339))) ((0 : Int), (0 : Int))) fun v350 =>
           some (Sum.inl v350)) fun v351 =>
          bif (decide (v351 > (1 : Int))) then
           some (Sum.inl Bool.false)
          else
           bif ((decide (v351 = (1 : Int))) != (decide (v229 = (7 : Int)))) then
            some (Sum.inl Bool.false)
           else
            bif (decide (v351 = (0 : Int))) then
             some (Sum.inl Bool.true)
            else
             bif (decide ((((List.length v247) : Nat) : Int) > (0 : Int))) then
              bindO (some (Go.IntKind.wrap .i64 ((((List.length v247) : Nat) : Int) - (1 : Int)))) fun x352 =>
              bif (decide (((0 : Int) ≤ x352) ∧ (x352 < (((List.length v247) : Nat) : Int)))) then 
               bindO v247[(Int.toNat x352)]? fun x353 =>
               some (Sum.inl (decide (x353.2.1 = (7 : Int))))
              else none
             else
              some (Sum.inl Bool.false)) fun v354 =>
         bif v354 then
          some Bool.true
         else
          some Bool.false
        else
         some Bool.false
       else
        some Bool.false
      else
       some Bool.false
     else
      some Bool.false
noncomputable def cons6 : List (Nat × CE) := [(10, ⟨[], riB, (fun _ => some true)⟩), (16, ⟨[], [(.tmp 0 true [(.dat (.int .u8)), (.dat (.int .i64)), (.dat (.int .i64))]), (.tmp 1 false [(.dat (.list (.pair (.int .u8) (.pair (.int .i64) (.pair (.int .u8) (.int .i64))))))])], client_Start⟩), (17, ⟨[], [(.tmp 0 true [(.dat (.int .u8)), (.dat (.int .i64)), (.dat (.int .i64))]), (.tmp 1 false [(.dat (.list (.pair (.int .u8) (.pair (.int .i64) (.pair (.int .u8) (.int .i64))))))])], dialtoneref13_Start⟩), (14, ⟨[(.tmp 0 true [(.dat (.int .u8)), (.dat (.int .i64)), (.dat (.int .i64))])], [(.tmp 0 false [(.dat .bool)])], client_May⟩), (34, ⟨[(.tmp 0 true [(.dat (.int .u8)), (.dat (.int .i64)), (.dat (.int .i64))])], [(.tmp 0 false [(.dat .bool)])], dialtoneref13_Short⟩), (35, ⟨[(.tmp 0 false [(.dat (.int .i64))]), (.tmp 1 false [(.dat (.int .i64))]), (.tmp 2 false [(.dat (.int .i64))])], [(.tmp 0 false [(.dat .bool)])], dialtoneref12_From⟩), (28, ⟨[(.tmp 0 true [(.dat (.int .u8)), (.dat (.int .i64)), (.dat (.int .i64))])], [(.tmp 0 false [(.dat .bool)])], dialtoneref13_May⟩), (24, ⟨[(.tmp 0 true [(.dat (.int .u8)), (.dat (.int .i64)), (.dat (.int .i64))]), (.tmp 1 true [(.dat (.int .u8)), (.dat (.int .i64)), (.dat (.int .u8))])], [(.tmp 0 true [(.dat (.int .u8)), (.dat (.int .i64)), (.dat (.int .i64))]), (.tmp 1 false [(.dat (.list (.pair (.int .u8) (.pair (.int .i64) (.pair (.int .u8) (.int .i64))))))])], client_Step⟩), (20, ⟨[(.tmp 0 false [(.dat (.int .i64))])], [(.tmp 0 false [(.dat (.int .i64))])], client_Copies⟩), (33, ⟨[(.tmp 0 true [(.dat (.int .u8)), (.dat (.int .i64)), (.dat (.int .i64))]), (.tmp 1 true [(.dat (.int .u8)), (.dat (.int .i64)), (.dat (.int .u8))])], [(.tmp 0 true [(.dat (.int .u8)), (.dat (.int .i64)), (.dat (.int .i64))]), (.tmp 1 false [(.dat (.list (.pair (.int .u8) (.pair (.int .i64) (.pair (.int .u8) (.int .i64))))))])], dialtoneref13_open⟩), (27, ⟨[(.tmp 0 true [(.dat (.int .u8)), (.dat (.int .i64)), (.dat (.int .i64))]), (.tmp 1 true [(.dat (.int .u8)), (.dat (.int .i64)), (.dat (.int .u8))])], [(.tmp 0 true [(.dat (.int .u8)), (.dat (.int .i64)), (.dat (.int .i64))]), (.tmp 1 false [(.dat (.list (.pair (.int .u8) (.pair (.int .i64) (.pair (.int .u8) (.int .i64))))))])], dialtoneref13_Step⟩), (21, ⟨[(.tmp 0 false [(.dat (.int .i64))])], [(.tmp 0 false [(.dat (.int .i64))])], dialtoneref13_Copies⟩), (18, ⟨[(.tmp 0 false [(.dat (.list (.pair (.int .u8) (.pair (.int .i64) (.pair (.int .u8) (.int .i64))))))]), (.tmp 1 false [(.dat (.list (.pair (.int .u8) (.pair (.int .i64) (.pair (.int .u8) (.int .i64))))))])], [(.tmp 0 false [(.dat .bool)])], dialtoneref12_Same⟩), (19, ⟨[(.tmp 0 true [(.dat (.int .u8)), (.dat (.int .i64)), (.dat (.int .i64))]), (.tmp 1 true [(.dat (.int .u8)), (.dat (.int .i64)), (.dat (.int .u8))])], [(.tmp 0 false [(.dat .bool)])], dialtonelaw13_step⟩), (9, ⟨[(.tmp 0 true [(.dat (.int .u8)), (.dat (.int .i64)), (.dat (.int .i64))]), (.tmp 1 false [(.dat (.list (.int .i64)))])], [(.tmp 0 false [(.dat .bool)])], dialtonelaw13_inputs⟩), (5, ⟨[(.tmp 0 true [(.dat (.int .u8)), (.dat (.int .i64)), (.dat (.int .i64))]), (.tmp 1 true [(.dat (.int .u8)), (.dat (.int .i64)), (.dat (.int .u8))]), (.tmp 2 false [(.dat (.int .i64))])], [(.tmp 0 false [(.dat .bool)])], dialtonelaw13_ClientSteps⟩), (3, ⟨[], [(.tmp 0 false [(.dat .bool)])], dialtonelaw13_ClientTable⟩)]
theorem cons6_ok : ConL Try.prog cons6 := ⟨con_true (by kernel_rfl) lives_o, con16, con17, con14, con34, con35, con28, con24, con20, con33, con27, con21, con18, con19, con9, con5, con3, trivial⟩
theorem con6 : ConOk Try.prog 6 ⟨[(.tmp 0 false [(.dat (.int .u16))])], [(.tmp 0 false [(.dat .bool)])], dialtonelaw13_ClientAlone⟩ :=
  tree_ok (plan := planOf plan6) (eg := egNo) KK tabL_ok (conOf_ok cons6_ok) Try.func6 (by kernel_rfl) (by kernel_rfl) 10000 (fun a r h => Eq.trans (show _ = dialtonelaw13_ClientAlone a from by kernel_rfl) h)
end Go.Proofs.Ytohhpcggahlpjaa
