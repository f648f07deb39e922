/- Trees of functions, printed by the executor. -/
import Derived.Test.YtejppifgljjnmaaF
import Derived.Test.YtejppifgljjnmaaXB
import Derived.Test.YtejppifgljjnmaaZ1
set_option linter.unusedVariables false
set_option maxRecDepth 1000000
set_option maxHeartbeats 0
namespace Go.Proofs.Ytejppifgljjnmaa
open Go.RowKit
/-! ### dialtone/dialtonelaw10.TimersOnce -/
def plan8 : List (Nat × PL) := [(68853957121, (.carry [.tmp 7 false [(.dat (.list (.pair (.int .i64) (.pair (.int .i64) (.int .i64)))))], .mix 2 [(.dat (.int .i64)), (.dat (.int .i64)), (.dat (.int .i64)), (.dat (.int .i64)), (.dat (.int .i64)), (.dat (.int .i64)), (.dat (.int .i64)), (.dat (.int .i64)), (.dat (.int .i64)), (.dat (.int .i64)), (.dat (.int .i64)), (.dat (.int .i64)), (.dat (.int .i64)), (.dat (.int .i64)), (.dat (.int .i64)), (.dat (.int .i64))]])), (9241421688456087558, (.carry [.tmp 9 false [(.dat (.int .i64))], .tmp 7 false [(.dat (.list (.pair (.int .i64) (.pair (.int .i64) (.int .i64)))))], .mix 2 [(.dat (.int .i64)), (.dat (.int .i64)), (.dat (.int .i64)), (.dat (.int .i64)), (.dat (.int .i64)), (.dat (.int .i64)), (.dat (.int .i64)), (.dat (.int .i64)), (.dat (.int .i64)), (.dat (.int .i64)), (.dat (.int .i64)), (.dat (.int .i64)), (.dat (.int .i64)), (.dat (.int .i64)), (.dat (.int .i64)), (.dat (.int .i64))]])), (4731607904558235254802, (.carry [.tmp 0 false [(.dat .bool)]])), (635065662736647179589025792513, (.carry [.tmp 5 false [(.dat (.int .i64))]])), (85237070383327046782047015604360316934, (.carry [.tmp 6 false [(.dat (.int .i64))], .tmp 5 false [(.dat (.int .i64))]])), (325153619321163355949581205766657, (.carry [])), (22344386578566885351632932858589430922347009, (.carry [.tmp 7 false [(.dat (.int .i64))], .tmp 5 false [(.dat (.int .i64))]])), (43641380036263447952408071989501066741766, (.carry [.tmp 8 false [(.dat (.int .i64))]])), (1535494553666017714141518509187286376043704239312340998, (.carry [.tmp 7 false [(.dat (.int .i64))], .tmp 5 false [(.dat (.int .i64))]])), (11440325928226245300036061623615767639953506817, (.carry [.tmp 11 false [(.dat (.int .i64))], .tmp 10 false [(.dat (.int .i64))], .tmp 9 false [(.dat (.int .i64))]])), (325153619321163373997995856232961, (.carry [.tmp 19 false [(.dat (.int .i64))]])), (1535494553666017714141518509189699477610481710477083137, (.carry [])), (43641380036263450374825280377002530179078, (.carry [.tmp 20 false [(.dat (.int .i64))], .tmp 19 false [(.dat (.int .i64))]])), (85237070383327051513330625736333328405, (.carry [.tmp 0 false [(.dat .bool)]])), (206090590349426968399828084773388584887665724165787894715516934, (.carry [.tmp 11 false [(.dat (.int .i64))]])), (11440325928226245935058198299148986389197226497, (.carry [.tmp 5 false [(.dat (.int .i64))]])), (1535494553666017799372746923485241286660975484194785286, (.carry [.tmp 6 false [(.dat (.int .i64))], .tmp 5 false [(.dat (.int .i64))]])), (5857446875251837918749797529164281031268979966465, (.carry [])), (402520684276224569998769369510115091850454757328757794013697, (.carry [.tmp 7 false [(.dat (.int .i64))], .tmp 5 false [(.dat (.int .i64))]])), (786173211477001113278846424824443538770419447976314537990, (.carry [.tmp 8 false [(.dat (.int .i64))]])), (27661010798878815335942035236679741771099828887274096729502862874511366, (.carry [.tmp 7 false [(.dat (.int .i64))], .tmp 5 false [(.dat (.int .i64))]])), (206090590349426979839369917189178927027432835770302998246851073, (.carry [.tmp 11 false [(.dat (.int .i64))], .tmp 10 false [(.dat (.int .i64))], .tmp 9 false [(.dat (.int .i64))]])), (85237070383327051513330625736333328411, (.carry [.tmp 0 false [(.dat .bool)]])), (27661010798878815335942035236679741771099828889687198296280334039253505, (.carry [])), (11440325928226245935058198299148986390002532865, (.carry [.tmp 5 false [(.dat (.int .i64))]])), (3712598023608979541721696709163097204143715094762578386012217285829668257400838, (.carry [.tmp 11 false [(.dat (.int .i64))]])), (1535494553666017799372746923485241286769061875251677190, (.carry [.tmp 6 false [(.dat (.int .i64))], .tmp 5 false [(.dat (.int .i64))]])), (5857446875251837918749797529164281031681296826881, (.carry [])), (402520684276224569998769369510115091878788956225975665295873, (.carry [.tmp 7 false [(.dat (.int .i64))], .tmp 5 false [(.dat (.int .i64))]])), (786173211477001113278846424824443538825759680197443192838, (.carry [.tmp 8 false [(.dat (.int .i64))]])), (27661010798878815335942035236679741773046940209224657090201798997968902, (.carry [.tmp 7 false [(.dat (.int .i64))], .tmp 5 false [(.dat (.int .i64))]])), (206090590349426979839369917189178927041939945605678548343325185, (.carry [.tmp 11 false [(.dat (.int .i64))], .tmp 10 false [(.dat (.int .i64))], .tmp 9 false [(.dat (.int .i64))]])), (27661010798878815335942035236679741773046940211637758656979270162711041, (.carry [])), (3712598023608979541721696709163097204405051952557859125952088984337266243799046, (.carry [.tmp 11 false [(.dat (.int .i64))]]))]
noncomputable def dialtonelaw10_TimersOnce : ((List (Int × Int)) × (Int × Int)) → Option Bool := fun (a1, (a2, a3)) =>
  joinO (loopO (fun (v4, (v5, (v6, (v7, (v8, (v9, (v10, (v11, (v12, (v13, (v14, (v15, (v16, (v17, (v18, (v19, (v20, v21))))))))))))))))) =>
    bif (decide (v4 < (((List.length a1) : Nat) : Int))) then
     bif (decide (v4 < (200 : Int))) then
      bif (decide (((0 : Int) ≤ v4) ∧ (v4 < (((List.length a1) : Nat) : Int)))) then 
       bindO a1[(Int.toNat v4)]? fun x22 =>
       bindO (some (Int.tmod (Go.IntKind.wrap .u8 (Int.tdiv x22.1 (4 : Int))) (4 : Int))) fun x24 =>
       bif (decide (((0 : Int) ≤ v4) ∧ (v4 < (((List.length a1) : Nat) : Int)))) then 
        bindO a1[(Int.toNat v4)]? fun x26 =>
        bindO (some (Int.tmod x26.1 (4 : Int))) fun x27 =>
        bif (decide (((0 : Int) ≤ v4) ∧ (v4 < (((List.length a1) : Nat) : Int)))) then 
         bindO a1[(Int.toNat v4)]? fun x29 =>
         bindO (some (Go.IntKind.wrap .i64 x29.2)) fun x30 =>
         bindO (timers_Restart (v5, (x30, ((Go.IntKind.wrap .i64 x24), (Go.IntKind.wrap .i64 x27))))) fun (x32, x33) =>
         bif (decide (x33 ≠ (0 : Int))) then
          outO (outO (some Bool.false))
         else
          bif (decide (((0 : Int) ≤ (Go.IntKind.wrap .i64 x24)) ∧ ((Go.IntKind.wrap .i64 x24) < (4 : Int)))) then 
           bif (decide (((0 : Int) ≤ (Go.IntKind.wrap .i64 x27)) ∧ ((Go.IntKind.wrap .i64 x27) < (4 : Int)))) then 
            bif (decide ((((((Int.toNat (Go.IntKind.wrap .i64 x24)) * 4) + (Int.toNat (Go.IntKind.wrap .i64 x27))) * 1) + 1) ≤ 16)) then 
             bindO (some (putL (v6 :: (v7 :: (v8 :: (v9 :: (v10 :: (v11 :: (v12 :: (v13 :: (v14 :: (v15 :: (v16 :: (v17 :: (v18 :: (v19 :: (v20 :: (v21 :: ([] : List Int))))))))))))))))) ((((Int.toNat (Go.IntKind.wrap .i64 x24)) * 4) + (Int.toNat (Go.IntKind.wrap .i64 x27))) * 1) ((Go.IntKind.wrap .i64 ((1 : Int) + x30)) :: ([] : List Int)))) fun x35 =>
             some (Sum.inl ((Go.IntKind.wrap .i64 (v4 + (1 : Int))), (x32, ((List.getD x35 0 (0 : Int)), ((List.getD x35 1 (0 : Int)), ((List.getD x35 2 (0 : Int)), ((List.getD x35 3 (0 : Int)), ((List.getD x35 4 (0 : Int)), ((List.getD x35 5 (0 : Int)), ((List.getD x35 6 (0 : Int)), ((List.getD x35 7 (0 : Int)), ((List.getD x35 8 (0 : Int)), ((List.getD x35 9 (0 : Int)), ((List.getD x35 10 (0 : Int)), ((List.getD x35 11 (0 : Int)), ((List.getD x35 12 (0 : Int)), ((List.getD x35 13 (0 : Int)), ((List.getD x35 14 (0 : Int)), (List.getD x35 15 (0 : Int))))))))))))))))))))
            else none
           else none
          else none
        else none
       else none
      else none
     else
      outO (some (Sum.inl (v5, (v6, (v7, (v8, (v9, (v10, (v11, (v12, (v13, (v14, (v15, (v16, (v17, (v18, (v19, (v20, v21))))))))))))))))))
    else
     outO (some (Sum.inl (v5, (v6, (v7, (v8, (v9, (v10, (v11, (v12, (v13, (v14, (v15, (v16, (v17, (v18, (v19, (v20, v21))))))))))))))))))) ((0 : Int), (([] : List (Int × (Int × Int))), ((0 : Int), ((0 : Int), ((0 : Int), ((0 : Int), ((0 : Int), ((0 : Int), ((0 : Int), ((0 : Int), ((0 : Int), ((0 : Int), ((0 : Int), ((0 : Int), ((0 : Int), ((0 : Int), ((0 : Int), (0 : Int))))))))))))))))))) fun (v37, (v38, (v39, (v40, (v41, (v42, (v43, (v44, (v45, (v46, (v47, (v48, (v49, (v50, (v51, (v52, v53)))))))))))))))) =>
  bindO (some (Int.tmod a2 (4 : Int))) fun x54 =>
  bindO (some (Int.tmod a3 (4 : Int))) fun x56 =>
  joinO (joinO (loopO (fun (v58, v59) =>
     bif (decide (v58 < (4 : Int))) then
      joinO (loopO (fun (v60, v61) =>
        bif (decide (v60 < (4 : Int))) then
         bif (decide (((0 : Int) ≤ v58) ∧ (v58 < (4 : Int)))) then 
          bif (decide (((0 : Int) ≤ v60) ∧ (v60 < (4 : Int)))) then 
           bindO (v38 :: (v39 :: (v40 :: (v41 :: (v42 :: (v43 :: (v44 :: (v45 :: (v46 :: (v47 :: (v48 :: (v49 :: (v50 :: (v51 :: (v52 :: (v53 :: ([] : List Int)))))))))))))))))[(((Int.toNat v58) * 4) + (Int.toNat v60))]? fun x62 =>
           bif (decide (x62 > (0 : Int))) then
            some (Sum.inl ((Go.IntKind.wrap .i64 (v60 + (1 : Int))), (Go.IntKind.wrap .i64 (v61 + (1 : Int)))))
           else
            some (Sum.inl ((Go.IntKind.wrap .i64 (v60 + (1 : Int))), v61))
          else none
         else none
        else
         outO (some (Sum.inl (v60, v61)))) ((0 : Int), v59)) fun (v66, v67) =>
      some (Sum.inl ((Go.IntKind.wrap .i64 (v58 + (1 : Int))), v67))
     else
      outO (some (Sum.inl v59))) ((0 : Int), (0 : Int))) fun v69 =>
   joinO (loopO (fun v70 =>
     bif (decide (v70 < (((List.length v37) : Nat) : Int))) then
      joinO (bif (decide (((0 : Int) ≤ v70) ∧ (v70 < (((List.length v37) : Nat) : Int)))) then 
        bindO v37[(Int.toNat v70)]? fun x71 =>
        bif (decide (((0 : Int) ≤ v70) ∧ (v70 < (((List.length v37) : Nat) : Int)))) then 
         bindO v37[(Int.toNat v70)]? fun x72 =>
         joinO (bif (decide (x71.2.1 < (0 : Int))) then
           outO (outO (outO (outO (some (Sum.inl Bool.false)))))
          else
           bif (decide (x71.2.1 > (3 : Int))) then
            outO (outO (outO (outO (some (Sum.inl Bool.false)))))
           else
            bif (decide (x72.2.2 < (0 : Int))) then
             outO (outO (outO (outO (some (Sum.inl Bool.false)))))
            else
             bif (decide (x72.2.2 > (3 : Int))) then
              outO (outO (outO (outO (some (Sum.inl Bool.false)))))
             else
              bif (decide (((0 : Int) ≤ x71.2.1) ∧ (x71.2.1 < (4 : Int)))) then 
               bif (decide (((0 : Int) ≤ x72.2.2) ∧ (x72.2.2 < (4 : Int)))) then 
                bindO (v38 :: (v39 :: (v40 :: (v41 :: (v42 :: (v43 :: (v44 :: (v45 :: (v46 :: (v47 :: (v48 :: (v49 :: (v50 :: (v51 :: (v52 :: (v53 :: ([] : List Int)))))))))))))))))[(((Int.toNat x71.2.1) * 4) + (Int.toNat x72.2.2))]? fun x73 =>
                bif (decide (((0 : Int) ≤ v70) ∧ (v70 < (((List.length v37) : Nat) : Int)))) then 
                 bindO v37[(Int.toNat v70)]? fun x74 =>
                 bif (decide (x73 ≠ (Go.IntKind.wrap .i64 (x74.1 + (1 : Int))))) then
                  outO (outO (outO (outO (some (Sum.inl Bool.false)))))
                 else
                  bif (decide (v70 > (0 : Int))) then
                   bif (decide (((0 : Int) ≤ v70) ∧ (v70 < (((List.length v37) : Nat) : Int)))) then 
                    bindO v37[(Int.toNat v70)]? fun x76 =>
                    bindO (some (Go.IntKind.wrap .i64 (v70 - (1 : Int)))) fun x77 =>
                    bif (decide (((0 : Int) ≤ x77) ∧ (x77 < (((List.length v37) : Nat) : Int)))) then 
                     bindO v37[(Int.toNat x77)]? fun x78 =>
                     bif (decide (x76.1 < x78.1)) then
                      outO (outO (outO (outO (some (Sum.inl Bool.false)))))
                     else
                      some (Sum.inl ())
                    else none
                   else none
                  else
                   some (Sum.inl ())
                else none
               else none
              else none) fun _ =>
         loopO (fun v79 =>
          bif (decide (v79 < v70)) then
           bif (decide (((0 : Int) ≤ v79) ∧ (v79 < (((List.length v37) : Nat) : Int)))) then 
            bindO v37[(Int.toNat v79)]? fun x80 =>
            bif (decide (x80.2.1 = x71.2.1)) then
             bif (decide (((0 : Int) ≤ v79) ∧ (v79 < (((List.length v37) : Nat) : Int)))) then 
              bindO v37[(Int.toNat v79)]? fun x81 =>
              bif (decide (x81.2.2 = x72.2.2)) then
               outO (outO (outO (outO (some (Sum.inl Bool.false)))))
              else
               some (Sum.inl (Go.IntKind.wrap .i64 (v79 + (1 : Int))))
             else none
            else
             some (Sum.inl (Go.IntKind.wrap .i64 (v79 + (1 : Int))))
           else none
          else
           outO (some (Sum.inl (v79, (x72.2.2, x71.2.1))))) (0 : Int)
        else none
       else none) fun (v84, (v85, v86)) =>
      some (Sum.inl (Go.IntKind.wrap .i64 (v70 + (1 : Int))))
     else
      outO (some (Sum.inl ()))) (0 : Int)) fun _ =>
   some (Sum.inl (decide (v69 = (((List.length v37) : Nat) : Int))))) fun v88 =>
  bif (!v88) then
   some Bool.false
  else
   bif (decide (((0 : Int) ≤ (Go.IntKind.wrap .i64 x54)) ∧ ((Go.IntKind.wrap .i64 x54) < (4 : Int)))) then 
    bif (decide (((0 : Int) ≤ (Go.IntKind.wrap .i64 x56)) ∧ ((Go.IntKind.wrap .i64 x56) < (4 : Int)))) then 
     bif (decide ((((((Int.toNat (Go.IntKind.wrap .i64 x54)) * 4) + (Int.toNat (Go.IntKind.wrap .i64 x56))) * 1) + 1) ≤ 16)) then 
      bindO (some (putL (v38 :: (v39 :: (v40 :: (v41 :: (v42 :: (v43 :: (v44 :: (v45 :: (v46 :: (v47 :: (v48 :: (v49 :: (v50 :: (v51 :: (v52 :: (v53 :: ([] : List Int))))))))))))))))) ((((Int.toNat (Go.IntKind.wrap .i64 x54)) * 4) + (Int.toNat (Go.IntKind.wrap .i64 x56))) * 1) ((0 : Int) :: ([] : List Int)))) fun x89 =>
      bif (decide (((0 : Int) ≤ (Go.IntKind.wrap .i64 x54)) ∧ ((Go.IntKind.wrap .i64 x54) < (4 : Int)))) then 
       bif (decide ((((Int.toNat (Go.IntKind.wrap .i64 x54)) * 4) + 4) ≤ 16)) then 
        bindO (some (putL (v38 :: (v39 :: (v40 :: (v41 :: (v42 :: (v43 :: (v44 :: (v45 :: (v46 :: (v47 :: (v48 :: (v49 :: (v50 :: (v51 :: (v52 :: (v53 :: ([] : List Int))))))))))))))))) ((Int.toNat (Go.IntKind.wrap .i64 x54)) * 4) ((0 : Int) :: ((0 : Int) :: ((0 : Int) :: ((0 : Int) :: ([] : List Int))))))) fun x90 =>
        joinO (loopO (fun (v91, v92) =>
          bif (decide (v91 < (4 : Int))) then
           bif (decide (((0 : Int) ≤ (Go.IntKind.wrap .i64 x54)) ∧ ((Go.IntKind.wrap .i64 x54) < (4 : Int)))) then 
            bif (decide (((0 : Int) ≤ v91) ∧ (v91 < (4 : Int)))) then 
             bindO (v38 :: (v39 :: (v40 :: (v41 :: (v42 :: (v43 :: (v44 :: (v45 :: (v46 :: (v47 :: (v48 :: (v49 :: (v50 :: (v51 :: (v52 :: (v53 :: ([] : List Int)))))))))))))))))[(((Int.toNat (Go.IntKind.wrap .i64 x54)) * 4) + (Int.toNat v91))]? fun x93 =>
             bif (decide (x93 > (0 : Int))) then
              some (Sum.inl ((Go.IntKind.wrap .i64 (v91 + (1 : Int))), (Go.IntKind.wrap .i64 (v92 + (1 : Int)))))
             else
              some (Sum.inl ((Go.IntKind.wrap .i64 (v91 + (1 : Int))), v92))
            else none
           else none
          else
           outO (some (Sum.inl v92))) ((0 : Int), (0 : Int))) fun v97 =>
        bindO (timers_Cancel (v37, ((Go.IntKind.wrap .i64 x54), (Go.IntKind.wrap .i64 x56)))) fun x98 =>
        joinO (joinO (loopO (fun (v99, v100) =>
           bif (decide (v99 < (4 : Int))) then
            joinO (loopO (fun (v101, v102) =>
              bif (decide (v101 < (4 : Int))) then
               bif (decide (((0 : Int) ≤ v99) ∧ (v99 < (4 : Int)))) then 
                bif (decide (((0 : Int) ≤ v101) ∧ (v101 < (4 : Int)))) then 
                 bindO ((List.getD x89 0 (0 : Int)) :: ((List.getD x89 1 (0 : Int)) :: ((List.getD x89 2 (0 : Int)) :: ((List.getD x89 3 (0 : Int)) :: ((List.getD x89 4 (0 : Int)) :: ((List.getD x89 5 (0 : Int)) :: ((List.getD x89 6 (0 : Int)) :: ((List.getD x89 7 (0 : Int)) :: ((List.getD x89 8 (0 : Int)) :: ((List.getD x89 9 (0 : Int)) :: ((List.getD x89 10 (0 : Int)) :: ((List.getD x89 11 (0 : Int)) :: ((List.getD x89 12 (0 : Int)) :: ((List.getD x89 13 (0 : Int)) :: ((List.getD x89 14 (0 : Int)) :: ((List.getD x89 15 (0 : Int)) :: ([] : List Int)))))))))))))))))[(((Int.toNat v99) * 4) + (Int.toNat v101))]? fun x103 =>
                 bif (decide (x103 > (0 : Int))) then
                  some (Sum.inl ((Go.IntKind.wrap .i64 (v101 + (1 : Int))), (Go.IntKind.wrap .i64 (v102 + (1 : Int)))))
                 else
                  some (Sum.inl ((Go.IntKind.wrap .i64 (v101 + (1 : Int))), v102))
                else none
               else none
              else
               outO (some (Sum.inl (v101, v102)))) ((0 : Int), v100)) fun (v107, v108) =>
            some (Sum.inl ((Go.IntKind.wrap .i64 (v99 + (1 : Int))), v108))
           else
            outO (some (Sum.inl v100))) ((0 : Int), (0 : Int))) fun v110 =>
         joinO (loopO (fun v111 =>
           bif (decide (v111 < (((List.length x98) : Nat) : Int))) then
            joinO (bif (decide (((0 : Int) ≤ v111) ∧ (v111 < (((List.length x98) : Nat) : Int)))) then 
              bindO x98[(Int.toNat v111)]? fun x112 =>
              bif (decide (((0 : Int) ≤ v111) ∧ (v111 < (((List.length x98) : Nat) : Int)))) then 
               bindO x98[(Int.toNat v111)]? fun x113 =>
               joinO (bif (decide (x112.2.1 < (0 : Int))) then
                 outO (outO (outO (outO (some (Sum.inl Bool.false)))))
                else
                 bif (decide (x112.2.1 > (3 : Int))) then
                  outO (outO (outO (outO (some (Sum.inl Bool.false)))))
                 else
                  bif (decide (x113.2.2 < (0 : Int))) then
                   outO (outO (outO (outO (some (Sum.inl Bool.false)))))
                  else
                   bif (decide (x113.2.2 > (3 : Int))) then
                    outO (outO (outO (outO (some (Sum.inl Bool.false)))))
                   else
                    bif (decide (((0 : Int) ≤ x112.2.1) ∧ (x112.2.1 < (4 : Int)))) then 
                     bif (decide (((0 : Int) ≤ x113.2.2) ∧ (x113.2.2 < (4 : Int)))) then 
                      bindO ((List.getD x89 0 (0 : Int)) :: ((List.getD x89 1 (0 : Int)) :: ((List.getD x89 2 (0 : Int)) :: ((List.getD x89 3 (0 : Int)) :: ((List.getD x89 4 (0 : Int)) :: ((List.getD x89 5 (0 : Int)) :: ((List.getD x89 6 (0 : Int)) :: ((List.getD x89 7 (0 : Int)) :: ((List.getD x89 8 (0 : Int)) :: ((List.getD x89 9 (0 : Int)) :: ((List.getD x89 10 (0 : Int)) :: ((List.getD x89 11 (0 : Int)) :: ((List.getD x89 12 (0 : Int)) :: ((List.getD x89 13 (0 : Int)) :: ((List.getD x89 14 (0 : Int)) :: ((List.getD x89 15 (0 : Int)) :: ([] : List Int)))))))))))))))))[(((Int.toNat x112.2.1) * 4) + (Int.toNat x113.2.2))]? fun x114 =>
                      bif (decide (((0 : Int) ≤ v111) ∧ (v111 < (((List.length x98) : Nat) : Int)))) then 
                       bindO x98[(Int.toNat v111)]? fun x115 =>
                       bif (decide (x114 ≠ (Go.IntKind.wrap .i64 (x115.1 + (1 : Int))))) then
                        outO (outO (outO (outO (some (Sum.inl Bool.false)))))
                       else
                        bif (decide (v111 > (0 : Int))) then
                         bif (decide (((0 : Int) ≤ v111) ∧ (v111 < (((List.length x98) : Nat) : Int)))) then 
                          bindO x98[(Int.toNat v111)]? fun x117 =>
                          bindO (some (Go.IntKind.wrap .i64 (v111 - (1 : Int)))) fun x118 =>
                          bif (decide (((0 : Int) ≤ x118) ∧ (x118 < (((List.length x98) : Nat) : Int)))) then 
                           bindO x98[(Int.toNat x118)]? fun x119 =>
                           bif (decide (x117.1 < x119.1)) then
                            outO (outO (outO (outO (some (Sum.inl Bool.false)))))
                           else
                            some (Sum.inl ())
                          else none
                         else none
                        else
                         some (Sum.inl ())
                      else none
                     else none
                    else none) fun _ =>
               loopO (fun v120 =>
                bif (decide (v120 < v111)) then
                 bif (decide (((0 : Int) ≤ v120) ∧ (v120 < (((List.length x98) : Nat) : Int)))) then 
                  bindO x98[(Int.toNat v120)]? fun x121 =>
                  bif (decide (x121.2.1 = x112.2.1)) then
                   bif (decide (((0 : Int) ≤ v120) ∧ (v120 < (((List.length x98) : Nat) : Int)))) then 
                    bindO x98[(Int.toNat v120)]? fun x122 =>
                    bif (decide (x122.2.2 = x113.2.2)) then
                     outO (outO (outO (outO (some (Sum.inl Bool.false)))))
                    else
                     some (Sum.inl (Go.IntKind.wrap .i64 (v120 + (1 : Int))))
                   else none
                  else
                   some (Sum.inl (Go.IntKind.wrap .i64 (v120 + (1 : Int))))
                 else none
                else
                 outO (some (Sum.inl (v120, (x113.2.2, x112.2.1))))) (0 : Int)
              else none
             else none) fun (v125, (v126, v127)) =>
            some (Sum.inl (Go.IntKind.wrap .i64 (v111 + (1 : Int))))
           else
            outO (some (Sum.inl ()))) (0 : Int)) fun _ =>
         some (Sum.inl (decide (v110 = (((List.length x98) : Nat) : Int))))) fun v129 =>
        bif v129 then
         bindO (timers_CancelAll (v37, (Go.IntKind.wrap .i64 x54))) fun x130 =>
         joinO (joinO (loopO (fun (v131, v132) =>
            bif (decide (v131 < (4 : Int))) then
             joinO (loopO (fun (v133, v134) =>
               bif (decide (v133 < (4 : Int))) then
                bif (decide (((0 : Int) ≤ v131) ∧ (v131 < (4 : Int)))) then 
                 bif (decide (((0 : Int) ≤ v133) ∧ (v133 < (4 : Int)))) then 
                  bindO ((List.getD x90 0 (0 : Int)) :: ((List.getD x90 1 (0 : Int)) :: ((List.getD x90 2 (0 : Int)) :: ((List.getD x90 3 (0 : Int)) :: ((List.getD x90 4 (0 : Int)) :: ((List.getD x90 5 (0 : Int)) :: ((List.getD x90 6 (0 : Int)) :: ((List.getD x90 7 (0 : Int)) :: ((List.getD x90 8 (0 : Int)) :: ((List.getD x90 9 (0 : Int)) :: ((List.getD x90 10 (0 : Int)) :: ((List.getD x90 11 (0 : Int)) :: ((List.getD x90 12 (0 : Int)) :: ((List.getD x90 13 (0 : Int)) :: ((List.getD x90 14 (0 : Int)) :: ((List.getD x90 15 (0 : Int)) :: ([] : List Int)))))))))))))))))[(((Int.toNat v131) * 4) + (Int.toNat v133))]? fun x135 =>
                  bif (decide (x135 > (0 : Int))) then
                   some (Sum.inl ((Go.IntKind.wrap .i64 (v133 + (1 : Int))), (Go.IntKind.wrap .i64 (v134 + (1 : Int)))))
                  else
                   some (Sum.inl ((Go.IntKind.wrap .i64 (v133 + (1 : Int))), v134))
                 else none
                else none
               else
                outO (some (Sum.inl (v133, v134)))) ((0 : Int), v132)) fun (v139, v140) =>
             some (Sum.inl ((Go.IntKind.wrap .i64 (v131 + (1 : Int))), v140))
            else
             outO (some (Sum.inl v132))) ((0 : Int), (0 : Int))) fun v142 =>
          joinO (loopO (fun v143 =>
            bif (decide (v143 < (((List.length x130) : Nat) : Int))) then
             joinO (bif (decide (((0 : Int) ≤ v143) ∧ (v143 < (((List.length x130) : Nat) : Int)))) then 
               bindO x130[(Int.toNat v143)]? fun x144 =>
               bif (decide (((0 : Int) ≤ v143) ∧ (v143 < (((List.length x130) : Nat) : Int)))) then 
                bindO x130[(Int.toNat v143)]? fun x145 =>
                joinO (bif (decide (x144.2.1 < (0 : Int))) then
                  outO (outO (outO (outO (some (Sum.inl Bool.false)))))
                 else
                  bif (decide (x144.2.1 > (3 : Int))) then
                   outO (outO (outO (outO (some (Sum.inl Bool.false)))))
                  else
                   bif (decide (x145.2.2 < (0 : Int))) then
                    outO (outO (outO (outO (some (Sum.inl Bool.false)))))
                   else
                    bif (decide (x145.2.2 > (3 : Int))) then
                     outO (outO (outO (outO (some (Sum.inl Bool.false)))))
                    else
                     bif (decide (((0 : Int) ≤ x144.2.1) ∧ (x144.2.1 < (4 : Int)))) then 
                      bif (decide (((0 : Int) ≤ x145.2.2) ∧ (x145.2.2 < (4 : Int)))) then 
                       bindO ((List.getD x90 0 (0 : Int)) :: ((List.getD x90 1 (0 : Int)) :: ((List.getD x90 2 (0 : Int)) :: ((List.getD x90 3 (0 : Int)) :: ((List.getD x90 4 (0 : Int)) :: ((List.getD x90 5 (0 : Int)) :: ((List.getD x90 6 (0 : Int)) :: ((List.getD x90 7 (0 : Int)) :: ((List.getD x90 8 (0 : Int)) :: ((List.getD x90 9 (0 : Int)) :: ((List.getD x90 10 (0 : Int)) :: ((List.getD x90 11 (0 : Int)) :: ((List.getD x90 12 (0 : Int)) :: ((List.getD x90 13 (0 : Int)) :: ((List.getD x90 14 (0 : Int)) :: ((List.getD x90 15 (0 : Int)) :: ([] : List Int)))))))))))))))))[(((Int.toNat x144.2.1) * 4) + (Int.toNat x145.2.2))]? fun x146 =>
                       bif (decide (((0 : Int) ≤ v143) ∧ (v143 < (((List.length x130) : Nat) : Int)))) then 
                        bindO x130[(Int.toNat v143)]? fun x147 =>
                        bif (decide (x146 ≠ (Go.IntKind.wrap .i64 (x147.1 + (1 : Int))))) then
                         outO (outO (outO (outO (some (Sum.inl Bool.false)))))
                        else
                         bif (decide (v143 > (0 : Int))) then
                          bif (decide (((0 : Int) ≤ v143) ∧ (v143 < (((List.length x130) : Nat) : Int)))) then 
                           bindO x130[(Int.toNat v143)]? fun x149 =>
                           bindO (some (Go.IntKind.wrap .i64 (v143 - (1 : Int)))) fun x150 =>
                           bif (decide (((0 : Int) ≤ x150) ∧ (x150 < (((List.length x130) : Nat) : Int)))) then 
                            bindO x130[(Int.toNat x150)]? fun x151 =>
                            bif (decide (x149.1 < x151.1)) then
                             outO (outO (outO (outO (some (Sum.inl Bool.false)))))
                            else
                             some (Sum.inl ())
                           else none
                          else none
                         else
                          some (Sum.inl ())
                       else none
                      else none
                     else none) fun _ =>
                loopO (fun v152 =>
                 bif (decide (v152 < v143)) then
                  bif (decide (((0 : Int) ≤ v152) ∧ (v152 < (((List.length x130) : Nat) : Int)))) then 
                   bindO x130[(Int.toNat v152)]? fun x153 =>
                   bif (decide (x153.2.1 = x144.2.1)) then
                    bif (decide (((0 : Int) ≤ v152) ∧ (v152 < (((List.length x130) : Nat) : Int)))) then 
                     bindO x130[(Int.toNat v152)]? fun x154 =>
                     bif (decide (x154.2.2 = x145.2.2)) then
                      outO (outO (outO (outO (some (Sum.inl Bool.false)))))
                     else
                      some (Sum.inl (Go.IntKind.wrap .i64 (v152 + (1 : Int))))
                    else none
                   else
                    some (Sum.inl (Go.IntKind.wrap .i64 (v152 + (1 : Int))))
                  else none
                 else
                  outO (some (Sum.inl (v152, (x145.2.2, x144.2.1))))) (0 : Int)
               else none
              else none) fun (v157, (v158, v159)) =>
             some (Sum.inl (Go.IntKind.wrap .i64 (v143 + (1 : Int))))
            else
             outO (some (Sum.inl ()))) (0 : Int)) fun _ =>
          some (Sum.inl (decide (v142 = (((List.length x130) : Nat) : Int))))) fun v161 =>
         bif v161 then
          bindO (timers_Count (v37, (Go.IntKind.wrap .i64 x54))) fun x162 =>
          bif (decide (x162 = v97)) then
           some Bool.true
          else
           some Bool.false
         else
          some Bool.false
        else
         some Bool.false
       else none
      else none
     else none
    else none
   else none
noncomputable def cons8 : List (Nat × CE) := [(12, ⟨[], riB, (fun _ => some true)⟩), (11, ⟨[(.tmp 0 false [(.dat (.list (.pair (.int .i64) (.pair (.int .i64) (.int .i64)))))])], [(.tmp 0 false [(.dat .bool)])], timers_Valid⟩), (37, ⟨[(.tmp 0 true [(.dat (.int .i64)), (.dat (.int .i64)), (.dat (.int .i64))])], [(.tmp 0 false [(.dat .bool)])], timers_timely⟩), (22, ⟨[(.tmp 0 false [(.dat (.list (.pair (.int .i64) (.pair (.int .i64) (.int .i64)))))]), (.tmp 1 true [(.dat (.int .i64)), (.dat (.int .i64)), (.dat (.int .i64))])], [(.tmp 0 false [(.dat (.list (.pair (.int .i64) (.pair (.int .i64) (.int .i64)))))]), (.tmp 1 false [(.dat (.int .u8))])], timers_Add⟩), (24, ⟨[(.tmp 0 false [(.dat (.list (.pair (.int .i64) (.pair (.int .i64) (.int .i64)))))]), (.tmp 1 true [(.dat (.int .i64)), (.dat (.int .i64)), (.dat (.int .i64))])], [(.tmp 0 false [(.dat (.list (.pair (.int .i64) (.pair (.int .i64) (.int .i64)))))]), (.tmp 1 false [(.dat (.int .u8))])], timers_Restart⟩), (26, ⟨[(.tmp 0 false [(.dat (.list (.pair (.int .i64) (.pair (.int .i64) (.int .i64)))))]), (.tmp 1 false [(.dat (.int .i64))]), (.tmp 2 false [(.dat (.int .i64))])], [(.tmp 0 false [(.dat (.list (.pair (.int .i64) (.pair (.int .i64) (.int .i64)))))])], timers_Cancel⟩), (27, ⟨[(.tmp 0 false [(.dat (.list (.pair (.int .i64) (.pair (.int .i64) (.int .i64)))))]), (.tmp 1 false [(.dat (.int .i64))])], [(.tmp 0 false [(.dat (.list (.pair (.int .i64) (.pair (.int .i64) (.int .i64)))))])], timers_CancelAll⟩), (30, ⟨[(.tmp 0 false [(.dat (.list (.pair (.int .i64) (.pair (.int .i64) (.int .i64)))))]), (.tmp 1 false [(.dat (.int .i64))])], [(.tmp 0 false [(.dat (.int .i64))])], timers_Count⟩)]
theorem cons8_ok : ConL Try.prog cons8 := ⟨con_true (by kernel_rfl) lives_o, con11, con37, con22, con24, con26, con27, con30, trivial⟩
theorem con8 : ConOk Try.prog 8 ⟨[(.tmp 0 false [(.dat (.list (.pair (.int .u8) (.int .u8))))]), (.tmp 1 false [(.dat (.int .u8))]), (.tmp 2 false [(.dat (.int .u8))])], [(.tmp 0 false [(.dat .bool)])], dialtonelaw10_TimersOnce⟩ :=
  tree_ok (plan := planOf plan8) (eg := egNo) KK tabL_ok (conOf_ok cons8_ok) Try.func8 (by kernel_rfl) (by kernel_rfl) 10000 (fun a r h => Eq.trans (show _ = dialtonelaw10_TimersOnce a from by kernel_rfl) h)
end Go.Proofs.Ytejppifgljjnmaa
