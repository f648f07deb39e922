import Derived.Test.YtkhdpjlpahammaaFp
import Derived.Test.YtkhdpjlpahammaaXBp
import Derived.Test.YtkhdpjlpahammaaLp
import Derived.Test.YtkhdpjlpahammaaZ1p
import Derived.Test.YtkhdpjlpahammaaA1p
import Derived.Test.YtkhdpjlpahammaaA2p
import Derived.Test.YtkhdpjlpahammaaZ4p
set_option linter.unusedVariables false
set_option maxRecDepth 1000000
set_option maxHeartbeats 0
namespace Go.Proofs.Ytkhdpjlpahammaa
open Go.RowKit
def plan6 : List (Nat × PL) := [(68853956625, .unroll), (18049651605504513, (.carry [])), (35253226045457, .unroll), (2422583229682367894652934, (.carry [.tmp 8 false [(.dat (.int .i64))]])), (9241421688460280321, (.carry [])), (1240362622515062642793777158, (.carry [.tmp 4 false [(.dat (.int .i64))]])), (4731607904558235517441, (.carry [.tmp 10 false [(.pt 30000028 0)], .tmp 9 false [(.pt 30000029 0)], .mix 30000028 [(.dat (.list (.pair .bool (.pair (.int .i64) (.pair .bool (.int .i64)))))), (.own 10000034 40 (.pair (.int .i64) (.pair .str (.pair .str (.pair (.int .i64) (.list (.int .u8))))))), (.dat (.int .i64)), (.dat (.int .i64)), (.dat (.int .i64))], .mix 30000029 [(.dat .bool), (.own 10000035 37 (.pair .bool (.pair (.int .i64) (.pair .bool (.int .i64))))), (.own 10000036 67 (.pair (.pair .bool (.pair (.int .i64) (.pair .bool (.int .i64)))) (.pair (.int .i64) (.pair .str (.pair .str (.pair (.int .i64) (.pair .bool (.list (.int .u8))))))))), (.dat (.int .i64)), (.dat (.int .i64)), (.dat (.int .i64))], .mix 45 [(.dat (.list (.pair .bool (.pair (.int .i64) (.pair .bool (.int .i64)))))), (.own 10000033 40 (.pair (.int .i64) (.pair .str (.pair .str (.pair (.int .i64) (.list (.int .u8))))))), (.dat (.int .i64)), (.dat (.int .i64)), (.dat (.int .i64))], .mix 25 [(.dat .bool), (.own 10000037 37 (.pair .bool (.pair (.int .i64) (.pair .bool (.int .i64))))), (.own 10000038 67 (.pair (.pair .bool (.pair (.int .i64) (.pair .bool (.int .i64)))) (.pair (.int .i64) (.pair .str (.pair .str (.pair (.int .i64) (.pair .bool (.list (.int .u8))))))))), (.dat (.int .i64)), (.dat (.int .i64)), (.dat (.int .i64))], .dead 69, .dead 28, .dead 74, .dead 66, .dead 67, .dead 68, .dead 84, .dead 41])), (635065662736647214839701440518, (.carry [.tmp 11 false [(.dat (.int .i64))], .tmp 10 false [(.pt 30000015 0)], .tmp 9 false [(.pt 30000016 0)], .mix 30000015 [(.dat (.list (.pair .bool (.pair (.int .i64) (.pair .bool (.int .i64)))))), (.own 10000021 40 (.pair (.int .i64) (.pair .str (.pair .str (.pair (.int .i64) (.list (.int .u8))))))), (.dat (.int .i64)), (.dat (.int .i64)), (.dat (.int .i64))], .mix 30000016 [(.dat .bool), (.own 10000022 37 (.pair .bool (.pair (.int .i64) (.pair .bool (.int .i64))))), (.own 10000023 67 (.pair (.pair .bool (.pair (.int .i64) (.pair .bool (.int .i64)))) (.pair (.int .i64) (.pair .str (.pair .str (.pair (.int .i64) (.pair .bool (.list (.int .u8))))))))), (.dat (.int .i64)), (.dat (.int .i64)), (.dat (.int .i64))], .mix 45 [(.dat (.list (.pair .bool (.pair (.int .i64) (.pair .bool (.int .i64)))))), (.own 10000020 40 (.pair (.int .i64) (.pair .str (.pair .str (.pair (.int .i64) (.list (.int .u8))))))), (.dat (.int .i64)), (.dat (.int .i64)), (.dat (.int .i64))], .mix 25 [(.dat .bool), (.own 10000026 37 (.pair .bool (.pair (.int .i64) (.pair .bool (.int .i64))))), (.own 10000027 67 (.pair (.pair .bool (.pair (.int .i64) (.pair .bool (.int .i64)))) (.pair (.int .i64) (.pair .str (.pair .str (.pair (.int .i64) (.pair .bool (.list (.int .u8))))))))), (.dat (.int .i64)), (.dat (.int .i64)), (.dat (.int .i64))], .dead 69, .dead 28, .dead 74, .dead 66, .dead 67, .dead 68, .dead 84, .dead 41])), (43641380036263450374816057110862523009025, (.carry [.tmp 10 false [(.pt 30000007 0)], .tmp 9 false [(.pt 30000008 0)], .mix 30000007 [(.dat (.list (.pair .bool (.pair (.int .i64) (.pair .bool (.int .i64)))))), (.own 10000009 40 (.pair (.int .i64) (.pair .str (.pair .str (.pair (.int .i64) (.list (.int .u8))))))), (.dat (.int .i64)), (.dat (.int .i64)), (.dat (.int .i64))], .mix 30000008 [(.dat .bool), (.own 10000010 37 (.pair .bool (.pair (.int .i64) (.pair .bool (.int .i64))))), (.own 10000011 67 (.pair (.pair .bool (.pair (.int .i64) (.pair .bool (.int .i64)))) (.pair (.int .i64) (.pair .str (.pair .str (.pair (.int .i64) (.pair .bool (.list (.int .u8))))))))), (.dat (.int .i64)), (.dat (.int .i64)), (.dat (.int .i64))], .dead 74, .dead 66, .dead 67, .dead 68, .dead 30000015, .dead 30000016, .dead 10000021, .dead 10000022, .dead 10000023])), (11440325928226245935055780475269945231677850113, (.carry [.drop 21, .drop 20, .drop 19, .drop 18, .drop 17, .drop 16, .drop 15, .drop 14, .drop 13, .mix 45 [(.dat (.list (.pair .bool (.pair (.int .i64) (.pair .bool (.int .i64)))))), (.own 10000012 40 (.pair (.int .i64) (.pair .str (.pair .str (.pair (.int .i64) (.list (.int .u8))))))), (.dat (.int .i64)), (.dat (.int .i64)), (.dat (.int .i64))], .dead 10000020, .mix 25 [(.dat .bool), (.own 10000013 37 (.pair .bool (.pair (.int .i64) (.pair .bool (.int .i64))))), (.own 10000014 67 (.pair (.pair .bool (.pair (.int .i64) (.pair .bool (.int .i64)))) (.pair (.int .i64) (.pair .str (.pair .str (.pair (.int .i64) (.pair .bool (.list (.int .u8))))))))), (.dat (.int .i64)), (.dat (.int .i64)), (.dat (.int .i64))], .dead 10000027, .dead 10000026, .dead 69, .dead 28])), (786173211477001113278680273232636024668280151018213999105, (.carry [.tmp 17 false [(.dat (.int .i64))]]))]
noncomputable def dialtonelaw11_CarrierPlays : ((List (Bool × (Int × (Bool × Int)))) × (List (Int × (Int × ((List UInt8) × ((List UInt8) × (List Int))))))) → Option Bool := fun (a1, a2) =>
 bif (decide (((0 : Int) ≤ (minA (((List.length a1) : Nat) : Int) (60 : Int))) ∧ ((minA (((List.length a1) : Nat) : Int) (60 : Int)) ≤ (((List.length a1) : Nat) : Int)))) then 
 bindO (some (List.take (Int.toNat (minA (((List.length a1) : Nat) : Int) (60 : Int))) a1)) fun x3 =>
 bif (decide (((0 : Int) ≤ (minA (((List.length a2) : Nat) : Int) (60 : Int))) ∧ ((minA (((List.length a2) : Nat) : Int) (60 : Int)) ≤ (((List.length a2) : Nat) : Int)))) then 
 bindO (some (List.take (Int.toNat (minA (((List.length a2) : Nat) : Int) (60 : Int))) a2)) fun x4 =>
 joinO (loopO (fun v5 =>
 bif (decide (v5 < (((List.length x3) : Nat) : Int))) then
 bif (decide (((0 : Int) ≤ v5) ∧ (v5 < (((List.length x3) : Nat) : Int)))) then 
 bindO x3[(Int.toNat v5)]? fun x6 =>
 bif (decide (x6.2.1 < (0 : Int))) then
 outO (outO (joinO (loopO (fun v7 =>
 bif (decide (v7 < (((List.length x3) : Nat) : Int))) then
 bif (decide (((0 : Int) ≤ v7) ∧ (v7 < (((List.length x3) : Nat) : Int)))) then 
 bindO x3[(Int.toNat v7)]? fun x8 =>
 bindO (dialtoneref11_delay x8.2.1) fun x9 =>
 bif (!x9) then
 outO (outO (some Bool.true))
 else
 bif (decide (((0 : Int) ≤ v7) ∧ (v7 < (((List.length x3) : Nat) : Int)))) then 
 bindO x3[(Int.toNat v7)]? fun x11 =>
 bindO (dialtoneref11_delay x11.2.2.2) fun x12 =>
 bif (!x12) then
 outO (outO (some Bool.true))
 else
 some (Sum.inl (Go.IntKind.wrap .i64 (v7 + (1 : Int))))
 else none
 else none
 else
 outO (some (Sum.inl ()))) (0 : Int)) fun _ =>
 bif (decide (((List.length x3) * 32) ≤ 140737488355328)) then 
 some Bool.false
 else none))
 else
 bif (decide (x6.2.1 > (60000 : Int))) then
 outO (outO (joinO (loopO (fun v16 =>
 bif (decide (v16 < (((List.length x3) : Nat) : Int))) then
 bif (decide (((0 : Int) ≤ v16) ∧ (v16 < (((List.length x3) : Nat) : Int)))) then 
 bindO x3[(Int.toNat v16)]? fun x17 =>
 bindO (dialtoneref11_delay x17.2.1) fun x18 =>
 bif (!x18) then
 outO (outO (some Bool.true))
 else
 bif (decide (((0 : Int) ≤ v16) ∧ (v16 < (((List.length x3) : Nat) : Int)))) then 
 bindO x3[(Int.toNat v16)]? fun x20 =>
 bindO (dialtoneref11_delay x20.2.2.2) fun x21 =>
 bif (!x21) then
 outO (outO (some Bool.true))
 else
 some (Sum.inl (Go.IntKind.wrap .i64 (v16 + (1 : Int))))
 else none
 else none
 else
 outO (some (Sum.inl ()))) (0 : Int)) fun _ =>
 bif (decide (((List.length x3) * 32) ≤ 140737488355328)) then 
 some Bool.false
 else none))
 else
 bif (decide (x6.2.2.2 < (0 : Int))) then
 outO (outO (joinO (loopO (fun v25 =>
 bif (decide (v25 < (((List.length x3) : Nat) : Int))) then
 bif (decide (((0 : Int) ≤ v25) ∧ (v25 < (((List.length x3) : Nat) : Int)))) then 
 bindO x3[(Int.toNat v25)]? fun x26 =>
 bindO (dialtoneref11_delay x26.2.1) fun x27 =>
 bif (!x27) then
 outO (outO (some Bool.true))
 else
 bif (decide (((0 : Int) ≤ v25) ∧ (v25 < (((List.length x3) : Nat) : Int)))) then 
 bindO x3[(Int.toNat v25)]? fun x29 =>
 bindO (dialtoneref11_delay x29.2.2.2) fun x30 =>
 bif (!x30) then
 outO (outO (some Bool.true))
 else
 some (Sum.inl (Go.IntKind.wrap .i64 (v25 + (1 : Int))))
 else none
 else none
 else
 outO (some (Sum.inl ()))) (0 : Int)) fun _ =>
 bif (decide (((List.length x3) * 32) ≤ 140737488355328)) then 
 some Bool.false
 else none))
 else
 bif (decide (x6.2.2.2 > (60000 : Int))) then
 outO (outO (joinO (loopO (fun v34 =>
 bif (decide (v34 < (((List.length x3) : Nat) : Int))) then
 bif (decide (((0 : Int) ≤ v34) ∧ (v34 < (((List.length x3) : Nat) : Int)))) then 
 bindO x3[(Int.toNat v34)]? fun x35 =>
 bindO (dialtoneref11_delay x35.2.1) fun x36 =>
 bif (!x36) then
 outO (outO (some Bool.true))
 else
 bif (decide (((0 : Int) ≤ v34) ∧ (v34 < (((List.length x3) : Nat) : Int)))) then 
 bindO x3[(Int.toNat v34)]? fun x38 =>
 bindO (dialtoneref11_delay x38.2.2.2) fun x39 =>
 bif (!x39) then
 outO (outO (some Bool.true))
 else
 some (Sum.inl (Go.IntKind.wrap .i64 (v34 + (1 : Int))))
 else none
 else none
 else
 outO (some (Sum.inl ()))) (0 : Int)) fun _ =>
 bif (decide (((List.length x3) * 32) ≤ 140737488355328)) then 
 some Bool.false
 else none))
 else
 some (Sum.inl (Go.IntKind.wrap .i64 (v5 + (1 : Int))))
 else none
 else
 outO (some (Sum.inl ()))) (0 : Int)) fun _ =>
 bindO (cloneG x3) fun x44 =>
 joinO (loopO (fun v45 =>
 bif (decide (v45 < (((List.length x3) : Nat) : Int))) then
 bif (decide (((0 : Int) ≤ v45) ∧ (v45 < (((List.length x3) : Nat) : Int)))) then 
 bindO x3[(Int.toNat v45)]? fun x46 =>
 bindO (dialtoneref11_delay x46.2.1) fun x47 =>
 bif (!x47) then
 outO (outO (some Bool.false))
 else
 bif (decide (((0 : Int) ≤ v45) ∧ (v45 < (((List.length x3) : Nat) : Int)))) then 
 bindO x3[(Int.toNat v45)]? fun x48 =>
 bindO (dialtoneref11_delay x48.2.2.2) fun x49 =>
 bif (!x49) then
 outO (outO (some Bool.false))
 else
 some (Sum.inl (Go.IntKind.wrap .i64 (v45 + (1 : Int))))
 else none
 else none
 else
 outO (some (Sum.inl ()))) (0 : Int)) fun _ =>
 bif (decide (((List.length x3) * 32) ≤ 140737488355328)) then 
 bif (decide ((List.length x44) = (List.length x44))) then 
 bindO (copyC (Bool.true, (x44, (([] : List ((Bool × (Int × (Bool × Int))) × (Int × ((List UInt8) × ((List UInt8) × (Int × (Bool × (List Int)))))))), ((0 : Int), ((0 : Int), (0 : Int))))))) fun (x53, (x54, (x55, (x56, (x57, x58))))) =>
 joinO (bif ((decide ((List.length x3) ≤ (List.length x3))) && ((decide ((List.length x54) = (List.length x54))) && ((decide ((List.length x55) = (List.length x55))) && ((decide ((List.length x3) ≤ (List.length x3))) && ((decide ((List.length x44) = (List.length x44))) && Bool.true))))) then 
 loopO (fun (v60, ((v61, (v62, (v63, (v64, v65)))), ((v66, (v67, (v68, (v69, (v70, v71))))), ((v72, (v73, (v74, (v75, v76)))), (v77, (v78, (v79, (v80, (v81, v82))))))))) =>
 bif (decide (v60 < (((List.length x4) : Nat) : Int))) then
 joinO (bif (decide (v60 = (Go.IntKind.wrap .i64 (Int.tdiv (((List.length x4) : Nat) : Int) (2 : Int))))) then
 bif ((decide ((List.length v78) = (List.length v78))) && (decide ((List.length v79) = (List.length v79)))) then 
 bindO (copyC (v77, (v78, (v79, (v80, (v81, v82)))))) fun (x85, (x86, (x87, (x88, (x89, x90))))) =>
 bif (decide ((List.length v73) ≤ (List.length v73))) then 
 bif (decide (((List.length (List.take (List.length v73) v73)) * 72) ≤ 140737488355328)) then 
 bindO (some (List.take (List.length v73) v73)) fun x91 =>
 bif ((decide ((List.length x91) = (List.length x91))) && ((decide ((List.length x86) = (List.length x86))) && (decide ((List.length x87) = (List.length x87))))) then 
 some (Sum.inl ((v72, (x91, (v74, (v75, v76)))), (x85, (x86, (x87, (x88, (x89, x90)))))))
 else none
 else none
 else none
 else none
 else
 bif ((decide ((List.length v62) = (List.length v62))) && ((decide ((List.length v67) = (List.length v67))) && (decide ((List.length v68) = (List.length v68))))) then 
 some (Sum.inl ((v61, (v62, (v63, (v64, v65)))), (v66, (v67, (v68, (v69, (v70, v71)))))))
 else none) fun ((v92, (v93, (v94, (v95, v96)))), (v97, (v98, (v99, (v100, (v101, v102)))))) =>
 bif (decide (((0 : Int) ≤ v60) ∧ (v60 < (((List.length x4) : Nat) : Int)))) then 
 bindO x4[(Int.toNat v60)]? fun x103 =>
 joinO (bif (decide ((Int.tmod x103.1 (4 : Int)) < (2 : Int))) then
 bif ((decide ((List.length v78) = (List.length v78))) && (decide ((List.length v79) = (List.length v79)))) then 
 bindO (carrier_Carrier_Send (x103.2.2.1, (x103.2.2.2.1, (x103.2.2.2.2, (x103.2.1, (v77, (v78, (v79, (v80, (v81, v82)))))))))) fun (x106, (x107, (x108, (x109, (x110, (x111, (x112, x113))))))) =>
 bif (decide ((List.length v73) = (List.length v73))) then 
 bindO (rSend (x103.2.2.1, (x103.2.2.2.1, (x103.2.2.2.2, (x103.2.1, (v72, (v73, (v74, (v75, v76))))))))) fun (x115, (x116, (x117, (x118, (x119, (x120, x121)))))) =>
 bif (decide (x106 ≠ x115)) then
 outO (outO (outO (some Bool.false)))
 else
 bif (decide (x107 ≠ x116)) then
 outO (outO (outO (some Bool.false)))
 else
 bif ((decide ((List.length x118) ≤ (List.length x118))) && ((decide ((List.length x109) ≤ (List.length x109))) && (decide ((List.length x110) ≤ (List.length x110))))) then 
 some (Sum.inl ((x117, ((List.take (List.length x118) x118), (x119, (x120, x121)))), (x108, ((List.take (List.length x109) x109), ((List.take (List.length x110) x110), (x111, (x112, x113)))))))
 else none
 else none
 else none
 else
 joinO (bif (decide ((Int.tmod x103.1 (4 : Int)) = (3 : Int))) then
 some (Sum.inl (Go.IntKind.wrap .i64 (v74 + (Go.IntKind.wrap .i64 (Int.tmod (Go.IntKind.wrap .u64 x103.2.1) (50 : Int))))))
 else
 some (Sum.inl x103.2.1)) fun v127 =>
 bif ((decide ((List.length v78) = (List.length v78))) && (decide ((List.length v79) = (List.length v79)))) then 
 bindO (carrier_Carrier_Receive (v127, (v77, (v78, (v79, (v80, (v81, v82))))))) fun (x129, (x130, (x131, (x132, (x133, (x134, (x135, x136))))))) =>
 bif (decide ((List.length v73) = (List.length v73))) then 
 bindO (rReceive (v127, (v72, (v73, (v74, (v75, v76)))))) fun (x138, (x139, (x140, (x141, (x142, (x143, x144)))))) =>
 bif (decide (x130 ≠ x139)) then
 outO (outO (outO (some Bool.false)))
 else
 bif ((decide ((List.length x129) ≤ (List.length x129))) && (decide ((List.length x138) ≤ (List.length x138)))) then 
 bindO (dialtoneref11_Same ((List.take (List.length x129) x129), (List.take (List.length x138) x138))) fun x145 =>
 bif (!x145) then
 outO (outO (outO (some Bool.false)))
 else
 bif ((decide ((List.length x141) ≤ (List.length x141))) && ((decide ((List.length x132) ≤ (List.length x132))) && (decide ((List.length x133) ≤ (List.length x133))))) then 
 some (Sum.inl ((x140, ((List.take (List.length x141) x141), (x142, (x143, x144)))), (x131, ((List.take (List.length x132) x132), ((List.take (List.length x133) x133), (x134, (x135, x136)))))))
 else none
 else none
 else none
 else none) fun ((v146, (v147, (v148, (v149, v150)))), (v151, (v152, (v153, (v154, (v155, v156)))))) =>
 bif ((decide ((List.length v152) = (List.length v152))) && ((decide ((List.length v153) = (List.length v153))) && (decide ((List.length v147) = (List.length v147))))) then 
 bindO (sameL ((v151, (v152, (v153, (v154, (v155, v156))))), (v146, (v147, (v148, (v149, v150)))))) fun x157 =>
 bif (!x157) then
 outO (outO (some Bool.false))
 else
 bif ((decide ((List.length v93) = (List.length v93))) && ((decide ((List.length v98) = (List.length v98))) && ((decide ((List.length v99) = (List.length v99))) && ((decide ((List.length v147) = (List.length v147))) && ((decide ((List.length v152) = (List.length v152))) && (decide ((List.length v153) = (List.length v153)))))))) then 
 some (Sum.inl ((Go.IntKind.wrap .i64 (v60 + (1 : Int))), ((v92, (v93, (v94, (v95, v96)))), ((v97, (v98, (v99, (v100, (v101, v102))))), ((v146, (v147, (v148, (v149, v150)))), (v151, (v152, (v153, (v154, (v155, v156))))))))))
 else none
 else none
 else none
 else
 outO (bif ((decide ((List.length v62) = (List.length v62))) && ((decide ((List.length v67) = (List.length v67))) && ((decide ((List.length v68) = (List.length v68))) && ((decide ((List.length v73) = (List.length v73))) && ((decide ((List.length v78) = (List.length v78))) && (decide ((List.length v79) = (List.length v79)))))))) then 
 some (Sum.inl ((v61, (v62, (v63, (v64, v65)))), ((v66, (v67, (v68, (v69, (v70, v71))))), ((v72, (v73, (v74, (v75, v76)))), (v77, (v78, (v79, (v80, (v81, v82)))))))))
 else none)) ((0 : Int), (((List.take (List.length x3) x3), (([] : List (Int × ((List UInt8) × ((List UInt8) × (Int × (List Int)))))), ((0 : Int), ((0 : Int), (0 : Int))))), ((x53, (x54, (x55, (x56, (x57, x58))))), (((List.take (List.length x3) x3), (([] : List (Int × ((List UInt8) × ((List UInt8) × (Int × (List Int)))))), ((0 : Int), ((0 : Int), (0 : Int))))), (Bool.true, (x44, (([] : List ((Bool × (Int × (Bool × Int))) × (Int × ((List UInt8) × ((List UInt8) × (Int × (Bool × (List Int)))))))), ((0 : Int), ((0 : Int), (0 : Int))))))))))
 else none) fun ((v159, (v160, (v161, (v162, v163)))), ((v164, (v165, (v166, (v167, (v168, v169))))), ((v170, (v171, (v172, (v173, v174)))), (v175, (v176, (v177, (v178, (v179, v180)))))))) =>
 bif ((decide ((List.length v165) = (List.length v165))) && ((decide ((List.length v166) = (List.length v166))) && (decide ((List.length v160) = (List.length v160))))) then 
 bindO (sameL ((v164, (v165, (v166, (v167, (v168, v169))))), (v159, (v160, (v161, (v162, v163)))))) fun x181 =>
 bif x181 then
 some Bool.true
 else
 some Bool.false
 else none
 else none
 else none
 else none
 else none
noncomputable def cons6 : List (Nat × CE) := [(1000000028, ⟨[.tmp 0 false [.own 20000001 37 (.pair .bool (.pair (.int .i64) (.pair .bool (.int .i64))))]], [.tmp 0 false [.own 20000002 37 (.pair .bool (.pair (.int .i64) (.pair .bool (.int .i64))))]], cloneG⟩), (1000000030, ⟨[.tmp 0 false [.own 20000001 5 (.int .u8)]], [.tmp 0 false [.own 20000002 5 (.int .u8)]], cloneB⟩), (1000000040, ⟨[.tmp 0 false [.own 20000001 67 (.pair (.pair .bool (.pair (.int .i64) (.pair .bool (.int .i64)))) (.pair (.int .i64) (.pair .str (.pair .str (.pair (.int .i64) (.pair .bool (.list (.int .u8))))))))]], [.tmp 0 false [.own 20000002 67 (.pair (.pair .bool (.pair (.int .i64) (.pair .bool (.int .i64)))) (.pair (.int .i64) (.pair .str (.pair .str (.pair (.int .i64) (.pair .bool (.list (.int .u8))))))))]], cloneG⟩), (41, ⟨[.tmp 0 false [.pt 20000030 0], .mix 20000030 [.dat (.list UFt), .own 20000031 40 UDg, .dat (.int .i64), .dat (.int .i64), .dat (.int .i64)]], [.tmp 0 false [(.dat (.int .i64))]], rfirst⟩), (42, ⟨[.tmp 0 false [.pt 20000030 0], .mix 20000030 [.dat (.list UFt), .own 20000031 40 UDg, .dat (.int .i64), .dat (.int .i64), .dat (.int .i64)]], [.tmp 0 false [(.dat (.int .i64))], .tmp 1 false [(.dat .bool)]], rNext⟩), (24, ⟨[.tmp 0 false [.pt 20000030 0], .tmp 1 false [.dat .str], .tmp 2 false [.dat .str], .tmp 3 false [.dat (.list (.int .u8))], .tmp 4 false [.dat (.int .i64)], .mix 20000030 [.dat (.list UFt), .own 20000031 40 UDg, .dat (.int .i64), .dat (.int .i64), .dat (.int .i64)]], [.tmp 0 false [(.dat (.int .i64))], .tmp 1 false [(.dat (.int .u8))], .mix 20000030 [(.dat (.list (.pair .bool (.pair (.int .i64) (.pair .bool (.int .i64)))))), (.own 10000001 40 (.pair (.int .i64) (.pair .str (.pair .str (.pair (.int .i64) (.list (.int .u8))))))), (.dat (.int .i64)), (.dat (.int .i64)), (.dat (.int .i64))], .dead 20000031], rSend⟩), (25, ⟨[.tmp 0 false [.pt 20000030 0], .tmp 1 false [.dat (.int .i64)], .mix 20000030 [.dat (.list UFt), .own 20000031 40 UDg, .dat (.int .i64), .dat (.int .i64), .dat (.int .i64)]], [.tmp 0 false [(.own 10000006 40 (.pair (.int .i64) (.pair .str (.pair .str (.pair (.int .i64) (.list (.int .u8)))))))], .tmp 1 false [(.dat (.int .u8))], .mix 20000030 [(.dat (.list (.pair .bool (.pair (.int .i64) (.pair .bool (.int .i64)))))), (.own 10000001 40 (.pair (.int .i64) (.pair .str (.pair .str (.pair (.int .i64) (.list (.int .u8))))))), (.dat (.int .i64)), (.dat (.int .i64)), (.dat (.int .i64))], .dead 20000031], rReceive⟩), (27, ⟨[.tmp 0 false [.pt 20000010 0], .tmp 1 false [.pt 20000030 0], .mix 20000010 [.dat .bool, .own 20000012 37 UFt, .own 20000011 67 UPc, .dat (.int .i64), .dat (.int .i64), .dat (.int .i64)], .mix 20000030 [.dat (.list UFt), .own 20000031 40 UDg, .dat (.int .i64), .dat (.int .i64), .dat (.int .i64)]], [.tmp 0 false [(.dat .bool)]], sameL⟩), (22, ⟨[.tmp 0 false [.pt 20000010 0], .mix 20000010 [.dat .bool, .own 20000012 37 UFt, .own 20000011 67 UPc, .dat (.int .i64), .dat (.int .i64), .dat (.int .i64)]], [.tmp 0 false [.pt 20000040 0], .mix 20000040 [.dat .bool, .own 20000042 37 UFt, .own 20000041 67 UPc, .dat (.int .i64), .dat (.int .i64), .dat (.int .i64)]], copyC⟩), (37, ⟨[(.tmp 0 false [(.dat (.int .i64))]), (.tmp 1 false [(.dat (.int .i64))])], [(.tmp 0 false [(.dat (.int .i64))])], cmp_Compare_int⟩), (33, ⟨[(.tmp 0 true [(.dat .bool), (.dat (.int .i64)), (.dat .bool), (.dat (.int .i64)), (.dat (.int .i64)), (.dat .str), (.dat .str), (.dat (.int .i64)), (.dat .bool), (.dat (.list (.int .u8)))])], [(.tmp 0 false [(.dat (.int .i64))])], carrier_parcel_at⟩), (38, ⟨[(.tmp 0 false [(.dat .bool)]), (.tmp 1 false [(.dat .bool)])], [(.tmp 0 false [(.dat (.int .i64))])], carrier_later⟩), (35, ⟨[.tmp 0 false [.dat (.int .i64)], .tmp 1 false [.dat (.int .i64)], .tmp 2 false [.pt 20000001 0], .mix 20000001 [.own 20000002 67 UPc]], [.tmp 0 false [.dat (.int .i64)]], carrier_Carrier_Receive_2⟩), (46, ⟨[.tmp 0 false [.own 20000003 3 (.int .i64)], .tmp 1 false [.dat (.int .i64)], .tmp 2 false [.dat (.int .i64)], .tmp 3 false [.cl 35 [(20000001, 0)]], .mix 20000001 [.own 20000002 67 UPc]], [.row 20000003 3 (.int .i64)], slices_insertionSortCmpFunc_int⟩), (49, ⟨[.tmp 0 false [.own 20000003 3 (.int .i64)], .tmp 1 false [.dat (.int .i64)], .tmp 2 false [.dat (.int .i64)], .tmp 3 false [.dat (.int .i64)], .tmp 4 false [.cl 35 [(20000001, 0)]], .mix 20000001 [.own 20000002 67 UPc]], [.row 20000003 3 (.int .i64)], slices_swapRangeCmpFunc_int⟩), (48, ⟨[.tmp 0 false [.own 20000003 3 (.int .i64)], .tmp 1 false [.dat (.int .i64)], .tmp 2 false [.dat (.int .i64)], .tmp 3 false [.dat (.int .i64)], .tmp 4 false [.cl 35 [(20000001, 0)]], .mix 20000001 [.own 20000002 67 UPc]], [.row 20000003 3 (.int .i64)], slices_rotateCmpFunc_int⟩), (47, ⟨[.tmp 0 false [.own 20000003 3 (.int .i64)], .tmp 1 false [.dat (.int .i64)], .tmp 2 false [.dat (.int .i64)], .tmp 3 false [.dat (.int .i64)], .tmp 4 false [.cl 35 [(20000001, 0)]], .mix 20000001 [.own 20000002 67 UPc]], [.row 20000003 3 (.int .i64)], slices_symMergeCmpFunc_int⟩), (45, ⟨[.tmp 0 false [.own 20000003 3 (.int .i64)], .tmp 1 false [.dat (.int .i64)], .tmp 2 false [.cl 35 [(20000001, 0)]], .mix 20000001 [.own 20000002 67 UPc]], [.row 20000003 3 (.int .i64)], slices_stableCmpFunc_int⟩), (43, ⟨[.tmp 0 false [.own 20000003 3 (.int .i64)], .tmp 1 false [.cl 35 [(20000001, 0)]], .mix 20000001 [.own 20000002 67 UPc]], [.row 20000003 3 (.int .i64)], slices_SortStableFunc___int_int⟩), (28, ⟨[.tmp 0 false [.dat (.list (.pair .bool (.pair (.int .i64) (.pair .bool (.int .i64)))))]], [.tmp 0 false [.own 1 37 (.pair .bool (.pair (.int .i64) (.pair .bool (.int .i64))))]], cloneG⟩), (30, ⟨[.tmp 0 false [.dat (.list (.int .u8))]], [.tmp 0 false [.own 1 5 (.int .u8)]], cloneB⟩), (40, ⟨[.tmp 0 false [.dat (.list (.pair (.pair .bool (.pair (.int .i64) (.pair .bool (.int .i64)))) (.pair (.int .i64) (.pair .str (.pair .str (.pair (.int .i64) (.pair .bool (.list (.int .u8)))))))))]], [.tmp 0 false [.own 1 67 (.pair (.pair .bool (.pair (.int .i64) (.pair .bool (.int .i64)))) (.pair (.int .i64) (.pair .str (.pair .str (.pair (.int .i64) (.pair .bool (.list (.int .u8))))))))]], cloneG⟩), (10, ⟨[.tmp 0 false [.pt 20000010 0], .tmp 1 false [.dat (.int .i64)], .mix 20000010 [.dat .bool, .own 20000012 37 UFt, .own 20000011 67 UPc, .dat (.int .i64), .dat (.int .i64), .dat (.int .i64)]], [.tmp 0 false [(.own 10000014 40 (.pair (.int .i64) (.pair .str (.pair .str (.pair (.int .i64) (.list (.int .u8)))))))], .tmp 1 false [(.dat (.int .u8))], .mix 20000010 [(.dat .bool), (.own 10000010 37 (.pair .bool (.pair (.int .i64) (.pair .bool (.int .i64))))), (.own 10000011 67 (.pair (.pair .bool (.pair (.int .i64) (.pair .bool (.int .i64)))) (.pair (.int .i64) (.pair .str (.pair .str (.pair (.int .i64) (.pair .bool (.list (.int .u8))))))))), (.dat (.int .i64)), (.dat (.int .i64)), (.dat (.int .i64))], .dead 20000011, .dead 20000012], carrier_Carrier_Receive⟩), (9, ⟨[.tmp 0 false [.pt 20000010 0], .tmp 1 false [.dat .str], .tmp 2 false [.dat .str], .tmp 3 false [.dat (.list (.int .u8))], .tmp 4 false [.dat (.int .i64)], .mix 20000010 [.dat .bool, .own 20000012 37 UFt, .own 20000011 67 UPc, .dat (.int .i64), .dat (.int .i64), .dat (.int .i64)]], [.tmp 0 false [(.dat (.int .i64))], .tmp 1 false [(.dat (.int .u8))], .mix 20000010 [(.dat .bool), (.own 10000002 37 (.pair .bool (.pair (.int .i64) (.pair .bool (.int .i64))))), (.own 10000003 67 (.pair (.pair .bool (.pair (.int .i64) (.pair .bool (.int .i64)))) (.pair (.int .i64) (.pair .str (.pair .str (.pair (.int .i64) (.pair .bool (.list (.int .u8))))))))), (.dat (.int .i64)), (.dat (.int .i64)), (.dat (.int .i64))], .dead 20000011, .dead 20000012], carrier_Carrier_Send⟩), (20, ⟨[.tmp 0 false [.pt 20000010 0], .mix 20000010 [.dat .bool, .own 20000012 37 UFt, .own 20000011 67 UPc, .dat (.int .i64), .dat (.int .i64), .dat (.int .i64)]], [.tmp 0 false [(.dat (.int .i64))], .tmp 1 false [(.dat .bool)]], carrier_Carrier_Next⟩), (11, ⟨[.tmp 0 false [.pt 20000010 0], .mix 20000010 [.dat .bool, .own 20000012 37 UFt, .own 20000011 67 UPc, .dat (.int .i64), .dat (.int .i64), .dat (.int .i64)]], [.tmp 0 false [(.dat (.int .i64))]], carrier_Carrier_Waiting⟩), (15, ⟨[.tmp 0 false [.pt 20000010 0], .mix 20000010 [.dat .bool, .own 20000012 37 UFt, .own 20000011 67 UPc, .dat (.int .i64), .dat (.int .i64), .dat (.int .i64)]], [.tmp 0 false [(.dat (.int .i64))]], carrier_Carrier_Sent⟩), (16, ⟨[.tmp 0 false [.pt 20000010 0], .mix 20000010 [.dat .bool, .own 20000012 37 UFt, .own 20000011 67 UPc, .dat (.int .i64), .dat (.int .i64), .dat (.int .i64)]], [.tmp 0 false [(.dat (.int .i64))]], carrier_Carrier_Lost⟩), (19, ⟨[.tmp 0 false [.pt 20000010 0], .mix 20000010 [.dat .bool, .own 20000012 37 UFt, .own 20000011 67 UPc, .dat (.int .i64), .dat (.int .i64), .dat (.int .i64)]], [.tmp 0 false [(.dat (.int .i64))]], carrier_Carrier_Now⟩), (18, ⟨[(.tmp 0 true [(.dat (.int .i64)), (.dat .str), (.dat .str), (.dat (.int .i64)), (.dat (.list (.int .u8)))]), (.tmp 1 false [(.dat (.int .i64))]), (.tmp 2 false [(.dat (.int .i64))]), (.tmp 3 false [(.dat .str)])], [(.tmp 0 false [(.dat .bool)])], dialtonelaw11_datagram⟩), (12, ⟨[(.tmp 0 false [(.dat (.list (.pair (.int .i64) (.pair .str (.pair .str (.pair (.int .i64) (.list (.int .u8))))))))]), (.tmp 1 false [(.dat (.int .i64))]), (.tmp 2 false [(.dat (.int .i64))]), (.tmp 3 false [(.dat (.int .u8))])], [(.tmp 0 false [(.dat .bool)])], dialtonelaw11_has⟩), (13, ⟨[(.tmp 0 false [(.dat (.list (.pair (.int .i64) (.pair .str (.pair .str (.pair (.int .i64) (.list (.int .u8))))))))]), (.tmp 1 false [(.dat (.list (.pair (.int .i64) (.pair .str (.pair .str (.pair (.int .i64) (.list (.int .u8))))))))])], [(.tmp 0 false [(.dat .bool)])], dialtonelaw11_alike⟩), (7, ⟨[(.tmp 0 false [(.dat (.list (.pair .bool (.pair (.int .i64) (.pair .bool (.int .i64))))))])], [(.tmp 0 false [(.dat (.list (.pair .bool (.pair (.int .i64) (.pair .bool (.int .i64))))))])], dialtonelaw11_fit⟩), (26, ⟨[(.tmp 0 false [(.dat (.list (.pair (.int .i64) (.pair .str (.pair .str (.pair (.int .i64) (.list (.int .u8))))))))]), (.tmp 1 false [(.dat (.list (.pair (.int .i64) (.pair .str (.pair .str (.pair (.int .i64) (.list (.int .u8))))))))])], [(.tmp 0 false [(.dat .bool)])], dialtoneref11_Same⟩), (39, ⟨[(.tmp 0 false [(.dat (.int .i64))])], [(.tmp 0 false [(.dat .bool)])], dialtoneref11_delay⟩), (41, ⟨[.tmp 0 false [.pt 20000030 0], .mix 20000030 [.own 20000032 37 UFt, .own 20000031 40 UDg, .dat (.int .i64), .dat (.int .i64), .dat (.int .i64)]], [.tmp 0 false [(.dat (.int .i64))]], dialtoneref11_Carrier_first⟩), (42, ⟨[.tmp 0 false [.pt 20000030 0], .mix 20000030 [.own 20000032 37 UFt, .own 20000031 40 UDg, .dat (.int .i64), .dat (.int .i64), .dat (.int .i64)]], [.tmp 0 false [(.dat (.int .i64))], .tmp 1 false [(.dat .bool)]], dialtoneref11_Carrier_Next⟩), (24, ⟨[.tmp 0 false [.pt 20000030 0], .tmp 1 false [.dat .str], .tmp 2 false [.dat .str], .tmp 3 false [.dat (.list (.int .u8))], .tmp 4 false [.dat (.int .i64)], .mix 20000030 [.own 20000032 37 UFt, .own 20000031 40 UDg, .dat (.int .i64), .dat (.int .i64), .dat (.int .i64)]], [.tmp 0 false [(.dat (.int .i64))], .tmp 1 false [(.dat (.int .u8))], .mix 20000030 [(.own 10000001 37 (.pair .bool (.pair (.int .i64) (.pair .bool (.int .i64))))), (.own 10000002 40 (.pair (.int .i64) (.pair .str (.pair .str (.pair (.int .i64) (.list (.int .u8))))))), (.dat (.int .i64)), (.dat (.int .i64)), (.dat (.int .i64))], .dead 20000031, .dead 20000032], dialtoneref11_Carrier_Send⟩), (25, ⟨[.tmp 0 false [.pt 20000030 0], .tmp 1 false [.dat (.int .i64)], .mix 20000030 [.own 20000032 37 UFt, .own 20000031 40 UDg, .dat (.int .i64), .dat (.int .i64), .dat (.int .i64)]], [.tmp 0 false [(.own 10000009 40 (.pair (.int .i64) (.pair .str (.pair .str (.pair (.int .i64) (.list (.int .u8)))))))], .tmp 1 false [(.dat (.int .u8))], .mix 20000030 [(.own 10000001 37 (.pair .bool (.pair (.int .i64) (.pair .bool (.int .i64))))), (.own 10000002 40 (.pair (.int .i64) (.pair .str (.pair .str (.pair (.int .i64) (.list (.int .u8))))))), (.dat (.int .i64)), (.dat (.int .i64)), (.dat (.int .i64))], .dead 20000032, .dead 20000031], dialtoneref11_Carrier_Receive⟩), (14, ⟨[], riB, (fun _ => some true)⟩)]
theorem cons6_ok : ConL Try.prog cons6 := ⟨clone_conm28, clone_conm30, clone_conm40, con41_rfirst, con42_rNext, con24_rSend, con25_rReceive, con27_sameL, con22_copyC, con37, con33, con38, con35, con46, con49, con48, con47, con45, con43, clone_con28, clone_con30, clone_con40, con10, con9, con20, con11, con15, con16, con19, con18, con12, con13, con7, con26, con39, con41, con42, con24, con25, con_true (by kernel_rfl) lives_o, trivial⟩
theorem con6 : ConOk Try.prog 6 ⟨[(.tmp 0 false [(.dat (.list (.pair .bool (.pair (.int .i64) (.pair .bool (.int .i64))))))]), (.tmp 1 false [(.dat (.list (.pair (.int .u8) (.pair (.int .i64) (.pair .str (.pair .str (.list (.int .u8))))))))])], [(.tmp 0 false [(.dat .bool)])], dialtonelaw11_CarrierPlays⟩ :=
  tree_ok (plan := planOf plan6) (eg := egNo) KK tabL_ok (conOf_ok cons6_ok) Try.func6 (by kernel_rfl) (by kernel_rfl) 10000 (fun a r h => Eq.trans (show _ = dialtonelaw11_CarrierPlays a from by kernel_rfl) h)
end Go.Proofs.Ytkhdpjlpahammaa
