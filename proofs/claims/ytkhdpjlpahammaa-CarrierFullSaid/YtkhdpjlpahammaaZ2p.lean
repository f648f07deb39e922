import Derived.Test.YtkhdpjlpahammaaFp
import Derived.Test.YtkhdpjlpahammaaXBp
import Derived.Test.YtkhdpjlpahammaaLp
import Derived.Test.YtkhdpjlpahammaaZ1p
import Derived.Test.YtkhdpjlpahammaaA1p
set_option linter.unusedVariables false
set_option maxRecDepth 1000000
set_option maxHeartbeats 0
namespace Go.Proofs.Ytkhdpjlpahammaa
open Go.RowKit
def plan4 : List (Nat × PL) := [(134479890, .unroll), (35253096284673, (.carry [])), (4731590488293917329414, (.carry [.tmp 8 false [(.dat (.int .i64))]])), (68853957121, (.carry [.mix 14 [(.dat .bool), (.own 10000003 37 (.pair .bool (.pair (.int .i64) (.pair .bool (.int .i64))))), (.own 10000004 67 (.pair (.pair .bool (.pair (.int .i64) (.pair .bool (.int .i64)))) (.pair (.int .i64) (.pair .str (.pair .str (.pair (.int .i64) (.pair .bool (.list (.int .u8))))))))), (.dat (.int .i64)), (.dat (.int .i64)), (.dat (.int .i64))], .dead 17])), (9241421688456087558, (.carry [.tmp 3 false [(.dat (.int .i64))], .mix 14 [(.dat .bool), (.own 10000001 37 (.pair .bool (.pair (.int .i64) (.pair .bool (.int .i64))))), (.own 10000002 67 (.pair (.pair .bool (.pair (.int .i64) (.pair .bool (.int .i64)))) (.pair (.int .i64) (.pair .str (.pair .str (.pair (.int .i64) (.pair .bool (.list (.int .u8))))))))), (.dat (.int .i64)), (.dat (.int .i64)), (.dat (.int .i64))], .dead 17]))]
noncomputable def dialtonelaw11_CarrierFull : PUnit → Option Bool := fun _ =>
 joinO (loopO (fun v1 =>
 bif (decide (v1 < (1 : Int))) then
 bif (decide (((0 : Int) ≤ v1) ∧ (v1 < (1 : Int)))) then 
 bindO ((Bool.true, ((0 : Int), (Bool.false, (0 : Int)))) :: ([] : List (Bool × (Int × (Bool × Int)))))[(Int.toNat v1)]? fun x2 =>
 bif (decide (x2.2.1 < (0 : Int))) then
 outO (outO (some Bool.false))
 else
 bif (decide (x2.2.1 > (60000 : Int))) then
 outO (outO (some Bool.false))
 else
 bif (decide (x2.2.2.2 < (0 : Int))) then
 outO (outO (some Bool.false))
 else
 bif (decide (x2.2.2.2 > (60000 : Int))) then
 outO (outO (some Bool.false))
 else
 some (Sum.inl (Go.IntKind.wrap .i64 (v1 + (1 : Int))))
 else none
 else
 outO (some (Sum.inl ()))) (0 : Int)) fun _ =>
 bindO (cloneG ((Bool.true, ((0 : Int), (Bool.false, (0 : Int)))) :: ([] : List (Bool × (Int × (Bool × Int)))))) fun x4 =>
 joinO (bif (decide ((List.length x4) ≤ (List.length x4))) then 
 loopO (fun (v5, (v6, (v7, (v8, (v9, (v10, v11)))))) =>
 bif (decide (v5 < (10000 : Int))) then
 bif ((decide ((List.length v7) = (List.length v7))) && (decide ((List.length v8) = (List.length v8)))) then 
 bindO (carrier_Carrier_Send (((97 : UInt8) :: ([] : List UInt8)), (((98 : UInt8) :: ([] : List UInt8)), (([] : List Int), (v5, (v6, (v7, (v8, (v9, (v10, v11)))))))))) fun (x13, (x14, (x15, (x16, (x17, (x18, (x19, x20))))))) =>
 bif (decide (x13 ≠ v5)) then
 outO (outO (some Bool.false))
 else
 bif (decide (x14 ≠ (0 : Int))) then
 outO (outO (some Bool.false))
 else
 bif (decide ((Int.tmod v5 (100 : Int)) = (99 : Int))) then
 bif ((decide ((List.length x16) = (List.length x16))) && (decide ((List.length x17) = (List.length x17)))) then 
 bindO (carrier_Carrier_Receive (v5, (x15, (x16, (x17, (x18, (x19, x20))))))) fun (x23, (x24, (x25, (x26, (x27, (x28, (x29, x30))))))) =>
 bif (decide (x24 ≠ (0 : Int))) then
 outO (outO (some Bool.false))
 else
 bif (decide ((((List.length x23) : Nat) : Int) > (100 : Int))) then
 outO (outO (some Bool.false))
 else
 bif ((decide ((List.length x26) ≤ (List.length x26))) && (decide ((List.length x27) ≤ (List.length x27)))) then 
 some (Sum.inl ((Go.IntKind.wrap .i64 (v5 + (1 : Int))), (x25, ((List.take (List.length x26) x26), ((List.take (List.length x27) x27), (x28, (x29, x30)))))))
 else none
 else none
 else
 bif ((decide ((List.length x16) ≤ (List.length x16))) && (decide ((List.length x17) ≤ (List.length x17)))) then 
 some (Sum.inl ((Go.IntKind.wrap .i64 (v5 + (1 : Int))), (x15, ((List.take (List.length x16) x16), ((List.take (List.length x17) x17), (x18, (x19, x20)))))))
 else none
 else none
 else
 outO (bif ((decide ((List.length v7) ≤ (List.length v7))) && (decide ((List.length v8) ≤ (List.length v8)))) then 
 some (Sum.inl (v6, ((List.take (List.length v7) v7), ((List.take (List.length v8) v8), (v9, (v10, v11))))))
 else none)) ((0 : Int), (Bool.true, ((List.take (List.length x4) x4), (([] : List ((Bool × (Int × (Bool × Int))) × (Int × ((List UInt8) × ((List UInt8) × (Int × (Bool × (List Int)))))))), ((0 : Int), ((0 : Int), (0 : Int)))))))
 else none) fun (v33, (v34, (v35, (v36, (v37, v38))))) =>
 bif ((decide ((List.length v34) = (List.length v34))) && (decide ((List.length v35) = (List.length v35)))) then 
 bindO (carrier_Carrier_Send (((97 : UInt8) :: ([] : List UInt8)), (((98 : UInt8) :: ([] : List UInt8)), (([] : List Int), ((10000 : Int), (v33, (v34, (v35, (v36, (v37, v38)))))))))) fun (x40, (x41, (x42, (x43, (x44, (x45, (x46, x47))))))) =>
 bif (decide (x41 = (4 : Int))) then
 bif ((decide ((List.length x43) = (List.length x43))) && (decide ((List.length x44) = (List.length x44)))) then 
 bindO (carrier_Carrier_Sent (x42, (x43, (x44, (x45, (x46, x47)))))) fun x48 =>
 bif (decide (x48 = (10000 : Int))) then
 bif ((decide ((List.length x43) = (List.length x43))) && (decide ((List.length x44) = (List.length x44)))) then 
 bindO (carrier_Carrier_Lost (x42, (x43, (x44, (x45, (x46, x47)))))) fun x49 =>
 bif (decide (x49 = (1 : Int))) then
 some Bool.true
 else
 some Bool.false
 else none
 else
 some Bool.false
 else none
 else
 some Bool.false
 else none
noncomputable def cons4 : List (Nat × CE) := [(37, ⟨[(.tmp 0 false [(.dat (.int .i64))]), (.tmp 1 false [(.dat (.int .i64))])], [(.tmp 0 false [(.dat (.int .i64))])], cmp_Compare_int⟩), (33, ⟨[(.tmp 0 true [(.dat .bool), (.dat (.int .i64)), (.dat .bool), (.dat (.int .i64)), (.dat (.int .i64)), (.dat .str), (.dat .str), (.dat (.int .i64)), (.dat .bool), (.dat (.list (.int .u8)))])], [(.tmp 0 false [(.dat (.int .i64))])], carrier_parcel_at⟩), (38, ⟨[(.tmp 0 false [(.dat .bool)]), (.tmp 1 false [(.dat .bool)])], [(.tmp 0 false [(.dat (.int .i64))])], carrier_later⟩), (35, ⟨[.tmp 0 false [.dat (.int .i64)], .tmp 1 false [.dat (.int .i64)], .tmp 2 false [.pt 20000001 0], .mix 20000001 [.own 20000002 67 UPc]], [.tmp 0 false [.dat (.int .i64)]], carrier_Carrier_Receive_2⟩), (46, ⟨[.tmp 0 false [.own 20000003 3 (.int .i64)], .tmp 1 false [.dat (.int .i64)], .tmp 2 false [.dat (.int .i64)], .tmp 3 false [.cl 35 [(20000001, 0)]], .mix 20000001 [.own 20000002 67 UPc]], [.row 20000003 3 (.int .i64)], slices_insertionSortCmpFunc_int⟩), (49, ⟨[.tmp 0 false [.own 20000003 3 (.int .i64)], .tmp 1 false [.dat (.int .i64)], .tmp 2 false [.dat (.int .i64)], .tmp 3 false [.dat (.int .i64)], .tmp 4 false [.cl 35 [(20000001, 0)]], .mix 20000001 [.own 20000002 67 UPc]], [.row 20000003 3 (.int .i64)], slices_swapRangeCmpFunc_int⟩), (48, ⟨[.tmp 0 false [.own 20000003 3 (.int .i64)], .tmp 1 false [.dat (.int .i64)], .tmp 2 false [.dat (.int .i64)], .tmp 3 false [.dat (.int .i64)], .tmp 4 false [.cl 35 [(20000001, 0)]], .mix 20000001 [.own 20000002 67 UPc]], [.row 20000003 3 (.int .i64)], slices_rotateCmpFunc_int⟩), (47, ⟨[.tmp 0 false [.own 20000003 3 (.int .i64)], .tmp 1 false [.dat (.int .i64)], .tmp 2 false [.dat (.int .i64)], .tmp 3 false [.dat (.int .i64)], .tmp 4 false [.cl 35 [(20000001, 0)]], .mix 20000001 [.own 20000002 67 UPc]], [.row 20000003 3 (.int .i64)], slices_symMergeCmpFunc_int⟩), (45, ⟨[.tmp 0 false [.own 20000003 3 (.int .i64)], .tmp 1 false [.dat (.int .i64)], .tmp 2 false [.cl 35 [(20000001, 0)]], .mix 20000001 [.own 20000002 67 UPc]], [.row 20000003 3 (.int .i64)], slices_stableCmpFunc_int⟩), (43, ⟨[.tmp 0 false [.own 20000003 3 (.int .i64)], .tmp 1 false [.cl 35 [(20000001, 0)]], .mix 20000001 [.own 20000002 67 UPc]], [.row 20000003 3 (.int .i64)], slices_SortStableFunc___int_int⟩), (28, ⟨[.tmp 0 false [.dat (.list (.pair .bool (.pair (.int .i64) (.pair .bool (.int .i64)))))]], [.tmp 0 false [.own 1 37 (.pair .bool (.pair (.int .i64) (.pair .bool (.int .i64))))]], cloneG⟩), (30, ⟨[.tmp 0 false [.dat (.list (.int .u8))]], [.tmp 0 false [.own 1 5 (.int .u8)]], cloneG⟩), (40, ⟨[.tmp 0 false [.dat (.list (.pair (.pair .bool (.pair (.int .i64) (.pair .bool (.int .i64)))) (.pair (.int .i64) (.pair .str (.pair .str (.pair (.int .i64) (.pair .bool (.list (.int .u8)))))))))]], [.tmp 0 false [.own 1 67 (.pair (.pair .bool (.pair (.int .i64) (.pair .bool (.int .i64)))) (.pair (.int .i64) (.pair .str (.pair .str (.pair (.int .i64) (.pair .bool (.list (.int .u8))))))))]], cloneG⟩), (10, ⟨[.tmp 0 false [.pt 20000010 0], .tmp 1 false [.dat (.int .i64)], .mix 20000010 [.dat .bool, .own 20000012 37 UFt, .own 20000011 67 UPc, .dat (.int .i64), .dat (.int .i64), .dat (.int .i64)]], [.tmp 0 false [(.own 10000014 40 (.pair (.int .i64) (.pair .str (.pair .str (.pair (.int .i64) (.list (.int .u8)))))))], .tmp 1 false [(.dat (.int .u8))], .mix 20000010 [(.dat .bool), (.own 10000010 37 (.pair .bool (.pair (.int .i64) (.pair .bool (.int .i64))))), (.own 10000011 67 (.pair (.pair .bool (.pair (.int .i64) (.pair .bool (.int .i64)))) (.pair (.int .i64) (.pair .str (.pair .str (.pair (.int .i64) (.pair .bool (.list (.int .u8))))))))), (.dat (.int .i64)), (.dat (.int .i64)), (.dat (.int .i64))], .dead 20000011, .dead 20000012], carrier_Carrier_Receive⟩), (9, ⟨[.tmp 0 false [.pt 20000010 0], .tmp 1 false [.dat .str], .tmp 2 false [.dat .str], .tmp 3 false [.dat (.list (.int .u8))], .tmp 4 false [.dat (.int .i64)], .mix 20000010 [.dat .bool, .own 20000012 37 UFt, .own 20000011 67 UPc, .dat (.int .i64), .dat (.int .i64), .dat (.int .i64)]], [.tmp 0 false [(.dat (.int .i64))], .tmp 1 false [(.dat (.int .u8))], .mix 20000010 [(.dat .bool), (.own 10000002 37 (.pair .bool (.pair (.int .i64) (.pair .bool (.int .i64))))), (.own 10000003 67 (.pair (.pair .bool (.pair (.int .i64) (.pair .bool (.int .i64)))) (.pair (.int .i64) (.pair .str (.pair .str (.pair (.int .i64) (.pair .bool (.list (.int .u8))))))))), (.dat (.int .i64)), (.dat (.int .i64)), (.dat (.int .i64))], .dead 20000011, .dead 20000012], carrier_Carrier_Send⟩), (20, ⟨[.tmp 0 false [.pt 20000010 0], .mix 20000010 [.dat .bool, .own 20000012 37 UFt, .own 20000011 67 UPc, .dat (.int .i64), .dat (.int .i64), .dat (.int .i64)]], [.tmp 0 false [(.dat (.int .i64))], .tmp 1 false [(.dat .bool)]], carrier_Carrier_Next⟩), (11, ⟨[.tmp 0 false [.pt 20000010 0], .mix 20000010 [.dat .bool, .own 20000012 37 UFt, .own 20000011 67 UPc, .dat (.int .i64), .dat (.int .i64), .dat (.int .i64)]], [.tmp 0 false [(.dat (.int .i64))]], carrier_Carrier_Waiting⟩), (15, ⟨[.tmp 0 false [.pt 20000010 0], .mix 20000010 [.dat .bool, .own 20000012 37 UFt, .own 20000011 67 UPc, .dat (.int .i64), .dat (.int .i64), .dat (.int .i64)]], [.tmp 0 false [(.dat (.int .i64))]], carrier_Carrier_Sent⟩), (16, ⟨[.tmp 0 false [.pt 20000010 0], .mix 20000010 [.dat .bool, .own 20000012 37 UFt, .own 20000011 67 UPc, .dat (.int .i64), .dat (.int .i64), .dat (.int .i64)]], [.tmp 0 false [(.dat (.int .i64))]], carrier_Carrier_Lost⟩), (19, ⟨[.tmp 0 false [.pt 20000010 0], .mix 20000010 [.dat .bool, .own 20000012 37 UFt, .own 20000011 67 UPc, .dat (.int .i64), .dat (.int .i64), .dat (.int .i64)]], [.tmp 0 false [(.dat (.int .i64))]], carrier_Carrier_Now⟩), (18, ⟨[(.tmp 0 true [(.dat (.int .i64)), (.dat .str), (.dat .str), (.dat (.int .i64)), (.dat (.list (.int .u8)))]), (.tmp 1 false [(.dat (.int .i64))]), (.tmp 2 false [(.dat (.int .i64))]), (.tmp 3 false [(.dat .str)])], [(.tmp 0 false [(.dat .bool)])], dialtonelaw11_datagram⟩), (12, ⟨[(.tmp 0 false [(.dat (.list (.pair (.int .i64) (.pair .str (.pair .str (.pair (.int .i64) (.list (.int .u8))))))))]), (.tmp 1 false [(.dat (.int .i64))]), (.tmp 2 false [(.dat (.int .i64))]), (.tmp 3 false [(.dat (.int .u8))])], [(.tmp 0 false [(.dat .bool)])], dialtonelaw11_has⟩), (13, ⟨[(.tmp 0 false [(.dat (.list (.pair (.int .i64) (.pair .str (.pair .str (.pair (.int .i64) (.list (.int .u8))))))))]), (.tmp 1 false [(.dat (.list (.pair (.int .i64) (.pair .str (.pair .str (.pair (.int .i64) (.list (.int .u8))))))))])], [(.tmp 0 false [(.dat .bool)])], dialtonelaw11_alike⟩), (7, ⟨[(.tmp 0 false [(.dat (.list (.pair .bool (.pair (.int .i64) (.pair .bool (.int .i64))))))])], [(.tmp 0 false [(.dat (.list (.pair .bool (.pair (.int .i64) (.pair .bool (.int .i64))))))])], dialtonelaw11_fit⟩), (26, ⟨[(.tmp 0 false [(.dat (.list (.pair (.int .i64) (.pair .str (.pair .str (.pair (.int .i64) (.list (.int .u8))))))))]), (.tmp 1 false [(.dat (.list (.pair (.int .i64) (.pair .str (.pair .str (.pair (.int .i64) (.list (.int .u8))))))))])], [(.tmp 0 false [(.dat .bool)])], dialtoneref11_Same⟩), (39, ⟨[(.tmp 0 false [(.dat (.int .i64))])], [(.tmp 0 false [(.dat .bool)])], dialtoneref11_delay⟩), (41, ⟨[.tmp 0 false [.pt 20000030 0], .mix 20000030 [.own 20000032 37 UFt, .own 20000031 40 UDg, .dat (.int .i64), .dat (.int .i64), .dat (.int .i64)]], [.tmp 0 false [(.dat (.int .i64))]], dialtoneref11_Carrier_first⟩), (42, ⟨[.tmp 0 false [.pt 20000030 0], .mix 20000030 [.own 20000032 37 UFt, .own 20000031 40 UDg, .dat (.int .i64), .dat (.int .i64), .dat (.int .i64)]], [.tmp 0 false [(.dat (.int .i64))], .tmp 1 false [(.dat .bool)]], dialtoneref11_Carrier_Next⟩), (24, ⟨[.tmp 0 false [.pt 20000030 0], .tmp 1 false [.dat .str], .tmp 2 false [.dat .str], .tmp 3 false [.dat (.list (.int .u8))], .tmp 4 false [.dat (.int .i64)], .mix 20000030 [.own 20000032 37 UFt, .own 20000031 40 UDg, .dat (.int .i64), .dat (.int .i64), .dat (.int .i64)]], [.tmp 0 false [(.dat (.int .i64))], .tmp 1 false [(.dat (.int .u8))], .mix 20000030 [(.own 10000001 37 (.pair .bool (.pair (.int .i64) (.pair .bool (.int .i64))))), (.own 10000002 40 (.pair (.int .i64) (.pair .str (.pair .str (.pair (.int .i64) (.list (.int .u8))))))), (.dat (.int .i64)), (.dat (.int .i64)), (.dat (.int .i64))], .dead 20000031, .dead 20000032], dialtoneref11_Carrier_Send⟩), (25, ⟨[.tmp 0 false [.pt 20000030 0], .tmp 1 false [.dat (.int .i64)], .mix 20000030 [.own 20000032 37 UFt, .own 20000031 40 UDg, .dat (.int .i64), .dat (.int .i64), .dat (.int .i64)]], [.tmp 0 false [(.own 10000009 40 (.pair (.int .i64) (.pair .str (.pair .str (.pair (.int .i64) (.list (.int .u8)))))))], .tmp 1 false [(.dat (.int .u8))], .mix 20000030 [(.own 10000001 37 (.pair .bool (.pair (.int .i64) (.pair .bool (.int .i64))))), (.own 10000002 40 (.pair (.int .i64) (.pair .str (.pair .str (.pair (.int .i64) (.list (.int .u8))))))), (.dat (.int .i64)), (.dat (.int .i64)), (.dat (.int .i64))], .dead 20000032, .dead 20000031], dialtoneref11_Carrier_Receive⟩), (14, ⟨[], riB, (fun _ => some true)⟩)]
theorem cons4_ok : ConL Try.prog cons4 := ⟨con37, con33, con38, con35, con46, con49, con48, con47, con45, con43, clone_con28, clone_con30, clone_con40, con10, con9, con20, con11, con15, con16, con19, con18, con12, con13, con7, con26, con39, con41, con42, con24, con25, con_true (by kernel_rfl) lives_o, trivial⟩
theorem con4 : ConOk Try.prog 4 ⟨[], [(.tmp 0 false [(.dat .bool)])], dialtonelaw11_CarrierFull⟩ :=
  tree_ok (plan := planOf plan4) (eg := egNo) KK tabL_ok (conOf_ok cons4_ok) Try.func4 (by kernel_rfl) (by kernel_rfl) 10000 (fun a r h => Eq.trans (show _ = dialtonelaw11_CarrierFull a from by kernel_rfl) h)
end Go.Proofs.Ytkhdpjlpahammaa
