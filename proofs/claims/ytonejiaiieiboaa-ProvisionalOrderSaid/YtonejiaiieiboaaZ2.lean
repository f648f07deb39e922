/- Trees of functions, printed by the executor. -/
import Derived.Test.YtonejiaiieiboaaF
import Derived.Test.YtonejiaiieiboaaXB
import Derived.Test.YtonejiaiieiboaaZ1
import Derived.Test.YtonejiaiieiboaaL
set_option linter.unusedVariables false
set_option maxRecDepth 1000000
set_option maxHeartbeats 0
namespace Go.Proofs.Ytonejiaiieiboaa
open Go.RowKit
/-! ### dialtone/dialtonelaw18.ProvisionalSteps -/
def plan7 : List (Nat × PL) := [(35253226045953, (.carry [])), (4731607904558101301254, (.carry [.tmp 50 false [(.dat (.int .i64))]]))]
noncomputable def dialtonelaw18_ProvisionalSteps : ((Int × (Int × (Int × ((List Int) × (Bool × Bool))))) × ((Int × (Int × (Int × ((List Int) × (Bool × Bool))))) × Int)) → Option Bool := fun ((a1, (a2, (a3, (a4, (a5, a6))))), ((a7, (a8, (a9, (a10, (a11, a12))))), a13)) =>
  bindO (dialtonelaw18_copied (a1, (a2, (a3, (a4, (a5, a6)))))) fun (x15, (x16, (x17, (x18, (x19, x20))))) =>
  bindO (dialtonelaw18_copied (a7, (a8, (a9, (a10, (a11, a12)))))) fun (x22, (x23, (x24, (x25, (x26, x27))))) =>
  bindO (dialtonelaw18_copied (x15, (x16, (x17, (x18, (x19, x20)))))) fun (x29, (x30, (x31, (x32, (x33, x34))))) =>
  bindO (provisional_May (x15, (x16, (x17, (x18, (x19, x20)))))) fun x35 =>
  bindO (dialtoneref18_May (x29, (x30, (x31, (x32, (x33, x34)))))) fun x36 =>
  bif (x35 != x36) then
   some Bool.false
  else
   bindO (provisional_Same ((x15, (x16, (x17, (x18, (x19, x20))))), (x22, (x23, (x24, (x25, (x26, x27))))))) fun x37 =>
   bindO (dialtoneref18_Same ((x29, (x30, (x31, (x32, (x33, x34))))), (x22, (x23, (x24, (x25, (x26, x27))))))) fun x38 =>
   bif (x37 != x38) then
    some Bool.false
   else
    bindO (provisional_Same ((x15, (x16, (x17, (x18, (x19, x20))))), (x29, (x30, (x31, (x32, (x33, x34))))))) fun x39 =>
    bif (!x39) then
     some Bool.false
    else
     joinO (bindO (some (Int.tmod (Go.IntKind.wrap .u64 a13) (700 : Int))) fun x41 =>
      loopO (fun v43 =>
       bif (decide (v43 < (3 : Int))) then
        bif (decide (((0 : Int) ≤ v43) ∧ (v43 < (3 : Int)))) then 
         bindO (provisional_Offer ((x15, (x16, (x17, (x18, (x19, x20))))), (List.getD (a13 :: ((Go.IntKind.wrap .i64 x41) :: (x15 :: ([] : List Int)))) (Int.toNat v43) (0 : Int)))) fun ((x45, (x46, (x47, (x48, (x49, x50))))), (x51, x52)) =>
         bindO (dialtoneref18_Offer ((x29, (x30, (x31, (x32, (x33, x34))))), (List.getD (a13 :: ((Go.IntKind.wrap .i64 x41) :: (x15 :: ([] : List Int)))) (Int.toNat v43) (0 : Int)))) fun ((x54, (x55, (x56, (x57, (x58, x59))))), (x60, x61)) =>
         bif (decide (x52 ≠ x61)) then
          outO (outO (some Bool.false))
         else
          bindO (dialtoneref18_Same ((x45, (x46, (x47, (x48, (x49, x50))))), (x54, (x55, (x56, (x57, (x58, x59))))))) fun x62 =>
          bif (!x62) then
           outO (outO (some Bool.false))
          else
           bindO (dialtoneref18_Outs (x51, x60)) fun x63 =>
           bif (!x63) then
            outO (outO (some Bool.false))
           else
            bindO (provisional_Ack ((x15, (x16, (x17, (x18, (x19, x20))))), (List.getD (a13 :: ((Go.IntKind.wrap .i64 x41) :: (x15 :: ([] : List Int)))) (Int.toNat v43) (0 : Int)))) fun ((x65, (x66, (x67, (x68, (x69, x70))))), (x71, x72)) =>
            bindO (dialtoneref18_Ack ((x29, (x30, (x31, (x32, (x33, x34))))), (List.getD (a13 :: ((Go.IntKind.wrap .i64 x41) :: (x15 :: ([] : List Int)))) (Int.toNat v43) (0 : Int)))) fun ((x74, (x75, (x76, (x77, (x78, x79))))), (x80, x81)) =>
            bif (decide (x72 ≠ x81)) then
             outO (outO (some Bool.false))
            else
             bindO (dialtoneref18_Same ((x65, (x66, (x67, (x68, (x69, x70))))), (x74, (x75, (x76, (x77, (x78, x79))))))) fun x82 =>
             bif (!x82) then
              outO (outO (some Bool.false))
             else
              bindO (dialtoneref18_Outs (x71, x80)) fun x83 =>
              bif (!x83) then
               outO (outO (some Bool.false))
              else
               bindO (provisional_Fire ((x15, (x16, (x17, (x18, (x19, x20))))), (Int.tmod (List.getD (a13 :: ((Go.IntKind.wrap .i64 x41) :: (x15 :: ([] : List Int)))) (Int.toNat v43) (0 : Int)) (4 : Int)))) fun ((x86, (x87, (x88, (x89, (x90, x91))))), (x92, x93)) =>
               bindO (dialtoneref18_Fire ((x29, (x30, (x31, (x32, (x33, x34))))), (Int.tmod (List.getD (a13 :: ((Go.IntKind.wrap .i64 x41) :: (x15 :: ([] : List Int)))) (Int.toNat v43) (0 : Int)) (4 : Int)))) fun ((x96, (x97, (x98, (x99, (x100, x101))))), (x102, x103)) =>
               bif (decide (x93 ≠ x103)) then
                outO (outO (some Bool.false))
               else
                bindO (dialtoneref18_Same ((x86, (x87, (x88, (x89, (x90, x91))))), (x96, (x97, (x98, (x99, (x100, x101))))))) fun x104 =>
                bif (!x104) then
                 outO (outO (some Bool.false))
                else
                 bindO (dialtoneref18_Outs (x92, x102)) fun x105 =>
                 bif (!x105) then
                  outO (outO (some Bool.false))
                 else
                  some (Sum.inl (Go.IntKind.wrap .i64 (v43 + (1 : Int))))
        else none
       else
        outO (some (Sum.inl ()))) (0 : Int)) fun _ =>
     bindO (dialtoneref18_Same ((x15, (x16, (x17, (x18, (x19, x20))))), (x29, (x30, (x31, (x32, (x33, x34))))))) fun x107 =>
     bif x107 then
      some Bool.true
     else
      some Bool.false
noncomputable def cons7 : List (Nat × CE) := [(39, ⟨[.tmp 0 false [.dat (.list (.int .i64))]], [.tmp 0 false [.own 1 3 (.int .i64)]], cloneG⟩), (37, ⟨[(.tmp 0 false [(.dat (.list (.int .i64)))]), (.tmp 1 false [(.dat (.list (.int .i64)))])], [(.tmp 0 false [(.dat .bool)])], slices_Equal___int_int⟩), (30, ⟨[(.tmp 0 false [(.dat (.int .i64))])], [(.tmp 0 false [(.dat .bool)])], provisional_isProvisional⟩), (31, ⟨[(.tmp 0 false [(.dat (.int .i64))])], [(.tmp 0 false [(.dat .bool)])], provisional_isAccepting⟩), (34, ⟨[(.tmp 0 false [(.dat (.int .i64))])], [(.tmp 0 false [(.dat .bool)])], provisional_mayWait⟩), (14, ⟨[(.tmp 0 true [(.dat (.int .i64)), (.dat (.int .i64)), (.dat (.int .i64)), (.dat (.list (.int .i64))), (.dat .bool), (.dat .bool)])], [(.tmp 0 false [(.dat .bool)])], provisional_May⟩), (33, ⟨[(.tmp 0 false [(.dat (.int .i64))]), (.tmp 1 false [(.dat (.int .i64))])], [(.tmp 0 true [(.dat (.int .u8)), (.dat (.int .i64)), (.dat (.int .i64)), (.dat (.int .i64)), (.dat (.int .i64))])], provisional_timer⟩), (20, ⟨[(.tmp 0 true [(.dat (.int .i64)), (.dat (.int .i64)), (.dat (.int .i64)), (.dat (.list (.int .i64))), (.dat .bool), (.dat .bool)]), (.tmp 1 true [(.dat (.int .i64)), (.dat (.int .i64)), (.dat (.int .i64)), (.dat (.list (.int .i64))), (.dat .bool), (.dat .bool)])], [(.tmp 0 false [(.dat .bool)])], provisional_Same⟩), (11, ⟨[(.tmp 0 true [(.dat (.int .i64)), (.dat (.int .i64)), (.dat (.int .i64)), (.dat (.list (.int .i64))), (.dat .bool), (.dat .bool)]), (.tmp 1 false [(.dat (.int .i64))])], [(.tmp 0 true [(.dat (.int .i64)), (.dat (.int .i64)), (.dat (.int .i64)), (.dat (.list (.int .i64))), (.dat .bool), (.dat .bool)]), (.tmp 1 false [(.dat (.list (.pair (.int .u8) (.pair (.int .i64) (.pair (.int .i64) (.pair (.int .i64) (.int .i64)))))))]), (.tmp 2 false [(.dat (.int .u8))])], provisional_Offer⟩), (12, ⟨[(.tmp 0 true [(.dat (.int .i64)), (.dat (.int .i64)), (.dat (.int .i64)), (.dat (.list (.int .i64))), (.dat .bool), (.dat .bool)]), (.tmp 1 false [(.dat (.int .i64))])], [(.tmp 0 true [(.dat (.int .i64)), (.dat (.int .i64)), (.dat (.int .i64)), (.dat (.list (.int .i64))), (.dat .bool), (.dat .bool)]), (.tmp 1 false [(.dat (.list (.pair (.int .u8) (.pair (.int .i64) (.pair (.int .i64) (.pair (.int .i64) (.int .i64)))))))]), (.tmp 2 false [(.dat (.int .u8))])], provisional_Ack⟩), (13, ⟨[(.tmp 0 true [(.dat (.int .i64)), (.dat (.int .i64)), (.dat (.int .i64)), (.dat (.list (.int .i64))), (.dat .bool), (.dat .bool)]), (.tmp 1 false [(.dat (.int .i64))])], [(.tmp 0 true [(.dat (.int .i64)), (.dat (.int .i64)), (.dat (.int .i64)), (.dat (.list (.int .i64))), (.dat .bool), (.dat .bool)]), (.tmp 1 false [(.dat (.list (.pair (.int .u8) (.pair (.int .i64) (.pair (.int .i64) (.pair (.int .i64) (.int .i64)))))))]), (.tmp 2 false [(.dat (.int .u8))])], provisional_Fire⟩), (35, ⟨[(.tmp 0 false [(.dat (.int .i64))]), (.tmp 1 false [(.dat (.int .i64))]), (.tmp 2 false [(.dat (.int .i64))])], [(.tmp 0 false [(.dat .bool)])], dialtoneref12_From⟩), (36, ⟨[(.tmp 0 false [(.dat (.int .i64))])], [(.tmp 0 false [(.dat .bool)])], dialtoneref18_wait⟩), (19, ⟨[(.tmp 0 true [(.dat (.int .i64)), (.dat (.int .i64)), (.dat (.int .i64)), (.dat (.list (.int .i64))), (.dat .bool), (.dat .bool)])], [(.tmp 0 false [(.dat .bool)])], dialtoneref18_May⟩), (21, ⟨[(.tmp 0 true [(.dat (.int .i64)), (.dat (.int .i64)), (.dat (.int .i64)), (.dat (.list (.int .i64))), (.dat .bool), (.dat .bool)]), (.tmp 1 true [(.dat (.int .i64)), (.dat (.int .i64)), (.dat (.int .i64)), (.dat (.list (.int .i64))), (.dat .bool), (.dat .bool)])], [(.tmp 0 false [(.dat .bool)])], dialtoneref18_Same⟩), (38, ⟨[(.tmp 0 true [(.dat (.int .i64)), (.dat (.int .i64)), (.dat (.int .i64)), (.dat (.list (.int .i64))), (.dat .bool), (.dat .bool)])], [(.tmp 0 true [(.dat (.int .i64)), (.dat (.int .i64)), (.dat (.int .i64)), (.dat (.list (.int .i64))), (.dat .bool), (.dat .bool)]), (.tmp 1 false [(.dat (.list (.pair (.int .u8) (.pair (.int .i64) (.pair (.int .i64) (.pair (.int .i64) (.int .i64)))))))])], dialtoneref18_next⟩), (22, ⟨[(.tmp 0 true [(.dat (.int .i64)), (.dat (.int .i64)), (.dat (.int .i64)), (.dat (.list (.int .i64))), (.dat .bool), (.dat .bool)]), (.tmp 1 false [(.dat (.int .i64))])], [(.tmp 0 true [(.dat (.int .i64)), (.dat (.int .i64)), (.dat (.int .i64)), (.dat (.list (.int .i64))), (.dat .bool), (.dat .bool)]), (.tmp 1 false [(.dat (.list (.pair (.int .u8) (.pair (.int .i64) (.pair (.int .i64) (.pair (.int .i64) (.int .i64)))))))]), (.tmp 2 false [(.dat (.int .u8))])], dialtoneref18_Offer⟩), (24, ⟨[(.tmp 0 true [(.dat (.int .i64)), (.dat (.int .i64)), (.dat (.int .i64)), (.dat (.list (.int .i64))), (.dat .bool), (.dat .bool)]), (.tmp 1 false [(.dat (.int .i64))])], [(.tmp 0 true [(.dat (.int .i64)), (.dat (.int .i64)), (.dat (.int .i64)), (.dat (.list (.int .i64))), (.dat .bool), (.dat .bool)]), (.tmp 1 false [(.dat (.list (.pair (.int .u8) (.pair (.int .i64) (.pair (.int .i64) (.pair (.int .i64) (.int .i64)))))))]), (.tmp 2 false [(.dat (.int .u8))])], dialtoneref18_Ack⟩), (25, ⟨[(.tmp 0 true [(.dat (.int .i64)), (.dat (.int .i64)), (.dat (.int .i64)), (.dat (.list (.int .i64))), (.dat .bool), (.dat .bool)]), (.tmp 1 false [(.dat (.int .i64))])], [(.tmp 0 true [(.dat (.int .i64)), (.dat (.int .i64)), (.dat (.int .i64)), (.dat (.list (.int .i64))), (.dat .bool), (.dat .bool)]), (.tmp 1 false [(.dat (.list (.pair (.int .u8) (.pair (.int .i64) (.pair (.int .i64) (.pair (.int .i64) (.int .i64)))))))]), (.tmp 2 false [(.dat (.int .u8))])], dialtoneref18_Fire⟩), (23, ⟨[(.tmp 0 false [(.dat (.list (.pair (.int .u8) (.pair (.int .i64) (.pair (.int .i64) (.pair (.int .i64) (.int .i64)))))))]), (.tmp 1 false [(.dat (.list (.pair (.int .u8) (.pair (.int .i64) (.pair (.int .i64) (.pair (.int .i64) (.int .i64)))))))])], [(.tmp 0 false [(.dat .bool)])], dialtoneref18_Outs⟩), (18, ⟨[(.tmp 0 true [(.dat (.int .i64)), (.dat (.int .i64)), (.dat (.int .i64)), (.dat (.list (.int .i64))), (.dat .bool), (.dat .bool)])], [(.tmp 0 true [(.dat (.int .i64)), (.dat (.int .i64)), (.dat (.int .i64)), (.dat (.list (.int .i64))), (.dat .bool), (.dat .bool)])], dialtonelaw18_copied⟩), (8, ⟨[(.tmp 0 false [(.dat (.int .i64))]), (.tmp 1 false [(.dat (.int .i64))])], [(.tmp 0 false [(.dat (.int .i64))]), (.tmp 1 false [(.dat .bool)])], provisional_Accept⟩), (10, ⟨[], riB, (fun _ => some true)⟩)]
theorem cons7_ok : ConL Try.prog cons7 := ⟨clone_con, con37, con30, con31, con34, con14, con33, con20, con11, con12, con13, con35, con36, con19, con21, con38, con22, con24, con25, con23, con18, con8, con_true (by kernel_rfl) works_o, trivial⟩
theorem con7 : ConOk Try.prog 7 ⟨[(.tmp 0 true [(.dat (.int .i64)), (.dat (.int .i64)), (.dat (.int .i64)), (.dat (.list (.int .i64))), (.dat .bool), (.dat .bool)]), (.tmp 1 true [(.dat (.int .i64)), (.dat (.int .i64)), (.dat (.int .i64)), (.dat (.list (.int .i64))), (.dat .bool), (.dat .bool)]), (.tmp 2 false [(.dat (.int .i64))])], [(.tmp 0 false [(.dat .bool)])], dialtonelaw18_ProvisionalSteps⟩ :=
  tree_ok (plan := planOf plan7) (eg := egNo) KK tabL_ok (conOf_ok cons7_ok) Try.func7 (by kernel_rfl) (by kernel_rfl) 10000 (fun a r h => Eq.trans (show _ = dialtonelaw18_ProvisionalSteps a from by kernel_rfl) h)
/-! ### dialtone/dialtonelaw18.ProvisionalNumbers -/
def plan4 : List (Nat × PL) := [(68853957121, (.carry [.drop 5, .tmp 4 false [(.dat (.int .i64))], .mix 1 [(.dat (.int .i64)), (.dat (.int .i64)), (.dat (.int .i64)), (.dat (.list (.int .i64))), (.dat .bool), (.dat .bool)]])), (9241421688456087558, (.carry [.tmp 6 false [(.dat (.int .i64))], .tmp 5 false [(.dat (.int .i64))], .tmp 4 false [(.dat (.int .i64))], .mix 1 [(.dat (.int .i64)), (.dat (.int .i64)), (.dat (.int .i64)), (.dat (.list (.int .i64))), (.dat .bool), (.dat .bool)]])), (2422583247098632616804865, (.carry [.tmp 9 false [(.dat (.int .u8))], .tmp 8 false [(.dat (.list (.pair (.int .u8) (.pair (.int .i64) (.pair (.int .i64) (.pair (.int .i64) (.int .i64)))))))], .drop 7, .drop 10, .tmp 5 false [(.dat (.int .i64))], .tmp 4 false [(.dat (.int .i64))], .mix 1 [(.dat (.int .i64)), (.dat (.int .i64)), (.dat (.int .i64)), (.dat (.list (.int .i64))), (.dat .bool), (.dat .bool)]])), (85237070382089125687261519276430066177, (.carry [.tmp 9 false [(.dat (.int .u8))], .tmp 8 false [(.dat (.list (.pair (.int .u8) (.pair (.int .i64) (.pair (.int .i64) (.pair (.int .i64) (.int .i64)))))))], .mix 13 [(.dat (.int .i64)), (.dat (.int .i64)), (.dat (.int .i64)), (.dat (.list (.int .i64))), (.dat .bool), (.dat .bool)]])), (11440325928060094343250679659110647433166848513, (.carry [.tmp 10 false [(.dat (.int .i64))], .tmp 5 false [(.dat (.int .i64))], .tmp 4 false [(.dat (.int .i64))]])), (1535494553643717310216758358301645599088686252201084934, (.carry [.tmp 10 false [(.dat (.int .i64))], .tmp 5 false [(.dat (.int .i64))], .tmp 4 false [(.dat (.int .i64))]]))]
noncomputable def dialtonelaw18_ProvisionalNumbers : (List Int) → Option Bool := fun a1 =>
  joinO (loopO (fun (v2, (v3, (v4, (v5, (v6, (v7, (v8, (v9, v10)))))))) =>
    bif (decide (v2 < (((List.length a1) : Nat) : Int))) then
     bif (decide (v2 < (100 : Int))) then
      joinO (joinO (bif (decide (((0 : Int) ≤ v2) ∧ (v2 < (((List.length a1) : Nat) : Int)))) then 
         bindO a1[(Int.toNat v2)]? fun x11 =>
         bif (decide (x11 < (120 : Int))) then
          bif (decide (((0 : Int) ≤ v2) ∧ (v2 < (((List.length a1) : Nat) : Int)))) then 
           bindO a1[(Int.toNat v2)]? fun x12 =>
           bindO (provisional_Offer ((v5, (v6, (v7, (v8, (v9, v10))))), (Go.IntKind.wrap .i64 ((101 : Int) + (Go.IntKind.wrap .i64 (Int.tmod x12 (99 : Int))))))) fun ((x17, (x18, (x19, (x20, (x21, x22))))), (x23, x24)) =>
           some (Sum.inl (x24, (x23, (x17, (x18, (x19, (x20, (x21, x22))))))))
          else none
         else
          bif (decide (((0 : Int) ≤ v2) ∧ (v2 < (((List.length a1) : Nat) : Int)))) then 
           bindO a1[(Int.toNat v2)]? fun x25 =>
           bif (decide (x25 < (128 : Int))) then
            bif (decide (((0 : Int) ≤ v2) ∧ (v2 < (((List.length a1) : Nat) : Int)))) then 
             bindO a1[(Int.toNat v2)]? fun x26 =>
             bindO (some (Int.tmod x26 (2 : Int))) fun x27 =>
             bif (decide (((0 : Int) ≤ x27) ∧ (x27 < (2 : Int)))) then 
              bindO (provisional_Offer ((v5, (v6, (v7, (v8, (v9, v10))))), (List.getD ((202 : Int) :: ((404 : Int) :: ([] : List Int))) (Int.toNat x27) (0 : Int)))) fun ((x29, (x30, (x31, (x32, (x33, x34))))), (x35, x36)) =>
              some (Sum.inl (x36, (x35, (x29, (x30, (x31, (x32, (x33, x34))))))))
             else none
            else none
           else
            bif (decide (((0 : Int) ≤ v2) ∧ (v2 < (((List.length a1) : Nat) : Int)))) then 
             bindO a1[(Int.toNat v2)]? fun x37 =>
             bif (decide (x37 < (192 : Int))) then
              bindO (provisional_Ack ((v5, (v6, (v7, (v8, (v9, v10))))), v5)) fun ((x39, (x40, (x41, (x42, (x43, x44))))), (x45, x46)) =>
              some (Sum.inl (x46, (x45, (x39, (x40, (x41, (x42, (x43, x44))))))))
             else
              bif (decide (((0 : Int) ≤ v2) ∧ (v2 < (((List.length a1) : Nat) : Int)))) then 
               bindO a1[(Int.toNat v2)]? fun x47 =>
               bif (decide (x47 < (250 : Int))) then
                bindO (provisional_Fire ((v5, (v6, (v7, (v8, (v9, v10))))), (1 : Int))) fun ((x49, (x50, (x51, (x52, (x53, x54))))), (x55, x56)) =>
                some (Sum.inl (x56, (x55, (x49, (x50, (x51, (x52, (x53, x54))))))))
               else
                bindO (provisional_Fire ((v5, (v6, (v7, (v8, (v9, v10))))), (2 : Int))) fun ((x58, (x59, (x60, (x61, (x62, x63))))), (x64, x65)) =>
                some (Sum.inl (x65, (x64, (x58, (x59, (x60, (x61, (x62, x63))))))))
              else none
            else none
          else none
        else none) fun (v66, (v67, (v68, (v69, (v70, (v71, (v72, v73))))))) =>
       bif (decide (v66 ≠ (0 : Int))) then
        bif (decide ((((List.length v67) : Nat) : Int) ≠ (0 : Int))) then
         outO (outO (outO (some Bool.false)))
        else
         bif (decide (v66 ≠ (9 : Int))) then
          bif (decide (v66 ≠ (8 : Int))) then
           bif (decide (v66 ≠ (10 : Int))) then
            outO (outO (outO (some Bool.false)))
           else
            some (Sum.inl (v66, (v67, (v3, (v4, (v5, (v6, (v7, (v8, (v9, v10))))))))))
          else
           some (Sum.inl (v66, (v67, (v3, (v4, (v5, (v6, (v7, (v8, (v9, v10))))))))))
         else
          some (Sum.inl (v66, (v67, (v3, (v4, (v5, (v6, (v7, (v8, (v9, v10))))))))))
       else
        bindO (provisional_May (v68, (v69, (v70, (v71, (v72, v73)))))) fun x74 =>
        bif (!x74) then
         outO (outO (outO (some Bool.false)))
        else
         bif v10 then
          bif (decide ((((List.length v67) : Nat) : Int) ≠ (0 : Int))) then
           outO (outO (outO (some Bool.false)))
          else
           joinO (loopO (fun (v75, (v76, v77)) =>
             bif (decide (v75 < (((List.length v67) : Nat) : Int))) then
              bif (decide (((0 : Int) ≤ v75) ∧ (v75 < (((List.length v67) : Nat) : Int)))) then 
               bindO v67[(Int.toNat v75)]? fun x78 =>
               bif (decide (x78.1 ≠ (1 : Int))) then
                some (Sum.inl ((Go.IntKind.wrap .i64 (v75 + (1 : Int))), (v76, v77)))
               else
                bif (decide (((0 : Int) ≤ v75) ∧ (v75 < (((List.length v67) : Nat) : Int)))) then 
                 bindO v67[(Int.toNat v75)]? fun x80 =>
                 bif (decide (x80.2.2.1 = (Go.IntKind.wrap .i64 (v77 + (1 : Int))))) then
                  bif (decide (((0 : Int) ≤ v2) ∧ (v2 < (((List.length a1) : Nat) : Int)))) then 
                   bindO a1[(Int.toNat v2)]? fun x82 =>
                   bif (decide (x82 < (192 : Int))) then
                    bif (decide (((0 : Int) ≤ v75) ∧ (v75 < (((List.length v67) : Nat) : Int)))) then 
                     bindO v67[(Int.toNat v75)]? fun x83 =>
                     bif (decide (((0 : Int) ≤ v75) ∧ (v75 < (((List.length v67) : Nat) : Int)))) then 
                      bindO v67[(Int.toNat v75)]? fun x84 =>
                      some (Sum.inl ((Go.IntKind.wrap .i64 (v75 + (1 : Int))), (x84.2.1, x83.2.2.1)))
                     else none
                    else none
                   else
                    bif (decide (((0 : Int) ≤ v75) ∧ (v75 < (((List.length v67) : Nat) : Int)))) then 
                     bindO v67[(Int.toNat v75)]? fun x86 =>
                     bif (decide (x86.2.2.1 ≠ v77)) then
                      outO (outO (outO (outO (outO (some Bool.false)))))
                     else
                      bif (decide (((0 : Int) ≤ v75) ∧ (v75 < (((List.length v67) : Nat) : Int)))) then 
                       bindO v67[(Int.toNat v75)]? fun x87 =>
                       bif (decide (x87.2.1 ≠ v76)) then
                        outO (outO (outO (outO (outO (some Bool.false)))))
                       else
                        bif (decide (((0 : Int) ≤ v2) ∧ (v2 < (((List.length a1) : Nat) : Int)))) then 
                         bindO a1[(Int.toNat v2)]? fun x88 =>
                         bif (decide (x88 < (192 : Int))) then
                          outO (outO (outO (outO (outO (some Bool.false)))))
                         else
                          some (Sum.inl ((Go.IntKind.wrap .i64 (v75 + (1 : Int))), (v76, v77)))
                        else none
                      else none
                    else none
                  else none
                 else
                  bif (decide (((0 : Int) ≤ v75) ∧ (v75 < (((List.length v67) : Nat) : Int)))) then 
                   bindO v67[(Int.toNat v75)]? fun x90 =>
                   bif (decide (x90.2.2.1 ≠ v77)) then
                    outO (outO (outO (outO (outO (some Bool.false)))))
                   else
                    bif (decide (((0 : Int) ≤ v75) ∧ (v75 < (((List.length v67) : Nat) : Int)))) then 
                     bindO v67[(Int.toNat v75)]? fun x91 =>
                     bif (decide (x91.2.1 ≠ v76)) then
                      outO (outO (outO (outO (outO (some Bool.false)))))
                     else
                      bif (decide (((0 : Int) ≤ v2) ∧ (v2 < (((List.length a1) : Nat) : Int)))) then 
                       bindO a1[(Int.toNat v2)]? fun x92 =>
                       bif (decide (x92 < (192 : Int))) then
                        outO (outO (outO (outO (outO (some Bool.false)))))
                       else
                        some (Sum.inl ((Go.IntKind.wrap .i64 (v75 + (1 : Int))), (v76, v77)))
                      else none
                    else none
                  else none
                else none
              else none
             else
              outO (some (Sum.inl (v75, (v76, v77))))) ((0 : Int), (v3, v4))) fun (v94, (v95, v96)) =>
           some (Sum.inl (v66, (v67, (v95, (v96, (v68, (v69, (v70, (v71, (v72, v73))))))))))
         else
          joinO (loopO (fun (v97, (v98, v99)) =>
            bif (decide (v97 < (((List.length v67) : Nat) : Int))) then
             bif (decide (((0 : Int) ≤ v97) ∧ (v97 < (((List.length v67) : Nat) : Int)))) then 
              bindO v67[(Int.toNat v97)]? fun x100 =>
              bif (decide (x100.1 ≠ (1 : Int))) then
               some (Sum.inl ((Go.IntKind.wrap .i64 (v97 + (1 : Int))), (v98, v99)))
              else
               bif (decide (((0 : Int) ≤ v97) ∧ (v97 < (((List.length v67) : Nat) : Int)))) then 
                bindO v67[(Int.toNat v97)]? fun x102 =>
                bif (decide (x102.2.2.1 = (Go.IntKind.wrap .i64 (v99 + (1 : Int))))) then
                 bif (decide (((0 : Int) ≤ v2) ∧ (v2 < (((List.length a1) : Nat) : Int)))) then 
                  bindO a1[(Int.toNat v2)]? fun x104 =>
                  bif (decide (x104 < (192 : Int))) then
                   bif (decide (((0 : Int) ≤ v97) ∧ (v97 < (((List.length v67) : Nat) : Int)))) then 
                    bindO v67[(Int.toNat v97)]? fun x105 =>
                    bif (decide (((0 : Int) ≤ v97) ∧ (v97 < (((List.length v67) : Nat) : Int)))) then 
                     bindO v67[(Int.toNat v97)]? fun x106 =>
                     some (Sum.inl ((Go.IntKind.wrap .i64 (v97 + (1 : Int))), (x106.2.1, x105.2.2.1)))
                    else none
                   else none
                  else
                   bif (decide (((0 : Int) ≤ v97) ∧ (v97 < (((List.length v67) : Nat) : Int)))) then 
                    bindO v67[(Int.toNat v97)]? fun x108 =>
                    bif (decide (x108.2.2.1 ≠ v99)) then
                     outO (outO (outO (outO (outO (some Bool.false)))))
                    else
                     bif (decide (((0 : Int) ≤ v97) ∧ (v97 < (((List.length v67) : Nat) : Int)))) then 
                      bindO v67[(Int.toNat v97)]? fun x109 =>
                      bif (decide (x109.2.1 ≠ v98)) then
                       outO (outO (outO (outO (outO (some Bool.false)))))
                      else
                       bif (decide (((0 : Int) ≤ v2) ∧ (v2 < (((List.length a1) : Nat) : Int)))) then 
                        bindO a1[(Int.toNat v2)]? fun x110 =>
                        bif (decide (x110 < (192 : Int))) then
                         outO (outO (outO (outO (outO (some Bool.false)))))
                        else
                         some (Sum.inl ((Go.IntKind.wrap .i64 (v97 + (1 : Int))), (v98, v99)))
                       else none
                     else none
                   else none
                 else none
                else
                 bif (decide (((0 : Int) ≤ v97) ∧ (v97 < (((List.length v67) : Nat) : Int)))) then 
                  bindO v67[(Int.toNat v97)]? fun x112 =>
                  bif (decide (x112.2.2.1 ≠ v99)) then
                   outO (outO (outO (outO (outO (some Bool.false)))))
                  else
                   bif (decide (((0 : Int) ≤ v97) ∧ (v97 < (((List.length v67) : Nat) : Int)))) then 
                    bindO v67[(Int.toNat v97)]? fun x113 =>
                    bif (decide (x113.2.1 ≠ v98)) then
                     outO (outO (outO (outO (outO (some Bool.false)))))
                    else
                     bif (decide (((0 : Int) ≤ v2) ∧ (v2 < (((List.length a1) : Nat) : Int)))) then 
                      bindO a1[(Int.toNat v2)]? fun x114 =>
                      bif (decide (x114 < (192 : Int))) then
                       outO (outO (outO (outO (outO (some Bool.false)))))
                      else
                       some (Sum.inl ((Go.IntKind.wrap .i64 (v97 + (1 : Int))), (v98, v99)))
                     else none
                   else none
                 else none
               else none
             else none
            else
             outO (some (Sum.inl (v97, (v98, v99))))) ((0 : Int), (v3, v4))) fun (v116, (v117, v118)) =>
          some (Sum.inl (v66, (v67, (v117, (v118, (v68, (v69, (v70, (v71, (v72, v73))))))))))) fun (v119, (v120, (v121, (v122, (v123, (v124, (v125, (v126, (v127, v128))))))))) =>
      some (Sum.inl ((Go.IntKind.wrap .i64 (v2 + (1 : Int))), (v121, (v122, (v123, (v124, (v125, (v126, (v127, v128)))))))))
     else
      outO (some (Sum.inl (v4, (v5, (v6, (v7, (v8, (v9, v10))))))))
    else
     outO (some (Sum.inl (v4, (v5, (v6, (v7, (v8, (v9, v10))))))))) ((0 : Int), ((0 : Int), ((0 : Int), ((0 : Int), ((0 : Int), ((0 : Int), (([] : List Int), (Bool.false, Bool.false))))))))) fun (v130, (v131, (v132, (v133, (v134, (v135, v136)))))) =>
  bif (decide (v131 = v130)) then
   some Bool.true
  else
   some Bool.false
noncomputable def cons4 : List (Nat × CE) := [(39, ⟨[.tmp 0 false [.dat (.list (.int .i64))]], [.tmp 0 false [.own 1 3 (.int .i64)]], cloneG⟩), (37, ⟨[(.tmp 0 false [(.dat (.list (.int .i64)))]), (.tmp 1 false [(.dat (.list (.int .i64)))])], [(.tmp 0 false [(.dat .bool)])], slices_Equal___int_int⟩), (30, ⟨[(.tmp 0 false [(.dat (.int .i64))])], [(.tmp 0 false [(.dat .bool)])], provisional_isProvisional⟩), (31, ⟨[(.tmp 0 false [(.dat (.int .i64))])], [(.tmp 0 false [(.dat .bool)])], provisional_isAccepting⟩), (34, ⟨[(.tmp 0 false [(.dat (.int .i64))])], [(.tmp 0 false [(.dat .bool)])], provisional_mayWait⟩), (14, ⟨[(.tmp 0 true [(.dat (.int .i64)), (.dat (.int .i64)), (.dat (.int .i64)), (.dat (.list (.int .i64))), (.dat .bool), (.dat .bool)])], [(.tmp 0 false [(.dat .bool)])], provisional_May⟩), (33, ⟨[(.tmp 0 false [(.dat (.int .i64))]), (.tmp 1 false [(.dat (.int .i64))])], [(.tmp 0 true [(.dat (.int .u8)), (.dat (.int .i64)), (.dat (.int .i64)), (.dat (.int .i64)), (.dat (.int .i64))])], provisional_timer⟩), (20, ⟨[(.tmp 0 true [(.dat (.int .i64)), (.dat (.int .i64)), (.dat (.int .i64)), (.dat (.list (.int .i64))), (.dat .bool), (.dat .bool)]), (.tmp 1 true [(.dat (.int .i64)), (.dat (.int .i64)), (.dat (.int .i64)), (.dat (.list (.int .i64))), (.dat .bool), (.dat .bool)])], [(.tmp 0 false [(.dat .bool)])], provisional_Same⟩), (11, ⟨[(.tmp 0 true [(.dat (.int .i64)), (.dat (.int .i64)), (.dat (.int .i64)), (.dat (.list (.int .i64))), (.dat .bool), (.dat .bool)]), (.tmp 1 false [(.dat (.int .i64))])], [(.tmp 0 true [(.dat (.int .i64)), (.dat (.int .i64)), (.dat (.int .i64)), (.dat (.list (.int .i64))), (.dat .bool), (.dat .bool)]), (.tmp 1 false [(.dat (.list (.pair (.int .u8) (.pair (.int .i64) (.pair (.int .i64) (.pair (.int .i64) (.int .i64)))))))]), (.tmp 2 false [(.dat (.int .u8))])], provisional_Offer⟩), (12, ⟨[(.tmp 0 true [(.dat (.int .i64)), (.dat (.int .i64)), (.dat (.int .i64)), (.dat (.list (.int .i64))), (.dat .bool), (.dat .bool)]), (.tmp 1 false [(.dat (.int .i64))])], [(.tmp 0 true [(.dat (.int .i64)), (.dat (.int .i64)), (.dat (.int .i64)), (.dat (.list (.int .i64))), (.dat .bool), (.dat .bool)]), (.tmp 1 false [(.dat (.list (.pair (.int .u8) (.pair (.int .i64) (.pair (.int .i64) (.pair (.int .i64) (.int .i64)))))))]), (.tmp 2 false [(.dat (.int .u8))])], provisional_Ack⟩), (13, ⟨[(.tmp 0 true [(.dat (.int .i64)), (.dat (.int .i64)), (.dat (.int .i64)), (.dat (.list (.int .i64))), (.dat .bool), (.dat .bool)]), (.tmp 1 false [(.dat (.int .i64))])], [(.tmp 0 true [(.dat (.int .i64)), (.dat (.int .i64)), (.dat (.int .i64)), (.dat (.list (.int .i64))), (.dat .bool), (.dat .bool)]), (.tmp 1 false [(.dat (.list (.pair (.int .u8) (.pair (.int .i64) (.pair (.int .i64) (.pair (.int .i64) (.int .i64)))))))]), (.tmp 2 false [(.dat (.int .u8))])], provisional_Fire⟩), (35, ⟨[(.tmp 0 false [(.dat (.int .i64))]), (.tmp 1 false [(.dat (.int .i64))]), (.tmp 2 false [(.dat (.int .i64))])], [(.tmp 0 false [(.dat .bool)])], dialtoneref12_From⟩), (36, ⟨[(.tmp 0 false [(.dat (.int .i64))])], [(.tmp 0 false [(.dat .bool)])], dialtoneref18_wait⟩), (19, ⟨[(.tmp 0 true [(.dat (.int .i64)), (.dat (.int .i64)), (.dat (.int .i64)), (.dat (.list (.int .i64))), (.dat .bool), (.dat .bool)])], [(.tmp 0 false [(.dat .bool)])], dialtoneref18_May⟩), (21, ⟨[(.tmp 0 true [(.dat (.int .i64)), (.dat (.int .i64)), (.dat (.int .i64)), (.dat (.list (.int .i64))), (.dat .bool), (.dat .bool)]), (.tmp 1 true [(.dat (.int .i64)), (.dat (.int .i64)), (.dat (.int .i64)), (.dat (.list (.int .i64))), (.dat .bool), (.dat .bool)])], [(.tmp 0 false [(.dat .bool)])], dialtoneref18_Same⟩), (38, ⟨[(.tmp 0 true [(.dat (.int .i64)), (.dat (.int .i64)), (.dat (.int .i64)), (.dat (.list (.int .i64))), (.dat .bool), (.dat .bool)])], [(.tmp 0 true [(.dat (.int .i64)), (.dat (.int .i64)), (.dat (.int .i64)), (.dat (.list (.int .i64))), (.dat .bool), (.dat .bool)]), (.tmp 1 false [(.dat (.list (.pair (.int .u8) (.pair (.int .i64) (.pair (.int .i64) (.pair (.int .i64) (.int .i64)))))))])], dialtoneref18_next⟩), (22, ⟨[(.tmp 0 true [(.dat (.int .i64)), (.dat (.int .i64)), (.dat (.int .i64)), (.dat (.list (.int .i64))), (.dat .bool), (.dat .bool)]), (.tmp 1 false [(.dat (.int .i64))])], [(.tmp 0 true [(.dat (.int .i64)), (.dat (.int .i64)), (.dat (.int .i64)), (.dat (.list (.int .i64))), (.dat .bool), (.dat .bool)]), (.tmp 1 false [(.dat (.list (.pair (.int .u8) (.pair (.int .i64) (.pair (.int .i64) (.pair (.int .i64) (.int .i64)))))))]), (.tmp 2 false [(.dat (.int .u8))])], dialtoneref18_Offer⟩), (24, ⟨[(.tmp 0 true [(.dat (.int .i64)), (.dat (.int .i64)), (.dat (.int .i64)), (.dat (.list (.int .i64))), (.dat .bool), (.dat .bool)]), (.tmp 1 false [(.dat (.int .i64))])], [(.tmp 0 true [(.dat (.int .i64)), (.dat (.int .i64)), (.dat (.int .i64)), (.dat (.list (.int .i64))), (.dat .bool), (.dat .bool)]), (.tmp 1 false [(.dat (.list (.pair (.int .u8) (.pair (.int .i64) (.pair (.int .i64) (.pair (.int .i64) (.int .i64)))))))]), (.tmp 2 false [(.dat (.int .u8))])], dialtoneref18_Ack⟩), (25, ⟨[(.tmp 0 true [(.dat (.int .i64)), (.dat (.int .i64)), (.dat (.int .i64)), (.dat (.list (.int .i64))), (.dat .bool), (.dat .bool)]), (.tmp 1 false [(.dat (.int .i64))])], [(.tmp 0 true [(.dat (.int .i64)), (.dat (.int .i64)), (.dat (.int .i64)), (.dat (.list (.int .i64))), (.dat .bool), (.dat .bool)]), (.tmp 1 false [(.dat (.list (.pair (.int .u8) (.pair (.int .i64) (.pair (.int .i64) (.pair (.int .i64) (.int .i64)))))))]), (.tmp 2 false [(.dat (.int .u8))])], dialtoneref18_Fire⟩), (23, ⟨[(.tmp 0 false [(.dat (.list (.pair (.int .u8) (.pair (.int .i64) (.pair (.int .i64) (.pair (.int .i64) (.int .i64)))))))]), (.tmp 1 false [(.dat (.list (.pair (.int .u8) (.pair (.int .i64) (.pair (.int .i64) (.pair (.int .i64) (.int .i64)))))))])], [(.tmp 0 false [(.dat .bool)])], dialtoneref18_Outs⟩), (18, ⟨[(.tmp 0 true [(.dat (.int .i64)), (.dat (.int .i64)), (.dat (.int .i64)), (.dat (.list (.int .i64))), (.dat .bool), (.dat .bool)])], [(.tmp 0 true [(.dat (.int .i64)), (.dat (.int .i64)), (.dat (.int .i64)), (.dat (.list (.int .i64))), (.dat .bool), (.dat .bool)])], dialtonelaw18_copied⟩), (8, ⟨[(.tmp 0 false [(.dat (.int .i64))]), (.tmp 1 false [(.dat (.int .i64))])], [(.tmp 0 false [(.dat (.int .i64))]), (.tmp 1 false [(.dat .bool)])], provisional_Accept⟩), (10, ⟨[], riB, (fun _ => some true)⟩), (7, ⟨[(.tmp 0 true [(.dat (.int .i64)), (.dat (.int .i64)), (.dat (.int .i64)), (.dat (.list (.int .i64))), (.dat .bool), (.dat .bool)]), (.tmp 1 true [(.dat (.int .i64)), (.dat (.int .i64)), (.dat (.int .i64)), (.dat (.list (.int .i64))), (.dat .bool), (.dat .bool)]), (.tmp 2 false [(.dat (.int .i64))])], [(.tmp 0 false [(.dat .bool)])], dialtonelaw18_ProvisionalSteps⟩)]
theorem cons4_ok : ConL Try.prog cons4 := ⟨clone_con, con37, con30, con31, con34, con14, con33, con20, con11, con12, con13, con35, con36, con19, con21, con38, con22, con24, con25, con23, con18, con8, con_true (by kernel_rfl) works_o, con7, trivial⟩
theorem con4 : ConOk Try.prog 4 ⟨[(.tmp 0 false [(.dat (.list (.int .u8)))])], [(.tmp 0 false [(.dat .bool)])], dialtonelaw18_ProvisionalNumbers⟩ :=
  tree_ok (plan := planOf plan4) (eg := egNo) KK tabL_ok (conOf_ok cons4_ok) Try.func4 (by kernel_rfl) (by kernel_rfl) 10000 (fun a r h => Eq.trans (show _ = dialtonelaw18_ProvisionalNumbers a from by kernel_rfl) h)
/-! ### dialtone/dialtonelaw18.ProvisionalOrder -/
def plan5 : List (Nat × PL) := [(18049651735527937, (.carry [.tmp 6 false [(.own 10000004 3 (.int .i64))], .mix 3 [(.dat (.int .i64)), (.dat (.int .i64)), (.dat (.int .i64)), (.dat (.list (.int .i64))), (.dat .bool), (.dat .bool), (.dat (.int .i64)), (.own 10000009 3 (.int .i64)), (.dat (.int .i64)), (.dat .bool), (.dat .bool)], .mix 6 [(.dat (.int .i64))]])), (2422583247133816450713606, (.carry [.tmp 9 false [(.dat (.int .i64))], .tmp 6 false [(.own 10000001 3 (.int .i64))], .mix 3 [(.dat (.int .i64)), (.dat (.int .i64)), (.dat (.int .i64)), (.dat (.list (.int .i64))), (.dat .bool), (.dat .bool), (.dat (.int .i64)), (.own 10000007 3 (.int .i64)), (.dat (.int .i64)), (.dat .bool), (.dat .bool)], .mix 6 [(.dat (.int .i64))]])), (635065662736647214839835656210, (.carry [.mix 3 [(.dat (.int .i64)), (.dat (.int .i64)), (.dat (.int .i64)), (.dat (.list (.int .i64))), (.dat .bool), (.dat .bool), (.dat (.int .i64)), (.own 10000005 3 (.int .i64)), (.dat (.int .i64)), (.dat .bool), (.dat .bool)], .dead 10000009])), (5857446875251837594234969780104437240198060048916, (.carry [.mix 3 [(.dat (.int .i64)), (.dat (.int .i64)), (.dat (.int .i64)), (.dat (.list (.int .i64))), (.dat .bool), (.dat .bool), (.dat (.int .i64)), (.own 10000006 3 (.int .i64)), (.dat (.int .i64)), (.dat .bool), (.dat .bool)], .dead 10000007])), (85237070383327051513330625669895555078, (.carry [.tmp 6 false [(.dat (.int .i64))], .mix 3 [(.dat (.int .i64)), (.dat (.int .i64)), (.dat (.int .i64)), (.dat (.list (.int .i64))), (.dat .bool), (.dat .bool), (.dat (.int .i64)), (.own 10000002 3 (.int .i64)), (.dat (.int .i64)), (.dat .bool), (.dat .bool)], .dead 10000009])), (635065662736647214839835656705, (.carry [.tmp 16 false [(.dat (.int .u8))], .tmp 15 false [(.dat (.list (.pair (.int .u8) (.pair (.int .i64) (.pair (.int .i64) (.pair (.int .i64) (.int .i64)))))))], .mix 3 [(.dat (.int .i64)), (.dat (.int .i64)), (.dat (.int .i64)), (.dat (.list (.int .i64))), (.dat .bool), (.dat .bool), (.dat (.int .i64)), (.own 10000011 3 (.int .i64)), (.dat (.int .i64)), (.dat .bool), (.dat .bool)], .mix 6 [(.dat (.int .i64))], .mix 19 [(.dat (.int .i64)), (.dat (.int .i64)), (.dat (.int .i64)), (.dat (.list (.int .i64))), (.dat .bool), (.dat .bool)], .dead 10000005])), (786173211477001069723203542034277169097973889773074647046, (.carry [.tmp 6 false [(.dat (.int .i64))], .mix 3 [(.dat (.int .i64)), (.dat (.int .i64)), (.dat (.int .i64)), (.dat (.list (.int .i64))), (.dat .bool), (.dat .bool), (.dat (.int .i64)), (.own 10000003 3 (.int .i64)), (.dat (.int .i64)), (.dat .bool), (.dat .bool)], .dead 10000007])), (85237070383327051513330625736199112710, (.carry [.tmp 17 false [(.dat (.int .i64))], .tmp 16 false [(.dat (.int .u8))], .tmp 15 false [(.dat (.list (.pair (.int .u8) (.pair (.int .i64) (.pair (.int .i64) (.pair (.int .i64) (.int .i64)))))))], .mix 3 [(.dat (.int .i64)), (.dat (.int .i64)), (.dat (.int .i64)), (.dat (.list (.int .i64))), (.dat .bool), (.dat .bool), (.dat (.int .i64)), (.own 10000008 3 (.int .i64)), (.dat (.int .i64)), (.dat .bool), (.dat .bool)], .mix 6 [(.dat (.int .i64))], .mix 19 [(.dat (.int .i64)), (.dat (.int .i64)), (.dat (.int .i64)), (.dat (.list (.int .i64))), (.dat .bool), (.dat .bool)], .dead 10000005])), (5857446875251837918749797529155057798938821134337, (.carry [.tmp 16 false [(.dat (.int .u8))], .tmp 15 false [(.dat (.list (.pair (.int .u8) (.pair (.int .i64) (.pair (.int .i64) (.pair (.int .i64) (.int .i64)))))))], .mix 19 [(.dat (.int .i64)), (.dat (.int .i64)), (.dat (.int .i64)), (.dat (.list (.int .i64))), (.dat .bool), (.dat .bool)], .mix 6 [(.dat (.int .i64))]])), (402520684276224569998769369509481276150911684428336736763928, (.carry [.mix 3 [(.dat (.int .i64)), (.dat (.int .i64)), (.dat (.int .i64)), (.dat (.list (.int .i64))), (.dat .bool), (.dat .bool), (.dat (.int .i64)), (.own 10000012 3 (.int .i64)), (.dat (.int .i64)), (.dat .bool), (.dat .bool)], .dead 10000008])), (166478653092435647486973878391276033, (.carry [])), (54025411716560186203011787571555051343515951412624335627388488779782, (.carry [.tmp 6 false [(.dat (.int .i64))], .mix 3 [(.dat (.int .i64)), (.dat (.int .i64)), (.dat (.int .i64)), (.dat (.list (.int .i64))), (.dat .bool), (.dat .bool), (.dat (.int .i64)), (.own 10000010 3 (.int .i64)), (.dat (.int .i64)), (.dat .bool), (.dat .bool)], .dead 10000008])), (22344386578566886591910543553025364036159494, (.carry [.tmp 18 false [(.dat (.int .i64))]]))]
noncomputable def dialtonelaw18_ProvisionalOrder : ((List Int) × (List Bool)) → Option Bool := fun (a1, a2) =>
  joinO (loopO (fun (v3, (v4, ((v5, (v6, (v7, (v8, (v9, (v10, (v11, (v12, (v13, (v14, v15)))))))))), v16))) =>
    bif (decide (v3 < (((List.length a1) : Nat) : Int))) then
     bif (decide (v3 < (14 : Int))) then
      bif (decide (((0 : Int) ≤ v3) ∧ (v3 < (((List.length a1) : Nat) : Int)))) then 
       bindO a1[(Int.toNat v3)]? fun x17 =>
       bindO (some (Go.IntKind.wrap .i64 ((101 : Int) + (Go.IntKind.wrap .i64 (Int.tmod x17 (99 : Int)))))) fun x20 =>
       bindO (provisional_Offer ((v5, (v6, (v7, (v8, (v9, v10))))), x20)) fun ((x22, (x23, (x24, (x25, (x26, x27))))), (x28, x29)) =>
       bif (decide (x29 ≠ (0 : Int))) then
        outO (outO (some Bool.false))
       else
        bif (decide ((List.length v4) ≤ (List.length v4))) then 
         bif (decide (((List.length ((List.take (List.length v4) v4) ++ (x20 :: ([] : List Int)))) * 8) ≤ 140737488355328)) then 
          bindO (some ((List.take (List.length v4) v4) ++ (x20 :: ([] : List Int)))) fun x30 =>
          bindO (some (Go.IntKind.wrap .i64 (v16 + (1 : Int)))) fun x31 =>
          bif (decide (x31 ≤ (((List.length a2) : Nat) : Int))) then
           bindO (some (Go.IntKind.wrap .i64 (x31 - (1 : Int)))) fun x32 =>
           bif (decide (((0 : Int) ≤ x32) ∧ (x32 < (((List.length a2) : Nat) : Int)))) then 
            bindO a2[(Int.toNat x32)]? fun x33 =>
            joinO (bif (decide ((List.length v12) ≤ (List.length v12))) then 
              loopO (fun (v34, (v35, (v36, (v37, (v38, (v39, (v40, (v41, (v42, (v43, (v44, v45))))))))))) =>
               bif (decide (v34 < (((List.length x28) : Nat) : Int))) then
                bif (decide (((0 : Int) ≤ v34) ∧ (v34 < (((List.length x28) : Nat) : Int)))) then 
                 bindO x28[(Int.toNat v34)]? fun x46 =>
                 bif (decide (x46.1 = (1 : Int))) then
                  bif x33 then
                   bif (decide ((List.length v42) ≤ (List.length v42))) then 
                    some (Sum.inl ((Go.IntKind.wrap .i64 (v34 + (1 : Int))), (v35, (v36, (v37, (v38, (v39, (v40, (v41, ((List.take (List.length v42) v42), (v43, (v44, v45))))))))))))
                   else none
                  else
                   bif (decide (((0 : Int) ≤ v34) ∧ (v34 < (((List.length x28) : Nat) : Int)))) then 
                    bindO x28[(Int.toNat v34)]? fun x48 =>
                    bindO (provisional_Accept (v41, x48.2.2.1)) fun (x50, x51) =>
                    bif x51 then
                     bif (decide (((0 : Int) ≤ v34) ∧ (v34 < (((List.length x28) : Nat) : Int)))) then 
                      bindO x28[(Int.toNat v34)]? fun x52 =>
                      bif (decide ((List.length v42) ≤ (List.length v42))) then 
                       bif (decide (((List.length ((List.take (List.length v42) v42) ++ (x52.2.1 :: ([] : List Int)))) * 8) ≤ 140737488355328)) then 
                        bindO (some ((List.take (List.length v42) v42) ++ (x52.2.1 :: ([] : List Int)))) fun x53 =>
                        bif (decide ((List.length x53) ≤ (List.length x53))) then 
                         some (Sum.inl ((Go.IntKind.wrap .i64 (v34 + (1 : Int))), (v35, (v36, (v37, (v38, (v39, (v40, (x50, ((List.take (List.length x53) x53), (v43, (v44, v45))))))))))))
                        else none
                       else none
                      else none
                     else none
                    else
                     bif (decide ((List.length v42) ≤ (List.length v42))) then 
                      some (Sum.inl ((Go.IntKind.wrap .i64 (v34 + (1 : Int))), (v35, (v36, (v37, (v38, (v39, (v40, (v41, ((List.take (List.length v42) v42), (v43, (v44, v45))))))))))))
                     else none
                   else none
                 else
                  bif (decide (x46.1 = (2 : Int))) then
                   bif (decide (((0 : Int) ≤ v34) ∧ (v34 < (((List.length x28) : Nat) : Int)))) then 
                    bindO x28[(Int.toNat v34)]? fun x56 =>
                    bif (decide ((List.length v42) ≤ (List.length v42))) then 
                     some (Sum.inl ((Go.IntKind.wrap .i64 (v34 + (1 : Int))), (v35, (v36, (v37, (v38, (v39, (v40, (v41, ((List.take (List.length v42) v42), (x56.2.1, (v44, v45))))))))))))
                    else none
                   else none
                  else
                   bif (decide (x46.1 = (4 : Int))) then
                    bif (decide ((List.length v42) ≤ (List.length v42))) then 
                     some (Sum.inl ((Go.IntKind.wrap .i64 (v34 + (1 : Int))), (v35, (v36, (v37, (v38, (v39, (v40, (v41, ((List.take (List.length v42) v42), (v43, (v44, Bool.true))))))))))))
                    else none
                   else
                    bif (decide ((List.length v42) ≤ (List.length v42))) then 
                     some (Sum.inl ((Go.IntKind.wrap .i64 (v34 + (1 : Int))), (v35, (v36, (v37, (v38, (v39, (v40, (v41, ((List.take (List.length v42) v42), (v43, (v44, v45))))))))))))
                    else none
                else none
               else
                outO (bif (decide ((List.length v42) ≤ (List.length v42))) then 
                 some (Sum.inl (v35, (v36, (v37, (v38, (v39, (v40, (v41, ((List.take (List.length v42) v42), (v43, (v44, v45)))))))))))
                else none)) ((0 : Int), (x22, (x23, (x24, (x25, (x26, (x27, (v11, ((List.take (List.length v12) v12), (v13, (v14, v15)))))))))))
             else none) fun (v60, (v61, (v62, (v63, (v64, (v65, (v66, (v67, (v68, (v69, v70)))))))))) =>
            bif ((decide ((List.length x30) ≤ (List.length x30))) && (decide ((List.length v67) ≤ (List.length v67)))) then 
             some (Sum.inl ((Go.IntKind.wrap .i64 (v3 + (1 : Int))), ((List.take (List.length x30) x30), ((v60, (v61, (v62, (v63, (v64, (v65, (v66, ((List.take (List.length v67) v67), (v68, (v69, v70)))))))))), x31))))
            else none
           else none
          else
           joinO (bif (decide ((List.length v12) ≤ (List.length v12))) then 
             loopO (fun (v72, (v73, (v74, (v75, (v76, (v77, (v78, (v79, (v80, (v81, (v82, v83))))))))))) =>
              bif (decide (v72 < (((List.length x28) : Nat) : Int))) then
               bif (decide (((0 : Int) ≤ v72) ∧ (v72 < (((List.length x28) : Nat) : Int)))) then 
                bindO x28[(Int.toNat v72)]? fun x84 =>
                bif (decide (x84.1 = (1 : Int))) then
                 bif (decide (((0 : Int) ≤ v72) ∧ (v72 < (((List.length x28) : Nat) : Int)))) then 
                  bindO x28[(Int.toNat v72)]? fun x85 =>
                  bindO (provisional_Accept (v79, x85.2.2.1)) fun (x87, x88) =>
                  bif x88 then
                   bif (decide (((0 : Int) ≤ v72) ∧ (v72 < (((List.length x28) : Nat) : Int)))) then 
                    bindO x28[(Int.toNat v72)]? fun x89 =>
                    bif (decide ((List.length v80) ≤ (List.length v80))) then 
                     bif (decide (((List.length ((List.take (List.length v80) v80) ++ (x89.2.1 :: ([] : List Int)))) * 8) ≤ 140737488355328)) then 
                      bindO (some ((List.take (List.length v80) v80) ++ (x89.2.1 :: ([] : List Int)))) fun x90 =>
                      bif (decide ((List.length x90) ≤ (List.length x90))) then 
                       some (Sum.inl ((Go.IntKind.wrap .i64 (v72 + (1 : Int))), (v73, (v74, (v75, (v76, (v77, (v78, (x87, ((List.take (List.length x90) x90), (v81, (v82, v83))))))))))))
                      else none
                     else none
                    else none
                   else none
                  else
                   bif (decide ((List.length v80) ≤ (List.length v80))) then 
                    some (Sum.inl ((Go.IntKind.wrap .i64 (v72 + (1 : Int))), (v73, (v74, (v75, (v76, (v77, (v78, (v79, ((List.take (List.length v80) v80), (v81, (v82, v83))))))))))))
                   else none
                 else none
                else
                 bif (decide (x84.1 = (2 : Int))) then
                  bif (decide (((0 : Int) ≤ v72) ∧ (v72 < (((List.length x28) : Nat) : Int)))) then 
                   bindO x28[(Int.toNat v72)]? fun x93 =>
                   bif (decide ((List.length v80) ≤ (List.length v80))) then 
                    some (Sum.inl ((Go.IntKind.wrap .i64 (v72 + (1 : Int))), (v73, (v74, (v75, (v76, (v77, (v78, (v79, ((List.take (List.length v80) v80), (x93.2.1, (v82, v83))))))))))))
                   else none
                  else none
                 else
                  bif (decide (x84.1 = (4 : Int))) then
                   bif (decide ((List.length v80) ≤ (List.length v80))) then 
                    some (Sum.inl ((Go.IntKind.wrap .i64 (v72 + (1 : Int))), (v73, (v74, (v75, (v76, (v77, (v78, (v79, ((List.take (List.length v80) v80), (v81, (v82, Bool.true))))))))))))
                   else none
                  else
                   bif (decide ((List.length v80) ≤ (List.length v80))) then 
                    some (Sum.inl ((Go.IntKind.wrap .i64 (v72 + (1 : Int))), (v73, (v74, (v75, (v76, (v77, (v78, (v79, ((List.take (List.length v80) v80), (v81, (v82, v83))))))))))))
                   else none
               else none
              else
               outO (bif (decide ((List.length v80) ≤ (List.length v80))) then 
                some (Sum.inl (v73, (v74, (v75, (v76, (v77, (v78, (v79, ((List.take (List.length v80) v80), (v81, (v82, v83)))))))))))
               else none)) ((0 : Int), (x22, (x23, (x24, (x25, (x26, (x27, (v11, ((List.take (List.length v12) v12), (v13, (v14, v15)))))))))))
            else none) fun (v97, (v98, (v99, (v100, (v101, (v102, (v103, (v104, (v105, (v106, v107)))))))))) =>
           bif ((decide ((List.length x30) ≤ (List.length x30))) && (decide ((List.length v104) ≤ (List.length v104)))) then 
            some (Sum.inl ((Go.IntKind.wrap .i64 (v3 + (1 : Int))), ((List.take (List.length x30) x30), ((v97, (v98, (v99, (v100, (v101, (v102, (v103, ((List.take (List.length v104) v104), (v105, (v106, v107)))))))))), x31))))
           else none
         else none
        else none
      else none
     else
      outO (bif ((decide ((List.length v4) ≤ (List.length v4))) && (decide ((List.length v12) ≤ (List.length v12)))) then 
       some (Sum.inl ((List.take (List.length v4) v4), ((v5, (v6, (v7, (v8, (v9, (v10, (v11, ((List.take (List.length v12) v12), (v13, (v14, v15)))))))))), v16)))
      else none)
    else
     outO (bif ((decide ((List.length v4) ≤ (List.length v4))) && (decide ((List.length v12) ≤ (List.length v12)))) then 
      some (Sum.inl ((List.take (List.length v4) v4), ((v5, (v6, (v7, (v8, (v9, (v10, (v11, ((List.take (List.length v12) v12), (v13, (v14, v15)))))))))), v16)))
     else none)) ((0 : Int), (([] : List Int), (((0 : Int), ((0 : Int), ((0 : Int), (([] : List Int), (Bool.false, (Bool.false, ((0 : Int), (([] : List Int), ((0 : Int), (Bool.false, Bool.false)))))))))), (0 : Int))))) fun (v109, ((v110, (v111, (v112, (v113, (v114, (v115, (v116, (v117, (v118, (v119, v120)))))))))), v121)) =>
  bindO (provisional_Offer ((v110, (v111, (v112, (v113, (v114, v115))))), (200 : Int))) fun ((x123, (x124, (x125, (x126, (x127, x128))))), (x129, x130)) =>
  bif (decide (x130 ≠ (0 : Int))) then
   some Bool.false
  else
   joinO (bif (decide ((List.length v117) ≤ (List.length v117))) then 
     loopO (fun (v131, (v132, (v133, (v134, (v135, (v136, (v137, (v138, (v139, (v140, (v141, v142))))))))))) =>
      bif (decide (v131 < (((List.length x129) : Nat) : Int))) then
       bif (decide (((0 : Int) ≤ v131) ∧ (v131 < (((List.length x129) : Nat) : Int)))) then 
        bindO x129[(Int.toNat v131)]? fun x143 =>
        bif (decide (x143.1 = (1 : Int))) then
         bif (decide (((0 : Int) ≤ v131) ∧ (v131 < (((List.length x129) : Nat) : Int)))) then 
          bindO x129[(Int.toNat v131)]? fun x144 =>
          bindO (provisional_Accept (v138, x144.2.2.1)) fun (x146, x147) =>
          bif x147 then
           bif (decide (((0 : Int) ≤ v131) ∧ (v131 < (((List.length x129) : Nat) : Int)))) then 
            bindO x129[(Int.toNat v131)]? fun x148 =>
            bif (decide ((List.length v139) ≤ (List.length v139))) then 
             bif (decide (((List.length ((List.take (List.length v139) v139) ++ (x148.2.1 :: ([] : List Int)))) * 8) ≤ 140737488355328)) then 
              bindO (some ((List.take (List.length v139) v139) ++ (x148.2.1 :: ([] : List Int)))) fun x149 =>
              bif (decide ((List.length x149) ≤ (List.length x149))) then 
               some (Sum.inl ((Go.IntKind.wrap .i64 (v131 + (1 : Int))), (v132, (v133, (v134, (v135, (v136, (v137, (x146, ((List.take (List.length x149) x149), (v140, (v141, v142))))))))))))
              else none
             else none
            else none
           else none
          else
           bif (decide ((List.length v139) ≤ (List.length v139))) then 
            some (Sum.inl ((Go.IntKind.wrap .i64 (v131 + (1 : Int))), (v132, (v133, (v134, (v135, (v136, (v137, (v138, ((List.take (List.length v139) v139), (v140, (v141, v142))))))))))))
           else none
         else none
        else
         bif (decide (x143.1 = (2 : Int))) then
          bif (decide (((0 : Int) ≤ v131) ∧ (v131 < (((List.length x129) : Nat) : Int)))) then 
           bindO x129[(Int.toNat v131)]? fun x152 =>
           bif (decide ((List.length v139) ≤ (List.length v139))) then 
            some (Sum.inl ((Go.IntKind.wrap .i64 (v131 + (1 : Int))), (v132, (v133, (v134, (v135, (v136, (v137, (v138, ((List.take (List.length v139) v139), (x152.2.1, (v141, v142))))))))))))
           else none
          else none
         else
          bif (decide (x143.1 = (4 : Int))) then
           bif (decide ((List.length v139) ≤ (List.length v139))) then 
            some (Sum.inl ((Go.IntKind.wrap .i64 (v131 + (1 : Int))), (v132, (v133, (v134, (v135, (v136, (v137, (v138, ((List.take (List.length v139) v139), (v140, (v141, Bool.true))))))))))))
           else none
          else
           bif (decide ((List.length v139) ≤ (List.length v139))) then 
            some (Sum.inl ((Go.IntKind.wrap .i64 (v131 + (1 : Int))), (v132, (v133, (v134, (v135, (v136, (v137, (v138, ((List.take (List.length v139) v139), (v140, (v141, v142))))))))))))
           else none
       else none
      else
       outO (bif (decide ((List.length v139) ≤ (List.length v139))) then 
        some (Sum.inl (v132, (v133, (v134, (v135, (v136, (v137, (v138, ((List.take (List.length v139) v139), (v140, (v141, v142)))))))))))
       else none)) ((0 : Int), (x123, (x124, (x125, (x126, (x127, (x128, (v116, ((List.take (List.length v117) v117), (v118, (v119, v120)))))))))))
    else none) fun (v156, (v157, (v158, (v159, (v160, (v161, (v162, (v163, (v164, (v165, v166)))))))))) =>
   joinO (bif (decide ((List.length v163) ≤ (List.length v163))) then 
     loopO (fun (v167, (v168, (v169, ((v170, (v171, (v172, (v173, (v174, (v175, (v176, (v177, (v178, (v179, v180)))))))))), (v181, (v182, (v183, (v184, (v185, (v186, v187)))))))))) =>
      bif (decide (v167 < (200 : Int))) then
       bif (decide (v178 = (0 : Int))) then
        joinO (bif (decide (v167 < (100 : Int))) then
          bindO (some (Go.IntKind.wrap .i64 (v181 + (1 : Int)))) fun x188 =>
          bif (decide (x188 ≤ (((List.length a2) : Nat) : Int))) then
           bindO (some (Go.IntKind.wrap .i64 (x188 - (1 : Int)))) fun x189 =>
           bif (decide (((0 : Int) ≤ x189) ∧ (x189 < (((List.length a2) : Nat) : Int)))) then 
            bindO a2[(Int.toNat x189)]? fun x190 =>
            bif x190 then
             bindO (provisional_Fire ((v170, (v171, (v172, (v173, (v174, v175))))), (1 : Int))) fun ((x192, (x193, (x194, (x195, (x196, x197))))), (x198, x199)) =>
             some (Sum.inl (x199, (x198, ((x192, (x193, (x194, (x195, (x196, x197))))), x188))))
            else
             bif (decide (v176 ≠ v170)) then
              bindO (provisional_Fire ((v170, (v171, (v172, (v173, (v174, v175))))), (1 : Int))) fun ((x201, (x202, (x203, (x204, (x205, x206))))), (x207, x208)) =>
              some (Sum.inl (x208, (x207, ((x201, (x202, (x203, (x204, (x205, x206))))), x188))))
             else
              bindO (provisional_Ack ((v170, (v171, (v172, (v173, (v174, v175))))), v176)) fun ((x210, (x211, (x212, (x213, (x214, x215))))), (x216, x217)) =>
              some (Sum.inl (x217, (x216, ((x210, (x211, (x212, (x213, (x214, x215))))), x188))))
           else none
          else
           bif (decide (v176 ≠ v170)) then
            bindO (provisional_Fire ((v170, (v171, (v172, (v173, (v174, v175))))), (1 : Int))) fun ((x219, (x220, (x221, (x222, (x223, x224))))), (x225, x226)) =>
            some (Sum.inl (x226, (x225, ((x219, (x220, (x221, (x222, (x223, x224))))), x188))))
           else
            bindO (provisional_Ack ((v170, (v171, (v172, (v173, (v174, v175))))), v176)) fun ((x228, (x229, (x230, (x231, (x232, x233))))), (x234, x235)) =>
            some (Sum.inl (x235, (x234, ((x228, (x229, (x230, (x231, (x232, x233))))), x188))))
         else
          bif (decide (v176 ≠ v170)) then
           bindO (provisional_Fire ((v170, (v171, (v172, (v173, (v174, v175))))), (1 : Int))) fun ((x237, (x238, (x239, (x240, (x241, x242))))), (x243, x244)) =>
           some (Sum.inl (x244, (x243, ((x237, (x238, (x239, (x240, (x241, x242))))), v181))))
          else
           bindO (provisional_Ack ((v170, (v171, (v172, (v173, (v174, v175))))), v176)) fun ((x246, (x247, (x248, (x249, (x250, x251))))), (x252, x253)) =>
           some (Sum.inl (x253, (x252, ((x246, (x247, (x248, (x249, (x250, x251))))), v181))))) fun (v254, (v255, ((v256, (v257, (v258, (v259, (v260, v261))))), v262))) =>
        bif (decide (v254 ≠ (0 : Int))) then
         outO (outO (some Bool.false))
        else
         bindO (provisional_May (v256, (v257, (v258, (v259, (v260, v261)))))) fun x263 =>
         bif (!x263) then
          outO (outO (some Bool.false))
         else
          bif (decide (v167 < (100 : Int))) then
           bindO (some (Go.IntKind.wrap .i64 (v262 + (1 : Int)))) fun x264 =>
           bif (decide (x264 ≤ (((List.length a2) : Nat) : Int))) then
            bindO (some (Go.IntKind.wrap .i64 (x264 - (1 : Int)))) fun x265 =>
            bif (decide (((0 : Int) ≤ x265) ∧ (x265 < (((List.length a2) : Nat) : Int)))) then 
             bindO a2[(Int.toNat x265)]? fun x266 =>
             joinO (bif (decide ((List.length v177) ≤ (List.length v177))) then 
               loopO (fun (v267, (v268, (v269, (v270, (v271, (v272, (v273, (v274, (v275, (v276, (v277, v278))))))))))) =>
                bif (decide (v267 < (((List.length v255) : Nat) : Int))) then
                 bif (decide (((0 : Int) ≤ v267) ∧ (v267 < (((List.length v255) : Nat) : Int)))) then 
                  bindO v255[(Int.toNat v267)]? fun x279 =>
                  bif (decide (x279.1 = (1 : Int))) then
                   bif x266 then
                    bif (decide ((List.length v275) ≤ (List.length v275))) then 
                     some (Sum.inl ((Go.IntKind.wrap .i64 (v267 + (1 : Int))), (v268, (v269, (v270, (v271, (v272, (v273, (v274, ((List.take (List.length v275) v275), (v276, (v277, v278))))))))))))
                    else none
                   else
                    bif (decide (((0 : Int) ≤ v267) ∧ (v267 < (((List.length v255) : Nat) : Int)))) then 
                     bindO v255[(Int.toNat v267)]? fun x281 =>
                     bindO (provisional_Accept (v274, x281.2.2.1)) fun (x283, x284) =>
                     bif x284 then
                      bif (decide (((0 : Int) ≤ v267) ∧ (v267 < (((List.length v255) : Nat) : Int)))) then 
                       bindO v255[(Int.toNat v267)]? fun x285 =>
                       bif (decide ((List.length v275) ≤ (List.length v275))) then 
                        bif (decide (((List.length ((List.take (List.length v275) v275) ++ (x285.2.1 :: ([] : List Int)))) * 8) ≤ 140737488355328)) then 
                         bindO (some ((List.take (List.length v275) v275) ++ (x285.2.1 :: ([] : List Int)))) fun x286 =>
                         bif (decide ((List.length x286) ≤ (List.length x286))) then 
                          some (Sum.inl ((Go.IntKind.wrap .i64 (v267 + (1 : Int))), (v268, (v269, (v270, (v271, (v272, (v273, (x283, ((List.take (List.length x286) x286), (v276, (v277, v278))))))))))))
                         else none
                        else none
                       else none
                      else none
                     else
                      bif (decide ((List.length v275) ≤ (List.length v275))) then 
                       some (Sum.inl ((Go.IntKind.wrap .i64 (v267 + (1 : Int))), (v268, (v269, (v270, (v271, (v272, (v273, (v274, ((List.take (List.length v275) v275), (v276, (v277, v278))))))))))))
                      else none
                    else none
                  else
                   bif (decide (x279.1 = (2 : Int))) then
                    bif (decide (((0 : Int) ≤ v267) ∧ (v267 < (((List.length v255) : Nat) : Int)))) then 
                     bindO v255[(Int.toNat v267)]? fun x289 =>
                     bif (decide ((List.length v275) ≤ (List.length v275))) then 
                      some (Sum.inl ((Go.IntKind.wrap .i64 (v267 + (1 : Int))), (v268, (v269, (v270, (v271, (v272, (v273, (v274, ((List.take (List.length v275) v275), (x289.2.1, (v277, v278))))))))))))
                     else none
                    else none
                   else
                    bif (decide (x279.1 = (4 : Int))) then
                     bif (decide ((List.length v275) ≤ (List.length v275))) then 
                      some (Sum.inl ((Go.IntKind.wrap .i64 (v267 + (1 : Int))), (v268, (v269, (v270, (v271, (v272, (v273, (v274, ((List.take (List.length v275) v275), (v276, (v277, Bool.true))))))))))))
                     else none
                    else
                     bif (decide ((List.length v275) ≤ (List.length v275))) then 
                      some (Sum.inl ((Go.IntKind.wrap .i64 (v267 + (1 : Int))), (v268, (v269, (v270, (v271, (v272, (v273, (v274, ((List.take (List.length v275) v275), (v276, (v277, v278))))))))))))
                     else none
                 else none
                else
                 outO (bif (decide ((List.length v275) ≤ (List.length v275))) then 
                  some (Sum.inl (v268, (v269, (v270, (v271, (v272, (v273, (v274, ((List.take (List.length v275) v275), (v276, (v277, v278)))))))))))
                 else none)) ((0 : Int), (v256, (v257, (v258, (v259, (v260, (v261, (v176, ((List.take (List.length v177) v177), (v178, (v179, v180)))))))))))
              else none) fun (v293, (v294, (v295, (v296, (v297, (v298, (v299, (v300, (v301, (v302, v303)))))))))) =>
             bif v302 then
              bif (decide ((List.length v300) ≤ (List.length v300))) then 
               some (Sum.inl ((Go.IntKind.wrap .i64 (v167 + (1 : Int))), (v254, (v255, ((v293, (v294, (v295, (v296, (v297, (v298, (v299, ((List.take (List.length v300) v300), (v301, (Bool.true, v303)))))))))), (x264, (v256, (v257, (v258, (v259, (v260, v261)))))))))))
              else none
             else
              bif (decide (v301 ≠ (0 : Int))) then
               bif (decide ((List.length v300) ≤ (List.length v300))) then 
                some (Sum.inl ((Go.IntKind.wrap .i64 (v167 + (1 : Int))), (v254, (v255, ((v293, (v294, (v295, (v296, (v297, (v298, (v299, ((List.take (List.length v300) v300), (v301, ((decide ((((List.length v300) : Nat) : Int) < (((List.length v109) : Nat) : Int))), v303)))))))))), (x264, (v256, (v257, (v258, (v259, (v260, v261)))))))))))
               else none
              else
               bif (decide ((List.length v300) ≤ (List.length v300))) then 
                some (Sum.inl ((Go.IntKind.wrap .i64 (v167 + (1 : Int))), (v254, (v255, ((v293, (v294, (v295, (v296, (v297, (v298, (v299, ((List.take (List.length v300) v300), (v301, (Bool.false, v303)))))))))), (x264, (v256, (v257, (v258, (v259, (v260, v261)))))))))))
               else none
            else none
           else
            joinO (bif (decide ((List.length v177) ≤ (List.length v177))) then 
              loopO (fun (v307, (v308, (v309, (v310, (v311, (v312, (v313, (v314, (v315, (v316, (v317, v318))))))))))) =>
               bif (decide (v307 < (((List.length v255) : Nat) : Int))) then
                bif (decide (((0 : Int) ≤ v307) ∧ (v307 < (((List.length v255) : Nat) : Int)))) then 
                 bindO v255[(Int.toNat v307)]? fun x319 =>
                 bif (decide (x319.1 = (1 : Int))) then
                  bif (decide (((0 : Int) ≤ v307) ∧ (v307 < (((List.length v255) : Nat) : Int)))) then 
                   bindO v255[(Int.toNat v307)]? fun x320 =>
                   bindO (provisional_Accept (v314, x320.2.2.1)) fun (x322, x323) =>
                   bif x323 then
                    bif (decide (((0 : Int) ≤ v307) ∧ (v307 < (((List.length v255) : Nat) : Int)))) then 
                     bindO v255[(Int.toNat v307)]? fun x324 =>
                     bif (decide ((List.length v315) ≤ (List.length v315))) then 
                      bif (decide (((List.length ((List.take (List.length v315) v315) ++ (x324.2.1 :: ([] : List Int)))) * 8) ≤ 140737488355328)) then 
                       bindO (some ((List.take (List.length v315) v315) ++ (x324.2.1 :: ([] : List Int)))) fun x325 =>
                       bif (decide ((List.length x325) ≤ (List.length x325))) then 
                        some (Sum.inl ((Go.IntKind.wrap .i64 (v307 + (1 : Int))), (v308, (v309, (v310, (v311, (v312, (v313, (x322, ((List.take (List.length x325) x325), (v316, (v317, v318))))))))))))
                       else none
                      else none
                     else none
                    else none
                   else
                    bif (decide ((List.length v315) ≤ (List.length v315))) then 
                     some (Sum.inl ((Go.IntKind.wrap .i64 (v307 + (1 : Int))), (v308, (v309, (v310, (v311, (v312, (v313, (v314, ((List.take (List.length v315) v315), (v316, (v317, v318))))))))))))
                    else none
                  else none
                 else
                  bif (decide (x319.1 = (2 : Int))) then
                   bif (decide (((0 : Int) ≤ v307) ∧ (v307 < (((List.length v255) : Nat) : Int)))) then 
                    bindO v255[(Int.toNat v307)]? fun x328 =>
                    bif (decide ((List.length v315) ≤ (List.length v315))) then 
                     some (Sum.inl ((Go.IntKind.wrap .i64 (v307 + (1 : Int))), (v308, (v309, (v310, (v311, (v312, (v313, (v314, ((List.take (List.length v315) v315), (x328.2.1, (v317, v318))))))))))))
                    else none
                   else none
                  else
                   bif (decide (x319.1 = (4 : Int))) then
                    bif (decide ((List.length v315) ≤ (List.length v315))) then 
                     some (Sum.inl ((Go.IntKind.wrap .i64 (v307 + (1 : Int))), (v308, (v309, (v310, (v311, (v312, (v313, (v314, ((List.take (List.length v315) v315), (v316, (v317, Bool.true))))))))))))
                    else none
                   else
                    bif (decide ((List.length v315) ≤ (List.length v315))) then 
                     some (Sum.inl ((Go.IntKind.wrap .i64 (v307 + (1 : Int))), (v308, (v309, (v310, (v311, (v312, (v313, (v314, ((List.take (List.length v315) v315), (v316, (v317, v318))))))))))))
                    else none
                else none
               else
                outO (bif (decide ((List.length v315) ≤ (List.length v315))) then 
                 some (Sum.inl (v308, (v309, (v310, (v311, (v312, (v313, (v314, ((List.take (List.length v315) v315), (v316, (v317, v318)))))))))))
                else none)) ((0 : Int), (v256, (v257, (v258, (v259, (v260, (v261, (v176, ((List.take (List.length v177) v177), (v178, (v179, v180)))))))))))
             else none) fun (v332, (v333, (v334, (v335, (v336, (v337, (v338, (v339, (v340, (v341, v342)))))))))) =>
            bif v341 then
             bif (decide ((List.length v339) ≤ (List.length v339))) then 
              some (Sum.inl ((Go.IntKind.wrap .i64 (v167 + (1 : Int))), (v254, (v255, ((v332, (v333, (v334, (v335, (v336, (v337, (v338, ((List.take (List.length v339) v339), (v340, (Bool.true, v342)))))))))), (x264, (v256, (v257, (v258, (v259, (v260, v261)))))))))))
             else none
            else
             bif (decide (v340 ≠ (0 : Int))) then
              bif (decide ((List.length v339) ≤ (List.length v339))) then 
               some (Sum.inl ((Go.IntKind.wrap .i64 (v167 + (1 : Int))), (v254, (v255, ((v332, (v333, (v334, (v335, (v336, (v337, (v338, ((List.take (List.length v339) v339), (v340, ((decide ((((List.length v339) : Nat) : Int) < (((List.length v109) : Nat) : Int))), v342)))))))))), (x264, (v256, (v257, (v258, (v259, (v260, v261)))))))))))
              else none
             else
              bif (decide ((List.length v339) ≤ (List.length v339))) then 
               some (Sum.inl ((Go.IntKind.wrap .i64 (v167 + (1 : Int))), (v254, (v255, ((v332, (v333, (v334, (v335, (v336, (v337, (v338, ((List.take (List.length v339) v339), (v340, (Bool.false, v342)))))))))), (x264, (v256, (v257, (v258, (v259, (v260, v261)))))))))))
              else none
          else
           joinO (bif (decide ((List.length v177) ≤ (List.length v177))) then 
             loopO (fun (v346, (v347, (v348, (v349, (v350, (v351, (v352, (v353, (v354, (v355, (v356, v357))))))))))) =>
              bif (decide (v346 < (((List.length v255) : Nat) : Int))) then
               bif (decide (((0 : Int) ≤ v346) ∧ (v346 < (((List.length v255) : Nat) : Int)))) then 
                bindO v255[(Int.toNat v346)]? fun x358 =>
                bif (decide (x358.1 = (1 : Int))) then
                 bif (decide (((0 : Int) ≤ v346) ∧ (v346 < (((List.length v255) : Nat) : Int)))) then 
                  bindO v255[(Int.toNat v346)]? fun x359 =>
                  bindO (provisional_Accept (v353, x359.2.2.1)) fun (x361, x362) =>
                  bif x362 then
                   bif (decide (((0 : Int) ≤ v346) ∧ (v346 < (((List.length v255) : Nat) : Int)))) then 
                    bindO v255[(Int.toNat v346)]? fun x363 =>
                    bif (decide ((List.length v354) ≤ (List.length v354))) then 
                     bif (decide (((List.length ((List.take (List.length v354) v354) ++ (x363.2.1 :: ([] : List Int)))) * 8) ≤ 140737488355328)) then 
                      bindO (some ((List.take (List.length v354) v354) ++ (x363.2.1 :: ([] : List Int)))) fun x364 =>
                      bif (decide ((List.length x364) ≤ (List.length x364))) then 
                       some (Sum.inl ((Go.IntKind.wrap .i64 (v346 + (1 : Int))), (v347, (v348, (v349, (v350, (v351, (v352, (x361, ((List.take (List.length x364) x364), (v355, (v356, v357))))))))))))
                      else none
                     else none
                    else none
                   else none
                  else
                   bif (decide ((List.length v354) ≤ (List.length v354))) then 
                    some (Sum.inl ((Go.IntKind.wrap .i64 (v346 + (1 : Int))), (v347, (v348, (v349, (v350, (v351, (v352, (v353, ((List.take (List.length v354) v354), (v355, (v356, v357))))))))))))
                   else none
                 else none
                else
                 bif (decide (x358.1 = (2 : Int))) then
                  bif (decide (((0 : Int) ≤ v346) ∧ (v346 < (((List.length v255) : Nat) : Int)))) then 
                   bindO v255[(Int.toNat v346)]? fun x367 =>
                   bif (decide ((List.length v354) ≤ (List.length v354))) then 
                    some (Sum.inl ((Go.IntKind.wrap .i64 (v346 + (1 : Int))), (v347, (v348, (v349, (v350, (v351, (v352, (v353, ((List.take (List.length v354) v354), (x367.2.1, (v356, v357))))))))))))
                   else none
                  else none
                 else
                  bif (decide (x358.1 = (4 : Int))) then
                   bif (decide ((List.length v354) ≤ (List.length v354))) then 
                    some (Sum.inl ((Go.IntKind.wrap .i64 (v346 + (1 : Int))), (v347, (v348, (v349, (v350, (v351, (v352, (v353, ((List.take (List.length v354) v354), (v355, (v356, Bool.true))))))))))))
                   else none
                  else
                   bif (decide ((List.length v354) ≤ (List.length v354))) then 
                    some (Sum.inl ((Go.IntKind.wrap .i64 (v346 + (1 : Int))), (v347, (v348, (v349, (v350, (v351, (v352, (v353, ((List.take (List.length v354) v354), (v355, (v356, v357))))))))))))
                   else none
               else none
              else
               outO (bif (decide ((List.length v354) ≤ (List.length v354))) then 
                some (Sum.inl (v347, (v348, (v349, (v350, (v351, (v352, (v353, ((List.take (List.length v354) v354), (v355, (v356, v357)))))))))))
               else none)) ((0 : Int), (v256, (v257, (v258, (v259, (v260, (v261, (v176, ((List.take (List.length v177) v177), (v178, (v179, v180)))))))))))
            else none) fun (v371, (v372, (v373, (v374, (v375, (v376, (v377, (v378, (v379, (v380, v381)))))))))) =>
           bif v380 then
            bif (decide ((List.length v378) ≤ (List.length v378))) then 
             some (Sum.inl ((Go.IntKind.wrap .i64 (v167 + (1 : Int))), (v254, (v255, ((v371, (v372, (v373, (v374, (v375, (v376, (v377, ((List.take (List.length v378) v378), (v379, (Bool.true, v381)))))))))), (v262, (v256, (v257, (v258, (v259, (v260, v261)))))))))))
            else none
           else
            bif (decide (v379 ≠ (0 : Int))) then
             bif (decide ((List.length v378) ≤ (List.length v378))) then 
              some (Sum.inl ((Go.IntKind.wrap .i64 (v167 + (1 : Int))), (v254, (v255, ((v371, (v372, (v373, (v374, (v375, (v376, (v377, ((List.take (List.length v378) v378), (v379, ((decide ((((List.length v378) : Nat) : Int) < (((List.length v109) : Nat) : Int))), v381)))))))))), (v262, (v256, (v257, (v258, (v259, (v260, v261)))))))))))
             else none
            else
             bif (decide ((List.length v378) ≤ (List.length v378))) then 
              some (Sum.inl ((Go.IntKind.wrap .i64 (v167 + (1 : Int))), (v254, (v255, ((v371, (v372, (v373, (v374, (v375, (v376, (v377, ((List.take (List.length v378) v378), (v379, (Bool.false, v381)))))))))), (v262, (v256, (v257, (v258, (v259, (v260, v261)))))))))))
             else none
       else
        outO (bif (decide ((List.length v177) ≤ (List.length v177))) then 
         some (Sum.inl (v168, (v169, ((v170, (v171, (v172, (v173, (v174, (v175, (v176, ((List.take (List.length v177) v177), (v178, (v179, v180)))))))))), (v181, (v182, (v183, (v184, (v185, (v186, v187))))))))))
        else none)
      else
       outO (bif (decide ((List.length v177) ≤ (List.length v177))) then 
        some (Sum.inl (v168, (v169, ((v170, (v171, (v172, (v173, (v174, (v175, (v176, ((List.take (List.length v177) v177), (v178, (v179, v180)))))))))), (v181, (v182, (v183, (v184, (v185, (v186, v187))))))))))
       else none)) ((0 : Int), (x130, (x129, ((v156, (v157, (v158, (v159, (v160, (v161, (v162, ((List.take (List.length v163) v163), (v164, (v165, v166)))))))))), (v121, (x123, (x124, (x125, (x126, (x127, x128))))))))))
    else none) fun (v385, (v386, ((v387, (v388, (v389, (v390, (v391, (v392, (v393, (v394, (v395, (v396, v397)))))))))), (v398, (v399, (v400, (v401, (v402, (v403, v404))))))))) =>
   bif (decide (v395 ≠ (200 : Int))) then
    some Bool.false
   else
    bif v396 then
     some Bool.false
    else
     bif v397 then
      some Bool.false
     else
      bif (decide ((((List.length v394) : Nat) : Int) ≠ (((List.length v109) : Nat) : Int))) then
       some Bool.false
      else
       joinO (loopO (fun v405 =>
         bif (decide (v405 < (((List.length v109) : Nat) : Int))) then
          bif (decide (((0 : Int) ≤ v405) ∧ (v405 < (((List.length v394) : Nat) : Int)))) then 
           bindO v394[(Int.toNat v405)]? fun x406 =>
           bif (decide (((0 : Int) ≤ v405) ∧ (v405 < (((List.length v109) : Nat) : Int)))) then 
            bindO v109[(Int.toNat v405)]? fun x407 =>
            bif (decide (x406 ≠ x407)) then
             outO (outO (some Bool.false))
            else
             some (Sum.inl (Go.IntKind.wrap .i64 (v405 + (1 : Int))))
           else none
          else none
         else
          outO (some (Sum.inl ()))) (0 : Int)) fun _ =>
       some Bool.true
noncomputable def cons5 : List (Nat × CE) := [(39, ⟨[.tmp 0 false [.dat (.list (.int .i64))]], [.tmp 0 false [.own 1 3 (.int .i64)]], cloneG⟩), (37, ⟨[(.tmp 0 false [(.dat (.list (.int .i64)))]), (.tmp 1 false [(.dat (.list (.int .i64)))])], [(.tmp 0 false [(.dat .bool)])], slices_Equal___int_int⟩), (30, ⟨[(.tmp 0 false [(.dat (.int .i64))])], [(.tmp 0 false [(.dat .bool)])], provisional_isProvisional⟩), (31, ⟨[(.tmp 0 false [(.dat (.int .i64))])], [(.tmp 0 false [(.dat .bool)])], provisional_isAccepting⟩), (34, ⟨[(.tmp 0 false [(.dat (.int .i64))])], [(.tmp 0 false [(.dat .bool)])], provisional_mayWait⟩), (14, ⟨[(.tmp 0 true [(.dat (.int .i64)), (.dat (.int .i64)), (.dat (.int .i64)), (.dat (.list (.int .i64))), (.dat .bool), (.dat .bool)])], [(.tmp 0 false [(.dat .bool)])], provisional_May⟩), (33, ⟨[(.tmp 0 false [(.dat (.int .i64))]), (.tmp 1 false [(.dat (.int .i64))])], [(.tmp 0 true [(.dat (.int .u8)), (.dat (.int .i64)), (.dat (.int .i64)), (.dat (.int .i64)), (.dat (.int .i64))])], provisional_timer⟩), (20, ⟨[(.tmp 0 true [(.dat (.int .i64)), (.dat (.int .i64)), (.dat (.int .i64)), (.dat (.list (.int .i64))), (.dat .bool), (.dat .bool)]), (.tmp 1 true [(.dat (.int .i64)), (.dat (.int .i64)), (.dat (.int .i64)), (.dat (.list (.int .i64))), (.dat .bool), (.dat .bool)])], [(.tmp 0 false [(.dat .bool)])], provisional_Same⟩), (11, ⟨[(.tmp 0 true [(.dat (.int .i64)), (.dat (.int .i64)), (.dat (.int .i64)), (.dat (.list (.int .i64))), (.dat .bool), (.dat .bool)]), (.tmp 1 false [(.dat (.int .i64))])], [(.tmp 0 true [(.dat (.int .i64)), (.dat (.int .i64)), (.dat (.int .i64)), (.dat (.list (.int .i64))), (.dat .bool), (.dat .bool)]), (.tmp 1 false [(.dat (.list (.pair (.int .u8) (.pair (.int .i64) (.pair (.int .i64) (.pair (.int .i64) (.int .i64)))))))]), (.tmp 2 false [(.dat (.int .u8))])], provisional_Offer⟩), (12, ⟨[(.tmp 0 true [(.dat (.int .i64)), (.dat (.int .i64)), (.dat (.int .i64)), (.dat (.list (.int .i64))), (.dat .bool), (.dat .bool)]), (.tmp 1 false [(.dat (.int .i64))])], [(.tmp 0 true [(.dat (.int .i64)), (.dat (.int .i64)), (.dat (.int .i64)), (.dat (.list (.int .i64))), (.dat .bool), (.dat .bool)]), (.tmp 1 false [(.dat (.list (.pair (.int .u8) (.pair (.int .i64) (.pair (.int .i64) (.pair (.int .i64) (.int .i64)))))))]), (.tmp 2 false [(.dat (.int .u8))])], provisional_Ack⟩), (13, ⟨[(.tmp 0 true [(.dat (.int .i64)), (.dat (.int .i64)), (.dat (.int .i64)), (.dat (.list (.int .i64))), (.dat .bool), (.dat .bool)]), (.tmp 1 false [(.dat (.int .i64))])], [(.tmp 0 true [(.dat (.int .i64)), (.dat (.int .i64)), (.dat (.int .i64)), (.dat (.list (.int .i64))), (.dat .bool), (.dat .bool)]), (.tmp 1 false [(.dat (.list (.pair (.int .u8) (.pair (.int .i64) (.pair (.int .i64) (.pair (.int .i64) (.int .i64)))))))]), (.tmp 2 false [(.dat (.int .u8))])], provisional_Fire⟩), (35, ⟨[(.tmp 0 false [(.dat (.int .i64))]), (.tmp 1 false [(.dat (.int .i64))]), (.tmp 2 false [(.dat (.int .i64))])], [(.tmp 0 false [(.dat .bool)])], dialtoneref12_From⟩), (36, ⟨[(.tmp 0 false [(.dat (.int .i64))])], [(.tmp 0 false [(.dat .bool)])], dialtoneref18_wait⟩), (19, ⟨[(.tmp 0 true [(.dat (.int .i64)), (.dat (.int .i64)), (.dat (.int .i64)), (.dat (.list (.int .i64))), (.dat .bool), (.dat .bool)])], [(.tmp 0 false [(.dat .bool)])], dialtoneref18_May⟩), (21, ⟨[(.tmp 0 true [(.dat (.int .i64)), (.dat (.int .i64)), (.dat (.int .i64)), (.dat (.list (.int .i64))), (.dat .bool), (.dat .bool)]), (.tmp 1 true [(.dat (.int .i64)), (.dat (.int .i64)), (.dat (.int .i64)), (.dat (.list (.int .i64))), (.dat .bool), (.dat .bool)])], [(.tmp 0 false [(.dat .bool)])], dialtoneref18_Same⟩), (38, ⟨[(.tmp 0 true [(.dat (.int .i64)), (.dat (.int .i64)), (.dat (.int .i64)), (.dat (.list (.int .i64))), (.dat .bool), (.dat .bool)])], [(.tmp 0 true [(.dat (.int .i64)), (.dat (.int .i64)), (.dat (.int .i64)), (.dat (.list (.int .i64))), (.dat .bool), (.dat .bool)]), (.tmp 1 false [(.dat (.list (.pair (.int .u8) (.pair (.int .i64) (.pair (.int .i64) (.pair (.int .i64) (.int .i64)))))))])], dialtoneref18_next⟩), (22, ⟨[(.tmp 0 true [(.dat (.int .i64)), (.dat (.int .i64)), (.dat (.int .i64)), (.dat (.list (.int .i64))), (.dat .bool), (.dat .bool)]), (.tmp 1 false [(.dat (.int .i64))])], [(.tmp 0 true [(.dat (.int .i64)), (.dat (.int .i64)), (.dat (.int .i64)), (.dat (.list (.int .i64))), (.dat .bool), (.dat .bool)]), (.tmp 1 false [(.dat (.list (.pair (.int .u8) (.pair (.int .i64) (.pair (.int .i64) (.pair (.int .i64) (.int .i64)))))))]), (.tmp 2 false [(.dat (.int .u8))])], dialtoneref18_Offer⟩), (24, ⟨[(.tmp 0 true [(.dat (.int .i64)), (.dat (.int .i64)), (.dat (.int .i64)), (.dat (.list (.int .i64))), (.dat .bool), (.dat .bool)]), (.tmp 1 false [(.dat (.int .i64))])], [(.tmp 0 true [(.dat (.int .i64)), (.dat (.int .i64)), (.dat (.int .i64)), (.dat (.list (.int .i64))), (.dat .bool), (.dat .bool)]), (.tmp 1 false [(.dat (.list (.pair (.int .u8) (.pair (.int .i64) (.pair (.int .i64) (.pair (.int .i64) (.int .i64)))))))]), (.tmp 2 false [(.dat (.int .u8))])], dialtoneref18_Ack⟩), (25, ⟨[(.tmp 0 true [(.dat (.int .i64)), (.dat (.int .i64)), (.dat (.int .i64)), (.dat (.list (.int .i64))), (.dat .bool), (.dat .bool)]), (.tmp 1 false [(.dat (.int .i64))])], [(.tmp 0 true [(.dat (.int .i64)), (.dat (.int .i64)), (.dat (.int .i64)), (.dat (.list (.int .i64))), (.dat .bool), (.dat .bool)]), (.tmp 1 false [(.dat (.list (.pair (.int .u8) (.pair (.int .i64) (.pair (.int .i64) (.pair (.int .i64) (.int .i64)))))))]), (.tmp 2 false [(.dat (.int .u8))])], dialtoneref18_Fire⟩), (23, ⟨[(.tmp 0 false [(.dat (.list (.pair (.int .u8) (.pair (.int .i64) (.pair (.int .i64) (.pair (.int .i64) (.int .i64)))))))]), (.tmp 1 false [(.dat (.list (.pair (.int .u8) (.pair (.int .i64) (.pair (.int .i64) (.pair (.int .i64) (.int .i64)))))))])], [(.tmp 0 false [(.dat .bool)])], dialtoneref18_Outs⟩), (18, ⟨[(.tmp 0 true [(.dat (.int .i64)), (.dat (.int .i64)), (.dat (.int .i64)), (.dat (.list (.int .i64))), (.dat .bool), (.dat .bool)])], [(.tmp 0 true [(.dat (.int .i64)), (.dat (.int .i64)), (.dat (.int .i64)), (.dat (.list (.int .i64))), (.dat .bool), (.dat .bool)])], dialtonelaw18_copied⟩), (8, ⟨[(.tmp 0 false [(.dat (.int .i64))]), (.tmp 1 false [(.dat (.int .i64))])], [(.tmp 0 false [(.dat (.int .i64))]), (.tmp 1 false [(.dat .bool)])], provisional_Accept⟩), (10, ⟨[], riB, (fun _ => some true)⟩), (7, ⟨[(.tmp 0 true [(.dat (.int .i64)), (.dat (.int .i64)), (.dat (.int .i64)), (.dat (.list (.int .i64))), (.dat .bool), (.dat .bool)]), (.tmp 1 true [(.dat (.int .i64)), (.dat (.int .i64)), (.dat (.int .i64)), (.dat (.list (.int .i64))), (.dat .bool), (.dat .bool)]), (.tmp 2 false [(.dat (.int .i64))])], [(.tmp 0 false [(.dat .bool)])], dialtonelaw18_ProvisionalSteps⟩), (4, ⟨[(.tmp 0 false [(.dat (.list (.int .u8)))])], [(.tmp 0 false [(.dat .bool)])], dialtonelaw18_ProvisionalNumbers⟩)]
theorem cons5_ok : ConL Try.prog cons5 := ⟨clone_con, con37, con30, con31, con34, con14, con33, con20, con11, con12, con13, con35, con36, con19, con21, con38, con22, con24, con25, con23, con18, con8, con_true (by kernel_rfl) works_o, con7, con4, trivial⟩
theorem con5 : ConOk Try.prog 5 ⟨[(.tmp 0 false [(.dat (.list (.int .u8)))]), (.tmp 1 false [(.dat (.list .bool))])], [(.tmp 0 false [(.dat .bool)])], dialtonelaw18_ProvisionalOrder⟩ :=
  tree_ok (plan := planOf plan5) (eg := egNo) KK tabL_ok (conOf_ok cons5_ok) Try.func5 (by kernel_rfl) (by kernel_rfl) 10000 (fun a r h => Eq.trans (show _ = dialtonelaw18_ProvisionalOrder a from by kernel_rfl) h)
end Go.Proofs.Ytonejiaiieiboaa
