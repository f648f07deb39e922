/- Trees of functions, printed by the executor. -/
import Derived.Test.YtbckoncbimljeaaF
import Derived.Test.YtbckoncbimljeaaXB
set_option linter.unusedVariables false
set_option maxRecDepth 1000000
set_option maxHeartbeats 0
namespace Go.Proofs.Ytbckoncbimljeaa
open Go.RowKit
/-! ### dialtone/dialtoneref37.Band -/
def plan39 : List (Nat × PL) := []
noncomputable def dialtoneref37_Band : (Int × (Int × Int)) → Option Bool := fun (a1, (a2, a3)) =>
  bif (decide (a1 ≥ (1 : Int))) then
   bif (decide (a1 ≤ (127 : Int))) then
    bif (decide ((0 : Int) ≤ a2)) then
     bif (decide (a2 < a3)) then
      some (decide (a3 ≤ (1440 : Int)))
     else
      some Bool.false
    else
     some Bool.false
   else
    some Bool.false
  else
   some Bool.false
noncomputable def cons39 : List (Nat × CE) := []
theorem cons39_ok : ConL Try.prog cons39 := trivial
theorem con39 : ConOk Try.prog 39 ⟨[(.tmp 0 true [(.dat (.int .u8)), (.dat (.int .i64)), (.dat (.int .i64))])], [(.tmp 0 false [(.dat .bool)])], dialtoneref37_Band⟩ :=
  tree_ok (plan := planOf plan39) (eg := egNo) KK tabL_ok (conOf_ok cons39_ok) Try.func39 (by kernel_rfl) (by kernel_rfl) 10000 (fun a r h => Eq.trans (show _ = dialtoneref37_Band a from by kernel_rfl) h)
/-! ### dialtone/dialtoneref37.money -/
def plan38 : List (Nat × PL) := []
noncomputable def dialtoneref37_money : Int → Option Bool := fun a1 =>
  bif (decide (a1 ≥ (0 : Int))) then
   some (decide (a1 ≤ (1000000000 : Int)))
  else
   some Bool.false
noncomputable def cons38 : List (Nat × CE) := [(39, ⟨[(.tmp 0 true [(.dat (.int .u8)), (.dat (.int .i64)), (.dat (.int .i64))])], [(.tmp 0 false [(.dat .bool)])], dialtoneref37_Band⟩)]
theorem cons38_ok : ConL Try.prog cons38 := ⟨con39, trivial⟩
theorem con38 : ConOk Try.prog 38 ⟨[(.tmp 0 false [(.dat (.int .i64))])], [(.tmp 0 false [(.dat .bool)])], dialtoneref37_money⟩ :=
  tree_ok (plan := planOf plan38) (eg := egNo) KK tabL_ok (conOf_ok cons38_ok) Try.func38 (by kernel_rfl) (by kernel_rfl) 10000 (fun a r h => Eq.trans (show _ = dialtoneref37_money a from by kernel_rfl) h)
/-! ### dialtone/dialtoneref37.Rate -/
def plan30 : List (Nat × PL) := [(262657, (.carry [])), (134480385, (.carry [])), (18049651601311750, (.carry [.tmp 3 false [(.dat (.int .i64))]])), (35253226045953, (.carry [])), (4731607904558101301254, (.carry [.tmp 4 false [(.dat (.int .i64))]]))]
noncomputable def dialtoneref37_Rate : ((List UInt8) × (Int × (Int × (Int × (List ((Int × (Int × Int)) × (Int × Int))))))) → Option Bool := fun (a1, (a2, (a3, (a4, a5)))) =>
  joinO (bif (decide ((((List.length a1) : Nat) : Int) > (20 : Int))) then
    outO (some Bool.false)
   else
    bindO (dialtoneref37_money a2) fun x6 =>
    bif (!x6) then
     outO (some Bool.false)
    else
     bif (decide (a3 < (1 : Int))) then
      outO (some Bool.false)
     else
      bif (decide (a3 > (3600 : Int))) then
       outO (some Bool.false)
      else
       bif (decide (a4 < (1 : Int))) then
        outO (some Bool.false)
       else
        bif (decide (a4 > (3600 : Int))) then
         outO (some Bool.false)
        else
         some (Sum.inl ())) fun _ =>
  joinO (loopO (fun v7 =>
    bif (decide (v7 < (((List.length a1) : Nat) : Int))) then
     bif (decide (((0 : Int) ≤ v7) ∧ (v7 < (((List.length a1) : Nat) : Int)))) then 
      bif (decide ((((UInt8.toNat (List.getD a1 (Int.toNat v7) (0 : UInt8))) : Nat) : Int) < (48 : Int))) then
       outO (outO (some Bool.false))
      else
       bif (decide (((0 : Int) ≤ v7) ∧ (v7 < (((List.length a1) : Nat) : Int)))) then 
        bif (decide ((((UInt8.toNat (List.getD a1 (Int.toNat v7) (0 : UInt8))) : Nat) : Int) > (57 : Int))) then
         outO (outO (some Bool.false))
        else
         some (Sum.inl (Go.IntKind.wrap .i64 (v7 + (1 : Int))))
       else none
     else none
    else
     outO (some (Sum.inl ()))) (0 : Int)) fun _ =>
  bif (decide ((((List.length a5) : Nat) : Int) < (1 : Int))) then
   some Bool.false
  else
   bif (decide ((((List.length a5) : Nat) : Int) > (20 : Int))) then
    some Bool.false
   else
    joinO (loopO (fun v9 =>
      bif (decide (v9 < (((List.length a5) : Nat) : Int))) then
       bif (decide (((0 : Int) ≤ v9) ∧ (v9 < (((List.length a5) : Nat) : Int)))) then 
        bindO a5[(Int.toNat v9)]? fun x10 =>
        bindO (dialtoneref37_Band (x10.1.1, (x10.1.2.1, x10.1.2.2))) fun x11 =>
        bif (!x11) then
         outO (outO (some Bool.false))
        else
         bindO (dialtoneref37_money x10.2.1) fun x12 =>
         bif (!x12) then
          outO (outO (some Bool.false))
         else
          bindO (dialtoneref37_money x10.2.2) fun x13 =>
          bif (!x13) then
           outO (outO (some Bool.false))
          else
           some (Sum.inl (Go.IntKind.wrap .i64 (v9 + (1 : Int))))
       else none
      else
       outO (some (Sum.inl ()))) (0 : Int)) fun _ =>
    bindO (some (Go.IntKind.wrap .i64 ((((List.length a5) : Nat) : Int) - (1 : Int)))) fun x15 =>
    bif (decide (((0 : Int) ≤ x15) ∧ (x15 < (((List.length a5) : Nat) : Int)))) then 
     bindO a5[(Int.toNat x15)]? fun x16 =>
     bif (decide (x16.1.1 = (127 : Int))) then
      bif (decide (x16.1.2.1 = (0 : Int))) then
       some (decide (x16.1.2.2 = (1440 : Int)))
      else
       some Bool.false
     else
      some Bool.false
    else none
noncomputable def cons30 : List (Nat × CE) := [(39, ⟨[(.tmp 0 true [(.dat (.int .u8)), (.dat (.int .i64)), (.dat (.int .i64))])], [(.tmp 0 false [(.dat .bool)])], dialtoneref37_Band⟩), (38, ⟨[(.tmp 0 false [(.dat (.int .i64))])], [(.tmp 0 false [(.dat .bool)])], dialtoneref37_money⟩)]
theorem cons30_ok : ConL Try.prog cons30 := ⟨con39, con38, trivial⟩
theorem con30 : ConOk Try.prog 30 ⟨[(.tmp 0 true [(.dat .str), (.dat (.int .i64)), (.dat (.int .i64)), (.dat (.int .i64)), (.dat (.list (.pair (.pair (.int .u8) (.pair (.int .i64) (.int .i64))) (.pair (.int .i64) (.int .i64)))))])], [(.tmp 0 false [(.dat .bool)])], dialtoneref37_Rate⟩ :=
  tree_ok (plan := planOf plan30) (eg := egNo) KK tabL_ok (conOf_ok cons30_ok) Try.func30 (by kernel_rfl) (by kernel_rfl) 10000 (fun a r h => Eq.trans (show _ = dialtoneref37_Rate a from by kernel_rfl) h)
/-! ### dialtone/dialtoneref37.Valid -/
def plan15 : List (Nat × PL) := [(262657, (.carry [])), (134480385, (.carry [])), (18049651601311750, (.carry [.tmp 3 false [(.dat (.int .i64))]])), (4731607869374267392513, (.carry [.tmp 4 false [(.dat (.int .i64))]])), (166478651854509821417867418488014854, (.carry [.tmp 4 false [(.dat (.int .i64))]]))]
noncomputable def dialtoneref37_Valid : ((List ((List UInt8) × (Int × (Int × (Int × (List ((Int × (Int × Int)) × (Int × Int)))))))) × Int) → Option Bool := fun (a1, a2) =>
  joinO (bif (decide ((((List.length a1) : Nat) : Int) > (1000 : Int))) then
    outO (some Bool.false)
   else
    bif (decide (a2 < (0 : Int))) then
     outO (some Bool.false)
    else
     bif (decide (a2 > (3600 : Int))) then
      outO (some Bool.false)
     else
      some (Sum.inl ())) fun _ =>
  joinO (loopO (fun v3 =>
    bif (decide (v3 < (((List.length a1) : Nat) : Int))) then
     joinO (bif (decide (((0 : Int) ≤ v3) ∧ (v3 < (((List.length a1) : Nat) : Int)))) then 
       bindO a1[(Int.toNat v3)]? fun x4 =>
       bindO (dialtoneref37_Rate (x4.1, (x4.2.1, (x4.2.2.1, (x4.2.2.2.1, x4.2.2.2.2))))) fun x5 =>
       bif (!x5) then
        outO (outO (outO (some Bool.false)))
       else
        loopO (fun v6 =>
         bif (decide (v6 < v3)) then
          bif (decide (((0 : Int) ≤ v6) ∧ (v6 < (((List.length a1) : Nat) : Int)))) then 
           bindO a1[(Int.toNat v6)]? fun x7 =>
           bif (decide (((0 : Int) ≤ v3) ∧ (v3 < (((List.length a1) : Nat) : Int)))) then 
            bindO a1[(Int.toNat v3)]? fun x8 =>
            bif (decide (x7.1 = x8.1)) then
             outO (outO (outO (outO (some Bool.false))))
            else
             some (Sum.inl (Go.IntKind.wrap .i64 (v6 + (1 : Int))))
           else none
          else none
         else
          outO (some (Sum.inl v6))) (0 : Int)
      else none) fun v10 =>
     some (Sum.inl (Go.IntKind.wrap .i64 (v3 + (1 : Int))))
    else
     outO (some (Sum.inl ()))) (0 : Int)) fun _ =>
  some Bool.true
noncomputable def cons15 : List (Nat × CE) := [(39, ⟨[(.tmp 0 true [(.dat (.int .u8)), (.dat (.int .i64)), (.dat (.int .i64))])], [(.tmp 0 false [(.dat .bool)])], dialtoneref37_Band⟩), (38, ⟨[(.tmp 0 false [(.dat (.int .i64))])], [(.tmp 0 false [(.dat .bool)])], dialtoneref37_money⟩), (30, ⟨[(.tmp 0 true [(.dat .str), (.dat (.int .i64)), (.dat (.int .i64)), (.dat (.int .i64)), (.dat (.list (.pair (.pair (.int .u8) (.pair (.int .i64) (.int .i64))) (.pair (.int .i64) (.int .i64)))))])], [(.tmp 0 false [(.dat .bool)])], dialtoneref37_Rate⟩)]
theorem cons15_ok : ConL Try.prog cons15 := ⟨con39, con38, con30, trivial⟩
theorem con15 : ConOk Try.prog 15 ⟨[(.tmp 0 true [(.dat (.list (.pair .str (.pair (.int .i64) (.pair (.int .i64) (.pair (.int .i64) (.list (.pair (.pair (.int .u8) (.pair (.int .i64) (.int .i64))) (.pair (.int .i64) (.int .i64)))))))))), (.dat (.int .i64))])], [(.tmp 0 false [(.dat .bool)])], dialtoneref37_Valid⟩ :=
  tree_ok (plan := planOf plan15) (eg := egNo) KK tabL_ok (conOf_ok cons15_ok) Try.func15 (by kernel_rfl) (by kernel_rfl) 10000 (fun a r h => Eq.trans (show _ = dialtoneref37_Valid a from by kernel_rfl) h)
/-! ### dialtone/dialtoneref37.Begins -/
def plan27 : List (Nat × PL) := []
noncomputable def dialtoneref37_Begins : ((List UInt8) × (List UInt8)) → Option Bool := fun (a1, a2) =>
  bif (decide ((((List.length a1) : Nat) : Int) ≥ (((List.length a2) : Nat) : Int))) then
   bif (decide (((0 : Int) ≤ (((List.length a2) : Nat) : Int)) ∧ ((((List.length a2) : Nat) : Int) ≤ (((List.length a1) : Nat) : Int)))) then 
    some (decide ((List.take (Int.toNat (((List.length a2) : Nat) : Int)) a1) = a2))
   else none
  else
   some Bool.false
noncomputable def cons27 : List (Nat × CE) := [(39, ⟨[(.tmp 0 true [(.dat (.int .u8)), (.dat (.int .i64)), (.dat (.int .i64))])], [(.tmp 0 false [(.dat .bool)])], dialtoneref37_Band⟩), (38, ⟨[(.tmp 0 false [(.dat (.int .i64))])], [(.tmp 0 false [(.dat .bool)])], dialtoneref37_money⟩), (30, ⟨[(.tmp 0 true [(.dat .str), (.dat (.int .i64)), (.dat (.int .i64)), (.dat (.int .i64)), (.dat (.list (.pair (.pair (.int .u8) (.pair (.int .i64) (.int .i64))) (.pair (.int .i64) (.int .i64)))))])], [(.tmp 0 false [(.dat .bool)])], dialtoneref37_Rate⟩), (15, ⟨[(.tmp 0 true [(.dat (.list (.pair .str (.pair (.int .i64) (.pair (.int .i64) (.pair (.int .i64) (.list (.pair (.pair (.int .u8) (.pair (.int .i64) (.int .i64))) (.pair (.int .i64) (.int .i64)))))))))), (.dat (.int .i64))])], [(.tmp 0 false [(.dat .bool)])], dialtoneref37_Valid⟩)]
theorem cons27_ok : ConL Try.prog cons27 := ⟨con39, con38, con30, con15, trivial⟩
theorem con27 : ConOk Try.prog 27 ⟨[(.tmp 0 false [(.dat .str)]), (.tmp 1 false [(.dat .str)])], [(.tmp 0 false [(.dat .bool)])], dialtoneref37_Begins⟩ :=
  tree_ok (plan := planOf plan27) (eg := egNo) KK tabL_ok (conOf_ok cons27_ok) Try.func27 (by kernel_rfl) (by kernel_rfl) 10000 (fun a r h => Eq.trans (show _ = dialtoneref37_Begins a from by kernel_rfl) h)
/-! ### dialtone/dialtoneref37.Find -/
def plan13 : List (Nat × PL) := [(134480385, (.carry [])), (18049651601311750, (.carry [.tmp 6 false [(.dat (.int .i64))]])), (4731607869374267392513, (.carry [.tmp 7 false [(.dat (.int .i64))]])), (325153616903339494956772301735942, (.carry [.tmp 7 false [(.dat (.int .i64))]]))]
noncomputable def dialtoneref37_Find : (((List ((List UInt8) × (Int × (Int × (Int × (List ((Int × (Int × Int)) × (Int × Int)))))))) × Int) × (List UInt8)) → Option (Int × Bool) := fun ((a1, a2), a3) =>
  bindO (dialtoneref37_Valid (a1, a2)) fun x4 =>
  bif (!x4) then
   some ((0 : Int), Bool.false)
  else
   joinO (loopO (fun v5 =>
     bif (decide (v5 ≥ (0 : Int))) then
      joinO (loopO (fun v6 =>
        bif (decide (v6 < (((List.length a1) : Nat) : Int))) then
         bif (decide (((0 : Int) ≤ v6) ∧ (v6 < (((List.length a1) : Nat) : Int)))) then 
          bindO a1[(Int.toNat v6)]? fun x7 =>
          bif (decide ((((List.length x7.1) : Nat) : Int) = v5)) then
           bif (decide (((0 : Int) ≤ v6) ∧ (v6 < (((List.length a1) : Nat) : Int)))) then 
            bindO a1[(Int.toNat v6)]? fun x8 =>
            bindO (dialtoneref37_Begins (a3, x8.1)) fun x9 =>
            bif x9 then
             outO (outO (outO (outO (some (v6, Bool.true)))))
            else
             some (Sum.inl (Go.IntKind.wrap .i64 (v6 + (1 : Int))))
           else none
          else
           some (Sum.inl (Go.IntKind.wrap .i64 (v6 + (1 : Int))))
         else none
        else
         outO (some (Sum.inl v6))) (0 : Int)) fun v12 =>
      some (Sum.inl (Go.IntKind.wrap .i64 (v5 - (1 : Int))))
     else
      outO (some (Sum.inl ()))) (20 : Int)) fun _ =>
   some ((0 : Int), Bool.false)
noncomputable def cons13 : List (Nat × CE) := [(39, ⟨[(.tmp 0 true [(.dat (.int .u8)), (.dat (.int .i64)), (.dat (.int .i64))])], [(.tmp 0 false [(.dat .bool)])], dialtoneref37_Band⟩), (38, ⟨[(.tmp 0 false [(.dat (.int .i64))])], [(.tmp 0 false [(.dat .bool)])], dialtoneref37_money⟩), (30, ⟨[(.tmp 0 true [(.dat .str), (.dat (.int .i64)), (.dat (.int .i64)), (.dat (.int .i64)), (.dat (.list (.pair (.pair (.int .u8) (.pair (.int .i64) (.int .i64))) (.pair (.int .i64) (.int .i64)))))])], [(.tmp 0 false [(.dat .bool)])], dialtoneref37_Rate⟩), (15, ⟨[(.tmp 0 true [(.dat (.list (.pair .str (.pair (.int .i64) (.pair (.int .i64) (.pair (.int .i64) (.list (.pair (.pair (.int .u8) (.pair (.int .i64) (.int .i64))) (.pair (.int .i64) (.int .i64)))))))))), (.dat (.int .i64))])], [(.tmp 0 false [(.dat .bool)])], dialtoneref37_Valid⟩), (27, ⟨[(.tmp 0 false [(.dat .str)]), (.tmp 1 false [(.dat .str)])], [(.tmp 0 false [(.dat .bool)])], dialtoneref37_Begins⟩)]
theorem cons13_ok : ConL Try.prog cons13 := ⟨con39, con38, con30, con15, con27, trivial⟩
theorem con13 : ConOk Try.prog 13 ⟨[(.tmp 0 true [(.dat (.list (.pair .str (.pair (.int .i64) (.pair (.int .i64) (.pair (.int .i64) (.list (.pair (.pair (.int .u8) (.pair (.int .i64) (.int .i64))) (.pair (.int .i64) (.int .i64)))))))))), (.dat (.int .i64))]), (.tmp 1 false [(.dat .str)])], [(.tmp 0 false [(.dat (.int .i64))]), (.tmp 1 false [(.dat .bool)])], dialtoneref37_Find⟩ :=
  tree_ok (plan := planOf plan13) (eg := egNo) KK tabL_ok (conOf_ok cons13_ok) Try.func13 (by kernel_rfl) (by kernel_rfl) 10000 (fun a r h => Eq.trans (show _ = dialtoneref37_Find a from by kernel_rfl) h)
/-! ### dialtone/dialtoneref37.Span -/
def plan34 : List (Nat × PL) := []
noncomputable def dialtoneref37_Span : (Int × Int) → Option Bool := fun (a1, a2) =>
  bif (decide (a1 ≥ (0 : Int))) then
   bif (decide (a2 ≥ (0 : Int))) then
    bif (decide (a1 ≤ (281474976710656 : Int))) then
     bif (decide (a2 ≤ (281474976710656 : Int))) then
      some (decide (a1 ≤ a2))
     else
      some Bool.false
    else
     some Bool.false
   else
    some Bool.false
  else
   some Bool.false
noncomputable def cons34 : List (Nat × CE) := [(39, ⟨[(.tmp 0 true [(.dat (.int .u8)), (.dat (.int .i64)), (.dat (.int .i64))])], [(.tmp 0 false [(.dat .bool)])], dialtoneref37_Band⟩), (38, ⟨[(.tmp 0 false [(.dat (.int .i64))])], [(.tmp 0 false [(.dat .bool)])], dialtoneref37_money⟩), (30, ⟨[(.tmp 0 true [(.dat .str), (.dat (.int .i64)), (.dat (.int .i64)), (.dat (.int .i64)), (.dat (.list (.pair (.pair (.int .u8) (.pair (.int .i64) (.int .i64))) (.pair (.int .i64) (.int .i64)))))])], [(.tmp 0 false [(.dat .bool)])], dialtoneref37_Rate⟩), (15, ⟨[(.tmp 0 true [(.dat (.list (.pair .str (.pair (.int .i64) (.pair (.int .i64) (.pair (.int .i64) (.list (.pair (.pair (.int .u8) (.pair (.int .i64) (.int .i64))) (.pair (.int .i64) (.int .i64)))))))))), (.dat (.int .i64))])], [(.tmp 0 false [(.dat .bool)])], dialtoneref37_Valid⟩), (27, ⟨[(.tmp 0 false [(.dat .str)]), (.tmp 1 false [(.dat .str)])], [(.tmp 0 false [(.dat .bool)])], dialtoneref37_Begins⟩), (13, ⟨[(.tmp 0 true [(.dat (.list (.pair .str (.pair (.int .i64) (.pair (.int .i64) (.pair (.int .i64) (.list (.pair (.pair (.int .u8) (.pair (.int .i64) (.int .i64))) (.pair (.int .i64) (.int .i64)))))))))), (.dat (.int .i64))]), (.tmp 1 false [(.dat .str)])], [(.tmp 0 false [(.dat (.int .i64))]), (.tmp 1 false [(.dat .bool)])], dialtoneref37_Find⟩)]
theorem cons34_ok : ConL Try.prog cons34 := ⟨con39, con38, con30, con15, con27, con13, trivial⟩
theorem con34 : ConOk Try.prog 34 ⟨[(.tmp 0 false [(.dat (.int .i64))]), (.tmp 1 false [(.dat (.int .i64))])], [(.tmp 0 false [(.dat .bool)])], dialtoneref37_Span⟩ :=
  tree_ok (plan := planOf plan34) (eg := egNo) KK tabL_ok (conOf_ok cons34_ok) Try.func34 (by kernel_rfl) (by kernel_rfl) 10000 (fun a r h => Eq.trans (show _ = dialtoneref37_Span a from by kernel_rfl) h)
/-! ### dialtone/dialtoneref37.Seconds -/
def plan24 : List (Nat × PL) := []
noncomputable def dialtoneref37_Seconds : (Int × Int) → Option Int := fun (a1, a2) =>
  bindO (dialtoneref37_Span (a1, a2)) fun x3 =>
  bif (!x3) then
   some (0 : Int)
  else
   bindO (some (Go.IntKind.wrap .i64 (Int.tdiv (Go.IntKind.wrap .i64 (a2 - a1)) (1000 : Int)))) fun x5 =>
   bif (decide ((Int.tmod (Go.IntKind.wrap .i64 (a2 - a1)) (1000 : Int)) > (0 : Int))) then
    some (Go.IntKind.wrap .i64 (x5 + (1 : Int)))
   else
    some x5
noncomputable def cons24 : List (Nat × CE) := [(39, ⟨[(.tmp 0 true [(.dat (.int .u8)), (.dat (.int .i64)), (.dat (.int .i64))])], [(.tmp 0 false [(.dat .bool)])], dialtoneref37_Band⟩), (38, ⟨[(.tmp 0 false [(.dat (.int .i64))])], [(.tmp 0 false [(.dat .bool)])], dialtoneref37_money⟩), (30, ⟨[(.tmp 0 true [(.dat .str), (.dat (.int .i64)), (.dat (.int .i64)), (.dat (.int .i64)), (.dat (.list (.pair (.pair (.int .u8) (.pair (.int .i64) (.int .i64))) (.pair (.int .i64) (.int .i64)))))])], [(.tmp 0 false [(.dat .bool)])], dialtoneref37_Rate⟩), (15, ⟨[(.tmp 0 true [(.dat (.list (.pair .str (.pair (.int .i64) (.pair (.int .i64) (.pair (.int .i64) (.list (.pair (.pair (.int .u8) (.pair (.int .i64) (.int .i64))) (.pair (.int .i64) (.int .i64)))))))))), (.dat (.int .i64))])], [(.tmp 0 false [(.dat .bool)])], dialtoneref37_Valid⟩), (27, ⟨[(.tmp 0 false [(.dat .str)]), (.tmp 1 false [(.dat .str)])], [(.tmp 0 false [(.dat .bool)])], dialtoneref37_Begins⟩), (13, ⟨[(.tmp 0 true [(.dat (.list (.pair .str (.pair (.int .i64) (.pair (.int .i64) (.pair (.int .i64) (.list (.pair (.pair (.int .u8) (.pair (.int .i64) (.int .i64))) (.pair (.int .i64) (.int .i64)))))))))), (.dat (.int .i64))]), (.tmp 1 false [(.dat .str)])], [(.tmp 0 false [(.dat (.int .i64))]), (.tmp 1 false [(.dat .bool)])], dialtoneref37_Find⟩), (34, ⟨[(.tmp 0 false [(.dat (.int .i64))]), (.tmp 1 false [(.dat (.int .i64))])], [(.tmp 0 false [(.dat .bool)])], dialtoneref37_Span⟩)]
theorem cons24_ok : ConL Try.prog cons24 := ⟨con39, con38, con30, con15, con27, con13, con34, trivial⟩
theorem con24 : ConOk Try.prog 24 ⟨[(.tmp 0 false [(.dat (.int .i64))]), (.tmp 1 false [(.dat (.int .i64))])], [(.tmp 0 false [(.dat (.int .i64))])], dialtoneref37_Seconds⟩ :=
  tree_ok (plan := planOf plan24) (eg := egNo) KK tabL_ok (conOf_ok cons24_ok) Try.func24 (by kernel_rfl) (by kernel_rfl) 10000 (fun a r h => Eq.trans (show _ = dialtoneref37_Seconds a from by kernel_rfl) h)
/-! ### dialtone/dialtoneref37.bit -/
def plan41 : List (Nat × PL) := [(134480385, (.carry [.tmp 3 false [(.dat (.int .i64))]])), (18049651601311750, (.carry [.tmp 4 false [(.dat (.int .i64))], .tmp 3 false [(.dat (.int .i64))]]))]
noncomputable def dialtoneref37_bit : Int → Option Int := fun a1 =>
  joinO (loopO (fun (v2, v3) =>
    bif (decide (v2 < a1)) then
     some (Sum.inl ((Go.IntKind.wrap .i64 (v2 + (1 : Int))), (Go.IntKind.wrap .i64 ((2 : Int) * v3))))
    else
     outO (some (Sum.inl v3))) ((0 : Int), (1 : Int))) fun v6 =>
  some v6
noncomputable def cons41 : List (Nat × CE) := [(39, ⟨[(.tmp 0 true [(.dat (.int .u8)), (.dat (.int .i64)), (.dat (.int .i64))])], [(.tmp 0 false [(.dat .bool)])], dialtoneref37_Band⟩), (38, ⟨[(.tmp 0 false [(.dat (.int .i64))])], [(.tmp 0 false [(.dat .bool)])], dialtoneref37_money⟩), (30, ⟨[(.tmp 0 true [(.dat .str), (.dat (.int .i64)), (.dat (.int .i64)), (.dat (.int .i64)), (.dat (.list (.pair (.pair (.int .u8) (.pair (.int .i64) (.int .i64))) (.pair (.int .i64) (.int .i64)))))])], [(.tmp 0 false [(.dat .bool)])], dialtoneref37_Rate⟩), (15, ⟨[(.tmp 0 true [(.dat (.list (.pair .str (.pair (.int .i64) (.pair (.int .i64) (.pair (.int .i64) (.list (.pair (.pair (.int .u8) (.pair (.int .i64) (.int .i64))) (.pair (.int .i64) (.int .i64)))))))))), (.dat (.int .i64))])], [(.tmp 0 false [(.dat .bool)])], dialtoneref37_Valid⟩), (27, ⟨[(.tmp 0 false [(.dat .str)]), (.tmp 1 false [(.dat .str)])], [(.tmp 0 false [(.dat .bool)])], dialtoneref37_Begins⟩), (13, ⟨[(.tmp 0 true [(.dat (.list (.pair .str (.pair (.int .i64) (.pair (.int .i64) (.pair (.int .i64) (.list (.pair (.pair (.int .u8) (.pair (.int .i64) (.int .i64))) (.pair (.int .i64) (.int .i64)))))))))), (.dat (.int .i64))]), (.tmp 1 false [(.dat .str)])], [(.tmp 0 false [(.dat (.int .i64))]), (.tmp 1 false [(.dat .bool)])], dialtoneref37_Find⟩), (34, ⟨[(.tmp 0 false [(.dat (.int .i64))]), (.tmp 1 false [(.dat (.int .i64))])], [(.tmp 0 false [(.dat .bool)])], dialtoneref37_Span⟩), (24, ⟨[(.tmp 0 false [(.dat (.int .i64))]), (.tmp 1 false [(.dat (.int .i64))])], [(.tmp 0 false [(.dat (.int .i64))])], dialtoneref37_Seconds⟩)]
theorem cons41_ok : ConL Try.prog cons41 := ⟨con39, con38, con30, con15, con27, con13, con34, con24, trivial⟩
theorem con41 : ConOk Try.prog 41 ⟨[(.tmp 0 false [(.dat (.int .i64))])], [(.tmp 0 false [(.dat (.int .i64))])], dialtoneref37_bit⟩ :=
  tree_ok (plan := planOf plan41) (eg := egNo) KK tabL_ok (conOf_ok cons41_ok) Try.func41 (by kernel_rfl) (by kernel_rfl) 10000 (fun a r h => Eq.trans (show _ = dialtoneref37_bit a from by kernel_rfl) h)
/-! ### dialtone/dialtoneref37.Contains -/
def plan35 : List (Nat × PL) := []
noncomputable def dialtoneref37_Contains : ((Int × (Int × Int)) × Int) → Option Bool := fun ((a1, (a2, a3)), a4) =>
  bindO (some (Int.tmod (Go.IntKind.wrap .i64 (Int.tdiv a4 (60000 : Int))) (1440 : Int))) fun x8 =>
  bindO (dialtoneref37_bit (Int.tmod (Go.IntKind.wrap .i64 (Int.tdiv a4 (86400000 : Int))) (7 : Int))) fun x10 =>
  bif (decide (x10 ≠ (0 : Int))) then 
   bif (decide ((Int.tmod (Go.IntKind.wrap .i64 (Int.tdiv (Go.IntKind.wrap .i64 a1) x10)) (2 : Int)) = (1 : Int))) then
    bif (decide (a2 ≤ x8)) then
     some (decide (x8 < a3))
    else
     some Bool.false
   else
    some Bool.false
  else none
noncomputable def cons35 : List (Nat × CE) := [(39, ⟨[(.tmp 0 true [(.dat (.int .u8)), (.dat (.int .i64)), (.dat (.int .i64))])], [(.tmp 0 false [(.dat .bool)])], dialtoneref37_Band⟩), (38, ⟨[(.tmp 0 false [(.dat (.int .i64))])], [(.tmp 0 false [(.dat .bool)])], dialtoneref37_money⟩), (30, ⟨[(.tmp 0 true [(.dat .str), (.dat (.int .i64)), (.dat (.int .i64)), (.dat (.int .i64)), (.dat (.list (.pair (.pair (.int .u8) (.pair (.int .i64) (.int .i64))) (.pair (.int .i64) (.int .i64)))))])], [(.tmp 0 false [(.dat .bool)])], dialtoneref37_Rate⟩), (15, ⟨[(.tmp 0 true [(.dat (.list (.pair .str (.pair (.int .i64) (.pair (.int .i64) (.pair (.int .i64) (.list (.pair (.pair (.int .u8) (.pair (.int .i64) (.int .i64))) (.pair (.int .i64) (.int .i64)))))))))), (.dat (.int .i64))])], [(.tmp 0 false [(.dat .bool)])], dialtoneref37_Valid⟩), (27, ⟨[(.tmp 0 false [(.dat .str)]), (.tmp 1 false [(.dat .str)])], [(.tmp 0 false [(.dat .bool)])], dialtoneref37_Begins⟩), (13, ⟨[(.tmp 0 true [(.dat (.list (.pair .str (.pair (.int .i64) (.pair (.int .i64) (.pair (.int .i64) (.list (.pair (.pair (.int .u8) (.pair (.int .i64) (.int .i64))) (.pair (.int .i64) (.int .i64)))))))))), (.dat (.int .i64))]), (.tmp 1 false [(.dat .str)])], [(.tmp 0 false [(.dat (.int .i64))]), (.tmp 1 false [(.dat .bool)])], dialtoneref37_Find⟩), (34, ⟨[(.tmp 0 false [(.dat (.int .i64))]), (.tmp 1 false [(.dat (.int .i64))])], [(.tmp 0 false [(.dat .bool)])], dialtoneref37_Span⟩), (24, ⟨[(.tmp 0 false [(.dat (.int .i64))]), (.tmp 1 false [(.dat (.int .i64))])], [(.tmp 0 false [(.dat (.int .i64))])], dialtoneref37_Seconds⟩), (41, ⟨[(.tmp 0 false [(.dat (.int .i64))])], [(.tmp 0 false [(.dat (.int .i64))])], dialtoneref37_bit⟩)]
theorem cons35_ok : ConL Try.prog cons35 := ⟨con39, con38, con30, con15, con27, con13, con34, con24, con41, trivial⟩
theorem con35 : ConOk Try.prog 35 ⟨[(.tmp 0 true [(.dat (.int .u8)), (.dat (.int .i64)), (.dat (.int .i64))]), (.tmp 1 false [(.dat (.int .i64))])], [(.tmp 0 false [(.dat .bool)])], dialtoneref37_Contains⟩ :=
  tree_ok (plan := planOf plan35) (eg := egNo) KK tabL_ok (conOf_ok cons35_ok) Try.func35 (by kernel_rfl) (by kernel_rfl) 10000 (fun a r h => Eq.trans (show _ = dialtoneref37_Contains a from by kernel_rfl) h)
/-! ### dialtone/dialtoneref37.PriceAt -/
def plan20 : List (Nat × PL) := [(262657, (.carry [])), (134480385, (.carry [])), (18049651601311750, (.carry [.tmp 6 false [(.dat (.int .i64))]]))]
noncomputable def dialtoneref37_PriceAt : (((List UInt8) × (Int × (Int × (Int × (List ((Int × (Int × Int)) × (Int × Int))))))) × Int) → Option (Int × Bool) := fun ((a1, (a2, (a3, (a4, a5)))), a6) =>
  joinO (bindO (dialtoneref37_Rate (a1, (a2, (a3, (a4, a5))))) fun x7 =>
   bif (!x7) then
    outO (some ((0 : Int), Bool.false))
   else
    bif (decide (a6 < (0 : Int))) then
     outO (some ((0 : Int), Bool.false))
    else
     bif (decide (a6 > (562949953421312 : Int))) then
      outO (some ((0 : Int), Bool.false))
     else
      some (Sum.inl ())) fun _ =>
  joinO (loopO (fun v8 =>
    bif (decide (v8 < (((List.length a5) : Nat) : Int))) then
     bif (decide (((0 : Int) ≤ v8) ∧ (v8 < (((List.length a5) : Nat) : Int)))) then 
      bindO a5[(Int.toNat v8)]? fun x9 =>
      bindO (dialtoneref37_Contains ((x9.1.1, (x9.1.2.1, x9.1.2.2)), a6)) fun x10 =>
      bif x10 then
       outO (outO (some (v8, Bool.true)))
      else
       some (Sum.inl (Go.IntKind.wrap .i64 (v8 + (1 : Int))))
     else none
    else
     outO (some (Sum.inl ()))) (0 : Int)) fun _ =>
  some ((0 : Int), Bool.false)
noncomputable def cons20 : List (Nat × CE) := [(39, ⟨[(.tmp 0 true [(.dat (.int .u8)), (.dat (.int .i64)), (.dat (.int .i64))])], [(.tmp 0 false [(.dat .bool)])], dialtoneref37_Band⟩), (38, ⟨[(.tmp 0 false [(.dat (.int .i64))])], [(.tmp 0 false [(.dat .bool)])], dialtoneref37_money⟩), (30, ⟨[(.tmp 0 true [(.dat .str), (.dat (.int .i64)), (.dat (.int .i64)), (.dat (.int .i64)), (.dat (.list (.pair (.pair (.int .u8) (.pair (.int .i64) (.int .i64))) (.pair (.int .i64) (.int .i64)))))])], [(.tmp 0 false [(.dat .bool)])], dialtoneref37_Rate⟩), (15, ⟨[(.tmp 0 true [(.dat (.list (.pair .str (.pair (.int .i64) (.pair (.int .i64) (.pair (.int .i64) (.list (.pair (.pair (.int .u8) (.pair (.int .i64) (.int .i64))) (.pair (.int .i64) (.int .i64)))))))))), (.dat (.int .i64))])], [(.tmp 0 false [(.dat .bool)])], dialtoneref37_Valid⟩), (27, ⟨[(.tmp 0 false [(.dat .str)]), (.tmp 1 false [(.dat .str)])], [(.tmp 0 false [(.dat .bool)])], dialtoneref37_Begins⟩), (13, ⟨[(.tmp 0 true [(.dat (.list (.pair .str (.pair (.int .i64) (.pair (.int .i64) (.pair (.int .i64) (.list (.pair (.pair (.int .u8) (.pair (.int .i64) (.int .i64))) (.pair (.int .i64) (.int .i64)))))))))), (.dat (.int .i64))]), (.tmp 1 false [(.dat .str)])], [(.tmp 0 false [(.dat (.int .i64))]), (.tmp 1 false [(.dat .bool)])], dialtoneref37_Find⟩), (34, ⟨[(.tmp 0 false [(.dat (.int .i64))]), (.tmp 1 false [(.dat (.int .i64))])], [(.tmp 0 false [(.dat .bool)])], dialtoneref37_Span⟩), (24, ⟨[(.tmp 0 false [(.dat (.int .i64))]), (.tmp 1 false [(.dat (.int .i64))])], [(.tmp 0 false [(.dat (.int .i64))])], dialtoneref37_Seconds⟩), (41, ⟨[(.tmp 0 false [(.dat (.int .i64))])], [(.tmp 0 false [(.dat (.int .i64))])], dialtoneref37_bit⟩), (35, ⟨[(.tmp 0 true [(.dat (.int .u8)), (.dat (.int .i64)), (.dat (.int .i64))]), (.tmp 1 false [(.dat (.int .i64))])], [(.tmp 0 false [(.dat .bool)])], dialtoneref37_Contains⟩)]
theorem cons20_ok : ConL Try.prog cons20 := ⟨con39, con38, con30, con15, con27, con13, con34, con24, con41, con35, trivial⟩
theorem con20 : ConOk Try.prog 20 ⟨[(.tmp 0 true [(.dat .str), (.dat (.int .i64)), (.dat (.int .i64)), (.dat (.int .i64)), (.dat (.list (.pair (.pair (.int .u8) (.pair (.int .i64) (.int .i64))) (.pair (.int .i64) (.int .i64)))))]), (.tmp 1 false [(.dat (.int .i64))])], [(.tmp 0 false [(.dat (.int .i64))]), (.tmp 1 false [(.dat .bool)])], dialtoneref37_PriceAt⟩ :=
  tree_ok (plan := planOf plan20) (eg := egNo) KK tabL_ok (conOf_ok cons20_ok) Try.func20 (by kernel_rfl) (by kernel_rfl) 10000 (fun a r h => Eq.trans (show _ = dialtoneref37_PriceAt a from by kernel_rfl) h)
/-! ### dialtone/dialtoneref37.Begin -/
def plan31 : List (Nat × PL) := []
noncomputable def dialtoneref37_Begin : (((List UInt8) × (Int × (Int × (Int × (List ((Int × (Int × Int)) × (Int × Int))))))) × (Int × Int)) → Option Int := fun ((a1, (a2, (a3, (a4, a5)))), (a6, a7)) =>
  bif (decide (a7 = (0 : Int))) then
   some a6
  else
   some (Go.IntKind.wrap .i64 ((Go.IntKind.wrap .i64 (a6 + a3)) + (Go.IntKind.wrap .i64 ((Go.IntKind.wrap .i64 (a7 - (1 : Int))) * a4))))
noncomputable def cons31 : List (Nat × CE) := [(39, ⟨[(.tmp 0 true [(.dat (.int .u8)), (.dat (.int .i64)), (.dat (.int .i64))])], [(.tmp 0 false [(.dat .bool)])], dialtoneref37_Band⟩), (38, ⟨[(.tmp 0 false [(.dat (.int .i64))])], [(.tmp 0 false [(.dat .bool)])], dialtoneref37_money⟩), (30, ⟨[(.tmp 0 true [(.dat .str), (.dat (.int .i64)), (.dat (.int .i64)), (.dat (.int .i64)), (.dat (.list (.pair (.pair (.int .u8) (.pair (.int .i64) (.int .i64))) (.pair (.int .i64) (.int .i64)))))])], [(.tmp 0 false [(.dat .bool)])], dialtoneref37_Rate⟩), (15, ⟨[(.tmp 0 true [(.dat (.list (.pair .str (.pair (.int .i64) (.pair (.int .i64) (.pair (.int .i64) (.list (.pair (.pair (.int .u8) (.pair (.int .i64) (.int .i64))) (.pair (.int .i64) (.int .i64)))))))))), (.dat (.int .i64))])], [(.tmp 0 false [(.dat .bool)])], dialtoneref37_Valid⟩), (27, ⟨[(.tmp 0 false [(.dat .str)]), (.tmp 1 false [(.dat .str)])], [(.tmp 0 false [(.dat .bool)])], dialtoneref37_Begins⟩), (13, ⟨[(.tmp 0 true [(.dat (.list (.pair .str (.pair (.int .i64) (.pair (.int .i64) (.pair (.int .i64) (.list (.pair (.pair (.int .u8) (.pair (.int .i64) (.int .i64))) (.pair (.int .i64) (.int .i64)))))))))), (.dat (.int .i64))]), (.tmp 1 false [(.dat .str)])], [(.tmp 0 false [(.dat (.int .i64))]), (.tmp 1 false [(.dat .bool)])], dialtoneref37_Find⟩), (34, ⟨[(.tmp 0 false [(.dat (.int .i64))]), (.tmp 1 false [(.dat (.int .i64))])], [(.tmp 0 false [(.dat .bool)])], dialtoneref37_Span⟩), (24, ⟨[(.tmp 0 false [(.dat (.int .i64))]), (.tmp 1 false [(.dat (.int .i64))])], [(.tmp 0 false [(.dat (.int .i64))])], dialtoneref37_Seconds⟩), (41, ⟨[(.tmp 0 false [(.dat (.int .i64))])], [(.tmp 0 false [(.dat (.int .i64))])], dialtoneref37_bit⟩), (35, ⟨[(.tmp 0 true [(.dat (.int .u8)), (.dat (.int .i64)), (.dat (.int .i64))]), (.tmp 1 false [(.dat (.int .i64))])], [(.tmp 0 false [(.dat .bool)])], dialtoneref37_Contains⟩), (20, ⟨[(.tmp 0 true [(.dat .str), (.dat (.int .i64)), (.dat (.int .i64)), (.dat (.int .i64)), (.dat (.list (.pair (.pair (.int .u8) (.pair (.int .i64) (.int .i64))) (.pair (.int .i64) (.int .i64)))))]), (.tmp 1 false [(.dat (.int .i64))])], [(.tmp 0 false [(.dat (.int .i64))]), (.tmp 1 false [(.dat .bool)])], dialtoneref37_PriceAt⟩)]
theorem cons31_ok : ConL Try.prog cons31 := ⟨con39, con38, con30, con15, con27, con13, con34, con24, con41, con35, con20, trivial⟩
theorem con31 : ConOk Try.prog 31 ⟨[(.tmp 0 true [(.dat .str), (.dat (.int .i64)), (.dat (.int .i64)), (.dat (.int .i64)), (.dat (.list (.pair (.pair (.int .u8) (.pair (.int .i64) (.int .i64))) (.pair (.int .i64) (.int .i64)))))]), (.tmp 1 false [(.dat (.int .i64))]), (.tmp 2 false [(.dat (.int .i64))])], [(.tmp 0 false [(.dat (.int .i64))])], dialtoneref37_Begin⟩ :=
  tree_ok (plan := planOf plan31) (eg := egNo) KK tabL_ok (conOf_ok cons31_ok) Try.func31 (by kernel_rfl) (by kernel_rfl) 10000 (fun a r h => Eq.trans (show _ = dialtoneref37_Begin a from by kernel_rfl) h)
/-! ### dialtone/dialtoneref37.Pieces -/
def plan17 : List (Nat × PL) := [(262657, (.carry [])), (68853957121, (.carry [.tmp 7 false [(.dat (.int .i64))]])), (18049651735267334, (.carry [.tmp 7 false [(.dat (.int .i64))]]))]
noncomputable def dialtoneref37_Pieces : (((List UInt8) × (Int × (Int × (Int × (List ((Int × (Int × Int)) × (Int × Int))))))) × (Int × Int)) → Option Int := fun ((a1, (a2, (a3, (a4, a5)))), (a6, a7)) =>
  joinO (bindO (dialtoneref37_Rate (a1, (a2, (a3, (a4, a5))))) fun x8 =>
   bif (!x8) then
    outO (some (0 : Int))
   else
    bif (decide (a6 < (0 : Int))) then
     outO (some (0 : Int))
    else
     bif (decide (a6 > (3600 : Int))) then
      outO (some (0 : Int))
     else
      bif (decide (a7 < (0 : Int))) then
       outO (some (0 : Int))
      else
       bif (decide (a7 > (1000000 : Int))) then
        outO (some (0 : Int))
       else
        some (Sum.inl ())) fun _ =>
  joinO (loopO (fun v9 =>
    bindO (dialtoneref37_Begin ((a1, (a2, (a3, (a4, a5)))), (a6, v9))) fun x10 =>
    bif (decide (x10 < a7)) then
     some (Sum.inl (Go.IntKind.wrap .i64 (v9 + (1 : Int))))
    else
     outO (some (Sum.inl v9))) (0 : Int)) fun v12 =>
  some v12
noncomputable def cons17 : List (Nat × CE) := [(39, ⟨[(.tmp 0 true [(.dat (.int .u8)), (.dat (.int .i64)), (.dat (.int .i64))])], [(.tmp 0 false [(.dat .bool)])], dialtoneref37_Band⟩), (38, ⟨[(.tmp 0 false [(.dat (.int .i64))])], [(.tmp 0 false [(.dat .bool)])], dialtoneref37_money⟩), (30, ⟨[(.tmp 0 true [(.dat .str), (.dat (.int .i64)), (.dat (.int .i64)), (.dat (.int .i64)), (.dat (.list (.pair (.pair (.int .u8) (.pair (.int .i64) (.int .i64))) (.pair (.int .i64) (.int .i64)))))])], [(.tmp 0 false [(.dat .bool)])], dialtoneref37_Rate⟩), (15, ⟨[(.tmp 0 true [(.dat (.list (.pair .str (.pair (.int .i64) (.pair (.int .i64) (.pair (.int .i64) (.list (.pair (.pair (.int .u8) (.pair (.int .i64) (.int .i64))) (.pair (.int .i64) (.int .i64)))))))))), (.dat (.int .i64))])], [(.tmp 0 false [(.dat .bool)])], dialtoneref37_Valid⟩), (27, ⟨[(.tmp 0 false [(.dat .str)]), (.tmp 1 false [(.dat .str)])], [(.tmp 0 false [(.dat .bool)])], dialtoneref37_Begins⟩), (13, ⟨[(.tmp 0 true [(.dat (.list (.pair .str (.pair (.int .i64) (.pair (.int .i64) (.pair (.int .i64) (.list (.pair (.pair (.int .u8) (.pair (.int .i64) (.int .i64))) (.pair (.int .i64) (.int .i64)))))))))), (.dat (.int .i64))]), (.tmp 1 false [(.dat .str)])], [(.tmp 0 false [(.dat (.int .i64))]), (.tmp 1 false [(.dat .bool)])], dialtoneref37_Find⟩), (34, ⟨[(.tmp 0 false [(.dat (.int .i64))]), (.tmp 1 false [(.dat (.int .i64))])], [(.tmp 0 false [(.dat .bool)])], dialtoneref37_Span⟩), (24, ⟨[(.tmp 0 false [(.dat (.int .i64))]), (.tmp 1 false [(.dat (.int .i64))])], [(.tmp 0 false [(.dat (.int .i64))])], dialtoneref37_Seconds⟩), (41, ⟨[(.tmp 0 false [(.dat (.int .i64))])], [(.tmp 0 false [(.dat (.int .i64))])], dialtoneref37_bit⟩), (35, ⟨[(.tmp 0 true [(.dat (.int .u8)), (.dat (.int .i64)), (.dat (.int .i64))]), (.tmp 1 false [(.dat (.int .i64))])], [(.tmp 0 false [(.dat .bool)])], dialtoneref37_Contains⟩), (20, ⟨[(.tmp 0 true [(.dat .str), (.dat (.int .i64)), (.dat (.int .i64)), (.dat (.int .i64)), (.dat (.list (.pair (.pair (.int .u8) (.pair (.int .i64) (.int .i64))) (.pair (.int .i64) (.int .i64)))))]), (.tmp 1 false [(.dat (.int .i64))])], [(.tmp 0 false [(.dat (.int .i64))]), (.tmp 1 false [(.dat .bool)])], dialtoneref37_PriceAt⟩), (31, ⟨[(.tmp 0 true [(.dat .str), (.dat (.int .i64)), (.dat (.int .i64)), (.dat (.int .i64)), (.dat (.list (.pair (.pair (.int .u8) (.pair (.int .i64) (.int .i64))) (.pair (.int .i64) (.int .i64)))))]), (.tmp 1 false [(.dat (.int .i64))]), (.tmp 2 false [(.dat (.int .i64))])], [(.tmp 0 false [(.dat (.int .i64))])], dialtoneref37_Begin⟩)]
theorem cons17_ok : ConL Try.prog cons17 := ⟨con39, con38, con30, con15, con27, con13, con34, con24, con41, con35, con20, con31, trivial⟩
theorem con17 : ConOk Try.prog 17 ⟨[(.tmp 0 true [(.dat .str), (.dat (.int .i64)), (.dat (.int .i64)), (.dat (.int .i64)), (.dat (.list (.pair (.pair (.int .u8) (.pair (.int .i64) (.int .i64))) (.pair (.int .i64) (.int .i64)))))]), (.tmp 1 false [(.dat (.int .i64))]), (.tmp 2 false [(.dat (.int .i64))])], [(.tmp 0 false [(.dat (.int .i64))])], dialtoneref37_Pieces⟩ :=
  tree_ok (plan := planOf plan17) (eg := egNo) KK tabL_ok (conOf_ok cons17_ok) Try.func17 (by kernel_rfl) (by kernel_rfl) 10000 (fun a r h => Eq.trans (show _ = dialtoneref37_Pieces a from by kernel_rfl) h)
/-! ### dialtone/dialtoneref37.Cost -/
def plan19 : List (Nat × PL) := [(635065662736647214839835656705, (.carry [.tmp 14 false [(.dat (.int .i64))]])), (85237070383327051513330625736199112710, (.carry [.tmp 15 false [(.dat (.int .i64))], .tmp 14 false [(.dat (.int .i64))]]))]
noncomputable def dialtoneref37_Cost : (((List ((List UInt8) × (Int × (Int × (Int × (List ((Int × (Int × Int)) × (Int × Int)))))))) × Int) × ((List UInt8) × (Int × Int))) → Option (Int × Int) := fun ((a1, a2), (a3, (a4, a5))) =>
  bindO (dialtoneref37_Valid (a1, a2)) fun x6 =>
  bif (!x6) then
   some ((0 : Int), (2 : Int))
  else
   bindO (dialtoneref37_Span (a4, a5)) fun x7 =>
   bif (!x7) then
    some ((0 : Int), (3 : Int))
   else
    bindO (dialtoneref37_Seconds (a4, a5)) fun x8 =>
    bif (decide (x8 > (1000000 : Int))) then
     some ((0 : Int), (4 : Int))
    else
     bindO (dialtoneref37_Find ((a1, a2), a3)) fun (x10, x11) =>
     bif (!x11) then
      some ((0 : Int), (8 : Int))
     else
      bif (decide (((0 : Int) ≤ x10) ∧ (x10 < (((List.length a1) : Nat) : Int)))) then 
       bindO a1[(Int.toNat x10)]? fun x12 =>
       bindO (dialtoneref37_Seconds (a4, a5)) fun x13 =>
       bindO (dialtoneref37_Pieces ((x12.1, (x12.2.1, (x12.2.2.1, (x12.2.2.2.1, x12.2.2.2.2)))), (a2, x13))) fun x14 =>
       bif (decide (x14 = (0 : Int))) then
        some ((0 : Int), (0 : Int))
       else
        joinO (loopO (fun (v15, v16) =>
          bif (decide (v15 < x14)) then
           bindO (dialtoneref37_Begin ((x12.1, (x12.2.1, (x12.2.2.1, (x12.2.2.2.1, x12.2.2.2.2)))), (a2, v15))) fun x17 =>
           bindO (dialtoneref37_PriceAt ((x12.1, (x12.2.1, (x12.2.2.1, (x12.2.2.2.1, x12.2.2.2.2)))), (Go.IntKind.wrap .i64 (a4 + (Go.IntKind.wrap .i64 ((1000 : Int) * x17)))))) fun (x21, x22) =>
           bif (decide (v15 = (0 : Int))) then
            bif (decide (((0 : Int) ≤ x21) ∧ (x21 < (((List.length x12.2.2.2.2) : Nat) : Int)))) then 
             bindO x12.2.2.2.2[(Int.toNat x21)]? fun x23 =>
             some (Sum.inl ((Go.IntKind.wrap .i64 (v15 + (1 : Int))), (Go.IntKind.wrap .i64 (v16 + x23.2.1))))
            else none
           else
            bif (decide (((0 : Int) ≤ x21) ∧ (x21 < (((List.length x12.2.2.2.2) : Nat) : Int)))) then 
             bindO x12.2.2.2.2[(Int.toNat x21)]? fun x26 =>
             some (Sum.inl ((Go.IntKind.wrap .i64 (v15 + (1 : Int))), (Go.IntKind.wrap .i64 (v16 + x26.2.2))))
            else none
          else
           outO (some (Sum.inl v16))) ((0 : Int), x12.2.1)) fun v29 =>
        some (v29, (0 : Int))
      else none
noncomputable def cons19 : List (Nat × CE) := [(39, ⟨[(.tmp 0 true [(.dat (.int .u8)), (.dat (.int .i64)), (.dat (.int .i64))])], [(.tmp 0 false [(.dat .bool)])], dialtoneref37_Band⟩), (38, ⟨[(.tmp 0 false [(.dat (.int .i64))])], [(.tmp 0 false [(.dat .bool)])], dialtoneref37_money⟩), (30, ⟨[(.tmp 0 true [(.dat .str), (.dat (.int .i64)), (.dat (.int .i64)), (.dat (.int .i64)), (.dat (.list (.pair (.pair (.int .u8) (.pair (.int .i64) (.int .i64))) (.pair (.int .i64) (.int .i64)))))])], [(.tmp 0 false [(.dat .bool)])], dialtoneref37_Rate⟩), (15, ⟨[(.tmp 0 true [(.dat (.list (.pair .str (.pair (.int .i64) (.pair (.int .i64) (.pair (.int .i64) (.list (.pair (.pair (.int .u8) (.pair (.int .i64) (.int .i64))) (.pair (.int .i64) (.int .i64)))))))))), (.dat (.int .i64))])], [(.tmp 0 false [(.dat .bool)])], dialtoneref37_Valid⟩), (27, ⟨[(.tmp 0 false [(.dat .str)]), (.tmp 1 false [(.dat .str)])], [(.tmp 0 false [(.dat .bool)])], dialtoneref37_Begins⟩), (13, ⟨[(.tmp 0 true [(.dat (.list (.pair .str (.pair (.int .i64) (.pair (.int .i64) (.pair (.int .i64) (.list (.pair (.pair (.int .u8) (.pair (.int .i64) (.int .i64))) (.pair (.int .i64) (.int .i64)))))))))), (.dat (.int .i64))]), (.tmp 1 false [(.dat .str)])], [(.tmp 0 false [(.dat (.int .i64))]), (.tmp 1 false [(.dat .bool)])], dialtoneref37_Find⟩), (34, ⟨[(.tmp 0 false [(.dat (.int .i64))]), (.tmp 1 false [(.dat (.int .i64))])], [(.tmp 0 false [(.dat .bool)])], dialtoneref37_Span⟩), (24, ⟨[(.tmp 0 false [(.dat (.int .i64))]), (.tmp 1 false [(.dat (.int .i64))])], [(.tmp 0 false [(.dat (.int .i64))])], dialtoneref37_Seconds⟩), (41, ⟨[(.tmp 0 false [(.dat (.int .i64))])], [(.tmp 0 false [(.dat (.int .i64))])], dialtoneref37_bit⟩), (35, ⟨[(.tmp 0 true [(.dat (.int .u8)), (.dat (.int .i64)), (.dat (.int .i64))]), (.tmp 1 false [(.dat (.int .i64))])], [(.tmp 0 false [(.dat .bool)])], dialtoneref37_Contains⟩), (20, ⟨[(.tmp 0 true [(.dat .str), (.dat (.int .i64)), (.dat (.int .i64)), (.dat (.int .i64)), (.dat (.list (.pair (.pair (.int .u8) (.pair (.int .i64) (.int .i64))) (.pair (.int .i64) (.int .i64)))))]), (.tmp 1 false [(.dat (.int .i64))])], [(.tmp 0 false [(.dat (.int .i64))]), (.tmp 1 false [(.dat .bool)])], dialtoneref37_PriceAt⟩), (31, ⟨[(.tmp 0 true [(.dat .str), (.dat (.int .i64)), (.dat (.int .i64)), (.dat (.int .i64)), (.dat (.list (.pair (.pair (.int .u8) (.pair (.int .i64) (.int .i64))) (.pair (.int .i64) (.int .i64)))))]), (.tmp 1 false [(.dat (.int .i64))]), (.tmp 2 false [(.dat (.int .i64))])], [(.tmp 0 false [(.dat (.int .i64))])], dialtoneref37_Begin⟩), (17, ⟨[(.tmp 0 true [(.dat .str), (.dat (.int .i64)), (.dat (.int .i64)), (.dat (.int .i64)), (.dat (.list (.pair (.pair (.int .u8) (.pair (.int .i64) (.int .i64))) (.pair (.int .i64) (.int .i64)))))]), (.tmp 1 false [(.dat (.int .i64))]), (.tmp 2 false [(.dat (.int .i64))])], [(.tmp 0 false [(.dat (.int .i64))])], dialtoneref37_Pieces⟩)]
theorem cons19_ok : ConL Try.prog cons19 := ⟨con39, con38, con30, con15, con27, con13, con34, con24, con41, con35, con20, con31, con17, trivial⟩
theorem con19 : ConOk Try.prog 19 ⟨[(.tmp 0 true [(.dat (.list (.pair .str (.pair (.int .i64) (.pair (.int .i64) (.pair (.int .i64) (.list (.pair (.pair (.int .u8) (.pair (.int .i64) (.int .i64))) (.pair (.int .i64) (.int .i64)))))))))), (.dat (.int .i64))]), (.tmp 1 false [(.dat .str)]), (.tmp 2 false [(.dat (.int .i64))]), (.tmp 3 false [(.dat (.int .i64))])], [(.tmp 0 false [(.dat (.int .i64))]), (.tmp 1 false [(.dat (.int .u8))])], dialtoneref37_Cost⟩ :=
  tree_ok (plan := planOf plan19) (eg := egNo) KK tabL_ok (conOf_ok cons19_ok) Try.func19 (by kernel_rfl) (by kernel_rfl) 10000 (fun a r h => Eq.trans (show _ = dialtoneref37_Cost a from by kernel_rfl) h)
/-! ### dialtone/rating.within -/
def plan28 : List (Nat × PL) := []
noncomputable def rating_within : (Int × (Int × Int)) → Option Bool := fun (a1, (a2, a3)) =>
  bif (decide (a1 ≥ a2)) then
   some (decide (a1 ≤ a3))
  else
   some Bool.false
noncomputable def cons28 : List (Nat × CE) := [(39, ⟨[(.tmp 0 true [(.dat (.int .u8)), (.dat (.int .i64)), (.dat (.int .i64))])], [(.tmp 0 false [(.dat .bool)])], dialtoneref37_Band⟩), (38, ⟨[(.tmp 0 false [(.dat (.int .i64))])], [(.tmp 0 false [(.dat .bool)])], dialtoneref37_money⟩), (30, ⟨[(.tmp 0 true [(.dat .str), (.dat (.int .i64)), (.dat (.int .i64)), (.dat (.int .i64)), (.dat (.list (.pair (.pair (.int .u8) (.pair (.int .i64) (.int .i64))) (.pair (.int .i64) (.int .i64)))))])], [(.tmp 0 false [(.dat .bool)])], dialtoneref37_Rate⟩), (15, ⟨[(.tmp 0 true [(.dat (.list (.pair .str (.pair (.int .i64) (.pair (.int .i64) (.pair (.int .i64) (.list (.pair (.pair (.int .u8) (.pair (.int .i64) (.int .i64))) (.pair (.int .i64) (.int .i64)))))))))), (.dat (.int .i64))])], [(.tmp 0 false [(.dat .bool)])], dialtoneref37_Valid⟩), (27, ⟨[(.tmp 0 false [(.dat .str)]), (.tmp 1 false [(.dat .str)])], [(.tmp 0 false [(.dat .bool)])], dialtoneref37_Begins⟩), (13, ⟨[(.tmp 0 true [(.dat (.list (.pair .str (.pair (.int .i64) (.pair (.int .i64) (.pair (.int .i64) (.list (.pair (.pair (.int .u8) (.pair (.int .i64) (.int .i64))) (.pair (.int .i64) (.int .i64)))))))))), (.dat (.int .i64))]), (.tmp 1 false [(.dat .str)])], [(.tmp 0 false [(.dat (.int .i64))]), (.tmp 1 false [(.dat .bool)])], dialtoneref37_Find⟩), (34, ⟨[(.tmp 0 false [(.dat (.int .i64))]), (.tmp 1 false [(.dat (.int .i64))])], [(.tmp 0 false [(.dat .bool)])], dialtoneref37_Span⟩), (24, ⟨[(.tmp 0 false [(.dat (.int .i64))]), (.tmp 1 false [(.dat (.int .i64))])], [(.tmp 0 false [(.dat (.int .i64))])], dialtoneref37_Seconds⟩), (41, ⟨[(.tmp 0 false [(.dat (.int .i64))])], [(.tmp 0 false [(.dat (.int .i64))])], dialtoneref37_bit⟩), (35, ⟨[(.tmp 0 true [(.dat (.int .u8)), (.dat (.int .i64)), (.dat (.int .i64))]), (.tmp 1 false [(.dat (.int .i64))])], [(.tmp 0 false [(.dat .bool)])], dialtoneref37_Contains⟩), (20, ⟨[(.tmp 0 true [(.dat .str), (.dat (.int .i64)), (.dat (.int .i64)), (.dat (.int .i64)), (.dat (.list (.pair (.pair (.int .u8) (.pair (.int .i64) (.int .i64))) (.pair (.int .i64) (.int .i64)))))]), (.tmp 1 false [(.dat (.int .i64))])], [(.tmp 0 false [(.dat (.int .i64))]), (.tmp 1 false [(.dat .bool)])], dialtoneref37_PriceAt⟩), (31, ⟨[(.tmp 0 true [(.dat .str), (.dat (.int .i64)), (.dat (.int .i64)), (.dat (.int .i64)), (.dat (.list (.pair (.pair (.int .u8) (.pair (.int .i64) (.int .i64))) (.pair (.int .i64) (.int .i64)))))]), (.tmp 1 false [(.dat (.int .i64))]), (.tmp 2 false [(.dat (.int .i64))])], [(.tmp 0 false [(.dat (.int .i64))])], dialtoneref37_Begin⟩), (17, ⟨[(.tmp 0 true [(.dat .str), (.dat (.int .i64)), (.dat (.int .i64)), (.dat (.int .i64)), (.dat (.list (.pair (.pair (.int .u8) (.pair (.int .i64) (.int .i64))) (.pair (.int .i64) (.int .i64)))))]), (.tmp 1 false [(.dat (.int .i64))]), (.tmp 2 false [(.dat (.int .i64))])], [(.tmp 0 false [(.dat (.int .i64))])], dialtoneref37_Pieces⟩), (19, ⟨[(.tmp 0 true [(.dat (.list (.pair .str (.pair (.int .i64) (.pair (.int .i64) (.pair (.int .i64) (.list (.pair (.pair (.int .u8) (.pair (.int .i64) (.int .i64))) (.pair (.int .i64) (.int .i64)))))))))), (.dat (.int .i64))]), (.tmp 1 false [(.dat .str)]), (.tmp 2 false [(.dat (.int .i64))]), (.tmp 3 false [(.dat (.int .i64))])], [(.tmp 0 false [(.dat (.int .i64))]), (.tmp 1 false [(.dat (.int .u8))])], dialtoneref37_Cost⟩)]
theorem cons28_ok : ConL Try.prog cons28 := ⟨con39, con38, con30, con15, con27, con13, con34, con24, con41, con35, con20, con31, con17, con19, trivial⟩
theorem con28 : ConOk Try.prog 28 ⟨[(.tmp 0 false [(.dat (.int .i64))]), (.tmp 1 false [(.dat (.int .i64))]), (.tmp 2 false [(.dat (.int .i64))])], [(.tmp 0 false [(.dat .bool)])], rating_within⟩ :=
  tree_ok (plan := planOf plan28) (eg := egNo) KK tabL_ok (conOf_ok cons28_ok) Try.func28 (by kernel_rfl) (by kernel_rfl) 10000 (fun a r h => Eq.trans (show _ = rating_within a from by kernel_rfl) h)
/-! ### dialtone/rating.validBand -/
def plan42 : List (Nat × PL) := []
noncomputable def rating_validBand : (Int × (Int × Int)) → Option Bool := fun (a1, (a2, a3)) =>
  bif (decide (a1 ≥ (1 : Int))) then
   bif (decide (a1 ≤ (127 : Int))) then
    bif (decide (a2 ≥ (0 : Int))) then
     bif (decide (a2 < a3)) then
      some (decide (a3 ≤ (1440 : Int)))
     else
      some Bool.false
    else
     some Bool.false
   else
    some Bool.false
  else
   some Bool.false
noncomputable def cons42 : List (Nat × CE) := [(39, ⟨[(.tmp 0 true [(.dat (.int .u8)), (.dat (.int .i64)), (.dat (.int .i64))])], [(.tmp 0 false [(.dat .bool)])], dialtoneref37_Band⟩), (38, ⟨[(.tmp 0 false [(.dat (.int .i64))])], [(.tmp 0 false [(.dat .bool)])], dialtoneref37_money⟩), (30, ⟨[(.tmp 0 true [(.dat .str), (.dat (.int .i64)), (.dat (.int .i64)), (.dat (.int .i64)), (.dat (.list (.pair (.pair (.int .u8) (.pair (.int .i64) (.int .i64))) (.pair (.int .i64) (.int .i64)))))])], [(.tmp 0 false [(.dat .bool)])], dialtoneref37_Rate⟩), (15, ⟨[(.tmp 0 true [(.dat (.list (.pair .str (.pair (.int .i64) (.pair (.int .i64) (.pair (.int .i64) (.list (.pair (.pair (.int .u8) (.pair (.int .i64) (.int .i64))) (.pair (.int .i64) (.int .i64)))))))))), (.dat (.int .i64))])], [(.tmp 0 false [(.dat .bool)])], dialtoneref37_Valid⟩), (27, ⟨[(.tmp 0 false [(.dat .str)]), (.tmp 1 false [(.dat .str)])], [(.tmp 0 false [(.dat .bool)])], dialtoneref37_Begins⟩), (13, ⟨[(.tmp 0 true [(.dat (.list (.pair .str (.pair (.int .i64) (.pair (.int .i64) (.pair (.int .i64) (.list (.pair (.pair (.int .u8) (.pair (.int .i64) (.int .i64))) (.pair (.int .i64) (.int .i64)))))))))), (.dat (.int .i64))]), (.tmp 1 false [(.dat .str)])], [(.tmp 0 false [(.dat (.int .i64))]), (.tmp 1 false [(.dat .bool)])], dialtoneref37_Find⟩), (34, ⟨[(.tmp 0 false [(.dat (.int .i64))]), (.tmp 1 false [(.dat (.int .i64))])], [(.tmp 0 false [(.dat .bool)])], dialtoneref37_Span⟩), (24, ⟨[(.tmp 0 false [(.dat (.int .i64))]), (.tmp 1 false [(.dat (.int .i64))])], [(.tmp 0 false [(.dat (.int .i64))])], dialtoneref37_Seconds⟩), (41, ⟨[(.tmp 0 false [(.dat (.int .i64))])], [(.tmp 0 false [(.dat (.int .i64))])], dialtoneref37_bit⟩), (35, ⟨[(.tmp 0 true [(.dat (.int .u8)), (.dat (.int .i64)), (.dat (.int .i64))]), (.tmp 1 false [(.dat (.int .i64))])], [(.tmp 0 false [(.dat .bool)])], dialtoneref37_Contains⟩), (20, ⟨[(.tmp 0 true [(.dat .str), (.dat (.int .i64)), (.dat (.int .i64)), (.dat (.int .i64)), (.dat (.list (.pair (.pair (.int .u8) (.pair (.int .i64) (.int .i64))) (.pair (.int .i64) (.int .i64)))))]), (.tmp 1 false [(.dat (.int .i64))])], [(.tmp 0 false [(.dat (.int .i64))]), (.tmp 1 false [(.dat .bool)])], dialtoneref37_PriceAt⟩), (31, ⟨[(.tmp 0 true [(.dat .str), (.dat (.int .i64)), (.dat (.int .i64)), (.dat (.int .i64)), (.dat (.list (.pair (.pair (.int .u8) (.pair (.int .i64) (.int .i64))) (.pair (.int .i64) (.int .i64)))))]), (.tmp 1 false [(.dat (.int .i64))]), (.tmp 2 false [(.dat (.int .i64))])], [(.tmp 0 false [(.dat (.int .i64))])], dialtoneref37_Begin⟩), (17, ⟨[(.tmp 0 true [(.dat .str), (.dat (.int .i64)), (.dat (.int .i64)), (.dat (.int .i64)), (.dat (.list (.pair (.pair (.int .u8) (.pair (.int .i64) (.int .i64))) (.pair (.int .i64) (.int .i64)))))]), (.tmp 1 false [(.dat (.int .i64))]), (.tmp 2 false [(.dat (.int .i64))])], [(.tmp 0 false [(.dat (.int .i64))])], dialtoneref37_Pieces⟩), (19, ⟨[(.tmp 0 true [(.dat (.list (.pair .str (.pair (.int .i64) (.pair (.int .i64) (.pair (.int .i64) (.list (.pair (.pair (.int .u8) (.pair (.int .i64) (.int .i64))) (.pair (.int .i64) (.int .i64)))))))))), (.dat (.int .i64))]), (.tmp 1 false [(.dat .str)]), (.tmp 2 false [(.dat (.int .i64))]), (.tmp 3 false [(.dat (.int .i64))])], [(.tmp 0 false [(.dat (.int .i64))]), (.tmp 1 false [(.dat (.int .u8))])], dialtoneref37_Cost⟩), (28, ⟨[(.tmp 0 false [(.dat (.int .i64))]), (.tmp 1 false [(.dat (.int .i64))]), (.tmp 2 false [(.dat (.int .i64))])], [(.tmp 0 false [(.dat .bool)])], rating_within⟩)]
theorem cons42_ok : ConL Try.prog cons42 := ⟨con39, con38, con30, con15, con27, con13, con34, con24, con41, con35, con20, con31, con17, con19, con28, trivial⟩
theorem con42 : ConOk Try.prog 42 ⟨[(.tmp 0 true [(.dat (.int .u8)), (.dat (.int .i64)), (.dat (.int .i64))])], [(.tmp 0 false [(.dat .bool)])], rating_validBand⟩ :=
  tree_ok (plan := planOf plan42) (eg := egNo) KK tabL_ok (conOf_ok cons42_ok) Try.func42 (by kernel_rfl) (by kernel_rfl) 10000 (fun a r h => Eq.trans (show _ = rating_validBand a from by kernel_rfl) h)
/-! ### dialtone/rating.validPrice -/
def plan37 : List (Nat × PL) := []
noncomputable def rating_validPrice : (Int × (Int × (Int × (Int × Int)))) → Option Bool := fun (a1, (a2, (a3, (a4, a5)))) =>
  bindO (rating_validBand (a1, (a2, a3))) fun x6 =>
  bif x6 then
   bif (decide (a4 ≥ (0 : Int))) then
    bif (decide (a4 ≤ (1000000000 : Int))) then
     bif (decide (a5 ≥ (0 : Int))) then
      some (decide (a5 ≤ (1000000000 : Int)))
     else
      some Bool.false
    else
     some Bool.false
   else
    some Bool.false
  else
   some Bool.false
noncomputable def cons37 : List (Nat × CE) := [(39, ⟨[(.tmp 0 true [(.dat (.int .u8)), (.dat (.int .i64)), (.dat (.int .i64))])], [(.tmp 0 false [(.dat .bool)])], dialtoneref37_Band⟩), (38, ⟨[(.tmp 0 false [(.dat (.int .i64))])], [(.tmp 0 false [(.dat .bool)])], dialtoneref37_money⟩), (30, ⟨[(.tmp 0 true [(.dat .str), (.dat (.int .i64)), (.dat (.int .i64)), (.dat (.int .i64)), (.dat (.list (.pair (.pair (.int .u8) (.pair (.int .i64) (.int .i64))) (.pair (.int .i64) (.int .i64)))))])], [(.tmp 0 false [(.dat .bool)])], dialtoneref37_Rate⟩), (15, ⟨[(.tmp 0 true [(.dat (.list (.pair .str (.pair (.int .i64) (.pair (.int .i64) (.pair (.int .i64) (.list (.pair (.pair (.int .u8) (.pair (.int .i64) (.int .i64))) (.pair (.int .i64) (.int .i64)))))))))), (.dat (.int .i64))])], [(.tmp 0 false [(.dat .bool)])], dialtoneref37_Valid⟩), (27, ⟨[(.tmp 0 false [(.dat .str)]), (.tmp 1 false [(.dat .str)])], [(.tmp 0 false [(.dat .bool)])], dialtoneref37_Begins⟩), (13, ⟨[(.tmp 0 true [(.dat (.list (.pair .str (.pair (.int .i64) (.pair (.int .i64) (.pair (.int .i64) (.list (.pair (.pair (.int .u8) (.pair (.int .i64) (.int .i64))) (.pair (.int .i64) (.int .i64)))))))))), (.dat (.int .i64))]), (.tmp 1 false [(.dat .str)])], [(.tmp 0 false [(.dat (.int .i64))]), (.tmp 1 false [(.dat .bool)])], dialtoneref37_Find⟩), (34, ⟨[(.tmp 0 false [(.dat (.int .i64))]), (.tmp 1 false [(.dat (.int .i64))])], [(.tmp 0 false [(.dat .bool)])], dialtoneref37_Span⟩), (24, ⟨[(.tmp 0 false [(.dat (.int .i64))]), (.tmp 1 false [(.dat (.int .i64))])], [(.tmp 0 false [(.dat (.int .i64))])], dialtoneref37_Seconds⟩), (41, ⟨[(.tmp 0 false [(.dat (.int .i64))])], [(.tmp 0 false [(.dat (.int .i64))])], dialtoneref37_bit⟩), (35, ⟨[(.tmp 0 true [(.dat (.int .u8)), (.dat (.int .i64)), (.dat (.int .i64))]), (.tmp 1 false [(.dat (.int .i64))])], [(.tmp 0 false [(.dat .bool)])], dialtoneref37_Contains⟩), (20, ⟨[(.tmp 0 true [(.dat .str), (.dat (.int .i64)), (.dat (.int .i64)), (.dat (.int .i64)), (.dat (.list (.pair (.pair (.int .u8) (.pair (.int .i64) (.int .i64))) (.pair (.int .i64) (.int .i64)))))]), (.tmp 1 false [(.dat (.int .i64))])], [(.tmp 0 false [(.dat (.int .i64))]), (.tmp 1 false [(.dat .bool)])], dialtoneref37_PriceAt⟩), (31, ⟨[(.tmp 0 true [(.dat .str), (.dat (.int .i64)), (.dat (.int .i64)), (.dat (.int .i64)), (.dat (.list (.pair (.pair (.int .u8) (.pair (.int .i64) (.int .i64))) (.pair (.int .i64) (.int .i64)))))]), (.tmp 1 false [(.dat (.int .i64))]), (.tmp 2 false [(.dat (.int .i64))])], [(.tmp 0 false [(.dat (.int .i64))])], dialtoneref37_Begin⟩), (17, ⟨[(.tmp 0 true [(.dat .str), (.dat (.int .i64)), (.dat (.int .i64)), (.dat (.int .i64)), (.dat (.list (.pair (.pair (.int .u8) (.pair (.int .i64) (.int .i64))) (.pair (.int .i64) (.int .i64)))))]), (.tmp 1 false [(.dat (.int .i64))]), (.tmp 2 false [(.dat (.int .i64))])], [(.tmp 0 false [(.dat (.int .i64))])], dialtoneref37_Pieces⟩), (19, ⟨[(.tmp 0 true [(.dat (.list (.pair .str (.pair (.int .i64) (.pair (.int .i64) (.pair (.int .i64) (.list (.pair (.pair (.int .u8) (.pair (.int .i64) (.int .i64))) (.pair (.int .i64) (.int .i64)))))))))), (.dat (.int .i64))]), (.tmp 1 false [(.dat .str)]), (.tmp 2 false [(.dat (.int .i64))]), (.tmp 3 false [(.dat (.int .i64))])], [(.tmp 0 false [(.dat (.int .i64))]), (.tmp 1 false [(.dat (.int .u8))])], dialtoneref37_Cost⟩), (28, ⟨[(.tmp 0 false [(.dat (.int .i64))]), (.tmp 1 false [(.dat (.int .i64))]), (.tmp 2 false [(.dat (.int .i64))])], [(.tmp 0 false [(.dat .bool)])], rating_within⟩), (42, ⟨[(.tmp 0 true [(.dat (.int .u8)), (.dat (.int .i64)), (.dat (.int .i64))])], [(.tmp 0 false [(.dat .bool)])], rating_validBand⟩)]
theorem cons37_ok : ConL Try.prog cons37 := ⟨con39, con38, con30, con15, con27, con13, con34, con24, con41, con35, con20, con31, con17, con19, con28, con42, trivial⟩
theorem con37 : ConOk Try.prog 37 ⟨[(.tmp 0 true [(.dat (.int .u8)), (.dat (.int .i64)), (.dat (.int .i64)), (.dat (.int .i64)), (.dat (.int .i64))])], [(.tmp 0 false [(.dat .bool)])], rating_validPrice⟩ :=
  tree_ok (plan := planOf plan37) (eg := egNo) KK tabL_ok (conOf_ok cons37_ok) Try.func37 (by kernel_rfl) (by kernel_rfl) 10000 (fun a r h => Eq.trans (show _ = rating_validPrice a from by kernel_rfl) h)
/-! ### dialtone/rating.validRate -/
def plan29 : List (Nat × PL) := [(262657, (.carry [])), (134480385, (.carry [])), (18049651601311750, (.carry [.tmp 3 false [(.dat (.int .i64))]])), (18049651735527937, (.carry [])), (2422583247133816450713606, (.carry [.tmp 64 false [(.dat (.int .i64))]]))]
noncomputable def rating_validRate : ((List UInt8) × (Int × (Int × (Int × (List ((Int × (Int × Int)) × (Int × Int))))))) → Option Bool := fun (a1, (a2, (a3, (a4, a5)))) =>
  joinO (bif (decide ((((List.length a1) : Nat) : Int) > (20 : Int))) then
    outO (some Bool.false)
   else
    bif (decide (a2 < (0 : Int))) then
     outO (some Bool.false)
    else
     bif (decide (a2 > (1000000000 : Int))) then
      outO (some Bool.false)
     else
      bindO (rating_within (a3, ((1 : Int), (3600 : Int)))) fun x6 =>
      bif (!x6) then
       outO (some Bool.false)
      else
       bindO (rating_within (a4, ((1 : Int), (3600 : Int)))) fun x7 =>
       bif (!x7) then
        outO (some Bool.false)
       else
        some (Sum.inl ())) fun _ =>
  joinO (loopO (fun v8 =>
    bif (decide (v8 < (((List.length a1) : Nat) : Int))) then
     bif (decide (((0 : Int) ≤ v8) ∧ (v8 < (((List.length a1) : Nat) : Int)))) then 
      bif (decide ((((UInt8.toNat (List.getD a1 (Int.toNat v8) (0 : UInt8))) : Nat) : Int) < (48 : Int))) then
       outO (outO (some Bool.false))
      else
       bif (decide (((0 : Int) ≤ v8) ∧ (v8 < (((List.length a1) : Nat) : Int)))) then 
        bif (decide ((((UInt8.toNat (List.getD a1 (Int.toNat v8) (0 : UInt8))) : Nat) : Int) > (57 : Int))) then
         outO (outO (some Bool.false))
        else
         some (Sum.inl (Go.IntKind.wrap .i64 (v8 + (1 : Int))))
       else none
     else none
    else
     outO (some (Sum.inl ()))) (0 : Int)) fun _ =>
  bif (decide ((((List.length a5) : Nat) : Int) < (1 : Int))) then
   some Bool.false
  else
   bif (decide ((((List.length a5) : Nat) : Int) > (20 : Int))) then
    some Bool.false
   else
    joinO (loopO (fun v10 =>
      bif (decide (v10 < (((List.length a5) : Nat) : Int))) then
       bif (decide (((0 : Int) ≤ v10) ∧ (v10 < (((List.length a5) : Nat) : Int)))) then 
        bindO a5[(Int.toNat v10)]? fun x11 =>
        bindO (rating_validPrice (x11.1.1, (x11.1.2.1, (x11.1.2.2, (x11.2.1, x11.2.2))))) fun x12 =>
        bif (!x12) then
         outO (outO (some Bool.false))
        else
         some (Sum.inl (Go.IntKind.wrap .i64 (v10 + (1 : Int))))
       else none
      else
       outO (some (Sum.inl ()))) (0 : Int)) fun _ =>
    bindO (some (Go.IntKind.wrap .i64 ((((List.length a5) : Nat) : Int) - (1 : Int)))) fun x14 =>
    bif (decide (((0 : Int) ≤ x14) ∧ (x14 < (((List.length a5) : Nat) : Int)))) then 
     bindO a5[(Int.toNat x14)]? fun x15 =>
     some ((decide (x15.1.1 = (127 : Int))) && ((decide (x15.1.2.1 = (0 : Int))) && (decide (x15.1.2.2 = (1440 : Int)))))
    else none
noncomputable def cons29 : List (Nat × CE) := [(39, ⟨[(.tmp 0 true [(.dat (.int .u8)), (.dat (.int .i64)), (.dat (.int .i64))])], [(.tmp 0 false [(.dat .bool)])], dialtoneref37_Band⟩), (38, ⟨[(.tmp 0 false [(.dat (.int .i64))])], [(.tmp 0 false [(.dat .bool)])], dialtoneref37_money⟩), (30, ⟨[(.tmp 0 true [(.dat .str), (.dat (.int .i64)), (.dat (.int .i64)), (.dat (.int .i64)), (.dat (.list (.pair (.pair (.int .u8) (.pair (.int .i64) (.int .i64))) (.pair (.int .i64) (.int .i64)))))])], [(.tmp 0 false [(.dat .bool)])], dialtoneref37_Rate⟩), (15, ⟨[(.tmp 0 true [(.dat (.list (.pair .str (.pair (.int .i64) (.pair (.int .i64) (.pair (.int .i64) (.list (.pair (.pair (.int .u8) (.pair (.int .i64) (.int .i64))) (.pair (.int .i64) (.int .i64)))))))))), (.dat (.int .i64))])], [(.tmp 0 false [(.dat .bool)])], dialtoneref37_Valid⟩), (27, ⟨[(.tmp 0 false [(.dat .str)]), (.tmp 1 false [(.dat .str)])], [(.tmp 0 false [(.dat .bool)])], dialtoneref37_Begins⟩), (13, ⟨[(.tmp 0 true [(.dat (.list (.pair .str (.pair (.int .i64) (.pair (.int .i64) (.pair (.int .i64) (.list (.pair (.pair (.int .u8) (.pair (.int .i64) (.int .i64))) (.pair (.int .i64) (.int .i64)))))))))), (.dat (.int .i64))]), (.tmp 1 false [(.dat .str)])], [(.tmp 0 false [(.dat (.int .i64))]), (.tmp 1 false [(.dat .bool)])], dialtoneref37_Find⟩), (34, ⟨[(.tmp 0 false [(.dat (.int .i64))]), (.tmp 1 false [(.dat (.int .i64))])], [(.tmp 0 false [(.dat .bool)])], dialtoneref37_Span⟩), (24, ⟨[(.tmp 0 false [(.dat (.int .i64))]), (.tmp 1 false [(.dat (.int .i64))])], [(.tmp 0 false [(.dat (.int .i64))])], dialtoneref37_Seconds⟩), (41, ⟨[(.tmp 0 false [(.dat (.int .i64))])], [(.tmp 0 false [(.dat (.int .i64))])], dialtoneref37_bit⟩), (35, ⟨[(.tmp 0 true [(.dat (.int .u8)), (.dat (.int .i64)), (.dat (.int .i64))]), (.tmp 1 false [(.dat (.int .i64))])], [(.tmp 0 false [(.dat .bool)])], dialtoneref37_Contains⟩), (20, ⟨[(.tmp 0 true [(.dat .str), (.dat (.int .i64)), (.dat (.int .i64)), (.dat (.int .i64)), (.dat (.list (.pair (.pair (.int .u8) (.pair (.int .i64) (.int .i64))) (.pair (.int .i64) (.int .i64)))))]), (.tmp 1 false [(.dat (.int .i64))])], [(.tmp 0 false [(.dat (.int .i64))]), (.tmp 1 false [(.dat .bool)])], dialtoneref37_PriceAt⟩), (31, ⟨[(.tmp 0 true [(.dat .str), (.dat (.int .i64)), (.dat (.int .i64)), (.dat (.int .i64)), (.dat (.list (.pair (.pair (.int .u8) (.pair (.int .i64) (.int .i64))) (.pair (.int .i64) (.int .i64)))))]), (.tmp 1 false [(.dat (.int .i64))]), (.tmp 2 false [(.dat (.int .i64))])], [(.tmp 0 false [(.dat (.int .i64))])], dialtoneref37_Begin⟩), (17, ⟨[(.tmp 0 true [(.dat .str), (.dat (.int .i64)), (.dat (.int .i64)), (.dat (.int .i64)), (.dat (.list (.pair (.pair (.int .u8) (.pair (.int .i64) (.int .i64))) (.pair (.int .i64) (.int .i64)))))]), (.tmp 1 false [(.dat (.int .i64))]), (.tmp 2 false [(.dat (.int .i64))])], [(.tmp 0 false [(.dat (.int .i64))])], dialtoneref37_Pieces⟩), (19, ⟨[(.tmp 0 true [(.dat (.list (.pair .str (.pair (.int .i64) (.pair (.int .i64) (.pair (.int .i64) (.list (.pair (.pair (.int .u8) (.pair (.int .i64) (.int .i64))) (.pair (.int .i64) (.int .i64)))))))))), (.dat (.int .i64))]), (.tmp 1 false [(.dat .str)]), (.tmp 2 false [(.dat (.int .i64))]), (.tmp 3 false [(.dat (.int .i64))])], [(.tmp 0 false [(.dat (.int .i64))]), (.tmp 1 false [(.dat (.int .u8))])], dialtoneref37_Cost⟩), (28, ⟨[(.tmp 0 false [(.dat (.int .i64))]), (.tmp 1 false [(.dat (.int .i64))]), (.tmp 2 false [(.dat (.int .i64))])], [(.tmp 0 false [(.dat .bool)])], rating_within⟩), (42, ⟨[(.tmp 0 true [(.dat (.int .u8)), (.dat (.int .i64)), (.dat (.int .i64))])], [(.tmp 0 false [(.dat .bool)])], rating_validBand⟩), (37, ⟨[(.tmp 0 true [(.dat (.int .u8)), (.dat (.int .i64)), (.dat (.int .i64)), (.dat (.int .i64)), (.dat (.int .i64))])], [(.tmp 0 false [(.dat .bool)])], rating_validPrice⟩)]
theorem cons29_ok : ConL Try.prog cons29 := ⟨con39, con38, con30, con15, con27, con13, con34, con24, con41, con35, con20, con31, con17, con19, con28, con42, con37, trivial⟩
theorem con29 : ConOk Try.prog 29 ⟨[(.tmp 0 true [(.dat .str), (.dat (.int .i64)), (.dat (.int .i64)), (.dat (.int .i64)), (.dat (.list (.pair (.pair (.int .u8) (.pair (.int .i64) (.int .i64))) (.pair (.int .i64) (.int .i64)))))])], [(.tmp 0 false [(.dat .bool)])], rating_validRate⟩ :=
  tree_ok (plan := planOf plan29) (eg := egNo) KK tabL_ok (conOf_ok cons29_ok) Try.func29 (by kernel_rfl) (by kernel_rfl) 10000 (fun a r h => Eq.trans (show _ = rating_validRate a from by kernel_rfl) h)
/-! ### dialtone/rating.Valid -/
def plan14 : List (Nat × PL) := [(68853957121, (.carry [.mp 12])), (9241421688456087558, (.carry [.tmp 20 false [(.dat (.int .i64))], .mp 12]))]
noncomputable def rating_Valid : ((List ((List UInt8) × (Int × (Int × (Int × (List ((Int × (Int × Int)) × (Int × Int)))))))) × Int) → Option Bool := fun (a1, a2) =>
  bif (decide ((((List.length a1) : Nat) : Int) > (1000 : Int))) then
   some Bool.false
  else
   bindO (rating_within (a2, ((0 : Int), (3600 : Int)))) fun x3 =>
   bif (!x3) then
    some Bool.false
   else
    joinO (loopO (fun (v4, v5) =>
      bif (decide (v4 < (((List.length a1) : Nat) : Int))) then
       bif (decide (((0 : Int) ≤ v4) ∧ (v4 < (((List.length a1) : Nat) : Int)))) then 
        bindO a1[(Int.toNat v4)]? fun x6 =>
        bif (decide (Membership.mem v5 x6.1)) then
         outO (outO (some Bool.false))
        else
         bindO (rating_validRate (x6.1, (x6.2.1, (x6.2.2.1, (x6.2.2.2.1, x6.2.2.2.2))))) fun x7 =>
         bif (!x7) then
          outO (outO (some Bool.false))
         else
          some (Sum.inl ((Go.IntKind.wrap .i64 (v4 + (1 : Int))), (addK v5 x6.1)))
       else none
      else
       outO (some (Sum.inl v5))) ((0 : Int), ([] : List (List UInt8)))) fun v9 =>
    some Bool.true
noncomputable def cons14 : List (Nat × CE) := [(39, ⟨[(.tmp 0 true [(.dat (.int .u8)), (.dat (.int .i64)), (.dat (.int .i64))])], [(.tmp 0 false [(.dat .bool)])], dialtoneref37_Band⟩), (38, ⟨[(.tmp 0 false [(.dat (.int .i64))])], [(.tmp 0 false [(.dat .bool)])], dialtoneref37_money⟩), (30, ⟨[(.tmp 0 true [(.dat .str), (.dat (.int .i64)), (.dat (.int .i64)), (.dat (.int .i64)), (.dat (.list (.pair (.pair (.int .u8) (.pair (.int .i64) (.int .i64))) (.pair (.int .i64) (.int .i64)))))])], [(.tmp 0 false [(.dat .bool)])], dialtoneref37_Rate⟩), (15, ⟨[(.tmp 0 true [(.dat (.list (.pair .str (.pair (.int .i64) (.pair (.int .i64) (.pair (.int .i64) (.list (.pair (.pair (.int .u8) (.pair (.int .i64) (.int .i64))) (.pair (.int .i64) (.int .i64)))))))))), (.dat (.int .i64))])], [(.tmp 0 false [(.dat .bool)])], dialtoneref37_Valid⟩), (27, ⟨[(.tmp 0 false [(.dat .str)]), (.tmp 1 false [(.dat .str)])], [(.tmp 0 false [(.dat .bool)])], dialtoneref37_Begins⟩), (13, ⟨[(.tmp 0 true [(.dat (.list (.pair .str (.pair (.int .i64) (.pair (.int .i64) (.pair (.int .i64) (.list (.pair (.pair (.int .u8) (.pair (.int .i64) (.int .i64))) (.pair (.int .i64) (.int .i64)))))))))), (.dat (.int .i64))]), (.tmp 1 false [(.dat .str)])], [(.tmp 0 false [(.dat (.int .i64))]), (.tmp 1 false [(.dat .bool)])], dialtoneref37_Find⟩), (34, ⟨[(.tmp 0 false [(.dat (.int .i64))]), (.tmp 1 false [(.dat (.int .i64))])], [(.tmp 0 false [(.dat .bool)])], dialtoneref37_Span⟩), (24, ⟨[(.tmp 0 false [(.dat (.int .i64))]), (.tmp 1 false [(.dat (.int .i64))])], [(.tmp 0 false [(.dat (.int .i64))])], dialtoneref37_Seconds⟩), (41, ⟨[(.tmp 0 false [(.dat (.int .i64))])], [(.tmp 0 false [(.dat (.int .i64))])], dialtoneref37_bit⟩), (35, ⟨[(.tmp 0 true [(.dat (.int .u8)), (.dat (.int .i64)), (.dat (.int .i64))]), (.tmp 1 false [(.dat (.int .i64))])], [(.tmp 0 false [(.dat .bool)])], dialtoneref37_Contains⟩), (20, ⟨[(.tmp 0 true [(.dat .str), (.dat (.int .i64)), (.dat (.int .i64)), (.dat (.int .i64)), (.dat (.list (.pair (.pair (.int .u8) (.pair (.int .i64) (.int .i64))) (.pair (.int .i64) (.int .i64)))))]), (.tmp 1 false [(.dat (.int .i64))])], [(.tmp 0 false [(.dat (.int .i64))]), (.tmp 1 false [(.dat .bool)])], dialtoneref37_PriceAt⟩), (31, ⟨[(.tmp 0 true [(.dat .str), (.dat (.int .i64)), (.dat (.int .i64)), (.dat (.int .i64)), (.dat (.list (.pair (.pair (.int .u8) (.pair (.int .i64) (.int .i64))) (.pair (.int .i64) (.int .i64)))))]), (.tmp 1 false [(.dat (.int .i64))]), (.tmp 2 false [(.dat (.int .i64))])], [(.tmp 0 false [(.dat (.int .i64))])], dialtoneref37_Begin⟩), (17, ⟨[(.tmp 0 true [(.dat .str), (.dat (.int .i64)), (.dat (.int .i64)), (.dat (.int .i64)), (.dat (.list (.pair (.pair (.int .u8) (.pair (.int .i64) (.int .i64))) (.pair (.int .i64) (.int .i64)))))]), (.tmp 1 false [(.dat (.int .i64))]), (.tmp 2 false [(.dat (.int .i64))])], [(.tmp 0 false [(.dat (.int .i64))])], dialtoneref37_Pieces⟩), (19, ⟨[(.tmp 0 true [(.dat (.list (.pair .str (.pair (.int .i64) (.pair (.int .i64) (.pair (.int .i64) (.list (.pair (.pair (.int .u8) (.pair (.int .i64) (.int .i64))) (.pair (.int .i64) (.int .i64)))))))))), (.dat (.int .i64))]), (.tmp 1 false [(.dat .str)]), (.tmp 2 false [(.dat (.int .i64))]), (.tmp 3 false [(.dat (.int .i64))])], [(.tmp 0 false [(.dat (.int .i64))]), (.tmp 1 false [(.dat (.int .u8))])], dialtoneref37_Cost⟩), (28, ⟨[(.tmp 0 false [(.dat (.int .i64))]), (.tmp 1 false [(.dat (.int .i64))]), (.tmp 2 false [(.dat (.int .i64))])], [(.tmp 0 false [(.dat .bool)])], rating_within⟩), (42, ⟨[(.tmp 0 true [(.dat (.int .u8)), (.dat (.int .i64)), (.dat (.int .i64))])], [(.tmp 0 false [(.dat .bool)])], rating_validBand⟩), (37, ⟨[(.tmp 0 true [(.dat (.int .u8)), (.dat (.int .i64)), (.dat (.int .i64)), (.dat (.int .i64)), (.dat (.int .i64))])], [(.tmp 0 false [(.dat .bool)])], rating_validPrice⟩), (29, ⟨[(.tmp 0 true [(.dat .str), (.dat (.int .i64)), (.dat (.int .i64)), (.dat (.int .i64)), (.dat (.list (.pair (.pair (.int .u8) (.pair (.int .i64) (.int .i64))) (.pair (.int .i64) (.int .i64)))))])], [(.tmp 0 false [(.dat .bool)])], rating_validRate⟩)]
theorem cons14_ok : ConL Try.prog cons14 := ⟨con39, con38, con30, con15, con27, con13, con34, con24, con41, con35, con20, con31, con17, con19, con28, con42, con37, con29, trivial⟩
theorem con14 : ConOk Try.prog 14 ⟨[(.tmp 0 true [(.dat (.list (.pair .str (.pair (.int .i64) (.pair (.int .i64) (.pair (.int .i64) (.list (.pair (.pair (.int .u8) (.pair (.int .i64) (.int .i64))) (.pair (.int .i64) (.int .i64)))))))))), (.dat (.int .i64))])], [(.tmp 0 false [(.dat .bool)])], rating_Valid⟩ :=
  tree_ok (plan := planOf plan14) (eg := egNo) KK tabL_ok (conOf_ok cons14_ok) Try.func14 (by kernel_rfl) (by kernel_rfl) 10000 (fun a r h => Eq.trans (show _ = rating_Valid a from by kernel_rfl) h)
/-! ### strings.HasPrefix -/
def plan26 : List (Nat × PL) := []
noncomputable def strings_HasPrefix : ((List UInt8) × (List UInt8)) → Option Bool := fun (a1, a2) =>
  bif (decide ((((List.length a1) : Nat) : Int) ≥ (((List.length a2) : Nat) : Int))) then
   bif (decide (((0 : Int) ≤ (((List.length a2) : Nat) : Int)) ∧ ((((List.length a2) : Nat) : Int) ≤ (((List.length a1) : Nat) : Int)))) then 
    some (decide ((List.take (Int.toNat (((List.length a2) : Nat) : Int)) a1) = a2))
   else none
  else
   some Bool.false
noncomputable def cons26 : List (Nat × CE) := [(39, ⟨[(.tmp 0 true [(.dat (.int .u8)), (.dat (.int .i64)), (.dat (.int .i64))])], [(.tmp 0 false [(.dat .bool)])], dialtoneref37_Band⟩), (38, ⟨[(.tmp 0 false [(.dat (.int .i64))])], [(.tmp 0 false [(.dat .bool)])], dialtoneref37_money⟩), (30, ⟨[(.tmp 0 true [(.dat .str), (.dat (.int .i64)), (.dat (.int .i64)), (.dat (.int .i64)), (.dat (.list (.pair (.pair (.int .u8) (.pair (.int .i64) (.int .i64))) (.pair (.int .i64) (.int .i64)))))])], [(.tmp 0 false [(.dat .bool)])], dialtoneref37_Rate⟩), (15, ⟨[(.tmp 0 true [(.dat (.list (.pair .str (.pair (.int .i64) (.pair (.int .i64) (.pair (.int .i64) (.list (.pair (.pair (.int .u8) (.pair (.int .i64) (.int .i64))) (.pair (.int .i64) (.int .i64)))))))))), (.dat (.int .i64))])], [(.tmp 0 false [(.dat .bool)])], dialtoneref37_Valid⟩), (27, ⟨[(.tmp 0 false [(.dat .str)]), (.tmp 1 false [(.dat .str)])], [(.tmp 0 false [(.dat .bool)])], dialtoneref37_Begins⟩), (13, ⟨[(.tmp 0 true [(.dat (.list (.pair .str (.pair (.int .i64) (.pair (.int .i64) (.pair (.int .i64) (.list (.pair (.pair (.int .u8) (.pair (.int .i64) (.int .i64))) (.pair (.int .i64) (.int .i64)))))))))), (.dat (.int .i64))]), (.tmp 1 false [(.dat .str)])], [(.tmp 0 false [(.dat (.int .i64))]), (.tmp 1 false [(.dat .bool)])], dialtoneref37_Find⟩), (34, ⟨[(.tmp 0 false [(.dat (.int .i64))]), (.tmp 1 false [(.dat (.int .i64))])], [(.tmp 0 false [(.dat .bool)])], dialtoneref37_Span⟩), (24, ⟨[(.tmp 0 false [(.dat (.int .i64))]), (.tmp 1 false [(.dat (.int .i64))])], [(.tmp 0 false [(.dat (.int .i64))])], dialtoneref37_Seconds⟩), (41, ⟨[(.tmp 0 false [(.dat (.int .i64))])], [(.tmp 0 false [(.dat (.int .i64))])], dialtoneref37_bit⟩), (35, ⟨[(.tmp 0 true [(.dat (.int .u8)), (.dat (.int .i64)), (.dat (.int .i64))]), (.tmp 1 false [(.dat (.int .i64))])], [(.tmp 0 false [(.dat .bool)])], dialtoneref37_Contains⟩), (20, ⟨[(.tmp 0 true [(.dat .str), (.dat (.int .i64)), (.dat (.int .i64)), (.dat (.int .i64)), (.dat (.list (.pair (.pair (.int .u8) (.pair (.int .i64) (.int .i64))) (.pair (.int .i64) (.int .i64)))))]), (.tmp 1 false [(.dat (.int .i64))])], [(.tmp 0 false [(.dat (.int .i64))]), (.tmp 1 false [(.dat .bool)])], dialtoneref37_PriceAt⟩), (31, ⟨[(.tmp 0 true [(.dat .str), (.dat (.int .i64)), (.dat (.int .i64)), (.dat (.int .i64)), (.dat (.list (.pair (.pair (.int .u8) (.pair (.int .i64) (.int .i64))) (.pair (.int .i64) (.int .i64)))))]), (.tmp 1 false [(.dat (.int .i64))]), (.tmp 2 false [(.dat (.int .i64))])], [(.tmp 0 false [(.dat (.int .i64))])], dialtoneref37_Begin⟩), (17, ⟨[(.tmp 0 true [(.dat .str), (.dat (.int .i64)), (.dat (.int .i64)), (.dat (.int .i64)), (.dat (.list (.pair (.pair (.int .u8) (.pair (.int .i64) (.int .i64))) (.pair (.int .i64) (.int .i64)))))]), (.tmp 1 false [(.dat (.int .i64))]), (.tmp 2 false [(.dat (.int .i64))])], [(.tmp 0 false [(.dat (.int .i64))])], dialtoneref37_Pieces⟩), (19, ⟨[(.tmp 0 true [(.dat (.list (.pair .str (.pair (.int .i64) (.pair (.int .i64) (.pair (.int .i64) (.list (.pair (.pair (.int .u8) (.pair (.int .i64) (.int .i64))) (.pair (.int .i64) (.int .i64)))))))))), (.dat (.int .i64))]), (.tmp 1 false [(.dat .str)]), (.tmp 2 false [(.dat (.int .i64))]), (.tmp 3 false [(.dat (.int .i64))])], [(.tmp 0 false [(.dat (.int .i64))]), (.tmp 1 false [(.dat (.int .u8))])], dialtoneref37_Cost⟩), (28, ⟨[(.tmp 0 false [(.dat (.int .i64))]), (.tmp 1 false [(.dat (.int .i64))]), (.tmp 2 false [(.dat (.int .i64))])], [(.tmp 0 false [(.dat .bool)])], rating_within⟩), (42, ⟨[(.tmp 0 true [(.dat (.int .u8)), (.dat (.int .i64)), (.dat (.int .i64))])], [(.tmp 0 false [(.dat .bool)])], rating_validBand⟩), (37, ⟨[(.tmp 0 true [(.dat (.int .u8)), (.dat (.int .i64)), (.dat (.int .i64)), (.dat (.int .i64)), (.dat (.int .i64))])], [(.tmp 0 false [(.dat .bool)])], rating_validPrice⟩), (29, ⟨[(.tmp 0 true [(.dat .str), (.dat (.int .i64)), (.dat (.int .i64)), (.dat (.int .i64)), (.dat (.list (.pair (.pair (.int .u8) (.pair (.int .i64) (.int .i64))) (.pair (.int .i64) (.int .i64)))))])], [(.tmp 0 false [(.dat .bool)])], rating_validRate⟩), (14, ⟨[(.tmp 0 true [(.dat (.list (.pair .str (.pair (.int .i64) (.pair (.int .i64) (.pair (.int .i64) (.list (.pair (.pair (.int .u8) (.pair (.int .i64) (.int .i64))) (.pair (.int .i64) (.int .i64)))))))))), (.dat (.int .i64))])], [(.tmp 0 false [(.dat .bool)])], rating_Valid⟩)]
theorem cons26_ok : ConL Try.prog cons26 := ⟨con39, con38, con30, con15, con27, con13, con34, con24, con41, con35, con20, con31, con17, con19, con28, con42, con37, con29, con14, trivial⟩
theorem con26 : ConOk Try.prog 26 ⟨[(.tmp 0 false [(.dat .str)]), (.tmp 1 false [(.dat .str)])], [(.tmp 0 false [(.dat .bool)])], strings_HasPrefix⟩ :=
  tree_ok (plan := planOf plan26) (eg := egNo) KK tabL_ok (conOf_ok cons26_ok) Try.func26 (by kernel_rfl) (by kernel_rfl) 10000 (fun a r h => Eq.trans (show _ = strings_HasPrefix a from by kernel_rfl) h)
/-! ### dialtone/rating.Find -/
def plan12 : List (Nat × PL) := [(35253226045953, (.carry [.tmp 7 false [(.dat (.int .i64))]])), (4731607904558101301254, (.carry [.tmp 17 false [(.dat (.int .i64))], .tmp 7 false [(.dat (.int .i64))]]))]
noncomputable def rating_Find : (((List ((List UInt8) × (Int × (Int × (Int × (List ((Int × (Int × Int)) × (Int × Int)))))))) × Int) × (List UInt8)) → Option (Int × Bool) := fun ((a1, a2), a3) =>
  bindO (rating_Valid (a1, a2)) fun x4 =>
  bif (!x4) then
   some ((0 : Int), Bool.false)
  else
   joinO (loopO (fun (v5, v6) =>
     bif (decide (v5 < (((List.length a1) : Nat) : Int))) then
      bif (decide (((0 : Int) ≤ v5) ∧ (v5 < (((List.length a1) : Nat) : Int)))) then 
       bindO a1[(Int.toNat v5)]? fun x7 =>
       bindO (strings_HasPrefix (a3, x7.1)) fun x8 =>
       bif x8 then
        bif (decide (v6 < (0 : Int))) then
         some (Sum.inl ((Go.IntKind.wrap .i64 (v5 + (1 : Int))), v5))
        else
         bif (decide (((0 : Int) ≤ v6) ∧ (v6 < (((List.length a1) : Nat) : Int)))) then 
          bindO a1[(Int.toNat v6)]? fun x10 =>
          bif (decide ((((List.length x7.1) : Nat) : Int) > (((List.length x10.1) : Nat) : Int))) then
           some (Sum.inl ((Go.IntKind.wrap .i64 (v5 + (1 : Int))), v5))
          else
           some (Sum.inl ((Go.IntKind.wrap .i64 (v5 + (1 : Int))), v6))
         else none
       else
        some (Sum.inl ((Go.IntKind.wrap .i64 (v5 + (1 : Int))), v6))
      else none
     else
      outO (some (Sum.inl v6))) ((0 : Int), (-1 : Int))) fun v14 =>
   bif (decide (v14 < (0 : Int))) then
    some ((0 : Int), Bool.false)
   else
    some (v14, Bool.true)
noncomputable def cons12 : List (Nat × CE) := [(39, ⟨[(.tmp 0 true [(.dat (.int .u8)), (.dat (.int .i64)), (.dat (.int .i64))])], [(.tmp 0 false [(.dat .bool)])], dialtoneref37_Band⟩), (38, ⟨[(.tmp 0 false [(.dat (.int .i64))])], [(.tmp 0 false [(.dat .bool)])], dialtoneref37_money⟩), (30, ⟨[(.tmp 0 true [(.dat .str), (.dat (.int .i64)), (.dat (.int .i64)), (.dat (.int .i64)), (.dat (.list (.pair (.pair (.int .u8) (.pair (.int .i64) (.int .i64))) (.pair (.int .i64) (.int .i64)))))])], [(.tmp 0 false [(.dat .bool)])], dialtoneref37_Rate⟩), (15, ⟨[(.tmp 0 true [(.dat (.list (.pair .str (.pair (.int .i64) (.pair (.int .i64) (.pair (.int .i64) (.list (.pair (.pair (.int .u8) (.pair (.int .i64) (.int .i64))) (.pair (.int .i64) (.int .i64)))))))))), (.dat (.int .i64))])], [(.tmp 0 false [(.dat .bool)])], dialtoneref37_Valid⟩), (27, ⟨[(.tmp 0 false [(.dat .str)]), (.tmp 1 false [(.dat .str)])], [(.tmp 0 false [(.dat .bool)])], dialtoneref37_Begins⟩), (13, ⟨[(.tmp 0 true [(.dat (.list (.pair .str (.pair (.int .i64) (.pair (.int .i64) (.pair (.int .i64) (.list (.pair (.pair (.int .u8) (.pair (.int .i64) (.int .i64))) (.pair (.int .i64) (.int .i64)))))))))), (.dat (.int .i64))]), (.tmp 1 false [(.dat .str)])], [(.tmp 0 false [(.dat (.int .i64))]), (.tmp 1 false [(.dat .bool)])], dialtoneref37_Find⟩), (34, ⟨[(.tmp 0 false [(.dat (.int .i64))]), (.tmp 1 false [(.dat (.int .i64))])], [(.tmp 0 false [(.dat .bool)])], dialtoneref37_Span⟩), (24, ⟨[(.tmp 0 false [(.dat (.int .i64))]), (.tmp 1 false [(.dat (.int .i64))])], [(.tmp 0 false [(.dat (.int .i64))])], dialtoneref37_Seconds⟩), (41, ⟨[(.tmp 0 false [(.dat (.int .i64))])], [(.tmp 0 false [(.dat (.int .i64))])], dialtoneref37_bit⟩), (35, ⟨[(.tmp 0 true [(.dat (.int .u8)), (.dat (.int .i64)), (.dat (.int .i64))]), (.tmp 1 false [(.dat (.int .i64))])], [(.tmp 0 false [(.dat .bool)])], dialtoneref37_Contains⟩), (20, ⟨[(.tmp 0 true [(.dat .str), (.dat (.int .i64)), (.dat (.int .i64)), (.dat (.int .i64)), (.dat (.list (.pair (.pair (.int .u8) (.pair (.int .i64) (.int .i64))) (.pair (.int .i64) (.int .i64)))))]), (.tmp 1 false [(.dat (.int .i64))])], [(.tmp 0 false [(.dat (.int .i64))]), (.tmp 1 false [(.dat .bool)])], dialtoneref37_PriceAt⟩), (31, ⟨[(.tmp 0 true [(.dat .str), (.dat (.int .i64)), (.dat (.int .i64)), (.dat (.int .i64)), (.dat (.list (.pair (.pair (.int .u8) (.pair (.int .i64) (.int .i64))) (.pair (.int .i64) (.int .i64)))))]), (.tmp 1 false [(.dat (.int .i64))]), (.tmp 2 false [(.dat (.int .i64))])], [(.tmp 0 false [(.dat (.int .i64))])], dialtoneref37_Begin⟩), (17, ⟨[(.tmp 0 true [(.dat .str), (.dat (.int .i64)), (.dat (.int .i64)), (.dat (.int .i64)), (.dat (.list (.pair (.pair (.int .u8) (.pair (.int .i64) (.int .i64))) (.pair (.int .i64) (.int .i64)))))]), (.tmp 1 false [(.dat (.int .i64))]), (.tmp 2 false [(.dat (.int .i64))])], [(.tmp 0 false [(.dat (.int .i64))])], dialtoneref37_Pieces⟩), (19, ⟨[(.tmp 0 true [(.dat (.list (.pair .str (.pair (.int .i64) (.pair (.int .i64) (.pair (.int .i64) (.list (.pair (.pair (.int .u8) (.pair (.int .i64) (.int .i64))) (.pair (.int .i64) (.int .i64)))))))))), (.dat (.int .i64))]), (.tmp 1 false [(.dat .str)]), (.tmp 2 false [(.dat (.int .i64))]), (.tmp 3 false [(.dat (.int .i64))])], [(.tmp 0 false [(.dat (.int .i64))]), (.tmp 1 false [(.dat (.int .u8))])], dialtoneref37_Cost⟩), (28, ⟨[(.tmp 0 false [(.dat (.int .i64))]), (.tmp 1 false [(.dat (.int .i64))]), (.tmp 2 false [(.dat (.int .i64))])], [(.tmp 0 false [(.dat .bool)])], rating_within⟩), (42, ⟨[(.tmp 0 true [(.dat (.int .u8)), (.dat (.int .i64)), (.dat (.int .i64))])], [(.tmp 0 false [(.dat .bool)])], rating_validBand⟩), (37, ⟨[(.tmp 0 true [(.dat (.int .u8)), (.dat (.int .i64)), (.dat (.int .i64)), (.dat (.int .i64)), (.dat (.int .i64))])], [(.tmp 0 false [(.dat .bool)])], rating_validPrice⟩), (29, ⟨[(.tmp 0 true [(.dat .str), (.dat (.int .i64)), (.dat (.int .i64)), (.dat (.int .i64)), (.dat (.list (.pair (.pair (.int .u8) (.pair (.int .i64) (.int .i64))) (.pair (.int .i64) (.int .i64)))))])], [(.tmp 0 false [(.dat .bool)])], rating_validRate⟩), (14, ⟨[(.tmp 0 true [(.dat (.list (.pair .str (.pair (.int .i64) (.pair (.int .i64) (.pair (.int .i64) (.list (.pair (.pair (.int .u8) (.pair (.int .i64) (.int .i64))) (.pair (.int .i64) (.int .i64)))))))))), (.dat (.int .i64))])], [(.tmp 0 false [(.dat .bool)])], rating_Valid⟩), (26, ⟨[(.tmp 0 false [(.dat .str)]), (.tmp 1 false [(.dat .str)])], [(.tmp 0 false [(.dat .bool)])], strings_HasPrefix⟩)]
theorem cons12_ok : ConL Try.prog cons12 := ⟨con39, con38, con30, con15, con27, con13, con34, con24, con41, con35, con20, con31, con17, con19, con28, con42, con37, con29, con14, con26, trivial⟩
theorem con12 : ConOk Try.prog 12 ⟨[(.tmp 0 true [(.dat (.list (.pair .str (.pair (.int .i64) (.pair (.int .i64) (.pair (.int .i64) (.list (.pair (.pair (.int .u8) (.pair (.int .i64) (.int .i64))) (.pair (.int .i64) (.int .i64)))))))))), (.dat (.int .i64))]), (.tmp 1 false [(.dat .str)])], [(.tmp 0 false [(.dat (.int .i64))]), (.tmp 1 false [(.dat .bool)])], rating_Find⟩ :=
  tree_ok (plan := planOf plan12) (eg := egNo) KK tabL_ok (conOf_ok cons12_ok) Try.func12 (by kernel_rfl) (by kernel_rfl) 10000 (fun a r h => Eq.trans (show _ = rating_Find a from by kernel_rfl) h)
/-! ### dialtone/rating.Seconds -/
def plan22 : List (Nat × PL) := []
noncomputable def rating_Seconds : (Int × Int) → Option Int := fun (a1, a2) =>
  bindO (rating_within (a1, ((0 : Int), (281474976710656 : Int)))) fun x3 =>
  bif (!x3) then
   some (0 : Int)
  else
   bindO (rating_within (a2, (a1, (281474976710656 : Int)))) fun x4 =>
   bif (!x4) then
    some (0 : Int)
   else
    some (Go.IntKind.wrap .i64 (Int.tdiv (Go.IntKind.wrap .i64 ((Go.IntKind.wrap .i64 (a2 - a1)) + (999 : Int))) (1000 : Int)))
noncomputable def cons22 : List (Nat × CE) := [(39, ⟨[(.tmp 0 true [(.dat (.int .u8)), (.dat (.int .i64)), (.dat (.int .i64))])], [(.tmp 0 false [(.dat .bool)])], dialtoneref37_Band⟩), (38, ⟨[(.tmp 0 false [(.dat (.int .i64))])], [(.tmp 0 false [(.dat .bool)])], dialtoneref37_money⟩), (30, ⟨[(.tmp 0 true [(.dat .str), (.dat (.int .i64)), (.dat (.int .i64)), (.dat (.int .i64)), (.dat (.list (.pair (.pair (.int .u8) (.pair (.int .i64) (.int .i64))) (.pair (.int .i64) (.int .i64)))))])], [(.tmp 0 false [(.dat .bool)])], dialtoneref37_Rate⟩), (15, ⟨[(.tmp 0 true [(.dat (.list (.pair .str (.pair (.int .i64) (.pair (.int .i64) (.pair (.int .i64) (.list (.pair (.pair (.int .u8) (.pair (.int .i64) (.int .i64))) (.pair (.int .i64) (.int .i64)))))))))), (.dat (.int .i64))])], [(.tmp 0 false [(.dat .bool)])], dialtoneref37_Valid⟩), (27, ⟨[(.tmp 0 false [(.dat .str)]), (.tmp 1 false [(.dat .str)])], [(.tmp 0 false [(.dat .bool)])], dialtoneref37_Begins⟩), (13, ⟨[(.tmp 0 true [(.dat (.list (.pair .str (.pair (.int .i64) (.pair (.int .i64) (.pair (.int .i64) (.list (.pair (.pair (.int .u8) (.pair (.int .i64) (.int .i64))) (.pair (.int .i64) (.int .i64)))))))))), (.dat (.int .i64))]), (.tmp 1 false [(.dat .str)])], [(.tmp 0 false [(.dat (.int .i64))]), (.tmp 1 false [(.dat .bool)])], dialtoneref37_Find⟩), (34, ⟨[(.tmp 0 false [(.dat (.int .i64))]), (.tmp 1 false [(.dat (.int .i64))])], [(.tmp 0 false [(.dat .bool)])], dialtoneref37_Span⟩), (24, ⟨[(.tmp 0 false [(.dat (.int .i64))]), (.tmp 1 false [(.dat (.int .i64))])], [(.tmp 0 false [(.dat (.int .i64))])], dialtoneref37_Seconds⟩), (41, ⟨[(.tmp 0 false [(.dat (.int .i64))])], [(.tmp 0 false [(.dat (.int .i64))])], dialtoneref37_bit⟩), (35, ⟨[(.tmp 0 true [(.dat (.int .u8)), (.dat (.int .i64)), (.dat (.int .i64))]), (.tmp 1 false [(.dat (.int .i64))])], [(.tmp 0 false [(.dat .bool)])], dialtoneref37_Contains⟩), (20, ⟨[(.tmp 0 true [(.dat .str), (.dat (.int .i64)), (.dat (.int .i64)), (.dat (.int .i64)), (.dat (.list (.pair (.pair (.int .u8) (.pair (.int .i64) (.int .i64))) (.pair (.int .i64) (.int .i64)))))]), (.tmp 1 false [(.dat (.int .i64))])], [(.tmp 0 false [(.dat (.int .i64))]), (.tmp 1 false [(.dat .bool)])], dialtoneref37_PriceAt⟩), (31, ⟨[(.tmp 0 true [(.dat .str), (.dat (.int .i64)), (.dat (.int .i64)), (.dat (.int .i64)), (.dat (.list (.pair (.pair (.int .u8) (.pair (.int .i64) (.int .i64))) (.pair (.int .i64) (.int .i64)))))]), (.tmp 1 false [(.dat (.int .i64))]), (.tmp 2 false [(.dat (.int .i64))])], [(.tmp 0 false [(.dat (.int .i64))])], dialtoneref37_Begin⟩), (17, ⟨[(.tmp 0 true [(.dat .str), (.dat (.int .i64)), (.dat (.int .i64)), (.dat (.int .i64)), (.dat (.list (.pair (.pair (.int .u8) (.pair (.int .i64) (.int .i64))) (.pair (.int .i64) (.int .i64)))))]), (.tmp 1 false [(.dat (.int .i64))]), (.tmp 2 false [(.dat (.int .i64))])], [(.tmp 0 false [(.dat (.int .i64))])], dialtoneref37_Pieces⟩), (19, ⟨[(.tmp 0 true [(.dat (.list (.pair .str (.pair (.int .i64) (.pair (.int .i64) (.pair (.int .i64) (.list (.pair (.pair (.int .u8) (.pair (.int .i64) (.int .i64))) (.pair (.int .i64) (.int .i64)))))))))), (.dat (.int .i64))]), (.tmp 1 false [(.dat .str)]), (.tmp 2 false [(.dat (.int .i64))]), (.tmp 3 false [(.dat (.int .i64))])], [(.tmp 0 false [(.dat (.int .i64))]), (.tmp 1 false [(.dat (.int .u8))])], dialtoneref37_Cost⟩), (28, ⟨[(.tmp 0 false [(.dat (.int .i64))]), (.tmp 1 false [(.dat (.int .i64))]), (.tmp 2 false [(.dat (.int .i64))])], [(.tmp 0 false [(.dat .bool)])], rating_within⟩), (42, ⟨[(.tmp 0 true [(.dat (.int .u8)), (.dat (.int .i64)), (.dat (.int .i64))])], [(.tmp 0 false [(.dat .bool)])], rating_validBand⟩), (37, ⟨[(.tmp 0 true [(.dat (.int .u8)), (.dat (.int .i64)), (.dat (.int .i64)), (.dat (.int .i64)), (.dat (.int .i64))])], [(.tmp 0 false [(.dat .bool)])], rating_validPrice⟩), (29, ⟨[(.tmp 0 true [(.dat .str), (.dat (.int .i64)), (.dat (.int .i64)), (.dat (.int .i64)), (.dat (.list (.pair (.pair (.int .u8) (.pair (.int .i64) (.int .i64))) (.pair (.int .i64) (.int .i64)))))])], [(.tmp 0 false [(.dat .bool)])], rating_validRate⟩), (14, ⟨[(.tmp 0 true [(.dat (.list (.pair .str (.pair (.int .i64) (.pair (.int .i64) (.pair (.int .i64) (.list (.pair (.pair (.int .u8) (.pair (.int .i64) (.int .i64))) (.pair (.int .i64) (.int .i64)))))))))), (.dat (.int .i64))])], [(.tmp 0 false [(.dat .bool)])], rating_Valid⟩), (26, ⟨[(.tmp 0 false [(.dat .str)]), (.tmp 1 false [(.dat .str)])], [(.tmp 0 false [(.dat .bool)])], strings_HasPrefix⟩), (12, ⟨[(.tmp 0 true [(.dat (.list (.pair .str (.pair (.int .i64) (.pair (.int .i64) (.pair (.int .i64) (.list (.pair (.pair (.int .u8) (.pair (.int .i64) (.int .i64))) (.pair (.int .i64) (.int .i64)))))))))), (.dat (.int .i64))]), (.tmp 1 false [(.dat .str)])], [(.tmp 0 false [(.dat (.int .i64))]), (.tmp 1 false [(.dat .bool)])], rating_Find⟩)]
theorem cons22_ok : ConL Try.prog cons22 := ⟨con39, con38, con30, con15, con27, con13, con34, con24, con41, con35, con20, con31, con17, con19, con28, con42, con37, con29, con14, con26, con12, trivial⟩
theorem con22 : ConOk Try.prog 22 ⟨[(.tmp 0 false [(.dat (.int .i64))]), (.tmp 1 false [(.dat (.int .i64))])], [(.tmp 0 false [(.dat (.int .i64))])], rating_Seconds⟩ :=
  tree_ok (plan := planOf plan22) (eg := egNo) KK tabL_ok (conOf_ok cons22_ok) Try.func22 (by kernel_rfl) (by kernel_rfl) 10000 (fun a r h => Eq.trans (show _ = rating_Seconds a from by kernel_rfl) h)
/-! ### dialtone/rating.priceAt -/
def plan33 : List (Nat × PL) := [(134480385, (.carry [])), (18049651601311750, (.carry [.tmp 17 false [(.dat (.int .i64))]]))]
noncomputable def rating_priceAt : ((List ((Int × (Int × Int)) × (Int × Int))) × Int) → Option Int := fun (a1, a2) =>
  bindO (some (Int.tmod (Go.IntKind.wrap .i64 (Int.tdiv a2 (86400000 : Int))) (7 : Int))) fun x4 =>
  bindO (some (Int.tmod (Go.IntKind.wrap .i64 (Int.tdiv a2 (60000 : Int))) (1440 : Int))) fun x6 =>
  joinO (loopO (fun v7 =>
    bif (decide (v7 < (((List.length a1) : Nat) : Int))) then
     bif (decide (((0 : Int) ≤ v7) ∧ (v7 < (((List.length a1) : Nat) : Int)))) then 
      bindO a1[(Int.toNat v7)]? fun x8 =>
      bif (decide ((0 : Int) ≤ x4)) then 
       bif (decide ((Go.IntKind.wrap .u8 (((BitVec.toNat ((BitVec.ofInt 8 (Int.fdiv x8.1.1 ((2 : Int) ^ (Min.min (Int.toNat x4) 8)))) &&& (BitVec.ofInt 8 (1 : Int)))) : Nat) : Int)) = (1 : Int))) then
        bif (decide (x6 ≥ x8.1.2.1)) then
         bif (decide (x6 < x8.1.2.2)) then
          outO (outO (some v7))
         else
          some (Sum.inl (Go.IntKind.wrap .i64 (v7 + (1 : Int))))
        else
         some (Sum.inl (Go.IntKind.wrap .i64 (v7 + (1 : Int))))
       else
        some (Sum.inl (Go.IntKind.wrap .i64 (v7 + (1 : Int))))
      else none
     else none
    else
     outO (some (Sum.inl ()))) (0 : Int)) fun _ =>
  some (-1 : Int)
noncomputable def cons33 : List (Nat × CE) := [(39, ⟨[(.tmp 0 true [(.dat (.int .u8)), (.dat (.int .i64)), (.dat (.int .i64))])], [(.tmp 0 false [(.dat .bool)])], dialtoneref37_Band⟩), (38, ⟨[(.tmp 0 false [(.dat (.int .i64))])], [(.tmp 0 false [(.dat .bool)])], dialtoneref37_money⟩), (30, ⟨[(.tmp 0 true [(.dat .str), (.dat (.int .i64)), (.dat (.int .i64)), (.dat (.int .i64)), (.dat (.list (.pair (.pair (.int .u8) (.pair (.int .i64) (.int .i64))) (.pair (.int .i64) (.int .i64)))))])], [(.tmp 0 false [(.dat .bool)])], dialtoneref37_Rate⟩), (15, ⟨[(.tmp 0 true [(.dat (.list (.pair .str (.pair (.int .i64) (.pair (.int .i64) (.pair (.int .i64) (.list (.pair (.pair (.int .u8) (.pair (.int .i64) (.int .i64))) (.pair (.int .i64) (.int .i64)))))))))), (.dat (.int .i64))])], [(.tmp 0 false [(.dat .bool)])], dialtoneref37_Valid⟩), (27, ⟨[(.tmp 0 false [(.dat .str)]), (.tmp 1 false [(.dat .str)])], [(.tmp 0 false [(.dat .bool)])], dialtoneref37_Begins⟩), (13, ⟨[(.tmp 0 true [(.dat (.list (.pair .str (.pair (.int .i64) (.pair (.int .i64) (.pair (.int .i64) (.list (.pair (.pair (.int .u8) (.pair (.int .i64) (.int .i64))) (.pair (.int .i64) (.int .i64)))))))))), (.dat (.int .i64))]), (.tmp 1 false [(.dat .str)])], [(.tmp 0 false [(.dat (.int .i64))]), (.tmp 1 false [(.dat .bool)])], dialtoneref37_Find⟩), (34, ⟨[(.tmp 0 false [(.dat (.int .i64))]), (.tmp 1 false [(.dat (.int .i64))])], [(.tmp 0 false [(.dat .bool)])], dialtoneref37_Span⟩), (24, ⟨[(.tmp 0 false [(.dat (.int .i64))]), (.tmp 1 false [(.dat (.int .i64))])], [(.tmp 0 false [(.dat (.int .i64))])], dialtoneref37_Seconds⟩), (41, ⟨[(.tmp 0 false [(.dat (.int .i64))])], [(.tmp 0 false [(.dat (.int .i64))])], dialtoneref37_bit⟩), (35, ⟨[(.tmp 0 true [(.dat (.int .u8)), (.dat (.int .i64)), (.dat (.int .i64))]), (.tmp 1 false [(.dat (.int .i64))])], [(.tmp 0 false [(.dat .bool)])], dialtoneref37_Contains⟩), (20, ⟨[(.tmp 0 true [(.dat .str), (.dat (.int .i64)), (.dat (.int .i64)), (.dat (.int .i64)), (.dat (.list (.pair (.pair (.int .u8) (.pair (.int .i64) (.int .i64))) (.pair (.int .i64) (.int .i64)))))]), (.tmp 1 false [(.dat (.int .i64))])], [(.tmp 0 false [(.dat (.int .i64))]), (.tmp 1 false [(.dat .bool)])], dialtoneref37_PriceAt⟩), (31, ⟨[(.tmp 0 true [(.dat .str), (.dat (.int .i64)), (.dat (.int .i64)), (.dat (.int .i64)), (.dat (.list (.pair (.pair (.int .u8) (.pair (.int .i64) (.int .i64))) (.pair (.int .i64) (.int .i64)))))]), (.tmp 1 false [(.dat (.int .i64))]), (.tmp 2 false [(.dat (.int .i64))])], [(.tmp 0 false [(.dat (.int .i64))])], dialtoneref37_Begin⟩), (17, ⟨[(.tmp 0 true [(.dat .str), (.dat (.int .i64)), (.dat (.int .i64)), (.dat (.int .i64)), (.dat (.list (.pair (.pair (.int .u8) (.pair (.int .i64) (.int .i64))) (.pair (.int .i64) (.int .i64)))))]), (.tmp 1 false [(.dat (.int .i64))]), (.tmp 2 false [(.dat (.int .i64))])], [(.tmp 0 false [(.dat (.int .i64))])], dialtoneref37_Pieces⟩), (19, ⟨[(.tmp 0 true [(.dat (.list (.pair .str (.pair (.int .i64) (.pair (.int .i64) (.pair (.int .i64) (.list (.pair (.pair (.int .u8) (.pair (.int .i64) (.int .i64))) (.pair (.int .i64) (.int .i64)))))))))), (.dat (.int .i64))]), (.tmp 1 false [(.dat .str)]), (.tmp 2 false [(.dat (.int .i64))]), (.tmp 3 false [(.dat (.int .i64))])], [(.tmp 0 false [(.dat (.int .i64))]), (.tmp 1 false [(.dat (.int .u8))])], dialtoneref37_Cost⟩), (28, ⟨[(.tmp 0 false [(.dat (.int .i64))]), (.tmp 1 false [(.dat (.int .i64))]), (.tmp 2 false [(.dat (.int .i64))])], [(.tmp 0 false [(.dat .bool)])], rating_within⟩), (42, ⟨[(.tmp 0 true [(.dat (.int .u8)), (.dat (.int .i64)), (.dat (.int .i64))])], [(.tmp 0 false [(.dat .bool)])], rating_validBand⟩), (37, ⟨[(.tmp 0 true [(.dat (.int .u8)), (.dat (.int .i64)), (.dat (.int .i64)), (.dat (.int .i64)), (.dat (.int .i64))])], [(.tmp 0 false [(.dat .bool)])], rating_validPrice⟩), (29, ⟨[(.tmp 0 true [(.dat .str), (.dat (.int .i64)), (.dat (.int .i64)), (.dat (.int .i64)), (.dat (.list (.pair (.pair (.int .u8) (.pair (.int .i64) (.int .i64))) (.pair (.int .i64) (.int .i64)))))])], [(.tmp 0 false [(.dat .bool)])], rating_validRate⟩), (14, ⟨[(.tmp 0 true [(.dat (.list (.pair .str (.pair (.int .i64) (.pair (.int .i64) (.pair (.int .i64) (.list (.pair (.pair (.int .u8) (.pair (.int .i64) (.int .i64))) (.pair (.int .i64) (.int .i64)))))))))), (.dat (.int .i64))])], [(.tmp 0 false [(.dat .bool)])], rating_Valid⟩), (26, ⟨[(.tmp 0 false [(.dat .str)]), (.tmp 1 false [(.dat .str)])], [(.tmp 0 false [(.dat .bool)])], strings_HasPrefix⟩), (12, ⟨[(.tmp 0 true [(.dat (.list (.pair .str (.pair (.int .i64) (.pair (.int .i64) (.pair (.int .i64) (.list (.pair (.pair (.int .u8) (.pair (.int .i64) (.int .i64))) (.pair (.int .i64) (.int .i64)))))))))), (.dat (.int .i64))]), (.tmp 1 false [(.dat .str)])], [(.tmp 0 false [(.dat (.int .i64))]), (.tmp 1 false [(.dat .bool)])], rating_Find⟩), (22, ⟨[(.tmp 0 false [(.dat (.int .i64))]), (.tmp 1 false [(.dat (.int .i64))])], [(.tmp 0 false [(.dat (.int .i64))])], rating_Seconds⟩)]
theorem cons33_ok : ConL Try.prog cons33 := ⟨con39, con38, con30, con15, con27, con13, con34, con24, con41, con35, con20, con31, con17, con19, con28, con42, con37, con29, con14, con26, con12, con22, trivial⟩
theorem con33 : ConOk Try.prog 33 ⟨[(.tmp 0 false [(.dat (.list (.pair (.pair (.int .u8) (.pair (.int .i64) (.int .i64))) (.pair (.int .i64) (.int .i64)))))]), (.tmp 1 false [(.dat (.int .i64))])], [(.tmp 0 false [(.dat (.int .i64))])], rating_priceAt⟩ :=
  tree_ok (plan := planOf plan33) (eg := egNo) KK tabL_ok (conOf_ok cons33_ok) Try.func33 (by kernel_rfl) (by kernel_rfl) 10000 (fun a r h => Eq.trans (show _ = rating_priceAt a from by kernel_rfl) h)
/-! ### dialtone/rating.PriceAt -/
def plan23 : List (Nat × PL) := []
noncomputable def rating_PriceAt : (((List UInt8) × (Int × (Int × (Int × (List ((Int × (Int × Int)) × (Int × Int))))))) × Int) → Option (Int × Bool) := fun ((a1, (a2, (a3, (a4, a5)))), a6) =>
  bindO (rating_validRate (a1, (a2, (a3, (a4, a5))))) fun x7 =>
  bif (!x7) then
   some ((0 : Int), Bool.false)
  else
   bindO (rating_within (a6, ((0 : Int), (562949953421312 : Int)))) fun x8 =>
   bif (!x8) then
    some ((0 : Int), Bool.false)
   else
    bindO (rating_priceAt (a5, a6)) fun x9 =>
    bif (decide (x9 < (0 : Int))) then
     some ((0 : Int), Bool.false)
    else
     some (x9, Bool.true)
noncomputable def cons23 : List (Nat × CE) := [(39, ⟨[(.tmp 0 true [(.dat (.int .u8)), (.dat (.int .i64)), (.dat (.int .i64))])], [(.tmp 0 false [(.dat .bool)])], dialtoneref37_Band⟩), (38, ⟨[(.tmp 0 false [(.dat (.int .i64))])], [(.tmp 0 false [(.dat .bool)])], dialtoneref37_money⟩), (30, ⟨[(.tmp 0 true [(.dat .str), (.dat (.int .i64)), (.dat (.int .i64)), (.dat (.int .i64)), (.dat (.list (.pair (.pair (.int .u8) (.pair (.int .i64) (.int .i64))) (.pair (.int .i64) (.int .i64)))))])], [(.tmp 0 false [(.dat .bool)])], dialtoneref37_Rate⟩), (15, ⟨[(.tmp 0 true [(.dat (.list (.pair .str (.pair (.int .i64) (.pair (.int .i64) (.pair (.int .i64) (.list (.pair (.pair (.int .u8) (.pair (.int .i64) (.int .i64))) (.pair (.int .i64) (.int .i64)))))))))), (.dat (.int .i64))])], [(.tmp 0 false [(.dat .bool)])], dialtoneref37_Valid⟩), (27, ⟨[(.tmp 0 false [(.dat .str)]), (.tmp 1 false [(.dat .str)])], [(.tmp 0 false [(.dat .bool)])], dialtoneref37_Begins⟩), (13, ⟨[(.tmp 0 true [(.dat (.list (.pair .str (.pair (.int .i64) (.pair (.int .i64) (.pair (.int .i64) (.list (.pair (.pair (.int .u8) (.pair (.int .i64) (.int .i64))) (.pair (.int .i64) (.int .i64)))))))))), (.dat (.int .i64))]), (.tmp 1 false [(.dat .str)])], [(.tmp 0 false [(.dat (.int .i64))]), (.tmp 1 false [(.dat .bool)])], dialtoneref37_Find⟩), (34, ⟨[(.tmp 0 false [(.dat (.int .i64))]), (.tmp 1 false [(.dat (.int .i64))])], [(.tmp 0 false [(.dat .bool)])], dialtoneref37_Span⟩), (24, ⟨[(.tmp 0 false [(.dat (.int .i64))]), (.tmp 1 false [(.dat (.int .i64))])], [(.tmp 0 false [(.dat (.int .i64))])], dialtoneref37_Seconds⟩), (41, ⟨[(.tmp 0 false [(.dat (.int .i64))])], [(.tmp 0 false [(.dat (.int .i64))])], dialtoneref37_bit⟩), (35, ⟨[(.tmp 0 true [(.dat (.int .u8)), (.dat (.int .i64)), (.dat (.int .i64))]), (.tmp 1 false [(.dat (.int .i64))])], [(.tmp 0 false [(.dat .bool)])], dialtoneref37_Contains⟩), (20, ⟨[(.tmp 0 true [(.dat .str), (.dat (.int .i64)), (.dat (.int .i64)), (.dat (.int .i64)), (.dat (.list (.pair (.pair (.int .u8) (.pair (.int .i64) (.int .i64))) (.pair (.int .i64) (.int .i64)))))]), (.tmp 1 false [(.dat (.int .i64))])], [(.tmp 0 false [(.dat (.int .i64))]), (.tmp 1 false [(.dat .bool)])], dialtoneref37_PriceAt⟩), (31, ⟨[(.tmp 0 true [(.dat .str), (.dat (.int .i64)), (.dat (.int .i64)), (.dat (.int .i64)), (.dat (.list (.pair (.pair (.int .u8) (.pair (.int .i64) (.int .i64))) (.pair (.int .i64) (.int .i64)))))]), (.tmp 1 false [(.dat (.int .i64))]), (.tmp 2 false [(.dat (.int .i64))])], [(.tmp 0 false [(.dat (.int .i64))])], dialtoneref37_Begin⟩), (17, ⟨[(.tmp 0 true [(.dat .str), (.dat (.int .i64)), (.dat (.int .i64)), (.dat (.int .i64)), (.dat (.list (.pair (.pair (.int .u8) (.pair (.int .i64) (.int .i64))) (.pair (.int .i64) (.int .i64)))))]), (.tmp 1 false [(.dat (.int .i64))]), (.tmp 2 false [(.dat (.int .i64))])], [(.tmp 0 false [(.dat (.int .i64))])], dialtoneref37_Pieces⟩), (19, ⟨[(.tmp 0 true [(.dat (.list (.pair .str (.pair (.int .i64) (.pair (.int .i64) (.pair (.int .i64) (.list (.pair (.pair (.int .u8) (.pair (.int .i64) (.int .i64))) (.pair (.int .i64) (.int .i64)))))))))), (.dat (.int .i64))]), (.tmp 1 false [(.dat .str)]), (.tmp 2 false [(.dat (.int .i64))]), (.tmp 3 false [(.dat (.int .i64))])], [(.tmp 0 false [(.dat (.int .i64))]), (.tmp 1 false [(.dat (.int .u8))])], dialtoneref37_Cost⟩), (28, ⟨[(.tmp 0 false [(.dat (.int .i64))]), (.tmp 1 false [(.dat (.int .i64))]), (.tmp 2 false [(.dat (.int .i64))])], [(.tmp 0 false [(.dat .bool)])], rating_within⟩), (42, ⟨[(.tmp 0 true [(.dat (.int .u8)), (.dat (.int .i64)), (.dat (.int .i64))])], [(.tmp 0 false [(.dat .bool)])], rating_validBand⟩), (37, ⟨[(.tmp 0 true [(.dat (.int .u8)), (.dat (.int .i64)), (.dat (.int .i64)), (.dat (.int .i64)), (.dat (.int .i64))])], [(.tmp 0 false [(.dat .bool)])], rating_validPrice⟩), (29, ⟨[(.tmp 0 true [(.dat .str), (.dat (.int .i64)), (.dat (.int .i64)), (.dat (.int .i64)), (.dat (.list (.pair (.pair (.int .u8) (.pair (.int .i64) (.int .i64))) (.pair (.int .i64) (.int .i64)))))])], [(.tmp 0 false [(.dat .bool)])], rating_validRate⟩), (14, ⟨[(.tmp 0 true [(.dat (.list (.pair .str (.pair (.int .i64) (.pair (.int .i64) (.pair (.int .i64) (.list (.pair (.pair (.int .u8) (.pair (.int .i64) (.int .i64))) (.pair (.int .i64) (.int .i64)))))))))), (.dat (.int .i64))])], [(.tmp 0 false [(.dat .bool)])], rating_Valid⟩), (26, ⟨[(.tmp 0 false [(.dat .str)]), (.tmp 1 false [(.dat .str)])], [(.tmp 0 false [(.dat .bool)])], strings_HasPrefix⟩), (12, ⟨[(.tmp 0 true [(.dat (.list (.pair .str (.pair (.int .i64) (.pair (.int .i64) (.pair (.int .i64) (.list (.pair (.pair (.int .u8) (.pair (.int .i64) (.int .i64))) (.pair (.int .i64) (.int .i64)))))))))), (.dat (.int .i64))]), (.tmp 1 false [(.dat .str)])], [(.tmp 0 false [(.dat (.int .i64))]), (.tmp 1 false [(.dat .bool)])], rating_Find⟩), (22, ⟨[(.tmp 0 false [(.dat (.int .i64))]), (.tmp 1 false [(.dat (.int .i64))])], [(.tmp 0 false [(.dat (.int .i64))])], rating_Seconds⟩), (33, ⟨[(.tmp 0 false [(.dat (.list (.pair (.pair (.int .u8) (.pair (.int .i64) (.int .i64))) (.pair (.int .i64) (.int .i64)))))]), (.tmp 1 false [(.dat (.int .i64))])], [(.tmp 0 false [(.dat (.int .i64))])], rating_priceAt⟩)]
theorem cons23_ok : ConL Try.prog cons23 := ⟨con39, con38, con30, con15, con27, con13, con34, con24, con41, con35, con20, con31, con17, con19, con28, con42, con37, con29, con14, con26, con12, con22, con33, trivial⟩
theorem con23 : ConOk Try.prog 23 ⟨[(.tmp 0 true [(.dat .str), (.dat (.int .i64)), (.dat (.int .i64)), (.dat (.int .i64)), (.dat (.list (.pair (.pair (.int .u8) (.pair (.int .i64) (.int .i64))) (.pair (.int .i64) (.int .i64)))))]), (.tmp 1 false [(.dat (.int .i64))])], [(.tmp 0 false [(.dat (.int .i64))]), (.tmp 1 false [(.dat .bool)])], rating_PriceAt⟩ :=
  tree_ok (plan := planOf plan23) (eg := egNo) KK tabL_ok (conOf_ok cons23_ok) Try.func23 (by kernel_rfl) (by kernel_rfl) 10000 (fun a r h => Eq.trans (show _ = rating_PriceAt a from by kernel_rfl) h)
/-! ### dialtone/rating.Pieces -/
def plan16 : List (Nat × PL) := [(262657, (.carry []))]
noncomputable def rating_Pieces : (((List UInt8) × (Int × (Int × (Int × (List ((Int × (Int × Int)) × (Int × Int))))))) × (Int × Int)) → Option Int := fun ((a1, (a2, (a3, (a4, a5)))), (a6, a7)) =>
  joinO (bindO (rating_validRate (a1, (a2, (a3, (a4, a5))))) fun x8 =>
   bif (!x8) then
    outO (some (0 : Int))
   else
    bindO (rating_within (a6, ((0 : Int), (3600 : Int)))) fun x9 =>
    bif (!x9) then
     outO (some (0 : Int))
    else
     bindO (rating_within (a7, ((0 : Int), (1000000 : Int)))) fun x10 =>
     bif (!x10) then
      outO (some (0 : Int))
     else
      bif (decide (a7 ≤ a6)) then
       outO (some (0 : Int))
      else
       some (Sum.inl ())) fun _ =>
  bindO (some (Go.IntKind.wrap .i64 ((Go.IntKind.wrap .i64 (a7 - a6)) - a3))) fun x12 =>
  bif (decide (x12 ≤ (0 : Int))) then
   some (1 : Int)
  else
   bif (decide (a4 ≠ (0 : Int))) then 
    some (Go.IntKind.wrap .i64 ((1 : Int) + (Go.IntKind.wrap .i64 (Int.tdiv (Go.IntKind.wrap .i64 ((Go.IntKind.wrap .i64 (x12 + a4)) - (1 : Int))) a4))))
   else none
noncomputable def cons16 : List (Nat × CE) := [(39, ⟨[(.tmp 0 true [(.dat (.int .u8)), (.dat (.int .i64)), (.dat (.int .i64))])], [(.tmp 0 false [(.dat .bool)])], dialtoneref37_Band⟩), (38, ⟨[(.tmp 0 false [(.dat (.int .i64))])], [(.tmp 0 false [(.dat .bool)])], dialtoneref37_money⟩), (30, ⟨[(.tmp 0 true [(.dat .str), (.dat (.int .i64)), (.dat (.int .i64)), (.dat (.int .i64)), (.dat (.list (.pair (.pair (.int .u8) (.pair (.int .i64) (.int .i64))) (.pair (.int .i64) (.int .i64)))))])], [(.tmp 0 false [(.dat .bool)])], dialtoneref37_Rate⟩), (15, ⟨[(.tmp 0 true [(.dat (.list (.pair .str (.pair (.int .i64) (.pair (.int .i64) (.pair (.int .i64) (.list (.pair (.pair (.int .u8) (.pair (.int .i64) (.int .i64))) (.pair (.int .i64) (.int .i64)))))))))), (.dat (.int .i64))])], [(.tmp 0 false [(.dat .bool)])], dialtoneref37_Valid⟩), (27, ⟨[(.tmp 0 false [(.dat .str)]), (.tmp 1 false [(.dat .str)])], [(.tmp 0 false [(.dat .bool)])], dialtoneref37_Begins⟩), (13, ⟨[(.tmp 0 true [(.dat (.list (.pair .str (.pair (.int .i64) (.pair (.int .i64) (.pair (.int .i64) (.list (.pair (.pair (.int .u8) (.pair (.int .i64) (.int .i64))) (.pair (.int .i64) (.int .i64)))))))))), (.dat (.int .i64))]), (.tmp 1 false [(.dat .str)])], [(.tmp 0 false [(.dat (.int .i64))]), (.tmp 1 false [(.dat .bool)])], dialtoneref37_Find⟩), (34, ⟨[(.tmp 0 false [(.dat (.int .i64))]), (.tmp 1 false [(.dat (.int .i64))])], [(.tmp 0 false [(.dat .bool)])], dialtoneref37_Span⟩), (24, ⟨[(.tmp 0 false [(.dat (.int .i64))]), (.tmp 1 false [(.dat (.int .i64))])], [(.tmp 0 false [(.dat (.int .i64))])], dialtoneref37_Seconds⟩), (41, ⟨[(.tmp 0 false [(.dat (.int .i64))])], [(.tmp 0 false [(.dat (.int .i64))])], dialtoneref37_bit⟩), (35, ⟨[(.tmp 0 true [(.dat (.int .u8)), (.dat (.int .i64)), (.dat (.int .i64))]), (.tmp 1 false [(.dat (.int .i64))])], [(.tmp 0 false [(.dat .bool)])], dialtoneref37_Contains⟩), (20, ⟨[(.tmp 0 true [(.dat .str), (.dat (.int .i64)), (.dat (.int .i64)), (.dat (.int .i64)), (.dat (.list (.pair (.pair (.int .u8) (.pair (.int .i64) (.int .i64))) (.pair (.int .i64) (.int .i64)))))]), (.tmp 1 false [(.dat (.int .i64))])], [(.tmp 0 false [(.dat (.int .i64))]), (.tmp 1 false [(.dat .bool)])], dialtoneref37_PriceAt⟩), (31, ⟨[(.tmp 0 true [(.dat .str), (.dat (.int .i64)), (.dat (.int .i64)), (.dat (.int .i64)), (.dat (.list (.pair (.pair (.int .u8) (.pair (.int .i64) (.int .i64))) (.pair (.int .i64) (.int .i64)))))]), (.tmp 1 false [(.dat (.int .i64))]), (.tmp 2 false [(.dat (.int .i64))])], [(.tmp 0 false [(.dat (.int .i64))])], dialtoneref37_Begin⟩), (17, ⟨[(.tmp 0 true [(.dat .str), (.dat (.int .i64)), (.dat (.int .i64)), (.dat (.int .i64)), (.dat (.list (.pair (.pair (.int .u8) (.pair (.int .i64) (.int .i64))) (.pair (.int .i64) (.int .i64)))))]), (.tmp 1 false [(.dat (.int .i64))]), (.tmp 2 false [(.dat (.int .i64))])], [(.tmp 0 false [(.dat (.int .i64))])], dialtoneref37_Pieces⟩), (19, ⟨[(.tmp 0 true [(.dat (.list (.pair .str (.pair (.int .i64) (.pair (.int .i64) (.pair (.int .i64) (.list (.pair (.pair (.int .u8) (.pair (.int .i64) (.int .i64))) (.pair (.int .i64) (.int .i64)))))))))), (.dat (.int .i64))]), (.tmp 1 false [(.dat .str)]), (.tmp 2 false [(.dat (.int .i64))]), (.tmp 3 false [(.dat (.int .i64))])], [(.tmp 0 false [(.dat (.int .i64))]), (.tmp 1 false [(.dat (.int .u8))])], dialtoneref37_Cost⟩), (28, ⟨[(.tmp 0 false [(.dat (.int .i64))]), (.tmp 1 false [(.dat (.int .i64))]), (.tmp 2 false [(.dat (.int .i64))])], [(.tmp 0 false [(.dat .bool)])], rating_within⟩), (42, ⟨[(.tmp 0 true [(.dat (.int .u8)), (.dat (.int .i64)), (.dat (.int .i64))])], [(.tmp 0 false [(.dat .bool)])], rating_validBand⟩), (37, ⟨[(.tmp 0 true [(.dat (.int .u8)), (.dat (.int .i64)), (.dat (.int .i64)), (.dat (.int .i64)), (.dat (.int .i64))])], [(.tmp 0 false [(.dat .bool)])], rating_validPrice⟩), (29, ⟨[(.tmp 0 true [(.dat .str), (.dat (.int .i64)), (.dat (.int .i64)), (.dat (.int .i64)), (.dat (.list (.pair (.pair (.int .u8) (.pair (.int .i64) (.int .i64))) (.pair (.int .i64) (.int .i64)))))])], [(.tmp 0 false [(.dat .bool)])], rating_validRate⟩), (14, ⟨[(.tmp 0 true [(.dat (.list (.pair .str (.pair (.int .i64) (.pair (.int .i64) (.pair (.int .i64) (.list (.pair (.pair (.int .u8) (.pair (.int .i64) (.int .i64))) (.pair (.int .i64) (.int .i64)))))))))), (.dat (.int .i64))])], [(.tmp 0 false [(.dat .bool)])], rating_Valid⟩), (26, ⟨[(.tmp 0 false [(.dat .str)]), (.tmp 1 false [(.dat .str)])], [(.tmp 0 false [(.dat .bool)])], strings_HasPrefix⟩), (12, ⟨[(.tmp 0 true [(.dat (.list (.pair .str (.pair (.int .i64) (.pair (.int .i64) (.pair (.int .i64) (.list (.pair (.pair (.int .u8) (.pair (.int .i64) (.int .i64))) (.pair (.int .i64) (.int .i64)))))))))), (.dat (.int .i64))]), (.tmp 1 false [(.dat .str)])], [(.tmp 0 false [(.dat (.int .i64))]), (.tmp 1 false [(.dat .bool)])], rating_Find⟩), (22, ⟨[(.tmp 0 false [(.dat (.int .i64))]), (.tmp 1 false [(.dat (.int .i64))])], [(.tmp 0 false [(.dat (.int .i64))])], rating_Seconds⟩), (33, ⟨[(.tmp 0 false [(.dat (.list (.pair (.pair (.int .u8) (.pair (.int .i64) (.int .i64))) (.pair (.int .i64) (.int .i64)))))]), (.tmp 1 false [(.dat (.int .i64))])], [(.tmp 0 false [(.dat (.int .i64))])], rating_priceAt⟩), (23, ⟨[(.tmp 0 true [(.dat .str), (.dat (.int .i64)), (.dat (.int .i64)), (.dat (.int .i64)), (.dat (.list (.pair (.pair (.int .u8) (.pair (.int .i64) (.int .i64))) (.pair (.int .i64) (.int .i64)))))]), (.tmp 1 false [(.dat (.int .i64))])], [(.tmp 0 false [(.dat (.int .i64))]), (.tmp 1 false [(.dat .bool)])], rating_PriceAt⟩)]
theorem cons16_ok : ConL Try.prog cons16 := ⟨con39, con38, con30, con15, con27, con13, con34, con24, con41, con35, con20, con31, con17, con19, con28, con42, con37, con29, con14, con26, con12, con22, con33, con23, trivial⟩
theorem con16 : ConOk Try.prog 16 ⟨[(.tmp 0 true [(.dat .str), (.dat (.int .i64)), (.dat (.int .i64)), (.dat (.int .i64)), (.dat (.list (.pair (.pair (.int .u8) (.pair (.int .i64) (.int .i64))) (.pair (.int .i64) (.int .i64)))))]), (.tmp 1 false [(.dat (.int .i64))]), (.tmp 2 false [(.dat (.int .i64))])], [(.tmp 0 false [(.dat (.int .i64))])], rating_Pieces⟩ :=
  tree_ok (plan := planOf plan16) (eg := egNo) KK tabL_ok (conOf_ok cons16_ok) Try.func16 (by kernel_rfl) (by kernel_rfl) 10000 (fun a r h => Eq.trans (show _ = rating_Pieces a from by kernel_rfl) h)
/-! ### dialtone/dialtonelaw37.rate -/
def plan21 : List (Nat × PL) := []
noncomputable def dialtonelaw37_rate : PUnit → Option ((List UInt8) × (Int × (Int × (Int × (List ((Int × (Int × Int)) × (Int × Int))))))) := fun _ =>
  some (((52 : UInt8) :: ((57 : UInt8) :: ([] : List UInt8))), ((500 : Int), ((60 : Int), ((10 : Int), ((((31 : Int), ((480 : Int), (1080 : Int))), ((1200 : Int), (200 : Int))) :: ((((127 : Int), ((0 : Int), (1440 : Int))), ((600 : Int), (100 : Int))) :: ([] : List ((Int × (Int × Int)) × (Int × Int)))))))))
noncomputable def cons21 : List (Nat × CE) := [(39, ⟨[(.tmp 0 true [(.dat (.int .u8)), (.dat (.int .i64)), (.dat (.int .i64))])], [(.tmp 0 false [(.dat .bool)])], dialtoneref37_Band⟩), (38, ⟨[(.tmp 0 false [(.dat (.int .i64))])], [(.tmp 0 false [(.dat .bool)])], dialtoneref37_money⟩), (30, ⟨[(.tmp 0 true [(.dat .str), (.dat (.int .i64)), (.dat (.int .i64)), (.dat (.int .i64)), (.dat (.list (.pair (.pair (.int .u8) (.pair (.int .i64) (.int .i64))) (.pair (.int .i64) (.int .i64)))))])], [(.tmp 0 false [(.dat .bool)])], dialtoneref37_Rate⟩), (15, ⟨[(.tmp 0 true [(.dat (.list (.pair .str (.pair (.int .i64) (.pair (.int .i64) (.pair (.int .i64) (.list (.pair (.pair (.int .u8) (.pair (.int .i64) (.int .i64))) (.pair (.int .i64) (.int .i64)))))))))), (.dat (.int .i64))])], [(.tmp 0 false [(.dat .bool)])], dialtoneref37_Valid⟩), (27, ⟨[(.tmp 0 false [(.dat .str)]), (.tmp 1 false [(.dat .str)])], [(.tmp 0 false [(.dat .bool)])], dialtoneref37_Begins⟩), (13, ⟨[(.tmp 0 true [(.dat (.list (.pair .str (.pair (.int .i64) (.pair (.int .i64) (.pair (.int .i64) (.list (.pair (.pair (.int .u8) (.pair (.int .i64) (.int .i64))) (.pair (.int .i64) (.int .i64)))))))))), (.dat (.int .i64))]), (.tmp 1 false [(.dat .str)])], [(.tmp 0 false [(.dat (.int .i64))]), (.tmp 1 false [(.dat .bool)])], dialtoneref37_Find⟩), (34, ⟨[(.tmp 0 false [(.dat (.int .i64))]), (.tmp 1 false [(.dat (.int .i64))])], [(.tmp 0 false [(.dat .bool)])], dialtoneref37_Span⟩), (24, ⟨[(.tmp 0 false [(.dat (.int .i64))]), (.tmp 1 false [(.dat (.int .i64))])], [(.tmp 0 false [(.dat (.int .i64))])], dialtoneref37_Seconds⟩), (41, ⟨[(.tmp 0 false [(.dat (.int .i64))])], [(.tmp 0 false [(.dat (.int .i64))])], dialtoneref37_bit⟩), (35, ⟨[(.tmp 0 true [(.dat (.int .u8)), (.dat (.int .i64)), (.dat (.int .i64))]), (.tmp 1 false [(.dat (.int .i64))])], [(.tmp 0 false [(.dat .bool)])], dialtoneref37_Contains⟩), (20, ⟨[(.tmp 0 true [(.dat .str), (.dat (.int .i64)), (.dat (.int .i64)), (.dat (.int .i64)), (.dat (.list (.pair (.pair (.int .u8) (.pair (.int .i64) (.int .i64))) (.pair (.int .i64) (.int .i64)))))]), (.tmp 1 false [(.dat (.int .i64))])], [(.tmp 0 false [(.dat (.int .i64))]), (.tmp 1 false [(.dat .bool)])], dialtoneref37_PriceAt⟩), (31, ⟨[(.tmp 0 true [(.dat .str), (.dat (.int .i64)), (.dat (.int .i64)), (.dat (.int .i64)), (.dat (.list (.pair (.pair (.int .u8) (.pair (.int .i64) (.int .i64))) (.pair (.int .i64) (.int .i64)))))]), (.tmp 1 false [(.dat (.int .i64))]), (.tmp 2 false [(.dat (.int .i64))])], [(.tmp 0 false [(.dat (.int .i64))])], dialtoneref37_Begin⟩), (17, ⟨[(.tmp 0 true [(.dat .str), (.dat (.int .i64)), (.dat (.int .i64)), (.dat (.int .i64)), (.dat (.list (.pair (.pair (.int .u8) (.pair (.int .i64) (.int .i64))) (.pair (.int .i64) (.int .i64)))))]), (.tmp 1 false [(.dat (.int .i64))]), (.tmp 2 false [(.dat (.int .i64))])], [(.tmp 0 false [(.dat (.int .i64))])], dialtoneref37_Pieces⟩), (19, ⟨[(.tmp 0 true [(.dat (.list (.pair .str (.pair (.int .i64) (.pair (.int .i64) (.pair (.int .i64) (.list (.pair (.pair (.int .u8) (.pair (.int .i64) (.int .i64))) (.pair (.int .i64) (.int .i64)))))))))), (.dat (.int .i64))]), (.tmp 1 false [(.dat .str)]), (.tmp 2 false [(.dat (.int .i64))]), (.tmp 3 false [(.dat (.int .i64))])], [(.tmp 0 false [(.dat (.int .i64))]), (.tmp 1 false [(.dat (.int .u8))])], dialtoneref37_Cost⟩), (28, ⟨[(.tmp 0 false [(.dat (.int .i64))]), (.tmp 1 false [(.dat (.int .i64))]), (.tmp 2 false [(.dat (.int .i64))])], [(.tmp 0 false [(.dat .bool)])], rating_within⟩), (42, ⟨[(.tmp 0 true [(.dat (.int .u8)), (.dat (.int .i64)), (.dat (.int .i64))])], [(.tmp 0 false [(.dat .bool)])], rating_validBand⟩), (37, ⟨[(.tmp 0 true [(.dat (.int .u8)), (.dat (.int .i64)), (.dat (.int .i64)), (.dat (.int .i64)), (.dat (.int .i64))])], [(.tmp 0 false [(.dat .bool)])], rating_validPrice⟩), (29, ⟨[(.tmp 0 true [(.dat .str), (.dat (.int .i64)), (.dat (.int .i64)), (.dat (.int .i64)), (.dat (.list (.pair (.pair (.int .u8) (.pair (.int .i64) (.int .i64))) (.pair (.int .i64) (.int .i64)))))])], [(.tmp 0 false [(.dat .bool)])], rating_validRate⟩), (14, ⟨[(.tmp 0 true [(.dat (.list (.pair .str (.pair (.int .i64) (.pair (.int .i64) (.pair (.int .i64) (.list (.pair (.pair (.int .u8) (.pair (.int .i64) (.int .i64))) (.pair (.int .i64) (.int .i64)))))))))), (.dat (.int .i64))])], [(.tmp 0 false [(.dat .bool)])], rating_Valid⟩), (26, ⟨[(.tmp 0 false [(.dat .str)]), (.tmp 1 false [(.dat .str)])], [(.tmp 0 false [(.dat .bool)])], strings_HasPrefix⟩), (12, ⟨[(.tmp 0 true [(.dat (.list (.pair .str (.pair (.int .i64) (.pair (.int .i64) (.pair (.int .i64) (.list (.pair (.pair (.int .u8) (.pair (.int .i64) (.int .i64))) (.pair (.int .i64) (.int .i64)))))))))), (.dat (.int .i64))]), (.tmp 1 false [(.dat .str)])], [(.tmp 0 false [(.dat (.int .i64))]), (.tmp 1 false [(.dat .bool)])], rating_Find⟩), (22, ⟨[(.tmp 0 false [(.dat (.int .i64))]), (.tmp 1 false [(.dat (.int .i64))])], [(.tmp 0 false [(.dat (.int .i64))])], rating_Seconds⟩), (33, ⟨[(.tmp 0 false [(.dat (.list (.pair (.pair (.int .u8) (.pair (.int .i64) (.int .i64))) (.pair (.int .i64) (.int .i64)))))]), (.tmp 1 false [(.dat (.int .i64))])], [(.tmp 0 false [(.dat (.int .i64))])], rating_priceAt⟩), (23, ⟨[(.tmp 0 true [(.dat .str), (.dat (.int .i64)), (.dat (.int .i64)), (.dat (.int .i64)), (.dat (.list (.pair (.pair (.int .u8) (.pair (.int .i64) (.int .i64))) (.pair (.int .i64) (.int .i64)))))]), (.tmp 1 false [(.dat (.int .i64))])], [(.tmp 0 false [(.dat (.int .i64))]), (.tmp 1 false [(.dat .bool)])], rating_PriceAt⟩), (16, ⟨[(.tmp 0 true [(.dat .str), (.dat (.int .i64)), (.dat (.int .i64)), (.dat (.int .i64)), (.dat (.list (.pair (.pair (.int .u8) (.pair (.int .i64) (.int .i64))) (.pair (.int .i64) (.int .i64)))))]), (.tmp 1 false [(.dat (.int .i64))]), (.tmp 2 false [(.dat (.int .i64))])], [(.tmp 0 false [(.dat (.int .i64))])], rating_Pieces⟩)]
theorem cons21_ok : ConL Try.prog cons21 := ⟨con39, con38, con30, con15, con27, con13, con34, con24, con41, con35, con20, con31, con17, con19, con28, con42, con37, con29, con14, con26, con12, con22, con33, con23, con16, trivial⟩
theorem con21 : ConOk Try.prog 21 ⟨[], [(.tmp 0 true [(.dat .str), (.dat (.int .i64)), (.dat (.int .i64)), (.dat (.int .i64)), (.dat (.list (.pair (.pair (.int .u8) (.pair (.int .i64) (.int .i64))) (.pair (.int .i64) (.int .i64)))))])], dialtonelaw37_rate⟩ :=
  tree_ok (plan := planOf plan21) (eg := egNo) KK tabL_ok (conOf_ok cons21_ok) Try.func21 (by kernel_rfl) (by kernel_rfl) 10000 (fun a r h => Eq.trans (show _ = dialtonelaw37_rate a from by kernel_rfl) h)
/-! ### dialtone/dialtonelaw37.few -/
def plan10 : List (Nat × PL) := [(134480385, (.carry [])), (18049651601311750, (.carry [.tmp 3 false [(.dat (.int .i64))]]))]
noncomputable def dialtonelaw37_few : ((List ((List UInt8) × (Int × (Int × (Int × (List ((Int × (Int × Int)) × (Int × Int)))))))) × Int) → Option Bool := fun (a1, a2) =>
  bif (decide ((((List.length a1) : Nat) : Int) > (1100 : Int))) then
   some Bool.false
  else
   joinO (loopO (fun v3 =>
     bif (decide (v3 < (((List.length a1) : Nat) : Int))) then
      bif (decide (((0 : Int) ≤ v3) ∧ (v3 < (((List.length a1) : Nat) : Int)))) then 
       bindO a1[(Int.toNat v3)]? fun x4 =>
       bif (decide ((((List.length x4.2.2.2.2) : Nat) : Int) > (40 : Int))) then
        outO (outO (some Bool.false))
       else
        bif (decide (((0 : Int) ≤ v3) ∧ (v3 < (((List.length a1) : Nat) : Int)))) then 
         bindO a1[(Int.toNat v3)]? fun x5 =>
         bif (decide ((((List.length x5.1) : Nat) : Int) > (100 : Int))) then
          outO (outO (some Bool.false))
         else
          some (Sum.inl (Go.IntKind.wrap .i64 (v3 + (1 : Int))))
        else none
      else none
     else
      outO (some (Sum.inl ()))) (0 : Int)) fun _ =>
   some Bool.true
noncomputable def cons10 : List (Nat × CE) := [(39, ⟨[(.tmp 0 true [(.dat (.int .u8)), (.dat (.int .i64)), (.dat (.int .i64))])], [(.tmp 0 false [(.dat .bool)])], dialtoneref37_Band⟩), (38, ⟨[(.tmp 0 false [(.dat (.int .i64))])], [(.tmp 0 false [(.dat .bool)])], dialtoneref37_money⟩), (30, ⟨[(.tmp 0 true [(.dat .str), (.dat (.int .i64)), (.dat (.int .i64)), (.dat (.int .i64)), (.dat (.list (.pair (.pair (.int .u8) (.pair (.int .i64) (.int .i64))) (.pair (.int .i64) (.int .i64)))))])], [(.tmp 0 false [(.dat .bool)])], dialtoneref37_Rate⟩), (15, ⟨[(.tmp 0 true [(.dat (.list (.pair .str (.pair (.int .i64) (.pair (.int .i64) (.pair (.int .i64) (.list (.pair (.pair (.int .u8) (.pair (.int .i64) (.int .i64))) (.pair (.int .i64) (.int .i64)))))))))), (.dat (.int .i64))])], [(.tmp 0 false [(.dat .bool)])], dialtoneref37_Valid⟩), (27, ⟨[(.tmp 0 false [(.dat .str)]), (.tmp 1 false [(.dat .str)])], [(.tmp 0 false [(.dat .bool)])], dialtoneref37_Begins⟩), (13, ⟨[(.tmp 0 true [(.dat (.list (.pair .str (.pair (.int .i64) (.pair (.int .i64) (.pair (.int .i64) (.list (.pair (.pair (.int .u8) (.pair (.int .i64) (.int .i64))) (.pair (.int .i64) (.int .i64)))))))))), (.dat (.int .i64))]), (.tmp 1 false [(.dat .str)])], [(.tmp 0 false [(.dat (.int .i64))]), (.tmp 1 false [(.dat .bool)])], dialtoneref37_Find⟩), (34, ⟨[(.tmp 0 false [(.dat (.int .i64))]), (.tmp 1 false [(.dat (.int .i64))])], [(.tmp 0 false [(.dat .bool)])], dialtoneref37_Span⟩), (24, ⟨[(.tmp 0 false [(.dat (.int .i64))]), (.tmp 1 false [(.dat (.int .i64))])], [(.tmp 0 false [(.dat (.int .i64))])], dialtoneref37_Seconds⟩), (41, ⟨[(.tmp 0 false [(.dat (.int .i64))])], [(.tmp 0 false [(.dat (.int .i64))])], dialtoneref37_bit⟩), (35, ⟨[(.tmp 0 true [(.dat (.int .u8)), (.dat (.int .i64)), (.dat (.int .i64))]), (.tmp 1 false [(.dat (.int .i64))])], [(.tmp 0 false [(.dat .bool)])], dialtoneref37_Contains⟩), (20, ⟨[(.tmp 0 true [(.dat .str), (.dat (.int .i64)), (.dat (.int .i64)), (.dat (.int .i64)), (.dat (.list (.pair (.pair (.int .u8) (.pair (.int .i64) (.int .i64))) (.pair (.int .i64) (.int .i64)))))]), (.tmp 1 false [(.dat (.int .i64))])], [(.tmp 0 false [(.dat (.int .i64))]), (.tmp 1 false [(.dat .bool)])], dialtoneref37_PriceAt⟩), (31, ⟨[(.tmp 0 true [(.dat .str), (.dat (.int .i64)), (.dat (.int .i64)), (.dat (.int .i64)), (.dat (.list (.pair (.pair (.int .u8) (.pair (.int .i64) (.int .i64))) (.pair (.int .i64) (.int .i64)))))]), (.tmp 1 false [(.dat (.int .i64))]), (.tmp 2 false [(.dat (.int .i64))])], [(.tmp 0 false [(.dat (.int .i64))])], dialtoneref37_Begin⟩), (17, ⟨[(.tmp 0 true [(.dat .str), (.dat (.int .i64)), (.dat (.int .i64)), (.dat (.int .i64)), (.dat (.list (.pair (.pair (.int .u8) (.pair (.int .i64) (.int .i64))) (.pair (.int .i64) (.int .i64)))))]), (.tmp 1 false [(.dat (.int .i64))]), (.tmp 2 false [(.dat (.int .i64))])], [(.tmp 0 false [(.dat (.int .i64))])], dialtoneref37_Pieces⟩), (19, ⟨[(.tmp 0 true [(.dat (.list (.pair .str (.pair (.int .i64) (.pair (.int .i64) (.pair (.int .i64) (.list (.pair (.pair (.int .u8) (.pair (.int .i64) (.int .i64))) (.pair (.int .i64) (.int .i64)))))))))), (.dat (.int .i64))]), (.tmp 1 false [(.dat .str)]), (.tmp 2 false [(.dat (.int .i64))]), (.tmp 3 false [(.dat (.int .i64))])], [(.tmp 0 false [(.dat (.int .i64))]), (.tmp 1 false [(.dat (.int .u8))])], dialtoneref37_Cost⟩), (28, ⟨[(.tmp 0 false [(.dat (.int .i64))]), (.tmp 1 false [(.dat (.int .i64))]), (.tmp 2 false [(.dat (.int .i64))])], [(.tmp 0 false [(.dat .bool)])], rating_within⟩), (42, ⟨[(.tmp 0 true [(.dat (.int .u8)), (.dat (.int .i64)), (.dat (.int .i64))])], [(.tmp 0 false [(.dat .bool)])], rating_validBand⟩), (37, ⟨[(.tmp 0 true [(.dat (.int .u8)), (.dat (.int .i64)), (.dat (.int .i64)), (.dat (.int .i64)), (.dat (.int .i64))])], [(.tmp 0 false [(.dat .bool)])], rating_validPrice⟩), (29, ⟨[(.tmp 0 true [(.dat .str), (.dat (.int .i64)), (.dat (.int .i64)), (.dat (.int .i64)), (.dat (.list (.pair (.pair (.int .u8) (.pair (.int .i64) (.int .i64))) (.pair (.int .i64) (.int .i64)))))])], [(.tmp 0 false [(.dat .bool)])], rating_validRate⟩), (14, ⟨[(.tmp 0 true [(.dat (.list (.pair .str (.pair (.int .i64) (.pair (.int .i64) (.pair (.int .i64) (.list (.pair (.pair (.int .u8) (.pair (.int .i64) (.int .i64))) (.pair (.int .i64) (.int .i64)))))))))), (.dat (.int .i64))])], [(.tmp 0 false [(.dat .bool)])], rating_Valid⟩), (26, ⟨[(.tmp 0 false [(.dat .str)]), (.tmp 1 false [(.dat .str)])], [(.tmp 0 false [(.dat .bool)])], strings_HasPrefix⟩), (12, ⟨[(.tmp 0 true [(.dat (.list (.pair .str (.pair (.int .i64) (.pair (.int .i64) (.pair (.int .i64) (.list (.pair (.pair (.int .u8) (.pair (.int .i64) (.int .i64))) (.pair (.int .i64) (.int .i64)))))))))), (.dat (.int .i64))]), (.tmp 1 false [(.dat .str)])], [(.tmp 0 false [(.dat (.int .i64))]), (.tmp 1 false [(.dat .bool)])], rating_Find⟩), (22, ⟨[(.tmp 0 false [(.dat (.int .i64))]), (.tmp 1 false [(.dat (.int .i64))])], [(.tmp 0 false [(.dat (.int .i64))])], rating_Seconds⟩), (33, ⟨[(.tmp 0 false [(.dat (.list (.pair (.pair (.int .u8) (.pair (.int .i64) (.int .i64))) (.pair (.int .i64) (.int .i64)))))]), (.tmp 1 false [(.dat (.int .i64))])], [(.tmp 0 false [(.dat (.int .i64))])], rating_priceAt⟩), (23, ⟨[(.tmp 0 true [(.dat .str), (.dat (.int .i64)), (.dat (.int .i64)), (.dat (.int .i64)), (.dat (.list (.pair (.pair (.int .u8) (.pair (.int .i64) (.int .i64))) (.pair (.int .i64) (.int .i64)))))]), (.tmp 1 false [(.dat (.int .i64))])], [(.tmp 0 false [(.dat (.int .i64))]), (.tmp 1 false [(.dat .bool)])], rating_PriceAt⟩), (16, ⟨[(.tmp 0 true [(.dat .str), (.dat (.int .i64)), (.dat (.int .i64)), (.dat (.int .i64)), (.dat (.list (.pair (.pair (.int .u8) (.pair (.int .i64) (.int .i64))) (.pair (.int .i64) (.int .i64)))))]), (.tmp 1 false [(.dat (.int .i64))]), (.tmp 2 false [(.dat (.int .i64))])], [(.tmp 0 false [(.dat (.int .i64))])], rating_Pieces⟩), (21, ⟨[], [(.tmp 0 true [(.dat .str), (.dat (.int .i64)), (.dat (.int .i64)), (.dat (.int .i64)), (.dat (.list (.pair (.pair (.int .u8) (.pair (.int .i64) (.int .i64))) (.pair (.int .i64) (.int .i64)))))])], dialtonelaw37_rate⟩)]
theorem cons10_ok : ConL Try.prog cons10 := ⟨con39, con38, con30, con15, con27, con13, con34, con24, con41, con35, con20, con31, con17, con19, con28, con42, con37, con29, con14, con26, con12, con22, con33, con23, con16, con21, trivial⟩
theorem con10 : ConOk Try.prog 10 ⟨[(.tmp 0 true [(.dat (.list (.pair .str (.pair (.int .i64) (.pair (.int .i64) (.pair (.int .i64) (.list (.pair (.pair (.int .u8) (.pair (.int .i64) (.int .i64))) (.pair (.int .i64) (.int .i64)))))))))), (.dat (.int .i64))])], [(.tmp 0 false [(.dat .bool)])], dialtonelaw37_few⟩ :=
  tree_ok (plan := planOf plan10) (eg := egNo) KK tabL_ok (conOf_ok cons10_ok) Try.func10 (by kernel_rfl) (by kernel_rfl) 10000 (fun a r h => Eq.trans (show _ = dialtonelaw37_few a from by kernel_rfl) h)
end Go.Proofs.Ytbckoncbimljeaa
