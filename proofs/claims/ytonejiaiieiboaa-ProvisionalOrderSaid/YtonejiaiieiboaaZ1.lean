/- Trees of functions, printed by the executor. -/
import Derived.Test.YtonejiaiieiboaaF
import Derived.Test.YtonejiaiieiboaaXB
import Derived.Test.YtonejiaiieiboaaA1
set_option linter.unusedVariables false
set_option maxRecDepth 1000000
set_option maxHeartbeats 0
namespace Go.Proofs.Ytonejiaiieiboaa
open Go.RowKit
/-! ### slices.Equal[[]int,int] -/
def plan37 : List (Nat × PL) := [(134480385, (.carry [])), (18049651601311750, (.carry [.tmp 13 false [(.dat (.int .i64))]]))]
noncomputable def slices_Equal___int_int : ((List Int) × (List Int)) → Option Bool := fun (a1, a2) =>
  bif (decide ((((List.length a1) : Nat) : Int) ≠ (((List.length a2) : Nat) : Int))) then
   some Bool.false
  else
   joinO (loopO (fun v3 =>
     bif (decide (v3 < (((List.length a1) : Nat) : Int))) then
      bif (decide (((0 : Int) ≤ v3) ∧ (v3 < (((List.length a1) : Nat) : Int)))) then 
       bindO a1[(Int.toNat v3)]? fun x4 =>
       bif (decide (((0 : Int) ≤ v3) ∧ (v3 < (((List.length a2) : Nat) : Int)))) then 
        bindO a2[(Int.toNat v3)]? fun x5 =>
        bif (decide (x4 ≠ x5)) then
         outO (outO (some Bool.false))
        else
         some (Sum.inl (Go.IntKind.wrap .i64 (v3 + (1 : Int))))
       else none
      else none
     else
      outO (some (Sum.inl ()))) (0 : Int)) fun _ =>
   some Bool.true
noncomputable def cons37 : List (Nat × CE) := [(39, ⟨[.tmp 0 false [.dat (.list (.int .i64))]], [.tmp 0 false [.own 1 3 (.int .i64)]], cloneG⟩)]
theorem cons37_ok : ConL Try.prog cons37 := ⟨clone_con, trivial⟩
theorem con37 : ConOk Try.prog 37 ⟨[(.tmp 0 false [(.dat (.list (.int .i64)))]), (.tmp 1 false [(.dat (.list (.int .i64)))])], [(.tmp 0 false [(.dat .bool)])], slices_Equal___int_int⟩ :=
  tree_ok (plan := planOf plan37) (eg := egNo) KK tabL_ok (conOf_ok cons37_ok) Try.func37 (by kernel_rfl) (by kernel_rfl) 10000 (fun a r h => Eq.trans (show _ = slices_Equal___int_int a from by kernel_rfl) h)
/-! ### dialtone/provisional.isProvisional -/
def plan30 : List (Nat × PL) := []
noncomputable def provisional_isProvisional : Int → Option Bool := fun a1 =>
  bif (decide (a1 ≥ (101 : Int))) then
   some (decide (a1 ≤ (199 : Int)))
  else
   some Bool.false
noncomputable def cons30 : List (Nat × CE) := [(39, ⟨[.tmp 0 false [.dat (.list (.int .i64))]], [.tmp 0 false [.own 1 3 (.int .i64)]], cloneG⟩), (37, ⟨[(.tmp 0 false [(.dat (.list (.int .i64)))]), (.tmp 1 false [(.dat (.list (.int .i64)))])], [(.tmp 0 false [(.dat .bool)])], slices_Equal___int_int⟩)]
theorem cons30_ok : ConL Try.prog cons30 := ⟨clone_con, con37, trivial⟩
theorem con30 : ConOk Try.prog 30 ⟨[(.tmp 0 false [(.dat (.int .i64))])], [(.tmp 0 false [(.dat .bool)])], provisional_isProvisional⟩ :=
  tree_ok (plan := planOf plan30) (eg := egNo) KK tabL_ok (conOf_ok cons30_ok) Try.func30 (by kernel_rfl) (by kernel_rfl) 10000 (fun a r h => Eq.trans (show _ = provisional_isProvisional a from by kernel_rfl) h)
/-! ### dialtone/provisional.isAccepting -/
def plan31 : List (Nat × PL) := []
noncomputable def provisional_isAccepting : Int → Option Bool := fun a1 =>
  bif (decide (a1 ≥ (200 : Int))) then
   some (decide (a1 ≤ (299 : Int)))
  else
   some Bool.false
noncomputable def cons31 : List (Nat × CE) := [(39, ⟨[.tmp 0 false [.dat (.list (.int .i64))]], [.tmp 0 false [.own 1 3 (.int .i64)]], cloneG⟩), (37, ⟨[(.tmp 0 false [(.dat (.list (.int .i64)))]), (.tmp 1 false [(.dat (.list (.int .i64)))])], [(.tmp 0 false [(.dat .bool)])], slices_Equal___int_int⟩), (30, ⟨[(.tmp 0 false [(.dat (.int .i64))])], [(.tmp 0 false [(.dat .bool)])], provisional_isProvisional⟩)]
theorem cons31_ok : ConL Try.prog cons31 := ⟨clone_con, con37, con30, trivial⟩
theorem con31 : ConOk Try.prog 31 ⟨[(.tmp 0 false [(.dat (.int .i64))])], [(.tmp 0 false [(.dat .bool)])], provisional_isAccepting⟩ :=
  tree_ok (plan := planOf plan31) (eg := egNo) KK tabL_ok (conOf_ok cons31_ok) Try.func31 (by kernel_rfl) (by kernel_rfl) 10000 (fun a r h => Eq.trans (show _ = provisional_isAccepting a from by kernel_rfl) h)
/-! ### dialtone/provisional.mayWait -/
def plan34 : List (Nat × PL) := [(262657, (.carry [])), (35253091829766, (.carry [.tmp 3 false [(.dat (.int .i64))]]))]
noncomputable def provisional_mayWait : Int → Option Bool := fun a1 =>
  joinO (loopO (fun v2 =>
    bif (decide (v2 ≤ (32000 : Int))) then
     bif (decide (v2 = a1)) then
      outO (outO (some Bool.true))
     else
      some (Sum.inl (Go.IntKind.wrap .i64 (v2 * (2 : Int))))
    else
     outO (some (Sum.inl ()))) (500 : Int)) fun _ =>
  some Bool.false
noncomputable def cons34 : List (Nat × CE) := [(39, ⟨[.tmp 0 false [.dat (.list (.int .i64))]], [.tmp 0 false [.own 1 3 (.int .i64)]], cloneG⟩), (37, ⟨[(.tmp 0 false [(.dat (.list (.int .i64)))]), (.tmp 1 false [(.dat (.list (.int .i64)))])], [(.tmp 0 false [(.dat .bool)])], slices_Equal___int_int⟩), (30, ⟨[(.tmp 0 false [(.dat (.int .i64))])], [(.tmp 0 false [(.dat .bool)])], provisional_isProvisional⟩), (31, ⟨[(.tmp 0 false [(.dat (.int .i64))])], [(.tmp 0 false [(.dat .bool)])], provisional_isAccepting⟩)]
theorem cons34_ok : ConL Try.prog cons34 := ⟨clone_con, con37, con30, con31, trivial⟩
theorem con34 : ConOk Try.prog 34 ⟨[(.tmp 0 false [(.dat (.int .i64))])], [(.tmp 0 false [(.dat .bool)])], provisional_mayWait⟩ :=
  tree_ok (plan := planOf plan34) (eg := egNo) KK tabL_ok (conOf_ok cons34_ok) Try.func34 (by kernel_rfl) (by kernel_rfl) 10000 (fun a r h => Eq.trans (show _ = provisional_mayWait a from by kernel_rfl) h)
/-! ### dialtone/provisional.May -/
def plan14 : List (Nat × PL) := [(134480385, (.carry [])), (18049651735527937, (.carry [.tmp 3 false [(.dat (.int .i64))]])), (2422583247133816450713606, (.carry [.tmp 62 false [(.dat (.int .i64))], .tmp 3 false [(.dat (.int .i64))]]))]
noncomputable def provisional_May : (Int × (Int × (Int × ((List Int) × (Bool × Bool))))) → Option Bool := fun (a1, (a2, (a3, (a4, (a5, a6))))) =>
  bif (decide (a1 < (0 : Int))) then
   some Bool.false
  else
   bif (decide (a1 > (2147483647 : Int))) then
    some Bool.false
   else
    bif (decide ((((List.length a4) : Nat) : Int) > (16 : Int))) then
     some Bool.false
    else
     joinO (bif (decide (a2 = (0 : Int))) then
       bif (decide (a3 ≠ (0 : Int))) then
        outO (some Bool.false)
       else
        bif (decide ((((List.length a4) : Nat) : Int) > (0 : Int))) then
         outO (some Bool.false)
        else
         some (Sum.inl ())
      else
       bindO (provisional_isProvisional a2) fun x7 =>
       bif (!x7) then
        outO (some Bool.false)
       else
        bif (decide (a1 < (1 : Int))) then
         outO (some Bool.false)
        else
         bindO (provisional_mayWait a3) fun x8 =>
         bif (!x8) then
          outO (some Bool.false)
         else
          some (Sum.inl ())) fun _ =>
     bif a6 then
      bif (decide (a2 ≠ (0 : Int))) then
       some Bool.false
      else
       bif (!a5) then
        some Bool.false
       else
        joinO (loopO (fun (v9, v10) =>
          bif (decide (v9 < (((List.length a4) : Nat) : Int))) then
           bif (decide (((0 : Int) ≤ v9) ∧ (v9 < (((List.length a4) : Nat) : Int)))) then 
            bindO a4[(Int.toNat v9)]? fun x11 =>
            bif a5 then
             bif (decide (v9 = (Go.IntKind.wrap .i64 ((((List.length a4) : Nat) : Int) - (1 : Int))))) then
              bindO (provisional_isAccepting x11) fun x13 =>
              bif (!x13) then
               outO (outO (some Bool.false))
              else
               outO (some (Sum.inl v10))
             else
              bindO (provisional_isProvisional x11) fun x14 =>
              bif (!x14) then
               outO (outO (some Bool.false))
              else
               some (Sum.inl ((Go.IntKind.wrap .i64 (v9 + (1 : Int))), (Go.IntKind.wrap .i64 (v10 + (1 : Int)))))
            else
             bindO (provisional_isProvisional x11) fun x17 =>
             bif (!x17) then
              outO (outO (some Bool.false))
             else
              some (Sum.inl ((Go.IntKind.wrap .i64 (v9 + (1 : Int))), (Go.IntKind.wrap .i64 (v10 + (1 : Int)))))
           else none
          else
           outO (some (Sum.inl v10))) ((0 : Int), (0 : Int))) fun v20 =>
        some (decide ((Go.IntKind.wrap .i64 (a1 + v20)) ≤ (2147483647 : Int)))
     else
      joinO (loopO (fun (v22, v23) =>
        bif (decide (v22 < (((List.length a4) : Nat) : Int))) then
         bif (decide (((0 : Int) ≤ v22) ∧ (v22 < (((List.length a4) : Nat) : Int)))) then 
          bindO a4[(Int.toNat v22)]? fun x24 =>
          bif a5 then
           bif (decide (v22 = (Go.IntKind.wrap .i64 ((((List.length a4) : Nat) : Int) - (1 : Int))))) then
            bindO (provisional_isAccepting x24) fun x26 =>
            bif (!x26) then
             outO (outO (some Bool.false))
            else
             outO (some (Sum.inl v23))
           else
            bindO (provisional_isProvisional x24) fun x27 =>
            bif (!x27) then
             outO (outO (some Bool.false))
            else
             some (Sum.inl ((Go.IntKind.wrap .i64 (v22 + (1 : Int))), (Go.IntKind.wrap .i64 (v23 + (1 : Int)))))
          else
           bindO (provisional_isProvisional x24) fun x30 =>
           bif (!x30) then
            outO (outO (some Bool.false))
           else
            some (Sum.inl ((Go.IntKind.wrap .i64 (v22 + (1 : Int))), (Go.IntKind.wrap .i64 (v23 + (1 : Int)))))
         else none
        else
         outO (some (Sum.inl v23))) ((0 : Int), (0 : Int))) fun v33 =>
      some (decide ((Go.IntKind.wrap .i64 (a1 + v33)) ≤ (2147483647 : Int)))
noncomputable def cons14 : List (Nat × CE) := [(39, ⟨[.tmp 0 false [.dat (.list (.int .i64))]], [.tmp 0 false [.own 1 3 (.int .i64)]], cloneG⟩), (37, ⟨[(.tmp 0 false [(.dat (.list (.int .i64)))]), (.tmp 1 false [(.dat (.list (.int .i64)))])], [(.tmp 0 false [(.dat .bool)])], slices_Equal___int_int⟩), (30, ⟨[(.tmp 0 false [(.dat (.int .i64))])], [(.tmp 0 false [(.dat .bool)])], provisional_isProvisional⟩), (31, ⟨[(.tmp 0 false [(.dat (.int .i64))])], [(.tmp 0 false [(.dat .bool)])], provisional_isAccepting⟩), (34, ⟨[(.tmp 0 false [(.dat (.int .i64))])], [(.tmp 0 false [(.dat .bool)])], provisional_mayWait⟩)]
theorem cons14_ok : ConL Try.prog cons14 := ⟨clone_con, con37, con30, con31, con34, trivial⟩
theorem con14 : ConOk Try.prog 14 ⟨[(.tmp 0 true [(.dat (.int .i64)), (.dat (.int .i64)), (.dat (.int .i64)), (.dat (.list (.int .i64))), (.dat .bool), (.dat .bool)])], [(.tmp 0 false [(.dat .bool)])], provisional_May⟩ :=
  tree_ok (plan := planOf plan14) (eg := egNo) KK tabL_ok (conOf_ok cons14_ok) Try.func14 (by kernel_rfl) (by kernel_rfl) 10000 (fun a r h => Eq.trans (show _ = provisional_May a from by kernel_rfl) h)
/-! ### dialtone/provisional.timer -/
def plan33 : List (Nat × PL) := []
noncomputable def provisional_timer : (Int × Int) → Option (Int × (Int × (Int × (Int × Int)))) := fun (a1, a2) =>
  some ((3 : Int), ((0 : Int), ((0 : Int), (a1, a2))))
noncomputable def cons33 : List (Nat × CE) := [(39, ⟨[.tmp 0 false [.dat (.list (.int .i64))]], [.tmp 0 false [.own 1 3 (.int .i64)]], cloneG⟩), (37, ⟨[(.tmp 0 false [(.dat (.list (.int .i64)))]), (.tmp 1 false [(.dat (.list (.int .i64)))])], [(.tmp 0 false [(.dat .bool)])], slices_Equal___int_int⟩), (30, ⟨[(.tmp 0 false [(.dat (.int .i64))])], [(.tmp 0 false [(.dat .bool)])], provisional_isProvisional⟩), (31, ⟨[(.tmp 0 false [(.dat (.int .i64))])], [(.tmp 0 false [(.dat .bool)])], provisional_isAccepting⟩), (34, ⟨[(.tmp 0 false [(.dat (.int .i64))])], [(.tmp 0 false [(.dat .bool)])], provisional_mayWait⟩), (14, ⟨[(.tmp 0 true [(.dat (.int .i64)), (.dat (.int .i64)), (.dat (.int .i64)), (.dat (.list (.int .i64))), (.dat .bool), (.dat .bool)])], [(.tmp 0 false [(.dat .bool)])], provisional_May⟩)]
theorem cons33_ok : ConL Try.prog cons33 := ⟨clone_con, con37, con30, con31, con34, con14, trivial⟩
theorem con33 : ConOk Try.prog 33 ⟨[(.tmp 0 false [(.dat (.int .i64))]), (.tmp 1 false [(.dat (.int .i64))])], [(.tmp 0 true [(.dat (.int .u8)), (.dat (.int .i64)), (.dat (.int .i64)), (.dat (.int .i64)), (.dat (.int .i64))])], provisional_timer⟩ :=
  tree_ok (plan := planOf plan33) (eg := egNo) KK tabL_ok (conOf_ok cons33_ok) Try.func33 (by kernel_rfl) (by kernel_rfl) 10000 (fun a r h => Eq.trans (show _ = provisional_timer a from by kernel_rfl) h)
/-! ### dialtone/provisional.Same -/
def plan20 : List (Nat × PL) := []
noncomputable def provisional_Same : ((Int × (Int × (Int × ((List Int) × (Bool × Bool))))) × (Int × (Int × (Int × ((List Int) × (Bool × Bool)))))) → Option Bool := fun ((a1, (a2, (a3, (a4, (a5, a6))))), (a7, (a8, (a9, (a10, (a11, a12)))))) =>
  bif (decide (a1 = a7)) then
   bif (decide (a2 = a8)) then
    bif (decide (a3 = a9)) then
     bindO (slices_Equal___int_int (a4, a10)) fun x13 =>
     bif x13 then
      bif (a5 == a11) then
       some (a6 == a12)
      else
       some Bool.false
     else
      some Bool.false
    else
     some Bool.false
   else
    some Bool.false
  else
   some Bool.false
noncomputable def cons20 : List (Nat × CE) := [(39, ⟨[.tmp 0 false [.dat (.list (.int .i64))]], [.tmp 0 false [.own 1 3 (.int .i64)]], cloneG⟩), (37, ⟨[(.tmp 0 false [(.dat (.list (.int .i64)))]), (.tmp 1 false [(.dat (.list (.int .i64)))])], [(.tmp 0 false [(.dat .bool)])], slices_Equal___int_int⟩), (30, ⟨[(.tmp 0 false [(.dat (.int .i64))])], [(.tmp 0 false [(.dat .bool)])], provisional_isProvisional⟩), (31, ⟨[(.tmp 0 false [(.dat (.int .i64))])], [(.tmp 0 false [(.dat .bool)])], provisional_isAccepting⟩), (34, ⟨[(.tmp 0 false [(.dat (.int .i64))])], [(.tmp 0 false [(.dat .bool)])], provisional_mayWait⟩), (14, ⟨[(.tmp 0 true [(.dat (.int .i64)), (.dat (.int .i64)), (.dat (.int .i64)), (.dat (.list (.int .i64))), (.dat .bool), (.dat .bool)])], [(.tmp 0 false [(.dat .bool)])], provisional_May⟩), (33, ⟨[(.tmp 0 false [(.dat (.int .i64))]), (.tmp 1 false [(.dat (.int .i64))])], [(.tmp 0 true [(.dat (.int .u8)), (.dat (.int .i64)), (.dat (.int .i64)), (.dat (.int .i64)), (.dat (.int .i64))])], provisional_timer⟩)]
theorem cons20_ok : ConL Try.prog cons20 := ⟨clone_con, con37, con30, con31, con34, con14, con33, trivial⟩
theorem con20 : ConOk Try.prog 20 ⟨[(.tmp 0 true [(.dat (.int .i64)), (.dat (.int .i64)), (.dat (.int .i64)), (.dat (.list (.int .i64))), (.dat .bool), (.dat .bool)]), (.tmp 1 true [(.dat (.int .i64)), (.dat (.int .i64)), (.dat (.int .i64)), (.dat (.list (.int .i64))), (.dat .bool), (.dat .bool)])], [(.tmp 0 false [(.dat .bool)])], provisional_Same⟩ :=
  tree_ok (plan := planOf plan20) (eg := egNo) KK tabL_ok (conOf_ok cons20_ok) Try.func20 (by kernel_rfl) (by kernel_rfl) 10000 (fun a r h => Eq.trans (show _ = provisional_Same a from by kernel_rfl) h)
/-! ### dialtone/provisional.Offer -/
def plan11 : List (Nat × PL) := [(1240362622532514091484053521, .unroll), (325153619321163373997995726211078, .once), (166478653092435647486973811820072454, .once), (85237070383327051513330591651877096966, .stop)]
noncomputable def provisional_Offer : ((Int × (Int × (Int × ((List Int) × (Bool × Bool))))) × Int) → Option ((Int × (Int × (Int × ((List Int) × (Bool × Bool))))) × ((List (Int × (Int × (Int × (Int × Int))))) × Int)) := fun ((a1, (a2, (a3, (a4, (a5, a6))))), a7) =>
  bindO (provisional_May (a1, (a2, (a3, (a4, (a5, a6)))))) fun x8 =>
  bif (!x8) then
   some (((0 : Int), ((0 : Int), ((0 : Int), (([] : List Int), (Bool.false, Bool.false))))), (([] : List (Int × (Int × (Int × (Int × Int))))), (2 : Int)))
  else
   bif (decide (a7 < (101 : Int))) then
    some (((0 : Int), ((0 : Int), ((0 : Int), (([] : List Int), (Bool.false, Bool.false))))), (([] : List (Int × (Int × (Int × (Int × Int))))), (2 : Int)))
   else
    bif (decide (a7 > (699 : Int))) then
     some (((0 : Int), ((0 : Int), ((0 : Int), (([] : List Int), (Bool.false, Bool.false))))), (([] : List (Int × (Int × (Int × (Int × Int))))), (2 : Int)))
    else
     bif a5 then
      some (((0 : Int), ((0 : Int), ((0 : Int), (([] : List Int), (Bool.false, Bool.false))))), (([] : List (Int × (Int × (Int × (Int × Int))))), (9 : Int)))
     else
      bindO (cloneG a4) fun x9 =>
      bif (decide (a7 ≥ (300 : Int))) then
       bindO (some (((2 : Int), (a7, ((0 : Int), ((0 : Int), (0 : Int))))) :: ([] : List (Int × (Int × (Int × (Int × Int))))))) fun x10 =>
       bif (decide ((List.length x10) ≤ (List.length x10))) then 
        some ((a1, ((0 : Int), ((0 : Int), (([] : List Int), (Bool.true, a6))))), ((List.take (List.length x10) x10), (0 : Int)))
       else none
      else
       bif (decide ((((List.length a4) : Nat) : Int) ≥ (16 : Int))) then
        some (((0 : Int), ((0 : Int), ((0 : Int), (([] : List Int), (Bool.false, Bool.false))))), (([] : List (Int × (Int × (Int × (Int × Int))))), (10 : Int)))
       else
        bindO (provisional_isProvisional a7) fun x11 =>
        bif x11 then
         bif (decide ((Go.IntKind.wrap .i64 (a1 + (((List.length a4) : Nat) : Int))) ≥ (2147483647 : Int))) then
          some (((0 : Int), ((0 : Int), ((0 : Int), (([] : List Int), (Bool.false, Bool.false))))), (([] : List (Int × (Int × (Int × (Int × Int))))), (10 : Int)))
         else
          bif (decide ((List.length x9) ≤ (List.length x9))) then 
           bif (decide (((List.length ((List.take (List.length x9) x9) ++ (a7 :: ([] : List Int)))) * 8) ≤ 140737488355328)) then 
            bindO (some ((List.take (List.length x9) x9) ++ (a7 :: ([] : List Int)))) fun x13 =>
            bindO (provisional_isAccepting a7) fun x14 =>
            bif (decide (a2 = (0 : Int))) then
             bif (decide ((((List.length x13) : Nat) : Int) > (0 : Int))) then
              bif (decide (((0 : Int) ≤ (0 : Int)) ∧ ((0 : Int) < (((List.length x13) : Nat) : Int)))) then 
               bindO x13[0]? fun x15 =>
               bif ((decide (((0 : Int) ≤ (((List.length x13) : Nat) : Int)) ∧ ((((List.length x13) : Nat) : Int) ≤ (((List.length x13) : Nat) : Int)))) && ((decide (((0 : Int) ≤ (((List.length x13) : Nat) : Int)) ∧ ((((List.length x13) : Nat) : Int) ≤ (((Int.toNat (((List.length x13) : Nat) : Int)) : Nat) : Int)))) && (decide (((0 : Int) ≤ (1 : Int)) ∧ ((1 : Int) ≤ (((Int.toNat (((List.length x13) : Nat) : Int)) : Nat) : Int)))))) then 
                bindO (provisional_isProvisional x15) fun x16 =>
                bif (!x16) then
                 bindO (some (((2 : Int), (x15, ((0 : Int), ((0 : Int), (0 : Int))))) :: ([] : List (Int × (Int × (Int × (Int × Int))))))) fun x17 =>
                 bif (decide (a2 = (0 : Int))) then
                  bif (decide (((((Int.toNat (((List.length x13) : Nat) : Int)) - 1) : Nat) : Int) > (0 : Int))) then
                   bif (decide (((0 : Int) ≤ (0 : Int)) ∧ ((0 : Int) < ((((Int.toNat (((List.length x13) : Nat) : Int)) - 1) : Nat) : Int)))) then 
                    bindO x13[1]? fun x18 =>
                    bif ((decide (((0 : Int) ≤ ((((Int.toNat (((List.length x13) : Nat) : Int)) - 1) : Nat) : Int)) ∧ (((((Int.toNat (((List.length x13) : Nat) : Int)) - 1) : Nat) : Int) ≤ ((((Int.toNat (((List.length x13) : Nat) : Int)) - 1) : Nat) : Int)))) && ((decide (((0 : Int) ≤ ((((Int.toNat (((List.length x13) : Nat) : Int)) - 1) : Nat) : Int)) ∧ (((((Int.toNat (((List.length x13) : Nat) : Int)) - 1) : Nat) : Int) ≤ (((Int.toNat ((((Int.toNat (((List.length x13) : Nat) : Int)) - 1) : Nat) : Int)) : Nat) : Int)))) && (decide (((0 : Int) ≤ (1 : Int)) ∧ ((1 : Int) ≤ (((Int.toNat ((((Int.toNat (((List.length x13) : Nat) : Int)) - 1) : Nat) : Int)) : Nat) : Int)))))) then 
                     bindO (provisional_isProvisional x18) fun x19 =>
                     bif (!x19) then
                      bif (decide ((List.length x17) ≤ (List.length x17))) then 
                       bif (decide (((List.length ((List.take (List.length x17) x17) ++ (((2 : Int), (x18, ((0 : Int), ((0 : Int), (0 : Int))))) :: ([] : List (Int × (Int × (Int × (Int × Int)))))))) * 40) ≤ 140737488355328)) then 
                        none /- "rounds" -/
                       else none
                      else none
                     else
                      bindO (provisional_timer ((1 : Int), (500 : Int))) fun (x23, (x24, (x25, (x26, x27)))) =>
                      bindO (provisional_timer ((2 : Int), (32000 : Int))) fun (x29, (x30, (x31, (x32, x33)))) =>
                      bif (decide ((List.length x17) ≤ (List.length x17))) then 
                       bif (decide (((List.length ((List.take (List.length x17) x17) ++ (((1 : Int), (x18, ((Go.IntKind.wrap .i64 (a1 + (1 : Int))), ((0 : Int), (0 : Int))))) :: ((x23, (x24, (x25, (x26, x27)))) :: ((x29, (x30, (x31, (x32, x33)))) :: ([] : List (Int × (Int × (Int × (Int × Int)))))))))) * 40) ≤ 140737488355328)) then 
                        none /- "rounds" -/
                       else none
                      else none
                    else none
                   else none
                  else
                   bif ((decide ((1 + ((Int.toNat (((List.length x13) : Nat) : Int)) - 1)) ≤ (List.length x13))) && (decide ((List.length x17) ≤ (List.length x17)))) then 
                    some ((a1, (a2, (a3, ((List.take ((Int.toNat (((List.length x13) : Nat) : Int)) - 1) (List.drop 1 x13)), (x14, a6))))), ((List.take (List.length x17) x17), (0 : Int)))
                   else none
                 else
                  bif ((decide ((1 + ((Int.toNat (((List.length x13) : Nat) : Int)) - 1)) ≤ (List.length x13))) && (decide ((List.length x17) ≤ (List.length x17)))) then 
                   some ((a1, (a2, (a3, ((List.take ((Int.toNat (((List.length x13) : Nat) : Int)) - 1) (List.drop 1 x13)), (x14, a6))))), ((List.take (List.length x17) x17), (0 : Int)))
                  else none
                else
                 bindO (some (Go.IntKind.wrap .i64 (a1 + (1 : Int)))) fun x35 =>
                 bindO (provisional_timer ((1 : Int), (500 : Int))) fun (x37, (x38, (x39, (x40, x41)))) =>
                 bindO (provisional_timer ((2 : Int), (32000 : Int))) fun (x43, (x44, (x45, (x46, x47)))) =>
                 bindO (some (((1 : Int), (x15, (x35, ((0 : Int), (0 : Int))))) :: ((x37, (x38, (x39, (x40, x41)))) :: ((x43, (x44, (x45, (x46, x47)))) :: ([] : List (Int × (Int × (Int × (Int × Int))))))))) fun x48 =>
                 bif (decide (x15 = (0 : Int))) then
                  bif (decide (((((Int.toNat (((List.length x13) : Nat) : Int)) - 1) : Nat) : Int) > (0 : Int))) then
                   bif (decide (((0 : Int) ≤ (0 : Int)) ∧ ((0 : Int) < ((((Int.toNat (((List.length x13) : Nat) : Int)) - 1) : Nat) : Int)))) then 
                    bindO x13[1]? fun x49 =>
                    bif ((decide (((0 : Int) ≤ ((((Int.toNat (((List.length x13) : Nat) : Int)) - 1) : Nat) : Int)) ∧ (((((Int.toNat (((List.length x13) : Nat) : Int)) - 1) : Nat) : Int) ≤ ((((Int.toNat (((List.length x13) : Nat) : Int)) - 1) : Nat) : Int)))) && ((decide (((0 : Int) ≤ ((((Int.toNat (((List.length x13) : Nat) : Int)) - 1) : Nat) : Int)) ∧ (((((Int.toNat (((List.length x13) : Nat) : Int)) - 1) : Nat) : Int) ≤ (((Int.toNat ((((Int.toNat (((List.length x13) : Nat) : Int)) - 1) : Nat) : Int)) : Nat) : Int)))) && (decide (((0 : Int) ≤ (1 : Int)) ∧ ((1 : Int) ≤ (((Int.toNat ((((Int.toNat (((List.length x13) : Nat) : Int)) - 1) : Nat) : Int)) : Nat) : Int)))))) then 
                     bindO (provisional_isProvisional x49) fun x50 =>
                     bif (!x50) then
                      bif (decide ((List.length x48) ≤ (List.length x48))) then 
                       bif (decide (((List.length ((List.take (List.length x48) x48) ++ (((2 : Int), (x49, ((0 : Int), ((0 : Int), (0 : Int))))) :: ([] : List (Int × (Int × (Int × (Int × Int)))))))) * 40) ≤ 140737488355328)) then 
                        none /- "rounds" -/
                       else none
                      else none
                     else
                      bindO (provisional_timer ((1 : Int), (500 : Int))) fun (x54, (x55, (x56, (x57, x58)))) =>
                      bindO (provisional_timer ((2 : Int), (32000 : Int))) fun (x60, (x61, (x62, (x63, x64)))) =>
                      bif (decide ((List.length x48) ≤ (List.length x48))) then 
                       bif (decide (((List.length ((List.take (List.length x48) x48) ++ (((1 : Int), (x49, ((Go.IntKind.wrap .i64 (x35 + (1 : Int))), ((0 : Int), (0 : Int))))) :: ((x54, (x55, (x56, (x57, x58)))) :: ((x60, (x61, (x62, (x63, x64)))) :: ([] : List (Int × (Int × (Int × (Int × Int)))))))))) * 40) ≤ 140737488355328)) then 
                        none /- "rounds" -/
                       else none
                      else none
                    else none
                   else none
                  else
                   bif ((decide ((1 + ((Int.toNat (((List.length x13) : Nat) : Int)) - 1)) ≤ (List.length x13))) && (decide ((List.length x48) ≤ (List.length x48)))) then 
                    some ((x35, (x15, ((500 : Int), ((List.take ((Int.toNat (((List.length x13) : Nat) : Int)) - 1) (List.drop 1 x13)), (x14, a6))))), ((List.take (List.length x48) x48), (0 : Int)))
                   else none
                 else
                  bif ((decide ((1 + ((Int.toNat (((List.length x13) : Nat) : Int)) - 1)) ≤ (List.length x13))) && (decide ((List.length x48) ≤ (List.length x48)))) then 
                   some ((x35, (x15, ((500 : Int), ((List.take ((Int.toNat (((List.length x13) : Nat) : Int)) - 1) (List.drop 1 x13)), (x14, a6))))), ((List.take (List.length x48) x48), (0 : Int)))
                  else none
               else none
              else none
             else
              bif (decide ((List.length x13) ≤ (List.length x13))) then 
               some ((a1, (a2, (a3, ((List.take (List.length x13) x13), (x14, a6))))), (([] : List (Int × (Int × (Int × (Int × Int))))), (0 : Int)))
              else none
            else
             bif (decide ((List.length x13) ≤ (List.length x13))) then 
              some ((a1, (a2, (a3, ((List.take (List.length x13) x13), (x14, a6))))), (([] : List (Int × (Int × (Int × (Int × Int))))), (0 : Int)))
             else none
           else none
          else none
        else
         bif (decide ((List.length x9) ≤ (List.length x9))) then 
          bif (decide (((List.length ((List.take (List.length x9) x9) ++ (a7 :: ([] : List Int)))) * 8) ≤ 140737488355328)) then 
           bindO (some ((List.take (List.length x9) x9) ++ (a7 :: ([] : List Int)))) fun x66 =>
           bindO (provisional_isAccepting a7) fun x67 =>
           bif (decide (a2 = (0 : Int))) then
            bif (decide ((((List.length x66) : Nat) : Int) > (0 : Int))) then
             bif (decide (((0 : Int) ≤ (0 : Int)) ∧ ((0 : Int) < (((List.length x66) : Nat) : Int)))) then 
              bindO x66[0]? fun x68 =>
              bif ((decide (((0 : Int) ≤ (((List.length x66) : Nat) : Int)) ∧ ((((List.length x66) : Nat) : Int) ≤ (((List.length x66) : Nat) : Int)))) && ((decide (((0 : Int) ≤ (((List.length x66) : Nat) : Int)) ∧ ((((List.length x66) : Nat) : Int) ≤ (((Int.toNat (((List.length x66) : Nat) : Int)) : Nat) : Int)))) && (decide (((0 : Int) ≤ (1 : Int)) ∧ ((1 : Int) ≤ (((Int.toNat (((List.length x66) : Nat) : Int)) : Nat) : Int)))))) then 
               bindO (provisional_isProvisional x68) fun x69 =>
               bif (!x69) then
                bindO (some (((2 : Int), (x68, ((0 : Int), ((0 : Int), (0 : Int))))) :: ([] : List (Int × (Int × (Int × (Int × Int))))))) fun x70 =>
                bif (decide (a2 = (0 : Int))) then
                 bif (decide (((((Int.toNat (((List.length x66) : Nat) : Int)) - 1) : Nat) : Int) > (0 : Int))) then
                  bif (decide (((0 : Int) ≤ (0 : Int)) ∧ ((0 : Int) < ((((Int.toNat (((List.length x66) : Nat) : Int)) - 1) : Nat) : Int)))) then 
                   bindO x66[1]? fun x71 =>
                   bif ((decide (((0 : Int) ≤ ((((Int.toNat (((List.length x66) : Nat) : Int)) - 1) : Nat) : Int)) ∧ (((((Int.toNat (((List.length x66) : Nat) : Int)) - 1) : Nat) : Int) ≤ ((((Int.toNat (((List.length x66) : Nat) : Int)) - 1) : Nat) : Int)))) && ((decide (((0 : Int) ≤ ((((Int.toNat (((List.length x66) : Nat) : Int)) - 1) : Nat) : Int)) ∧ (((((Int.toNat (((List.length x66) : Nat) : Int)) - 1) : Nat) : Int) ≤ (((Int.toNat ((((Int.toNat (((List.length x66) : Nat) : Int)) - 1) : Nat) : Int)) : Nat) : Int)))) && (decide (((0 : Int) ≤ (1 : Int)) ∧ ((1 : Int) ≤ (((Int.toNat ((((Int.toNat (((List.length x66) : Nat) : Int)) - 1) : Nat) : Int)) : Nat) : Int)))))) then 
                    bindO (provisional_isProvisional x71) fun x72 =>
                    bif (!x72) then
                     bif (decide ((List.length x70) ≤ (List.length x70))) then 
                      bif (decide (((List.length ((List.take (List.length x70) x70) ++ (((2 : Int), (x71, ((0 : Int), ((0 : Int), (0 : Int))))) :: ([] : List (Int × (Int × (Int × (Int × Int)))))))) * 40) ≤ 140737488355328)) then 
                       none /- "rounds" -/
                      else none
                     else none
                    else
                     bindO (provisional_timer ((1 : Int), (500 : Int))) fun (x76, (x77, (x78, (x79, x80)))) =>
                     bindO (provisional_timer ((2 : Int), (32000 : Int))) fun (x82, (x83, (x84, (x85, x86)))) =>
                     bif (decide ((List.length x70) ≤ (List.length x70))) then 
                      bif (decide (((List.length ((List.take (List.length x70) x70) ++ (((1 : Int), (x71, ((Go.IntKind.wrap .i64 (a1 + (1 : Int))), ((0 : Int), (0 : Int))))) :: ((x76, (x77, (x78, (x79, x80)))) :: ((x82, (x83, (x84, (x85, x86)))) :: ([] : List (Int × (Int × (Int × (Int × Int)))))))))) * 40) ≤ 140737488355328)) then 
                       none /- "rounds" -/
                      else none
                     else none
                   else none
                  else none
                 else
                  bif ((decide ((1 + ((Int.toNat (((List.length x66) : Nat) : Int)) - 1)) ≤ (List.length x66))) && (decide ((List.length x70) ≤ (List.length x70)))) then 
                   some ((a1, (a2, (a3, ((List.take ((Int.toNat (((List.length x66) : Nat) : Int)) - 1) (List.drop 1 x66)), (x67, a6))))), ((List.take (List.length x70) x70), (0 : Int)))
                  else none
                else
                 bif ((decide ((1 + ((Int.toNat (((List.length x66) : Nat) : Int)) - 1)) ≤ (List.length x66))) && (decide ((List.length x70) ≤ (List.length x70)))) then 
                  some ((a1, (a2, (a3, ((List.take ((Int.toNat (((List.length x66) : Nat) : Int)) - 1) (List.drop 1 x66)), (x67, a6))))), ((List.take (List.length x70) x70), (0 : Int)))
                 else none
               else
                bindO (some (Go.IntKind.wrap .i64 (a1 + (1 : Int)))) fun x88 =>
                bindO (provisional_timer ((1 : Int), (500 : Int))) fun (x90, (x91, (x92, (x93, x94)))) =>
                bindO (provisional_timer ((2 : Int), (32000 : Int))) fun (x96, (x97, (x98, (x99, x100)))) =>
                bindO (some (((1 : Int), (x68, (x88, ((0 : Int), (0 : Int))))) :: ((x90, (x91, (x92, (x93, x94)))) :: ((x96, (x97, (x98, (x99, x100)))) :: ([] : List (Int × (Int × (Int × (Int × Int))))))))) fun x101 =>
                bif (decide (x68 = (0 : Int))) then
                 bif (decide (((((Int.toNat (((List.length x66) : Nat) : Int)) - 1) : Nat) : Int) > (0 : Int))) then
                  bif (decide (((0 : Int) ≤ (0 : Int)) ∧ ((0 : Int) < ((((Int.toNat (((List.length x66) : Nat) : Int)) - 1) : Nat) : Int)))) then 
                   bindO x66[1]? fun x102 =>
                   bif ((decide (((0 : Int) ≤ ((((Int.toNat (((List.length x66) : Nat) : Int)) - 1) : Nat) : Int)) ∧ (((((Int.toNat (((List.length x66) : Nat) : Int)) - 1) : Nat) : Int) ≤ ((((Int.toNat (((List.length x66) : Nat) : Int)) - 1) : Nat) : Int)))) && ((decide (((0 : Int) ≤ ((((Int.toNat (((List.length x66) : Nat) : Int)) - 1) : Nat) : Int)) ∧ (((((Int.toNat (((List.length x66) : Nat) : Int)) - 1) : Nat) : Int) ≤ (((Int.toNat ((((Int.toNat (((List.length x66) : Nat) : Int)) - 1) : Nat) : Int)) : Nat) : Int)))) && (decide (((0 : Int) ≤ (1 : Int)) ∧ ((1 : Int) ≤ (((Int.toNat ((((Int.toNat (((List.length x66) : Nat) : Int)) - 1) : Nat) : Int)) : Nat) : Int)))))) then 
                    bindO (provisional_isProvisional x102) fun x103 =>
                    bif (!x103) then
                     bif (decide ((List.length x101) ≤ (List.length x101))) then 
                      bif (decide (((List.length ((List.take (List.length x101) x101) ++ (((2 : Int), (x102, ((0 : Int), ((0 : Int), (0 : Int))))) :: ([] : List (Int × (Int × (Int × (Int × Int)))))))) * 40) ≤ 140737488355328)) then 
                       none /- "rounds" -/
                      else none
                     else none
                    else
                     bindO (provisional_timer ((1 : Int), (500 : Int))) fun (x107, (x108, (x109, (x110, x111)))) =>
                     bindO (provisional_timer ((2 : Int), (32000 : Int))) fun (x113, (x114, (x115, (x116, x117)))) =>
                     bif (decide ((List.length x101) ≤ (List.length x101))) then 
                      bif (decide (((List.length ((List.take (List.length x101) x101) ++ (((1 : Int), (x102, ((Go.IntKind.wrap .i64 (x88 + (1 : Int))), ((0 : Int), (0 : Int))))) :: ((x107, (x108, (x109, (x110, x111)))) :: ((x113, (x114, (x115, (x116, x117)))) :: ([] : List (Int × (Int × (Int × (Int × Int)))))))))) * 40) ≤ 140737488355328)) then 
                       none /- "rounds" -/
                      else none
                     else none
                   else none
                  else none
                 else
                  bif ((decide ((1 + ((Int.toNat (((List.length x66) : Nat) : Int)) - 1)) ≤ (List.length x66))) && (decide ((List.length x101) ≤ (List.length x101)))) then 
                   some ((x88, (x68, ((500 : Int), ((List.take ((Int.toNat (((List.length x66) : Nat) : Int)) - 1) (List.drop 1 x66)), (x67, a6))))), ((List.take (List.length x101) x101), (0 : Int)))
                  else none
                else
                 bif ((decide ((1 + ((Int.toNat (((List.length x66) : Nat) : Int)) - 1)) ≤ (List.length x66))) && (decide ((List.length x101) ≤ (List.length x101)))) then 
                  some ((x88, (x68, ((500 : Int), ((List.take ((Int.toNat (((List.length x66) : Nat) : Int)) - 1) (List.drop 1 x66)), (x67, a6))))), ((List.take (List.length x101) x101), (0 : Int)))
                 else none
              else none
             else none
            else
             bif (decide ((List.length x66) ≤ (List.length x66))) then 
              some ((a1, (a2, (a3, ((List.take (List.length x66) x66), (x67, a6))))), (([] : List (Int × (Int × (Int × (Int × Int))))), (0 : Int)))
             else none
           else
            bif (decide ((List.length x66) ≤ (List.length x66))) then 
             some ((a1, (a2, (a3, ((List.take (List.length x66) x66), (x67, a6))))), (([] : List (Int × (Int × (Int × (Int × Int))))), (0 : Int)))
            else none
          else none
         else none
noncomputable def cons11 : List (Nat × CE) := [(39, ⟨[.tmp 0 false [.dat (.list (.int .i64))]], [.tmp 0 false [.own 1 3 (.int .i64)]], cloneG⟩), (37, ⟨[(.tmp 0 false [(.dat (.list (.int .i64)))]), (.tmp 1 false [(.dat (.list (.int .i64)))])], [(.tmp 0 false [(.dat .bool)])], slices_Equal___int_int⟩), (30, ⟨[(.tmp 0 false [(.dat (.int .i64))])], [(.tmp 0 false [(.dat .bool)])], provisional_isProvisional⟩), (31, ⟨[(.tmp 0 false [(.dat (.int .i64))])], [(.tmp 0 false [(.dat .bool)])], provisional_isAccepting⟩), (34, ⟨[(.tmp 0 false [(.dat (.int .i64))])], [(.tmp 0 false [(.dat .bool)])], provisional_mayWait⟩), (14, ⟨[(.tmp 0 true [(.dat (.int .i64)), (.dat (.int .i64)), (.dat (.int .i64)), (.dat (.list (.int .i64))), (.dat .bool), (.dat .bool)])], [(.tmp 0 false [(.dat .bool)])], provisional_May⟩), (33, ⟨[(.tmp 0 false [(.dat (.int .i64))]), (.tmp 1 false [(.dat (.int .i64))])], [(.tmp 0 true [(.dat (.int .u8)), (.dat (.int .i64)), (.dat (.int .i64)), (.dat (.int .i64)), (.dat (.int .i64))])], provisional_timer⟩), (20, ⟨[(.tmp 0 true [(.dat (.int .i64)), (.dat (.int .i64)), (.dat (.int .i64)), (.dat (.list (.int .i64))), (.dat .bool), (.dat .bool)]), (.tmp 1 true [(.dat (.int .i64)), (.dat (.int .i64)), (.dat (.int .i64)), (.dat (.list (.int .i64))), (.dat .bool), (.dat .bool)])], [(.tmp 0 false [(.dat .bool)])], provisional_Same⟩)]
theorem cons11_ok : ConL Try.prog cons11 := ⟨clone_con, con37, con30, con31, con34, con14, con33, con20, trivial⟩
theorem con11 : ConOk Try.prog 11 ⟨[(.tmp 0 true [(.dat (.int .i64)), (.dat (.int .i64)), (.dat (.int .i64)), (.dat (.list (.int .i64))), (.dat .bool), (.dat .bool)]), (.tmp 1 false [(.dat (.int .i64))])], [(.tmp 0 true [(.dat (.int .i64)), (.dat (.int .i64)), (.dat (.int .i64)), (.dat (.list (.int .i64))), (.dat .bool), (.dat .bool)]), (.tmp 1 false [(.dat (.list (.pair (.int .u8) (.pair (.int .i64) (.pair (.int .i64) (.pair (.int .i64) (.int .i64)))))))]), (.tmp 2 false [(.dat (.int .u8))])], provisional_Offer⟩ :=
  tree_ok (plan := planOf plan11) (eg := egNo) KK tabL_ok (conOf_ok cons11_ok) Try.func11 (by kernel_rfl) (by kernel_rfl) 10000 (fun a r h => Eq.trans (show _ = provisional_Offer a from by kernel_rfl) h)
/-! ### dialtone/provisional.Ack -/
def plan12 : List (Nat × PL) := [(9241421688590303249, .unroll), (2422583247133816454907910, .once), (1240362622532514024912850438, .once), (635065662736647180755379424774, .stop)]
noncomputable def provisional_Ack : ((Int × (Int × (Int × ((List Int) × (Bool × Bool))))) × Int) → Option ((Int × (Int × (Int × ((List Int) × (Bool × Bool))))) × ((List (Int × (Int × (Int × (Int × Int))))) × Int)) := fun ((a1, (a2, (a3, (a4, (a5, a6))))), a7) =>
  bindO (provisional_May (a1, (a2, (a3, (a4, (a5, a6)))))) fun x8 =>
  bif (!x8) then
   some (((0 : Int), ((0 : Int), ((0 : Int), (([] : List Int), (Bool.false, Bool.false))))), (([] : List (Int × (Int × (Int × (Int × Int))))), (2 : Int)))
  else
   bif (decide (a2 = (0 : Int))) then
    some (((0 : Int), ((0 : Int), ((0 : Int), (([] : List Int), (Bool.false, Bool.false))))), (([] : List (Int × (Int × (Int × (Int × Int))))), (8 : Int)))
   else
    bif (decide (a7 ≠ a1)) then
     some (((0 : Int), ((0 : Int), ((0 : Int), (([] : List Int), (Bool.false, Bool.false))))), (([] : List (Int × (Int × (Int × (Int × Int))))), (8 : Int)))
    else
     bindO (cloneG a4) fun x9 =>
     bif (decide ((((List.length x9) : Nat) : Int) > (0 : Int))) then
      bif (decide (((0 : Int) ≤ (0 : Int)) ∧ ((0 : Int) < (((List.length x9) : Nat) : Int)))) then 
       bindO x9[0]? fun x10 =>
       bif ((decide (((0 : Int) ≤ (((List.length x9) : Nat) : Int)) ∧ ((((List.length x9) : Nat) : Int) ≤ (((List.length x9) : Nat) : Int)))) && ((decide (((0 : Int) ≤ (((List.length x9) : Nat) : Int)) ∧ ((((List.length x9) : Nat) : Int) ≤ (((Int.toNat (((List.length x9) : Nat) : Int)) : Nat) : Int)))) && (decide (((0 : Int) ≤ (1 : Int)) ∧ ((1 : Int) ≤ (((Int.toNat (((List.length x9) : Nat) : Int)) : Nat) : Int)))))) then 
        bindO (provisional_isProvisional x10) fun x11 =>
        bif (!x11) then
         bindO (some (((2 : Int), (x10, ((0 : Int), ((0 : Int), (0 : Int))))) :: ([] : List (Int × (Int × (Int × (Int × Int))))))) fun x12 =>
         bif (decide (((((Int.toNat (((List.length x9) : Nat) : Int)) - 1) : Nat) : Int) > (0 : Int))) then
          bif (decide (((0 : Int) ≤ (0 : Int)) ∧ ((0 : Int) < ((((Int.toNat (((List.length x9) : Nat) : Int)) - 1) : Nat) : Int)))) then 
           bindO x9[1]? fun x13 =>
           bif ((decide (((0 : Int) ≤ ((((Int.toNat (((List.length x9) : Nat) : Int)) - 1) : Nat) : Int)) ∧ (((((Int.toNat (((List.length x9) : Nat) : Int)) - 1) : Nat) : Int) ≤ ((((Int.toNat (((List.length x9) : Nat) : Int)) - 1) : Nat) : Int)))) && ((decide (((0 : Int) ≤ ((((Int.toNat (((List.length x9) : Nat) : Int)) - 1) : Nat) : Int)) ∧ (((((Int.toNat (((List.length x9) : Nat) : Int)) - 1) : Nat) : Int) ≤ (((Int.toNat ((((Int.toNat (((List.length x9) : Nat) : Int)) - 1) : Nat) : Int)) : Nat) : Int)))) && (decide (((0 : Int) ≤ (1 : Int)) ∧ ((1 : Int) ≤ (((Int.toNat ((((Int.toNat (((List.length x9) : Nat) : Int)) - 1) : Nat) : Int)) : Nat) : Int)))))) then 
            bindO (provisional_isProvisional x13) fun x14 =>
            bif (!x14) then
             bif (decide ((List.length x12) ≤ (List.length x12))) then 
              bif (decide (((List.length ((List.take (List.length x12) x12) ++ (((2 : Int), (x13, ((0 : Int), ((0 : Int), (0 : Int))))) :: ([] : List (Int × (Int × (Int × (Int × Int)))))))) * 40) ≤ 140737488355328)) then 
               none /- "rounds" -/
              else none
             else none
            else
             bindO (provisional_timer ((1 : Int), (500 : Int))) fun (x18, (x19, (x20, (x21, x22)))) =>
             bindO (provisional_timer ((2 : Int), (32000 : Int))) fun (x24, (x25, (x26, (x27, x28)))) =>
             bif (decide ((List.length x12) ≤ (List.length x12))) then 
              bif (decide (((List.length ((List.take (List.length x12) x12) ++ (((1 : Int), (x13, ((Go.IntKind.wrap .i64 (a1 + (1 : Int))), ((0 : Int), (0 : Int))))) :: ((x18, (x19, (x20, (x21, x22)))) :: ((x24, (x25, (x26, (x27, x28)))) :: ([] : List (Int × (Int × (Int × (Int × Int)))))))))) * 40) ≤ 140737488355328)) then 
               none /- "rounds" -/
              else none
             else none
           else none
          else none
         else
          bif ((decide ((1 + ((Int.toNat (((List.length x9) : Nat) : Int)) - 1)) ≤ (List.length x9))) && (decide ((List.length x12) ≤ (List.length x12)))) then 
           some ((a1, ((0 : Int), ((0 : Int), ((List.take ((Int.toNat (((List.length x9) : Nat) : Int)) - 1) (List.drop 1 x9)), (a5, a6))))), ((List.take (List.length x12) x12), (0 : Int)))
          else none
        else
         bindO (some (Go.IntKind.wrap .i64 (a1 + (1 : Int)))) fun x30 =>
         bindO (provisional_timer ((1 : Int), (500 : Int))) fun (x32, (x33, (x34, (x35, x36)))) =>
         bindO (provisional_timer ((2 : Int), (32000 : Int))) fun (x38, (x39, (x40, (x41, x42)))) =>
         bindO (some (((1 : Int), (x10, (x30, ((0 : Int), (0 : Int))))) :: ((x32, (x33, (x34, (x35, x36)))) :: ((x38, (x39, (x40, (x41, x42)))) :: ([] : List (Int × (Int × (Int × (Int × Int))))))))) fun x43 =>
         bif (decide (x10 = (0 : Int))) then
          bif (decide (((((Int.toNat (((List.length x9) : Nat) : Int)) - 1) : Nat) : Int) > (0 : Int))) then
           bif (decide (((0 : Int) ≤ (0 : Int)) ∧ ((0 : Int) < ((((Int.toNat (((List.length x9) : Nat) : Int)) - 1) : Nat) : Int)))) then 
            bindO x9[1]? fun x44 =>
            bif ((decide (((0 : Int) ≤ ((((Int.toNat (((List.length x9) : Nat) : Int)) - 1) : Nat) : Int)) ∧ (((((Int.toNat (((List.length x9) : Nat) : Int)) - 1) : Nat) : Int) ≤ ((((Int.toNat (((List.length x9) : Nat) : Int)) - 1) : Nat) : Int)))) && ((decide (((0 : Int) ≤ ((((Int.toNat (((List.length x9) : Nat) : Int)) - 1) : Nat) : Int)) ∧ (((((Int.toNat (((List.length x9) : Nat) : Int)) - 1) : Nat) : Int) ≤ (((Int.toNat ((((Int.toNat (((List.length x9) : Nat) : Int)) - 1) : Nat) : Int)) : Nat) : Int)))) && (decide (((0 : Int) ≤ (1 : Int)) ∧ ((1 : Int) ≤ (((Int.toNat ((((Int.toNat (((List.length x9) : Nat) : Int)) - 1) : Nat) : Int)) : Nat) : Int)))))) then 
             bindO (provisional_isProvisional x44) fun x45 =>
             bif (!x45) then
              bif (decide ((List.length x43) ≤ (List.length x43))) then 
               bif (decide (((List.length ((List.take (List.length x43) x43) ++ (((2 : Int), (x44, ((0 : Int), ((0 : Int), (0 : Int))))) :: ([] : List (Int × (Int × (Int × (Int × Int)))))))) * 40) ≤ 140737488355328)) then 
                none /- "rounds" -/
               else none
              else none
             else
              bindO (provisional_timer ((1 : Int), (500 : Int))) fun (x49, (x50, (x51, (x52, x53)))) =>
              bindO (provisional_timer ((2 : Int), (32000 : Int))) fun (x55, (x56, (x57, (x58, x59)))) =>
              bif (decide ((List.length x43) ≤ (List.length x43))) then 
               bif (decide (((List.length ((List.take (List.length x43) x43) ++ (((1 : Int), (x44, ((Go.IntKind.wrap .i64 (x30 + (1 : Int))), ((0 : Int), (0 : Int))))) :: ((x49, (x50, (x51, (x52, x53)))) :: ((x55, (x56, (x57, (x58, x59)))) :: ([] : List (Int × (Int × (Int × (Int × Int)))))))))) * 40) ≤ 140737488355328)) then 
                none /- "rounds" -/
               else none
              else none
            else none
           else none
          else
           bif ((decide ((1 + ((Int.toNat (((List.length x9) : Nat) : Int)) - 1)) ≤ (List.length x9))) && (decide ((List.length x43) ≤ (List.length x43)))) then 
            some ((x30, (x10, ((500 : Int), ((List.take ((Int.toNat (((List.length x9) : Nat) : Int)) - 1) (List.drop 1 x9)), (a5, a6))))), ((List.take (List.length x43) x43), (0 : Int)))
           else none
         else
          bif ((decide ((1 + ((Int.toNat (((List.length x9) : Nat) : Int)) - 1)) ≤ (List.length x9))) && (decide ((List.length x43) ≤ (List.length x43)))) then 
           some ((x30, (x10, ((500 : Int), ((List.take ((Int.toNat (((List.length x9) : Nat) : Int)) - 1) (List.drop 1 x9)), (a5, a6))))), ((List.take (List.length x43) x43), (0 : Int)))
          else none
       else none
      else none
     else
      bif (decide ((List.length x9) ≤ (List.length x9))) then 
       some ((a1, ((0 : Int), ((0 : Int), ((List.take (List.length x9) x9), (a5, a6))))), (([] : List (Int × (Int × (Int × (Int × Int))))), (0 : Int)))
      else none
noncomputable def cons12 : List (Nat × CE) := [(39, ⟨[.tmp 0 false [.dat (.list (.int .i64))]], [.tmp 0 false [.own 1 3 (.int .i64)]], cloneG⟩), (37, ⟨[(.tmp 0 false [(.dat (.list (.int .i64)))]), (.tmp 1 false [(.dat (.list (.int .i64)))])], [(.tmp 0 false [(.dat .bool)])], slices_Equal___int_int⟩), (30, ⟨[(.tmp 0 false [(.dat (.int .i64))])], [(.tmp 0 false [(.dat .bool)])], provisional_isProvisional⟩), (31, ⟨[(.tmp 0 false [(.dat (.int .i64))])], [(.tmp 0 false [(.dat .bool)])], provisional_isAccepting⟩), (34, ⟨[(.tmp 0 false [(.dat (.int .i64))])], [(.tmp 0 false [(.dat .bool)])], provisional_mayWait⟩), (14, ⟨[(.tmp 0 true [(.dat (.int .i64)), (.dat (.int .i64)), (.dat (.int .i64)), (.dat (.list (.int .i64))), (.dat .bool), (.dat .bool)])], [(.tmp 0 false [(.dat .bool)])], provisional_May⟩), (33, ⟨[(.tmp 0 false [(.dat (.int .i64))]), (.tmp 1 false [(.dat (.int .i64))])], [(.tmp 0 true [(.dat (.int .u8)), (.dat (.int .i64)), (.dat (.int .i64)), (.dat (.int .i64)), (.dat (.int .i64))])], provisional_timer⟩), (20, ⟨[(.tmp 0 true [(.dat (.int .i64)), (.dat (.int .i64)), (.dat (.int .i64)), (.dat (.list (.int .i64))), (.dat .bool), (.dat .bool)]), (.tmp 1 true [(.dat (.int .i64)), (.dat (.int .i64)), (.dat (.int .i64)), (.dat (.list (.int .i64))), (.dat .bool), (.dat .bool)])], [(.tmp 0 false [(.dat .bool)])], provisional_Same⟩), (11, ⟨[(.tmp 0 true [(.dat (.int .i64)), (.dat (.int .i64)), (.dat (.int .i64)), (.dat (.list (.int .i64))), (.dat .bool), (.dat .bool)]), (.tmp 1 false [(.dat (.int .i64))])], [(.tmp 0 true [(.dat (.int .i64)), (.dat (.int .i64)), (.dat (.int .i64)), (.dat (.list (.int .i64))), (.dat .bool), (.dat .bool)]), (.tmp 1 false [(.dat (.list (.pair (.int .u8) (.pair (.int .i64) (.pair (.int .i64) (.pair (.int .i64) (.int .i64)))))))]), (.tmp 2 false [(.dat (.int .u8))])], provisional_Offer⟩)]
theorem cons12_ok : ConL Try.prog cons12 := ⟨clone_con, con37, con30, con31, con34, con14, con33, con20, con11, trivial⟩
theorem con12 : ConOk Try.prog 12 ⟨[(.tmp 0 true [(.dat (.int .i64)), (.dat (.int .i64)), (.dat (.int .i64)), (.dat (.list (.int .i64))), (.dat .bool), (.dat .bool)]), (.tmp 1 false [(.dat (.int .i64))])], [(.tmp 0 true [(.dat (.int .i64)), (.dat (.int .i64)), (.dat (.int .i64)), (.dat (.list (.int .i64))), (.dat .bool), (.dat .bool)]), (.tmp 1 false [(.dat (.list (.pair (.int .u8) (.pair (.int .i64) (.pair (.int .i64) (.pair (.int .i64) (.int .i64)))))))]), (.tmp 2 false [(.dat (.int .u8))])], provisional_Ack⟩ :=
  tree_ok (plan := planOf plan12) (eg := egNo) KK tabL_ok (conOf_ok cons12_ok) Try.func12 (by kernel_rfl) (by kernel_rfl) 10000 (fun a r h => Eq.trans (show _ = provisional_Ack a from by kernel_rfl) h)
/-! ### dialtone/provisional.Fire -/
def plan13 : List (Nat × PL) := []
noncomputable def provisional_Fire : ((Int × (Int × (Int × ((List Int) × (Bool × Bool))))) × Int) → Option ((Int × (Int × (Int × ((List Int) × (Bool × Bool))))) × ((List (Int × (Int × (Int × (Int × Int))))) × Int)) := fun ((a1, (a2, (a3, (a4, (a5, a6))))), a7) =>
  bindO (provisional_May (a1, (a2, (a3, (a4, (a5, a6)))))) fun x8 =>
  bif (!x8) then
   some (((0 : Int), ((0 : Int), ((0 : Int), (([] : List Int), (Bool.false, Bool.false))))), (([] : List (Int × (Int × (Int × (Int × Int))))), (2 : Int)))
  else
   bif (decide (a7 ≠ (1 : Int))) then
    bif (decide (a7 ≠ (2 : Int))) then
     some (((0 : Int), ((0 : Int), ((0 : Int), (([] : List Int), (Bool.false, Bool.false))))), (([] : List (Int × (Int × (Int × (Int × Int))))), (2 : Int)))
    else
     bindO (cloneG a4) fun x9 =>
     bif (decide (a2 = (0 : Int))) then
      bif (decide ((List.length x9) ≤ (List.length x9))) then 
       some ((a1, (a2, (a3, ((List.take (List.length x9) x9), (a5, a6))))), (([] : List (Int × (Int × (Int × (Int × Int))))), (0 : Int)))
      else none
     else
      bif (decide (a7 = (1 : Int))) then
       bindO (some (Go.IntKind.wrap .i64 ((2 : Int) * a3))) fun x10 =>
       bindO (provisional_timer ((1 : Int), (minA x10 (32000 : Int)))) fun (x12, (x13, (x14, (x15, x16)))) =>
       bindO (some (((1 : Int), (a2, (a1, ((0 : Int), (0 : Int))))) :: ((x12, (x13, (x14, (x15, x16)))) :: ([] : List (Int × (Int × (Int × (Int × Int)))))))) fun x17 =>
       bif ((decide ((List.length x9) ≤ (List.length x9))) && (decide ((List.length x17) ≤ (List.length x17)))) then 
        some ((a1, (a2, ((minA x10 (32000 : Int)), ((List.take (List.length x9) x9), (a5, a6))))), ((List.take (List.length x17) x17), (0 : Int)))
       else none
      else
       bindO (some (((4 : Int), ((0 : Int), ((0 : Int), ((0 : Int), (0 : Int))))) :: ([] : List (Int × (Int × (Int × (Int × Int))))))) fun x18 =>
       bif (decide ((List.length x18) ≤ (List.length x18))) then 
        some ((a1, ((0 : Int), ((0 : Int), (([] : List Int), (Bool.true, Bool.true))))), ((List.take (List.length x18) x18), (0 : Int)))
       else none
   else
    bindO (cloneG a4) fun x19 =>
    bif (decide (a2 = (0 : Int))) then
     bif (decide ((List.length x19) ≤ (List.length x19))) then 
      some ((a1, (a2, (a3, ((List.take (List.length x19) x19), (a5, a6))))), (([] : List (Int × (Int × (Int × (Int × Int))))), (0 : Int)))
     else none
    else
     bif (decide (a7 = (1 : Int))) then
      bindO (some (Go.IntKind.wrap .i64 ((2 : Int) * a3))) fun x20 =>
      bindO (provisional_timer ((1 : Int), (minA x20 (32000 : Int)))) fun (x22, (x23, (x24, (x25, x26)))) =>
      bindO (some (((1 : Int), (a2, (a1, ((0 : Int), (0 : Int))))) :: ((x22, (x23, (x24, (x25, x26)))) :: ([] : List (Int × (Int × (Int × (Int × Int)))))))) fun x27 =>
      bif ((decide ((List.length x19) ≤ (List.length x19))) && (decide ((List.length x27) ≤ (List.length x27)))) then 
       some ((a1, (a2, ((minA x20 (32000 : Int)), ((List.take (List.length x19) x19), (a5, a6))))), ((List.take (List.length x27) x27), (0 : Int)))
      else none
     else
      bindO (some (((4 : Int), ((0 : Int), ((0 : Int), ((0 : Int), (0 : Int))))) :: ([] : List (Int × (Int × (Int × (Int × Int))))))) fun x28 =>
      bif (decide ((List.length x28) ≤ (List.length x28))) then 
       some ((a1, ((0 : Int), ((0 : Int), (([] : List Int), (Bool.true, Bool.true))))), ((List.take (List.length x28) x28), (0 : Int)))
      else none
noncomputable def cons13 : List (Nat × CE) := [(39, ⟨[.tmp 0 false [.dat (.list (.int .i64))]], [.tmp 0 false [.own 1 3 (.int .i64)]], cloneG⟩), (37, ⟨[(.tmp 0 false [(.dat (.list (.int .i64)))]), (.tmp 1 false [(.dat (.list (.int .i64)))])], [(.tmp 0 false [(.dat .bool)])], slices_Equal___int_int⟩), (30, ⟨[(.tmp 0 false [(.dat (.int .i64))])], [(.tmp 0 false [(.dat .bool)])], provisional_isProvisional⟩), (31, ⟨[(.tmp 0 false [(.dat (.int .i64))])], [(.tmp 0 false [(.dat .bool)])], provisional_isAccepting⟩), (34, ⟨[(.tmp 0 false [(.dat (.int .i64))])], [(.tmp 0 false [(.dat .bool)])], provisional_mayWait⟩), (14, ⟨[(.tmp 0 true [(.dat (.int .i64)), (.dat (.int .i64)), (.dat (.int .i64)), (.dat (.list (.int .i64))), (.dat .bool), (.dat .bool)])], [(.tmp 0 false [(.dat .bool)])], provisional_May⟩), (33, ⟨[(.tmp 0 false [(.dat (.int .i64))]), (.tmp 1 false [(.dat (.int .i64))])], [(.tmp 0 true [(.dat (.int .u8)), (.dat (.int .i64)), (.dat (.int .i64)), (.dat (.int .i64)), (.dat (.int .i64))])], provisional_timer⟩), (20, ⟨[(.tmp 0 true [(.dat (.int .i64)), (.dat (.int .i64)), (.dat (.int .i64)), (.dat (.list (.int .i64))), (.dat .bool), (.dat .bool)]), (.tmp 1 true [(.dat (.int .i64)), (.dat (.int .i64)), (.dat (.int .i64)), (.dat (.list (.int .i64))), (.dat .bool), (.dat .bool)])], [(.tmp 0 false [(.dat .bool)])], provisional_Same⟩), (11, ⟨[(.tmp 0 true [(.dat (.int .i64)), (.dat (.int .i64)), (.dat (.int .i64)), (.dat (.list (.int .i64))), (.dat .bool), (.dat .bool)]), (.tmp 1 false [(.dat (.int .i64))])], [(.tmp 0 true [(.dat (.int .i64)), (.dat (.int .i64)), (.dat (.int .i64)), (.dat (.list (.int .i64))), (.dat .bool), (.dat .bool)]), (.tmp 1 false [(.dat (.list (.pair (.int .u8) (.pair (.int .i64) (.pair (.int .i64) (.pair (.int .i64) (.int .i64)))))))]), (.tmp 2 false [(.dat (.int .u8))])], provisional_Offer⟩), (12, ⟨[(.tmp 0 true [(.dat (.int .i64)), (.dat (.int .i64)), (.dat (.int .i64)), (.dat (.list (.int .i64))), (.dat .bool), (.dat .bool)]), (.tmp 1 false [(.dat (.int .i64))])], [(.tmp 0 true [(.dat (.int .i64)), (.dat (.int .i64)), (.dat (.int .i64)), (.dat (.list (.int .i64))), (.dat .bool), (.dat .bool)]), (.tmp 1 false [(.dat (.list (.pair (.int .u8) (.pair (.int .i64) (.pair (.int .i64) (.pair (.int .i64) (.int .i64)))))))]), (.tmp 2 false [(.dat (.int .u8))])], provisional_Ack⟩)]
theorem cons13_ok : ConL Try.prog cons13 := ⟨clone_con, con37, con30, con31, con34, con14, con33, con20, con11, con12, trivial⟩
theorem con13 : ConOk Try.prog 13 ⟨[(.tmp 0 true [(.dat (.int .i64)), (.dat (.int .i64)), (.dat (.int .i64)), (.dat (.list (.int .i64))), (.dat .bool), (.dat .bool)]), (.tmp 1 false [(.dat (.int .i64))])], [(.tmp 0 true [(.dat (.int .i64)), (.dat (.int .i64)), (.dat (.int .i64)), (.dat (.list (.int .i64))), (.dat .bool), (.dat .bool)]), (.tmp 1 false [(.dat (.list (.pair (.int .u8) (.pair (.int .i64) (.pair (.int .i64) (.pair (.int .i64) (.int .i64)))))))]), (.tmp 2 false [(.dat (.int .u8))])], provisional_Fire⟩ :=
  tree_ok (plan := planOf plan13) (eg := egNo) KK tabL_ok (conOf_ok cons13_ok) Try.func13 (by kernel_rfl) (by kernel_rfl) 10000 (fun a r h => Eq.trans (show _ = provisional_Fire a from by kernel_rfl) h)
/-! ### dialtone/dialtoneref12.From -/
def plan35 : List (Nat × PL) := []
noncomputable def dialtoneref12_From : (Int × (Int × Int)) → Option Bool := fun (a1, (a2, a3)) =>
  bif (decide (a1 ≥ a2)) then
   some (decide (a1 ≤ a3))
  else
   some Bool.false
noncomputable def cons35 : List (Nat × CE) := [(39, ⟨[.tmp 0 false [.dat (.list (.int .i64))]], [.tmp 0 false [.own 1 3 (.int .i64)]], cloneG⟩), (37, ⟨[(.tmp 0 false [(.dat (.list (.int .i64)))]), (.tmp 1 false [(.dat (.list (.int .i64)))])], [(.tmp 0 false [(.dat .bool)])], slices_Equal___int_int⟩), (30, ⟨[(.tmp 0 false [(.dat (.int .i64))])], [(.tmp 0 false [(.dat .bool)])], provisional_isProvisional⟩), (31, ⟨[(.tmp 0 false [(.dat (.int .i64))])], [(.tmp 0 false [(.dat .bool)])], provisional_isAccepting⟩), (34, ⟨[(.tmp 0 false [(.dat (.int .i64))])], [(.tmp 0 false [(.dat .bool)])], provisional_mayWait⟩), (14, ⟨[(.tmp 0 true [(.dat (.int .i64)), (.dat (.int .i64)), (.dat (.int .i64)), (.dat (.list (.int .i64))), (.dat .bool), (.dat .bool)])], [(.tmp 0 false [(.dat .bool)])], provisional_May⟩), (33, ⟨[(.tmp 0 false [(.dat (.int .i64))]), (.tmp 1 false [(.dat (.int .i64))])], [(.tmp 0 true [(.dat (.int .u8)), (.dat (.int .i64)), (.dat (.int .i64)), (.dat (.int .i64)), (.dat (.int .i64))])], provisional_timer⟩), (20, ⟨[(.tmp 0 true [(.dat (.int .i64)), (.dat (.int .i64)), (.dat (.int .i64)), (.dat (.list (.int .i64))), (.dat .bool), (.dat .bool)]), (.tmp 1 true [(.dat (.int .i64)), (.dat (.int .i64)), (.dat (.int .i64)), (.dat (.list (.int .i64))), (.dat .bool), (.dat .bool)])], [(.tmp 0 false [(.dat .bool)])], provisional_Same⟩), (11, ⟨[(.tmp 0 true [(.dat (.int .i64)), (.dat (.int .i64)), (.dat (.int .i64)), (.dat (.list (.int .i64))), (.dat .bool), (.dat .bool)]), (.tmp 1 false [(.dat (.int .i64))])], [(.tmp 0 true [(.dat (.int .i64)), (.dat (.int .i64)), (.dat (.int .i64)), (.dat (.list (.int .i64))), (.dat .bool), (.dat .bool)]), (.tmp 1 false [(.dat (.list (.pair (.int .u8) (.pair (.int .i64) (.pair (.int .i64) (.pair (.int .i64) (.int .i64)))))))]), (.tmp 2 false [(.dat (.int .u8))])], provisional_Offer⟩), (12, ⟨[(.tmp 0 true [(.dat (.int .i64)), (.dat (.int .i64)), (.dat (.int .i64)), (.dat (.list (.int .i64))), (.dat .bool), (.dat .bool)]), (.tmp 1 false [(.dat (.int .i64))])], [(.tmp 0 true [(.dat (.int .i64)), (.dat (.int .i64)), (.dat (.int .i64)), (.dat (.list (.int .i64))), (.dat .bool), (.dat .bool)]), (.tmp 1 false [(.dat (.list (.pair (.int .u8) (.pair (.int .i64) (.pair (.int .i64) (.pair (.int .i64) (.int .i64)))))))]), (.tmp 2 false [(.dat (.int .u8))])], provisional_Ack⟩), (13, ⟨[(.tmp 0 true [(.dat (.int .i64)), (.dat (.int .i64)), (.dat (.int .i64)), (.dat (.list (.int .i64))), (.dat .bool), (.dat .bool)]), (.tmp 1 false [(.dat (.int .i64))])], [(.tmp 0 true [(.dat (.int .i64)), (.dat (.int .i64)), (.dat (.int .i64)), (.dat (.list (.int .i64))), (.dat .bool), (.dat .bool)]), (.tmp 1 false [(.dat (.list (.pair (.int .u8) (.pair (.int .i64) (.pair (.int .i64) (.pair (.int .i64) (.int .i64)))))))]), (.tmp 2 false [(.dat (.int .u8))])], provisional_Fire⟩)]
theorem cons35_ok : ConL Try.prog cons35 := ⟨clone_con, con37, con30, con31, con34, con14, con33, con20, con11, con12, con13, trivial⟩
theorem con35 : ConOk Try.prog 35 ⟨[(.tmp 0 false [(.dat (.int .i64))]), (.tmp 1 false [(.dat (.int .i64))]), (.tmp 2 false [(.dat (.int .i64))])], [(.tmp 0 false [(.dat .bool)])], dialtoneref12_From⟩ :=
  tree_ok (plan := planOf plan35) (eg := egNo) KK tabL_ok (conOf_ok cons35_ok) Try.func35 (by kernel_rfl) (by kernel_rfl) 10000 (fun a r h => Eq.trans (show _ = dialtoneref12_From a from by kernel_rfl) h)
/-! ### dialtone/dialtoneref18.wait -/
def plan36 : List (Nat × PL) := [(262657, (.carry [])), (35253091829766, (.carry [.tmp 3 false [(.dat (.int .i64))]]))]
noncomputable def dialtoneref18_wait : Int → Option Bool := fun a1 =>
  joinO (loopO (fun v2 =>
    bif (decide (v2 ≤ (32000 : Int))) then
     bif (decide (a1 = v2)) then
      outO (outO (some Bool.true))
     else
      some (Sum.inl (Go.IntKind.wrap .i64 ((2 : Int) * v2)))
    else
     outO (some (Sum.inl ()))) (500 : Int)) fun _ =>
  some Bool.false
noncomputable def cons36 : List (Nat × CE) := [(39, ⟨[.tmp 0 false [.dat (.list (.int .i64))]], [.tmp 0 false [.own 1 3 (.int .i64)]], cloneG⟩), (37, ⟨[(.tmp 0 false [(.dat (.list (.int .i64)))]), (.tmp 1 false [(.dat (.list (.int .i64)))])], [(.tmp 0 false [(.dat .bool)])], slices_Equal___int_int⟩), (30, ⟨[(.tmp 0 false [(.dat (.int .i64))])], [(.tmp 0 false [(.dat .bool)])], provisional_isProvisional⟩), (31, ⟨[(.tmp 0 false [(.dat (.int .i64))])], [(.tmp 0 false [(.dat .bool)])], provisional_isAccepting⟩), (34, ⟨[(.tmp 0 false [(.dat (.int .i64))])], [(.tmp 0 false [(.dat .bool)])], provisional_mayWait⟩), (14, ⟨[(.tmp 0 true [(.dat (.int .i64)), (.dat (.int .i64)), (.dat (.int .i64)), (.dat (.list (.int .i64))), (.dat .bool), (.dat .bool)])], [(.tmp 0 false [(.dat .bool)])], provisional_May⟩), (33, ⟨[(.tmp 0 false [(.dat (.int .i64))]), (.tmp 1 false [(.dat (.int .i64))])], [(.tmp 0 true [(.dat (.int .u8)), (.dat (.int .i64)), (.dat (.int .i64)), (.dat (.int .i64)), (.dat (.int .i64))])], provisional_timer⟩), (20, ⟨[(.tmp 0 true [(.dat (.int .i64)), (.dat (.int .i64)), (.dat (.int .i64)), (.dat (.list (.int .i64))), (.dat .bool), (.dat .bool)]), (.tmp 1 true [(.dat (.int .i64)), (.dat (.int .i64)), (.dat (.int .i64)), (.dat (.list (.int .i64))), (.dat .bool), (.dat .bool)])], [(.tmp 0 false [(.dat .bool)])], provisional_Same⟩), (11, ⟨[(.tmp 0 true [(.dat (.int .i64)), (.dat (.int .i64)), (.dat (.int .i64)), (.dat (.list (.int .i64))), (.dat .bool), (.dat .bool)]), (.tmp 1 false [(.dat (.int .i64))])], [(.tmp 0 true [(.dat (.int .i64)), (.dat (.int .i64)), (.dat (.int .i64)), (.dat (.list (.int .i64))), (.dat .bool), (.dat .bool)]), (.tmp 1 false [(.dat (.list (.pair (.int .u8) (.pair (.int .i64) (.pair (.int .i64) (.pair (.int .i64) (.int .i64)))))))]), (.tmp 2 false [(.dat (.int .u8))])], provisional_Offer⟩), (12, ⟨[(.tmp 0 true [(.dat (.int .i64)), (.dat (.int .i64)), (.dat (.int .i64)), (.dat (.list (.int .i64))), (.dat .bool), (.dat .bool)]), (.tmp 1 false [(.dat (.int .i64))])], [(.tmp 0 true [(.dat (.int .i64)), (.dat (.int .i64)), (.dat (.int .i64)), (.dat (.list (.int .i64))), (.dat .bool), (.dat .bool)]), (.tmp 1 false [(.dat (.list (.pair (.int .u8) (.pair (.int .i64) (.pair (.int .i64) (.pair (.int .i64) (.int .i64)))))))]), (.tmp 2 false [(.dat (.int .u8))])], provisional_Ack⟩), (13, ⟨[(.tmp 0 true [(.dat (.int .i64)), (.dat (.int .i64)), (.dat (.int .i64)), (.dat (.list (.int .i64))), (.dat .bool), (.dat .bool)]), (.tmp 1 false [(.dat (.int .i64))])], [(.tmp 0 true [(.dat (.int .i64)), (.dat (.int .i64)), (.dat (.int .i64)), (.dat (.list (.int .i64))), (.dat .bool), (.dat .bool)]), (.tmp 1 false [(.dat (.list (.pair (.int .u8) (.pair (.int .i64) (.pair (.int .i64) (.pair (.int .i64) (.int .i64)))))))]), (.tmp 2 false [(.dat (.int .u8))])], provisional_Fire⟩), (35, ⟨[(.tmp 0 false [(.dat (.int .i64))]), (.tmp 1 false [(.dat (.int .i64))]), (.tmp 2 false [(.dat (.int .i64))])], [(.tmp 0 false [(.dat .bool)])], dialtoneref12_From⟩)]
theorem cons36_ok : ConL Try.prog cons36 := ⟨clone_con, con37, con30, con31, con34, con14, con33, con20, con11, con12, con13, con35, trivial⟩
theorem con36 : ConOk Try.prog 36 ⟨[(.tmp 0 false [(.dat (.int .i64))])], [(.tmp 0 false [(.dat .bool)])], dialtoneref18_wait⟩ :=
  tree_ok (plan := planOf plan36) (eg := egNo) KK tabL_ok (conOf_ok cons36_ok) Try.func36 (by kernel_rfl) (by kernel_rfl) 10000 (fun a r h => Eq.trans (show _ = dialtoneref18_wait a from by kernel_rfl) h)
/-! ### dialtone/dialtoneref18.May -/
def plan19 : List (Nat × PL) := [(18049651735527937, (.carry [.tmp 3 false [(.dat (.int .i64))]])), (2422583247133816450713606, (.carry [.tmp 4 false [(.dat (.int .i64))], .tmp 3 false [(.dat (.int .i64))]])), (85237070383327046791018361983943574017, (.carry [.tmp 3 false [(.dat (.int .i64))]]))]
noncomputable def dialtoneref18_May : (Int × (Int × (Int × ((List Int) × (Bool × Bool))))) → Option Bool := fun (a1, (a2, (a3, (a4, (a5, a6))))) =>
  bif (decide (a1 < (0 : Int))) then
   some Bool.false
  else
   bif (decide (a1 > (2147483647 : Int))) then
    some Bool.false
   else
    bif (decide ((((List.length a4) : Nat) : Int) > (16 : Int))) then
     some Bool.false
    else
     bif (decide (a2 = (0 : Int))) then
      bif (decide (a3 ≠ (0 : Int))) then
       some Bool.false
      else
       bif (decide ((((List.length a4) : Nat) : Int) > (0 : Int))) then
        some Bool.false
       else
        bif (decide (a2 ≠ (0 : Int))) then
         bindO (dialtoneref12_From (a2, ((101 : Int), (199 : Int)))) fun x7 =>
         bif (!x7) then
          some Bool.false
         else
          bif (decide (a1 < (1 : Int))) then
           some Bool.false
          else
           bindO (dialtoneref18_wait a3) fun x8 =>
           bif (!x8) then
            some Bool.false
           else
            joinO (loopO (fun (v9, v10) =>
              bif (decide (v9 < (((List.length a4) : Nat) : Int))) then
               bif a5 then
                bindO (some (Go.IntKind.wrap .i64 ((((List.length a4) : Nat) : Int) - (1 : Int)))) fun x11 =>
                joinO (bif (!(decide (v9 = x11))) then
                  some (Sum.inl (Go.IntKind.wrap .i64 (v10 + (1 : Int))))
                 else
                  some (Sum.inl v10)) fun v13 =>
                bif (decide (v9 = x11)) then
                 bif (decide (((0 : Int) ≤ v9) ∧ (v9 < (((List.length a4) : Nat) : Int)))) then 
                  bindO a4[(Int.toNat v9)]? fun x14 =>
                  bindO (dialtoneref12_From (x14, ((200 : Int), (299 : Int)))) fun x15 =>
                  bif (!x15) then
                   outO (outO (some Bool.false))
                  else
                   bif (!(decide (v9 = x11))) then
                    bif (decide (((0 : Int) ≤ v9) ∧ (v9 < (((List.length a4) : Nat) : Int)))) then 
                     bindO a4[(Int.toNat v9)]? fun x16 =>
                     bindO (dialtoneref12_From (x16, ((101 : Int), (199 : Int)))) fun x17 =>
                     bif (!x17) then
                      outO (outO (some Bool.false))
                     else
                      some (Sum.inl ((Go.IntKind.wrap .i64 (v9 + (1 : Int))), v13))
                    else none
                   else
                    some (Sum.inl ((Go.IntKind.wrap .i64 (v9 + (1 : Int))), v13))
                 else none
                else
                 bif (!(decide (v9 = x11))) then
                  bif (decide (((0 : Int) ≤ v9) ∧ (v9 < (((List.length a4) : Nat) : Int)))) then 
                   bindO a4[(Int.toNat v9)]? fun x20 =>
                   bindO (dialtoneref12_From (x20, ((101 : Int), (199 : Int)))) fun x21 =>
                   bif (!x21) then
                    outO (outO (some Bool.false))
                   else
                    some (Sum.inl ((Go.IntKind.wrap .i64 (v9 + (1 : Int))), v13))
                  else none
                 else
                  some (Sum.inl ((Go.IntKind.wrap .i64 (v9 + (1 : Int))), v13))
               else
                joinO (some (Sum.inl (Go.IntKind.wrap .i64 (v10 + (1 : Int))))) fun v25 =>
                bif (decide (((0 : Int) ≤ v9) ∧ (v9 < (((List.length a4) : Nat) : Int)))) then 
                 bindO a4[(Int.toNat v9)]? fun x26 =>
                 bindO (dialtoneref12_From (x26, ((101 : Int), (199 : Int)))) fun x27 =>
                 bif (!x27) then
                  outO (outO (some Bool.false))
                 else
                  some (Sum.inl ((Go.IntKind.wrap .i64 (v9 + (1 : Int))), v25))
                else none
              else
               outO (some (Sum.inl v10))) ((0 : Int), (0 : Int))) fun v29 =>
            bif (decide ((Go.IntKind.wrap .i64 (a1 + v29)) ≤ (2147483647 : Int))) then
             bif (!a6) then
              some Bool.true
             else
              bif (decide (a2 = (0 : Int))) then
               some a5
              else
               some Bool.false
            else
             some Bool.false
        else
         joinO (loopO (fun (v31, v32) =>
           bif (decide (v31 < (((List.length a4) : Nat) : Int))) then
            bif a5 then
             bindO (some (Go.IntKind.wrap .i64 ((((List.length a4) : Nat) : Int) - (1 : Int)))) fun x33 =>
             joinO (bif (!(decide (v31 = x33))) then
               some (Sum.inl (Go.IntKind.wrap .i64 (v32 + (1 : Int))))
              else
               some (Sum.inl v32)) fun v35 =>
             bif (decide (v31 = x33)) then
              bif (decide (((0 : Int) ≤ v31) ∧ (v31 < (((List.length a4) : Nat) : Int)))) then 
               bindO a4[(Int.toNat v31)]? fun x36 =>
               bindO (dialtoneref12_From (x36, ((200 : Int), (299 : Int)))) fun x37 =>
               bif (!x37) then
                outO (outO (some Bool.false))
               else
                bif (!(decide (v31 = x33))) then
                 bif (decide (((0 : Int) ≤ v31) ∧ (v31 < (((List.length a4) : Nat) : Int)))) then 
                  bindO a4[(Int.toNat v31)]? fun x38 =>
                  bindO (dialtoneref12_From (x38, ((101 : Int), (199 : Int)))) fun x39 =>
                  bif (!x39) then
                   outO (outO (some Bool.false))
                  else
                   some (Sum.inl ((Go.IntKind.wrap .i64 (v31 + (1 : Int))), v35))
                 else none
                else
                 some (Sum.inl ((Go.IntKind.wrap .i64 (v31 + (1 : Int))), v35))
              else none
             else
              bif (!(decide (v31 = x33))) then
               bif (decide (((0 : Int) ≤ v31) ∧ (v31 < (((List.length a4) : Nat) : Int)))) then 
                bindO a4[(Int.toNat v31)]? fun x42 =>
                bindO (dialtoneref12_From (x42, ((101 : Int), (199 : Int)))) fun x43 =>
                bif (!x43) then
                 outO (outO (some Bool.false))
                else
                 some (Sum.inl ((Go.IntKind.wrap .i64 (v31 + (1 : Int))), v35))
               else none
              else
               some (Sum.inl ((Go.IntKind.wrap .i64 (v31 + (1 : Int))), v35))
            else
             joinO (some (Sum.inl (Go.IntKind.wrap .i64 (v32 + (1 : Int))))) fun v47 =>
             bif (decide (((0 : Int) ≤ v31) ∧ (v31 < (((List.length a4) : Nat) : Int)))) then 
              bindO a4[(Int.toNat v31)]? fun x48 =>
              bindO (dialtoneref12_From (x48, ((101 : Int), (199 : Int)))) fun x49 =>
              bif (!x49) then
               outO (outO (some Bool.false))
              else
               some (Sum.inl ((Go.IntKind.wrap .i64 (v31 + (1 : Int))), v47))
             else none
           else
            outO (some (Sum.inl v32))) ((0 : Int), (0 : Int))) fun v51 =>
         bif (decide ((Go.IntKind.wrap .i64 (a1 + v51)) ≤ (2147483647 : Int))) then
          bif (!a6) then
           some Bool.true
          else
           bif (decide (a2 = (0 : Int))) then
            some a5
           else
            some Bool.false
         else
          some Bool.false
     else
      bif (decide (a2 ≠ (0 : Int))) then
       bindO (dialtoneref12_From (a2, ((101 : Int), (199 : Int)))) fun x53 =>
       bif (!x53) then
        some Bool.false
       else
        bif (decide (a1 < (1 : Int))) then
         some Bool.false
        else
         bindO (dialtoneref18_wait a3) fun x54 =>
         bif (!x54) then
          some Bool.false
         else
          joinO (loopO (fun (v55, v56) =>
            bif (decide (v55 < (((List.length a4) : Nat) : Int))) then
             bif a5 then
              bindO (some (Go.IntKind.wrap .i64 ((((List.length a4) : Nat) : Int) - (1 : Int)))) fun x57 =>
              joinO (bif (!(decide (v55 = x57))) then
                some (Sum.inl (Go.IntKind.wrap .i64 (v56 + (1 : Int))))
               else
                some (Sum.inl v56)) fun v59 =>
              bif (decide (v55 = x57)) then
               bif (decide (((0 : Int) ≤ v55) ∧ (v55 < (((List.length a4) : Nat) : Int)))) then 
                bindO a4[(Int.toNat v55)]? fun x60 =>
                bindO (dialtoneref12_From (x60, ((200 : Int), (299 : Int)))) fun x61 =>
                bif (!x61) then
                 outO (outO (some Bool.false))
                else
                 bif (!(decide (v55 = x57))) then
                  bif (decide (((0 : Int) ≤ v55) ∧ (v55 < (((List.length a4) : Nat) : Int)))) then 
                   bindO a4[(Int.toNat v55)]? fun x62 =>
                   bindO (dialtoneref12_From (x62, ((101 : Int), (199 : Int)))) fun x63 =>
                   bif (!x63) then
                    outO (outO (some Bool.false))
                   else
                    some (Sum.inl ((Go.IntKind.wrap .i64 (v55 + (1 : Int))), v59))
                  else none
                 else
                  some (Sum.inl ((Go.IntKind.wrap .i64 (v55 + (1 : Int))), v59))
               else none
              else
               bif (!(decide (v55 = x57))) then
                bif (decide (((0 : Int) ≤ v55) ∧ (v55 < (((List.length a4) : Nat) : Int)))) then 
                 bindO a4[(Int.toNat v55)]? fun x66 =>
                 bindO (dialtoneref12_From (x66, ((101 : Int), (199 : Int)))) fun x67 =>
                 bif (!x67) then
                  outO (outO (some Bool.false))
                 else
                  some (Sum.inl ((Go.IntKind.wrap .i64 (v55 + (1 : Int))), v59))
                else none
               else
                some (Sum.inl ((Go.IntKind.wrap .i64 (v55 + (1 : Int))), v59))
             else
              joinO (some (Sum.inl (Go.IntKind.wrap .i64 (v56 + (1 : Int))))) fun v71 =>
              bif (decide (((0 : Int) ≤ v55) ∧ (v55 < (((List.length a4) : Nat) : Int)))) then 
               bindO a4[(Int.toNat v55)]? fun x72 =>
               bindO (dialtoneref12_From (x72, ((101 : Int), (199 : Int)))) fun x73 =>
               bif (!x73) then
                outO (outO (some Bool.false))
               else
                some (Sum.inl ((Go.IntKind.wrap .i64 (v55 + (1 : Int))), v71))
              else none
            else
             outO (some (Sum.inl v56))) ((0 : Int), (0 : Int))) fun v75 =>
          bif (decide ((Go.IntKind.wrap .i64 (a1 + v75)) ≤ (2147483647 : Int))) then
           bif (!a6) then
            some Bool.true
           else
            bif (decide (a2 = (0 : Int))) then
             some a5
            else
             some Bool.false
          else
           some Bool.false
      else
       joinO (loopO (fun (v77, v78) =>
         bif (decide (v77 < (((List.length a4) : Nat) : Int))) then
          bif a5 then
           bindO (some (Go.IntKind.wrap .i64 ((((List.length a4) : Nat) : Int) - (1 : Int)))) fun x79 =>
           joinO (bif (!(decide (v77 = x79))) then
             some (Sum.inl (Go.IntKind.wrap .i64 (v78 + (1 : Int))))
            else
             some (Sum.inl v78)) fun v81 =>
           bif (decide (v77 = x79)) then
            bif (decide (((0 : Int) ≤ v77) ∧ (v77 < (((List.length a4) : Nat) : Int)))) then 
             bindO a4[(Int.toNat v77)]? fun x82 =>
             bindO (dialtoneref12_From (x82, ((200 : Int), (299 : Int)))) fun x83 =>
             bif (!x83) then
              outO (outO (some Bool.false))
             else
              bif (!(decide (v77 = x79))) then
               bif (decide (((0 : Int) ≤ v77) ∧ (v77 < (((List.length a4) : Nat) : Int)))) then 
                bindO a4[(Int.toNat v77)]? fun x84 =>
                bindO (dialtoneref12_From (x84, ((101 : Int), (199 : Int)))) fun x85 =>
                bif (!x85) then
                 outO (outO (some Bool.false))
                else
                 some (Sum.inl ((Go.IntKind.wrap .i64 (v77 + (1 : Int))), v81))
               else none
              else
               some (Sum.inl ((Go.IntKind.wrap .i64 (v77 + (1 : Int))), v81))
            else none
           else
            bif (!(decide (v77 = x79))) then
             bif (decide (((0 : Int) ≤ v77) ∧ (v77 < (((List.length a4) : Nat) : Int)))) then 
              bindO a4[(Int.toNat v77)]? fun x88 =>
              bindO (dialtoneref12_From (x88, ((101 : Int), (199 : Int)))) fun x89 =>
              bif (!x89) then
               outO (outO (some Bool.false))
              else
               some (Sum.inl ((Go.IntKind.wrap .i64 (v77 + (1 : Int))), v81))
             else none
            else
             some (Sum.inl ((Go.IntKind.wrap .i64 (v77 + (1 : Int))), v81))
          else
           joinO (some (Sum.inl (Go.IntKind.wrap .i64 (v78 + (1 : Int))))) fun v93 =>
           bif (decide (((0 : Int) ≤ v77) ∧ (v77 < (((List.length a4) : Nat) : Int)))) then 
            bindO a4[(Int.toNat v77)]? fun x94 =>
            bindO (dialtoneref12_From (x94, ((101 : Int), (199 : Int)))) fun x95 =>
            bif (!x95) then
             outO (outO (some Bool.false))
            else
             some (Sum.inl ((Go.IntKind.wrap .i64 (v77 + (1 : Int))), v93))
           else none
         else
          outO (some (Sum.inl v78))) ((0 : Int), (0 : Int))) fun v97 =>
       bif (decide ((Go.IntKind.wrap .i64 (a1 + v97)) ≤ (2147483647 : Int))) then
        bif (!a6) then
         some Bool.true
        else
         bif (decide (a2 = (0 : Int))) then
          some a5
         else
          some Bool.false
       else
        some Bool.false
noncomputable def cons19 : List (Nat × CE) := [(39, ⟨[.tmp 0 false [.dat (.list (.int .i64))]], [.tmp 0 false [.own 1 3 (.int .i64)]], cloneG⟩), (37, ⟨[(.tmp 0 false [(.dat (.list (.int .i64)))]), (.tmp 1 false [(.dat (.list (.int .i64)))])], [(.tmp 0 false [(.dat .bool)])], slices_Equal___int_int⟩), (30, ⟨[(.tmp 0 false [(.dat (.int .i64))])], [(.tmp 0 false [(.dat .bool)])], provisional_isProvisional⟩), (31, ⟨[(.tmp 0 false [(.dat (.int .i64))])], [(.tmp 0 false [(.dat .bool)])], provisional_isAccepting⟩), (34, ⟨[(.tmp 0 false [(.dat (.int .i64))])], [(.tmp 0 false [(.dat .bool)])], provisional_mayWait⟩), (14, ⟨[(.tmp 0 true [(.dat (.int .i64)), (.dat (.int .i64)), (.dat (.int .i64)), (.dat (.list (.int .i64))), (.dat .bool), (.dat .bool)])], [(.tmp 0 false [(.dat .bool)])], provisional_May⟩), (33, ⟨[(.tmp 0 false [(.dat (.int .i64))]), (.tmp 1 false [(.dat (.int .i64))])], [(.tmp 0 true [(.dat (.int .u8)), (.dat (.int .i64)), (.dat (.int .i64)), (.dat (.int .i64)), (.dat (.int .i64))])], provisional_timer⟩), (20, ⟨[(.tmp 0 true [(.dat (.int .i64)), (.dat (.int .i64)), (.dat (.int .i64)), (.dat (.list (.int .i64))), (.dat .bool), (.dat .bool)]), (.tmp 1 true [(.dat (.int .i64)), (.dat (.int .i64)), (.dat (.int .i64)), (.dat (.list (.int .i64))), (.dat .bool), (.dat .bool)])], [(.tmp 0 false [(.dat .bool)])], provisional_Same⟩), (11, ⟨[(.tmp 0 true [(.dat (.int .i64)), (.dat (.int .i64)), (.dat (.int .i64)), (.dat (.list (.int .i64))), (.dat .bool), (.dat .bool)]), (.tmp 1 false [(.dat (.int .i64))])], [(.tmp 0 true [(.dat (.int .i64)), (.dat (.int .i64)), (.dat (.int .i64)), (.dat (.list (.int .i64))), (.dat .bool), (.dat .bool)]), (.tmp 1 false [(.dat (.list (.pair (.int .u8) (.pair (.int .i64) (.pair (.int .i64) (.pair (.int .i64) (.int .i64)))))))]), (.tmp 2 false [(.dat (.int .u8))])], provisional_Offer⟩), (12, ⟨[(.tmp 0 true [(.dat (.int .i64)), (.dat (.int .i64)), (.dat (.int .i64)), (.dat (.list (.int .i64))), (.dat .bool), (.dat .bool)]), (.tmp 1 false [(.dat (.int .i64))])], [(.tmp 0 true [(.dat (.int .i64)), (.dat (.int .i64)), (.dat (.int .i64)), (.dat (.list (.int .i64))), (.dat .bool), (.dat .bool)]), (.tmp 1 false [(.dat (.list (.pair (.int .u8) (.pair (.int .i64) (.pair (.int .i64) (.pair (.int .i64) (.int .i64)))))))]), (.tmp 2 false [(.dat (.int .u8))])], provisional_Ack⟩), (13, ⟨[(.tmp 0 true [(.dat (.int .i64)), (.dat (.int .i64)), (.dat (.int .i64)), (.dat (.list (.int .i64))), (.dat .bool), (.dat .bool)]), (.tmp 1 false [(.dat (.int .i64))])], [(.tmp 0 true [(.dat (.int .i64)), (.dat (.int .i64)), (.dat (.int .i64)), (.dat (.list (.int .i64))), (.dat .bool), (.dat .bool)]), (.tmp 1 false [(.dat (.list (.pair (.int .u8) (.pair (.int .i64) (.pair (.int .i64) (.pair (.int .i64) (.int .i64)))))))]), (.tmp 2 false [(.dat (.int .u8))])], provisional_Fire⟩), (35, ⟨[(.tmp 0 false [(.dat (.int .i64))]), (.tmp 1 false [(.dat (.int .i64))]), (.tmp 2 false [(.dat (.int .i64))])], [(.tmp 0 false [(.dat .bool)])], dialtoneref12_From⟩), (36, ⟨[(.tmp 0 false [(.dat (.int .i64))])], [(.tmp 0 false [(.dat .bool)])], dialtoneref18_wait⟩)]
theorem cons19_ok : ConL Try.prog cons19 := ⟨clone_con, con37, con30, con31, con34, con14, con33, con20, con11, con12, con13, con35, con36, trivial⟩
theorem con19 : ConOk Try.prog 19 ⟨[(.tmp 0 true [(.dat (.int .i64)), (.dat (.int .i64)), (.dat (.int .i64)), (.dat (.list (.int .i64))), (.dat .bool), (.dat .bool)])], [(.tmp 0 false [(.dat .bool)])], dialtoneref18_May⟩ :=
  tree_ok (plan := planOf plan19) (eg := egNo) KK tabL_ok (conOf_ok cons19_ok) Try.func19 (by kernel_rfl) (by kernel_rfl) 10000 (fun a r h => Eq.trans (show _ = dialtoneref18_May a from by kernel_rfl) h)
/-! ### dialtone/dialtoneref18.Same -/
def plan21 : List (Nat × PL) := [(134480385, (.carry [])), (18049651601311750, (.carry [.tmp 5 false [(.dat (.int .i64))]]))]
noncomputable def dialtoneref18_Same : ((Int × (Int × (Int × ((List Int) × (Bool × Bool))))) × (Int × (Int × (Int × ((List Int) × (Bool × Bool)))))) → Option Bool := fun ((a1, (a2, (a3, (a4, (a5, a6))))), (a7, (a8, (a9, (a10, (a11, a12)))))) =>
  bif (decide (a1 ≠ a7)) then
   some Bool.false
  else
   bif (decide (a2 ≠ a8)) then
    some Bool.false
   else
    bif (decide (a3 ≠ a9)) then
     some Bool.false
    else
     bif (a5 != a11) then
      some Bool.false
     else
      bif (a6 != a12) then
       some Bool.false
      else
       bif (decide ((((List.length a4) : Nat) : Int) ≠ (((List.length a10) : Nat) : Int))) then
        some Bool.false
       else
        joinO (loopO (fun v13 =>
          bif (decide (v13 < (((List.length a4) : Nat) : Int))) then
           bif (decide (((0 : Int) ≤ v13) ∧ (v13 < (((List.length a4) : Nat) : Int)))) then 
            bindO a4[(Int.toNat v13)]? fun x14 =>
            bif (decide (((0 : Int) ≤ v13) ∧ (v13 < (((List.length a10) : Nat) : Int)))) then 
             bindO a10[(Int.toNat v13)]? fun x15 =>
             bif (decide (x14 ≠ x15)) then
              outO (outO (some Bool.false))
             else
              some (Sum.inl (Go.IntKind.wrap .i64 (v13 + (1 : Int))))
            else none
           else none
          else
           outO (some (Sum.inl ()))) (0 : Int)) fun _ =>
        some Bool.true
noncomputable def cons21 : List (Nat × CE) := [(39, ⟨[.tmp 0 false [.dat (.list (.int .i64))]], [.tmp 0 false [.own 1 3 (.int .i64)]], cloneG⟩), (37, ⟨[(.tmp 0 false [(.dat (.list (.int .i64)))]), (.tmp 1 false [(.dat (.list (.int .i64)))])], [(.tmp 0 false [(.dat .bool)])], slices_Equal___int_int⟩), (30, ⟨[(.tmp 0 false [(.dat (.int .i64))])], [(.tmp 0 false [(.dat .bool)])], provisional_isProvisional⟩), (31, ⟨[(.tmp 0 false [(.dat (.int .i64))])], [(.tmp 0 false [(.dat .bool)])], provisional_isAccepting⟩), (34, ⟨[(.tmp 0 false [(.dat (.int .i64))])], [(.tmp 0 false [(.dat .bool)])], provisional_mayWait⟩), (14, ⟨[(.tmp 0 true [(.dat (.int .i64)), (.dat (.int .i64)), (.dat (.int .i64)), (.dat (.list (.int .i64))), (.dat .bool), (.dat .bool)])], [(.tmp 0 false [(.dat .bool)])], provisional_May⟩), (33, ⟨[(.tmp 0 false [(.dat (.int .i64))]), (.tmp 1 false [(.dat (.int .i64))])], [(.tmp 0 true [(.dat (.int .u8)), (.dat (.int .i64)), (.dat (.int .i64)), (.dat (.int .i64)), (.dat (.int .i64))])], provisional_timer⟩), (20, ⟨[(.tmp 0 true [(.dat (.int .i64)), (.dat (.int .i64)), (.dat (.int .i64)), (.dat (.list (.int .i64))), (.dat .bool), (.dat .bool)]), (.tmp 1 true [(.dat (.int .i64)), (.dat (.int .i64)), (.dat (.int .i64)), (.dat (.list (.int .i64))), (.dat .bool), (.dat .bool)])], [(.tmp 0 false [(.dat .bool)])], provisional_Same⟩), (11, ⟨[(.tmp 0 true [(.dat (.int .i64)), (.dat (.int .i64)), (.dat (.int .i64)), (.dat (.list (.int .i64))), (.dat .bool), (.dat .bool)]), (.tmp 1 false [(.dat (.int .i64))])], [(.tmp 0 true [(.dat (.int .i64)), (.dat (.int .i64)), (.dat (.int .i64)), (.dat (.list (.int .i64))), (.dat .bool), (.dat .bool)]), (.tmp 1 false [(.dat (.list (.pair (.int .u8) (.pair (.int .i64) (.pair (.int .i64) (.pair (.int .i64) (.int .i64)))))))]), (.tmp 2 false [(.dat (.int .u8))])], provisional_Offer⟩), (12, ⟨[(.tmp 0 true [(.dat (.int .i64)), (.dat (.int .i64)), (.dat (.int .i64)), (.dat (.list (.int .i64))), (.dat .bool), (.dat .bool)]), (.tmp 1 false [(.dat (.int .i64))])], [(.tmp 0 true [(.dat (.int .i64)), (.dat (.int .i64)), (.dat (.int .i64)), (.dat (.list (.int .i64))), (.dat .bool), (.dat .bool)]), (.tmp 1 false [(.dat (.list (.pair (.int .u8) (.pair (.int .i64) (.pair (.int .i64) (.pair (.int .i64) (.int .i64)))))))]), (.tmp 2 false [(.dat (.int .u8))])], provisional_Ack⟩), (13, ⟨[(.tmp 0 true [(.dat (.int .i64)), (.dat (.int .i64)), (.dat (.int .i64)), (.dat (.list (.int .i64))), (.dat .bool), (.dat .bool)]), (.tmp 1 false [(.dat (.int .i64))])], [(.tmp 0 true [(.dat (.int .i64)), (.dat (.int .i64)), (.dat (.int .i64)), (.dat (.list (.int .i64))), (.dat .bool), (.dat .bool)]), (.tmp 1 false [(.dat (.list (.pair (.int .u8) (.pair (.int .i64) (.pair (.int .i64) (.pair (.int .i64) (.int .i64)))))))]), (.tmp 2 false [(.dat (.int .u8))])], provisional_Fire⟩), (35, ⟨[(.tmp 0 false [(.dat (.int .i64))]), (.tmp 1 false [(.dat (.int .i64))]), (.tmp 2 false [(.dat (.int .i64))])], [(.tmp 0 false [(.dat .bool)])], dialtoneref12_From⟩), (36, ⟨[(.tmp 0 false [(.dat (.int .i64))])], [(.tmp 0 false [(.dat .bool)])], dialtoneref18_wait⟩), (19, ⟨[(.tmp 0 true [(.dat (.int .i64)), (.dat (.int .i64)), (.dat (.int .i64)), (.dat (.list (.int .i64))), (.dat .bool), (.dat .bool)])], [(.tmp 0 false [(.dat .bool)])], dialtoneref18_May⟩)]
theorem cons21_ok : ConL Try.prog cons21 := ⟨clone_con, con37, con30, con31, con34, con14, con33, con20, con11, con12, con13, con35, con36, con19, trivial⟩
theorem con21 : ConOk Try.prog 21 ⟨[(.tmp 0 true [(.dat (.int .i64)), (.dat (.int .i64)), (.dat (.int .i64)), (.dat (.list (.int .i64))), (.dat .bool), (.dat .bool)]), (.tmp 1 true [(.dat (.int .i64)), (.dat (.int .i64)), (.dat (.int .i64)), (.dat (.list (.int .i64))), (.dat .bool), (.dat .bool)])], [(.tmp 0 false [(.dat .bool)])], dialtoneref18_Same⟩ :=
  tree_ok (plan := planOf plan21) (eg := egNo) KK tabL_ok (conOf_ok cons21_ok) Try.func21 (by kernel_rfl) (by kernel_rfl) 10000 (fun a r h => Eq.trans (show _ = dialtoneref18_Same a from by kernel_rfl) h)
/-! ### dialtone/dialtoneref18.next -/
def plan38 : List (Nat × PL) := []
noncomputable def dialtoneref18_next : (Int × (Int × (Int × ((List Int) × (Bool × Bool))))) → Option ((Int × (Int × (Int × ((List Int) × (Bool × Bool))))) × (List (Int × (Int × (Int × (Int × Int)))))) := fun (a1, (a2, (a3, (a4, (a5, a6))))) =>
  bif (decide (a2 ≠ (0 : Int))) then
   some ((a1, (a2, (a3, (a4, (a5, a6))))), ([] : List (Int × (Int × (Int × (Int × Int))))))
  else
   bif (decide ((((List.length a4) : Nat) : Int) = (0 : Int))) then
    some ((a1, (a2, (a3, (a4, (a5, a6))))), ([] : List (Int × (Int × (Int × (Int × Int))))))
   else
    bif (decide (((0 : Int) ≤ (0 : Int)) ∧ ((0 : Int) < (((List.length a4) : Nat) : Int)))) then 
     bindO a4[0]? fun x7 =>
     bif (decide (((0 : Int) ≤ (1 : Int)) ∧ ((1 : Int) ≤ (((List.length a4) : Nat) : Int)))) then 
      bindO (some (List.drop 1 a4)) fun x8 =>
      bif (decide (((List.length x8) * 8) ≤ 140737488355328)) then 
       bif (decide (x7 ≥ (200 : Int))) then
        bif ((decide ((List.length x8) ≤ (List.length x8))) && Bool.true) then 
         some ((a1, (a2, (a3, ((List.take (List.length x8) x8), (a5, a6))))), (((2 : Int), (x7, ((0 : Int), ((0 : Int), (0 : Int))))) :: ([] : List (Int × (Int × (Int × (Int × Int)))))))
        else none
       else
        bindO (some (Go.IntKind.wrap .i64 (a1 + (1 : Int)))) fun x10 =>
        bif ((decide ((List.length x8) ≤ (List.length x8))) && Bool.true) then 
         some ((x10, (x7, ((500 : Int), ((List.take (List.length x8) x8), (a5, a6))))), (((1 : Int), (x7, (x10, ((0 : Int), (0 : Int))))) :: (((3 : Int), ((0 : Int), ((0 : Int), ((1 : Int), (500 : Int))))) :: (((3 : Int), ((0 : Int), ((0 : Int), ((2 : Int), (32000 : Int))))) :: ([] : List (Int × (Int × (Int × (Int × Int)))))))))
        else none
      else none
     else none
    else none
noncomputable def cons38 : List (Nat × CE) := [(39, ⟨[.tmp 0 false [.dat (.list (.int .i64))]], [.tmp 0 false [.own 1 3 (.int .i64)]], cloneG⟩), (37, ⟨[(.tmp 0 false [(.dat (.list (.int .i64)))]), (.tmp 1 false [(.dat (.list (.int .i64)))])], [(.tmp 0 false [(.dat .bool)])], slices_Equal___int_int⟩), (30, ⟨[(.tmp 0 false [(.dat (.int .i64))])], [(.tmp 0 false [(.dat .bool)])], provisional_isProvisional⟩), (31, ⟨[(.tmp 0 false [(.dat (.int .i64))])], [(.tmp 0 false [(.dat .bool)])], provisional_isAccepting⟩), (34, ⟨[(.tmp 0 false [(.dat (.int .i64))])], [(.tmp 0 false [(.dat .bool)])], provisional_mayWait⟩), (14, ⟨[(.tmp 0 true [(.dat (.int .i64)), (.dat (.int .i64)), (.dat (.int .i64)), (.dat (.list (.int .i64))), (.dat .bool), (.dat .bool)])], [(.tmp 0 false [(.dat .bool)])], provisional_May⟩), (33, ⟨[(.tmp 0 false [(.dat (.int .i64))]), (.tmp 1 false [(.dat (.int .i64))])], [(.tmp 0 true [(.dat (.int .u8)), (.dat (.int .i64)), (.dat (.int .i64)), (.dat (.int .i64)), (.dat (.int .i64))])], provisional_timer⟩), (20, ⟨[(.tmp 0 true [(.dat (.int .i64)), (.dat (.int .i64)), (.dat (.int .i64)), (.dat (.list (.int .i64))), (.dat .bool), (.dat .bool)]), (.tmp 1 true [(.dat (.int .i64)), (.dat (.int .i64)), (.dat (.int .i64)), (.dat (.list (.int .i64))), (.dat .bool), (.dat .bool)])], [(.tmp 0 false [(.dat .bool)])], provisional_Same⟩), (11, ⟨[(.tmp 0 true [(.dat (.int .i64)), (.dat (.int .i64)), (.dat (.int .i64)), (.dat (.list (.int .i64))), (.dat .bool), (.dat .bool)]), (.tmp 1 false [(.dat (.int .i64))])], [(.tmp 0 true [(.dat (.int .i64)), (.dat (.int .i64)), (.dat (.int .i64)), (.dat (.list (.int .i64))), (.dat .bool), (.dat .bool)]), (.tmp 1 false [(.dat (.list (.pair (.int .u8) (.pair (.int .i64) (.pair (.int .i64) (.pair (.int .i64) (.int .i64)))))))]), (.tmp 2 false [(.dat (.int .u8))])], provisional_Offer⟩), (12, ⟨[(.tmp 0 true [(.dat (.int .i64)), (.dat (.int .i64)), (.dat (.int .i64)), (.dat (.list (.int .i64))), (.dat .bool), (.dat .bool)]), (.tmp 1 false [(.dat (.int .i64))])], [(.tmp 0 true [(.dat (.int .i64)), (.dat (.int .i64)), (.dat (.int .i64)), (.dat (.list (.int .i64))), (.dat .bool), (.dat .bool)]), (.tmp 1 false [(.dat (.list (.pair (.int .u8) (.pair (.int .i64) (.pair (.int .i64) (.pair (.int .i64) (.int .i64)))))))]), (.tmp 2 false [(.dat (.int .u8))])], provisional_Ack⟩), (13, ⟨[(.tmp 0 true [(.dat (.int .i64)), (.dat (.int .i64)), (.dat (.int .i64)), (.dat (.list (.int .i64))), (.dat .bool), (.dat .bool)]), (.tmp 1 false [(.dat (.int .i64))])], [(.tmp 0 true [(.dat (.int .i64)), (.dat (.int .i64)), (.dat (.int .i64)), (.dat (.list (.int .i64))), (.dat .bool), (.dat .bool)]), (.tmp 1 false [(.dat (.list (.pair (.int .u8) (.pair (.int .i64) (.pair (.int .i64) (.pair (.int .i64) (.int .i64)))))))]), (.tmp 2 false [(.dat (.int .u8))])], provisional_Fire⟩), (35, ⟨[(.tmp 0 false [(.dat (.int .i64))]), (.tmp 1 false [(.dat (.int .i64))]), (.tmp 2 false [(.dat (.int .i64))])], [(.tmp 0 false [(.dat .bool)])], dialtoneref12_From⟩), (36, ⟨[(.tmp 0 false [(.dat (.int .i64))])], [(.tmp 0 false [(.dat .bool)])], dialtoneref18_wait⟩), (19, ⟨[(.tmp 0 true [(.dat (.int .i64)), (.dat (.int .i64)), (.dat (.int .i64)), (.dat (.list (.int .i64))), (.dat .bool), (.dat .bool)])], [(.tmp 0 false [(.dat .bool)])], dialtoneref18_May⟩), (21, ⟨[(.tmp 0 true [(.dat (.int .i64)), (.dat (.int .i64)), (.dat (.int .i64)), (.dat (.list (.int .i64))), (.dat .bool), (.dat .bool)]), (.tmp 1 true [(.dat (.int .i64)), (.dat (.int .i64)), (.dat (.int .i64)), (.dat (.list (.int .i64))), (.dat .bool), (.dat .bool)])], [(.tmp 0 false [(.dat .bool)])], dialtoneref18_Same⟩)]
theorem cons38_ok : ConL Try.prog cons38 := ⟨clone_con, con37, con30, con31, con34, con14, con33, con20, con11, con12, con13, con35, con36, con19, con21, trivial⟩
theorem con38 : ConOk Try.prog 38 ⟨[(.tmp 0 true [(.dat (.int .i64)), (.dat (.int .i64)), (.dat (.int .i64)), (.dat (.list (.int .i64))), (.dat .bool), (.dat .bool)])], [(.tmp 0 true [(.dat (.int .i64)), (.dat (.int .i64)), (.dat (.int .i64)), (.dat (.list (.int .i64))), (.dat .bool), (.dat .bool)]), (.tmp 1 false [(.dat (.list (.pair (.int .u8) (.pair (.int .i64) (.pair (.int .i64) (.pair (.int .i64) (.int .i64)))))))])], dialtoneref18_next⟩ :=
  tree_ok (plan := planOf plan38) (eg := egNo) KK tabL_ok (conOf_ok cons38_ok) Try.func38 (by kernel_rfl) (by kernel_rfl) 10000 (fun a r h => Eq.trans (show _ = dialtoneref18_next a from by kernel_rfl) h)
/-! ### dialtone/dialtoneref18.Offer -/
def plan22 : List (Nat × PL) := []
noncomputable def dialtoneref18_Offer : ((Int × (Int × (Int × ((List Int) × (Bool × Bool))))) × Int) → Option ((Int × (Int × (Int × ((List Int) × (Bool × Bool))))) × ((List (Int × (Int × (Int × (Int × Int))))) × Int)) := fun ((a1, (a2, (a3, (a4, (a5, a6))))), a7) =>
  bindO (dialtoneref18_May (a1, (a2, (a3, (a4, (a5, a6)))))) fun x8 =>
  bif (!x8) then
   some (((0 : Int), ((0 : Int), ((0 : Int), (([] : List Int), (Bool.false, Bool.false))))), (([] : List (Int × (Int × (Int × (Int × Int))))), (2 : Int)))
  else
   bindO (dialtoneref12_From (a7, ((101 : Int), (699 : Int)))) fun x9 =>
   bif (!x9) then
    some (((0 : Int), ((0 : Int), ((0 : Int), (([] : List Int), (Bool.false, Bool.false))))), (([] : List (Int × (Int × (Int × (Int × Int))))), (2 : Int)))
   else
    bif a5 then
     some (((0 : Int), ((0 : Int), ((0 : Int), (([] : List Int), (Bool.false, Bool.false))))), (([] : List (Int × (Int × (Int × (Int × Int))))), (9 : Int)))
    else
     bif (decide (a7 ≥ (300 : Int))) then
      some ((a1, ((0 : Int), ((0 : Int), (([] : List Int), (Bool.true, Bool.false))))), ((((2 : Int), (a7, ((0 : Int), ((0 : Int), (0 : Int))))) :: ([] : List (Int × (Int × (Int × (Int × Int)))))), (0 : Int)))
     else
      bif (decide ((((List.length a4) : Nat) : Int) ≥ (16 : Int))) then
       some (((0 : Int), ((0 : Int), ((0 : Int), (([] : List Int), (Bool.false, Bool.false))))), (([] : List (Int × (Int × (Int × (Int × Int))))), (10 : Int)))
      else
       bif (decide (a7 < (200 : Int))) then
        bif (decide ((Go.IntKind.wrap .i64 (a1 + (((List.length a4) : Nat) : Int))) ≥ (2147483647 : Int))) then
         some (((0 : Int), ((0 : Int), ((0 : Int), (([] : List Int), (Bool.false, Bool.false))))), (([] : List (Int × (Int × (Int × (Int × Int))))), (10 : Int)))
        else
         bif (decide (((List.length a4) * 8) ≤ 140737488355328)) then 
          bif (decide ((List.length a4) ≤ (List.length a4))) then 
           bif (decide (((List.length ((List.take (List.length a4) a4) ++ (a7 :: ([] : List Int)))) * 8) ≤ 140737488355328)) then 
            bindO (some ((List.take (List.length a4) a4) ++ (a7 :: ([] : List Int)))) fun x12 =>
            bif (decide ((List.length x12) ≤ (List.length x12))) then 
             bindO (dialtoneref18_next (a1, (a2, (a3, ((List.take (List.length x12) x12), ((decide (a7 ≥ (200 : Int))), a6)))))) fun ((x14, (x15, (x16, (x17, (x18, x19))))), x20) =>
             some ((x14, (x15, (x16, (x17, (x18, x19))))), (x20, (0 : Int)))
            else none
           else none
          else none
         else none
       else
        bif (decide (((List.length a4) * 8) ≤ 140737488355328)) then 
         bif (decide ((List.length a4) ≤ (List.length a4))) then 
          bif (decide (((List.length ((List.take (List.length a4) a4) ++ (a7 :: ([] : List Int)))) * 8) ≤ 140737488355328)) then 
           bindO (some ((List.take (List.length a4) a4) ++ (a7 :: ([] : List Int)))) fun x22 =>
           bif (decide ((List.length x22) ≤ (List.length x22))) then 
            bindO (dialtoneref18_next (a1, (a2, (a3, ((List.take (List.length x22) x22), ((decide (a7 ≥ (200 : Int))), a6)))))) fun ((x24, (x25, (x26, (x27, (x28, x29))))), x30) =>
            some ((x24, (x25, (x26, (x27, (x28, x29))))), (x30, (0 : Int)))
           else none
          else none
         else none
        else none
noncomputable def cons22 : List (Nat × CE) := [(39, ⟨[.tmp 0 false [.dat (.list (.int .i64))]], [.tmp 0 false [.own 1 3 (.int .i64)]], cloneG⟩), (37, ⟨[(.tmp 0 false [(.dat (.list (.int .i64)))]), (.tmp 1 false [(.dat (.list (.int .i64)))])], [(.tmp 0 false [(.dat .bool)])], slices_Equal___int_int⟩), (30, ⟨[(.tmp 0 false [(.dat (.int .i64))])], [(.tmp 0 false [(.dat .bool)])], provisional_isProvisional⟩), (31, ⟨[(.tmp 0 false [(.dat (.int .i64))])], [(.tmp 0 false [(.dat .bool)])], provisional_isAccepting⟩), (34, ⟨[(.tmp 0 false [(.dat (.int .i64))])], [(.tmp 0 false [(.dat .bool)])], provisional_mayWait⟩), (14, ⟨[(.tmp 0 true [(.dat (.int .i64)), (.dat (.int .i64)), (.dat (.int .i64)), (.dat (.list (.int .i64))), (.dat .bool), (.dat .bool)])], [(.tmp 0 false [(.dat .bool)])], provisional_May⟩), (33, ⟨[(.tmp 0 false [(.dat (.int .i64))]), (.tmp 1 false [(.dat (.int .i64))])], [(.tmp 0 true [(.dat (.int .u8)), (.dat (.int .i64)), (.dat (.int .i64)), (.dat (.int .i64)), (.dat (.int .i64))])], provisional_timer⟩), (20, ⟨[(.tmp 0 true [(.dat (.int .i64)), (.dat (.int .i64)), (.dat (.int .i64)), (.dat (.list (.int .i64))), (.dat .bool), (.dat .bool)]), (.tmp 1 true [(.dat (.int .i64)), (.dat (.int .i64)), (.dat (.int .i64)), (.dat (.list (.int .i64))), (.dat .bool), (.dat .bool)])], [(.tmp 0 false [(.dat .bool)])], provisional_Same⟩), (11, ⟨[(.tmp 0 true [(.dat (.int .i64)), (.dat (.int .i64)), (.dat (.int .i64)), (.dat (.list (.int .i64))), (.dat .bool), (.dat .bool)]), (.tmp 1 false [(.dat (.int .i64))])], [(.tmp 0 true [(.dat (.int .i64)), (.dat (.int .i64)), (.dat (.int .i64)), (.dat (.list (.int .i64))), (.dat .bool), (.dat .bool)]), (.tmp 1 false [(.dat (.list (.pair (.int .u8) (.pair (.int .i64) (.pair (.int .i64) (.pair (.int .i64) (.int .i64)))))))]), (.tmp 2 false [(.dat (.int .u8))])], provisional_Offer⟩), (12, ⟨[(.tmp 0 true [(.dat (.int .i64)), (.dat (.int .i64)), (.dat (.int .i64)), (.dat (.list (.int .i64))), (.dat .bool), (.dat .bool)]), (.tmp 1 false [(.dat (.int .i64))])], [(.tmp 0 true [(.dat (.int .i64)), (.dat (.int .i64)), (.dat (.int .i64)), (.dat (.list (.int .i64))), (.dat .bool), (.dat .bool)]), (.tmp 1 false [(.dat (.list (.pair (.int .u8) (.pair (.int .i64) (.pair (.int .i64) (.pair (.int .i64) (.int .i64)))))))]), (.tmp 2 false [(.dat (.int .u8))])], provisional_Ack⟩), (13, ⟨[(.tmp 0 true [(.dat (.int .i64)), (.dat (.int .i64)), (.dat (.int .i64)), (.dat (.list (.int .i64))), (.dat .bool), (.dat .bool)]), (.tmp 1 false [(.dat (.int .i64))])], [(.tmp 0 true [(.dat (.int .i64)), (.dat (.int .i64)), (.dat (.int .i64)), (.dat (.list (.int .i64))), (.dat .bool), (.dat .bool)]), (.tmp 1 false [(.dat (.list (.pair (.int .u8) (.pair (.int .i64) (.pair (.int .i64) (.pair (.int .i64) (.int .i64)))))))]), (.tmp 2 false [(.dat (.int .u8))])], provisional_Fire⟩), (35, ⟨[(.tmp 0 false [(.dat (.int .i64))]), (.tmp 1 false [(.dat (.int .i64))]), (.tmp 2 false [(.dat (.int .i64))])], [(.tmp 0 false [(.dat .bool)])], dialtoneref12_From⟩), (36, ⟨[(.tmp 0 false [(.dat (.int .i64))])], [(.tmp 0 false [(.dat .bool)])], dialtoneref18_wait⟩), (19, ⟨[(.tmp 0 true [(.dat (.int .i64)), (.dat (.int .i64)), (.dat (.int .i64)), (.dat (.list (.int .i64))), (.dat .bool), (.dat .bool)])], [(.tmp 0 false [(.dat .bool)])], dialtoneref18_May⟩), (21, ⟨[(.tmp 0 true [(.dat (.int .i64)), (.dat (.int .i64)), (.dat (.int .i64)), (.dat (.list (.int .i64))), (.dat .bool), (.dat .bool)]), (.tmp 1 true [(.dat (.int .i64)), (.dat (.int .i64)), (.dat (.int .i64)), (.dat (.list (.int .i64))), (.dat .bool), (.dat .bool)])], [(.tmp 0 false [(.dat .bool)])], dialtoneref18_Same⟩), (38, ⟨[(.tmp 0 true [(.dat (.int .i64)), (.dat (.int .i64)), (.dat (.int .i64)), (.dat (.list (.int .i64))), (.dat .bool), (.dat .bool)])], [(.tmp 0 true [(.dat (.int .i64)), (.dat (.int .i64)), (.dat (.int .i64)), (.dat (.list (.int .i64))), (.dat .bool), (.dat .bool)]), (.tmp 1 false [(.dat (.list (.pair (.int .u8) (.pair (.int .i64) (.pair (.int .i64) (.pair (.int .i64) (.int .i64)))))))])], dialtoneref18_next⟩)]
theorem cons22_ok : ConL Try.prog cons22 := ⟨clone_con, con37, con30, con31, con34, con14, con33, con20, con11, con12, con13, con35, con36, con19, con21, con38, trivial⟩
theorem con22 : ConOk Try.prog 22 ⟨[(.tmp 0 true [(.dat (.int .i64)), (.dat (.int .i64)), (.dat (.int .i64)), (.dat (.list (.int .i64))), (.dat .bool), (.dat .bool)]), (.tmp 1 false [(.dat (.int .i64))])], [(.tmp 0 true [(.dat (.int .i64)), (.dat (.int .i64)), (.dat (.int .i64)), (.dat (.list (.int .i64))), (.dat .bool), (.dat .bool)]), (.tmp 1 false [(.dat (.list (.pair (.int .u8) (.pair (.int .i64) (.pair (.int .i64) (.pair (.int .i64) (.int .i64)))))))]), (.tmp 2 false [(.dat (.int .u8))])], dialtoneref18_Offer⟩ :=
  tree_ok (plan := planOf plan22) (eg := egNo) KK tabL_ok (conOf_ok cons22_ok) Try.func22 (by kernel_rfl) (by kernel_rfl) 10000 (fun a r h => Eq.trans (show _ = dialtoneref18_Offer a from by kernel_rfl) h)
/-! ### dialtone/dialtoneref18.Ack -/
def plan24 : List (Nat × PL) := []
noncomputable def dialtoneref18_Ack : ((Int × (Int × (Int × ((List Int) × (Bool × Bool))))) × Int) → Option ((Int × (Int × (Int × ((List Int) × (Bool × Bool))))) × ((List (Int × (Int × (Int × (Int × Int))))) × Int)) := fun ((a1, (a2, (a3, (a4, (a5, a6))))), a7) =>
  bindO (dialtoneref18_May (a1, (a2, (a3, (a4, (a5, a6)))))) fun x8 =>
  bif (!x8) then
   some (((0 : Int), ((0 : Int), ((0 : Int), (([] : List Int), (Bool.false, Bool.false))))), (([] : List (Int × (Int × (Int × (Int × Int))))), (2 : Int)))
  else
   bif (decide (a2 = (0 : Int))) then
    some (((0 : Int), ((0 : Int), ((0 : Int), (([] : List Int), (Bool.false, Bool.false))))), (([] : List (Int × (Int × (Int × (Int × Int))))), (8 : Int)))
   else
    bif (decide (a7 ≠ a1)) then
     some (((0 : Int), ((0 : Int), ((0 : Int), (([] : List Int), (Bool.false, Bool.false))))), (([] : List (Int × (Int × (Int × (Int × Int))))), (8 : Int)))
    else
     bindO (dialtoneref18_next (a1, ((0 : Int), ((0 : Int), (a4, (a5, a6)))))) fun ((x10, (x11, (x12, (x13, (x14, x15))))), x16) =>
     some ((x10, (x11, (x12, (x13, (x14, x15))))), (x16, (0 : Int)))
noncomputable def cons24 : List (Nat × CE) := [(39, ⟨[.tmp 0 false [.dat (.list (.int .i64))]], [.tmp 0 false [.own 1 3 (.int .i64)]], cloneG⟩), (37, ⟨[(.tmp 0 false [(.dat (.list (.int .i64)))]), (.tmp 1 false [(.dat (.list (.int .i64)))])], [(.tmp 0 false [(.dat .bool)])], slices_Equal___int_int⟩), (30, ⟨[(.tmp 0 false [(.dat (.int .i64))])], [(.tmp 0 false [(.dat .bool)])], provisional_isProvisional⟩), (31, ⟨[(.tmp 0 false [(.dat (.int .i64))])], [(.tmp 0 false [(.dat .bool)])], provisional_isAccepting⟩), (34, ⟨[(.tmp 0 false [(.dat (.int .i64))])], [(.tmp 0 false [(.dat .bool)])], provisional_mayWait⟩), (14, ⟨[(.tmp 0 true [(.dat (.int .i64)), (.dat (.int .i64)), (.dat (.int .i64)), (.dat (.list (.int .i64))), (.dat .bool), (.dat .bool)])], [(.tmp 0 false [(.dat .bool)])], provisional_May⟩), (33, ⟨[(.tmp 0 false [(.dat (.int .i64))]), (.tmp 1 false [(.dat (.int .i64))])], [(.tmp 0 true [(.dat (.int .u8)), (.dat (.int .i64)), (.dat (.int .i64)), (.dat (.int .i64)), (.dat (.int .i64))])], provisional_timer⟩), (20, ⟨[(.tmp 0 true [(.dat (.int .i64)), (.dat (.int .i64)), (.dat (.int .i64)), (.dat (.list (.int .i64))), (.dat .bool), (.dat .bool)]), (.tmp 1 true [(.dat (.int .i64)), (.dat (.int .i64)), (.dat (.int .i64)), (.dat (.list (.int .i64))), (.dat .bool), (.dat .bool)])], [(.tmp 0 false [(.dat .bool)])], provisional_Same⟩), (11, ⟨[(.tmp 0 true [(.dat (.int .i64)), (.dat (.int .i64)), (.dat (.int .i64)), (.dat (.list (.int .i64))), (.dat .bool), (.dat .bool)]), (.tmp 1 false [(.dat (.int .i64))])], [(.tmp 0 true [(.dat (.int .i64)), (.dat (.int .i64)), (.dat (.int .i64)), (.dat (.list (.int .i64))), (.dat .bool), (.dat .bool)]), (.tmp 1 false [(.dat (.list (.pair (.int .u8) (.pair (.int .i64) (.pair (.int .i64) (.pair (.int .i64) (.int .i64)))))))]), (.tmp 2 false [(.dat (.int .u8))])], provisional_Offer⟩), (12, ⟨[(.tmp 0 true [(.dat (.int .i64)), (.dat (.int .i64)), (.dat (.int .i64)), (.dat (.list (.int .i64))), (.dat .bool), (.dat .bool)]), (.tmp 1 false [(.dat (.int .i64))])], [(.tmp 0 true [(.dat (.int .i64)), (.dat (.int .i64)), (.dat (.int .i64)), (.dat (.list (.int .i64))), (.dat .bool), (.dat .bool)]), (.tmp 1 false [(.dat (.list (.pair (.int .u8) (.pair (.int .i64) (.pair (.int .i64) (.pair (.int .i64) (.int .i64)))))))]), (.tmp 2 false [(.dat (.int .u8))])], provisional_Ack⟩), (13, ⟨[(.tmp 0 true [(.dat (.int .i64)), (.dat (.int .i64)), (.dat (.int .i64)), (.dat (.list (.int .i64))), (.dat .bool), (.dat .bool)]), (.tmp 1 false [(.dat (.int .i64))])], [(.tmp 0 true [(.dat (.int .i64)), (.dat (.int .i64)), (.dat (.int .i64)), (.dat (.list (.int .i64))), (.dat .bool), (.dat .bool)]), (.tmp 1 false [(.dat (.list (.pair (.int .u8) (.pair (.int .i64) (.pair (.int .i64) (.pair (.int .i64) (.int .i64)))))))]), (.tmp 2 false [(.dat (.int .u8))])], provisional_Fire⟩), (35, ⟨[(.tmp 0 false [(.dat (.int .i64))]), (.tmp 1 false [(.dat (.int .i64))]), (.tmp 2 false [(.dat (.int .i64))])], [(.tmp 0 false [(.dat .bool)])], dialtoneref12_From⟩), (36, ⟨[(.tmp 0 false [(.dat (.int .i64))])], [(.tmp 0 false [(.dat .bool)])], dialtoneref18_wait⟩), (19, ⟨[(.tmp 0 true [(.dat (.int .i64)), (.dat (.int .i64)), (.dat (.int .i64)), (.dat (.list (.int .i64))), (.dat .bool), (.dat .bool)])], [(.tmp 0 false [(.dat .bool)])], dialtoneref18_May⟩), (21, ⟨[(.tmp 0 true [(.dat (.int .i64)), (.dat (.int .i64)), (.dat (.int .i64)), (.dat (.list (.int .i64))), (.dat .bool), (.dat .bool)]), (.tmp 1 true [(.dat (.int .i64)), (.dat (.int .i64)), (.dat (.int .i64)), (.dat (.list (.int .i64))), (.dat .bool), (.dat .bool)])], [(.tmp 0 false [(.dat .bool)])], dialtoneref18_Same⟩), (38, ⟨[(.tmp 0 true [(.dat (.int .i64)), (.dat (.int .i64)), (.dat (.int .i64)), (.dat (.list (.int .i64))), (.dat .bool), (.dat .bool)])], [(.tmp 0 true [(.dat (.int .i64)), (.dat (.int .i64)), (.dat (.int .i64)), (.dat (.list (.int .i64))), (.dat .bool), (.dat .bool)]), (.tmp 1 false [(.dat (.list (.pair (.int .u8) (.pair (.int .i64) (.pair (.int .i64) (.pair (.int .i64) (.int .i64)))))))])], dialtoneref18_next⟩), (22, ⟨[(.tmp 0 true [(.dat (.int .i64)), (.dat (.int .i64)), (.dat (.int .i64)), (.dat (.list (.int .i64))), (.dat .bool), (.dat .bool)]), (.tmp 1 false [(.dat (.int .i64))])], [(.tmp 0 true [(.dat (.int .i64)), (.dat (.int .i64)), (.dat (.int .i64)), (.dat (.list (.int .i64))), (.dat .bool), (.dat .bool)]), (.tmp 1 false [(.dat (.list (.pair (.int .u8) (.pair (.int .i64) (.pair (.int .i64) (.pair (.int .i64) (.int .i64)))))))]), (.tmp 2 false [(.dat (.int .u8))])], dialtoneref18_Offer⟩)]
theorem cons24_ok : ConL Try.prog cons24 := ⟨clone_con, con37, con30, con31, con34, con14, con33, con20, con11, con12, con13, con35, con36, con19, con21, con38, con22, trivial⟩
theorem con24 : ConOk Try.prog 24 ⟨[(.tmp 0 true [(.dat (.int .i64)), (.dat (.int .i64)), (.dat (.int .i64)), (.dat (.list (.int .i64))), (.dat .bool), (.dat .bool)]), (.tmp 1 false [(.dat (.int .i64))])], [(.tmp 0 true [(.dat (.int .i64)), (.dat (.int .i64)), (.dat (.int .i64)), (.dat (.list (.int .i64))), (.dat .bool), (.dat .bool)]), (.tmp 1 false [(.dat (.list (.pair (.int .u8) (.pair (.int .i64) (.pair (.int .i64) (.pair (.int .i64) (.int .i64)))))))]), (.tmp 2 false [(.dat (.int .u8))])], dialtoneref18_Ack⟩ :=
  tree_ok (plan := planOf plan24) (eg := egNo) KK tabL_ok (conOf_ok cons24_ok) Try.func24 (by kernel_rfl) (by kernel_rfl) 10000 (fun a r h => Eq.trans (show _ = dialtoneref18_Ack a from by kernel_rfl) h)
/-! ### dialtone/dialtoneref18.Fire -/
def plan25 : List (Nat × PL) := []
noncomputable def dialtoneref18_Fire : ((Int × (Int × (Int × ((List Int) × (Bool × Bool))))) × Int) → Option ((Int × (Int × (Int × ((List Int) × (Bool × Bool))))) × ((List (Int × (Int × (Int × (Int × Int))))) × Int)) := fun ((a1, (a2, (a3, (a4, (a5, a6))))), a7) =>
  bindO (dialtoneref18_May (a1, (a2, (a3, (a4, (a5, a6)))))) fun x8 =>
  bif (!x8) then
   some (((0 : Int), ((0 : Int), ((0 : Int), (([] : List Int), (Bool.false, Bool.false))))), (([] : List (Int × (Int × (Int × (Int × Int))))), (2 : Int)))
  else
   bif (decide (a7 ≠ (1 : Int))) then
    bif (decide (a7 ≠ (2 : Int))) then
     some (((0 : Int), ((0 : Int), ((0 : Int), (([] : List Int), (Bool.false, Bool.false))))), (([] : List (Int × (Int × (Int × (Int × Int))))), (2 : Int)))
    else
     bif (decide (a2 = (0 : Int))) then
      some ((a1, (a2, (a3, (a4, (a5, a6))))), (([] : List (Int × (Int × (Int × (Int × Int))))), (0 : Int)))
     else
      bif (decide (a7 = (2 : Int))) then
       some ((a1, ((0 : Int), ((0 : Int), (([] : List Int), (Bool.true, Bool.true))))), ((((4 : Int), ((0 : Int), ((0 : Int), ((0 : Int), (0 : Int))))) :: ([] : List (Int × (Int × (Int × (Int × Int)))))), (0 : Int)))
      else
       bindO (some (Go.IntKind.wrap .i64 ((2 : Int) * a3))) fun x9 =>
       some ((a1, (a2, ((minA x9 (32000 : Int)), (a4, (a5, a6))))), ((((1 : Int), (a2, (a1, ((0 : Int), (0 : Int))))) :: (((3 : Int), ((0 : Int), ((0 : Int), ((1 : Int), (minA x9 (32000 : Int)))))) :: ([] : List (Int × (Int × (Int × (Int × Int))))))), (0 : Int)))
   else
    bif (decide (a2 = (0 : Int))) then
     some ((a1, (a2, (a3, (a4, (a5, a6))))), (([] : List (Int × (Int × (Int × (Int × Int))))), (0 : Int)))
    else
     bif (decide (a7 = (2 : Int))) then
      some ((a1, ((0 : Int), ((0 : Int), (([] : List Int), (Bool.true, Bool.true))))), ((((4 : Int), ((0 : Int), ((0 : Int), ((0 : Int), (0 : Int))))) :: ([] : List (Int × (Int × (Int × (Int × Int)))))), (0 : Int)))
     else
      bindO (some (Go.IntKind.wrap .i64 ((2 : Int) * a3))) fun x10 =>
      some ((a1, (a2, ((minA x10 (32000 : Int)), (a4, (a5, a6))))), ((((1 : Int), (a2, (a1, ((0 : Int), (0 : Int))))) :: (((3 : Int), ((0 : Int), ((0 : Int), ((1 : Int), (minA x10 (32000 : Int)))))) :: ([] : List (Int × (Int × (Int × (Int × Int))))))), (0 : Int)))
noncomputable def cons25 : List (Nat × CE) := [(39, ⟨[.tmp 0 false [.dat (.list (.int .i64))]], [.tmp 0 false [.own 1 3 (.int .i64)]], cloneG⟩), (37, ⟨[(.tmp 0 false [(.dat (.list (.int .i64)))]), (.tmp 1 false [(.dat (.list (.int .i64)))])], [(.tmp 0 false [(.dat .bool)])], slices_Equal___int_int⟩), (30, ⟨[(.tmp 0 false [(.dat (.int .i64))])], [(.tmp 0 false [(.dat .bool)])], provisional_isProvisional⟩), (31, ⟨[(.tmp 0 false [(.dat (.int .i64))])], [(.tmp 0 false [(.dat .bool)])], provisional_isAccepting⟩), (34, ⟨[(.tmp 0 false [(.dat (.int .i64))])], [(.tmp 0 false [(.dat .bool)])], provisional_mayWait⟩), (14, ⟨[(.tmp 0 true [(.dat (.int .i64)), (.dat (.int .i64)), (.dat (.int .i64)), (.dat (.list (.int .i64))), (.dat .bool), (.dat .bool)])], [(.tmp 0 false [(.dat .bool)])], provisional_May⟩), (33, ⟨[(.tmp 0 false [(.dat (.int .i64))]), (.tmp 1 false [(.dat (.int .i64))])], [(.tmp 0 true [(.dat (.int .u8)), (.dat (.int .i64)), (.dat (.int .i64)), (.dat (.int .i64)), (.dat (.int .i64))])], provisional_timer⟩), (20, ⟨[(.tmp 0 true [(.dat (.int .i64)), (.dat (.int .i64)), (.dat (.int .i64)), (.dat (.list (.int .i64))), (.dat .bool), (.dat .bool)]), (.tmp 1 true [(.dat (.int .i64)), (.dat (.int .i64)), (.dat (.int .i64)), (.dat (.list (.int .i64))), (.dat .bool), (.dat .bool)])], [(.tmp 0 false [(.dat .bool)])], provisional_Same⟩), (11, ⟨[(.tmp 0 true [(.dat (.int .i64)), (.dat (.int .i64)), (.dat (.int .i64)), (.dat (.list (.int .i64))), (.dat .bool), (.dat .bool)]), (.tmp 1 false [(.dat (.int .i64))])], [(.tmp 0 true [(.dat (.int .i64)), (.dat (.int .i64)), (.dat (.int .i64)), (.dat (.list (.int .i64))), (.dat .bool), (.dat .bool)]), (.tmp 1 false [(.dat (.list (.pair (.int .u8) (.pair (.int .i64) (.pair (.int .i64) (.pair (.int .i64) (.int .i64)))))))]), (.tmp 2 false [(.dat (.int .u8))])], provisional_Offer⟩), (12, ⟨[(.tmp 0 true [(.dat (.int .i64)), (.dat (.int .i64)), (.dat (.int .i64)), (.dat (.list (.int .i64))), (.dat .bool), (.dat .bool)]), (.tmp 1 false [(.dat (.int .i64))])], [(.tmp 0 true [(.dat (.int .i64)), (.dat (.int .i64)), (.dat (.int .i64)), (.dat (.list (.int .i64))), (.dat .bool), (.dat .bool)]), (.tmp 1 false [(.dat (.list (.pair (.int .u8) (.pair (.int .i64) (.pair (.int .i64) (.pair (.int .i64) (.int .i64)))))))]), (.tmp 2 false [(.dat (.int .u8))])], provisional_Ack⟩), (13, ⟨[(.tmp 0 true [(.dat (.int .i64)), (.dat (.int .i64)), (.dat (.int .i64)), (.dat (.list (.int .i64))), (.dat .bool), (.dat .bool)]), (.tmp 1 false [(.dat (.int .i64))])], [(.tmp 0 true [(.dat (.int .i64)), (.dat (.int .i64)), (.dat (.int .i64)), (.dat (.list (.int .i64))), (.dat .bool), (.dat .bool)]), (.tmp 1 false [(.dat (.list (.pair (.int .u8) (.pair (.int .i64) (.pair (.int .i64) (.pair (.int .i64) (.int .i64)))))))]), (.tmp 2 false [(.dat (.int .u8))])], provisional_Fire⟩), (35, ⟨[(.tmp 0 false [(.dat (.int .i64))]), (.tmp 1 false [(.dat (.int .i64))]), (.tmp 2 false [(.dat (.int .i64))])], [(.tmp 0 false [(.dat .bool)])], dialtoneref12_From⟩), (36, ⟨[(.tmp 0 false [(.dat (.int .i64))])], [(.tmp 0 false [(.dat .bool)])], dialtoneref18_wait⟩), (19, ⟨[(.tmp 0 true [(.dat (.int .i64)), (.dat (.int .i64)), (.dat (.int .i64)), (.dat (.list (.int .i64))), (.dat .bool), (.dat .bool)])], [(.tmp 0 false [(.dat .bool)])], dialtoneref18_May⟩), (21, ⟨[(.tmp 0 true [(.dat (.int .i64)), (.dat (.int .i64)), (.dat (.int .i64)), (.dat (.list (.int .i64))), (.dat .bool), (.dat .bool)]), (.tmp 1 true [(.dat (.int .i64)), (.dat (.int .i64)), (.dat (.int .i64)), (.dat (.list (.int .i64))), (.dat .bool), (.dat .bool)])], [(.tmp 0 false [(.dat .bool)])], dialtoneref18_Same⟩), (38, ⟨[(.tmp 0 true [(.dat (.int .i64)), (.dat (.int .i64)), (.dat (.int .i64)), (.dat (.list (.int .i64))), (.dat .bool), (.dat .bool)])], [(.tmp 0 true [(.dat (.int .i64)), (.dat (.int .i64)), (.dat (.int .i64)), (.dat (.list (.int .i64))), (.dat .bool), (.dat .bool)]), (.tmp 1 false [(.dat (.list (.pair (.int .u8) (.pair (.int .i64) (.pair (.int .i64) (.pair (.int .i64) (.int .i64)))))))])], dialtoneref18_next⟩), (22, ⟨[(.tmp 0 true [(.dat (.int .i64)), (.dat (.int .i64)), (.dat (.int .i64)), (.dat (.list (.int .i64))), (.dat .bool), (.dat .bool)]), (.tmp 1 false [(.dat (.int .i64))])], [(.tmp 0 true [(.dat (.int .i64)), (.dat (.int .i64)), (.dat (.int .i64)), (.dat (.list (.int .i64))), (.dat .bool), (.dat .bool)]), (.tmp 1 false [(.dat (.list (.pair (.int .u8) (.pair (.int .i64) (.pair (.int .i64) (.pair (.int .i64) (.int .i64)))))))]), (.tmp 2 false [(.dat (.int .u8))])], dialtoneref18_Offer⟩), (24, ⟨[(.tmp 0 true [(.dat (.int .i64)), (.dat (.int .i64)), (.dat (.int .i64)), (.dat (.list (.int .i64))), (.dat .bool), (.dat .bool)]), (.tmp 1 false [(.dat (.int .i64))])], [(.tmp 0 true [(.dat (.int .i64)), (.dat (.int .i64)), (.dat (.int .i64)), (.dat (.list (.int .i64))), (.dat .bool), (.dat .bool)]), (.tmp 1 false [(.dat (.list (.pair (.int .u8) (.pair (.int .i64) (.pair (.int .i64) (.pair (.int .i64) (.int .i64)))))))]), (.tmp 2 false [(.dat (.int .u8))])], dialtoneref18_Ack⟩)]
theorem cons25_ok : ConL Try.prog cons25 := ⟨clone_con, con37, con30, con31, con34, con14, con33, con20, con11, con12, con13, con35, con36, con19, con21, con38, con22, con24, trivial⟩
theorem con25 : ConOk Try.prog 25 ⟨[(.tmp 0 true [(.dat (.int .i64)), (.dat (.int .i64)), (.dat (.int .i64)), (.dat (.list (.int .i64))), (.dat .bool), (.dat .bool)]), (.tmp 1 false [(.dat (.int .i64))])], [(.tmp 0 true [(.dat (.int .i64)), (.dat (.int .i64)), (.dat (.int .i64)), (.dat (.list (.int .i64))), (.dat .bool), (.dat .bool)]), (.tmp 1 false [(.dat (.list (.pair (.int .u8) (.pair (.int .i64) (.pair (.int .i64) (.pair (.int .i64) (.int .i64)))))))]), (.tmp 2 false [(.dat (.int .u8))])], dialtoneref18_Fire⟩ :=
  tree_ok (plan := planOf plan25) (eg := egNo) KK tabL_ok (conOf_ok cons25_ok) Try.func25 (by kernel_rfl) (by kernel_rfl) 10000 (fun a r h => Eq.trans (show _ = dialtoneref18_Fire a from by kernel_rfl) h)
/-! ### dialtone/dialtoneref18.Outs -/
def plan23 : List (Nat × PL) := [(134480385, (.carry [])), (18049651601311750, (.carry [.tmp 5 false [(.dat (.int .i64))]]))]
noncomputable def dialtoneref18_Outs : ((List (Int × (Int × (Int × (Int × Int))))) × (List (Int × (Int × (Int × (Int × Int)))))) → Option Bool := fun (a1, a2) =>
  bif (decide ((((List.length a1) : Nat) : Int) ≠ (((List.length a2) : Nat) : Int))) then
   some Bool.false
  else
   joinO (loopO (fun v3 =>
     bif (decide (v3 < (((List.length a1) : Nat) : Int))) then
      bif (decide (((0 : Int) ≤ v3) ∧ (v3 < (((List.length a1) : Nat) : Int)))) then 
       bindO a1[(Int.toNat v3)]? fun x4 =>
       bif (decide (((0 : Int) ≤ v3) ∧ (v3 < (((List.length a2) : Nat) : Int)))) then 
        bindO a2[(Int.toNat v3)]? fun x5 =>
        bif (!((decide (x4.1 = x5.1)) && ((decide (x4.2.1 = x5.2.1)) && ((decide (x4.2.2.1 = x5.2.2.1)) && ((decide (x4.2.2.2.1 = x5.2.2.2.1)) && (decide (x4.2.2.2.2 = x5.2.2.2.2))))))) then
         outO (outO (some Bool.false))
        else
         some (Sum.inl (Go.IntKind.wrap .i64 (v3 + (1 : Int))))
       else none
      else none
     else
      outO (some (Sum.inl ()))) (0 : Int)) fun _ =>
   some Bool.true
noncomputable def cons23 : List (Nat × CE) := [(39, ⟨[.tmp 0 false [.dat (.list (.int .i64))]], [.tmp 0 false [.own 1 3 (.int .i64)]], cloneG⟩), (37, ⟨[(.tmp 0 false [(.dat (.list (.int .i64)))]), (.tmp 1 false [(.dat (.list (.int .i64)))])], [(.tmp 0 false [(.dat .bool)])], slices_Equal___int_int⟩), (30, ⟨[(.tmp 0 false [(.dat (.int .i64))])], [(.tmp 0 false [(.dat .bool)])], provisional_isProvisional⟩), (31, ⟨[(.tmp 0 false [(.dat (.int .i64))])], [(.tmp 0 false [(.dat .bool)])], provisional_isAccepting⟩), (34, ⟨[(.tmp 0 false [(.dat (.int .i64))])], [(.tmp 0 false [(.dat .bool)])], provisional_mayWait⟩), (14, ⟨[(.tmp 0 true [(.dat (.int .i64)), (.dat (.int .i64)), (.dat (.int .i64)), (.dat (.list (.int .i64))), (.dat .bool), (.dat .bool)])], [(.tmp 0 false [(.dat .bool)])], provisional_May⟩), (33, ⟨[(.tmp 0 false [(.dat (.int .i64))]), (.tmp 1 false [(.dat (.int .i64))])], [(.tmp 0 true [(.dat (.int .u8)), (.dat (.int .i64)), (.dat (.int .i64)), (.dat (.int .i64)), (.dat (.int .i64))])], provisional_timer⟩), (20, ⟨[(.tmp 0 true [(.dat (.int .i64)), (.dat (.int .i64)), (.dat (.int .i64)), (.dat (.list (.int .i64))), (.dat .bool), (.dat .bool)]), (.tmp 1 true [(.dat (.int .i64)), (.dat (.int .i64)), (.dat (.int .i64)), (.dat (.list (.int .i64))), (.dat .bool), (.dat .bool)])], [(.tmp 0 false [(.dat .bool)])], provisional_Same⟩), (11, ⟨[(.tmp 0 true [(.dat (.int .i64)), (.dat (.int .i64)), (.dat (.int .i64)), (.dat (.list (.int .i64))), (.dat .bool), (.dat .bool)]), (.tmp 1 false [(.dat (.int .i64))])], [(.tmp 0 true [(.dat (.int .i64)), (.dat (.int .i64)), (.dat (.int .i64)), (.dat (.list (.int .i64))), (.dat .bool), (.dat .bool)]), (.tmp 1 false [(.dat (.list (.pair (.int .u8) (.pair (.int .i64) (.pair (.int .i64) (.pair (.int .i64) (.int .i64)))))))]), (.tmp 2 false [(.dat (.int .u8))])], provisional_Offer⟩), (12, ⟨[(.tmp 0 true [(.dat (.int .i64)), (.dat (.int .i64)), (.dat (.int .i64)), (.dat (.list (.int .i64))), (.dat .bool), (.dat .bool)]), (.tmp 1 false [(.dat (.int .i64))])], [(.tmp 0 true [(.dat (.int .i64)), (.dat (.int .i64)), (.dat (.int .i64)), (.dat (.list (.int .i64))), (.dat .bool), (.dat .bool)]), (.tmp 1 false [(.dat (.list (.pair (.int .u8) (.pair (.int .i64) (.pair (.int .i64) (.pair (.int .i64) (.int .i64)))))))]), (.tmp 2 false [(.dat (.int .u8))])], provisional_Ack⟩), (13, ⟨[(.tmp 0 true [(.dat (.int .i64)), (.dat (.int .i64)), (.dat (.int .i64)), (.dat (.list (.int .i64))), (.dat .bool), (.dat .bool)]), (.tmp 1 false [(.dat (.int .i64))])], [(.tmp 0 true [(.dat (.int .i64)), (.dat (.int .i64)), (.dat (.int .i64)), (.dat (.list (.int .i64))), (.dat .bool), (.dat .bool)]), (.tmp 1 false [(.dat (.list (.pair (.int .u8) (.pair (.int .i64) (.pair (.int .i64) (.pair (.int .i64) (.int .i64)))))))]), (.tmp 2 false [(.dat (.int .u8))])], provisional_Fire⟩), (35, ⟨[(.tmp 0 false [(.dat (.int .i64))]), (.tmp 1 false [(.dat (.int .i64))]), (.tmp 2 false [(.dat (.int .i64))])], [(.tmp 0 false [(.dat .bool)])], dialtoneref12_From⟩), (36, ⟨[(.tmp 0 false [(.dat (.int .i64))])], [(.tmp 0 false [(.dat .bool)])], dialtoneref18_wait⟩), (19, ⟨[(.tmp 0 true [(.dat (.int .i64)), (.dat (.int .i64)), (.dat (.int .i64)), (.dat (.list (.int .i64))), (.dat .bool), (.dat .bool)])], [(.tmp 0 false [(.dat .bool)])], dialtoneref18_May⟩), (21, ⟨[(.tmp 0 true [(.dat (.int .i64)), (.dat (.int .i64)), (.dat (.int .i64)), (.dat (.list (.int .i64))), (.dat .bool), (.dat .bool)]), (.tmp 1 true [(.dat (.int .i64)), (.dat (.int .i64)), (.dat (.int .i64)), (.dat (.list (.int .i64))), (.dat .bool), (.dat .bool)])], [(.tmp 0 false [(.dat .bool)])], dialtoneref18_Same⟩), (38, ⟨[(.tmp 0 true [(.dat (.int .i64)), (.dat (.int .i64)), (.dat (.int .i64)), (.dat (.list (.int .i64))), (.dat .bool), (.dat .bool)])], [(.tmp 0 true [(.dat (.int .i64)), (.dat (.int .i64)), (.dat (.int .i64)), (.dat (.list (.int .i64))), (.dat .bool), (.dat .bool)]), (.tmp 1 false [(.dat (.list (.pair (.int .u8) (.pair (.int .i64) (.pair (.int .i64) (.pair (.int .i64) (.int .i64)))))))])], dialtoneref18_next⟩), (22, ⟨[(.tmp 0 true [(.dat (.int .i64)), (.dat (.int .i64)), (.dat (.int .i64)), (.dat (.list (.int .i64))), (.dat .bool), (.dat .bool)]), (.tmp 1 false [(.dat (.int .i64))])], [(.tmp 0 true [(.dat (.int .i64)), (.dat (.int .i64)), (.dat (.int .i64)), (.dat (.list (.int .i64))), (.dat .bool), (.dat .bool)]), (.tmp 1 false [(.dat (.list (.pair (.int .u8) (.pair (.int .i64) (.pair (.int .i64) (.pair (.int .i64) (.int .i64)))))))]), (.tmp 2 false [(.dat (.int .u8))])], dialtoneref18_Offer⟩), (24, ⟨[(.tmp 0 true [(.dat (.int .i64)), (.dat (.int .i64)), (.dat (.int .i64)), (.dat (.list (.int .i64))), (.dat .bool), (.dat .bool)]), (.tmp 1 false [(.dat (.int .i64))])], [(.tmp 0 true [(.dat (.int .i64)), (.dat (.int .i64)), (.dat (.int .i64)), (.dat (.list (.int .i64))), (.dat .bool), (.dat .bool)]), (.tmp 1 false [(.dat (.list (.pair (.int .u8) (.pair (.int .i64) (.pair (.int .i64) (.pair (.int .i64) (.int .i64)))))))]), (.tmp 2 false [(.dat (.int .u8))])], dialtoneref18_Ack⟩), (25, ⟨[(.tmp 0 true [(.dat (.int .i64)), (.dat (.int .i64)), (.dat (.int .i64)), (.dat (.list (.int .i64))), (.dat .bool), (.dat .bool)]), (.tmp 1 false [(.dat (.int .i64))])], [(.tmp 0 true [(.dat (.int .i64)), (.dat (.int .i64)), (.dat (.int .i64)), (.dat (.list (.int .i64))), (.dat .bool), (.dat .bool)]), (.tmp 1 false [(.dat (.list (.pair (.int .u8) (.pair (.int .i64) (.pair (.int .i64) (.pair (.int .i64) (.int .i64)))))))]), (.tmp 2 false [(.dat (.int .u8))])], dialtoneref18_Fire⟩)]
theorem cons23_ok : ConL Try.prog cons23 := ⟨clone_con, con37, con30, con31, con34, con14, con33, con20, con11, con12, con13, con35, con36, con19, con21, con38, con22, con24, con25, trivial⟩
theorem con23 : ConOk Try.prog 23 ⟨[(.tmp 0 false [(.dat (.list (.pair (.int .u8) (.pair (.int .i64) (.pair (.int .i64) (.pair (.int .i64) (.int .i64)))))))]), (.tmp 1 false [(.dat (.list (.pair (.int .u8) (.pair (.int .i64) (.pair (.int .i64) (.pair (.int .i64) (.int .i64)))))))])], [(.tmp 0 false [(.dat .bool)])], dialtoneref18_Outs⟩ :=
  tree_ok (plan := planOf plan23) (eg := egNo) KK tabL_ok (conOf_ok cons23_ok) Try.func23 (by kernel_rfl) (by kernel_rfl) 10000 (fun a r h => Eq.trans (show _ = dialtoneref18_Outs a from by kernel_rfl) h)
/-! ### dialtone/dialtonelaw18.copied -/
def plan18 : List (Nat × PL) := []
noncomputable def dialtonelaw18_copied : (Int × (Int × (Int × ((List Int) × (Bool × Bool))))) → Option (Int × (Int × (Int × ((List Int) × (Bool × Bool))))) := fun (a1, (a2, (a3, (a4, (a5, a6))))) =>
  bif (decide (((0 : Int) ≤ (minA (((List.length a4) : Nat) : Int) (40 : Int))) ∧ ((minA (((List.length a4) : Nat) : Int) (40 : Int)) ≤ (((List.length a4) : Nat) : Int)))) then 
   bindO (some (List.take (Int.toNat (minA (((List.length a4) : Nat) : Int) (40 : Int))) a4)) fun x7 =>
   bif (decide (((List.length x7) * 8) ≤ 140737488355328)) then 
    bif (decide ((List.length x7) ≤ (List.length x7))) then 
     some (a1, (a2, (a3, ((List.take (List.length x7) x7), (a5, a6)))))
    else none
   else none
  else none
noncomputable def cons18 : List (Nat × CE) := [(39, ⟨[.tmp 0 false [.dat (.list (.int .i64))]], [.tmp 0 false [.own 1 3 (.int .i64)]], cloneG⟩), (37, ⟨[(.tmp 0 false [(.dat (.list (.int .i64)))]), (.tmp 1 false [(.dat (.list (.int .i64)))])], [(.tmp 0 false [(.dat .bool)])], slices_Equal___int_int⟩), (30, ⟨[(.tmp 0 false [(.dat (.int .i64))])], [(.tmp 0 false [(.dat .bool)])], provisional_isProvisional⟩), (31, ⟨[(.tmp 0 false [(.dat (.int .i64))])], [(.tmp 0 false [(.dat .bool)])], provisional_isAccepting⟩), (34, ⟨[(.tmp 0 false [(.dat (.int .i64))])], [(.tmp 0 false [(.dat .bool)])], provisional_mayWait⟩), (14, ⟨[(.tmp 0 true [(.dat (.int .i64)), (.dat (.int .i64)), (.dat (.int .i64)), (.dat (.list (.int .i64))), (.dat .bool), (.dat .bool)])], [(.tmp 0 false [(.dat .bool)])], provisional_May⟩), (33, ⟨[(.tmp 0 false [(.dat (.int .i64))]), (.tmp 1 false [(.dat (.int .i64))])], [(.tmp 0 true [(.dat (.int .u8)), (.dat (.int .i64)), (.dat (.int .i64)), (.dat (.int .i64)), (.dat (.int .i64))])], provisional_timer⟩), (20, ⟨[(.tmp 0 true [(.dat (.int .i64)), (.dat (.int .i64)), (.dat (.int .i64)), (.dat (.list (.int .i64))), (.dat .bool), (.dat .bool)]), (.tmp 1 true [(.dat (.int .i64)), (.dat (.int .i64)), (.dat (.int .i64)), (.dat (.list (.int .i64))), (.dat .bool), (.dat .bool)])], [(.tmp 0 false [(.dat .bool)])], provisional_Same⟩), (11, ⟨[(.tmp 0 true [(.dat (.int .i64)), (.dat (.int .i64)), (.dat (.int .i64)), (.dat (.list (.int .i64))), (.dat .bool), (.dat .bool)]), (.tmp 1 false [(.dat (.int .i64))])], [(.tmp 0 true [(.dat (.int .i64)), (.dat (.int .i64)), (.dat (.int .i64)), (.dat (.list (.int .i64))), (.dat .bool), (.dat .bool)]), (.tmp 1 false [(.dat (.list (.pair (.int .u8) (.pair (.int .i64) (.pair (.int .i64) (.pair (.int .i64) (.int .i64)))))))]), (.tmp 2 false [(.dat (.int .u8))])], provisional_Offer⟩), (12, ⟨[(.tmp 0 true [(.dat (.int .i64)), (.dat (.int .i64)), (.dat (.int .i64)), (.dat (.list (.int .i64))), (.dat .bool), (.dat .bool)]), (.tmp 1 false [(.dat (.int .i64))])], [(.tmp 0 true [(.dat (.int .i64)), (.dat (.int .i64)), (.dat (.int .i64)), (.dat (.list (.int .i64))), (.dat .bool), (.dat .bool)]), (.tmp 1 false [(.dat (.list (.pair (.int .u8) (.pair (.int .i64) (.pair (.int .i64) (.pair (.int .i64) (.int .i64)))))))]), (.tmp 2 false [(.dat (.int .u8))])], provisional_Ack⟩), (13, ⟨[(.tmp 0 true [(.dat (.int .i64)), (.dat (.int .i64)), (.dat (.int .i64)), (.dat (.list (.int .i64))), (.dat .bool), (.dat .bool)]), (.tmp 1 false [(.dat (.int .i64))])], [(.tmp 0 true [(.dat (.int .i64)), (.dat (.int .i64)), (.dat (.int .i64)), (.dat (.list (.int .i64))), (.dat .bool), (.dat .bool)]), (.tmp 1 false [(.dat (.list (.pair (.int .u8) (.pair (.int .i64) (.pair (.int .i64) (.pair (.int .i64) (.int .i64)))))))]), (.tmp 2 false [(.dat (.int .u8))])], provisional_Fire⟩), (35, ⟨[(.tmp 0 false [(.dat (.int .i64))]), (.tmp 1 false [(.dat (.int .i64))]), (.tmp 2 false [(.dat (.int .i64))])], [(.tmp 0 false [(.dat .bool)])], dialtoneref12_From⟩), (36, ⟨[(.tmp 0 false [(.dat (.int .i64))])], [(.tmp 0 false [(.dat .bool)])], dialtoneref18_wait⟩), (19, ⟨[(.tmp 0 true [(.dat (.int .i64)), (.dat (.int .i64)), (.dat (.int .i64)), (.dat (.list (.int .i64))), (.dat .bool), (.dat .bool)])], [(.tmp 0 false [(.dat .bool)])], dialtoneref18_May⟩), (21, ⟨[(.tmp 0 true [(.dat (.int .i64)), (.dat (.int .i64)), (.dat (.int .i64)), (.dat (.list (.int .i64))), (.dat .bool), (.dat .bool)]), (.tmp 1 true [(.dat (.int .i64)), (.dat (.int .i64)), (.dat (.int .i64)), (.dat (.list (.int .i64))), (.dat .bool), (.dat .bool)])], [(.tmp 0 false [(.dat .bool)])], dialtoneref18_Same⟩), (38, ⟨[(.tmp 0 true [(.dat (.int .i64)), (.dat (.int .i64)), (.dat (.int .i64)), (.dat (.list (.int .i64))), (.dat .bool), (.dat .bool)])], [(.tmp 0 true [(.dat (.int .i64)), (.dat (.int .i64)), (.dat (.int .i64)), (.dat (.list (.int .i64))), (.dat .bool), (.dat .bool)]), (.tmp 1 false [(.dat (.list (.pair (.int .u8) (.pair (.int .i64) (.pair (.int .i64) (.pair (.int .i64) (.int .i64)))))))])], dialtoneref18_next⟩), (22, ⟨[(.tmp 0 true [(.dat (.int .i64)), (.dat (.int .i64)), (.dat (.int .i64)), (.dat (.list (.int .i64))), (.dat .bool), (.dat .bool)]), (.tmp 1 false [(.dat (.int .i64))])], [(.tmp 0 true [(.dat (.int .i64)), (.dat (.int .i64)), (.dat (.int .i64)), (.dat (.list (.int .i64))), (.dat .bool), (.dat .bool)]), (.tmp 1 false [(.dat (.list (.pair (.int .u8) (.pair (.int .i64) (.pair (.int .i64) (.pair (.int .i64) (.int .i64)))))))]), (.tmp 2 false [(.dat (.int .u8))])], dialtoneref18_Offer⟩), (24, ⟨[(.tmp 0 true [(.dat (.int .i64)), (.dat (.int .i64)), (.dat (.int .i64)), (.dat (.list (.int .i64))), (.dat .bool), (.dat .bool)]), (.tmp 1 false [(.dat (.int .i64))])], [(.tmp 0 true [(.dat (.int .i64)), (.dat (.int .i64)), (.dat (.int .i64)), (.dat (.list (.int .i64))), (.dat .bool), (.dat .bool)]), (.tmp 1 false [(.dat (.list (.pair (.int .u8) (.pair (.int .i64) (.pair (.int .i64) (.pair (.int .i64) (.int .i64)))))))]), (.tmp 2 false [(.dat (.int .u8))])], dialtoneref18_Ack⟩), (25, ⟨[(.tmp 0 true [(.dat (.int .i64)), (.dat (.int .i64)), (.dat (.int .i64)), (.dat (.list (.int .i64))), (.dat .bool), (.dat .bool)]), (.tmp 1 false [(.dat (.int .i64))])], [(.tmp 0 true [(.dat (.int .i64)), (.dat (.int .i64)), (.dat (.int .i64)), (.dat (.list (.int .i64))), (.dat .bool), (.dat .bool)]), (.tmp 1 false [(.dat (.list (.pair (.int .u8) (.pair (.int .i64) (.pair (.int .i64) (.pair (.int .i64) (.int .i64)))))))]), (.tmp 2 false [(.dat (.int .u8))])], dialtoneref18_Fire⟩), (23, ⟨[(.tmp 0 false [(.dat (.list (.pair (.int .u8) (.pair (.int .i64) (.pair (.int .i64) (.pair (.int .i64) (.int .i64)))))))]), (.tmp 1 false [(.dat (.list (.pair (.int .u8) (.pair (.int .i64) (.pair (.int .i64) (.pair (.int .i64) (.int .i64)))))))])], [(.tmp 0 false [(.dat .bool)])], dialtoneref18_Outs⟩)]
theorem cons18_ok : ConL Try.prog cons18 := ⟨clone_con, con37, con30, con31, con34, con14, con33, con20, con11, con12, con13, con35, con36, con19, con21, con38, con22, con24, con25, con23, trivial⟩
theorem con18 : ConOk Try.prog 18 ⟨[(.tmp 0 true [(.dat (.int .i64)), (.dat (.int .i64)), (.dat (.int .i64)), (.dat (.list (.int .i64))), (.dat .bool), (.dat .bool)])], [(.tmp 0 true [(.dat (.int .i64)), (.dat (.int .i64)), (.dat (.int .i64)), (.dat (.list (.int .i64))), (.dat .bool), (.dat .bool)])], dialtonelaw18_copied⟩ :=
  tree_ok (plan := planOf plan18) (eg := egNo) KK tabL_ok (conOf_ok cons18_ok) Try.func18 (by kernel_rfl) (by kernel_rfl) 10000 (fun a r h => Eq.trans (show _ = dialtonelaw18_copied a from by kernel_rfl) h)
/-! ### dialtone/provisional.Accept -/
def plan8 : List (Nat × PL) := []
noncomputable def provisional_Accept : (Int × Int) → Option (Int × Bool) := fun (a1, a2) =>
  bif (decide (a1 ≤ (0 : Int))) then
   bif (decide (a2 ≥ (1 : Int))) then
    bif (decide (a2 ≤ (2147483647 : Int))) then
     some (a2, Bool.true)
    else
     some (a1, Bool.false)
   else
    some (a1, Bool.false)
  else
   bif (decide (a1 < (2147483647 : Int))) then
    bif (decide (a2 = (Go.IntKind.wrap .i64 (a1 + (1 : Int))))) then
     some (a2, Bool.true)
    else
     some (a1, Bool.false)
   else
    some (a1, Bool.false)
noncomputable def cons8 : List (Nat × CE) := [(39, ⟨[.tmp 0 false [.dat (.list (.int .i64))]], [.tmp 0 false [.own 1 3 (.int .i64)]], cloneG⟩), (37, ⟨[(.tmp 0 false [(.dat (.list (.int .i64)))]), (.tmp 1 false [(.dat (.list (.int .i64)))])], [(.tmp 0 false [(.dat .bool)])], slices_Equal___int_int⟩), (30, ⟨[(.tmp 0 false [(.dat (.int .i64))])], [(.tmp 0 false [(.dat .bool)])], provisional_isProvisional⟩), (31, ⟨[(.tmp 0 false [(.dat (.int .i64))])], [(.tmp 0 false [(.dat .bool)])], provisional_isAccepting⟩), (34, ⟨[(.tmp 0 false [(.dat (.int .i64))])], [(.tmp 0 false [(.dat .bool)])], provisional_mayWait⟩), (14, ⟨[(.tmp 0 true [(.dat (.int .i64)), (.dat (.int .i64)), (.dat (.int .i64)), (.dat (.list (.int .i64))), (.dat .bool), (.dat .bool)])], [(.tmp 0 false [(.dat .bool)])], provisional_May⟩), (33, ⟨[(.tmp 0 false [(.dat (.int .i64))]), (.tmp 1 false [(.dat (.int .i64))])], [(.tmp 0 true [(.dat (.int .u8)), (.dat (.int .i64)), (.dat (.int .i64)), (.dat (.int .i64)), (.dat (.int .i64))])], provisional_timer⟩), (20, ⟨[(.tmp 0 true [(.dat (.int .i64)), (.dat (.int .i64)), (.dat (.int .i64)), (.dat (.list (.int .i64))), (.dat .bool), (.dat .bool)]), (.tmp 1 true [(.dat (.int .i64)), (.dat (.int .i64)), (.dat (.int .i64)), (.dat (.list (.int .i64))), (.dat .bool), (.dat .bool)])], [(.tmp 0 false [(.dat .bool)])], provisional_Same⟩), (11, ⟨[(.tmp 0 true [(.dat (.int .i64)), (.dat (.int .i64)), (.dat (.int .i64)), (.dat (.list (.int .i64))), (.dat .bool), (.dat .bool)]), (.tmp 1 false [(.dat (.int .i64))])], [(.tmp 0 true [(.dat (.int .i64)), (.dat (.int .i64)), (.dat (.int .i64)), (.dat (.list (.int .i64))), (.dat .bool), (.dat .bool)]), (.tmp 1 false [(.dat (.list (.pair (.int .u8) (.pair (.int .i64) (.pair (.int .i64) (.pair (.int .i64) (.int .i64)))))))]), (.tmp 2 false [(.dat (.int .u8))])], provisional_Offer⟩), (12, ⟨[(.tmp 0 true [(.dat (.int .i64)), (.dat (.int .i64)), (.dat (.int .i64)), (.dat (.list (.int .i64))), (.dat .bool), (.dat .bool)]), (.tmp 1 false [(.dat (.int .i64))])], [(.tmp 0 true [(.dat (.int .i64)), (.dat (.int .i64)), (.dat (.int .i64)), (.dat (.list (.int .i64))), (.dat .bool), (.dat .bool)]), (.tmp 1 false [(.dat (.list (.pair (.int .u8) (.pair (.int .i64) (.pair (.int .i64) (.pair (.int .i64) (.int .i64)))))))]), (.tmp 2 false [(.dat (.int .u8))])], provisional_Ack⟩), (13, ⟨[(.tmp 0 true [(.dat (.int .i64)), (.dat (.int .i64)), (.dat (.int .i64)), (.dat (.list (.int .i64))), (.dat .bool), (.dat .bool)]), (.tmp 1 false [(.dat (.int .i64))])], [(.tmp 0 true [(.dat (.int .i64)), (.dat (.int .i64)), (.dat (.int .i64)), (.dat (.list (.int .i64))), (.dat .bool), (.dat .bool)]), (.tmp 1 false [(.dat (.list (.pair (.int .u8) (.pair (.int .i64) (.pair (.int .i64) (.pair (.int .i64) (.int .i64)))))))]), (.tmp 2 false [(.dat (.int .u8))])], provisional_Fire⟩), (35, ⟨[(.tmp 0 false [(.dat (.int .i64))]), (.tmp 1 false [(.dat (.int .i64))]), (.tmp 2 false [(.dat (.int .i64))])], [(.tmp 0 false [(.dat .bool)])], dialtoneref12_From⟩), (36, ⟨[(.tmp 0 false [(.dat (.int .i64))])], [(.tmp 0 false [(.dat .bool)])], dialtoneref18_wait⟩), (19, ⟨[(.tmp 0 true [(.dat (.int .i64)), (.dat (.int .i64)), (.dat (.int .i64)), (.dat (.list (.int .i64))), (.dat .bool), (.dat .bool)])], [(.tmp 0 false [(.dat .bool)])], dialtoneref18_May⟩), (21, ⟨[(.tmp 0 true [(.dat (.int .i64)), (.dat (.int .i64)), (.dat (.int .i64)), (.dat (.list (.int .i64))), (.dat .bool), (.dat .bool)]), (.tmp 1 true [(.dat (.int .i64)), (.dat (.int .i64)), (.dat (.int .i64)), (.dat (.list (.int .i64))), (.dat .bool), (.dat .bool)])], [(.tmp 0 false [(.dat .bool)])], dialtoneref18_Same⟩), (38, ⟨[(.tmp 0 true [(.dat (.int .i64)), (.dat (.int .i64)), (.dat (.int .i64)), (.dat (.list (.int .i64))), (.dat .bool), (.dat .bool)])], [(.tmp 0 true [(.dat (.int .i64)), (.dat (.int .i64)), (.dat (.int .i64)), (.dat (.list (.int .i64))), (.dat .bool), (.dat .bool)]), (.tmp 1 false [(.dat (.list (.pair (.int .u8) (.pair (.int .i64) (.pair (.int .i64) (.pair (.int .i64) (.int .i64)))))))])], dialtoneref18_next⟩), (22, ⟨[(.tmp 0 true [(.dat (.int .i64)), (.dat (.int .i64)), (.dat (.int .i64)), (.dat (.list (.int .i64))), (.dat .bool), (.dat .bool)]), (.tmp 1 false [(.dat (.int .i64))])], [(.tmp 0 true [(.dat (.int .i64)), (.dat (.int .i64)), (.dat (.int .i64)), (.dat (.list (.int .i64))), (.dat .bool), (.dat .bool)]), (.tmp 1 false [(.dat (.list (.pair (.int .u8) (.pair (.int .i64) (.pair (.int .i64) (.pair (.int .i64) (.int .i64)))))))]), (.tmp 2 false [(.dat (.int .u8))])], dialtoneref18_Offer⟩), (24, ⟨[(.tmp 0 true [(.dat (.int .i64)), (.dat (.int .i64)), (.dat (.int .i64)), (.dat (.list (.int .i64))), (.dat .bool), (.dat .bool)]), (.tmp 1 false [(.dat (.int .i64))])], [(.tmp 0 true [(.dat (.int .i64)), (.dat (.int .i64)), (.dat (.int .i64)), (.dat (.list (.int .i64))), (.dat .bool), (.dat .bool)]), (.tmp 1 false [(.dat (.list (.pair (.int .u8) (.pair (.int .i64) (.pair (.int .i64) (.pair (.int .i64) (.int .i64)))))))]), (.tmp 2 false [(.dat (.int .u8))])], dialtoneref18_Ack⟩), (25, ⟨[(.tmp 0 true [(.dat (.int .i64)), (.dat (.int .i64)), (.dat (.int .i64)), (.dat (.list (.int .i64))), (.dat .bool), (.dat .bool)]), (.tmp 1 false [(.dat (.int .i64))])], [(.tmp 0 true [(.dat (.int .i64)), (.dat (.int .i64)), (.dat (.int .i64)), (.dat (.list (.int .i64))), (.dat .bool), (.dat .bool)]), (.tmp 1 false [(.dat (.list (.pair (.int .u8) (.pair (.int .i64) (.pair (.int .i64) (.pair (.int .i64) (.int .i64)))))))]), (.tmp 2 false [(.dat (.int .u8))])], dialtoneref18_Fire⟩), (23, ⟨[(.tmp 0 false [(.dat (.list (.pair (.int .u8) (.pair (.int .i64) (.pair (.int .i64) (.pair (.int .i64) (.int .i64)))))))]), (.tmp 1 false [(.dat (.list (.pair (.int .u8) (.pair (.int .i64) (.pair (.int .i64) (.pair (.int .i64) (.int .i64)))))))])], [(.tmp 0 false [(.dat .bool)])], dialtoneref18_Outs⟩), (18, ⟨[(.tmp 0 true [(.dat (.int .i64)), (.dat (.int .i64)), (.dat (.int .i64)), (.dat (.list (.int .i64))), (.dat .bool), (.dat .bool)])], [(.tmp 0 true [(.dat (.int .i64)), (.dat (.int .i64)), (.dat (.int .i64)), (.dat (.list (.int .i64))), (.dat .bool), (.dat .bool)])], dialtonelaw18_copied⟩)]
theorem cons8_ok : ConL Try.prog cons8 := ⟨clone_con, con37, con30, con31, con34, con14, con33, con20, con11, con12, con13, con35, con36, con19, con21, con38, con22, con24, con25, con23, con18, trivial⟩
theorem con8 : ConOk Try.prog 8 ⟨[(.tmp 0 false [(.dat (.int .i64))]), (.tmp 1 false [(.dat (.int .i64))])], [(.tmp 0 false [(.dat (.int .i64))]), (.tmp 1 false [(.dat .bool)])], provisional_Accept⟩ :=
  tree_ok (plan := planOf plan8) (eg := egNo) KK tabL_ok (conOf_ok cons8_ok) Try.func8 (by kernel_rfl) (by kernel_rfl) 10000 (fun a r h => Eq.trans (show _ = provisional_Accept a from by kernel_rfl) h)
end Go.Proofs.Ytonejiaiieiboaa
