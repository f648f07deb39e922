import Derived.Test.YtlaccfegaoaakaaJ5p
import Derived.Test.YtlaccfegaoaakaaZ8p
set_option linter.unusedVariables false
set_option linter.unusedSimpArgs false
set_option maxRecDepth 100000
set_option maxHeartbeats 4000000
namespace Go.Proofs.Ytlaccfegaoaakaa
open Go.RowKit
noncomputable def rn2 {γ : Type} (N : Int) : Option (List Int ⊕ γ) :=
 (joinO (bif (decide (N < (0 : Int))) then
 some (Sum.inl (Go.IntKind.wrap .i64 (N + (4294967296 : Int))))
 else
 some (Sum.inl N)) fun v50 =>
 joinO (bindO (some (Go.IntKind.wrap .i64 (Int.tdiv v50 (256 : Int)))) fun x53 =>
 bindO (some ((Go.IntKind.wrap .u8 (Int.tmod x53 (256 : Int))) :: ((Go.IntKind.wrap .u8 (Int.tmod v50 (256 : Int))) :: ([] : List Int)))) fun x56 =>
 bif (decide ((List.length x56) ≤ (List.length x56))) then 
 some (Sum.inl ((Go.IntKind.wrap .i64 (Int.tdiv x53 (256 : Int))), (List.take (List.length x56) x56)))
 else none) fun (v58, v59) =>
 bif (decide ((List.length v59) ≤ (List.length v59))) then 
 some (Sum.inl (List.take (List.length v59) v59))
 else none)
noncomputable def rn4 {γ : Type} (N : Int) : Option (List Int ⊕ γ) :=
 (joinO (bif (decide (N < (0 : Int))) then
 some (Sum.inl (Go.IntKind.wrap .i64 (N + (4294967296 : Int))))
 else
 some (Sum.inl N)) fun v82 =>
 joinO (bindO (some (Go.IntKind.wrap .i64 (Int.tdiv v82 (256 : Int)))) fun x85 =>
 bindO (some ((Go.IntKind.wrap .u8 (Int.tmod x85 (256 : Int))) :: ((Go.IntKind.wrap .u8 (Int.tmod v82 (256 : Int))) :: ([] : List Int)))) fun x88 =>
 bindO (some (Go.IntKind.wrap .i64 (Int.tdiv x85 (256 : Int)))) fun x89 =>
 bindO (some (Int.tmod x89 (256 : Int))) fun x90 =>
 bif ((decide ((List.length x88) ≤ (List.length x88))) && (decide ((1 = 0) ∨ ((List.length (List.take (List.length x88) x88)) ≠ 0)))) then 
 bif (decide (((List.length (((Go.IntKind.wrap .u8 x90) :: ([] : List Int)) ++ (List.take (List.length x88) x88))) * 1) ≤ 140737488355328)) then 
 bindO (some (((Go.IntKind.wrap .u8 x90) :: ([] : List Int)) ++ (List.take (List.length x88) x88))) fun x92 =>
 bindO (some (Go.IntKind.wrap .i64 (Int.tdiv x89 (256 : Int)))) fun x93 =>
 bindO (some (Int.tmod x93 (256 : Int))) fun x94 =>
 bif ((decide ((List.length x92) ≤ (List.length x92))) && (decide ((1 = 0) ∨ ((List.length (List.take (List.length x92) x92)) ≠ 0)))) then 
 bif (decide (((List.length (((Go.IntKind.wrap .u8 x94) :: ([] : List Int)) ++ (List.take (List.length x92) x92))) * 1) ≤ 140737488355328)) then 
 bindO (some (((Go.IntKind.wrap .u8 x94) :: ([] : List Int)) ++ (List.take (List.length x92) x92))) fun x96 =>
 bif (decide ((List.length x96) ≤ (List.length x96))) then 
 some (Sum.inl ((Go.IntKind.wrap .i64 (Int.tdiv x93 (256 : Int))), (List.take (List.length x96) x96)))
 else none
 else none
 else none
 else none
 else none) fun (v98, v99) =>
 bif (decide ((List.length v99) ≤ (List.length v99))) then 
 some (Sum.inl (List.take (List.length v99) v99))
 else none)
noncomputable def rn8 {γ : Type} (N : Int) : Option (List Int ⊕ γ) :=
 (joinO (bif (decide (N < (0 : Int))) then
 some (Sum.inl (Go.IntKind.wrap .i64 (N + (4294967296 : Int))))
 else
 some (Sum.inl N)) fun v14 =>
 joinO (bindO (some (Go.IntKind.wrap .i64 (Int.tdiv v14 (256 : Int)))) fun x17 =>
 bindO (some ((Go.IntKind.wrap .u8 (Int.tmod x17 (256 : Int))) :: ((Go.IntKind.wrap .u8 (Int.tmod v14 (256 : Int))) :: ([] : List Int)))) fun x20 =>
 bindO (some (Go.IntKind.wrap .i64 (Int.tdiv x17 (256 : Int)))) fun x21 =>
 bindO (some (Int.tmod x21 (256 : Int))) fun x22 =>
 bif ((decide ((List.length x20) ≤ (List.length x20))) && (decide ((1 = 0) ∨ ((List.length (List.take (List.length x20) x20)) ≠ 0)))) then 
 bif (decide (((List.length (((Go.IntKind.wrap .u8 x22) :: ([] : List Int)) ++ (List.take (List.length x20) x20))) * 1) ≤ 140737488355328)) then 
 bindO (some (((Go.IntKind.wrap .u8 x22) :: ([] : List Int)) ++ (List.take (List.length x20) x20))) fun x24 =>
 bindO (some (Go.IntKind.wrap .i64 (Int.tdiv x21 (256 : Int)))) fun x25 =>
 bindO (some (Int.tmod x25 (256 : Int))) fun x26 =>
 bif ((decide ((List.length x24) ≤ (List.length x24))) && (decide ((1 = 0) ∨ ((List.length (List.take (List.length x24) x24)) ≠ 0)))) then 
 bif (decide (((List.length (((Go.IntKind.wrap .u8 x26) :: ([] : List Int)) ++ (List.take (List.length x24) x24))) * 1) ≤ 140737488355328)) then 
 bindO (some (((Go.IntKind.wrap .u8 x26) :: ([] : List Int)) ++ (List.take (List.length x24) x24))) fun x28 =>
 bindO (some (Go.IntKind.wrap .i64 (Int.tdiv x25 (256 : Int)))) fun x29 =>
 bindO (some (Int.tmod x29 (256 : Int))) fun x30 =>
 bif ((decide ((List.length x28) ≤ (List.length x28))) && (decide ((1 = 0) ∨ ((List.length (List.take (List.length x28) x28)) ≠ 0)))) then 
 bif (decide (((List.length (((Go.IntKind.wrap .u8 x30) :: ([] : List Int)) ++ (List.take (List.length x28) x28))) * 1) ≤ 140737488355328)) then 
 bindO (some (((Go.IntKind.wrap .u8 x30) :: ([] : List Int)) ++ (List.take (List.length x28) x28))) fun x32 =>
 bindO (some (Go.IntKind.wrap .i64 (Int.tdiv x29 (256 : Int)))) fun x33 =>
 bindO (some (Int.tmod x33 (256 : Int))) fun x34 =>
 bif ((decide ((List.length x32) ≤ (List.length x32))) && (decide ((1 = 0) ∨ ((List.length (List.take (List.length x32) x32)) ≠ 0)))) then 
 bif (decide (((List.length (((Go.IntKind.wrap .u8 x34) :: ([] : List Int)) ++ (List.take (List.length x32) x32))) * 1) ≤ 140737488355328)) then 
 bindO (some (((Go.IntKind.wrap .u8 x34) :: ([] : List Int)) ++ (List.take (List.length x32) x32))) fun x36 =>
 bindO (some (Go.IntKind.wrap .i64 (Int.tdiv x33 (256 : Int)))) fun x37 =>
 bindO (some (Int.tmod x37 (256 : Int))) fun x38 =>
 bif ((decide ((List.length x36) ≤ (List.length x36))) && (decide ((1 = 0) ∨ ((List.length (List.take (List.length x36) x36)) ≠ 0)))) then 
 bif (decide (((List.length (((Go.IntKind.wrap .u8 x38) :: ([] : List Int)) ++ (List.take (List.length x36) x36))) * 1) ≤ 140737488355328)) then 
 bindO (some (((Go.IntKind.wrap .u8 x38) :: ([] : List Int)) ++ (List.take (List.length x36) x36))) fun x40 =>
 bindO (some (Go.IntKind.wrap .i64 (Int.tdiv x37 (256 : Int)))) fun x41 =>
 bindO (some (Int.tmod x41 (256 : Int))) fun x42 =>
 bif ((decide ((List.length x40) ≤ (List.length x40))) && (decide ((1 = 0) ∨ ((List.length (List.take (List.length x40) x40)) ≠ 0)))) then 
 bif (decide (((List.length (((Go.IntKind.wrap .u8 x42) :: ([] : List Int)) ++ (List.take (List.length x40) x40))) * 1) ≤ 140737488355328)) then 
 bindO (some (((Go.IntKind.wrap .u8 x42) :: ([] : List Int)) ++ (List.take (List.length x40) x40))) fun x44 =>
 bif (decide ((List.length x44) ≤ (List.length x44))) then 
 some (Sum.inl ((Go.IntKind.wrap .i64 (Int.tdiv x41 (256 : Int))), (List.take (List.length x44) x44)))
 else none
 else none
 else none
 else none
 else none
 else none
 else none
 else none
 else none
 else none
 else none
 else none
 else none) fun (v46, v47) =>
 bif (decide ((List.length v47) ≤ (List.length v47))) then 
 some (Sum.inl (List.take (List.length v47) v47))
 else none)
noncomputable def rcE {γ : Type} (a6 : List Ct) : (Int × List Int) → Option ((Int × List Int) ⊕ (List Int ⊕ γ)) :=
(fun (v165, v166) =>
 bif (decide (v165 < (((List.length a6) : Nat) : Int))) then
 bif (decide (((0 : Int) ≤ v165) ∧ (v165 < (((List.length a6) : Nat) : Int)))) then 
 bindO a6[(Int.toNat v165)]? fun x167 =>
 joinO (rn2 (((List.length x167.1) : Nat) : Int)) fun v179 =>
 bif (decide ((List.length v179) ≤ (List.length v179))) then 
 bif (decide (((List.length ((List.take (List.length v179) v179) ++ (List.map (fun (x180 : UInt8) => (((UInt8.toNat x180) : Nat) : Int)) x167.1))) * 1) ≤ 140737488355328)) then 
 bindO (some ((List.take (List.length v179) v179) ++ (List.map (fun (x182 : UInt8) => (((UInt8.toNat x182) : Nat) : Int)) x167.1))) fun x181 =>
 bif ((decide ((List.length x181) ≤ (List.length x181))) && (decide ((List.length v166) ≤ (List.length v166)))) then 
 bif (decide (((List.length ((List.take (List.length v166) v166) ++ (List.take (List.length x181) x181))) * 1) ≤ 140737488355328)) then 
 bindO (some ((List.take (List.length v166) v166) ++ (List.take (List.length x181) x181))) fun x183 =>
 bif (decide (((0 : Int) ≤ v165) ∧ (v165 < (((List.length a6) : Nat) : Int)))) then 
 bindO a6[(Int.toNat v165)]? fun x184 =>
 joinO (rn2 x184.2.1) fun v196 =>
 bif ((decide ((List.length v196) ≤ (List.length v196))) && (decide ((List.length x183) ≤ (List.length x183)))) then 
 bif (decide (((List.length ((List.take (List.length x183) x183) ++ (List.take (List.length v196) v196))) * 1) ≤ 140737488355328)) then 
 bindO (some ((List.take (List.length x183) x183) ++ (List.take (List.length v196) v196))) fun x197 =>
 bif (decide (((0 : Int) ≤ v165) ∧ (v165 < (((List.length a6) : Nat) : Int)))) then 
 bindO a6[(Int.toNat v165)]? fun x198 =>
 joinO (rn4 x198.2.2) fun v218 =>
 bif ((decide ((List.length v218) ≤ (List.length v218))) && (decide ((List.length x197) ≤ (List.length x197)))) then 
 bif (decide (((List.length ((List.take (List.length x197) x197) ++ (List.take (List.length v218) v218))) * 1) ≤ 140737488355328)) then 
 bindO (some ((List.take (List.length x197) x197) ++ (List.take (List.length v218) v218))) fun x219 =>
 bif (decide ((List.length x219) ≤ (List.length x219))) then 
 some (Sum.inl ((Go.IntKind.wrap .i64 (v165 + (1 : Int))), (List.take (List.length x219) x219)))
 else none
 else none
 else none
 else none
 else none
 else none
 else none
 else none
 else none
 else none
 else none
 else none
 else
 outO (bif (decide ((List.length v166) ≤ (List.length v166))) then 
 some (Sum.inl (List.take (List.length v166) v166))
 else none))
noncomputable def rpE {γ : Type} (a10 : List Tx) : (Int × List Int) → Option ((Int × List Int) ⊕ (List Int ⊕ γ)) :=
(fun (v224, v225) =>
 bif (decide (v224 < (((List.length a10) : Nat) : Int))) then
 bif (decide (((0 : Int) ≤ v224) ∧ (v224 < (((List.length a10) : Nat) : Int)))) then 
 bindO a10[(Int.toNat v224)]? fun x226 =>
 joinO (rn2 (((List.length x226) : Nat) : Int)) fun v238 =>
 bif (decide ((List.length v238) ≤ (List.length v238))) then 
 bif (decide (((List.length ((List.take (List.length v238) v238) ++ (List.map (fun (x239 : UInt8) => (((UInt8.toNat x239) : Nat) : Int)) x226))) * 1) ≤ 140737488355328)) then 
 bindO (some ((List.take (List.length v238) v238) ++ (List.map (fun (x241 : UInt8) => (((UInt8.toNat x241) : Nat) : Int)) x226))) fun x240 =>
 bif ((decide ((List.length x240) ≤ (List.length x240))) && (decide ((List.length v225) ≤ (List.length v225)))) then 
 bif (decide (((List.length ((List.take (List.length v225) v225) ++ (List.take (List.length x240) x240))) * 1) ≤ 140737488355328)) then 
 bindO (some ((List.take (List.length v225) v225) ++ (List.take (List.length x240) x240))) fun x242 =>
 bif (decide ((List.length x242) ≤ (List.length x242))) then 
 some (Sum.inl ((Go.IntKind.wrap .i64 (v224 + (1 : Int))), (List.take (List.length x242) x242)))
 else none
 else none
 else none
 else none
 else none
 else none
 else
 outO (bif (decide ((List.length v225) ≤ (List.length v225))) then 
 some (Sum.inl (List.take (List.length v225) v225))
 else none))
theorem encR_eq (a1 : Int) (a2 a3 : Tx) (a4 : Int) (a5 : Bool) (a6 : List Ct) (a7 : Int) (a8 : Tx) (a9 : Int) (a10 : List Tx) : encR (a1, (a2, (a3, (a4, (a5, (a6, (a7, (a8, (a9, a10))))))))) =

  bindO (dialtoneref22_Formed (a2, (a3, (a4, (a5, (a6, (a7, (a8, (a9, a10))))))))) fun x11 =>
  bif (!x11) then
   some (([] : List Int), (2 : Int))
  else
   bindO (dialtoneref22_within (a1, ((0 : Int), (1099511627776 : Int)))) fun x12 =>
   bif (!x12) then
    some (([] : List Int), (2 : Int))
   else
    joinO (rn8 a1) fun v48 =>
    joinO (rn2 (((List.length a2) : Nat) : Int)) fun v60 =>
    bif (decide ((List.length v60) ≤ (List.length v60))) then 
     bif (decide (((List.length ((List.take (List.length v60) v60) ++ (List.map (fun (x61 : UInt8) => (((UInt8.toNat x61) : Nat) : Int)) a2))) * 1) ≤ 140737488355328)) then 
      bindO (some ((List.take (List.length v60) v60) ++ (List.map (fun (x63 : UInt8) => (((UInt8.toNat x63) : Nat) : Int)) a2))) fun x62 =>
      bif ((decide ((List.length x62) ≤ (List.length x62))) && (decide ((List.length v48) ≤ (List.length v48)))) then 
       bif (decide (((List.length ((List.take (List.length v48) v48) ++ (List.take (List.length x62) x62))) * 1) ≤ 140737488355328)) then 
        bindO (some ((List.take (List.length v48) v48) ++ (List.take (List.length x62) x62))) fun x64 =>
        joinO (rn2 (((List.length a3) : Nat) : Int)) fun v76 =>
        bif (decide ((List.length v76) ≤ (List.length v76))) then 
         bif (decide (((List.length ((List.take (List.length v76) v76) ++ (List.map (fun (x77 : UInt8) => (((UInt8.toNat x77) : Nat) : Int)) a3))) * 1) ≤ 140737488355328)) then 
          bindO (some ((List.take (List.length v76) v76) ++ (List.map (fun (x79 : UInt8) => (((UInt8.toNat x79) : Nat) : Int)) a3))) fun x78 =>
          bif ((decide ((List.length x78) ≤ (List.length x78))) && (decide ((List.length x64) ≤ (List.length x64)))) then 
           bif (decide (((List.length ((List.take (List.length x64) x64) ++ (List.take (List.length x78) x78))) * 1) ≤ 140737488355328)) then 
            bindO (some ((List.take (List.length x64) x64) ++ (List.take (List.length x78) x78))) fun x80 =>
            joinO (rn4 a4) fun v100 =>
            bif ((decide ((List.length v100) ≤ (List.length v100))) && (decide ((List.length x80) ≤ (List.length x80)))) then 
             bif (decide (((List.length ((List.take (List.length x80) x80) ++ (List.take (List.length v100) v100))) * 1) ≤ 140737488355328)) then 
              bindO (some ((List.take (List.length x80) x80) ++ (List.take (List.length v100) v100))) fun x101 =>
              joinO (bif a5 then
                bif (decide ((List.length x101) ≤ (List.length x101))) then 
                 bif (decide (((List.length ((List.take (List.length x101) x101) ++ ((1 : Int) :: ([] : List Int)))) * 1) ≤ 140737488355328)) then 
                  bindO (some ((List.take (List.length x101) x101) ++ ((1 : Int) :: ([] : List Int)))) fun x102 =>
                  bif (decide ((List.length x102) ≤ (List.length x102))) then 
                   some (Sum.inl (List.take (List.length x102) x102))
                  else none
                 else none
                else none
               else
                bif (decide ((List.length x101) ≤ (List.length x101))) then 
                 bif (decide (((List.length ((List.take (List.length x101) x101) ++ ((0 : Int) :: ([] : List Int)))) * 1) ≤ 140737488355328)) then 
                  bindO (some ((List.take (List.length x101) x101) ++ ((0 : Int) :: ([] : List Int)))) fun x103 =>
                  bif (decide ((List.length x103) ≤ (List.length x103))) then 
                   some (Sum.inl (List.take (List.length x103) x103))
                  else none
                 else none
                else none) fun v104 =>
              joinO (rn4 a7) fun v124 =>
              bif ((decide ((List.length v124) ≤ (List.length v124))) && (decide ((List.length v104) ≤ (List.length v104)))) then 
               bif (decide (((List.length ((List.take (List.length v104) v104) ++ (List.take (List.length v124) v124))) * 1) ≤ 140737488355328)) then 
                bindO (some ((List.take (List.length v104) v104) ++ (List.take (List.length v124) v124))) fun x125 =>
                joinO (rn2 (((List.length a8) : Nat) : Int)) fun v137 =>
                bif (decide ((List.length v137) ≤ (List.length v137))) then 
                 bif (decide (((List.length ((List.take (List.length v137) v137) ++ (List.map (fun (x138 : UInt8) => (((UInt8.toNat x138) : Nat) : Int)) a8))) * 1) ≤ 140737488355328)) then 
                  bindO (some ((List.take (List.length v137) v137) ++ (List.map (fun (x140 : UInt8) => (((UInt8.toNat x140) : Nat) : Int)) a8))) fun x139 =>
                  bif ((decide ((List.length x139) ≤ (List.length x139))) && (decide ((List.length x125) ≤ (List.length x125)))) then 
                   bif (decide (((List.length ((List.take (List.length x125) x125) ++ (List.take (List.length x139) x139))) * 1) ≤ 140737488355328)) then 
                    bindO (some ((List.take (List.length x125) x125) ++ (List.take (List.length x139) x139))) fun x141 =>
                    joinO (rn4 a9) fun v161 =>
                    bif ((decide ((List.length v161) ≤ (List.length v161))) && (decide ((List.length x141) ≤ (List.length x141)))) then 
                     bif (decide (((List.length ((List.take (List.length x141) x141) ++ (List.take (List.length v161) v161))) * 1) ≤ 140737488355328)) then 
                      bindO (some ((List.take (List.length x141) x141) ++ (List.take (List.length v161) v161))) fun x162 =>
                      bindO (some (Go.IntKind.wrap .u8 (((List.length a6) : Nat) : Int))) fun x163 =>
                      bif (decide ((List.length x162) ≤ (List.length x162))) then 
                       bif (decide (((List.length ((List.take (List.length x162) x162) ++ (x163 :: ([] : List Int)))) * 1) ≤ 140737488355328)) then 
                        bindO (some ((List.take (List.length x162) x162) ++ (x163 :: ([] : List Int)))) fun x164 =>
                        joinO (bif (decide ((List.length x164) ≤ (List.length x164))) then 
                          loopO (rcE a6) ((0 : Int), (List.take (List.length x164) x164))
                         else none) fun v221 =>
                        bindO (some (Go.IntKind.wrap .u8 (((List.length a10) : Nat) : Int))) fun x222 =>
                        bif (decide ((List.length v221) ≤ (List.length v221))) then 
                         bif (decide (((List.length ((List.take (List.length v221) v221) ++ (x222 :: ([] : List Int)))) * 1) ≤ 140737488355328)) then 
                          bindO (some ((List.take (List.length v221) v221) ++ (x222 :: ([] : List Int)))) fun x223 =>
                          joinO (bif (decide ((List.length x223) ≤ (List.length x223))) then 
                            loopO (rpE a10) ((0 : Int), (List.take (List.length x223) x223))
                           else none) fun v244 =>
                          bif (decide ((((List.length v244) : Nat) : Int) > (4096 : Int))) then
                           some (([] : List Int), (4 : Int))
                          else
                           bif (decide ((List.length v244) ≤ (List.length v244))) then 
                            some ((List.take (List.length v244) v244), (0 : Int))
                           else none
                         else none
                        else none
                       else none
                      else none
                     else none
                    else none
                   else none
                  else none
                 else none
                else none
               else none
              else none
             else none
            else none
           else none
          else none
         else none
        else none
       else none
      else none
     else none
    else none := rfl
theorem tm_nn {a : Int} (h : 0 ≤ a) : Int.tmod a 256 = a % 256 := Int.tmod_eq_emod_of_nonneg h
theorem td_nn {a : Int} (h : 0 ≤ a) : Int.tdiv a 256 = a / 256 := Int.tdiv_eq_ediv_of_nonneg h
theorem wu8m (a : Int) : IntKind.wrap .u8 (a % 256) = a % 256 := by rw [wr_u8]; omega
theorem ne0 {α : Type} (x : α) (l : List α) : ((1 = 0) ∨ ((x :: l).length ≠ 0)) := .inr (by simp)
section
variable {γ : Type} {N : Int} (h : -1 ≤ N ∧ N ≤ 1099511627776)
include h
theorem u4_nn : 0 ≤ u4 N ∧ u4 N ≤ 1099511627776 := by unfold u4; split <;> omega
theorem u4_if : (bif decide (N < (0 : Int)) then (some (Sum.inl (IntKind.wrap .i64 (N + 4294967296))) : Option (Int ⊕ (List Int ⊕ γ))) else some (Sum.inl N)) = some (.inl (u4 N)) := by
  unfold u4
  by_cases g : N < 0
  · rw [decide_eq_true g, cond_true, wrap_i64' (by omega), if_pos g]
  · rw [decide_eq_false g, cond_false, if_neg g]
theorem rn2_j : rn2 (γ := γ) N = some (.inl (be (u4 N) 2)) := by
  have hn := u4_nn h
  unfold rn2
  rw [u4_if h, joinO_inl]
  generalize u4 N = n at hn
  simp (disch := (first | omega | (simp only [List.length_append, List.length_cons, List.length_nil, List.nil_append, List.length_take, List.length_drop]; omega))) only [↓bindO_some, ↓bindO_none, ↓joinO_inl, ↓joinO_inr, ↓joinO_none, ↓outO_some, ↓outO_none, ↓cond_true, ↓cond_false, ↓cond_and, ↓cond_or, ↓cond_not, ↓cond_ite, ↓if_pos, ↓if_neg, ↓if_true, ↓if_false, List.take_length, Nat.le_refl, Bool.not_true, Bool.not_false, tm_nn, td_nn, wrap_i64', wu8m]
  rfl
theorem rn4_j : rn4 (γ := γ) N = some (.inl (be (u4 N) 4)) := by
  have hn := u4_nn h
  unfold rn4
  rw [u4_if h, joinO_inl]
  generalize u4 N = n at hn
  simp (disch := (first | omega | (simp only [List.length_append, List.length_cons, List.length_nil, List.nil_append, List.length_take, List.length_drop]; omega))) only [↓bindO_some, ↓bindO_none, ↓joinO_inl, ↓joinO_inr, ↓joinO_none, ↓outO_some, ↓outO_none, ↓cond_true, ↓cond_false, ↓cond_and, ↓cond_or, ↓cond_not, ↓cond_ite, ↓if_pos, ↓if_neg, ↓if_true, ↓if_false, List.take_length, Nat.le_refl, Bool.not_true, Bool.not_false, tm_nn, td_nn, wrap_i64', wu8m, and_dec, if_pos, ne0, and_self, decide_true, Bool.and_self, List.length_cons, List.length_nil, List.cons_append, List.nil_append]
  rfl
theorem rn8_j : rn8 (γ := γ) N = some (.inl (be (u4 N) 8)) := by
  have hn := u4_nn h
  unfold rn8
  rw [u4_if h, joinO_inl]
  generalize u4 N = n at hn
  simp (disch := (first | omega | (simp only [List.length_append, List.length_cons, List.length_nil, List.nil_append, List.length_take, List.length_drop]; omega))) only [↓bindO_some, ↓bindO_none, ↓joinO_inl, ↓joinO_inr, ↓joinO_none, ↓outO_some, ↓outO_none, ↓cond_true, ↓cond_false, ↓cond_and, ↓cond_or, ↓cond_not, ↓cond_ite, ↓if_pos, ↓if_neg, ↓if_true, ↓if_false, List.take_length, Nat.le_refl, Bool.not_true, Bool.not_false, tm_nn, td_nn, wrap_i64', wu8m, and_dec, if_pos, ne0, and_self, decide_true, Bool.and_self, List.length_cons, List.length_nil, List.cons_append, List.nil_append]
  rfl
end
section
variable {γ : Type} {N : Int} (f : List Int → Option γ)
theorem rn2_b (h : 0 ≤ N ∧ N ≤ 1099511627776) : joinO (rn2 N) f = f (be N 2) := by
  rw [rn2_j ⟨by omega, h.2⟩, show u4 N = N from if_neg (by omega)]; rfl
theorem rn8_b (h : 0 ≤ N ∧ N ≤ 1099511627776) : joinO (rn8 N) f = f (be N 8) := by
  rw [rn8_j ⟨by omega, h.2⟩, show u4 N = N from if_neg (by omega)]; rfl
theorem rn4_b (h : -1 ≤ N ∧ N ≤ 1099511627776) : joinO (rn4 N) f = f (be (u4 N) 4) := by
  rw [rn4_j h]; rfl
end
theorem wu8n {a : Int} (h : 0 ≤ a ∧ a ≤ 255) : IntKind.wrap .u8 a = a := by rw [wr_u8]; omega
theorem rcE_j {γ : Type} (l : List Ct) (b : List Int) (hl : l.length ≤ 20) (hc : ∀ i, i < l.length → CW (l.getD i c0)) (hb : b.length ≤ 100000) : loopO (rcE (γ := γ) l) (0, b) = some (.inl (b ++ l.flatMap ec)) := by
  refine loopO_from (fun i => ((i : Int), b ++ (l.take i).flatMap ec)) l.length (by simp) (fun i hi => ?_) ?_
  · obtain ⟨x, hx, hxb⟩ := get_at c0 hi
    have hcw := hc i hi
    have ht := take_snoc l c0 hi
    rw [hx] at hcw ht
    obtain ⟨h1, h2, h3⟩ := hcw
    have hF : ((l.take i).flatMap ec).length ≤ 1010 * 20 := by
      refine Nat.le_trans (flat_len ec _ 1010 fun y hy => ?_) (Nat.mul_le_mul_left _ (by rw [List.length_take]; omega))
      obtain ⟨q, hq, rfl⟩ := List.getElem_of_mem hy
      rw [ec_len]
      have hq' : q < i ∧ q < l.length := by rw [List.length_take] at hq; omega
      have := (hc q hq'.2).1.2
      rw [getD_get c0 hq'.2] at this
      rw [List.getElem_take]
      omega
    have hfl : (l.take (i + 1)).flatMap ec = (l.take i).flatMap ec ++ ec x := by rw [ht, List.flatMap_append]; simp
    rw [hfl]
    generalize (l.take i).flatMap ec = F at hF ⊢
    have hu : x.1.length ≤ 1000 := by have := h1.2; omega
    unfold rcE
    simp (disch := (first | omega | (simp only [List.length_append, List.length_cons, List.length_nil, List.length_map, be_len]; omega))) only [↓bindO_some, ↓bindO_none, ↓joinO_inl, ↓joinO_inr, ↓joinO_none, ↓outO_some, ↓outO_none, ↓cond_true, ↓cond_false, ↓cond_and, ↓cond_or, ↓cond_not, ↓cond_ite, ↓if_pos, ↓if_neg, ↓if_true, ↓if_false, List.take_length, Nat.le_refl, Bool.not_true, Bool.not_false, if_pos, if_neg, ↓hxb, ↓rn2_b, ↓rn4_b, wrap_i64', nots, and_dec, and_self, decide_true, Bool.and_self]
    unfold ec et
    simp only [List.append_assoc, map_tb]
  · unfold rcE
    simp (disch := (first | omega | (simp only [List.length_append, List.length_cons, List.length_nil, List.nil_append, List.length_take, List.length_drop]; omega))) only [↓bindO_some, ↓bindO_none, ↓joinO_inl, ↓joinO_inr, ↓joinO_none, ↓outO_some, ↓outO_none, ↓cond_true, ↓cond_false, ↓cond_and, ↓cond_or, ↓cond_not, ↓cond_ite, ↓if_pos, ↓if_neg, ↓if_true, ↓if_false, List.take_length, Nat.le_refl, Bool.not_true, Bool.not_false, if_neg, List.take_length]
theorem rpE_j {γ : Type} (l : List Tx) (b : List Int) (hl : l.length ≤ 20) (hc : ∀ i, i < l.length → POK l i) (hb : b.length ≤ 100000) : loopO (rpE (γ := γ) l) (0, b) = some (.inl (b ++ l.flatMap et)) := by
  refine loopO_from (fun i => ((i : Int), b ++ (l.take i).flatMap et)) l.length (by simp) (fun i hi => ?_) ?_
  · obtain ⟨x, hx, hxb⟩ := get_at ([] : Tx) hi
    have hcw : Ln (l.getD i []).length 1000 := hc i hi
    have ht := take_snoc l [] hi
    rw [hx] at hcw ht
    have hF : ((l.take i).flatMap et).length ≤ 1010 * 20 := by
      refine Nat.le_trans (flat_len et _ 1010 fun y hy => ?_) (Nat.mul_le_mul_left _ (by rw [List.length_take]; omega))
      obtain ⟨q, hq, rfl⟩ := List.getElem_of_mem hy
      rw [et_len]
      have hq' : q < i ∧ q < l.length := by rw [List.length_take] at hq; omega
      have : Ln (l.getD q []).length 1000 := hc q hq'.2
      rw [getD_get [] hq'.2] at this
      rw [List.getElem_take]
      omega
    have hfl : (l.take (i + 1)).flatMap et = (l.take i).flatMap et ++ et x := by rw [ht, List.flatMap_append]; simp
    rw [hfl]
    generalize (l.take i).flatMap et = F at hF ⊢
    have hu : x.length ≤ 1000 := by have := hcw.2; omega
    unfold rpE
    simp (disch := (first | omega | (simp only [List.length_append, List.length_cons, List.length_nil, List.length_map, be_len]; omega))) only [↓bindO_some, ↓bindO_none, ↓joinO_inl, ↓joinO_inr, ↓joinO_none, ↓outO_some, ↓outO_none, ↓cond_true, ↓cond_false, ↓cond_and, ↓cond_or, ↓cond_not, ↓cond_ite, ↓if_pos, ↓if_neg, ↓if_true, ↓if_false, List.take_length, Nat.le_refl, Bool.not_true, Bool.not_false, if_pos, if_neg, ↓hxb, ↓rn2_b, wrap_i64', nots, and_dec, and_self, decide_true, Bool.and_self]
    unfold et
    simp only [List.append_assoc, map_tb]
  · unfold rpE
    simp (disch := (first | omega | (simp only [List.length_append, List.length_cons, List.length_nil, List.nil_append, List.length_take, List.length_drop]; omega))) only [↓bindO_some, ↓bindO_none, ↓joinO_inl, ↓joinO_inr, ↓joinO_none, ↓outO_some, ↓outO_none, ↓cond_true, ↓cond_false, ↓cond_and, ↓cond_or, ↓cond_not, ↓cond_ite, ↓if_pos, ↓if_neg, ↓if_true, ↓if_false, List.take_length, Nat.le_refl, Bool.not_true, Bool.not_false, if_neg, List.take_length]
theorem rcE_b {γ : Type} (l : List Ct) (b : List Int) (f : List Int → Option γ) (hl : l.length ≤ 20) (hc : ∀ i, i < l.length → CW (l.getD i c0)) (hb : b.length ≤ 100000) : joinO (loopO (rcE l) (0, b)) f = f (b ++ l.flatMap ec) := by rw [rcE_j l b hl hc hb]; rfl
theorem rpE_b {γ : Type} (l : List Tx) (b : List Int) (f : List Int → Option γ) (hl : l.length ≤ 20) (hc : ∀ i, i < l.length → POK l i) (hb : b.length ≤ 100000) : joinO (loopO (rpE l) (0, b)) f = f (b ++ l.flatMap et) := by rw [rpE_j l b hl hc hb]; rfl
open Classical in
theorem formR_b {β : Type} (a1 a2 : Tx) (a3 : Int) (a4 : Bool) (a5 : List Ct) (a6 : Int) (a7 : Tx) (a8 : Int) (a9 : List Tx) (k : Bool → Option β) : bindO (dialtoneref22_Formed (a1, (a2, (a3, (a4, (a5, (a6, (a7, (a8, a9))))))))) k = k (decide (FM a1 a2 a3 a4 a5 a6 a7 a8 a9)) := by
  rcases formedR_j a1 a2 a3 a4 a5 a6 a7 a8 a9 with ⟨h, e⟩ | ⟨h, e⟩
  · obtain ⟨⟨q1, q2⟩, ⟨⟨⟨q3, q4⟩, q5⟩, q6, q7⟩, ⟨q8, q9⟩, q10⟩ := h
    rw [e, decide_eq_true (show FM a1 a2 a3 a4 a5 a6 a7 a8 a9 from ⟨q1, ⟨q2, q3, q9⟩, q4, q6, q7, q8, q5, q10⟩)]; rfl
  · rw [e, decide_eq_false (show ¬ FM a1 a2 a3 a4 a5 a6 a7 a8 a9 from fun ⟨q1, ⟨q2, q3, q9⟩, q4, q6, q7, q8, q5, q10⟩ => h ⟨⟨q1, q2⟩, ⟨⟨⟨q3, q4⟩, q5⟩, q6, q7⟩, ⟨q8, q9⟩, q10⟩)]; rfl
open Classical in
theorem formR_t {β : Type} {a1 a2 : Tx} {a3 : Int} {a4 : Bool} {a5 : List Ct} {a6 : Int} {a7 : Tx} {a8 : Int} {a9 : List Tx} (k : Bool → Option β) (h : FM a1 a2 a3 a4 a5 a6 a7 a8 a9) : bindO (dialtoneref22_Formed (a1, (a2, (a3, (a4, (a5, (a6, (a7, (a8, a9))))))))) k = k true := by rw [formR_b, decide_eq_true h]
section
variable {γ : Type} (x v : List Int) (F : List Int → Option γ) (hx : x.length ≤ 100000) (hv : v.length ≤ 1000)
include hx
theorem byte_step (c : Int) : (bif decide (List.length x ≤ List.length x) then bif decide ((List.length (List.take (List.length x) x ++ (c :: []))) * 1 ≤ 140737488355328) then bindO (some (List.take (List.length x) x ++ (c :: []))) F else none else none) = F (x ++ [c]) := by
  simp (disch := (first | omega | (simp only [List.length_append, List.length_cons, List.length_nil, List.nil_append, List.length_take, List.length_drop]; omega))) only [↓bindO_some, ↓bindO_none, ↓joinO_inl, ↓joinO_inr, ↓joinO_none, ↓outO_some, ↓outO_none, ↓cond_true, ↓cond_false, ↓cond_and, ↓cond_or, ↓cond_not, ↓cond_ite, ↓if_pos, ↓if_neg, ↓if_true, ↓if_false, List.take_length, Nat.le_refl, Bool.not_true, Bool.not_false, if_pos]
theorem rc_step (l : List Ct) (hl : l.length ≤ 20) (hc : ∀ i, i < l.length → CW (l.getD i c0)) : joinO (bif decide (List.length x ≤ List.length x) then loopO (rcE l) ((0 : Int), List.take (List.length x) x) else none) F = F (x ++ l.flatMap ec) := by
  simp (disch := (first | omega | (simp only [List.length_append, List.length_cons, List.length_nil, List.nil_append, List.length_take, List.length_drop]; omega))) only [↓bindO_some, ↓bindO_none, ↓joinO_inl, ↓joinO_inr, ↓joinO_none, ↓outO_some, ↓outO_none, ↓cond_true, ↓cond_false, ↓cond_and, ↓cond_or, ↓cond_not, ↓cond_ite, ↓if_pos, ↓if_neg, ↓if_true, ↓if_false, List.take_length, Nat.le_refl, Bool.not_true, Bool.not_false, if_pos]
  exact rcE_b l x F hl hc hx
theorem rp_step (l : List Tx) (hl : l.length ≤ 20) (hc : ∀ i, i < l.length → POK l i) : joinO (bif decide (List.length x ≤ List.length x) then loopO (rpE l) ((0 : Int), List.take (List.length x) x) else none) F = F (x ++ l.flatMap et) := by
  simp (disch := (first | omega | (simp only [List.length_append, List.length_cons, List.length_nil, List.nil_append, List.length_take, List.length_drop]; omega))) only [↓bindO_some, ↓bindO_none, ↓joinO_inl, ↓joinO_inr, ↓joinO_none, ↓outO_some, ↓outO_none, ↓cond_true, ↓cond_false, ↓cond_and, ↓cond_or, ↓cond_not, ↓cond_ite, ↓if_pos, ↓if_neg, ↓if_true, ↓if_false, List.take_length, Nat.le_refl, Bool.not_true, Bool.not_false, if_pos]
  exact rpE_b l x F hl hc hx
include hv
theorem num_step : (bif (decide (List.length v ≤ List.length v) && decide (List.length x ≤ List.length x)) then bif decide ((List.length (List.take (List.length x) x ++ List.take (List.length v) v)) * 1 ≤ 140737488355328) then bindO (some (List.take (List.length x) x ++ List.take (List.length v) v)) F else none else none) = F (x ++ v) := by
  simp (disch := (first | omega | (simp only [List.length_append, List.length_cons, List.length_nil, List.nil_append, List.length_take, List.length_drop]; omega))) only [↓bindO_some, ↓bindO_none, ↓joinO_inl, ↓joinO_inr, ↓joinO_none, ↓outO_some, ↓outO_none, ↓cond_true, ↓cond_false, ↓cond_and, ↓cond_or, ↓cond_not, ↓cond_ite, ↓if_pos, ↓if_neg, ↓if_true, ↓if_false, List.take_length, Nat.le_refl, Bool.not_true, Bool.not_false, if_pos]
theorem tx_step (s : Tx) (hs : s.length ≤ 1000) : (bif decide (List.length v ≤ List.length v) then bif decide ((List.length (List.take (List.length v) v ++ List.map (fun (x : UInt8) => (((UInt8.toNat x) : Nat) : Int)) s)) * 1 ≤ 140737488355328) then bindO (some (List.take (List.length v) v ++ List.map (fun (x : UInt8) => (((UInt8.toNat x) : Nat) : Int)) s)) (fun y => bif (decide (List.length y ≤ List.length y) && decide (List.length x ≤ List.length x)) then bif decide ((List.length (List.take (List.length x) x ++ List.take (List.length y) y)) * 1 ≤ 140737488355328) then bindO (some (List.take (List.length x) x ++ List.take (List.length y) y)) F else none else none) else none else none) = F (x ++ (v ++ tb s)) := by
  simp (disch := (first | omega | (simp only [List.length_append, List.length_map]; omega))) only [↓bindO_some, ↓bindO_none, ↓joinO_inl, ↓joinO_inr, ↓joinO_none, ↓outO_some, ↓outO_none, ↓cond_true, ↓cond_false, ↓cond_and, ↓cond_or, ↓cond_not, ↓cond_ite, ↓if_pos, ↓if_neg, ↓if_true, ↓if_false, List.take_length, Nat.le_refl, Bool.not_true, Bool.not_false, if_pos]
  rfl
end
theorem encR_j {now : Int} {a1 a2 : Tx} {a3 : Int} {a4 : Bool} {a5 : List Ct} {a6 : Int} {a7 : Tx} {a8 : Int} {a9 : List Tx} (h : EOK now a1 a2 a3 a4 a5 a6 a7 a8 a9) :
    encR (now, (a1, (a2, (a3, (a4, (a5, (a6, (a7, (a8, a9))))))))) = some (if ((ENC now a1 a2 a3 a4 a5 a6 a7 a8 a9).length : Int) > 4096 then ([], 4) else (ENC now a1 a2 a3 a4 a5 a6 a7 a8 a9, 0)) := by
  rw [encR_eq]
  obtain ⟨hF, n0, n1⟩ := h
  obtain ⟨⟨f1, f2, f3⟩, ⟨f4, f5, f6⟩, f7, f8, f9, f10, f11, f12⟩ := id hF
  have hn : 0 ≤ now ∧ now ≤ 1099511627776 := ⟨n0, n1⟩
  have l1 : a1.length ≤ 255 := by have := f1.2; omega
  have l2 : a2.length ≤ 255 := by have := f2.2; omega
  have g5 := flat_ec f5 (fun i hi => (f11 i hi).1)
  have g9 := flat_et (l := a9) (by omega) f12
  have hec : ∀ i, i < a5.length → CW (a5.getD i c0) := fun i hi => (f11 i hi).1
  have e5 : IntKind.wrap .u8 (a5.length : Int) = (a5.length : Int) := wu8n (by omega)
  have e9 : IntKind.wrap .u8 (a9.length : Int) = (a9.length : Int) := wu8n (by omega)
  have e3 : u4 a3 = a3 := if_neg (by omega)
  have e8 : u4 a8 = a8 := if_neg (by omega)
  have key : ∀ (X Y : List Int), X = Y → (bif decide (((X.length : Nat) : Int) > 4096) then some (([] : List Int), (4 : Int)) else bif decide (List.length X ≤ List.length X) then some (List.take (List.length X) X, 0) else none) = some (if ((Y.length : Nat) : Int) > 4096 then ([], 4) else (Y, 0)) := fun X Y e => by
    subst e
    simp only [↓bindO_some, ↓bindO_none, ↓joinO_inl, ↓joinO_inr, ↓joinO_none, ↓outO_some, ↓outO_none, ↓cond_true, ↓cond_false, ↓cond_and, ↓cond_or, ↓cond_not, ↓cond_ite, ↓if_pos, ↓if_neg, ↓if_true, ↓if_false, List.take_length, Nat.le_refl, Bool.not_true, Bool.not_false]
    split <;> rfl
  rw [formR_t _ hF]
  simp only [Bool.not_true, cond_false]
  rw [withinR_b, decide_eq_true hn]
  simp only [Bool.not_true, cond_false]
  rw [rn8_b _ hn]
  obtain ⟨B0, hB0, mB0⟩ : ∃ B, B = be now 8 ∧ B.length ≤ 1000 := ⟨_, rfl, by rw [be_len]; omega⟩
  rw [← hB0]
  rw [rn2_b _ (by omega)]
  obtain ⟨V1, hV1, kV1⟩ : ∃ B, B = be (a1.length : Int) 2 ∧ B.length ≤ 1000 := ⟨_, rfl, by rw [be_len]; omega⟩
  rw [← hV1]
  refine (tx_step B0 V1 _ (by omega) kV1 a1 (by omega)).trans ?_
  obtain ⟨B1, hB1, mB1⟩ : ∃ B, B = B0 ++ (V1 ++ tb a1) ∧ B.length ≤ 3000 := ⟨_, rfl, by simp only [List.length_append, tb_len, List.length_cons, List.length_nil]; omega⟩
  rw [← hB1]
  rw [rn2_b _ (by omega)]
  obtain ⟨V2, hV2, kV2⟩ : ∃ B, B = be (a2.length : Int) 2 ∧ B.length ≤ 1000 := ⟨_, rfl, by rw [be_len]; omega⟩
  rw [← hV2]
  refine (tx_step B1 V2 _ (by omega) kV2 a2 (by omega)).trans ?_
  obtain ⟨B2, hB2, mB2⟩ : ∃ B, B = B1 ++ (V2 ++ tb a2) ∧ B.length ≤ 6000 := ⟨_, rfl, by simp only [List.length_append, tb_len, List.length_cons, List.length_nil]; omega⟩
  rw [← hB2]
  rw [rn4_b _ (by omega), e3]
  obtain ⟨V3, hV3, kV3⟩ : ∃ B, B = be a3 4 ∧ B.length ≤ 1000 := ⟨_, rfl, by rw [be_len]; omega⟩
  rw [← hV3]
  refine (num_step B2 V3 _ (by omega) kV3).trans ?_
  obtain ⟨B3, hB3, mB3⟩ : ∃ B, B = B2 ++ V3 ∧ B.length ≤ 7000 := ⟨_, rfl, by simp only [List.length_append, tb_len, List.length_cons, List.length_nil]; omega⟩
  rw [← hB3]
  have hst : ∀ {γ : Type}, (bif a4 then (bif decide (List.length B3 ≤ List.length B3) then bif decide ((List.length (List.take (List.length B3) B3 ++ ((1 : Int) :: []))) * 1 ≤ 140737488355328) then bindO (some (List.take (List.length B3) B3 ++ ((1 : Int) :: []))) (fun x102 => bif decide (List.length x102 ≤ List.length x102) then some (Sum.inl (List.take (List.length x102) x102)) else none) else none else none) else (bif decide (List.length B3 ≤ List.length B3) then bif decide ((List.length (List.take (List.length B3) B3 ++ ((0 : Int) :: []))) * 1 ≤ 140737488355328) then bindO (some (List.take (List.length B3) B3 ++ ((0 : Int) :: []))) (fun x103 => bif decide (List.length x103 ≤ List.length x103) then some (Sum.inl (List.take (List.length x103) x103)) else none) else none else none) : Option (List Int ⊕ γ)) = some (.inl (B3 ++ [if a4 = true then 1 else 0])) := fun {γ} => by
    cases a4 with
    | true => rw [cond_true, byte_step B3 _ (by omega)]; simp only [↓bindO_some, ↓bindO_none, ↓joinO_inl, ↓joinO_inr, ↓joinO_none, ↓outO_some, ↓outO_none, ↓cond_true, ↓cond_false, ↓cond_and, ↓cond_or, ↓cond_not, ↓cond_ite, ↓if_pos, ↓if_neg, ↓if_true, ↓if_false, List.take_length, Nat.le_refl, Bool.not_true, Bool.not_false]
    | false => rw [cond_false, byte_step B3 _ (by omega)]; simp only [↓bindO_some, ↓bindO_none, ↓joinO_inl, ↓joinO_inr, ↓joinO_none, ↓outO_some, ↓outO_none, ↓cond_true, ↓cond_false, ↓cond_and, ↓cond_or, ↓cond_not, ↓cond_ite, ↓if_pos, ↓if_neg, ↓if_true, ↓if_false, List.take_length, Nat.le_refl, Bool.not_true, Bool.not_false, Bool.false_eq_true]
  refine joinO_eq hst ?_
  obtain ⟨B4, hB4, mB4⟩ : ∃ B, B = B3 ++ [if a4 = true then (1 : Int) else 0] ∧ B.length ≤ 8000 := ⟨_, rfl, by simp only [List.length_append, tb_len, List.length_cons, List.length_nil]; omega⟩
  rw [← hB4]
  rw [rn4_b _ (by omega)]
  obtain ⟨V5, hV5, kV5⟩ : ∃ B, B = be (u4 a6) 4 ∧ B.length ≤ 1000 := ⟨_, rfl, by rw [be_len]; omega⟩
  rw [← hV5]
  refine (num_step B4 V5 _ (by omega) kV5).trans ?_
  obtain ⟨B5, hB5, mB5⟩ : ∃ B, B = B4 ++ V5 ∧ B.length ≤ 9000 := ⟨_, rfl, by simp only [List.length_append, tb_len, List.length_cons, List.length_nil]; omega⟩
  rw [← hB5]
  rw [rn2_b _ (by omega)]
  obtain ⟨V6, hV6, kV6⟩ : ∃ B, B = be (a7.length : Int) 2 ∧ B.length ≤ 1000 := ⟨_, rfl, by rw [be_len]; omega⟩
  rw [← hV6]
  refine (tx_step B5 V6 _ (by omega) kV6 a7 (by omega)).trans ?_
  obtain ⟨B6, hB6, mB6⟩ : ∃ B, B = B5 ++ (V6 ++ tb a7) ∧ B.length ≤ 12000 := ⟨_, rfl, by simp only [List.length_append, tb_len, List.length_cons, List.length_nil]; omega⟩
  rw [← hB6]
  rw [rn4_b _ (by omega), e8]
  obtain ⟨V7, hV7, kV7⟩ : ∃ B, B = be a8 4 ∧ B.length ≤ 1000 := ⟨_, rfl, by rw [be_len]; omega⟩
  rw [← hV7]
  refine (num_step B6 V7 _ (by omega) kV7).trans ?_
  obtain ⟨B7, hB7, mB7⟩ : ∃ B, B = B6 ++ V7 ∧ B.length ≤ 13000 := ⟨_, rfl, by simp only [List.length_append, tb_len, List.length_cons, List.length_nil]; omega⟩
  rw [← hB7]
  rw [bindO_some, e5]
  refine (byte_step B7 _ (by omega) _).trans ?_
  obtain ⟨B8, hB8, mB8⟩ : ∃ B, B = B7 ++ [(a5.length : Int)] ∧ B.length ≤ 14000 := ⟨_, rfl, by simp only [List.length_append, tb_len, List.length_cons, List.length_nil]; omega⟩
  rw [← hB8]
  refine (rc_step B8 _ (by omega) a5 f5 hec).trans ?_
  obtain ⟨B9, hB9, mB9⟩ : ∃ B, B = B8 ++ a5.flatMap ec ∧ B.length ≤ 40000 := ⟨_, rfl, by simp only [List.length_append, tb_len, List.length_cons, List.length_nil]; omega⟩
  rw [← hB9]
  rw [bindO_some, e9]
  refine (byte_step B9 _ (by omega) _).trans ?_
  obtain ⟨C0, hC0, mC0⟩ : ∃ B, B = B9 ++ [(a9.length : Int)] ∧ B.length ≤ 41000 := ⟨_, rfl, by simp only [List.length_append, tb_len, List.length_cons, List.length_nil]; omega⟩
  rw [← hC0]
  refine (rp_step C0 _ (by omega) a9 (by omega) f12).trans ?_
  refine key _ _ ?_
  subst hC0 hB9 hB8 hB7 hV7 hB6 hV6 hB5 hV5 hB4 hB3 hV3 hB2 hV2 hB1 hV1 hB0
  unfold ENC et
  simp only [List.append_assoc]
theorem encR_no {now : Int} {a1 a2 : Tx} {a3 : Int} {a4 : Bool} {a5 : List Ct} {a6 : Int} {a7 : Tx} {a8 : Int} {a9 : List Tx} (h : ¬ EOK now a1 a2 a3 a4 a5 a6 a7 a8 a9) :
    encR (now, (a1, (a2, (a3, (a4, (a5, (a6, (a7, (a8, a9))))))))) = some ([], 2) := by
  rw [encR_eq]
  by_cases hF : FM a1 a2 a3 a4 a5 a6 a7 a8 a9
  · have h0 : ¬ (0 ≤ now ∧ now ≤ 1099511627776) := fun g => h ⟨hF, g⟩
    simp only [↓bindO_some, ↓bindO_none, ↓joinO_inl, ↓joinO_inr, ↓joinO_none, ↓outO_some, ↓outO_none, ↓cond_true, ↓cond_false, ↓cond_and, ↓cond_or, ↓cond_not, ↓cond_ite, ↓if_pos, ↓if_neg, ↓if_true, ↓if_false, List.take_length, Nat.le_refl, Bool.not_true, Bool.not_false, ↓formR_b, ↓withinR_b, hF, h0, decide_true, decide_false]
  · simp only [↓bindO_some, ↓bindO_none, ↓joinO_inl, ↓joinO_inr, ↓joinO_none, ↓outO_some, ↓outO_none, ↓cond_true, ↓cond_false, ↓cond_and, ↓cond_or, ↓cond_not, ↓cond_ite, ↓if_pos, ↓if_neg, ↓if_true, ↓if_false, List.take_length, Nat.le_refl, Bool.not_true, Bool.not_false, ↓formR_b, hF, decide_false]
end Go.Proofs.Ytlaccfegaoaakaa
