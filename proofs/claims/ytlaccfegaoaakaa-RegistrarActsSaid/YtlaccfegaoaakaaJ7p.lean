import Derived.Test.YtlaccfegaoaakaaJ5p
set_option linter.unusedVariables false
set_option linter.unusedSimpArgs false
set_option maxRecDepth 100000
set_option maxHeartbeats 4000000
namespace Go.Proofs.Ytlaccfegaoaakaa
open Go.RowKit
abbrev RS := List Int × Int
abbrev Rr := Tx × (Tx × (Int × (Bool × (List Ct × (Int × (Tx × Int))))))
abbrev Rg9 := Tx × (Tx × (Int × (Bool × (List Ct × (Int × (Tx × (Int × List Tx)))))))
noncomputable def vlB {γ : Type} (L R : List Int) (E : Int) : (Int × Int) → Option ((Int × Int) ⊕ ((Int × RS) ⊕ γ)) := 
(fun (v92, v93) =>
 bif (decide (v92 < (((List.length L) : Nat) : Int))) then
 bif (decide (((0 : Int) ≤ v92) ∧ (v92 < (((List.length L) : Nat) : Int)))) then 
 bindO L[(Int.toNat v92)]? fun x94 =>
 some (Sum.inl ((Go.IntKind.wrap .i64 (v92 + (1 : Int))), (Go.IntKind.wrap .u64 (((BitVec.toNat ((BitVec.ofInt 64 (Go.IntKind.wrap .u64 (v93 * (256 : Int)))) ||| (BitVec.ofInt 64 (Go.IntKind.wrap .u64 x94)))) : Nat) : Int))))
 else none
 else
 outO (some (Sum.inl (v93, (R, E)))))
noncomputable def dn1 {γ : Type} (R : List Int) (E : Int) : Option ((Int × RS) ⊕ γ) :=
 (joinO (joinO (bif (decide (E ≠ (0 : Int))) then
 some (Sum.inl (([] : List Int), (R, (6 : Int))))
 else
 bif (decide ((((List.length R) : Nat) : Int) < (1 : Int))) then
 some (Sum.inl (([] : List Int), (R, (6 : Int))))
 else
 bif ((decide (((0 : Int) ≤ (1 : Int)) ∧ ((1 : Int) ≤ (((List.length R) : Nat) : Int)))) && Bool.true) then 
 bif (decide (((0 : Int) ≤ (1 : Int)) ∧ ((1 : Int) ≤ (((List.length R) : Nat) : Int)))) then 
 some (Sum.inl ((List.take 1 R), ((List.drop 1 R), E)))
 else none
 else none) fun (v89, (v90, v91)) =>
 loopO (vlB v89 v90 v91) ((0 : Int), (0 : Int))) fun (v99, (v100, v101)) =>
 some (Sum.inl (v99, (v100, v101))))
noncomputable def dn2 {γ : Type} (R : List Int) (E : Int) : Option ((Int × RS) ⊕ γ) :=
 (joinO (joinO (bif (decide (E ≠ (0 : Int))) then
 some (Sum.inl (([] : List Int), (R, (6 : Int))))
 else
 bif (decide ((((List.length R) : Nat) : Int) < (2 : Int))) then
 some (Sum.inl (([] : List Int), (R, (6 : Int))))
 else
 bif ((decide (((0 : Int) ≤ (2 : Int)) ∧ ((2 : Int) ≤ (((List.length R) : Nat) : Int)))) && Bool.true) then 
 bif (decide (((0 : Int) ≤ (2 : Int)) ∧ ((2 : Int) ≤ (((List.length R) : Nat) : Int)))) then 
 some (Sum.inl ((List.take 2 R), ((List.drop 2 R), E)))
 else none
 else none) fun (v22, (v23, v24)) =>
 loopO (vlB v22 v23 v24) ((0 : Int), (0 : Int))) fun (v32, (v33, v34)) =>
 some (Sum.inl (v32, (v33, v34))))
noncomputable def dn4 {γ : Type} (R : List Int) (E : Int) : Option ((Int × RS) ⊕ γ) :=
 (joinO (joinO (bif (decide (E ≠ (0 : Int))) then
 some (Sum.inl (([] : List Int), (R, (6 : Int))))
 else
 bif (decide ((((List.length R) : Nat) : Int) < (4 : Int))) then
 some (Sum.inl (([] : List Int), (R, (6 : Int))))
 else
 bif ((decide (((0 : Int) ≤ (4 : Int)) ∧ ((4 : Int) ≤ (((List.length R) : Nat) : Int)))) && Bool.true) then 
 bif (decide (((0 : Int) ≤ (4 : Int)) ∧ ((4 : Int) ≤ (((List.length R) : Nat) : Int)))) then 
 some (Sum.inl ((List.take 4 R), ((List.drop 4 R), E)))
 else none
 else none) fun (v70, (v71, v72)) =>
 loopO (vlB v70 v71 v72) ((0 : Int), (0 : Int))) fun (v80, (v81, v82)) =>
 some (Sum.inl (v80, (v81, v82))))
noncomputable def dt {γ : Type} (N : Int) (R : List Int) (E : Int) : Option ((List Int × RS) ⊕ γ) :=
 (bif (decide (E ≠ (0 : Int))) then
 some (Sum.inl (([] : List Int), (R, (6 : Int))))
 else
 bif (decide ((((List.length R) : Nat) : Int) < (Go.IntKind.wrap .i64 N))) then
 some (Sum.inl (([] : List Int), (R, (6 : Int))))
 else
 bif ((decide (((0 : Int) ≤ (Go.IntKind.wrap .i64 N)) ∧ ((Go.IntKind.wrap .i64 N) ≤ (((List.length R) : Nat) : Int)))) && (decide (((0 : Int) ≤ (Go.IntKind.wrap .i64 N)) ∧ ((Go.IntKind.wrap .i64 N) ≤ (((Int.toNat (Go.IntKind.wrap .i64 N)) : Nat) : Int))))) then 
 bif (decide (((0 : Int) ≤ (Go.IntKind.wrap .i64 N)) ∧ ((Go.IntKind.wrap .i64 N) ≤ (((List.length R) : Nat) : Int)))) then 
 some (Sum.inl ((List.take (Int.toNat (Go.IntKind.wrap .i64 N)) R), ((List.drop (Int.toNat (Go.IntKind.wrap .i64 N)) R), E)))
 else none
 else none)
noncomputable def dz8 {γ : Type} (R : List Int) : Option ((Int × RS) ⊕ γ) :=
 (joinO (joinO (bif (decide ((((List.length R) : Nat) : Int) < (8 : Int))) then
 some (Sum.inl (([] : List Int), (R, (6 : Int))))
 else
 bif ((decide (((0 : Int) ≤ (8 : Int)) ∧ ((8 : Int) ≤ (((List.length R) : Nat) : Int)))) && Bool.true) then 
 bif (decide (((0 : Int) ≤ (8 : Int)) ∧ ((8 : Int) ≤ (((List.length R) : Nat) : Int)))) then 
 some (Sum.inl ((List.take 8 R), ((List.drop 8 R), (0 : Int))))
 else none
 else none) fun (v4, (v5, v6)) =>
 loopO (vlB v4 v5 v6) ((0 : Int), (0 : Int))) fun (v14, (v15, v16)) =>
 some (Sum.inl (v14, (v15, v16))))
noncomputable def dcB {γ : Type} (v182 : Int) : (Int × (Rr × RS)) → Option ((Int × (Rr × RS)) ⊕ ((Rr × RS) ⊕ γ)) :=
(fun (v185, ((v186, (v187, (v188, (v189, (v190, (v191, (v192, v193))))))), (v194, v195))) =>
 bif (decide (v185 < v182)) then
 joinO (dn2 v194 v195) fun (v211, (v212, v213)) =>
 joinO (dt v211 v212 v213) fun (v217, (v218, v219)) =>
 joinO (dn2 v218 v219) fun (v235, (v236, v237)) =>
 joinO (dn4 v236 v237) fun (v254, (v255, v256)) =>
 bindO (registrar_signed v254) fun x257 =>
 bif (decide ((List.length v190) ≤ (List.length v190))) then 
 bif (decide (((List.length ((List.take (List.length v190) v190) ++ (((bytesU v217), ((Go.IntKind.wrap .i64 v235), x257)) :: ([] : List ((List UInt8) × (Int × Int)))))) * 32) ≤ 140737488355328)) then 
 bindO (some ((List.take (List.length v190) v190) ++ (((bytesU v217), ((Go.IntKind.wrap .i64 v235), x257)) :: ([] : List ((List UInt8) × (Int × Int)))))) fun x258 =>
 bif (decide ((List.length x258) ≤ (List.length x258))) then 
 some (Sum.inl ((Go.IntKind.wrap .u64 (v185 + (1 : Int))), ((v186, (v187, (v188, (v189, ((List.take (List.length x258) x258), (v191, (v192, v193))))))), (v255, v256))))
 else none
 else none
 else none
 else
 outO (bif (decide ((List.length v190) ≤ (List.length v190))) then 
 some (Sum.inl ((v186, (v187, (v188, (v189, ((List.take (List.length v190) v190), (v191, (v192, v193))))))), (v194, v195)))
 else none))
noncomputable def dpB {γ : Type} (v285 : Int) : (Int × (Rg9 × RS)) → Option ((Int × (Rg9 × RS)) ⊕ ((Rg9 × RS) ⊕ γ)) :=
(fun (v288, ((v289, (v290, (v291, (v292, (v293, (v294, (v295, (v296, v297)))))))), (v298, v299))) =>
 bif (decide (v288 < v285)) then
 joinO (dn2 v298 v299) fun (v315, (v316, v317)) =>
 joinO (dt v315 v316 v317) fun (v321, (v322, v323)) =>
 bif (decide ((List.length v297) ≤ (List.length v297))) then 
 bif (decide (((List.length ((List.take (List.length v297) v297) ++ ((bytesU v321) :: ([] : List (List UInt8))))) * 16) ≤ 140737488355328)) then 
 bindO (some ((List.take (List.length v297) v297) ++ ((bytesU v321) :: ([] : List (List UInt8))))) fun x324 =>
 bif ((decide ((List.length v293) ≤ (List.length v293))) && (decide ((List.length x324) ≤ (List.length x324)))) then 
 some (Sum.inl ((Go.IntKind.wrap .u64 (v288 + (1 : Int))), ((v289, (v290, (v291, (v292, ((List.take (List.length v293) v293), (v294, (v295, (v296, (List.take (List.length x324) x324))))))))), (v322, v323))))
 else none
 else none
 else none
 else
 outO (bif ((decide ((List.length v293) ≤ (List.length v293))) && (decide ((List.length v297) ≤ (List.length v297)))) then 
 some (Sum.inl ((v289, (v290, (v291, (v292, ((List.take (List.length v293) v293), (v294, (v295, (v296, (List.take (List.length v297) v297))))))))), (v298, v299)))
 else none))
theorem decP_eq (a1 : List Int) : registrar_DecodeAct a1 =

  joinO (dz8 a1) fun (v17, (v18, v19)) =>
  joinO (dn2 v18 v19) fun (v35, (v36, v37)) =>
  joinO (dt v35 v36 v37) fun (v41, (v42, v43)) =>
  joinO (dn2 v42 v43) fun (v59, (v60, v61)) =>
  joinO (dt v59 v60 v61) fun (v65, (v66, v67)) =>
  joinO (dn4 v66 v67) fun (v83, (v84, v85)) =>
  bindO (registrar_signed v83) fun x86 =>
  joinO (dn1 v84 v85) fun (v102, (v103, v104)) =>
  joinO (dn4 v103 v104) fun (v120, (v121, v122)) =>
  bindO (registrar_signed v120) fun x123 =>
  joinO (dn2 v121 v122) fun (v139, (v140, v141)) =>
  joinO (dt v139 v140 v141) fun (v145, (v146, v147)) =>
  joinO (dn4 v146 v147) fun (v163, (v164, v165)) =>
  bindO (registrar_signed v163) fun x166 =>
  joinO (joinO (dn1 v164 v165) fun (v182, (v183, v184)) =>
   loopO (dcB v182) ((0 : Int), (((bytesU v41), ((bytesU v65), (x86, ((decide (v102 = (1 : Int))), (([] : List ((List UInt8) × (Int × Int))), (x123, ((bytesU v145), x166))))))), (v183, v184)))) fun ((v260, (v261, (v262, (v263, (v264, (v265, (v266, v267))))))), (v268, v269)) =>
  joinO (joinO (dn1 v268 v269) fun (v285, (v286, v287)) =>
   bif (decide ((List.length v264) ≤ (List.length v264))) then 
    loopO (dpB v285) ((0 : Int), ((v260, (v261, (v262, (v263, ((List.take (List.length v264) v264), (v265, (v266, (v267, ([] : List (List UInt8)))))))))), (v286, v287)))
   else none) fun ((v326, (v327, (v328, (v329, (v330, (v331, (v332, (v333, v334)))))))), (v335, v336)) =>
  bif (decide (v336 ≠ (0 : Int))) then
   some ((0 : Int), ((([] : List UInt8), (([] : List UInt8), ((0 : Int), (Bool.false, (([] : List ((List UInt8) × (Int × Int))), ((0 : Int), (([] : List UInt8), ((0 : Int), ([] : List (List UInt8)))))))))), v336))
  else
   bif (decide ((((List.length v335) : Nat) : Int) > (0 : Int))) then
    some ((0 : Int), ((([] : List UInt8), (([] : List UInt8), ((0 : Int), (Bool.false, (([] : List ((List UInt8) × (Int × Int))), ((0 : Int), (([] : List UInt8), ((0 : Int), ([] : List (List UInt8)))))))))), (5 : Int)))
   else
    bif (decide (v102 > (1 : Int))) then
     some ((0 : Int), ((([] : List UInt8), (([] : List UInt8), ((0 : Int), (Bool.false, (([] : List ((List UInt8) × (Int × Int))), ((0 : Int), (([] : List UInt8), ((0 : Int), ([] : List (List UInt8)))))))))), (5 : Int)))
    else
     bif (decide (v17 > (1099511627776 : Int))) then
      some ((0 : Int), ((([] : List UInt8), (([] : List UInt8), ((0 : Int), (Bool.false, (([] : List ((List UInt8) × (Int × Int))), ((0 : Int), (([] : List UInt8), ((0 : Int), ([] : List (List UInt8)))))))))), (5 : Int)))
     else
      bif ((decide ((List.length v330) ≤ (List.length v330))) && (decide ((List.length v334) ≤ (List.length v334)))) then 
       bindO (registrar_Formed (v326, (v327, (v328, (v329, ((List.take (List.length v330) v330), (v331, (v332, (v333, (List.take (List.length v334) v334)))))))))) fun x337 =>
       bif (!x337) then
        some ((0 : Int), ((([] : List UInt8), (([] : List UInt8), ((0 : Int), (Bool.false, (([] : List ((List UInt8) × (Int × Int))), ((0 : Int), (([] : List UInt8), ((0 : Int), ([] : List (List UInt8)))))))))), (5 : Int)))
       else
        bif ((decide ((List.length v330) ≤ (List.length v330))) && (decide ((List.length v334) ≤ (List.length v334)))) then 
         some ((Go.IntKind.wrap .i64 v17), ((v326, (v327, (v328, (v329, ((List.take (List.length v330) v330), (v331, (v332, (v333, (List.take (List.length v334) v334))))))))), (0 : Int)))
        else none
      else none := rfl
def num (k : Nat) (r : List Int) (e : Int) : Int × RS := if e ≠ 0 ∨ r.length < k then (0, (r, 6)) else (val (r.take k), (r.drop k, e))
def txt (n : Int) (r : List Int) (e : Int) : List Int × RS := if e ≠ 0 ∨ (r.length : Int) < n then ([], (r, 6)) else (r.take n.toNat, (r.drop n.toNat, e))
theorem or_byte {x y : Int} (hx : 0 ≤ x ∧ x * 256 + 255 < 18446744073709551616) (hy : 0 ≤ y ∧ y ≤ 255) : IntKind.wrap .u64 (((BitVec.toNat ((BitVec.ofInt 64 (IntKind.wrap .u64 (x * (256 : Int)))) ||| (BitVec.ofInt 64 (IntKind.wrap .u64 y)))) : Nat) : Int) = x * 256 + y := by
  obtain ⟨a, rfl⟩ := Int.eq_ofNat_of_zero_le hx.1
  obtain ⟨b, rfl⟩ := Int.eq_ofNat_of_zero_le hy.1
  rw [wr_u64, wr_u64, wr_u64, Int.emod_eq_of_lt (a := (b : Int)) (by omega) (by omega), Int.emod_eq_of_lt (a := (a : Int) * 256) (by omega) (by omega)]
  rw [BitVec.toNat_or, show ((a : Int) * 256) = ((a * 256 : Nat) : Int) from by omega, BitVec.ofInt_natCast, BitVec.ofInt_natCast, BitVec.toNat_ofNat, BitVec.toNat_ofNat, Nat.mod_eq_of_lt (by omega), Nat.mod_eq_of_lt (by omega)]
  have := Nat.shiftLeft_add_eq_or_of_lt (i := 8) (b := b) (by omega) a
  rw [Nat.shiftLeft_eq] at this
  rw [← this]
  omega
theorem vl_j {γ : Type} (L R : List Int) (E : Int) (hL : By L) (hl : L.length ≤ 8) : loopO (vlB (γ := γ) L R E) (0, 0) = some (.inl (val L, (R, E))) := by
  refine loopO_from (fun i => ((i : Int), val (L.take i))) L.length rfl (fun i hi => ?_) ?_
  · obtain ⟨x, hx, hxb⟩ := get_at (0 : Int) hi
    have ht := take_snoc L 0 hi
    rw [hx] at ht
    have hb : By (L.take i) := fun y hy => hL y (List.mem_of_mem_take hy)
    have hx8 : 0 ≤ x ∧ x ≤ 255 := by rw [← hx, getD_get 0 hi]; exact hL _ (List.getElem_mem hi)
    have hr := val_rng hb
    have hlt : (L.take i).length ≤ 7 := by rw [List.length_take]; omega
    have hp : (256 : Int) ^ (L.take i).length ≤ 256 ^ 7 := by
      have := Nat.pow_le_pow_right (show 0 < 256 by decide) hlt
      exact_mod_cast this
    have h7 : (256 : Int) ^ 7 = 72057594037927936 := by decide
    have hv : val (L.take (i + 1)) = val (L.take i) * 256 + x := by rw [ht, val_snoc]
    simp only [hv]
    generalize val (L.take i) = V at hr ⊢
    have ho := or_byte (x := V) (y := x) ⟨by omega, by omega⟩ hx8
    unfold vlB
    simp (disch := (first | omega | (simp only [List.length_append, List.length_cons, List.length_nil, List.nil_append, List.length_take, List.length_drop]; omega))) only [↓bindO_some, ↓bindO_none, ↓joinO_inl, ↓joinO_inr, ↓joinO_none, ↓outO_some, ↓outO_none, ↓cond_true, ↓cond_false, ↓cond_and, ↓cond_or, ↓cond_not, ↓cond_ite, ↓if_pos, ↓if_neg, ↓if_true, ↓if_false, List.take_length, Nat.le_refl, Bool.not_true, Bool.not_false, if_pos, if_neg, ↓hxb, wrap_i64', nots, ho]
  · unfold vlB
    simp (disch := (first | omega | (simp only [List.length_append, List.length_cons, List.length_nil, List.nil_append, List.length_take, List.length_drop]; omega))) only [↓bindO_some, ↓bindO_none, ↓joinO_inl, ↓joinO_inr, ↓joinO_none, ↓outO_some, ↓outO_none, ↓cond_true, ↓cond_false, ↓cond_and, ↓cond_or, ↓cond_not, ↓cond_ite, ↓if_pos, ↓if_neg, ↓if_true, ↓if_false, List.take_length, Nat.le_refl, Bool.not_true, Bool.not_false, if_neg, List.take_length]
section
variable {γ : Type} {R : List Int} {E : Int} (hR : By R) (hl : R.length ≤ 100000)
include hR hl
theorem dn1_j : dn1 (γ := γ) R E = some (.inl (num 1 R E)) := by
  unfold dn1 num
  by_cases h0 : E = 0
  · by_cases h1 : R.length < 1
    · rw [if_pos (.inr h1)]
      have hv : ∀ δ, loopO (vlB (γ := δ) [] R 6) (0, 0) = some (.inl (0, (R, 6))) := fun δ => vl_j [] R 6 (fun x hx => by cases hx) (by simp)
      have h1' : (R.length : Int) < 1 := by omega
      simp (disch := (first | omega | (simp only [List.length_append, List.length_cons, List.length_nil, List.nil_append, List.length_take, List.length_drop]; omega))) only [↓bindO_some, ↓bindO_none, ↓joinO_inl, ↓joinO_inr, ↓joinO_none, ↓outO_some, ↓outO_none, ↓cond_true, ↓cond_false, ↓cond_and, ↓cond_or, ↓cond_not, ↓cond_ite, ↓if_pos, ↓if_neg, ↓if_true, ↓if_false, List.take_length, Nat.le_refl, Bool.not_true, Bool.not_false, h0, ne_eq, not_true_eq_false, decide_false, h1', decide_true, hv]
    · rw [if_neg (by rintro (h | h); exact h h0; exact h1 h)]
      have hv : ∀ δ, loopO (vlB (γ := δ) (R.take 1) (R.drop 1) E) (0, 0) = some (.inl (val (R.take 1), (R.drop 1, E))) := fun δ => vl_j (R.take 1) (R.drop 1) E (fun x hx => hR x (List.mem_of_mem_take hx)) (by rw [List.length_take]; omega)
      have h1' : ¬ (R.length : Int) < 1 := by omega
      simp (disch := (first | omega | (simp only [List.length_append, List.length_cons, List.length_nil, List.nil_append, List.length_take, List.length_drop]; omega))) only [↓bindO_some, ↓bindO_none, ↓joinO_inl, ↓joinO_inr, ↓joinO_none, ↓outO_some, ↓outO_none, ↓cond_true, ↓cond_false, ↓cond_and, ↓cond_or, ↓cond_not, ↓cond_ite, ↓if_pos, ↓if_neg, ↓if_true, ↓if_false, List.take_length, Nat.le_refl, Bool.not_true, Bool.not_false, h0, ne_eq, not_true_eq_false, decide_false, h1', if_pos, decide_true, Bool.and_true]
      rw [h0] at hv
      simp only [hv, ↓bindO_some, ↓bindO_none, ↓joinO_inl, ↓joinO_inr, ↓joinO_none, ↓outO_some, ↓outO_none, ↓cond_true, ↓cond_false, ↓cond_and, ↓cond_or, ↓cond_not, ↓cond_ite, ↓if_pos, ↓if_neg, ↓if_true, ↓if_false, List.take_length, Nat.le_refl, Bool.not_true, Bool.not_false]
  · rw [if_pos (.inl h0)]
    have hv : ∀ δ, loopO (vlB (γ := δ) [] R 6) (0, 0) = some (.inl (0, (R, 6))) := fun δ => vl_j [] R 6 (fun x hx => by cases hx) (by simp)
    simp (disch := (first | omega | (simp only [List.length_append, List.length_cons, List.length_nil, List.nil_append, List.length_take, List.length_drop]; omega))) only [↓bindO_some, ↓bindO_none, ↓joinO_inl, ↓joinO_inr, ↓joinO_none, ↓outO_some, ↓outO_none, ↓cond_true, ↓cond_false, ↓cond_and, ↓cond_or, ↓cond_not, ↓cond_ite, ↓if_pos, ↓if_neg, ↓if_true, ↓if_false, List.take_length, Nat.le_refl, Bool.not_true, Bool.not_false, h0, ne_eq, not_false_iff, decide_true, hv]
theorem dn2_j : dn2 (γ := γ) R E = some (.inl (num 2 R E)) := by
  unfold dn2 num
  by_cases h0 : E = 0
  · by_cases h1 : R.length < 2
    · rw [if_pos (.inr h1)]
      have hv : ∀ δ, loopO (vlB (γ := δ) [] R 6) (0, 0) = some (.inl (0, (R, 6))) := fun δ => vl_j [] R 6 (fun x hx => by cases hx) (by simp)
      have h1' : (R.length : Int) < 2 := by omega
      simp (disch := (first | omega | (simp only [List.length_append, List.length_cons, List.length_nil, List.nil_append, List.length_take, List.length_drop]; omega))) only [↓bindO_some, ↓bindO_none, ↓joinO_inl, ↓joinO_inr, ↓joinO_none, ↓outO_some, ↓outO_none, ↓cond_true, ↓cond_false, ↓cond_and, ↓cond_or, ↓cond_not, ↓cond_ite, ↓if_pos, ↓if_neg, ↓if_true, ↓if_false, List.take_length, Nat.le_refl, Bool.not_true, Bool.not_false, h0, ne_eq, not_true_eq_false, decide_false, h1', decide_true, hv]
    · rw [if_neg (by rintro (h | h); exact h h0; exact h1 h)]
      have hv : ∀ δ, loopO (vlB (γ := δ) (R.take 2) (R.drop 2) E) (0, 0) = some (.inl (val (R.take 2), (R.drop 2, E))) := fun δ => vl_j (R.take 2) (R.drop 2) E (fun x hx => hR x (List.mem_of_mem_take hx)) (by rw [List.length_take]; omega)
      have h1' : ¬ (R.length : Int) < 2 := by omega
      simp (disch := (first | omega | (simp only [List.length_append, List.length_cons, List.length_nil, List.nil_append, List.length_take, List.length_drop]; omega))) only [↓bindO_some, ↓bindO_none, ↓joinO_inl, ↓joinO_inr, ↓joinO_none, ↓outO_some, ↓outO_none, ↓cond_true, ↓cond_false, ↓cond_and, ↓cond_or, ↓cond_not, ↓cond_ite, ↓if_pos, ↓if_neg, ↓if_true, ↓if_false, List.take_length, Nat.le_refl, Bool.not_true, Bool.not_false, h0, ne_eq, not_true_eq_false, decide_false, h1', if_pos, decide_true, Bool.and_true]
      rw [h0] at hv
      simp only [hv, ↓bindO_some, ↓bindO_none, ↓joinO_inl, ↓joinO_inr, ↓joinO_none, ↓outO_some, ↓outO_none, ↓cond_true, ↓cond_false, ↓cond_and, ↓cond_or, ↓cond_not, ↓cond_ite, ↓if_pos, ↓if_neg, ↓if_true, ↓if_false, List.take_length, Nat.le_refl, Bool.not_true, Bool.not_false]
  · rw [if_pos (.inl h0)]
    have hv : ∀ δ, loopO (vlB (γ := δ) [] R 6) (0, 0) = some (.inl (0, (R, 6))) := fun δ => vl_j [] R 6 (fun x hx => by cases hx) (by simp)
    simp (disch := (first | omega | (simp only [List.length_append, List.length_cons, List.length_nil, List.nil_append, List.length_take, List.length_drop]; omega))) only [↓bindO_some, ↓bindO_none, ↓joinO_inl, ↓joinO_inr, ↓joinO_none, ↓outO_some, ↓outO_none, ↓cond_true, ↓cond_false, ↓cond_and, ↓cond_or, ↓cond_not, ↓cond_ite, ↓if_pos, ↓if_neg, ↓if_true, ↓if_false, List.take_length, Nat.le_refl, Bool.not_true, Bool.not_false, h0, ne_eq, not_false_iff, decide_true, hv]
theorem dn4_j : dn4 (γ := γ) R E = some (.inl (num 4 R E)) := by
  unfold dn4 num
  by_cases h0 : E = 0
  · by_cases h1 : R.length < 4
    · rw [if_pos (.inr h1)]
      have hv : ∀ δ, loopO (vlB (γ := δ) [] R 6) (0, 0) = some (.inl (0, (R, 6))) := fun δ => vl_j [] R 6 (fun x hx => by cases hx) (by simp)
      have h1' : (R.length : Int) < 4 := by omega
      simp (disch := (first | omega | (simp only [List.length_append, List.length_cons, List.length_nil, List.nil_append, List.length_take, List.length_drop]; omega))) only [↓bindO_some, ↓bindO_none, ↓joinO_inl, ↓joinO_inr, ↓joinO_none, ↓outO_some, ↓outO_none, ↓cond_true, ↓cond_false, ↓cond_and, ↓cond_or, ↓cond_not, ↓cond_ite, ↓if_pos, ↓if_neg, ↓if_true, ↓if_false, List.take_length, Nat.le_refl, Bool.not_true, Bool.not_false, h0, ne_eq, not_true_eq_false, decide_false, h1', decide_true, hv]
    · rw [if_neg (by rintro (h | h); exact h h0; exact h1 h)]
      have hv : ∀ δ, loopO (vlB (γ := δ) (R.take 4) (R.drop 4) E) (0, 0) = some (.inl (val (R.take 4), (R.drop 4, E))) := fun δ => vl_j (R.take 4) (R.drop 4) E (fun x hx => hR x (List.mem_of_mem_take hx)) (by rw [List.length_take]; omega)
      have h1' : ¬ (R.length : Int) < 4 := by omega
      simp (disch := (first | omega | (simp only [List.length_append, List.length_cons, List.length_nil, List.nil_append, List.length_take, List.length_drop]; omega))) only [↓bindO_some, ↓bindO_none, ↓joinO_inl, ↓joinO_inr, ↓joinO_none, ↓outO_some, ↓outO_none, ↓cond_true, ↓cond_false, ↓cond_and, ↓cond_or, ↓cond_not, ↓cond_ite, ↓if_pos, ↓if_neg, ↓if_true, ↓if_false, List.take_length, Nat.le_refl, Bool.not_true, Bool.not_false, h0, ne_eq, not_true_eq_false, decide_false, h1', if_pos, decide_true, Bool.and_true]
      rw [h0] at hv
      simp only [hv, ↓bindO_some, ↓bindO_none, ↓joinO_inl, ↓joinO_inr, ↓joinO_none, ↓outO_some, ↓outO_none, ↓cond_true, ↓cond_false, ↓cond_and, ↓cond_or, ↓cond_not, ↓cond_ite, ↓if_pos, ↓if_neg, ↓if_true, ↓if_false, List.take_length, Nat.le_refl, Bool.not_true, Bool.not_false]
  · rw [if_pos (.inl h0)]
    have hv : ∀ δ, loopO (vlB (γ := δ) [] R 6) (0, 0) = some (.inl (0, (R, 6))) := fun δ => vl_j [] R 6 (fun x hx => by cases hx) (by simp)
    simp (disch := (first | omega | (simp only [List.length_append, List.length_cons, List.length_nil, List.nil_append, List.length_take, List.length_drop]; omega))) only [↓bindO_some, ↓bindO_none, ↓joinO_inl, ↓joinO_inr, ↓joinO_none, ↓outO_some, ↓outO_none, ↓cond_true, ↓cond_false, ↓cond_and, ↓cond_or, ↓cond_not, ↓cond_ite, ↓if_pos, ↓if_neg, ↓if_true, ↓if_false, List.take_length, Nat.le_refl, Bool.not_true, Bool.not_false, h0, ne_eq, not_false_iff, decide_true, hv]
theorem dz8_j : dz8 (γ := γ) R = some (.inl (num 8 R 0)) := by
  unfold dz8 num
  by_cases h1 : R.length < 8
  · rw [if_pos (.inr h1)]
    have hv : ∀ δ, loopO (vlB (γ := δ) [] R 6) (0, 0) = some (.inl (0, (R, 6))) := fun δ => vl_j [] R 6 (fun x hx => by cases hx) (by simp)
    have h1' : (R.length : Int) < 8 := by omega
    simp (disch := (first | omega | (simp only [List.length_append, List.length_cons, List.length_nil, List.nil_append, List.length_take, List.length_drop]; omega))) only [↓bindO_some, ↓bindO_none, ↓joinO_inl, ↓joinO_inr, ↓joinO_none, ↓outO_some, ↓outO_none, ↓cond_true, ↓cond_false, ↓cond_and, ↓cond_or, ↓cond_not, ↓cond_ite, ↓if_pos, ↓if_neg, ↓if_true, ↓if_false, List.take_length, Nat.le_refl, Bool.not_true, Bool.not_false, h1', decide_true, hv]
  · rw [if_neg (by rintro (h | h); exact h rfl; exact h1 h)]
    have hv : ∀ δ, loopO (vlB (γ := δ) (R.take 8) (R.drop 8) 0) (0, 0) = some (.inl (val (R.take 8), (R.drop 8, 0))) := fun δ => vl_j (R.take 8) (R.drop 8) 0 (fun x hx => hR x (List.mem_of_mem_take hx)) (by rw [List.length_take]; omega)
    have h1' : ¬ (R.length : Int) < 8 := by omega
    simp (disch := (first | omega | (simp only [List.length_append, List.length_cons, List.length_nil, List.nil_append, List.length_take, List.length_drop]; omega))) only [↓bindO_some, ↓bindO_none, ↓joinO_inl, ↓joinO_inr, ↓joinO_none, ↓outO_some, ↓outO_none, ↓cond_true, ↓cond_false, ↓cond_and, ↓cond_or, ↓cond_not, ↓cond_ite, ↓if_pos, ↓if_neg, ↓if_true, ↓if_false, List.take_length, Nat.le_refl, Bool.not_true, Bool.not_false, h1', if_pos, decide_true, decide_false, Bool.and_true]
    simp only [hv, ↓bindO_some, ↓bindO_none, ↓joinO_inl, ↓joinO_inr, ↓joinO_none, ↓outO_some, ↓outO_none, ↓cond_true, ↓cond_false, ↓cond_and, ↓cond_or, ↓cond_not, ↓cond_ite, ↓if_pos, ↓if_neg, ↓if_true, ↓if_false, List.take_length, Nat.le_refl, Bool.not_true, Bool.not_false]
end
theorem dt_j {γ : Type} {R : List Int} {N E : Int} (hN : 0 ≤ N ∧ N ≤ 65535) (hl : R.length ≤ 100000) : dt (γ := γ) N R E = some (.inl (txt N R E)) := by
  have hw : IntKind.wrap .i64 N = N := wrap_i64' (by omega)
  unfold dt txt
  rw [hw]
  by_cases h0 : E = 0
  · by_cases h1 : (R.length : Int) < N
    · rw [if_pos (.inr h1)]
      simp (disch := (first | omega | (simp only [List.length_append, List.length_cons, List.length_nil, List.nil_append, List.length_take, List.length_drop]; omega))) only [↓bindO_some, ↓bindO_none, ↓joinO_inl, ↓joinO_inr, ↓joinO_none, ↓outO_some, ↓outO_none, ↓cond_true, ↓cond_false, ↓cond_and, ↓cond_or, ↓cond_not, ↓cond_ite, ↓if_pos, ↓if_neg, ↓if_true, ↓if_false, List.take_length, Nat.le_refl, Bool.not_true, Bool.not_false, h0, ne_eq, not_true_eq_false, decide_false, h1, decide_true]
    · rw [if_neg (by rintro (h | h); exact h h0; exact h1 h)]
      have hnn : ((N.toNat : Nat) : Int) = N := by omega
      simp (disch := (first | omega | (simp only [List.length_append, List.length_cons, List.length_nil, List.nil_append, List.length_take, List.length_drop]; omega))) only [↓bindO_some, ↓bindO_none, ↓joinO_inl, ↓joinO_inr, ↓joinO_none, ↓outO_some, ↓outO_none, ↓cond_true, ↓cond_false, ↓cond_and, ↓cond_or, ↓cond_not, ↓cond_ite, ↓if_pos, ↓if_neg, ↓if_true, ↓if_false, List.take_length, Nat.le_refl, Bool.not_true, Bool.not_false, h0, ne_eq, not_true_eq_false, decide_false, h1, hnn, if_pos, and_dec, decide_true]
  · rw [if_pos (.inl h0)]
    simp (disch := (first | omega | (simp only [List.length_append, List.length_cons, List.length_nil, List.nil_append, List.length_take, List.length_drop]; omega))) only [↓bindO_some, ↓bindO_none, ↓joinO_inl, ↓joinO_inr, ↓joinO_none, ↓outO_some, ↓outO_none, ↓cond_true, ↓cond_false, ↓cond_and, ↓cond_or, ↓cond_not, ↓cond_ite, ↓if_pos, ↓if_neg, ↓if_true, ↓if_false, List.take_length, Nat.le_refl, Bool.not_true, Bool.not_false, h0, ne_eq, not_false_iff, decide_true]
end Go.Proofs.Ytlaccfegaoaakaa
