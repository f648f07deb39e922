import Derived.Test.YtheicchelhjcjaaJ18p
import Derived.Test.YtheicchelhjcjaaZ6p
set_option linter.unusedVariables false
set_option linter.unusedSimpArgs false
set_option maxRecDepth 100000
namespace Go.Proofs.Ytheicchelhjcjaa
open Go.RowKit
abbrev Rt := List In × (List Ac × Fk)
noncomputable def ruB {ρ : Type} (a1 : List Tg) : (Int × List (List UInt8)) → Option ((Int × List (List UInt8)) ⊕ ((List (List UInt8)) ⊕ (Rs ⊕ ρ))) :=
(fun (v3, v4) =>
 bif (decide (v3 < (((List.length a1) : Nat) : Int))) then
 bif (decide (((0 : Int) ≤ v3) ∧ (v3 < (((List.length a1) : Nat) : Int)))) then 
 bindO a1[(Int.toNat v3)]? fun x5 =>
 joinO (bif (decide (x5.1 = ([] : List UInt8))) then
 outO (outO (outO (some (Sum.inl ((([] : List ((List UInt8) × (Int × (Int × Int)))), ((0 : Int), (Bool.false, (Bool.false, Bool.false)))), (([] : List (Int × (Int × Int))), (2 : Int)))))))
 else
 bif (decide (x5.2 < (0 : Int))) then
 outO (outO (outO (some (Sum.inl ((([] : List ((List UInt8) × (Int × (Int × Int)))), ((0 : Int), (Bool.false, (Bool.false, Bool.false)))), (([] : List (Int × (Int × Int))), (2 : Int)))))))
 else
 bif (decide (x5.2 > (1000 : Int))) then
 outO (outO (outO (some (Sum.inl ((([] : List ((List UInt8) × (Int × (Int × Int)))), ((0 : Int), (Bool.false, (Bool.false, Bool.false)))), (([] : List (Int × (Int × Int))), (2 : Int)))))))
 else
 some (Sum.inl ())) fun _ =>
 bif (decide (Membership.mem v4 x5.1)) then
 outO (outO (some (Sum.inl ((([] : List ((List UInt8) × (Int × (Int × Int)))), ((0 : Int), (Bool.false, (Bool.false, Bool.false)))), (([] : List (Int × (Int × Int))), (7 : Int))))))
 else
 some (Sum.inl ((Go.IntKind.wrap .i64 (v3 + (1 : Int))), (addK v4 x5.1)))
 else none
 else
 outO (some (Sum.inl v4)))
noncomputable def rbB {ρ : Type} (a1 : List Tg) : (Int × Nst) → Option ((Int × Nst) ⊕ (Nst ⊕ ρ)) :=
(fun (v8, (v9, (v10, (v11, (v12, v13))))) =>
 bif (decide (v8 < (((List.length a1) : Nat) : Int))) then
 bif (decide (((0 : Int) ≤ v8) ∧ (v8 < (((List.length a1) : Nat) : Int)))) then 
 bindO a1[(Int.toNat v8)]? fun x14 =>
 bif (decide ((List.length v9) ≤ (List.length v9))) then 
 bif (decide (((List.length ((List.take (List.length v9) v9) ++ ((x14.1, (x14.2, ((0 : Int), (0 : Int)))) :: ([] : List ((List UInt8) × (Int × (Int × Int))))))) * 40) ≤ 140737488355328)) then 
 bindO (some ((List.take (List.length v9) v9) ++ ((x14.1, (x14.2, ((0 : Int), (0 : Int)))) :: ([] : List ((List UInt8) × (Int × (Int × Int))))))) fun x15 =>
 bif (decide ((List.length x15) ≤ (List.length x15))) then 
 some (Sum.inl ((Go.IntKind.wrap .i64 (v8 + (1 : Int))), ((List.take (List.length x15) x15), (v10, (v11, (v12, v13))))))
 else none
 else none
 else none
 else none
 else
 outO (bif (decide ((List.length v9) ≤ (List.length v9))) then 
 some (Sum.inl ((List.take (List.length v9) v9), (v10, (v11, (v12, v13)))))
 else none))
noncomputable def rrB {ρ : Type} (a2 : List In) : (Int × Rt) → Option ((Int × Rt) ⊕ (Rt ⊕ ρ)) :=
(fun (v115, (v116, (v117, (v118, (v119, (v120, (v121, v122))))))) =>
 bif (decide (v115 < (((List.length a2) : Nat) : Int))) then
 bif (decide (v115 < (60 : Int))) then
 bif (decide (((0 : Int) ≤ v115) ∧ (v115 < (((List.length a2) : Nat) : Int)))) then 
 bindO a2[(Int.toNat v115)]? fun x123 =>
 bindO (fork_Step ((v118, (v119, (v120, (v121, v122)))), (x123.1, (x123.2.1, x123.2.2)))) fun ((x125, (x126, (x127, (x128, x129)))), (x130, x131)) =>
 bif (decide (x131 = (0 : Int))) then
 bif (decide ((List.length v117) ≤ (List.length v117))) then 
 bif (decide (((List.length ((List.take (List.length v117) v117) ++ x130)) * 24) ≤ 140737488355328)) then 
 bindO (some ((List.take (List.length v117) v117) ++ x130)) fun x132 =>
 bif (decide (((0 : Int) ≤ v115) ∧ (v115 < (((List.length a2) : Nat) : Int)))) then 
 bindO a2[(Int.toNat v115)]? fun x133 =>
 bif (decide ((List.length v116) ≤ (List.length v116))) then 
 bif (decide (((List.length ((List.take (List.length v116) v116) ++ ((x133.1, (x133.2.1, x133.2.2)) :: ([] : List (Int × (Int × Int)))))) * 24) ≤ 140737488355328)) then 
 bindO (some ((List.take (List.length v116) v116) ++ ((x133.1, (x133.2.1, x133.2.2)) :: ([] : List (Int × (Int × Int)))))) fun x134 =>
 bif ((decide ((List.length x134) ≤ (List.length x134))) && (decide ((List.length x132) ≤ (List.length x132)))) then 
 some (Sum.inl ((Go.IntKind.wrap .i64 (v115 + (1 : Int))), ((List.take (List.length x134) x134), ((List.take (List.length x132) x132), (x125, (x126, (x127, (x128, x129))))))))
 else none
 else none
 else none
 else none
 else none
 else none
 else
 bif ((decide ((List.length v116) ≤ (List.length v116))) && (decide ((List.length v117) ≤ (List.length v117)))) then 
 some (Sum.inl ((Go.IntKind.wrap .i64 (v115 + (1 : Int))), ((List.take (List.length v116) v116), ((List.take (List.length v117) v117), (v118, (v119, (v120, (v121, v122))))))))
 else none
 else none
 else
 outO (bif ((decide ((List.length v116) ≤ (List.length v116))) && (decide ((List.length v117) ≤ (List.length v117)))) then 
 some (Sum.inl ((List.take (List.length v116) v116), ((List.take (List.length v117) v117), (v118, (v119, (v120, (v121, v122)))))))
 else none)
 else
 outO (bif ((decide ((List.length v116) ≤ (List.length v116))) && (decide ((List.length v117) ≤ (List.length v117)))) then 
 some (Sum.inl ((List.take (List.length v116) v116), ((List.take (List.length v117) v117), (v118, (v119, (v120, (v121, v122)))))))
 else none))
noncomputable def npart {ρ : Type} (a1 : List Tg) : Option (Rs ⊕ ρ) :=
 bif (decide ((((List.length a1) : Nat) : Int) > (16 : Int))) then
 some (Sum.inl ((([] : List ((List UInt8) × (Int × (Int × Int)))), ((0 : Int), (Bool.false, (Bool.false, Bool.false)))), (([] : List (Int × (Int × Int))), (4 : Int))))
 else
 joinO (loopO (ruB a1) ((0 : Int), ([] : List (List UInt8)))) fun v7 =>
 joinO (loopO (rbB a1) ((0 : Int), (([] : List ((List UInt8) × (Int × (Int × Int)))), ((-1 : Int), (Bool.false, (Bool.false, Bool.false)))))) fun (v17, (v18, (v19, (v20, v21)))) =>
 joinO (joinO (bif (decide ((20 : Int) ≤ (((List.length v17) : Nat) : Int))) then
 joinO (loopO (n2B v17) ((1 : Int), v17)) fun v40 =>
 none 
 else
 some (Sum.inl ())) fun _ =>
 joinO (loopO (nsB v17) ((1 : Int), v17)) fun v59 =>
 bif (decide ((20 : Int) < (((List.length v17) : Nat) : Int))) then
 joinO (bif (decide ((40 : Int) ≤ (((List.length v17) : Nat) : Int))) then
 none 
 else
 some (Sum.inl ())) fun _ =>
 bif (decide ((20 : Int) < (((List.length v17) : Nat) : Int))) then
 none 
 else
 none 
 else
 some (Sum.inl v59)) fun v60 =>
 joinO (goN v17 v60 v18 v19 v20 v21) fun (v102, (v103, (v104, (v105, (v106, v107))))) =>
 bif ((decide ((List.length v102) ≤ (List.length v102))) && (decide ((List.length v107) ≤ (List.length v107)))) then 
 some (Sum.inl (((List.take (List.length v102) v102), (v103, (v104, (v105, v106)))), ((List.take (List.length v107) v107), (0 : Int))))
 else none
theorem run_eq (a1 : List Tg) (a2 : List In) : dialtonelaw23_run (a1, a2) =

  joinO (npart a1) fun ((v108, (v109, (v110, (v111, v112)))), (v113, v114)) =>
  bif (decide (v114 ≠ (0 : Int))) then
   bif (decide ((List.length v108) ≤ (List.length v108))) then 
    some (((List.take (List.length v108) v108), (v109, (v110, (v111, v112)))), (([] : List (Int × (Int × Int))), (([] : List (Int × (Int × Int))), Bool.false)))
   else none
  else
   joinO (bif ((decide ((List.length v113) ≤ (List.length v113))) && (decide ((List.length v108) ≤ (List.length v108)))) then 
     loopO (rrB a2) ((0 : Int), (([] : List (Int × (Int × Int))), ((List.take (List.length v113) v113), ((List.take (List.length v108) v108), (v109, (v110, (v111, v112)))))))
    else none) fun (v137, (v138, (v139, (v140, (v141, (v142, v143)))))) =>
   bif ((decide ((List.length v138) ≤ (List.length v138))) && (decide ((List.length v137) ≤ (List.length v137)))) then 
    some ((v139, (v140, (v141, (v142, v143)))), ((List.take (List.length v138) v138), ((List.take (List.length v137) v137), Bool.true)))
   else none := rfl
theorem ru_round {ρ : Type} {T : List Tg} {i : Nat} (hi : i < T.length) (hl : T.length ≤ 16) :
    (EE T i = 0 → ruB (ρ := ρ) T ((i : Int), tur T i) = some (.inl (((i + 1 : Nat) : Int), tur T (i + 1)))) ∧ (EE T i ≠ 0 → ruB (ρ := ρ) T ((i : Int), tur T i) = some (.inr (.inr (.inl (er0 (EE T i)))))) := by
  have hn : ((i : Int) + 1) = ((i + 1 : Nat) : Int) := rfl
  obtain ⟨y, hy, hb⟩ := get_at t0 hi
  have ht : tur T (i + 1) = addK (tur T i) y.1 := by rw [← hy]; rfl
  by_cases h2 : bad2 y
  · rw [EE_2 (by rw [hy]; exact h2)]
    refine ⟨fun h => by omega, fun _ => ?_⟩
    unfold ruB
    by_cases g1 : y.1 = []
    · simp (disch := (first | omega | (simp only [List.length_append, List.length_cons, List.length_nil, List.nil_append, List.length_take, List.length_drop]; omega))) only [↓bindO_some, ↓bindO_none, ↓joinO_inl, ↓joinO_inr, ↓joinO_none, ↓outO_some, ↓outO_none, ↓cond_true, ↓cond_false, ↓cond_and, ↓cond_or, ↓cond_not, ↓cond_ite, ↓if_pos, ↓if_neg, ↓if_true, ↓if_false, List.take_length, Nat.le_refl, Bool.not_true, Bool.not_false, ↓hb, if_pos g1]
    · rcases (show y.2 < 0 ∨ y.2 > 1000 by rcases h2 with h | h | h; exact (g1 h).elim; exact .inl h; exact .inr h) with g | g <;> simp (disch := (first | omega | (simp only [List.length_append, List.length_cons, List.length_nil, List.nil_append, List.length_take, List.length_drop]; omega))) only [↓bindO_some, ↓bindO_none, ↓joinO_inl, ↓joinO_inr, ↓joinO_none, ↓outO_some, ↓outO_none, ↓cond_true, ↓cond_false, ↓cond_and, ↓cond_or, ↓cond_not, ↓cond_ite, ↓if_pos, ↓if_neg, ↓if_true, ↓if_false, List.take_length, Nat.le_refl, Bool.not_true, Bool.not_false, ↓hb, if_neg g1]
  · have g1 : ¬ y.1 = [] := fun g => h2 (.inl g)
    have g2 : ¬ y.2 < 0 := fun g => h2 (.inr (.inl g))
    have g3 : ¬ y.2 > 1000 := fun g => h2 (.inr (.inr g))
    have hd : dup T i ↔ y.1 ∈ tur T i := by
      rw [mem_tur]; unfold dup; rw [hy]
    by_cases hd' : y.1 ∈ tur T i
    · rw [EE_7 (by rw [hy]; exact h2) (hd.2 hd')]
      refine ⟨fun h => by omega, fun _ => ?_⟩
      unfold ruB
      simp (disch := (first | omega | (simp only [List.length_append, List.length_cons, List.length_nil, List.nil_append, List.length_take, List.length_drop]; omega))) only [↓bindO_some, ↓bindO_none, ↓joinO_inl, ↓joinO_inr, ↓joinO_none, ↓outO_some, ↓outO_none, ↓cond_true, ↓cond_false, ↓cond_and, ↓cond_or, ↓cond_not, ↓cond_ite, ↓if_pos, ↓if_neg, ↓if_true, ↓if_false, List.take_length, Nat.le_refl, Bool.not_true, Bool.not_false, ↓hb, if_neg g1, if_pos hd']
    · rw [EE_0 (by rw [hy]; exact h2) (fun k => hd' (hd.1 k))]
      refine ⟨fun _ => ?_, fun h => (h rfl).elim⟩
      rw [ht]
      unfold ruB
      simp (disch := (first | omega | (simp only [List.length_append, List.length_cons, List.length_nil, List.nil_append, List.length_take, List.length_drop]; omega))) only [↓bindO_some, ↓bindO_none, ↓joinO_inl, ↓joinO_inr, ↓joinO_none, ↓outO_some, ↓outO_none, ↓cond_true, ↓cond_false, ↓cond_and, ↓cond_or, ↓cond_not, ↓cond_ite, ↓if_pos, ↓if_neg, ↓if_true, ↓if_false, List.take_length, Nat.le_refl, Bool.not_true, Bool.not_false, ↓hb, if_neg g1, if_neg hd', wrap_i64', hn]
theorem rb_round {ρ : Type} {T : List Tg} {i : Nat} (hi : i < T.length) (hl : T.length ≤ 16) : rbB (ρ := ρ) T ((i : Int), (bld T i, (-1, (false, (false, false))))) = some (.inl (((i + 1 : Nat) : Int), (bld T (i + 1), (-1, (false, (false, false)))))) := by
  have hn : ((i : Int) + 1) = ((i + 1 : Nat) : Int) := rfl
  obtain ⟨y, hy, hb⟩ := get_at t0 hi
  have h1 := bld_len (Nat.le_of_lt hi)
  rw [bld_succ hi, hy]
  unfold rbB
  generalize bld T i = B at *
  have k1 : (B.length + 1) * 40 ≤ 140737488355328 := by omega
  simp (disch := (first | omega | (simp only [List.length_append, List.length_cons, List.length_nil, List.nil_append, List.length_take, List.length_drop]; omega))) only [↓bindO_some, ↓bindO_none, ↓joinO_inl, ↓joinO_inr, ↓joinO_none, ↓outO_some, ↓outO_none, ↓cond_true, ↓cond_false, ↓cond_and, ↓cond_or, ↓cond_not, ↓cond_ite, ↓if_pos, ↓if_neg, ↓if_true, ↓if_false, List.take_length, Nat.le_refl, Bool.not_true, Bool.not_false, ↓hb, wrap_i64', hn]
  rfl
noncomputable def NV (T : List Tg) : Rs := if T.length > 16 then er0 4 else if fE (EE T) T.length = 0 then (((GO (SRT T T.length) false false false).1, (-1, (false, (false, (GO (SRT T T.length) false false false).2.1)))), ((GO (SRT T T.length) false false false).2.2, 0)) else er0 (fE (EE T) T.length)
theorem np_j {ρ : Type} (T : List Tg) : npart (ρ := ρ) T = some (.inl (NV T)) := by
  unfold npart NV
  by_cases hl : T.length ≤ 16
  · have hsl := SRT_len T T.length
    have h0 : ¬ T.length > 16 := by omega
    have he0 := fun (ρ' : Type) => loopO_err (body := ruB (ρ := ρ') T) (EE T) T.length (fun i => ((i : Int), tur T i)) (r0 := .inl (tur T T.length)) (fun e => .inr (.inl (er0 e))) (x := ((0 : Int), ([] : List (List UInt8)))) rfl (fun i hi => (ru_round hi hl).1) (fun i hi => (ru_round hi hl).2) (by
      unfold ruB; simp (disch := (first | omega | (simp only [List.length_append, List.length_cons, List.length_nil, List.nil_append, List.length_take, List.length_drop]; omega))) only [↓bindO_some, ↓bindO_none, ↓joinO_inl, ↓joinO_inr, ↓joinO_none, ↓outO_some, ↓outO_none, ↓cond_true, ↓cond_false, ↓cond_and, ↓cond_or, ↓cond_not, ↓cond_ite, ↓if_pos, ↓if_neg, ↓if_true, ↓if_false, List.take_length, Nat.le_refl, Bool.not_true, Bool.not_false])
    rw [he0]
    rw [if_neg h0]
    by_cases he : fE (EE T) T.length = 0
    · rw [if_pos he, if_pos he]
      have hE := fE_0 he
      have hB : bld T T.length = T.map br := by unfold bld; rw [List.take_length]
      have hB2 : (T.map br).length = T.length := by simp
      have hb := fun (ρ' : Type) => loopO_from (body := rbB (ρ := ρ') T) (fun i => ((i : Int), (bld T i, ((-1 : Int), (false, (false, false)))))) T.length (x := ((0 : Int), (([] : List Br), ((-1 : Int), (false, (false, false)))))) (r := .inl (bld T T.length, ((-1 : Int), (false, (false, false))))) rfl (fun i hi => rb_round hi hl) (by
        have := bld_len (T := T) (Nat.le_refl _)
        unfold rbB; simp (disch := (first | omega | (simp only [List.length_append, List.length_cons, List.length_nil, List.nil_append, List.length_take, List.length_drop]; omega))) only [↓bindO_some, ↓bindO_none, ↓joinO_inl, ↓joinO_inr, ↓joinO_none, ↓outO_some, ↓outO_none, ↓cond_true, ↓cond_false, ↓cond_and, ↓cond_or, ↓cond_not, ↓cond_ite, ↓if_pos, ↓if_neg, ↓if_true, ↓if_false, List.take_length, Nat.le_refl, Bool.not_true, Bool.not_false])
      rw [hB] at hb
      have hs := fun {δ : Type} => ns_j (δ := δ) (V := T.map br) (U := T) hB2 hl (fun k hk => (EE_ok (hE k hk)).1)
      have hG1 := GO_len1 (SRT T T.length) false false false
      simp (disch := (first | omega | (simp only [List.length_append, List.length_cons, List.length_nil, List.nil_append, List.length_take, List.length_drop]; omega))) only [↓bindO_some, ↓bindO_none, ↓joinO_inl, ↓joinO_inr, ↓joinO_none, ↓outO_some, ↓outO_none, ↓cond_true, ↓cond_false, ↓cond_and, ↓cond_or, ↓cond_not, ↓cond_ite, ↓if_pos, ↓if_neg, ↓if_true, ↓if_false, List.take_length, Nat.le_refl, Bool.not_true, Bool.not_false, hb, hs, goN_j (T.map br) (SRT T T.length) _ _ _ _ (by omega) (by omega), decide_true, Bool.and_self]
    · rw [if_neg he, if_neg he]
      simp (disch := (first | omega | (simp only [List.length_append, List.length_cons, List.length_nil, List.nil_append, List.length_take, List.length_drop]; omega))) only [↓bindO_some, ↓bindO_none, ↓joinO_inl, ↓joinO_inr, ↓joinO_none, ↓outO_some, ↓outO_none, ↓cond_true, ↓cond_false, ↓cond_and, ↓cond_or, ↓cond_not, ↓cond_ite, ↓if_pos, ↓if_neg, ↓if_true, ↓if_false, List.take_length, Nat.le_refl, Bool.not_true, Bool.not_false]
  · rw [if_pos (by omega)]
    simp (disch := (first | omega | (simp only [List.length_append, List.length_cons, List.length_nil, List.nil_append, List.length_take, List.length_drop]; omega))) only [↓bindO_some, ↓bindO_none, ↓joinO_inl, ↓joinO_inr, ↓joinO_none, ↓outO_some, ↓outO_none, ↓cond_true, ↓cond_false, ↓cond_and, ↓cond_or, ↓cond_not, ↓cond_ite, ↓if_pos, ↓if_neg, ↓if_true, ↓if_false, List.take_length, Nat.le_refl, Bool.not_true, Bool.not_false]
inductive RS : Fk → List Ac → List In → Prop
  | new {T : List Tg} (hl : T.length ≤ 16) (h : ∀ i, i < T.length → ¬ bad2 (T.getD i t0) ∧ ¬ dup T i) : RS ((GO (SRT T T.length) false false false).1, (-1, (false, (false, (GO (SRT T T.length) false false false).2.1)))) (GO (SRT T T.length) false false false).2.2 []
  | step {l : List Br} {a2 : Int} {a3 a4 a5 : Bool} {A : List Ac} {tk : List In} {k b c : Int} (h : RS (l, (a2, (a3, (a4, a5)))) A tk) (hc : CKO l a2 a3 a4 a5 k b c) : RS (STC l a2 a3 a4 a5 k b c).1 (A ++ (STC l a2 a3 a4 a5 k b c).2) (tk ++ [(k, (b, c))])
theorem run_j (T : List Tg) (I : List In) : (∃ F, dialtonelaw23_run (T, I) = some (F, ([], ([], false)))) ∨ ∃ F A tk, dialtonelaw23_run (T, I) = some (F, (A, (tk, true))) ∧ RS F A tk ∧ A.length ≤ 3000 ∧ F.1.length ≤ 16 ∧ tk.length ≤ 60 := by
  rw [run_eq, np_j]
  have hsl := SRT_len T T.length
  by_cases hl : T.length > 16
  · unfold NV
    rw [if_pos hl]
    exact .inl ⟨_, rfl⟩
  · by_cases he : fE (EE T) T.length = 0
    · have hN : NV T = (((GO (SRT T T.length) false false false).1, (-1, (false, (false, (GO (SRT T T.length) false false false).2.1)))), ((GO (SRT T T.length) false false false).2.2, 0)) := by unfold NV; rw [if_neg hl, if_pos he]
      have h0 : RS ((GO (SRT T T.length) false false false).1, (-1, (false, (false, (GO (SRT T T.length) false false false).2.1)))) (GO (SRT T T.length) false false false).2.2 [] := RS.new (by omega) (fun i hi => EE_ok (fE_0 he i hi))
      have hG1 := GO_len1 (SRT T T.length) false false false
      have hG2 := GO_len (SRT T T.length) false false false
      rw [hN]
      generalize (GO (SRT T T.length) false false false).1 = l0 at *
      generalize (GO (SRT T T.length) false false false).2.2 = A0 at *
      generalize (GO (SRT T T.length) false false false).2.1 = b0 at *
      refine .inr ?_
      simp (disch := omega) only [↓bindO_some, ↓bindO_none, ↓joinO_inl, ↓joinO_inr, ↓joinO_none, ↓outO_some, ↓outO_none, ↓cond_true, ↓cond_false, ↓cond_and, ↓cond_or, ↓cond_not, ↓cond_ite, ↓if_pos, ↓if_neg, ↓if_true, ↓if_false, List.take_length, Nat.le_refl, Bool.not_true, Bool.not_false, decide_true, Bool.and_self, ne_eq, not_true, decide_false]
      refine loopO_postG (I := fun x => ∃ (v : Nat) (F : Fk) (A : List Ac) (tk : List In), x = ((v : Int), (tk, (A, F))) ∧ RS F A tk ∧ v ≤ I.length ∧ v ≤ 60 ∧ A.length ≤ 40 * (v + 1) ∧ F.1.length ≤ 16 ∧ tk.length ≤ v) (fun x => 61 - x.1.toNat) (fun o => ∃ F A tk, o = some (F, (A, (tk, true))) ∧ RS F A tk ∧ A.length ≤ 3000 ∧ F.1.length ≤ 16 ∧ tk.length ≤ 60) (fun x hx => ?_) ⟨0, _, A0, [], rfl, h0, by omega, by omega, by omega, by show l0.length ≤ 16; omega, by simp⟩
      obtain ⟨v, ⟨f1, f2, f3, f4, f5⟩, A, tk, rfl, hR, hv, h60, hA, hF, ht⟩ := hx
      unfold rrB
      by_cases c1 : v < I.length
      · by_cases c2 : v < 60
        · obtain ⟨⟨k, b, c⟩, hx, hb⟩ := get_at i0 c1
          obtain ⟨⟨s1, s2, s3, s4, s5⟩, B, r, q1, q2, q3, q4, q5⟩ := step_j f1 f2 f3 f4 f5 k b c
          have hn1 : ((v : Int) + 1) = ((v + 1 : Nat) : Int) := rfl
          have hm : 61 - (((v + 1 : Nat) : Int)).toNat < 61 - ((v : Nat) : Int).toNat := by rw [Int.toNat_natCast, Int.toNat_natCast]; omega
          have z1 : (A ++ B).length * 24 ≤ 140737488355328 := by rw [List.length_append]; omega
          have z2 : (tk ++ [(k, (b, c))]).length * 24 ≤ 140737488355328 := by rw [List.length_append]; show (tk.length + 1) * 24 ≤ _; omega
          rcases q5 with ⟨r0, hck, hF', hB'⟩ | ⟨r0, _⟩
          · simp (disch := (first | omega | (simp only [List.length_append, List.length_cons, List.length_nil, List.nil_append, List.length_take, List.length_drop]; omega))) only [↓bindO_some, ↓bindO_none, ↓joinO_inl, ↓joinO_inr, ↓joinO_none, ↓outO_some, ↓outO_none, ↓cond_true, ↓cond_false, ↓cond_and, ↓cond_or, ↓cond_not, ↓cond_ite, ↓if_pos, ↓if_neg, ↓if_true, ↓if_false, List.take_length, Nat.le_refl, Bool.not_true, Bool.not_false, if_pos, if_neg, ↓hb, q1, r0, wrap_i64', hn1, z1, z2, decide_true, Bool.and_self]
            refine PostS.next ⟨v + 1, (s1, (s2, (s3, (s4, s5)))), A ++ B, tk ++ [(k, (b, c))], rfl, ?_, by omega, by omega, by rw [List.length_append]; omega, q3, by rw [List.length_append]; show tk.length + 1 ≤ _; omega⟩ hm
            rw [hF', hB']
            exact RS.step hR hck
          · simp (disch := (first | omega | (simp only [List.length_append, List.length_cons, List.length_nil, List.nil_append, List.length_take, List.length_drop]; omega))) only [↓bindO_some, ↓bindO_none, ↓joinO_inl, ↓joinO_inr, ↓joinO_none, ↓outO_some, ↓outO_none, ↓cond_true, ↓cond_false, ↓cond_and, ↓cond_or, ↓cond_not, ↓cond_ite, ↓if_pos, ↓if_neg, ↓if_true, ↓if_false, List.take_length, Nat.le_refl, Bool.not_true, Bool.not_false, if_pos, if_neg, ↓hb, q1, r0, wrap_i64', hn1, decide_true, Bool.and_self]
            exact PostS.next ⟨v + 1, (f1, (f2, (f3, (f4, f5)))), A, tk, rfl, hR, by omega, by omega, by omega, hF, by omega⟩ hm
        · simp (disch := (first | omega | (simp only [List.length_append, List.length_cons, List.length_nil, List.nil_append, List.length_take, List.length_drop]; omega))) only [↓bindO_some, ↓bindO_none, ↓joinO_inl, ↓joinO_inr, ↓joinO_none, ↓outO_some, ↓outO_none, ↓cond_true, ↓cond_false, ↓cond_and, ↓cond_or, ↓cond_not, ↓cond_ite, ↓if_pos, ↓if_neg, ↓if_true, ↓if_false, List.take_length, Nat.le_refl, Bool.not_true, Bool.not_false, if_pos, if_neg, decide_true, Bool.and_self]
          exact PostS.stop ⟨(f1, (f2, (f3, (f4, f5)))), A, tk, rfl, hR, by omega, hF, by omega⟩
      · simp (disch := (first | omega | (simp only [List.length_append, List.length_cons, List.length_nil, List.nil_append, List.length_take, List.length_drop]; omega))) only [↓bindO_some, ↓bindO_none, ↓joinO_inl, ↓joinO_inr, ↓joinO_none, ↓outO_some, ↓outO_none, ↓cond_true, ↓cond_false, ↓cond_and, ↓cond_or, ↓cond_not, ↓cond_ite, ↓if_pos, ↓if_neg, ↓if_true, ↓if_false, List.take_length, Nat.le_refl, Bool.not_true, Bool.not_false, if_pos, if_neg, decide_true, Bool.and_self]
        exact PostS.stop ⟨(f1, (f2, (f3, (f4, f5)))), A, tk, rfl, hR, by omega, hF, by omega⟩
    · unfold NV
      rw [if_neg hl, if_neg he]
      refine .inl ⟨([], (0, (false, (false, false)))), ?_⟩
      have h7 : ((fE (EE T) T.length) ≠ 0) := he
      simp only [↓bindO_some, ↓bindO_none, ↓joinO_inl, ↓joinO_inr, ↓joinO_none, ↓outO_some, ↓outO_none, ↓cond_true, ↓cond_false, ↓cond_and, ↓cond_or, ↓cond_not, ↓cond_ite, ↓if_pos, ↓if_neg, ↓if_true, ↓if_false, List.take_length, Nat.le_refl, Bool.not_true, Bool.not_false, h7, ne_eq, not_false_iff, decide_true]
end Go.Proofs.Ytheicchelhjcjaa
