import Derived.Test.YtkhdpjlpahammaaW1p
import Derived.Test.YtkhdpjlpahammaaZ0p
set_option linter.unusedVariables false
set_option linter.unusedSimpArgs false
set_option maxRecDepth 100000
set_option maxHeartbeats 2000000
namespace Go.Proofs.Ytkhdpjlpahammaa
open Go.RowKit
abbrev PcT := (Bool × (Int × (Bool × Int))) × (Int × ((List UInt8) × ((List UInt8) × (Int × (Bool × (List Int))))))
theorem swap_spec (due : List PcT) (A X M Y B : List Int) (h : X.length = Y.length) (hl : (A ++ X ++ M ++ Y ++ B).length ≤ 1000000) {a b n : Int} (ha : a = (A.length : Int)) (hb : b = ((A.length + X.length + M.length : Nat) : Int)) (hn : n = (X.length : Int)) :
    slices_swapRangeCmpFunc_int (A ++ X ++ M ++ Y ++ B, (a, (b, (n, due)))) = some (A ++ Y ++ M ++ X ++ B) := by
  subst ha hb hn
  have hlen := hl
  simp only [List.length_append] at hlen
  unfold slices_swapRangeCmpFunc_int
  refine loopO_from (fun i => ((i : Int), A ++ (Y.take i ++ X.drop i) ++ M ++ (X.take i ++ Y.drop i) ++ B)) X.length (by simp) (fun i hi => ?_) ?_
  · have e1 := drop_cons X 0 hi
    have e2 := drop_cons Y 0 (show i < Y.length by omega)
    have t1 := take_snoc X 0 hi
    have t2 := take_snoc Y 0 (show i < Y.length by omega)
    obtain ⟨x, hx⟩ : ∃ x, X.getD i 0 = x := ⟨_, rfl⟩
    obtain ⟨y, hy⟩ : ∃ y, Y.getD i 0 = y := ⟨_, rfl⟩
    rw [hx] at e1 t1
    rw [hy] at e2 t2
    obtain ⟨P, hP⟩ : ∃ P, P = A ++ Y.take i := ⟨_, rfl⟩
    obtain ⟨Q, hQ⟩ : ∃ Q, Q = X.drop (i + 1) ++ M ++ X.take i := ⟨_, rfl⟩
    obtain ⟨R, hR⟩ : ∃ R, R = Y.drop (i + 1) ++ B := ⟨_, rfl⟩
    have hL : A ++ (Y.take i ++ X.drop i) ++ M ++ (X.take i ++ Y.drop i) ++ B = P ++ x :: (Q ++ y :: R) := by rw [hP, hQ, hR, e1, e2]; simp
    have hL' : A ++ (Y.take (i + 1) ++ X.drop (i + 1)) ++ M ++ (X.take (i + 1) ++ Y.drop (i + 1)) ++ B = P ++ y :: (Q ++ x :: R) := by rw [hP, hQ, hR, t1, t2]; simp
    have lP : P.length = A.length + i := by rw [hP, List.length_append, List.length_take]; omega
    have lQ : P.length + 1 + Q.length = A.length + X.length + M.length + i := by rw [lP, hQ, List.length_append, List.length_append, List.length_take, List.length_drop]; omega
    have hn : ((i : Int) + 1) = ((i + 1 : Nat) : Int) := rfl
    rw [hL, hL']
    simp (disch := (first | omega | (simp only [List.length_append, List.length_cons, List.length_nil, List.nil_append, List.length_take, List.length_drop]; omega))) only [↓bindO_some, ↓bindO_none, ↓joinO_inl, ↓joinO_inr, ↓joinO_none, ↓outO_some, ↓outO_none, ↓cond_true, ↓cond_false, ↓cond_and, ↓cond_or, ↓cond_not, ↓cond_ite, ↓if_pos, ↓if_neg, ↓if_true, ↓if_false, List.take_length, Nat.le_refl, Bool.not_true, Bool.not_false, if_pos, if_neg, wrap_i64', ↓sw_get1, ↓sw_get2, sw_set1, sw_set2, hn]
  · simp (disch := (first | omega | (simp only [List.length_append, List.length_cons, List.length_nil, List.nil_append, List.length_take, List.length_drop]; omega))) only [↓bindO_some, ↓bindO_none, ↓joinO_inl, ↓joinO_inr, ↓joinO_none, ↓outO_some, ↓outO_none, ↓cond_true, ↓cond_false, ↓cond_and, ↓cond_or, ↓cond_not, ↓cond_ite, ↓if_pos, ↓if_neg, ↓if_true, ↓if_false, List.take_length, Nat.le_refl, Bool.not_true, Bool.not_false, if_neg, List.take_length, List.drop_length, List.append_nil]
    rw [show List.take X.length Y = Y by rw [h, List.take_length], show List.drop X.length Y = [] by rw [h, List.drop_length], List.append_nil]
end Go.Proofs.Ytkhdpjlpahammaa
