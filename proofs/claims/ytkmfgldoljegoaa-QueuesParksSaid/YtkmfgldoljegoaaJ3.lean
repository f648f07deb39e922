/- Chapter 36, plain: the law of parking lots. -/
import Derived.Test.YtkmfgldoljegoaaJ2
set_option linter.unusedVariables false
set_option linter.unusedSimpArgs false
set_option maxRecDepth 100000
namespace Go.Proofs.Ytkmfgldoljegoaa
open Go.RowKit
theorem newP_eq (a1 a2 a3 : Int) : queues_NewLot (a1, (a2, a3)) = bindO (queues_MayLot (a1, (a2, (a3, [])))) fun x4 => bif (!x4) then some ((0, (0, (0, []))), 2) else some ((a1, (a2, (a3, []))), 0) := rfl
theorem newR_eq (a1 a2 a3 : Int) : dialtoneref36_NewLot (a1, (a2, a3)) = bindO (dialtoneref36_MayLot (a1, (a2, (a3, [])))) fun x4 => bif (!x4) then some ((0, (0, (0, []))), 2) else some ((a1, (a2, (a3, []))), 0) := rfl
open Classical in
theorem new_j (f m s : Int) : ∃ r, queues_NewLot (f, (m, s)) = some r ∧ dialtoneref36_NewLot (f, (m, s)) = some r ∧ r.1.2.2.2 = [] := by
  rw [newP_eq, newR_eq]
  have h0 : ([] : List Pl).length ≤ 1000 := Nat.zero_le _
  by_cases h : LOT f m s []
  · simp (disch := (first | omega | (simp only [List.length_append, List.length_cons, List.length_nil, List.nil_append, List.length_take, List.length_drop]; omega))) only [↓bindO_some, ↓bindO_none, ↓joinO_inl, ↓joinO_inr, ↓joinO_none, ↓outO_some, ↓outO_none, ↓cond_true, ↓cond_false, ↓cond_and, ↓cond_or, ↓cond_not, ↓cond_ite, ↓if_pos, ↓if_neg, ↓if_true, ↓if_false, List.take_length, Nat.le_refl, Bool.not_true, Bool.not_false, mayP_b f m s [] h0, mayR_b f m s [] h0, h, decide_true]
    exact ⟨_, rfl, rfl, rfl⟩
  · simp (disch := (first | omega | (simp only [List.length_append, List.length_cons, List.length_nil, List.nil_append, List.length_take, List.length_drop]; omega))) only [↓bindO_some, ↓bindO_none, ↓joinO_inl, ↓joinO_inr, ↓joinO_none, ↓outO_some, ↓outO_none, ↓cond_true, ↓cond_false, ↓cond_and, ↓cond_or, ↓cond_not, ↓cond_ite, ↓if_pos, ↓if_neg, ↓if_true, ↓if_false, List.take_length, Nat.le_refl, Bool.not_true, Bool.not_false, mayP_b f m s [] h0, mayR_b f m s [] h0, h, decide_false]
    exact ⟨_, rfl, rfl, rfl⟩
def gcB (a b : List Int) : Int → Option (Int ⊕ (Unit ⊕ Bool)) := fun v76 =>
    bif (decide (v76 < (((List.length b) : Nat) : Int))) then
     bif (decide (((0 : Int) ≤ v76) ∧ (v76 < (((List.length a) : Nat) : Int)))) then 
      bindO a[(Int.toNat v76)]? fun x77 =>
      bif (decide (((0 : Int) ≤ v76) ∧ (v76 < (((List.length b) : Nat) : Int)))) then 
       bindO b[(Int.toNat v76)]? fun x78 =>
       bif (decide (x77 ≠ x78)) then
        outO (outO (some Bool.false))
       else
        some (Sum.inl (Go.IntKind.wrap .i64 (v76 + (1 : Int))))
      else none
     else none
    else
     outO (some (Sum.inl ()))
theorem gc_j (a : List Int) (hl : a.length ≤ 1000) : loopO (gcB a a) 0 = some (.inl ()) := by
  refine loopO_from (fun i => (i : Int)) a.length rfl (fun i hi => ?_) ?_
  · obtain ⟨x, hx, hxb⟩ := get_at 0 hi
    unfold gcB
    simp (disch := (first | omega | (simp only [List.length_append, List.length_cons, List.length_nil, List.nil_append, List.length_take, List.length_drop]; omega))) only [↓bindO_some, ↓bindO_none, ↓joinO_inl, ↓joinO_inr, ↓joinO_none, ↓outO_some, ↓outO_none, ↓cond_true, ↓cond_false, ↓cond_and, ↓cond_or, ↓cond_not, ↓cond_ite, ↓if_pos, ↓if_neg, ↓if_true, ↓if_false, List.take_length, Nat.le_refl, Bool.not_true, Bool.not_false, if_pos, if_neg, ↓hxb, wrap_i64', nots, ne_eq, not_true_eq_false, decide_false]
  · unfold gcB
    simp (disch := (first | omega | (simp only [List.length_append, List.length_cons, List.length_nil, List.nil_append, List.length_take, List.length_drop]; omega))) only [↓bindO_some, ↓bindO_none, ↓joinO_inl, ↓joinO_inr, ↓joinO_none, ↓outO_some, ↓outO_none, ↓cond_true, ↓cond_false, ↓cond_and, ↓cond_or, ↓cond_not, ↓cond_ite, ↓if_pos, ↓if_neg, ↓if_true, ↓if_false, List.take_length, Nat.le_refl, Bool.not_true, Bool.not_false, if_neg]
theorem parks_j (f m s : Int) (l : List Pl) (n t : Int) (hl : l.length ≤ 9223372036854775807) : dialtonelaw36_QueuesParks ((f, (m, (s, l))), (n, t)) = some true := by
  have hk : (l.take 120).length ≤ 120 := by rw [List.length_take]; omega
  have h2 : dialtonelaw36_lot (f, (m, (s, l.take 120))) = some (f, (m, (s, l.take 120))) := by
    rw [lot_j f m s _ (by omega), List.take_take]; rfl
  unfold dialtonelaw36_QueuesParks
  simp only [lot_j f m s l hl, bindO_some, h2]
  generalize l.take 120 = L at hk
  obtain ⟨r1, e1, e2, r1l⟩ := new_j f m s
  obtain ⟨b, eb⟩ := (mayP_j f m s L (by omega)).some
  have eb2 : dialtoneref36_MayLot (f, (m, (s, L))) = some b := by rw [← (mayP_j f m s L (by omega)).eq (mayR_j f m s L (by omega))]; exact eb
  obtain ⟨r2, e3, e4, r2l⟩ := park_j f m s L n t (by omega)
  obtain ⟨r3, e5, e6, r3l⟩ := fetch_j f m s L n (by omega)
  obtain ⟨r4, e7, e8, r4c, r4l⟩ := exp_j f m s L t (by omega)
  obtain ⟨⟨x1, x2, x3, x4⟩, x5⟩ := r1
  obtain ⟨⟨y1, y2, y3, y4⟩, y5, y6⟩ := r2
  obtain ⟨⟨z1, z2, z3, z4⟩, z5, z6⟩ := r3
  obtain ⟨⟨w1, w2, w3, w4⟩, w5⟩ := r4
  have s1 := same_j (x1, (x2, (x3, x4))) (by show x4.length ≤ _; rw [show x4 = [] from r1l]; simp)
  have s2 := same_j (y1, (y2, (y3, y4))) r2l
  have s3 := same_j (z1, (z2, (z3, z4))) r3l
  have s4 := same_j (w1, (w2, (w3, w4))) r4l
  have s5 := same_j (f, (m, (s, L))) (by show L.length ≤ _; omega)
  have g := gc_j w5 r4c
  unfold gcB at g
  simp only [↓bindO_some, ↓bindO_none, ↓joinO_inl, ↓joinO_inr, ↓joinO_none, ↓outO_some, ↓outO_none, ↓cond_true, ↓cond_false, ↓cond_and, ↓cond_or, ↓cond_not, ↓cond_ite, ↓if_pos, ↓if_neg, ↓if_true, ↓if_false, List.take_length, Nat.le_refl, Bool.not_true, Bool.not_false, ne_eq, not_true_eq_false, decide_false] at g
  simp only [e1, e2, e3, e4, e5, e6, e7, e8, eb, eb2, ↓bindO_some, ↓bindO_none, ↓joinO_inl, ↓joinO_inr, ↓joinO_none, ↓outO_some, ↓outO_none, ↓cond_true, ↓cond_false, ↓cond_and, ↓cond_or, ↓cond_not, ↓cond_ite, ↓if_pos, ↓if_neg, ↓if_true, ↓if_false, List.take_length, Nat.le_refl, Bool.not_true, Bool.not_false, s1, s2, s3, s4, s5, ne_eq, not_true_eq_false, decide_false, bne_self_eq_false, decide_true]
  rw [g]
  rfl
theorem parks_main (a : Lt × (Int × Int)) (h : WfIs [(.tmp 0 true [(.dat (.int .i64)), (.dat (.int .i64)), (.dat (.int .i64)), (.dat (.list (.pair (.int .i64) (.pair (.int .i64) (.int .i64)))))]), (.tmp 1 false [(.dat (.int .i64))]), (.tmp 2 false [(.dat (.int .i64))])] a) : dialtonelaw36_QueuesParks a = some true := parks_j a.1.1 a.1.2.1 a.1.2.2.1 a.1.2.2.2 a.2.1 a.2.2 h.1.2.2.2.1.1
end Go.Proofs.Ytkmfgldoljegoaa
