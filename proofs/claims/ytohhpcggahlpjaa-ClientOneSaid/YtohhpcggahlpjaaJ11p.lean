import Derived.Test.YtohhpcggahlpjaaJ10p
set_option linter.unusedVariables false
set_option linter.unusedSimpArgs false
set_option maxRecDepth 1000000
set_option maxHeartbeats 4000000
namespace Go.Proofs.Ytohhpcggahlpjaa
open Go.RowKit
theorem stepR_eq (a1 a2 a3 a4 a5 a6 : Int) : dialtoneref13_Step ((a1, (a2, a3)), (a4, (a5, a6))) =

  bindO (dialtoneref13_May (a1, (a2, a3))) fun x7 =>
  bif (!x7) then
   some (((0 : Int), ((0 : Int), (0 : Int))), ([] : List (Int × (Int × (Int × Int)))))
  else
   bif (decide (a1 = (2 : Int))) then
    bindO (dialtoneref13_open ((a1, (a2, a3)), (a4, (a5, a6)))) fun ((x9, (x10, x11)), x12) =>
    some ((x9, (x10, x11)), x12)
   else
    bif (decide (a1 = (3 : Int))) then
     bindO (dialtoneref13_open ((a1, (a2, a3)), (a4, (a5, a6)))) fun ((x14, (x15, x16)), x17) =>
     some ((x14, (x15, x16)), x17)
    else
     bif (decide (a1 = (5 : Int))) then
      bif (decide (a4 = (5 : Int))) then
       bif (decide (a6 = (11 : Int))) then
        some (((7 : Int), ((0 : Int), a3)), (((7 : Int), ((0 : Int), ((0 : Int), (0 : Int)))) :: ([] : List (Int × (Int × (Int × Int))))))
       else
        some ((a1, (a2, a3)), ([] : List (Int × (Int × (Int × Int)))))
      else
       some ((a1, (a2, a3)), ([] : List (Int × (Int × (Int × Int)))))
     else
      some ((a1, (a2, a3)), ([] : List (Int × (Int × (Int × Int))))) := rfl
theorem openR_eq (a1 a2 a3 a4 a5 a6 : Int) : dialtoneref13_open ((a1, (a2, a3)), (a4, (a5, a6))) =

  bif (decide (a4 = (5 : Int))) then
   bif (decide (a6 = (5 : Int))) then
    bif (decide (a1 = (2 : Int))) then
     bindO (some (Go.IntKind.wrap .i64 ((2 : Int) * a2))) fun x7 =>
     some ((a1, ((minA x7 (4000 : Int)), a3)), (((1 : Int), ((0 : Int), ((0 : Int), (0 : Int)))) :: (((4 : Int), ((0 : Int), ((5 : Int), (minA x7 (4000 : Int))))) :: ([] : List (Int × (Int × (Int × Int)))))))
    else
     some ((a1, ((4000 : Int), a3)), (((1 : Int), ((0 : Int), ((0 : Int), (0 : Int)))) :: (((4 : Int), ((0 : Int), ((5 : Int), (4000 : Int)))) :: ([] : List (Int × (Int × (Int × Int)))))))
   else
    bif (decide (a4 = (5 : Int))) then
     bif (decide (a6 = (6 : Int))) then
      some (((7 : Int), ((0 : Int), (0 : Int))), (((5 : Int), ((0 : Int), ((0 : Int), (0 : Int)))) :: (((7 : Int), ((0 : Int), ((0 : Int), (0 : Int)))) :: ([] : List (Int × (Int × (Int × Int)))))))
     else
      bif (decide (a4 = (6 : Int))) then
       some (((7 : Int), ((0 : Int), (0 : Int))), (((6 : Int), ((0 : Int), ((0 : Int), (0 : Int)))) :: (((7 : Int), ((0 : Int), ((0 : Int), (0 : Int)))) :: ([] : List (Int × (Int × (Int × Int)))))))
      else
       bif (decide (a4 = (2 : Int))) then
        bindO (dialtoneref12_From (a5, ((100 : Int), (199 : Int)))) fun x8 =>
        bif x8 then
         some (((3 : Int), (a2, (0 : Int))), (((3 : Int), (a5, ((0 : Int), (0 : Int)))) :: ([] : List (Int × (Int × (Int × Int))))))
        else
         bif (decide (a4 = (2 : Int))) then
          bindO (dialtoneref12_From (a5, ((200 : Int), (699 : Int)))) fun x9 =>
          bif x9 then
           some (((5 : Int), ((0 : Int), a5)), (((3 : Int), (a5, ((0 : Int), (0 : Int)))) :: (((4 : Int), ((0 : Int), ((11 : Int), (5000 : Int)))) :: ([] : List (Int × (Int × (Int × Int)))))))
          else
           some ((a1, (a2, a3)), ([] : List (Int × (Int × (Int × Int)))))
         else
          some ((a1, (a2, a3)), ([] : List (Int × (Int × (Int × Int)))))
       else
        bif (decide (a4 = (2 : Int))) then
         bindO (dialtoneref12_From (a5, ((200 : Int), (699 : Int)))) fun x10 =>
         bif x10 then
          some (((5 : Int), ((0 : Int), a5)), (((3 : Int), (a5, ((0 : Int), (0 : Int)))) :: (((4 : Int), ((0 : Int), ((11 : Int), (5000 : Int)))) :: ([] : List (Int × (Int × (Int × Int)))))))
         else
          some ((a1, (a2, a3)), ([] : List (Int × (Int × (Int × Int)))))
        else
         some ((a1, (a2, a3)), ([] : List (Int × (Int × (Int × Int)))))
    else
     bif (decide (a4 = (6 : Int))) then
      some (((7 : Int), ((0 : Int), (0 : Int))), (((6 : Int), ((0 : Int), ((0 : Int), (0 : Int)))) :: (((7 : Int), ((0 : Int), ((0 : Int), (0 : Int)))) :: ([] : List (Int × (Int × (Int × Int)))))))
     else
      bif (decide (a4 = (2 : Int))) then
       bindO (dialtoneref12_From (a5, ((100 : Int), (199 : Int)))) fun x11 =>
       bif x11 then
        some (((3 : Int), (a2, (0 : Int))), (((3 : Int), (a5, ((0 : Int), (0 : Int)))) :: ([] : List (Int × (Int × (Int × Int))))))
       else
        bif (decide (a4 = (2 : Int))) then
         bindO (dialtoneref12_From (a5, ((200 : Int), (699 : Int)))) fun x12 =>
         bif x12 then
          some (((5 : Int), ((0 : Int), a5)), (((3 : Int), (a5, ((0 : Int), (0 : Int)))) :: (((4 : Int), ((0 : Int), ((11 : Int), (5000 : Int)))) :: ([] : List (Int × (Int × (Int × Int)))))))
         else
          some ((a1, (a2, a3)), ([] : List (Int × (Int × (Int × Int)))))
        else
         some ((a1, (a2, a3)), ([] : List (Int × (Int × (Int × Int)))))
      else
       bif (decide (a4 = (2 : Int))) then
        bindO (dialtoneref12_From (a5, ((200 : Int), (699 : Int)))) fun x13 =>
        bif x13 then
         some (((5 : Int), ((0 : Int), a5)), (((3 : Int), (a5, ((0 : Int), (0 : Int)))) :: (((4 : Int), ((0 : Int), ((11 : Int), (5000 : Int)))) :: ([] : List (Int × (Int × (Int × Int)))))))
        else
         some ((a1, (a2, a3)), ([] : List (Int × (Int × (Int × Int)))))
       else
        some ((a1, (a2, a3)), ([] : List (Int × (Int × (Int × Int)))))
  else
   bif (decide (a4 = (5 : Int))) then
    bif (decide (a6 = (6 : Int))) then
     some (((7 : Int), ((0 : Int), (0 : Int))), (((5 : Int), ((0 : Int), ((0 : Int), (0 : Int)))) :: (((7 : Int), ((0 : Int), ((0 : Int), (0 : Int)))) :: ([] : List (Int × (Int × (Int × Int)))))))
    else
     bif (decide (a4 = (6 : Int))) then
      some (((7 : Int), ((0 : Int), (0 : Int))), (((6 : Int), ((0 : Int), ((0 : Int), (0 : Int)))) :: (((7 : Int), ((0 : Int), ((0 : Int), (0 : Int)))) :: ([] : List (Int × (Int × (Int × Int)))))))
     else
      bif (decide (a4 = (2 : Int))) then
       bindO (dialtoneref12_From (a5, ((100 : Int), (199 : Int)))) fun x14 =>
       bif x14 then
        some (((3 : Int), (a2, (0 : Int))), (((3 : Int), (a5, ((0 : Int), (0 : Int)))) :: ([] : List (Int × (Int × (Int × Int))))))
       else
        bif (decide (a4 = (2 : Int))) then
         bindO (dialtoneref12_From (a5, ((200 : Int), (699 : Int)))) fun x15 =>
         bif x15 then
          some (((5 : Int), ((0 : Int), a5)), (((3 : Int), (a5, ((0 : Int), (0 : Int)))) :: (((4 : Int), ((0 : Int), ((11 : Int), (5000 : Int)))) :: ([] : List (Int × (Int × (Int × Int)))))))
         else
          some ((a1, (a2, a3)), ([] : List (Int × (Int × (Int × Int)))))
        else
         some ((a1, (a2, a3)), ([] : List (Int × (Int × (Int × Int)))))
      else
       bif (decide (a4 = (2 : Int))) then
        bindO (dialtoneref12_From (a5, ((200 : Int), (699 : Int)))) fun x16 =>
        bif x16 then
         some (((5 : Int), ((0 : Int), a5)), (((3 : Int), (a5, ((0 : Int), (0 : Int)))) :: (((4 : Int), ((0 : Int), ((11 : Int), (5000 : Int)))) :: ([] : List (Int × (Int × (Int × Int)))))))
        else
         some ((a1, (a2, a3)), ([] : List (Int × (Int × (Int × Int)))))
       else
        some ((a1, (a2, a3)), ([] : List (Int × (Int × (Int × Int)))))
   else
    bif (decide (a4 = (6 : Int))) then
     some (((7 : Int), ((0 : Int), (0 : Int))), (((6 : Int), ((0 : Int), ((0 : Int), (0 : Int)))) :: (((7 : Int), ((0 : Int), ((0 : Int), (0 : Int)))) :: ([] : List (Int × (Int × (Int × Int)))))))
    else
     bif (decide (a4 = (2 : Int))) then
      bindO (dialtoneref12_From (a5, ((100 : Int), (199 : Int)))) fun x17 =>
      bif x17 then
       some (((3 : Int), (a2, (0 : Int))), (((3 : Int), (a5, ((0 : Int), (0 : Int)))) :: ([] : List (Int × (Int × (Int × Int))))))
      else
       bif (decide (a4 = (2 : Int))) then
        bindO (dialtoneref12_From (a5, ((200 : Int), (699 : Int)))) fun x18 =>
        bif x18 then
         some (((5 : Int), ((0 : Int), a5)), (((3 : Int), (a5, ((0 : Int), (0 : Int)))) :: (((4 : Int), ((0 : Int), ((11 : Int), (5000 : Int)))) :: ([] : List (Int × (Int × (Int × Int)))))))
        else
         some ((a1, (a2, a3)), ([] : List (Int × (Int × (Int × Int)))))
       else
        some ((a1, (a2, a3)), ([] : List (Int × (Int × (Int × Int)))))
     else
      bif (decide (a4 = (2 : Int))) then
       bindO (dialtoneref12_From (a5, ((200 : Int), (699 : Int)))) fun x19 =>
       bif x19 then
        some (((5 : Int), ((0 : Int), a5)), (((3 : Int), (a5, ((0 : Int), (0 : Int)))) :: (((4 : Int), ((0 : Int), ((11 : Int), (5000 : Int)))) :: ([] : List (Int × (Int × (Int × Int)))))))
       else
        some ((a1, (a2, a3)), ([] : List (Int × (Int × (Int × Int)))))
      else
       some ((a1, (a2, a3)), ([] : List (Int × (Int × (Int × Int))))) := rfl
abbrev W4 (w : Int) : Prop := w = 500 ∨ w = 1000 ∨ w = 2000 ∨ w = 4000
theorem st_E {s w : Int} (hs : s = 2 ∨ s = 3) (hw : W4 w) : ∃ w', W4 w' ∧ 1000 ≤ w' ∧ client_Step ((s, (w, 0)), (5, (0, 5))) = some ((s, (w', 0)), [(1, 0, 0, 0), (4, 0, 5, w')]) := by
  rcases hs with rfl | rfl <;> rcases hw with rfl | rfl | rfl | rfl
  · exact ⟨1000, by omega, by omega, rfl⟩
  · exact ⟨2000, by omega, by omega, rfl⟩
  all_goals exact ⟨4000, by omega, by omega, rfl⟩
theorem st_F {s w : Int} (hs : s = 2 ∨ s = 3) (hw : W4 w) : client_Step ((s, (w, 0)), (5, (0, 6))) = some ((7, (0, 0)), [(5, 0, 0, 0), (7, 0, 0, 0)]) := by
  rcases hs with rfl | rfl <;> rcases hw with rfl | rfl | rfl | rfl <;> rfl
theorem ok_run {s w : Int} (hs : s = 2 ∨ s = 3) (hw : W4 w) : Ok13 s w 0 := .inl ⟨hs, rfl, hw⟩
theorem st_give {s w : Int} (hs : s = 2 ∨ s = 3) (hw : W4 w) (kd cd : Int) :
    client_Step ((s, (w, 0)), (kd, (cd, 0))) = some ((7, (0, 0)), [(6, 0, 0, 0), (7, 0, 0, 0)]) ∨
    (100 ≤ cd ∧ cd ≤ 199 ∧ client_Step ((s, (w, 0)), (kd, (cd, 0))) = some ((3, (w, 0)), [(3, cd, 0, 0)])) ∨
    (200 ≤ cd ∧ cd ≤ 699 ∧ client_Step ((s, (w, 0)), (kd, (cd, 0))) = some ((5, (0, cd)), [(3, cd, 0, 0), (4, 0, 11, 5000)])) ∨
    client_Step ((s, (w, 0)), (kd, (cd, 0))) = some ((s, (w, 0)), []) := by
  rw [step_j]
  have e : dialtoneref13_Step ((s, (w, 0)), (kd, (cd, 0))) = bindO (dialtoneref13_open ((s, (w, 0)), (kd, (cd, 0)))) fun x => some x := by
    rw [stepR_eq, mayR_j, decide_eq_true (ok_run hs hw)]
    rcases hs with rfl | rfl <;> simp (disch := (first | omega | (simp only [List.length_append, List.length_cons, List.length_nil, List.nil_append, List.length_take, List.length_drop]; omega))) only [↓bindO_some, ↓bindO_none, ↓joinO_inl, ↓joinO_inr, ↓joinO_none, ↓outO_some, ↓outO_none, ↓cond_true, ↓cond_false, ↓cond_and, ↓cond_or, ↓cond_not, ↓cond_ite, ↓if_pos, ↓if_neg, ↓if_true, ↓if_false, List.take_length, Nat.le_refl, Bool.not_true, Bool.not_false, decide_true] <;> rfl
  rw [e]
  have hf : ∀ (b c : Int), dialtoneref12_From (cd, (b, c)) = bif decide (cd ≥ b) then some (decide (cd ≤ c)) else some false := fun b c => rfl
  rw [openR_eq]
  by_cases h5 : kd = 5
  · subst h5
    refine .inr (.inr (.inr ?_))
    rcases hs with rfl | rfl <;> simp [bindO, joinO, outO]
  by_cases h6 : kd = 6
  · subst h6
    refine .inl ?_
    rcases hs with rfl | rfl <;> simp [bindO, joinO, outO]
  by_cases h2 : kd = 2
  · subst h2
    by_cases k1 : cd ≥ 100 ∧ cd ≤ 199
    · refine .inr (.inl ⟨k1.1, k1.2, ?_⟩)
      rcases hs with rfl | rfl <;> simp [bindO, joinO, outO, hf, k1]
    by_cases k2 : cd ≥ 200 ∧ cd ≤ 699
    · refine .inr (.inr (.inl ⟨k2.1, k2.2, ?_⟩))
      have k3 : ¬ cd ≤ 199 := by omega
      rcases hs with rfl | rfl <;> simp [bindO, joinO, outO, hf, k2, k3] <;> omega
    · refine .inr (.inr (.inr ?_))
      by_cases a1 : cd ≥ 100 <;> by_cases a2 : cd ≤ 199 <;> by_cases a3 : cd ≥ 200 <;> by_cases a4 : cd ≤ 699 <;>
        first | (exfalso; omega) | (rcases hs with rfl | rfl <;> simp [bindO, joinO, outO, hf, a1, a2, a3, a4])
  · refine .inr (.inr (.inr ?_))
    rcases hs with rfl | rfl <;> simp [bindO, joinO, outO, h5, h6, h2]
theorem st_B {c : Int} (hc : 200 ≤ c ∧ c ≤ 699) (kd cd tm : Int) (h : ¬ (kd = 5 ∧ tm = 11)) : client_Step ((5, (0, c)), (kd, (cd, tm))) = some ((5, (0, c)), []) := by
  rw [step_j]
  rw [stepR_eq, mayR_j, decide_eq_true (show Ok13 5 0 c from .inr (.inl ⟨rfl, rfl, hc⟩))]
  by_cases h1 : kd = 5
  · have h2 : tm ≠ 11 := fun k => h ⟨h1, k⟩
    simp [bindO, h1, h2]
  · simp [bindO, h1]
theorem st_K {c : Int} (hc : 200 ≤ c ∧ c ≤ 699) : client_Step ((5, (0, c)), (5, (0, 11))) = some ((7, (0, c)), [(7, 0, 0, 0)]) := by
  rw [step_j]
  rw [stepR_eq, mayR_j, decide_eq_true (show Ok13 5 0 c from .inr (.inl ⟨rfl, rfl, hc⟩))]
  simp [bindO]
theorem st_C {c : Int} (hc : c = 0 ∨ (200 ≤ c ∧ c ≤ 699)) (kd cd tm : Int) : client_Step ((7, (0, c)), (kd, (cd, tm))) = some ((7, (0, c)), []) := by
  rw [step_j]
  rw [stepR_eq, mayR_j, decide_eq_true (show Ok13 7 0 c from .inr (.inr ⟨rfl, rfl, hc⟩))]
  simp [bindO]
def P0 (T : Int) (x : EnT) : Prop := x.1 ≤ T ∧ (x.2.1 = 1 ∨ x.2.1 = 4 ∨ (x.2.1 = 3 ∧ 100 ≤ x.2.2.1 ∧ x.2.2.1 ≤ 199))
theorem P0.mono {T T' : Int} {x : EnT} (h : P0 T x) (k : T ≤ T') : P0 T' x := ⟨Int.le_trans h.1 k, h.2⟩
abbrev TD (e now : Int) : Prop := e = -1 ∨ (now ≤ e ∧ e ≤ 37000)
def FB (t c : Int) : List EnT := [(t, 3, c, 0, 0), (t, 4, 0, 11, 5000)]
def PA (s w c e f k now : Int) (log : List EnT) : Prop := (s = 2 ∨ s = 3) ∧ W4 w ∧ c = 0 ∧ f = 32000 ∧ k = -1 ∧ 0 ≤ now ∧ now ≤ 32000 ∧ now ≤ e ∧ e ≤ 36000 ∧ ∀ x ∈ log, P0 now x
def PB (s w c e f k now : Int) (log : List EnT) : Prop := s = 5 ∧ w = 0 ∧ (200 ≤ c ∧ c ≤ 699) ∧ 0 ≤ now ∧ now ≤ k ∧ k ≤ 37000 ∧ TD e now ∧ TD f now ∧ ∃ t A, log = A ++ FB t c ∧ (∀ x ∈ A, P0 t x) ∧ t ≤ now
def EndT (log : List EnT) (now : Int) : Prop := ∃ t A B, log = A ++ B ∧ (∀ x ∈ A, P0 t x) ∧ t ≤ now ∧ t ≤ 37000 ∧ (B = [(t, 5, 0, 0, 0), (t, 7, 0, 0, 0)] ∨ B = [(t, 6, 0, 0, 0), (t, 7, 0, 0, 0)] ∨ ∃ t0 c0, 200 ≤ c0 ∧ c0 ≤ 699 ∧ t0 ≤ t ∧ B = FB t0 c0 ++ [(t, 7, 0, 0, 0)])
theorem EndT.mono {log : List EnT} {n n' : Int} (h : EndT log n) (k : n ≤ n') : EndT log n' := by
  obtain ⟨t, A, B, h1, h2, h3, h4, h5⟩ := h
  exact ⟨t, A, B, h1, h2, by omega, h4, h5⟩
def PC (s w c e f k now : Int) (log : List EnT) : Prop := s = 7 ∧ w = 0 ∧ (c = 0 ∨ (200 ≤ c ∧ c ≤ 699)) ∧ 0 ≤ now ∧ TD e now ∧ TD f now ∧ TD k now ∧ EndT log now
def INV (s w c e f k now : Int) (log : List EnT) : Prop := PA s w c e f k now log ∨ PB s w c e f k now log ∨ PC s w c e f k now log
def cn (x : Int) : Nat := if x = -1 then 0 else 1
def mu (s e f k : Int) : Nat := if s = 2 ∨ s = 3 then ((36000 - e) / 1000).toNat + 4 else cn e + cn f + cn k
theorem mu_n {s e f k : Int} (h : ¬ (s = 2 ∨ s = 3)) : mu s e f k = cn e + cn f + cn k := if_neg h
theorem cn_m : cn (-1) = 0 := rfl
theorem cn_p {e : Int} (h : e ≠ -1) : cn e = 1 := if_neg h
theorem pk_cases (e f k t : Int) : (pk e f k t = -1 ∧ ¬ (0 ≤ e ∧ e ≤ t) ∧ ¬ (0 ≤ f ∧ f ≤ t) ∧ ¬ (0 ≤ k ∧ k ≤ t)) ∨ (pk e f k t = 5 ∧ (0 ≤ e ∧ e ≤ t) ∧ ¬ (0 ≤ f ∧ f ≤ t ∧ f < e) ∧ ¬ (0 ≤ k ∧ k ≤ t ∧ k < e)) ∨ (pk e f k t = 6 ∧ (0 ≤ f ∧ f ≤ t) ∧ ¬ (0 ≤ e ∧ e ≤ t ∧ e ≤ f) ∧ ¬ (0 ≤ k ∧ k ≤ t ∧ k < f)) ∨ (pk e f k t = 11 ∧ (0 ≤ k ∧ k ≤ t) ∧ ¬ (0 ≤ e ∧ e ≤ t ∧ e ≤ k) ∧ ¬ (0 ≤ f ∧ f ≤ t ∧ f ≤ k)) := by
  unfold pk p6 p5
  by_cases h1 : 0 ≤ e ∧ e ≤ t <;> by_cases h2 : 0 ≤ f ∧ f ≤ t <;> by_cases h3 : 0 ≤ k ∧ k ≤ t <;> by_cases h4 : f < e <;> by_cases h5 : k < e <;> by_cases h6 : k < f <;> simp [h1, h2, h3, h4, h5, h6] <;> omega
section
variable {δ : Type} (s w c e f k now : Int) (log : List EnT) (hl : log.length ≤ 90000)
include hl
omit hl in
theorem take_nil : loopO (takeB (δ := δ) []) (0, mkS s w c e f k now log) = some (.inl (mkS s w c e f k now log)) :=
  loopO_from (fun _ => ((0 : Int), mkS s w c e f k now log)) 0 rfl (fun i hi => absurd hi (by omega)) (take_end s w c e f k now log [])
theorem take_1 (x : Ou) (hx : x.1 ≠ 4) : loopO (takeB (δ := δ) [x]) (0, mkS s w c e f k now log) = some (.inl (mkS s w c e f k now (log ++ [(now, x)]))) := by
  rw [loopO_eq, show ((0 : Int), mkS s w c e f k now log) = (((0 : Nat) : Int), mkS s w c e f k now log) from rfl, take_one s w c e f k now log (by omega) [x] 0 x (by simp) (by omega) rfl hx]
  simp only
  rw [loopO_eq, show (((0 + 1 : Nat) : Int), mkS s w c e f k now (log ++ [(now, x)])) = (([x].length : Int), mkS s w c e f k now (log ++ [(now, x)])) from rfl, take_end]
theorem take_2 (x y : Ou) (hx : x.1 ≠ 4) (hy : y.1 ≠ 4) : loopO (takeB (δ := δ) [x, y]) (0, mkS s w c e f k now log) = some (.inl (mkS s w c e f k now (log ++ [(now, x), (now, y)]))) := by
  have hl2 : (log ++ [(now, x)]).length ≤ 100000 := by rw [List.length_append]; show log.length + 1 ≤ _; omega
  rw [loopO_eq, show ((0 : Int), mkS s w c e f k now log) = (((0 : Nat) : Int), mkS s w c e f k now log) from rfl, take_one s w c e f k now log (by omega) [x, y] 0 x (by simp) (by omega) rfl hx]
  simp only
  rw [loopO_eq, take_one s w c e f k now _ hl2 [x, y] (0 + 1) y (by simp) (by omega) rfl hy]
  simp only
  rw [List.append_assoc, loopO_eq, show (((0 + 1 + 1 : Nat) : Int), mkS s w c e f k now (log ++ ([(now, x)] ++ [(now, y)]))) = (([x, y].length : Int), mkS s w c e f k now (log ++ [(now, x), (now, y)])) from rfl, take_end]
theorem take_xE (x : Ou) (a : Int) (hx : x.1 ≠ 4) : loopO (takeB (δ := δ) [x, (4, 0, 5, a)]) (0, mkS s w c e f k now log) = some (.inl (mkS s w c (IntKind.wrap .i64 (now + maxA 1 a)) f k now (log ++ [(now, x), (now, (4, 0, 5, a))]))) := by
  have hl2 : (log ++ [(now, x)]).length ≤ 100000 := by rw [List.length_append]; show log.length + 1 ≤ _; omega
  rw [loopO_eq, show ((0 : Int), mkS s w c e f k now log) = (((0 : Nat) : Int), mkS s w c e f k now log) from rfl, take_one s w c e f k now log (by omega) [x, (4, 0, 5, a)] 0 x (by simp) (by omega) rfl hx]
  simp only
  rw [loopO_eq, take_E s w c e f k now _ hl2 [x, (4, 0, 5, a)] (0 + 1) a (by simp) (by omega) rfl]
  simp only
  rw [List.append_assoc, loopO_eq, show (((0 + 1 + 1 : Nat) : Int), mkS s w c (IntKind.wrap .i64 (now + maxA 1 a)) f k now (log ++ ([(now, x)] ++ [(now, (4, 0, 5, a))]))) = (([x, (4, 0, 5, a)].length : Int), mkS s w c (IntKind.wrap .i64 (now + maxA 1 a)) f k now (log ++ [(now, x), (now, (4, 0, 5, a))])) from rfl, take_end]
theorem take_xK (x : Ou) (a : Int) (hx : x.1 ≠ 4) : loopO (takeB (δ := δ) [x, (4, 0, 11, a)]) (0, mkS s w c e f k now log) = some (.inl (mkS s w c e f (IntKind.wrap .i64 (now + maxA 1 a)) now (log ++ [(now, x), (now, (4, 0, 11, a))]))) := by
  have hl2 : (log ++ [(now, x)]).length ≤ 100000 := by rw [List.length_append]; show log.length + 1 ≤ _; omega
  rw [loopO_eq, show ((0 : Int), mkS s w c e f k now log) = (((0 : Nat) : Int), mkS s w c e f k now log) from rfl, take_one s w c e f k now log (by omega) [x, (4, 0, 11, a)] 0 x (by simp) (by omega) rfl hx]
  simp only
  rw [loopO_eq, take_K s w c e f k now _ hl2 [x, (4, 0, 11, a)] (0 + 1) a (by simp) (by omega) rfl]
  simp only
  rw [List.append_assoc, loopO_eq, show (((0 + 1 + 1 : Nat) : Int), mkS s w c e f (IntKind.wrap .i64 (now + maxA 1 a)) now (log ++ ([(now, x)] ++ [(now, (4, 0, 11, a))]))) = (([x, (4, 0, 11, a)].length : Int), mkS s w c e f (IntKind.wrap .i64 (now + maxA 1 a)) now (log ++ [(now, x), (now, (4, 0, 11, a))])) from rfl, take_end]
end
theorem fire {γ : Type} {s w c e f k now t : Int} {log : List EnT} {n : Nat} (h : INV s w c e f k now log) (hl : log.length ≤ 90000) (hn : n < 200) (hp : pk e f k t ≠ -1) (ht : t ≤ 3000000) :
    ∃ s' w' c' e' f' k' now' log', untilB (γ := γ) t ((n : Int), mkS s w c e f k now log) = some (.inl (((n + 1 : Nat) : Int), mkS s' w' c' e' f' k' now' log')) ∧ INV s' w' c' e' f' k' now' log' ∧ mu s' e' f' k' < mu s e f k ∧ log'.length ≤ log.length + 2 ∧ now' ≤ t := by
  rcases h with h | h | h
  · obtain ⟨hs, hw, rfl, rfl, rfl, n0, n1, he, he2, hlog⟩ := h
    have hmono : ∀ T, now ≤ T → ∀ x ∈ log, P0 T x := fun T hT x hx => (hlog x hx).mono hT
    rcases pk_cases e 32000 (-1) t with ⟨g, _⟩ | ⟨g, g1, g2, g3⟩ | ⟨g, g1, g2, g3⟩ | ⟨g, g1, g2, g3⟩
    · exact (hp g).elim
    · obtain ⟨w', q1, q2, q3⟩ := st_E hs hw
      have hmx : maxA 1 w' = w' := by unfold maxA; omega
      have htk : ∀ {δ : Type}, loopO (takeB (δ := δ) [(1, 0, 0, 0), (4, 0, 5, w')]) (0, mkS s w' 0 (-1) 32000 (-1) e log) = some (.inl (mkS s w' 0 (e + w') 32000 (-1) e (log ++ [(e, (1, 0, 0, 0)), (e, (4, 0, 5, w'))]))) := fun {δ} => by
        rw [take_xE s w' 0 (-1) 32000 (-1) e log hl _ _ (by simp), hmx, wrap_i64' (by omega)]
      refine ⟨_, _, _, _, _, _, _, _, until_E (γ := γ) s w 0 e 32000 (-1) now t log n hn g q3 htk, .inl ⟨hs, q1, rfl, rfl, rfl, by omega, by omega, by omega, by omega, fun x hx => ?_⟩, ?_, by simp, g1.2⟩
      · rcases List.mem_append.1 hx with hx | hx
        · exact hmono e he x hx
        · rcases List.mem_cons.1 hx with rfl | hx
          · exact ⟨Int.le_refl _, .inl rfl⟩
          · rcases List.mem_cons.1 hx with rfl | hx
            · exact ⟨Int.le_refl _, .inr (.inl rfl)⟩
            · cases hx
      · unfold mu
        rw [if_pos hs, if_pos hs]
        omega
    · have htk : ∀ {δ : Type}, loopO (takeB (δ := δ) [(5, 0, 0, 0), (7, 0, 0, 0)]) (0, mkS 7 0 0 e (-1) (-1) 32000 log) = some (.inl (mkS 7 0 0 e (-1) (-1) 32000 (log ++ [(32000, (5, 0, 0, 0)), (32000, (7, 0, 0, 0))]))) := fun {δ} => take_2 7 0 0 e (-1) (-1) 32000 log hl _ _ (by simp) (by simp)
      refine ⟨_, _, _, _, _, _, _, _, until_F (γ := γ) s w 0 e 32000 (-1) now t log n hn g (st_F hs hw) htk, .inr (.inr ⟨rfl, rfl, .inl rfl, by omega, .inr ⟨by omega, by omega⟩, .inl rfl, .inl rfl, 32000, log, _, rfl, hmono 32000 n1, by omega, by omega, .inl rfl⟩), ?_, by simp, g1.2⟩
      unfold mu cn
      rw [if_pos hs, if_neg (by omega)]
      split <;> simp <;> omega
    · omega
  · obtain ⟨rfl, rfl, hc, n0, n1, n2, he, hf, t0, A, hA, hA2, hA3⟩ := h
    rcases pk_cases e f k t with ⟨g, _⟩ | ⟨g, g1, g2, g3⟩ | ⟨g, g1, g2, g3⟩ | ⟨g, g1, g2, g3⟩
    · exact (hp g).elim
    · refine ⟨_, _, _, _, _, _, _, _, until_E (γ := γ) 5 0 c e f k now t log n hn g (st_B hc 5 0 5 (by omega)) (fun {δ} => take_nil 5 0 c (-1) f k e log), .inr (.inl ⟨rfl, rfl, hc, by omega, by omega, n2, .inl rfl, by unfold TD at *; omega, t0, A, hA, hA2, by unfold TD at *; omega⟩), ?_, by omega, g1.2⟩
      rw [mu_n (by omega), mu_n (by omega), cn_m, cn_p (show e ≠ -1 by omega)]
      omega
    · refine ⟨_, _, _, _, _, _, _, _, until_F (γ := γ) 5 0 c e f k now t log n hn g (st_B hc 5 0 6 (by omega)) (fun {δ} => take_nil 5 0 c e (-1) k f log), .inr (.inl ⟨rfl, rfl, hc, by omega, by omega, n2, by unfold TD at *; omega, .inl rfl, t0, A, hA, hA2, by unfold TD at *; omega⟩), ?_, by omega, g1.2⟩
      rw [mu_n (by omega), mu_n (by omega), cn_m, cn_p (show f ≠ -1 by omega)]
      omega
    · refine ⟨_, _, _, _, _, _, _, _, until_K (γ := γ) 5 0 c e f k now t log n hn g (st_K hc) (fun {δ} => take_1 7 0 c e f (-1) k log hl _ (by simp)), .inr (.inr ⟨rfl, rfl, .inr hc, by omega, by unfold TD at *; omega, by unfold TD at *; omega, .inl rfl, k, A, FB t0 c ++ [(k, (7, 0, 0, 0))], by rw [hA, List.append_assoc], fun x hx => (hA2 x hx).mono (by omega), by omega, n2, .inr (.inr ⟨t0, c, hc.1, hc.2, by omega, rfl⟩)⟩), ?_, by simp, g1.2⟩
      rw [mu_n (by omega), mu_n (by omega), cn_m, cn_p (show k ≠ -1 by omega)]
      omega
  · obtain ⟨rfl, rfl, hc, n0, he, hf, hk, hE⟩ := h
    rcases pk_cases e f k t with ⟨g, _⟩ | ⟨g, g1, g2, g3⟩ | ⟨g, g1, g2, g3⟩ | ⟨g, g1, g2, g3⟩
    · exact (hp g).elim
    · refine ⟨_, _, _, _, _, _, _, _, until_E (γ := γ) 7 0 c e f k now t log n hn g (st_C hc 5 0 5) (fun {δ} => take_nil 7 0 c (-1) f k e log), .inr (.inr ⟨rfl, rfl, hc, by omega, .inl rfl, by unfold TD at *; omega, by unfold TD at *; omega, hE.mono (by unfold TD at *; omega)⟩), ?_, by omega, g1.2⟩
      rw [mu_n (by omega), mu_n (by omega), cn_m, cn_p (show e ≠ -1 by omega)]
      omega
    · refine ⟨_, _, _, _, _, _, _, _, until_F (γ := γ) 7 0 c e f k now t log n hn g (st_C hc 5 0 6) (fun {δ} => take_nil 7 0 c e (-1) k f log), .inr (.inr ⟨rfl, rfl, hc, by omega, by unfold TD at *; omega, .inl rfl, by unfold TD at *; omega, hE.mono (by unfold TD at *; omega)⟩), ?_, by omega, g1.2⟩
      rw [mu_n (by omega), mu_n (by omega), cn_m, cn_p (show f ≠ -1 by omega)]
      omega
    · refine ⟨_, _, _, _, _, _, _, _, until_K (γ := γ) 7 0 c e f k now t log n hn g (st_C hc 5 0 11) (fun {δ} => take_nil 7 0 c e f (-1) k log), .inr (.inr ⟨rfl, rfl, hc, by omega, by unfold TD at *; omega, by unfold TD at *; omega, .inl rfl, hE.mono (by unfold TD at *; omega)⟩), ?_, by omega, g1.2⟩
      rw [mu_n (by omega), mu_n (by omega), cn_m, cn_p (show k ≠ -1 by omega)]
      omega
end Go.Proofs.Ytohhpcggahlpjaa
