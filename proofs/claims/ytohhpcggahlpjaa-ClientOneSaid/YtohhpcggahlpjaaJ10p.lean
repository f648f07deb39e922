import Derived.Test.YtohhpcggahlpjaaJ9p
set_option linter.unusedVariables false
set_option linter.unusedSimpArgs false
set_option maxRecDepth 1000000
set_option maxHeartbeats 4000000
namespace Go.Proofs.Ytohhpcggahlpjaa
open Go.RowKit
section
variable {γ : Type} (s w c e f k now t : Int) (log : List EnT) (n : Nat) (hn : n < 200)
include hn
theorem until_end (h : pk e f k t = -1) : untilB (γ := γ) t ((n : Int), mkS s w c e f k now log) = some (.inr (.inl (mkS s w c e f k now log))) := by
  have hp := pick_j (δ := (Int × Int × NT) ⊕ (Int × NT) ⊕ (NT ⊕ γ)) e f k now t
  rw [h] at hp
  unfold untilB mkS
  unfold pkB at hp
  simp (disch := (first | omega | (simp only [List.length_append, List.length_cons, List.length_nil, List.nil_append, List.length_take, List.length_drop]; omega))) only [↓bindO_some, ↓bindO_none, ↓joinO_inl, ↓joinO_inr, ↓joinO_none, ↓outO_some, ↓outO_none, ↓cond_true, ↓cond_false, ↓cond_and, ↓cond_or, ↓cond_not, ↓cond_ite, ↓if_pos, ↓if_neg, ↓if_true, ↓if_false, List.take_length, Nat.le_refl, Bool.not_true, Bool.not_false, if_pos, if_neg, hp]
theorem until_E {s' w' c' e' f' k' now' : Int} {log' : List EnT} {O : List Ou} (h : pk e f k t = 5) (hs : client_Step ((s, (w, c)), (5, (0, 5))) = some ((s', (w', c')), O)) (ht : ∀ {δ : Type}, loopO (takeB (δ := δ) O) (0, mkS s' w' c' (-1) f k e log) = some (.inl (mkS s' w' c' e' f' k' now' log'))) :
    untilB (γ := γ) t ((n : Int), mkS s w c e f k now log) = some (.inl (((n + 1 : Nat) : Int), mkS s' w' c' e' f' k' now' log')) := by
  have hp := pick_j (δ := (Int × Int × NT) ⊕ (Int × NT) ⊕ (NT ⊕ γ)) e f k now t
  rw [h] at hp
  unfold pkB at hp
  have ht := ht (δ := (Int × Int × NT) ⊕ (Int × NT) ⊕ (NT ⊕ γ))
  have hn' : ((n : Int) + 1) = ((n + 1 : Nat) : Int) := rfl
  have hg : ∀ {β : Type} (g : Int → Option β), bindO [-1, -1, -1, -1, -1, e, f, -1, -1, -1, -1, k, -1, -1, now][Int.toNat 5]? g = g e := fun g => rfl
  have hu : IntKind.wrap .u8 5 = 5 := rfl
  unfold mkS at ht
  unfold untilB mkS
  simp (disch := (first | omega | (simp only [List.length_append, List.length_cons, List.length_nil, List.nil_append, List.length_take, List.length_drop]; omega))) only [↓bindO_some, ↓bindO_none, ↓joinO_inl, ↓joinO_inr, ↓joinO_none, ↓outO_some, ↓outO_none, ↓cond_true, ↓cond_false, ↓cond_and, ↓cond_or, ↓cond_not, ↓cond_ite, ↓if_pos, ↓if_neg, ↓if_true, ↓if_false, List.take_length, Nat.le_refl, Bool.not_true, Bool.not_false, if_pos, if_neg, hp, hg, hu, hs]
  refine joinO_eq (a := ((14 : Int), ((5 : Int), mkS s' w' c' e' f' k' now' log'))) (joinO_eq ht rfl) ?_
  simp (disch := (first | omega | (simp only [List.length_append, List.length_cons, List.length_nil, List.nil_append, List.length_take, List.length_drop]; omega))) only [wrap_i64', hn']
  rfl
theorem until_F {s' w' c' e' f' k' now' : Int} {log' : List EnT} {O : List Ou} (h : pk e f k t = 6) (hs : client_Step ((s, (w, c)), (5, (0, 6))) = some ((s', (w', c')), O)) (ht : ∀ {δ : Type}, loopO (takeB (δ := δ) O) (0, mkS s' w' c' e (-1) k f log) = some (.inl (mkS s' w' c' e' f' k' now' log'))) :
    untilB (γ := γ) t ((n : Int), mkS s w c e f k now log) = some (.inl (((n + 1 : Nat) : Int), mkS s' w' c' e' f' k' now' log')) := by
  have hp := pick_j (δ := (Int × Int × NT) ⊕ (Int × NT) ⊕ (NT ⊕ γ)) e f k now t
  rw [h] at hp
  unfold pkB at hp
  have ht := ht (δ := (Int × Int × NT) ⊕ (Int × NT) ⊕ (NT ⊕ γ))
  have hn' : ((n : Int) + 1) = ((n + 1 : Nat) : Int) := rfl
  have hg : ∀ {β : Type} (g : Int → Option β), bindO [-1, -1, -1, -1, -1, e, f, -1, -1, -1, -1, k, -1, -1, now][Int.toNat 6]? g = g f := fun g => rfl
  have hu : IntKind.wrap .u8 6 = 6 := rfl
  unfold mkS at ht
  unfold untilB mkS
  simp (disch := (first | omega | (simp only [List.length_append, List.length_cons, List.length_nil, List.nil_append, List.length_take, List.length_drop]; omega))) only [↓bindO_some, ↓bindO_none, ↓joinO_inl, ↓joinO_inr, ↓joinO_none, ↓outO_some, ↓outO_none, ↓cond_true, ↓cond_false, ↓cond_and, ↓cond_or, ↓cond_not, ↓cond_ite, ↓if_pos, ↓if_neg, ↓if_true, ↓if_false, List.take_length, Nat.le_refl, Bool.not_true, Bool.not_false, if_pos, if_neg, hp, hg, hu, hs]
  refine joinO_eq (a := ((14 : Int), ((6 : Int), mkS s' w' c' e' f' k' now' log'))) (joinO_eq ht rfl) ?_
  simp (disch := (first | omega | (simp only [List.length_append, List.length_cons, List.length_nil, List.nil_append, List.length_take, List.length_drop]; omega))) only [wrap_i64', hn']
  rfl
theorem until_K {s' w' c' e' f' k' now' : Int} {log' : List EnT} {O : List Ou} (h : pk e f k t = 11) (hs : client_Step ((s, (w, c)), (5, (0, 11))) = some ((s', (w', c')), O)) (ht : ∀ {δ : Type}, loopO (takeB (δ := δ) O) (0, mkS s' w' c' e f (-1) k log) = some (.inl (mkS s' w' c' e' f' k' now' log'))) :
    untilB (γ := γ) t ((n : Int), mkS s w c e f k now log) = some (.inl (((n + 1 : Nat) : Int), mkS s' w' c' e' f' k' now' log')) := by
  have hp := pick_j (δ := (Int × Int × NT) ⊕ (Int × NT) ⊕ (NT ⊕ γ)) e f k now t
  rw [h] at hp
  unfold pkB at hp
  have ht := ht (δ := (Int × Int × NT) ⊕ (Int × NT) ⊕ (NT ⊕ γ))
  have hn' : ((n : Int) + 1) = ((n + 1 : Nat) : Int) := rfl
  have hg : ∀ {β : Type} (g : Int → Option β), bindO [-1, -1, -1, -1, -1, e, f, -1, -1, -1, -1, k, -1, -1, now][Int.toNat 11]? g = g k := fun g => rfl
  have hu : IntKind.wrap .u8 11 = 11 := rfl
  unfold mkS at ht
  unfold untilB mkS
  simp (disch := (first | omega | (simp only [List.length_append, List.length_cons, List.length_nil, List.nil_append, List.length_take, List.length_drop]; omega))) only [↓bindO_some, ↓bindO_none, ↓joinO_inl, ↓joinO_inr, ↓joinO_none, ↓outO_some, ↓outO_none, ↓cond_true, ↓cond_false, ↓cond_and, ↓cond_or, ↓cond_not, ↓cond_ite, ↓if_pos, ↓if_neg, ↓if_true, ↓if_false, List.take_length, Nat.le_refl, Bool.not_true, Bool.not_false, if_pos, if_neg, hp, hg, hu, hs]
  refine joinO_eq (a := ((14 : Int), ((11 : Int), mkS s' w' c' e' f' k' now' log'))) (joinO_eq ht rfl) ?_
  simp (disch := (first | omega | (simp only [List.length_append, List.length_cons, List.length_nil, List.nil_append, List.length_take, List.length_drop]; omega))) only [wrap_i64', hn']
  rfl
end
end Go.Proofs.Ytohhpcggahlpjaa
