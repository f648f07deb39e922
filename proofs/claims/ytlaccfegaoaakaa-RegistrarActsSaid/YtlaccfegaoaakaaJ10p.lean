import Derived.Test.YtlaccfegaoaakaaJ9p
set_option linter.unusedVariables false
set_option linter.unusedSimpArgs false
set_option maxRecDepth 100000
set_option maxHeartbeats 4000000
namespace Go.Proofs.Ytlaccfegaoaakaa
open Go.RowKit
theorem pmany_succ {α : Type} {p : List Int → Option (α × List Int)} {n : Nat} {r R : List Int} {l : List α} (h : pmany p n r = some (l, R)) : pmany p (n + 1) r = (p R).bind fun a => some (l ++ [a.1], a.2) := by
  rw [pmany, h]; rfl
theorem dc_j {γ : Type} (n : Nat) (hn : n ≤ 255) (p1 p2 : Tx) (p3 : Int) (p4 : Bool) (p6 : Int) (p7 : Tx) (p8 : Int) {R0 : List Int} (h : Rok R0) :
    (∃ l R', pmany pct n R0 = some (l, R') ∧ Rok R' ∧ loopO (dcB (γ := γ) (n : Int)) (0, ((p1, (p2, (p3, (p4, ([], (p6, (p7, p8))))))), (R0, 0))) = some (.inl ((p1, (p2, (p3, (p4, (l.map mc, (p6, (p7, p8))))))), (R', 0)))) ∨
    (pmany pct n R0 = none ∧ ∃ l R', l.length ≤ 1000 ∧ Rok R' ∧ loopO (dcB (γ := γ) (n : Int)) (0, ((p1, (p2, (p3, (p4, ([], (p6, (p7, p8))))))), (R0, 0))) = some (.inl ((p1, (p2, (p3, (p4, (l, (p6, (p7, p8))))))), (R', 6)))) := by
  have hp := loopO_post (body := dcB (γ := γ) (n : Int))
    (fun x => ∃ (i : Nat) (l : List Ct) (R : List Int) (E : Int), x = ((i : Int), ((p1, (p2, (p3, (p4, (l, (p6, (p7, p8))))))), (R, E))) ∧ i ≤ n ∧ l.length = i ∧ Rok R ∧ ((E = 0 ∧ ∃ l', pmany pct i R0 = some (l', R) ∧ l = l'.map mc) ∨ (E = 6 ∧ pmany pct i R0 = none)))
    (fun r => ∃ (l : List Ct) (R : List Int) (E : Int), r = .inl ((p1, (p2, (p3, (p4, (l, (p6, (p7, p8))))))), (R, E)) ∧ l.length = n ∧ Rok R ∧ ((E = 0 ∧ ∃ l', pmany pct n R0 = some (l', R) ∧ l = l'.map mc) ∨ (E = 6 ∧ pmany pct n R0 = none)))
    (fun x => ((n : Int) - x.1).toNat)
    (fun x hx => by
      obtain ⟨i, l, R, E, rfl, hi, hl, hR, hE⟩ := hx
      by_cases hin : i < n
      · refine .inr ⟨_, dc_step n i hn hin p1 p2 p3 p4 l p6 p7 p8 hR (by omega), ⟨i + 1, _, _, _, rfl, hin, by rw [List.length_append, hl]; rfl, (num_ok (num_ok (gT_ok hR)).2).2, ?_⟩, ?_⟩
        · rcases rcd_j (E := E) hR with ⟨e0, q1, q2⟩ | ⟨q1, q2⟩
          · subst e0
            rcases hE with ⟨_, l', g1, g2⟩ | ⟨g, _⟩
            · refine .inl ⟨q2, l' ++ [_], ?_, by rw [List.map_append, g2]; rfl⟩
              rw [pmany_succ g1, q1]; rfl
            · cases g
          · refine .inr ⟨q1, ?_⟩
            rcases hE with ⟨e0, l', g1, g2⟩ | ⟨_, g⟩
            · rw [pmany_succ g1, q2 e0]; rfl
            · rw [pmany, g]; rfl
        · show ((n : Int) - ((i + 1 : Nat) : Int)).toNat < ((n : Int) - (i : Int)).toNat
          omega
      · have e : i = n := by omega
        subst e
        refine .inl ⟨.inl ((p1, (p2, (p3, (p4, (l, (p6, (p7, p8))))))), (R, E)), ?_, l, R, E, rfl, hl, hR, hE⟩
        unfold dcB
        simp (disch := (first | omega | (simp only [List.length_append, List.length_cons, List.length_nil, List.nil_append, List.length_take, List.length_drop]; omega))) only [↓bindO_some, ↓bindO_none, ↓joinO_inl, ↓joinO_inr, ↓joinO_none, ↓outO_some, ↓outO_none, ↓cond_true, ↓cond_false, ↓cond_and, ↓cond_or, ↓cond_not, ↓cond_ite, ↓if_pos, ↓if_neg, ↓if_true, ↓if_false, List.take_length, Nat.le_refl, Bool.not_true, Bool.not_false, if_neg])
    (x := (0, ((p1, (p2, (p3, (p4, ([], (p6, (p7, p8))))))), (R0, 0)))) ⟨0, [], R0, 0, rfl, by omega, rfl, h, .inl ⟨rfl, [], rfl, rfl⟩⟩
  obtain ⟨r, h1, l, R, E, rfl, hl, hR, hE⟩ := hp
  rcases hE with ⟨rfl, l', g1, g2⟩ | ⟨rfl, g⟩
  · subst g2; exact .inl ⟨l', R, g1, hR, h1⟩
  · exact .inr ⟨g, l, R, by omega, hR, h1⟩
theorem dp_step {γ : Type} (n i : Nat) (hn : n ≤ 255) (hi : i < n) (p1 p2 : Tx) (p3 : Int) (p4 : Bool) (p5 : List Ct) (p6 : Int) (p7 : Tx) (p8 : Int) (l : List Tx) {R : List Int} {E : Int} (h : Rok R) (hl : l.length ≤ 1000) :
    dpB (γ := γ) (n : Int) ((i : Int), ((p1, (p2, (p3, (p4, (p5, (p6, (p7, (p8, l)))))))), (R, E))) = some (.inl (((i + 1 : Nat) : Int), ((p1, (p2, (p3, (p4, (p5, (p6, (p7, (p8, l ++ [bt (gT R E).1])))))))), (gT R E).2))) := by
  have e2 : (256 : Int) ^ 2 = 65536 := by decide
  have a1 := num_ok (k := 2) (E := E) h
  have a2 := gT_ok (E := E) h
  rw [e2] at a1
  have hw : IntKind.wrap .u64 ((i : Int) + 1) = ((i + 1 : Nat) : Int) := by rw [wr_u64]; omega
  have hb : ∀ r : List Int, Rok r → r.length ≤ 100000 := fun r hr => by have := hr.2; omega
  unfold dpB
  simp (disch := (first | omega | (simp only [List.length_append, List.length_cons, List.length_nil, List.nil_append, List.length_take, List.length_drop]; omega))) only [↓bindO_some, ↓bindO_none, ↓joinO_inl, ↓joinO_inr, ↓joinO_none, ↓outO_some, ↓outO_none, ↓cond_true, ↓cond_false, ↓cond_and, ↓cond_or, ↓cond_not, ↓cond_ite, ↓if_pos, ↓if_neg, ↓if_true, ↓if_false, List.take_length, Nat.le_refl, Bool.not_true, Bool.not_false, if_pos]
  refine joinO_eq (dn2_j h.1 (hb _ h)) ?_
  refine joinO_eq (dt_j (R := (num 2 R E).2.1) (N := (num 2 R E).1) (E := (num 2 R E).2.2) ⟨a1.1.1, by omega⟩ (hb _ a1.2)) ?_
  simp (disch := (first | omega | (simp only [List.length_append, List.length_cons, List.length_nil, List.nil_append, List.length_take, List.length_drop]; omega))) only [↓bindO_some, ↓bindO_none, ↓joinO_inl, ↓joinO_inr, ↓joinO_none, ↓outO_some, ↓outO_none, ↓cond_true, ↓cond_false, ↓cond_and, ↓cond_or, ↓cond_not, ↓cond_ite, ↓if_pos, ↓if_neg, ↓if_true, ↓if_false, List.take_length, Nat.le_refl, Bool.not_true, Bool.not_false, if_pos, hw, bytesU_bt]
  rfl
theorem dp_j {γ : Type} (n : Nat) (hn : n ≤ 255) (p1 p2 : Tx) (p3 : Int) (p4 : Bool) (p5 : List Ct) (p6 : Int) (p7 : Tx) (p8 : Int) {R0 : List Int} (h : Rok R0) :
    (∃ l R', pmany ptxt n R0 = some (l, R') ∧ Rok R' ∧ loopO (dpB (γ := γ) (n : Int)) (0, ((p1, (p2, (p3, (p4, (p5, (p6, (p7, (p8, [])))))))), (R0, 0))) = some (.inl ((p1, (p2, (p3, (p4, (p5, (p6, (p7, (p8, l.map bt)))))))), (R', 0)))) ∨
    (pmany ptxt n R0 = none ∧ ∃ l R', loopO (dpB (γ := γ) (n : Int)) (0, ((p1, (p2, (p3, (p4, (p5, (p6, (p7, (p8, [])))))))), (R0, 0))) = some (.inl ((p1, (p2, (p3, (p4, (p5, (p6, (p7, (p8, l)))))))), (R', 6)))) := by
  have hp := loopO_post (body := dpB (γ := γ) (n : Int))
    (fun x => ∃ (i : Nat) (l : List Tx) (R : List Int) (E : Int), x = ((i : Int), ((p1, (p2, (p3, (p4, (p5, (p6, (p7, (p8, l)))))))), (R, E))) ∧ i ≤ n ∧ l.length = i ∧ Rok R ∧ ((E = 0 ∧ ∃ l', pmany ptxt i R0 = some (l', R) ∧ l = l'.map bt) ∨ (E = 6 ∧ pmany ptxt i R0 = none)))
    (fun r => ∃ (l : List Tx) (R : List Int) (E : Int), r = .inl ((p1, (p2, (p3, (p4, (p5, (p6, (p7, (p8, l)))))))), (R, E)) ∧ l.length = n ∧ Rok R ∧ ((E = 0 ∧ ∃ l', pmany ptxt n R0 = some (l', R) ∧ l = l'.map bt) ∨ (E = 6 ∧ pmany ptxt n R0 = none)))
    (fun x => ((n : Int) - x.1).toNat)
    (fun x hx => by
      obtain ⟨i, l, R, E, rfl, hi, hl, hR, hE⟩ := hx
      by_cases hin : i < n
      · refine .inr ⟨_, dp_step n i hn hin p1 p2 p3 p4 p5 p6 p7 p8 l hR (by omega), ⟨i + 1, _, _, _, rfl, hin, by rw [List.length_append, hl]; rfl, gT_ok hR, ?_⟩, ?_⟩
        · rcases hE with ⟨rfl, l', g1, g2⟩ | ⟨rfl, g⟩
          · rcases gT_z (R := R) with ⟨t, R1, q1, q2⟩ | ⟨q1, R1, q2⟩
            · rw [q2]
              refine .inl ⟨rfl, l' ++ [t], ?_, by rw [List.map_append, g2]; rfl⟩
              rw [pmany_succ g1, q1]; rfl
            · rw [q2]
              exact .inr ⟨rfl, by rw [pmany_succ g1, q1]; rfl⟩
          · rw [gT_e (show (6 : Int) ≠ 0 by decide)]
            exact .inr ⟨rfl, by rw [pmany, g]; rfl⟩
        · show ((n : Int) - ((i + 1 : Nat) : Int)).toNat < ((n : Int) - (i : Int)).toNat
          omega
      · have e : i = n := by omega
        subst e
        refine .inl ⟨.inl ((p1, (p2, (p3, (p4, (p5, (p6, (p7, (p8, l)))))))), (R, E)), ?_, l, R, E, rfl, hl, hR, hE⟩
        unfold dpB
        simp (disch := (first | omega | (simp only [List.length_append, List.length_cons, List.length_nil, List.nil_append, List.length_take, List.length_drop]; omega))) only [↓bindO_some, ↓bindO_none, ↓joinO_inl, ↓joinO_inr, ↓joinO_none, ↓outO_some, ↓outO_none, ↓cond_true, ↓cond_false, ↓cond_and, ↓cond_or, ↓cond_not, ↓cond_ite, ↓if_pos, ↓if_neg, ↓if_true, ↓if_false, List.take_length, Nat.le_refl, Bool.not_true, Bool.not_false, if_neg, and_dec, and_self, decide_true, Bool.and_self])
    (x := (0, ((p1, (p2, (p3, (p4, (p5, (p6, (p7, (p8, [])))))))), (R0, 0)))) ⟨0, [], R0, 0, rfl, by omega, rfl, h, .inl ⟨rfl, [], rfl, rfl⟩⟩
  obtain ⟨r, h1, l, R, E, rfl, hl, hR, hE⟩ := hp
  rcases hE with ⟨rfl, l', g1, g2⟩ | ⟨rfl, g⟩
  · subst g2; exact .inl ⟨l', R, g1, hR, h1⟩
  · exact .inr ⟨g, l, R, h1⟩
theorem dc_0 {γ : Type} (x : Rr × RS) : loopO (dcB (γ := γ) 0) (0, x) = some (.inl x) := by
  obtain ⟨⟨p1, p2, p3, p4, p5, p6, p7, p8⟩, R, E⟩ := x
  rw [loopO_eq]
  unfold dcB
  simp (disch := (first | omega | (simp only [List.length_append, List.length_cons, List.length_nil, List.nil_append, List.length_take, List.length_drop]; omega))) only [↓bindO_some, ↓bindO_none, ↓joinO_inl, ↓joinO_inr, ↓joinO_none, ↓outO_some, ↓outO_none, ↓cond_true, ↓cond_false, ↓cond_and, ↓cond_or, ↓cond_not, ↓cond_ite, ↓if_pos, ↓if_neg, ↓if_true, ↓if_false, List.take_length, Nat.le_refl, Bool.not_true, Bool.not_false, if_neg]
theorem dp_0 {γ : Type} (x : Rg9 × RS) : loopO (dpB (γ := γ) 0) (0, x) = some (.inl x) := by
  obtain ⟨⟨p1, p2, p3, p4, p5, p6, p7, p8, p9⟩, R, E⟩ := x
  rw [loopO_eq]
  unfold dpB
  simp (disch := (first | omega | (simp only [List.length_append, List.length_cons, List.length_nil, List.nil_append, List.length_take, List.length_drop]; omega))) only [↓bindO_some, ↓bindO_none, ↓joinO_inl, ↓joinO_inr, ↓joinO_none, ↓outO_some, ↓outO_none, ↓cond_true, ↓cond_false, ↓cond_and, ↓cond_or, ↓cond_not, ↓cond_ite, ↓if_pos, ↓if_neg, ↓if_true, ↓if_false, List.take_length, Nat.le_refl, Bool.not_true, Bool.not_false, if_neg, and_dec, and_self, decide_true, Bool.and_self]
end Go.Proofs.Ytlaccfegaoaakaa
