import Derived.Test.YtlaccfegaoaakaaJ7p
import Derived.Test.YtlaccfegaoaakaaJ8p
set_option linter.unusedVariables false
set_option linter.unusedSimpArgs false
set_option maxRecDepth 100000
set_option maxHeartbeats 4000000
namespace Go.Proofs.Ytlaccfegaoaakaa
open Go.RowKit
theorem bytesU_bt (l : List Int) : bytesU l = bt l := rfl
def sgP (n : Int) : Int := if n = 4294967295 then -1 else n
theorem signed_j {n : Int} (h : 0 ≤ n ∧ n < 4294967296) : registrar_signed n = some (sgP n) := by
  unfold registrar_signed sgP
  by_cases g : n = 4294967295
  · simp (disch := (first | omega | (simp only [List.length_append, List.length_cons, List.length_nil, List.nil_append, List.length_take, List.length_drop]; omega))) only [↓bindO_some, ↓bindO_none, ↓joinO_inl, ↓joinO_inr, ↓joinO_none, ↓outO_some, ↓outO_none, ↓cond_true, ↓cond_false, ↓cond_and, ↓cond_or, ↓cond_not, ↓cond_ite, ↓if_pos, ↓if_neg, ↓if_true, ↓if_false, List.take_length, Nat.le_refl, Bool.not_true, Bool.not_false, g, decide_true, if_true]
  · simp (disch := (first | omega | (simp only [List.length_append, List.length_cons, List.length_nil, List.nil_append, List.length_take, List.length_drop]; omega))) only [↓bindO_some, ↓bindO_none, ↓joinO_inl, ↓joinO_inr, ↓joinO_none, ↓outO_some, ↓outO_none, ↓cond_true, ↓cond_false, ↓cond_and, ↓cond_or, ↓cond_not, ↓cond_ite, ↓if_pos, ↓if_neg, ↓if_true, ↓if_false, List.take_length, Nat.le_refl, Bool.not_true, Bool.not_false, g, decide_false, if_false, wrap_i64']
abbrev Rok (r : List Int) : Prop := By r ∧ r.length ≤ 6000
theorem Rok.drop {r : List Int} (h : Rok r) (n : Nat) : Rok (r.drop n) := ⟨fun x hx => h.1 x (List.mem_of_mem_drop hx), by rw [List.length_drop]; have := h.2; omega⟩
theorem num_ok {k : Nat} {R : List Int} {E : Int} (h : Rok R) : (0 ≤ (num k R E).1 ∧ (num k R E).1 < 256 ^ k) ∧ Rok (num k R E).2.1 := by
  unfold num
  split
  · exact ⟨⟨Int.le_refl 0, Int.pow_pos (by decide)⟩, h⟩
  · rename_i g
    have hb : By (R.take k) := fun x hx => h.1 x (List.mem_of_mem_take hx)
    have := val_rng hb
    have hl : (R.take k).length = k := by rw [List.length_take]; omega
    rw [hl] at this
    exact ⟨this, h.drop k⟩
theorem txt_ok {n : Int} {R : List Int} {E : Int} (h : Rok R) : Rok (txt n R E).2.1 := by
  unfold txt
  split
  · exact h
  · exact h.drop _
theorem num_z {k : Nat} {R : List Int} : (∃ v R', pnum k R = some (v, R') ∧ num k R 0 = (v, (R', 0))) ∨ (pnum k R = none ∧ num k R 0 = (0, (R, 6))) := by
  unfold num pnum
  by_cases g : R.length < k
  · exact .inr ⟨if_pos g, if_pos (.inr g)⟩
  · exact .inl ⟨_, _, if_neg g, if_neg (by rintro (q | q); exact q rfl; exact g q)⟩
theorem num_e {k : Nat} {R : List Int} {E : Int} (h : E ≠ 0) : num k R E = (0, (R, 6)) := if_pos (.inl h)
theorem txt_e {n : Int} {R : List Int} {E : Int} (h : E ≠ 0) : txt n R E = ([], (R, 6)) := if_pos (.inl h)
theorem txt_z {n : Int} {R : List Int} : ((R.length : Int) < n ∧ txt n R 0 = ([], (R, 6))) ∨ (¬ (R.length : Int) < n ∧ txt n R 0 = (R.take n.toNat, (R.drop n.toNat, 0))) := by
  unfold txt
  by_cases g : (R.length : Int) < n
  · exact .inl ⟨g, if_pos (.inr g)⟩
  · exact .inr ⟨g, if_neg (by rintro (q | q); exact q rfl; exact g q)⟩
def gT (R : List Int) (E : Int) : List Int × RS := txt (num 2 R E).1 (num 2 R E).2.1 (num 2 R E).2.2
theorem gT_e {R : List Int} {E : Int} (h : E ≠ 0) : gT R E = ([], (R, 6)) := by
  unfold gT
  rw [num_e h, txt_e (show (6 : Int) ≠ 0 by decide)]
theorem gT_z {R : List Int} : (∃ t R', ptxt R = some (t, R') ∧ gT R 0 = (t, (R', 0))) ∨ (ptxt R = none ∧ ∃ R', gT R 0 = ([], (R', 6))) := by
  unfold gT ptxt
  rcases num_z (k := 2) (R := R) with ⟨v, R1, h1, h2⟩ | ⟨h1, h2⟩
  · rw [h1, h2]
    simp only [Option.bind_some]
    rcases txt_z (n := v) (R := R1) with ⟨g1, g2⟩ | ⟨g1, g2⟩
    · exact .inr ⟨if_pos g1, _, g2⟩
    · exact .inl ⟨_, _, if_neg g1, g2⟩
  · rw [h1, h2]
    exact .inr ⟨rfl, _, txt_e (show (6 : Int) ≠ 0 by decide)⟩
theorem gT_ok {R : List Int} {E : Int} (h : Rok R) : Rok (gT R E).2.1 := txt_ok (num_ok h).2
theorem rcd_j {R : List Int} {E : Int} (h : Rok R) :
    (E = 0 ∧ pct R = some (((gT R E).1, ((num 2 (gT R E).2.1 (gT R E).2.2).1, (num 4 (num 2 (gT R E).2.1 (gT R E).2.2).2.1 (num 2 (gT R E).2.1 (gT R E).2.2).2.2).1)), (num 4 (num 2 (gT R E).2.1 (gT R E).2.2).2.1 (num 2 (gT R E).2.1 (gT R E).2.2).2.2).2.1) ∧ (num 4 (num 2 (gT R E).2.1 (gT R E).2.2).2.1 (num 2 (gT R E).2.1 (gT R E).2.2).2.2).2.2 = 0) ∨
    ((num 4 (num 2 (gT R E).2.1 (gT R E).2.2).2.1 (num 2 (gT R E).2.1 (gT R E).2.2).2.2).2.2 = 6 ∧ (E = 0 → pct R = none)) := by
  have h6 : (6 : Int) ≠ 0 := by decide
  by_cases he : E = 0
  · subst he
    unfold pct
    rcases gT_z (R := R) with ⟨t, R1, h1, h2⟩ | ⟨h1, R1, h2⟩
    · rw [h1, h2]
      simp only [Option.bind_some]
      rcases num_z (k := 2) (R := R1) with ⟨q, R2, h3, h4⟩ | ⟨h3, h4⟩
      · rw [h3, h4]
        simp only [Option.bind_some]
        rcases num_z (k := 4) (R := R2) with ⟨e, R3, h5, h7⟩ | ⟨h5, h7⟩
        · rw [h5, h7]; exact .inl ⟨by first | trivial | rfl, rfl, rfl⟩
        · rw [h5, h7]; exact .inr ⟨rfl, fun _ => rfl⟩
      · rw [h3, h4]
        refine .inr ⟨?_, fun _ => rfl⟩
        rw [num_e h6]
    · rw [h1, h2]
      refine .inr ⟨?_, fun _ => rfl⟩
      rw [num_e (k := 2) h6, num_e h6]
  · refine .inr ⟨?_, fun q => (he q).elim⟩
    rw [gT_e he, num_e (k := 2) h6, num_e h6]
def mc (x : RC) : Ct := (bt x.1, (x.2.1, sgP x.2.2))
theorem dc_step {γ : Type} (n i : Nat) (hn : n ≤ 255) (hi : i < n) (p1 p2 : Tx) (p3 : Int) (p4 : Bool) (l : List Ct) (p6 : Int) (p7 : Tx) (p8 : Int) {R : List Int} {E : Int} (h : Rok R) (hl : l.length ≤ 1000) :
    dcB (γ := γ) (n : Int) ((i : Int), ((p1, (p2, (p3, (p4, (l, (p6, (p7, p8))))))), (R, E))) = some (.inl (((i + 1 : Nat) : Int), ((p1, (p2, (p3, (p4, (l ++ [mc ((gT R E).1, ((num 2 (gT R E).2.1 (gT R E).2.2).1, (num 4 (num 2 (gT R E).2.1 (gT R E).2.2).2.1 (num 2 (gT R E).2.1 (gT R E).2.2).2.2).1))], (p6, (p7, p8))))))), (num 4 (num 2 (gT R E).2.1 (gT R E).2.2).2.1 (num 2 (gT R E).2.1 (gT R E).2.2).2.2).2))) := by
  have e2 : (256 : Int) ^ 2 = 65536 := by decide
  have a1 := num_ok (k := 2) (E := E) h
  have a2 := gT_ok (E := E) h
  have a3 := num_ok (k := 2) (E := (gT R E).2.2) a2
  have a4 := num_ok (k := 4) (E := (num 2 (gT R E).2.1 (gT R E).2.2).2.2) a3.2
  rw [e2] at a1 a3
  rw [pow4] at a4
  have hw : IntKind.wrap .u64 ((i : Int) + 1) = ((i + 1 : Nat) : Int) := by rw [wr_u64]; omega
  have hb : ∀ r : List Int, Rok r → r.length ≤ 100000 := fun r hr => by have := hr.2; omega
  unfold dcB
  simp (disch := (first | omega | (simp only [List.length_append, List.length_cons, List.length_nil, List.nil_append, List.length_take, List.length_drop]; omega))) only [↓bindO_some, ↓bindO_none, ↓joinO_inl, ↓joinO_inr, ↓joinO_none, ↓outO_some, ↓outO_none, ↓cond_true, ↓cond_false, ↓cond_and, ↓cond_or, ↓cond_not, ↓cond_ite, ↓if_pos, ↓if_neg, ↓if_true, ↓if_false, List.take_length, Nat.le_refl, Bool.not_true, Bool.not_false, if_pos]
  refine joinO_eq (dn2_j h.1 (hb _ h)) ?_
  refine joinO_eq (dt_j (R := (num 2 R E).2.1) (N := (num 2 R E).1) (E := (num 2 R E).2.2) ⟨a1.1.1, by omega⟩ (hb _ a1.2)) ?_
  refine joinO_eq (dn2_j (R := (gT R E).2.1) (E := (gT R E).2.2) a2.1 (hb _ a2)) ?_
  refine joinO_eq (dn4_j (R := (num 2 (gT R E).2.1 (gT R E).2.2).2.1) (E := (num 2 (gT R E).2.1 (gT R E).2.2).2.2) a3.2.1 (hb _ a3.2)) ?_
  have hq : IntKind.wrap .i64 (num 2 (gT R E).2.1 (gT R E).2.2).1 = (num 2 (gT R E).2.1 (gT R E).2.2).1 := wrap_i64' (by omega)
  show bindO (registrar_signed (num 4 (num 2 (gT R E).2.1 (gT R E).2.2).2.1 (num 2 (gT R E).2.1 (gT R E).2.2).2.2).1) _ = _
  rw [signed_j a4.1, bindO_some]
  simp (disch := (first | omega | (simp only [List.length_append, List.length_cons, List.length_nil, List.nil_append, List.length_take, List.length_drop]; omega))) only [↓bindO_some, ↓bindO_none, ↓joinO_inl, ↓joinO_inr, ↓joinO_none, ↓outO_some, ↓outO_none, ↓cond_true, ↓cond_false, ↓cond_and, ↓cond_or, ↓cond_not, ↓cond_ite, ↓if_pos, ↓if_neg, ↓if_true, ↓if_false, List.take_length, Nat.le_refl, Bool.not_true, Bool.not_false, if_pos, hq, hw, bytesU_bt]
  rfl
end Go.Proofs.Ytlaccfegaoaakaa
