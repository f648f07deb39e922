import Derived.Test.YtkhdpjlpahammaaS8p
set_option linter.unusedVariables false
set_option linter.unusedSimpArgs false
set_option maxRecDepth 100000
set_option maxHeartbeats 2000000
namespace Go.Proofs.Ytkhdpjlpahammaa
open Go.RowKit
abbrev zF : FtT := (false, (0, (false, 0)))
def fateAt (fates : List FtT) (n : Int) : FtT := fates.getD n.toNat zF
def newPc (f : FtT) (n : Int) (from_ to_ : List UInt8) (now : Int) (data : List Int) : List PcT :=
  if f.1 = true then [] else (f, (n, (from_, (to_, (now, (false, data)))))) :: (if f.2.2.1 = true then [(f, (n, (from_, (to_, (now, (true, data))))))] else [])
theorem send_j (a b : List UInt8) (data : List Int) (fates : List FtT) (ps : List PcT) (sent lost cnow now : Int) (h1 : cnow ≤ now) (h2 : now ≤ 1099511627776) (h3 : 0 ≤ sent) (h4 : sent < 10000) (hl : ps.length ≤ 1000000) (hd : data.length ≤ 140737488355328) (hlo : 0 ≤ lost ∧ lost ≤ 10000) :
    carrier_Carrier_Send (a, (b, (data, (now, (true, (fates, (ps, (sent, (lost, cnow))))))))) =
      some (sent, (0, (true, (fates, (ps ++ newPc (fateAt fates sent) sent a b now data, (sent + 1, (if (fateAt fates sent).1 = true then lost + 1 else lost, now))))))) := by
  have hcl : cloneB data = some data := by unfold cloneB; rw [decide_eq_true hd]; rfl
  have e1 : IntKind.wrap .i64 (sent + 1) = sent + 1 := wrap_i64' (by omega)
  have e2 : IntKind.wrap .i64 (lost + 1) = lost + 1 := wrap_i64' (by omega)
  obtain ⟨f, hf⟩ : ∃ f, fateAt fates sent = f := ⟨_, rfl⟩
  unfold carrier_Carrier_Send
  rw [hf]
  show (bif (!true) then _ else _) = _
  rw [show (!true) = false from rfl, cond_false, decide_eq_false (show ¬ now < cnow by omega), cond_false, decide_eq_false (show ¬ now > 1099511627776 by omega), cond_false, decide_eq_false (show ¬ sent ≥ 10000 by omega), cond_false, hcl, bindO_some]
  refine joinO_eq (a := (f.1, (f.2.1, (f.2.2.1, (f.2.2.2, (sent, (a, (b, (now, (false, data)))))))))) ?_ ?_
  · by_cases hs : sent < (fates.length : Int)
    · have hg : ∀ {β : Type} (g : FtT → Option β), bindO fates[Int.toNat sent]? g = g f := fun g => by rw [← hf]; exact get_bz zF g ⟨h3, hs⟩
      simp (disch := (first | omega | (simp only [List.length_append, List.length_cons, List.length_nil, List.nil_append, List.length_take, List.length_drop]; omega))) only [↓bindO_some, ↓bindO_none, ↓joinO_inl, ↓joinO_inr, ↓joinO_none, ↓outO_some, ↓outO_none, ↓cond_true, ↓cond_false, ↓cond_and, ↓cond_or, ↓cond_not, ↓cond_ite, ↓if_pos, ↓if_neg, ↓if_true, ↓if_false, List.take_length, Nat.le_refl, Bool.not_true, Bool.not_false, if_pos, ↓hg]
    · have hz : f = zF := by
        rw [← hf]; unfold fateAt
        rw [List.getD_eq_getElem?_getD, List.getElem?_eq_none (by omega)]; rfl
      rw [hz]
      simp (disch := (first | omega | (simp only [List.length_append, List.length_cons, List.length_nil, List.nil_append, List.length_take, List.length_drop]; omega))) only [↓bindO_some, ↓bindO_none, ↓joinO_inl, ↓joinO_inr, ↓joinO_none, ↓outO_some, ↓outO_none, ↓cond_true, ↓cond_false, ↓cond_and, ↓cond_or, ↓cond_not, ↓cond_ite, ↓if_pos, ↓if_neg, ↓if_true, ↓if_false, List.take_length, Nat.le_refl, Bool.not_true, Bool.not_false, if_pos, if_neg]
  simp only [bindO_some, e1, e2]
  have ef : (f.1, (f.2.1, (f.2.2.1, f.2.2.2))) = f := rfl
  unfold newPc
  cases k1 : f.1 with
  | true => simp (disch := (first | omega | (simp only [List.length_append, List.length_cons, List.length_nil, List.nil_append, List.length_take, List.length_drop]; omega))) only [↓bindO_some, ↓bindO_none, ↓joinO_inl, ↓joinO_inr, ↓joinO_none, ↓outO_some, ↓outO_none, ↓cond_true, ↓cond_false, ↓cond_and, ↓cond_or, ↓cond_not, ↓cond_ite, ↓if_pos, ↓if_neg, ↓if_true, ↓if_false, List.take_length, Nat.le_refl, Bool.not_true, Bool.not_false, if_pos, List.append_nil]
  | false =>
    have ef' : (false, (f.2.1, (f.2.2.1, f.2.2.2))) = f := by rw [← k1]
    cases k2 : f.2.2.1 with
    | true =>
      have ef2 : (false, (f.2.1, (true, f.2.2.2))) = f := by rw [← k1, ← k2]
      simp (disch := (first | omega | (simp only [List.length_append, List.length_cons, List.length_nil, List.nil_append, List.length_take, List.length_drop]; omega))) only [↓bindO_some, ↓bindO_none, ↓joinO_inl, ↓joinO_inr, ↓joinO_none, ↓outO_some, ↓outO_none, ↓cond_true, ↓cond_false, ↓cond_and, ↓cond_or, ↓cond_not, ↓cond_ite, ↓if_pos, ↓if_neg, ↓if_true, ↓if_false, List.take_length, Nat.le_refl, Bool.not_true, Bool.not_false, if_pos, if_neg, Bool.false_eq_true, ef2, List.append_assoc, List.cons_append, List.nil_append]
    | false =>
      have ef2 : (false, (f.2.1, (false, f.2.2.2))) = f := Prod.ext k1.symm (Prod.ext rfl (Prod.ext k2.symm rfl))
      simp (disch := (first | omega | (simp only [List.length_append, List.length_cons, List.length_nil, List.nil_append, List.length_take, List.length_drop]; omega))) only [↓bindO_some, ↓bindO_none, ↓joinO_inl, ↓joinO_inr, ↓joinO_none, ↓outO_some, ↓outO_none, ↓cond_true, ↓cond_false, ↓cond_and, ↓cond_or, ↓cond_not, ↓cond_ite, ↓if_pos, ↓if_neg, ↓if_true, ↓if_false, List.take_length, Nat.le_refl, Bool.not_true, Bool.not_false, if_pos, if_neg, Bool.false_eq_true, ef2]
end Go.Proofs.Ytkhdpjlpahammaa
