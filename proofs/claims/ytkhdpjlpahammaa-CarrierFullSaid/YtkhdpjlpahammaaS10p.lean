import Derived.Test.YtkhdpjlpahammaaS9p
set_option linter.unusedVariables false
set_option linter.unusedSimpArgs false
set_option maxRecDepth 100000
set_option maxHeartbeats 2000000
namespace Go.Proofs.Ytkhdpjlpahammaa
open Go.RowKit
abbrev zF : FtT := (false, (0, (false, 0)))
def fateAt (fates : List FtT) (n : Int) : FtT := fates.getD n.toNat zF
def newPc (f : FtT) (n : Int) (from_ to_ : List UInt8) (now : Int) (data : List Int) : List PcT :=
  if f.1 = true then [] else (f, (n, (from_, (to_, (now, (false, data)))))) :: (if f.2.2.1 = true then [(f, (n, (from_, (to_, (now, (true, data))))))] else [])
theorem send_j (a b : List UInt8) (data : List Int) (fates : List FtT) (ps : List PcT) (sent lost cnow now : Int) (h1 : cnow ≤ now) (h2 : now ≤ 1099511627776) (h3 : 0 ≤ sent) (h4 : sent < 10000) (hl : ps.length ≤ 1000000) (hd : data.length ≤ 1000000) (hlo : 0 ≤ lost ∧ lost ≤ 10000) :
    carrier_Carrier_Send (a, (b, (data, (now, (true, (fates, (ps, (sent, (lost, cnow))))))))) =
      some (sent, (0, (true, (fates, (ps ++ newPc (fateAt fates sent) sent a b now data, (sent + 1, (if (fateAt fates sent).1 = true then lost + 1 else lost, now))))))) := by
  have hcl : cloneG data = some data := by unfold cloneG; rw [decide_eq_true hd]; rfl
  have e1 : IntKind.wrap .i64 (sent + 1) = sent + 1 := wrap_i64' (by omega)
  have e2 : IntKind.wrap .i64 (lost + 1) = lost + 1 := wrap_i64' (by omega)
  obtain ⟨f, hf⟩ : ∃ f, fateAt fates sent = f := ⟨_, rfl⟩
  unfold carrier_Carrier_Send
  rw [hf]
  show (bif (!true) then _ else _) = _
  rw [show (!true) = false from rfl, cond_false, decide_eq_false (show ¬ now < cnow by omega), cond_false, decide_eq_false (show ¬ now > 1099511627776 by omega), cond_false, decide_eq_false (show ¬ sent ≥ 10000 by omega), cond_false, hcl, bindO_some]
  refine joinO_eq (a := (f.1, (f.2.1, (f.2.2.1, (f.2.2.2, (sent, (a, (b, (now, (false, data)))))))))) ?_ ?_
  · by_cases hs : sent < (fates.length : Int)
    · have hg : ∀ {β : Type} (g : FtT → Option β), bindO fates[Int.toNat sent]? g = g f := fun g => by rw [← hf]; exact get_bz zF g ⟨h3, hs⟩
      simp (disch := (first | omega | (simp only [List.length_append, List.length_cons, List.length_nil, List.nil_append, List.length_take, List.length_drop]; omega))) only [↓bindO_some, ↓bindO_none, ↓joinO_inl, ↓joinO_inr, ↓joinO_none, ↓outO_some, ↓outO_none, ↓cond_true, ↓cond_false, ↓cond_and, ↓cond_or, ↓cond_not, ↓cond_ite, ↓if_pos, ↓if_neg, ↓if_true, ↓if_false, List.take_length, Nat.le_refl, Bool.not_true, Bool.not_false, if_pos, ↓hg]
    · have hz : f = zF := by
        rw [← hf]; unfold fateAt
        rw [List.getD_eq_getElem?_getD, List.getElem?_eq_none (by omega)]; rfl
      rw [hz]
      simp (disch := (first | omega | (simp only [List.length_append, List.length_cons, List.length_nil, List.nil_append, List.length_take, List.length_drop]; omega))) only [↓bindO_some, ↓bindO_none, ↓joinO_inl, ↓joinO_inr, ↓joinO_none, ↓outO_some, ↓outO_none, ↓cond_true, ↓cond_false, ↓cond_and, ↓cond_or, ↓cond_not, ↓cond_ite, ↓if_pos, ↓if_neg, ↓if_true, ↓if_false, List.take_length, Nat.le_refl, Bool.not_true, Bool.not_false, if_pos, if_neg]
  simp only [bindO_some, e1, e2]
  have ef : (f.1, (f.2.1, (f.2.2.1, f.2.2.2))) = f := rfl
  unfold newPc
  cases k1 : f.1 with
  | true => simp (disch := (first | omega | (simp only [List.length_append, List.length_cons, List.length_nil, List.nil_append, List.length_take, List.length_drop]; omega))) only [↓bindO_some, ↓bindO_none, ↓joinO_inl, ↓joinO_inr, ↓joinO_none, ↓outO_some, ↓outO_none, ↓cond_true, ↓cond_false, ↓cond_and, ↓cond_or, ↓cond_not, ↓cond_ite, ↓if_pos, ↓if_neg, ↓if_true, ↓if_false, List.take_length, Nat.le_refl, Bool.not_true, Bool.not_false, if_pos, List.append_nil]
  | false =>
    have ef' : (false, (f.2.1, (f.2.2.1, f.2.2.2))) = f := by rw [← k1]
    cases k2 : f.2.2.1 with
    | true =>
      have ef2 : (false, (f.2.1, (true, f.2.2.2))) = f := by rw [← k1, ← k2]
      simp (disch := (first | omega | (simp only [List.length_append, List.length_cons, List.length_nil, List.nil_append, List.length_take, List.length_drop]; omega))) only [↓bindO_some, ↓bindO_none, ↓joinO_inl, ↓joinO_inr, ↓joinO_none, ↓outO_some, ↓outO_none, ↓cond_true, ↓cond_false, ↓cond_and, ↓cond_or, ↓cond_not, ↓cond_ite, ↓if_pos, ↓if_neg, ↓if_true, ↓if_false, List.take_length, Nat.le_refl, Bool.not_true, Bool.not_false, if_pos, if_neg, Bool.false_eq_true, ef2, List.append_assoc, List.cons_append, List.nil_append]
    | false =>
      have ef2 : (false, (f.2.1, (false, f.2.2.2))) = f := Prod.ext k1.symm (Prod.ext rfl (Prod.ext k2.symm rfl))
      simp (disch := (first | omega | (simp only [List.length_append, List.length_cons, List.length_nil, List.nil_append, List.length_take, List.length_drop]; omega))) only [↓bindO_some, ↓bindO_none, ↓joinO_inl, ↓joinO_inr, ↓joinO_none, ↓outO_some, ↓outO_none, ↓cond_true, ↓cond_false, ↓cond_and, ↓cond_or, ↓cond_not, ↓cond_ite, ↓if_pos, ↓if_neg, ↓if_true, ↓if_false, List.take_length, Nat.le_refl, Bool.not_true, Bool.not_false, if_pos, if_neg, Bool.false_eq_true, ef2]
theorem fu_body (i : Nat) (hi : i < 10000) (ps : List PcT) (lost now : Int) (hl : ps.length ≤ i % 100) (hok : ∀ p ∈ ps, OkP p ∧ atP p ≤ (i : Int)) (hn : 0 ≤ now ∧ now ≤ (i : Int)) (hlo : lost = if i = 0 then 0 else 1) :
    ∃ ps' lost' now', fuB ((i : Int), (true, ([(true, (0, (false, 0)))], (ps, ((i : Int), (lost, now)))))) = some (.inl (((i + 1 : Nat) : Int), (true, ([(true, (0, (false, 0)))], (ps', (((i + 1 : Nat) : Int), (lost', now'))))))) ∧
      ps'.length ≤ (i + 1) % 100 ∧ (∀ p ∈ ps', OkP p ∧ atP p ≤ ((i + 1 : Nat) : Int)) ∧ (0 ≤ now' ∧ now' ≤ ((i + 1 : Nat) : Int)) ∧ lost' = 1 := by
  have hs := send_j [97] [98] [] [(true, (0, (false, 0)))] ps (i : Int) lost now (i : Int) hn.2 (by omega) (by omega) (by omega) (by omega) (by simp) (by rw [hlo]; split <;> omega)
  obtain ⟨ps1, hp1⟩ : ∃ ps1, ps1 = ps ++ newPc (fateAt [(true, (0, (false, 0)))] (i : Int)) (i : Int) [97] [98] (i : Int) [] := ⟨_, rfl⟩
  obtain ⟨lost1, hl1⟩ : ∃ l1 : Int, l1 = if (fateAt [(true, (0, (false, 0)))] (i : Int)).1 = true then lost + 1 else lost := ⟨_, rfl⟩
  rw [← hp1, ← hl1] at hs
  have hn1 : (i : Int) + 1 = ((i + 1 : Nat) : Int) := rfl
  rw [hn1] at hs
  have hx : (newPc (fateAt [(true, (0, (false, 0)))] (i : Int)) (i : Int) [97] [98] (i : Int) []).length ≤ 1 ∧ (∀ p ∈ newPc (fateAt [(true, (0, (false, 0)))] (i : Int)) (i : Int) [97] [98] (i : Int) [], OkP p ∧ atP p ≤ (i : Int)) ∧ lost1 = 1 := by
    by_cases h0 : i = 0
    · subst h0
      refine ⟨by simp [newPc, fateAt], fun p hp => by simp [newPc, fateAt] at hp, by rw [hl1, hlo]; simp [fateAt]⟩
    · have hf : fateAt [(true, (0, (false, 0)))] (i : Int) = zF := by
        unfold fateAt
        rw [List.getD_eq_getElem?_getD, List.getElem?_eq_none (by simp; omega)]; rfl
      rw [hf] at hl1 ⊢
      refine ⟨by simp [newPc], fun p hp => ?_, by rw [hl1, hlo]; simp [h0]⟩
      simp [newPc] at hp
      subst hp
      unfold OkP atP
      simp
      omega
  have lp1 : ps1.length ≤ i % 100 + 1 := by rw [hp1, List.length_append]; omega
  have okp1 : ∀ p ∈ ps1, OkP p ∧ atP p ≤ (i : Int) := fun p hp => by
    rw [hp1] at hp
    rcases List.mem_append.1 hp with g | g
    · exact hok p g
    · exact hx.2.1 p g
  have hu : IntKind.wrap .i64 ((i : Int) + 1) = ((i + 1 : Nat) : Int) := wrap_i64' (by omega)
  by_cases h9 : i % 100 = 99
  · obtain ⟨L, r1, r2, r3⟩ := receive_j [(true, (0, (false, 0)))] ps1 ((i + 1 : Nat) : Int) lost1 (i : Int) (i : Int) (Int.le_refl _) (by omega) (by omega) (fun p hp => (okp1 p hp).1)
    have hrest : ps1.filter (fun p => !decide (atP p ≤ (i : Int))) = [] := by
      rw [List.filter_eq_nil_iff]
      intro p hp
      simp [(okp1 p hp).2]
    have lL : (L.map dgP).length ≤ 100 := by
      rw [List.length_map, r1.length_eq]
      have := List.length_filter_le (fun p => decide (atP p ≤ (i : Int))) ps1
      omega
    rw [hrest] at r3
    refine ⟨[], lost1, (i : Int), ?_, by simp, fun p hp => (by cases hp), by omega, hx.2.2⟩
    have ht : Int.tmod (i : Int) 100 = 99 := by rw [Int.tmod_eq_emod_of_nonneg (by omega)]; omega
    have hgt : ¬ ((L.map dgP).length : Int) > 100 := by omega
    unfold fuB
    simp (disch := (first | omega | (simp only [List.length_append, List.length_cons, List.length_nil, List.nil_append, List.length_take, List.length_drop]; omega))) only [↓bindO_some, ↓bindO_none, ↓joinO_inl, ↓joinO_inr, ↓joinO_none, ↓outO_some, ↓outO_none, ↓cond_true, ↓cond_false, ↓cond_and, ↓cond_or, ↓cond_not, ↓cond_ite, ↓if_pos, ↓if_neg, ↓if_true, ↓if_false, List.take_length, Nat.le_refl, Bool.not_true, Bool.not_false, if_pos, if_neg, hs, ht, r3, hgt, hu, ne_eq, not_true_eq_false, decide_false, decide_true]
  · refine ⟨ps1, lost1, (i : Int), ?_, by omega, fun p hp => ⟨(okp1 p hp).1, by have := (okp1 p hp).2; omega⟩, by omega, hx.2.2⟩
    have ht : ¬ Int.tmod (i : Int) 100 = 99 := by rw [Int.tmod_eq_emod_of_nonneg (by omega)]; omega
    unfold fuB
    simp (disch := (first | omega | (simp only [List.length_append, List.length_cons, List.length_nil, List.nil_append, List.length_take, List.length_drop]; omega))) only [↓bindO_some, ↓bindO_none, ↓joinO_inl, ↓joinO_inr, ↓joinO_none, ↓outO_some, ↓outO_none, ↓cond_true, ↓cond_false, ↓cond_and, ↓cond_or, ↓cond_not, ↓cond_ite, ↓if_pos, ↓if_neg, ↓if_true, ↓if_false, List.take_length, Nat.le_refl, Bool.not_true, Bool.not_false, if_pos, if_neg, hs, ht, hu, ne_eq, not_true_eq_false, decide_false, decide_true]
theorem fu_loop : ∃ (ps : List PcT) (now : Int), now ≤ 10000 ∧ loopO fuB ((0 : Int), (true, ([(true, (0, (false, 0)))], ([], ((0 : Int), ((0 : Int), (0 : Int))))))) = some (.inl (true, ([(true, (0, (false, 0)))], (ps, ((10000 : Int), ((1 : Int), now)))))) := by
  obtain ⟨r, h1, ps, now, hnow, rfl⟩ := loopO_post (body := fuB)
    (fun x => ∃ (i : Nat) (ps : List PcT) (lost now : Int), x = ((i : Int), (true, ([(true, (0, (false, 0)))], (ps, ((i : Int), (lost, now)))))) ∧ i ≤ 10000 ∧ ps.length ≤ i % 100 ∧ (∀ p ∈ ps, OkP p ∧ atP p ≤ (i : Int)) ∧ (0 ≤ now ∧ now ≤ (i : Int)) ∧ lost = if i = 0 then 0 else 1)
    (fun r => ∃ (ps : List PcT) (now : Int), now ≤ 10000 ∧ r = .inl (true, ([(true, (0, (false, 0)))], (ps, ((10000 : Int), ((1 : Int), now))))))
    (fun x => (10000 - x.1).toNat)
    (fun x hx => by
      obtain ⟨i, ps, lost, now, rfl, hi, a1, a2, a3, a4⟩ := hx
      by_cases h : i < 10000
      · obtain ⟨ps', lost', now', b1, b2, b3, b4, b5⟩ := fu_body i h ps lost now a1 a2 a3 a4
        refine .inr ⟨_, b1, ⟨i + 1, ps', lost', now', rfl, by omega, b2, b3, b4, by rw [b5, if_neg (by omega)]⟩, ?_⟩
        show (10000 - ((i + 1 : Nat) : Int)).toNat < (10000 - (i : Int)).toNat
        omega
      · have hi2 : i = 10000 := by omega
        subst hi2
        rw [if_neg (by omega)] at a4
        subst a4
        refine .inl ⟨_, ?_, ps, now, a3.2, rfl⟩
        unfold fuB
        simp (disch := (first | omega | (simp only [List.length_append, List.length_cons, List.length_nil, List.nil_append, List.length_take, List.length_drop]; omega))) only [↓bindO_some, ↓bindO_none, ↓joinO_inl, ↓joinO_inr, ↓joinO_none, ↓outO_some, ↓outO_none, ↓cond_true, ↓cond_false, ↓cond_and, ↓cond_or, ↓cond_not, ↓cond_ite, ↓if_pos, ↓if_neg, ↓if_true, ↓if_false, List.take_length, Nat.le_refl, Bool.not_true, Bool.not_false, if_pos, if_neg]
        rfl)
    (x := ((0 : Int), (true, ([(true, (0, (false, 0)))], ([], ((0 : Int), ((0 : Int), (0 : Int)))))))) ⟨0, [], 0, 0, rfl, by omega, by simp, fun p hp => (by cases hp), by omega, rfl⟩
  exact ⟨ps, now, hnow, h1⟩
theorem send_full (a b : List UInt8) (data : List Int) (fates : List FtT) (ps : List PcT) (lost cnow now : Int) (h1 : cnow ≤ now) (h2 : now ≤ 1099511627776 := by omega) :
    carrier_Carrier_Send (a, (b, (data, (now, (true, (fates, (ps, ((10000 : Int), (lost, cnow))))))))) = some (0, (4, (true, (fates, (ps, ((10000 : Int), (lost, cnow))))))) := by
  unfold carrier_Carrier_Send
  simp (disch := (first | omega | (simp only [List.length_append, List.length_cons, List.length_nil, List.nil_append, List.length_take, List.length_drop]; omega))) only [↓cond_not, ↓cond_true, ↓cond_ite, ↓if_neg, ↓if_pos, ↓cond_and, List.take_length, Nat.le_refl]
theorem full_main (a : Unit) (_ : WfIs [] a) : dialtonelaw11_CarrierFull a = some true := by
  show dialtonelaw11_CarrierFull () = some true
  rw [fu_eq]
  have h0 : loopO fuA (0 : Int) = some (.inl ()) := loopO_from (fun i => (i : Int)) 1 rfl (fun i hi => by
    have : i = 0 := by omega
    subst this; rfl) rfl
  obtain ⟨ps, now, hnow, h1⟩ := fu_loop
  rw [h0, joinO_inl]
  rw [show cloneG [(true, ((0 : Int), (false, (0 : Int))))] = some [(true, ((0 : Int), (false, (0 : Int))))] from rfl, bindO_some]
  refine joinO_eq (a := (true, ([(true, (0, (false, 0)))], (ps, ((10000 : Int), ((1 : Int), now)))))) ?_ ?_
  · exact h1
  have hs := send_full [97] [98] [] [(true, (0, (false, 0)))] ps 1 now 10000 hnow
  simp (disch := (first | omega | (simp only [List.length_append, List.length_cons, List.length_nil, List.nil_append, List.length_take, List.length_drop]; omega))) only [↓bindO_some, ↓bindO_none, ↓joinO_inl, ↓joinO_inr, ↓joinO_none, ↓outO_some, ↓outO_none, ↓cond_true, ↓cond_false, ↓cond_and, ↓cond_or, ↓cond_not, ↓cond_ite, ↓if_pos, ↓if_neg, ↓if_true, ↓if_false, List.take_length, Nat.le_refl, Bool.not_true, Bool.not_false, if_pos, hs]
  rfl
end Go.Proofs.Ytkhdpjlpahammaa
