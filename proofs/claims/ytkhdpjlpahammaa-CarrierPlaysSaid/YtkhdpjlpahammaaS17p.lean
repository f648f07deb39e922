import Derived.Test.YtkhdpjlpahammaaS16p
set_option linter.unusedVariables false
set_option linter.unusedSimpArgs false
set_option maxRecDepth 100000
set_option maxHeartbeats 2000000
namespace Go.Proofs.Ytkhdpjlpahammaa
open Go.RowKit
def OkFs (l : List FtT) : Prop := ∀ f ∈ l, (0 ≤ f.2.1 ∧ f.2.1 ≤ 60000) ∧ (0 ≤ f.2.2.2 ∧ f.2.2.2 ≤ 60000)
theorem fate_ok {l : List FtT} (h : OkFs l) (n : Int) : (0 ≤ (fateAt l n).2.1 ∧ (fateAt l n).2.1 ≤ 60000) ∧ (0 ≤ (fateAt l n).2.2.2 ∧ (fateAt l n).2.2.2 ≤ 60000) := by
  unfold fateAt
  by_cases hi : n.toNat < l.length
  · rw [getD_get _ hi]; exact h _ (List.getElem_mem _)
  · rw [List.getD_eq_getElem?_getD, List.getElem?_eq_none (by omega)]
    exact ⟨⟨by decide, by decide⟩, ⟨by decide, by decide⟩⟩
theorem rsend_j (a b : List UInt8) (data : List Int) (fates : List FtT) (W : List DgT) (sent lost cnow now : Int) (hf : OkFs fates) (h0 : 0 ≤ cnow) (h1 : cnow ≤ now) (h2 : now ≤ 1099511627776) (h3 : 0 ≤ sent) (h4 : sent < 10000) (hl : W.length ≤ 1000) (hd : data.length ≤ 140737488355328) (hlo : 0 ≤ lost ∧ lost ≤ 10000) :
    rSend (a, (b, (data, (now, (fates, (W, (cnow, (sent, lost)))))))) =
      some (sent, (0, (fates, (W ++ (newPc (fateAt fates sent) sent a b now data).map dgP, (now, (sent + 1, if (fateAt fates sent).1 = true then lost + 1 else lost)))))) := by
  have e1 : IntKind.wrap .i64 (sent + 1) = sent + 1 := wrap_i64' (by omega)
  have e2 : IntKind.wrap .i64 (lost + 1) = lost + 1 := wrap_i64' (by omega)
  have hfo := fate_ok hf sent
  obtain ⟨f, hf⟩ : ∃ f, fateAt fates sent = f := ⟨_, rfl⟩
  rw [hf] at hfo
  have e3 : IntKind.wrap .i64 (now + f.2.1) = now + f.2.1 := wrap_i64' (by omega)
  have e4 : IntKind.wrap .i64 (now + f.2.2.2) = now + f.2.2.2 := wrap_i64' (by omega)
  unfold rSend
  rw [hf]
  simp (disch := (first | omega | (simp only [List.length_append, List.length_cons, List.length_nil, List.nil_append, List.length_take, List.length_drop]; omega))) only [↓bindO_some, ↓bindO_none, ↓joinO_inl, ↓joinO_inr, ↓joinO_none, ↓outO_some, ↓outO_none, ↓cond_true, ↓cond_false, ↓cond_and, ↓cond_or, ↓cond_not, ↓cond_ite, ↓if_pos, ↓if_neg, ↓if_true, ↓if_false, List.take_length, Nat.le_refl, Bool.not_true, Bool.not_false, if_neg, if_pos]
  refine joinO_eq (a := (f.1, (f.2.1, (f.2.2.1, f.2.2.2)))) ?_ ?_
  · by_cases hs : sent < (fates.length : Int)
    · have hg : ∀ {β : Type} (g : FtT → Option β), bindO fates[Int.toNat sent]? g = g f := fun g => by rw [← hf]; exact get_bz zF g ⟨h3, hs⟩
      simp (disch := (first | omega | (simp only [List.length_append, List.length_cons, List.length_nil, List.nil_append, List.length_take, List.length_drop]; omega))) only [↓bindO_some, ↓bindO_none, ↓joinO_inl, ↓joinO_inr, ↓joinO_none, ↓outO_some, ↓outO_none, ↓cond_true, ↓cond_false, ↓cond_and, ↓cond_or, ↓cond_not, ↓cond_ite, ↓if_pos, ↓if_neg, ↓if_true, ↓if_false, List.take_length, Nat.le_refl, Bool.not_true, Bool.not_false, if_pos, ↓hg]
    · have hz : f = zF := by
        rw [← hf]; unfold fateAt
        rw [List.getD_eq_getElem?_getD, List.getElem?_eq_none (by omega)]; rfl
      rw [hz]
      simp (disch := (first | omega | (simp only [List.length_append, List.length_cons, List.length_nil, List.nil_append, List.length_take, List.length_drop]; omega))) only [↓bindO_some, ↓bindO_none, ↓joinO_inl, ↓joinO_inr, ↓joinO_none, ↓outO_some, ↓outO_none, ↓cond_true, ↓cond_false, ↓cond_and, ↓cond_or, ↓cond_not, ↓cond_ite, ↓if_pos, ↓if_neg, ↓if_true, ↓if_false, List.take_length, Nat.le_refl, Bool.not_true, Bool.not_false, if_pos, if_neg]
  simp only [bindO_some, e1, e2]
  unfold newPc
  cases k1 : f.1 with
  | true => simp (disch := (first | omega | (simp only [List.length_append, List.length_cons, List.length_nil, List.nil_append, List.length_take, List.length_drop]; omega))) only [↓bindO_some, ↓bindO_none, ↓joinO_inl, ↓joinO_inr, ↓joinO_none, ↓outO_some, ↓outO_none, ↓cond_true, ↓cond_false, ↓cond_and, ↓cond_or, ↓cond_not, ↓cond_ite, ↓if_pos, ↓if_neg, ↓if_true, ↓if_false, List.take_length, Nat.le_refl, Bool.not_true, Bool.not_false, if_pos, List.append_nil, List.map_nil]
  | false =>
    cases k2 : f.2.2.1 with
    | true =>
      simp (disch := (first | omega | (simp only [List.length_append, List.length_cons, List.length_nil, List.nil_append, List.length_take, List.length_drop]; omega))) only [↓bindO_some, ↓bindO_none, ↓joinO_inl, ↓joinO_inr, ↓joinO_none, ↓outO_some, ↓outO_none, ↓cond_true, ↓cond_false, ↓cond_and, ↓cond_or, ↓cond_not, ↓cond_ite, ↓if_pos, ↓if_neg, ↓if_true, ↓if_false, List.take_length, Nat.le_refl, Bool.not_true, Bool.not_false, if_pos, if_neg, Bool.false_eq_true, e3, e4, List.append_assoc, List.cons_append, List.nil_append, List.map_cons, List.map_nil, dgP, atP]
    | false =>
      simp (disch := (first | omega | (simp only [List.length_append, List.length_cons, List.length_nil, List.nil_append, List.length_take, List.length_drop]; omega))) only [↓bindO_some, ↓bindO_none, ↓joinO_inl, ↓joinO_inr, ↓joinO_none, ↓outO_some, ↓outO_none, ↓cond_true, ↓cond_false, ↓cond_and, ↓cond_or, ↓cond_not, ↓cond_ite, ↓if_pos, ↓if_neg, ↓if_true, ↓if_false, List.take_length, Nat.le_refl, Bool.not_true, Bool.not_false, if_pos, if_neg, Bool.false_eq_true, e3, e4, List.map_cons, List.map_nil, dgP, atP]
theorem send_err (a b : List UInt8) (data : List Int) (fates : List FtT) (ps : List PcT) (sent lost cnow now : Int) (h : now < cnow ∨ now > 1099511627776) :
    carrier_Carrier_Send (a, (b, (data, (now, (true, (fates, (ps, (sent, (lost, cnow))))))))) = some (0, (3, (true, (fates, (ps, (sent, (lost, cnow))))))) := by
  unfold carrier_Carrier_Send
  by_cases h1 : now < cnow
  · simp (disch := (first | omega | (simp only [List.length_append, List.length_cons, List.length_nil, List.nil_append, List.length_take, List.length_drop]; omega))) only [↓bindO_some, ↓bindO_none, ↓joinO_inl, ↓joinO_inr, ↓joinO_none, ↓outO_some, ↓outO_none, ↓cond_true, ↓cond_false, ↓cond_and, ↓cond_or, ↓cond_not, ↓cond_ite, ↓if_pos, ↓if_neg, ↓if_true, ↓if_false, List.take_length, Nat.le_refl, Bool.not_true, Bool.not_false, if_pos]
  · simp (disch := (first | omega | (simp only [List.length_append, List.length_cons, List.length_nil, List.nil_append, List.length_take, List.length_drop]; omega))) only [↓bindO_some, ↓bindO_none, ↓joinO_inl, ↓joinO_inr, ↓joinO_none, ↓outO_some, ↓outO_none, ↓cond_true, ↓cond_false, ↓cond_and, ↓cond_or, ↓cond_not, ↓cond_ite, ↓if_pos, ↓if_neg, ↓if_true, ↓if_false, List.take_length, Nat.le_refl, Bool.not_true, Bool.not_false, if_pos, if_neg]
theorem rsend_err (a b : List UInt8) (data : List Int) (fates : List FtT) (W : List DgT) (sent lost cnow now : Int) (h : now < cnow ∨ now > 1099511627776) :
    rSend (a, (b, (data, (now, (fates, (W, (cnow, (sent, lost)))))))) = some (0, (3, (fates, (W, (cnow, (sent, lost)))))) := by
  unfold rSend
  by_cases h1 : now < cnow
  · simp (disch := (first | omega | (simp only [List.length_append, List.length_cons, List.length_nil, List.nil_append, List.length_take, List.length_drop]; omega))) only [↓bindO_some, ↓bindO_none, ↓joinO_inl, ↓joinO_inr, ↓joinO_none, ↓outO_some, ↓outO_none, ↓cond_true, ↓cond_false, ↓cond_and, ↓cond_or, ↓cond_not, ↓cond_ite, ↓if_pos, ↓if_neg, ↓if_true, ↓if_false, List.take_length, Nat.le_refl, Bool.not_true, Bool.not_false, if_pos]
  · simp (disch := (first | omega | (simp only [List.length_append, List.length_cons, List.length_nil, List.nil_append, List.length_take, List.length_drop]; omega))) only [↓bindO_some, ↓bindO_none, ↓joinO_inl, ↓joinO_inr, ↓joinO_none, ↓outO_some, ↓outO_none, ↓cond_true, ↓cond_false, ↓cond_and, ↓cond_or, ↓cond_not, ↓cond_ite, ↓if_pos, ↓if_neg, ↓if_true, ↓if_false, List.take_length, Nat.le_refl, Bool.not_true, Bool.not_false, if_pos, if_neg]
theorem receive_err (fates : List FtT) (ps : List PcT) (sent lost cnow now : Int) (h : now < cnow ∨ now > 1099511627776) :
    carrier_Carrier_Receive (now, (true, (fates, (ps, (sent, (lost, cnow)))))) = some ([], (3, (true, (fates, (ps, (sent, (lost, cnow))))))) := by
  unfold carrier_Carrier_Receive
  by_cases h1 : now < cnow
  · simp (disch := (first | omega | (simp only [List.length_append, List.length_cons, List.length_nil, List.nil_append, List.length_take, List.length_drop]; omega))) only [↓bindO_some, ↓bindO_none, ↓joinO_inl, ↓joinO_inr, ↓joinO_none, ↓outO_some, ↓outO_none, ↓cond_true, ↓cond_false, ↓cond_and, ↓cond_or, ↓cond_not, ↓cond_ite, ↓if_pos, ↓if_neg, ↓if_true, ↓if_false, List.take_length, Nat.le_refl, Bool.not_true, Bool.not_false, if_pos]
  · simp (disch := (first | omega | (simp only [List.length_append, List.length_cons, List.length_nil, List.nil_append, List.length_take, List.length_drop]; omega))) only [↓bindO_some, ↓bindO_none, ↓joinO_inl, ↓joinO_inr, ↓joinO_none, ↓outO_some, ↓outO_none, ↓cond_true, ↓cond_false, ↓cond_and, ↓cond_or, ↓cond_not, ↓cond_ite, ↓if_pos, ↓if_neg, ↓if_true, ↓if_false, List.take_length, Nat.le_refl, Bool.not_true, Bool.not_false, if_pos, if_neg]
theorem rreceive_err (fates : List FtT) (W : List DgT) (sent lost cnow now : Int) (h : now < cnow ∨ now > 1099511627776) :
    rReceive (now, (fates, (W, (cnow, (sent, lost))))) = some ([], (3, (fates, (W, (cnow, (sent, lost)))))) := by
  unfold rReceive
  by_cases h1 : now < cnow
  · simp (disch := (first | omega | (simp only [List.length_append, List.length_cons, List.length_nil, List.nil_append, List.length_take, List.length_drop]; omega))) only [↓bindO_some, ↓bindO_none, ↓joinO_inl, ↓joinO_inr, ↓joinO_none, ↓outO_some, ↓outO_none, ↓cond_true, ↓cond_false, ↓cond_and, ↓cond_or, ↓cond_not, ↓cond_ite, ↓if_pos, ↓if_neg, ↓if_true, ↓if_false, List.take_length, Nat.le_refl, Bool.not_true, Bool.not_false, if_pos]
  · simp (disch := (first | omega | (simp only [List.length_append, List.length_cons, List.length_nil, List.nil_append, List.length_take, List.length_drop]; omega))) only [↓bindO_some, ↓bindO_none, ↓joinO_inl, ↓joinO_inr, ↓joinO_none, ↓outO_some, ↓outO_none, ↓cond_true, ↓cond_false, ↓cond_and, ↓cond_or, ↓cond_not, ↓cond_ite, ↓if_pos, ↓if_neg, ↓if_true, ↓if_false, List.take_length, Nat.le_refl, Bool.not_true, Bool.not_false, if_pos, if_neg]
structure RInv (W : List PcT) (now : Int) (O R : List PcT) : Prop where
  pm : (O ++ R).Perm W
  ky : R.Pairwise pkey
  fl : R.filter (fun p => !decide (atP p ≤ now)) = W.filter (fun p => !decide (atP p ≤ now))
  so : O.Pairwise fun p q => ¬ plt q p
  be : ∀ p ∈ O, ∀ q ∈ R, ¬ plt q p
  lo : ∀ p ∈ O, atP p ≤ now
theorem rinv0 {W : List PcT} {now : Int} (h : W.Pairwise pkey) : RInv W now [] W := ⟨List.Perm.refl _, h, rfl, List.Pairwise.nil, fun p h => (by cases h), fun p h => (by cases h)⟩
theorem RInv.step {W : List PcT} {now : Int} {O A B : List PcT} {p : PcT} (h : RInv W now O (A ++ p :: B)) (h1 : ∀ q ∈ A, atP p < atP q) (h2 : ∀ q ∈ B, atP p ≤ atP q) (hp : atP p ≤ now) : RInv W now (O ++ [p]) (A ++ B) := by
  have hk := List.pairwise_append.1 h.ky
  have hpB := List.pairwise_cons.1 hk.2.1
  refine ⟨?_, ?_, ?_, ?_, ?_, ?_⟩
  · refine List.Perm.trans ?_ h.pm
    rw [List.append_assoc]
    exact List.Perm.append_left O (show (p :: (A ++ B)).Perm (A ++ p :: B) from List.perm_middle.symm)
  · exact List.pairwise_append.2 ⟨hk.1, hpB.2, fun a ha b hb => hk.2.2 a ha b (List.mem_cons_of_mem _ hb)⟩
  · rw [← h.fl, List.filter_append, List.filter_append, List.filter_cons_of_neg (by simp [hp])]
  · exact List.pairwise_append.2 ⟨h.so, by simp, fun a ha b hb => by rw [List.mem_singleton] at hb; subst hb; exact h.be a ha b (by simp)⟩
  · intro a ha q hq
    rcases List.mem_append.1 ha with g | g
    · refine h.be a g q ?_
      rcases List.mem_append.1 hq with k | k
      · exact List.mem_append_left _ k
      · exact List.mem_append_right _ (List.mem_cons_of_mem _ k)
    · rw [List.mem_singleton] at g
      subst g
      rw [plt_iff]
      rintro (k | ⟨k1, k2⟩)
      · rcases List.mem_append.1 hq with g | g
        · have := h1 q g; omega
        · have := h2 q g; omega
      · rcases List.mem_append.1 hq with g | g
        · have := h1 q g; omega
        · exact pkey_asym (hpB.1 q g) k2
  · intro a ha
    rcases List.mem_append.1 ha with g | g
    · exact h.lo a g
    · rw [List.mem_singleton] at g; subst g; exact hp
theorem RInv.done {W : List PcT} {now : Int} {O R : List PcT} (h : RInv W now O R) (hR : ∀ q ∈ R, now < atP q) : R = W.filter (fun p => !decide (atP p ≤ now)) ∧ O.Perm (W.filter fun p => decide (atP p ≤ now)) := by
  refine ⟨?_, ?_⟩
  · rw [← h.fl, eq_comm, List.filter_eq_self]
    intro q hq
    have := hR q hq
    simp; omega
  · have e : (O ++ R).filter (fun p => decide (atP p ≤ now)) = O := by
      rw [List.filter_append, List.filter_eq_self.2 (fun p hp => by simp [h.lo p hp]), List.filter_eq_nil_iff.2 (fun q hq => by have := hR q hq; simp; omega), List.append_nil]
    rw [← e]
    exact h.pm.filter _
theorem cut_at {α : Type} (d : α) (l : List α) {b : Nat} (h : b < l.length) : l = l.take b ++ l.getD b d :: l.drop (b + 1) := by
  rw [← drop_cons l d h, List.take_append_drop]
theorem mem_take_getD {α : Type} (d : α) {l : List α} {b : Nat} {x : α} (h : x ∈ l.take b) : ∃ k, k < b ∧ k < l.length ∧ l.getD k d = x := by
  obtain ⟨k, hk, rfl⟩ := List.getElem_of_mem h
  rw [List.length_take] at hk
  exact ⟨k, by omega, by omega, by rw [getD_get _ (by omega), List.getElem_take]⟩
theorem mem_drop_getD {α : Type} (d : α) {l : List α} {b : Nat} {x : α} (h : x ∈ l.drop b) : ∃ k, b ≤ k ∧ k < l.length ∧ l.getD k d = x := by
  obtain ⟨k, hk, rfl⟩ := List.getElem_of_mem h
  rw [List.length_drop] at hk
  exact ⟨b + k, by omega, by omega, by rw [getD_get _ (by omega), List.getElem_drop]⟩
end Go.Proofs.Ytkhdpjlpahammaa
