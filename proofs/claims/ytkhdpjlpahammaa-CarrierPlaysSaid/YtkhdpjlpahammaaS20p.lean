import Derived.Test.YtkhdpjlpahammaaS18p
set_option linter.unusedVariables false
set_option linter.unusedSimpArgs false
set_option maxRecDepth 100000
set_option maxHeartbeats 2000000
namespace Go.Proofs.Ytkhdpjlpahammaa
open Go.RowKit
structure GoodC (ps : List PcT) (sent lost now : Int) (n : Nat) : Prop where
  len : (ps.length : Int) ≤ 2 * sent
  snt : 0 ≤ sent ∧ sent ≤ (n : Int)
  lst : 0 ≤ lost ∧ lost ≤ sent
  nw : 0 ≤ now ∧ now ≤ 1099511627776
  ok : ∀ p ∈ ps, OkP p
  ky : ps.Pairwise pkey
  nr : ∀ p ∈ ps, p.2.1 < sent
theorem GoodC.mono {ps : List PcT} {sent lost now : Int} {n m : Nat} (h : GoodC ps sent lost now n) (k : n ≤ m) : GoodC ps sent lost now m := ⟨h.len, ⟨h.snt.1, by have := h.snt.2; omega⟩, h.lst, h.nw, h.ok, h.ky, h.nr⟩
theorem good0 (n : Nat) : GoodC [] 0 0 0 n := ⟨by simp, by omega, by omega, by omega, fun p h => (by cases h), List.Pairwise.nil, fun p h => (by cases h)⟩
theorem new_len (f : FtT) (n : Int) (a b : List UInt8) (now : Int) (data : List Int) : (newPc f n a b now data).length ≤ 2 := by
  unfold newPc
  split
  · simp
  · split <;> simp
theorem new_mem {f : FtT} {n : Int} {a b : List UInt8} {now : Int} {data : List Int} {p : PcT} (h : p ∈ newPc f n a b now data) : ∃ s, p = (f, (n, (a, (b, (now, (s, data)))))) := by
  unfold newPc at h
  split at h
  · cases h
  · rcases List.mem_cons.1 h with h | h
    · exact ⟨false, h⟩
    · split at h
      · exact ⟨true, List.mem_singleton.1 h⟩
      · cases h
theorem new_key (f : FtT) (n : Int) (a b : List UInt8) (now : Int) (data : List Int) : (newPc f n a b now data).Pairwise pkey := by
  unfold newPc
  split
  · exact List.Pairwise.nil
  · split
    · refine List.pairwise_cons.2 ⟨fun q hq => ?_, by simp⟩
      rw [List.mem_singleton] at hq
      subst hq
      exact .inr ⟨rfl, rfl, rfl⟩
    · simp
theorem GoodC.send {fates : List FtT} {ps : List PcT} {sent lost cnow now : Int} {i : Nat} (h : GoodC ps sent lost cnow i) (hf : OkFs fates) (a b : List UInt8) (data : List Int) (h1 : cnow ≤ now) (h2 : now ≤ 1099511627776) (hd : data.length ≤ 140737488355328) :
    GoodC (ps ++ newPc (fateAt fates sent) sent a b now data) (sent + 1) (if (fateAt fates sent).1 = true then lost + 1 else lost) now (i + 1) := by
  have hl := new_len (fateAt fates sent) sent a b now data
  have h3 := h.len
  have h4 := h.snt
  have h5 := h.lst
  have h6 := h.nw
  refine ⟨?_, by omega, by split <;> omega, by omega, fun p hp => ?_, ?_, fun p hp => ?_⟩
  · rw [List.length_append]; omega
  · rcases List.mem_append.1 hp with g | g
    · exact h.ok p g
    · obtain ⟨s, rfl⟩ := new_mem g
      have := fate_ok hf sent
      unfold OkP
      simp only
      omega
  · refine List.pairwise_append.2 ⟨h.ky, new_key .., fun p hp q hq => ?_⟩
    obtain ⟨s, rfl⟩ := new_mem hq
    exact .inl (h.nr p hp)
  · rcases List.mem_append.1 hp with g | g
    · have := h.nr p g; omega
    · obtain ⟨s, rfl⟩ := new_mem g
      simp only; omega
theorem GoodC.recv {ps : List PcT} {sent lost cnow now : Int} {i : Nat} (h : GoodC ps sent lost cnow i) (h1 : cnow ≤ now) (h2 : now ≤ 1099511627776) :
    GoodC (ps.filter (fun p => !decide (atP p ≤ now))) sent lost now i := by
  have h3 := h.len
  have h6 := h.nw
  have := List.length_filter_le (fun p => !decide (atP p ≤ now)) ps
  exact ⟨by omega, h.snt, h.lst, by omega, fun p hp => h.ok p (List.mem_filter.1 hp).1, h.ky.filter _, fun p hp => h.nr p (List.mem_filter.1 hp).1⟩
theorem copy_j (fates : List FtT) (ps : List PcT) (sent lost now : Int) (hf : fates.length ≤ 1000000) (hl : ps.length ≤ 1000000) (ho : ∀ p ∈ ps, OkP p) :
    copyC (true, (fates, (ps, (sent, (lost, now))))) = some (true, (fates, (ps, (sent, (lost, now))))) := by
  have c1 : cloneG fates = some fates := by unfold cloneG; rw [decide_eq_true hf]; rfl
  have c2 : cloneG ps = some ps := by unfold cloneG; rw [decide_eq_true hl]; rfl
  have hL : ∀ {δ : Type}, loopO (cpB (δ := δ) ps) ((0 : Int), ps) = some (.inl ps) := fun {δ} => by
    refine loopO_from (fun i => ((i : Int), ps)) ps.length rfl (fun i hi => ?_) ?_
    · obtain ⟨x, hx, hxb⟩ := get_at dP hi
      have hok := ho x (by rw [← hx, getD_get _ hi]; exact List.getElem_mem _)
      have hcl : cloneB x.2.2.2.2.2.2 = some x.2.2.2.2.2.2 := by unfold cloneB; rw [decide_eq_true hok.2.2.2]; rfl
      have hs : List.set ps i x = ps := by
        rw [← hx, getD_get _ hi]; exact List.set_getElem_self hi
      have hn : ((i : Int) + 1) = ((i + 1 : Nat) : Int) := rfl
      unfold cpB
      simp (disch := (first | omega | (simp only [List.length_append, List.length_cons, List.length_nil, List.nil_append, List.length_take, List.length_drop]; omega))) only [↓bindO_some, ↓bindO_none, ↓joinO_inl, ↓joinO_inr, ↓joinO_none, ↓outO_some, ↓outO_none, ↓cond_true, ↓cond_false, ↓cond_and, ↓cond_or, ↓cond_not, ↓cond_ite, ↓if_pos, ↓if_neg, ↓if_true, ↓if_false, List.take_length, Nat.le_refl, Bool.not_true, Bool.not_false, if_pos, if_neg, ↓hxb, hcl, wrap_i64', hn, Int.toNat_natCast]
      rw [show ((x.1.1, (x.1.2.1, (x.1.2.2.1, x.1.2.2.2))), (x.2.1, (x.2.2.1, (x.2.2.2.1, (x.2.2.2.2.1, (x.2.2.2.2.2.1, x.2.2.2.2.2.2)))))) = x from rfl, hs]
    · unfold cpB
      simp (disch := (first | omega | (simp only [List.length_append, List.length_cons, List.length_nil, List.nil_append, List.length_take, List.length_drop]; omega))) only [↓bindO_some, ↓bindO_none, ↓joinO_inl, ↓joinO_inr, ↓joinO_none, ↓outO_some, ↓outO_none, ↓cond_true, ↓cond_false, ↓cond_and, ↓cond_or, ↓cond_not, ↓cond_ite, ↓if_pos, ↓if_neg, ↓if_true, ↓if_false, List.take_length, Nat.le_refl, Bool.not_true, Bool.not_false, if_neg]
  rw [cp_eq]
  simp (disch := (first | omega | (simp only [List.length_append, List.length_cons, List.length_nil, List.nil_append, List.length_take, List.length_drop]; omega))) only [↓bindO_some, ↓bindO_none, ↓joinO_inl, ↓joinO_inr, ↓joinO_none, ↓outO_some, ↓outO_none, ↓cond_true, ↓cond_false, ↓cond_and, ↓cond_or, ↓cond_not, ↓cond_ite, ↓if_pos, ↓if_neg, ↓if_true, ↓if_false, List.take_length, Nat.le_refl, Bool.not_true, Bool.not_false, if_pos, if_neg, c1, c2]
  refine joinO_eq (a := ps) hL ?_
  simp (disch := (first | omega | (simp only [List.length_append, List.length_cons, List.length_nil, List.nil_append, List.length_take, List.length_drop]; omega))) only [↓bindO_some, ↓bindO_none, ↓joinO_inl, ↓joinO_inr, ↓joinO_none, ↓outO_some, ↓outO_none, ↓cond_true, ↓cond_false, ↓cond_and, ↓cond_or, ↓cond_not, ↓cond_ite, ↓if_pos, ↓if_neg, ↓if_true, ↓if_false, List.take_length, Nat.le_refl, Bool.not_true, Bool.not_false, if_pos, if_neg]
theorem same11_j (l : List DgT) (hl : l.length ≤ 1000000) : dialtoneref11_Same (l, l) = some true := by
  unfold dialtoneref11_Same
  simp only [ne_eq, not_true_eq_false, decide_false, cond_false]
  refine joinO_eq (a := ()) ?_ rfl
  refine loopO_from (fun i => ((i : Int))) l.length rfl (fun i hi => ?_) ?_
  · obtain ⟨f, hf, hfb⟩ := get_at dDg hi
    have hn : ((i : Int) + 1) = ((i + 1 : Nat) : Int) := rfl
    simp (disch := (first | omega | (simp only [List.length_append, List.length_cons, List.length_nil, List.nil_append, List.length_take, List.length_drop]; omega))) only [↓bindO_some, ↓bindO_none, ↓joinO_inl, ↓joinO_inr, ↓joinO_none, ↓outO_some, ↓outO_none, ↓cond_true, ↓cond_false, ↓cond_and, ↓cond_or, ↓cond_not, ↓cond_ite, ↓if_pos, ↓if_neg, ↓if_true, ↓if_false, List.take_length, Nat.le_refl, Bool.not_true, Bool.not_false, if_pos, if_neg, ↓hfb, wrap_i64', hn, ne_eq, not_true_eq_false, decide_false]
  · simp (disch := (first | omega | (simp only [List.length_append, List.length_cons, List.length_nil, List.nil_append, List.length_take, List.length_drop]; omega))) only [↓bindO_some, ↓bindO_none, ↓joinO_inl, ↓joinO_inr, ↓joinO_none, ↓outO_some, ↓outO_none, ↓cond_true, ↓cond_false, ↓cond_and, ↓cond_or, ↓cond_not, ↓cond_ite, ↓if_pos, ↓if_neg, ↓if_true, ↓if_false, List.take_length, Nat.le_refl, Bool.not_true, Bool.not_false, if_neg]
theorem call_j (fates : List FtT) (hf : OkFs fates) (hfl : fates.length ≤ 60) (x : AcT) (hd : x.2.2.2.2.length ≤ 140737488355328) (ps : List PcT) (sent lost now : Int) (i : Nat) (hi : i ≤ 60) (h : GoodC ps sent lost now i) :
    ∃ ps' sent' lost' now', GoodC ps' sent' lost' now' (i + 1) ∧ plS x fates (ps.map dgP) now sent lost true fates ps sent lost now = some (.inl ((fates, (ps'.map dgP, (now', (sent', lost')))), (true, (fates, (ps', (sent', (lost', now'))))))) := by
  have h3 := h.len
  have h4 := h.snt
  have h5 := h.lst
  have h6 := h.nw
  have lM : (ps.map dgP).length = ps.length := List.length_map ..
  by_cases hs : Int.tmod x.1 4 < 2
  · by_cases he : x.2.1 < now ∨ x.2.1 > 1099511627776
    · have e1 := send_err x.2.2.1 x.2.2.2.1 x.2.2.2.2 fates ps sent lost now x.2.1 he
      have e2 := rsend_err x.2.2.1 x.2.2.2.1 x.2.2.2.2 fates (ps.map dgP) sent lost now x.2.1 he
      refine ⟨ps, sent, lost, now, h.mono (Nat.le_succ i), ?_⟩
      unfold plS
      simp (disch := (first | omega | (simp only [List.length_append, List.length_cons, List.length_nil, List.nil_append, List.length_take, List.length_drop]; omega))) only [↓bindO_some, ↓bindO_none, ↓joinO_inl, ↓joinO_inr, ↓joinO_none, ↓outO_some, ↓outO_none, ↓cond_true, ↓cond_false, ↓cond_and, ↓cond_or, ↓cond_not, ↓cond_ite, ↓if_pos, ↓if_neg, ↓if_true, ↓if_false, List.take_length, Nat.le_refl, Bool.not_true, Bool.not_false, if_pos, if_neg, e1, e2, ne_eq, not_true_eq_false, decide_false]
    · have e1 := send_j x.2.2.1 x.2.2.2.1 x.2.2.2.2 fates ps sent lost now x.2.1 (by omega) (by omega) (by omega) (by omega) (by omega) hd (by omega)
      have e2 := rsend_j x.2.2.1 x.2.2.2.1 x.2.2.2.2 fates (ps.map dgP) sent lost now x.2.1 hf (by omega) (by omega) (by omega) (by omega) (by omega) (by omega) hd (by omega)
      have hg := h.send hf x.2.2.1 x.2.2.2.1 x.2.2.2.2 (now := x.2.1) (by omega) (by omega) hd
      rw [← List.map_append] at e2
      refine ⟨_, _, _, _, hg, ?_⟩
      generalize ps ++ newPc (fateAt fates sent) sent x.2.2.1 x.2.2.2.1 x.2.1 x.2.2.2.2 = qs at *
      generalize (if (fateAt fates sent).1 = true then lost + 1 else lost) = lo at *
      unfold plS
      simp (disch := (first | omega | (simp only [List.length_append, List.length_cons, List.length_nil, List.nil_append, List.length_take, List.length_drop]; omega))) only [↓bindO_some, ↓bindO_none, ↓joinO_inl, ↓joinO_inr, ↓joinO_none, ↓outO_some, ↓outO_none, ↓cond_true, ↓cond_false, ↓cond_and, ↓cond_or, ↓cond_not, ↓cond_ite, ↓if_pos, ↓if_neg, ↓if_true, ↓if_false, List.take_length, Nat.le_refl, Bool.not_true, Bool.not_false, if_pos, if_neg, e1, e2, ne_eq, not_true_eq_false, decide_false]
  · have hr : ∀ v : Int, ∃ ps' sent' lost' now' L e, GoodC ps' sent' lost' now' (i + 1) ∧ L.length ≤ 1000 ∧ carrier_Carrier_Receive (v, (true, (fates, (ps, (sent, (lost, now)))))) = some (L, (e, (true, (fates, (ps', (sent', (lost', now'))))))) ∧ rReceive (v, (fates, (ps.map dgP, (now, (sent, lost))))) = some (L, (e, (fates, (ps'.map dgP, (now', (sent', lost')))))) := fun v => by
      by_cases he : v < now ∨ v > 1099511627776
      · exact ⟨ps, sent, lost, now, [], 3, h.mono (Nat.le_succ i), by simp, receive_err fates ps sent lost now v he, rreceive_err fates (ps.map dgP) sent lost now v he⟩
      · obtain ⟨L, l1, l2, l3⟩ := both_receive fates ps sent lost now v (by omega) (by omega) (by omega) h.ky h.ok
        exact ⟨_, sent, lost, v, L.map dgP, 0, (h.recv (by omega) (by omega)).mono (Nat.le_succ i), by rw [List.length_map]; omega, l2, l3⟩
    obtain ⟨v, hv⟩ : ∃ v, (if Int.tmod x.1 4 = 3 then IntKind.wrap .i64 (now + IntKind.wrap .i64 (Int.tmod (IntKind.wrap .u64 x.2.1) 50)) else x.2.1) = v := ⟨_, rfl⟩
    obtain ⟨ps', sent', lost', now', L, e, hg, lL, r1, r2⟩ := hr v
    have hsame := same11_j L (by omega)
    refine ⟨ps', sent', lost', now', hg, ?_⟩
    unfold plS
    simp (disch := (first | omega | (simp only [List.length_append, List.length_cons, List.length_nil, List.nil_append, List.length_take, List.length_drop]; omega))) only [↓bindO_some, ↓bindO_none, ↓joinO_inl, ↓joinO_inr, ↓joinO_none, ↓outO_some, ↓outO_none, ↓cond_true, ↓cond_false, ↓cond_and, ↓cond_or, ↓cond_not, ↓cond_ite, ↓if_pos, ↓if_neg, ↓if_true, ↓if_false, List.take_length, Nat.le_refl, Bool.not_true, Bool.not_false, if_neg]
    refine joinO_eq (a := v) ?_ ?_
    · rw [← hv]
      by_cases h3 : Int.tmod x.1 4 = 3
      · simp only [h3, if_true]
      · simp only [h3, if_false]
    · simp (disch := (first | omega | (simp only [List.length_append, List.length_cons, List.length_nil, List.nil_append, List.length_take, List.length_drop]; omega))) only [↓bindO_some, ↓bindO_none, ↓joinO_inl, ↓joinO_inr, ↓joinO_none, ↓outO_some, ↓outO_none, ↓cond_true, ↓cond_false, ↓cond_and, ↓cond_or, ↓cond_not, ↓cond_ite, ↓if_pos, ↓if_neg, ↓if_true, ↓if_false, List.take_length, Nat.le_refl, Bool.not_true, Bool.not_false, if_pos, if_neg, r1, r2, hsame, ne_eq, not_true_eq_false, decide_false]
end Go.Proofs.Ytkhdpjlpahammaa
