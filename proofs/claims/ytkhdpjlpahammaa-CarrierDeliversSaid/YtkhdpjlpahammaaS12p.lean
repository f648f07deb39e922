import Derived.Test.YtkhdpjlpahammaaS10p
import Derived.Test.YtkhdpjlpahammaaS11p
set_option linter.unusedVariables false
set_option linter.unusedSimpArgs false
set_option maxRecDepth 100000
set_option maxHeartbeats 2000000
namespace Go.Proofs.Ytkhdpjlpahammaa
open Go.RowKit
def OkF (l : List FtT) : Prop := ∀ f ∈ l, (0 ≤ f.2.1 ∧ f.2.1 < 500) ∧ (0 ≤ f.2.2.2 ∧ f.2.2.2 < 500)
theorem m500 (x : Int) : 0 ≤ Int.tmod (IntKind.wrap .u64 x) 500 ∧ Int.tmod (IntKind.wrap .u64 x) 500 < 500 := by
  rw [wr_u64, Int.tmod_eq_emod_of_nonneg (by omega)]
  omega
theorem fit_j (a : List FtT) : ∃ own, dialtonelaw11_fit a = some own ∧ own.length ≤ 40 ∧ OkF own := by
  obtain ⟨r, h1, l, hl, ho, rfl⟩ := loopO_post (body := ftB a)
    (fun x => ∃ (i : Nat) (l : List FtT), x = ((i : Int), l) ∧ l.length ≤ i ∧ i ≤ 40 ∧ i ≤ a.length ∧ OkF l)
    (fun r => ∃ l : List FtT, l.length ≤ 40 ∧ OkF l ∧ r = .inl l)
    (fun x => (40 - x.1).toNat)
    (fun x hx => by
      obtain ⟨i, l, rfl, h1, h2, h3, h4⟩ := hx
      by_cases h : i < a.length
      · by_cases h5 : i < 40
        · obtain ⟨f, hf, hfb⟩ := get_at zF h
          obtain ⟨u, hu⟩ : ∃ u, Int.tmod (IntKind.wrap .u64 f.2.1) 500 = u := ⟨_, rfl⟩
          obtain ⟨w, hw⟩ : ∃ w, Int.tmod (IntKind.wrap .u64 f.2.2.2) 500 = w := ⟨_, rfl⟩
          have hu1 := m500 f.2.1
          have hw1 := m500 f.2.2.2
          rw [hu] at hu1
          rw [hw] at hw1
          have hn : ((i : Int) + 1) = ((i + 1 : Nat) : Int) := rfl
          refine .inr ⟨(((i + 1 : Nat) : Int), l ++ [(f.1, (u, (f.2.2.1, w)))]), ?_, ⟨i + 1, _, rfl, by simp; omega, by omega, by omega, fun g hg => ?_⟩, ?_⟩
          · unfold ftB
            simp (disch := (first | omega | (simp only [List.length_append, List.length_cons, List.length_nil, List.nil_append, List.length_take, List.length_drop]; omega))) only [↓bindO_some, ↓bindO_none, ↓joinO_inl, ↓joinO_inr, ↓joinO_none, ↓outO_some, ↓outO_none, ↓cond_true, ↓cond_false, ↓cond_and, ↓cond_or, ↓cond_not, ↓cond_ite, ↓if_pos, ↓if_neg, ↓if_true, ↓if_false, List.take_length, Nat.le_refl, Bool.not_true, Bool.not_false, if_pos, ↓hfb, hu, hw, wrap_i64', hn]
          · rcases List.mem_append.1 hg with hg | hg
            · exact h4 g hg
            · rw [List.mem_singleton] at hg; subst hg; exact ⟨hu1, hw1⟩
          · show (40 - ((i + 1 : Nat) : Int)).toNat < (40 - (i : Int)).toNat
            omega
        · refine .inl ⟨_, ?_, l, by omega, h4, rfl⟩
          unfold ftB
          simp (disch := (first | omega | (simp only [List.length_append, List.length_cons, List.length_nil, List.nil_append, List.length_take, List.length_drop]; omega))) only [↓bindO_some, ↓bindO_none, ↓joinO_inl, ↓joinO_inr, ↓joinO_none, ↓outO_some, ↓outO_none, ↓cond_true, ↓cond_false, ↓cond_and, ↓cond_or, ↓cond_not, ↓cond_ite, ↓if_pos, ↓if_neg, ↓if_true, ↓if_false, List.take_length, Nat.le_refl, Bool.not_true, Bool.not_false, if_pos, if_neg]
      · refine .inl ⟨_, ?_, l, by omega, h4, rfl⟩
        unfold ftB
        simp (disch := (first | omega | (simp only [List.length_append, List.length_cons, List.length_nil, List.nil_append, List.length_take, List.length_drop]; omega))) only [↓bindO_some, ↓bindO_none, ↓joinO_inl, ↓joinO_inr, ↓joinO_none, ↓outO_some, ↓outO_none, ↓cond_true, ↓cond_false, ↓cond_and, ↓cond_or, ↓cond_not, ↓cond_ite, ↓if_pos, ↓if_neg, ↓if_true, ↓if_false, List.take_length, Nat.le_refl, Bool.not_true, Bool.not_false, if_pos, if_neg])
    (x := ((0 : Int), ([] : List FtT))) ⟨0, [], rfl, by simp, by omega, by omega, fun g hg => (by cases hg)⟩
  refine ⟨l, ?_, hl, ho⟩
  rw [ftB_eq, h1]
  simp (disch := (first | omega | (simp only [List.length_append, List.length_cons, List.length_nil, List.nil_append, List.length_take, List.length_drop]; omega))) only [↓bindO_some, ↓bindO_none, ↓joinO_inl, ↓joinO_inr, ↓joinO_none, ↓outO_some, ↓outO_none, ↓cond_true, ↓cond_false, ↓cond_and, ↓cond_or, ↓cond_not, ↓cond_ite, ↓if_pos, ↓if_neg, ↓if_true, ↓if_false, List.take_length, Nat.le_refl, Bool.not_true, Bool.not_false, if_pos]
theorem cdA_j (own : List FtT) (hl : own.length ≤ 40) (ho : OkF own) : loopO (cdA own) (0 : Int) = some (.inl ()) := by
  refine loopO_from (fun i => ((i : Int))) own.length rfl (fun i hi => ?_) ?_
  · obtain ⟨f, hf, hfb⟩ := get_at zF hi
    have hok := ho f (by rw [← hf, getD_get _ hi]; exact List.getElem_mem _)
    have hn : ((i : Int) + 1) = ((i + 1 : Nat) : Int) := rfl
    unfold cdA
    simp (disch := (first | omega | (simp only [List.length_append, List.length_cons, List.length_nil, List.nil_append, List.length_take, List.length_drop]; omega))) only [↓bindO_some, ↓bindO_none, ↓joinO_inl, ↓joinO_inr, ↓joinO_none, ↓outO_some, ↓outO_none, ↓cond_true, ↓cond_false, ↓cond_and, ↓cond_or, ↓cond_not, ↓cond_ite, ↓if_pos, ↓if_neg, ↓if_true, ↓if_false, List.take_length, Nat.le_refl, Bool.not_true, Bool.not_false, if_pos, if_neg, ↓hfb, wrap_i64', hn]
  · unfold cdA
    simp (disch := (first | omega | (simp only [List.length_append, List.length_cons, List.length_nil, List.nil_append, List.length_take, List.length_drop]; omega))) only [↓bindO_some, ↓bindO_none, ↓joinO_inl, ↓joinO_inr, ↓joinO_none, ↓outO_some, ↓outO_none, ↓cond_true, ↓cond_false, ↓cond_and, ↓cond_or, ↓cond_not, ↓cond_ite, ↓if_pos, ↓if_neg, ↓if_true, ↓if_false, List.take_length, Nat.le_refl, Bool.not_true, Bool.not_false, if_neg]
theorem cdB_j (own : List FtT) (hl : own.length ≤ 40) (ho : OkF own) : loopO (cdB own) (0 : Int) = some (.inl ()) := by
  refine loopO_from (fun i => ((i : Int))) own.length rfl (fun i hi => ?_) ?_
  · obtain ⟨f, hf, hfb⟩ := get_at zF hi
    have hok := ho f (by rw [← hf, getD_get _ hi]; exact List.getElem_mem _)
    have hn : ((i : Int) + 1) = ((i + 1 : Nat) : Int) := rfl
    unfold cdB
    simp (disch := (first | omega | (simp only [List.length_append, List.length_cons, List.length_nil, List.nil_append, List.length_take, List.length_drop]; omega))) only [↓bindO_some, ↓bindO_none, ↓joinO_inl, ↓joinO_inr, ↓joinO_none, ↓outO_some, ↓outO_none, ↓cond_true, ↓cond_false, ↓cond_and, ↓cond_or, ↓cond_not, ↓cond_ite, ↓if_pos, ↓if_neg, ↓if_true, ↓if_false, List.take_length, Nat.le_refl, Bool.not_true, Bool.not_false, if_pos, if_neg, ↓hfb, wrap_i64', hn]
  · unfold cdB
    simp (disch := (first | omega | (simp only [List.length_append, List.length_cons, List.length_nil, List.nil_append, List.length_take, List.length_drop]; omega))) only [↓bindO_some, ↓bindO_none, ↓joinO_inl, ↓joinO_inr, ↓joinO_none, ↓outO_some, ↓outO_none, ↓cond_true, ↓cond_false, ↓cond_and, ↓cond_or, ↓cond_not, ↓cond_ite, ↓if_pos, ↓if_neg, ↓if_true, ↓if_false, List.take_length, Nat.le_refl, Bool.not_true, Bool.not_false, if_neg]
theorem alike_j (l : List DgT) (hl : l.length ≤ 1000000) : dialtonelaw11_alike (l, l) = some true := by
  have h : loopO (alB l l) (0 : Int) = some (.inl ()) := by
    refine loopO_from (fun i => ((i : Int))) l.length rfl (fun i hi => ?_) ?_
    · obtain ⟨f, hf, hfb⟩ := get_at ((0, ([], ([], (0, [])))) : DgT) hi
      have hn : ((i : Int) + 1) = ((i + 1 : Nat) : Int) := rfl
      unfold alB
      simp (disch := (first | omega | (simp only [List.length_append, List.length_cons, List.length_nil, List.nil_append, List.length_take, List.length_drop]; omega))) only [↓bindO_some, ↓bindO_none, ↓joinO_inl, ↓joinO_inr, ↓joinO_none, ↓outO_some, ↓outO_none, ↓cond_true, ↓cond_false, ↓cond_and, ↓cond_or, ↓cond_not, ↓cond_ite, ↓if_pos, ↓if_neg, ↓if_true, ↓if_false, List.take_length, Nat.le_refl, Bool.not_true, Bool.not_false, if_pos, if_neg, ↓hfb, wrap_i64', hn, ne_eq, not_true_eq_false, decide_false]
    · unfold alB
      simp (disch := (first | omega | (simp only [List.length_append, List.length_cons, List.length_nil, List.nil_append, List.length_take, List.length_drop]; omega))) only [↓bindO_some, ↓bindO_none, ↓joinO_inl, ↓joinO_inr, ↓joinO_none, ↓outO_some, ↓outO_none, ↓cond_true, ↓cond_false, ↓cond_and, ↓cond_or, ↓cond_not, ↓cond_ite, ↓if_pos, ↓if_neg, ↓if_true, ↓if_false, List.take_length, Nat.le_refl, Bool.not_true, Bool.not_false, if_neg]
  rw [alB_eq, h, joinO_inl]
  simp
theorem has_j (l : List DgT) (hl : l.length ≤ 1000000) (n at_ st : Int) (hm : (n, ([97], ([98], (at_, [IntKind.wrap .u8 n, st])))) ∈ l) : dialtonelaw11_has (l, (n, (at_, st))) = some true := by
  obtain ⟨k, hk, hke⟩ := List.getElem_of_mem hm
  obtain ⟨r, h1, rfl⟩ := loopO_post (body := hsB l n at_ st)
    (fun x => ∃ i : Nat, x = (i : Int) ∧ i ≤ k)
    (fun r => r = .inr true)
    (fun x => (1000000 - x).toNat)
    (fun x hx => by
      obtain ⟨i, rfl, hi⟩ := hx
      have hil : i < l.length := by omega
      have hn : ((i : Int) + 1) = ((i + 1 : Nat) : Int) := rfl
      obtain ⟨f, hf, hfb⟩ := get_at ((0, ([], ([], (0, [])))) : DgT) hil
      by_cases he : f.1 = n ∧ f.2.2.2.1 = at_ ∧ bytesU f.2.2.2.2 = bytesU [IntKind.wrap .u8 n, st] ∧ f.2.1 = [97] ∧ f.2.2.1 = [98]
      · obtain ⟨e1, e2, e3, e4, e5⟩ := he
        refine .inl ⟨.inr true, ?_, rfl⟩
        unfold hsB dialtonelaw11_datagram
        simp (disch := (first | omega | (simp only [List.length_append, List.length_cons, List.length_nil, List.nil_append, List.length_take, List.length_drop]; omega))) only [↓bindO_some, ↓bindO_none, ↓joinO_inl, ↓joinO_inr, ↓joinO_none, ↓outO_some, ↓outO_none, ↓cond_true, ↓cond_false, ↓cond_and, ↓cond_or, ↓cond_not, ↓cond_ite, ↓if_pos, ↓if_neg, ↓if_true, ↓if_false, List.take_length, Nat.le_refl, Bool.not_true, Bool.not_false, if_pos, ↓hfb, e1, e2, e3, e4, e5, decide_true]
      · have hik : i ≠ k := fun e => by
          subst e
          rw [getD_get _ hil, hke] at hf
          exact he (by rw [← hf]; exact ⟨rfl, rfl, rfl, rfl, rfl⟩)
        refine .inr ⟨((i + 1 : Nat) : Int), ?_, ⟨i + 1, rfl, by omega⟩, ?_⟩
        · unfold hsB dialtonelaw11_datagram
          by_cases e1 : f.1 = n
          · by_cases e2 : f.2.2.2.1 = at_
            · by_cases e3 : bytesU f.2.2.2.2 = bytesU [IntKind.wrap .u8 n, st]
              · by_cases e4 : f.2.1 = [97]
                · have e5 : ¬ f.2.2.1 = [98] := fun e5 => he ⟨e1, e2, e3, e4, e5⟩
                  simp (disch := (first | omega | (simp only [List.length_append, List.length_cons, List.length_nil, List.nil_append, List.length_take, List.length_drop]; omega))) only [↓bindO_some, ↓bindO_none, ↓joinO_inl, ↓joinO_inr, ↓joinO_none, ↓outO_some, ↓outO_none, ↓cond_true, ↓cond_false, ↓cond_and, ↓cond_or, ↓cond_not, ↓cond_ite, ↓if_pos, ↓if_neg, ↓if_true, ↓if_false, List.take_length, Nat.le_refl, Bool.not_true, Bool.not_false, if_pos, if_neg, ↓hfb, e1, e2, e3, e4, e5, decide_true, wrap_i64', hn]
                · simp (disch := (first | omega | (simp only [List.length_append, List.length_cons, List.length_nil, List.nil_append, List.length_take, List.length_drop]; omega))) only [↓bindO_some, ↓bindO_none, ↓joinO_inl, ↓joinO_inr, ↓joinO_none, ↓outO_some, ↓outO_none, ↓cond_true, ↓cond_false, ↓cond_and, ↓cond_or, ↓cond_not, ↓cond_ite, ↓if_pos, ↓if_neg, ↓if_true, ↓if_false, List.take_length, Nat.le_refl, Bool.not_true, Bool.not_false, if_pos, if_neg, ↓hfb, e1, e2, e3, e4, decide_true, wrap_i64', hn]
              · simp (disch := (first | omega | (simp only [List.length_append, List.length_cons, List.length_nil, List.nil_append, List.length_take, List.length_drop]; omega))) only [↓bindO_some, ↓bindO_none, ↓joinO_inl, ↓joinO_inr, ↓joinO_none, ↓outO_some, ↓outO_none, ↓cond_true, ↓cond_false, ↓cond_and, ↓cond_or, ↓cond_not, ↓cond_ite, ↓if_pos, ↓if_neg, ↓if_true, ↓if_false, List.take_length, Nat.le_refl, Bool.not_true, Bool.not_false, if_pos, if_neg, ↓hfb, e1, e2, e3, decide_true, decide_false, wrap_i64', hn]
            · simp (disch := (first | omega | (simp only [List.length_append, List.length_cons, List.length_nil, List.nil_append, List.length_take, List.length_drop]; omega))) only [↓bindO_some, ↓bindO_none, ↓joinO_inl, ↓joinO_inr, ↓joinO_none, ↓outO_some, ↓outO_none, ↓cond_true, ↓cond_false, ↓cond_and, ↓cond_or, ↓cond_not, ↓cond_ite, ↓if_pos, ↓if_neg, ↓if_true, ↓if_false, List.take_length, Nat.le_refl, Bool.not_true, Bool.not_false, if_pos, if_neg, ↓hfb, e1, e2, decide_true, wrap_i64', hn]
          · simp (disch := (first | omega | (simp only [List.length_append, List.length_cons, List.length_nil, List.nil_append, List.length_take, List.length_drop]; omega))) only [↓bindO_some, ↓bindO_none, ↓joinO_inl, ↓joinO_inr, ↓joinO_none, ↓outO_some, ↓outO_none, ↓cond_true, ↓cond_false, ↓cond_and, ↓cond_or, ↓cond_not, ↓cond_ite, ↓if_pos, ↓if_neg, ↓if_true, ↓if_false, List.take_length, Nat.le_refl, Bool.not_true, Bool.not_false, if_pos, if_neg, ↓hfb, e1, wrap_i64', hn]
        · show (1000000 - ((i + 1 : Nat) : Int)).toNat < (1000000 - (i : Int)).toNat
          omega)
    (x := (0 : Int)) ⟨0, rfl, by omega⟩
  rw [hsB_eq, h1]
  rfl
end Go.Proofs.Ytkhdpjlpahammaa
