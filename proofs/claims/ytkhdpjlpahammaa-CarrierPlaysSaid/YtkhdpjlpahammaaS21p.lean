import Derived.Test.YtkhdpjlpahammaaS20p
set_option linter.unusedVariables false
set_option linter.unusedSimpArgs false
set_option maxRecDepth 100000
set_option maxHeartbeats 2000000
namespace Go.Proofs.Ytkhdpjlpahammaa
open Go.RowKit
def dly (n : Int) : Bool := decide (0 ≤ n ∧ n ≤ 60000)
theorem delay_j (n : Int) : dialtoneref11_delay n = some (dly n) := by
  unfold dialtoneref11_delay dly
  by_cases h : n ≥ 0
  · simp (disch := (first | omega | (simp only [List.length_append, List.length_cons, List.length_nil, List.nil_append, List.length_take, List.length_drop]; omega))) only [↓bindO_some, ↓bindO_none, ↓joinO_inl, ↓joinO_inr, ↓joinO_none, ↓outO_some, ↓outO_none, ↓cond_true, ↓cond_false, ↓cond_and, ↓cond_or, ↓cond_not, ↓cond_ite, ↓if_pos, ↓if_neg, ↓if_true, ↓if_false, List.take_length, Nat.le_refl, Bool.not_true, Bool.not_false, if_pos]
    congr 1
    rw [Bool.eq_iff_iff]; simp; omega
  · simp (disch := (first | omega | (simp only [List.length_append, List.length_cons, List.length_nil, List.nil_append, List.length_take, List.length_drop]; omega))) only [↓bindO_some, ↓bindO_none, ↓joinO_inl, ↓joinO_inr, ↓joinO_none, ↓outO_some, ↓outO_none, ↓cond_true, ↓cond_false, ↓cond_and, ↓cond_or, ↓cond_not, ↓cond_ite, ↓if_pos, ↓if_neg, ↓if_true, ↓if_false, List.take_length, Nat.le_refl, Bool.not_true, Bool.not_false, if_neg]
    congr 1
    rw [Bool.eq_iff_iff]; simp; omega
def BadF (f : FtT) : Prop := ¬ (dly f.2.1 = true ∧ dly f.2.2.2 = true)
theorem okFs_of (F : List FtT) (hg : ∀ i, i < F.length → ¬ BadF (F.getD i zF)) : OkFs F := fun f hfm => by
  obtain ⟨k, hk, rfl⟩ := List.getElem_of_mem hfm
  have hb := hg k hk
  simp only [BadF, Classical.not_not, dly, decide_eq_true_eq] at hb
  rw [getD_get _ hk] at hb
  omega
theorem plH_j (F : List FtT) (hF : F.length ≤ 60) (A : List AcT) (hA : A.length ≤ 60) (i : Nat) (hi : i ≤ 60) (qs : List PcT) (s2 l2 n2 : Int) (hq : GoodC qs s2 l2 n2 60) (ps : List PcT) (sent lost now : Int) (hp : GoodC ps sent lost now i) :
    ∃ qs' s2' l2' n2', GoodC qs' s2' l2' n2' 60 ∧ plH A (i : Int) F (qs.map dgP) n2 s2 l2 true F qs s2 l2 n2 F (ps.map dgP) now sent lost true F ps sent lost now = some (.inl ((F, (qs'.map dgP, (n2', (s2', l2')))), (true, (F, (qs', (s2', (l2', n2'))))))) := by
  have h3 := hp.len
  have h4 := hp.snt
  have lM : (ps.map dgP).length = ps.length := List.length_map ..
  by_cases h : (i : Int) = IntKind.wrap .i64 (Int.tdiv ((A.length : Nat) : Int) 2)
  · have hc := copy_j F ps sent lost now (by omega) (by omega) hp.ok
    refine ⟨ps, sent, lost, now, hp.mono hi, ?_⟩
    unfold plH
    simp (disch := (first | omega | (simp only [List.length_append, List.length_cons, List.length_nil, List.nil_append, List.length_take, List.length_drop]; omega))) only [↓bindO_some, ↓bindO_none, ↓joinO_inl, ↓joinO_inr, ↓joinO_none, ↓outO_some, ↓outO_none, ↓cond_true, ↓cond_false, ↓cond_and, ↓cond_or, ↓cond_not, ↓cond_ite, ↓if_pos, ↓if_neg, ↓if_true, ↓if_false, List.take_length, Nat.le_refl, Bool.not_true, Bool.not_false, if_pos, if_neg, hc]
  · refine ⟨qs, s2, l2, n2, hq, ?_⟩
    unfold plH
    simp (disch := (first | omega | (simp only [List.length_append, List.length_cons, List.length_nil, List.nil_append, List.length_take, List.length_drop]; omega))) only [↓bindO_some, ↓bindO_none, ↓joinO_inl, ↓joinO_inr, ↓joinO_none, ↓outO_some, ↓outO_none, ↓cond_true, ↓cond_false, ↓cond_and, ↓cond_or, ↓cond_not, ↓cond_ite, ↓if_pos, ↓if_neg, ↓if_true, ↓if_false, List.take_length, Nat.le_refl, Bool.not_true, Bool.not_false, if_pos, if_neg]
section
variable (F : List FtT) (hF : F.length ≤ 60)
include hF
theorem plI_bad (h : ∃ i, i < F.length ∧ BadF (F.getD i zF)) : loopO (plI F) (0 : Int) = some (.inr true) := by
  refine Or.elim (loopO_search (body := plI F) (r0 := .inl ()) (r1 := .inr true) (x := (0 : Int)) (fun i => (i : Int)) F.length (fun i => BadF (F.getD i zF)) rfl (fun i hi hb => ?_) (fun i hi hb => ?_) ?_) (fun h1 => h1.2) (fun h1 => absurd h h1.1)
  · obtain ⟨f, hf, hfb⟩ := get_at zF hi
    have hn : ((i : Int) + 1) = ((i + 1 : Nat) : Int) := rfl
    simp only [BadF, Classical.not_not] at hb
    rw [hf] at hb
    unfold plI
    simp (disch := (first | omega | (simp only [List.length_append, List.length_cons, List.length_nil, List.nil_append, List.length_take, List.length_drop]; omega))) only [↓bindO_some, ↓bindO_none, ↓joinO_inl, ↓joinO_inr, ↓joinO_none, ↓outO_some, ↓outO_none, ↓cond_true, ↓cond_false, ↓cond_and, ↓cond_or, ↓cond_not, ↓cond_ite, ↓if_pos, ↓if_neg, ↓if_true, ↓if_false, List.take_length, Nat.le_refl, Bool.not_true, Bool.not_false, if_pos, if_neg, ↓hfb, delay_j, hb.1, hb.2, wrap_i64', hn]
  · obtain ⟨f, hf, hfb⟩ := get_at zF hi
    rw [hf] at hb
    unfold plI
    cases h1 : dly f.2.1 with
    | false => simp (disch := (first | omega | (simp only [List.length_append, List.length_cons, List.length_nil, List.nil_append, List.length_take, List.length_drop]; omega))) only [↓bindO_some, ↓bindO_none, ↓joinO_inl, ↓joinO_inr, ↓joinO_none, ↓outO_some, ↓outO_none, ↓cond_true, ↓cond_false, ↓cond_and, ↓cond_or, ↓cond_not, ↓cond_ite, ↓if_pos, ↓if_neg, ↓if_true, ↓if_false, List.take_length, Nat.le_refl, Bool.not_true, Bool.not_false, if_pos, if_neg, ↓hfb, delay_j, h1]
    | true =>
      have h2 : dly f.2.2.2 = false := by
        cases h2 : dly f.2.2.2 with
        | false => rfl
        | true => exact absurd ⟨h1, h2⟩ hb
      simp (disch := (first | omega | (simp only [List.length_append, List.length_cons, List.length_nil, List.nil_append, List.length_take, List.length_drop]; omega))) only [↓bindO_some, ↓bindO_none, ↓joinO_inl, ↓joinO_inr, ↓joinO_none, ↓outO_some, ↓outO_none, ↓cond_true, ↓cond_false, ↓cond_and, ↓cond_or, ↓cond_not, ↓cond_ite, ↓if_pos, ↓if_neg, ↓if_true, ↓if_false, List.take_length, Nat.le_refl, Bool.not_true, Bool.not_false, if_pos, if_neg, ↓hfb, delay_j, h1, h2]
  · unfold plI
    simp (disch := (first | omega | (simp only [List.length_append, List.length_cons, List.length_nil, List.nil_append, List.length_take, List.length_drop]; omega))) only [↓bindO_some, ↓bindO_none, ↓joinO_inl, ↓joinO_inr, ↓joinO_none, ↓outO_some, ↓outO_none, ↓cond_true, ↓cond_false, ↓cond_and, ↓cond_or, ↓cond_not, ↓cond_ite, ↓if_pos, ↓if_neg, ↓if_true, ↓if_false, List.take_length, Nat.le_refl, Bool.not_true, Bool.not_false, if_neg]
theorem plA_bad (h : ∃ i, i < F.length ∧ BadF (F.getD i zF)) : loopO (plA F) (0 : Int) = some (.inr true) := by
  have hI := plI_bad F hF h
  refine Or.elim (loopO_search (body := plA F) (r0 := .inl ()) (r1 := .inr true) (x := (0 : Int)) (fun i => (i : Int)) F.length (fun i => BadF (F.getD i zF)) rfl (fun i hi hb => ?_) (fun i hi hb => ?_) ?_) (fun h1 => h1.2) (fun h1 => absurd h h1.1)
  · obtain ⟨f, hf, hfb⟩ := get_at zF hi
    have hn : ((i : Int) + 1) = ((i + 1 : Nat) : Int) := rfl
    simp only [BadF, Classical.not_not, dly, decide_eq_true_eq] at hb
    rw [hf] at hb
    unfold plA
    simp (disch := (first | omega | (simp only [List.length_append, List.length_cons, List.length_nil, List.nil_append, List.length_take, List.length_drop]; omega))) only [↓bindO_some, ↓bindO_none, ↓joinO_inl, ↓joinO_inr, ↓joinO_none, ↓outO_some, ↓outO_none, ↓cond_true, ↓cond_false, ↓cond_and, ↓cond_or, ↓cond_not, ↓cond_ite, ↓if_pos, ↓if_neg, ↓if_true, ↓if_false, List.take_length, Nat.le_refl, Bool.not_true, Bool.not_false, if_pos, if_neg, ↓hfb, wrap_i64', hn]
  · obtain ⟨f, hf, hfb⟩ := get_at zF hi
    simp only [BadF, dly, decide_eq_true_eq] at hb
    rw [hf] at hb
    unfold plA
    by_cases a1 : f.2.1 < 0
    · simp (disch := (first | omega | (simp only [List.length_append, List.length_cons, List.length_nil, List.nil_append, List.length_take, List.length_drop]; omega))) only [↓bindO_some, ↓bindO_none, ↓joinO_inl, ↓joinO_inr, ↓joinO_none, ↓outO_some, ↓outO_none, ↓cond_true, ↓cond_false, ↓cond_and, ↓cond_or, ↓cond_not, ↓cond_ite, ↓if_pos, ↓if_neg, ↓if_true, ↓if_false, List.take_length, Nat.le_refl, Bool.not_true, Bool.not_false, if_pos, if_neg, ↓hfb, hI]
    by_cases a2 : f.2.1 > 60000
    · simp (disch := (first | omega | (simp only [List.length_append, List.length_cons, List.length_nil, List.nil_append, List.length_take, List.length_drop]; omega))) only [↓bindO_some, ↓bindO_none, ↓joinO_inl, ↓joinO_inr, ↓joinO_none, ↓outO_some, ↓outO_none, ↓cond_true, ↓cond_false, ↓cond_and, ↓cond_or, ↓cond_not, ↓cond_ite, ↓if_pos, ↓if_neg, ↓if_true, ↓if_false, List.take_length, Nat.le_refl, Bool.not_true, Bool.not_false, if_pos, if_neg, ↓hfb, hI]
    by_cases a3 : f.2.2.2 < 0
    · simp (disch := (first | omega | (simp only [List.length_append, List.length_cons, List.length_nil, List.nil_append, List.length_take, List.length_drop]; omega))) only [↓bindO_some, ↓bindO_none, ↓joinO_inl, ↓joinO_inr, ↓joinO_none, ↓outO_some, ↓outO_none, ↓cond_true, ↓cond_false, ↓cond_and, ↓cond_or, ↓cond_not, ↓cond_ite, ↓if_pos, ↓if_neg, ↓if_true, ↓if_false, List.take_length, Nat.le_refl, Bool.not_true, Bool.not_false, if_pos, if_neg, ↓hfb, hI]
    by_cases a4 : f.2.2.2 > 60000
    · simp (disch := (first | omega | (simp only [List.length_append, List.length_cons, List.length_nil, List.nil_append, List.length_take, List.length_drop]; omega))) only [↓bindO_some, ↓bindO_none, ↓joinO_inl, ↓joinO_inr, ↓joinO_none, ↓outO_some, ↓outO_none, ↓cond_true, ↓cond_false, ↓cond_and, ↓cond_or, ↓cond_not, ↓cond_ite, ↓if_pos, ↓if_neg, ↓if_true, ↓if_false, List.take_length, Nat.le_refl, Bool.not_true, Bool.not_false, if_pos, if_neg, ↓hfb, hI]
    omega
  · unfold plA
    simp (disch := (first | omega | (simp only [List.length_append, List.length_cons, List.length_nil, List.nil_append, List.length_take, List.length_drop]; omega))) only [↓bindO_some, ↓bindO_none, ↓joinO_inl, ↓joinO_inr, ↓joinO_none, ↓outO_some, ↓outO_none, ↓cond_true, ↓cond_false, ↓cond_and, ↓cond_or, ↓cond_not, ↓cond_ite, ↓if_pos, ↓if_neg, ↓if_true, ↓if_false, List.take_length, Nat.le_refl, Bool.not_true, Bool.not_false, if_neg]
variable (hg : ∀ i, i < F.length → ¬ BadF (F.getD i zF))
include hg
theorem plA_ok : loopO (plA F) (0 : Int) = some (.inl ()) := by
  refine loopO_from (fun i => (i : Int)) F.length rfl (fun i hi => ?_) ?_
  · obtain ⟨f, hf, hfb⟩ := get_at zF hi
    have hn : ((i : Int) + 1) = ((i + 1 : Nat) : Int) := rfl
    have hb := hg i hi
    simp only [BadF, Classical.not_not, dly, decide_eq_true_eq] at hb
    rw [hf] at hb
    unfold plA
    simp (disch := (first | omega | (simp only [List.length_append, List.length_cons, List.length_nil, List.nil_append, List.length_take, List.length_drop]; omega))) only [↓bindO_some, ↓bindO_none, ↓joinO_inl, ↓joinO_inr, ↓joinO_none, ↓outO_some, ↓outO_none, ↓cond_true, ↓cond_false, ↓cond_and, ↓cond_or, ↓cond_not, ↓cond_ite, ↓if_pos, ↓if_neg, ↓if_true, ↓if_false, List.take_length, Nat.le_refl, Bool.not_true, Bool.not_false, if_pos, if_neg, ↓hfb, wrap_i64', hn]
  · unfold plA
    simp (disch := (first | omega | (simp only [List.length_append, List.length_cons, List.length_nil, List.nil_append, List.length_take, List.length_drop]; omega))) only [↓bindO_some, ↓bindO_none, ↓joinO_inl, ↓joinO_inr, ↓joinO_none, ↓outO_some, ↓outO_none, ↓cond_true, ↓cond_false, ↓cond_and, ↓cond_or, ↓cond_not, ↓cond_ite, ↓if_pos, ↓if_neg, ↓if_true, ↓if_false, List.take_length, Nat.le_refl, Bool.not_true, Bool.not_false, if_neg]
theorem plB_ok : loopO (plB F) (0 : Int) = some (.inl ()) := by
  refine loopO_from (fun i => (i : Int)) F.length rfl (fun i hi => ?_) ?_
  · obtain ⟨f, hf, hfb⟩ := get_at zF hi
    have hn : ((i : Int) + 1) = ((i + 1 : Nat) : Int) := rfl
    have hb := hg i hi
    simp only [BadF, Classical.not_not] at hb
    rw [hf] at hb
    unfold plB
    simp (disch := (first | omega | (simp only [List.length_append, List.length_cons, List.length_nil, List.nil_append, List.length_take, List.length_drop]; omega))) only [↓bindO_some, ↓bindO_none, ↓joinO_inl, ↓joinO_inr, ↓joinO_none, ↓outO_some, ↓outO_none, ↓cond_true, ↓cond_false, ↓cond_and, ↓cond_or, ↓cond_not, ↓cond_ite, ↓if_pos, ↓if_neg, ↓if_true, ↓if_false, List.take_length, Nat.le_refl, Bool.not_true, Bool.not_false, if_pos, if_neg, ↓hfb, delay_j, hb.1, hb.2, wrap_i64', hn]
  · unfold plB
    simp (disch := (first | omega | (simp only [List.length_append, List.length_cons, List.length_nil, List.nil_append, List.length_take, List.length_drop]; omega))) only [↓bindO_some, ↓bindO_none, ↓joinO_inl, ↓joinO_inr, ↓joinO_none, ↓outO_some, ↓outO_none, ↓cond_true, ↓cond_false, ↓cond_and, ↓cond_or, ↓cond_not, ↓cond_ite, ↓if_pos, ↓if_neg, ↓if_true, ↓if_false, List.take_length, Nat.le_refl, Bool.not_true, Bool.not_false, if_neg]
theorem plM_j (A : List AcT) (hA : A.length ≤ 60) (hd : ∀ x ∈ A, x.2.2.2.2.length ≤ 140737488355328) (P : Option Bool → Prop) {k : PeT → Option Bool}
    (hk : ∀ qs s2 l2 n2 r c, GoodC qs s2 l2 n2 60 → P (k ((F, (qs.map dgP, (n2, (s2, l2)))), ((true, (F, (qs, (s2, (l2, n2))))), (r, c))))) :
    P (joinO (loopO (plM A) ((0 : Int), ((F, (([] : List PcT).map dgP, ((0 : Int), ((0 : Int), (0 : Int))))), ((true, (F, ([], ((0 : Int), ((0 : Int), (0 : Int)))))), ((F, (([] : List PcT).map dgP, ((0 : Int), ((0 : Int), (0 : Int))))), (true, (F, ([], ((0 : Int), ((0 : Int), (0 : Int))))))))))) k) := by
  have hof := okFs_of F hg
  refine loopO_postG (P := P)
    (fun x : PlT => ∃ (i : Nat) (ps : List PcT) (sent lost now : Int) (qs : List PcT) (s2 l2 n2 : Int), x = ((i : Int), ((F, (qs.map dgP, (n2, (s2, l2)))), ((true, (F, (qs, (s2, (l2, n2))))), ((F, (ps.map dgP, (now, (sent, lost)))), (true, (F, (ps, (sent, (lost, now))))))))) ∧ i ≤ A.length ∧ GoodC ps sent lost now i ∧ GoodC qs s2 l2 n2 60)
    (fun x => A.length - x.1.toNat) (fun x hx => ?_) ⟨0, [], 0, 0, 0, [], 0, 0, 0, rfl, Nat.zero_le _, good0 0, good0 60⟩
  obtain ⟨i, ps, sent, lost, now, qs, s2, l2, n2, rfl, hi, hp, hq⟩ := hx
  have hn : ((i : Int) + 1) = ((i + 1 : Nat) : Int) := rfl
  have h3 := hp.len
  have h4 := hp.snt
  have q3 := hq.len
  have q4 := hq.snt
  by_cases h : i < A.length
  · obtain ⟨x, hx, hxb⟩ := get_at ((0, (0, ([], ([], [])))) : AcT) h
    have hxm : x ∈ A := by rw [← hx, getD_get _ h]; exact List.getElem_mem _
    obtain ⟨qs', s2', l2', n2', gq, eH⟩ := plH_j F hF A hA i (by omega) qs s2 l2 n2 hq ps sent lost now hp
    obtain ⟨ps', sent', lost', now', gp, eS⟩ := call_j F hof hF x (hd x hxm) ps sent lost now i (by omega) hp
    have k3 := gp.len
    have k4 := gp.snt
    have hsm := same_j F ps' sent' lost' now' (by omega) gp.ok
    unfold plM
    simp (disch := (first | omega | (simp only [List.length_append, List.length_cons, List.length_nil, List.nil_append, List.length_take, List.length_drop]; omega))) only [↓bindO_some, ↓bindO_none, ↓joinO_inl, ↓joinO_inr, ↓joinO_none, ↓outO_some, ↓outO_none, ↓cond_true, ↓cond_false, ↓cond_and, ↓cond_or, ↓cond_not, ↓cond_ite, ↓if_pos, ↓if_neg, ↓if_true, ↓if_false, List.take_length, Nat.le_refl, Bool.not_true, Bool.not_false, if_pos, if_neg, ↓hxb, eH, eS, hsm, wrap_i64', hn]
    exact .next ⟨i + 1, ps', sent', lost', now', qs', s2', l2', n2', rfl, by omega, gp, gq⟩ (by simp; omega)
  · unfold plM
    simp (disch := (first | omega | (simp only [List.length_append, List.length_cons, List.length_nil, List.nil_append, List.length_take, List.length_drop]; omega))) only [↓bindO_some, ↓bindO_none, ↓joinO_inl, ↓joinO_inr, ↓joinO_none, ↓outO_some, ↓outO_none, ↓cond_true, ↓cond_false, ↓cond_and, ↓cond_or, ↓cond_not, ↓cond_ite, ↓if_pos, ↓if_neg, ↓if_true, ↓if_false, List.take_length, Nat.le_refl, Bool.not_true, Bool.not_false, if_pos, if_neg]
    exact .stop (hk qs s2 l2 n2 _ _ hq)
end
theorem min60 (n : Nat) : 0 ≤ minA (n : Int) 60 ∧ minA (n : Int) 60 ≤ (n : Int) ∧ minA (n : Int) 60 ≤ 60 := by
  unfold minA; split <;> omega
theorem plays_j (fs : List FtT) (acts : List AcT) (hd : ∀ x ∈ acts, x.2.2.2.2.length ≤ 140737488355328) : dialtonelaw11_CarrierPlays (fs, acts) = some true := by
  rw [pl_eq]
  have m1 := min60 fs.length
  have m2 := min60 acts.length
  generalize minA (fs.length : Int) 60 = u at *
  generalize minA (acts.length : Int) 60 = w at *
  obtain ⟨F, hF⟩ : ∃ F, List.take u.toNat fs = F := ⟨_, rfl⟩
  obtain ⟨A, hA⟩ : ∃ A, List.take w.toNat acts = A := ⟨_, rfl⟩
  have lF : F.length ≤ 60 := by rw [← hF, List.length_take]; omega
  have lA : A.length ≤ 60 := by rw [← hA, List.length_take]; omega
  have hdA : ∀ x ∈ A, x.2.2.2.2.length ≤ 140737488355328 := fun x hx => hd x (by rw [← hA] at hx; exact List.mem_of_mem_take hx)
  by_cases hb : ∃ i, i < F.length ∧ BadF (F.getD i zF)
  · have hl := plA_bad F lF hb
    simp (disch := (first | omega | (simp only [List.length_append, List.length_cons, List.length_nil, List.nil_append, List.length_take, List.length_drop]; omega))) only [↓bindO_some, ↓bindO_none, ↓joinO_inl, ↓joinO_inr, ↓joinO_none, ↓outO_some, ↓outO_none, ↓cond_true, ↓cond_false, ↓cond_and, ↓cond_or, ↓cond_not, ↓cond_ite, ↓if_pos, ↓if_neg, ↓if_true, ↓if_false, List.take_length, Nat.le_refl, Bool.not_true, Bool.not_false, if_pos, if_neg, hF, hA, hl]
  have hg : ∀ i, i < F.length → ¬ BadF (F.getD i zF) := fun i hi h => hb ⟨i, hi, h⟩
  have hl := plA_ok F lF hg
  have hl2 := plB_ok F lF hg
  have hc : cloneG F = some F := by unfold cloneG; rw [decide_eq_true (by omega)]; rfl
  have hcp := copy_j F [] 0 0 0 (by omega) (by simp) (fun p h => by cases h)
  simp (disch := (first | omega | (simp only [List.length_append, List.length_cons, List.length_nil, List.nil_append, List.length_take, List.length_drop]; omega))) only [↓bindO_some, ↓bindO_none, ↓joinO_inl, ↓joinO_inr, ↓joinO_none, ↓outO_some, ↓outO_none, ↓cond_true, ↓cond_false, ↓cond_and, ↓cond_or, ↓cond_not, ↓cond_ite, ↓if_pos, ↓if_neg, ↓if_true, ↓if_false, List.take_length, Nat.le_refl, Bool.not_true, Bool.not_false, if_pos, if_neg, hF, hA, hl, hl2, hc, hcp]
  refine plM_j F lF hg A lA hdA (fun o => o = some true) (fun qs s2 l2 n2 r c hq => ?_)
  have hs := same_j F qs s2 l2 n2 (by have := hq.len; have := hq.snt; omega) hq.ok
  simp (disch := (first | omega | (simp only [List.length_append, List.length_cons, List.length_nil, List.nil_append, List.length_take, List.length_drop]; omega))) only [↓bindO_some, ↓bindO_none, ↓joinO_inl, ↓joinO_inr, ↓joinO_none, ↓outO_some, ↓outO_none, ↓cond_true, ↓cond_false, ↓cond_and, ↓cond_or, ↓cond_not, ↓cond_ite, ↓if_pos, ↓if_neg, ↓if_true, ↓if_false, List.take_length, Nat.le_refl, Bool.not_true, Bool.not_false, if_pos, if_neg, hs]
end Go.Proofs.Ytkhdpjlpahammaa
