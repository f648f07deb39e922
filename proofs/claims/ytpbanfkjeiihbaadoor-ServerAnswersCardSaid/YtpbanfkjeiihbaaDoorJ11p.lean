import Derived.Test.YtpbanfkjeiihbaaDoorJ10p
set_option linter.unusedVariables false
set_option linter.unusedSimpArgs false
set_option maxRecDepth 1000000
set_option maxHeartbeats 8000000
namespace Go.Proofs.YtpbanfkjeiihbaaDoor
open Go.RowKit
def codeE (x : Int × (Int × Int)) : Int := IntKind.wrap .i64 (100 + IntKind.wrap .i64 (Int.tmod (IntKind.wrap .u64 x.2.2) 600))
theorem codeE_in (x : Int × (Int × Int)) : 100 ≤ codeE x ∧ codeE x ≤ 699 := by
  have h0 : 0 ≤ IntKind.wrap .u64 x.2.2 := by
    show 0 ≤ x.2.2 % _
    exact Int.emod_nonneg _ (by decide)
  have h1 : Int.tmod (IntKind.wrap .u64 x.2.2) 600 = IntKind.wrap .u64 x.2.2 % 600 := Int.tmod_eq_emod_of_nonneg h0
  have h2 : 0 ≤ IntKind.wrap .u64 x.2.2 % 600 := Int.emod_nonneg _ (by decide)
  have h3 : IntKind.wrap .u64 x.2.2 % 600 < 600 := Int.emod_lt_of_pos _ (by decide)
  unfold codeE
  rw [h1, wrap_i64' (n := IntKind.wrap .u64 x.2.2 % 600) (by omega), wrap_i64' (by omega)]
  omega
theorem minA_len {a b : Nat} (h : a ≤ b) : minA (a : Int) (b : Int) = (a : Int) := by unfold minA; omega
section
variable (a1 : List (Int × (Int × Int))) {i : Nat} {x : Int × (Int × Int)} {s0 c0 k0 now0 : Int} {log0 : List EnT} {s c k now : Int} {log : List EnT} {t kd cd over last : Int} {s' k' : Int} {log' : List EnT} {O : List Ou} {y : EnT}
theorem ev_A (hi : i < a1.length) (hi2 : i < 40) (hx : a1.getD i (0, 0, 0) = x) (hw : 0 ≤ x.1 ∧ x.1 ≤ 65535) (hnow : 0 ≤ now0 ∧ now0 ≤ 2900000) (ht : t = now0 + x.1) (hn : now ≤ t)
    (q1 : ∀ {γ : Type}, loopO (untilB (γ := γ) t) (0, mkS s0 c0 k0 now0 log0) = some (.inl (mkS s c k now log))) (hkd : Int.tmod x.2.1 2 = 1) (hcd : codeE x = cd)
    (hst : server_Step ((s, (0, c)), (4, (cd, 0))) = some ((s', (0, cd)), O)) (htk : ∀ {δ : Type}, loopO (takeB (δ := δ) O) (0, mkS s' cd k t log) = some (.inl (mkS s' cd k' t log')))
    (hmay : server_May (s', (0, cd)) = some true) (ho : over < 0) (hlen : log.length < log'.length) (hy : log'.getD log.length (0, 0, 0, 0, 0) = (t, 1, cd, 0, 0)) (hend : s' ≠ 7) :
    eventsB a1 ((i : Int), (over, (last, mkS s0 c0 k0 now0 log0))) = some (.inl (((i + 1 : Nat) : Int), ((if cd ≥ 200 then t + 32000 else over), (cd, mkS s' cd k' t log')))) := by
  skip
  obtain ⟨x', hx', hxb⟩ := get_at (0, 0, 0) hi
  rw [hx] at hx'; subst hx'
  have hmx : maxA now t = t := by unfold maxA; omega
  have hn' : ((i : Int) + 1) = ((i + 1 : Nat) : Int) := rfl
  have hle : log.length ≤ log'.length := by omega
  have hmin := minA_len hle
  have hcd' : IntKind.wrap .i64 (100 + IntKind.wrap .i64 (Int.tmod (IntKind.wrap .u64 x.2.2) 600)) = cd := hcd
  have hg : List.getD (1 :: (4 :: ([] : List Int))) (Int.toNat 1) 0 = 4 := rfl
  have hcr := codeE_in x
  rw [hcd] at hcr
  have q1 := q1 (γ := NT ⊕ ((Int × (Int × (Int × NT))) ⊕ (NT ⊕ Bool)))
  have hyb : ∀ {β : Type} (f : EnT → Option β), bindO log'[Int.toNat (minA (log.length : Int) (log'.length : Int)) + 0]? f = f (t, 1, cd, 0, 0) := fun f => by
    rw [hmin, Nat.add_zero, ← hy]; exact get_bz _ f (by omega)
  have hto : True := trivial
  unfold eventsB mkS
  unfold mkS at q1
  simp only [mkS] at htk
  have e0 : IntKind.wrap .i64 x.1 = x.1 := wrap_i64' (by omega)
  have e1 : IntKind.wrap .i64 (now0 + x.1) = t := by rw [wrap_i64' (by omega), ht]
  simp (disch := (first | omega | (simp only [LNl]; omega))) only [↓SDl, SDr, if_pos, if_neg, ↓hxb, e0, e1]
  refine joinO_eq (a := mkS s c k t log) (joinO_eq (a := mkS s c k now log) q1 ?_) ?_
  · simp only [mkS, hmx]
  · simp only [mkS]
    by_cases h2 : cd ≥ 200
    · have e2 : IntKind.wrap .i64 (t + 32000) = t + 32000 := wrap_i64' (by omega)
      unfold evK
      simp (disch := (first | omega | (simp only [LNl]; omega))) only [↓SDl, SDr, if_pos, if_neg, ↓hxb, hkd, hcd', ↓hg, hst, htk, ↓hyb, hmay, wrap_i64', hn', decide_true, decide_false, bne_self_eq_false, ne_eq, not_true_eq_false, not_false_eq_true, hend, hto, and_self, Bool.and_self, Bool.not_true, eq_self, e2, h2]
      unfold evB2
      simp (disch := (first | omega | (simp only [LNl]; omega))) only [↓SDl, SDr, if_pos, if_neg, ↓hxb, hkd, hcd', ↓hg, hst, htk, ↓hyb, hmay, wrap_i64', hn', decide_true, decide_false, bne_self_eq_false, ne_eq, not_true_eq_false, not_false_eq_true, hend, hto, and_self, Bool.and_self, Bool.not_true, eq_self, e2, h2]
      unfold evB3
      simp (disch := (first | omega | (simp only [LNl]; omega))) only [↓SDl, SDr, if_pos, if_neg, ↓hxb, hkd, hcd', ↓hg, hst, htk, ↓hyb, hmay, wrap_i64', hn', decide_true, decide_false, bne_self_eq_false, ne_eq, not_true_eq_false, not_false_eq_true, hend, hto, and_self, Bool.and_self, Bool.not_true, eq_self, e2, h2]
      unfold evB4
      simp (disch := (first | omega | (simp only [LNl]; omega))) only [↓SDl, SDr, if_pos, if_neg, ↓hxb, hkd, hcd', ↓hg, hst, htk, ↓hyb, hmay, wrap_i64', hn', decide_true, decide_false, bne_self_eq_false, ne_eq, not_true_eq_false, not_false_eq_true, hend, hto, and_self, Bool.and_self, Bool.not_true, eq_self, e2, h2]
    · skip
      unfold evK
      simp (disch := (first | omega | (simp only [LNl]; omega))) only [↓SDl, SDr, if_pos, if_neg, ↓hxb, hkd, hcd', ↓hg, hst, htk, ↓hyb, hmay, wrap_i64', hn', decide_true, decide_false, bne_self_eq_false, ne_eq, not_true_eq_false, not_false_eq_true, hend, hto, and_self, Bool.and_self, Bool.not_true, eq_self, h2]
      unfold evB2
      simp (disch := (first | omega | (simp only [LNl]; omega))) only [↓SDl, SDr, if_pos, if_neg, ↓hxb, hkd, hcd', ↓hg, hst, htk, ↓hyb, hmay, wrap_i64', hn', decide_true, decide_false, bne_self_eq_false, ne_eq, not_true_eq_false, not_false_eq_true, hend, hto, and_self, Bool.and_self, Bool.not_true, eq_self, h2]
      unfold evB3
      simp (disch := (first | omega | (simp only [LNl]; omega))) only [↓SDl, SDr, if_pos, if_neg, ↓hxb, hkd, hcd', ↓hg, hst, htk, ↓hyb, hmay, wrap_i64', hn', decide_true, decide_false, bne_self_eq_false, ne_eq, not_true_eq_false, not_false_eq_true, hend, hto, and_self, Bool.and_self, Bool.not_true, eq_self, h2]
      unfold evB4
      simp (disch := (first | omega | (simp only [LNl]; omega))) only [↓SDl, SDr, if_pos, if_neg, ↓hxb, hkd, hcd', ↓hg, hst, htk, ↓hyb, hmay, wrap_i64', hn', decide_true, decide_false, bne_self_eq_false, ne_eq, not_true_eq_false, not_false_eq_true, hend, hto, and_self, Bool.and_self, Bool.not_true, eq_self, h2]
theorem ev_B (hi : i < a1.length) (hi2 : i < 40) (hx : a1.getD i (0, 0, 0) = x) (hw : 0 ≤ x.1 ∧ x.1 ≤ 65535) (hnow : 0 ≤ now0 ∧ now0 ≤ 2900000) (ht : t = now0 + x.1) (hn : now ≤ t)
    (q1 : ∀ {γ : Type}, loopO (untilB (γ := γ) t) (0, mkS s0 c0 k0 now0 log0) = some (.inl (mkS s c k now log))) (hkd : Int.tmod x.2.1 2 = 1) (hcd : codeE x = cd)
    (hst : server_Step ((s, (0, c)), (4, (cd, 0))) = some ((s', (0, last)), O)) (htk : ∀ {δ : Type}, loopO (takeB (δ := δ) O) (0, mkS s' last k t log) = some (.inl (mkS s' last k' t log')))
    (hmay : server_May (s', (0, last)) = some true) (ho : 0 ≤ over) (hlen : log'.length = log.length) (hend : s' = 7 ↔ over ≤ t) :
    eventsB a1 ((i : Int), (over, (last, mkS s0 c0 k0 now0 log0))) = some (.inl (((i + 1 : Nat) : Int), (over, (last, mkS s' last k' t log')))) := by
  skip
  obtain ⟨x', hx', hxb⟩ := get_at (0, 0, 0) hi
  rw [hx] at hx'; subst hx'
  have hmx : maxA now t = t := by unfold maxA; omega
  have hn' : ((i : Int) + 1) = ((i + 1 : Nat) : Int) := rfl
  have hle : log.length ≤ log'.length := by omega
  have hmin := minA_len hle
  have hcd' : IntKind.wrap .i64 (100 + IntKind.wrap .i64 (Int.tmod (IntKind.wrap .u64 x.2.2) 600)) = cd := hcd
  have hg : List.getD (1 :: (4 :: ([] : List Int))) (Int.toNat 1) 0 = 4 := rfl
  have hcr := codeE_in x
  rw [hcd] at hcr
  have q1 := q1 (γ := NT ⊕ ((Int × (Int × (Int × NT))) ⊕ (NT ⊕ Bool)))
  have hyb : True := trivial
  have hto : True := trivial
  unfold eventsB mkS
  unfold mkS at q1
  simp only [mkS] at htk
  have e0 : IntKind.wrap .i64 x.1 = x.1 := wrap_i64' (by omega)
  have e1 : IntKind.wrap .i64 (now0 + x.1) = t := by rw [wrap_i64' (by omega), ht]
  simp (disch := (first | omega | (simp only [LNl]; omega))) only [↓SDl, SDr, if_pos, if_neg, ↓hxb, e0, e1]
  refine joinO_eq (a := mkS s c k t log) (joinO_eq (a := mkS s c k now log) q1 ?_) ?_
  · simp only [mkS, hmx]
  · simp only [mkS]
    unfold evK
    simp (disch := (first | omega | (simp only [LNl]; omega))) only [↓SDl, SDr, if_pos, if_neg, ↓hxb, hkd, hcd', ↓hg, hst, htk, hmay, wrap_i64', hn', decide_true, decide_false, bne_self_eq_false, ne_eq, not_true_eq_false, not_false_eq_true, hend, hto, and_self, Bool.and_self, Bool.not_true, eq_self]
    unfold evA2
    simp (disch := (first | omega | (simp only [LNl]; omega))) only [↓SDl, SDr, if_pos, if_neg, ↓hxb, hkd, hcd', ↓hg, hst, htk, hmay, wrap_i64', hn', decide_true, decide_false, bne_self_eq_false, ne_eq, not_true_eq_false, not_false_eq_true, hend, hto, and_self, Bool.and_self, Bool.not_true, eq_self]
    unfold evA3
    simp (disch := (first | omega | (simp only [LNl]; omega))) only [↓SDl, SDr, if_pos, if_neg, ↓hxb, hkd, hcd', ↓hg, hst, htk, hmay, wrap_i64', hn', decide_true, decide_false, bne_self_eq_false, ne_eq, not_true_eq_false, not_false_eq_true, hend, hto, and_self, Bool.and_self, Bool.not_true, eq_self]
    unfold evA4
    simp (disch := (first | omega | (simp only [LNl]; omega))) only [↓SDl, SDr, if_pos, if_neg, ↓hxb, hkd, hcd', ↓hg, hst, htk, hmay, wrap_i64', hn', decide_true, decide_false, bne_self_eq_false, ne_eq, not_true_eq_false, not_false_eq_true, hend, hto, and_self, Bool.and_self, Bool.not_true, eq_self]
theorem ev_C (hi : i < a1.length) (hi2 : i < 40) (hx : a1.getD i (0, 0, 0) = x) (hw : 0 ≤ x.1 ∧ x.1 ≤ 65535) (hnow : 0 ≤ now0 ∧ now0 ≤ 2900000) (ht : t = now0 + x.1) (hn : now ≤ t)
    (q1 : ∀ {γ : Type}, loopO (untilB (γ := γ) t) (0, mkS s0 c0 k0 now0 log0) = some (.inl (mkS s c k now log))) (hkd : Int.tmod x.2.1 2 = 0) (hcd : codeE x = cd)
    (hst : server_Step ((s, (0, c)), (1, (cd, 0))) = some ((s', (0, last)), O)) (htk : ∀ {δ : Type}, loopO (takeB (δ := δ) O) (0, mkS s' last k t log) = some (.inl (mkS s' last k' t log')))
    (hmay : server_May (s', (0, last)) = some true) (ho : over < 0) (hla : last = 0) (hlen : log'.length = log.length) (hend : s' ≠ 7) :
    eventsB a1 ((i : Int), (over, (last, mkS s0 c0 k0 now0 log0))) = some (.inl (((i + 1 : Nat) : Int), (over, (last, mkS s' last k' t log')))) := by
  subst hla
  obtain ⟨x', hx', hxb⟩ := get_at (0, 0, 0) hi
  rw [hx] at hx'; subst hx'
  have hmx : maxA now t = t := by unfold maxA; omega
  have hn' : ((i : Int) + 1) = ((i + 1 : Nat) : Int) := rfl
  have hle : log.length ≤ log'.length := by omega
  have hmin := minA_len hle
  have hcd' : IntKind.wrap .i64 (100 + IntKind.wrap .i64 (Int.tmod (IntKind.wrap .u64 x.2.2) 600)) = cd := hcd
  have hg : List.getD (1 :: (4 :: ([] : List Int))) (Int.toNat 0) 0 = 1 := rfl
  have hcr := codeE_in x
  rw [hcd] at hcr
  have q1 := q1 (γ := NT ⊕ ((Int × (Int × (Int × NT))) ⊕ (NT ⊕ Bool)))
  have hyb : True := trivial
  have hto : True := trivial
  unfold eventsB mkS
  unfold mkS at q1
  simp only [mkS] at htk
  have e0 : IntKind.wrap .i64 x.1 = x.1 := wrap_i64' (by omega)
  have e1 : IntKind.wrap .i64 (now0 + x.1) = t := by rw [wrap_i64' (by omega), ht]
  simp (disch := (first | omega | (simp only [LNl]; omega))) only [↓SDl, SDr, if_pos, if_neg, ↓hxb, e0, e1]
  refine joinO_eq (a := mkS s c k t log) (joinO_eq (a := mkS s c k now log) q1 ?_) ?_
  · simp only [mkS, hmx]
  · simp only [mkS]
    unfold evK
    simp (disch := (first | omega | (simp only [LNl]; omega))) only [↓SDl, SDr, if_pos, if_neg, ↓hxb, hkd, hcd', ↓hg, hst, htk, hmay, wrap_i64', hn', decide_true, decide_false, bne_self_eq_false, ne_eq, not_true_eq_false, not_false_eq_true, hend, hto, and_self, Bool.and_self, Bool.not_true, eq_self]
    unfold evB2
    simp (disch := (first | omega | (simp only [LNl]; omega))) only [↓SDl, SDr, if_pos, if_neg, ↓hxb, hkd, hcd', ↓hg, hst, htk, hmay, wrap_i64', hn', decide_true, decide_false, bne_self_eq_false, ne_eq, not_true_eq_false, not_false_eq_true, hend, hto, and_self, Bool.and_self, Bool.not_true, eq_self]
    unfold evB3
    simp (disch := (first | omega | (simp only [LNl]; omega))) only [↓SDl, SDr, if_pos, if_neg, ↓hxb, hkd, hcd', ↓hg, hst, htk, hmay, wrap_i64', hn', decide_true, decide_false, bne_self_eq_false, ne_eq, not_true_eq_false, not_false_eq_true, hend, hto, and_self, Bool.and_self, Bool.not_true, eq_self]
    unfold evB4
    simp (disch := (first | omega | (simp only [LNl]; omega))) only [↓SDl, SDr, if_pos, if_neg, ↓hxb, hkd, hcd', ↓hg, hst, htk, hmay, wrap_i64', hn', decide_true, decide_false, bne_self_eq_false, ne_eq, not_true_eq_false, not_false_eq_true, hend, hto, and_self, Bool.and_self, Bool.not_true, eq_self]
theorem ev_D (hi : i < a1.length) (hi2 : i < 40) (hx : a1.getD i (0, 0, 0) = x) (hw : 0 ≤ x.1 ∧ x.1 ≤ 65535) (hnow : 0 ≤ now0 ∧ now0 ≤ 2900000) (ht : t = now0 + x.1) (hn : now ≤ t)
    (q1 : ∀ {γ : Type}, loopO (untilB (γ := γ) t) (0, mkS s0 c0 k0 now0 log0) = some (.inl (mkS s c k now log))) (hkd : Int.tmod x.2.1 2 = 0) (hcd : codeE x = cd)
    (hst : server_Step ((s, (0, c)), (1, (cd, 0))) = some ((s', (0, last)), O)) (htk : ∀ {δ : Type}, loopO (takeB (δ := δ) O) (0, mkS s' last k t log) = some (.inl (mkS s' last k' t log')))
    (hmay : server_May (s', (0, last)) = some true) (ho : over < 0) (hla : last ≠ 0) (hlen : log'.length = log.length + 1) (hy : log'.getD log.length (0, 0, 0, 0, 0) = (t, 1, last, 0, 0)) (hend : s' ≠ 7) :
    eventsB a1 ((i : Int), (over, (last, mkS s0 c0 k0 now0 log0))) = some (.inl (((i + 1 : Nat) : Int), (over, (last, mkS s' last k' t log')))) := by
  skip
  obtain ⟨x', hx', hxb⟩ := get_at (0, 0, 0) hi
  rw [hx] at hx'; subst hx'
  have hmx : maxA now t = t := by unfold maxA; omega
  have hn' : ((i : Int) + 1) = ((i + 1 : Nat) : Int) := rfl
  have hle : log.length ≤ log'.length := by omega
  have hmin := minA_len hle
  have hcd' : IntKind.wrap .i64 (100 + IntKind.wrap .i64 (Int.tmod (IntKind.wrap .u64 x.2.2) 600)) = cd := hcd
  have hg : List.getD (1 :: (4 :: ([] : List Int))) (Int.toNat 0) 0 = 1 := rfl
  have hcr := codeE_in x
  rw [hcd] at hcr
  have q1 := q1 (γ := NT ⊕ ((Int × (Int × (Int × NT))) ⊕ (NT ⊕ Bool)))
  have hyb : ∀ {β : Type} (f : EnT → Option β), bindO log'[Int.toNat (minA (log.length : Int) (log'.length : Int)) + 0]? f = f (t, 1, last, 0, 0) := fun f => by
    rw [hmin, Nat.add_zero, ← hy]; exact get_bz _ f (by omega)
  have hto : True := trivial
  unfold eventsB mkS
  unfold mkS at q1
  simp only [mkS] at htk
  have e0 : IntKind.wrap .i64 x.1 = x.1 := wrap_i64' (by omega)
  have e1 : IntKind.wrap .i64 (now0 + x.1) = t := by rw [wrap_i64' (by omega), ht]
  simp (disch := (first | omega | (simp only [LNl]; omega))) only [↓SDl, SDr, if_pos, if_neg, ↓hxb, e0, e1]
  refine joinO_eq (a := mkS s c k t log) (joinO_eq (a := mkS s c k now log) q1 ?_) ?_
  · simp only [mkS, hmx]
  · simp only [mkS]
    unfold evK
    simp (disch := (first | omega | (simp only [LNl]; omega))) only [↓SDl, SDr, if_pos, if_neg, ↓hxb, hkd, hcd', ↓hg, hst, htk, ↓hyb, hla, hmay, wrap_i64', hn', decide_true, decide_false, bne_self_eq_false, ne_eq, not_true_eq_false, not_false_eq_true, hend, hto, and_self, Bool.and_self, Bool.not_true, eq_self]
    unfold evB2
    simp (disch := (first | omega | (simp only [LNl]; omega))) only [↓SDl, SDr, if_pos, if_neg, ↓hxb, hkd, hcd', ↓hg, hst, htk, ↓hyb, hla, hmay, wrap_i64', hn', decide_true, decide_false, bne_self_eq_false, ne_eq, not_true_eq_false, not_false_eq_true, hend, hto, and_self, Bool.and_self, Bool.not_true, eq_self]
    unfold evB3
    simp (disch := (first | omega | (simp only [LNl]; omega))) only [↓SDl, SDr, if_pos, if_neg, ↓hxb, hkd, hcd', ↓hg, hst, htk, ↓hyb, hla, hmay, wrap_i64', hn', decide_true, decide_false, bne_self_eq_false, ne_eq, not_true_eq_false, not_false_eq_true, hend, hto, and_self, Bool.and_self, Bool.not_true, eq_self]
    unfold evB4
    simp (disch := (first | omega | (simp only [LNl]; omega))) only [↓SDl, SDr, if_pos, if_neg, ↓hxb, hkd, hcd', ↓hg, hst, htk, ↓hyb, hla, hmay, wrap_i64', hn', decide_true, decide_false, bne_self_eq_false, ne_eq, not_true_eq_false, not_false_eq_true, hend, hto, and_self, Bool.and_self, Bool.not_true, eq_self]
theorem ev_E (hi : i < a1.length) (hi2 : i < 40) (hx : a1.getD i (0, 0, 0) = x) (hw : 0 ≤ x.1 ∧ x.1 ≤ 65535) (hnow : 0 ≤ now0 ∧ now0 ≤ 2900000) (ht : t = now0 + x.1) (hn : now ≤ t)
    (q1 : ∀ {γ : Type}, loopO (untilB (γ := γ) t) (0, mkS s0 c0 k0 now0 log0) = some (.inl (mkS s c k now log))) (hkd : Int.tmod x.2.1 2 = 0) (hcd : codeE x = cd)
    (hst : server_Step ((s, (0, c)), (1, (cd, 0))) = some ((s', (0, last)), O)) (htk : ∀ {δ : Type}, loopO (takeB (δ := δ) O) (0, mkS s' last k t log) = some (.inl (mkS s' last k' t log')))
    (hmay : server_May (s', (0, last)) = some true) (ho : 0 ≤ over) (hot : t < over) (hla : last ≠ 0) (hlen : log'.length = log.length + 1) (hy : log'.getD log.length (0, 0, 0, 0, 0) = (t, 1, last, 0, 0)) (hend : s' ≠ 7) :
    eventsB a1 ((i : Int), (over, (last, mkS s0 c0 k0 now0 log0))) = some (.inl (((i + 1 : Nat) : Int), (over, (last, mkS s' last k' t log')))) := by
  skip
  obtain ⟨x', hx', hxb⟩ := get_at (0, 0, 0) hi
  rw [hx] at hx'; subst hx'
  have hmx : maxA now t = t := by unfold maxA; omega
  have hn' : ((i : Int) + 1) = ((i + 1 : Nat) : Int) := rfl
  have hle : log.length ≤ log'.length := by omega
  have hmin := minA_len hle
  have hcd' : IntKind.wrap .i64 (100 + IntKind.wrap .i64 (Int.tmod (IntKind.wrap .u64 x.2.2) 600)) = cd := hcd
  have hg : List.getD (1 :: (4 :: ([] : List Int))) (Int.toNat 0) 0 = 1 := rfl
  have hcr := codeE_in x
  rw [hcd] at hcr
  have q1 := q1 (γ := NT ⊕ ((Int × (Int × (Int × NT))) ⊕ (NT ⊕ Bool)))
  have hyb : ∀ {β : Type} (f : EnT → Option β), bindO log'[Int.toNat (minA (log.length : Int) (log'.length : Int)) + 0]? f = f (t, 1, last, 0, 0) := fun f => by
    rw [hmin, Nat.add_zero, ← hy]; exact get_bz _ f (by omega)
  have hto : decide (t ≥ over) = false := decide_eq_false (by omega)
  unfold eventsB mkS
  unfold mkS at q1
  simp only [mkS] at htk
  have e0 : IntKind.wrap .i64 x.1 = x.1 := wrap_i64' (by omega)
  have e1 : IntKind.wrap .i64 (now0 + x.1) = t := by rw [wrap_i64' (by omega), ht]
  simp (disch := (first | omega | (simp only [LNl]; omega))) only [↓SDl, SDr, if_pos, if_neg, ↓hxb, e0, e1]
  refine joinO_eq (a := mkS s c k t log) (joinO_eq (a := mkS s c k now log) q1 ?_) ?_
  · simp only [mkS, hmx]
  · simp only [mkS]
    unfold evK
    simp (disch := (first | omega | (simp only [LNl]; omega))) only [↓SDl, SDr, if_pos, if_neg, ↓hxb, hkd, hcd', ↓hg, hst, htk, ↓hyb, hla, hmay, wrap_i64', hn', decide_true, decide_false, bne_self_eq_false, ne_eq, not_true_eq_false, not_false_eq_true, hend, hto, and_self, Bool.and_self, Bool.not_true, eq_self]
    unfold evA2
    simp (disch := (first | omega | (simp only [LNl]; omega))) only [↓SDl, SDr, if_pos, if_neg, ↓hxb, hkd, hcd', ↓hg, hst, htk, ↓hyb, hla, hmay, wrap_i64', hn', decide_true, decide_false, bne_self_eq_false, ne_eq, not_true_eq_false, not_false_eq_true, hend, hto, and_self, Bool.and_self, Bool.not_true, eq_self]
    unfold evA3
    simp (disch := (first | omega | (simp only [LNl]; omega))) only [↓SDl, SDr, if_pos, if_neg, ↓hxb, hkd, hcd', ↓hg, hst, htk, ↓hyb, hla, hmay, wrap_i64', hn', decide_true, decide_false, bne_self_eq_false, ne_eq, not_true_eq_false, not_false_eq_true, hend, hto, and_self, Bool.and_self, Bool.not_true, eq_self]
    unfold evA4
    simp (disch := (first | omega | (simp only [LNl]; omega))) only [↓SDl, SDr, if_pos, if_neg, ↓hxb, hkd, hcd', ↓hg, hst, htk, ↓hyb, hla, hmay, wrap_i64', hn', decide_true, decide_false, bne_self_eq_false, ne_eq, not_true_eq_false, not_false_eq_true, hend, hto, and_self, Bool.and_self, Bool.not_true, eq_self]
theorem ev_F (hi : i < a1.length) (hi2 : i < 40) (hx : a1.getD i (0, 0, 0) = x) (hw : 0 ≤ x.1 ∧ x.1 ≤ 65535) (hnow : 0 ≤ now0 ∧ now0 ≤ 2900000) (ht : t = now0 + x.1) (hn : now ≤ t)
    (q1 : ∀ {γ : Type}, loopO (untilB (γ := γ) t) (0, mkS s0 c0 k0 now0 log0) = some (.inl (mkS s c k now log))) (hkd : Int.tmod x.2.1 2 = 0) (hcd : codeE x = cd)
    (hst : server_Step ((s, (0, c)), (1, (cd, 0))) = some ((s', (0, last)), O)) (htk : ∀ {δ : Type}, loopO (takeB (δ := δ) O) (0, mkS s' last k t log) = some (.inl (mkS s' last k' t log')))
    (hmay : server_May (s', (0, last)) = some true) (ho : 0 ≤ over) (hot : over ≤ t) (hla : last ≠ 0) (hlen : log'.length = log.length) (hend : s' = 7) :
    eventsB a1 ((i : Int), (over, (last, mkS s0 c0 k0 now0 log0))) = some (.inl (((i + 1 : Nat) : Int), (over, (last, mkS s' last k' t log')))) := by
  subst hend; have hend : True := trivial
  obtain ⟨x', hx', hxb⟩ := get_at (0, 0, 0) hi
  rw [hx] at hx'; subst hx'
  have hmx : maxA now t = t := by unfold maxA; omega
  have hn' : ((i : Int) + 1) = ((i + 1 : Nat) : Int) := rfl
  have hle : log.length ≤ log'.length := by omega
  have hmin := minA_len hle
  have hcd' : IntKind.wrap .i64 (100 + IntKind.wrap .i64 (Int.tmod (IntKind.wrap .u64 x.2.2) 600)) = cd := hcd
  have hg : List.getD (1 :: (4 :: ([] : List Int))) (Int.toNat 0) 0 = 1 := rfl
  have hcr := codeE_in x
  rw [hcd] at hcr
  have q1 := q1 (γ := NT ⊕ ((Int × (Int × (Int × NT))) ⊕ (NT ⊕ Bool)))
  have hyb : True := trivial
  have hto : decide (t ≥ over) = true := decide_eq_true (by omega)
  unfold eventsB mkS
  unfold mkS at q1
  simp only [mkS] at htk
  have e0 : IntKind.wrap .i64 x.1 = x.1 := wrap_i64' (by omega)
  have e1 : IntKind.wrap .i64 (now0 + x.1) = t := by rw [wrap_i64' (by omega), ht]
  simp (disch := (first | omega | (simp only [LNl]; omega))) only [↓SDl, SDr, if_pos, if_neg, ↓hxb, e0, e1]
  refine joinO_eq (a := mkS s c k t log) (joinO_eq (a := mkS s c k now log) q1 ?_) ?_
  · simp only [mkS, hmx]
  · simp only [mkS]
    unfold evK
    simp (disch := (first | omega | (simp only [LNl]; omega))) only [↓SDl, SDr, if_pos, if_neg, ↓hxb, hkd, hcd', ↓hg, hst, htk, hla, hmay, wrap_i64', hn', decide_true, decide_false, bne_self_eq_false, ne_eq, not_true_eq_false, not_false_eq_true, hend, hto, and_self, Bool.and_self, Bool.not_true, eq_self]
    unfold evA2
    simp (disch := (first | omega | (simp only [LNl]; omega))) only [↓SDl, SDr, if_pos, if_neg, ↓hxb, hkd, hcd', ↓hg, hst, htk, hla, hmay, wrap_i64', hn', decide_true, decide_false, bne_self_eq_false, ne_eq, not_true_eq_false, not_false_eq_true, hend, hto, and_self, Bool.and_self, Bool.not_true, eq_self]
    unfold evA3
    simp (disch := (first | omega | (simp only [LNl]; omega))) only [↓SDl, SDr, if_pos, if_neg, ↓hxb, hkd, hcd', ↓hg, hst, htk, hla, hmay, wrap_i64', hn', decide_true, decide_false, bne_self_eq_false, ne_eq, not_true_eq_false, not_false_eq_true, hend, hto, and_self, Bool.and_self, Bool.not_true, eq_self]
    unfold evA4
    simp (disch := (first | omega | (simp only [LNl]; omega))) only [↓SDl, SDr, if_pos, if_neg, ↓hxb, hkd, hcd', ↓hg, hst, htk, hla, hmay, wrap_i64', hn', decide_true, decide_false, bne_self_eq_false, ne_eq, not_true_eq_false, not_false_eq_true, hend, hto, and_self, Bool.and_self, Bool.not_true, eq_self]
end
end Go.Proofs.YtpbanfkjeiihbaaDoor
