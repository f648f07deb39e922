/- Chapter 37, plain: costs. -/
import Derived.Test.YtbckoncbimljeaaJ4
set_option linter.unusedVariables false
set_option linter.unusedSimpArgs false
set_option maxRecDepth 100000
namespace Go.Proofs.Ytbckoncbimljeaa
open Go.RowKit

noncomputable def csB (x : Ra) (a2 a4 n : Int) : (Int × Int) → Option ((Int × Int) ⊕ (Int ⊕ (Int × Int))) :=
(fun (v15, v16) =>
          bif (decide (v15 < n)) then
           bindO (dialtoneref37_Begin ((x.1, (x.2.1, (x.2.2.1, (x.2.2.2.1, x.2.2.2.2)))), (a2, v15))) fun x17 =>
           bindO (dialtoneref37_PriceAt ((x.1, (x.2.1, (x.2.2.1, (x.2.2.2.1, x.2.2.2.2)))), (Go.IntKind.wrap .i64 (a4 + (Go.IntKind.wrap .i64 ((1000 : Int) * x17)))))) fun (x21, x22) =>
           bif (decide (v15 = (0 : Int))) then
            bif (decide (((0 : Int) ≤ x21) ∧ (x21 < (((List.length x.2.2.2.2) : Nat) : Int)))) then 
             bindO x.2.2.2.2[(Int.toNat x21)]? fun x23 =>
             some (Sum.inl ((Go.IntKind.wrap .i64 (v15 + (1 : Int))), (Go.IntKind.wrap .i64 (v16 + x23.2.1))))
            else none
           else
            bif (decide (((0 : Int) ≤ x21) ∧ (x21 < (((List.length x.2.2.2.2) : Nat) : Int)))) then 
             bindO x.2.2.2.2[(Int.toNat x21)]? fun x26 =>
             some (Sum.inl ((Go.IntKind.wrap .i64 (v15 + (1 : Int))), (Go.IntKind.wrap .i64 (v16 + x26.2.2))))
            else none
          else
           outO (some (Sum.inl v16)))
theorem costR_eq (a1 : List Ra) (a2 : Int) (a3 : List UInt8) (a4 a5 : Int) : dialtoneref37_Cost ((a1, a2), (a3, (a4, a5))) =

  bindO (dialtoneref37_Valid (a1, a2)) fun x6 =>
  bif (!x6) then
   some ((0 : Int), (2 : Int))
  else
   bindO (dialtoneref37_Span (a4, a5)) fun x7 =>
   bif (!x7) then
    some ((0 : Int), (3 : Int))
   else
    bindO (dialtoneref37_Seconds (a4, a5)) fun x8 =>
    bif (decide (x8 > (1000000 : Int))) then
     some ((0 : Int), (4 : Int))
    else
     bindO (dialtoneref37_Find ((a1, a2), a3)) fun (x10, x11) =>
     bif (!x11) then
      some ((0 : Int), (8 : Int))
     else
      bif (decide (((0 : Int) ≤ x10) ∧ (x10 < (((List.length a1) : Nat) : Int)))) then 
       bindO a1[(Int.toNat x10)]? fun x12 =>
       bindO (dialtoneref37_Seconds (a4, a5)) fun x13 =>
       bindO (dialtoneref37_Pieces ((x12.1, (x12.2.1, (x12.2.2.1, (x12.2.2.2.1, x12.2.2.2.2)))), (a2, x13))) fun x14 =>
       bif (decide (x14 = (0 : Int))) then
        some ((0 : Int), (0 : Int))
       else
        joinO (loopO (csB x12 a2 a4 x14) ((0 : Int), x12.2.1)) fun v29 =>
        some (v29, (0 : Int))
      else none := rfl
/-- The price of a moment, as the program finds it. -/
noncomputable def px (l : List Pr1) (a : Int) : Int := (rating_priceAt (l, a)).getD 0
theorem px_j {l : List Pr1} {a : Int} (h : RVl l) (ha : 0 ≤ a ∧ a ≤ 4000000000000000000) : rating_priceAt (l, a) = some (px l a) ∧ PX l a (px l a) := by
  obtain ⟨x, e, hx⟩ := priceAt_j (l := l) (a := a) (by have := h.1; omega) h.2.1 ha
  have : px l a = x := by unfold px; rw [e]; rfl
  rw [this]
  exact ⟨e, hx⟩
/-- What a piece costs. -/
noncomputable def prc (l : List Pr1) (a : Int) (k : Nat) : Int := if k = 0 then (l.getD (px l a).toNat p0).2.1 else (l.getD (px l a).toNat p0).2.2
theorem prc_bd {l : List Pr1} {a : Int} (h : RVl l) (ha : 0 ≤ a ∧ a ≤ 4000000000000000000) (k : Nat) : 0 ≤ prc l a k ∧ prc l a k ≤ 1000000000 := by
  obtain ⟨i, hi, e⟩ := (px_j h ha).2.pos h
  have hp := h.2.1 i hi
  unfold prc
  rw [e, Int.toNat_natCast]
  split
  · exact hp.2.1
  · exact hp.2.2
/-- What the first pieces cost, with Connect. -/
noncomputable def CU (l : List Pr1) (rc : Int) (mo : Nat → Int) : Nat → Int
  | 0 => rc
  | k + 1 => CU l rc mo k + prc l (mo k) k
theorem cs_bd {l : List Pr1} {rc : Int} {mo : Nat → Int} (h : RVl l) (hr : MnOk rc) : ∀ {n : Nat}, (∀ k, k < n → 0 ≤ mo k ∧ mo k ≤ 4000000000000000000) → 0 ≤ CU l rc mo n ∧ CU l rc mo n ≤ 1000000000 * ((n : Int) + 1)
  | 0, _ => by unfold CU; omega
  | n + 1, hm => by
    have h1 := cs_bd h hr (n := n) (fun k hk => hm k (by omega))
    have h2 := prc_bd h (hm n (by omega)) n
    unfold CU
    omega
theorem sum_j {l : List Pr1} {rc : Int} {mo : Nat → Int} (h : RVl l) (hr : MnOk rc) : ∀ {n : Nat}, n ≤ 1000000 → (∀ k, k < n → 0 ≤ mo k ∧ mo k ≤ 4000000000000000000) → sumN l rc mo n = some (CU l rc mo n)
  | 0, _, _ => rfl
  | n + 1, hn, hm => by
    have h0 := cs_bd h hr (n := n) (mo := mo) (fun k hk => hm k (by omega))
    have h2 := prc_bd h (hm n (by omega)) n
    obtain ⟨e, hx⟩ := px_j h (hm n (by omega))
    obtain ⟨i, hi, ei⟩ := hx.pos h
    unfold sumN CU
    rw [sum_j h hr (by omega) (fun k hk => hm k (by omega))]
    simp only [↓bindO_some, ↓bindO_none, ↓joinO_inl, ↓joinO_inr, ↓joinO_none, ↓outO_some, ↓outO_none, ↓cond_true, ↓cond_false, ↓cond_and, ↓cond_or, ↓cond_not, ↓cond_ite, ↓if_pos, ↓if_neg, ↓if_true, ↓if_false, List.take_length, Nat.le_refl, Bool.not_true, Bool.not_false, e]
    have hp : (if (n : Int) = 0 then (l.getD (px l (mo n)).toNat ((0, (0, 0)), (0, 0))).2.1 else (l.getD (px l (mo n)).toNat ((0, (0, 0)), (0, 0))).2.2) = prc l (mo n) n := by
      unfold prc
      by_cases k : n = 0
      · rw [if_pos k, if_pos (by omega)]
      · rw [if_neg k, if_neg (by omega)]
    rw [hp, if_pos (show 0 ≤ px l (mo n) ∧ px l (mo n) < (l.length : Int) by omega), wrap_i64' (by omega)]
/-- The moment at which a piece begins. -/
def MO (a f fi st : Int) (k : Nat) : Int := a + 1000 * BG f fi st k
theorem bg_succ (f fi st : Int) (k : Nat) : BG f fi st (k + 1) = BG f fi st k + if k = 0 then fi else st := by
  unfold BG
  rw [if_neg (by omega)]
  by_cases h : k = 0
  · subst h
    rw [if_pos rfl, if_pos rfl, show (((0 + 1 : Nat) : Int) - 1) = 0 from rfl, Int.zero_mul]; omega
  · rw [if_neg h, if_neg h, show (((k + 1 : Nat) : Int) - 1) = ((k : Int) - 1) + 1 from by omega, Int.add_mul, Int.one_mul]; omega
theorem beg_j {a f fi st : Int} (ha : 0 ≤ a ∧ a ≤ 281474976710656) (hf : 0 ≤ f ∧ f ≤ 3600) (hfi : 1 ≤ fi ∧ fi ≤ 3600) (hst : 1 ≤ st ∧ st ≤ 3600) : ∀ {k : Nat}, k ≤ 1000001 → begN (IntKind.wrap .i64 (a + IntKind.wrap .i64 (1000 * f))) fi st k = MO a f fi st k
  | 0, _ => by
    unfold begN MO BG
    rw [if_pos rfl, wrap_i64' (n := 1000 * f) (by omega), wrap_i64' (by omega)]
  | k + 1, hk => by
    have h0 := bg_bd (i := k) hf hfi hst (by omega)
    have h1 := bg_bd (i := k + 1) hf hfi hst hk
    have hs := bg_succ f fi st k
    unfold begN
    rw [beg_j ha hf hfi hst (by omega)]
    have hw : ∀ n : Int, -9223372036854775808 ≤ n ∧ n < 9223372036854775808 → wrap64 n = n := fun n h => by unfold wrap64; omega
    show wrap64 (MO a f fi st k + wrap64 (1000 * (if k = 0 then fi else st))) = _
    unfold MO
    rw [hs] at h1 ⊢
    rw [hw (1000 * (if k = 0 then fi else st)) (by omega), hw _ (by omega)]
    omega
/-- What a call costs. -/
noncomputable def CV (r : Ra) (f a s : Int) : Int := if PN f r.2.2.1 r.2.2.2.1 s = 0 then 0 else CU r.2.2.2.2 r.2.1 (MO a f r.2.2.1 r.2.2.2.1) (PN f r.2.2.1 r.2.2.2.1 s).toNat
theorem cs_congr {l : List Pr1} {rc : Int} {mo mo' : Nat → Int} : ∀ {n : Nat}, (∀ k, k < n → mo k = mo' k) → CU l rc mo n = CU l rc mo' n
  | 0, _ => rfl
  | n + 1, h => by unfold CU; rw [cs_congr (fun k hk => h k (by omega)), h n (by omega)]
theorem validP_t {l : List Ra} {f : Int} (hv : TV l f) : rating_Valid (l, f) = some true := by
  rcases validP_j l f with ⟨_, e⟩ | ⟨k, _⟩
  · exact e
  · exact (k hv).elim
theorem validP_f {l : List Ra} {f : Int} (hv : ¬ TV l f) : rating_Valid (l, f) = some false := by
  rcases validP_j l f with ⟨k, _⟩ | ⟨_, e⟩
  · exact (hv k).elim
  · exact e
theorem mo_bd {a f fi st : Int} (ha : 0 ≤ a ∧ a ≤ 281474976710656) (hf : 0 ≤ f ∧ f ≤ 3600) (hfi : 1 ≤ fi ∧ fi ≤ 3600) (hst : 1 ≤ st ∧ st ≤ 3600) {k : Nat} (hk : k ≤ 1000001) : 0 ≤ MO a f fi st k ∧ MO a f fi st k ≤ 300000000000000 := by
  have := bg_bd (i := k) hf hfi hst hk
  unfold MO
  omega
theorem costP_v {l : List Ra} {f a b : Int} {num : List UInt8} (hv : TV l f) (hs : Spn a b) (h1 : SE a b ≤ 1000000) {i : Nat} (hi : i < l.length) (hF : rating_Find ((l, f), num) = some ((i : Int), true)) : rating_Cost ((l, f), (num, (a, b))) = some (CV (l.getD i r0) f a (SE a b), 0) := by
  have hse := se_nn a b
  have hrv := (hv.2 i hi).1
  have hf := hv.1.2
  have hfi := hrv.1.2.2.1
  have hst := hrv.1.2.2.2
  have hp := piecesP_j hrv hf ⟨hse.1, h1⟩
  have hn := pn_nn (f := f) (fi := (l.getD i r0).2.2.1) (s := SE a b) hst.1
  have hle := pn_le (st := (l.getD i r0).2.2.2.1) hst.1 hf.1 hfi.1 hse.1
  have w1 : 0 ≤ a ∧ a ≤ 281474976710656 := ⟨hs.1, Int.le_trans hs.2.1 hs.2.2⟩
  have w2 : a ≤ b ∧ b ≤ 281474976710656 := hs.2
  unfold rating_Cost CV
  simp (disch := omega) only [↓bindO_some, ↓bindO_none, ↓joinO_inl, ↓joinO_inr, ↓joinO_none, ↓outO_some, ↓outO_none, ↓cond_true, ↓cond_false, ↓cond_and, ↓cond_or, ↓cond_not, ↓cond_ite, ↓if_pos, ↓if_neg, ↓if_true, ↓if_false, List.take_length, Nat.le_refl, Bool.not_true, Bool.not_false, validP_t hv, within_b, w1, w2, and_self, decide_true, secondsP_j, if_neg, hF, Int.toNat_natCast]
  have hp' : rating_Pieces (l.getD i ([], (0, (0, (0, [])))), (f, SE a b)) = some (PN f (l.getD i r0).2.2.1 (l.getD i r0).2.2.2.1 (SE a b)) := hp
  rw [hp']
  simp only [bindO_some]
  by_cases h0 : PN f (l.getD i r0).2.2.1 (l.getD i r0).2.2.2.1 (SE a b) = 0
  · simp only [if_pos h0]
  · simp only [if_neg h0]
    rw [if_pos (show (0 : Int) ≤ PN f (l.getD i r0).2.2.1 (l.getD i r0).2.2.2.1 (SE a b) ∧ PN f (l.getD i r0).2.2.1 (l.getD i r0).2.2.2.1 (SE a b) ≤ 4000000000000000000 by omega)]
    have hS : sumN (l.getD i r0).2.2.2.2 (l.getD i r0).2.1 (begN (IntKind.wrap .i64 (a + IntKind.wrap .i64 (1000 * f))) (l.getD i r0).2.2.1 (l.getD i r0).2.2.2.1) (PN f (l.getD i r0).2.2.1 (l.getD i r0).2.2.2.1 (SE a b)).toNat = some (CU (l.getD i r0).2.2.2.2 (l.getD i r0).2.1 (MO a f (l.getD i r0).2.2.1 (l.getD i r0).2.2.2.1) (PN f (l.getD i r0).2.2.1 (l.getD i r0).2.2.2.1 (SE a b)).toNat) := by
      rw [sum_j hrv.2.2 hrv.1.2.1 (by omega) (fun k hk => ?_), cs_congr (fun k hk => beg_j w1 hf hfi hst (by omega))]
      rw [beg_j w1 hf hfi hst (by omega)]
      have := mo_bd w1 hf hfi hst (k := k) (by omega)
      omega
    rw [hS]
    rfl
theorem priceR_b {β : Type} {r : Ra} {a : Int} (h : RV r) (ha : 0 ≤ a ∧ a ≤ 562949953421312) (k : (Int × Bool) → Option β) : bindO (dialtoneref37_PriceAt ((r.1, (r.2.1, (r.2.2.1, (r.2.2.2.1, r.2.2.2.2)))), a)) k = k (px r.2.2.2.2 a, true) := by
  obtain ⟨i, hi, hx, e⟩ := priceR_j h ha
  rw [e, (px_j h.2.2 (by omega)).2.uniq hx]; rfl
theorem costR_v {l : List Ra} {f a b : Int} {num : List UInt8} (hv : TV l f) (hs : Spn a b) (h1 : SE a b ≤ 1000000) {i : Nat} (hi : i < l.length) (hF : dialtoneref37_Find ((l, f), num) = some ((i : Int), true)) : dialtoneref37_Cost ((l, f), (num, (a, b))) = some (CV (l.getD i r0) f a (SE a b), 0) := by
  have hse := se_nn a b
  have hrv := (hv.2 i hi).1
  obtain ⟨x, hx, hxb⟩ := get_at r0 hi
  rw [hx] at hrv ⊢
  have hf := hv.1.2
  have hfi := hrv.1.2.2.1
  have hst := hrv.1.2.2.2
  have hp := piecesR_j hrv hf ⟨hse.1, h1⟩
  have hn := pn_nn (f := f) (fi := x.2.2.1) (s := SE a b) hst.1
  have hle := pn_le (st := x.2.2.2.1) hst.1 hf.1 hfi.1 hse.1
  have w1 : 0 ≤ a ∧ a ≤ 281474976710656 := ⟨hs.1, Int.le_trans hs.2.1 hs.2.2⟩
  rw [costR_eq, valid_same, validP_t hv]
  unfold CV
  simp (disch := omega) only [↓bindO_some, ↓bindO_none, ↓joinO_inl, ↓joinO_inr, ↓joinO_none, ↓outO_some, ↓outO_none, ↓cond_true, ↓cond_false, ↓cond_and, ↓cond_or, ↓cond_not, ↓cond_ite, ↓if_pos, ↓if_neg, ↓if_true, ↓if_false, List.take_length, Nat.le_refl, Bool.not_true, Bool.not_false, span_b, hs, decide_true, secondsR_j, if_neg, hF]
  simp only [↓hxb, hp, bindO_some]
  by_cases h0 : PN f x.2.2.1 x.2.2.2.1 (SE a b) = 0
  · simp only [if_pos h0]
  · simp only [if_neg h0]
    obtain ⟨n, hn'⟩ : ∃ n : Nat, PN f x.2.2.1 x.2.2.2.1 (SE a b) = (n : Int) := ⟨(PN f x.2.2.1 x.2.2.2.1 (SE a b)).toNat, by omega⟩
    rw [hn', Int.toNat_natCast]
    have e : loopO (csB x f a (n : Int)) ((0 : Int), x.2.1) = some (.inl (CU x.2.2.2.2 x.2.1 (MO a f x.2.2.1 x.2.2.2.1) n)) := by
      refine loopO_from (fun k => ((k : Int), CU x.2.2.2.2 x.2.1 (MO a f x.2.2.1 x.2.2.2.1) k)) n rfl (fun k hk => ?_) ?_
      · have hm : ∀ j, j ≤ k → 0 ≤ MO a f x.2.2.1 x.2.2.2.1 j ∧ MO a f x.2.2.1 x.2.2.2.1 j ≤ 300000000000000 := fun j hj => mo_bd w1 hf hfi hst (by omega)
        have hb := bg_bd (i := k) hf hfi hst (by omega)
        have hmk := hm k (Nat.le_refl _)
        have hcs := cs_bd hrv.2.2 hrv.1.2.1 (n := k) (mo := MO a f x.2.2.1 x.2.2.2.1) (fun j hj => by have := hm j (by omega); omega)
        have hpr := prc_bd hrv.2.2 (a := MO a f x.2.2.1 x.2.2.2.1 k) (by omega) k
        obtain ⟨j, hj, ej⟩ := (px_j hrv.2.2 (a := MO a f x.2.2.1 x.2.2.2.1 k) (by omega)).2.pos hrv.2.2
        have hn1 : ((k : Int) + 1) = ((k + 1 : Nat) : Int) := rfl
        have hMO : a + 1000 * BG f x.2.2.1 x.2.2.2.1 k = MO a f x.2.2.1 x.2.2.2.1 k := rfl
        obtain ⟨y, hy, hyb⟩ := get_at p0 hj
        have hprc : prc x.2.2.2.2 (MO a f x.2.2.1 x.2.2.2.1 k) k = if k = 0 then y.2.1 else y.2.2 := by unfold prc; rw [ej, Int.toNat_natCast, hy]
        unfold csB
        simp (disch := omega) only [↓bindO_some, ↓bindO_none, ↓joinO_inl, ↓joinO_inr, ↓joinO_none, ↓outO_some, ↓outO_none, ↓cond_true, ↓cond_false, ↓cond_and, ↓cond_or, ↓cond_not, ↓cond_ite, ↓if_pos, ↓if_neg, ↓if_true, ↓if_false, List.take_length, Nat.le_refl, Bool.not_true, Bool.not_false, if_pos, begin_b x hf hfi hst, wrap_i64', hMO, priceR_b hrv, ej]
        by_cases k0 : k = 0
        · rw [if_pos k0] at hprc
          simp (disch := omega) only [↓bindO_some, ↓bindO_none, ↓joinO_inl, ↓joinO_inr, ↓joinO_none, ↓outO_some, ↓outO_none, ↓cond_true, ↓cond_false, ↓cond_and, ↓cond_or, ↓cond_not, ↓cond_ite, ↓if_pos, ↓if_neg, ↓if_true, ↓if_false, List.take_length, Nat.le_refl, Bool.not_true, Bool.not_false, if_pos, ↓hyb, wrap_i64', hn1]
          rw [CU, hprc]
        · rw [if_neg k0] at hprc
          simp (disch := omega) only [↓bindO_some, ↓bindO_none, ↓joinO_inl, ↓joinO_inr, ↓joinO_none, ↓outO_some, ↓outO_none, ↓cond_true, ↓cond_false, ↓cond_and, ↓cond_or, ↓cond_not, ↓cond_ite, ↓if_pos, ↓if_neg, ↓if_true, ↓if_false, List.take_length, Nat.le_refl, Bool.not_true, Bool.not_false, if_pos, if_neg, ↓hyb, wrap_i64', hn1]
          rw [CU, hprc]
      · unfold csB
        simp (disch := omega) only [↓bindO_some, ↓bindO_none, ↓joinO_inl, ↓joinO_inr, ↓joinO_none, ↓outO_some, ↓outO_none, ↓cond_true, ↓cond_false, ↓cond_and, ↓cond_or, ↓cond_not, ↓cond_ite, ↓if_pos, ↓if_neg, ↓if_true, ↓if_false, List.take_length, Nat.le_refl, Bool.not_true, Bool.not_false, if_neg]
    rw [e]
    rfl
theorem cost_same (l : List Ra) (f : Int) (num : List UInt8) (a b : Int) : ∃ r, rating_Cost ((l, f), (num, (a, b))) = some r ∧ dialtoneref37_Cost ((l, f), (num, (a, b))) = some r := by
  by_cases hv : TV l f
  · by_cases hs : Spn a b
    · by_cases h1 : SE a b ≤ 1000000
      · obtain ⟨r, e1, e2, k1, _⟩ := find_same l f num
        rcases k1 hv with ⟨rfl, _⟩ | ⟨i, hi, rfl, _⟩
        · have w1 : 0 ≤ a ∧ a ≤ 281474976710656 := ⟨hs.1, Int.le_trans hs.2.1 hs.2.2⟩
          have w2 : a ≤ b ∧ b ≤ 281474976710656 := hs.2
          refine ⟨(0, 8), ?_, ?_⟩
          · unfold rating_Cost
            simp (disch := omega) only [↓bindO_some, ↓bindO_none, ↓joinO_inl, ↓joinO_inr, ↓joinO_none, ↓outO_some, ↓outO_none, ↓cond_true, ↓cond_false, ↓cond_and, ↓cond_or, ↓cond_not, ↓cond_ite, ↓if_pos, ↓if_neg, ↓if_true, ↓if_false, List.take_length, Nat.le_refl, Bool.not_true, Bool.not_false, validP_t hv, within_b, w1, w2, and_self, decide_true, secondsP_j, if_neg, e1]
          · rw [costR_eq, valid_same, validP_t hv]
            simp (disch := omega) only [↓bindO_some, ↓bindO_none, ↓joinO_inl, ↓joinO_inr, ↓joinO_none, ↓outO_some, ↓outO_none, ↓cond_true, ↓cond_false, ↓cond_and, ↓cond_or, ↓cond_not, ↓cond_ite, ↓if_pos, ↓if_neg, ↓if_true, ↓if_false, List.take_length, Nat.le_refl, Bool.not_true, Bool.not_false, span_b, hs, decide_true, secondsR_j, if_neg, e2]
        · exact ⟨_, costP_v hv hs h1 hi e1, costR_v hv hs h1 hi e2⟩
      · have w1 : 0 ≤ a ∧ a ≤ 281474976710656 := ⟨hs.1, Int.le_trans hs.2.1 hs.2.2⟩
        have w2 : a ≤ b ∧ b ≤ 281474976710656 := hs.2
        refine ⟨(0, 4), ?_, ?_⟩
        · unfold rating_Cost
          simp (disch := omega) only [↓bindO_some, ↓bindO_none, ↓joinO_inl, ↓joinO_inr, ↓joinO_none, ↓outO_some, ↓outO_none, ↓cond_true, ↓cond_false, ↓cond_and, ↓cond_or, ↓cond_not, ↓cond_ite, ↓if_pos, ↓if_neg, ↓if_true, ↓if_false, List.take_length, Nat.le_refl, Bool.not_true, Bool.not_false, validP_t hv, within_b, w1, w2, and_self, decide_true, secondsP_j, if_pos]
        · rw [costR_eq, valid_same, validP_t hv]
          simp (disch := omega) only [↓bindO_some, ↓bindO_none, ↓joinO_inl, ↓joinO_inr, ↓joinO_none, ↓outO_some, ↓outO_none, ↓cond_true, ↓cond_false, ↓cond_and, ↓cond_or, ↓cond_not, ↓cond_ite, ↓if_pos, ↓if_neg, ↓if_true, ↓if_false, List.take_length, Nat.le_refl, Bool.not_true, Bool.not_false, span_b, hs, decide_true, secondsR_j, if_pos]
    · refine ⟨(0, 3), ?_, ?_⟩
      · unfold rating_Cost
        by_cases w1 : 0 ≤ a ∧ a ≤ 281474976710656
        · have w2 : ¬ (a ≤ b ∧ b ≤ 281474976710656) := fun k => hs ⟨w1.1, k⟩
          simp (disch := omega) only [↓bindO_some, ↓bindO_none, ↓joinO_inl, ↓joinO_inr, ↓joinO_none, ↓outO_some, ↓outO_none, ↓cond_true, ↓cond_false, ↓cond_and, ↓cond_or, ↓cond_not, ↓cond_ite, ↓if_pos, ↓if_neg, ↓if_true, ↓if_false, List.take_length, Nat.le_refl, Bool.not_true, Bool.not_false, validP_t hv, within_b, w1, w2, and_self, decide_true, decide_false]
        · simp (disch := omega) only [↓bindO_some, ↓bindO_none, ↓joinO_inl, ↓joinO_inr, ↓joinO_none, ↓outO_some, ↓outO_none, ↓cond_true, ↓cond_false, ↓cond_and, ↓cond_or, ↓cond_not, ↓cond_ite, ↓if_pos, ↓if_neg, ↓if_true, ↓if_false, List.take_length, Nat.le_refl, Bool.not_true, Bool.not_false, validP_t hv, within_b, w1, decide_false]
      · rw [costR_eq, valid_same, validP_t hv]
        simp (disch := omega) only [↓bindO_some, ↓bindO_none, ↓joinO_inl, ↓joinO_inr, ↓joinO_none, ↓outO_some, ↓outO_none, ↓cond_true, ↓cond_false, ↓cond_and, ↓cond_or, ↓cond_not, ↓cond_ite, ↓if_pos, ↓if_neg, ↓if_true, ↓if_false, List.take_length, Nat.le_refl, Bool.not_true, Bool.not_false, span_b, hs, decide_false]
  · refine ⟨(0, 2), ?_, ?_⟩
    · unfold rating_Cost
      simp only [↓bindO_some, ↓bindO_none, ↓joinO_inl, ↓joinO_inr, ↓joinO_none, ↓outO_some, ↓outO_none, ↓cond_true, ↓cond_false, ↓cond_and, ↓cond_or, ↓cond_not, ↓cond_ite, ↓if_pos, ↓if_neg, ↓if_true, ↓if_false, List.take_length, Nat.le_refl, Bool.not_true, Bool.not_false, validP_f hv]
    · rw [costR_eq, valid_same, validP_f hv]; rfl
end Go.Proofs.Ytbckoncbimljeaa
