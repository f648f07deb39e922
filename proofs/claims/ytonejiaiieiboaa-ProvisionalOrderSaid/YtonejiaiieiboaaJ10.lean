/- Chapter 18, plain: all is acknowledged. -/
import Derived.Test.YtonejiaiieiboaaJ9
set_option linter.unusedVariables false
set_option linter.unusedSimpArgs false
namespace Go.Proofs.Ytonejiaiieiboaa
open Go.RowKit

theorem ob1 {a2 : List Bool} {n r1 r2 r3 : Int} {r4 : List Int} {r5 r6 : Bool} {last at_ : Int} (hm : MayP r1 r2 r3 r4 r5 r6) {f1 f2 f3 : Int} {f4 : List Int} {f5 f6 : Bool} {lf : List Out18} {k1 k2 k3 : Int} {k4 : List Int} {k5 k6 : Bool} {la : List Out18}
    (eF : FireR (r1, (r2, (r3, (r4, (r5, r6))))) 1 = ((f1, (f2, (f3, (f4, (f5, f6))))), (lf, 0))) (eA : last = r1 → AckR (r1, (r2, (r3, (r4, (r5, r6))))) last = ((k1, (k2, (k3, (k4, (k5, k6))))), (la, 0))) (hn : 0 ≤ n ∧ n < 200) (hat : 0 ≤ at_ ∧ at_ ≤ 1000) :
    ∃ at', at_ ≤ at' ∧ at' ≤ at_ + 1 ∧ ((OB1 a2 n r1 r2 r3 r4 r5 r6 last at_ = some (.inl (0, (lf, ((f1, (f2, (f3, (f4, (f5, f6))))), at')))) ∧ (100 ≤ n → last ≠ r1)) ∨ (last = r1 ∧ OB1 a2 n r1 r2 r3 r4 r5 r6 last at_ = some (.inl (0, (la, ((k1, (k2, (k3, (k4, (k5, k6))))), at')))))) := by
  unfold OB1
  by_cases h1 : n < 100
  · refine ⟨at_ + 1, by omega, by omega, ?_⟩
    by_cases ha : at_ + 1 ≤ (a2.length : Int)
    · simp (disch := omega) only [↓bindO_some, ↓bindO_none, ↓joinO_inl, ↓joinO_inr, ↓joinO_none, ↓outO_some, ↓outO_none, ↓cond_true, ↓cond_false, ↓cond_and, ↓cond_or, ↓cond_not, ↓cond_ite, ↓if_pos, ↓if_neg, ↓if_true, ↓if_false, List.take_length, Nat.le_refl, Bool.not_true, Bool.not_false, ↓get_bz false, wrap_i64', Int.add_sub_cancel]
      generalize a2.getD at_.toNat false = bit
      cases bit with
      | true =>
        left
        simp (disch := omega) only [↓bindO_some, ↓bindO_none, ↓joinO_inl, ↓joinO_inr, ↓joinO_none, ↓outO_some, ↓outO_none, ↓cond_true, ↓cond_false, ↓cond_and, ↓cond_or, ↓cond_not, ↓cond_ite, ↓if_pos, ↓if_neg, ↓if_true, ↓if_false, List.take_length, Nat.le_refl, Bool.not_true, Bool.not_false, ↓fire_bb hm, eF]
        exact ⟨trivial, fun h => by omega⟩
      | false =>
        by_cases hl : last = r1
        · right
          simp (disch := omega) only [↓bindO_some, ↓bindO_none, ↓joinO_inl, ↓joinO_inr, ↓joinO_none, ↓outO_some, ↓outO_none, ↓cond_true, ↓cond_false, ↓cond_and, ↓cond_or, ↓cond_not, ↓cond_ite, ↓if_pos, ↓if_neg, ↓if_true, ↓if_false, List.take_length, Nat.le_refl, Bool.not_true, Bool.not_false, ↓ack_bb hm, eA hl, hl, ne_eq, not_true_eq_false]
          rw [hl] at eA
          simp only [eA rfl]
          exact ⟨trivial, trivial⟩
        · left
          simp (disch := omega) only [↓bindO_some, ↓bindO_none, ↓joinO_inl, ↓joinO_inr, ↓joinO_none, ↓outO_some, ↓outO_none, ↓cond_true, ↓cond_false, ↓cond_and, ↓cond_or, ↓cond_not, ↓cond_ite, ↓if_pos, ↓if_neg, ↓if_true, ↓if_false, List.take_length, Nat.le_refl, Bool.not_true, Bool.not_false, ↓fire_bb hm, eF, ne_eq, hl, not_false_eq_true]
          exact ⟨trivial, fun h => by omega⟩
    · by_cases hl : last = r1
      · right
        subst hl
        simp (disch := omega) only [↓bindO_some, ↓bindO_none, ↓joinO_inl, ↓joinO_inr, ↓joinO_none, ↓outO_some, ↓outO_none, ↓cond_true, ↓cond_false, ↓cond_and, ↓cond_or, ↓cond_not, ↓cond_ite, ↓if_pos, ↓if_neg, ↓if_true, ↓if_false, List.take_length, Nat.le_refl, Bool.not_true, Bool.not_false, wrap_i64', ↓ack_bb hm, eA rfl, ne_eq, not_true_eq_false]
        exact ⟨trivial, trivial⟩
      · left
        simp (disch := omega) only [↓bindO_some, ↓bindO_none, ↓joinO_inl, ↓joinO_inr, ↓joinO_none, ↓outO_some, ↓outO_none, ↓cond_true, ↓cond_false, ↓cond_and, ↓cond_or, ↓cond_not, ↓cond_ite, ↓if_pos, ↓if_neg, ↓if_true, ↓if_false, List.take_length, Nat.le_refl, Bool.not_true, Bool.not_false, wrap_i64', ↓fire_bb hm, eF, ne_eq, hl, not_false_eq_true]
        exact ⟨trivial, fun h => by omega⟩
  · refine ⟨at_, by omega, by omega, ?_⟩
    by_cases hl : last = r1
    · right
      subst hl
      simp (disch := omega) only [↓bindO_some, ↓bindO_none, ↓joinO_inl, ↓joinO_inr, ↓joinO_none, ↓outO_some, ↓outO_none, ↓cond_true, ↓cond_false, ↓cond_and, ↓cond_or, ↓cond_not, ↓cond_ite, ↓if_pos, ↓if_neg, ↓if_true, ↓if_false, List.take_length, Nat.le_refl, Bool.not_true, Bool.not_false, wrap_i64', ↓ack_bb hm, eA rfl, ne_eq, not_true_eq_false]
      exact ⟨trivial, trivial⟩
    · left
      simp (disch := omega) only [↓bindO_some, ↓bindO_none, ↓joinO_inl, ↓joinO_inr, ↓joinO_none, ↓outO_some, ↓outO_none, ↓cond_true, ↓cond_false, ↓cond_and, ↓cond_or, ↓cond_not, ↓cond_ite, ↓if_pos, ↓if_neg, ↓if_true, ↓if_false, List.take_length, Nat.le_refl, Bool.not_true, Bool.not_false, wrap_i64', ↓fire_bb hm, eF, ne_eq, hl, not_false_eq_true]
      exact ⟨trivial, fun _ => trivial⟩
theorem ob2 {a2 : List Bool} {W : List Int} {n : Int} {l : List Out18} {r1 r2 r3 : Int} {r4 : List Int} {r5 r6 : Bool} {last at_ : Int} {A : List Int} (hm : MayP r1 r2 r3 r4 r5 r6) (hn : 0 ≤ n ∧ n < 200) (hat : 0 ≤ at_ ∧ at_ ≤ 1000) {last' : Bool → Int} {A' : Bool → List Int} {f' : Bool → Int}
    (hd : ∀ lost, loopO (dB l lost : (Int × Lk) → Option ((Int × Lk) ⊕ (Lk ⊕ ((Int × OT2) ⊕ (OT2 ⊕ Bool))))) (0, (r1, (r2, (r3, (r4, (r5, (r6, (last, (A, (0, (false, false))))))))))) = some (.inl (r1, (r2, (r3, (r4, (r5, (r6, (last' lost, (A' lost, (f' lost, (false, false))))))))))))
    (hW : ∀ lost, f' lost ≠ 0 → (A' lost).length = W.length) :
    ∃ lost at', (100 ≤ n → lost = false) ∧ at_ ≤ at' ∧ at' ≤ at_ + 1 ∧ OB2 a2 W n 0 l r1 r2 r3 r4 r5 r6 at_ last A 0 false false = some (.inl (n + 1, (0, (l, ((r1, (r2, (r3, (r4, (r5, (r6, (last' lost, (A' lost, (f' lost, (false, false)))))))))), (at', (r1, (r2, (r3, (r4, (r5, r6)))))))))))  := by
  have hf : ∀ lost, f' lost ≠ 0 → decide (((A' lost).length : Int) < (W.length : Int)) = false := fun lost h => by rw [hW lost h]; simp
  unfold OB2
  by_cases h1 : n < 100
  · by_cases ha : at_ + 1 ≤ (a2.length : Int)
    · refine ⟨a2.getD at_.toNat false, at_ + 1, fun h => by omega, by omega, by omega, ?_⟩
      simp (disch := omega) only [↓bindO_some, ↓bindO_none, ↓joinO_inl, ↓joinO_inr, ↓joinO_none, ↓outO_some, ↓outO_none, ↓cond_true, ↓cond_false, ↓cond_and, ↓cond_or, ↓cond_not, ↓cond_ite, ↓if_pos, ↓if_neg, ↓if_true, ↓if_false, List.take_length, Nat.le_refl, Bool.not_true, Bool.not_false, ↓get_bz false, ↓mayT_b hm, wrap_i64', Int.add_sub_cancel, ne_eq, not_true_eq_false]
      rw [hd]
      by_cases h0 : f' (a2.getD at_.toNat false) = 0
      · simp only [↓bindO_some, ↓bindO_none, ↓joinO_inl, ↓joinO_inr, ↓joinO_none, ↓outO_some, ↓outO_none, ↓cond_true, ↓cond_false, ↓cond_and, ↓cond_or, ↓cond_not, ↓cond_ite, ↓if_pos, ↓if_neg, ↓if_true, ↓if_false, List.take_length, Nat.le_refl, Bool.not_true, Bool.not_false, h0, not_true_eq_false]
      · simp only [↓bindO_some, ↓bindO_none, ↓joinO_inl, ↓joinO_inr, ↓joinO_none, ↓outO_some, ↓outO_none, ↓cond_true, ↓cond_false, ↓cond_and, ↓cond_or, ↓cond_not, ↓cond_ite, ↓if_pos, ↓if_neg, ↓if_true, ↓if_false, List.take_length, Nat.le_refl, Bool.not_true, Bool.not_false, hf _ h0, h0, not_false_eq_true]
    · refine ⟨false, at_ + 1, fun h => rfl, by omega, by omega, ?_⟩
      simp (disch := omega) only [↓bindO_some, ↓bindO_none, ↓joinO_inl, ↓joinO_inr, ↓joinO_none, ↓outO_some, ↓outO_none, ↓cond_true, ↓cond_false, ↓cond_and, ↓cond_or, ↓cond_not, ↓cond_ite, ↓if_pos, ↓if_neg, ↓if_true, ↓if_false, List.take_length, Nat.le_refl, Bool.not_true, Bool.not_false, ↓get_bz false, ↓mayT_b hm, wrap_i64', Int.add_sub_cancel, ne_eq, not_true_eq_false, dB0_eq]
      rw [hd]
      by_cases h0 : f' false = 0
      · simp only [↓bindO_some, ↓bindO_none, ↓joinO_inl, ↓joinO_inr, ↓joinO_none, ↓outO_some, ↓outO_none, ↓cond_true, ↓cond_false, ↓cond_and, ↓cond_or, ↓cond_not, ↓cond_ite, ↓if_pos, ↓if_neg, ↓if_true, ↓if_false, List.take_length, Nat.le_refl, Bool.not_true, Bool.not_false, h0, not_true_eq_false]
      · simp only [↓bindO_some, ↓bindO_none, ↓joinO_inl, ↓joinO_inr, ↓joinO_none, ↓outO_some, ↓outO_none, ↓cond_true, ↓cond_false, ↓cond_and, ↓cond_or, ↓cond_not, ↓cond_ite, ↓if_pos, ↓if_neg, ↓if_true, ↓if_false, List.take_length, Nat.le_refl, Bool.not_true, Bool.not_false, hf _ h0, h0, not_false_eq_true]
  · refine ⟨false, at_, fun h => rfl, by omega, by omega, ?_⟩
    simp (disch := omega) only [↓bindO_some, ↓bindO_none, ↓joinO_inl, ↓joinO_inr, ↓joinO_none, ↓outO_some, ↓outO_none, ↓cond_true, ↓cond_false, ↓cond_and, ↓cond_or, ↓cond_not, ↓cond_ite, ↓if_pos, ↓if_neg, ↓if_true, ↓if_false, List.take_length, Nat.le_refl, Bool.not_true, Bool.not_false, ↓get_bz false, ↓mayT_b hm, wrap_i64', Int.add_sub_cancel, ne_eq, not_true_eq_false, dB0_eq]
    rw [hd]
    by_cases h0 : f' false = 0
    · simp only [↓bindO_some, ↓bindO_none, ↓joinO_inl, ↓joinO_inr, ↓joinO_none, ↓outO_some, ↓outO_none, ↓cond_true, ↓cond_false, ↓cond_and, ↓cond_or, ↓cond_not, ↓cond_ite, ↓if_pos, ↓if_neg, ↓if_true, ↓if_false, List.take_length, Nat.le_refl, Bool.not_true, Bool.not_false, h0, not_true_eq_false]
    · simp only [↓bindO_some, ↓bindO_none, ↓joinO_inl, ↓joinO_inr, ↓joinO_none, ↓outO_some, ↓outO_none, ↓cond_true, ↓cond_false, ↓cond_and, ↓cond_or, ↓cond_not, ↓cond_ite, ↓if_pos, ↓if_neg, ↓if_true, ↓if_false, List.take_length, Nat.le_refl, Bool.not_true, Bool.not_false, hf _ h0, h0, not_false_eq_true]
theorem take_more {W : List Int} {J : Nat} (h : J < W.length) : W.take J ++ [W.getD J 0] = W.take (J + 1) := by
  rw [List.take_add_one, get_D' 0 h]; rfl
/-- How many rounds without a loss are needed. -/
def need (W : List Int) (J : Nat) (last : Int) : Nat := (W.length - J + 1) + (if last = (J : Int) then 0 else 1)
/-- While acknowledgements come. -/
def IB (W : List Int) : (Int × OT2) → Prop := fun (n, (v, (l, ((r1, (r2, (r3, (r4, (r5, (r6, (last, (A, (f, (e, g)))))))))), (at_, r))))) =>
  0 ≤ n ∧ n ≤ 200 ∧ 0 ≤ at_ ∧ at_ ≤ 14 + 2 * n ∧ e = false ∧ g = false ∧ ((f = 200 ∧ A = W) ∨ (f = 0 ∧ n < 200 ∧ ∃ J, 1 ≤ J ∧ PInv W [200] true J r1 r2 r3 r4 r5 r6 last A ∧ (n ≤ 100 ∨ (need W J last : Int) ≤ 200 - n)))
def MuB : (Int × OT2) → Nat := fun x => (200 - x.1).toNat
theorem b_round (W : List Int) (a2 : List Bool) (hW : W.length ≤ 14) (Q : (OT2 ⊕ Bool) → Prop)
    (hQ : ∀ v l r1 r2 r3 r4 r5 r6 last at_ r, Q (.inl (v, (l, ((r1, (r2, (r3, (r4, (r5, (r6, (last, (W, (200, (false, false)))))))))), (at_, r))))))
    (x : Int × OT2) (hx : IB W x) : PostS (IB W) Q MuB (MuB x) (OB a2 W x) := by
  obtain ⟨n, v, l, ⟨r1, r2, r3, r4, r5, r6, last, A, f, e, g⟩, at_, ⟨q1, q2, q3, q4, q5, q6⟩⟩ := x
  obtain ⟨hn0, hn1, hat0, hat1, rfl, rfl, hc⟩ := hx
  rcases hc with ⟨rfl, rfl⟩ | ⟨rfl, hn, J, hJ, hI, hneed⟩
  · have h := hQ v l r1 r2 r3 r4 r5 r6 last at_ (q1, (q2, (q3, (q4, (q5, q6)))))
    unfold OB
    by_cases hl : n < 200
    · simp (disch := omega) only [↓bindO_some, ↓bindO_none, ↓joinO_inl, ↓joinO_inr, ↓joinO_none, ↓outO_some, ↓outO_none, ↓cond_true, ↓cond_false, ↓cond_and, ↓cond_or, ↓cond_not, ↓cond_ite, ↓if_pos, ↓if_neg, ↓if_true, ↓if_false, List.take_length, Nat.le_refl, Bool.not_true, Bool.not_false]
      exact .stop h
    · simp (disch := omega) only [↓bindO_some, ↓bindO_none, ↓joinO_inl, ↓joinO_inr, ↓joinO_none, ↓outO_some, ↓outO_none, ↓cond_true, ↓cond_false, ↓cond_and, ↓cond_or, ↓cond_not, ↓cond_ite, ↓if_pos, ↓if_neg, ↓if_true, ↓if_false, List.take_length, Nat.le_refl, Bool.not_true, Bool.not_false]
      exact .stop h
  · have hs := hI.seq
    have hla := hI.la
    have hjw := hI.jw
    have hal := hI.alen
    have hm := hI.may
    have hp := hI.wp (J - 1) (by omega)
    have hrun : r2 = W.getD (J - 1) 0 ∧ r4 = W.drop J ++ [200] := by
      rcases hI.run with ⟨e, _⟩ | ⟨_, e⟩
      · omega
      · exact e
    have h0 : ¬ r2 = 0 := by rw [hrun.1]; omega
    obtain ⟨eF, mF⟩ := fire_1 hm h0
    have mu : ∀ y : OT2, MuB (n + 1, y) < MuB (n, (v, (l, ((r1, (r2, (r3, (r4, (r5, (r6, (last, (A, ((0 : Int), (false, false)))))))))), (at_, (q1, (q2, (q3, (q4, (q5, q6)))))))))) := fun y => by
      show (200 - (n + 1)).toNat < (200 - n).toNat
      omega
    have hrl : r1 = last + 1 ∨ (r1 = last ∧ 1 ≤ last) := by omega
    have hl0 : 0 ≤ last ∧ last ≤ 1000 := by omega
    have hA0 : A.length ≤ 1000 := by omega
    -- what the acknowledgement does
    have ack : last = r1 → ∃ k1 k2 k3 k4 k5 k6 la, AckR (r1, (r2, (r3, (r4, (r5, r6))))) last = ((k1, (k2, (k3, (k4, (k5, k6))))), (la, 0)) ∧ MayP k1 k2 k3 k4 k5 k6 ∧
        ((J = W.length ∧ la = outFin 200) ∨ (J < W.length ∧ la = outSend (W.getD J 0) (r1 + 1) ∧ k1 = r1 + 1 ∧ k2 = W.getD J 0 ∧ k4 = W.drop (J + 1) ++ [200] ∧ k5 = r5)) := fun hl => by
      rw [hl]
      by_cases hj : J < W.length
      · have hd : W.drop J = W.getD J 0 :: W.drop (J + 1) := by rw [List.drop_eq_getElem_cons hj, getD_get 0 hj]
        obtain ⟨e1, e2⟩ := ack_p hm h0 (by rw [hrun.2, hd]; rfl) (hI.wp J hj)
        exact ⟨_, _, _, _, _, _, _, e1, e2, .inr ⟨hj, rfl, rfl, rfl, rfl, rfl⟩⟩
      · have hd : W.drop J = [] := List.drop_eq_nil_of_le (by omega)
        obtain ⟨e1, e2⟩ := ack_a hm h0 (by rw [hrun.2, hd]; rfl) (show Ac 200 by unfold Ac; omega)
        exact ⟨_, _, _, _, _, _, _, e1, e2, .inl ⟨by omega, rfl⟩⟩
    have doFire : ∀ at', at_ ≤ at' → at' ≤ at_ + 1 → OB1 a2 n r1 r2 r3 r4 r5 r6 last at_ = some (.inl (0, ([(1, (r2, (r1, (0, 0)))), (3, (0, (0, (1, minA (2 * r3) 32000))))], ((r1, (r2, (minA (2 * r3) 32000, (r4, (r5, r6))))), at')))) → (100 ≤ n → last ≠ r1) →
        PostS (IB W) Q MuB (MuB (n, (v, (l, ((r1, (r2, (r3, (r4, (r5, (r6, (last, (A, ((0 : Int), (false, false)))))))))), (at_, (q1, (q2, (q3, (q4, (q5, q6)))))))))) ) (OB a2 W (n, (v, (l, ((r1, (r2, (r3, (r4, (r5, (r6, (last, (A, ((0 : Int), (false, false)))))))))), (at_, (q1, (q2, (q3, (q4, (q5, q6)))))))))) ) := fun at' t1 t2 hO hlast => by
      obtain ⟨lost, at'', u1, u2, u3, hO2⟩ := ob2 (a2 := a2) (W := W) (n := n) (l := [(1, (r2, (r1, (0, 0)))), (3, (0, (0, (1, minA (2 * r3) 32000))))]) (at_ := at') (last := last) (A := A) (last' := fun lost => (dSend lost r2 r1 last A).1) (A' := fun lost => (dSend lost r2 r1 last A).2) (f' := fun _ => 0) mF ⟨hn0, hn⟩ (by omega) (fun lost => d_fire hrl hl0 hA0) (fun _ h => absurd rfl h)
      unfold OB
      simp (disch := omega) only [↓bindO_some, ↓bindO_none, ↓joinO_inl, ↓joinO_inr, ↓joinO_none, ↓outO_some, ↓outO_none, ↓cond_true, ↓cond_false, ↓cond_and, ↓cond_or, ↓cond_not, ↓cond_ite, ↓if_pos, ↓if_neg, ↓if_true, ↓if_false, List.take_length, Nat.le_refl, Bool.not_true, Bool.not_false, hO, hO2]
      refine .next ⟨by omega, by omega, by omega, by omega, rfl, rfl, .inr ⟨rfl, ?_, J, hJ, ?_, ?_⟩⟩ (mu _)
      · rcases hneed with h | h
        · omega
        · unfold need at h; split at h
          · by_cases h100 : 100 ≤ n
            · have := hlast h100; omega
            · omega
          · omega
      · refine ⟨mF, hI.fi, hs, hjw, ?_, ?_, .inr ⟨hJ, hrun.1, hrun.2⟩, hI.wp⟩
        · unfold dSend; split
          · left; show last + 1 = (J : Int); omega
          · exact hla
        · unfold dSend; split
          · rename_i hh
            show A ++ [r2] = W.take (last + 1).toNat
            have e1 : last.toNat = J - 1 := by omega
            have e2 : (last + 1).toNat = J - 1 + 1 := by omega
            rw [hI.acc, hrun.1, e1, e2, take_more (by omega)]
          · exact hI.acc
      · rcases hneed with h | h
        · by_cases h100 : n < 100
          · left; omega
          · right
            have hlo := u1 (by omega)
            have hne := hlast (by omega)
            subst hlo
            have hc : false = false ∧ r1 = last + 1 := ⟨rfl, by clear ack; omega⟩
            unfold dSend
            rw [if_pos hc]
            unfold need
            rw [if_pos (by clear ack; omega)]
            omega
        · by_cases h100 : n < 100
          · left; omega
          · right
            have hlo := u1 (by omega)
            have hne := hlast (by omega)
            subst hlo
            unfold need at h
            rw [if_neg (by omega)] at h
            have hc : false = false ∧ r1 = last + 1 := ⟨rfl, by clear ack; omega⟩
            unfold dSend
            rw [if_pos hc]
            unfold need
            rw [if_pos (by clear ack; omega)]
            omega
    by_cases hl : last = r1
    · obtain ⟨k1, k2, k3, k4, k5, k6, la, eA, mA, hA⟩ := ack hl
      obtain ⟨at', t1, t2, h⟩ := ob1 (a2 := a2) (n := n) (at_ := at_) hm eF (fun _ => eA) ⟨hn0, hn⟩ (by omega)
      rcases h with ⟨hO, hlast⟩ | ⟨_, hO⟩
      · exact doFire at' t1 t2 hO hlast
      · rcases hA with ⟨hJW, rfl⟩ | ⟨hJW, rfl, rfl, rfl, rfl, rfl⟩
        · have hAW : A = W := by rw [hI.acc, List.take_of_length_le (by omega)]
          obtain ⟨lost, at'', u1, u2, u3, hO2⟩ := ob2 (a2 := a2) (W := W) (n := n) (at_ := at') (last := last) (A := A) (last' := fun lost => last) (A' := fun lost => A) (f' := fun _ => 200) mA ⟨hn0, hn⟩ (by omega) (fun lost => d_fin) (fun _ _ => by rw [hAW])
          unfold OB
          simp (disch := omega) only [↓bindO_some, ↓bindO_none, ↓joinO_inl, ↓joinO_inr, ↓joinO_none, ↓outO_some, ↓outO_none, ↓cond_true, ↓cond_false, ↓cond_and, ↓cond_or, ↓cond_not, ↓cond_ite, ↓if_pos, ↓if_neg, ↓if_true, ↓if_false, List.take_length, Nat.le_refl, Bool.not_true, Bool.not_false, hO, hO2]
          exact .next ⟨by omega, by omega, by omega, by omega, rfl, rfl, .inl ⟨rfl, hAW⟩⟩ (mu _)
        · obtain ⟨lost, at'', u1, u2, u3, hO2⟩ := ob2 (a2 := a2) (W := W) (n := n) (at_ := at') (last := last) (A := A) (last' := fun lost => (dSend lost (W.getD J 0) (r1 + 1) last A).1) (A' := fun lost => (dSend lost (W.getD J 0) (r1 + 1) last A).2) (f' := fun _ => 0) mA ⟨hn0, hn⟩ (by omega) (fun lost => d_out (by omega) hl0 hA0) (fun _ h => absurd rfl h)
          unfold OB
          simp (disch := omega) only [↓bindO_some, ↓bindO_none, ↓joinO_inl, ↓joinO_inr, ↓joinO_none, ↓outO_some, ↓outO_none, ↓cond_true, ↓cond_false, ↓cond_and, ↓cond_or, ↓cond_not, ↓cond_ite, ↓if_pos, ↓if_neg, ↓if_true, ↓if_false, List.take_length, Nat.le_refl, Bool.not_true, Bool.not_false, hO, hO2]
          have hnd : need W J last = W.length - J + 1 := by unfold need; rw [if_pos (by omega)]
          rw [hnd] at hneed
          refine .next ⟨by omega, by omega, by omega, by omega, rfl, rfl, .inr ⟨rfl, ?_, J + 1, by omega, ?_, ?_⟩⟩ (mu _)
          · omega
          · refine ⟨mA, hI.fi, by omega, by omega, ?_, ?_, .inr ⟨by omega, rfl, rfl⟩, hI.wp⟩
            · unfold dSend; split
              · left; show last + 1 = _; omega
              · right; exact ⟨by show last = _; omega, by omega⟩
            · unfold dSend; split
              · show A ++ [W.getD J 0] = W.take (last + 1).toNat
                have e1 : last.toNat = J := by omega
                have e2 : (last + 1).toNat = J + 1 := by omega
                rw [hI.acc, e1, e2, take_more hJW]
              · exact hI.acc
          · by_cases h100 : n < 100
            · left; omega
            · right
              have hlo := u1 (by omega)
              subst hlo
              have hc : false = false ∧ r1 + 1 = last + 1 := ⟨rfl, by omega⟩
              unfold dSend
              rw [if_pos hc]
              unfold need
              rw [if_pos (by omega)]
              omega
    · obtain ⟨at', t1, t2, h⟩ := ob1 (a2 := a2) (n := n) (at_ := at_) (k1 := 0) (k2 := 0) (k3 := 0) (k4 := []) (k5 := true) (k6 := true) (la := []) hm eF (fun h => (hl h).elim) ⟨hn0, hn⟩ (by omega)
      rcases h with ⟨hO, hlast⟩ | ⟨h, _⟩
      · exact doFire at' t1 t2 hO hlast
      · exact (hl h).elim
end Go.Proofs.Ytonejiaiieiboaa
