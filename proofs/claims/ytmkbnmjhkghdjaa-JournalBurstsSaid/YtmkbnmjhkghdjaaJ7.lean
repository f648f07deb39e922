/- Chapter 20, plain: all records at the front of bytes. -/
import Derived.Test.YtmkbnmjhkghdjaaJ6
set_option linter.unusedVariables false
set_option linter.unusedSimpArgs false
namespace Go.Proofs.Ytmkbnmjhkghdjaa
open Go.RowKit

abbrev Recs := List (Int × List Int)
/-- A round of the scan. -/
noncomputable def scanB (b : List Int) (x : Recs × Int) : Option ((Recs × Int) ⊕ (Recs × (Int × Int))) :=
  if x.2 < (b.length : Int) then
    if (oneS (b.drop x.2.toNat) x.1.length).2.2 ≠ 0 then some (.inr (x.1, (x.2, (oneS (b.drop x.2.toNat) x.1.length).2.2)))
    else some (.inl (x.1 ++ [(oneS (b.drop x.2.toNat) x.1.length).1], x.2 + (oneS (b.drop x.2.toNat) x.1.length).2.1))
  else some (.inr (x.1, (x.2, 0)))
def ScanI (b : List Int) (x : Recs × Int) : Prop := 0 ≤ x.2 ∧ x.2 ≤ (b.length : Int) ∧ 14 * (x.1.length : Int) ≤ x.2
theorem oneS_cases (b : List Int) (n : Nat) : (oneS b n).2.2 ≠ 0 ∧ (oneS b n).2.1 = 0 ∨ ((oneS b n).2.2 = 0 ∧ (oneS b n).2.1 = ((14 + szB b : Nat) : Int) ∧ 14 + szB b ≤ b.length ∧ ¬ (n ≥ 1048576 ∨ Wrong b n)) := by
  by_cases h : n ≥ 1048576 ∨ Wrong b n
  · rw [oneS_wrong h]; exact .inl ⟨by decide, rfl⟩
  by_cases k : b.length < 14 + szB b
  · rw [oneS_short h k]; exact .inl ⟨by decide, rfl⟩
  by_cases c : be 4 (crc (b.take (10 + szB b))) = (b.drop (10 + szB b)).take 4
  · rw [oneS_ok h k c]; exact .inr ⟨rfl, rfl, by omega, h⟩
  · rw [oneS_check h k c]; exact .inl ⟨by decide, rfl⟩
theorem scanI_next {b : List Int} {x : Recs × Int} (h : ScanI b x) (hlt : x.2 < (b.length : Int)) (he : (oneS (b.drop x.2.toNat) x.1.length).2.2 = 0) : ScanI b (x.1 ++ [(oneS (b.drop x.2.toNat) x.1.length).1], x.2 + (oneS (b.drop x.2.toNat) x.1.length).2.1) ∧ x.2 + 14 ≤ x.2 + (oneS (b.drop x.2.toNat) x.1.length).2.1 := by
  obtain ⟨h1, h2, h3⟩ := h
  rcases oneS_cases (b.drop x.2.toNat) x.1.length with ⟨q, _⟩ | ⟨_, q2, q3, _⟩
  · exact (q he).elim
  · rw [List.length_drop] at q3
    refine ⟨⟨?_, ?_, ?_⟩, ?_⟩
    · show 0 ≤ x.2 + _; omega
    · show x.2 + _ ≤ _; omega
    · show 14 * ((x.1 ++ [_]).length : Int) ≤ x.2 + _
      rw [List.length_append, List.length_singleton]; omega
    · omega
theorem scan_ends (b : List Int) : ∃ r, loopO (scanB b) ([], 0) = some r := by
  refine loopO_ends (ScanI b) (fun x => ((b.length : Int) - x.2).toNat) ?_ ⟨by show (0 : Int) ≤ 0; omega, by show (0 : Int) ≤ _; omega, by show (14 * ((0 : Nat) : Int)) ≤ 0; omega⟩
  intro x hx
  unfold scanB
  by_cases hlt : x.2 < (b.length : Int)
  · rw [if_pos hlt]
    by_cases he : (oneS (b.drop x.2.toNat) x.1.length).2.2 ≠ 0
    · rw [if_pos he]; exact .inl ⟨_, rfl⟩
    · rw [if_neg he]
      obtain ⟨k1, k2⟩ := scanI_next hx hlt (Decidable.not_not.1 he)
      refine .inr ⟨_, rfl, k1, ?_⟩
      have := k1.2.1
      simp only at this ⊢
      omega
  · rw [if_neg hlt]; exact .inl ⟨_, rfl⟩
theorem scan_r (b : List Int) (hb : Bytes b) (hl : b.length ≤ 1000000) {r : Recs × (Int × Int)} (hr : loopO (scanB b) ([], 0) = some r) : dialtoneref20_Scan b = some r := by
  unfold dialtoneref20_Scan
  simp only [bindO_some, bindO_none, joinO_inl, joinO_inr, joinO_none, outO_some, outO_none, cond_ite, List.take_length, Nat.le_refl, if_true, Nat.mul_one, Int.mul_one, cond_true, cond_false]
  refine loopO_simJ (fun x y => x = (y.2, y.1) ∧ ScanI b y) ?_ (x := (0, [])) ⟨rfl, by show (0 : Int) ≤ 0; omega, by show (0 : Int) ≤ _; omega, by show (14 * ((0 : Nat) : Int)) ≤ 0; omega⟩ hr
  · rintro x y ⟨rfl, hI⟩
    obtain ⟨i1, i2, i3⟩ := hI
    unfold scanB
    by_cases hlt : y.2 < (b.length : Int)
    · simp (disch := omega) only [if_pos]
      rw [one_r _ _ (hb.drop _) (by rw [List.length_drop]; omega), bindO_some]
      have hnext := scanI_next ⟨i1, i2, i3⟩ hlt
      obtain ⟨⟨⟨k, d⟩, ⟨sz, e⟩⟩, hO⟩ : ∃ o, o = oneS (b.drop y.2.toNat) y.1.length := ⟨_, rfl⟩
      rw [← hO] at hnext ⊢
      simp only at hnext ⊢
      by_cases he : e ≠ 0
      · rw [if_pos he, if_pos he]
        exact .inr ⟨_, _, rfl, rfl, rfl⟩
      · rw [if_neg he, if_neg he]
        obtain ⟨k1, k2⟩ := hnext (Decidable.not_not.1 he)
        have k3 := k1.2.1
        have k4 := k1.2.2
        simp only at k3 k4
        rw [if_pos (by omega), wrap_i64' (by omega)]
        exact .inl ⟨_, _, rfl, rfl, rfl, k1⟩
    · rw [if_neg hlt, if_neg hlt]
      exact .inr ⟨_, _, rfl, rfl, rfl⟩
theorem scan_out {b : List Int} {r : Recs × (Int × Int)} (hr : loopO (scanB b) ([], 0) = some r) : 0 ≤ r.2.1 ∧ r.2.1 ≤ (b.length : Int) ∧ 14 * (r.1.length : Int) ≤ r.2.1 := by
  have key : ∀ x r, LoopR (scanB b) x r → ScanI b x → 0 ≤ r.2.1 ∧ r.2.1 ≤ (b.length : Int) ∧ 14 * (r.1.length : Int) ≤ r.2.1 := by
    intro x r h
    induction h with
    | done hd =>
      intro hI
      unfold scanB at hd
      split at hd
      · split at hd
        · cases hd; exact hI
        · cases hd
      · cases hd; exact hI
    | step hd _ ih =>
      intro hI
      refine ih ?_
      unfold scanB at hd
      split at hd
      · rename_i hlt
        split at hd
        · cases hd
        · rename_i he
          cases hd
          exact (scanI_next hI hlt (Decidable.not_not.1 he)).1
      · cases hd
  exact key _ _ (loopO_iff.1 hr) ⟨by show (0 : Int) ≤ 0; omega, by show (0 : Int) ≤ _; omega, by show (14 * ((0 : Nat) : Int)) ≤ 0; omega⟩
theorem fld1_ok (C : Int) (i : Nat) (hi : i < [(C, (4 : Int))].length) : 1 ≤ [(C, (4 : Int))][i].2 ∧ [(C, (4 : Int))][i].2 ≤ 4 := by
  have h1 : i < 1 := hi
  have h0 : i = 0 := by omega
  subst h0
  exact ⟨by simp, by simp⟩
set_option maxHeartbeats 4000000 in
theorem scan_j (b : List Int) (hb : Bytes b) (hl : b.length ≤ 1000000) {r : Recs × (Int × Int)} (hr : loopO (scanB b) ([], 0) = some r) : journal_Scan b = some r := by
  unfold journal_Scan
  simp only [bindO_some, bindO_none, joinO_inl, joinO_inr, joinO_none, outO_some, outO_none, cond_ite, List.take_length, Nat.le_refl, if_true, Nat.mul_one, Int.mul_one, cond_true, cond_false, and_dec]
  refine loopO_simG (fun x y => x = (y.1, (b, y.2)) ∧ ScanI b y) ?_ (x := ([], (b, 0))) ⟨rfl, by show (0 : Int) ≤ 0; omega, by show (0 : Int) ≤ _; omega, by show (14 * ((0 : Nat) : Int)) ≤ 0; omega⟩ hr
  rintro x y ⟨rfl, hI⟩
  obtain ⟨i1, i2, i3⟩ := hI
  unfold scanB
  by_cases hlt : y.2 < (b.length : Int)
  · have hrest : List.take ((b.length : Int).toNat - y.2.toNat) (b.drop y.2.toNat) = b.drop y.2.toNat := by
      rw [List.take_of_length_le]; rw [List.length_drop]; omega
    simp only
    rw [if_pos hlt, if_pos hlt, if_neg (by omega)]
    rw [hrest]
    have hnext := scanI_next ⟨i1, i2, i3⟩ hlt
    generalize hB : b.drop y.2.toNat = B at *
    have hBb : Bytes B := by rw [← hB]; exact hb.drop _
    have hBl : (B.length : Int) = (b.length : Int) - y.2 := by rw [← hB, List.length_drop]; omega
    refine SimS.join ((oneS B y.1.length).1, ((oneS B y.1.length).2.2, (b, y.2 + (oneS B y.1.length).2.1))) ?_ ?_
    · rw [if_pos (by omega)]
      have hn : y.1.length < 1048576 := by omega
      generalize hN : y.1.length = n at *
      obtain ⟨r, hr', hrw⟩ := begins_j B n hBb (by omega) (by omega)
      refine bindO_eq hr' ?_
      by_cases hw : Wrong B n
      · rw [hrw.2 hw, oneS_wrong (.inr hw), Int.add_zero]; rfl
      have hrt : r = true := by cases r with | true => rfl | false => exact (hw (hrw.1 rfl)).elim
      have hnw : ¬ (n ≥ 1048576 ∨ Wrong B n) := by rintro (h | h); omega; exact hw h
      rw [hrt]
      simp only [Bool.not_true, cond_false]
      by_cases h10 : B.length < 10
      · rw [if_pos (by omega), oneS_short hnw (by omega), Int.add_zero]
      rw [if_neg (by omega)]
      have hsz := sz_le hBb hw (by omega)
      have hs := szB_eq hBb
      have x6 := hBb.getD 6
      have x7 := hBb.getD 7
      have g6 : B[6]? = some (B.getD 6 0) := get_D' 0 (by omega)
      have g7 : B[7]? = some (B.getD 7 0) := get_D' 0 (by omega)
      have g1 : B[1]? = some (B.getD 1 0) := get_D' 0 (by omega)
      rw [if_pos (by omega), g6, bindO_some, if_pos (by omega), g7, bindO_some, or_bytes x6 x7, ← hs, wrap_i64' (n := 10 + ((szB B : Nat) : Int)) (by omega), wrap_i64' (n := 10 + ((szB B : Nat) : Int) + 4) (by omega)]
      by_cases hlen : B.length < 14 + szB B
      · rw [if_pos (by omega), oneS_short hnw hlen, Int.add_zero]
      rw [if_neg (by omega), if_pos (by omega), show (10 + ((szB B : Nat) : Int)).toNat = 10 + szB B from by omega]
      refine bindO_eq (check_j _ (hBb.take _) (by rw [List.length_take]; omega)) ?_
      have hcb := crc_bnd (B.take (10 + szB B))
      generalize hC : crc (B.take (10 + szB B)) = C at *
      have hf : flds [(C, 4)] = be 4 C := by simp only [flds, List.flatMap_cons, List.flatMap_nil, List.append_nil]; rfl
      refine joinO_eq (a := be 4 C) (joinO_eq (a := be 4 C) ?_ rfl) ?_
      · have hloop := fun β body h => fields_loop (β := β) (body := body) [(C, 4)] 1 rfl (fld1_ok C) (by rw [hf, be_length]; omega) (by simp) [] (by simp) h
        rw [hf, List.nil_append] at hloop
        exact hloop _ _ (fun _ => rfl)
      have hbl : (bytesU (be 4 C)).length = 4 := by rw [bytesU_length, be_length]
      have e1 : (10 + ((szB B : Nat) : Int) + 4).toNat - (10 + szB B) = 4 := by omega
      rw [if_pos (by omega), e1]
      by_cases hc : be 4 C = (B.drop (10 + szB B)).take 4
      · rw [oneS_ok hnw hlen (by rw [hC]; exact hc)]
        rw [if_neg (fun h => h (by rw [hc]))]
        rw [if_pos (by omega)]
        have e2 : 10 + szB B - 10 = szB B := by omega
        have hdl : ((B.drop 10).take (szB B)).length = szB B := by rw [List.length_take, List.length_drop]; omega
        have htt : List.take (szB B) (List.take (szB B) (List.drop 10 B)) = List.take (szB B) (List.drop 10 B) := List.take_of_length_le (by omega)
        have hlay : layL (List.replicate (szB B) (0 : Int)) 0 (List.take (szB B) (List.drop 10 B)) = List.take (szB B) (List.drop 10 B) := layL_all (by rw [hdl, List.length_replicate])
        rw [if_pos (by omega), Int.toNat_natCast, e2, List.length_replicate, if_pos (Nat.le_refl _), if_pos (by omega), g1, bindO_some, htt, hlay, if_pos (by omega), htt, wrap_i64' (by omega)]
        rw [show y.2 + (10 + ((szB B : Nat) : Int) + 4) = y.2 + ((14 + szB B : Nat) : Int) from by omega]
      · rw [oneS_check hnw hlen (by rw [hC]; exact hc), if_pos (fun h => hc ((bytesU_inj (be_bytes _ _) ((hBb.drop _).take _)).1 h)), Int.add_zero]
    · obtain ⟨⟨⟨kd, d⟩, ⟨sz, e⟩⟩, hO⟩ : ∃ o, o = oneS B y.1.length := ⟨_, rfl⟩
      rw [← hO] at hnext ⊢
      simp only at hnext ⊢
      by_cases he : e ≠ 0
      · rw [if_pos he, if_pos he]
        have hz : sz = 0 := by
          rcases oneS_cases B y.1.length with ⟨_, q⟩ | ⟨q, _⟩
          · rw [← hO] at q; exact q
          · rw [← hO] at q; exact (he q).elim
        refine SimS.stop ?_
        rw [hz, Int.add_zero]; rfl
      · rw [if_neg he, if_neg he]
        obtain ⟨k1, k2⟩ := hnext (Decidable.not_not.1 he)
        have k3 := k1.2.1
        have k4 := k1.2.2
        simp only at k3 k4
        rw [if_pos (by omega)]
        exact SimS.next ⟨rfl, k1⟩
  · simp only
    rw [if_neg hlt, if_neg hlt]
    exact SimS.stop rfl
end Go.Proofs.Ytmkbnmjhkghdjaa
