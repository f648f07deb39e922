import Derived.Test.YtejppifgljjnmaaA1
set_option linter.unusedVariables false
set_option linter.unusedSimpArgs false
namespace Go.Proofs.Ytejppifgljjnmaa
open Go.RowKit

abbrev Tm.val (t : Tm) : Value := .agg #[.int .i64 t.at_, .int .i64 t.owner, .int .i64 t.kind]
def timelyB (t : Tm) : Bool := decide (0 ≤ t.at_) && decide (t.at_ ≤ 1099511627776)
def pre (t : Tm) (ts : List Tm) : List Tm := ts.takeWhile fun x => decide (x.at_ ≤ t.at_)
def post (t : Tm) (ts : List Tm) : List Tm := ts.dropWhile fun x => decide (x.at_ ≤ t.at_)
def insT (t : Tm) (ts : List Tm) : List Tm := pre t ts ++ t :: post t ts
def addR (ts : List Tm) (t : Tm) : List Tm × Int := if (validB ts && timelyB t) = true then (if 1000 ≤ ts.length then ([], 10) else (insT t ts, 0)) else ([], 2)

set_option maxHeartbeats 400000 in
theorem timely_any (w : World) (t : Tm) :
    Calls Try.prog 37 #[t.val] w fun e w' => e = .returned (.bool (timelyB t)) ∧ Below w.heap.size w w' := by
  have HE : Hid (timelyB t = (decide (0 ≤ t.at_) && decide (t.at_ ≤ 1099511627776))) := rfl
  go_enter Try.func37, Try.ntmps37
  go_wp2
  all_goals go_ret
  all_goals exact ⟨ret_bool (by rw [HE.out]; simp; try omega), (Below.refl _ _).alloc (Nat.le_refl _) _⟩

set_option maxHeartbeats 1000000 in
set_option maxRecDepth 100000 in
theorem add_any (w : World) (v : Value) (ts : List Tm) (t : Tm) (hv : IsT w v ts) (hsz : ts.length ≤ 1100) :
    Calls Try.prog 22 #[v, t.val] w fun e w' => ∃ v', e = .returned (.tuple #[v', .int .u8 (addR ts t).2]) ∧ OwnT w' w.heap.size v' (addR ts t).1 ∧ Below w.heap.size w w' := by
  have hv1 := hv.alloc (.cells #[.int .i64 t.at_, .int .i64 t.owner, .int .i64 t.kind] 28)
  cases hV : validB ts
  · have HE : Hid (addR ts t = ([], 2)) := by show _ = _; simp [addR, hV]
    go_enter Try.func22, Try.ntmps22
    go_wp2_with (go_at_call 11; refine (valid_any _ _ ts hv1).mono ?_; rw [hV]; rintro e w1 ⟨rfl, hb1⟩)
    go_ret2
    exact ⟨.slice none 0 0, ret2 rfl (by rw [HE.out]; rfl), by rw [HE.out]; exact OwnL.nil _ _, ((Below.refl _ _).alloc (Nat.le_refl _) _).trans (hb1.mono (by simp))⟩
  cases hT : timelyB t
  · have HE : Hid (addR ts t = ([], 2)) := by show _ = _; simp [addR, hT]
    go_enter Try.func22, Try.ntmps22
    go_wp2_with (go_at_call 11; refine (valid_any _ _ ts hv1).mono ?_; rw [hV]; rintro e w1 ⟨rfl, hb1⟩; obtain ⟨hc1, hf1⟩ := bcell hb1)
    refine (timely_any _ t).mono ?_
    rw [hT]
    rintro e w2 ⟨rfl, hb2⟩
    go_wp2
    go_ret2
    exact ⟨.slice none 0 0, ret2 rfl (by rw [HE.out]; rfl), by rw [HE.out]; exact OwnL.nil _ _, (((Below.refl _ _).alloc (Nat.le_refl _) _).trans (hb1.mono (by simp))).trans (hb2.mono (by have := hb1.size; simp at this; omega))⟩
  by_cases h1000 : 1000 ≤ ts.length
  · have HE : Hid (addR ts t = ([], 10)) := by show _ = _; simp [addR, hT, hV, h1000]
    go_enter Try.func22, Try.ntmps22
    go_wp2_with (go_at_call 11; refine (valid_any _ _ ts hv1).mono ?_; rw [hV]; rintro e w1 ⟨rfl, hb1⟩; obtain ⟨hc1, hf1⟩ := bcell hb1)
    refine (timely_any _ t).mono ?_
    rw [hT]
    rintro e w2 ⟨rfl, hb2⟩
    obtain ⟨A, c, rfl, hn, hcap, hr⟩ := hv
    clear hn hcap hr hv1 hc1 hf1
    go_wp2
    go_ret2
    exact ⟨.slice none 0 0, ret2 rfl (by rw [HE.out]; rfl), by rw [HE.out]; exact OwnL.nil _ _, (((Below.refl _ _).alloc (Nat.le_refl _) _).trans (hb1.mono (by simp))).trans (hb2.mono (by have := hb1.size; simp at this; omega))⟩
  have HE : Hid (addR ts t = (insT t ts, 0)) := by show _ = _; simp [addR, hT, hV, h1000]
  go_enter Try.func22, Try.ntmps22
  go_wp2_with (go_at_call 11; refine (valid_any _ _ ts hv1).mono ?_; rw [hV]; rintro e w1 ⟨rfl, hb1⟩; obtain ⟨hc1, hf1⟩ := bcell hb1)
  refine (timely_any _ t).mono ?_
  rw [hT]
  rintro e w2 ⟨rfl, hb2⟩
  have hz1 : w.heap.size < w1.heap.size := by have := hb1.size; simp at this; omega
  have hb : Below w.heap.size w w2 := (((Below.refl _ _).alloc (Nat.le_refl _) _).trans (hb1.mono (by simp))).trans (hb2.mono (by omega))
  have hB := ((Blk.new w 28 #[.int .i64 t.at_, .int .i64 t.owner, .int .i64 t.kind]).ext hb1).ext hb2
  have hv2 := (hv1.below hb1).below hb2
  have hz2 : w.heap.size < w2.heap.size := hB.lt
  clear hc1 hf1 hb1 hb2 hv1 hv hz1
  obtain ⟨A, c, rfl, hn, hcap, hr⟩ := hv2
  clear hn
  have hBc := hB.cell
  go_upto_block 0 with fail
  go_cut [6] (fun p wx => ∃ X n : Nat, X ≤ ts.length ∧ p = .int .i64 X ∧ Hid (pre t ts = ts.take X ∧ post t ts = ts.drop X) ∧ wx = w2.drewN n)
  case first =>
    go_wp2_with fail
    go_loopw [6, 7, 24] (fun p q i wr => ∃ k : Nat, ∃ n : Nat, k ≤ ts.length ∧ i = .int .i64 k ∧ p = .int .i64 ts.length ∧ wr = w2.drewN n ∧ Hid (pre t ts = ts.take k ++ pre t (ts.drop k) ∧ post t ts = post t (ts.drop k))) (fun _ _ i _ => ts.length - (intOf i).toNat)
    case atStart => exact ⟨0, 0, Nat.zero_le _, rfl, rfl, rfl, by show _ ∧ _; simp⟩
    case round =>
      obtain ⟨k, n, hk, rfl, rfl, rfl, hF⟩ := hrel
      by_cases hlt : k < ts.length
      · obtain ⟨x, hx⟩ := get_lt hlt
        obtain ⟨b, o, rfl, h0, h1, h2⟩ := RdT hr hx
        have hx' := Lib.hid hx; clear hx
        go_wp2
        refine wp_undraw (by kernel_rfl) (by kernel_rfl) (by kernel_rfl) ?_
        go_wp2
        all_goals refine ⟨rfl, rfl, ?_⟩
        all_goals go_wp2
        · go_meet
          refine ⟨k, n + 1, hk, rfl, ?_, rfl⟩
          have hgt : t.at_ < x.at_ := by assumption
          obtain ⟨e1, e2⟩ := hF.out
          refine ⟨?_, ?_⟩
          · rw [e1, drop_get hx'.out, pre, List.takeWhile_cons_of_neg (by simp; omega), List.append_nil]
          · rw [e2, drop_get hx'.out, post, List.dropWhile_cons_of_neg (by simp; omega)]
        · go_roundw
          case rel =>
            have hle : x.at_ ≤ t.at_ := by assumption
            refine ⟨k + 1, n + 1, by omega, by go_num, rfl, rfl, ?_⟩
            obtain ⟨e1, e2⟩ := hF.out
            refine ⟨?_, ?_⟩
            · rw [e1, drop_get hx'.out, pre, List.takeWhile_cons_of_pos (by simp; omega), List.take_add_one, hx'.out]
              simp [pre]
            · rw [e2, drop_get hx'.out, post, List.dropWhile_cons_of_pos (by simp; omega)]
              rfl
          case measure => simp [intOf]; omega
      · go_wp2
        go_meet
        obtain ⟨e1, e2⟩ := hF.out
        refine ⟨ts.length, n, Nat.le_refl _, rfl, ?_, rfl⟩
        have hd : ts.drop k = [] := List.drop_eq_nil_of_le (by omega)
        rw [hd] at e1 e2
        refine ⟨?_, ?_⟩
        · rw [e1, List.take_of_length_le (by omega)]; simp [pre]
        · rw [e2]; simp [post]
  case rest =>
    obtain ⟨X, n, hX, rfl, hF, rfl⟩ := hcut
    have hlX : (ts.take X).length = X := by simp; omega
    have hml : ts.length ≤ maxLen := by simp only [maxLen]; omega
    have HM := Lib.hid hml; clear hml
    have hI1 := isL_take hr hX hcap HM.out
    have hI2 := isL_drop Tm.enc_length hr hX hcap HM.out
    go_wp2_with (first
      | (at_make; refine wpList_make0 ET28 Tm.enc _ rfl _ _ rfl w2.heap.size _ _ _ (ts.length + 1) rfl rfl (by simp) (by omega) (by simp only [maxLen]; omega) (Nat.le_refl _) ?_; intro v1 w3 hown1 hb3 hg3; replace hb3 := unN hb3)
      | (at_builtin; refine wpList_appL ET28 Tm.enc Tm.enc_length Tm.enc_one _ rfl (.tmp 41) (.tmp 44) rfl w2.heap.size v1 [] rfl hown1 (ts.take X) _ rfl (hI1.below hb3) (by simp; omega) (by simp [maxLen]; omega) hb3.size ?_; intro v2 w4 hown2 hb4 hg4; obtain ⟨hb5, hc5, hz5⟩ : Below w2.heap.size w2 w4 ∧ (∀ i, w4.cell? ⟨w.heap.size, i, none⟩ = #[Value.int .i64 t.at_, Value.int .i64 t.owner, Value.int .i64 t.kind][i]?) ∧ w2.heap.size ≤ w4.heap.size := ⟨hb3.trans hb4, (hB.ext (hb3.trans hb4)).cell, (hb3.trans hb4).size⟩)
      | (at_builtin; refine wpList_app1 ET28 Tm.enc _ rfl (.tmp 46) (.tmp 48) rfl w2.heap.size v2 ([] ++ ts.take X) rfl hown2 t _ _ rfl rfl rfl (Tm.enc_one t) (by simp; omega) (by simp [maxLen]; omega) hz5 ?_; intro v3 w6 hown3 hb6 hg6; replace hb6 := hb5.trans hb6)
      | (at_builtin; refine wpList_appL ET28 Tm.enc Tm.enc_length Tm.enc_one _ rfl (.tmp 50) (.tmp 53) rfl w2.heap.size v3 _ rfl hown3 (ts.drop X) _ rfl (hI2.below hb6) (by simp; omega) (by simp [maxLen]; omega) hb6.size ?_; intro v4 w7 hown4 hb7 hg7; replace hb7 := hb6.trans hb7))
    all_goals
      go_ret2
      obtain ⟨e1, e2⟩ := hF.out
      refine ⟨v4, ret2 rfl (by rw [HE.out]; rfl), ?_, hb.trans (hb7.mono (by omega))⟩
      rw [HE.out]
      show OwnT w7 w.heap.size v4 (insT t ts)
      rw [insT, e1, e2]
      have := hown4.base_le (b := w.heap.size) (by omega)
      simpa using this
end Go.Proofs.Ytejppifgljjnmaa
