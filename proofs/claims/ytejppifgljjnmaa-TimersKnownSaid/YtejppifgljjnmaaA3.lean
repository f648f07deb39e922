import Derived.Test.YtejppifgljjnmaaA2
set_option linter.unusedVariables false
set_option linter.unusedSimpArgs false
namespace Go.Proofs.Ytejppifgljjnmaa
open Go.RowKit

set_option maxHeartbeats 400000 in
theorem copy_any (w : World) (v : Value) (ts : List Tm) (hv : IsT w v ts) (hsz : ts.length ≤ 1100) :
    Calls Try.prog 13 #[v] w fun e w' => ∃ v', e = .returned v' ∧ OwnT w' w.heap.size v' ts ∧ Below w.heap.size w w' := by
  go_enter Try.func13, Try.ntmps13
  go_wp2_with (at_builtin; refine wpList_appL ET28 Tm.enc Tm.enc_length Tm.enc_one _ rfl (.tmp 4) (.tmp 5) rfl w.heap.size (.slice none 0 0) [] rfl (OwnL.nil _ _) ts _ rfl hv (by simp; omega) (by simp [maxLen]; omega) (Nat.le_refl _) ?_; intro v2 w4 hown2 hb4 hg4)
  go_ret
  exact ⟨v2, rfl, by simpa using hown2, hb4⟩

theorem filter_sorted (t : Tm) : ∀ (ts : List Tm) (last : Int), vf last ts = true → ts.filter (fun x => decide (x.at_ ≤ t.at_)) = pre t ts ∧ ts.filter (fun x => decide (t.at_ < x.at_)) = post t ts ∧ (t.at_ < last → pre t ts = [])
  | [], _, _ => by simp [pre, post]
  | x :: r, last, h => by
    simp only [vf, Bool.and_eq_true, decide_eq_true_eq] at h
    obtain ⟨i1, i2, i3⟩ := filter_sorted t r x.at_ h.2
    by_cases hx : x.at_ ≤ t.at_
    · have hn : ¬ t.at_ < x.at_ := by omega
      refine ⟨?_, ?_, fun hl => by omega⟩
      · rw [List.filter_cons_of_pos (by simpa using hx), i1]; simp [pre, hx]
      · rw [List.filter_cons_of_neg (by simpa using hn), i2]; simp [post, hx]
    · have hn : t.at_ < x.at_ := by omega
      have i3' := i3 hn
      refine ⟨?_, ?_, fun hl => by simp [pre, hx]⟩
      · rw [List.filter_cons_of_neg (by simpa using hx), i1, i3']; simp [pre, hx]
      · rw [List.filter_cons_of_pos (by simpa using hn), i2]
        have h5 : r = post t r := by
          have h6 : pre t r ++ post t r = r := List.takeWhile_append_dropWhile
          rw [i3'] at h6; simpa using h6.symm
        rw [← h5]; simp [post, hx]
theorem valid_len {ts : List Tm} (h : validB ts = true) : ts.length ≤ 1000 := by
  simp only [validB, Bool.and_eq_true, decide_eq_true_eq] at h; exact h.1
theorem valid_vf {ts : List Tm} (h : validB ts = true) : vf 0 ts = true := by
  simp only [validB, Bool.and_eq_true, decide_eq_true_eq] at h; exact h.2
theorem ins_sorted {t : Tm} {ts : List Tm} (h : validB ts = true) : insT t ts = ts.filter (fun x => decide (x.at_ ≤ t.at_)) ++ [t] ++ ts.filter (fun x => decide (t.at_ < x.at_)) := by
  obtain ⟨i1, i2, _⟩ := filter_sorted t ts 0 (valid_vf h)
  rw [i1, i2, insT]; simp
theorem take_filter {α : Type} {l : List α} {k : Nat} {x : α} (p : α → Bool) (h : l[k]? = some x) : (l.take (k+1)).filter p = (l.take k).filter p ++ (if p x then [x] else []) := by
  rw [List.take_add_one, h, List.filter_append]
  cases hp : p x <;> simp [hp]

set_option maxRecDepth 100000 in
set_option maxHeartbeats 2000000 in
theorem refAdd_any (w : World) (v : Value) (ts : List Tm) (t : Tm) (hv : IsT w v ts) (hsz : ts.length ≤ 1100) :
    Calls Try.prog 23 #[v, t.val] w fun e w' => ∃ v', e = .returned (.tuple #[v', .int .u8 (addR ts t).2]) ∧ OwnT w' w.heap.size v' (addR ts t).1 ∧ Below w.heap.size w w' := by
  have hv1 := hv.alloc (.cells #[.int .i64 t.at_, .int .i64 t.owner, .int .i64 t.kind] 28)
  cases hV : validB ts
  · have HE : Hid (addR ts t = ([], 2)) := by show _ = _; simp [addR, hV]
    go_enter Try.func23, Try.ntmps23
    go_wp2_with (go_at_call 21; refine (refValid_any _ _ ts hv1).mono ?_; rw [hV]; rintro e w1 ⟨rfl, hb1⟩)
    go_ret2
    exact ⟨.slice none 0 0, ret2 rfl (by rw [HE.out]; rfl), by rw [HE.out]; exact OwnL.nil _ _, ((Below.refl _ _).alloc (Nat.le_refl _) _).trans (hb1.mono (by simp))⟩
  have hl1000 := valid_len hV
  cases hT : timelyB t
  · have HE : Hid (addR ts t = ([], 2)) := by show _ = _; simp [addR, hT]
    have hT2 : ¬ (0 ≤ t.at_ ∧ t.at_ ≤ 1099511627776) := by simp [timelyB] at hT; omega
    have HT := Lib.hid hT; clear hT
    go_enter Try.func23, Try.ntmps23
    go_wp2_with (go_at_call 21; refine (refValid_any _ _ ts hv1).mono ?_; rw [hV]; rintro e w1 ⟨rfl, hb1⟩; have hc1 := ((Blk.new w 28 #[.int .i64 t.at_, .int .i64 t.owner, .int .i64 t.kind]).ext hb1).cell)
    all_goals go_ret2
    all_goals exact ⟨.slice none 0 0, ret2 rfl (by rw [HE.out]; rfl), by rw [HE.out]; exact OwnL.nil _ _, (((Below.refl _ _).alloc (Nat.le_refl _) _).trans (hb1.mono (by simp)))⟩
  have hT2 : 0 ≤ t.at_ ∧ t.at_ ≤ 1099511627776 := by simp [timelyB] at hT; omega
  obtain ⟨hT3, hT4⟩ := hT2
  have HT := Lib.hid hT; clear hT
  by_cases h1000 : ts.length = 1000
  · have HE : Hid (addR ts t = ([], 10)) := by show _ = _; simp [addR, HT.out, hV, h1000]
    have HL := Lib.hid h1000
    have hle : ((ts.length : Int) == 1000) = true := by simp; omega
    clear h1000
    obtain ⟨A, c, rfl, hn, hcap, hr⟩ := hv
    clear hn
    go_enter Try.func23, Try.ntmps23
    go_wp2_with (go_at_call 21; refine (refValid_any _ _ ts hv1).mono ?_; rw [hV]; rintro e w1 ⟨rfl, hb1⟩; have hc1 := ((Blk.new w 28 #[.int .i64 t.at_, .int .i64 t.owner, .int .i64 t.kind]).ext hb1).cell)
    go_ret2
    exact ⟨.slice none 0 0, ret2 rfl (by rw [HE.out]; rfl), by rw [HE.out]; exact OwnL.nil _ _, (((Below.refl _ _).alloc (Nat.le_refl _) _).trans (hb1.mono (by simp)))⟩
  have HE : Hid (addR ts t = (insT t ts, 0)) := by show _ = _; simp [addR, HT.out, hV]; omega
  have hVV := Lib.hid hV
  have hle : ((ts.length : Int) == 1000) = false := by simp; omega
  clear h1000
  obtain ⟨A, c, rfl, hn, hcap, hr0⟩ := hv
  clear hn
  go_enter Try.func23, Try.ntmps23
  go_wp2_with (go_at_call 21; refine (refValid_any _ _ ts hv1).mono ?_; rw [hV]; rintro e w2 ⟨rfl, hb1⟩; obtain ⟨hb, hB⟩ : Below w.heap.size w w2 ∧ Blk w2 w.heap.size 28 #[.int .i64 t.at_, .int .i64 t.owner, .int .i64 t.kind] := ⟨(((Below.refl _ _).alloc (Nat.le_refl _) _).trans (hb1.mono (by simp))), ((Blk.new w 28 #[.int .i64 t.at_, .int .i64 t.owner, .int .i64 t.kind]).ext hb1)⟩; have hr := hr0.below hb; have hz2 := hB.lt; have hBc := hB.cell; clear hb1 hv1 hr0 hV)
  go_loopw [6, 7] (fun v i wr => ∃ k : Nat, k ≤ ts.length ∧ i = .int .i64 k ∧ OwnT wr w2.heap.size v ((ts.take k).filter fun x => decide (x.at_ ≤ t.at_)) ∧ Below w2.heap.size w2 wr) (fun _ i _ => ts.length - (intOf i).toNat)
  case atStart => exact ⟨0, Nat.zero_le _, rfl, by simpa using OwnL.nil _ _, Below.refl _ _⟩
  case round =>
    obtain ⟨k, hk, rfl, hown, hbw⟩ := hrel
    have hBr := (hB.ext hbw).cell
    by_cases hlt : k < ts.length
    · obtain ⟨x, hx⟩ := get_lt hlt
      obtain ⟨b, o, rfl, h0, h1, h2⟩ := RdT (hr.below hbw) hx
      have hx' := Lib.hid hx; clear hx
      have hlf : ((ts.take k).filter fun x => decide (x.at_ ≤ t.at_)).length ≤ k := Nat.le_trans (List.length_filter_le _ _) (by simp; omega)
      have HLF := Lib.hid hlf; clear hlf
      go_wp2
      refine wp_undraw (by kernel_rfl) (by kernel_rfl) (by kernel_rfl) ?_
      go_wp2_with fail
      refine ⟨rfl, rfl, ?_⟩
      by_cases hle2 : x.at_ ≤ t.at_
      · go_wp2_with (at_builtin; refine wpList_app1 ET28 Tm.enc wr.drew rfl (.tmp 39) (.tmp 44) rfl w2.heap.size u6 _ rfl hown.drew x _ _ rfl rfl rfl (Tm.enc_one x) (by have := HLF.out; omega) (by simp only [maxLen]; have := HLF.out; omega) hbw.size ?_; intro v3 w6 hown3 hb6 hg6)
        go_roundw
        case rel =>
          refine ⟨k + 1, by omega, by go_num, ?_, hbw.trans (un1 hb6)⟩
          rw [take_filter _ hx'.out, if_pos (by simpa using hle2)]
          exact hown3
        case measure => simp [intOf]; omega
      · go_wp2
        go_roundw
        case rel =>
          refine ⟨k + 1, by omega, by go_num, ?_, hbw.drew⟩
          rw [take_filter _ hx'.out, if_neg (by simp; omega), List.append_nil]
          exact hown
        case measure => simp [intOf]; omega
    · have hkk : k = ts.length := by omega
      subst hkk
      rw [List.take_length] at hown
      obtain ⟨wa, rfl⟩ : ∃ wo : World, wo = wr := ⟨_, rfl⟩
      have hlf : (ts.filter fun x => decide (x.at_ ≤ t.at_)).length ≤ ts.length := List.length_filter_le _ _
      have HLF := Lib.hid hlf; clear hlf
      clear hk hlt
      go_wp2_with (at_builtin; refine wpList_app1 ET28 Tm.enc wa rfl (.tmp 46) (.tmp 48) rfl w2.heap.size u6 _ rfl hown t _ _ rfl rfl rfl (Tm.enc_one t) (by have := HLF.out; omega) (by simp only [maxLen]; have := HLF.out; omega) hbw.size ?_; intro v3 w6 hown3 hb6 hg6; replace hb6 := hbw.trans hb6; clear hBr hg6 hown hbw)
      go_loopw [6, 8] (fun v i wr => ∃ k : Nat, k ≤ ts.length ∧ i = .int .i64 k ∧ OwnT wr w2.heap.size v ((ts.filter fun x => decide (x.at_ ≤ t.at_)) ++ [t] ++ (ts.take k).filter fun x => decide (t.at_ < x.at_)) ∧ Below w2.heap.size w2 wr) (fun _ i _ => ts.length - (intOf i).toNat)
      case atStart => exact ⟨0, Nat.zero_le _, rfl, by simpa using hown3, hb6⟩
      case round =>
        obtain ⟨k, hk, rfl, hown, hbw⟩ := hrel
        have hBr := (hB.ext hbw).cell
        by_cases hlt : k < ts.length
        · obtain ⟨x, hx⟩ := get_lt hlt
          obtain ⟨b, o, rfl, h0, h1, h2⟩ := RdT (hr.below hbw) hx
          have hx' := Lib.hid hx; clear hx
          have hlf : ((ts.take k).filter fun x => decide (t.at_ < x.at_)).length ≤ k := Nat.le_trans (List.length_filter_le _ _) (by simp; omega)
          have HLG := Lib.hid hlf; clear hlf
          go_wp2
          refine wp_undraw (by kernel_rfl) (by kernel_rfl) (by kernel_rfl) ?_
          go_wp2_with fail
          refine ⟨rfl, rfl, ?_⟩
          by_cases hle2 : t.at_ < x.at_
          · go_wp2_with (at_builtin; refine wpList_app1 ET28 Tm.enc wr.drew rfl (.tmp 64) (.tmp 69) rfl w2.heap.size u6 _ rfl hown.drew x _ _ rfl rfl rfl (Tm.enc_one x) (by simp; have := HLF.out; have := HLG.out; omega) (by simp [maxLen]; have := HLF.out; have := HLG.out; omega) hbw.size ?_; intro v4 w7 hown4 hb7 hg7)
            go_roundw
            case rel =>
              refine ⟨k + 1, by omega, by go_num, ?_, hbw.trans (un1 hb7)⟩
              rw [take_filter _ hx'.out, if_pos (by simpa using hle2), ← List.append_assoc]
              exact hown4
            case measure => simp [intOf]; omega
          · go_wp2
            go_roundw
            case rel =>
              refine ⟨k + 1, by omega, by go_num, ?_, hbw.drew⟩
              rw [take_filter _ hx'.out, if_neg (by simp; omega), List.append_nil]
              exact hown
            case measure => simp [intOf]; omega
        · have hkk : k = ts.length := by omega
          subst hkk
          rw [List.take_length] at hown
          go_wp2
          go_ret2
          refine ⟨u6, ret2 rfl (by rw [HE.out]; rfl), ?_, hb.trans (hbw.mono (by omega))⟩
          rw [HE.out]
          show OwnT wr w.heap.size u6 (insT t ts)
          rw [ins_sorted hVV.out]
          exact hown.base_le (by omega)
end Go.Proofs.Ytejppifgljjnmaa
