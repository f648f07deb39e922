import Derived.Test.YtejppifgljjnmaaA9
set_option linter.unusedVariables false
set_option linter.unusedSimpArgs false
namespace Go.Proofs.Ytejppifgljjnmaa
open Go.RowKit

set_option maxHeartbeats 2000000 in
theorem refDue_any (w : World) (v : Value) (ts : List Tm) (now : Int) (hv : IsT w v ts) (hsz : ts.length ≤ 1100) :
    Calls Try.prog 15 #[v, .int .i64 now] w fun e w' => ∃ v1 v2, e = .returned (.tuple #[v1, v2]) ∧ OwnT w' w.heap.size v1 (dueR ts now) ∧ OwnT w' w.heap.size v2 (restR ts now) ∧ Below w.heap.size w w' := by
  cases hV : validB ts
  · have HE : Hid (dueR ts now = [] ∧ restR ts now = []) := by show _ ∧ _; simp [dueR, restR, withoutR, hV]
    go_enter Try.func15, Try.ntmps15
    go_wp2_with (go_at_call 21; refine (refValid_any _ _ ts hv).mono ?_; rw [hV]; rintro e w1 ⟨rfl, hb1⟩)
    go_ret2
    exact ⟨.slice none 0 0, .slice none 0 0, rfl, by rw [HE.out.1]; exact OwnL.nil _ _, by rw [HE.out.2]; exact OwnL.nil _ _, hb1⟩
  have HE : Hid (dueR ts now = ts.filter (fun t => !decide (now < t.at_)) ∧ restR ts now = ts.filter (fun t => !decide (t.at_ ≤ now))) := by show _ ∧ _; simp [dueR, restR, withoutR, hV]
  have hv0 := hv
  obtain ⟨A, c, rfl, hn, _, hr⟩ := hv
  clear hn
  go_enter Try.func15, Try.ntmps15
  go_wp2_with (go_at_call 21; refine (refValid_any _ _ ts hv0).mono ?_; rw [hV]; rintro e w2 ⟨rfl, hb⟩)
  go_loopw [6, 7, 8] (fun v u i wr => ∃ k : Nat, k ≤ ts.length ∧ i = .int .i64 k ∧ OwnT wr w.heap.size v ((ts.take k).filter fun t => !decide (now < t.at_)) ∧ OwnT wr w.heap.size u ((ts.take k).filter fun t => !decide (t.at_ ≤ now)) ∧ Apart v u ∧ Below w.heap.size w wr) (fun _ _ i _ => ts.length - (intOf i).toNat)
  case atStart => exact ⟨0, Nat.zero_le _, rfl, by simpa using OwnL.nil _ _, by simpa using OwnL.nil _ _, Apart.nil _, hb⟩
  case round =>
    clear hb hv0
    obtain ⟨k, hk, rfl, hown, hown', hap, hbw⟩ := hrel
    by_cases hlt : k < ts.length
    · obtain ⟨x, hx⟩ := get_lt hlt
      obtain ⟨b, o, rfl, h0, h1, h2⟩ := RdT (hr.below hbw) hx
      have hx' := Lib.hid hx; clear hx
      have hlf : ((ts.take k).filter fun t => !decide (now < t.at_)).length ≤ k := Nat.le_trans (List.length_filter_le _ _) (by simp; omega)
      have hlg : ((ts.take k).filter fun t => !decide (t.at_ ≤ now)).length ≤ k := Nat.le_trans (List.length_filter_le _ _) (by simp; omega)
      have HLF := Lib.hid hlf; clear hlf
      have HLG := Lib.hid hlg; clear hlg
      by_cases hle2 : x.at_ ≤ now
      · go_wp2_with (at_builtin; refine wpList_app1n ET28 Tm.enc wr rfl (.tmp 25) (.tmp 30) rfl w.heap.size u6 _ rfl hown x _ _ rfl rfl rfl (Tm.enc_one x) (by have := HLF.out; omega) (by simp only [maxLen]; have := HLF.out; omega) hbw.size ?_; intro v3 w6 hown3 hb6 hg6 hat6)
        go_roundw
        case rel =>
          refine ⟨k + 1, by omega, by go_num, ?_, ?_, hap.next hat6 hown', hbw.trans hb6⟩
          · rw [take_filter _ hx'.out, if_pos (by simp; omega)]
            exact hown3
          · rw [take_filter _ hx'.out, if_neg (by simp; omega), List.append_nil]
            exact (hown'.alloc _).apart hap hg6
        case measure => simp [intOf]; omega
      · go_wp2_with (at_builtin; refine wpList_app1n ET28 Tm.enc wr rfl (.tmp 32) (.tmp 37) rfl w.heap.size u7 _ rfl hown' x _ _ rfl rfl rfl (Tm.enc_one x) (by have := HLG.out; omega) (by simp only [maxLen]; have := HLG.out; omega) hbw.size ?_; intro v3 w6 hown3 hb6 hg6 hat6)
        go_roundw
        case rel =>
          refine ⟨k + 1, by omega, by go_num, ?_, ?_, (hap.symm.next hat6 hown).symm, hbw.trans hb6⟩
          · rw [take_filter _ hx'.out, if_neg (by simp; omega), List.append_nil]
            exact (hown.alloc _).apart hap.symm hg6
          · rw [take_filter _ hx'.out, if_pos (by simp; omega)]
            exact hown3
        case measure => simp [intOf]; omega
    · have hkk : k = ts.length := by omega
      subst hkk
      rw [List.take_length] at hown hown'
      go_wp2
      go_ret2
      exact ⟨u6, u7, rfl, by rw [HE.out.1]; exact hown, by rw [HE.out.2]; exact hown', hbw⟩

set_option maxHeartbeats 2000000 in
theorem refCancel_any (w : World) (v : Value) (ts : List Tm) (own kind : Int) (hv : IsT w v ts) (hsz : ts.length ≤ 1100) :
    Calls Try.prog 28 #[v, .int .i64 own, .int .i64 kind] w fun e w' => ∃ v1, e = .returned v1 ∧ OwnT w' w.heap.size v1 (cancelR ts own kind) ∧ Below w.heap.size w w' := by
  cases hV : validB ts
  · have HE : Hid (cancelR ts own kind = []) := by show _ = _; simp [cancelR, withoutR, hV]
    go_enter Try.func28, Try.ntmps28
    go_wp2_with (go_at_call 21; refine (refValid_any _ _ ts hv).mono ?_; rw [hV]; rintro e w1 ⟨rfl, hb1⟩)
    go_ret
    exact ⟨.slice none 0 0, rfl, by rw [HE.out]; exact OwnL.nil _ _, hb1⟩
  have HE : Hid (cancelR ts own kind = ts.filter fun t => !(t.owner == own && t.kind == kind)) := by show _ = _; simp [cancelR, withoutR, hV]
  have hv0 := hv
  obtain ⟨A, c, rfl, hn, _, hr⟩ := hv
  clear hn
  go_enter Try.func28, Try.ntmps28
  go_wp2_with (go_at_call 21; refine (refValid_any _ _ ts hv0).mono ?_; rw [hV]; rintro e w2 ⟨rfl, hb⟩)
  go_loopw [7, 8] (fun v i wr => ∃ k : Nat, k ≤ ts.length ∧ i = .int .i64 k ∧ OwnT wr w.heap.size v ((ts.take k).filter fun t => !(t.owner == own && t.kind == kind)) ∧ Below w.heap.size w wr) (fun _ i _ => ts.length - (intOf i).toNat)
  case atStart => exact ⟨0, Nat.zero_le _, rfl, by simpa using OwnL.nil _ _, hb⟩
  case round =>
    clear hb hv0
    obtain ⟨k, hk, rfl, hown, hbw⟩ := hrel
    by_cases hlt : k < ts.length
    · obtain ⟨x, hx⟩ := get_lt hlt
      obtain ⟨b, o, rfl, h0, h1, h2⟩ := RdT (hr.below hbw) hx
      have hx' := Lib.hid hx; clear hx
      have hlf : ((ts.take k).filter fun t => !(t.owner == own && t.kind == kind)).length ≤ k := Nat.le_trans (List.length_filter_le _ _) (by simp; omega)
      have HLF := Lib.hid hlf; clear hlf
      by_cases g1 : x.owner = own
      · by_cases g2 : x.kind = kind
        · have e1 : (x.owner != own) = false := by simp [g1]
          have e2 : (x.kind != kind) = false := by simp [g2]
          have hg : Hid ((x.owner == own && x.kind == kind) = true) := by show _ = _; simp [g1, g2]
          clear g1 g2
          go_wp2
          go_roundw
          case rel =>
            refine ⟨k + 1, by omega, by go_num, ?_, hbw⟩
            rw [take_filter _ hx'.out, if_neg (by rw [hg.out]; decide), List.append_nil]
            exact hown
          case measure => simp [intOf]; omega
        · have e1 : (x.owner != own) = false := by simp [g1]
          have e2 : (x.kind != kind) = true := by simpa using g2
          have hg : Hid ((x.owner == own && x.kind == kind) = false) := by show _ = _; simp [g2]
          clear g1 g2
          go_wp2_with (at_builtin; refine wpList_app1 ET28 Tm.enc wr rfl (.tmp 34) (.tmp 39) rfl w.heap.size u7 _ rfl hown x _ _ rfl rfl rfl (Tm.enc_one x) (by have := HLF.out; omega) (by simp only [maxLen]; have := HLF.out; omega) hbw.size ?_; intro v3 w6 hown3 hb6 hg6)
          go_roundw
          case rel =>
            refine ⟨k + 1, by omega, by go_num, ?_, hbw.trans hb6⟩
            rw [take_filter _ hx'.out, if_pos (by rw [hg.out]; rfl)]
            exact hown3
          case measure => simp [intOf]; omega
      · have e1 : (x.owner != own) = true := by simpa using g1
        have hg : Hid ((x.owner == own && x.kind == kind) = false) := by show _ = _; simp [g1]
        clear g1
        go_wp2_with (at_builtin; refine wpList_app1 ET28 Tm.enc wr rfl (.tmp 34) (.tmp 39) rfl w.heap.size u7 _ rfl hown x _ _ rfl rfl rfl (Tm.enc_one x) (by have := HLF.out; omega) (by simp only [maxLen]; have := HLF.out; omega) hbw.size ?_; intro v3 w6 hown3 hb6 hg6)
        go_roundw
        case rel =>
          refine ⟨k + 1, by omega, by go_num, ?_, hbw.trans hb6⟩
          rw [take_filter _ hx'.out, if_pos (by rw [hg.out]; rfl)]
          exact hown3
        case measure => simp [intOf]; omega
    · have hkk : k = ts.length := by omega
      subst hkk
      rw [List.take_length] at hown
      go_wp2
      go_ret
      exact ⟨u7, rfl, by rw [HE.out]; exact hown, hbw⟩
end Go.Proofs.Ytejppifgljjnmaa
