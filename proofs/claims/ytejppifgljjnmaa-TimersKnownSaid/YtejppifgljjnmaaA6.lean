import Derived.Test.YtejppifgljjnmaaA5
set_option linter.unusedVariables false
set_option linter.unusedSimpArgs false
namespace Go.Proofs.Ytejppifgljjnmaa
open Go.RowKit

set_option maxHeartbeats 2000000 in
theorem without35 (w : World) (v : Value) (ts : List Tm) (p : Nat) (now : Int) (hv : IsT w v ts) (hsz : ts.length ≤ 1100) (hc : w.cell? ⟨p, 0, none⟩ = some (.int .i64 now)) :
    Calls Try.prog 34 #[v, .func (.func 35) #[] #[.pointer (some ⟨p, 0, none⟩)]] w fun e w' => ∃ v', e = .returned v' ∧ OwnT w' w.heap.size v' (withoutR ts (fun t => decide (now < t.at_))) ∧ Below w.heap.size w w' := by
  cases hV : validB ts
  · have HE : Hid (withoutR ts (fun t => decide (now < t.at_)) = []) := by show _ = _; simp [withoutR, hV]
    go_enter Try.func34, Try.ntmps34
    go_wp2_with (go_at_call 11; refine (valid_any _ _ ts hv).mono ?_; rw [hV]; rintro e w1 ⟨rfl, hb1⟩)
    go_ret
    exact ⟨.slice none 0 0, rfl, by rw [HE.out]; exact OwnL.nil _ _, hb1⟩
  have HE : Hid (withoutR ts (fun t => decide (now < t.at_)) = ts.filter fun t => !((fun t => decide (now < t.at_)) t)) := by show _ = _; simp [withoutR, hV]
  have hv0 := hv
  obtain ⟨A, c, rfl, hn, _, hr⟩ := hv
  clear hn
  have hpw := World.block_lt_of_cell? w _ hc
  have hcell : ∀ w1, Below w.heap.size w w1 → w1.cell? ⟨p, 0, none⟩ = some (.int .i64 now) := fun w1 hb => (hb.cell hpw).trans hc
  go_enter Try.func34, Try.ntmps34
  go_wp2_with (go_at_call 11; refine (valid_any _ _ ts hv0).mono ?_; rw [hV]; rintro e w2 ⟨rfl, hb⟩)
  go_loopw [5, 13] (fun v i wr => ∃ k : Nat, k ≤ ts.length ∧ i = .int .i64 k ∧ OwnT wr w.heap.size v ((ts.take k).filter fun t => !((fun t => decide (now < t.at_)) t)) ∧ Below w.heap.size w wr) (fun _ i _ => ts.length - (intOf i).toNat)
  case atStart => exact ⟨0, Nat.zero_le _, rfl, by simpa using OwnL.nil _ _, hb⟩
  case round =>
    clear hb hc hv0
    obtain ⟨k, hk, rfl, hown, hbw⟩ := hrel
    by_cases hlt : k < ts.length
    · obtain ⟨x, hx⟩ := get_lt hlt
      obtain ⟨b, o, rfl, h0, h1, h2⟩ := RdT (hr.below hbw) hx
      have hx' := Lib.hid hx; clear hx
      have hlf : ((ts.take k).filter fun t => !((fun t => decide (now < t.at_)) t)).length ≤ k := Nat.le_trans (List.length_filter_le _ _) (by simp; omega)
      have HLF := Lib.hid hlf; clear hlf
      have hb1 := hbw.alloc hbw.size (.cells #[.int .i64 x.at_, .int .i64 x.owner, .int .i64 x.kind] 28)
      have hc1 := hcell _ hb1
      have HC := Lib.hid hcell; clear hcell
      cases hg : (fun t => decide (now < t.at_)) x
      · have hg' := Lib.hid hg
        go_wp2_with (first
          | (go_at_call 35; refine (clo35 _ x p now hc1).mono ?_; rw [show _ = _ from hg'.out]; rintro e w3 ⟨rfl, hb3⟩; have hc3 := ((Blk.new wr 28 #[.int .i64 x.at_, .int .i64 x.owner, .int .i64 x.kind]).ext hb3).cell; have hown3 := (hown.alloc (.cells #[.int .i64 x.at_, .int .i64 x.owner, .int .i64 x.kind] 28)).below hb3; have hb4 := hb1.trans (hb3.mono (Nat.le_trans hbw.size (by simp))))
          | (at_builtin; refine wpList_app1 ET28 Tm.enc w3 rfl (.tmp 21) (.tmp 23) rfl w.heap.size u5 _ rfl hown3 x _ _ rfl rfl rfl (Tm.enc_one x) (by have := HLF.out; omega) (by simp only [maxLen]; have := HLF.out; omega) hb4.size ?_; intro v3 w6 hown6 hb6 hg6))
        go_roundw
        case rel =>
          refine ⟨k + 1, by omega, by go_num, ?_, hb4.trans hb6⟩
          rw [take_filter _ hx'.out, if_pos (by rw [hg'.out]; rfl)]
          exact hown6
        case measure => simp [intOf]; omega
      · have hg' := Lib.hid hg
        go_wp2_with (go_at_call 35; refine (clo35 _ x p now hc1).mono ?_; rw [show _ = _ from hg'.out]; rintro e w3 ⟨rfl, hb3⟩; have hown3 := (hown.alloc (.cells #[.int .i64 x.at_, .int .i64 x.owner, .int .i64 x.kind] 28)).below hb3; have hb4 := hb1.trans (hb3.mono (Nat.le_trans hbw.size (by simp))))
        go_roundw
        case rel =>
          refine ⟨k + 1, by omega, by go_num, ?_, hb4⟩
          rw [take_filter _ hx'.out, if_neg (by rw [hg'.out]; decide), List.append_nil]
          exact hown3
        case measure => simp [intOf]; omega
    · have hkk : k = ts.length := by omega
      subst hkk
      rw [List.take_length] at hown
      go_wp2
      go_ret
      exact ⟨u5, rfl, by rw [HE.out]; exact hown, hbw⟩
set_option maxHeartbeats 2000000 in
theorem without36 (w : World) (v : Value) (ts : List Tm) (p : Nat) (now : Int) (hv : IsT w v ts) (hsz : ts.length ≤ 1100) (hc : w.cell? ⟨p, 0, none⟩ = some (.int .i64 now)) :
    Calls Try.prog 34 #[v, .func (.func 36) #[] #[.pointer (some ⟨p, 0, none⟩)]] w fun e w' => ∃ v', e = .returned v' ∧ OwnT w' w.heap.size v' (withoutR ts (fun t => decide (t.at_ ≤ now))) ∧ Below w.heap.size w w' := by
  cases hV : validB ts
  · have HE : Hid (withoutR ts (fun t => decide (t.at_ ≤ now)) = []) := by show _ = _; simp [withoutR, hV]
    go_enter Try.func34, Try.ntmps34
    go_wp2_with (go_at_call 11; refine (valid_any _ _ ts hv).mono ?_; rw [hV]; rintro e w1 ⟨rfl, hb1⟩)
    go_ret
    exact ⟨.slice none 0 0, rfl, by rw [HE.out]; exact OwnL.nil _ _, hb1⟩
  have HE : Hid (withoutR ts (fun t => decide (t.at_ ≤ now)) = ts.filter fun t => !((fun t => decide (t.at_ ≤ now)) t)) := by show _ = _; simp [withoutR, hV]
  have hv0 := hv
  obtain ⟨A, c, rfl, hn, _, hr⟩ := hv
  clear hn
  have hpw := World.block_lt_of_cell? w _ hc
  have hcell : ∀ w1, Below w.heap.size w w1 → w1.cell? ⟨p, 0, none⟩ = some (.int .i64 now) := fun w1 hb => (hb.cell hpw).trans hc
  go_enter Try.func34, Try.ntmps34
  go_wp2_with (go_at_call 11; refine (valid_any _ _ ts hv0).mono ?_; rw [hV]; rintro e w2 ⟨rfl, hb⟩)
  go_loopw [5, 13] (fun v i wr => ∃ k : Nat, k ≤ ts.length ∧ i = .int .i64 k ∧ OwnT wr w.heap.size v ((ts.take k).filter fun t => !((fun t => decide (t.at_ ≤ now)) t)) ∧ Below w.heap.size w wr) (fun _ i _ => ts.length - (intOf i).toNat)
  case atStart => exact ⟨0, Nat.zero_le _, rfl, by simpa using OwnL.nil _ _, hb⟩
  case round =>
    clear hb hc hv0
    obtain ⟨k, hk, rfl, hown, hbw⟩ := hrel
    by_cases hlt : k < ts.length
    · obtain ⟨x, hx⟩ := get_lt hlt
      obtain ⟨b, o, rfl, h0, h1, h2⟩ := RdT (hr.below hbw) hx
      have hx' := Lib.hid hx; clear hx
      have hlf : ((ts.take k).filter fun t => !((fun t => decide (t.at_ ≤ now)) t)).length ≤ k := Nat.le_trans (List.length_filter_le _ _) (by simp; omega)
      have HLF := Lib.hid hlf; clear hlf
      have hb1 := hbw.alloc hbw.size (.cells #[.int .i64 x.at_, .int .i64 x.owner, .int .i64 x.kind] 28)
      have hc1 := hcell _ hb1
      have HC := Lib.hid hcell; clear hcell
      cases hg : (fun t => decide (t.at_ ≤ now)) x
      · have hg' := Lib.hid hg
        go_wp2_with (first
          | (go_at_call 36; refine (clo36 _ x p now hc1).mono ?_; rw [show _ = _ from hg'.out]; rintro e w3 ⟨rfl, hb3⟩; have hc3 := ((Blk.new wr 28 #[.int .i64 x.at_, .int .i64 x.owner, .int .i64 x.kind]).ext hb3).cell; have hown3 := (hown.alloc (.cells #[.int .i64 x.at_, .int .i64 x.owner, .int .i64 x.kind] 28)).below hb3; have hb4 := hb1.trans (hb3.mono (Nat.le_trans hbw.size (by simp))))
          | (at_builtin; refine wpList_app1 ET28 Tm.enc w3 rfl (.tmp 21) (.tmp 23) rfl w.heap.size u5 _ rfl hown3 x _ _ rfl rfl rfl (Tm.enc_one x) (by have := HLF.out; omega) (by simp only [maxLen]; have := HLF.out; omega) hb4.size ?_; intro v3 w6 hown6 hb6 hg6))
        go_roundw
        case rel =>
          refine ⟨k + 1, by omega, by go_num, ?_, hb4.trans hb6⟩
          rw [take_filter _ hx'.out, if_pos (by rw [hg'.out]; rfl)]
          exact hown6
        case measure => simp [intOf]; omega
      · have hg' := Lib.hid hg
        go_wp2_with (go_at_call 36; refine (clo36 _ x p now hc1).mono ?_; rw [show _ = _ from hg'.out]; rintro e w3 ⟨rfl, hb3⟩; have hown3 := (hown.alloc (.cells #[.int .i64 x.at_, .int .i64 x.owner, .int .i64 x.kind] 28)).below hb3; have hb4 := hb1.trans (hb3.mono (Nat.le_trans hbw.size (by simp))))
        go_roundw
        case rel =>
          refine ⟨k + 1, by omega, by go_num, ?_, hb4⟩
          rw [take_filter _ hx'.out, if_neg (by rw [hg'.out]; decide), List.append_nil]
          exact hown3
        case measure => simp [intOf]; omega
    · have hkk : k = ts.length := by omega
      subst hkk
      rw [List.take_length] at hown
      go_wp2
      go_ret
      exact ⟨u5, rfl, by rw [HE.out]; exact hown, hbw⟩
set_option maxHeartbeats 2000000 in
theorem without39 (w : World) (v : Value) (ts : List Tm) (p : Nat) (now : Int) (hv : IsT w v ts) (hsz : ts.length ≤ 1100) (hc : w.cell? ⟨p, 0, none⟩ = some (.int .i64 now)) :
    Calls Try.prog 34 #[v, .func (.func 39) #[] #[.pointer (some ⟨p, 0, none⟩)]] w fun e w' => ∃ v', e = .returned v' ∧ OwnT w' w.heap.size v' (withoutR ts (fun t => t.owner == now)) ∧ Below w.heap.size w w' := by
  cases hV : validB ts
  · have HE : Hid (withoutR ts (fun t => t.owner == now) = []) := by show _ = _; simp [withoutR, hV]
    go_enter Try.func34, Try.ntmps34
    go_wp2_with (go_at_call 11; refine (valid_any _ _ ts hv).mono ?_; rw [hV]; rintro e w1 ⟨rfl, hb1⟩)
    go_ret
    exact ⟨.slice none 0 0, rfl, by rw [HE.out]; exact OwnL.nil _ _, hb1⟩
  have HE : Hid (withoutR ts (fun t => t.owner == now) = ts.filter fun t => !((fun t => t.owner == now) t)) := by show _ = _; simp [withoutR, hV]
  have hv0 := hv
  obtain ⟨A, c, rfl, hn, _, hr⟩ := hv
  clear hn
  have hpw := World.block_lt_of_cell? w _ hc
  have hcell : ∀ w1, Below w.heap.size w w1 → w1.cell? ⟨p, 0, none⟩ = some (.int .i64 now) := fun w1 hb => (hb.cell hpw).trans hc
  go_enter Try.func34, Try.ntmps34
  go_wp2_with (go_at_call 11; refine (valid_any _ _ ts hv0).mono ?_; rw [hV]; rintro e w2 ⟨rfl, hb⟩)
  go_loopw [5, 13] (fun v i wr => ∃ k : Nat, k ≤ ts.length ∧ i = .int .i64 k ∧ OwnT wr w.heap.size v ((ts.take k).filter fun t => !((fun t => t.owner == now) t)) ∧ Below w.heap.size w wr) (fun _ i _ => ts.length - (intOf i).toNat)
  case atStart => exact ⟨0, Nat.zero_le _, rfl, by simpa using OwnL.nil _ _, hb⟩
  case round =>
    clear hb hc hv0
    obtain ⟨k, hk, rfl, hown, hbw⟩ := hrel
    by_cases hlt : k < ts.length
    · obtain ⟨x, hx⟩ := get_lt hlt
      obtain ⟨b, o, rfl, h0, h1, h2⟩ := RdT (hr.below hbw) hx
      have hx' := Lib.hid hx; clear hx
      have hlf : ((ts.take k).filter fun t => !((fun t => t.owner == now) t)).length ≤ k := Nat.le_trans (List.length_filter_le _ _) (by simp; omega)
      have HLF := Lib.hid hlf; clear hlf
      have hb1 := hbw.alloc hbw.size (.cells #[.int .i64 x.at_, .int .i64 x.owner, .int .i64 x.kind] 28)
      have hc1 := hcell _ hb1
      have HC := Lib.hid hcell; clear hcell
      cases hg : (fun t => t.owner == now) x
      · have hg' := Lib.hid hg
        go_wp2_with (first
          | (go_at_call 39; refine (clo39 _ x p now hc1).mono ?_; rw [show _ = _ from hg'.out]; rintro e w3 ⟨rfl, hb3⟩; have hc3 := ((Blk.new wr 28 #[.int .i64 x.at_, .int .i64 x.owner, .int .i64 x.kind]).ext hb3).cell; have hown3 := (hown.alloc (.cells #[.int .i64 x.at_, .int .i64 x.owner, .int .i64 x.kind] 28)).below hb3; have hb4 := hb1.trans (hb3.mono (Nat.le_trans hbw.size (by simp))))
          | (at_builtin; refine wpList_app1 ET28 Tm.enc w3 rfl (.tmp 21) (.tmp 23) rfl w.heap.size u5 _ rfl hown3 x _ _ rfl rfl rfl (Tm.enc_one x) (by have := HLF.out; omega) (by simp only [maxLen]; have := HLF.out; omega) hb4.size ?_; intro v3 w6 hown6 hb6 hg6))
        go_roundw
        case rel =>
          refine ⟨k + 1, by omega, by go_num, ?_, hb4.trans hb6⟩
          rw [take_filter _ hx'.out, if_pos (by rw [hg'.out]; rfl)]
          exact hown6
        case measure => simp [intOf]; omega
      · have hg' := Lib.hid hg
        go_wp2_with (go_at_call 39; refine (clo39 _ x p now hc1).mono ?_; rw [show _ = _ from hg'.out]; rintro e w3 ⟨rfl, hb3⟩; have hown3 := (hown.alloc (.cells #[.int .i64 x.at_, .int .i64 x.owner, .int .i64 x.kind] 28)).below hb3; have hb4 := hb1.trans (hb3.mono (Nat.le_trans hbw.size (by simp))))
        go_roundw
        case rel =>
          refine ⟨k + 1, by omega, by go_num, ?_, hb4⟩
          rw [take_filter _ hx'.out, if_neg (by rw [hg'.out]; decide), List.append_nil]
          exact hown3
        case measure => simp [intOf]; omega
    · have hkk : k = ts.length := by omega
      subst hkk
      rw [List.take_length] at hown
      go_wp2
      go_ret
      exact ⟨u5, rfl, by rw [HE.out]; exact hown, hbw⟩
end Go.Proofs.Ytejppifgljjnmaa
