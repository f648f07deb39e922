import Derived.Test.YtejppifgljjnmaaA11
set_option linter.unusedVariables false
set_option linter.unusedSimpArgs false
namespace Go.Proofs.Ytejppifgljjnmaa
open Go.RowKit

set_option maxHeartbeats 2000000 in
theorem refCancelAll_any (w : World) (v : Value) (ts : List Tm) (own : Int) (hv : IsT w v ts) (hsz : ts.length ≤ 1100) :
    Calls Try.prog 29 #[v, .int .i64 own] w fun e w' => ∃ v1, e = .returned v1 ∧ OwnT w' w.heap.size v1 (cancelAllR ts own) ∧ Below w.heap.size w w' := by
  cases hV : validB ts
  · have HE : Hid (cancelAllR ts own = []) := by show _ = _; simp [cancelAllR, withoutR, hV]
    go_enter Try.func29, Try.ntmps29
    go_wp2_with (go_at_call 21; refine (refValid_any _ _ ts hv).mono ?_; rw [hV]; rintro e w1 ⟨rfl, hb1⟩)
    go_ret
    exact ⟨.slice none 0 0, rfl, by rw [HE.out]; exact OwnL.nil _ _, hb1⟩
  have HE : Hid (cancelAllR ts own = ts.filter fun t => !(t.owner == own)) := by show _ = _; simp [cancelAllR, withoutR, hV]
  have hv0 := hv
  obtain ⟨A, c, rfl, hn, _, hr⟩ := hv
  clear hn
  go_enter Try.func29, Try.ntmps29
  go_wp2_with (go_at_call 21; refine (refValid_any _ _ ts hv0).mono ?_; rw [hV]; rintro e w2 ⟨rfl, hb⟩)
  go_loopw [5, 6] (fun v i wr => ∃ k : Nat, k ≤ ts.length ∧ i = .int .i64 k ∧ OwnT wr w.heap.size v ((ts.take k).filter fun t => !(t.owner == own)) ∧ Below w.heap.size w wr) (fun _ i _ => ts.length - (intOf i).toNat)
  case atStart => exact ⟨0, Nat.zero_le _, rfl, by simpa using OwnL.nil _ _, hb⟩
  case round =>
    clear hb hv0
    obtain ⟨k, hk, rfl, hown, hbw⟩ := hrel
    by_cases hlt : k < ts.length
    · obtain ⟨x, hx⟩ := get_lt hlt
      obtain ⟨b, o, rfl, h0, h1, h2⟩ := RdT (hr.below hbw) hx
      have hx' := Lib.hid hx; clear hx
      have hlf : ((ts.take k).filter fun t => !(t.owner == own)).length ≤ k := Nat.le_trans (List.length_filter_le _ _) (by simp; omega)
      have HLF := Lib.hid hlf; clear hlf
      by_cases g1 : x.owner = own
      · have e1 : (x.owner != own) = false := by simp [g1]
        have hg : Hid ((x.owner == own) = true) := by show _ = _; simp [g1]
        clear g1
        go_wp2
        go_roundw
        case rel =>
          refine ⟨k + 1, by omega, by go_num, ?_, hbw⟩
          rw [take_filter _ hx'.out, if_neg (by rw [hg.out]; decide), List.append_nil]
          exact hown
        case measure => simp [intOf]; omega
      · have e1 : (x.owner != own) = true := by simpa using g1
        have hg : Hid ((x.owner == own) = false) := by show _ = _; simp [g1]
        clear g1
        go_wp2_with (at_builtin; refine wpList_app1 ET28 Tm.enc wr rfl (.tmp 23) (.tmp 28) rfl w.heap.size u5 _ rfl hown x _ _ rfl rfl rfl (Tm.enc_one x) (by have := HLF.out; omega) (by simp only [maxLen]; have := HLF.out; omega) hbw.size ?_; intro v3 w6 hown3 hb6 hg6)
        go_roundw
        case rel =>
          refine ⟨k + 1, by omega, by go_num, ?_, hbw.trans hb6⟩
          rw [take_filter _ hx'.out, if_pos (by rw [hg.out]; rfl)]
          exact hown3
        case measure => simp [intOf]; omega
    · have hkk : k = ts.length := by omega
      subst hkk
      rw [List.take_length] at hown
      go_wp2
      go_ret
      exact ⟨u5, rfl, by rw [HE.out]; exact hown, hbw⟩

set_option maxHeartbeats 2000000 in
theorem refCount_any (w : World) (v : Value) (ts : List Tm) (own : Int) (hv : IsT w v ts) (hsz : ts.length ≤ 1100) :
    Calls Try.prog 31 #[v, .int .i64 own] w fun e w' => e = .returned (.int .i64 (countR ts own)) ∧ Below w.heap.size w w' := by
  have hv0 := hv
  obtain ⟨A, c, rfl, hn, _, hr⟩ := hv
  clear hn
  cases hV : validB ts
  · have HE : Hid (countR ts own = 0) := by show _ = _; simp [countR, hV]
    go_enter Try.func31, Try.ntmps31
    go_wp2
    go_loopw [5, 6] (fun n i wr => n = .int .i64 0 ∧ i = .int .i64 0 ∧ wr = w) (fun _ _ _ => 0)
    case atStart => exact ⟨rfl, rfl, rfl⟩
    case round =>
      obtain ⟨rfl, rfl, rfl⟩ := hrel
      by_cases hl : 0 < ts.length
      · go_wp2_with (go_at_call 21; refine (refValid_any _ _ ts hv0).mono ?_; rw [hV]; rintro e w1 ⟨rfl, hb1⟩)
        go_ret
        exact ⟨ret_int (by rw [HE.out]), hb1⟩
      · go_wp2
        go_ret
        exact ⟨ret_int (by rw [HE.out]), Below.refl _ _⟩
  have hlen := valid_len hV
  have HE : Hid (countR ts own = ((ts.filter fun t => t.owner == own).length : Int)) := by show _ = _; simp [countR, hV]
  go_enter Try.func31, Try.ntmps31
  go_wp2
  go_loopw [5, 6] (fun n i wr => ∃ k m : Nat, k ≤ ts.length ∧ m ≤ k ∧ i = .int .i64 k ∧ n = .int .i64 m ∧ Hid (m = ((ts.take k).filter fun t => t.owner == own).length) ∧ Below w.heap.size w wr) (fun _ i _ => ts.length - (intOf i).toNat)
  case atStart => exact ⟨0, 0, Nat.zero_le _, Nat.le_refl _, rfl, rfl, rfl, Below.refl _ _⟩
  case round =>
    obtain ⟨k, m, hk, hmk, rfl, rfl, hm, hbw⟩ := hrel
    by_cases hlt : k < ts.length
    · obtain ⟨x, hx⟩ := get_lt hlt
      have hv1 := hv0.below hbw
      have hr1 := hr.below hbw
      clear hv0 hr
      obtain ⟨b, o, rfl, h0, h1, h2⟩ := RdT hr1 hx
      have hx' := Lib.hid hx; clear hx
      go_wp2_with (go_at_call 21; refine (refValid_any _ _ ts hv1).mono ?_; rw [hV]; rintro e w1 ⟨rfl, hb1⟩; have h1' := (hb1.cell (World.block_lt_of_cell? wr _ h1)).trans h1; have hb2 := hbw.trans (hb1.mono hbw.size); clear h0 h1 h2)
      all_goals go_roundw
      · case rel =>
          have hg : (x.owner == own) = true := by assumption
          refine ⟨k + 1, m + 1, by omega, by omega, by go_num, by go_num, ?_, hb2⟩
          show _ = _
          rw [take_filter _ hx'.out, hm.out]; simp [hg]
      · case measure => simp [intOf]; omega
      · case rel =>
          have hg : (x.owner == own) = false := by assumption
          refine ⟨k + 1, m, by omega, by omega, by go_num, rfl, ?_, hb2⟩
          show _ = _
          rw [take_filter _ hx'.out, hm.out]; simp [hg]
      · case measure => simp [intOf]; omega
    · have hkk : k = ts.length := by omega
      subst hkk
      go_wp2
      go_ret
      exact ⟨ret_int (by rw [HE.out, hm.out, List.take_length]), hbw⟩

set_option maxRecDepth 100000 in
set_option maxHeartbeats 1000000 in
theorem refRestart_any (w : World) (v : Value) (ts : List Tm) (t : Tm) (hv : IsT w v ts) (hsz : ts.length ≤ 1100) :
    Calls Try.prog 25 #[v, t.val] w fun e w' => ∃ v', e = .returned (.tuple #[v', .int .u8 (restartR ts t).2]) ∧ OwnT w' w.heap.size v' (restartR ts t).1 ∧ Below w.heap.size w w' := by
  have hv1 := hv.alloc (.cells #[.int .i64 t.at_, .int .i64 t.owner, .int .i64 t.kind] 28)
  cases hV : validB ts
  · have HE : Hid (restartR ts t = ([], 2)) := by show _ = _; simp [restartR, hV]
    go_enter Try.func25, Try.ntmps25
    go_wp2_with (go_at_call 21; refine (refValid_any _ _ ts hv1).mono ?_; rw [hV]; rintro e w1 ⟨rfl, hb1⟩)
    go_ret2
    exact ⟨.slice none 0 0, ret2 rfl (by rw [HE.out]; rfl), by rw [HE.out]; exact OwnL.nil _ _, ((Below.refl _ _).alloc (Nat.le_refl _) _).trans (hb1.mono (by simp))⟩
  cases hT : timelyB t
  · have HE : Hid (restartR ts t = ([], 2)) := by show _ = _; simp [restartR, hT]
    have hT2 : ¬ (0 ≤ t.at_ ∧ t.at_ ≤ 1099511627776) := by simp [timelyB] at hT; omega
    have HT := Lib.hid hT; clear hT
    go_enter Try.func25, Try.ntmps25
    go_wp2_with (go_at_call 21; refine (refValid_any _ _ ts hv1).mono ?_; rw [hV]; rintro e w1 ⟨rfl, hb1⟩; have hc1 := ((Blk.new w 28 #[.int .i64 t.at_, .int .i64 t.owner, .int .i64 t.kind]).ext hb1).cell)
    all_goals go_ret2
    all_goals exact ⟨.slice none 0 0, ret2 rfl (by rw [HE.out]; rfl), by rw [HE.out]; exact OwnL.nil _ _, (((Below.refl _ _).alloc (Nat.le_refl _) _).trans (hb1.mono (by simp)))⟩
  have hT2 : 0 ≤ t.at_ ∧ t.at_ ≤ 1099511627776 := by simp [timelyB] at hT; omega
  obtain ⟨hT3, hT4⟩ := hT2
  have HE : Hid (restartR ts t = addR (cancelR ts t.owner t.kind) t) := by show _ = _; simp [restartR, hT, hV]
  have HL := Lib.hid (cancelR_le ts t.owner t.kind)
  go_enter Try.func25, Try.ntmps25
  go_wp2_with (go_at_call 21; refine (refValid_any _ _ ts hv1).mono ?_; rw [hV]; rintro e w2 ⟨rfl, hb1⟩; obtain ⟨hb, hB⟩ : Below w.heap.size w w2 ∧ Blk w2 w.heap.size 28 #[.int .i64 t.at_, .int .i64 t.owner, .int .i64 t.kind] := ⟨(((Below.refl _ _).alloc (Nat.le_refl _) _).trans (hb1.mono (by simp))), ((Blk.new w 28 #[.int .i64 t.at_, .int .i64 t.owner, .int .i64 t.kind]).ext hb1)⟩; have hv2 := hv1.below hb1; have hz2 := hB.lt; have hBc := hB.cell; clear hb1 hv1 hV hT)
  refine wp_order [(0, [0, 1, 2, 3, 4, 6]), (1, [5]), (2, [7]), (0, [8, 9, 10, 11])] (by kernel_rfl) (by kernel_rfl) ?_
  refine walk0 ?_
  dsimp only [pickL, nthL]
  go_wp2
  refine ⟨rfl, rfl, ?_⟩
  refine walk1 ?_
  dsimp only [pickL, nthL]
  go_wp2_with fail
  refine (refCancel_any _ v ts t.owner t.kind hv2.drew hsz).mono ?_
  rintro e w3 ⟨v1, rfl, hown1, hbE⟩
  have hb3 : Below w2.heap.size w2 w3 := un1 hbE
  have hz3 : w.heap.size < w3.heap.size := Nat.lt_of_lt_of_le hz2 hb3.size
  go_wp2_with fail
  refine ⟨rfl, hbE, ?_⟩
  refine walk2 ?_
  dsimp only [pickL, nthL]
  go_wp2_with fail
  refine (refAdd_any _ v1 _ t hown1.is (by have := HL.out; omega)).mono ?_
  rintro e w4 ⟨v2, rfl, hown2, hb4⟩
  go_wp2_with fail
  refine ⟨rfl, ?_⟩
  refine walk0 ?_
  dsimp only [pickL, nthL]
  go_wp2
  refine ⟨rfl, rfl, ?_⟩
  refine walk_nil ?_
  go_wp2
  go_ret2
  refine ⟨v2, ret2 rfl (by rw [HE.out]; rfl), ?_, (hb.trans (hb3.mono (by omega))).trans (hb4.mono (by omega))⟩
  rw [HE.out]
  exact hown2.base_le (by omega)
end Go.Proofs.Ytejppifgljjnmaa
