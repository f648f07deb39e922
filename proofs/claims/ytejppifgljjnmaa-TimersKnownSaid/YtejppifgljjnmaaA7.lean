import Derived.Test.YtejppifgljjnmaaA6
set_option linter.unusedVariables false
set_option linter.unusedSimpArgs false
namespace Go.Proofs.Ytejppifgljjnmaa
open Go.RowKit

def dueR (ts : List Tm) (now : Int) : List Tm := withoutR ts fun t => decide (now < t.at_)
def restR (ts : List Tm) (now : Int) : List Tm := withoutR ts fun t => decide (t.at_ ≤ now)
def cancelR (ts : List Tm) (o k : Int) : List Tm := withoutR ts fun t => t.owner == o && t.kind == k
def cancelAllR (ts : List Tm) (o : Int) : List Tm := withoutR ts fun t => t.owner == o
def countR (ts : List Tm) (o : Int) : Int := if validB ts = true then ((ts.filter fun t => t.owner == o).length : Int) else 0

set_option maxHeartbeats 1000000 in
theorem due_any (w : World) (v : Value) (ts : List Tm) (now : Int) (hv : IsT w v ts) (hsz : ts.length ≤ 1100) :
    Calls Try.prog 14 #[v, .int .i64 now] w fun e w' => ∃ v1 v2, e = .returned (.tuple #[v1, v2]) ∧ OwnT w' w.heap.size v1 (dueR ts now) ∧ OwnT w' w.heap.size v2 (restR ts now) ∧ Apart v2 v1 ∧ Below w.heap.size w w' := by
  have hv1 := hv.alloc (.cells #[.int .i64 now] 3)
  have hc : (w.alloc (.cells #[.int .i64 now] 3)).cell? ⟨w.heap.size, 0, none⟩ = some (.int .i64 now) := (Blk.new w 3 #[.int .i64 now]).cell 0
  go_enter Try.func14, Try.ntmps14
  go_wp2_with fail
  refine (without35 _ v ts w.heap.size now hv1 hsz hc).mono ?_
  rintro e w1 ⟨v1, rfl, hown1, hb1⟩
  have hbw : Below w.heap.size w w1 := ((Below.refl _ _).alloc (Nat.le_refl _) _).trans (hb1.mono (by simp))
  go_wp2_with fail
  refine (without36 _ v ts w.heap.size now (hv1.below hb1) hsz (((Blk.new w 3 #[.int .i64 now]).ext hb1).cell 0)).mono ?_
  rintro e w2 ⟨v2, rfl, hown2, hb2⟩
  go_wp2
  go_ret2
  refine ⟨v1, v2, rfl, (hown1.below hb2).base_le (by simp), hown2.base_le hbw.size, ?_, hbw.trans (hb2.mono hbw.size)⟩
  intro g hg hu
  have h1 := (World.ownsRow.lt hown2 g hg).1
  have h2 := (World.ownsRow.lt hown1 g hu).2
  omega

set_option maxHeartbeats 1000000 in
theorem cancelAll_any (w : World) (v : Value) (ts : List Tm) (own : Int) (hv : IsT w v ts) (hsz : ts.length ≤ 1100) :
    Calls Try.prog 27 #[v, .int .i64 own] w fun e w' => ∃ v1, e = .returned v1 ∧ OwnT w' w.heap.size v1 (cancelAllR ts own) ∧ Below w.heap.size w w' := by
  have hv1 := hv.alloc (.cells #[.int .i64 own] 3)
  have hc : (w.alloc (.cells #[.int .i64 own] 3)).cell? ⟨w.heap.size, 0, none⟩ = some (.int .i64 own) := (Blk.new w 3 #[.int .i64 own]).cell 0
  go_enter Try.func27, Try.ntmps27
  go_wp2_with fail
  refine (without39 _ v ts w.heap.size own hv1 hsz hc).mono ?_
  rintro e w1 ⟨v1, rfl, hown1, hb1⟩
  go_wp2
  go_ret
  exact ⟨v1, rfl, hown1.base_le (by simp), ((Below.refl _ _).alloc (Nat.le_refl _) _).trans (hb1.mono (by simp))⟩

set_option maxHeartbeats 2000000 in
theorem without38 (w : World) (v : Value) (ts : List Tm) (p q : Nat) (own kind : Int) (hv : IsT w v ts) (hsz : ts.length ≤ 1100) (hc : w.cell? ⟨p, 0, none⟩ = some (.int .i64 own)) (hd : w.cell? ⟨q, 0, none⟩ = some (.int .i64 kind)) :
    Calls Try.prog 34 #[v, .func (.func 38) #[] #[.pointer (some ⟨p, 0, none⟩), .pointer (some ⟨q, 0, none⟩)]] w fun e w' => ∃ v', e = .returned v' ∧ OwnT w' w.heap.size v' (cancelR ts own kind) ∧ Below w.heap.size w w' := by
  cases hV : validB ts
  · have HE : Hid (cancelR ts own kind = []) := by show _ = _; simp [cancelR, withoutR, hV]
    go_enter Try.func34, Try.ntmps34
    go_wp2_with (go_at_call 11; refine (valid_any _ _ ts hv).mono ?_; rw [hV]; rintro e w1 ⟨rfl, hb1⟩)
    go_ret
    exact ⟨.slice none 0 0, rfl, by rw [HE.out]; exact OwnL.nil _ _, hb1⟩
  have HE : Hid (cancelR ts own kind = ts.filter fun t => !(t.owner == own && t.kind == kind)) := by show _ = _; simp [cancelR, withoutR, hV]
  have hv0 := hv
  obtain ⟨A, c, rfl, hn, _, hr⟩ := hv
  clear hn
  have hpw := World.block_lt_of_cell? w _ hc
  have hqw := World.block_lt_of_cell? w _ hd
  have hcell : ∀ w1, Below w.heap.size w w1 → w1.cell? ⟨p, 0, none⟩ = some (.int .i64 own) := fun w1 hb => (hb.cell hpw).trans hc
  have hcelk : ∀ w1, Below w.heap.size w w1 → w1.cell? ⟨q, 0, none⟩ = some (.int .i64 kind) := fun w1 hb => (hb.cell hqw).trans hd
  go_enter Try.func34, Try.ntmps34
  go_wp2_with (go_at_call 11; refine (valid_any _ _ ts hv0).mono ?_; rw [hV]; rintro e w2 ⟨rfl, hb⟩)
  go_loopw [5, 13] (fun v i wr => ∃ k : Nat, k ≤ ts.length ∧ i = .int .i64 k ∧ OwnT wr w.heap.size v ((ts.take k).filter fun t => !(t.owner == own && t.kind == kind)) ∧ Below w.heap.size w wr) (fun _ i _ => ts.length - (intOf i).toNat)
  case atStart => exact ⟨0, Nat.zero_le _, rfl, by simpa using OwnL.nil _ _, hb⟩
  case round =>
    clear hb hc hd hv0
    obtain ⟨k, hk, rfl, hown, hbw⟩ := hrel
    by_cases hlt : k < ts.length
    · obtain ⟨x, hx⟩ := get_lt hlt
      obtain ⟨b, o, rfl, h0, h1, h2⟩ := RdT (hr.below hbw) hx
      have hx' := Lib.hid hx; clear hx
      have hlf : ((ts.take k).filter fun t => !(t.owner == own && t.kind == kind)).length ≤ k := Nat.le_trans (List.length_filter_le _ _) (by simp; omega)
      have HLF := Lib.hid hlf; clear hlf
      have hb1 := hbw.alloc hbw.size (.cells #[.int .i64 x.at_, .int .i64 x.owner, .int .i64 x.kind] 28)
      have hc1 := hcell _ hb1
      have hd1 := hcelk _ hb1
      have HC := Lib.hid hcell; clear hcell
      have HD := Lib.hid hcelk; clear hcelk
      cases hg : (x.owner == own && x.kind == kind)
      · have hg' := Lib.hid hg; clear hg
        go_wp2_with fail
        refine (clo38 _ x p q own kind hc1 hd1).mono ?_
        rw [show _ = _ from hg'.out]
        rintro e w3 ⟨rfl, hb3⟩
        have hc3 := ((Blk.new wr 28 #[.int .i64 x.at_, .int .i64 x.owner, .int .i64 x.kind]).ext hb3).cell
        have hown3 := (hown.alloc (.cells #[.int .i64 x.at_, .int .i64 x.owner, .int .i64 x.kind] 28)).below hb3
        have hb4 := hb1.trans (hb3.mono (Nat.le_trans hbw.size (by simp)))
        go_wp2_with (at_builtin; refine wpList_app1 ET28 Tm.enc w3 rfl (.tmp 21) (.tmp 23) rfl w.heap.size u5 _ rfl hown3 x _ _ rfl rfl rfl (Tm.enc_one x) (by have := HLF.out; omega) (by simp only [maxLen]; have := HLF.out; omega) hb4.size ?_; intro v3 w6 hown6 hb6 hg6)
        go_roundw
        case rel =>
          refine ⟨k + 1, by omega, by go_num, ?_, hb4.trans hb6⟩
          rw [take_filter _ hx'.out, if_pos (by rw [hg'.out]; rfl)]
          exact hown6
        case measure => simp [intOf]; omega
      · have hg' := Lib.hid hg; clear hg
        go_wp2_with fail
        refine (clo38 _ x p q own kind hc1 hd1).mono ?_
        rw [show _ = _ from hg'.out]
        rintro e w3 ⟨rfl, hb3⟩
        have hown3 := (hown.alloc (.cells #[.int .i64 x.at_, .int .i64 x.owner, .int .i64 x.kind] 28)).below hb3
        have hb4 := hb1.trans (hb3.mono (Nat.le_trans hbw.size (by simp)))
        go_wp2
        go_roundw
        case rel =>
          refine ⟨k + 1, by omega, by go_num, ?_, hb4⟩
          rw [take_filter _ hx'.out, if_neg (by rw [hg'.out]; decide), List.append_nil]
          exact hown3
        case measure => simp [intOf]; omega
    · have hkk : k = ts.length := by omega
      subst hkk
      rw [List.take_length] at hown
      go_wp2
      go_ret
      exact ⟨u5, rfl, by rw [HE.out]; exact hown, hbw⟩

set_option maxHeartbeats 1000000 in
theorem cancel_any (w : World) (v : Value) (ts : List Tm) (own kind : Int) (hv : IsT w v ts) (hsz : ts.length ≤ 1100) :
    Calls Try.prog 26 #[v, .int .i64 own, .int .i64 kind] w fun e w' => ∃ v1, e = .returned v1 ∧ OwnT w' w.heap.size v1 (cancelR ts own kind) ∧ Below w.heap.size w w' := by
  have hv1 := (hv.alloc (.cells #[.int .i64 own] 3)).alloc (.cells #[.int .i64 kind] 3)
  have hc : ((w.alloc (.cells #[.int .i64 own] 3)).alloc (.cells #[.int .i64 kind] 3)).cell? ⟨w.heap.size, 0, none⟩ = some (.int .i64 own) := ((Blk.new w 3 #[.int .i64 own]).alloc _).cell 0
  have hd : ((w.alloc (.cells #[.int .i64 own] 3)).alloc (.cells #[.int .i64 kind] 3)).cell? ⟨w.heap.size + 1, 0, none⟩ = some (.int .i64 kind) := by
    have h := (Blk.new (w.alloc (.cells #[.int .i64 own] 3)) 3 #[.int .i64 kind]).cell 0
    rw [World.size_alloc] at h
    exact h
  go_enter Try.func26, Try.ntmps26
  go_wp2_with fail
  refine (without38 _ v ts w.heap.size (w.heap.size + 1) own kind hv1 hsz hc hd).mono ?_
  rintro e w1 ⟨v1, rfl, hown1, hb1⟩
  go_wp2
  go_ret
  exact ⟨v1, rfl, hown1.base_le (by simp; omega), (((Below.refl _ _).alloc (Nat.le_refl _) _).alloc (by simp) _).trans (hb1.mono (by simp; omega))⟩

set_option maxHeartbeats 1000000 in
theorem count_any (w : World) (v : Value) (ts : List Tm) (own : Int) (hv : IsT w v ts) :
    Calls Try.prog 30 #[v, .int .i64 own] w fun e w' => e = .returned (.int .i64 (countR ts own)) ∧ Below w.heap.size w w' := by
  cases hV : validB ts
  · have HE : Hid (countR ts own = 0) := by show _ = _; simp [countR, hV]
    go_enter Try.func30, Try.ntmps30
    go_wp2_with (go_at_call 11; refine (valid_any _ _ ts hv).mono ?_; rw [hV]; rintro e w1 ⟨rfl, hb1⟩)
    go_ret
    exact ⟨ret_int (by rw [HE.out]), hb1⟩
  have hlen := valid_len hV
  have HE : Hid (countR ts own = ((ts.filter fun t => t.owner == own).length : Int)) := by show _ = _; simp [countR, hV]
  have hv0 := hv
  obtain ⟨A, c, rfl, hn, _, hr⟩ := hv
  clear hn
  go_enter Try.func30, Try.ntmps30
  go_wp2_with (go_at_call 11; refine (valid_any _ _ ts hv0).mono ?_; rw [hV]; rintro e w2 ⟨rfl, hb⟩)
  go_loopw [5, 13] (fun n i wr => ∃ k m : Nat, k ≤ ts.length ∧ m ≤ k ∧ i = .int .i64 k ∧ n = .int .i64 m ∧ Hid (m = ((ts.take k).filter fun t => t.owner == own).length) ∧ Below w.heap.size w wr) (fun _ i _ => ts.length - (intOf i).toNat)
  case atStart => exact ⟨0, 0, Nat.zero_le _, Nat.le_refl _, rfl, rfl, rfl, hb⟩
  case round =>
    clear hb hv0
    obtain ⟨k, m, hk, hmk, rfl, rfl, hm, hbw⟩ := hrel
    by_cases hlt : k < ts.length
    · obtain ⟨x, hx⟩ := get_lt hlt
      obtain ⟨b, o, rfl, h0, h1, h2⟩ := RdT (hr.below hbw) hx
      have hx' := Lib.hid hx; clear hx
      have hb1 := hbw.alloc hbw.size (.cells #[.int .i64 x.at_, .int .i64 x.owner, .int .i64 x.kind] 28)
      cases hg : (x.owner == own)
      · go_wp2
        go_roundw
        case rel =>
          refine ⟨k + 1, m, by omega, by omega, by go_num, rfl, ?_, hb1⟩
          show _ = _
          rw [take_filter _ hx'.out, hg, hm.out]; simp
        case measure => simp [intOf]; omega
      · go_wp2
        go_roundw
        case rel =>
          refine ⟨k + 1, m + 1, by omega, by omega, by go_num, by go_num, ?_, hb1⟩
          show _ = _
          rw [take_filter _ hx'.out, hg, hm.out]; simp
        case measure => simp [intOf]; omega
    · have hkk : k = ts.length := by omega
      subst hkk
      go_wp2
      go_ret
      exact ⟨ret_int (by rw [HE.out, hm.out, List.take_length]), hbw⟩
end Go.Proofs.Ytejppifgljjnmaa
