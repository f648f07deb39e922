import Derived.Test.YtejppifgljjnmaaA3
set_option linter.unusedVariables false
set_option linter.unusedSimpArgs false
namespace Go.Proofs.Ytejppifgljjnmaa
open Go.RowKit

theorem Tm.ne_iff (x y : Tm) : (x ≠ y) ↔ ¬ (x.at_ = y.at_ ∧ x.owner = y.owner ∧ x.kind = y.kind) := by
  cases x; cases y; simp
def eqFrom (xs ys : List Tm) : Bool := decide (xs = ys)

set_option maxHeartbeats 1000000 in
theorem same_any (w : World) (v v' : Value) (xs ys : List Tm) (hv : IsT w v xs) (hv' : IsT w v' ys) :
    Calls Try.prog 18 #[v, v'] w fun e w' => e = .returned (.bool (decide (xs = ys))) ∧ Below w.heap.size w w' := by
  obtain ⟨A, c, rfl, hn, _, hr⟩ := hv
  obtain ⟨A', c', rfl, hn', _, hr'⟩ := hv'
  unfold maxLen at hn hn'
  by_cases hl : xs.length = ys.length
  · have hle : ((xs.length : Int) != ys.length) = false := by simp; omega
    have HL := Lib.hid hl; clear hl
    go_enter Try.func18, Try.ntmps18
    go_wp2
    go_loopw [5] (fun i wr => ∃ k n : Nat, k ≤ xs.length ∧ i = .int .i64 k ∧ wr = w.drewN n ∧ Hid (xs.take k = ys.take k)) (fun i _ => xs.length - (intOf i).toNat)
    case atStart => exact ⟨0, 0, Nat.zero_le _, rfl, rfl, by show _ = _; simp⟩
    case round =>
      obtain ⟨k, n, hk, rfl, rfl, hE⟩ := hrel
      by_cases hlt : k < xs.length
      · have hlt' : k < ys.length := by have := HL.out; omega
        obtain ⟨x, hx⟩ := get_lt hlt
        obtain ⟨y, hy⟩ := get_lt hlt'
        obtain ⟨b, o, rfl, h0, h1, h2⟩ := RdT hr hx
        obtain ⟨b', o', rfl, g0, g1, g2⟩ := RdT hr' hy
        have hx' := Lib.hid hx; clear hx
        have hy' := Lib.hid hy; clear hy
        by_cases hxy : x = y
        · subst hxy
          go_wp2
          refine wp_undraw (by kernel_rfl) (by kernel_rfl) (by kernel_rfl) ?_
          go_wp2
          refine ⟨rfl, rfl, ?_⟩
          go_wp2
          go_roundw
          case rel =>
            refine ⟨k + 1, n + 1, by omega, by go_num, rfl, ?_⟩
            show _ = _
            rw [List.take_add_one, List.take_add_one, hE.out, hx'.out, hy'.out]
          case measure => simp [intOf]; omega
        · have hne : ¬ (x.at_ = y.at_ ∧ x.owner = y.owner ∧ x.kind = y.kind) := (Tm.ne_iff x y).1 hxy
          have HXY := Lib.hid hxy; clear hxy
          go_wp2
          refine wp_undraw (by kernel_rfl) (by kernel_rfl) (by kernel_rfl) ?_
          go_wp2
          all_goals
            refine ⟨rfl, rfl, ?_⟩
            go_wp2
            go_ret
            exact ⟨ret_bool (by
              symm; rw [decide_eq_false_iff_not]; intro he
              have h1 := hx'.out; rw [he, hy'.out] at h1
              exact HXY.out (Option.some.inj h1).symm), (below_drewN (Below.refl _ _) n).drew⟩
      · go_wp2
        go_ret
        refine ⟨ret_bool ?_, below_drewN (Below.refl _ _) _⟩
        symm; rw [decide_eq_true_eq]
        have := hE.out
        rwa [List.take_of_length_le (by omega), List.take_of_length_le (by have := HL.out; omega)] at this
  · have hle : ((xs.length : Int) != ys.length) = true := by simp; omega
    have HL := Lib.hid hl; clear hl
    go_enter Try.func18, Try.ntmps18
    go_wp2
    go_ret
    exact ⟨ret_bool (by symm; rw [decide_eq_false_iff_not]; intro he; exact HL.out (by rw [he])), Below.refl _ _⟩
set_option maxHeartbeats 1000000 in
theorem refSame_any (w : World) (v v' : Value) (xs ys : List Tm) (hv : IsT w v xs) (hv' : IsT w v' ys) :
    Calls Try.prog 16 #[v, v'] w fun e w' => e = .returned (.bool (decide (xs = ys))) ∧ Below w.heap.size w w' := by
  obtain ⟨A, c, rfl, hn, _, hr⟩ := hv
  obtain ⟨A', c', rfl, hn', _, hr'⟩ := hv'
  unfold maxLen at hn hn'
  by_cases hl : xs.length = ys.length
  · have hle : ((xs.length : Int) != ys.length) = false := by simp; omega
    have HL := Lib.hid hl; clear hl
    go_enter Try.func16, Try.ntmps16
    go_wp2
    go_loopw [5] (fun i wr => ∃ k n : Nat, k ≤ xs.length ∧ i = .int .i64 k ∧ wr = w.drewN n ∧ Hid (xs.take k = ys.take k)) (fun i _ => xs.length - (intOf i).toNat)
    case atStart => exact ⟨0, 0, Nat.zero_le _, rfl, rfl, by show _ = _; simp⟩
    case round =>
      obtain ⟨k, n, hk, rfl, rfl, hE⟩ := hrel
      by_cases hlt : k < xs.length
      · have hlt' : k < ys.length := by have := HL.out; omega
        obtain ⟨x, hx⟩ := get_lt hlt
        obtain ⟨y, hy⟩ := get_lt hlt'
        obtain ⟨b, o, rfl, h0, h1, h2⟩ := RdT hr hx
        obtain ⟨b', o', rfl, g0, g1, g2⟩ := RdT hr' hy
        have hx' := Lib.hid hx; clear hx
        have hy' := Lib.hid hy; clear hy
        by_cases hxy : x = y
        · subst hxy
          go_wp2
          refine wp_undraw (by kernel_rfl) (by kernel_rfl) (by kernel_rfl) ?_
          go_wp2
          refine ⟨rfl, rfl, ?_⟩
          go_wp2
          go_roundw
          case rel =>
            refine ⟨k + 1, n + 1, by omega, by go_num, rfl, ?_⟩
            show _ = _
            rw [List.take_add_one, List.take_add_one, hE.out, hx'.out, hy'.out]
          case measure => simp [intOf]; omega
        · have hne : ¬ (x.at_ = y.at_ ∧ x.owner = y.owner ∧ x.kind = y.kind) := (Tm.ne_iff x y).1 hxy
          have HXY := Lib.hid hxy; clear hxy
          go_wp2
          refine wp_undraw (by kernel_rfl) (by kernel_rfl) (by kernel_rfl) ?_
          go_wp2
          all_goals
            refine ⟨rfl, rfl, ?_⟩
            go_wp2
            go_ret
            exact ⟨ret_bool (by
              symm; rw [decide_eq_false_iff_not]; intro he
              have h1 := hx'.out; rw [he, hy'.out] at h1
              exact HXY.out (Option.some.inj h1).symm), (below_drewN (Below.refl _ _) n).drew⟩
      · go_wp2
        go_ret
        refine ⟨ret_bool ?_, below_drewN (Below.refl _ _) _⟩
        symm; rw [decide_eq_true_eq]
        have := hE.out
        rwa [List.take_of_length_le (by omega), List.take_of_length_le (by have := HL.out; omega)] at this
  · have hle : ((xs.length : Int) != ys.length) = true := by simp; omega
    have HL := Lib.hid hl; clear hl
    go_enter Try.func16, Try.ntmps16
    go_wp2
    go_ret
    exact ⟨ret_bool (by symm; rw [decide_eq_false_iff_not]; intro he; exact HL.out (by rw [he])), Below.refl _ _⟩

def nextR (ts : List Tm) : Int × Bool := if validB ts then (match ts with | [] => (0, false) | t :: _ => (t.at_, true)) else (0, false)
set_option maxHeartbeats 1000000 in
theorem next_any (w : World) (v : Value) (ts : List Tm) (hv : IsT w v ts) :
    Calls Try.prog 19 #[v] w fun e w' => e = .returned (.tuple #[.int .i64 (nextR ts).1, .bool (nextR ts).2]) ∧ Below w.heap.size w w' := by
  have hv0 := hv
  cases hV : validB ts
  · have HE : Hid (nextR ts = (0, false)) := by show _ = _; simp [nextR, hV]
    go_enter Try.func19, Try.ntmps19
    go_wp2_with (go_at_call 11; refine (valid_any _ _ ts hv).mono ?_; rw [hV]; rintro e w1 ⟨rfl, hb1⟩)
    go_ret2
    exact ⟨ret2 (by rw [HE.out]; rfl) (by rw [HE.out]; rfl), hb1⟩
  obtain ⟨A, c, rfl, hn, _, hr⟩ := hv
  unfold maxLen at hn
  cases ts with
  | nil =>
    have HE : Hid (nextR [] = (0, false)) := by show _ = _; simp [nextR, hV]
    go_enter Try.func19, Try.ntmps19
    go_wp2_with (go_at_call 11; refine (valid_any _ _ [] hv0).mono ?_; rw [hV]; rintro e w1 ⟨rfl, hb1⟩)
    go_ret2
    exact ⟨ret2 (by rw [HE.out]; rfl) (by rw [HE.out]; rfl), hb1⟩
  | cons t r =>
    have HE : Hid (nextR (t :: r) = (t.at_, true)) := by show _ = _; simp [nextR, hV]
    have hle : (((t :: r).length : Int) == 0) = false := by simp; omega
    obtain ⟨b, o, rfl, h0, h1, h2⟩ := RdT (k := 0) hr rfl
    simp only [Nat.zero_mul, Nat.add_zero] at h0
    have hcell : ∀ w1, Below w.heap.size w w1 → w1.cell? ⟨b, o, none⟩ = some (.int .i64 t.at_) := fun w1 hb => (hb.cell (World.block_lt_of_cell? w _ h0)).trans h0
    have hp : 0 < (t :: r).length := by simp
    go_enter Try.func19, Try.ntmps19
    go_wp2_with (go_at_call 11; refine (valid_any _ _ (t :: r) hv0).mono ?_; rw [hV]; rintro e w1 ⟨rfl, hb1⟩; have hc1 := hcell w1 hb1)
    go_ret2
    exact ⟨ret2 (by rw [HE.out]; rfl) (by rw [HE.out]; rfl), hb1⟩
set_option maxHeartbeats 1000000 in
theorem refNext_any (w : World) (v : Value) (ts : List Tm) (hv : IsT w v ts) :
    Calls Try.prog 20 #[v] w fun e w' => e = .returned (.tuple #[.int .i64 (nextR ts).1, .bool (nextR ts).2]) ∧ Below w.heap.size w w' := by
  have hv0 := hv
  cases hV : validB ts
  · have HE : Hid (nextR ts = (0, false)) := by show _ = _; simp [nextR, hV]
    go_enter Try.func20, Try.ntmps20
    go_wp2_with (go_at_call 21; refine (refValid_any _ _ ts hv).mono ?_; rw [hV]; rintro e w1 ⟨rfl, hb1⟩)
    go_ret2
    exact ⟨ret2 (by rw [HE.out]; rfl) (by rw [HE.out]; rfl), hb1⟩
  obtain ⟨A, c, rfl, hn, _, hr⟩ := hv
  unfold maxLen at hn
  cases ts with
  | nil =>
    have HE : Hid (nextR [] = (0, false)) := by show _ = _; simp [nextR, hV]
    go_enter Try.func20, Try.ntmps20
    go_wp2_with (go_at_call 21; refine (refValid_any _ _ [] hv0).mono ?_; rw [hV]; rintro e w1 ⟨rfl, hb1⟩)
    go_ret2
    exact ⟨ret2 (by rw [HE.out]; rfl) (by rw [HE.out]; rfl), hb1⟩
  | cons t r =>
    have HE : Hid (nextR (t :: r) = (t.at_, true)) := by show _ = _; simp [nextR, hV]
    have hle : (((t :: r).length : Int) == 0) = false := by simp; omega
    obtain ⟨b, o, rfl, h0, h1, h2⟩ := RdT (k := 0) hr rfl
    simp only [Nat.zero_mul, Nat.add_zero] at h0
    have hcell : ∀ w1, Below w.heap.size w w1 → w1.cell? ⟨b, o, none⟩ = some (.int .i64 t.at_) := fun w1 hb => (hb.cell (World.block_lt_of_cell? w _ h0)).trans h0
    have hp : 0 < (t :: r).length := by simp
    go_enter Try.func20, Try.ntmps20
    go_wp2_with (go_at_call 21; refine (refValid_any _ _ (t :: r) hv0).mono ?_; rw [hV]; rintro e w1 ⟨rfl, hb1⟩; have hc1 := hcell w1 hb1)
    go_ret2
    exact ⟨ret2 (by rw [HE.out]; rfl) (by rw [HE.out]; rfl), hb1⟩
end Go.Proofs.Ytejppifgljjnmaa
