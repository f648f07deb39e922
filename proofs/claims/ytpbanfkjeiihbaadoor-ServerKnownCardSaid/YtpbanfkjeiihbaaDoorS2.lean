/- The machines' memory. -/
import Derived.Test.YtpbanfkjeiihbaaDoorB
import Derived.Test.YtpbanfkjeiihbaaDoorS1
set_option linter.unusedVariables false
set_option linter.unusedSimpArgs false
namespace Go.Proofs.YtpbanfkjeiihbaaDoor
open Go.RowKit

def Tout.enc (o : Tout) : List Value := [.int .u8 o.kind, .int .i64 o.code, .int .u8 o.timer, .int .i64 o.after]
abbrev Tout.val (o : Tout) : Value := .agg #[.int .u8 o.kind, .int .i64 o.code, .int .u8 o.timer, .int .i64 o.after]
def Ent.enc (e : Ent) : List Value := [.int .i64 e.at_, .int .u8 e.out.kind, .int .i64 e.out.code, .int .u8 e.out.timer, .int .i64 e.out.after]
abbrev Mc.val (m : Mc) : Value := .agg #[.int .u8 m.st, .int .i64 m.wait, .int .i64 m.code]
abbrev Tin.val (i : Tin) : Value := .agg #[.int .u8 i.kind, .int .i64 i.code, .int .u8 i.timer]
theorem Tout.enc_length (o : Tout) : o.enc.length = 4 := rfl
theorem Ent.enc_length (o : Ent) : o.enc.length = 5 := rfl
theorem Tout.enc_one (t : Tout) : ∀ u ∈ t.enc, u.oneCell' = true := by
  intro u hu
  simp [Tout.enc] at hu
  rcases hu with rfl | rfl | rfl | rfl <;> rfl
theorem Ent.enc_one (t : Ent) : ∀ u ∈ t.enc, u.oneCell' = true := by
  intro u hu
  simp [Ent.enc] at hu
  rcases hu with rfl | rfl | rfl | rfl | rfl <;> rfl
theorem ETo : ElemTy Tryd.prog 29 53 4 32 := by
  refine ⟨Tryd.underlying29, ?_, by omega⟩
  have h : (Tryd.prog.info? 53).map (fun i => (i.zero, i.size, i.bytes)) = some (some (.agg #[.int .u8 0, .int .i64 0, .int .u8 0, .int .i64 0]), 4, 32) := by kernel_rfl
  obtain ⟨i, a, b, c, d⟩ := info_parts h
  exact ⟨i, _, a, b, c, d, rfl⟩
theorem ETe : ElemTy Tryd.prog 42 55 5 40 := by
  refine ⟨Tryd.underlying42, ?_, by omega⟩
  have h : (Tryd.prog.info? 55).map (fun i => (i.zero, i.size, i.bytes)) = some (some (.agg #[.int .i64 0, .int .u8 0, .int .i64 0, .int .u8 0, .int .i64 0]), 5, 40) := by kernel_rfl
  obtain ⟨i, a, b, c, d⟩ := info_parts h
  exact ⟨i, _, a, b, c, d, rfl⟩
abbrev IsO (w : World) (v : Value) (l : List Tout) : Prop := IsL Tout.enc w v l
abbrev OwnO (w : World) (base : Nat) (v : Value) (l : List Tout) : Prop := OwnL Tout.enc 53 4 w base v l
abbrev OwnE (w : World) (base : Nat) (v : Value) (l : List Ent) : Prop := OwnL Ent.enc 55 5 w base v l
theorem RdO {w : World} {A : Option Addr} {ts : List Tout} (h : Rd w A (ts.flatMap Tout.enc)) {k : Nat} {t : Tout} (ht : ts[k]? = some t) :
    ∃ b o, A = some ⟨b, o, none⟩ ∧ w.cell? ⟨b, o + k * 4, none⟩ = some (.int .u8 t.kind) ∧ w.cell? ⟨b, o + k * 4 + 1, none⟩ = some (.int .i64 t.code) ∧ w.cell? ⟨b, o + k * 4 + 2, none⟩ = some (.int .u8 t.timer) ∧ w.cell? ⟨b, o + k * 4 + 3, none⟩ = some (.int .i64 t.after) := by
  have hk := (List.getElem?_eq_some_iff.1 ht).1
  obtain ⟨b, o, hA, hc⟩ := h.at_ (j := k * 4) (by rw [flat_length _ _ Tout.enc_length]; omega)
  refine ⟨b, o, hA, hc _ _ ?_, ?_, ?_, ?_⟩
  · exact flat_get Tout.enc 4 Tout.enc_length ts k t ht 0 (by omega)
  · rw [Nat.add_assoc]; exact hc _ _ (flat_get Tout.enc 4 Tout.enc_length ts k t ht 1 (by omega))
  · rw [Nat.add_assoc]; exact hc _ _ (flat_get Tout.enc 4 Tout.enc_length ts k t ht 2 (by omega))
  · rw [Nat.add_assoc]; exact hc _ _ (flat_get Tout.enc 4 Tout.enc_length ts k t ht 3 (by omega))
theorem RdE {w : World} {A : Option Addr} {ts : List Ent} (h : Rd w A (ts.flatMap Ent.enc)) {k : Nat} {t : Ent} (ht : ts[k]? = some t) :
    ∃ b o, A = some ⟨b, o, none⟩ ∧ w.cell? ⟨b, o + k * 5, none⟩ = some (.int .i64 t.at_) ∧ w.cell? ⟨b, o + k * 5 + 1, none⟩ = some (.int .u8 t.out.kind) ∧ w.cell? ⟨b, o + k * 5 + 2, none⟩ = some (.int .i64 t.out.code) ∧ w.cell? ⟨b, o + k * 5 + 3, none⟩ = some (.int .u8 t.out.timer) ∧ w.cell? ⟨b, o + k * 5 + 4, none⟩ = some (.int .i64 t.out.after) := by
  have hk := (List.getElem?_eq_some_iff.1 ht).1
  obtain ⟨b, o, hA, hc⟩ := h.at_ (j := k * 5) (by rw [flat_length _ _ Ent.enc_length]; omega)
  refine ⟨b, o, hA, hc _ _ ?_, ?_, ?_, ?_, ?_⟩
  · exact flat_get Ent.enc 5 Ent.enc_length ts k t ht 0 (by omega)
  · rw [Nat.add_assoc]; exact hc _ _ (flat_get Ent.enc 5 Ent.enc_length ts k t ht 1 (by omega))
  · rw [Nat.add_assoc]; exact hc _ _ (flat_get Ent.enc 5 Ent.enc_length ts k t ht 2 (by omega))
  · rw [Nat.add_assoc]; exact hc _ _ (flat_get Ent.enc 5 Ent.enc_length ts k t ht 3 (by omega))
  · rw [Nat.add_assoc]; exact hc _ _ (flat_get Ent.enc 5 Ent.enc_length ts k t ht 4 (by omega))
theorem ownO_lit (w : World) (cs : Array Value) (l : List Tout) (n : Nat) (base : Nat) (hb : base ≤ w.heap.size) (hcs : cs.toList = l.flatMap Tout.enc) (hn : l.length = n) (hm : n ≤ 1000) :
    OwnO (w.alloc (.cells cs 53)) base (.slice (some ⟨w.heap.size, 0, none⟩) n n) l := by
  have h3 := flat_length _ _ Tout.enc_length l
  have := World.ownsRow_lit (base := base) (e := 53) (size := 4) w cs n hb (by simp only [maxLen]; omega) (by rw [← Array.length_toList, hcs, h3, hn])
  rw [hcs] at this
  subst hn
  exact this
theorem Tout.ne_iff (x y : Tout) : (x ≠ y) ↔ ¬ (x.kind = y.kind ∧ x.code = y.code ∧ x.timer = y.timer ∧ x.after = y.after) := by
  cases x; cases y; simp

set_option maxHeartbeats 1000000 in
theorem same_any (w : World) (v v' : Value) (xs ys : List Tout) (hv : IsO w v xs) (hv' : IsO w v' ys) :
    Calls Tryd.prog 11 #[v, v'] w fun e w' => e = .returned (.bool (decide (xs = ys))) ∧ Below w.heap.size w w' := by
  obtain ⟨A, c, rfl, hn, _, hr⟩ := hv
  obtain ⟨A', c', rfl, hn', _, hr'⟩ := hv'
  unfold maxLen at hn hn'
  by_cases hl : xs.length = ys.length
  · have hle : ((xs.length : Int) != ys.length) = false := by simp; omega
    have HL := Lib.hid hl; clear hl
    go_enter Tryd.func11, Tryd.ntmps11
    go_wp2
    go_loopw [5] (fun i wr => ∃ k n : Nat, k ≤ xs.length ∧ i = .int .i64 k ∧ wr = w.drewN n ∧ Hid (xs.take k = ys.take k)) (fun i _ => xs.length - (intOf i).toNat)
    case atStart => exact ⟨0, 0, Nat.zero_le _, rfl, rfl, by show _ = _; simp⟩
    case round =>
      obtain ⟨k, n, hk, rfl, rfl, hE⟩ := hrel
      by_cases hlt : k < xs.length
      · have hlt' : k < ys.length := by have := HL.out; omega
        obtain ⟨x, hx⟩ := get_lt hlt
        obtain ⟨y, hy⟩ := get_lt hlt'
        obtain ⟨b, o, rfl, h0, h1, h2, h3⟩ := RdO hr hx
        obtain ⟨b', o', rfl, g0, g1, g2, g3⟩ := RdO hr' hy
        have hx' := Lib.hid hx; clear hx
        have hy' := Lib.hid hy; clear hy
        by_cases hxy : x = y
        · subst hxy
          go_wp2
          refine wp_undraw (by kernel_rfl) (by kernel_rfl) (by kernel_rfl) ?_
          go_wp2
          refine ⟨rfl, rfl, ?_⟩
          go_wp2
          go_roundw
          case rel =>
            refine ⟨k + 1, n + 1, by omega, by go_num, rfl, ?_⟩
            show _ = _
            rw [List.take_add_one, List.take_add_one, hE.out, hx'.out, hy'.out]
          case measure => simp [intOf]; omega
        · have hne := (Tout.ne_iff x y).1 hxy
          have HXY := Lib.hid hxy; clear hxy
          go_wp2
          refine wp_undraw (by kernel_rfl) (by kernel_rfl) (by kernel_rfl) ?_
          go_wp2
          all_goals
            refine ⟨rfl, rfl, ?_⟩
            go_wp2
            go_ret
            exact ⟨ret_bool (by
              symm; rw [decide_eq_false_iff_not]; intro he
              have h1 := hx'.out; rw [he, hy'.out] at h1
              exact HXY.out (Option.some.inj h1).symm), (below_drewN (Below.refl _ _) n).drew⟩
      · go_wp2
        go_ret
        refine ⟨ret_bool ?_, below_drewN (Below.refl _ _) _⟩
        symm; rw [decide_eq_true_eq]
        have := hE.out
        rwa [List.take_of_length_le (by omega), List.take_of_length_le (by have := HL.out; omega)] at this
  · have hle : ((xs.length : Int) != ys.length) = true := by simp; omega
    have HL := Lib.hid hl; clear hl
    go_enter Tryd.func11, Tryd.ntmps11
    go_wp2
    go_ret
    exact ⟨ret_bool (by symm; rw [decide_eq_false_iff_not]; intro he; exact HL.out (by rw [he])), Below.refl _ _⟩
set_option maxHeartbeats 1000000 in
theorem outs_any (w : World) (v v' : Value) (xs ys : List Tout) (hv : IsO w v xs) (hv' : IsO w v' ys) :
    Calls Tryd.prog 25 #[v, v'] w fun e w' => e = .returned (.bool (decide (xs = ys))) ∧ Below w.heap.size w w' := by
  obtain ⟨A, c, rfl, hn, _, hr⟩ := hv
  obtain ⟨A', c', rfl, hn', _, hr'⟩ := hv'
  unfold maxLen at hn hn'
  by_cases hl : xs.length = ys.length
  · have hle : ((xs.length : Int) != ys.length) = false := by simp; omega
    have HL := Lib.hid hl; clear hl
    go_enter Tryd.func25, Tryd.ntmps25
    go_wp2
    go_loopw [5] (fun i wr => ∃ k n : Nat, k ≤ xs.length ∧ i = .int .i64 k ∧ wr = w.drewN n ∧ Hid (xs.take k = ys.take k)) (fun i _ => xs.length - (intOf i).toNat)
    case atStart => exact ⟨0, 0, Nat.zero_le _, rfl, rfl, by show _ = _; simp⟩
    case round =>
      obtain ⟨k, n, hk, rfl, rfl, hE⟩ := hrel
      by_cases hlt : k < xs.length
      · have hlt' : k < ys.length := by have := HL.out; omega
        obtain ⟨x, hx⟩ := get_lt hlt
        obtain ⟨y, hy⟩ := get_lt hlt'
        obtain ⟨b, o, rfl, h0, h1, h2, h3⟩ := RdO hr hx
        obtain ⟨b', o', rfl, g0, g1, g2, g3⟩ := RdO hr' hy
        have hx' := Lib.hid hx; clear hx
        have hy' := Lib.hid hy; clear hy
        by_cases hxy : x = y
        · subst hxy
          go_wp2
          refine wp_undraw (by kernel_rfl) (by kernel_rfl) (by kernel_rfl) ?_
          go_wp2
          refine ⟨rfl, rfl, ?_⟩
          go_wp2
          go_roundw
          case rel =>
            refine ⟨k + 1, n + 1, by omega, by go_num, rfl, ?_⟩
            show _ = _
            rw [List.take_add_one, List.take_add_one, hE.out, hx'.out, hy'.out]
          case measure => simp [intOf]; omega
        · have hne := (Tout.ne_iff x y).1 hxy
          have HXY := Lib.hid hxy; clear hxy
          go_wp2
          refine wp_undraw (by kernel_rfl) (by kernel_rfl) (by kernel_rfl) ?_
          go_wp2
          all_goals
            refine ⟨rfl, rfl, ?_⟩
            go_wp2
            go_ret
            exact ⟨ret_bool (by
              symm; rw [decide_eq_false_iff_not]; intro he
              have h1 := hx'.out; rw [he, hy'.out] at h1
              exact HXY.out (Option.some.inj h1).symm), (below_drewN (Below.refl _ _) n).drew⟩
      · go_wp2
        go_ret
        refine ⟨ret_bool ?_, below_drewN (Below.refl _ _) _⟩
        symm; rw [decide_eq_true_eq]
        have := hE.out
        rwa [List.take_of_length_le (by omega), List.take_of_length_le (by have := HL.out; omega)] at this
  · have hle : ((xs.length : Int) != ys.length) = true := by simp; omega
    have HL := Lib.hid hl; clear hl
    go_enter Tryd.func25, Tryd.ntmps25
    go_wp2
    go_ret
    exact ⟨ret_bool (by symm; rw [decide_eq_false_iff_not]; intro he; exact HL.out (by rw [he])), Below.refl _ _⟩

def fromB (n lo hi : Int) : Bool := decide (lo ≤ n) && decide (n ≤ hi)
theorem from_any (w : World) (n lo hi : Int) : Calls Tryd.prog 29 #[.int .i64 n, .int .i64 lo, .int .i64 hi] w fun e w' => e = .returned (.bool (fromB n lo hi)) ∧ w = w' := by
  have HE : Hid (fromB n lo hi = (decide (lo ≤ n) && decide (n ≤ hi))) := rfl
  go_enter Tryd.func29, Tryd.ntmps29
  go_wp2
  all_goals go_ret
  all_goals exact ⟨ret_bool (by rw [HE.out]; simp; try omega), rfl⟩
end Go.Proofs.YtpbanfkjeiihbaaDoor
