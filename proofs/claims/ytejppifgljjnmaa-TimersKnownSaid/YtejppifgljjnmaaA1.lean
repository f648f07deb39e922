import Derived.Test.YtejppifgljjnmaaT
set_option linter.unusedVariables false
namespace Go.Proofs.Ytejppifgljjnmaa
open Go.RowKit

def vf : Int → List Tm → Bool
  | _, [] => true
  | last, t :: r => decide (last ≤ t.at_) && decide (t.at_ ≤ 1099511627776) && vf t.at_ r
def validB (ts : List Tm) : Bool := decide (ts.length ≤ 1000) && vf 0 ts

set_option maxHeartbeats 400000 in
theorem valid_any (w : World) (v : Value) (ts : List Tm) (hv : IsT w v ts) :
    Calls Try.prog 11 #[v] w fun e w' => e = .returned (.bool (validB ts)) ∧ Below w.heap.size w w' := by
  obtain ⟨A, c, rfl, hn, _, hr⟩ := hv
  unfold maxLen at hn
  by_cases h1000 : ts.length ≤ 1000
  · have HE : Hid (validB ts = vf 0 ts) := by show _ = _; simp [validB, h1000]
    go_enter Try.func11, Try.ntmps11
    go_wp2
    go_loopw [3, 5, 11] (fun a s i wr => ∃ k : Nat, ∃ last : Int, k ≤ ts.length ∧ i = .int .i64 k ∧ a = .int .i64 last ∧ Hid (vf 0 ts = vf last (ts.drop k)) ∧ Below w.heap.size w wr) (fun _ _ i _ => ts.length - (intOf i).toNat)
    case atStart => exact ⟨0, 0, Nat.zero_le _, rfl, rfl, rfl, Below.refl _ _⟩
    case round =>
      obtain ⟨k, last, hk, rfl, rfl, hF, hb⟩ := hrel
      by_cases hlt : k < ts.length
      · obtain ⟨t, ht⟩ := get_lt hlt
        obtain ⟨b, o, rfl, h0, h1, h2⟩ := RdT (hr.below hb) ht
        have hF2 : Hid (vf 0 ts = (decide (last ≤ t.at_) && decide (t.at_ ≤ 1099511627776) && vf t.at_ (ts.drop (k+1)))) := by
          show _ = _; rw [hF.out, drop_get ht]; rfl
        clear hF
        have ht' := Lib.hid ht; clear ht
        have hb' := hb.alloc hb.size (.cells #[.int .i64 t.at_, .int .i64 t.owner, .int .i64 t.kind] 28)
        by_cases h3 : last ≤ t.at_
        · by_cases h4 : t.at_ ≤ 1099511627776
          · go_wp2
            go_roundw
            case rel => exact ⟨k + 1, t.at_, by omega, by go_num, rfl, by show _ = _; rw [hF2.out]; simp [h3, h4], hb'⟩
            case measure => simp [intOf]; omega
          · go_wp2
            go_ret
            exact ⟨ret_bool (by rw [HE.out, hF2.out]; simp; intros; omega), hb'⟩
        · go_wp2
          go_ret
          exact ⟨ret_bool (by rw [HE.out, hF2.out]; simp; intros; omega), hb'⟩
      · go_wp2
        go_ret
        exact ⟨ret_bool (by rw [HE.out, hF.out, List.drop_eq_nil_of_le (by omega)]; rfl), hb⟩
  · go_enter Try.func11, Try.ntmps11
    go_wp2
    go_ret
    exact ⟨ret_bool (by simp [validB, h1000]), Below.refl _ _⟩

/-- the time before place k -/
def lastAt (ts : List Tm) (k : Nat) : Int := if k = 0 then 0 else (ts[k-1]?.map Tm.at_).getD 0
theorem lastAt_succ (ts : List Tm) (k : Nat) (t : Tm) (h : ts[k]? = some t) : lastAt ts (k+1) = t.at_ := by simp [lastAt, h]

set_option maxHeartbeats 1000000 in
theorem refValid_any (w : World) (v : Value) (ts : List Tm) (hv : IsT w v ts) :
    Calls Try.prog 21 #[v] w fun e w' => e = .returned (.bool (validB ts)) ∧ Below w.heap.size w w' := by
  obtain ⟨A, c, rfl, hn, _, hr⟩ := hv
  unfold maxLen at hn
  by_cases h1000 : ts.length ≤ 1000
  · have HE : Hid (validB ts = vf 0 ts) := by show _ = _; simp [validB, h1000]
    go_enter Try.func21, Try.ntmps21
    go_wp2
    go_loopw [3] (fun i wr => ∃ k : Nat, ∃ last : Int, k ≤ ts.length ∧ i = .int .i64 k ∧ 0 ≤ last ∧ Hid (last = lastAt ts k) ∧ Hid (vf 0 ts = vf last (ts.drop k)) ∧ Below w.heap.size w wr) (fun i _ => ts.length - (intOf i).toNat)
    case atStart => exact ⟨0, 0, Nat.zero_le _, rfl, by omega, rfl, rfl, Below.refl _ _⟩
    case round =>
      obtain ⟨k, last, hk, rfl, hl0, hla, hF, hb⟩ := hrel
      by_cases hlt : k < ts.length
      · obtain ⟨t, ht⟩ := get_lt hlt
        obtain ⟨b, o, rfl, h0, h1, h2⟩ := RdT (hr.below hb) ht
        have hF2 : Hid (vf 0 ts = (decide (last ≤ t.at_) && decide (t.at_ ≤ 1099511627776) && vf t.at_ (ts.drop (k+1)))) := by
          show _ = _; rw [hF.out, drop_get ht]; rfl
        clear hF
        have ht' := Lib.hid ht
        have hls := Lib.hid (lastAt_succ ts k t ht)
        have hbN : Below w.heap.size w wr.drew := hb.drew
        rcases Nat.eq_zero_or_pos k with hk0 | hk0
        · subst hk0
          have hl : last = 0 := hla.out
          subst hl
          clear ht
          simp only [Nat.zero_mul, Nat.add_zero] at h0 h1 h2
          go_wp2
          refine wp_undraw (by kernel_rfl) (by kernel_rfl) (by kernel_rfl) ?_
          go_wp2
          all_goals refine ⟨rfl, rfl, ?_⟩
          all_goals go_wp2
          all_goals try (go_ret; exact ⟨ret_bool (by rw [HE.out, hF2.out]; simp; intros; omega), hbN⟩)
          · go_roundw
            case rel => exact ⟨1, t.at_, by omega, by go_num, by omega, hls.out.symm, by show _ = _; rw [hF2.out]; simp; intros; omega, hbN⟩
            case measure => simp [intOf]; omega
        · obtain ⟨t', ht1⟩ := get_lt (show k - 1 < ts.length by omega)
          obtain ⟨b', o', he, g0, g1, g2⟩ := RdT (hr.below hb) ht1
          injection he with he; injection he with hb1 ho1; subst hb1; subst ho1
          have hl : last = t'.at_ := by rw [hla.out, lastAt, if_neg (by omega), ht1]; rfl
          subst hl
          clear ht ht1 hla
          go_wp2
          refine wp_undraw (by kernel_rfl) (by kernel_rfl) (by kernel_rfl) ?_
          go_wp2
          all_goals refine ⟨rfl, rfl, ?_⟩
          all_goals go_wp2
          all_goals try (go_ret; exact ⟨ret_bool (by rw [HE.out, hF2.out]; simp; intros; omega), hbN⟩)
          · go_roundw
            case rel => exact ⟨k + 1, t.at_, by omega, by go_num, by omega, hls.out.symm, by show _ = _; rw [hF2.out]; simp; intros; omega, hbN⟩
            case measure => simp [intOf]; omega
      · go_wp2
        go_ret
        exact ⟨ret_bool (by rw [HE.out, hF.out, List.drop_eq_nil_of_le (by omega)]; rfl), hb⟩
  · go_enter Try.func21, Try.ntmps21
    go_wp2
    go_ret
    exact ⟨ret_bool (by simp [validB, h1000]), Below.refl _ _⟩
end Go.Proofs.Ytejppifgljjnmaa
