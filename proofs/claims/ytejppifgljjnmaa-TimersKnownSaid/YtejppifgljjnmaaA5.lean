import Derived.Test.YtejppifgljjnmaaA4
set_option linter.unusedVariables false
set_option linter.unusedSimpArgs false
namespace Go.Proofs.Ytejppifgljjnmaa
open Go.RowKit

set_option maxHeartbeats 1000000 in
theorem spoil_any (w : World) (base : Nat) (v : Value) (ts : List Tm) (hv : OwnT w base v ts) :
    Calls Try.prog 17 #[v] w fun e w' => e = .returned (.tuple #[]) ∧ w.grownBy w' v.ownBlock := by
  rcases hv.2 with ⟨rfl, hn⟩ | ⟨g, cap, cur, rfl, hbg, hg, hnc, hm, hsz, ht⟩
  · go_enter Try.func17, Try.ntmps17
    go_wp2
    go_loopw [2] (fun i wr => i = .int .i64 0 ∧ wr = w) (fun _ _ => 0)
    case atStart => exact ⟨rfl, rfl⟩
    case round =>
      obtain ⟨rfl, rfl⟩ := hrel
      go_wp2
      go_end0
      exact ⟨rfl, World.grownBy.refl _ _⟩
  · have hB : Blk w g 28 cur := hg
    clear hg ht hv
    unfold maxLen at hm
    have HS := Lib.hid hsz; clear hsz
    go_enter Try.func17, Try.ntmps17
    go_wp2
    go_loopw [2] (fun i wr => ∃ k : Nat, ∃ cu : Array Value, k ≤ cap ∧ i = .int .i64 k ∧ Blk wr g 28 cu ∧ Hid (cu.size = cap * 3) ∧ w.grownBy wr (some g)) (fun i _ => cap - (intOf i).toNat)
    case atStart => exact ⟨0, cur, Nat.zero_le _, rfl, hB, HS, World.grownBy.refl _ _⟩
    case round =>
      obtain ⟨k, cu, hk, rfl, hB2, HS2, hgr⟩ := hrel
      by_cases hlt : k < cap
      · obtain ⟨u0, h0⟩ : ∃ u, wr.cell? ⟨g, k * 3, none⟩ = some u := by
          rw [hB2.cell]; exact ⟨_, Array.getElem?_eq_getElem (by have := HS2.out; omega)⟩
        obtain ⟨u1, h1⟩ : ∃ u, wr.cell? ⟨g, k * 3 + 1, none⟩ = some u := by
          rw [hB2.cell]; exact ⟨_, Array.getElem?_eq_getElem (by have := HS2.out; omega)⟩
        obtain ⟨u2', h2⟩ : ∃ u, wr.cell? ⟨g, k * 3 + 2, none⟩ = some u := by
          rw [hB2.cell]; exact ⟨_, Array.getElem?_eq_getElem (by have := HS2.out; omega)⟩
        have hfz := hB2.frozen
        go_wp2
        go_roundw
        case rel =>
          refine ⟨k + 1, _, by omega, by go_num, ((hB2.set_ _ _).set_ _ _).set_ _ _, ?_, grownBy_set (grownBy_set (grownBy_set hgr _ _) _ _) _ _⟩
          show _ = _
          simp only [Array.size_setIfInBounds]
          exact HS2.out
        case measure => simp [intOf]; omega
      · go_wp2
        go_end0
        exact ⟨rfl, hgr⟩

/-! ### the closures -/
set_option maxHeartbeats 400000 in
theorem clo35 (w : World) (t : Tm) (p : Nat) (now : Int) (hc : w.cell? ⟨p, 0, none⟩ = some (.int .i64 now)) :
    Calls Try.prog 35 #[t.val, .pointer (some ⟨p, 0, none⟩)] w fun e w' => e = .returned (.bool (decide (now < t.at_))) ∧ Below w.heap.size w w' := by
  have hc' : ∀ o, (w.alloc o).cell? ⟨p, 0, none⟩ = some (.int .i64 now) := fun o => by rw [World.cell?_alloc_lt w o _ (World.block_lt_of_cell? w _ hc)]; exact hc
  go_enter Try.func35, Try.ntmps35
  go_wp2
  go_ret
  exact ⟨rfl, (Below.refl _ _).alloc (Nat.le_refl _) _⟩
set_option maxHeartbeats 400000 in
theorem clo36 (w : World) (t : Tm) (p : Nat) (now : Int) (hc : w.cell? ⟨p, 0, none⟩ = some (.int .i64 now)) :
    Calls Try.prog 36 #[t.val, .pointer (some ⟨p, 0, none⟩)] w fun e w' => e = .returned (.bool (decide (t.at_ ≤ now))) ∧ Below w.heap.size w w' := by
  have hc' : ∀ o, (w.alloc o).cell? ⟨p, 0, none⟩ = some (.int .i64 now) := fun o => by rw [World.cell?_alloc_lt w o _ (World.block_lt_of_cell? w _ hc)]; exact hc
  go_enter Try.func36, Try.ntmps36
  go_wp2
  go_ret
  exact ⟨rfl, (Below.refl _ _).alloc (Nat.le_refl _) _⟩
set_option maxHeartbeats 400000 in
theorem clo39 (w : World) (t : Tm) (p : Nat) (now : Int) (hc : w.cell? ⟨p, 0, none⟩ = some (.int .i64 now)) :
    Calls Try.prog 39 #[t.val, .pointer (some ⟨p, 0, none⟩)] w fun e w' => e = .returned (.bool (t.owner == now)) ∧ Below w.heap.size w w' := by
  have hc' : ∀ o, (w.alloc o).cell? ⟨p, 0, none⟩ = some (.int .i64 now) := fun o => by rw [World.cell?_alloc_lt w o _ (World.block_lt_of_cell? w _ hc)]; exact hc
  go_enter Try.func39, Try.ntmps39
  go_wp2
  go_ret
  exact ⟨rfl, (Below.refl _ _).alloc (Nat.le_refl _) _⟩
set_option maxHeartbeats 400000 in
theorem clo38 (w : World) (t : Tm) (p q : Nat) (own kind : Int) (hc : w.cell? ⟨p, 0, none⟩ = some (.int .i64 own)) (hd : w.cell? ⟨q, 0, none⟩ = some (.int .i64 kind)) :
    Calls Try.prog 38 #[t.val, .pointer (some ⟨p, 0, none⟩), .pointer (some ⟨q, 0, none⟩)] w fun e w' => e = .returned (.bool (t.owner == own && t.kind == kind)) ∧ Below w.heap.size w w' := by
  have hc' : ∀ o, (w.alloc o).cell? ⟨p, 0, none⟩ = some (.int .i64 own) := fun o => by rw [World.cell?_alloc_lt w o _ (World.block_lt_of_cell? w _ hc)]; exact hc
  have hd' : ∀ o, (w.alloc o).cell? ⟨q, 0, none⟩ = some (.int .i64 kind) := fun o => by rw [World.cell?_alloc_lt w o _ (World.block_lt_of_cell? w _ hd)]; exact hd
  have HE : Hid ((t.owner == own && t.kind == kind) = if t.owner = own then decide (t.kind = kind) else false) := by
    show _ = _; by_cases h : t.owner = own <;> simp [h]
    rfl
  by_cases h1 : t.owner = own
  · have h1' : (t.owner == own) = true := by simpa using h1
    go_enter Try.func38, Try.ntmps38
    go_wp2
    go_ret
    exact ⟨by simp; omega, (Below.refl _ _).alloc (Nat.le_refl _) _⟩
  · have h1' : (t.owner == own) = false := by simpa using h1
    go_enter Try.func38, Try.ntmps38
    go_wp2
    go_ret
    exact ⟨by simp; omega, (Below.refl _ _).alloc (Nat.le_refl _) _⟩

def withoutR (ts : List Tm) (g : Tm → Bool) : List Tm := if validB ts = true then ts.filter fun t => !g t else []
theorem withoutR_le (ts : List Tm) (g : Tm → Bool) : (withoutR ts g).length ≤ ts.length := by
  unfold withoutR; split
  · exact List.length_filter_le _ _
  · simp
end Go.Proofs.Ytejppifgljjnmaa
