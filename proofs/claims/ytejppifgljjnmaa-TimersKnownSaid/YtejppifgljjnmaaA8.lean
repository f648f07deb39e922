import Derived.Test.YtejppifgljjnmaaA7
set_option linter.unusedVariables false
set_option linter.unusedSimpArgs false
namespace Go.Proofs.Ytejppifgljjnmaa
open Go.RowKit

def restartR (ts : List Tm) (t : Tm) : List Tm × Int := if (validB ts && timelyB t) = true then addR (cancelR ts t.owner t.kind) t else ([], 2)
theorem cancelR_le (ts : List Tm) (o k : Int) : (cancelR ts o k).length ≤ ts.length := withoutR_le ts _

set_option maxRecDepth 100000 in
set_option maxHeartbeats 1000000 in
theorem restart_any (w : World) (v : Value) (ts : List Tm) (t : Tm) (hv : IsT w v ts) (hsz : ts.length ≤ 1100) :
    Calls Try.prog 24 #[v, t.val] w fun e w' => ∃ v', e = .returned (.tuple #[v', .int .u8 (restartR ts t).2]) ∧ OwnT w' w.heap.size v' (restartR ts t).1 ∧ Below w.heap.size w w' := by
  have hv1 := hv.alloc (.cells #[.int .i64 t.at_, .int .i64 t.owner, .int .i64 t.kind] 28)
  cases hV : validB ts
  · have HE : Hid (restartR ts t = ([], 2)) := by show _ = _; simp [restartR, hV]
    go_enter Try.func24, Try.ntmps24
    go_wp2_with (go_at_call 11; refine (valid_any _ _ ts hv1).mono ?_; rw [hV]; rintro e w1 ⟨rfl, hb1⟩)
    go_ret2
    exact ⟨.slice none 0 0, ret2 rfl (by rw [HE.out]; rfl), by rw [HE.out]; exact OwnL.nil _ _, ((Below.refl _ _).alloc (Nat.le_refl _) _).trans (hb1.mono (by simp))⟩
  cases hT : timelyB t
  · have HE : Hid (restartR ts t = ([], 2)) := by show _ = _; simp [restartR, hT]
    go_enter Try.func24, Try.ntmps24
    go_wp2_with (go_at_call 11; refine (valid_any _ _ ts hv1).mono ?_; rw [hV]; rintro e w1 ⟨rfl, hb1⟩; have hc1 := ((Blk.new w 28 #[.int .i64 t.at_, .int .i64 t.owner, .int .i64 t.kind]).ext hb1).cell)
    refine (timely_any _ t).mono ?_
    rw [hT]
    rintro e w2 ⟨rfl, hb2⟩
    go_wp2
    go_ret2
    exact ⟨.slice none 0 0, ret2 rfl (by rw [HE.out]; rfl), by rw [HE.out]; exact OwnL.nil _ _, (((Below.refl _ _).alloc (Nat.le_refl _) _).trans (hb1.mono (by simp))).trans (hb2.mono (by have := hb1.size; simp at this; omega))⟩
  have HE : Hid (restartR ts t = addR (cancelR ts t.owner t.kind) t) := by show _ = _; simp [restartR, hT, hV]
  have HL := Lib.hid (cancelR_le ts t.owner t.kind)
  go_enter Try.func24, Try.ntmps24
  go_wp2_with (go_at_call 11; refine (valid_any _ _ ts hv1).mono ?_; rw [hV]; rintro e w1 ⟨rfl, hb1⟩; have hc1 := ((Blk.new w 28 #[.int .i64 t.at_, .int .i64 t.owner, .int .i64 t.kind]).ext hb1).cell)
  refine (timely_any _ t).mono ?_
  rw [hT]
  rintro e w2 ⟨rfl, hb2⟩
  have hz1 : w.heap.size < w1.heap.size := by have := hb1.size; simp at this; omega
  have hb : Below w.heap.size w w2 := (((Below.refl _ _).alloc (Nat.le_refl _) _).trans (hb1.mono (by simp))).trans (hb2.mono (by omega))
  have hB := ((Blk.new w 28 #[.int .i64 t.at_, .int .i64 t.owner, .int .i64 t.kind]).ext hb1).ext hb2
  have hv2 := (hv1.below hb1).below hb2
  have hz2 : w.heap.size < w2.heap.size := hB.lt
  clear hc1 hb1 hb2 hv1 hv hz1 hV hT
  have hBc := hB.cell
  go_wp2_with fail
  refine wp_order [(0, [0, 1, 2, 3, 4, 6]), (1, [5]), (2, [7]), (0, [8, 9, 10, 11])] (by kernel_rfl) (by kernel_rfl) ?_
  refine walk0 ?_
  dsimp only [pickL, nthL]
  go_wp2
  refine ⟨rfl, rfl, ?_⟩
  refine walk1 ?_
  dsimp only [pickL, nthL]
  go_wp2_with fail
  refine (cancel_any _ v ts t.owner t.kind hv2.drew hsz).mono ?_
  rintro e w3 ⟨v1, rfl, hown1, hbE⟩
  have hb3 : Below w2.heap.size w2 w3 := un1 hbE
  have hz3 : w.heap.size < w3.heap.size := Nat.lt_of_lt_of_le hz2 hb3.size
  go_wp2_with fail
  refine ⟨rfl, hbE, ?_⟩
  refine walk2 ?_
  dsimp only [pickL, nthL]
  go_wp2_with fail
  refine (add_any _ v1 _ t hown1.is (by have := HL.out; omega)).mono ?_
  rintro e w4 ⟨v2, rfl, hown2, hb4⟩
  go_wp2_with fail
  refine ⟨rfl, ?_⟩
  refine walk0 ?_
  dsimp only [pickL, nthL]
  go_wp2
  refine ⟨rfl, rfl, ?_⟩
  refine walk_nil ?_
  go_wp2
  go_ret2
  refine ⟨v2, ret2 rfl (by rw [HE.out]; rfl), ?_, (hb.trans (hb3.mono (by omega))).trans (hb4.mono (by omega))⟩
  rw [HE.out]
  exact hown2.base_le (by omega)

def exT : List Tm := [⟨3, 1, 1⟩, ⟨5, 1, 2⟩, ⟨8, 2, 1⟩]
theorem ownT_lit (w : World) (cs : Array Value) (l : List Tm) (n : Nat) (base : Nat) (hb : base ≤ w.heap.size) (hcs : cs.toList = cellsT l) (hn : l.length = n) (hm : n ≤ 1000) :
    OwnT (w.alloc (.cells cs 28)) base (.slice (some ⟨w.heap.size, 0, none⟩) n n) l := by
  have h3 := cellsT_length l
  have := World.ownsRow_lit (base := base) (e := 28) (size := 3) w cs n hb (by simp only [maxLen]; omega) (by rw [← Array.length_toList, hcs, h3, hn])
  rw [hcs] at this
  subst hn
  exact this
set_option maxHeartbeats 400000 in
theorem example_any (w : World) : Calls Try.prog 33 #[] w fun e w' => ∃ v, e = .returned v ∧ OwnT w' w.heap.size v exT ∧ Below w.heap.size w w' := by
  go_enter Try.func33, Try.ntmps33
  go_wp2
  go_ret
  exact ⟨_, rfl, ownT_lit w _ exT 3 _ (Nat.le_refl _) rfl rfl (by omega), (Below.refl _ _).alloc (Nat.le_refl _) _⟩
end Go.Proofs.Ytejppifgljjnmaa
