/- give. -/
import Derived.Test.YtpbanfkjeiihbaaDoorS5
import Derived.Test.YtpbanfkjeiihbaaDoorE
set_option linter.unusedVariables false
set_option linter.unusedSimpArgs false
namespace Go.Proofs.YtpbanfkjeiihbaaDoor
open Go.RowKit

theorem okO_of {o : Tout} (h : okOut o) : okO o := by
  obtain ⟨a, b, c, d, e, f⟩ := h
  exact ⟨a, b, c, d, by omega, by omega⟩
theorem apart_of {α β : Type} {enc : α → List Value} {enc' : β → List Value} {e e' : TypeId} {size size' base base' B : Nat} {w w' : World} {v v' : Value} {l : List α} {l' : List β} (h : OwnL enc e size w base v l) (h' : OwnL enc' e' size' w' base' v' l') (hs : w.heap.size ≤ base') : Apart v v' := by
  intro g hg hg'
  have h1 := (World.ownsRow.lt h g hg).2
  have h2 := (World.ownsRow.lt h' g hg').1
  omega
theorem OwnL.setNe {α : Type} {enc : α → List Value} {e : TypeId} {size base : Nat} {w : World} {v : Value} {l : List α} (h : OwnL enc e size w base v l) {g : Nat} (hg : ∀ k, v.ownBlock = some k → k ≠ g) (i : Nat) (u : Value) : OwnL enc e size (w.setCell ⟨g, i, none⟩ u) base v l := by
  refine ⟨h.1, ?_⟩
  rcases h.2 with hn | ⟨b, cap, cur, rfl, hbg, hg', rest⟩
  · exact .inl hn
  · refine .inr ⟨b, cap, cur, rfl, hbg, ?_, rest⟩
    rw [Below.heap_setCell w ⟨g, i, none⟩ u b (hg b rfl)]
    exact hg'
theorem At_.setNe {w : World} {g : Nat} {v : Value} {s : Sim} (h : At_ w g v s) {r : Nat} (hr : g ≠ r) (hg : ∀ k, v.ownBlock = some k → k ≠ r) (i : Nat) (u : Value) : At_ (w.setCell ⟨r, i, none⟩ u) g v s :=
  ⟨h.blk.far (p := ⟨r, i, none⟩) hr u, h.log.setNe hg i u, h.due⟩
set_option maxRecDepth 100000 in
set_option maxHeartbeats 4000000 in
theorem give_any (w : World) (g : Nat) (v : Value) (s : Sim) (i : Tin) (h : At_ w g v s) (hG : Gl w) (hg : 0 < g)
    (hnow : 0 ≤ s.now ∧ s.now ≤ 1099511627776) (hlen : s.log.length ≤ 100000000) :
    Calls Tryd.prog 17 #[.pointer (some ⟨g, 0, none⟩), i.val] w fun e w' => e = .returned (.tuple #[]) ∧ ∃ v', At_ w' g v' (giveS stepS s i) ∧ Below g w w' := by
  have hz := h.lt
  obtain ⟨k3, hok⟩ := stepS_ok s.m i
  have K3 := Lib.hid k3; clear k3
  have HOK := Lib.hid hok; clear hok
  have hA := h.alloc (.cells #[.int .u8 i.kind, .int .i64 i.code, .int .u8 i.timer] 28)
  have hb : Below g w (w.alloc (.cells #[.int .u8 i.kind, .int .i64 i.code, .int .u8 i.timer] 28)) := (Below.refl g w).alloc (by omega) _
  have hB := Blk.new w 28 #[.int .u8 i.kind, .int .i64 i.code, .int .u8 i.timer]
  have hG1 := hG.keep hb hg
  go_enter Tryd.func17, Tryd.ntmps17
  go_wp2_with fail
  generalize hw1 : w.alloc (.cells #[.int .u8 i.kind, .int .i64 i.code, .int .u8 i.timer] 28) = w1 at *
  clear hw1 h hG
  have c0 := hA.c0
  have c1 := hA.c1
  have c2 := hA.c2
  have cB := hB.cell
  have hz1 := hA.lt
  have tail : ∀ (wz : World) (r : Nat) (vl : Value) (b : Nat), At_ wz g v s → Gl wz → Blk wz r 24 #[.int .u8 (stepS s.m i).1.st, .int .i64 (stepS s.m i).1.wait, .int .i64 (stepS s.m i).1.code] → OwnO wz b vl (stepS s.m i).2 → Apart v vl → g < b → Below g w wz →
      Calls Tryd.prog 26 #[.pointer (some ⟨g, 0, none⟩), (stepS s.m i).1.val, vl] wz fun e w' => e = .returned (.tuple #[]) ∧ ∃ v', At_ w' g v' (giveS stepS s i) ∧ Below g w w' := by
    intro wz r vl b a1 a2 a3 a4 a5 a6 a7
    refine (take_any wz g b v vl s (stepS s.m i).1 (stepS s.m i).2 a1 a4 a5 a6 hnow (fun o ho => okO_of (HOK.out o ho)) (by have := K3.out; omega)).mono ?_
    rintro e w' ⟨he, v', h1, h2⟩
    exact ⟨he, v', h1, a7.trans h2⟩
  refine wp_tree (.q [0, 1, 2, 3, 4] (.two true 5 (.q [6, 7, 8] (.one true 9 (.one false 10 (.q [11] .done)))) true 9 (.one true 5 (.q [6, 7, 8] (.one false 10 (.q [11] .done)))))) (by kernel_rfl) (by kernel_rfl) ?_
  refine walkT_q ?_
  dsimp only [pickL, nthL]
  go_wp2
  refine ⟨rfl, rfl, ?_⟩
  refine walkT_two ?_ ?_
  · refine walkT_oneX ?_
    dsimp only [pickL, nthL]
    go_wp2_with fail
    refine (step_any _ s.m i hG1.drew).mono ?_
    rintro e w3 ⟨vl, rfl, hown, hb3⟩
    have hA3 := hA.drew.below hb3
    have hap : Apart v vl := apart_of (B := 0) hA.drew.log hown (Nat.le_refl _)
    have hb3' := hb.drew.trans (hb3.mono (Nat.le_of_lt hz1))
    have hG3 := hG1.drew.keep (hb3.mono (Nat.le_of_lt hz1)) hg
    obtain ⟨m', hm'⟩ : ∃ m', m' = (stepS s.m i).1 := ⟨_, rfl⟩
    rw [← hm'] at tail ⊢
    clear hm' c0 c1 c2 cB hB hA hb hG1
    go_wp2_with fail
    refine ⟨rfl, hb3, ?_⟩
    refine walkT_q ?_
    dsimp only [pickL, nthL]
    go_wp2
    refine ⟨rfl, rfl, ?_⟩
    refine walkT_oneX ?_
    dsimp only [pickL, nthL]
    go_wp2_with fail
    refine ⟨rfl, (Below.refl _ w3).alloc (Nat.le_refl _) _, ?_⟩
    refine walkT_one ?_
    dsimp only [pickL, nthL]
    go_wp2_with fail
    refine ⟨rfl, ?_⟩
    refine walkT_q ?_
    dsimp only [pickL, nthL]
    go_wp2
    refine ⟨rfl, rfl, ?_⟩
    refine walkT_done ?_
    have hA4 := hA3.alloc (.cells #[.int .u8 m'.st, .int .i64 m'.wait, .int .i64 m'.code] 24)
    have hown4 := hown.alloc (.cells #[.int .u8 m'.st, .int .i64 m'.wait, .int .i64 m'.code] 24)
    have hb4 := hb3'.alloc (Nat.le_trans (Nat.le_of_lt hz1) hb3.size) (.cells #[.int .u8 m'.st, .int .i64 m'.wait, .int .i64 m'.code] 24)
    have hG4 := hG3.keep ((Below.refl w3.heap.size w3).alloc (Nat.le_refl _) (.cells #[.int .u8 m'.st, .int .i64 m'.wait, .int .i64 m'.code] 24)) (Nat.lt_of_lt_of_le (Nat.lt_of_lt_of_le hG3.1 (Nat.le_refl _)) (Nat.le_refl _))
    have hB4 := Blk.new w3 24 #[.int .u8 m'.st, .int .i64 m'.wait, .int .i64 m'.code]
    have hc4 := hB4.cell
    go_wp2_with fail
    refine (tail _ _ vl _ hA4 hG4 hB4 hown4 hap hz1 hb4).mono ?_
    rintro e w' ⟨rfl, v', h1, h2⟩
    go_wp2
    go_end0
    exact ⟨rfl, v', h1, h2⟩
  · refine walkT_oneX ?_
    dsimp only [pickL, nthL]
    go_wp2_with fail
    have hA2 := (hA.alloc (.cells #[.int .u8 0, .int .i64 0, .int .i64 0] 24)).drew
    have hG2 := hG1.keep (((Below.refl w1.heap.size w1).alloc (Nat.le_refl _) (.cells #[.int .u8 0, .int .i64 0, .int .i64 0] 24)).drew) (Nat.lt_of_le_of_lt (Nat.zero_le _) hz1)
    have hB2 := (Blk.new w1 24 #[.int .u8 0, .int .i64 0, .int .i64 0]).drew
    have hb2 := (hb.alloc (Nat.le_of_lt hz1) (.cells #[.int .u8 0, .int .i64 0, .int .i64 0] 24)).drew
    have hz2 : (w1.alloc (.cells #[.int .u8 0, .int .i64 0, .int .i64 0] 24)).drew.heap.size = w1.heap.size + 1 := by simp
    have hlg : ∀ k, v.ownBlock = some k → k ≠ w1.heap.size := fun k hk => by
      have := (World.ownsRow.lt hA.log k hk).2
      omega
    refine ⟨rfl, (Below.refl _ w1.drew).alloc (Nat.le_refl _) _, ?_⟩
    clear c0 c1 c2 cB hB
    generalize hw2 : (w1.alloc (.cells #[.int .u8 0, .int .i64 0, .int .i64 0] 24)).drew = w2 at *
    clear hw2
    refine walkT_oneX ?_
    dsimp only [pickL, nthL]
    go_wp2_with fail
    refine (step_any _ s.m i hG2).mono ?_
    rintro e w3 ⟨vl, rfl, hown, hb3⟩
    have hA3 := hA2.below hb3
    have hap : Apart v vl := apart_of (B := 0) hA2.log hown (Nat.le_refl _)
    have hb3' := hb2.trans (hb3.mono (by omega))
    have hG3 := hG2.keep (hb3.mono (show g ≤ w2.heap.size by omega)) hg
    have hB3 := hB2.ext hb3
    obtain ⟨m', hm'⟩ : ∃ m', m' = (stepS s.m i).1 := ⟨_, rfl⟩
    rw [← hm'] at tail ⊢
    clear hm' hA hA2 hb hG1 hG2 hB2 hb2
    have e0 := hB3.cell
    have f0 := hB3.frozen
    have HZ2 := Lib.hid hz2
    clear hz2
    go_wp2_with fail
    refine ⟨rfl, hb3, ?_⟩
    refine walkT_q ?_
    dsimp only [pickL, nthL]
    go_wp2
    refine ⟨rfl, rfl, ?_⟩
    refine walkT_one ?_
    dsimp only [pickL, nthL]
    go_wp2_with fail
    refine ⟨rfl, ?_⟩
    refine walkT_q ?_
    dsimp only [pickL, nthL]
    go_wp2
    refine ⟨rfl, rfl, ?_⟩
    refine walkT_done ?_
    have hgr : g ≠ w1.heap.size := by omega
    have hA4 := ((hA3.setNe hgr hlg 0 (.int .u8 m'.st)).setNe hgr hlg 1 (.int .i64 m'.wait)).setNe hgr hlg 2 (.int .i64 m'.code)
    have hr2 : w1.heap.size < w2.heap.size := by have := HZ2.out; omega
    have hown4 := ((hown.setFar hr2 0 (.int .u8 m'.st)).setFar hr2 1 (.int .i64 m'.wait)).setFar hr2 2 (.int .i64 m'.code)
    have hgr' : g ≤ w1.heap.size := by omega
    have hb4 := below_set (below_set (below_set hb3' hgr' 0 (.int .u8 m'.st)) hgr' 1 (.int .i64 m'.wait)) hgr' 2 (.int .i64 m'.code)
    have hG4 := hG3.keep (below_set (below_set (below_set (Below.refl g w3) hgr' 0 (.int .u8 m'.st)) hgr' 1 (.int .i64 m'.wait)) hgr' 2 (.int .i64 m'.code)) hg
    have hB4 := ((hB3.set_ 0 (.int .u8 m'.st)).set_ 1 (.int .i64 m'.wait)).set_ 2 (.int .i64 m'.code)
    have hc4 := hB4.cell
    clear e0 f0
    go_wp2_with fail
    refine (tail _ _ vl _ hA4 hG4 hB4 hown4 hap (Nat.lt_trans hz1 hr2) hb4).mono ?_
    rintro e w' ⟨rfl, v', h1, h2⟩
    go_wp2
    go_end0
    exact ⟨rfl, v', h1, h2⟩
end Go.Proofs.YtpbanfkjeiihbaaDoor
