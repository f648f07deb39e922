import Derived.Test.YtkmfgldoljegoaaQ6p
set_option linter.unusedVariables false
set_option linter.unusedSimpArgs false
set_option maxRecDepth 100000
set_option maxHeartbeats 4000000
namespace Go.Proofs.Ytkmfgldoljegoaa
open Go.RowKit
noncomputable def fjnB (a1 : List Int) : (Int × (List Ca × (List Se × (Int × (Int × (Int × (Int × Int))))))) → Option ((Int × (List Ca × (List Se × (Int × (Int × (Int × (Int × Int))))))) ⊕ ((List Ca × (List Se × (Int × (Int × (Int × (Int × Int)))))) ⊕ Bool)) :=
(fun (v12, (v13, (v14, (v15, (v16, (v17, (v18, v19))))))) =>
 bif (decide (v12 < (minA (((List.length a1) : Nat) : Int) (20 : Int)))) then
 bif (decide (((0 : Int) ≤ v12) ∧ (v12 < (((List.length a1) : Nat) : Int)))) then 
 bindO a1[(Int.toNat v12)]? fun x21 =>
 bindO (queues_Join ((v13, (v14, (v15, (v16, (v17, (v18, v19)))))), ((Go.IntKind.wrap .i64 (v12 + (1 : Int))), ((Go.IntKind.wrap .i64 (Int.tmod x21 (4 : Int))), v12)))) fun ((x25, (x26, (x27, (x28, (x29, (x30, x31)))))), (x32, x33)) =>
 bif (decide (x33 ≠ (0 : Int))) then
 outO (outO (some Bool.false))
 else
 bif (decide ((((List.length x32) : Nat) : Int) ≠ (0 : Int))) then
 outO (outO (some Bool.false))
 else
 some (Sum.inl ((Go.IntKind.wrap .i64 (v12 + (1 : Int))), (x25, (x26, (x27, (x28, (x29, (x30, x31))))))))
 else none
 else
 outO (some (Sum.inl (v13, (v14, (v15, (v16, (v17, (v18, v19)))))))))
noncomputable def fckB (a1 : List Int) (v43 : List Bool) (x64 : Ac) : Int → Option (Int ⊕ (Int ⊕ ((Int × (List Ac × ((List Ca × (List Se × (Int × (Int × (Int × (Int × Int)))))) × List Bool))) ⊕ ((Int × (List Bool × (List Ca × (List Se × (Int × (Int × (Int × (Int × Int)))))))) ⊕ ((List Bool × (List Ca × (List Se × (Int × (Int × (Int × (Int × Int))))))) ⊕ Bool))))) :=
(fun v69 =>
 bif (decide (v69 ≤ (minA (((List.length a1) : Nat) : Int) (20 : Int)))) then
 bindO (some (Go.IntKind.wrap .i64 (v69 - (1 : Int)))) fun x70 =>
 bif (decide (((0 : Int) ≤ x70) ∧ (x70 < (((List.length a1) : Nat) : Int)))) then 
 bindO a1[(Int.toNat x70)]? fun x71 =>
 bindO (some (Go.IntKind.wrap .i64 (x64.2.1 - (1 : Int)))) fun x73 =>
 bif (decide (((0 : Int) ≤ x73) ∧ (x73 < (((List.length a1) : Nat) : Int)))) then 
 bindO a1[(Int.toNat x73)]? fun x74 =>
 bif (decide ((Int.tmod x71 (4 : Int)) > (Int.tmod x74 (4 : Int)))) then
 bif (decide (((0 : Int) ≤ v69) ∧ (v69 < (21 : Int)))) then 
 bindO v43[(Int.toNat v69)]? fun x76 =>
 bif (!x76) then
 outO (outO (outO (outO (outO (some Bool.false)))))
 else
 some (Sum.inl (Go.IntKind.wrap .i64 (v69 + (1 : Int))))
 else none
 else
 bindO (some (Go.IntKind.wrap .i64 (v69 - (1 : Int)))) fun x78 =>
 bif (decide (((0 : Int) ≤ x78) ∧ (x78 < (((List.length a1) : Nat) : Int)))) then 
 bindO a1[(Int.toNat x78)]? fun x79 =>
 bindO (some (Go.IntKind.wrap .i64 (x64.2.1 - (1 : Int)))) fun x81 =>
 bif (decide (((0 : Int) ≤ x81) ∧ (x81 < (((List.length a1) : Nat) : Int)))) then 
 bindO a1[(Int.toNat x81)]? fun x82 =>
 bif (decide ((Int.tmod x79 (4 : Int)) = (Int.tmod x82 (4 : Int)))) then
 bif (decide (((0 : Int) ≤ v69) ∧ (v69 < (21 : Int)))) then 
 bindO v43[(Int.toNat v69)]? fun x84 =>
 bif (!x84) then
 bif (decide (v69 < x64.2.1)) then
 outO (outO (outO (outO (outO (some Bool.false)))))
 else
 some (Sum.inl (Go.IntKind.wrap .i64 (v69 + (1 : Int))))
 else
 some (Sum.inl (Go.IntKind.wrap .i64 (v69 + (1 : Int))))
 else none
 else
 bif (decide (((0 : Int) ≤ v69) ∧ (v69 < (21 : Int)))) then 
 bindO v43[(Int.toNat v69)]? fun x87 =>
 bif (!x87) then
 some (Sum.inl (Go.IntKind.wrap .i64 (v69 + (1 : Int))))
 else
 some (Sum.inl (Go.IntKind.wrap .i64 (v69 + (1 : Int))))
 else none
 else none
 else none
 else none
 else none
 else
 outO (some (Sum.inl v69)))
noncomputable def flgB (a1 : List Int) (a2 : Int) : (Int × (List Bool × (List Ca × (List Se × (Int × (Int × (Int × (Int × Int)))))))) → Option ((Int × (List Bool × (List Ca × (List Se × (Int × (Int × (Int × (Int × Int)))))))) ⊕ ((List Bool × (List Ca × (List Se × (Int × (Int × (Int × (Int × Int))))))) ⊕ Bool)) :=
(fun (v42, (v43, (v44, (v45, (v46, (v47, (v48, (v49, v50)))))))) =>
 bif (decide (v42 < (Go.IntKind.wrap .i64 (Int.tmod a2 (21 : Int))))) then
 joinO (bindO (queues_Login ((v44, (v45, (v46, (v47, (v48, (v49, v50)))))), ((Go.IntKind.wrap .i64 ((50 : Int) + v42)), (30 : Int)))) fun ((x55, (x56, (x57, (x58, (x59, (x60, x61)))))), (x62, x63)) =>
 bif (decide (x63 ≠ (0 : Int))) then
 outO (outO (outO (some Bool.false)))
 else
 bif (decide (v42 ≥ (minA (((List.length a1) : Nat) : Int) (20 : Int)))) then
 bif (decide ((((List.length x62) : Nat) : Int) ≠ (0 : Int))) then
 outO (outO (outO (some Bool.false)))
 else
 some (Sum.inl (x63, (x62, ((x55, (x56, (x57, (x58, (x59, (x60, x61)))))), v43))))
 else
 bif (decide ((((List.length x62) : Nat) : Int) ≠ (1 : Int))) then
 outO (outO (outO (some Bool.false)))
 else
 bif (decide (((0 : Int) ≤ (0 : Int)) ∧ ((0 : Int) < (((List.length x62) : Nat) : Int)))) then 
 bindO x62[0]? fun x64 =>
 joinO (bif (decide (((0 : Int) ≤ (0 : Int)) ∧ ((0 : Int) < (((List.length x62) : Nat) : Int)))) then 
 bindO x62[0]? fun x65 =>
 bif (decide (x65.1 ≠ (1 : Int))) then
 outO (outO (outO (outO (some Bool.false))))
 else
 bif (decide (((0 : Int) ≤ (0 : Int)) ∧ ((0 : Int) < (((List.length x62) : Nat) : Int)))) then 
 bindO x62[0]? fun x66 =>
 bif (decide (x66.2.2 ≠ (Go.IntKind.wrap .i64 ((50 : Int) + v42)))) then
 outO (outO (outO (outO (some Bool.false))))
 else
 bif (decide (x64.2.1 < (1 : Int))) then
 outO (outO (outO (outO (some Bool.false))))
 else
 bif (decide (x64.2.1 > (minA (((List.length a1) : Nat) : Int) (20 : Int)))) then
 outO (outO (outO (outO (some Bool.false))))
 else
 bif (decide (((0 : Int) ≤ x64.2.1) ∧ (x64.2.1 < (21 : Int)))) then 
 bindO v43[(Int.toNat x64.2.1)]? fun x68 =>
 bif x68 then
 outO (outO (outO (outO (some Bool.false))))
 else
 some (Sum.inl ())
 else none
 else none
 else none) fun _ =>
 joinO (loopO (fckB a1 v43 x64) (1 : Int)) fun v90 =>
 bif (decide (((0 : Int) ≤ x64.2.1) ∧ (x64.2.1 < (21 : Int)))) then 
 bif (decide ((Int.toNat x64.2.1) < (List.length v43))) then 
 some (Sum.inl (x63, (x62, ((x55, (x56, (x57, (x58, (x59, (x60, x61)))))), (List.set v43 (Int.toNat x64.2.1) Bool.true)))))
 else none
 else none
 else none) fun (v91, (v92, ((v93, (v94, (v95, (v96, (v97, (v98, v99)))))), v100))) =>
 some (Sum.inl ((Go.IntKind.wrap .i64 (v42 + (1 : Int))), (v100, (v93, (v94, (v95, (v96, (v97, (v98, v99)))))))))
 else
 outO (some (Sum.inl (v43, (v44, (v45, (v46, (v47, (v48, (v49, v50))))))))))
theorem fair_eq (a1 : List Int) (a2 : Int) : dialtonelaw36_QueuesFair (a1, a2) =

  bindO (queues_NewQueue ((20 : Int), ((0 : Int), ((1000 : Int), (0 : Int))))) fun ((x4, (x5, (x6, (x7, (x8, (x9, x10)))))), x11) =>
  bif (decide (x11 ≠ (0 : Int))) then
   some Bool.false
  else
   joinO (loopO (fjnB a1) ((0 : Int), (x4, (x5, (x6, (x7, (x8, (x9, x10)))))))) fun (v35, (v36, (v37, (v38, (v39, (v40, v41)))))) =>
   joinO (loopO (flgB a1 a2) ((0 : Int), ((List.replicate 21 Bool.false), (v35, (v36, (v37, (v38, (v39, (v40, v41))))))))) fun (v102, (v103, (v104, (v105, (v106, (v107, (v108, v109))))))) =>
   bindO (dialtonelaw36_rings (v103, (v104, (v105, (v106, (v107, (v108, v109))))))) fun x110 =>
   bif x110 then
    some Bool.true
   else
    some Bool.false := by kernel_rfl
theorem iter_stop {α : Type} {f : α → Option α} {w : α} (h : f w = none) : ∀ n, iter f n w = w := by
  intro n
  cases n with
  | zero => rfl
  | succ n => unfold iter; rw [h]
theorem match_stop {T : Int} {w : Wk} (h : mstep w = none) : matchM T w = w := iter_stop h _
theorem match_one {T : Int} {K : Nat} {w w' : Wk} (hg : GW T K w) (h : mstep w = some w') (h' : mstep w' = none) : matchM T w = w' := by
  have := (mstep_ok hg h).2
  unfold matchM
  generalize hn : PhiW T w = n at this ⊢
  cases n with
  | zero => omega
  | succ n => unfold iter; rw [h]; exact iter_stop h' n
theorem gq_may {T : Int} {K n : Nat} {cs : List Ca} {ss : List Se} {mo mw ri re : Int} (hs : Sizes mo mw ri re) (g : GQ T K cs ss mw ri re T n) (hl : (cs.length : Int) ≤ mo) : May cs ss mo mw ri re T := by
  refine ⟨hs, ⟨g.h0, g.hM⟩, hl, by have := g.hs; show (ss.length : Int) ≤ 100; omega, g.v, ?_⟩
  intro y hy
  rcases mem_things.1 hy with ⟨hm, i, hi, ex⟩ | ⟨k, hk, hst, ex⟩ | ⟨k, hk, hst, ex⟩
  · rw [ex]; exact g.d1 hm i hi
  · rw [ex]; exact g.d2 k hk hst
  · rw [ex]; exact g.d3 k hk hst
theorem beg_quiet {cs : List Ca} {ss : List Se} {mo mw ri re now T num : Int} (m : May cs ss mo mw ri re now) (t : now ≤ T ∧ T ≤ 1099511627776) (hn : 1 ≤ num ∧ num ≤ 2147483647) (h3 : T - now ≤ 4000000000) (hq : ∀ y ∈ things cs ss mw ri re, T < y.1) :
    GQ T 2000000000000 cs ss mw ri re T ([] : List Ac).length ∧ ∀ K, begB cs ss mo mw ri re now num T K = K (cs, (ss, (mo, (mw, (ri, (re, (T, []))))))) := by
  have hg := m.gq t.1 t.2 h3
  have hc := hg.hc
  have hl := hg.hs
  have hst : pstep T (cs, (ss, (mo, (mw, (ri, (re, (now, []))))))) = none := by
    unfold pstep
    simp only
    cases hev : evt cs ss mw ri re with
    | none => rfl
    | some x =>
      obtain ⟨t0, b, i⟩ := x
      have := hq _ (evt_min hev).1
      simp only at this ⊢
      rw [if_pos (by omega)]
  have hp1 := fun (δ : Type) => passL_j (δ := δ) (mo := mo) (acts := []) hg
  have hpm : passM T (cs, (ss, (mo, (mw, (ri, (re, (now, []))))))) = (cs, (ss, (mo, (mw, (ri, (re, (now, []))))))) := iter_stop hst _
  simp only [hpm] at hp1
  refine ⟨(later_ok (acts := []) hg t.1 (Int.le_refl _) (fun y hy => by have := hq y hy; omega)).1, fun K => ?_⟩
  have e1 := ((may_j (cs := cs) (ss := ss) (mo := mo) (mw := mw) (ri := ri) (re := re) (now := now) (by omega) (by omega)).b.resolve_right fun q => q.1 m)
  have e1 := fun {β : Type} (f : Bool → Option β) => e1.2 f
  have k1 := fun (β : Type) (f : List Ca → Option β) => clone_j cs ((0 : Int), ((0 : Int), ((0 : Int), (0 : Int)))) 32 (by omega) (by omega) f
  have k2 := fun (β : Type) (f : List Se → Option β) => clone_j ss ((0 : Int), ((0 : Int), ((0 : Int), ((0 : Int), (0 : Int))))) 40 (by omega) (by omega) f
  unfold begB
  simp only [k1, k2]
  simp (disch := (first | omega | (simp only [LNl]; omega))) only [↓SDl, SDr, ↓e1, ↓wit_b, hp1]
theorem nextC_best {cs : List Ca} {c : Int} (h : nextC cs = some c) : ∃ i : Nat, c = (i : Int) ∧ i < cs.length ∧ (cs.getD i dC).2.2.2 = 0 ∧ ∀ j, j < cs.length → (cs.getD j dC).2.2.2 = 0 → (j < i → (cs.getD j dC).2.1 < (cs.getD i dC).2.1) ∧ (cs.getD j dC).2.1 ≤ (cs.getD i dC).2.1 := by
  have key : ∀ n, (pick (ltC cs) ((List.range n).flatMap fun i => if (cs.getD i dC).2.2.2 = 0 then [(i : Int)] else []) = none ∧ ∀ j, j < n → (cs.getD j dC).2.2.2 ≠ 0) ∨ ∃ i : Nat, pick (ltC cs) ((List.range n).flatMap fun i => if (cs.getD i dC).2.2.2 = 0 then [(i : Int)] else []) = some (i : Int) ∧ i < n ∧ (cs.getD i dC).2.2.2 = 0 ∧ ∀ j, j < n → (cs.getD j dC).2.2.2 = 0 → (j < i → (cs.getD j dC).2.1 < (cs.getD i dC).2.1) ∧ (cs.getD j dC).2.1 ≤ (cs.getD i dC).2.1 := by
    intro n
    induction n with
    | zero => exact .inl ⟨rfl, fun j hj => absurd hj (Nat.not_lt_zero _)⟩
    | succ n ih =>
      rw [List.range_succ, List.flatMap_append]
      simp only [List.flatMap_cons, List.flatMap_nil, List.append_nil]
      by_cases e : (cs.getD n dC).2.2.2 = 0
      · rw [if_pos e, pick_snoc]
        right
        rcases ih with ⟨h1, h2⟩ | ⟨i, h1, h2, h3, h4⟩
        · rw [h1]
          refine ⟨n, rfl, by omega, e, fun j hj hz => ?_⟩
          by_cases g : j = n
          · subst g; exact ⟨fun q => by omega, Int.le_refl _⟩
          · exact absurd hz (h2 j (by omega))
        · rw [h1, show pk (ltC cs) (some (i : Int)) (n : Int) = if ltC cs (n : Int) (i : Int) = true then some (n : Int) else some (i : Int) from rfl]
          unfold ltC
          rw [Int.toNat_natCast, Int.toNat_natCast]
          by_cases g : (cs.getD n dC).2.1 > (cs.getD i dC).2.1
          · rw [if_pos (decide_eq_true g)]
            refine ⟨n, rfl, by omega, e, fun j hj hz => ?_⟩
            by_cases q : j = n
            · subst q; exact ⟨fun q => by omega, Int.le_refl _⟩
            · have := h4 j (by omega) hz
              exact ⟨fun _ => by omega, by omega⟩
          · rw [if_neg (by simpa using g)]
            refine ⟨i, rfl, by omega, h3, fun j hj hz => ?_⟩
            by_cases q : j = n
            · subst q; exact ⟨fun q => by omega, by omega⟩
            · exact h4 j (by omega) hz
      · rw [if_neg e, List.append_nil]
        rcases ih with ⟨h1, h2⟩ | ⟨i, h1, h2, h3, h4⟩
        · refine .inl ⟨h1, fun j hj => ?_⟩
          by_cases g : j = n
          · subst g; exact e
          · exact h2 j (by omega)
        · refine .inr ⟨i, h1, by omega, h3, fun j hj hz => ?_⟩
          by_cases g : j = n
          · subst g; exact absurd hz e
          · exact h4 j (by omega) hz
  rcases key cs.length with ⟨h1, _⟩ | ⟨i, h1, h2⟩
  · have h : pick (ltC cs) (freeC cs) = some c := h
    exact absurd (h1.symm.trans h) (by simp)
  · have h : pick (ltC cs) (freeC cs) = some c := h
    have := h1.symm.trans h
    exact ⟨i, (Option.some.inj this).symm, h2⟩
theorem cnt_upd (p p' : Nat → Bool) (q : Nat) (hp : p q = true) (hp' : p' q = false) (he : ∀ i, i ≠ q → p' i = p i) : ∀ n, q < n → cnt p n = cnt p' n + 1 := by
  have low : ∀ n, n ≤ q → cnt p' n = cnt p n := by
    intro n
    induction n with
    | zero => intro _; rfl
    | succ n ih => intro hn; unfold cnt; rw [ih (by omega), he n (by omega)]
  intro n
  induction n with
  | zero => intro h; omega
  | succ n ih =>
    intro h
    unfold cnt
    by_cases e : n = q
    · subst e
      rw [low n (Nat.le_refl _), hp, hp']; simp
    · rw [ih (by omega), he n e]; omega
theorem cnt_all (p : Nat → Bool) : ∀ n, (∀ i, i < n → p i = true) → cnt p n = n := by
  intro n
  induction n with
  | zero => intro _; rfl
  | succ n ih => intro h; unfold cnt; rw [ih (fun i hi => h i (by omega)), h n (by omega)]; rfl
def pri (l : List Int) (j : Nat) : Int := l.getD j 0 % 4
theorem szF : Sizes 20 0 1000 0 := ⟨by omega, by omega, by omega, by omega⟩
theorem fjn_j (l : List Int) (hl : l.length ≤ 9223372036854775807) (hw : ∀ x ∈ l, 0 ≤ x ∧ x ≤ 255) :
    ∃ cs now, loopO (fjnB l) (0, ([], ([], (20, (0, (1000, (0, 0))))))) = some (.inl (cs, ([], (20, (0, (1000, (0, now))))))) ∧ May cs [] 20 0 1000 0 now ∧ now ≤ 30 ∧ cs.length = min l.length 20 ∧ ∀ j, j < cs.length → (cs.getD j dC).1 = (j : Int) + 1 ∧ (cs.getD j dC).2.1 = pri l j ∧ (cs.getD j dC).2.2.2 = 0 := by
  have hmin : minA (l.length : Int) 20 = ((min l.length 20 : Nat) : Int) := by unfold minA; split <;> omega
  suffices hk : ∃ r, loopO (fjnB l) (0, ([], ([], (20, (0, (1000, (0, 0))))))) = some r ∧ ∃ cs now, r = Sum.inl (cs, ([], (20, (0, (1000, (0, now)))))) ∧ May cs [] 20 0 1000 0 now ∧ now ≤ 30 ∧ cs.length = min l.length 20 ∧ ∀ j, j < cs.length → (cs.getD j dC).1 = (j : Int) + 1 ∧ (cs.getD j dC).2.1 = pri l j ∧ (cs.getD j dC).2.2.2 = 0 by
    obtain ⟨r, e, cs, now, hr, m⟩ := hk
    exact ⟨cs, now, by rw [e, hr], m⟩
  refine loopO_post (body := fjnB l) (fun x => ∃ (i : Nat) (cs : List Ca) (now : Int), x = ((i : Int), (cs, ([], (20, (0, (1000, (0, now))))))) ∧ i ≤ min l.length 20 ∧ May cs [] 20 0 1000 0 now ∧ now ≤ (i : Int) ∧ cs.length = i ∧ ∀ j, j < cs.length → (cs.getD j dC).1 = (j : Int) + 1 ∧ (cs.getD j dC).2.1 = pri l j ∧ (cs.getD j dC).2.2.2 = 0)
    _ (fun x => min l.length 20 - x.1.toNat) (fun x hx => ?_) ⟨0, [], 0, rfl, Nat.zero_le _, may_new szF, Int.le_refl _, rfl, fun j hj => absurd hj (Nat.not_lt_zero _)⟩
  obtain ⟨i, cs, now, rfl, hi, m, hnow, hlen, hcs⟩ := hx
  by_cases h1 : i < min l.length 20
  · right
    have hil : i < l.length := by omega
    obtain ⟨x, hx, hxb⟩ := get_at (0 : Int) hil
    have hwx := hw x (by rw [← hx, getD_get (0 : Int) hil]; exact List.getElem_mem hil)
    have ht : Int.tmod x 4 = x % 4 := Int.tmod_eq_emod_of_nonneg hwx.1
    have hw1 : IntKind.wrap .i64 (x % 4) = x % 4 := wrap_i64' (by omega)
    have hw2 : IntKind.wrap .i64 ((i : Int) + 1) = (i : Int) + 1 := wrap_i64' (by omega)
    have hth : ∀ y ∈ things cs [] 0 1000 0, (i : Int) < y.1 := by
      intro y hy
      rcases mem_things.1 hy with ⟨hm, _⟩ | ⟨k, hk, _⟩ | ⟨k, hk, _⟩
      · exact absurd rfl hm
      · exact absurd hk (Nat.not_lt_zero _)
      · exact absurd hk (Nat.not_lt_zero _)
    obtain ⟨g, hK⟩ := beg_quiet (T := (i : Int)) (num := (i : Int) + 1) m ⟨hnow, by omega⟩ ⟨by omega, by omega⟩ (by have := m.2.1; omega) hth
    have hnone : ∀ j, j < cs.length → (cs.getD j dC).1 ≠ (i : Int) + 1 := fun j hj => by have := (hcs j hj).1; omega
    have hidx := idxC_none hnone
    have hbz : ¬ Busy ([] : List Se) ((i : Int) + 1) := fun ⟨k, hk, _⟩ => absurd hk (Nat.not_lt_zero _)
    have hgk := g.k
    have hL : (cs ++ [((i : Int) + 1, (x % 4, ((i : Int), 0)))]).length = i + 1 := by rw [List.length_append, List.length_singleton, hlen]
    have hjoin : queues_Join ((cs, ([], (20, (0, (1000, (0, now)))))), ((i : Int) + 1, (x % 4, (i : Int)))) = some (resM (cs ++ [((i : Int) + 1, (x % 4, ((i : Int), 0)))], ([], (20, (0, (1000, (0, ((i : Int), [])))))))) ∧ May (cs ++ [((i : Int) + 1, (x % 4, ((i : Int), 0)))]) [] 20 0 1000 0 (i : Int) := by
      rw [join_eq, hK]
      rcases joinR_j (mo := 20) (g.up (K' := 2000000000003) (by omega) (by omega)) ((i : Int) + 1) (x % 4) rfl ⟨by omega, by omega⟩ (by omega) with ⟨p1, _⟩ | ⟨_, p2, _⟩ | ⟨_, _, _, p4, _⟩ | ⟨_, _, _, p4, e⟩
      · exact absurd ⟨by omega, by omega⟩ p1
      · rcases p2 with p2 | p2
        · omega
        · exact absurd p2 hbz
      · omega
      · obtain ⟨g2, e⟩ := e (by omega)
        have hst : mstep (cs ++ [((i : Int) + 1, (x % 4, ((i : Int), 0)))], ([], (20, (0, (1000, (0, ((i : Int), []))))))) = none := mstep_none_iff.2 (.inr rfl)
        rw [match_stop hst] at e
        exact ⟨e, gq_may szF g2 (by rw [hL]; omega)⟩
    refine ⟨(((i + 1 : Nat) : Int), (cs ++ [((i : Int) + 1, (x % 4, ((i : Int), 0)))], ([], (20, (0, (1000, (0, (i : Int)))))))), ?_, ⟨i + 1, _, _, rfl, by omega, hjoin.2, by omega, hL, fun j hj => ?_⟩, by simp only [Int.toNat_natCast]; omega⟩
    · have hj1 := hjoin.1
      unfold resM at hj1
      unfold fjnB
      simp (disch := (first | omega | (simp only [LNl]; omega))) only [↓SDl, SDr, hmin, ↓hxb, ht, hw1, hw2, hj1, ne_eq, not_true_eq_false, decide_false, List.length_nil]
      rfl
    · rw [hL] at hj
      rw [getD_snoc]
      by_cases q : j < cs.length
      · rw [if_pos q]; exact hcs j q
      · have : j = i := by omega
        subst this
        rw [if_neg q, if_pos hlen.symm]
        exact ⟨rfl, by unfold pri; rw [hx], rfl⟩
  · left
    refine ⟨.inl (cs, ([], (20, (0, (1000, (0, now)))))), ?_, cs, now, rfl, m, by omega, by omega, hcs⟩
    unfold fjnB
    simp (disch := (first | omega | (simp only [LNl]; omega))) only [↓SDl, SDr, hmin]
theorem fck_j (l : List Int) (tk : List Bool) (cs : List Ca) {n c : Nat} (k y : Int) (hn : n = min l.length 20) (hl : l.length ≤ 9223372036854775807) (hw : ∀ x ∈ l, 0 ≤ x ∧ x ≤ 255) (hc : c < n) (hlen : cs.length = n) (htl : tk.length = 21)
    (hcs : ∀ j, j < n → (cs.getD j dC).2.1 = pri l j) (htk : ∀ j, j < n → tk.getD (j + 1) false = decide ((cs.getD j dC).2.2.2 ≠ 0)) (hb : ∀ j, j < cs.length → (cs.getD j dC).2.2.2 = 0 → (j < c → (cs.getD j dC).2.1 < (cs.getD c dC).2.1) ∧ (cs.getD j dC).2.1 ≤ (cs.getD c dC).2.1) :
    ∃ v, loopO (fckB l tk (k, ((c : Int) + 1, y))) 1 = some (.inl v) := by
  have hmin : minA (l.length : Int) 20 = (n : Int) := by unfold minA; split <;> omega
  refine ⟨((n + 1 : Nat) : Int), loopO_from (fun m => ((m + 1 : Nat) : Int)) n rfl (fun m hm => ?_) ?_⟩
  · obtain ⟨x, hx, hxb⟩ := get_at (0 : Int) (show m < l.length from by omega)
    obtain ⟨z, hz, hzb⟩ := get_at (0 : Int) (show c < l.length from by omega)
    obtain ⟨t, ht, htb⟩ := get_at false (show m + 1 < tk.length from by omega)
    have hwx := hw x (by rw [← hx, getD_get (0 : Int) (show m < l.length from by omega)]; exact List.getElem_mem _)
    have hwz := hw z (by rw [← hz, getD_get (0 : Int) (show c < l.length from by omega)]; exact List.getElem_mem _)
    have t1 : Int.tmod x 4 = x % 4 := Int.tmod_eq_emod_of_nonneg hwx.1
    have t2 : Int.tmod z 4 = z % 4 := Int.tmod_eq_emod_of_nonneg hwz.1
    have p1 : (cs.getD m dC).2.1 = x % 4 := by rw [hcs m hm]; unfold pri; rw [hx]
    have p2 : (cs.getD c dC).2.1 = z % 4 := by rw [hcs c hc]; unfold pri; rw [hz]
    have hbm := hb m (by omega)
    rw [p1, p2] at hbm
    have htm := htk m hm
    rw [ht] at htm
    have hw1 : IntKind.wrap .i64 (((m + 1 : Nat) : Int) - 1) = (m : Int) := by rw [wrap_i64' (by omega)]; omega
    have hw2 : IntKind.wrap .i64 ((c : Int) + 1 - 1) = (c : Int) := by rw [wrap_i64' (by omega)]; omega
    have hw3 : IntKind.wrap .i64 (((m + 1 : Nat) : Int) + 1) = ((m + 1 + 1 : Nat) : Int) := by rw [wrap_i64' (by omega)]; omega
    unfold fckB
    by_cases ha : (cs.getD m dC).2.2.2 = 0
    · obtain ⟨b1, b2⟩ := hbm ha
      have ht0 : t = false := by rw [htm]; exact decide_eq_false (fun q => q ha)
      subst ht0
      by_cases e : x % 4 = z % 4
      · simp (disch := (first | omega | (simp only [LNl]; omega))) only [↓SDl, SDr, hmin, ↓hw1, ↓hw2, hw3, ↓hxb, ↓hzb, ↓htb, t1, t2, decide_eq_true e]
      · simp (disch := (first | omega | (simp only [LNl]; omega))) only [↓SDl, SDr, hmin, ↓hw1, ↓hw2, hw3, ↓hxb, ↓hzb, ↓htb, t1, t2, decide_eq_false e]
    · have ht0 : t = true := by rw [htm]; exact decide_eq_true ha
      subst ht0
      by_cases g : x % 4 > z % 4
      · simp (disch := (first | omega | (simp only [LNl]; omega))) only [↓SDl, SDr, hmin, ↓hw1, ↓hw2, hw3, ↓hxb, ↓hzb, ↓htb, t1, t2, decide_eq_true g]
      · by_cases e : x % 4 = z % 4
        · simp (disch := (first | omega | (simp only [LNl]; omega))) only [↓SDl, SDr, hmin, ↓hw1, ↓hw2, hw3, ↓hxb, ↓hzb, ↓htb, t1, t2, decide_eq_false g, decide_eq_true e]
        · simp (disch := (first | omega | (simp only [LNl]; omega))) only [↓SDl, SDr, hmin, ↓hw1, ↓hw2, hw3, ↓hxb, ↓hzb, ↓htb, t1, t2, decide_eq_false g, decide_eq_false e]
  · unfold fckB
    simp (disch := (first | omega | (simp only [LNl]; omega))) only [↓SDl, SDr, hmin]
structure FI (l : List Int) (n k : Nat) (tk : List Bool) (cs : List Ca) (ss : List Se) (now : Int) : Prop where
  m : May cs ss 20 0 1000 0 now
  hn : now ≤ 30
  hc : cs.length = n
  hl : ss.length = k
  pc : ∀ j, j < n → (cs.getD j dC).1 = (j : Int) + 1 ∧ (cs.getD j dC).2.1 = pri l j
  tl : tk.length = 21
  tt : ∀ j, j < n → tk.getD (j + 1) false = decide ((cs.getD j dC).2.2.2 ≠ 0)
  ids : ∀ j, j < k → (ss.getD j dS).1 < 50 + (k : Int) ∧ ((ss.getD j dS).2.1 = 1 ∨ (ss.getD j dS).2.1 = 2)
  ct : cnt (fun j => decide ((cs.getD j dC).2.2.2 = 0)) n = n - k
  hm : nextC cs = none ∨ nextS ss = none
theorem login_f {l : List Int} {n k : Nat} {tk : List Bool} {cs : List Ca} {ss : List Se} {now : Int} (h : FI l n k tk cs ss now) (hn : n ≤ 20) (hk : k ≤ 20) :
    (n ≤ k ∧ ∃ ss', queues_Login ((cs, (ss, (20, (0, (1000, (0, now)))))), (50 + (k : Int), 30)) = some (resM (cs, (ss', (20, (0, (1000, (0, (30, [])))))))) ∧ FI l n (k + 1) tk cs ss' 30) ∨
    (k < n ∧ ∃ (c : Nat) (cs' : List Ca) (ss' : List Se), queues_Login ((cs, (ss, (20, (0, (1000, (0, now)))))), (50 + (k : Int), 30)) = some (resM (cs', (ss', (20, (0, (1000, (0, (30, [(1, ((c : Int) + 1, 50 + (k : Int)))])))))))) ∧ FI l n (k + 1) (tk.set (c + 1) true) cs' ss' 30 ∧ c < n ∧ (cs.getD c dC).2.2.2 = 0 ∧
      ∀ j, j < cs.length → (cs.getD j dC).2.2.2 = 0 → (j < c → (cs.getD j dC).2.1 < (cs.getD c dC).2.1) ∧ (cs.getD j dC).2.1 ≤ (cs.getD c dC).2.1) := by
  have hlen := h.hl
  have hclen := h.hc
  have hm0 := h.m.2.1
  have hth : ∀ y ∈ things cs ss 0 1000 0, (30 : Int) < y.1 := by
    intro y hy
    rcases mem_things.1 hy with ⟨hm, _⟩ | ⟨j, hj, hs, ex⟩ | ⟨j, hj, hs, ex⟩
    · exact absurd rfl hm
    · have := VF.se h.m.2.2.2.2.1 j hj
      have this : 0 ≤ (ss.getD j dS).2.2.1 := this.2.2.2.2.1
      rw [ex]; show (30 : Int) < (ss.getD j dS).2.2.1 + 1000; omega
    · have := (h.ids j (by omega)).2
      omega
  obtain ⟨g, hK⟩ := beg_quiet (T := 30) (num := 50 + (k : Int)) h.m ⟨h.hn, by omega⟩ ⟨by omega, by omega⟩ (by omega) hth
  have hne : ∀ j, j < ss.length → (ss.getD j dS).1 ≠ 50 + (k : Int) := fun j hj => by have := (h.ids j (by omega)).1; omega
  have hidx := idxT_none hne
  have hpos : posS ss (50 + (k : Int)) = ss.length := find_none _ ss dS fun j hj => decide_eq_false (by have := (h.ids j (by omega)).1; omega)
  have hg2 := login_ok g rfl (by omega) (by omega) (a := 50 + (k : Int)) ⟨by omega, by omega⟩ hne
  have hins : insS ss (50 + (k : Int), (1, (30, (0, 0)))) (posS ss (50 + (k : Int))) = ss ++ [(50 + (k : Int), (1, (30, (0, 0))))] := by rw [hpos]; unfold insS; rw [List.take_length, List.drop_length]
  have hlog : queues_Login ((cs, (ss, (20, (0, (1000, (0, now)))))), (50 + (k : Int), 30)) = some (resM (matchM 30 (cs, (ss ++ [(50 + (k : Int), (1, (30, (0, 0))))], (20, (0, (1000, (0, (30, []))))))))) := by
    rw [login_eq, hK, loginR_j g rfl (by omega) ⟨by omega, by omega⟩, if_neg (by omega), if_neg (by omega), hins]
  rw [hins] at hg2
  have hL : (ss ++ [(50 + (k : Int), (1, (30, (0, 0))))]).length = k + 1 := by rw [List.length_append, List.length_singleton, hlen]
  have hgd : ∀ j, (ss ++ [(50 + (k : Int), (1, (30, (0, 0))))]).getD j dS = if j < k then ss.getD j dS else if j = k then (50 + (k : Int), (1, (30, (0, 0)))) else dS := fun j => by rw [getD_snoc, hlen]
  by_cases hnk : n ≤ k
  · left
    refine ⟨hnk, ss ++ [(50 + (k : Int), (1, (30, (0, 0))))], ?_, ?_⟩
    · have hno : nextC cs = none := by
        rcases nextC_cases cs with ⟨q, _⟩ | ⟨i, _, i1, i2⟩
        · exact q
        · exfalso
          have h0 := h.ct
          have := cnt_upd (fun j => decide ((cs.getD j dC).2.2.2 = 0)) (fun j => if j = i then false else decide ((cs.getD j dC).2.2.2 = 0)) i (decide_eq_true i2) (if_pos rfl) (fun j hj => if_neg hj) n (by omega)
          omega
      rw [hlog, match_stop (mstep_none_iff.2 (.inl hno))]
    · have hno : nextC cs = none := by
        rcases nextC_cases cs with ⟨q, _⟩ | ⟨i, _, i1, i2⟩
        · exact q
        · exfalso
          have h0 := h.ct
          have := cnt_upd (fun j => decide ((cs.getD j dC).2.2.2 = 0)) (fun j => if j = i then false else decide ((cs.getD j dC).2.2.2 = 0)) i (decide_eq_true i2) (if_pos rfl) (fun j hj => if_neg hj) n (by omega)
          omega
      refine ⟨gq_may szF hg2 (by omega), Int.le_refl _, h.hc, hL, h.pc, h.tl, h.tt, fun j hj => ?_, by rw [h.ct]; omega, .inl hno⟩
      rw [hgd]
      by_cases q : j < k
      · rw [if_pos q]; have := h.ids j q; exact ⟨by omega, this.2⟩
      · rw [if_neg q, if_pos (by omega)]; exact ⟨by show 50 + (k : Int) < _; omega, .inl rfl⟩
  · right
    have hyes : ∃ i : Nat, nextC cs = some (i : Int) ∧ i < cs.length ∧ (cs.getD i dC).2.2.2 = 0 ∧ ∀ j, j < cs.length → (cs.getD j dC).2.2.2 = 0 → (j < i → (cs.getD j dC).2.1 < (cs.getD i dC).2.1) ∧ (cs.getD j dC).2.1 ≤ (cs.getD i dC).2.1 := by
      rcases nextC_cases cs with ⟨_, q⟩ | ⟨i, e, _⟩
      · exfalso
        have := cnt_zero (fun j => decide ((cs.getD j dC).2.2.2 = 0)) n fun j hj => decide_eq_false (q j (by omega))
        have := h.ct
        omega
      · obtain ⟨i', e1, e2⟩ := nextC_best e
        have : i' = i := by omega
        subst this
        exact ⟨i', e, e2⟩
    obtain ⟨c, hc1, hc2, hc3, hc4⟩ := hyes
    have hns : nextS ss = none := by
      rcases h.hm with q | q
      · rw [hc1] at q; cases q
      · exact q
    have hst2 : ∀ j, j < k → (ss.getD j dS).2.1 = 2 := fun j hj => by
      rcases nextS_cases ss with ⟨_, q⟩ | ⟨i, e, _⟩
      · have := q j (by omega); have := (h.ids j hj).2; omega
      · rw [hns] at e; cases e
    have hsk : (ss ++ [(50 + (k : Int), (1, (30, (0, 0))))]).getD k dS = (50 + (k : Int), (1, (30, (0, 0)))) := by rw [hgd, if_neg (by omega), if_pos rfl]
    have hsn : nextS (ss ++ [(50 + (k : Int), (1, (30, (0, 0))))]) = some (k : Int) := by
      rcases nextS_cases (ss ++ [(50 + (k : Int), (1, (30, (0, 0))))]) with ⟨_, q⟩ | ⟨i, e, i1, i2⟩
      · exact absurd (by rw [hsk]) (q k (by omega))
      · rw [hgd] at i2
        by_cases q : i < k
        · rw [if_pos q, hst2 i q] at i2; exact absurd i2 (by decide)
        · rw [e, show i = k from by omega]
    have hcall := (h.pc c (by omega)).1
    have hms : mstep (cs, (ss ++ [(50 + (k : Int), (1, (30, (0, 0))))], (20, (0, (1000, (0, (30, []))))))) = some (setC cs c (50 + (k : Int)), (setS (ss ++ [(50 + (k : Int), (1, (30, (0, 0))))]) k 2 30 ((c : Int) + 1), (20, (0, (1000, (0, (30, [(1, ((c : Int) + 1, 50 + (k : Int)))]))))))) := by
      unfold mstep
      simp only [hc1, hsn, Int.toNat_natCast, hsk, hcall, List.nil_append]
    have hgw : GW 30 2000000000003 (cs, (ss ++ [(50 + (k : Int), (1, (30, (0, 0))))], (20, (0, (1000, (0, (30, []))))))) := hg2
    have hgw2 := (mstep_ok hgw hms).1
    have hgd2 : ∀ j, (setS (ss ++ [(50 + (k : Int), (1, (30, (0, 0))))]) k 2 30 ((c : Int) + 1)).getD j dS = if j = k then (50 + (k : Int), (2, (30, ((c : Int) + 1, 0)))) else if j < k then ss.getD j dS else dS := fun j => by
      rw [setS_getD _ _ _ _ _ (by omega), hsk, hgd]
      by_cases q : j = k
      · rw [if_pos q, if_pos q]
      · rw [if_neg q, if_neg q, if_neg q]
    have hns2 : nextS (setS (ss ++ [(50 + (k : Int), (1, (30, (0, 0))))]) k 2 30 ((c : Int) + 1)) = none := by
      rcases nextS_cases (setS (ss ++ [(50 + (k : Int), (1, (30, (0, 0))))]) k 2 30 ((c : Int) + 1)) with ⟨q, _⟩ | ⟨i, _, i1, i2⟩
      · exact q
      · exfalso
        rw [setS_len, hL] at i1
        rw [hgd2] at i2
        by_cases q : i = k
        · rw [if_pos q] at i2; have i2 : (2 : Int) = 1 := i2; omega
        · rw [if_neg q, if_pos (by omega), hst2 i (by omega)] at i2; exact absurd i2 (by decide)
    refine ⟨by omega, c, _, _, ?_, ⟨gq_may szF (show GQ 30 2000000000003 (setC cs c (50 + (k : Int))) (setS (ss ++ [(50 + (k : Int), (1, (30, (0, 0))))]) k 2 30 ((c : Int) + 1)) 0 1000 0 30 _ from hgw2) (by rw [setC_len]; omega), Int.le_refl _, by rw [setC_len]; exact h.hc, by rw [setS_len]; exact hL, fun j hj => ?_, by rw [List.length_set]; exact h.tl, fun j hj => ?_, fun j hj => ?_, ?_, .inr hns2⟩, by omega, hc3, hc4⟩
    · rw [hlog, match_one hgw hms (mstep_none_iff.2 (.inr hns2))]
    · rw [setC_getD cs c _ hc2]
      by_cases q : j = c
      · subst q; rw [if_pos rfl]; exact h.pc j hj
      · rw [if_neg q]; exact h.pc j hj
    · rw [setC_getD cs c _ hc2, getD_set' _ _ _ _ _ (by rw [h.tl]; omega)]
      by_cases q : j = c
      · subst q; rw [if_pos rfl, if_pos rfl]; exact (decide_eq_true (by show 50 + (k : Int) ≠ 0; omega)).symm
      · rw [if_neg q, if_neg (by omega)]; exact h.tt j hj
    · rw [hgd2]
      by_cases q : j = k
      · rw [if_pos q]; exact ⟨by show 50 + (k : Int) < _; omega, .inr rfl⟩
      · rw [if_neg q, if_pos (by omega)]; have := h.ids j (by omega); exact ⟨by omega, this.2⟩
    · have h0 := h.ct
      have := cnt_upd (fun j => decide ((cs.getD j dC).2.2.2 = 0)) (fun j => decide (((setC cs c (50 + (k : Int))).getD j dC).2.2.2 = 0)) c (decide_eq_true hc3) (by
        rw [setC_getD cs c _ hc2, if_pos rfl]
        exact decide_eq_false (by show ¬ (50 + (k : Int) = 0); omega)) (fun j hj => by
        rw [setC_getD cs c _ hc2, if_neg hj]) n (by omega)
      omega
theorem fair_j (l : List Int) (b : Int) (hl : l.length ≤ 9223372036854775807) (hw : ∀ x ∈ l, 0 ≤ x ∧ x ≤ 255) (hb : 0 ≤ b ∧ b ≤ 255) : dialtonelaw36_QueuesFair (l, b) = some true := by
  have hmin : minA (l.length : Int) 20 = ((min l.length 20 : Nat) : Int) := by unfold minA; split <;> omega
  have ht : Int.tmod b 21 = b % 21 := Int.tmod_eq_emod_of_nonneg hb.1
  have hw1 : IntKind.wrap .i64 (b % 21) = b % 21 := wrap_i64' (by omega)
  obtain ⟨cs, now, e1, m, hnow, hlen, hcs⟩ := fjn_j l hl hw
  have hfi : FI l (min l.length 20) 0 (List.replicate 21 false) cs [] now := by
    refine ⟨m, hnow, hlen, rfl, fun j hj => ⟨(hcs j (by omega)).1, (hcs j (by omega)).2.1⟩, by simp, fun j hj => ?_, fun j hj => absurd hj (Nat.not_lt_zero _), cnt_all _ _ fun j hj => decide_eq_true (hcs j (by omega)).2.2, .inr rfl⟩
    rw [(decide_eq_false (fun q => q (hcs j (by omega)).2.2) : decide ((cs.getD j dC).2.2.2 ≠ 0) = false), List.getD_eq_getElem?_getD, List.getElem?_replicate, if_pos (by omega)]
    rfl
  have hloop : ∃ r, loopO (flgB l b) (0, (List.replicate 21 false, (cs, ([], (20, (0, (1000, (0, now)))))))) = some r ∧ ∃ tk cs ss now k, r = Sum.inl (tk, (cs, (ss, (20, (0, (1000, (0, now))))))) ∧ FI l (min l.length 20) k tk cs ss now := by
    refine loopO_post (body := flgB l b) (fun x => ∃ (k : Nat) (tk : List Bool) (cs : List Ca) (ss : List Se) (now : Int), x = ((k : Int), (tk, (cs, (ss, (20, (0, (1000, (0, now)))))))) ∧ (k : Int) ≤ b % 21 ∧ FI l (min l.length 20) k tk cs ss now) _ (fun x => (b % 21).toNat - x.1.toNat) (fun x hx => ?_) ⟨0, _, _, _, _, rfl, by omega, hfi⟩
    obtain ⟨k, tk, cs, ss, now, rfl, hk, h⟩ := hx
    by_cases h1 : (k : Int) < b % 21
    · right
      have hw5 : IntKind.wrap .i64 (50 + (k : Int)) = 50 + (k : Int) := wrap_i64' (by omega)
      have hw6 : IntKind.wrap .i64 ((k : Int) + 1) = ((k + 1 : Nat) : Int) := by rw [wrap_i64' (by omega)]; rfl
      rcases login_f h (by omega) (by omega) with ⟨hnk, ss', e, h'⟩ | ⟨hnk, c, cs', ss', e, h', c1, c2, c3⟩
      · refine ⟨(((k + 1 : Nat) : Int), (tk, (cs, (ss', (20, (0, (1000, (0, 30)))))))), ?_, ⟨k + 1, tk, cs, ss', 30, rfl, by omega, h'⟩, by simp only [Int.toNat_natCast]; omega⟩
        unfold resM at e
        unfold flgB
        simp (disch := (first | omega | (simp only [LNl]; omega))) only [↓SDl, SDr, ht, hw1, hw5, hw6, e, hmin, ne_eq, not_true_eq_false, decide_false, List.length_nil]
      · refine ⟨(((k + 1 : Nat) : Int), (tk.set (c + 1) true, (cs', (ss', (20, (0, (1000, (0, 30)))))))), ?_, ⟨k + 1, _, cs', ss', 30, rfl, by omega, h'⟩, by simp only [Int.toNat_natCast]; omega⟩
        obtain ⟨v, hv⟩ := fck_j l tk cs (n := min l.length 20) (c := c) 1 (50 + (k : Int)) rfl hl hw c1 h.hc h.tl (fun j hj => (h.pc j hj).2) h.tt c3
        have htc : tk[c + 1]? = some false := by
          have := h.tt c c1
          rw [decide_eq_false (fun q => q c2)] at this
          rw [get_D' false (by rw [h.tl]; omega), this]
        have hn1 : Int.toNat ((c : Int) + 1) = c + 1 := by omega
        have htl := h.tl
        unfold resM at e
        unfold flgB
        simp (disch := (first | omega | (simp only [LNl]; omega))) only [↓SDl, SDr, ht, hw1, hw5, hw6, e, hmin, ne_eq, not_true_eq_false, decide_false, List.length_cons, List.length_nil, List.getElem?_cons_zero, hn1, htc, hv]
    · left
      refine ⟨.inl (tk, (cs, (ss, (20, (0, (1000, (0, now))))))), ?_, tk, cs, ss, now, k, rfl, h⟩
      unfold flgB
      simp (disch := (first | omega | (simp only [LNl]; omega))) only [↓SDl, SDr, ht, hw1]
  obtain ⟨r, e2, tk, cs2, ss2, now2, k, rfl, h⟩ := hloop
  have h1 := h.m.2.2.1
  have h2 := h.m.2.2.2.1
  have hr := rings_j (mo := 20) (mw := 0) (ri := 1000) (re := 0) h.m.2.2.2.2.1 (by omega) (by omega) h.hm
  rw [fair_eq]
  rcases newq_j 20 0 1000 0 with ⟨_, n1, _⟩ | ⟨q, _⟩
  · simp (disch := (first | omega | (simp only [LNl]; omega))) only [↓SDl, SDr, n1, ne_eq, not_true_eq_false, decide_false, e1, e2, hr]
  · exact absurd szF q
theorem fair_main (a : List Int × Int) (h : WfIs [(.tmp 0 false [(.dat (.list (.int .u8)))]), (.tmp 1 false [(.dat (.int .u8))])] a) : dialtonelaw36_QueuesFair a = some true :=
  fair_j a.1 a.2 h.1.1.1 (fun x hx => wfU8 (h.1.1.2 x hx)) (wfU8 h.2.1.1)
end Go.Proofs.Ytkmfgldoljegoaa
