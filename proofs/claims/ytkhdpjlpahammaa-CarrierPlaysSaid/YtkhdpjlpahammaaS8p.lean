import Derived.Test.YtkhdpjlpahammaaS7p
set_option linter.unusedVariables false
set_option linter.unusedSimpArgs false
set_option maxRecDepth 100000
set_option maxHeartbeats 2000000
namespace Go.Proofs.Ytkhdpjlpahammaa
open Go.RowKit
def atP (p : PcT) : Int := if p.2.2.2.2.2.1 = true then p.2.2.2.2.1 + p.1.2.2.2 else p.2.2.2.2.1 + p.1.2.1
def OkP (p : PcT) : Prop := (0 ≤ p.2.2.2.2.1 ∧ p.2.2.2.2.1 ≤ 2000000000000) ∧ (0 ≤ p.1.2.1 ∧ p.1.2.1 ≤ 100000) ∧ (0 ≤ p.1.2.2.2 ∧ p.1.2.2.2 ≤ 100000) ∧ p.2.2.2.2.2.2.length ≤ 140737488355328
theorem at_j {p : PcT} (h : OkP p) : carrier_parcel_at (p.1.1, (p.1.2.1, (p.1.2.2.1, (p.1.2.2.2, (p.2.1, (p.2.2.1, (p.2.2.2.1, (p.2.2.2.2.1, (p.2.2.2.2.2.1, p.2.2.2.2.2.2))))))))) = some (atP p) := by
  obtain ⟨h1, h2, h3, h4⟩ := h
  unfold carrier_parcel_at atP
  cases hb : p.2.2.2.2.2.1 with
  | true => simp only [hb, cond_true, if_true]; rw [wrap_i64' (by omega)]
  | false => simp only [hb, cond_false, Bool.false_eq_true, if_false]; rw [wrap_i64' (by omega)]
def cmpI (a b : Int) : Int := if a < b then -1 else if b < a then 1 else 0
theorem cmp_j (a b : Int) : cmp_Compare_int (a, b) = some (cmpI a b) := by
  unfold cmp_Compare_int cmpI
  by_cases h1 : a < b
  · simp [h1]
  · by_cases h2 : a > b
    · have h3 : b < a := h2
      simp [h1, h2, h3]
    · have h3 : ¬ b < a := h2
      simp [h1, h2, h3]
def laterI (a b : Bool) : Int := if a = b then 0 else if a = true then 1 else -1
theorem later_j (a b : Bool) : carrier_later (a, b) = some (laterI a b) := by cases a <;> cases b <;> rfl
def plt (p q : PcT) : Prop := atP p < atP q ∨ (atP p = atP q ∧ (p.2.1 < q.2.1 ∨ (p.2.1 = q.2.1 ∧ p.2.2.2.2.2.1 = false ∧ q.2.2.2.2.2.1 = true)))
def kc (p q : PcT) : Int := if cmpI (atP p) (atP q) ≠ 0 then cmpI (atP p) (atP q) else if cmpI p.2.1 q.2.1 ≠ 0 then cmpI p.2.1 q.2.1 else laterI p.2.2.2.2.2.1 q.2.2.2.2.2.1
theorem kc_lt (p q : PcT) : kc p q < 0 ↔ plt p q := by
  unfold kc plt cmpI laterI
  cases p.2.2.2.2.2.1 <;> cases q.2.2.2.2.2.1 <;> (repeat' split) <;> simp at * <;> omega
theorem plt_asym {p q : PcT} (h : plt p q) : ¬ plt q p := by
  unfold plt at *
  cases hp : p.2.2.2.2.2.1 <;> cases hq : q.2.2.2.2.2.1 <;> simp [hp, hq] at * <;> omega
theorem plt_tr {p q r : PcT} (h : ¬ plt q p) (k : ¬ plt r q) : ¬ plt r p := by
  unfold plt at *
  cases hp : p.2.2.2.2.2.1 <;> cases hq : q.2.2.2.2.2.1 <;> cases hr : r.2.2.2.2.2.1 <;> simp [hp, hq, hr] at * <;> omega
abbrev dP : PcT := ((false, (0, (false, 0))), (0, ([], ([], (0, (false, []))))))
theorem or_j {δ : Type} (a b c : Int) : (joinO (loopO (orB (δ := δ) a b c) (0 : Int)) fun _ => (some (Sum.inl (0 : Int)) : Option (Int ⊕ δ))) = some (.inl (if a ≠ 0 then a else if b ≠ 0 then b else c)) := by
  by_cases h1 : a = 0
  · have s0 : orB (δ := δ) a b c (((0 : Nat) : Int)) = some (.inl (((0 + 1 : Nat) : Int))) := by subst h1; rfl
    by_cases h2 : b = 0
    · have s1 : orB (δ := δ) a b c (((1 : Nat) : Int)) = some (.inl (((1 + 1 : Nat) : Int))) := by subst h2; rfl
      by_cases h3 : c = 0
      · have s2 : orB (δ := δ) a b c (((2 : Nat) : Int)) = some (.inl (((2 + 1 : Nat) : Int))) := by subst h3; rfl
        have hl : loopO (orB (δ := δ) a b c) (0 : Int) = some (.inl ()) := loopO_from (fun i => ((i : Nat) : Int)) 3 rfl (fun i hi => by
          have : i = 0 ∨ i = 1 ∨ i = 2 := by omega
          rcases this with rfl | rfl | rfl
          · exact s0
          · exact s1
          · exact s2) rfl
        rw [hl, joinO_inl, h1, h2, h3]; rfl
      · have hl : loopO (orB (δ := δ) a b c) (0 : Int) = some (.inr (.inl c)) := loopO_from (fun i => ((i : Nat) : Int)) 2 rfl (fun i hi => by
          have : i = 0 ∨ i = 1 := by omega
          rcases this with rfl | rfl
          · exact s0
          · exact s1) (by
            have e : orB (δ := δ) a b c (((2 : Nat) : Int)) = bif decide (c ≠ 0) then outO (outO (some (.inl c))) else some (.inl 3) := rfl
            rw [e, decide_eq_true h3]; rfl)
        rw [hl, joinO_inr, h1, h2]; simp
    · have hl : loopO (orB (δ := δ) a b c) (0 : Int) = some (.inr (.inl b)) := loopO_from (fun i => ((i : Nat) : Int)) 1 rfl (fun i hi => by
        have : i = 0 := by omega
        subst this; exact s0) (by
          have e : orB (δ := δ) a b c (((1 : Nat) : Int)) = bif decide (b ≠ 0) then outO (outO (some (.inl b))) else some (.inl 2) := rfl
          rw [e, decide_eq_true h2]; rfl)
      rw [hl, joinO_inr, h1]; simp [h2]
  · have hl : loopO (orB (δ := δ) a b c) (0 : Int) = some (.inr (.inl a)) := loopO_from (fun i => ((i : Nat) : Int)) 0 rfl (fun i hi => absurd hi (by omega)) (by
      have e : orB (δ := δ) a b c (((0 : Nat) : Int)) = bif decide (a ≠ 0) then outO (outO (some (.inl a))) else some (.inl 1) := rfl
      rw [e, decide_eq_true h1]; rfl)
    rw [hl, joinO_inr]; simp [h1]
theorem c2_j (D : List PcT) (hD : ∀ p ∈ D, OkP p) {x y : Int} (hx : 0 ≤ x ∧ x < (D.length : Int)) (hy : 0 ≤ y ∧ y < (D.length : Int)) : carrier_Carrier_Receive_2 (x, (y, D)) = some (kc (D.getD x.toNat dP) (D.getD y.toNat dP)) := by
  have hg : ∀ z : Int, 0 ≤ z ∧ z < (D.length : Int) → OkP (D.getD z.toNat dP) := fun z hz => hD _ (by rw [getD_get _ (show z.toNat < D.length by omega)]; exact List.getElem_mem _)
  have hb : ∀ (z : Int) {β : Type} (f : PcT → Option β), 0 ≤ z ∧ z < (D.length : Int) → bindO D[Int.toNat z]? f = f (D.getD z.toNat dP) := fun z β f hz => get_bz dP f hz
  rw [c2_eq]
  rw [decide_eq_true hx, cond_true, hb x _ hx]
  rw [decide_eq_true hy, cond_true, hb y _ hy]
  rw [at_j (hg x hx), at_j (hg y hy), bindO_some, bindO_some, cmp_j, bindO_some, cmp_j, bindO_some, later_j, bindO_some]
  rw [or_j, joinO_inl]
  rfl
theorem rvA_j {δ : Type} (now : Int) (ps : List PcT) (hps : ∀ p ∈ ps, OkP p) (hl : ps.length ≤ 1000000) : loopO (rvA (δ := δ) now ps) (0, ([], [])) = some (.inl (ps.filter (fun p => !decide (atP p ≤ now)), ps.filter (fun p => decide (atP p ≤ now)))) := by
  refine loopO_from (fun i => ((i : Int), ((ps.take i).filter (fun p => !decide (atP p ≤ now)), (ps.take i).filter (fun p => decide (atP p ≤ now))))) ps.length rfl (fun i hi => ?_) ?_
  · obtain ⟨x, hx, hxb⟩ := get_at dP hi
    have ht := take_snoc ps dP hi
    rw [hx] at ht
    have hok : OkP x := hps x (by rw [← hx, getD_get _ hi]; exact List.getElem_mem _)
    have hat := at_j hok
    have l1 := List.length_filter_le (fun p => !decide (atP p ≤ now)) (ps.take i)
    have l2 := List.length_filter_le (fun p => decide (atP p ≤ now)) (ps.take i)
    rw [List.length_take] at l1 l2
    have hn : ((i : Int) + 1) = ((i + 1 : Nat) : Int) := rfl
    simp only [ht, List.filter_append]
    generalize List.filter (fun p => !decide (atP p ≤ now)) (ps.take i) = N at l1 ⊢
    generalize List.filter (fun p => decide (atP p ≤ now)) (ps.take i) = Y at l2 ⊢
    have eta : ((x.1.1, (x.1.2.1, (x.1.2.2.1, x.1.2.2.2))), (x.2.1, (x.2.2.1, (x.2.2.2.1, (x.2.2.2.2.1, (x.2.2.2.2.2.1, x.2.2.2.2.2.2)))))) = x := rfl
    unfold rvA
    by_cases h : atP x ≤ now
    · have f1 : List.filter (fun p => !decide (atP p ≤ now)) [x] = [] := by simp [h]
      have f2 : List.filter (fun p => decide (atP p ≤ now)) [x] = [x] := by simp [h]
      rw [f1, f2]
      simp (disch := (first | omega | (simp only [List.length_append, List.length_cons, List.length_nil, List.nil_append, List.length_take, List.length_drop]; omega))) only [↓bindO_some, ↓bindO_none, ↓joinO_inl, ↓joinO_inr, ↓joinO_none, ↓outO_some, ↓outO_none, ↓cond_true, ↓cond_false, ↓cond_and, ↓cond_or, ↓cond_not, ↓cond_ite, ↓if_pos, ↓if_neg, ↓if_true, ↓if_false, List.take_length, Nat.le_refl, Bool.not_true, Bool.not_false, if_pos, if_neg, ↓hxb, hat, h, eta, wrap_i64', hn, List.append_nil]
    · have f1 : List.filter (fun p => !decide (atP p ≤ now)) [x] = [x] := by simp; omega
      have f2 : List.filter (fun p => decide (atP p ≤ now)) [x] = [] := by simp; omega
      rw [f1, f2]
      simp (disch := (first | omega | (simp only [List.length_append, List.length_cons, List.length_nil, List.nil_append, List.length_take, List.length_drop]; omega))) only [↓bindO_some, ↓bindO_none, ↓joinO_inl, ↓joinO_inr, ↓joinO_none, ↓outO_some, ↓outO_none, ↓cond_true, ↓cond_false, ↓cond_and, ↓cond_or, ↓cond_not, ↓cond_ite, ↓if_pos, ↓if_neg, ↓if_true, ↓if_false, List.take_length, Nat.le_refl, Bool.not_true, Bool.not_false, if_pos, if_neg, ↓hxb, hat, h, eta, wrap_i64', hn, List.append_nil]
  · unfold rvA
    simp (disch := (first | omega | (simp only [List.length_append, List.length_cons, List.length_nil, List.nil_append, List.length_take, List.length_drop]; omega))) only [↓bindO_some, ↓bindO_none, ↓joinO_inl, ↓joinO_inr, ↓joinO_none, ↓outO_some, ↓outO_none, ↓cond_true, ↓cond_false, ↓cond_and, ↓cond_or, ↓cond_not, ↓cond_ite, ↓if_pos, ↓if_neg, ↓if_true, ↓if_false, List.take_length, Nat.le_refl, Bool.not_true, Bool.not_false, if_pos, if_neg, List.take_length]
def iota (n : Nat) : List Int := (List.range n).map Int.ofNat
theorem iota_len (n : Nat) : (iota n).length = n := by unfold iota; simp
theorem iota_mem {n : Nat} {x : Int} : x ∈ iota n ↔ 0 ≤ x ∧ x < (n : Int) := by
  unfold iota
  rw [List.mem_map]
  constructor
  · rintro ⟨i, hi, rfl⟩; have := List.mem_range.1 hi; show 0 ≤ (i : Int) ∧ (i : Int) < n; omega
  · intro h; exact ⟨x.toNat, List.mem_range.2 (by omega), by show (x.toNat : Int) = x; omega⟩
theorem iota_succ (n : Nat) : iota (n + 1) = iota n ++ [(n : Int)] := by unfold iota; rw [List.range_succ, List.map_append]; rfl
theorem rvB_j {δ : Type} (D : List PcT) (hl : D.length ≤ 1000000) : loopO (rvB (δ := δ) D) (0, List.replicate D.length (0 : Int)) = some (.inl (iota D.length)) := by
  refine loopO_from (fun i => ((i : Int), iota i ++ List.replicate (D.length - i) (0 : Int))) D.length (by simp [iota]) (fun i hi => ?_) ?_
  · have hr : List.replicate (D.length - i) (0 : Int) = 0 :: List.replicate (D.length - (i + 1)) 0 := by
      rw [show D.length - i = (D.length - (i + 1)) + 1 by omega]; rfl
    have hn : ((i : Int) + 1) = ((i + 1 : Nat) : Int) := rfl
    have e2 : iota (i + 1) ++ List.replicate (D.length - (i + 1)) (0 : Int) = iota i ++ (i : Int) :: List.replicate (D.length - (i + 1)) 0 := by rw [iota_succ]; simp
    have hg : ∀ {β : Type} (f : Int → Option β), bindO (iota i ++ (0 : Int) :: List.replicate (D.length - (i + 1)) 0)[Int.toNat (i : Int)]? f = f 0 := fun f => getAb _ _ _ f (by rw [iota_len])
    have hs : (iota i ++ (0 : Int) :: List.replicate (D.length - (i + 1)) 0).set i (i : Int) = iota i ++ (i : Int) :: List.replicate (D.length - (i + 1)) 0 := setA _ _ _ _ (by rw [iota_len])
    rw [hr, e2]
    unfold rvB
    simp (disch := (first | omega | (simp only [List.length_append, List.length_cons, List.length_nil, List.nil_append, List.length_take, List.length_drop]; omega))) only [↓bindO_some, ↓bindO_none, ↓joinO_inl, ↓joinO_inr, ↓joinO_none, ↓outO_some, ↓outO_none, ↓cond_true, ↓cond_false, ↓cond_and, ↓cond_or, ↓cond_not, ↓cond_ite, ↓if_pos, ↓if_neg, ↓if_true, ↓if_false, List.take_length, Nat.le_refl, Bool.not_true, Bool.not_false, if_pos, if_neg, ↓hg, hs, wrap_i64', hn, Int.toNat_natCast]
  · rw [Nat.sub_self]
    unfold rvB
    simp (disch := (first | omega | (simp only [List.length_append, List.length_cons, List.length_nil, List.nil_append, List.length_take, List.length_drop]; omega))) only [↓bindO_some, ↓bindO_none, ↓joinO_inl, ↓joinO_inr, ↓joinO_none, ↓outO_some, ↓outO_none, ↓cond_true, ↓cond_false, ↓cond_and, ↓cond_or, ↓cond_not, ↓cond_ite, ↓if_pos, ↓if_neg, ↓if_true, ↓if_false, List.take_length, Nat.le_refl, Bool.not_true, Bool.not_false, if_neg, Int.toNat_natCast, List.replicate_zero, List.append_nil]
theorem rvC_j {δ : Type} (D : List PcT) (Z : List Int) (hD : D.length ≤ 1000000) (hl : Z.length = D.length) (hZ : ∀ z ∈ Z, 0 ≤ z ∧ z < (D.length : Int)) : loopO (rvC (δ := δ) D Z) (0, []) = some (.inl (Z.map fun z => D.getD z.toNat dP)) := by
  refine loopO_from (fun i => ((i : Int), (Z.take i).map fun z => D.getD z.toNat dP)) Z.length rfl (fun i hi => ?_) ?_
  · obtain ⟨z, hz, hzb⟩ := get_at 0 hi
    have ht := take_snoc Z 0 hi
    rw [hz] at ht
    have hin : 0 ≤ z ∧ z < (D.length : Int) := hZ z (by rw [← hz, getD_get _ hi]; exact List.getElem_mem _)
    have hb : ∀ {β : Type} (f : PcT → Option β), bindO D[Int.toNat z]? f = f (D.getD z.toNat dP) := fun f => get_bz dP f hin
    have l1 : ((Z.take i).map fun z => D.getD z.toNat dP).length ≤ i := by rw [List.length_map, List.length_take]; omega
    have hn : ((i : Int) + 1) = ((i + 1 : Nat) : Int) := rfl
    simp only [ht, List.map_append, List.map_cons, List.map_nil]
    generalize (Z.take i).map (fun z => D.getD z.toNat dP) = M at l1 ⊢
    obtain ⟨x, hx⟩ : ∃ x, D.getD z.toNat dP = x := ⟨_, rfl⟩
    simp only [hx] at hb ⊢
    have eta : ((x.1.1, (x.1.2.1, (x.1.2.2.1, x.1.2.2.2))), (x.2.1, (x.2.2.1, (x.2.2.2.1, (x.2.2.2.2.1, (x.2.2.2.2.2.1, x.2.2.2.2.2.2)))))) = x := rfl
    unfold rvC
    simp (disch := (first | omega | (simp only [List.length_append, List.length_cons, List.length_nil, List.nil_append, List.length_take, List.length_drop]; omega))) only [↓bindO_some, ↓bindO_none, ↓joinO_inl, ↓joinO_inr, ↓joinO_none, ↓outO_some, ↓outO_none, ↓cond_true, ↓cond_false, ↓cond_and, ↓cond_or, ↓cond_not, ↓cond_ite, ↓if_pos, ↓if_neg, ↓if_true, ↓if_false, List.take_length, Nat.le_refl, Bool.not_true, Bool.not_false, if_pos, if_neg, ↓hzb, hin, ↓hb, eta, wrap_i64', hn, Int.toNat_natCast, and_self]
  · unfold rvC
    simp (disch := (first | omega | (simp only [List.length_append, List.length_cons, List.length_nil, List.nil_append, List.length_take, List.length_drop]; omega))) only [↓bindO_some, ↓bindO_none, ↓joinO_inl, ↓joinO_inr, ↓joinO_none, ↓outO_some, ↓outO_none, ↓cond_true, ↓cond_false, ↓cond_and, ↓cond_or, ↓cond_not, ↓cond_ite, ↓if_pos, ↓if_neg, ↓if_true, ↓if_false, List.take_length, Nat.le_refl, Bool.not_true, Bool.not_false, if_neg, Int.toNat_natCast, List.take_length]
def dgP (p : PcT) : DgT := (p.2.1, (p.2.2.1, (p.2.2.2.1, (atP p, p.2.2.2.2.2.2))))
theorem rvD_j {δ : Type} (L : List PcT) (hL : L.length ≤ 1000000) (hD : ∀ p ∈ L, OkP p) : loopO (rvD (δ := δ) L) (0, []) = some (.inl (L.map dgP)) := by
  refine loopO_from (fun i => ((i : Int), (L.take i).map dgP)) L.length rfl (fun i hi => ?_) ?_
  · obtain ⟨x, hx, hxb⟩ := get_at dP hi
    have ht := take_snoc L dP hi
    rw [hx] at ht
    have hok : OkP x := hD x (by rw [← hx, getD_get _ hi]; exact List.getElem_mem _)
    have hat := at_j hok
    have hcl : cloneB x.2.2.2.2.2.2 = some x.2.2.2.2.2.2 := by unfold cloneB; rw [decide_eq_true (show x.2.2.2.2.2.2.length ≤ 140737488355328 by exact hok.2.2.2)]; rfl
    have l1 : ((L.take i).map dgP).length ≤ i := by rw [List.length_map, List.length_take]; omega
    have hn : ((i : Int) + 1) = ((i + 1 : Nat) : Int) := rfl
    simp only [ht, List.map_append, List.map_cons, List.map_nil]
    generalize (L.take i).map dgP = M at l1 ⊢
    unfold rvD dgP
    simp (disch := (first | omega | (simp only [List.length_append, List.length_cons, List.length_nil, List.nil_append, List.length_take, List.length_drop]; omega))) only [↓bindO_some, ↓bindO_none, ↓joinO_inl, ↓joinO_inr, ↓joinO_none, ↓outO_some, ↓outO_none, ↓cond_true, ↓cond_false, ↓cond_and, ↓cond_or, ↓cond_not, ↓cond_ite, ↓if_pos, ↓if_neg, ↓if_true, ↓if_false, List.take_length, Nat.le_refl, Bool.not_true, Bool.not_false, if_pos, if_neg, ↓hxb, hat, hcl, wrap_i64', hn]
  · unfold rvD
    simp (disch := (first | omega | (simp only [List.length_append, List.length_cons, List.length_nil, List.nil_append, List.length_take, List.length_drop]; omega))) only [↓bindO_some, ↓bindO_none, ↓joinO_inl, ↓joinO_inr, ↓joinO_none, ↓outO_some, ↓outO_none, ↓cond_true, ↓cond_false, ↓cond_and, ↓cond_or, ↓cond_not, ↓cond_ite, ↓if_pos, ↓if_neg, ↓if_true, ↓if_false, List.take_length, Nat.le_refl, Bool.not_true, Bool.not_false, if_neg, List.take_length]
theorem map_iota (D : List PcT) : (iota D.length).map (fun z => D.getD z.toNat dP) = D := by
  unfold iota
  rw [List.map_map]
  refine List.ext_getElem (by simp) fun i h1 h2 => ?_
  simp [List.getD_eq_getElem?_getD, List.getElem?_eq_getElem h2]
theorem receive_j (fates : List FtT) (ps : List PcT) (sent lost cnow now : Int) (h1 : cnow ≤ now) (h2 : now ≤ 1099511627776) (hl : ps.length ≤ 200) (hps : ∀ p ∈ ps, OkP p) :
    ∃ L : List PcT, L.Perm (ps.filter fun p => decide (atP p ≤ now)) ∧ L.Pairwise (fun p q => ¬ plt q p) ∧ carrier_Carrier_Receive (now, (true, (fates, (ps, (sent, (lost, cnow)))))) = some (L.map dgP, (0, (true, (fates, (ps.filter (fun p => !decide (atP p ≤ now)), (sent, (lost, now))))))) := by
  obtain ⟨D, hD⟩ : ∃ D, D = ps.filter fun p => decide (atP p ≤ now) := ⟨_, rfl⟩
  obtain ⟨N, hN⟩ : ∃ N, N = ps.filter fun p => !decide (atP p ≤ now) := ⟨_, rfl⟩
  have lD : D.length ≤ 200 := by rw [hD]; exact Nat.le_trans (List.length_filter_le _ _) hl
  have lN : N.length ≤ 200 := by rw [hN]; exact Nat.le_trans (List.length_filter_le _ _) hl
  have okD : ∀ p ∈ D, OkP p := fun p hp => hps p (by rw [hD] at hp; exact (List.mem_filter.1 hp).1)
  obtain ⟨Z, z1, z2, z3⟩ := sort_spec (due := D) (V := fun x => 0 ≤ x ∧ x < (D.length : Int)) (c := fun x y => kc (D.getD x.toNat dP) (D.getD y.toNat dP)) (fun x y hx hy => c2_j D okD hx hy)
    ⟨fun x y _ _ h => by rw [kc_lt] at h ⊢; exact plt_asym h, fun x y z _ _ _ h k => by rw [kc_lt] at h k ⊢; exact plt_tr h k⟩ (iota D.length) (by rw [iota_len]; exact lD) (fun y hy => iota_mem.1 hy)
  have lZ : Z.length = D.length := by rw [z2.length_eq, iota_len]
  have hZ : ∀ z ∈ Z, 0 ≤ z ∧ z < (D.length : Int) := fun z hz => iota_mem.1 (z2.mem_iff.1 hz)
  obtain ⟨L, hL⟩ : ∃ L, L = Z.map fun z => D.getD z.toNat dP := ⟨_, rfl⟩
  have lL : L.length = D.length := by rw [hL, List.length_map, lZ]
  have hp : L.Perm D := by
    rw [hL]
    have := z2.map fun z => D.getD z.toNat dP
    rw [map_iota] at this
    exact this
  refine ⟨L, by rw [← hD]; exact hp, ?_, ?_⟩
  · rw [hL, List.pairwise_map]
    exact z3.imp fun {x y} h k => h ((kc_lt _ _).2 k)
  · have a1 := fun δ => rvA_j (δ := δ) now ps hps (by omega)
    rw [← hD, ← hN] at a1
    have a2 := fun δ => rvB_j (δ := δ) D (by omega)
    have a3 := fun δ => rvC_j (δ := δ) D Z (by omega) lZ hZ
    rw [← hL] at a3
    have a4 := fun δ => rvD_j (δ := δ) L (by omega) (fun p hp' => okD p (hp.mem_iff.1 hp'))
    have lm : (L.map dgP).length = D.length := by rw [List.length_map, lL]
    rw [← hN, rv_eq]
    simp (disch := (first | omega | (simp only [List.length_append, List.length_cons, List.length_nil, List.nil_append, List.length_take, List.length_drop]; omega))) only [↓bindO_some, ↓bindO_none, ↓joinO_inl, ↓joinO_inr, ↓joinO_none, ↓outO_some, ↓outO_none, ↓cond_true, ↓cond_false, ↓cond_and, ↓cond_or, ↓cond_not, ↓cond_ite, ↓if_pos, ↓if_neg, ↓if_true, ↓if_false, List.take_length, Nat.le_refl, Bool.not_true, Bool.not_false, if_neg]
    refine joinO_eq (a := (D, N)) ?_ ?_
    · refine joinO_eq (a1 _) ?_
      simp (disch := (first | omega | (simp only [List.length_append, List.length_cons, List.length_nil, List.nil_append, List.length_take, List.length_drop]; omega))) only [↓bindO_some, ↓bindO_none, ↓joinO_inl, ↓joinO_inr, ↓joinO_none, ↓outO_some, ↓outO_none, ↓cond_true, ↓cond_false, ↓cond_and, ↓cond_or, ↓cond_not, ↓cond_ite, ↓if_pos, ↓if_neg, ↓if_true, ↓if_false, List.take_length, Nat.le_refl, Bool.not_true, Bool.not_false, if_pos]
    refine joinO_eq (a := L) ?_ ?_
    · simp (disch := (first | omega | (simp only [List.length_append, List.length_cons, List.length_nil, List.nil_append, List.length_take, List.length_drop]; omega))) only [↓bindO_some, ↓bindO_none, ↓joinO_inl, ↓joinO_inr, ↓joinO_none, ↓outO_some, ↓outO_none, ↓cond_true, ↓cond_false, ↓cond_and, ↓cond_or, ↓cond_not, ↓cond_ite, ↓if_pos, ↓if_neg, ↓if_true, ↓if_false, List.take_length, Nat.le_refl, Bool.not_true, Bool.not_false, if_pos, Int.toNat_natCast, List.take_zero]
      rw [a2]
      simp (disch := (first | omega | (simp only [List.length_append, List.length_cons, List.length_nil, List.nil_append, List.length_take, List.length_drop]; omega))) only [↓bindO_some, ↓bindO_none, ↓joinO_inl, ↓joinO_inr, ↓joinO_none, ↓outO_some, ↓outO_none, ↓cond_true, ↓cond_false, ↓cond_and, ↓cond_or, ↓cond_not, ↓cond_ite, ↓if_pos, ↓if_neg, ↓if_true, ↓if_false, List.take_length, Nat.le_refl, Bool.not_true, Bool.not_false, if_pos, iota_len, z1]
      refine joinO_eq (a3 _) ?_
      simp (disch := (first | omega | (simp only [List.length_append, List.length_cons, List.length_nil, List.nil_append, List.length_take, List.length_drop]; omega))) only [↓bindO_some, ↓bindO_none, ↓joinO_inl, ↓joinO_inr, ↓joinO_none, ↓outO_some, ↓outO_none, ↓cond_true, ↓cond_false, ↓cond_and, ↓cond_or, ↓cond_not, ↓cond_ite, ↓if_pos, ↓if_neg, ↓if_true, ↓if_false, List.take_length, Nat.le_refl, Bool.not_true, Bool.not_false, if_pos]
    · refine joinO_eq (a4 _) ?_
      simp (disch := (first | omega | (simp only [List.length_append, List.length_cons, List.length_nil, List.nil_append, List.length_take, List.length_drop]; omega))) only [↓bindO_some, ↓bindO_none, ↓joinO_inl, ↓joinO_inr, ↓joinO_none, ↓outO_some, ↓outO_none, ↓cond_true, ↓cond_false, ↓cond_and, ↓cond_or, ↓cond_not, ↓cond_ite, ↓if_pos, ↓if_neg, ↓if_true, ↓if_false, List.take_length, Nat.le_refl, Bool.not_true, Bool.not_false, if_pos]
end Go.Proofs.Ytkhdpjlpahammaa
