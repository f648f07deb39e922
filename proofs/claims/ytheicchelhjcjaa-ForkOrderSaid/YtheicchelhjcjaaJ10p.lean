import Derived.Test.YtheicchelhjcjaaJ8p
set_option linter.unusedVariables false
set_option linter.unusedSimpArgs false
set_option maxRecDepth 100000
namespace Go.Proofs.Ytheicchelhjcjaa
open Go.RowKit
abbrev Tg := List UInt8 × Int
abbrev t0 : Tg := ([], 0)
abbrev Rs := Fk × (List Ac × Int)
abbrev Nst := List Br × (Int × (Bool × (Bool × Bool)))
noncomputable def niB (a1 : List Tg) (v2 : Int) (v3 : List Br) : (Int × Int) → Option ((Int × Int) ⊕ ((Int × Int) ⊕ ((Int × (Int × Nst)) ⊕ ((Int × Nst) ⊕ (Nst ⊕ Rs))))) :=
(fun (v11, v12) =>
         bif (decide (v11 < (((List.length v3) : Nat) : Int))) then
          bif (decide (((0 : Int) ≤ v11) ∧ (v11 < (((List.length v3) : Nat) : Int)))) then 
           bindO v3[(Int.toNat v11)]? fun x13 =>
           bif (decide (((0 : Int) ≤ v2) ∧ (v2 < (((List.length a1) : Nat) : Int)))) then 
            bindO a1[(Int.toNat v2)]? fun x14 =>
            bif (decide (x13.1 = x14.1)) then
             outO (outO (outO (outO (outO (some ((([] : List ((List UInt8) × (Int × (Int × Int)))), ((0 : Int), (Bool.false, (Bool.false, Bool.false)))), (([] : List (Int × (Int × Int))), (7 : Int))))))))
            else
             bif (decide (((0 : Int) ≤ v11) ∧ (v11 < (((List.length v3) : Nat) : Int)))) then 
              bindO v3[(Int.toNat v11)]? fun x15 =>
              bif (decide (((0 : Int) ≤ v2) ∧ (v2 < (((List.length a1) : Nat) : Int)))) then 
               bindO a1[(Int.toNat v2)]? fun x16 =>
               bif (decide (x15.2.1 ≥ x16.2)) then
                some (Sum.inl ((Go.IntKind.wrap .i64 (v11 + (1 : Int))), (Go.IntKind.wrap .i64 (v11 + (1 : Int)))))
               else
                some (Sum.inl ((Go.IntKind.wrap .i64 (v11 + (1 : Int))), v12))
              else none
             else none
           else none
          else none
         else
          outO (some (Sum.inl (v11, v12))))
noncomputable def nwB (a1 : List Tg) : (Int × Nst) → Option ((Int × Nst) ⊕ (Nst ⊕ Rs)) :=
(fun (v2, (v3, (v4, (v5, (v6, v7))))) =>
     bif (decide (v2 < (((List.length a1) : Nat) : Int))) then
      joinO (joinO (bif (decide (((0 : Int) ≤ v2) ∧ (v2 < (((List.length a1) : Nat) : Int)))) then 
         bindO a1[(Int.toNat v2)]? fun x8 =>
         bif (decide (x8.1 = ([] : List UInt8))) then
          outO (outO (outO (outO (some ((([] : List ((List UInt8) × (Int × (Int × Int)))), ((0 : Int), (Bool.false, (Bool.false, Bool.false)))), (([] : List (Int × (Int × Int))), (2 : Int)))))))
         else
          bif (decide (((0 : Int) ≤ v2) ∧ (v2 < (((List.length a1) : Nat) : Int)))) then 
           bindO a1[(Int.toNat v2)]? fun x9 =>
           bif (decide (x9.2 < (0 : Int))) then
            outO (outO (outO (outO (some ((([] : List ((List UInt8) × (Int × (Int × Int)))), ((0 : Int), (Bool.false, (Bool.false, Bool.false)))), (([] : List (Int × (Int × Int))), (2 : Int)))))))
           else
            bif (decide (((0 : Int) ≤ v2) ∧ (v2 < (((List.length a1) : Nat) : Int)))) then 
             bindO a1[(Int.toNat v2)]? fun x10 =>
             bif (decide (x10.2 > (1000 : Int))) then
              outO (outO (outO (outO (some ((([] : List ((List UInt8) × (Int × (Int × Int)))), ((0 : Int), (Bool.false, (Bool.false, Bool.false)))), (([] : List (Int × (Int × Int))), (2 : Int)))))))
             else
              some (Sum.inl ())
            else none
          else none
        else none) fun _ =>
       joinO (loopO (niB a1 v2 v3) ((0 : Int), (0 : Int))) fun (v20, v21) =>
       bif (decide (((0 : Int) ≤ v21) ∧ (v21 ≤ (((List.length v3) : Nat) : Int)))) then 
        bif (decide ((Int.toNat v21) ≤ (List.length v3))) then 
         bif (decide (((List.length (List.take (Int.toNat v21) v3)) * 40) ≤ 140737488355328)) then 
          bindO (some (List.take (Int.toNat v21) v3)) fun x22 =>
          bif (decide (((0 : Int) ≤ v2) ∧ (v2 < (((List.length a1) : Nat) : Int)))) then 
           bindO a1[(Int.toNat v2)]? fun x23 =>
           bif (decide (((0 : Int) ≤ v2) ∧ (v2 < (((List.length a1) : Nat) : Int)))) then 
            bindO a1[(Int.toNat v2)]? fun x24 =>
            bif (decide ((List.length x22) ≤ (List.length x22))) then 
             bif (decide (((List.length ((List.take (List.length x22) x22) ++ ((x23.1, (x24.2, ((0 : Int), (0 : Int)))) :: ([] : List ((List UInt8) × (Int × (Int × Int))))))) * 40) ≤ 140737488355328)) then 
              bindO (some ((List.take (List.length x22) x22) ++ ((x23.1, (x24.2, ((0 : Int), (0 : Int)))) :: ([] : List ((List UInt8) × (Int × (Int × Int))))))) fun x25 =>
              bif (decide (((0 : Int) ≤ v21) ∧ (v21 ≤ (((List.length v3) : Nat) : Int)))) then 
               bif ((decide (((Int.toNat v21) + ((List.length v3) - (Int.toNat v21))) ≤ (List.length v3))) && (decide ((List.length x25) ≤ (List.length x25)))) then 
                bif (decide (((List.length ((List.take (List.length x25) x25) ++ (List.take ((List.length v3) - (Int.toNat v21)) (List.drop (Int.toNat v21) v3)))) * 40) ≤ 140737488355328)) then 
                 bindO (some ((List.take (List.length x25) x25) ++ (List.take ((List.length v3) - (Int.toNat v21)) (List.drop (Int.toNat v21) v3)))) fun x26 =>
                 bif (decide ((List.length x26) ≤ (List.length x26))) then 
                  some (Sum.inl (v20, (v21, ((List.take (List.length x26) x26), (v4, (v5, (v6, v7)))))))
                 else none
                else none
               else none
              else none
             else none
            else none
           else none
          else none
         else none
        else none
       else none) fun (v27, (v28, (v29, (v30, (v31, (v32, v33)))))) =>
      bif (decide ((List.length v29) ≤ (List.length v29))) then 
       some (Sum.inl ((Go.IntKind.wrap .i64 (v2 + (1 : Int))), ((List.take (List.length v29) v29), (v30, (v31, (v32, v33))))))
      else none
     else
      outO (bif (decide ((List.length v3) ≤ (List.length v3))) then 
       some (Sum.inl ((List.take (List.length v3) v3), (v4, (v5, (v6, v7)))))
      else none))
theorem newR_eq (a1 : List Tg) : dialtoneref23_New a1 =

  bif (decide ((((List.length a1) : Nat) : Int) > (16 : Int))) then
   some ((([] : List ((List UInt8) × (Int × (Int × Int)))), ((0 : Int), (Bool.false, (Bool.false, Bool.false)))), (([] : List (Int × (Int × Int))), (4 : Int)))
  else
   joinO (loopO (nwB a1) ((0 : Int), (([] : List ((List UInt8) × (Int × (Int × Int)))), ((-1 : Int), (Bool.false, (Bool.false, Bool.false)))))) fun (v35, (v36, (v37, (v38, v39)))) =>
   bif (decide ((List.length v35) ≤ (List.length v35))) then 
    bindO (dialtoneref23_goOn ((List.take (List.length v35) v35), (v36, (v37, (v38, v39))))) fun ((x41, (x42, (x43, (x44, x45)))), x46) =>
    some ((x41, (x42, (x43, (x44, x45)))), (x46, (0 : Int)))
   else none := rfl
def br (t : Tg) : Br := (t.1, (t.2, (0, 0)))
def atP (q : Int) (L : List Br) : Nat → Nat
  | 0 => 0
  | k + 1 => if q ≤ (L.getD k d0).2.1 then k + 1 else atP q L k
theorem atP_succ (q : Int) (L : List Br) (k : Nat) : atP q L (k + 1) = if q ≤ (L.getD k d0).2.1 then k + 1 else atP q L k := rfl
theorem atP_le (q : Int) (L : List Br) (k : Nat) : atP q L k ≤ k := by
  induction k with
  | zero => exact Nat.le_refl _
  | succ k ih => rw [atP_succ]; split <;> omega
def insA (y : Br) (L : List Br) : List Br := L.take (atP y.2.1 L L.length) ++ y :: L.drop (atP y.2.1 L L.length)
def SRT (T : List Tg) : Nat → List Br
  | 0 => []
  | i + 1 => insA (br (T.getD i t0)) (SRT T i)
theorem insA_len (y : Br) (L : List Br) : (insA y L).length = L.length + 1 := by
  have := atP_le y.2.1 L L.length
  simp [insA]; omega
theorem SRT_len (T : List Tg) (i : Nat) : (SRT T i).length = i := by
  induction i with
  | zero => rfl
  | succ i ih => unfold SRT; rw [insA_len, ih]
theorem mem_insA {y z : Br} {L : List Br} : z ∈ insA y L ↔ z = y ∨ z ∈ L := by
  unfold insA
  rw [List.mem_append, List.mem_cons]
  have h := List.take_append_drop (atP y.2.1 L L.length) L
  constructor
  · rintro (h1 | h1 | h1)
    · exact .inr (List.mem_of_mem_take h1)
    · exact .inl h1
    · exact .inr (List.mem_of_mem_drop h1)
  · rintro (h1 | h1)
    · exact .inr (.inl h1)
    · rw [← h, List.mem_append] at h1
      rcases h1 with h1 | h1
      · exact .inl h1
      · exact .inr (.inr h1)
theorem mem_SRT {T : List Tg} {z : Br} {i : Nat} : z ∈ SRT T i ↔ ∃ k, k < i ∧ br (T.getD k t0) = z := by
  induction i with
  | zero => exact ⟨fun h => (by cases h), fun ⟨k, h, _⟩ => by omega⟩
  | succ i ih =>
    unfold SRT
    rw [mem_insA, ih]
    constructor
    · rintro (h | ⟨k, h1, h2⟩)
      · exact ⟨i, by omega, h.symm⟩
      · exact ⟨k, by omega, h2⟩
    · rintro ⟨k, h1, h2⟩
      by_cases e : k = i
      · exact .inl (e ▸ h2.symm)
      · exact .inr ⟨k, by omega, h2⟩
def bad2 (t : Tg) : Prop := t.1 = [] ∨ t.2 < 0 ∨ t.2 > 1000
def dup (T : List Tg) (i : Nat) : Prop := ∃ k, k < i ∧ (T.getD k t0).1 = (T.getD i t0).1
open Classical in
noncomputable def EE (T : List Tg) (i : Nat) : Int := if bad2 (T.getD i t0) then 2 else if dup T i then 7 else 0
theorem EE_2 {T : List Tg} {i : Nat} (h : bad2 (T.getD i t0)) : EE T i = 2 := by unfold EE; rw [if_pos h]
theorem EE_7 {T : List Tg} {i : Nat} (h : ¬ bad2 (T.getD i t0)) (k : dup T i) : EE T i = 7 := by unfold EE; rw [if_neg h, if_pos k]
theorem EE_0 {T : List Tg} {i : Nat} (h : ¬ bad2 (T.getD i t0)) (k : ¬ dup T i) : EE T i = 0 := by unfold EE; rw [if_neg h, if_neg k]
open Classical in

noncomputable def fE (E : Nat → Int) (n : Nat) : Int := if h : ∃ i, i < n ∧ E i ≠ 0 then E (Classical.choose (least h)) else 0
theorem fE_0 {E : Nat → Int} {n : Nat} (h : fE E n = 0) : ∀ i, i < n → E i = 0 := by
  intro i hi
  unfold fE at h
  split at h
  · rename_i g
    exact ((Classical.choose_spec (least g)).1.2 h).elim
  · rename_i g
    exact Classical.byContradiction fun k => g ⟨i, hi, k⟩
theorem loopO_err {υ β : Type} {body : υ → Option (υ ⊕ β)} (E : Nat → Int) (n : Nat) (st : Nat → υ) {r0 : β} (rE : Int → β) {x : υ} (hx : st 0 = x) (h1 : ∀ i, i < n → E i = 0 → body (st i) = some (.inl (st (i + 1)))) (h2 : ∀ i, i < n → E i ≠ 0 → body (st i) = some (.inr (rE (E i)))) (h3 : body (st n) = some (.inr r0)) :
    loopO body x = some (if fE E n = 0 then r0 else rE (fE E n)) := by
  by_cases h : ∃ i, i < n ∧ E i ≠ 0
  · have e : fE E n = E (Classical.choose (least h)) := by unfold fE; rw [dif_pos h]
    have hs := Classical.choose_spec (least h)
    rw [e]
    generalize Classical.choose (least h) = k at *
    rw [if_neg hs.1.2]
    exact loopO_from st k hx (fun i hi => h1 i (by omega) (Classical.byContradiction fun hb => hs.2 i hi ⟨by omega, hb⟩)) (h2 k hs.1.1 hs.1.2)
  · have e : fE E n = 0 := by unfold fE; rw [dif_neg h]
    rw [if_pos e]
    exact loopO_from st n hx (fun i hi => h1 i hi (Classical.byContradiction fun hb => h ⟨i, hi, hb⟩)) h3
abbrev er0 (e : Int) : Rs := (([], (0, (false, (false, false)))), ([], e))
theorem ni_j {T : List Tg} {i : Nat} (hi : i < T.length) (hl : T.length ≤ 16) (y : Tg) (hy : T.getD i t0 = y) :
    (dup T i ∧ loopO (niB T (i : Int) (SRT T i)) ((0 : Int), (0 : Int)) = some (.inr (.inr (.inr (.inr (er0 7)))))) ∨ (¬ dup T i ∧ loopO (niB T (i : Int) (SRT T i)) ((0 : Int), (0 : Int)) = some (.inl ((i : Int), (atP y.2 (SRT T i) i : Int)))) := by
  have hsl := SRT_len T i
  obtain ⟨z, hz, hb⟩ := get_at t0 hi
  rw [hy] at hz
  subst hz
  have hd : dup T i ↔ ∃ k, k < i ∧ ((SRT T i).getD k d0).1 = y.1 := by
    unfold dup
    rw [hy]
    constructor
    · rintro ⟨k, k1, k2⟩
      have hm := (mem_SRT (T := T) (z := br (T.getD k t0)) (i := i)).2 ⟨k, k1, rfl⟩
      obtain ⟨j, j1, j2⟩ := List.mem_iff_getElem.1 hm
      refine ⟨j, by omega, ?_⟩
      rw [List.getD_eq_getElem?_getD, List.getElem?_eq_getElem j1, Option.getD_some, j2]
      exact k2
    · rintro ⟨j, j1, j2⟩
      have hm : (SRT T i).getD j d0 ∈ SRT T i := by
        rw [List.getD_eq_getElem?_getD, List.getElem?_eq_getElem (by omega)]
        exact List.getElem_mem _
      obtain ⟨k, k1, k2⟩ := mem_SRT.1 hm
      refine ⟨k, k1, ?_⟩
      rw [← k2] at j2
      exact j2
  generalize SRT T i = S at *
  have hs := loopO_search (body := niB T (i : Int) S) (fun k => ((k : Int), (atP y.2 S k : Int))) i (fun k => (S.getD k d0).1 = y.1) (r0 := .inl ((i : Int), (atP y.2 S i : Int))) (r1 := .inr (.inr (.inr (.inr (er0 7))))) (x := ((0 : Int), (0 : Int))) rfl
    (fun k hk hbad => by
      obtain ⟨x, hx, hbx⟩ := get_at d0 (show k < S.length by omega)
      rw [hx] at hbad
      have hn : ((k : Int) + 1) = ((k + 1 : Nat) : Int) := rfl
      unfold niB
      simp only [atP_succ, hx]
      by_cases hq : y.2 ≤ x.2.1
      · simp (disch := (first | omega | (simp only [List.length_append, List.length_cons, List.length_nil, List.nil_append, List.length_take, List.length_drop]; omega))) only [↓bindO_some, ↓bindO_none, ↓joinO_inl, ↓joinO_inr, ↓joinO_none, ↓outO_some, ↓outO_none, ↓cond_true, ↓cond_false, ↓cond_and, ↓cond_or, ↓cond_not, ↓cond_ite, ↓if_pos, ↓if_neg, ↓if_true, ↓if_false, List.take_length, Nat.le_refl, Bool.not_true, Bool.not_false, ↓hb, ↓hbx, wrap_i64', hn, if_neg hbad, if_pos hq]
      · simp (disch := (first | omega | (simp only [List.length_append, List.length_cons, List.length_nil, List.nil_append, List.length_take, List.length_drop]; omega))) only [↓bindO_some, ↓bindO_none, ↓joinO_inl, ↓joinO_inr, ↓joinO_none, ↓outO_some, ↓outO_none, ↓cond_true, ↓cond_false, ↓cond_and, ↓cond_or, ↓cond_not, ↓cond_ite, ↓if_pos, ↓if_neg, ↓if_true, ↓if_false, List.take_length, Nat.le_refl, Bool.not_true, Bool.not_false, ↓hb, ↓hbx, wrap_i64', hn, if_neg hbad, if_neg hq])
    (fun k hk hbad => by
      obtain ⟨x, hx, hbx⟩ := get_at d0 (show k < S.length by omega)
      rw [hx] at hbad
      unfold niB
      simp (disch := (first | omega | (simp only [List.length_append, List.length_cons, List.length_nil, List.nil_append, List.length_take, List.length_drop]; omega))) only [↓bindO_some, ↓bindO_none, ↓joinO_inl, ↓joinO_inr, ↓joinO_none, ↓outO_some, ↓outO_none, ↓cond_true, ↓cond_false, ↓cond_and, ↓cond_or, ↓cond_not, ↓cond_ite, ↓if_pos, ↓if_neg, ↓if_true, ↓if_false, List.take_length, Nat.le_refl, Bool.not_true, Bool.not_false, ↓hb, ↓hbx, wrap_i64', if_pos hbad])
    (by unfold niB; simp (disch := (first | omega | (simp only [List.length_append, List.length_cons, List.length_nil, List.nil_append, List.length_take, List.length_drop]; omega))) only [↓bindO_some, ↓bindO_none, ↓joinO_inl, ↓joinO_inr, ↓joinO_none, ↓outO_some, ↓outO_none, ↓cond_true, ↓cond_false, ↓cond_and, ↓cond_or, ↓cond_not, ↓cond_ite, ↓if_pos, ↓if_neg, ↓if_true, ↓if_false, List.take_length, Nat.le_refl, Bool.not_true, Bool.not_false, hsl])
  rcases hs with ⟨h, e⟩ | ⟨h, e⟩
  · exact .inl ⟨hd.2 h, e⟩
  · exact .inr ⟨fun k => h (hd.1 k), e⟩
theorem nw_round {T : List Tg} {i : Nat} (hi : i < T.length) (hl : T.length ≤ 16) :
    (EE T i = 0 → nwB T ((i : Int), (SRT T i, (-1, (false, (false, false))))) = some (.inl (((i + 1 : Nat) : Int), (SRT T (i + 1), (-1, (false, (false, false))))))) ∧ (EE T i ≠ 0 → nwB T ((i : Int), (SRT T i, (-1, (false, (false, false))))) = some (.inr (.inr (er0 (EE T i))))) := by
  have hn : ((i : Int) + 1) = ((i + 1 : Nat) : Int) := rfl
  obtain ⟨y, hy, hb⟩ := get_at t0 hi
  have hsl := SRT_len T i
  have hSRT : SRT T (i + 1) = insA (br y) (SRT T i) := by rw [← hy]; rfl
  by_cases h2 : bad2 y
  · rw [EE_2 (by rw [hy]; exact h2)]
    refine ⟨fun h => by omega, fun _ => ?_⟩
    unfold nwB
    by_cases g1 : y.1 = []
    · simp (disch := (first | omega | (simp only [List.length_append, List.length_cons, List.length_nil, List.nil_append, List.length_take, List.length_drop]; omega))) only [↓bindO_some, ↓bindO_none, ↓joinO_inl, ↓joinO_inr, ↓joinO_none, ↓outO_some, ↓outO_none, ↓cond_true, ↓cond_false, ↓cond_and, ↓cond_or, ↓cond_not, ↓cond_ite, ↓if_pos, ↓if_neg, ↓if_true, ↓if_false, List.take_length, Nat.le_refl, Bool.not_true, Bool.not_false, ↓hb, if_pos g1]
    · rcases (show y.2 < 0 ∨ y.2 > 1000 by rcases h2 with h | h | h; exact (g1 h).elim; exact .inl h; exact .inr h) with g | g <;> simp (disch := (first | omega | (simp only [List.length_append, List.length_cons, List.length_nil, List.nil_append, List.length_take, List.length_drop]; omega))) only [↓bindO_some, ↓bindO_none, ↓joinO_inl, ↓joinO_inr, ↓joinO_none, ↓outO_some, ↓outO_none, ↓cond_true, ↓cond_false, ↓cond_and, ↓cond_or, ↓cond_not, ↓cond_ite, ↓if_pos, ↓if_neg, ↓if_true, ↓if_false, List.take_length, Nat.le_refl, Bool.not_true, Bool.not_false, ↓hb, if_neg g1]
  · have g1 : ¬ y.1 = [] := fun g => h2 (.inl g)
    have g2 : ¬ y.2 < 0 := fun g => h2 (.inr (.inl g))
    have g3 : ¬ y.2 > 1000 := fun g => h2 (.inr (.inr g))
    rcases ni_j hi hl y hy with ⟨hd, e⟩ | ⟨hd, e⟩
    · rw [EE_7 (by rw [hy]; exact h2) hd]
      refine ⟨fun h => by omega, fun _ => ?_⟩
      unfold nwB
      simp (disch := (first | omega | (simp only [List.length_append, List.length_cons, List.length_nil, List.nil_append, List.length_take, List.length_drop]; omega))) only [↓bindO_some, ↓bindO_none, ↓joinO_inl, ↓joinO_inr, ↓joinO_none, ↓outO_some, ↓outO_none, ↓cond_true, ↓cond_false, ↓cond_and, ↓cond_or, ↓cond_not, ↓cond_ite, ↓if_pos, ↓if_neg, ↓if_true, ↓if_false, List.take_length, Nat.le_refl, Bool.not_true, Bool.not_false, ↓hb, if_neg g1, e]
    · rw [EE_0 (by rw [hy]; exact h2) hd]
      refine ⟨fun _ => ?_, fun h => (h rfl).elim⟩
      have ha := atP_le y.2 (SRT T i) i
      rw [hSRT]
      unfold nwB insA
      rw [hsl]
      show _ = some (Sum.inl (_, (List.take (atP y.2 (SRT T i) i) (SRT T i) ++ br y :: List.drop (atP y.2 (SRT T i) i) (SRT T i), _)))
      generalize SRT T i = S at *
      generalize atP y.2 S i = p at *
      have hp1 : (List.take p S).length = p := by rw [List.length_take]; omega
      have hp2 : (List.drop p S).length = i - p := by rw [List.length_drop]; omega
      have hp3 : List.take (S.length - p) (List.drop p S) = List.drop p S := by rw [← List.length_drop, List.take_length]
      simp (disch := (first | omega | (simp only [List.length_append, List.length_cons, List.length_nil, List.nil_append, List.length_take, List.length_drop]; omega))) only [↓bindO_some, ↓bindO_none, ↓joinO_inl, ↓joinO_inr, ↓joinO_none, ↓outO_some, ↓outO_none, ↓cond_true, ↓cond_false, ↓cond_and, ↓cond_or, ↓cond_not, ↓cond_ite, ↓if_pos, ↓if_neg, ↓if_true, ↓if_false, List.take_length, Nat.le_refl, Bool.not_true, Bool.not_false, ↓hb, if_neg g1, e, Int.toNat_natCast, hp3, wrap_i64', hn, decide_true, Bool.and_self, List.append_assoc, List.cons_append, List.nil_append]
      rfl
end Go.Proofs.Ytheicchelhjcjaa
