import Derived.Test.YtlaccfegaoaakaaJ4p
import Derived.Test.YtlaccfegaoaakaaZ2p
set_option linter.unusedVariables false
set_option linter.unusedSimpArgs false
set_option maxRecDepth 100000
set_option maxHeartbeats 4000000
namespace Go.Proofs.Ytlaccfegaoaakaa
open Go.RowKit
noncomputable def ecB {γ : Type} (a6 : List Ct) : (Int × List Int) → Option ((Int × List Int) ⊕ (List Int ⊕ γ)) :=
(fun (v110, v111) =>
 bif (decide (v110 < (((List.length a6) : Nat) : Int))) then
 bif (decide (((0 : Int) ≤ v110) ∧ (v110 < (((List.length a6) : Nat) : Int)))) then 
 bindO a6[(Int.toNat v110)]? fun x112 =>
 joinO (bif (decide ((List.length v111) ≤ (List.length v111))) then 
 loopO (nmB (Go.IntKind.wrap .u64 (((List.length x112.1) : Nat) : Int))) ((1 : Int), (List.take (List.length v111) v111))
 else none) fun v121 =>
 bif (decide ((List.length v121) ≤ (List.length v121))) then 
 bif (decide (((List.length ((List.take (List.length v121) v121) ++ (List.map (fun (x122 : UInt8) => (((UInt8.toNat x122) : Nat) : Int)) x112.1))) * 1) ≤ 140737488355328)) then 
 bindO (some ((List.take (List.length v121) v121) ++ (List.map (fun (x124 : UInt8) => (((UInt8.toNat x124) : Nat) : Int)) x112.1))) fun x123 =>
 joinO (bif (decide ((List.length x123) ≤ (List.length x123))) then 
 loopO (nmB (Go.IntKind.wrap .u64 x112.2.1)) ((1 : Int), (List.take (List.length x123) x123))
 else none) fun v133 =>
 joinO (bif (decide ((List.length v133) ≤ (List.length v133))) then 
 loopO (nmB (Go.IntKind.wrap .u64 x112.2.2)) ((3 : Int), (List.take (List.length v133) v133))
 else none) fun v142 =>
 bif (decide ((List.length v142) ≤ (List.length v142))) then 
 some (Sum.inl ((Go.IntKind.wrap .i64 (v110 + (1 : Int))), (List.take (List.length v142) v142)))
 else none
 else none
 else none
 else none
 else
 outO (bif (decide ((List.length v111) ≤ (List.length v111))) then 
 some (Sum.inl (List.take (List.length v111) v111))
 else none))
noncomputable def epB {γ : Type} (a10 : List Tx) : (Int × List Int) → Option ((Int × List Int) ⊕ (List Int ⊕ γ)) :=
(fun (v154, v155) =>
 bif (decide (v154 < (((List.length a10) : Nat) : Int))) then
 bif (decide (((0 : Int) ≤ v154) ∧ (v154 < (((List.length a10) : Nat) : Int)))) then 
 bindO a10[(Int.toNat v154)]? fun x156 =>
 joinO (bif (decide ((List.length v155) ≤ (List.length v155))) then 
 loopO (nmB (Go.IntKind.wrap .u64 (((List.length x156) : Nat) : Int))) ((1 : Int), (List.take (List.length v155) v155))
 else none) fun v165 =>
 bif (decide ((List.length v165) ≤ (List.length v165))) then 
 bif (decide (((List.length ((List.take (List.length v165) v165) ++ (List.map (fun (x166 : UInt8) => (((UInt8.toNat x166) : Nat) : Int)) x156))) * 1) ≤ 140737488355328)) then 
 bindO (some ((List.take (List.length v165) v165) ++ (List.map (fun (x168 : UInt8) => (((UInt8.toNat x168) : Nat) : Int)) x156))) fun x167 =>
 bif (decide ((List.length x167) ≤ (List.length x167))) then 
 some (Sum.inl ((Go.IntKind.wrap .i64 (v154 + (1 : Int))), (List.take (List.length x167) x167)))
 else none
 else none
 else none
 else none
 else
 outO (bif (decide ((List.length v155) ≤ (List.length v155))) then 
 some (Sum.inl (List.take (List.length v155) v155))
 else none))
theorem encP_eq (a1 : Int) (a2 a3 : Tx) (a4 : Int) (a5 : Bool) (a6 : List Ct) (a7 : Int) (a8 : Tx) (a9 : Int) (a10 : List Tx) : registrar_EncodeAct (a1, (a2, (a3, (a4, (a5, (a6, (a7, (a8, (a9, a10))))))))) =

  joinO (bindO (registrar_Formed (a2, (a3, (a4, (a5, (a6, (a7, (a8, (a9, a10))))))))) fun x11 =>
   bif (!x11) then
    outO (some (([] : List Int), (2 : Int)))
   else
    bif (decide (a1 < (0 : Int))) then
     outO (some (([] : List Int), (2 : Int)))
    else
     bif (decide (a1 > (1099511627776 : Int))) then
      outO (some (([] : List Int), (2 : Int)))
     else
      some (Sum.inl ())) fun _ =>
  joinO (loopO (nmB (Go.IntKind.wrap .u64 a1)) ((7 : Int), ([] : List Int))) fun v20 =>
  joinO (bif (decide ((List.length v20) ≤ (List.length v20))) then 
    loopO (nmB (Go.IntKind.wrap .u64 (((List.length a2) : Nat) : Int))) ((1 : Int), (List.take (List.length v20) v20))
   else none) fun v29 =>
  bif (decide ((List.length v29) ≤ (List.length v29))) then 
   bif (decide (((List.length ((List.take (List.length v29) v29) ++ (List.map (fun (x30 : UInt8) => (((UInt8.toNat x30) : Nat) : Int)) a2))) * 1) ≤ 140737488355328)) then 
    bindO (some ((List.take (List.length v29) v29) ++ (List.map (fun (x32 : UInt8) => (((UInt8.toNat x32) : Nat) : Int)) a2))) fun x31 =>
    joinO (bif (decide ((List.length x31) ≤ (List.length x31))) then 
      loopO (nmB (Go.IntKind.wrap .u64 (((List.length a3) : Nat) : Int))) ((1 : Int), (List.take (List.length x31) x31))
     else none) fun v41 =>
    bif (decide ((List.length v41) ≤ (List.length v41))) then 
     bif (decide (((List.length ((List.take (List.length v41) v41) ++ (List.map (fun (x42 : UInt8) => (((UInt8.toNat x42) : Nat) : Int)) a3))) * 1) ≤ 140737488355328)) then 
      bindO (some ((List.take (List.length v41) v41) ++ (List.map (fun (x44 : UInt8) => (((UInt8.toNat x44) : Nat) : Int)) a3))) fun x43 =>
      joinO (bif (decide ((List.length x43) ≤ (List.length x43))) then 
        loopO (nmB (Go.IntKind.wrap .u64 a4)) ((3 : Int), (List.take (List.length x43) x43))
       else none) fun v53 =>
      joinO (bif a5 then
        joinO (bif (decide ((List.length v53) ≤ (List.length v53))) then 
          loopO (nmB (1 : Int)) ((0 : Int), (List.take (List.length v53) v53))
         else none) fun v61 =>
        bif (decide ((List.length v61) ≤ (List.length v61))) then 
         some (Sum.inl (List.take (List.length v61) v61))
        else none
       else
        joinO (bif (decide ((List.length v53) ≤ (List.length v53))) then 
          loopO (nmB (0 : Int)) ((0 : Int), (List.take (List.length v53) v53))
         else none) fun v69 =>
        bif (decide ((List.length v69) ≤ (List.length v69))) then 
         some (Sum.inl (List.take (List.length v69) v69))
        else none) fun v70 =>
      joinO (bif (decide ((List.length v70) ≤ (List.length v70))) then 
        loopO (nmB (Go.IntKind.wrap .u64 a7)) ((3 : Int), (List.take (List.length v70) v70))
       else none) fun v79 =>
      joinO (bif (decide ((List.length v79) ≤ (List.length v79))) then 
        loopO (nmB (Go.IntKind.wrap .u64 (((List.length a8) : Nat) : Int))) ((1 : Int), (List.take (List.length v79) v79))
       else none) fun v88 =>
      bif (decide ((List.length v88) ≤ (List.length v88))) then 
       bif (decide (((List.length ((List.take (List.length v88) v88) ++ (List.map (fun (x89 : UInt8) => (((UInt8.toNat x89) : Nat) : Int)) a8))) * 1) ≤ 140737488355328)) then 
        bindO (some ((List.take (List.length v88) v88) ++ (List.map (fun (x91 : UInt8) => (((UInt8.toNat x91) : Nat) : Int)) a8))) fun x90 =>
        joinO (bif (decide ((List.length x90) ≤ (List.length x90))) then 
          loopO (nmB (Go.IntKind.wrap .u64 a9)) ((3 : Int), (List.take (List.length x90) x90))
         else none) fun v100 =>
        joinO (bif (decide ((List.length v100) ≤ (List.length v100))) then 
          loopO (nmB (Go.IntKind.wrap .u64 (((List.length a6) : Nat) : Int))) ((0 : Int), (List.take (List.length v100) v100))
         else none) fun v109 =>
        joinO (bif (decide ((List.length v109) ≤ (List.length v109))) then 
          loopO (ecB a6) ((0 : Int), (List.take (List.length v109) v109))
         else none) fun v144 =>
        joinO (bif (decide ((List.length v144) ≤ (List.length v144))) then 
          loopO (nmB (Go.IntKind.wrap .u64 (((List.length a10) : Nat) : Int))) ((0 : Int), (List.take (List.length v144) v144))
         else none) fun v153 =>
        joinO (bif (decide ((List.length v153) ≤ (List.length v153))) then 
          loopO (epB a10) ((0 : Int), (List.take (List.length v153) v153))
         else none) fun v170 =>
        bif (decide ((((List.length v170) : Nat) : Int) > (4096 : Int))) then
         some (([] : List Int), (4 : Int))
        else
         bif (decide ((List.length v170) ≤ (List.length v170))) then 
          some ((List.take (List.length v170) v170), (0 : Int))
         else none
       else none
      else none
     else none
    else none
   else none
  else none := rfl
theorem take_snoc {α : Type} (l : List α) (d : α) {i : Nat} (h : i < l.length) : l.take (i + 1) = l.take i ++ [l.getD i d] := by
  rw [List.take_add_one, List.getElem?_eq_getElem h, getD_get d h]; rfl
section
variable {β γ : Type} {u : Int} (b : List Int) (f : List Int → Option γ) (hu : 0 ≤ u) (hb : b.length ≤ 1000000)
include hu hb
theorem n8_b : joinO (loopO (nmB u) (7, b)) f = f (b ++ be u 8) := by rw [nm_j (v := 7) b hu (k := 8) rfl (by omega) hb]; rfl
theorem n4_b : joinO (loopO (nmB u) (3, b)) f = f (b ++ be u 4) := by rw [nm_j (v := 3) b hu (k := 4) rfl (by omega) hb]; rfl
theorem n2_b : joinO (loopO (nmB u) (1, b)) f = f (b ++ be u 2) := by rw [nm_j (v := 1) b hu (k := 2) rfl (by omega) hb]; rfl
theorem n1_b : joinO (loopO (nmB u) (0, b)) f = f (b ++ be u 1) := by rw [nm_j (v := 0) b hu (k := 1) rfl (by omega) hb]; rfl
end
theorem wu64 (n : Int) : 0 ≤ IntKind.wrap .u64 n := by rw [wr_u64]; omega
theorem be_mod (u v : Int) (k : Nat) (h : u % 256 ^ k = v % 256 ^ k) : be u k = be v k := by
  refine List.ext_getElem (by rw [be_len, be_len]) fun n h1 h2 => ?_
  rw [be_len] at h1
  have e1 := be_get u k n h1
  have e2 := be_get v k n h1
  rw [getD_get 0 (by rw [be_len]; exact h1)] at e1 e2
  rw [e1, e2]
  have key : ∀ w : Int, w / 256 ^ (k - 1 - n) % 256 = (w % 256 ^ k) / 256 ^ (k - 1 - n) % 256 := fun w => by
    obtain ⟨m, hm⟩ : ∃ m, k = (k - 1 - n) + (1 + m) := ⟨n, by omega⟩
    have hp : (0 : Int) < 256 ^ (k - 1 - n) := Int.pow_pos (by decide)
    generalize k - 1 - n = q at *
    rw [hm, Int.pow_add, Int.pow_add, Int.pow_one]
    have hd := Int.emod_emod_of_dvd (w / 256 ^ q) (show (256 : Int) ∣ 256 * 256 ^ m from ⟨256 ^ m, rfl⟩)
    rw [← hd]
    congr 1
    rw [Int.emod_def w, Int.sub_ediv_of_dvd _ ⟨256 * 256 ^ m * (w / (256 ^ q * (256 * 256 ^ m))), by rw [Int.mul_assoc]⟩, Int.mul_assoc, Int.mul_ediv_cancel_left _ (by omega), Int.emod_def, Int.ediv_ediv_of_nonneg (by omega)]
  rw [key u, key v, h]
theorem be_wu {a : Int} (h : NO a) : be (IntKind.wrap .u64 a) 4 = be (u4 a) 4 := by
  apply be_mod
  rw [wr_u64]
  unfold u4
  have : (256 : Int) ^ 4 = 4294967296 := by decide
  rw [this]
  split <;> omega
theorem be_nn {a : Int} (k : Nat) (h : 0 ≤ a ∧ a ≤ 4294967296000) : be (IntKind.wrap .u64 a) k = be a k := by
  rw [wr_u64, Int.emod_eq_of_lt h.1 (by omega)]
theorem be_1 {a : Int} (h : 0 ≤ a ∧ a ≤ 255) : be a 1 = [a] := by
  show [] ++ [a % 256] = [a]
  rw [Int.emod_eq_of_lt h.1 (by omega)]; rfl
theorem et_len (s : Tx) : (et s).length = s.length + 2 := by unfold et; rw [List.length_append, be_len, tb_len]; omega
theorem ec_len (x : Ct) : (ec x).length = x.1.length + 8 := by unfold ec; rw [List.length_append, List.length_append, be_len, be_len, et_len]
theorem flat_len {α : Type} (g : α → List Int) (l : List α) (n : Nat) (h : ∀ x ∈ l, (g x).length ≤ n) : (l.flatMap g).length ≤ n * l.length := by
  induction l with
  | nil => simp
  | cons x l ih =>
    have h1 := h x List.mem_cons_self
    have h2 := ih fun y hy => h y (List.mem_cons_of_mem _ hy)
    rw [List.flatMap_cons, List.length_append, List.length_cons, Nat.mul_succ]
    omega
theorem map_tb (s : Tx) : List.map (fun (x : UInt8) => (((UInt8.toNat x) : Nat) : Int)) s = tb s := rfl
theorem nots (n : Nat) : ((n : Int) + 1) = ((n + 1 : Nat) : Int) := rfl
theorem ecB_j {γ : Type} (l : List Ct) (b : List Int) (hl : l.length ≤ 20) (hc : ∀ i, i < l.length → CW (l.getD i c0)) (hb : b.length ≤ 100000) : loopO (ecB (γ := γ) l) (0, b) = some (.inl (b ++ l.flatMap ec)) := by
  refine loopO_from (fun i => ((i : Int), b ++ (l.take i).flatMap ec)) l.length (by simp) (fun i hi => ?_) ?_
  · obtain ⟨x, hx, hxb⟩ := get_at c0 hi
    have hcw := hc i hi
    have ht := take_snoc l c0 hi
    rw [hx] at hcw ht
    obtain ⟨h1, h2, h3⟩ := hcw
    have hF : ((l.take i).flatMap ec).length ≤ 1010 * 20 := by
      refine Nat.le_trans (flat_len ec _ 1010 fun y hy => ?_) (Nat.mul_le_mul_left _ (by rw [List.length_take]; omega))
      obtain ⟨q, hq, rfl⟩ := List.getElem_of_mem hy
      rw [ec_len]
      have hq' : q < i ∧ q < l.length := by rw [List.length_take] at hq; omega
      have := (hc q hq'.2).1.2
      rw [getD_get c0 hq'.2] at this
      rw [List.getElem_take]
      omega
    have hfl : (l.take (i + 1)).flatMap ec = (l.take i).flatMap ec ++ ec x := by rw [ht, List.flatMap_append]; simp
    rw [hfl]
    generalize (l.take i).flatMap ec = F at hF ⊢
    have w1 := wu64 (x.1.length : Int)
    have w2 := wu64 x.2.1
    have w3 := wu64 x.2.2
    have hu : x.1.length ≤ 1000 := by have := h1.2; omega
    unfold ecB
    simp (disch := (first | omega | (simp only [List.length_append, List.length_cons, List.length_nil, List.length_map, be_len]; omega))) only [↓bindO_some, ↓bindO_none, ↓joinO_inl, ↓joinO_inr, ↓joinO_none, ↓outO_some, ↓outO_none, ↓cond_true, ↓cond_false, ↓cond_and, ↓cond_or, ↓cond_not, ↓cond_ite, ↓if_pos, ↓if_neg, ↓if_true, ↓if_false, List.take_length, Nat.le_refl, Bool.not_true, Bool.not_false, if_pos, if_neg, ↓hxb, ↓n2_b, ↓n4_b, wrap_i64', nots]
    unfold ec et
    rw [be_nn 2 (by omega), be_nn 2 (by omega), be_wu h3]
    simp only [List.append_assoc, map_tb]
  · unfold ecB
    simp (disch := (first | omega | (simp only [List.length_append, List.length_cons, List.length_nil, List.nil_append, List.length_take, List.length_drop]; omega))) only [↓bindO_some, ↓bindO_none, ↓joinO_inl, ↓joinO_inr, ↓joinO_none, ↓outO_some, ↓outO_none, ↓cond_true, ↓cond_false, ↓cond_and, ↓cond_or, ↓cond_not, ↓cond_ite, ↓if_pos, ↓if_neg, ↓if_true, ↓if_false, List.take_length, Nat.le_refl, Bool.not_true, Bool.not_false, if_neg, List.take_length]
theorem epB_j {γ : Type} (l : List Tx) (b : List Int) (hl : l.length ≤ 20) (hc : ∀ i, i < l.length → POK l i) (hb : b.length ≤ 100000) : loopO (epB (γ := γ) l) (0, b) = some (.inl (b ++ l.flatMap et)) := by
  refine loopO_from (fun i => ((i : Int), b ++ (l.take i).flatMap et)) l.length (by simp) (fun i hi => ?_) ?_
  · obtain ⟨x, hx, hxb⟩ := get_at ([] : Tx) hi
    have hcw : Ln (l.getD i []).length 1000 := hc i hi
    have ht := take_snoc l [] hi
    rw [hx] at hcw ht
    have hF : ((l.take i).flatMap et).length ≤ 1010 * 20 := by
      refine Nat.le_trans (flat_len et _ 1010 fun y hy => ?_) (Nat.mul_le_mul_left _ (by rw [List.length_take]; omega))
      obtain ⟨q, hq, rfl⟩ := List.getElem_of_mem hy
      rw [et_len]
      have hq' : q < i ∧ q < l.length := by rw [List.length_take] at hq; omega
      have : Ln (l.getD q []).length 1000 := hc q hq'.2
      rw [getD_get [] hq'.2] at this
      rw [List.getElem_take]
      omega
    have hfl : (l.take (i + 1)).flatMap et = (l.take i).flatMap et ++ et x := by rw [ht, List.flatMap_append]; simp
    rw [hfl]
    generalize (l.take i).flatMap et = F at hF ⊢
    have w1 := wu64 (x.length : Int)
    have hu : x.length ≤ 1000 := by have := hcw.2; omega
    unfold epB
    simp (disch := (first | omega | (simp only [List.length_append, List.length_cons, List.length_nil, List.length_map, be_len]; omega))) only [↓bindO_some, ↓bindO_none, ↓joinO_inl, ↓joinO_inr, ↓joinO_none, ↓outO_some, ↓outO_none, ↓cond_true, ↓cond_false, ↓cond_and, ↓cond_or, ↓cond_not, ↓cond_ite, ↓if_pos, ↓if_neg, ↓if_true, ↓if_false, List.take_length, Nat.le_refl, Bool.not_true, Bool.not_false, if_pos, if_neg, ↓hxb, ↓n2_b, wrap_i64', nots]
    unfold et
    rw [be_nn 2 (by omega)]
    simp only [List.append_assoc, map_tb]
  · unfold epB
    simp (disch := (first | omega | (simp only [List.length_append, List.length_cons, List.length_nil, List.nil_append, List.length_take, List.length_drop]; omega))) only [↓bindO_some, ↓bindO_none, ↓joinO_inl, ↓joinO_inr, ↓joinO_none, ↓outO_some, ↓outO_none, ↓cond_true, ↓cond_false, ↓cond_and, ↓cond_or, ↓cond_not, ↓cond_ite, ↓if_pos, ↓if_neg, ↓if_true, ↓if_false, List.take_length, Nat.le_refl, Bool.not_true, Bool.not_false, if_neg, List.take_length]
abbrev EOK (now : Int) (a1 a2 : Tx) (a3 : Int) (a4 : Bool) (a5 : List Ct) (a6 : Int) (a7 : Tx) (a8 : Int) (a9 : List Tx) : Prop := FM a1 a2 a3 a4 a5 a6 a7 a8 a9 ∧ 0 ≤ now ∧ now ≤ 1099511627776
theorem ecB_b {γ : Type} (l : List Ct) (b : List Int) (f : List Int → Option γ) (hl : l.length ≤ 20) (hc : ∀ i, i < l.length → CW (l.getD i c0)) (hb : b.length ≤ 100000) : joinO (loopO (ecB l) (0, b)) f = f (b ++ l.flatMap ec) := by rw [ecB_j l b hl hc hb]; rfl
theorem epB_b {γ : Type} (l : List Tx) (b : List Int) (f : List Int → Option γ) (hl : l.length ≤ 20) (hc : ∀ i, i < l.length → POK l i) (hb : b.length ≤ 100000) : joinO (loopO (epB l) (0, b)) f = f (b ++ l.flatMap et) := by rw [epB_j l b hl hc hb]; rfl
theorem flat_ec {l : List Ct} (hl : l.length ≤ 20) (hc : ∀ i, i < l.length → CW (l.getD i c0)) : (l.flatMap ec).length ≤ 20200 := by
  refine Nat.le_trans (flat_len ec _ 1010 fun y hy => ?_) (by omega)
  obtain ⟨q, hq, rfl⟩ := List.getElem_of_mem hy
  have := (hc q hq).1.2
  rw [getD_get c0 hq] at this
  rw [ec_len]
  omega
theorem flat_et {l : List Tx} (hl : l.length ≤ 20) (hc : ∀ i, i < l.length → POK l i) : (l.flatMap et).length ≤ 20200 := by
  refine Nat.le_trans (flat_len et _ 1010 fun y hy => ?_) (by omega)
  obtain ⟨q, hq, rfl⟩ := List.getElem_of_mem hy
  have : Ln (l.getD q []).length 1000 := hc q hq
  rw [getD_get [] hq] at this
  rw [et_len]
  omega
open Classical in
theorem formP_b {β : Type} (a1 a2 : Tx) (a3 : Int) (a4 : Bool) (a5 : List Ct) (a6 : Int) (a7 : Tx) (a8 : Int) (a9 : List Tx) (k : Bool → Option β) : bindO (registrar_Formed (a1, (a2, (a3, (a4, (a5, (a6, (a7, (a8, a9))))))))) k = k (decide (FM a1 a2 a3 a4 a5 a6 a7 a8 a9)) := by
  rcases formedP_j a1 a2 a3 a4 a5 a6 a7 a8 a9 with ⟨h, e⟩ | ⟨h, e⟩
  · rw [e, decide_eq_true h]; rfl
  · rw [e, decide_eq_false h]; rfl
theorem encP_j {now : Int} {a1 a2 : Tx} {a3 : Int} {a4 : Bool} {a5 : List Ct} {a6 : Int} {a7 : Tx} {a8 : Int} {a9 : List Tx} (h : EOK now a1 a2 a3 a4 a5 a6 a7 a8 a9) :
    registrar_EncodeAct (now, (a1, (a2, (a3, (a4, (a5, (a6, (a7, (a8, a9))))))))) = some (if ((ENC now a1 a2 a3 a4 a5 a6 a7 a8 a9).length : Int) > 4096 then ([], 4) else (ENC now a1 a2 a3 a4 a5 a6 a7 a8 a9, 0)) := by
  rw [encP_eq]
  obtain ⟨hF, n0, n1⟩ := h
  obtain ⟨⟨f1, f2, f3⟩, ⟨f4, f5, f6⟩, f7, f8, f9, f10, f11, f12⟩ := id hF
  have hn0 : ¬ now < 0 := by omega
  have hn1 : ¬ now > 1099511627776 := by omega
  have l1 : a1.length ≤ 255 := by have := f1.2; omega
  have l2 : a2.length ≤ 255 := by have := f2.2; omega
  have w0 := wu64 now
  have w1 := wu64 (a1.length : Int)
  have w2 := wu64 (a2.length : Int)
  have w3 := wu64 a3
  have w6 := wu64 a6
  have w7 := wu64 (a7.length : Int)
  have w8 := wu64 a8
  have w5 := wu64 (a5.length : Int)
  have w9 := wu64 (a9.length : Int)
  have g5 := flat_ec f5 (fun i hi => (f11 i hi).1)
  have g9 := flat_et (l := a9) (by omega) f12
  have hec : ∀ i, i < a5.length → CW (a5.getD i c0) := fun i hi => (f11 i hi).1
  have e0 := be_nn (a := now) 8 (by omega)
  have e1 := be_nn (a := (a1.length : Int)) 2 (by omega)
  have e2 := be_nn (a := (a2.length : Int)) 2 (by omega)
  have e3 := be_nn (a := a3) 4 (by omega)
  have e6 := be_wu f4
  have e7 := be_nn (a := (a7.length : Int)) 2 (by omega)
  have e8 := be_nn (a := a8) 4 (by omega)
  have e5 : be (IntKind.wrap .u64 (a5.length : Int)) 1 = [(a5.length : Int)] := by rw [be_nn 1 (by omega), be_1 (by omega)]
  have e9 : be (IntKind.wrap .u64 (a9.length : Int)) 1 = [(a9.length : Int)] := by rw [be_nn 1 (by omega), be_1 (by omega)]
  have key : ∀ (X Y : List Int), X = Y → (if ((X.length : Nat) : Int) > 4096 then some (([] : List Int), (4 : Int)) else some (X, 0)) = some (if ((Y.length : Nat) : Int) > 4096 then ([], 4) else (Y, 0)) := fun X Y e => by
    subst e
    split <;> rfl
  cases a4 with
  | true =>
    simp (disch := (first | assumption | omega | (simp only [List.length_append, List.length_cons, List.length_nil, List.length_map, be_len]; omega))) only [↓bindO_some, ↓bindO_none, ↓joinO_inl, ↓joinO_inr, ↓joinO_none, ↓outO_some, ↓outO_none, ↓cond_true, ↓cond_false, ↓cond_and, ↓cond_or, ↓cond_not, ↓cond_ite, ↓if_pos, ↓if_neg, ↓if_true, ↓if_false, List.take_length, Nat.le_refl, Bool.not_true, Bool.not_false, ↓formP_b, hF, hn0, hn1, decide_true, decide_false, if_pos, if_neg, ↓n8_b, ↓n4_b, ↓n2_b, ↓n1_b, ↓ecB_b, ↓epB_b]
    refine key _ _ ?_
    rw [e0, e1, e2, e3, e5, e6, e7, e8, e9, be_1 (by omega)]
    unfold ENC et
    simp only [List.append_assoc, map_tb, List.nil_append, if_true]
  | false =>
    simp (disch := (first | assumption | omega | (simp only [List.length_append, List.length_cons, List.length_nil, List.length_map, be_len]; omega))) only [↓bindO_some, ↓bindO_none, ↓joinO_inl, ↓joinO_inr, ↓joinO_none, ↓outO_some, ↓outO_none, ↓cond_true, ↓cond_false, ↓cond_and, ↓cond_or, ↓cond_not, ↓cond_ite, ↓if_pos, ↓if_neg, ↓if_true, ↓if_false, List.take_length, Nat.le_refl, Bool.not_true, Bool.not_false, ↓formP_b, hF, hn0, hn1, decide_true, decide_false, if_pos, if_neg, ↓n8_b, ↓n4_b, ↓n2_b, ↓n1_b, ↓ecB_b, ↓epB_b]
    refine key _ _ ?_
    rw [e0, e1, e2, e3, e5, e6, e7, e8, e9, be_1 (by omega)]
    unfold ENC et
    simp only [List.append_assoc, map_tb, List.nil_append, Bool.false_eq_true, if_false]
theorem encP_no {now : Int} {a1 a2 : Tx} {a3 : Int} {a4 : Bool} {a5 : List Ct} {a6 : Int} {a7 : Tx} {a8 : Int} {a9 : List Tx} (h : ¬ EOK now a1 a2 a3 a4 a5 a6 a7 a8 a9) :
    registrar_EncodeAct (now, (a1, (a2, (a3, (a4, (a5, (a6, (a7, (a8, a9))))))))) = some ([], 2) := by
  rw [encP_eq]
  by_cases hF : FM a1 a2 a3 a4 a5 a6 a7 a8 a9
  · by_cases h0 : now < 0
    · simp only [↓bindO_some, ↓bindO_none, ↓joinO_inl, ↓joinO_inr, ↓joinO_none, ↓outO_some, ↓outO_none, ↓cond_true, ↓cond_false, ↓cond_and, ↓cond_or, ↓cond_not, ↓cond_ite, ↓if_pos, ↓if_neg, ↓if_true, ↓if_false, List.take_length, Nat.le_refl, Bool.not_true, Bool.not_false, ↓formP_b, hF, h0, decide_true]
    · have h1 : now > 1099511627776 := by
        by_cases g : now > 1099511627776
        · exact g
        · exact (h ⟨hF, by omega, by omega⟩).elim
      simp only [↓bindO_some, ↓bindO_none, ↓joinO_inl, ↓joinO_inr, ↓joinO_none, ↓outO_some, ↓outO_none, ↓cond_true, ↓cond_false, ↓cond_and, ↓cond_or, ↓cond_not, ↓cond_ite, ↓if_pos, ↓if_neg, ↓if_true, ↓if_false, List.take_length, Nat.le_refl, Bool.not_true, Bool.not_false, ↓formP_b, hF, h0, h1, decide_true, decide_false]
  · simp only [↓bindO_some, ↓bindO_none, ↓joinO_inl, ↓joinO_inr, ↓joinO_none, ↓outO_some, ↓outO_none, ↓cond_true, ↓cond_false, ↓cond_and, ↓cond_or, ↓cond_not, ↓cond_ite, ↓if_pos, ↓if_neg, ↓if_true, ↓if_false, List.take_length, Nat.le_refl, Bool.not_true, Bool.not_false, ↓formP_b, hF, decide_false]
end Go.Proofs.Ytlaccfegaoaakaa
