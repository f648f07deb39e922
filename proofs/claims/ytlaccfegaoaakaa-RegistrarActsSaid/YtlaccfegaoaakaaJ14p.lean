import Derived.Test.YtlaccfegaoaakaaJ13p
set_option linter.unusedVariables false
set_option linter.unusedSimpArgs false
set_option maxRecDepth 100000
set_option maxHeartbeats 4000000
namespace Go.Proofs.Ytlaccfegaoaakaa
open Go.RowKit
noncomputable def strB (a1 a2 : List Tx) : Int → Option (Int ⊕ (Unit ⊕ Bool)) :=
(fun v3 =>
 bif (decide (v3 < (((List.length a1) : Nat) : Int))) then
 bif (decide (((0 : Int) ≤ v3) ∧ (v3 < (((List.length a1) : Nat) : Int)))) then 
 bindO a1[(Int.toNat v3)]? fun x4 =>
 bif (decide (((0 : Int) ≤ v3) ∧ (v3 < (((List.length a2) : Nat) : Int)))) then 
 bindO a2[(Int.toNat v3)]? fun x5 =>
 bif (decide (x4 ≠ x5)) then
 outO (outO (some Bool.false))
 else
 some (Sum.inl (Go.IntKind.wrap .i64 (v3 + (1 : Int))))
 else none
 else none
 else
 outO (some (Sum.inl ())))
theorem strings_eq (a1 a2 : List Tx) : dialtoneref22_strings (a1, a2) =

  bif (decide ((((List.length a1) : Nat) : Int) ≠ (((List.length a2) : Nat) : Int))) then
   some Bool.false
  else
   joinO (loopO (strB a1 a2) (0 : Int)) fun _ =>
   some Bool.true := rfl
noncomputable def saB (a5 a14 : List Ct) : Int → Option (Int ⊕ (Unit ⊕ Bool)) :=
(fun v20 =>
 bif (decide (v20 < (((List.length a5) : Nat) : Int))) then
 bif (decide (((0 : Int) ≤ v20) ∧ (v20 < (((List.length a5) : Nat) : Int)))) then 
 bindO a5[(Int.toNat v20)]? fun x21 =>
 bif (decide (((0 : Int) ≤ v20) ∧ (v20 < (((List.length a14) : Nat) : Int)))) then 
 bindO a14[(Int.toNat v20)]? fun x22 =>
 bif (!((decide (x21.1 = x22.1)) && ((decide (x21.2.1 = x22.2.1)) && (decide (x21.2.2 = x22.2.2))))) then
 outO (outO (some Bool.false))
 else
 some (Sum.inl (Go.IntKind.wrap .i64 (v20 + (1 : Int))))
 else none
 else none
 else
 outO (some (Sum.inl ())))
theorem sameact_eq (a1 a2 : Tx) (a3 : Int) (a4 : Bool) (a5 : List Ct) (a6 : Int) (a7 : Tx) (a8 : Int) (a9 : List Tx) (a10 a11 : Tx) (a12 : Int) (a13 : Bool) (a14 : List Ct) (a15 : Int) (a16 : Tx) (a17 : Int) (a18 : List Tx) : dialtoneref22_SameAct ((a1, (a2, (a3, (a4, (a5, (a6, (a7, (a8, a9)))))))), (a10, (a11, (a12, (a13, (a14, (a15, (a16, (a17, a18))))))))) =

  joinO (bif (decide (a1 ≠ a10)) then
    outO (some Bool.false)
   else
    bif (decide (a2 ≠ a11)) then
     outO (some Bool.false)
    else
     bif (decide (a3 ≠ a12)) then
      outO (some Bool.false)
     else
      bif (a4 != a13) then
       outO (some Bool.false)
      else
       bif (decide (a6 ≠ a15)) then
        outO (some Bool.false)
       else
        bif (decide (a7 ≠ a16)) then
         outO (some Bool.false)
        else
         bif (decide (a8 ≠ a17)) then
          outO (some Bool.false)
         else
          bindO (dialtoneref22_strings (a9, a18)) fun x19 =>
          bif (!x19) then
           outO (some Bool.false)
          else
           bif (decide ((((List.length a5) : Nat) : Int) ≠ (((List.length a14) : Nat) : Int))) then
            outO (some Bool.false)
           else
            some (Sum.inl ())) fun _ =>
  joinO (loopO (saB a5 a14) (0 : Int)) fun _ =>
  some Bool.true := rfl
theorem strings_refl (l : List Tx) (h : l.length ≤ 1000) : dialtoneref22_strings (l, l) = some true := by
  rw [strings_eq]
  have e : loopO (strB l l) (0 : Int) = some (.inl ()) := by
    refine loopO_from (fun i => (i : Int)) l.length rfl (fun i hi => ?_) ?_
    · obtain ⟨x, hx, hxb⟩ := get_at ([] : Tx) hi
      have hn : ((i : Int) + 1) = ((i + 1 : Nat) : Int) := rfl
      unfold strB
      simp (disch := (first | omega | (simp only [List.length_append, List.length_cons, List.length_nil, List.nil_append, List.length_take, List.length_drop]; omega))) only [↓bindO_some, ↓bindO_none, ↓joinO_inl, ↓joinO_inr, ↓joinO_none, ↓outO_some, ↓outO_none, ↓cond_true, ↓cond_false, ↓cond_and, ↓cond_or, ↓cond_not, ↓cond_ite, ↓if_pos, ↓if_neg, ↓if_true, ↓if_false, List.take_length, Nat.le_refl, Bool.not_true, Bool.not_false, if_pos, if_neg, ↓hxb, wrap_i64', hn, ne_eq, not_true_eq_false, decide_false]
    · unfold strB
      simp (disch := (first | omega | (simp only [List.length_append, List.length_cons, List.length_nil, List.nil_append, List.length_take, List.length_drop]; omega))) only [↓bindO_some, ↓bindO_none, ↓joinO_inl, ↓joinO_inr, ↓joinO_none, ↓outO_some, ↓outO_none, ↓cond_true, ↓cond_false, ↓cond_and, ↓cond_or, ↓cond_not, ↓cond_ite, ↓if_pos, ↓if_neg, ↓if_true, ↓if_false, List.take_length, Nat.le_refl, Bool.not_true, Bool.not_false, if_neg]
  simp only [↓bindO_some, ↓bindO_none, ↓joinO_inl, ↓joinO_inr, ↓joinO_none, ↓outO_some, ↓outO_none, ↓cond_true, ↓cond_false, ↓cond_and, ↓cond_or, ↓cond_not, ↓cond_ite, ↓if_pos, ↓if_neg, ↓if_true, ↓if_false, List.take_length, Nat.le_refl, Bool.not_true, Bool.not_false, ne_eq, not_true_eq_false, decide_false, e]
theorem same_refl (a1 a2 : Tx) (a3 : Int) (a4 : Bool) (a5 : List Ct) (a6 : Int) (a7 : Tx) (a8 : Int) (a9 : List Tx) (h5 : a5.length ≤ 1000) (h9 : a9.length ≤ 1000) : dialtoneref22_SameAct ((a1, (a2, (a3, (a4, (a5, (a6, (a7, (a8, a9)))))))), (a1, (a2, (a3, (a4, (a5, (a6, (a7, (a8, a9))))))))) = some true := by
  rw [sameact_eq]
  have e : loopO (saB a5 a5) (0 : Int) = some (.inl ()) := by
    refine loopO_from (fun i => (i : Int)) a5.length rfl (fun i hi => ?_) ?_
    · obtain ⟨x, hx, hxb⟩ := get_at c0 hi
      have hn : ((i : Int) + 1) = ((i + 1 : Nat) : Int) := rfl
      unfold saB
      simp (disch := (first | omega | (simp only [List.length_append, List.length_cons, List.length_nil, List.nil_append, List.length_take, List.length_drop]; omega))) only [↓bindO_some, ↓bindO_none, ↓joinO_inl, ↓joinO_inr, ↓joinO_none, ↓outO_some, ↓outO_none, ↓cond_true, ↓cond_false, ↓cond_and, ↓cond_or, ↓cond_not, ↓cond_ite, ↓if_pos, ↓if_neg, ↓if_true, ↓if_false, List.take_length, Nat.le_refl, Bool.not_true, Bool.not_false, if_pos, if_neg, ↓hxb, wrap_i64', hn, decide_true, Bool.and_self]
    · unfold saB
      simp (disch := (first | omega | (simp only [List.length_append, List.length_cons, List.length_nil, List.nil_append, List.length_take, List.length_drop]; omega))) only [↓bindO_some, ↓bindO_none, ↓joinO_inl, ↓joinO_inr, ↓joinO_none, ↓outO_some, ↓outO_none, ↓cond_true, ↓cond_false, ↓cond_and, ↓cond_or, ↓cond_not, ↓cond_ite, ↓if_pos, ↓if_neg, ↓if_true, ↓if_false, List.take_length, Nat.le_refl, Bool.not_true, Bool.not_false, if_neg]
  simp only [↓bindO_some, ↓bindO_none, ↓joinO_inl, ↓joinO_inr, ↓joinO_none, ↓outO_some, ↓outO_none, ↓cond_true, ↓cond_false, ↓cond_and, ↓cond_or, ↓cond_not, ↓cond_ite, ↓if_pos, ↓if_neg, ↓if_true, ↓if_false, List.take_length, Nat.le_refl, Bool.not_true, Bool.not_false, ne_eq, not_true_eq_false, decide_false, bne_self_eq_false, strings_refl a9 h9, e]
def actOf (now : Int) (a1 a2 : Tx) (a3 : Int) (a4 : Bool) (a5 : List Ct) (a6 : Int) (a7 : Tx) (a8 : Int) (a9 : List Tx) : AC :=
  ⟨now, tb a1, tb a2, a3, if a4 = true then 1 else 0, u4 a6, tb a7, a8, a5.map fun x => (tb x.1, (x.2.1, u4 x.2.2)), a9.map tb, []⟩
theorem rawt_et (s : Tx) : rawt (tb s) = et s := by unfold rawt et; rw [tb_len]
theorem rawc_ec (x : Ct) : rawc (tb x.1, (x.2.1, u4 x.2.2)) = ec x := by
  unfold rawc ec
  simp only [rawt_et, List.append_assoc]
theorem enc_raw {now : Int} {a1 a2 : Tx} {a3 : Int} {a4 : Bool} {a5 : List Ct} {a6 : Int} {a7 : Tx} {a8 : Int} {a9 : List Tx} (h5 : a5.length ≤ 255) (h9 : a9.length ≤ 255) : ENC now a1 a2 a3 a4 a5 a6 a7 a8 a9 = raw (actOf now a1 a2 a3 a4 a5 a6 a7 a8 a9) := by
  have e1 : be (if a4 = true then (1 : Int) else 0) 1 = [if a4 = true then (1 : Int) else 0] := be_1 (by split <;> omega)
  have e5 : be (a5.length : Int) 1 = [(a5.length : Int)] := be_1 (by omega)
  have e9 : be (a9.length : Int) 1 = [(a9.length : Int)] := be_1 (by omega)
  have f5 : (a5.map fun x => (tb x.1, (x.2.1, u4 x.2.2))).flatMap rawc = a5.flatMap ec := by
    rw [List.flatMap_map]
    exact congrArg (fun f => a5.flatMap f) (funext rawc_ec)
  have f9 : (a9.map tb).flatMap rawt = a9.flatMap et := by
    rw [List.flatMap_map]
    exact congrArg (fun f => a9.flatMap f) (funext rawt_et)
  unfold ENC raw actOf
  simp only [List.length_map, e1, e5, e9, f5, f9, rawt_et, List.append_assoc, List.append_nil]
theorem sg_u4 {n : Int} (h : NO n) : sgP (u4 n) = n := by
  unfold sgP u4
  split <;> split <;> omega
theorem u4_rng {n : Int} (h : NO n) : 0 ≤ u4 n ∧ u4 n < 4294967296 := by
  unfold u4
  split <;> omega
theorem sg_nn {n : Int} (h : NN n) : sgP n = n := by
  unfold sgP
  split <;> omega
theorem u4_sg {n : Int} (h : 0 ≤ n ∧ n < 4294967296) : u4 (sgP n) = n := by
  unfold sgP u4
  split <;> split <;> omega
theorem nn_sg {n : Int} (h : 0 ≤ n ∧ n < 4294967296) (g : NN (sgP n)) : sgP n = n := by
  unfold sgP at *
  split at g <;> split <;> omega
theorem by_app {a b : List Int} (h : By a) (k : By b) : By (a ++ b) := fun x hx => (List.mem_append.1 hx).elim (h x) (k x)
theorem by_flat {α : Type} {l : List α} {f : α → List Int} (h : ∀ a ∈ l, By (f a)) : By (l.flatMap f) := fun x hx => by
  obtain ⟨a, ha, hx⟩ := List.mem_flatMap.1 hx
  exact h a ha x hx
theorem rawt_by {t : List Int} (h : By t) : By (rawt t) := by_app (be_by _ _) h
theorem raw_by {a : AC} (hk : ACok a) (hr : a.rest = []) : By (raw a) := by
  obtain ⟨h0, h1, h2, h3, h4, h5, h6, h7, h8, h9, g0, g1⟩ := hk
  unfold raw
  rw [hr]
  exact by_app (be_by _ _) (by_app (rawt_by h1.2) (by_app (rawt_by h2.2) (by_app (be_by _ _) (by_app (be_by _ _) (by_app (be_by _ _) (by_app (rawt_by h6.2) (by_app (be_by _ _) (by_app (be_by _ _) (by_app (by_flat fun x hx => by_app (rawt_by (h9 x hx).2.1) (by_app (be_by _ _) (be_by _ _))) (by_app (be_by _ _) (by_app (by_flat fun x hx => rawt_by (g1 x hx).2) (fun x hx => by cases hx))))))))))))
section
variable {now : Int} {a1 a2 : Tx} {a3 : Int} {a4 : Bool} {a5 : List Ct} {a6 : Int} {a7 : Tx} {a8 : Int} {a9 : List Tx} (h : EOK now a1 a2 a3 a4 a5 a6 a7 a8 a9)
include h
theorem act_ok : ACok (actOf now a1 a2 a3 a4 a5 a6 a7 a8 a9) := by
  obtain ⟨⟨⟨⟨_, u1⟩, ⟨_, u2⟩, u3⟩, ⟨u6, u5, u9⟩, _, u7, u8, _, uc, up⟩, n0, n1⟩ := h
  have v6 := u4_rng u6
  have hs : 0 ≤ (if a4 = true then (1 : Int) else 0) ∧ (if a4 = true then (1 : Int) else 0) < 256 := by split <;> omega
  unfold actOf
  refine ⟨⟨n0, by show now < _; omega⟩, ⟨?_, tb_by _⟩, ⟨?_, tb_by _⟩, ⟨u3.1, ?_⟩, hs, v6, ⟨?_, tb_by _⟩, ⟨u8.1, ?_⟩, ?_, fun x hx => ?_, ?_, fun x hx => ?_⟩
  · show (tb a1).length ≤ _; rw [tb_len]; omega
  · show (tb a2).length ≤ _; rw [tb_len]; omega
  · show a3 < _; omega
  · show (tb a7).length ≤ _; rw [tb_len]; omega
  · show a8 < _; omega
  · show (a5.map _).length ≤ _; rw [List.length_map]; omega
  · obtain ⟨y, hy, rfl⟩ := List.mem_map.1 hx
    obtain ⟨i, hi, rfl⟩ := List.getElem_of_mem hy
    obtain ⟨⟨⟨_, w1⟩, ⟨w2, w3⟩, w4⟩, _⟩ := uc i hi
    rw [getD_get c0 hi] at w1 w2 w3 w4
    refine ⟨?_, tb_by _, ⟨w2, ?_⟩, u4_rng w4⟩
    · show (tb _).length ≤ _; rw [tb_len]; omega
    · exact Int.lt_of_le_of_lt w3 (by decide)
  · show (a9.map _).length ≤ _; rw [List.length_map]; omega
  · obtain ⟨y, hy, rfl⟩ := List.mem_map.1 hx
    obtain ⟨i, hi, rfl⟩ := List.getElem_of_mem hy
    have w := (up i hi).2
    rw [getD_get _ hi] at w
    exact ⟨by rw [tb_len]; omega, tb_by _⟩
theorem act_reg : regOf sgP (actOf now a1 a2 a3 a4 a5 a6 a7 a8 a9) = (a1, (a2, (a3, (a4, (a5, (a6, (a7, (a8, a9)))))))) := by
  obtain ⟨⟨⟨⟨_, u1⟩, ⟨_, u2⟩, u3⟩, ⟨u6, u5, u9⟩, _, u7, u8, _, uc, up⟩, n0, n1⟩ := h
  have e4 : decide ((if a4 = true then (1 : Int) else 0) = 1) = a4 := by cases a4 <;> rfl
  have e5 : (a5.map fun x => ((tb x.1, (x.2.1, u4 x.2.2)) : RC)).map (mcS sgP) = a5 := by
    rw [List.map_map]
    conv => rhs; rw [← List.map_id a5]
    apply List.map_congr_left
    intro y hy
    obtain ⟨i, hi, rfl⟩ := List.getElem_of_mem hy
    obtain ⟨⟨_, _, w4⟩, _⟩ := uc i hi
    rw [getD_get c0 hi] at w4
    show (bt (tb _), (_, sgP (u4 _))) = _
    rw [bt_tb, sg_u4 w4]
    rfl
  have e9 : (a9.map tb).map bt = a9 := by
    rw [List.map_map]
    conv => rhs; rw [← List.map_id a9]
    apply List.map_congr_left
    intro y _
    exact bt_tb y
  unfold regOf actOf
  simp only [bt_tb, sg_nn u3, sg_nn u8, sg_u4 u6, e4, e5, e9]
theorem dec_enc (hl : (ENC now a1 a2 a3 a4 a5 a6 a7 a8 a9).length ≤ 4096) : registrar_DecodeAct (ENC now a1 a2 a3 a4 a5 a6 a7 a8 a9) = some (now, ((a1, (a2, (a3, (a4, (a5, (a6, (a7, (a8, a9)))))))), 0)) := by
  have hF := h.1
  obtain ⟨⟨_, _, u3⟩, ⟨u6, u5, u9⟩, _⟩ := h.1
  have hk := act_ok h
  have hp := parse_raw hk
  have hr := act_reg h
  have he := enc_raw (now := now) (a1 := a1) (a2 := a2) (a3 := a3) (a4 := a4) (a5 := a5) (a6 := a6) (a7 := a7) (a8 := a8) (a9 := a9) (by omega) (by omega)
  have hb := raw_by hk rfl
  rw [he] at hl ⊢
  rw [decP_j ⟨hb, by omega⟩, OUT_good hp ⟨rfl, ?_, h.2.2, ?_⟩, hr]
  · rfl
  · show (if a4 = true then (1 : Int) else 0) ≤ 1
    split <;> omega
  · rw [hr]; exact hF
end
theorem reg_act {a : AC} (hk : ACok a) (hg : goodA sgP a) : actOf a.now (bt a.aor) (bt a.cid) (sgP a.sq) (decide (a.st = 1)) (a.cs.map (mcS sgP)) (sgP a.ex) (bt a.ins) (sgP a.fl) (a.ps.map bt) = a := by
  obtain ⟨h0, h1, h2, h3, h4, h5, h6, h7, h8, h9, g0, g1⟩ := hk
  obtain ⟨q0, q1, q2, q3⟩ := hg
  obtain ⟨now, aor, cid, sq, st, ex, ins, fl, cs, ps, rest⟩ := a
  simp only at *
  obtain ⟨⟨_, _, u3⟩, ⟨u6, u5, u9⟩, _, u7, u8, _, uc, up⟩ := q3
  have e3 : sgP sq = sq := nn_sg h3 u3
  have e8 : sgP fl = fl := nn_sg h7 u8
  have e4 : (if decide (st = 1) = true then (1 : Int) else 0) = st := by
    by_cases g : st = 1
    · rw [if_pos (decide_eq_true g), g]
    · rw [if_neg (by simp only [decide_eq_true_eq]; exact g)]; omega
  have e5 : (cs.map (mcS sgP)).map (fun x => ((tb x.1, (x.2.1, u4 x.2.2)) : RC)) = cs := by
    rw [List.map_map]
    conv => rhs; rw [← List.map_id cs]
    apply List.map_congr_left
    intro y hy
    obtain ⟨_, w1, w2, w3⟩ := h9 y hy
    show (tb (bt _), (_, u4 (sgP _))) = _
    rw [tb_bt w1, u4_sg w3]
    rfl
  have e9 : (ps.map bt).map tb = ps := by
    rw [List.map_map]
    conv => rhs; rw [← List.map_id ps]
    apply List.map_congr_left
    intro y hy
    exact tb_bt (g1 y hy).2
  unfold actOf
  simp only [tb_bt h1.2, tb_bt h2.2, tb_bt h6.2, e3, e8, e4, e5, e9, u4_sg h5, q0]
theorem reg_same {a : AC} (hk : ACok a) (h : FMr (regOf sgP a) ∨ FMr (regOf sgR a)) : regOf sgP a = regOf sgR a := by
  obtain ⟨h0, h1, h2, h3, h4, h5, h6, h7, h8, h9, g0, g1⟩ := hk
  obtain ⟨now, aor, cid, sq, st, ex, ins, fl, cs, ps, rest⟩ := a
  simp only at *
  have e3 : sgP sq = sgR sq := sg_eq h3 (by
    rcases h with h | h
    · obtain ⟨⟨_, _, u3⟩, _⟩ := h; have : NN (sgP sq) := u3; exact .inl ⟨by omega, by omega⟩
    · obtain ⟨⟨_, _, u3⟩, _⟩ := h; have : NN (sgR sq) := u3; exact .inr ⟨by omega, by omega⟩)
  have e5 : sgP ex = sgR ex := sg_eq h5 (by
    rcases h with h | h
    · obtain ⟨_, ⟨u6, _⟩, _⟩ := h; exact .inl u6
    · obtain ⟨_, ⟨u6, _⟩, _⟩ := h; exact .inr u6)
  have e7 : sgP fl = sgR fl := sg_eq h7 (by
    rcases h with h | h
    · obtain ⟨_, _, _, _, u8, _⟩ := h; have : NN (sgP fl) := u8; exact .inl ⟨by omega, by omega⟩
    · obtain ⟨_, _, _, _, u8, _⟩ := h; have : NN (sgR fl) := u8; exact .inr ⟨by omega, by omega⟩)
  have e9 : cs.map (mcS sgP) = cs.map (mcS sgR) := by
    apply List.map_congr_left
    intro y hy
    obtain ⟨_, _, _, w3⟩ := h9 y hy
    have hs : sgP y.2.2 = sgR y.2.2 := sg_eq w3 (by
      obtain ⟨i, hi, rfl⟩ := List.getElem_of_mem hy
      rcases h with h | h
      · obtain ⟨_, _, _, _, _, _, uc, _⟩ := h
        have hi' : i < (cs.map (mcS sgP)).length := by rw [List.length_map]; exact hi
        obtain ⟨⟨_, _, w⟩, _⟩ := uc i hi'
        have w : NO ((cs.map (mcS sgP)).getD i c0).2.2 := w
        rw [getD_get c0 hi', List.getElem_map] at w
        exact .inl w
      · obtain ⟨_, _, _, _, _, _, uc, _⟩ := h
        have hi' : i < (cs.map (mcS sgR)).length := by rw [List.length_map]; exact hi
        obtain ⟨⟨_, _, w⟩, _⟩ := uc i hi'
        have w : NO ((cs.map (mcS sgR)).getD i c0).2.2 := w
        rw [getD_get c0 hi', List.getElem_map] at w
        exact .inr w)
    unfold mcS
    rw [hs]
  unfold regOf
  simp only [e3, e5, e7, e9]
theorem out_same {b : List Int} (hb : By b) : OUT sgR b = OUT sgP b := by
  cases hp : parse b with
  | none => rw [OUT_none hp, OUT_none hp]
  | some a =>
    have hk := (parse_inv hp hb).2
    by_cases g : goodA sgP a
    · have e := reg_same hk (.inl g.2.2.2)
      rw [OUT_good hp g, OUT_good (sg := sgR) hp ⟨g.1, g.2.1, g.2.2.1, by rw [← e]; exact g.2.2.2⟩, e]
    · have g' : ¬ goodA sgR a := fun k => g ⟨k.1, k.2.1, k.2.2.1, by rw [reg_same hk (.inr k.2.2.2)]; exact k.2.2.2⟩
      rw [OUT_bad hp g, OUT_bad hp g']
theorem out_inv {b : List Int} (hb : By b) : (∃ e, e ≠ 0 ∧ OUT sgP b = (0, (zR, e))) ∨ ∃ now a1 a2 a3 a4 a5 a6 a7 a8 a9, OUT sgP b = (now, ((a1, (a2, (a3, (a4, (a5, (a6, (a7, (a8, a9)))))))), 0)) ∧ EOK now a1 a2 a3 a4 a5 a6 a7 a8 a9 ∧ ENC now a1 a2 a3 a4 a5 a6 a7 a8 a9 = b := by
  cases hp : parse b with
  | none => exact .inl ⟨6, by decide, OUT_none hp⟩
  | some a =>
    obtain ⟨hr, hk⟩ := parse_inv hp hb
    by_cases g : goodA sgP a
    · refine .inr ⟨a.now, bt a.aor, bt a.cid, sgP a.sq, decide (a.st = 1), a.cs.map (mcS sgP), sgP a.ex, bt a.ins, sgP a.fl, a.ps.map bt, OUT_good hp g, ⟨g.2.2.2, hk.1.1, g.2.2.1⟩, ?_⟩
      rw [enc_raw, reg_act hk g, ← hr]
      · rw [List.length_map]; exact hk.2.2.2.2.2.2.2.2.1
      · rw [List.length_map]; exact hk.2.2.2.2.2.2.2.2.2.2.1
    · exact .inl ⟨5, by decide, OUT_bad hp g⟩
end Go.Proofs.Ytlaccfegaoaakaa
