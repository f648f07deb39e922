/- rating.Cost: the contract, as a function. -/
import Derived.Test.YtbckoncbimljeaaR6
set_option linter.unusedVariables false
set_option linter.unusedSimpArgs false
namespace Go.Proofs.Ytbckoncbimljeaa
open Go.RowKit
set_option maxRecDepth 100000

theorem acodeNP_app {p : Pr} {C : Cxt} {T : Ty} {q : Nat → Bool} {N : Nat} {Z : SL → Prop} {Q : Exit → SL → Prop} : ∀ (xs ys : List Code) (s : SL), acodeNP p C T noG q N Z (xs ++ ys) Q s = acodeNP p C T noG q N (fun s' => acodeNP p C T noG q N Z ys Q s') xs Q s
  | [], ys, s => rfl
  | x :: xs, ys, s => by
    rw [List.cons_append, acodeNP, acodeNP]
    have : (fun s' => acodeNP p C T noG q N Z (xs ++ ys) Q s') = fun s' => acodeNP p C T noG q N (fun s' => acodeNP p C T noG q N Z ys Q s') xs Q s' := funext fun s' => acodeNP_app xs ys s'
    rw [this]
noncomputable def rating_Cost : ((List Ra × Int) × (List UInt8 × (Int × Int))) → Option (Int × Int) :=
  fun ((rs, fr), (num, (a, b))) =>
  bindO (rating_Valid (rs, fr)) fun v =>
  bif !v then some ((0 : Int), (2 : Int)) else
  bindO (rating_within (a, ((0 : Int), (281474976710656 : Int)))) fun x =>
  bif !x then some ((0 : Int), (3 : Int)) else
  bindO (rating_within (b, (a, (281474976710656 : Int)))) fun y =>
  bif !y then some ((0 : Int), (3 : Int)) else
  bindO (rating_Seconds (a, b)) fun se =>
  bif decide (se > (1000000 : Int)) then some ((0 : Int), (4 : Int)) else
  bindO (rating_Find ((rs, fr), num)) fun (ix, ok) =>
  bif !ok then some ((0 : Int), (8 : Int)) else
  bif decide ((0 : Int) ≤ ix ∧ ix < ((rs.length : Nat) : Int)) then
   bindO (rating_Pieces (rs.getD ix.toNat ([], (0, (0, (0, [])))), (fr, se))) fun np =>
   bif decide (np = (0 : Int)) then some ((0 : Int), (0 : Int)) else
   bif decide ((0 : Int) ≤ np ∧ np ≤ (4000000000000000000 : Int)) then
    bindO (sumN (rs.getD ix.toNat ([], (0, (0, (0, []))))).2.2.2.2 (rs.getD ix.toNat ([], (0, (0, (0, []))))).2.1 (begN (IntKind.wrap .i64 (a + IntKind.wrap .i64 (1000 * fr))) (rs.getD ix.toNat ([], (0, (0, (0, []))))).2.2.1 (rs.getD ix.toNat ([], (0, (0, (0, []))))).2.2.2.1) np.toNat) fun s =>
    some (s, (0 : Int))
   else none
  else none
theorem bindO_inv {α β : Type} {x : Option α} {f : α → Option β} {r : β} (h : bindO x f = some r) : ∃ a, x = some a ∧ f a = some r := by
  cases x with
  | none => cases h
  | some a => exact ⟨a, rfl, h⟩
theorem cost_o {rs : List Ra} {fr : Int} {num : List UInt8} {a b : Int} {r : Int × Int} (hG : rating_Cost ((rs, fr), (num, (a, b))) = some r) :
    DoesO Try.prog noG 18 [.agg [.d (.dl (encL UR rs) rs.length none), .d (.val (.int .i64 fr))], .d (.val (.string ⟨num.toArray⟩)), .d (.val (.int .i64 a)), .d (.val (.int .i64 b))] [] (.tup [.d (.val (.int .i64 r.1)), .d (.val (.int .u8 r.2))]) [] := by
  unfold rating_Cost at hG
  obtain ⟨v, hV, hG⟩ := bindO_inv hG
  cases v with
  | false => cases hG; exact cost_e1 rfl rfl rfl hV
  | true =>
  obtain ⟨x, h1, hG⟩ := bindO_inv hG
  cases x with
  | false => cases hG; exact cost_e2 rfl rfl rfl hV h1
  | true =>
  obtain ⟨y, h2, hG⟩ := bindO_inv hG
  cases y with
  | false => cases hG; exact cost_e3 rfl rfl rfl hV h1 h2
  | true =>
  obtain ⟨se, h3, hG⟩ := bindO_inv hG
  by_cases h4 : se > 1000000
  · simp only [Bool.not_true, cond_false] at hG
    rw [decide_eq_true h4] at hG
    cases hG
    exact cost_e4 rfl rfl rfl hV h1 h2 h3 h4
  simp only [Bool.not_true, cond_false] at hG
  rw [decide_eq_false h4] at hG
  obtain ⟨⟨ix, ok⟩, hF, hG⟩ := bindO_inv hG
  cases ok with
  | false => cases hG; exact cost_e5 rfl rfl rfl hV h1 h2 h3 (by omega) hF
  | true =>
  by_cases h5 : ¬ (0 ≤ ix ∧ ix < ((rs.length : Nat) : Int))
  · simp only [Bool.not_true, cond_false] at hG
    rw [decide_eq_false h5] at hG
    cases hG
  rw [Classical.not_not] at h5
  simp only [Bool.not_true, cond_false] at hG
  rw [decide_eq_true h5] at hG
  obtain ⟨i, hi⟩ : ∃ i : Nat, ix = (i : Int) := ⟨ix.toNat, by omega⟩
  obtain ⟨np, hPi, hG⟩ := bindO_inv hG
  rw [hi, Int.toNat_natCast] at hG hPi
  by_cases h6 : np = 0
  · skip
    rw [decide_eq_true h6] at hG
    cases hG
    exact cost_e6 rfl rfl rfl hV h1 h2 h3 (by omega) hF hi (by omega) rfl rfl rfl rfl rfl rfl rfl hPi h6
  rw [decide_eq_false h6] at hG
  by_cases h7 : ¬ (0 ≤ np ∧ np ≤ 4000000000000000000)
  · rw [decide_eq_false h7] at hG
    cases hG
  rw [Classical.not_not] at h7
  simp only [cond_false] at hG
  rw [decide_eq_true h7] at hG
  obtain ⟨s, hsum, hG⟩ := bindO_inv hG
  cases hG
  obtain ⟨n, hn⟩ : ∃ n : Nat, np = (n : Int) := ⟨np.toNat, by omega⟩
  rw [hn, Int.toNat_natCast] at hsum
  intro E w vs hE hw hs hrel
  have hlen := relL_length _ _ hrel
  have hvs : vs.size = 4 := by rw [← Array.length_toList]; exact hlen
  refine callsIn_wide.1 (callsIn_of_wp_marks (n := 9) Try.func18 (c := costC) rfl trivial ?_ rfl)
  have hS : Sim noG 87 E { tmps := vs ++ Array.replicate (87 - vs.size) undef, defers := [] } w (⟨87, argTm 0 [.agg [.d (.dl (encL UR rs) rs.length none), .d (.val (.int .i64 fr))], .d (.val (.string ⟨num.toArray⟩)), .d (.val (.int .i64 a)), .d (.val (.int .i64 b))], []⟩ : SL).S := by
    refine ⟨hw, hE, hs, ?_, rfl, fun t => ?_⟩
    · simp only [Array.size_append, Array.size_replicate]; omega
    · show Rel _ (match look t (argTm 0 _) with | some x => x | none => .junk) _
      rw [look_argTm]
      simp only [Nat.zero_le, if_true, Nat.sub_zero]
      generalize hargs : [AV.agg [.d (.dl (encL UR rs) rs.length none), .d (.val (.int .i64 fr))], .d (.val (.string ⟨num.toArray⟩)), .d (.val (.int .i64 a)), .d (.val (.int .i64 b))] = args at *
      cases hx : args[t]? with
      | none => simp only; rw [Rel]; trivial
      | some x =>
        obtain ⟨u, k1, k2⟩ := relL_get _ _ t x hrel hx
        have ht : t < vs.size := by
          have := (List.getElem?_eq_some_iff.1 k1).1
          simpa using this
        rw [Array.getD_eq_getD_getElem?, Array.getElem?_append_left ht]
        have k1' : vs[t]? = some u := by simpa using k1
        rw [k1']
        exact k2
  rw [← spine_nest 11 costC]
  have hpre := pre_ok (pl := []) (at0 := IntKind.wrap .i64 (a + IntKind.wrap .i64 (1000 * fr))) (hp := rfl) (F := tiOf Try.prog) (C := cxtOf Try.prog noG 87 (lookF [])) rfl rfl rfl hV h1 h2 h3 (by omega) hF hi (by omega) rfl rfl rfl rfl rfl rfl rfl hPi h6 rfl rfl rfl
  have hpc : preC 11 costC = (spine 11 costC).1 ++ [r16C] := by
    unfold preC
    rw [tail_eq]
  rw [hpc, acodeNP_app] at hpre
  refine wpIn_wide.2 (acodeN_sound KK (E0 := E) (w0 := w) hE (fun s' E' a' w' hZ hS' hA' => ?_) (fun e s' E' a' w' _ hq _ _ => hq.elim) _ _ hpre E _ w hS (Along.refl _ _))
  rw [tail_eq]
  refine (wpIn_wide (n := 9)).1 (wpIn_seq (wpIn_seq (wpIn_wide.2 ?_)))
  unfold acodeNP at hZ
  rw [acodeP_real] at hZ
  refine wp_mono (acode_sound KK.hq KK.hdp KK.hm KK.hT r16C _ s' hZ E w E' a' w' hE hS' hA') fun e a2 w2 ⟨_, E2, ⟨sl, h1, h2⟩, hS2, hA2⟩ => ?_
  subst h1
  cases e with
  | normal =>
    unfold seqQ acodeNP at h2
    obtain ⟨E3, hS3, hA3⟩ := h2 E w E2 a2 w2 hE hS2 hA2
    exact loop_in hE rfl rfl hn (by omega) hsum hS3 hA3
  | _ => exact h2.elim
theorem con18 : ConOk Try.prog 18 ⟨[(.tmp 0 true [(.dat (.list UR)), (.dat (.int .i64))]), (.tmp 1 false [(.dat .str)]), (.tmp 2 false [(.dat (.int .i64))]), (.tmp 3 false [(.dat (.int .i64))])], [(.tmp 0 false [(.dat (.int .i64))]), (.tmp 1 false [(.dat (.int .u8))])], rating_Cost⟩ :=
  ConOk.mk (by kernel_rfl) rfl (fun _ _ h => cost_o h)
end Go.Proofs.Ytbckoncbimljeaa
