import Derived.Test.YtkmfgldoljegoaaN3p
set_option linter.unusedVariables false
set_option linter.unusedSimpArgs false
set_option maxRecDepth 100000
set_option maxHeartbeats 4000000
namespace Go.Proofs.Ytkmfgldoljegoaa
open Go.RowKit
def failR (e : Int) : Rt := (([], ([], (0, (0, (0, (0, 0)))))), ([], e))
def resM (w : Wk) : Rt := ((w.1, (w.2.1, (w.2.2.1, (w.2.2.2.1, (w.2.2.2.2.1, (w.2.2.2.2.2.1, w.2.2.2.2.2.2.1)))))), (w.2.2.2.2.2.2.2, 0))
theorem endL_j (w : Wk) : endL w = some (resM w) := by
  obtain ⟨y1, y2, y3, y4, y5, y6, y7, y8⟩ := w
  unfold endL resM
  simp (disch := (first | omega | (simp only [LNl]; omega))) only [↓SDl, SDr]
section
variable {T : Int} {K : Nat} {cs : List Ca} {ss : List Se} {mo mw ri re now : Int} {acts : List Ac}
theorem end_j (h : GQ T K cs ss mw ri re now acts.length) : joinO (loopO matchB (cs, (ss, (mo, (mw, (ri, (re, (now, acts)))))))) endL = some (resM (matchM T (cs, (ss, (mo, (mw, (ri, (re, (now, acts))))))))) := by
  rw [matchL_j h, joinO_inl, endL_j]
theorem joinR_j (h : GQ T K cs ss mw ri re now acts.length) (call pr : Int) (hT : now = T) (hc : 1 ≤ call ∧ call ≤ 2147483647) (hK : Phi T now cs ss + acts.length + 3 ≤ K) :
    (¬ (0 ≤ pr ∧ pr ≤ 10) ∧ joinR call pr now (cs, (ss, (mo, (mw, (ri, (re, (now, acts))))))) = some (failR 2)) ∨
    ((0 ≤ pr ∧ pr ≤ 10) ∧ (idxC cs call ≥ 0 ∨ Busy ss call) ∧ joinR call pr now (cs, (ss, (mo, (mw, (ri, (re, (now, acts))))))) = some (failR 7)) ∨
    ((0 ≤ pr ∧ pr ≤ 10) ∧ ¬ (idxC cs call ≥ 0) ∧ ¬ Busy ss call ∧ (cs.length : Int) ≥ mo ∧ joinR call pr now (cs, (ss, (mo, (mw, (ri, (re, (now, acts))))))) = some (failR 10)) ∨
    ((0 ≤ pr ∧ pr ≤ 10) ∧ ¬ (idxC cs call ≥ 0) ∧ ¬ Busy ss call ∧ (cs.length : Int) < mo ∧ (cs.length < 100 → GQ T K (cs ++ [(call, (pr, (now, 0)))]) ss mw ri re now acts.length ∧ joinR call pr now (cs, (ss, (mo, (mw, (ri, (re, (now, acts))))))) = some (resM (matchM T (cs ++ [(call, (pr, (now, 0)))], (ss, (mo, (mw, (ri, (re, (now, acts)))))))))) ) := by
  have h1 := h.hc
  have h2 := h.hs
  unfold joinR
  by_cases hp : 0 ≤ pr ∧ pr ≤ 10
  · right
    by_cases hi : idxC cs call ≥ 0
    · left
      refine ⟨hp, .inl hi, ?_⟩
      simp (disch := (first | omega | (simp only [LNl]; omega))) only [↓SDl, SDr, ↓wit_b, ↓cof_b, hp, hi, decide_true, and_self]
      rfl
    · rcases (pbz_j ss call (by omega)).b with ⟨hb, bz⟩ | ⟨hb, bz⟩
      · left
        refine ⟨hp, .inr hb, ?_⟩
        simp (disch := (first | omega | (simp only [LNl]; omega))) only [↓SDl, SDr, ↓wit_b, ↓cof_b, ↓bz, hp, hi, decide_true, decide_false, and_self]
        rfl
      · right
        by_cases hm : (cs.length : Int) ≥ mo
        · left
          refine ⟨hp, hi, hb, hm, ?_⟩
          simp (disch := (first | omega | (simp only [LNl]; omega))) only [↓SDl, SDr, ↓wit_b, ↓cof_b, ↓bz, hp, hi, hm, decide_true, decide_false, and_self]
          rfl
        · right
          refine ⟨hp, hi, hb, by omega, fun h100 => ?_⟩
          have hg : GQ T K (cs ++ [(call, (pr, (now, 0)))]) ss mw ri re now acts.length := by
            have hn : ∀ i, i < cs.length → (cs.getD i dC).1 ≠ call := by
              intro i hil e
              have := idxC_at h.v hil
              rw [e] at this
              omega
            have hl : (cs ++ [(call, (pr, (now, 0)))]).length = cs.length + 1 := by rw [List.length_append, List.length_singleton]
            refine ⟨h.v.comes ⟨hc.1, hc.2, hp.1, hp.2⟩ rfl rfl h.h0 hn (fun k hk e1 e2 => hb ⟨k, hk, e1, e2⟩), by rw [hl]; omega, h.hs, h.h0, h.hT, h.hM, h.hw, h.hi, h.he, ?_, h.hK, ?_, h.d2, h.d3⟩
            · unfold Phi at hK ⊢
              rw [hl]; omega
            · intro hmw i hi
              rw [getD_snoc]
              have := h.hw
              split
              · rename_i q; exact h.d1 hmw i q
              · split
                · show now ≤ now + mw; omega
                · rename_i q1 q2; rw [hl] at hi; omega
          refine ⟨hg, ?_⟩
          have he := end_j (mo := mo) hg
          simp (disch := (first | omega | (simp only [LNl]; omega))) only [↓SDl, SDr, ↓wit_b, ↓cof_b, ↓bz, hp, hi, hm, decide_true, decide_false, and_self]
          exact he
  · left
    refine ⟨hp, ?_⟩
    simp (disch := (first | omega | (simp only [LNl]; omega))) only [↓SDl, SDr, ↓wit_b, hp, decide_false]
    rfl
end
end Go.Proofs.Ytkmfgldoljegoaa
