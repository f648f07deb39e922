import Derived.Test.YtkmfgldoljegoaaQ1p
import Derived.Test.YtkmfgldoljegoaaZ4p
import Derived.Test.YtkmfgldoljegoaaFp
import Derived.Test.YtkmfgldoljegoaaXBp
import Derived.Test.YtkmfgldoljegoaaZ3p
import Derived.Test.YtkmfgldoljegoaaN1p
set_option linter.unusedVariables false
set_option linter.unusedSimpArgs false
set_option maxRecDepth 100000
set_option maxHeartbeats 4000000
namespace Go.Proofs.Ytkmfgldoljegoaa
open Go.RowKit
def Good (mo mw ri re T : Int) (c0 : Nat) (r : Rt) : Prop := (∃ e : Int, 0 < e ∧ r = failR e) ∨ ∃ w, GW T 2000000000003 w ∧ PW mo mw ri re mo.toNat c0 w ∧ mstep w = none ∧ w.2.2.2.2.2.2.1 = T ∧ r = resM w
theorem Good.fail {mo mw ri re T : Int} {c0 : Nat} {e : Int} (h : 0 < e) : Good mo mw ri re T c0 (failR e) := .inl ⟨e, h, rfl⟩
section
variable {cs : List Ca} {ss : List Se} {mo mw ri re now T num : Int}
theorem Good.fin {acts : List Ac} {c0 : Nat} (h : GQ T 2000000000003 cs ss mw ri re T acts.length) (hl : (cs.length : Int) ≤ mo) (hc : cs.length + ng acts = c0) : Good mo mw ri re T c0 (resM (matchM T (cs, (ss, (mo, (mw, (ri, (re, (T, acts))))))))) := by
  have h1 := matchM_ok (T := T) (K := 2000000000003) (w := (cs, (ss, (mo, (mw, (ri, (re, (T, acts)))))))) h
  have h2 := matchM_par (mo := mo) (mw := mw) (ri := ri) (re := re) (n0 := mo.toNat) (c0 := c0) (T := T) (w := (cs, (ss, (mo, (mw, (ri, (re, (T, acts)))))))) ⟨rfl, rfl, rfl, rfl, by show cs.length ≤ _; omega, hc⟩
  exact .inr ⟨_, h1.1, h2.1, h1.2.2, h2.2, rfl⟩
theorem Good.len {c0 : Nat} {r : Rt} (h : Good mo mw ri re T c0 r) : r.1.1.length ≤ 1000 ∧ r.1.2.1.length ≤ 1000 ∧ r.2.1.length ≤ 9223372036854775806 := by
  rcases h with ⟨e, he, rfl⟩ | ⟨w, g, p, hm, hT, rfl⟩
  · exact ⟨Nat.zero_le _, Nat.zero_le _, Nat.zero_le _⟩
  · have h1 := GQ.hc g
    have h2 := GQ.hs g
    have h3 := GQ.k g
    exact ⟨by show w.1.length ≤ 1000; omega, by show w.2.1.length ≤ 1000; omega, by show w.2.2.2.2.2.2.2.length ≤ _; omega⟩
end
theorem may_new {mo mw ri re : Int} (hs : Sizes mo mw ri re) : May [] [] mo mw ri re 0 := by
  refine ⟨hs, ⟨by omega, by omega⟩, by have := hs.1; show ((0 : Nat) : Int) ≤ mo; omega, by show ((0 : Nat) : Int) ≤ 100; omega, ?_, ?_⟩
  · exact ⟨fun i hi => absurd hi (Nat.not_lt_zero _), fun i j _ hj => absurd hj (Nat.not_lt_zero _), fun i hi => absurd hi (Nat.not_lt_zero _), fun i j _ hj => absurd hj (Nat.not_lt_zero _), fun i hi => absurd hi (Nat.not_lt_zero _), fun i hi => absurd hi (Nat.not_lt_zero _), fun i hi => absurd hi (Nat.not_lt_zero _), fun i hi => absurd hi (Nat.not_lt_zero _), fun i hi => absurd hi (Nat.not_lt_zero _), fun i j _ hj => absurd hj (Nat.not_lt_zero _)⟩
  · intro y hy
    rcases mem_things.1 hy with ⟨_, j, hj, _⟩ | ⟨j, hj, _⟩ | ⟨j, hj, _⟩ <;> exact absurd hj (Nat.not_lt_zero _)
theorem newq_j (a1 a2 a3 a4 : Int) : (Sizes a1 a2 a3 a4 ∧ queues_NewQueue (a1, (a2, (a3, a4))) = some (([], ([], (a1, (a2, (a3, (a4, 0)))))), 0) ∧ dialtoneref36_NewQueue (a1, (a2, (a3, a4))) = some (([], ([], (a1, (a2, (a3, (a4, 0)))))), 0)) ∨ (¬ Sizes a1 a2 a3 a4 ∧ queues_NewQueue (a1, (a2, (a3, a4))) = some (([], ([], (0, (0, (0, (0, 0)))))), 2) ∧ dialtoneref36_NewQueue (a1, (a2, (a3, a4))) = some (([], ([], (0, (0, (0, (0, 0)))))), 2)) := by
  unfold queues_NewQueue dialtoneref36_NewQueue
  rcases (bnd_j [] [] a1 a2 a3 a4 0).b with ⟨m, e1⟩ | ⟨m, e1⟩
  · have e2 := ((siz_j [] [] a1 a2 a3 a4 0).b.resolve_right fun q => q.1 m)
    have e2 := fun {β : Type} (f : Bool → Option β) => e2.2 f
    left
    refine ⟨m, ?_, ?_⟩
    · simp (disch := (first | omega | (simp only [LNl]; omega))) only [↓SDl, SDr, ↓e1]
    · simp (disch := (first | omega | (simp only [LNl]; omega))) only [↓SDl, SDr, ↓e2]
  · have e2 := ((siz_j [] [] a1 a2 a3 a4 0).b.resolve_left fun q => m q.1)
    have e2 := fun {β : Type} (f : Bool → Option β) => e2.2 f
    right
    refine ⟨m, ?_, ?_⟩
    · simp (disch := (first | omega | (simp only [LNl]; omega))) only [↓SDl, SDr, ↓e1]
    · simp (disch := (first | omega | (simp only [LNl]; omega))) only [↓SDl, SDr, ↓e2]
end Go.Proofs.Ytkmfgldoljegoaa
