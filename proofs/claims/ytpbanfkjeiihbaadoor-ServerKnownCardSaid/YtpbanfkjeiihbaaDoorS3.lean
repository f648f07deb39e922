/- The simulation's memory: one block that holds it, and its log. -/
import Derived.Test.YtpbanfkjeiihbaaDoorS2
import Derived.Test.YtpbanfkjeiihbaaDoorV2
set_option linter.unusedVariables false
set_option linter.unusedSimpArgs false
namespace Go.Proofs.YtpbanfkjeiihbaaDoor
open Go.RowKit

def simL (s : Sim) (v : Value) : List Value := .int .u8 s.m.st :: .int .i64 s.m.wait :: .int .i64 s.m.code :: (s.due.map (Value.int .i64) ++ [.int .i64 s.now, v])
def simC (s : Sim) (v : Value) : Array Value := (simL s v).toArray
theorem simC_0 (s : Sim) (v : Value) : (simC s v)[0]? = some (.int .u8 s.m.st) := rfl
theorem simC_1 (s : Sim) (v : Value) : (simC s v)[1]? = some (.int .i64 s.m.wait) := rfl
theorem simC_2 (s : Sim) (v : Value) : (simC s v)[2]? = some (.int .i64 s.m.code) := rfl
theorem simC_due {s : Sim} {v : Value} {i : Nat} {d : Int} (h : s.due[i]? = some d) : (simC s v)[3 + i]? = some (.int .i64 d) := by
  have hi := (List.getElem?_eq_some_iff.1 h).1
  simp only [simC, simL, List.getElem?_toArray, Nat.add_comm 3 i, List.getElem?_cons_succ]
  rw [List.getElem?_append_left (by simpa using hi)]
  simp [h]
theorem simC_now {s : Sim} (h : s.due.length = 14) (v : Value) : (simC s v)[17]? = some (.int .i64 s.now) := by
  simp only [simC, simL, List.getElem?_toArray, List.getElem?_cons_succ, show (17 : Nat) = 14 + 1 + 1 + 1 from rfl]
  rw [List.getElem?_append_right (by simp [h])]
  simp [h]
theorem simC_log {s : Sim} (h : s.due.length = 14) (v : Value) : (simC s v)[18]? = some v := by
  simp only [simC, simL, List.getElem?_toArray, List.getElem?_cons_succ, show (18 : Nat) = 15 + 1 + 1 + 1 from rfl]
  rw [List.getElem?_append_right (by simp [h])]
  simp [h]
theorem simC_setM (s : Sim) (v : Value) (m : Mc) : (((simC s v).setIfInBounds 0 (.int .u8 m.st)).setIfInBounds 1 (.int .i64 m.wait)).setIfInBounds 2 (.int .i64 m.code) = simC { s with m := m } v := by
  simp [simC, simL]
theorem simC_setDue {s : Sim} {v : Value} {i : Nat} (d : Int) (h : i < s.due.length) : (simC s v).setIfInBounds (3 + i) (.int .i64 d) = simC { s with due := s.due.set i d } v := by
  simp only [simC, simL, List.setIfInBounds_toArray, Nat.add_comm 3 i, List.set_cons_succ]
  rw [List.set_append_left _ _ (by simpa using h)]
  simp [List.map_set]
theorem simC_setNow {s : Sim} (h : s.due.length = 14) (v : Value) (n : Int) : (simC s v).setIfInBounds 17 (.int .i64 n) = simC { s with now := n } v := by
  simp only [simC, simL, List.setIfInBounds_toArray, List.set_cons_succ, show (17 : Nat) = 14 + 1 + 1 + 1 from rfl]
  rw [List.set_append_right _ _ (by simp [h])]
  simp [h]
theorem simC_setLog {s : Sim} (h : s.due.length = 14) (v v' : Value) : (simC s v).setIfInBounds 18 v' = simC s v' := by
  simp only [simC, simL, List.setIfInBounds_toArray, List.set_cons_succ, show (18 : Nat) = 15 + 1 + 1 + 1 from rfl]
  rw [List.set_append_right _ _ (by simp [h])]
  simp [h]

/-- The simulation lies in block g, its log (v) in a block behind it. -/
structure At_ (w : World) (g : Nat) (v : Value) (s : Sim) : Prop where
  blk : Blk w g 44 (simC s v)
  log : OwnE w (g + 1) v s.log
  due : s.due.length = 14
theorem OwnL.setFar {α : Type} {enc : α → List Value} {e : TypeId} {size base : Nat} {w : World} {v : Value} {l : List α} (h : OwnL enc e size w base v l) {g : Nat} (hg : g < base) (i : Nat) (u : Value) : OwnL enc e size (w.setCell ⟨g, i, none⟩ u) base v l := by
  refine ⟨h.1, ?_⟩
  rcases h.2 with hn | ⟨b, cap, cur, rfl, hbg, hg', rest⟩
  · exact .inl hn
  · refine .inr ⟨b, cap, cur, rfl, hbg, ?_, rest⟩
    rw [Below.heap_setCell w ⟨g, i, none⟩ u b (by show b ≠ g; omega)]
    exact hg'
theorem below_set {B : Nat} {w0 w : World} (h : Below B w0 w) {g : Nat} (hg : B ≤ g) (i : Nat) (u : Value) : Below B w0 (w.setCell ⟨g, i, none⟩ u) := h.setCell hg u
section
variable {w w' : World} {g : Nat} {v : Value} {s : Sim}
theorem At_.lt (h : At_ w g v s) : g < w.heap.size := h.blk.lt
theorem At_.below (h : At_ w g v s) (hb : Below w.heap.size w w') : At_ w' g v s := ⟨h.blk.ext hb, h.log.below hb, h.due⟩
theorem At_.drew (h : At_ w g v s) : At_ w.drew g v s := ⟨h.blk, h.log, h.due⟩
theorem At_.alloc (h : At_ w g v s) (o : Obj) : At_ (w.alloc o) g v s := h.below ((Below.refl _ _).alloc (Nat.le_refl _) o)
theorem At_.setM (h : At_ w g v s) (m : Mc) : At_ (((w.setCell ⟨g, 0, none⟩ (.int .u8 m.st)).setCell ⟨g, 1, none⟩ (.int .i64 m.wait)).setCell ⟨g, 2, none⟩ (.int .i64 m.code)) g v { s with m := m } := by
  refine ⟨?_, ((h.log.setFar (by omega) 0 _).setFar (by omega) 1 _).setFar (by omega) 2 _, h.due⟩
  rw [← simC_setM]
  exact ((h.blk.set_ 0 _).set_ 1 _).set_ 2 _
theorem At_.setDue (h : At_ w g v s) {i : Nat} (hi : i < 14) (d : Int) : At_ (w.setCell ⟨g, 3 + i, none⟩ (.int .i64 d)) g v { s with due := s.due.set i d } := by
  refine ⟨?_, h.log.setFar (by omega) _ _, by simp [h.due]⟩
  rw [← simC_setDue d (by rw [h.due]; exact hi)]
  exact h.blk.set_ _ _
theorem At_.setNow (h : At_ w g v s) (n : Int) : At_ (w.setCell ⟨g, 17, none⟩ (.int .i64 n)) g v { s with now := n } := by
  refine ⟨?_, h.log.setFar (by omega) _ _, h.due⟩
  rw [← simC_setNow h.due]
  exact h.blk.set_ _ _
/-- the log has grown, and the simulation bears it -/
theorem At_.setLog {v' : Value} {l' : List Ent} (hb : Blk w g 44 (simC s v)) (hd : s.due.length = 14) (hl : OwnE w (g + 1) v' l') : At_ (w.setCell ⟨g, 18, none⟩ v') g v' { s with log := l' } := by
  refine ⟨?_, hl.setFar (by omega) _ _, hd⟩
  have h := hb.set_ 18 v'
  rw [simC_setLog hd] at h
  exact h
theorem At_.c0 (h : At_ w g v s) : w.cell? ⟨g, 0, none⟩ = some (.int .u8 s.m.st) := (h.blk.cell 0).trans (simC_0 s v)
theorem At_.c1 (h : At_ w g v s) : w.cell? ⟨g, 1, none⟩ = some (.int .i64 s.m.wait) := (h.blk.cell 1).trans (simC_1 s v)
theorem At_.c2 (h : At_ w g v s) : w.cell? ⟨g, 2, none⟩ = some (.int .i64 s.m.code) := (h.blk.cell 2).trans (simC_2 s v)
theorem At_.cd (h : At_ w g v s) {i : Nat} {d : Int} (hd : s.due[i]? = some d) : w.cell? ⟨g, 3 + i, none⟩ = some (.int .i64 d) := (h.blk.cell _).trans (simC_due hd)
theorem At_.cn (h : At_ w g v s) : w.cell? ⟨g, 17, none⟩ = some (.int .i64 s.now) := (h.blk.cell 17).trans (simC_now h.due v)
theorem At_.cl (h : At_ w g v s) : w.cell? ⟨g, 18, none⟩ = some v := (h.blk.cell 18).trans (simC_log h.due v)
theorem At_.fz (h : At_ w g v s) (i : Nat) : w.frozen? ⟨g, i, none⟩ = false := h.blk.frozen i
end
end Go.Proofs.YtpbanfkjeiihbaaDoor
