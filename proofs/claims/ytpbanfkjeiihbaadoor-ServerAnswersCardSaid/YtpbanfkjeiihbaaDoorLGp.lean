import Derived.Test.YtpbanfkjeiihbaaDoorDp
import Derived.Test.YtpbanfkjeiihbaaDoorTie
import Derived.Stop.Joined
import Derived.Lib.SmallJoins
set_option linter.unusedVariables false
set_option linter.unusedSimpArgs false
namespace Go.Proofs.YtpbanfkjeiihbaaDoor
open Go.ChangeShapes Go.WideShapes Go.ChangeAt Go.RowKit
abbrev laidL : List (String × DataW Unit) := [("dialtone/server.rows", Rows.laid_dialtone_server_rows)]
theorem gRows : Tryd.prog.globalNamed "dialtone/server.rows" = some 0 := by kernel_rfl
theorem tRows : (Tryd.prog.globals[0]?).map (·.type) = some 67 := by kernel_rfl
theorem pRows : plainT Tryd.prog 6 67 = true := by kernel_rfl
theorem door_met (os : Os) (args : Array Value) : laidMetH Tryd.prog laidL ((World.doorLaid Tryd.prog 32 os).forCall (fun _ _ => 0) ⟨#[], args, []⟩).memory :=
  laidMetH_of_parts3 (fuel := 8) (laidMet_of_run' 8 (by kernel_rfl) (by kernel_rfl)) (by kernel_rfl) (by kernel_rfl)
theorem relC_vals {h : Array Obj} {X : Nat → Prop} {b : Nat} : ∀ (vs : List Value) (o : Nat), (∀ v ∈ vs, v.oneCell' = true) → (∀ k v, vs[k]? = some v → cellH h b (o + k) = some v) → RelC h X (vs.map DV.val) b o
  | [], _, _, _ => by rw [List.map_nil, RelC]; trivial
  | x :: xs, o, h1, h2 => by
    rw [List.map_cons, RelC]
    refine ⟨⟨x, h2 0 x rfl, by rw [RelD]; exact ⟨rfl, h1 x (List.mem_cons_self ..)⟩⟩, relC_vals xs (o + 1) (fun v hv => h1 v (List.mem_cons_of_mem _ hv)) fun k v hk => ?_⟩
    have := h2 (k + 1) v hk
    rwa [show o + (k + 1) = o + 1 + k by omega] at this
theorem noG_rows : noG 0 = some ((flatD (H := Unit) Rows.laid_dialtone_server_rows).map DV.val) := by rfl
theorem one_rows : ∀ v ∈ flatD (H := Unit) Rows.laid_dialtone_server_rows, v.oneCell' = true := List.all_eq_true.1 (by rfl)
theorem of_laidG {W : World} (h : laidMetH Tryd.prog laidL W) : ∀ g cells, noG g = some cells → cells = [] ∨ RelC W.heap (fun _ => False) cells g 0 := by
  rw [MakeChecks.laidMetH_plain _ _ _ (by kernel_rfl)] at h
  obtain ⟨ps, h, _, _⟩ := h
  obtain ⟨g, t, h1, h2, h3⟩ := laid_cells h (List.mem_cons_self ..)
  obtain rfl := Option.some.inj (gRows.symm.trans h1)
  obtain rfl := Option.some.inj (tRows.symm.trans h2)
  have h4 := h3 6 pRows
  intro g cells hg
  match g with
  | 0 =>
    rw [noG_rows] at hg
    obtain rfl := Option.some.inj hg
    refine .inr (relC_vals _ 0 one_rows fun k v hk => ?_)
    rw [Nat.zero_add, ← cell_eq W 0 k, h4]
    exact hk
  | n + 1 => exact absurd hg (by show (none : Option (List DV)) ≠ _; simp)
end Go.Proofs.YtpbanfkjeiihbaaDoor
