/- Chapter 15: the table lies in memory. -/
import Derived.Test.YtpbanfkjeiihbaaDoorTie
import Derived.Test.YtpbanfkjeiihbaaDoorD
import Derived.Test.YtpbanfkjeiihbaaDoorS9
import Derived.Test.YtpbanfkjeiihbaaDoorO
import Derived.Stop.Joined
import Derived.Lib.SmallJoins
set_option linter.unusedVariables false
set_option linter.unusedSimpArgs false
namespace Go.Proofs.YtpbanfkjeiihbaaDoor
open Go.ChangeShapes Go.WideShapes Go.ChangeAt Go.RowKit

abbrev laidL : List (String × DataW Unit) := [("dialtone/server.rows", Rows.laid_dialtone_server_rows)]
theorem gRows : Tryd.prog.globalNamed "dialtone/server.rows" = some 0 := by kernel_rfl
theorem tRows : (Tryd.prog.globals[0]?).map (·.type) = some 67 := by kernel_rfl
theorem pRows : plainT Tryd.prog 6 67 = true := by kernel_rfl
theorem door_met (os : Os) (args : Array Value) : laidMetH Tryd.prog laidL ((World.doorLaid Tryd.prog 32 os).forCall (fun _ _ => 0) ⟨#[], args, []⟩).memory :=
  laidMetH_of_parts3 (fuel := 8) (laidMet_of_run' 8 (by kernel_rfl) (by kernel_rfl)) (by kernel_rfl) (by kernel_rfl)
theorem rows_enc_length (r : Rw) : r.enc.length = 8 := rfl
theorem laid_rows : flatD (H := Unit) Rows.laid_dialtone_server_rows = rowsT.flatMap Rw.enc := by rfl
theorem of_laid {W : World} (h : laidMetH Tryd.prog laidL W) : Gl W := by
  rw [MakeChecks.laidMetH_plain _ _ _ (by kernel_rfl)] at h
  obtain ⟨ps, h, _, _⟩ := h
  obtain ⟨g, t, h1, h2, h3⟩ := laid_cells h (List.mem_cons_self ..)
  obtain rfl := Option.some.inj (gRows.symm.trans h1)
  obtain rfl := Option.some.inj (tRows.symm.trans h2)
  have h4 := h3 6 pRows
  rw [laid_rows] at h4
  refine ⟨World.block_lt_of_cell? W ⟨0, 0, none⟩ (h4 0), fun k r hk j u hu => ?_⟩
  rw [h4]
  have hj : j < 8 := (List.getElem?_eq_some_iff.1 hu).1
  rw [flat_get Rw.enc 8 rows_enc_length rowsT k r hk j hj]
  exact hu
/-- A machine, and an input, that came in. -/
def IsM (w : World) (v : Value) (m : Mc) : Prop := v = m.val
def IsI (w : World) (v : Value) (i : Tin) : Prop := v = i.val ∧ 0 ≤ i.kind ∧ i.kind ≤ 255 ∧ 0 ≤ i.timer ∧ i.timer ≤ 255
section
variable {H : Type} {ec : TypeId × Value → H} {w : World} {base : Nat} {spare : Nat → Bool} {held : Bool} {fuel : Nat} {v : Value}
theorem openM {r : Reach} {b0 : Nat} {d : DataW H} {p : List MemPlace} (hv : Value.okWide Tryd.prog w r b0 24 v) (h : DataW.Trod ec Tryd.prog w base spare held 24 v d p) : ∃ t, IsM w v t := by
  obtain ⟨c0, c1, c2, y0, y1, y2, m, rfl, _, _, h0, h1, h2⟩ := Go.Joins.open_agg3 Tryd.underlying24 (by kernel_rfl) (by kernel_rfl) hv h
  obtain ⟨a, e0, _, _⟩ := DataW.trod_int Tryd.underlying22 h0
  obtain ⟨b, e1, _, _⟩ := DataW.trod_int Tryd.underlying3 h1
  obtain ⟨c, e2, _, _⟩ := DataW.trod_int Tryd.underlying3 h2
  injection e0 with e0; injection e1 with e1; injection e2 with e2
  subst e0; subst e1; subst e2
  exact ⟨⟨a, b, c⟩, rfl⟩
theorem openI {r : Reach} {b0 : Nat} {d : DataW H} {p : List MemPlace} (hv : Value.okWide Tryd.prog w r b0 28 v) (h : DataW.Trod ec Tryd.prog w base spare held 28 v d p) : ∃ t, IsI w v t := by
  obtain ⟨c0, c1, c2, y0, y1, y2, m, rfl, _, _, h0, h1, h2⟩ := Go.Joins.open_agg3 Tryd.underlying28 (by kernel_rfl) (by kernel_rfl) hv h
  obtain ⟨a, e0, _, wa⟩ := DataW.trod_int Tryd.underlying25 h0
  obtain ⟨b, e1, _, _⟩ := DataW.trod_int Tryd.underlying3 h1
  obtain ⟨c, e2, _, wc⟩ := DataW.trod_int Tryd.underlying26 h2
  injection e0 with e0; injection e1 with e1; injection e2 with e2
  subst e0; subst e1; subst e2
  exact ⟨⟨a, b, c⟩, rfl, (wf_u8 wa).1, (wf_u8 wa).2, (wf_u8 wc).1, (wf_u8 wc).2⟩
theorem openV {x : DataW H × List MemPlace} (hf : DataW.trod ec Tryd.prog w base spare held fuel 37 [v] = some x) : ∃ l, IsV w v l := by
  obtain ⟨l, hl, hg⟩ := open_flat Ev.enc 3 (fun j => if j = 0 then .u16 else if j = 1 then .u8 else .i64) (fun f => ⟨f 0, f 1, f 2⟩) (fun f => rfl) (by omega) Tryd.underlying37 Tryd.underlying47 (by kernel_rfl) (by kernel_rfl) rfl
    (fun j f hj => by
      match j, hj with
      | 0, hj => simp at hj; subst hj; exact Tryd.underlying45
      | 1, hj => simp at hj; subst hj; exact Tryd.underlying25
      | 2, hj => simp at hj; subst hj; exact Tryd.underlying3) hf
  refine ⟨l, hl, fun e he => ?_⟩
  obtain ⟨f, rfl, hw⟩ := hg e he
  have := hw 0 (by omega)
  simp [Lit.wf, IntKind.min, IntKind.max, IntKind.signed, IntKind.bits] at this
  exact ⟨by show 0 ≤ f 0; omega, by show f 0 ≤ 65535; omega⟩
end
end Go.Proofs.YtpbanfkjeiihbaaDoor
