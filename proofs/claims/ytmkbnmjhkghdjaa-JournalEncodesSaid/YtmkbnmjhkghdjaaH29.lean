/- The abstract machine: facts of the reckoning, of rows. -/
import Derived.Test.YtmkbnmjhkghdjaaH28
set_option linter.unusedVariables false
set_option linter.unusedSimpArgs false
namespace Go.Proofs.Ytmkbnmjhkghdjaa
open Go.RowKit
theorem flat_get {α : Type} (f : α → List DV) (s : Nat) (hs : ∀ a, (f a).length = s) : ∀ (fs : List α) (j i : Nat) (hj : j < fs.length), i < s → (fs.flatMap f)[j * s + i]? = (f fs[j])[i]?
  | [], j, i, hj, _ => by simp at hj
  | a :: fs, 0, i, hj, hi => by
    simp only [List.flatMap_cons, Nat.zero_mul, Nat.zero_add, List.getElem_cons_zero]
    rw [List.getElem?_append_left (by rw [hs]; exact hi)]
  | a :: fs, j + 1, i, hj, hi => by
    simp only [List.flatMap_cons, List.getElem_cons_succ]
    rw [List.getElem?_append_right (by rw [hs, Nat.add_mul]; omega), hs, ← flat_get f s hs fs j i (by simpa using hj) hi]
    congr 1
    rw [Nat.add_mul]; omega
theorem takeD_some {cs : List DV} : ∀ (g : List DV) (off : Nat), (∀ i, i < g.length → cs[off + i]? = g[i]?) → takeD cs off g.length = some (g.map .d)
  | [], off, _ => rfl
  | x :: g, off, h => by
    have h0 := h 0 (by simp)
    have h1 := takeD_some g (off + 1) (fun i hi => by
      have := h (i + 1) (by simp; omega)
      rw [show off + 1 + i = off + (i + 1) from by omega, this]; rfl)
    simp only [Nat.add_zero, List.getElem?_cons_zero] at h0
    show (match cs[off]?, takeD cs (off + 1) g.length with | some x, some l => some (AV.d x :: l) | _, _ => none) = _
    rw [h0, h1]; rfl
/-- The cells of a row's element. -/
theorem p_cellsF {p : Pr} (hp : p = real) {α : Type} {f : α → List DV} {s : Nat} (hs : ∀ a, (f a).length = s) {fs : List α} {j : Nat} (hj : j < fs.length) {cs : List DV} (hc : fs.flatMap f = cs) : p.cells cs (p.nm j s) s = some ((f fs[j]).map .d) := by
  rw [hp, ← hc]
  show takeD (fs.flatMap f) (j * s) s = _
  have := takeD_some (cs := fs.flatMap f) (f fs[j]) (j * s) (fun i hi => by rw [hs] at hi; exact flat_get f s hs fs j i hj hi)
  rw [hs] at this
  exact this
theorem p_cellF {p : Pr} (hp : p = real) {α : Type} {f : α → List DV} {s : Nat} (hs : ∀ a, (f a).length = s) {fs : List α} {j i : Nat} (hj : j < fs.length) (hi : i < s) {cs : List DV} (hc : fs.flatMap f = cs) : p.cell cs (p.na (p.nm j s) i) = (f fs[j])[i]? := by
  rw [hp, ← hc]
  exact flat_get f s hs fs j i hj hi
section
variable {p : Pr} (hp : p = real)
include hp
theorem p_len1 {x : DV} : p.len [x] = 1 := by rw [hp]; rfl
theorem p_cut1 {x : DV} : p.cut [x] 0 1 = [x] := by rw [hp]; rfl
theorem p_nm1 : p.nm 1 1 = 1 := by rw [hp]; rfl
theorem p_na01 : p.na 0 1 = 1 := by rw [hp]; rfl
theorem p_nle11 : p.nle 1 1 = true := by rw [hp]; rfl
theorem p_neq00 : p.neq 0 0 = true := by rw [hp]; rfl
theorem p_neq {a b : Nat} (h : a = b) : p.neq a b = true := by rw [hp]; exact decide_eq_true h
theorem p_fit {n m b : Nat} (h1 : (n + m) * b ≤ 140737488355328) (h2 : n + m ≤ maxLen) : p.fit n m b = true := by rw [hp]; exact decide_eq_true ⟨h1, h2⟩
theorem p_len {cs : List DV} : p.len cs = cs.length := by rw [hp]; rfl
theorem p_app {a b : List DV} : p.app a b = a ++ b := by rw [hp]; rfl
end
theorem bytesD_length (l : List UInt8) : (bytesD l).length = l.length := by unfold bytesD; rw [List.length_map]
theorem bytesD_append (a b : List UInt8) : bytesD (a ++ b) = bytesD a ++ bytesD b := by unfold bytesD; rw [List.map_append]
section
variable {p : Pr} (hp : p = real)
include hp
theorem p_shr32 {a b : Nat} (hb : b ≤ 32) : p.ar .shr .u32 a b = ((a / 2 ^ b : Nat) : Int) := by
  rw [hp]
  show (a : Int).fdiv (2 ^ min (b : Int).toNat 32) = _
  rw [Int.toNat_natCast, Nat.min_eq_left hb, Int.fdiv_eq_ediv_of_nonneg _ (by exact Int.pow_nonneg (by omega))]
  rw [Int.natCast_ediv, Int.natCast_pow]; rfl
theorem p_nn {b : Nat} : p.nn (b : Int) = true := by rw [hp]; simp [real]
theorem p_wr8 {a : Nat} : p.wr .u8 a = ((UInt8.ofNat a).toNat : Nat) := by
  rw [hp]
  show (if (false && decide ((a : Int) % 256 ≥ 128)) = true then (a : Int) % 256 - 256 else (a : Int) % 256) = _
  simp only [Bool.false_and, Bool.false_eq_true, if_false]
  rw [UInt8.toNat_ofNat']; rfl
end
/-- A call, by its contract. -/
theorem call_p {P : Program} {GL : Nat → Option (List DV)} {N : Nat} {hp0 : Nat → Option AO} {C : Cxt} (hC : C = cxtOf P GL N hp0) {f : FuncId} {args : List AV} {rds : List Nat} {v : AV} {us : List (Nat × AO)} {rd : Nat → Option AO} {X : AV → List (Nat × AO) → List Nat → Prop} (hok : fnOk P f = true) (h : Does P GL f args rds v us rd) (h1 : X v us rds) : ∃ v us rds, C.D f args rds v us rd ∧ X v us rds := by
  subst hC
  exact ⟨v, us, rds, ⟨hok, h⟩, h1⟩
/-- Temporaries told as data, no object kept. -/
def TmW (s : SL) : List (Nat × AV) → Prop
  | [] => True
  | (t, v) :: l => WkV (fun _ => none) (lookF s.hp) (lookF []) v (s.get t) ∧ TmW s l
theorem tmW_mem {s : SL} : ∀ {l : List (Nat × AV)}, TmW s l → ∀ x ∈ l, WkV (fun _ => none) (lookF s.hp) (lookF []) x.2 (s.get x.1)
  | [], _, x, hx => by cases hx
  | (t, v) :: l, h, x, hx => by
    rcases List.mem_cons.1 hx with rfl | hx
    · exact h.1
    · exact tmW_mem h.2 x hx
theorem tells_data {GL : Nat → Option (List DV)} {N : Nat} {s : SL} {n : Nat} {tm : List (Nat × AV)} (h : TmW s tm) : Tells GL N (lookF []) s.S (⟨n, tm, []⟩ : SL).S :=
  tells_of (fun _ => none) (fun r o h => by cases h) wkH0 (fun x hx => tmW_mem h x hx)
theorem wk_same {hp1 hp2 : Nat → Option AO} {x y : AV} (h : y = x) (hp : x.plain = true) : WkV (fun _ => none) hp1 hp2 x y := by subst h; exact wkV_refl y hp
theorem wk_nil {hp1 hp2 : Nat → Option AO} : WkV (fun _ => none) hp1 hp2 (.d (.dl [] 0 none)) (.d (.val (.slice none 0 0))) := by
  rw [WkV]; exact ⟨_, .inr (.inl ⟨rfl, rfl⟩), .inl rfl⟩
theorem wk_row {hp1 : Nat → Option AO} {r e sz off n : Nat} {c : Option Nat} {cs cells : List DV} {wr : Bool} (h : hp1 r = some (.data e sz cs wr)) (hc : (cs.drop off).take (n * sz) = cells) : WkV (fun _ => none) hp1 (lookF []) (.d (.dl cells n none)) (.sl r off n c) := by
  rw [WkV]
  refine ⟨_, ?_, .inl rfl⟩
  unfold WkD0
  dsimp only
  rw [h]
  exact ⟨fun r' hr => (by cases hr), none, by rw [hc], .inr rfl⟩
section
variable {p : Pr} (hp : p = real)
include hp
theorem p_neqf {a b : Nat} (h : a ≠ b) : p.neq a b = false := by rw [hp]; exact decide_eq_false h
theorem p_neq11 : p.neq 1 1 = true := p_neq hp rfl
theorem p_neq10 : p.neq 1 0 = false := p_neqf hp (by omega)
theorem p_quo {a b : Nat} (h : a ≤ 9223372036854775807) : p.ar .quo .i64 a b = ((a / b : Nat) : Int) := by
  rw [hp]
  have e : (a : Int).tdiv b = ((a / b : Nat) : Int) := rfl
  show IntKind.wrap .i64 ((a : Int).tdiv b) = _
  rw [e]
  have := Nat.div_le_self a b
  generalize a / b = d at *
  exact wrap_i64 (by omega) (by omega)
theorem p_nz256 : p.nz 256 = false := by rw [hp]; rfl
end
theorem repD_length (x : DV) : ∀ n, (repD n [x]).length = n
  | 0 => rfl
  | n + 1 => by rw [repD, List.length_append, repD_length x n, List.length_singleton]; omega
theorem splice_zero {α : Type} (l new : List α) : splice l 0 new = new ++ l.drop new.length := by cases l <;> rfl
theorem splice_app {α : Type} (new r : List α) : ∀ a : List α, splice (a ++ r) a.length new = a ++ splice r 0 new
  | [] => rfl
  | x :: a => by
    show x :: splice (a ++ r) a.length new = _
    rw [splice_app new r a]; rfl
section
variable {p : Pr} (hp : p = real)
include hp
theorem p_nle {a b : Nat} (h : a ≤ b) : p.nle a b = true := by rw [hp]; exact decide_eq_true h
theorem p_cutAll {cs : List DV} {n : Nat} (h : cs.length ≤ n) : p.cut cs 0 n = cs := by
  rw [hp]; show (cs.drop 0).take n = cs
  rw [List.drop_zero, List.take_of_length_le h]
theorem p_spl {cs new : List DV} {o : Nat} : p.spl cs o new = splice cs o new := by rw [hp]; rfl
theorem p_nmin {a b : Nat} : p.nmin a b = min a b := by rw [hp]; rfl
theorem p_rep {n : Nat} {l : List DV} : p.rep n l = repD n l := by rw [hp]; rfl
end
section
variable {θ : Nat → Option Nat} {hp1 hp2 : Nat → Option AO}
theorem wk_cons {y x : AV} {ys xs : List AV} (h : WkV θ hp1 hp2 y x) (k : WkL θ hp1 hp2 ys xs) : WkL θ hp1 hp2 (y :: ys) (x :: xs) := by rw [WkL]; exact ⟨x, xs, rfl, h, k⟩
theorem wk_end : WkL θ hp1 hp2 [] [] := by rw [WkL]
theorem wk_tup {ys xs : List AV} (k : WkL θ hp1 hp2 ys xs) : WkV θ hp1 hp2 (.tup ys) (.tup xs) := by rw [WkV]; exact ⟨xs, rfl, k⟩
theorem wk_agg {ys xs : List AV} (k : WkL θ hp1 hp2 ys xs) : WkV θ hp1 hp2 (.agg ys) (.agg xs) := by rw [WkV]; exact ⟨xs, rfl, k⟩
end
end Go.Proofs.Ytmkbnmjhkghdjaa
