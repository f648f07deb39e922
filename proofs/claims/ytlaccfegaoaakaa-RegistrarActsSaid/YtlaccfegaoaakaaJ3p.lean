import Derived.Test.YtlaccfegaoaakaaJ1p
set_option linter.unusedVariables false
set_option linter.unusedSimpArgs false
set_option maxRecDepth 100000
namespace Go.Proofs.Ytlaccfegaoaakaa
open Go.RowKit
def be (u : Int) : Nat → List Int
  | 0 => []
  | k + 1 => be (u / 256) k ++ [u % 256]
def val (l : List Int) : Int := l.foldl (fun a x => a * 256 + x) 0
abbrev By (l : List Int) : Prop := ∀ x ∈ l, 0 ≤ x ∧ x ≤ 255
theorem val_snoc (l : List Int) (x : Int) : val (l ++ [x]) = val l * 256 + x := by unfold val; rw [List.foldl_append]; rfl
theorem be_len (u : Int) (k : Nat) : (be u k).length = k := by
  induction k generalizing u with
  | zero => rfl
  | succ k ih => rw [be, List.length_append, ih]; rfl
theorem be_by (u : Int) (k : Nat) : By (be u k) := by
  induction k generalizing u with
  | zero => intro x hx; cases hx
  | succ k ih =>
    intro x hx
    rw [be] at hx
    rcases List.mem_append.1 hx with hx | hx
    · exact ih _ x hx
    · rw [List.mem_singleton] at hx; omega
theorem be_front (u : Int) (k : Nat) : be u (k + 1) = (u / 256 ^ k) % 256 :: be u k := by
  induction k generalizing u with
  | zero => simp [be]
  | succ k ih =>
    rw [be, ih, List.cons_append, Int.pow_succ, Int.mul_comm, ← Int.ediv_ediv_of_nonneg (by decide)]
    rfl
theorem be_get (u : Int) (k n : Nat) (h : n < k) : (be u k).getD n 0 = (u / 256 ^ (k - 1 - n)) % 256 := by
  induction k generalizing n with
  | zero => omega
  | succ k ih =>
    rw [be_front]
    cases n with
    | zero => simp
    | succ n =>
      rw [List.getD_cons_succ, ih n (by omega)]
      congr 3
      omega
theorem val_be (u : Int) (k : Nat) (h : 0 ≤ u ∧ u < 256 ^ k) : val (be u k) = u := by
  induction k generalizing u with
  | zero =>
    have : u = 0 := by have := h.2; simp at this; omega
    rw [this]; rfl
  | succ k ih =>
    have h2 := h.2
    rw [Int.pow_succ] at h2
    rw [be, val_snoc, ih (u / 256) ⟨by omega, by omega⟩]
    omega
theorem val_rng {l : List Int} (h : By l) : 0 ≤ val l ∧ val l < 256 ^ l.length := by
  induction hn : l.length generalizing l with
  | zero =>
    rw [List.length_eq_zero_iff.1 hn]
    exact ⟨Int.le_refl 0, by decide⟩
  | succ n ih =>
    rcases List.eq_nil_or_concat l with e | ⟨l', c, e⟩
    · rw [e] at hn; cases hn
    · rw [List.concat_eq_append] at e
      subst e
      have hl : l'.length = n := by simpa using hn
      have := ih (l := l') (fun x hx => h x (List.mem_append_left _ hx)) hl
      have hc := h c (by simp)
      rw [val_snoc, Int.pow_succ]
      omega
theorem be_val {l : List Int} (h : By l) : be (val l) l.length = l := by
  induction hn : l.length generalizing l with
  | zero => rw [List.length_eq_zero_iff.1 hn]; rfl
  | succ n ih =>
    rcases List.eq_nil_or_concat l with e | ⟨l', c, e⟩
    · rw [e] at hn; cases hn
    · rw [List.concat_eq_append] at e
      subst e
      have hl : l'.length = n := by simpa using hn
      have hi := ih (l := l') (fun x hx => h x (List.mem_append_left _ hx)) hl
      have hc := h c (by simp)
      rw [val_snoc, be, show (val l' * 256 + c) / 256 = val l' by omega, show (val l' * 256 + c) % 256 = c by omega, hi]
def tb (s : Tx) : List Int := s.map fun c => ((c.toNat : Nat) : Int)
theorem tb_len (s : Tx) : (tb s).length = s.length := List.length_map _
theorem tb_by (s : Tx) : By (tb s) := fun x hx => by
  obtain ⟨c, _, rfl⟩ := List.mem_map.1 hx
  have := c.toNat_lt
  omega
def bt (l : List Int) : Tx := l.map fun n => UInt8.ofNat n.toNat
theorem bt_tb (s : Tx) : bt (tb s) = s := by
  unfold bt tb
  rw [List.map_map]
  conv => rhs; rw [← List.map_id s]
  apply List.map_congr_left
  intro c _
  show UInt8.ofNat (Int.toNat ((c.toNat : Nat) : Int)) = c
  rw [Int.toNat_natCast]
  exact UInt8.ofNat_toNat
theorem tb_bt {l : List Int} (h : By l) : tb (bt l) = l := by
  unfold bt tb
  rw [List.map_map]
  conv => rhs; rw [← List.map_id l]
  apply List.map_congr_left
  intro x hx
  have := h x hx
  show (((UInt8.ofNat x.toNat).toNat : Nat) : Int) = x
  rw [UInt8.toNat_ofNat']
  omega
def et (s : Tx) : List Int := be (s.length : Int) 2 ++ tb s
def u4 (n : Int) : Int := if n < 0 then n + 4294967296 else n
def ec (x : Ct) : List Int := et x.1 ++ be x.2.1 2 ++ be (u4 x.2.2) 4
def ENC (now : Int) (a1 a2 : Tx) (a3 : Int) (a4 : Bool) (a5 : List Ct) (a6 : Int) (a7 : Tx) (a8 : Int) (a9 : List Tx) : List Int :=
  be now 8 ++ et a1 ++ et a2 ++ be a3 4 ++ [if a4 = true then 1 else 0] ++ be (u4 a6) 4 ++ et a7 ++ be a8 4 ++ [(a5.length : Int)] ++ a5.flatMap ec ++ [(a9.length : Int)] ++ a9.flatMap et
end Go.Proofs.Ytlaccfegaoaakaa
