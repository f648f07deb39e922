import Derived.Test.YtlaccfegaoaakaaJ5p
set_option linter.unusedVariables false
set_option linter.unusedSimpArgs false
set_option maxRecDepth 100000
namespace Go.Proofs.Ytlaccfegaoaakaa
open Go.RowKit
def pnum (k : Nat) (r : List Int) : Option (Int × List Int) := if r.length < k then none else some (val (r.take k), r.drop k)
def ptxt (r : List Int) : Option (List Int × List Int) := (pnum 2 r).bind fun x => if (x.2.length : Int) < x.1 then none else some (x.2.take x.1.toNat, x.2.drop x.1.toNat)
abbrev RC := List Int × (Int × Int)
def pct (r : List Int) : Option (RC × List Int) := (ptxt r).bind fun t => (pnum 2 t.2).bind fun q => (pnum 4 q.2).bind fun e => some ((t.1, (q.1, e.1)), e.2)
def pmany {α : Type} (p : List Int → Option (α × List Int)) : Nat → List Int → Option (List α × List Int)
  | 0, r => some ([], r)
  | n + 1, r => (pmany p n r).bind fun l => (p l.2).bind fun a => some (l.1 ++ [a.1], a.2)
structure AC where
  now : Int
  aor : List Int
  cid : List Int
  sq : Int
  st : Int
  ex : Int
  ins : List Int
  fl : Int
  cs : List RC
  ps : List (List Int)
  rest : List Int
def parse (b : List Int) : Option AC :=
  (pnum 8 b).bind fun x0 => (ptxt x0.2).bind fun x1 => (ptxt x1.2).bind fun x2 => (pnum 4 x2.2).bind fun x3 => (pnum 1 x3.2).bind fun x4 => (pnum 4 x4.2).bind fun x5 => (ptxt x5.2).bind fun x6 => (pnum 4 x6.2).bind fun x7 => (pnum 1 x7.2).bind fun x8 => (pmany pct x8.1.toNat x8.2).bind fun x9 => (pnum 1 x9.2).bind fun y0 => (pmany ptxt y0.1.toNat y0.2).bind fun y1 =>
    some ⟨x0.1, x1.1, x2.1, x3.1, x4.1, x5.1, x6.1, x7.1, x9.1, y1.1, y1.2⟩
def rawt (t : List Int) : List Int := be (t.length : Int) 2 ++ t
def rawc (x : RC) : List Int := rawt x.1 ++ (be x.2.1 2 ++ be x.2.2 4)
def raw (a : AC) : List Int := be a.now 8 ++ (rawt a.aor ++ (rawt a.cid ++ (be a.sq 4 ++ (be a.st 1 ++ (be a.ex 4 ++ (rawt a.ins ++ (be a.fl 4 ++ (be (a.cs.length : Int) 1 ++ (a.cs.flatMap rawc ++ (be (a.ps.length : Int) 1 ++ (a.ps.flatMap rawt ++ a.rest)))))))))))
theorem pnum_inv {k : Nat} {r r' : List Int} {v : Int} (h : pnum k r = some (v, r')) (hb : By r) : r = be v k ++ r' ∧ (0 ≤ v ∧ v < 256 ^ k) ∧ By r' := by
  unfold pnum at h
  split at h
  · cases h
  · rename_i hk
    cases h
    have hl : (r.take k).length = k := by rw [List.length_take]; omega
    have hb' : By (r.take k) := fun x hx => hb x (List.mem_of_mem_take hx)
    have h1 := be_val hb'
    have h2 := val_rng hb'
    rw [hl] at h1 h2
    exact ⟨by rw [h1, List.take_append_drop], h2, fun x hx => hb x (List.mem_of_mem_drop hx)⟩
theorem pnum_be {k : Nat} {v : Int} (X : List Int) (h : 0 ≤ v ∧ v < 256 ^ k) : pnum k (be v k ++ X) = some (v, X) := by
  have hl := be_len v k
  unfold pnum
  rw [if_neg (by rw [List.length_append]; omega), List.take_append_of_le_length (by omega), List.take_of_length_le (by omega), List.drop_append_of_le_length (by omega), List.drop_of_length_le (by omega), val_be v k h]
  rfl
theorem ptxt_inv {r r' t : List Int} (h : ptxt r = some (t, r')) (hb : By r) : r = rawt t ++ r' ∧ t.length ≤ 65535 ∧ By t ∧ By r' := by
  unfold ptxt at h
  cases hp : pnum 2 r with
  | none => rw [hp] at h; cases h
  | some x =>
    obtain ⟨v, q⟩ := x
    rw [hp] at h
    obtain ⟨h1, h2, h3⟩ := pnum_inv hp hb
    have h256 : (256 : Int) ^ 2 = 65536 := by decide
    simp only [Option.bind_some] at h
    split at h
    · cases h
    · rename_i hk
      cases h
      have hl : ((q.take v.toNat).length : Int) = v := by rw [List.length_take]; omega
      refine ⟨?_, by omega, fun x hx => h3 x (List.mem_of_mem_take hx), fun x hx => h3 x (List.mem_of_mem_drop hx)⟩
      unfold rawt
      rw [hl, List.append_assoc, List.take_append_drop]
      exact h1
theorem ptxt_raw {t : List Int} (X : List Int) (h : t.length ≤ 65535) : ptxt (rawt t ++ X) = some (t, X) := by
  unfold ptxt rawt
  have h256 : (256 : Int) ^ 2 = 65536 := by decide
  rw [List.append_assoc, pnum_be _ (by omega)]
  simp only [Option.bind_some]
  rw [if_neg (by rw [List.length_append]; omega), Int.toNat_natCast, List.take_append_of_le_length (Nat.le_refl _), List.take_length, List.drop_append_of_le_length (Nat.le_refl _), List.drop_length]
  rfl
theorem bind_inv {α β : Type} {x : Option α} {f : α → Option β} {b : β} (h : x.bind f = some b) : ∃ a, x = some a ∧ f a = some b := by
  cases x with
  | none => cases h
  | some a => exact ⟨a, rfl, h⟩
abbrev RCok (x : RC) : Prop := x.1.length ≤ 65535 ∧ By x.1 ∧ (0 ≤ x.2.1 ∧ x.2.1 < 65536) ∧ (0 ≤ x.2.2 ∧ x.2.2 < 4294967296)
abbrev RTok (t : List Int) : Prop := t.length ≤ 65535 ∧ By t
theorem pct_inv {r r' : List Int} {x : RC} (h : pct r = some (x, r')) (hb : By r) : r = rawc x ++ r' ∧ RCok x ∧ By r' := by
  unfold pct at h
  obtain ⟨⟨t, r1⟩, h1, h⟩ := bind_inv h
  obtain ⟨⟨q, r2⟩, h2, h⟩ := bind_inv h
  obtain ⟨⟨e, r3⟩, h3, h⟩ := bind_inv h
  cases h
  obtain ⟨g1, g2, g3, g4⟩ := ptxt_inv h1 hb
  obtain ⟨g5, g6, g7⟩ := pnum_inv h2 g4
  obtain ⟨g8, g9, g10⟩ := pnum_inv h3 g7
  have e2 : (256 : Int) ^ 2 = 65536 := by decide
  have e4 : (256 : Int) ^ 4 = 4294967296 := by decide
  refine ⟨?_, ⟨g2, g3, by rw [e2] at g6; exact g6, by rw [e4] at g9; exact g9⟩, g10⟩
  unfold rawc
  simp only [List.append_assoc]
  rw [← g8, ← g5]
  exact g1
theorem pct_raw {x : RC} (X : List Int) (h : RCok x) : pct (rawc x ++ X) = some (x, X) := by
  obtain ⟨h1, _, h2, h3⟩ := h
  have e2 : (256 : Int) ^ 2 = 65536 := by decide
  have e4 : (256 : Int) ^ 4 = 4294967296 := by decide
  unfold pct rawc
  rw [List.append_assoc, ptxt_raw _ h1]
  simp only [Option.bind_some]
  rw [List.append_assoc, pnum_be _ (by omega)]
  simp only [Option.bind_some]
  rw [pnum_be _ (by omega)]
  rfl
theorem pmany_inv {α : Type} {p : List Int → Option (α × List Int)} {enc : α → List Int} {ok : α → Prop} (hp : ∀ r r' a, p r = some (a, r') → By r → r = enc a ++ r' ∧ ok a ∧ By r') : ∀ (n : Nat) (r r' : List Int) (l : List α), pmany p n r = some (l, r') → By r → r = l.flatMap enc ++ r' ∧ l.length = n ∧ (∀ a ∈ l, ok a) ∧ By r'
  | 0, r, r', l, h, hb => by cases h; exact ⟨rfl, rfl, fun a ha => (by cases ha), hb⟩
  | n + 1, r, r', l, h, hb => by
    rw [pmany] at h
    obtain ⟨⟨l1, r1⟩, h1, h⟩ := bind_inv h
    obtain ⟨⟨a, r2⟩, h2, h⟩ := bind_inv h
    cases h
    obtain ⟨g1, g2, g3, g4⟩ := pmany_inv hp n r r1 l1 h1 hb
    obtain ⟨g5, g6, g7⟩ := hp _ _ _ h2 g4
    refine ⟨?_, by rw [List.length_append, g2]; rfl, fun b hb' => ?_, g7⟩
    · rw [List.flatMap_append, List.append_assoc]
      simp only [List.flatMap_cons, List.flatMap_nil, List.append_nil]
      rw [← g5]
      exact g1
    · rcases List.mem_append.1 hb' with q | q
      · exact g3 b q
      · rw [List.mem_singleton] at q; rw [q]; exact g6
theorem pmany_raw {α : Type} {p : List Int → Option (α × List Int)} {enc : α → List Int} {ok : α → Prop} (hp : ∀ a X, ok a → p (enc a ++ X) = some (a, X)) (l : List α) (h : ∀ a ∈ l, ok a) (X : List Int) : pmany p l.length (l.flatMap enc ++ X) = some (l, X) := by
  suffices hs : ∀ n, n ≤ l.length → ∀ X, pmany p n ((l.take n).flatMap enc ++ X) = some (l.take n, X) by
    have := hs l.length (Nat.le_refl _) X
    rwa [List.take_length] at this
  intro n
  induction n with
  | zero => intro _ X; rfl
  | succ n ih =>
    intro hn X
    have hlt : n < l.length := by omega
    have ht : l.take (n + 1) = l.take n ++ [l[n]] := by rw [List.take_add_one, List.getElem?_eq_getElem hlt]; rfl
    rw [pmany, ht, List.flatMap_append, List.append_assoc, ih (by omega)]
    simp only [Option.bind_some, List.flatMap_cons, List.flatMap_nil, List.append_nil]
    rw [hp _ _ (h _ (List.getElem_mem hlt))]
    rfl
def ACok (a : AC) : Prop := (0 ≤ a.now ∧ a.now < 18446744073709551616) ∧ RTok a.aor ∧ RTok a.cid ∧ (0 ≤ a.sq ∧ a.sq < 4294967296) ∧ (0 ≤ a.st ∧ a.st < 256) ∧ (0 ≤ a.ex ∧ a.ex < 4294967296) ∧ RTok a.ins ∧ (0 ≤ a.fl ∧ a.fl < 4294967296) ∧ a.cs.length ≤ 255 ∧ (∀ x ∈ a.cs, RCok x) ∧ a.ps.length ≤ 255 ∧ (∀ x ∈ a.ps, RTok x)
theorem pow1 : (256 : Int) ^ 1 = 256 := by decide
theorem pow4 : (256 : Int) ^ 4 = 4294967296 := by decide
theorem pow8 : (256 : Int) ^ 8 = 18446744073709551616 := by decide
theorem parse_inv {b : List Int} {a : AC} (h : parse b = some a) (hb : By b) : b = raw a ∧ ACok a := by
  unfold parse at h
  obtain ⟨⟨v0, r0⟩, h0, h⟩ := bind_inv h
  obtain ⟨⟨v1, r1⟩, h1, h⟩ := bind_inv h
  obtain ⟨⟨v2, r2⟩, h2, h⟩ := bind_inv h
  obtain ⟨⟨v3, r3⟩, h3, h⟩ := bind_inv h
  obtain ⟨⟨v4, r4⟩, h4, h⟩ := bind_inv h
  obtain ⟨⟨v5, r5⟩, h5, h⟩ := bind_inv h
  obtain ⟨⟨v6, r6⟩, h6, h⟩ := bind_inv h
  obtain ⟨⟨v7, r7⟩, h7, h⟩ := bind_inv h
  obtain ⟨⟨v8, r8⟩, h8, h⟩ := bind_inv h
  obtain ⟨⟨v9, r9⟩, h9, h⟩ := bind_inv h
  obtain ⟨⟨w0, s0⟩, i0, h⟩ := bind_inv h
  obtain ⟨⟨w1, s1⟩, i1, h⟩ := bind_inv h
  cases h
  obtain ⟨a0, b0, c0⟩ := pnum_inv h0 hb
  obtain ⟨a1, b1, d1, c1⟩ := ptxt_inv h1 c0
  obtain ⟨a2, b2, d2, c2⟩ := ptxt_inv h2 c1
  obtain ⟨a3, b3, c3⟩ := pnum_inv h3 c2
  obtain ⟨a4, b4, c4⟩ := pnum_inv h4 c3
  obtain ⟨a5, b5, c5⟩ := pnum_inv h5 c4
  obtain ⟨a6, b6, d6, c6⟩ := ptxt_inv h6 c5
  obtain ⟨a7, b7, c7⟩ := pnum_inv h7 c6
  obtain ⟨a8, b8, c8⟩ := pnum_inv h8 c7
  obtain ⟨a9, b9, d9, c9⟩ := pmany_inv (fun r r' a h hb => pct_inv h hb) _ _ _ _ h9 c8
  obtain ⟨e0, f0, g0⟩ := pnum_inv i0 c9
  obtain ⟨e1, f1, d1', g1⟩ := pmany_inv (ok := RTok) (fun r r' a h hb => by obtain ⟨x1, x2, x3, x4⟩ := ptxt_inv h hb; exact ⟨x1, ⟨x2, x3⟩, x4⟩) _ _ _ _ i1 g0
  rw [pow8] at b0
  rw [pow4] at b3 b5 b7
  rw [pow1] at b4 b8 f0
  have n8 : ((v9.length : Nat) : Int) = v8 := by omega
  have n0 : ((w1.length : Nat) : Int) = w0 := by omega
  refine ⟨?_, b0, ⟨b1, d1⟩, ⟨b2, d2⟩, b3, b4, b5, ⟨b6, d6⟩, b7, by show v9.length ≤ 255; omega, d9, by show w1.length ≤ 255; omega, d1'⟩
  unfold raw
  simp only [n8, n0]
  rw [← e1, ← e0, ← a9, ← a8, ← a7, ← a6, ← a5, ← a4, ← a3, ← a2, ← a1]
  exact a0
theorem parse_raw {a : AC} (h : ACok a) : parse (raw a) = some a := by
  obtain ⟨h0, h1, h2, h3, h4, h5, h6, h7, h8, h9, g0, g1⟩ := h
  unfold parse raw
  rw [pnum_be _ (by rw [pow8]; exact h0)]
  simp only [Option.bind_some]
  rw [ptxt_raw _ h1.1]
  simp only [Option.bind_some]
  rw [ptxt_raw _ h2.1]
  simp only [Option.bind_some]
  rw [pnum_be _ (by rw [pow4]; exact h3)]
  simp only [Option.bind_some]
  rw [pnum_be _ (by rw [pow1]; exact h4)]
  simp only [Option.bind_some]
  rw [pnum_be _ (by rw [pow4]; exact h5)]
  simp only [Option.bind_some]
  rw [ptxt_raw _ h6.1]
  simp only [Option.bind_some]
  rw [pnum_be _ (by rw [pow4]; exact h7)]
  simp only [Option.bind_some]
  rw [pnum_be _ (by rw [pow1]; omega)]
  simp only [Option.bind_some, Int.toNat_natCast]
  rw [pmany_raw (ok := RCok) (fun x X hx => pct_raw X hx) _ h9]
  simp only [Option.bind_some]
  rw [pnum_be _ (by rw [pow1]; omega)]
  simp only [Option.bind_some, Int.toNat_natCast]
  rw [pmany_raw (ok := RTok) (fun x X hx => ptxt_raw X hx.1) _ g1]
  rfl
end Go.Proofs.Ytlaccfegaoaakaa
