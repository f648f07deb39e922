/- The abstract machine: slicing; lengths; all operations that look into no object. -/
import Derived.Test.YtmkbnmjhkghdjaaH6
set_option linter.unusedVariables false
set_option linter.unusedSimpArgs false
namespace Go.Proofs.Ytmkbnmjhkghdjaa
open Go.RowKit

theorem relC_drop {h : Array Obj} {X : Nat → Prop} : ∀ (n : Nat) (cells : List DV) (b o : Nat), RelC h X cells b o → RelC h X (cells.drop n) b (o + n)
  | 0, cells, b, o, hr => by simpa using hr
  | n + 1, [], b, o, hr => by rw [List.drop_nil, RelC]; trivial
  | n + 1, x :: cells, b, o, hr => by
    rw [RelC] at hr
    have := relC_drop n cells b (o + 1) hr.2
    rw [List.drop_succ_cons]
    rw [show o + (n + 1) = o + 1 + n from by omega]
    exact this
theorem relC_take {h : Array Obj} {X : Nat → Prop} : ∀ (n : Nat) (cells : List DV) (b o : Nat), RelC h X cells b o → RelC h X (cells.take n) b o
  | 0, cells, b, o, hr => by rw [List.take_zero, RelC]; trivial
  | n + 1, [], b, o, hr => by rw [List.take_nil, RelC]; trivial
  | n + 1, x :: cells, b, o, hr => by
    rw [RelC] at hr
    rw [List.take_succ_cons, RelC]
    exact ⟨hr.1, relC_take n cells b (o + 1) hr.2⟩
theorem relC_get {h : Array Obj} {X : Nat → Prop} : ∀ (cells : List DV) (b o i : Nat) (x : DV), RelC h X cells b o → cells[i]? = some x → ∃ u, cellH h b (o + i) = some u ∧ RelD h X x u
  | [], b, o, i, x, hr, hx => by simp at hx
  | y :: cells, b, o, 0, x, hr, hx => by
    rw [RelC] at hr
    simp at hx
    subst hx
    exact hr.1
  | y :: cells, b, o, i + 1, x, hr, hx => by
    rw [RelC] at hr
    have := relC_get cells b (o + 1) i x hr.2 (by simpa using hx)
    rw [show o + (i + 1) = o + 1 + i from by omega]
    exact this
section
variable {P : Program} {E : En} {lk : Nat → Option AK} {ρ : Operand → AV} {ev : Operand → Value} {w : World}
theorem sliceBound_run (k : IntKind) (j y : Nat) (c : BoundsCode) (h : j ≤ y) : (Instr.sliceBound (.int k j) y c).run P w = .ok j w := by
  have h1 : (j : Int) ≤ y := by omega
  simp [Instr.sliceBound, go_sem, asIntOf, h1, h]
theorem bnd_run (hρ : ∀ x, Rel E (ρ x) (ev x)) {x : Option Operand} {dflt n N h : Nat} (hb : bndA (x.map ρ) dflt n = some h) (hn : n ≤ N) (c : BoundsCode) :
    (match x.map ev with | some v => Instr.sliceBound v N c | none => pure dflt).run P w = .ok h w ∧ (h ≤ n ∨ h = dflt) := by
  cases x with
  | none =>
    simp only [Option.map_none, bndA, Option.some.injEq] at hb
    subst hb
    exact ⟨by simp [go_sem], .inr rfl⟩
  | some x =>
    simp only [Option.map_some, bndA] at hb
    obtain ⟨k, h1, h2⟩ := idxLe_spec hb
    have := hρ x
    rw [h1] at this
    rw [Option.map_some, rel_val this]
    exact ⟨sliceBound_run k h N c (by omega), .inl h2⟩
theorem bounds2 (hρ : ∀ x, Rel E (ρ x) (ev x)) {lo hi : Option Operand} {b : Bool} {n c h l : Nat} (hn : n ≤ c) (hh : bndA (hi.map ρ) n n = some h) (hl : bndA (lo.map ρ) 0 h = some l) :
    (Instr.sliceBounds b n c (lo.map ev) (hi.map ev) none).run P w = .ok (l, h, c) w ∧ l ≤ h ∧ h ≤ n := by
  obtain ⟨r1, p1⟩ := bnd_run (P := P) (w := w) hρ hh hn (if b then .sliceAcap else .sliceAlen)
  obtain ⟨r2, p2⟩ := bnd_run (P := P) (w := w) hρ hl (Nat.le_refl _) .sliceB
  refine ⟨?_, by omega, by omega⟩
  cases lo <;> cases hi <;> simp [Instr.sliceBounds, go_sem] at r1 r2 ⊢ <;> simp [r1, r2]
theorem bounds3 (hρ : ∀ x, Rel E (ρ x) (ev x)) {lo : Option Operand} {hi mx : Operand} {n c m h l : Nat} (hn : n ≤ c) (hm : idxLe? (ρ mx) n = some m) (hh : idxLe? (ρ hi) m = some h) (hl : bndA (lo.map ρ) 0 h = some l) :
    (Instr.sliceBounds true n c (lo.map ev) (some (ev hi)) (some (ev mx))).run P w = .ok (l, h, m) w ∧ l ≤ h ∧ h ≤ m ∧ m ≤ n := by
  obtain ⟨k1, e1, q1⟩ := idxLe_spec hm
  obtain ⟨k2, e2, q2⟩ := idxLe_spec hh
  have a1 := hρ mx
  have a2 := hρ hi
  rw [e1] at a1
  rw [e2] at a2
  obtain ⟨r2, p2⟩ := bnd_run (P := P) (w := w) hρ hl (Nat.le_refl _) .slice3C
  refine ⟨?_, by omega, q2, q1⟩
  rw [rel_val a1, rel_val a2]
  have s1 := sliceBound_run (P := P) (w := w) k1 m c .slice3Acap (by omega)
  have s2 := sliceBound_run (P := P) (w := w) k2 h m .slice3B q2
  have z1 : m ≤ c := by omega
  cases lo <;> simp [Instr.sliceBounds, go_sem] at r2 s1 s2 ⊢ <;> simp [r2, z1, q2]
theorem bnds_sim (hρ : ∀ x, Rel E (ρ x) (ev x)) {lo hi mx : Option Operand} {n c l h : Nat} {m : Option Nat} (hn : n ≤ c) (hb : bnds n (lo.map ρ) (hi.map ρ) (mx.map ρ) = some (l, h, m)) :
    (Instr.sliceBounds true n c (lo.map ev) (hi.map ev) (mx.map ev)).run P w = .ok (l, h, m.getD c) w ∧ l ≤ h ∧ h ≤ n ∧ (∀ k, m = some k → h ≤ k ∧ k ≤ n) := by
  unfold bnds at hb
  cases mx with
  | none =>
    simp only [Option.map_none] at hb
    split at hb
    · cases hb
    · rename_i h1 hh
      split at hb
      · cases hb
      · rename_i l1 hl
        simp only [Option.some.injEq, Prod.mk.injEq] at hb
        obtain ⟨rfl, rfl, rfl⟩ := hb
        obtain ⟨b1, b2, b3⟩ := bounds2 (P := P) (w := w) (b := true) hρ hn hh hl
        exact ⟨b1, b2, b3, fun k hk => by cases hk⟩
  | some mx =>
    cases hi with
    | none => simp at hb
    | some hi =>
      simp only [Option.map_some] at hb
      split at hb
      · cases hb
      · rename_i m1 hm
        split at hb
        · cases hb
        · rename_i h1 hh
          split at hb
          · cases hb
          · rename_i l1 hl
            simp only [Option.some.injEq, Prod.mk.injEq] at hb
            obtain ⟨rfl, rfl, rfl⟩ := hb
            obtain ⟨b1, b2, b3, b4⟩ := bounds3 (P := P) (w := w) hρ hn hm hh hl
            exact ⟨b1, b2, by omega, fun k hk => by cases hk; exact ⟨b3, b4⟩⟩
theorem slice_form {t e : Nat} {i ei : TI} (ht : tiOf P t = some i) (hk : i.k = .slice e) (hei : tiOf P e = some ei) (A : Option Addr) (n c : Nat) (lo hi mx : Option Value) {l h m : Nat} (hb : (Instr.sliceBounds true n c lo hi mx).run P w = .ok (l, h, m) w) :
    (Instr.sliceAt t (.slice A n c) lo hi mx).run P w = .ok (.slice (if m = l then A else A.map (·.add (l * ei.size))) (h - l) (m - l)) w := by
  obtain ⟨d, hd, hk'⟩ := run_under ht
  rw [hk] at hk'
  cases d <;> simp only [atOf] at hk' <;> try (cases hk'; done)
  simp only [AT.slice.injEq] at hk'
  subst hk'
  simp only [Instr.sliceAt, Instr.slice, Sem.run_bind, run_underlying hd, Result.andThen_ok, hb, run_sizeOf hei, Sem.run_pure]
theorem slice_str {t : Nat} {i : TI} (ht : tiOf P t = some i) (hk : i.k = .str) (s : ByteArray) (lo hi : Option Value) {l h c : Nat} (hb : (Instr.sliceBounds false s.size s.size lo hi none).run P w = .ok (l, h, c) w) :
    (Instr.sliceAt t (.string s) lo hi none).run P w = .ok (.string (s.extract l h)) w := by
  obtain ⟨d, hd, hk'⟩ := run_under ht
  rw [hk] at hk'
  cases d <;> simp only [atOf] at hk' <;> try (cases hk'; done)
  simp [Instr.sliceAt, Instr.slice, Sem.run_bind, run_underlying hd, Result.andThen_ok, hb, Sem.run_pure]
theorem addr_add' (b off n : Nat) : (some (⟨b, off, none⟩ : Addr)).map (·.add n) = some ⟨b, off + n, none⟩ := by simp [addr_add]
/-- A part of data. -/
theorem dl_part {cells : List DV} {n : Nat} {cap : Option Nat} {A : Option Addr} {c l h m size : Nat} (hr : RelD E.h E.X (.dl cells n cap) (.slice A n c)) (h1 : l ≤ h) (h2 : h ≤ m) (h3 : m ≤ c) (cap' : Option Nat) (hc : ∀ k, cap' = some k → m - l = k) :
    RelD E.h E.X (.dl ((cells.drop (l * size)).take ((h - l) * size)) (h - l) cap') (.slice (if m = l then A else A.map (·.add (l * size))) (h - l) (m - l)) := by
  rw [RelD] at hr ⊢
  obtain ⟨A', c', e, g1, g2, g3, g4⟩ := hr
  simp only [Value.slice.injEq, true_and] at e
  obtain ⟨rfl, rfl⟩ := e
  refine ⟨_, _, rfl, by omega, by omega, hc, ?_⟩
  by_cases hz : h - l = 0
  · rw [hz]
    simp
  · rw [if_neg (by omega)]
    rcases g4 with g4 | ⟨b, o, rfl, g5, g6⟩
    · subst g4; simp
    · rw [addr_add']
      exact .inr ⟨b, _, rfl, g5, relC_take _ _ _ _ (relC_drop _ _ _ _ g6)⟩
/-- A part of a slice of an object of data. -/
theorem sl_part {r off n : Nat} {cap : Option Nat} {u : Value} {e s : Nat} {cs : List DV} {wr : Bool} (ho : E.hp r = some (.data e s cs wr)) (hr : Rel E (.sl r off n cap) u) {lo hi mx : Option Operand} {l h : Nat}
    (h1 : l ≤ h) (h2 : h ≤ n) : ∃ A c, u = .slice A n c ∧ n ≤ c ∧
      (Rel E (.sl r (off + l * s) (h - l) (cap.map (· - l))) (.slice (if c = l then A else A.map (·.add (l * s))) (h - l) (c - l))) ∧
      (∀ m, h ≤ m → m ≤ n → Rel E (.sl r (off + l * s) (h - l) (some (m - l))) (.slice (if m = l then A else A.map (·.add (l * s))) (h - l) (m - l))) := by
  rw [Rel, ho] at hr
  rcases hr with ⟨rfl, hc, hz, A, rfl⟩ | ⟨b, z, c, g1, rfl, g3, g4, g5, g6⟩
  · refine ⟨A, 0, rfl, Nat.le_refl _, ?_, fun m hm1 hm2 => ?_⟩
    · obtain rfl : h = 0 := by omega
      obtain rfl : l = 0 := by omega
      rw [Rel, ho]
      refine .inl ⟨rfl, ?_, fun h1 h2 => ?_, A, by simp⟩
      · rcases hc with rfl | rfl <;> simp
      · rcases hc with rfl | rfl
        · exact hz rfl (by omega)
        · simp at h1
    · obtain rfl : m = 0 := by omega
      obtain rfl : h = 0 := by omega
      obtain rfl : l = 0 := by omega
      rw [Rel, ho]
      exact .inl ⟨rfl, by simp, fun h1 => by simp at h1, A, by simp⟩
  · refine ⟨_, c, rfl, g3, ?_, fun m hm1 hm2 => ?_⟩
    · rw [Rel, ho]
      by_cases hcl : c = l
      · subst hcl
        refine .inl ⟨by omega, ?_, fun h1 h2 b' z' hb => ?_, _, by rw [show h - c = 0 from by omega, Nat.sub_self]⟩
        · cases cap with
          | none => exact .inl rfl
          | some k => right; simp at g6; simp; omega
        · cases cap with
          | none =>
            rw [g1] at hb
            cases hb
            simp only at g6
            omega
          | some k => simp at h1
      · rw [if_neg hcl, addr_add']
        refine .inr ⟨b, z, c - l, g1, rfl, by omega, by omega, ?_, ?_⟩
        · rw [Nat.add_assoc, ← Nat.add_mul, Nat.add_sub_cancel' (by omega)]
          exact g5
        · cases cap with
          | none =>
            simp only [Option.map_none] at g6 ⊢
            rw [Nat.add_assoc, ← Nat.add_mul, Nat.add_sub_cancel' (by omega)]
            exact g6
          | some k => simp only [Option.map_some] at g6 ⊢; omega
    · rw [Rel, ho]
      by_cases hml : m = l
      · subst hml
        exact .inl ⟨by omega, .inr (by simp), fun h1 => by simp at h1, _, by rw [show h - m = 0 from by omega, Nat.sub_self]⟩
      · rw [if_neg hml, addr_add']
        refine .inr ⟨b, z, m - l, g1, rfl, by omega, by omega, ?_, rfl⟩
        rw [Nat.add_assoc, ← Nat.add_mul, Nat.add_sub_cancel' (by omega)]
        have := Nat.mul_le_mul_right s (show m ≤ c by omega)
        omega
theorem slice_sim (hρ : ∀ x, Rel E (ρ x) (ev x)) {t e : Nat} {i ei : TI} (ht : tiOf P t = some i) (hk : i.k = .slice e) (hei : tiOf P e = some ei) (x : Operand) (lo hi mx : Option Operand)
    (hx : ∀ r off n cap, ρ x = .sl r off n cap → ∃ e' cs wr, E.hp r = some (.data e' ei.size cs wr)) (hs : ∀ s, ρ x ≠ .d (.val (.string s))) {v : AV} (h : sliceA ei.size (ρ x) (lo.map ρ) (hi.map ρ) (mx.map ρ) = some v) :
    ∃ u, (Instr.sliceAt t (ev x) (lo.map ev) (hi.map ev) (mx.map ev)).run P w = .ok u w ∧ Rel E v u := by
  have hr := hρ x
  unfold sliceA at h
  split at h
  · rename_i s hx1; exact absurd hx1 (hs s)
  · rename_i hx1
    rw [hx1] at hr
    rw [rel_val hr]
    split at h
    · rename_i q hb
      obtain ⟨l, h1, m⟩ := q
      simp only [Option.some.injEq] at h
      subst h
      obtain ⟨b1, b2, b3, b4⟩ := bnds_sim (P := P) (w := w) hρ (Nat.le_refl 0) hb
      refine ⟨_, slice_form ht hk hei none 0 0 _ _ _ b1, ?_⟩
      obtain rfl : h1 = 0 := by omega
      obtain rfl : l = 0 := by omega
      have hm : m.getD 0 = 0 := by cases m with | none => rfl | some k => have := b4 k rfl; simp; omega
      rw [hm, Rel, RelD]
      exact ⟨rfl, rfl⟩
    · cases h
  · rename_i cells n cap hx1
    rw [hx1] at hr
    split at h
    · rename_i l h1 m hb
      simp only [Option.some.injEq] at h
      subst h
      rw [Rel] at hr
      have hr' := hr
      rw [RelD] at hr
      obtain ⟨A, c, e1, g1, g2, g3, g4⟩ := hr
      rw [e1] at hr' ⊢
      obtain ⟨b1, b2, b3, b4⟩ := bnds_sim (P := P) (w := w) hρ g1 hb
      refine ⟨_, slice_form ht hk hei A n c _ _ _ b1, ?_⟩
      rw [Rel]
      refine dl_part hr' b2 ?_ ?_ _ ?_
      · cases m with | none => simp; omega | some k => have := b4 k rfl; simp; omega
      · cases m with | none => simp | some k => have := b4 k rfl; simp; omega
      · intro k hk2
        cases m with
        | none =>
          cases cap with
          | none => cases hk2
          | some c' => simp [capOf] at hk2 ⊢; rw [g3 c' rfl]; exact hk2
        | some k' => simp [capOf] at hk2 ⊢; exact hk2
    · cases h
  · rename_i r off n cap hx1
    rw [hx1] at hr
    obtain ⟨e', cs, wr, ho⟩ := hx r off n cap hx1
    split at h
    · rename_i l h1 m hb
      simp only [Option.some.injEq] at h
      subst h
      have hpre : l ≤ h1 ∧ h1 ≤ n := by
        obtain ⟨A, c, e1, g1, _⟩ := sl_part (lo := lo) (hi := hi) (mx := mx) ho hr (Nat.le_refl 0) (Nat.zero_le n)
        obtain ⟨b1, b2, b3, b4⟩ := bnds_sim (P := P) (w := w) hρ g1 hb
        exact ⟨b2, b3⟩
      obtain ⟨A, c, e1, g1, g2, g3⟩ := sl_part (lo := lo) (hi := hi) (mx := mx) ho hr hpre.1 hpre.2
      obtain ⟨b1, b2, b3, b4⟩ := bnds_sim (P := P) (w := w) hρ g1 hb
      rw [e1]
      refine ⟨_, slice_form ht hk hei A n c _ _ _ b1, ?_⟩
      cases m with
      | none => exact g2
      | some k => exact g3 k (b4 k rfl).1 (b4 k rfl).2
    · cases h
  · cases h
theorem str_sim (hρ : ∀ x, Rel E (ρ x) (ev x)) {t : Nat} {i : TI} (ht : tiOf P t = some i) (hk : i.k = .str) (x : Operand) (lo hi mx : Option Operand) {s : ByteArray} (hx : ρ x = .d (.val (.string s))) {v : AV} (h : sliceA 0 (.d (.val (.string s))) (lo.map ρ) (hi.map ρ) (mx.map ρ) = some v) :
    ∃ u, (Instr.sliceAt t (ev x) (lo.map ev) (hi.map ev) (mx.map ev)).run P w = .ok u w ∧ Rel E v u := by
  have hr := hρ x
  rw [hx] at hr
  rw [rel_val hr]
  simp only [sliceA] at h
  cases mx with
  | some mx => simp at h
  | none =>
    simp only [Option.map_none] at h
    split at h
    · rename_i l h1 m hb
      simp only [Option.some.injEq] at h
      subst h
      simp only [bnds] at hb
      split at hb
      · cases hb
      · rename_i h2 hh
        split at hb
        · cases hb
        · rename_i l2 hl
          simp only [Option.some.injEq, Prod.mk.injEq] at hb
          obtain ⟨rfl, rfl, rfl⟩ := hb
          obtain ⟨b1, b2, b3⟩ := bounds2 (P := P) (w := w) (b := false) hρ (Nat.le_refl _) hh hl
          refine ⟨_, slice_str ht hk s _ _ b1, ?_⟩
          rw [Rel, RelD]
          exact ⟨rfl, rfl⟩
    · cases h
end
end Go.Proofs.Ytmkbnmjhkghdjaa
