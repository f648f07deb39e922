/- The abstract machine: a state told with other names and with less. -/
import Derived.Test.YtmkbnmjhkghdjaaH17
set_option linter.unusedVariables false
set_option linter.unusedSimpArgs false
namespace Go.Proofs.Ytmkbnmjhkghdjaa
open Go.RowKit

def nrmV (v : Value) : DV := match v with | .slice none 0 0 => .dl [] 0 none | v => .val v
mutual
/-- Data told in one way: every slice by what it holds, without its capacity. -/
def nrm : DV → DV
  | .val v => nrmV v
  | .dl cells n _ => .dl (nrmL cells) n none
def nrmL : List DV → List DV
  | [] => []
  | x :: xs => nrm x :: nrmL xs
end
mutual
theorem relD_nrm {h : Array Obj} {X : Nat → Prop} : ∀ (x : DV) (u : Value), RelD h X x u → RelD h X (nrm x) u
  | .val v, u, hr => by
    rw [nrm]
    unfold nrmV
    split
    · rw [RelD] at hr
      rw [RelD]
      exact ⟨none, 0, hr.1, Nat.le_refl _, Nat.zero_le _, fun k hk => (by cases hk), .inl rfl⟩
    · exact hr
  | .dl cells n c, u, hr => by
    rw [nrm]
    rw [RelD] at hr ⊢
    obtain ⟨A, c', g1, g2, g3, g4, g5⟩ := hr
    refine ⟨A, c', g1, g2, g3, fun k hk => (by cases hk), ?_⟩
    rcases g5 with rfl | ⟨b, o, k1, k2, k3⟩
    · exact .inl (by rw [nrmL])
    · exact .inr ⟨b, o, k1, k2, relC_nrm cells b o k3⟩
theorem relC_nrm {h : Array Obj} {X : Nat → Prop} : ∀ (cells : List DV) (b o : Nat), RelC h X cells b o → RelC h X (nrmL cells) b o
  | [], _, _, _ => by rw [nrmL, RelC]; trivial
  | x :: xs, b, o, hr => by
    rw [RelC] at hr
    rw [nrmL, RelC]
    obtain ⟨⟨u, hc, hd⟩, hr⟩ := hr
    exact ⟨⟨u, hc, relD_nrm x u hd⟩, relC_nrm xs b (o + 1) hr⟩
end
theorem nrmL_length : ∀ l : List DV, (nrmL l).length = l.length
  | [] => by rw [nrmL]
  | x :: xs => by rw [nrmL, List.length_cons, List.length_cons, nrmL_length xs]
section
variable (θ : Nat → Option Nat) (hp1 hp2 : Nat → Option AO)
/-- No name of the new ones may write it. -/
def Freed (r : Nat) : Prop := ∀ r', θ r' = some r → ∀ o, hp2 r' = some o → o.mutB = false
/-- Data out of a value; a row that nobody writes any more is data. -/
def WkD0 (y : DV) (x : AV) : Prop :=
  match x with
  | .d z => z = y ∨ (z = .val (.slice none 0 0) ∧ y = .dl [] 0 none) ∨ (∃ cells n c, z = .dl cells n c ∧ y = .dl cells n none)
  | .sl r off n c => match hp1 r with
    | some (.data _ s cs _) => Freed θ hp2 r ∧ ∃ c', y = .dl ((cs.drop off).take (n * s)) n c' ∧ (c' = c ∨ c' = none)
    | _ => False
  | _ => False
def WkD (y : DV) (x : AV) : Prop := ∃ y0, WkD0 θ hp1 hp2 y0 x ∧ (y = y0 ∨ y = nrm y0)
mutual
/-- What was known as x is told as y ('WkV y x'). -/
def WkV : AV → AV → Prop
  | .junk, _ => True
  | .undef, x => x = .undef
  | .ab, x => x = .ab
  | .d y, x => WkD θ hp1 hp2 y x
  | .ptr r' off, x => ∃ r, θ r' = some r ∧ (hp2 r').isSome = true ∧ x = .ptr r off
  | .sl r' off n c, x => (hp2 r').isSome = true ∧ ((∃ r, θ r' = some r ∧ x = .sl r off n c) ∨ (θ r' = none ∧ off = 0 ∧ n = 0 ∧ c = none ∧ x = .d (.val (.slice none 0 0))))
  | .dptr cells off, x => x = .dptr cells off
  | .agg ys, x => ∃ xs, x = .agg xs ∧ WkL ys xs
  | .tup ys, x => ∃ xs, x = .tup xs ∧ WkL ys xs
  | .clo f ys, x => ∃ xs, x = .clo f xs ∧ WkL ys xs
def WkL : List AV → List AV → Prop
  | [], xs => xs = []
  | y :: ys, xs => ∃ x xs', xs = x :: xs' ∧ WkV y x ∧ WkL ys xs'
end
def WkO (r' : Nat) (o : AO) : Prop :=
  match θ r' with
  | some r => match o with
    | .dead => True
    | .data e s cs wr => ∃ wr1 cs1, hp1 r = some (.data e s cs1 wr1) ∧ (cs = cs1 ∨ cs = nrmL cs1) ∧ (wr = true → wr1 = true) ∧ (wr = false → wr1 = false ∨ Freed θ hp2 r)
    | .mix cs => ∃ cs1, hp1 r = some (.mix cs1) ∧ WkL θ hp1 hp2 cs cs1
  | none => match o with
    | .dead => True
    | .data _ _ cs _ => cs = []
    | .mix _ => False
structure WkH : Prop where
  ob : ∀ r' o, hp2 r' = some o → WkO θ hp1 hp2 r' o
  inj : ∀ r' r'' o' o'' r, hp2 r' = some o' → hp2 r'' = some o'' → o'.mutB = true → o''.mutB = true → θ r' = some r → θ r'' = some r → r' = r''
end
def weakE (E : En) (θ : Nat → Option Nat) (hp2 : Nat → Option AO) : En :=
  { m := fun r' => match θ r' with | some r => E.m r | none => none, hp := hp2,
    X := fun k => E.X k ∧ ¬ ∃ r e s cs z, E.hp r = some (.data e s cs true) ∧ E.m r = some (k, z) ∧ Freed θ hp2 r, h := E.h }
section
variable {GL : Nat → Option (List DV)} {E : En} {θ : Nat → Option Nat} {hp2 : Nat → Option AO}
theorem weak_sub : Sub E.h E.X (weakE E θ hp2).h (weakE E θ hp2).X := fun b o u hx hc => ⟨fun h => hx h.1, hc⟩
theorem WkO.live {r' : Nat} {o : AO} (h : WkO θ E.hp hp2 r' o) (hd : o ≠ .dead) {r : Nat} (ht : θ r' = some r) : ∃ o1, E.hp r = some o1 ∧ o1 ≠ .dead ∧ o1.like o := by
  unfold WkO at h
  rw [ht] at h
  cases o with
  | dead => exact (hd rfl).elim
  | data e s cs wr => obtain ⟨wr1, cs1, h1, _⟩ := h; exact ⟨_, h1, by simp, ⟨rfl, rfl⟩⟩
  | mix cs => obtain ⟨cs1, h1, _⟩ := h; exact ⟨_, h1, by simp, trivial⟩
theorem weak_m {r' r : Nat} (h : θ r' = some r) : (weakE E θ hp2).m r' = E.m r := by simp [weakE, h]
theorem weak_m0 {r' : Nat} (h : θ r' = none) : (weakE E θ hp2).m r' = none := by simp [weakE, h]
theorem freed_x (hs : SimH GL E) {r e s : Nat} {cs : List DV} {wr : Bool} (hr : E.hp r = some (.data e s cs wr)) (hf : Freed θ hp2 r) {b z : Nat} (hm : E.m r = some (b, z)) : ¬ (weakE E θ hp2).X b := fun hx => by
  cases wr with
  | true => exact hx.2 ⟨r, e, s, cs, z, hr, hm, hf⟩
  | false =>
    rcases hs.ob r _ hr with ⟨g1, _⟩ | ⟨b', cur, g1, g2, g3, g4, _⟩
    · rw [g1] at hm; cases hm
    · rw [hm] at g1; cases g1
      simp only [Bool.false_eq_true, if_false] at g4
      exact g4 hx.1
theorem weak_d0 (hs : SimH GL E) {y : DV} {x : AV} {v : Value} (h : WkD0 θ E.hp hp2 y x) (hr : Rel E x v) : Rel (weakE E θ hp2) (.d y) v := by
    unfold WkD0 at h
    split at h
    · rename_i z
      rw [Rel] at hr
      have hr' := RelD.mono (weak_sub (θ := θ) (hp2 := hp2)) _ _ hr
      rw [Rel]
      rcases h with rfl | ⟨rfl, rfl⟩ | ⟨cells, n, c, rfl, rfl⟩
      · exact hr'
      · rw [RelD] at hr
        rw [RelD]
        exact ⟨none, 0, hr.1, Nat.le_refl _, Nat.zero_le _, fun k hk => (by cases hk), .inl rfl⟩
      · rw [RelD] at hr'
        rw [RelD]
        obtain ⟨A, c', g1, g2, g3, g4, g5⟩ := hr'
        exact ⟨A, c', g1, g2, g3, fun k hk => (by cases hk), g5⟩
    · rename_i r off n c
      split at h
      · rename_i e s cs wr ho
        obtain ⟨hf, c', rfl, hc⟩ := h
        rw [Rel, ho] at hr
        rw [Rel, RelD]
        rcases hr with ⟨rfl, hc2, _, A, rfl⟩ | ⟨b, z, c0, g1, rfl, g3, g4, g5, g6⟩
        · refine ⟨A, 0, rfl, Nat.le_refl _, Nat.zero_le _, fun k hk => ?_, .inl (by simp)⟩
          rcases hc with rfl | rfl
          · rcases hc2 with rfl | rfl
            · cases hk
            · cases hk; rfl
          · cases hk
        · refine ⟨_, c0, rfl, g3, g4, fun k hk => ?_, ?_⟩
          · rcases hc with rfl | rfl
            · subst hk; exact g6
            · cases hk
          · rcases hs.ob r _ ho with ⟨q1, _⟩ | ⟨b', cur, q1, q2, q3, q4, q5⟩
            · rw [q1] at g1; cases g1
            · have hbb : b = b' := by rw [q1] at g1; cases g1; rfl
              subst hbb
              refine .inr ⟨b, off, rfl, freed_x hs ho hf g1, ?_⟩
              have := relC_take (n * s) _ _ _ (relC_drop off _ _ _ q3)
              rw [Nat.zero_add] at this
              exact RelC.at_ (weak_sub (θ := θ) (hp2 := hp2)) _ _ _ (fun _ _ _ h => h) this
      · exact h.elim
    · exact h.elim
mutual
theorem weak_rel (hs : SimH GL E) (hw : WkH θ E.hp hp2) : ∀ (y x : AV) (v : Value), WkV θ E.hp hp2 y x → Rel E x v → Rel (weakE E θ hp2) y v
  | .junk, x, v, _, _ => by rw [Rel]; trivial
  | .undef, x, v, h, hr => by rw [WkV] at h; subst h; rw [Rel] at hr ⊢; exact hr
  | .ab, x, v, h, hr => by rw [WkV] at h; subst h; rw [Rel] at hr ⊢; exact hr
  | .d y, x, v, h, hr => by
    rw [WkV] at h
    obtain ⟨y0, h1, h2⟩ := h
    have h3 := weak_d0 hs h1 hr
    rw [Rel] at h3 ⊢
    rcases h2 with rfl | rfl
    · exact h3
    · exact relD_nrm _ _ h3
  | .ptr r' off, x, v, h, hr => by
    rw [WkV] at h
    obtain ⟨r, h1, h2, rfl⟩ := h
    rw [Rel]
    show match hp2 r' with | none => False | some .dead => True | some _ => _
    cases ho : hp2 r' with
    | none => rw [ho] at h2; cases h2
    | some o =>
      cases o with
      | dead => trivial
      | _ =>
        obtain ⟨o1, k1, k2, k3⟩ := (hw.ob r' _ ho).live (by simp) h1
        rw [Rel, k1] at hr
        cases o1 <;> first | (exact (k2 rfl).elim) | (obtain ⟨b, z, g1, g2⟩ := hr; exact ⟨b, z, (weak_m h1).trans g1, g2⟩)
  | .sl r' off n c, x, v, h, hr => by
    rw [WkV] at h
    obtain ⟨h2, h⟩ := h
    rw [Rel]
    show match hp2 r' with | none => False | some .dead => True | some (.mix _) => _ | some (.data _ s _ _) => _
    cases ho : hp2 r' with
    | none => rw [ho] at h2; cases h2
    | some o =>
      rcases h with ⟨r, h1, rfl⟩ | ⟨h1, rfl, rfl, rfl, rfl⟩
      · cases o with
        | dead => trivial
        | mix cs =>
          obtain ⟨o1, k1, k2, k3⟩ := (hw.ob r' _ ho).live (by simp) h1
          rw [Rel, k1] at hr
          cases o1 with
          | mix cs1 => simp only at hr ⊢; rw [weak_m h1]; exact hr
          | _ => simp [AO.like] at k3
        | data e s cs wr =>
          obtain ⟨o1, k1, k2, k3⟩ := (hw.ob r' _ ho).live (by simp) h1
          rw [Rel, k1] at hr
          cases o1 with
          | data e1 s1 cs1 wr1 => obtain ⟨rfl, rfl⟩ := k3; simp only at hr ⊢; rw [weak_m h1]; exact hr
          | _ => simp [AO.like] at k3
      · have hob := hw.ob r' _ ho
        unfold WkO at hob
        rw [h1] at hob
        cases o with
        | dead => trivial
        | mix cs => exact hob.elim
        | data e s cs wr =>
          simp only
          refine .inl ⟨trivial, .inl trivial, fun _ _ b z hb => ?_, none, rel_val hr⟩
          rw [weak_m0 h1] at hb
          cases hb
  | .dptr cells off, x, v, h, hr => by
    rw [WkV] at h
    subst h
    rw [Rel] at hr ⊢
    obtain ⟨b, o, g1, g2⟩ := hr
    refine ⟨b, o, g1, ?_⟩
    rcases g2 with g2 | ⟨g2, g3⟩
    · exact .inl g2
    · exact relC_keep (E := E) (E' := weakE E θ hp2) weak_sub cells b o g2 g3
  | .agg ys, x, v, h, hr => by
    rw [WkV] at h
    obtain ⟨xs, rfl, h⟩ := h
    rw [Rel] at hr ⊢
    obtain ⟨vs, g1, g2⟩ := hr
    exact ⟨vs, g1, weak_relL hs hw ys xs _ h g2⟩
  | .tup ys, x, v, h, hr => by
    rw [WkV] at h
    obtain ⟨xs, rfl, h⟩ := h
    rw [Rel] at hr ⊢
    obtain ⟨vs, g1, g2⟩ := hr
    exact ⟨vs, g1, weak_relL hs hw ys xs _ h g2⟩
  | .clo f ys, x, v, h, hr => by
    rw [WkV] at h
    obtain ⟨xs, rfl, h⟩ := h
    rw [Rel] at hr ⊢
    obtain ⟨vs, g1, g2⟩ := hr
    exact ⟨vs, g1, weak_relL hs hw ys xs _ h g2⟩
theorem weak_relL (hs : SimH GL E) (hw : WkH θ E.hp hp2) : ∀ (ys xs : List AV) (vs : List Value), WkL θ E.hp hp2 ys xs → RelL E xs vs → RelL (weakE E θ hp2) ys vs
  | [], xs, vs, h, hr => by rw [WkL] at h; subst h; rw [RelL] at hr ⊢; exact hr
  | y :: ys, xs, vs, h, hr => by
    rw [WkL] at h
    obtain ⟨x, xs', rfl, h1, h2⟩ := h
    rw [RelL] at hr ⊢
    obtain ⟨v, vs', rfl, k1, k2⟩ := hr
    exact ⟨v, vs', rfl, weak_rel hs hw y x v h1 k1, weak_relL hs hw ys xs' vs' h2 k2⟩
end
theorem weak_simH (hs : SimH GL E) (hw : WkH θ E.hp hp2) : SimH GL (weakE E θ hp2) := by
  -- a block that is kept to be written is no block that is freed
  have hX : ∀ r' r o o1 b z, θ r' = some r → hp2 r' = some o → o.mutB = true → E.hp r = some o1 → o1.mutB = true → E.m r = some (b, z) → E.X b → (weakE E θ hp2).X b := fun r' r o o1 b z ht ho hm h1 hm1 hb hx => by
    refine ⟨hx, fun ⟨q, e, s, cs, z', g1, g2, g3⟩ => ?_⟩
    have := hs.inj r q o1 _ b z z' h1 g1 hm1 rfl hb g2
    subst this
    have := g3 r' ht o ho
    rw [hm] at this
    cases this
  refine ⟨fun r' o ho => ?_, fun r' r'' o' o'' b z z' h1 h2 h3 h4 h5 h6 => ?_, fun g cells hg => ?_⟩
  · have hob := hw.ob r' o ho
    unfold WkO at hob
    cases ht : θ r' with
    | none =>
      rw [ht] at hob
      cases o with
      | dead => exact trivial
      | mix cs => exact hob.elim
      | data e s cs wr => exact .inl ⟨weak_m0 ht, hob⟩
    | some r =>
      rw [ht] at hob
      cases o with
      | dead => exact trivial
      | mix cs =>
        obtain ⟨cs1, k1, k2⟩ := hob
        obtain ⟨b, cur, t, g1, g2, g3, g4⟩ := hs.ob r _ k1
        exact ⟨b, cur, t, (weak_m ht).trans g1, g2, weak_relL hs hw _ _ _ k2 g3, hX r' r _ _ b _ ht ho rfl k1 rfl g1 g4⟩
      | data e s cs wr =>
        obtain ⟨wr1, cs1, k1, kc, k2, k3⟩ := hob
        rcases hs.ob r _ k1 with ⟨g1, g2⟩ | ⟨b, cur, g1, g2, g3, g4, g5⟩
        · refine .inl ⟨(weak_m ht).trans g1, ?_⟩
          subst g2
          rcases kc with rfl | rfl
          · rfl
          · rw [nrmL]
        · refine .inr ⟨b, cur, (weak_m ht).trans g1, g2, ?_, ?_, g5⟩
          · have g3' := RelC.at_ (h' := (weakE E θ hp2).h) (X' := (weakE E θ hp2).X) weak_sub cs1 0 0 (fun _ _ _ h => h) g3
            rcases kc with rfl | rfl
            · exact g3'
            · exact relC_nrm _ _ _ g3'
          cases wr with
          | true =>
            have := k2 rfl
            subst this
            simp only [if_true] at g4 ⊢
            exact hX r' r _ _ b _ ht ho rfl k1 rfl g1 g4
          | false =>
            simp only [Bool.false_eq_true, if_false]
            rcases k3 rfl with h | h
            · subst h
              simp only [Bool.false_eq_true, if_false] at g4
              exact fun hx => g4 hx.1
            · exact freed_x hs k1 h g1
  · cases ht1 : θ r' with
    | none => rw [weak_m0 ht1] at h5; cases h5
    | some r1 =>
      cases ht2 : θ r'' with
      | none => rw [weak_m0 ht2] at h6; cases h6
      | some r2 =>
        rw [weak_m ht1] at h5
        rw [weak_m ht2] at h6
        have nd : ∀ o : AO, o.mutB = true → o ≠ .dead := fun o h e => by rw [e] at h; cases h
        have mut1 : ∀ r' r o, θ r' = some r → hp2 r' = some o → o.mutB = true → ∃ o1, E.hp r = some o1 ∧ o1.mutB = true := fun r' r o ht ho hm => by
          have hob := hw.ob r' o ho
          unfold WkO at hob
          rw [ht] at hob
          cases o with
          | dead => cases hm
          | mix cs => obtain ⟨cs1, k1, _⟩ := hob; exact ⟨_, k1, rfl⟩
          | data e s cs wr => obtain ⟨wr1, cs1, k1, _, k2, _⟩ := hob; exact ⟨_, k1, k2 hm⟩
        obtain ⟨p1, k1, k2⟩ := mut1 r' r1 o' ht1 h1 h3
        obtain ⟨p2, k3, k4⟩ := mut1 r'' r2 o'' ht2 h2 h4
        have := hs.inj r1 r2 p1 p2 b z z' k1 k3 k2 k4 h5 h6
        subst this
        exact hw.inj r' r'' o' o'' r1 h1 h2 h3 h4 ht1 ht2
  · rcases hs.gl g cells hg with g0 | ⟨g1, g2⟩
    · exact .inl g0
    · exact relC_keep (E := E) (E' := weakE E θ hp2) weak_sub cells g 0 g1 g2
theorem weak_step (hw : WkH θ E.hp hp2) {E0 : En} {w0 w : World} (h : StepF E0 w0 E w) : StepF E0 w0 (weakE E θ hp2) w := by
  refine ⟨h.os, h.tape, h.output, h.size, h.blk, fun k ⟨r', o, z, h1, h2, h3⟩ => ?_, fun k hk => h.xs k hk.1, fun k hk hx hm => ⟨h.xk k hk hx hm, fun ⟨r, e, s, cs, z, g1, g2, g3⟩ => ?_⟩⟩
  · cases ht : θ r' with
    | none => rw [weak_m0 ht] at h3; cases h3
    | some r =>
      rw [weak_m ht] at h3
      have hob := hw.ob r' o h1
      unfold WkO at hob
      rw [ht] at hob
      refine h.mb k ?_
      cases o with
      | dead => cases h2
      | mix cs => obtain ⟨cs1, k1, _⟩ := hob; exact ⟨r, _, z, k1, rfl, h3⟩
      | data e s cs wr => obtain ⟨wr1, cs1, k1, _, k2, _⟩ := hob; exact ⟨r, _, z, k1, k2 h2, h3⟩
  · rcases h.mb k ⟨r, _, z, g1, rfl, g2⟩ with q | q
    · exact hm q
    · omega
end
end Go.Proofs.Ytmkbnmjhkghdjaa
