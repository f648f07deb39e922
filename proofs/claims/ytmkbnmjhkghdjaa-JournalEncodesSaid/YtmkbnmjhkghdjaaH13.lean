/- The abstract machine: append, copy. -/
import Derived.Test.YtmkbnmjhkghdjaaH12
set_option linter.unusedVariables false
set_option linter.unusedSimpArgs false
namespace Go.Proofs.Ytmkbnmjhkghdjaa
open Go.RowKit

section
variable {P : Program} {GL : Nat → Option (List DV)} {E : En} {rd : Nat → Option AO} {slot : Nat} {ρ : Operand → AV} {ev : Operand → Value} {w : World}
structure AppArgs (P : Program) (ats : Array TypeId) (args : Array Value) (t u e : TypeId) (ei : TI) (A : Option Addr) (n c : Nat) (xv : Value) : Prop where
  a0 : ats[0]? = some t
  a1 : ats[1]? = some u
  b0 : args[0]? = some (.slice A n c)
  b1 : args[1]? = some xv
  ht : P.underlying t = some (.slice e)
  hu : ∃ du, P.underlying u = some du ∧ (atOf du).srcOk = true
  he : tiOf P e = some ei
theorem append_room_gen {ats : Array TypeId} {ty : Nat} {args : Array Value} {t u e : TypeId} {ei : TI} {A : Option Addr} {n c m : Nat} {xv : Value} (H : AppArgs P ats args t u e ei A n c xv) {news : List Value} (hlen : (Builtin.lenOf xv).run P w = .ok m w) (hf : (Builtin.firstCells ei.size m xv).run P w = .ok news.toArray w) (hroom : n + m ≤ c)
    {w' : World} (hst : ∀ a, A = some a → (storeCells (a.add (n * ei.size)) news).run P w = .ok () w') (hn : A = none → w' = w) : (Builtin.append_ ats ty args).run P w = .ok (.slice A (n + m) c) w' := by
  obtain ⟨a0, a1, b0, b1, ht, ⟨du, hu, hdu⟩, he⟩ := H
  have hz : ∀ k, du ≠ .int k := fun k e => by rw [e] at hdu; cases hdu
  obtain ⟨inf, d, z, q1, q2, q3, q4, q5, q6, q7, q8, q9⟩ := ti_spec he
  rw [← q4] at hf hst
  cases A with
  | none =>
    obtain rfl := hn rfl
    cases du <;> simp [atOf, AT.srcOk] at hdu <;> simp [Builtin.append_, a0, a1, b0, b1, run_underlying ht, run_underlying hu, sizeOf, typeInfo, q1, hlen, hroom, hf]
  | some a =>
    have hs := hst a rfl
    cases du <;> simp [atOf, AT.srcOk] at hdu <;> simp [Builtin.append_, a0, a1, b0, b1, run_underlying ht, run_underlying hu, sizeOf, typeInfo, q1, hlen, hroom, hf, hs]
theorem append_grow_gen {ats : Array TypeId} {ty : Nat} {args : Array Value} {t u e : TypeId} {ei : TI} {A : Option Addr} {n c m : Nat} {xv : Value} (H : AppArgs P ats args t u e ei A n c xv) {olds news : List Value} (hlen : (Builtin.lenOf xv).run P w = .ok m w)
    (hf : (Builtin.firstCells ei.size m xv).run P w.drew = .ok news.toArray w.drew) (ho : (Builtin.firstCells ei.size n (.slice A n c)).run P w.drew = .ok olds.toArray w.drew) (hgrow : c < n + m) (h1 : (n + m) * ei.bytes ≤ 140737488355328) (h2 : n + m ≤ maxLen) :
    ∃ z : Value, (∀ u ∈ z.cells.toList, u.oneCell' = true) ∧ z.cells.size = ei.size ∧ (Builtin.append_ ats ty args).run P w = .ok (.slice (some ⟨w.heap.size, 0, none⟩) (n + m) (grownCap w (n + m) c e))
      (w.drew.alloc (.cells (olds.toArray ++ news.toArray ++ Builtin.zeroCells z.cells (grownCap w (n + m) c e - (n + m))) e)) := by
  obtain ⟨a0, a1, b0, b1, ht, ⟨du, hu, hdu⟩, he⟩ := H
  obtain ⟨inf, d, z, q1, q2, q3, q4, q5, q6, q7, q8, q9⟩ := ti_spec he
  refine ⟨z, q8, by rw [← Array.length_toList]; exact q9, ?_⟩
  rw [← q4] at hf ho
  have hn : ¬ (n + m ≤ c) := by omega
  have hm63 : maxLen = 9223372036854775807 := rfl
  have h63' : ¬ (9223372036854775807 < ((n : Int) + (m : Int))) := by omega
  have hfit := growslice_fits (old := c) hgrow h1
  have h48' : ¬ (281474976710656 < Builtin.nextslicecap (n + m) c * inf.bytes) := by rw [q5]; omega
  cases du <;> simp [atOf, AT.srcOk] at hdu <;> simp [Builtin.append_, a0, a1, b0, b1, run_underlying ht, run_underlying hu, sizeOf, typeInfo, zeroValue, q1, q3, hlen, hn, h63', h48', Question.forced, hf, ho, newRow, grownCap] <;> simp only [← Array.append_assoc, List.append_toArray]
def virtE (E : En) (slot : Nat) (o : AO) : En := { E with m := fun r => if r = slot then none else E.m r, hp := updF E.hp [(slot, o)] }
/-- A row without elements. -/
theorem virt_goes (hw : w.heap = E.h) (hs : SimH GL E) (hn : E.hp slot = none) (e s : Nat) (wr : Bool) : Goes GL E w [(slot, .data e s [] wr)] (virtE E slot (.data e s [] wr)) w := by
  have hhp : ∀ r, r ≠ slot → (virtE E slot (.data e s [] wr)).hp r = E.hp r := fun r hr => by simp only [virtE, updF, look_one]; rw [if_neg (fun e => hr e.symm)]
  have hm : ∀ r, r ≠ slot → (virtE E slot (.data e s [] wr)).m r = E.m r := fun r hr => by simp only [virtE]; rw [if_neg hr]
  have hslot : ∀ r ob, E.hp r = some ob → r ≠ slot := fun r ob he e => by rw [e, hn] at he; cases he
  have m1 : (virtE E slot (.data e s [] wr)).m slot = none := by simp [virtE]
  have hex : Ext E (virtE E slot (.data e s [] wr)) := ⟨Sub.refl _ _, fun r ob he => ⟨ob, (hhp r (hslot r ob he)).trans he, ob.like_refl, .inr (hm r (hslot r ob he))⟩⟩
  have hmm : ∀ r ob, (virtE E slot (.data e s [] wr)).hp r = some ob → (r = slot ∧ ob = .data e s [] wr) ∨ (r ≠ slot ∧ E.hp r = some ob) := fun r ob he => by
    by_cases hr : r = slot
    · subst hr
      simp only [virtE, updF, look_one, if_true, Option.some.injEq] at he
      exact .inl ⟨rfl, he.symm⟩
    · exact .inr ⟨hr, (hhp r hr).symm.trans he⟩
  refine ⟨hw, rfl, hex, ⟨fun r ob he => ?_, fun r r' ob ob' b z z' e1 e2 e3 e4 e5 e6 => ?_, fun g cells hg => hs.gl g cells hg⟩, ⟨rfl, rfl, rfl, Nat.le_refl _, fun _ _ _ => rfl, fun k ⟨r, ob, z, e1, e2, e3⟩ => ?_, fun k hk => .inl hk, fun k _ hx _ => hx⟩⟩
  · rcases hmm r ob he with ⟨rfl, rfl⟩ | ⟨hr, he'⟩
    · exact .inl ⟨m1, rfl⟩
    · exact ObjR.ext hex (hs.ob r ob he') (.inr (hm r hr)) (fun _ _ _ => rfl) (fun _ _ _ => Iff.rfl)
  · rcases hmm r ob e1 with ⟨rfl, rfl⟩ | ⟨hr, e1'⟩
    · rw [m1] at e5; cases e5
    · rcases hmm r' ob' e2 with ⟨rfl, rfl⟩ | ⟨hr', e2'⟩
      · rw [m1] at e6; cases e6
      · rw [hm r hr] at e5
        rw [hm r' hr'] at e6
        exact hs.inj r r' ob ob' b z z' e1' e2' e3 e4 e5 e6
  · rcases hmm r ob e1 with ⟨rfl, rfl⟩ | ⟨hr, e1'⟩
    · rw [m1] at e3; cases e3
    · rw [hm r hr] at e3
      exact .inl ⟨r, ob, z, e1', e2, e3⟩
theorem virt_sl (A : Option Addr) (e s : Nat) (wr : Bool) : Rel (virtE E slot (.data e s [] wr)) (.sl slot 0 0 none) (.slice A 0 0) := by
  rw [Rel]
  simp only [virtE, updF, look_one, if_true]
  exact .inl ⟨trivial, .inl trivial, fun _ _ b z h => (by cases h), A, rfl⟩
theorem append_new (hw : w.heap = E.h) (hs : SimH GL E) (hn : E.hp slot = none) {ats : Array TypeId} {ty : Nat} {args : Array Value} {t u e : TypeId} {ei : TI} {A : Option Addr} {n c m : Nat} {xv : Value} (H : AppArgs P ats args t u e ei A n c xv)
    {old cells : List DV} {olds news : List Value} (ho1 : RelDs E.h E.X old olds) (ho2 : olds.length = n * ei.size) (ho3 : ∀ w' : World, w'.heap = w.heap → (Builtin.firstCells ei.size n (.slice A n c)).run P w' = .ok olds.toArray w')
    (hc1 : RelDs E.h E.X cells news) (hc2 : news.length = m * ei.size) (hlen : (Builtin.lenOf xv).run P w = .ok m w) (hc3 : ∀ w' : World, w'.heap = w.heap → (Builtin.firstCells ei.size m xv).run P w' = .ok news.toArray w') (hgrow : c < n + m) (hp : 0 < ei.size) (h1 : (n + m) * ei.bytes ≤ 140737488355328) (h2 : n + m ≤ maxLen) :
    ∃ uv w' E', (Builtin.append_ ats ty args).run P w = .ok uv w' ∧ Goes GL E w [(slot, .data e ei.size (old ++ cells) true)] E' w' ∧ Rel E' (.sl slot 0 (n + m) none) uv := by
  obtain ⟨z, z1, z2, hrun⟩ := append_grow_gen (ty := ty) H hlen (hc3 w.drew rfl) (ho3 w.drew rfl) hgrow h1 h2
  have hge := grownCap_ge w (n + m) c e
  have hle := grownCap_le_maxLen w (n + m) c e h2
  generalize hgc : grownCap w (n + m) c e = cap at *
  have hsz : (olds.toArray ++ news.toArray ++ Builtin.zeroCells z.cells (cap - (n + m))).size = cap * ei.size := by
    simp only [Array.size_append, List.size_toArray, size_zeroCells, z2, ho2, hc2, ← Nat.add_mul]
    congr 1
    omega
  have hds := relDs_append ho1 hc1
  refine ⟨_, _, _, hrun, new_goes (slot := slot) hw hs hn (o := .data e ei.size (old ++ cells) true) ⟨rfl, rfl, fun j x hx => ?_, ⟨cap, hsz, hle⟩, hp⟩ rfl rfl rfl rfl, new_sl hw hge hle hsz.symm (fun k hk => by cases hk)⟩
  obtain ⟨v, k1, k2⟩ := relDs_get _ _ j x hds hx
  refine ⟨v, ?_, k2⟩
  have hj : j < (olds ++ news).length := (List.getElem?_eq_some_iff.1 k1).1
  rw [← Array.getElem?_toList, Array.toList_append, Array.toList_append]
  rw [List.getElem?_append_left (by exact hj)]
  exact k1
/-- What an append's end says. -/
def AppEnds (P : Program) (GL : Nat → Option (List DV)) (E : En) (w : World) (s : Sem Value) (v : AV) (us : List (Nat × AO)) : Prop :=
  ∃ uv w' E', s.run P w = .ok uv w' ∧ Goes GL E w us E' w' ∧ Rel E' v uv
theorem room0 {ats : Array TypeId} {ty : Nat} {args : Array Value} {t u e : TypeId} {ei : TI} {A : Option Addr} {n c : Nat} {xv : Value} (H : AppArgs P ats args t u e ei A n c xv) (hlen : (Builtin.lenOf xv).run P w = .ok 0 w) (hc3 : (Builtin.firstCells ei.size 0 xv).run P w = .ok #[] w) (hnc : n ≤ c) :
    (Builtin.append_ ats ty args).run P w = .ok (.slice A n c) w :=
  append_room_gen (news := []) (ty := ty) H hlen hc3 (by omega) (fun a _ => by simp [storeCells, go_sem]) (fun _ => rfl)
/-- In place, in a row of the call's own. -/
theorem append_room (hw : w.heap = E.h) (hs : SimH GL E) {ats : Array TypeId} {ty : Nat} {args : Array Value} {t u e : TypeId} {ei : TI} {n c m : Nat} {xv : Value} {r b : Nat} {cs : List DV} {cur : Array Value} (H : AppArgs P ats args t u e ei (some ⟨b, 0, none⟩) n c xv)
    (hr : E.hp r = some (.data e ei.size cs true)) (hm : E.m r = some (b, cur.size)) (hb : E.h[b]? = some (.cells cur e)) (hcs : RelC E.h E.X cs b 0) (hfit : c * ei.size ≤ cur.size)
    {cells : List DV} {news : List Value} (hc1 : RelDs E.h E.X cells news) (hc2 : news.length = m * ei.size) (hlen : (Builtin.lenOf xv).run P w = .ok m w) (hc3 : (Builtin.firstCells ei.size m xv).run P w = .ok news.toArray w) (hroom : n + m ≤ c)
    (cs' : List DV) (hcs' : ∀ (j : Nat) (d : DV), cs'[j]? = some d → ((j < n * ei.size ∨ (n + m) * ei.size ≤ j) ∧ cs[j]? = some d) ∨ (n * ei.size ≤ j ∧ j < (n + m) * ei.size ∧ cells[j - n * ei.size]? = some d)) :
    ∃ w', (Builtin.append_ ats ty args).run P w = .ok (.slice (some ⟨b, 0, none⟩) (n + m) c) w' ∧ Goes GL E w [(r, .data e ei.size cs' true)] (setE E r (.data e ei.size cs' true) w'.heap) w' := by
  have hbw : w.heap[b]? = some (.cells cur e) := by rw [hw]; exact hb
  have hnm : (n + m) * ei.size ≤ c * ei.size := Nat.mul_le_mul_right _ hroom
  have hnm2 : (n + m) * ei.size = n * ei.size + m * ei.size := Nat.add_mul _ _ _
  have hst := run_storeCells_at P b (n * ei.size) e news 0 cur w hbw (by omega) (relDs_one hc1)
  simp only [Nat.add_zero] at hst
  have hcul : cur.toList.length = cur.size := Array.length_toList
  have hrun := append_room_gen (ty := ty) (w' := w.setRow b (cur.toList.take (n * ei.size) ++ news ++ cur.toList.drop (n * ei.size + news.length)).toArray) H hlen hc3 hroom (fun a ha => by
    cases ha
    rw [addr_add, Nat.zero_add]
    exact hst) (fun h => by cases h)
  have hsize : (cur.toList.take (n * ei.size) ++ news ++ cur.toList.drop (n * ei.size + news.length)).toArray.size = cur.size := by
    simp only [List.size_toArray, List.length_append, List.length_take, List.length_drop]
    omega
  refine ⟨_, hrun, set_goes hw hs hr rfl hm (o' := .data e ei.size cs' true) ⟨rfl, rfl⟩ hb hsize ⟨rfl, fun j d hd => ?_⟩ (setRow_heap w b cur _ e _ hbw) (fun k hk => setRow_other w b k _ hk) (setRow_size _ _ _) rfl rfl rfl⟩
  rcases hcs' j d hd with ⟨h1, h2⟩ | ⟨h1, h2, h3⟩
  · obtain ⟨v, k1, k2⟩ := relC_get cs b 0 j d hcs h2
    rw [Nat.zero_add, cellH_cells hb] at k1
    refine ⟨v, ?_, k2⟩
    have hjc : j < cur.size := (Array.getElem?_eq_some_iff.1 k1).1
    simp only [List.getElem?_toArray]
    rcases h1 with h1 | h1
    · rw [List.append_assoc, List.getElem?_append_left (by rw [List.length_take]; omega), List.getElem?_take, if_pos h1]
      simpa using k1
    · rw [List.getElem?_append_right (by rw [List.length_append, List.length_take]; omega), List.length_append, List.length_take, List.getElem?_drop]
      rw [show n * ei.size + news.length + (j - (min (n * ei.size) cur.toList.length + news.length)) = j from by omega]
      simpa using k1
  · obtain ⟨v, k1, k2⟩ := relDs_get _ _ _ _ hc1 h3
    refine ⟨v, ?_, k2⟩
    have hjn : j - n * ei.size < news.length := (List.getElem?_eq_some_iff.1 k1).1
    simp only [List.getElem?_toArray]
    rw [List.append_assoc, List.getElem?_append_right (by rw [List.length_take]; omega), List.getElem?_append_left (by rw [List.length_take]; omega), List.length_take]
    rw [show j - min (n * ei.size) cur.toList.length = j - n * ei.size from by omega]
    exact k1
end
end Go.Proofs.Ytmkbnmjhkghdjaa
