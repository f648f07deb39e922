/- The abstract machine: all operations that look into no object. -/
import Derived.Test.YtmkbnmjhkghdjaaH7
set_option linter.unusedVariables false
set_option linter.unusedSimpArgs false
namespace Go.Proofs.Ytmkbnmjhkghdjaa
open Go.RowKit

section
variable {P : Program} {E : En} {lk : Nat → Option AK} {ρ : Operand → AV} {ev : Operand → Value} {w : World}
theorem fold_sim (f : Int → Int → Int) (g : Value → Value → Sem Value) (hg : ∀ k x k' y, g (.int k x) (.int k' y) = Pure.pure (.int k (f x y))) (k : IntKind) : ∀ (l : List AV) (vs : List Value) (a n : Int), RelL E l vs → foldA f k a l = some n →
    (vs.foldlM g (.int k a)).run P w = .ok (.int k n) w
  | [], vs, a, n, hl, h => by
    rw [RelL] at hl
    subst hl
    simp only [foldA, Option.some.injEq] at h
    subst h
    simp [go_sem]
  | x :: l, vs, a, n, hl, h => by
    rw [RelL] at hl
    obtain ⟨v, vs', rfl, h1, h2⟩ := hl
    unfold foldA at h
    split at h
    · rename_i hh; cases hh
    · rename_i k' b l' hh
      simp only [List.cons.injEq] at hh
      obtain ⟨rfl, rfl⟩ := hh
      rw [rel_val h1]
      have ih := fold_sim f g hg k l vs' (f a b) n h2 h
      simp [List.foldlM_cons, go_sem, hg, ih]
    · cases h
theorem effB_sim (hk : KindsOf E lk) {b : Builtin} {c : Call} {ty : Nat} {consts : Array Bool} (hρ : ∀ x, Rel E (ρ x) (ev x)) (hl : c.args.toList.all (fun x => slLive lk (ρ x)) = true) {v : AV} (h : effB (tiOf P) b c.argTypes.toList (c.args.toList.map ρ) = some v) :
    ∃ u, (builtin b c.argTypes ty consts (c.args.map ev)).run P w = .ok (.value u) w ∧ Rel E v u := by
  have hL := relL_map ρ ev hρ c.args.toList
  unfold effB at h
  split at h
  · rename_i x harg
    split at h
    · rename_i t ts hts
      split at h
      · rename_i i hi
        obtain ⟨d, hd, hkd⟩ := run_under hi
        have ht0 : c.argTypes[0]? = some t := by rw [← Array.getElem?_toList, hts]; rfl
        rw [harg, RelL] at hL
        obtain ⟨u0, r0, e0, hx, hr0⟩ := hL
        rw [RelL] at hr0
        subst hr0
        have ha0 : (c.args.map ev)[0]? = some u0 := by rw [← Array.getElem?_toList, Array.toList_map, e0]; rfl
        have hlen : ∀ y, (Builtin.len_ c.argTypes ty (c.args.map ev)).run P w = .ok y w → (builtin .len c.argTypes ty consts (c.args.map ev)).run P w = .ok (.value y) w := fun y hy => by
          simp only [builtin, Sem.run_bind, hy, Result.andThen_ok, Sem.run_pure]
        split at h
        · rename_i s hks
          simp only [Option.some.injEq] at h
          subst h
          rw [hks] at hkd
          cases d <;> simp only [atOf] at hkd <;> try (cases hkd; done)
          rw [rel_val hx] at ha0
          refine ⟨.int .i64 s.size, hlen _ ?_, by rw [aInt, Rel, RelD]; exact ⟨rfl, rfl⟩⟩
          simp [Builtin.len_, ht0, ha0, go_sem, run_underlying hd, goInt]
        · rename_i e cells n cap hks
          simp only [Option.some.injEq] at h
          subst h
          rw [hks] at hkd
          cases d <;> simp only [atOf] at hkd <;> try (cases hkd; done)
          rw [Rel, RelD] at hx
          obtain ⟨A, cc, rfl, _⟩ := hx
          refine ⟨.int .i64 n, hlen _ ?_, by rw [aInt, Rel, RelD]; exact ⟨rfl, rfl⟩⟩
          simp [Builtin.len_, ht0, ha0, go_sem, run_underlying hd, goInt]
        · rename_i e hks
          simp only [Option.some.injEq] at h
          subst h
          rw [hks] at hkd
          cases d <;> simp only [atOf] at hkd <;> try (cases hkd; done)
          rw [rel_val hx] at ha0
          refine ⟨.int .i64 0, hlen _ ?_, by rw [aInt, Rel, RelD]; exact ⟨rfl, rfl⟩⟩
          simp [Builtin.len_, ht0, ha0, go_sem, run_underlying hd, goInt]
        · rename_i e r off n cap hks
          simp only [Option.some.injEq] at h
          subst h
          rw [hks] at hkd
          cases d <;> simp only [atOf] at hkd <;> try (cases hkd; done)
          have hlv : liveK lk r = true := by
            cases hcl : c.args.toList with
            | nil => rw [hcl] at harg; simp at harg
            | cons y l =>
              rw [hcl] at harg hl
              simp only [List.map_cons, List.cons.injEq] at harg
              simp only [List.all_cons, Bool.and_eq_true] at hl
              have := hl.1
              rw [harg.1] at this
              exact this
          obtain ⟨A, cc, rfl, _⟩ := rel_sl hk hlv hx
          refine ⟨.int .i64 n, hlen _ ?_, by rw [aInt, Rel, RelD]; exact ⟨rfl, rfl⟩⟩
          simp [Builtin.len_, ht0, ha0, go_sem, run_underlying hd, goInt]
        · cases h
      · cases h
    · cases h
  · rename_i k a l harg
    rw [harg, RelL] at hL
    obtain ⟨u0, us, e0, hx, hr0⟩ := hL
    simp only [Option.map_eq_some_iff] at h
    obtain ⟨n, hn, rfl⟩ := h
    have := fold_sim (P := P) (w := w) minA Builtin.min2 (fun k x k' y => rfl) k l us a n hr0 hn
    refine ⟨.int k n, ?_, by rw [aInt, Rel, RelD]; exact ⟨rfl, rfl⟩⟩
    have e1 : Builtin.min_ c.argTypes ty (c.args.map ev) = us.foldlM Builtin.min2 (.int k a) := by
      unfold Builtin.min_
      rw [Array.toList_map, e0, rel_val hx]
    simp only [builtin, Sem.run_bind, e1, this, Result.andThen_ok, Sem.run_pure]
  · rename_i k a l harg
    rw [harg, RelL] at hL
    obtain ⟨u0, us, e0, hx, hr0⟩ := hL
    simp only [Option.map_eq_some_iff] at h
    obtain ⟨n, hn, rfl⟩ := h
    have := fold_sim (P := P) (w := w) maxA Builtin.max2 (fun k x k' y => rfl) k l us a n hr0 hn
    refine ⟨.int k n, ?_, by rw [aInt, Rel, RelD]; exact ⟨rfl, rfl⟩⟩
    have e1 : Builtin.max_ c.argTypes ty (c.args.map ev) = us.foldlM Builtin.max2 (.int k a) := by
      unfold Builtin.max_
      rw [Array.toList_map, e0, rel_val hx]
    simp only [builtin, Sem.run_bind, e1, this, Result.andThen_ok, Sem.run_pure]
  · cases h
theorem exec_v {o : Oper} {s : Sem Value} (he : execOp ev o = (do pure (Next.value (← s)))) {u : Value} (h : s.run P w = .ok u w) : (execOp ev o).run P w = .ok (.value u) w := by
  rw [he]
  simp only [Sem.run_bind, h, Result.andThen_ok, Sem.run_pure]
theorem rel_bool (b : Bool) : Rel E (aBool b) (.bool b) := by rw [aBool, Rel, RelD]; exact ⟨rfl, rfl⟩
theorem nilB_rel (hk : KindsOf E lk) {v : AV} {b : Option Bool} (h : nilB lk v = some b) {u : Value} (hr : Rel E v u) : ∃ A n c, u = .slice A n c ∧ (b = none ∨ b = some A.isNone) := by
  unfold nilB at h
  split at h
  · cases h
    exact ⟨none, 0, 0, rel_val hr, .inr rfl⟩
  · rename_i cells n cap
    rw [Rel, RelD] at hr
    obtain ⟨A, c, h1, _, _, _, h5⟩ := hr
    split at h
    · cases h; exact ⟨A, n, c, h1, .inl rfl⟩
    · rename_i hc
      cases h
      rcases h5 with h5 | ⟨b, o, h5, _⟩
      · subst h5; exact (hc rfl).elim
      · exact ⟨A, n, c, h1, .inr (by rw [h5]; rfl)⟩
  · rename_i r off n cap
    split at h
    · rename_i s hl
      obtain ⟨o, k1, k2⟩ := hk r _ hl
      cases o with
      | dead => cases k2
      | mix cs => cases k2
      | data e s' cs wr =>
        rw [Rel, k1] at hr
        split at h
        · cases h
          rcases hr with ⟨hn0, _, _, A, g2⟩ | ⟨b, z, c, _, g2, _⟩
          · exact ⟨A, 0, 0, g2, .inl rfl⟩
          · exact ⟨_, n, c, g2, .inl rfl⟩
        · rename_i hn
          cases h
          rcases hr with ⟨hn0, _⟩ | ⟨b, z, c, _, g2, _⟩
          · exact (hn hn0).elim
          · exact ⟨_, n, c, g2, .inr rfl⟩
    · cases h
  · cases h
theorem abO_rel {E : En} {b : Option Bool} {x : Bool} (h : b = none ∨ b = some x) : Rel E (abO b) (.bool x) := by
  rcases h with rfl | rfl
  · rw [abO, Rel]; exact ⟨x, rfl⟩
  · exact rel_bool _
set_option maxHeartbeats 2000000 in
/-- **An operation that looks into no object, in the world.** -/
theorem effQ_sim {q : Nat → Bool} (hq : QOk P q) (hdp : 30 ≤ P.depth) (hk : KindsOf E lk) (hρ : ∀ x, Rel E (ρ x) (ev x)) {o : Oper} {v : AV} (h : effQ (tiOf P) q lk o ρ = some v) :
    ∃ u, (execOp ev o).run P w = .ok (.value u) w ∧ Rel E v u := by
  obtain ⟨dst, op, type, pos, after, guard⟩ := o
  unfold effQ at h
  cases op <;> simp only at h <;> try (cases h; done)
  case move x =>
    simp only [Option.some.injEq] at h
    subst h
    exact ⟨ev x, rfl, hρ x⟩
  case assign x =>
    simp only [Option.some.injEq] at h
    subst h
    exact ⟨ev x, rfl, hρ x⟩
  case pick c a b =>
    split at h
    · rename_i x hc
      have h1 := hρ c
      rw [hc] at h1
      have h1 := rel_val h1
      split at h
      · rename_i y z ha hb
        simp only [Option.some.injEq] at h
        subst h
        have h2 := hρ a; have h3 := hρ b
        rw [ha] at h2; rw [hb] at h3
        have h2 := rel_val h2; have h3 := rel_val h3
        refine ⟨.bool (bif x then y else z), ?_, rel_bool _⟩
        cases x <;> simp [execOp, go_sem, h1, h2, h3, asBool]
      · simp only [Option.some.injEq] at h
        subst h
        refine ⟨if x then ev a else ev b, ?_, ?_⟩
        · cases x <;> simp [execOp, go_sem, h1, asBool]
        · cases x
          · exact hρ b
          · exact hρ a
    · cases h
  case build t parts =>
    split at h
    · cases h
    · rename_i i hi
      split at h
      · cases h
      · rename_i hall
        have hv : ∀ p ∈ parts.toList, isV lk (ρ p.2) = true := by
          simp only [Bool.not_eq_false, List.all_eq_true] at hall
          exact fun p hp => hall p hp
        split at h
        · rename_i fs hfs
          split at h
          · rename_i pl hpl
            simp only [Option.map_eq_some_iff] at h
            obtain ⟨cs, hcs, rfl⟩ := h
            obtain ⟨u, hu, hr⟩ := build_sim (w := w) hk hρ hi hfs hpl parts hv hcs
            exact ⟨u, exec_v rfl hu, hr⟩
          · cases h
        · rename_i n e hfs
          split at h
          · rename_i ei hei
            simp only [Option.map_eq_some_iff] at h
            obtain ⟨cs, hcs, rfl⟩ := h
            obtain ⟨u, hu, hr⟩ := build_arr_sim (w := w) hk hρ hi hfs hei parts hv hcs
            exact ⟨u, exec_v rfl hu, hr⟩
          · cases h
        · cases h
  case nilCheck x =>
    split at h
    · rename_i r off hx
      split at h
      · rename_i hl
        simp only [Option.some.injEq] at h
        subst h
        have h1 := hρ x
        rw [hx] at h1
        obtain ⟨b, z, g1, g2⟩ := rel_ptr hk hl h1
        exact ⟨ev x, by simp [execOp, go_sem, g2], h1⟩
      · cases h
    · rename_i cells off hx
      simp only [Option.some.injEq] at h
      subst h
      have h1 := hρ x
      rw [hx] at h1
      have h2 := h1
      rw [Rel] at h2
      obtain ⟨b, o, g2, _⟩ := h2
      exact ⟨ev x, by simp [execOp, go_sem, g2], h1⟩
    · rename_i f caps hx
      simp only [Option.some.injEq] at h
      subst h
      have h1 := hρ x
      rw [hx] at h1
      have h2 := h1
      rw [Rel] at h2
      obtain ⟨vs, g2, _⟩ := h2
      exact ⟨ev x, by simp [execOp, go_sem, g2], h1⟩
    · cases h
  case binOp op t x y yt =>
    have hx := hρ x
    have hy := hρ y
    have key : ∀ {a b u : Value}, ev x = a → ev y = b → (eqGuard op t x y a b).run P w = .ok () w → (binOp op t a b).run P w = .ok u w → (execOp ev ⟨dst, .binOp op t x y yt, type, pos, after, guard⟩).run P w = .ok (.value u) w := fun e1 e2 g1 g2 => by
      subst e1; subst e2
      show (do pure (Next.value (← (do eqGuard op t x y (ev x) (ev y); binOp op t (ev x) (ev y)))) : Sem Next).run P w = _
      simp only [Sem.run_bind, g1, g2, Result.andThen_ok, Sem.run_pure]
    split at h
    · rename_i a b e1 e2
      rw [e1] at hx
      rw [e2] at hy
      split at h
      · rename_i i hi
        split at h
        · rename_i hk1
          simp only [Option.some.injEq] at h
          subst h
          exact ⟨.bool (a == b), key (rel_val hx) (rel_val hy) (eqGuard_bool a b) (binBool_sim hi hk1 a b).1, rel_bool _⟩
        · rename_i hk1
          simp only [Option.some.injEq] at h
          subst h
          exact ⟨.bool (a != b), key (rel_val hx) (rel_val hy) (eqGuard_bool a b) (binBool_sim hi hk1 a b).2, rel_bool _⟩
        · cases h
      · cases h
    · rename_i v hn e1
      rw [e1] at hy
      split at h
      · rename_i b i hb hi
        obtain ⟨A, n, c, q1, q2⟩ := nilB_rel hk hb hx
        split at h
        · rename_i e hke
          simp only [Option.some.injEq] at h
          subst h
          exact ⟨.bool A.isNone, key q1 (rel_val hy) (eqGuard_slice) (binNil_sim hi hke A n c).1, abO_rel q2⟩
        · rename_i e hke
          simp only [Option.some.injEq] at h
          subst h
          exact ⟨.bool (!A.isNone), key q1 (rel_val hy) (eqGuard_slice) (binNil_sim hi hke A n c).2, abO_rel (by rcases q2 with rfl | rfl <;> simp)⟩
        · cases h
      · cases h
    · rename_i a b hn hn2 e1 e2
      rw [e1] at hx
      rw [e2] at hy
      simp only [Option.map_eq_some_iff] at h
      obtain ⟨u, hu, rfl⟩ := h
      obtain ⟨g1, g2⟩ := binV_sim (P := P) (w := w) (t := t) hu
      exact ⟨u, key (rel_val hx) (rel_val hy) (eqGuard_val hu) g1, by rw [Rel, RelD]; exact ⟨rfl, g2⟩⟩
    · rename_i xs ys e1 e2
      rw [e1] at hx
      rw [e2] at hy
      rw [Rel] at hx hy
      obtain ⟨us, f1, hx⟩ := hx
      obtain ⟨vs, f2, hy⟩ := hy
      have hg : ∀ b, eqA (tiOf P) q 20 t xs ys = some b → (op = .eql ∨ op = .neq) → (eqGuard op t x y (.agg us) (.agg vs)).run P w = .ok () w := fun b hb hop => by
        have hgt := eqA_guard 20 t xs ys b hb P.depth (by omega)
        unfold eqGuard
        rcases hop with rfl | rfl <;> simp [go_sem, hgt]
      split at h
      · simp only [Option.map_eq_some_iff] at h
        obtain ⟨b, hb, rfl⟩ := h
        have h2 : (Op.equal t (.agg us) (.agg vs)).run P w = .ok b w := eqA_sim hq 20 t xs ys b hb us vs hx hy 9999 (by omega)
        refine ⟨.bool b, key f1 f2 (hg b hb (.inl rfl)) ?_, rel_bool _⟩
        have e1 : binOp .eql t (.agg us) (.agg vs) = (do pure (.bool (← Op.equal t (.agg us) (.agg vs)))) := rfl
        rw [e1]
        simp only [Sem.run_bind, h2, Result.andThen_ok, Sem.run_pure]
      · simp only [Option.map_eq_some_iff] at h
        obtain ⟨b, hb, rfl⟩ := h
        have h2 : (Op.equal t (.agg us) (.agg vs)).run P w = .ok b w := eqA_sim hq 20 t xs ys b hb us vs hx hy 9999 (by omega)
        refine ⟨.bool !b, key f1 f2 (hg b hb (.inr rfl)) ?_, rel_bool _⟩
        have e1 : binOp .neq t (.agg us) (.agg vs) = (do pure (.bool (!(← Op.equal t (.agg us) (.agg vs))))) := rfl
        rw [e1]
        simp only [Sem.run_bind, h2, Result.andThen_ok, Sem.run_pure]
      · cases h
    · cases h
  case unOp op t x =>
    have hx := hρ x
    split at h
    · rename_i a e1
      rw [e1] at hx
      simp only [Option.map_eq_some_iff] at h
      obtain ⟨u, hu, rfl⟩ := h
      obtain ⟨g1, g2⟩ := unV_sim (P := P) (w := w) hu
      refine ⟨u, exec_v (s := Op.unary op (ev x)) rfl (by rw [rel_val hx]; exact g1), by rw [Rel, RelD]; exact ⟨rfl, g2⟩⟩
    · cases h
  case convert src tgt x =>
    have hx := hρ x
    split at h
    · rename_i si di hsi hdi
      split at h
      · rename_i k0 k k1 n e1 e2 e3
        simp only [Option.some.injEq] at h
        subst h
        rw [e3] at hx
        exact ⟨_, exec_v (s := convert src tgt (ev x)) rfl (by rw [rel_val hx]; exact convert_sim hsi hdi e2 k1 k1 n), by rw [aInt, Rel, RelD]; exact ⟨rfl, rfl⟩⟩
      · rename_i s e1 e2 e3
        simp only [Option.some.injEq] at h
        subst h
        rw [e3] at hx
        exact ⟨_, exec_v (s := convert src tgt (ev x)) rfl (by rw [rel_val hx]; exact convert_str hsi hdi e1 e2 s), by rw [Rel, RelD]; exact ⟨rfl, rfl⟩⟩
      · cases h
    · cases h
  case makeFunc fn first caps =>
    split at h
    · rename_i f
      split at h
      · rename_i hz
        simp only [Option.some.injEq] at h
        subst h
        have hlt : f < 1048576 := Nat.le_of_ble_eq_true hz
        refine ⟨.func (.func f) (first.map ev) (caps.map ev), exec_v (s := Instr.makeFunc (.func f) (first.map ev) (caps.map ev)) rfl (by simp [Instr.makeFunc, go_sem]), ?_⟩
        rw [Rel]
        refine ⟨(first.map ev, caps.map ev), ⟨?_, ?_⟩, ?_⟩
        · rw [show (f + 1048576 * first.size) % 1048576 = f from by rw [Nat.add_mul_mod_self_left]; exact Nat.mod_eq_of_lt hlt]
        · rw [Array.size_map, Nat.add_mul_div_left _ _ (by omega), Nat.div_eq_of_lt hlt, Nat.zero_add]
        · simp only [Array.toList_map]
          exact relL_append _ _ _ _ (relL_map ρ ev hρ _) (relL_map ρ ev hρ _)
      · cases h
    · cases h
  case fieldAddr t x j =>
    have hx := hρ x
    split at h
    · rename_i i hi
      split at h
      · rename_i fs hfs
        split at h
        · rename_i fo ft hj
          split at h
          · rename_i fi hfi
            split at h
            · cases h
            · rename_i hn
              split at h
              · rename_i r off e1
                split at h
                · rename_i hl
                  simp only [Option.some.injEq] at h
                  subst h
                  rw [e1] at hx
                  obtain ⟨b, z, g1, g2⟩ := rel_ptr hk hl hx
                  refine ⟨_, exec_v (s := Instr.fieldAt t (ev x) j) rfl (by rw [g2]; exact fieldAt_run hi hfs hj hfi hn b off), ?_⟩
                  obtain ⟨k, q1, q2⟩ := live_spec hl
                  obtain ⟨ob, q3, q4⟩ := hk r k q1
                  rw [Rel, q3]
                  cases ob <;> simp [AO.kind] at q4 <;> first | exact ⟨b, z, g1, rfl⟩ | trivial
                · cases h
              · rename_i cells off e1
                simp only [Option.some.injEq] at h
                subst h
                rw [e1, Rel] at hx
                obtain ⟨b, o, g1, g2⟩ := hx
                refine ⟨_, exec_v (s := Instr.fieldAt t (ev x) j) rfl (by rw [g1]; exact fieldAt_run hi hfs hj hfi hn b (o + off)), ?_⟩
                rw [Rel]
                exact ⟨b, o, by rw [Nat.add_assoc], g2⟩
              · cases h
          · cases h
        · cases h
      · cases h
    · cases h
  case field t x j =>
    have hx := hρ x
    split at h
    · rename_i i hi
      split at h
      · rename_i fs hfs
        split at h
        · rename_i fo ft hj
          split at h
          · rename_i fi hfi
            split at h
            · rename_i cs e1
              rw [e1, Rel] at hx
              obtain ⟨vs, g1, g2⟩ := hx
              obtain ⟨u, hu, hr⟩ := field_sim (w := w) hi hfs hj hfi g2 h
              exact ⟨u, exec_v (s := Instr.field t (ev x) j) rfl (by rw [g1]; exact hu), hr⟩
            · cases h
          · cases h
        · cases h
      · cases h
    · cases h
  case indexAddr t x ix =>
    have hx := hρ x
    have hix := hρ ix
    have ptr : ∀ {r off b z : Nat}, liveK lk r = true → E.m r = some (b, z) → Rel E (.ptr r off) (.pointer (some ⟨b, off, none⟩)) := fun {r off b z} hl g1 => by
      obtain ⟨k, q1, q2⟩ := live_spec hl
      obtain ⟨ob, q3, q4⟩ := hk r k q1
      rw [Rel, q3]
      cases ob <;> simp [AO.kind] at q4 <;> first | exact ⟨b, z, g1, rfl⟩ | trivial
    split at h
    · rename_i i hi
      split at h
      · rename_i n e hke
        split at h
        · rename_i ei hei
          split at h
          · rename_i j hj
            obtain ⟨k, e2, hlt⟩ := idx_spec hj
            rw [e2] at hix
            split at h
            · rename_i r off e1
              split at h
              · rename_i hl
                simp only [Option.some.injEq] at h
                subst h
                rw [e1] at hx
                obtain ⟨b, z, g1, g2⟩ := rel_ptr hk hl hx
                exact ⟨_, exec_v (s := Instr.indexAt t (ev x) (ev ix)) rfl (by rw [g2, rel_val hix]; exact indexAt_arr hi hke hei b off j k hlt), ptr hl g1⟩
              · cases h
            · rename_i cells off e1
              simp only [Option.some.injEq] at h
              subst h
              rw [e1, Rel] at hx
              obtain ⟨b, o, g1, g2⟩ := hx
              refine ⟨_, exec_v (s := Instr.indexAt t (ev x) (ev ix)) rfl (by rw [g1, rel_val hix]; exact indexAt_arr hi hke hei b (o + off) j k hlt), ?_⟩
              rw [Rel]
              exact ⟨b, o, by rw [Nat.add_assoc], g2⟩
            · cases h
          · cases h
        · cases h
      · rename_i e hke
        split at h
        · rename_i ei hei
          split at h
          · rename_i r off n cap e1
            split at h
            · rename_i j hj
              obtain ⟨k, e2, hlt⟩ := idx_spec hj
              rw [e2] at hix
              split at h
              · rename_i hl
                simp only [Option.some.injEq] at h
                subst h
                rw [e1] at hx
                obtain ⟨A, c, g1, g2, g3, g4⟩ := rel_sl hk hl hx
                rcases g4 with g4 | ⟨b, z, g4, rfl⟩
                · omega
                · exact ⟨_, exec_v (s := Instr.indexAt t (ev x) (ev ix)) rfl (by rw [g1, rel_val hix]; exact indexAt_sl hi hke hei b off n c j k hlt), ptr hl g4⟩
              · cases h
            · cases h
          · rename_i cells n cap e1
            split at h
            · rename_i j hj
              obtain ⟨k, e2, hlt⟩ := idx_spec hj
              rw [e2] at hix
              split at h
              · cases h
              · rename_i hne
                simp only [Option.some.injEq] at h
                subst h
                rw [e1, Rel, RelD] at hx
                obtain ⟨A, c, g1, g2, g3, g4, g5⟩ := hx
                rcases g5 with g5 | ⟨b, o, rfl, g5, g6⟩
                · rw [g5] at hne; simp at hne
                · refine ⟨_, exec_v (s := Instr.indexAt t (ev x) (ev ix)) rfl (by rw [g1, rel_val hix]; exact indexAt_sl hi hke hei b o n c j k hlt), ?_⟩
                  rw [Rel]
                  exact ⟨b, o, rfl, .inr ⟨g5, g6⟩⟩
            · cases h
          · cases h
        · cases h
      · cases h
    · cases h
  case index t x ix =>
    have hx := hρ x
    have hix := hρ ix
    split at h
    · rename_i i hi
      split at h
      · rename_i n e hke
        split at h
        · rename_i ei hei
          split at h
          · rename_i j cs hj e1
            obtain ⟨k, e2, hlt⟩ := idx_spec hj
            rw [e2] at hix
            rw [e1, Rel] at hx
            obtain ⟨vs, g1, g2⟩ := hx
            obtain ⟨u, hu, hr⟩ := index_arr (w := w) hi hke hei vs j k hlt g2 h
            exact ⟨u, exec_v (s := Instr.index t (ev x) (ev ix)) rfl (by rw [g1, rel_val hix]; exact hu), hr⟩
          · cases h
        · cases h
      · rename_i hke
        split at h
        · rename_i s k j e1 e2
          rw [e1] at hx
          rw [e2] at hix
          split at h
          · rename_i hj
            split at h
            · rename_i b hb
              simp only [Option.some.injEq] at h
              subst h
              exact ⟨_, exec_v (s := Instr.index t (ev x) (ev ix)) rfl (by rw [rel_val hx, rel_val hix]; exact index_str hi hke s k j hj hb), by rw [aInt, Rel, RelD]; exact ⟨rfl, rfl⟩⟩
            · cases h
          · cases h
        · cases h
      · cases h
    · cases h
  case slice t x lo hi mx =>
    split at h
    · rename_i i hti
      split at h
      · rename_i e hke
        split at h
        · rename_i ei hei
          have go : (∀ r off n cap, ρ x = .sl r off n cap → ∃ e' cs wr, E.hp r = some (.data e' ei.size cs wr)) → (∀ s, ρ x ≠ .d (.val (.string s))) → sliceA ei.size (ρ x) (lo.map ρ) (hi.map ρ) (mx.map ρ) = some v →
              ∃ u, (execOp ev ⟨dst, .slice t x lo hi mx, type, pos, after, guard⟩).run P w = .ok (.value u) w ∧ Rel E v u := fun a1 a2 a3 => by
            obtain ⟨u, hu, hr⟩ := slice_sim (w := w) hρ hti hke hei x lo hi mx a1 a2 a3
            exact ⟨u, exec_v (s := Instr.sliceAt t (ev x) (lo.map ev) (hi.map ev) (mx.map ev)) rfl hu, hr⟩
          split at h
          · rename_i r off n cap e1
            split at h
            · rename_i s hl
              split at h
              · rename_i hs
                subst hs
                obtain ⟨ob, q3, q4⟩ := hk r _ hl
                refine go (fun r' off' n' cap' e2 => ?_) (fun s e2 => by rw [e1] at e2; cases e2) (by rw [e1]; exact h)
                rw [e1] at e2
                cases e2
                cases ob <;> simp [AO.kind] at q4
                subst q4
                exact ⟨_, _, _, q3⟩
              · cases h
            · cases h
          · rename_i e1
            exact go (fun r' off' n' cap' e2 => by rw [e1] at e2; cases e2) (fun s e2 => by rw [e1] at e2; cases e2) (by rw [e1]; exact h)
          · rename_i cells n cap e1
            exact go (fun r' off' n' cap' e2 => by rw [e1] at e2; cases e2) (fun s e2 => by rw [e1] at e2; cases e2) (by rw [e1]; exact h)
          · cases h
        · cases h
      · rename_i hke
        split at h
        · rename_i s e1
          obtain ⟨u, hu, hr⟩ := str_sim (w := w) hρ hti hke x lo hi mx e1 h
          exact ⟨u, exec_v (s := Instr.sliceAt t (ev x) (lo.map ev) (hi.map ev) (mx.map ev)) rfl hu, hr⟩
        · cases h
      · cases h
    · cases h
  case extract x j =>
    have hx := hρ x
    split at h
    · rename_i vs e1
      rw [e1, Rel] at hx
      obtain ⟨us, g1, g2⟩ := hx
      obtain ⟨u, hu, hr⟩ := relL_get _ _ _ _ g2 h
      refine ⟨u, exec_v (s := Instr.extract (ev x) j) rfl ?_, hr⟩
      have hu' : us[j]? = some u := by simpa using hu
      rw [g1]
      simp [Instr.extract, hu', go_sem]
    · cases h
  case call c =>
    split at h
    · rename_i b hb
      split at h
      · rename_i hl
        obtain ⟨u, hu, hr⟩ := effB_sim (w := w) (ty := type) (consts := c.args.map fun | .const _ => true | _ => false) hk hρ hl h
        refine ⟨u, ?_, hr⟩
        simp only [execOp, resolve, hb, Sem.run_bind, Sem.run_pure, Result.andThen_ok, invoke]
        exact hu
      · cases h
    · cases h
end
end Go.Proofs.Ytmkbnmjhkghdjaa
