/- The abstract machine: a region in whatever order. -/
import Derived.Test.YtmkbnmjhkghdjaaH15
set_option linter.unusedVariables false
set_option linter.unusedSimpArgs false
namespace Go.Proofs.Ytmkbnmjhkghdjaa
open Go.RowKit

def parentsA (ops : Array Oper) (j : Nat) : List Nat := match ops[j]? with | some o => (o.after.toList.filter (Region.binds .any)).map (·.on) | none => []
/-- Of each operation, those that must have come before it. -/
def ancT (ops : Array Oper) : Nat → List (List Nat)
  | 0 => []
  | n + 1 => ancT ops n ++ [((parentsA ops n).flatMap fun p => p :: (ancT ops n).getD p []).eraseDups]
section anc
variable {ops : Array Oper}
def ClosedA (ops : Array Oper) (listed : Array Bool) : Prop := ∀ j, listed.getD j false = true → ∀ p ∈ parentsA ops j, listed.getD p false = true
theorem ready_parentsA {listed : Array Bool} {j : Nat} (h : j ∈ Region.ready .any ops listed) : ∀ p ∈ parentsA ops j, listed.getD p false = true := by
  obtain ⟨_, oj, hoj, hall⟩ := mem_ready.1 h
  intro p hp
  unfold parentsA at hp
  rw [hoj] at hp
  obtain ⟨e, he, rfl⟩ := List.mem_map.1 hp
  obtain ⟨he1, he2⟩ := List.mem_filter.1 he
  exact hall e (by simpa using he1) he2
theorem ancT_length : ∀ n, (ancT ops n).length = n
  | 0 => rfl
  | n + 1 => by simp [ancT, ancT_length n]
theorem ancT_listed {listed : Array Bool} (hc : ClosedA ops listed) : ∀ (n j x : Nat), (∀ p ∈ parentsA ops j, listed.getD p false = true) → x ∈ (ancT ops n).getD j [] → listed.getD x false = true
  | 0, j, x, _, h => by simp [ancT] at h
  | n + 1, j, x, hp, h => by
    rw [ancT, List.getD_eq_getElem?_getD] at h
    by_cases hj : j < n
    · rw [List.getElem?_append_left (by rw [ancT_length]; exact hj), ← List.getD_eq_getElem?_getD] at h
      exact ancT_listed hc n j x hp h
    · rw [List.getElem?_append_right (by rw [ancT_length]; omega), ancT_length] at h
      by_cases hj2 : j = n
      · subst hj2
        simp only [Nat.sub_self, List.getElem?_cons_zero, Option.getD_some, List.mem_eraseDups, List.mem_flatMap] at h
        obtain ⟨p, h1, h2⟩ := h
        rcases List.mem_cons.1 h2 with rfl | h2
        · exact hp x h1
        · exact ancT_listed hc j p x (hc p (hp p h1)) h2
      · rw [List.getElem?_eq_none (by simp; omega)] at h
        simp at h
theorem getD_set_casesA {listed : Array Bool} {i j : Nat} (h : (listed.setIfInBounds i true).getD j false = true) : i = j ∨ listed.getD j false = true := by
  by_cases hij : i = j
  · exact .inl hij
  · rw [getD_set_ne false hij] at h; exact .inr h
theorem getD_set_trueA {listed : Array Bool} {i j : Nat} (h : listed.getD j false = true) : (listed.setIfInBounds i true).getD j false = true := by
  by_cases hij : i = j
  · subst hij
    rcases Nat.lt_or_ge i listed.size with h' | h'
    · simp [Array.getD_eq_getD_getElem?, Array.getElem?_setIfInBounds, h']
    · simp [Array.getD_eq_getD_getElem?, Array.getElem?_eq_none h'] at h
  · rw [getD_set_ne false hij]; exact h
theorem ClosedA.set {listed : Array Bool} (hc : ClosedA ops listed) {i : Nat} (hi : i ∈ Region.ready .any ops listed) : ClosedA ops (listed.setIfInBounds i true) := by
  intro j hj p hp
  rcases getD_set_casesA hj with rfl | hj
  · exact getD_set_trueA (ready_parentsA hi p hp)
  · exact getD_set_trueA (hc j hj p hp)
end anc

def wantedS (ops : Array Oper) (s : S) (o : Oper) : Option Bool :=
  match o.guard with
  | none => some true
  | some (j, want) => match (ops[j]?).bind (·.dst) with
    | none => some false
    | some t => match s.tm t with
      | .d (.val (.bool b)) => some (b == want)
      | .undef => some false
      | _ => none
def skipEf : Ef := ⟨.undef, [], [], [], []⟩
def keysE (e : Ef) : List Nat := e.upd.map (·.1)
/-- Two operations do not meet. -/
def ncB (x y : Ef) : Bool := (keysE x).all (fun r => !y.rds.contains r && !(keysE y).contains r) && x.chg.all (fun r => !y.lvs.contains r) && (keysE y).all (fun r => !x.rds.contains r) && y.chg.all (fun r => !x.lvs.contains r)
section
variable (P : Program) (GL : Nat → Option (List DV)) (q : Nat → Bool) (N base : Nat) (ops : Array Oper)
def StepR (i : Nat) (s : S) (e : Ef) : Prop :=
  match ops[i]? with
  | none => False
  | some o => (∀ t, o.dst = some t → t < N) ∧ ((wantedS ops s o = some true ∧ EfR P GL q (base + i) o s e) ∨ (wantedS ops s o = some false ∧ e = skipEf))
def dstOf (i : Nat) : Option Nat := (ops[i]?).bind (·.dst)
def Run : List (Nat × Ef) → S → S → Prop
  | [], s, s' => s = s'
  | (i, e) :: l, s, s' => StepR P GL q N base ops i s e ∧ Run l (s.app (dstOf ops i) e) s'
end
section
variable {P : Program} {GL : Nat → Option (List DV)} {q : Nat → Bool} {N base : Nat} {ops : Array Oper}
theorem wanted_sim {E : En} {a : Act} {w : World} {s : S} (h : Sim GL N E a w s) {o : Oper} {b : Bool} (hw : wantedS ops s o = some b) : Region.wanted o (yielded ops a.tmps) = b := by
  unfold wantedS at hw
  unfold Region.wanted
  cases hg : o.guard with
  | none => rw [hg] at hw; simpa using hw
  | some g =>
    obtain ⟨j, want⟩ := g
    rw [hg] at hw
    simp only at hw ⊢
    unfold yielded
    cases hd : (ops[j]?).bind (·.dst) with
    | none => rw [hd] at hw; simpa using hw
    | some t =>
      rw [hd] at hw
      simp only [Option.bind_some] at hw ⊢
      have ht := h.tm t
      split at hw
      · rename_i c hc
        rw [hc] at ht
        have ht := rel_val ht
        simp only [Option.some.injEq] at hw
        subst hw
        have : a.tmps[t]? = some (.bool c) := by
          rw [Array.getD_eq_getD_getElem?] at ht
          cases hx : a.tmps[t]? with
          | none => rw [hx] at ht; cases ht
          | some v => rw [hx] at ht; simp at ht; rw [ht]
        rw [this]
        cases c <;> cases want <;> rfl
      · rename_i hc
        rw [hc, Rel] at ht
        simp only [Option.some.injEq] at hw
        subst hw
        rw [Array.getD_eq_getD_getElem?] at ht
        cases hx : a.tmps[t]? with
        | none => rfl
        | some v => rw [hx] at ht; simp at ht; rw [ht]; rfl
      · cases hw
/-- What an operation looks at decides what it does. -/
theorem kinds_congr {rs : List Nat} {rd rd' : Nat → Option AO} (h : ∀ r ∈ rs, (rd' r).map AO.kind = (rd r).map AO.kind) : kinds (restrict rs rd') = kinds (restrict rs rd) := by
  funext r
  unfold kinds restrict
  split
  · rename_i hr; exact h r (by simpa using hr)
  · rfl
theorem restrict_congr {rs : List Nat} {rd rd' : Nat → Option AO} (h : ∀ r ∈ rs, rd' r = rd r) : restrict rs rd' = restrict rs rd := by
  funext r
  unfold restrict
  split
  · rename_i hr; exact h r (by simpa using hr)
  · rfl
theorem parts_congr {ρ ρ' : Operand → AV} {parts : Array (Nat × Operand)} (h : ∀ x ∈ (parts.toList.map (·.2)), ρ x = ρ' x) : (parts.toList.map fun (j, x) => (j, ρ x)) = (parts.toList.map fun (j, x) => (j, ρ' x)) := by
  refine List.map_congr_left fun p hp => ?_
  obtain ⟨j, x⟩ := p
  simp only
  rw [h x (List.mem_map.2 ⟨_, hp, rfl⟩)]
theorem parts_all {ρ ρ' : Operand → AV} {lk : Nat → Option AK} {parts : Array (Nat × Operand)} (h : ∀ x ∈ (parts.toList.map (·.2)), ρ x = ρ' x) : (parts.toList.all fun (_, x) => isV lk (ρ x)) = (parts.toList.all fun (_, x) => isV lk (ρ' x)) := by
  rw [Bool.eq_iff_iff, List.all_eq_true, List.all_eq_true]
  constructor
  · intro h1 p hp; obtain ⟨j, x⟩ := p; have := h1 _ hp; simp only at this ⊢; rw [← h x (List.mem_map.2 ⟨_, hp, rfl⟩)]; exact this
  · intro h1 p hp; obtain ⟨j, x⟩ := p; have := h1 _ hp; simp only at this ⊢; rw [h x (List.mem_map.2 ⟨_, hp, rfl⟩)]; exact this
theorem effQ_congr {T : Ty} {lk : Nat → Option AK} {o : Oper} {ρ ρ' : Operand → AV} (h : ∀ x ∈ o.op.operands, ρ x = ρ' x) : effQ T q lk o ρ = effQ T q lk o ρ' := by
  obtain ⟨dst, op, type, pos, after, guard⟩ := o
  unfold effQ
  cases op <;> simp only [Op.operands] at h ⊢
  case build t parts =>
    have h' : ∀ x ∈ parts.toList.map (·.2), ρ x = ρ' x := fun x hx => h x (by simpa using hx)
    rw [parts_congr h', parts_all h']
  case makeFunc fn first caps =>
    have : caps.toList.map ρ = caps.toList.map ρ' := List.map_congr_left fun x hx => h x (by simp [Array.mem_toList_iff.1 hx])
    have h2 : first.toList.map ρ = first.toList.map ρ' := List.map_congr_left fun x hx => h x (by simp [Array.mem_toList_iff.1 hx])
    rw [this, h2]
  case slice t x lo hi mx =>
    have hx := h x (by simp)
    have e1 : lo.map ρ = lo.map ρ' := by cases lo with | none => rfl | some y => simp [h y (by simp)]
    have e2 : hi.map ρ = hi.map ρ' := by cases hi with | none => rfl | some y => simp [h y (by simp)]
    have e3 : mx.map ρ = mx.map ρ' := by cases mx with | none => rfl | some y => simp [h y (by simp)]
    rw [hx, e1, e2, e3]
  case call c =>
    have : c.args.toList.map ρ = c.args.toList.map ρ' := List.map_congr_left fun x hx => h x (by simp [Call.operands, Array.mem_toList_iff.1 hx])
    have h2 : (c.args.toList.all fun x => slLive lk (ρ x)) = (c.args.toList.all fun x => slLive lk (ρ' x)) := by
      rw [Bool.eq_iff_iff, List.all_eq_true, List.all_eq_true]
      constructor
      · intro h1 p hp; have := h1 p hp; rw [h p (by simp [Call.operands, Array.mem_toList_iff.1 hp])] at this; exact this
      · intro h1 p hp; have := h1 p hp; rw [← h p (by simp [Call.operands, Array.mem_toList_iff.1 hp])] at this; exact this
    rw [this, h2]
  all_goals (simp only [List.mem_toArray, Array.mem_def, List.mem_cons, List.not_mem_nil, or_false, forall_eq_or_imp, forall_eq] at h)
  all_goals first
    | rfl
    | (rw [h]; done)
    | (rw [h.1, h.2]; done)
    | (rw [h.1, h.2.1, h.2.2]; done)
theorem effH_congr {T : Ty} {rd : Nat → Option AO} {slot : Nat} {o : Oper} {ρ ρ' : Operand → AV} (h : ∀ x ∈ o.op.operands, ρ x = ρ' x) : effH T rd slot o ρ = effH T rd slot o ρ' := by
  obtain ⟨dst, op, type, pos, after, guard⟩ := o
  unfold effH
  cases op <;> simp only [Op.operands] at h ⊢
  case buildSlice t n parts =>
    have h' : ∀ x ∈ parts.toList.map (·.2), ρ x = ρ' x := fun x hx => h x (by simpa using hx)
    rw [parts_congr h', parts_all h']
  case call c =>
    have : c.args.toList.map ρ = c.args.toList.map ρ' := List.map_congr_left fun x hx => h x (by simp [Call.operands, Array.mem_toList_iff.1 hx])
    rw [this]
  all_goals (simp only [List.mem_toArray, Array.mem_def, List.mem_cons, List.not_mem_nil, or_false, forall_eq_or_imp, forall_eq] at h)
  all_goals first
    | rfl
    | (rw [h]; done)
    | (rw [h.1, h.2]; done)
theorem callA_congr {o : Oper} {ρ ρ' : Operand → AV} (h : ∀ x ∈ o.op.operands, ρ x = ρ' x) : callA ρ o = callA ρ' o := by
  obtain ⟨dst, op, type, pos, after, guard⟩ := o
  unfold callA
  cases op <;> simp only [Op.operands] at h ⊢
  case call c =>
    have : c.args.toList.map ρ = c.args.toList.map ρ' := List.map_congr_left fun x hx => h x (by simp [Call.operands, Array.mem_toList_iff.1 hx])
    rw [this]
    cases hc : c.callee with
    | value x => simp only; rw [h x (by simp [Call.operands, hc])]
    | _ => rfl
theorem eff_local {rd rd' : Nat → Option AO} {slot : Nat} {o : Oper} {ρ ρ' : Operand → AV} (h : ∀ x ∈ o.op.operands, ρ x = ρ' x) {f : Eff} (hf : eff (tiOf P) q rd slot o ρ = some f) (h1 : ∀ r ∈ f.rds, rd' r = rd r) (h2 : ∀ r ∈ f.lvs, (rd' r).map AO.kind = (rd r).map AO.kind) : eff (tiOf P) q rd' slot o ρ' = some f := by
  have hrs : (o.op.operands.toList.flatMap fun x => (ρ' x).refs) = o.op.operands.toList.flatMap fun x => (ρ x).refs := by
    rw [List.flatMap_def, List.flatMap_def]
    congr 1
    exact List.map_congr_left fun x hx => by rw [h x (Array.mem_toList_iff.1 hx)]
  unfold eff at hf ⊢
  simp only at hf ⊢
  rw [hrs, ← effQ_congr h, ← effH_congr h]
  split at hf
  · rename_i v hv
    simp only [Option.some.injEq] at hf
    subst hf
    rw [kinds_congr h2, hv]
  · rename_i hn
    split at hf
    · rename_i v us hv
      simp only [Option.some.injEq] at hf
      subst hf
      rw [kinds_congr (fun r hr => by rw [h1 r (List.mem_cons_of_mem _ hr)]), hn, restrict_congr h1]
      simp only
      rw [hv]
    · cases hf
theorem chgs_congr {hp hp' : Nat → Option AO} {us : List (Nat × AO)} (h : ∀ r ∈ us.map (·.1), hp' r = hp r) : chgs hp' us = chgs hp us := by
  unfold chgs
  congr 1
  refine List.filter_congr fun p hp => ?_
  rw [h p.1 (List.mem_map.2 ⟨p, hp, rfl⟩)]
theorem S.ev_congr {s s' : S} {x : Operand} (h : ∀ t, x = .tmp t → s'.tm t = s.tm t) : s'.ev GL x = s.ev GL x := by
  cases x with
  | tmp t => exact h t rfl
  | _ => rfl
theorem looks_operand {o : Oper} {t : Nat} (h : Operand.tmp t ∈ o.op.operands) : t ∈ o.looksAt ops := by
  unfold Oper.looksAt
  exact List.mem_append_left _ (List.mem_filterMap.2 ⟨_, Array.mem_toList_iff.2 h, rfl⟩)
theorem EfR_local {slot : Nat} {o : Oper} {s s' : S} {e : Ef} (h : EfR P GL q slot o s e) (ht : ∀ t, Operand.tmp t ∈ o.op.operands → s'.tm t = s.tm t) (h1 : ∀ r ∈ e.rds, s'.hp r = s.hp r) (h2 : ∀ r ∈ e.lvs, (s'.hp r).map AO.kind = (s.hp r).map AO.kind) (h3 : ∀ r ∈ keysE e, s'.hp r = s.hp r) : EfR P GL q slot o s' e := by
  have hρ : ∀ x ∈ o.op.operands, s.ev GL x = s'.ev GL x := fun x hx => (S.ev_congr fun t e => ht t (e ▸ hx)).symm
  obtain ⟨hc, he⟩ := h
  refine ⟨hc.trans (chgs_congr h3).symm, ?_⟩
  rw [← callA_congr hρ]
  split
  · rename_i f args hca
    rw [hca] at he
    exact ⟨he.1, he.2.1, fun E w vs hr => he.2.2 E w vs fun r hr' => (hr r hr').trans (h1 r hr')⟩
  · rename_i hca
    rw [hca] at he
    obtain ⟨f, hf, e1, e2, e3, e4⟩ := he
    exact ⟨f, eff_local hρ hf (fun r hr => h1 r (by rw [e3]; exact hr)) (fun r hr => h2 r (by rw [e4]; exact hr)), e1, e2, e3, e4⟩
theorem StepR_local {i : Nat} {o : Oper} (ho : ops[i]? = some o) {s s' : S} {e : Ef} (h : StepR P GL q N base ops i s e) (ht : ∀ t ∈ o.looksAt ops, s'.tm t = s.tm t) (h1 : ∀ r ∈ e.rds, s'.hp r = s.hp r) (h2 : ∀ r ∈ e.lvs, (s'.hp r).map AO.kind = (s.hp r).map AO.kind) (h3 : ∀ r ∈ keysE e, s'.hp r = s.hp r) : StepR P GL q N base ops i s' e := by
  unfold StepR at h ⊢
  rw [ho] at h ⊢
  simp only at h ⊢
  have hw : wantedS ops s' o = wantedS ops s o := by
    unfold wantedS
    cases hg : o.guard with
    | none => rfl
    | some g =>
      obtain ⟨j, want⟩ := g
      simp only
      cases hd : (ops[j]?).bind (·.dst) with
      | none => rfl
      | some t =>
        have : t ∈ o.looksAt ops := by
          unfold Oper.looksAt
          refine List.mem_append_right _ ?_
          rw [hg]
          simp [hd]
        simp only
        rw [ht t this]
  rw [hw]
  exact ⟨h.1, h.2.imp (fun ⟨a, b⟩ => ⟨a, EfR_local b (fun t ht' => ht t (looks_operand ht')) h1 h2 h3⟩) id⟩
theorem ncB_spec {x y : Ef} (h : ncB x y = true) : (∀ r ∈ keysE x, r ∉ y.rds ∧ r ∉ keysE y) ∧ (∀ r ∈ x.chg, r ∉ y.lvs) ∧ (∀ r ∈ keysE y, r ∉ x.rds) ∧ (∀ r ∈ y.chg, r ∉ x.lvs) := by
  unfold ncB at h
  simp only [Bool.and_eq_true, List.all_eq_true, Bool.not_eq_true', List.contains_eq_mem, decide_eq_false_iff_not] at h
  exact ⟨fun r hr => h.1.1.1 r hr, fun r hr => h.1.1.2 r hr, fun r hr => h.1.2 r hr, fun r hr => h.2 r hr⟩
theorem look_keys {r : Nat} {o : AO} {us : List (Nat × AO)} (h : look r us = some o) : r ∈ us.map (·.1) := List.mem_map.2 ⟨_, look_mem h, rfl⟩
theorem updF_notin {hp : Nat → Option AO} {us : List (Nat × AO)} {r : Nat} (h : r ∉ us.map (·.1)) : updF hp us r = hp r := by
  unfold updF
  cases hl : look r us with
  | none => rfl
  | some o => exact (h (look_keys hl)).elim
theorem sameK_kind {x : Option AO} {o : AO} (h : sameK x o = true) : x.map AO.kind = some o.kind := by
  unfold sameK at h
  split at h
  · simp at h; simp [AO.kind, h]
  · rfl
  · rfl
  · cases h
theorem updF_kind {hp : Nat → Option AO} {us : List (Nat × AO)} {r : Nat} (h : r ∉ chgs hp us) : (updF hp us r).map AO.kind = (hp r).map AO.kind := by
  unfold updF
  cases hl : look r us with
  | none => rfl
  | some o =>
    simp only [Option.map_some]
    have hs : sameK (hp r) o = true := by
      cases hk : sameK (hp r) o with
      | true => rfl
      | false => exact (h (List.mem_map.2 ⟨(r, o), List.mem_filter.2 ⟨look_mem hl, by simp [hk]⟩, rfl⟩)).elim
    exact (sameK_kind hs).symm
theorem StepR_chg {i : Nat} {s : S} {e : Ef} (h : StepR P GL q N base ops i s e) : e.chg = chgs s.hp e.upd := by
  unfold StepR at h
  split at h
  · exact h.elim
  · rcases h.2 with ⟨_, h⟩ | ⟨_, rfl⟩
    · exact h.1
    · rfl
theorem StepR_some {i : Nat} {s : S} {e : Ef} (h : StepR P GL q N base ops i s e) : ∃ o, ops[i]? = some o := by
  unfold StepR at h
  split at h
  · exact h.elim
  · rename_i o ho; exact ⟨o, ho⟩
/-- **Two operations that do not meet, exchanged.** -/
theorem swap {i j : Nat} {oi oj : Oper} (hi : ops[i]? = some oi) (hj : ops[j]? = some oj) (hap : oj.apart ops oi = true) {s : S} {ei ej : Ef} (hnc : ncB ej ei = true) (h1 : StepR P GL q N base ops j s ej) (h2 : StepR P GL q N base ops i (s.app (dstOf ops j) ej) ei) :
    StepR P GL q N base ops i s ei ∧ StepR P GL q N base ops j (s.app (dstOf ops i) ei) ej ∧ (s.app (dstOf ops i) ei).app (dstOf ops j) ej = (s.app (dstOf ops j) ej).app (dstOf ops i) ei := by
  obtain ⟨a1, a2, a3⟩ := Oper.apart_spec hap
  obtain ⟨n1, n2, n3, n4⟩ := ncB_spec hnc
  have hdj : dstOf ops j = oj.dst := by simp [dstOf, hj]
  have hdi : dstOf ops i = oi.dst := by simp [dstOf, hi]
  rw [hdj] at h2
  rw [hdj, hdi]
  have tmj : ∀ (s : S) (e : Ef) (d : Option Nat) (t : Nat), d ≠ some t → (s.app d e).tm t = s.tm t := fun s e d t hd => by
    unfold S.app S.put
    cases d with
    | none => rfl
    | some k => simp only; rw [if_neg (fun e => hd (by rw [e]))]
  have k3 : ∀ r ∈ keysE ei, r ∉ keysE ej := fun r hr hr' => (n1 r hr').2 hr
  have hcj := StepR_chg h1
  have hci := StepR_chg h2
  have hci' : ei.chg = chgs s.hp ei.upd := by
    rw [hci]
    exact chgs_congr fun r hr => updF_notin (k3 r hr)
  have g1 : StepR P GL q N base ops i s ei := by
    refine StepR_local hi h2 (fun t ht => ?_) (fun r hr => ?_) (fun r hr => ?_) (fun r hr => ?_)
    · exact (tmj s ej oj.dst t (fun e => a1 t e ht)).symm
    · exact (updF_notin (fun hk => (n1 r hk).1 hr)).symm
    · exact (updF_kind (fun hk => n2 r (by rw [hcj]; exact hk) hr)).symm
    · exact (updF_notin (k3 r hr)).symm
  refine ⟨g1, ?_, ?_⟩
  · refine StepR_local hj h1 (fun t ht => ?_) (fun r hr => ?_) (fun r hr => ?_) (fun r hr => ?_)
    · exact tmj s ei oi.dst t (fun e => a3 t e ht)
    · exact updF_notin (fun hk => n3 r hk hr)
    · exact updF_kind (fun hk => n4 r (by rw [hci']; exact hk) hr)
    · exact updF_notin (fun hk => (n1 r hr).2 hk)
  · unfold S.app S.put
    have hh : updF (updF s.hp ei.upd) ej.upd = updF (updF s.hp ej.upd) ei.upd := by
      funext r
      by_cases hr : r ∈ keysE ej
      · have h5 : r ∉ ei.upd.map (·.1) := (n1 r hr).2
        rw [updF_notin h5]
        unfold updF
        cases hl : look r ej.upd with
        | none => simp only; exact updF_notin h5
        | some o => rfl
      · have h5 : r ∉ ej.upd.map (·.1) := hr
        rw [updF_notin h5]
        unfold updF
        cases hl : look r ei.upd with
        | none => simp only; exact (updF_notin h5).symm
        | some o => rfl
    cases hd1 : oi.dst with
    | none =>
      cases hd2 : oj.dst with
      | none => simp only [hh]
      | some k => simp only [hh]
    | some t =>
      cases hd2 : oj.dst with
      | none => simp only [hh]
      | some k =>
        have hne : t ≠ k := fun e => a2 k hd2 (by rw [hd1, e])
        simp only [hh, S.mk.injEq, and_true]
        funext x
        by_cases hx1 : x = t
        · subst hx1; simp [hne]
        · by_cases hx2 : x = k
          · subst hx2; simp [hx1]
          · simp [hx1, hx2]
/-- An operation that meets none of those before it may come first. -/
theorem bubble {i : Nat} {oi : Oper} (hi : ops[i]? = some oi) {ei : Ef} : ∀ (l1 l2 : List (Nat × Ef)) (s s' : S), (∀ j ej, (j, ej) ∈ l1 → ∃ oj, ops[j]? = some oj ∧ oj.apart ops oi = true ∧ ncB ej ei = true) → Run P GL q N base ops (l1 ++ (i, ei) :: l2) s s' →
    StepR P GL q N base ops i s ei ∧ Run P GL q N base ops (l1 ++ l2) (s.app (dstOf ops i) ei) s'
  | [], l2, s, s', _, h => h
  | (j, ej) :: l1, l2, s, s', hall, h => by
    obtain ⟨h1, h2⟩ := h
    obtain ⟨h3, h4⟩ := bubble hi l1 l2 _ s' (fun k ek hk => hall k ek (List.mem_cons_of_mem _ hk)) h2
    obtain ⟨oj, hj, hap, hnc⟩ := hall j ej List.mem_cons_self
    obtain ⟨g1, g2, g3⟩ := swap hi hj hap hnc h1 h3
    refine ⟨g1, g2, ?_⟩
    rw [g3]
    exact h4
end
end Go.Proofs.Ytmkbnmjhkghdjaa
