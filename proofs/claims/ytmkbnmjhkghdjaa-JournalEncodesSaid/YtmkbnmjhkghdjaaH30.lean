/- The abstract machine, run: calls are entered, loops gone through round by round. -/
import Derived.Test.YtmkbnmjhkghdjaaH29
set_option linter.unusedVariables false
set_option linter.unusedSimpArgs false
namespace Go.Proofs.Ytmkbnmjhkghdjaa
open Go.RowKit

/-- As look, ev and rd, but quick to reckon with. -/
def lookQ {α : Type} (k : Nat) : List (Nat × α) → Option α
  | [] => none
  | (i, x) :: l => match Nat.beq i k with
    | true => some x
    | false => lookQ k l
theorem lookQ_eq {α : Type} (k : Nat) : ∀ l : List (Nat × α), lookQ k l = look k l
  | [] => rfl
  | (i, x) :: l => by
    rw [lookQ, look, lookQ_eq k l]
    split
    · rename_i h; rw [if_pos (Nat.eq_of_beq_eq_true h)]
    · rename_i h; rw [if_neg (fun e => by subst e; rw [show Nat.beq i i = true from Nat.beq_refl i] at h; cases h)]
def rdQ (s : SL) (r : Nat) : Option AO := lookQ r s.hp
theorem rdQ_eq (s : SL) : rdQ s = s.rd := funext fun r => lookQ_eq r s.hp
def evQ (GL : Nat → Option (List DV)) (s : SL) : Operand → AV
  | .tmp t => match lookQ t s.tm with | some x => x | none => .junk
  | .const v => constA v
  | .global g => match GL g with | some cells => .dptr cells 0 | none => .junk
  | .func f => match Nat.blt f 1048576 with | true => .clo f [] | false => .junk
theorem evQ_eq (GL : Nat → Option (List DV)) (s : SL) : evQ GL s = s.ev GL := by
  funext x
  cases x with
  | tmp t => show (match lookQ t s.tm with | some x => x | none => .junk) = s.get t; rw [lookQ_eq]; rfl
  | _ => rfl
def zipI {α : Type} : Nat → List α → List (Nat × α)
  | _, [] => []
  | n, x :: l => (n, x) :: zipI (n + 1) l
theorem zipI_fst {α : Type} : ∀ (n : Nat) (l : List α), (zipI n l).map (·.1) = List.range' n l.length
  | _, [] => rfl
  | n, x :: l => by rw [zipI, List.map_cons, zipI_fst (n + 1) l, List.length_cons, List.range'_succ]
theorem zipI_mem {α : Type} : ∀ (n : Nat) (l : List α) (x : Nat × α), x ∈ zipI n l → n ≤ x.1 ∧ l[x.1 - n]? = some x.2
  | _, [], x, h => by cases h
  | n, y :: l, x, h => by
    rcases List.mem_cons.1 h with rfl | h
    · simp
    · obtain ⟨h1, h2⟩ := zipI_mem (n + 1) l x h
      refine ⟨by omega, ?_⟩
      rw [show x.1 - n = (x.1 - (n + 1)) + 1 from by omega, List.getElem?_cons_succ]
      exact h2
def dstQ (N : Nat) : Option Nat → Bool
  | none => true
  | some t => Nat.blt t N
theorem dstQ_eq (N : Nat) (d : Option Nat) : dstQ N d = dstB N d := by
  cases d with
  | none => rfl
  | some t =>
    show Nat.blt t N = decide (t < N)
    by_cases h : t < N
    · rw [decide_eq_true h]; exact Nat.ble_eq_true_of_le h
    · rw [decide_eq_false h]
      cases hb : Nat.blt t N with
      | false => rfl
      | true => exact (h (Nat.le_of_ble_eq_true hb)).elim
/-- What is reached from these names. -/
def reach (rd : Nat → Option AO) : Nat → List Nat → List Nat → List Nat
  | 0, _, seen => seen
  | _ + 1, [], seen => seen
  | n + 1, r :: work, seen => match seen.contains r with
    | true => reach rd n work seen
    | false => match rd r with
      | some o => reach rd n (oRefs o ++ work) (r :: seen)
      | none => reach rd n work seen
def pickO (rd : Nat → Option AO) : List Nat → List (Nat × AO)
  | [] => []
  | r :: l => match rd r with
    | some o => (r, o) :: pickO rd l
    | none => pickO rd l
theorem pickO_mem {rd : Nat → Option AO} : ∀ {l : List Nat} {x : Nat × AO}, x ∈ pickO rd l → rd x.1 = some x.2
  | [], x, h => by cases h
  | r :: l, x, h => by
    rw [pickO] at h
    split at h
    · rename_i o ho
      rcases List.mem_cons.1 h with rfl | h
      · exact ho
      · exact pickO_mem h
    · exact pickO_mem h
theorem pickO_look {rd : Nat → Option AO} {l : List Nat} {r : Nat} {o : AO} (h : look r (pickO rd l) = some o) : rd r = some o := pickO_mem (look_mem h)
/-- The newest of each (the bits of m: those that have been). -/
def dedup : List (Nat × AV) → Nat → List (Nat × AV)
  | [], _ => []
  | (t, x) :: l, m => match Nat.testBit m t with
    | true => dedup l m
    | false => (t, x) :: dedup l (m ||| 1 <<< t)
theorem bit_set (m t k : Nat) : Nat.testBit (m ||| 1 <<< t) k = (Nat.testBit m k || decide (k = t)) := by
  rw [Nat.testBit_or, Nat.one_shiftLeft, Nat.testBit_two_pow]
  by_cases h : k = t
  · subst h; simp
  · simp [h, Ne.symm h]
theorem dedup_bit : ∀ (l : List (Nat × AV)) (m t : Nat), Nat.testBit m t = true → look t (dedup l m) = none
  | [], m, t, h => rfl
  | (k, x) :: l, m, t, h => by
    rw [dedup]
    split
    · exact dedup_bit l m t h
    · rename_i hk
      rw [look, if_neg (fun e => by subst e; rw [h] at hk; cases hk)]
      exact dedup_bit l _ t (by rw [bit_set, h]; rfl)
theorem dedup_look : ∀ {l : List (Nat × AV)} {m t : Nat} {x : AV}, look t (dedup l m) = some x → look t l = some x
  | [], m, t, x, h => by cases h
  | (k, y) :: l, m, t, x, h => by
    rw [dedup] at h
    split at h
    · rename_i hk
      rw [look]
      split
      · rename_i e
        subst e
        rw [dedup_bit l m k hk] at h
        cases h
      · exact dedup_look h
    · rw [look] at h ⊢
      split at h
      · rename_i e; rw [if_pos e]; exact h
      · rename_i e; rw [if_neg e]; exact dedup_look h
def closedB (hp : List (Nat × AO)) : Bool := hp.all fun x => refsB hp (oRefs x.2)
def gcS (ks : List Nat) (s : SL) : SL :=
  ⟨s.n, dedup s.tm 0, pickO (rdQ s) (reach (rdQ s) 1000 (ks ++ (dedup s.tm 0).flatMap fun x => x.2.refs) [])⟩
def gcOk (ks : List Nat) (s : SL) : Bool := closedB s.hp && ((s.tm.all fun x => refsB s.hp x.2.refs) && ks.all fun r => (look r s.hp).isSome)
section
variable {P : Program} {GL : Nat → Option (List DV)} {q : Nat → Bool} {N : Nat} {hp0 : Nat → Option AO}
theorem along_rest {E0 E : En} {w0 w : World} {os : List (Nat × AO)} (hA : Along E0 w0 E w) (hos : ∀ r o, look r os = some o → E.hp r = some o) (hk : ∀ r, (E0.hp r).isSome = true → (look r os).isSome = true) : Along E0 w0 (restE E os) w := by
  refine ⟨⟨hA.ext.sub, fun r o ho => ?_⟩, ⟨hA.fr.os, hA.fr.tape, hA.fr.output, hA.fr.size, hA.fr.blk, fun k ⟨r, o, z, h1, h2, h3⟩ => hA.fr.mb k ⟨r, o, z, hos r o h1, h2, h3⟩, hA.fr.xs, hA.fr.xk⟩⟩
  obtain ⟨o', h1, h2, h3⟩ := hA.ext.ob r o ho
  have := hk r (by rw [ho]; rfl)
  cases hl : look r os with
  | none => rw [hl] at this; cases this
  | some o2 =>
    have h4 := hos r o2 hl
    rw [h1] at h4
    cases h4
    exact ⟨o', hl, h2, h3⟩
theorem rest_refs {E : En} {os : List (Nat × AO)} (hos : ∀ r o, look r os = some o → E.hp r = some o) {x : AV} {v : Value} (h : refsB os x.refs = true) (hr : Rel E x v) : Rel (restE E os) x v :=
  rel_refs (E := E) (E' := restE E os) rfl rfl x v (rest_rel hos h) hr
theorem tells_gc {ks : List Nat} {s : SL} (hk : ∀ r, (hp0 r).isSome = true → r ∈ ks) (h : gcOk ks (gcS ks s) = true) : Tells GL N hp0 s.S (gcS ks s).S := fun E0 w0 E a w he hS hA => by
  unfold gcOk at h
  simp only [Bool.and_eq_true] at h
  obtain ⟨h1, h2, h3⟩ := h
  have hos : ∀ r o, look r (gcS ks s).hp = some o → E.hp r = some o := fun r o ho => by
    rw [hS.hp]
    exact pickO_look (rd := s.rd) (by rw [← rdQ_eq]; exact ho)
  refine ⟨restE E (gcS ks s).hp, ⟨hS.h, rfl, rest_sim hos (fun r o ho => List.all_eq_true.1 h1 _ (look_mem ho)) hS.sim, hS.n, hS.df, fun t => ?_⟩, along_rest hA hos fun r hr => ?_⟩
  · show Rel _ (match look t (gcS ks s).tm with | some x => x | none => .junk) _
    cases hl : look t (gcS ks s).tm with
    | none => simp only; rw [Rel]; trivial
    | some x =>
      have h5 := dedup_look (l := s.tm) (m := 0) hl
      have h6 := hS.tm t
      have h7 : s.S.tm t = x := by show (match look t s.tm with | some x => x | none => .junk) = x; rw [h5]
      rw [h7] at h6
      exact rest_refs hos (List.all_eq_true.1 h2 _ (look_mem hl)) h6
  · rw [he] at hr
    exact List.all_eq_true.1 h3 r (hk r hr)
/-- **A region**, its run known. -/
theorem aw_ran (hq : QOk P q) (hdp : 30 ≤ P.depth) (hm : P.follows .mixedOrders = true) {id base : Nat} {ops : Array Oper} {draw : Bool} {s s' : SL} (hback : draw = true → backB ops = true) {L : List (Nat × Ef)} (g1 : L.map (·.1) = List.range ops.size) (g2 : Run P GL q N base ops L s.S s'.S)
    (g5 : draw = true → L.Pairwise (fun x y => x.1 ∈ (ancT ops ops.size).getD y.1 [] ∨ ∃ ox oy, ops[x.1]? = some ox ∧ ops[y.1]? = some oy ∧ ox.apart ops oy = true ∧ ncB x.2 y.2 = true)) : AW P GL N hp0 (.region id ops draw) (fun e1 s1 => e1 = .normal ∧ s1 = s'.S) s.S := fun E0 w0 E a w h0 hS hA => by
  have hQ : ∀ E' a' w', Sim GL N E' a' w' s'.S → Along E0 w0 E' w' → (fun (x : Exit) (a' : Act) (w' : World) => ∃ s1 E', (x = .normal ∧ s1 = s'.S) ∧ Sim GL N E' a' w' s1 ∧ Along E0 w0 E' w') .normal a' w' := fun E' a' w' h1 h2 => ⟨s'.S, E', ⟨rfl, rfl⟩, h1, h2⟩
  cases draw with
  | false =>
    refine wp_region ?_
    rw [← g1]
    exact run_wp (P := P) (Q := fun (x : Exit) (a' : Act) (w' : World) => ∃ s1 E', (x = .normal ∧ s1 = s'.S) ∧ Sim GL N E' a' w' s1 ∧ Along E0 w0 E' w') hq hdp hQ L E a w s.S g2 hS hA
  | true =>
    refine wp_region_any hm ?_
    have hlen : L.length = ops.size := by
      have := congrArg List.length g1
      simpa using this
    have := any_wp (P := P) (Q := fun (x : Exit) (a' : Act) (w' : World) => ∃ s1 E', (x = .normal ∧ s1 = s'.S) ∧ Sim GL N E' a' w' s1 ∧ Along E0 w0 E' w') hq hdp (hback rfl) hQ ops.size L (Array.replicate ops.size false) E a { w with drawn := w.drawn + 1 } s.S hlen
      (fun j hj => by
        exfalso
        rw [Array.getD_eq_getD_getElem?] at hj
        rcases Nat.lt_or_ge j ops.size with hlt | hge
        · rw [Array.getElem?_replicate, if_pos hlt] at hj; simp at hj
        · rw [Array.getElem?_replicate, if_neg (by omega)] at hj; simp at hj)
      (fun i => by
        rw [g1, List.mem_range]
        constructor
        · exact fun h => h.2
        · intro hi
          refine ⟨?_, hi⟩
          rw [Array.getD_eq_getD_getElem?, Array.getElem?_replicate, if_pos hi]
          rfl)
      (by rw [g1]; exact List.pairwise_lt_range) (g5 rfl) g2 hS.drew hA.drew
    exact this
end
abbrev CallK := FuncId → List AV → SL → Nat → (AV → List (Nat × AO) → List Nat → Nat → Prop) → Prop
section
variable (p : Pr) (call : CallK) (T : Ty) (GL : Nat → Option (List DV)) (q : Nat → Bool) (N base : Nat) (ops : Array Oper) (draw : Bool) (anc : List (List Nat))
def xops (K : SL → Nat → Prop) : List (Nat × Oper) → SL → List (Nat × Ef) → Nat → Prop
  | [], s, _, F => K s F
  | (i, o) :: is, s, log, F => match dstQ N o.dst with
  | false => False
  | true => match wantedL ops s o with
    | none => False
    | some b => match b with
      | true => match callA (evQ GL s) o with
        | some (f, args) => call f args s F (fun v us rds F' => match !draw || ncAll ops (anc.getD i []) o ⟨v, us, rds, [], chgs (rdQ s) us⟩ log with
          | true => xops K is (s.app o.dst v us) ((i, ⟨v, us, rds, [], chgs (rdQ s) us⟩) :: log) F'
          | false => False)
        | none => match effP p T q (rdQ s) (base + i) o (evQ GL s) with
          | some f => match !draw || ncAll ops (anc.getD i []) o ⟨f.v, f.upd, f.rds, f.lvs, chgs (rdQ s) f.upd⟩ log with
            | true => xops K is (s.app o.dst f.v f.upd) ((i, ⟨f.v, f.upd, f.rds, f.lvs, chgs (rdQ s) f.upd⟩) :: log) F
            | false => False
          | none => False
      | false => match !draw || ncAll ops (anc.getD i []) o skipEf log with
        | true => xops K is (s.put o.dst .undef) ((i, skipEf) :: log) F
        | false => False
end
def endB : Exit → Bool
  | .normal => true
  | .ret => true
  | _ => false
abbrev RecK := Nat → List Nat → Code → (Exit → SL → Nat → Prop) → SL → Nat → Prop
def callOk (fn : Func) (args : List AV) (os : List (Nat × AO)) : Bool := decide (args.length ≤ fn.ntmps) && (closedB os && refsB os (AV.refs.refsL args))
def backOk (s : SL) (os us : List (Nat × AO)) (x : AV) : Bool := closedB us && (refsB us x.refs && ((os.all fun y => (look y.1 us).isSome) && us.all fun y => (rdQ s y.1).isNone || (look y.1 os).isSome))
def xend (T : Ty) (fn : Func) (s : SL) (os : List (Nat × AO)) (K : AV → List (Nat × AO) → List Nat → Nat → Prop) (e : Exit) (s' : SL) (F : Nat) : Prop :=
  match endB e with
  | false => False
  | true => match resA T fn s' with
    | none => False
    | some x => (fun us => match backOk s os us x with
      | false => False
      | true => K x us (us.map (·.1)) F) (pickO (rdQ s') (reach (rdQ s') 1000 (x.refs ++ os.map (·.1)) []))
abbrev ConK := FuncId → List AV → (Nat → Option AO) → Option (AV × List (Nat × AO) × List Nat)
abbrev DoK := FuncId → List AV → List Nat → AV → List (Nat × AO) → (Nat → Option AO) → Prop
def xcall (D : DoK) (con : ConK) (tab : FuncId → Option Func) (T : Ty) (rec : RecK) : CallK := fun f args s F K =>
  match con f args (rdQ s) with
  | some (v, us, rds) => K v us rds F
  | none => match tab f with
    | none => ∃ v us rds, D f args rds v us s.rd ∧ K v us rds F
    | some fn => match fn.body with
      | none => False
      | some c => (fun os => match callOk fn args os with
        | false => False
        | true => rec fn.ntmps (os.map (·.1)) c (fun e s' F' => xend T fn s os K e s' F') ⟨fn.ntmps, argTm 0 args, os⟩ F) (pickO (rdQ s) (reach (rdQ s) 1000 (AV.refs.refsL args) []))
section
variable (p : Pr) (D : DoK) (con : ConK) (tab : FuncId → Option Func) (T : Ty) (GL : Nat → Option (List DV)) (q : Nat → Bool)
/-- Code, run. -/
def xcode : Nat → Nat → List Nat → Code → (Exit → SL → Nat → Prop) → SL → Nat → Prop
  | 0, _, _, _, _, _, _ => False
  | n + 1, N, ks, c, Q, s, F => match c with
    | .skip => Q .normal s F
    | .label _ => Q .normal s F
    | .exit id => Q (.exit id) s F
    | .ret => Q .ret s F
    | .region _ ops draw => match !draw || backB ops with
      | true => xops p (xcall D con tab T (xcode n)) T GL q N F ops draw (if draw then ancT ops ops.size else []) (fun s' F' => Q .normal s' F') (zipI 0 ops.toList) s [] (F + ops.size)
      | false => False
    | .seq a b => xcode n N ks a (fun e s' F' => match e with
      | .normal => xcode n N ks b Q s' F'
      | e => Q e s' F') s F
    | .cond x a b => match evQ GL s x with
      | .d (.val (.bool t)) => match t with
        | true => xcode n N ks a Q s F
        | false => xcode n N ks b Q s F
      | _ => False
    | .block id a => xcode n N ks a (fun e s' F' => blkQ id (fun e s' => Q e s' F') e s') s F
    | .scope a => xcode n N ks a (fun e s' F' => scpQ (fun e s' => Q e s' F') e s') s F
    | .loop a => xcode n N ks a (fun e s' F' => match e with
      | .normal => match Nat.beq (F' / 256) (F / 256) with
        | true => xcode n N ks (.loop a) Q s' F'
        | false => match gcOk ks (gcS ks s') with
          | true => xcode n N ks (.loop a) Q (gcS ks s') F'
          | false => False
      | e => Q e s' F') s F
    | _ => False
end
end Go.Proofs.Ytmkbnmjhkghdjaa
