import Derived.Test.YtkhdpjlpahammaaXAp
import Derived.Test.YtkhdpjlpahammaaHBp
namespace Go.Proofs.Ytkhdpjlpahammaa
open Go.RowKit
structure GT where
  t : U
  l : List t.T
def gTab (_ : Nat) : Option GT := none
end Go.Proofs.Ytkhdpjlpahammaa
set_option linter.unusedVariables false
set_option linter.unusedSimpArgs false
namespace Go.Proofs.Ytkhdpjlpahammaa
open Go.RowKit
inductive LoopR {υ β : Type} (body : υ → Option (υ ⊕ β)) : υ → β → Prop where
  | done {x b} (h : body x = some (.inr b)) : LoopR body x b
  | step {x y b} (h : body x = some (.inl y)) (k : LoopR body y b) : LoopR body x b
theorem LoopR.det {υ β : Type} {body : υ → Option (υ ⊕ β)} {x : υ} {b c : β} (h : LoopR body x b) : LoopR body x c → b = c := by
  induction h with
  | done h =>
    intro k
    cases k with
    | done h' => rw [h] at h'; cases h'; rfl
    | step h' _ => rw [h] at h'; cases h'
  | step h _ ih =>
    intro k
    cases k with
    | done h' => rw [h] at h'; cases h'
    | step h' k' => rw [h] at h'; cases h'; exact ih k'
open Classical in

noncomputable def loopO {υ β : Type} (body : υ → Option (υ ⊕ β)) (x : υ) : Option β :=
  if h : ∃ b, LoopR body x b then some (Classical.choose h) else none
theorem loopO_iff {υ β : Type} {body : υ → Option (υ ⊕ β)} {x : υ} {b : β} : loopO body x = some b ↔ LoopR body x b := by
  unfold loopO
  constructor
  · intro h
    split at h
    · rename_i hx; cases h; exact Classical.choose_spec hx
    · cases h
  · intro h
    rw [dif_pos ⟨b, h⟩]
    exact congrArg some ((Classical.choose_spec (⟨b, h⟩ : ∃ b, LoopR body x b)).det h)
theorem loopO_eq {υ β : Type} (body : υ → Option (υ ⊕ β)) (x : υ) : loopO body x = match body x with
    | some (.inl y) => loopO body y
    | some (.inr b) => some b
    | none => none := by
  cases h : body x with
  | none =>
    unfold loopO
    rw [dif_neg]
    rintro ⟨b, k⟩
    cases k with
    | done h' => rw [h] at h'; cases h'
    | step h' _ => rw [h] at h'; cases h'
  | some r =>
    cases r with
    | inr b => exact loopO_iff.2 (.done h)
    | inl y =>
      simp only
      cases hy : loopO body y with
      | some b => exact loopO_iff.2 (.step h (loopO_iff.1 hy))
      | none =>
        unfold loopO
        rw [dif_neg]
        rintro ⟨b, k⟩
        cases k with
        | done h' => rw [h] at h'; cases h'
        | step h' k' => rw [h] at h'; cases h'; rw [loopO_iff.2 k'] at hy; cases hy
inductive VI where
  | u (u : U) | own (r e : Nat) (u : U) | nil | np | pt (r off : Nat) | cl (f : Nat) (caps : List (Nat × Nat)) | agg (l : List VI) | junk
inductive OI where
  | mix (l : List VI) | row (e : Nat) (u : U) (wr : Bool) | arr (u : U) | mp | dead
structure NI where
  p : Nat
  kind : Nat
  tms : List (Nat × VI)
  hps : List (Nat × OI)
  tm0 : List (Nat × VI)
  hp0 : List (Nat × OI)
inductive TR : Type → Type → Type 1 where
  | ret {β σ : Type} (f : σ → β) : TR β σ
  | fail {β σ : Type} (msg : String) : TR β σ
  | bad {β σ : Type} (is : List Nat) (msg : String) : TR β σ
  | note {β σ : Type} (n : NI) : TR β σ
  | req {β σ : Type} (c : List (σ → Bool)) (r : TR β σ) : TR β σ
  | bnd {β σ α : Type} (f : σ → Option α) (r : TR β (σ × α)) : TR β σ
  | iff {β σ : Type} (c : σ → Bool) (t e : TR β σ) : TR β σ
  | join {β σ υ : Type} (a : TR (υ ⊕ β) σ) (b : TR β (σ × υ)) : TR β σ
  | loop {β σ υ : Type} (x0 : σ → υ) (body : TR (υ ⊕ β) (σ × υ)) : TR β σ
  | out {β σ υ : Type} (t : TR β σ) : TR (υ ⊕ β) σ
def allB {σ : Type} (s : σ) : List (σ → Bool) → Bool
  | [] => true
  | [c] => c s
  | c :: cs => c s && allB s cs
theorem allB_iff {σ : Type} (s : σ) : ∀ cs : List (σ → Bool), allB s cs = true ↔ allT s cs
  | [] => by simp [allB, allT]
  | [c] => by simp [allB, allT]
  | c :: d :: cs => by
    rw [allB, allT, Bool.and_eq_true, allB_iff s (d :: cs)]
    intro h; cases h
noncomputable def TR.run : {β σ : Type} → TR β σ → σ → Option β
  | _, _, .ret f, s => some (f s)
  | _, _, .fail _, _ => none
  | _, _, .bad _ _, _ => none
  | _, _, .note _, _ => none
  | _, _, .req c r, s => bif allB s c then r.run s else none
  | _, _, .bnd f r, s => match f s with | some a => r.run (s, a) | none => none
  | _, _, .iff c t e, s => bif c s then t.run s else e.run s
  | _, _, .join a b, s => match a.run s with
    | some (.inl u) => b.run (s, u)
    | some (.inr x) => some x
    | none => none
  | _, _, .loop x0 body, s => loopO (fun u => body.run (s, u)) (x0 s)
  | _, _, .out t, s => match t.run s with | some b => some (.inr b) | none => none
def reqT {β σ : Type} (cs : List (σ → Bool)) (t : TR β σ) : TR β σ := match cs with | [] => t | cs => .req cs t
theorem run_req {β σ : Type} {cs : List (σ → Bool)} {t : TR β σ} {s : σ} {b : β} (h : (reqT cs t).run s = some b) : allT s cs ∧ t.run s = some b := by
  unfold reqT at h
  split at h
  · exact ⟨trivial, h⟩
  · rw [TR.run] at h
    cases hc : allB s cs with
    | true => rw [hc] at h; exact ⟨(allB_iff s cs).1 hc, h⟩
    | false => rw [hc] at h; cases h
def HR.thn {β : Type} : {σ : Type} → HR σ → (SV σ → List (Nat × SO σ) → TR β σ) → ((τ : Type) → (τ → σ) → SV τ → List (Nat × SO τ) → TR β τ) → TR β σ
  | _, .ok v us, K0, _ => K0 v us
  | _, .req c r, K0, K => reqT c (r.thn K0 K)
  | _, .bnd f r, _, K => .bnd f (r.thn (fun v us => K _ Prod.fst v us) (fun τ g v us => K τ (fun t => (g t).1) v us))
  | _, .fail m, _, _ => .fail m
  | _, .iff c t e, K0, K => .iff c (t.thn K0 K) (e.thn K0 K)
theorem HR.thn_c {β : Type} {b : β} : {σ : Type} → (h : HR σ) → {s : σ} → {x : Option (AV × List (Nat × AO))} → {K0 : SV σ → List (Nat × SO σ) → TR β σ} → {K : (τ : Type) → (τ → σ) → SV τ → List (Nat × SO τ) → TR β τ} →
    (h.thn K0 K).run s = some b → h.Ok s x →
    (∃ v us, x = some (v.c s, cO s us) ∧ (K0 v us).run s = some b) ∨ ∃ (τ : Type) (g : τ → σ) (s' : τ) (v : SV τ) (us : List (Nat × SO τ)), g s' = s ∧ x = some (v.c s', cO s' us) ∧ (K τ g v us).run s' = some b
  | _, .ok v us, s, x, K0, K, hr, ho => .inl ⟨v, us, ho, hr⟩
  | _, .req c r, s, x, K0, K, hr, ho => by
    rw [HR.thn] at hr
    obtain ⟨h1, h2⟩ := run_req hr
    exact HR.thn_c r h2 (ho h1)
  | _, .bnd f r, s, x, K0, K, hr, ho => by
    rw [HR.thn, TR.run] at hr
    cases hf : f s with
    | none => rw [hf] at hr; cases hr
    | some a =>
      rw [hf] at hr
      rcases HR.thn_c r hr (ho a hf) with ⟨v, us, h1, h2⟩ | ⟨τ, g, s', v, us, h1, h2, h3⟩
      · exact .inr ⟨_, Prod.fst, (s, a), v, us, rfl, h1, h2⟩
      · exact .inr ⟨τ, fun t => (g t).1, s', v, us, by show (g s').1 = s; rw [h1], h2, h3⟩
  | _, .fail m, s, x, K0, K, hr, ho => by rw [HR.thn, TR.run] at hr; cases hr
  | _, .iff c t e, s, x, K0, K, hr, ho => by
    rw [HR.thn, TR.run] at hr
    rw [HR.Ok] at ho
    cases hc : c s with
    | true => rw [hc] at hr ho; exact HR.thn_c t hr ho
    | false => rw [hc] at hr ho; exact HR.thn_c e hr ho
section
variable {σ : Type}
def constS (v : Value) : SV σ :=
  match v with
  | .agg cs => match cs.toList.all (·.oneCell') with | true => .agg (cs.toList.map .val) | false => .junk
  | .tuple cs => match cs.isEmpty with | true => .undef | false => .junk
  | v => .val v
theorem cL_vals (s : σ) : ∀ l : List Value, cL s (l.map .val) = l.map fun c => AV.d (.val c)
  | [] => rfl
  | x :: l => by rw [List.map_cons, cL, cL_vals s l, SV.c]; rfl
theorem constS_c (s : σ) (v : Value) : (constS v : SV σ).c s = constA v := by
  unfold constS constA
  split
  · rename_i cs
    show _ = (if (cs.toList.all fun x => x.oneCell') = true then AV.agg (cs.toList.map fun c => .d (.val c)) else .junk)
    cases h : (cs.toList.all fun x => x.oneCell') with
    | true => rw [if_pos rfl, SV.c, cL_vals]
    | false => rw [if_neg (by simp), SV.c]
  · rename_i cs
    show _ = (if cs.isEmpty = true then AV.undef else .junk)
    cases h : cs.isEmpty with
    | true => rw [if_pos rfl, SV.c]
    | false => rw [if_neg (by simp), SV.c]
  · rename_i h1 h2
    rw [SV.c]
    cases v <;> first | rfl | exact (h1 _ rfl).elim | exact (h2 _ rfl).elim
def evS (d : SS σ) : Operand → SV σ
  | .tmp t => match lookQ t d.tm with | some x => x | none => .junk
  | .const v => constS v
  | .global g => match gTab g with | some x => .dpt x.t (fun _ => x.l) (fun _ => 0) 0 | none => .junk
  | .func f => match Nat.blt f 1048576 with | true => .clo f [] | false => .junk
def noG (g : Nat) : Option (List DV) := (gTab g).map fun x => encL x.t x.l
theorem evS_c (s : σ) (N : Nat) (d : SS σ) (x : Operand) : (evS d x).c s = (d.c s N).ev noG x := by
  cases x with
  | tmp t =>
    show _ = (d.c s N).get t
    unfold evS SL.get SS.c
    simp only [look_cT]
    rw [lookQ_eq]
    cases look t d.tm with
    | none => simp only [Option.map_none]; rw [SV.c]
    | some x => rfl
  | const v => exact constS_c s v
  | global g =>
    show (match gTab g with | some x => SV.dpt x.t (fun _ => x.l) (fun _ => 0) 0 | none => .junk : SV σ).c s = (match (gTab g).map fun x => encL x.t x.l with | some cells => AV.dptr cells 0 | none => .junk)
    cases gTab g with
    | none => rw [SV.c]; rfl
    | some x => rw [SV.c, Nat.zero_mul]; rfl
  | func f =>
    show (match Nat.blt f 1048576 with | true => SV.clo f [] | false => .junk : SV σ).c s = (match Nat.blt f 1048576 with | true => AV.clo f [] | false => .junk)
    cases Nat.blt f 1048576 with
    | true => rw [SV.c, cL]
    | false => rw [SV.c]
def rdS (d : SS σ) (r : Nat) : Option (SO σ) := lookQ r d.hp
theorem rdS_c (s : σ) (N : Nat) (d : SS σ) : rdc s (rdS d) = (d.c s N).rd := by
  funext r
  unfold rdc rdS SL.rd SS.c
  rw [lookQ_eq]
  simp only [look_cO]
def putS (d : SS σ) (o : Option Nat) (v : SV σ) : SS σ := match o with | some t => ⟨(t, v) :: d.tm, d.hp⟩ | none => d
def appD (d : SS σ) (o : Option Nat) (v : SV σ) (us : List (Nat × SO σ)) : SS σ := ⟨(putS d o v).tm, us ++ d.hp⟩
theorem putS_c (s : σ) (N : Nat) (d : SS σ) (o : Option Nat) (v : SV σ) : (putS d o v).c s N = (d.c s N).put o (v.c s) := by
  cases o <;> rfl
theorem appD_c (s : σ) (N : Nat) (d : SS σ) (o : Option Nat) (v : SV σ) (us : List (Nat × SO σ)) : (appD d o v us).c s N = (d.c s N).app o (v.c s) (cO s us) := by
  unfold appD SL.app
  rw [← putS_c]
  unfold SS.c
  simp only [cO_append]
structure EN where
  ks : List Nat
  rds : List Nat
  lvs : List Nat
  chg : List Nat
def enOf (e : Ef) : EN := ⟨keysE e, e.rds, e.lvs, e.chg⟩
def memB (r : Nat) : List Nat → Bool
  | [] => false
  | x :: l => match decide (r = x) with | true => true | false => memB r l
theorem memB_eq (r : Nat) : ∀ l : List Nat, memB r l = l.contains r
  | [] => rfl
  | x :: l => by
    rw [memB, List.contains_cons, memB_eq r l]
    by_cases h : r = x
    · subst h; simp
    · rw [decide_eq_false h]; simp [h]
def noneIn (a b : List Nat) : Bool := a.all fun r => !memB r b
def ncN (x y : EN) : Bool := (noneIn x.ks y.rds && noneIn x.ks y.ks) && (noneIn x.chg y.lvs && (noneIn y.ks x.rds && noneIn y.chg x.lvs))
theorem all_and {α : Type} (p q : α → Bool) : ∀ l : List α, l.all (fun r => p r && q r) = (l.all p && l.all q)
  | [] => rfl
  | x :: l => by rw [List.all_cons, List.all_cons, List.all_cons, all_and p q l]; cases p x <;> cases q x <;> cases l.all p <;> rfl
theorem ncN_eq (x y : Ef) : ncN (enOf x) (enOf y) = ncB x y := by
  unfold ncN ncB noneIn enOf
  simp only [memB_eq, all_and, Bool.and_assoc]
def ncAllS (ops : Array Oper) (anc : List Nat) (o : Oper) (e : EN) (log : List (Nat × EN)) : Bool :=
  log.all fun x => memB x.1 anc || match ops[x.1]? with | some oj => oj.apart ops o && ncN x.2 e | none => false
theorem ncAllS_c (ops : Array Oper) (anc : List Nat) (o : Oper) (e : Ef) (log : List (Nat × Ef)) : ncAllS ops anc o (enOf e) (log.map fun x => (x.1, enOf x.2)) = ncAll ops anc o e log := by
  unfold ncAllS ncAll
  rw [List.all_map]
  congr 1
  funext x
  simp only [Function.comp, memB_eq]
  cases ops[x.1]? with
  | none => rfl
  | some oj => simp only [ncN_eq]
def namesO : List (Nat × SO σ) → List Nat
  | [] => []
  | (r, _) :: l => r :: namesO l
theorem namesO_c (s : σ) : ∀ us : List (Nat × SO σ), (cO s us).map (·.1) = namesO us
  | [] => rfl
  | (r, o) :: l => by rw [cO, List.map_cons, namesO, namesO_c s l]
def sameKS (x : Option (SO σ)) (o : SO σ) : Bool :=
  match x with
  | none => false
  | some x => match x.kind, o.kind with
    | .data a, .data b => decide (a = b)
    | .mix, .mix => true
    | .mp, .mp => true
    | .dead, .dead => true
    | _, _ => false
theorem sameKS_c (s : σ) (x : Option (SO σ)) (o : SO σ) : sameK (x.map (·.c s)) (o.c s) = sameKS x o := by
  unfold sameK sameKS
  cases x with
  | none => rfl
  | some x =>
    simp only [Option.map_some]
    cases x <;> cases o <;> simp [SO.c, SO.kind] <;> rfl
def chgsS (rd : Nat → Option (SO σ)) : List (Nat × SO σ) → List Nat
  | [] => []
  | (r, o) :: l => match sameKS (rd r) o with | true => chgsS rd l | false => r :: chgsS rd l
theorem chgsS_c (s : σ) (rd : Nat → Option (SO σ)) : ∀ us : List (Nat × SO σ), chgs (rdc s rd) (cO s us) = chgsS rd us
  | [] => rfl
  | (r, o) :: l => by
    have ih := chgsS_c s rd l
    unfold chgs at ih ⊢
    rw [cO, List.filter_cons, chgsS]
    simp only
    rw [show sameK (rdc s rd r) (o.c s) = sameKS (rd r) o from sameKS_c s (rd r) o]
    cases h : sameKS (rd r) o with
    | true => simpa using ih
    | false => simp [ih]
end
end Go.Proofs.Ytkhdpjlpahammaa
set_option linter.unusedVariables false
set_option linter.unusedSimpArgs false
namespace Go.Proofs.Ytkhdpjlpahammaa
open Go.RowKit
inductive WG (σ : Type) : Type where
  | yes | no | dyn (t : Nat) (f : σ → Bool) (want : Bool) | bad
section
variable {σ : Type}
def wantS (ops : Array Oper) (d : SS σ) (o : Oper) : WG σ :=
  match o.guard with
  | none => .yes
  | some (j, want) => match ops[j]? with
    | none => .no
    | some oj => match oj.dst with
      | none => .no
      | some t => match lookQ t d.tm with
        | some (.val (.bool b)) => match b, want with
          | true, true => .yes
          | false, false => .yes
          | _, _ => .no
        | some (.bool f) => .dyn t f want
        | some .undef => .no
        | _ => .bad
def WG.Ok (s : σ) (N : Nat) (d : SS σ) (x : Option Bool) : WG σ → Prop
  | .yes => x = some true
  | .no => x = some false
  | .dyn t f want => x = some (f s == want) ∧ (d.c s N).get t = aBool (f s)
  | .bad => True
def refT (d : SS σ) (t : Nat) (b : Bool) : SS σ := ⟨(t, .val (.bool b)) :: d.tm, d.hp⟩
theorem refT_S {s : σ} {N : Nat} {d : SS σ} {t : Nat} {b : Bool} (h : (d.c s N).get t = aBool b) : ((refT d t b).c s N).S = (d.c s N).S := by
  unfold SL.S
  have : ((refT d t b).c s N).get = (d.c s N).get := by
    funext k
    unfold SL.get
    show (match look k ((t, (SV.val (.bool b) : SV σ).c s) :: cT s d.tm) with | some x => x | none => AV.junk) = _
    rw [look]
    by_cases hk : t = k
    · subst hk
      rw [if_pos rfl, SV.c]
      exact h.symm
    · rw [if_neg hk]; rfl
  rw [this]
  rfl
theorem wantS_c (s : σ) (N : Nat) (ops : Array Oper) (d : SS σ) (o : Oper) : (wantS ops d o).Ok s N d (wantedL ops (d.c s N) o) := by
  unfold wantS wantedL
  cases o.guard with
  | none => rfl
  | some p =>
    obtain ⟨j, want⟩ := p
    simp only
    cases ops[j]? with
    | none => rfl
    | some oj =>
      simp only [Option.bind_some]
      cases oj.dst with
      | none => rfl
      | some t =>
        simp only
        have he : (d.c s N).get t = match lookQ t d.tm with | some v => v.c s | none => .junk := by
          unfold SL.get SS.c
          simp only [look_cT]
          rw [lookQ_eq]
          cases look t d.tm <;> rfl
        rw [he]
        cases hlq : lookQ t d.tm with
        | none => trivial
        | some v =>
          cases v with
          | val v => cases v with
            | bool b => simp only [SV.c]; cases b <;> cases want <;> rfl
            | _ => trivial
          | bool f =>
            refine ⟨?_, ?_⟩
            · simp only [SV.c, aBool]
            · rw [he, hlq]; simp only [SV.c]
          | undef => simp only [SV.c]; rfl
          | _ => trivial
def callS (ρ : Operand → SV σ) (o : Oper) : Option (Nat × List (SV σ)) :=
  match o.op with
  | .call c => match c.callee with
    | .value x => match ρ x with
      | .clo f caps => some (f % 1048576, caps.take (f / 1048576) ++ (c.args.toList.map ρ ++ caps.drop (f / 1048576)))
      | _ => none
    | _ => none
  | _ => none
def noCall (o : Oper) : Bool :=
  match o.op with
  | .call c => match c.callee with
    | .value _ => false
    | _ => true
  | _ => true
theorem callS_c (s : σ) (ρ : Operand → SV σ) (o : Oper) {f : Nat} {args : List (SV σ)} (h : callS ρ o = some (f, args)) : callA (fun x => (ρ x).c s) o = some (f, cL s args) := by
  unfold callS at h
  unfold callA
  split at h
  · rename_i c hc
    rw [hc]
    simp only
    split at h
    · rename_i x hx
      rw [hx]
      simp only
      split at h
      · rename_i g caps hv
        cases h
        rw [hv, SV.c]
        simp only
        rw [cL_append, cL_append, cL_take, cL_drop, list_map_c]
      · cases h
    · cases h
  · cases h
theorem noCall_c (ρ : Operand → AV) (o : Oper) (h : noCall o = true) : callA ρ o = none := by
  unfold noCall at h
  unfold callA
  split at h
  · rename_i c hc
    rw [hc]
    simp only
    split at h
    · cases h
    · rename_i hx
      split
      · rename_i x hx'; exact (hx x hx').elim
      · rfl
  · rename_i hc
    split
    · rename_i c hc'; exact (hc c hc').elim
    · rfl
def onlyH (T : Ty) (o : Oper) : Bool :=
  match o.op with
  | .alloc _ => true
  | .box _ _ => true
  | .buildSlice _ _ _ => true
  | .load _ _ => true
  | .store _ _ _ => true
  | .makeSlice _ _ _ => true
  | .makeMap _ _ => true
  | .lookup _ _ _ _ => true
  | .mapUpdate _ _ _ _ => true
  | .convert src dst _ => match T src, T dst with
    | some si, some di => match si.k, di.k with | .slice _, .str => true | _, _ => false
    | _, _ => false
  | .call c => match c.callee with | .builtin .append => true | .builtin .copy => true | _ => false
  | _ => false
theorem onlyH_q (T : Ty) (q : Nat → Bool) (lk : Nat → Option AK) (o : Oper) (ρ : Operand → AV) (h : onlyH T o = true) : effQ T q lk o ρ = none := by
  unfold onlyH at h
  unfold effQ
  cases ho : o.op with
  | convert src dst x =>
    rw [ho] at h
    simp only at h ⊢
    split at h
    · rename_i si di h1 h2
      split at h
      · rename_i h3 h4; simp only [h1, h2, h3, h4]
      · cases h
    · cases h
  | call c =>
    rw [ho] at h
    simp only at h ⊢
    split at h
    · rename_i hc; simp only [hc]; split <;> rfl
    · rename_i hc; simp only [hc]; split <;> rfl
    · cases h
  | alloc t => rfl
  | box t x => rfl
  | buildSlice t n parts => rfl
  | load t x => rfl
  | store t x y => rfl
  | makeSlice t l c => rfl
  | makeMap t r => rfl
  | lookup t x y ok => rfl
  | mapUpdate t x y z => rfl
  | _ => first | (rw [ho] at h; cases h; done) | (exact absurd h (by rw [ho]; simp)) | (rw [ho] at h; simp at h)
def restS (rs : List Nat) (rd : Nat → Option (SO σ)) : Nat → Option (SO σ) := fun r => match memB r rs with | true => rd r | false => none
theorem restS_c (s : σ) (rs : List Nat) (rd : Nat → Option (SO σ)) : rdc s (restS rs rd) = restrict rs (rdc s rd) := by
  funext r
  unfold rdc restS restrict
  rw [memB_eq]
  cases rs.contains r <;> rfl
def opRefs (o : Oper) (ρ : Operand → SV σ) : List Nat := o.op.operands.toList.flatMap fun x => (ρ x).refs
theorem opRefs_c (s : σ) (o : Oper) (ρ : Operand → SV σ) : (o.op.operands.toList.flatMap fun x => ((ρ x).c s).refs) = opRefs o ρ := by
  unfold opRefs
  congr 1
  funext x
  exact refs_c s _
end
structure Grow {σ τ : Type} (d : SS σ) (g : τ → σ) (d' : SS τ) : Prop where
  tm : ∃ l, d'.tm = l ++ mapT g d.tm
  hp : ∃ l, d'.hp = l ++ mapO g d.hp
section
variable {σ τ υ : Type}
mutual
theorem map_map (g : τ → σ) (h : υ → τ) : ∀ v : SV σ, (v.map g).map h = v.map fun t => g (h t)
  | .val v => by rw [SV.map, SV.map, SV.map]
  | .int k f => by rw [SV.map, SV.map, SV.map]
  | .bool f => by rw [SV.map, SV.map, SV.map]
  | .str f => by rw [SV.map, SV.map, SV.map]
  | .lst t f => by rw [SV.map, SV.map, SV.map]
  | .ptr r off => by rw [SV.map, SV.map, SV.map]
  | .ptx r z j off => by rw [SV.map, SV.map, SV.map]
  | .sl r z o n cap => by rw [SV.map, SV.map, SV.map]; cases o <;> cases cap <;> rfl
  | .dpt t f j off => by rw [SV.map, SV.map, SV.map]
  | .agg cs => by rw [SV.map, SV.map, SV.map, mapL_mapL g h cs]
  | .tup cs => by rw [SV.map, SV.map, SV.map, mapL_mapL g h cs]
  | .clo f cs => by rw [SV.map, SV.map, SV.map, mapL_mapL g h cs]
  | .undef => by rw [SV.map, SV.map, SV.map]
  | .junk => by rw [SV.map, SV.map, SV.map]
theorem mapL_mapL (g : τ → σ) (h : υ → τ) : ∀ l : List (SV σ), mapL h (mapL g l) = mapL (fun t => g (h t)) l
  | [] => by rw [mapL, mapL, mapL]
  | x :: l => by rw [mapL, mapL, mapL, map_map g h x, mapL_mapL g h l]
end
theorem mapO_mapO (g : τ → σ) (h : υ → τ) (o : SO σ) : (o.map g).map h = o.map fun t => g (h t) := by
  cases o with
  | mix cs => show SO.mix _ = SO.mix _; rw [mapL_mapL]
  | _ => rfl
theorem mapT_mapT (g : τ → σ) (h : υ → τ) : ∀ l : List (Nat × SV σ), mapT h (mapT g l) = mapT (fun t => g (h t)) l
  | [] => rfl
  | (t, v) :: l => by rw [mapT, mapT, mapT, map_map, mapT_mapT g h l]
theorem mapH_mapH (g : τ → σ) (h : υ → τ) : ∀ l : List (Nat × SO σ), mapO h (mapO g l) = mapO (fun t => g (h t)) l
  | [] => rfl
  | (t, v) :: l => by rw [mapO, mapO, mapO, mapO_mapO, mapH_mapH g h l]
theorem mapT_append (g : τ → σ) : ∀ a b : List (Nat × SV σ), mapT g (a ++ b) = mapT g a ++ mapT g b
  | [], b => rfl
  | (t, v) :: a, b => by rw [List.cons_append, mapT, mapT, mapT_append g a b]; rfl
theorem mapH_append (g : τ → σ) : ∀ a b : List (Nat × SO σ), mapO g (a ++ b) = mapO g a ++ mapO g b
  | [], b => rfl
  | (t, v) :: a, b => by rw [List.cons_append, mapO, mapO, mapH_append g a b]; rfl
mutual
theorem map_id : ∀ v : SV σ, v.map (fun s => s) = v
  | .val v => by rw [SV.map]
  | .int k f => by rw [SV.map]
  | .bool f => by rw [SV.map]
  | .str f => by rw [SV.map]
  | .lst t f => by rw [SV.map]
  | .ptr r off => by rw [SV.map]
  | .ptx r z j off => by rw [SV.map]
  | .sl r z o n cap => by rw [SV.map]; cases o <;> cases cap <;> rfl
  | .dpt t f j off => by rw [SV.map]
  | .agg cs => by rw [SV.map, mapL_id cs]
  | .tup cs => by rw [SV.map, mapL_id cs]
  | .clo f cs => by rw [SV.map, mapL_id cs]
  | .undef => by rw [SV.map]
  | .junk => by rw [SV.map]
theorem mapL_id : ∀ l : List (SV σ), mapL (fun s => s) l = l
  | [] => by rw [mapL]
  | x :: l => by rw [mapL, map_id x, mapL_id l]
end
theorem mapO_id (o : SO σ) : o.map (fun s => s) = o := by
  cases o with
  | mix cs => show SO.mix _ = SO.mix _; rw [mapL_id]
  | _ => rfl
theorem mapT_id : ∀ l : List (Nat × SV σ), mapT (fun s => s) l = l
  | [] => rfl
  | (t, v) :: l => by rw [mapT, map_id, mapT_id l]
theorem mapH_id : ∀ l : List (Nat × SO σ), mapO (fun s => s) l = l
  | [] => rfl
  | (t, v) :: l => by rw [mapO, mapO_id, mapH_id l]
theorem Grow.refl (d : SS σ) : Grow d (fun s => s) d := ⟨⟨[], by rw [mapT_id]; rfl⟩, ⟨[], by rw [mapH_id]; rfl⟩⟩
theorem Grow.trans {d : SS σ} {g : τ → σ} {d' : SS τ} {h : υ → τ} {d'' : SS υ} (a : Grow d g d') (b : Grow d' h d'') : Grow d (fun t => g (h t)) d'' := by
  obtain ⟨⟨l1, h1⟩, ⟨l2, h2⟩⟩ := a
  obtain ⟨⟨l3, h3⟩, ⟨l4, h4⟩⟩ := b
  exact ⟨⟨l3 ++ mapT h l1, by rw [h3, h1, mapT_append, mapT_mapT, List.append_assoc]⟩, ⟨l4 ++ mapO h l2, by rw [h4, h2, mapH_append, mapH_mapH, List.append_assoc]⟩⟩
theorem Grow.app {d : SS σ} {g : τ → σ} {d' : SS τ} (a : Grow d g d') (o : Option Nat) (v : SV τ) (us : List (Nat × SO τ)) : Grow d g (appD d' o v us) := by
  obtain ⟨⟨l1, h1⟩, ⟨l2, h2⟩⟩ := a
  refine ⟨?_, ⟨us ++ l2, by show us ++ d'.hp = _; rw [h2, List.append_assoc]⟩⟩
  cases o with
  | none => exact ⟨l1, h1⟩
  | some t => exact ⟨(t, v) :: l1, by show (t, v) :: d'.tm = _; rw [h1]; rfl⟩
theorem Grow.put {d : SS σ} {g : τ → σ} {d' : SS τ} (a : Grow d g d') (o : Option Nat) (v : SV τ) : Grow d g (putS d' o v) := by
  obtain ⟨⟨l1, h1⟩, ⟨l2, h2⟩⟩ := a
  cases o with
  | none => exact ⟨⟨l1, h1⟩, ⟨l2, h2⟩⟩
  | some t => exact ⟨⟨(t, v) :: l1, by show (t, v) :: d'.tm = _; rw [h1]; rfl⟩, ⟨l2, h2⟩⟩
theorem Grow.map (d : SS σ) (g : τ → σ) : Grow d g (d.map g) := ⟨⟨[], rfl⟩, ⟨[], rfl⟩⟩
end
def namesIt (o : Oper) : Bool :=
  match o.op with
  | .binOp _ _ _ _ _ => true
  | .unOp _ _ _ => true
  | .convert _ _ _ => true
  | .slice _ _ _ _ _ => true
  | _ => false
def nameR {β σ : Type} (b : Bool) (v : SV σ) (K0 : SV σ → TR β σ) (K : (τ : Type) → (τ → σ) → SV τ → TR β τ) : TR β σ :=
  match b, v with
  | true, .int k f => .bnd (fun s => some (f s)) (K (σ × Int) Prod.fst (.int k Prod.snd))
  | true, .str f => .bnd (fun s => some (f s)) (K (σ × List UInt8) Prod.fst (.str Prod.snd))
  | true, .lst t f => .bnd (fun s => some (f s)) (K (σ × List t.T) Prod.fst (.lst t Prod.snd))
  | _, v => K0 v
theorem nameR_c {β σ : Type} {n : Bool} {v : SV σ} {K0 : SV σ → TR β σ} {K : (τ : Type) → (τ → σ) → SV τ → TR β τ} {s : σ} {b : β} (h : (nameR n v K0 K).run s = some b) :
    (K0 v).run s = some b ∨ ∃ (τ : Type) (g : τ → σ) (s' : τ) (v' : SV τ), g s' = s ∧ v'.c s' = v.c s ∧ (K τ g v').run s' = some b := by
  unfold nameR at h
  split at h
  · rw [TR.run] at h; exact .inr ⟨_, Prod.fst, _, _, rfl, by rw [SV.c, SV.c], h⟩
  · rw [TR.run] at h; exact .inr ⟨_, Prod.fst, _, _, rfl, by rw [SV.c, SV.c], h⟩
  · rw [TR.run] at h; exact .inr ⟨_, Prod.fst, _, _, rfl, by rw [SV.c, SV.c], h⟩
  · exact .inl h
abbrev CallT (β : Type) : Type 1 := Nat → (σ : Type) → Nat → List (SV σ) → SS σ → Nat → ((τ : Type) → (τ → σ) → SV τ → List (Nat × SO τ) → List Nat → Nat → TR β τ) → TR β σ
section
variable {β : Type} (eg : Nat → Bool) (call : CallT β) (T : Ty) (q : Nat → Bool) (N base : Nat) (ops : Array Oper) (draw : Bool) (anc : List (List Nat))
def ncD (i : Nat) (o : Oper) (e : EN) (log : List (Nat × EN)) : Bool := match draw with | false => true | true => ncAllS ops (anc.getD i []) o e log
def brW {σ : Type} (d : SS σ) (w : WG σ) (go skip : SS σ → TR β σ) : TR β σ :=
  match w with
  | .yes => go d
  | .no => skip d
  | .dyn t f true => .iff f (go (refT d t true)) (skip (refT d t false))
  | .dyn t f false => .iff f (skip (refT d t true)) (go (refT d t false))
  | .bad => .fail "guard"
def skipOp (i : Nat) (o : Oper) {σ : Type} (d : SS σ) (log : List (Nat × EN)) (rec : SS σ → List (Nat × EN) → TR β σ) : TR β σ :=
  match ncD ops draw anc i o ⟨[], [], [], []⟩ log with
  | true => rec (putS d o.dst .undef) ((i, ⟨[], [], [], []⟩) :: log)
  | false => .fail "order"
def goOp (i : Nat) (o : Oper) (σ : Type) (d : SS σ) (log : List (Nat × EN)) (F : Nat) (K : (τ : Type) → (τ → σ) → SS τ → Nat → TR β τ)
    (rec : (σ : Type) → SS σ → List (Nat × EN) → Nat → ((τ : Type) → (τ → σ) → SS τ → Nat → TR β τ) → TR β σ) : TR β σ :=
  match noCall o with
  | false => match callS (evS d) o with
    | none => .fail "call of what"
    | some (f, args) => call i σ f args d F (fun τ g v us rds F' =>
      match ncD ops draw anc i o ⟨namesO us, rds, [], chgsS (rdS (d.map g)) us⟩ log with
      | true => rec τ (appD (d.map g) o.dst v us) ((i, ⟨namesO us, rds, [], chgsS (rdS (d.map g)) us⟩) :: log) F' (fun τ' g' d' F'' => K τ' (fun t => g (g' t)) d' F'')
      | false => .fail "order of a call")
  | true => match onlyH T o with
    | false => match sQ T q (kndS (restS (opRefs o (evS d)) (rdS d))) o (evS d) with
      | none => .bad [base + i] "operation"
      | some (cs, v) => match ncD ops draw anc i o ⟨[], [], opRefs o (evS d), []⟩ log with
        | true => reqT cs (nameR (namesIt o) v (fun v => rec σ (appD d o.dst v []) ((i, ⟨[], [], opRefs o (evS d), []⟩) :: log) F K)
          (fun τ g v => rec τ (appD (d.map g) o.dst v []) ((i, ⟨[], [], opRefs o (evS d), []⟩) :: log) F (fun τ' g' d' F'' => K τ' (fun t => g (g' t)) d' F'')))
        | false => .fail "order"
    | true => (hS eg T (restS ((base + i) :: opRefs o (evS d)) (rdS d)) (base + i) o (evS d)).thn
      (fun v us => match ncD ops draw anc i o ⟨namesO us, (base + i) :: opRefs o (evS d), [], chgsS (rdS d) us⟩ log with
        | true => rec σ (appD d o.dst v us) ((i, ⟨namesO us, (base + i) :: opRefs o (evS d), [], chgsS (rdS d) us⟩) :: log) F K
        | false => .fail "order")
      (fun τ g v us => match ncD ops draw anc i o ⟨namesO us, (base + i) :: opRefs o (evS d), [], chgsS (rdS (d.map g)) us⟩ log with
        | true => rec τ (appD (d.map g) o.dst v us) ((i, ⟨namesO us, (base + i) :: opRefs o (evS d), [], chgsS (rdS (d.map g)) us⟩) :: log) F (fun τ' g' d' F'' => K τ' (fun t => g (g' t)) d' F'')
        | false => .fail "order")
def sops : List (Nat × Oper) → (σ : Type) → SS σ → List (Nat × EN) → Nat → ((τ : Type) → (τ → σ) → SS τ → Nat → TR β τ) → TR β σ
  | [], σ, d, _, F, K => K σ (fun s => s) d F
  | (i, o) :: is, σ, d, log, F, K => match dstQ N o.dst with
    | false => .fail "dst"
    | true => brW d (wantS ops d o) (fun d => goOp eg call T q base ops draw anc i o σ d log F K (fun σ d log F K => sops is σ d log F K)) (fun d => skipOp ops draw anc i o d log (fun d log => sops is σ d log F K))
end
def CallOk (P : Program) (N : Nat) {β : Type} (call : CallT β) : Prop :=
  ∀ (i : Nat) (σ : Type) (f : Nat) (args : List (SV σ)) (d : SS σ) (F : Nat) (K : (τ : Type) → (τ → σ) → SV τ → List (Nat × SO τ) → List Nat → Nat → TR β τ) (s : σ) (b : β), (call i σ f args d F K).run s = some b →
    ∃ (τ : Type) (g : τ → σ) (s' : τ) (v : SV τ) (us : List (Nat × SO τ)) (rds : List Nat) (F' : Nat), g s' = s ∧ fnOk P f = true ∧ Does P noG f (cL s args) rds (v.c s') (cO s' us) (d.c s N).rd ∧ (K τ g v us rds F').run s' = some b
section
variable {P : Program} {eg : Nat → Bool} {q : Nat → Bool} {N base : Nat} {ops : Array Oper} {draw : Bool} {anc : List (List Nat)} {β : Type} {call : CallT β}
def EndR {σ : Type} (N : Nat) (d : SS σ) (s : σ) (b : β) (K : (τ : Type) → (τ → σ) → SS τ → Nat → TR β τ) (sl : SL) : Prop :=
  ∃ (τ : Type) (g : τ → σ) (s' : τ) (d' : SS τ) (F' : Nat), g s' = s ∧ Grow d g d' ∧ sl = d'.c s' N ∧ (K τ g d' F').run s' = some b
theorem runsTo_mono {GL : Nat → Option (List DV)} {K K' : SL → Prop} (hK : ∀ s, K s → K' s) {is : List Nat} {s : SL} {log : List (Nat × Ef)} (h : RunsTo P GL q N base ops draw K is s log) : RunsTo P GL q N base ops draw K' is s log := by
  obtain ⟨L, s', h1, h2, h3, h4⟩ := h
  exact ⟨L, s', h1, h2, hK _ h3, h4⟩
theorem runsTo_S {GL : Nat → Option (List DV)} {K : SL → Prop} {is : List Nat} {s s2 : SL} {log : List (Nat × Ef)} (e : s2.S = s.S) (h : RunsTo P GL q N base ops draw K is s2 log) : RunsTo P GL q N base ops draw K is s log := by
  obtain ⟨L, s', h1, h2, h3, h4⟩ := h
  exact ⟨L, s', h1, by rw [← e]; exact h2, h3, h4⟩
theorem sops_run (hanc : draw = true → anc = ancT ops ops.size) (hcall : CallOk P N call) :
    ∀ (is : List (Nat × Oper)) (σ : Type) (d : SS σ) (log : List (Nat × Ef)) (slog : List (Nat × EN)) (F : Nat) (K : (τ : Type) → (τ → σ) → SS τ → Nat → TR β τ) (s : σ) (b : β), (∀ x ∈ is, ops[x.1]? = some x.2) → (log.map fun x => (x.1, enOf x.2)) = slog →
      (sops eg call (tiOf P) q N base ops draw anc is σ d slog F K).run s = some b → RunsTo P noG q N base ops draw (EndR N d s b K) (is.map (·.1)) (d.c s N) log
  | [], σ, d, log, slog, F, K, s, b, _, _, h => ⟨[], d.c s N, rfl, rfl, ⟨σ, fun s => s, s, d, F, rfl, Grow.refl d, rfl, h⟩, fun _ y hy => (by cases hy), fun _ => List.Pairwise.nil⟩
  | (i, o) :: is, σ, d, log, slog, F, K, s, b, hall, hlog, h => by
    have ho : ops[i]? = some o := hall (i, o) List.mem_cons_self
    have hall' : ∀ x ∈ is, ops[x.1]? = some x.2 := fun x hx => hall x (List.mem_cons_of_mem _ hx)
    rw [List.map_cons]
    rw [sops] at h
    split at h
    · rw [TR.run] at h; cases h
    · rename_i hdst
      rw [dstQ_eq] at hdst
      have hd : ∀ t, o.dst = some t → t < N := fun t e => by
        unfold dstB at hdst
        rw [e] at hdst
        simpa using hdst
      have hnc : ∀ (e : Ef), ncD ops draw anc i o (enOf e) slog = true → draw = true → ncAll ops (anc.getD i []) o e log = true := fun e he hdr => by
        unfold ncD at he
        rw [hdr] at he
        simp only at he
        rw [← hlog, ncAllS_c] at he
        exact he
      -- the operation left out
      have hskip : ∀ d : SS σ, wantedL ops (d.c s N) o = some false → (skipOp ops draw anc i o d slog (fun d log => sops eg call (tiOf P) q N base ops draw anc is σ d log F K)).run s = some b → RunsTo P noG q N base ops draw (EndR N d s b K) (i :: is.map (·.1)) (d.c s N) log := fun d hw ht => by
        unfold skipOp at ht
        split at ht
        · rename_i hn
          have ih := sops_run hanc hcall is σ (putS d o.dst .undef) ((i, skipEf) :: log) _ F K s b hall' (by rw [List.map_cons, hlog]; rfl) ht
          rw [putS_c, show (SV.undef : SV σ).c s = .undef from by rw [SV.c]] at ih
          refine runsTo_cons hanc ho (SL.put_S _ o.dst) ?_ (hnc skipEf hn) (runsTo_mono (fun sl => ?_) ih)
          · unfold StepR
            rw [ho]
            exact ⟨hd, .inr ⟨hw, rfl⟩⟩
          · rintro ⟨τ, g, s', d', F', h1, h2, h3, h4⟩
            exact ⟨τ, g, s', d', F', h1, ((Grow.refl d).put o.dst .undef).trans h2, h3, h4⟩
        · rw [TR.run] at ht; cases ht
      -- the operation carried out
      have hgo : ∀ d : SS σ, wantedL ops (d.c s N) o = some true → (goOp eg call (tiOf P) q base ops draw anc i o σ d slog F K (fun σ d log F K => sops eg call (tiOf P) q N base ops draw anc is σ d log F K)).run s = some b → RunsTo P noG q N base ops draw (EndR N d s b K) (i :: is.map (·.1)) (d.c s N) log := fun d hw ht => by
        have hev : (fun x => (evS d x).c s) = (d.c s N).ev noG := by funext x; exact evS_c s N d x
        unfold goOp at ht
        -- the rest, from a state in which more is known
        have rest : ∀ (τ : Type) (g : τ → σ) (s' : τ) (v : SV τ) (us : List (Nat × SO τ)) (rds lvs : List Nat) (F' : Nat), g s' = s →
            EfR P noG q (base + i) o (d.c s N).S ⟨v.c s', cO s' us, rds, lvs, chgs (d.c s N).rd (cO s' us)⟩ →
            ncD ops draw anc i o ⟨namesO us, rds, lvs, chgsS (rdS (d.map g)) us⟩ slog = true →
            (sops eg call (tiOf P) q N base ops draw anc is τ (appD (d.map g) o.dst v us) ((i, ⟨namesO us, rds, lvs, chgsS (rdS (d.map g)) us⟩) :: slog) F' (fun τ' g' d' F'' => K τ' (fun t => g (g' t)) d' F'')).run s' = some b →
            RunsTo P noG q N base ops draw (EndR N d s b K) (i :: is.map (·.1)) (d.c s N) log := fun τ g s' v us rds lvs F' hg hef hn hr => by
          have hen : (⟨namesO us, rds, lvs, chgsS (rdS (d.map g)) us⟩ : EN) = enOf ⟨v.c s', cO s' us, rds, lvs, chgs (d.c s N).rd (cO s' us)⟩ := by
            unfold enOf keysE
            rw [namesO_c, ← hg, ← mapS_c g s' N d, ← rdS_c, chgsS_c]
          rw [hen] at hn hr
          have ih := sops_run hanc hcall is τ (appD (d.map g) o.dst v us) ((i, ⟨v.c s', cO s' us, rds, lvs, chgs (d.c s N).rd (cO s' us)⟩) :: log) _ F' _ s' b hall' (by rw [List.map_cons, hlog]) hr
          rw [appD_c, mapS_c, hg] at ih
          refine runsTo_cons hanc ho (SL.app_S (d.c s N) o.dst ⟨v.c s', cO s' us, rds, lvs, chgs (d.c s N).rd (cO s' us)⟩) ?_ (hnc _ hn) (runsTo_mono (fun sl => ?_) ih)
          · unfold StepR
            rw [ho]
            exact ⟨hd, .inl ⟨hw, hef⟩⟩
          · rintro ⟨τ', g', s'', d', F'', h1, h2, h3, h4⟩
            refine ⟨τ', fun t => g (g' t), s'', d', F'', by show g (g' s'') = s; rw [h1, hg], ?_, h3, h4⟩
            exact ((Grow.map d g).app o.dst v us).trans h2
        have restI : ∀ (v : SV σ) (us : List (Nat × SO σ)) (rds lvs : List Nat) (F' : Nat),
            EfR P noG q (base + i) o (d.c s N).S ⟨v.c s, cO s us, rds, lvs, chgs (d.c s N).rd (cO s us)⟩ →
            ncD ops draw anc i o ⟨namesO us, rds, lvs, chgsS (rdS d) us⟩ slog = true →
            (sops eg call (tiOf P) q N base ops draw anc is σ (appD d o.dst v us) ((i, ⟨namesO us, rds, lvs, chgsS (rdS d) us⟩) :: slog) F' K).run s = some b →
            RunsTo P noG q N base ops draw (EndR N d s b K) (i :: is.map (·.1)) (d.c s N) log := fun v us rds lvs F' hef hn hr => by
          have hmap : d.map (fun s : σ => s) = d := by unfold SS.map; rw [mapT_id, mapH_id]
          refine rest σ (fun s => s) s v us rds lvs F' rfl hef (by rw [hmap]; exact hn) (by rw [hmap]; exact hr)
        have heff : ∀ (v : AV) (us : List (Nat × AO)), effH (tiOf P) (restrict ((base + i) :: opRefs o (evS d)) (d.c s N).rd) (base + i) o ((d.c s N).ev noG) = some (v, us) → onlyH (tiOf P) o = true → eff (tiOf P) q (d.c s N).rd (base + i) o ((d.c s N).ev noG) = some ⟨v, us, (base + i) :: opRefs o (evS d), []⟩ := fun v us he ho' => by
          have hrs : (o.op.operands.toList.flatMap fun x => ((d.c s N).ev noG x).refs) = opRefs o (evS d) := by rw [← opRefs_c s]; simp only [evS_c s N d]
          unfold eff
          simp only [hrs]
          rw [onlyH_q _ _ _ _ _ ho']
          simp only [he]
        split at ht
        · split at ht
          · rw [TR.run] at ht; cases ht
          · rename_i f args hc
            obtain ⟨τ, g, s', v, us, rds, F', h1, h2, h3, h4⟩ := hcall _ _ _ _ _ _ _ _ _ ht
            split at h4
            · rename_i hn
              refine rest τ g s' v us rds [] F' h1 ?_ hn h4
              refine ⟨rfl, ?_⟩
              rw [SL.ev_S, ← hev, callS_c s _ o hc]
              exact ⟨h2, rfl, h3⟩
            · rw [TR.run] at h4; cases h4
        · rename_i hno
          have hca : callA ((d.c s N).S.ev noG) o = none := noCall_c _ o hno
          split at ht
          · split at ht
            · rw [TR.run] at ht; cases ht
            · rename_i cs v hq
              split at ht
              · rename_i hn
                obtain ⟨g1, g2⟩ := run_req ht
                have hEf : EfR P noG q (base + i) o (d.c s N).S ⟨v.c s, [], [], opRefs o (evS d), []⟩ := ?_
                · rcases nameR_c g2 with g2 | ⟨τ, g, s', v', h1, h2, h3⟩
                  · exact restI v [] [] (opRefs o (evS d)) F hEf hn g2
                  · exact rest τ g s' v' [] [] (opRefs o (evS d)) F h1 (by rw [h2]; exact hEf) hn h3
                refine ⟨rfl, ?_⟩
                rw [hca]
                refine ⟨⟨v.c s, [], [], opRefs o (evS d)⟩, ?_, rfl, rfl, rfl, rfl⟩
                have hQ := sQ_c s (tiOf P) q (kndS (restS (opRefs o (evS d)) (rdS d))) o (evS d) cs v hq g1
                have hrs : (o.op.operands.toList.flatMap fun x => ((d.c s N).ev noG x).refs) = opRefs o (evS d) := by rw [← opRefs_c s]; simp only [evS_c s N d]
                rw [← kinds_rdc s, restS_c, rdS_c s N, hev] at hQ
                rw [SL.ev_S]
                show eff (tiOf P) q (d.c s N).rd (base + i) o ((d.c s N).ev noG) = _
                unfold eff
                simp only [hrs]
                rw [hQ]
              · rw [TR.run] at ht; cases ht
          · rename_i hH
            have hO := hS_c s eg (tiOf P) (restS ((base + i) :: opRefs o (evS d)) (rdS d)) (base + i) o (evS d)
            rw [restS_c, rdS_c s N, hev] at hO
            have mkEf : ∀ {τ : Type} (s' : τ) (v : SV τ) (us : List (Nat × SO τ)), effH (tiOf P) (restrict ((base + i) :: opRefs o (evS d)) (d.c s N).rd) (base + i) o ((d.c s N).ev noG) = some (v.c s', cO s' us) →
                EfR P noG q (base + i) o (d.c s N).S ⟨v.c s', cO s' us, (base + i) :: opRefs o (evS d), [], chgs (d.c s N).rd (cO s' us)⟩ := fun {τ} s' v us he => by
              refine ⟨rfl, ?_⟩
              rw [hca]
              refine ⟨⟨v.c s', cO s' us, (base + i) :: opRefs o (evS d), []⟩, ?_, rfl, rfl, rfl, rfl⟩
              rw [SL.ev_S]
              exact heff _ _ he hH
            rcases HR.thn_c _ ht hO with ⟨v, us, h1, h2⟩ | ⟨τ, g, s', v, us, h1, h2, h3⟩
            · split at h2
              · rename_i hn
                exact restI v us _ [] F (mkEf s v us h1) hn h2
              · rw [TR.run] at h2; cases h2
            · split at h3
              · rename_i hn
                exact rest τ g s' v us _ [] F h1 (mkEf s' v us h2) hn h3
              · rw [TR.run] at h3; cases h3
      have hW := wantS_c s N ops d o
      have viaRef : ∀ (k : Nat) (b' : Bool), (d.c s N).get k = aBool b' → RunsTo P noG q N base ops draw (EndR N (refT d k b') s b K) (i :: is.map (·.1)) ((refT d k b').c s N) log → RunsTo P noG q N base ops draw (EndR N d s b K) (i :: is.map (·.1)) (d.c s N) log := fun k b' hk hr => by
        refine runsTo_S (refT_S hk) (runsTo_mono (fun sl => ?_) hr)
        rintro ⟨τ, g, s', d', F', h1, h2, h3, h4⟩
        refine ⟨τ, g, s', d', F', h1, ?_, h3, h4⟩
        have h0 : Grow d (fun s => s) (refT d k b') := ⟨⟨[(k, .val (.bool b'))], by rw [mapT_id]; rfl⟩, ⟨[], by rw [mapH_id]; rfl⟩⟩
        exact h0.trans h2
      have wantRef : ∀ (k : Nat) (b' : Bool), (d.c s N).get k = aBool b' → wantedL ops ((refT d k b').c s N) o = wantedL ops (d.c s N) o := fun k b' hk => by
        rw [← wantedL_S, ← wantedL_S, refT_S hk]
      unfold brW at h
      split at h
      · rename_i hw
        rw [hw] at hW
        exact hgo d hW h
      · rename_i hw
        rw [hw] at hW
        exact hskip d hW h
      · rename_i k f hw
        rw [hw] at hW
        rw [TR.run] at h
        obtain ⟨hW, hk⟩ := hW
        cases hf : f s with
        | true => rw [hf] at h hW hk; exact viaRef k true hk (hgo _ (by rw [wantRef k true hk]; exact hW) h)
        | false => rw [hf] at h hW hk; exact viaRef k false hk (hskip _ (by rw [wantRef k false hk]; exact hW) h)
      · rename_i k f hw
        rw [hw] at hW
        rw [TR.run] at h
        obtain ⟨hW, hk⟩ := hW
        cases hf : f s with
        | true => rw [hf] at h hW hk; exact viaRef k true hk (hskip _ (by rw [wantRef k true hk]; exact hW) h)
        | false => rw [hf] at h hW hk; exact viaRef k false hk (hgo _ (by rw [wantRef k false hk]; exact hW) h)
      · rw [TR.run] at h; cases h
end
end Go.Proofs.Ytkhdpjlpahammaa
set_option linter.unusedVariables false
set_option linter.unusedSimpArgs false
namespace Go.Proofs.Ytkhdpjlpahammaa
open Go.RowKit
def pr : U → U → U
  | .unit, b => b
  | .int k, .unit => .int k
  | .bool, .unit => .bool
  | .str, .unit => .str
  | .list t, .unit => .list t
  | .pair a b, .unit => .pair a b
  | a, b => .pair a b
def pmk : (a b : U) → a.T → b.T → (pr a b).T
  | .unit, _, _, y => y
  | .int _, .unit, x, _ => x
  | .bool, .unit, x, _ => x
  | .str, .unit, x, _ => x
  | .list _, .unit, x, _ => x
  | .pair _ _, .unit, x, _ => x
  | .int _, .int _, x, y => (x, y)
  | .int _, .bool, x, y => (x, y)
  | .int _, .str, x, y => (x, y)
  | .int _, .list _, x, y => (x, y)
  | .int _, .pair _ _, x, y => (x, y)
  | .bool, .int _, x, y => (x, y)
  | .bool, .bool, x, y => (x, y)
  | .bool, .str, x, y => (x, y)
  | .bool, .list _, x, y => (x, y)
  | .bool, .pair _ _, x, y => (x, y)
  | .str, .int _, x, y => (x, y)
  | .str, .bool, x, y => (x, y)
  | .str, .str, x, y => (x, y)
  | .str, .list _, x, y => (x, y)
  | .str, .pair _ _, x, y => (x, y)
  | .list _, .int _, x, y => (x, y)
  | .list _, .bool, x, y => (x, y)
  | .list _, .str, x, y => (x, y)
  | .list _, .list _, x, y => (x, y)
  | .list _, .pair _ _, x, y => (x, y)
  | .pair _ _, .int _, x, y => (x, y)
  | .pair _ _, .bool, x, y => (x, y)
  | .pair _ _, .str, x, y => (x, y)
  | .pair _ _, .list _, x, y => (x, y)
  | .pair _ _, .pair _ _, x, y => (x, y)
def pfst : (a b : U) → (pr a b).T → a.T
  | .unit, _, _ => ()
  | .int _, .unit, x => x
  | .bool, .unit, x => x
  | .str, .unit, x => x
  | .list _, .unit, x => x
  | .pair _ _, .unit, x => x
  | .int _, .int _, p => p.1
  | .int _, .bool, p => p.1
  | .int _, .str, p => p.1
  | .int _, .list _, p => p.1
  | .int _, .pair _ _, p => p.1
  | .bool, .int _, p => p.1
  | .bool, .bool, p => p.1
  | .bool, .str, p => p.1
  | .bool, .list _, p => p.1
  | .bool, .pair _ _, p => p.1
  | .str, .int _, p => p.1
  | .str, .bool, p => p.1
  | .str, .str, p => p.1
  | .str, .list _, p => p.1
  | .str, .pair _ _, p => p.1
  | .list _, .int _, p => p.1
  | .list _, .bool, p => p.1
  | .list _, .str, p => p.1
  | .list _, .list _, p => p.1
  | .list _, .pair _ _, p => p.1
  | .pair _ _, .int _, p => p.1
  | .pair _ _, .bool, p => p.1
  | .pair _ _, .str, p => p.1
  | .pair _ _, .list _, p => p.1
  | .pair _ _, .pair _ _, p => p.1
def psnd : (a b : U) → (pr a b).T → b.T
  | .unit, _, y => y
  | .int _, .unit, _ => ()
  | .bool, .unit, _ => ()
  | .str, .unit, _ => ()
  | .list _, .unit, _ => ()
  | .pair _ _, .unit, _ => ()
  | .int _, .int _, p => p.2
  | .int _, .bool, p => p.2
  | .int _, .str, p => p.2
  | .int _, .list _, p => p.2
  | .int _, .pair _ _, p => p.2
  | .bool, .int _, p => p.2
  | .bool, .bool, p => p.2
  | .bool, .str, p => p.2
  | .bool, .list _, p => p.2
  | .bool, .pair _ _, p => p.2
  | .str, .int _, p => p.2
  | .str, .bool, p => p.2
  | .str, .str, p => p.2
  | .str, .list _, p => p.2
  | .str, .pair _ _, p => p.2
  | .list _, .int _, p => p.2
  | .list _, .bool, p => p.2
  | .list _, .str, p => p.2
  | .list _, .list _, p => p.2
  | .list _, .pair _ _, p => p.2
  | .pair _ _, .int _, p => p.2
  | .pair _ _, .bool, p => p.2
  | .pair _ _, .str, p => p.2
  | .pair _ _, .list _, p => p.2
  | .pair _ _, .pair _ _, p => p.2
theorem pfst_mk (a b : U) (x : a.T) (y : b.T) : pfst a b (pmk a b x y) = x := by cases a <;> cases b <;> rfl
theorem psnd_mk (a b : U) (x : a.T) (y : b.T) : psnd a b (pmk a b x y) = y := by cases a <;> cases b <;> rfl
inductive CS where
  | dat (u : U) | own (r e : Nat) (u : U) | nil | np | pt (r off : Nat) | cl (f : Nat) (caps : List (Nat × Nat))
inductive IT where
  | tmp (t : Nat) (agg : Bool) (cs : List CS)
  | mix (r : Nat) (cs : List CS)
  | row (r e : Nat) (u : U)
  | arr (r : Nat) (u : U)
  | mp (r : Nat)
  | drop (t : Nat)
  | dead (r : Nat)
def uC : CS → U
  | .dat u => u
  | .own _ _ u => .list u
  | _ => .unit
def uCs : List CS → U
  | [] => .unit
  | c :: cs => pr (uC c) (uCs cs)
def uI : IT → U
  | .tmp _ _ cs => uCs cs
  | .mix _ cs => uCs cs
  | .row _ _ u => .list u
  | .arr _ u => .list u
  | .mp _ => .list .str
  | _ => .unit
def uIs : List IT → U
  | [] => .unit
  | i :: l => pr (uI i) (uIs l)
section
variable {σ : Type}
def capV (ρ : Nat → Nat) : List (Nat × Nat) → List (SV σ)
  | [] => []
  | (r, off) :: l => .ptr (ρ r) off :: capV ρ l
def eqN (a b : Option Nat) : Bool := match a, b with
  | some x, some y => decide (x = y)
  | none, none => true
  | _, _ => false
def capB (θ : Nat → Option Nat) : List (Nat × Nat) → List (SV σ) → Bool
  | [], [] => true
  | (r, off) :: l, .ptr r1 off1 :: vs => (eqN (θ r) (some r1) && decide (off = off1)) && capB θ l vs
  | _, _ => false
def valC : (c : CS) → (σ → (uC c).T) → SV σ
  | .dat (.int k), f => .int k f
  | .dat .bool, f => .bool f
  | .dat .str, f => .str f
  | .dat (.list t), f => .lst t f
  | .dat _, _ => .junk
  | .own r _ u, f => .sl r (szU u) none (fun s => (f s).length) .unk
  | .nil, _ => .val (.slice none 0 0)
  | .np, _ => .val (.pointer none)
  | .pt r off, _ => .ptr r off
  | .cl f caps, _ => .clo f (capV (fun r => r) caps)
def objC : (c : CS) → (σ → (uC c).T) → List (Nat × SO σ)
  | .own r e u, f => [(r, .data e u f true)]
  | _, _ => []
def valCs : (cs : List CS) → (σ → (uCs cs).T) → List (SV σ)
  | [], _ => []
  | c :: cs, f => valC c (fun s => pfst (uC c) (uCs cs) (f s)) :: valCs cs (fun s => psnd (uC c) (uCs cs) (f s))
def objCs : (cs : List CS) → (σ → (uCs cs).T) → List (Nat × SO σ)
  | [], _ => []
  | c :: cs, f => objC c (fun s => pfst (uC c) (uCs cs) (f s)) ++ objCs cs (fun s => psnd (uC c) (uCs cs) (f s))
def one1 : List (SV σ) → SV σ
  | [v] => v
  | _ => .junk
def headT : (i : IT) → (σ → (uI i).T) → List (Nat × SV σ)
  | .tmp t true cs, f => [(t, .agg (valCs cs f))]
  | .tmp t false cs, f => [(t, one1 (valCs cs f))]
  | .drop t, _ => [(t, .junk)]
  | _, _ => []
def headH : (i : IT) → (σ → (uI i).T) → List (Nat × SO σ)
  | .tmp _ _ cs, f => objCs cs f
  | .mix r cs, f => (r, .mix (valCs cs f)) :: objCs cs f
  | .row r e u, f => [(r, .data e u f true)]
  | .arr r u, f => [(r, .arr u f)]
  | .mp r, f => [(r, .mp f)]
  | .dead r, _ => [(r, .dead)]
  | _, _ => []
def headTs : (l : List IT) → (σ → (uIs l).T) → List (Nat × SV σ)
  | [], _ => []
  | i :: l, f => headT i (fun s => pfst (uI i) (uIs l) (f s)) ++ headTs l (fun s => psnd (uI i) (uIs l) (f s))
def headHs : (l : List IT) → (σ → (uIs l).T) → List (Nat × SO σ)
  | [], _ => []
  | i :: l, f => headH i (fun s => pfst (uI i) (uIs l) (f s)) ++ headHs l (fun s => psnd (uI i) (uIs l) (f s))
def headD (d : SS σ) (its : List IT) : SS (σ × (uIs its).T) := ⟨headTs its Prod.snd ++ mapT Prod.fst d.tm, headHs its Prod.snd ++ mapO Prod.fst d.hp⟩
def isSc : U → Bool
  | .int _ => true
  | .bool => true
  | .str => true
  | .list _ => true
  | _ => false
def pkC (rd : Nat → Option (SO σ)) : (c : CS) → SV σ → Option (PK σ (uC c).T)
  | .dat u, v => match isSc u with | true => pkU rd u [v] | false => none
  | .own _ e u, v => match v with
    | .val (.slice none 0 0) => some ⟨fun _ => [], [], []⟩
    | .sl r z none n .unk => match rd r with
      | some (.data e' u' f true) => match eqU u' u, decide (e' = e ∧ z = szU u') with
        | some ⟨h⟩, true => some ⟨castLF h fun s => (f s).take (n s), [fun s => decide (n s ≤ (f s).length)], []⟩
        | _, _ => none
      | _ => none
    | _ => none
  | .nil, v => match v with | .val (.slice none 0 0) => some ⟨fun _ => (), [], []⟩ | _ => none
  | .np, v => match v with | .val (.pointer none) => some ⟨fun _ => (), [], []⟩ | _ => none
  | .pt r off, v => match v with | .ptr r' off' => (match decide (r = r' ∧ off = off') with | true => some ⟨fun _ => (), [], []⟩ | false => none) | _ => none
  | .cl f caps, v => match v with | .clo f' vs => (match decide (f = f') && capB some caps vs with | true => some ⟨fun _ => (), [], []⟩ | false => none) | _ => none
def thC : CS → SV σ → List (Nat × Option Nat)
  | .own r _ _, .sl r1 _ _ _ _ => [(r, some r1)]
  | .own r _ _, _ => [(r, none)]
  | _, _ => []
def pkCs (rd : Nat → Option (SO σ)) : (cs : List CS) → List (SV σ) → Option (PK σ (uCs cs).T)
  | [], [] => some ⟨fun _ => (), [], []⟩
  | c :: cs, v :: vs => match pkC rd c v, pkCs rd cs vs with
    | some x, some y => some ⟨fun s => pmk (uC c) (uCs cs) (x.f s) (y.f s), x.cs ++ y.cs, x.fz ++ y.fz⟩
    | _, _ => none
  | _, _ => none
def thCs : List CS → List (SV σ) → List (Nat × Option Nat)
  | c :: cs, v :: vs => thC c v ++ thCs cs vs
  | _, _ => []
def pkI (d : SS σ) : (i : IT) → Option (PK σ (uI i).T)
  | .tmp t agg cs => match lookQ t d.tm with
    | none => none
    | some v => match agg with
      | false => pkCs (rdS d) cs [v]
      | true => match v with | .agg vs => pkCs (rdS d) cs vs | _ => none
  | .mix r cs => match rdS d r with | some (.mix vs) => pkCs (rdS d) cs vs | _ => none
  | .row r e u => match rdS d r with
    | some (.data e' u' f true) => match eqU u' u, decide (e' = e) with | some ⟨h⟩, true => some ⟨castLF h f, [], []⟩ | _, _ => none
    | _ => none
  | .arr r u => match rdS d r with
    | some (.arr u' f) => match eqU u' u with | some ⟨h⟩ => some ⟨castLF h f, [], []⟩ | none => none
    | _ => none
  | .mp r => match rdS d r with
    | some (.mp f) => some ⟨f, [], []⟩
    | _ => none
  | .drop _ => some ⟨fun _ => (), [], []⟩
  | .dead _ => some ⟨fun _ => (), [], []⟩
def thI (d : SS σ) : IT → List (Nat × Option Nat)
  | .tmp t agg cs => match lookQ t d.tm with
    | none => []
    | some v => match agg with
      | false => thCs cs [v]
      | true => match v with | .agg vs => thCs cs vs | _ => []
  | .mix r cs => match rdS d r with | some (.mix vs) => thCs cs vs | _ => []
  | _ => []
def pkIs (d : SS σ) : (l : List IT) → Option (PK σ (uIs l).T)
  | [] => some ⟨fun _ => (), [], []⟩
  | i :: l => match pkI d i, pkIs d l with
    | some x, some y => some ⟨fun s => pmk (uI i) (uIs l) (x.f s) (y.f s), x.cs ++ y.cs, x.fz ++ y.fz⟩
    | _, _ => none
def thIs (d : SS σ) : List IT → List (Nat × Option Nat)
  | [] => []
  | i :: l => thI d i ++ thIs d l
def covT : List IT → List Nat
  | [] => []
  | .tmp t _ _ :: l => t :: covT l
  | .drop t :: l => t :: covT l
  | _ :: l => covT l
def covH : List IT → List Nat
  | [] => []
  | .mix r _ :: l => r :: covH l
  | .row r _ _ :: l => r :: covH l
  | .arr r _ :: l => r :: covH l
  | .mp r :: l => r :: covH l
  | .dead r :: l => r :: covH l
  | _ :: l => covH l
def keyTh : List (Nat × Option Nat) → List Nat
  | [] => []
  | (r, _) :: l => r :: keyTh l
def nodupB : List Nat → Bool
  | [] => true
  | r :: l => !memB r l && nodupB l
def idleO (o : Option (SO σ)) : Bool :=
  match o with
  | none => true
  | some .dead => true
  | some (.data _ _ _ false) => true
  | _ => false
def okN {σ' : Type} (keys : List Nat) (dh : SS σ') (r : Nat) : Bool := !memB r keys && !noneAt (rdS dh) r
def okNs {σ' : Type} (keys : List Nat) (dh : SS σ') (l : List Nat) : Bool := l.all (okN keys dh)
def okTm {σ' : Type} (keys : List Nat) (dh : SS σ') : List Nat → List (Nat × SV σ) → Bool
  | _, [] => true
  | skip, (t, v) :: l => match memB t skip with
    | true => okTm keys dh skip l
    | false => okNs keys dh v.refs && okTm keys dh (t :: skip) l
def refsSO : SO σ → List Nat
  | .mix cs => refsS cs
  | _ => []
def okHp {σ' : Type} (keys : List Nat) (dh : SS σ') : List Nat → List (Nat × SO σ) → Bool
  | _, [] => true
  | skip, (r, o) :: l => match memB r skip with
    | true => okHp keys dh skip l
    | false => (!memB r keys && okNs keys dh (refsSO o)) && okHp keys dh (r :: skip) l
def ptRefs : List CS → List Nat
  | [] => []
  | .pt r _ :: l => r :: ptRefs l
  | .cl _ caps :: l => caps.map (·.1) ++ ptRefs l
  | _ :: l => ptRefs l
def itRefs : List IT → List Nat
  | [] => []
  | .tmp _ _ cs :: l => ptRefs cs ++ itRefs l
  | .mix _ cs :: l => ptRefs cs ++ itRefs l
  | _ :: l => itRefs l
def injTh {σ' : Type} (keys : List Nat) (dh : SS σ') : List (Nat × Option Nat) → Bool
  | [] => true
  | (_, none) :: l => injTh keys dh l
  | (r, some x) :: l => ((memB x keys || idleO (rdS dh x)) && l.all fun y => match y.2 with | some z => !decide (x = z) | none => true) && injTh keys dh l
def freedB {σ' : Type} (th : List (Nat × Option Nat)) (dh : SS σ') (x : Nat) : Bool :=
  (th.all fun y => match y.2 with | some z => !decide (x = z) | none => true) && (memB x (keyTh th) || idleO (rdS dh x))
def packB {τ : Type} (d : SS σ) (its : List IT) (d' : SS τ) (fz : List (Nat × SO τ)) : Bool :=
  ((((d'.tm.take (d'.tm.length - d.tm.length)).all fun x => memB x.1 (covT its) || (match lookQ x.1 d.tm with | none => true | some _ => false)) &&
   ((d'.hp.take (d'.hp.length - d.hp.length)).all fun x => memB x.1 (covH its) || noneAt (rdS d) x.1)) &&
  ((nodupB (keyTh (thIs d' its)) && (keyTh (thIs d' its)).all fun r => noneAt (rdS d) r && !memB r (covH its)) &&
   (injTh (keyTh (thIs d' its)) (headD d its) (thIs d' its) && fz.all fun x => freedB (thIs d' its) (headD d its) x.1))) &&
  ((okTm (keyTh (thIs d' its)) (headD d its) (covT its) d.tm && okHp (keyTh (thIs d' its)) (headD d its) (covH its) d.hp) &&
   (okNs (keyTh (thIs d' its)) (headD d its) (itRefs its) && (nodupB (covH its) && (covH its).all fun r => !noneAt (rdS d) r)))
end
end Go.Proofs.Ytkhdpjlpahammaa
set_option linter.unusedVariables false
set_option linter.unusedSimpArgs false
namespace Go.Proofs.Ytkhdpjlpahammaa
open Go.RowKit
def capA : List (Nat × Nat) → List AV
  | [] => []
  | (r, off) :: l => .ptr r off :: capA l
def aC : (c : CS) → (uC c).T → AV
  | .dat (.int k), n => aInt k n
  | .dat .bool, b => aBool b
  | .dat .str, l => .d (.val (.string ⟨l.toArray⟩))
  | .dat (.list t), l => .d (.dl (encL t l) l.length none)
  | .dat _, _ => .junk
  | .own r _ u, l => .sl r 0 l.length none
  | .nil, _ => .d (.val (.slice none 0 0))
  | .np, _ => .d (.val (.pointer none))
  | .pt r off, _ => .ptr r off
  | .cl f caps, _ => .clo f (capA caps)
def oC : (c : CS) → (uC c).T → List (Nat × AO)
  | .own r e u, l => [(r, .data e (szU u) (encL u l) true)]
  | _, _ => []
def aCs : (cs : List CS) → (uCs cs).T → List AV
  | [], _ => []
  | c :: cs, x => aC c (pfst (uC c) (uCs cs) x) :: aCs cs (psnd (uC c) (uCs cs) x)
def oCs : (cs : List CS) → (uCs cs).T → List (Nat × AO)
  | [], _ => []
  | c :: cs, x => oC c (pfst (uC c) (uCs cs) x) ++ oCs cs (psnd (uC c) (uCs cs) x)
def one1A : List AV → AV
  | [v] => v
  | _ => .junk
def aT : (i : IT) → (uI i).T → List (Nat × AV)
  | .tmp t true cs, x => [(t, .agg (aCs cs x))]
  | .tmp t false cs, x => [(t, one1A (aCs cs x))]
  | .drop t, _ => [(t, .junk)]
  | _, _ => []
def aH : (i : IT) → (uI i).T → List (Nat × AO)
  | .tmp _ _ cs, x => oCs cs x
  | .mix r cs, x => (r, .mix (aCs cs x)) :: oCs cs x
  | .row r e u, l => [(r, .data e (szU u) (encL u l) true)]
  | .arr r u, l => [(r, .mix ((encL u l).map .d))]
  | .mp r, l => [(r, .mp l)]
  | .dead r, _ => [(r, .dead)]
  | _, _ => []
def aTs : (l : List IT) → (uIs l).T → List (Nat × AV)
  | [], _ => []
  | i :: l, x => aT i (pfst (uI i) (uIs l) x) ++ aTs l (psnd (uI i) (uIs l) x)
def aHs : (l : List IT) → (uIs l).T → List (Nat × AO)
  | [], _ => []
  | i :: l, x => aH i (pfst (uI i) (uIs l) x) ++ aHs l (psnd (uI i) (uIs l) x)
section
variable {σ : Type} (s : σ)
theorem cInt (k : IntKind) (f : σ → Int) : (SV.int k f).c s = aInt k (f s) := by rw [SV.c]
theorem cBool (f : σ → Bool) : (SV.bool f).c s = aBool (f s) := by rw [SV.c]
theorem cStr (f : σ → List UInt8) : (SV.str f).c s = .d (.val (.string ⟨(f s).toArray⟩)) := by rw [SV.c]
theorem cLst (t : U) (f : σ → List t.T) : (SV.lst t f).c s = .d (.dl (encL t (f s)) (f s).length none) := by rw [SV.c]
theorem cJunk : (SV.junk : SV σ).c s = .junk := by rw [SV.c]
theorem cOwn (r z : Nat) (n : σ → Nat) : (SV.sl r z none n .unk).c s = .sl r 0 (n s) none := by rw [SV.c]; simp only [oOf, Nat.zero_mul, cpOf]
theorem cVal (v : Value) : (SV.val v : SV σ).c s = .d (.val v) := by rw [SV.c]
theorem cPtr (r off : Nat) : (SV.ptr r off : SV σ).c s = .ptr r off := by rw [SV.c]
theorem capV_c (caps : List (Nat × Nat)) : cL s (capV (fun r => r) caps : List (SV σ)) = capA caps := by
  induction caps with
  | nil => rfl
  | cons x l ih => obtain ⟨r, off⟩ := x; rw [capV, cL, ih, SV.c, capA]
theorem cAgg (t : Nat) (l : List (SV σ)) : cT s [(t, SV.agg l)] = [(t, .agg (cL s l))] := by rw [cT, cT, SV.c]
theorem valC_c : ∀ (c : CS) (f : σ → (uC c).T), (valC c f).c s = aC c (f s)
  | .dat (.int k), f => cInt s k f
  | .dat .bool, f => cBool s f
  | .dat .str, f => cStr s f
  | .dat (.list t), f => cLst s t f
  | .dat (.pair a b), f => cJunk s
  | .dat .unit, f => cJunk s
  | .own r e u, f => cOwn s r (szU u) _
  | .nil, f => cVal s _
  | .np, f => cVal s _
  | .pt r off, f => cPtr s _ _
  | .cl f caps, _ => by show (SV.clo f (capV (fun r => r) caps)).c s = _; rw [SV.c, capV_c]; rfl
theorem objC_c : ∀ (c : CS) (f : σ → (uC c).T), cO s (objC c f) = oC c (f s)
  | .own r e u, f => rfl
  | .dat _, f => rfl
  | .nil, f => rfl
  | .np, f => rfl
  | .pt _ _, f => rfl
  | .cl _ _, f => rfl
theorem valCs_c : ∀ (cs : List CS) (f : σ → (uCs cs).T), cL s (valCs cs f) = aCs cs (f s)
  | [], _ => rfl
  | c :: cs, f => by rw [valCs, cL, valC_c, valCs_c cs]; rfl
theorem objCs_c : ∀ (cs : List CS) (f : σ → (uCs cs).T), cO s (objCs cs f) = oCs cs (f s)
  | [], _ => rfl
  | c :: cs, f => by rw [objCs, cO_append, objC_c, objCs_c cs]; rfl
theorem one1_c (l : List (SV σ)) : (one1 l).c s = one1A (cL s l) := by
  cases l with
  | nil => exact cJunk s
  | cons v l => cases l with
    | nil => rfl
    | cons w l => exact cJunk s
theorem headT_c : ∀ (i : IT) (f : σ → (uI i).T), cT s (headT i f) = aT i (f s)
  | .tmp t true cs, f => (cAgg s t (valCs cs f)).trans (congrArg (fun l => [(t, AV.agg l)]) (valCs_c s cs f))
  | .tmp t false cs, f => (congrArg (fun v => [(t, v)]) (one1_c s (valCs cs f))).trans (congrArg (fun l => [(t, one1A l)]) (valCs_c s cs f))
  | .drop t, f => congrArg (fun v => [(t, v)]) (cJunk s)
  | .mix _ _, f => rfl
  | .row _ _ _, f => rfl
  | .arr _ _, f => rfl
  | .mp _, f => rfl
  | .dead _, f => rfl
theorem headH_c : ∀ (i : IT) (f : σ → (uI i).T), cO s (headH i f) = aH i (f s)
  | .tmp t a cs, f => objCs_c s cs f
  | .mix r cs, f => (congrArg (fun l => (r, AO.mix l) :: cO s (objCs cs f)) (valCs_c s cs f)).trans (congrArg (fun l => (r, AO.mix (aCs cs (f s))) :: l) (objCs_c s cs f))
  | .row _ _ _, f => rfl
  | .arr _ _, f => rfl
  | .mp _, f => rfl
  | .dead _, f => rfl
  | .drop _, f => rfl
theorem headTs_c : ∀ (l : List IT) (f : σ → (uIs l).T), cT s (headTs l f) = aTs l (f s)
  | [], _ => rfl
  | i :: l, f => by rw [headTs, cT_append, headT_c, headTs_c l]; rfl
theorem headHs_c : ∀ (l : List IT) (f : σ → (uIs l).T), cO s (headHs l f) = aHs l (f s)
  | [], _ => rfl
  | i :: l, f => by rw [headHs, cO_append, headH_c, headHs_c l]; rfl
end
section
variable {θ : Nat → Option Nat} {hp1 hp2 : Nat → Option AO}
mutual
theorem wkV_id : ∀ (x : AV), (∀ r ∈ x.refs, θ r = some r ∧ (hp2 r).isSome = true) → WkV θ hp1 hp2 x x
  | .d x, _ => by rw [WkV]; exact ⟨x, .inl rfl, .inl rfl⟩
  | .ptr r off, h => by rw [WkV]; have := h r (by simp [AV.refs]); exact ⟨r, this.1, this.2, rfl⟩
  | .sl r off n c, h => by rw [WkV]; have := h r (by simp [AV.refs]); exact ⟨this.2, .inl ⟨r, this.1, rfl⟩⟩
  | .dptr cells off, _ => by rw [WkV]
  | .agg cs, h => by rw [WkV]; exact ⟨cs, rfl, wkL_id cs fun r hr => h r (by rw [AV.refs]; exact hr)⟩
  | .tup cs, h => by rw [WkV]; exact ⟨cs, rfl, wkL_id cs fun r hr => h r (by rw [AV.refs]; exact hr)⟩
  | .clo f cs, h => by rw [WkV]; exact ⟨cs, rfl, wkL_id cs fun r hr => h r (by rw [AV.refs]; exact hr)⟩
  | .undef, _ => by rw [WkV]
  | .ab, _ => by rw [WkV]
  | .junk, _ => by rw [WkV]; trivial
theorem wkL_id : ∀ (xs : List AV), (∀ r ∈ AV.refs.refsL xs, θ r = some r ∧ (hp2 r).isSome = true) → WkL θ hp1 hp2 xs xs
  | [], _ => by rw [WkL]
  | x :: xs, h => by
    rw [AV.refs.refsL] at h
    rw [WkL]
    exact ⟨x, xs, rfl, wkV_id x fun r hr => h r (List.mem_append_left _ hr), wkL_id xs fun r hr => h r (List.mem_append_right _ hr)⟩
end
theorem wk_dd {x : DV} {y : AV} (h : y = .d x) : WkV θ hp1 hp2 (.d x) y := by subst h; rw [WkV]; exact ⟨x, .inl rfl, .inl rfl⟩
theorem wkO_same {r : Nat} {o : AO} (h1 : θ r = some r) (h2 : hp1 r = some o) (h : ∀ r ∈ oRefs o, θ r = some r ∧ (hp2 r).isSome = true) : WkO θ hp1 hp2 r o := by
  unfold WkO
  rw [h1]
  cases o with
  | data e s cs wr => exact ⟨wr, cs, h2, .inl rfl, fun h => h, fun h => .inl h⟩
  | mix cs => exact ⟨cs, h2, wkL_id cs h⟩
  | mp ks => exact h2
  | dead => trivial
theorem refs_data : ∀ l : List DV, AV.refs.refsL (l.map .d) = []
  | [] => rfl
  | x :: l => by rw [List.map_cons, AV.refs.refsL, refs_data l, refs_d]; rfl
end
section
variable {σ : Type} {s : σ} {θ : Nat → Option Nat} {hp2 : Nat → Option AO} {rd : Nat → Option (SO σ)}
theorem pkL_wk {t : U} {v : SV σ} {p : PK σ (List t.T)} (hp : pkL rd t v = some p) (hc : allT s p.cs) (hfz : ∀ x ∈ p.fz, Freed θ hp2 x.1) : WkV θ (rdc s rd) hp2 (.d (.dl (encL t (p.f s)) (p.f s).length none)) (v.c s) := by
  unfold pkL at hp
  split at hp
  · split at hp
    · rename_i hk _
      subst hk
      cases hp
      exact wk_dd (by rw [SV.c]; rfl)
    · cases hp
  · cases hp
    rw [SV.c, WkV]
    exact ⟨.dl [] 0 none, .inr (.inl ⟨rfl, .inl rfl⟩), .inl rfl⟩
  · rename_i r z o n cap
    split at hp
    · rename_i e u f wr hr
      split at hp
      · rename_i hk _ hz
        subst hk
        cases hp
        have hz := of_decide_eq_true hz
        have h1 := rowC_eq hc.1
        rw [SV.c, WkV]
        refine ⟨.dl (encL u (rowP o n f s)) (rowP o n f s).length none, ?_, .inl rfl⟩
        unfold WkD0
        simp only [rdc, hr, Option.map_some, SO.c]
        refine ⟨hfz _ List.mem_cons_self, none, ?_, .inr rfl⟩
        rw [rowP_eq, hz, encL_drop, encL_take, List.length_take, List.length_drop, Nat.min_eq_left (by omega)]
      · cases hp
    · cases hp
  · cases hp
theorem eqN_eq {a b : Option Nat} (h : eqN a b = true) : a = b := by
  unfold eqN at h
  split at h
  · rw [of_decide_eq_true h]
  · rfl
  · cases h
theorem capB_wk : ∀ (caps : List (Nat × Nat)) (vs : List (SV σ)), capB θ caps vs = true → (∀ r ∈ caps.map (·.1), (hp2 r).isSome = true) → WkL θ (rdc s rd) hp2 (capA caps) (cL s vs)
  | [], [], _, _ => by rw [cL, capA, WkL]
  | (r, off) :: l, .ptr r1 off1 :: vs, h, hr => by
    rw [capB, Bool.and_eq_true, Bool.and_eq_true] at h
    obtain ⟨⟨h1, h2⟩, h3⟩ := h
    obtain rfl := of_decide_eq_true h2
    rw [cL, capA, WkL, SV.c]
    exact ⟨_, _, rfl, by rw [WkV]; exact ⟨r1, eqN_eq h1, hr r (by simp), rfl⟩, capB_wk l vs h3 fun x hx => hr x (by simp at hx ⊢; exact .inr hx)⟩
  | [], _ :: _, h, _ => by cases h
  | (r, off) :: l, [], h, _ => by cases h
  | (r, off) :: l, .val _ :: vs, h, _ => by cases h
  | (r, off) :: l, .int _ _ :: vs, h, _ => by cases h
  | (r, off) :: l, .bool _ :: vs, h, _ => by cases h
  | (r, off) :: l, .str _ :: vs, h, _ => by cases h
  | (r, off) :: l, .lst _ _ :: vs, h, _ => by cases h
  | (r, off) :: l, .ptx _ _ _ _ :: vs, h, _ => by cases h
  | (r, off) :: l, .sl _ _ _ _ _ :: vs, h, _ => by cases h
  | (r, off) :: l, .dpt _ _ _ _ :: vs, h, _ => by cases h
  | (r, off) :: l, .agg _ :: vs, h, _ => by cases h
  | (r, off) :: l, .tup _ :: vs, h, _ => by cases h
  | (r, off) :: l, .clo _ _ :: vs, h, _ => by cases h
  | (r, off) :: l, .undef :: vs, h, _ => by cases h
  | (r, off) :: l, .junk :: vs, h, _ => by cases h
theorem capB_id : ∀ {caps : List (Nat × Nat)} {vs : List (SV σ)}, capB some caps vs = true → (∀ r ∈ caps.map (·.1), θ r = some r) → capB θ caps vs = true
  | [], [], _, _ => rfl
  | (r, off) :: l, .ptr r1 off1 :: vs, h, hr => by
    rw [capB, Bool.and_eq_true, Bool.and_eq_true] at h ⊢
    obtain ⟨⟨h1, h2⟩, h3⟩ := h
    refine ⟨⟨?_, h2⟩, capB_id h3 fun x hx => hr x (by simp at hx ⊢; exact .inr hx)⟩
    rw [hr r (by simp)]; exact h1
  | [], _ :: _, h, _ => by cases h
  | (r, off) :: l, [], h, _ => by cases h
  | (r, off) :: l, .val _ :: vs, h, _ => by cases h
  | (r, off) :: l, .int _ _ :: vs, h, _ => by cases h
  | (r, off) :: l, .bool _ :: vs, h, _ => by cases h
  | (r, off) :: l, .str _ :: vs, h, _ => by cases h
  | (r, off) :: l, .lst _ _ :: vs, h, _ => by cases h
  | (r, off) :: l, .ptx _ _ _ _ :: vs, h, _ => by cases h
  | (r, off) :: l, .sl _ _ _ _ _ :: vs, h, _ => by cases h
  | (r, off) :: l, .dpt _ _ _ _ :: vs, h, _ => by cases h
  | (r, off) :: l, .agg _ :: vs, h, _ => by cases h
  | (r, off) :: l, .tup _ :: vs, h, _ => by cases h
  | (r, off) :: l, .clo _ _ :: vs, h, _ => by cases h
  | (r, off) :: l, .undef :: vs, h, _ => by cases h
  | (r, off) :: l, .junk :: vs, h, _ => by cases h
theorem pkC_wk : ∀ (c : CS) (v : SV σ) (p : PK σ (uC c).T), pkC rd c v = some p → allT s p.cs → (∀ x ∈ p.fz, Freed θ hp2 x.1) → (∀ x ∈ thC c v, θ x.1 = x.2) → (∀ x ∈ oC c (p.f s), (hp2 x.1).isSome = true) → (∀ r ∈ ptRefs [c], θ r = some r ∧ (hp2 r).isSome = true) →
    WkV θ (rdc s rd) hp2 (aC c (p.f s)) (v.c s) ∧ ∀ x ∈ oC c (p.f s), WkO θ (rdc s rd) hp2 x.1 x.2
  | .dat u, v, p, hp, hc, hfz, hth, hl, hpt => by
    refine ⟨?_, fun x hx => (by simp [oC] at hx)⟩
    simp only [pkC] at hp
    split at hp
    · rename_i hs
      cases u with
      | int k =>
        simp only [pkU] at hp
        split at hp
        · rename_i k' f hf
          split at hp
          · rename_i hk _; obtain ⟨hk⟩ := hk; subst hk; cases hp; exact wk_dd (asI_c hf s)
          · cases hp
        · cases hp
      | bool =>
        simp only [pkU] at hp
        split at hp
        · rename_i f hf; cases hp; exact wk_dd (asB_c hf s)
        · cases hp
      | str =>
        simp only [pkU] at hp
        split at hp
        · rename_i f hf; cases hp; exact wk_dd (asS_c hf s)
        · cases hp
      | list t =>
        simp only [pkU] at hp
        exact pkL_wk hp hc hfz
      | pair a b => cases hs
      | unit => cases hs
    · cases hp
  | .own r e u, v, p, hp, hc, hfz, hth, hl, hpt => by
    simp only [pkC] at hp
    split at hp
    · cases hp
      have h1 := hth (r, none) (by simp [thC])
      have h2 := hl (r, _) (List.mem_singleton.2 rfl)
      refine ⟨?_, fun x hx => ?_⟩
      · rw [SV.c]
        simp only [aC, List.length_nil]
        rw [WkV]
        exact ⟨h2, .inr (.inl ⟨h1, rfl, rfl, rfl, rfl⟩)⟩
      · simp only [oC, List.mem_singleton] at hx
        subst hx
        unfold WkO
        simp only [h1]
        rfl
    · rename_i r1 z n
      split at hp
      · rename_i e' u' f hr
        split at hp
        · rename_i hk _ hd
          subst hk
          obtain ⟨rfl, hz⟩ := of_decide_eq_true hd
          cases hp
          have hn : n s ≤ (f s).length := of_decide_eq_true hc.1
          have hn' : ((f s).take (n s)).length = n s := by rw [List.length_take]; omega
          have h1 := hth (r, some r1) (by simp [thC])
          have h2 := hl (r, _) (List.mem_singleton.2 rfl)
          refine ⟨?_, fun x hx => ?_⟩
          · rw [SV.c]
            simp only [aC, castLF, oOf, Nat.zero_mul, cpOf, hn']
            rw [WkV]
            exact ⟨h2, .inl ⟨r1, h1, rfl⟩⟩
          · simp only [oC, List.mem_singleton] at hx
            subst hx
            unfold WkO
            simp only [h1]
            exact ⟨true, _, by simp only [rdc, hr, Option.map_some, SO.c], .inr (.inr ⟨n s * szU u', (encL_take u' (n s) (f s)).symm⟩), fun _ => rfl, fun h => (by cases h)⟩
        · cases hp
      · cases hp
    · cases hp
  | .nil, v, p, hp, hc, hfz, hth, hl, hpt => by
    refine ⟨?_, fun x hx => (by simp [oC] at hx)⟩
    simp only [pkC] at hp
    split at hp
    · cases hp; exact wk_dd (by rw [SV.c])
    · cases hp
  | .np, v, p, hp, hc, hfz, hth, hl, hpt => by
    refine ⟨?_, fun x hx => (by simp [oC] at hx)⟩
    simp only [pkC] at hp
    split at hp
    · cases hp; exact wk_dd (by rw [SV.c])
    · cases hp
  | .pt r off, v, p, hp, hc, hfz, hth, hl, hpt => by
    refine ⟨?_, fun x hx => (by simp [oC] at hx)⟩
    simp only [pkC] at hp
    split at hp
    · split at hp
      · rename_i hd
        obtain ⟨rfl, rfl⟩ := of_decide_eq_true hd
        cases hp
        have := hpt r (by simp [ptRefs])
        rw [SV.c]
        exact wkV_id (.ptr r off) fun r' hr' => by simp [AV.refs] at hr'; subst hr'; exact this
      · cases hp
    · cases hp
  | .cl f caps, v, p, hp, hc, hfz, hth, hl, hpt => by
    refine ⟨?_, fun x hx => (by simp [oC] at hx)⟩
    simp only [pkC] at hp
    split at hp
    · rename_i f' vs
      split at hp
      · rename_i hd
        rw [Bool.and_eq_true] at hd
        obtain ⟨hd, hb⟩ := hd
        obtain rfl := of_decide_eq_true hd
        cases hp
        have hm : ∀ r ∈ caps.map (·.1), r ∈ ptRefs [.cl f caps] := fun r hr => by show r ∈ caps.map (·.1) ++ []; rw [List.append_nil]; exact hr
        have hb' : capB θ caps vs = true := capB_id hb fun r hr => (hpt r (hm r hr)).1
        rw [SV.c]
        show WkV θ _ hp2 (.clo f (capA caps)) _
        rw [WkV]
        exact ⟨_, rfl, capB_wk caps vs hb' fun r hr => (hpt r (hm r hr)).2⟩
      · cases hp
    · cases hp
theorem pkCs_wk : ∀ (cs : List CS) (vs : List (SV σ)) (p : PK σ (uCs cs).T), pkCs rd cs vs = some p → allT s p.cs → (∀ x ∈ p.fz, Freed θ hp2 x.1) → (∀ x ∈ thCs cs vs, θ x.1 = x.2) → (∀ x ∈ oCs cs (p.f s), (hp2 x.1).isSome = true) → (∀ r ∈ ptRefs cs, θ r = some r ∧ (hp2 r).isSome = true) →
    WkL θ (rdc s rd) hp2 (aCs cs (p.f s)) (cL s vs) ∧ ∀ x ∈ oCs cs (p.f s), WkO θ (rdc s rd) hp2 x.1 x.2
  | [], [], p, hp, hc, hfz, hth, hl, hpt => by
    refine ⟨?_, fun x hx => (by cases hx)⟩
    rw [cL, show aCs [] (p.f s) = [] from rfl, WkL]
  | c :: cs, v :: vs, p, hp, hc, hfz, hth, hl, hpt => by
    rw [pkCs] at hp
    split at hp
    · rename_i x y hx hy
      cases hp
      rw [allT_append] at hc
      have e1 : pfst (uC c) (uCs cs) (pmk (uC c) (uCs cs) (x.f s) (y.f s)) = x.f s := pfst_mk _ _ _ _
      have e2 : psnd (uC c) (uCs cs) (pmk (uC c) (uCs cs) (x.f s) (y.f s)) = y.f s := psnd_mk _ _ _ _
      simp only [oCs, e1, e2] at hl
      have hpt1 : ∀ r ∈ ptRefs [c], θ r = some r ∧ (hp2 r).isSome = true := fun r hr => hpt r (by cases c <;> simp [ptRefs] at hr ⊢ <;> simp [hr])
      have hpt2 : ∀ r ∈ ptRefs cs, θ r = some r ∧ (hp2 r).isSome = true := fun r hr => hpt r (by cases c <;> simp [ptRefs, hr])
      obtain ⟨a1, a2⟩ := pkC_wk c v x hx hc.1 (fun z hz => hfz z (List.mem_append_left _ hz)) (fun z hz => hth z (List.mem_append_left _ hz)) (fun z hz => hl z (List.mem_append_left _ hz)) hpt1
      obtain ⟨b1, b2⟩ := pkCs_wk cs vs y hy hc.2 (fun z hz => hfz z (List.mem_append_right _ hz)) (fun z hz => hth z (List.mem_append_right _ hz)) (fun z hz => hl z (List.mem_append_right _ hz)) hpt2
      refine ⟨?_, fun z hz => ?_⟩
      · rw [cL]
        simp only [aCs, e1, e2]
        rw [WkL]
        exact ⟨_, _, rfl, a1, b1⟩
      · simp only [oCs, e1, e2] at hz
        rcases List.mem_append.1 hz with h | h
        · exact a2 z h
        · exact b2 z h
    · cases hp
  | [], _ :: _, p, hp, _, _, _, _, _ => by cases hp
  | _ :: _, [], p, hp, _, _, _, _, _ => by cases hp
end
end Go.Proofs.Ytkhdpjlpahammaa
set_option linter.unusedVariables false
set_option linter.unusedSimpArgs false
namespace Go.Proofs.Ytkhdpjlpahammaa
open Go.RowKit
theorem memB_iff {r : Nat} {l : List Nat} : memB r l = true ↔ r ∈ l := by rw [memB_eq, List.contains_iff_mem]
theorem memB_false {r : Nat} {l : List Nat} : memB r l = false ↔ r ∉ l := by rw [← memB_iff]; cases memB r l <;> simp
section
variable {σ : Type} {s : σ} {θ : Nat → Option Nat} {hp2 : Nat → Option AO}
theorem ptRefs_it {i : IT} {l : List IT} : ∀ r ∈ itRefs [i], r ∈ itRefs (i :: l) := fun r hr => by
  cases i <;> simp [itRefs] at hr ⊢ <;> simp [hr]
theorem itRefs_tl {i : IT} {l : List IT} : ∀ r ∈ itRefs l, r ∈ itRefs (i :: l) := fun r hr => by
  cases i <;> simp [itRefs] <;> simp [hr]
theorem pkI_wk {d : SS σ} {N : Nat} : ∀ (i : IT) (p : PK σ (uI i).T), pkI d i = some p → allT s p.cs → (∀ x ∈ p.fz, Freed θ hp2 x.1) → (∀ x ∈ thI d i, θ x.1 = x.2) → (∀ x ∈ aH i (p.f s), (hp2 x.1).isSome = true) → (∀ r ∈ itRefs [i], θ r = some r ∧ (hp2 r).isSome = true) → (∀ r ∈ covH [i], θ r = some r) →
    (∀ x ∈ aT i (p.f s), WkV θ (d.c s N).rd hp2 x.2 ((d.c s N).get x.1)) ∧ ∀ x ∈ aH i (p.f s), WkO θ (d.c s N).rd hp2 x.1 x.2
  | .tmp t agg cs, p, hp, hc, hfz, hth, hl, hpt, hcv => by
    rw [← rdS_c s N]
    have hget : ∀ v, lookQ t d.tm = some v → (d.c s N).get t = v.c s := fun v hv => by
      rw [lookQ_eq] at hv
      unfold SL.get SS.c
      simp only [look_cT, hv, Option.map_some]
    have hpt' : ∀ r ∈ ptRefs cs, θ r = some r ∧ (hp2 r).isSome = true := fun r hr => hpt r (by simp [itRefs, hr])
    simp only [pkI] at hp
    simp only [thI] at hth
    cases hv : lookQ t d.tm with
    | none => simp only [hv] at hp; cases hp
    | some v =>
      simp only [hv] at hp hth
      cases agg with
      | false =>
        simp only at hp hth
        obtain ⟨a, b⟩ := pkCs_wk cs [v] p hp hc hfz hth hl hpt'
        refine ⟨fun x hx => ?_, b⟩
        have hx : x ∈ [(t, one1A (aCs cs (p.f s)))] := hx
        rw [List.mem_singleton] at hx
        subst hx
        show WkV θ _ hp2 (one1A (aCs cs (p.f s))) ((d.c s N).get t)
        rw [hget v hv]
        rw [cL, cL] at a
        generalize aCs cs (p.f s) = ys at a ⊢
        cases ys with
        | nil => rw [WkL] at a; cases a
        | cons y ys =>
          rw [WkL] at a
          obtain ⟨x, xs, h1, h2, h3⟩ := a
          cases h1
          cases ys with
          | nil => exact h2
          | cons z zs => rw [WkL] at h3; obtain ⟨_, _, h4, _⟩ := h3; cases h4
      | true =>
        simp only at hp hth
        cases v with
        | agg vs =>
          simp only at hp hth
          obtain ⟨a, b⟩ := pkCs_wk cs vs p hp hc hfz hth hl hpt'
          refine ⟨fun x hx => ?_, b⟩
          have hx : x ∈ [(t, AV.agg (aCs cs (p.f s)))] := hx
          rw [List.mem_singleton] at hx
          subst hx
          show WkV θ _ hp2 (.agg (aCs cs (p.f s))) ((d.c s N).get t)
          rw [hget _ hv, SV.c, WkV]
          exact ⟨_, rfl, a⟩
        | _ => cases hp
  | .mix r cs, p, hp, hc, hfz, hth, hl, hpt, hcv => by
    rw [← rdS_c s N]
    refine ⟨fun x hx => (by cases hx), ?_⟩
    simp only [pkI] at hp
    simp only [thI] at hth
    cases hvs : rdS d r with
    | none => simp only [hvs] at hp; cases hp
    | some o =>
      cases o with
      | mix vs =>
        simp only [hvs] at hp hth
        have hpt' : ∀ r ∈ ptRefs cs, θ r = some r ∧ (hp2 r).isSome = true := fun r hr => hpt r (by simp [itRefs, hr])
        obtain ⟨a, b⟩ := pkCs_wk cs vs p hp hc hfz hth (fun x hx => hl x (List.mem_cons_of_mem _ hx)) hpt'
        intro x hx
        rcases List.mem_cons.1 hx with rfl | hx
        · unfold WkO
          have hr : θ r = some r := hcv r (by simp [covH])
          simp only [hr]
          exact ⟨_, by simp only [rdc, hvs, Option.map_some, SO.c], a⟩
        · exact b x hx
      | data e u f wr => simp only [hvs] at hp; cases hp
      | arr u f => simp only [hvs] at hp; cases hp
      | mp f => simp only [hvs] at hp; cases hp
      | dead => simp only [hvs] at hp; cases hp
  | .row r e u, p, hp, hc, hfz, hth, hl, hpt, hcv => by
    rw [← rdS_c s N]
    refine ⟨fun x hx => (by cases hx), ?_⟩
    simp only [pkI] at hp
    split at hp
    · rename_i e' u' f hr
      split at hp
      · rename_i hk _ hd
        subst hk
        have hd := of_decide_eq_true hd
        subst hd
        cases hp
        intro x hx
        have hx : x ∈ [(r, AO.data e' (szU u') (encL u' (f s)) true)] := hx
        rw [List.mem_singleton] at hx
        subst hx
        exact wkO_same (hcv r (by simp [covH])) (by simp only [rdc, hr, Option.map_some, SO.c]) (fun r hr => (by cases hr))
      · cases hp
    · cases hp
  | .arr r u, p, hp, hc, hfz, hth, hl, hpt, hcv => by
    rw [← rdS_c s N]
    refine ⟨fun x hx => (by cases hx), ?_⟩
    simp only [pkI] at hp
    split at hp
    · rename_i u' f hr
      split at hp
      · rename_i hk _
        subst hk
        cases hp
        intro x hx
        have hx : x ∈ [(r, AO.mix ((encL u' (f s)).map .d))] := hx
        rw [List.mem_singleton] at hx
        subst hx
        exact wkO_same (hcv r (by simp [covH])) (by simp only [rdc, hr, Option.map_some, SO.c]) (fun r hr => (by simp [oRefs, refs_data] at hr))
      · cases hp
    · cases hp
  | .mp r, p, hp, hc, hfz, hth, hl, hpt, hcv => by
    rw [← rdS_c s N]
    refine ⟨fun x hx => (by cases hx), ?_⟩
    simp only [pkI] at hp
    split at hp
    · rename_i f hr
      cases hp
      intro x hx
      have hx : x ∈ [(r, AO.mp (f s))] := hx
      rw [List.mem_singleton] at hx
      subst hx
      exact wkO_same (hcv r (by simp [covH])) (by simp only [rdc, hr, Option.map_some, SO.c]) (fun r hr => (by cases hr))
    · cases hp
  | .drop t, p, hp, hc, hfz, hth, hl, hpt, hcv => by
    refine ⟨fun x hx => ?_, fun x hx => (by cases hx)⟩
    have hx : x ∈ [(t, AV.junk)] := hx
    rw [List.mem_singleton] at hx
    subst hx
    rw [WkV]; trivial
  | .dead r, p, hp, hc, hfz, hth, hl, hpt, hcv => by
    refine ⟨fun x hx => (by cases hx), fun x hx => ?_⟩
    have hx : x ∈ [(r, AO.dead)] := hx
    rw [List.mem_singleton] at hx
    subst hx
    unfold WkO
    simp only [hcv r (by simp [covH])]
theorem covH_hd {i : IT} {l : List IT} : ∀ r ∈ covH [i], r ∈ covH (i :: l) := fun r hr => by
  cases i <;> simp [covH] at hr ⊢ <;> simp [hr]
theorem covH_tl {i : IT} {l : List IT} : ∀ r ∈ covH l, r ∈ covH (i :: l) := fun r hr => by
  cases i <;> simp [covH] <;> simp [hr]
theorem pkIs_wk {d : SS σ} {N : Nat} : ∀ (l : List IT) (p : PK σ (uIs l).T), pkIs d l = some p → allT s p.cs → (∀ x ∈ p.fz, Freed θ hp2 x.1) → (∀ x ∈ thIs d l, θ x.1 = x.2) → (∀ x ∈ aHs l (p.f s), (hp2 x.1).isSome = true) → (∀ r ∈ itRefs l, θ r = some r ∧ (hp2 r).isSome = true) → (∀ r ∈ covH l, θ r = some r) →
    (∀ x ∈ aTs l (p.f s), WkV θ (d.c s N).rd hp2 x.2 ((d.c s N).get x.1)) ∧ ∀ x ∈ aHs l (p.f s), WkO θ (d.c s N).rd hp2 x.1 x.2
  | [], p, hp, hc, hfz, hth, hl, hpt, hcv => ⟨fun x hx => (by cases hx), fun x hx => (by cases hx)⟩
  | i :: l, p, hp, hc, hfz, hth, hl, hpt, hcv => by
    rw [pkIs] at hp
    split at hp
    · rename_i x y hx hy
      cases hp
      rw [allT_append] at hc
      have e1 : pfst (uI i) (uIs l) (pmk (uI i) (uIs l) (x.f s) (y.f s)) = x.f s := pfst_mk _ _ _ _
      have e2 : psnd (uI i) (uIs l) (pmk (uI i) (uIs l) (x.f s) (y.f s)) = y.f s := psnd_mk _ _ _ _
      simp only [aHs, e1, e2] at hl
      obtain ⟨a1, a2⟩ := pkI_wk (N := N) i x hx hc.1 (fun z hz => hfz z (List.mem_append_left _ hz)) (fun z hz => hth z (List.mem_append_left _ hz)) (fun z hz => hl z (List.mem_append_left _ hz)) (fun r hr => hpt r (ptRefs_it r hr)) (fun r hr => hcv r (covH_hd r hr))
      obtain ⟨b1, b2⟩ := pkIs_wk (N := N) l y hy hc.2 (fun z hz => hfz z (List.mem_append_right _ hz)) (fun z hz => hth z (List.mem_append_right _ hz)) (fun z hz => hl z (List.mem_append_right _ hz)) (fun r hr => hpt r (itRefs_tl r hr)) (fun r hr => hcv r (covH_tl r hr))
      simp only [aTs, aHs, e1, e2]
      refine ⟨fun z hz => ?_, fun z hz => ?_⟩
      · rcases List.mem_append.1 hz with h | h
        · exact a1 z h
        · exact b1 z h
      · rcases List.mem_append.1 hz with h | h
        · exact a2 z h
        · exact b2 z h
    · cases hp
end
def thF (th : List (Nat × Option Nat)) (r : Nat) : Option Nat := match look r th with | some x => x | none => some r
theorem keyTh_eq : ∀ th : List (Nat × Option Nat), keyTh th = th.map (·.1)
  | [] => rfl
  | (r, x) :: l => by rw [keyTh, keyTh_eq l]; rfl
theorem thF_key {th : List (Nat × Option Nat)} (hn : nodupB (keyTh th) = true) : ∀ x ∈ th, thF th x.1 = x.2 := by
  induction th with
  | nil => intro x hx; cases hx
  | cons y l ih =>
    intro x hx
    obtain ⟨k, v⟩ := y
    rw [keyTh, nodupB, Bool.and_eq_true] at hn
    have hk : k ∉ keyTh l := by have := hn.1; simp only [Bool.not_eq_true'] at this; exact memB_false.1 this
    rcases List.mem_cons.1 hx with rfl | hx
    · unfold thF; rw [look, if_pos rfl]
    · have hne : k ≠ x.1 := fun e => hk (by rw [keyTh_eq, e]; exact List.mem_map.2 ⟨x, hx, rfl⟩)
      have := ih hn.2 x hx
      unfold thF at this ⊢
      rw [look, if_neg hne]
      exact this
theorem thF_out {th : List (Nat × Option Nat)} {r : Nat} (h : r ∉ keyTh th) : thF th r = some r := by
  unfold thF
  cases hl : look r th with
  | none => rfl
  | some x => exact (h (by rw [keyTh_eq]; exact List.mem_map.2 ⟨_, look_mem hl, rfl⟩)).elim
theorem thF_in {th : List (Nat × Option Nat)} {r : Nat} (h : r ∈ keyTh th) : ∃ x, (r, x) ∈ th ∧ thF th r = x := by
  unfold thF
  cases hl : look r th with
  | none =>
    exfalso
    rw [keyTh_eq] at h
    obtain ⟨y, hy, rfl⟩ := List.mem_map.1 h
    have : ∀ l : List (Nat × Option Nat), y ∈ l → look y.1 l ≠ none := by
      intro l
      induction l with
      | nil => intro h; cases h
      | cons z l ih =>
        intro h
        rw [look]
        split
        · simp
        · rcases List.mem_cons.1 h with rfl | h
          · rename_i hne; exact (hne rfl).elim
          · exact ih h
    exact this th hy hl
  | some x => exact ⟨x, look_mem hl, rfl⟩
theorem tells_look {GL : Nat → Option (List DV)} {N : Nat} {hp0 : Nat → Option AO} {s s' : SL} (θ : Nat → Option Nat) (hk : ∀ r o, hp0 r = some o → θ r = some r ∧ (s'.rd r).isSome = true) (hw : WkH θ s.rd s'.rd) (ht : ∀ t v, look t s'.tm = some v → WkV θ s.rd s'.rd v (s.get t)) : Tells GL N hp0 s.S s'.S := fun E0 w0 E a w he hS hA => by
  have hp : E.hp = s.rd := hS.hp
  have hw' : WkH θ E.hp s'.rd := by rw [hp]; exact hw
  refine ⟨weakE E θ s'.rd, ⟨hS.h, rfl, weak_simH hS.sim hw', hS.n, hS.df, fun t => ?_⟩, ⟨weak_ext0 hA hw' (fun r o ho => by rw [he] at ho; exact hk r o ho), weak_step hw' hA.fr⟩⟩
  show Rel _ (s'.get t) _
  unfold SL.get
  cases hl : look t s'.tm with
  | none => simp only; rw [Rel]; trivial
  | some y =>
    have := ht _ _ hl
    rw [← hp] at this
    exact weak_rel hS.sim hw' _ _ _ this (hS.tm t)
section
variable {σ τ σ' : Type}
theorem idle_c {s : σ} {d : SS σ} {N r : Nat} (h : idleO (rdS d r) = true) {o : AO} (ho : (d.c s N).rd r = some o) : o.mutB = false := by
  rw [← rdS_c] at ho
  unfold rdc at ho
  unfold idleO at h
  split at h
  · rename_i e; rw [e] at ho; cases ho
  · rename_i e; rw [e] at ho; cases ho; rfl
  · rename_i e; rw [e] at ho; cases ho; rfl
  · cases h
theorem noneAt_rd {s : σ} {d : SS σ} {N r : Nat} (h : noneAt (rdS d) r = false) : ((d.c s N).rd r).isSome = true := by
  rw [← rdS_c]
  unfold noneAt at h
  unfold rdc
  split at h
  · cases h
  · rename_i e; rw [e]; rfl
theorem noneAt_rd0 {s : σ} {d : SS σ} {N r : Nat} (h : noneAt (rdS d) r = true) : (d.c s N).rd r = none := by
  rw [← rdS_c]
  unfold noneAt at h
  unfold rdc
  split at h
  · rename_i e; rw [e]; rfl
  · cases h
theorem okTm_look {keys : List Nat} {dh : SS σ'} : ∀ {l : List (Nat × SV σ)} {skip : List Nat}, okTm keys dh skip l = true → ∀ t v, t ∉ skip → look t l = some v → okNs keys dh v.refs = true
  | [], skip, _, t, v, _, h => by cases h
  | (k, x) :: l, skip, hok, t, v, ht, h => by
    rw [okTm] at hok
    rw [look] at h
    by_cases hk : k = t
    · subst hk
      rw [if_pos rfl] at h
      cases h
      rw [memB_false.2 ht] at hok
      simp only [Bool.and_eq_true] at hok
      exact hok.1
    · rw [if_neg hk] at h
      cases hm : memB k skip with
      | true => rw [hm] at hok; exact okTm_look hok t v ht h
      | false =>
        rw [hm] at hok
        simp only [Bool.and_eq_true] at hok
        exact okTm_look hok.2 t v (fun hin => by rcases List.mem_cons.1 hin with e | e; exact hk e.symm; exact ht e) h
theorem okHp_look {keys : List Nat} {dh : SS σ'} : ∀ {l : List (Nat × SO σ)} {skip : List Nat}, okHp keys dh skip l = true → ∀ r o, r ∉ skip → look r l = some o → r ∉ keys ∧ okNs keys dh (refsSO o) = true
  | [], skip, _, t, v, _, h => by cases h
  | (k, x) :: l, skip, hok, t, v, ht, h => by
    rw [okHp] at hok
    rw [look] at h
    by_cases hk : k = t
    · subst hk
      rw [if_pos rfl] at h
      cases h
      rw [memB_false.2 ht] at hok
      simp only [Bool.and_eq_true, Bool.not_eq_true'] at hok
      exact ⟨memB_false.1 hok.1.1, hok.1.2⟩
    · rw [if_neg hk] at h
      cases hm : memB k skip with
      | true => rw [hm] at hok; exact okHp_look hok t v ht h
      | false =>
        rw [hm] at hok
        simp only [Bool.and_eq_true] at hok
        exact okHp_look hok.2 t v (fun hin => by rcases List.mem_cons.1 hin with e | e; exact hk e.symm; exact ht e) h
theorem oRefs_c (s : σ) (o : SO σ) : oRefs (o.c s) = refsSO o := by
  cases o with
  | mix cs => exact refsL_c s cs
  | arr u f => show AV.refs.refsL ((encL u (f s)).map .d) = []; rw [refs_data]
  | data e t f wr => rfl
  | mp f => rfl
  | dead => rfl
theorem aTs_all : ∀ (its : List IT) (x : (uIs its).T) (t : Nat), t ∈ covT its → ∃ v, (t, v) ∈ aTs its x
  | [], _, _, h => by cases h
  | i :: l, x, t, h => by
    have tl : t ∈ covT l → ∃ v, (t, v) ∈ aTs (i :: l) x := fun h => by
      obtain ⟨v, hv⟩ := aTs_all l (psnd (uI i) (uIs l) x) t h
      exact ⟨v, by rw [aTs]; exact List.mem_append_right _ hv⟩
    cases i with
    | tmp k a cs =>
      rw [covT] at h
      rcases List.mem_cons.1 h with rfl | h
      · cases a with
        | true => exact ⟨_, by rw [aTs]; exact List.mem_append_left _ (List.mem_singleton.2 rfl)⟩
        | false => exact ⟨_, by rw [aTs]; exact List.mem_append_left _ (List.mem_singleton.2 rfl)⟩
      · exact tl h
    | drop k =>
      rw [covT] at h
      rcases List.mem_cons.1 h with rfl | h
      · exact ⟨_, by rw [aTs]; exact List.mem_append_left _ (List.mem_singleton.2 rfl)⟩
      · exact tl h
    | mix r cs => exact tl (by simpa [covT] using h)
    | row r e u => exact tl (by simpa [covT] using h)
    | arr r u => exact tl (by simpa [covT] using h)
    | mp r => exact tl (by simpa [covT] using h)
    | dead r => exact tl (by simpa [covT] using h)
theorem look_notin {α : Type} {k : Nat} : ∀ {l : List (Nat × α)}, k ∉ l.map (·.1) → look k l = none
  | [], _ => rfl
  | (i, x) :: l, h => by
    rw [List.map_cons] at h
    rw [look, if_neg (fun e => h (by rw [e]; exact List.mem_cons_self))]
    exact look_notin fun hm => h (List.mem_cons_of_mem _ hm)
theorem aHs_all : ∀ (its : List IT) (x : (uIs its).T) (r : Nat), r ∈ covH its → ∃ o, (r, o) ∈ aHs its x
  | [], _, _, h => by cases h
  | i :: l, x, t, h => by
    have tl : t ∈ covH l → ∃ v, (t, v) ∈ aHs (i :: l) x := fun h => by
      obtain ⟨v, hv⟩ := aHs_all l (psnd (uI i) (uIs l) x) t h
      exact ⟨v, by rw [aHs]; exact List.mem_append_right _ hv⟩
    cases i with
    | tmp k a cs => exact tl (by simpa [covH] using h)
    | drop k => exact tl (by simpa [covH] using h)
    | mix r cs =>
      rw [covH] at h
      rcases List.mem_cons.1 h with rfl | h
      · exact ⟨_, by rw [aHs]; exact List.mem_append_left _ List.mem_cons_self⟩
      · exact tl h
    | row r e u =>
      rw [covH] at h
      rcases List.mem_cons.1 h with rfl | h
      · exact ⟨_, by rw [aHs]; exact List.mem_append_left _ (List.mem_singleton.2 rfl)⟩
      · exact tl h
    | arr r u =>
      rw [covH] at h
      rcases List.mem_cons.1 h with rfl | h
      · exact ⟨_, by rw [aHs]; exact List.mem_append_left _ (List.mem_singleton.2 rfl)⟩
      · exact tl h
    | mp r =>
      rw [covH] at h
      rcases List.mem_cons.1 h with rfl | h
      · exact ⟨_, by rw [aHs]; exact List.mem_append_left _ (List.mem_singleton.2 rfl)⟩
      · exact tl h
    | dead r =>
      rw [covH] at h
      rcases List.mem_cons.1 h with rfl | h
      · exact ⟨_, by rw [aHs]; exact List.mem_append_left _ (List.mem_singleton.2 rfl)⟩
      · exact tl h
end
end Go.Proofs.Ytkhdpjlpahammaa
set_option linter.unusedVariables false
set_option linter.unusedSimpArgs false
namespace Go.Proofs.Ytkhdpjlpahammaa
open Go.RowKit
section
variable {σ τ : Type}
def packR (d : SS σ) (its : List IT) (d' : SS τ) : Option (PK τ (uIs its).T) :=
  match pkIs d' its with
  | none => none
  | some p => match packB d its d' p.fz with
    | true => some p
    | false => none
theorem grow_head (d : SS σ) (its : List IT) : Grow d Prod.fst (headD d its) := ⟨⟨_, rfl⟩, ⟨_, rfl⟩⟩
theorem look_isSome_of_mem {α : Type} {k : Nat} {l : List (Nat × α)} {v : α} (h : (k, v) ∈ l) : ∃ w, look k l = some w := by
  cases hl : look k l with
  | some w => exact ⟨w, rfl⟩
  | none => exact (look_none hl v h).elim
theorem mapT_len (g : τ → σ) : ∀ l : List (Nat × SV σ), (mapT g l).length = l.length
  | [] => rfl
  | (t, v) :: l => by rw [mapT, List.length_cons, List.length_cons, mapT_len g l]
theorem mapO_len (g : τ → σ) : ∀ l : List (Nat × SO σ), (mapO g l).length = l.length
  | [] => rfl
  | (t, v) :: l => by rw [mapO, List.length_cons, List.length_cons, mapO_len g l]
theorem injTh_spec {σ' : Type} {keys : List Nat} {dh : SS σ'} : ∀ {th : List (Nat × Option Nat)}, injTh keys dh th = true → (∀ r x, (r, some x) ∈ th → x ∈ keys ∨ idleO (rdS dh x) = true) ∧ ∀ r r' x, (r, some x) ∈ th → (r', some x) ∈ th → r = r'
  | [], _ => ⟨fun r x h => (by cases h), fun r r' x h => (by cases h)⟩
  | (k, none) :: l, h => by
    rw [injTh] at h
    obtain ⟨a, b⟩ := injTh_spec h
    refine ⟨fun r x hm => ?_, fun r r' x hm hm' => ?_⟩
    · rcases List.mem_cons.1 hm with e | hm
      · cases e
      · exact a r x hm
    · rcases List.mem_cons.1 hm with e | hm
      · cases e
      · rcases List.mem_cons.1 hm' with e | hm'
        · cases e
        · exact b r r' x hm hm'
  | (k, some y) :: l, h => by
    rw [injTh, Bool.and_eq_true, Bool.and_eq_true] at h
    obtain ⟨⟨h1, h2⟩, h3⟩ := h
    obtain ⟨a, b⟩ := injTh_spec h3
    have hno : ∀ r x, (r, some x) ∈ l → y ≠ x := fun r x hm => by
      have := List.all_eq_true.1 h2 _ hm
      simpa using this
    refine ⟨fun r x hm => ?_, fun r r' x hm hm' => ?_⟩
    · rcases List.mem_cons.1 hm with e | hm
      · cases e
        rcases (Bool.or_eq_true _ _).mp h1 with h | h
        · exact .inl (memB_iff.1 h)
        · exact .inr h
      · exact a r x hm
    · rcases List.mem_cons.1 hm with e | hm
      · cases e
        rcases List.mem_cons.1 hm' with e | hm'
        · cases e; rfl
        · exact (hno _ _ hm' rfl).elim
      · rcases List.mem_cons.1 hm' with e | hm'
        · cases e; exact (hno _ _ hm rfl).elim
        · exact b r r' x hm hm'
theorem pack_core {N : Nat} {d : SS σ} {its : List IT} {g : τ → σ} {d' : SS τ} {p : PK τ (uIs its).T} {s : τ} (hg : Grow d g d') (h : packR d its d' = some p) (hc : allT s p.cs) :
    ∃ θ : Nat → Option Nat, (∀ r, (look r d.hp).isSome = true → θ r = some r ∧ (((headD d its).c (g s, p.f s) N).rd r).isSome = true) ∧ WkH θ (d'.c s N).rd ((headD d its).c (g s, p.f s) N).rd ∧
      ∀ t v, look t ((headD d its).c (g s, p.f s) N).tm = some v → WkV θ (d'.c s N).rd ((headD d its).c (g s, p.f s) N).rd v ((d'.c s N).get t) := by
  unfold packR at h
  split at h
  · cases h
  rename_i p' hp
  split at h
  · rename_i hB
    cases h
    unfold packB at hB
    simp only [Bool.and_eq_true] at hB
    obtain ⟨⟨⟨b1, b2⟩, ⟨b3, b4⟩, b5, b6⟩, ⟨b7, b8⟩, b9, b10, b11⟩ := hB
    -- the names
    have hkey := thF_key b3
    have hkd : ∀ r ∈ keyTh (thIs d' its), look r d.hp = none ∧ r ∉ covH its := fun r hr => by
      have := List.all_eq_true.1 b4 r hr
      rw [Bool.and_eq_true, Bool.not_eq_true'] at this
      refine ⟨?_, memB_false.1 this.2⟩
      have h1 := this.1
      unfold noneAt rdS at h1
      rw [lookQ_eq] at h1
      split at h1
      · assumption
      · cases h1
    have hT : ((headD d its).c (g s, p.f s) N).tm = aTs its (p.f s) ++ cT (g s) d.tm := by
      show cT (g s, p.f s) (headTs its Prod.snd ++ mapT Prod.fst d.tm) = _
      rw [cT_append, headTs_c, mapT_c]
    have hH : ((headD d its).c (g s, p.f s) N).hp = aHs its (p.f s) ++ cO (g s) d.hp := by
      show cO (g s, p.f s) (headHs its Prod.snd ++ mapO Prod.fst d.hp) = _
      rw [cO_append, headHs_c, mapOs_c]
    have hHs : ∀ r, (∃ o, (r, o) ∈ aHs its (p.f s)) → (((headD d its).c (g s, p.f s) N).rd r).isSome = true := fun r ⟨o, ho⟩ => by
      unfold SL.rd
      rw [hH, look_append]
      obtain ⟨w, hw⟩ := look_isSome_of_mem ho
      rw [hw]
      rfl
    have hNs : ∀ l, okNs (keyTh (thIs d' its)) (headD d its) l = true → ∀ r ∈ l, thF (thIs d' its) r = some r ∧ (((headD d its).c (g s, p.f s) N).rd r).isSome = true := fun l hl r hr => by
      have := List.all_eq_true.1 hl r hr
      unfold okN at this
      rw [Bool.and_eq_true, Bool.not_eq_true', Bool.not_eq_true'] at this
      exact ⟨thF_out (memB_false.1 this.1), noneAt_rd this.2⟩
    -- the items
    have hcov : ∀ r ∈ covH its, thF (thIs d' its) r = some r := fun r hr => thF_out fun hk => (hkd r hk).2 hr
    have hfz : ∀ x ∈ p.fz, Freed (thF (thIs d' its)) ((headD d its).c (g s, p.f s) N).rd x.1 := fun x hx r' hr' o ho => by
      have := List.all_eq_true.1 b6 x hx
      unfold freedB at this
      rw [Bool.and_eq_true] at this
      obtain ⟨f1, f2⟩ := this
      by_cases hk : r' ∈ keyTh (thIs d' its)
      · obtain ⟨y, hy1, hy2⟩ := thF_in hk
        rw [hy2] at hr'
        subst hr'
        have := List.all_eq_true.1 f1 _ hy1
        simp at this
      · rw [thF_out hk] at hr'
        cases hr'
        rcases (Bool.or_eq_true _ _).mp f2 with h | h
        · exact (hk (memB_iff.1 h)).elim
        · exact idle_c h ho
    obtain ⟨w1, w2⟩ := pkIs_wk (s := s) (N := N) (θ := thF (thIs d' its)) (hp2 := ((headD d its).c (g s, p.f s) N).rd) its p hp hc hfz hkey (fun x hx => hHs x.1 ⟨x.2, hx⟩) (hNs _ b9) hcov
    -- what is kept
    obtain ⟨⟨l1, g1⟩, ⟨l2, g2⟩⟩ := hg
    have hl1 : d'.tm.take (d'.tm.length - d.tm.length) = l1 := by rw [g1, List.length_append, mapT_len, Nat.add_sub_cancel, List.take_left]
    have hl2 : d'.hp.take (d'.hp.length - d.hp.length) = l2 := by rw [g2, List.length_append, mapO_len, Nat.add_sub_cancel, List.take_left]
    rw [hl1] at b1
    rw [hl2] at b2
    have keptT : ∀ t w, t ∉ covT its → look t d.tm = some w → (d'.c s N).get t = w.c (g s) := fun t w ht hw => by
      unfold SL.get SS.c
      simp only [look_cT, g1, look_append]
      rw [look_notin (l := l1) (fun hm => ?_)]
      · have : look t (mapT g d.tm) = some (w.map g) := by
          have : ∀ l : List (Nat × SV σ), look t (mapT g l) = (look t l).map (SV.map g) := by
            intro l
            induction l with
            | nil => rfl
            | cons x l ih =>
              obtain ⟨k, v⟩ := x
              rw [mapT, look, look]
              split
              · rfl
              · exact ih
          rw [this, hw]
          rfl
        simp only [this, Option.map_some, map_c]
      · obtain ⟨x, hx, rfl⟩ := List.mem_map.1 hm
        have := List.all_eq_true.1 b1 x hx
        rcases (Bool.or_eq_true _ _).mp this with h | h
        · exact ht (memB_iff.1 h)
        · rw [lookQ_eq, hw] at h; cases h
    have keptH : ∀ r w, r ∉ covH its → look r d.hp = some w → (d'.c s N).rd r = some (w.c (g s)) := fun r w ht hw => by
      unfold SL.rd SS.c
      simp only [look_cO, g2, look_append]
      rw [look_notin (l := l2) (fun hm => ?_)]
      · have : look r (mapO g d.hp) = some (w.map g) := by
          have : ∀ l : List (Nat × SO σ), look r (mapO g l) = (look r l).map (SO.map g) := by
            intro l
            induction l with
            | nil => rfl
            | cons x l ih =>
              obtain ⟨k, v⟩ := x
              rw [mapO, look, look]
              split
              · rfl
              · exact ih
          rw [this, hw]
          rfl
        simp only [this, Option.map_some, mapO_c]
      · obtain ⟨x, hx, rfl⟩ := List.mem_map.1 hm
        have := List.all_eq_true.1 b2 x hx
        rcases (Bool.or_eq_true _ _).mp this with h | h
        · exact ht (memB_iff.1 h)
        · unfold noneAt rdS at h
          rw [lookQ_eq, hw] at h; cases h
    have notH : ∀ r, look r (aHs its (p.f s)) = none → r ∉ covH its := fun r hn hr => by
      obtain ⟨o, ho⟩ := aHs_all its (p.f s) r hr
      exact look_none hn o ho
    refine ⟨thF (thIs d' its), fun r hs => ?_, ⟨fun r o ho => ?_, fun r' r'' o' o'' r ho' ho'' hm' hm'' ht' ht'' => ?_⟩, fun t v hv => ?_⟩
    · refine ⟨thF_out fun hk => ?_, ?_⟩
      · rw [(hkd r hk).1] at hs; cases hs
      · unfold SL.rd
        rw [hH, look_append]
        cases look r (aHs its (p.f s)) with
        | some x => rfl
        | none =>
          simp only [look_cO]
          cases hl : look r d.hp with
          | none => rw [hl] at hs; cases hs
          | some w => rfl
    · unfold SL.rd at ho
      rw [hH, look_append] at ho
      cases hl : look r (aHs its (p.f s)) with
      | some x =>
        rw [hl] at ho
        cases ho
        exact w2 _ (look_mem hl)
      | none =>
        rw [hl] at ho
        simp only [look_cO] at ho
        cases hw : look r d.hp with
        | none => rw [hw] at ho; cases ho
        | some w =>
          rw [hw] at ho
          cases ho
          have hnc := notH r hl
          obtain ⟨k1, k2⟩ := okHp_look b8 r w hnc hw
          exact wkO_same (thF_out k1) (keptH r w hnc hw) (fun q hq => hNs _ k2 q (by rw [oRefs_c] at hq; exact hq))
    · by_cases k1 : r' ∈ keyTh (thIs d' its)
      · obtain ⟨x, x1, x2⟩ := thF_in k1
        rw [x2] at ht'
        subst ht'
        by_cases k2 : r'' ∈ keyTh (thIs d' its)
        · obtain ⟨y, y1, y2⟩ := thF_in k2
          rw [y2] at ht''
          subst ht''
          exact (injTh_spec b5).2 _ _ _ x1 y1
        · rw [thF_out k2] at ht''
          cases ht''
          rcases (injTh_spec b5).1 _ _ x1 with h | h
          · exact (k2 h).elim
          · rw [idle_c h ho''] at hm''; cases hm''
      · rw [thF_out k1] at ht'
        cases ht'
        by_cases k2 : r'' ∈ keyTh (thIs d' its)
        · obtain ⟨y, y1, y2⟩ := thF_in k2
          rw [y2] at ht''
          subst ht''
          rcases (injTh_spec b5).1 _ _ y1 with h | h
          · exact (k1 h).elim
          · rw [idle_c h ho'] at hm'; cases hm'
        · rw [thF_out k2] at ht''
          cases ht''
          rfl
    · rw [hT, look_append] at hv
      cases hl : look t (aTs its (p.f s)) with
      | some x =>
        rw [hl] at hv
        cases hv
        exact w1 _ (look_mem hl)
      | none =>
        rw [hl] at hv
        simp only [look_cT] at hv
        cases hw : look t d.tm with
        | none => rw [hw] at hv; cases hv
        | some w =>
          rw [hw] at hv
          cases hv
          have hnc : t ∉ covT its := fun hc => by
            obtain ⟨v, hv⟩ := aTs_all its (p.f s) t hc
            exact look_none hl v hv
          rw [keptT t w hnc hw]
          exact wkV_id _ fun r hr => hNs _ (okTm_look b7 t w hnc hw) r (by rw [refs_c] at hr; exact hr)
  · cases h
end
end Go.Proofs.Ytkhdpjlpahammaa
