import Derived.Test.YtkpijdndakljjaaXAp
import Derived.Test.YtkpijdndakljjaaHBp
set_option linter.unusedSimpArgs false
set_option linter.unusedVariables false
namespace Go.Proofs.Ytkpijdndakljjaa
open Go.RowKit
structure GT where
 t:U
 l:List t.T
def gTab (_:Nat):Option GT:=none
end Go.Proofs.Ytkpijdndakljjaa
namespace Go.Proofs.Ytkpijdndakljjaa
open Go.RowKit
inductive LoopR {υ β:Type} (body:υ→Option (υ ⊕ β)):υ→β→Prop where
 | done {x b} (h:body x=some (.inr b)):LoopR body x b
 | step {x y b} (h:body x=some (.inl y)) (k:LoopR body y b):LoopR body x b
theorem LoopR.det {υ β:Type} {body:υ→Option (υ ⊕ β)} {x:υ} {b c:β} (h:LoopR body x b):LoopR body x c→b=c:=by
 induction h with
 | done h =>
   intro k
   cases k with
   | done h'=>rw [h] at h';cases h';rfl
   | step h' _=>rw [h] at h';cases h'
 | step h _ ih =>
   intro k
   cases k with
   | done h'=>rw [h] at h';cases h'
   | step h' k'=>rw [h] at h';cases h';exact ih k'
open Classical in
noncomputable def loopO {υ β:Type} (body:υ→Option (υ ⊕ β)) (x:υ):Option β :=
 if h:∃b,LoopR body x b then some (Classical.choose h) else none
theorem loopO_iff {υ β:Type} {body:υ→Option (υ ⊕ β)} {x:υ} {b:β}:loopO body x=some b↔LoopR body x b:=by
 unfold loopO
 constructor
 ·intro h
  split at h
  ·rename_i hx;cases h;exact Classical.choose_spec hx
  ·cases h
 ·intro h
  rw [dif_pos ⟨b,h⟩]
  exact congrArg some ((Classical.choose_spec (⟨b,h⟩:∃b,LoopR body x b)).det h)
theorem loopO_eq {υ β:Type} (body:υ→Option (υ ⊕ β)) (x:υ):loopO body x=match body x with
 | some (.inl y)=>loopO body y
 | some (.inr b)=>some b
 | none=>none:=by
 cases h:body x with
 | none =>
   unfold loopO
   rw [dif_neg]
   rintro ⟨b,k⟩
   cases k with
   | done h'=>rw [h] at h';cases h'
   | step h' _=>rw [h] at h';cases h'
 | some r =>
   cases r with
   | inr b=>exact loopO_iff.2 (.done h)
   | inl y =>
     simp only
     cases hy:loopO body y with
     | some b=>exact loopO_iff.2 (.step h (loopO_iff.1 hy))
     | none =>
       unfold loopO
       rw [dif_neg]
       rintro ⟨b,k⟩
       cases k with
       | done h'=>rw [h] at h';cases h'
       | step h' k'=>rw [h] at h';cases h';rw [loopO_iff.2 k'] at hy;cases hy
inductive VI where
 | u (u:U) | own (r e:Nat) (u:U) | nil | np | pt (r off:Nat) | cl (f:Nat) (caps:List (Nat×Nat)) | agg (l:List VI) | junk
inductive OI where
 | mix (l:List VI) | row (e:Nat) (u:U) (wr:Bool) | arr (u:U) | mp | dead
structure NI where
 p:Nat
 kind:Nat
 tms:List (Nat×VI)
 hps:List (Nat×OI)
 tm0:List (Nat×VI)
 hp0:List (Nat×OI)
inductive TR:Type→Type→Type 1 where
 | ret {β σ:Type} (f:σ→β):TR β σ
 | fail {β σ:Type} (msg:String):TR β σ
 | bad {β σ:Type} (is:List Nat) (msg:String):TR β σ
 | note {β σ:Type} (n:NI):TR β σ
 | req {β σ:Type} (c:List (σ→Bool)) (r:TR β σ):TR β σ
 | bnd {β σ α:Type} (f:σ→Option α) (r:TR β (σ×α)):TR β σ
 | iff {β σ:Type} (c:σ→Bool) (t e:TR β σ):TR β σ
 | join {β σ υ:Type} (a:TR (υ ⊕ β) σ) (b:TR β (σ×υ)):TR β σ
 | loop {β σ υ:Type} (x0:σ→υ) (body:TR (υ ⊕ β) (σ×υ)):TR β σ
 | out {β σ υ:Type} (t:TR β σ):TR (υ ⊕ β) σ
def allB {σ:Type} (s:σ):List (σ→Bool)→Bool
 | []=>true
 | [c]=>c s
 | c::cs=>c s&&allB s cs
theorem allB_iff {σ:Type} (s:σ):∀cs:List (σ→Bool),allB s cs=true↔allT s cs
 | []=>by simp [allB,allT]
 | [c]=>by simp [allB,allT]
 | c::d::cs=>by
   rw [allB,allT,Bool.and_eq_true,allB_iff s (d::cs)]
   intro h;cases h
noncomputable def TR.run:{β σ:Type}→TR β σ→σ→Option β
 | _,_,.ret f,s=>some (f s)
 | _,_,.fail _,_=>none
 | _,_,.bad _ _,_=>none
 | _,_,.note _,_=>none
 | _,_,.req c r,s=>bif allB s c then r.run s else none
 | _,_,.bnd f r,s=>match f s with | some a=>r.run (s,a) | none=>none
 | _,_,.iff c t e,s=>bif c s then t.run s else e.run s
 | _,_,.join a b,s=>match a.run s with
   | some (.inl u)=>b.run (s,u)
   | some (.inr x)=>some x
   | none=>none
 | _,_,.loop x0 body,s=>loopO (fun u=>body.run (s,u)) (x0 s)
 | _,_,.out t,s=>match t.run s with | some b=>some (.inr b) | none=>none
def reqT {β σ:Type} (cs:List (σ→Bool)) (t:TR β σ):TR β σ:=match cs with | []=>t | cs => .req cs t
theorem run_req {β σ:Type} {cs:List (σ→Bool)} {t:TR β σ} {s:σ} {b:β} (h:(reqT cs t).run s=some b):allT s cs∧t.run s=some b:=by
 unfold reqT at h
 split at h
 ·exact ⟨trivial,h⟩
 ·rw [TR.run] at h
  cases hc:allB s cs with
  | true=>rw [hc] at h;exact ⟨(allB_iff s cs).1 hc,h⟩
  | false=>rw [hc] at h;cases h
def HR.thn {β:Type}:{σ:Type}→HR σ→(SV σ→List (Nat×SO σ)→TR β σ)→((τ:Type)→(τ→σ)→SV τ→List (Nat×SO τ)→TR β τ)→TR β σ
 | _,.ok v us,K0,_=>K0 v us
 | _,.req c r,K0,K=>reqT c (r.thn K0 K)
 | _,.bnd f r,_,K => .bnd f (r.thn (fun v us=>K _ Prod.fst v us) (fun τ g v us=>K τ (fun t=>(g t).1) v us))
 | _,.fail m,_,_ => .fail m
 | _,.iff c t e,K0,K => .iff c (t.thn K0 K) (e.thn K0 K)
theorem HR.thn_c {β:Type} {b:β}:{σ:Type}→(h:HR σ)→{s:σ}→{x:Option (AV×List (Nat×AO))}→{K0:SV σ→List (Nat×SO σ)→TR β σ}→{K:(τ:Type)→(τ→σ)→SV τ→List (Nat×SO τ)→TR β τ} →
 (h.thn K0 K).run s=some b→h.Ok s x →
 (∃v us,x=some (v.c s,cO s us)∧(K0 v us).run s=some b)∨∃(τ:Type) (g:τ→σ) (s':τ) (v:SV τ) (us:List (Nat×SO τ)),g s'=s∧x=some (v.c s',cO s' us)∧(K τ g v us).run s'=some b
 | _,.ok v us,s,x,K0,K,hr,ho => .inl ⟨v,us,ho,hr⟩
 | _,.req c r,s,x,K0,K,hr,ho=>by
   rw [HR.thn] at hr
   obtain ⟨h1,h2⟩:=run_req hr
   exact HR.thn_c r h2 (ho h1)
 | _,.bnd f r,s,x,K0,K,hr,ho=>by
   rw [HR.thn,TR.run] at hr
   cases hf:f s with
   | none=>rw [hf] at hr;cases hr
   | some a =>
     rw [hf] at hr
     rcases HR.thn_c r hr (ho a hf) with ⟨v,us,h1,h2⟩ | ⟨τ,g,s',v,us,h1,h2,h3⟩
     ·exact .inr ⟨_,Prod.fst,(s,a),v,us,rfl,h1,h2⟩
     ·exact .inr ⟨τ,fun t=>(g t).1,s',v,us,by show (g s').1=s;rw [h1],h2,h3⟩
 | _,.fail m,s,x,K0,K,hr,ho=>by rw [HR.thn,TR.run] at hr;cases hr
 | _,.iff c t e,s,x,K0,K,hr,ho=>by
   rw [HR.thn,TR.run] at hr
   rw [HR.Ok] at ho
   cases hc:c s with
   | true=>rw [hc] at hr ho;exact HR.thn_c t hr ho
   | false=>rw [hc] at hr ho;exact HR.thn_c e hr ho
section
variable {σ:Type}
def constS (v:Value):SV σ :=
 match v with
 | .agg cs=>match cs.toList.all (·.oneCell') with | true => .agg (cs.toList.map .val) | false => .junk
 | .tuple cs=>match cs.isEmpty with | true => .undef | false => .junk
 | v => .val v
theorem cL_vals (s:σ):∀l:List Value,cL s (l.map .val)=l.map fun c=>AV.d (.val c)
 | []=>rfl
 | x::l=>by rw [List.map_cons,cL,cL_vals s l,SV.c];rfl
theorem constS_c (s:σ) (v:Value):(constS v:SV σ).c s=constA v:=by
 unfold constS constA
 split
 ·rename_i cs
  show _=(if (cs.toList.all fun x=>x.oneCell')=true then AV.agg (cs.toList.map fun c => .d (.val c)) else .junk)
  cases h:(cs.toList.all fun x=>x.oneCell') with
  | true=>rw [if_pos rfl,SV.c,cL_vals]
  | false=>rw [if_neg (by simp),SV.c]
 ·rename_i cs
  show _=(if cs.isEmpty=true then AV.undef else .junk)
  cases h:cs.isEmpty with
  | true=>rw [if_pos rfl,SV.c]
  | false=>rw [if_neg (by simp),SV.c]
 ·rename_i h1 h2
  rw [SV.c]
  cases v<;>first | rfl | exact (h1 _ rfl).elim | exact (h2 _ rfl).elim
def evS (d:SS σ):Operand→SV σ
 | .tmp t=>match lookQ t d.tm with | some x=>x | none => .junk
 | .const v=>constS v
 | .global g=>match gTab g with | some x => .dpt x.t (fun _=>x.l) (fun _=>0) 0 | none => .junk
 | .func f=>match Nat.blt f 1048576 with | true => .clo f [] | false => .junk
def noG (g:Nat):Option (List DV):=(gTab g).map fun x=>encL x.t x.l
theorem evS_c (s:σ) (N:Nat) (d:SS σ) (x:Operand):(evS d x).c s=(d.c s N).ev noG x:=by
 cases x with
 | tmp t =>
   show _=(d.c s N).get t
   unfold evS SL.get SS.c
   simp only [look_cT]
   rw [lookQ_eq]
   cases look t d.tm with
   | none=>simp only [Option.map_none];rw [SV.c]
   | some x=>rfl
 | const v=>exact constS_c s v
 | global g =>
   show (match gTab g with | some x=>SV.dpt x.t (fun _=>x.l) (fun _=>0) 0 | none => .junk:SV σ).c s=(match (gTab g).map fun x=>encL x.t x.l with | some cells=>AV.dptr cells 0 | none => .junk)
   cases gTab g with
   | none=>rw [SV.c];rfl
   | some x=>rw [SV.c,Nat.zero_mul];rfl
 | func f =>
   show (match Nat.blt f 1048576 with | true=>SV.clo f [] | false => .junk:SV σ).c s=(match Nat.blt f 1048576 with | true=>AV.clo f [] | false => .junk)
   cases Nat.blt f 1048576 with
   | true=>rw [SV.c,cL]
   | false=>rw [SV.c]
def rdS (d:SS σ) (r:Nat):Option (SO σ):=lookQ r d.hp
theorem rdS_c (s:σ) (N:Nat) (d:SS σ):rdc s (rdS d)=(d.c s N).rd:=by
 funext r
 unfold rdc rdS SL.rd SS.c
 rw [lookQ_eq]
 simp only [look_cO]
def putS (d:SS σ) (o:Option Nat) (v:SV σ):SS σ:=match o with | some t=>⟨(t,v)::d.tm,d.hp⟩ | none=>d
def appD (d:SS σ) (o:Option Nat) (v:SV σ) (us:List (Nat×SO σ)):SS σ:=⟨(putS d o v).tm,us++d.hp⟩
theorem putS_c (s:σ) (N:Nat) (d:SS σ) (o:Option Nat) (v:SV σ):(putS d o v).c s N=(d.c s N).put o (v.c s):=by
 cases o<;>rfl
theorem appD_c (s:σ) (N:Nat) (d:SS σ) (o:Option Nat) (v:SV σ) (us:List (Nat×SO σ)):(appD d o v us).c s N=(d.c s N).app o (v.c s) (cO s us):=by
 unfold appD SL.app
 rw [←putS_c]
 unfold SS.c
 simp only [cO_append]
structure EN where
 ks:List Nat
 rds:List Nat
 lvs:List Nat
 chg:List Nat
def enOf (e:Ef):EN:=⟨keysE e,e.rds,e.lvs,e.chg⟩
def memB (r:Nat):List Nat→Bool
 | []=>false
 | x::l=>match decide (r=x) with | true=>true | false=>memB r l
theorem memB_eq (r:Nat):∀l:List Nat,memB r l=l.contains r
 | []=>rfl
 | x::l=>by
   rw [memB,List.contains_cons,memB_eq r l]
   by_cases h:r=x
   ·subst h;simp
   ·rw [decide_eq_false h];simp [h]
def noneIn (a b:List Nat):Bool:=a.all fun r => !memB r b
def ncN (x y:EN):Bool:=(noneIn x.ks y.rds&&noneIn x.ks y.ks)&&(noneIn x.chg y.lvs&&(noneIn y.ks x.rds&&noneIn y.chg x.lvs))
theorem all_and {α:Type} (p q:α→Bool):∀l:List α,l.all (fun r=>p r&&q r)=(l.all p&&l.all q)
 | []=>rfl
 | x::l=>by rw [List.all_cons,List.all_cons,List.all_cons,all_and p q l];cases p x<;>cases q x<;>cases l.all p<;>rfl
theorem ncN_eq (x y:Ef):ncN (enOf x) (enOf y)=ncB x y:=by
 unfold ncN ncB noneIn enOf
 simp only [memB_eq,all_and,Bool.and_assoc]
def ncAllS (ops:Array Oper) (anc:List Nat) (o:Oper) (e:EN) (log:List (Nat×EN)):Bool :=
 log.all fun x=>memB x.1 anc||match ops[x.1]? with | some oj=>oj.apart ops o&&ncN x.2 e | none=>false
theorem ncAllS_c (ops:Array Oper) (anc:List Nat) (o:Oper) (e:Ef) (log:List (Nat×Ef)):ncAllS ops anc o (enOf e) (log.map fun x=>(x.1,enOf x.2))=ncAll ops anc o e log:=by
 unfold ncAllS ncAll
 rw [List.all_map]
 congr 1
 funext x
 simp only [Function.comp,memB_eq]
 cases ops[x.1]? with
 | none=>rfl
 | some oj=>simp only [ncN_eq]
def namesO:List (Nat×SO σ)→List Nat
 | []=>[]
 | (r,_)::l=>r::namesO l
theorem namesO_c (s:σ):∀us:List (Nat×SO σ),(cO s us).map (·.1)=namesO us
 | []=>rfl
 | (r,o)::l=>by rw [cO,List.map_cons,namesO,namesO_c s l]
def sameKS (x:Option (SO σ)) (o:SO σ):Bool :=
 match x with
 | none=>false
 | some x=>match x.kind,o.kind with
   | .data a,.data b=>decide (a=b)
   | .mix,.mix=>true
   | .mp,.mp=>true
   | .dead,.dead=>true
   | _,_=>false
theorem sameKS_c (s:σ) (x:Option (SO σ)) (o:SO σ):sameK (x.map (·.c s)) (o.c s)=sameKS x o:=by
 unfold sameK sameKS
 cases x with
 | none=>rfl
 | some x =>
   simp only [Option.map_some]
   cases x<;>cases o<;>simp [SO.c,SO.kind]<;>rfl
def chgsS (rd:Nat→Option (SO σ)):List (Nat×SO σ)→List Nat
 | []=>[]
 | (r,o)::l=>match sameKS (rd r) o with | true=>chgsS rd l | false=>r::chgsS rd l
theorem chgsS_c (s:σ) (rd:Nat→Option (SO σ)):∀us:List (Nat×SO σ),chgs (rdc s rd) (cO s us)=chgsS rd us
 | []=>rfl
 | (r,o)::l=>by
   have ih:=chgsS_c s rd l
   unfold chgs at ih ⊢
   rw [cO,List.filter_cons,chgsS]
   simp only
   rw [show sameK (rdc s rd r) (o.c s)=sameKS (rd r) o from sameKS_c s (rd r) o]
   cases h:sameKS (rd r) o with
   | true=>simpa using ih
   | false=>simp [ih]
end
end Go.Proofs.Ytkpijdndakljjaa
namespace Go.Proofs.Ytkpijdndakljjaa
open Go.RowKit
inductive WG (σ:Type):Type where
 | yes | no | dyn (t:Nat) (f:σ→Bool) (want:Bool) | bad
section
variable {σ:Type}
def wantS (ops:Array Oper) (d:SS σ) (o:Oper):WG σ :=
 match o.guard with
 | none => .yes
 | some (j,want)=>match ops[j]? with
   | none => .no
   | some oj=>match oj.dst with
     | none => .no
     | some t=>match lookQ t d.tm with
       | some (.val (.bool b))=>match b,want with
         | true,true => .yes
         | false,false => .yes
         | _,_ => .no
       | some (.bool f) => .dyn t f want
       | some .undef => .no
       | _ => .bad
def WG.Ok (s:σ) (N:Nat) (d:SS σ) (x:Option Bool):WG σ→Prop
 | .yes=>x=some true
 | .no=>x=some false
 | .dyn t f want=>x=some (f s==want)∧(d.c s N).get t=aBool (f s)
 | .bad=>True
def refT (d:SS σ) (t:Nat) (b:Bool):SS σ:=⟨(t,.val (.bool b))::d.tm,d.hp⟩
theorem refT_S {s:σ} {N:Nat} {d:SS σ} {t:Nat} {b:Bool} (h:(d.c s N).get t=aBool b):((refT d t b).c s N).S=(d.c s N).S:=by
 unfold SL.S
 have:((refT d t b).c s N).get=(d.c s N).get:=by
  funext k
  unfold SL.get
  show (match look k ((t,(SV.val (.bool b):SV σ).c s)::cT s d.tm) with | some x=>x | none=>AV.junk)=_
  rw [look]
  by_cases hk:t=k
  ·subst hk
   rw [if_pos rfl,SV.c]
   exact h.symm
  ·rw [if_neg hk];rfl
 rw [this]
 rfl
theorem wantS_c (s:σ) (N:Nat) (ops:Array Oper) (d:SS σ) (o:Oper):(wantS ops d o).Ok s N d (wantedL ops (d.c s N) o):=by
 unfold wantS wantedL
 cases o.guard with
 | none=>rfl
 | some p =>
   obtain ⟨j,want⟩:=p
   simp only
   cases ops[j]? with
   | none=>rfl
   | some oj =>
     simp only [Option.bind_some]
     cases oj.dst with
     | none=>rfl
     | some t =>
       simp only
       have he:(d.c s N).get t=match lookQ t d.tm with | some v=>v.c s | none => .junk:=by
        unfold SL.get SS.c
        simp only [look_cT]
        rw [lookQ_eq]
        cases look t d.tm<;>rfl
       rw [he]
       cases hlq:lookQ t d.tm with
       | none=>trivial
       | some v =>
         cases v with
         | val v=>cases v with
           | bool b=>simp only [SV.c];cases b<;>cases want<;>rfl
           | _=>trivial
         | bool f =>
           refine ⟨?_,?_⟩
           ·simp only [SV.c,aBool]
           ·rw [he,hlq];simp only [SV.c]
         | undef=>simp only [SV.c];rfl
         | _=>trivial
def callS (ρ:Operand→SV σ) (o:Oper):Option (Nat×List (SV σ)) :=
 match o.op with
 | .call c=>match c.callee with
   | .value x=>match ρ x with
     | .clo f caps=>some (f % 1048576,caps.take (f / 1048576)++(c.args.toList.map ρ++caps.drop (f / 1048576)))
     | _=>none
   | _=>none
 | _=>none
def noCall (o:Oper):Bool :=
 match o.op with
 | .call c=>match c.callee with
   | .value _=>false
   | _=>true
 | _=>true
theorem callS_c (s:σ) (ρ:Operand→SV σ) (o:Oper) {f:Nat} {args:List (SV σ)} (h:callS ρ o=some (f,args)):callA (fun x=>(ρ x).c s) o=some (f,cL s args):=by
 unfold callS at h
 unfold callA
 split at h
 ·rename_i c hc
  rw [hc]
  simp only
  split at h
  ·rename_i x hx
   rw [hx]
   simp only
   split at h
   ·rename_i g caps hv
    cases h
    rw [hv,SV.c]
    simp only
    rw [cL_append,cL_append,cL_take,cL_drop,list_map_c]
   ·cases h
  ·cases h
 ·cases h
theorem noCall_c (ρ:Operand→AV) (o:Oper) (h:noCall o=true):callA ρ o=none:=by
 unfold noCall at h
 unfold callA
 split at h
 ·rename_i c hc
  rw [hc]
  simp only
  split at h
  ·cases h
  ·rename_i hx
   split
   ·rename_i x hx';exact (hx x hx').elim
   ·rfl
 ·rename_i hc
  split
  ·rename_i c hc';exact (hc c hc').elim
  ·rfl
def onlyH (T:Ty) (o:Oper):Bool :=
 match o.op with
 | .alloc _=>true
 | .box _ _=>true
 | .buildSlice _ _ _=>true
 | .load _ _=>true
 | .store _ _ _=>true
 | .makeSlice _ _ _=>true
 | .makeMap _ _=>true
 | .lookup _ _ _ _=>true
 | .mapUpdate _ _ _ _=>true
 | .convert src dst _=>match T src,T dst with
   | some si,some di=>match si.k,di.k with | .slice _,.str=>true | _,_=>false
   | _,_=>false
 | .call c=>match c.callee with | .builtin .append=>true | .builtin .copy=>true | _=>false
 | _=>false
theorem onlyH_q (T:Ty) (q:Nat→Bool) (lk:Nat→Option AK) (o:Oper) (ρ:Operand→AV) (h:onlyH T o=true):effQ T q lk o ρ=none:=by
 unfold onlyH at h
 unfold effQ
 cases ho:o.op with
 | convert src dst x =>
   rw [ho] at h
   simp only at h ⊢
   split at h
   ·rename_i si di h1 h2
    split at h
    ·rename_i h3 h4;simp only [h1,h2,h3,h4]
    ·cases h
   ·cases h
 | call c =>
   rw [ho] at h
   simp only at h ⊢
   split at h
   ·rename_i hc;simp only [hc];split<;>rfl
   ·rename_i hc;simp only [hc];split<;>rfl
   ·cases h
 | alloc t=>rfl
 | box t x=>rfl
 | buildSlice t n parts=>rfl
 | load t x=>rfl
 | store t x y=>rfl
 | makeSlice t l c=>rfl
 | makeMap t r=>rfl
 | lookup t x y ok=>rfl
 | mapUpdate t x y z=>rfl
 | _=>first | (rw [ho] at h;cases h;done) | (exact absurd h (by rw [ho];simp)) | (rw [ho] at h;simp at h)
def sN (T:Ty) (o:Oper) (ρ:Operand→SV σ):Option (List (σ→Bool)×SV σ) :=
 match o.op with
 | .convert src dst x=>match T src,T dst with
   | some si,some di=>match si.k,di.k with
     | .str,.slice e=>match u8Of (T e),asS (ρ x) with
       | true,some f=>some ([fun s=>decide ((f s).length≤140737488355328)],.lst (.int .u8) fun s=>(f s).map fun b=>(b.toNat:Int))
       | _,_=>none
     | _,_=>none
   | _,_=>none
 | _=>none
theorem sN_c (s:σ) (T:Ty) (q:Nat→Bool) (lk:Nat→Option AK) (rd:Nat→Option AO) (slot:Nat) (o:Oper) (ρ:Operand→SV σ) {cs:List (σ→Bool)} {v:SV σ} (h:sN T o ρ=some (cs,v)) (hc:allT s cs) :
 effQ T q lk o (fun x=>(ρ x).c s)=none∧effH T rd slot o (fun x=>(ρ x).c s)=none∧effN T rd slot o (fun x=>(ρ x).c s)=some (v.c s,[]):=by
 unfold sN at h
 split at h
 ·rename_i src dst x ho
  split at h
  ·rename_i si di hsi hdi
   split at h
   ·rename_i e k1 k2
    split at h
    ·rename_i f hu hf
     cases h
     have hx:=asS_c (s:=s) hf
     have hl:(⟨(f s).toArray⟩:ByteArray).size=(f s).length:=by show (f s).toArray.size=_;simp
     refine ⟨?_,?_,?_⟩
     ·unfold effQ
      simp only [ho,hsi,hdi,k1,k2,hx]
     ·unfold effH
      simp only [ho,hsi,hdi,k1,k2]
     ·unfold effN
      simp only [ho,hsi,hdi,k1,k2,hx,hu,if_true,hl]
      rw [if_pos (of_decide_eq_true hc.1),SV.c,bytesD_enc,List.length_map]
    ·cases h
   ·cases h
  ·cases h
 ·cases h
def restS (rs:List Nat) (rd:Nat→Option (SO σ)):Nat→Option (SO σ):=fun r=>match memB r rs with | true=>rd r | false=>none
theorem restS_c (s:σ) (rs:List Nat) (rd:Nat→Option (SO σ)):rdc s (restS rs rd)=restrict rs (rdc s rd):=by
 funext r
 unfold rdc restS restrict
 rw [memB_eq]
 cases rs.contains r<;>rfl
def opRefs (o:Oper) (ρ:Operand→SV σ):List Nat:=o.op.operands.toList.flatMap fun x=>(ρ x).refs
theorem opRefs_c (s:σ) (o:Oper) (ρ:Operand→SV σ):(o.op.operands.toList.flatMap fun x=>((ρ x).c s).refs)=opRefs o ρ:=by
 unfold opRefs
 congr 1
 funext x
 exact refs_c s _
end
structure Grow {σ τ:Type} (d:SS σ) (g:τ→σ) (d':SS τ):Prop where
 tm:∃l,d'.tm=l++mapT g d.tm
 hp:∃l,d'.hp=l++mapO g d.hp
section
variable {σ τ υ:Type}
mutual
theorem map_map (g:τ→σ) (h:υ→τ):∀v:SV σ,(v.map g).map h=v.map fun t=>g (h t)
 | .val v=>by rw [SV.map,SV.map,SV.map]
 | .int k f=>by rw [SV.map,SV.map,SV.map]
 | .bool f=>by rw [SV.map,SV.map,SV.map]
 | .str f=>by rw [SV.map,SV.map,SV.map]
 | .lst t f=>by rw [SV.map,SV.map,SV.map]
 | .ptr r off=>by rw [SV.map,SV.map,SV.map]
 | .ptx r z j off=>by rw [SV.map,SV.map,SV.map]
 | .sl r z o n cap=>by rw [SV.map,SV.map,SV.map];cases o<;>cases cap<;>rfl
 | .dpt t f j off=>by rw [SV.map,SV.map,SV.map]
 | .agg cs=>by rw [SV.map,SV.map,SV.map,mapL_mapL g h cs]
 | .tup cs=>by rw [SV.map,SV.map,SV.map,mapL_mapL g h cs]
 | .clo f cs=>by rw [SV.map,SV.map,SV.map,mapL_mapL g h cs]
 | .undef=>by rw [SV.map,SV.map,SV.map]
 | .junk=>by rw [SV.map,SV.map,SV.map]
theorem mapL_mapL (g:τ→σ) (h:υ→τ):∀l:List (SV σ),mapL h (mapL g l)=mapL (fun t=>g (h t)) l
 | []=>by rw [mapL,mapL,mapL]
 | x::l=>by rw [mapL,mapL,mapL,map_map g h x,mapL_mapL g h l]
end
theorem mapO_mapO (g:τ→σ) (h:υ→τ) (o:SO σ):(o.map g).map h=o.map fun t=>g (h t):=by
 cases o with
 | mix cs=>show SO.mix _=SO.mix _;rw [mapL_mapL]
 | _=>rfl
theorem mapT_mapT (g:τ→σ) (h:υ→τ):∀l:List (Nat×SV σ),mapT h (mapT g l)=mapT (fun t=>g (h t)) l
 | []=>rfl
 | (t,v)::l=>by rw [mapT,mapT,mapT,map_map,mapT_mapT g h l]
theorem mapH_mapH (g:τ→σ) (h:υ→τ):∀l:List (Nat×SO σ),mapO h (mapO g l)=mapO (fun t=>g (h t)) l
 | []=>rfl
 | (t,v)::l=>by rw [mapO,mapO,mapO,mapO_mapO,mapH_mapH g h l]
theorem mapT_append (g:τ→σ):∀a b:List (Nat×SV σ),mapT g (a++b)=mapT g a++mapT g b
 | [],b=>rfl
 | (t,v)::a,b=>by rw [List.cons_append,mapT,mapT,mapT_append g a b];rfl
theorem mapH_append (g:τ→σ):∀a b:List (Nat×SO σ),mapO g (a++b)=mapO g a++mapO g b
 | [],b=>rfl
 | (t,v)::a,b=>by rw [List.cons_append,mapO,mapO,mapH_append g a b];rfl
mutual
theorem map_id:∀v:SV σ,v.map (fun s=>s)=v
 | .val v=>by rw [SV.map]
 | .int k f=>by rw [SV.map]
 | .bool f=>by rw [SV.map]
 | .str f=>by rw [SV.map]
 | .lst t f=>by rw [SV.map]
 | .ptr r off=>by rw [SV.map]
 | .ptx r z j off=>by rw [SV.map]
 | .sl r z o n cap=>by rw [SV.map];cases o<;>cases cap<;>rfl
 | .dpt t f j off=>by rw [SV.map]
 | .agg cs=>by rw [SV.map,mapL_id cs]
 | .tup cs=>by rw [SV.map,mapL_id cs]
 | .clo f cs=>by rw [SV.map,mapL_id cs]
 | .undef=>by rw [SV.map]
 | .junk=>by rw [SV.map]
theorem mapL_id:∀l:List (SV σ),mapL (fun s=>s) l=l
 | []=>by rw [mapL]
 | x::l=>by rw [mapL,map_id x,mapL_id l]
end
theorem mapO_id (o:SO σ):o.map (fun s=>s)=o:=by
 cases o with
 | mix cs=>show SO.mix _=SO.mix _;rw [mapL_id]
 | _=>rfl
theorem mapT_id:∀l:List (Nat×SV σ),mapT (fun s=>s) l=l
 | []=>rfl
 | (t,v)::l=>by rw [mapT,map_id,mapT_id l]
theorem mapH_id:∀l:List (Nat×SO σ),mapO (fun s=>s) l=l
 | []=>rfl
 | (t,v)::l=>by rw [mapO,mapO_id,mapH_id l]
theorem Grow.refl (d:SS σ):Grow d (fun s=>s) d:=⟨⟨[],by rw [mapT_id];rfl⟩,⟨[],by rw [mapH_id];rfl⟩⟩
theorem Grow.trans {d:SS σ} {g:τ→σ} {d':SS τ} {h:υ→τ} {d'':SS υ} (a:Grow d g d') (b:Grow d' h d''):Grow d (fun t=>g (h t)) d'':=by
 obtain ⟨⟨l1,h1⟩,⟨l2,h2⟩⟩:=a
 obtain ⟨⟨l3,h3⟩,⟨l4,h4⟩⟩:=b
 exact ⟨⟨l3++mapT h l1,by rw [h3,h1,mapT_append,mapT_mapT,List.append_assoc]⟩,⟨l4++mapO h l2,by rw [h4,h2,mapH_append,mapH_mapH,List.append_assoc]⟩⟩
theorem Grow.app {d:SS σ} {g:τ→σ} {d':SS τ} (a:Grow d g d') (o:Option Nat) (v:SV τ) (us:List (Nat×SO τ)):Grow d g (appD d' o v us):=by
 obtain ⟨⟨l1,h1⟩,⟨l2,h2⟩⟩:=a
 refine ⟨?_,⟨us++l2,by show us++d'.hp=_;rw [h2,List.append_assoc]⟩⟩
 cases o with
 | none=>exact ⟨l1,h1⟩
 | some t=>exact ⟨(t,v)::l1,by show (t,v)::d'.tm=_;rw [h1];rfl⟩
theorem Grow.put {d:SS σ} {g:τ→σ} {d':SS τ} (a:Grow d g d') (o:Option Nat) (v:SV τ):Grow d g (putS d' o v):=by
 obtain ⟨⟨l1,h1⟩,⟨l2,h2⟩⟩:=a
 cases o with
 | none=>exact ⟨⟨l1,h1⟩,⟨l2,h2⟩⟩
 | some t=>exact ⟨⟨(t,v)::l1,by show (t,v)::d'.tm=_;rw [h1];rfl⟩,⟨l2,h2⟩⟩
theorem Grow.map (d:SS σ) (g:τ→σ):Grow d g (d.map g):=⟨⟨[],rfl⟩,⟨[],rfl⟩⟩
end
def namesIt (o:Oper):Bool :=
 match o.op with
 | .binOp _ _ _ _ _=>true
 | .unOp _ _ _=>true
 | .convert _ _ _=>true
 | .slice _ _ _ _ _=>true
 | _=>false
def nameR {β σ:Type} (b:Bool) (v:SV σ) (K0:SV σ→TR β σ) (K:(τ:Type)→(τ→σ)→SV τ→TR β τ):TR β σ :=
 match b,v with
 | true,.int k f => .bnd (fun s=>some (f s)) (K (σ×Int) Prod.fst (.int k Prod.snd))
 | true,.str f => .bnd (fun s=>some (f s)) (K (σ×List UInt8) Prod.fst (.str Prod.snd))
 | true,.lst t f => .bnd (fun s=>some (f s)) (K (σ×List t.T) Prod.fst (.lst t Prod.snd))
 | _,v=>K0 v
theorem nameR_c {β σ:Type} {n:Bool} {v:SV σ} {K0:SV σ→TR β σ} {K:(τ:Type)→(τ→σ)→SV τ→TR β τ} {s:σ} {b:β} (h:(nameR n v K0 K).run s=some b) :
 (K0 v).run s=some b∨∃(τ:Type) (g:τ→σ) (s':τ) (v':SV τ),g s'=s∧v'.c s'=v.c s∧(K τ g v').run s'=some b:=by
 unfold nameR at h
 split at h
 ·rw [TR.run] at h;exact .inr ⟨_,Prod.fst,_,_,rfl,by rw [SV.c,SV.c],h⟩
 ·rw [TR.run] at h;exact .inr ⟨_,Prod.fst,_,_,rfl,by rw [SV.c,SV.c],h⟩
 ·rw [TR.run] at h;exact .inr ⟨_,Prod.fst,_,_,rfl,by rw [SV.c,SV.c],h⟩
 ·exact .inl h
abbrev CallT (β:Type):Type 1:=Nat→(σ:Type)→Nat→List (SV σ)→SS σ→Nat→((τ:Type)→(τ→σ)→SV τ→List (Nat×SO τ)→List Nat→Nat→TR β τ)→TR β σ
section
variable {β:Type} (eg:Nat→Bool) (call:CallT β) (T:Ty) (q:Nat→Bool) (N base:Nat) (ops:Array Oper) (draw:Bool) (anc:List (List Nat))
def ncD (i:Nat) (o:Oper) (e:EN) (log:List (Nat×EN)):Bool:=match draw with | false=>true | true=>ncAllS ops (anc.getD i []) o e log
def brW {σ:Type} (d:SS σ) (w:WG σ) (go skip:SS σ→TR β σ):TR β σ :=
 match w with
 | .yes=>go d
 | .no=>skip d
 | .dyn t f true => .iff f (go (refT d t true)) (skip (refT d t false))
 | .dyn t f false => .iff f (skip (refT d t true)) (go (refT d t false))
 | .bad => .fail "guard"
def skipOp (i:Nat) (o:Oper) {σ:Type} (d:SS σ) (log:List (Nat×EN)) (rec:SS σ→List (Nat×EN)→TR β σ):TR β σ :=
 match ncD ops draw anc i o ⟨[],[],[],[]⟩ log with
 | true=>rec (putS d o.dst .undef) ((i,⟨[],[],[],[]⟩)::log)
 | false => .fail "order"
def goOp (i:Nat) (o:Oper) (σ:Type) (d:SS σ) (log:List (Nat×EN)) (F:Nat) (K:(τ:Type)→(τ→σ)→SS τ→Nat→TR β τ)
    (rec:(σ:Type)→SS σ→List (Nat×EN)→Nat→((τ:Type)→(τ→σ)→SS τ→Nat→TR β τ)→TR β σ):TR β σ :=
 match noCall o with
 | false=>match callS (evS d) o with
   | none => .fail "call of what"
   | some (f,args)=>call i σ f args d F (fun τ g v us rds F' =>
     match ncD ops draw anc i o ⟨namesO us,rds,[],chgsS (rdS (d.map g)) us⟩ log with
     | true=>rec τ (appD (d.map g) o.dst v us) ((i,⟨namesO us,rds,[],chgsS (rdS (d.map g)) us⟩)::log) F' (fun τ' g' d' F''=>K τ' (fun t=>g (g' t)) d' F'')
     | false => .fail "order of a call")
 | true=>match onlyH T o with
   | false=>match sQ T q (kndS (restS (opRefs o (evS d)) (rdS d))) o (evS d) with
     | none=>match sN T o (evS d) with
       | none => .bad [base+i] "operation"
       | some (cs,v)=>match ncD ops draw anc i o ⟨[],(base+i)::opRefs o (evS d),[],[]⟩ log with
         | true=>reqT cs (rec σ (appD d o.dst v []) ((i,⟨[],(base+i)::opRefs o (evS d),[],[]⟩)::log) F K)
         | false => .fail "order"
     | some (cs,v)=>match ncD ops draw anc i o ⟨[],[],opRefs o (evS d),[]⟩ log with
       | true=>reqT cs (nameR (namesIt o) v (fun v=>rec σ (appD d o.dst v []) ((i,⟨[],[],opRefs o (evS d),[]⟩)::log) F K)
         (fun τ g v=>rec τ (appD (d.map g) o.dst v []) ((i,⟨[],[],opRefs o (evS d),[]⟩)::log) F (fun τ' g' d' F''=>K τ' (fun t=>g (g' t)) d' F'')))
       | false => .fail "order"
   | true=>(hS eg T (restS ((base+i)::opRefs o (evS d)) (rdS d)) (base+i) o (evS d)).thn
     (fun v us=>match ncD ops draw anc i o ⟨namesO us,(base+i)::opRefs o (evS d),[],chgsS (rdS d) us⟩ log with
       | true=>rec σ (appD d o.dst v us) ((i,⟨namesO us,(base+i)::opRefs o (evS d),[],chgsS (rdS d) us⟩)::log) F K
       | false => .fail "order")
     (fun τ g v us=>match ncD ops draw anc i o ⟨namesO us,(base+i)::opRefs o (evS d),[],chgsS (rdS (d.map g)) us⟩ log with
       | true=>rec τ (appD (d.map g) o.dst v us) ((i,⟨namesO us,(base+i)::opRefs o (evS d),[],chgsS (rdS (d.map g)) us⟩)::log) F (fun τ' g' d' F''=>K τ' (fun t=>g (g' t)) d' F'')
       | false => .fail "order")
def sops:List (Nat×Oper)→(σ:Type)→SS σ→List (Nat×EN)→Nat→((τ:Type)→(τ→σ)→SS τ→Nat→TR β τ)→TR β σ
 | [],σ,d,_,F,K=>K σ (fun s=>s) d F
 | (i,o)::is,σ,d,log,F,K=>match dstQ N o.dst with
   | false => .fail "dst"
   | true=>brW d (wantS ops d o) (fun d=>goOp eg call T q base ops draw anc i o σ d log F K (fun σ d log F K=>sops is σ d log F K)) (fun d=>skipOp ops draw anc i o d log (fun d log=>sops is σ d log F K))
end
def CallOk (P:Program) (N:Nat) {β:Type} (call:CallT β):Prop :=
 ∀(i:Nat) (σ:Type) (f:Nat) (args:List (SV σ)) (d:SS σ) (F:Nat) (K:(τ:Type)→(τ→σ)→SV τ→List (Nat×SO τ)→List Nat→Nat→TR β τ) (s:σ) (b:β),(call i σ f args d F K).run s=some b →
  ∃(τ:Type) (g:τ→σ) (s':τ) (v:SV τ) (us:List (Nat×SO τ)) (rds:List Nat) (F':Nat),g s'=s∧fnOk P f=true∧Does P noG f (cL s args) rds (v.c s') (cO s' us) (d.c s N).rd∧(K τ g v us rds F').run s'=some b
section
variable {P:Program} {eg:Nat→Bool} {q:Nat→Bool} {N base:Nat} {ops:Array Oper} {draw:Bool} {anc:List (List Nat)} {β:Type} {call:CallT β}
def EndR {σ:Type} (N:Nat) (d:SS σ) (s:σ) (b:β) (K:(τ:Type)→(τ→σ)→SS τ→Nat→TR β τ) (sl:SL):Prop :=
 ∃(τ:Type) (g:τ→σ) (s':τ) (d':SS τ) (F':Nat),g s'=s∧Grow d g d'∧sl=d'.c s' N∧(K τ g d' F').run s'=some b
theorem runsTo_mono {GL:Nat→Option (List DV)} {K K':SL→Prop} (hK:∀s,K s→K' s) {is:List Nat} {s:SL} {log:List (Nat×Ef)} (h:RunsTo P GL q N base ops draw K is s log):RunsTo P GL q N base ops draw K' is s log:=by
 obtain ⟨L,s',h1,h2,h3,h4⟩:=h
 exact ⟨L,s',h1,h2,hK _ h3,h4⟩
theorem runsTo_S {GL:Nat→Option (List DV)} {K:SL→Prop} {is:List Nat} {s s2:SL} {log:List (Nat×Ef)} (e:s2.S=s.S) (h:RunsTo P GL q N base ops draw K is s2 log):RunsTo P GL q N base ops draw K is s log:=by
 obtain ⟨L,s',h1,h2,h3,h4⟩:=h
 exact ⟨L,s',h1,by rw [←e];exact h2,h3,h4⟩
theorem sops_run (hanc:draw=true→anc=ancT ops ops.size) (hcall:CallOk P N call) :
 ∀(is:List (Nat×Oper)) (σ:Type) (d:SS σ) (log:List (Nat×Ef)) (slog:List (Nat×EN)) (F:Nat) (K:(τ:Type)→(τ→σ)→SS τ→Nat→TR β τ) (s:σ) (b:β),(∀x∈is,ops[x.1]? = some x.2)→(log.map fun x=>(x.1,enOf x.2))=slog →
  (sops eg call (tiOf P) q N base ops draw anc is σ d slog F K).run s=some b→RunsTo P noG q N base ops draw (EndR N d s b K) (is.map (·.1)) (d.c s N) log
 | [],σ,d,log,slog,F,K,s,b,_,_,h=>⟨[],d.c s N,rfl,rfl,⟨σ,fun s=>s,s,d,F,rfl,Grow.refl d,rfl,h⟩,fun _ y hy=>(by cases hy),fun _=>List.Pairwise.nil⟩
 | (i,o)::is,σ,d,log,slog,F,K,s,b,hall,hlog,h=>by
   have ho:ops[i]? = some o:=hall (i,o) List.mem_cons_self
   have hall':∀x∈is,ops[x.1]? = some x.2:=fun x hx=>hall x (List.mem_cons_of_mem _ hx)
   rw [List.map_cons]
   rw [sops] at h
   split at h
   ·rw [TR.run] at h;cases h
   ·rename_i hdst
    rw [dstQ_eq] at hdst
    have hd:∀t,o.dst=some t→t<N:=fun t e=>by
     unfold dstB at hdst
     rw [e] at hdst
     simpa using hdst
    have hnc:∀(e:Ef),ncD ops draw anc i o (enOf e) slog=true→draw=true→ncAll ops (anc.getD i []) o e log=true:=fun e he hdr=>by
     unfold ncD at he
     rw [hdr] at he
     simp only at he
     rw [←hlog,ncAllS_c] at he
     exact he
    -- the operation left out
    have hskip:∀d:SS σ,wantedL ops (d.c s N) o=some false→(skipOp ops draw anc i o d slog (fun d log=>sops eg call (tiOf P) q N base ops draw anc is σ d log F K)).run s=some b→RunsTo P noG q N base ops draw (EndR N d s b K) (i::is.map (·.1)) (d.c s N) log:=fun d hw ht=>by
     unfold skipOp at ht
     split at ht
     ·rename_i hn
      have ih:=sops_run hanc hcall is σ (putS d o.dst .undef) ((i,skipEf)::log) _ F K s b hall' (by rw [List.map_cons,hlog];rfl) ht
      rw [putS_c,show (SV.undef:SV σ).c s = .undef from by rw [SV.c]] at ih
      refine runsTo_cons hanc ho (SL.put_S _ o.dst) ?_ (hnc skipEf hn) (runsTo_mono (fun sl => ?_) ih)
      ·unfold StepR
       rw [ho]
       exact ⟨hd,.inr ⟨hw,rfl⟩⟩
      ·rintro ⟨τ,g,s',d',F',h1,h2,h3,h4⟩
       exact ⟨τ,g,s',d',F',h1,((Grow.refl d).put o.dst .undef).trans h2,h3,h4⟩
     ·rw [TR.run] at ht;cases ht
    -- the operation carried out
    have hgo:∀d:SS σ,wantedL ops (d.c s N) o=some true→(goOp eg call (tiOf P) q base ops draw anc i o σ d slog F K (fun σ d log F K=>sops eg call (tiOf P) q N base ops draw anc is σ d log F K)).run s=some b→RunsTo P noG q N base ops draw (EndR N d s b K) (i::is.map (·.1)) (d.c s N) log:=fun d hw ht=>by
     have hev:(fun x=>(evS d x).c s)=(d.c s N).ev noG:=by funext x;exact evS_c s N d x
     unfold goOp at ht
     -- the rest,from a state in which more is known
     have rest:∀(τ:Type) (g:τ→σ) (s':τ) (v:SV τ) (us:List (Nat×SO τ)) (rds lvs:List Nat) (F':Nat),g s'=s →
      EfR P noG q (base+i) o (d.c s N).S ⟨v.c s',cO s' us,rds,lvs,chgs (d.c s N).rd (cO s' us)⟩ →
      ncD ops draw anc i o ⟨namesO us,rds,lvs,chgsS (rdS (d.map g)) us⟩ slog=true →
      (sops eg call (tiOf P) q N base ops draw anc is τ (appD (d.map g) o.dst v us) ((i,⟨namesO us,rds,lvs,chgsS (rdS (d.map g)) us⟩)::slog) F' (fun τ' g' d' F''=>K τ' (fun t=>g (g' t)) d' F'')).run s'=some b →
      RunsTo P noG q N base ops draw (EndR N d s b K) (i::is.map (·.1)) (d.c s N) log:=fun τ g s' v us rds lvs F' hg hef hn hr=>by
      have hen:(⟨namesO us,rds,lvs,chgsS (rdS (d.map g)) us⟩:EN)=enOf ⟨v.c s',cO s' us,rds,lvs,chgs (d.c s N).rd (cO s' us)⟩:=by
       unfold enOf keysE
       rw [namesO_c,←hg,←mapS_c g s' N d,←rdS_c,chgsS_c]
      rw [hen] at hn hr
      have ih:=sops_run hanc hcall is τ (appD (d.map g) o.dst v us) ((i,⟨v.c s',cO s' us,rds,lvs,chgs (d.c s N).rd (cO s' us)⟩)::log) _ F' _ s' b hall' (by rw [List.map_cons,hlog]) hr
      rw [appD_c,mapS_c,hg] at ih
      refine runsTo_cons hanc ho (SL.app_S (d.c s N) o.dst ⟨v.c s',cO s' us,rds,lvs,chgs (d.c s N).rd (cO s' us)⟩) ?_ (hnc _ hn) (runsTo_mono (fun sl => ?_) ih)
      ·unfold StepR
       rw [ho]
       exact ⟨hd,.inl ⟨hw,hef⟩⟩
      ·rintro ⟨τ',g',s'',d',F'',h1,h2,h3,h4⟩
       refine ⟨τ',fun t=>g (g' t),s'',d',F'',by show g (g' s'')=s;rw [h1,hg],?_,h3,h4⟩
       exact ((Grow.map d g).app o.dst v us).trans h2
     have restI:∀(v:SV σ) (us:List (Nat×SO σ)) (rds lvs:List Nat) (F':Nat),
      EfR P noG q (base+i) o (d.c s N).S ⟨v.c s,cO s us,rds,lvs,chgs (d.c s N).rd (cO s us)⟩ →
      ncD ops draw anc i o ⟨namesO us,rds,lvs,chgsS (rdS d) us⟩ slog=true →
      (sops eg call (tiOf P) q N base ops draw anc is σ (appD d o.dst v us) ((i,⟨namesO us,rds,lvs,chgsS (rdS d) us⟩)::slog) F' K).run s=some b →
      RunsTo P noG q N base ops draw (EndR N d s b K) (i::is.map (·.1)) (d.c s N) log:=fun v us rds lvs F' hef hn hr=>by
      have hmap:d.map (fun s:σ=>s)=d:=by unfold SS.map;rw [mapT_id,mapH_id]
      refine rest σ (fun s=>s) s v us rds lvs F' rfl hef (by rw [hmap];exact hn) (by rw [hmap];exact hr)
     have heff:∀(v:AV) (us:List (Nat×AO)),effH (tiOf P) (restrict ((base+i)::opRefs o (evS d)) (d.c s N).rd) (base+i) o ((d.c s N).ev noG)=some (v,us)→onlyH (tiOf P) o=true→eff (tiOf P) q (d.c s N).rd (base+i) o ((d.c s N).ev noG)=some ⟨v,us,(base+i)::opRefs o (evS d),[]⟩:=fun v us he ho'=>by
      have hrs:(o.op.operands.toList.flatMap fun x=>((d.c s N).ev noG x).refs)=opRefs o (evS d):=by rw [←opRefs_c s];simp only [evS_c s N d]
      unfold eff
      simp only [hrs]
      rw [onlyH_q _ _ _ _ _ ho']
      simp only [he]
     split at ht
     ·split at ht
      ·rw [TR.run] at ht;cases ht
      ·rename_i f args hc
       obtain ⟨τ,g,s',v,us,rds,F',h1,h2,h3,h4⟩:=hcall _ _ _ _ _ _ _ _ _ ht
       split at h4
       ·rename_i hn
        refine rest τ g s' v us rds [] F' h1 ?_ hn h4
        refine ⟨rfl,?_⟩
        rw [SL.ev_S,←hev,callS_c s _ o hc]
        exact ⟨rfl,.inl ⟨h2,h3⟩⟩
       ·rw [TR.run] at h4;cases h4
     ·rename_i hno
      have hca:callA ((d.c s N).S.ev noG) o=none:=noCall_c _ o hno
      split at ht
      ·split at ht
       ·split at ht
        ·rw [TR.run] at ht;cases ht
        ·rename_i cs v hq
         split at ht
         ·rename_i hn
          obtain ⟨g1,g2⟩:=run_req ht
          have hrs:(o.op.operands.toList.flatMap fun x=>((d.c s N).ev noG x).refs)=opRefs o (evS d):=by rw [←opRefs_c s];simp only [evS_c s N d]
          obtain ⟨n1,n2,n3⟩:=sN_c s (tiOf P) q (kinds (restrict (opRefs o (evS d)) (d.c s N).rd)) (restrict ((base+i)::opRefs o (evS d)) (d.c s N).rd) (base+i) o (evS d) hq g1
          rw [hev] at n1 n2 n3
          refine restI v [] ((base+i)::opRefs o (evS d)) [] F ⟨rfl,?_⟩ hn g2
          rw [hca]
          refine ⟨⟨v.c s,[],(base+i)::opRefs o (evS d),[]⟩,?_,rfl,rfl,rfl,rfl⟩
          rw [SL.ev_S]
          show eff (tiOf P) q (d.c s N).rd (base+i) o ((d.c s N).ev noG)=_
          unfold eff
          simp only [hrs]
          rw [n1]
          simp only [n2,n3]
         ·rw [TR.run] at ht;cases ht
       ·rename_i cs v hq
        split at ht
        ·rename_i hn
         obtain ⟨g1,g2⟩:=run_req ht
         have hEf:EfR P noG q (base+i) o (d.c s N).S ⟨v.c s,[],[],opRefs o (evS d),[]⟩ := ?_
         ·rcases nameR_c g2 with g2 | ⟨τ,g,s',v',h1,h2,h3⟩
          ·exact restI v [] [] (opRefs o (evS d)) F hEf hn g2
          ·exact rest τ g s' v' [] [] (opRefs o (evS d)) F h1 (by rw [h2];exact hEf) hn h3
         refine ⟨rfl,?_⟩
         rw [hca]
         refine ⟨⟨v.c s,[],[],opRefs o (evS d)⟩,?_,rfl,rfl,rfl,rfl⟩
         have hQ:=sQ_c s (tiOf P) q (kndS (restS (opRefs o (evS d)) (rdS d))) o (evS d) cs v hq g1
         have hrs:(o.op.operands.toList.flatMap fun x=>((d.c s N).ev noG x).refs)=opRefs o (evS d):=by rw [←opRefs_c s];simp only [evS_c s N d]
         rw [←kinds_rdc s,restS_c,rdS_c s N,hev] at hQ
         rw [SL.ev_S]
         show eff (tiOf P) q (d.c s N).rd (base+i) o ((d.c s N).ev noG)=_
         unfold eff
         simp only [hrs]
         rw [hQ]
        ·rw [TR.run] at ht;cases ht
      ·rename_i hH
       have hO:=hS_c s eg (tiOf P) (restS ((base+i)::opRefs o (evS d)) (rdS d)) (base+i) o (evS d)
       rw [restS_c,rdS_c s N,hev] at hO
       have mkEf:∀ {τ:Type} (s':τ) (v:SV τ) (us:List (Nat×SO τ)),effH (tiOf P) (restrict ((base+i)::opRefs o (evS d)) (d.c s N).rd) (base+i) o ((d.c s N).ev noG)=some (v.c s',cO s' us) →
        EfR P noG q (base+i) o (d.c s N).S ⟨v.c s',cO s' us,(base+i)::opRefs o (evS d),[],chgs (d.c s N).rd (cO s' us)⟩:=fun {τ} s' v us he=>by
        refine ⟨rfl,?_⟩
        rw [hca]
        refine ⟨⟨v.c s',cO s' us,(base+i)::opRefs o (evS d),[]⟩,?_,rfl,rfl,rfl,rfl⟩
        rw [SL.ev_S]
        exact heff _ _ he hH
       rcases HR.thn_c _ ht hO with ⟨v,us,h1,h2⟩ | ⟨τ,g,s',v,us,h1,h2,h3⟩
       ·split at h2
        ·rename_i hn
         exact restI v us _ [] F (mkEf s v us h1) hn h2
        ·rw [TR.run] at h2;cases h2
       ·split at h3
        ·rename_i hn
         exact rest τ g s' v us _ [] F h1 (mkEf s' v us h2) hn h3
        ·rw [TR.run] at h3;cases h3
    have hW:=wantS_c s N ops d o
    have viaRef:∀(k:Nat) (b':Bool),(d.c s N).get k=aBool b'→RunsTo P noG q N base ops draw (EndR N (refT d k b') s b K) (i::is.map (·.1)) ((refT d k b').c s N) log→RunsTo P noG q N base ops draw (EndR N d s b K) (i::is.map (·.1)) (d.c s N) log:=fun k b' hk hr=>by
     refine runsTo_S (refT_S hk) (runsTo_mono (fun sl => ?_) hr)
     rintro ⟨τ,g,s',d',F',h1,h2,h3,h4⟩
     refine ⟨τ,g,s',d',F',h1,?_,h3,h4⟩
     have h0:Grow d (fun s=>s) (refT d k b'):=⟨⟨[(k,.val (.bool b'))],by rw [mapT_id];rfl⟩,⟨[],by rw [mapH_id];rfl⟩⟩
     exact h0.trans h2
    have wantRef:∀(k:Nat) (b':Bool),(d.c s N).get k=aBool b'→wantedL ops ((refT d k b').c s N) o=wantedL ops (d.c s N) o:=fun k b' hk=>by
     rw [←wantedL_S,←wantedL_S,refT_S hk]
    unfold brW at h
    split at h
    ·rename_i hw
     rw [hw] at hW
     exact hgo d hW h
    ·rename_i hw
     rw [hw] at hW
     exact hskip d hW h
    ·rename_i k f hw
     rw [hw] at hW
     rw [TR.run] at h
     obtain ⟨hW,hk⟩:=hW
     cases hf:f s with
     | true=>rw [hf] at h hW hk;exact viaRef k true hk (hgo _ (by rw [wantRef k true hk];exact hW) h)
     | false=>rw [hf] at h hW hk;exact viaRef k false hk (hskip _ (by rw [wantRef k false hk];exact hW) h)
    ·rename_i k f hw
     rw [hw] at hW
     rw [TR.run] at h
     obtain ⟨hW,hk⟩:=hW
     cases hf:f s with
     | true=>rw [hf] at h hW hk;exact viaRef k true hk (hskip _ (by rw [wantRef k true hk];exact hW) h)
     | false=>rw [hf] at h hW hk;exact viaRef k false hk (hgo _ (by rw [wantRef k false hk];exact hW) h)
    ·rw [TR.run] at h;cases h
end
end Go.Proofs.Ytkpijdndakljjaa
namespace Go.Proofs.Ytkpijdndakljjaa
open Go.RowKit
def pr:U→U→U
 | .unit,b=>b
 | .int k,.unit => .int k
 | .bool,.unit => .bool
 | .str,.unit => .str
 | .list t,.unit => .list t
 | .pair a b,.unit => .pair a b
 | a,b => .pair a b
def pmk:(a b:U)→a.T→b.T→(pr a b).T
 | .unit,_,_,y=>y
 | .int _,.unit,x,_=>x
 | .bool,.unit,x,_=>x
 | .str,.unit,x,_=>x
 | .list _,.unit,x,_=>x
 | .pair _ _,.unit,x,_=>x
 | .int _,.int _,x,y=>(x,y)
 | .int _,.bool,x,y=>(x,y)
 | .int _,.str,x,y=>(x,y)
 | .int _,.list _,x,y=>(x,y)
 | .int _,.pair _ _,x,y=>(x,y)
 | .bool,.int _,x,y=>(x,y)
 | .bool,.bool,x,y=>(x,y)
 | .bool,.str,x,y=>(x,y)
 | .bool,.list _,x,y=>(x,y)
 | .bool,.pair _ _,x,y=>(x,y)
 | .str,.int _,x,y=>(x,y)
 | .str,.bool,x,y=>(x,y)
 | .str,.str,x,y=>(x,y)
 | .str,.list _,x,y=>(x,y)
 | .str,.pair _ _,x,y=>(x,y)
 | .list _,.int _,x,y=>(x,y)
 | .list _,.bool,x,y=>(x,y)
 | .list _,.str,x,y=>(x,y)
 | .list _,.list _,x,y=>(x,y)
 | .list _,.pair _ _,x,y=>(x,y)
 | .pair _ _,.int _,x,y=>(x,y)
 | .pair _ _,.bool,x,y=>(x,y)
 | .pair _ _,.str,x,y=>(x,y)
 | .pair _ _,.list _,x,y=>(x,y)
 | .pair _ _,.pair _ _,x,y=>(x,y)
def pfst:(a b:U)→(pr a b).T→a.T
 | .unit,_,_=>()
 | .int _,.unit,x=>x
 | .bool,.unit,x=>x
 | .str,.unit,x=>x
 | .list _,.unit,x=>x
 | .pair _ _,.unit,x=>x
 | .int _,.int _,p=>p.1
 | .int _,.bool,p=>p.1
 | .int _,.str,p=>p.1
 | .int _,.list _,p=>p.1
 | .int _,.pair _ _,p=>p.1
 | .bool,.int _,p=>p.1
 | .bool,.bool,p=>p.1
 | .bool,.str,p=>p.1
 | .bool,.list _,p=>p.1
 | .bool,.pair _ _,p=>p.1
 | .str,.int _,p=>p.1
 | .str,.bool,p=>p.1
 | .str,.str,p=>p.1
 | .str,.list _,p=>p.1
 | .str,.pair _ _,p=>p.1
 | .list _,.int _,p=>p.1
 | .list _,.bool,p=>p.1
 | .list _,.str,p=>p.1
 | .list _,.list _,p=>p.1
 | .list _,.pair _ _,p=>p.1
 | .pair _ _,.int _,p=>p.1
 | .pair _ _,.bool,p=>p.1
 | .pair _ _,.str,p=>p.1
 | .pair _ _,.list _,p=>p.1
 | .pair _ _,.pair _ _,p=>p.1
def psnd:(a b:U)→(pr a b).T→b.T
 | .unit,_,y=>y
 | .int _,.unit,_=>()
 | .bool,.unit,_=>()
 | .str,.unit,_=>()
 | .list _,.unit,_=>()
 | .pair _ _,.unit,_=>()
 | .int _,.int _,p=>p.2
 | .int _,.bool,p=>p.2
 | .int _,.str,p=>p.2
 | .int _,.list _,p=>p.2
 | .int _,.pair _ _,p=>p.2
 | .bool,.int _,p=>p.2
 | .bool,.bool,p=>p.2
 | .bool,.str,p=>p.2
 | .bool,.list _,p=>p.2
 | .bool,.pair _ _,p=>p.2
 | .str,.int _,p=>p.2
 | .str,.bool,p=>p.2
 | .str,.str,p=>p.2
 | .str,.list _,p=>p.2
 | .str,.pair _ _,p=>p.2
 | .list _,.int _,p=>p.2
 | .list _,.bool,p=>p.2
 | .list _,.str,p=>p.2
 | .list _,.list _,p=>p.2
 | .list _,.pair _ _,p=>p.2
 | .pair _ _,.int _,p=>p.2
 | .pair _ _,.bool,p=>p.2
 | .pair _ _,.str,p=>p.2
 | .pair _ _,.list _,p=>p.2
 | .pair _ _,.pair _ _,p=>p.2
theorem pfst_mk (a b:U) (x:a.T) (y:b.T):pfst a b (pmk a b x y)=x:=by cases a<;>cases b<;>rfl
theorem psnd_mk (a b:U) (x:a.T) (y:b.T):psnd a b (pmk a b x y)=y:=by cases a<;>cases b<;>rfl
inductive CS where
 | dat (u:U) | own (r e:Nat) (u:U) | nil | np | pt (r off:Nat) | cl (f:Nat) (caps:List (Nat×Nat))
inductive IT where
 | tmp (t:Nat) (agg:Bool) (cs:List CS)
 | mix (r:Nat) (cs:List CS)
 | row (r e:Nat) (u:U)
 | arr (r:Nat) (u:U)
 | mp (r:Nat)
 | drop (t:Nat)
 | dead (r:Nat)
def uC:CS→U
 | .dat u=>u
 | .own _ _ u => .list u
 | _ => .unit
def uCs:List CS→U
 | [] => .unit
 | c::cs=>pr (uC c) (uCs cs)
def uI:IT→U
 | .tmp _ _ cs=>uCs cs
 | .mix _ cs=>uCs cs
 | .row _ _ u => .list u
 | .arr _ u => .list u
 | .mp _ => .list .str
 | _ => .unit
def uIs:List IT→U
 | [] => .unit
 | i::l=>pr (uI i) (uIs l)
section
variable {σ:Type}
def capV (ρ:Nat→Nat):List (Nat×Nat)→List (SV σ)
 | []=>[]
 | (r,off)::l => .ptr (ρ r) off::capV ρ l
def eqN (a b:Option Nat):Bool:=match a,b with
 | some x,some y=>decide (x=y)
 | none,none=>true
 | _,_=>false
def capB (θ:Nat→Option Nat):List (Nat×Nat)→List (SV σ)→Bool
 | [],[]=>true
 | (r,off)::l,.ptr r1 off1::vs=>(eqN (θ r) (some r1)&&decide (off=off1))&&capB θ l vs
 | _,_=>false
def valC:(c:CS)→(σ→(uC c).T)→SV σ
 | .dat (.int k),f => .int k f
 | .dat .bool,f => .bool f
 | .dat .str,f => .str f
 | .dat (.list t),f => .lst t f
 | .dat _,_ => .junk
 | .own r _ u,f => .sl r (szU u) none (fun s=>(f s).length) .unk
 | .nil,_ => .val (.slice none 0 0)
 | .np,_ => .val (.pointer none)
 | .pt r off,_ => .ptr r off
 | .cl f caps,_ => .clo f (capV (fun r=>r) caps)
def objC:(c:CS)→(σ→(uC c).T)→List (Nat×SO σ)
 | .own r e u,f=>[(r,.data e u f true)]
 | _,_=>[]
def valCs:(cs:List CS)→(σ→(uCs cs).T)→List (SV σ)
 | [],_=>[]
 | c::cs,f=>valC c (fun s=>pfst (uC c) (uCs cs) (f s))::valCs cs (fun s=>psnd (uC c) (uCs cs) (f s))
def objCs:(cs:List CS)→(σ→(uCs cs).T)→List (Nat×SO σ)
 | [],_=>[]
 | c::cs,f=>objC c (fun s=>pfst (uC c) (uCs cs) (f s))++objCs cs (fun s=>psnd (uC c) (uCs cs) (f s))
def one1:List (SV σ)→SV σ
 | [v]=>v
 | _ => .junk
def headT:(i:IT)→(σ→(uI i).T)→List (Nat×SV σ)
 | .tmp t true cs,f=>[(t,.agg (valCs cs f))]
 | .tmp t false cs,f=>[(t,one1 (valCs cs f))]
 | .drop t,_=>[(t,.junk)]
 | _,_=>[]
def headH:(i:IT)→(σ→(uI i).T)→List (Nat×SO σ)
 | .tmp _ _ cs,f=>objCs cs f
 | .mix r cs,f=>(r,.mix (valCs cs f))::objCs cs f
 | .row r e u,f=>[(r,.data e u f true)]
 | .arr r u,f=>[(r,.arr u f)]
 | .mp r,f=>[(r,.mp f)]
 | .dead r,_=>[(r,.dead)]
 | _,_=>[]
def headTs:(l:List IT)→(σ→(uIs l).T)→List (Nat×SV σ)
 | [],_=>[]
 | i::l,f=>headT i (fun s=>pfst (uI i) (uIs l) (f s))++headTs l (fun s=>psnd (uI i) (uIs l) (f s))
def headHs:(l:List IT)→(σ→(uIs l).T)→List (Nat×SO σ)
 | [],_=>[]
 | i::l,f=>headH i (fun s=>pfst (uI i) (uIs l) (f s))++headHs l (fun s=>psnd (uI i) (uIs l) (f s))
def headD (d:SS σ) (its:List IT):SS (σ×(uIs its).T):=⟨headTs its Prod.snd++mapT Prod.fst d.tm,headHs its Prod.snd++mapO Prod.fst d.hp⟩
def isSc:U→Bool
 | .int _=>true
 | .bool=>true
 | .str=>true
 | .list _=>true
 | _=>false
def pkC (rd:Nat→Option (SO σ)):(c:CS)→SV σ→Option (PK σ (uC c).T)
 | .dat u,v=>match isSc u with | true=>pkU rd u [v] | false=>none
 | .own _ e u,v=>match v with
   | .val (.slice none 0 0)=>some ⟨fun _=>[],[],[]⟩
   | .sl r z none n .unk=>match rd r with
     | some (.data e' u' f true)=>match eqU u' u,decide (e'=e∧z=szU u') with
       | some ⟨h⟩,true=>some ⟨castLF h fun s=>(f s).take (n s),[fun s=>decide (n s≤(f s).length)],[]⟩
       | _,_=>none
     | _=>none
   | _=>none
 | .nil,v=>match v with | .val (.slice none 0 0)=>some ⟨fun _=>(),[],[]⟩ | _=>none
 | .np,v=>match v with | .val (.pointer none)=>some ⟨fun _=>(),[],[]⟩ | _=>none
 | .pt r off,v=>match v with | .ptr r' off'=>(match decide (r=r'∧off=off') with | true=>some ⟨fun _=>(),[],[]⟩ | false=>none) | _=>none
 | .cl f caps,v=>match v with | .clo f' vs=>(match decide (f=f')&&capB some caps vs with | true=>some ⟨fun _=>(),[],[]⟩ | false=>none) | _=>none
def thC:CS→SV σ→List (Nat×Option Nat)
 | .own r _ _,.sl r1 _ _ _ _=>[(r,some r1)]
 | .own r _ _,_=>[(r,none)]
 | _,_=>[]
def pkCs (rd:Nat→Option (SO σ)):(cs:List CS)→List (SV σ)→Option (PK σ (uCs cs).T)
 | [],[]=>some ⟨fun _=>(),[],[]⟩
 | c::cs,v::vs=>match pkC rd c v,pkCs rd cs vs with
   | some x,some y=>some ⟨fun s=>pmk (uC c) (uCs cs) (x.f s) (y.f s),x.cs++y.cs,x.fz++y.fz⟩
   | _,_=>none
 | _,_=>none
def thCs:List CS→List (SV σ)→List (Nat×Option Nat)
 | c::cs,v::vs=>thC c v++thCs cs vs
 | _,_=>[]
def pkI (d:SS σ):(i:IT)→Option (PK σ (uI i).T)
 | .tmp t agg cs=>match lookQ t d.tm with
   | none=>none
   | some v=>match agg with
     | false=>pkCs (rdS d) cs [v]
     | true=>match v with | .agg vs=>pkCs (rdS d) cs vs | _=>none
 | .mix r cs=>match rdS d r with | some (.mix vs)=>pkCs (rdS d) cs vs | _=>none
 | .row r e u=>match rdS d r with
   | some (.data e' u' f true)=>match eqU u' u,decide (e'=e) with | some ⟨h⟩,true=>some ⟨castLF h f,[],[]⟩ | _,_=>none
   | _=>none
 | .arr r u=>match rdS d r with
   | some (.arr u' f)=>match eqU u' u with | some ⟨h⟩=>some ⟨castLF h f,[],[]⟩ | none=>none
   | _=>none
 | .mp r=>match rdS d r with
   | some (.mp f)=>some ⟨f,[],[]⟩
   | _=>none
 | .drop _=>some ⟨fun _=>(),[],[]⟩
 | .dead _=>some ⟨fun _=>(),[],[]⟩
def thI (d:SS σ):IT→List (Nat×Option Nat)
 | .tmp t agg cs=>match lookQ t d.tm with
   | none=>[]
   | some v=>match agg with
     | false=>thCs cs [v]
     | true=>match v with | .agg vs=>thCs cs vs | _=>[]
 | .mix r cs=>match rdS d r with | some (.mix vs)=>thCs cs vs | _=>[]
 | _=>[]
def pkIs (d:SS σ):(l:List IT)→Option (PK σ (uIs l).T)
 | []=>some ⟨fun _=>(),[],[]⟩
 | i::l=>match pkI d i,pkIs d l with
   | some x,some y=>some ⟨fun s=>pmk (uI i) (uIs l) (x.f s) (y.f s),x.cs++y.cs,x.fz++y.fz⟩
   | _,_=>none
def thIs (d:SS σ):List IT→List (Nat×Option Nat)
 | []=>[]
 | i::l=>thI d i++thIs d l
def covT:List IT→List Nat
 | []=>[]
 | .tmp t _ _::l=>t::covT l
 | .drop t::l=>t::covT l
 | _::l=>covT l
def covH:List IT→List Nat
 | []=>[]
 | .mix r _::l=>r::covH l
 | .row r _ _::l=>r::covH l
 | .arr r _::l=>r::covH l
 | .mp r::l=>r::covH l
 | .dead r::l=>r::covH l
 | _::l=>covH l
def keyTh:List (Nat×Option Nat)→List Nat
 | []=>[]
 | (r,_)::l=>r::keyTh l
def nodupB:List Nat→Bool
 | []=>true
 | r::l => !memB r l&&nodupB l
def idleO (o:Option (SO σ)):Bool :=
 match o with
 | none=>true
 | some .dead=>true
 | some (.data _ _ _ false)=>true
 | _=>false
def okN {σ':Type} (keys:List Nat) (dh:SS σ') (r:Nat):Bool := !memB r keys && !noneAt (rdS dh) r
def okNs {σ':Type} (keys:List Nat) (dh:SS σ') (l:List Nat):Bool:=l.all (okN keys dh)
def okTm {σ':Type} (keys:List Nat) (dh:SS σ'):List Nat→List (Nat×SV σ)→Bool
 | _,[]=>true
 | skip,(t,v)::l=>match memB t skip with
   | true=>okTm keys dh skip l
   | false=>okNs keys dh v.refs&&okTm keys dh (t::skip) l
def refsSO:SO σ→List Nat
 | .mix cs=>refsS cs
 | _=>[]
def okHp {σ':Type} (keys:List Nat) (dh:SS σ'):List Nat→List (Nat×SO σ)→Bool
 | _,[]=>true
 | skip,(r,o)::l=>match memB r skip with
   | true=>okHp keys dh skip l
   | false=>(!memB r keys&&okNs keys dh (refsSO o))&&okHp keys dh (r::skip) l
def ptRefs:List CS→List Nat
 | []=>[]
 | .pt r _::l=>r::ptRefs l
 | .cl _ caps::l=>caps.map (·.1)++ptRefs l
 | _::l=>ptRefs l
def itRefs:List IT→List Nat
 | []=>[]
 | .tmp _ _ cs::l=>ptRefs cs++itRefs l
 | .mix _ cs::l=>ptRefs cs++itRefs l
 | _::l=>itRefs l
def injTh {σ':Type} (keys:List Nat) (dh:SS σ'):List (Nat×Option Nat)→Bool
 | []=>true
 | (_,none)::l=>injTh keys dh l
 | (r,some x)::l=>((memB x keys||idleO (rdS dh x))&&l.all fun y=>match y.2 with | some z => !decide (x=z) | none=>true)&&injTh keys dh l
def freedB {σ':Type} (th:List (Nat×Option Nat)) (dh:SS σ') (x:Nat):Bool :=
 (th.all fun y=>match y.2 with | some z => !decide (x=z) | none=>true)&&(memB x (keyTh th)||idleO (rdS dh x))
def packB {τ:Type} (d:SS σ) (its:List IT) (d':SS τ) (fz:List (Nat×SO τ)):Bool :=
 ((((d'.tm.take (d'.tm.length-d.tm.length)).all fun x=>memB x.1 (covT its)||(match lookQ x.1 d.tm with | none=>true | some _=>false)) &&
  ((d'.hp.take (d'.hp.length-d.hp.length)).all fun x=>memB x.1 (covH its)||noneAt (rdS d) x.1)) &&
 ((nodupB (keyTh (thIs d' its))&&(keyTh (thIs d' its)).all fun r=>noneAt (rdS d) r && !memB r (covH its)) &&
  (injTh (keyTh (thIs d' its)) (headD d its) (thIs d' its)&&fz.all fun x=>freedB (thIs d' its) (headD d its) x.1))) &&
 ((okTm (keyTh (thIs d' its)) (headD d its) (covT its) d.tm&&okHp (keyTh (thIs d' its)) (headD d its) (covH its) d.hp) &&
  (okNs (keyTh (thIs d' its)) (headD d its) (itRefs its)&&(nodupB (covH its)&&(covH its).all fun r => !noneAt (rdS d) r)))
end
end Go.Proofs.Ytkpijdndakljjaa
namespace Go.Proofs.Ytkpijdndakljjaa
open Go.RowKit
def capA:List (Nat×Nat)→List AV
 | []=>[]
 | (r,off)::l => .ptr r off::capA l
def aC:(c:CS)→(uC c).T→AV
 | .dat (.int k),n=>aInt k n
 | .dat .bool,b=>aBool b
 | .dat .str,l => .d (.val (.string ⟨l.toArray⟩))
 | .dat (.list t),l => .d (.dl (encL t l) l.length none)
 | .dat _,_ => .junk
 | .own r _ u,l => .sl r 0 l.length none
 | .nil,_ => .d (.val (.slice none 0 0))
 | .np,_ => .d (.val (.pointer none))
 | .pt r off,_ => .ptr r off
 | .cl f caps,_ => .clo f (capA caps)
def oC:(c:CS)→(uC c).T→List (Nat×AO)
 | .own r e u,l=>[(r,.data e (szU u) (encL u l) true)]
 | _,_=>[]
def aCs:(cs:List CS)→(uCs cs).T→List AV
 | [],_=>[]
 | c::cs,x=>aC c (pfst (uC c) (uCs cs) x)::aCs cs (psnd (uC c) (uCs cs) x)
def oCs:(cs:List CS)→(uCs cs).T→List (Nat×AO)
 | [],_=>[]
 | c::cs,x=>oC c (pfst (uC c) (uCs cs) x)++oCs cs (psnd (uC c) (uCs cs) x)
def one1A:List AV→AV
 | [v]=>v
 | _ => .junk
def aT:(i:IT)→(uI i).T→List (Nat×AV)
 | .tmp t true cs,x=>[(t,.agg (aCs cs x))]
 | .tmp t false cs,x=>[(t,one1A (aCs cs x))]
 | .drop t,_=>[(t,.junk)]
 | _,_=>[]
def aH:(i:IT)→(uI i).T→List (Nat×AO)
 | .tmp _ _ cs,x=>oCs cs x
 | .mix r cs,x=>(r,.mix (aCs cs x))::oCs cs x
 | .row r e u,l=>[(r,.data e (szU u) (encL u l) true)]
 | .arr r u,l=>[(r,.mix ((encL u l).map .d))]
 | .mp r,l=>[(r,.mp l)]
 | .dead r,_=>[(r,.dead)]
 | _,_=>[]
def aTs:(l:List IT)→(uIs l).T→List (Nat×AV)
 | [],_=>[]
 | i::l,x=>aT i (pfst (uI i) (uIs l) x)++aTs l (psnd (uI i) (uIs l) x)
def aHs:(l:List IT)→(uIs l).T→List (Nat×AO)
 | [],_=>[]
 | i::l,x=>aH i (pfst (uI i) (uIs l) x)++aHs l (psnd (uI i) (uIs l) x)
section
variable {σ:Type} (s:σ)
theorem cInt (k:IntKind) (f:σ→Int):(SV.int k f).c s=aInt k (f s):=by rw [SV.c]
theorem cBool (f:σ→Bool):(SV.bool f).c s=aBool (f s):=by rw [SV.c]
theorem cStr (f:σ→List UInt8):(SV.str f).c s = .d (.val (.string ⟨(f s).toArray⟩)):=by rw [SV.c]
theorem cLst (t:U) (f:σ→List t.T):(SV.lst t f).c s = .d (.dl (encL t (f s)) (f s).length none):=by rw [SV.c]
theorem cJunk:(SV.junk:SV σ).c s = .junk:=by rw [SV.c]
theorem cOwn (r z:Nat) (n:σ→Nat):(SV.sl r z none n .unk).c s = .sl r 0 (n s) none:=by rw [SV.c];simp only [oOf,Nat.zero_mul,cpOf]
theorem cVal (v:Value):(SV.val v:SV σ).c s = .d (.val v):=by rw [SV.c]
theorem cPtr (r off:Nat):(SV.ptr r off:SV σ).c s = .ptr r off:=by rw [SV.c]
theorem capV_c (caps:List (Nat×Nat)):cL s (capV (fun r=>r) caps:List (SV σ))=capA caps:=by
 induction caps with
 | nil=>rfl
 | cons x l ih=>obtain ⟨r,off⟩:=x;rw [capV,cL,ih,SV.c,capA]
theorem cAgg (t:Nat) (l:List (SV σ)):cT s [(t,SV.agg l)]=[(t,.agg (cL s l))]:=by rw [cT,cT,SV.c]
theorem valC_c:∀(c:CS) (f:σ→(uC c).T),(valC c f).c s=aC c (f s)
 | .dat (.int k),f=>cInt s k f
 | .dat .bool,f=>cBool s f
 | .dat .str,f=>cStr s f
 | .dat (.list t),f=>cLst s t f
 | .dat (.pair a b),f=>cJunk s
 | .dat .unit,f=>cJunk s
 | .own r e u,f=>cOwn s r (szU u) _
 | .nil,f=>cVal s _
 | .np,f=>cVal s _
 | .pt r off,f=>cPtr s _ _
 | .cl f caps,_=>by show (SV.clo f (capV (fun r=>r) caps)).c s=_;rw [SV.c,capV_c];rfl
theorem objC_c:∀(c:CS) (f:σ→(uC c).T),cO s (objC c f)=oC c (f s)
 | .own r e u,f=>rfl
 | .dat _,f=>rfl
 | .nil,f=>rfl
 | .np,f=>rfl
 | .pt _ _,f=>rfl
 | .cl _ _,f=>rfl
theorem valCs_c:∀(cs:List CS) (f:σ→(uCs cs).T),cL s (valCs cs f)=aCs cs (f s)
 | [],_=>rfl
 | c::cs,f=>by rw [valCs,cL,valC_c,valCs_c cs];rfl
theorem objCs_c:∀(cs:List CS) (f:σ→(uCs cs).T),cO s (objCs cs f)=oCs cs (f s)
 | [],_=>rfl
 | c::cs,f=>by rw [objCs,cO_append,objC_c,objCs_c cs];rfl
theorem one1_c (l:List (SV σ)):(one1 l).c s=one1A (cL s l):=by
 cases l with
 | nil=>exact cJunk s
 | cons v l=>cases l with
   | nil=>rfl
   | cons w l=>exact cJunk s
theorem headT_c:∀(i:IT) (f:σ→(uI i).T),cT s (headT i f)=aT i (f s)
 | .tmp t true cs,f=>(cAgg s t (valCs cs f)).trans (congrArg (fun l=>[(t,AV.agg l)]) (valCs_c s cs f))
 | .tmp t false cs,f=>(congrArg (fun v=>[(t,v)]) (one1_c s (valCs cs f))).trans (congrArg (fun l=>[(t,one1A l)]) (valCs_c s cs f))
 | .drop t,f=>congrArg (fun v=>[(t,v)]) (cJunk s)
 | .mix _ _,f=>rfl
 | .row _ _ _,f=>rfl
 | .arr _ _,f=>rfl
 | .mp _,f=>rfl
 | .dead _,f=>rfl
theorem headH_c:∀(i:IT) (f:σ→(uI i).T),cO s (headH i f)=aH i (f s)
 | .tmp t a cs,f=>objCs_c s cs f
 | .mix r cs,f=>(congrArg (fun l=>(r,AO.mix l)::cO s (objCs cs f)) (valCs_c s cs f)).trans (congrArg (fun l=>(r,AO.mix (aCs cs (f s)))::l) (objCs_c s cs f))
 | .row _ _ _,f=>rfl
 | .arr _ _,f=>rfl
 | .mp _,f=>rfl
 | .dead _,f=>rfl
 | .drop _,f=>rfl
theorem headTs_c:∀(l:List IT) (f:σ→(uIs l).T),cT s (headTs l f)=aTs l (f s)
 | [],_=>rfl
 | i::l,f=>by rw [headTs,cT_append,headT_c,headTs_c l];rfl
theorem headHs_c:∀(l:List IT) (f:σ→(uIs l).T),cO s (headHs l f)=aHs l (f s)
 | [],_=>rfl
 | i::l,f=>by rw [headHs,cO_append,headH_c,headHs_c l];rfl
end
section
variable {θ:Nat→Option Nat} {hp1 hp2:Nat→Option AO}
mutual
theorem wkV_id:∀(x:AV),(∀r∈x.refs,θ r=some r∧(hp2 r).isSome=true)→WkV θ hp1 hp2 x x
 | .d x,_=>by rw [WkV];exact ⟨x,.inl rfl,.inl rfl⟩
 | .ptr r off,h=>by rw [WkV];have:=h r (by simp [AV.refs]);exact ⟨r,this.1,this.2,rfl⟩
 | .sl r off n c,h=>by rw [WkV];have:=h r (by simp [AV.refs]);exact ⟨this.2,.inl ⟨r,this.1,rfl⟩⟩
 | .dptr cells off,_=>by rw [WkV]
 | .agg cs,h=>by rw [WkV];exact ⟨cs,rfl,wkL_id cs fun r hr=>h r (by rw [AV.refs];exact hr)⟩
 | .tup cs,h=>by rw [WkV];exact ⟨cs,rfl,wkL_id cs fun r hr=>h r (by rw [AV.refs];exact hr)⟩
 | .clo f cs,h=>by rw [WkV];exact ⟨cs,rfl,wkL_id cs fun r hr=>h r (by rw [AV.refs];exact hr)⟩
 | .undef,_=>by rw [WkV]
 | .ab,_=>by rw [WkV]
 | .junk,_=>by rw [WkV];trivial
theorem wkL_id:∀(xs:List AV),(∀r∈AV.refs.refsL xs,θ r=some r∧(hp2 r).isSome=true)→WkL θ hp1 hp2 xs xs
 | [],_=>by rw [WkL]
 | x::xs,h=>by
   rw [AV.refs.refsL] at h
   rw [WkL]
   exact ⟨x,xs,rfl,wkV_id x fun r hr=>h r (List.mem_append_left _ hr),wkL_id xs fun r hr=>h r (List.mem_append_right _ hr)⟩
end
theorem wk_dd {x:DV} {y:AV} (h:y = .d x):WkV θ hp1 hp2 (.d x) y:=by subst h;rw [WkV];exact ⟨x,.inl rfl,.inl rfl⟩
theorem wkO_same {r:Nat} {o:AO} (h1:θ r=some r) (h2:hp1 r=some o) (h:∀r∈oRefs o,θ r=some r∧(hp2 r).isSome=true):WkO θ hp1 hp2 r o:=by
 unfold WkO
 rw [h1]
 cases o with
 | data e s cs wr=>exact ⟨wr,cs,h2,.inl rfl,fun h=>h,fun h => .inl h⟩
 | mix cs=>exact ⟨cs,h2,wkL_id cs h⟩
 | mp ks=>exact h2
 | dead=>trivial
theorem refs_data:∀l:List DV,AV.refs.refsL (l.map .d)=[]
 | []=>rfl
 | x::l=>by rw [List.map_cons,AV.refs.refsL,refs_data l,refs_d];rfl
end
section
variable {σ:Type} {s:σ} {θ:Nat→Option Nat} {hp2:Nat→Option AO} {rd:Nat→Option (SO σ)}
theorem pkL_wk {t:U} {v:SV σ} {p:PK σ (List t.T)} (hp:pkL rd t v=some p) (hc:allT s p.cs) (hfz:∀x∈p.fz,Freed θ hp2 x.1):WkV θ (rdc s rd) hp2 (.d (.dl (encL t (p.f s)) (p.f s).length none)) (v.c s):=by
 unfold pkL at hp
 split at hp
 ·split at hp
  ·rename_i hk _
   subst hk
   cases hp
   exact wk_dd (by rw [SV.c];rfl)
  ·cases hp
 ·cases hp
  rw [SV.c,WkV]
  exact ⟨.dl [] 0 none,.inr (.inl ⟨rfl,.inl rfl⟩),.inl rfl⟩
 ·rename_i r z o n cap
  split at hp
  ·rename_i e u f wr hr
   split at hp
   ·rename_i hk _ hz
    subst hk
    cases hp
    have hz:=of_decide_eq_true hz
    have h1:=rowC_eq hc.1
    rw [SV.c,WkV]
    refine ⟨.dl (encL u (rowP o n f s)) (rowP o n f s).length none,?_,.inl rfl⟩
    unfold WkD0
    simp only [rdc,hr,Option.map_some,SO.c]
    refine ⟨hfz _ List.mem_cons_self,none,?_,.inr rfl⟩
    rw [rowP_eq,hz,encL_drop,encL_take,List.length_take,List.length_drop,Nat.min_eq_left (by omega)]
   ·cases hp
  ·cases hp
 ·cases hp
theorem eqN_eq {a b:Option Nat} (h:eqN a b=true):a=b:=by
 unfold eqN at h
 split at h
 ·rw [of_decide_eq_true h]
 ·rfl
 ·cases h
theorem capB_wk:∀(caps:List (Nat×Nat)) (vs:List (SV σ)),capB θ caps vs=true→(∀r∈caps.map (·.1),(hp2 r).isSome=true)→WkL θ (rdc s rd) hp2 (capA caps) (cL s vs)
 | [],[],_,_=>by rw [cL,capA,WkL]
 | (r,off)::l,.ptr r1 off1::vs,h,hr=>by
   rw [capB,Bool.and_eq_true,Bool.and_eq_true] at h
   obtain ⟨⟨h1,h2⟩,h3⟩:=h
   obtain rfl:=of_decide_eq_true h2
   rw [cL,capA,WkL,SV.c]
   exact ⟨_,_,rfl,by rw [WkV];exact ⟨r1,eqN_eq h1,hr r (by simp),rfl⟩,capB_wk l vs h3 fun x hx=>hr x (by simp at hx ⊢;exact .inr hx)⟩
 | [],_::_,h,_=>by cases h
 | (r,off)::l,[],h,_=>by cases h
 | (r,off)::l,.val _::vs,h,_=>by cases h
 | (r,off)::l,.int _ _::vs,h,_=>by cases h
 | (r,off)::l,.bool _::vs,h,_=>by cases h
 | (r,off)::l,.str _::vs,h,_=>by cases h
 | (r,off)::l,.lst _ _::vs,h,_=>by cases h
 | (r,off)::l,.ptx _ _ _ _::vs,h,_=>by cases h
 | (r,off)::l,.sl _ _ _ _ _::vs,h,_=>by cases h
 | (r,off)::l,.dpt _ _ _ _::vs,h,_=>by cases h
 | (r,off)::l,.agg _::vs,h,_=>by cases h
 | (r,off)::l,.tup _::vs,h,_=>by cases h
 | (r,off)::l,.clo _ _::vs,h,_=>by cases h
 | (r,off)::l,.undef::vs,h,_=>by cases h
 | (r,off)::l,.junk::vs,h,_=>by cases h
theorem capB_id:∀ {caps:List (Nat×Nat)} {vs:List (SV σ)},capB some caps vs=true→(∀r∈caps.map (·.1),θ r=some r)→capB θ caps vs=true
 | [],[],_,_=>rfl
 | (r,off)::l,.ptr r1 off1::vs,h,hr=>by
   rw [capB,Bool.and_eq_true,Bool.and_eq_true] at h ⊢
   obtain ⟨⟨h1,h2⟩,h3⟩:=h
   refine ⟨⟨?_,h2⟩,capB_id h3 fun x hx=>hr x (by simp at hx ⊢;exact .inr hx)⟩
   rw [hr r (by simp)];exact h1
 | [],_::_,h,_=>by cases h
 | (r,off)::l,[],h,_=>by cases h
 | (r,off)::l,.val _::vs,h,_=>by cases h
 | (r,off)::l,.int _ _::vs,h,_=>by cases h
 | (r,off)::l,.bool _::vs,h,_=>by cases h
 | (r,off)::l,.str _::vs,h,_=>by cases h
 | (r,off)::l,.lst _ _::vs,h,_=>by cases h
 | (r,off)::l,.ptx _ _ _ _::vs,h,_=>by cases h
 | (r,off)::l,.sl _ _ _ _ _::vs,h,_=>by cases h
 | (r,off)::l,.dpt _ _ _ _::vs,h,_=>by cases h
 | (r,off)::l,.agg _::vs,h,_=>by cases h
 | (r,off)::l,.tup _::vs,h,_=>by cases h
 | (r,off)::l,.clo _ _::vs,h,_=>by cases h
 | (r,off)::l,.undef::vs,h,_=>by cases h
 | (r,off)::l,.junk::vs,h,_=>by cases h
theorem pkC_wk:∀(c:CS) (v:SV σ) (p:PK σ (uC c).T),pkC rd c v=some p→allT s p.cs→(∀x∈p.fz,Freed θ hp2 x.1)→(∀x∈thC c v,θ x.1=x.2)→(∀x∈oC c (p.f s),(hp2 x.1).isSome=true)→(∀r∈ptRefs [c],θ r=some r∧(hp2 r).isSome=true) →
 WkV θ (rdc s rd) hp2 (aC c (p.f s)) (v.c s)∧∀x∈oC c (p.f s),WkO θ (rdc s rd) hp2 x.1 x.2
 | .dat u,v,p,hp,hc,hfz,hth,hl,hpt=>by
   refine ⟨?_,fun x hx=>(by simp [oC] at hx)⟩
   simp only [pkC] at hp
   split at hp
   ·rename_i hs
    cases u with
    | int k =>
      simp only [pkU] at hp
      split at hp
      ·rename_i k' f hf
       split at hp
       ·rename_i hk _;obtain ⟨hk⟩:=hk;subst hk;cases hp;exact wk_dd (asI_c hf s)
       ·cases hp
      ·cases hp
    | bool =>
      simp only [pkU] at hp
      split at hp
      ·rename_i f hf;cases hp;exact wk_dd (asB_c hf s)
      ·cases hp
    | str =>
      simp only [pkU] at hp
      split at hp
      ·rename_i f hf;cases hp;exact wk_dd (asS_c hf s)
      ·cases hp
    | list t =>
      simp only [pkU] at hp
      exact pkL_wk hp hc hfz
    | pair a b=>cases hs
    | unit=>cases hs
   ·cases hp
 | .own r e u,v,p,hp,hc,hfz,hth,hl,hpt=>by
   simp only [pkC] at hp
   split at hp
   ·cases hp
    have h1:=hth (r,none) (by simp [thC])
    have h2:=hl (r,_) (List.mem_singleton.2 rfl)
    refine ⟨?_,fun x hx => ?_⟩
    ·rw [SV.c]
     simp only [aC,List.length_nil]
     rw [WkV]
     exact ⟨h2,.inr (.inl ⟨h1,rfl,rfl,rfl,rfl⟩)⟩
    ·simp only [oC,List.mem_singleton] at hx
     subst hx
     unfold WkO
     simp only [h1]
     rfl
   ·rename_i r1 z n
    split at hp
    ·rename_i e' u' f hr
     split at hp
     ·rename_i hk _ hd
      subst hk
      obtain ⟨rfl,hz⟩:=of_decide_eq_true hd
      cases hp
      have hn:n s≤(f s).length:=of_decide_eq_true hc.1
      have hn':((f s).take (n s)).length=n s:=by rw [List.length_take];omega
      have h1:=hth (r,some r1) (by simp [thC])
      have h2:=hl (r,_) (List.mem_singleton.2 rfl)
      refine ⟨?_,fun x hx => ?_⟩
      ·rw [SV.c]
       simp only [aC,castLF,oOf,Nat.zero_mul,cpOf,hn']
       rw [WkV]
       exact ⟨h2,.inl ⟨r1,h1,rfl⟩⟩
      ·simp only [oC,List.mem_singleton] at hx
       subst hx
       unfold WkO
       simp only [h1]
       exact ⟨true,_,by simp only [rdc,hr,Option.map_some,SO.c],.inr (.inr ⟨n s*szU u',(encL_take u' (n s) (f s)).symm⟩),fun _=>rfl,fun h=>(by cases h)⟩
     ·cases hp
    ·cases hp
   ·cases hp
 | .nil,v,p,hp,hc,hfz,hth,hl,hpt=>by
   refine ⟨?_,fun x hx=>(by simp [oC] at hx)⟩
   simp only [pkC] at hp
   split at hp
   ·cases hp;exact wk_dd (by rw [SV.c])
   ·cases hp
 | .np,v,p,hp,hc,hfz,hth,hl,hpt=>by
   refine ⟨?_,fun x hx=>(by simp [oC] at hx)⟩
   simp only [pkC] at hp
   split at hp
   ·cases hp;exact wk_dd (by rw [SV.c])
   ·cases hp
 | .pt r off,v,p,hp,hc,hfz,hth,hl,hpt=>by
   refine ⟨?_,fun x hx=>(by simp [oC] at hx)⟩
   simp only [pkC] at hp
   split at hp
   ·split at hp
    ·rename_i hd
     obtain ⟨rfl,rfl⟩:=of_decide_eq_true hd
     cases hp
     have:=hpt r (by simp [ptRefs])
     rw [SV.c]
     exact wkV_id (.ptr r off) fun r' hr'=>by simp [AV.refs] at hr';subst hr';exact this
    ·cases hp
   ·cases hp
 | .cl f caps,v,p,hp,hc,hfz,hth,hl,hpt=>by
   refine ⟨?_,fun x hx=>(by simp [oC] at hx)⟩
   simp only [pkC] at hp
   split at hp
   ·rename_i f' vs
    split at hp
    ·rename_i hd
     rw [Bool.and_eq_true] at hd
     obtain ⟨hd,hb⟩:=hd
     obtain rfl:=of_decide_eq_true hd
     cases hp
     have hm:∀r∈caps.map (·.1),r∈ptRefs [.cl f caps]:=fun r hr=>by show r∈caps.map (·.1)++[];rw [List.append_nil];exact hr
     have hb':capB θ caps vs=true:=capB_id hb fun r hr=>(hpt r (hm r hr)).1
     rw [SV.c]
     show WkV θ _ hp2 (.clo f (capA caps)) _
     rw [WkV]
     exact ⟨_,rfl,capB_wk caps vs hb' fun r hr=>(hpt r (hm r hr)).2⟩
    ·cases hp
   ·cases hp
theorem pkCs_wk:∀(cs:List CS) (vs:List (SV σ)) (p:PK σ (uCs cs).T),pkCs rd cs vs=some p→allT s p.cs→(∀x∈p.fz,Freed θ hp2 x.1)→(∀x∈thCs cs vs,θ x.1=x.2)→(∀x∈oCs cs (p.f s),(hp2 x.1).isSome=true)→(∀r∈ptRefs cs,θ r=some r∧(hp2 r).isSome=true) →
 WkL θ (rdc s rd) hp2 (aCs cs (p.f s)) (cL s vs)∧∀x∈oCs cs (p.f s),WkO θ (rdc s rd) hp2 x.1 x.2
 | [],[],p,hp,hc,hfz,hth,hl,hpt=>by
   refine ⟨?_,fun x hx=>(by cases hx)⟩
   rw [cL,show aCs [] (p.f s)=[] from rfl,WkL]
 | c::cs,v::vs,p,hp,hc,hfz,hth,hl,hpt=>by
   rw [pkCs] at hp
   split at hp
   ·rename_i x y hx hy
    cases hp
    rw [allT_append] at hc
    have e1:pfst (uC c) (uCs cs) (pmk (uC c) (uCs cs) (x.f s) (y.f s))=x.f s:=pfst_mk _ _ _ _
    have e2:psnd (uC c) (uCs cs) (pmk (uC c) (uCs cs) (x.f s) (y.f s))=y.f s:=psnd_mk _ _ _ _
    simp only [oCs,e1,e2] at hl
    have hpt1:∀r∈ptRefs [c],θ r=some r∧(hp2 r).isSome=true:=fun r hr=>hpt r (by cases c<;>simp [ptRefs] at hr ⊢ <;> simp [hr])
    have hpt2:∀r∈ptRefs cs,θ r=some r∧(hp2 r).isSome=true:=fun r hr=>hpt r (by cases c<;>simp [ptRefs,hr])
    obtain ⟨a1,a2⟩:=pkC_wk c v x hx hc.1 (fun z hz=>hfz z (List.mem_append_left _ hz)) (fun z hz=>hth z (List.mem_append_left _ hz)) (fun z hz=>hl z (List.mem_append_left _ hz)) hpt1
    obtain ⟨b1,b2⟩:=pkCs_wk cs vs y hy hc.2 (fun z hz=>hfz z (List.mem_append_right _ hz)) (fun z hz=>hth z (List.mem_append_right _ hz)) (fun z hz=>hl z (List.mem_append_right _ hz)) hpt2
    refine ⟨?_,fun z hz => ?_⟩
    ·rw [cL]
     simp only [aCs,e1,e2]
     rw [WkL]
     exact ⟨_,_,rfl,a1,b1⟩
    ·simp only [oCs,e1,e2] at hz
     rcases List.mem_append.1 hz with h | h
     ·exact a2 z h
     ·exact b2 z h
   ·cases hp
 | [],_::_,p,hp,_,_,_,_,_=>by cases hp
 | _::_,[],p,hp,_,_,_,_,_=>by cases hp
end
end Go.Proofs.Ytkpijdndakljjaa
namespace Go.Proofs.Ytkpijdndakljjaa
open Go.RowKit
theorem memB_iff {r:Nat} {l:List Nat}:memB r l=true↔r∈l:=by rw [memB_eq,List.contains_iff_mem]
theorem memB_false {r:Nat} {l:List Nat}:memB r l=false↔r∉l:=by rw [←memB_iff];cases memB r l<;>simp
section
variable {σ:Type} {s:σ} {θ:Nat→Option Nat} {hp2:Nat→Option AO}
theorem ptRefs_it {i:IT} {l:List IT}:∀r∈itRefs [i],r∈itRefs (i::l):=fun r hr=>by
 cases i<;>simp [itRefs] at hr ⊢ <;> simp [hr]
theorem itRefs_tl {i:IT} {l:List IT}:∀r∈itRefs l,r∈itRefs (i::l):=fun r hr=>by
 cases i<;>simp [itRefs]<;>simp [hr]
theorem pkI_wk {d:SS σ} {N:Nat}:∀(i:IT) (p:PK σ (uI i).T),pkI d i=some p→allT s p.cs→(∀x∈p.fz,Freed θ hp2 x.1)→(∀x∈thI d i,θ x.1=x.2)→(∀x∈aH i (p.f s),(hp2 x.1).isSome=true)→(∀r∈itRefs [i],θ r=some r∧(hp2 r).isSome=true)→(∀r∈covH [i],θ r=some r) →
 (∀x∈aT i (p.f s),WkV θ (d.c s N).rd hp2 x.2 ((d.c s N).get x.1))∧∀x∈aH i (p.f s),WkO θ (d.c s N).rd hp2 x.1 x.2
 | .tmp t agg cs,p,hp,hc,hfz,hth,hl,hpt,hcv=>by
   rw [←rdS_c s N]
   have hget:∀v,lookQ t d.tm=some v→(d.c s N).get t=v.c s:=fun v hv=>by
    rw [lookQ_eq] at hv
    unfold SL.get SS.c
    simp only [look_cT,hv,Option.map_some]
   have hpt':∀r∈ptRefs cs,θ r=some r∧(hp2 r).isSome=true:=fun r hr=>hpt r (by simp [itRefs,hr])
   simp only [pkI] at hp
   simp only [thI] at hth
   cases hv:lookQ t d.tm with
   | none=>simp only [hv] at hp;cases hp
   | some v =>
     simp only [hv] at hp hth
     cases agg with
     | false =>
       simp only at hp hth
       obtain ⟨a,b⟩:=pkCs_wk cs [v] p hp hc hfz hth hl hpt'
       refine ⟨fun x hx => ?_,b⟩
       have hx:x∈[(t,one1A (aCs cs (p.f s)))]:=hx
       rw [List.mem_singleton] at hx
       subst hx
       show WkV θ _ hp2 (one1A (aCs cs (p.f s))) ((d.c s N).get t)
       rw [hget v hv]
       rw [cL,cL] at a
       generalize aCs cs (p.f s)=ys at a ⊢
       cases ys with
       | nil=>rw [WkL] at a;cases a
       | cons y ys =>
         rw [WkL] at a
         obtain ⟨x,xs,h1,h2,h3⟩:=a
         cases h1
         cases ys with
         | nil=>exact h2
         | cons z zs=>rw [WkL] at h3;obtain ⟨_,_,h4,_⟩:=h3;cases h4
     | true =>
       simp only at hp hth
       cases v with
       | agg vs =>
         simp only at hp hth
         obtain ⟨a,b⟩:=pkCs_wk cs vs p hp hc hfz hth hl hpt'
         refine ⟨fun x hx => ?_,b⟩
         have hx:x∈[(t,AV.agg (aCs cs (p.f s)))]:=hx
         rw [List.mem_singleton] at hx
         subst hx
         show WkV θ _ hp2 (.agg (aCs cs (p.f s))) ((d.c s N).get t)
         rw [hget _ hv,SV.c,WkV]
         exact ⟨_,rfl,a⟩
       | _=>cases hp
 | .mix r cs,p,hp,hc,hfz,hth,hl,hpt,hcv=>by
   rw [←rdS_c s N]
   refine ⟨fun x hx=>(by cases hx),?_⟩
   simp only [pkI] at hp
   simp only [thI] at hth
   cases hvs:rdS d r with
   | none=>simp only [hvs] at hp;cases hp
   | some o =>
     cases o with
     | mix vs =>
       simp only [hvs] at hp hth
       have hpt':∀r∈ptRefs cs,θ r=some r∧(hp2 r).isSome=true:=fun r hr=>hpt r (by simp [itRefs,hr])
       obtain ⟨a,b⟩:=pkCs_wk cs vs p hp hc hfz hth (fun x hx=>hl x (List.mem_cons_of_mem _ hx)) hpt'
       intro x hx
       rcases List.mem_cons.1 hx with rfl | hx
       ·unfold WkO
        have hr:θ r=some r:=hcv r (by simp [covH])
        simp only [hr]
        exact ⟨_,by simp only [rdc,hvs,Option.map_some,SO.c],a⟩
       ·exact b x hx
     | data e u f wr=>simp only [hvs] at hp;cases hp
     | arr u f=>simp only [hvs] at hp;cases hp
     | mp f=>simp only [hvs] at hp;cases hp
     | dead=>simp only [hvs] at hp;cases hp
 | .row r e u,p,hp,hc,hfz,hth,hl,hpt,hcv=>by
   rw [←rdS_c s N]
   refine ⟨fun x hx=>(by cases hx),?_⟩
   simp only [pkI] at hp
   split at hp
   ·rename_i e' u' f hr
    split at hp
    ·rename_i hk _ hd
     subst hk
     have hd:=of_decide_eq_true hd
     subst hd
     cases hp
     intro x hx
     have hx:x∈[(r,AO.data e' (szU u') (encL u' (f s)) true)]:=hx
     rw [List.mem_singleton] at hx
     subst hx
     exact wkO_same (hcv r (by simp [covH])) (by simp only [rdc,hr,Option.map_some,SO.c]) (fun r hr=>(by cases hr))
    ·cases hp
   ·cases hp
 | .arr r u,p,hp,hc,hfz,hth,hl,hpt,hcv=>by
   rw [←rdS_c s N]
   refine ⟨fun x hx=>(by cases hx),?_⟩
   simp only [pkI] at hp
   split at hp
   ·rename_i u' f hr
    split at hp
    ·rename_i hk _
     subst hk
     cases hp
     intro x hx
     have hx:x∈[(r,AO.mix ((encL u' (f s)).map .d))]:=hx
     rw [List.mem_singleton] at hx
     subst hx
     exact wkO_same (hcv r (by simp [covH])) (by simp only [rdc,hr,Option.map_some,SO.c]) (fun r hr=>(by simp [oRefs,refs_data] at hr))
    ·cases hp
   ·cases hp
 | .mp r,p,hp,hc,hfz,hth,hl,hpt,hcv=>by
   rw [←rdS_c s N]
   refine ⟨fun x hx=>(by cases hx),?_⟩
   simp only [pkI] at hp
   split at hp
   ·rename_i f hr
    cases hp
    intro x hx
    have hx:x∈[(r,AO.mp (f s))]:=hx
    rw [List.mem_singleton] at hx
    subst hx
    exact wkO_same (hcv r (by simp [covH])) (by simp only [rdc,hr,Option.map_some,SO.c]) (fun r hr=>(by cases hr))
   ·cases hp
 | .drop t,p,hp,hc,hfz,hth,hl,hpt,hcv=>by
   refine ⟨fun x hx => ?_,fun x hx=>(by cases hx)⟩
   have hx:x∈[(t,AV.junk)]:=hx
   rw [List.mem_singleton] at hx
   subst hx
   rw [WkV];trivial
 | .dead r,p,hp,hc,hfz,hth,hl,hpt,hcv=>by
   refine ⟨fun x hx=>(by cases hx),fun x hx => ?_⟩
   have hx:x∈[(r,AO.dead)]:=hx
   rw [List.mem_singleton] at hx
   subst hx
   unfold WkO
   simp only [hcv r (by simp [covH])]
theorem covH_hd {i:IT} {l:List IT}:∀r∈covH [i],r∈covH (i::l):=fun r hr=>by
 cases i<;>simp [covH] at hr ⊢ <;> simp [hr]
theorem covH_tl {i:IT} {l:List IT}:∀r∈covH l,r∈covH (i::l):=fun r hr=>by
 cases i<;>simp [covH]<;>simp [hr]
theorem pkIs_wk {d:SS σ} {N:Nat}:∀(l:List IT) (p:PK σ (uIs l).T),pkIs d l=some p→allT s p.cs→(∀x∈p.fz,Freed θ hp2 x.1)→(∀x∈thIs d l,θ x.1=x.2)→(∀x∈aHs l (p.f s),(hp2 x.1).isSome=true)→(∀r∈itRefs l,θ r=some r∧(hp2 r).isSome=true)→(∀r∈covH l,θ r=some r) →
 (∀x∈aTs l (p.f s),WkV θ (d.c s N).rd hp2 x.2 ((d.c s N).get x.1))∧∀x∈aHs l (p.f s),WkO θ (d.c s N).rd hp2 x.1 x.2
 | [],p,hp,hc,hfz,hth,hl,hpt,hcv=>⟨fun x hx=>(by cases hx),fun x hx=>(by cases hx)⟩
 | i::l,p,hp,hc,hfz,hth,hl,hpt,hcv=>by
   rw [pkIs] at hp
   split at hp
   ·rename_i x y hx hy
    cases hp
    rw [allT_append] at hc
    have e1:pfst (uI i) (uIs l) (pmk (uI i) (uIs l) (x.f s) (y.f s))=x.f s:=pfst_mk _ _ _ _
    have e2:psnd (uI i) (uIs l) (pmk (uI i) (uIs l) (x.f s) (y.f s))=y.f s:=psnd_mk _ _ _ _
    simp only [aHs,e1,e2] at hl
    obtain ⟨a1,a2⟩:=pkI_wk (N:=N) i x hx hc.1 (fun z hz=>hfz z (List.mem_append_left _ hz)) (fun z hz=>hth z (List.mem_append_left _ hz)) (fun z hz=>hl z (List.mem_append_left _ hz)) (fun r hr=>hpt r (ptRefs_it r hr)) (fun r hr=>hcv r (covH_hd r hr))
    obtain ⟨b1,b2⟩:=pkIs_wk (N:=N) l y hy hc.2 (fun z hz=>hfz z (List.mem_append_right _ hz)) (fun z hz=>hth z (List.mem_append_right _ hz)) (fun z hz=>hl z (List.mem_append_right _ hz)) (fun r hr=>hpt r (itRefs_tl r hr)) (fun r hr=>hcv r (covH_tl r hr))
    simp only [aTs,aHs,e1,e2]
    refine ⟨fun z hz => ?_,fun z hz => ?_⟩
    ·rcases List.mem_append.1 hz with h | h
     ·exact a1 z h
     ·exact b1 z h
    ·rcases List.mem_append.1 hz with h | h
     ·exact a2 z h
     ·exact b2 z h
   ·cases hp
end
def thF (th:List (Nat×Option Nat)) (r:Nat):Option Nat:=match look r th with | some x=>x | none=>some r
theorem keyTh_eq:∀th:List (Nat×Option Nat),keyTh th=th.map (·.1)
 | []=>rfl
 | (r,x)::l=>by rw [keyTh,keyTh_eq l];rfl
theorem thF_key {th:List (Nat×Option Nat)} (hn:nodupB (keyTh th)=true):∀x∈th,thF th x.1=x.2:=by
 induction th with
 | nil=>intro x hx;cases hx
 | cons y l ih =>
   intro x hx
   obtain ⟨k,v⟩:=y
   rw [keyTh,nodupB,Bool.and_eq_true] at hn
   have hk:k∉keyTh l:=by have:=hn.1;simp only [Bool.not_eq_true'] at this;exact memB_false.1 this
   rcases List.mem_cons.1 hx with rfl | hx
   ·unfold thF;rw [look,if_pos rfl]
   ·have hne:k≠x.1:=fun e=>hk (by rw [keyTh_eq,e];exact List.mem_map.2 ⟨x,hx,rfl⟩)
    have:=ih hn.2 x hx
    unfold thF at this ⊢
    rw [look,if_neg hne]
    exact this
theorem thF_out {th:List (Nat×Option Nat)} {r:Nat} (h:r∉keyTh th):thF th r=some r:=by
 unfold thF
 cases hl:look r th with
 | none=>rfl
 | some x=>exact (h (by rw [keyTh_eq];exact List.mem_map.2 ⟨_,look_mem hl,rfl⟩)).elim
theorem thF_in {th:List (Nat×Option Nat)} {r:Nat} (h:r∈keyTh th):∃x,(r,x)∈th∧thF th r=x:=by
 unfold thF
 cases hl:look r th with
 | none =>
   exfalso
   rw [keyTh_eq] at h
   obtain ⟨y,hy,rfl⟩:=List.mem_map.1 h
   have:∀l:List (Nat×Option Nat),y∈l→look y.1 l≠none:=by
    intro l
    induction l with
    | nil=>intro h;cases h
    | cons z l ih =>
      intro h
      rw [look]
      split
      ·simp
      ·rcases List.mem_cons.1 h with rfl | h
       ·rename_i hne;exact (hne rfl).elim
       ·exact ih h
   exact this th hy hl
 | some x=>exact ⟨x,look_mem hl,rfl⟩
theorem tells_look {GL:Nat→Option (List DV)} {N:Nat} {hp0:Nat→Option AO} {s s':SL} (θ:Nat→Option Nat) (hk:∀r o,hp0 r=some o→θ r=some r∧(s'.rd r).isSome=true) (hw:WkH θ s.rd s'.rd) (ht:∀t v,look t s'.tm=some v→WkV θ s.rd s'.rd v (s.get t)):Tells GL N hp0 s.S s'.S:=fun E0 w0 E a w he hS hA=>by
 have hp:E.hp=s.rd:=hS.hp
 have hw':WkH θ E.hp s'.rd:=by rw [hp];exact hw
 refine ⟨weakE E θ s'.rd,⟨hS.h,rfl,weak_simH hS.sim hw',hS.n,hS.df,fun t => ?_⟩,⟨weak_ext0 hA hw' (fun r o ho=>by rw [he] at ho;exact hk r o ho),weak_step hw' hA.fr⟩⟩
 show Rel _ (s'.get t) _
 unfold SL.get
 cases hl:look t s'.tm with
 | none=>simp only;rw [Rel];trivial
 | some y =>
   have:=ht _ _ hl
   rw [←hp] at this
   exact weak_rel hS.sim hw' _ _ _ this (hS.tm t)
section
variable {σ τ σ':Type}
theorem idle_c {s:σ} {d:SS σ} {N r:Nat} (h:idleO (rdS d r)=true) {o:AO} (ho:(d.c s N).rd r=some o):o.mutB=false:=by
 rw [←rdS_c] at ho
 unfold rdc at ho
 unfold idleO at h
 split at h
 ·rename_i e;rw [e] at ho;cases ho
 ·rename_i e;rw [e] at ho;cases ho;rfl
 ·rename_i e;rw [e] at ho;cases ho;rfl
 ·cases h
theorem noneAt_rd {s:σ} {d:SS σ} {N r:Nat} (h:noneAt (rdS d) r=false):((d.c s N).rd r).isSome=true:=by
 rw [←rdS_c]
 unfold noneAt at h
 unfold rdc
 split at h
 ·cases h
 ·rename_i e;rw [e];rfl
theorem noneAt_rd0 {s:σ} {d:SS σ} {N r:Nat} (h:noneAt (rdS d) r=true):(d.c s N).rd r=none:=by
 rw [←rdS_c]
 unfold noneAt at h
 unfold rdc
 split at h
 ·rename_i e;rw [e];rfl
 ·cases h
theorem okTm_look {keys:List Nat} {dh:SS σ'}:∀ {l:List (Nat×SV σ)} {skip:List Nat},okTm keys dh skip l=true→∀t v,t∉skip→look t l=some v→okNs keys dh v.refs=true
 | [],skip,_,t,v,_,h=>by cases h
 | (k,x)::l,skip,hok,t,v,ht,h=>by
   rw [okTm] at hok
   rw [look] at h
   by_cases hk:k=t
   ·subst hk
    rw [if_pos rfl] at h
    cases h
    rw [memB_false.2 ht] at hok
    simp only [Bool.and_eq_true] at hok
    exact hok.1
   ·rw [if_neg hk] at h
    cases hm:memB k skip with
    | true=>rw [hm] at hok;exact okTm_look hok t v ht h
    | false =>
      rw [hm] at hok
      simp only [Bool.and_eq_true] at hok
      exact okTm_look hok.2 t v (fun hin=>by rcases List.mem_cons.1 hin with e | e;exact hk e.symm;exact ht e) h
theorem okHp_look {keys:List Nat} {dh:SS σ'}:∀ {l:List (Nat×SO σ)} {skip:List Nat},okHp keys dh skip l=true→∀r o,r∉skip→look r l=some o→r∉keys∧okNs keys dh (refsSO o)=true
 | [],skip,_,t,v,_,h=>by cases h
 | (k,x)::l,skip,hok,t,v,ht,h=>by
   rw [okHp] at hok
   rw [look] at h
   by_cases hk:k=t
   ·subst hk
    rw [if_pos rfl] at h
    cases h
    rw [memB_false.2 ht] at hok
    simp only [Bool.and_eq_true,Bool.not_eq_true'] at hok
    exact ⟨memB_false.1 hok.1.1,hok.1.2⟩
   ·rw [if_neg hk] at h
    cases hm:memB k skip with
    | true=>rw [hm] at hok;exact okHp_look hok t v ht h
    | false =>
      rw [hm] at hok
      simp only [Bool.and_eq_true] at hok
      exact okHp_look hok.2 t v (fun hin=>by rcases List.mem_cons.1 hin with e | e;exact hk e.symm;exact ht e) h
theorem oRefs_c (s:σ) (o:SO σ):oRefs (o.c s)=refsSO o:=by
 cases o with
 | mix cs=>exact refsL_c s cs
 | arr u f=>show AV.refs.refsL ((encL u (f s)).map .d)=[];rw [refs_data]
 | data e t f wr=>rfl
 | mp f=>rfl
 | dead=>rfl
theorem aTs_all:∀(its:List IT) (x:(uIs its).T) (t:Nat),t∈covT its→∃v,(t,v)∈aTs its x
 | [],_,_,h=>by cases h
 | i::l,x,t,h=>by
   have tl:t∈covT l→∃v,(t,v)∈aTs (i::l) x:=fun h=>by
    obtain ⟨v,hv⟩:=aTs_all l (psnd (uI i) (uIs l) x) t h
    exact ⟨v,by rw [aTs];exact List.mem_append_right _ hv⟩
   cases i with
   | tmp k a cs =>
     rw [covT] at h
     rcases List.mem_cons.1 h with rfl | h
     ·cases a with
      | true=>exact ⟨_,by rw [aTs];exact List.mem_append_left _ (List.mem_singleton.2 rfl)⟩
      | false=>exact ⟨_,by rw [aTs];exact List.mem_append_left _ (List.mem_singleton.2 rfl)⟩
     ·exact tl h
   | drop k =>
     rw [covT] at h
     rcases List.mem_cons.1 h with rfl | h
     ·exact ⟨_,by rw [aTs];exact List.mem_append_left _ (List.mem_singleton.2 rfl)⟩
     ·exact tl h
   | mix r cs=>exact tl (by simpa [covT] using h)
   | row r e u=>exact tl (by simpa [covT] using h)
   | arr r u=>exact tl (by simpa [covT] using h)
   | mp r=>exact tl (by simpa [covT] using h)
   | dead r=>exact tl (by simpa [covT] using h)
theorem look_notin {α:Type} {k:Nat}:∀ {l:List (Nat×α)},k∉l.map (·.1)→look k l=none
 | [],_=>rfl
 | (i,x)::l,h=>by
   rw [List.map_cons] at h
   rw [look,if_neg (fun e=>h (by rw [e];exact List.mem_cons_self))]
   exact look_notin fun hm=>h (List.mem_cons_of_mem _ hm)
theorem aHs_all:∀(its:List IT) (x:(uIs its).T) (r:Nat),r∈covH its→∃o,(r,o)∈aHs its x
 | [],_,_,h=>by cases h
 | i::l,x,t,h=>by
   have tl:t∈covH l→∃v,(t,v)∈aHs (i::l) x:=fun h=>by
    obtain ⟨v,hv⟩:=aHs_all l (psnd (uI i) (uIs l) x) t h
    exact ⟨v,by rw [aHs];exact List.mem_append_right _ hv⟩
   cases i with
   | tmp k a cs=>exact tl (by simpa [covH] using h)
   | drop k=>exact tl (by simpa [covH] using h)
   | mix r cs =>
     rw [covH] at h
     rcases List.mem_cons.1 h with rfl | h
     ·exact ⟨_,by rw [aHs];exact List.mem_append_left _ List.mem_cons_self⟩
     ·exact tl h
   | row r e u =>
     rw [covH] at h
     rcases List.mem_cons.1 h with rfl | h
     ·exact ⟨_,by rw [aHs];exact List.mem_append_left _ (List.mem_singleton.2 rfl)⟩
     ·exact tl h
   | arr r u =>
     rw [covH] at h
     rcases List.mem_cons.1 h with rfl | h
     ·exact ⟨_,by rw [aHs];exact List.mem_append_left _ (List.mem_singleton.2 rfl)⟩
     ·exact tl h
   | mp r =>
     rw [covH] at h
     rcases List.mem_cons.1 h with rfl | h
     ·exact ⟨_,by rw [aHs];exact List.mem_append_left _ (List.mem_singleton.2 rfl)⟩
     ·exact tl h
   | dead r =>
     rw [covH] at h
     rcases List.mem_cons.1 h with rfl | h
     ·exact ⟨_,by rw [aHs];exact List.mem_append_left _ (List.mem_singleton.2 rfl)⟩
     ·exact tl h
end
end Go.Proofs.Ytkpijdndakljjaa
namespace Go.Proofs.Ytkpijdndakljjaa
open Go.RowKit
section
variable {σ τ:Type}
def packR (d:SS σ) (its:List IT) (d':SS τ):Option (PK τ (uIs its).T) :=
 match pkIs d' its with
 | none=>none
 | some p=>match packB d its d' p.fz with
   | true=>some p
   | false=>none
theorem grow_head (d:SS σ) (its:List IT):Grow d Prod.fst (headD d its):=⟨⟨_,rfl⟩,⟨_,rfl⟩⟩
theorem look_isSome_of_mem {α:Type} {k:Nat} {l:List (Nat×α)} {v:α} (h:(k,v)∈l):∃w,look k l=some w:=by
 cases hl:look k l with
 | some w=>exact ⟨w,rfl⟩
 | none=>exact (look_none hl v h).elim
theorem mapT_len (g:τ→σ):∀l:List (Nat×SV σ),(mapT g l).length=l.length
 | []=>rfl
 | (t,v)::l=>by rw [mapT,List.length_cons,List.length_cons,mapT_len g l]
theorem mapO_len (g:τ→σ):∀l:List (Nat×SO σ),(mapO g l).length=l.length
 | []=>rfl
 | (t,v)::l=>by rw [mapO,List.length_cons,List.length_cons,mapO_len g l]
theorem injTh_spec {σ':Type} {keys:List Nat} {dh:SS σ'}:∀ {th:List (Nat×Option Nat)},injTh keys dh th=true→(∀r x,(r,some x)∈th→x∈keys∨idleO (rdS dh x)=true)∧∀r r' x,(r,some x)∈th→(r',some x)∈th→r=r'
 | [],_=>⟨fun r x h=>(by cases h),fun r r' x h=>(by cases h)⟩
 | (k,none)::l,h=>by
   rw [injTh] at h
   obtain ⟨a,b⟩:=injTh_spec h
   refine ⟨fun r x hm => ?_,fun r r' x hm hm' => ?_⟩
   ·rcases List.mem_cons.1 hm with e | hm
    ·cases e
    ·exact a r x hm
   ·rcases List.mem_cons.1 hm with e | hm
    ·cases e
    ·rcases List.mem_cons.1 hm' with e | hm'
     ·cases e
     ·exact b r r' x hm hm'
 | (k,some y)::l,h=>by
   rw [injTh,Bool.and_eq_true,Bool.and_eq_true] at h
   obtain ⟨⟨h1,h2⟩,h3⟩:=h
   obtain ⟨a,b⟩:=injTh_spec h3
   have hno:∀r x,(r,some x)∈l→y≠x:=fun r x hm=>by
    have:=List.all_eq_true.1 h2 _ hm
    simpa using this
   refine ⟨fun r x hm => ?_,fun r r' x hm hm' => ?_⟩
   ·rcases List.mem_cons.1 hm with e | hm
    ·cases e
     rcases (Bool.or_eq_true _ _).mp h1 with h | h
     ·exact .inl (memB_iff.1 h)
     ·exact .inr h
    ·exact a r x hm
   ·rcases List.mem_cons.1 hm with e | hm
    ·cases e
     rcases List.mem_cons.1 hm' with e | hm'
     ·cases e;rfl
     ·exact (hno _ _ hm' rfl).elim
    ·rcases List.mem_cons.1 hm' with e | hm'
     ·cases e;exact (hno _ _ hm rfl).elim
     ·exact b r r' x hm hm'
theorem pack_core {N:Nat} {d:SS σ} {its:List IT} {g:τ→σ} {d':SS τ} {p:PK τ (uIs its).T} {s:τ} (hg:Grow d g d') (h:packR d its d'=some p) (hc:allT s p.cs) :
 ∃ θ:Nat→Option Nat,(∀r,(look r d.hp).isSome=true→θ r=some r∧(((headD d its).c (g s,p.f s) N).rd r).isSome=true)∧WkH θ (d'.c s N).rd ((headD d its).c (g s,p.f s) N).rd ∧
   ∀t v,look t ((headD d its).c (g s,p.f s) N).tm=some v→WkV θ (d'.c s N).rd ((headD d its).c (g s,p.f s) N).rd v ((d'.c s N).get t):=by
 unfold packR at h
 split at h
 ·cases h
 rename_i p' hp
 split at h
 ·rename_i hB
  cases h
  unfold packB at hB
  simp only [Bool.and_eq_true] at hB
  obtain ⟨⟨⟨b1,b2⟩,⟨b3,b4⟩,b5,b6⟩,⟨b7,b8⟩,b9,b10,b11⟩:=hB
  -- the names
  have hkey:=thF_key b3
  have hkd:∀r∈keyTh (thIs d' its),look r d.hp=none∧r∉covH its:=fun r hr=>by
   have:=List.all_eq_true.1 b4 r hr
   rw [Bool.and_eq_true,Bool.not_eq_true'] at this
   refine ⟨?_,memB_false.1 this.2⟩
   have h1:=this.1
   unfold noneAt rdS at h1
   rw [lookQ_eq] at h1
   split at h1
   ·assumption
   ·cases h1
  have hT:((headD d its).c (g s,p.f s) N).tm=aTs its (p.f s)++cT (g s) d.tm:=by
   show cT (g s,p.f s) (headTs its Prod.snd++mapT Prod.fst d.tm)=_
   rw [cT_append,headTs_c,mapT_c]
  have hH:((headD d its).c (g s,p.f s) N).hp=aHs its (p.f s)++cO (g s) d.hp:=by
   show cO (g s,p.f s) (headHs its Prod.snd++mapO Prod.fst d.hp)=_
   rw [cO_append,headHs_c,mapOs_c]
  have hHs:∀r,(∃o,(r,o)∈aHs its (p.f s))→(((headD d its).c (g s,p.f s) N).rd r).isSome=true:=fun r ⟨o,ho⟩=>by
   unfold SL.rd
   rw [hH,look_append]
   obtain ⟨w,hw⟩:=look_isSome_of_mem ho
   rw [hw]
   rfl
  have hNs:∀l,okNs (keyTh (thIs d' its)) (headD d its) l=true→∀r∈l,thF (thIs d' its) r=some r∧(((headD d its).c (g s,p.f s) N).rd r).isSome=true:=fun l hl r hr=>by
   have:=List.all_eq_true.1 hl r hr
   unfold okN at this
   rw [Bool.and_eq_true,Bool.not_eq_true',Bool.not_eq_true'] at this
   exact ⟨thF_out (memB_false.1 this.1),noneAt_rd this.2⟩
  -- the items
  have hcov:∀r∈covH its,thF (thIs d' its) r=some r:=fun r hr=>thF_out fun hk=>(hkd r hk).2 hr
  have hfz:∀x∈p.fz,Freed (thF (thIs d' its)) ((headD d its).c (g s,p.f s) N).rd x.1:=fun x hx r' hr' o ho=>by
   have:=List.all_eq_true.1 b6 x hx
   unfold freedB at this
   rw [Bool.and_eq_true] at this
   obtain ⟨f1,f2⟩:=this
   by_cases hk:r'∈keyTh (thIs d' its)
   ·obtain ⟨y,hy1,hy2⟩:=thF_in hk
    rw [hy2] at hr'
    subst hr'
    have:=List.all_eq_true.1 f1 _ hy1
    simp at this
   ·rw [thF_out hk] at hr'
    cases hr'
    rcases (Bool.or_eq_true _ _).mp f2 with h | h
    ·exact (hk (memB_iff.1 h)).elim
    ·exact idle_c h ho
  obtain ⟨w1,w2⟩:=pkIs_wk (s:=s) (N:=N) (θ:=thF (thIs d' its)) (hp2:=((headD d its).c (g s,p.f s) N).rd) its p hp hc hfz hkey (fun x hx=>hHs x.1 ⟨x.2,hx⟩) (hNs _ b9) hcov
  -- what is kept
  obtain ⟨⟨l1,g1⟩,⟨l2,g2⟩⟩:=hg
  have hl1:d'.tm.take (d'.tm.length-d.tm.length)=l1:=by rw [g1,List.length_append,mapT_len,Nat.add_sub_cancel,List.take_left]
  have hl2:d'.hp.take (d'.hp.length-d.hp.length)=l2:=by rw [g2,List.length_append,mapO_len,Nat.add_sub_cancel,List.take_left]
  rw [hl1] at b1
  rw [hl2] at b2
  have keptT:∀t w,t∉covT its→look t d.tm=some w→(d'.c s N).get t=w.c (g s):=fun t w ht hw=>by
   unfold SL.get SS.c
   simp only [look_cT,g1,look_append]
   rw [look_notin (l:=l1) (fun hm => ?_)]
   ·have:look t (mapT g d.tm)=some (w.map g):=by
     have:∀l:List (Nat×SV σ),look t (mapT g l)=(look t l).map (SV.map g):=by
      intro l
      induction l with
      | nil=>rfl
      | cons x l ih =>
        obtain ⟨k,v⟩:=x
        rw [mapT,look,look]
        split
        ·rfl
        ·exact ih
     rw [this,hw]
     rfl
    simp only [this,Option.map_some,map_c]
   ·obtain ⟨x,hx,rfl⟩:=List.mem_map.1 hm
    have:=List.all_eq_true.1 b1 x hx
    rcases (Bool.or_eq_true _ _).mp this with h | h
    ·exact ht (memB_iff.1 h)
    ·rw [lookQ_eq,hw] at h;cases h
  have keptH:∀r w,r∉covH its→look r d.hp=some w→(d'.c s N).rd r=some (w.c (g s)):=fun r w ht hw=>by
   unfold SL.rd SS.c
   simp only [look_cO,g2,look_append]
   rw [look_notin (l:=l2) (fun hm => ?_)]
   ·have:look r (mapO g d.hp)=some (w.map g):=by
     have:∀l:List (Nat×SO σ),look r (mapO g l)=(look r l).map (SO.map g):=by
      intro l
      induction l with
      | nil=>rfl
      | cons x l ih =>
        obtain ⟨k,v⟩:=x
        rw [mapO,look,look]
        split
        ·rfl
        ·exact ih
     rw [this,hw]
     rfl
    simp only [this,Option.map_some,mapO_c]
   ·obtain ⟨x,hx,rfl⟩:=List.mem_map.1 hm
    have:=List.all_eq_true.1 b2 x hx
    rcases (Bool.or_eq_true _ _).mp this with h | h
    ·exact ht (memB_iff.1 h)
    ·unfold noneAt rdS at h
     rw [lookQ_eq,hw] at h;cases h
  have notH:∀r,look r (aHs its (p.f s))=none→r∉covH its:=fun r hn hr=>by
   obtain ⟨o,ho⟩:=aHs_all its (p.f s) r hr
   exact look_none hn o ho
  refine ⟨thF (thIs d' its),fun r hs => ?_,⟨fun r o ho => ?_,fun r' r'' o' o'' r ho' ho'' hm' hm'' ht' ht'' => ?_⟩,fun t v hv => ?_⟩
  ·refine ⟨thF_out fun hk => ?_,?_⟩
   ·rw [(hkd r hk).1] at hs;cases hs
   ·unfold SL.rd
    rw [hH,look_append]
    cases look r (aHs its (p.f s)) with
    | some x=>rfl
    | none =>
      simp only [look_cO]
      cases hl:look r d.hp with
      | none=>rw [hl] at hs;cases hs
      | some w=>rfl
  ·unfold SL.rd at ho
   rw [hH,look_append] at ho
   cases hl:look r (aHs its (p.f s)) with
   | some x =>
     rw [hl] at ho
     cases ho
     exact w2 _ (look_mem hl)
   | none =>
     rw [hl] at ho
     simp only [look_cO] at ho
     cases hw:look r d.hp with
     | none=>rw [hw] at ho;cases ho
     | some w =>
       rw [hw] at ho
       cases ho
       have hnc:=notH r hl
       obtain ⟨k1,k2⟩:=okHp_look b8 r w hnc hw
       exact wkO_same (thF_out k1) (keptH r w hnc hw) (fun q hq=>hNs _ k2 q (by rw [oRefs_c] at hq;exact hq))
  ·by_cases k1:r'∈keyTh (thIs d' its)
   ·obtain ⟨x,x1,x2⟩:=thF_in k1
    rw [x2] at ht'
    subst ht'
    by_cases k2:r''∈keyTh (thIs d' its)
    ·obtain ⟨y,y1,y2⟩:=thF_in k2
     rw [y2] at ht''
     subst ht''
     exact (injTh_spec b5).2 _ _ _ x1 y1
    ·rw [thF_out k2] at ht''
     cases ht''
     rcases (injTh_spec b5).1 _ _ x1 with h | h
     ·exact (k2 h).elim
     ·rw [idle_c h ho''] at hm'';cases hm''
   ·rw [thF_out k1] at ht'
    cases ht'
    by_cases k2:r''∈keyTh (thIs d' its)
    ·obtain ⟨y,y1,y2⟩:=thF_in k2
     rw [y2] at ht''
     subst ht''
     rcases (injTh_spec b5).1 _ _ y1 with h | h
     ·exact (k1 h).elim
     ·rw [idle_c h ho'] at hm';cases hm'
    ·rw [thF_out k2] at ht''
     cases ht''
     rfl
  ·rw [hT,look_append] at hv
   cases hl:look t (aTs its (p.f s)) with
   | some x =>
     rw [hl] at hv
     cases hv
     exact w1 _ (look_mem hl)
   | none =>
     rw [hl] at hv
     simp only [look_cT] at hv
     cases hw:look t d.tm with
     | none=>rw [hw] at hv;cases hv
     | some w =>
       rw [hw] at hv
       cases hv
       have hnc:t∉covT its:=fun hc=>by
        obtain ⟨v,hv⟩:=aTs_all its (p.f s) t hc
        exact look_none hl v hv
       rw [keptT t w hnc hw]
       exact wkV_id _ fun r hr=>hNs _ (okTm_look b7 t w hnc hw) r (by rw [refs_c] at hr;exact hr)
 ·cases h
end
end Go.Proofs.Ytkpijdndakljjaa
namespace Go.Proofs.Ytkpijdndakljjaa
open Go.RowKit
theorem like_trans' {a b c:AO} (h:a.like b) (k:b.like c) (hb:b ≠ .dead):a.like c:=by
 cases a<;>cases b<;>cases c<;>simp_all [AO.like]
theorem WkO.same {θ:Nat→Option Nat} {hp1 hp2:Nat→Option AO} {r':Nat} {o:AO} (h:WkO θ hp1 hp2 r' o) (hd:o ≠ .dead) {r:Nat} (ht:θ r'=some r):∃o1,hp1 r=some o1∧o1 ≠ .dead∧o1.like o:=by
 unfold WkO at h
 rw [ht] at h
 cases o with
 | dead=>exact (hd rfl).elim
 | data e s cs wr=>obtain ⟨wr1,cs1,h1,_⟩:=h;exact ⟨_,h1,by simp,⟨rfl,rfl⟩⟩
 | mix cs=>obtain ⟨cs1,h1,_⟩:=h;exact ⟨_,h1,by simp,trivial⟩
 | mp ks=>exact ⟨_,h,by simp,trivial⟩
theorem doesS {P:Program} {GL:Nat→Option (List DV)} {f:FuncId} {argsC args:List AV} {osC os usC us:List (Nat×AO)} {vC v:AV} {θ θ':Nat→Option Nat} (h:DoesO P GL f argsC osC vC usC)
 (hw:WkH θ (lookF os) (lookF osC)) (ha:WkL θ (lookF os) (lookF osC) argsC args) (hw':WkH θ' (lookF usC) (lookF us)) (hv:WkV θ' (lookF usC) (lookF us) v vC)
 (hk:∀r o,look r os=some o→∃o',look r us=some o'∧∃c oc,θ' r=some c∧θ c=some r∧look c osC=some oc∧oc ≠ .dead):DoesO P GL f args os v us:=fun E w vs hE hwh hs hrel=>by
 have hw0:WkH θ E.hp (lookF osC):=by rw [hE];exact hw
 have ha0:WkL θ E.hp (lookF osC) argsC args:=by rw [hE];exact ha
 refine (h (weakE E θ (lookF osC)) w vs rfl hwh (weak_simH hs hw0) (weak_relL hs hw0 argsC args vs.toList ha0 hrel)).mono ?_
 rintro e w' ⟨u,E2,rfl,h1,h2,h3,h4,h5,h6⟩
 have hw2:WkH θ' E2.hp (lookF us):=by rw [h2];exact hw'
 have hv2:WkV θ' E2.hp (lookF us) v vC:=by rw [h2];exact hv
 refine ⟨u,weakE E2 θ' (lookF us),rfl,h1,rfl,weak_simH h3 hw2,⟨weak_sub.trans (h4.sub.trans weak_sub),fun r o ho => ?_⟩,weak_step hw2 ((weak_step hw0 (StepF.refl E w)).trans h5),weak_rel h3 hw2 v vC u hv2 h6⟩
 rw [hE] at ho
 obtain ⟨o',k1,c,oc,k2,k3,k4,k5⟩:=hk r o ho
 have k1':(weakE E2 θ' (lookF us)).hp r=some o':=k1
 have hc:=hw0.ob c oc k4
 obtain ⟨o1,q1,q2,q3⟩:=hc.same k5 k3
 rw [hE] at q1
 have:o1=o:=by have e:lookF os r=some o:=ho;rw [q1] at e;cases e;rfl
 subst this
 refine ⟨o',k1',?_⟩
 by_cases hd:o' = .dead
 ·subst hd
  exact ⟨by cases o1<;>simp_all [AO.like],.inl rfl⟩
 ·obtain ⟨o2,p1,p2,p3⟩:=(hw2.ob r o' k1').same hd k2
  obtain ⟨oc',p4,p5,p6⟩:=h4.ob c oc k4
  rw [p1] at p4
  cases p4
  refine ⟨like_trans' q3 (like_trans' p5 p3 p2) k5,.inr ?_⟩
  rcases p6 with p6 | p6
  ·exact (p2 p6).elim
  ·rw [weak_m k2,p6,weak_m k3]
def lookN:List (Nat×Option Nat)→Nat→Option Nat
 | [],_=>none
 | (r,x)::l,k=>match decide (r=k) with | true=>x | false=>lookN l k
def ownN:List CS→List Nat
 | []=>[]
 | .own r _ _::l=>r::ownN l
 | _::l=>ownN l
def namesH:List IT→List Nat
 | []=>[]
 | .tmp _ _ cs::l=>ownN cs++namesH l
 | .mix r cs::l=>r::(ownN cs++namesH l)
 | .row r _ _::l=>r::namesH l
 | .arr r _::l=>r::namesH l
 | .mp r::l=>r::namesH l
 | .dead r::l=>r::namesH l
 | .drop _::l=>namesH l
def liveI:List IT→Bool
 | []=>true
 | .dead _::_=>false
 | .drop _::_=>false
 | _::l=>liveI l
section
variable {σ:Type}
def capT:List (Nat×Nat)→List (SV σ)→List (Nat×Option Nat)
 | (r,_)::l,.ptr r1 _::vs=>(r,some r1)::capT l vs
 | _,_=>[]
def cellT:CS→SV σ→List (Nat×Option Nat)
 | .own r _ _,.sl r1 _ _ _ _=>[(r,some r1)]
 | .own r _ _,_=>[(r,none)]
 | .pt r _,.ptr r1 _=>[(r,some r1)]
 | .cl _ caps,.clo _ vs=>capT caps vs
 | _,_=>[]
def cellsT:List CS→List (SV σ)→List (Nat×Option Nat)
 | c::cs,v::vs=>cellT c v++cellsT cs vs
 | _,_=>[]
def namesT (d:SS σ):List IT→List (Nat×Option Nat)→List (Nat×Option Nat)
 | [],acc=>acc
 | .tmp t false cs::l,acc=>match lookQ t d.tm with
   | some v=>namesT d l (acc++cellsT cs [v])
   | none=>acc
 | .tmp t true cs::l,acc=>match lookQ t d.tm with
   | some (.agg vs)=>namesT d l (acc++cellsT cs vs)
   | _=>acc
 | .mix r cs::l,acc=>match lookN acc r with
   | some r1=>match rdS d r1 with
     | some (.mix vs)=>namesT d l (acc++cellsT cs vs)
     | _=>acc
   | none=>acc
 | _::l,acc=>namesT d l acc
def shortN (r:Nat):Bool:=decide (41000000≤r)
def pkCP (θ:Nat→Option Nat) (rd:Nat→Option (SO σ)):(c:CS)→SV σ→Option (PK σ (uC c).T)
 | .pt r off,v=>match v with
   | .ptr r1 off1=>match eqN (θ r) (some r1)&&decide (off=off1) with | true=>some ⟨fun _=>(),[],[]⟩ | false=>none
   | _=>none
 | .cl f caps,v=>match v with
   | .clo f1 vs=>match decide (f=f1)&&capB θ caps vs with | true=>some ⟨fun _=>(),[],[]⟩ | false=>none
   | _=>none
 | .dat u,v=>pkC rd (.dat u) v
 | .own r e u,v=>match v with
   | .val (.slice none 0 0)=>match θ r with | none=>some ⟨fun _=>[],[],[]⟩ | some _=>none
   | .sl r1 z none n .unk=>match eqN (θ r) (some r1) with
     | true=>match rd r1 with
       | some (.data e' u' f true)=>match eqU u' u,decide (e'=e∧z=szU u') with
         | some ⟨h⟩,true=>match shortN r with
           | true=>some ⟨castLF h fun s=>(f s).take (n s),[fun s=>decide (n s≤(f s).length)],[]⟩
           | false=>some ⟨castLF h f,[fun s=>decide (n s=(f s).length)],[]⟩
         | _,_=>none
       | _=>none
     | false=>none
   | _=>none
 | .nil,v=>pkC rd .nil v
 | .np,v=>pkC rd .np v
def pkCsP (θ:Nat→Option Nat) (rd:Nat→Option (SO σ)):(cs:List CS)→List (SV σ)→Option (PK σ (uCs cs).T)
 | [],[]=>some ⟨fun _=>(),[],[]⟩
 | c::cs,v::vs=>match pkCP θ rd c v,pkCsP θ rd cs vs with
   | some x,some y=>some ⟨fun s=>pmk (uC c) (uCs cs) (x.f s) (y.f s),x.cs++y.cs,x.fz++y.fz⟩
   | _,_=>none
 | _,_=>none
def pkIP (θ:Nat→Option Nat) (d:SS σ):(i:IT)→Option (PK σ (uI i).T)
 | .tmp t agg cs=>match lookQ t d.tm with
   | none=>none
   | some v=>match agg with
     | false=>pkCsP θ (rdS d) cs [v]
     | true=>match v with | .agg vs=>pkCsP θ (rdS d) cs vs | _=>none
 | .mix r cs=>match θ r with
   | some r1=>match rdS d r1 with | some (.mix vs)=>pkCsP θ (rdS d) cs vs | _=>none
   | none=>none
 | .row r e u=>match θ r with
   | some r1=>match rdS d r1 with
     | some (.data e' u' f true)=>match eqU u' u,decide (e'=e) with | some ⟨h⟩,true=>some ⟨castLF h f,[],[]⟩ | _,_=>none
     | _=>none
   | none=>none
 | .arr r u=>match θ r with
   | some r1=>match rdS d r1 with
     | some (.arr u' f)=>match eqU u' u with | some ⟨h⟩=>some ⟨castLF h f,[],[]⟩ | none=>none
     | _=>none
   | none=>none
 | .mp r=>match θ r with
   | some r1=>match rdS d r1 with
     | some (.mp f)=>some ⟨f,[],[]⟩
     | _=>none
   | none=>none
 | .drop _=>none
 | .dead _=>none
def pkIsP (θ:Nat→Option Nat) (d:SS σ):(l:List IT)→Option (PK σ (uIs l).T)
 | []=>some ⟨fun _=>(),[],[]⟩
 | i::l=>match pkIP θ d i,pkIsP θ d l with
   | some x,some y=>some ⟨fun s=>pmk (uI i) (uIs l) (x.f s) (y.f s),x.cs++y.cs,x.fz++y.fz⟩
   | _,_=>none
end
section
variable {σ:Type} {s:σ} {θ:Nat→Option Nat} {hp2:Nat→Option AO} {rd:Nat→Option (SO σ)}
theorem pkCP_wk:∀(c:CS) (v:SV σ) (p:PK σ (uC c).T),pkCP θ rd c v=some p→allT s p.cs→(∀x∈p.fz,Freed θ hp2 x.1)→(∀x∈oC c (p.f s),(hp2 x.1).isSome=true)→(∀r∈ptRefs [c],(hp2 r).isSome=true) →
 WkV θ (rdc s rd) hp2 (aC c (p.f s)) (v.c s)∧∀x∈oC c (p.f s),WkO θ (rdc s rd) hp2 x.1 x.2
 | .dat u,v,p,hp,hc,hfz,hl,hpt=>pkC_wk (.dat u) v p hp hc hfz (fun x hx=>by cases v<;>cases hx) hl (fun r hr=>by cases hr)
 | .nil,v,p,hp,hc,hfz,hl,hpt=>pkC_wk .nil v p hp hc hfz (fun x hx=>by cases v<;>cases hx) hl (fun r hr=>by cases hr)
 | .np,v,p,hp,hc,hfz,hl,hpt=>pkC_wk .np v p hp hc hfz (fun x hx=>by cases v<;>cases hx) hl (fun r hr=>by cases hr)
 | .own r e u,v,p,hp,hc,hfz,hl,hpt=>by
   have h2:=hl (r,_) (List.mem_singleton.2 rfl)
   simp only [pkCP] at hp
   split at hp
   ·split at hp
    ·rename_i h1
     cases hp
     refine ⟨?_,fun x hx => ?_⟩
     ·rw [SV.c]
      show WkV θ _ hp2 (.sl r 0 ([]:List u.T).length none) _
      rw [WkV]
      exact ⟨h2,.inr (.inl ⟨h1,rfl,rfl,rfl,rfl⟩)⟩
     ·have hx:x∈[(r,AO.data e (szU u) (encL u []) true)]:=hx
      rw [List.mem_singleton] at hx
      subst hx
      unfold WkO
      simp only [h1]
      rfl
    ·cases hp
   ·rename_i r1 z n
    split at hp
    ·rename_i h1
     have h1:=eqN_eq h1
     split at hp
     ·rename_i e' u' f hr
      split at hp
      ·rename_i hk _ hd
       subst hk
       obtain ⟨rfl,hz⟩:=of_decide_eq_true hd
       split at hp
       ·cases hp
        have hn:n s≤(f s).length:=of_decide_eq_true hc.1
        have hn':((f s).take (n s)).length=n s:=by rw [List.length_take];omega
        refine ⟨?_,fun x hx => ?_⟩
        ·rw [SV.c]
         show WkV θ _ hp2 (.sl r 0 ((f s).take (n s)).length none) _
         simp only [oOf,Nat.zero_mul,cpOf,hn']
         rw [WkV]
         exact ⟨h2,.inl ⟨r1,h1,rfl⟩⟩
        ·have hx:x∈[(r,AO.data e' (szU u') (encL u' ((f s).take (n s))) true)]:=hx
         rw [List.mem_singleton] at hx
         subst hx
         unfold WkO
         simp only [h1]
         exact ⟨true,encL u' (f s),by simp only [rdc,hr,Option.map_some,SO.c],.inr (.inr ⟨n s*szU u',(encL_take u' (n s) (f s)).symm⟩),fun _=>rfl,fun h=>by cases h⟩
       ·cases hp
        have hn:n s=(f s).length:=of_decide_eq_true hc.1
        refine ⟨?_,fun x hx => ?_⟩
        ·rw [SV.c]
         show WkV θ _ hp2 (.sl r 0 (f s).length none) _
         simp only [oOf,Nat.zero_mul,cpOf,hn]
         rw [WkV]
         exact ⟨h2,.inl ⟨r1,h1,rfl⟩⟩
        ·have hx:x∈[(r,AO.data e' (szU u') (encL u' (f s)) true)]:=hx
         rw [List.mem_singleton] at hx
         subst hx
         unfold WkO
         simp only [h1]
         exact ⟨true,encL u' (f s),by simp only [rdc,hr,Option.map_some,SO.c],.inl rfl,fun _=>rfl,fun h=>by cases h⟩
      ·cases hp
     ·cases hp
    ·cases hp
   ·cases hp
 | .pt r off,v,p,hp,hc,hfz,hl,hpt=>by
   refine ⟨?_,fun x hx=>(by simp [oC] at hx)⟩
   simp only [pkCP] at hp
   split at hp
   ·rename_i r1 off1
    split at hp
    ·rename_i hd
     rw [Bool.and_eq_true] at hd
     obtain rfl:=of_decide_eq_true hd.2
     cases hp
     rw [SV.c]
     show WkV θ _ hp2 (.ptr r off) _
     rw [WkV]
     exact ⟨r1,eqN_eq hd.1,hpt r (by simp [ptRefs]),rfl⟩
    ·cases hp
   ·cases hp
 | .cl f caps,v,p,hp,hc,hfz,hl,hpt=>by
   refine ⟨?_,fun x hx=>(by simp [oC] at hx)⟩
   simp only [pkCP] at hp
   split at hp
   ·rename_i f' vs
    split at hp
    ·rename_i hd
     rw [Bool.and_eq_true] at hd
     obtain ⟨hd,hb⟩:=hd
     obtain rfl:=of_decide_eq_true hd
     cases hp
     rw [SV.c]
     show WkV θ _ hp2 (.clo f (capA caps)) _
     rw [WkV]
     exact ⟨_,rfl,capB_wk caps vs hb fun r hr=>hpt r (by show r∈caps.map (·.1)++[];rw [List.append_nil];exact hr)⟩
    ·cases hp
   ·cases hp
theorem pkCsP_wk:∀(cs:List CS) (vs:List (SV σ)) (p:PK σ (uCs cs).T),pkCsP θ rd cs vs=some p→allT s p.cs→(∀x∈p.fz,Freed θ hp2 x.1)→(∀x∈oCs cs (p.f s),(hp2 x.1).isSome=true)→(∀r∈ptRefs cs,(hp2 r).isSome=true) →
 WkL θ (rdc s rd) hp2 (aCs cs (p.f s)) (cL s vs)∧∀x∈oCs cs (p.f s),WkO θ (rdc s rd) hp2 x.1 x.2
 | [],[],p,hp,hc,hfz,hl,hpt=>by
   refine ⟨?_,fun x hx=>(by cases hx)⟩
   rw [cL,show aCs [] (p.f s)=[] from rfl,WkL]
 | c::cs,v::vs,p,hp,hc,hfz,hl,hpt=>by
   rw [pkCsP] at hp
   split at hp
   ·rename_i x y hx hy
    cases hp
    rw [allT_append] at hc
    have e1:pfst (uC c) (uCs cs) (pmk (uC c) (uCs cs) (x.f s) (y.f s))=x.f s:=pfst_mk _ _ _ _
    have e2:psnd (uC c) (uCs cs) (pmk (uC c) (uCs cs) (x.f s) (y.f s))=y.f s:=psnd_mk _ _ _ _
    simp only [oCs,e1,e2] at hl
    have hpt1:∀r∈ptRefs [c],(hp2 r).isSome=true:=fun r hr=>hpt r (by cases c<;>simp [ptRefs] at hr ⊢ <;> first | exact .inl hr | simp [hr])
    have hpt2:∀r∈ptRefs cs,(hp2 r).isSome=true:=fun r hr=>hpt r (by cases c<;>simp [ptRefs,hr])
    obtain ⟨a1,a2⟩:=pkCP_wk c v x hx hc.1 (fun z hz=>hfz z (List.mem_append_left _ hz)) (fun z hz=>hl z (List.mem_append_left _ hz)) hpt1
    obtain ⟨b1,b2⟩:=pkCsP_wk cs vs y hy hc.2 (fun z hz=>hfz z (List.mem_append_right _ hz)) (fun z hz=>hl z (List.mem_append_right _ hz)) hpt2
    refine ⟨?_,fun z hz => ?_⟩
    ·rw [cL]
     simp only [aCs,e1,e2]
     rw [WkL]
     exact ⟨_,_,rfl,a1,b1⟩
    ·simp only [oCs,e1,e2] at hz
     rcases List.mem_append.1 hz with h | h
     ·exact a2 z h
     ·exact b2 z h
   ·cases hp
 | [],_::_,p,hp,_,_,_,_=>by cases hp
 | _::_,[],p,hp,_,_,_,_=>by cases hp
theorem pkIP_wk {d:SS σ} {N:Nat}:∀(i:IT) (p:PK σ (uI i).T),pkIP θ d i=some p→allT s p.cs→(∀x∈p.fz,Freed θ hp2 x.1)→(∀x∈aH i (p.f s),(hp2 x.1).isSome=true)→(∀r∈itRefs [i],(hp2 r).isSome=true) →
 (∀x∈aT i (p.f s),WkV θ (d.c s N).rd hp2 x.2 ((d.c s N).get x.1))∧∀x∈aH i (p.f s),WkO θ (d.c s N).rd hp2 x.1 x.2
 | .tmp t agg cs,p,hp,hc,hfz,hl,hpt=>by
   rw [←rdS_c s N]
   have hget:∀v,lookQ t d.tm=some v→(d.c s N).get t=v.c s:=fun v hv=>by
    rw [lookQ_eq] at hv
    unfold SL.get SS.c
    simp only [look_cT,hv,Option.map_some]
   have hpt':∀r∈ptRefs cs,(hp2 r).isSome=true:=fun r hr=>hpt r (by simp [itRefs,hr])
   simp only [pkIP] at hp
   cases hv:lookQ t d.tm with
   | none=>simp only [hv] at hp;cases hp
   | some v =>
     simp only [hv] at hp
     cases agg with
     | false =>
       simp only at hp
       obtain ⟨a,b⟩:=pkCsP_wk cs [v] p hp hc hfz hl hpt'
       refine ⟨fun x hx => ?_,b⟩
       have hx:x∈[(t,one1A (aCs cs (p.f s)))]:=hx
       rw [List.mem_singleton] at hx
       subst hx
       show WkV θ _ hp2 (one1A (aCs cs (p.f s))) ((d.c s N).get t)
       rw [hget v hv]
       rw [cL,cL] at a
       generalize aCs cs (p.f s)=ys at a ⊢
       cases ys with
       | nil=>rw [WkL] at a;cases a
       | cons y ys =>
         rw [WkL] at a
         obtain ⟨x,xs,h1,h2,h3⟩:=a
         cases h1
         cases ys with
         | nil=>exact h2
         | cons z zs=>rw [WkL] at h3;obtain ⟨_,_,h4,_⟩:=h3;cases h4
     | true =>
       simp only at hp
       cases v with
       | agg vs =>
         simp only at hp
         obtain ⟨a,b⟩:=pkCsP_wk cs vs p hp hc hfz hl hpt'
         refine ⟨fun x hx => ?_,b⟩
         have hx:x∈[(t,AV.agg (aCs cs (p.f s)))]:=hx
         rw [List.mem_singleton] at hx
         subst hx
         show WkV θ _ hp2 (.agg (aCs cs (p.f s))) ((d.c s N).get t)
         rw [hget _ hv,SV.c,WkV]
         exact ⟨_,rfl,a⟩
       | _=>cases hp
 | .mix r cs,p,hp,hc,hfz,hl,hpt=>by
   rw [←rdS_c s N]
   refine ⟨fun x hx=>(by cases hx),?_⟩
   simp only [pkIP] at hp
   cases hr:θ r with
   | none=>simp only [hr] at hp;cases hp
   | some r1 =>
     simp only [hr] at hp
     cases hvs:rdS d r1 with
     | none=>simp only [hvs] at hp;cases hp
     | some o =>
       cases o with
       | mix vs =>
         simp only [hvs] at hp
         have hpt':∀r∈ptRefs cs,(hp2 r).isSome=true:=fun r hr=>hpt r (by simp [itRefs,hr])
         obtain ⟨a,b⟩:=pkCsP_wk cs vs p hp hc hfz (fun x hx=>hl x (List.mem_cons_of_mem _ hx)) hpt'
         intro x hx
         rcases List.mem_cons.1 hx with rfl | hx
         ·unfold WkO
          simp only [hr]
          exact ⟨_,by simp only [rdc,hvs,Option.map_some,SO.c],a⟩
         ·exact b x hx
       | data e u f wr=>simp only [hvs] at hp;cases hp
       | arr u f=>simp only [hvs] at hp;cases hp
       | mp f=>simp only [hvs] at hp;cases hp
       | dead=>simp only [hvs] at hp;cases hp
 | .row r e u,p,hp,hc,hfz,hl,hpt=>by
   rw [←rdS_c s N]
   refine ⟨fun x hx=>(by cases hx),?_⟩
   simp only [pkIP] at hp
   split at hp
   ·rename_i r1 hr1
    split at hp
    ·rename_i e' u' f hr
     split at hp
     ·rename_i hk _ hd
      subst hk
      have hd:=of_decide_eq_true hd
      subst hd
      cases hp
      intro x hx
      have hx:x∈[(r,AO.data e' (szU u') (encL u' (f s)) true)]:=hx
      rw [List.mem_singleton] at hx
      subst hx
      unfold WkO
      simp only [hr1]
      exact ⟨true,encL u' (f s),by simp only [rdc,hr,Option.map_some,SO.c],.inl rfl,fun _=>rfl,fun h=>by cases h⟩
     ·cases hp
    ·cases hp
   ·cases hp
 | .arr r u,p,hp,hc,hfz,hl,hpt=>by
   rw [←rdS_c s N]
   refine ⟨fun x hx=>(by cases hx),?_⟩
   simp only [pkIP] at hp
   split at hp
   ·rename_i r1 hr1
    split at hp
    ·rename_i u' f hr
     split at hp
     ·rename_i hk _
      subst hk
      cases hp
      intro x hx
      have hx:x∈[(r,AO.mix ((encL u' (f s)).map .d))]:=hx
      rw [List.mem_singleton] at hx
      subst hx
      unfold WkO
      simp only [hr1]
      exact ⟨_,by simp only [rdc,hr,Option.map_some,SO.c],wkL_id _ fun r hr=>(by rw [refs_data] at hr;cases hr)⟩
     ·cases hp
    ·cases hp
   ·cases hp
 | .mp r,p,hp,hc,hfz,hl,hpt=>by
   rw [←rdS_c s N]
   refine ⟨fun x hx=>(by cases hx),?_⟩
   simp only [pkIP] at hp
   split at hp
   ·rename_i r1 hr1
    split at hp
    ·rename_i f hr
     cases hp
     intro x hx
     have hx:x∈[(r,AO.mp (f s))]:=hx
     rw [List.mem_singleton] at hx
     subst hx
     unfold WkO
     simp only [hr1]
     simp only [rdc,hr,Option.map_some,SO.c]
    ·cases hp
   ·cases hp
 | .drop t,p,hp,hc,hfz,hl,hpt=>by cases hp
 | .dead r,p,hp,hc,hfz,hl,hpt=>by cases hp
theorem pkIsP_wk {d:SS σ} {N:Nat}:∀(l:List IT) (p:PK σ (uIs l).T),pkIsP θ d l=some p→allT s p.cs→(∀x∈p.fz,Freed θ hp2 x.1)→(∀x∈aHs l (p.f s),(hp2 x.1).isSome=true)→(∀r∈itRefs l,(hp2 r).isSome=true) →
 (∀x∈aTs l (p.f s),WkV θ (d.c s N).rd hp2 x.2 ((d.c s N).get x.1))∧∀x∈aHs l (p.f s),WkO θ (d.c s N).rd hp2 x.1 x.2
 | [],p,hp,hc,hfz,hl,hpt=>⟨fun x hx=>(by cases hx),fun x hx=>(by cases hx)⟩
 | i::l,p,hp,hc,hfz,hl,hpt=>by
   rw [pkIsP] at hp
   split at hp
   ·rename_i x y hx hy
    cases hp
    rw [allT_append] at hc
    have e1:pfst (uI i) (uIs l) (pmk (uI i) (uIs l) (x.f s) (y.f s))=x.f s:=pfst_mk _ _ _ _
    have e2:psnd (uI i) (uIs l) (pmk (uI i) (uIs l) (x.f s) (y.f s))=y.f s:=psnd_mk _ _ _ _
    simp only [aHs,e1,e2] at hl
    obtain ⟨a1,a2⟩:=pkIP_wk (N:=N) i x hx hc.1 (fun z hz=>hfz z (List.mem_append_left _ hz)) (fun z hz=>hl z (List.mem_append_left _ hz)) (fun r hr=>hpt r (ptRefs_it r hr))
    obtain ⟨b1,b2⟩:=pkIsP_wk (N:=N) l y hy hc.2 (fun z hz=>hfz z (List.mem_append_right _ hz)) (fun z hz=>hl z (List.mem_append_right _ hz)) (fun r hr=>hpt r (itRefs_tl r hr))
    simp only [aTs,aHs,e1,e2]
    refine ⟨fun z hz => ?_,fun z hz => ?_⟩
    ·rcases List.mem_append.1 hz with h | h
     ·exact a1 z h
     ·exact b1 z h
    ·rcases List.mem_append.1 hz with h | h
     ·exact a2 z h
     ·exact b2 z h
   ·cases hp
end
section
variable {σ τ σ':Type}
def cellQ:CS→SV σ→List (Nat×Option Nat)
 | .own r _ _,.sl r1 _ _ _ _=>[(r,some r1)]
 | .own r _ _,_=>[(r,none)]
 | .pt r _,.ptr r1 _=>match decide (r=r1) with | true=>[] | false=>[(r,some r1)]
 | _,_=>[]
def addQ:List (Nat×Option Nat)→List (Nat×Option Nat)→List (Nat×Option Nat)
 | acc,[]=>acc
 | acc,(r,x)::l=>match memB r (keyTh acc) with | true=>addQ acc l | false=>addQ (acc++[(r,x)]) l
def cellsQ:List CS→List (SV σ)→List (Nat×Option Nat)
 | c::cs,v::vs=>cellQ c v++cellsQ cs vs
 | _,_=>[]
def namesQ (d:SS σ):List IT→List (Nat×Option Nat)→List (Nat×Option Nat)
 | [],acc=>acc
 | .tmp t false cs::l,acc=>match lookQ t d.tm with
   | some v=>namesQ d l (addQ acc (cellsQ cs [v]))
   | none=>namesQ d l acc
 | .tmp t true cs::l,acc=>match lookQ t d.tm with
   | some (.agg vs)=>namesQ d l (addQ acc (cellsQ cs vs))
   | _=>namesQ d l acc
 | .mix r cs::l,acc=>match thF acc r with
   | some r1=>match rdS d r1 with
     | some (.mix vs)=>namesQ d l (addQ acc (cellsQ cs vs))
     | _=>namesQ d l acc
   | none=>namesQ d l acc
 | _::l,acc=>namesQ d l acc
def pkIQ (θ:Nat→Option Nat) (d:SS σ):(i:IT)→Option (PK σ (uI i).T)
 | .drop _=>some ⟨fun _=>(),[],[]⟩
 | .dead _=>some ⟨fun _=>(),[],[]⟩
 | i=>pkIP θ d i
def pkIsQ (θ:Nat→Option Nat) (d:SS σ):(l:List IT)→Option (PK σ (uIs l).T)
 | []=>some ⟨fun _=>(),[],[]⟩
 | i::l=>match pkIQ θ d i,pkIsQ θ d l with
   | some x,some y=>some ⟨fun s=>pmk (uI i) (uIs l) (x.f s) (y.f s),x.cs++y.cs,x.fz++y.fz⟩
   | _,_=>none
theorem pkIQ_wk {s:σ} {θ:Nat→Option Nat} {hp2:Nat→Option AO} {d:SS σ} {N:Nat} (i:IT) (p:PK σ (uI i).T) (hp:pkIQ θ d i=some p) (hc:allT s p.cs) (hfz:∀x∈p.fz,Freed θ hp2 x.1) (hl:∀x∈aH i (p.f s),(hp2 x.1).isSome=true) (hpt:∀r∈itRefs [i],(hp2 r).isSome=true) :
 (∀x∈aT i (p.f s),WkV θ (d.c s N).rd hp2 x.2 ((d.c s N).get x.1))∧∀x∈aH i (p.f s),WkO θ (d.c s N).rd hp2 x.1 x.2:=by
 cases i with
 | drop t =>
   refine ⟨fun x hx => ?_,fun x hx=>(by cases hx)⟩
   have hx:x∈[(t,AV.junk)]:=hx
   rw [List.mem_singleton] at hx
   subst hx
   rw [WkV];trivial
 | dead r =>
   refine ⟨fun x hx=>(by cases hx),fun x hx => ?_⟩
   have hx:x∈[(r,AO.dead)]:=hx
   rw [List.mem_singleton] at hx
   subst hx
   unfold WkO
   simp only
   split<;>trivial
 | tmp t a cs=>exact pkIP_wk _ p hp hc hfz hl hpt
 | mix r cs=>exact pkIP_wk _ p hp hc hfz hl hpt
 | row r e u=>exact pkIP_wk _ p hp hc hfz hl hpt
 | arr r u=>exact pkIP_wk _ p hp hc hfz hl hpt
 | mp r=>exact pkIP_wk _ p hp hc hfz hl hpt
theorem pkIsQ_wk {s:σ} {θ:Nat→Option Nat} {hp2:Nat→Option AO} {d:SS σ} {N:Nat}:∀(l:List IT) (p:PK σ (uIs l).T),pkIsQ θ d l=some p→allT s p.cs→(∀x∈p.fz,Freed θ hp2 x.1)→(∀x∈aHs l (p.f s),(hp2 x.1).isSome=true)→(∀r∈itRefs l,(hp2 r).isSome=true) →
 (∀x∈aTs l (p.f s),WkV θ (d.c s N).rd hp2 x.2 ((d.c s N).get x.1))∧∀x∈aHs l (p.f s),WkO θ (d.c s N).rd hp2 x.1 x.2
 | [],p,hp,hc,hfz,hl,hpt=>⟨fun x hx=>(by cases hx),fun x hx=>(by cases hx)⟩
 | i::l,p,hp,hc,hfz,hl,hpt=>by
   rw [pkIsQ] at hp
   split at hp
   ·rename_i x y hx hy
    cases hp
    rw [allT_append] at hc
    have e1:pfst (uI i) (uIs l) (pmk (uI i) (uIs l) (x.f s) (y.f s))=x.f s:=pfst_mk _ _ _ _
    have e2:psnd (uI i) (uIs l) (pmk (uI i) (uIs l) (x.f s) (y.f s))=y.f s:=psnd_mk _ _ _ _
    simp only [aHs,e1,e2] at hl
    obtain ⟨a1,a2⟩:=pkIQ_wk (N:=N) i x hx hc.1 (fun z hz=>hfz z (List.mem_append_left _ hz)) (fun z hz=>hl z (List.mem_append_left _ hz)) (fun r hr=>hpt r (ptRefs_it r hr))
    obtain ⟨b1,b2⟩:=pkIsQ_wk (N:=N) l y hy hc.2 (fun z hz=>hfz z (List.mem_append_right _ hz)) (fun z hz=>hl z (List.mem_append_right _ hz)) (fun r hr=>hpt r (itRefs_tl r hr))
    simp only [aTs,aHs,e1,e2]
    refine ⟨fun z hz => ?_,fun z hz => ?_⟩
    ·rcases List.mem_append.1 hz with h | h
     ·exact a1 z h
     ·exact b1 z h
    ·rcases List.mem_append.1 hz with h | h
     ·exact a2 z h
     ·exact b2 z h
   ·cases hp
def packQB (d:SS σ) (its:List IT) (d':SS τ) (fz:List (Nat×SO τ)) (th:List (Nat×Option Nat)):Bool :=
 ((((d'.tm.take (d'.tm.length-d.tm.length)).all fun x=>memB x.1 (covT its)||(match lookQ x.1 d.tm with | none=>true | some _=>false)) &&
  ((d'.hp.take (d'.hp.length-d.hp.length)).all fun x=>memB x.1 (covH its)||noneAt (rdS d) x.1)) &&
 ((nodupB (keyTh th)&&(keyTh th).all fun r=>noneAt (rdS d) r) &&
  (injTh (keyTh th) (headD d its) th&&fz.all fun x=>freedB th (headD d its) x.1))) &&
 ((okTm (keyTh th) (headD d its) (covT its) d.tm&&okHp (keyTh th) (headD d its) (covH its) d.hp) &&
  ((itRefs its).all fun r => !noneAt (rdS (headD d its)) r))
def packQ2 (d:SS σ) (its:List IT) (d':SS τ) (th:List (Nat×Option Nat)):Option (PK τ (uIs its).T) :=
 match pkIsQ (thF th) d' its with
 | none=>none
 | some p=>match packQB d its d' p.fz th with
   | true=>some p
   | false=>none
def packQ (d:SS σ) (its:List IT) (d':SS τ):Option (PK τ (uIs its).T) :=
 match namesQ d' its [] with
 | th=>packQ2 d its d' th
def packX (d:SS σ) (its:List IT) (d':SS τ):Option (PK τ (uIs its).T) :=
 match packR d its d' with
 | some p=>some p
 | none=>packQ d its d'
theorem packQ2_core {N:Nat} {d:SS σ} {its:List IT} {g:τ→σ} {d':SS τ} {p:PK τ (uIs its).T} {s:τ} {th:List (Nat×Option Nat)} (hg:Grow d g d') (h:packQ2 d its d' th=some p) (hc:allT s p.cs) :
 ∃ θ:Nat→Option Nat,(∀r,(look r d.hp).isSome=true→θ r=some r∧(((headD d its).c (g s,p.f s) N).rd r).isSome=true)∧WkH θ (d'.c s N).rd ((headD d its).c (g s,p.f s) N).rd ∧
   ∀t v,look t ((headD d its).c (g s,p.f s) N).tm=some v→WkV θ (d'.c s N).rd ((headD d its).c (g s,p.f s) N).rd v ((d'.c s N).get t):=by
 unfold packQ2 at h
 split at h
 ·cases h
 rename_i p' hp
 split at h
 ·rename_i hB
  cases h
  unfold packQB at hB
  simp only [Bool.and_eq_true] at hB
  obtain ⟨⟨⟨b1,b2⟩,⟨b3,b4⟩,b5,b6⟩,⟨b7,b8⟩,b9⟩:=hB
  have hkd:∀r∈keyTh th,look r d.hp=none:=fun r hr=>by
   have h1:=List.all_eq_true.1 b4 r hr
   unfold noneAt rdS at h1
   rw [lookQ_eq] at h1
   split at h1
   ·assumption
   ·cases h1
  have hT:((headD d its).c (g s,p.f s) N).tm=aTs its (p.f s)++cT (g s) d.tm:=by
   show cT (g s,p.f s) (headTs its Prod.snd++mapT Prod.fst d.tm)=_
   rw [cT_append,headTs_c,mapT_c]
  have hH:((headD d its).c (g s,p.f s) N).hp=aHs its (p.f s)++cO (g s) d.hp:=by
   show cO (g s,p.f s) (headHs its Prod.snd++mapO Prod.fst d.hp)=_
   rw [cO_append,headHs_c,mapOs_c]
  have hHs:∀r,(∃o,(r,o)∈aHs its (p.f s))→(((headD d its).c (g s,p.f s) N).rd r).isSome=true:=fun r ⟨o,ho⟩=>by
   unfold SL.rd
   rw [hH,look_append]
   obtain ⟨w,hw⟩:=look_isSome_of_mem ho
   rw [hw]
   rfl
  have hNs:∀l,okNs (keyTh th) (headD d its) l=true→∀r∈l,thF th r=some r∧(((headD d its).c (g s,p.f s) N).rd r).isSome=true:=fun l hl r hr=>by
   have:=List.all_eq_true.1 hl r hr
   unfold okN at this
   rw [Bool.and_eq_true,Bool.not_eq_true',Bool.not_eq_true'] at this
   exact ⟨thF_out (memB_false.1 this.1),noneAt_rd this.2⟩
  have hpt:∀r∈itRefs its,(((headD d its).c (g s,p.f s) N).rd r).isSome=true:=fun r hr=>by
   have:=List.all_eq_true.1 b9 r hr
   rw [Bool.not_eq_true'] at this
   exact noneAt_rd this
  have hfz:∀x∈p.fz,Freed (thF th) ((headD d its).c (g s,p.f s) N).rd x.1:=fun x hx r' hr' o ho=>by
   have:=List.all_eq_true.1 b6 x hx
   unfold freedB at this
   rw [Bool.and_eq_true] at this
   obtain ⟨f1,f2⟩:=this
   by_cases hk:r'∈keyTh th
   ·obtain ⟨y,hy1,hy2⟩:=thF_in hk
    rw [hy2] at hr'
    subst hr'
    have:=List.all_eq_true.1 f1 _ hy1
    simp at this
   ·rw [thF_out hk] at hr'
    cases hr'
    rcases (Bool.or_eq_true _ _).mp f2 with h | h
    ·exact (hk (memB_iff.1 h)).elim
    ·exact idle_c h ho
  obtain ⟨w1,w2⟩:=pkIsQ_wk (s:=s) (N:=N) (θ:=thF th) (hp2:=((headD d its).c (g s,p.f s) N).rd) its p hp hc hfz (fun x hx=>hHs x.1 ⟨x.2,hx⟩) hpt
  obtain ⟨⟨l1,g1⟩,⟨l2,g2⟩⟩:=hg
  have hl1:d'.tm.take (d'.tm.length-d.tm.length)=l1:=by rw [g1,List.length_append,mapT_len,Nat.add_sub_cancel,List.take_left]
  have hl2:d'.hp.take (d'.hp.length-d.hp.length)=l2:=by rw [g2,List.length_append,mapO_len,Nat.add_sub_cancel,List.take_left]
  rw [hl1] at b1
  rw [hl2] at b2
  have keptT:∀t w,t∉covT its→look t d.tm=some w→(d'.c s N).get t=w.c (g s):=fun t w ht hw=>by
   unfold SL.get SS.c
   simp only [look_cT,g1,look_append]
   rw [look_notin (l:=l1) (fun hm => ?_)]
   ·have:look t (mapT g d.tm)=some (w.map g):=by
     have:∀l:List (Nat×SV σ),look t (mapT g l)=(look t l).map (SV.map g):=by
      intro l
      induction l with
      | nil=>rfl
      | cons x l ih =>
        obtain ⟨k,v⟩:=x
        rw [mapT,look,look]
        split
        ·rfl
        ·exact ih
     rw [this,hw]
     rfl
    simp only [this,Option.map_some,map_c]
   ·obtain ⟨x,hx,rfl⟩:=List.mem_map.1 hm
    have:=List.all_eq_true.1 b1 x hx
    rcases (Bool.or_eq_true _ _).mp this with h | h
    ·exact ht (memB_iff.1 h)
    ·rw [lookQ_eq,hw] at h;cases h
  have keptH:∀r w,r∉covH its→look r d.hp=some w→(d'.c s N).rd r=some (w.c (g s)):=fun r w ht hw=>by
   unfold SL.rd SS.c
   simp only [look_cO,g2,look_append]
   rw [look_notin (l:=l2) (fun hm => ?_)]
   ·have:look r (mapO g d.hp)=some (w.map g):=by
     have:∀l:List (Nat×SO σ),look r (mapO g l)=(look r l).map (SO.map g):=by
      intro l
      induction l with
      | nil=>rfl
      | cons x l ih =>
        obtain ⟨k,v⟩:=x
        rw [mapO,look,look]
        split
        ·rfl
        ·exact ih
     rw [this,hw]
     rfl
    simp only [this,Option.map_some,mapO_c]
   ·obtain ⟨x,hx,rfl⟩:=List.mem_map.1 hm
    have:=List.all_eq_true.1 b2 x hx
    rcases (Bool.or_eq_true _ _).mp this with h | h
    ·exact ht (memB_iff.1 h)
    ·unfold noneAt rdS at h
     rw [lookQ_eq,hw] at h;cases h
  have notH:∀r,look r (aHs its (p.f s))=none→r∉covH its:=fun r hn hr=>by
   obtain ⟨o,ho⟩:=aHs_all its (p.f s) r hr
   exact look_none hn o ho
  refine ⟨thF th,fun r hs => ?_,⟨fun r o ho => ?_,fun r' r'' o' o'' r ho' ho'' hm' hm'' ht' ht'' => ?_⟩,fun t v hv => ?_⟩
  ·refine ⟨thF_out fun hk => ?_,?_⟩
   ·rw [hkd r hk] at hs;cases hs
   ·unfold SL.rd
    rw [hH,look_append]
    cases look r (aHs its (p.f s)) with
    | some x=>rfl
    | none =>
      simp only [look_cO]
      cases hl:look r d.hp with
      | none=>rw [hl] at hs;cases hs
      | some w=>rfl
  ·unfold SL.rd at ho
   rw [hH,look_append] at ho
   cases hl:look r (aHs its (p.f s)) with
   | some x =>
     rw [hl] at ho
     cases ho
     exact w2 _ (look_mem hl)
   | none =>
     rw [hl] at ho
     simp only [look_cO] at ho
     cases hw:look r d.hp with
     | none=>rw [hw] at ho;cases ho
     | some w =>
       rw [hw] at ho
       cases ho
       have hnc:=notH r hl
       obtain ⟨k1,k2⟩:=okHp_look b8 r w hnc hw
       exact wkO_same (thF_out k1) (keptH r w hnc hw) (fun q hq=>hNs _ k2 q (by rw [oRefs_c] at hq;exact hq))
  ·by_cases k1:r'∈keyTh th
   ·obtain ⟨x,x1,x2⟩:=thF_in k1
    rw [x2] at ht'
    subst ht'
    by_cases k2:r''∈keyTh th
    ·obtain ⟨y,y1,y2⟩:=thF_in k2
     rw [y2] at ht''
     subst ht''
     exact (injTh_spec b5).2 _ _ _ x1 y1
    ·rw [thF_out k2] at ht''
     cases ht''
     rcases (injTh_spec b5).1 _ _ x1 with h | h
     ·exact (k2 h).elim
     ·rw [idle_c h ho''] at hm'';cases hm''
   ·rw [thF_out k1] at ht'
    cases ht'
    by_cases k2:r''∈keyTh th
    ·obtain ⟨y,y1,y2⟩:=thF_in k2
     rw [y2] at ht''
     subst ht''
     rcases (injTh_spec b5).1 _ _ y1 with h | h
     ·exact (k1 h).elim
     ·rw [idle_c h ho'] at hm';cases hm'
    ·rw [thF_out k2] at ht''
     cases ht''
     rfl
  ·rw [hT,look_append] at hv
   cases hl:look t (aTs its (p.f s)) with
   | some x =>
     rw [hl] at hv
     cases hv
     exact w1 _ (look_mem hl)
   | none =>
     rw [hl] at hv
     simp only [look_cT] at hv
     cases hw:look t d.tm with
     | none=>rw [hw] at hv;cases hv
     | some w =>
       rw [hw] at hv
       cases hv
       have hnc:t∉covT its:=fun hc=>by
        obtain ⟨v,hv⟩:=aTs_all its (p.f s) t hc
        exact look_none hl v hv
       rw [keptT t w hnc hw]
       exact wkV_id _ fun r hr=>hNs _ (okTm_look b7 t w hnc hw) r (by rw [refs_c] at hr;exact hr)
 ·cases h
theorem packX_core {N:Nat} {d:SS σ} {its:List IT} {g:τ→σ} {d':SS τ} {p:PK τ (uIs its).T} {s:τ} (hg:Grow d g d') (h:packX d its d'=some p) (hc:allT s p.cs) :
 ∃ θ:Nat→Option Nat,(∀r,(look r d.hp).isSome=true→θ r=some r∧(((headD d its).c (g s,p.f s) N).rd r).isSome=true)∧WkH θ (d'.c s N).rd ((headD d its).c (g s,p.f s) N).rd ∧
   ∀t v,look t ((headD d its).c (g s,p.f s) N).tm=some v→WkV θ (d'.c s N).rd ((headD d its).c (g s,p.f s) N).rd v ((d'.c s N).get t):=by
 unfold packX at h
 split at h
 ·rename_i p' hp
  cases h
  exact pack_core hg hp hc
 ·unfold packQ at h
  exact packQ2_core hg h hc
theorem packX_tells {N:Nat} {hp0:Nat→Option AO} {d:SS σ} {its:List IT} {g:τ→σ} {d':SS τ} {p:PK τ (uIs its).T} {s:τ} (hg:Grow d g d') (h:packX d its d'=some p) (hc:allT s p.cs) (hks:∀r,(hp0 r).isSome=true→(look r d.hp).isSome=true) :
 Tells noG N hp0 (d'.c s N).S ((headD d its).c (g s,p.f s) N).S:=by
 obtain ⟨θ,h1,h2,h3⟩:=packX_core (N:=N) hg h hc
 exact tells_look θ (fun r o ho=>h1 r (hks r (by rw [ho];rfl))) h2 h3
end
section
variable {σ:Type} (ρ:Nat→Nat)
def valCP:(c:CS)→(σ→(uC c).T)→SV σ
 | .own r _ u,f => .sl (ρ r) (szU u) none (fun s=>(f s).length) .unk
 | .pt r off,_ => .ptr (ρ r) off
 | .cl f caps,_ => .clo f (capV ρ caps)
 | .dat u,f=>valC (.dat u) f
 | .nil,f=>valC .nil f
 | .np,f=>valC .np f
def objCP:(c:CS)→(σ→(uC c).T)→List (Nat×SO σ)
 | .own r e u,f=>[(ρ r,.data e u f true)]
 | _,_=>[]
def valCsP:(cs:List CS)→(σ→(uCs cs).T)→List (SV σ)
 | [],_=>[]
 | c::cs,f=>valCP ρ c (fun s=>pfst (uC c) (uCs cs) (f s))::valCsP cs (fun s=>psnd (uC c) (uCs cs) (f s))
def objCsP:(cs:List CS)→(σ→(uCs cs).T)→List (Nat×SO σ)
 | [],_=>[]
 | c::cs,f=>objCP ρ c (fun s=>pfst (uC c) (uCs cs) (f s))++objCsP cs (fun s=>psnd (uC c) (uCs cs) (f s))
def headTP:(i:IT)→(σ→(uI i).T)→List (Nat×SV σ)
 | .tmp t true cs,f=>[(t,.agg (valCsP ρ cs f))]
 | .tmp t false cs,f=>[(t,one1 (valCsP ρ cs f))]
 | .drop t,_=>[(t,.junk)]
 | _,_=>[]
def headHP:(i:IT)→(σ→(uI i).T)→List (Nat×SO σ)
 | .tmp _ _ cs,f=>objCsP ρ cs f
 | .mix r cs,f=>(ρ r,.mix (valCsP ρ cs f))::objCsP ρ cs f
 | .row r e u,f=>[(ρ r,.data e u f true)]
 | .arr r u,f=>[(ρ r,.arr u f)]
 | .mp r,f=>[(ρ r,.mp f)]
 | .dead r,_=>[(ρ r,.dead)]
 | _,_=>[]
def headTsP:(l:List IT)→(σ→(uIs l).T)→List (Nat×SV σ)
 | [],_=>[]
 | i::l,f=>headTP ρ i (fun s=>pfst (uI i) (uIs l) (f s))++headTsP l (fun s=>psnd (uI i) (uIs l) (f s))
def headHsP:(l:List IT)→(σ→(uIs l).T)→List (Nat×SO σ)
 | [],_=>[]
 | i::l,f=>headHP ρ i (fun s=>pfst (uI i) (uIs l) (f s))++headHsP l (fun s=>psnd (uI i) (uIs l) (f s))
end
section
variable {σ:Type} {s:σ} {ρ:Nat→Nat} {θ':Nat→Option Nat} {hp1 hp2:Nat→Option AO}
theorem capP_wk:∀(caps:List (Nat×Nat)),(∀r∈caps.map (·.1),θ' (ρ r)=some r∧(hp2 (ρ r)).isSome=true)→WkL θ' hp1 hp2 (cL s (capV ρ caps)) (capA caps)
 | [],_=>by rw [capV,cL,capA,WkL]
 | (r,off)::l,h=>by
   rw [capV,cL,SV.c,capA,WkL]
   have:=h r (by simp)
   exact ⟨_,_,rfl,by rw [WkV];exact ⟨r,this.1,this.2,rfl⟩,capP_wk l fun x hx=>h x (by simp at hx ⊢;exact .inr hx)⟩
theorem datA_wk (u:U) (x:(uC (.dat u)).T):WkV θ' hp1 hp2 (aC (.dat u) x) (aC (.dat u) x):=wkV_id _ fun r hr=>by cases u<;>simp [aC,aInt,aBool,AV.refs] at hr
theorem valCP_wk:∀(c:CS) (f:σ→(uC c).T),(∀r∈ownN [c]++ptRefs [c],θ' (ρ r)=some r∧(hp2 (ρ r)).isSome=true)→WkV θ' hp1 hp2 ((valCP ρ c f).c s) (aC c (f s))
 | .dat u,f,h=>by rw [valCP,valC_c];exact datA_wk u _
 | .nil,f,h=>by rw [valCP,valC_c];exact wkV_id _ fun r hr=>by simp [aC,AV.refs] at hr
 | .np,f,h=>by rw [valCP,valC_c];exact wkV_id _ fun r hr=>by simp [aC,AV.refs] at hr
 | .own r e u,f,h=>by
   have:=h r (by simp [ownN])
   rw [valCP,cOwn]
   show WkV θ' hp1 hp2 _ (.sl r 0 (f s).length none)
   rw [WkV]
   exact ⟨this.2,.inl ⟨r,this.1,rfl⟩⟩
 | .pt r off,f,h=>by
   have:=h r (by simp [ownN,ptRefs])
   rw [valCP,cPtr]
   show WkV θ' hp1 hp2 _ (.ptr r off)
   rw [WkV]
   exact ⟨r,this.1,this.2,rfl⟩
 | .cl f caps,_,h=>by
   rw [valCP,SV.c]
   show WkV θ' hp1 hp2 _ (.clo f (capA caps))
   rw [WkV]
   exact ⟨_,rfl,capP_wk caps fun r hr=>h r (by show r∈[]++(caps.map (·.1)++[]);rw [List.nil_append,List.append_nil];exact hr)⟩
theorem ownN_cons (c:CS) (cs:List CS):ownN (c::cs)=ownN [c]++ownN cs:=by cases c<;>rfl
theorem ptRefs_cons (c:CS) (cs:List CS):ptRefs (c::cs)=ptRefs [c]++ptRefs cs:=by cases c<;>simp [ptRefs]
theorem valCsP_wk:∀(cs:List CS) (f:σ→(uCs cs).T),(∀r∈ownN cs++ptRefs cs,θ' (ρ r)=some r∧(hp2 (ρ r)).isSome=true)→WkL θ' hp1 hp2 (cL s (valCsP ρ cs f)) (aCs cs (f s))
 | [],f,h=>by rw [valCsP,cL,show aCs [] (f s)=[] from rfl,WkL]
 | c::cs,f,h=>by
   rw [valCsP,cL,WkL]
   refine ⟨_,_,rfl,valCP_wk c _ fun r hr=>h r ?_,valCsP_wk cs _ fun r hr=>h r ?_⟩
   ·rw [ownN_cons,ptRefs_cons]
    rcases List.mem_append.1 hr with g | g
    ·exact List.mem_append_left _ (List.mem_append_left _ g)
    ·exact List.mem_append_right _ (List.mem_append_left _ g)
   ·rw [ownN_cons,ptRefs_cons]
    rcases List.mem_append.1 hr with g | g
    ·exact List.mem_append_left _ (List.mem_append_right _ g)
    ·exact List.mem_append_right _ (List.mem_append_right _ g)
def ObP (θ':Nat→Option Nat) (hp1 hp2:Nat→Option AO) (ρ:Nat→Nat) (l:List (Nat×AO)) (x:Nat×AO):Prop:=∃r o1,x.1=ρ r∧(r,o1)∈l∧(hp1 r=some o1→θ' (ρ r)=some r→WkO θ' hp1 hp2 x.1 x.2)
theorem ObP.mono {l l':List (Nat×AO)} {x:Nat×AO} (h:ObP θ' hp1 hp2 ρ l x) (k:∀y∈l,y∈l'):ObP θ' hp1 hp2 ρ l' x:=by
 obtain ⟨r,o1,h1,h2,h3⟩:=h
 exact ⟨r,o1,h1,k _ h2,h3⟩
theorem obP_data {r e z:Nat} {cs:List DV}:ObP θ' hp1 hp2 ρ [(r,.data e z cs true)] (ρ r,.data e z cs true) :=
 ⟨r,_,rfl,List.mem_singleton.2 rfl,fun h1 h2=>by unfold WkO;simp only [h2];exact ⟨true,cs,h1,.inl rfl,fun _=>rfl,fun h=>by cases h⟩⟩
theorem objCsP_wk:∀(cs:List CS) (f:σ→(uCs cs).T),∀x∈cO s (objCsP ρ cs f),ObP θ' hp1 hp2 ρ (oCs cs (f s)) x
 | [],f,x,hx=>by cases hx
 | c::cs,f,x,hx=>by
   rw [objCsP,cO_append] at hx
   rcases List.mem_append.1 hx with hx | hx
   ·cases c with
    | own r e u =>
      have hx:x∈[(ρ r,AO.data e (szU u) (encL u (pfst (.list u) (uCs cs) (f s))) true)]:=hx
      rw [List.mem_singleton] at hx
      subst hx
      exact (obP_data (r:=r)).mono fun y hy=>List.mem_append_left _ hy
    | _=>cases hx
   ·exact (objCsP_wk cs _ x hx).mono fun y hy=>List.mem_append_right _ hy
theorem headHP_wk:∀(i:IT) (f:σ→(uI i).T),(∀r∈namesH [i]++itRefs [i],θ' (ρ r)=some r∧(hp2 (ρ r)).isSome=true)→∀x∈cO s (headHP ρ i f),ObP θ' hp1 hp2 ρ (aH i (f s)) x
 | .tmp t a cs,f,h,x,hx=>objCsP_wk cs f x hx
 | .mix r cs,f,h,x,hx=>by
   have hx:x∈(ρ r,AO.mix (cL s (valCsP ρ cs f)))::cO s (objCsP ρ cs f):=hx
   rcases List.mem_cons.1 hx with rfl | hx
   ·refine ⟨r,.mix (aCs cs (f s)),rfl,List.mem_cons_self,fun h1 h2 => ?_⟩
    unfold WkO
    simp only [h2]
    refine ⟨_,h1,valCsP_wk cs f fun q hq=>h q ?_⟩
    rcases List.mem_append.1 hq with g | g
    ·exact List.mem_append_left _ (by show q∈r::(ownN cs++[]);simp [g])
    ·exact List.mem_append_right _ (by show q∈ptRefs cs++[];simp [g])
   ·exact (objCsP_wk cs f x hx).mono fun y hy=>List.mem_cons_of_mem _ hy
 | .row r e u,f,h,x,hx=>by
   have hx:x∈[(ρ r,AO.data e (szU u) (encL u (f s)) true)]:=hx
   rw [List.mem_singleton] at hx
   subst hx
   exact obP_data
 | .arr r u,f,h,x,hx=>by
   have hx:x∈[(ρ r,AO.mix ((encL u (f s)).map .d))]:=hx
   rw [List.mem_singleton] at hx
   subst hx
   refine ⟨r,_,rfl,List.mem_singleton.2 rfl,fun h1 h2 => ?_⟩
   unfold WkO
   simp only [h2]
   exact ⟨_,h1,wkL_id _ fun q hq=>(by rw [refs_data] at hq;cases hq)⟩
 | .mp r,f,h,x,hx=>by
   have hx:x∈[(ρ r,AO.mp (f s))]:=hx
   rw [List.mem_singleton] at hx
   subst hx
   refine ⟨r,_,rfl,List.mem_singleton.2 rfl,fun h1 h2 => ?_⟩
   unfold WkO
   simp only [h2]
   exact h1
 | .dead r,f,h,x,hx=>by
   have hx:x∈[(ρ r,AO.dead)]:=hx
   rw [List.mem_singleton] at hx
   subst hx
   refine ⟨r,_,rfl,List.mem_singleton.2 rfl,fun h1 h2 => ?_⟩
   unfold WkO
   simp only [h2]
 | .drop t,f,h,x,hx=>by cases hx
theorem namesH_cons (i:IT) (l:List IT):namesH (i::l)=namesH [i]++namesH l:=by cases i<;>simp [namesH]
theorem itRefs_cons (i:IT) (l:List IT):itRefs (i::l)=itRefs [i]++itRefs l:=by cases i<;>simp [itRefs]
theorem headHsP_wk:∀(l:List IT) (f:σ→(uIs l).T),(∀r∈namesH l++itRefs l,θ' (ρ r)=some r∧(hp2 (ρ r)).isSome=true)→∀x∈cO s (headHsP ρ l f),ObP θ' hp1 hp2 ρ (aHs l (f s)) x
 | [],f,h,x,hx=>by cases hx
 | i::l,f,h,x,hx=>by
   rw [headHsP,cO_append] at hx
   rw [namesH_cons,itRefs_cons] at h
   have h1:∀r∈namesH [i]++itRefs [i],θ' (ρ r)=some r∧(hp2 (ρ r)).isSome=true:=fun r hr=>h r (by
    rcases List.mem_append.1 hr with g | g
    ·exact List.mem_append_left _ (List.mem_append_left _ g)
    ·exact List.mem_append_right _ (List.mem_append_left _ g))
   have h2:∀r∈namesH l++itRefs l,θ' (ρ r)=some r∧(hp2 (ρ r)).isSome=true:=fun r hr=>h r (by
    rcases List.mem_append.1 hr with g | g
    ·exact List.mem_append_left _ (List.mem_append_right _ g)
    ·exact List.mem_append_right _ (List.mem_append_right _ g))
   rcases List.mem_append.1 hx with hx | hx
   ·exact (headHP_wk i _ h1 x hx).mono fun y hy=>List.mem_append_left _ hy
   ·exact (headHsP_wk l _ h2 x hx).mono fun y hy=>List.mem_append_right _ hy
theorem one1_wk {ys xs:List AV} (h:WkL θ' hp1 hp2 ys xs):WkV θ' hp1 hp2 (one1A ys) (one1A xs):=by
 cases ys with
 | nil=>rw [WkL] at h;subst h;show WkV θ' hp1 hp2 .junk .junk;rw [WkV];trivial
 | cons y ys =>
   rw [WkL] at h
   obtain ⟨x,xs',rfl,h1,h2⟩:=h
   cases ys with
   | nil=>rw [WkL] at h2;subst h2;exact h1
   | cons z zs=>show WkV θ' hp1 hp2 .junk _;rw [WkV];trivial
theorem wkL_app {a b a' b':List AV} (h:WkL θ' hp1 hp2 a a') (k:WkL θ' hp1 hp2 b b'):WkL θ' hp1 hp2 (a++b) (a'++b'):=by
 induction a generalizing a' with
 | nil=>rw [WkL] at h;subst h;exact k
 | cons y ys ih =>
   rw [WkL] at h
   obtain ⟨x,xs',rfl,h1,h2⟩:=h
   rw [List.cons_append,WkL]
   exact ⟨x,xs'++b',rfl,h1,ih h2⟩
theorem wkL_one {y x:AV} (h:WkV θ' hp1 hp2 y x):WkL θ' hp1 hp2 [y] [x]:=by rw [WkL];exact ⟨x,[],rfl,h,by rw [WkL]⟩
theorem cL_sndP (l:List (Nat×SV σ)):cL s (l.map (·.2))=(cT s l).map (·.2):=by
 induction l with
 | nil=>rfl
 | cons x l ih=>obtain ⟨t,v⟩:=x;rw [List.map_cons,cL,ih,cT,List.map_cons]
theorem headTsP_wk:∀(l:List IT) (f:σ→(uIs l).T),(∀r∈namesH l++itRefs l,θ' (ρ r)=some r∧(hp2 (ρ r)).isSome=true)→WkL θ' hp1 hp2 ((cT s (headTsP ρ l f)).map (·.2)) ((aTs l (f s)).map (·.2))
 | [],f,h=>by show WkL θ' hp1 hp2 [] [];rw [WkL]
 | i::l,f,h=>by
   rw [headTsP,cT_append,List.map_append]
   rw [namesH_cons,itRefs_cons] at h
   have h2:∀r∈namesH l++itRefs l,θ' (ρ r)=some r∧(hp2 (ρ r)).isSome=true:=fun r hr=>h r (by
    rcases List.mem_append.1 hr with g | g
    ·exact List.mem_append_left _ (List.mem_append_right _ g)
    ·exact List.mem_append_right _ (List.mem_append_right _ g))
   rw [show aTs (i::l) (f s)=aT i (pfst (uI i) (uIs l) (f s))++aTs l (psnd (uI i) (uIs l) (f s)) from rfl,List.map_append]
   refine wkL_app ?_ (headTsP_wk l _ h2)
   cases i with
   | tmp t a cs =>
     have hc:∀r∈ownN cs++ptRefs cs,θ' (ρ r)=some r∧(hp2 (ρ r)).isSome=true:=fun q hq=>h q (by
      rcases List.mem_append.1 hq with g | g
      ·exact List.mem_append_left _ (List.mem_append_left _ (by show q∈ownN cs++[];simp [g]))
      ·exact List.mem_append_right _ (List.mem_append_left _ (by show q∈ptRefs cs++[];simp [g])))
     cases a with
     | true =>
       show WkL θ' hp1 hp2 [(SV.agg (valCsP ρ cs _)).c s] [.agg (aCs cs _)]
       refine wkL_one ?_
       rw [SV.c,WkV]
       exact ⟨_,rfl,valCsP_wk cs _ hc⟩
     | false =>
       show WkL θ' hp1 hp2 [(one1 (valCsP ρ cs _)).c s] [one1A (aCs cs _)]
       refine wkL_one ?_
       rw [one1_c]
       exact one1_wk (valCsP_wk cs _ hc)
   | drop t =>
     show WkL θ' hp1 hp2 [(SV.junk:SV σ).c s] [.junk]
     refine wkL_one ?_
     rw [SV.c,WkV];trivial
   | _=>show WkL θ' hp1 hp2 [] [];rw [WkL]
end
theorem oCs_names:∀(cs:List CS) (x:(uCs cs).T),(oCs cs x).map (·.1)=ownN cs
 | [],_=>rfl
 | c::cs,x=>by
   rw [oCs,List.map_append,oCs_names cs,ownN_cons]
   cases c<;>rfl
theorem aH_names:∀(i:IT) (x:(uI i).T),(aH i x).map (·.1)=namesH [i]
 | .tmp t a cs,x=>(oCs_names cs x).trans (List.append_nil _).symm
 | .mix r cs,x=>congrArg (fun l=>r::l) ((oCs_names cs x).trans (List.append_nil _).symm)
 | .row r e u,x=>rfl
 | .arr r u,x=>rfl
 | .mp r,x=>rfl
 | .dead r,x=>rfl
 | .drop t,x=>rfl
theorem aHs_names:∀(l:List IT) (x:(uIs l).T),(aHs l x).map (·.1)=namesH l
 | [],_=>rfl
 | i::l,x=>by rw [aHs,List.map_append,aH_names,aHs_names l,←namesH_cons]
theorem objCsP_names {σ:Type} (s:σ) (ρ:Nat→Nat):∀(cs:List CS) (f:σ→(uCs cs).T),(cO s (objCsP ρ cs f)).map (·.1)=(ownN cs).map ρ
 | [],_=>rfl
 | c::cs,f=>by
   rw [objCsP,cO_append,List.map_append,objCsP_names s ρ cs,ownN_cons,List.map_append]
   cases c<;>rfl
theorem headHP_names {σ:Type} (s:σ) (ρ:Nat→Nat):∀(i:IT) (f:σ→(uI i).T),(cO s (headHP ρ i f)).map (·.1)=(namesH [i]).map ρ
 | .tmp t a cs,f=>(objCsP_names s ρ cs f).trans (congrArg (List.map ρ) (List.append_nil _).symm)
 | .mix r cs,f=>congrArg (fun l=>ρ r::l) ((objCsP_names s ρ cs f).trans (congrArg (List.map ρ) (List.append_nil _).symm))
 | .row r e u,f=>rfl
 | .arr r u,f=>rfl
 | .mp r,f=>rfl
 | .dead r,f=>rfl
 | .drop t,f=>rfl
theorem headHsP_names {σ:Type} (s:σ) (ρ:Nat→Nat):∀(l:List IT) (f:σ→(uIs l).T),(cO s (headHsP ρ l f)).map (·.1)=(namesH l).map ρ
 | [],_=>rfl
 | i::l,f=>by rw [headHsP,cO_append,List.map_append,headHP_names,headHsP_names s ρ l,namesH_cons i l,List.map_append]
theorem nodupB_nd:∀ {l:List Nat},nodupB l=true→l.Nodup
 | [],_=>List.nodup_nil
 | r::l,h=>by
   rw [nodupB,Bool.and_eq_true,Bool.not_eq_true'] at h
   exact List.nodup_cons.2 ⟨memB_false.1 h.1,nodupB_nd h.2⟩
theorem look_nd {α:Type} {k:Nat} {v:α}:∀ {l:List (Nat×α)},(l.map (·.1)).Nodup→(k,v)∈l→look k l=some v
 | (j,w)::l,hn,hm=>by
   rw [List.map_cons,List.nodup_cons] at hn
   rw [look]
   rcases List.mem_cons.1 hm with e | hm
   ·cases e;rw [if_pos rfl]
   ·rw [if_neg (fun e=>hn.1 (by subst e;exact List.mem_map.2 ⟨_,hm,rfl⟩)),look_nd hn.2 hm]
theorem look_some_mem {α:Type} {k:Nat} {l:List (Nat×α)} (h:k∈l.map (·.1)):∃v,look k l=some v:=by
 obtain ⟨⟨j,v⟩,h1,rfl⟩:=List.mem_map.1 h
 exact look_isSome_of_mem h1
theorem live_aHs:∀ {l:List IT} {x:(uIs l).T},liveI l=true→∀y∈aHs l x,y.2 ≠ .dead
 | [],_,_,y,hy=>by cases hy
 | i::l,x,h,y,hy=>by
   have hl:liveI l=true:=by cases i<;>first | exact h | cases h
   rw [aHs] at hy
   rcases List.mem_append.1 hy with hy | hy
   ·have hcs:∀(cs:List CS) (z:(uCs cs).T),∀y∈oCs cs z,y.2 ≠ .dead:=fun cs=>by
     induction cs with
     | nil=>intro z y hy;cases hy
     | cons c cs ih =>
       intro z y hy
       rw [oCs] at hy
       rcases List.mem_append.1 hy with hy | hy
       ·cases c with
        | own r e u =>
          have hy:y∈[(r,AO.data e (szU u) (encL u (pfst (.list u) (uCs cs) z)) true)]:=hy
          rw [List.mem_singleton] at hy;subst hy;simp
        | _=>cases hy
       ·exact ih _ y hy
    cases i with
    | tmp t a cs=>exact hcs cs _ y hy
    | mix r cs =>
      rcases List.mem_cons.1 hy with rfl | hy
      ·simp
      ·exact hcs cs _ y hy
    | row r e u =>
      have hy:y∈[(r,AO.data e (szU u) (encL u (pfst (uI (.row r e u)) (uIs l) x)) true)]:=hy
      rw [List.mem_singleton] at hy;subst hy;simp
    | arr r u =>
      have hy:y∈[(r,AO.mix ((encL u (pfst (uI (.arr r u)) (uIs l) x)).map .d))]:=hy
      rw [List.mem_singleton] at hy;subst hy;simp
    | mp r =>
      have hy:y∈[(r,AO.mp (pfst (uI (.mp r)) (uIs l) x))]:=hy
      rw [List.mem_singleton] at hy;subst hy;simp
    | drop t=>cases h
    | dead r=>cases h
   ·exact live_aHs hl y hy
theorem lookN_mem {k r:Nat}:∀ {l:List (Nat×Option Nat)},lookN l k=some r→(k,some r)∈l
 | (j,x)::l,h=>by
   rw [lookN] at h
   split at h
   ·rename_i hd
    have:=of_decide_eq_true hd
    subst this
    subst h
    exact List.mem_cons_self
   ·exact List.mem_cons_of_mem _ (lookN_mem h)
theorem objs_wk {σ:Type} {s:σ} {ρ:Nat→Nat} {ri ai:List IT} {f1:σ→(uIs ri).T} {f2:σ→(uIs ai).T} {tbl:List (Nat×Option Nat)} (htb:tbl=(namesH ri++namesH ai).map fun r=>(ρ r,some r))
 (n1:nodupB (namesH ri)=true) (n2:nodupB (namesH ai)=true) (hin:∀r∈namesH ri++namesH ai,lookN tbl (ρ r)=some r) (hrf:∀r∈itRefs ri++itRefs ai,r∈namesH ri++namesH ai) :
 (∀r∈namesH ri++namesH ai,lookN tbl (ρ r)=some r∧(lookF (cO s (headHsP ρ ri f1++headHsP ρ ai f2)) (ρ r)).isSome=true) ∧
 WkH (lookN tbl) (lookF (aHs ri (f1 s)++aHs ai (f2 s))) (lookF (cO s (headHsP ρ ri f1++headHsP ρ ai f2))):=by
 have hnm:(cO s (headHsP ρ ri f1++headHsP ρ ai f2)).map (·.1)=(namesH ri++namesH ai).map ρ:=by rw [cO_append,List.map_append,headHsP_names,headHsP_names,List.map_append]
 have hall:∀r∈namesH ri++namesH ai,lookN tbl (ρ r)=some r∧(lookF (cO s (headHsP ρ ri f1++headHsP ρ ai f2)) (ρ r)).isSome=true:=fun r hr=>by
  refine ⟨hin r hr,?_⟩
  obtain ⟨v,hv⟩:=look_some_mem (k:=ρ r) (l:=cO s (headHsP ρ ri f1++headHsP ρ ai f2)) (by rw [hnm];exact List.mem_map.2 ⟨r,hr,rfl⟩)
  unfold lookF;rw [hv];rfl
 refine ⟨hall,fun r' o ho => ?_,fun r' r'' o' o'' r h1 h2 h3 h4 h5 h6 => ?_⟩
 ·have hsub:∀(l:List IT),(∀r∈namesH l,r∈namesH ri++namesH ai)→(∀r∈itRefs l,r∈itRefs ri++itRefs ai)→∀r∈namesH l++itRefs l,lookN tbl (ρ r)=some r∧(lookF (cO s (headHsP ρ ri f1++headHsP ρ ai f2)) (ρ r)).isSome=true:=fun l a b r hr=>by
   rcases List.mem_append.1 hr with g | g
   ·exact hall r (a r g)
   ·exact hall r (hrf r (b r g))
  have ho':=ho
  unfold lookF at ho
  rw [cO_append,look_append] at ho
  cases hl:look r' (cO s (headHsP ρ ri f1)) with
  | some o1 =>
    rw [hl] at ho
    cases ho
    obtain ⟨r,o2,e1,e2,e3⟩:=headHsP_wk (hp1:=lookF (aHs ri (f1 s)++aHs ai (f2 s))) ri f1 (hsub ri (fun r hr=>List.mem_append_left _ hr) (fun r hr=>List.mem_append_left _ hr)) _ (look_mem hl)
    have hr:r∈namesH ri:=by rw [←aHs_names ri (f1 s)];exact List.mem_map.2 ⟨_,e2,rfl⟩
    refine e3 ?_ (hin r (List.mem_append_left _ hr))
    unfold lookF
    rw [look_append,look_nd (by rw [aHs_names];exact nodupB_nd n1) e2]
  | none =>
    rw [hl] at ho
    obtain ⟨r,o2,e1,e2,e3⟩:=headHsP_wk (hp1:=lookF (aHs ri (f1 s)++aHs ai (f2 s))) ai f2 (hsub ai (fun r hr=>List.mem_append_right _ hr) (fun r hr=>List.mem_append_right _ hr)) _ (look_mem ho)
    have hr:r∈namesH ai:=by rw [←aHs_names ai (f2 s)];exact List.mem_map.2 ⟨_,e2,rfl⟩
    refine e3 ?_ (hin r (List.mem_append_right _ hr))
    unfold lookF
    rw [look_append]
    have hno:look r (aHs ri (f1 s))=none:=by
     cases hq:look r (aHs ri (f1 s)) with
     | none=>rfl
     | some w =>
       exfalso
       have hr2:r∈namesH ri:=by rw [←aHs_names ri (f1 s)];exact List.mem_map.2 ⟨_,look_mem hq,rfl⟩
       obtain ⟨v,hv⟩:=look_some_mem (k:=r') (l:=cO s (headHsP ρ ri f1)) (by rw [headHsP_names];exact List.mem_map.2 ⟨r,hr2,e1.symm⟩)
       rw [hl] at hv;cases hv
    rw [hno]
    exact look_nd (by rw [aHs_names];exact nodupB_nd n2) e2
 ·have key:∀q,lookN tbl q=some r→q=ρ r:=fun q hq=>by
   have:=lookN_mem hq
   rw [htb] at this
   obtain ⟨z,_,e⟩:=List.mem_map.1 this
   simp only [Prod.mk.injEq,Option.some.injEq] at e
   rw [←e.1,e.2]
  rw [key r' h5,key r'' h6]
section
variable {σ:Type}
def sameC:CS→SV σ→Bool
 | .dat (.int _),.int _ _=>true
 | .dat (.int _),.val _=>true
 | .dat .bool,.bool _=>true
 | .dat .bool,.val _=>true
 | .dat .str,.str _=>true
 | .dat .str,.val _=>true
 | .dat (.list _),.lst _ _=>true
 | .own r _ _,.sl _ _ _ _ _ => !shortN r
 | .nil,_=>true
 | .np,_=>true
 | .pt _ _,_=>true
 | .cl _ _,_=>true
 | _,_=>false
def sameCs:List CS→List (SV σ)→Bool
 | [],_=>true
 | c::cs,v::vs=>sameC c v&&sameCs cs vs
 | _,_=>false
def nilN:List CS→List (SV σ)→List Nat
 | .own r _ _::cs,v::vs=>match v with
   | .sl _ _ _ _ _=>match shortN r with
     | true=>r::nilN cs vs
     | false=>nilN cs vs
   | _=>r::nilN cs vs
 | _::cs,_::vs=>nilN cs vs
 | _,_=>[]
def diffI (θ:Nat→Option Nat) (d:SS σ):IT→List Nat
 | .tmp t agg cs=>match lookQ t d.tm with
   | none=>[]
   | some v=>match agg with
     | false=>nilN cs [v]
     | true=>match v with | .agg vs=>nilN cs vs | _=>[]
 | .mix r cs=>match θ r with
   | some r1=>match rdS d r1 with
     | some (.mix vs)=>match sameCs cs vs with
       | true=>nilN cs vs
       | false=>r::nilN cs vs
     | _=>[]
   | none=>[]
 | _=>[]
def diffN (θ:Nat→Option Nat) (d:SS σ):List IT→List Nat
 | []=>[]
 | i::l=>diffI θ d i++diffN θ d l
end
section
variable {σ:Type} {s:σ} {θ:Nat→Option Nat} {rd:Nat→Option (SO σ)} {ρ:Nat→Nat}
theorem capB_same (hρ:∀r x,θ r=some x→ρ r=x):∀(caps:List (Nat×Nat)) (vs:List (SV σ)),capB θ caps vs=true→cL s (capV ρ caps)=cL s vs
 | [],[],_=>rfl
 | (r,off)::l,.ptr r1 off1::vs,h=>by
   rw [capB,Bool.and_eq_true,Bool.and_eq_true] at h
   obtain ⟨⟨h1,h2⟩,h3⟩:=h
   obtain rfl:=of_decide_eq_true h2
   rw [capV,cL,cL,capB_same hρ l vs h3,SV.c,SV.c,hρ r r1 (eqN_eq h1)]
 | [],_::_,h=>by cases h
 | (r,off)::l,[],h=>by cases h
 | (r,off)::l,.val _::vs,h=>by cases h
 | (r,off)::l,.int _ _::vs,h=>by cases h
 | (r,off)::l,.bool _::vs,h=>by cases h
 | (r,off)::l,.str _::vs,h=>by cases h
 | (r,off)::l,.lst _ _::vs,h=>by cases h
 | (r,off)::l,.ptx _ _ _ _::vs,h=>by cases h
 | (r,off)::l,.sl _ _ _ _ _::vs,h=>by cases h
 | (r,off)::l,.dpt _ _ _ _::vs,h=>by cases h
 | (r,off)::l,.agg _::vs,h=>by cases h
 | (r,off)::l,.tup _::vs,h=>by cases h
 | (r,off)::l,.clo _ _::vs,h=>by cases h
 | (r,off)::l,.undef::vs,h=>by cases h
 | (r,off)::l,.junk::vs,h=>by cases h
theorem pkCP_same (hρ:∀r x,θ r=some x→ρ r=x):∀(c:CS) (v:SV σ) (p:PK σ (uC c).T),pkCP θ rd c v=some p→allT s p.cs→sameC c v=true→(valCP ρ c p.f).c s=v.c s
 | .dat (.int k),v,p,hp,hc,hv=>by
   rw [valCP,valC_c]
   simp only [pkCP,pkC,isSc,pkU] at hp
   split at hp
   ·rename_i k' f hf
    split at hp
    ·rename_i hk _;obtain ⟨hk⟩:=hk;subst hk;cases hp;exact (asI_c hf s).symm
    ·cases hp
   ·cases hp
 | .dat .bool,v,p,hp,hc,hv=>by
   rw [valCP,valC_c]
   simp only [pkCP,pkC,isSc,pkU] at hp
   split at hp
   ·rename_i f hf;cases hp;exact (asB_c hf s).symm
   ·cases hp
 | .dat .str,v,p,hp,hc,hv=>by
   rw [valCP,valC_c]
   simp only [pkCP,pkC,isSc,pkU] at hp
   split at hp
   ·rename_i f hf;cases hp;exact (asS_c hf s).symm
   ·cases hp
 | .dat (.list t),v,p,hp,hc,hv=>by
   rw [valCP,valC_c]
   cases v with
   | lst u f =>
     simp only [pkCP,pkC,isSc,pkU,pkL] at hp
     split at hp
     ·rename_i hk _
      subst hk
      cases hp
      rw [SV.c];rfl
     ·cases hp
   | _=>cases hv
 | .dat (.pair a b),v,p,hp,hc,hv=>by cases v<;>cases hv
 | .dat .unit,v,p,hp,hc,hv=>by cases v<;>cases hv
 | .own r e u,v,p,hp,hc,hv=>by
   simp only [pkCP] at hp
   split at hp
   ·cases hv
   ·rename_i r1 z n
    split at hp
    ·rename_i h1
     have h1:=eqN_eq h1
     split at hp
     ·rename_i e' u' f hr
      split at hp
      ·rename_i hk _ hd
       subst hk
       obtain ⟨rfl,hz⟩:=of_decide_eq_true hd
       have hv:(!shortN r)=true:=hv
       split at hp
       ·rename_i hsh;rw [hsh] at hv;cases hv
       cases hp
       have hn:n s=(f s).length:=of_decide_eq_true hc.1
       rw [valCP,SV.c,SV.c,hρ r r1 h1,hz]
       show AV.sl r1 (oOf s none*szU u') (f s).length (cpOf s (f s).length Cp.unk)=_
       rw [hn]
      ·cases hp
     ·cases hp
    ·cases hp
   ·cases hp
 | .nil,v,p,hp,hc,hv=>by
   rw [valCP,valC_c]
   simp only [pkCP,pkC] at hp
   split at hp
   ·rw [SV.c];rfl
   ·cases hp
 | .np,v,p,hp,hc,hv=>by
   rw [valCP,valC_c]
   simp only [pkCP,pkC] at hp
   split at hp
   ·rw [SV.c];rfl
   ·cases hp
 | .pt r off,v,p,hp,hc,hv=>by
   simp only [pkCP] at hp
   split at hp
   ·rename_i r1 off1
    split at hp
    ·rename_i hd
     rw [Bool.and_eq_true] at hd
     obtain rfl:=of_decide_eq_true hd.2
     rw [valCP,SV.c,SV.c,hρ r r1 (eqN_eq hd.1)]
    ·cases hp
   ·cases hp
 | .cl f caps,v,p,hp,hc,hv=>by
   simp only [pkCP] at hp
   split at hp
   ·rename_i f' vs
    split at hp
    ·rename_i hd
     rw [Bool.and_eq_true] at hd
     obtain rfl:=of_decide_eq_true hd.1
     rw [valCP,SV.c,SV.c,capB_same hρ caps vs hd.2]
    ·cases hp
   ·cases hp
theorem pkCsP_same (hρ:∀r x,θ r=some x→ρ r=x):∀(cs:List CS) (vs:List (SV σ)) (p:PK σ (uCs cs).T),pkCsP θ rd cs vs=some p→allT s p.cs →
 (sameCs cs vs=true→cL s (valCsP ρ cs p.f)=cL s vs)∧∀x∈cO s (objCsP ρ cs p.f),x.1∈(nilN cs vs).map ρ∨rdc s rd x.1=some x.2
 | [],[],p,hp,hc=>⟨fun _=>rfl,fun x hx=>by cases hx⟩
 | c::cs,v::vs,p,hp,hc=>by
   rw [pkCsP] at hp
   split at hp
   ·rename_i x y hx hy
    cases hp
    rw [allT_append] at hc
    obtain ⟨b1,b2⟩:=pkCsP_same hρ cs vs y hy hc.2
    have e1:(fun s=>pfst (uC c) (uCs cs) (pmk (uC c) (uCs cs) (x.f s) (y.f s)))=x.f:=by funext s;exact pfst_mk _ _ _ _
    have e2:(fun s=>psnd (uC c) (uCs cs) (pmk (uC c) (uCs cs) (x.f s) (y.f s)))=y.f:=by funext s;exact psnd_mk _ _ _ _
    refine ⟨fun hs => ?_,fun z hz => ?_⟩
    ·rw [sameCs,Bool.and_eq_true] at hs
     rw [valCsP,cL,cL]
     simp only [e1,e2]
     rw [pkCP_same hρ c v x hx hc.1 hs.1,b1 hs.2]
    ·rw [objCsP,cO_append] at hz
     simp only [e1,e2] at hz
     rcases List.mem_append.1 hz with hz | hz
     ·cases c with
      | own r e u =>
        have hz:z∈[(ρ r,AO.data e (szU u) (encL u (x.f s)) true)]:=hz
        rw [List.mem_singleton] at hz
        subst hz
        simp only [pkCP] at hx
        split at hx
        ·left;show ρ r∈(r::nilN cs vs).map ρ;exact List.mem_map.2 ⟨r,List.mem_cons_self,rfl⟩
        ·rename_i r1 z n
         split at hx
         ·rename_i h1
          have h1:=eqN_eq h1
          split at hx
          ·rename_i e' u' f hr
           split at hx
           ·rename_i hk _ hd
            subst hk
            obtain ⟨rfl,hz⟩:=of_decide_eq_true hd
            split at hx
            ·rename_i hsh
             left
             show ρ r∈(match shortN r with | true=>r::nilN cs vs | false=>nilN cs vs).map ρ
             rw [hsh]
             exact List.mem_map.2 ⟨r,List.mem_cons_self,rfl⟩
            cases hx
            right
            rw [hρ r r1 h1]
            simp only [rdc,hr,Option.map_some,SO.c]
            rfl
           ·cases hx
          ·cases hx
         ·cases hx
        ·cases hx
      | _=>cases hz
     ·rcases b2 z hz with h | h
      ·left
       obtain ⟨q,q1,q2⟩:=List.mem_map.1 h
       refine List.mem_map.2 ⟨q,?_,q2⟩
       cases c with
       | own r e u =>
         show q∈(match v with | .sl _ _ _ _ _=>(match shortN r with | true=>r::nilN cs vs | false=>nilN cs vs) | _=>r::nilN cs vs)
         cases v with
         | sl _ _ _ _ _ =>
           show q∈(match shortN r with | true=>r::nilN cs vs | false=>nilN cs vs)
           cases shortN r with
           | true=>exact List.mem_cons_of_mem _ q1
           | false=>exact q1
         | _=>exact List.mem_cons_of_mem _ q1
       | _=>exact q1
      ·exact .inr h
   ·cases hp
 | [],_::_,p,hp,_=>by cases hp
 | _::_,[],p,hp,_=>by cases hp
theorem pkIP_same {d:SS σ} (hρ:∀r x,θ r=some x→ρ r=x):∀(i:IT) (p:PK σ (uI i).T),pkIP θ d i=some p→allT s p.cs →
 ∀x∈cO s (headHP ρ i p.f),x.1∈(diffI θ d i).map ρ∨rdc s (rdS d) x.1=some x.2
 | .tmp t agg cs,p,hp,hc,x,hx=>by
   simp only [pkIP] at hp
   simp only [diffI]
   cases hv:lookQ t d.tm with
   | none=>simp only [hv] at hp;cases hp
   | some v =>
     simp only [hv] at hp
     cases agg with
     | false=>exact (pkCsP_same hρ cs [v] p hp hc).2 x hx
     | true =>
       simp only at hp
       cases v with
       | agg vs=>exact (pkCsP_same hρ cs vs p hp hc).2 x hx
       | _=>cases hp
 | .mix r cs,p,hp,hc,x,hx=>by
   simp only [pkIP] at hp
   simp only [diffI]
   cases hr:θ r with
   | none=>simp only [hr] at hp;cases hp
   | some r1 =>
     simp only [hr] at hp
     cases hvs:rdS d r1 with
     | none=>simp only [hvs] at hp;cases hp
     | some o =>
       cases o with
       | mix vs =>
         simp only [hvs] at hp
         simp only [hvs]
         obtain ⟨a,b⟩:=pkCsP_same hρ cs vs p hp hc
         have hx:x∈(ρ r,AO.mix (cL s (valCsP ρ cs p.f)))::cO s (objCsP ρ cs p.f):=hx
         rcases List.mem_cons.1 hx with rfl | hx
         ·cases hs:sameCs cs vs with
          | true =>
            right
            show rdc s (rdS d) (ρ r)=_
            rw [hρ r r1 hr,a hs]
            simp only [rdc,hvs,Option.map_some,SO.c]
          | false=>left;exact List.mem_map.2 ⟨r,List.mem_cons_self,rfl⟩
         ·rcases b x hx with h | h
          ·left
           obtain ⟨q,q1,q2⟩:=List.mem_map.1 h
           refine List.mem_map.2 ⟨q,?_,q2⟩
           cases sameCs cs vs with
           | true=>exact q1
           | false=>exact List.mem_cons_of_mem _ q1
          ·exact .inr h
       | data e u f wr=>simp only [hvs] at hp;cases hp
       | arr u f=>simp only [hvs] at hp;cases hp
       | mp f=>simp only [hvs] at hp;cases hp
       | dead=>simp only [hvs] at hp;cases hp
 | .row r e u,p,hp,hc,x,hx=>by
   simp only [pkIP] at hp
   cases hr1:θ r with
   | none=>simp only [hr1] at hp;cases hp
   | some r1 =>
     simp only [hr1] at hp
     split at hp
     ·rename_i e' u' f hr
      split at hp
      ·rename_i hk _ hd
       subst hk
       have hd:=of_decide_eq_true hd
       subst hd
       cases hp
       have hx:x∈[(ρ r,AO.data e' (szU u') (encL u' (f s)) true)]:=hx
       rw [List.mem_singleton] at hx
       subst hx
       right
       rw [hρ r r1 hr1]
       simp only [rdc,hr,Option.map_some,SO.c]
      ·cases hp
     ·cases hp
 | .arr r u,p,hp,hc,x,hx=>by
   simp only [pkIP] at hp
   cases hr1:θ r with
   | none=>simp only [hr1] at hp;cases hp
   | some r1 =>
     simp only [hr1] at hp
     split at hp
     ·rename_i u' f hr
      split at hp
      ·rename_i hk _
       subst hk
       cases hp
       have hx:x∈[(ρ r,AO.mix ((encL u' (f s)).map .d))]:=hx
       rw [List.mem_singleton] at hx
       subst hx
       right
       rw [hρ r r1 hr1]
       simp only [rdc,hr,Option.map_some,SO.c]
      ·cases hp
     ·cases hp
 | .mp r,p,hp,hc,x,hx=>by
   simp only [pkIP] at hp
   cases hr1:θ r with
   | none=>simp only [hr1] at hp;cases hp
   | some r1 =>
     simp only [hr1] at hp
     split at hp
     ·rename_i f hr
      cases hp
      have hx:x∈[(ρ r,AO.mp (f s))]:=hx
      rw [List.mem_singleton] at hx
      subst hx
      right
      rw [hρ r r1 hr1]
      simp only [rdc,hr,Option.map_some,SO.c]
     ·cases hp
 | .drop t,p,hp,hc,x,hx=>by cases hp
 | .dead r,p,hp,hc,x,hx=>by cases hp
theorem pkIsP_same {d:SS σ} (hρ:∀r x,θ r=some x→ρ r=x):∀(l:List IT) (p:PK σ (uIs l).T),pkIsP θ d l=some p→allT s p.cs →
 ∀x∈cO s (headHsP ρ l p.f),x.1∈(diffN θ d l).map ρ∨rdc s (rdS d) x.1=some x.2
 | [],p,hp,hc,x,hx=>by cases hx
 | i::l,p,hp,hc,x,hx=>by
   rw [pkIsP] at hp
   split at hp
   ·rename_i x' y hx' hy
    cases hp
    rw [allT_append] at hc
    have e1:(fun s=>pfst (uI i) (uIs l) (pmk (uI i) (uIs l) (x'.f s) (y.f s)))=x'.f:=by funext s;exact pfst_mk _ _ _ _
    have e2:(fun s=>psnd (uI i) (uIs l) (pmk (uI i) (uIs l) (x'.f s) (y.f s)))=y.f:=by funext s;exact psnd_mk _ _ _ _
    rw [headHsP,cO_append] at hx
    simp only [e1,e2] at hx
    rw [diffN,List.map_append]
    rcases List.mem_append.1 hx with hx | hx
    ·rcases pkIP_same hρ i x' hx' hc.1 x hx with h | h
     ·exact .inl (List.mem_append_left _ h)
     ·exact .inr h
    ·rcases pkIsP_same hρ l y hy hc.2 x hx with h | h
     ·exact .inl (List.mem_append_right _ h)
     ·exact .inr h
   ·cases hp
end
section
variable {σ τ:Type} {s1:σ} {s2:τ} {ρ:Nat→Nat}
theorem valCP_at:∀(c:CS) (f:σ→(uC c).T) (g:τ→(uC c).T),f s1=g s2→(valCP ρ c f).c s1=(valCP ρ c g).c s2
 | .own r e u,f,g,h=>by rw [valCP,valCP,cOwn,cOwn,h]
 | .pt r off,f,g,h=>by rw [valCP,valCP,SV.c,SV.c]
 | .cl f caps,_,_,h=>by
   have e:∀l:List (Nat×Nat),cL s1 (capV ρ l)=cL s2 (capV ρ l):=fun l=>by
    induction l with
    | nil=>rfl
    | cons x l ih=>obtain ⟨r,off⟩:=x;rw [capV,capV,cL,cL,SV.c,SV.c,ih]
   rw [valCP,valCP,SV.c,SV.c,e]
 | .dat u,f,g,h=>by rw [valCP,valCP,valC_c,valC_c,h]
 | .nil,f,g,h=>by rw [valCP,valCP,valC_c,valC_c,h]
 | .np,f,g,h=>by rw [valCP,valCP,valC_c,valC_c,h]
theorem valCsP_at:∀(cs:List CS) (f:σ→(uCs cs).T) (g:τ→(uCs cs).T),f s1=g s2→cL s1 (valCsP ρ cs f)=cL s2 (valCsP ρ cs g)
 | [],f,g,h=>rfl
 | c::cs,f,g,h=>by
   rw [valCsP,valCsP,cL,cL]
   rw [valCP_at c (fun s=>pfst (uC c) (uCs cs) (f s)) (fun s=>pfst (uC c) (uCs cs) (g s)) (congrArg (pfst (uC c) (uCs cs)) h),valCsP_at cs (fun s=>psnd (uC c) (uCs cs) (f s)) (fun s=>psnd (uC c) (uCs cs) (g s)) (congrArg (psnd (uC c) (uCs cs)) h)]
theorem objCsP_at:∀(cs:List CS) (f:σ→(uCs cs).T) (g:τ→(uCs cs).T),f s1=g s2→cO s1 (objCsP ρ cs f)=cO s2 (objCsP ρ cs g)
 | [],f,g,h=>rfl
 | c::cs,f,g,h=>by
   rw [objCsP,objCsP,cO_append,cO_append,objCsP_at cs (fun s=>psnd (uC c) (uCs cs) (f s)) (fun s=>psnd (uC c) (uCs cs) (g s)) (congrArg (psnd (uC c) (uCs cs)) h)]
   congr 1
   cases c with
   | own r e u =>
     show [(ρ r,AO.data e (szU u) (encL u (pfst (.list u) (uCs cs) (f s1))) true)]=[(ρ r,AO.data e (szU u) (encL u (pfst (.list u) (uCs cs) (g s2))) true)]
     rw [h]
   | _=>rfl
theorem headHP_at:∀(i:IT) (f:σ→(uI i).T) (g:τ→(uI i).T),f s1=g s2→cO s1 (headHP ρ i f)=cO s2 (headHP ρ i g)
 | .tmp t a cs,f,g,h=>objCsP_at cs f g h
 | .mix r cs,f,g,h=>by
   show (ρ r,AO.mix (cL s1 (valCsP ρ cs f)))::cO s1 (objCsP ρ cs f)=(ρ r,AO.mix (cL s2 (valCsP ρ cs g)))::cO s2 (objCsP ρ cs g)
   rw [valCsP_at cs f g h,objCsP_at cs f g h]
 | .row r e u,f,g,h=>by
   show [(ρ r,AO.data e (szU u) (encL u (f s1)) true)]=[(ρ r,AO.data e (szU u) (encL u (g s2)) true)]
   rw [h]
 | .arr r u,f,g,h=>by
   show [(ρ r,AO.mix ((encL u (f s1)).map .d))]=[(ρ r,AO.mix ((encL u (g s2)).map .d))]
   rw [h]
 | .mp r,f,g,h=>by
   show [(ρ r,AO.mp (f s1))]=[(ρ r,AO.mp (g s2))]
   rw [h]
 | .drop t,f,g,h=>rfl
 | .dead r,f,g,h=>rfl
theorem headHsP_at:∀(l:List IT) (f:σ→(uIs l).T) (g:τ→(uIs l).T),f s1=g s2→cO s1 (headHsP ρ l f)=cO s2 (headHsP ρ l g)
 | [],f,g,h=>rfl
 | i::l,f,g,h=>by
   rw [headHsP,headHsP,cO_append,cO_append,headHP_at i (fun s=>pfst (uI i) (uIs l) (f s)) (fun s=>pfst (uI i) (uIs l) (g s)) (congrArg (pfst (uI i) (uIs l)) h),headHsP_at l (fun s=>psnd (uI i) (uIs l) (f s)) (fun s=>psnd (uI i) (uIs l) (g s)) (congrArg (psnd (uI i) (uIs l)) h)]
end
end Go.Proofs.Ytkpijdndakljjaa
namespace Go.Proofs.Ytkpijdndakljjaa
open Go.RowKit
section
variable {σ τ:Type}
def capsV:List (SV σ)→Option (List (Nat×Nat))
 | []=>some []
 | .ptr r off::l=>match capsV l with | some c=>some ((r,off)::c) | none=>none
 | _=>none
mutual
def viV (rd:Nat→Option (SO σ)):SV σ→VI
 | .val (.int k _) => .u (.int k)
 | .val (.bool _) => .u .bool
 | .val (.string _) => .u .str
 | .val (.slice none 0 0) => .nil
 | .val (.pointer none) => .np
 | .int k _ => .u (.int k)
 | .bool _ => .u .bool
 | .str _ => .u .str
 | .lst t _ => .u (.list t)
 | .ptr r off => .pt r off
 | .clo f cs=>match capsV cs with | some caps => .cl f caps | none => .junk
 | .sl r z none n .unk=>match rd r with
   | some (.data e u _ true) => .own r e u
   | some (.data _ u _ _) => .u (.list u)
   | _ => .junk
 | .sl r _ _ _ _=>match rd r with
   | some (.data _ u _ _) => .u (.list u)
   | _ => .junk
 | .agg cs => .agg (viL rd cs)
 | _ => .junk
def viL (rd:Nat→Option (SO σ)):List (SV σ)→List VI
 | []=>[]
 | x::l=>viV rd x::viL rd l
end
def oiO (rd:Nat→Option (SO σ)):SO σ→OI
 | .data e u _ wr => .row e u wr
 | .arr u _ => .arr u
 | .mp _ => .mp
 | .mix cs => .mix (viL rd cs)
 | .dead => .dead
def viT (rd:Nat→Option (SO σ)) (l:List (Nat×SV σ)):List (Nat×VI):=l.map fun x=>(x.1,viV rd x.2)
def viO (rd:Nat→Option (SO σ)) (l:List (Nat×SO σ)):List (Nat×OI):=l.map fun x=>(x.1,oiO rd x.2)
def noteS {β:Type} (p kind:Nat) (d:SS σ) (d':SS τ):TR β τ :=
 .note ⟨p,kind,viT (rdS d') (d'.tm.take (d'.tm.length-d.tm.length)),viO (rdS d') (d'.hp.take (d'.hp.length-d.hp.length)),viT (rdS d) d.tm,viO (rdS d) d.hp⟩
def cutI:List IT→Bool
 | []=>false
 | .drop t::l=>decide (t=88888888)||cutI l
 | _::l=>cutI l
def nilW (d:SS τ):List IT→Bool
 | []=>false
 | .tmp t _ _::l=>(match lookQ t d.tm with | some (.val (.pointer none))=>true | _=>false)||nilW d l
 | _::l=>nilW d l
def toHead {β:Type} (p kind:Nat) (d:SS σ) (its:List IT) (d':SS τ):TR ((uIs its).T ⊕ β) τ :=
 match packX d its d' with
 | some x=>reqT x.cs (.ret fun s => .inl (x.f s))
 | none=>match cutI its&&nilW d' its with
   | true => .fail "cut"
   | false=>noteS p kind d d'
def reachS (rd:Nat→Option (SO σ)):Nat→List Nat→List Nat→List Nat
 | 0,_,seen=>seen
 | _+1,[],seen=>seen
 | n+1,r::work,seen=>match memB r seen with
   | true=>reachS rd n work seen
   | false=>match rd r with
     | some o=>reachS rd n (refsSO o++work) (r::seen)
     | none=>reachS rd n work seen
def pickS' (rd:Nat→Option (SO σ)):List Nat→List (Nat×SO σ)
 | []=>[]
 | r::l=>match rd r with
   | some o=>(r,o)::pickS' rd l
   | none=>pickS' rd l
def inNames (os:List (Nat×SO σ)) (rs:List Nat):Bool:=rs.all fun r=>memB r (namesO os)
def closedS (os:List (Nat×SO σ)):Bool:=os.all fun x=>inNames os (refsSO x.2)
def resS1 (T:Ty) (d:SS σ):ResultVar→Option (SV σ)
 | .tmp t=>some (match lookQ t d.tm with | some x=>x | none => .junk)
 | .cell a t=>match T t,lookQ a d.tm with
   | some i,some (.ptr r off)=>match rdS d r with
     | some (.mix cs)=>partS i cs off
     | _=>none
   | _,_=>none
def resSL (T:Ty) (d:SS σ):List ResultVar→Option (List (SV σ))
 | []=>some []
 | r::l=>match resS1 T d r,resSL T d l with
   | some x,some xs=>some (x::xs)
   | _,_=>none
def oneOrTup (xs:List (SV σ)):SV σ:=match xs with | [x]=>x | xs => .tup xs
def argS:Nat→List (SV σ)→List (Nat×SV σ)
 | _,[]=>[]
 | i,x::xs=>(i,x)::argS (i+1) xs
end
inductive PL where
 | carry (its:List IT) | unroll | once | stop
structure CE where
 ai:List IT
 ri:List IT
 F:(uIs ai).T→Option (uIs ri).T
def datC:List CS→Bool
 | []=>true
 | .dat _::l=>datC l
 | _=>false
def allDat:List IT→Bool
 | []=>true
 | .tmp _ _ cs::l=>datC cs&&allDat l
 | _=>false
def flatC:List CS→Bool
 | []=>true
 | .dat (.int _)::l=>flatC l
 | .dat .bool::l=>flatC l
 | .dat .str::l=>flatC l
 | _=>false
def flatI:List IT→Bool
 | []=>true
 | .tmp _ true cs::l=>flatC cs&&flatI l
 | .tmp _ false cs::l=>(flatC cs&&decide (cs.length=1))&&flatI l
 | _=>false
section
variable {σ:Type}
def pkArgs (rd:Nat→Option (SO σ)):(ai:List IT)→List (SV σ)→Option (PK σ (uIs ai).T)
 | [],[]=>some ⟨fun _=>(),[],[]⟩
 | .tmp _ false cs::l,v::vs=>match pkCs rd cs [v],pkArgs rd l vs with
   | some x,some y=>some ⟨fun s=>pmk (uCs cs) (uIs l) (x.f s) (y.f s),x.cs++y.cs,x.fz++y.fz⟩
   | _,_=>none
 | .tmp _ true cs::l,v::vs=>match v with
   | .agg ws=>match pkCs rd cs ws,pkArgs rd l vs with
     | some x,some y=>some ⟨fun s=>pmk (uCs cs) (uIs l) (x.f s) (y.f s),x.cs++y.cs,x.fz++y.fz⟩
     | _,_=>none
   | _=>none
 | _,_=>none
def resIs (its:List IT) (f:σ→(uIs its).T):SV σ:=oneOrTup ((headTs its f).map (·.2))
def resAt (n:Nat) (d:SS σ):SV σ:=oneOrTup ((List.range n).map fun j=>match lookQ j d.tm with | some v=>v | none => .junk)
def scon {β:Type} (E:CE) (args:List (SV σ)) (d:SS σ) (F:Nat) (K:(τ:Type)→(τ→σ)→SV τ→List (Nat×SO τ)→List Nat→Nat→TR β τ):TR β σ :=
 match E with
 | ⟨ai,[.tmp _ false [.own _ e u]],G⟩=>match pkArgs (rdS d) ai args with
   | none => .fail "contract: arguments"
   | some pa=>match allDat ai&&noneAt (rdS d) F with
     | false => .fail "contract: shape"
     | true=>reqT pa.cs (.bnd (α:=List u.T) (fun s=>G (pa.f s)) (K (σ×List u.T) Prod.fst (.sl F (szU u) none (fun t=>t.2.length) .unk) ((F,.data e u (fun t=>t.2) true)::mapO Prod.fst pa.fz) (F::namesO pa.fz) (F+1)))
 | E=>match pkArgs (rdS d) E.ai args with
 | none => .fail "contract: arguments"
 | some pa=>match allDat E.ai&&allDat E.ri with
   | false => .fail "contract: shape"
   | true=>match flatI E.ri with
     | true=>reqT pa.cs (.bnd (fun s=>E.F (pa.f s)) (K (σ×(uIs E.ri).T) Prod.fst (resIs E.ri Prod.snd) [] (namesO pa.fz) F))
     | false=>reqT pa.cs (.bnd (fun s=>E.F (pa.f s)) (K (σ×(uIs E.ri).T) Prod.fst (resIs E.ri Prod.snd) (mapO Prod.fst pa.fz) (namesO pa.fz) F))
def ownI:List IT→Bool
 | [.tmp _ false [.own _ _ _]]=>true
 | _=>false
def datE (E:CE):Bool:=allDat E.ai&&(allDat E.ri||ownI E.ri)
def idxN (r:Nat):List Nat→Nat
 | []=>0
 | k::l=>match decide (k=r) with | true=>0 | false=>idxN r l+1
def someN (θ:Nat→Option Nat):List Nat→List Nat
 | []=>[]
 | r::l=>match θ r with | some x=>x::someN θ l | none=>someN θ l
def noneN (θ:Nat→Option Nat):List Nat→List Nat
 | []=>[]
 | r::l=>match θ r with | some _=>noneN θ l | none=>match memB r (noneN θ l) with | true=>noneN θ l | false=>r::noneN θ l
def backN (ρ:Nat→Nat):List Nat→List (Nat×Option Nat)
 | []=>[]
 | r::l=>(ρ r,some r)::backN ρ l
def isNat:Nat→List Nat→Bool
 | _,[]=>true
 | i,k::l=>decide (k=i)&&isNat (i+1) l
def newN (θ:Nat→Option Nat) (F:Nat) (fr:List Nat) (r:Nat):Nat:=match θ r with | some x=>x | none=>F+idxN r fr
def sokB (E:CE) (args:List (SV σ)) (d:SS σ) (os:List (Nat×SO σ)) (ρ:Nat→Nat) (θ':Nat→Option Nat) (θ:Nat→Option Nat):Bool :=
 ((liveI E.ai&&(isNat 0 (covT E.ai)&&decide ((covT E.ai).length=args.length)))&&(nodupB (namesH E.ri)&&nodupB (namesH E.ai))) &&
 (((namesH E.ri++namesH E.ai).all (fun r=>eqN (θ' (ρ r)) (some r))&&((itRefs E.ri).all (fun r=>memB r (namesH E.ri++namesH E.ai))&&(itRefs E.ai).all (fun r=>memB r (namesH E.ai)))) &&
  (((namesH E.ri++namesH E.ai).all (fun r=>noneAt (rdS d) (ρ r)||memB (ρ r) (namesO os))&&(namesO os).all (fun x=>memB x (someN θ (namesH E.ai)))) &&
   (closedS os&&inNames os (refsS args))))
def sconS3 {β:Type} (E:CE) (args:List (SV σ)) (d:SS σ) (F:Nat) (K:(τ:Type)→(τ→σ)→SV τ→List (Nat×SO τ)→List Nat→Nat→TR β τ) (θ:Nat→Option Nat) (fr:List Nat) (ρ:Nat→Nat) (os:List (Nat×SO σ)):TR β σ :=
 match pkIsP θ (⟨argS 0 args,os⟩:SS σ) E.ai with
 | none => .fail "contract: state"
 | some pa=>match pa.fz with
   | _::_ => .fail "contract: freezes"
   | []=>match sokB E args d os ρ (lookN (backN ρ (namesH E.ri++namesH E.ai))) θ with
     | false => .fail "contract: names"
     | true=>reqT pa.cs (.bnd (fun s=>E.F (pa.f s)) (K (σ×(uIs E.ri).T) Prod.fst (oneOrTup ((headTsP ρ E.ri Prod.snd).map (·.2))) (headHsP ρ E.ri Prod.snd++(headHsP ρ E.ai (fun t=>pa.f t.1)).filter fun y=>memB y.1 ((diffN θ (⟨argS 0 args,os⟩:SS σ) E.ai).map ρ))
        ((namesH E.ri++namesH E.ai).map ρ) (F+fr.length)))
def sconS2 {β:Type} (E:CE) (args:List (SV σ)) (d:SS σ) (F:Nat) (K:(τ:Type)→(τ→σ)→SV τ→List (Nat×SO τ)→List Nat→Nat→TR β τ) (th:List (Nat×Option Nat)) (fr:List Nat):TR β σ :=
 sconS3 E args d F K (lookN th) fr (newN (lookN th) F fr) (pickS' (rdS d) (someN (lookN th) (namesH E.ai)))
def sconS1 {β:Type} (E:CE) (args:List (SV σ)) (d:SS σ) (F:Nat) (K:(τ:Type)→(τ→σ)→SV τ→List (Nat×SO τ)→List Nat→Nat→TR β τ) (th:List (Nat×Option Nat)):TR β σ :=
 match noneN (lookN th) (namesH E.ri++namesH E.ai) with
 | fr=>sconS2 E args d F K th fr
def sconS {β:Type} (E:CE) (args:List (SV σ)) (d:SS σ) (F:Nat) (K:(τ:Type)→(τ→σ)→SV τ→List (Nat×SO τ)→List Nat→Nat→TR β τ):TR β σ :=
 match namesT (⟨argS 0 args,d.hp⟩:SS σ) E.ai [] with
 | th=>sconS1 E args d F K th
def trimS (os us:List (Nat×SO σ)) (n:List Nat):List (Nat×SO σ):=us.filter fun y => !memB y.1 (namesO os)||memB y.1 n
end
def guardsN (l:List Oper):Nat:=match (l.filterMap fun o=>o.guard).eraseDups with
 | []=>0
 | [_]=>1
 | _=>2
def waysN:Code→Nat
 | .region _ ops _=>match guardsN ops.toList with | 2=>2 | _=>1
 | .seq a b=>match waysN a with
   | 0=>0
   | 1=>waysN b
   | _=>match waysN b with | 0=>0 | _=>2
 | .cond _ a b=>match waysN a,waysN b with
   | 0,n=>n
   | n,0=>n
   | _,_=>2
 | .exit _=>0
 | .ret=>0
 | .block id a=>match waysN a,exitsN id a with
   | 0,n=>n
   | n,0=>n
   | _,_=>2
 | .loop _=>0
 | .scope a=>waysN a
 | _=>1
where exitsN (id:Nat):Code→Nat
 | .seq a b=>match exitsN id a,exitsN id b with
   | 0,n=>n
   | n,0=>n
   | _,_=>2
 | .cond _ a b=>match exitsN id a,exitsN id b with
   | 0,n=>n
   | n,0=>n
   | _,_=>2
 | .exit i=>match decide (i=id) with | true=>1 | false=>0
 | .block _ a=>exitsN id a
 | .loop a=>exitsN id a
 | .scope a=>exitsN id a
 | _=>0
def hasLoop:Code→Bool
 | .seq a b=>hasLoop a||hasLoop b
 | .cond _ a b=>hasLoop a||hasLoop b
 | .block _ a=>hasLoop a
 | .loop _=>true
 | .scope a=>hasLoop a
 | _=>false
def isCallO (o:Oper):Bool:=match o.op with
 | .call c=>(match c.callee with
   | .value _=>true
   | _=>false)
 | _=>false
def sizeN:Code→Nat
 | .seq a b=>sizeN a+sizeN b
 | .cond _ a b=>sizeN a+sizeN b+1
 | .block _ a=>sizeN a
 | .loop a=>sizeN a+10
 | .scope a=>sizeN a
 | .region _ ops _=>ops.size+12*(ops.toList.filter isCallO).length
 | _=>0
def wantJoin (a b:Code):Bool:=(hasLoop a&&decide (0<sizeN b))||(decide (2≤waysN a)&&decide (12≤sizeN b))
def retsN:Code→Nat
 | .seq a b=>retsN a+retsN b
 | .cond _ a b=>retsN a+retsN b
 | .block _ a=>retsN a
 | .loop a=>retsN a
 | .scope a=>retsN a
 | .ret=>1
 | _=>0
def wantCJ (c:Code):Bool:=decide (2≤retsN c+waysN c)||hasLoop c
inductive WD where
 | ask | go | join (its:List IT)
def callP (x:Option PL) (want:Bool):WD :=
 match x with
 | some (.carry its) => .join its
 | some .unroll => .go
 | some .once => .go
 | some .stop => .go
 | none=>match want with | true => .ask | false => .go
abbrev RecT:Type 1:=(β:Type)→Nat→Nat→Nat→Code→(σ:Type)→SS σ→Nat→((τ:Type)→(τ→σ)→Exit→SS τ→Nat→TR β τ)→TR β σ
section
variable (T:Ty) (q:Nat→Bool) (tab:Nat→Option Func) (con:Nat→Option CE) (plan:Nat→Option PL)
def mutA {σ:Type} (rd:Nat→Option (SO σ)):List (SV σ)→Bool
 | []=>false
 | .sl r _ _ _ _::l=>match rd r with
   | some (.data _ _ _ true)=>true
   | _=>mutA rd l
 | _::l=>mutA rd l
def conA (con:Nat→Option CE) (f:Nat) (b:Bool):Option CE:=match decide (f<1000000000) with
 | false=>none
 | true=>match b with
   | true=>match con (1000000000+f) with
     | some E=>some E
     | none=>con f
   | false=>con f
def scall (rec:RecT) (p:Nat) (β:Type):CallT β:=fun i σ f args d F K =>
 match conA con f (mutA (rdS d) args) with
 | some E=>match datE E with
   | true=>scon E args d F K
   | false=>sconS E args d F K
 | none=>match tab f with
   | none => .bad [f] "call of an unknown function"
   | some fn=>match fn.body with
     | none => .bad [f] "call without a body"
     | some c=>match pickS' (rdS d) (reachS (rdS d) 1000 (refsS args) []) with
       | os=>match decide (args.length≤fn.ntmps)&&(closedS os&&inNames os (refsS args)) with
         | false => .bad [f] "call: arguments"
         | true=>match callP (plan (p*512+16+i)) (wantCJ c) with
           | .ask=>noteS (p*512+16+i) (2+8*f) (⟨[],os⟩:SS σ) (⟨[],os⟩:SS σ)
           | .join its=>match closedS (headD (⟨[],os⟩:SS σ) its).hp&&((headD (⟨[],os⟩:SS σ) its).hp.all fun y=>noneAt (rdS d) y.1||memB y.1 (namesO os)) with
             | false=>noteS (p*512+16+i) (4+8*f) (⟨[],os⟩:SS σ) (⟨[],os⟩:SS σ)
             | true => .join (rec ((uIs its).T ⊕ β) f fn.ntmps (p*512+16+i) c σ ⟨argS 0 args,os⟩ F (fun τ g e d' F'=>match endB e with
                | false => .fail "call: exit"
                | true=>match resSL T d' fn.results.toList with
                  | none => .bad [f] "call: results"
                  | some xs=>toHead (p*512+16+i) (2+8*f) (⟨[],os⟩:SS σ) its (⟨argS 0 xs,d'.hp⟩:SS τ)))
               (K (σ×(uIs its).T) Prod.fst (resAt fn.results.size (headD (⟨[],os⟩:SS σ) its)) (headHs its Prod.snd) (namesO (headD (⟨[],os⟩:SS σ) its).hp) F)
           | .go=>rec β f fn.ntmps (p*512+16+i) c σ ⟨argS 0 args,os⟩ F (fun τ g e d' F'=>match endB e with
             | false => .fail "call: exit"
             | true=>match resSL T d' fn.results.toList with
               | none => .bad [f] "call: results"
               | some xs=>match pickS' (rdS d') (reachS (rdS d') 1000 (refsS xs++namesO os) []) with
                 | us=>match (closedS us&&inNames us (refsS xs))&&(inNames us (namesO os)&&us.all fun y=>noneAt (rdS d) y.1||memB y.1 (namesO os)) with
                   | false => .bad [f] "call: back"
                   | true=>K τ g (oneOrTup xs) (trimS (mapO g os) us (namesO (d'.hp.take (d'.hp.length-os.length)))) (namesO us) F')
variable (eg:Nat→Bool)
def sx:Nat→RecT
 | 0,_,_,_,_,_,_,_,_,_ => .fail "fuel"
 | n+1,β,f,N,p,c,σ,d,F,K=>match c with
   | .skip=>K σ (fun s=>s) .normal d F
   | .label _=>K σ (fun s=>s) .normal d F
   | .exit id=>K σ (fun s=>s) (.exit id) d F
   | .ret=>K σ (fun s=>s) .ret d F
   | .region _ ops draw=>match !draw||backB ops with
     | true=>sops eg (scall T tab con plan (fun β f N p c σ d F K=>sx n β f N p c σ d F K) p β) T q N F ops draw (if draw then ancT ops ops.size else []) (zipI 0 ops.toList) σ d [] (F+ops.size) (fun τ g d' F'=>K τ g .normal d' F')
     | false => .fail "region"
   | .seq a b=>match callP (plan (p*512+1)) (wantJoin a b) with
     | .ask=>noteS (p*512+1) (1+8*f) d d
     | .join its => .join (sx n ((uIs its).T ⊕ β) f N (p*512) a σ d F (fun τ g e d' F'=>match e with
        | .normal=>toHead (p*512+1) (1+8*f) d its d'
        | e => .out (K τ g e d' F')))
       (sx n β f N (p*512+1) b (σ×(uIs its).T) (headD d its) F (fun τ g e d' F'=>K τ (fun t=>(g t).1) e d' F'))
     | .go=>sx n β f N (p*512) a σ d F (fun τ g e d' F'=>match e with
        | .normal=>sx n β f N (p*512+1) b τ d' F' (fun τ' g' e d'' F''=>K τ' (fun t=>g (g' t)) e d'' F'')
        | e=>K τ g e d' F')
   | .cond x a b=>match evS d x with
     | .val (.bool t)=>match t with
       | true=>sx n β f N (p*512+2) a σ d F K
       | false=>sx n β f N (p*512+3) b σ d F K
     | .bool c=>match x with
       | .tmp t => .iff c (sx n β f N (p*512+2) a σ (refT d t true) F K) (sx n β f N (p*512+3) b σ (refT d t false) F K)
       | _ => .iff c (sx n β f N (p*512+2) a σ d F K) (sx n β f N (p*512+3) b σ d F K)
     | _ => .bad [p] "cond"
   | .block id a=>sx n β f N (p*512+4) a σ d F (fun τ g e d' F'=>match e with
     | .exit i=>match decide (i=id) with
       | true=>K τ g .normal d' F'
       | false=>K τ g (.exit i) d' F'
     | e=>K τ g e d' F')
   | .scope a=>sx n β f N (p*512+5) a σ d F (fun τ g e d' F'=>match e with
     | .goto _ => .fail "goto"
     | e=>K τ g e d' F')
   | .loop a=>match plan (p*512+6) with
     | some (.carry its)=>match packX d its d with
       | none=>noteS (p*512+6) (8*f) d d
       | some x=>reqT x.cs (.loop x.f (sx n ((uIs its).T ⊕ β) f N (p*512+6) a (σ×(uIs its).T) (headD d its) F (fun τ g e d' F'=>match e with
         | .normal=>toHead (p*512+6) (8*f) d its d'
         | e => .out (K τ (fun t=>(g t).1) e d' F'))))
     | some .unroll=>sx n β f N (p*512+6) a σ d F (fun τ g e d' F'=>match e with
        | .normal=>sx n β f N p (.loop a) τ d' F' (fun τ' g' e d'' F''=>K τ' (fun t=>g (g' t)) e d'' F'')
        | e=>K τ g e d' F')
     | some .once=>sx n β f N (p*512+6) a σ d F (fun τ g e d' F'=>match e with
        | .normal=>match plan ((p*512+7)*512+6) with
          | some (.carry _) => .fail "rounds"
          | _=>sx n β f N (p*512+7) (.loop a) τ d' F' (fun τ' g' e d'' F''=>K τ' (fun t=>g (g' t)) e d'' F'')
        | e=>K τ g e d' F')
     | some .stop => .fail "rounds"
     | none=>noteS (p*512+6) (8*f) d d
   | _ => .bad [p] "code"
def endS (fn:Func) (ri:List IT):(τ:Type)→Exit→SS τ→TR (uIs ri).T τ:=fun τ e d'=>match endB e with
 | false => .fail "exit"
 | true=>match resSL T d' fn.results.toList with
   | none => .fail "results"
   | some xs=>match pkArgs (rdS d') ri xs with
     | some p=>reqT p.cs (.ret p.f)
     | none => .note ⟨0,3,viT (rdS d') (argS 0 xs),[],[],[]⟩
def treeF (n f:Nat) (fn:Func) (ai ri:List IT):TR (uIs ri).T (uIs ai).T:=match fn.body with
 | some c=>sx T q tab con plan eg n (uIs ri).T f fn.ntmps 1 c (uIs ai).T ⟨headTs ai (fun s=>s),[]⟩ 0 (fun τ _ e d' _=>endS T fn ri τ e d')
 | none => .fail "no body"
def endO (fn:Func) (ai ri:List IT):(τ:Type)→Exit→SS τ→TR (uIs ri).T τ:=fun τ e d'=>match endB e with
 | false => .fail "exit"
 | true=>match resSL T d' fn.results.toList with
   | none => .fail "results"
   | some xs=>match packX (⟨[],headHs ai (fun s=>s)⟩:SS (uIs ai).T) ri (⟨argS 0 xs,d'.hp⟩:SS τ) with
     | some p=>reqT p.cs (.ret p.f)
     | none=>match nilW (⟨argS 0 xs,d'.hp⟩:SS τ) ri with
       | true => .fail "cut"
       | false=>noteS 0 2 (⟨[],headHs ai (fun s=>s)⟩:SS (uIs ai).T) (⟨argS 0 xs,d'.hp⟩:SS τ)
def treeS (n f:Nat) (fn:Func) (ai ri:List IT):TR (uIs ri).T (uIs ai).T:=match fn.body with
 | some c=>sx T q tab con plan eg n (uIs ri).T f fn.ntmps 1 c (uIs ai).T ⟨headTs ai (fun s=>s),headHs ai (fun s=>s)⟩ 0 (fun τ _ e d' _=>endO T fn ai ri τ e d')
 | none => .fail "no body"
end
end Go.Proofs.Ytkpijdndakljjaa
namespace Go.Proofs.Ytkpijdndakljjaa
open Go.RowKit
theorem updF_eq {hp:Nat→Option AO} {us us':List (Nat×AO)} (h:∀r,look r us'=look r us∨(look r us'=none∧∀o,look r us=some o→hp r=some o)):updF hp us=updF hp us':=by
 funext r
 unfold updF
 rcases h r with e | ⟨e1,e2⟩
 ·rw [e]
 ·rw [e1]
  cases hl:look r us with
  | none=>rfl
  | some o=>exact (e2 o hl).symm
theorem does_trim {P:Program} {GL:Nat→Option (List DV)} {f:FuncId} {args:List AV} {rds:List Nat} {v:AV} {us us':List (Nat×AO)} {hp:Nat→Option AO} (h:Does P GL f args rds v us hp)
 (hu:∀r,look r us'=look r us∨(look r us'=none∧∀o,look r us=some o→r∈rds∧hp r=some o)):Does P GL f args rds v us' hp:=fun E w vs hrd hw hs hrel=>by
 refine (h E w vs hrd hw hs hrel).mono ?_
 rintro e w' ⟨u,E',h1,h2,h3⟩
 refine ⟨u,E',h1,⟨h2.h,?_,h2.ext,h2.sim,h2.fr⟩,h3⟩
 rw [h2.hp]
 refine updF_eq fun r => ?_
 rcases hu r with e | ⟨e1,e2⟩
 ·exact .inl e
 ·exact .inr ⟨e1,fun o ho=>by rw [hrd r (e2 o ho).1];exact (e2 o ho).2⟩
def oneOrTupA (xs:List AV):AV:=match xs with | [x]=>x | xs => .tup xs
theorem oneOrTup_c {σ:Type} (s:σ) (xs:List (SV σ)):(oneOrTup xs).c s=oneOrTupA (cL s xs):=by
 cases xs with
 | nil=>show (SV.tup []).c s=_;rw [SV.c];rfl
 | cons x xs=>cases xs with
   | nil=>rfl
   | cons y ys=>show (SV.tup (x::y::ys)).c s=_;rw [SV.c];rfl
def ConD (P:Program) (f:Nat) (E:CE):Prop :=
 fnOk P f=true∧match E with
 | ⟨ai,[.tmp _ false [.own _ e u]],G⟩=>∀a (x:List u.T),G a=some x→DoesO P noG f ((aTs ai a).map (·.2)) [] (.sl 1 0 x.length none) [(1,.data e (szU u) (encL u x) true)]
 | E=>∀a r,E.F a=some r→DoesO P noG f ((aTs E.ai a).map (·.2)) [] (oneOrTupA ((aTs E.ri r).map (·.2))) []
def ConS (P:Program) (f:Nat) (E:CE):Prop:=fnOk P f=true∧∀a r,E.F a=some r→DoesO P noG f ((aTs E.ai a).map (·.2)) (aHs E.ai a) (oneOrTupA ((aTs E.ri r).map (·.2))) (aHs E.ri r++aHs E.ai a)
def ConOk (P:Program) (f:Nat) (E:CE):Prop:=match datE E with
 | true=>ConD P f E
 | false=>ConS P f E
theorem ConD.mk {P:Program} {f:Nat} {ai ri:List IT} {G:(uIs ai).T→Option (uIs ri).T} (h1:fnOk P f=true) (hd:allDat ri=true) (h:∀a r,G a=some r→DoesO P noG f ((aTs ai a).map (·.2)) [] (oneOrTupA ((aTs ri r).map (·.2))) []):ConD P f ⟨ai,ri,G⟩:=by
 refine ⟨h1,?_⟩
 split
 ·rename_i heq
  cases heq
  simp [allDat,datC] at hd
 ·exact h
theorem ConOk.mk {P:Program} {f:Nat} {ai ri:List IT} {G:(uIs ai).T→Option (uIs ri).T} (h1:fnOk P f=true) (ha:allDat ai=true) (hd:allDat ri=true) (h:∀a r,G a=some r→DoesO P noG f ((aTs ai a).map (·.2)) [] (oneOrTupA ((aTs ri r).map (·.2))) []):ConOk P f ⟨ai,ri,G⟩:=by
 have e:datE ⟨ai,ri,G⟩=true:=by unfold datE;simp only [ha,hd,Bool.true_or,Bool.and_self]
 unfold ConOk
 rw [e]
 exact ConD.mk h1 hd h
theorem FzOk.mono {hp:Nat→Option AO} {rds rds':List Nat} (hs:∀r∈rds,r∈rds'):∀ {F:List (Nat×AO)},FzOk rds hp F→FzOk rds' hp F
 | [],_=>trivial
 | (r,o)::l,h=>⟨hs r h.1,h.2.1,FzOk.mono hs h.2.2⟩
section
variable {σ:Type} {s:σ} {rd:Nat→Option (SO σ)}
theorem cL_snd (l:List (Nat×SV σ)):cL s (l.map (·.2))=(cT s l).map (·.2):=by
 induction l with
 | nil=>rfl
 | cons x l ih=>obtain ⟨t,v⟩:=x;rw [List.map_cons,cL,ih,cT,List.map_cons]
theorem resIs_c (its:List IT) (f:σ→(uIs its).T):(resIs its f).c s=oneOrTupA ((aTs its (f s)).map (·.2)):=by
 unfold resIs
 rw [oneOrTup_c,cL_snd,headTs_c]
def FzRd (rd:Nat→Option (SO σ)) (fz:List (Nat×SO σ)):Prop:=∀x∈fz,∃e u f wr,rd x.1=some (.data e u f wr)∧x.2 = .data e u f false
theorem FzRd.nil:FzRd rd []:=fun x hx=>by cases hx
theorem FzRd.append {a b:List (Nat×SO σ)} (h:FzRd rd a) (k:FzRd rd b):FzRd rd (a++b):=fun x hx=>by
 rcases List.mem_append.1 hx with e | e
 ·exact h x e
 ·exact k x e
theorem pkL_fz {t:U} {v:SV σ} {p:PK σ (List t.T)} (hp:pkL rd t v=some p):FzRd rd p.fz:=by
 unfold pkL at hp
 split at hp
 ·split at hp
  ·cases hp;exact FzRd.nil
  ·cases hp
 ·cases hp;exact FzRd.nil
 ·rename_i r z o n cap
  split at hp
  ·rename_i e u f wr hr
   split at hp
   ·cases hp
    intro x hx
    rw [List.mem_singleton] at hx
    subst hx
    exact ⟨e,u,f,wr,hr,rfl⟩
   ·cases hp
  ·cases hp
 ·cases hp
theorem pkL_td {t:U} {v:SV σ} {p:PK σ (List t.T)} (hp:pkL rd t v=some p) (hc:allT s p.cs) {F:Nat→Option AO} (hF:∀r e u f wr,rd r=some (.data e u f wr)→r∈p.fz.map (·.1)→F r=some (.data e (szU u) (encL u (f s)) false)) :
 TdV F (.d (.dl (encL t (p.f s)) (p.f s).length none)) (v.c s):=by
 unfold pkL at hp
 split at hp
 ·split at hp
  ·rename_i hk _
   subst hk
   cases hp
   rw [SV.c,TdV]
   exact .inl rfl
  ·cases hp
 ·cases hp
  rw [SV.c,TdV]
  exact .inr rfl
 ·rename_i r z o n cap
  split at hp
  ·rename_i e u f wr hr
   split at hp
   ·rename_i hk _ hz
    subst hk
    cases hp
    have hz:=of_decide_eq_true hz
    have h1:=rowC_eq hc.1
    rw [SV.c,TdV]
    unfold TdD
    simp only [hF r e u f wr hr (by simp)]
    refine .inl ?_
    show DV.dl (encL u (rowP o n f s)) (rowP o n f s).length none=_
    rw [rowP_eq,hz,encL_drop,encL_take,List.length_take,List.length_drop,Nat.min_eq_left (by omega)]
   ·cases hp
  ·cases hp
 ·cases hp
theorem td_dd {F:Nat→Option AO} {x:DV} {y:AV} (h:y = .d x):TdV F (.d x) y:=by subst h;rw [TdV];exact .inl rfl
theorem pkC_td:∀(c:CS) (v:SV σ) (p:PK σ (uC c).T),datC [c]=true→pkC rd c v=some p→allT s p.cs →
 FzRd rd p.fz∧∀F:Nat→Option AO,(∀r e u f wr,rd r=some (.data e u f wr)→r∈p.fz.map (·.1)→F r=some (.data e (szU u) (encL u (f s)) false))→TdV F (aC c (p.f s)) (v.c s)
 | .dat u,v,p,hd,hp,hc=>by
   simp only [pkC] at hp
   split at hp
   ·rename_i hs
    cases u with
    | int k =>
      simp only [pkU] at hp
      split at hp
      ·rename_i k' f hf
       split at hp
       ·rename_i hk _;obtain ⟨hk⟩:=hk;subst hk;cases hp;exact ⟨FzRd.nil,fun F _=>td_dd (asI_c hf s)⟩
       ·cases hp
      ·cases hp
    | bool =>
      simp only [pkU] at hp
      split at hp
      ·rename_i f hf;cases hp;exact ⟨FzRd.nil,fun F _=>td_dd (asB_c hf s)⟩
      ·cases hp
    | str =>
      simp only [pkU] at hp
      split at hp
      ·rename_i f hf;cases hp;exact ⟨FzRd.nil,fun F _=>td_dd (asS_c hf s)⟩
      ·cases hp
    | list t =>
      simp only [pkU] at hp
      exact ⟨pkL_fz hp,fun F hF=>pkL_td hp hc hF⟩
    | pair a b=>cases hs
    | unit=>cases hs
   ·cases hp
 | .own r e u,v,p,hd,hp,hc=>by cases hd
 | .nil,v,p,hd,hp,hc=>by cases hd
 | .np,v,p,hd,hp,hc=>by cases hd
 | .pt r off,v,p,hd,hp,hc=>by cases hd
 | .cl f caps,v,p,hd,hp,hc=>by cases hd
theorem pkCs_td:∀(cs:List CS) (vs:List (SV σ)) (p:PK σ (uCs cs).T),datC cs=true→pkCs rd cs vs=some p→allT s p.cs →
 FzRd rd p.fz∧∀F:Nat→Option AO,(∀r e u f wr,rd r=some (.data e u f wr)→r∈p.fz.map (·.1)→F r=some (.data e (szU u) (encL u (f s)) false))→TdL F (aCs cs (p.f s)) (cL s vs)
 | [],[],p,hd,hp,hc=>by
   simp only [pkCs] at hp
   cases hp
   refine ⟨FzRd.nil,fun F _ => ?_⟩
   rw [cL,show aCs [] ()=[] from rfl,TdL]
 | c::cs,v::vs,p,hd,hp,hc=>by
   rw [pkCs] at hp
   split at hp
   ·rename_i x y hx hy
    cases hp
    rw [allT_append] at hc
    have e1:pfst (uC c) (uCs cs) (pmk (uC c) (uCs cs) (x.f s) (y.f s))=x.f s:=pfst_mk _ _ _ _
    have e2:psnd (uC c) (uCs cs) (pmk (uC c) (uCs cs) (x.f s) (y.f s))=y.f s:=psnd_mk _ _ _ _
    have hd1:datC [c]=true:=by cases c<;>first | rfl | cases hd
    have hd2:datC cs=true:=by cases c<;>first | exact hd | cases hd
    obtain ⟨a1,a2⟩:=pkC_td c v x hd1 hx hc.1
    obtain ⟨b1,b2⟩:=pkCs_td cs vs y hd2 hy hc.2
    refine ⟨a1.append b1,fun F hF => ?_⟩
    rw [cL]
    simp only [aCs,e1,e2]
    rw [TdL]
    exact ⟨_,_,rfl,a2 F fun r e u f wr hr hm=>hF r e u f wr hr (by rw [List.map_append];exact List.mem_append_left _ hm),b2 F fun r e u f wr hr hm=>hF r e u f wr hr (by rw [List.map_append];exact List.mem_append_right _ hm)⟩
   ·cases hp
 | [],_::_,p,_,hp,_=>by cases hp
 | _::_,[],p,_,hp,_=>by cases hp
theorem pkArgs_td:∀(ai:List IT) (vs:List (SV σ)) (p:PK σ (uIs ai).T),allDat ai=true→pkArgs rd ai vs=some p→allT s p.cs →
 FzRd rd p.fz∧∀F:Nat→Option AO,(∀r e u f wr,rd r=some (.data e u f wr)→r∈p.fz.map (·.1)→F r=some (.data e (szU u) (encL u (f s)) false))→TdL F ((aTs ai (p.f s)).map (·.2)) (cL s vs)
 | [],[],p,hd,hp,hc=>by
   simp only [pkArgs] at hp
   cases hp
   refine ⟨FzRd.nil,fun F _ => ?_⟩
   rw [cL]
   show TdL F [] []
   rw [TdL]
 | .tmp t false cs::l,v::vs,p,hd,hp,hc=>by
   rw [pkArgs] at hp
   rw [allDat,Bool.and_eq_true] at hd
   split at hp
   ·rename_i x y hx hy
    cases hp
    rw [allT_append] at hc
    have e1:pfst (uI (.tmp t false cs)) (uIs l) (pmk (uCs cs) (uIs l) (x.f s) (y.f s))=x.f s:=pfst_mk _ _ _ _
    have e2:psnd (uI (.tmp t false cs)) (uIs l) (pmk (uCs cs) (uIs l) (x.f s) (y.f s))=y.f s:=psnd_mk _ _ _ _
    obtain ⟨a1,a2⟩:=pkCs_td cs [v] x hd.1 hx hc.1
    obtain ⟨b1,b2⟩:=pkArgs_td l vs y hd.2 hy hc.2
    refine ⟨a1.append b1,fun F hF => ?_⟩
    have hA:=a2 F fun r e u f wr hr hm=>hF r e u f wr hr (by rw [List.map_append];exact List.mem_append_left _ hm)
    have hB:=b2 F fun r e u f wr hr hm=>hF r e u f wr hr (by rw [List.map_append];exact List.mem_append_right _ hm)
    rw [cL,cL] at hA
    rw [cL]
    simp only [aTs,e1,e2,List.map_append]
    show TdL F (one1A (aCs cs (x.f s))::(aTs l (y.f s)).map (·.2)) _
    rw [TdL]
    refine ⟨_,_,rfl,?_,hB⟩
    generalize aCs cs (x.f s)=ys at hA ⊢
    cases ys with
    | nil=>rw [TdL] at hA;cases hA
    | cons y ys =>
      rw [TdL] at hA
      obtain ⟨x,xs,h1,h2,h3⟩:=hA
      cases h1
      cases ys with
      | nil=>exact h2
      | cons z zs=>rw [TdL] at h3;obtain ⟨_,_,h4,_⟩:=h3;cases h4
   ·cases hp
 | .tmp t true cs::l,v::vs,p,hd,hp,hc=>by
   rw [allDat,Bool.and_eq_true] at hd
   cases v with
   | agg ws =>
     simp only [pkArgs] at hp
     split at hp
     ·rename_i x y hx hy
      cases hp
      rw [allT_append] at hc
      have e1:pfst (uI (.tmp t true cs)) (uIs l) (pmk (uCs cs) (uIs l) (x.f s) (y.f s))=x.f s:=pfst_mk _ _ _ _
      have e2:psnd (uI (.tmp t true cs)) (uIs l) (pmk (uCs cs) (uIs l) (x.f s) (y.f s))=y.f s:=psnd_mk _ _ _ _
      obtain ⟨a1,a2⟩:=pkCs_td cs ws x hd.1 hx hc.1
      obtain ⟨b1,b2⟩:=pkArgs_td l vs y hd.2 hy hc.2
      refine ⟨a1.append b1,fun F hF => ?_⟩
      have hA:=a2 F fun r e u f wr hr hm=>hF r e u f wr hr (by rw [List.map_append];exact List.mem_append_left _ hm)
      have hB:=b2 F fun r e u f wr hr hm=>hF r e u f wr hr (by rw [List.map_append];exact List.mem_append_right _ hm)
      rw [cL]
      simp only [aTs,e1,e2,List.map_append]
      show TdL F (.agg (aCs cs (x.f s))::(aTs l (y.f s)).map (·.2)) _
      rw [TdL]
      refine ⟨_,_,rfl,?_,hB⟩
      rw [SV.c,TdV]
      exact ⟨_,rfl,hA⟩
     ·cases hp
   | _=>simp only [pkArgs] at hp;cases hp
 | [],_::_,p,_,hp,_=>by cases hp
 | .tmp _ true _::_,[],p,_,hp,_=>by cases hp
 | .tmp _ false _::_,[],p,_,hp,_=>by cases hp
 | .mix _ _::_,_,p,hd,_,_=>by cases hd
 | .row _ _ _::_,_,p,hd,_,_=>by cases hd
 | .arr _ _::_,_,p,hd,_,_=>by cases hd
 | .mp _::_,_,p,hd,_,_=>by cases hd
 | .drop _::_,_,p,hd,_,_=>by cases hd
 | .dead _::_,_,p,hd,_,_=>by cases hd
theorem fz_ok {N:Nat} {d:SS σ} {fz:List (Nat×SO σ)} (h:FzRd (rdS d) fz):∀(l:List (Nat×SO σ)),(∀x∈l,x∈fz)→FzOk (namesO fz) (d.c s N).rd (cO s l)
 | [],_=>trivial
 | (r,o)::l,hl=>by
   obtain ⟨e,u,f,wr,h1,h2⟩:=h (r,o) (hl _ List.mem_cons_self)
   rw [cO,FzOk]
   refine ⟨?_,⟨e,szU u,encL u (f s),wr,?_,?_⟩,fz_ok h l fun x hx=>hl x (List.mem_cons_of_mem _ hx)⟩
   ·have:∀l:List (Nat×SO σ),(r,o)∈l→r∈namesO l:=by
     intro l
     induction l with
     | nil=>intro h;cases h
     | cons x l ih =>
       intro h
       obtain ⟨k,y⟩:=x
       rw [namesO]
       rcases List.mem_cons.1 h with e | e
       ·cases e;exact List.mem_cons_self
       ·exact List.mem_cons_of_mem _ (ih e)
    exact this fz (hl _ List.mem_cons_self)
   ·rw [←rdS_c];simp only [rdc];simp only at h1;rw [h1];rfl
   ·simp only at h2;rw [h2];rfl
theorem fz_look {fz:List (Nat×SO σ)} (h:FzRd rd fz) {r e:Nat} {u:U} {f:σ→List u.T} {wr:Bool} (hr:rd r=some (.data e u f wr)) (hm:r∈fz.map (·.1)):lookF (cO s fz) r=some (.data e (szU u) (encL u (f s)) false):=by
 unfold lookF
 rw [look_cO]
 induction fz with
 | nil=>cases hm
 | cons x fz ih =>
   obtain ⟨k,o⟩:=x
   rw [look]
   by_cases hk:k=r
   ·subst hk
    rw [if_pos rfl]
    obtain ⟨e',u',f',wr',h1,h2⟩:=h (k,o) List.mem_cons_self
    rw [hr] at h1
    cases h1
    simp only at h2
    rw [h2]
    rfl
   ·rw [if_neg hk]
    rw [List.map_cons] at hm
    rcases List.mem_cons.1 hm with e1 | e1
    ·exact (hk e1.symm).elim
    ·exact ih (fun x hx=>h x (List.mem_cons_of_mem _ hx)) e1
theorem datC_refs:∀(cs:List CS) (x:(uCs cs).T),datC cs=true→AV.refs.refsL (aCs cs x)=[]
 | [],x,_=>rfl
 | .dat u::cs,x,h=>by
   rw [aCs,AV.refs.refsL,datC_refs cs _ h,List.append_nil]
   cases u<;>simp [aC,aInt,aBool,AV.refs]
theorem one1A_refs {l:List AV} (h:AV.refs.refsL l=[]):(one1A l).refs=[]:=by
 cases l with
 | nil=>simp [one1A,AV.refs]
 | cons x l =>
   rw [AV.refs.refsL,List.append_eq_nil_iff] at h
   cases l with
   | nil=>exact h.1
   | cons y l=>simp [one1A,AV.refs]
theorem allDat_refs:∀(ai:List IT) (x:(uIs ai).T),allDat ai=true→AV.refs.refsL ((aTs ai x).map (·.2))=[]
 | [],x,_=>rfl
 | .tmp t true cs::l,x,h=>by
   rw [allDat,Bool.and_eq_true] at h
   show AV.refs.refsL (.agg (aCs cs _)::(aTs l _).map (·.2))=[]
   rw [AV.refs.refsL,allDat_refs l _ h.2,List.append_nil,AV.refs]
   exact datC_refs cs _ h.1
 | .tmp t false cs::l,x,h=>by
   rw [allDat,Bool.and_eq_true] at h
   show AV.refs.refsL (one1A (aCs cs _)::(aTs l _).map (·.2))=[]
   rw [AV.refs.refsL,allDat_refs l _ h.2,List.append_nil]
   exact one1A_refs (datC_refs cs _ h.1)
theorem flatC_flat:∀(cs:List CS) (x:(uCs cs).T),flatC cs=true→flatL (aCs cs x)=true
 | [],x,_=>rfl
 | .dat (.int k)::cs,x,h=>by rw [aCs,flatL,flatC_flat cs _ h];rfl
 | .dat .bool::cs,x,h=>by rw [aCs,flatL,flatC_flat cs _ h];rfl
 | .dat .str::cs,x,h=>by rw [aCs,flatL,flatC_flat cs _ h];rfl
theorem one1A_flat {l:List AV} (h:flatL l=true) (hn:l.length=1):(one1A l).flat=true:=by
 cases l with
 | nil=>cases hn
 | cons x l =>
   rw [flatL,Bool.and_eq_true] at h
   cases l with
   | nil=>exact h.1
   | cons y l=>simp at hn
theorem aCs_len:∀(cs:List CS) (x:(uCs cs).T),(aCs cs x).length=cs.length
 | [],_=>rfl
 | c::cs,x=>by rw [aCs,List.length_cons,List.length_cons,aCs_len cs]
theorem flatI_flat:∀(ri:List IT) (x:(uIs ri).T),flatI ri=true→flatL ((aTs ri x).map (·.2))=true
 | [],x,_=>rfl
 | .tmp t true cs::l,x,h=>by
   rw [flatI] at h
   simp only [Bool.and_eq_true] at h
   show flatL (.agg (aCs cs _)::(aTs l _).map (·.2))=true
   rw [flatL,flatI_flat l _ h.2,Bool.and_true,AV.flat]
   exact flatC_flat cs _ h.1
 | .tmp t false cs::l,x,h=>by
   rw [flatI] at h
   simp only [Bool.and_eq_true,decide_eq_true_eq] at h
   show flatL (one1A (aCs cs _)::(aTs l _).map (·.2))=true
   rw [flatL,flatI_flat l _ h.2,Bool.and_true]
   exact one1A_flat (flatC_flat cs _ h.1.1) ((aCs_len cs _).trans h.1.2)
theorem tup_flat {l:List AV} (h:flatL l=true):(oneOrTupA l).flat=true:=by
 cases l with
 | nil=>exact h
 | cons x l=>cases l with
   | nil=>rw [flatL,Bool.and_eq_true] at h;exact h.1
   | cons y l=>exact h
end
theorem run_bnd {β σ α:Type} {f:σ→Option α} {r:TR β (σ×α)} {s:σ} {b:β} (h:(TR.bnd f r).run s=some b):∃a,f s=some a∧r.run (s,a)=some b:=by
 rw [TR.run] at h
 cases hf:f s with
 | none=>rw [hf] at h;cases h
 | some a=>rw [hf] at h;exact ⟨a,rfl,h⟩
theorem scon_ok {P:Program} {σ:Type} {β:Type} {N f:Nat} {E:CE} (hE:ConD P f E) {args:List (SV σ)} {d:SS σ} {F:Nat} {K:(τ:Type)→(τ→σ)→SV τ→List (Nat×SO τ)→List Nat→Nat→TR β τ} {s:σ} {b:β} (h:(scon E args d F K).run s=some b) :
 ∃(τ:Type) (g:τ→σ) (s':τ) (v:SV τ) (us:List (Nat×SO τ)) (rds:List Nat) (F':Nat),g s'=s∧fnOk P f=true∧Does P noG f (cL s args) rds (v.c s') (cO s' us) (d.c s N).rd∧(K τ g v us rds F').run s'=some b:=by
 unfold scon at h
 split at h
 ·rename_i ai _ _ e u G
  split at h
  ·rw [TR.run] at h;cases h
  ·rename_i pa hpa
   split at h
   ·rw [TR.run] at h;cases h
   ·rename_i hd
    rw [Bool.and_eq_true] at hd
    obtain ⟨hd,hn⟩:=hd
    obtain ⟨h1,h2⟩:=run_req h
    obtain ⟨x,hf,h2⟩:=run_bnd (α:=List u.T) h2
    obtain ⟨a1,a2⟩:=pkArgs_td (s:=s) ai args pa hd hpa h1
    have hF:(d.c s N).rd F=none:=by rw [←rdS_c s N d];exact Option.not_isSome_iff_eq_none.1 (noneAt_c s hn)
    have hFz:look F (cO s pa.fz)=none:=by
     cases hl:look F (cO s pa.fz) with
     | none=>rfl
     | some o =>
       obtain ⟨k1,e1,s1,c1,w1,g1,g2⟩:=fz_mem (fz_ok (N:=N) (s:=s) a1 pa.fz fun x hx=>hx) _ _ (look_mem hl)
       rw [hF] at g1;cases g1
    refine ⟨_,Prod.fst,(s,x),_,_,_,F+1,rfl,hE.1,?_,h2⟩
    have e1:cO (s,x) (((F,.data e u (fun t=>t.2) true)::mapO Prod.fst pa.fz:List (Nat×SO (σ×List u.T))))=[(F,.data e (szU u) (encL u x) true)]++cO s pa.fz:=by
     rw [cO,mapOs_c,SO.c];rfl
    have e2:(SV.sl F (szU u) none (fun t=>t.2.length) .unk:SV (σ×List u.T)).c (s,x) = .sl F 0 x.length none:=by
     rw [SV.c];simp [oOf,cpOf]
    rw [e1,e2]
    refine does_freeze (args':=(aTs ai (pa.f s)).map (·.2)) (F:=cO s pa.fz) ?_ (FzOk.mono (fun r hr=>List.mem_cons_of_mem _ hr) (fz_ok a1 pa.fz fun x hx=>hx)) (a2 _ fun r e u f wr hr hm=>fz_look a1 hr hm)
    exact does_rds (does_own1 (r:=F) (hE.2 _ _ hf) (allDat_refs _ _ hd) (by unfold updF;rw [hFz];exact hF)) (by simp)
 ·rename_i hno
  have hE2:∀a r,E.F a=some r→DoesO P noG f ((aTs E.ai a).map (·.2)) [] (oneOrTupA ((aTs E.ri r).map (·.2))) []:=by
   have:=hE.2
   split at this
   ·exact (hno _ _ _ _ _ _ rfl).elim
   ·exact this
  split at h
  ·rw [TR.run] at h;cases h
  ·rename_i pa hpa
   split at h
   ·rw [TR.run] at h;cases h
   ·rename_i hd
    rw [Bool.and_eq_true] at hd
    have key:∀ {t:TR β (σ×(uIs E.ri).T)},(reqT pa.cs (.bnd (fun s=>E.F (pa.f s)) t)).run s=some b→allT s pa.cs∧∃r,E.F (pa.f s)=some r∧t.run (s,r)=some b:=fun {t} ht=>by
     obtain ⟨h1,h2⟩:=run_req ht
     rw [TR.run] at h2
     cases hf:E.F (pa.f s) with
     | none=>rw [hf] at h2;cases h2
     | some r=>rw [hf] at h2;exact ⟨h1,r,rfl,h2⟩
    split at h
    ·rename_i hfl
     obtain ⟨h1,r,h2,h3⟩:=key h
     obtain ⟨a1,a2⟩:=pkArgs_td (s:=s) E.ai args pa hd.1 hpa h1
     refine ⟨_,Prod.fst,(s,r),_,_,_,F,rfl,hE.1,?_,h3⟩
     rw [resIs_c]
     exact does_lend (F:=cO s pa.fz) (hE2 _ _ h2) (tup_flat (flatI_flat _ _ hfl)) (fz_ok a1 pa.fz fun x hx=>hx) (a2 _ fun r e u f wr hr hm=>fz_look a1 hr hm) (allDat_refs _ _ hd.1)
    ·obtain ⟨h1,r,h2,h3⟩:=key h
     obtain ⟨a1,a2⟩:=pkArgs_td (s:=s) E.ai args pa hd.1 hpa h1
     refine ⟨_,Prod.fst,(s,r),_,_,_,F,rfl,hE.1,?_,h3⟩
     rw [resIs_c,mapOs_c]
     refine does_freeze (us:=[]) (F:=cO s pa.fz) ?_ (fz_ok a1 pa.fz fun x hx=>hx) (a2 _ fun r e u f wr hr hm=>fz_look a1 hr hm)
     refine does_of_O (hE2 _ _ h2) (fun p hp=>(by cases hp)) rfl ?_ (fun p hp=>(by cases hp)) rfl
     rw [allDat_refs _ _ hd.1]
     rfl
end Go.Proofs.Ytkpijdndakljjaa
namespace Go.Proofs.Ytkpijdndakljjaa
open Go.RowKit
section
variable {σ τ:Type}
theorem namesO_mem {l:List (Nat×SO σ)} {r:Nat}:r∈namesO l↔∃o,(r,o)∈l:=by
 induction l with
 | nil=>simp [namesO]
 | cons x l ih =>
   obtain ⟨k,o⟩:=x
   rw [namesO,List.mem_cons,ih]
   constructor
   ·rintro (rfl | ⟨o',h⟩)
    ·exact ⟨o,List.mem_cons_self⟩
    ·exact ⟨o',List.mem_cons_of_mem _ h⟩
   ·rintro ⟨o',h⟩
    rcases List.mem_cons.1 h with e | e
    ·cases e;exact .inl rfl
    ·exact .inr ⟨o',e⟩
theorem look_names {l:List (Nat×SO σ)} {s:σ} {r:Nat} (h:r∈namesO l):(look r (cO s l)).isSome=true:=by
 rw [look_cO]
 obtain ⟨o,ho⟩:=namesO_mem.1 h
 obtain ⟨w,hw⟩:=look_isSome_of_mem ho
 rw [hw];rfl
theorem inNames_c {os:List (Nat×SO σ)} {rs:List Nat} {s:σ} (h:inNames os rs=true):refsB (cO s os) rs=true:=by
 unfold refsB
 refine List.all_eq_true.2 fun r hr => ?_
 exact look_names (memB_iff.1 (List.all_eq_true.1 h r hr))
theorem mem_cO {l:List (Nat×SO σ)} {s:σ} {x:Nat×AO} (h:x∈cO s l):∃o,(x.1,o)∈l∧x.2=o.c s:=by
 induction l with
 | nil=>cases h
 | cons y l ih =>
   obtain ⟨k,o⟩:=y
   rw [cO] at h
   rcases List.mem_cons.1 h with e | e
   ·subst e;exact ⟨o,List.mem_cons_self,rfl⟩
   ·obtain ⟨o',h1,h2⟩:=ih e
    exact ⟨o',List.mem_cons_of_mem _ h1,h2⟩
theorem closedS_c {os:List (Nat×SO σ)} {s:σ} (h:closedS os=true):((cO s os).all fun p=>refsB (cO s os) (oRefs p.2))=true:=by
 refine List.all_eq_true.2 fun x hx => ?_
 obtain ⟨o,h1,h2⟩:=mem_cO hx
 rw [h2,oRefs_c]
 exact inNames_c (List.all_eq_true.1 h _ h1)
theorem pickS'_mem {rd:Nat→Option (SO σ)}:∀ {l:List Nat} {x:Nat×SO σ},x∈pickS' rd l→rd x.1=some x.2
 | [],x,h=>by cases h
 | r::l,x,h=>by
   rw [pickS'] at h
   split at h
   ·rename_i o ho
    rcases List.mem_cons.1 h with e | e
    ·subst e;exact ho
    ·exact pickS'_mem e
   ·exact pickS'_mem h
theorem argS_c (s:σ):∀(i:Nat) (l:List (SV σ)),cT s (argS i l)=argTm i (cL s l)
 | i,[]=>rfl
 | i,x::l=>by rw [argS,cT,argS_c s (i+1) l,cL];rfl
theorem resS1_c {T:Ty} {d:SS σ} {s:σ} {N:Nat} {r:ResultVar} {v:SV σ} (h:resS1 T d r=some v):resOne T (d.c s N) r=some (v.c s):=by
 have hget:∀t,(d.c s N).get t=(match lookQ t d.tm with | some x=>x | none => .junk:SV σ).c s:=fun t=>by
  unfold SL.get SS.c
  simp only [look_cT]
  rw [lookQ_eq]
  cases look t d.tm with
  | none=>simp only [Option.map_none];rw [SV.c]
  | some x=>rfl
 cases r with
 | tmp t =>
   simp only [resS1,Option.some.injEq] at h
   subst h
   exact congrArg some (hget t)
 | cell a t =>
   simp only [resS1] at h
   split at h
   ·rename_i i r off hT hl
    split at h
    ·rename_i cs hr
     show loadA T (d.c s N).rd t ((d.c s N).get a)=_
     rw [hget,hl,←rdS_c]
     unfold loadA
     simp only [hT,SV.c,rdc,hr,Option.map_some,SO.c]
     exact partS_c s h
    ·cases h
   ·cases h
theorem resSL_c {T:Ty} {d:SS σ} {s:σ} {N:Nat}:∀(l:List ResultVar) (xs:List (SV σ)),resSL T d l=some xs→resAll T (d.c s N) l=some (cL s xs)∧xs.length=l.length
 | [],xs,h=>by cases h;exact ⟨rfl,rfl⟩
 | r::l,xs,h=>by
   rw [resSL] at h
   split at h
   ·rename_i x ys hx hy
    cases h
    obtain ⟨a,b⟩:=resSL_c l ys hy
    rw [resAll,resS1_c hx,a]
    exact ⟨rfl,by rw [List.length_cons,List.length_cons,b]⟩
   ·cases h
theorem resA_c {T:Ty} {d:SS σ} {s:σ} {N:Nat} {fn:Func} {xs:List (SV σ)} (h:resSL T d fn.results.toList=some xs):resA T fn (d.c s N)=some ((oneOrTup xs).c s):=by
 unfold resA
 rw [(resSL_c _ _ h).1,oneOrTup_c]
 generalize cL s xs=ys
 cases ys with
 | nil=>rfl
 | cons y ys=>cases ys with
   | nil=>rfl
   | cons z zs=>rfl
theorem grow_keep {d:SS σ} {g:τ→σ} {d':SS τ} (h:Grow d g d') {r:Nat} (hr:(look r d.hp).isSome=true):(look r d'.hp).isSome=true:=by
 obtain ⟨_,l,e⟩:=h
 rw [e,look_append]
 cases look r l with
 | some x=>rfl
 | none =>
   simp only
   have:∀l:List (Nat×SO σ),look r (mapO g l)=(look r l).map (SO.map g):=by
    intro l
    induction l with
    | nil=>rfl
    | cons x l ih =>
      obtain ⟨k,v⟩:=x
      rw [mapO,look,look]
      split
      ·rfl
      ·exact ih
   rw [this]
   cases hl:look r d.hp with
   | none=>rw [hl] at hr;cases hr
   | some w=>rfl
theorem look_filter {α:Type} (q:Nat→Bool) (r:Nat):∀l:List (Nat×α),look r (l.filter fun y=>q y.1)=if q r=true then look r l else none
 | []=>by simp [look]
 | (k,x)::l=>by
   rw [List.filter_cons]
   have ih:=look_filter q r l
   by_cases hk:k=r
   ·subst hk
    by_cases hq:q k=true
    ·simp only [hq,if_true];rw [look,if_pos rfl,look,if_pos rfl]
    ·rw [if_neg hq,ih,if_neg hq,if_neg hq]
   ·by_cases hq:q k=true
    ·simp only [hq,if_true];rw [look,if_neg hk,look,if_neg hk];exact ih
    ·rw [if_neg hq,ih,look,if_neg hk]
theorem cO_filter (s:σ) (q:Nat→Bool):∀l:List (Nat×SO σ),cO s (l.filter fun y=>q y.1)=(cO s l).filter fun y=>q y.1
 | []=>rfl
 | (k,x)::l=>by
   rw [cO,List.filter_cons,List.filter_cons]
   cases hq:q k with
   | true=>simp only [if_true];rw [cO,cO_filter s q l]
   | false=>simp only [Bool.false_eq_true,if_false];exact cO_filter s q l
theorem toHead_run {β:Type} {p kind:Nat} {d:SS σ} {its:List IT} {d':SS τ} {s:τ} {r:(uIs its).T ⊕ β} (h:(toHead p kind d its d':TR ((uIs its).T ⊕ β) τ).run s=some r):∃x,packX d its d'=some x∧allT s x.cs∧r = .inl (x.f s):=by
 unfold toHead at h
 split at h
 ·rename_i x hx
  obtain ⟨h1,h2⟩:=run_req h
  rw [TR.run] at h2
  exact ⟨x,hx,h1,by cases h2;rfl⟩
 ·split at h
  ·rw [TR.run] at h;cases h
  ·unfold noteS at h;rw [TR.run] at h;cases h
theorem out_run {β υ:Type} {t:TR β τ} {s:τ} {r:υ ⊕ β} (h:(TR.out t:TR (υ ⊕ β) τ).run s=some r):∃b,t.run s=some b∧r = .inr b:=by
 rw [TR.run] at h
 cases ht:t.run s with
 | none=>rw [ht] at h;cases h
 | some b=>rw [ht] at h;cases h;exact ⟨b,rfl,rfl⟩
theorem join_run {β υ:Type} {a:TR (υ ⊕ β) σ} {t:TR β (σ×υ)} {s:σ} {b:β} (h:(TR.join a t).run s=some b):(∃u,a.run s=some (.inl u)∧t.run (s,u)=some b)∨a.run s=some (.inr b):=by
 rw [TR.run] at h
 cases ha:a.run s with
 | none=>rw [ha] at h;cases h
 | some r =>
   rw [ha] at h
   cases r with
   | inl u=>exact .inl ⟨u,rfl,h⟩
   | inr x=>cases h;exact .inr rfl
end
section
variable {P:Program} {q:Nat→Bool} {tab:Nat→Option Func} {con:Nat→Option CE} {plan:Nat→Option PL} {eg:Nat→Bool}
def SSound (P:Program) (q:Nat→Bool) (tab:Nat→Option Func) (con:Nat→Option CE) (plan:Nat→Option PL) (eg:Nat→Bool) (n:Nat):Prop :=
 ∀(β:Type) (f N p:Nat) (c:Code) (σ:Type) (d:SS σ) (F:Nat) (K:(τ:Type)→(τ→σ)→Exit→SS τ→Nat→TR β τ) (s:σ) (b:β) (hp0:Nat→Option AO),(∀r,(hp0 r).isSome=true→(look r d.hp).isSome=true) →
  (sx (tiOf P) q tab con plan eg n β f N p c σ d F K).run s=some b →
  ∃(τ:Type) (g:τ→σ) (s':τ) (e:Exit) (d':SS τ) (F':Nat),g s'=s∧Grow d g d'∧To P noG N hp0 c (d.c s N) e (d'.c s' N)∧(K τ g e d' F').run s'=some b
theorem resAt_wk {σ:Type} {θ:Nat→Option Nat} {hp1 hp2:Nat→Option AO} {dh:SS σ} {su:σ} {N n:Nat} {xs:List AV} (hn:xs.length=n) (hT:∀t v,look t (dh.c su N).tm=some v→WkV θ hp1 hp2 v (match look t (argTm 0 xs) with | some x=>x | none => .junk)):WkV θ hp1 hp2 ((resAt n dh).c su) (oneOrTupA xs):=by
 have key:∀(m i:Nat) (ys:List AV),ys.length=m→(∀j,j<m→ys[j]? = xs[i+j]?)→WkL θ hp1 hp2 (cL su ((List.range' i m).map fun j=>match lookQ j dh.tm with | some v=>v | none => .junk)) ys:=by
  intro m
  induction m with
  | zero=>intro i ys hl _;cases ys with
    | nil=>show WkL θ hp1 hp2 [] [];rw [WkL]
    | cons y ys=>cases hl
  | succ m ih =>
    intro i ys hl hj
    cases ys with
    | nil=>cases hl
    | cons y ys =>
      rw [List.range'_succ,List.map_cons,cL,WkL]
      refine ⟨y,ys,rfl,?_,ih (i+1) ys (by simpa using hl) fun j hjm => ?_⟩
      ·have h0:=hj 0 (Nat.succ_pos m)
       simp only [List.getElem?_cons_zero,Nat.add_zero] at h0
       rw [lookQ_eq]
       cases hlk:look i dh.tm with
       | none=>simp only [SV.c];rw [WkV];trivial
       | some v =>
         have:=hT i (v.c su) (by show look i (cT su dh.tm)=_;rw [look_cT,hlk];rfl)
         rw [look_argTm] at this
         simp only [Nat.zero_le,if_true,Nat.sub_zero,←h0] at this
         exact this
      ·have:=hj (j+1) (Nat.succ_lt_succ hjm)
       rw [List.getElem?_cons_succ] at this
       rw [this]
       congr 1
       omega
 have hk:=key n 0 xs hn fun j _=>by rw [Nat.zero_add]
 unfold resAt
 rw [oneOrTup_c,List.range_eq_range']
 generalize cL su ((List.range' 0 n).map fun j=>match lookQ j dh.tm with | some v=>v | none => .junk)=ys at hk
 cases ys with
 | nil=>rw [WkL] at hk;subst hk;show WkV θ hp1 hp2 (.tup []) (.tup []);rw [WkV];exact ⟨[],rfl,by rw [WkL]⟩
 | cons y ys =>
   rw [WkL] at hk
   obtain ⟨x,xs',rfl,h1,h2⟩:=hk
   cases ys with
   | nil=>rw [WkL] at h2;subst h2;exact h1
   | cons y2 ys =>
     rw [WkL] at h2
     obtain ⟨x2,xs2,rfl,h3,h4⟩:=h2
     show WkV θ hp1 hp2 (.tup (y::y2::ys)) (.tup (x::x2::xs2))
     rw [WkV]
     exact ⟨_,rfl,by rw [WkL];exact ⟨x,_,rfl,h1,by rw [WkL];exact ⟨x2,xs2,rfl,h3,h4⟩⟩⟩
theorem someN_mem {θ:Nat→Option Nat} {x:Nat}:∀ {l:List Nat},x∈someN θ l→∃r∈l,θ r=some x
 | r::l,h=>by
   rw [someN] at h
   split at h
   ·rename_i y hy
    rcases List.mem_cons.1 h with rfl | h
    ·exact ⟨r,List.mem_cons_self,hy⟩
    ·obtain ⟨q,h1,h2⟩:=someN_mem h
     exact ⟨q,List.mem_cons_of_mem _ h1,h2⟩
   ·obtain ⟨q,h1,h2⟩:=someN_mem h
    exact ⟨q,List.mem_cons_of_mem _ h1,h2⟩
theorem backN_eq (ρ:Nat→Nat):∀l:List Nat,backN ρ l=l.map fun r=>(ρ r,some r)
 | []=>rfl
 | r::l=>by rw [backN,backN_eq ρ l];rfl
theorem isNat_eq:∀ {l:List Nat} {i:Nat},isNat i l=true→l=List.range' i l.length
 | [],_,_=>rfl
 | k::l,i,h=>by
   rw [isNat,Bool.and_eq_true] at h
   have e:=of_decide_eq_true h.1
   rw [List.length_cons,List.range'_succ,←isNat_eq h.2,e]
theorem aTs_keys:∀(l:List IT) (x:(uIs l).T),(aTs l x).map (·.1)=covT l
 | [],_=>rfl
 | i::l,x=>by
   rw [show aTs (i::l) x=aT i (pfst (uI i) (uIs l) x)++aTs l (psnd (uI i) (uIs l) x) from rfl,List.map_append,aTs_keys l]
   cases i with
   | tmp t a cs=>cases a<;>rfl
   | _=>rfl
theorem args_wk {θ:Nat→Option Nat} {hp1 hp2:Nat→Option AO}:∀(l:List (Nat×AV)) (ys:List AV) (i:Nat),l.map (·.1)=List.range' i ys.length→(∀x∈l,WkV θ hp1 hp2 x.2 (match ys[x.1-i]? with | some y=>y | none => .junk))→WkL θ hp1 hp2 (l.map (·.2)) ys
 | [],ys,i,h,_=>by
   cases ys with
   | nil=>rw [List.map_nil,WkL]
   | cons y ys=>rw [List.length_cons,List.range'_succ] at h;cases h
 | x::l,ys,i,h,hx=>by
   cases ys with
   | nil=>cases h
   | cons y ys =>
     rw [List.length_cons,List.range'_succ,List.map_cons] at h
     injection h with h1 h2
     rw [List.map_cons,WkL]
     refine ⟨y,ys,rfl,?_,args_wk l ys (i+1) h2 fun z hz => ?_⟩
     ·have:=hx x List.mem_cons_self
      rw [h1,Nat.sub_self] at this
      exact this
     ·have hk:z.1∈List.range' (i+1) ys.length:=by rw [←h2];exact List.mem_map.2 ⟨z,hz,rfl⟩
      have hk:=(List.mem_range'_1.1 hk).1
      have:=hx z (List.mem_cons_of_mem _ hz)
      rw [show z.1-i=(z.1-(i+1))+1 by omega,List.getElem?_cons_succ] at this
      exact this
theorem tup_wk {θ:Nat→Option Nat} {hp1 hp2:Nat→Option AO} {ys xs:List AV} (h:WkL θ hp1 hp2 ys xs):WkV θ hp1 hp2 (oneOrTupA ys) (oneOrTupA xs):=by
 cases ys with
 | nil=>rw [WkL] at h;subst h;show WkV θ hp1 hp2 (.tup []) (.tup []);rw [WkV];exact ⟨[],rfl,by rw [WkL]⟩
 | cons y ys =>
   rw [WkL] at h
   obtain ⟨x,xs',rfl,h1,h2⟩:=h
   cases ys with
   | nil=>rw [WkL] at h2;subst h2;exact h1
   | cons y2 ys =>
     rw [WkL] at h2
     obtain ⟨x2,xs2,rfl,h3,h4⟩:=h2
     show WkV θ hp1 hp2 (.tup (y::y2::ys)) (.tup (x::x2::xs2))
     rw [WkV]
     exact ⟨_,rfl,by rw [WkL];exact ⟨x,_,rfl,h1,by rw [WkL];exact ⟨x2,xs2,rfl,h3,h4⟩⟩⟩
theorem sconS_ok {P:Program} {σ:Type} {β:Type} {N f:Nat} {E:CE} (hE:ConS P f E) {args:List (SV σ)} {d:SS σ} {F:Nat} {K:(τ:Type)→(τ→σ)→SV τ→List (Nat×SO τ)→List Nat→Nat→TR β τ} {s:σ} {b:β} (h:(sconS E args d F K).run s=some b) :
 ∃(τ:Type) (g:τ→σ) (s':τ) (v:SV τ) (us:List (Nat×SO τ)) (rds:List Nat) (F':Nat),g s'=s∧fnOk P f=true∧Does P noG f (cL s args) rds (v.c s') (cO s' us) (d.c s N).rd∧(K τ g v us rds F').run s'=some b:=by
 unfold sconS at h
 generalize namesT (⟨argS 0 args,d.hp⟩:SS σ) E.ai []=th at h
 simp only at h
 unfold sconS1 at h
 generalize noneN (lookN th) (namesH E.ri++namesH E.ai)=fr at h
 simp only at h
 unfold sconS2 at h
 generalize hos:pickS' (rdS d) (someN (lookN th) (namesH E.ai))=os at h
 generalize hρ:newN (lookN th) F fr=ρ at h
 have hρs:∀r x,lookN th r=some x→ρ r=x:=fun r x hx=>by rw [←hρ];unfold newN;rw [hx]
 generalize lookN th=θ at h hos hρs
 unfold sconS3 at h
 split at h
 ·rw [TR.run] at h;cases h
 rename_i pa hpa
 split at h
 ·rw [TR.run] at h;cases h
 rename_i hfz
 split at h
 ·rw [TR.run] at h;cases h
 rename_i hB
 unfold sokB at hB
 simp only [Bool.and_eq_true] at hB
 obtain ⟨⟨⟨b1,b2,b3⟩,b4,b5⟩,⟨b6,b7,b7a⟩,⟨b8,b9⟩,b10,b11⟩:=hB
 have b3:=of_decide_eq_true b3
 obtain ⟨h1,h2⟩:=run_req h
 obtain ⟨r,hf,h3⟩:=run_bnd h2
 have hD:=hE.2 _ _ hf
 -- the names
 obtain ⟨tbl,htb⟩:∃tbl,tbl=backN ρ (namesH E.ri++namesH E.ai):=⟨_,rfl⟩
 rw [←htb] at b6
 have hin:∀q∈namesH E.ri++namesH E.ai,lookN tbl (ρ q)=some q:=fun q hq=>eqN_eq (List.all_eq_true.1 b6 q hq)
 have hrf:∀q∈itRefs E.ri++itRefs E.ai,q∈namesH E.ri++namesH E.ai:=fun q hq=>by
  rcases List.mem_append.1 hq with g | g
  ·exact memB_iff.1 (List.all_eq_true.1 b7 q g)
  ·exact List.mem_append_right _ (memB_iff.1 (List.all_eq_true.1 b7a q g))
 obtain ⟨o1,o2⟩:=objs_wk (s:=(s,r)) (f1:=Prod.snd) (f2:=fun t:σ×(uIs E.ri).T=>pa.f t.1) (htb.trans (backN_eq ρ _)) b4 b5 hin hrf
 -- what is handed over
 have hai:∀q∈namesH E.ai,∃v,look q (aHs E.ai (pa.f s))=some v:=fun q hq=>look_some_mem (by rw [aHs_names];exact hq)
 have hai':∀q∈namesH E.ai,(lookF (aHs E.ai (pa.f s)) q).isSome=true:=fun q hq=>by
  obtain ⟨v,hv⟩:=hai q hq
  unfold lookF;rw [hv];rfl
 have hst:(⟨argS 0 args,os⟩:SS σ).c s 0=⟨0,argTm 0 (cL s args),cO s os⟩:=by unfold SS.c;rw [argS_c]
 obtain ⟨w1,w2⟩:=pkIsP_wk (N:=0) (hp2:=lookF (aHs E.ai (pa.f s))) E.ai pa hpa h1 (fun x hx=>by rw [hfz] at hx;cases hx) (fun x hx=>hai' x.1 (by rw [←aHs_names E.ai (pa.f s)];exact List.mem_map.2 ⟨x,hx,rfl⟩)) (fun q hq=>hai' q (memB_iff.1 (List.all_eq_true.1 b7a q hq)))
 rw [hst] at w1 w2
 have hwH:WkH θ (lookF (cO s os)) (lookF (aHs E.ai (pa.f s))):=⟨fun q o ho=>w2 (q,o) (look_mem ho),fun q q' o o' x e1 e2 _ _ e3 e4=>by
  have m1:q∈namesH E.ai:=by rw [←aHs_names E.ai (pa.f s)];exact List.mem_map.2 ⟨_,look_mem e1,rfl⟩
  have m2:q'∈namesH E.ai:=by rw [←aHs_names E.ai (pa.f s)];exact List.mem_map.2 ⟨_,look_mem e2,rfl⟩
  have k1:=hin q (List.mem_append_right _ m1)
  have k2:=hin q' (List.mem_append_right _ m2)
  rw [hρs q x e3] at k1
  rw [hρs q' x e4,k1] at k2
  cases k2;rfl⟩
 have hwA:WkL θ (lookF (cO s os)) (lookF (aHs E.ai (pa.f s))) ((aTs E.ai (pa.f s)).map (·.2)) (cL s args):=by
  refine args_wk _ _ 0 ?_ fun x hx => ?_
  ·rw [aTs_keys,isNat_eq b2,b3,cL_length]
  ·have:=w1 x hx
   unfold SL.get at this
   simp only [look_argTm,Nat.zero_le,if_true] at this
   exact this
 have hback:∀x∈namesO os,∃c∈namesH E.ai,θ c=some x∧ρ c=x:=fun x hx=>by
  obtain ⟨c,c1,c2⟩:=someN_mem (memB_iff.1 (List.all_eq_true.1 b9 x hx))
  exact ⟨c,c1,c2,hρs c x c2⟩
 have hosn:∀x o,look x (cO s os)=some o→x∈namesO os:=fun x o ho=>by
  obtain ⟨o',k1,_⟩:=mem_cO (look_mem ho)
  exact namesO_mem.2 ⟨o',k1⟩
 have hv:WkV (lookN tbl) (lookF (aHs E.ri r++aHs E.ai (pa.f s))) (lookF (cO (s,r) (headHsP ρ E.ri Prod.snd++headHsP ρ E.ai (fun t:σ×(uIs E.ri).T=>pa.f t.1)))) ((oneOrTup ((headTsP ρ E.ri (Prod.snd:σ×(uIs E.ri).T→(uIs E.ri).T)).map (·.2))).c (s,r)) (oneOrTupA ((aTs E.ri r).map (·.2))):=by
  rw [oneOrTup_c,cL_sndP]
  exact tup_wk (headTsP_wk E.ri (Prod.snd:σ×(uIs E.ri).T→(uIs E.ri).T) fun q hq=>by
   rcases List.mem_append.1 hq with g | g
   ·exact o1 q (List.mem_append_left _ g)
   ·exact o1 q (hrf q (List.mem_append_left _ g)))
 have hdo:=doesS hD hwH hwA o2 hv fun x o ho=>by
  obtain ⟨c,c1,c2,c3⟩:=hback x (hosn x o ho)
  have k:=o1 c (List.mem_append_right _ c1)
  rw [c3] at k
  obtain ⟨o',ho'⟩:=Option.isSome_iff_exists.1 k.2
  obtain ⟨oc,hoc⟩:=hai c c1
  exact ⟨o',ho',c,oc,k.1,c2,hoc,live_aHs b1 _ (look_mem hoc)⟩
 have hnm:(cO (s,r) (headHsP ρ E.ri Prod.snd++headHsP ρ E.ai (fun t:σ×(uIs E.ri).T=>pa.f t.1))).map (·.1)=(namesH E.ri++namesH E.ai).map ρ:=by rw [cO_append,List.map_append,headHsP_names,headHsP_names,List.map_append]
 have hosr:∀y∈cO s os,y.1∈(namesH E.ri++namesH E.ai).map ρ:=fun y hy=>by
  obtain ⟨o',k1,_⟩:=mem_cO hy
  obtain ⟨c,c1,c2,c3⟩:=hback y.1 (namesO_mem.2 ⟨o',k1⟩)
  exact List.mem_map.2 ⟨c,List.mem_append_right _ c1,c3⟩
 have hosd:∀y∈cO s os,(d.c s N).rd y.1=some y.2:=fun y hy=>by
  obtain ⟨o',k1,k2⟩:=mem_cO hy
  rw [←hos] at k1
  have:=pickS'_mem k1
  rw [←rdS_c]
  unfold rdc
  rw [this,k2];rfl
 refine ⟨_,Prod.fst,(s,r),_,_,_,_,rfl,hE.1,?_,h3⟩
 refine does_trim (us:=cO (s,r) (headHsP ρ E.ri Prod.snd++headHsP ρ E.ai (fun t:σ×(uIs E.ri).T=>pa.f t.1))) ?_ fun q => ?_
 rotate_left
 ·rw [cO_append,cO_append,cO_filter (s,r) (fun k=>memB k ((diffN θ (⟨argS 0 args,os⟩:SS σ) E.ai).map ρ)),look_append,look_append,look_filter (fun k=>memB k ((diffN θ (⟨argS 0 args,os⟩:SS σ) E.ai).map ρ))]
  cases hl:look q (cO (s,r) (headHsP ρ E.ri Prod.snd)) with
  | some o=>exact .inl rfl
  | none =>
    simp only
    split
    ·exact .inl rfl
    ·rename_i hq
     refine .inr ⟨rfl,fun o ho => ?_⟩
     have hm:=look_mem ho
     have hm':(q,o)∈cO s (headHsP ρ E.ai pa.f):=by rw [←headHsP_at (s1:=(s,r)) (s2:=s) E.ai (fun t:σ×(uIs E.ri).T=>pa.f t.1) pa.f rfl];exact hm
     refine ⟨by
      have:q∈(namesH E.ai).map ρ:=by rw [←headHsP_names s ρ E.ai pa.f];exact List.mem_map.2 ⟨_,hm',rfl⟩
      rw [List.map_append];exact List.mem_append_right _ this,?_⟩
     rcases pkIsP_same hρs E.ai pa hpa h1 _ hm' with g | g
     ·exact (hq (memB_iff.2 g)).elim
     ·have g:rdc s (rdS (⟨argS 0 args,os⟩:SS σ)) q=some o:=g
      rw [rdS_c s 0] at g
      have g:look q (cO s os)=some o:=g
      exact hosd _ (look_mem g)
 refine does_of_O hdo (fun y hy=>⟨hosr y hy,?_⟩) (closedS_c b10) (by rw [refsL_c];exact inNames_c b11) (fun y hy => ?_) (List.all_eq_true.2 fun y hy => ?_)
 ·exact hosd y hy
 ·have hm:y.1∈(namesH E.ri++namesH E.ai).map ρ:=by rw [←hnm];exact List.mem_map.2 ⟨y,hy,rfl⟩
  refine ⟨hm,?_⟩
  obtain ⟨q,q1,q2⟩:=List.mem_map.1 hm
  have:=List.all_eq_true.1 b8 q q1
  rw [q2,Bool.or_eq_true] at this
  rcases this with g | g
  ·exact .inl (noneAt_rd0 g)
  ·exact .inr (look_names (memB_iff.1 g))
 ·obtain ⟨v,hv⟩:=look_some_mem (k:=y.1) (l:=cO (s,r) (headHsP ρ E.ri Prod.snd++headHsP ρ E.ai (fun t:σ×(uIs E.ri).T=>pa.f t.1))) (by rw [hnm];exact hosr y hy)
  rw [hv];rfl
theorem conA_ok (hcon:∀f E,con f=some E→ConOk P (f % 1000000000) E) {f:Nat} {b:Bool} {E:CE} (h:conA con f b=some E):ConOk P f E:=by
 unfold conA at h
 split at h
 ·cases h
 ·rename_i hf
  have hf:=of_decide_eq_true hf
  split at h
  ·split at h
   ·rename_i E' hE'
    cases h
    have:=hcon _ _ hE'
    rwa [show (1000000000+f) % 1000000000=f by omega] at this
   ·have:=hcon _ _ h
    rwa [Nat.mod_eq_of_lt hf] at this
  ·have:=hcon _ _ h
   rwa [Nat.mod_eq_of_lt hf] at this
theorem scall_ok (hcon:∀f E,con f=some E→ConOk P (f % 1000000000) E) (htab:∀f fn,tab f=some fn→P.funcs[f]? = some fn∧fnOk P f=true) {n:Nat} (hn:SSound P q tab con plan eg n) {N p:Nat} {β:Type}:CallOk P N (scall (tiOf P) tab con plan (sx (tiOf P) q tab con plan eg n) p β):=by
 intro i σ f args d F K s b h
 unfold scall at h
 split at h
 ·rename_i E hE
  have hE':=conA_ok hcon hE
  unfold ConOk at hE'
  split at h
  ·rename_i hd
   rw [hd] at hE'
   exact scon_ok hE' h
  ·rename_i hd
   rw [hd] at hE'
   exact sconS_ok hE' h
 ·split at h
  ·rw [TR.run] at h;cases h
  ·rename_i fn hfn
   obtain ⟨t1,t2⟩:=htab f fn hfn
   split at h
   ·rw [TR.run] at h;cases h
   ·rename_i c hb
    generalize hos:pickS' (rdS d) (reachS (rdS d) 1000 (refsS args) [])=os at h
    try simp only at h
    split at h
    ·rw [TR.run] at h;cases h
    ·rename_i hok
     rw [Bool.and_eq_true,Bool.and_eq_true,decide_eq_true_eq] at hok
     obtain ⟨k1,k2,k3⟩:=hok
     have hosd:∀p∈cO s os,(d.c s N).rd p.1=some p.2:=fun x hx=>by
      obtain ⟨o,h1,h2⟩:=mem_cO hx
      rw [←hos] at h1
      have:=pickS'_mem h1
      rw [←rdS_c]
      unfold rdc
      rw [this,h2];rfl
     have hra:refsB (cO s os) (AV.refs.refsL (cL s args))=true:=by rw [refsL_c];exact inNames_c k3
     have hlen:(cL s args).length≤fn.ntmps:=by rw [cL_length];exact k1
     have hst:(⟨argS 0 args,os⟩:SS σ).c s fn.ntmps=⟨fn.ntmps,argTm 0 (cL s args),cO s os⟩:=by unfold SS.c;rw [argS_c]
     have hk0:∀r,((lookF (cO s os)) r).isSome=true→(look r (⟨argS 0 args,os⟩:SS σ).hp).isSome=true:=fun r hr=>by
      unfold lookF at hr
      rw [look_cO] at hr
      cases hl:look r os with
      | none=>rw [hl] at hr;cases hr
      | some o=>rfl
     split at h
     ·unfold noteS at h;rw [TR.run] at h;cases h
     ·rename_i its hits
      split at h
      ·first | (unfold noteS at h;rw [TR.run] at h;cases h;done) | (rw [TR.run] at h;cases h)
      ·rename_i hck
       rw [Bool.and_eq_true] at hck
       obtain ⟨c1,c2⟩:=hck
       rcases join_run h with ⟨u,h1,h2⟩ | h1
       ·obtain ⟨τ,g,s',e,d',F',g1,g2,g3,g4⟩:=hn _ f fn.ntmps _ c σ _ F _ s _ (lookF (cO s os)) hk0 h1
        split at g4
        ·rw [TR.run] at g4;cases g4
        ·rename_i he
         split at g4
         ·rw [TR.run] at g4;cases g4
         ·rename_i xs hxs
          obtain ⟨x,x1,x2,x3⟩:=toHead_run g4
          cases x3
          have hgr:Grow (⟨[],os⟩:SS σ) g (⟨argS 0 xs,d'.hp⟩:SS τ):=⟨⟨argS 0 xs,(List.append_nil _).symm⟩,g2.hp⟩
          obtain ⟨θ,q1,q2,q3⟩:=packX_core (N:=fn.ntmps) hgr x1 x2
          rw [g1] at q1 q2 q3
          rw [hst] at g3
          have hrs:xs.length=fn.results.size:=by have:=(resSL_c (s:=s') (N:=fn.ntmps) _ _ hxs).2;rw [this,Array.length_toList]
          have hback:Back (cO s os) (d'.c s' fn.ntmps).hp ((headD (⟨[],os⟩:SS σ) its).c (s,x.f s') fn.ntmps).hp ((resAt fn.results.size (headD (⟨[],os⟩:SS σ) its)).c (s,x.f s')) ((oneOrTup xs).c s'):=by
           refine ⟨θ,fun r o ho => ?_,q2,?_⟩
           ·exact q1 r (by rw [look_cO] at ho;cases hl:look r os with | none=>rw [hl] at ho;cases ho | some w=>rfl)
           ·rw [oneOrTup_c]
            refine resAt_wk (N:=fn.ntmps) (by rw [cL_length];exact hrs) fun t v hv => ?_
            have:=q3 t v hv
            unfold SL.get at this
            rw [show (SS.c s' fn.ntmps (⟨argS 0 xs,d'.hp⟩:SS τ)).tm=argTm 0 (cL s' xs) from argS_c s' 0 xs] at this
            exact this
          have hdo:=doesO_told t1 hb hlen g3 he (resA_c hxs) hback
          have hin:((cO s os).all fun p=>(look p.1 ((headD (⟨[],os⟩:SS σ) its).c (s,x.f s') fn.ntmps).hp).isSome)=true:=List.all_eq_true.2 fun y hy=>by
           obtain ⟨o,o1,o2⟩:=mem_cO hy
           have:(look y.1 os).isSome=true:=by obtain ⟨w,hw⟩:=look_isSome_of_mem o1;rw [hw];rfl
           exact (q1 y.1 this).2
          have hus:((headD (⟨[],os⟩:SS σ) its).c (s,x.f s') fn.ntmps).hp=cO (s,x.f s') (headD (⟨[],os⟩:SS σ) its).hp:=rfl
          have hnm:∀y∈((headD (⟨[],os⟩:SS σ) its).c (s,x.f s') fn.ntmps).hp,y.1∈namesO (headD (⟨[],os⟩:SS σ) its).hp:=fun y hy=>by
           rw [hus] at hy
           obtain ⟨o,o1,_⟩:=mem_cO hy
           exact namesO_mem.2 ⟨o,o1⟩
          have hd1:=does_of_O (rds:=namesO (headD (⟨[],os⟩:SS σ) its).hp) (hp:=(d.c s N).rd) hdo (fun y hy=>⟨?_,hosd y hy⟩) (closedS_c k2) hra (fun y hy=>⟨hnm y hy,?_⟩) hin
          ·refine ⟨_,Prod.fst,(s,x.f s'),_,_,_,F,rfl,t2,?_,h2⟩
           refine does_trim hd1 fun r => ?_
           have hsp:((headD (⟨[],os⟩:SS σ) its).c (s,x.f s') fn.ntmps).hp=cO (s,x.f s') (headHs its Prod.snd)++cO s os:=by
            rw [hus]
            show cO (s,x.f s') (headHs its Prod.snd++mapO Prod.fst os)=_
            rw [cO_append,mapOs_c]
           rw [hsp,look_append]
           cases hl:look r (cO (s,x.f s') (headHs its Prod.snd)) with
           | some o=>exact .inl rfl
           | none =>
             refine .inr ⟨rfl,fun o ho => ?_⟩
             have hm:=look_mem ho
             obtain ⟨o',o1,_⟩:=mem_cO hm
             refine ⟨?_,hosd _ hm⟩
             have:r∈namesO os:=namesO_mem.2 ⟨o',o1⟩
             have hnn:∀l:List (Nat×SO σ),namesO (mapO (Prod.fst:σ×(uIs its).T→σ) l)=namesO l:=by
              intro l
              induction l with
              | nil=>rfl
              | cons z l ih=>obtain ⟨k,w⟩:=z;rw [mapO,namesO,namesO,ih]
             have happ:∀a b:List (Nat×SO (σ×(uIs its).T)),namesO (a++b)=namesO a++namesO b:=by
              intro a b
              induction a with
              | nil=>rfl
              | cons z l ih=>obtain ⟨k,w⟩:=z;rw [List.cons_append,namesO,namesO,ih];rfl
             show r∈namesO (headHs its Prod.snd++mapO Prod.fst os)
             rw [happ,hnn]
             exact List.mem_append_right _ this
          ·have:=List.all_eq_true.1 hin y hy
           cases hl:look y.1 ((headD (⟨[],os⟩:SS σ) its).c (s,x.f s') fn.ntmps).hp with
           | none=>rw [hl] at this;cases this
           | some o=>exact hnm (y.1,o) (look_mem hl)
          ·rw [hus] at hy
           obtain ⟨o,o1,_⟩:=mem_cO hy
           have:=List.all_eq_true.1 c2 _ o1
           rcases (Bool.or_eq_true _ _).mp this with h | h
           ·exact .inl (noneAt_rd0 h)
           ·exact .inr (look_names (memB_iff.1 h))
       ·exfalso
        obtain ⟨τ,g,s',e,d',F',g1,g2,g3,g4⟩:=hn _ f fn.ntmps _ c σ _ F _ s _ (lookF (cO s os)) hk0 h1
        split at g4
        ·rw [TR.run] at g4;cases g4
        ·split at g4
         ·rw [TR.run] at g4;cases g4
         ·obtain ⟨x,x1,x2,x3⟩:=toHead_run g4
          cases x3
     ·obtain ⟨τ,g,s',e,d',F',g1,g2,g3,g4⟩:=hn _ f fn.ntmps _ c σ _ F _ s _ (lookF (cO s os)) hk0 h
      split at g4
      ·rw [TR.run] at g4;cases g4
      ·rename_i he
       split at g4
       ·rw [TR.run] at g4;cases g4
       ·rename_i xs hxs
        generalize hus:pickS' (rdS d') (reachS (rdS d') 1000 (refsS xs++namesO os) [])=us at g4
        try simp only at g4
        split at g4
        ·rw [TR.run] at g4;cases g4
        ·rename_i hbk
         simp only [Bool.and_eq_true] at hbk
         obtain ⟨⟨b1,b2⟩,b3,b4⟩:=hbk
         rw [hst] at g3
         have hlk:∀r o,look r (cO s' us)=some o→(d'.c s' fn.ntmps).rd r=some o:=fun r o ho=>by
          obtain ⟨o',o1,o2⟩:=mem_cO (look_mem ho)
          rw [←hus] at o1
          have:=pickS'_mem o1
          rw [←rdS_c]
          unfold rdc
          simp only at this o2
          rw [this,o2];rfl
         have hinn:((cO s os).all fun y=>(look y.1 (cO s' us)).isSome)=true:=List.all_eq_true.2 fun y hy=>by
          obtain ⟨o,o1,_⟩:=mem_cO hy
          exact look_names (memB_iff.1 (List.all_eq_true.1 b3 _ (namesO_mem.2 ⟨o,o1⟩)))
         have hD:=doesO_of_to t1 hb hlen g3 he (resA_c hxs) (us:=cO s' us) hlk (closedS_c b1) (by rw [refs_c];unfold oneOrTup;have hh:=inNames_c (s:=s') b2;split<;>simpa [SV.refs,refsS] using hh) hinn
         refine ⟨τ,g,s',_,_,_,F',g1,t2,?_,g4⟩
         have hnm:∀y∈cO s' us,y.1∈namesO us:=fun y hy=>by
          obtain ⟨o,o1,_⟩:=mem_cO hy
          exact namesO_mem.2 ⟨o,o1⟩
         have hd1:=does_of_O (rds:=namesO us) (hp:=(d.c s N).rd) hD (fun y hy=>⟨?_,hosd y hy⟩) (closedS_c k2) hra (fun y hy=>⟨hnm y hy,?_⟩) hinn
         ·refine does_trim hd1 fun r => ?_
          unfold trimS
          rw [cO_filter s' (fun r => !memB r (namesO (mapO g os))||memB r (namesO (d'.hp.take (d'.hp.length-os.length)))) us,look_filter (fun r => !memB r (namesO (mapO g os))||memB r (namesO (d'.hp.take (d'.hp.length-os.length)))) r (cO s' us)]
          split
          ·exact .inl rfl
          ·rename_i hq
           refine .inr ⟨rfl,fun o ho=>⟨hnm _ (look_mem ho),?_⟩⟩
           rw [Bool.or_eq_true] at hq
           have hq1:r∈namesO (mapO g os):=by
            rcases hm:memB r (namesO (mapO g os)) with _ | _
            ·exfalso;exact hq (.inl (by rw [hm];rfl))
            ·exact memB_iff.1 hm
           have hq2:r∉namesO (d'.hp.take (d'.hp.length-os.length)):=fun hm=>hq (.inr (memB_iff.2 hm))
           obtain ⟨⟨_,_⟩,l2,e2⟩:=g2
           have e2:d'.hp=l2++mapO g os:=e2
           rw [e2,List.length_append,mapO_len,Nat.add_sub_cancel,List.take_left] at hq2
           have h5:=hlk r o ho
           unfold SL.rd SS.c at h5
           simp only [look_cO,e2,look_append] at h5
           rw [look_notin (l:=l2) (fun hm=>hq2 (by obtain ⟨x,hx,rfl⟩:=List.mem_map.1 hm;exact namesO_mem.2 ⟨x.2,hx⟩))] at h5
           simp only at h5
           rw [←look_cO,mapOs_c,g1] at h5
           exact hosd _ (look_mem h5)
         ·have:=List.all_eq_true.1 hinn y hy
          cases hl:look y.1 (cO s' us) with
          | none=>rw [hl] at this;cases this
          | some o=>exact hnm (y.1,o) (look_mem hl)
         ·obtain ⟨o,o1,_⟩:=mem_cO hy
          have:=List.all_eq_true.1 b4 _ o1
          rcases (Bool.or_eq_true _ _).mp this with h | h
          ·exact .inl (noneAt_rd0 h)
          ·exact .inr (look_names (memB_iff.1 h))
end
end Go.Proofs.Ytkpijdndakljjaa
namespace Go.Proofs.Ytkpijdndakljjaa
open Go.RowKit
section
variable {P:Program} {q:Nat→Bool} {tab:Nat→Option Func} {con:Nat→Option CE} {plan:Nat→Option PL} {eg:Nat→Bool}
theorem note_run {β σ τ:Type} {p kind:Nat} {d:SS σ} {d':SS τ} {s:τ} {b:β} (h:(noteS p kind d d':TR β τ).run s=some b):False:=by
 unfold noteS at h;rw [TR.run] at h;cases h
theorem to_seq {N:Nat} {hp0:Nat→Option AO} {a b:Code} {s s1 s1' s2:SL} {e:Exit} (h1:To P noG N hp0 a s .normal s1) (ht:Tells noG N hp0 s1.S s1'.S) (h2:To P noG N hp0 b s1' e s2):To P noG N hp0 (.seq a b) s e s2 :=
 aw_seq (to_mono h1 (aw_tells ht h2))
theorem to_seqx {N:Nat} {hp0:Nat→Option AO} {a b:Code} {s s1:SL} {e:Exit} (hne:e ≠ .normal) (h1:To P noG N hp0 a s e s1):To P noG N hp0 (.seq a b) s e s1 :=
 aw_seq (to_mono h1 (by cases e<;>first | exact (hne rfl).elim | exact ⟨rfl,rfl⟩))
theorem to_S {N:Nat} {hp0:Nat→Option AO} {c:Code} {s s0 s2:SL} {e:Exit} (h:s0.S=s.S) (k:To P noG N hp0 c s0 e s2):To P noG N hp0 c s e s2:=by
 unfold To at k ⊢;rw [←h];exact k
theorem keep_grow {σ τ:Type} {hp0:Nat→Option AO} {d:SS σ} {g:τ→σ} {d':SS τ} (hk:∀r,(hp0 r).isSome=true→(look r d.hp).isSome=true) (h:Grow d g d'):∀r,(hp0 r).isSome=true→(look r d'.hp).isSome=true:=fun r hr=>grow_keep h (hk r hr)
theorem grow_ref {σ:Type} (d:SS σ) (t:Nat) (b:Bool):Grow d (fun s=>s) (refT d t b):=⟨⟨[(t,.val (.bool b))],by rw [mapT_id];rfl⟩,⟨[],by rw [mapH_id];rfl⟩⟩
theorem loop_un {n:Nat} (ih:∀m,m<n→SSound P q tab con plan eg m):∀m,m<n→∀(β:Type) (f N p:Nat) (a:Code) (σ:Type) (d:SS σ) (F:Nat) (K:(τ:Type)→(τ→σ)→Exit→SS τ→Nat→TR β τ) (s:σ) (b:β) (hp0:Nat→Option AO),(∀r,(hp0 r).isSome=true→(look r d.hp).isSome=true)→(plan (p*512+6)=some .unroll∨plan (p*512+6)=some .once) →
 (sx (tiOf P) q tab con plan eg (m+1) β f N p (.loop a) σ d F K).run s=some b →
 ∃(τ:Type) (g:τ→σ) (s':τ) (e:Exit) (d':SS τ) (F' k:Nat),g s'=s∧Grow d g d'∧Rounds P noG N hp0 a e (d'.c s' N) k (d.c s N)∧(K τ g e d' F').run s'=some b:=by
 intro m
 induction m with
 | zero =>
   intro hm β f N p a σ d F K s b hp0 hk hpl h
   rw [sx] at h
   rcases hpl with hpl | hpl<;>(simp only [hpl] at h;rw [sx,TR.run] at h;cases h)
 | succ m ihm =>
   intro hm β f N p a σ d F K s b hp0 hk hpl h
   rw [sx] at h
   rcases hpl with hpl | hpl
   ·simp only [hpl] at h
    obtain ⟨τ,g,s',e,d',F',h1,h2,h3,h4⟩:=ih (m+1) hm β f N _ a σ d F _ s b hp0 hk h
    have other:e ≠ .normal→(K τ g e d' F').run s'=some b→∃(τ:Type) (g:τ→σ) (s':τ) (e:Exit) (d':SS τ) (F' k:Nat),g s'=s∧Grow d g d'∧Rounds P noG N hp0 a e (d'.c s' N) k (d.c s N)∧(K τ g e d' F').run s'=some b:=fun hne hr=>⟨τ,g,s',e,d',F',0,h1,h2,⟨hne,h3⟩,hr⟩
    cases e with
    | normal =>
      simp only at h4
      obtain ⟨τ2,g2,s2,e2,d2,F2,k,k1,k2,k3,k4⟩:=ihm (by omega) β f N p a τ d' F' _ s' b hp0 (keep_grow hk h2) (.inl hpl) h4
      exact ⟨τ2,fun t=>g (g2 t),s2,e2,d2,F2,k+1,by show g (g2 s2)=s;rw [k1,h1],h2.trans k2,⟨d'.c s' N,d'.c s' N,h3,Tells.refl _,k3⟩,k4⟩
    | exit i=>exact other (by simp) h4
    | goto l=>exact other (by simp) h4
    | ret=>exact other (by simp) h4
    | panic ch=>exact other (by simp) h4
    | outgrown=>exact other (by simp) h4
   ·simp only [hpl] at h
    obtain ⟨τ,g,s',e,d',F',h1,h2,h3,h4⟩:=ih (m+1) hm β f N _ a σ d F _ s b hp0 hk h
    have other:e ≠ .normal→(K τ g e d' F').run s'=some b→∃(τ:Type) (g:τ→σ) (s':τ) (e:Exit) (d':SS τ) (F' k:Nat),g s'=s∧Grow d g d'∧Rounds P noG N hp0 a e (d'.c s' N) k (d.c s N)∧(K τ g e d' F').run s'=some b:=fun hne hr=>⟨τ,g,s',e,d',F',0,h1,h2,⟨hne,h3⟩,hr⟩
    cases e with
    | normal =>
      simp only at h4
      have fin:(plan ((p*512+7)*512+6)=some .unroll∨plan ((p*512+7)*512+6)=some .once)→(sx (tiOf P) q tab con plan eg (m+1) β f N (p*512+7) (.loop a) τ d' F' (fun τ' g' e d'' F''=>K τ' (fun t=>g (g' t)) e d'' F'')).run s'=some b→∃(τ:Type) (g:τ→σ) (s':τ) (e:Exit) (d':SS τ) (F' k:Nat),g s'=s∧Grow d g d'∧Rounds P noG N hp0 a e (d'.c s' N) k (d.c s N)∧(K τ g e d' F').run s'=some b:=fun hp' h5=>by
       obtain ⟨τ2,g2,s2,e2,d2,F2,k,k1,k2,k3,k4⟩:=ihm (by omega) β f N _ a τ d' F' _ s' b hp0 (keep_grow hk h2) hp' h5
       exact ⟨τ2,fun t=>g (g2 t),s2,e2,d2,F2,k+1,by show g (g2 s2)=s;rw [k1,h1],h2.trans k2,⟨d'.c s' N,d'.c s' N,h3,Tells.refl _,k3⟩,k4⟩
      cases hp2:plan ((p*512+7)*512+6) with
      | none =>
        simp only [hp2] at h4
        rw [sx] at h4
        simp only [hp2] at h4
        exact (note_run h4).elim
      | some pl =>
        cases pl with
        | carry its=>simp only [hp2] at h4;rw [TR.run] at h4;cases h4
        | unroll=>simp only [hp2] at h4;exact fin (.inl hp2) h4
        | once=>simp only [hp2] at h4;exact fin (.inr hp2) h4
        | stop =>
          simp only [hp2] at h4
          rw [sx] at h4
          simp only [hp2] at h4
          rw [TR.run] at h4;cases h4
    | exit i=>exact other (by simp) h4
    | goto l=>exact other (by simp) h4
    | ret=>exact other (by simp) h4
    | panic ch=>exact other (by simp) h4
    | outgrown=>exact other (by simp) h4
theorem sx_sound (hq:QOk P q) (hdp:30≤P.depth) (hm:P.follows .mixedOrders=true) (hcon:∀f E,con f=some E→ConOk P (f % 1000000000) E) (htab:∀f fn,tab f=some fn→P.funcs[f]? = some fn∧fnOk P f=true) (n:Nat):SSound P q tab con plan eg n:=by
 induction n using Nat.strongRecOn with
 | _ n ih =>
   intro β f N p c σ d F K s b hp0 hk h
   cases n with
   | zero=>rw [sx,TR.run] at h;cases h
   | succ n =>
     have ihn:=ih n (Nat.lt_succ_self n)
     have idg:∀(e:Exit),To P noG N hp0 c (d.c s N) e (d.c s N)→(K σ (fun s=>s) e d F).run s=some b→∃(τ:Type) (g:τ→σ) (s':τ) (e:Exit) (d':SS τ) (F':Nat),g s'=s∧Grow d g d'∧To P noG N hp0 c (d.c s N) e (d'.c s' N)∧(K τ g e d' F').run s'=some b:=fun e h1 h2=>⟨σ,fun s=>s,s,e,d,F,rfl,Grow.refl d,h1,h2⟩
     cases c with
     | skip=>rw [sx] at h;exact idg _ (aw_skip ⟨rfl,rfl⟩) h
     | label l=>rw [sx] at h;exact idg _ (aw_label ⟨rfl,rfl⟩) h
     | exit id=>rw [sx] at h;exact idg _ (aw_exit ⟨rfl,rfl⟩) h
     | ret=>rw [sx] at h;exact idg _ (aw_ret ⟨rfl,rfl⟩) h
     | region id ops draw =>
       rw [sx] at h
       try simp only at h
       split at h
       ·rename_i hb
        obtain ⟨L,s',g1,g2,⟨τ,g,t,d',F',k1,k2,k3,k4⟩,g4,g5⟩:=sops_run (P:=P) (q:=q) (N:=N) (base:=F) (ops:=ops) (draw:=draw) (anc:=if draw=true then ancT ops ops.size else []) (fun hd=>by rw [if_pos hd]) (scall_ok hcon htab ihn) _ σ d [] [] (F+ops.size) _ s b (fun x hx=>by have:=(zipI_mem 0 ops.toList x hx).2;rw [Nat.sub_zero,Array.getElem?_toList] at this;exact this) rfl h
        subst k3
        exact ⟨τ,g,t,.normal,d',F',k1,k2,aw_ran hq hdp hm (draw_or hb) (by rw [g1,zipI_fst,List.range_eq_range',Array.length_toList]) g2 g5,k4⟩
       ·rw [TR.run] at h;cases h
     | seq x y =>
       rw [sx] at h
       try simp only at h
       split at h
       ·exact (note_run h).elim
       ·rename_i its _
        rcases join_run h with ⟨u,h1,h2⟩ | h1
        ·obtain ⟨τ,g,s',e,d',F',k1,k2,k3,k4⟩:=ihn _ f N _ x σ d F _ s _ hp0 hk h1
         cases e with
         | normal =>
           simp only at k4
           obtain ⟨z,z1,z2,z3⟩:=toHead_run k4
           cases z3
           have ht:=packX_tells (N:=N) k2 z1 z2 hk
           rw [k1] at ht
           obtain ⟨τ2,g2,s2,e2,d2,F2,m1,m2,m3,m4⟩:=ihn β f N _ y _ (headD d its) F _ (s,z.f s') b hp0 (keep_grow hk (grow_head d its)) h2
           exact ⟨τ2,fun t=>(g2 t).1,s2,e2,d2,F2,by show (g2 s2).1=s;rw [m1],(grow_head d its).trans m2,to_seq k3 ht m3,m4⟩
         | exit i=>obtain ⟨b',_,hb⟩:=out_run k4;cases hb
         | goto l=>obtain ⟨b',_,hb⟩:=out_run k4;cases hb
         | ret=>obtain ⟨b',_,hb⟩:=out_run k4;cases hb
         | panic ch=>obtain ⟨b',_,hb⟩:=out_run k4;cases hb
         | outgrown=>obtain ⟨b',_,hb⟩:=out_run k4;cases hb
        ·obtain ⟨τ,g,s',e,d',F',k1,k2,k3,k4⟩:=ihn _ f N _ x σ d F _ s _ hp0 hk h1
         have fin:e ≠ .normal→(TR.out (K τ g e d' F'):TR ((uIs its).T ⊕ β) τ).run s'=some (.inr b)→∃(τ:Type) (g:τ→σ) (s':τ) (e:Exit) (d':SS τ) (F':Nat),g s'=s∧Grow d g d'∧To P noG N hp0 (.seq x y) (d.c s N) e (d'.c s' N)∧(K τ g e d' F').run s'=some b:=fun hne hr=>by
          obtain ⟨b',b1,b2⟩:=out_run hr
          cases b2
          exact ⟨τ,g,s',e,d',F',k1,k2,to_seqx hne k3,b1⟩
         cases e with
         | normal =>
           simp only at k4
           obtain ⟨z,z1,z2,z3⟩:=toHead_run k4
           cases z3
         | exit i=>exact fin (by simp) k4
         | goto l=>exact fin (by simp) k4
         | ret=>exact fin (by simp) k4
         | panic ch=>exact fin (by simp) k4
         | outgrown=>exact fin (by simp) k4
       ·obtain ⟨τ,g,s',e,d',F',k1,k2,k3,k4⟩:=ihn _ f N _ x σ d F _ s _ hp0 hk h
        cases e with
        | normal =>
          simp only at k4
          obtain ⟨τ2,g2,s2,e2,d2,F2,m1,m2,m3,m4⟩:=ihn β f N _ y _ d' F' _ s' b hp0 (keep_grow hk k2) k4
          exact ⟨τ2,fun t=>g (g2 t),s2,e2,d2,F2,by show g (g2 s2)=s;rw [m1,k1],k2.trans m2,to_seq k3 (Tells.refl _) m3,m4⟩
        | exit i=>exact ⟨τ,g,s',_,d',F',k1,k2,to_seqx (by simp) k3,k4⟩
        | goto l=>exact ⟨τ,g,s',_,d',F',k1,k2,to_seqx (by simp) k3,k4⟩
        | ret=>exact ⟨τ,g,s',_,d',F',k1,k2,to_seqx (by simp) k3,k4⟩
        | panic ch=>exact ⟨τ,g,s',_,d',F',k1,k2,to_seqx (by simp) k3,k4⟩
        | outgrown=>exact ⟨τ,g,s',_,d',F',k1,k2,to_seqx (by simp) k3,k4⟩
     | cond x a1 a2 =>
       rw [sx] at h
       try simp only at h
       have hev:(d.c s N).S.ev noG x=(evS d x).c s:=by rw [SL.ev_S,evS_c s N d x]
       split at h
       ·rename_i t ht
        have hx:(d.c s N).S.ev noG x = .d (.val (.bool t)):=by rw [hev,ht,SV.c]
        cases t with
        | true =>
          obtain ⟨τ,g,s',e,d',F',k1,k2,k3,k4⟩:=ihn β f N _ a1 σ d F _ s b hp0 hk h
          exact ⟨τ,g,s',e,d',F',k1,k2,aw_cond hx (fun _=>k3) (fun hf=>by cases hf),k4⟩
        | false =>
          obtain ⟨τ,g,s',e,d',F',k1,k2,k3,k4⟩:=ihn β f N _ a2 σ d F _ s b hp0 hk h
          exact ⟨τ,g,s',e,d',F',k1,k2,aw_cond hx (fun hf=>by cases hf) (fun _=>k3),k4⟩
       ·rename_i cf hcf
        have hx:(d.c s N).S.ev noG x = .d (.val (.bool (cf s))):=by rw [hev,hcf,SV.c];rfl
        split at h
        ·rename_i t
         have hget:(d.c s N).get t=aBool (cf s):=by rw [SL.ev_S] at hx;exact hx
         rw [TR.run] at h
         cases hv:cf s with
         | true =>
           rw [hv] at h hx hget
           obtain ⟨τ,g,s',e,d',F',k1,k2,k3,k4⟩:=ihn β f N _ a1 σ (refT d t true) F _ s b hp0 (keep_grow hk (grow_ref d t true)) h
           exact ⟨τ,g,s',e,d',F',k1,(grow_ref d t true).trans k2,aw_cond hx (fun _=>to_S (refT_S hget) k3) (fun hf=>by cases hf),k4⟩
         | false =>
           rw [hv] at h hx hget
           obtain ⟨τ,g,s',e,d',F',k1,k2,k3,k4⟩:=ihn β f N _ a2 σ (refT d t false) F _ s b hp0 (keep_grow hk (grow_ref d t false)) h
           exact ⟨τ,g,s',e,d',F',k1,(grow_ref d t false).trans k2,aw_cond hx (fun hf=>by cases hf) (fun _=>to_S (refT_S hget) k3),k4⟩
        ·rw [TR.run] at h
         cases hv:cf s with
         | true =>
           rw [hv] at h hx
           obtain ⟨τ,g,s',e,d',F',k1,k2,k3,k4⟩:=ihn β f N _ a1 σ d F _ s b hp0 hk h
           exact ⟨τ,g,s',e,d',F',k1,k2,aw_cond hx (fun _=>k3) (fun hf=>by cases hf),k4⟩
         | false =>
           rw [hv] at h hx
           obtain ⟨τ,g,s',e,d',F',k1,k2,k3,k4⟩:=ihn β f N _ a2 σ d F _ s b hp0 hk h
           exact ⟨τ,g,s',e,d',F',k1,k2,aw_cond hx (fun hf=>by cases hf) (fun _=>k3),k4⟩
       ·rw [TR.run] at h;cases h
     | block id a =>
       rw [sx] at h
       try simp only at h
       obtain ⟨τ,g,s',e,d',F',k1,k2,k3,k4⟩:=ihn β f N _ a σ d F _ s b hp0 hk h
       cases e with
       | exit i =>
         simp only at k4
         split at k4
         ·rename_i hi
          have hi:=of_decide_eq_true hi
          exact ⟨τ,g,s',_,d',F',k1,k2,aw_block (to_mono k3 (by show (if i=id then _ else _);rw [if_pos hi];exact ⟨rfl,rfl⟩)),k4⟩
         ·rename_i hi
          have hi:=of_decide_eq_false hi
          exact ⟨τ,g,s',_,d',F',k1,k2,aw_block (to_mono k3 (by show (if i=id then _ else _);rw [if_neg hi];exact ⟨rfl,rfl⟩)),k4⟩
       | normal=>exact ⟨τ,g,s',_,d',F',k1,k2,aw_block (to_mono k3 ⟨rfl,rfl⟩),k4⟩
       | goto l=>exact ⟨τ,g,s',_,d',F',k1,k2,aw_block (to_mono k3 ⟨rfl,rfl⟩),k4⟩
       | ret=>exact ⟨τ,g,s',_,d',F',k1,k2,aw_block (to_mono k3 ⟨rfl,rfl⟩),k4⟩
       | panic ch=>exact ⟨τ,g,s',_,d',F',k1,k2,aw_block (to_mono k3 ⟨rfl,rfl⟩),k4⟩
       | outgrown=>exact ⟨τ,g,s',_,d',F',k1,k2,aw_block (to_mono k3 ⟨rfl,rfl⟩),k4⟩
     | scope a =>
       rw [sx] at h
       try simp only at h
       obtain ⟨τ,g,s',e,d',F',k1,k2,k3,k4⟩:=ihn β f N _ a σ d F _ s b hp0 hk h
       cases e with
       | goto l=>simp only at k4;rw [TR.run] at k4;cases k4
       | exit i=>exact ⟨τ,g,s',_,d',F',k1,k2,aw_scope (to_mono k3 ⟨rfl,rfl⟩),k4⟩
       | normal=>exact ⟨τ,g,s',_,d',F',k1,k2,aw_scope (to_mono k3 ⟨rfl,rfl⟩),k4⟩
       | ret=>exact ⟨τ,g,s',_,d',F',k1,k2,aw_scope (to_mono k3 ⟨rfl,rfl⟩),k4⟩
       | panic ch=>exact ⟨τ,g,s',_,d',F',k1,k2,aw_scope (to_mono k3 ⟨rfl,rfl⟩),k4⟩
       | outgrown=>exact ⟨τ,g,s',_,d',F',k1,k2,aw_scope (to_mono k3 ⟨rfl,rfl⟩),k4⟩
     | loop a =>
       cases hpl:plan (p*512+6) with
       | none =>
         rw [sx] at h
         simp only [hpl] at h
         exact (note_run h).elim
       | some pl =>
         cases pl with
         | unroll =>
           obtain ⟨τ,g,s',e,d',F',k,k1,k2,k3,k4⟩:=loop_un ih n (Nat.lt_succ_self n) β f N p a σ d F K s b hp0 hk (.inl hpl) h
           exact ⟨τ,g,s',e,d',F',k1,k2,to_loop k3,k4⟩
         | once =>
           obtain ⟨τ,g,s',e,d',F',k,k1,k2,k3,k4⟩:=loop_un ih n (Nat.lt_succ_self n) β f N p a σ d F K s b hp0 hk (.inr hpl) h
           exact ⟨τ,g,s',e,d',F',k1,k2,to_loop k3,k4⟩
         | stop =>
           rw [sx] at h
           simp only [hpl] at h
           rw [TR.run] at h;cases h
         | carry its =>
           rw [sx] at h
           simp only [hpl] at h
           split at h
           ·exact (note_run h).elim
           ·rename_i x hx
            obtain ⟨c1,h2⟩:=run_req h
            rw [TR.run] at h2
            have hr:=loopO_iff.1 h2
            have t0:=packX_tells (N:=N) (Grow.refl d) hx c1 hk
            have key:∀u,LoopR (fun u=>(sx (tiOf P) q tab con plan eg n ((uIs its).T ⊕ β) f N (p*512+6) a (σ×(uIs its).T) (headD d its) F (fun τ g e d' F'=>match e with
             | .normal=>toHead (p*512+6) (8*f) d its d'
             | e => .out (K τ (fun t=>(g t).1) e d' F'))).run (s,u)) u b →
             ∃(τ:Type) (g:τ→σ) (s':τ) (e:Exit) (d':SS τ) (F' k:Nat),g s'=s∧Grow d g d'∧Rounds P noG N hp0 a e (d'.c s' N) k ((headD d its).c (s,u) N)∧(K τ g e d' F').run s'=some b:=by
             intro u hu
             generalize hb:b=b0 at hu
             induction hu with
             | done hd =>
               subst hb
               obtain ⟨τ,g,s',e,d',F',k1,k2,k3,k4⟩:=ihn _ f N _ a _ (headD d its) F _ _ _ hp0 (keep_grow hk (grow_head d its)) hd
               have fin:e ≠ .normal→(TR.out (K τ (fun t=>(g t).1) e d' F'):TR ((uIs its).T ⊕ β) τ).run s'=some (.inr b)→∃(τ:Type) (g:τ→σ) (s':τ) (e:Exit) (d':SS τ) (F' k:Nat),g s'=s∧Grow d g d'∧Rounds P noG N hp0 a e (d'.c s' N) k ((headD d its).c (s,_) N)∧(K τ g e d' F').run s'=some b:=fun hne hr=>by
                obtain ⟨b',b1,b2⟩:=out_run hr
                cases b2
                exact ⟨τ,fun t=>(g t).1,s',e,d',F',0,by show (g s').1=s;rw [k1],(grow_head d its).trans k2,⟨hne,k3⟩,b1⟩
               cases e with
               | normal =>
                 simp only at k4
                 obtain ⟨z,z1,z2,z3⟩:=toHead_run k4
                 cases z3
               | exit i=>exact fin (by simp) k4
               | goto l=>exact fin (by simp) k4
               | ret=>exact fin (by simp) k4
               | panic ch=>exact fin (by simp) k4
               | outgrown=>exact fin (by simp) k4
             | step hs hrest ihr =>
               obtain ⟨τ,g,s',e,d',F',k1,k2,k3,k4⟩:=ihn _ f N _ a _ (headD d its) F _ _ _ hp0 (keep_grow hk (grow_head d its)) hs
               cases e with
               | normal =>
                 simp only at k4
                 obtain ⟨z,z1,z2,z3⟩:=toHead_run k4
                 cases z3
                 have ht:=packX_tells (N:=N) ((grow_head d its).trans k2) z1 z2 hk
                 simp only [k1] at ht
                 obtain ⟨τ2,g2,s2,e2,d2,F2,m,m1,m2,m3,m4⟩:=ihr hb
                 exact ⟨τ2,g2,s2,e2,d2,F2,m+1,m1,m2,⟨_,_,k3,ht,m3⟩,m4⟩
               | exit i=>obtain ⟨b',_,hb'⟩:=out_run k4;cases hb'
               | goto l=>obtain ⟨b',_,hb'⟩:=out_run k4;cases hb'
               | ret=>obtain ⟨b',_,hb'⟩:=out_run k4;cases hb'
               | panic ch=>obtain ⟨b',_,hb'⟩:=out_run k4;cases hb'
               | outgrown=>obtain ⟨b',_,hb'⟩:=out_run k4;cases hb'
            obtain ⟨τ,g,s',e,d',F',k,k1,k2,k3,k4⟩:=key _ hr
            exact ⟨τ,g,s',e,d',F',k1,k2,aw_tells t0 (to_loop k3),k4⟩
     | rangeFunc _ _ _ _=>simp only [sx] at h;rw [TR.run] at h;cases h
     | goto _=>simp only [sx] at h;rw [TR.run] at h;cases h
     | refuse _=>simp only [sx] at h;rw [TR.run] at h;cases h
end
theorem datC_th {σ:Type}:∀(cs:List CS) (vs:List (SV σ)),datC cs=true→thCs cs vs=[]
 | [],_,_=>rfl
 | .dat u::cs,[],_=>rfl
 | .dat u::cs,v::vs,h=>by rw [thCs,datC_th cs vs h];rfl
theorem datC_oCs:∀(cs:List CS) (x:(uCs cs).T),datC cs=true→oCs cs x=[]
 | [],_,_=>rfl
 | .dat u::cs,x,h=>by rw [oCs,datC_oCs cs _ h];rfl
theorem datC_pt:∀(cs:List CS),datC cs=true→ptRefs cs=[]
 | [],_=>rfl
 | .dat u::cs,h=>datC_pt cs h
section
variable {σ:Type} {s:σ} {rd:Nat→Option (SO σ)}
theorem pkCs_end {cs:List CS} {vs:List (SV σ)} {p:PK σ (uCs cs).T} (hd:datC cs=true) (hp:pkCs rd cs vs=some p) (hc:allT s p.cs):WkL (fun _=>none) (rdc s rd) (lookF []) (aCs cs (p.f s)) (cL s vs) :=
 (pkCs_wk cs vs p hp hc (fun x _ r' hr=>by cases hr) (fun x hx=>by rw [datC_th cs vs hd] at hx;cases hx) (fun x hx=>by rw [datC_oCs cs _ hd] at hx;cases hx) (fun r hr=>by rw [datC_pt cs hd] at hr;cases hr)).1
theorem pkArgs_wk:∀(ai:List IT) (vs:List (SV σ)) (p:PK σ (uIs ai).T),allDat ai=true→pkArgs rd ai vs=some p→allT s p.cs →
 WkL (fun _=>none) (rdc s rd) (lookF []) ((aTs ai (p.f s)).map (·.2)) (cL s vs)
 | [],[],p,hd,hp,hc=>by
   rw [cL]
   show WkL _ _ _ [] []
   rw [WkL]
 | .tmp t false cs::l,v::vs,p,hd,hp,hc=>by
   rw [pkArgs] at hp
   rw [allDat,Bool.and_eq_true] at hd
   split at hp
   ·rename_i x y hx hy
    cases hp
    rw [allT_append] at hc
    have e1:pfst (uI (.tmp t false cs)) (uIs l) (pmk (uCs cs) (uIs l) (x.f s) (y.f s))=x.f s:=pfst_mk _ _ _ _
    have e2:psnd (uI (.tmp t false cs)) (uIs l) (pmk (uCs cs) (uIs l) (x.f s) (y.f s))=y.f s:=psnd_mk _ _ _ _
    have hA:=pkCs_end hd.1 hx hc.1
    have hB:=pkArgs_wk l vs y hd.2 hy hc.2
    rw [cL,cL] at hA
    rw [cL]
    simp only [aTs,e1,e2,List.map_append]
    show WkL _ _ _ (one1A (aCs cs (x.f s))::(aTs l (y.f s)).map (·.2)) _
    rw [WkL]
    refine ⟨_,_,rfl,?_,hB⟩
    generalize aCs cs (x.f s)=ys at hA ⊢
    cases ys with
    | nil=>rw [WkL] at hA;cases hA
    | cons y ys =>
      rw [WkL] at hA
      obtain ⟨x,xs,h1,h2,h3⟩:=hA
      cases h1
      cases ys with
      | nil=>exact h2
      | cons z zs=>rw [WkL] at h3;obtain ⟨_,_,h4,_⟩:=h3;cases h4
   ·cases hp
 | .tmp t true cs::l,v::vs,p,hd,hp,hc=>by
   rw [allDat,Bool.and_eq_true] at hd
   cases v with
   | agg ws =>
     simp only [pkArgs] at hp
     split at hp
     ·rename_i x y hx hy
      cases hp
      rw [allT_append] at hc
      have e1:pfst (uI (.tmp t true cs)) (uIs l) (pmk (uCs cs) (uIs l) (x.f s) (y.f s))=x.f s:=pfst_mk _ _ _ _
      have e2:psnd (uI (.tmp t true cs)) (uIs l) (pmk (uCs cs) (uIs l) (x.f s) (y.f s))=y.f s:=psnd_mk _ _ _ _
      have hA:=pkCs_end hd.1 hx hc.1
      have hB:=pkArgs_wk l vs y hd.2 hy hc.2
      rw [cL]
      simp only [aTs,e1,e2,List.map_append]
      show WkL _ _ _ (.agg (aCs cs (x.f s))::(aTs l (y.f s)).map (·.2)) _
      rw [WkL]
      refine ⟨_,_,rfl,?_,hB⟩
      rw [SV.c,WkV]
      exact ⟨_,rfl,hA⟩
     ·cases hp
   | _=>simp only [pkArgs] at hp;cases hp
 | [],_::_,p,_,hp,_=>by cases hp
 | .tmp _ true _::_,[],p,_,hp,_=>by cases hp
 | .tmp _ false _::_,[],p,_,hp,_=>by cases hp
 | .mix _ _::_,_,p,hd,_,_=>by cases hd
 | .row _ _ _::_,_,p,hd,_,_=>by cases hd
 | .arr _ _::_,_,p,hd,_,_=>by cases hd
 | .mp _::_,_,p,hd,_,_=>by cases hd
 | .drop _::_,_,p,hd,_,_=>by cases hd
 | .dead _::_,_,p,hd,_,_=>by cases hd
end
def seqI:Nat→List IT→Bool
 | _,[]=>true
 | i,.tmp t _ _::l=>decide (t=i)&&seqI (i+1) l
 | _,_=>false
theorem seqI_arg:∀(ai:List IT) (i:Nat) (x:(uIs ai).T),seqI i ai=true→aTs ai x=argTm i ((aTs ai x).map (·.2))
 | [],i,x,_=>rfl
 | .tmp t true cs::l,i,x,h=>by
   rw [seqI,Bool.and_eq_true] at h
   have ht:=of_decide_eq_true h.1
   subst ht
   show (t,AV.agg _)::aTs l _=argTm t (AV.agg _::(aTs l _).map (·.2))
   rw [argTm,←seqI_arg l (t+1) _ h.2]
 | .tmp t false cs::l,i,x,h=>by
   rw [seqI,Bool.and_eq_true] at h
   have ht:=of_decide_eq_true h.1
   subst ht
   show (t,one1A _)::aTs l _=argTm t (one1A _::(aTs l _).map (·.2))
   rw [argTm,←seqI_arg l (t+1) _ h.2]
def shapeB (fn:Func) (ai ri:List IT):Bool:=(allDat ai&&allDat ri)&&(seqI 0 ai&&decide (ai.length≤fn.ntmps))
theorem aTs_len:∀(ai:List IT) (x:(uIs ai).T),allDat ai=true→(aTs ai x).length=ai.length
 | [],_,_=>rfl
 | .tmp t true cs::l,x,h=>by
   rw [allDat,Bool.and_eq_true] at h
   show (aTs l _).length+1=_
   rw [aTs_len l _ h.2];rfl
 | .tmp t false cs::l,x,h=>by
   rw [allDat,Bool.and_eq_true] at h
   show (aTs l _).length+1=_
   rw [aTs_len l _ h.2];rfl
section
variable {P:Program} {L:List (List (Option TI))} {cs:List Nat} {con:Nat→Option CE} {plan:Nat→Option PL} {eg:Nat→Bool}
theorem tree_ok (K:Facts P L cs) {l:List (Nat×Func)} (hl:TabOk P l) (hcon:∀f E,con f=some E→ConOk P (f % 1000000000) E) {f:Nat} {fn:Func} (hf:P.funcs[f]? = some fn) (hfn:fnOk P f=true) {ai ri:List IT} (hsh:shapeB fn ai ri=true) (n:Nat)
 {G:(uIs ai).T→Option (uIs ri).T} (hG:∀a r,G a=some r→(treeF (tabF (tiOf P) L) (qOf cs) (tabOf l) con plan eg n f fn ai ri).run a=some r):ConOk P f ⟨ai,ri,G⟩:=by
 unfold shapeB at hsh
 rw [Bool.and_eq_true,Bool.and_eq_true,Bool.and_eq_true,decide_eq_true_eq] at hsh
 obtain ⟨⟨s1,s2⟩,s3,s4⟩:=hsh
 refine ConOk.mk hfn s1 s2 fun a r hr => ?_
 have hrun:=hG a r hr
 rw [←K.hT] at hrun
 unfold treeF at hrun
 split at hrun
 ·rename_i c hb
  obtain ⟨τ,g,s',e,d',F',h1,h2,h3,h4⟩:=sx_sound (plan:=plan) K.hq K.hdp K.hm hcon (tabOf_ok hl) n _ f fn.ntmps 1 c _ _ 0 _ a r (lookF []) (fun r hr=>by cases hr) hrun
  unfold endS at h4
  split at h4
  ·rw [TR.run] at h4;cases h4
  ·rename_i he
   split at h4
   ·rw [TR.run] at h4;cases h4
   ·rename_i xs hxs
    split at h4
    ·rename_i p hp
     obtain ⟨c1,c2⟩:=run_req h4
     rw [TR.run] at c2
     cases c2
     have hlen:((aTs ai a).map (·.2)).length≤fn.ntmps:=by rw [List.length_map,aTs_len ai a s1];exact s4
     have hst:(⟨headTs ai (fun s=>s),[]⟩:SS (uIs ai).T).c a fn.ntmps=⟨fn.ntmps,argTm 0 ((aTs ai a).map (·.2)),[]⟩:=by
      show (⟨fn.ntmps,cT a (headTs ai fun s=>s),[]⟩:SL)=_
      rw [headTs_c]
      exact congrArg (fun t=>(⟨fn.ntmps,t,[]⟩:SL)) (seqI_arg ai 0 a s3)
     rw [hst] at h3
     refine doesO_told hf hb hlen h3 he (resA_c hxs) (back_tell ?_)
     have hw:=pkArgs_wk (s:=s') ri xs p s2 hp c1
     rw [rdS_c s' fn.ntmps] at hw
     rw [oneOrTup_c]
     generalize cL s' xs=ys at hw
     generalize (aTs ri (p.f s')).map (·.2)=zs at hw
     have hw':WkL (fun _=>none) (lookF (d'.c s' fn.ntmps).hp) (lookF []) zs ys:=hw
     cases zs with
     | nil=>rw [WkL] at hw';subst hw';show WkV _ _ _ (.tup []) (.tup []);rw [WkV];exact ⟨[],rfl,by rw [WkL]⟩
     | cons z zs =>
       rw [WkL] at hw'
       obtain ⟨y,ys',rfl,k1,k2⟩:=hw'
       cases zs with
       | nil=>rw [WkL] at k2;subst k2;exact k1
       | cons z2 zs =>
         rw [WkL] at k2
         obtain ⟨y2,ys2,rfl,k3,k4⟩:=k2
         show WkV _ _ _ (.tup (z::z2::zs)) (.tup (y::y2::ys2))
         rw [WkV]
         exact ⟨_,rfl,by rw [WkL];exact ⟨y,_,rfl,k1,by rw [WkL];exact ⟨y2,ys2,rfl,k3,k4⟩⟩⟩
    ·rw [TR.run] at h4;cases h4
 ·rw [TR.run] at hrun;cases hrun
theorem argTm_of:∀(l:List (Nat×AV)) (i:Nat),l.map (·.1)=List.range' i l.length→l=argTm i (l.map (·.2))
 | [],_,_=>rfl
 | x::l,i,h=>by
   rw [List.map_cons,List.length_cons,List.range'_succ] at h
   injection h with h1 h2
   rw [List.map_cons,argTm,←argTm_of l (i+1) h2,←h1]
def shapeS (fn:Func) (ai ri:List IT):Bool:=(isNat 0 (covT ai)&&decide ((covT ai).length≤fn.ntmps))&&(isNat 0 (covT ri)&&decide ((covT ri).length=fn.results.size))
theorem covT_len (l:List IT) (x:(uIs l).T):(aTs l x).length=(covT l).length:=by rw [←aTs_keys l x,List.length_map]
theorem tree_okS (K:Facts P L cs) {l:List (Nat×Func)} (hl:TabOk P l) (hcon:∀f E,con f=some E→ConOk P (f % 1000000000) E) {f:Nat} {fn:Func} (hf:P.funcs[f]? = some fn) (hfn:fnOk P f=true) {ai ri:List IT} (hsh:shapeS fn ai ri=true) (n:Nat)
 {G:(uIs ai).T→Option (uIs ri).T} (hG:∀a r,G a=some r→(treeS (tabF (tiOf P) L) (qOf cs) (tabOf l) con plan eg n f fn ai ri).run a=some r):ConS P f ⟨ai,ri,G⟩:=by
 unfold shapeS at hsh
 rw [Bool.and_eq_true,Bool.and_eq_true,Bool.and_eq_true,decide_eq_true_eq,decide_eq_true_eq] at hsh
 obtain ⟨⟨s1,s2⟩,s3,s4⟩:=hsh
 refine ⟨hfn,fun a r hr => ?_⟩
 have hrun:=hG a r hr
 rw [←K.hT] at hrun
 unfold treeS at hrun
 split at hrun
 ·rename_i c hb
  have hO:cO a (headHs ai (fun s=>s))=aHs ai a:=headHs_c a ai _
  have hk0:∀r,((lookF (aHs ai a)) r).isSome=true→(look r (⟨headTs ai (fun s=>s),headHs ai (fun s=>s)⟩:SS (uIs ai).T).hp).isSome=true:=fun r hr=>by
   unfold lookF at hr
   rw [←hO,look_cO] at hr
   show (look r (headHs ai (fun s=>s))).isSome=true
   cases hl:look r (headHs ai (fun s:(uIs ai).T=>s)) with
   | none=>rw [hl] at hr;cases hr
   | some o=>rfl
  obtain ⟨τ,g,s',e,d',F',g1,g2,g3,g4⟩:=sx_sound (plan:=plan) K.hq K.hdp K.hm hcon (tabOf_ok hl) n _ f fn.ntmps 1 c _ _ 0 _ a r (lookF (aHs ai a)) hk0 hrun
  unfold endO at g4
  split at g4
  ·rw [TR.run] at g4;cases g4
  ·rename_i he
   split at g4
   ·rw [TR.run] at g4;cases g4
   ·rename_i xs hxs
    split at g4
    ·rename_i p hp
     obtain ⟨c1,c2⟩:=run_req g4
     rw [TR.run] at c2
     cases c2
     have hlen:((aTs ai a).map (·.2)).length≤fn.ntmps:=by rw [List.length_map,covT_len];exact s2
     have hst:(⟨headTs ai (fun s=>s),headHs ai (fun s=>s)⟩:SS (uIs ai).T).c a fn.ntmps=⟨fn.ntmps,argTm 0 ((aTs ai a).map (·.2)),aHs ai a⟩:=by
      show (⟨fn.ntmps,cT a (headTs ai fun s=>s),cO a (headHs ai fun s=>s)⟩:SL)=_
      rw [headTs_c,hO]
      refine congrArg (fun t=>(⟨fn.ntmps,t,aHs ai a⟩:SL)) (argTm_of _ 0 ?_)
      rw [aTs_keys,isNat_eq s1,covT_len]
     rw [hst] at g3
     have hrs:xs.length=fn.results.size:=by have:=(resSL_c (s:=s') (N:=fn.ntmps) _ _ hxs).2;rw [this,Array.length_toList]
     have hgr:Grow (⟨[],headHs ai (fun s=>s)⟩:SS (uIs ai).T) g (⟨argS 0 xs,d'.hp⟩:SS τ):=⟨⟨argS 0 xs,(List.append_nil _).symm⟩,g2.hp⟩
     obtain ⟨θ,q1,q2,q3⟩:=packX_core (N:=fn.ntmps) hgr hp c1
     rw [g1] at q1 q2 q3
     have hH:((headD (⟨[],headHs ai (fun s=>s)⟩:SS (uIs ai).T) ri).c (a,p.f s') fn.ntmps).hp=aHs ri (p.f s')++aHs ai a:=by
      show cO (a,p.f s') (headHs ri Prod.snd++mapO Prod.fst (headHs ai (fun s=>s)))=_
      rw [cO_append,headHs_c,mapOs_c,hO]
     have hT:((headD (⟨[],headHs ai (fun s=>s)⟩:SS (uIs ai).T) ri).c (a,p.f s') fn.ntmps).tm=aTs ri (p.f s'):=by
      show cT (a,p.f s') (headTs ri Prod.snd++mapT Prod.fst [])=_
      rw [show mapT (Prod.fst:(uIs ai).T×(uIs ri).T→(uIs ai).T) []=[] from rfl,List.append_nil,headTs_c]
     have hR:((headD (⟨[],headHs ai (fun s=>s)⟩:SS (uIs ai).T) ri).c (a,p.f s') fn.ntmps).rd=lookF (aHs ri (p.f s')++aHs ai a):=by
      unfold SL.rd lookF;rw [hH]
     rw [hR] at q1 q2 q3
     rw [hT] at q3
     refine doesO_told hf hb hlen g3 he (resA_c hxs) ⟨θ,fun r o ho => ?_,q2,?_⟩
     ·exact q1 r (hk0 r (by unfold lookF;rw [ho];rfl))
     ·rw [oneOrTup_c]
      refine tup_wk (args_wk _ _ 0 ?_ fun x hx => ?_)
      ·rw [aTs_keys,isNat_eq s3,cL_length,s4,hrs]
      ·have hnd:((aTs ri (p.f s')).map (·.1)).Nodup:=by rw [aTs_keys,isNat_eq s3];exact List.nodup_range'
       have:=q3 x.1 x.2 (look_nd hnd hx)
       unfold SL.get at this
       rw [show (SS.c s' fn.ntmps (⟨argS 0 xs,d'.hp⟩:SS τ)).tm=argTm 0 (cL s' xs) from argS_c s' 0 xs] at this
       rw [look_argTm] at this
       simp only [Nat.zero_le,if_true,Nat.sub_zero] at this
       exact this
    ·split at g4
     ·rw [TR.run] at g4;cases g4
     ·exact (note_run g4).elim
 ·rw [TR.run] at hrun;cases hrun
theorem conS_ok {f:Nat} {E:CE} (h:ConS P f E) (hd:datE E=false):ConOk P f E:=by
 unfold ConOk;rw [hd];exact h
end
end Go.Proofs.Ytkpijdndakljjaa
namespace Go.Proofs.Ytkpijdndakljjaa
open Go.ChangeShapes Go.WideShapes Go.Deep Go.RowKit
def WfU:(u:U)→u.T→Prop
 | .int k,n=>(Lit.int k n).wf=true
 | .bool,_=>True
 | .str,s=>s.length≤maxLen
 | .list t,l=>l.length≤maxLen∧∀x∈l,WfU t x
 | .pair a b,p=>WfU a p.1∧WfU b p.2
 | .unit,_=>True
def WfC:(c:CS)→(uC c).T→Prop
 | .dat u,x=>WfU u x
 | _,_=>True
def WfCs:(cs:List CS)→(uCs cs).T→Prop
 | [],_=>True
 | c::cs,x=>WfC c (pfst (uC c) (uCs cs) x)∧WfCs cs (psnd (uC c) (uCs cs) x)
def WfI:(i:IT)→(uI i).T→Prop
 | .tmp _ _ cs,x=>WfCs cs x
 | _,_=>True
def WfIs:(l:List IT)→(uIs l).T→Prop
 | [],_=>True
 | i::l,x=>WfI i (pfst (uI i) (uIs l) x)∧WfIs l (psnd (uI i) (uIs l) x)
theorem args_nil {E:En}:∃a:(uIs []).T,WfIs [] a∧RelL E ((aTs [] a).map (·.2)) []:=⟨(),trivial,by show RelL E [] [];rw [RelL]⟩
section
variable {H:Type} {ec:TypeId×Value→H} {P:Program} {W:World} {base:Nat} {spare:Nat→Bool} {held:Bool} {T:Ty} {m t j:Nat} {v:Value} {d:DataW H} {ps:List MemPlace}
end
def planOf (l:List (Nat×PL)) (p:Nat):Option PL:=lookQ p l
def egNo:Nat→Bool:=fun _=>false
def egAll:Nat→Bool:=fun _=>true
def conOf (l:List (Nat×CE)) (f:Nat):Option CE:=lookQ f l
def ConL (P:Program):List (Nat×CE)→Prop
 | []=>True
 | (f,E)::l=>ConOk P (f % 1000000000) E∧ConL P l
theorem conOf_ok {P:Program} {l:List (Nat×CE)} (h:ConL P l):∀f E,conOf l f=some E→ConOk P (f % 1000000000) E:=by
 intro f E hE
 unfold conOf at hE
 rw [lookQ_eq] at hE
 induction l with
 | nil=>cases hE
 | cons x l ih =>
   obtain ⟨k,E'⟩:=x
   rw [look] at hE
   split at hE
   ·rename_i hk;subst hk;cases hE;exact h.1
   ·exact ih h.2 hE
def riB:List IT:=[.tmp 0 false [.dat .bool]]
theorem law_con {P:Program} {f:Nat} {ai:List IT} {G:(uIs ai).T→Option Bool} (h:ConOk P f ⟨ai,riB,G⟩) {a:(uIs ai).T} (hG:G a=some true) (hd:allDat ai=true:=by rfl):DoesO P noG f ((aTs ai a).map (·.2)) [] (aBool true) []:=by
 unfold ConOk at h
 have e:datE ⟨ai,riB,G⟩=true:=by unfold datE;rw [hd];rfl
 rw [e] at h
 exact h.2 a true hG
def bindO {α β:Type} (x:Option α) (f:α→Option β):Option β:=match x with | some a=>f a | none=>none
def joinO {α β:Type} (x:Option (α ⊕ β)) (f:α→Option β):Option β:=match x with | some (.inl u)=>f u | some (.inr x)=>some x | none=>none
def outO {α β:Type} (x:Option β):Option (α ⊕ β):=match x with | some b=>some (.inr b) | none=>none
end Go.Proofs.Ytkpijdndakljjaa
