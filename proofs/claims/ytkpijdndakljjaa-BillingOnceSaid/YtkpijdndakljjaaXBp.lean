import Derived.Test.YtkpijdndakljjaaXAp
import Derived.Test.YtkpijdndakljjaaHBp
set_option linter.unusedSimpArgs false
set_option linter.unusedVariables false
namespace Go.Proofs.Ytkpijdndakljjaa
open Go.RowKit
structure GT where
 t:U
 l:List t.T
def gTab (_:Nat):Option GT:=none
inductive yZ {υ β:Type} (body:υ->Option (υ ⊕ β)):υ->β->Prop where
 | done {x b} (h:body x=some (.inr b)):yZ body x b
 | step {x y b} (h:body x=some (.inl y)) (k:yZ body y b):yZ body x b
theorem yZ.det {υ β:Type} {body:υ->Option (υ ⊕ β)} {x:υ} {b c:β} (h:yZ body x b):yZ body x c->b=c:=by
 induction h with
 | done h =>
   intro k;cases k with
   | done h'=>rw [h] at h';cases h';rfl
   | step h' _=>rw [h] at h';cases h'
 | step h _ ih =>
   intro k;cases k with
   | done h'=>rw [h] at h';cases h'
   | step h' k'=>rw [h] at h';cases h';exact ih k'
open Classical in
noncomputable def ay {υ β:Type} (body:υ->Option (υ ⊕ β)) (x:υ):Option β :=
 if h:∃b,yZ body x b then some (Classical.choose h) else none
theorem pI {υ β:Type} {body:υ->Option (υ ⊕ β)} {x:υ} {b:β}:ay body x=some b↔yZ body x b:=by
 unfold ay;constructor
 ·intro h;split at h
  ·rename_i hx;cases h;exact Classical.choose_spec hx
  ·cases h
 ·intro h;rw [dif_pos ⟨b,h⟩];exact congrArg some ((Classical.choose_spec (⟨b,h⟩:∃b,yZ body x b)).det h)
theorem dR {υ β:Type} (body:υ->Option (υ ⊕ β)) (x:υ):ay body x=match body x with
 | some (.inl y)=>ay body y
 | some (.inr b)=>some b
 | none=>none:=by
 cases h:body x with
 | none =>
   unfold ay;rw [dif_neg];rintro ⟨b,k⟩;cases k with
   | done h'=>rw [h] at h';cases h'
   | step h' _=>rw [h] at h';cases h'
 | some r =>
   cases r with
   | inr b=>exact pI.2 (.done h)
   | inl y =>
     simp only;cases hy:ay body y with
     | some b=>exact pI.2 (.step h (pI.1 hy))
     | none =>
       unfold ay;rw [dif_neg];rintro ⟨b,k⟩;cases k with
       | done h'=>rw [h] at h';cases h'
       | step h' k'=>rw [h] at h';cases h';rw [pI.2 k'] at hy;cases hy
inductive VI where
 | u (u:U) | own (r e:Nat) (u:U) | nil | np | pt (r off:Nat) | cl (f:Nat) (caps:List (Nat×Nat)) | agg (l:List VI) | junk
inductive OI where
 | mix (l:List VI) | row (e:Nat) (u:U) (wr:Bool) | arr (u:U) | mp | dead
structure NI where
 p:Nat
 kind:Nat
 tms:List (Nat×VI)
 hps:List (Nat×OI)
 tm0:List (Nat×VI)
 hp0:List (Nat×OI)
inductive TR:Type->Type->Type 1 where
 | ret {β σ:Type} (f:σ->β):TR β σ
 | fail {β σ:Type} (msg:String):TR β σ
 | bad {β σ:Type} (is:List Nat) (msg:String):TR β σ
 | note {β σ:Type} (n:NI):TR β σ
 | req {β σ:Type} (c:List (σ->Bool)) (r:TR β σ):TR β σ
 | bnd {β σ α:Type} (f:σ->Option α) (r:TR β (σ×α)):TR β σ
 | iff {β σ:Type} (c:σ->Bool) (t e:TR β σ):TR β σ
 | join {β σ υ:Type} (a:TR (υ ⊕ β) σ) (b:TR β (σ×υ)):TR β σ
 | loop {β σ υ:Type} (x0:σ->υ) (body:TR (υ ⊕ β) (σ×υ)):TR β σ
 | out {β σ υ:Type} (t:TR β σ):TR (υ ⊕ β) σ
def allB {σ:Type} (s:σ):List (σ->Bool)->Bool
 | []=>true
 | [c]=>c s
 | c::cs=>c s&&allB s cs
theorem Uh {σ:Type} (s:σ):∀cs:List (σ->Bool),allB s cs=true↔allT s cs
 | []=>by simp [allB,allT]
 | [c]=>by simp [allB,allT]
 | c::d::cs=>by
   rw [allB,allT,Bool.and_eq_true,Uh s (d::cs)];intro h;cases h
noncomputable def TR.run:{β σ:Type}->TR β σ->σ->Option β
 | _,_,.ret f,s=>some (f s)
 | _,_,.fail _,_=>none
 | _,_,.bad _ _,_=>none
 | _,_,.note _,_=>none
 | _,_,.req c r,s=>bif allB s c then r.run s else none
 | _,_,.bnd f r,s=>match f s with | some a=>r.run (s,a) | none=>none
 | _,_,.iff c t e,s=>bif c s then t.run s else e.run s
 | _,_,.join a b,s=>match a.run s with
   | some (.inl u)=>b.run (s,u)
   | some (.inr x)=>some x
   | none=>none
 | _,_,.loop x0 body,s=>ay (fun u=>body.run (s,u)) (x0 s)
 | _,_,.out t,s=>match t.run s with | some b=>some (.inr b) | none=>none
def Em {β σ:Type} (cs:List (σ->Bool)) (t:TR β σ):TR β σ:=match cs with | []=>t | cs => .req cs t
theorem rF {β σ:Type} {cs:List (σ->Bool)} {t:TR β σ} {s:σ} {b:β} (h:(Em cs t).run s=some b):allT s cs/\t.run s=some b:=by
 unfold Em at h;split at h
 ·exact ⟨trivial,h⟩
 ·rw [TR.run] at h;cases hc:allB s cs with
  | true=>rw [hc] at h;exact ⟨(Uh s cs).1 hc,h⟩
  | false=>rw [hc] at h;cases h
def HR.thn {β:Type}:{σ:Type}->HR σ->(SV σ->List (Nat×SO σ)->TR β σ)->((τ:Type)->(τ->σ)->SV τ->List (Nat×SO τ)->TR β τ)->TR β σ
 | _,.ok v us,K0,_=>K0 v us
 | _,.req c r,K0,K=>Em c (r.thn K0 K)
 | _,.bnd f r,_,K => .bnd f (r.thn (fun v us=>K _ Prod.fst v us) (fun τ g v us=>K τ (fun t=>(g t).1) v us))
 | _,.fail m,_,_ => .fail m
 | _,.iff c t e,K0,K => .iff c (t.thn K0 K) (e.thn K0 K)
theorem HR.thn_c {β:Type} {b:β}:{σ:Type}->(h:HR σ)->{s:σ}->{x:Option (AV×List (Nat×AO))}->{K0:SV σ->List (Nat×SO σ)->TR β σ}->{K:(τ:Type)->(τ->σ)->SV τ->List (Nat×SO τ)->TR β τ} ->
 (h.thn K0 K).run s=some b->h.Ok s x ->
 (∃v us,x=some (v.c s,cO s us)/\(K0 v us).run s=some b)\/∃(τ:Type) (g:τ->σ) (s':τ) (v:SV τ) (us:List (Nat×SO τ)),g s'=s/\x=some (v.c s',cO s' us)/\(K τ g v us).run s'=some b
 | _,.ok v us,s,x,K0,K,hr,ho => .inl ⟨v,us,ho,hr⟩
 | _,.req c r,s,x,K0,K,hr,ho=>by
   rw [HR.thn] at hr;obtain ⟨h1,h2⟩:=rF hr;exact HR.thn_c r h2 (ho h1)
 | _,.bnd f r,s,x,K0,K,hr,ho=>by
   rw [HR.thn,TR.run] at hr;cases hf:f s with
   | none=>rw [hf] at hr;cases hr
   | some a =>
     rw [hf] at hr;rcases HR.thn_c r hr (ho a hf) with ⟨v,us,h1,h2⟩ | ⟨τ,g,s',v,us,h1,h2,h3⟩
     ·exact .inr ⟨_,Prod.fst,(s,a),v,us,rfl,h1,h2⟩
     ·exact .inr ⟨τ,fun t=>(g t).1,s',v,us,by show (g s').1=s;rw [h1],h2,h3⟩
 | _,.fail m,s,x,K0,K,hr,ho=>by rw [HR.thn,TR.run] at hr;cases hr
 | _,.iff c t e,s,x,K0,K,hr,ho=>by
   rw [HR.thn,TR.run] at hr;rw [HR.Ok] at ho;cases hc:c s with
   | true=>rw [hc] at hr ho;exact HR.thn_c t hr ho
   | false=>rw [hc] at hr ho;exact HR.thn_c e hr ho
section
variable {σ:Type}
def WI (v:Value):SV σ :=
 match v with
 | .agg cs=>match cs.toList.all (·.oneCell') with | true => .agg (cs.toList.map .val) | false => .junk
 | .tuple cs=>match cs.isEmpty with | true => .undef | false => .junk
 | v => .val v
theorem Ym (s:σ):∀l:List Value,cL s (l.map .val)=l.map fun c=>AV.d (.val c)
 | []=>rfl
 | x::l=>by rw [List.map_cons,cL,Ym s l,SV.c];rfl
theorem adB (s:σ) (v:Value):(WI v:SV σ).c s=FM v:=by
 unfold WI FM;split
 ·rename_i cs;show _=(if (cs.toList.all fun x=>x.oneCell')=true then AV.agg (cs.toList.map fun c => .d (.val c)) else .junk)
  cases h:(cs.toList.all fun x=>x.oneCell') with
  | true=>rw [if_pos rfl,SV.c,Ym]
  | false=>rw [if_neg (by simp),SV.c]
 ·rename_i cs;show _=(if cs.isEmpty=true then AV.undef else .junk)
  cases h:cs.isEmpty with
  | true=>rw [if_pos rfl,SV.c]
  | false=>rw [if_neg (by simp),SV.c]
 ·rename_i h1 h2;rw [SV.c];cases v<;>first | rfl | exact (h1 _ rfl).elim | exact (h2 _ rfl).elim
def xG (d:SS σ):Operand->SV σ
 | .tmp t=>match jI t d.tm with | some x=>x | none => .junk
 | .const v=>WI v
 | .global g=>match gTab g with | some x => .dpt x.t (fun _=>x.l) (fun _=>0) 0 | none => .junk
 | .func f=>match Nat.blt f 1048576 with | true => .clo f [] | false => .junk
def iY (g:Nat):Option (List DV):=(gTab g).map fun x=>aI x.t x.l
theorem Ui (s:σ) (N:Nat) (d:SS σ) (x:Operand):(xG d x).c s=(d.c s N).ev iY x:=by
 cases x with
 | tmp t =>
   show _=(d.c s N).get t;unfold xG SL.get SS.c;simp only [ql];rw [jR];cases look t d.tm with
   | none=>simp only [Option.map_none];rw [SV.c]
   | some x=>rfl
 | const v=>exact adB s v
 | global g =>
   show (match gTab g with | some x=>SV.dpt x.t (fun _=>x.l) (fun _=>0) 0 | none => .junk:SV σ).c s=(match (gTab g).map fun x=>aI x.t x.l with | some cells=>AV.dptr cells 0 | none => .junk)
   cases gTab g with
   | none=>rw [SV.c];rfl
   | some x=>rw [SV.c,Nat.zero_mul];rfl
 | func f =>
   show (match Nat.blt f 1048576 with | true=>SV.clo f [] | false => .junk:SV σ).c s=(match Nat.blt f 1048576 with | true=>AV.clo f [] | false => .junk)
   cases Nat.blt f 1048576 with
   | true=>rw [SV.c,cL]
   | false=>rw [SV.c]
def kS (d:SS σ) (r:Nat):Option (SO σ):=jI r d.hp
theorem mV (s:σ) (N:Nat) (d:SS σ):iL s (kS d)=(d.c s N).rd:=by
 funext r;unfold iL kS SL.rd SS.c;rw [jR];simp only [lu]
def adC (d:SS σ) (o:Option Nat) (v:SV σ):SS σ:=match o with | some t=>⟨(t,v)::d.tm,d.hp⟩ | none=>d
def I7 (d:SS σ) (o:Option Nat) (v:SV σ) (us:List (Nat×SO σ)):SS σ:=⟨(adC d o v).tm,us++d.hp⟩
theorem adD (s:σ) (N:Nat) (d:SS σ) (o:Option Nat) (v:SV σ):(adC d o v).c s N=(d.c s N).put o (v.c s):=by
 cases o<;>rfl
theorem akB (s:σ) (N:Nat) (d:SS σ) (o:Option Nat) (v:SV σ) (us:List (Nat×SO σ)):(I7 d o v us).c s N=(d.c s N).app o (v.c s) (cO s us):=by
 unfold I7 SL.app;rw [<-adD];unfold SS.c;simp only [dJ]
structure EN where
 ks:List Nat
 rds:List Nat
 lvs:List Nat
 chg:List Nat
def QB (e:Ef):EN:=⟨xg e,e.rds,e.lvs,e.chg⟩
def kM (r:Nat):List Nat->Bool
 | []=>false
 | x::l=>match decide (r=x) with | true=>true | false=>kM r l
theorem Eo (r:Nat):∀l:List Nat,kM r l=l.contains r
 | []=>rfl
 | x::l=>by
   rw [kM,List.contains_cons,Eo r l];by_cases h:r=x
   ·subst h;simp
   ·rw [decide_eq_false h];simp [h]
def F6 (a b:List Nat):Bool:=a.all fun r => !kM r b
def ncN (x y:EN):Bool:=(F6 x.ks y.rds&&F6 x.ks y.ks)&&(F6 x.chg y.lvs&&(F6 y.ks x.rds&&F6 y.chg x.lvs))
theorem Yn {α:Type} (p q:α->Bool):∀l:List α,l.all (fun r=>p r&&q r)=(l.all p&&l.all q)
 | []=>rfl
 | x::l=>by rw [List.all_cons,List.all_cons,List.all_cons,Yn p q l];cases p x<;>cases q x<;>cases l.all p<;>rfl
theorem akC (x y:Ef):ncN (QB x) (QB y)=VK x y:=by
 unfold ncN VK F6 QB;simp only [Eo,Yn,Bool.and_assoc]
def WJ (ops:Array Oper) (anc:List Nat) (o:Oper) (e:EN) (log:List (Nat×EN)):Bool :=
 log.all fun x=>kM x.1 anc||match ops[x.1]? with | some oj=>oj.apart ops o&&ncN x.2 e | none=>false
theorem adE (ops:Array Oper) (anc:List Nat) (o:Oper) (e:Ef) (log:List (Nat×Ef)):WJ ops anc o (QB e) (log.map fun x=>(x.1,QB x.2))=yU ops anc o e log:=by
 unfold WJ yU;rw [List.all_map];congr 1;funext x;simp only [Function.comp,Eo];cases ops[x.1]? with
 | none=>rfl
 | some oj=>simp only [akC]
def bM:List (Nat×SO σ)->List Nat
 | []=>[]
 | (r,_)::l=>r::bM l
theorem Uj (s:σ):∀us:List (Nat×SO σ),(cO s us).map (·.1)=bM us
 | []=>rfl
 | (r,o)::l=>by rw [cO,List.map_cons,bM,Uj s l]
def Kz (x:Option (SO σ)) (o:SO σ):Bool :=
 match x with
 | none=>false
 | some x=>match x.kind,o.kind with
   | .data a,.data b=>decide (a=b)
   | .mix,.mix=>true
   | .mp,.mp=>true
   | .dead,.dead=>true
   | _,_=>false
theorem adF (s:σ) (x:Option (SO σ)) (o:SO σ):H9 (x.map (·.c s)) (o.c s)=Kz x o:=by
 unfold H9 Kz;cases x with
 | none=>rfl
 | some x =>
   simp only [Option.map_some];cases x<;>cases o<;>simp [SO.c,SO.kind]<;>rfl
def uY (rd:Nat->Option (SO σ)):List (Nat×SO σ)->List Nat
 | []=>[]
 | (r,o)::l=>match Kz (rd r) o with | true=>uY rd l | false=>r::uY rd l
theorem Yo (s:σ) (rd:Nat->Option (SO σ)):∀us:List (Nat×SO σ),sS (iL s rd) (cO s us)=uY rd us
 | []=>rfl
 | (r,o)::l=>by
   have ih:=Yo s rd l;unfold sS at ih ⊢;rw [cO,List.filter_cons,uY];simp only;rw [show H9 (iL s rd r) (o.c s)=Kz (rd r) o from adF s (rd r) o];cases h:Kz (rd r) o with
   | true=>simpa using ih
   | false=>simp [ih]
end
inductive WG (σ:Type):Type where
 | yes | no | dyn (t:Nat) (f:σ->Bool) (want:Bool) | bad
section
variable {σ:Type}
def adG (ops:Array Oper) (d:SS σ) (o:Oper):WG σ :=
 match o.guard with
 | none => .yes
 | some (j,want)=>match ops[j]? with
   | none => .no
   | some oj=>match oj.dst with
     | none => .no
     | some t=>match jI t d.tm with
       | some (.val (.bool b))=>match b,want with
         | true,true => .yes
         | false,false => .yes
         | _,_ => .no
       | some (.bool f) => .dyn t f want
       | some .undef => .no
       | _ => .bad
def WG.Ok (s:σ) (N:Nat) (d:SS σ) (x:Option Bool):WG σ->Prop
 | .yes=>x=some true
 | .no=>x=some false
 | .dyn t f want=>x=some (f s==want)/\(d.c s N).get t=eu (f s)
 | .bad=>True
def CZ (d:SS σ) (t:Nat) (b:Bool):SS σ:=⟨(t,.val (.bool b))::d.tm,d.hp⟩
theorem QC {s:σ} {N:Nat} {d:SS σ} {t:Nat} {b:Bool} (h:(d.c s N).get t=eu b):((CZ d t b).c s N).S=(d.c s N).S:=by
 unfold SL.S;have:((CZ d t b).c s N).get=(d.c s N).get:=by
  funext k;unfold SL.get;show (match look k ((t,(SV.val (.bool b):SV σ).c s)::cT s d.tm) with | some x=>x | none=>AV.junk)=_;rw [look];by_cases hk:t=k
  ·subst hk;rw [if_pos rfl,SV.c];exact h.symm
  ·rw [if_neg hk];rfl
 rw [this];rfl
theorem agy (s:σ) (N:Nat) (ops:Array Oper) (d:SS σ) (o:Oper):(adG ops d o).Ok s N d (tN ops (d.c s N) o):=by
 unfold adG tN;cases o.guard with
 | none=>rfl
 | some p =>
   obtain ⟨j,want⟩:=p;simp only;cases ops[j]? with
   | none=>rfl
   | some oj =>
     simp only [Option.bind_some];cases oj.dst with
     | none=>rfl
     | some t =>
       simp only;have he:(d.c s N).get t=match jI t d.tm with | some v=>v.c s | none => .junk:=by
        unfold SL.get SS.c;simp only [ql];rw [jR];cases look t d.tm<;>rfl
       rw [he];cases hlq:jI t d.tm with
       | none=>trivial
       | some v =>
         cases v with
         | val v=>cases v with
           | bool b=>simp only [SV.c];cases b<;>cases want<;>rfl
           | _=>trivial
         | bool f =>
           refine ⟨?_,?_⟩
           ·simp only [SV.c,eu]
           ·rw [he,hlq];simp only [SV.c]
         | undef=>simp only [SV.c];rfl
         | _=>trivial
def adH (ρ:Operand->SV σ) (o:Oper):Option (Nat×List (SV σ)) :=
 match o.op with
 | .call c=>match c.callee with
   | .value x=>match ρ x with
     | .clo f caps=>some (f % 1048576,caps.take (f / 1048576)++(c.args.toList.map ρ++caps.drop (f / 1048576)))
     | _=>none
   | _=>none
 | _=>none
def WL (o:Oper):Bool :=
 match o.op with
 | .call c=>match c.callee with
   | .value _=>false
   | _=>true
 | _=>true
theorem agz (s:σ) (ρ:Operand->SV σ) (o:Oper) {f:Nat} {args:List (SV σ)} (h:adH ρ o=some (f,args)):vU (fun x=>(ρ x).c s) o=some (f,cL s args):=by
 unfold adH at h;unfold vU;split at h
 ·rename_i c hc;rw [hc];simp only;split at h
  ·rename_i x hx;rw [hx];simp only;split at h
   ·rename_i g caps hv;cases h;rw [hv,SV.c];simp only;rw [pG,pG,Jf,Je,qO]
   ·cases h
  ·cases h
 ·cases h
theorem adI (ρ:Operand->AV) (o:Oper) (h:WL o=true):vU ρ o=none:=by
 unfold WL at h;unfold vU;split at h
 ·rename_i c hc;rw [hc];simp only;split at h
  ·cases h
  ·rename_i hx;split
   ·rename_i x hx';exact (hx x hx').elim
   ·rfl
 ·rename_i hc;split
  ·rename_i c hc';exact (hc c hc').elim
  ·rfl
def Yp (T:Ty) (o:Oper):Bool :=
 match o.op with
 | .alloc _=>true
 | .box _ _=>true
 | .buildSlice _ _ _=>true
 | .load _ _=>true
 | .store _ _ _=>true
 | .makeSlice _ _ _=>true
 | .makeMap _ _=>true
 | .lookup _ _ _ _=>true
 | .mapUpdate _ _ _ _=>true
 | .convert src dst _=>match T src,T dst with
   | some si,some di=>match si.k,di.k with | .slice _,.str=>true | _,_=>false
   | _,_=>false
 | .call c=>match c.callee with | .builtin .append=>true | .builtin .copy=>true | _=>false
 | _=>false
theorem agA (T:Ty) (q:Nat->Bool) (lk:Nat->Option AK) (o:Oper) (ρ:Operand->AV) (h:Yp T o=true):Ci T q lk o ρ=none:=by
 unfold Yp at h;unfold Ci;cases ho:o.op with
 | convert src dst x =>
   rw [ho] at h;simp only at h ⊢;split at h
   ·rename_i si di h1 h2;split at h
    ·rename_i h3 h4;simp only [h1,h2,h3,h4]
    ·cases h
   ·cases h
 | call c =>
   rw [ho] at h;simp only at h ⊢;split at h
   ·rename_i hc;simp only [hc];split<;>rfl
   ·rename_i hc;simp only [hc];split<;>rfl
   ·cases h
 | alloc t=>rfl
 | box t x=>rfl
 | buildSlice t n parts=>rfl
 | load t x=>rfl
 | store t x y=>rfl
 | makeSlice t l c=>rfl
 | makeMap t r=>rfl
 | lookup t x y ok=>rfl
 | mapUpdate t x y z=>rfl
 | _=>first | (rw [ho] at h;cases h;done) | (exact absurd h (by rw [ho];simp)) | (rw [ho] at h;simp at h)
def sN (T:Ty) (o:Oper) (ρ:Operand->SV σ):Option (List (σ->Bool)×SV σ) :=
 match o.op with
 | .convert src dst x=>match T src,T dst with
   | some si,some di=>match si.k,di.k with
     | .str,.slice e=>match Fv (T e),asS (ρ x) with
       | true,some f=>some ([fun s=>decide ((f s).length<=140737488355328)],.lst (.int .u8) fun s=>(f s).map fun b=>(b.toNat:Int))
       | _,_=>none
     | _,_=>none
   | _,_=>none
 | _=>none
theorem aqJ (s:σ) (T:Ty) (q:Nat->Bool) (lk:Nat->Option AK) (rd:Nat->Option AO) (slot:Nat) (o:Oper) (ρ:Operand->SV σ) {cs:List (σ->Bool)} {v:SV σ} (h:sN T o ρ=some (cs,v)) (hc:allT s cs) :
 Ci T q lk o (fun x=>(ρ x).c s)=none/\Cj T rd slot o (fun x=>(ρ x).c s)=none/\Jt T rd slot o (fun x=>(ρ x).c s)=some (v.c s,[]):=by
 unfold sN at h;split at h
 ·rename_i src dst x ho;split at h
  ·rename_i si di hsi hdi;split at h
   ·rename_i e k1 k2;split at h
    ·rename_i f hu hf;cases h;have hx:=tH (s:=s) hf;have hl:(⟨(f s).toArray⟩:ByteArray).size=(f s).length:=by show (f s).toArray.size=_;simp
     refine ⟨?_,?_,?_⟩
     ·unfold Ci;simp only [ho,hsi,hdi,k1,k2,hx]
     ·unfold Cj;simp only [ho,hsi,hdi,k1,k2]
     ·unfold Jt;simp only [ho,hsi,hdi,k1,k2,hx,hu,if_true,hl];rw [if_pos (of_decide_eq_true hc.1),SV.c,Ky,List.length_map]
    ·cases h
   ·cases h
  ·cases h
 ·cases h
def OY (rs:List Nat) (rd:Nat->Option (SO σ)):Nat->Option (SO σ):=fun r=>match kM r rs with | true=>rd r | false=>none
theorem Yq (s:σ) (rs:List Nat) (rd:Nat->Option (SO σ)):iL s (OY rs rd)=restrict rs (iL s rd):=by
 funext r;unfold iL OY restrict;rw [Eo];cases rs.contains r<;>rfl
def gI (o:Oper) (ρ:Operand->SV σ):List Nat:=o.op.operands.toList.flatMap fun x=>(ρ x).refs
theorem KA (s:σ) (o:Oper) (ρ:Operand->SV σ):(o.op.operands.toList.flatMap fun x=>((ρ x).c s).refs)=gI o ρ:=by
 unfold gI;congr 1;funext x;exact J6 s _
end
structure Grow {σ τ:Type} (d:SS σ) (g:τ->σ) (d':SS τ):Prop where
 tm:∃l,d'.tm=l++oH g d.tm
 hp:∃l,d'.hp=l++jS g d.hp
section
variable {σ τ υ:Type}
mutual
theorem map_map (g:τ->σ) (h:υ->τ):∀v:SV σ,(v.map g).map h=v.map fun t=>g (h t)
 | .val v=>by rw [SV.map,SV.map,SV.map]
 | .int k f=>by rw [SV.map,SV.map,SV.map]
 | .bool f=>by rw [SV.map,SV.map,SV.map]
 | .str f=>by rw [SV.map,SV.map,SV.map]
 | .lst t f=>by rw [SV.map,SV.map,SV.map]
 | .ptr r off=>by rw [SV.map,SV.map,SV.map]
 | .ptx r z j off=>by rw [SV.map,SV.map,SV.map]
 | .sl r z o n cap=>by rw [SV.map,SV.map,SV.map];cases o<;>cases cap<;>rfl
 | .dpt t f j off=>by rw [SV.map,SV.map,SV.map]
 | .agg cs=>by rw [SV.map,SV.map,SV.map,xH g h cs]
 | .tup cs=>by rw [SV.map,SV.map,SV.map,xH g h cs]
 | .clo f cs=>by rw [SV.map,SV.map,SV.map,xH g h cs]
 | .undef=>by rw [SV.map,SV.map,SV.map]
 | .junk=>by rw [SV.map,SV.map,SV.map]
theorem xH (g:τ->σ) (h:υ->τ):∀l:List (SV σ),sD h (sD g l)=sD (fun t=>g (h t)) l
 | []=>by rw [sD,sD,sD]
 | x::l=>by rw [sD,sD,sD,map_map g h x,xH g h l]
end
theorem aaX (g:τ->σ) (h:υ->τ) (o:SO σ):(o.map g).map h=o.map fun t=>g (h t):=by
 cases o with
 | mix cs=>show SO.mix _=SO.mix _;rw [xH]
 | _=>rfl
theorem OZ (g:τ->σ) (h:υ->τ):∀l:List (Nat×SV σ),oH h (oH g l)=oH (fun t=>g (h t)) l
 | []=>rfl
 | (t,v)::l=>by rw [oH,oH,oH,map_map,OZ g h l]
theorem O1 (g:τ->σ) (h:υ->τ):∀l:List (Nat×SO σ),jS h (jS g l)=jS (fun t=>g (h t)) l
 | []=>rfl
 | (t,v)::l=>by rw [jS,jS,jS,aaX,O1 g h l]
theorem Ii (g:τ->σ):∀a b:List (Nat×SV σ),oH g (a++b)=oH g a++oH g b
 | [],b=>rfl
 | (t,v)::a,b=>by rw [List.cons_append,oH,oH,Ii g a b];rfl
theorem Ij (g:τ->σ):∀a b:List (Nat×SO σ),jS g (a++b)=jS g a++jS g b
 | [],b=>rfl
 | (t,v)::a,b=>by rw [List.cons_append,jS,jS,Ij g a b];rfl
mutual
theorem map_id:∀v:SV σ,v.map (fun s=>s)=v
 | .val v=>by rw [SV.map]
 | .int k f=>by rw [SV.map]
 | .bool f=>by rw [SV.map]
 | .str f=>by rw [SV.map]
 | .lst t f=>by rw [SV.map]
 | .ptr r off=>by rw [SV.map]
 | .ptx r z j off=>by rw [SV.map]
 | .sl r z o n cap=>by rw [SV.map];cases o<;>cases cap<;>rfl
 | .dpt t f j off=>by rw [SV.map]
 | .agg cs=>by rw [SV.map,Ep cs]
 | .tup cs=>by rw [SV.map,Ep cs]
 | .clo f cs=>by rw [SV.map,Ep cs]
 | .undef=>by rw [SV.map]
 | .junk=>by rw [SV.map]
theorem Ep:∀l:List (SV σ),sD (fun s=>s) l=l
 | []=>by rw [sD]
 | x::l=>by rw [sD,map_id x,Ep l]
end
theorem agB (o:SO σ):o.map (fun s=>s)=o:=by
 cases o with
 | mix cs=>show SO.mix _=SO.mix _;rw [Ep]
 | _=>rfl
theorem Es:∀l:List (Nat×SV σ),oH (fun s=>s) l=l
 | []=>rfl
 | (t,v)::l=>by rw [oH,map_id,Es l]
theorem Et:∀l:List (Nat×SO σ),jS (fun s=>s) l=l
 | []=>rfl
 | (t,v)::l=>by rw [jS,agB,Et l]
theorem Grow.refl (d:SS σ):Grow d (fun s=>s) d:=⟨⟨[],by rw [Es];rfl⟩,⟨[],by rw [Et];rfl⟩⟩
theorem Grow.trans {d:SS σ} {g:τ->σ} {d':SS τ} {h:υ->τ} {d'':SS υ} (a:Grow d g d') (b:Grow d' h d''):Grow d (fun t=>g (h t)) d'':=by
 obtain ⟨⟨l1,h1⟩,⟨l2,h2⟩⟩:=a;obtain ⟨⟨l3,h3⟩,⟨l4,h4⟩⟩:=b;exact ⟨⟨l3++oH h l1,by rw [h3,h1,Ii,OZ,List.append_assoc]⟩,⟨l4++jS h l2,by rw [h4,h2,Ij,O1,List.append_assoc]⟩⟩
theorem Grow.app {d:SS σ} {g:τ->σ} {d':SS τ} (a:Grow d g d') (o:Option Nat) (v:SV τ) (us:List (Nat×SO τ)):Grow d g (I7 d' o v us):=by
 obtain ⟨⟨l1,h1⟩,⟨l2,h2⟩⟩:=a;refine ⟨?_,⟨us++l2,by show us++d'.hp=_;rw [h2,List.append_assoc]⟩⟩;cases o with
 | none=>exact ⟨l1,h1⟩
 | some t=>exact ⟨(t,v)::l1,by show (t,v)::d'.tm=_;rw [h1];rfl⟩
theorem Grow.put {d:SS σ} {g:τ->σ} {d':SS τ} (a:Grow d g d') (o:Option Nat) (v:SV τ):Grow d g (adC d' o v):=by
 obtain ⟨⟨l1,h1⟩,⟨l2,h2⟩⟩:=a;cases o with
 | none=>exact ⟨⟨l1,h1⟩,⟨l2,h2⟩⟩
 | some t=>exact ⟨⟨(t,v)::l1,by show (t,v)::d'.tm=_;rw [h1];rfl⟩,⟨l2,h2⟩⟩
theorem Grow.map (d:SS σ) (g:τ->σ):Grow d g (d.map g):=⟨⟨[],rfl⟩,⟨[],rfl⟩⟩
end
def agC (o:Oper):Bool :=
 match o.op with
 | .binOp _ _ _ _ _=>true
 | .unOp _ _ _=>true
 | .convert _ _ _=>true
 | .slice _ _ _ _ _=>true
 | _=>false
def adJ {β σ:Type} (b:Bool) (v:SV σ) (K0:SV σ->TR β σ) (K:(τ:Type)->(τ->σ)->SV τ->TR β τ):TR β σ :=
 match b,v with
 | true,.int k f => .bnd (fun s=>some (f s)) (K (σ×Int) Prod.fst (.int k Prod.snd))
 | true,.str f => .bnd (fun s=>some (f s)) (K (σ×List UInt8) Prod.fst (.str Prod.snd))
 | true,.lst t f => .bnd (fun s=>some (f s)) (K (σ×List t.T) Prod.fst (.lst t Prod.snd))
 | _,v=>K0 v
theorem agD {β σ:Type} {n:Bool} {v:SV σ} {K0:SV σ->TR β σ} {K:(τ:Type)->(τ->σ)->SV τ->TR β τ} {s:σ} {b:β} (h:(adJ n v K0 K).run s=some b) :
 (K0 v).run s=some b\/∃(τ:Type) (g:τ->σ) (s':τ) (v':SV τ),g s'=s/\v'.c s'=v.c s/\(K τ g v').run s'=some b:=by
 unfold adJ at h;split at h
 ·rw [TR.run] at h;exact .inr ⟨_,Prod.fst,_,_,rfl,by rw [SV.c,SV.c],h⟩
 ·rw [TR.run] at h;exact .inr ⟨_,Prod.fst,_,_,rfl,by rw [SV.c,SV.c],h⟩
 ·rw [TR.run] at h;exact .inr ⟨_,Prod.fst,_,_,rfl,by rw [SV.c,SV.c],h⟩
 ·exact .inl h
abbrev Yr (β:Type):Type 1:=Nat->(σ:Type)->Nat->List (SV σ)->SS σ->Nat->((τ:Type)->(τ->σ)->SV τ->List (Nat×SO τ)->List Nat->Nat->TR β τ)->TR β σ
section
variable {β:Type} (eg:Nat->Bool) (call:Yr β) (T:Ty) (q:Nat->Bool) (N base:Nat) (ops:Array Oper) (draw:Bool) (anc:List (List Nat))
def ncD (i:Nat) (o:Oper) (e:EN) (log:List (Nat×EN)):Bool:=match draw with | false=>true | true=>WJ ops (anc.getD i []) o e log
def brW {σ:Type} (d:SS σ) (w:WG σ) (go skip:SS σ->TR β σ):TR β σ :=
 match w with
 | .yes=>go d
 | .no=>skip d
 | .dyn t f true => .iff f (go (CZ d t true)) (skip (CZ d t false))
 | .dyn t f false => .iff f (skip (CZ d t true)) (go (CZ d t false))
 | .bad => .fail "guard"
def WM (i:Nat) (o:Oper) {σ:Type} (d:SS σ) (log:List (Nat×EN)) (rec:SS σ->List (Nat×EN)->TR β σ):TR β σ :=
 match ncD ops draw anc i o ⟨[],[],[],[]⟩ log with
 | true=>rec (adC d o.dst .undef) ((i,⟨[],[],[],[]⟩)::log)
 | false => .fail "order"
def akD (i:Nat) (o:Oper) (σ:Type) (d:SS σ) (log:List (Nat×EN)) (F:Nat) (K:(τ:Type)->(τ->σ)->SS τ->Nat->TR β τ)
    (rec:(σ:Type)->SS σ->List (Nat×EN)->Nat->((τ:Type)->(τ->σ)->SS τ->Nat->TR β τ)->TR β σ):TR β σ :=
 match WL o with
 | false=>match adH (xG d) o with
   | none => .fail "call of what"
   | some (f,args)=>call i σ f args d F (fun τ g v us rds F' =>
     match ncD ops draw anc i o ⟨bM us,rds,[],uY (kS (d.map g)) us⟩ log with
     | true=>rec τ (I7 (d.map g) o.dst v us) ((i,⟨bM us,rds,[],uY (kS (d.map g)) us⟩)::log) F' (fun τ' g' d' F''=>K τ' (fun t=>g (g' t)) d' F'')
     | false => .fail "order of a call")
 | true=>match Yp T o with
   | false=>match sQ T q (Qy (OY (gI o (xG d)) (kS d))) o (xG d) with
     | none=>match sN T o (xG d) with
       | none => .bad [base+i] "operation"
       | some (cs,v)=>match ncD ops draw anc i o ⟨[],(base+i)::gI o (xG d),[],[]⟩ log with
         | true=>Em cs (rec σ (I7 d o.dst v []) ((i,⟨[],(base+i)::gI o (xG d),[],[]⟩)::log) F K)
         | false => .fail "order"
     | some (cs,v)=>match ncD ops draw anc i o ⟨[],[],gI o (xG d),[]⟩ log with
       | true=>Em cs (adJ (agC o) v (fun v=>rec σ (I7 d o.dst v []) ((i,⟨[],[],gI o (xG d),[]⟩)::log) F K)
         (fun τ g v=>rec τ (I7 (d.map g) o.dst v []) ((i,⟨[],[],gI o (xG d),[]⟩)::log) F (fun τ' g' d' F''=>K τ' (fun t=>g (g' t)) d' F'')))
       | false => .fail "order"
   | true=>(hS eg T (OY ((base+i)::gI o (xG d)) (kS d)) (base+i) o (xG d)).thn
     (fun v us=>match ncD ops draw anc i o ⟨bM us,(base+i)::gI o (xG d),[],uY (kS d) us⟩ log with
       | true=>rec σ (I7 d o.dst v us) ((i,⟨bM us,(base+i)::gI o (xG d),[],uY (kS d) us⟩)::log) F K
       | false => .fail "order")
     (fun τ g v us=>match ncD ops draw anc i o ⟨bM us,(base+i)::gI o (xG d),[],uY (kS (d.map g)) us⟩ log with
       | true=>rec τ (I7 (d.map g) o.dst v us) ((i,⟨bM us,(base+i)::gI o (xG d),[],uY (kS (d.map g)) us⟩)::log) F (fun τ' g' d' F''=>K τ' (fun t=>g (g' t)) d' F'')
       | false => .fail "order")
def QD:List (Nat×Oper)->(σ:Type)->SS σ->List (Nat×EN)->Nat->((τ:Type)->(τ->σ)->SS τ->Nat->TR β τ)->TR β σ
 | [],σ,d,_,F,K=>K σ (fun s=>s) d F
 | (i,o)::is,σ,d,log,F,K=>match anO N o.dst with
   | false => .fail "dst"
   | true=>brW d (adG ops d o) (fun d=>akD eg call T q base ops draw anc i o σ d log F K (fun σ d log F K=>QD is σ d log F K)) (fun d=>WM ops draw anc i o d log (fun d log=>QD is σ d log F K))
end
def adK (P:Program) (N:Nat) {β:Type} (call:Yr β):Prop :=
 ∀(i:Nat) (σ:Type) (f:Nat) (args:List (SV σ)) (d:SS σ) (F:Nat) (K:(τ:Type)->(τ->σ)->SV τ->List (Nat×SO τ)->List Nat->Nat->TR β τ) (s:σ) (b:β),(call i σ f args d F K).run s=some b ->
  ∃(τ:Type) (g:τ->σ) (s':τ) (v:SV τ) (us:List (Nat×SO τ)) (rds:List Nat) (F':Nat),g s'=s/\yx P f=true/\Does P iY f (cL s args) rds (v.c s') (cO s' us) (d.c s N).rd/\(K τ g v us rds F').run s'=some b
section
variable {P:Program} {eg:Nat->Bool} {q:Nat->Bool} {N base:Nat} {ops:Array Oper} {draw:Bool} {anc:List (List Nat)} {β:Type} {call:Yr β}
def WO {σ:Type} (N:Nat) (d:SS σ) (s:σ) (b:β) (K:(τ:Type)->(τ->σ)->SS τ->Nat->TR β τ) (sl:SL):Prop :=
 ∃(τ:Type) (g:τ->σ) (s':τ) (d':SS τ) (F':Nat),g s'=s/\Grow d g d'/\sl=d'.c s' N/\(K τ g d' F').run s'=some b
theorem zX {GL:Nat->Option (List DV)} {K K':SL->Prop} (hK:∀s,K s->K' s) {is:List Nat} {s:SL} {log:List (Nat×Ef)} (h:qg P GL q N base ops draw K is s log):qg P GL q N base ops draw K' is s log:=by
 obtain ⟨L,s',h1,h2,h3,h4⟩:=h;exact ⟨L,s',h1,h2,hK _ h3,h4⟩
theorem adL {GL:Nat->Option (List DV)} {K:SL->Prop} {is:List Nat} {s s2:SL} {log:List (Nat×Ef)} (e:s2.S=s.S) (h:qg P GL q N base ops draw K is s2 log):qg P GL q N base ops draw K is s log:=by
 obtain ⟨L,s',h1,h2,h3,h4⟩:=h;exact ⟨L,s',h1,by rw [<-e];exact h2,h3,h4⟩
theorem KC (hanc:draw=true->anc=uM ops ops.size) (hcall:adK P N call) :
 ∀(is:List (Nat×Oper)) (σ:Type) (d:SS σ) (log:List (Nat×Ef)) (slog:List (Nat×EN)) (F:Nat) (K:(τ:Type)->(τ->σ)->SS τ->Nat->TR β τ) (s:σ) (b:β),(∀x∈is,ops[x.1]? = some x.2)->(log.map fun x=>(x.1,QB x.2))=slog ->
  (QD eg call (aS P) q N base ops draw anc is σ d slog F K).run s=some b->qg P iY q N base ops draw (WO N d s b K) (is.map (·.1)) (d.c s N) log
 | [],σ,d,log,slog,F,K,s,b,_,_,h=>⟨[],d.c s N,rfl,rfl,⟨σ,fun s=>s,s,d,F,rfl,Grow.refl d,rfl,h⟩,fun _ y hy=>(by cases hy),fun _=>List.Pairwise.nil⟩
 | (i,o)::is,σ,d,log,slog,F,K,s,b,hall,hlog,h=>by
   have ho:ops[i]? = some o:=hall (i,o) List.mem_cons_self;have hall':∀x∈is,ops[x.1]? = some x.2:=fun x hx=>hall x (List.mem_cons_of_mem _ hx);rw [List.map_cons];rw [QD] at h;split at h
   ·rw [TR.run] at h;cases h
   ·rename_i hdst;rw [agc] at hdst;have hd:∀t,o.dst=some t->t<N:=fun t e=>by
     unfold acK at hdst;rw [e] at hdst;simpa using hdst
    have hnc:∀(e:Ef),ncD ops draw anc i o (QB e) slog=true->draw=true->yU ops (anc.getD i []) o e log=true:=fun e he hdr=>by
     unfold ncD at he;rw [hdr] at he;simp only at he;rw [<-hlog,adE] at he;exact he
    -- the operation left out
    have hskip:∀d:SS σ,tN ops (d.c s N) o=some false->(WM ops draw anc i o d slog (fun d log=>QD eg call (aS P) q N base ops draw anc is σ d log F K)).run s=some b->qg P iY q N base ops draw (WO N d s b K) (i::is.map (·.1)) (d.c s N) log:=fun d hw ht=>by
     unfold WM at ht;split at ht
     ·rename_i hn;have ih:=KC hanc hcall is σ (adC d o.dst .undef) ((i,wH)::log) _ F K s b hall' (by rw [List.map_cons,hlog];rfl) ht;rw [adD,show (SV.undef:SV σ).c s = .undef from by rw [SV.c]] at ih;refine rY hanc ho (SL.put_S _ o.dst) ?_ (hnc wH hn) (zX (fun sl => ?_) ih)
      ·unfold nX;rw [ho];exact ⟨hd,.inr ⟨hw,rfl⟩⟩
      ·rintro ⟨τ,g,s',d',F',h1,h2,h3,h4⟩;exact ⟨τ,g,s',d',F',h1,((Grow.refl d).put o.dst .undef).trans h2,h3,h4⟩
     ·rw [TR.run] at ht;cases ht
    -- the operation carried out
    have hgo:∀d:SS σ,tN ops (d.c s N) o=some true->(akD eg call (aS P) q base ops draw anc i o σ d slog F K (fun σ d log F K=>QD eg call (aS P) q N base ops draw anc is σ d log F K)).run s=some b->qg P iY q N base ops draw (WO N d s b K) (i::is.map (·.1)) (d.c s N) log:=fun d hw ht=>by
     have hev:(fun x=>(xG d x).c s)=(d.c s N).ev iY:=by funext x;exact Ui s N d x
     unfold akD at ht
     -- the rest,from a state in which more is known
     have rest:∀(τ:Type) (g:τ->σ) (s':τ) (v:SV τ) (us:List (Nat×SO τ)) (rds lvs:List Nat) (F':Nat),g s'=s ->
      EfR P iY q (base+i) o (d.c s N).S ⟨v.c s',cO s' us,rds,lvs,sS (d.c s N).rd (cO s' us)⟩ ->
      ncD ops draw anc i o ⟨bM us,rds,lvs,uY (kS (d.map g)) us⟩ slog=true ->
      (QD eg call (aS P) q N base ops draw anc is τ (I7 (d.map g) o.dst v us) ((i,⟨bM us,rds,lvs,uY (kS (d.map g)) us⟩)::slog) F' (fun τ' g' d' F''=>K τ' (fun t=>g (g' t)) d' F'')).run s'=some b ->
      qg P iY q N base ops draw (WO N d s b K) (i::is.map (·.1)) (d.c s N) log:=fun τ g s' v us rds lvs F' hg hef hn hr=>by
      have hen:(⟨bM us,rds,lvs,uY (kS (d.map g)) us⟩:EN)=QB ⟨v.c s',cO s' us,rds,lvs,sS (d.c s N).rd (cO s' us)⟩:=by
       unfold QB xg;rw [Uj,<-hg,<-ac6 g s' N d,<-mV,Yo]
      rw [hen] at hn hr;have ih:=KC hanc hcall is τ (I7 (d.map g) o.dst v us) ((i,⟨v.c s',cO s' us,rds,lvs,sS (d.c s N).rd (cO s' us)⟩)::log) _ F' _ s' b hall' (by rw [List.map_cons,hlog]) hr;rw [akB,ac6,hg] at ih;refine rY hanc ho (SL.app_S (d.c s N) o.dst ⟨v.c s',cO s' us,rds,lvs,sS (d.c s N).rd (cO s' us)⟩) ?_ (hnc _ hn) (zX (fun sl => ?_) ih)
      ·unfold nX;rw [ho];exact ⟨hd,.inl ⟨hw,hef⟩⟩
      ·rintro ⟨τ',g',s'',d',F'',h1,h2,h3,h4⟩;refine ⟨τ',fun t=>g (g' t),s'',d',F'',by show g (g' s'')=s;rw [h1,hg],?_,h3,h4⟩;exact ((Grow.map d g).app o.dst v us).trans h2
     have restI:∀(v:SV σ) (us:List (Nat×SO σ)) (rds lvs:List Nat) (F':Nat),
      EfR P iY q (base+i) o (d.c s N).S ⟨v.c s,cO s us,rds,lvs,sS (d.c s N).rd (cO s us)⟩ ->
      ncD ops draw anc i o ⟨bM us,rds,lvs,uY (kS d) us⟩ slog=true ->
      (QD eg call (aS P) q N base ops draw anc is σ (I7 d o.dst v us) ((i,⟨bM us,rds,lvs,uY (kS d) us⟩)::slog) F' K).run s=some b ->
      qg P iY q N base ops draw (WO N d s b K) (i::is.map (·.1)) (d.c s N) log:=fun v us rds lvs F' hef hn hr=>by
      have hmap:d.map (fun s:σ=>s)=d:=by unfold SS.map;rw [Es,Et]
      refine rest σ (fun s=>s) s v us rds lvs F' rfl hef (by rw [hmap];exact hn) (by rw [hmap];exact hr)
     have heff:∀(v:AV) (us:List (Nat×AO)),Cj (aS P) (restrict ((base+i)::gI o (xG d)) (d.c s N).rd) (base+i) o ((d.c s N).ev iY)=some (v,us)->Yp (aS P) o=true->eff (aS P) q (d.c s N).rd (base+i) o ((d.c s N).ev iY)=some ⟨v,us,(base+i)::gI o (xG d),[]⟩:=fun v us he ho'=>by
      have hrs:(o.op.operands.toList.flatMap fun x=>((d.c s N).ev iY x).refs)=gI o (xG d):=by rw [<-KA s];simp only [Ui s N d]
      unfold eff;simp only [hrs];rw [agA _ _ _ _ _ ho'];simp only [he]
     split at ht
     ·split at ht
      ·rw [TR.run] at ht;cases ht
      ·rename_i f args hc;obtain ⟨τ,g,s',v,us,rds,F',h1,h2,h3,h4⟩:=hcall _ _ _ _ _ _ _ _ _ ht;split at h4
       ·rename_i hn;refine rest τ g s' v us rds [] F' h1 ?_ hn h4;refine ⟨rfl,?_⟩;rw [SL.ev_S,<-hev,agz s _ o hc];exact ⟨rfl,.inl ⟨h2,h3⟩⟩
       ·rw [TR.run] at h4;cases h4
     ·rename_i hno;have hca:vU ((d.c s N).S.ev iY) o=none:=adI _ o hno;split at ht
      ·split at ht
       ·split at ht
        ·rw [TR.run] at ht;cases ht
        ·rename_i cs v hq;split at ht
         ·rename_i hn;obtain ⟨g1,g2⟩:=rF ht;have hrs:(o.op.operands.toList.flatMap fun x=>((d.c s N).ev iY x).refs)=gI o (xG d):=by rw [<-KA s];simp only [Ui s N d]
          obtain ⟨n1,n2,n3⟩:=aqJ s (aS P) q (kinds (restrict (gI o (xG d)) (d.c s N).rd)) (restrict ((base+i)::gI o (xG d)) (d.c s N).rd) (base+i) o (xG d) hq g1;rw [hev] at n1 n2 n3;refine restI v [] ((base+i)::gI o (xG d)) [] F ⟨rfl,?_⟩ hn g2;rw [hca];refine ⟨⟨v.c s,[],(base+i)::gI o (xG d),[]⟩,?_,rfl,rfl,rfl,rfl⟩;rw [SL.ev_S];show eff (aS P) q (d.c s N).rd (base+i) o ((d.c s N).ev iY)=_;unfold eff;simp only [hrs];rw [n1];simp only [n2,n3]
         ·rw [TR.run] at ht;cases ht
       ·rename_i cs v hq;split at ht
        ·rename_i hn;obtain ⟨g1,g2⟩:=rF ht;have hEf:EfR P iY q (base+i) o (d.c s N).S ⟨v.c s,[],[],gI o (xG d),[]⟩ := ?_
         ·rcases agD g2 with g2 | ⟨τ,g,s',v',h1,h2,h3⟩
          ·exact restI v [] [] (gI o (xG d)) F hEf hn g2
          ·exact rest τ g s' v' [] [] (gI o (xG d)) F h1 (by rw [h2];exact hEf) hn h3
         refine ⟨rfl,?_⟩;rw [hca];refine ⟨⟨v.c s,[],[],gI o (xG d)⟩,?_,rfl,rfl,rfl,rfl⟩;have hQ:=aqE s (aS P) q (Qy (OY (gI o (xG d)) (kS d))) o (xG d) cs v hq g1;have hrs:(o.op.operands.toList.flatMap fun x=>((d.c s N).ev iY x).refs)=gI o (xG d):=by rw [<-KA s];simp only [Ui s N d]
         rw [<-uD s,Yq,mV s N,hev] at hQ;rw [SL.ev_S];show eff (aS P) q (d.c s N).rd (base+i) o ((d.c s N).ev iY)=_;unfold eff;simp only [hrs];rw [hQ]
        ·rw [TR.run] at ht;cases ht
      ·rename_i hH;have hO:=aqH s eg (aS P) (OY ((base+i)::gI o (xG d)) (kS d)) (base+i) o (xG d);rw [Yq,mV s N,hev] at hO
       have mkEf:∀ {τ:Type} (s':τ) (v:SV τ) (us:List (Nat×SO τ)),Cj (aS P) (restrict ((base+i)::gI o (xG d)) (d.c s N).rd) (base+i) o ((d.c s N).ev iY)=some (v.c s',cO s' us) ->
        EfR P iY q (base+i) o (d.c s N).S ⟨v.c s',cO s' us,(base+i)::gI o (xG d),[],sS (d.c s N).rd (cO s' us)⟩:=fun {τ} s' v us he=>by
        refine ⟨rfl,?_⟩;rw [hca];refine ⟨⟨v.c s',cO s' us,(base+i)::gI o (xG d),[]⟩,?_,rfl,rfl,rfl,rfl⟩;rw [SL.ev_S];exact heff _ _ he hH
       rcases HR.thn_c _ ht hO with ⟨v,us,h1,h2⟩ | ⟨τ,g,s',v,us,h1,h2,h3⟩
       ·split at h2
        ·rename_i hn;exact restI v us _ [] F (mkEf s v us h1) hn h2
        ·rw [TR.run] at h2;cases h2
       ·split at h3
        ·rename_i hn;exact rest τ g s' v us _ [] F h1 (mkEf s' v us h2) hn h3
        ·rw [TR.run] at h3;cases h3
    have hW:=agy s N ops d o;have viaRef:∀(k:Nat) (b':Bool),(d.c s N).get k=eu b'->qg P iY q N base ops draw (WO N (CZ d k b') s b K) (i::is.map (·.1)) ((CZ d k b').c s N) log->qg P iY q N base ops draw (WO N d s b K) (i::is.map (·.1)) (d.c s N) log:=fun k b' hk hr=>by
     refine adL (QC hk) (zX (fun sl => ?_) hr);rintro ⟨τ,g,s',d',F',h1,h2,h3,h4⟩;refine ⟨τ,g,s',d',F',h1,?_,h3,h4⟩;have h0:Grow d (fun s=>s) (CZ d k b'):=⟨⟨[(k,.val (.bool b'))],by rw [Es];rfl⟩,⟨[],by rw [Et];rfl⟩⟩
     exact h0.trans h2
    have wantRef:∀(k:Nat) (b':Bool),(d.c s N).get k=eu b'->tN ops ((CZ d k b').c s N) o=tN ops (d.c s N) o:=fun k b' hk=>by
     rw [<-OD,<-OD,QC hk]
    unfold brW at h;split at h
    ·rename_i hw;rw [hw] at hW;exact hgo d hW h
    ·rename_i hw;rw [hw] at hW;exact hskip d hW h
    ·rename_i k f hw;rw [hw] at hW;rw [TR.run] at h;obtain ⟨hW,hk⟩:=hW;cases hf:f s with
     | true=>rw [hf] at h hW hk;exact viaRef k true hk (hgo _ (by rw [wantRef k true hk];exact hW) h)
     | false=>rw [hf] at h hW hk;exact viaRef k false hk (hskip _ (by rw [wantRef k false hk];exact hW) h)
    ·rename_i k f hw;rw [hw] at hW;rw [TR.run] at h;obtain ⟨hW,hk⟩:=hW;cases hf:f s with
     | true=>rw [hf] at h hW hk;exact viaRef k true hk (hskip _ (by rw [wantRef k true hk];exact hW) h)
     | false=>rw [hf] at h hW hk;exact viaRef k false hk (hgo _ (by rw [wantRef k false hk];exact hW) h)
    ·rw [TR.run] at h;cases h
end
def pr:U->U->U
 | .unit,b=>b
 | .int k,.unit => .int k
 | .bool,.unit => .bool
 | .str,.unit => .str
 | .list t,.unit => .list t
 | .pair a b,.unit => .pair a b
 | a,b => .pair a b
def wU:(a b:U)->a.T->b.T->(pr a b).T
 | .unit,_,_,y=>y
 | .int _,.unit,x,_=>x
 | .bool,.unit,x,_=>x
 | .str,.unit,x,_=>x
 | .list _,.unit,x,_=>x
 | .pair _ _,.unit,x,_=>x
 | .int _,.int _,x,y=>(x,y)
 | .int _,.bool,x,y=>(x,y)
 | .int _,.str,x,y=>(x,y)
 | .int _,.list _,x,y=>(x,y)
 | .int _,.pair _ _,x,y=>(x,y)
 | .bool,.int _,x,y=>(x,y)
 | .bool,.bool,x,y=>(x,y)
 | .bool,.str,x,y=>(x,y)
 | .bool,.list _,x,y=>(x,y)
 | .bool,.pair _ _,x,y=>(x,y)
 | .str,.int _,x,y=>(x,y)
 | .str,.bool,x,y=>(x,y)
 | .str,.str,x,y=>(x,y)
 | .str,.list _,x,y=>(x,y)
 | .str,.pair _ _,x,y=>(x,y)
 | .list _,.int _,x,y=>(x,y)
 | .list _,.bool,x,y=>(x,y)
 | .list _,.str,x,y=>(x,y)
 | .list _,.list _,x,y=>(x,y)
 | .list _,.pair _ _,x,y=>(x,y)
 | .pair _ _,.int _,x,y=>(x,y)
 | .pair _ _,.bool,x,y=>(x,y)
 | .pair _ _,.str,x,y=>(x,y)
 | .pair _ _,.list _,x,y=>(x,y)
 | .pair _ _,.pair _ _,x,y=>(x,y)
def jF:(a b:U)->(pr a b).T->a.T
 | .unit,_,_=>()
 | .int _,.unit,x=>x
 | .bool,.unit,x=>x
 | .str,.unit,x=>x
 | .list _,.unit,x=>x
 | .pair _ _,.unit,x=>x
 | .int _,.int _,p=>p.1
 | .int _,.bool,p=>p.1
 | .int _,.str,p=>p.1
 | .int _,.list _,p=>p.1
 | .int _,.pair _ _,p=>p.1
 | .bool,.int _,p=>p.1
 | .bool,.bool,p=>p.1
 | .bool,.str,p=>p.1
 | .bool,.list _,p=>p.1
 | .bool,.pair _ _,p=>p.1
 | .str,.int _,p=>p.1
 | .str,.bool,p=>p.1
 | .str,.str,p=>p.1
 | .str,.list _,p=>p.1
 | .str,.pair _ _,p=>p.1
 | .list _,.int _,p=>p.1
 | .list _,.bool,p=>p.1
 | .list _,.str,p=>p.1
 | .list _,.list _,p=>p.1
 | .list _,.pair _ _,p=>p.1
 | .pair _ _,.int _,p=>p.1
 | .pair _ _,.bool,p=>p.1
 | .pair _ _,.str,p=>p.1
 | .pair _ _,.list _,p=>p.1
 | .pair _ _,.pair _ _,p=>p.1
def kN:(a b:U)->(pr a b).T->b.T
 | .unit,_,y=>y
 | .int _,.unit,_=>()
 | .bool,.unit,_=>()
 | .str,.unit,_=>()
 | .list _,.unit,_=>()
 | .pair _ _,.unit,_=>()
 | .int _,.int _,p=>p.2
 | .int _,.bool,p=>p.2
 | .int _,.str,p=>p.2
 | .int _,.list _,p=>p.2
 | .int _,.pair _ _,p=>p.2
 | .bool,.int _,p=>p.2
 | .bool,.bool,p=>p.2
 | .bool,.str,p=>p.2
 | .bool,.list _,p=>p.2
 | .bool,.pair _ _,p=>p.2
 | .str,.int _,p=>p.2
 | .str,.bool,p=>p.2
 | .str,.str,p=>p.2
 | .str,.list _,p=>p.2
 | .str,.pair _ _,p=>p.2
 | .list _,.int _,p=>p.2
 | .list _,.bool,p=>p.2
 | .list _,.str,p=>p.2
 | .list _,.list _,p=>p.2
 | .list _,.pair _ _,p=>p.2
 | .pair _ _,.int _,p=>p.2
 | .pair _ _,.bool,p=>p.2
 | .pair _ _,.str,p=>p.2
 | .pair _ _,.list _,p=>p.2
 | .pair _ _,.pair _ _,p=>p.2
theorem jX (a b:U) (x:a.T) (y:b.T):jF a b (wU a b x y)=x:=by cases a<;>cases b<;>rfl
theorem kT (a b:U) (x:a.T) (y:b.T):kN a b (wU a b x y)=y:=by cases a<;>cases b<;>rfl
inductive CS where
 | dat (u:U) | own (r e:Nat) (u:U) | nil | np | pt (r off:Nat) | cl (f:Nat) (caps:List (Nat×Nat))
inductive IT where
 | tmp (t:Nat) (agg:Bool) (cs:List CS)
 | mix (r:Nat) (cs:List CS)
 | row (r e:Nat) (u:U)
 | arr (r:Nat) (u:U)
 | mp (r:Nat)
 | drop (t:Nat)
 | dead (r:Nat)
def uC:CS->U
 | .dat u=>u
 | .own _ _ u => .list u
 | _ => .unit
def jq:List CS->U
 | [] => .unit
 | c::cs=>pr (uC c) (jq cs)
def uI:IT->U
 | .tmp _ _ cs=>jq cs
 | .mix _ cs=>jq cs
 | .row _ _ u => .list u
 | .arr _ u => .list u
 | .mp _ => .list .str
 | _ => .unit
def bZ:List IT->U
 | [] => .unit
 | i::l=>pr (uI i) (bZ l)
section
variable {σ:Type}
def C9 (ρ:Nat->Nat):List (Nat×Nat)->List (SV σ)
 | []=>[]
 | (r,off)::l => .ptr (ρ r) off::C9 ρ l
def eqN (a b:Option Nat):Bool:=match a,b with
 | some x,some y=>decide (x=y)
 | none,none=>true
 | _,_=>false
def KD (θ:Nat->Option Nat):List (Nat×Nat)->List (SV σ)->Bool
 | [],[]=>true
 | (r,off)::l,.ptr r1 off1::vs=>(eqN (θ r) (some r1)&&decide (off=off1))&&KD θ l vs
 | _,_=>false
def adM:(c:CS)->(σ->(uC c).T)->SV σ
 | .dat (.int k),f => .int k f
 | .dat .bool,f => .bool f
 | .dat .str,f => .str f
 | .dat (.list t),f => .lst t f
 | .dat _,_ => .junk
 | .own r _ u,f => .sl r (fK u) none (fun s=>(f s).length) .unk
 | .nil,_ => .val (.slice none 0 0)
 | .np,_ => .val (.pointer none)
 | .pt r off,_ => .ptr r off
 | .cl f caps,_ => .clo f (C9 (fun r=>r) caps)
def aoc:(c:CS)->(σ->(uC c).T)->List (Nat×SO σ)
 | .own r e u,f=>[(r,.data e u f true)]
 | _,_=>[]
def Ik:(cs:List CS)->(σ->(jq cs).T)->List (SV σ)
 | [],_=>[]
 | c::cs,f=>adM c (fun s=>jF (uC c) (jq cs) (f s))::Ik cs (fun s=>kN (uC c) (jq cs) (f s))
def O4:(cs:List CS)->(σ->(jq cs).T)->List (Nat×SO σ)
 | [],_=>[]
 | c::cs,f=>aoc c (fun s=>jF (uC c) (jq cs) (f s))++O4 cs (fun s=>kN (uC c) (jq cs) (f s))
def one1:List (SV σ)->SV σ
 | [v]=>v
 | _ => .junk
def ajk:(i:IT)->(σ->(uI i).T)->List (Nat×SV σ)
 | .tmp t true cs,f=>[(t,.agg (Ik cs f))]
 | .tmp t false cs,f=>[(t,one1 (Ik cs f))]
 | .drop t,_=>[(t,.junk)]
 | _,_=>[]
def ajl:(i:IT)->(σ->(uI i).T)->List (Nat×SO σ)
 | .tmp _ _ cs,f=>O4 cs f
 | .mix r cs,f=>(r,.mix (Ik cs f))::O4 cs f
 | .row r e u,f=>[(r,.data e u f true)]
 | .arr r u,f=>[(r,.arr u f)]
 | .mp r,f=>[(r,.mp f)]
 | .dead r,_=>[(r,.dead)]
 | _,_=>[]
def oQ:(l:List IT)->(σ->(bZ l).T)->List (Nat×SV σ)
 | [],_=>[]
 | i::l,f=>ajk i (fun s=>jF (uI i) (bZ l) (f s))++oQ l (fun s=>kN (uI i) (bZ l) (f s))
def jf:(l:List IT)->(σ->(bZ l).T)->List (Nat×SO σ)
 | [],_=>[]
 | i::l,f=>ajl i (fun s=>jF (uI i) (bZ l) (f s))++jf l (fun s=>kN (uI i) (bZ l) (f s))
def headD (d:SS σ) (its:List IT):SS (σ×(bZ its).T):=⟨oQ its Prod.snd++oH Prod.fst d.tm,jf its Prod.snd++jS Prod.fst d.hp⟩
def adN:U->Bool
 | .int _=>true
 | .bool=>true
 | .str=>true
 | .list _=>true
 | _=>false
def QE (rd:Nat->Option (SO σ)):(c:CS)->SV σ->Option (PK σ (uC c).T)
 | .dat u,v=>match adN u with | true=>I5 rd u [v] | false=>none
 | .own _ e u,v=>match v with
   | .val (.slice none 0 0)=>some ⟨fun _=>[],[],[]⟩
   | .sl r z none n .unk=>match rd r with
     | some (.data e' u' f true)=>match Vq u' u,decide (e'=e/\z=fK u') with
       | some ⟨h⟩,true=>some ⟨iq h fun s=>(f s).take (n s),[fun s=>decide (n s<=(f s).length)],[]⟩
       | _,_=>none
     | _=>none
   | _=>none
 | .nil,v=>match v with | .val (.slice none 0 0)=>some ⟨fun _=>(),[],[]⟩ | _=>none
 | .np,v=>match v with | .val (.pointer none)=>some ⟨fun _=>(),[],[]⟩ | _=>none
 | .pt r off,v=>match v with | .ptr r' off'=>(match decide (r=r'/\off=off') with | true=>some ⟨fun _=>(),[],[]⟩ | false=>none) | _=>none
 | .cl f caps,v=>match v with | .clo f' vs=>(match decide (f=f')&&KD some caps vs with | true=>some ⟨fun _=>(),[],[]⟩ | false=>none) | _=>none
def thC:CS->SV σ->List (Nat×Option Nat)
 | .own r _ _,.sl r1 _ _ _ _=>[(r,some r1)]
 | .own r _ _,_=>[(r,none)]
 | _,_=>[]
def I8 (rd:Nat->Option (SO σ)):(cs:List CS)->List (SV σ)->Option (PK σ (jq cs).T)
 | [],[]=>some ⟨fun _=>(),[],[]⟩
 | c::cs,v::vs=>match QE rd c v,I8 rd cs vs with
   | some x,some y=>some ⟨fun s=>wU (uC c) (jq cs) (x.f s) (y.f s),x.cs++y.cs,x.fz++y.fz⟩
   | _,_=>none
 | _,_=>none
def WQ:List CS->List (SV σ)->List (Nat×Option Nat)
 | c::cs,v::vs=>thC c v++WQ cs vs
 | _,_=>[]
def pkI (d:SS σ):(i:IT)->Option (PK σ (uI i).T)
 | .tmp t agg cs=>match jI t d.tm with
   | none=>none
   | some v=>match agg with
     | false=>I8 (kS d) cs [v]
     | true=>match v with | .agg vs=>I8 (kS d) cs vs | _=>none
 | .mix r cs=>match kS d r with | some (.mix vs)=>I8 (kS d) cs vs | _=>none
 | .row r e u=>match kS d r with
   | some (.data e' u' f true)=>match Vq u' u,decide (e'=e) with | some ⟨h⟩,true=>some ⟨iq h f,[],[]⟩ | _,_=>none
   | _=>none
 | .arr r u=>match kS d r with
   | some (.arr u' f)=>match Vq u' u with | some ⟨h⟩=>some ⟨iq h f,[],[]⟩ | none=>none
   | _=>none
 | .mp r=>match kS d r with
   | some (.mp f)=>some ⟨f,[],[]⟩
   | _=>none
 | .drop _=>some ⟨fun _=>(),[],[]⟩
 | .dead _=>some ⟨fun _=>(),[],[]⟩
def thI (d:SS σ):IT->List (Nat×Option Nat)
 | .tmp t agg cs=>match jI t d.tm with
   | none=>[]
   | some v=>match agg with
     | false=>WQ cs [v]
     | true=>match v with | .agg vs=>WQ cs vs | _=>[]
 | .mix r cs=>match kS d r with | some (.mix vs)=>WQ cs vs | _=>[]
 | _=>[]
def agE (d:SS σ):(l:List IT)->Option (PK σ (bZ l).T)
 | []=>some ⟨fun _=>(),[],[]⟩
 | i::l=>match pkI d i,agE d l with
   | some x,some y=>some ⟨fun s=>wU (uI i) (bZ l) (x.f s) (y.f s),x.cs++y.cs,x.fz++y.fz⟩
   | _,_=>none
def wL (d:SS σ):List IT->List (Nat×Option Nat)
 | []=>[]
 | i::l=>thI d i++wL d l
def qB:List IT->List Nat
 | []=>[]
 | .tmp t _ _::l=>t::qB l
 | .drop t::l=>t::qB l
 | _::l=>qB l
def kV:List IT->List Nat
 | []=>[]
 | .mix r _::l=>r::kV l
 | .row r _ _::l=>r::kV l
 | .arr r _::l=>r::kV l
 | .mp r::l=>r::kV l
 | .dead r::l=>r::kV l
 | _::l=>kV l
def jy:List (Nat×Option Nat)->List Nat
 | []=>[]
 | (r,_)::l=>r::jy l
def nodupB:List Nat->Bool
 | []=>true
 | r::l => !kM r l&&nodupB l
def Uk (o:Option (SO σ)):Bool :=
 match o with
 | none=>true
 | some .dead=>true
 | some (.data _ _ _ false)=>true
 | _=>false
def okN {σ':Type} (keys:List Nat) (dh:SS σ') (r:Nat):Bool := !kM r keys && !iM (kS dh) r
def WR {σ':Type} (keys:List Nat) (dh:SS σ') (l:List Nat):Bool:=l.all (okN keys dh)
def aaY {σ':Type} (keys:List Nat) (dh:SS σ'):List Nat->List (Nat×SV σ)->Bool
 | _,[]=>true
 | skip,(t,v)::l=>match kM t skip with
   | true=>aaY keys dh skip l
   | false=>WR keys dh v.refs&&aaY keys dh (t::skip) l
def KE:SO σ->List Nat
 | .mix cs=>tJ cs
 | _=>[]
def aaZ {σ':Type} (keys:List Nat) (dh:SS σ'):List Nat->List (Nat×SO σ)->Bool
 | _,[]=>true
 | skip,(r,o)::l=>match kM r skip with
   | true=>aaZ keys dh skip l
   | false=>(!kM r keys&&WR keys dh (KE o))&&aaZ keys dh (r::skip) l
def fO:List CS->List Nat
 | []=>[]
 | .pt r _::l=>r::fO l
 | .cl _ caps::l=>caps.map (·.1)++fO l
 | _::l=>fO l
def dU:List IT->List Nat
 | []=>[]
 | .tmp _ _ cs::l=>fO cs++dU l
 | .mix _ cs::l=>fO cs++dU l
 | _::l=>dU l
def KF {σ':Type} (keys:List Nat) (dh:SS σ'):List (Nat×Option Nat)->Bool
 | []=>true
 | (_,none)::l=>KF keys dh l
 | (r,some x)::l=>((kM x keys||Uk (kS dh x))&&l.all fun y=>match y.2 with | some z => !decide (x=z) | none=>true)&&KF keys dh l
def QF {σ':Type} (th:List (Nat×Option Nat)) (dh:SS σ') (x:Nat):Bool :=
 (th.all fun y=>match y.2 with | some z => !decide (x=z) | none=>true)&&(kM x (jy th)||Uk (kS dh x))
def ajm {τ:Type} (d:SS σ) (its:List IT) (d':SS τ) (fz:List (Nat×SO τ)):Bool :=
 ((((d'.tm.take (d'.tm.length-d.tm.length)).all fun x=>kM x.1 (qB its)||(match jI x.1 d.tm with | none=>true | some _=>false)) &&
  ((d'.hp.take (d'.hp.length-d.hp.length)).all fun x=>kM x.1 (kV its)||iM (kS d) x.1)) &&
 ((nodupB (jy (wL d' its))&&(jy (wL d' its)).all fun r=>iM (kS d) r && !kM r (kV its)) &&
  (KF (jy (wL d' its)) (headD d its) (wL d' its)&&fz.all fun x=>QF (wL d' its) (headD d its) x.1))) &&
 ((aaY (jy (wL d' its)) (headD d its) (qB its) d.tm&&aaZ (jy (wL d' its)) (headD d its) (kV its) d.hp) &&
  (WR (jy (wL d' its)) (headD d its) (dU its)&&(nodupB (kV its)&&(kV its).all fun r => !iM (kS d) r)))
end
def F7:List (Nat×Nat)->List AV
 | []=>[]
 | (r,off)::l => .ptr r off::F7 l
def aC:(c:CS)->(uC c).T->AV
 | .dat (.int k),n=>dV k n
 | .dat .bool,b=>eu b
 | .dat .str,l => .d (.val (.string ⟨l.toArray⟩))
 | .dat (.list t),l => .d (.dl (aI t l) l.length none)
 | .dat _,_ => .junk
 | .own r _ u,l => .sl r 0 l.length none
 | .nil,_ => .d (.val (.slice none 0 0))
 | .np,_ => .d (.val (.pointer none))
 | .pt r off,_ => .ptr r off
 | .cl f caps,_ => .clo f (F7 caps)
def oC:(c:CS)->(uC c).T->List (Nat×AO)
 | .own r e u,l=>[(r,.data e (fK u) (aI u l) true)]
 | _,_=>[]
def pJ:(cs:List CS)->(jq cs).T->List AV
 | [],_=>[]
 | c::cs,x=>aC c (jF (uC c) (jq cs) x)::pJ cs (kN (uC c) (jq cs) x)
def QG:(cs:List CS)->(jq cs).T->List (Nat×AO)
 | [],_=>[]
 | c::cs,x=>oC c (jF (uC c) (jq cs) x)++QG cs (kN (uC c) (jq cs) x)
def oJ:List AV->AV
 | [v]=>v
 | _ => .junk
def aT:(i:IT)->(uI i).T->List (Nat×AV)
 | .tmp t true cs,x=>[(t,.agg (pJ cs x))]
 | .tmp t false cs,x=>[(t,oJ (pJ cs x))]
 | .drop t,_=>[(t,.junk)]
 | _,_=>[]
def aH:(i:IT)->(uI i).T->List (Nat×AO)
 | .tmp _ _ cs,x=>QG cs x
 | .mix r cs,x=>(r,.mix (pJ cs x))::QG cs x
 | .row r e u,l=>[(r,.data e (fK u) (aI u l) true)]
 | .arr r u,l=>[(r,.mix ((aI u l).map .d))]
 | .mp r,l=>[(r,.mp l)]
 | .dead r,_=>[(r,.dead)]
 | _,_=>[]
def lU:(l:List IT)->(bZ l).T->List (Nat×AV)
 | [],_=>[]
 | i::l,x=>aT i (jF (uI i) (bZ l) x)++lU l (kN (uI i) (bZ l) x)
def oM:(l:List IT)->(bZ l).T->List (Nat×AO)
 | [],_=>[]
 | i::l,x=>aH i (jF (uI i) (bZ l) x)++oM l (kN (uI i) (bZ l) x)
section
variable {σ:Type} (s:σ)
theorem aqL (k:IntKind) (f:σ->Int):(SV.int k f).c s=dV k (f s):=by rw [SV.c]
theorem aod (f:σ->Bool):(SV.bool f).c s=eu (f s):=by rw [SV.c]
theorem cStr (f:σ->List UInt8):(SV.str f).c s = .d (.val (.string ⟨(f s).toArray⟩)):=by rw [SV.c]
theorem aqM (t:U) (f:σ->List t.T):(SV.lst t f).c s = .d (.dl (aI t (f s)) (f s).length none):=by rw [SV.c]
theorem Ul:(SV.junk:SV σ).c s = .junk:=by rw [SV.c]
theorem agF (r z:Nat) (n:σ->Nat):(SV.sl r z none n .unk).c s = .sl r 0 (n s) none:=by rw [SV.c];simp only [wK,Nat.zero_mul,sF]
theorem cVal (v:Value):(SV.val v:SV σ).c s = .d (.val v):=by rw [SV.c]
theorem aoe (r off:Nat):(SV.ptr r off:SV σ).c s = .ptr r off:=by rw [SV.c]
theorem akF (caps:List (Nat×Nat)):cL s (C9 (fun r=>r) caps:List (SV σ))=F7 caps:=by
 induction caps with
 | nil=>rfl
 | cons x l ih=>obtain ⟨r,off⟩:=x;rw [C9,cL,ih,SV.c,F7]
theorem aqN (t:Nat) (l:List (SV σ)):cT s [(t,SV.agg l)]=[(t,.agg (cL s l))]:=by rw [cT,cT,SV.c]
theorem og:∀(c:CS) (f:σ->(uC c).T),(adM c f).c s=aC c (f s)
 | .dat (.int k),f=>aqL s k f
 | .dat .bool,f=>aod s f
 | .dat .str,f=>cStr s f
 | .dat (.list t),f=>aqM s t f
 | .dat (.pair a b),f=>Ul s
 | .dat .unit,f=>Ul s
 | .own r e u,f=>agF s r (fK u) _
 | .nil,f=>cVal s _
 | .np,f=>cVal s _
 | .pt r off,f=>aoe s _ _
 | .cl f caps,_=>by show (SV.clo f (C9 (fun r=>r) caps)).c s=_;rw [SV.c,akF];rfl
theorem akG:∀(c:CS) (f:σ->(uC c).T),cO s (aoc c f)=oC c (f s)
 | .own r e u,f=>rfl
 | .dat _,f=>rfl
 | .nil,f=>rfl
 | .np,f=>rfl
 | .pt _ _,f=>rfl
 | .cl _ _,f=>rfl
theorem Ji:∀(cs:List CS) (f:σ->(jq cs).T),cL s (Ik cs f)=pJ cs (f s)
 | [],_=>rfl
 | c::cs,f=>by rw [Ik,cL,og,Ji cs];rfl
theorem QH:∀(cs:List CS) (f:σ->(jq cs).T),cO s (O4 cs f)=QG cs (f s)
 | [],_=>rfl
 | c::cs,f=>by rw [O4,dJ,akG,QH cs];rfl
theorem adO (l:List (SV σ)):(one1 l).c s=oJ (cL s l):=by
 cases l with
 | nil=>exact Ul s
 | cons v l=>cases l with
   | nil=>rfl
   | cons w l=>exact Ul s
theorem agG:∀(i:IT) (f:σ->(uI i).T),cT s (ajk i f)=aT i (f s)
 | .tmp t true cs,f=>(aqN s t (Ik cs f)).trans (congrArg (fun l=>[(t,AV.agg l)]) (Ji s cs f))
 | .tmp t false cs,f=>(congrArg (fun v=>[(t,v)]) (adO s (Ik cs f))).trans (congrArg (fun l=>[(t,oJ l)]) (Ji s cs f))
 | .drop t,f=>congrArg (fun v=>[(t,v)]) (Ul s)
 | .mix _ _,f=>rfl
 | .row _ _ _,f=>rfl
 | .arr _ _,f=>rfl
 | .mp _,f=>rfl
 | .dead _,f=>rfl
theorem agH:∀(i:IT) (f:σ->(uI i).T),cO s (ajl i f)=aH i (f s)
 | .tmp t a cs,f=>QH s cs f
 | .mix r cs,f=>(congrArg (fun l=>(r,AO.mix l)::cO s (O4 cs f)) (Ji s cs f)).trans (congrArg (fun l=>(r,AO.mix (pJ cs (f s)))::l) (QH s cs f))
 | .row _ _ _,f=>rfl
 | .arr _ _,f=>rfl
 | .mp _,f=>rfl
 | .dead _,f=>rfl
 | .drop _,f=>rfl
theorem uZ:∀(l:List IT) (f:σ->(bZ l).T),cT s (oQ l f)=lU l (f s)
 | [],_=>rfl
 | i::l,f=>by rw [oQ,xE,agG,uZ l];rfl
theorem zY:∀(l:List IT) (f:σ->(bZ l).T),cO s (jf l f)=oM l (f s)
 | [],_=>rfl
 | i::l,f=>by rw [jf,dJ,agH,zY l];rfl
end
section
variable {θ:Nat->Option Nat} {hp1 hp2:Nat->Option AO}
mutual
theorem Dc:∀(x:AV),(∀r∈x.refs,θ r=some r/\(hp2 r).isSome=true)->gG θ hp1 hp2 x x
 | .d x,_=>by rw [gG];exact ⟨x,.inl rfl,.inl rfl⟩
 | .ptr r off,h=>by rw [gG];have:=h r (by simp [AV.refs]);exact ⟨r,this.1,this.2,rfl⟩
 | .sl r off n c,h=>by rw [gG];have:=h r (by simp [AV.refs]);exact ⟨this.2,.inl ⟨r,this.1,rfl⟩⟩
 | .dptr cells off,_=>by rw [gG]
 | .agg cs,h=>by rw [gG];exact ⟨cs,rfl,Df cs fun r hr=>h r (by rw [AV.refs];exact hr)⟩
 | .tup cs,h=>by rw [gG];exact ⟨cs,rfl,Df cs fun r hr=>h r (by rw [AV.refs];exact hr)⟩
 | .clo f cs,h=>by rw [gG];exact ⟨cs,rfl,Df cs fun r hr=>h r (by rw [AV.refs];exact hr)⟩
 | .undef,_=>by rw [gG]
 | .ab,_=>by rw [gG]
 | .junk,_=>by rw [gG];trivial
theorem Df:∀(xs:List AV),(∀r∈AV.refs.refsL xs,θ r=some r/\(hp2 r).isSome=true)->jr θ hp1 hp2 xs xs
 | [],_=>by rw [jr]
 | x::xs,h=>by
   rw [AV.refs.refsL] at h;rw [jr];exact ⟨x,xs,rfl,Dc x fun r hr=>h r (List.mem_append_left _ hr),Df xs fun r hr=>h r (List.mem_append_right _ hr)⟩
end
theorem O5 {x:DV} {y:AV} (h:y = .d x):gG θ hp1 hp2 (.d x) y:=by subst h;rw [gG];exact ⟨x,.inl rfl,.inl rfl⟩
theorem zZ {r:Nat} {o:AO} (h1:θ r=some r) (h2:hp1 r=some o) (h:∀r∈D9 o,θ r=some r/\(hp2 r).isSome=true):vM θ hp1 hp2 r o:=by
 unfold vM;rw [h1];cases o with
 | data e s cs wr=>exact ⟨wr,cs,h2,.inl rfl,fun h=>h,fun h => .inl h⟩
 | mix cs=>exact ⟨cs,h2,Df cs h⟩
 | mp ks=>exact h2
 | dead=>trivial
theorem xI:∀l:List DV,AV.refs.refsL (l.map .d)=[]
 | []=>rfl
 | x::l=>by rw [List.map_cons,AV.refs.refsL,xI l,FV];rfl
end
section
variable {σ:Type} {s:σ} {θ:Nat->Option Nat} {hp2:Nat->Option AO} {rd:Nat->Option (SO σ)}
theorem akH {t:U} {v:SV σ} {p:PK σ (List t.T)} (hp:pkL rd t v=some p) (hc:allT s p.cs) (hfz:∀x∈p.fz,rV θ hp2 x.1):gG θ (iL s rd) hp2 (.d (.dl (aI t (p.f s)) (p.f s).length none)) (v.c s):=by
 unfold pkL at hp;split at hp
 ·split at hp
  ·rename_i hk _;subst hk;cases hp;exact O5 (by rw [SV.c];rfl)
  ·cases hp
 ·cases hp;rw [SV.c,gG];exact ⟨.dl [] 0 none,.inr (.inl ⟨rfl,.inl rfl⟩),.inl rfl⟩
 ·rename_i r z o n cap;split at hp
  ·rename_i e u f wr hr;split at hp
   ·rename_i hk _ hz;subst hk;cases hp;have hz:=of_decide_eq_true hz;have h1:=yH hc.1;rw [SV.c,gG];refine ⟨.dl (aI u (rowP o n f s)) (rowP o n f s).length none,?_,.inl rfl⟩;unfold af7;simp only [iL,hr,Option.map_some,SO.c];refine ⟨hfz _ List.mem_cons_self,none,?_,.inr rfl⟩;rw [vY,hz,jo,gy,List.length_take,List.length_drop,Nat.min_eq_left (by omega)]
   ·cases hp
  ·cases hp
 ·cases hp
theorem Aa {a b:Option Nat} (h:eqN a b=true):a=b:=by
 unfold eqN at h;split at h
 ·rw [of_decide_eq_true h]
 ·rfl
 ·cases h
theorem QI:∀(caps:List (Nat×Nat)) (vs:List (SV σ)),KD θ caps vs=true->(∀r∈caps.map (·.1),(hp2 r).isSome=true)->jr θ (iL s rd) hp2 (F7 caps) (cL s vs)
 | [],[],_,_=>by rw [cL,F7,jr]
 | (r,off)::l,.ptr r1 off1::vs,h,hr=>by
   rw [KD,Bool.and_eq_true,Bool.and_eq_true] at h;obtain ⟨⟨h1,h2⟩,h3⟩:=h;obtain rfl:=of_decide_eq_true h2;rw [cL,F7,jr,SV.c];exact ⟨_,_,rfl,by rw [gG];exact ⟨r1,Aa h1,hr r (by simp),rfl⟩,QI l vs h3 fun x hx=>hr x (by simp at hx ⊢;exact .inr hx)⟩
 | [],_::_,h,_=>by cases h
 | (r,off)::l,[],h,_=>by cases h
 | (r,off)::l,.val _::vs,h,_=>by cases h
 | (r,off)::l,.int _ _::vs,h,_=>by cases h
 | (r,off)::l,.bool _::vs,h,_=>by cases h
 | (r,off)::l,.str _::vs,h,_=>by cases h
 | (r,off)::l,.lst _ _::vs,h,_=>by cases h
 | (r,off)::l,.ptx _ _ _ _::vs,h,_=>by cases h
 | (r,off)::l,.sl _ _ _ _ _::vs,h,_=>by cases h
 | (r,off)::l,.dpt _ _ _ _::vs,h,_=>by cases h
 | (r,off)::l,.agg _::vs,h,_=>by cases h
 | (r,off)::l,.tup _::vs,h,_=>by cases h
 | (r,off)::l,.clo _ _::vs,h,_=>by cases h
 | (r,off)::l,.undef::vs,h,_=>by cases h
 | (r,off)::l,.junk::vs,h,_=>by cases h
theorem Yt:∀ {caps:List (Nat×Nat)} {vs:List (SV σ)},KD some caps vs=true->(∀r∈caps.map (·.1),θ r=some r)->KD θ caps vs=true
 | [],[],_,_=>rfl
 | (r,off)::l,.ptr r1 off1::vs,h,hr=>by
   rw [KD,Bool.and_eq_true,Bool.and_eq_true] at h ⊢;obtain ⟨⟨h1,h2⟩,h3⟩:=h;refine ⟨⟨?_,h2⟩,Yt h3 fun x hx=>hr x (by simp at hx ⊢;exact .inr hx)⟩;rw [hr r (by simp)];exact h1
 | [],_::_,h,_=>by cases h
 | (r,off)::l,[],h,_=>by cases h
 | (r,off)::l,.val _::vs,h,_=>by cases h
 | (r,off)::l,.int _ _::vs,h,_=>by cases h
 | (r,off)::l,.bool _::vs,h,_=>by cases h
 | (r,off)::l,.str _::vs,h,_=>by cases h
 | (r,off)::l,.lst _ _::vs,h,_=>by cases h
 | (r,off)::l,.ptx _ _ _ _::vs,h,_=>by cases h
 | (r,off)::l,.sl _ _ _ _ _::vs,h,_=>by cases h
 | (r,off)::l,.dpt _ _ _ _::vs,h,_=>by cases h
 | (r,off)::l,.agg _::vs,h,_=>by cases h
 | (r,off)::l,.tup _::vs,h,_=>by cases h
 | (r,off)::l,.clo _ _::vs,h,_=>by cases h
 | (r,off)::l,.undef::vs,h,_=>by cases h
 | (r,off)::l,.junk::vs,h,_=>by cases h
theorem QJ:∀(c:CS) (v:SV σ) (p:PK σ (uC c).T),QE rd c v=some p->allT s p.cs->(∀x∈p.fz,rV θ hp2 x.1)->(∀x∈thC c v,θ x.1=x.2)->(∀x∈oC c (p.f s),(hp2 x.1).isSome=true)->(∀r∈fO [c],θ r=some r/\(hp2 r).isSome=true) ->
 gG θ (iL s rd) hp2 (aC c (p.f s)) (v.c s)/\∀x∈oC c (p.f s),vM θ (iL s rd) hp2 x.1 x.2
 | .dat u,v,p,hp,hc,hfz,hth,hl,hpt=>by
   refine ⟨?_,fun x hx=>(by simp [oC] at hx)⟩;simp only [QE] at hp;split at hp
   ·rename_i hs;cases u with
    | int k =>
      simp only [I5] at hp;split at hp
      ·rename_i k' f hf;split at hp
       ·rename_i hk _;obtain ⟨hk⟩:=hk;subst hk;cases hp;exact O5 (oI hf s)
       ·cases hp
      ·cases hp
    | bool =>
      simp only [I5] at hp;split at hp
      ·rename_i f hf;cases hp;exact O5 (zU hf s)
      ·cases hp
    | str =>
      simp only [I5] at hp;split at hp
      ·rename_i f hf;cases hp;exact O5 (tH hf s)
      ·cases hp
    | list t =>
      simp only [I5] at hp;exact akH hp hc hfz
    | pair a b=>cases hs
    | unit=>cases hs
   ·cases hp
 | .own r e u,v,p,hp,hc,hfz,hth,hl,hpt=>by
   simp only [QE] at hp;split at hp
   ·cases hp;have h1:=hth (r,none) (by simp [thC]);have h2:=hl (r,_) (List.mem_singleton.2 rfl);refine ⟨?_,fun x hx => ?_⟩
    ·rw [SV.c];simp only [aC,List.length_nil];rw [gG];exact ⟨h2,.inr (.inl ⟨h1,rfl,rfl,rfl,rfl⟩)⟩
    ·simp only [oC,List.mem_singleton] at hx;subst hx;unfold vM;simp only [h1];rfl
   ·rename_i r1 z n;split at hp
    ·rename_i e' u' f hr;split at hp
     ·rename_i hk _ hd;subst hk;obtain ⟨rfl,hz⟩:=of_decide_eq_true hd;cases hp;have hn:n s<=(f s).length:=of_decide_eq_true hc.1;have hn':((f s).take (n s)).length=n s:=by rw [List.length_take];omega
      have h1:=hth (r,some r1) (by simp [thC]);have h2:=hl (r,_) (List.mem_singleton.2 rfl);refine ⟨?_,fun x hx => ?_⟩
      ·rw [SV.c];simp only [aC,iq,wK,Nat.zero_mul,sF,hn'];rw [gG];exact ⟨h2,.inl ⟨r1,h1,rfl⟩⟩
      ·simp only [oC,List.mem_singleton] at hx;subst hx;unfold vM;simp only [h1];exact ⟨true,_,by simp only [iL,hr,Option.map_some,SO.c],.inr (.inr ⟨n s*fK u',(gy u' (n s) (f s)).symm⟩),fun _=>rfl,fun h=>(by cases h)⟩
     ·cases hp
    ·cases hp
   ·cases hp
 | .nil,v,p,hp,hc,hfz,hth,hl,hpt=>by
   refine ⟨?_,fun x hx=>(by simp [oC] at hx)⟩;simp only [QE] at hp;split at hp
   ·cases hp;exact O5 (by rw [SV.c])
   ·cases hp
 | .np,v,p,hp,hc,hfz,hth,hl,hpt=>by
   refine ⟨?_,fun x hx=>(by simp [oC] at hx)⟩;simp only [QE] at hp;split at hp
   ·cases hp;exact O5 (by rw [SV.c])
   ·cases hp
 | .pt r off,v,p,hp,hc,hfz,hth,hl,hpt=>by
   refine ⟨?_,fun x hx=>(by simp [oC] at hx)⟩;simp only [QE] at hp;split at hp
   ·split at hp
    ·rename_i hd;obtain ⟨rfl,rfl⟩:=of_decide_eq_true hd;cases hp;have:=hpt r (by simp [fO]);rw [SV.c];exact Dc (.ptr r off) fun r' hr'=>by simp [AV.refs] at hr';subst hr';exact this
    ·cases hp
   ·cases hp
 | .cl f caps,v,p,hp,hc,hfz,hth,hl,hpt=>by
   refine ⟨?_,fun x hx=>(by simp [oC] at hx)⟩;simp only [QE] at hp;split at hp
   ·rename_i f' vs;split at hp
    ·rename_i hd;rw [Bool.and_eq_true] at hd;obtain ⟨hd,hb⟩:=hd;obtain rfl:=of_decide_eq_true hd;cases hp;have hm:∀r∈caps.map (·.1),r∈fO [.cl f caps]:=fun r hr=>by show r∈caps.map (·.1)++[];rw [List.append_nil];exact hr
     have hb':KD θ caps vs=true:=Yt hb fun r hr=>(hpt r (hm r hr)).1;rw [SV.c];show gG θ _ hp2 (.clo f (F7 caps)) _;rw [gG];exact ⟨_,rfl,QI caps vs hb' fun r hr=>(hpt r (hm r hr)).2⟩
    ·cases hp
   ·cases hp
theorem Eu:∀(cs:List CS) (vs:List (SV σ)) (p:PK σ (jq cs).T),I8 rd cs vs=some p->allT s p.cs->(∀x∈p.fz,rV θ hp2 x.1)->(∀x∈WQ cs vs,θ x.1=x.2)->(∀x∈QG cs (p.f s),(hp2 x.1).isSome=true)->(∀r∈fO cs,θ r=some r/\(hp2 r).isSome=true) ->
 jr θ (iL s rd) hp2 (pJ cs (p.f s)) (cL s vs)/\∀x∈QG cs (p.f s),vM θ (iL s rd) hp2 x.1 x.2
 | [],[],p,hp,hc,hfz,hth,hl,hpt=>by
   refine ⟨?_,fun x hx=>(by cases hx)⟩;rw [cL,show pJ [] (p.f s)=[] from rfl,jr]
 | c::cs,v::vs,p,hp,hc,hfz,hth,hl,hpt=>by
   rw [I8] at hp;split at hp
   ·rename_i x y hx hy;cases hp;rw [bV] at hc;have e1:jF (uC c) (jq cs) (wU (uC c) (jq cs) (x.f s) (y.f s))=x.f s:=jX _ _ _ _;have e2:kN (uC c) (jq cs) (wU (uC c) (jq cs) (x.f s) (y.f s))=y.f s:=kT _ _ _ _;simp only [QG,e1,e2] at hl;have hpt1:∀r∈fO [c],θ r=some r/\(hp2 r).isSome=true:=fun r hr=>hpt r (by cases c<;>simp [fO] at hr ⊢ <;> simp [hr]);have hpt2:∀r∈fO cs,θ r=some r/\(hp2 r).isSome=true:=fun r hr=>hpt r (by cases c<;>simp [fO,hr]);obtain ⟨a1,a2⟩:=QJ c v x hx hc.1 (fun z hz=>hfz z (List.mem_append_left _ hz)) (fun z hz=>hth z (List.mem_append_left _ hz)) (fun z hz=>hl z (List.mem_append_left _ hz)) hpt1;obtain ⟨b1,b2⟩:=Eu cs vs y hy hc.2 (fun z hz=>hfz z (List.mem_append_right _ hz)) (fun z hz=>hth z (List.mem_append_right _ hz)) (fun z hz=>hl z (List.mem_append_right _ hz)) hpt2;refine ⟨?_,fun z hz => ?_⟩
    ·rw [cL];simp only [pJ,e1,e2];rw [jr];exact ⟨_,_,rfl,a1,b1⟩
    ·simp only [QG,e1,e2] at hz;rcases List.mem_append.1 hz with h | h
     ·exact a2 z h
     ·exact b2 z h
   ·cases hp
 | [],_::_,p,hp,_,_,_,_,_=>by cases hp
 | _::_,[],p,hp,_,_,_,_,_=>by cases hp
end
theorem gV {r:Nat} {l:List Nat}:kM r l=true↔r∈l:=by rw [Eo,List.contains_iff_mem]
theorem ny {r:Nat} {l:List Nat}:kM r l=false↔r∉l:=by rw [<-gV];cases kM r l<;>simp
section
variable {σ:Type} {s:σ} {θ:Nat->Option Nat} {hp2:Nat->Option AO}
theorem F8 {i:IT} {l:List IT}:∀r∈dU [i],r∈dU (i::l):=fun r hr=>by
 cases i<;>simp [dU] at hr ⊢ <;> simp [hr]
theorem F9 {i:IT} {l:List IT}:∀r∈dU l,r∈dU (i::l):=fun r hr=>by
 cases i<;>simp [dU]<;>simp [hr]
theorem akI {d:SS σ} {N:Nat}:∀(i:IT) (p:PK σ (uI i).T),pkI d i=some p->allT s p.cs->(∀x∈p.fz,rV θ hp2 x.1)->(∀x∈thI d i,θ x.1=x.2)->(∀x∈aH i (p.f s),(hp2 x.1).isSome=true)->(∀r∈dU [i],θ r=some r/\(hp2 r).isSome=true)->(∀r∈kV [i],θ r=some r) ->
 (∀x∈aT i (p.f s),gG θ (d.c s N).rd hp2 x.2 ((d.c s N).get x.1))/\∀x∈aH i (p.f s),vM θ (d.c s N).rd hp2 x.1 x.2
 | .tmp t agg cs,p,hp,hc,hfz,hth,hl,hpt,hcv=>by
   rw [<-mV s N];have hget:∀v,jI t d.tm=some v->(d.c s N).get t=v.c s:=fun v hv=>by
    rw [jR] at hv;unfold SL.get SS.c;simp only [ql,hv,Option.map_some]
   have hpt':∀r∈fO cs,θ r=some r/\(hp2 r).isSome=true:=fun r hr=>hpt r (by simp [dU,hr]);simp only [pkI] at hp;simp only [thI] at hth;cases hv:jI t d.tm with
   | none=>simp only [hv] at hp;cases hp
   | some v =>
     simp only [hv] at hp hth;cases agg with
     | false =>
       simp only at hp hth;obtain ⟨a,b⟩:=Eu cs [v] p hp hc hfz hth hl hpt';refine ⟨fun x hx => ?_,b⟩;have hx:x∈[(t,oJ (pJ cs (p.f s)))]:=hx;rw [List.mem_singleton] at hx;subst hx;show gG θ _ hp2 (oJ (pJ cs (p.f s))) ((d.c s N).get t);rw [hget v hv];rw [cL,cL] at a;generalize pJ cs (p.f s)=ys at a ⊢;cases ys with
       | nil=>rw [jr] at a;cases a
       | cons y ys =>
         rw [jr] at a;obtain ⟨x,xs,h1,h2,h3⟩:=a;cases h1;cases ys with
         | nil=>exact h2
         | cons z zs=>rw [jr] at h3;obtain ⟨_,_,h4,_⟩:=h3;cases h4
     | true =>
       simp only at hp hth;cases v with
       | agg vs =>
         simp only at hp hth;obtain ⟨a,b⟩:=Eu cs vs p hp hc hfz hth hl hpt';refine ⟨fun x hx => ?_,b⟩;have hx:x∈[(t,AV.agg (pJ cs (p.f s)))]:=hx;rw [List.mem_singleton] at hx;subst hx;show gG θ _ hp2 (.agg (pJ cs (p.f s))) ((d.c s N).get t);rw [hget _ hv,SV.c,gG];exact ⟨_,rfl,a⟩
       | _=>cases hp
 | .mix r cs,p,hp,hc,hfz,hth,hl,hpt,hcv=>by
   rw [<-mV s N];refine ⟨fun x hx=>(by cases hx),?_⟩;simp only [pkI] at hp;simp only [thI] at hth;cases hvs:kS d r with
   | none=>simp only [hvs] at hp;cases hp
   | some o =>
     cases o with
     | mix vs =>
       simp only [hvs] at hp hth;have hpt':∀r∈fO cs,θ r=some r/\(hp2 r).isSome=true:=fun r hr=>hpt r (by simp [dU,hr]);obtain ⟨a,b⟩:=Eu cs vs p hp hc hfz hth (fun x hx=>hl x (List.mem_cons_of_mem _ hx)) hpt';intro x hx;rcases List.mem_cons.1 hx with rfl | hx
       ·unfold vM;have hr:θ r=some r:=hcv r (by simp [kV]);simp only [hr];exact ⟨_,by simp only [iL,hvs,Option.map_some,SO.c],a⟩
       ·exact b x hx
     | data e u f wr=>simp only [hvs] at hp;cases hp
     | arr u f=>simp only [hvs] at hp;cases hp
     | mp f=>simp only [hvs] at hp;cases hp
     | dead=>simp only [hvs] at hp;cases hp
 | .row r e u,p,hp,hc,hfz,hth,hl,hpt,hcv=>by
   rw [<-mV s N];refine ⟨fun x hx=>(by cases hx),?_⟩;simp only [pkI] at hp;split at hp
   ·rename_i e' u' f hr;split at hp
    ·rename_i hk _ hd;subst hk;have hd:=of_decide_eq_true hd;subst hd;cases hp;intro x hx;have hx:x∈[(r,AO.data e' (fK u') (aI u' (f s)) true)]:=hx;rw [List.mem_singleton] at hx;subst hx;exact zZ (hcv r (by simp [kV])) (by simp only [iL,hr,Option.map_some,SO.c]) (fun r hr=>(by cases hr))
    ·cases hp
   ·cases hp
 | .arr r u,p,hp,hc,hfz,hth,hl,hpt,hcv=>by
   rw [<-mV s N];refine ⟨fun x hx=>(by cases hx),?_⟩;simp only [pkI] at hp;split at hp
   ·rename_i u' f hr;split at hp
    ·rename_i hk _;subst hk;cases hp;intro x hx;have hx:x∈[(r,AO.mix ((aI u' (f s)).map .d))]:=hx;rw [List.mem_singleton] at hx;subst hx;exact zZ (hcv r (by simp [kV])) (by simp only [iL,hr,Option.map_some,SO.c]) (fun r hr=>(by simp [D9,xI] at hr))
    ·cases hp
   ·cases hp
 | .mp r,p,hp,hc,hfz,hth,hl,hpt,hcv=>by
   rw [<-mV s N];refine ⟨fun x hx=>(by cases hx),?_⟩;simp only [pkI] at hp;split at hp
   ·rename_i f hr;cases hp;intro x hx;have hx:x∈[(r,AO.mp (f s))]:=hx;rw [List.mem_singleton] at hx;subst hx;exact zZ (hcv r (by simp [kV])) (by simp only [iL,hr,Option.map_some,SO.c]) (fun r hr=>(by cases hr))
   ·cases hp
 | .drop t,p,hp,hc,hfz,hth,hl,hpt,hcv=>by
   refine ⟨fun x hx => ?_,fun x hx=>(by cases hx)⟩;have hx:x∈[(t,AV.junk)]:=hx;rw [List.mem_singleton] at hx;subst hx;rw [gG];trivial
 | .dead r,p,hp,hc,hfz,hth,hl,hpt,hcv=>by
   refine ⟨fun x hx=>(by cases hx),fun x hx => ?_⟩;have hx:x∈[(r,AO.dead)]:=hx;rw [List.mem_singleton] at hx;subst hx;unfold vM;simp only [hcv r (by simp [kV])]
theorem agI {i:IT} {l:List IT}:∀r∈kV [i],r∈kV (i::l):=fun r hr=>by
 cases i<;>simp [kV] at hr ⊢ <;> simp [hr]
theorem agJ {i:IT} {l:List IT}:∀r∈kV l,r∈kV (i::l):=fun r hr=>by
 cases i<;>simp [kV]<;>simp [hr]
theorem Yu {d:SS σ} {N:Nat}:∀(l:List IT) (p:PK σ (bZ l).T),agE d l=some p->allT s p.cs->(∀x∈p.fz,rV θ hp2 x.1)->(∀x∈wL d l,θ x.1=x.2)->(∀x∈oM l (p.f s),(hp2 x.1).isSome=true)->(∀r∈dU l,θ r=some r/\(hp2 r).isSome=true)->(∀r∈kV l,θ r=some r) ->
 (∀x∈lU l (p.f s),gG θ (d.c s N).rd hp2 x.2 ((d.c s N).get x.1))/\∀x∈oM l (p.f s),vM θ (d.c s N).rd hp2 x.1 x.2
 | [],p,hp,hc,hfz,hth,hl,hpt,hcv=>⟨fun x hx=>(by cases hx),fun x hx=>(by cases hx)⟩
 | i::l,p,hp,hc,hfz,hth,hl,hpt,hcv=>by
   rw [agE] at hp;split at hp
   ·rename_i x y hx hy;cases hp;rw [bV] at hc;have e1:jF (uI i) (bZ l) (wU (uI i) (bZ l) (x.f s) (y.f s))=x.f s:=jX _ _ _ _;have e2:kN (uI i) (bZ l) (wU (uI i) (bZ l) (x.f s) (y.f s))=y.f s:=kT _ _ _ _;simp only [oM,e1,e2] at hl;obtain ⟨a1,a2⟩:=akI (N:=N) i x hx hc.1 (fun z hz=>hfz z (List.mem_append_left _ hz)) (fun z hz=>hth z (List.mem_append_left _ hz)) (fun z hz=>hl z (List.mem_append_left _ hz)) (fun r hr=>hpt r (F8 r hr)) (fun r hr=>hcv r (agI r hr));obtain ⟨b1,b2⟩:=Yu (N:=N) l y hy hc.2 (fun z hz=>hfz z (List.mem_append_right _ hz)) (fun z hz=>hth z (List.mem_append_right _ hz)) (fun z hz=>hl z (List.mem_append_right _ hz)) (fun r hr=>hpt r (F9 r hr)) (fun r hr=>hcv r (agJ r hr));simp only [lU,oM,e1,e2];refine ⟨fun z hz => ?_,fun z hz => ?_⟩
    ·rcases List.mem_append.1 hz with h | h
     ·exact a1 z h
     ·exact b1 z h
    ·rcases List.mem_append.1 hz with h | h
     ·exact a2 z h
     ·exact b2 z h
   ·cases hp
end
def SA (th:List (Nat×Option Nat)) (r:Nat):Option Nat:=match look r th with | some x=>x | none=>some r
theorem Ew:∀th:List (Nat×Option Nat),jy th=th.map (·.1)
 | []=>rfl
 | (r,x)::l=>by rw [jy,Ew l];rfl
theorem agK {th:List (Nat×Option Nat)} (hn:nodupB (jy th)=true):∀x∈th,SA th x.1=x.2:=by
 induction th with
 | nil=>intro x hx;cases hx
 | cons y l ih =>
   intro x hx;obtain ⟨k,v⟩:=y;rw [jy,nodupB,Bool.and_eq_true] at hn;have hk:k∉jy l:=by have:=hn.1;simp only [Bool.not_eq_true'] at this;exact ny.1 this
   rcases List.mem_cons.1 hx with rfl | hx
   ·unfold SA;rw [look,if_pos rfl]
   ·have hne:k≠x.1:=fun e=>hk (by rw [Ew,e];exact List.mem_map.2 ⟨x,hx,rfl⟩);have:=ih hn.2 x hx;unfold SA at this ⊢;rw [look,if_neg hne];exact this
theorem lC {th:List (Nat×Option Nat)} {r:Nat} (h:r∉jy th):SA th r=some r:=by
 unfold SA;cases hl:look r th with
 | none=>rfl
 | some x=>exact (h (by rw [Ew];exact List.mem_map.2 ⟨_,bH hl,rfl⟩)).elim
theorem Ac {th:List (Nat×Option Nat)} {r:Nat} (h:r∈jy th):∃x,(r,x)∈th/\SA th r=x:=by
 unfold SA;cases hl:look r th with
 | none =>
   exfalso;rw [Ew] at h;obtain ⟨y,hy,rfl⟩:=List.mem_map.1 h;have:∀l:List (Nat×Option Nat),y∈l->look y.1 l≠none:=by
    intro l
    induction l with
    | nil=>intro h;cases h
    | cons z l ih =>
      intro h;rw [look];split
      ·simp
      ·rcases List.mem_cons.1 h with rfl | h
       ·rename_i hne;exact (hne rfl).elim
       ·exact ih h
   exact this th hy hl
 | some x=>exact ⟨x,bH hl,rfl⟩
theorem WS {GL:Nat->Option (List DV)} {N:Nat} {hp0:Nat->Option AO} {s s':SL} (θ:Nat->Option Nat) (hk:∀r o,hp0 r=some o->θ r=some r/\(s'.rd r).isSome=true) (hw:NV θ s.rd s'.rd) (ht:∀t v,look t s'.tm=some v->gG θ s.rd s'.rd v (s.get t)):uP GL N hp0 s.S s'.S:=fun E0 w0 E a w he hS hA=>by
 have hp:E.hp=s.rd:=hS.hp;have hw':NV θ E.hp s'.rd:=by rw [hp];exact hw
 refine ⟨kY E θ s'.rd,⟨hS.h,rfl,qJ hS.sim hw',hS.n,hS.df,fun t => ?_⟩,⟨xu hA hw' (fun r o ho=>by rw [he] at ho;exact hk r o ho),qK hw' hA.fr⟩⟩;show Rel _ (s'.get t) _;unfold SL.get;cases hl:look t s'.tm with
 | none=>simp only;rw [Rel];trivial
 | some y =>
   have:=ht _ _ hl;rw [<-hp] at this;exact uO hS.sim hw' _ _ _ this (hS.tm t)
section
variable {σ τ σ':Type}
theorem Gf {s:σ} {d:SS σ} {N r:Nat} (h:Uk (kS d r)=true) {o:AO} (ho:(d.c s N).rd r=some o):o.mutB=false:=by
 rw [<-mV] at ho;unfold iL at ho;unfold Uk at h;split at h
 ·rename_i e;rw [e] at ho;cases ho
 ·rename_i e;rw [e] at ho;cases ho;rfl
 ·rename_i e;rw [e] at ho;cases ho;rfl
 ·cases h
theorem Gg {s:σ} {d:SS σ} {N r:Nat} (h:iM (kS d) r=false):((d.c s N).rd r).isSome=true:=by
 rw [<-mV];unfold iM at h;unfold iL;split at h
 ·cases h
 ·rename_i e;rw [e];rfl
theorem Dh {s:σ} {d:SS σ} {N r:Nat} (h:iM (kS d) r=true):(d.c s N).rd r=none:=by
 rw [<-mV];unfold iM at h;unfold iL;split at h
 ·rename_i e;rw [e];rfl
 ·cases h
theorem Bc {keys:List Nat} {dh:SS σ'}:∀ {l:List (Nat×SV σ)} {skip:List Nat},aaY keys dh skip l=true->∀t v,t∉skip->look t l=some v->WR keys dh v.refs=true
 | [],skip,_,t,v,_,h=>by cases h
 | (k,x)::l,skip,hok,t,v,ht,h=>by
   rw [aaY] at hok;rw [look] at h;by_cases hk:k=t
   ·subst hk;rw [if_pos rfl] at h;cases h;rw [ny.2 ht] at hok;simp only [Bool.and_eq_true] at hok;exact hok.1
   ·rw [if_neg hk] at h;cases hm:kM k skip with
    | true=>rw [hm] at hok;exact Bc hok t v ht h
    | false =>
      rw [hm] at hok;simp only [Bool.and_eq_true] at hok;exact Bc hok.2 t v (fun hin=>by rcases List.mem_cons.1 hin with e | e;exact hk e.symm;exact ht e) h
theorem Bf {keys:List Nat} {dh:SS σ'}:∀ {l:List (Nat×SO σ)} {skip:List Nat},aaZ keys dh skip l=true->∀r o,r∉skip->look r l=some o->r∉keys/\WR keys dh (KE o)=true
 | [],skip,_,t,v,_,h=>by cases h
 | (k,x)::l,skip,hok,t,v,ht,h=>by
   rw [aaZ] at hok;rw [look] at h;by_cases hk:k=t
   ·subst hk;rw [if_pos rfl] at h;cases h;rw [ny.2 ht] at hok;simp only [Bool.and_eq_true,Bool.not_eq_true'] at hok;exact ⟨ny.1 hok.1.1,hok.1.2⟩
   ·rw [if_neg hk] at h;cases hm:kM k skip with
    | true=>rw [hm] at hok;exact Bf hok t v ht h
    | false =>
      rw [hm] at hok;simp only [Bool.and_eq_true] at hok;exact Bf hok.2 t v (fun hin=>by rcases List.mem_cons.1 hin with e | e;exact hk e.symm;exact ht e) h
theorem QK (s:σ) (o:SO σ):D9 (o.c s)=KE o:=by
 cases o with
 | mix cs=>exact yD s cs
 | arr u f=>show AV.refs.refsL ((aI u (f s)).map .d)=[];rw [xI]
 | data e t f wr=>rfl
 | mp f=>rfl
 | dead=>rfl
theorem QL:∀(its:List IT) (x:(bZ its).T) (t:Nat),t∈qB its->∃v,(t,v)∈lU its x
 | [],_,_,h=>by cases h
 | i::l,x,t,h=>by
   have tl:t∈qB l->∃v,(t,v)∈lU (i::l) x:=fun h=>by
    obtain ⟨v,hv⟩:=QL l (kN (uI i) (bZ l) x) t h;exact ⟨v,by rw [lU];exact List.mem_append_right _ hv⟩
   cases i with
   | tmp k a cs =>
     rw [qB] at h;rcases List.mem_cons.1 h with rfl | h
     ·cases a with
      | true=>exact ⟨_,by rw [lU];exact List.mem_append_left _ (List.mem_singleton.2 rfl)⟩
      | false=>exact ⟨_,by rw [lU];exact List.mem_append_left _ (List.mem_singleton.2 rfl)⟩
     ·exact tl h
   | drop k =>
     rw [qB] at h;rcases List.mem_cons.1 h with rfl | h
     ·exact ⟨_,by rw [lU];exact List.mem_append_left _ (List.mem_singleton.2 rfl)⟩
     ·exact tl h
   | mix r cs=>exact tl (by simpa [qB] using h)
   | row r e u=>exact tl (by simpa [qB] using h)
   | arr r u=>exact tl (by simpa [qB] using h)
   | mp r=>exact tl (by simpa [qB] using h)
   | dead r=>exact tl (by simpa [qB] using h)
theorem qP {α:Type} {k:Nat}:∀ {l:List (Nat×α)},k∉l.map (·.1)->look k l=none
 | [],_=>rfl
 | (i,x)::l,h=>by
   rw [List.map_cons] at h;rw [look,if_neg (fun e=>h (by rw [e];exact List.mem_cons_self))];exact qP fun hm=>h (List.mem_cons_of_mem _ hm)
theorem QM:∀(its:List IT) (x:(bZ its).T) (r:Nat),r∈kV its->∃o,(r,o)∈oM its x
 | [],_,_,h=>by cases h
 | i::l,x,t,h=>by
   have tl:t∈kV l->∃v,(t,v)∈oM (i::l) x:=fun h=>by
    obtain ⟨v,hv⟩:=QM l (kN (uI i) (bZ l) x) t h;exact ⟨v,by rw [oM];exact List.mem_append_right _ hv⟩
   cases i with
   | tmp k a cs=>exact tl (by simpa [kV] using h)
   | drop k=>exact tl (by simpa [kV] using h)
   | mix r cs =>
     rw [kV] at h;rcases List.mem_cons.1 h with rfl | h
     ·exact ⟨_,by rw [oM];exact List.mem_append_left _ List.mem_cons_self⟩
     ·exact tl h
   | row r e u =>
     rw [kV] at h;rcases List.mem_cons.1 h with rfl | h
     ·exact ⟨_,by rw [oM];exact List.mem_append_left _ (List.mem_singleton.2 rfl)⟩
     ·exact tl h
   | arr r u =>
     rw [kV] at h;rcases List.mem_cons.1 h with rfl | h
     ·exact ⟨_,by rw [oM];exact List.mem_append_left _ (List.mem_singleton.2 rfl)⟩
     ·exact tl h
   | mp r =>
     rw [kV] at h;rcases List.mem_cons.1 h with rfl | h
     ·exact ⟨_,by rw [oM];exact List.mem_append_left _ (List.mem_singleton.2 rfl)⟩
     ·exact tl h
   | dead r =>
     rw [kV] at h;rcases List.mem_cons.1 h with rfl | h
     ·exact ⟨_,by rw [oM];exact List.mem_append_left _ (List.mem_singleton.2 rfl)⟩
     ·exact tl h
end
section
variable {σ τ:Type}
def adP (d:SS σ) (its:List IT) (d':SS τ):Option (PK τ (bZ its).T) :=
 match agE d' its with
 | none=>none
 | some p=>match ajm d its d' p.fz with
   | true=>some p
   | false=>none
theorem uF (d:SS σ) (its:List IT):Grow d Prod.fst (headD d its):=⟨⟨_,rfl⟩,⟨_,rfl⟩⟩
theorem jT {α:Type} {k:Nat} {l:List (Nat×α)} {v:α} (h:(k,v)∈l):∃w,look k l=some w:=by
 cases hl:look k l with
 | some w=>exact ⟨w,rfl⟩
 | none=>exact (qG hl v h).elim
theorem KG (g:τ->σ):∀l:List (Nat×SV σ),(oH g l).length=l.length
 | []=>rfl
 | (t,v)::l=>by rw [oH,List.length_cons,List.length_cons,KG g l]
theorem Ey (g:τ->σ):∀l:List (Nat×SO σ),(jS g l).length=l.length
 | []=>rfl
 | (t,v)::l=>by rw [jS,List.length_cons,List.length_cons,Ey g l]
theorem nC {σ':Type} {keys:List Nat} {dh:SS σ'}:∀ {th:List (Nat×Option Nat)},KF keys dh th=true->(∀r x,(r,some x)∈th->x∈keys\/Uk (kS dh x)=true)/\∀r r' x,(r,some x)∈th->(r',some x)∈th->r=r'
 | [],_=>⟨fun r x h=>(by cases h),fun r r' x h=>(by cases h)⟩
 | (k,none)::l,h=>by
   rw [KF] at h;obtain ⟨a,b⟩:=nC h;refine ⟨fun r x hm => ?_,fun r r' x hm hm' => ?_⟩
   ·rcases List.mem_cons.1 hm with e | hm
    ·cases e
    ·exact a r x hm
   ·rcases List.mem_cons.1 hm with e | hm
    ·cases e
    ·rcases List.mem_cons.1 hm' with e | hm'
     ·cases e
     ·exact b r r' x hm hm'
 | (k,some y)::l,h=>by
   rw [KF,Bool.and_eq_true,Bool.and_eq_true] at h;obtain ⟨⟨h1,h2⟩,h3⟩:=h;obtain ⟨a,b⟩:=nC h3;have hno:∀r x,(r,some x)∈l->y≠x:=fun r x hm=>by
    have:=List.all_eq_true.1 h2 _ hm;simpa using this
   refine ⟨fun r x hm => ?_,fun r r' x hm hm' => ?_⟩
   ·rcases List.mem_cons.1 hm with e | hm
    ·cases e;rcases (Bool.or_eq_true _ _).mp h1 with h | h
     ·exact .inl (gV.1 h)
     ·exact .inr h
    ·exact a r x hm
   ·rcases List.mem_cons.1 hm with e | hm
    ·cases e;rcases List.mem_cons.1 hm' with e | hm'
     ·cases e;rfl
     ·exact (hno _ _ hm' rfl).elim
    ·rcases List.mem_cons.1 hm' with e | hm'
     ·cases e;exact (hno _ _ hm rfl).elim
     ·exact b r r' x hm hm'
theorem aa0 {N:Nat} {d:SS σ} {its:List IT} {g:τ->σ} {d':SS τ} {p:PK τ (bZ its).T} {s:τ} (hg:Grow d g d') (h:adP d its d'=some p) (hc:allT s p.cs) :
 ∃ θ:Nat->Option Nat,(∀r,(look r d.hp).isSome=true->θ r=some r/\(((headD d its).c (g s,p.f s) N).rd r).isSome=true)/\NV θ (d'.c s N).rd ((headD d its).c (g s,p.f s) N).rd /\
   ∀t v,look t ((headD d its).c (g s,p.f s) N).tm=some v->gG θ (d'.c s N).rd ((headD d its).c (g s,p.f s) N).rd v ((d'.c s N).get t):=by
 unfold adP at h;split at h
 ·cases h
 rename_i p' hp;split at h
 ·rename_i hB;cases h;unfold ajm at hB;simp only [Bool.and_eq_true] at hB;obtain ⟨⟨⟨b1,b2⟩,⟨b3,b4⟩,b5,b6⟩,⟨b7,b8⟩,b9,b10,b11⟩:=hB
  -- the names
  have hkey:=agK b3;have hkd:∀r∈jy (wL d' its),look r d.hp=none/\r∉kV its:=fun r hr=>by
   have:=List.all_eq_true.1 b4 r hr;rw [Bool.and_eq_true,Bool.not_eq_true'] at this;refine ⟨?_,ny.1 this.2⟩;have h1:=this.1;unfold iM kS at h1;rw [jR] at h1;split at h1
   ·assumption
   ·cases h1
  have hT:((headD d its).c (g s,p.f s) N).tm=lU its (p.f s)++cT (g s) d.tm:=by
   show cT (g s,p.f s) (oQ its Prod.snd++oH Prod.fst d.tm)=_;rw [xE,uZ,Qs]
  have hH:((headD d its).c (g s,p.f s) N).hp=oM its (p.f s)++cO (g s) d.hp:=by
   show cO (g s,p.f s) (jf its Prod.snd++jS Prod.fst d.hp)=_;rw [dJ,zY,rD]
  have hHs:∀r,(∃o,(r,o)∈oM its (p.f s))->(((headD d its).c (g s,p.f s) N).rd r).isSome=true:=fun r ⟨o,ho⟩=>by
   unfold SL.rd;rw [hH,bQ];obtain ⟨w,hw⟩:=jT ho;rw [hw];rfl
  have hNs:∀l,WR (jy (wL d' its)) (headD d its) l=true->∀r∈l,SA (wL d' its) r=some r/\(((headD d its).c (g s,p.f s) N).rd r).isSome=true:=fun l hl r hr=>by
   have:=List.all_eq_true.1 hl r hr;unfold okN at this;rw [Bool.and_eq_true,Bool.not_eq_true',Bool.not_eq_true'] at this;exact ⟨lC (ny.1 this.1),Gg this.2⟩
  -- the items
  have hcov:∀r∈kV its,SA (wL d' its) r=some r:=fun r hr=>lC fun hk=>(hkd r hk).2 hr;have hfz:∀x∈p.fz,rV (SA (wL d' its)) ((headD d its).c (g s,p.f s) N).rd x.1:=fun x hx r' hr' o ho=>by
   have:=List.all_eq_true.1 b6 x hx;unfold QF at this;rw [Bool.and_eq_true] at this;obtain ⟨f1,f2⟩:=this;by_cases hk:r'∈jy (wL d' its)
   ·obtain ⟨y,hy1,hy2⟩:=Ac hk;rw [hy2] at hr';subst hr';have:=List.all_eq_true.1 f1 _ hy1;simp at this
   ·rw [lC hk] at hr';cases hr';rcases (Bool.or_eq_true _ _).mp f2 with h | h
    ·exact (hk (gV.1 h)).elim
    ·exact Gf h ho
  obtain ⟨w1,w2⟩:=Yu (s:=s) (N:=N) (θ:=SA (wL d' its)) (hp2:=((headD d its).c (g s,p.f s) N).rd) its p hp hc hfz hkey (fun x hx=>hHs x.1 ⟨x.2,hx⟩) (hNs _ b9) hcov
  -- what is kept
  obtain ⟨⟨l1,g1⟩,⟨l2,g2⟩⟩:=hg;have hl1:d'.tm.take (d'.tm.length-d.tm.length)=l1:=by rw [g1,List.length_append,KG,Nat.add_sub_cancel,List.take_left]
  have hl2:d'.hp.take (d'.hp.length-d.hp.length)=l2:=by rw [g2,List.length_append,Ey,Nat.add_sub_cancel,List.take_left]
  rw [hl1] at b1;rw [hl2] at b2;have keptT:∀t w,t∉qB its->look t d.tm=some w->(d'.c s N).get t=w.c (g s):=fun t w ht hw=>by
   unfold SL.get SS.c;simp only [ql,g1,bQ];rw [qP (l:=l1) (fun hm => ?_)]
   ·have:look t (oH g d.tm)=some (w.map g):=by
     have:∀l:List (Nat×SV σ),look t (oH g l)=(look t l).map (SV.map g):=by
      intro l
      induction l with
      | nil=>rfl
      | cons x l ih =>
        obtain ⟨k,v⟩:=x;rw [oH,look,look];split
        ·rfl
        ·exact ih
     rw [this,hw];rfl
    simp only [this,Option.map_some,Yd]
   ·obtain ⟨x,hx,rfl⟩:=List.mem_map.1 hm;have:=List.all_eq_true.1 b1 x hx;rcases (Bool.or_eq_true _ _).mp this with h | h
    ·exact ht (gV.1 h)
    ·rw [jR,hw] at h;cases h
  have keptH:∀r w,r∉kV its->look r d.hp=some w->(d'.c s N).rd r=some (w.c (g s)):=fun r w ht hw=>by
   unfold SL.rd SS.c;simp only [lu,g2,bQ];rw [qP (l:=l2) (fun hm => ?_)]
   ·have:look r (jS g d.hp)=some (w.map g):=by
     have:∀l:List (Nat×SO σ),look r (jS g l)=(look r l).map (SO.map g):=by
      intro l
      induction l with
      | nil=>rfl
      | cons x l ih =>
        obtain ⟨k,v⟩:=x;rw [jS,look,look];split
        ·rfl
        ·exact ih
     rw [this,hw];rfl
    simp only [this,Option.map_some,Qr]
   ·obtain ⟨x,hx,rfl⟩:=List.mem_map.1 hm;have:=List.all_eq_true.1 b2 x hx;rcases (Bool.or_eq_true _ _).mp this with h | h
    ·exact ht (gV.1 h)
    ·unfold iM kS at h;rw [jR,hw] at h;cases h
  have notH:∀r,look r (oM its (p.f s))=none->r∉kV its:=fun r hn hr=>by
   obtain ⟨o,ho⟩:=QM its (p.f s) r hr;exact qG hn o ho
  refine ⟨SA (wL d' its),fun r hs => ?_,⟨fun r o ho => ?_,fun r' r'' o' o'' r ho' ho'' hm' hm'' ht' ht'' => ?_⟩,fun t v hv => ?_⟩
  ·refine ⟨lC fun hk => ?_,?_⟩
   ·rw [(hkd r hk).1] at hs;cases hs
   ·unfold SL.rd;rw [hH,bQ];cases look r (oM its (p.f s)) with
    | some x=>rfl
    | none =>
      simp only [lu];cases hl:look r d.hp with
      | none=>rw [hl] at hs;cases hs
      | some w=>rfl
  ·unfold SL.rd at ho;rw [hH,bQ] at ho;cases hl:look r (oM its (p.f s)) with
   | some x =>
     rw [hl] at ho;cases ho;exact w2 _ (bH hl)
   | none =>
     rw [hl] at ho;simp only [lu] at ho;cases hw:look r d.hp with
     | none=>rw [hw] at ho;cases ho
     | some w =>
       rw [hw] at ho;cases ho;have hnc:=notH r hl;obtain ⟨k1,k2⟩:=Bf b8 r w hnc hw;exact zZ (lC k1) (keptH r w hnc hw) (fun q hq=>hNs _ k2 q (by rw [QK] at hq;exact hq))
  ·by_cases k1:r'∈jy (wL d' its)
   ·obtain ⟨x,x1,x2⟩:=Ac k1;rw [x2] at ht';subst ht';by_cases k2:r''∈jy (wL d' its)
    ·obtain ⟨y,y1,y2⟩:=Ac k2;rw [y2] at ht'';subst ht'';exact (nC b5).2 _ _ _ x1 y1
    ·rw [lC k2] at ht'';cases ht'';rcases (nC b5).1 _ _ x1 with h | h
     ·exact (k2 h).elim
     ·rw [Gf h ho''] at hm'';cases hm''
   ·rw [lC k1] at ht';cases ht';by_cases k2:r''∈jy (wL d' its)
    ·obtain ⟨y,y1,y2⟩:=Ac k2;rw [y2] at ht'';subst ht'';rcases (nC b5).1 _ _ y1 with h | h
     ·exact (k1 h).elim
     ·rw [Gf h ho'] at hm';cases hm'
    ·rw [lC k2] at ht'';cases ht'';rfl
  ·rw [hT,bQ] at hv;cases hl:look t (lU its (p.f s)) with
   | some x =>
     rw [hl] at hv;cases hv;exact w1 _ (bH hl)
   | none =>
     rw [hl] at hv;simp only [ql] at hv;cases hw:look t d.tm with
     | none=>rw [hw] at hv;cases hv
     | some w =>
       rw [hw] at hv;cases hv;have hnc:t∉qB its:=fun hc=>by
        obtain ⟨v,hv⟩:=QL its (p.f s) t hc;exact qG hl v hv
       rw [keptT t w hnc hw];exact Dc _ fun r hr=>hNs _ (Bc b7 t w hnc hw) r (by rw [J6] at hr;exact hr)
 ·cases h
end
theorem Il {a b c:AO} (h:a.like b) (k:b.like c) (hb:b ≠ .dead):a.like c:=by
 cases a<;>cases b<;>cases c<;>simp_all [AO.like]
theorem vM.same {θ:Nat->Option Nat} {hp1 hp2:Nat->Option AO} {r':Nat} {o:AO} (h:vM θ hp1 hp2 r' o) (hd:o ≠ .dead) {r:Nat} (ht:θ r'=some r):∃o1,hp1 r=some o1/\o1 ≠ .dead/\o1.like o:=by
 unfold vM at h;rw [ht] at h;cases o with
 | dead=>exact (hd rfl).elim
 | data e s cs wr=>obtain ⟨wr1,cs1,h1,_⟩:=h;exact ⟨_,h1,by simp,⟨rfl,rfl⟩⟩
 | mix cs=>obtain ⟨cs1,h1,_⟩:=h;exact ⟨_,h1,by simp,trivial⟩
 | mp ks=>exact ⟨_,h,by simp,trivial⟩
theorem aof {P:Program} {GL:Nat->Option (List DV)} {f:FuncId} {argsC args:List AV} {osC os usC us:List (Nat×AO)} {vC v:AV} {θ θ':Nat->Option Nat} (h:fB P GL f argsC osC vC usC)
 (hw:NV θ (aJ os) (aJ osC)) (ha:jr θ (aJ os) (aJ osC) argsC args) (hw':NV θ' (aJ usC) (aJ us)) (hv:gG θ' (aJ usC) (aJ us) v vC)
 (hk:∀r o,look r os=some o->∃o',look r us=some o'/\∃c oc,θ' r=some c/\θ c=some r/\look c osC=some oc/\oc ≠ .dead):fB P GL f args os v us:=fun E w vs hE hwh hs hrel=>by
 have hw0:NV θ E.hp (aJ osC):=by rw [hE];exact hw
 have ha0:jr θ E.hp (aJ osC) argsC args:=by rw [hE];exact ha
 refine (h (kY E θ (aJ osC)) w vs rfl hwh (qJ hs hw0) (uq hs hw0 argsC args vs.toList ha0 hrel)).mono ?_;rintro e w' ⟨u,E2,rfl,h1,h2,h3,h4,h5,h6⟩;have hw2:NV θ' E2.hp (aJ us):=by rw [h2];exact hw'
 have hv2:gG θ' E2.hp (aJ us) v vC:=by rw [h2];exact hv
 refine ⟨u,kY E2 θ' (aJ us),rfl,h1,rfl,qJ h3 hw2,⟨rW.trans (h4.sub.trans rW),fun r o ho => ?_⟩,qK hw2 ((qK hw0 (oZ.refl E w)).trans h5),uO h3 hw2 v vC u hv2 h6⟩;rw [hE] at ho;obtain ⟨o',k1,c,oc,k2,k3,k4,k5⟩:=hk r o ho;have k1':(kY E2 θ' (aJ us)).hp r=some o':=k1;have hc:=hw0.ob c oc k4;obtain ⟨o1,q1,q2,q3⟩:=hc.same k5 k3;rw [hE] at q1;have:o1=o:=by have e:aJ os r=some o:=ho;rw [q1] at e;cases e;rfl
 subst this;refine ⟨o',k1',?_⟩;by_cases hd:o' = .dead
 ·subst hd;exact ⟨by cases o1<;>simp_all [AO.like],.inl rfl⟩
 ·obtain ⟨o2,p1,p2,p3⟩:=(hw2.ob r o' k1').same hd k2;obtain ⟨oc',p4,p5,p6⟩:=h4.ob c oc k4;rw [p1] at p4;cases p4;refine ⟨Il q3 (Il p5 p3 p2) k5,.inr ?_⟩;rcases p6 with p6 | p6
  ·exact (p2 p6).elim
  ·rw [qI k2,p6,qI k3]
def nY:List (Nat×Option Nat)->Nat->Option Nat
 | [],_=>none
 | (r,x)::l,k=>match decide (r=k) with | true=>x | false=>nY l k
def BQ:List CS->List Nat
 | []=>[]
 | .own r _ _::l=>r::BQ l
 | _::l=>BQ l
def aQ:List IT->List Nat
 | []=>[]
 | .tmp _ _ cs::l=>BQ cs++aQ l
 | .mix r cs::l=>r::(BQ cs++aQ l)
 | .row r _ _::l=>r::aQ l
 | .arr r _::l=>r::aQ l
 | .mp r::l=>r::aQ l
 | .dead r::l=>r::aQ l
 | .drop _::l=>aQ l
def Yv:List IT->Bool
 | []=>true
 | .dead _::_=>false
 | .drop _::_=>false
 | _::l=>Yv l
section
variable {σ:Type}
def aog:List (Nat×Nat)->List (SV σ)->List (Nat×Option Nat)
 | (r,_)::l,.ptr r1 _::vs=>(r,some r1)::aog l vs
 | _,_=>[]
def cellT:CS->SV σ->List (Nat×Option Nat)
 | .own r _ _,.sl r1 _ _ _ _=>[(r,some r1)]
 | .own r _ _,_=>[(r,none)]
 | .pt r _,.ptr r1 _=>[(r,some r1)]
 | .cl _ caps,.clo _ vs=>aog caps vs
 | _,_=>[]
def QN:List CS->List (SV σ)->List (Nat×Option Nat)
 | c::cs,v::vs=>cellT c v++QN cs vs
 | _,_=>[]
def namesT (d:SS σ):List IT->List (Nat×Option Nat)->List (Nat×Option Nat)
 | [],acc=>acc
 | .tmp t false cs::l,acc=>match jI t d.tm with
   | some v=>namesT d l (acc++QN cs [v])
   | none=>acc
 | .tmp t true cs::l,acc=>match jI t d.tm with
   | some (.agg vs)=>namesT d l (acc++QN cs vs)
   | _=>acc
 | .mix r cs::l,acc=>match nY acc r with
   | some r1=>match kS d r1 with
     | some (.mix vs)=>namesT d l (acc++QN cs vs)
     | _=>acc
   | none=>acc
 | _::l,acc=>namesT d l acc
def Ad (r:Nat):Bool:=decide (41000000<=r)
def BR (θ:Nat->Option Nat) (rd:Nat->Option (SO σ)):(c:CS)->SV σ->Option (PK σ (uC c).T)
 | .pt r off,v=>match v with
   | .ptr r1 off1=>match eqN (θ r) (some r1)&&decide (off=off1) with | true=>some ⟨fun _=>(),[],[]⟩ | false=>none
   | _=>none
 | .cl f caps,v=>match v with
   | .clo f1 vs=>match decide (f=f1)&&KD θ caps vs with | true=>some ⟨fun _=>(),[],[]⟩ | false=>none
   | _=>none
 | .dat u,v=>QE rd (.dat u) v
 | .own r e u,v=>match v with
   | .val (.slice none 0 0)=>match θ r with | none=>some ⟨fun _=>[],[],[]⟩ | some _=>none
   | .sl r1 z none n .unk=>match eqN (θ r) (some r1) with
     | true=>match rd r1 with
       | some (.data e' u' f true)=>match Vq u' u,decide (e'=e/\z=fK u') with
         | some ⟨h⟩,true=>match Ad r with
           | true=>some ⟨iq h fun s=>(f s).take (n s),[fun s=>decide (n s<=(f s).length)],[]⟩
           | false=>some ⟨iq h f,[fun s=>decide (n s=(f s).length)],[]⟩
         | _,_=>none
       | _=>none
     | false=>none
   | _=>none
 | .nil,v=>QE rd .nil v
 | .np,v=>QE rd .np v
def Io (θ:Nat->Option Nat) (rd:Nat->Option (SO σ)):(cs:List CS)->List (SV σ)->Option (PK σ (jq cs).T)
 | [],[]=>some ⟨fun _=>(),[],[]⟩
 | c::cs,v::vs=>match BR θ rd c v,Io θ rd cs vs with
   | some x,some y=>some ⟨fun s=>wU (uC c) (jq cs) (x.f s) (y.f s),x.cs++y.cs,x.fz++y.fz⟩
   | _,_=>none
 | _,_=>none
def Ez (θ:Nat->Option Nat) (d:SS σ):(i:IT)->Option (PK σ (uI i).T)
 | .tmp t agg cs=>match jI t d.tm with
   | none=>none
   | some v=>match agg with
     | false=>Io θ (kS d) cs [v]
     | true=>match v with | .agg vs=>Io θ (kS d) cs vs | _=>none
 | .mix r cs=>match θ r with
   | some r1=>match kS d r1 with | some (.mix vs)=>Io θ (kS d) cs vs | _=>none
   | none=>none
 | .row r e u=>match θ r with
   | some r1=>match kS d r1 with
     | some (.data e' u' f true)=>match Vq u' u,decide (e'=e) with | some ⟨h⟩,true=>some ⟨iq h f,[],[]⟩ | _,_=>none
     | _=>none
   | none=>none
 | .arr r u=>match θ r with
   | some r1=>match kS d r1 with
     | some (.arr u' f)=>match Vq u' u with | some ⟨h⟩=>some ⟨iq h f,[],[]⟩ | none=>none
     | _=>none
   | none=>none
 | .mp r=>match θ r with
   | some r1=>match kS d r1 with
     | some (.mp f)=>some ⟨f,[],[]⟩
     | _=>none
   | none=>none
 | .drop _=>none
 | .dead _=>none
def O6 (θ:Nat->Option Nat) (d:SS σ):(l:List IT)->Option (PK σ (bZ l).T)
 | []=>some ⟨fun _=>(),[],[]⟩
 | i::l=>match Ez θ d i,O6 θ d l with
   | some x,some y=>some ⟨fun s=>wU (uI i) (bZ l) (x.f s) (y.f s),x.cs++y.cs,x.fz++y.fz⟩
   | _,_=>none
end
section
variable {σ:Type} {s:σ} {θ:Nat->Option Nat} {hp2:Nat->Option AO} {rd:Nat->Option (SO σ)}
theorem agL:∀(c:CS) (v:SV σ) (p:PK σ (uC c).T),BR θ rd c v=some p->allT s p.cs->(∀x∈p.fz,rV θ hp2 x.1)->(∀x∈oC c (p.f s),(hp2 x.1).isSome=true)->(∀r∈fO [c],(hp2 r).isSome=true) ->
 gG θ (iL s rd) hp2 (aC c (p.f s)) (v.c s)/\∀x∈oC c (p.f s),vM θ (iL s rd) hp2 x.1 x.2
 | .dat u,v,p,hp,hc,hfz,hl,hpt=>QJ (.dat u) v p hp hc hfz (fun x hx=>by cases v<;>cases hx) hl (fun r hr=>by cases hr)
 | .nil,v,p,hp,hc,hfz,hl,hpt=>QJ .nil v p hp hc hfz (fun x hx=>by cases v<;>cases hx) hl (fun r hr=>by cases hr)
 | .np,v,p,hp,hc,hfz,hl,hpt=>QJ .np v p hp hc hfz (fun x hx=>by cases v<;>cases hx) hl (fun r hr=>by cases hr)
 | .own r e u,v,p,hp,hc,hfz,hl,hpt=>by
   have h2:=hl (r,_) (List.mem_singleton.2 rfl);simp only [BR] at hp;split at hp
   ·split at hp
    ·rename_i h1;cases hp;refine ⟨?_,fun x hx => ?_⟩
     ·rw [SV.c];show gG θ _ hp2 (.sl r 0 ([]:List u.T).length none) _;rw [gG];exact ⟨h2,.inr (.inl ⟨h1,rfl,rfl,rfl,rfl⟩)⟩
     ·have hx:x∈[(r,AO.data e (fK u) (aI u []) true)]:=hx;rw [List.mem_singleton] at hx;subst hx;unfold vM;simp only [h1];rfl
    ·cases hp
   ·rename_i r1 z n;split at hp
    ·rename_i h1;have h1:=Aa h1;split at hp
     ·rename_i e' u' f hr;split at hp
      ·rename_i hk _ hd;subst hk;obtain ⟨rfl,hz⟩:=of_decide_eq_true hd;split at hp
       ·cases hp;have hn:n s<=(f s).length:=of_decide_eq_true hc.1;have hn':((f s).take (n s)).length=n s:=by rw [List.length_take];omega
        refine ⟨?_,fun x hx => ?_⟩
        ·rw [SV.c];show gG θ _ hp2 (.sl r 0 ((f s).take (n s)).length none) _;simp only [wK,Nat.zero_mul,sF,hn'];rw [gG];exact ⟨h2,.inl ⟨r1,h1,rfl⟩⟩
        ·have hx:x∈[(r,AO.data e' (fK u') (aI u' ((f s).take (n s))) true)]:=hx;rw [List.mem_singleton] at hx;subst hx;unfold vM;simp only [h1];exact ⟨true,aI u' (f s),by simp only [iL,hr,Option.map_some,SO.c],.inr (.inr ⟨n s*fK u',(gy u' (n s) (f s)).symm⟩),fun _=>rfl,fun h=>by cases h⟩
       ·cases hp;have hn:n s=(f s).length:=of_decide_eq_true hc.1;refine ⟨?_,fun x hx => ?_⟩
        ·rw [SV.c];show gG θ _ hp2 (.sl r 0 (f s).length none) _;simp only [wK,Nat.zero_mul,sF,hn];rw [gG];exact ⟨h2,.inl ⟨r1,h1,rfl⟩⟩
        ·have hx:x∈[(r,AO.data e' (fK u') (aI u' (f s)) true)]:=hx;rw [List.mem_singleton] at hx;subst hx;unfold vM;simp only [h1];exact ⟨true,aI u' (f s),by simp only [iL,hr,Option.map_some,SO.c],.inl rfl,fun _=>rfl,fun h=>by cases h⟩
      ·cases hp
     ·cases hp
    ·cases hp
   ·cases hp
 | .pt r off,v,p,hp,hc,hfz,hl,hpt=>by
   refine ⟨?_,fun x hx=>(by simp [oC] at hx)⟩;simp only [BR] at hp;split at hp
   ·rename_i r1 off1;split at hp
    ·rename_i hd;rw [Bool.and_eq_true] at hd;obtain rfl:=of_decide_eq_true hd.2;cases hp;rw [SV.c];show gG θ _ hp2 (.ptr r off) _;rw [gG];exact ⟨r1,Aa hd.1,hpt r (by simp [fO]),rfl⟩
    ·cases hp
   ·cases hp
 | .cl f caps,v,p,hp,hc,hfz,hl,hpt=>by
   refine ⟨?_,fun x hx=>(by simp [oC] at hx)⟩;simp only [BR] at hp;split at hp
   ·rename_i f' vs;split at hp
    ·rename_i hd;rw [Bool.and_eq_true] at hd;obtain ⟨hd,hb⟩:=hd;obtain rfl:=of_decide_eq_true hd;cases hp;rw [SV.c];show gG θ _ hp2 (.clo f (F7 caps)) _;rw [gG];exact ⟨_,rfl,QI caps vs hb fun r hr=>hpt r (by show r∈caps.map (·.1)++[];rw [List.append_nil];exact hr)⟩
    ·cases hp
   ·cases hp
theorem EC:∀(cs:List CS) (vs:List (SV σ)) (p:PK σ (jq cs).T),Io θ rd cs vs=some p->allT s p.cs->(∀x∈p.fz,rV θ hp2 x.1)->(∀x∈QG cs (p.f s),(hp2 x.1).isSome=true)->(∀r∈fO cs,(hp2 r).isSome=true) ->
 jr θ (iL s rd) hp2 (pJ cs (p.f s)) (cL s vs)/\∀x∈QG cs (p.f s),vM θ (iL s rd) hp2 x.1 x.2
 | [],[],p,hp,hc,hfz,hl,hpt=>by
   refine ⟨?_,fun x hx=>(by cases hx)⟩;rw [cL,show pJ [] (p.f s)=[] from rfl,jr]
 | c::cs,v::vs,p,hp,hc,hfz,hl,hpt=>by
   rw [Io] at hp;split at hp
   ·rename_i x y hx hy;cases hp;rw [bV] at hc;have e1:jF (uC c) (jq cs) (wU (uC c) (jq cs) (x.f s) (y.f s))=x.f s:=jX _ _ _ _;have e2:kN (uC c) (jq cs) (wU (uC c) (jq cs) (x.f s) (y.f s))=y.f s:=kT _ _ _ _;simp only [QG,e1,e2] at hl;have hpt1:∀r∈fO [c],(hp2 r).isSome=true:=fun r hr=>hpt r (by cases c<;>simp [fO] at hr ⊢ <;> first | exact .inl hr | simp [hr]);have hpt2:∀r∈fO cs,(hp2 r).isSome=true:=fun r hr=>hpt r (by cases c<;>simp [fO,hr]);obtain ⟨a1,a2⟩:=agL c v x hx hc.1 (fun z hz=>hfz z (List.mem_append_left _ hz)) (fun z hz=>hl z (List.mem_append_left _ hz)) hpt1;obtain ⟨b1,b2⟩:=EC cs vs y hy hc.2 (fun z hz=>hfz z (List.mem_append_right _ hz)) (fun z hz=>hl z (List.mem_append_right _ hz)) hpt2;refine ⟨?_,fun z hz => ?_⟩
    ·rw [cL];simp only [pJ,e1,e2];rw [jr];exact ⟨_,_,rfl,a1,b1⟩
    ·simp only [QG,e1,e2] at hz;rcases List.mem_append.1 hz with h | h
     ·exact a2 z h
     ·exact b2 z h
   ·cases hp
 | [],_::_,p,hp,_,_,_,_=>by cases hp
 | _::_,[],p,hp,_,_,_,_=>by cases hp
theorem Bh {d:SS σ} {N:Nat}:∀(i:IT) (p:PK σ (uI i).T),Ez θ d i=some p->allT s p.cs->(∀x∈p.fz,rV θ hp2 x.1)->(∀x∈aH i (p.f s),(hp2 x.1).isSome=true)->(∀r∈dU [i],(hp2 r).isSome=true) ->
 (∀x∈aT i (p.f s),gG θ (d.c s N).rd hp2 x.2 ((d.c s N).get x.1))/\∀x∈aH i (p.f s),vM θ (d.c s N).rd hp2 x.1 x.2
 | .tmp t agg cs,p,hp,hc,hfz,hl,hpt=>by
   rw [<-mV s N];have hget:∀v,jI t d.tm=some v->(d.c s N).get t=v.c s:=fun v hv=>by
    rw [jR] at hv;unfold SL.get SS.c;simp only [ql,hv,Option.map_some]
   have hpt':∀r∈fO cs,(hp2 r).isSome=true:=fun r hr=>hpt r (by simp [dU,hr]);simp only [Ez] at hp;cases hv:jI t d.tm with
   | none=>simp only [hv] at hp;cases hp
   | some v =>
     simp only [hv] at hp;cases agg with
     | false =>
       simp only at hp;obtain ⟨a,b⟩:=EC cs [v] p hp hc hfz hl hpt';refine ⟨fun x hx => ?_,b⟩;have hx:x∈[(t,oJ (pJ cs (p.f s)))]:=hx;rw [List.mem_singleton] at hx;subst hx;show gG θ _ hp2 (oJ (pJ cs (p.f s))) ((d.c s N).get t);rw [hget v hv];rw [cL,cL] at a;generalize pJ cs (p.f s)=ys at a ⊢;cases ys with
       | nil=>rw [jr] at a;cases a
       | cons y ys =>
         rw [jr] at a;obtain ⟨x,xs,h1,h2,h3⟩:=a;cases h1;cases ys with
         | nil=>exact h2
         | cons z zs=>rw [jr] at h3;obtain ⟨_,_,h4,_⟩:=h3;cases h4
     | true =>
       simp only at hp;cases v with
       | agg vs =>
         simp only at hp;obtain ⟨a,b⟩:=EC cs vs p hp hc hfz hl hpt';refine ⟨fun x hx => ?_,b⟩;have hx:x∈[(t,AV.agg (pJ cs (p.f s)))]:=hx;rw [List.mem_singleton] at hx;subst hx;show gG θ _ hp2 (.agg (pJ cs (p.f s))) ((d.c s N).get t);rw [hget _ hv,SV.c,gG];exact ⟨_,rfl,a⟩
       | _=>cases hp
 | .mix r cs,p,hp,hc,hfz,hl,hpt=>by
   rw [<-mV s N];refine ⟨fun x hx=>(by cases hx),?_⟩;simp only [Ez] at hp;cases hr:θ r with
   | none=>simp only [hr] at hp;cases hp
   | some r1 =>
     simp only [hr] at hp;cases hvs:kS d r1 with
     | none=>simp only [hvs] at hp;cases hp
     | some o =>
       cases o with
       | mix vs =>
         simp only [hvs] at hp;have hpt':∀r∈fO cs,(hp2 r).isSome=true:=fun r hr=>hpt r (by simp [dU,hr]);obtain ⟨a,b⟩:=EC cs vs p hp hc hfz (fun x hx=>hl x (List.mem_cons_of_mem _ hx)) hpt';intro x hx;rcases List.mem_cons.1 hx with rfl | hx
         ·unfold vM;simp only [hr];exact ⟨_,by simp only [iL,hvs,Option.map_some,SO.c],a⟩
         ·exact b x hx
       | data e u f wr=>simp only [hvs] at hp;cases hp
       | arr u f=>simp only [hvs] at hp;cases hp
       | mp f=>simp only [hvs] at hp;cases hp
       | dead=>simp only [hvs] at hp;cases hp
 | .row r e u,p,hp,hc,hfz,hl,hpt=>by
   rw [<-mV s N];refine ⟨fun x hx=>(by cases hx),?_⟩;simp only [Ez] at hp;split at hp
   ·rename_i r1 hr1;split at hp
    ·rename_i e' u' f hr;split at hp
     ·rename_i hk _ hd;subst hk;have hd:=of_decide_eq_true hd;subst hd;cases hp;intro x hx;have hx:x∈[(r,AO.data e' (fK u') (aI u' (f s)) true)]:=hx;rw [List.mem_singleton] at hx;subst hx;unfold vM;simp only [hr1];exact ⟨true,aI u' (f s),by simp only [iL,hr,Option.map_some,SO.c],.inl rfl,fun _=>rfl,fun h=>by cases h⟩
     ·cases hp
    ·cases hp
   ·cases hp
 | .arr r u,p,hp,hc,hfz,hl,hpt=>by
   rw [<-mV s N];refine ⟨fun x hx=>(by cases hx),?_⟩;simp only [Ez] at hp;split at hp
   ·rename_i r1 hr1;split at hp
    ·rename_i u' f hr;split at hp
     ·rename_i hk _;subst hk;cases hp;intro x hx;have hx:x∈[(r,AO.mix ((aI u' (f s)).map .d))]:=hx;rw [List.mem_singleton] at hx;subst hx;unfold vM;simp only [hr1];exact ⟨_,by simp only [iL,hr,Option.map_some,SO.c],Df _ fun r hr=>(by rw [xI] at hr;cases hr)⟩
     ·cases hp
    ·cases hp
   ·cases hp
 | .mp r,p,hp,hc,hfz,hl,hpt=>by
   rw [<-mV s N];refine ⟨fun x hx=>(by cases hx),?_⟩;simp only [Ez] at hp;split at hp
   ·rename_i r1 hr1;split at hp
    ·rename_i f hr;cases hp;intro x hx;have hx:x∈[(r,AO.mp (f s))]:=hx;rw [List.mem_singleton] at hx;subst hx;unfold vM;simp only [hr1];simp only [iL,hr,Option.map_some,SO.c]
    ·cases hp
   ·cases hp
 | .drop t,p,hp,hc,hfz,hl,hpt=>by cases hp
 | .dead r,p,hp,hc,hfz,hl,hpt=>by cases hp
theorem Um {d:SS σ} {N:Nat}:∀(l:List IT) (p:PK σ (bZ l).T),O6 θ d l=some p->allT s p.cs->(∀x∈p.fz,rV θ hp2 x.1)->(∀x∈oM l (p.f s),(hp2 x.1).isSome=true)->(∀r∈dU l,(hp2 r).isSome=true) ->
 (∀x∈lU l (p.f s),gG θ (d.c s N).rd hp2 x.2 ((d.c s N).get x.1))/\∀x∈oM l (p.f s),vM θ (d.c s N).rd hp2 x.1 x.2
 | [],p,hp,hc,hfz,hl,hpt=>⟨fun x hx=>(by cases hx),fun x hx=>(by cases hx)⟩
 | i::l,p,hp,hc,hfz,hl,hpt=>by
   rw [O6] at hp;split at hp
   ·rename_i x y hx hy;cases hp;rw [bV] at hc;have e1:jF (uI i) (bZ l) (wU (uI i) (bZ l) (x.f s) (y.f s))=x.f s:=jX _ _ _ _;have e2:kN (uI i) (bZ l) (wU (uI i) (bZ l) (x.f s) (y.f s))=y.f s:=kT _ _ _ _;simp only [oM,e1,e2] at hl;obtain ⟨a1,a2⟩:=Bh (N:=N) i x hx hc.1 (fun z hz=>hfz z (List.mem_append_left _ hz)) (fun z hz=>hl z (List.mem_append_left _ hz)) (fun r hr=>hpt r (F8 r hr));obtain ⟨b1,b2⟩:=Um (N:=N) l y hy hc.2 (fun z hz=>hfz z (List.mem_append_right _ hz)) (fun z hz=>hl z (List.mem_append_right _ hz)) (fun r hr=>hpt r (F9 r hr));simp only [lU,oM,e1,e2];refine ⟨fun z hz => ?_,fun z hz => ?_⟩
    ·rcases List.mem_append.1 hz with h | h
     ·exact a1 z h
     ·exact b1 z h
    ·rcases List.mem_append.1 hz with h | h
     ·exact a2 z h
     ·exact b2 z h
   ·cases hp
end
section
variable {σ τ σ':Type}
def aoh:CS->SV σ->List (Nat×Option Nat)
 | .own r _ _,.sl r1 _ _ _ _=>[(r,some r1)]
 | .own r _ _,_=>[(r,none)]
 | .pt r _,.ptr r1 _=>match decide (r=r1) with | true=>[] | false=>[(r,some r1)]
 | _,_=>[]
def adQ:List (Nat×Option Nat)->List (Nat×Option Nat)->List (Nat×Option Nat)
 | acc,[]=>acc
 | acc,(r,x)::l=>match kM r (jy acc) with | true=>adQ acc l | false=>adQ (acc++[(r,x)]) l
def QO:List CS->List (SV σ)->List (Nat×Option Nat)
 | c::cs,v::vs=>aoh c v++QO cs vs
 | _,_=>[]
def yI (d:SS σ):List IT->List (Nat×Option Nat)->List (Nat×Option Nat)
 | [],acc=>acc
 | .tmp t false cs::l,acc=>match jI t d.tm with
   | some v=>yI d l (adQ acc (QO cs [v]))
   | none=>yI d l acc
 | .tmp t true cs::l,acc=>match jI t d.tm with
   | some (.agg vs)=>yI d l (adQ acc (QO cs vs))
   | _=>yI d l acc
 | .mix r cs::l,acc=>match SA acc r with
   | some r1=>match kS d r1 with
     | some (.mix vs)=>yI d l (adQ acc (QO cs vs))
     | _=>yI d l acc
   | none=>yI d l acc
 | _::l,acc=>yI d l acc
def aoi (θ:Nat->Option Nat) (d:SS σ):(i:IT)->Option (PK σ (uI i).T)
 | .drop _=>some ⟨fun _=>(),[],[]⟩
 | .dead _=>some ⟨fun _=>(),[],[]⟩
 | i=>Ez θ d i
def Yw (θ:Nat->Option Nat) (d:SS σ):(l:List IT)->Option (PK σ (bZ l).T)
 | []=>some ⟨fun _=>(),[],[]⟩
 | i::l=>match aoi θ d i,Yw θ d l with
   | some x,some y=>some ⟨fun s=>wU (uI i) (bZ l) (x.f s) (y.f s),x.cs++y.cs,x.fz++y.fz⟩
   | _,_=>none
theorem agM {s:σ} {θ:Nat->Option Nat} {hp2:Nat->Option AO} {d:SS σ} {N:Nat} (i:IT) (p:PK σ (uI i).T) (hp:aoi θ d i=some p) (hc:allT s p.cs) (hfz:∀x∈p.fz,rV θ hp2 x.1) (hl:∀x∈aH i (p.f s),(hp2 x.1).isSome=true) (hpt:∀r∈dU [i],(hp2 r).isSome=true) :
 (∀x∈aT i (p.f s),gG θ (d.c s N).rd hp2 x.2 ((d.c s N).get x.1))/\∀x∈aH i (p.f s),vM θ (d.c s N).rd hp2 x.1 x.2:=by
 cases i with
 | drop t =>
   refine ⟨fun x hx => ?_,fun x hx=>(by cases hx)⟩;have hx:x∈[(t,AV.junk)]:=hx;rw [List.mem_singleton] at hx;subst hx;rw [gG];trivial
 | dead r =>
   refine ⟨fun x hx=>(by cases hx),fun x hx => ?_⟩;have hx:x∈[(r,AO.dead)]:=hx;rw [List.mem_singleton] at hx;subst hx;unfold vM;simp only;split<;>trivial
 | tmp t a cs=>exact Bh _ p hp hc hfz hl hpt
 | mix r cs=>exact Bh _ p hp hc hfz hl hpt
 | row r e u=>exact Bh _ p hp hc hfz hl hpt
 | arr r u=>exact Bh _ p hp hc hfz hl hpt
 | mp r=>exact Bh _ p hp hc hfz hl hpt
theorem Un {s:σ} {θ:Nat->Option Nat} {hp2:Nat->Option AO} {d:SS σ} {N:Nat}:∀(l:List IT) (p:PK σ (bZ l).T),Yw θ d l=some p->allT s p.cs->(∀x∈p.fz,rV θ hp2 x.1)->(∀x∈oM l (p.f s),(hp2 x.1).isSome=true)->(∀r∈dU l,(hp2 r).isSome=true) ->
 (∀x∈lU l (p.f s),gG θ (d.c s N).rd hp2 x.2 ((d.c s N).get x.1))/\∀x∈oM l (p.f s),vM θ (d.c s N).rd hp2 x.1 x.2
 | [],p,hp,hc,hfz,hl,hpt=>⟨fun x hx=>(by cases hx),fun x hx=>(by cases hx)⟩
 | i::l,p,hp,hc,hfz,hl,hpt=>by
   rw [Yw] at hp;split at hp
   ·rename_i x y hx hy;cases hp;rw [bV] at hc;have e1:jF (uI i) (bZ l) (wU (uI i) (bZ l) (x.f s) (y.f s))=x.f s:=jX _ _ _ _;have e2:kN (uI i) (bZ l) (wU (uI i) (bZ l) (x.f s) (y.f s))=y.f s:=kT _ _ _ _;simp only [oM,e1,e2] at hl;obtain ⟨a1,a2⟩:=agM (N:=N) i x hx hc.1 (fun z hz=>hfz z (List.mem_append_left _ hz)) (fun z hz=>hl z (List.mem_append_left _ hz)) (fun r hr=>hpt r (F8 r hr));obtain ⟨b1,b2⟩:=Un (N:=N) l y hy hc.2 (fun z hz=>hfz z (List.mem_append_right _ hz)) (fun z hz=>hl z (List.mem_append_right _ hz)) (fun r hr=>hpt r (F9 r hr));simp only [lU,oM,e1,e2];refine ⟨fun z hz => ?_,fun z hz => ?_⟩
    ·rcases List.mem_append.1 hz with h | h
     ·exact a1 z h
     ·exact b1 z h
    ·rcases List.mem_append.1 hz with h | h
     ·exact a2 z h
     ·exact b2 z h
   ·cases hp
def adR (d:SS σ) (its:List IT) (d':SS τ) (fz:List (Nat×SO τ)) (th:List (Nat×Option Nat)):Bool :=
 ((((d'.tm.take (d'.tm.length-d.tm.length)).all fun x=>kM x.1 (qB its)||(match jI x.1 d.tm with | none=>true | some _=>false)) &&
  ((d'.hp.take (d'.hp.length-d.hp.length)).all fun x=>kM x.1 (kV its)||iM (kS d) x.1)) &&
 ((nodupB (jy th)&&(jy th).all fun r=>iM (kS d) r) &&
  (KF (jy th) (headD d its) th&&fz.all fun x=>QF th (headD d its) x.1))) &&
 ((aaY (jy th) (headD d its) (qB its) d.tm&&aaZ (jy th) (headD d its) (kV its) d.hp) &&
  ((dU its).all fun r => !iM (kS (headD d its)) r))
def WT (d:SS σ) (its:List IT) (d':SS τ) (th:List (Nat×Option Nat)):Option (PK τ (bZ its).T) :=
 match Yw (SA th) d' its with
 | none=>none
 | some p=>match adR d its d' p.fz th with
   | true=>some p
   | false=>none
def ajn (d:SS σ) (its:List IT) (d':SS τ):Option (PK τ (bZ its).T) :=
 match yI d' its [] with
 | th=>WT d its d' th
def KH (d:SS σ) (its:List IT) (d':SS τ):Option (PK τ (bZ its).T) :=
 match adP d its d' with
 | some p=>some p
 | none=>ajn d its d'
theorem Uo {N:Nat} {d:SS σ} {its:List IT} {g:τ->σ} {d':SS τ} {p:PK τ (bZ its).T} {s:τ} {th:List (Nat×Option Nat)} (hg:Grow d g d') (h:WT d its d' th=some p) (hc:allT s p.cs) :
 ∃ θ:Nat->Option Nat,(∀r,(look r d.hp).isSome=true->θ r=some r/\(((headD d its).c (g s,p.f s) N).rd r).isSome=true)/\NV θ (d'.c s N).rd ((headD d its).c (g s,p.f s) N).rd /\
   ∀t v,look t ((headD d its).c (g s,p.f s) N).tm=some v->gG θ (d'.c s N).rd ((headD d its).c (g s,p.f s) N).rd v ((d'.c s N).get t):=by
 unfold WT at h;split at h
 ·cases h
 rename_i p' hp;split at h
 ·rename_i hB;cases h;unfold adR at hB;simp only [Bool.and_eq_true] at hB;obtain ⟨⟨⟨b1,b2⟩,⟨b3,b4⟩,b5,b6⟩,⟨b7,b8⟩,b9⟩:=hB;have hkd:∀r∈jy th,look r d.hp=none:=fun r hr=>by
   have h1:=List.all_eq_true.1 b4 r hr;unfold iM kS at h1;rw [jR] at h1;split at h1
   ·assumption
   ·cases h1
  have hT:((headD d its).c (g s,p.f s) N).tm=lU its (p.f s)++cT (g s) d.tm:=by
   show cT (g s,p.f s) (oQ its Prod.snd++oH Prod.fst d.tm)=_;rw [xE,uZ,Qs]
  have hH:((headD d its).c (g s,p.f s) N).hp=oM its (p.f s)++cO (g s) d.hp:=by
   show cO (g s,p.f s) (jf its Prod.snd++jS Prod.fst d.hp)=_;rw [dJ,zY,rD]
  have hHs:∀r,(∃o,(r,o)∈oM its (p.f s))->(((headD d its).c (g s,p.f s) N).rd r).isSome=true:=fun r ⟨o,ho⟩=>by
   unfold SL.rd;rw [hH,bQ];obtain ⟨w,hw⟩:=jT ho;rw [hw];rfl
  have hNs:∀l,WR (jy th) (headD d its) l=true->∀r∈l,SA th r=some r/\(((headD d its).c (g s,p.f s) N).rd r).isSome=true:=fun l hl r hr=>by
   have:=List.all_eq_true.1 hl r hr;unfold okN at this;rw [Bool.and_eq_true,Bool.not_eq_true',Bool.not_eq_true'] at this;exact ⟨lC (ny.1 this.1),Gg this.2⟩
  have hpt:∀r∈dU its,(((headD d its).c (g s,p.f s) N).rd r).isSome=true:=fun r hr=>by
   have:=List.all_eq_true.1 b9 r hr;rw [Bool.not_eq_true'] at this;exact Gg this
  have hfz:∀x∈p.fz,rV (SA th) ((headD d its).c (g s,p.f s) N).rd x.1:=fun x hx r' hr' o ho=>by
   have:=List.all_eq_true.1 b6 x hx;unfold QF at this;rw [Bool.and_eq_true] at this;obtain ⟨f1,f2⟩:=this;by_cases hk:r'∈jy th
   ·obtain ⟨y,hy1,hy2⟩:=Ac hk;rw [hy2] at hr';subst hr';have:=List.all_eq_true.1 f1 _ hy1;simp at this
   ·rw [lC hk] at hr';cases hr';rcases (Bool.or_eq_true _ _).mp f2 with h | h
    ·exact (hk (gV.1 h)).elim
    ·exact Gf h ho
  obtain ⟨w1,w2⟩:=Un (s:=s) (N:=N) (θ:=SA th) (hp2:=((headD d its).c (g s,p.f s) N).rd) its p hp hc hfz (fun x hx=>hHs x.1 ⟨x.2,hx⟩) hpt;obtain ⟨⟨l1,g1⟩,⟨l2,g2⟩⟩:=hg;have hl1:d'.tm.take (d'.tm.length-d.tm.length)=l1:=by rw [g1,List.length_append,KG,Nat.add_sub_cancel,List.take_left]
  have hl2:d'.hp.take (d'.hp.length-d.hp.length)=l2:=by rw [g2,List.length_append,Ey,Nat.add_sub_cancel,List.take_left]
  rw [hl1] at b1;rw [hl2] at b2;have keptT:∀t w,t∉qB its->look t d.tm=some w->(d'.c s N).get t=w.c (g s):=fun t w ht hw=>by
   unfold SL.get SS.c;simp only [ql,g1,bQ];rw [qP (l:=l1) (fun hm => ?_)]
   ·have:look t (oH g d.tm)=some (w.map g):=by
     have:∀l:List (Nat×SV σ),look t (oH g l)=(look t l).map (SV.map g):=by
      intro l
      induction l with
      | nil=>rfl
      | cons x l ih =>
        obtain ⟨k,v⟩:=x;rw [oH,look,look];split
        ·rfl
        ·exact ih
     rw [this,hw];rfl
    simp only [this,Option.map_some,Yd]
   ·obtain ⟨x,hx,rfl⟩:=List.mem_map.1 hm;have:=List.all_eq_true.1 b1 x hx;rcases (Bool.or_eq_true _ _).mp this with h | h
    ·exact ht (gV.1 h)
    ·rw [jR,hw] at h;cases h
  have keptH:∀r w,r∉kV its->look r d.hp=some w->(d'.c s N).rd r=some (w.c (g s)):=fun r w ht hw=>by
   unfold SL.rd SS.c;simp only [lu,g2,bQ];rw [qP (l:=l2) (fun hm => ?_)]
   ·have:look r (jS g d.hp)=some (w.map g):=by
     have:∀l:List (Nat×SO σ),look r (jS g l)=(look r l).map (SO.map g):=by
      intro l
      induction l with
      | nil=>rfl
      | cons x l ih =>
        obtain ⟨k,v⟩:=x;rw [jS,look,look];split
        ·rfl
        ·exact ih
     rw [this,hw];rfl
    simp only [this,Option.map_some,Qr]
   ·obtain ⟨x,hx,rfl⟩:=List.mem_map.1 hm;have:=List.all_eq_true.1 b2 x hx;rcases (Bool.or_eq_true _ _).mp this with h | h
    ·exact ht (gV.1 h)
    ·unfold iM kS at h;rw [jR,hw] at h;cases h
  have notH:∀r,look r (oM its (p.f s))=none->r∉kV its:=fun r hn hr=>by
   obtain ⟨o,ho⟩:=QM its (p.f s) r hr;exact qG hn o ho
  refine ⟨SA th,fun r hs => ?_,⟨fun r o ho => ?_,fun r' r'' o' o'' r ho' ho'' hm' hm'' ht' ht'' => ?_⟩,fun t v hv => ?_⟩
  ·refine ⟨lC fun hk => ?_,?_⟩
   ·rw [hkd r hk] at hs;cases hs
   ·unfold SL.rd;rw [hH,bQ];cases look r (oM its (p.f s)) with
    | some x=>rfl
    | none =>
      simp only [lu];cases hl:look r d.hp with
      | none=>rw [hl] at hs;cases hs
      | some w=>rfl
  ·unfold SL.rd at ho;rw [hH,bQ] at ho;cases hl:look r (oM its (p.f s)) with
   | some x =>
     rw [hl] at ho;cases ho;exact w2 _ (bH hl)
   | none =>
     rw [hl] at ho;simp only [lu] at ho;cases hw:look r d.hp with
     | none=>rw [hw] at ho;cases ho
     | some w =>
       rw [hw] at ho;cases ho;have hnc:=notH r hl;obtain ⟨k1,k2⟩:=Bf b8 r w hnc hw;exact zZ (lC k1) (keptH r w hnc hw) (fun q hq=>hNs _ k2 q (by rw [QK] at hq;exact hq))
  ·by_cases k1:r'∈jy th
   ·obtain ⟨x,x1,x2⟩:=Ac k1;rw [x2] at ht';subst ht';by_cases k2:r''∈jy th
    ·obtain ⟨y,y1,y2⟩:=Ac k2;rw [y2] at ht'';subst ht'';exact (nC b5).2 _ _ _ x1 y1
    ·rw [lC k2] at ht'';cases ht'';rcases (nC b5).1 _ _ x1 with h | h
     ·exact (k2 h).elim
     ·rw [Gf h ho''] at hm'';cases hm''
   ·rw [lC k1] at ht';cases ht';by_cases k2:r''∈jy th
    ·obtain ⟨y,y1,y2⟩:=Ac k2;rw [y2] at ht'';subst ht'';rcases (nC b5).1 _ _ y1 with h | h
     ·exact (k1 h).elim
     ·rw [Gf h ho'] at hm';cases hm'
    ·rw [lC k2] at ht'';cases ht'';rfl
  ·rw [hT,bQ] at hv;cases hl:look t (lU its (p.f s)) with
   | some x =>
     rw [hl] at hv;cases hv;exact w1 _ (bH hl)
   | none =>
     rw [hl] at hv;simp only [ql] at hv;cases hw:look t d.tm with
     | none=>rw [hw] at hv;cases hv
     | some w =>
       rw [hw] at hv;cases hv;have hnc:t∉qB its:=fun hc=>by
        obtain ⟨v,hv⟩:=QL its (p.f s) t hc;exact qG hl v hv
       rw [keptT t w hnc hw];exact Dc _ fun r hr=>hNs _ (Bc b7 t w hnc hw) r (by rw [J6] at hr;exact hr)
 ·cases h
theorem Di {N:Nat} {d:SS σ} {its:List IT} {g:τ->σ} {d':SS τ} {p:PK τ (bZ its).T} {s:τ} (hg:Grow d g d') (h:KH d its d'=some p) (hc:allT s p.cs) :
 ∃ θ:Nat->Option Nat,(∀r,(look r d.hp).isSome=true->θ r=some r/\(((headD d its).c (g s,p.f s) N).rd r).isSome=true)/\NV θ (d'.c s N).rd ((headD d its).c (g s,p.f s) N).rd /\
   ∀t v,look t ((headD d its).c (g s,p.f s) N).tm=some v->gG θ (d'.c s N).rd ((headD d its).c (g s,p.f s) N).rd v ((d'.c s N).get t):=by
 unfold KH at h;split at h
 ·rename_i p' hp;cases h;exact aa0 hg hp hc
 ·unfold ajn at h;exact Uo hg h hc
theorem Ae {N:Nat} {hp0:Nat->Option AO} {d:SS σ} {its:List IT} {g:τ->σ} {d':SS τ} {p:PK τ (bZ its).T} {s:τ} (hg:Grow d g d') (h:KH d its d'=some p) (hc:allT s p.cs) (hks:∀r,(hp0 r).isSome=true->(look r d.hp).isSome=true) :
 uP iY N hp0 (d'.c s N).S ((headD d its).c (g s,p.f s) N).S:=by
 obtain ⟨θ,h1,h2,h3⟩:=Di (N:=N) hg h hc;exact WS θ (fun r o ho=>h1 r (hks r (by rw [ho];rfl))) h2 h3
end
section
variable {σ:Type} (ρ:Nat->Nat)
def jK:(c:CS)->(σ->(uC c).T)->SV σ
 | .own r _ u,f => .sl (ρ r) (fK u) none (fun s=>(f s).length) .unk
 | .pt r off,_ => .ptr (ρ r) off
 | .cl f caps,_ => .clo f (C9 ρ caps)
 | .dat u,f=>adM (.dat u) f
 | .nil,f=>adM .nil f
 | .np,f=>adM .np f
def aoj:(c:CS)->(σ->(uC c).T)->List (Nat×SO σ)
 | .own r e u,f=>[(ρ r,.data e u f true)]
 | _,_=>[]
def lD:(cs:List CS)->(σ->(jq cs).T)->List (SV σ)
 | [],_=>[]
 | c::cs,f=>jK ρ c (fun s=>jF (uC c) (jq cs) (f s))::lD cs (fun s=>kN (uC c) (jq cs) (f s))
def nD:(cs:List CS)->(σ->(jq cs).T)->List (Nat×SO σ)
 | [],_=>[]
 | c::cs,f=>aoj ρ c (fun s=>jF (uC c) (jq cs) (f s))++nD cs (fun s=>kN (uC c) (jq cs) (f s))
def akJ:(i:IT)->(σ->(uI i).T)->List (Nat×SV σ)
 | .tmp t true cs,f=>[(t,.agg (lD ρ cs f))]
 | .tmp t false cs,f=>[(t,one1 (lD ρ cs f))]
 | .drop t,_=>[(t,.junk)]
 | _,_=>[]
def Gh:(i:IT)->(σ->(uI i).T)->List (Nat×SO σ)
 | .tmp _ _ cs,f=>nD ρ cs f
 | .mix r cs,f=>(ρ r,.mix (lD ρ cs f))::nD ρ cs f
 | .row r e u,f=>[(ρ r,.data e u f true)]
 | .arr r u,f=>[(ρ r,.arr u f)]
 | .mp r,f=>[(ρ r,.mp f)]
 | .dead r,_=>[(ρ r,.dead)]
 | _,_=>[]
def ED:(l:List IT)->(σ->(bZ l).T)->List (Nat×SV σ)
 | [],_=>[]
 | i::l,f=>akJ ρ i (fun s=>jF (uI i) (bZ l) (f s))++ED l (fun s=>kN (uI i) (bZ l) (f s))
def dw:(l:List IT)->(σ->(bZ l).T)->List (Nat×SO σ)
 | [],_=>[]
 | i::l,f=>Gh ρ i (fun s=>jF (uI i) (bZ l) (f s))++dw l (fun s=>kN (uI i) (bZ l) (f s))
end
section
variable {σ:Type} {s:σ} {ρ:Nat->Nat} {θ':Nat->Option Nat} {hp1 hp2:Nat->Option AO}
theorem Yx:∀(caps:List (Nat×Nat)),(∀r∈caps.map (·.1),θ' (ρ r)=some r/\(hp2 (ρ r)).isSome=true)->jr θ' hp1 hp2 (cL s (C9 ρ caps)) (F7 caps)
 | [],_=>by rw [C9,cL,F7,jr]
 | (r,off)::l,h=>by
   rw [C9,cL,SV.c,F7,jr];have:=h r (by simp);exact ⟨_,_,rfl,by rw [gG];exact ⟨r,this.1,this.2,rfl⟩,Yx l fun x hx=>h x (by simp at hx ⊢;exact .inr hx)⟩
theorem agN (u:U) (x:(uC (.dat u)).T):gG θ' hp1 hp2 (aC (.dat u) x) (aC (.dat u) x):=Dc _ fun r hr=>by cases u<;>simp [aC,dV,eu,AV.refs] at hr
theorem adT:∀(c:CS) (f:σ->(uC c).T),(∀r∈BQ [c]++fO [c],θ' (ρ r)=some r/\(hp2 (ρ r)).isSome=true)->gG θ' hp1 hp2 ((jK ρ c f).c s) (aC c (f s))
 | .dat u,f,h=>by rw [jK,og];exact agN u _
 | .nil,f,h=>by rw [jK,og];exact Dc _ fun r hr=>by simp [aC,AV.refs] at hr
 | .np,f,h=>by rw [jK,og];exact Dc _ fun r hr=>by simp [aC,AV.refs] at hr
 | .own r e u,f,h=>by
   have:=h r (by simp [BQ]);rw [jK,agF];show gG θ' hp1 hp2 _ (.sl r 0 (f s).length none);rw [gG];exact ⟨this.2,.inl ⟨r,this.1,rfl⟩⟩
 | .pt r off,f,h=>by
   have:=h r (by simp [BQ,fO]);rw [jK,aoe];show gG θ' hp1 hp2 _ (.ptr r off);rw [gG];exact ⟨r,this.1,this.2,rfl⟩
 | .cl f caps,_,h=>by
   rw [jK,SV.c];show gG θ' hp1 hp2 _ (.clo f (F7 caps));rw [gG];exact ⟨_,rfl,Yx caps fun r hr=>h r (by show r∈[]++(caps.map (·.1)++[]);rw [List.nil_append,List.append_nil];exact hr)⟩
theorem Bj (c:CS) (cs:List CS):BQ (c::cs)=BQ [c]++BQ cs:=by cases c<;>rfl
theorem Ip (c:CS) (cs:List CS):fO (c::cs)=fO [c]++fO cs:=by cases c<;>simp [fO]
theorem Bl:∀(cs:List CS) (f:σ->(jq cs).T),(∀r∈BQ cs++fO cs,θ' (ρ r)=some r/\(hp2 (ρ r)).isSome=true)->jr θ' hp1 hp2 (cL s (lD ρ cs f)) (pJ cs (f s))
 | [],f,h=>by rw [lD,cL,show pJ [] (f s)=[] from rfl,jr]
 | c::cs,f,h=>by
   rw [lD,cL,jr];refine ⟨_,_,rfl,adT c _ fun r hr=>h r ?_,Bl cs _ fun r hr=>h r ?_⟩
   ·rw [Bj,Ip];rcases List.mem_append.1 hr with g | g
    ·exact List.mem_append_left _ (List.mem_append_left _ g)
    ·exact List.mem_append_right _ (List.mem_append_left _ g)
   ·rw [Bj,Ip];rcases List.mem_append.1 hr with g | g
    ·exact List.mem_append_left _ (List.mem_append_right _ g)
    ·exact List.mem_append_right _ (List.mem_append_right _ g)
def ObP (θ':Nat->Option Nat) (hp1 hp2:Nat->Option AO) (ρ:Nat->Nat) (l:List (Nat×AO)) (x:Nat×AO):Prop:=∃r o1,x.1=ρ r/\(r,o1)∈l/\(hp1 r=some o1->θ' (ρ r)=some r->vM θ' hp1 hp2 x.1 x.2)
theorem ObP.mono {l l':List (Nat×AO)} {x:Nat×AO} (h:ObP θ' hp1 hp2 ρ l x) (k:∀y∈l,y∈l'):ObP θ' hp1 hp2 ρ l' x:=by
 obtain ⟨r,o1,h1,h2,h3⟩:=h;exact ⟨r,o1,h1,k _ h2,h3⟩
theorem Ur {r e z:Nat} {cs:List DV}:ObP θ' hp1 hp2 ρ [(r,.data e z cs true)] (ρ r,.data e z cs true) :=
 ⟨r,_,rfl,List.mem_singleton.2 rfl,fun h1 h2=>by unfold vM;simp only [h2];exact ⟨true,cs,h1,.inl rfl,fun _=>rfl,fun h=>by cases h⟩⟩
theorem Gi:∀(cs:List CS) (f:σ->(jq cs).T),∀x∈cO s (nD ρ cs f),ObP θ' hp1 hp2 ρ (QG cs (f s)) x
 | [],f,x,hx=>by cases hx
 | c::cs,f,x,hx=>by
   rw [nD,dJ] at hx;rcases List.mem_append.1 hx with hx | hx
   ·cases c with
    | own r e u =>
      have hx:x∈[(ρ r,AO.data e (fK u) (aI u (jF (.list u) (jq cs) (f s))) true)]:=hx;rw [List.mem_singleton] at hx;subst hx;exact (Ur (r:=r)).mono fun y hy=>List.mem_append_left _ hy
    | _=>cases hx
   ·exact (Gi cs _ x hx).mono fun y hy=>List.mem_append_right _ hy
theorem aa1:∀(i:IT) (f:σ->(uI i).T),(∀r∈aQ [i]++dU [i],θ' (ρ r)=some r/\(hp2 (ρ r)).isSome=true)->∀x∈cO s (Gh ρ i f),ObP θ' hp1 hp2 ρ (aH i (f s)) x
 | .tmp t a cs,f,h,x,hx=>Gi cs f x hx
 | .mix r cs,f,h,x,hx=>by
   have hx:x∈(ρ r,AO.mix (cL s (lD ρ cs f)))::cO s (nD ρ cs f):=hx;rcases List.mem_cons.1 hx with rfl | hx
   ·refine ⟨r,.mix (pJ cs (f s)),rfl,List.mem_cons_self,fun h1 h2 => ?_⟩;unfold vM;simp only [h2];refine ⟨_,h1,Bl cs f fun q hq=>h q ?_⟩;rcases List.mem_append.1 hq with g | g
    ·exact List.mem_append_left _ (by show q∈r::(BQ cs++[]);simp [g])
    ·exact List.mem_append_right _ (by show q∈fO cs++[];simp [g])
   ·exact (Gi cs f x hx).mono fun y hy=>List.mem_cons_of_mem _ hy
 | .row r e u,f,h,x,hx=>by
   have hx:x∈[(ρ r,AO.data e (fK u) (aI u (f s)) true)]:=hx;rw [List.mem_singleton] at hx;subst hx;exact Ur
 | .arr r u,f,h,x,hx=>by
   have hx:x∈[(ρ r,AO.mix ((aI u (f s)).map .d))]:=hx;rw [List.mem_singleton] at hx;subst hx;refine ⟨r,_,rfl,List.mem_singleton.2 rfl,fun h1 h2 => ?_⟩;unfold vM;simp only [h2];exact ⟨_,h1,Df _ fun q hq=>(by rw [xI] at hq;cases hq)⟩
 | .mp r,f,h,x,hx=>by
   have hx:x∈[(ρ r,AO.mp (f s))]:=hx;rw [List.mem_singleton] at hx;subst hx;refine ⟨r,_,rfl,List.mem_singleton.2 rfl,fun h1 h2 => ?_⟩;unfold vM;simp only [h2];exact h1
 | .dead r,f,h,x,hx=>by
   have hx:x∈[(ρ r,AO.dead)]:=hx;rw [List.mem_singleton] at hx;subst hx;refine ⟨r,_,rfl,List.mem_singleton.2 rfl,fun h1 h2 => ?_⟩;unfold vM;simp only [h2]
 | .drop t,f,h,x,hx=>by cases hx
theorem vZ (i:IT) (l:List IT):aQ (i::l)=aQ [i]++aQ l:=by cases i<;>simp [aQ]
theorem Iq (i:IT) (l:List IT):dU (i::l)=dU [i]++dU l:=by cases i<;>simp [dU]
theorem Dj:∀(l:List IT) (f:σ->(bZ l).T),(∀r∈aQ l++dU l,θ' (ρ r)=some r/\(hp2 (ρ r)).isSome=true)->∀x∈cO s (dw ρ l f),ObP θ' hp1 hp2 ρ (oM l (f s)) x
 | [],f,h,x,hx=>by cases hx
 | i::l,f,h,x,hx=>by
   rw [dw,dJ] at hx;rw [vZ,Iq] at h;have h1:∀r∈aQ [i]++dU [i],θ' (ρ r)=some r/\(hp2 (ρ r)).isSome=true:=fun r hr=>h r (by
    rcases List.mem_append.1 hr with g | g
    ·exact List.mem_append_left _ (List.mem_append_left _ g)
    ·exact List.mem_append_right _ (List.mem_append_left _ g))
   have h2:∀r∈aQ l++dU l,θ' (ρ r)=some r/\(hp2 (ρ r)).isSome=true:=fun r hr=>h r (by
    rcases List.mem_append.1 hr with g | g
    ·exact List.mem_append_left _ (List.mem_append_right _ g)
    ·exact List.mem_append_right _ (List.mem_append_right _ g))
   rcases List.mem_append.1 hx with hx | hx
   ·exact (aa1 i _ h1 x hx).mono fun y hy=>List.mem_append_left _ hy
   ·exact (Dj l _ h2 x hx).mono fun y hy=>List.mem_append_right _ hy
theorem agO {ys xs:List AV} (h:jr θ' hp1 hp2 ys xs):gG θ' hp1 hp2 (oJ ys) (oJ xs):=by
 cases ys with
 | nil=>rw [jr] at h;subst h;show gG θ' hp1 hp2 .junk .junk;rw [gG];trivial
 | cons y ys =>
   rw [jr] at h;obtain ⟨x,xs',rfl,h1,h2⟩:=h;cases ys with
   | nil=>rw [jr] at h2;subst h2;exact h1
   | cons z zs=>show gG θ' hp1 hp2 .junk _;rw [gG];trivial
theorem agP {a b a' b':List AV} (h:jr θ' hp1 hp2 a a') (k:jr θ' hp1 hp2 b b'):jr θ' hp1 hp2 (a++b) (a'++b'):=by
 induction a generalizing a' with
 | nil=>rw [jr] at h;subst h;exact k
 | cons y ys ih =>
   rw [jr] at h;obtain ⟨x,xs',rfl,h1,h2⟩:=h;rw [List.cons_append,jr];exact ⟨x,xs'++b',rfl,h1,ih h2⟩
theorem QS {y x:AV} (h:gG θ' hp1 hp2 y x):jr θ' hp1 hp2 [y] [x]:=by rw [jr];exact ⟨x,[],rfl,h,by rw [jr]⟩
theorem agQ (l:List (Nat×SV σ)):cL s (l.map (·.2))=(cT s l).map (·.2):=by
 induction l with
 | nil=>rfl
 | cons x l ih=>obtain ⟨t,v⟩:=x;rw [List.map_cons,cL,ih,cT,List.map_cons]
theorem KI:∀(l:List IT) (f:σ->(bZ l).T),(∀r∈aQ l++dU l,θ' (ρ r)=some r/\(hp2 (ρ r)).isSome=true)->jr θ' hp1 hp2 ((cT s (ED ρ l f)).map (·.2)) ((lU l (f s)).map (·.2))
 | [],f,h=>by show jr θ' hp1 hp2 [] [];rw [jr]
 | i::l,f,h=>by
   rw [ED,xE,List.map_append];rw [vZ,Iq] at h;have h2:∀r∈aQ l++dU l,θ' (ρ r)=some r/\(hp2 (ρ r)).isSome=true:=fun r hr=>h r (by
    rcases List.mem_append.1 hr with g | g
    ·exact List.mem_append_left _ (List.mem_append_right _ g)
    ·exact List.mem_append_right _ (List.mem_append_right _ g))
   rw [show lU (i::l) (f s)=aT i (jF (uI i) (bZ l) (f s))++lU l (kN (uI i) (bZ l) (f s)) from rfl,List.map_append];refine agP ?_ (KI l _ h2);cases i with
   | tmp t a cs =>
     have hc:∀r∈BQ cs++fO cs,θ' (ρ r)=some r/\(hp2 (ρ r)).isSome=true:=fun q hq=>h q (by
      rcases List.mem_append.1 hq with g | g
      ·exact List.mem_append_left _ (List.mem_append_left _ (by show q∈BQ cs++[];simp [g]))
      ·exact List.mem_append_right _ (List.mem_append_left _ (by show q∈fO cs++[];simp [g])))
     cases a with
     | true =>
       show jr θ' hp1 hp2 [(SV.agg (lD ρ cs _)).c s] [.agg (pJ cs _)];refine QS ?_;rw [SV.c,gG];exact ⟨_,rfl,Bl cs _ hc⟩
     | false =>
       show jr θ' hp1 hp2 [(one1 (lD ρ cs _)).c s] [oJ (pJ cs _)];refine QS ?_;rw [adO];exact agO (Bl cs _ hc)
   | drop t =>
     show jr θ' hp1 hp2 [(SV.junk:SV σ).c s] [.junk];refine QS ?_;rw [SV.c,gG];trivial
   | _=>show jr θ' hp1 hp2 [] [];rw [jr]
end
theorem Gj:∀(cs:List CS) (x:(jq cs).T),(QG cs x).map (·.1)=BQ cs
 | [],_=>rfl
 | c::cs,x=>by
   rw [QG,List.map_append,Gj cs,Bj];cases c<;>rfl
theorem adU:∀(i:IT) (x:(uI i).T),(aH i x).map (·.1)=aQ [i]
 | .tmp t a cs,x=>(Gj cs x).trans (List.append_nil _).symm
 | .mix r cs,x=>congrArg (fun l=>r::l) ((Gj cs x).trans (List.append_nil _).symm)
 | .row r e u,x=>rfl
 | .arr r u,x=>rfl
 | .mp r,x=>rfl
 | .dead r,x=>rfl
 | .drop t,x=>rfl
theorem mD:∀(l:List IT) (x:(bZ l).T),(oM l x).map (·.1)=aQ l
 | [],_=>rfl
 | i::l,x=>by rw [oM,List.map_append,adU,mD l,<-vZ]
theorem yJ {σ:Type} (s:σ) (ρ:Nat->Nat):∀(cs:List CS) (f:σ->(jq cs).T),(cO s (nD ρ cs f)).map (·.1)=(BQ cs).map ρ
 | [],_=>rfl
 | c::cs,f=>by
   rw [nD,dJ,List.map_append,yJ s ρ cs,Bj,List.map_append];cases c<;>rfl
theorem QT {σ:Type} (s:σ) (ρ:Nat->Nat):∀(i:IT) (f:σ->(uI i).T),(cO s (Gh ρ i f)).map (·.1)=(aQ [i]).map ρ
 | .tmp t a cs,f=>(yJ s ρ cs f).trans (congrArg (List.map ρ) (List.append_nil _).symm)
 | .mix r cs,f=>congrArg (fun l=>ρ r::l) ((yJ s ρ cs f).trans (congrArg (List.map ρ) (List.append_nil _).symm))
 | .row r e u,f=>rfl
 | .arr r u,f=>rfl
 | .mp r,f=>rfl
 | .dead r,f=>rfl
 | .drop t,f=>rfl
theorem kP {σ:Type} (s:σ) (ρ:Nat->Nat):∀(l:List IT) (f:σ->(bZ l).T),(cO s (dw ρ l f)).map (·.1)=(aQ l).map ρ
 | [],_=>rfl
 | i::l,f=>by rw [dw,dJ,List.map_append,QT,kP s ρ l,vZ i l,List.map_append]
theorem Gl:∀ {l:List Nat},nodupB l=true->l.Nodup
 | [],_=>List.nodup_nil
 | r::l,h=>by
   rw [nodupB,Bool.and_eq_true,Bool.not_eq_true'] at h;exact List.nodup_cons.2 ⟨ny.1 h.1,Gl h.2⟩
theorem Jj {α:Type} {k:Nat} {v:α}:∀ {l:List (Nat×α)},(l.map (·.1)).Nodup->(k,v)∈l->look k l=some v
 | (j,w)::l,hn,hm=>by
   rw [List.map_cons,List.nodup_cons] at hn;rw [look];rcases List.mem_cons.1 hm with e | hm
   ·cases e;rw [if_pos rfl]
   ·rw [if_neg (fun e=>hn.1 (by subst e;exact List.mem_map.2 ⟨_,hm,rfl⟩)),Jj hn.2 hm]
theorem rG {α:Type} {k:Nat} {l:List (Nat×α)} (h:k∈l.map (·.1)):∃v,look k l=some v:=by
 obtain ⟨⟨j,v⟩,h1,rfl⟩:=List.mem_map.1 h;exact jT h1
theorem Us:∀ {l:List IT} {x:(bZ l).T},Yv l=true->∀y∈oM l x,y.2 ≠ .dead
 | [],_,_,y,hy=>by cases hy
 | i::l,x,h,y,hy=>by
   have hl:Yv l=true:=by cases i<;>first | exact h | cases h
   rw [oM] at hy;rcases List.mem_append.1 hy with hy | hy
   ·have hcs:∀(cs:List CS) (z:(jq cs).T),∀y∈QG cs z,y.2 ≠ .dead:=fun cs=>by
     induction cs with
     | nil=>intro z y hy;cases hy
     | cons c cs ih =>
       intro z y hy;rw [QG] at hy;rcases List.mem_append.1 hy with hy | hy
       ·cases c with
        | own r e u =>
          have hy:y∈[(r,AO.data e (fK u) (aI u (jF (.list u) (jq cs) z)) true)]:=hy;rw [List.mem_singleton] at hy;subst hy;simp
        | _=>cases hy
       ·exact ih _ y hy
    cases i with
    | tmp t a cs=>exact hcs cs _ y hy
    | mix r cs =>
      rcases List.mem_cons.1 hy with rfl | hy
      ·simp
      ·exact hcs cs _ y hy
    | row r e u =>
      have hy:y∈[(r,AO.data e (fK u) (aI u (jF (uI (.row r e u)) (bZ l) x)) true)]:=hy;rw [List.mem_singleton] at hy;subst hy;simp
    | arr r u =>
      have hy:y∈[(r,AO.mix ((aI u (jF (uI (.arr r u)) (bZ l) x)).map .d))]:=hy;rw [List.mem_singleton] at hy;subst hy;simp
    | mp r =>
      have hy:y∈[(r,AO.mp (jF (uI (.mp r)) (bZ l) x))]:=hy;rw [List.mem_singleton] at hy;subst hy;simp
    | drop t=>cases h
    | dead r=>cases h
   ·exact Us hl y hy
theorem O7 {k r:Nat}:∀ {l:List (Nat×Option Nat)},nY l k=some r->(k,some r)∈l
 | (j,x)::l,h=>by
   rw [nY] at h;split at h
   ·rename_i hd;have:=of_decide_eq_true hd;subst this;subst h;exact List.mem_cons_self
   ·exact List.mem_cons_of_mem _ (O7 h)
theorem agR {σ:Type} {s:σ} {ρ:Nat->Nat} {ri ai:List IT} {f1:σ->(bZ ri).T} {f2:σ->(bZ ai).T} {tbl:List (Nat×Option Nat)} (htb:tbl=(aQ ri++aQ ai).map fun r=>(ρ r,some r))
 (n1:nodupB (aQ ri)=true) (n2:nodupB (aQ ai)=true) (hin:∀r∈aQ ri++aQ ai,nY tbl (ρ r)=some r) (hrf:∀r∈dU ri++dU ai,r∈aQ ri++aQ ai) :
 (∀r∈aQ ri++aQ ai,nY tbl (ρ r)=some r/\(aJ (cO s (dw ρ ri f1++dw ρ ai f2)) (ρ r)).isSome=true) /\
 NV (nY tbl) (aJ (oM ri (f1 s)++oM ai (f2 s))) (aJ (cO s (dw ρ ri f1++dw ρ ai f2))):=by
 have hnm:(cO s (dw ρ ri f1++dw ρ ai f2)).map (·.1)=(aQ ri++aQ ai).map ρ:=by rw [dJ,List.map_append,kP,kP,List.map_append]
 have hall:∀r∈aQ ri++aQ ai,nY tbl (ρ r)=some r/\(aJ (cO s (dw ρ ri f1++dw ρ ai f2)) (ρ r)).isSome=true:=fun r hr=>by
  refine ⟨hin r hr,?_⟩;obtain ⟨v,hv⟩:=rG (k:=ρ r) (l:=cO s (dw ρ ri f1++dw ρ ai f2)) (by rw [hnm];exact List.mem_map.2 ⟨r,hr,rfl⟩);unfold aJ;rw [hv];rfl
 refine ⟨hall,fun r' o ho => ?_,fun r' r'' o' o'' r h1 h2 h3 h4 h5 h6 => ?_⟩
 ·have hsub:∀(l:List IT),(∀r∈aQ l,r∈aQ ri++aQ ai)->(∀r∈dU l,r∈dU ri++dU ai)->∀r∈aQ l++dU l,nY tbl (ρ r)=some r/\(aJ (cO s (dw ρ ri f1++dw ρ ai f2)) (ρ r)).isSome=true:=fun l a b r hr=>by
   rcases List.mem_append.1 hr with g | g
   ·exact hall r (a r g)
   ·exact hall r (hrf r (b r g))
  have ho':=ho;unfold aJ at ho;rw [dJ,bQ] at ho;cases hl:look r' (cO s (dw ρ ri f1)) with
  | some o1 =>
    rw [hl] at ho;cases ho;obtain ⟨r,o2,e1,e2,e3⟩:=Dj (hp1:=aJ (oM ri (f1 s)++oM ai (f2 s))) ri f1 (hsub ri (fun r hr=>List.mem_append_left _ hr) (fun r hr=>List.mem_append_left _ hr)) _ (bH hl);have hr:r∈aQ ri:=by rw [<-mD ri (f1 s)];exact List.mem_map.2 ⟨_,e2,rfl⟩
    refine e3 ?_ (hin r (List.mem_append_left _ hr));unfold aJ;rw [bQ,Jj (by rw [mD];exact Gl n1) e2]
  | none =>
    rw [hl] at ho;obtain ⟨r,o2,e1,e2,e3⟩:=Dj (hp1:=aJ (oM ri (f1 s)++oM ai (f2 s))) ai f2 (hsub ai (fun r hr=>List.mem_append_right _ hr) (fun r hr=>List.mem_append_right _ hr)) _ (bH ho);have hr:r∈aQ ai:=by rw [<-mD ai (f2 s)];exact List.mem_map.2 ⟨_,e2,rfl⟩
    refine e3 ?_ (hin r (List.mem_append_right _ hr));unfold aJ;rw [bQ];have hno:look r (oM ri (f1 s))=none:=by
     cases hq:look r (oM ri (f1 s)) with
     | none=>rfl
     | some w =>
       exfalso;have hr2:r∈aQ ri:=by rw [<-mD ri (f1 s)];exact List.mem_map.2 ⟨_,bH hq,rfl⟩
       obtain ⟨v,hv⟩:=rG (k:=r') (l:=cO s (dw ρ ri f1)) (by rw [kP];exact List.mem_map.2 ⟨r,hr2,e1.symm⟩);rw [hl] at hv;cases hv
    rw [hno];exact Jj (by rw [mD];exact Gl n2) e2
 ·have key:∀q,nY tbl q=some r->q=ρ r:=fun q hq=>by
   have:=O7 hq;rw [htb] at this;obtain ⟨z,_,e⟩:=List.mem_map.1 this;simp only [Prod.mk.injEq,Option.some.injEq] at e;rw [<-e.1,e.2]
  rw [key r' h5,key r'' h6]
section
variable {σ:Type}
def ajo:CS->SV σ->Bool
 | .dat (.int _),.int _ _=>true
 | .dat (.int _),.val _=>true
 | .dat .bool,.bool _=>true
 | .dat .bool,.val _=>true
 | .dat .str,.str _=>true
 | .dat .str,.val _=>true
 | .dat (.list _),.lst _ _=>true
 | .own r _ _,.sl _ _ _ _ _ => !Ad r
 | .nil,_=>true
 | .np,_=>true
 | .pt _ _,_=>true
 | .cl _ _,_=>true
 | _,_=>false
def Gm:List CS->List (SV σ)->Bool
 | [],_=>true
 | c::cs,v::vs=>ajo c v&&Gm cs vs
 | _,_=>false
def Af:List CS->List (SV σ)->List Nat
 | .own r _ _::cs,v::vs=>match v with
   | .sl _ _ _ _ _=>match Ad r with
     | true=>r::Af cs vs
     | false=>Af cs vs
   | _=>r::Af cs vs
 | _::cs,_::vs=>Af cs vs
 | _,_=>[]
def Yy (θ:Nat->Option Nat) (d:SS σ):IT->List Nat
 | .tmp t agg cs=>match jI t d.tm with
   | none=>[]
   | some v=>match agg with
     | false=>Af cs [v]
     | true=>match v with | .agg vs=>Af cs vs | _=>[]
 | .mix r cs=>match θ r with
   | some r1=>match kS d r1 with
     | some (.mix vs)=>match Gm cs vs with
       | true=>Af cs vs
       | false=>r::Af cs vs
     | _=>[]
   | none=>[]
 | _=>[]
def O8 (θ:Nat->Option Nat) (d:SS σ):List IT->List Nat
 | []=>[]
 | i::l=>Yy θ d i++O8 θ d l
end
section
variable {σ:Type} {s:σ} {θ:Nat->Option Nat} {rd:Nat->Option (SO σ)} {ρ:Nat->Nat}
theorem O9 (hρ:∀r x,θ r=some x->ρ r=x):∀(caps:List (Nat×Nat)) (vs:List (SV σ)),KD θ caps vs=true->cL s (C9 ρ caps)=cL s vs
 | [],[],_=>rfl
 | (r,off)::l,.ptr r1 off1::vs,h=>by
   rw [KD,Bool.and_eq_true,Bool.and_eq_true] at h;obtain ⟨⟨h1,h2⟩,h3⟩:=h;obtain rfl:=of_decide_eq_true h2;rw [C9,cL,cL,O9 hρ l vs h3,SV.c,SV.c,hρ r r1 (Aa h1)]
 | [],_::_,h=>by cases h
 | (r,off)::l,[],h=>by cases h
 | (r,off)::l,.val _::vs,h=>by cases h
 | (r,off)::l,.int _ _::vs,h=>by cases h
 | (r,off)::l,.bool _::vs,h=>by cases h
 | (r,off)::l,.str _::vs,h=>by cases h
 | (r,off)::l,.lst _ _::vs,h=>by cases h
 | (r,off)::l,.ptx _ _ _ _::vs,h=>by cases h
 | (r,off)::l,.sl _ _ _ _ _::vs,h=>by cases h
 | (r,off)::l,.dpt _ _ _ _::vs,h=>by cases h
 | (r,off)::l,.agg _::vs,h=>by cases h
 | (r,off)::l,.tup _::vs,h=>by cases h
 | (r,off)::l,.clo _ _::vs,h=>by cases h
 | (r,off)::l,.undef::vs,h=>by cases h
 | (r,off)::l,.junk::vs,h=>by cases h
theorem aa2 (hρ:∀r x,θ r=some x->ρ r=x):∀(c:CS) (v:SV σ) (p:PK σ (uC c).T),BR θ rd c v=some p->allT s p.cs->ajo c v=true->(jK ρ c p.f).c s=v.c s
 | .dat (.int k),v,p,hp,hc,hv=>by
   rw [jK,og];simp only [BR,QE,adN,I5] at hp;split at hp
   ·rename_i k' f hf;split at hp
    ·rename_i hk _;obtain ⟨hk⟩:=hk;subst hk;cases hp;exact (oI hf s).symm
    ·cases hp
   ·cases hp
 | .dat .bool,v,p,hp,hc,hv=>by
   rw [jK,og];simp only [BR,QE,adN,I5] at hp;split at hp
   ·rename_i f hf;cases hp;exact (zU hf s).symm
   ·cases hp
 | .dat .str,v,p,hp,hc,hv=>by
   rw [jK,og];simp only [BR,QE,adN,I5] at hp;split at hp
   ·rename_i f hf;cases hp;exact (tH hf s).symm
   ·cases hp
 | .dat (.list t),v,p,hp,hc,hv=>by
   rw [jK,og];cases v with
   | lst u f =>
     simp only [BR,QE,adN,I5,pkL] at hp;split at hp
     ·rename_i hk _;subst hk;cases hp;rw [SV.c];rfl
     ·cases hp
   | _=>cases hv
 | .dat (.pair a b),v,p,hp,hc,hv=>by cases v<;>cases hv
 | .dat .unit,v,p,hp,hc,hv=>by cases v<;>cases hv
 | .own r e u,v,p,hp,hc,hv=>by
   simp only [BR] at hp;split at hp
   ·cases hv
   ·rename_i r1 z n;split at hp
    ·rename_i h1;have h1:=Aa h1;split at hp
     ·rename_i e' u' f hr;split at hp
      ·rename_i hk _ hd;subst hk;obtain ⟨rfl,hz⟩:=of_decide_eq_true hd;have hv:(!Ad r)=true:=hv;split at hp
       ·rename_i hsh;rw [hsh] at hv;cases hv
       cases hp;have hn:n s=(f s).length:=of_decide_eq_true hc.1;rw [jK,SV.c,SV.c,hρ r r1 h1,hz];show AV.sl r1 (wK s none*fK u') (f s).length (sF s (f s).length Cp.unk)=_;rw [hn]
      ·cases hp
     ·cases hp
    ·cases hp
   ·cases hp
 | .nil,v,p,hp,hc,hv=>by
   rw [jK,og];simp only [BR,QE] at hp;split at hp
   ·rw [SV.c];rfl
   ·cases hp
 | .np,v,p,hp,hc,hv=>by
   rw [jK,og];simp only [BR,QE] at hp;split at hp
   ·rw [SV.c];rfl
   ·cases hp
 | .pt r off,v,p,hp,hc,hv=>by
   simp only [BR] at hp;split at hp
   ·rename_i r1 off1;split at hp
    ·rename_i hd;rw [Bool.and_eq_true] at hd;obtain rfl:=of_decide_eq_true hd.2;rw [jK,SV.c,SV.c,hρ r r1 (Aa hd.1)]
    ·cases hp
   ·cases hp
 | .cl f caps,v,p,hp,hc,hv=>by
   simp only [BR] at hp;split at hp
   ·rename_i f' vs;split at hp
    ·rename_i hd;rw [Bool.and_eq_true] at hd;obtain rfl:=of_decide_eq_true hd.1;rw [jK,SV.c,SV.c,O9 hρ caps vs hd.2]
    ·cases hp
   ·cases hp
theorem yK (hρ:∀r x,θ r=some x->ρ r=x):∀(cs:List CS) (vs:List (SV σ)) (p:PK σ (jq cs).T),Io θ rd cs vs=some p->allT s p.cs ->
 (Gm cs vs=true->cL s (lD ρ cs p.f)=cL s vs)/\∀x∈cO s (nD ρ cs p.f),x.1∈(Af cs vs).map ρ\/iL s rd x.1=some x.2
 | [],[],p,hp,hc=>⟨fun _=>rfl,fun x hx=>by cases hx⟩
 | c::cs,v::vs,p,hp,hc=>by
   rw [Io] at hp;split at hp
   ·rename_i x y hx hy;cases hp;rw [bV] at hc;obtain ⟨b1,b2⟩:=yK hρ cs vs y hy hc.2;have e1:(fun s=>jF (uC c) (jq cs) (wU (uC c) (jq cs) (x.f s) (y.f s)))=x.f:=by funext s;exact jX _ _ _ _
    have e2:(fun s=>kN (uC c) (jq cs) (wU (uC c) (jq cs) (x.f s) (y.f s)))=y.f:=by funext s;exact kT _ _ _ _
    refine ⟨fun hs => ?_,fun z hz => ?_⟩
    ·rw [Gm,Bool.and_eq_true] at hs;rw [lD,cL,cL];simp only [e1,e2];rw [aa2 hρ c v x hx hc.1 hs.1,b1 hs.2]
    ·rw [nD,dJ] at hz;simp only [e1,e2] at hz;rcases List.mem_append.1 hz with hz | hz
     ·cases c with
      | own r e u =>
        have hz:z∈[(ρ r,AO.data e (fK u) (aI u (x.f s)) true)]:=hz;rw [List.mem_singleton] at hz;subst hz;simp only [BR] at hx;split at hx
        ·left;show ρ r∈(r::Af cs vs).map ρ;exact List.mem_map.2 ⟨r,List.mem_cons_self,rfl⟩
        ·rename_i r1 z n;split at hx
         ·rename_i h1;have h1:=Aa h1;split at hx
          ·rename_i e' u' f hr;split at hx
           ·rename_i hk _ hd;subst hk;obtain ⟨rfl,hz⟩:=of_decide_eq_true hd;split at hx
            ·rename_i hsh;left;show ρ r∈(match Ad r with | true=>r::Af cs vs | false=>Af cs vs).map ρ;rw [hsh];exact List.mem_map.2 ⟨r,List.mem_cons_self,rfl⟩
            cases hx;right;rw [hρ r r1 h1];simp only [iL,hr,Option.map_some,SO.c];rfl
           ·cases hx
          ·cases hx
         ·cases hx
        ·cases hx
      | _=>cases hz
     ·rcases b2 z hz with h | h
      ·left;obtain ⟨q,q1,q2⟩:=List.mem_map.1 h;refine List.mem_map.2 ⟨q,?_,q2⟩;cases c with
       | own r e u =>
         show q∈(match v with | .sl _ _ _ _ _=>(match Ad r with | true=>r::Af cs vs | false=>Af cs vs) | _=>r::Af cs vs);cases v with
         | sl _ _ _ _ _ =>
           show q∈(match Ad r with | true=>r::Af cs vs | false=>Af cs vs);cases Ad r with
           | true=>exact List.mem_cons_of_mem _ q1
           | false=>exact q1
         | _=>exact List.mem_cons_of_mem _ q1
       | _=>exact q1
      ·exact .inr h
   ·cases hp
 | [],_::_,p,hp,_=>by cases hp
 | _::_,[],p,hp,_=>by cases hp
theorem aa3 {d:SS σ} (hρ:∀r x,θ r=some x->ρ r=x):∀(i:IT) (p:PK σ (uI i).T),Ez θ d i=some p->allT s p.cs ->
 ∀x∈cO s (Gh ρ i p.f),x.1∈(Yy θ d i).map ρ\/iL s (kS d) x.1=some x.2
 | .tmp t agg cs,p,hp,hc,x,hx=>by
   simp only [Ez] at hp;simp only [Yy];cases hv:jI t d.tm with
   | none=>simp only [hv] at hp;cases hp
   | some v =>
     simp only [hv] at hp;cases agg with
     | false=>exact (yK hρ cs [v] p hp hc).2 x hx
     | true =>
       simp only at hp;cases v with
       | agg vs=>exact (yK hρ cs vs p hp hc).2 x hx
       | _=>cases hp
 | .mix r cs,p,hp,hc,x,hx=>by
   simp only [Ez] at hp;simp only [Yy];cases hr:θ r with
   | none=>simp only [hr] at hp;cases hp
   | some r1 =>
     simp only [hr] at hp;cases hvs:kS d r1 with
     | none=>simp only [hvs] at hp;cases hp
     | some o =>
       cases o with
       | mix vs =>
         simp only [hvs] at hp;simp only [hvs];obtain ⟨a,b⟩:=yK hρ cs vs p hp hc;have hx:x∈(ρ r,AO.mix (cL s (lD ρ cs p.f)))::cO s (nD ρ cs p.f):=hx;rcases List.mem_cons.1 hx with rfl | hx
         ·cases hs:Gm cs vs with
          | true =>
            right;show iL s (kS d) (ρ r)=_;rw [hρ r r1 hr,a hs];simp only [iL,hvs,Option.map_some,SO.c]
          | false=>left;exact List.mem_map.2 ⟨r,List.mem_cons_self,rfl⟩
         ·rcases b x hx with h | h
          ·left;obtain ⟨q,q1,q2⟩:=List.mem_map.1 h;refine List.mem_map.2 ⟨q,?_,q2⟩;cases Gm cs vs with
           | true=>exact q1
           | false=>exact List.mem_cons_of_mem _ q1
          ·exact .inr h
       | data e u f wr=>simp only [hvs] at hp;cases hp
       | arr u f=>simp only [hvs] at hp;cases hp
       | mp f=>simp only [hvs] at hp;cases hp
       | dead=>simp only [hvs] at hp;cases hp
 | .row r e u,p,hp,hc,x,hx=>by
   simp only [Ez] at hp;cases hr1:θ r with
   | none=>simp only [hr1] at hp;cases hp
   | some r1 =>
     simp only [hr1] at hp;split at hp
     ·rename_i e' u' f hr;split at hp
      ·rename_i hk _ hd;subst hk;have hd:=of_decide_eq_true hd;subst hd;cases hp;have hx:x∈[(ρ r,AO.data e' (fK u') (aI u' (f s)) true)]:=hx;rw [List.mem_singleton] at hx;subst hx;right;rw [hρ r r1 hr1];simp only [iL,hr,Option.map_some,SO.c]
      ·cases hp
     ·cases hp
 | .arr r u,p,hp,hc,x,hx=>by
   simp only [Ez] at hp;cases hr1:θ r with
   | none=>simp only [hr1] at hp;cases hp
   | some r1 =>
     simp only [hr1] at hp;split at hp
     ·rename_i u' f hr;split at hp
      ·rename_i hk _;subst hk;cases hp;have hx:x∈[(ρ r,AO.mix ((aI u' (f s)).map .d))]:=hx;rw [List.mem_singleton] at hx;subst hx;right;rw [hρ r r1 hr1];simp only [iL,hr,Option.map_some,SO.c]
      ·cases hp
     ·cases hp
 | .mp r,p,hp,hc,x,hx=>by
   simp only [Ez] at hp;cases hr1:θ r with
   | none=>simp only [hr1] at hp;cases hp
   | some r1 =>
     simp only [hr1] at hp;split at hp
     ·rename_i f hr;cases hp;have hx:x∈[(ρ r,AO.mp (f s))]:=hx;rw [List.mem_singleton] at hx;subst hx;right;rw [hρ r r1 hr1];simp only [iL,hr,Option.map_some,SO.c]
     ·cases hp
 | .drop t,p,hp,hc,x,hx=>by cases hp
 | .dead r,p,hp,hc,x,hx=>by cases hp
theorem KJ {d:SS σ} (hρ:∀r x,θ r=some x->ρ r=x):∀(l:List IT) (p:PK σ (bZ l).T),O6 θ d l=some p->allT s p.cs ->
 ∀x∈cO s (dw ρ l p.f),x.1∈(O8 θ d l).map ρ\/iL s (kS d) x.1=some x.2
 | [],p,hp,hc,x,hx=>by cases hx
 | i::l,p,hp,hc,x,hx=>by
   rw [O6] at hp;split at hp
   ·rename_i x' y hx' hy;cases hp;rw [bV] at hc;have e1:(fun s=>jF (uI i) (bZ l) (wU (uI i) (bZ l) (x'.f s) (y.f s)))=x'.f:=by funext s;exact jX _ _ _ _
    have e2:(fun s=>kN (uI i) (bZ l) (wU (uI i) (bZ l) (x'.f s) (y.f s)))=y.f:=by funext s;exact kT _ _ _ _
    rw [dw,dJ] at hx;simp only [e1,e2] at hx;rw [O8,List.map_append];rcases List.mem_append.1 hx with hx | hx
    ·rcases aa3 hρ i x' hx' hc.1 x hx with h | h
     ·exact .inl (List.mem_append_left _ h)
     ·exact .inr h
    ·rcases KJ hρ l y hy hc.2 x hx with h | h
     ·exact .inl (List.mem_append_right _ h)
     ·exact .inr h
   ·cases hp
end
section
variable {σ τ:Type} {s1:σ} {s2:τ} {ρ:Nat->Nat}
theorem adV:∀(c:CS) (f:σ->(uC c).T) (g:τ->(uC c).T),f s1=g s2->(jK ρ c f).c s1=(jK ρ c g).c s2
 | .own r e u,f,g,h=>by rw [jK,jK,agF,agF,h]
 | .pt r off,f,g,h=>by rw [jK,jK,SV.c,SV.c]
 | .cl f caps,_,_,h=>by
   have e:∀l:List (Nat×Nat),cL s1 (C9 ρ l)=cL s2 (C9 ρ l):=fun l=>by
    induction l with
    | nil=>rfl
    | cons x l ih=>obtain ⟨r,off⟩:=x;rw [C9,C9,cL,cL,SV.c,SV.c,ih]
   rw [jK,jK,SV.c,SV.c,e]
 | .dat u,f,g,h=>by rw [jK,jK,og,og,h]
 | .nil,f,g,h=>by rw [jK,jK,og,og,h]
 | .np,f,g,h=>by rw [jK,jK,og,og,h]
theorem Pe:∀(cs:List CS) (f:σ->(jq cs).T) (g:τ->(jq cs).T),f s1=g s2->cL s1 (lD ρ cs f)=cL s2 (lD ρ cs g)
 | [],f,g,h=>rfl
 | c::cs,f,g,h=>by
   rw [lD,lD,cL,cL];rw [adV c (fun s=>jF (uC c) (jq cs) (f s)) (fun s=>jF (uC c) (jq cs) (g s)) (congrArg (jF (uC c) (jq cs)) h),Pe cs (fun s=>kN (uC c) (jq cs) (f s)) (fun s=>kN (uC c) (jq cs) (g s)) (congrArg (kN (uC c) (jq cs)) h)]
theorem Gn:∀(cs:List CS) (f:σ->(jq cs).T) (g:τ->(jq cs).T),f s1=g s2->cO s1 (nD ρ cs f)=cO s2 (nD ρ cs g)
 | [],f,g,h=>rfl
 | c::cs,f,g,h=>by
   rw [nD,nD,dJ,dJ,Gn cs (fun s=>kN (uC c) (jq cs) (f s)) (fun s=>kN (uC c) (jq cs) (g s)) (congrArg (kN (uC c) (jq cs)) h)];congr 1;cases c with
   | own r e u =>
     show [(ρ r,AO.data e (fK u) (aI u (jF (.list u) (jq cs) (f s1))) true)]=[(ρ r,AO.data e (fK u) (aI u (jF (.list u) (jq cs) (g s2))) true)]
     rw [h]
   | _=>rfl
theorem aa4:∀(i:IT) (f:σ->(uI i).T) (g:τ->(uI i).T),f s1=g s2->cO s1 (Gh ρ i f)=cO s2 (Gh ρ i g)
 | .tmp t a cs,f,g,h=>Gn cs f g h
 | .mix r cs,f,g,h=>by
   show (ρ r,AO.mix (cL s1 (lD ρ cs f)))::cO s1 (nD ρ cs f)=(ρ r,AO.mix (cL s2 (lD ρ cs g)))::cO s2 (nD ρ cs g);rw [Pe cs f g h,Gn cs f g h]
 | .row r e u,f,g,h=>by
   show [(ρ r,AO.data e (fK u) (aI u (f s1)) true)]=[(ρ r,AO.data e (fK u) (aI u (g s2)) true)]
   rw [h]
 | .arr r u,f,g,h=>by
   show [(ρ r,AO.mix ((aI u (f s1)).map .d))]=[(ρ r,AO.mix ((aI u (g s2)).map .d))]
   rw [h]
 | .mp r,f,g,h=>by
   show [(ρ r,AO.mp (f s1))]=[(ρ r,AO.mp (g s2))]
   rw [h]
 | .drop t,f,g,h=>rfl
 | .dead r,f,g,h=>rfl
theorem KL:∀(l:List IT) (f:σ->(bZ l).T) (g:τ->(bZ l).T),f s1=g s2->cO s1 (dw ρ l f)=cO s2 (dw ρ l g)
 | [],f,g,h=>rfl
 | i::l,f,g,h=>by
   rw [dw,dw,dJ,dJ,aa4 i (fun s=>jF (uI i) (bZ l) (f s)) (fun s=>jF (uI i) (bZ l) (g s)) (congrArg (jF (uI i) (bZ l)) h),KL l (fun s=>kN (uI i) (bZ l) (f s)) (fun s=>kN (uI i) (bZ l) (g s)) (congrArg (kN (uI i) (bZ l)) h)]
end
section
variable {σ τ:Type}
def ajp:List (SV σ)->Option (List (Nat×Nat))
 | []=>some []
 | .ptr r off::l=>match ajp l with | some c=>some ((r,off)::c) | none=>none
 | _=>none
mutual
def viV (rd:Nat->Option (SO σ)):SV σ->VI
 | .val (.int k _) => .u (.int k)
 | .val (.bool _) => .u .bool
 | .val (.string _) => .u .str
 | .val (.slice none 0 0) => .nil
 | .val (.pointer none) => .np
 | .int k _ => .u (.int k)
 | .bool _ => .u .bool
 | .str _ => .u .str
 | .lst t _ => .u (.list t)
 | .ptr r off => .pt r off
 | .clo f cs=>match ajp cs with | some caps => .cl f caps | none => .junk
 | .sl r z none n .unk=>match rd r with
   | some (.data e u _ true) => .own r e u
   | some (.data _ u _ _) => .u (.list u)
   | _ => .junk
 | .sl r _ _ _ _=>match rd r with
   | some (.data _ u _ _) => .u (.list u)
   | _ => .junk
 | .agg cs => .agg (viL rd cs)
 | _ => .junk
def viL (rd:Nat->Option (SO σ)):List (SV σ)->List VI
 | []=>[]
 | x::l=>viV rd x::viL rd l
end
def oiO (rd:Nat->Option (SO σ)):SO σ->OI
 | .data e u _ wr => .row e u wr
 | .arr u _ => .arr u
 | .mp _ => .mp
 | .mix cs => .mix (viL rd cs)
 | .dead => .dead
def viT (rd:Nat->Option (SO σ)) (l:List (Nat×SV σ)):List (Nat×VI):=l.map fun x=>(x.1,viV rd x.2)
def viO (rd:Nat->Option (SO σ)) (l:List (Nat×SO σ)):List (Nat×OI):=l.map fun x=>(x.1,oiO rd x.2)
def zf {β:Type} (p kind:Nat) (d:SS σ) (d':SS τ):TR β τ :=
 .note ⟨p,kind,viT (kS d') (d'.tm.take (d'.tm.length-d.tm.length)),viO (kS d') (d'.hp.take (d'.hp.length-d.hp.length)),viT (kS d) d.tm,viO (kS d) d.hp⟩
def akL:List IT->Bool
 | []=>false
 | .drop t::l=>decide (t=88888888)||akL l
 | _::l=>akL l
def agS (d:SS τ):List IT->Bool
 | []=>false
 | .tmp t _ _::l=>(match jI t d.tm with | some (.val (.pointer none))=>true | _=>false)||agS d l
 | _::l=>agS d l
def Gp {β:Type} (p kind:Nat) (d:SS σ) (its:List IT) (d':SS τ):TR ((bZ its).T ⊕ β) τ :=
 match KH d its d' with
 | some x=>Em x.cs (.ret fun s => .inl (x.f s))
 | none=>match akL its&&agS d' its with
   | true => .fail "cut"
   | false=>zf p kind d d'
def Dk (rd:Nat->Option (SO σ)):Nat->List Nat->List Nat->List Nat
 | 0,_,seen=>seen
 | _+1,[],seen=>seen
 | n+1,r::work,seen=>match kM r seen with
   | true=>Dk rd n work seen
   | false=>match rd r with
     | some o=>Dk rd n (KE o++work) (r::seen)
     | none=>Dk rd n work seen
def wM (rd:Nat->Option (SO σ)):List Nat->List (Nat×SO σ)
 | []=>[]
 | r::l=>match rd r with
   | some o=>(r,o)::wM rd l
   | none=>wM rd l
def Bo (os:List (Nat×SO σ)) (rs:List Nat):Bool:=rs.all fun r=>kM r (bM os)
def EF (os:List (Nat×SO σ)):Bool:=os.all fun x=>Bo os (KE x.2)
def Yz (T:Ty) (d:SS σ):ResultVar->Option (SV σ)
 | .tmp t=>some (match jI t d.tm with | some x=>x | none => .junk)
 | .cell a t=>match T t,jI a d.tm with
   | some i,some (.ptr r off)=>match kS d r with
     | some (.mix cs)=>Ee i cs off
     | _=>none
   | _,_=>none
def Ir (T:Ty) (d:SS σ):List ResultVar->Option (List (SV σ))
 | []=>some []
 | r::l=>match Yz T d r,Ir T d l with
   | some x,some xs=>some (x::xs)
   | _,_=>none
def qm (xs:List (SV σ)):SV σ:=match xs with | [x]=>x | xs => .tup xs
def sG:Nat->List (SV σ)->List (Nat×SV σ)
 | _,[]=>[]
 | i,x::xs=>(i,x)::sG (i+1) xs
end
inductive PL where
 | carry (its:List IT) | unroll | once | stop
structure CE where
 ai:List IT
 ri:List IT
 F:(bZ ai).T->Option (bZ ri).T
def I9:List CS->Bool
 | []=>true
 | .dat _::l=>I9 l
 | _=>false
def jv:List IT->Bool
 | []=>true
 | .tmp _ _ cs::l=>I9 cs&&jv l
 | _=>false
def Pg:List CS->Bool
 | []=>true
 | .dat (.int _)::l=>Pg l
 | .dat .bool::l=>Pg l
 | .dat .str::l=>Pg l
 | _=>false
def Ph:List IT->Bool
 | []=>true
 | .tmp _ true cs::l=>Pg cs&&Ph l
 | .tmp _ false cs::l=>(Pg cs&&decide (cs.length=1))&&Ph l
 | _=>false
section
variable {σ:Type}
def qo (rd:Nat->Option (SO σ)):(ai:List IT)->List (SV σ)->Option (PK σ (bZ ai).T)
 | [],[]=>some ⟨fun _=>(),[],[]⟩
 | .tmp _ false cs::l,v::vs=>match I8 rd cs [v],qo rd l vs with
   | some x,some y=>some ⟨fun s=>wU (jq cs) (bZ l) (x.f s) (y.f s),x.cs++y.cs,x.fz++y.fz⟩
   | _,_=>none
 | .tmp _ true cs::l,v::vs=>match v with
   | .agg ws=>match I8 rd cs ws,qo rd l vs with
     | some x,some y=>some ⟨fun s=>wU (jq cs) (bZ l) (x.f s) (y.f s),x.cs++y.cs,x.fz++y.fz⟩
     | _,_=>none
   | _=>none
 | _,_=>none
def YA (its:List IT) (f:σ->(bZ its).T):SV σ:=qm ((oQ its f).map (·.2))
def YB (n:Nat) (d:SS σ):SV σ:=qm ((List.range n).map fun j=>match jI j d.tm with | some v=>v | none => .junk)
def akM {β:Type} (E:CE) (args:List (SV σ)) (d:SS σ) (F:Nat) (K:(τ:Type)->(τ->σ)->SV τ->List (Nat×SO τ)->List Nat->Nat->TR β τ):TR β σ :=
 match E with
 | ⟨ai,[.tmp _ false [.own _ e u]],G⟩=>match qo (kS d) ai args with
   | none => .fail "contract: arguments"
   | some pa=>match jv ai&&iM (kS d) F with
     | false => .fail "contract: shape"
     | true=>Em pa.cs (.bnd (α:=List u.T) (fun s=>G (pa.f s)) (K (σ×List u.T) Prod.fst (.sl F (fK u) none (fun t=>t.2.length) .unk) ((F,.data e u (fun t=>t.2) true)::jS Prod.fst pa.fz) (F::bM pa.fz) (F+1)))
 | E=>match qo (kS d) E.ai args with
 | none => .fail "contract: arguments"
 | some pa=>match jv E.ai&&jv E.ri with
   | false => .fail "contract: shape"
   | true=>match Ph E.ri with
     | true=>Em pa.cs (.bnd (fun s=>E.F (pa.f s)) (K (σ×(bZ E.ri).T) Prod.fst (YA E.ri Prod.snd) [] (bM pa.fz) F))
     | false=>Em pa.cs (.bnd (fun s=>E.F (pa.f s)) (K (σ×(bZ E.ri).T) Prod.fst (YA E.ri Prod.snd) (jS Prod.fst pa.fz) (bM pa.fz) F))
def aqQ:List IT->Bool
 | [.tmp _ false [.own _ _ _]]=>true
 | _=>false
def WU (E:CE):Bool:=jv E.ai&&(jv E.ri||aqQ E.ri)
def aok (r:Nat):List Nat->Nat
 | []=>0
 | k::l=>match decide (k=r) with | true=>0 | false=>aok r l+1
def KN (θ:Nat->Option Nat):List Nat->List Nat
 | []=>[]
 | r::l=>match θ r with | some x=>x::KN θ l | none=>KN θ l
def Pj (θ:Nat->Option Nat):List Nat->List Nat
 | []=>[]
 | r::l=>match θ r with | some _=>Pj θ l | none=>match kM r (Pj θ l) with | true=>Pj θ l | false=>r::Pj θ l
def Ut (ρ:Nat->Nat):List Nat->List (Nat×Option Nat)
 | []=>[]
 | r::l=>(ρ r,some r)::Ut ρ l
def isNat:Nat->List Nat->Bool
 | _,[]=>true
 | i,k::l=>decide (k=i)&&isNat (i+1) l
def akN (θ:Nat->Option Nat) (F:Nat) (fr:List Nat) (r:Nat):Nat:=match θ r with | some x=>x | none=>F+aok r fr
def aol (E:CE) (args:List (SV σ)) (d:SS σ) (os:List (Nat×SO σ)) (ρ:Nat->Nat) (θ':Nat->Option Nat) (θ:Nat->Option Nat):Bool :=
 ((Yv E.ai&&(isNat 0 (qB E.ai)&&decide ((qB E.ai).length=args.length)))&&(nodupB (aQ E.ri)&&nodupB (aQ E.ai))) &&
 (((aQ E.ri++aQ E.ai).all (fun r=>eqN (θ' (ρ r)) (some r))&&((dU E.ri).all (fun r=>kM r (aQ E.ri++aQ E.ai))&&(dU E.ai).all (fun r=>kM r (aQ E.ai)))) &&
  (((aQ E.ri++aQ E.ai).all (fun r=>iM (kS d) (ρ r)||kM (ρ r) (bM os))&&(bM os).all (fun x=>kM x (KN θ (aQ E.ai)))) &&
   (EF os&&Bo os (tJ args))))
def adW {β:Type} (E:CE) (args:List (SV σ)) (d:SS σ) (F:Nat) (K:(τ:Type)->(τ->σ)->SV τ->List (Nat×SO τ)->List Nat->Nat->TR β τ) (θ:Nat->Option Nat) (fr:List Nat) (ρ:Nat->Nat) (os:List (Nat×SO σ)):TR β σ :=
 match O6 θ (⟨sG 0 args,os⟩:SS σ) E.ai with
 | none => .fail "contract: state"
 | some pa=>match pa.fz with
   | _::_ => .fail "contract: freezes"
   | []=>match aol E args d os ρ (nY (Ut ρ (aQ E.ri++aQ E.ai))) θ with
     | false => .fail "contract: names"
     | true=>Em pa.cs (.bnd (fun s=>E.F (pa.f s)) (K (σ×(bZ E.ri).T) Prod.fst (qm ((ED ρ E.ri Prod.snd).map (·.2))) (dw ρ E.ri Prod.snd++(dw ρ E.ai (fun t=>pa.f t.1)).filter fun y=>kM y.1 ((O8 θ (⟨sG 0 args,os⟩:SS σ) E.ai).map ρ))
        ((aQ E.ri++aQ E.ai).map ρ) (F+fr.length)))
def adX {β:Type} (E:CE) (args:List (SV σ)) (d:SS σ) (F:Nat) (K:(τ:Type)->(τ->σ)->SV τ->List (Nat×SO τ)->List Nat->Nat->TR β τ) (th:List (Nat×Option Nat)) (fr:List Nat):TR β σ :=
 adW E args d F K (nY th) fr (akN (nY th) F fr) (wM (kS d) (KN (nY th) (aQ E.ai)))
def adY {β:Type} (E:CE) (args:List (SV σ)) (d:SS σ) (F:Nat) (K:(τ:Type)->(τ->σ)->SV τ->List (Nat×SO τ)->List Nat->Nat->TR β τ) (th:List (Nat×Option Nat)):TR β σ :=
 match Pj (nY th) (aQ E.ri++aQ E.ai) with
 | fr=>adX E args d F K th fr
def adZ {β:Type} (E:CE) (args:List (SV σ)) (d:SS σ) (F:Nat) (K:(τ:Type)->(τ->σ)->SV τ->List (Nat×SO τ)->List Nat->Nat->TR β τ):TR β σ :=
 match namesT (⟨sG 0 args,d.hp⟩:SS σ) E.ai [] with
 | th=>adY E args d F K th
def trimS (os us:List (Nat×SO σ)) (n:List Nat):List (Nat×SO σ):=us.filter fun y => !kM y.1 (bM os)||kM y.1 n
end
def agT (l:List Oper):Nat:=match (l.filterMap fun o=>o.guard).eraseDups with
 | []=>0
 | [_]=>1
 | _=>2
def EG:Code->Nat
 | .region _ ops _=>match agT ops.toList with | 2=>2 | _=>1
 | .seq a b=>match EG a with
   | 0=>0
   | 1=>EG b
   | _=>match EG b with | 0=>0 | _=>2
 | .cond _ a b=>match EG a,EG b with
   | 0,n=>n
   | n,0=>n
   | _,_=>2
 | .exit _=>0
 | .ret=>0
 | .block id a=>match EG a,exitsN id a with
   | 0,n=>n
   | n,0=>n
   | _,_=>2
 | .loop _=>0
 | .scope a=>EG a
 | _=>1
where exitsN (id:Nat):Code->Nat
 | .seq a b=>match exitsN id a,exitsN id b with
   | 0,n=>n
   | n,0=>n
   | _,_=>2
 | .cond _ a b=>match exitsN id a,exitsN id b with
   | 0,n=>n
   | n,0=>n
   | _,_=>2
 | .exit i=>match decide (i=id) with | true=>1 | false=>0
 | .block _ a=>exitsN id a
 | .loop a=>exitsN id a
 | .scope a=>exitsN id a
 | _=>0
def wo:Code->Bool
 | .seq a b=>wo a||wo b
 | .cond _ a b=>wo a||wo b
 | .block _ a=>wo a
 | .loop _=>true
 | .scope a=>wo a
 | _=>false
def agU (o:Oper):Bool:=match o.op with
 | .call c=>(match c.callee with
   | .value _=>true
   | _=>false)
 | _=>false
def EH:Code->Nat
 | .seq a b=>EH a+EH b
 | .cond _ a b=>EH a+EH b+1
 | .block _ a=>EH a
 | .loop a=>EH a+10
 | .scope a=>EH a
 | .region _ ops _=>ops.size+12*(ops.toList.filter agU).length
 | _=>0
def ad1 (a b:Code):Bool:=(wo a&&decide (0<EH b))||(decide (2<=EG a)&&decide (12<=EH b))
def Iu:Code->Nat
 | .seq a b=>Iu a+Iu b
 | .cond _ a b=>Iu a+Iu b
 | .block _ a=>Iu a
 | .loop a=>Iu a
 | .scope a=>Iu a
 | .ret=>1
 | _=>0
def akO (c:Code):Bool:=decide (2<=Iu c+EG c)||wo c
inductive WD where
 | ask | go | join (its:List IT)
def ajq (x:Option PL) (want:Bool):WD :=
 match x with
 | some (.carry its) => .join its
 | some .unroll => .go
 | some .once => .go
 | some .stop => .go
 | none=>match want with | true => .ask | false => .go
abbrev aom:Type 1:=(β:Type)->Nat->Nat->Nat->Code->(σ:Type)->SS σ->Nat->((τ:Type)->(τ->σ)->Exit->SS τ->Nat->TR β τ)->TR β σ
section
variable (T:Ty) (q:Nat->Bool) (tab:Nat->Option Func) (con:Nat->Option CE) (plan:Nat->Option PL)
def akP {σ:Type} (rd:Nat->Option (SO σ)):List (SV σ)->Bool
 | []=>false
 | .sl r _ _ _ _::l=>match rd r with
   | some (.data _ _ _ true)=>true
   | _=>akP rd l
 | _::l=>akP rd l
def akQ (con:Nat->Option CE) (f:Nat) (b:Bool):Option CE:=match decide (f<1000000000) with
 | false=>none
 | true=>match b with
   | true=>match con (1000000000+f) with
     | some E=>some E
     | none=>con f
   | false=>con f
def ad2 (rec:aom) (p:Nat) (β:Type):Yr β:=fun i σ f args d F K =>
 match akQ con f (akP (kS d) args) with
 | some E=>match WU E with
   | true=>akM E args d F K
   | false=>adZ E args d F K
 | none=>match tab f with
   | none => .bad [f] "call of an unknown function"
   | some fn=>match fn.body with
     | none => .bad [f] "call without a body"
     | some c=>match wM (kS d) (Dk (kS d) 1000 (tJ args) []) with
       | os=>match decide (args.length<=fn.ntmps)&&(EF os&&Bo os (tJ args)) with
         | false => .bad [f] "call: arguments"
         | true=>match ajq (plan (p*512+16+i)) (akO c) with
           | .ask=>zf (p*512+16+i) (2+8*f) (⟨[],os⟩:SS σ) (⟨[],os⟩:SS σ)
           | .join its=>match EF (headD (⟨[],os⟩:SS σ) its).hp&&((headD (⟨[],os⟩:SS σ) its).hp.all fun y=>iM (kS d) y.1||kM y.1 (bM os)) with
             | false=>zf (p*512+16+i) (4+8*f) (⟨[],os⟩:SS σ) (⟨[],os⟩:SS σ)
             | true => .join (rec ((bZ its).T ⊕ β) f fn.ntmps (p*512+16+i) c σ ⟨sG 0 args,os⟩ F (fun τ g e d' F'=>match aaN e with
                | false => .fail "call: exit"
                | true=>match Ir T d' fn.results.toList with
                  | none => .bad [f] "call: results"
                  | some xs=>Gp (p*512+16+i) (2+8*f) (⟨[],os⟩:SS σ) its (⟨sG 0 xs,d'.hp⟩:SS τ)))
               (K (σ×(bZ its).T) Prod.fst (YB fn.results.size (headD (⟨[],os⟩:SS σ) its)) (jf its Prod.snd) (bM (headD (⟨[],os⟩:SS σ) its).hp) F)
           | .go=>rec β f fn.ntmps (p*512+16+i) c σ ⟨sG 0 args,os⟩ F (fun τ g e d' F'=>match aaN e with
             | false => .fail "call: exit"
             | true=>match Ir T d' fn.results.toList with
               | none => .bad [f] "call: results"
               | some xs=>match wM (kS d') (Dk (kS d') 1000 (tJ xs++bM os) []) with
                 | us=>match (EF us&&Bo us (tJ xs))&&(Bo us (bM os)&&us.all fun y=>iM (kS d) y.1||kM y.1 (bM os)) with
                   | false => .bad [f] "call: back"
                   | true=>K τ g (qm xs) (trimS (jS g os) us (bM (d'.hp.take (d'.hp.length-os.length)))) (bM us) F')
variable (eg:Nat->Bool)
def sx:Nat->aom
 | 0,_,_,_,_,_,_,_,_,_ => .fail "fuel"
 | n+1,β,f,N,p,c,σ,d,F,K=>match c with
   | .skip=>K σ (fun s=>s) .normal d F
   | .label _=>K σ (fun s=>s) .normal d F
   | .exit id=>K σ (fun s=>s) (.exit id) d F
   | .ret=>K σ (fun s=>s) .ret d F
   | .region _ ops draw=>match !draw||Ic ops with
     | true=>QD eg (ad2 T tab con plan (fun β f N p c σ d F K=>sx n β f N p c σ d F K) p β) T q N F ops draw (if draw then uM ops ops.size else []) (ac2 0 ops.toList) σ d [] (F+ops.size) (fun τ g d' F'=>K τ g .normal d' F')
     | false => .fail "region"
   | .seq a b=>match ajq (plan (p*512+1)) (ad1 a b) with
     | .ask=>zf (p*512+1) (1+8*f) d d
     | .join its => .join (sx n ((bZ its).T ⊕ β) f N (p*512) a σ d F (fun τ g e d' F'=>match e with
        | .normal=>Gp (p*512+1) (1+8*f) d its d'
        | e => .out (K τ g e d' F')))
       (sx n β f N (p*512+1) b (σ×(bZ its).T) (headD d its) F (fun τ g e d' F'=>K τ (fun t=>(g t).1) e d' F'))
     | .go=>sx n β f N (p*512) a σ d F (fun τ g e d' F'=>match e with
        | .normal=>sx n β f N (p*512+1) b τ d' F' (fun τ' g' e d'' F''=>K τ' (fun t=>g (g' t)) e d'' F'')
        | e=>K τ g e d' F')
   | .cond x a b=>match xG d x with
     | .val (.bool t)=>match t with
       | true=>sx n β f N (p*512+2) a σ d F K
       | false=>sx n β f N (p*512+3) b σ d F K
     | .bool c=>match x with
       | .tmp t => .iff c (sx n β f N (p*512+2) a σ (CZ d t true) F K) (sx n β f N (p*512+3) b σ (CZ d t false) F K)
       | _ => .iff c (sx n β f N (p*512+2) a σ d F K) (sx n β f N (p*512+3) b σ d F K)
     | _ => .bad [p] "cond"
   | .block id a=>sx n β f N (p*512+4) a σ d F (fun τ g e d' F'=>match e with
     | .exit i=>match decide (i=id) with
       | true=>K τ g .normal d' F'
       | false=>K τ g (.exit i) d' F'
     | e=>K τ g e d' F')
   | .scope a=>sx n β f N (p*512+5) a σ d F (fun τ g e d' F'=>match e with
     | .goto _ => .fail "goto"
     | e=>K τ g e d' F')
   | .loop a=>match plan (p*512+6) with
     | some (.carry its)=>match KH d its d with
       | none=>zf (p*512+6) (8*f) d d
       | some x=>Em x.cs (.loop x.f (sx n ((bZ its).T ⊕ β) f N (p*512+6) a (σ×(bZ its).T) (headD d its) F (fun τ g e d' F'=>match e with
         | .normal=>Gp (p*512+6) (8*f) d its d'
         | e => .out (K τ (fun t=>(g t).1) e d' F'))))
     | some .unroll=>sx n β f N (p*512+6) a σ d F (fun τ g e d' F'=>match e with
        | .normal=>sx n β f N p (.loop a) τ d' F' (fun τ' g' e d'' F''=>K τ' (fun t=>g (g' t)) e d'' F'')
        | e=>K τ g e d' F')
     | some .once=>sx n β f N (p*512+6) a σ d F (fun τ g e d' F'=>match e with
        | .normal=>match plan ((p*512+7)*512+6) with
          | some (.carry _) => .fail "rounds"
          | _=>sx n β f N (p*512+7) (.loop a) τ d' F' (fun τ' g' e d'' F''=>K τ' (fun t=>g (g' t)) e d'' F'')
        | e=>K τ g e d' F')
     | some .stop => .fail "rounds"
     | none=>zf (p*512+6) (8*f) d d
   | _ => .bad [p] "code"
def aon (fn:Func) (ri:List IT):(τ:Type)->Exit->SS τ->TR (bZ ri).T τ:=fun τ e d'=>match aaN e with
 | false => .fail "exit"
 | true=>match Ir T d' fn.results.toList with
   | none => .fail "results"
   | some xs=>match qo (kS d') ri xs with
     | some p=>Em p.cs (.ret p.f)
     | none => .note ⟨0,3,viT (kS d') (sG 0 xs),[],[],[]⟩
def ad3 (n f:Nat) (fn:Func) (ai ri:List IT):TR (bZ ri).T (bZ ai).T:=match fn.body with
 | some c=>sx T q tab con plan eg n (bZ ri).T f fn.ntmps 1 c (bZ ai).T ⟨oQ ai (fun s=>s),[]⟩ 0 (fun τ _ e d' _=>aon T fn ri τ e d')
 | none => .fail "no body"
def aoo (fn:Func) (ai ri:List IT):(τ:Type)->Exit->SS τ->TR (bZ ri).T τ:=fun τ e d'=>match aaN e with
 | false => .fail "exit"
 | true=>match Ir T d' fn.results.toList with
   | none => .fail "results"
   | some xs=>match KH (⟨[],jf ai (fun s=>s)⟩:SS (bZ ai).T) ri (⟨sG 0 xs,d'.hp⟩:SS τ) with
     | some p=>Em p.cs (.ret p.f)
     | none=>match agS (⟨sG 0 xs,d'.hp⟩:SS τ) ri with
       | true => .fail "cut"
       | false=>zf 0 2 (⟨[],jf ai (fun s=>s)⟩:SS (bZ ai).T) (⟨sG 0 xs,d'.hp⟩:SS τ)
def ajr (n f:Nat) (fn:Func) (ai ri:List IT):TR (bZ ri).T (bZ ai).T:=match fn.body with
 | some c=>sx T q tab con plan eg n (bZ ri).T f fn.ntmps 1 c (bZ ai).T ⟨oQ ai (fun s=>s),jf ai (fun s=>s)⟩ 0 (fun τ _ e d' _=>aoo T fn ai ri τ e d')
 | none => .fail "no body"
end
theorem agV {hp:Nat->Option AO} {us us':List (Nat×AO)} (h:∀r,look r us'=look r us\/(look r us'=none/\∀o,look r us=some o->hp r=some o)):dN hp us=dN hp us':=by
 funext r;unfold dN;rcases h r with e | ⟨e1,e2⟩
 ·rw [e]
 ·rw [e1];cases hl:look r us with
  | none=>rfl
  | some o=>exact (e2 o hl).symm
theorem Gq {P:Program} {GL:Nat->Option (List DV)} {f:FuncId} {args:List AV} {rds:List Nat} {v:AV} {us us':List (Nat×AO)} {hp:Nat->Option AO} (h:Does P GL f args rds v us hp)
 (hu:∀r,look r us'=look r us\/(look r us'=none/\∀o,look r us=some o->r∈rds/\hp r=some o)):Does P GL f args rds v us' hp:=fun E w vs hrd hw hs hrel=>by
 refine (h E w vs hrd hw hs hrel).mono ?_;rintro e w' ⟨u,E',h1,h2,h3⟩;refine ⟨u,E',h1,⟨h2.h,?_,h2.ext,h2.sim,h2.fr⟩,h3⟩;rw [h2.hp];refine agV fun r => ?_;rcases hu r with e | ⟨e1,e2⟩
 ·exact .inl e
 ·exact .inr ⟨e1,fun o ho=>by rw [hrd r (e2 o ho).1];exact (e2 o ho).2⟩
def kC (xs:List AV):AV:=match xs with | [x]=>x | xs => .tup xs
theorem oU {σ:Type} (s:σ) (xs:List (SV σ)):(qm xs).c s=kC (cL s xs):=by
 cases xs with
 | nil=>show (SV.tup []).c s=_;rw [SV.c];rfl
 | cons x xs=>cases xs with
   | nil=>rfl
   | cons y ys=>show (SV.tup (x::y::ys)).c s=_;rw [SV.c];rfl
def ad4 (P:Program) (f:Nat) (E:CE):Prop :=
 yx P f=true/\match E with
 | ⟨ai,[.tmp _ false [.own _ e u]],G⟩=>∀a (x:List u.T),G a=some x->fB P iY f ((lU ai a).map (·.2)) [] (.sl 1 0 x.length none) [(1,.data e (fK u) (aI u x) true)]
 | E=>∀a r,E.F a=some r->fB P iY f ((lU E.ai a).map (·.2)) [] (kC ((lU E.ri r).map (·.2))) []
def agW (P:Program) (f:Nat) (E:CE):Prop:=yx P f=true/\∀a r,E.F a=some r->fB P iY f ((lU E.ai a).map (·.2)) (oM E.ai a) (kC ((lU E.ri r).map (·.2))) (oM E.ri r++oM E.ai a)
def aV (P:Program) (f:Nat) (E:CE):Prop:=match WU E with
 | true=>ad4 P f E
 | false=>agW P f E
theorem ad4.mk {P:Program} {f:Nat} {ai ri:List IT} {G:(bZ ai).T->Option (bZ ri).T} (h1:yx P f=true) (hd:jv ri=true) (h:∀a r,G a=some r->fB P iY f ((lU ai a).map (·.2)) [] (kC ((lU ri r).map (·.2))) []):ad4 P f ⟨ai,ri,G⟩:=by
 refine ⟨h1,?_⟩;split
 ·rename_i heq;cases heq;simp [jv,I9] at hd
 ·exact h
theorem aV.mk {P:Program} {f:Nat} {ai ri:List IT} {G:(bZ ai).T->Option (bZ ri).T} (h1:yx P f=true) (ha:jv ai=true) (hd:jv ri=true) (h:∀a r,G a=some r->fB P iY f ((lU ai a).map (·.2)) [] (kC ((lU ri r).map (·.2))) []):aV P f ⟨ai,ri,G⟩:=by
 have e:WU ⟨ai,ri,G⟩=true:=by unfold WU;simp only [ha,hd,Bool.true_or,Bool.and_self]
 unfold aV;rw [e];exact ad4.mk h1 hd h
theorem IZ.mono {hp:Nat->Option AO} {rds rds':List Nat} (hs:∀r∈rds,r∈rds'):∀ {F:List (Nat×AO)},IZ rds hp F->IZ rds' hp F
 | [],_=>trivial
 | (r,o)::l,h=>⟨hs r h.1,h.2.1,IZ.mono hs h.2.2⟩
section
variable {σ:Type} {s:σ} {rd:Nat->Option (SO σ)}
theorem akR (l:List (Nat×SV σ)):cL s (l.map (·.2))=(cT s l).map (·.2):=by
 induction l with
 | nil=>rfl
 | cons x l ih=>obtain ⟨t,v⟩:=x;rw [List.map_cons,cL,ih,cT,List.map_cons]
theorem YC (its:List IT) (f:σ->(bZ its).T):(YA its f).c s=kC ((lU its (f s)).map (·.2)):=by
 unfold YA;rw [oU,akR,uZ]
def yL (rd:Nat->Option (SO σ)) (fz:List (Nat×SO σ)):Prop:=∀x∈fz,∃e u f wr,rd x.1=some (.data e u f wr)/\x.2 = .data e u f false
theorem yL.nil:yL rd []:=fun x hx=>by cases hx
theorem yL.append {a b:List (Nat×SO σ)} (h:yL rd a) (k:yL rd b):yL rd (a++b):=fun x hx=>by
 rcases List.mem_append.1 hx with e | e
 ·exact h x e
 ·exact k x e
theorem akS {t:U} {v:SV σ} {p:PK σ (List t.T)} (hp:pkL rd t v=some p):yL rd p.fz:=by
 unfold pkL at hp;split at hp
 ·split at hp
  ·cases hp;exact yL.nil
  ·cases hp
 ·cases hp;exact yL.nil
 ·rename_i r z o n cap;split at hp
  ·rename_i e u f wr hr;split at hp
   ·cases hp;intro x hx;rw [List.mem_singleton] at hx;subst hx;exact ⟨e,u,f,wr,hr,rfl⟩
   ·cases hp
  ·cases hp
 ·cases hp
theorem akT {t:U} {v:SV σ} {p:PK σ (List t.T)} (hp:pkL rd t v=some p) (hc:allT s p.cs) {F:Nat->Option AO} (hF:∀r e u f wr,rd r=some (.data e u f wr)->r∈p.fz.map (·.1)->F r=some (.data e (fK u) (aI u (f s)) false)) :
 Qi F (.d (.dl (aI t (p.f s)) (p.f s).length none)) (v.c s):=by
 unfold pkL at hp;split at hp
 ·split at hp
  ·rename_i hk _;subst hk;cases hp;rw [SV.c,Qi];exact .inl rfl
  ·cases hp
 ·cases hp;rw [SV.c,Qi];exact .inr rfl
 ·rename_i r z o n cap;split at hp
  ·rename_i e u f wr hr;split at hp
   ·rename_i hk _ hz;subst hk;cases hp;have hz:=of_decide_eq_true hz;have h1:=yH hc.1;rw [SV.c,Qi];unfold TdD;simp only [hF r e u f wr hr (by simp)];refine .inl ?_;show DV.dl (aI u (rowP o n f s)) (rowP o n f s).length none=_;rw [vY,hz,jo,gy,List.length_take,List.length_drop,Nat.min_eq_left (by omega)]
   ·cases hp
  ·cases hp
 ·cases hp
theorem ad5 {F:Nat->Option AO} {x:DV} {y:AV} (h:y = .d x):Qi F (.d x) y:=by subst h;rw [Qi];exact .inl rfl
theorem akU:∀(c:CS) (v:SV σ) (p:PK σ (uC c).T),I9 [c]=true->QE rd c v=some p->allT s p.cs ->
 yL rd p.fz/\∀F:Nat->Option AO,(∀r e u f wr,rd r=some (.data e u f wr)->r∈p.fz.map (·.1)->F r=some (.data e (fK u) (aI u (f s)) false))->Qi F (aC c (p.f s)) (v.c s)
 | .dat u,v,p,hd,hp,hc=>by
   simp only [QE] at hp;split at hp
   ·rename_i hs;cases u with
    | int k =>
      simp only [I5] at hp;split at hp
      ·rename_i k' f hf;split at hp
       ·rename_i hk _;obtain ⟨hk⟩:=hk;subst hk;cases hp;exact ⟨yL.nil,fun F _=>ad5 (oI hf s)⟩
       ·cases hp
      ·cases hp
    | bool =>
      simp only [I5] at hp;split at hp
      ·rename_i f hf;cases hp;exact ⟨yL.nil,fun F _=>ad5 (zU hf s)⟩
      ·cases hp
    | str =>
      simp only [I5] at hp;split at hp
      ·rename_i f hf;cases hp;exact ⟨yL.nil,fun F _=>ad5 (tH hf s)⟩
      ·cases hp
    | list t =>
      simp only [I5] at hp;exact ⟨akS hp,fun F hF=>akT hp hc hF⟩
    | pair a b=>cases hs
    | unit=>cases hs
   ·cases hp
 | .own r e u,v,p,hd,hp,hc=>by cases hd
 | .nil,v,p,hd,hp,hc=>by cases hd
 | .np,v,p,hd,hp,hc=>by cases hd
 | .pt r off,v,p,hd,hp,hc=>by cases hd
 | .cl f caps,v,p,hd,hp,hc=>by cases hd
theorem QU:∀(cs:List CS) (vs:List (SV σ)) (p:PK σ (jq cs).T),I9 cs=true->I8 rd cs vs=some p->allT s p.cs ->
 yL rd p.fz/\∀F:Nat->Option AO,(∀r e u f wr,rd r=some (.data e u f wr)->r∈p.fz.map (·.1)->F r=some (.data e (fK u) (aI u (f s)) false))->NG F (pJ cs (p.f s)) (cL s vs)
 | [],[],p,hd,hp,hc=>by
   simp only [I8] at hp;cases hp;refine ⟨yL.nil,fun F _ => ?_⟩;rw [cL,show pJ [] ()=[] from rfl,NG]
 | c::cs,v::vs,p,hd,hp,hc=>by
   rw [I8] at hp;split at hp
   ·rename_i x y hx hy;cases hp;rw [bV] at hc;have e1:jF (uC c) (jq cs) (wU (uC c) (jq cs) (x.f s) (y.f s))=x.f s:=jX _ _ _ _;have e2:kN (uC c) (jq cs) (wU (uC c) (jq cs) (x.f s) (y.f s))=y.f s:=kT _ _ _ _;have hd1:I9 [c]=true:=by cases c<;>first | rfl | cases hd
    have hd2:I9 cs=true:=by cases c<;>first | exact hd | cases hd
    obtain ⟨a1,a2⟩:=akU c v x hd1 hx hc.1;obtain ⟨b1,b2⟩:=QU cs vs y hd2 hy hc.2;refine ⟨a1.append b1,fun F hF => ?_⟩;rw [cL];simp only [pJ,e1,e2];rw [NG];exact ⟨_,_,rfl,a2 F fun r e u f wr hr hm=>hF r e u f wr hr (by rw [List.map_append];exact List.mem_append_left _ hm),b2 F fun r e u f wr hr hm=>hF r e u f wr hr (by rw [List.map_append];exact List.mem_append_right _ hm)⟩
   ·cases hp
 | [],_::_,p,_,hp,_=>by cases hp
 | _::_,[],p,_,hp,_=>by cases hp
theorem xJ:∀(ai:List IT) (vs:List (SV σ)) (p:PK σ (bZ ai).T),jv ai=true->qo rd ai vs=some p->allT s p.cs ->
 yL rd p.fz/\∀F:Nat->Option AO,(∀r e u f wr,rd r=some (.data e u f wr)->r∈p.fz.map (·.1)->F r=some (.data e (fK u) (aI u (f s)) false))->NG F ((lU ai (p.f s)).map (·.2)) (cL s vs)
 | [],[],p,hd,hp,hc=>by
   simp only [qo] at hp;cases hp;refine ⟨yL.nil,fun F _ => ?_⟩;rw [cL];show NG F [] [];rw [NG]
 | .tmp t false cs::l,v::vs,p,hd,hp,hc=>by
   rw [qo] at hp;rw [jv,Bool.and_eq_true] at hd;split at hp
   ·rename_i x y hx hy;cases hp;rw [bV] at hc;have e1:jF (uI (.tmp t false cs)) (bZ l) (wU (jq cs) (bZ l) (x.f s) (y.f s))=x.f s:=jX _ _ _ _;have e2:kN (uI (.tmp t false cs)) (bZ l) (wU (jq cs) (bZ l) (x.f s) (y.f s))=y.f s:=kT _ _ _ _;obtain ⟨a1,a2⟩:=QU cs [v] x hd.1 hx hc.1;obtain ⟨b1,b2⟩:=xJ l vs y hd.2 hy hc.2;refine ⟨a1.append b1,fun F hF => ?_⟩;have hA:=a2 F fun r e u f wr hr hm=>hF r e u f wr hr (by rw [List.map_append];exact List.mem_append_left _ hm);have hB:=b2 F fun r e u f wr hr hm=>hF r e u f wr hr (by rw [List.map_append];exact List.mem_append_right _ hm);rw [cL,cL] at hA;rw [cL];simp only [lU,e1,e2,List.map_append];show NG F (oJ (pJ cs (x.f s))::(lU l (y.f s)).map (·.2)) _;rw [NG];refine ⟨_,_,rfl,?_,hB⟩;generalize pJ cs (x.f s)=ys at hA ⊢;cases ys with
    | nil=>rw [NG] at hA;cases hA
    | cons y ys =>
      rw [NG] at hA;obtain ⟨x,xs,h1,h2,h3⟩:=hA;cases h1;cases ys with
      | nil=>exact h2
      | cons z zs=>rw [NG] at h3;obtain ⟨_,_,h4,_⟩:=h3;cases h4
   ·cases hp
 | .tmp t true cs::l,v::vs,p,hd,hp,hc=>by
   rw [jv,Bool.and_eq_true] at hd;cases v with
   | agg ws =>
     simp only [qo] at hp;split at hp
     ·rename_i x y hx hy;cases hp;rw [bV] at hc;have e1:jF (uI (.tmp t true cs)) (bZ l) (wU (jq cs) (bZ l) (x.f s) (y.f s))=x.f s:=jX _ _ _ _;have e2:kN (uI (.tmp t true cs)) (bZ l) (wU (jq cs) (bZ l) (x.f s) (y.f s))=y.f s:=kT _ _ _ _;obtain ⟨a1,a2⟩:=QU cs ws x hd.1 hx hc.1;obtain ⟨b1,b2⟩:=xJ l vs y hd.2 hy hc.2;refine ⟨a1.append b1,fun F hF => ?_⟩;have hA:=a2 F fun r e u f wr hr hm=>hF r e u f wr hr (by rw [List.map_append];exact List.mem_append_left _ hm);have hB:=b2 F fun r e u f wr hr hm=>hF r e u f wr hr (by rw [List.map_append];exact List.mem_append_right _ hm);rw [cL];simp only [lU,e1,e2,List.map_append];show NG F (.agg (pJ cs (x.f s))::(lU l (y.f s)).map (·.2)) _;rw [NG];refine ⟨_,_,rfl,?_,hB⟩;rw [SV.c,Qi];exact ⟨_,rfl,hA⟩
     ·cases hp
   | _=>simp only [qo] at hp;cases hp
 | [],_::_,p,_,hp,_=>by cases hp
 | .tmp _ true _::_,[],p,_,hp,_=>by cases hp
 | .tmp _ false _::_,[],p,_,hp,_=>by cases hp
 | .mix _ _::_,_,p,hd,_,_=>by cases hd
 | .row _ _ _::_,_,p,hd,_,_=>by cases hd
 | .arr _ _::_,_,p,hd,_,_=>by cases hd
 | .mp _::_,_,p,hd,_,_=>by cases hd
 | .drop _::_,_,p,hd,_,_=>by cases hd
 | .dead _::_,_,p,hd,_,_=>by cases hd
theorem Uu {N:Nat} {d:SS σ} {fz:List (Nat×SO σ)} (h:yL (kS d) fz):∀(l:List (Nat×SO σ)),(∀x∈l,x∈fz)->IZ (bM fz) (d.c s N).rd (cO s l)
 | [],_=>trivial
 | (r,o)::l,hl=>by
   obtain ⟨e,u,f,wr,h1,h2⟩:=h (r,o) (hl _ List.mem_cons_self);rw [cO,IZ];refine ⟨?_,⟨e,fK u,aI u (f s),wr,?_,?_⟩,Uu h l fun x hx=>hl x (List.mem_cons_of_mem _ hx)⟩
   ·have:∀l:List (Nat×SO σ),(r,o)∈l->r∈bM l:=by
     intro l
     induction l with
     | nil=>intro h;cases h
     | cons x l ih =>
       intro h;obtain ⟨k,y⟩:=x;rw [bM];rcases List.mem_cons.1 h with e | e
       ·cases e;exact List.mem_cons_self
       ·exact List.mem_cons_of_mem _ (ih e)
    exact this fz (hl _ List.mem_cons_self)
   ·rw [<-mV];simp only [iL];simp only at h1;rw [h1];rfl
   ·simp only at h2;rw [h2];rfl
theorem QV {fz:List (Nat×SO σ)} (h:yL rd fz) {r e:Nat} {u:U} {f:σ->List u.T} {wr:Bool} (hr:rd r=some (.data e u f wr)) (hm:r∈fz.map (·.1)):aJ (cO s fz) r=some (.data e (fK u) (aI u (f s)) false):=by
 unfold aJ;rw [lu]
 induction fz with
 | nil=>cases hm
 | cons x fz ih =>
   obtain ⟨k,o⟩:=x;rw [look];by_cases hk:k=r
   ·subst hk;rw [if_pos rfl];obtain ⟨e',u',f',wr',h1,h2⟩:=h (k,o) List.mem_cons_self;rw [hr] at h1;cases h1;simp only at h2;rw [h2];rfl
   ·rw [if_neg hk];rw [List.map_cons] at hm;rcases List.mem_cons.1 hm with e1 | e1
    ·exact (hk e1.symm).elim
    ·exact ih (fun x hx=>h x (List.mem_cons_of_mem _ hx)) e1
theorem Gs:∀(cs:List CS) (x:(jq cs).T),I9 cs=true->AV.refs.refsL (pJ cs x)=[]
 | [],x,_=>rfl
 | .dat u::cs,x,h=>by
   rw [pJ,AV.refs.refsL,Gs cs _ h,List.append_nil];cases u<;>simp [aC,dV,eu,AV.refs]
theorem WV {l:List AV} (h:AV.refs.refsL l=[]):(oJ l).refs=[]:=by
 cases l with
 | nil=>simp [oJ,AV.refs]
 | cons x l =>
   rw [AV.refs.refsL,List.append_eq_nil_iff] at h;cases l with
   | nil=>exact h.1
   | cons y l=>simp [oJ,AV.refs]
theorem sH:∀(ai:List IT) (x:(bZ ai).T),jv ai=true->AV.refs.refsL ((lU ai x).map (·.2))=[]
 | [],x,_=>rfl
 | .tmp t true cs::l,x,h=>by
   rw [jv,Bool.and_eq_true] at h;show AV.refs.refsL (.agg (pJ cs _)::(lU l _).map (·.2))=[]
   rw [AV.refs.refsL,sH l _ h.2,List.append_nil,AV.refs];exact Gs cs _ h.1
 | .tmp t false cs::l,x,h=>by
   rw [jv,Bool.and_eq_true] at h;show AV.refs.refsL (oJ (pJ cs _)::(lU l _).map (·.2))=[]
   rw [AV.refs.refsL,sH l _ h.2,List.append_nil];exact WV (Gs cs _ h.1)
theorem vg:∀(cs:List CS) (x:(jq cs).T),Pg cs=true->qE (pJ cs x)=true
 | [],x,_=>rfl
 | .dat (.int k)::cs,x,h=>by rw [pJ,qE,vg cs _ h];rfl
 | .dat .bool::cs,x,h=>by rw [pJ,qE,vg cs _ h];rfl
 | .dat .str::cs,x,h=>by rw [pJ,qE,vg cs _ h];rfl
theorem WW {l:List AV} (h:qE l=true) (hn:l.length=1):(oJ l).flat=true:=by
 cases l with
 | nil=>cases hn
 | cons x l =>
   rw [qE,Bool.and_eq_true] at h;cases l with
   | nil=>exact h.1
   | cons y l=>simp at hn
theorem YD:∀(cs:List CS) (x:(jq cs).T),(pJ cs x).length=cs.length
 | [],_=>rfl
 | c::cs,x=>by rw [pJ,List.length_cons,List.length_cons,YD cs]
theorem Dl:∀(ri:List IT) (x:(bZ ri).T),Ph ri=true->qE ((lU ri x).map (·.2))=true
 | [],x,_=>rfl
 | .tmp t true cs::l,x,h=>by
   rw [Ph] at h;simp only [Bool.and_eq_true] at h;show qE (.agg (pJ cs _)::(lU l _).map (·.2))=true;rw [qE,Dl l _ h.2,Bool.and_true,AV.flat];exact vg cs _ h.1
 | .tmp t false cs::l,x,h=>by
   rw [Ph] at h;simp only [Bool.and_eq_true,decide_eq_true_eq] at h;show qE (oJ (pJ cs _)::(lU l _).map (·.2))=true;rw [qE,Dl l _ h.2,Bool.and_true];exact WW (vg cs _ h.1.1) ((YD cs _).trans h.1.2)
theorem ad6 {l:List AV} (h:qE l=true):(kC l).flat=true:=by
 cases l with
 | nil=>exact h
 | cons x l=>cases l with
   | nil=>rw [qE,Bool.and_eq_true] at h;exact h.1
   | cons y l=>exact h
end
theorem YE {β σ α:Type} {f:σ->Option α} {r:TR β (σ×α)} {s:σ} {b:β} (h:(TR.bnd f r).run s=some b):∃a,f s=some a/\r.run (s,a)=some b:=by
 rw [TR.run] at h;cases hf:f s with
 | none=>rw [hf] at h;cases h
 | some a=>rw [hf] at h;exact ⟨a,rfl,h⟩
theorem agX {P:Program} {σ:Type} {β:Type} {N f:Nat} {E:CE} (hE:ad4 P f E) {args:List (SV σ)} {d:SS σ} {F:Nat} {K:(τ:Type)->(τ->σ)->SV τ->List (Nat×SO τ)->List Nat->Nat->TR β τ} {s:σ} {b:β} (h:(akM E args d F K).run s=some b) :
 ∃(τ:Type) (g:τ->σ) (s':τ) (v:SV τ) (us:List (Nat×SO τ)) (rds:List Nat) (F':Nat),g s'=s/\yx P f=true/\Does P iY f (cL s args) rds (v.c s') (cO s' us) (d.c s N).rd/\(K τ g v us rds F').run s'=some b:=by
 unfold akM at h;split at h
 ·rename_i ai _ _ e u G;split at h
  ·rw [TR.run] at h;cases h
  ·rename_i pa hpa;split at h
   ·rw [TR.run] at h;cases h
   ·rename_i hd;rw [Bool.and_eq_true] at hd;obtain ⟨hd,hn⟩:=hd;obtain ⟨h1,h2⟩:=rF h;obtain ⟨x,hf,h2⟩:=YE (α:=List u.T) h2;obtain ⟨a1,a2⟩:=xJ (s:=s) ai args pa hd hpa h1;have hF:(d.c s N).rd F=none:=by rw [<-mV s N d];exact Option.not_isSome_iff_eq_none.1 (uX s hn)
    have hFz:look F (cO s pa.fz)=none:=by
     cases hl:look F (cO s pa.fz) with
     | none=>rfl
     | some o =>
       obtain ⟨k1,e1,s1,c1,w1,g1,g2⟩:=V4 (Uu (N:=N) (s:=s) a1 pa.fz fun x hx=>hx) _ _ (bH hl);rw [hF] at g1;cases g1
    refine ⟨_,Prod.fst,(s,x),_,_,_,F+1,rfl,hE.1,?_,h2⟩;have e1:cO (s,x) (((F,.data e u (fun t=>t.2) true)::jS Prod.fst pa.fz:List (Nat×SO (σ×List u.T))))=[(F,.data e (fK u) (aI u x) true)]++cO s pa.fz:=by
     rw [cO,rD,SO.c];rfl
    have e2:(SV.sl F (fK u) none (fun t=>t.2.length) .unk:SV (σ×List u.T)).c (s,x) = .sl F 0 x.length none:=by
     rw [SV.c];simp [wK,sF]
    rw [e1,e2];refine Ie (args':=(lU ai (pa.f s)).map (·.2)) (F:=cO s pa.fz) ?_ (IZ.mono (fun r hr=>List.mem_cons_of_mem _ hr) (Uu a1 pa.fz fun x hx=>hx)) (a2 _ fun r e u f wr hr hm=>QV a1 hr hm);exact ac5 (aaQ (r:=F) (hE.2 _ _ hf) (sH _ _ hd) (by unfold dN;rw [hFz];exact hF)) (by simp)
 ·rename_i hno;have hE2:∀a r,E.F a=some r->fB P iY f ((lU E.ai a).map (·.2)) [] (kC ((lU E.ri r).map (·.2))) []:=by
   have:=hE.2;split at this
   ·exact (hno _ _ _ _ _ _ rfl).elim
   ·exact this
  split at h
  ·rw [TR.run] at h;cases h
  ·rename_i pa hpa;split at h
   ·rw [TR.run] at h;cases h
   ·rename_i hd;rw [Bool.and_eq_true] at hd;have key:∀ {t:TR β (σ×(bZ E.ri).T)},(Em pa.cs (.bnd (fun s=>E.F (pa.f s)) t)).run s=some b->allT s pa.cs/\∃r,E.F (pa.f s)=some r/\t.run (s,r)=some b:=fun {t} ht=>by
     obtain ⟨h1,h2⟩:=rF ht;rw [TR.run] at h2;cases hf:E.F (pa.f s) with
     | none=>rw [hf] at h2;cases h2
     | some r=>rw [hf] at h2;exact ⟨h1,r,rfl,h2⟩
    split at h
    ·rename_i hfl;obtain ⟨h1,r,h2,h3⟩:=key h;obtain ⟨a1,a2⟩:=xJ (s:=s) E.ai args pa hd.1 hpa h1;refine ⟨_,Prod.fst,(s,r),_,_,_,F,rfl,hE.1,?_,h3⟩;rw [YC];exact aaB (F:=cO s pa.fz) (hE2 _ _ h2) (ad6 (Dl _ _ hfl)) (Uu a1 pa.fz fun x hx=>hx) (a2 _ fun r e u f wr hr hm=>QV a1 hr hm) (sH _ _ hd.1)
    ·obtain ⟨h1,r,h2,h3⟩:=key h;obtain ⟨a1,a2⟩:=xJ (s:=s) E.ai args pa hd.1 hpa h1;refine ⟨_,Prod.fst,(s,r),_,_,_,F,rfl,hE.1,?_,h3⟩;rw [YC,rD];refine Ie (us:=[]) (F:=cO s pa.fz) ?_ (Uu a1 pa.fz fun x hx=>hx) (a2 _ fun r e u f wr hr hm=>QV a1 hr hm);refine qN (hE2 _ _ h2) (fun p hp=>(by cases hp)) rfl ?_ (fun p hp=>(by cases hp)) rfl;rw [sH _ _ hd.1];rfl
section
variable {σ τ:Type}
theorem nH {l:List (Nat×SO σ)} {r:Nat}:r∈bM l↔∃o,(r,o)∈l:=by
 induction l with
 | nil=>simp [bM]
 | cons x l ih =>
   obtain ⟨k,o⟩:=x;rw [bM,List.mem_cons,ih];constructor
   ·rintro (rfl | ⟨o',h⟩)
    ·exact ⟨o,List.mem_cons_self⟩
    ·exact ⟨o',List.mem_cons_of_mem _ h⟩
   ·rintro ⟨o',h⟩;rcases List.mem_cons.1 h with e | e
    ·cases e;exact .inl rfl
    ·exact .inr ⟨o',e⟩
theorem vk {l:List (Nat×SO σ)} {s:σ} {r:Nat} (h:r∈bM l):(look r (cO s l)).isSome=true:=by
 rw [lu];obtain ⟨o,ho⟩:=nH.1 h;obtain ⟨w,hw⟩:=jT ho;rw [hw];rfl
theorem Bq {os:List (Nat×SO σ)} {rs:List Nat} {s:σ} (h:Bo os rs=true):yX (cO s os) rs=true:=by
 unfold yX;refine List.all_eq_true.2 fun r hr => ?_;exact vk (gV.1 (List.all_eq_true.1 h r hr))
theorem qQ {l:List (Nat×SO σ)} {s:σ} {x:Nat×AO} (h:x∈cO s l):∃o,(x.1,o)∈l/\x.2=o.c s:=by
 induction l with
 | nil=>cases h
 | cons y l ih =>
   obtain ⟨k,o⟩:=y;rw [cO] at h;rcases List.mem_cons.1 h with e | e
   ·subst e;exact ⟨o,List.mem_cons_self,rfl⟩
   ·obtain ⟨o',h1,h2⟩:=ih e;exact ⟨o',List.mem_cons_of_mem _ h1,h2⟩
theorem Bv {os:List (Nat×SO σ)} {s:σ} (h:EF os=true):((cO s os).all fun p=>yX (cO s os) (D9 p.2))=true:=by
 refine List.all_eq_true.2 fun x hx => ?_;obtain ⟨o,h1,h2⟩:=qQ hx;rw [h2,QK];exact Bq (List.all_eq_true.1 h _ h1)
theorem vw {rd:Nat->Option (SO σ)}:∀ {l:List Nat} {x:Nat×SO σ},x∈wM rd l->rd x.1=some x.2
 | [],x,h=>by cases h
 | r::l,x,h=>by
   rw [wM] at h;split at h
   ·rename_i o ho;rcases List.mem_cons.1 h with e | e
    ·subst e;exact ho
    ·exact vw e
   ·exact vw h
theorem KO (s:σ):∀(i:Nat) (l:List (SV σ)),cT s (sG i l)=jw i (cL s l)
 | i,[]=>rfl
 | i,x::l=>by rw [sG,cT,KO s (i+1) l,cL];rfl
theorem agY {T:Ty} {d:SS σ} {s:σ} {N:Nat} {r:ResultVar} {v:SV σ} (h:Yz T d r=some v):JM T (d.c s N) r=some (v.c s):=by
 have hget:∀t,(d.c s N).get t=(match jI t d.tm with | some x=>x | none => .junk:SV σ).c s:=fun t=>by
  unfold SL.get SS.c;simp only [ql];rw [jR];cases look t d.tm with
  | none=>simp only [Option.map_none];rw [SV.c]
  | some x=>rfl
 cases r with
 | tmp t =>
   simp only [Yz,Option.some.injEq] at h;subst h;exact congrArg some (hget t)
 | cell a t =>
   simp only [Yz] at h;split at h
   ·rename_i i r off hT hl;split at h
    ·rename_i cs hr;show Tt T (d.c s N).rd t ((d.c s N).get a)=_;rw [hget,hl,<-mV];unfold Tt;simp only [hT,SV.c,iL,hr,Option.map_some,SO.c];exact yE s h
    ·cases h
   ·cases h
theorem Jk {T:Ty} {d:SS σ} {s:σ} {N:Nat}:∀(l:List ResultVar) (xs:List (SV σ)),Ir T d l=some xs->yB T (d.c s N) l=some (cL s xs)/\xs.length=l.length
 | [],xs,h=>by cases h;exact ⟨rfl,rfl⟩
 | r::l,xs,h=>by
   rw [Ir] at h;split at h
   ·rename_i x ys hx hy;cases h;obtain ⟨a,b⟩:=Jk l ys hy;rw [yB,agY hx,a];exact ⟨rfl,by rw [List.length_cons,List.length_cons,b]⟩
   ·cases h
theorem QW {T:Ty} {d:SS σ} {s:σ} {N:Nat} {fn:Func} {xs:List (SV σ)} (h:Ir T d fn.results.toList=some xs):D7 T fn (d.c s N)=some ((qm xs).c s):=by
 unfold D7;rw [(Jk _ _ h).1,oU];generalize cL s xs=ys;cases ys with
 | nil=>rfl
 | cons y ys=>cases ys with
   | nil=>rfl
   | cons z zs=>rfl
theorem aa5 {d:SS σ} {g:τ->σ} {d':SS τ} (h:Grow d g d') {r:Nat} (hr:(look r d.hp).isSome=true):(look r d'.hp).isSome=true:=by
 obtain ⟨_,l,e⟩:=h;rw [e,bQ];cases look r l with
 | some x=>rfl
 | none =>
   simp only;have:∀l:List (Nat×SO σ),look r (jS g l)=(look r l).map (SO.map g):=by
    intro l
    induction l with
    | nil=>rfl
    | cons x l ih =>
      obtain ⟨k,v⟩:=x;rw [jS,look,look];split
      ·rfl
      ·exact ih
   rw [this];cases hl:look r d.hp with
   | none=>rw [hl] at hr;cases hr
   | some w=>rfl
theorem Ag {α:Type} (q:Nat->Bool) (r:Nat):∀l:List (Nat×α),look r (l.filter fun y=>q y.1)=if q r=true then look r l else none
 | []=>by simp [look]
 | (k,x)::l=>by
   rw [List.filter_cons];have ih:=Ag q r l;by_cases hk:k=r
   ·subst hk;by_cases hq:q k=true
    ·simp only [hq,if_true];rw [look,if_pos rfl,look,if_pos rfl]
    ·rw [if_neg hq,ih,if_neg hq,if_neg hq]
   ·by_cases hq:q k=true
    ·simp only [hq,if_true];rw [look,if_neg hk,look,if_neg hk];exact ih
    ·rw [if_neg hq,ih,look,if_neg hk]
theorem Bz (s:σ) (q:Nat->Bool):∀l:List (Nat×SO σ),cO s (l.filter fun y=>q y.1)=(cO s l).filter fun y=>q y.1
 | []=>rfl
 | (k,x)::l=>by
   rw [cO,List.filter_cons,List.filter_cons];cases hq:q k with
   | true=>simp only [if_true];rw [cO,Bz s q l]
   | false=>simp only [Bool.false_eq_true,if_false];exact Bz s q l
theorem qR {β:Type} {p kind:Nat} {d:SS σ} {its:List IT} {d':SS τ} {s:τ} {r:(bZ its).T ⊕ β} (h:(Gp p kind d its d':TR ((bZ its).T ⊕ β) τ).run s=some r):∃x,KH d its d'=some x/\allT s x.cs/\r = .inl (x.f s):=by
 unfold Gp at h;split at h
 ·rename_i x hx;obtain ⟨h1,h2⟩:=rF h;rw [TR.run] at h2;exact ⟨x,hx,h1,by cases h2;rfl⟩
 ·split at h
  ·rw [TR.run] at h;cases h
  ·unfold zf at h;rw [TR.run] at h;cases h
theorem oN {β υ:Type} {t:TR β τ} {s:τ} {r:υ ⊕ β} (h:(TR.out t:TR (υ ⊕ β) τ).run s=some r):∃b,t.run s=some b/\r = .inr b:=by
 rw [TR.run] at h;cases ht:t.run s with
 | none=>rw [ht] at h;cases h
 | some b=>rw [ht] at h;cases h;exact ⟨b,rfl,rfl⟩
theorem Uw {β υ:Type} {a:TR (υ ⊕ β) σ} {t:TR β (σ×υ)} {s:σ} {b:β} (h:(TR.join a t).run s=some b):(∃u,a.run s=some (.inl u)/\t.run (s,u)=some b)\/a.run s=some (.inr b):=by
 rw [TR.run] at h;cases ha:a.run s with
 | none=>rw [ha] at h;cases h
 | some r =>
   rw [ha] at h;cases r with
   | inl u=>exact .inl ⟨u,rfl,h⟩
   | inr x=>cases h;exact .inr rfl
end
section
variable {P:Program} {q:Nat->Bool} {tab:Nat->Option Func} {con:Nat->Option CE} {plan:Nat->Option PL} {eg:Nat->Bool}
def WX (P:Program) (q:Nat->Bool) (tab:Nat->Option Func) (con:Nat->Option CE) (plan:Nat->Option PL) (eg:Nat->Bool) (n:Nat):Prop :=
 ∀(β:Type) (f N p:Nat) (c:Code) (σ:Type) (d:SS σ) (F:Nat) (K:(τ:Type)->(τ->σ)->Exit->SS τ->Nat->TR β τ) (s:σ) (b:β) (hp0:Nat->Option AO),(∀r,(hp0 r).isSome=true->(look r d.hp).isSome=true) ->
  (sx (aS P) q tab con plan eg n β f N p c σ d F K).run s=some b ->
  ∃(τ:Type) (g:τ->σ) (s':τ) (e:Exit) (d':SS τ) (F':Nat),g s'=s/\Grow d g d'/\To P iY N hp0 c (d.c s N) e (d'.c s' N)/\(K τ g e d' F').run s'=some b
theorem ad7 {σ:Type} {θ:Nat->Option Nat} {hp1 hp2:Nat->Option AO} {dh:SS σ} {su:σ} {N n:Nat} {xs:List AV} (hn:xs.length=n) (hT:∀t v,look t (dh.c su N).tm=some v->gG θ hp1 hp2 v (match look t (jw 0 xs) with | some x=>x | none => .junk)):gG θ hp1 hp2 ((YB n dh).c su) (kC xs):=by
 have key:∀(m i:Nat) (ys:List AV),ys.length=m->(∀j,j<m->ys[j]? = xs[i+j]?)->jr θ hp1 hp2 (cL su ((List.range' i m).map fun j=>match jI j dh.tm with | some v=>v | none => .junk)) ys:=by
  intro m
  induction m with
  | zero=>intro i ys hl _;cases ys with
    | nil=>show jr θ hp1 hp2 [] [];rw [jr]
    | cons y ys=>cases hl
  | succ m ih =>
    intro i ys hl hj;cases ys with
    | nil=>cases hl
    | cons y ys =>
      rw [List.range'_succ,List.map_cons,cL,jr];refine ⟨y,ys,rfl,?_,ih (i+1) ys (by simpa using hl) fun j hjm => ?_⟩
      ·have h0:=hj 0 (Nat.succ_pos m);simp only [List.getElem?_cons_zero,Nat.add_zero] at h0;rw [jR];cases hlk:look i dh.tm with
       | none=>simp only [SV.c];rw [gG];trivial
       | some v =>
         have:=hT i (v.c su) (by show look i (cT su dh.tm)=_;rw [ql,hlk];rfl);rw [mY] at this;simp only [Nat.zero_le,if_true,Nat.sub_zero,<-h0] at this;exact this
      ·have:=hj (j+1) (Nat.succ_lt_succ hjm);rw [List.getElem?_cons_succ] at this;rw [this];congr 1;omega
 have hk:=key n 0 xs hn fun j _=>by rw [Nat.zero_add]
 unfold YB;rw [oU,List.range_eq_range'];generalize cL su ((List.range' 0 n).map fun j=>match jI j dh.tm with | some v=>v | none => .junk)=ys at hk;cases ys with
 | nil=>rw [jr] at hk;subst hk;show gG θ hp1 hp2 (.tup []) (.tup []);rw [gG];exact ⟨[],rfl,by rw [jr]⟩
 | cons y ys =>
   rw [jr] at hk;obtain ⟨x,xs',rfl,h1,h2⟩:=hk;cases ys with
   | nil=>rw [jr] at h2;subst h2;exact h1
   | cons y2 ys =>
     rw [jr] at h2;obtain ⟨x2,xs2,rfl,h3,h4⟩:=h2;show gG θ hp1 hp2 (.tup (y::y2::ys)) (.tup (x::x2::xs2));rw [gG];exact ⟨_,rfl,by rw [jr];exact ⟨x,_,rfl,h1,by rw [jr];exact ⟨x2,xs2,rfl,h3,h4⟩⟩⟩
theorem Gt {θ:Nat->Option Nat} {x:Nat}:∀ {l:List Nat},x∈KN θ l->∃r∈l,θ r=some x
 | r::l,h=>by
   rw [KN] at h;split at h
   ·rename_i y hy;rcases List.mem_cons.1 h with rfl | h
    ·exact ⟨r,List.mem_cons_self,hy⟩
    ·obtain ⟨q,h1,h2⟩:=Gt h;exact ⟨q,List.mem_cons_of_mem _ h1,h2⟩
   ·obtain ⟨q,h1,h2⟩:=Gt h;exact ⟨q,List.mem_cons_of_mem _ h1,h2⟩
theorem Ux (ρ:Nat->Nat):∀l:List Nat,Ut ρ l=l.map fun r=>(ρ r,some r)
 | []=>rfl
 | r::l=>by rw [Ut,Ux ρ l];rfl
theorem Ah:∀ {l:List Nat} {i:Nat},isNat i l=true->l=List.range' i l.length
 | [],_,_=>rfl
 | k::l,i,h=>by
   rw [isNat,Bool.and_eq_true] at h;have e:=of_decide_eq_true h.1;rw [List.length_cons,List.range'_succ,<-Ah h.2,e]
theorem xK:∀(l:List IT) (x:(bZ l).T),(lU l x).map (·.1)=qB l
 | [],_=>rfl
 | i::l,x=>by
   rw [show lU (i::l) x=aT i (jF (uI i) (bZ l) x)++lU l (kN (uI i) (bZ l) x) from rfl,List.map_append,xK l];cases i with
   | tmp t a cs=>cases a<;>rfl
   | _=>rfl
theorem QX {θ:Nat->Option Nat} {hp1 hp2:Nat->Option AO}:∀(l:List (Nat×AV)) (ys:List AV) (i:Nat),l.map (·.1)=List.range' i ys.length->(∀x∈l,gG θ hp1 hp2 x.2 (match ys[x.1-i]? with | some y=>y | none => .junk))->jr θ hp1 hp2 (l.map (·.2)) ys
 | [],ys,i,h,_=>by
   cases ys with
   | nil=>rw [List.map_nil,jr]
   | cons y ys=>rw [List.length_cons,List.range'_succ] at h;cases h
 | x::l,ys,i,h,hx=>by
   cases ys with
   | nil=>cases h
   | cons y ys =>
     rw [List.length_cons,List.range'_succ,List.map_cons] at h;injection h with h1 h2;rw [List.map_cons,jr];refine ⟨y,ys,rfl,?_,QX l ys (i+1) h2 fun z hz => ?_⟩
     ·have:=hx x List.mem_cons_self;rw [h1,Nat.sub_self] at this;exact this
     ·have hk:z.1∈List.range' (i+1) ys.length:=by rw [<-h2];exact List.mem_map.2 ⟨z,hz,rfl⟩
      have hk:=(List.mem_range'_1.1 hk).1;have:=hx z (List.mem_cons_of_mem _ hz);rw [show z.1-i=(z.1-(i+1))+1 by omega,List.getElem?_cons_succ] at this;exact this
theorem ad8 {θ:Nat->Option Nat} {hp1 hp2:Nat->Option AO} {ys xs:List AV} (h:jr θ hp1 hp2 ys xs):gG θ hp1 hp2 (kC ys) (kC xs):=by
 cases ys with
 | nil=>rw [jr] at h;subst h;show gG θ hp1 hp2 (.tup []) (.tup []);rw [gG];exact ⟨[],rfl,by rw [jr]⟩
 | cons y ys =>
   rw [jr] at h;obtain ⟨x,xs',rfl,h1,h2⟩:=h;cases ys with
   | nil=>rw [jr] at h2;subst h2;exact h1
   | cons y2 ys =>
     rw [jr] at h2;obtain ⟨x2,xs2,rfl,h3,h4⟩:=h2;show gG θ hp1 hp2 (.tup (y::y2::ys)) (.tup (x::x2::xs2));rw [gG];exact ⟨_,rfl,by rw [jr];exact ⟨x,_,rfl,h1,by rw [jr];exact ⟨x2,xs2,rfl,h3,h4⟩⟩⟩
theorem ad9 {P:Program} {σ:Type} {β:Type} {N f:Nat} {E:CE} (hE:agW P f E) {args:List (SV σ)} {d:SS σ} {F:Nat} {K:(τ:Type)->(τ->σ)->SV τ->List (Nat×SO τ)->List Nat->Nat->TR β τ} {s:σ} {b:β} (h:(adZ E args d F K).run s=some b) :
 ∃(τ:Type) (g:τ->σ) (s':τ) (v:SV τ) (us:List (Nat×SO τ)) (rds:List Nat) (F':Nat),g s'=s/\yx P f=true/\Does P iY f (cL s args) rds (v.c s') (cO s' us) (d.c s N).rd/\(K τ g v us rds F').run s'=some b:=by
 unfold adZ at h;generalize namesT (⟨sG 0 args,d.hp⟩:SS σ) E.ai []=th at h;simp only at h;unfold adY at h;generalize Pj (nY th) (aQ E.ri++aQ E.ai)=fr at h;simp only at h;unfold adX at h;generalize hos:wM (kS d) (KN (nY th) (aQ E.ai))=os at h;generalize hρ:akN (nY th) F fr=ρ at h;have hρs:∀r x,nY th r=some x->ρ r=x:=fun r x hx=>by rw [<-hρ];unfold akN;rw [hx]
 generalize nY th=θ at h hos hρs;unfold adW at h;split at h
 ·rw [TR.run] at h;cases h
 rename_i pa hpa;split at h
 ·rw [TR.run] at h;cases h
 rename_i hfz;split at h
 ·rw [TR.run] at h;cases h
 rename_i hB;unfold aol at hB;simp only [Bool.and_eq_true] at hB;obtain ⟨⟨⟨b1,b2,b3⟩,b4,b5⟩,⟨b6,b7,b7a⟩,⟨b8,b9⟩,b10,b11⟩:=hB;have b3:=of_decide_eq_true b3;obtain ⟨h1,h2⟩:=rF h;obtain ⟨r,hf,h3⟩:=YE h2;have hD:=hE.2 _ _ hf
 -- the names
 obtain ⟨tbl,htb⟩:∃tbl,tbl=Ut ρ (aQ E.ri++aQ E.ai):=⟨_,rfl⟩
 rw [<-htb] at b6;have hin:∀q∈aQ E.ri++aQ E.ai,nY tbl (ρ q)=some q:=fun q hq=>Aa (List.all_eq_true.1 b6 q hq);have hrf:∀q∈dU E.ri++dU E.ai,q∈aQ E.ri++aQ E.ai:=fun q hq=>by
  rcases List.mem_append.1 hq with g | g
  ·exact gV.1 (List.all_eq_true.1 b7 q g)
  ·exact List.mem_append_right _ (gV.1 (List.all_eq_true.1 b7a q g))
 obtain ⟨o1,o2⟩:=agR (s:=(s,r)) (f1:=Prod.snd) (f2:=fun t:σ×(bZ E.ri).T=>pa.f t.1) (htb.trans (Ux ρ _)) b4 b5 hin hrf
 -- what is handed over
 have hai:∀q∈aQ E.ai,∃v,look q (oM E.ai (pa.f s))=some v:=fun q hq=>rG (by rw [mD];exact hq);have hai':∀q∈aQ E.ai,(aJ (oM E.ai (pa.f s)) q).isSome=true:=fun q hq=>by
  obtain ⟨v,hv⟩:=hai q hq;unfold aJ;rw [hv];rfl
 have hst:(⟨sG 0 args,os⟩:SS σ).c s 0=⟨0,jw 0 (cL s args),cO s os⟩:=by unfold SS.c;rw [KO]
 obtain ⟨w1,w2⟩:=Um (N:=0) (hp2:=aJ (oM E.ai (pa.f s))) E.ai pa hpa h1 (fun x hx=>by rw [hfz] at hx;cases hx) (fun x hx=>hai' x.1 (by rw [<-mD E.ai (pa.f s)];exact List.mem_map.2 ⟨x,hx,rfl⟩)) (fun q hq=>hai' q (gV.1 (List.all_eq_true.1 b7a q hq)));rw [hst] at w1 w2;have hwH:NV θ (aJ (cO s os)) (aJ (oM E.ai (pa.f s))):=⟨fun q o ho=>w2 (q,o) (bH ho),fun q q' o o' x e1 e2 _ _ e3 e4=>by
  have m1:q∈aQ E.ai:=by rw [<-mD E.ai (pa.f s)];exact List.mem_map.2 ⟨_,bH e1,rfl⟩
  have m2:q'∈aQ E.ai:=by rw [<-mD E.ai (pa.f s)];exact List.mem_map.2 ⟨_,bH e2,rfl⟩
  have k1:=hin q (List.mem_append_right _ m1);have k2:=hin q' (List.mem_append_right _ m2);rw [hρs q x e3] at k1;rw [hρs q' x e4,k1] at k2;cases k2;rfl⟩
 have hwA:jr θ (aJ (cO s os)) (aJ (oM E.ai (pa.f s))) ((lU E.ai (pa.f s)).map (·.2)) (cL s args):=by
  refine QX _ _ 0 ?_ fun x hx => ?_
  ·rw [xK,Ah b2,b3,jO]
  ·have:=w1 x hx;unfold SL.get at this;simp only [mY,Nat.zero_le,if_true] at this;exact this
 have hback:∀x∈bM os,∃c∈aQ E.ai,θ c=some x/\ρ c=x:=fun x hx=>by
  obtain ⟨c,c1,c2⟩:=Gt (gV.1 (List.all_eq_true.1 b9 x hx));exact ⟨c,c1,c2,hρs c x c2⟩
 have hosn:∀x o,look x (cO s os)=some o->x∈bM os:=fun x o ho=>by
  obtain ⟨o',k1,_⟩:=qQ (bH ho);exact nH.2 ⟨o',k1⟩
 have hv:gG (nY tbl) (aJ (oM E.ri r++oM E.ai (pa.f s))) (aJ (cO (s,r) (dw ρ E.ri Prod.snd++dw ρ E.ai (fun t:σ×(bZ E.ri).T=>pa.f t.1)))) ((qm ((ED ρ E.ri (Prod.snd:σ×(bZ E.ri).T->(bZ E.ri).T)).map (·.2))).c (s,r)) (kC ((lU E.ri r).map (·.2))):=by
  rw [oU,agQ];exact ad8 (KI E.ri (Prod.snd:σ×(bZ E.ri).T->(bZ E.ri).T) fun q hq=>by
   rcases List.mem_append.1 hq with g | g
   ·exact o1 q (List.mem_append_left _ g)
   ·exact o1 q (hrf q (List.mem_append_left _ g)))
 have hdo:=aof hD hwH hwA o2 hv fun x o ho=>by
  obtain ⟨c,c1,c2,c3⟩:=hback x (hosn x o ho);have k:=o1 c (List.mem_append_right _ c1);rw [c3] at k;obtain ⟨o',ho'⟩:=Option.isSome_iff_exists.1 k.2;obtain ⟨oc,hoc⟩:=hai c c1;exact ⟨o',ho',c,oc,k.1,c2,hoc,Us b1 _ (bH hoc)⟩
 have hnm:(cO (s,r) (dw ρ E.ri Prod.snd++dw ρ E.ai (fun t:σ×(bZ E.ri).T=>pa.f t.1))).map (·.1)=(aQ E.ri++aQ E.ai).map ρ:=by rw [dJ,List.map_append,kP,kP,List.map_append]
 have hosr:∀y∈cO s os,y.1∈(aQ E.ri++aQ E.ai).map ρ:=fun y hy=>by
  obtain ⟨o',k1,_⟩:=qQ hy;obtain ⟨c,c1,c2,c3⟩:=hback y.1 (nH.2 ⟨o',k1⟩);exact List.mem_map.2 ⟨c,List.mem_append_right _ c1,c3⟩
 have hosd:∀y∈cO s os,(d.c s N).rd y.1=some y.2:=fun y hy=>by
  obtain ⟨o',k1,k2⟩:=qQ hy;rw [<-hos] at k1;have:=vw k1;rw [<-mV];unfold iL;rw [this,k2];rfl
 refine ⟨_,Prod.fst,(s,r),_,_,_,_,rfl,hE.1,?_,h3⟩;refine Gq (us:=cO (s,r) (dw ρ E.ri Prod.snd++dw ρ E.ai (fun t:σ×(bZ E.ri).T=>pa.f t.1))) ?_ fun q => ?_
 rotate_left
 ·rw [dJ,dJ,Bz (s,r) (fun k=>kM k ((O8 θ (⟨sG 0 args,os⟩:SS σ) E.ai).map ρ)),bQ,bQ,Ag (fun k=>kM k ((O8 θ (⟨sG 0 args,os⟩:SS σ) E.ai).map ρ))];cases hl:look q (cO (s,r) (dw ρ E.ri Prod.snd)) with
  | some o=>exact .inl rfl
  | none =>
    simp only;split
    ·exact .inl rfl
    ·rename_i hq;refine .inr ⟨rfl,fun o ho => ?_⟩;have hm:=bH ho;have hm':(q,o)∈cO s (dw ρ E.ai pa.f):=by rw [<-KL (s1:=(s,r)) (s2:=s) E.ai (fun t:σ×(bZ E.ri).T=>pa.f t.1) pa.f rfl];exact hm
     refine ⟨by
      have:q∈(aQ E.ai).map ρ:=by rw [<-kP s ρ E.ai pa.f];exact List.mem_map.2 ⟨_,hm',rfl⟩
      rw [List.map_append];exact List.mem_append_right _ this,?_⟩
     rcases KJ hρs E.ai pa hpa h1 _ hm' with g | g
     ·exact (hq (gV.2 g)).elim
     ·have g:iL s (kS (⟨sG 0 args,os⟩:SS σ)) q=some o:=g;rw [mV s 0] at g;have g:look q (cO s os)=some o:=g;exact hosd _ (bH g)
 refine qN hdo (fun y hy=>⟨hosr y hy,?_⟩) (Bv b10) (by rw [yD];exact Bq b11) (fun y hy => ?_) (List.all_eq_true.2 fun y hy => ?_)
 ·exact hosd y hy
 ·have hm:y.1∈(aQ E.ri++aQ E.ai).map ρ:=by rw [<-hnm];exact List.mem_map.2 ⟨y,hy,rfl⟩
  refine ⟨hm,?_⟩;obtain ⟨q,q1,q2⟩:=List.mem_map.1 hm;have:=List.all_eq_true.1 b8 q q1;rw [q2,Bool.or_eq_true] at this;rcases this with g | g
  ·exact .inl (Dh g)
  ·exact .inr (vk (gV.1 g))
 ·obtain ⟨v,hv⟩:=rG (k:=y.1) (l:=cO (s,r) (dw ρ E.ri Prod.snd++dw ρ E.ai (fun t:σ×(bZ E.ri).T=>pa.f t.1))) (by rw [hnm];exact hosr y hy);rw [hv];rfl
theorem agZ (hcon:∀f E,con f=some E->aV P (f % 1000000000) E) {f:Nat} {b:Bool} {E:CE} (h:akQ con f b=some E):aV P f E:=by
 unfold akQ at h;split at h
 ·cases h
 ·rename_i hf;have hf:=of_decide_eq_true hf;split at h
  ·split at h
   ·rename_i E' hE';cases h;have:=hcon _ _ hE'
    rwa [show (1000000000+f) % 1000000000=f by omega] at this
   ·have:=hcon _ _ h
    rwa [Nat.mod_eq_of_lt hf] at this
  ·have:=hcon _ _ h
   rwa [Nat.mod_eq_of_lt hf] at this
theorem aea (hcon:∀f E,con f=some E->aV P (f % 1000000000) E) (htab:∀f fn,tab f=some fn->P.funcs[f]? = some fn/\yx P f=true) {n:Nat} (hn:WX P q tab con plan eg n) {N p:Nat} {β:Type}:adK P N (ad2 (aS P) tab con plan (sx (aS P) q tab con plan eg n) p β):=by
 intro i σ f args d F K s b h;unfold ad2 at h;split at h
 ·rename_i E hE;have hE':=agZ hcon hE;unfold aV at hE';split at h
  ·rename_i hd;rw [hd] at hE';exact agX hE' h
  ·rename_i hd;rw [hd] at hE';exact ad9 hE' h
 ·split at h
  ·rw [TR.run] at h;cases h
  ·rename_i fn hfn;obtain ⟨t1,t2⟩:=htab f fn hfn;split at h
   ·rw [TR.run] at h;cases h
   ·rename_i c hb;generalize hos:wM (kS d) (Dk (kS d) 1000 (tJ args) [])=os at h
    try simp only at h
    split at h
    ·rw [TR.run] at h;cases h
    ·rename_i hok;rw [Bool.and_eq_true,Bool.and_eq_true,decide_eq_true_eq] at hok;obtain ⟨k1,k2,k3⟩:=hok;have hosd:∀p∈cO s os,(d.c s N).rd p.1=some p.2:=fun x hx=>by
      obtain ⟨o,h1,h2⟩:=qQ hx;rw [<-hos] at h1;have:=vw h1;rw [<-mV];unfold iL;rw [this,h2];rfl
     have hra:yX (cO s os) (AV.refs.refsL (cL s args))=true:=by rw [yD];exact Bq k3
     have hlen:(cL s args).length<=fn.ntmps:=by rw [jO];exact k1
     have hst:(⟨sG 0 args,os⟩:SS σ).c s fn.ntmps=⟨fn.ntmps,jw 0 (cL s args),cO s os⟩:=by unfold SS.c;rw [KO]
     have hk0:∀r,((aJ (cO s os)) r).isSome=true->(look r (⟨sG 0 args,os⟩:SS σ).hp).isSome=true:=fun r hr=>by
      unfold aJ at hr;rw [lu] at hr;cases hl:look r os with
      | none=>rw [hl] at hr;cases hr
      | some o=>rfl
     split at h
     ·unfold zf at h;rw [TR.run] at h;cases h
     ·rename_i its hits;split at h
      ·first | (unfold zf at h;rw [TR.run] at h;cases h;done) | (rw [TR.run] at h;cases h)
      ·rename_i hck;rw [Bool.and_eq_true] at hck;obtain ⟨c1,c2⟩:=hck;rcases Uw h with ⟨u,h1,h2⟩ | h1
       ·obtain ⟨τ,g,s',e,d',F',g1,g2,g3,g4⟩:=hn _ f fn.ntmps _ c σ _ F _ s _ (aJ (cO s os)) hk0 h1;split at g4
        ·rw [TR.run] at g4;cases g4
        ·rename_i he;split at g4
         ·rw [TR.run] at g4;cases g4
         ·rename_i xs hxs;obtain ⟨x,x1,x2,x3⟩:=qR g4;cases x3;have hgr:Grow (⟨[],os⟩:SS σ) g (⟨sG 0 xs,d'.hp⟩:SS τ):=⟨⟨sG 0 xs,(List.append_nil _).symm⟩,g2.hp⟩
          obtain ⟨θ,q1,q2,q3⟩:=Di (N:=fn.ntmps) hgr x1 x2;rw [g1] at q1 q2 q3;rw [hst] at g3;have hrs:xs.length=fn.results.size:=by have:=(Jk (s:=s') (N:=fn.ntmps) _ _ hxs).2;rw [this,Array.length_toList]
          have hback:Back (cO s os) (d'.c s' fn.ntmps).hp ((headD (⟨[],os⟩:SS σ) its).c (s,x.f s') fn.ntmps).hp ((YB fn.results.size (headD (⟨[],os⟩:SS σ) its)).c (s,x.f s')) ((qm xs).c s'):=by
           refine ⟨θ,fun r o ho => ?_,q2,?_⟩
           ·exact q1 r (by rw [lu] at ho;cases hl:look r os with | none=>rw [hl] at ho;cases ho | some w=>rfl)
           ·rw [oU];refine ad7 (N:=fn.ntmps) (by rw [jO];exact hrs) fun t v hv => ?_;have:=q3 t v hv;unfold SL.get at this;rw [show (SS.c s' fn.ntmps (⟨sG 0 xs,d'.hp⟩:SS τ)).tm=jw 0 (cL s' xs) from KO s' 0 xs] at this;exact this
          have hdo:=CQ t1 hb hlen g3 he (QW hxs) hback;have hin:((cO s os).all fun p=>(look p.1 ((headD (⟨[],os⟩:SS σ) its).c (s,x.f s') fn.ntmps).hp).isSome)=true:=List.all_eq_true.2 fun y hy=>by
           obtain ⟨o,o1,o2⟩:=qQ hy;have:(look y.1 os).isSome=true:=by obtain ⟨w,hw⟩:=jT o1;rw [hw];rfl
           exact (q1 y.1 this).2
          have hus:((headD (⟨[],os⟩:SS σ) its).c (s,x.f s') fn.ntmps).hp=cO (s,x.f s') (headD (⟨[],os⟩:SS σ) its).hp:=rfl;have hnm:∀y∈((headD (⟨[],os⟩:SS σ) its).c (s,x.f s') fn.ntmps).hp,y.1∈bM (headD (⟨[],os⟩:SS σ) its).hp:=fun y hy=>by
           rw [hus] at hy;obtain ⟨o,o1,_⟩:=qQ hy;exact nH.2 ⟨o,o1⟩
          have hd1:=qN (rds:=bM (headD (⟨[],os⟩:SS σ) its).hp) (hp:=(d.c s N).rd) hdo (fun y hy=>⟨?_,hosd y hy⟩) (Bv k2) hra (fun y hy=>⟨hnm y hy,?_⟩) hin
          ·refine ⟨_,Prod.fst,(s,x.f s'),_,_,_,F,rfl,t2,?_,h2⟩;refine Gq hd1 fun r => ?_;have hsp:((headD (⟨[],os⟩:SS σ) its).c (s,x.f s') fn.ntmps).hp=cO (s,x.f s') (jf its Prod.snd)++cO s os:=by
            rw [hus];show cO (s,x.f s') (jf its Prod.snd++jS Prod.fst os)=_;rw [dJ,rD]
           rw [hsp,bQ];cases hl:look r (cO (s,x.f s') (jf its Prod.snd)) with
           | some o=>exact .inl rfl
           | none =>
             refine .inr ⟨rfl,fun o ho => ?_⟩;have hm:=bH ho;obtain ⟨o',o1,_⟩:=qQ hm;refine ⟨?_,hosd _ hm⟩;have:r∈bM os:=nH.2 ⟨o',o1⟩;have hnn:∀l:List (Nat×SO σ),bM (jS (Prod.fst:σ×(bZ its).T->σ) l)=bM l:=by
              intro l
              induction l with
              | nil=>rfl
              | cons z l ih=>obtain ⟨k,w⟩:=z;rw [jS,bM,bM,ih]
             have happ:∀a b:List (Nat×SO (σ×(bZ its).T)),bM (a++b)=bM a++bM b:=by
              intro a b
              induction a with
              | nil=>rfl
              | cons z l ih=>obtain ⟨k,w⟩:=z;rw [List.cons_append,bM,bM,ih];rfl
             show r∈bM (jf its Prod.snd++jS Prod.fst os);rw [happ,hnn];exact List.mem_append_right _ this
          ·have:=List.all_eq_true.1 hin y hy;cases hl:look y.1 ((headD (⟨[],os⟩:SS σ) its).c (s,x.f s') fn.ntmps).hp with
           | none=>rw [hl] at this;cases this
           | some o=>exact hnm (y.1,o) (bH hl)
          ·rw [hus] at hy;obtain ⟨o,o1,_⟩:=qQ hy;have:=List.all_eq_true.1 c2 _ o1;rcases (Bool.or_eq_true _ _).mp this with h | h
           ·exact .inl (Dh h)
           ·exact .inr (vk (gV.1 h))
       ·exfalso;obtain ⟨τ,g,s',e,d',F',g1,g2,g3,g4⟩:=hn _ f fn.ntmps _ c σ _ F _ s _ (aJ (cO s os)) hk0 h1;split at g4
        ·rw [TR.run] at g4;cases g4
        ·split at g4
         ·rw [TR.run] at g4;cases g4
         ·obtain ⟨x,x1,x2,x3⟩:=qR g4;cases x3
     ·obtain ⟨τ,g,s',e,d',F',g1,g2,g3,g4⟩:=hn _ f fn.ntmps _ c σ _ F _ s _ (aJ (cO s os)) hk0 h;split at g4
      ·rw [TR.run] at g4;cases g4
      ·rename_i he;split at g4
       ·rw [TR.run] at g4;cases g4
       ·rename_i xs hxs;generalize hus:wM (kS d') (Dk (kS d') 1000 (tJ xs++bM os) [])=us at g4
        try simp only at g4
        split at g4
        ·rw [TR.run] at g4;cases g4
        ·rename_i hbk;simp only [Bool.and_eq_true] at hbk;obtain ⟨⟨b1,b2⟩,b3,b4⟩:=hbk;rw [hst] at g3;have hlk:∀r o,look r (cO s' us)=some o->(d'.c s' fn.ntmps).rd r=some o:=fun r o ho=>by
          obtain ⟨o',o1,o2⟩:=qQ (bH ho);rw [<-hus] at o1;have:=vw o1;rw [<-mV];unfold iL;simp only at this o2;rw [this,o2];rfl
         have hinn:((cO s os).all fun y=>(look y.1 (cO s' us)).isSome)=true:=List.all_eq_true.2 fun y hy=>by
          obtain ⟨o,o1,_⟩:=qQ hy;exact vk (gV.1 (List.all_eq_true.1 b3 _ (nH.2 ⟨o,o1⟩)))
         have hD:=TK t1 hb hlen g3 he (QW hxs) (us:=cO s' us) hlk (Bv b1) (by rw [J6];unfold qm;have hh:=Bq (s:=s') b2;split<;>simpa [SV.refs,tJ] using hh) hinn;refine ⟨τ,g,s',_,_,_,F',g1,t2,?_,g4⟩;have hnm:∀y∈cO s' us,y.1∈bM us:=fun y hy=>by
          obtain ⟨o,o1,_⟩:=qQ hy;exact nH.2 ⟨o,o1⟩
         have hd1:=qN (rds:=bM us) (hp:=(d.c s N).rd) hD (fun y hy=>⟨?_,hosd y hy⟩) (Bv k2) hra (fun y hy=>⟨hnm y hy,?_⟩) hinn
         ·refine Gq hd1 fun r => ?_;unfold trimS;rw [Bz s' (fun r => !kM r (bM (jS g os))||kM r (bM (d'.hp.take (d'.hp.length-os.length)))) us,Ag (fun r => !kM r (bM (jS g os))||kM r (bM (d'.hp.take (d'.hp.length-os.length)))) r (cO s' us)];split
          ·exact .inl rfl
          ·rename_i hq;refine .inr ⟨rfl,fun o ho=>⟨hnm _ (bH ho),?_⟩⟩;rw [Bool.or_eq_true] at hq;have hq1:r∈bM (jS g os):=by
            rcases hm:kM r (bM (jS g os)) with _ | _
            ·exfalso;exact hq (.inl (by rw [hm];rfl))
            ·exact gV.1 hm
           have hq2:r∉bM (d'.hp.take (d'.hp.length-os.length)):=fun hm=>hq (.inr (gV.2 hm));obtain ⟨⟨_,_⟩,l2,e2⟩:=g2;have e2:d'.hp=l2++jS g os:=e2;rw [e2,List.length_append,Ey,Nat.add_sub_cancel,List.take_left] at hq2;have h5:=hlk r o ho;unfold SL.rd SS.c at h5;simp only [lu,e2,bQ] at h5;rw [qP (l:=l2) (fun hm=>hq2 (by obtain ⟨x,hx,rfl⟩:=List.mem_map.1 hm;exact nH.2 ⟨x.2,hx⟩))] at h5;simp only at h5;rw [<-lu,rD,g1] at h5;exact hosd _ (bH h5)
         ·have:=List.all_eq_true.1 hinn y hy;cases hl:look y.1 (cO s' us) with
          | none=>rw [hl] at this;cases this
          | some o=>exact hnm (y.1,o) (bH hl)
         ·obtain ⟨o,o1,_⟩:=qQ hy;have:=List.all_eq_true.1 b4 _ o1;rcases (Bool.or_eq_true _ _).mp this with h | h
          ·exact .inl (Dh h)
          ·exact .inr (vk (gV.1 h))
end
section
variable {P:Program} {q:Nat->Bool} {tab:Nat->Option Func} {con:Nat->Option CE} {plan:Nat->Option PL} {eg:Nat->Bool}
theorem Ai {β σ τ:Type} {p kind:Nat} {d:SS σ} {d':SS τ} {s:τ} {b:β} (h:(zf p kind d d':TR β τ).run s=some b):False:=by
 unfold zf at h;rw [TR.run] at h;cases h
theorem aeb {N:Nat} {hp0:Nat->Option AO} {a b:Code} {s s1 s1' s2:SL} {e:Exit} (h1:To P iY N hp0 a s .normal s1) (ht:uP iY N hp0 s1.S s1'.S) (h2:To P iY N hp0 b s1' e s2):To P iY N hp0 (.seq a b) s e s2 :=
 VU (mQ h1 (Tq ht h2))
theorem BD {N:Nat} {hp0:Nat->Option AO} {a b:Code} {s s1:SL} {e:Exit} (hne:e ≠ .normal) (h1:To P iY N hp0 a s e s1):To P iY N hp0 (.seq a b) s e s1 :=
 VU (mQ h1 (by cases e<;>first | exact (hne rfl).elim | exact ⟨rfl,rfl⟩))
theorem aop {N:Nat} {hp0:Nat->Option AO} {c:Code} {s s0 s2:SL} {e:Exit} (h:s0.S=s.S) (k:To P iY N hp0 c s0 e s2):To P iY N hp0 c s e s2:=by
 unfold To at k ⊢;rw [<-h];exact k
theorem pK {σ τ:Type} {hp0:Nat->Option AO} {d:SS σ} {g:τ->σ} {d':SS τ} (hk:∀r,(hp0 r).isSome=true->(look r d.hp).isSome=true) (h:Grow d g d'):∀r,(hp0 r).isSome=true->(look r d'.hp).isSome=true:=fun r hr=>aa5 h (hk r hr)
theorem EI {σ:Type} (d:SS σ) (t:Nat) (b:Bool):Grow d (fun s=>s) (CZ d t b):=⟨⟨[(t,.val (.bool b))],by rw [Es];rfl⟩,⟨[],by rw [Et];rfl⟩⟩
theorem YF {n:Nat} (ih:∀m,m<n->WX P q tab con plan eg m):∀m,m<n->∀(β:Type) (f N p:Nat) (a:Code) (σ:Type) (d:SS σ) (F:Nat) (K:(τ:Type)->(τ->σ)->Exit->SS τ->Nat->TR β τ) (s:σ) (b:β) (hp0:Nat->Option AO),(∀r,(hp0 r).isSome=true->(look r d.hp).isSome=true)->(plan (p*512+6)=some .unroll\/plan (p*512+6)=some .once) ->
 (sx (aS P) q tab con plan eg (m+1) β f N p (.loop a) σ d F K).run s=some b ->
 ∃(τ:Type) (g:τ->σ) (s':τ) (e:Exit) (d':SS τ) (F' k:Nat),g s'=s/\Grow d g d'/\Rounds P iY N hp0 a e (d'.c s' N) k (d.c s N)/\(K τ g e d' F').run s'=some b:=by
 intro m
 induction m with
 | zero =>
   intro hm β f N p a σ d F K s b hp0 hk hpl h;rw [sx] at h;rcases hpl with hpl | hpl<;>(simp only [hpl] at h;rw [sx,TR.run] at h;cases h)
 | succ m ihm =>
   intro hm β f N p a σ d F K s b hp0 hk hpl h;rw [sx] at h;rcases hpl with hpl | hpl
   ·simp only [hpl] at h;obtain ⟨τ,g,s',e,d',F',h1,h2,h3,h4⟩:=ih (m+1) hm β f N _ a σ d F _ s b hp0 hk h;have other:e ≠ .normal->(K τ g e d' F').run s'=some b->∃(τ:Type) (g:τ->σ) (s':τ) (e:Exit) (d':SS τ) (F' k:Nat),g s'=s/\Grow d g d'/\Rounds P iY N hp0 a e (d'.c s' N) k (d.c s N)/\(K τ g e d' F').run s'=some b:=fun hne hr=>⟨τ,g,s',e,d',F',0,h1,h2,⟨hne,h3⟩,hr⟩
    cases e with
    | normal =>
      simp only at h4;obtain ⟨τ2,g2,s2,e2,d2,F2,k,k1,k2,k3,k4⟩:=ihm (by omega) β f N p a τ d' F' _ s' b hp0 (pK hk h2) (.inl hpl) h4;exact ⟨τ2,fun t=>g (g2 t),s2,e2,d2,F2,k+1,by show g (g2 s2)=s;rw [k1,h1],h2.trans k2,⟨d'.c s' N,d'.c s' N,h3,uP.refl _,k3⟩,k4⟩
    | exit i=>exact other (by simp) h4
    | goto l=>exact other (by simp) h4
    | ret=>exact other (by simp) h4
    | panic ch=>exact other (by simp) h4
    | outgrown=>exact other (by simp) h4
   ·simp only [hpl] at h;obtain ⟨τ,g,s',e,d',F',h1,h2,h3,h4⟩:=ih (m+1) hm β f N _ a σ d F _ s b hp0 hk h;have other:e ≠ .normal->(K τ g e d' F').run s'=some b->∃(τ:Type) (g:τ->σ) (s':τ) (e:Exit) (d':SS τ) (F' k:Nat),g s'=s/\Grow d g d'/\Rounds P iY N hp0 a e (d'.c s' N) k (d.c s N)/\(K τ g e d' F').run s'=some b:=fun hne hr=>⟨τ,g,s',e,d',F',0,h1,h2,⟨hne,h3⟩,hr⟩
    cases e with
    | normal =>
      simp only at h4;have fin:(plan ((p*512+7)*512+6)=some .unroll\/plan ((p*512+7)*512+6)=some .once)->(sx (aS P) q tab con plan eg (m+1) β f N (p*512+7) (.loop a) τ d' F' (fun τ' g' e d'' F''=>K τ' (fun t=>g (g' t)) e d'' F'')).run s'=some b->∃(τ:Type) (g:τ->σ) (s':τ) (e:Exit) (d':SS τ) (F' k:Nat),g s'=s/\Grow d g d'/\Rounds P iY N hp0 a e (d'.c s' N) k (d.c s N)/\(K τ g e d' F').run s'=some b:=fun hp' h5=>by
       obtain ⟨τ2,g2,s2,e2,d2,F2,k,k1,k2,k3,k4⟩:=ihm (by omega) β f N _ a τ d' F' _ s' b hp0 (pK hk h2) hp' h5;exact ⟨τ2,fun t=>g (g2 t),s2,e2,d2,F2,k+1,by show g (g2 s2)=s;rw [k1,h1],h2.trans k2,⟨d'.c s' N,d'.c s' N,h3,uP.refl _,k3⟩,k4⟩
      cases hp2:plan ((p*512+7)*512+6) with
      | none =>
        simp only [hp2] at h4;rw [sx] at h4;simp only [hp2] at h4;exact (Ai h4).elim
      | some pl =>
        cases pl with
        | carry its=>simp only [hp2] at h4;rw [TR.run] at h4;cases h4
        | unroll=>simp only [hp2] at h4;exact fin (.inl hp2) h4
        | once=>simp only [hp2] at h4;exact fin (.inr hp2) h4
        | stop =>
          simp only [hp2] at h4;rw [sx] at h4;simp only [hp2] at h4;rw [TR.run] at h4;cases h4
    | exit i=>exact other (by simp) h4
    | goto l=>exact other (by simp) h4
    | ret=>exact other (by simp) h4
    | panic ch=>exact other (by simp) h4
    | outgrown=>exact other (by simp) h4
theorem Uy (hq:Oq P q) (hdp:30<=P.depth) (hm:P.follows .mixedOrders=true) (hcon:∀f E,con f=some E->aV P (f % 1000000000) E) (htab:∀f fn,tab f=some fn->P.funcs[f]? = some fn/\yx P f=true) (n:Nat):WX P q tab con plan eg n:=by
 induction n using Nat.strongRecOn with
 | _ n ih =>
   intro β f N p c σ d F K s b hp0 hk h;cases n with
   | zero=>rw [sx,TR.run] at h;cases h
   | succ n =>
     have ihn:=ih n (Nat.lt_succ_self n);have idg:∀(e:Exit),To P iY N hp0 c (d.c s N) e (d.c s N)->(K σ (fun s=>s) e d F).run s=some b->∃(τ:Type) (g:τ->σ) (s':τ) (e:Exit) (d':SS τ) (F':Nat),g s'=s/\Grow d g d'/\To P iY N hp0 c (d.c s N) e (d'.c s' N)/\(K τ g e d' F').run s'=some b:=fun e h1 h2=>⟨σ,fun s=>s,s,e,d,F,rfl,Grow.refl d,h1,h2⟩
     cases c with
     | skip=>rw [sx] at h;exact idg _ (XV ⟨rfl,rfl⟩) h
     | label l=>rw [sx] at h;exact idg _ (Tn ⟨rfl,rfl⟩) h
     | exit id=>rw [sx] at h;exact idg _ (XW ⟨rfl,rfl⟩) h
     | ret=>rw [sx] at h;exact idg _ (acI ⟨rfl,rfl⟩) h
     | region id ops draw =>
       rw [sx] at h
       try simp only at h
       split at h
       ·rename_i hb;obtain ⟨L,s',g1,g2,⟨τ,g,t,d',F',k1,k2,k3,k4⟩,g4,g5⟩:=KC (P:=P) (q:=q) (N:=N) (base:=F) (ops:=ops) (draw:=draw) (anc:=if draw=true then uM ops ops.size else []) (fun hd=>by rw [if_pos hd]) (aea hcon htab ihn) _ σ d [] [] (F+ops.size) _ s b (fun x hx=>by have:=(TJ 0 ops.toList x hx).2;rw [Nat.sub_zero,Array.getElem?_toList] at this;exact this) rfl h;subst k3;exact ⟨τ,g,t,.normal,d',F',k1,k2,aki hq hdp hm (AU hb) (by rw [g1,TG,List.range_eq_range',Array.length_toList]) g2 g5,k4⟩
       ·rw [TR.run] at h;cases h
     | seq x y =>
       rw [sx] at h
       try simp only at h
       split at h
       ·exact (Ai h).elim
       ·rename_i its _;rcases Uw h with ⟨u,h1,h2⟩ | h1
        ·obtain ⟨τ,g,s',e,d',F',k1,k2,k3,k4⟩:=ihn _ f N _ x σ d F _ s _ hp0 hk h1;cases e with
         | normal =>
           simp only at k4;obtain ⟨z,z1,z2,z3⟩:=qR k4;cases z3;have ht:=Ae (N:=N) k2 z1 z2 hk;rw [k1] at ht;obtain ⟨τ2,g2,s2,e2,d2,F2,m1,m2,m3,m4⟩:=ihn β f N _ y _ (headD d its) F _ (s,z.f s') b hp0 (pK hk (uF d its)) h2;exact ⟨τ2,fun t=>(g2 t).1,s2,e2,d2,F2,by show (g2 s2).1=s;rw [m1],(uF d its).trans m2,aeb k3 ht m3,m4⟩
         | exit i=>obtain ⟨b',_,hb⟩:=oN k4;cases hb
         | goto l=>obtain ⟨b',_,hb⟩:=oN k4;cases hb
         | ret=>obtain ⟨b',_,hb⟩:=oN k4;cases hb
         | panic ch=>obtain ⟨b',_,hb⟩:=oN k4;cases hb
         | outgrown=>obtain ⟨b',_,hb⟩:=oN k4;cases hb
        ·obtain ⟨τ,g,s',e,d',F',k1,k2,k3,k4⟩:=ihn _ f N _ x σ d F _ s _ hp0 hk h1;have fin:e ≠ .normal->(TR.out (K τ g e d' F'):TR ((bZ its).T ⊕ β) τ).run s'=some (.inr b)->∃(τ:Type) (g:τ->σ) (s':τ) (e:Exit) (d':SS τ) (F':Nat),g s'=s/\Grow d g d'/\To P iY N hp0 (.seq x y) (d.c s N) e (d'.c s' N)/\(K τ g e d' F').run s'=some b:=fun hne hr=>by
          obtain ⟨b',b1,b2⟩:=oN hr;cases b2;exact ⟨τ,g,s',e,d',F',k1,k2,BD hne k3,b1⟩
         cases e with
         | normal =>
           simp only at k4;obtain ⟨z,z1,z2,z3⟩:=qR k4;cases z3
         | exit i=>exact fin (by simp) k4
         | goto l=>exact fin (by simp) k4
         | ret=>exact fin (by simp) k4
         | panic ch=>exact fin (by simp) k4
         | outgrown=>exact fin (by simp) k4
       ·obtain ⟨τ,g,s',e,d',F',k1,k2,k3,k4⟩:=ihn _ f N _ x σ d F _ s _ hp0 hk h;cases e with
        | normal =>
          simp only at k4;obtain ⟨τ2,g2,s2,e2,d2,F2,m1,m2,m3,m4⟩:=ihn β f N _ y _ d' F' _ s' b hp0 (pK hk k2) k4;exact ⟨τ2,fun t=>g (g2 t),s2,e2,d2,F2,by show g (g2 s2)=s;rw [m1,k1],k2.trans m2,aeb k3 (uP.refl _) m3,m4⟩
        | exit i=>exact ⟨τ,g,s',_,d',F',k1,k2,BD (by simp) k3,k4⟩
        | goto l=>exact ⟨τ,g,s',_,d',F',k1,k2,BD (by simp) k3,k4⟩
        | ret=>exact ⟨τ,g,s',_,d',F',k1,k2,BD (by simp) k3,k4⟩
        | panic ch=>exact ⟨τ,g,s',_,d',F',k1,k2,BD (by simp) k3,k4⟩
        | outgrown=>exact ⟨τ,g,s',_,d',F',k1,k2,BD (by simp) k3,k4⟩
     | cond x a1 a2 =>
       rw [sx] at h
       try simp only at h
       have hev:(d.c s N).S.ev iY x=(xG d x).c s:=by rw [SL.ev_S,Ui s N d x]
       split at h
       ·rename_i t ht;have hx:(d.c s N).S.ev iY x = .d (.val (.bool t)):=by rw [hev,ht,SV.c]
        cases t with
        | true =>
          obtain ⟨τ,g,s',e,d',F',k1,k2,k3,k4⟩:=ihn β f N _ a1 σ d F _ s b hp0 hk h;exact ⟨τ,g,s',e,d',F',k1,k2,yA hx (fun _=>k3) (fun hf=>by cases hf),k4⟩
        | false =>
          obtain ⟨τ,g,s',e,d',F',k1,k2,k3,k4⟩:=ihn β f N _ a2 σ d F _ s b hp0 hk h;exact ⟨τ,g,s',e,d',F',k1,k2,yA hx (fun hf=>by cases hf) (fun _=>k3),k4⟩
       ·rename_i cf hcf;have hx:(d.c s N).S.ev iY x = .d (.val (.bool (cf s))):=by rw [hev,hcf,SV.c];rfl
        split at h
        ·rename_i t;have hget:(d.c s N).get t=eu (cf s):=by rw [SL.ev_S] at hx;exact hx
         rw [TR.run] at h;cases hv:cf s with
         | true =>
           rw [hv] at h hx hget;obtain ⟨τ,g,s',e,d',F',k1,k2,k3,k4⟩:=ihn β f N _ a1 σ (CZ d t true) F _ s b hp0 (pK hk (EI d t true)) h;exact ⟨τ,g,s',e,d',F',k1,(EI d t true).trans k2,yA hx (fun _=>aop (QC hget) k3) (fun hf=>by cases hf),k4⟩
         | false =>
           rw [hv] at h hx hget;obtain ⟨τ,g,s',e,d',F',k1,k2,k3,k4⟩:=ihn β f N _ a2 σ (CZ d t false) F _ s b hp0 (pK hk (EI d t false)) h;exact ⟨τ,g,s',e,d',F',k1,(EI d t false).trans k2,yA hx (fun hf=>by cases hf) (fun _=>aop (QC hget) k3),k4⟩
        ·rw [TR.run] at h;cases hv:cf s with
         | true =>
           rw [hv] at h hx;obtain ⟨τ,g,s',e,d',F',k1,k2,k3,k4⟩:=ihn β f N _ a1 σ d F _ s b hp0 hk h;exact ⟨τ,g,s',e,d',F',k1,k2,yA hx (fun _=>k3) (fun hf=>by cases hf),k4⟩
         | false =>
           rw [hv] at h hx;obtain ⟨τ,g,s',e,d',F',k1,k2,k3,k4⟩:=ihn β f N _ a2 σ d F _ s b hp0 hk h;exact ⟨τ,g,s',e,d',F',k1,k2,yA hx (fun hf=>by cases hf) (fun _=>k3),k4⟩
       ·rw [TR.run] at h;cases h
     | block id a =>
       rw [sx] at h
       try simp only at h
       obtain ⟨τ,g,s',e,d',F',k1,k2,k3,k4⟩:=ihn β f N _ a σ d F _ s b hp0 hk h;cases e with
       | exit i =>
         simp only at k4;split at k4
         ·rename_i hi;have hi:=of_decide_eq_true hi;exact ⟨τ,g,s',_,d',F',k1,k2,rX (mQ k3 (by show (if i=id then _ else _);rw [if_pos hi];exact ⟨rfl,rfl⟩)),k4⟩
         ·rename_i hi;have hi:=of_decide_eq_false hi;exact ⟨τ,g,s',_,d',F',k1,k2,rX (mQ k3 (by show (if i=id then _ else _);rw [if_neg hi];exact ⟨rfl,rfl⟩)),k4⟩
       | normal=>exact ⟨τ,g,s',_,d',F',k1,k2,rX (mQ k3 ⟨rfl,rfl⟩),k4⟩
       | goto l=>exact ⟨τ,g,s',_,d',F',k1,k2,rX (mQ k3 ⟨rfl,rfl⟩),k4⟩
       | ret=>exact ⟨τ,g,s',_,d',F',k1,k2,rX (mQ k3 ⟨rfl,rfl⟩),k4⟩
       | panic ch=>exact ⟨τ,g,s',_,d',F',k1,k2,rX (mQ k3 ⟨rfl,rfl⟩),k4⟩
       | outgrown=>exact ⟨τ,g,s',_,d',F',k1,k2,rX (mQ k3 ⟨rfl,rfl⟩),k4⟩
     | scope a =>
       rw [sx] at h
       try simp only at h
       obtain ⟨τ,g,s',e,d',F',k1,k2,k3,k4⟩:=ihn β f N _ a σ d F _ s b hp0 hk h;cases e with
       | goto l=>simp only at k4;rw [TR.run] at k4;cases k4
       | exit i=>exact ⟨τ,g,s',_,d',F',k1,k2,xq (mQ k3 ⟨rfl,rfl⟩),k4⟩
       | normal=>exact ⟨τ,g,s',_,d',F',k1,k2,xq (mQ k3 ⟨rfl,rfl⟩),k4⟩
       | ret=>exact ⟨τ,g,s',_,d',F',k1,k2,xq (mQ k3 ⟨rfl,rfl⟩),k4⟩
       | panic ch=>exact ⟨τ,g,s',_,d',F',k1,k2,xq (mQ k3 ⟨rfl,rfl⟩),k4⟩
       | outgrown=>exact ⟨τ,g,s',_,d',F',k1,k2,xq (mQ k3 ⟨rfl,rfl⟩),k4⟩
     | loop a =>
       cases hpl:plan (p*512+6) with
       | none =>
         rw [sx] at h;simp only [hpl] at h;exact (Ai h).elim
       | some pl =>
         cases pl with
         | unroll =>
           obtain ⟨τ,g,s',e,d',F',k,k1,k2,k3,k4⟩:=YF ih n (Nat.lt_succ_self n) β f N p a σ d F K s b hp0 hk (.inl hpl) h;exact ⟨τ,g,s',e,d',F',k1,k2,Qp k3,k4⟩
         | once =>
           obtain ⟨τ,g,s',e,d',F',k,k1,k2,k3,k4⟩:=YF ih n (Nat.lt_succ_self n) β f N p a σ d F K s b hp0 hk (.inr hpl) h;exact ⟨τ,g,s',e,d',F',k1,k2,Qp k3,k4⟩
         | stop =>
           rw [sx] at h;simp only [hpl] at h;rw [TR.run] at h;cases h
         | carry its =>
           rw [sx] at h;simp only [hpl] at h;split at h
           ·exact (Ai h).elim
           ·rename_i x hx;obtain ⟨c1,h2⟩:=rF h;rw [TR.run] at h2;have hr:=pI.1 h2;have t0:=Ae (N:=N) (Grow.refl d) hx c1 hk;have key:∀u,yZ (fun u=>(sx (aS P) q tab con plan eg n ((bZ its).T ⊕ β) f N (p*512+6) a (σ×(bZ its).T) (headD d its) F (fun τ g e d' F'=>match e with
             | .normal=>Gp (p*512+6) (8*f) d its d'
             | e => .out (K τ (fun t=>(g t).1) e d' F'))).run (s,u)) u b ->
             ∃(τ:Type) (g:τ->σ) (s':τ) (e:Exit) (d':SS τ) (F' k:Nat),g s'=s/\Grow d g d'/\Rounds P iY N hp0 a e (d'.c s' N) k ((headD d its).c (s,u) N)/\(K τ g e d' F').run s'=some b:=by
             intro u hu;generalize hb:b=b0 at hu
             induction hu with
             | done hd =>
               subst hb;obtain ⟨τ,g,s',e,d',F',k1,k2,k3,k4⟩:=ihn _ f N _ a _ (headD d its) F _ _ _ hp0 (pK hk (uF d its)) hd;have fin:e ≠ .normal->(TR.out (K τ (fun t=>(g t).1) e d' F'):TR ((bZ its).T ⊕ β) τ).run s'=some (.inr b)->∃(τ:Type) (g:τ->σ) (s':τ) (e:Exit) (d':SS τ) (F' k:Nat),g s'=s/\Grow d g d'/\Rounds P iY N hp0 a e (d'.c s' N) k ((headD d its).c (s,_) N)/\(K τ g e d' F').run s'=some b:=fun hne hr=>by
                obtain ⟨b',b1,b2⟩:=oN hr;cases b2;exact ⟨τ,fun t=>(g t).1,s',e,d',F',0,by show (g s').1=s;rw [k1],(uF d its).trans k2,⟨hne,k3⟩,b1⟩
               cases e with
               | normal =>
                 simp only at k4;obtain ⟨z,z1,z2,z3⟩:=qR k4;cases z3
               | exit i=>exact fin (by simp) k4
               | goto l=>exact fin (by simp) k4
               | ret=>exact fin (by simp) k4
               | panic ch=>exact fin (by simp) k4
               | outgrown=>exact fin (by simp) k4
             | step hs hrest ihr =>
               obtain ⟨τ,g,s',e,d',F',k1,k2,k3,k4⟩:=ihn _ f N _ a _ (headD d its) F _ _ _ hp0 (pK hk (uF d its)) hs;cases e with
               | normal =>
                 simp only at k4;obtain ⟨z,z1,z2,z3⟩:=qR k4;cases z3;have ht:=Ae (N:=N) ((uF d its).trans k2) z1 z2 hk;simp only [k1] at ht;obtain ⟨τ2,g2,s2,e2,d2,F2,m,m1,m2,m3,m4⟩:=ihr hb;exact ⟨τ2,g2,s2,e2,d2,F2,m+1,m1,m2,⟨_,_,k3,ht,m3⟩,m4⟩
               | exit i=>obtain ⟨b',_,hb'⟩:=oN k4;cases hb'
               | goto l=>obtain ⟨b',_,hb'⟩:=oN k4;cases hb'
               | ret=>obtain ⟨b',_,hb'⟩:=oN k4;cases hb'
               | panic ch=>obtain ⟨b',_,hb'⟩:=oN k4;cases hb'
               | outgrown=>obtain ⟨b',_,hb'⟩:=oN k4;cases hb'
            obtain ⟨τ,g,s',e,d',F',k,k1,k2,k3,k4⟩:=key _ hr;exact ⟨τ,g,s',e,d',F',k1,k2,Tq t0 (Qp k3),k4⟩
     | rangeFunc _ _ _ _=>simp only [sx] at h;rw [TR.run] at h;cases h
     | goto _=>simp only [sx] at h;rw [TR.run] at h;cases h
     | refuse _=>simp only [sx] at h;rw [TR.run] at h;cases h
end
theorem YG {σ:Type}:∀(cs:List CS) (vs:List (SV σ)),I9 cs=true->WQ cs vs=[]
 | [],_,_=>rfl
 | .dat u::cs,[],_=>rfl
 | .dat u::cs,v::vs,h=>by rw [WQ,YG cs vs h];rfl
theorem Uz:∀(cs:List CS) (x:(jq cs).T),I9 cs=true->QG cs x=[]
 | [],_,_=>rfl
 | .dat u::cs,x,h=>by rw [QG,Uz cs _ h];rfl
theorem YH:∀(cs:List CS),I9 cs=true->fO cs=[]
 | [],_=>rfl
 | .dat u::cs,h=>YH cs h
section
variable {σ:Type} {s:σ} {rd:Nat->Option (SO σ)}
theorem UA {cs:List CS} {vs:List (SV σ)} {p:PK σ (jq cs).T} (hd:I9 cs=true) (hp:I8 rd cs vs=some p) (hc:allT s p.cs):jr (fun _=>none) (iL s rd) (aJ []) (pJ cs (p.f s)) (cL s vs) :=
 (Eu cs vs p hp hc (fun x _ r' hr=>by cases hr) (fun x hx=>by rw [YG cs vs hd] at hx;cases hx) (fun x hx=>by rw [Uz cs _ hd] at hx;cases hx) (fun r hr=>by rw [YH cs hd] at hr;cases hr)).1
theorem Gu:∀(ai:List IT) (vs:List (SV σ)) (p:PK σ (bZ ai).T),jv ai=true->qo rd ai vs=some p->allT s p.cs ->
 jr (fun _=>none) (iL s rd) (aJ []) ((lU ai (p.f s)).map (·.2)) (cL s vs)
 | [],[],p,hd,hp,hc=>by
   rw [cL];show jr _ _ _ [] [];rw [jr]
 | .tmp t false cs::l,v::vs,p,hd,hp,hc=>by
   rw [qo] at hp;rw [jv,Bool.and_eq_true] at hd;split at hp
   ·rename_i x y hx hy;cases hp;rw [bV] at hc;have e1:jF (uI (.tmp t false cs)) (bZ l) (wU (jq cs) (bZ l) (x.f s) (y.f s))=x.f s:=jX _ _ _ _;have e2:kN (uI (.tmp t false cs)) (bZ l) (wU (jq cs) (bZ l) (x.f s) (y.f s))=y.f s:=kT _ _ _ _;have hA:=UA hd.1 hx hc.1;have hB:=Gu l vs y hd.2 hy hc.2;rw [cL,cL] at hA;rw [cL];simp only [lU,e1,e2,List.map_append];show jr _ _ _ (oJ (pJ cs (x.f s))::(lU l (y.f s)).map (·.2)) _;rw [jr];refine ⟨_,_,rfl,?_,hB⟩;generalize pJ cs (x.f s)=ys at hA ⊢;cases ys with
    | nil=>rw [jr] at hA;cases hA
    | cons y ys =>
      rw [jr] at hA;obtain ⟨x,xs,h1,h2,h3⟩:=hA;cases h1;cases ys with
      | nil=>exact h2
      | cons z zs=>rw [jr] at h3;obtain ⟨_,_,h4,_⟩:=h3;cases h4
   ·cases hp
 | .tmp t true cs::l,v::vs,p,hd,hp,hc=>by
   rw [jv,Bool.and_eq_true] at hd;cases v with
   | agg ws =>
     simp only [qo] at hp;split at hp
     ·rename_i x y hx hy;cases hp;rw [bV] at hc;have e1:jF (uI (.tmp t true cs)) (bZ l) (wU (jq cs) (bZ l) (x.f s) (y.f s))=x.f s:=jX _ _ _ _;have e2:kN (uI (.tmp t true cs)) (bZ l) (wU (jq cs) (bZ l) (x.f s) (y.f s))=y.f s:=kT _ _ _ _;have hA:=UA hd.1 hx hc.1;have hB:=Gu l vs y hd.2 hy hc.2;rw [cL];simp only [lU,e1,e2,List.map_append];show jr _ _ _ (.agg (pJ cs (x.f s))::(lU l (y.f s)).map (·.2)) _;rw [jr];refine ⟨_,_,rfl,?_,hB⟩;rw [SV.c,gG];exact ⟨_,rfl,hA⟩
     ·cases hp
   | _=>simp only [qo] at hp;cases hp
 | [],_::_,p,_,hp,_=>by cases hp
 | .tmp _ true _::_,[],p,_,hp,_=>by cases hp
 | .tmp _ false _::_,[],p,_,hp,_=>by cases hp
 | .mix _ _::_,_,p,hd,_,_=>by cases hd
 | .row _ _ _::_,_,p,hd,_,_=>by cases hd
 | .arr _ _::_,_,p,hd,_,_=>by cases hd
 | .mp _::_,_,p,hd,_,_=>by cases hd
 | .drop _::_,_,p,hd,_,_=>by cases hd
 | .dead _::_,_,p,hd,_,_=>by cases hd
end
def aec:Nat->List IT->Bool
 | _,[]=>true
 | i,.tmp t _ _::l=>decide (t=i)&&aec (i+1) l
 | _,_=>false
theorem KP:∀(ai:List IT) (i:Nat) (x:(bZ ai).T),aec i ai=true->lU ai x=jw i ((lU ai x).map (·.2))
 | [],i,x,_=>rfl
 | .tmp t true cs::l,i,x,h=>by
   rw [aec,Bool.and_eq_true] at h;have ht:=of_decide_eq_true h.1;subst ht;show (t,AV.agg _)::lU l _=jw t (AV.agg _::(lU l _).map (·.2));rw [jw,<-KP l (t+1) _ h.2]
 | .tmp t false cs::l,i,x,h=>by
   rw [aec,Bool.and_eq_true] at h;have ht:=of_decide_eq_true h.1;subst ht;show (t,oJ _)::lU l _=jw t (oJ _::(lU l _).map (·.2));rw [jw,<-KP l (t+1) _ h.2]
def WY (fn:Func) (ai ri:List IT):Bool:=(jv ai&&jv ri)&&(aec 0 ai&&decide (ai.length<=fn.ntmps))
theorem QY:∀(ai:List IT) (x:(bZ ai).T),jv ai=true->(lU ai x).length=ai.length
 | [],_,_=>rfl
 | .tmp t true cs::l,x,h=>by
   rw [jv,Bool.and_eq_true] at h;show (lU l _).length+1=_;rw [QY l _ h.2];rfl
 | .tmp t false cs::l,x,h=>by
   rw [jv,Bool.and_eq_true] at h;show (lU l _).length+1=_;rw [QY l _ h.2];rfl
section
variable {P:Program} {L:List (List (Option TI))} {cs:List Nat} {con:Nat->Option CE} {plan:Nat->Option PL} {eg:Nat->Bool}
theorem ag0 (K:Facts P L cs) {l:List (Nat×Func)} (hl:TL P l) (hcon:∀f E,con f=some E->aV P (f % 1000000000) E) {f:Nat} {fn:Func} (hf:P.funcs[f]? = some fn) (hfn:yx P f=true) {ai ri:List IT} (hsh:WY fn ai ri=true) (n:Nat)
 {G:(bZ ai).T->Option (bZ ri).T} (hG:∀a r,G a=some r->(ad3 (xw (aS P) L) (qOf cs) (TM l) con plan eg n f fn ai ri).run a=some r):aV P f ⟨ai,ri,G⟩:=by
 unfold WY at hsh;rw [Bool.and_eq_true,Bool.and_eq_true,Bool.and_eq_true,decide_eq_true_eq] at hsh;obtain ⟨⟨s1,s2⟩,s3,s4⟩:=hsh;refine aV.mk hfn s1 s2 fun a r hr => ?_;have hrun:=hG a r hr;rw [<-K.hT] at hrun;unfold ad3 at hrun;split at hrun
 ·rename_i c hb;obtain ⟨τ,g,s',e,d',F',h1,h2,h3,h4⟩:=Uy (plan:=plan) K.hq K.hdp K.hm hcon (J3 hl) n _ f fn.ntmps 1 c _ _ 0 _ a r (aJ []) (fun r hr=>by cases hr) hrun;unfold aon at h4;split at h4
  ·rw [TR.run] at h4;cases h4
  ·rename_i he;split at h4
   ·rw [TR.run] at h4;cases h4
   ·rename_i xs hxs;split at h4
    ·rename_i p hp;obtain ⟨c1,c2⟩:=rF h4;rw [TR.run] at c2;cases c2;have hlen:((lU ai a).map (·.2)).length<=fn.ntmps:=by rw [List.length_map,QY ai a s1];exact s4
     have hst:(⟨oQ ai (fun s=>s),[]⟩:SS (bZ ai).T).c a fn.ntmps=⟨fn.ntmps,jw 0 ((lU ai a).map (·.2)),[]⟩:=by
      show (⟨fn.ntmps,cT a (oQ ai fun s=>s),[]⟩:SL)=_;rw [uZ];exact congrArg (fun t=>(⟨fn.ntmps,t,[]⟩:SL)) (KP ai 0 a s3)
     rw [hst] at h3;refine CQ hf hb hlen h3 he (QW hxs) (aaz ?_);have hw:=Gu (s:=s') ri xs p s2 hp c1;rw [mV s' fn.ntmps] at hw;rw [oU];generalize cL s' xs=ys at hw;generalize (lU ri (p.f s')).map (·.2)=zs at hw;have hw':jr (fun _=>none) (aJ (d'.c s' fn.ntmps).hp) (aJ []) zs ys:=hw;cases zs with
     | nil=>rw [jr] at hw';subst hw';show gG _ _ _ (.tup []) (.tup []);rw [gG];exact ⟨[],rfl,by rw [jr]⟩
     | cons z zs =>
       rw [jr] at hw';obtain ⟨y,ys',rfl,k1,k2⟩:=hw';cases zs with
       | nil=>rw [jr] at k2;subst k2;exact k1
       | cons z2 zs =>
         rw [jr] at k2;obtain ⟨y2,ys2,rfl,k3,k4⟩:=k2;show gG _ _ _ (.tup (z::z2::zs)) (.tup (y::y2::ys2));rw [gG];exact ⟨_,rfl,by rw [jr];exact ⟨y,_,rfl,k1,by rw [jr];exact ⟨y2,ys2,rfl,k3,k4⟩⟩⟩
    ·rw [TR.run] at h4;cases h4
 ·rw [TR.run] at hrun;cases hrun
theorem UC:∀(l:List (Nat×AV)) (i:Nat),l.map (·.1)=List.range' i l.length->l=jw i (l.map (·.2))
 | [],_,_=>rfl
 | x::l,i,h=>by
   rw [List.map_cons,List.length_cons,List.range'_succ] at h;injection h with h1 h2;rw [List.map_cons,jw,<-UC l (i+1) h2,<-h1]
def aed (fn:Func) (ai ri:List IT):Bool:=(isNat 0 (qB ai)&&decide ((qB ai).length<=fn.ntmps))&&(isNat 0 (qB ri)&&decide ((qB ri).length=fn.results.size))
theorem UD (l:List IT) (x:(bZ l).T):(lU l x).length=(qB l).length:=by rw [<-xK l x,List.length_map]
theorem oK (K:Facts P L cs) {l:List (Nat×Func)} (hl:TL P l) (hcon:∀f E,con f=some E->aV P (f % 1000000000) E) {f:Nat} {fn:Func} (hf:P.funcs[f]? = some fn) (hfn:yx P f=true) {ai ri:List IT} (hsh:aed fn ai ri=true) (n:Nat)
 {G:(bZ ai).T->Option (bZ ri).T} (hG:∀a r,G a=some r->(ajr (xw (aS P) L) (qOf cs) (TM l) con plan eg n f fn ai ri).run a=some r):agW P f ⟨ai,ri,G⟩:=by
 unfold aed at hsh;rw [Bool.and_eq_true,Bool.and_eq_true,Bool.and_eq_true,decide_eq_true_eq,decide_eq_true_eq] at hsh;obtain ⟨⟨s1,s2⟩,s3,s4⟩:=hsh;refine ⟨hfn,fun a r hr => ?_⟩;have hrun:=hG a r hr;rw [<-K.hT] at hrun;unfold ajr at hrun;split at hrun
 ·rename_i c hb;have hO:cO a (jf ai (fun s=>s))=oM ai a:=zY a ai _;have hk0:∀r,((aJ (oM ai a)) r).isSome=true->(look r (⟨oQ ai (fun s=>s),jf ai (fun s=>s)⟩:SS (bZ ai).T).hp).isSome=true:=fun r hr=>by
   unfold aJ at hr;rw [<-hO,lu] at hr;show (look r (jf ai (fun s=>s))).isSome=true;cases hl:look r (jf ai (fun s:(bZ ai).T=>s)) with
   | none=>rw [hl] at hr;cases hr
   | some o=>rfl
  obtain ⟨τ,g,s',e,d',F',g1,g2,g3,g4⟩:=Uy (plan:=plan) K.hq K.hdp K.hm hcon (J3 hl) n _ f fn.ntmps 1 c _ _ 0 _ a r (aJ (oM ai a)) hk0 hrun;unfold aoo at g4;split at g4
  ·rw [TR.run] at g4;cases g4
  ·rename_i he;split at g4
   ·rw [TR.run] at g4;cases g4
   ·rename_i xs hxs;split at g4
    ·rename_i p hp;obtain ⟨c1,c2⟩:=rF g4;rw [TR.run] at c2;cases c2;have hlen:((lU ai a).map (·.2)).length<=fn.ntmps:=by rw [List.length_map,UD];exact s2
     have hst:(⟨oQ ai (fun s=>s),jf ai (fun s=>s)⟩:SS (bZ ai).T).c a fn.ntmps=⟨fn.ntmps,jw 0 ((lU ai a).map (·.2)),oM ai a⟩:=by
      show (⟨fn.ntmps,cT a (oQ ai fun s=>s),cO a (jf ai fun s=>s)⟩:SL)=_;rw [uZ,hO];refine congrArg (fun t=>(⟨fn.ntmps,t,oM ai a⟩:SL)) (UC _ 0 ?_);rw [xK,Ah s1,UD]
     rw [hst] at g3;have hrs:xs.length=fn.results.size:=by have:=(Jk (s:=s') (N:=fn.ntmps) _ _ hxs).2;rw [this,Array.length_toList]
     have hgr:Grow (⟨[],jf ai (fun s=>s)⟩:SS (bZ ai).T) g (⟨sG 0 xs,d'.hp⟩:SS τ):=⟨⟨sG 0 xs,(List.append_nil _).symm⟩,g2.hp⟩
     obtain ⟨θ,q1,q2,q3⟩:=Di (N:=fn.ntmps) hgr hp c1;rw [g1] at q1 q2 q3;have hH:((headD (⟨[],jf ai (fun s=>s)⟩:SS (bZ ai).T) ri).c (a,p.f s') fn.ntmps).hp=oM ri (p.f s')++oM ai a:=by
      show cO (a,p.f s') (jf ri Prod.snd++jS Prod.fst (jf ai (fun s=>s)))=_;rw [dJ,zY,rD,hO]
     have hT:((headD (⟨[],jf ai (fun s=>s)⟩:SS (bZ ai).T) ri).c (a,p.f s') fn.ntmps).tm=lU ri (p.f s'):=by
      show cT (a,p.f s') (oQ ri Prod.snd++oH Prod.fst [])=_;rw [show oH (Prod.fst:(bZ ai).T×(bZ ri).T->(bZ ai).T) []=[] from rfl,List.append_nil,uZ]
     have hR:((headD (⟨[],jf ai (fun s=>s)⟩:SS (bZ ai).T) ri).c (a,p.f s') fn.ntmps).rd=aJ (oM ri (p.f s')++oM ai a):=by
      unfold SL.rd aJ;rw [hH]
     rw [hR] at q1 q2 q3;rw [hT] at q3;refine CQ hf hb hlen g3 he (QW hxs) ⟨θ,fun r o ho => ?_,q2,?_⟩
     ·exact q1 r (hk0 r (by unfold aJ;rw [ho];rfl))
     ·rw [oU];refine ad8 (QX _ _ 0 ?_ fun x hx => ?_)
      ·rw [xK,Ah s3,jO,s4,hrs]
      ·have hnd:((lU ri (p.f s')).map (·.1)).Nodup:=by rw [xK,Ah s3];exact List.nodup_range'
       have:=q3 x.1 x.2 (Jj hnd hx);unfold SL.get at this;rw [show (SS.c s' fn.ntmps (⟨sG 0 xs,d'.hp⟩:SS τ)).tm=jw 0 (cL s' xs) from KO s' 0 xs] at this;rw [mY] at this;simp only [Nat.zero_le,if_true,Nat.sub_zero] at this;exact this
    ·split at g4
     ·rw [TR.run] at g4;cases g4
     ·exact (Ai g4).elim
 ·rw [TR.run] at hrun;cases hrun
theorem rH {f:Nat} {E:CE} (h:agW P f E) (hd:WU E=false):aV P f E:=by
 unfold aV;rw [hd];exact h
end
end Go.Proofs.Ytkpijdndakljjaa
namespace Go.Proofs.Ytkpijdndakljjaa
open Go.ChangeShapes Go.WideShapes Go.Deep Go.RowKit
def YI:(u:U)->u.T->Prop
 | .int k,n=>(Lit.int k n).wf=true
 | .bool,_=>True
 | .str,s=>s.length<=maxLen
 | .list t,l=>l.length<=maxLen/\∀x∈l,YI t x
 | .pair a b,p=>YI a p.1/\YI b p.2
 | .unit,_=>True
theorem KQ {u:Option U} {l:List (Option U)} {w:U} (h:Kt.pairs (u::l)=some w):(l=[]/\u=some w)\/∃a b,u=some a/\Kt.pairs l=some b/\w = .pair a b:=by
 cases l with
 | nil=>exact .inl ⟨rfl,h⟩
 | cons v l =>
   have e:Kt.pairs (u::v::l)=match u,Kt.pairs (v::l) with | some u,some v=>some (.pair u v) | _,_=>none:=by
    cases u<;>cases hp:Kt.pairs (v::l)<;>simp [Kt.pairs,hp]
   rw [e] at h;split at h
   ·rename_i a b _ hb;cases h;exact .inr ⟨a,b,rfl,hb,rfl⟩
   ·cases h
theorem Aj {T:Ty}:∀(m n t:Nat) (u:U) (ds:List DV),Kt T n t=some u->yY T m t=true->Sh T m t ds->∃x:u.T,ds=gU u x/\YI u x
 | 0,n,t,u,ds,hu,hd,h=>h.elim
 | m+1,0,t,u,ds,hu,hd,h=>by cases hu
 | m+1,n+1,t,u,ds,hu,hd,h=>by
   rw [Sh] at h;rw [Kt] at hu;rw [yY] at hd;cases hT:T t with
   | none=>rw [hT] at h;exact h.elim
   | some i =>
     rw [hT] at h hu hd;simp only at h hu hd;obtain ⟨hlen,h⟩:=h;split at hu
     ·rename_i k hk;cases hu;rw [hk] at h;obtain ⟨x,rfl,hx⟩:=h;exact ⟨x,rfl,hx⟩
     ·rename_i hk;cases hu;rw [hk] at h;obtain ⟨b,rfl⟩:=h;exact ⟨b,rfl,trivial⟩
     ·rename_i hk;cases hu;rw [hk] at h;obtain ⟨s,rfl,hs⟩:=h;refine ⟨s.data.toList,?_,?_⟩
      ·show [DV.val (.string s)]=[.val (.string ⟨s.data.toList.toArray⟩)]
       rw [Array.toArray_toList]
      ·show s.data.toList.length<=maxLen;rw [Array.length_toList];exact hs
     ·rename_i e hk;rw [hk] at h hd;obtain ⟨rows,rfl,h1,h2⟩:=h;simp only at hd;split at hu
      ·rename_i w hw;cases hu;cases hTe:T e with
       | none=>rw [hTe] at hd;cases hd
       | some ei =>
         rw [hTe] at hd;simp only [Bool.and_eq_true] at hd;have key:∀rows:List (List DV),(∀r∈rows,Sh T m e r)->∃l:List w.T,rows.flatten=l.flatMap (gU w)/\rows.length=l.length/\∀a∈l,YI w a:=by
          intro rows
          induction rows with
          | nil=>intro _;exact ⟨[],rfl,rfl,fun a ha=>by cases ha⟩
          | cons r rows ih =>
            intro hr;obtain ⟨l,k1,k2,k3⟩:=ih fun r' h'=>hr r' (List.mem_cons_of_mem _ h');obtain ⟨a,rfl,ha⟩:=Aj m n e w r hw hd.2.2 (hr r List.mem_cons_self);refine ⟨a::l,by rw [List.flatten_cons,List.flatMap_cons,k1],by rw [List.length_cons,List.length_cons,k2],fun b hb => ?_⟩;rcases List.mem_cons.1 hb with rfl | hb
            ·exact ha
            ·exact k3 b hb
         obtain ⟨l,k1,k2,k3⟩:=key rows h2;exact ⟨l,by rw [k1,k2];rfl,by show l.length<=maxLen;omega,k3⟩
      ·cases hu
     ·rename_i fs hk;rw [hk] at h hd;simp only [Bool.and_eq_true] at hd;obtain ⟨hd1,hd2⟩:=hd;have key:∀(fs:List (Nat×Nat)) (o:Nat) (u:U),Kt.pairs (fs.map fun f=>Kt T n f.2)=some u->rZ T o fs i.size=true->(∀f∈fs,yY T m f.2=true)->(∀f∈fs,∃fi,T f.2=some fi/\Sh T m f.2 ((ds.drop f.1).take fi.size))->∃x:u.T,ds.drop o=gU u x/\YI u x:=by
       intro fs
       induction fs with
       | nil =>
         intro o u hu hc _ _;cases hu;rw [rZ] at hc;have:=eq_of_beq hc;exact ⟨(),by rw [List.drop_eq_nil_of_le (by omega)];rfl,trivial⟩
       | cons f fs ih =>
         intro o u hu hc hdd hf;obtain ⟨fo,ft⟩:=f;rw [rZ,Bool.and_eq_true] at hc;obtain ⟨hc1,hc2⟩:=hc;have hc1:=eq_of_beq hc1;subst hc1;obtain ⟨fi,f1,f2⟩:=hf (fo,ft) List.mem_cons_self;simp only at f1 f2;rw [f1] at hc2;simp only at hc2;rw [List.map_cons] at hu;have hdf:=hdd (fo,ft) List.mem_cons_self;rcases KQ hu with ⟨e1,e2⟩ | ⟨a,b,e1,e2,rfl⟩
         ·obtain ⟨x,x1,x2⟩:=Aj m n ft u _ e2 hdf f2;refine ⟨x,?_,x2⟩;have:fs=[]:=by cases fs with | nil=>rfl | cons _ _=>cases e1
          subst this;rw [rZ] at hc2;have:=eq_of_beq hc2;rw [<-x1,List.take_of_length_le (by rw [List.length_drop];omega)]
         ·obtain ⟨x,x1,x2⟩:=Aj m n ft a _ e1 hdf f2;obtain ⟨y,y1,y2⟩:=ih (fo+fi.size) b e2 hc2 (fun f hf'=>hdd f (List.mem_cons_of_mem _ hf')) (fun f hf'=>hf f (List.mem_cons_of_mem _ hf'));refine ⟨(x,y),?_,x2,y2⟩;show _=gU a x++gU b y;rw [<-x1,<-y1,<-List.drop_drop,List.take_append_drop]
      obtain ⟨x,x1,x2⟩:=key fs 0 u hu hd1 (fun f hf=>List.all_eq_true.1 hd2 f hf) h;rw [List.drop_zero] at x1;exact ⟨x,x1,x2⟩
     ·rename_i ka ea hk;rw [hk] at h hd;obtain ⟨ei,hei,h⟩:=h;simp only [hei,Bool.and_eq_true] at hd;obtain ⟨hd1,hd2⟩:=hd;have hmap:(aaO ka ea ei.size).map (fun f=>Kt T n f.2)=List.replicate ka (Kt T n ea):=by
       unfold aaO;rw [List.map_map];apply List.ext_getElem
       ·simp
       ·intro q q1 q2;simp
      rw [<-hmap] at hu;have key:∀(fs:List (Nat×Nat)) (o:Nat) (u:U),Kt.pairs (fs.map fun f=>Kt T n f.2)=some u->rZ T o fs i.size=true->(∀f∈fs,yY T m f.2=true)->(∀f∈fs,∃fi,T f.2=some fi/\Sh T m f.2 ((ds.drop f.1).take fi.size))->∃x:u.T,ds.drop o=gU u x/\YI u x:=by
       intro fs
       induction fs with
       | nil =>
         intro o u hu hc _ _;cases hu;rw [rZ] at hc;have:=eq_of_beq hc;exact ⟨(),by rw [List.drop_eq_nil_of_le (by omega)];rfl,trivial⟩
       | cons f fs ih =>
         intro o u hu hc hdd hf;obtain ⟨fo,ft⟩:=f;rw [rZ,Bool.and_eq_true] at hc;obtain ⟨hc1,hc2⟩:=hc;have hc1:=eq_of_beq hc1;subst hc1;obtain ⟨fi,f1,f2⟩:=hf (fo,ft) List.mem_cons_self;simp only at f1 f2;rw [f1] at hc2;simp only at hc2;rw [List.map_cons] at hu;have hdf:=hdd (fo,ft) List.mem_cons_self;rcases KQ hu with ⟨e1,e2⟩ | ⟨a,b,e1,e2,rfl⟩
         ·obtain ⟨x,x1,x2⟩:=Aj m n ft u _ e2 hdf f2;refine ⟨x,?_,x2⟩;have:fs=[]:=by cases fs with | nil=>rfl | cons _ _=>cases e1
          subst this;rw [rZ] at hc2;have:=eq_of_beq hc2;rw [<-x1,List.take_of_length_le (by rw [List.length_drop];omega)]
         ·obtain ⟨x,x1,x2⟩:=Aj m n ft a _ e1 hdf f2;obtain ⟨y,y1,y2⟩:=ih (fo+fi.size) b e2 hc2 (fun f hf'=>hdd f (List.mem_cons_of_mem _ hf')) (fun f hf'=>hf f (List.mem_cons_of_mem _ hf'));refine ⟨(x,y),?_,x2,y2⟩;show _=gU a x++gU b y;rw [<-x1,<-y1,<-List.drop_drop,List.take_append_drop]
      obtain ⟨x,x1,x2⟩:=key (aaO ka ea ei.size) 0 u hu hd1 (fun f hf=>by obtain ⟨_,_,rfl⟩:=List.mem_map.1 hf;exact hd2) h;rw [List.drop_zero] at x1;exact ⟨x,x1,x2⟩
     ·rename_i h1 h2 h3 h4 h5 h6;cases hk:i.k<;>rw [hk] at hd<;>first | (cases hd;done) | exact (h1 _ hk).elim | exact (h2 hk).elim | exact (h3 hk).elim | exact (h4 _ hk).elim | exact (h5 _ hk).elim | exact (h6 _ _ hk).elim
def sW:U->List CS
 | .pair a b=>sW a++sW b
 | .unit=>[]
 | u=>[.dat u]
def WfC:(c:CS)->(uC c).T->Prop
 | .dat u,x=>YI u x
 | _,_=>True
def QZ:(cs:List CS)->(jq cs).T->Prop
 | [],_=>True
 | c::cs,x=>WfC c (jF (uC c) (jq cs) x)/\QZ cs (kN (uC c) (jq cs) x)
theorem Pm:∀(a b:List CS) (x:(jq a).T) (y:(jq b).T),∃z:(jq (a++b)).T,pJ (a++b) z=pJ a x++pJ b y/\(QZ a x->QZ b y->QZ (a++b) z)
 | [],b,x,y=>⟨y,rfl,fun _ h=>h⟩
 | c::a,b,x,y=>by
   obtain ⟨z,h1,h2⟩:=Pm a b (kN (uC c) (jq a) x) y;refine ⟨wU (uC c) (jq (a++b)) (jF (uC c) (jq a) x) z,?_,fun w1 w2 => ?_⟩
   ·show aC c (jF (uC c) (jq (a++b)) (wU (uC c) (jq (a++b)) _ z))::pJ (a++b) (kN (uC c) (jq (a++b)) (wU (uC c) (jq (a++b)) _ z))=aC c _::pJ a _++pJ b y;rw [jX,kT,h1];rfl
   ·refine ⟨?_,?_⟩
    ·exact (congrArg (WfC c) (jX (uC c) (jq (a++b)) (jF (uC c) (jq a) x) z)).mpr w1.1
    ·exact (congrArg (QZ (a++b)) (kT (uC c) (jq (a++b)) (jF (uC c) (jq a) x) z)).mpr (h2 w1.2 w2)
theorem cells_one (u:U) (x:u.T) (hs:sW u=[.dat u]) (h:aC (.dat u) x = .d ((gU u x).headD (.val .nilFunc))) (h1:fK u=1) (hw:YI u x):∃z:(jq [.dat u]).T,pJ [.dat u] z=(gU u x).map .d/\QZ [.dat u] z:=by
 refine ⟨wU u .unit x (),?_,?_⟩
 ·show [aC (.dat u) (jF u .unit (wU u .unit x ()))]=_;rw [jX,h];have:=bU u x;rw [h1] at this;cases he:gU u x with
  | nil=>rw [he] at this;cases this
  | cons d ds =>
    rw [he] at this;cases ds with
    | nil=>rfl
    | cons _ _=>cases this
 ·refine ⟨?_,trivial⟩;show YI u (jF u .unit (wU u .unit x ()));rw [jX];exact hw
theorem pO:∀(u:U) (x:u.T),YI u x->∃z:(jq (sW u)).T,pJ (sW u) z=(gU u x).map .d/\QZ (sW u) z
 | .int k,x,h=>cells_one (.int k) x rfl rfl rfl h
 | .bool,x,h=>cells_one .bool x rfl rfl rfl h
 | .str,x,h=>cells_one .str x rfl rfl rfl h
 | .list t,x,h=>cells_one (.list t) x rfl rfl rfl h
 | .unit,x,h=>⟨(),rfl,trivial⟩
 | .pair a b,x,h=>by
   obtain ⟨z1,g1,w1⟩:=pO a x.1 h.1;obtain ⟨z2,g2,w2⟩:=pO b x.2 h.2;obtain ⟨z,g3,w3⟩:=Pm _ _ z1 z2;refine ⟨z,?_,w3 w1 w2⟩;show pJ (sW a++sW b) z=(gU a x.1++gU b x.2).map .d;rw [g3,g1,g2,List.map_append]
def WfI:(i:IT)->(uI i).T->Prop
 | .tmp _ _ cs,x=>QZ cs x
 | _,_=>True
def WZ:(l:List IT)->(bZ l).T->Prop
 | [],_=>True
 | i::l,x=>WfI i (jF (uI i) (bZ l) x)/\WZ l (kN (uI i) (bZ l) x)
def aoq (T:Ty) (j t:Nat):Option IT :=
 match T t,Kt T 20 t with
 | some i,some u=>match i.k with
   | .agg _=>some (.tmp j true (sW u))
   | .arr _ _=>some (.tmp j true (sW u))
   | _=>some (.tmp j false [.dat u])
 | _,_=>none
def ajs (E:En) (i:IT) (v:Value):Prop:=∃y:(uI i).T,WfI i y/\∃x,(aT i y).map (·.2)=[x]/\Rel E x v
theorem aee {E:En}:∃a:(bZ []).T,WZ [] a/\aP E ((lU [] a).map (·.2)) []:=⟨(),trivial,by show aP E [] [];rw [aP]⟩
theorem aa6 {E:En} {i:IT} {l:List IT} {v:Value} {vs:List Value} (h:ajs E i v) (k:∃a:(bZ l).T,WZ l a/\aP E ((lU l a).map (·.2)) vs):∃a:(bZ (i::l)).T,WZ (i::l) a/\aP E ((lU (i::l) a).map (·.2)) (v::vs):=by
 obtain ⟨y,w1,x,e,hr⟩:=h;obtain ⟨a,w2,hrl⟩:=k;refine ⟨wU (uI i) (bZ l) y a,⟨?_,?_⟩,?_⟩
 ·exact (congrArg (WfI i) (jX (uI i) (bZ l) y a)).mpr w1
 ·exact (congrArg (WZ l) (kT (uI i) (bZ l) y a)).mpr w2
 ·show aP E ((aT i (jF (uI i) (bZ l) (wU (uI i) (bZ l) y a))++lU l (kN (uI i) (bZ l) (wU (uI i) (bZ l) y a))).map (·.2)) (v::vs);rw [jX,kT,List.map_append,e];show aP E (x::_) _;rw [aP];exact ⟨v,vs,rfl,hr,hrl⟩
section
variable {H:Type} {ec:TypeId×Value->H} {P:Program} {W:World} {base:Nat} {spare:Nat->Bool} {held:Bool} {T:Ty} {m t j:Nat} {v:Value} {d:DataW H} {ps:List MemPlace}
theorem open_arg (hT:aS P=T) (hd:yY T 20 t=true) {i:IT} (hi:aoq T j t=some i) {b0:Nat} (hv:v.okWide P W .any b0 t) (h:DataW.Trod ec P W base spare held t v d ps):ajs (E0 W) i v:=by
 unfold aoq at hi;split at hi
 ·rename_i ti u hti hu;split at hi
  ·rename_i fs hk;cases hi;obtain ⟨ds,h1,h2⟩:=TQ (m:=20) hT hd (by rw [hti];simp only [hk]) hv h;obtain ⟨x,rfl,hx⟩:=Aj 20 20 t u ds hu hd h1;obtain ⟨z,z1,z2⟩:=pO u x hx;refine ⟨z,z2,_,rfl,?_⟩;show Rel (E0 W) (.agg (pJ (sW u) z)) v;rw [z1];exact h2
  ·rename_i ka ea hk;cases hi;obtain ⟨ds,h1,h2⟩:=TQ (m:=20) hT hd (by rw [hti];simp only [hk]) hv h;obtain ⟨x,rfl,hx⟩:=Aj 20 20 t u ds hu hd h1;obtain ⟨z,z1,z2⟩:=pO u x hx;refine ⟨z,z2,_,rfl,?_⟩;show Rel (E0 W) (.agg (pJ (sW u) z)) v;rw [z1];exact h2
  ·rename_i hk hna0;cases hi;have hna:∀k n,ti.k ≠ .arr k n:=fun k n e=>hna0 _ _ e;obtain ⟨x,h1,h2⟩:=ac4 (m:=20) hT hd (by rw [hti];show (!ti.k.isAgg)=true;cases hkk:ti.k<;>first | rfl | exact (hk _ hkk).elim | exact (hna _ _ hkk).elim) hv h;obtain ⟨y,e,hy⟩:=Aj 20 20 t u [x] hu hd h1;have hz:∃z:(jq [.dat u]).T,pJ [.dat u] z=(gU u y).map .d/\QZ [.dat u] z:=by
    have hl:=congrArg List.length e;rw [bU] at hl;cases u with
    | int k=>exact pO _ y hy
    | bool=>exact pO _ y hy
    | str=>exact pO _ y hy
    | list w=>exact pO _ y hy
    | unit=>cases hl
    | pair a b =>
      exfalso;rw [Kt,hti] at hu;simp only at hu;cases hkk:ti.k with
      | agg fs=>exact hk _ hkk
      | arr k n=>exact hna _ _ hkk
      | slice e=>rw [hkk] at hu;simp only at hu;split at hu<;>cases hu
      | _=>rw [hkk] at hu;cases hu
   obtain ⟨z,z1,z2⟩:=hz;refine ⟨z,z2,_,rfl,?_⟩;show Rel (E0 W) (oJ (pJ [.dat u] z)) v;rw [z1,<-e];exact h2
 ·cases hi
end
def vF (l:List (Nat×PL)) (p:Nat):Option PL:=jI p l
def fC:Nat->Bool:=fun _=>false
def ajt:Nat->Bool:=fun _=>true
def aef (l:List (Nat×CE)) (f:Nat):Option CE:=jI f l
def dZ (P:Program):List (Nat×CE)->Prop
 | []=>True
 | (f,E)::l=>aV P (f % 1000000000) E/\dZ P l
theorem nI {P:Program} {l:List (Nat×CE)} (h:dZ P l):∀f E,aef l f=some E->aV P (f % 1000000000) E:=by
 intro f E hE;unfold aef at hE;rw [jR] at hE
 induction l with
 | nil=>cases hE
 | cons x l ih =>
   obtain ⟨k,E'⟩:=x;rw [look] at hE;split at hE
   ·rename_i hk;subst hk;cases hE;exact h.1
   ·exact ih h.2 hE
def riB:List IT:=[.tmp 0 false [.dat .bool]]
theorem ag1 {P:Program} {f:Nat} {ai:List IT} {G:(bZ ai).T->Option Bool} (h:aV P f ⟨ai,riB,G⟩) {a:(bZ ai).T} (hG:G a=some true) (hd:jv ai=true:=by rfl):fB P iY f ((lU ai a).map (·.2)) [] (eu true) []:=by
 unfold aV at h;have e:WU ⟨ai,riB,G⟩=true:=by unfold WU;rw [hd];rfl
 rw [e] at h;exact h.2 a true hG
def ah {α β:Type} (x:Option α) (f:α->Option β):Option β:=match x with | some a=>f a | none=>none
def aA {α β:Type} (x:Option (α ⊕ β)) (f:α->Option β):Option β:=match x with | some (.inl u)=>f u | some (.inr x)=>some x | none=>none
def au {α β:Type} (x:Option β):Option (α ⊕ β):=match x with | some b=>some (.inr b) | none=>none
end Go.Proofs.Ytkpijdndakljjaa
