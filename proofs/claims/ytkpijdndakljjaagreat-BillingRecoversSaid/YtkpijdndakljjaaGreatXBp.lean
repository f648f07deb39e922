import Derived.Test.YtkpijdndakljjaaGreatXAp
import Derived.Test.YtkpijdndakljjaaGreatHBp
set_option linter.unusedSimpArgs false
set_option linter.unusedVariables false
namespace Go.Proofs.YtkpijdndakljjaaGreat
open Go.RowKit
structure GT where
 t:U
 l:List t.T
def gTab (_:Nat):Option GT:=none
inductive xq {υ β:Type} (body:υ->Option (υ ⊕ β)):υ->β->Prop where
 | done {x b} (h:body x=some (.inr b)):xq body x b
 | step {x y b} (h:body x=some (.inl y)) (k:xq body y b):xq body x b
theorem xq.det {υ β:Type} {body:υ->Option (υ ⊕ β)} {x:υ} {b c:β} (h:xq body x b):xq body x c->b=c:=by
 induction h with
 | done h =>
   intro k;cases k with
   | done h'=>rw [h] at h';cases h';rfl
   | step h' _=>rw [h] at h';cases h'
 | step h _ ih =>
   intro k;cases k with
   | done h'=>rw [h] at h';cases h'
   | step h' k'=>rw [h] at h';cases h';exact ih k'
open Classical in
noncomputable def aA {υ β:Type} (body:υ->Option (υ ⊕ β)) (x:υ):Option β :=
 if h:∃b,xq body x b then some (Classical.choose h) else none
theorem nH {υ β:Type} {body:υ->Option (υ ⊕ β)} {x:υ} {b:β}:aA body x=some b↔xq body x b:=by
 unfold aA;constructor
 ·intro h;split at h
  ·rename_i hx;cases h;exact Classical.choose_spec hx
  ·cases h
 ·intro h;rw [dif_pos ⟨b,h⟩];exact congrArg some ((Classical.choose_spec (⟨b,h⟩:∃b,xq body x b)).det h)
theorem dN {υ β:Type} (body:υ->Option (υ ⊕ β)) (x:υ):aA body x=match body x with
 | some (.inl y)=>aA body y
 | some (.inr b)=>some b
 | none=>none:=by
 cases h:body x with
 | none =>
   unfold aA;rw [dif_neg];rintro ⟨b,k⟩;cases k with
   | done h'=>rw [h] at h';cases h'
   | step h' _=>rw [h] at h';cases h'
 | some r =>
   cases r with
   | inr b=>exact nH.2 (.done h)
   | inl y =>
     simp only;cases hy:aA body y with
     | some b=>exact nH.2 (.step h (nH.1 hy))
     | none =>
       unfold aA;rw [dif_neg];rintro ⟨b,k⟩;cases k with
       | done h'=>rw [h] at h';cases h'
       | step h' k'=>rw [h] at h';cases h';rw [nH.2 k'] at hy;cases hy
inductive VI where
 | u (u:U) | own (r e:Nat) (u:U) | nil | np | pt (r off:Nat) | cl (f:Nat) (caps:List (Nat×Nat)) | agg (l:List VI) | junk
inductive OI where
 | mix (l:List VI) | row (e:Nat) (u:U) (wr:Bool) | arr (u:U) | mp | dead
structure NI where
 p:Nat
 kind:Nat
 tms:List (Nat×VI)
 hps:List (Nat×OI)
 tm0:List (Nat×VI)
 hp0:List (Nat×OI)
inductive TR:Type->Type->Type 1 where
 | ret {β σ:Type} (f:σ->β):TR β σ
 | fail {β σ:Type} (msg:String):TR β σ
 | bad {β σ:Type} (is:List Nat) (msg:String):TR β σ
 | note {β σ:Type} (n:NI):TR β σ
 | req {β σ:Type} (c:List (σ->Bool)) (r:TR β σ):TR β σ
 | bnd {β σ α:Type} (f:σ->Option α) (r:TR β (σ×α)):TR β σ
 | iff {β σ:Type} (c:σ->Bool) (t e:TR β σ):TR β σ
 | join {β σ υ:Type} (a:TR (υ ⊕ β) σ) (b:TR β (σ×υ)):TR β σ
 | loop {β σ υ:Type} (x0:σ->υ) (body:TR (υ ⊕ β) (σ×υ)):TR β σ
 | out {β σ υ:Type} (t:TR β σ):TR (υ ⊕ β) σ
def allB {σ:Type} (s:σ):List (σ->Bool)->Bool
 | []=>true
 | [c]=>c s
 | c::cs=>c s&&allB s cs
theorem S9 {σ:Type} (s:σ):∀cs:List (σ->Bool),allB s cs=true↔allT s cs
 | []=>by simp [allB,allT]
 | [c]=>by simp [allB,allT]
 | c::d::cs=>by
   rw [allB,allT,Bool.and_eq_true,S9 s (d::cs)];intro h;cases h
noncomputable def TR.run:{β σ:Type}->TR β σ->σ->Option β
 | _,_,.ret f,s=>some (f s)
 | _,_,.fail _,_=>none
 | _,_,.bad _ _,_=>none
 | _,_,.note _,_=>none
 | _,_,.req c r,s=>bif allB s c then r.run s else none
 | _,_,.bnd f r,s=>match f s with | some a=>r.run (s,a) | none=>none
 | _,_,.iff c t e,s=>bif c s then t.run s else e.run s
 | _,_,.join a b,s=>match a.run s with
   | some (.inl u)=>b.run (s,u)
   | some (.inr x)=>some x
   | none=>none
 | _,_,.loop x0 body,s=>aA (fun u=>body.run (s,u)) (x0 s)
 | _,_,.out t,s=>match t.run s with | some b=>some (.inr b) | none=>none
def Ed {β σ:Type} (cs:List (σ->Bool)) (t:TR β σ):TR β σ:=match cs with | []=>t | cs => .req cs t
theorem ru {β σ:Type} {cs:List (σ->Bool)} {t:TR β σ} {s:σ} {b:β} (h:(Ed cs t).run s=some b):allT s cs/\t.run s=some b:=by
 unfold Ed at h;split at h
 ·exact ⟨trivial,h⟩
 ·rw [TR.run] at h;cases hc:allB s cs with
  | true=>rw [hc] at h;exact ⟨(S9 s cs).1 hc,h⟩
  | false=>rw [hc] at h;cases h
def HR.thn {β:Type}:{σ:Type}->HR σ->(SV σ->List (Nat×SO σ)->TR β σ)->((τ:Type)->(τ->σ)->SV τ->List (Nat×SO τ)->TR β τ)->TR β σ
 | _,.ok v us,K0,_=>K0 v us
 | _,.req c r,K0,K=>Ed c (r.thn K0 K)
 | _,.bnd f r,_,K => .bnd f (r.thn (fun v us=>K _ Prod.fst v us) (fun τ g v us=>K τ (fun t=>(g t).1) v us))
 | _,.fail m,_,_ => .fail m
 | _,.iff c t e,K0,K => .iff c (t.thn K0 K) (e.thn K0 K)
theorem HR.thn_c {β:Type} {b:β}:{σ:Type}->(h:HR σ)->{s:σ}->{x:Option (AV×List (Nat×AO))}->{K0:SV σ->List (Nat×SO σ)->TR β σ}->{K:(τ:Type)->(τ->σ)->SV τ->List (Nat×SO τ)->TR β τ} ->
 (h.thn K0 K).run s=some b->h.Ok s x ->
 (∃v us,x=some (v.c s,cO s us)/\(K0 v us).run s=some b)\/∃(τ:Type) (g:τ->σ) (s':τ) (v:SV τ) (us:List (Nat×SO τ)),g s'=s/\x=some (v.c s',cO s' us)/\(K τ g v us).run s'=some b
 | _,.ok v us,s,x,K0,K,hr,ho => .inl ⟨v,us,ho,hr⟩
 | _,.req c r,s,x,K0,K,hr,ho=>by
   rw [HR.thn] at hr;obtain ⟨h1,h2⟩:=ru hr;exact HR.thn_c r h2 (ho h1)
 | _,.bnd f r,s,x,K0,K,hr,ho=>by
   rw [HR.thn,TR.run] at hr;cases hf:f s with
   | none=>rw [hf] at hr;cases hr
   | some a =>
     rw [hf] at hr;rcases HR.thn_c r hr (ho a hf) with ⟨v,us,h1,h2⟩ | ⟨τ,g,s',v,us,h1,h2,h3⟩
     ·exact .inr ⟨_,Prod.fst,(s,a),v,us,rfl,h1,h2⟩
     ·exact .inr ⟨τ,fun t=>(g t).1,s',v,us,by show (g s').1=s;rw [h1],h2,h3⟩
 | _,.fail m,s,x,K0,K,hr,ho=>by rw [HR.thn,TR.run] at hr;cases hr
 | _,.iff c t e,s,x,K0,K,hr,ho=>by
   rw [HR.thn,TR.run] at hr;rw [HR.Ok] at ho;cases hc:c s with
   | true=>rw [hc] at hr ho;exact HR.thn_c t hr ho
   | false=>rw [hc] at hr ho;exact HR.thn_c e hr ho
section
variable {σ:Type}
def VF (v:Value):SV σ :=
 match v with
 | .agg cs=>match cs.toList.all (·.oneCell') with | true => .agg (cs.toList.map .val) | false => .junk
 | .tuple cs=>match cs.isEmpty with | true => .undef | false => .junk
 | v => .val v
theorem Xz (s:σ):∀l:List Value,cL s (l.map .val)=l.map fun c=>AV.d (.val c)
 | []=>rfl
 | x::l=>by rw [List.map_cons,cL,Xz s l,SV.c];rfl
theorem acG (s:σ) (v:Value):(VF v:SV σ).c s=Fz v:=by
 unfold VF Fz;split
 ·rename_i cs;show _=(if (cs.toList.all fun x=>x.oneCell')=true then AV.agg (cs.toList.map fun c => .d (.val c)) else .junk)
  cases h:(cs.toList.all fun x=>x.oneCell') with
  | true=>rw [if_pos rfl,SV.c,Xz]
  | false=>rw [if_neg (by simp),SV.c]
 ·rename_i cs;show _=(if cs.isEmpty=true then AV.undef else .junk)
  cases h:cs.isEmpty with
  | true=>rw [if_pos rfl,SV.c]
  | false=>rw [if_neg (by simp),SV.c]
 ·rename_i h1 h2;rw [SV.c];cases v<;>first | rfl | exact (h1 _ rfl).elim | exact (h2 _ rfl).elim
def xu (d:SS σ):Operand->SV σ
 | .tmp t=>match jH t d.tm with | some x=>x | none => .junk
 | .const v=>VF v
 | .global g=>match gTab g with | some x => .dpt x.t (fun _=>x.l) (fun _=>0) 0 | none => .junk
 | .func f=>match Nat.blt f 1048576 with | true => .clo f [] | false => .junk
def iV (g:Nat):Option (List DV):=(gTab g).map fun x=>aU x.t x.l
theorem Tc (s:σ) (N:Nat) (d:SS σ) (x:Operand):(xu d x).c s=(d.c s N).ev iV x:=by
 cases x with
 | tmp t =>
   show _=(d.c s N).get t;unfold xu SL.get SS.c;simp only [pJ];rw [jQ];cases look t d.tm with
   | none=>simp only [Option.map_none];rw [SV.c]
   | some x=>rfl
 | const v=>exact acG s v
 | global g =>
   show (match gTab g with | some x=>SV.dpt x.t (fun _=>x.l) (fun _=>0) 0 | none => .junk:SV σ).c s=(match (gTab g).map fun x=>aU x.t x.l with | some cells=>AV.dptr cells 0 | none => .junk)
   cases gTab g with
   | none=>rw [SV.c];rfl
   | some x=>rw [SV.c,Nat.zero_mul];rfl
 | func f =>
   show (match Nat.blt f 1048576 with | true=>SV.clo f [] | false => .junk:SV σ).c s=(match Nat.blt f 1048576 with | true=>AV.clo f [] | false => .junk)
   cases Nat.blt f 1048576 with
   | true=>rw [SV.c,cL]
   | false=>rw [SV.c]
def kS (d:SS σ) (r:Nat):Option (SO σ):=jH r d.hp
theorem mG (s:σ) (N:Nat) (d:SS σ):iO s (kS d)=(d.c s N).rd:=by
 funext r;unfold iO kS SL.rd SS.c;rw [jQ];simp only [lD]
def acH (d:SS σ) (o:Option Nat) (v:SV σ):SS σ:=match o with | some t=>⟨(t,v)::d.tm,d.hp⟩ | none=>d
def IQ (d:SS σ) (o:Option Nat) (v:SV σ) (us:List (Nat×SO σ)):SS σ:=⟨(acH d o v).tm,us++d.hp⟩
theorem acI (s:σ) (N:Nat) (d:SS σ) (o:Option Nat) (v:SV σ):(acH d o v).c s N=(d.c s N).put o (v.c s):=by
 cases o<;>rfl
theorem aju (s:σ) (N:Nat) (d:SS σ) (o:Option Nat) (v:SV σ) (us:List (Nat×SO σ)):(IQ d o v us).c s N=(d.c s N).app o (v.c s) (cO s us):=by
 unfold IQ SL.app;rw [<-acI];unfold SS.c;simp only [dP]
structure EN where
 ks:List Nat
 rds:List Nat
 lvs:List Nat
 chg:List Nat
def P8 (e:Ef):EN:=⟨wU e,e.rds,e.lvs,e.chg⟩
def kN (r:Nat):List Nat->Bool
 | []=>false
 | x::l=>match decide (r=x) with | true=>true | false=>kN r l
theorem Ee (r:Nat):∀l:List Nat,kN r l=l.contains r
 | []=>rfl
 | x::l=>by
   rw [kN,List.contains_cons,Ee r l];by_cases h:r=x
   ·subst h;simp
   ·rw [decide_eq_false h];simp [h]
def FV (a b:List Nat):Bool:=a.all fun r => !kN r b
def ncN (x y:EN):Bool:=(FV x.ks y.rds&&FV x.ks y.ks)&&(FV x.chg y.lvs&&(FV y.ks x.rds&&FV y.chg x.lvs))
theorem XA {α:Type} (p q:α->Bool):∀l:List α,l.all (fun r=>p r&&q r)=(l.all p&&l.all q)
 | []=>rfl
 | x::l=>by rw [List.all_cons,List.all_cons,List.all_cons,XA p q l];cases p x<;>cases q x<;>cases l.all p<;>rfl
theorem ajv (x y:Ef):ncN (P8 x) (P8 y)=U1 x y:=by
 unfold ncN U1 FV P8;simp only [Ee,XA,Bool.and_assoc]
def VG (ops:Array Oper) (anc:List Nat) (o:Oper) (e:EN) (log:List (Nat×EN)):Bool :=
 log.all fun x=>kN x.1 anc||match ops[x.1]? with | some oj=>oj.apart ops o&&ncN x.2 e | none=>false
theorem acJ (ops:Array Oper) (anc:List Nat) (o:Oper) (e:Ef) (log:List (Nat×Ef)):VG ops anc o (P8 e) (log.map fun x=>(x.1,P8 x.2))=yN ops anc o e log:=by
 unfold VG yN;rw [List.all_map];congr 1;funext x;simp only [Function.comp,Ee];cases ops[x.1]? with
 | none=>rfl
 | some oj=>simp only [ajv]
def bP:List (Nat×SO σ)->List Nat
 | []=>[]
 | (r,_)::l=>r::bP l
theorem Td (s:σ):∀us:List (Nat×SO σ),(cO s us).map (·.1)=bP us
 | []=>rfl
 | (r,o)::l=>by rw [cO,List.map_cons,bP,Td s l]
def J8 (x:Option (SO σ)) (o:SO σ):Bool :=
 match x with
 | none=>false
 | some x=>match x.kind,o.kind with
   | .data a,.data b=>decide (a=b)
   | .mix,.mix=>true
   | .mp,.mp=>true
   | .dead,.dead=>true
   | _,_=>false
theorem acK (s:σ) (x:Option (SO σ)) (o:SO σ):Ho (x.map (·.c s)) (o.c s)=J8 x o:=by
 unfold Ho J8;cases x with
 | none=>rfl
 | some x =>
   simp only [Option.map_some];cases x<;>cases o<;>simp [SO.c,SO.kind]<;>rfl
def uQ (rd:Nat->Option (SO σ)):List (Nat×SO σ)->List Nat
 | []=>[]
 | (r,o)::l=>match J8 (rd r) o with | true=>uQ rd l | false=>r::uQ rd l
theorem XB (s:σ) (rd:Nat->Option (SO σ)):∀us:List (Nat×SO σ),sD (iO s rd) (cO s us)=uQ rd us
 | []=>rfl
 | (r,o)::l=>by
   have ih:=XB s rd l;unfold sD at ih ⊢;rw [cO,List.filter_cons,uQ];simp only;rw [show Ho (iO s rd r) (o.c s)=J8 (rd r) o from acK s (rd r) o];cases h:J8 (rd r) o with
   | true=>simpa using ih
   | false=>simp [ih]
end
inductive WG (σ:Type):Type where
 | yes | no | dyn (t:Nat) (f:σ->Bool) (want:Bool) | bad
section
variable {σ:Type}
def acL (ops:Array Oper) (d:SS σ) (o:Oper):WG σ :=
 match o.guard with
 | none => .yes
 | some (j,want)=>match ops[j]? with
   | none => .no
   | some oj=>match oj.dst with
     | none => .no
     | some t=>match jH t d.tm with
       | some (.val (.bool b))=>match b,want with
         | true,true => .yes
         | false,false => .yes
         | _,_ => .no
       | some (.bool f) => .dyn t f want
       | some .undef => .no
       | _ => .bad
def WG.Ok (s:σ) (N:Nat) (d:SS σ) (x:Option Bool):WG σ->Prop
 | .yes=>x=some true
 | .no=>x=some false
 | .dyn t f want=>x=some (f s==want)/\(d.c s N).get t=eG (f s)
 | .bad=>True
def CO (d:SS σ) (t:Nat) (b:Bool):SS σ:=⟨(t,.val (.bool b))::d.tm,d.hp⟩
theorem P9 {s:σ} {N:Nat} {d:SS σ} {t:Nat} {b:Bool} (h:(d.c s N).get t=eG b):((CO d t b).c s N).S=(d.c s N).S:=by
 unfold SL.S;have:((CO d t b).c s N).get=(d.c s N).get:=by
  funext k;unfold SL.get;show (match look k ((t,(SV.val (.bool b):SV σ).c s)::cT s d.tm) with | some x=>x | none=>AV.junk)=_;rw [look];by_cases hk:t=k
  ·subst hk;rw [if_pos rfl,SV.c];exact h.symm
  ·rw [if_neg hk];rfl
 rw [this];rfl
theorem afI (s:σ) (N:Nat) (ops:Array Oper) (d:SS σ) (o:Oper):(acL ops d o).Ok s N d (sW ops (d.c s N) o):=by
 unfold acL sW;cases o.guard with
 | none=>rfl
 | some p =>
   obtain ⟨j,want⟩:=p;simp only;cases ops[j]? with
   | none=>rfl
   | some oj =>
     simp only [Option.bind_some];cases oj.dst with
     | none=>rfl
     | some t =>
       simp only;have he:(d.c s N).get t=match jH t d.tm with | some v=>v.c s | none => .junk:=by
        unfold SL.get SS.c;simp only [pJ];rw [jQ];cases look t d.tm<;>rfl
       rw [he];cases hlq:jH t d.tm with
       | none=>trivial
       | some v =>
         cases v with
         | val v=>cases v with
           | bool b=>simp only [SV.c];cases b<;>cases want<;>rfl
           | _=>trivial
         | bool f =>
           refine ⟨?_,?_⟩
           ·simp only [SV.c,eG]
           ·rw [he,hlq];simp only [SV.c]
         | undef=>simp only [SV.c];rfl
         | _=>trivial
def acM (ρ:Operand->SV σ) (o:Oper):Option (Nat×List (SV σ)) :=
 match o.op with
 | .call c=>match c.callee with
   | .value x=>match ρ x with
     | .clo f caps=>some (f % 1048576,caps.take (f / 1048576)++(c.args.toList.map ρ++caps.drop (f / 1048576)))
     | _=>none
   | _=>none
 | _=>none
def VH (o:Oper):Bool :=
 match o.op with
 | .call c=>match c.callee with
   | .value _=>false
   | _=>true
 | _=>true
theorem afJ (s:σ) (ρ:Operand->SV σ) (o:Oper) {f:Nat} {args:List (SV σ)} (h:acM ρ o=some (f,args)):vM (fun x=>(ρ x).c s) o=some (f,cL s args):=by
 unfold acM at h;unfold vM;split at h
 ·rename_i c hc;rw [hc];simp only;split at h
  ·rename_i x hx;rw [hx];simp only;split at h
   ·rename_i g caps hv;cases h;rw [hv,SV.c];simp only;rw [oU,oU,I5,I4,qJ]
   ·cases h
  ·cases h
 ·cases h
theorem acN (ρ:Operand->AV) (o:Oper) (h:VH o=true):vM ρ o=none:=by
 unfold VH at h;unfold vM;split at h
 ·rename_i c hc;rw [hc];simp only;split at h
  ·cases h
  ·rename_i hx;split
   ·rename_i x hx';exact (hx x hx').elim
   ·rfl
 ·rename_i hc;split
  ·rename_i c hc';exact (hc c hc').elim
  ·rfl
def XC (T:Ty) (o:Oper):Bool :=
 match o.op with
 | .alloc _=>true
 | .box _ _=>true
 | .buildSlice _ _ _=>true
 | .load _ _=>true
 | .store _ _ _=>true
 | .makeSlice _ _ _=>true
 | .makeMap _ _=>true
 | .lookup _ _ _ _=>true
 | .mapUpdate _ _ _ _=>true
 | .convert src dst _=>match T src,T dst with
   | some si,some di=>match si.k,di.k with | .slice _,.str=>true | _,_=>false
   | _,_=>false
 | .call c=>match c.callee with | .builtin .append=>true | .builtin .copy=>true | _=>false
 | _=>false
theorem afK (T:Ty) (q:Nat->Bool) (lk:Nat->Option AK) (o:Oper) (ρ:Operand->AV) (h:XC T o=true):BU T q lk o ρ=none:=by
 unfold XC at h;unfold BU;cases ho:o.op with
 | convert src dst x =>
   rw [ho] at h;simp only at h ⊢;split at h
   ·rename_i si di h1 h2;split at h
    ·rename_i h3 h4;simp only [h1,h2,h3,h4]
    ·cases h
   ·cases h
 | call c =>
   rw [ho] at h;simp only at h ⊢;split at h
   ·rename_i hc;simp only [hc];split<;>rfl
   ·rename_i hc;simp only [hc];split<;>rfl
   ·cases h
 | alloc t=>rfl
 | box t x=>rfl
 | buildSlice t n parts=>rfl
 | load t x=>rfl
 | store t x y=>rfl
 | makeSlice t l c=>rfl
 | makeMap t r=>rfl
 | lookup t x y ok=>rfl
 | mapUpdate t x y z=>rfl
 | _=>first | (rw [ho] at h;cases h;done) | (exact absurd h (by rw [ho];simp)) | (rw [ho] at h;simp at h)
def sN (T:Ty) (o:Oper) (ρ:Operand->SV σ):Option (List (σ->Bool)×SV σ) :=
 match o.op with
 | .convert src dst x=>match T src,T dst with
   | some si,some di=>match si.k,di.k with
     | .str,.slice e=>match Fg (T e),asS (ρ x) with
       | true,some f=>some ([fun s=>decide ((f s).length<=140737488355328)],.lst (.int .u8) fun s=>(f s).map fun b=>(b.toNat:Int))
       | _,_=>none
     | _,_=>none
   | _,_=>none
 | _=>none
theorem aqr (s:σ) (T:Ty) (q:Nat->Bool) (lk:Nat->Option AK) (rd:Nat->Option AO) (slot:Nat) (o:Oper) (ρ:Operand->SV σ) {cs:List (σ->Bool)} {v:SV σ} (h:sN T o ρ=some (cs,v)) (hc:allT s cs) :
 BU T q lk o (fun x=>(ρ x).c s)=none/\BX T rd slot o (fun x=>(ρ x).c s)=none/\Ji T rd slot o (fun x=>(ρ x).c s)=some (v.c s,[]):=by
 unfold sN at h;split at h
 ·rename_i src dst x ho;split at h
  ·rename_i si di hsi hdi;split at h
   ·rename_i e k1 k2;split at h
    ·rename_i f hu hf;cases h;have hx:=sU (s:=s) hf;have hl:(⟨(f s).toArray⟩:ByteArray).size=(f s).length:=by show (f s).toArray.size=_;simp
     refine ⟨?_,?_,?_⟩
     ·unfold BU;simp only [ho,hsi,hdi,k1,k2,hx]
     ·unfold BX;simp only [ho,hsi,hdi,k1,k2]
     ·unfold Ji;simp only [ho,hsi,hdi,k1,k2,hx,hu,if_true,hl];rw [if_pos (of_decide_eq_true hc.1),SV.c,J7,List.length_map]
    ·cases h
   ·cases h
  ·cases h
 ·cases h
def Oe (rs:List Nat) (rd:Nat->Option (SO σ)):Nat->Option (SO σ):=fun r=>match kN r rs with | true=>rd r | false=>none
theorem XD (s:σ) (rs:List Nat) (rd:Nat->Option (SO σ)):iO s (Oe rs rd)=restrict rs (iO s rd):=by
 funext r;unfold iO Oe restrict;rw [Ee];cases rs.contains r<;>rfl
def gV (o:Oper) (ρ:Operand->SV σ):List Nat:=o.op.operands.toList.flatMap fun x=>(ρ x).refs
theorem J9 (s:σ) (o:Oper) (ρ:Operand->SV σ):(o.op.operands.toList.flatMap fun x=>((ρ x).c s).refs)=gV o ρ:=by
 unfold gV;congr 1;funext x;exact JR s _
end
structure Grow {σ τ:Type} (d:SS σ) (g:τ->σ) (d':SS τ):Prop where
 tm:∃l,d'.tm=l++nT g d.tm
 hp:∃l,d'.hp=l++jR g d.hp
section
variable {σ τ υ:Type}
mutual
theorem map_map (g:τ->σ) (h:υ->τ):∀v:SV σ,(v.map g).map h=v.map fun t=>g (h t)
 | .val v=>by rw [SV.map,SV.map,SV.map]
 | .int k f=>by rw [SV.map,SV.map,SV.map]
 | .bool f=>by rw [SV.map,SV.map,SV.map]
 | .str f=>by rw [SV.map,SV.map,SV.map]
 | .lst t f=>by rw [SV.map,SV.map,SV.map]
 | .ptr r off=>by rw [SV.map,SV.map,SV.map]
 | .ptx r z j off=>by rw [SV.map,SV.map,SV.map]
 | .sl r z o n cap=>by rw [SV.map,SV.map,SV.map];cases o<;>cases cap<;>rfl
 | .dpt t f j off=>by rw [SV.map,SV.map,SV.map]
 | .agg cs=>by rw [SV.map,SV.map,SV.map,xw g h cs]
 | .tup cs=>by rw [SV.map,SV.map,SV.map,xw g h cs]
 | .clo f cs=>by rw [SV.map,SV.map,SV.map,xw g h cs]
 | .undef=>by rw [SV.map,SV.map,SV.map]
 | .junk=>by rw [SV.map,SV.map,SV.map]
theorem xw (g:τ->σ) (h:υ->τ):∀l:List (SV σ),rV h (rV g l)=rV (fun t=>g (h t)) l
 | []=>by rw [rV,rV,rV]
 | x::l=>by rw [rV,rV,rV,map_map g h x,xw g h l]
end
theorem ZW (g:τ->σ) (h:υ->τ) (o:SO σ):(o.map g).map h=o.map fun t=>g (h t):=by
 cases o with
 | mix cs=>show SO.mix _=SO.mix _;rw [xw]
 | _=>rfl
theorem Og (g:τ->σ) (h:υ->τ):∀l:List (Nat×SV σ),nT h (nT g l)=nT (fun t=>g (h t)) l
 | []=>rfl
 | (t,v)::l=>by rw [nT,nT,nT,map_map,Og g h l]
theorem Oh (g:τ->σ) (h:υ->τ):∀l:List (Nat×SO σ),jR h (jR g l)=jR (fun t=>g (h t)) l
 | []=>rfl
 | (t,v)::l=>by rw [jR,jR,jR,ZW,Oh g h l]
theorem Hz (g:τ->σ):∀a b:List (Nat×SV σ),nT g (a++b)=nT g a++nT g b
 | [],b=>rfl
 | (t,v)::a,b=>by rw [List.cons_append,nT,nT,Hz g a b];rfl
theorem HY (g:τ->σ):∀a b:List (Nat×SO σ),jR g (a++b)=jR g a++jR g b
 | [],b=>rfl
 | (t,v)::a,b=>by rw [List.cons_append,jR,jR,HY g a b];rfl
mutual
theorem map_id:∀v:SV σ,v.map (fun s=>s)=v
 | .val v=>by rw [SV.map]
 | .int k f=>by rw [SV.map]
 | .bool f=>by rw [SV.map]
 | .str f=>by rw [SV.map]
 | .lst t f=>by rw [SV.map]
 | .ptr r off=>by rw [SV.map]
 | .ptx r z j off=>by rw [SV.map]
 | .sl r z o n cap=>by rw [SV.map];cases o<;>cases cap<;>rfl
 | .dpt t f j off=>by rw [SV.map]
 | .agg cs=>by rw [SV.map,Eh cs]
 | .tup cs=>by rw [SV.map,Eh cs]
 | .clo f cs=>by rw [SV.map,Eh cs]
 | .undef=>by rw [SV.map]
 | .junk=>by rw [SV.map]
theorem Eh:∀l:List (SV σ),rV (fun s=>s) l=l
 | []=>by rw [rV]
 | x::l=>by rw [rV,map_id x,Eh l]
end
theorem afL (o:SO σ):o.map (fun s=>s)=o:=by
 cases o with
 | mix cs=>show SO.mix _=SO.mix _;rw [Eh]
 | _=>rfl
theorem Ei:∀l:List (Nat×SV σ),nT (fun s=>s) l=l
 | []=>rfl
 | (t,v)::l=>by rw [nT,map_id,Ei l]
theorem Ej:∀l:List (Nat×SO σ),jR (fun s=>s) l=l
 | []=>rfl
 | (t,v)::l=>by rw [jR,afL,Ej l]
theorem Grow.refl (d:SS σ):Grow d (fun s=>s) d:=⟨⟨[],by rw [Ei];rfl⟩,⟨[],by rw [Ej];rfl⟩⟩
theorem Grow.trans {d:SS σ} {g:τ->σ} {d':SS τ} {h:υ->τ} {d'':SS υ} (a:Grow d g d') (b:Grow d' h d''):Grow d (fun t=>g (h t)) d'':=by
 obtain ⟨⟨l1,h1⟩,⟨l2,h2⟩⟩:=a;obtain ⟨⟨l3,h3⟩,⟨l4,h4⟩⟩:=b;exact ⟨⟨l3++nT h l1,by rw [h3,h1,Hz,Og,List.append_assoc]⟩,⟨l4++jR h l2,by rw [h4,h2,HY,Oh,List.append_assoc]⟩⟩
theorem Grow.app {d:SS σ} {g:τ->σ} {d':SS τ} (a:Grow d g d') (o:Option Nat) (v:SV τ) (us:List (Nat×SO τ)):Grow d g (IQ d' o v us):=by
 obtain ⟨⟨l1,h1⟩,⟨l2,h2⟩⟩:=a;refine ⟨?_,⟨us++l2,by show us++d'.hp=_;rw [h2,List.append_assoc]⟩⟩;cases o with
 | none=>exact ⟨l1,h1⟩
 | some t=>exact ⟨(t,v)::l1,by show (t,v)::d'.tm=_;rw [h1];rfl⟩
theorem Grow.put {d:SS σ} {g:τ->σ} {d':SS τ} (a:Grow d g d') (o:Option Nat) (v:SV τ):Grow d g (acH d' o v):=by
 obtain ⟨⟨l1,h1⟩,⟨l2,h2⟩⟩:=a;cases o with
 | none=>exact ⟨⟨l1,h1⟩,⟨l2,h2⟩⟩
 | some t=>exact ⟨⟨(t,v)::l1,by show (t,v)::d'.tm=_;rw [h1];rfl⟩,⟨l2,h2⟩⟩
theorem Grow.map (d:SS σ) (g:τ->σ):Grow d g (d.map g):=⟨⟨[],rfl⟩,⟨[],rfl⟩⟩
end
def afM (o:Oper):Bool :=
 match o.op with
 | .binOp _ _ _ _ _=>true
 | .unOp _ _ _=>true
 | .convert _ _ _=>true
 | .slice _ _ _ _ _=>true
 | _=>false
def acO {β σ:Type} (b:Bool) (v:SV σ) (K0:SV σ->TR β σ) (K:(τ:Type)->(τ->σ)->SV τ->TR β τ):TR β σ :=
 match b,v with
 | true,.int k f => .bnd (fun s=>some (f s)) (K (σ×Int) Prod.fst (.int k Prod.snd))
 | true,.str f => .bnd (fun s=>some (f s)) (K (σ×List UInt8) Prod.fst (.str Prod.snd))
 | true,.lst t f => .bnd (fun s=>some (f s)) (K (σ×List t.T) Prod.fst (.lst t Prod.snd))
 | _,v=>K0 v
theorem afN {β σ:Type} {n:Bool} {v:SV σ} {K0:SV σ->TR β σ} {K:(τ:Type)->(τ->σ)->SV τ->TR β τ} {s:σ} {b:β} (h:(acO n v K0 K).run s=some b) :
 (K0 v).run s=some b\/∃(τ:Type) (g:τ->σ) (s':τ) (v':SV τ),g s'=s/\v'.c s'=v.c s/\(K τ g v').run s'=some b:=by
 unfold acO at h;split at h
 ·rw [TR.run] at h;exact .inr ⟨_,Prod.fst,_,_,rfl,by rw [SV.c,SV.c],h⟩
 ·rw [TR.run] at h;exact .inr ⟨_,Prod.fst,_,_,rfl,by rw [SV.c,SV.c],h⟩
 ·rw [TR.run] at h;exact .inr ⟨_,Prod.fst,_,_,rfl,by rw [SV.c,SV.c],h⟩
 ·exact .inl h
abbrev XE (β:Type):Type 1:=Nat->(σ:Type)->Nat->List (SV σ)->SS σ->Nat->((τ:Type)->(τ->σ)->SV τ->List (Nat×SO τ)->List Nat->Nat->TR β τ)->TR β σ
section
variable {β:Type} (eg:Nat->Bool) (call:XE β) (T:Ty) (q:Nat->Bool) (N base:Nat) (ops:Array Oper) (draw:Bool) (anc:List (List Nat))
def ncD (i:Nat) (o:Oper) (e:EN) (log:List (Nat×EN)):Bool:=match draw with | false=>true | true=>VG ops (anc.getD i []) o e log
def brW {σ:Type} (d:SS σ) (w:WG σ) (go skip:SS σ->TR β σ):TR β σ :=
 match w with
 | .yes=>go d
 | .no=>skip d
 | .dyn t f true => .iff f (go (CO d t true)) (skip (CO d t false))
 | .dyn t f false => .iff f (skip (CO d t true)) (go (CO d t false))
 | .bad => .fail "guard"
def VJ (i:Nat) (o:Oper) {σ:Type} (d:SS σ) (log:List (Nat×EN)) (rec:SS σ->List (Nat×EN)->TR β σ):TR β σ :=
 match ncD ops draw anc i o ⟨[],[],[],[]⟩ log with
 | true=>rec (acH d o.dst .undef) ((i,⟨[],[],[],[]⟩)::log)
 | false => .fail "order"
def ajw (i:Nat) (o:Oper) (σ:Type) (d:SS σ) (log:List (Nat×EN)) (F:Nat) (K:(τ:Type)->(τ->σ)->SS τ->Nat->TR β τ)
    (rec:(σ:Type)->SS σ->List (Nat×EN)->Nat->((τ:Type)->(τ->σ)->SS τ->Nat->TR β τ)->TR β σ):TR β σ :=
 match VH o with
 | false=>match acM (xu d) o with
   | none => .fail "call of what"
   | some (f,args)=>call i σ f args d F (fun τ g v us rds F' =>
     match ncD ops draw anc i o ⟨bP us,rds,[],uQ (kS (d.map g)) us⟩ log with
     | true=>rec τ (IQ (d.map g) o.dst v us) ((i,⟨bP us,rds,[],uQ (kS (d.map g)) us⟩)::log) F' (fun τ' g' d' F''=>K τ' (fun t=>g (g' t)) d' F'')
     | false => .fail "order of a call")
 | true=>match XC T o with
   | false=>match sQ T q (P5 (Oe (gV o (xu d)) (kS d))) o (xu d) with
     | none=>match sN T o (xu d) with
       | none => .bad [base+i] "operation"
       | some (cs,v)=>match ncD ops draw anc i o ⟨[],(base+i)::gV o (xu d),[],[]⟩ log with
         | true=>Ed cs (rec σ (IQ d o.dst v []) ((i,⟨[],(base+i)::gV o (xu d),[],[]⟩)::log) F K)
         | false => .fail "order"
     | some (cs,v)=>match ncD ops draw anc i o ⟨[],[],gV o (xu d),[]⟩ log with
       | true=>Ed cs (acO (afM o) v (fun v=>rec σ (IQ d o.dst v []) ((i,⟨[],[],gV o (xu d),[]⟩)::log) F K)
         (fun τ g v=>rec τ (IQ (d.map g) o.dst v []) ((i,⟨[],[],gV o (xu d),[]⟩)::log) F (fun τ' g' d' F''=>K τ' (fun t=>g (g' t)) d' F'')))
       | false => .fail "order"
   | true=>(hS eg T (Oe ((base+i)::gV o (xu d)) (kS d)) (base+i) o (xu d)).thn
     (fun v us=>match ncD ops draw anc i o ⟨bP us,(base+i)::gV o (xu d),[],uQ (kS d) us⟩ log with
       | true=>rec σ (IQ d o.dst v us) ((i,⟨bP us,(base+i)::gV o (xu d),[],uQ (kS d) us⟩)::log) F K
       | false => .fail "order")
     (fun τ g v us=>match ncD ops draw anc i o ⟨bP us,(base+i)::gV o (xu d),[],uQ (kS (d.map g)) us⟩ log with
       | true=>rec τ (IQ (d.map g) o.dst v us) ((i,⟨bP us,(base+i)::gV o (xu d),[],uQ (kS (d.map g)) us⟩)::log) F (fun τ' g' d' F''=>K τ' (fun t=>g (g' t)) d' F'')
       | false => .fail "order")
def Qa:List (Nat×Oper)->(σ:Type)->SS σ->List (Nat×EN)->Nat->((τ:Type)->(τ->σ)->SS τ->Nat->TR β τ)->TR β σ
 | [],σ,d,_,F,K=>K σ (fun s=>s) d F
 | (i,o)::is,σ,d,log,F,K=>match amN N o.dst with
   | false => .fail "dst"
   | true=>brW d (acL ops d o) (fun d=>ajw eg call T q base ops draw anc i o σ d log F K (fun σ d log F K=>Qa is σ d log F K)) (fun d=>VJ ops draw anc i o d log (fun d log=>Qa is σ d log F K))
end
def acP (P:Program) (N:Nat) {β:Type} (call:XE β):Prop :=
 ∀(i:Nat) (σ:Type) (f:Nat) (args:List (SV σ)) (d:SS σ) (F:Nat) (K:(τ:Type)->(τ->σ)->SV τ->List (Nat×SO τ)->List Nat->Nat->TR β τ) (s:σ) (b:β),(call i σ f args d F K).run s=some b ->
  ∃(τ:Type) (g:τ->σ) (s':τ) (v:SV τ) (us:List (Nat×SO τ)) (rds:List Nat) (F':Nat),g s'=s/\xZ P f=true/\Does P iV f (cL s args) rds (v.c s') (cO s' us) (d.c s N).rd/\(K τ g v us rds F').run s'=some b
section
variable {P:Program} {eg:Nat->Bool} {q:Nat->Bool} {N base:Nat} {ops:Array Oper} {draw:Bool} {anc:List (List Nat)} {β:Type} {call:XE β}
def VK {σ:Type} (N:Nat) (d:SS σ) (s:σ) (b:β) (K:(τ:Type)->(τ->σ)->SS τ->Nat->TR β τ) (sl:SL):Prop :=
 ∃(τ:Type) (g:τ->σ) (s':τ) (d':SS τ) (F':Nat),g s'=s/\Grow d g d'/\sl=d'.c s' N/\(K τ g d' F').run s'=some b
theorem zN {GL:Nat->Option (List DV)} {K K':SL->Prop} (hK:∀s,K s->K' s) {is:List Nat} {s:SL} {log:List (Nat×Ef)} (h:pG P GL q N base ops draw K is s log):pG P GL q N base ops draw K' is s log:=by
 obtain ⟨L,s',h1,h2,h3,h4⟩:=h;exact ⟨L,s',h1,h2,hK _ h3,h4⟩
theorem acQ {GL:Nat->Option (List DV)} {K:SL->Prop} {is:List Nat} {s s2:SL} {log:List (Nat×Ef)} (e:s2.S=s.S) (h:pG P GL q N base ops draw K is s2 log):pG P GL q N base ops draw K is s log:=by
 obtain ⟨L,s',h1,h2,h3,h4⟩:=h;exact ⟨L,s',h1,by rw [<-e];exact h2,h3,h4⟩
theorem Ko (hanc:draw=true->anc=uz ops ops.size) (hcall:acP P N call) :
 ∀(is:List (Nat×Oper)) (σ:Type) (d:SS σ) (log:List (Nat×Ef)) (slog:List (Nat×EN)) (F:Nat) (K:(τ:Type)->(τ->σ)->SS τ->Nat->TR β τ) (s:σ) (b:β),(∀x∈is,ops[x.1]? = some x.2)->(log.map fun x=>(x.1,P8 x.2))=slog ->
  (Qa eg call (aX P) q N base ops draw anc is σ d slog F K).run s=some b->pG P iV q N base ops draw (VK N d s b K) (is.map (·.1)) (d.c s N) log
 | [],σ,d,log,slog,F,K,s,b,_,_,h=>⟨[],d.c s N,rfl,rfl,⟨σ,fun s=>s,s,d,F,rfl,Grow.refl d,rfl,h⟩,fun _ y hy=>(by cases hy),fun _=>List.Pairwise.nil⟩
 | (i,o)::is,σ,d,log,slog,F,K,s,b,hall,hlog,h=>by
   have ho:ops[i]? = some o:=hall (i,o) List.mem_cons_self;have hall':∀x∈is,ops[x.1]? = some x.2:=fun x hx=>hall x (List.mem_cons_of_mem _ hx);rw [List.map_cons];rw [Qa] at h;split at h
   ·rw [TR.run] at h;cases h
   ·rename_i hdst;rw [afp] at hdst;have hd:∀t,o.dst=some t->t<N:=fun t e=>by
     unfold abI at hdst;rw [e] at hdst;simpa using hdst
    have hnc:∀(e:Ef),ncD ops draw anc i o (P8 e) slog=true->draw=true->yN ops (anc.getD i []) o e log=true:=fun e he hdr=>by
     unfold ncD at he;rw [hdr] at he;simp only at he;rw [<-hlog,acJ] at he;exact he
    -- the operation left out
    have hskip:∀d:SS σ,sW ops (d.c s N) o=some false->(VJ ops draw anc i o d slog (fun d log=>Qa eg call (aX P) q N base ops draw anc is σ d log F K)).run s=some b->pG P iV q N base ops draw (VK N d s b K) (i::is.map (·.1)) (d.c s N) log:=fun d hw ht=>by
     unfold VJ at ht;split at ht
     ·rename_i hn;have ih:=Ko hanc hcall is σ (acH d o.dst .undef) ((i,wo)::log) _ F K s b hall' (by rw [List.map_cons,hlog];rfl) ht;rw [acI,show (SV.undef:SV σ).c s = .undef from by rw [SV.c]] at ih;refine rQ hanc ho (SL.put_S _ o.dst) ?_ (hnc wo hn) (zN (fun sl => ?_) ih)
      ·unfold nJ;rw [ho];exact ⟨hd,.inr ⟨hw,rfl⟩⟩
      ·rintro ⟨τ,g,s',d',F',h1,h2,h3,h4⟩;exact ⟨τ,g,s',d',F',h1,((Grow.refl d).put o.dst .undef).trans h2,h3,h4⟩
     ·rw [TR.run] at ht;cases ht
    -- the operation carried out
    have hgo:∀d:SS σ,sW ops (d.c s N) o=some true->(ajw eg call (aX P) q base ops draw anc i o σ d slog F K (fun σ d log F K=>Qa eg call (aX P) q N base ops draw anc is σ d log F K)).run s=some b->pG P iV q N base ops draw (VK N d s b K) (i::is.map (·.1)) (d.c s N) log:=fun d hw ht=>by
     have hev:(fun x=>(xu d x).c s)=(d.c s N).ev iV:=by funext x;exact Tc s N d x
     unfold ajw at ht
     -- the rest,from a state in which more is known
     have rest:∀(τ:Type) (g:τ->σ) (s':τ) (v:SV τ) (us:List (Nat×SO τ)) (rds lvs:List Nat) (F':Nat),g s'=s ->
      EfR P iV q (base+i) o (d.c s N).S ⟨v.c s',cO s' us,rds,lvs,sD (d.c s N).rd (cO s' us)⟩ ->
      ncD ops draw anc i o ⟨bP us,rds,lvs,uQ (kS (d.map g)) us⟩ slog=true ->
      (Qa eg call (aX P) q N base ops draw anc is τ (IQ (d.map g) o.dst v us) ((i,⟨bP us,rds,lvs,uQ (kS (d.map g)) us⟩)::slog) F' (fun τ' g' d' F''=>K τ' (fun t=>g (g' t)) d' F'')).run s'=some b ->
      pG P iV q N base ops draw (VK N d s b K) (i::is.map (·.1)) (d.c s N) log:=fun τ g s' v us rds lvs F' hg hef hn hr=>by
      have hen:(⟨bP us,rds,lvs,uQ (kS (d.map g)) us⟩:EN)=P8 ⟨v.c s',cO s' us,rds,lvs,sD (d.c s N).rd (cO s' us)⟩:=by
       unfold P8 wU;rw [Td,<-hg,<-ab6 g s' N d,<-mG,XB]
      rw [hen] at hn hr;have ih:=Ko hanc hcall is τ (IQ (d.map g) o.dst v us) ((i,⟨v.c s',cO s' us,rds,lvs,sD (d.c s N).rd (cO s' us)⟩)::log) _ F' _ s' b hall' (by rw [List.map_cons,hlog]) hr;rw [aju,ab6,hg] at ih;refine rQ hanc ho (SL.app_S (d.c s N) o.dst ⟨v.c s',cO s' us,rds,lvs,sD (d.c s N).rd (cO s' us)⟩) ?_ (hnc _ hn) (zN (fun sl => ?_) ih)
      ·unfold nJ;rw [ho];exact ⟨hd,.inl ⟨hw,hef⟩⟩
      ·rintro ⟨τ',g',s'',d',F'',h1,h2,h3,h4⟩;refine ⟨τ',fun t=>g (g' t),s'',d',F'',by show g (g' s'')=s;rw [h1,hg],?_,h3,h4⟩;exact ((Grow.map d g).app o.dst v us).trans h2
     have restI:∀(v:SV σ) (us:List (Nat×SO σ)) (rds lvs:List Nat) (F':Nat),
      EfR P iV q (base+i) o (d.c s N).S ⟨v.c s,cO s us,rds,lvs,sD (d.c s N).rd (cO s us)⟩ ->
      ncD ops draw anc i o ⟨bP us,rds,lvs,uQ (kS d) us⟩ slog=true ->
      (Qa eg call (aX P) q N base ops draw anc is σ (IQ d o.dst v us) ((i,⟨bP us,rds,lvs,uQ (kS d) us⟩)::slog) F' K).run s=some b ->
      pG P iV q N base ops draw (VK N d s b K) (i::is.map (·.1)) (d.c s N) log:=fun v us rds lvs F' hef hn hr=>by
      have hmap:d.map (fun s:σ=>s)=d:=by unfold SS.map;rw [Ei,Ej]
      refine rest σ (fun s=>s) s v us rds lvs F' rfl hef (by rw [hmap];exact hn) (by rw [hmap];exact hr)
     have heff:∀(v:AV) (us:List (Nat×AO)),BX (aX P) (restrict ((base+i)::gV o (xu d)) (d.c s N).rd) (base+i) o ((d.c s N).ev iV)=some (v,us)->XC (aX P) o=true->eff (aX P) q (d.c s N).rd (base+i) o ((d.c s N).ev iV)=some ⟨v,us,(base+i)::gV o (xu d),[]⟩:=fun v us he ho'=>by
      have hrs:(o.op.operands.toList.flatMap fun x=>((d.c s N).ev iV x).refs)=gV o (xu d):=by rw [<-J9 s];simp only [Tc s N d]
      unfold eff;simp only [hrs];rw [afK _ _ _ _ _ ho'];simp only [he]
     split at ht
     ·split at ht
      ·rw [TR.run] at ht;cases ht
      ·rename_i f args hc;obtain ⟨τ,g,s',v,us,rds,F',h1,h2,h3,h4⟩:=hcall _ _ _ _ _ _ _ _ _ ht;split at h4
       ·rename_i hn;refine rest τ g s' v us rds [] F' h1 ?_ hn h4;refine ⟨rfl,?_⟩;rw [SL.ev_S,<-hev,afJ s _ o hc];exact ⟨rfl,.inl ⟨h2,h3⟩⟩
       ·rw [TR.run] at h4;cases h4
     ·rename_i hno;have hca:vM ((d.c s N).S.ev iV) o=none:=acN _ o hno;split at ht
      ·split at ht
       ·split at ht
        ·rw [TR.run] at ht;cases ht
        ·rename_i cs v hq;split at ht
         ·rename_i hn;obtain ⟨g1,g2⟩:=ru ht;have hrs:(o.op.operands.toList.flatMap fun x=>((d.c s N).ev iV x).refs)=gV o (xu d):=by rw [<-J9 s];simp only [Tc s N d]
          obtain ⟨n1,n2,n3⟩:=aqr s (aX P) q (kinds (restrict (gV o (xu d)) (d.c s N).rd)) (restrict ((base+i)::gV o (xu d)) (d.c s N).rd) (base+i) o (xu d) hq g1;rw [hev] at n1 n2 n3;refine restI v [] ((base+i)::gV o (xu d)) [] F ⟨rfl,?_⟩ hn g2;rw [hca];refine ⟨⟨v.c s,[],(base+i)::gV o (xu d),[]⟩,?_,rfl,rfl,rfl,rfl⟩;rw [SL.ev_S];show eff (aX P) q (d.c s N).rd (base+i) o ((d.c s N).ev iV)=_;unfold eff;simp only [hrs];rw [n1];simp only [n2,n3]
         ·rw [TR.run] at ht;cases ht
       ·rename_i cs v hq;split at ht
        ·rename_i hn;obtain ⟨g1,g2⟩:=ru ht;have hEf:EfR P iV q (base+i) o (d.c s N).S ⟨v.c s,[],[],gV o (xu d),[]⟩ := ?_
         ·rcases afN g2 with g2 | ⟨τ,g,s',v',h1,h2,h3⟩
          ·exact restI v [] [] (gV o (xu d)) F hEf hn g2
          ·exact rest τ g s' v' [] [] (gV o (xu d)) F h1 (by rw [h2];exact hEf) hn h3
         refine ⟨rfl,?_⟩;rw [hca];refine ⟨⟨v.c s,[],[],gV o (xu d)⟩,?_,rfl,rfl,rfl,rfl⟩;have hQ:=aql s (aX P) q (P5 (Oe (gV o (xu d)) (kS d))) o (xu d) cs v hq g1;have hrs:(o.op.operands.toList.flatMap fun x=>((d.c s N).ev iV x).refs)=gV o (xu d):=by rw [<-J9 s];simp only [Tc s N d]
         rw [<-uh s,XD,mG s N,hev] at hQ;rw [SL.ev_S];show eff (aX P) q (d.c s N).rd (base+i) o ((d.c s N).ev iV)=_;unfold eff;simp only [hrs];rw [hQ]
        ·rw [TR.run] at ht;cases ht
      ·rename_i hH;have hO:=aqo s eg (aX P) (Oe ((base+i)::gV o (xu d)) (kS d)) (base+i) o (xu d);rw [XD,mG s N,hev] at hO
       have mkEf:∀ {τ:Type} (s':τ) (v:SV τ) (us:List (Nat×SO τ)),BX (aX P) (restrict ((base+i)::gV o (xu d)) (d.c s N).rd) (base+i) o ((d.c s N).ev iV)=some (v.c s',cO s' us) ->
        EfR P iV q (base+i) o (d.c s N).S ⟨v.c s',cO s' us,(base+i)::gV o (xu d),[],sD (d.c s N).rd (cO s' us)⟩:=fun {τ} s' v us he=>by
        refine ⟨rfl,?_⟩;rw [hca];refine ⟨⟨v.c s',cO s' us,(base+i)::gV o (xu d),[]⟩,?_,rfl,rfl,rfl,rfl⟩;rw [SL.ev_S];exact heff _ _ he hH
       rcases HR.thn_c _ ht hO with ⟨v,us,h1,h2⟩ | ⟨τ,g,s',v,us,h1,h2,h3⟩
       ·split at h2
        ·rename_i hn;exact restI v us _ [] F (mkEf s v us h1) hn h2
        ·rw [TR.run] at h2;cases h2
       ·split at h3
        ·rename_i hn;exact rest τ g s' v us _ [] F h1 (mkEf s' v us h2) hn h3
        ·rw [TR.run] at h3;cases h3
    have hW:=afI s N ops d o;have viaRef:∀(k:Nat) (b':Bool),(d.c s N).get k=eG b'->pG P iV q N base ops draw (VK N (CO d k b') s b K) (i::is.map (·.1)) ((CO d k b').c s N) log->pG P iV q N base ops draw (VK N d s b K) (i::is.map (·.1)) (d.c s N) log:=fun k b' hk hr=>by
     refine acQ (P9 hk) (zN (fun sl => ?_) hr);rintro ⟨τ,g,s',d',F',h1,h2,h3,h4⟩;refine ⟨τ,g,s',d',F',h1,?_,h3,h4⟩;have h0:Grow d (fun s=>s) (CO d k b'):=⟨⟨[(k,.val (.bool b'))],by rw [Ei];rfl⟩,⟨[],by rw [Ej];rfl⟩⟩
     exact h0.trans h2
    have wantRef:∀(k:Nat) (b':Bool),(d.c s N).get k=eG b'->sW ops ((CO d k b').c s N) o=sW ops (d.c s N) o:=fun k b' hk=>by
     rw [<-NR,<-NR,P9 hk]
    unfold brW at h;split at h
    ·rename_i hw;rw [hw] at hW;exact hgo d hW h
    ·rename_i hw;rw [hw] at hW;exact hskip d hW h
    ·rename_i k f hw;rw [hw] at hW;rw [TR.run] at h;obtain ⟨hW,hk⟩:=hW;cases hf:f s with
     | true=>rw [hf] at h hW hk;exact viaRef k true hk (hgo _ (by rw [wantRef k true hk];exact hW) h)
     | false=>rw [hf] at h hW hk;exact viaRef k false hk (hskip _ (by rw [wantRef k false hk];exact hW) h)
    ·rename_i k f hw;rw [hw] at hW;rw [TR.run] at h;obtain ⟨hW,hk⟩:=hW;cases hf:f s with
     | true=>rw [hf] at h hW hk;exact viaRef k true hk (hskip _ (by rw [wantRef k true hk];exact hW) h)
     | false=>rw [hf] at h hW hk;exact viaRef k false hk (hgo _ (by rw [wantRef k false hk];exact hW) h)
    ·rw [TR.run] at h;cases h
end
def pr:U->U->U
 | .unit,b=>b
 | .int k,.unit => .int k
 | .bool,.unit => .bool
 | .str,.unit => .str
 | .list t,.unit => .list t
 | .pair a b,.unit => .pair a b
 | a,b => .pair a b
def wM:(a b:U)->a.T->b.T->(pr a b).T
 | .unit,_,_,y=>y
 | .int _,.unit,x,_=>x
 | .bool,.unit,x,_=>x
 | .str,.unit,x,_=>x
 | .list _,.unit,x,_=>x
 | .pair _ _,.unit,x,_=>x
 | .int _,.int _,x,y=>(x,y)
 | .int _,.bool,x,y=>(x,y)
 | .int _,.str,x,y=>(x,y)
 | .int _,.list _,x,y=>(x,y)
 | .int _,.pair _ _,x,y=>(x,y)
 | .bool,.int _,x,y=>(x,y)
 | .bool,.bool,x,y=>(x,y)
 | .bool,.str,x,y=>(x,y)
 | .bool,.list _,x,y=>(x,y)
 | .bool,.pair _ _,x,y=>(x,y)
 | .str,.int _,x,y=>(x,y)
 | .str,.bool,x,y=>(x,y)
 | .str,.str,x,y=>(x,y)
 | .str,.list _,x,y=>(x,y)
 | .str,.pair _ _,x,y=>(x,y)
 | .list _,.int _,x,y=>(x,y)
 | .list _,.bool,x,y=>(x,y)
 | .list _,.str,x,y=>(x,y)
 | .list _,.list _,x,y=>(x,y)
 | .list _,.pair _ _,x,y=>(x,y)
 | .pair _ _,.int _,x,y=>(x,y)
 | .pair _ _,.bool,x,y=>(x,y)
 | .pair _ _,.str,x,y=>(x,y)
 | .pair _ _,.list _,x,y=>(x,y)
 | .pair _ _,.pair _ _,x,y=>(x,y)
def jE:(a b:U)->(pr a b).T->a.T
 | .unit,_,_=>()
 | .int _,.unit,x=>x
 | .bool,.unit,x=>x
 | .str,.unit,x=>x
 | .list _,.unit,x=>x
 | .pair _ _,.unit,x=>x
 | .int _,.int _,p=>p.1
 | .int _,.bool,p=>p.1
 | .int _,.str,p=>p.1
 | .int _,.list _,p=>p.1
 | .int _,.pair _ _,p=>p.1
 | .bool,.int _,p=>p.1
 | .bool,.bool,p=>p.1
 | .bool,.str,p=>p.1
 | .bool,.list _,p=>p.1
 | .bool,.pair _ _,p=>p.1
 | .str,.int _,p=>p.1
 | .str,.bool,p=>p.1
 | .str,.str,p=>p.1
 | .str,.list _,p=>p.1
 | .str,.pair _ _,p=>p.1
 | .list _,.int _,p=>p.1
 | .list _,.bool,p=>p.1
 | .list _,.str,p=>p.1
 | .list _,.list _,p=>p.1
 | .list _,.pair _ _,p=>p.1
 | .pair _ _,.int _,p=>p.1
 | .pair _ _,.bool,p=>p.1
 | .pair _ _,.str,p=>p.1
 | .pair _ _,.list _,p=>p.1
 | .pair _ _,.pair _ _,p=>p.1
def kP:(a b:U)->(pr a b).T->b.T
 | .unit,_,y=>y
 | .int _,.unit,_=>()
 | .bool,.unit,_=>()
 | .str,.unit,_=>()
 | .list _,.unit,_=>()
 | .pair _ _,.unit,_=>()
 | .int _,.int _,p=>p.2
 | .int _,.bool,p=>p.2
 | .int _,.str,p=>p.2
 | .int _,.list _,p=>p.2
 | .int _,.pair _ _,p=>p.2
 | .bool,.int _,p=>p.2
 | .bool,.bool,p=>p.2
 | .bool,.str,p=>p.2
 | .bool,.list _,p=>p.2
 | .bool,.pair _ _,p=>p.2
 | .str,.int _,p=>p.2
 | .str,.bool,p=>p.2
 | .str,.str,p=>p.2
 | .str,.list _,p=>p.2
 | .str,.pair _ _,p=>p.2
 | .list _,.int _,p=>p.2
 | .list _,.bool,p=>p.2
 | .list _,.str,p=>p.2
 | .list _,.list _,p=>p.2
 | .list _,.pair _ _,p=>p.2
 | .pair _ _,.int _,p=>p.2
 | .pair _ _,.bool,p=>p.2
 | .pair _ _,.str,p=>p.2
 | .pair _ _,.list _,p=>p.2
 | .pair _ _,.pair _ _,p=>p.2
theorem jZ (a b:U) (x:a.T) (y:b.T):jE a b (wM a b x y)=x:=by cases a<;>cases b<;>rfl
theorem kT (a b:U) (x:a.T) (y:b.T):kP a b (wM a b x y)=y:=by cases a<;>cases b<;>rfl
inductive CS where
 | dat (u:U) | own (r e:Nat) (u:U) | nil | np | pt (r off:Nat) | cl (f:Nat) (caps:List (Nat×Nat))
inductive IT where
 | tmp (t:Nat) (agg:Bool) (cs:List CS)
 | mix (r:Nat) (cs:List CS)
 | row (r e:Nat) (u:U)
 | arr (r:Nat) (u:U)
 | mp (r:Nat)
 | drop (t:Nat)
 | dead (r:Nat)
def uC:CS->U
 | .dat u=>u
 | .own _ _ u => .list u
 | _ => .unit
def jm:List CS->U
 | [] => .unit
 | c::cs=>pr (uC c) (jm cs)
def uI:IT->U
 | .tmp _ _ cs=>jm cs
 | .mix _ cs=>jm cs
 | .row _ _ u => .list u
 | .arr _ u => .list u
 | .mp _ => .list .str
 | _ => .unit
def dF:List IT->U
 | [] => .unit
 | i::l=>pr (uI i) (dF l)
section
variable {σ:Type}
def CP (ρ:Nat->Nat):List (Nat×Nat)->List (SV σ)
 | []=>[]
 | (r,off)::l => .ptr (ρ r) off::CP ρ l
def eqN (a b:Option Nat):Bool:=match a,b with
 | some x,some y=>decide (x=y)
 | none,none=>true
 | _,_=>false
def Kq (θ:Nat->Option Nat):List (Nat×Nat)->List (SV σ)->Bool
 | [],[]=>true
 | (r,off)::l,.ptr r1 off1::vs=>(eqN (θ r) (some r1)&&decide (off=off1))&&Kq θ l vs
 | _,_=>false
def acR:(c:CS)->(σ->(uC c).T)->SV σ
 | .dat (.int k),f => .int k f
 | .dat .bool,f => .bool f
 | .dat .str,f => .str f
 | .dat (.list t),f => .lst t f
 | .dat _,_ => .junk
 | .own r _ u,f => .sl r (fH u) none (fun s=>(f s).length) .unk
 | .nil,_ => .val (.slice none 0 0)
 | .np,_ => .val (.pointer none)
 | .pt r off,_ => .ptr r off
 | .cl f caps,_ => .clo f (CP (fun r=>r) caps)
def anb:(c:CS)->(σ->(uC c).T)->List (Nat×SO σ)
 | .own r e u,f=>[(r,.data e u f true)]
 | _,_=>[]
def H6:(cs:List CS)->(σ->(jm cs).T)->List (SV σ)
 | [],_=>[]
 | c::cs,f=>acR c (fun s=>jE (uC c) (jm cs) (f s))::H6 cs (fun s=>kP (uC c) (jm cs) (f s))
def Oi:(cs:List CS)->(σ->(jm cs).T)->List (Nat×SO σ)
 | [],_=>[]
 | c::cs,f=>anb c (fun s=>jE (uC c) (jm cs) (f s))++Oi cs (fun s=>kP (uC c) (jm cs) (f s))
def one1:List (SV σ)->SV σ
 | [v]=>v
 | _ => .junk
def aif:(i:IT)->(σ->(uI i).T)->List (Nat×SV σ)
 | .tmp t true cs,f=>[(t,.agg (H6 cs f))]
 | .tmp t false cs,f=>[(t,one1 (H6 cs f))]
 | .drop t,_=>[(t,.junk)]
 | _,_=>[]
def aii:(i:IT)->(σ->(uI i).T)->List (Nat×SO σ)
 | .tmp _ _ cs,f=>Oi cs f
 | .mix r cs,f=>(r,.mix (H6 cs f))::Oi cs f
 | .row r e u,f=>[(r,.data e u f true)]
 | .arr r u,f=>[(r,.arr u f)]
 | .mp r,f=>[(r,.mp f)]
 | .dead r,_=>[(r,.dead)]
 | _,_=>[]
def oH:(l:List IT)->(σ->(dF l).T)->List (Nat×SV σ)
 | [],_=>[]
 | i::l,f=>aif i (fun s=>jE (uI i) (dF l) (f s))++oH l (fun s=>kP (uI i) (dF l) (f s))
def jd:(l:List IT)->(σ->(dF l).T)->List (Nat×SO σ)
 | [],_=>[]
 | i::l,f=>aii i (fun s=>jE (uI i) (dF l) (f s))++jd l (fun s=>kP (uI i) (dF l) (f s))
def headD (d:SS σ) (its:List IT):SS (σ×(dF its).T):=⟨oH its Prod.snd++nT Prod.fst d.tm,jd its Prod.snd++jR Prod.fst d.hp⟩
def acS:U->Bool
 | .int _=>true
 | .bool=>true
 | .str=>true
 | .list _=>true
 | _=>false
def Qb (rd:Nat->Option (SO σ)):(c:CS)->SV σ->Option (PK σ (uC c).T)
 | .dat u,v=>match acS u with | true=>IL rd u [v] | false=>none
 | .own _ e u,v=>match v with
   | .val (.slice none 0 0)=>some ⟨fun _=>[],[],[]⟩
   | .sl r z none n .unk=>match rd r with
     | some (.data e' u' f true)=>match UE u' u,decide (e'=e/\z=fH u') with
       | some ⟨h⟩,true=>some ⟨iF h fun s=>(f s).take (n s),[fun s=>decide (n s<=(f s).length)],[]⟩
       | _,_=>none
     | _=>none
   | _=>none
 | .nil,v=>match v with | .val (.slice none 0 0)=>some ⟨fun _=>(),[],[]⟩ | _=>none
 | .np,v=>match v with | .val (.pointer none)=>some ⟨fun _=>(),[],[]⟩ | _=>none
 | .pt r off,v=>match v with | .ptr r' off'=>(match decide (r=r'/\off=off') with | true=>some ⟨fun _=>(),[],[]⟩ | false=>none) | _=>none
 | .cl f caps,v=>match v with | .clo f' vs=>(match decide (f=f')&&Kq some caps vs with | true=>some ⟨fun _=>(),[],[]⟩ | false=>none) | _=>none
def thC:CS->SV σ->List (Nat×Option Nat)
 | .own r _ _,.sl r1 _ _ _ _=>[(r,some r1)]
 | .own r _ _,_=>[(r,none)]
 | _,_=>[]
def IU (rd:Nat->Option (SO σ)):(cs:List CS)->List (SV σ)->Option (PK σ (jm cs).T)
 | [],[]=>some ⟨fun _=>(),[],[]⟩
 | c::cs,v::vs=>match Qb rd c v,IU rd cs vs with
   | some x,some y=>some ⟨fun s=>wM (uC c) (jm cs) (x.f s) (y.f s),x.cs++y.cs,x.fz++y.fz⟩
   | _,_=>none
 | _,_=>none
def VN:List CS->List (SV σ)->List (Nat×Option Nat)
 | c::cs,v::vs=>thC c v++VN cs vs
 | _,_=>[]
def pkI (d:SS σ):(i:IT)->Option (PK σ (uI i).T)
 | .tmp t agg cs=>match jH t d.tm with
   | none=>none
   | some v=>match agg with
     | false=>IU (kS d) cs [v]
     | true=>match v with | .agg vs=>IU (kS d) cs vs | _=>none
 | .mix r cs=>match kS d r with | some (.mix vs)=>IU (kS d) cs vs | _=>none
 | .row r e u=>match kS d r with
   | some (.data e' u' f true)=>match UE u' u,decide (e'=e) with | some ⟨h⟩,true=>some ⟨iF h f,[],[]⟩ | _,_=>none
   | _=>none
 | .arr r u=>match kS d r with
   | some (.arr u' f)=>match UE u' u with | some ⟨h⟩=>some ⟨iF h f,[],[]⟩ | none=>none
   | _=>none
 | .mp r=>match kS d r with
   | some (.mp f)=>some ⟨f,[],[]⟩
   | _=>none
 | .drop _=>some ⟨fun _=>(),[],[]⟩
 | .dead _=>some ⟨fun _=>(),[],[]⟩
def thI (d:SS σ):IT->List (Nat×Option Nat)
 | .tmp t agg cs=>match jH t d.tm with
   | none=>[]
   | some v=>match agg with
     | false=>VN cs [v]
     | true=>match v with | .agg vs=>VN cs vs | _=>[]
 | .mix r cs=>match kS d r with | some (.mix vs)=>VN cs vs | _=>[]
 | _=>[]
def afO (d:SS σ):(l:List IT)->Option (PK σ (dF l).T)
 | []=>some ⟨fun _=>(),[],[]⟩
 | i::l=>match pkI d i,afO d l with
   | some x,some y=>some ⟨fun s=>wM (uI i) (dF l) (x.f s) (y.f s),x.cs++y.cs,x.fz++y.fz⟩
   | _,_=>none
def wE (d:SS σ):List IT->List (Nat×Option Nat)
 | []=>[]
 | i::l=>thI d i++wE d l
def qp:List IT->List Nat
 | []=>[]
 | .tmp t _ _::l=>t::qp l
 | .drop t::l=>t::qp l
 | _::l=>qp l
def kW:List IT->List Nat
 | []=>[]
 | .mix r _::l=>r::kW l
 | .row r _ _::l=>r::kW l
 | .arr r _::l=>r::kW l
 | .mp r::l=>r::kW l
 | .dead r::l=>r::kW l
 | _::l=>kW l
def jy:List (Nat×Option Nat)->List Nat
 | []=>[]
 | (r,_)::l=>r::jy l
def nodupB:List Nat->Bool
 | []=>true
 | r::l => !kN r l&&nodupB l
def Tf (o:Option (SO σ)):Bool :=
 match o with
 | none=>true
 | some .dead=>true
 | some (.data _ _ _ false)=>true
 | _=>false
def okN {σ':Type} (keys:List Nat) (dh:SS σ') (r:Nat):Bool := !kN r keys && !iP (kS dh) r
def VO {σ':Type} (keys:List Nat) (dh:SS σ') (l:List Nat):Bool:=l.all (okN keys dh)
def ZX {σ':Type} (keys:List Nat) (dh:SS σ'):List Nat->List (Nat×SV σ)->Bool
 | _,[]=>true
 | skip,(t,v)::l=>match kN t skip with
   | true=>ZX keys dh skip l
   | false=>VO keys dh v.refs&&ZX keys dh (t::skip) l
def Kr:SO σ->List Nat
 | .mix cs=>sV cs
 | _=>[]
def ZY {σ':Type} (keys:List Nat) (dh:SS σ'):List Nat->List (Nat×SO σ)->Bool
 | _,[]=>true
 | skip,(r,o)::l=>match kN r skip with
   | true=>ZY keys dh skip l
   | false=>(!kN r keys&&VO keys dh (Kr o))&&ZY keys dh (r::skip) l
def fK:List CS->List Nat
 | []=>[]
 | .pt r _::l=>r::fK l
 | .cl _ caps::l=>caps.map (·.1)++fK l
 | _::l=>fK l
def dX:List IT->List Nat
 | []=>[]
 | .tmp _ _ cs::l=>fK cs++dX l
 | .mix _ cs::l=>fK cs++dX l
 | _::l=>dX l
def Kt {σ':Type} (keys:List Nat) (dh:SS σ'):List (Nat×Option Nat)->Bool
 | []=>true
 | (_,none)::l=>Kt keys dh l
 | (r,some x)::l=>((kN x keys||Tf (kS dh x))&&l.all fun y=>match y.2 with | some z => !decide (x=z) | none=>true)&&Kt keys dh l
def Qd {σ':Type} (th:List (Nat×Option Nat)) (dh:SS σ') (x:Nat):Bool :=
 (th.all fun y=>match y.2 with | some z => !decide (x=z) | none=>true)&&(kN x (jy th)||Tf (kS dh x))
def aij {τ:Type} (d:SS σ) (its:List IT) (d':SS τ) (fz:List (Nat×SO τ)):Bool :=
 ((((d'.tm.take (d'.tm.length-d.tm.length)).all fun x=>kN x.1 (qp its)||(match jH x.1 d.tm with | none=>true | some _=>false)) &&
  ((d'.hp.take (d'.hp.length-d.hp.length)).all fun x=>kN x.1 (kW its)||iP (kS d) x.1)) &&
 ((nodupB (jy (wE d' its))&&(jy (wE d' its)).all fun r=>iP (kS d) r && !kN r (kW its)) &&
  (Kt (jy (wE d' its)) (headD d its) (wE d' its)&&fz.all fun x=>Qd (wE d' its) (headD d its) x.1))) &&
 ((ZX (jy (wE d' its)) (headD d its) (qp its) d.tm&&ZY (jy (wE d' its)) (headD d its) (kW its) d.hp) &&
  (VO (jy (wE d' its)) (headD d its) (dX its)&&(nodupB (kW its)&&(kW its).all fun r => !iP (kS d) r)))
end
def FW:List (Nat×Nat)->List AV
 | []=>[]
 | (r,off)::l => .ptr r off::FW l
def aC:(c:CS)->(uC c).T->AV
 | .dat (.int k),n=>dZ k n
 | .dat .bool,b=>eG b
 | .dat .str,l => .d (.val (.string ⟨l.toArray⟩))
 | .dat (.list t),l => .d (.dl (aU t l) l.length none)
 | .dat _,_ => .junk
 | .own r _ u,l => .sl r 0 l.length none
 | .nil,_ => .d (.val (.slice none 0 0))
 | .np,_ => .d (.val (.pointer none))
 | .pt r off,_ => .ptr r off
 | .cl f caps,_ => .clo f (FW caps)
def oC:(c:CS)->(uC c).T->List (Nat×AO)
 | .own r e u,l=>[(r,.data e (fH u) (aU u l) true)]
 | _,_=>[]
def oV:(cs:List CS)->(jm cs).T->List AV
 | [],_=>[]
 | c::cs,x=>aC c (jE (uC c) (jm cs) x)::oV cs (kP (uC c) (jm cs) x)
def Qe:(cs:List CS)->(jm cs).T->List (Nat×AO)
 | [],_=>[]
 | c::cs,x=>oC c (jE (uC c) (jm cs) x)++Qe cs (kP (uC c) (jm cs) x)
def nV:List AV->AV
 | [v]=>v
 | _ => .junk
def aT:(i:IT)->(uI i).T->List (Nat×AV)
 | .tmp t true cs,x=>[(t,.agg (oV cs x))]
 | .tmp t false cs,x=>[(t,nV (oV cs x))]
 | .drop t,_=>[(t,.junk)]
 | _,_=>[]
def aH:(i:IT)->(uI i).T->List (Nat×AO)
 | .tmp _ _ cs,x=>Qe cs x
 | .mix r cs,x=>(r,.mix (oV cs x))::Qe cs x
 | .row r e u,l=>[(r,.data e (fH u) (aU u l) true)]
 | .arr r u,l=>[(r,.mix ((aU u l).map .d))]
 | .mp r,l=>[(r,.mp l)]
 | .dead r,_=>[(r,.dead)]
 | _,_=>[]
def lT:(l:List IT)->(dF l).T->List (Nat×AV)
 | [],_=>[]
 | i::l,x=>aT i (jE (uI i) (dF l) x)++lT l (kP (uI i) (dF l) x)
def ou:(l:List IT)->(dF l).T->List (Nat×AO)
 | [],_=>[]
 | i::l,x=>aH i (jE (uI i) (dF l) x)++ou l (kP (uI i) (dF l) x)
section
variable {σ:Type} (s:σ)
theorem aqt (k:IntKind) (f:σ->Int):(SV.int k f).c s=dZ k (f s):=by rw [SV.c]
theorem ane (f:σ->Bool):(SV.bool f).c s=eG (f s):=by rw [SV.c]
theorem cStr (f:σ->List UInt8):(SV.str f).c s = .d (.val (.string ⟨(f s).toArray⟩)):=by rw [SV.c]
theorem aqu (t:U) (f:σ->List t.T):(SV.lst t f).c s = .d (.dl (aU t (f s)) (f s).length none):=by rw [SV.c]
theorem Ti:(SV.junk:SV σ).c s = .junk:=by rw [SV.c]
theorem afP (r z:Nat) (n:σ->Nat):(SV.sl r z none n .unk).c s = .sl r 0 (n s) none:=by rw [SV.c];simp only [wz,Nat.zero_mul,rW]
theorem cVal (v:Value):(SV.val v:SV σ).c s = .d (.val v):=by rw [SV.c]
theorem anf (r off:Nat):(SV.ptr r off:SV σ).c s = .ptr r off:=by rw [SV.c]
theorem ajy (caps:List (Nat×Nat)):cL s (CP (fun r=>r) caps:List (SV σ))=FW caps:=by
 induction caps with
 | nil=>rfl
 | cons x l ih=>obtain ⟨r,off⟩:=x;rw [CP,cL,ih,SV.c,FW]
theorem aqv (t:Nat) (l:List (SV σ)):cT s [(t,SV.agg l)]=[(t,.agg (cL s l))]:=by rw [cT,cT,SV.c]
theorem nM:∀(c:CS) (f:σ->(uC c).T),(acR c f).c s=aC c (f s)
 | .dat (.int k),f=>aqt s k f
 | .dat .bool,f=>ane s f
 | .dat .str,f=>cStr s f
 | .dat (.list t),f=>aqu s t f
 | .dat (.pair a b),f=>Ti s
 | .dat .unit,f=>Ti s
 | .own r e u,f=>afP s r (fH u) _
 | .nil,f=>cVal s _
 | .np,f=>cVal s _
 | .pt r off,f=>anf s _ _
 | .cl f caps,_=>by show (SV.clo f (CP (fun r=>r) caps)).c s=_;rw [SV.c,ajy];rfl
theorem ajz:∀(c:CS) (f:σ->(uC c).T),cO s (anb c f)=oC c (f s)
 | .own r e u,f=>rfl
 | .dat _,f=>rfl
 | .nil,f=>rfl
 | .np,f=>rfl
 | .pt _ _,f=>rfl
 | .cl _ _,f=>rfl
theorem I9:∀(cs:List CS) (f:σ->(jm cs).T),cL s (H6 cs f)=oV cs (f s)
 | [],_=>rfl
 | c::cs,f=>by rw [H6,cL,nM,I9 cs];rfl
theorem Qg:∀(cs:List CS) (f:σ->(jm cs).T),cO s (Oi cs f)=Qe cs (f s)
 | [],_=>rfl
 | c::cs,f=>by rw [Oi,dP,ajz,Qg cs];rfl
theorem acT (l:List (SV σ)):(one1 l).c s=nV (cL s l):=by
 cases l with
 | nil=>exact Ti s
 | cons v l=>cases l with
   | nil=>rfl
   | cons w l=>exact Ti s
theorem afQ:∀(i:IT) (f:σ->(uI i).T),cT s (aif i f)=aT i (f s)
 | .tmp t true cs,f=>(aqv s t (H6 cs f)).trans (congrArg (fun l=>[(t,AV.agg l)]) (I9 s cs f))
 | .tmp t false cs,f=>(congrArg (fun v=>[(t,v)]) (acT s (H6 cs f))).trans (congrArg (fun l=>[(t,nV l)]) (I9 s cs f))
 | .drop t,f=>congrArg (fun v=>[(t,v)]) (Ti s)
 | .mix _ _,f=>rfl
 | .row _ _ _,f=>rfl
 | .arr _ _,f=>rfl
 | .mp _,f=>rfl
 | .dead _,f=>rfl
theorem afR:∀(i:IT) (f:σ->(uI i).T),cO s (aii i f)=aH i (f s)
 | .tmp t a cs,f=>Qg s cs f
 | .mix r cs,f=>(congrArg (fun l=>(r,AO.mix l)::cO s (Oi cs f)) (I9 s cs f)).trans (congrArg (fun l=>(r,AO.mix (oV cs (f s)))::l) (Qg s cs f))
 | .row _ _ _,f=>rfl
 | .arr _ _,f=>rfl
 | .mp _,f=>rfl
 | .dead _,f=>rfl
 | .drop _,f=>rfl
theorem uS:∀(l:List IT) (f:σ->(dF l).T),cT s (oH l f)=lT l (f s)
 | [],_=>rfl
 | i::l,f=>by rw [oH,xg,afQ,uS l];rfl
theorem zO:∀(l:List IT) (f:σ->(dF l).T),cO s (jd l f)=ou l (f s)
 | [],_=>rfl
 | i::l,f=>by rw [jd,dP,afR,zO l];rfl
end
section
variable {θ:Nat->Option Nat} {hp1 hp2:Nat->Option AO}
mutual
theorem CQ:∀(x:AV),(∀r∈x.refs,θ r=some r/\(hp2 r).isSome=true)->gU θ hp1 hp2 x x
 | .d x,_=>by rw [gU];exact ⟨x,.inl rfl,.inl rfl⟩
 | .ptr r off,h=>by rw [gU];have:=h r (by simp [AV.refs]);exact ⟨r,this.1,this.2,rfl⟩
 | .sl r off n c,h=>by rw [gU];have:=h r (by simp [AV.refs]);exact ⟨this.2,.inl ⟨r,this.1,rfl⟩⟩
 | .dptr cells off,_=>by rw [gU]
 | .agg cs,h=>by rw [gU];exact ⟨cs,rfl,CW cs fun r hr=>h r (by rw [AV.refs];exact hr)⟩
 | .tup cs,h=>by rw [gU];exact ⟨cs,rfl,CW cs fun r hr=>h r (by rw [AV.refs];exact hr)⟩
 | .clo f cs,h=>by rw [gU];exact ⟨cs,rfl,CW cs fun r hr=>h r (by rw [AV.refs];exact hr)⟩
 | .undef,_=>by rw [gU]
 | .ab,_=>by rw [gU]
 | .junk,_=>by rw [gU];trivial
theorem CW:∀(xs:List AV),(∀r∈AV.refs.refsL xs,θ r=some r/\(hp2 r).isSome=true)->jq θ hp1 hp2 xs xs
 | [],_=>by rw [jq]
 | x::xs,h=>by
   rw [AV.refs.refsL] at h;rw [jq];exact ⟨x,xs,rfl,CQ x fun r hr=>h r (List.mem_append_left _ hr),CW xs fun r hr=>h r (List.mem_append_right _ hr)⟩
end
theorem Oj {x:DV} {y:AV} (h:y = .d x):gU θ hp1 hp2 (.d x) y:=by subst h;rw [gU];exact ⟨x,.inl rfl,.inl rfl⟩
theorem zQ {r:Nat} {o:AO} (h1:θ r=some r) (h2:hp1 r=some o) (h:∀r∈DY o,θ r=some r/\(hp2 r).isSome=true):vk θ hp1 hp2 r o:=by
 unfold vk;rw [h1];cases o with
 | data e s cs wr=>exact ⟨wr,cs,h2,.inl rfl,fun h=>h,fun h => .inl h⟩
 | mix cs=>exact ⟨cs,h2,CW cs h⟩
 | mp ks=>exact h2
 | dead=>trivial
theorem xA:∀l:List DV,AV.refs.refsL (l.map .d)=[]
 | []=>rfl
 | x::l=>by rw [List.map_cons,AV.refs.refsL,xA l,FN];rfl
end
section
variable {σ:Type} {s:σ} {θ:Nat->Option Nat} {hp2:Nat->Option AO} {rd:Nat->Option (SO σ)}
theorem ajA {t:U} {v:SV σ} {p:PK σ (List t.T)} (hp:pkL rd t v=some p) (hc:allT s p.cs) (hfz:∀x∈p.fz,rJ θ hp2 x.1):gU θ (iO s rd) hp2 (.d (.dl (aU t (p.f s)) (p.f s).length none)) (v.c s):=by
 unfold pkL at hp;split at hp
 ·split at hp
  ·rename_i hk _;subst hk;cases hp;exact Oj (by rw [SV.c];rfl)
  ·cases hp
 ·cases hp;rw [SV.c,gU];exact ⟨.dl [] 0 none,.inr (.inl ⟨rfl,.inl rfl⟩),.inl rfl⟩
 ·rename_i r z o n cap;split at hp
  ·rename_i e u f wr hr;split at hp
   ·rename_i hk _ hz;subst hk;cases hp;have hz:=of_decide_eq_true hz;have h1:=yx hc.1;rw [SV.c,gU];refine ⟨.dl (aU u (rowP o n f s)) (rowP o n f s).length none,?_,.inl rfl⟩;unfold afk;simp only [iO,hr,Option.map_some,SO.c];refine ⟨hfz _ List.mem_cons_self,none,?_,.inr rfl⟩;rw [vS,hz,jl,gG,List.length_take,List.length_drop,Nat.min_eq_left (by omega)]
   ·cases hp
  ·cases hp
 ·cases hp
theorem zS {a b:Option Nat} (h:eqN a b=true):a=b:=by
 unfold eqN at h;split at h
 ·rw [of_decide_eq_true h]
 ·rfl
 ·cases h
theorem Qh:∀(caps:List (Nat×Nat)) (vs:List (SV σ)),Kq θ caps vs=true->(∀r∈caps.map (·.1),(hp2 r).isSome=true)->jq θ (iO s rd) hp2 (FW caps) (cL s vs)
 | [],[],_,_=>by rw [cL,FW,jq]
 | (r,off)::l,.ptr r1 off1::vs,h,hr=>by
   rw [Kq,Bool.and_eq_true,Bool.and_eq_true] at h;obtain ⟨⟨h1,h2⟩,h3⟩:=h;obtain rfl:=of_decide_eq_true h2;rw [cL,FW,jq,SV.c];exact ⟨_,_,rfl,by rw [gU];exact ⟨r1,zS h1,hr r (by simp),rfl⟩,Qh l vs h3 fun x hx=>hr x (by simp at hx ⊢;exact .inr hx)⟩
 | [],_::_,h,_=>by cases h
 | (r,off)::l,[],h,_=>by cases h
 | (r,off)::l,.val _::vs,h,_=>by cases h
 | (r,off)::l,.int _ _::vs,h,_=>by cases h
 | (r,off)::l,.bool _::vs,h,_=>by cases h
 | (r,off)::l,.str _::vs,h,_=>by cases h
 | (r,off)::l,.lst _ _::vs,h,_=>by cases h
 | (r,off)::l,.ptx _ _ _ _::vs,h,_=>by cases h
 | (r,off)::l,.sl _ _ _ _ _::vs,h,_=>by cases h
 | (r,off)::l,.dpt _ _ _ _::vs,h,_=>by cases h
 | (r,off)::l,.agg _::vs,h,_=>by cases h
 | (r,off)::l,.tup _::vs,h,_=>by cases h
 | (r,off)::l,.clo _ _::vs,h,_=>by cases h
 | (r,off)::l,.undef::vs,h,_=>by cases h
 | (r,off)::l,.junk::vs,h,_=>by cases h
theorem XF:∀ {caps:List (Nat×Nat)} {vs:List (SV σ)},Kq some caps vs=true->(∀r∈caps.map (·.1),θ r=some r)->Kq θ caps vs=true
 | [],[],_,_=>rfl
 | (r,off)::l,.ptr r1 off1::vs,h,hr=>by
   rw [Kq,Bool.and_eq_true,Bool.and_eq_true] at h ⊢;obtain ⟨⟨h1,h2⟩,h3⟩:=h;refine ⟨⟨?_,h2⟩,XF h3 fun x hx=>hr x (by simp at hx ⊢;exact .inr hx)⟩;rw [hr r (by simp)];exact h1
 | [],_::_,h,_=>by cases h
 | (r,off)::l,[],h,_=>by cases h
 | (r,off)::l,.val _::vs,h,_=>by cases h
 | (r,off)::l,.int _ _::vs,h,_=>by cases h
 | (r,off)::l,.bool _::vs,h,_=>by cases h
 | (r,off)::l,.str _::vs,h,_=>by cases h
 | (r,off)::l,.lst _ _::vs,h,_=>by cases h
 | (r,off)::l,.ptx _ _ _ _::vs,h,_=>by cases h
 | (r,off)::l,.sl _ _ _ _ _::vs,h,_=>by cases h
 | (r,off)::l,.dpt _ _ _ _::vs,h,_=>by cases h
 | (r,off)::l,.agg _::vs,h,_=>by cases h
 | (r,off)::l,.tup _::vs,h,_=>by cases h
 | (r,off)::l,.clo _ _::vs,h,_=>by cases h
 | (r,off)::l,.undef::vs,h,_=>by cases h
 | (r,off)::l,.junk::vs,h,_=>by cases h
theorem Qi:∀(c:CS) (v:SV σ) (p:PK σ (uC c).T),Qb rd c v=some p->allT s p.cs->(∀x∈p.fz,rJ θ hp2 x.1)->(∀x∈thC c v,θ x.1=x.2)->(∀x∈oC c (p.f s),(hp2 x.1).isSome=true)->(∀r∈fK [c],θ r=some r/\(hp2 r).isSome=true) ->
 gU θ (iO s rd) hp2 (aC c (p.f s)) (v.c s)/\∀x∈oC c (p.f s),vk θ (iO s rd) hp2 x.1 x.2
 | .dat u,v,p,hp,hc,hfz,hth,hl,hpt=>by
   refine ⟨?_,fun x hx=>(by simp [oC] at hx)⟩;simp only [Qb] at hp;split at hp
   ·rename_i hs;cases u with
    | int k =>
      simp only [IL] at hp;split at hp
      ·rename_i k' f hf;split at hp
       ·rename_i hk _;obtain ⟨hk⟩:=hk;subst hk;cases hp;exact Oj (nU hf s)
       ·cases hp
      ·cases hp
    | bool =>
      simp only [IL] at hp;split at hp
      ·rename_i f hf;cases hp;exact Oj (zK hf s)
      ·cases hp
    | str =>
      simp only [IL] at hp;split at hp
      ·rename_i f hf;cases hp;exact Oj (sU hf s)
      ·cases hp
    | list t =>
      simp only [IL] at hp;exact ajA hp hc hfz
    | pair a b=>cases hs
    | unit=>cases hs
   ·cases hp
 | .own r e u,v,p,hp,hc,hfz,hth,hl,hpt=>by
   simp only [Qb] at hp;split at hp
   ·cases hp;have h1:=hth (r,none) (by simp [thC]);have h2:=hl (r,_) (List.mem_singleton.2 rfl);refine ⟨?_,fun x hx => ?_⟩
    ·rw [SV.c];simp only [aC,List.length_nil];rw [gU];exact ⟨h2,.inr (.inl ⟨h1,rfl,rfl,rfl,rfl⟩)⟩
    ·simp only [oC,List.mem_singleton] at hx;subst hx;unfold vk;simp only [h1];rfl
   ·rename_i r1 z n;split at hp
    ·rename_i e' u' f hr;split at hp
     ·rename_i hk _ hd;subst hk;obtain ⟨rfl,hz⟩:=of_decide_eq_true hd;cases hp;have hn:n s<=(f s).length:=of_decide_eq_true hc.1;have hn':((f s).take (n s)).length=n s:=by rw [List.length_take];omega
      have h1:=hth (r,some r1) (by simp [thC]);have h2:=hl (r,_) (List.mem_singleton.2 rfl);refine ⟨?_,fun x hx => ?_⟩
      ·rw [SV.c];simp only [aC,iF,wz,Nat.zero_mul,rW,hn'];rw [gU];exact ⟨h2,.inl ⟨r1,h1,rfl⟩⟩
      ·simp only [oC,List.mem_singleton] at hx;subst hx;unfold vk;simp only [h1];exact ⟨true,_,by simp only [iO,hr,Option.map_some,SO.c],.inr (.inr ⟨n s*fH u',(gG u' (n s) (f s)).symm⟩),fun _=>rfl,fun h=>(by cases h)⟩
     ·cases hp
    ·cases hp
   ·cases hp
 | .nil,v,p,hp,hc,hfz,hth,hl,hpt=>by
   refine ⟨?_,fun x hx=>(by simp [oC] at hx)⟩;simp only [Qb] at hp;split at hp
   ·cases hp;exact Oj (by rw [SV.c])
   ·cases hp
 | .np,v,p,hp,hc,hfz,hth,hl,hpt=>by
   refine ⟨?_,fun x hx=>(by simp [oC] at hx)⟩;simp only [Qb] at hp;split at hp
   ·cases hp;exact Oj (by rw [SV.c])
   ·cases hp
 | .pt r off,v,p,hp,hc,hfz,hth,hl,hpt=>by
   refine ⟨?_,fun x hx=>(by simp [oC] at hx)⟩;simp only [Qb] at hp;split at hp
   ·split at hp
    ·rename_i hd;obtain ⟨rfl,rfl⟩:=of_decide_eq_true hd;cases hp;have:=hpt r (by simp [fK]);rw [SV.c];exact CQ (.ptr r off) fun r' hr'=>by simp [AV.refs] at hr';subst hr';exact this
    ·cases hp
   ·cases hp
 | .cl f caps,v,p,hp,hc,hfz,hth,hl,hpt=>by
   refine ⟨?_,fun x hx=>(by simp [oC] at hx)⟩;simp only [Qb] at hp;split at hp
   ·rename_i f' vs;split at hp
    ·rename_i hd;rw [Bool.and_eq_true] at hd;obtain ⟨hd,hb⟩:=hd;obtain rfl:=of_decide_eq_true hd;cases hp;have hm:∀r∈caps.map (·.1),r∈fK [.cl f caps]:=fun r hr=>by show r∈caps.map (·.1)++[];rw [List.append_nil];exact hr
     have hb':Kq θ caps vs=true:=XF hb fun r hr=>(hpt r (hm r hr)).1;rw [SV.c];show gU θ _ hp2 (.clo f (FW caps)) _;rw [gU];exact ⟨_,rfl,Qh caps vs hb' fun r hr=>(hpt r (hm r hr)).2⟩
    ·cases hp
   ·cases hp
theorem Em:∀(cs:List CS) (vs:List (SV σ)) (p:PK σ (jm cs).T),IU rd cs vs=some p->allT s p.cs->(∀x∈p.fz,rJ θ hp2 x.1)->(∀x∈VN cs vs,θ x.1=x.2)->(∀x∈Qe cs (p.f s),(hp2 x.1).isSome=true)->(∀r∈fK cs,θ r=some r/\(hp2 r).isSome=true) ->
 jq θ (iO s rd) hp2 (oV cs (p.f s)) (cL s vs)/\∀x∈Qe cs (p.f s),vk θ (iO s rd) hp2 x.1 x.2
 | [],[],p,hp,hc,hfz,hth,hl,hpt=>by
   refine ⟨?_,fun x hx=>(by cases hx)⟩;rw [cL,show oV [] (p.f s)=[] from rfl,jq]
 | c::cs,v::vs,p,hp,hc,hfz,hth,hl,hpt=>by
   rw [IU] at hp;split at hp
   ·rename_i x y hx hy;cases hp;rw [cu] at hc;have e1:jE (uC c) (jm cs) (wM (uC c) (jm cs) (x.f s) (y.f s))=x.f s:=jZ _ _ _ _;have e2:kP (uC c) (jm cs) (wM (uC c) (jm cs) (x.f s) (y.f s))=y.f s:=kT _ _ _ _;simp only [Qe,e1,e2] at hl;have hpt1:∀r∈fK [c],θ r=some r/\(hp2 r).isSome=true:=fun r hr=>hpt r (by cases c<;>simp [fK] at hr ⊢ <;> simp [hr]);have hpt2:∀r∈fK cs,θ r=some r/\(hp2 r).isSome=true:=fun r hr=>hpt r (by cases c<;>simp [fK,hr]);obtain ⟨a1,a2⟩:=Qi c v x hx hc.1 (fun z hz=>hfz z (List.mem_append_left _ hz)) (fun z hz=>hth z (List.mem_append_left _ hz)) (fun z hz=>hl z (List.mem_append_left _ hz)) hpt1;obtain ⟨b1,b2⟩:=Em cs vs y hy hc.2 (fun z hz=>hfz z (List.mem_append_right _ hz)) (fun z hz=>hth z (List.mem_append_right _ hz)) (fun z hz=>hl z (List.mem_append_right _ hz)) hpt2;refine ⟨?_,fun z hz => ?_⟩
    ·rw [cL];simp only [oV,e1,e2];rw [jq];exact ⟨_,_,rfl,a1,b1⟩
    ·simp only [Qe,e1,e2] at hz;rcases List.mem_append.1 hz with h | h
     ·exact a2 z h
     ·exact b2 z h
   ·cases hp
 | [],_::_,p,hp,_,_,_,_,_=>by cases hp
 | _::_,[],p,hp,_,_,_,_,_=>by cases hp
end
theorem ig {r:Nat} {l:List Nat}:kN r l=true↔r∈l:=by rw [Ee,List.contains_iff_mem]
theorem mQ {r:Nat} {l:List Nat}:kN r l=false↔r∉l:=by rw [<-ig];cases kN r l<;>simp
section
variable {σ:Type} {s:σ} {θ:Nat->Option Nat} {hp2:Nat->Option AO}
theorem FY {i:IT} {l:List IT}:∀r∈dX [i],r∈dX (i::l):=fun r hr=>by
 cases i<;>simp [dX] at hr ⊢ <;> simp [hr]
theorem FZ {i:IT} {l:List IT}:∀r∈dX l,r∈dX (i::l):=fun r hr=>by
 cases i<;>simp [dX]<;>simp [hr]
theorem ajB {d:SS σ} {N:Nat}:∀(i:IT) (p:PK σ (uI i).T),pkI d i=some p->allT s p.cs->(∀x∈p.fz,rJ θ hp2 x.1)->(∀x∈thI d i,θ x.1=x.2)->(∀x∈aH i (p.f s),(hp2 x.1).isSome=true)->(∀r∈dX [i],θ r=some r/\(hp2 r).isSome=true)->(∀r∈kW [i],θ r=some r) ->
 (∀x∈aT i (p.f s),gU θ (d.c s N).rd hp2 x.2 ((d.c s N).get x.1))/\∀x∈aH i (p.f s),vk θ (d.c s N).rd hp2 x.1 x.2
 | .tmp t agg cs,p,hp,hc,hfz,hth,hl,hpt,hcv=>by
   rw [<-mG s N];have hget:∀v,jH t d.tm=some v->(d.c s N).get t=v.c s:=fun v hv=>by
    rw [jQ] at hv;unfold SL.get SS.c;simp only [pJ,hv,Option.map_some]
   have hpt':∀r∈fK cs,θ r=some r/\(hp2 r).isSome=true:=fun r hr=>hpt r (by simp [dX,hr]);simp only [pkI] at hp;simp only [thI] at hth;cases hv:jH t d.tm with
   | none=>simp only [hv] at hp;cases hp
   | some v =>
     simp only [hv] at hp hth;cases agg with
     | false =>
       simp only at hp hth;obtain ⟨a,b⟩:=Em cs [v] p hp hc hfz hth hl hpt';refine ⟨fun x hx => ?_,b⟩;have hx:x∈[(t,nV (oV cs (p.f s)))]:=hx;rw [List.mem_singleton] at hx;subst hx;show gU θ _ hp2 (nV (oV cs (p.f s))) ((d.c s N).get t);rw [hget v hv];rw [cL,cL] at a;generalize oV cs (p.f s)=ys at a ⊢;cases ys with
       | nil=>rw [jq] at a;cases a
       | cons y ys =>
         rw [jq] at a;obtain ⟨x,xs,h1,h2,h3⟩:=a;cases h1;cases ys with
         | nil=>exact h2
         | cons z zs=>rw [jq] at h3;obtain ⟨_,_,h4,_⟩:=h3;cases h4
     | true =>
       simp only at hp hth;cases v with
       | agg vs =>
         simp only at hp hth;obtain ⟨a,b⟩:=Em cs vs p hp hc hfz hth hl hpt';refine ⟨fun x hx => ?_,b⟩;have hx:x∈[(t,AV.agg (oV cs (p.f s)))]:=hx;rw [List.mem_singleton] at hx;subst hx;show gU θ _ hp2 (.agg (oV cs (p.f s))) ((d.c s N).get t);rw [hget _ hv,SV.c,gU];exact ⟨_,rfl,a⟩
       | _=>cases hp
 | .mix r cs,p,hp,hc,hfz,hth,hl,hpt,hcv=>by
   rw [<-mG s N];refine ⟨fun x hx=>(by cases hx),?_⟩;simp only [pkI] at hp;simp only [thI] at hth;cases hvs:kS d r with
   | none=>simp only [hvs] at hp;cases hp
   | some o =>
     cases o with
     | mix vs =>
       simp only [hvs] at hp hth;have hpt':∀r∈fK cs,θ r=some r/\(hp2 r).isSome=true:=fun r hr=>hpt r (by simp [dX,hr]);obtain ⟨a,b⟩:=Em cs vs p hp hc hfz hth (fun x hx=>hl x (List.mem_cons_of_mem _ hx)) hpt';intro x hx;rcases List.mem_cons.1 hx with rfl | hx
       ·unfold vk;have hr:θ r=some r:=hcv r (by simp [kW]);simp only [hr];exact ⟨_,by simp only [iO,hvs,Option.map_some,SO.c],a⟩
       ·exact b x hx
     | data e u f wr=>simp only [hvs] at hp;cases hp
     | arr u f=>simp only [hvs] at hp;cases hp
     | mp f=>simp only [hvs] at hp;cases hp
     | dead=>simp only [hvs] at hp;cases hp
 | .row r e u,p,hp,hc,hfz,hth,hl,hpt,hcv=>by
   rw [<-mG s N];refine ⟨fun x hx=>(by cases hx),?_⟩;simp only [pkI] at hp;split at hp
   ·rename_i e' u' f hr;split at hp
    ·rename_i hk _ hd;subst hk;have hd:=of_decide_eq_true hd;subst hd;cases hp;intro x hx;have hx:x∈[(r,AO.data e' (fH u') (aU u' (f s)) true)]:=hx;rw [List.mem_singleton] at hx;subst hx;exact zQ (hcv r (by simp [kW])) (by simp only [iO,hr,Option.map_some,SO.c]) (fun r hr=>(by cases hr))
    ·cases hp
   ·cases hp
 | .arr r u,p,hp,hc,hfz,hth,hl,hpt,hcv=>by
   rw [<-mG s N];refine ⟨fun x hx=>(by cases hx),?_⟩;simp only [pkI] at hp;split at hp
   ·rename_i u' f hr;split at hp
    ·rename_i hk _;subst hk;cases hp;intro x hx;have hx:x∈[(r,AO.mix ((aU u' (f s)).map .d))]:=hx;rw [List.mem_singleton] at hx;subst hx;exact zQ (hcv r (by simp [kW])) (by simp only [iO,hr,Option.map_some,SO.c]) (fun r hr=>(by simp [DY,xA] at hr))
    ·cases hp
   ·cases hp
 | .mp r,p,hp,hc,hfz,hth,hl,hpt,hcv=>by
   rw [<-mG s N];refine ⟨fun x hx=>(by cases hx),?_⟩;simp only [pkI] at hp;split at hp
   ·rename_i f hr;cases hp;intro x hx;have hx:x∈[(r,AO.mp (f s))]:=hx;rw [List.mem_singleton] at hx;subst hx;exact zQ (hcv r (by simp [kW])) (by simp only [iO,hr,Option.map_some,SO.c]) (fun r hr=>(by cases hr))
   ·cases hp
 | .drop t,p,hp,hc,hfz,hth,hl,hpt,hcv=>by
   refine ⟨fun x hx => ?_,fun x hx=>(by cases hx)⟩;have hx:x∈[(t,AV.junk)]:=hx;rw [List.mem_singleton] at hx;subst hx;rw [gU];trivial
 | .dead r,p,hp,hc,hfz,hth,hl,hpt,hcv=>by
   refine ⟨fun x hx=>(by cases hx),fun x hx => ?_⟩;have hx:x∈[(r,AO.dead)]:=hx;rw [List.mem_singleton] at hx;subst hx;unfold vk;simp only [hcv r (by simp [kW])]
theorem afS {i:IT} {l:List IT}:∀r∈kW [i],r∈kW (i::l):=fun r hr=>by
 cases i<;>simp [kW] at hr ⊢ <;> simp [hr]
theorem afT {i:IT} {l:List IT}:∀r∈kW l,r∈kW (i::l):=fun r hr=>by
 cases i<;>simp [kW]<;>simp [hr]
theorem XG {d:SS σ} {N:Nat}:∀(l:List IT) (p:PK σ (dF l).T),afO d l=some p->allT s p.cs->(∀x∈p.fz,rJ θ hp2 x.1)->(∀x∈wE d l,θ x.1=x.2)->(∀x∈ou l (p.f s),(hp2 x.1).isSome=true)->(∀r∈dX l,θ r=some r/\(hp2 r).isSome=true)->(∀r∈kW l,θ r=some r) ->
 (∀x∈lT l (p.f s),gU θ (d.c s N).rd hp2 x.2 ((d.c s N).get x.1))/\∀x∈ou l (p.f s),vk θ (d.c s N).rd hp2 x.1 x.2
 | [],p,hp,hc,hfz,hth,hl,hpt,hcv=>⟨fun x hx=>(by cases hx),fun x hx=>(by cases hx)⟩
 | i::l,p,hp,hc,hfz,hth,hl,hpt,hcv=>by
   rw [afO] at hp;split at hp
   ·rename_i x y hx hy;cases hp;rw [cu] at hc;have e1:jE (uI i) (dF l) (wM (uI i) (dF l) (x.f s) (y.f s))=x.f s:=jZ _ _ _ _;have e2:kP (uI i) (dF l) (wM (uI i) (dF l) (x.f s) (y.f s))=y.f s:=kT _ _ _ _;simp only [ou,e1,e2] at hl;obtain ⟨a1,a2⟩:=ajB (N:=N) i x hx hc.1 (fun z hz=>hfz z (List.mem_append_left _ hz)) (fun z hz=>hth z (List.mem_append_left _ hz)) (fun z hz=>hl z (List.mem_append_left _ hz)) (fun r hr=>hpt r (FY r hr)) (fun r hr=>hcv r (afS r hr));obtain ⟨b1,b2⟩:=XG (N:=N) l y hy hc.2 (fun z hz=>hfz z (List.mem_append_right _ hz)) (fun z hz=>hth z (List.mem_append_right _ hz)) (fun z hz=>hl z (List.mem_append_right _ hz)) (fun r hr=>hpt r (FZ r hr)) (fun r hr=>hcv r (afT r hr));simp only [lT,ou,e1,e2];refine ⟨fun z hz => ?_,fun z hz => ?_⟩
    ·rcases List.mem_append.1 hz with h | h
     ·exact a1 z h
     ·exact b1 z h
    ·rcases List.mem_append.1 hz with h | h
     ·exact a2 z h
     ·exact b2 z h
   ·cases hp
end
def Rh (th:List (Nat×Option Nat)) (r:Nat):Option Nat:=match look r th with | some x=>x | none=>some r
theorem Eo:∀th:List (Nat×Option Nat),jy th=th.map (·.1)
 | []=>rfl
 | (r,x)::l=>by rw [jy,Eo l];rfl
theorem afU {th:List (Nat×Option Nat)} (hn:nodupB (jy th)=true):∀x∈th,Rh th x.1=x.2:=by
 induction th with
 | nil=>intro x hx;cases hx
 | cons y l ih =>
   intro x hx;obtain ⟨k,v⟩:=y;rw [jy,nodupB,Bool.and_eq_true] at hn;have hk:k∉jy l:=by have:=hn.1;simp only [Bool.not_eq_true'] at this;exact mQ.1 this
   rcases List.mem_cons.1 hx with rfl | hx
   ·unfold Rh;rw [look,if_pos rfl]
   ·have hne:k≠x.1:=fun e=>hk (by rw [Eo,e];exact List.mem_map.2 ⟨x,hx,rfl⟩);have:=ih hn.2 x hx;unfold Rh at this ⊢;rw [look,if_neg hne];exact this
theorem lF {th:List (Nat×Option Nat)} {r:Nat} (h:r∉jy th):Rh th r=some r:=by
 unfold Rh;cases hl:look r th with
 | none=>rfl
 | some x=>exact (h (by rw [Eo];exact List.mem_map.2 ⟨_,bI hl,rfl⟩)).elim
theorem zT {th:List (Nat×Option Nat)} {r:Nat} (h:r∈jy th):∃x,(r,x)∈th/\Rh th r=x:=by
 unfold Rh;cases hl:look r th with
 | none =>
   exfalso;rw [Eo] at h;obtain ⟨y,hy,rfl⟩:=List.mem_map.1 h;have:∀l:List (Nat×Option Nat),y∈l->look y.1 l≠none:=by
    intro l
    induction l with
    | nil=>intro h;cases h
    | cons z l ih =>
      intro h;rw [look];split
      ·simp
      ·rcases List.mem_cons.1 h with rfl | h
       ·rename_i hne;exact (hne rfl).elim
       ·exact ih h
   exact this th hy hl
 | some x=>exact ⟨x,bI hl,rfl⟩
theorem VP {GL:Nat->Option (List DV)} {N:Nat} {hp0:Nat->Option AO} {s s':SL} (θ:Nat->Option Nat) (hk:∀r o,hp0 r=some o->θ r=some r/\(s'.rd r).isSome=true) (hw:MV θ s.rd s'.rd) (ht:∀t v,look t s'.tm=some v->gU θ s.rd s'.rd v (s.get t)):uG GL N hp0 s.S s'.S:=fun E0 w0 E a w he hS hA=>by
 have hp:E.hp=s.rd:=hS.hp;have hw':MV θ E.hp s'.rd:=by rw [hp];exact hw
 refine ⟨lq E θ s'.rd,⟨hS.h,rfl,qE hS.sim hw',hS.n,hS.df,fun t => ?_⟩,⟨wW hA hw' (fun r o ho=>by rw [he] at ho;exact hk r o ho),qF hw' hA.fr⟩⟩;show Rel _ (s'.get t) _;unfold SL.get;cases hl:look t s'.tm with
 | none=>simp only;rw [Rel];trivial
 | some y =>
   have:=ht _ _ hl;rw [<-hp] at this;exact uF hS.sim hw' _ _ _ this (hS.tm t)
section
variable {σ τ σ':Type}
theorem F5 {s:σ} {d:SS σ} {N r:Nat} (h:Tf (kS d r)=true) {o:AO} (ho:(d.c s N).rd r=some o):o.mutB=false:=by
 rw [<-mG] at ho;unfold iO at ho;unfold Tf at h;split at h
 ·rename_i e;rw [e] at ho;cases ho
 ·rename_i e;rw [e] at ho;cases ho;rfl
 ·rename_i e;rw [e] at ho;cases ho;rfl
 ·cases h
theorem F6 {s:σ} {d:SS σ} {N r:Nat} (h:iP (kS d) r=false):((d.c s N).rd r).isSome=true:=by
 rw [<-mG];unfold iP at h;unfold iO;split at h
 ·cases h
 ·rename_i e;rw [e];rfl
theorem CX {s:σ} {d:SS σ} {N r:Nat} (h:iP (kS d) r=true):(d.c s N).rd r=none:=by
 rw [<-mG];unfold iP at h;unfold iO;split at h
 ·rename_i e;rw [e];rfl
 ·cases h
theorem AX {keys:List Nat} {dh:SS σ'}:∀ {l:List (Nat×SV σ)} {skip:List Nat},ZX keys dh skip l=true->∀t v,t∉skip->look t l=some v->VO keys dh v.refs=true
 | [],skip,_,t,v,_,h=>by cases h
 | (k,x)::l,skip,hok,t,v,ht,h=>by
   rw [ZX] at hok;rw [look] at h;by_cases hk:k=t
   ·subst hk;rw [if_pos rfl] at h;cases h;rw [mQ.2 ht] at hok;simp only [Bool.and_eq_true] at hok;exact hok.1
   ·rw [if_neg hk] at h;cases hm:kN k skip with
    | true=>rw [hm] at hok;exact AX hok t v ht h
    | false =>
      rw [hm] at hok;simp only [Bool.and_eq_true] at hok;exact AX hok.2 t v (fun hin=>by rcases List.mem_cons.1 hin with e | e;exact hk e.symm;exact ht e) h
theorem AY {keys:List Nat} {dh:SS σ'}:∀ {l:List (Nat×SO σ)} {skip:List Nat},ZY keys dh skip l=true->∀r o,r∉skip->look r l=some o->r∉keys/\VO keys dh (Kr o)=true
 | [],skip,_,t,v,_,h=>by cases h
 | (k,x)::l,skip,hok,t,v,ht,h=>by
   rw [ZY] at hok;rw [look] at h;by_cases hk:k=t
   ·subst hk;rw [if_pos rfl] at h;cases h;rw [mQ.2 ht] at hok;simp only [Bool.and_eq_true,Bool.not_eq_true'] at hok;exact ⟨mQ.1 hok.1.1,hok.1.2⟩
   ·rw [if_neg hk] at h;cases hm:kN k skip with
    | true=>rw [hm] at hok;exact AY hok t v ht h
    | false =>
      rw [hm] at hok;simp only [Bool.and_eq_true] at hok;exact AY hok.2 t v (fun hin=>by rcases List.mem_cons.1 hin with e | e;exact hk e.symm;exact ht e) h
theorem Qj (s:σ) (o:SO σ):DY (o.c s)=Kr o:=by
 cases o with
 | mix cs=>exact yh s cs
 | arr u f=>show AV.refs.refsL ((aU u (f s)).map .d)=[];rw [xA]
 | data e t f wr=>rfl
 | mp f=>rfl
 | dead=>rfl
theorem Qk:∀(its:List IT) (x:(dF its).T) (t:Nat),t∈qp its->∃v,(t,v)∈lT its x
 | [],_,_,h=>by cases h
 | i::l,x,t,h=>by
   have tl:t∈qp l->∃v,(t,v)∈lT (i::l) x:=fun h=>by
    obtain ⟨v,hv⟩:=Qk l (kP (uI i) (dF l) x) t h;exact ⟨v,by rw [lT];exact List.mem_append_right _ hv⟩
   cases i with
   | tmp k a cs =>
     rw [qp] at h;rcases List.mem_cons.1 h with rfl | h
     ·cases a with
      | true=>exact ⟨_,by rw [lT];exact List.mem_append_left _ (List.mem_singleton.2 rfl)⟩
      | false=>exact ⟨_,by rw [lT];exact List.mem_append_left _ (List.mem_singleton.2 rfl)⟩
     ·exact tl h
   | drop k =>
     rw [qp] at h;rcases List.mem_cons.1 h with rfl | h
     ·exact ⟨_,by rw [lT];exact List.mem_append_left _ (List.mem_singleton.2 rfl)⟩
     ·exact tl h
   | mix r cs=>exact tl (by simpa [qp] using h)
   | row r e u=>exact tl (by simpa [qp] using h)
   | arr r u=>exact tl (by simpa [qp] using h)
   | mp r=>exact tl (by simpa [qp] using h)
   | dead r=>exact tl (by simpa [qp] using h)
theorem qK {α:Type} {k:Nat}:∀ {l:List (Nat×α)},k∉l.map (·.1)->look k l=none
 | [],_=>rfl
 | (i,x)::l,h=>by
   rw [List.map_cons] at h;rw [look,if_neg (fun e=>h (by rw [e];exact List.mem_cons_self))];exact qK fun hm=>h (List.mem_cons_of_mem _ hm)
theorem Ql:∀(its:List IT) (x:(dF its).T) (r:Nat),r∈kW its->∃o,(r,o)∈ou its x
 | [],_,_,h=>by cases h
 | i::l,x,t,h=>by
   have tl:t∈kW l->∃v,(t,v)∈ou (i::l) x:=fun h=>by
    obtain ⟨v,hv⟩:=Ql l (kP (uI i) (dF l) x) t h;exact ⟨v,by rw [ou];exact List.mem_append_right _ hv⟩
   cases i with
   | tmp k a cs=>exact tl (by simpa [kW] using h)
   | drop k=>exact tl (by simpa [kW] using h)
   | mix r cs =>
     rw [kW] at h;rcases List.mem_cons.1 h with rfl | h
     ·exact ⟨_,by rw [ou];exact List.mem_append_left _ List.mem_cons_self⟩
     ·exact tl h
   | row r e u =>
     rw [kW] at h;rcases List.mem_cons.1 h with rfl | h
     ·exact ⟨_,by rw [ou];exact List.mem_append_left _ (List.mem_singleton.2 rfl)⟩
     ·exact tl h
   | arr r u =>
     rw [kW] at h;rcases List.mem_cons.1 h with rfl | h
     ·exact ⟨_,by rw [ou];exact List.mem_append_left _ (List.mem_singleton.2 rfl)⟩
     ·exact tl h
   | mp r =>
     rw [kW] at h;rcases List.mem_cons.1 h with rfl | h
     ·exact ⟨_,by rw [ou];exact List.mem_append_left _ (List.mem_singleton.2 rfl)⟩
     ·exact tl h
   | dead r =>
     rw [kW] at h;rcases List.mem_cons.1 h with rfl | h
     ·exact ⟨_,by rw [ou];exact List.mem_append_left _ (List.mem_singleton.2 rfl)⟩
     ·exact tl h
end
section
variable {σ τ:Type}
def acU (d:SS σ) (its:List IT) (d':SS τ):Option (PK τ (dF its).T) :=
 match afO d' its with
 | none=>none
 | some p=>match aij d its d' p.fz with
   | true=>some p
   | false=>none
theorem uj (d:SS σ) (its:List IT):Grow d Prod.fst (headD d its):=⟨⟨_,rfl⟩,⟨_,rfl⟩⟩
theorem jT {α:Type} {k:Nat} {l:List (Nat×α)} {v:α} (h:(k,v)∈l):∃w,look k l=some w:=by
 cases hl:look k l with
 | some w=>exact ⟨w,rfl⟩
 | none=>exact (qA hl v h).elim
theorem Ku (g:τ->σ):∀l:List (Nat×SV σ),(nT g l).length=l.length
 | []=>rfl
 | (t,v)::l=>by rw [nT,List.length_cons,List.length_cons,Ku g l]
theorem Ep (g:τ->σ):∀l:List (Nat×SO σ),(jR g l).length=l.length
 | []=>rfl
 | (t,v)::l=>by rw [jR,List.length_cons,List.length_cons,Ep g l]
theorem mV {σ':Type} {keys:List Nat} {dh:SS σ'}:∀ {th:List (Nat×Option Nat)},Kt keys dh th=true->(∀r x,(r,some x)∈th->x∈keys\/Tf (kS dh x)=true)/\∀r r' x,(r,some x)∈th->(r',some x)∈th->r=r'
 | [],_=>⟨fun r x h=>(by cases h),fun r r' x h=>(by cases h)⟩
 | (k,none)::l,h=>by
   rw [Kt] at h;obtain ⟨a,b⟩:=mV h;refine ⟨fun r x hm => ?_,fun r r' x hm hm' => ?_⟩
   ·rcases List.mem_cons.1 hm with e | hm
    ·cases e
    ·exact a r x hm
   ·rcases List.mem_cons.1 hm with e | hm
    ·cases e
    ·rcases List.mem_cons.1 hm' with e | hm'
     ·cases e
     ·exact b r r' x hm hm'
 | (k,some y)::l,h=>by
   rw [Kt,Bool.and_eq_true,Bool.and_eq_true] at h;obtain ⟨⟨h1,h2⟩,h3⟩:=h;obtain ⟨a,b⟩:=mV h3;have hno:∀r x,(r,some x)∈l->y≠x:=fun r x hm=>by
    have:=List.all_eq_true.1 h2 _ hm;simpa using this
   refine ⟨fun r x hm => ?_,fun r r' x hm hm' => ?_⟩
   ·rcases List.mem_cons.1 hm with e | hm
    ·cases e;rcases (Bool.or_eq_true _ _).mp h1 with h | h
     ·exact .inl (ig.1 h)
     ·exact .inr h
    ·exact a r x hm
   ·rcases List.mem_cons.1 hm with e | hm
    ·cases e;rcases List.mem_cons.1 hm' with e | hm'
     ·cases e;rfl
     ·exact (hno _ _ hm' rfl).elim
    ·rcases List.mem_cons.1 hm' with e | hm'
     ·cases e;exact (hno _ _ hm rfl).elim
     ·exact b r r' x hm hm'
theorem Z4 {N:Nat} {d:SS σ} {its:List IT} {g:τ->σ} {d':SS τ} {p:PK τ (dF its).T} {s:τ} (hg:Grow d g d') (h:acU d its d'=some p) (hc:allT s p.cs) :
 ∃ θ:Nat->Option Nat,(∀r,(look r d.hp).isSome=true->θ r=some r/\(((headD d its).c (g s,p.f s) N).rd r).isSome=true)/\MV θ (d'.c s N).rd ((headD d its).c (g s,p.f s) N).rd /\
   ∀t v,look t ((headD d its).c (g s,p.f s) N).tm=some v->gU θ (d'.c s N).rd ((headD d its).c (g s,p.f s) N).rd v ((d'.c s N).get t):=by
 unfold acU at h;split at h
 ·cases h
 rename_i p' hp;split at h
 ·rename_i hB;cases h;unfold aij at hB;simp only [Bool.and_eq_true] at hB;obtain ⟨⟨⟨b1,b2⟩,⟨b3,b4⟩,b5,b6⟩,⟨b7,b8⟩,b9,b10,b11⟩:=hB
  -- the names
  have hkey:=afU b3;have hkd:∀r∈jy (wE d' its),look r d.hp=none/\r∉kW its:=fun r hr=>by
   have:=List.all_eq_true.1 b4 r hr;rw [Bool.and_eq_true,Bool.not_eq_true'] at this;refine ⟨?_,mQ.1 this.2⟩;have h1:=this.1;unfold iP kS at h1;rw [jQ] at h1;split at h1
   ·assumption
   ·cases h1
  have hT:((headD d its).c (g s,p.f s) N).tm=lT its (p.f s)++cT (g s) d.tm:=by
   show cT (g s,p.f s) (oH its Prod.snd++nT Prod.fst d.tm)=_;rw [xg,uS,PS]
  have hH:((headD d its).c (g s,p.f s) N).hp=ou its (p.f s)++cO (g s) d.hp:=by
   show cO (g s,p.f s) (jd its Prod.snd++jR Prod.fst d.hp)=_;rw [dP,zO,qY]
  have hHs:∀r,(∃o,(r,o)∈ou its (p.f s))->(((headD d its).c (g s,p.f s) N).rd r).isSome=true:=fun r ⟨o,ho⟩=>by
   unfold SL.rd;rw [hH,bU];obtain ⟨w,hw⟩:=jT ho;rw [hw];rfl
  have hNs:∀l,VO (jy (wE d' its)) (headD d its) l=true->∀r∈l,Rh (wE d' its) r=some r/\(((headD d its).c (g s,p.f s) N).rd r).isSome=true:=fun l hl r hr=>by
   have:=List.all_eq_true.1 hl r hr;unfold okN at this;rw [Bool.and_eq_true,Bool.not_eq_true',Bool.not_eq_true'] at this;exact ⟨lF (mQ.1 this.1),F6 this.2⟩
  -- the items
  have hcov:∀r∈kW its,Rh (wE d' its) r=some r:=fun r hr=>lF fun hk=>(hkd r hk).2 hr;have hfz:∀x∈p.fz,rJ (Rh (wE d' its)) ((headD d its).c (g s,p.f s) N).rd x.1:=fun x hx r' hr' o ho=>by
   have:=List.all_eq_true.1 b6 x hx;unfold Qd at this;rw [Bool.and_eq_true] at this;obtain ⟨f1,f2⟩:=this;by_cases hk:r'∈jy (wE d' its)
   ·obtain ⟨y,hy1,hy2⟩:=zT hk;rw [hy2] at hr';subst hr';have:=List.all_eq_true.1 f1 _ hy1;simp at this
   ·rw [lF hk] at hr';cases hr';rcases (Bool.or_eq_true _ _).mp f2 with h | h
    ·exact (hk (ig.1 h)).elim
    ·exact F5 h ho
  obtain ⟨w1,w2⟩:=XG (s:=s) (N:=N) (θ:=Rh (wE d' its)) (hp2:=((headD d its).c (g s,p.f s) N).rd) its p hp hc hfz hkey (fun x hx=>hHs x.1 ⟨x.2,hx⟩) (hNs _ b9) hcov
  -- what is kept
  obtain ⟨⟨l1,g1⟩,⟨l2,g2⟩⟩:=hg;have hl1:d'.tm.take (d'.tm.length-d.tm.length)=l1:=by rw [g1,List.length_append,Ku,Nat.add_sub_cancel,List.take_left]
  have hl2:d'.hp.take (d'.hp.length-d.hp.length)=l2:=by rw [g2,List.length_append,Ep,Nat.add_sub_cancel,List.take_left]
  rw [hl1] at b1;rw [hl2] at b2;have keptT:∀t w,t∉qp its->look t d.tm=some w->(d'.c s N).get t=w.c (g s):=fun t w ht hw=>by
   unfold SL.get SS.c;simp only [pJ,g1,bU];rw [qK (l:=l1) (fun hm => ?_)]
   ·have:look t (nT g d.tm)=some (w.map g):=by
     have:∀l:List (Nat×SV σ),look t (nT g l)=(look t l).map (SV.map g):=by
      intro l
      induction l with
      | nil=>rfl
      | cons x l ih =>
        obtain ⟨k,v⟩:=x;rw [nT,look,look];split
        ·rfl
        ·exact ih
     rw [this,hw];rfl
    simp only [this,Option.map_some,Xp]
   ·obtain ⟨x,hx,rfl⟩:=List.mem_map.1 hm;have:=List.all_eq_true.1 b1 x hx;rcases (Bool.or_eq_true _ _).mp this with h | h
    ·exact ht (ig.1 h)
    ·rw [jQ,hw] at h;cases h
  have keptH:∀r w,r∉kW its->look r d.hp=some w->(d'.c s N).rd r=some (w.c (g s)):=fun r w ht hw=>by
   unfold SL.rd SS.c;simp only [lD,g2,bU];rw [qK (l:=l2) (fun hm => ?_)]
   ·have:look r (jR g d.hp)=some (w.map g):=by
     have:∀l:List (Nat×SO σ),look r (jR g l)=(look r l).map (SO.map g):=by
      intro l
      induction l with
      | nil=>rfl
      | cons x l ih =>
        obtain ⟨k,v⟩:=x;rw [jR,look,look];split
        ·rfl
        ·exact ih
     rw [this,hw];rfl
    simp only [this,Option.map_some,PO]
   ·obtain ⟨x,hx,rfl⟩:=List.mem_map.1 hm;have:=List.all_eq_true.1 b2 x hx;rcases (Bool.or_eq_true _ _).mp this with h | h
    ·exact ht (ig.1 h)
    ·unfold iP kS at h;rw [jQ,hw] at h;cases h
  have notH:∀r,look r (ou its (p.f s))=none->r∉kW its:=fun r hn hr=>by
   obtain ⟨o,ho⟩:=Ql its (p.f s) r hr;exact qA hn o ho
  refine ⟨Rh (wE d' its),fun r hs => ?_,⟨fun r o ho => ?_,fun r' r'' o' o'' r ho' ho'' hm' hm'' ht' ht'' => ?_⟩,fun t v hv => ?_⟩
  ·refine ⟨lF fun hk => ?_,?_⟩
   ·rw [(hkd r hk).1] at hs;cases hs
   ·unfold SL.rd;rw [hH,bU];cases look r (ou its (p.f s)) with
    | some x=>rfl
    | none =>
      simp only [lD];cases hl:look r d.hp with
      | none=>rw [hl] at hs;cases hs
      | some w=>rfl
  ·unfold SL.rd at ho;rw [hH,bU] at ho;cases hl:look r (ou its (p.f s)) with
   | some x =>
     rw [hl] at ho;cases ho;exact w2 _ (bI hl)
   | none =>
     rw [hl] at ho;simp only [lD] at ho;cases hw:look r d.hp with
     | none=>rw [hw] at ho;cases ho
     | some w =>
       rw [hw] at ho;cases ho;have hnc:=notH r hl;obtain ⟨k1,k2⟩:=AY b8 r w hnc hw;exact zQ (lF k1) (keptH r w hnc hw) (fun q hq=>hNs _ k2 q (by rw [Qj] at hq;exact hq))
  ·by_cases k1:r'∈jy (wE d' its)
   ·obtain ⟨x,x1,x2⟩:=zT k1;rw [x2] at ht';subst ht';by_cases k2:r''∈jy (wE d' its)
    ·obtain ⟨y,y1,y2⟩:=zT k2;rw [y2] at ht'';subst ht'';exact (mV b5).2 _ _ _ x1 y1
    ·rw [lF k2] at ht'';cases ht'';rcases (mV b5).1 _ _ x1 with h | h
     ·exact (k2 h).elim
     ·rw [F5 h ho''] at hm'';cases hm''
   ·rw [lF k1] at ht';cases ht';by_cases k2:r''∈jy (wE d' its)
    ·obtain ⟨y,y1,y2⟩:=zT k2;rw [y2] at ht'';subst ht'';rcases (mV b5).1 _ _ y1 with h | h
     ·exact (k1 h).elim
     ·rw [F5 h ho'] at hm';cases hm'
    ·rw [lF k2] at ht'';cases ht'';rfl
  ·rw [hT,bU] at hv;cases hl:look t (lT its (p.f s)) with
   | some x =>
     rw [hl] at hv;cases hv;exact w1 _ (bI hl)
   | none =>
     rw [hl] at hv;simp only [pJ] at hv;cases hw:look t d.tm with
     | none=>rw [hw] at hv;cases hv
     | some w =>
       rw [hw] at hv;cases hv;have hnc:t∉qp its:=fun hc=>by
        obtain ⟨v,hv⟩:=Qk its (p.f s) t hc;exact qA hl v hv
       rw [keptT t w hnc hw];exact CQ _ fun r hr=>hNs _ (AX b7 t w hnc hw) r (by rw [JR] at hr;exact hr)
 ·cases h
end
theorem H7 {a b c:AO} (h:a.like b) (k:b.like c) (hb:b ≠ .dead):a.like c:=by
 cases a<;>cases b<;>cases c<;>simp_all [AO.like]
theorem vk.same {θ:Nat->Option Nat} {hp1 hp2:Nat->Option AO} {r':Nat} {o:AO} (h:vk θ hp1 hp2 r' o) (hd:o ≠ .dead) {r:Nat} (ht:θ r'=some r):∃o1,hp1 r=some o1/\o1 ≠ .dead/\o1.like o:=by
 unfold vk at h;rw [ht] at h;cases o with
 | dead=>exact (hd rfl).elim
 | data e s cs wr=>obtain ⟨wr1,cs1,h1,_⟩:=h;exact ⟨_,h1,by simp,⟨rfl,rfl⟩⟩
 | mix cs=>obtain ⟨cs1,h1,_⟩:=h;exact ⟨_,h1,by simp,trivial⟩
 | mp ks=>exact ⟨_,h,by simp,trivial⟩
theorem ang {P:Program} {GL:Nat->Option (List DV)} {f:FuncId} {argsC args:List AV} {osC os usC us:List (Nat×AO)} {vC v:AV} {θ θ':Nat->Option Nat} (h:fB P GL f argsC osC vC usC)
 (hw:MV θ (aV os) (aV osC)) (ha:jq θ (aV os) (aV osC) argsC args) (hw':MV θ' (aV usC) (aV us)) (hv:gU θ' (aV usC) (aV us) v vC)
 (hk:∀r o,look r os=some o->∃o',look r us=some o'/\∃c oc,θ' r=some c/\θ c=some r/\look c osC=some oc/\oc ≠ .dead):fB P GL f args os v us:=fun E w vs hE hwh hs hrel=>by
 have hw0:MV θ E.hp (aV osC):=by rw [hE];exact hw
 have ha0:jq θ E.hp (aV osC) argsC args:=by rw [hE];exact ha
 refine (h (lq E θ (aV osC)) w vs rfl hwh (qE hs hw0) (tY hs hw0 argsC args vs.toList ha0 hrel)).mono ?_;rintro e w' ⟨u,E2,rfl,h1,h2,h3,h4,h5,h6⟩;have hw2:MV θ' E2.hp (aV us):=by rw [h2];exact hw'
 have hv2:gU θ' E2.hp (aV us) v vC:=by rw [h2];exact hv
 refine ⟨u,lq E2 θ' (aV us),rfl,h1,rfl,qE h3 hw2,⟨rM.trans (h4.sub.trans rM),fun r o ho => ?_⟩,qF hw2 ((qF hw0 (oK.refl E w)).trans h5),uF h3 hw2 v vC u hv2 h6⟩;rw [hE] at ho;obtain ⟨o',k1,c,oc,k2,k3,k4,k5⟩:=hk r o ho;have k1':(lq E2 θ' (aV us)).hp r=some o':=k1;have hc:=hw0.ob c oc k4;obtain ⟨o1,q1,q2,q3⟩:=hc.same k5 k3;rw [hE] at q1;have:o1=o:=by have e:aV os r=some o:=ho;rw [q1] at e;cases e;rfl
 subst this;refine ⟨o',k1',?_⟩;by_cases hd:o' = .dead
 ·subst hd;exact ⟨by cases o1<;>simp_all [AO.like],.inl rfl⟩
 ·obtain ⟨o2,p1,p2,p3⟩:=(hw2.ob r o' k1').same hd k2;obtain ⟨oc',p4,p5,p6⟩:=h4.ob c oc k4;rw [p1] at p4;cases p4;refine ⟨H7 q3 (H7 p5 p3 p2) k5,.inr ?_⟩;rcases p6 with p6 | p6
  ·exact (p2 p6).elim
  ·rw [qC k2,p6,qC k3]
def nK:List (Nat×Option Nat)->Nat->Option Nat
 | [],_=>none
 | (r,x)::l,k=>match decide (r=k) with | true=>x | false=>nK l k
def BJ:List CS->List Nat
 | []=>[]
 | .own r _ _::l=>r::BJ l
 | _::l=>BJ l
def aY:List IT->List Nat
 | []=>[]
 | .tmp _ _ cs::l=>BJ cs++aY l
 | .mix r cs::l=>r::(BJ cs++aY l)
 | .row r _ _::l=>r::aY l
 | .arr r _::l=>r::aY l
 | .mp r::l=>r::aY l
 | .dead r::l=>r::aY l
 | .drop _::l=>aY l
def XH:List IT->Bool
 | []=>true
 | .dead _::_=>false
 | .drop _::_=>false
 | _::l=>XH l
section
variable {σ:Type}
def anh:List (Nat×Nat)->List (SV σ)->List (Nat×Option Nat)
 | (r,_)::l,.ptr r1 _::vs=>(r,some r1)::anh l vs
 | _,_=>[]
def cellT:CS->SV σ->List (Nat×Option Nat)
 | .own r _ _,.sl r1 _ _ _ _=>[(r,some r1)]
 | .own r _ _,_=>[(r,none)]
 | .pt r _,.ptr r1 _=>[(r,some r1)]
 | .cl _ caps,.clo _ vs=>anh caps vs
 | _,_=>[]
def Qm:List CS->List (SV σ)->List (Nat×Option Nat)
 | c::cs,v::vs=>cellT c v++Qm cs vs
 | _,_=>[]
def namesT (d:SS σ):List IT->List (Nat×Option Nat)->List (Nat×Option Nat)
 | [],acc=>acc
 | .tmp t false cs::l,acc=>match jH t d.tm with
   | some v=>namesT d l (acc++Qm cs [v])
   | none=>acc
 | .tmp t true cs::l,acc=>match jH t d.tm with
   | some (.agg vs)=>namesT d l (acc++Qm cs vs)
   | _=>acc
 | .mix r cs::l,acc=>match nK acc r with
   | some r1=>match kS d r1 with
     | some (.mix vs)=>namesT d l (acc++Qm cs vs)
     | _=>acc
   | none=>acc
 | _::l,acc=>namesT d l acc
def zU (r:Nat):Bool:=decide (41000000<=r)
def BM (θ:Nat->Option Nat) (rd:Nat->Option (SO σ)):(c:CS)->SV σ->Option (PK σ (uC c).T)
 | .pt r off,v=>match v with
   | .ptr r1 off1=>match eqN (θ r) (some r1)&&decide (off=off1) with | true=>some ⟨fun _=>(),[],[]⟩ | false=>none
   | _=>none
 | .cl f caps,v=>match v with
   | .clo f1 vs=>match decide (f=f1)&&Kq θ caps vs with | true=>some ⟨fun _=>(),[],[]⟩ | false=>none
   | _=>none
 | .dat u,v=>Qb rd (.dat u) v
 | .own r e u,v=>match v with
   | .val (.slice none 0 0)=>match θ r with | none=>some ⟨fun _=>[],[],[]⟩ | some _=>none
   | .sl r1 z none n .unk=>match eqN (θ r) (some r1) with
     | true=>match rd r1 with
       | some (.data e' u' f true)=>match UE u' u,decide (e'=e/\z=fH u') with
         | some ⟨h⟩,true=>match zU r with
           | true=>some ⟨iF h fun s=>(f s).take (n s),[fun s=>decide (n s<=(f s).length)],[]⟩
           | false=>some ⟨iF h f,[fun s=>decide (n s=(f s).length)],[]⟩
         | _,_=>none
       | _=>none
     | false=>none
   | _=>none
 | .nil,v=>Qb rd .nil v
 | .np,v=>Qb rd .np v
def H8 (θ:Nat->Option Nat) (rd:Nat->Option (SO σ)):(cs:List CS)->List (SV σ)->Option (PK σ (jm cs).T)
 | [],[]=>some ⟨fun _=>(),[],[]⟩
 | c::cs,v::vs=>match BM θ rd c v,H8 θ rd cs vs with
   | some x,some y=>some ⟨fun s=>wM (uC c) (jm cs) (x.f s) (y.f s),x.cs++y.cs,x.fz++y.fz⟩
   | _,_=>none
 | _,_=>none
def Es (θ:Nat->Option Nat) (d:SS σ):(i:IT)->Option (PK σ (uI i).T)
 | .tmp t agg cs=>match jH t d.tm with
   | none=>none
   | some v=>match agg with
     | false=>H8 θ (kS d) cs [v]
     | true=>match v with | .agg vs=>H8 θ (kS d) cs vs | _=>none
 | .mix r cs=>match θ r with
   | some r1=>match kS d r1 with | some (.mix vs)=>H8 θ (kS d) cs vs | _=>none
   | none=>none
 | .row r e u=>match θ r with
   | some r1=>match kS d r1 with
     | some (.data e' u' f true)=>match UE u' u,decide (e'=e) with | some ⟨h⟩,true=>some ⟨iF h f,[],[]⟩ | _,_=>none
     | _=>none
   | none=>none
 | .arr r u=>match θ r with
   | some r1=>match kS d r1 with
     | some (.arr u' f)=>match UE u' u with | some ⟨h⟩=>some ⟨iF h f,[],[]⟩ | none=>none
     | _=>none
   | none=>none
 | .mp r=>match θ r with
   | some r1=>match kS d r1 with
     | some (.mp f)=>some ⟨f,[],[]⟩
     | _=>none
   | none=>none
 | .drop _=>none
 | .dead _=>none
def Ol (θ:Nat->Option Nat) (d:SS σ):(l:List IT)->Option (PK σ (dF l).T)
 | []=>some ⟨fun _=>(),[],[]⟩
 | i::l=>match Es θ d i,Ol θ d l with
   | some x,some y=>some ⟨fun s=>wM (uI i) (dF l) (x.f s) (y.f s),x.cs++y.cs,x.fz++y.fz⟩
   | _,_=>none
end
section
variable {σ:Type} {s:σ} {θ:Nat->Option Nat} {hp2:Nat->Option AO} {rd:Nat->Option (SO σ)}
theorem afV:∀(c:CS) (v:SV σ) (p:PK σ (uC c).T),BM θ rd c v=some p->allT s p.cs->(∀x∈p.fz,rJ θ hp2 x.1)->(∀x∈oC c (p.f s),(hp2 x.1).isSome=true)->(∀r∈fK [c],(hp2 r).isSome=true) ->
 gU θ (iO s rd) hp2 (aC c (p.f s)) (v.c s)/\∀x∈oC c (p.f s),vk θ (iO s rd) hp2 x.1 x.2
 | .dat u,v,p,hp,hc,hfz,hl,hpt=>Qi (.dat u) v p hp hc hfz (fun x hx=>by cases v<;>cases hx) hl (fun r hr=>by cases hr)
 | .nil,v,p,hp,hc,hfz,hl,hpt=>Qi .nil v p hp hc hfz (fun x hx=>by cases v<;>cases hx) hl (fun r hr=>by cases hr)
 | .np,v,p,hp,hc,hfz,hl,hpt=>Qi .np v p hp hc hfz (fun x hx=>by cases v<;>cases hx) hl (fun r hr=>by cases hr)
 | .own r e u,v,p,hp,hc,hfz,hl,hpt=>by
   have h2:=hl (r,_) (List.mem_singleton.2 rfl);simp only [BM] at hp;split at hp
   ·split at hp
    ·rename_i h1;cases hp;refine ⟨?_,fun x hx => ?_⟩
     ·rw [SV.c];show gU θ _ hp2 (.sl r 0 ([]:List u.T).length none) _;rw [gU];exact ⟨h2,.inr (.inl ⟨h1,rfl,rfl,rfl,rfl⟩)⟩
     ·have hx:x∈[(r,AO.data e (fH u) (aU u []) true)]:=hx;rw [List.mem_singleton] at hx;subst hx;unfold vk;simp only [h1];rfl
    ·cases hp
   ·rename_i r1 z n;split at hp
    ·rename_i h1;have h1:=zS h1;split at hp
     ·rename_i e' u' f hr;split at hp
      ·rename_i hk _ hd;subst hk;obtain ⟨rfl,hz⟩:=of_decide_eq_true hd;split at hp
       ·cases hp;have hn:n s<=(f s).length:=of_decide_eq_true hc.1;have hn':((f s).take (n s)).length=n s:=by rw [List.length_take];omega
        refine ⟨?_,fun x hx => ?_⟩
        ·rw [SV.c];show gU θ _ hp2 (.sl r 0 ((f s).take (n s)).length none) _;simp only [wz,Nat.zero_mul,rW,hn'];rw [gU];exact ⟨h2,.inl ⟨r1,h1,rfl⟩⟩
        ·have hx:x∈[(r,AO.data e' (fH u') (aU u' ((f s).take (n s))) true)]:=hx;rw [List.mem_singleton] at hx;subst hx;unfold vk;simp only [h1];exact ⟨true,aU u' (f s),by simp only [iO,hr,Option.map_some,SO.c],.inr (.inr ⟨n s*fH u',(gG u' (n s) (f s)).symm⟩),fun _=>rfl,fun h=>by cases h⟩
       ·cases hp;have hn:n s=(f s).length:=of_decide_eq_true hc.1;refine ⟨?_,fun x hx => ?_⟩
        ·rw [SV.c];show gU θ _ hp2 (.sl r 0 (f s).length none) _;simp only [wz,Nat.zero_mul,rW,hn];rw [gU];exact ⟨h2,.inl ⟨r1,h1,rfl⟩⟩
        ·have hx:x∈[(r,AO.data e' (fH u') (aU u' (f s)) true)]:=hx;rw [List.mem_singleton] at hx;subst hx;unfold vk;simp only [h1];exact ⟨true,aU u' (f s),by simp only [iO,hr,Option.map_some,SO.c],.inl rfl,fun _=>rfl,fun h=>by cases h⟩
      ·cases hp
     ·cases hp
    ·cases hp
   ·cases hp
 | .pt r off,v,p,hp,hc,hfz,hl,hpt=>by
   refine ⟨?_,fun x hx=>(by simp [oC] at hx)⟩;simp only [BM] at hp;split at hp
   ·rename_i r1 off1;split at hp
    ·rename_i hd;rw [Bool.and_eq_true] at hd;obtain rfl:=of_decide_eq_true hd.2;cases hp;rw [SV.c];show gU θ _ hp2 (.ptr r off) _;rw [gU];exact ⟨r1,zS hd.1,hpt r (by simp [fK]),rfl⟩
    ·cases hp
   ·cases hp
 | .cl f caps,v,p,hp,hc,hfz,hl,hpt=>by
   refine ⟨?_,fun x hx=>(by simp [oC] at hx)⟩;simp only [BM] at hp;split at hp
   ·rename_i f' vs;split at hp
    ·rename_i hd;rw [Bool.and_eq_true] at hd;obtain ⟨hd,hb⟩:=hd;obtain rfl:=of_decide_eq_true hd;cases hp;rw [SV.c];show gU θ _ hp2 (.clo f (FW caps)) _;rw [gU];exact ⟨_,rfl,Qh caps vs hb fun r hr=>hpt r (by show r∈caps.map (·.1)++[];rw [List.append_nil];exact hr)⟩
    ·cases hp
   ·cases hp
theorem Et:∀(cs:List CS) (vs:List (SV σ)) (p:PK σ (jm cs).T),H8 θ rd cs vs=some p->allT s p.cs->(∀x∈p.fz,rJ θ hp2 x.1)->(∀x∈Qe cs (p.f s),(hp2 x.1).isSome=true)->(∀r∈fK cs,(hp2 r).isSome=true) ->
 jq θ (iO s rd) hp2 (oV cs (p.f s)) (cL s vs)/\∀x∈Qe cs (p.f s),vk θ (iO s rd) hp2 x.1 x.2
 | [],[],p,hp,hc,hfz,hl,hpt=>by
   refine ⟨?_,fun x hx=>(by cases hx)⟩;rw [cL,show oV [] (p.f s)=[] from rfl,jq]
 | c::cs,v::vs,p,hp,hc,hfz,hl,hpt=>by
   rw [H8] at hp;split at hp
   ·rename_i x y hx hy;cases hp;rw [cu] at hc;have e1:jE (uC c) (jm cs) (wM (uC c) (jm cs) (x.f s) (y.f s))=x.f s:=jZ _ _ _ _;have e2:kP (uC c) (jm cs) (wM (uC c) (jm cs) (x.f s) (y.f s))=y.f s:=kT _ _ _ _;simp only [Qe,e1,e2] at hl;have hpt1:∀r∈fK [c],(hp2 r).isSome=true:=fun r hr=>hpt r (by cases c<;>simp [fK] at hr ⊢ <;> first | exact .inl hr | simp [hr]);have hpt2:∀r∈fK cs,(hp2 r).isSome=true:=fun r hr=>hpt r (by cases c<;>simp [fK,hr]);obtain ⟨a1,a2⟩:=afV c v x hx hc.1 (fun z hz=>hfz z (List.mem_append_left _ hz)) (fun z hz=>hl z (List.mem_append_left _ hz)) hpt1;obtain ⟨b1,b2⟩:=Et cs vs y hy hc.2 (fun z hz=>hfz z (List.mem_append_right _ hz)) (fun z hz=>hl z (List.mem_append_right _ hz)) hpt2;refine ⟨?_,fun z hz => ?_⟩
    ·rw [cL];simp only [oV,e1,e2];rw [jq];exact ⟨_,_,rfl,a1,b1⟩
    ·simp only [Qe,e1,e2] at hz;rcases List.mem_append.1 hz with h | h
     ·exact a2 z h
     ·exact b2 z h
   ·cases hp
 | [],_::_,p,hp,_,_,_,_=>by cases hp
 | _::_,[],p,hp,_,_,_,_=>by cases hp
theorem A8 {d:SS σ} {N:Nat}:∀(i:IT) (p:PK σ (uI i).T),Es θ d i=some p->allT s p.cs->(∀x∈p.fz,rJ θ hp2 x.1)->(∀x∈aH i (p.f s),(hp2 x.1).isSome=true)->(∀r∈dX [i],(hp2 r).isSome=true) ->
 (∀x∈aT i (p.f s),gU θ (d.c s N).rd hp2 x.2 ((d.c s N).get x.1))/\∀x∈aH i (p.f s),vk θ (d.c s N).rd hp2 x.1 x.2
 | .tmp t agg cs,p,hp,hc,hfz,hl,hpt=>by
   rw [<-mG s N];have hget:∀v,jH t d.tm=some v->(d.c s N).get t=v.c s:=fun v hv=>by
    rw [jQ] at hv;unfold SL.get SS.c;simp only [pJ,hv,Option.map_some]
   have hpt':∀r∈fK cs,(hp2 r).isSome=true:=fun r hr=>hpt r (by simp [dX,hr]);simp only [Es] at hp;cases hv:jH t d.tm with
   | none=>simp only [hv] at hp;cases hp
   | some v =>
     simp only [hv] at hp;cases agg with
     | false =>
       simp only at hp;obtain ⟨a,b⟩:=Et cs [v] p hp hc hfz hl hpt';refine ⟨fun x hx => ?_,b⟩;have hx:x∈[(t,nV (oV cs (p.f s)))]:=hx;rw [List.mem_singleton] at hx;subst hx;show gU θ _ hp2 (nV (oV cs (p.f s))) ((d.c s N).get t);rw [hget v hv];rw [cL,cL] at a;generalize oV cs (p.f s)=ys at a ⊢;cases ys with
       | nil=>rw [jq] at a;cases a
       | cons y ys =>
         rw [jq] at a;obtain ⟨x,xs,h1,h2,h3⟩:=a;cases h1;cases ys with
         | nil=>exact h2
         | cons z zs=>rw [jq] at h3;obtain ⟨_,_,h4,_⟩:=h3;cases h4
     | true =>
       simp only at hp;cases v with
       | agg vs =>
         simp only at hp;obtain ⟨a,b⟩:=Et cs vs p hp hc hfz hl hpt';refine ⟨fun x hx => ?_,b⟩;have hx:x∈[(t,AV.agg (oV cs (p.f s)))]:=hx;rw [List.mem_singleton] at hx;subst hx;show gU θ _ hp2 (.agg (oV cs (p.f s))) ((d.c s N).get t);rw [hget _ hv,SV.c,gU];exact ⟨_,rfl,a⟩
       | _=>cases hp
 | .mix r cs,p,hp,hc,hfz,hl,hpt=>by
   rw [<-mG s N];refine ⟨fun x hx=>(by cases hx),?_⟩;simp only [Es] at hp;cases hr:θ r with
   | none=>simp only [hr] at hp;cases hp
   | some r1 =>
     simp only [hr] at hp;cases hvs:kS d r1 with
     | none=>simp only [hvs] at hp;cases hp
     | some o =>
       cases o with
       | mix vs =>
         simp only [hvs] at hp;have hpt':∀r∈fK cs,(hp2 r).isSome=true:=fun r hr=>hpt r (by simp [dX,hr]);obtain ⟨a,b⟩:=Et cs vs p hp hc hfz (fun x hx=>hl x (List.mem_cons_of_mem _ hx)) hpt';intro x hx;rcases List.mem_cons.1 hx with rfl | hx
         ·unfold vk;simp only [hr];exact ⟨_,by simp only [iO,hvs,Option.map_some,SO.c],a⟩
         ·exact b x hx
       | data e u f wr=>simp only [hvs] at hp;cases hp
       | arr u f=>simp only [hvs] at hp;cases hp
       | mp f=>simp only [hvs] at hp;cases hp
       | dead=>simp only [hvs] at hp;cases hp
 | .row r e u,p,hp,hc,hfz,hl,hpt=>by
   rw [<-mG s N];refine ⟨fun x hx=>(by cases hx),?_⟩;simp only [Es] at hp;split at hp
   ·rename_i r1 hr1;split at hp
    ·rename_i e' u' f hr;split at hp
     ·rename_i hk _ hd;subst hk;have hd:=of_decide_eq_true hd;subst hd;cases hp;intro x hx;have hx:x∈[(r,AO.data e' (fH u') (aU u' (f s)) true)]:=hx;rw [List.mem_singleton] at hx;subst hx;unfold vk;simp only [hr1];exact ⟨true,aU u' (f s),by simp only [iO,hr,Option.map_some,SO.c],.inl rfl,fun _=>rfl,fun h=>by cases h⟩
     ·cases hp
    ·cases hp
   ·cases hp
 | .arr r u,p,hp,hc,hfz,hl,hpt=>by
   rw [<-mG s N];refine ⟨fun x hx=>(by cases hx),?_⟩;simp only [Es] at hp;split at hp
   ·rename_i r1 hr1;split at hp
    ·rename_i u' f hr;split at hp
     ·rename_i hk _;subst hk;cases hp;intro x hx;have hx:x∈[(r,AO.mix ((aU u' (f s)).map .d))]:=hx;rw [List.mem_singleton] at hx;subst hx;unfold vk;simp only [hr1];exact ⟨_,by simp only [iO,hr,Option.map_some,SO.c],CW _ fun r hr=>(by rw [xA] at hr;cases hr)⟩
     ·cases hp
    ·cases hp
   ·cases hp
 | .mp r,p,hp,hc,hfz,hl,hpt=>by
   rw [<-mG s N];refine ⟨fun x hx=>(by cases hx),?_⟩;simp only [Es] at hp;split at hp
   ·rename_i r1 hr1;split at hp
    ·rename_i f hr;cases hp;intro x hx;have hx:x∈[(r,AO.mp (f s))]:=hx;rw [List.mem_singleton] at hx;subst hx;unfold vk;simp only [hr1];simp only [iO,hr,Option.map_some,SO.c]
    ·cases hp
   ·cases hp
 | .drop t,p,hp,hc,hfz,hl,hpt=>by cases hp
 | .dead r,p,hp,hc,hfz,hl,hpt=>by cases hp
theorem Tj {d:SS σ} {N:Nat}:∀(l:List IT) (p:PK σ (dF l).T),Ol θ d l=some p->allT s p.cs->(∀x∈p.fz,rJ θ hp2 x.1)->(∀x∈ou l (p.f s),(hp2 x.1).isSome=true)->(∀r∈dX l,(hp2 r).isSome=true) ->
 (∀x∈lT l (p.f s),gU θ (d.c s N).rd hp2 x.2 ((d.c s N).get x.1))/\∀x∈ou l (p.f s),vk θ (d.c s N).rd hp2 x.1 x.2
 | [],p,hp,hc,hfz,hl,hpt=>⟨fun x hx=>(by cases hx),fun x hx=>(by cases hx)⟩
 | i::l,p,hp,hc,hfz,hl,hpt=>by
   rw [Ol] at hp;split at hp
   ·rename_i x y hx hy;cases hp;rw [cu] at hc;have e1:jE (uI i) (dF l) (wM (uI i) (dF l) (x.f s) (y.f s))=x.f s:=jZ _ _ _ _;have e2:kP (uI i) (dF l) (wM (uI i) (dF l) (x.f s) (y.f s))=y.f s:=kT _ _ _ _;simp only [ou,e1,e2] at hl;obtain ⟨a1,a2⟩:=A8 (N:=N) i x hx hc.1 (fun z hz=>hfz z (List.mem_append_left _ hz)) (fun z hz=>hl z (List.mem_append_left _ hz)) (fun r hr=>hpt r (FY r hr));obtain ⟨b1,b2⟩:=Tj (N:=N) l y hy hc.2 (fun z hz=>hfz z (List.mem_append_right _ hz)) (fun z hz=>hl z (List.mem_append_right _ hz)) (fun r hr=>hpt r (FZ r hr));simp only [lT,ou,e1,e2];refine ⟨fun z hz => ?_,fun z hz => ?_⟩
    ·rcases List.mem_append.1 hz with h | h
     ·exact a1 z h
     ·exact b1 z h
    ·rcases List.mem_append.1 hz with h | h
     ·exact a2 z h
     ·exact b2 z h
   ·cases hp
end
section
variable {σ τ σ':Type}
def ani:CS->SV σ->List (Nat×Option Nat)
 | .own r _ _,.sl r1 _ _ _ _=>[(r,some r1)]
 | .own r _ _,_=>[(r,none)]
 | .pt r _,.ptr r1 _=>match decide (r=r1) with | true=>[] | false=>[(r,some r1)]
 | _,_=>[]
def acV:List (Nat×Option Nat)->List (Nat×Option Nat)->List (Nat×Option Nat)
 | acc,[]=>acc
 | acc,(r,x)::l=>match kN r (jy acc) with | true=>acV acc l | false=>acV (acc++[(r,x)]) l
def Qn:List CS->List (SV σ)->List (Nat×Option Nat)
 | c::cs,v::vs=>ani c v++Qn cs vs
 | _,_=>[]
def yA (d:SS σ):List IT->List (Nat×Option Nat)->List (Nat×Option Nat)
 | [],acc=>acc
 | .tmp t false cs::l,acc=>match jH t d.tm with
   | some v=>yA d l (acV acc (Qn cs [v]))
   | none=>yA d l acc
 | .tmp t true cs::l,acc=>match jH t d.tm with
   | some (.agg vs)=>yA d l (acV acc (Qn cs vs))
   | _=>yA d l acc
 | .mix r cs::l,acc=>match Rh acc r with
   | some r1=>match kS d r1 with
     | some (.mix vs)=>yA d l (acV acc (Qn cs vs))
     | _=>yA d l acc
   | none=>yA d l acc
 | _::l,acc=>yA d l acc
def anj (θ:Nat->Option Nat) (d:SS σ):(i:IT)->Option (PK σ (uI i).T)
 | .drop _=>some ⟨fun _=>(),[],[]⟩
 | .dead _=>some ⟨fun _=>(),[],[]⟩
 | i=>Es θ d i
def XI (θ:Nat->Option Nat) (d:SS σ):(l:List IT)->Option (PK σ (dF l).T)
 | []=>some ⟨fun _=>(),[],[]⟩
 | i::l=>match anj θ d i,XI θ d l with
   | some x,some y=>some ⟨fun s=>wM (uI i) (dF l) (x.f s) (y.f s),x.cs++y.cs,x.fz++y.fz⟩
   | _,_=>none
theorem afW {s:σ} {θ:Nat->Option Nat} {hp2:Nat->Option AO} {d:SS σ} {N:Nat} (i:IT) (p:PK σ (uI i).T) (hp:anj θ d i=some p) (hc:allT s p.cs) (hfz:∀x∈p.fz,rJ θ hp2 x.1) (hl:∀x∈aH i (p.f s),(hp2 x.1).isSome=true) (hpt:∀r∈dX [i],(hp2 r).isSome=true) :
 (∀x∈aT i (p.f s),gU θ (d.c s N).rd hp2 x.2 ((d.c s N).get x.1))/\∀x∈aH i (p.f s),vk θ (d.c s N).rd hp2 x.1 x.2:=by
 cases i with
 | drop t =>
   refine ⟨fun x hx => ?_,fun x hx=>(by cases hx)⟩;have hx:x∈[(t,AV.junk)]:=hx;rw [List.mem_singleton] at hx;subst hx;rw [gU];trivial
 | dead r =>
   refine ⟨fun x hx=>(by cases hx),fun x hx => ?_⟩;have hx:x∈[(r,AO.dead)]:=hx;rw [List.mem_singleton] at hx;subst hx;unfold vk;simp only;split<;>trivial
 | tmp t a cs=>exact A8 _ p hp hc hfz hl hpt
 | mix r cs=>exact A8 _ p hp hc hfz hl hpt
 | row r e u=>exact A8 _ p hp hc hfz hl hpt
 | arr r u=>exact A8 _ p hp hc hfz hl hpt
 | mp r=>exact A8 _ p hp hc hfz hl hpt
theorem Tn {s:σ} {θ:Nat->Option Nat} {hp2:Nat->Option AO} {d:SS σ} {N:Nat}:∀(l:List IT) (p:PK σ (dF l).T),XI θ d l=some p->allT s p.cs->(∀x∈p.fz,rJ θ hp2 x.1)->(∀x∈ou l (p.f s),(hp2 x.1).isSome=true)->(∀r∈dX l,(hp2 r).isSome=true) ->
 (∀x∈lT l (p.f s),gU θ (d.c s N).rd hp2 x.2 ((d.c s N).get x.1))/\∀x∈ou l (p.f s),vk θ (d.c s N).rd hp2 x.1 x.2
 | [],p,hp,hc,hfz,hl,hpt=>⟨fun x hx=>(by cases hx),fun x hx=>(by cases hx)⟩
 | i::l,p,hp,hc,hfz,hl,hpt=>by
   rw [XI] at hp;split at hp
   ·rename_i x y hx hy;cases hp;rw [cu] at hc;have e1:jE (uI i) (dF l) (wM (uI i) (dF l) (x.f s) (y.f s))=x.f s:=jZ _ _ _ _;have e2:kP (uI i) (dF l) (wM (uI i) (dF l) (x.f s) (y.f s))=y.f s:=kT _ _ _ _;simp only [ou,e1,e2] at hl;obtain ⟨a1,a2⟩:=afW (N:=N) i x hx hc.1 (fun z hz=>hfz z (List.mem_append_left _ hz)) (fun z hz=>hl z (List.mem_append_left _ hz)) (fun r hr=>hpt r (FY r hr));obtain ⟨b1,b2⟩:=Tn (N:=N) l y hy hc.2 (fun z hz=>hfz z (List.mem_append_right _ hz)) (fun z hz=>hl z (List.mem_append_right _ hz)) (fun r hr=>hpt r (FZ r hr));simp only [lT,ou,e1,e2];refine ⟨fun z hz => ?_,fun z hz => ?_⟩
    ·rcases List.mem_append.1 hz with h | h
     ·exact a1 z h
     ·exact b1 z h
    ·rcases List.mem_append.1 hz with h | h
     ·exact a2 z h
     ·exact b2 z h
   ·cases hp
def acW (d:SS σ) (its:List IT) (d':SS τ) (fz:List (Nat×SO τ)) (th:List (Nat×Option Nat)):Bool :=
 ((((d'.tm.take (d'.tm.length-d.tm.length)).all fun x=>kN x.1 (qp its)||(match jH x.1 d.tm with | none=>true | some _=>false)) &&
  ((d'.hp.take (d'.hp.length-d.hp.length)).all fun x=>kN x.1 (kW its)||iP (kS d) x.1)) &&
 ((nodupB (jy th)&&(jy th).all fun r=>iP (kS d) r) &&
  (Kt (jy th) (headD d its) th&&fz.all fun x=>Qd th (headD d its) x.1))) &&
 ((ZX (jy th) (headD d its) (qp its) d.tm&&ZY (jy th) (headD d its) (kW its) d.hp) &&
  ((dX its).all fun r => !iP (kS (headD d its)) r))
def VQ (d:SS σ) (its:List IT) (d':SS τ) (th:List (Nat×Option Nat)):Option (PK τ (dF its).T) :=
 match XI (Rh th) d' its with
 | none=>none
 | some p=>match acW d its d' p.fz th with
   | true=>some p
   | false=>none
def aik (d:SS σ) (its:List IT) (d':SS τ):Option (PK τ (dF its).T) :=
 match yA d' its [] with
 | th=>VQ d its d' th
def Kv (d:SS σ) (its:List IT) (d':SS τ):Option (PK τ (dF its).T) :=
 match acU d its d' with
 | some p=>some p
 | none=>aik d its d'
theorem Tq {N:Nat} {d:SS σ} {its:List IT} {g:τ->σ} {d':SS τ} {p:PK τ (dF its).T} {s:τ} {th:List (Nat×Option Nat)} (hg:Grow d g d') (h:VQ d its d' th=some p) (hc:allT s p.cs) :
 ∃ θ:Nat->Option Nat,(∀r,(look r d.hp).isSome=true->θ r=some r/\(((headD d its).c (g s,p.f s) N).rd r).isSome=true)/\MV θ (d'.c s N).rd ((headD d its).c (g s,p.f s) N).rd /\
   ∀t v,look t ((headD d its).c (g s,p.f s) N).tm=some v->gU θ (d'.c s N).rd ((headD d its).c (g s,p.f s) N).rd v ((d'.c s N).get t):=by
 unfold VQ at h;split at h
 ·cases h
 rename_i p' hp;split at h
 ·rename_i hB;cases h;unfold acW at hB;simp only [Bool.and_eq_true] at hB;obtain ⟨⟨⟨b1,b2⟩,⟨b3,b4⟩,b5,b6⟩,⟨b7,b8⟩,b9⟩:=hB;have hkd:∀r∈jy th,look r d.hp=none:=fun r hr=>by
   have h1:=List.all_eq_true.1 b4 r hr;unfold iP kS at h1;rw [jQ] at h1;split at h1
   ·assumption
   ·cases h1
  have hT:((headD d its).c (g s,p.f s) N).tm=lT its (p.f s)++cT (g s) d.tm:=by
   show cT (g s,p.f s) (oH its Prod.snd++nT Prod.fst d.tm)=_;rw [xg,uS,PS]
  have hH:((headD d its).c (g s,p.f s) N).hp=ou its (p.f s)++cO (g s) d.hp:=by
   show cO (g s,p.f s) (jd its Prod.snd++jR Prod.fst d.hp)=_;rw [dP,zO,qY]
  have hHs:∀r,(∃o,(r,o)∈ou its (p.f s))->(((headD d its).c (g s,p.f s) N).rd r).isSome=true:=fun r ⟨o,ho⟩=>by
   unfold SL.rd;rw [hH,bU];obtain ⟨w,hw⟩:=jT ho;rw [hw];rfl
  have hNs:∀l,VO (jy th) (headD d its) l=true->∀r∈l,Rh th r=some r/\(((headD d its).c (g s,p.f s) N).rd r).isSome=true:=fun l hl r hr=>by
   have:=List.all_eq_true.1 hl r hr;unfold okN at this;rw [Bool.and_eq_true,Bool.not_eq_true',Bool.not_eq_true'] at this;exact ⟨lF (mQ.1 this.1),F6 this.2⟩
  have hpt:∀r∈dX its,(((headD d its).c (g s,p.f s) N).rd r).isSome=true:=fun r hr=>by
   have:=List.all_eq_true.1 b9 r hr;rw [Bool.not_eq_true'] at this;exact F6 this
  have hfz:∀x∈p.fz,rJ (Rh th) ((headD d its).c (g s,p.f s) N).rd x.1:=fun x hx r' hr' o ho=>by
   have:=List.all_eq_true.1 b6 x hx;unfold Qd at this;rw [Bool.and_eq_true] at this;obtain ⟨f1,f2⟩:=this;by_cases hk:r'∈jy th
   ·obtain ⟨y,hy1,hy2⟩:=zT hk;rw [hy2] at hr';subst hr';have:=List.all_eq_true.1 f1 _ hy1;simp at this
   ·rw [lF hk] at hr';cases hr';rcases (Bool.or_eq_true _ _).mp f2 with h | h
    ·exact (hk (ig.1 h)).elim
    ·exact F5 h ho
  obtain ⟨w1,w2⟩:=Tn (s:=s) (N:=N) (θ:=Rh th) (hp2:=((headD d its).c (g s,p.f s) N).rd) its p hp hc hfz (fun x hx=>hHs x.1 ⟨x.2,hx⟩) hpt;obtain ⟨⟨l1,g1⟩,⟨l2,g2⟩⟩:=hg;have hl1:d'.tm.take (d'.tm.length-d.tm.length)=l1:=by rw [g1,List.length_append,Ku,Nat.add_sub_cancel,List.take_left]
  have hl2:d'.hp.take (d'.hp.length-d.hp.length)=l2:=by rw [g2,List.length_append,Ep,Nat.add_sub_cancel,List.take_left]
  rw [hl1] at b1;rw [hl2] at b2;have keptT:∀t w,t∉qp its->look t d.tm=some w->(d'.c s N).get t=w.c (g s):=fun t w ht hw=>by
   unfold SL.get SS.c;simp only [pJ,g1,bU];rw [qK (l:=l1) (fun hm => ?_)]
   ·have:look t (nT g d.tm)=some (w.map g):=by
     have:∀l:List (Nat×SV σ),look t (nT g l)=(look t l).map (SV.map g):=by
      intro l
      induction l with
      | nil=>rfl
      | cons x l ih =>
        obtain ⟨k,v⟩:=x;rw [nT,look,look];split
        ·rfl
        ·exact ih
     rw [this,hw];rfl
    simp only [this,Option.map_some,Xp]
   ·obtain ⟨x,hx,rfl⟩:=List.mem_map.1 hm;have:=List.all_eq_true.1 b1 x hx;rcases (Bool.or_eq_true _ _).mp this with h | h
    ·exact ht (ig.1 h)
    ·rw [jQ,hw] at h;cases h
  have keptH:∀r w,r∉kW its->look r d.hp=some w->(d'.c s N).rd r=some (w.c (g s)):=fun r w ht hw=>by
   unfold SL.rd SS.c;simp only [lD,g2,bU];rw [qK (l:=l2) (fun hm => ?_)]
   ·have:look r (jR g d.hp)=some (w.map g):=by
     have:∀l:List (Nat×SO σ),look r (jR g l)=(look r l).map (SO.map g):=by
      intro l
      induction l with
      | nil=>rfl
      | cons x l ih =>
        obtain ⟨k,v⟩:=x;rw [jR,look,look];split
        ·rfl
        ·exact ih
     rw [this,hw];rfl
    simp only [this,Option.map_some,PO]
   ·obtain ⟨x,hx,rfl⟩:=List.mem_map.1 hm;have:=List.all_eq_true.1 b2 x hx;rcases (Bool.or_eq_true _ _).mp this with h | h
    ·exact ht (ig.1 h)
    ·unfold iP kS at h;rw [jQ,hw] at h;cases h
  have notH:∀r,look r (ou its (p.f s))=none->r∉kW its:=fun r hn hr=>by
   obtain ⟨o,ho⟩:=Ql its (p.f s) r hr;exact qA hn o ho
  refine ⟨Rh th,fun r hs => ?_,⟨fun r o ho => ?_,fun r' r'' o' o'' r ho' ho'' hm' hm'' ht' ht'' => ?_⟩,fun t v hv => ?_⟩
  ·refine ⟨lF fun hk => ?_,?_⟩
   ·rw [hkd r hk] at hs;cases hs
   ·unfold SL.rd;rw [hH,bU];cases look r (ou its (p.f s)) with
    | some x=>rfl
    | none =>
      simp only [lD];cases hl:look r d.hp with
      | none=>rw [hl] at hs;cases hs
      | some w=>rfl
  ·unfold SL.rd at ho;rw [hH,bU] at ho;cases hl:look r (ou its (p.f s)) with
   | some x =>
     rw [hl] at ho;cases ho;exact w2 _ (bI hl)
   | none =>
     rw [hl] at ho;simp only [lD] at ho;cases hw:look r d.hp with
     | none=>rw [hw] at ho;cases ho
     | some w =>
       rw [hw] at ho;cases ho;have hnc:=notH r hl;obtain ⟨k1,k2⟩:=AY b8 r w hnc hw;exact zQ (lF k1) (keptH r w hnc hw) (fun q hq=>hNs _ k2 q (by rw [Qj] at hq;exact hq))
  ·by_cases k1:r'∈jy th
   ·obtain ⟨x,x1,x2⟩:=zT k1;rw [x2] at ht';subst ht';by_cases k2:r''∈jy th
    ·obtain ⟨y,y1,y2⟩:=zT k2;rw [y2] at ht'';subst ht'';exact (mV b5).2 _ _ _ x1 y1
    ·rw [lF k2] at ht'';cases ht'';rcases (mV b5).1 _ _ x1 with h | h
     ·exact (k2 h).elim
     ·rw [F5 h ho''] at hm'';cases hm''
   ·rw [lF k1] at ht';cases ht';by_cases k2:r''∈jy th
    ·obtain ⟨y,y1,y2⟩:=zT k2;rw [y2] at ht'';subst ht'';rcases (mV b5).1 _ _ y1 with h | h
     ·exact (k1 h).elim
     ·rw [F5 h ho'] at hm';cases hm'
    ·rw [lF k2] at ht'';cases ht'';rfl
  ·rw [hT,bU] at hv;cases hl:look t (lT its (p.f s)) with
   | some x =>
     rw [hl] at hv;cases hv;exact w1 _ (bI hl)
   | none =>
     rw [hl] at hv;simp only [pJ] at hv;cases hw:look t d.tm with
     | none=>rw [hw] at hv;cases hv
     | some w =>
       rw [hw] at hv;cases hv;have hnc:t∉qp its:=fun hc=>by
        obtain ⟨v,hv⟩:=Qk its (p.f s) t hc;exact qA hl v hv
       rw [keptT t w hnc hw];exact CQ _ fun r hr=>hNs _ (AX b7 t w hnc hw) r (by rw [JR] at hr;exact hr)
 ·cases h
theorem CY {N:Nat} {d:SS σ} {its:List IT} {g:τ->σ} {d':SS τ} {p:PK τ (dF its).T} {s:τ} (hg:Grow d g d') (h:Kv d its d'=some p) (hc:allT s p.cs) :
 ∃ θ:Nat->Option Nat,(∀r,(look r d.hp).isSome=true->θ r=some r/\(((headD d its).c (g s,p.f s) N).rd r).isSome=true)/\MV θ (d'.c s N).rd ((headD d its).c (g s,p.f s) N).rd /\
   ∀t v,look t ((headD d its).c (g s,p.f s) N).tm=some v->gU θ (d'.c s N).rd ((headD d its).c (g s,p.f s) N).rd v ((d'.c s N).get t):=by
 unfold Kv at h;split at h
 ·rename_i p' hp;cases h;exact Z4 hg hp hc
 ·unfold aik at h;exact Tq hg h hc
theorem zV {N:Nat} {hp0:Nat->Option AO} {d:SS σ} {its:List IT} {g:τ->σ} {d':SS τ} {p:PK τ (dF its).T} {s:τ} (hg:Grow d g d') (h:Kv d its d'=some p) (hc:allT s p.cs) (hks:∀r,(hp0 r).isSome=true->(look r d.hp).isSome=true) :
 uG iV N hp0 (d'.c s N).S ((headD d its).c (g s,p.f s) N).S:=by
 obtain ⟨θ,h1,h2,h3⟩:=CY (N:=N) hg h hc;exact VP θ (fun r o ho=>h1 r (hks r (by rw [ho];rfl))) h2 h3
end
section
variable {σ:Type} (ρ:Nat->Nat)
def jJ:(c:CS)->(σ->(uC c).T)->SV σ
 | .own r _ u,f => .sl (ρ r) (fH u) none (fun s=>(f s).length) .unk
 | .pt r off,_ => .ptr (ρ r) off
 | .cl f caps,_ => .clo f (CP ρ caps)
 | .dat u,f=>acR (.dat u) f
 | .nil,f=>acR .nil f
 | .np,f=>acR .np f
def ank:(c:CS)->(σ->(uC c).T)->List (Nat×SO σ)
 | .own r e u,f=>[(ρ r,.data e u f true)]
 | _,_=>[]
def lG:(cs:List CS)->(σ->(jm cs).T)->List (SV σ)
 | [],_=>[]
 | c::cs,f=>jJ ρ c (fun s=>jE (uC c) (jm cs) (f s))::lG cs (fun s=>kP (uC c) (jm cs) (f s))
def mW:(cs:List CS)->(σ->(jm cs).T)->List (Nat×SO σ)
 | [],_=>[]
 | c::cs,f=>ank ρ c (fun s=>jE (uC c) (jm cs) (f s))++mW cs (fun s=>kP (uC c) (jm cs) (f s))
def ajC:(i:IT)->(σ->(uI i).T)->List (Nat×SV σ)
 | .tmp t true cs,f=>[(t,.agg (lG ρ cs f))]
 | .tmp t false cs,f=>[(t,one1 (lG ρ cs f))]
 | .drop t,_=>[(t,.junk)]
 | _,_=>[]
def F7:(i:IT)->(σ->(uI i).T)->List (Nat×SO σ)
 | .tmp _ _ cs,f=>mW ρ cs f
 | .mix r cs,f=>(ρ r,.mix (lG ρ cs f))::mW ρ cs f
 | .row r e u,f=>[(ρ r,.data e u f true)]
 | .arr r u,f=>[(ρ r,.arr u f)]
 | .mp r,f=>[(ρ r,.mp f)]
 | .dead r,_=>[(ρ r,.dead)]
 | _,_=>[]
def Eu:(l:List IT)->(σ->(dF l).T)->List (Nat×SV σ)
 | [],_=>[]
 | i::l,f=>ajC ρ i (fun s=>jE (uI i) (dF l) (f s))++Eu l (fun s=>kP (uI i) (dF l) (f s))
def dJ:(l:List IT)->(σ->(dF l).T)->List (Nat×SO σ)
 | [],_=>[]
 | i::l,f=>F7 ρ i (fun s=>jE (uI i) (dF l) (f s))++dJ l (fun s=>kP (uI i) (dF l) (f s))
end
section
variable {σ:Type} {s:σ} {ρ:Nat->Nat} {θ':Nat->Option Nat} {hp1 hp2:Nat->Option AO}
theorem XJ:∀(caps:List (Nat×Nat)),(∀r∈caps.map (·.1),θ' (ρ r)=some r/\(hp2 (ρ r)).isSome=true)->jq θ' hp1 hp2 (cL s (CP ρ caps)) (FW caps)
 | [],_=>by rw [CP,cL,FW,jq]
 | (r,off)::l,h=>by
   rw [CP,cL,SV.c,FW,jq];have:=h r (by simp);exact ⟨_,_,rfl,by rw [gU];exact ⟨r,this.1,this.2,rfl⟩,XJ l fun x hx=>h x (by simp at hx ⊢;exact .inr hx)⟩
theorem afX (u:U) (x:(uC (.dat u)).T):gU θ' hp1 hp2 (aC (.dat u) x) (aC (.dat u) x):=CQ _ fun r hr=>by cases u<;>simp [aC,dZ,eG,AV.refs] at hr
theorem acX:∀(c:CS) (f:σ->(uC c).T),(∀r∈BJ [c]++fK [c],θ' (ρ r)=some r/\(hp2 (ρ r)).isSome=true)->gU θ' hp1 hp2 ((jJ ρ c f).c s) (aC c (f s))
 | .dat u,f,h=>by rw [jJ,nM];exact afX u _
 | .nil,f,h=>by rw [jJ,nM];exact CQ _ fun r hr=>by simp [aC,AV.refs] at hr
 | .np,f,h=>by rw [jJ,nM];exact CQ _ fun r hr=>by simp [aC,AV.refs] at hr
 | .own r e u,f,h=>by
   have:=h r (by simp [BJ]);rw [jJ,afP];show gU θ' hp1 hp2 _ (.sl r 0 (f s).length none);rw [gU];exact ⟨this.2,.inl ⟨r,this.1,rfl⟩⟩
 | .pt r off,f,h=>by
   have:=h r (by simp [BJ,fK]);rw [jJ,anf];show gU θ' hp1 hp2 _ (.ptr r off);rw [gU];exact ⟨r,this.1,this.2,rfl⟩
 | .cl f caps,_,h=>by
   rw [jJ,SV.c];show gU θ' hp1 hp2 _ (.clo f (FW caps));rw [gU];exact ⟨_,rfl,XJ caps fun r hr=>h r (by show r∈[]++(caps.map (·.1)++[]);rw [List.nil_append,List.append_nil];exact hr)⟩
theorem Ba (c:CS) (cs:List CS):BJ (c::cs)=BJ [c]++BJ cs:=by cases c<;>rfl
theorem H9 (c:CS) (cs:List CS):fK (c::cs)=fK [c]++fK cs:=by cases c<;>simp [fK]
theorem Bc:∀(cs:List CS) (f:σ->(jm cs).T),(∀r∈BJ cs++fK cs,θ' (ρ r)=some r/\(hp2 (ρ r)).isSome=true)->jq θ' hp1 hp2 (cL s (lG ρ cs f)) (oV cs (f s))
 | [],f,h=>by rw [lG,cL,show oV [] (f s)=[] from rfl,jq]
 | c::cs,f,h=>by
   rw [lG,cL,jq];refine ⟨_,_,rfl,acX c _ fun r hr=>h r ?_,Bc cs _ fun r hr=>h r ?_⟩
   ·rw [Ba,H9];rcases List.mem_append.1 hr with g | g
    ·exact List.mem_append_left _ (List.mem_append_left _ g)
    ·exact List.mem_append_right _ (List.mem_append_left _ g)
   ·rw [Ba,H9];rcases List.mem_append.1 hr with g | g
    ·exact List.mem_append_left _ (List.mem_append_right _ g)
    ·exact List.mem_append_right _ (List.mem_append_right _ g)
def ObP (θ':Nat->Option Nat) (hp1 hp2:Nat->Option AO) (ρ:Nat->Nat) (l:List (Nat×AO)) (x:Nat×AO):Prop:=∃r o1,x.1=ρ r/\(r,o1)∈l/\(hp1 r=some o1->θ' (ρ r)=some r->vk θ' hp1 hp2 x.1 x.2)
theorem ObP.mono {l l':List (Nat×AO)} {x:Nat×AO} (h:ObP θ' hp1 hp2 ρ l x) (k:∀y∈l,y∈l'):ObP θ' hp1 hp2 ρ l' x:=by
 obtain ⟨r,o1,h1,h2,h3⟩:=h;exact ⟨r,o1,h1,k _ h2,h3⟩
theorem Tt {r e z:Nat} {cs:List DV}:ObP θ' hp1 hp2 ρ [(r,.data e z cs true)] (ρ r,.data e z cs true) :=
 ⟨r,_,rfl,List.mem_singleton.2 rfl,fun h1 h2=>by unfold vk;simp only [h2];exact ⟨true,cs,h1,.inl rfl,fun _=>rfl,fun h=>by cases h⟩⟩
theorem F8:∀(cs:List CS) (f:σ->(jm cs).T),∀x∈cO s (mW ρ cs f),ObP θ' hp1 hp2 ρ (Qe cs (f s)) x
 | [],f,x,hx=>by cases hx
 | c::cs,f,x,hx=>by
   rw [mW,dP] at hx;rcases List.mem_append.1 hx with hx | hx
   ·cases c with
    | own r e u =>
      have hx:x∈[(ρ r,AO.data e (fH u) (aU u (jE (.list u) (jm cs) (f s))) true)]:=hx;rw [List.mem_singleton] at hx;subst hx;exact (Tt (r:=r)).mono fun y hy=>List.mem_append_left _ hy
    | _=>cases hx
   ·exact (F8 cs _ x hx).mono fun y hy=>List.mem_append_right _ hy
theorem Z5:∀(i:IT) (f:σ->(uI i).T),(∀r∈aY [i]++dX [i],θ' (ρ r)=some r/\(hp2 (ρ r)).isSome=true)->∀x∈cO s (F7 ρ i f),ObP θ' hp1 hp2 ρ (aH i (f s)) x
 | .tmp t a cs,f,h,x,hx=>F8 cs f x hx
 | .mix r cs,f,h,x,hx=>by
   have hx:x∈(ρ r,AO.mix (cL s (lG ρ cs f)))::cO s (mW ρ cs f):=hx;rcases List.mem_cons.1 hx with rfl | hx
   ·refine ⟨r,.mix (oV cs (f s)),rfl,List.mem_cons_self,fun h1 h2 => ?_⟩;unfold vk;simp only [h2];refine ⟨_,h1,Bc cs f fun q hq=>h q ?_⟩;rcases List.mem_append.1 hq with g | g
    ·exact List.mem_append_left _ (by show q∈r::(BJ cs++[]);simp [g])
    ·exact List.mem_append_right _ (by show q∈fK cs++[];simp [g])
   ·exact (F8 cs f x hx).mono fun y hy=>List.mem_cons_of_mem _ hy
 | .row r e u,f,h,x,hx=>by
   have hx:x∈[(ρ r,AO.data e (fH u) (aU u (f s)) true)]:=hx;rw [List.mem_singleton] at hx;subst hx;exact Tt
 | .arr r u,f,h,x,hx=>by
   have hx:x∈[(ρ r,AO.mix ((aU u (f s)).map .d))]:=hx;rw [List.mem_singleton] at hx;subst hx;refine ⟨r,_,rfl,List.mem_singleton.2 rfl,fun h1 h2 => ?_⟩;unfold vk;simp only [h2];exact ⟨_,h1,CW _ fun q hq=>(by rw [xA] at hq;cases hq)⟩
 | .mp r,f,h,x,hx=>by
   have hx:x∈[(ρ r,AO.mp (f s))]:=hx;rw [List.mem_singleton] at hx;subst hx;refine ⟨r,_,rfl,List.mem_singleton.2 rfl,fun h1 h2 => ?_⟩;unfold vk;simp only [h2];exact h1
 | .dead r,f,h,x,hx=>by
   have hx:x∈[(ρ r,AO.dead)]:=hx;rw [List.mem_singleton] at hx;subst hx;refine ⟨r,_,rfl,List.mem_singleton.2 rfl,fun h1 h2 => ?_⟩;unfold vk;simp only [h2]
 | .drop t,f,h,x,hx=>by cases hx
theorem vT (i:IT) (l:List IT):aY (i::l)=aY [i]++aY l:=by cases i<;>simp [aY]
theorem Ia (i:IT) (l:List IT):dX (i::l)=dX [i]++dX l:=by cases i<;>simp [dX]
theorem CZ:∀(l:List IT) (f:σ->(dF l).T),(∀r∈aY l++dX l,θ' (ρ r)=some r/\(hp2 (ρ r)).isSome=true)->∀x∈cO s (dJ ρ l f),ObP θ' hp1 hp2 ρ (ou l (f s)) x
 | [],f,h,x,hx=>by cases hx
 | i::l,f,h,x,hx=>by
   rw [dJ,dP] at hx;rw [vT,Ia] at h;have h1:∀r∈aY [i]++dX [i],θ' (ρ r)=some r/\(hp2 (ρ r)).isSome=true:=fun r hr=>h r (by
    rcases List.mem_append.1 hr with g | g
    ·exact List.mem_append_left _ (List.mem_append_left _ g)
    ·exact List.mem_append_right _ (List.mem_append_left _ g))
   have h2:∀r∈aY l++dX l,θ' (ρ r)=some r/\(hp2 (ρ r)).isSome=true:=fun r hr=>h r (by
    rcases List.mem_append.1 hr with g | g
    ·exact List.mem_append_left _ (List.mem_append_right _ g)
    ·exact List.mem_append_right _ (List.mem_append_right _ g))
   rcases List.mem_append.1 hx with hx | hx
   ·exact (Z5 i _ h1 x hx).mono fun y hy=>List.mem_append_left _ hy
   ·exact (CZ l _ h2 x hx).mono fun y hy=>List.mem_append_right _ hy
theorem afY {ys xs:List AV} (h:jq θ' hp1 hp2 ys xs):gU θ' hp1 hp2 (nV ys) (nV xs):=by
 cases ys with
 | nil=>rw [jq] at h;subst h;show gU θ' hp1 hp2 .junk .junk;rw [gU];trivial
 | cons y ys =>
   rw [jq] at h;obtain ⟨x,xs',rfl,h1,h2⟩:=h;cases ys with
   | nil=>rw [jq] at h2;subst h2;exact h1
   | cons z zs=>show gU θ' hp1 hp2 .junk _;rw [gU];trivial
theorem afZ {a b a' b':List AV} (h:jq θ' hp1 hp2 a a') (k:jq θ' hp1 hp2 b b'):jq θ' hp1 hp2 (a++b) (a'++b'):=by
 induction a generalizing a' with
 | nil=>rw [jq] at h;subst h;exact k
 | cons y ys ih =>
   rw [jq] at h;obtain ⟨x,xs',rfl,h1,h2⟩:=h;rw [List.cons_append,jq];exact ⟨x,xs'++b',rfl,h1,ih h2⟩
theorem Qo {y x:AV} (h:gU θ' hp1 hp2 y x):jq θ' hp1 hp2 [y] [x]:=by rw [jq];exact ⟨x,[],rfl,h,by rw [jq]⟩
theorem af0 (l:List (Nat×SV σ)):cL s (l.map (·.2))=(cT s l).map (·.2):=by
 induction l with
 | nil=>rfl
 | cons x l ih=>obtain ⟨t,v⟩:=x;rw [List.map_cons,cL,ih,cT,List.map_cons]
theorem Kw:∀(l:List IT) (f:σ->(dF l).T),(∀r∈aY l++dX l,θ' (ρ r)=some r/\(hp2 (ρ r)).isSome=true)->jq θ' hp1 hp2 ((cT s (Eu ρ l f)).map (·.2)) ((lT l (f s)).map (·.2))
 | [],f,h=>by show jq θ' hp1 hp2 [] [];rw [jq]
 | i::l,f,h=>by
   rw [Eu,xg,List.map_append];rw [vT,Ia] at h;have h2:∀r∈aY l++dX l,θ' (ρ r)=some r/\(hp2 (ρ r)).isSome=true:=fun r hr=>h r (by
    rcases List.mem_append.1 hr with g | g
    ·exact List.mem_append_left _ (List.mem_append_right _ g)
    ·exact List.mem_append_right _ (List.mem_append_right _ g))
   rw [show lT (i::l) (f s)=aT i (jE (uI i) (dF l) (f s))++lT l (kP (uI i) (dF l) (f s)) from rfl,List.map_append];refine afZ ?_ (Kw l _ h2);cases i with
   | tmp t a cs =>
     have hc:∀r∈BJ cs++fK cs,θ' (ρ r)=some r/\(hp2 (ρ r)).isSome=true:=fun q hq=>h q (by
      rcases List.mem_append.1 hq with g | g
      ·exact List.mem_append_left _ (List.mem_append_left _ (by show q∈BJ cs++[];simp [g]))
      ·exact List.mem_append_right _ (List.mem_append_left _ (by show q∈fK cs++[];simp [g])))
     cases a with
     | true =>
       show jq θ' hp1 hp2 [(SV.agg (lG ρ cs _)).c s] [.agg (oV cs _)];refine Qo ?_;rw [SV.c,gU];exact ⟨_,rfl,Bc cs _ hc⟩
     | false =>
       show jq θ' hp1 hp2 [(one1 (lG ρ cs _)).c s] [nV (oV cs _)];refine Qo ?_;rw [acT];exact afY (Bc cs _ hc)
   | drop t =>
     show jq θ' hp1 hp2 [(SV.junk:SV σ).c s] [.junk];refine Qo ?_;rw [SV.c,gU];trivial
   | _=>show jq θ' hp1 hp2 [] [];rw [jq]
end
theorem F9:∀(cs:List CS) (x:(jm cs).T),(Qe cs x).map (·.1)=BJ cs
 | [],_=>rfl
 | c::cs,x=>by
   rw [Qe,List.map_append,F9 cs,Ba];cases c<;>rfl
theorem acY:∀(i:IT) (x:(uI i).T),(aH i x).map (·.1)=aY [i]
 | .tmp t a cs,x=>(F9 cs x).trans (List.append_nil _).symm
 | .mix r cs,x=>congrArg (fun l=>r::l) ((F9 cs x).trans (List.append_nil _).symm)
 | .row r e u,x=>rfl
 | .arr r u,x=>rfl
 | .mp r,x=>rfl
 | .dead r,x=>rfl
 | .drop t,x=>rfl
theorem lX:∀(l:List IT) (x:(dF l).T),(ou l x).map (·.1)=aY l
 | [],_=>rfl
 | i::l,x=>by rw [ou,List.map_append,acY,lX l,<-vT]
theorem yB {σ:Type} (s:σ) (ρ:Nat->Nat):∀(cs:List CS) (f:σ->(jm cs).T),(cO s (mW ρ cs f)).map (·.1)=(BJ cs).map ρ
 | [],_=>rfl
 | c::cs,f=>by
   rw [mW,dP,List.map_append,yB s ρ cs,Ba,List.map_append];cases c<;>rfl
theorem Qp {σ:Type} (s:σ) (ρ:Nat->Nat):∀(i:IT) (f:σ->(uI i).T),(cO s (F7 ρ i f)).map (·.1)=(aY [i]).map ρ
 | .tmp t a cs,f=>(yB s ρ cs f).trans (congrArg (List.map ρ) (List.append_nil _).symm)
 | .mix r cs,f=>congrArg (fun l=>ρ r::l) ((yB s ρ cs f).trans (congrArg (List.map ρ) (List.append_nil _).symm))
 | .row r e u,f=>rfl
 | .arr r u,f=>rfl
 | .mp r,f=>rfl
 | .dead r,f=>rfl
 | .drop t,f=>rfl
theorem kQ {σ:Type} (s:σ) (ρ:Nat->Nat):∀(l:List IT) (f:σ->(dF l).T),(cO s (dJ ρ l f)).map (·.1)=(aY l).map ρ
 | [],_=>rfl
 | i::l,f=>by rw [dJ,dP,List.map_append,Qp,kQ s ρ l,vT i l,List.map_append]
theorem Gf:∀ {l:List Nat},nodupB l=true->l.Nodup
 | [],_=>List.nodup_nil
 | r::l,h=>by
   rw [nodupB,Bool.and_eq_true,Bool.not_eq_true'] at h;exact List.nodup_cons.2 ⟨mQ.1 h.1,Gf h.2⟩
theorem Ja {α:Type} {k:Nat} {v:α}:∀ {l:List (Nat×α)},(l.map (·.1)).Nodup->(k,v)∈l->look k l=some v
 | (j,w)::l,hn,hm=>by
   rw [List.map_cons,List.nodup_cons] at hn;rw [look];rcases List.mem_cons.1 hm with e | hm
   ·cases e;rw [if_pos rfl]
   ·rw [if_neg (fun e=>hn.1 (by subst e;exact List.mem_map.2 ⟨_,hm,rfl⟩)),Ja hn.2 hm]
theorem rC {α:Type} {k:Nat} {l:List (Nat×α)} (h:k∈l.map (·.1)):∃v,look k l=some v:=by
 obtain ⟨⟨j,v⟩,h1,rfl⟩:=List.mem_map.1 h;exact jT h1
theorem Tv:∀ {l:List IT} {x:(dF l).T},XH l=true->∀y∈ou l x,y.2 ≠ .dead
 | [],_,_,y,hy=>by cases hy
 | i::l,x,h,y,hy=>by
   have hl:XH l=true:=by cases i<;>first | exact h | cases h
   rw [ou] at hy;rcases List.mem_append.1 hy with hy | hy
   ·have hcs:∀(cs:List CS) (z:(jm cs).T),∀y∈Qe cs z,y.2 ≠ .dead:=fun cs=>by
     induction cs with
     | nil=>intro z y hy;cases hy
     | cons c cs ih =>
       intro z y hy;rw [Qe] at hy;rcases List.mem_append.1 hy with hy | hy
       ·cases c with
        | own r e u =>
          have hy:y∈[(r,AO.data e (fH u) (aU u (jE (.list u) (jm cs) z)) true)]:=hy;rw [List.mem_singleton] at hy;subst hy;simp
        | _=>cases hy
       ·exact ih _ y hy
    cases i with
    | tmp t a cs=>exact hcs cs _ y hy
    | mix r cs =>
      rcases List.mem_cons.1 hy with rfl | hy
      ·simp
      ·exact hcs cs _ y hy
    | row r e u =>
      have hy:y∈[(r,AO.data e (fH u) (aU u (jE (uI (.row r e u)) (dF l) x)) true)]:=hy;rw [List.mem_singleton] at hy;subst hy;simp
    | arr r u =>
      have hy:y∈[(r,AO.mix ((aU u (jE (uI (.arr r u)) (dF l) x)).map .d))]:=hy;rw [List.mem_singleton] at hy;subst hy;simp
    | mp r =>
      have hy:y∈[(r,AO.mp (jE (uI (.mp r)) (dF l) x))]:=hy;rw [List.mem_singleton] at hy;subst hy;simp
    | drop t=>cases h
    | dead r=>cases h
   ·exact Tv hl y hy
theorem Om {k r:Nat}:∀ {l:List (Nat×Option Nat)},nK l k=some r->(k,some r)∈l
 | (j,x)::l,h=>by
   rw [nK] at h;split at h
   ·rename_i hd;have:=of_decide_eq_true hd;subst this;subst h;exact List.mem_cons_self
   ·exact List.mem_cons_of_mem _ (Om h)
theorem af2 {σ:Type} {s:σ} {ρ:Nat->Nat} {ri ai:List IT} {f1:σ->(dF ri).T} {f2:σ->(dF ai).T} {tbl:List (Nat×Option Nat)} (htb:tbl=(aY ri++aY ai).map fun r=>(ρ r,some r))
 (n1:nodupB (aY ri)=true) (n2:nodupB (aY ai)=true) (hin:∀r∈aY ri++aY ai,nK tbl (ρ r)=some r) (hrf:∀r∈dX ri++dX ai,r∈aY ri++aY ai) :
 (∀r∈aY ri++aY ai,nK tbl (ρ r)=some r/\(aV (cO s (dJ ρ ri f1++dJ ρ ai f2)) (ρ r)).isSome=true) /\
 MV (nK tbl) (aV (ou ri (f1 s)++ou ai (f2 s))) (aV (cO s (dJ ρ ri f1++dJ ρ ai f2))):=by
 have hnm:(cO s (dJ ρ ri f1++dJ ρ ai f2)).map (·.1)=(aY ri++aY ai).map ρ:=by rw [dP,List.map_append,kQ,kQ,List.map_append]
 have hall:∀r∈aY ri++aY ai,nK tbl (ρ r)=some r/\(aV (cO s (dJ ρ ri f1++dJ ρ ai f2)) (ρ r)).isSome=true:=fun r hr=>by
  refine ⟨hin r hr,?_⟩;obtain ⟨v,hv⟩:=rC (k:=ρ r) (l:=cO s (dJ ρ ri f1++dJ ρ ai f2)) (by rw [hnm];exact List.mem_map.2 ⟨r,hr,rfl⟩);unfold aV;rw [hv];rfl
 refine ⟨hall,fun r' o ho => ?_,fun r' r'' o' o'' r h1 h2 h3 h4 h5 h6 => ?_⟩
 ·have hsub:∀(l:List IT),(∀r∈aY l,r∈aY ri++aY ai)->(∀r∈dX l,r∈dX ri++dX ai)->∀r∈aY l++dX l,nK tbl (ρ r)=some r/\(aV (cO s (dJ ρ ri f1++dJ ρ ai f2)) (ρ r)).isSome=true:=fun l a b r hr=>by
   rcases List.mem_append.1 hr with g | g
   ·exact hall r (a r g)
   ·exact hall r (hrf r (b r g))
  have ho':=ho;unfold aV at ho;rw [dP,bU] at ho;cases hl:look r' (cO s (dJ ρ ri f1)) with
  | some o1 =>
    rw [hl] at ho;cases ho;obtain ⟨r,o2,e1,e2,e3⟩:=CZ (hp1:=aV (ou ri (f1 s)++ou ai (f2 s))) ri f1 (hsub ri (fun r hr=>List.mem_append_left _ hr) (fun r hr=>List.mem_append_left _ hr)) _ (bI hl);have hr:r∈aY ri:=by rw [<-lX ri (f1 s)];exact List.mem_map.2 ⟨_,e2,rfl⟩
    refine e3 ?_ (hin r (List.mem_append_left _ hr));unfold aV;rw [bU,Ja (by rw [lX];exact Gf n1) e2]
  | none =>
    rw [hl] at ho;obtain ⟨r,o2,e1,e2,e3⟩:=CZ (hp1:=aV (ou ri (f1 s)++ou ai (f2 s))) ai f2 (hsub ai (fun r hr=>List.mem_append_right _ hr) (fun r hr=>List.mem_append_right _ hr)) _ (bI ho);have hr:r∈aY ai:=by rw [<-lX ai (f2 s)];exact List.mem_map.2 ⟨_,e2,rfl⟩
    refine e3 ?_ (hin r (List.mem_append_right _ hr));unfold aV;rw [bU];have hno:look r (ou ri (f1 s))=none:=by
     cases hq:look r (ou ri (f1 s)) with
     | none=>rfl
     | some w =>
       exfalso;have hr2:r∈aY ri:=by rw [<-lX ri (f1 s)];exact List.mem_map.2 ⟨_,bI hq,rfl⟩
       obtain ⟨v,hv⟩:=rC (k:=r') (l:=cO s (dJ ρ ri f1)) (by rw [kQ];exact List.mem_map.2 ⟨r,hr2,e1.symm⟩);rw [hl] at hv;cases hv
    rw [hno];exact Ja (by rw [lX];exact Gf n2) e2
 ·have key:∀q,nK tbl q=some r->q=ρ r:=fun q hq=>by
   have:=Om hq;rw [htb] at this;obtain ⟨z,_,e⟩:=List.mem_map.1 this;simp only [Prod.mk.injEq,Option.some.injEq] at e;rw [<-e.1,e.2]
  rw [key r' h5,key r'' h6]
section
variable {σ:Type}
def ail:CS->SV σ->Bool
 | .dat (.int _),.int _ _=>true
 | .dat (.int _),.val _=>true
 | .dat .bool,.bool _=>true
 | .dat .bool,.val _=>true
 | .dat .str,.str _=>true
 | .dat .str,.val _=>true
 | .dat (.list _),.lst _ _=>true
 | .own r _ _,.sl _ _ _ _ _ => !zU r
 | .nil,_=>true
 | .np,_=>true
 | .pt _ _,_=>true
 | .cl _ _,_=>true
 | _,_=>false
def Gg:List CS->List (SV σ)->Bool
 | [],_=>true
 | c::cs,v::vs=>ail c v&&Gg cs vs
 | _,_=>false
def zW:List CS->List (SV σ)->List Nat
 | .own r _ _::cs,v::vs=>match v with
   | .sl _ _ _ _ _=>match zU r with
     | true=>r::zW cs vs
     | false=>zW cs vs
   | _=>r::zW cs vs
 | _::cs,_::vs=>zW cs vs
 | _,_=>[]
def XK (θ:Nat->Option Nat) (d:SS σ):IT->List Nat
 | .tmp t agg cs=>match jH t d.tm with
   | none=>[]
   | some v=>match agg with
     | false=>zW cs [v]
     | true=>match v with | .agg vs=>zW cs vs | _=>[]
 | .mix r cs=>match θ r with
   | some r1=>match kS d r1 with
     | some (.mix vs)=>match Gg cs vs with
       | true=>zW cs vs
       | false=>r::zW cs vs
     | _=>[]
   | none=>[]
 | _=>[]
def Oo (θ:Nat->Option Nat) (d:SS σ):List IT->List Nat
 | []=>[]
 | i::l=>XK θ d i++Oo θ d l
end
section
variable {σ:Type} {s:σ} {θ:Nat->Option Nat} {rd:Nat->Option (SO σ)} {ρ:Nat->Nat}
theorem Oq (hρ:∀r x,θ r=some x->ρ r=x):∀(caps:List (Nat×Nat)) (vs:List (SV σ)),Kq θ caps vs=true->cL s (CP ρ caps)=cL s vs
 | [],[],_=>rfl
 | (r,off)::l,.ptr r1 off1::vs,h=>by
   rw [Kq,Bool.and_eq_true,Bool.and_eq_true] at h;obtain ⟨⟨h1,h2⟩,h3⟩:=h;obtain rfl:=of_decide_eq_true h2;rw [CP,cL,cL,Oq hρ l vs h3,SV.c,SV.c,hρ r r1 (zS h1)]
 | [],_::_,h=>by cases h
 | (r,off)::l,[],h=>by cases h
 | (r,off)::l,.val _::vs,h=>by cases h
 | (r,off)::l,.int _ _::vs,h=>by cases h
 | (r,off)::l,.bool _::vs,h=>by cases h
 | (r,off)::l,.str _::vs,h=>by cases h
 | (r,off)::l,.lst _ _::vs,h=>by cases h
 | (r,off)::l,.ptx _ _ _ _::vs,h=>by cases h
 | (r,off)::l,.sl _ _ _ _ _::vs,h=>by cases h
 | (r,off)::l,.dpt _ _ _ _::vs,h=>by cases h
 | (r,off)::l,.agg _::vs,h=>by cases h
 | (r,off)::l,.tup _::vs,h=>by cases h
 | (r,off)::l,.clo _ _::vs,h=>by cases h
 | (r,off)::l,.undef::vs,h=>by cases h
 | (r,off)::l,.junk::vs,h=>by cases h
theorem Z7 (hρ:∀r x,θ r=some x->ρ r=x):∀(c:CS) (v:SV σ) (p:PK σ (uC c).T),BM θ rd c v=some p->allT s p.cs->ail c v=true->(jJ ρ c p.f).c s=v.c s
 | .dat (.int k),v,p,hp,hc,hv=>by
   rw [jJ,nM];simp only [BM,Qb,acS,IL] at hp;split at hp
   ·rename_i k' f hf;split at hp
    ·rename_i hk _;obtain ⟨hk⟩:=hk;subst hk;cases hp;exact (nU hf s).symm
    ·cases hp
   ·cases hp
 | .dat .bool,v,p,hp,hc,hv=>by
   rw [jJ,nM];simp only [BM,Qb,acS,IL] at hp;split at hp
   ·rename_i f hf;cases hp;exact (zK hf s).symm
   ·cases hp
 | .dat .str,v,p,hp,hc,hv=>by
   rw [jJ,nM];simp only [BM,Qb,acS,IL] at hp;split at hp
   ·rename_i f hf;cases hp;exact (sU hf s).symm
   ·cases hp
 | .dat (.list t),v,p,hp,hc,hv=>by
   rw [jJ,nM];cases v with
   | lst u f =>
     simp only [BM,Qb,acS,IL,pkL] at hp;split at hp
     ·rename_i hk _;subst hk;cases hp;rw [SV.c];rfl
     ·cases hp
   | _=>cases hv
 | .dat (.pair a b),v,p,hp,hc,hv=>by cases v<;>cases hv
 | .dat .unit,v,p,hp,hc,hv=>by cases v<;>cases hv
 | .own r e u,v,p,hp,hc,hv=>by
   simp only [BM] at hp;split at hp
   ·cases hv
   ·rename_i r1 z n;split at hp
    ·rename_i h1;have h1:=zS h1;split at hp
     ·rename_i e' u' f hr;split at hp
      ·rename_i hk _ hd;subst hk;obtain ⟨rfl,hz⟩:=of_decide_eq_true hd;have hv:(!zU r)=true:=hv;split at hp
       ·rename_i hsh;rw [hsh] at hv;cases hv
       cases hp;have hn:n s=(f s).length:=of_decide_eq_true hc.1;rw [jJ,SV.c,SV.c,hρ r r1 h1,hz];show AV.sl r1 (wz s none*fH u') (f s).length (rW s (f s).length Cp.unk)=_;rw [hn]
      ·cases hp
     ·cases hp
    ·cases hp
   ·cases hp
 | .nil,v,p,hp,hc,hv=>by
   rw [jJ,nM];simp only [BM,Qb] at hp;split at hp
   ·rw [SV.c];rfl
   ·cases hp
 | .np,v,p,hp,hc,hv=>by
   rw [jJ,nM];simp only [BM,Qb] at hp;split at hp
   ·rw [SV.c];rfl
   ·cases hp
 | .pt r off,v,p,hp,hc,hv=>by
   simp only [BM] at hp;split at hp
   ·rename_i r1 off1;split at hp
    ·rename_i hd;rw [Bool.and_eq_true] at hd;obtain rfl:=of_decide_eq_true hd.2;rw [jJ,SV.c,SV.c,hρ r r1 (zS hd.1)]
    ·cases hp
   ·cases hp
 | .cl f caps,v,p,hp,hc,hv=>by
   simp only [BM] at hp;split at hp
   ·rename_i f' vs;split at hp
    ·rename_i hd;rw [Bool.and_eq_true] at hd;obtain rfl:=of_decide_eq_true hd.1;rw [jJ,SV.c,SV.c,Oq hρ caps vs hd.2]
    ·cases hp
   ·cases hp
theorem yC (hρ:∀r x,θ r=some x->ρ r=x):∀(cs:List CS) (vs:List (SV σ)) (p:PK σ (jm cs).T),H8 θ rd cs vs=some p->allT s p.cs ->
 (Gg cs vs=true->cL s (lG ρ cs p.f)=cL s vs)/\∀x∈cO s (mW ρ cs p.f),x.1∈(zW cs vs).map ρ\/iO s rd x.1=some x.2
 | [],[],p,hp,hc=>⟨fun _=>rfl,fun x hx=>by cases hx⟩
 | c::cs,v::vs,p,hp,hc=>by
   rw [H8] at hp;split at hp
   ·rename_i x y hx hy;cases hp;rw [cu] at hc;obtain ⟨b1,b2⟩:=yC hρ cs vs y hy hc.2;have e1:(fun s=>jE (uC c) (jm cs) (wM (uC c) (jm cs) (x.f s) (y.f s)))=x.f:=by funext s;exact jZ _ _ _ _
    have e2:(fun s=>kP (uC c) (jm cs) (wM (uC c) (jm cs) (x.f s) (y.f s)))=y.f:=by funext s;exact kT _ _ _ _
    refine ⟨fun hs => ?_,fun z hz => ?_⟩
    ·rw [Gg,Bool.and_eq_true] at hs;rw [lG,cL,cL];simp only [e1,e2];rw [Z7 hρ c v x hx hc.1 hs.1,b1 hs.2]
    ·rw [mW,dP] at hz;simp only [e1,e2] at hz;rcases List.mem_append.1 hz with hz | hz
     ·cases c with
      | own r e u =>
        have hz:z∈[(ρ r,AO.data e (fH u) (aU u (x.f s)) true)]:=hz;rw [List.mem_singleton] at hz;subst hz;simp only [BM] at hx;split at hx
        ·left;show ρ r∈(r::zW cs vs).map ρ;exact List.mem_map.2 ⟨r,List.mem_cons_self,rfl⟩
        ·rename_i r1 z n;split at hx
         ·rename_i h1;have h1:=zS h1;split at hx
          ·rename_i e' u' f hr;split at hx
           ·rename_i hk _ hd;subst hk;obtain ⟨rfl,hz⟩:=of_decide_eq_true hd;split at hx
            ·rename_i hsh;left;show ρ r∈(match zU r with | true=>r::zW cs vs | false=>zW cs vs).map ρ;rw [hsh];exact List.mem_map.2 ⟨r,List.mem_cons_self,rfl⟩
            cases hx;right;rw [hρ r r1 h1];simp only [iO,hr,Option.map_some,SO.c];rfl
           ·cases hx
          ·cases hx
         ·cases hx
        ·cases hx
      | _=>cases hz
     ·rcases b2 z hz with h | h
      ·left;obtain ⟨q,q1,q2⟩:=List.mem_map.1 h;refine List.mem_map.2 ⟨q,?_,q2⟩;cases c with
       | own r e u =>
         show q∈(match v with | .sl _ _ _ _ _=>(match zU r with | true=>r::zW cs vs | false=>zW cs vs) | _=>r::zW cs vs);cases v with
         | sl _ _ _ _ _ =>
           show q∈(match zU r with | true=>r::zW cs vs | false=>zW cs vs);cases zU r with
           | true=>exact List.mem_cons_of_mem _ q1
           | false=>exact q1
         | _=>exact List.mem_cons_of_mem _ q1
       | _=>exact q1
      ·exact .inr h
   ·cases hp
 | [],_::_,p,hp,_=>by cases hp
 | _::_,[],p,hp,_=>by cases hp
theorem Z8 {d:SS σ} (hρ:∀r x,θ r=some x->ρ r=x):∀(i:IT) (p:PK σ (uI i).T),Es θ d i=some p->allT s p.cs ->
 ∀x∈cO s (F7 ρ i p.f),x.1∈(XK θ d i).map ρ\/iO s (kS d) x.1=some x.2
 | .tmp t agg cs,p,hp,hc,x,hx=>by
   simp only [Es] at hp;simp only [XK];cases hv:jH t d.tm with
   | none=>simp only [hv] at hp;cases hp
   | some v =>
     simp only [hv] at hp;cases agg with
     | false=>exact (yC hρ cs [v] p hp hc).2 x hx
     | true =>
       simp only at hp;cases v with
       | agg vs=>exact (yC hρ cs vs p hp hc).2 x hx
       | _=>cases hp
 | .mix r cs,p,hp,hc,x,hx=>by
   simp only [Es] at hp;simp only [XK];cases hr:θ r with
   | none=>simp only [hr] at hp;cases hp
   | some r1 =>
     simp only [hr] at hp;cases hvs:kS d r1 with
     | none=>simp only [hvs] at hp;cases hp
     | some o =>
       cases o with
       | mix vs =>
         simp only [hvs] at hp;simp only [hvs];obtain ⟨a,b⟩:=yC hρ cs vs p hp hc;have hx:x∈(ρ r,AO.mix (cL s (lG ρ cs p.f)))::cO s (mW ρ cs p.f):=hx;rcases List.mem_cons.1 hx with rfl | hx
         ·cases hs:Gg cs vs with
          | true =>
            right;show iO s (kS d) (ρ r)=_;rw [hρ r r1 hr,a hs];simp only [iO,hvs,Option.map_some,SO.c]
          | false=>left;exact List.mem_map.2 ⟨r,List.mem_cons_self,rfl⟩
         ·rcases b x hx with h | h
          ·left;obtain ⟨q,q1,q2⟩:=List.mem_map.1 h;refine List.mem_map.2 ⟨q,?_,q2⟩;cases Gg cs vs with
           | true=>exact q1
           | false=>exact List.mem_cons_of_mem _ q1
          ·exact .inr h
       | data e u f wr=>simp only [hvs] at hp;cases hp
       | arr u f=>simp only [hvs] at hp;cases hp
       | mp f=>simp only [hvs] at hp;cases hp
       | dead=>simp only [hvs] at hp;cases hp
 | .row r e u,p,hp,hc,x,hx=>by
   simp only [Es] at hp;cases hr1:θ r with
   | none=>simp only [hr1] at hp;cases hp
   | some r1 =>
     simp only [hr1] at hp;split at hp
     ·rename_i e' u' f hr;split at hp
      ·rename_i hk _ hd;subst hk;have hd:=of_decide_eq_true hd;subst hd;cases hp;have hx:x∈[(ρ r,AO.data e' (fH u') (aU u' (f s)) true)]:=hx;rw [List.mem_singleton] at hx;subst hx;right;rw [hρ r r1 hr1];simp only [iO,hr,Option.map_some,SO.c]
      ·cases hp
     ·cases hp
 | .arr r u,p,hp,hc,x,hx=>by
   simp only [Es] at hp;cases hr1:θ r with
   | none=>simp only [hr1] at hp;cases hp
   | some r1 =>
     simp only [hr1] at hp;split at hp
     ·rename_i u' f hr;split at hp
      ·rename_i hk _;subst hk;cases hp;have hx:x∈[(ρ r,AO.mix ((aU u' (f s)).map .d))]:=hx;rw [List.mem_singleton] at hx;subst hx;right;rw [hρ r r1 hr1];simp only [iO,hr,Option.map_some,SO.c]
      ·cases hp
     ·cases hp
 | .mp r,p,hp,hc,x,hx=>by
   simp only [Es] at hp;cases hr1:θ r with
   | none=>simp only [hr1] at hp;cases hp
   | some r1 =>
     simp only [hr1] at hp;split at hp
     ·rename_i f hr;cases hp;have hx:x∈[(ρ r,AO.mp (f s))]:=hx;rw [List.mem_singleton] at hx;subst hx;right;rw [hρ r r1 hr1];simp only [iO,hr,Option.map_some,SO.c]
     ·cases hp
 | .drop t,p,hp,hc,x,hx=>by cases hp
 | .dead r,p,hp,hc,x,hx=>by cases hp
theorem Ky {d:SS σ} (hρ:∀r x,θ r=some x->ρ r=x):∀(l:List IT) (p:PK σ (dF l).T),Ol θ d l=some p->allT s p.cs ->
 ∀x∈cO s (dJ ρ l p.f),x.1∈(Oo θ d l).map ρ\/iO s (kS d) x.1=some x.2
 | [],p,hp,hc,x,hx=>by cases hx
 | i::l,p,hp,hc,x,hx=>by
   rw [Ol] at hp;split at hp
   ·rename_i x' y hx' hy;cases hp;rw [cu] at hc;have e1:(fun s=>jE (uI i) (dF l) (wM (uI i) (dF l) (x'.f s) (y.f s)))=x'.f:=by funext s;exact jZ _ _ _ _
    have e2:(fun s=>kP (uI i) (dF l) (wM (uI i) (dF l) (x'.f s) (y.f s)))=y.f:=by funext s;exact kT _ _ _ _
    rw [dJ,dP] at hx;simp only [e1,e2] at hx;rw [Oo,List.map_append];rcases List.mem_append.1 hx with hx | hx
    ·rcases Z8 hρ i x' hx' hc.1 x hx with h | h
     ·exact .inl (List.mem_append_left _ h)
     ·exact .inr h
    ·rcases Ky hρ l y hy hc.2 x hx with h | h
     ·exact .inl (List.mem_append_right _ h)
     ·exact .inr h
   ·cases hp
end
section
variable {σ τ:Type} {s1:σ} {s2:τ} {ρ:Nat->Nat}
theorem acZ:∀(c:CS) (f:σ->(uC c).T) (g:τ->(uC c).T),f s1=g s2->(jJ ρ c f).c s1=(jJ ρ c g).c s2
 | .own r e u,f,g,h=>by rw [jJ,jJ,afP,afP,h]
 | .pt r off,f,g,h=>by rw [jJ,jJ,SV.c,SV.c]
 | .cl f caps,_,_,h=>by
   have e:∀l:List (Nat×Nat),cL s1 (CP ρ l)=cL s2 (CP ρ l):=fun l=>by
    induction l with
    | nil=>rfl
    | cons x l ih=>obtain ⟨r,off⟩:=x;rw [CP,CP,cL,cL,SV.c,SV.c,ih]
   rw [jJ,jJ,SV.c,SV.c,e]
 | .dat u,f,g,h=>by rw [jJ,jJ,nM,nM,h]
 | .nil,f,g,h=>by rw [jJ,jJ,nM,nM,h]
 | .np,f,g,h=>by rw [jJ,jJ,nM,nM,h]
theorem Ot:∀(cs:List CS) (f:σ->(jm cs).T) (g:τ->(jm cs).T),f s1=g s2->cL s1 (lG ρ cs f)=cL s2 (lG ρ cs g)
 | [],f,g,h=>rfl
 | c::cs,f,g,h=>by
   rw [lG,lG,cL,cL];rw [acZ c (fun s=>jE (uC c) (jm cs) (f s)) (fun s=>jE (uC c) (jm cs) (g s)) (congrArg (jE (uC c) (jm cs)) h),Ot cs (fun s=>kP (uC c) (jm cs) (f s)) (fun s=>kP (uC c) (jm cs) (g s)) (congrArg (kP (uC c) (jm cs)) h)]
theorem Gh:∀(cs:List CS) (f:σ->(jm cs).T) (g:τ->(jm cs).T),f s1=g s2->cO s1 (mW ρ cs f)=cO s2 (mW ρ cs g)
 | [],f,g,h=>rfl
 | c::cs,f,g,h=>by
   rw [mW,mW,dP,dP,Gh cs (fun s=>kP (uC c) (jm cs) (f s)) (fun s=>kP (uC c) (jm cs) (g s)) (congrArg (kP (uC c) (jm cs)) h)];congr 1;cases c with
   | own r e u =>
     show [(ρ r,AO.data e (fH u) (aU u (jE (.list u) (jm cs) (f s1))) true)]=[(ρ r,AO.data e (fH u) (aU u (jE (.list u) (jm cs) (g s2))) true)]
     rw [h]
   | _=>rfl
theorem Z9:∀(i:IT) (f:σ->(uI i).T) (g:τ->(uI i).T),f s1=g s2->cO s1 (F7 ρ i f)=cO s2 (F7 ρ i g)
 | .tmp t a cs,f,g,h=>Gh cs f g h
 | .mix r cs,f,g,h=>by
   show (ρ r,AO.mix (cL s1 (lG ρ cs f)))::cO s1 (mW ρ cs f)=(ρ r,AO.mix (cL s2 (lG ρ cs g)))::cO s2 (mW ρ cs g);rw [Ot cs f g h,Gh cs f g h]
 | .row r e u,f,g,h=>by
   show [(ρ r,AO.data e (fH u) (aU u (f s1)) true)]=[(ρ r,AO.data e (fH u) (aU u (g s2)) true)]
   rw [h]
 | .arr r u,f,g,h=>by
   show [(ρ r,AO.mix ((aU u (f s1)).map .d))]=[(ρ r,AO.mix ((aU u (g s2)).map .d))]
   rw [h]
 | .mp r,f,g,h=>by
   show [(ρ r,AO.mp (f s1))]=[(ρ r,AO.mp (g s2))]
   rw [h]
 | .drop t,f,g,h=>rfl
 | .dead r,f,g,h=>rfl
theorem Kz:∀(l:List IT) (f:σ->(dF l).T) (g:τ->(dF l).T),f s1=g s2->cO s1 (dJ ρ l f)=cO s2 (dJ ρ l g)
 | [],f,g,h=>rfl
 | i::l,f,g,h=>by
   rw [dJ,dJ,dP,dP,Z9 i (fun s=>jE (uI i) (dF l) (f s)) (fun s=>jE (uI i) (dF l) (g s)) (congrArg (jE (uI i) (dF l)) h),Kz l (fun s=>kP (uI i) (dF l) (f s)) (fun s=>kP (uI i) (dF l) (g s)) (congrArg (kP (uI i) (dF l)) h)]
end
section
variable {σ τ:Type}
def ain:List (SV σ)->Option (List (Nat×Nat))
 | []=>some []
 | .ptr r off::l=>match ain l with | some c=>some ((r,off)::c) | none=>none
 | _=>none
mutual
def viV (rd:Nat->Option (SO σ)):SV σ->VI
 | .val (.int k _) => .u (.int k)
 | .val (.bool _) => .u .bool
 | .val (.string _) => .u .str
 | .val (.slice none 0 0) => .nil
 | .val (.pointer none) => .np
 | .int k _ => .u (.int k)
 | .bool _ => .u .bool
 | .str _ => .u .str
 | .lst t _ => .u (.list t)
 | .ptr r off => .pt r off
 | .clo f cs=>match ain cs with | some caps => .cl f caps | none => .junk
 | .sl r z none n .unk=>match rd r with
   | some (.data e u _ true) => .own r e u
   | some (.data _ u _ _) => .u (.list u)
   | _ => .junk
 | .sl r _ _ _ _=>match rd r with
   | some (.data _ u _ _) => .u (.list u)
   | _ => .junk
 | .agg cs => .agg (viL rd cs)
 | _ => .junk
def viL (rd:Nat->Option (SO σ)):List (SV σ)->List VI
 | []=>[]
 | x::l=>viV rd x::viL rd l
end
def oiO (rd:Nat->Option (SO σ)):SO σ->OI
 | .data e u _ wr => .row e u wr
 | .arr u _ => .arr u
 | .mp _ => .mp
 | .mix cs => .mix (viL rd cs)
 | .dead => .dead
def viT (rd:Nat->Option (SO σ)) (l:List (Nat×SV σ)):List (Nat×VI):=l.map fun x=>(x.1,viV rd x.2)
def viO (rd:Nat->Option (SO σ)) (l:List (Nat×SO σ)):List (Nat×OI):=l.map fun x=>(x.1,oiO rd x.2)
def yR {β:Type} (p kind:Nat) (d:SS σ) (d':SS τ):TR β τ :=
 .note ⟨p,kind,viT (kS d') (d'.tm.take (d'.tm.length-d.tm.length)),viO (kS d') (d'.hp.take (d'.hp.length-d.hp.length)),viT (kS d) d.tm,viO (kS d) d.hp⟩
def ajE:List IT->Bool
 | []=>false
 | .drop t::l=>decide (t=88888888)||ajE l
 | _::l=>ajE l
def af4 (d:SS τ):List IT->Bool
 | []=>false
 | .tmp t _ _::l=>(match jH t d.tm with | some (.val (.pointer none))=>true | _=>false)||af4 d l
 | _::l=>af4 d l
def Gi {β:Type} (p kind:Nat) (d:SS σ) (its:List IT) (d':SS τ):TR ((dF its).T ⊕ β) τ :=
 match Kv d its d' with
 | some x=>Ed x.cs (.ret fun s => .inl (x.f s))
 | none=>match ajE its&&af4 d' its with
   | true => .fail "cut"
   | false=>yR p kind d d'
def C9 (rd:Nat->Option (SO σ)):Nat->List Nat->List Nat->List Nat
 | 0,_,seen=>seen
 | _+1,[],seen=>seen
 | n+1,r::work,seen=>match kN r seen with
   | true=>C9 rd n work seen
   | false=>match rd r with
     | some o=>C9 rd n (Kr o++work) (r::seen)
     | none=>C9 rd n work seen
def wF (rd:Nat->Option (SO σ)):List Nat->List (Nat×SO σ)
 | []=>[]
 | r::l=>match rd r with
   | some o=>(r,o)::wF rd l
   | none=>wF rd l
def Bf (os:List (Nat×SO σ)) (rs:List Nat):Bool:=rs.all fun r=>kN r (bP os)
def Ew (os:List (Nat×SO σ)):Bool:=os.all fun x=>Bf os (Kr x.2)
def XL (T:Ty) (d:SS σ):ResultVar->Option (SV σ)
 | .tmp t=>some (match jH t d.tm with | some x=>x | none => .junk)
 | .cell a t=>match T t,jH a d.tm with
   | some i,some (.ptr r off)=>match kS d r with
     | some (.mix cs)=>D9 i cs off
     | _=>none
   | _,_=>none
def Ib (T:Ty) (d:SS σ):List ResultVar->Option (List (SV σ))
 | []=>some []
 | r::l=>match XL T d r,Ib T d l with
   | some x,some xs=>some (x::xs)
   | _,_=>none
def pK (xs:List (SV σ)):SV σ:=match xs with | [x]=>x | xs => .tup xs
def rX:Nat->List (SV σ)->List (Nat×SV σ)
 | _,[]=>[]
 | i,x::xs=>(i,x)::rX (i+1) xs
end
inductive PL where
 | carry (its:List IT) | unroll | once | stop
structure CE where
 ai:List IT
 ri:List IT
 F:(dF ai).T->Option (dF ri).T
def IV:List CS->Bool
 | []=>true
 | .dat _::l=>IV l
 | _=>false
def jr:List IT->Bool
 | []=>true
 | .tmp _ _ cs::l=>IV cs&&jr l
 | _=>false
def Ou:List CS->Bool
 | []=>true
 | .dat (.int _)::l=>Ou l
 | .dat .bool::l=>Ou l
 | .dat .str::l=>Ou l
 | _=>false
def Ov:List IT->Bool
 | []=>true
 | .tmp _ true cs::l=>Ou cs&&Ov l
 | .tmp _ false cs::l=>(Ou cs&&decide (cs.length=1))&&Ov l
 | _=>false
section
variable {σ:Type}
def pO (rd:Nat->Option (SO σ)):(ai:List IT)->List (SV σ)->Option (PK σ (dF ai).T)
 | [],[]=>some ⟨fun _=>(),[],[]⟩
 | .tmp _ false cs::l,v::vs=>match IU rd cs [v],pO rd l vs with
   | some x,some y=>some ⟨fun s=>wM (jm cs) (dF l) (x.f s) (y.f s),x.cs++y.cs,x.fz++y.fz⟩
   | _,_=>none
 | .tmp _ true cs::l,v::vs=>match v with
   | .agg ws=>match IU rd cs ws,pO rd l vs with
     | some x,some y=>some ⟨fun s=>wM (jm cs) (dF l) (x.f s) (y.f s),x.cs++y.cs,x.fz++y.fz⟩
     | _,_=>none
   | _=>none
 | _,_=>none
def XM (its:List IT) (f:σ->(dF its).T):SV σ:=pK ((oH its f).map (·.2))
def XO (n:Nat) (d:SS σ):SV σ:=pK ((List.range n).map fun j=>match jH j d.tm with | some v=>v | none => .junk)
def ajF {β:Type} (E:CE) (args:List (SV σ)) (d:SS σ) (F:Nat) (K:(τ:Type)->(τ->σ)->SV τ->List (Nat×SO τ)->List Nat->Nat->TR β τ):TR β σ :=
 match E with
 | ⟨ai,[.tmp _ false [.own _ e u]],G⟩=>match pO (kS d) ai args with
   | none => .fail "contract: arguments"
   | some pa=>match jr ai&&iP (kS d) F with
     | false => .fail "contract: shape"
     | true=>Ed pa.cs (.bnd (α:=List u.T) (fun s=>G (pa.f s)) (K (σ×List u.T) Prod.fst (.sl F (fH u) none (fun t=>t.2.length) .unk) ((F,.data e u (fun t=>t.2) true)::jR Prod.fst pa.fz) (F::bP pa.fz) (F+1)))
 | E=>match pO (kS d) E.ai args with
 | none => .fail "contract: arguments"
 | some pa=>match jr E.ai&&jr E.ri with
   | false => .fail "contract: shape"
   | true=>match Ov E.ri with
     | true=>Ed pa.cs (.bnd (fun s=>E.F (pa.f s)) (K (σ×(dF E.ri).T) Prod.fst (XM E.ri Prod.snd) [] (bP pa.fz) F))
     | false=>Ed pa.cs (.bnd (fun s=>E.F (pa.f s)) (K (σ×(dF E.ri).T) Prod.fst (XM E.ri Prod.snd) (jR Prod.fst pa.fz) (bP pa.fz) F))
def aqy:List IT->Bool
 | [.tmp _ false [.own _ _ _]]=>true
 | _=>false
def VR (E:CE):Bool:=jr E.ai&&(jr E.ri||aqy E.ri)
def anl (r:Nat):List Nat->Nat
 | []=>0
 | k::l=>match decide (k=r) with | true=>0 | false=>anl r l+1
def KA (θ:Nat->Option Nat):List Nat->List Nat
 | []=>[]
 | r::l=>match θ r with | some x=>x::KA θ l | none=>KA θ l
def Ox (θ:Nat->Option Nat):List Nat->List Nat
 | []=>[]
 | r::l=>match θ r with | some _=>Ox θ l | none=>match kN r (Ox θ l) with | true=>Ox θ l | false=>r::Ox θ l
def Tz (ρ:Nat->Nat):List Nat->List (Nat×Option Nat)
 | []=>[]
 | r::l=>(ρ r,some r)::Tz ρ l
def isNat:Nat->List Nat->Bool
 | _,[]=>true
 | i,k::l=>decide (k=i)&&isNat (i+1) l
def ajG (θ:Nat->Option Nat) (F:Nat) (fr:List Nat) (r:Nat):Nat:=match θ r with | some x=>x | none=>F+anl r fr
def anm (E:CE) (args:List (SV σ)) (d:SS σ) (os:List (Nat×SO σ)) (ρ:Nat->Nat) (θ':Nat->Option Nat) (θ:Nat->Option Nat):Bool :=
 ((XH E.ai&&(isNat 0 (qp E.ai)&&decide ((qp E.ai).length=args.length)))&&(nodupB (aY E.ri)&&nodupB (aY E.ai))) &&
 (((aY E.ri++aY E.ai).all (fun r=>eqN (θ' (ρ r)) (some r))&&((dX E.ri).all (fun r=>kN r (aY E.ri++aY E.ai))&&(dX E.ai).all (fun r=>kN r (aY E.ai)))) &&
  (((aY E.ri++aY E.ai).all (fun r=>iP (kS d) (ρ r)||kN (ρ r) (bP os))&&(bP os).all (fun x=>kN x (KA θ (aY E.ai)))) &&
   (Ew os&&Bf os (sV args))))
def ac0 {β:Type} (E:CE) (args:List (SV σ)) (d:SS σ) (F:Nat) (K:(τ:Type)->(τ->σ)->SV τ->List (Nat×SO τ)->List Nat->Nat->TR β τ) (θ:Nat->Option Nat) (fr:List Nat) (ρ:Nat->Nat) (os:List (Nat×SO σ)):TR β σ :=
 match Ol θ (⟨rX 0 args,os⟩:SS σ) E.ai with
 | none => .fail "contract: state"
 | some pa=>match pa.fz with
   | _::_ => .fail "contract: freezes"
   | []=>match anm E args d os ρ (nK (Tz ρ (aY E.ri++aY E.ai))) θ with
     | false => .fail "contract: names"
     | true=>Ed pa.cs (.bnd (fun s=>E.F (pa.f s)) (K (σ×(dF E.ri).T) Prod.fst (pK ((Eu ρ E.ri Prod.snd).map (·.2))) (dJ ρ E.ri Prod.snd++(dJ ρ E.ai (fun t=>pa.f t.1)).filter fun y=>kN y.1 ((Oo θ (⟨rX 0 args,os⟩:SS σ) E.ai).map ρ))
        ((aY E.ri++aY E.ai).map ρ) (F+fr.length)))
def ac1 {β:Type} (E:CE) (args:List (SV σ)) (d:SS σ) (F:Nat) (K:(τ:Type)->(τ->σ)->SV τ->List (Nat×SO τ)->List Nat->Nat->TR β τ) (th:List (Nat×Option Nat)) (fr:List Nat):TR β σ :=
 ac0 E args d F K (nK th) fr (ajG (nK th) F fr) (wF (kS d) (KA (nK th) (aY E.ai)))
def ac2 {β:Type} (E:CE) (args:List (SV σ)) (d:SS σ) (F:Nat) (K:(τ:Type)->(τ->σ)->SV τ->List (Nat×SO τ)->List Nat->Nat->TR β τ) (th:List (Nat×Option Nat)):TR β σ :=
 match Ox (nK th) (aY E.ri++aY E.ai) with
 | fr=>ac1 E args d F K th fr
def ac3 {β:Type} (E:CE) (args:List (SV σ)) (d:SS σ) (F:Nat) (K:(τ:Type)->(τ->σ)->SV τ->List (Nat×SO τ)->List Nat->Nat->TR β τ):TR β σ :=
 match namesT (⟨rX 0 args,d.hp⟩:SS σ) E.ai [] with
 | th=>ac2 E args d F K th
def trimS (os us:List (Nat×SO σ)) (n:List Nat):List (Nat×SO σ):=us.filter fun y => !kN y.1 (bP os)||kN y.1 n
end
def af5 (l:List Oper):Nat:=match (l.filterMap fun o=>o.guard).eraseDups with
 | []=>0
 | [_]=>1
 | _=>2
def Ey:Code->Nat
 | .region _ ops _=>match af5 ops.toList with | 2=>2 | _=>1
 | .seq a b=>match Ey a with
   | 0=>0
   | 1=>Ey b
   | _=>match Ey b with | 0=>0 | _=>2
 | .cond _ a b=>match Ey a,Ey b with
   | 0,n=>n
   | n,0=>n
   | _,_=>2
 | .exit _=>0
 | .ret=>0
 | .block id a=>match Ey a,exitsN id a with
   | 0,n=>n
   | n,0=>n
   | _,_=>2
 | .loop _=>0
 | .scope a=>Ey a
 | _=>1
where exitsN (id:Nat):Code->Nat
 | .seq a b=>match exitsN id a,exitsN id b with
   | 0,n=>n
   | n,0=>n
   | _,_=>2
 | .cond _ a b=>match exitsN id a,exitsN id b with
   | 0,n=>n
   | n,0=>n
   | _,_=>2
 | .exit i=>match decide (i=id) with | true=>1 | false=>0
 | .block _ a=>exitsN id a
 | .loop a=>exitsN id a
 | .scope a=>exitsN id a
 | _=>0
def vU:Code->Bool
 | .seq a b=>vU a||vU b
 | .cond _ a b=>vU a||vU b
 | .block _ a=>vU a
 | .loop _=>true
 | .scope a=>vU a
 | _=>false
def af6 (o:Oper):Bool:=match o.op with
 | .call c=>(match c.callee with
   | .value _=>true
   | _=>false)
 | _=>false
def Ez:Code->Nat
 | .seq a b=>Ez a+Ez b
 | .cond _ a b=>Ez a+Ez b+1
 | .block _ a=>Ez a
 | .loop a=>Ez a+10
 | .scope a=>Ez a
 | .region _ ops _=>ops.size+12*(ops.toList.filter af6).length
 | _=>0
def ac4 (a b:Code):Bool:=(vU a&&decide (0<Ez b))||(decide (2<=Ey a)&&decide (12<=Ez b))
def Ic:Code->Nat
 | .seq a b=>Ic a+Ic b
 | .cond _ a b=>Ic a+Ic b
 | .block _ a=>Ic a
 | .loop a=>Ic a
 | .scope a=>Ic a
 | .ret=>1
 | _=>0
def ajH (c:Code):Bool:=decide (2<=Ic c+Ey c)||vU c
inductive WD where
 | ask | go | join (its:List IT)
def aio (x:Option PL) (want:Bool):WD :=
 match x with
 | some (.carry its) => .join its
 | some .unroll => .go
 | some .once => .go
 | some .stop => .go
 | none=>match want with | true => .ask | false => .go
abbrev ano:Type 1:=(β:Type)->Nat->Nat->Nat->Code->(σ:Type)->SS σ->Nat->((τ:Type)->(τ->σ)->Exit->SS τ->Nat->TR β τ)->TR β σ
section
variable (T:Ty) (q:Nat->Bool) (tab:Nat->Option Func) (con:Nat->Option CE) (plan:Nat->Option PL)
def ajI {σ:Type} (rd:Nat->Option (SO σ)):List (SV σ)->Bool
 | []=>false
 | .sl r _ _ _ _::l=>match rd r with
   | some (.data _ _ _ true)=>true
   | _=>ajI rd l
 | _::l=>ajI rd l
def ajJ (con:Nat->Option CE) (f:Nat) (b:Bool):Option CE:=match decide (f<1000000000) with
 | false=>none
 | true=>match b with
   | true=>match con (1000000000+f) with
     | some E=>some E
     | none=>con f
   | false=>con f
def ac5 (rec:ano) (p:Nat) (β:Type):XE β:=fun i σ f args d F K =>
 match ajJ con f (ajI (kS d) args) with
 | some E=>match VR E with
   | true=>ajF E args d F K
   | false=>ac3 E args d F K
 | none=>match tab f with
   | none => .bad [f] "call of an unknown function"
   | some fn=>match fn.body with
     | none => .bad [f] "call without a body"
     | some c=>match wF (kS d) (C9 (kS d) 1000 (sV args) []) with
       | os=>match decide (args.length<=fn.ntmps)&&(Ew os&&Bf os (sV args)) with
         | false => .bad [f] "call: arguments"
         | true=>match aio (plan (p*512+16+i)) (ajH c) with
           | .ask=>yR (p*512+16+i) (2+8*f) (⟨[],os⟩:SS σ) (⟨[],os⟩:SS σ)
           | .join its=>match Ew (headD (⟨[],os⟩:SS σ) its).hp&&((headD (⟨[],os⟩:SS σ) its).hp.all fun y=>iP (kS d) y.1||kN y.1 (bP os)) with
             | false=>yR (p*512+16+i) (4+8*f) (⟨[],os⟩:SS σ) (⟨[],os⟩:SS σ)
             | true => .join (rec ((dF its).T ⊕ β) f fn.ntmps (p*512+16+i) c σ ⟨rX 0 args,os⟩ F (fun τ g e d' F'=>match ZL e with
                | false => .fail "call: exit"
                | true=>match Ib T d' fn.results.toList with
                  | none => .bad [f] "call: results"
                  | some xs=>Gi (p*512+16+i) (2+8*f) (⟨[],os⟩:SS σ) its (⟨rX 0 xs,d'.hp⟩:SS τ)))
               (K (σ×(dF its).T) Prod.fst (XO fn.results.size (headD (⟨[],os⟩:SS σ) its)) (jd its Prod.snd) (bP (headD (⟨[],os⟩:SS σ) its).hp) F)
           | .go=>rec β f fn.ntmps (p*512+16+i) c σ ⟨rX 0 args,os⟩ F (fun τ g e d' F'=>match ZL e with
             | false => .fail "call: exit"
             | true=>match Ib T d' fn.results.toList with
               | none => .bad [f] "call: results"
               | some xs=>match wF (kS d') (C9 (kS d') 1000 (sV xs++bP os) []) with
                 | us=>match (Ew us&&Bf us (sV xs))&&(Bf us (bP os)&&us.all fun y=>iP (kS d) y.1||kN y.1 (bP os)) with
                   | false => .bad [f] "call: back"
                   | true=>K τ g (pK xs) (trimS (jR g os) us (bP (d'.hp.take (d'.hp.length-os.length)))) (bP us) F')
variable (eg:Nat->Bool)
def sx:Nat->ano
 | 0,_,_,_,_,_,_,_,_,_ => .fail "fuel"
 | n+1,β,f,N,p,c,σ,d,F,K=>match c with
   | .skip=>K σ (fun s=>s) .normal d F
   | .label _=>K σ (fun s=>s) .normal d F
   | .exit id=>K σ (fun s=>s) (.exit id) d F
   | .ret=>K σ (fun s=>s) .ret d F
   | .region _ ops draw=>match !draw||Ht ops with
     | true=>Qa eg (ac5 T tab con plan (fun β f N p c σ d F K=>sx n β f N p c σ d F K) p β) T q N F ops draw (if draw then uz ops ops.size else []) (ab2 0 ops.toList) σ d [] (F+ops.size) (fun τ g d' F'=>K τ g .normal d' F')
     | false => .fail "region"
   | .seq a b=>match aio (plan (p*512+1)) (ac4 a b) with
     | .ask=>yR (p*512+1) (1+8*f) d d
     | .join its => .join (sx n ((dF its).T ⊕ β) f N (p*512) a σ d F (fun τ g e d' F'=>match e with
        | .normal=>Gi (p*512+1) (1+8*f) d its d'
        | e => .out (K τ g e d' F')))
       (sx n β f N (p*512+1) b (σ×(dF its).T) (headD d its) F (fun τ g e d' F'=>K τ (fun t=>(g t).1) e d' F'))
     | .go=>sx n β f N (p*512) a σ d F (fun τ g e d' F'=>match e with
        | .normal=>sx n β f N (p*512+1) b τ d' F' (fun τ' g' e d'' F''=>K τ' (fun t=>g (g' t)) e d'' F'')
        | e=>K τ g e d' F')
   | .cond x a b=>match xu d x with
     | .val (.bool t)=>match t with
       | true=>sx n β f N (p*512+2) a σ d F K
       | false=>sx n β f N (p*512+3) b σ d F K
     | .bool c=>match x with
       | .tmp t => .iff c (sx n β f N (p*512+2) a σ (CO d t true) F K) (sx n β f N (p*512+3) b σ (CO d t false) F K)
       | _ => .iff c (sx n β f N (p*512+2) a σ d F K) (sx n β f N (p*512+3) b σ d F K)
     | _ => .bad [p] "cond"
   | .block id a=>sx n β f N (p*512+4) a σ d F (fun τ g e d' F'=>match e with
     | .exit i=>match decide (i=id) with
       | true=>K τ g .normal d' F'
       | false=>K τ g (.exit i) d' F'
     | e=>K τ g e d' F')
   | .scope a=>sx n β f N (p*512+5) a σ d F (fun τ g e d' F'=>match e with
     | .goto _ => .fail "goto"
     | e=>K τ g e d' F')
   | .loop a=>match plan (p*512+6) with
     | some (.carry its)=>match Kv d its d with
       | none=>yR (p*512+6) (8*f) d d
       | some x=>Ed x.cs (.loop x.f (sx n ((dF its).T ⊕ β) f N (p*512+6) a (σ×(dF its).T) (headD d its) F (fun τ g e d' F'=>match e with
         | .normal=>Gi (p*512+6) (8*f) d its d'
         | e => .out (K τ (fun t=>(g t).1) e d' F'))))
     | some .unroll=>sx n β f N (p*512+6) a σ d F (fun τ g e d' F'=>match e with
        | .normal=>sx n β f N p (.loop a) τ d' F' (fun τ' g' e d'' F''=>K τ' (fun t=>g (g' t)) e d'' F'')
        | e=>K τ g e d' F')
     | some .once=>sx n β f N (p*512+6) a σ d F (fun τ g e d' F'=>match e with
        | .normal=>match plan ((p*512+7)*512+6) with
          | some (.carry _) => .fail "rounds"
          | _=>sx n β f N (p*512+7) (.loop a) τ d' F' (fun τ' g' e d'' F''=>K τ' (fun t=>g (g' t)) e d'' F'')
        | e=>K τ g e d' F')
     | some .stop => .fail "rounds"
     | none=>yR (p*512+6) (8*f) d d
   | _ => .bad [p] "code"
def anp (fn:Func) (ri:List IT):(τ:Type)->Exit->SS τ->TR (dF ri).T τ:=fun τ e d'=>match ZL e with
 | false => .fail "exit"
 | true=>match Ib T d' fn.results.toList with
   | none => .fail "results"
   | some xs=>match pO (kS d') ri xs with
     | some p=>Ed p.cs (.ret p.f)
     | none => .note ⟨0,3,viT (kS d') (rX 0 xs),[],[],[]⟩
def ac6 (n f:Nat) (fn:Func) (ai ri:List IT):TR (dF ri).T (dF ai).T:=match fn.body with
 | some c=>sx T q tab con plan eg n (dF ri).T f fn.ntmps 1 c (dF ai).T ⟨oH ai (fun s=>s),[]⟩ 0 (fun τ _ e d' _=>anp T fn ri τ e d')
 | none => .fail "no body"
def anq (fn:Func) (ai ri:List IT):(τ:Type)->Exit->SS τ->TR (dF ri).T τ:=fun τ e d'=>match ZL e with
 | false => .fail "exit"
 | true=>match Ib T d' fn.results.toList with
   | none => .fail "results"
   | some xs=>match Kv (⟨[],jd ai (fun s=>s)⟩:SS (dF ai).T) ri (⟨rX 0 xs,d'.hp⟩:SS τ) with
     | some p=>Ed p.cs (.ret p.f)
     | none=>match af4 (⟨rX 0 xs,d'.hp⟩:SS τ) ri with
       | true => .fail "cut"
       | false=>yR 0 2 (⟨[],jd ai (fun s=>s)⟩:SS (dF ai).T) (⟨rX 0 xs,d'.hp⟩:SS τ)
def aip (n f:Nat) (fn:Func) (ai ri:List IT):TR (dF ri).T (dF ai).T:=match fn.body with
 | some c=>sx T q tab con plan eg n (dF ri).T f fn.ntmps 1 c (dF ai).T ⟨oH ai (fun s=>s),jd ai (fun s=>s)⟩ 0 (fun τ _ e d' _=>anq T fn ai ri τ e d')
 | none => .fail "no body"
end
theorem af7 {hp:Nat->Option AO} {us us':List (Nat×AO)} (h:∀r,look r us'=look r us\/(look r us'=none/\∀o,look r us=some o->hp r=some o)):dU hp us=dU hp us':=by
 funext r;unfold dU;rcases h r with e | ⟨e1,e2⟩
 ·rw [e]
 ·rw [e1];cases hl:look r us with
  | none=>rfl
  | some o=>exact (e2 o hl).symm
theorem Gj {P:Program} {GL:Nat->Option (List DV)} {f:FuncId} {args:List AV} {rds:List Nat} {v:AV} {us us':List (Nat×AO)} {hp:Nat->Option AO} (h:Does P GL f args rds v us hp)
 (hu:∀r,look r us'=look r us\/(look r us'=none/\∀o,look r us=some o->r∈rds/\hp r=some o)):Does P GL f args rds v us' hp:=fun E w vs hrd hw hs hrel=>by
 refine (h E w vs hrd hw hs hrel).mono ?_;rintro e w' ⟨u,E',h1,h2,h3⟩;refine ⟨u,E',h1,⟨h2.h,?_,h2.ext,h2.sim,h2.fr⟩,h3⟩;rw [h2.hp];refine af7 fun r => ?_;rcases hu r with e | ⟨e1,e2⟩
 ·exact .inl e
 ·exact .inr ⟨e1,fun o ho=>by rw [hrd r (e2 o ho).1];exact (e2 o ho).2⟩
def kD (xs:List AV):AV:=match xs with | [x]=>x | xs => .tup xs
theorem oI {σ:Type} (s:σ) (xs:List (SV σ)):(pK xs).c s=kD (cL s xs):=by
 cases xs with
 | nil=>show (SV.tup []).c s=_;rw [SV.c];rfl
 | cons x xs=>cases xs with
   | nil=>rfl
   | cons y ys=>show (SV.tup (x::y::ys)).c s=_;rw [SV.c];rfl
def ac7 (P:Program) (f:Nat) (E:CE):Prop :=
 xZ P f=true/\match E with
 | ⟨ai,[.tmp _ false [.own _ e u]],G⟩=>∀a (x:List u.T),G a=some x->fB P iV f ((lT ai a).map (·.2)) [] (.sl 1 0 x.length none) [(1,.data e (fH u) (aU u x) true)]
 | E=>∀a r,E.F a=some r->fB P iV f ((lT E.ai a).map (·.2)) [] (kD ((lT E.ri r).map (·.2))) []
def af8 (P:Program) (f:Nat) (E:CE):Prop:=xZ P f=true/\∀a r,E.F a=some r->fB P iV f ((lT E.ai a).map (·.2)) (ou E.ai a) (kD ((lT E.ri r).map (·.2))) (ou E.ri r++ou E.ai a)
def aS (P:Program) (f:Nat) (E:CE):Prop:=match VR E with
 | true=>ac7 P f E
 | false=>af8 P f E
theorem ac7.mk {P:Program} {f:Nat} {ai ri:List IT} {G:(dF ai).T->Option (dF ri).T} (h1:xZ P f=true) (hd:jr ri=true) (h:∀a r,G a=some r->fB P iV f ((lT ai a).map (·.2)) [] (kD ((lT ri r).map (·.2))) []):ac7 P f ⟨ai,ri,G⟩:=by
 refine ⟨h1,?_⟩;split
 ·rename_i heq;cases heq;simp [jr,IV] at hd
 ·exact h
theorem aS.mk {P:Program} {f:Nat} {ai ri:List IT} {G:(dF ai).T->Option (dF ri).T} (h1:xZ P f=true) (ha:jr ai=true) (hd:jr ri=true) (h:∀a r,G a=some r->fB P iV f ((lT ai a).map (·.2)) [] (kD ((lT ri r).map (·.2))) []):aS P f ⟨ai,ri,G⟩:=by
 have e:VR ⟨ai,ri,G⟩=true:=by unfold VR;simp only [ha,hd,Bool.true_or,Bool.and_self]
 unfold aS;rw [e];exact ac7.mk h1 hd h
theorem IJ.mono {hp:Nat->Option AO} {rds rds':List Nat} (hs:∀r∈rds,r∈rds'):∀ {F:List (Nat×AO)},IJ rds hp F->IJ rds' hp F
 | [],_=>trivial
 | (r,o)::l,h=>⟨hs r h.1,h.2.1,IJ.mono hs h.2.2⟩
section
variable {σ:Type} {s:σ} {rd:Nat->Option (SO σ)}
theorem ajK (l:List (Nat×SV σ)):cL s (l.map (·.2))=(cT s l).map (·.2):=by
 induction l with
 | nil=>rfl
 | cons x l ih=>obtain ⟨t,v⟩:=x;rw [List.map_cons,cL,ih,cT,List.map_cons]
theorem XP (its:List IT) (f:σ->(dF its).T):(XM its f).c s=kD ((lT its (f s)).map (·.2)):=by
 unfold XM;rw [oI,ajK,uS]
def yD (rd:Nat->Option (SO σ)) (fz:List (Nat×SO σ)):Prop:=∀x∈fz,∃e u f wr,rd x.1=some (.data e u f wr)/\x.2 = .data e u f false
theorem yD.nil:yD rd []:=fun x hx=>by cases hx
theorem yD.append {a b:List (Nat×SO σ)} (h:yD rd a) (k:yD rd b):yD rd (a++b):=fun x hx=>by
 rcases List.mem_append.1 hx with e | e
 ·exact h x e
 ·exact k x e
theorem ajL {t:U} {v:SV σ} {p:PK σ (List t.T)} (hp:pkL rd t v=some p):yD rd p.fz:=by
 unfold pkL at hp;split at hp
 ·split at hp
  ·cases hp;exact yD.nil
  ·cases hp
 ·cases hp;exact yD.nil
 ·rename_i r z o n cap;split at hp
  ·rename_i e u f wr hr;split at hp
   ·cases hp;intro x hx;rw [List.mem_singleton] at hx;subst hx;exact ⟨e,u,f,wr,hr,rfl⟩
   ·cases hp
  ·cases hp
 ·cases hp
theorem ajM {t:U} {v:SV σ} {p:PK σ (List t.T)} (hp:pkL rd t v=some p) (hc:allT s p.cs) {F:Nat->Option AO} (hF:∀r e u f wr,rd r=some (.data e u f wr)->r∈p.fz.map (·.1)->F r=some (.data e (fH u) (aU u (f s)) false)) :
 Pq F (.d (.dl (aU t (p.f s)) (p.f s).length none)) (v.c s):=by
 unfold pkL at hp;split at hp
 ·split at hp
  ·rename_i hk _;subst hk;cases hp;rw [SV.c,Pq];exact .inl rfl
  ·cases hp
 ·cases hp;rw [SV.c,Pq];exact .inr rfl
 ·rename_i r z o n cap;split at hp
  ·rename_i e u f wr hr;split at hp
   ·rename_i hk _ hz;subst hk;cases hp;have hz:=of_decide_eq_true hz;have h1:=yx hc.1;rw [SV.c,Pq];unfold TdD;simp only [hF r e u f wr hr (by simp)];refine .inl ?_;show DV.dl (aU u (rowP o n f s)) (rowP o n f s).length none=_;rw [vS,hz,jl,gG,List.length_take,List.length_drop,Nat.min_eq_left (by omega)]
   ·cases hp
  ·cases hp
 ·cases hp
theorem ac8 {F:Nat->Option AO} {x:DV} {y:AV} (h:y = .d x):Pq F (.d x) y:=by subst h;rw [Pq];exact .inl rfl
theorem ajN:∀(c:CS) (v:SV σ) (p:PK σ (uC c).T),IV [c]=true->Qb rd c v=some p->allT s p.cs ->
 yD rd p.fz/\∀F:Nat->Option AO,(∀r e u f wr,rd r=some (.data e u f wr)->r∈p.fz.map (·.1)->F r=some (.data e (fH u) (aU u (f s)) false))->Pq F (aC c (p.f s)) (v.c s)
 | .dat u,v,p,hd,hp,hc=>by
   simp only [Qb] at hp;split at hp
   ·rename_i hs;cases u with
    | int k =>
      simp only [IL] at hp;split at hp
      ·rename_i k' f hf;split at hp
       ·rename_i hk _;obtain ⟨hk⟩:=hk;subst hk;cases hp;exact ⟨yD.nil,fun F _=>ac8 (nU hf s)⟩
       ·cases hp
      ·cases hp
    | bool =>
      simp only [IL] at hp;split at hp
      ·rename_i f hf;cases hp;exact ⟨yD.nil,fun F _=>ac8 (zK hf s)⟩
      ·cases hp
    | str =>
      simp only [IL] at hp;split at hp
      ·rename_i f hf;cases hp;exact ⟨yD.nil,fun F _=>ac8 (sU hf s)⟩
      ·cases hp
    | list t =>
      simp only [IL] at hp;exact ⟨ajL hp,fun F hF=>ajM hp hc hF⟩
    | pair a b=>cases hs
    | unit=>cases hs
   ·cases hp
 | .own r e u,v,p,hd,hp,hc=>by cases hd
 | .nil,v,p,hd,hp,hc=>by cases hd
 | .np,v,p,hd,hp,hc=>by cases hd
 | .pt r off,v,p,hd,hp,hc=>by cases hd
 | .cl f caps,v,p,hd,hp,hc=>by cases hd
theorem Qq:∀(cs:List CS) (vs:List (SV σ)) (p:PK σ (jm cs).T),IV cs=true->IU rd cs vs=some p->allT s p.cs ->
 yD rd p.fz/\∀F:Nat->Option AO,(∀r e u f wr,rd r=some (.data e u f wr)->r∈p.fz.map (·.1)->F r=some (.data e (fH u) (aU u (f s)) false))->MH F (oV cs (p.f s)) (cL s vs)
 | [],[],p,hd,hp,hc=>by
   simp only [IU] at hp;cases hp;refine ⟨yD.nil,fun F _ => ?_⟩;rw [cL,show oV [] ()=[] from rfl,MH]
 | c::cs,v::vs,p,hd,hp,hc=>by
   rw [IU] at hp;split at hp
   ·rename_i x y hx hy;cases hp;rw [cu] at hc;have e1:jE (uC c) (jm cs) (wM (uC c) (jm cs) (x.f s) (y.f s))=x.f s:=jZ _ _ _ _;have e2:kP (uC c) (jm cs) (wM (uC c) (jm cs) (x.f s) (y.f s))=y.f s:=kT _ _ _ _;have hd1:IV [c]=true:=by cases c<;>first | rfl | cases hd
    have hd2:IV cs=true:=by cases c<;>first | exact hd | cases hd
    obtain ⟨a1,a2⟩:=ajN c v x hd1 hx hc.1;obtain ⟨b1,b2⟩:=Qq cs vs y hd2 hy hc.2;refine ⟨a1.append b1,fun F hF => ?_⟩;rw [cL];simp only [oV,e1,e2];rw [MH];exact ⟨_,_,rfl,a2 F fun r e u f wr hr hm=>hF r e u f wr hr (by rw [List.map_append];exact List.mem_append_left _ hm),b2 F fun r e u f wr hr hm=>hF r e u f wr hr (by rw [List.map_append];exact List.mem_append_right _ hm)⟩
   ·cases hp
 | [],_::_,p,_,hp,_=>by cases hp
 | _::_,[],p,_,hp,_=>by cases hp
theorem xB:∀(ai:List IT) (vs:List (SV σ)) (p:PK σ (dF ai).T),jr ai=true->pO rd ai vs=some p->allT s p.cs ->
 yD rd p.fz/\∀F:Nat->Option AO,(∀r e u f wr,rd r=some (.data e u f wr)->r∈p.fz.map (·.1)->F r=some (.data e (fH u) (aU u (f s)) false))->MH F ((lT ai (p.f s)).map (·.2)) (cL s vs)
 | [],[],p,hd,hp,hc=>by
   simp only [pO] at hp;cases hp;refine ⟨yD.nil,fun F _ => ?_⟩;rw [cL];show MH F [] [];rw [MH]
 | .tmp t false cs::l,v::vs,p,hd,hp,hc=>by
   rw [pO] at hp;rw [jr,Bool.and_eq_true] at hd;split at hp
   ·rename_i x y hx hy;cases hp;rw [cu] at hc;have e1:jE (uI (.tmp t false cs)) (dF l) (wM (jm cs) (dF l) (x.f s) (y.f s))=x.f s:=jZ _ _ _ _;have e2:kP (uI (.tmp t false cs)) (dF l) (wM (jm cs) (dF l) (x.f s) (y.f s))=y.f s:=kT _ _ _ _;obtain ⟨a1,a2⟩:=Qq cs [v] x hd.1 hx hc.1;obtain ⟨b1,b2⟩:=xB l vs y hd.2 hy hc.2;refine ⟨a1.append b1,fun F hF => ?_⟩;have hA:=a2 F fun r e u f wr hr hm=>hF r e u f wr hr (by rw [List.map_append];exact List.mem_append_left _ hm);have hB:=b2 F fun r e u f wr hr hm=>hF r e u f wr hr (by rw [List.map_append];exact List.mem_append_right _ hm);rw [cL,cL] at hA;rw [cL];simp only [lT,e1,e2,List.map_append];show MH F (nV (oV cs (x.f s))::(lT l (y.f s)).map (·.2)) _;rw [MH];refine ⟨_,_,rfl,?_,hB⟩;generalize oV cs (x.f s)=ys at hA ⊢;cases ys with
    | nil=>rw [MH] at hA;cases hA
    | cons y ys =>
      rw [MH] at hA;obtain ⟨x,xs,h1,h2,h3⟩:=hA;cases h1;cases ys with
      | nil=>exact h2
      | cons z zs=>rw [MH] at h3;obtain ⟨_,_,h4,_⟩:=h3;cases h4
   ·cases hp
 | .tmp t true cs::l,v::vs,p,hd,hp,hc=>by
   rw [jr,Bool.and_eq_true] at hd;cases v with
   | agg ws =>
     simp only [pO] at hp;split at hp
     ·rename_i x y hx hy;cases hp;rw [cu] at hc;have e1:jE (uI (.tmp t true cs)) (dF l) (wM (jm cs) (dF l) (x.f s) (y.f s))=x.f s:=jZ _ _ _ _;have e2:kP (uI (.tmp t true cs)) (dF l) (wM (jm cs) (dF l) (x.f s) (y.f s))=y.f s:=kT _ _ _ _;obtain ⟨a1,a2⟩:=Qq cs ws x hd.1 hx hc.1;obtain ⟨b1,b2⟩:=xB l vs y hd.2 hy hc.2;refine ⟨a1.append b1,fun F hF => ?_⟩;have hA:=a2 F fun r e u f wr hr hm=>hF r e u f wr hr (by rw [List.map_append];exact List.mem_append_left _ hm);have hB:=b2 F fun r e u f wr hr hm=>hF r e u f wr hr (by rw [List.map_append];exact List.mem_append_right _ hm);rw [cL];simp only [lT,e1,e2,List.map_append];show MH F (.agg (oV cs (x.f s))::(lT l (y.f s)).map (·.2)) _;rw [MH];refine ⟨_,_,rfl,?_,hB⟩;rw [SV.c,Pq];exact ⟨_,rfl,hA⟩
     ·cases hp
   | _=>simp only [pO] at hp;cases hp
 | [],_::_,p,_,hp,_=>by cases hp
 | .tmp _ true _::_,[],p,_,hp,_=>by cases hp
 | .tmp _ false _::_,[],p,_,hp,_=>by cases hp
 | .mix _ _::_,_,p,hd,_,_=>by cases hd
 | .row _ _ _::_,_,p,hd,_,_=>by cases hd
 | .arr _ _::_,_,p,hd,_,_=>by cases hd
 | .mp _::_,_,p,hd,_,_=>by cases hd
 | .drop _::_,_,p,hd,_,_=>by cases hd
 | .dead _::_,_,p,hd,_,_=>by cases hd
theorem TA {N:Nat} {d:SS σ} {fz:List (Nat×SO σ)} (h:yD (kS d) fz):∀(l:List (Nat×SO σ)),(∀x∈l,x∈fz)->IJ (bP fz) (d.c s N).rd (cO s l)
 | [],_=>trivial
 | (r,o)::l,hl=>by
   obtain ⟨e,u,f,wr,h1,h2⟩:=h (r,o) (hl _ List.mem_cons_self);rw [cO,IJ];refine ⟨?_,⟨e,fH u,aU u (f s),wr,?_,?_⟩,TA h l fun x hx=>hl x (List.mem_cons_of_mem _ hx)⟩
   ·have:∀l:List (Nat×SO σ),(r,o)∈l->r∈bP l:=by
     intro l
     induction l with
     | nil=>intro h;cases h
     | cons x l ih =>
       intro h;obtain ⟨k,y⟩:=x;rw [bP];rcases List.mem_cons.1 h with e | e
       ·cases e;exact List.mem_cons_self
       ·exact List.mem_cons_of_mem _ (ih e)
    exact this fz (hl _ List.mem_cons_self)
   ·rw [<-mG];simp only [iO];simp only at h1;rw [h1];rfl
   ·simp only at h2;rw [h2];rfl
theorem Qr {fz:List (Nat×SO σ)} (h:yD rd fz) {r e:Nat} {u:U} {f:σ->List u.T} {wr:Bool} (hr:rd r=some (.data e u f wr)) (hm:r∈fz.map (·.1)):aV (cO s fz) r=some (.data e (fH u) (aU u (f s)) false):=by
 unfold aV;rw [lD]
 induction fz with
 | nil=>cases hm
 | cons x fz ih =>
   obtain ⟨k,o⟩:=x;rw [look];by_cases hk:k=r
   ·subst hk;rw [if_pos rfl];obtain ⟨e',u',f',wr',h1,h2⟩:=h (k,o) List.mem_cons_self;rw [hr] at h1;cases h1;simp only at h2;rw [h2];rfl
   ·rw [if_neg hk];rw [List.map_cons] at hm;rcases List.mem_cons.1 hm with e1 | e1
    ·exact (hk e1.symm).elim
    ·exact ih (fun x hx=>h x (List.mem_cons_of_mem _ hx)) e1
theorem Gl:∀(cs:List CS) (x:(jm cs).T),IV cs=true->AV.refs.refsL (oV cs x)=[]
 | [],x,_=>rfl
 | .dat u::cs,x,h=>by
   rw [oV,AV.refs.refsL,Gl cs _ h,List.append_nil];cases u<;>simp [aC,dZ,eG,AV.refs]
theorem VT {l:List AV} (h:AV.refs.refsL l=[]):(nV l).refs=[]:=by
 cases l with
 | nil=>simp [nV,AV.refs]
 | cons x l =>
   rw [AV.refs.refsL,List.append_eq_nil_iff] at h;cases l with
   | nil=>exact h.1
   | cons y l=>simp [nV,AV.refs]
theorem rY:∀(ai:List IT) (x:(dF ai).T),jr ai=true->AV.refs.refsL ((lT ai x).map (·.2))=[]
 | [],x,_=>rfl
 | .tmp t true cs::l,x,h=>by
   rw [jr,Bool.and_eq_true] at h;show AV.refs.refsL (.agg (oV cs _)::(lT l _).map (·.2))=[]
   rw [AV.refs.refsL,rY l _ h.2,List.append_nil,AV.refs];exact Gl cs _ h.1
 | .tmp t false cs::l,x,h=>by
   rw [jr,Bool.and_eq_true] at h;show AV.refs.refsL (nV (oV cs _)::(lT l _).map (·.2))=[]
   rw [AV.refs.refsL,rY l _ h.2,List.append_nil];exact VT (Gl cs _ h.1)
theorem uT:∀(cs:List CS) (x:(jm cs).T),Ou cs=true->qy (oV cs x)=true
 | [],x,_=>rfl
 | .dat (.int k)::cs,x,h=>by rw [oV,qy,uT cs _ h];rfl
 | .dat .bool::cs,x,h=>by rw [oV,qy,uT cs _ h];rfl
 | .dat .str::cs,x,h=>by rw [oV,qy,uT cs _ h];rfl
theorem VU {l:List AV} (h:qy l=true) (hn:l.length=1):(nV l).flat=true:=by
 cases l with
 | nil=>cases hn
 | cons x l =>
   rw [qy,Bool.and_eq_true] at h;cases l with
   | nil=>exact h.1
   | cons y l=>simp at hn
theorem XQ:∀(cs:List CS) (x:(jm cs).T),(oV cs x).length=cs.length
 | [],_=>rfl
 | c::cs,x=>by rw [oV,List.length_cons,List.length_cons,XQ cs]
theorem Dc:∀(ri:List IT) (x:(dF ri).T),Ov ri=true->qy ((lT ri x).map (·.2))=true
 | [],x,_=>rfl
 | .tmp t true cs::l,x,h=>by
   rw [Ov] at h;simp only [Bool.and_eq_true] at h;show qy (.agg (oV cs _)::(lT l _).map (·.2))=true;rw [qy,Dc l _ h.2,Bool.and_true,AV.flat];exact uT cs _ h.1
 | .tmp t false cs::l,x,h=>by
   rw [Ov] at h;simp only [Bool.and_eq_true,decide_eq_true_eq] at h;show qy (nV (oV cs _)::(lT l _).map (·.2))=true;rw [qy,Dc l _ h.2,Bool.and_true];exact VU (uT cs _ h.1.1) ((XQ cs _).trans h.1.2)
theorem ac9 {l:List AV} (h:qy l=true):(kD l).flat=true:=by
 cases l with
 | nil=>exact h
 | cons x l=>cases l with
   | nil=>rw [qy,Bool.and_eq_true] at h;exact h.1
   | cons y l=>exact h
end
theorem XR {β σ α:Type} {f:σ->Option α} {r:TR β (σ×α)} {s:σ} {b:β} (h:(TR.bnd f r).run s=some b):∃a,f s=some a/\r.run (s,a)=some b:=by
 rw [TR.run] at h;cases hf:f s with
 | none=>rw [hf] at h;cases h
 | some a=>rw [hf] at h;exact ⟨a,rfl,h⟩
theorem af9 {P:Program} {σ:Type} {β:Type} {N f:Nat} {E:CE} (hE:ac7 P f E) {args:List (SV σ)} {d:SS σ} {F:Nat} {K:(τ:Type)->(τ->σ)->SV τ->List (Nat×SO τ)->List Nat->Nat->TR β τ} {s:σ} {b:β} (h:(ajF E args d F K).run s=some b) :
 ∃(τ:Type) (g:τ->σ) (s':τ) (v:SV τ) (us:List (Nat×SO τ)) (rds:List Nat) (F':Nat),g s'=s/\xZ P f=true/\Does P iV f (cL s args) rds (v.c s') (cO s' us) (d.c s N).rd/\(K τ g v us rds F').run s'=some b:=by
 unfold ajF at h;split at h
 ·rename_i ai _ _ e u G;split at h
  ·rw [TR.run] at h;cases h
  ·rename_i pa hpa;split at h
   ·rw [TR.run] at h;cases h
   ·rename_i hd;rw [Bool.and_eq_true] at hd;obtain ⟨hd,hn⟩:=hd;obtain ⟨h1,h2⟩:=ru h;obtain ⟨x,hf,h2⟩:=XR (α:=List u.T) h2;obtain ⟨a1,a2⟩:=xB (s:=s) ai args pa hd hpa h1;have hF:(d.c s N).rd F=none:=by rw [<-mG s N d];exact Option.not_isSome_iff_eq_none.1 (uP s hn)
    have hFz:look F (cO s pa.fz)=none:=by
     cases hl:look F (cO s pa.fz) with
     | none=>rfl
     | some o =>
       obtain ⟨k1,e1,s1,c1,w1,g1,g2⟩:=Vf (TA (N:=N) (s:=s) a1 pa.fz fun x hx=>hx) _ _ (bI hl);rw [hF] at g1;cases g1
    refine ⟨_,Prod.fst,(s,x),_,_,_,F+1,rfl,hE.1,?_,h2⟩;have e1:cO (s,x) (((F,.data e u (fun t=>t.2) true)::jR Prod.fst pa.fz:List (Nat×SO (σ×List u.T))))=[(F,.data e (fH u) (aU u x) true)]++cO s pa.fz:=by
     rw [cO,qY,SO.c];rfl
    have e2:(SV.sl F (fH u) none (fun t=>t.2.length) .unk:SV (σ×List u.T)).c (s,x) = .sl F 0 x.length none:=by
     rw [SV.c];simp [wz,rW]
    rw [e1,e2];refine Hu (args':=(lT ai (pa.f s)).map (·.2)) (F:=cO s pa.fz) ?_ (IJ.mono (fun r hr=>List.mem_cons_of_mem _ hr) (TA a1 pa.fz fun x hx=>hx)) (a2 _ fun r e u f wr hr hm=>Qr a1 hr hm);exact ab5 (ZO (r:=F) (hE.2 _ _ hf) (rY _ _ hd) (by unfold dU;rw [hFz];exact hF)) (by simp)
 ·rename_i hno;have hE2:∀a r,E.F a=some r->fB P iV f ((lT E.ai a).map (·.2)) [] (kD ((lT E.ri r).map (·.2))) []:=by
   have:=hE.2;split at this
   ·exact (hno _ _ _ _ _ _ rfl).elim
   ·exact this
  split at h
  ·rw [TR.run] at h;cases h
  ·rename_i pa hpa;split at h
   ·rw [TR.run] at h;cases h
   ·rename_i hd;rw [Bool.and_eq_true] at hd;have key:∀ {t:TR β (σ×(dF E.ri).T)},(Ed pa.cs (.bnd (fun s=>E.F (pa.f s)) t)).run s=some b->allT s pa.cs/\∃r,E.F (pa.f s)=some r/\t.run (s,r)=some b:=fun {t} ht=>by
     obtain ⟨h1,h2⟩:=ru ht;rw [TR.run] at h2;cases hf:E.F (pa.f s) with
     | none=>rw [hf] at h2;cases h2
     | some r=>rw [hf] at h2;exact ⟨h1,r,rfl,h2⟩
    split at h
    ·rename_i hfl;obtain ⟨h1,r,h2,h3⟩:=key h;obtain ⟨a1,a2⟩:=xB (s:=s) E.ai args pa hd.1 hpa h1;refine ⟨_,Prod.fst,(s,r),_,_,_,F,rfl,hE.1,?_,h3⟩;rw [XP];exact Zy (F:=cO s pa.fz) (hE2 _ _ h2) (ac9 (Dc _ _ hfl)) (TA a1 pa.fz fun x hx=>hx) (a2 _ fun r e u f wr hr hm=>Qr a1 hr hm) (rY _ _ hd.1)
    ·obtain ⟨h1,r,h2,h3⟩:=key h;obtain ⟨a1,a2⟩:=xB (s:=s) E.ai args pa hd.1 hpa h1;refine ⟨_,Prod.fst,(s,r),_,_,_,F,rfl,hE.1,?_,h3⟩;rw [XP,qY];refine Hu (us:=[]) (F:=cO s pa.fz) ?_ (TA a1 pa.fz fun x hx=>hx) (a2 _ fun r e u f wr hr hm=>Qr a1 hr hm);refine qI (hE2 _ _ h2) (fun p hp=>(by cases hp)) rfl ?_ (fun p hp=>(by cases hp)) rfl;rw [rY _ _ hd.1];rfl
section
variable {σ τ:Type}
theorem mX {l:List (Nat×SO σ)} {r:Nat}:r∈bP l↔∃o,(r,o)∈l:=by
 induction l with
 | nil=>simp [bP]
 | cons x l ih =>
   obtain ⟨k,o⟩:=x;rw [bP,List.mem_cons,ih];constructor
   ·rintro (rfl | ⟨o',h⟩)
    ·exact ⟨o,List.mem_cons_self⟩
    ·exact ⟨o',List.mem_cons_of_mem _ h⟩
   ·rintro ⟨o',h⟩;rcases List.mem_cons.1 h with e | e
    ·cases e;exact .inl rfl
    ·exact .inr ⟨o',e⟩
theorem uU {l:List (Nat×SO σ)} {s:σ} {r:Nat} (h:r∈bP l):(look r (cO s l)).isSome=true:=by
 rw [lD];obtain ⟨o,ho⟩:=mX.1 h;obtain ⟨w,hw⟩:=jT ho;rw [hw];rfl
theorem Bh {os:List (Nat×SO σ)} {rs:List Nat} {s:σ} (h:Bf os rs=true):yP (cO s os) rs=true:=by
 unfold yP;refine List.all_eq_true.2 fun r hr => ?_;exact uU (ig.1 (List.all_eq_true.1 h r hr))
theorem qL {l:List (Nat×SO σ)} {s:σ} {x:Nat×AO} (h:x∈cO s l):∃o,(x.1,o)∈l/\x.2=o.c s:=by
 induction l with
 | nil=>cases h
 | cons y l ih =>
   obtain ⟨k,o⟩:=y;rw [cO] at h;rcases List.mem_cons.1 h with e | e
   ·subst e;exact ⟨o,List.mem_cons_self,rfl⟩
   ·obtain ⟨o',h1,h2⟩:=ih e;exact ⟨o',List.mem_cons_of_mem _ h1,h2⟩
theorem Bj {os:List (Nat×SO σ)} {s:σ} (h:Ew os=true):((cO s os).all fun p=>yP (cO s os) (DY p.2))=true:=by
 refine List.all_eq_true.2 fun x hx => ?_;obtain ⟨o,h1,h2⟩:=qL hx;rw [h2,Qj];exact Bh (List.all_eq_true.1 h _ h1)
theorem uV {rd:Nat->Option (SO σ)}:∀ {l:List Nat} {x:Nat×SO σ},x∈wF rd l->rd x.1=some x.2
 | [],x,h=>by cases h
 | r::l,x,h=>by
   rw [wF] at h;split at h
   ·rename_i o ho;rcases List.mem_cons.1 h with e | e
    ·subst e;exact ho
    ·exact uV e
   ·exact uV h
theorem KC (s:σ):∀(i:Nat) (l:List (SV σ)),cT s (rX i l)=jw i (cL s l)
 | i,[]=>rfl
 | i,x::l=>by rw [rX,cT,KC s (i+1) l,cL];rfl
theorem aga {T:Ty} {d:SS σ} {s:σ} {N:Nat} {r:ResultVar} {v:SV σ} (h:XL T d r=some v):JC T (d.c s N) r=some (v.c s):=by
 have hget:∀t,(d.c s N).get t=(match jH t d.tm with | some x=>x | none => .junk:SV σ).c s:=fun t=>by
  unfold SL.get SS.c;simp only [pJ];rw [jQ];cases look t d.tm with
  | none=>simp only [Option.map_none];rw [SV.c]
  | some x=>rfl
 cases r with
 | tmp t =>
   simp only [XL,Option.some.injEq] at h;subst h;exact congrArg some (hget t)
 | cell a t =>
   simp only [XL] at h;split at h
   ·rename_i i r off hT hl;split at h
    ·rename_i cs hr;show RJ T (d.c s N).rd t ((d.c s N).get a)=_;rw [hget,hl,<-mG];unfold RJ;simp only [hT,SV.c,iO,hr,Option.map_some,SO.c];exact yj s h
    ·cases h
   ·cases h
theorem Jb {T:Ty} {d:SS σ} {s:σ} {N:Nat}:∀(l:List ResultVar) (xs:List (SV σ)),Ib T d l=some xs->yg T (d.c s N) l=some (cL s xs)/\xs.length=l.length
 | [],xs,h=>by cases h;exact ⟨rfl,rfl⟩
 | r::l,xs,h=>by
   rw [Ib] at h;split at h
   ·rename_i x ys hx hy;cases h;obtain ⟨a,b⟩:=Jb l ys hy;rw [yg,aga hx,a];exact ⟨rfl,by rw [List.length_cons,List.length_cons,b]⟩
   ·cases h
theorem Qs {T:Ty} {d:SS σ} {s:σ} {N:Nat} {fn:Func} {xs:List (SV σ)} (h:Ib T d fn.results.toList=some xs):DU T fn (d.c s N)=some ((pK xs).c s):=by
 unfold DU;rw [(Jb _ _ h).1,oI];generalize cL s xs=ys;cases ys with
 | nil=>rfl
 | cons y ys=>cases ys with
   | nil=>rfl
   | cons z zs=>rfl
theorem aac {d:SS σ} {g:τ->σ} {d':SS τ} (h:Grow d g d') {r:Nat} (hr:(look r d.hp).isSome=true):(look r d'.hp).isSome=true:=by
 obtain ⟨_,l,e⟩:=h;rw [e,bU];cases look r l with
 | some x=>rfl
 | none =>
   simp only;have:∀l:List (Nat×SO σ),look r (jR g l)=(look r l).map (SO.map g):=by
    intro l
    induction l with
    | nil=>rfl
    | cons x l ih =>
      obtain ⟨k,v⟩:=x;rw [jR,look,look];split
      ·rfl
      ·exact ih
   rw [this];cases hl:look r d.hp with
   | none=>rw [hl] at hr;cases hr
   | some w=>rfl
theorem zX {α:Type} (q:Nat->Bool) (r:Nat):∀l:List (Nat×α),look r (l.filter fun y=>q y.1)=if q r=true then look r l else none
 | []=>by simp [look]
 | (k,x)::l=>by
   rw [List.filter_cons];have ih:=zX q r l;by_cases hk:k=r
   ·subst hk;by_cases hq:q k=true
    ·simp only [hq,if_true];rw [look,if_pos rfl,look,if_pos rfl]
    ·rw [if_neg hq,ih,if_neg hq,if_neg hq]
   ·by_cases hq:q k=true
    ·simp only [hq,if_true];rw [look,if_neg hk,look,if_neg hk];exact ih
    ·rw [if_neg hq,ih,look,if_neg hk]
theorem Bl (s:σ) (q:Nat->Bool):∀l:List (Nat×SO σ),cO s (l.filter fun y=>q y.1)=(cO s l).filter fun y=>q y.1
 | []=>rfl
 | (k,x)::l=>by
   rw [cO,List.filter_cons,List.filter_cons];cases hq:q k with
   | true=>simp only [if_true];rw [cO,Bl s q l]
   | false=>simp only [Bool.false_eq_true,if_false];exact Bl s q l
theorem qM {β:Type} {p kind:Nat} {d:SS σ} {its:List IT} {d':SS τ} {s:τ} {r:(dF its).T ⊕ β} (h:(Gi p kind d its d':TR ((dF its).T ⊕ β) τ).run s=some r):∃x,Kv d its d'=some x/\allT s x.cs/\r = .inl (x.f s):=by
 unfold Gi at h;split at h
 ·rename_i x hx;obtain ⟨h1,h2⟩:=ru h;rw [TR.run] at h2;exact ⟨x,hx,h1,by cases h2;rfl⟩
 ·split at h
  ·rw [TR.run] at h;cases h
  ·unfold yR at h;rw [TR.run] at h;cases h
theorem oz {β υ:Type} {t:TR β τ} {s:τ} {r:υ ⊕ β} (h:(TR.out t:TR (υ ⊕ β) τ).run s=some r):∃b,t.run s=some b/\r = .inr b:=by
 rw [TR.run] at h;cases ht:t.run s with
 | none=>rw [ht] at h;cases h
 | some b=>rw [ht] at h;cases h;exact ⟨b,rfl,rfl⟩
theorem TB {β υ:Type} {a:TR (υ ⊕ β) σ} {t:TR β (σ×υ)} {s:σ} {b:β} (h:(TR.join a t).run s=some b):(∃u,a.run s=some (.inl u)/\t.run (s,u)=some b)\/a.run s=some (.inr b):=by
 rw [TR.run] at h;cases ha:a.run s with
 | none=>rw [ha] at h;cases h
 | some r =>
   rw [ha] at h;cases r with
   | inl u=>exact .inl ⟨u,rfl,h⟩
   | inr x=>cases h;exact .inr rfl
end
section
variable {P:Program} {q:Nat->Bool} {tab:Nat->Option Func} {con:Nat->Option CE} {plan:Nat->Option PL} {eg:Nat->Bool}
def VW (P:Program) (q:Nat->Bool) (tab:Nat->Option Func) (con:Nat->Option CE) (plan:Nat->Option PL) (eg:Nat->Bool) (n:Nat):Prop :=
 ∀(β:Type) (f N p:Nat) (c:Code) (σ:Type) (d:SS σ) (F:Nat) (K:(τ:Type)->(τ->σ)->Exit->SS τ->Nat->TR β τ) (s:σ) (b:β) (hp0:Nat->Option AO),(∀r,(hp0 r).isSome=true->(look r d.hp).isSome=true) ->
  (sx (aX P) q tab con plan eg n β f N p c σ d F K).run s=some b ->
  ∃(τ:Type) (g:τ->σ) (s':τ) (e:Exit) (d':SS τ) (F':Nat),g s'=s/\Grow d g d'/\To P iV N hp0 c (d.c s N) e (d'.c s' N)/\(K τ g e d' F').run s'=some b
theorem ada {σ:Type} {θ:Nat->Option Nat} {hp1 hp2:Nat->Option AO} {dh:SS σ} {su:σ} {N n:Nat} {xs:List AV} (hn:xs.length=n) (hT:∀t v,look t (dh.c su N).tm=some v->gU θ hp1 hp2 v (match look t (jw 0 xs) with | some x=>x | none => .junk)):gU θ hp1 hp2 ((XO n dh).c su) (kD xs):=by
 have key:∀(m i:Nat) (ys:List AV),ys.length=m->(∀j,j<m->ys[j]? = xs[i+j]?)->jq θ hp1 hp2 (cL su ((List.range' i m).map fun j=>match jH j dh.tm with | some v=>v | none => .junk)) ys:=by
  intro m
  induction m with
  | zero=>intro i ys hl _;cases ys with
    | nil=>show jq θ hp1 hp2 [] [];rw [jq]
    | cons y ys=>cases hl
  | succ m ih =>
    intro i ys hl hj;cases ys with
    | nil=>cases hl
    | cons y ys =>
      rw [List.range'_succ,List.map_cons,cL,jq];refine ⟨y,ys,rfl,?_,ih (i+1) ys (by simpa using hl) fun j hjm => ?_⟩
      ·have h0:=hj 0 (Nat.succ_pos m);simp only [List.getElem?_cons_zero,Nat.add_zero] at h0;rw [jQ];cases hlk:look i dh.tm with
       | none=>simp only [SV.c];rw [gU];trivial
       | some v =>
         have:=hT i (v.c su) (by show look i (cT su dh.tm)=_;rw [pJ,hlk];rfl);rw [mO] at this;simp only [Nat.zero_le,if_true,Nat.sub_zero,<-h0] at this;exact this
      ·have:=hj (j+1) (Nat.succ_lt_succ hjm);rw [List.getElem?_cons_succ] at this;rw [this];congr 1;omega
 have hk:=key n 0 xs hn fun j _=>by rw [Nat.zero_add]
 unfold XO;rw [oI,List.range_eq_range'];generalize cL su ((List.range' 0 n).map fun j=>match jH j dh.tm with | some v=>v | none => .junk)=ys at hk;cases ys with
 | nil=>rw [jq] at hk;subst hk;show gU θ hp1 hp2 (.tup []) (.tup []);rw [gU];exact ⟨[],rfl,by rw [jq]⟩
 | cons y ys =>
   rw [jq] at hk;obtain ⟨x,xs',rfl,h1,h2⟩:=hk;cases ys with
   | nil=>rw [jq] at h2;subst h2;exact h1
   | cons y2 ys =>
     rw [jq] at h2;obtain ⟨x2,xs2,rfl,h3,h4⟩:=h2;show gU θ hp1 hp2 (.tup (y::y2::ys)) (.tup (x::x2::xs2));rw [gU];exact ⟨_,rfl,by rw [jq];exact ⟨x,_,rfl,h1,by rw [jq];exact ⟨x2,xs2,rfl,h3,h4⟩⟩⟩
theorem Gm {θ:Nat->Option Nat} {x:Nat}:∀ {l:List Nat},x∈KA θ l->∃r∈l,θ r=some x
 | r::l,h=>by
   rw [KA] at h;split at h
   ·rename_i y hy;rcases List.mem_cons.1 h with rfl | h
    ·exact ⟨r,List.mem_cons_self,hy⟩
    ·obtain ⟨q,h1,h2⟩:=Gm h;exact ⟨q,List.mem_cons_of_mem _ h1,h2⟩
   ·obtain ⟨q,h1,h2⟩:=Gm h;exact ⟨q,List.mem_cons_of_mem _ h1,h2⟩
theorem TD (ρ:Nat->Nat):∀l:List Nat,Tz ρ l=l.map fun r=>(ρ r,some r)
 | []=>rfl
 | r::l=>by rw [Tz,TD ρ l];rfl
theorem zY:∀ {l:List Nat} {i:Nat},isNat i l=true->l=List.range' i l.length
 | [],_,_=>rfl
 | k::l,i,h=>by
   rw [isNat,Bool.and_eq_true] at h;have e:=of_decide_eq_true h.1;rw [List.length_cons,List.range'_succ,<-zY h.2,e]
theorem xC:∀(l:List IT) (x:(dF l).T),(lT l x).map (·.1)=qp l
 | [],_=>rfl
 | i::l,x=>by
   rw [show lT (i::l) x=aT i (jE (uI i) (dF l) x)++lT l (kP (uI i) (dF l) x) from rfl,List.map_append,xC l];cases i with
   | tmp t a cs=>cases a<;>rfl
   | _=>rfl
theorem Qu {θ:Nat->Option Nat} {hp1 hp2:Nat->Option AO}:∀(l:List (Nat×AV)) (ys:List AV) (i:Nat),l.map (·.1)=List.range' i ys.length->(∀x∈l,gU θ hp1 hp2 x.2 (match ys[x.1-i]? with | some y=>y | none => .junk))->jq θ hp1 hp2 (l.map (·.2)) ys
 | [],ys,i,h,_=>by
   cases ys with
   | nil=>rw [List.map_nil,jq]
   | cons y ys=>rw [List.length_cons,List.range'_succ] at h;cases h
 | x::l,ys,i,h,hx=>by
   cases ys with
   | nil=>cases h
   | cons y ys =>
     rw [List.length_cons,List.range'_succ,List.map_cons] at h;injection h with h1 h2;rw [List.map_cons,jq];refine ⟨y,ys,rfl,?_,Qu l ys (i+1) h2 fun z hz => ?_⟩
     ·have:=hx x List.mem_cons_self;rw [h1,Nat.sub_self] at this;exact this
     ·have hk:z.1∈List.range' (i+1) ys.length:=by rw [<-h2];exact List.mem_map.2 ⟨z,hz,rfl⟩
      have hk:=(List.mem_range'_1.1 hk).1;have:=hx z (List.mem_cons_of_mem _ hz);rw [show z.1-i=(z.1-(i+1))+1 by omega,List.getElem?_cons_succ] at this;exact this
theorem adb {θ:Nat->Option Nat} {hp1 hp2:Nat->Option AO} {ys xs:List AV} (h:jq θ hp1 hp2 ys xs):gU θ hp1 hp2 (kD ys) (kD xs):=by
 cases ys with
 | nil=>rw [jq] at h;subst h;show gU θ hp1 hp2 (.tup []) (.tup []);rw [gU];exact ⟨[],rfl,by rw [jq]⟩
 | cons y ys =>
   rw [jq] at h;obtain ⟨x,xs',rfl,h1,h2⟩:=h;cases ys with
   | nil=>rw [jq] at h2;subst h2;exact h1
   | cons y2 ys =>
     rw [jq] at h2;obtain ⟨x2,xs2,rfl,h3,h4⟩:=h2;show gU θ hp1 hp2 (.tup (y::y2::ys)) (.tup (x::x2::xs2));rw [gU];exact ⟨_,rfl,by rw [jq];exact ⟨x,_,rfl,h1,by rw [jq];exact ⟨x2,xs2,rfl,h3,h4⟩⟩⟩
theorem ade {P:Program} {σ:Type} {β:Type} {N f:Nat} {E:CE} (hE:af8 P f E) {args:List (SV σ)} {d:SS σ} {F:Nat} {K:(τ:Type)->(τ->σ)->SV τ->List (Nat×SO τ)->List Nat->Nat->TR β τ} {s:σ} {b:β} (h:(ac3 E args d F K).run s=some b) :
 ∃(τ:Type) (g:τ->σ) (s':τ) (v:SV τ) (us:List (Nat×SO τ)) (rds:List Nat) (F':Nat),g s'=s/\xZ P f=true/\Does P iV f (cL s args) rds (v.c s') (cO s' us) (d.c s N).rd/\(K τ g v us rds F').run s'=some b:=by
 unfold ac3 at h;generalize namesT (⟨rX 0 args,d.hp⟩:SS σ) E.ai []=th at h;simp only at h;unfold ac2 at h;generalize Ox (nK th) (aY E.ri++aY E.ai)=fr at h;simp only at h;unfold ac1 at h;generalize hos:wF (kS d) (KA (nK th) (aY E.ai))=os at h;generalize hρ:ajG (nK th) F fr=ρ at h;have hρs:∀r x,nK th r=some x->ρ r=x:=fun r x hx=>by rw [<-hρ];unfold ajG;rw [hx]
 generalize nK th=θ at h hos hρs;unfold ac0 at h;split at h
 ·rw [TR.run] at h;cases h
 rename_i pa hpa;split at h
 ·rw [TR.run] at h;cases h
 rename_i hfz;split at h
 ·rw [TR.run] at h;cases h
 rename_i hB;unfold anm at hB;simp only [Bool.and_eq_true] at hB;obtain ⟨⟨⟨b1,b2,b3⟩,b4,b5⟩,⟨b6,b7,b7a⟩,⟨b8,b9⟩,b10,b11⟩:=hB;have b3:=of_decide_eq_true b3;obtain ⟨h1,h2⟩:=ru h;obtain ⟨r,hf,h3⟩:=XR h2;have hD:=hE.2 _ _ hf
 -- the names
 obtain ⟨tbl,htb⟩:∃tbl,tbl=Tz ρ (aY E.ri++aY E.ai):=⟨_,rfl⟩
 rw [<-htb] at b6;have hin:∀q∈aY E.ri++aY E.ai,nK tbl (ρ q)=some q:=fun q hq=>zS (List.all_eq_true.1 b6 q hq);have hrf:∀q∈dX E.ri++dX E.ai,q∈aY E.ri++aY E.ai:=fun q hq=>by
  rcases List.mem_append.1 hq with g | g
  ·exact ig.1 (List.all_eq_true.1 b7 q g)
  ·exact List.mem_append_right _ (ig.1 (List.all_eq_true.1 b7a q g))
 obtain ⟨o1,o2⟩:=af2 (s:=(s,r)) (f1:=Prod.snd) (f2:=fun t:σ×(dF E.ri).T=>pa.f t.1) (htb.trans (TD ρ _)) b4 b5 hin hrf
 -- what is handed over
 have hai:∀q∈aY E.ai,∃v,look q (ou E.ai (pa.f s))=some v:=fun q hq=>rC (by rw [lX];exact hq);have hai':∀q∈aY E.ai,(aV (ou E.ai (pa.f s)) q).isSome=true:=fun q hq=>by
  obtain ⟨v,hv⟩:=hai q hq;unfold aV;rw [hv];rfl
 have hst:(⟨rX 0 args,os⟩:SS σ).c s 0=⟨0,jw 0 (cL s args),cO s os⟩:=by unfold SS.c;rw [KC]
 obtain ⟨w1,w2⟩:=Tj (N:=0) (hp2:=aV (ou E.ai (pa.f s))) E.ai pa hpa h1 (fun x hx=>by rw [hfz] at hx;cases hx) (fun x hx=>hai' x.1 (by rw [<-lX E.ai (pa.f s)];exact List.mem_map.2 ⟨x,hx,rfl⟩)) (fun q hq=>hai' q (ig.1 (List.all_eq_true.1 b7a q hq)));rw [hst] at w1 w2;have hwH:MV θ (aV (cO s os)) (aV (ou E.ai (pa.f s))):=⟨fun q o ho=>w2 (q,o) (bI ho),fun q q' o o' x e1 e2 _ _ e3 e4=>by
  have m1:q∈aY E.ai:=by rw [<-lX E.ai (pa.f s)];exact List.mem_map.2 ⟨_,bI e1,rfl⟩
  have m2:q'∈aY E.ai:=by rw [<-lX E.ai (pa.f s)];exact List.mem_map.2 ⟨_,bI e2,rfl⟩
  have k1:=hin q (List.mem_append_right _ m1);have k2:=hin q' (List.mem_append_right _ m2);rw [hρs q x e3] at k1;rw [hρs q' x e4,k1] at k2;cases k2;rfl⟩
 have hwA:jq θ (aV (cO s os)) (aV (ou E.ai (pa.f s))) ((lT E.ai (pa.f s)).map (·.2)) (cL s args):=by
  refine Qu _ _ 0 ?_ fun x hx => ?_
  ·rw [xC,zY b2,b3,jO]
  ·have:=w1 x hx;unfold SL.get at this;simp only [mO,Nat.zero_le,if_true] at this;exact this
 have hback:∀x∈bP os,∃c∈aY E.ai,θ c=some x/\ρ c=x:=fun x hx=>by
  obtain ⟨c,c1,c2⟩:=Gm (ig.1 (List.all_eq_true.1 b9 x hx));exact ⟨c,c1,c2,hρs c x c2⟩
 have hosn:∀x o,look x (cO s os)=some o->x∈bP os:=fun x o ho=>by
  obtain ⟨o',k1,_⟩:=qL (bI ho);exact mX.2 ⟨o',k1⟩
 have hv:gU (nK tbl) (aV (ou E.ri r++ou E.ai (pa.f s))) (aV (cO (s,r) (dJ ρ E.ri Prod.snd++dJ ρ E.ai (fun t:σ×(dF E.ri).T=>pa.f t.1)))) ((pK ((Eu ρ E.ri (Prod.snd:σ×(dF E.ri).T->(dF E.ri).T)).map (·.2))).c (s,r)) (kD ((lT E.ri r).map (·.2))):=by
  rw [oI,af0];exact adb (Kw E.ri (Prod.snd:σ×(dF E.ri).T->(dF E.ri).T) fun q hq=>by
   rcases List.mem_append.1 hq with g | g
   ·exact o1 q (List.mem_append_left _ g)
   ·exact o1 q (hrf q (List.mem_append_left _ g)))
 have hdo:=ang hD hwH hwA o2 hv fun x o ho=>by
  obtain ⟨c,c1,c2,c3⟩:=hback x (hosn x o ho);have k:=o1 c (List.mem_append_right _ c1);rw [c3] at k;obtain ⟨o',ho'⟩:=Option.isSome_iff_exists.1 k.2;obtain ⟨oc,hoc⟩:=hai c c1;exact ⟨o',ho',c,oc,k.1,c2,hoc,Tv b1 _ (bI hoc)⟩
 have hnm:(cO (s,r) (dJ ρ E.ri Prod.snd++dJ ρ E.ai (fun t:σ×(dF E.ri).T=>pa.f t.1))).map (·.1)=(aY E.ri++aY E.ai).map ρ:=by rw [dP,List.map_append,kQ,kQ,List.map_append]
 have hosr:∀y∈cO s os,y.1∈(aY E.ri++aY E.ai).map ρ:=fun y hy=>by
  obtain ⟨o',k1,_⟩:=qL hy;obtain ⟨c,c1,c2,c3⟩:=hback y.1 (mX.2 ⟨o',k1⟩);exact List.mem_map.2 ⟨c,List.mem_append_right _ c1,c3⟩
 have hosd:∀y∈cO s os,(d.c s N).rd y.1=some y.2:=fun y hy=>by
  obtain ⟨o',k1,k2⟩:=qL hy;rw [<-hos] at k1;have:=uV k1;rw [<-mG];unfold iO;rw [this,k2];rfl
 refine ⟨_,Prod.fst,(s,r),_,_,_,_,rfl,hE.1,?_,h3⟩;refine Gj (us:=cO (s,r) (dJ ρ E.ri Prod.snd++dJ ρ E.ai (fun t:σ×(dF E.ri).T=>pa.f t.1))) ?_ fun q => ?_
 rotate_left
 ·rw [dP,dP,Bl (s,r) (fun k=>kN k ((Oo θ (⟨rX 0 args,os⟩:SS σ) E.ai).map ρ)),bU,bU,zX (fun k=>kN k ((Oo θ (⟨rX 0 args,os⟩:SS σ) E.ai).map ρ))];cases hl:look q (cO (s,r) (dJ ρ E.ri Prod.snd)) with
  | some o=>exact .inl rfl
  | none =>
    simp only;split
    ·exact .inl rfl
    ·rename_i hq;refine .inr ⟨rfl,fun o ho => ?_⟩;have hm:=bI ho;have hm':(q,o)∈cO s (dJ ρ E.ai pa.f):=by rw [<-Kz (s1:=(s,r)) (s2:=s) E.ai (fun t:σ×(dF E.ri).T=>pa.f t.1) pa.f rfl];exact hm
     refine ⟨by
      have:q∈(aY E.ai).map ρ:=by rw [<-kQ s ρ E.ai pa.f];exact List.mem_map.2 ⟨_,hm',rfl⟩
      rw [List.map_append];exact List.mem_append_right _ this,?_⟩
     rcases Ky hρs E.ai pa hpa h1 _ hm' with g | g
     ·exact (hq (ig.2 g)).elim
     ·have g:iO s (kS (⟨rX 0 args,os⟩:SS σ)) q=some o:=g;rw [mG s 0] at g;have g:look q (cO s os)=some o:=g;exact hosd _ (bI g)
 refine qI hdo (fun y hy=>⟨hosr y hy,?_⟩) (Bj b10) (by rw [yh];exact Bh b11) (fun y hy => ?_) (List.all_eq_true.2 fun y hy => ?_)
 ·exact hosd y hy
 ·have hm:y.1∈(aY E.ri++aY E.ai).map ρ:=by rw [<-hnm];exact List.mem_map.2 ⟨y,hy,rfl⟩
  refine ⟨hm,?_⟩;obtain ⟨q,q1,q2⟩:=List.mem_map.1 hm;have:=List.all_eq_true.1 b8 q q1;rw [q2,Bool.or_eq_true] at this;rcases this with g | g
  ·exact .inl (CX g)
  ·exact .inr (uU (ig.1 g))
 ·obtain ⟨v,hv⟩:=rC (k:=y.1) (l:=cO (s,r) (dJ ρ E.ri Prod.snd++dJ ρ E.ai (fun t:σ×(dF E.ri).T=>pa.f t.1))) (by rw [hnm];exact hosr y hy);rw [hv];rfl
theorem agb (hcon:∀f E,con f=some E->aS P (f % 1000000000) E) {f:Nat} {b:Bool} {E:CE} (h:ajJ con f b=some E):aS P f E:=by
 unfold ajJ at h;split at h
 ·cases h
 ·rename_i hf;have hf:=of_decide_eq_true hf;split at h
  ·split at h
   ·rename_i E' hE';cases h;have:=hcon _ _ hE'
    rwa [show (1000000000+f) % 1000000000=f by omega] at this
   ·have:=hcon _ _ h
    rwa [Nat.mod_eq_of_lt hf] at this
  ·have:=hcon _ _ h
   rwa [Nat.mod_eq_of_lt hf] at this
theorem adf (hcon:∀f E,con f=some E->aS P (f % 1000000000) E) (htab:∀f fn,tab f=some fn->P.funcs[f]? = some fn/\xZ P f=true) {n:Nat} (hn:VW P q tab con plan eg n) {N p:Nat} {β:Type}:acP P N (ac5 (aX P) tab con plan (sx (aX P) q tab con plan eg n) p β):=by
 intro i σ f args d F K s b h;unfold ac5 at h;split at h
 ·rename_i E hE;have hE':=agb hcon hE;unfold aS at hE';split at h
  ·rename_i hd;rw [hd] at hE';exact af9 hE' h
  ·rename_i hd;rw [hd] at hE';exact ade hE' h
 ·split at h
  ·rw [TR.run] at h;cases h
  ·rename_i fn hfn;obtain ⟨t1,t2⟩:=htab f fn hfn;split at h
   ·rw [TR.run] at h;cases h
   ·rename_i c hb;generalize hos:wF (kS d) (C9 (kS d) 1000 (sV args) [])=os at h
    try simp only at h
    split at h
    ·rw [TR.run] at h;cases h
    ·rename_i hok;rw [Bool.and_eq_true,Bool.and_eq_true,decide_eq_true_eq] at hok;obtain ⟨k1,k2,k3⟩:=hok;have hosd:∀p∈cO s os,(d.c s N).rd p.1=some p.2:=fun x hx=>by
      obtain ⟨o,h1,h2⟩:=qL hx;rw [<-hos] at h1;have:=uV h1;rw [<-mG];unfold iO;rw [this,h2];rfl
     have hra:yP (cO s os) (AV.refs.refsL (cL s args))=true:=by rw [yh];exact Bh k3
     have hlen:(cL s args).length<=fn.ntmps:=by rw [jO];exact k1
     have hst:(⟨rX 0 args,os⟩:SS σ).c s fn.ntmps=⟨fn.ntmps,jw 0 (cL s args),cO s os⟩:=by unfold SS.c;rw [KC]
     have hk0:∀r,((aV (cO s os)) r).isSome=true->(look r (⟨rX 0 args,os⟩:SS σ).hp).isSome=true:=fun r hr=>by
      unfold aV at hr;rw [lD] at hr;cases hl:look r os with
      | none=>rw [hl] at hr;cases hr
      | some o=>rfl
     split at h
     ·unfold yR at h;rw [TR.run] at h;cases h
     ·rename_i its hits;split at h
      ·first | (unfold yR at h;rw [TR.run] at h;cases h;done) | (rw [TR.run] at h;cases h)
      ·rename_i hck;rw [Bool.and_eq_true] at hck;obtain ⟨c1,c2⟩:=hck;rcases TB h with ⟨u,h1,h2⟩ | h1
       ·obtain ⟨τ,g,s',e,d',F',g1,g2,g3,g4⟩:=hn _ f fn.ntmps _ c σ _ F _ s _ (aV (cO s os)) hk0 h1;split at g4
        ·rw [TR.run] at g4;cases g4
        ·rename_i he;split at g4
         ·rw [TR.run] at g4;cases g4
         ·rename_i xs hxs;obtain ⟨x,x1,x2,x3⟩:=qM g4;cases x3;have hgr:Grow (⟨[],os⟩:SS σ) g (⟨rX 0 xs,d'.hp⟩:SS τ):=⟨⟨rX 0 xs,(List.append_nil _).symm⟩,g2.hp⟩
          obtain ⟨θ,q1,q2,q3⟩:=CY (N:=fn.ntmps) hgr x1 x2;rw [g1] at q1 q2 q3;rw [hst] at g3;have hrs:xs.length=fn.results.size:=by have:=(Jb (s:=s') (N:=fn.ntmps) _ _ hxs).2;rw [this,Array.length_toList]
          have hback:Back (cO s os) (d'.c s' fn.ntmps).hp ((headD (⟨[],os⟩:SS σ) its).c (s,x.f s') fn.ntmps).hp ((XO fn.results.size (headD (⟨[],os⟩:SS σ) its)).c (s,x.f s')) ((pK xs).c s'):=by
           refine ⟨θ,fun r o ho => ?_,q2,?_⟩
           ·exact q1 r (by rw [lD] at ho;cases hl:look r os with | none=>rw [hl] at ho;cases ho | some w=>rfl)
           ·rw [oI];refine ada (N:=fn.ntmps) (by rw [jO];exact hrs) fun t v hv => ?_;have:=q3 t v hv;unfold SL.get at this;rw [show (SS.c s' fn.ntmps (⟨rX 0 xs,d'.hp⟩:SS τ)).tm=jw 0 (cL s' xs) from KC s' 0 xs] at this;exact this
          have hdo:=Cm t1 hb hlen g3 he (Qs hxs) hback;have hin:((cO s os).all fun p=>(look p.1 ((headD (⟨[],os⟩:SS σ) its).c (s,x.f s') fn.ntmps).hp).isSome)=true:=List.all_eq_true.2 fun y hy=>by
           obtain ⟨o,o1,o2⟩:=qL hy;have:(look y.1 os).isSome=true:=by obtain ⟨w,hw⟩:=jT o1;rw [hw];rfl
           exact (q1 y.1 this).2
          have hus:((headD (⟨[],os⟩:SS σ) its).c (s,x.f s') fn.ntmps).hp=cO (s,x.f s') (headD (⟨[],os⟩:SS σ) its).hp:=rfl;have hnm:∀y∈((headD (⟨[],os⟩:SS σ) its).c (s,x.f s') fn.ntmps).hp,y.1∈bP (headD (⟨[],os⟩:SS σ) its).hp:=fun y hy=>by
           rw [hus] at hy;obtain ⟨o,o1,_⟩:=qL hy;exact mX.2 ⟨o,o1⟩
          have hd1:=qI (rds:=bP (headD (⟨[],os⟩:SS σ) its).hp) (hp:=(d.c s N).rd) hdo (fun y hy=>⟨?_,hosd y hy⟩) (Bj k2) hra (fun y hy=>⟨hnm y hy,?_⟩) hin
          ·refine ⟨_,Prod.fst,(s,x.f s'),_,_,_,F,rfl,t2,?_,h2⟩;refine Gj hd1 fun r => ?_;have hsp:((headD (⟨[],os⟩:SS σ) its).c (s,x.f s') fn.ntmps).hp=cO (s,x.f s') (jd its Prod.snd)++cO s os:=by
            rw [hus];show cO (s,x.f s') (jd its Prod.snd++jR Prod.fst os)=_;rw [dP,qY]
           rw [hsp,bU];cases hl:look r (cO (s,x.f s') (jd its Prod.snd)) with
           | some o=>exact .inl rfl
           | none =>
             refine .inr ⟨rfl,fun o ho => ?_⟩;have hm:=bI ho;obtain ⟨o',o1,_⟩:=qL hm;refine ⟨?_,hosd _ hm⟩;have:r∈bP os:=mX.2 ⟨o',o1⟩;have hnn:∀l:List (Nat×SO σ),bP (jR (Prod.fst:σ×(dF its).T->σ) l)=bP l:=by
              intro l
              induction l with
              | nil=>rfl
              | cons z l ih=>obtain ⟨k,w⟩:=z;rw [jR,bP,bP,ih]
             have happ:∀a b:List (Nat×SO (σ×(dF its).T)),bP (a++b)=bP a++bP b:=by
              intro a b
              induction a with
              | nil=>rfl
              | cons z l ih=>obtain ⟨k,w⟩:=z;rw [List.cons_append,bP,bP,ih];rfl
             show r∈bP (jd its Prod.snd++jR Prod.fst os);rw [happ,hnn];exact List.mem_append_right _ this
          ·have:=List.all_eq_true.1 hin y hy;cases hl:look y.1 ((headD (⟨[],os⟩:SS σ) its).c (s,x.f s') fn.ntmps).hp with
           | none=>rw [hl] at this;cases this
           | some o=>exact hnm (y.1,o) (bI hl)
          ·rw [hus] at hy;obtain ⟨o,o1,_⟩:=qL hy;have:=List.all_eq_true.1 c2 _ o1;rcases (Bool.or_eq_true _ _).mp this with h | h
           ·exact .inl (CX h)
           ·exact .inr (uU (ig.1 h))
       ·exfalso;obtain ⟨τ,g,s',e,d',F',g1,g2,g3,g4⟩:=hn _ f fn.ntmps _ c σ _ F _ s _ (aV (cO s os)) hk0 h1;split at g4
        ·rw [TR.run] at g4;cases g4
        ·split at g4
         ·rw [TR.run] at g4;cases g4
         ·obtain ⟨x,x1,x2,x3⟩:=qM g4;cases x3
     ·obtain ⟨τ,g,s',e,d',F',g1,g2,g3,g4⟩:=hn _ f fn.ntmps _ c σ _ F _ s _ (aV (cO s os)) hk0 h;split at g4
      ·rw [TR.run] at g4;cases g4
      ·rename_i he;split at g4
       ·rw [TR.run] at g4;cases g4
       ·rename_i xs hxs;generalize hus:wF (kS d') (C9 (kS d') 1000 (sV xs++bP os) [])=us at g4
        try simp only at g4
        split at g4
        ·rw [TR.run] at g4;cases g4
        ·rename_i hbk;simp only [Bool.and_eq_true] at hbk;obtain ⟨⟨b1,b2⟩,b3,b4⟩:=hbk;rw [hst] at g3;have hlk:∀r o,look r (cO s' us)=some o->(d'.c s' fn.ntmps).rd r=some o:=fun r o ho=>by
          obtain ⟨o',o1,o2⟩:=qL (bI ho);rw [<-hus] at o1;have:=uV o1;rw [<-mG];unfold iO;simp only at this o2;rw [this,o2];rfl
         have hinn:((cO s os).all fun y=>(look y.1 (cO s' us)).isSome)=true:=List.all_eq_true.2 fun y hy=>by
          obtain ⟨o,o1,_⟩:=qL hy;exact uU (ig.1 (List.all_eq_true.1 b3 _ (mX.2 ⟨o,o1⟩)))
         have hD:=Si t1 hb hlen g3 he (Qs hxs) (us:=cO s' us) hlk (Bj b1) (by rw [JR];unfold pK;have hh:=Bh (s:=s') b2;split<;>simpa [SV.refs,sV] using hh) hinn;refine ⟨τ,g,s',_,_,_,F',g1,t2,?_,g4⟩;have hnm:∀y∈cO s' us,y.1∈bP us:=fun y hy=>by
          obtain ⟨o,o1,_⟩:=qL hy;exact mX.2 ⟨o,o1⟩
         have hd1:=qI (rds:=bP us) (hp:=(d.c s N).rd) hD (fun y hy=>⟨?_,hosd y hy⟩) (Bj k2) hra (fun y hy=>⟨hnm y hy,?_⟩) hinn
         ·refine Gj hd1 fun r => ?_;unfold trimS;rw [Bl s' (fun r => !kN r (bP (jR g os))||kN r (bP (d'.hp.take (d'.hp.length-os.length)))) us,zX (fun r => !kN r (bP (jR g os))||kN r (bP (d'.hp.take (d'.hp.length-os.length)))) r (cO s' us)];split
          ·exact .inl rfl
          ·rename_i hq;refine .inr ⟨rfl,fun o ho=>⟨hnm _ (bI ho),?_⟩⟩;rw [Bool.or_eq_true] at hq;have hq1:r∈bP (jR g os):=by
            rcases hm:kN r (bP (jR g os)) with _ | _
            ·exfalso;exact hq (.inl (by rw [hm];rfl))
            ·exact ig.1 hm
           have hq2:r∉bP (d'.hp.take (d'.hp.length-os.length)):=fun hm=>hq (.inr (ig.2 hm));obtain ⟨⟨_,_⟩,l2,e2⟩:=g2;have e2:d'.hp=l2++jR g os:=e2;rw [e2,List.length_append,Ep,Nat.add_sub_cancel,List.take_left] at hq2;have h5:=hlk r o ho;unfold SL.rd SS.c at h5;simp only [lD,e2,bU] at h5;rw [qK (l:=l2) (fun hm=>hq2 (by obtain ⟨x,hx,rfl⟩:=List.mem_map.1 hm;exact mX.2 ⟨x.2,hx⟩))] at h5;simp only at h5;rw [<-lD,qY,g1] at h5;exact hosd _ (bI h5)
         ·have:=List.all_eq_true.1 hinn y hy;cases hl:look y.1 (cO s' us) with
          | none=>rw [hl] at this;cases this
          | some o=>exact hnm (y.1,o) (bI hl)
         ·obtain ⟨o,o1,_⟩:=qL hy;have:=List.all_eq_true.1 b4 _ o1;rcases (Bool.or_eq_true _ _).mp this with h | h
          ·exact .inl (CX h)
          ·exact .inr (uU (ig.1 h))
end
section
variable {P:Program} {q:Nat->Bool} {tab:Nat->Option Func} {con:Nat->Option CE} {plan:Nat->Option PL} {eg:Nat->Bool}
theorem zZ {β σ τ:Type} {p kind:Nat} {d:SS σ} {d':SS τ} {s:τ} {b:β} (h:(yR p kind d d':TR β τ).run s=some b):False:=by
 unfold yR at h;rw [TR.run] at h;cases h
theorem adg {N:Nat} {hp0:Nat->Option AO} {a b:Code} {s s1 s1' s2:SL} {e:Exit} (h1:To P iV N hp0 a s .normal s1) (ht:uG iV N hp0 s1.S s1'.S) (h2:To P iV N hp0 b s1' e s2):To P iV N hp0 (.seq a b) s e s2 :=
 U8 (mF h1 (RI ht h2))
theorem Bo {N:Nat} {hp0:Nat->Option AO} {a b:Code} {s s1:SL} {e:Exit} (hne:e ≠ .normal) (h1:To P iV N hp0 a s e s1):To P iV N hp0 (.seq a b) s e s1 :=
 U8 (mF h1 (by cases e<;>first | exact (hne rfl).elim | exact ⟨rfl,rfl⟩))
theorem anr {N:Nat} {hp0:Nat->Option AO} {c:Code} {s s0 s2:SL} {e:Exit} (h:s0.S=s.S) (k:To P iV N hp0 c s0 e s2):To P iV N hp0 c s e s2:=by
 unfold To at k ⊢;rw [<-h];exact k
theorem oW {σ τ:Type} {hp0:Nat->Option AO} {d:SS σ} {g:τ->σ} {d':SS τ} (hk:∀r,(hp0 r).isSome=true->(look r d.hp).isSome=true) (h:Grow d g d'):∀r,(hp0 r).isSome=true->(look r d'.hp).isSome=true:=fun r hr=>aac h (hk r hr)
theorem EC {σ:Type} (d:SS σ) (t:Nat) (b:Bool):Grow d (fun s=>s) (CO d t b):=⟨⟨[(t,.val (.bool b))],by rw [Ei];rfl⟩,⟨[],by rw [Ej];rfl⟩⟩
theorem XT {n:Nat} (ih:∀m,m<n->VW P q tab con plan eg m):∀m,m<n->∀(β:Type) (f N p:Nat) (a:Code) (σ:Type) (d:SS σ) (F:Nat) (K:(τ:Type)->(τ->σ)->Exit->SS τ->Nat->TR β τ) (s:σ) (b:β) (hp0:Nat->Option AO),(∀r,(hp0 r).isSome=true->(look r d.hp).isSome=true)->(plan (p*512+6)=some .unroll\/plan (p*512+6)=some .once) ->
 (sx (aX P) q tab con plan eg (m+1) β f N p (.loop a) σ d F K).run s=some b ->
 ∃(τ:Type) (g:τ->σ) (s':τ) (e:Exit) (d':SS τ) (F' k:Nat),g s'=s/\Grow d g d'/\Rounds P iV N hp0 a e (d'.c s' N) k (d.c s N)/\(K τ g e d' F').run s'=some b:=by
 intro m
 induction m with
 | zero =>
   intro hm β f N p a σ d F K s b hp0 hk hpl h;rw [sx] at h;rcases hpl with hpl | hpl<;>(simp only [hpl] at h;rw [sx,TR.run] at h;cases h)
 | succ m ihm =>
   intro hm β f N p a σ d F K s b hp0 hk hpl h;rw [sx] at h;rcases hpl with hpl | hpl
   ·simp only [hpl] at h;obtain ⟨τ,g,s',e,d',F',h1,h2,h3,h4⟩:=ih (m+1) hm β f N _ a σ d F _ s b hp0 hk h;have other:e ≠ .normal->(K τ g e d' F').run s'=some b->∃(τ:Type) (g:τ->σ) (s':τ) (e:Exit) (d':SS τ) (F' k:Nat),g s'=s/\Grow d g d'/\Rounds P iV N hp0 a e (d'.c s' N) k (d.c s N)/\(K τ g e d' F').run s'=some b:=fun hne hr=>⟨τ,g,s',e,d',F',0,h1,h2,⟨hne,h3⟩,hr⟩
    cases e with
    | normal =>
      simp only at h4;obtain ⟨τ2,g2,s2,e2,d2,F2,k,k1,k2,k3,k4⟩:=ihm (by omega) β f N p a τ d' F' _ s' b hp0 (oW hk h2) (.inl hpl) h4;exact ⟨τ2,fun t=>g (g2 t),s2,e2,d2,F2,k+1,by show g (g2 s2)=s;rw [k1,h1],h2.trans k2,⟨d'.c s' N,d'.c s' N,h3,uG.refl _,k3⟩,k4⟩
    | exit i=>exact other (by simp) h4
    | goto l=>exact other (by simp) h4
    | ret=>exact other (by simp) h4
    | panic ch=>exact other (by simp) h4
    | outgrown=>exact other (by simp) h4
   ·simp only [hpl] at h;obtain ⟨τ,g,s',e,d',F',h1,h2,h3,h4⟩:=ih (m+1) hm β f N _ a σ d F _ s b hp0 hk h;have other:e ≠ .normal->(K τ g e d' F').run s'=some b->∃(τ:Type) (g:τ->σ) (s':τ) (e:Exit) (d':SS τ) (F' k:Nat),g s'=s/\Grow d g d'/\Rounds P iV N hp0 a e (d'.c s' N) k (d.c s N)/\(K τ g e d' F').run s'=some b:=fun hne hr=>⟨τ,g,s',e,d',F',0,h1,h2,⟨hne,h3⟩,hr⟩
    cases e with
    | normal =>
      simp only at h4;have fin:(plan ((p*512+7)*512+6)=some .unroll\/plan ((p*512+7)*512+6)=some .once)->(sx (aX P) q tab con plan eg (m+1) β f N (p*512+7) (.loop a) τ d' F' (fun τ' g' e d'' F''=>K τ' (fun t=>g (g' t)) e d'' F'')).run s'=some b->∃(τ:Type) (g:τ->σ) (s':τ) (e:Exit) (d':SS τ) (F' k:Nat),g s'=s/\Grow d g d'/\Rounds P iV N hp0 a e (d'.c s' N) k (d.c s N)/\(K τ g e d' F').run s'=some b:=fun hp' h5=>by
       obtain ⟨τ2,g2,s2,e2,d2,F2,k,k1,k2,k3,k4⟩:=ihm (by omega) β f N _ a τ d' F' _ s' b hp0 (oW hk h2) hp' h5;exact ⟨τ2,fun t=>g (g2 t),s2,e2,d2,F2,k+1,by show g (g2 s2)=s;rw [k1,h1],h2.trans k2,⟨d'.c s' N,d'.c s' N,h3,uG.refl _,k3⟩,k4⟩
      cases hp2:plan ((p*512+7)*512+6) with
      | none =>
        simp only [hp2] at h4;rw [sx] at h4;simp only [hp2] at h4;exact (zZ h4).elim
      | some pl =>
        cases pl with
        | carry its=>simp only [hp2] at h4;rw [TR.run] at h4;cases h4
        | unroll=>simp only [hp2] at h4;exact fin (.inl hp2) h4
        | once=>simp only [hp2] at h4;exact fin (.inr hp2) h4
        | stop =>
          simp only [hp2] at h4;rw [sx] at h4;simp only [hp2] at h4;rw [TR.run] at h4;cases h4
    | exit i=>exact other (by simp) h4
    | goto l=>exact other (by simp) h4
    | ret=>exact other (by simp) h4
    | panic ch=>exact other (by simp) h4
    | outgrown=>exact other (by simp) h4
theorem TF (hq:Ny P q) (hdp:30<=P.depth) (hm:P.follows .mixedOrders=true) (hcon:∀f E,con f=some E->aS P (f % 1000000000) E) (htab:∀f fn,tab f=some fn->P.funcs[f]? = some fn/\xZ P f=true) (n:Nat):VW P q tab con plan eg n:=by
 induction n using Nat.strongRecOn with
 | _ n ih =>
   intro β f N p c σ d F K s b hp0 hk h;cases n with
   | zero=>rw [sx,TR.run] at h;cases h
   | succ n =>
     have ihn:=ih n (Nat.lt_succ_self n);have idg:∀(e:Exit),To P iV N hp0 c (d.c s N) e (d.c s N)->(K σ (fun s=>s) e d F).run s=some b->∃(τ:Type) (g:τ->σ) (s':τ) (e:Exit) (d':SS τ) (F':Nat),g s'=s/\Grow d g d'/\To P iV N hp0 c (d.c s N) e (d'.c s' N)/\(K τ g e d' F').run s'=some b:=fun e h1 h2=>⟨σ,fun s=>s,s,e,d,F,rfl,Grow.refl d,h1,h2⟩
     cases c with
     | skip=>rw [sx] at h;exact idg _ (Xa ⟨rfl,rfl⟩) h
     | label l=>rw [sx] at h;exact idg _ (RH ⟨rfl,rfl⟩) h
     | exit id=>rw [sx] at h;exact idg _ (Xb ⟨rfl,rfl⟩) h
     | ret=>rw [sx] at h;exact idg _ (abG ⟨rfl,rfl⟩) h
     | region id ops draw =>
       rw [sx] at h
       try simp only at h
       split at h
       ·rename_i hb;obtain ⟨L,s',g1,g2,⟨τ,g,t,d',F',k1,k2,k3,k4⟩,g4,g5⟩:=Ko (P:=P) (q:=q) (N:=N) (base:=F) (ops:=ops) (draw:=draw) (anc:=if draw=true then uz ops ops.size else []) (fun hd=>by rw [if_pos hd]) (adf hcon htab ihn) _ σ d [] [] (F+ops.size) _ s b (fun x hx=>by have:=(RZ 0 ops.toList x hx).2;rw [Nat.sub_zero,Array.getElem?_toList] at this;exact this) rfl h;subst k3;exact ⟨τ,g,t,.normal,d',F',k1,k2,ajb hq hdp hm (AB hb) (by rw [g1,RY,List.range_eq_range',Array.length_toList]) g2 g5,k4⟩
       ·rw [TR.run] at h;cases h
     | seq x y =>
       rw [sx] at h
       try simp only at h
       split at h
       ·exact (zZ h).elim
       ·rename_i its _;rcases TB h with ⟨u,h1,h2⟩ | h1
        ·obtain ⟨τ,g,s',e,d',F',k1,k2,k3,k4⟩:=ihn _ f N _ x σ d F _ s _ hp0 hk h1;cases e with
         | normal =>
           simp only at k4;obtain ⟨z,z1,z2,z3⟩:=qM k4;cases z3;have ht:=zV (N:=N) k2 z1 z2 hk;rw [k1] at ht;obtain ⟨τ2,g2,s2,e2,d2,F2,m1,m2,m3,m4⟩:=ihn β f N _ y _ (headD d its) F _ (s,z.f s') b hp0 (oW hk (uj d its)) h2;exact ⟨τ2,fun t=>(g2 t).1,s2,e2,d2,F2,by show (g2 s2).1=s;rw [m1],(uj d its).trans m2,adg k3 ht m3,m4⟩
         | exit i=>obtain ⟨b',_,hb⟩:=oz k4;cases hb
         | goto l=>obtain ⟨b',_,hb⟩:=oz k4;cases hb
         | ret=>obtain ⟨b',_,hb⟩:=oz k4;cases hb
         | panic ch=>obtain ⟨b',_,hb⟩:=oz k4;cases hb
         | outgrown=>obtain ⟨b',_,hb⟩:=oz k4;cases hb
        ·obtain ⟨τ,g,s',e,d',F',k1,k2,k3,k4⟩:=ihn _ f N _ x σ d F _ s _ hp0 hk h1;have fin:e ≠ .normal->(TR.out (K τ g e d' F'):TR ((dF its).T ⊕ β) τ).run s'=some (.inr b)->∃(τ:Type) (g:τ->σ) (s':τ) (e:Exit) (d':SS τ) (F':Nat),g s'=s/\Grow d g d'/\To P iV N hp0 (.seq x y) (d.c s N) e (d'.c s' N)/\(K τ g e d' F').run s'=some b:=fun hne hr=>by
          obtain ⟨b',b1,b2⟩:=oz hr;cases b2;exact ⟨τ,g,s',e,d',F',k1,k2,Bo hne k3,b1⟩
         cases e with
         | normal =>
           simp only at k4;obtain ⟨z,z1,z2,z3⟩:=qM k4;cases z3
         | exit i=>exact fin (by simp) k4
         | goto l=>exact fin (by simp) k4
         | ret=>exact fin (by simp) k4
         | panic ch=>exact fin (by simp) k4
         | outgrown=>exact fin (by simp) k4
       ·obtain ⟨τ,g,s',e,d',F',k1,k2,k3,k4⟩:=ihn _ f N _ x σ d F _ s _ hp0 hk h;cases e with
        | normal =>
          simp only at k4;obtain ⟨τ2,g2,s2,e2,d2,F2,m1,m2,m3,m4⟩:=ihn β f N _ y _ d' F' _ s' b hp0 (oW hk k2) k4;exact ⟨τ2,fun t=>g (g2 t),s2,e2,d2,F2,by show g (g2 s2)=s;rw [m1,k1],k2.trans m2,adg k3 (uG.refl _) m3,m4⟩
        | exit i=>exact ⟨τ,g,s',_,d',F',k1,k2,Bo (by simp) k3,k4⟩
        | goto l=>exact ⟨τ,g,s',_,d',F',k1,k2,Bo (by simp) k3,k4⟩
        | ret=>exact ⟨τ,g,s',_,d',F',k1,k2,Bo (by simp) k3,k4⟩
        | panic ch=>exact ⟨τ,g,s',_,d',F',k1,k2,Bo (by simp) k3,k4⟩
        | outgrown=>exact ⟨τ,g,s',_,d',F',k1,k2,Bo (by simp) k3,k4⟩
     | cond x a1 a2 =>
       rw [sx] at h
       try simp only at h
       have hev:(d.c s N).S.ev iV x=(xu d x).c s:=by rw [SL.ev_S,Tc s N d x]
       split at h
       ·rename_i t ht;have hx:(d.c s N).S.ev iV x = .d (.val (.bool t)):=by rw [hev,ht,SV.c]
        cases t with
        | true =>
          obtain ⟨τ,g,s',e,d',F',k1,k2,k3,k4⟩:=ihn β f N _ a1 σ d F _ s b hp0 hk h;exact ⟨τ,g,s',e,d',F',k1,k2,yc hx (fun _=>k3) (fun hf=>by cases hf),k4⟩
        | false =>
          obtain ⟨τ,g,s',e,d',F',k1,k2,k3,k4⟩:=ihn β f N _ a2 σ d F _ s b hp0 hk h;exact ⟨τ,g,s',e,d',F',k1,k2,yc hx (fun hf=>by cases hf) (fun _=>k3),k4⟩
       ·rename_i cf hcf;have hx:(d.c s N).S.ev iV x = .d (.val (.bool (cf s))):=by rw [hev,hcf,SV.c];rfl
        split at h
        ·rename_i t;have hget:(d.c s N).get t=eG (cf s):=by rw [SL.ev_S] at hx;exact hx
         rw [TR.run] at h;cases hv:cf s with
         | true =>
           rw [hv] at h hx hget;obtain ⟨τ,g,s',e,d',F',k1,k2,k3,k4⟩:=ihn β f N _ a1 σ (CO d t true) F _ s b hp0 (oW hk (EC d t true)) h;exact ⟨τ,g,s',e,d',F',k1,(EC d t true).trans k2,yc hx (fun _=>anr (P9 hget) k3) (fun hf=>by cases hf),k4⟩
         | false =>
           rw [hv] at h hx hget;obtain ⟨τ,g,s',e,d',F',k1,k2,k3,k4⟩:=ihn β f N _ a2 σ (CO d t false) F _ s b hp0 (oW hk (EC d t false)) h;exact ⟨τ,g,s',e,d',F',k1,(EC d t false).trans k2,yc hx (fun hf=>by cases hf) (fun _=>anr (P9 hget) k3),k4⟩
        ·rw [TR.run] at h;cases hv:cf s with
         | true =>
           rw [hv] at h hx;obtain ⟨τ,g,s',e,d',F',k1,k2,k3,k4⟩:=ihn β f N _ a1 σ d F _ s b hp0 hk h;exact ⟨τ,g,s',e,d',F',k1,k2,yc hx (fun _=>k3) (fun hf=>by cases hf),k4⟩
         | false =>
           rw [hv] at h hx;obtain ⟨τ,g,s',e,d',F',k1,k2,k3,k4⟩:=ihn β f N _ a2 σ d F _ s b hp0 hk h;exact ⟨τ,g,s',e,d',F',k1,k2,yc hx (fun hf=>by cases hf) (fun _=>k3),k4⟩
       ·rw [TR.run] at h;cases h
     | block id a =>
       rw [sx] at h
       try simp only at h
       obtain ⟨τ,g,s',e,d',F',k1,k2,k3,k4⟩:=ihn β f N _ a σ d F _ s b hp0 hk h;cases e with
       | exit i =>
         simp only at k4;split at k4
         ·rename_i hi;have hi:=of_decide_eq_true hi;exact ⟨τ,g,s',_,d',F',k1,k2,rP (mF k3 (by show (if i=id then _ else _);rw [if_pos hi];exact ⟨rfl,rfl⟩)),k4⟩
         ·rename_i hi;have hi:=of_decide_eq_false hi;exact ⟨τ,g,s',_,d',F',k1,k2,rP (mF k3 (by show (if i=id then _ else _);rw [if_neg hi];exact ⟨rfl,rfl⟩)),k4⟩
       | normal=>exact ⟨τ,g,s',_,d',F',k1,k2,rP (mF k3 ⟨rfl,rfl⟩),k4⟩
       | goto l=>exact ⟨τ,g,s',_,d',F',k1,k2,rP (mF k3 ⟨rfl,rfl⟩),k4⟩
       | ret=>exact ⟨τ,g,s',_,d',F',k1,k2,rP (mF k3 ⟨rfl,rfl⟩),k4⟩
       | panic ch=>exact ⟨τ,g,s',_,d',F',k1,k2,rP (mF k3 ⟨rfl,rfl⟩),k4⟩
       | outgrown=>exact ⟨τ,g,s',_,d',F',k1,k2,rP (mF k3 ⟨rfl,rfl⟩),k4⟩
     | scope a =>
       rw [sx] at h
       try simp only at h
       obtain ⟨τ,g,s',e,d',F',k1,k2,k3,k4⟩:=ihn β f N _ a σ d F _ s b hp0 hk h;cases e with
       | goto l=>simp only at k4;rw [TR.run] at k4;cases k4
       | exit i=>exact ⟨τ,g,s',_,d',F',k1,k2,wV (mF k3 ⟨rfl,rfl⟩),k4⟩
       | normal=>exact ⟨τ,g,s',_,d',F',k1,k2,wV (mF k3 ⟨rfl,rfl⟩),k4⟩
       | ret=>exact ⟨τ,g,s',_,d',F',k1,k2,wV (mF k3 ⟨rfl,rfl⟩),k4⟩
       | panic ch=>exact ⟨τ,g,s',_,d',F',k1,k2,wV (mF k3 ⟨rfl,rfl⟩),k4⟩
       | outgrown=>exact ⟨τ,g,s',_,d',F',k1,k2,wV (mF k3 ⟨rfl,rfl⟩),k4⟩
     | loop a =>
       cases hpl:plan (p*512+6) with
       | none =>
         rw [sx] at h;simp only [hpl] at h;exact (zZ h).elim
       | some pl =>
         cases pl with
         | unroll =>
           obtain ⟨τ,g,s',e,d',F',k,k1,k2,k3,k4⟩:=XT ih n (Nat.lt_succ_self n) β f N p a σ d F K s b hp0 hk (.inl hpl) h;exact ⟨τ,g,s',e,d',F',k1,k2,PG k3,k4⟩
         | once =>
           obtain ⟨τ,g,s',e,d',F',k,k1,k2,k3,k4⟩:=XT ih n (Nat.lt_succ_self n) β f N p a σ d F K s b hp0 hk (.inr hpl) h;exact ⟨τ,g,s',e,d',F',k1,k2,PG k3,k4⟩
         | stop =>
           rw [sx] at h;simp only [hpl] at h;rw [TR.run] at h;cases h
         | carry its =>
           rw [sx] at h;simp only [hpl] at h;split at h
           ·exact (zZ h).elim
           ·rename_i x hx;obtain ⟨c1,h2⟩:=ru h;rw [TR.run] at h2;have hr:=nH.1 h2;have t0:=zV (N:=N) (Grow.refl d) hx c1 hk;have key:∀u,xq (fun u=>(sx (aX P) q tab con plan eg n ((dF its).T ⊕ β) f N (p*512+6) a (σ×(dF its).T) (headD d its) F (fun τ g e d' F'=>match e with
             | .normal=>Gi (p*512+6) (8*f) d its d'
             | e => .out (K τ (fun t=>(g t).1) e d' F'))).run (s,u)) u b ->
             ∃(τ:Type) (g:τ->σ) (s':τ) (e:Exit) (d':SS τ) (F' k:Nat),g s'=s/\Grow d g d'/\Rounds P iV N hp0 a e (d'.c s' N) k ((headD d its).c (s,u) N)/\(K τ g e d' F').run s'=some b:=by
             intro u hu;generalize hb:b=b0 at hu
             induction hu with
             | done hd =>
               subst hb;obtain ⟨τ,g,s',e,d',F',k1,k2,k3,k4⟩:=ihn _ f N _ a _ (headD d its) F _ _ _ hp0 (oW hk (uj d its)) hd;have fin:e ≠ .normal->(TR.out (K τ (fun t=>(g t).1) e d' F'):TR ((dF its).T ⊕ β) τ).run s'=some (.inr b)->∃(τ:Type) (g:τ->σ) (s':τ) (e:Exit) (d':SS τ) (F' k:Nat),g s'=s/\Grow d g d'/\Rounds P iV N hp0 a e (d'.c s' N) k ((headD d its).c (s,_) N)/\(K τ g e d' F').run s'=some b:=fun hne hr=>by
                obtain ⟨b',b1,b2⟩:=oz hr;cases b2;exact ⟨τ,fun t=>(g t).1,s',e,d',F',0,by show (g s').1=s;rw [k1],(uj d its).trans k2,⟨hne,k3⟩,b1⟩
               cases e with
               | normal =>
                 simp only at k4;obtain ⟨z,z1,z2,z3⟩:=qM k4;cases z3
               | exit i=>exact fin (by simp) k4
               | goto l=>exact fin (by simp) k4
               | ret=>exact fin (by simp) k4
               | panic ch=>exact fin (by simp) k4
               | outgrown=>exact fin (by simp) k4
             | step hs hrest ihr =>
               obtain ⟨τ,g,s',e,d',F',k1,k2,k3,k4⟩:=ihn _ f N _ a _ (headD d its) F _ _ _ hp0 (oW hk (uj d its)) hs;cases e with
               | normal =>
                 simp only at k4;obtain ⟨z,z1,z2,z3⟩:=qM k4;cases z3;have ht:=zV (N:=N) ((uj d its).trans k2) z1 z2 hk;simp only [k1] at ht;obtain ⟨τ2,g2,s2,e2,d2,F2,m,m1,m2,m3,m4⟩:=ihr hb;exact ⟨τ2,g2,s2,e2,d2,F2,m+1,m1,m2,⟨_,_,k3,ht,m3⟩,m4⟩
               | exit i=>obtain ⟨b',_,hb'⟩:=oz k4;cases hb'
               | goto l=>obtain ⟨b',_,hb'⟩:=oz k4;cases hb'
               | ret=>obtain ⟨b',_,hb'⟩:=oz k4;cases hb'
               | panic ch=>obtain ⟨b',_,hb'⟩:=oz k4;cases hb'
               | outgrown=>obtain ⟨b',_,hb'⟩:=oz k4;cases hb'
            obtain ⟨τ,g,s',e,d',F',k,k1,k2,k3,k4⟩:=key _ hr;exact ⟨τ,g,s',e,d',F',k1,k2,RI t0 (PG k3),k4⟩
     | rangeFunc _ _ _ _=>simp only [sx] at h;rw [TR.run] at h;cases h
     | goto _=>simp only [sx] at h;rw [TR.run] at h;cases h
     | refuse _=>simp only [sx] at h;rw [TR.run] at h;cases h
end
theorem XU {σ:Type}:∀(cs:List CS) (vs:List (SV σ)),IV cs=true->VN cs vs=[]
 | [],_,_=>rfl
 | .dat u::cs,[],_=>rfl
 | .dat u::cs,v::vs,h=>by rw [VN,XU cs vs h];rfl
theorem TG:∀(cs:List CS) (x:(jm cs).T),IV cs=true->Qe cs x=[]
 | [],_,_=>rfl
 | .dat u::cs,x,h=>by rw [Qe,TG cs _ h];rfl
theorem XV:∀(cs:List CS),IV cs=true->fK cs=[]
 | [],_=>rfl
 | .dat u::cs,h=>XV cs h
section
variable {σ:Type} {s:σ} {rd:Nat->Option (SO σ)}
theorem TJ {cs:List CS} {vs:List (SV σ)} {p:PK σ (jm cs).T} (hd:IV cs=true) (hp:IU rd cs vs=some p) (hc:allT s p.cs):jq (fun _=>none) (iO s rd) (aV []) (oV cs (p.f s)) (cL s vs) :=
 (Em cs vs p hp hc (fun x _ r' hr=>by cases hr) (fun x hx=>by rw [XU cs vs hd] at hx;cases hx) (fun x hx=>by rw [TG cs _ hd] at hx;cases hx) (fun r hr=>by rw [XV cs hd] at hr;cases hr)).1
theorem Gn:∀(ai:List IT) (vs:List (SV σ)) (p:PK σ (dF ai).T),jr ai=true->pO rd ai vs=some p->allT s p.cs ->
 jq (fun _=>none) (iO s rd) (aV []) ((lT ai (p.f s)).map (·.2)) (cL s vs)
 | [],[],p,hd,hp,hc=>by
   rw [cL];show jq _ _ _ [] [];rw [jq]
 | .tmp t false cs::l,v::vs,p,hd,hp,hc=>by
   rw [pO] at hp;rw [jr,Bool.and_eq_true] at hd;split at hp
   ·rename_i x y hx hy;cases hp;rw [cu] at hc;have e1:jE (uI (.tmp t false cs)) (dF l) (wM (jm cs) (dF l) (x.f s) (y.f s))=x.f s:=jZ _ _ _ _;have e2:kP (uI (.tmp t false cs)) (dF l) (wM (jm cs) (dF l) (x.f s) (y.f s))=y.f s:=kT _ _ _ _;have hA:=TJ hd.1 hx hc.1;have hB:=Gn l vs y hd.2 hy hc.2;rw [cL,cL] at hA;rw [cL];simp only [lT,e1,e2,List.map_append];show jq _ _ _ (nV (oV cs (x.f s))::(lT l (y.f s)).map (·.2)) _;rw [jq];refine ⟨_,_,rfl,?_,hB⟩;generalize oV cs (x.f s)=ys at hA ⊢;cases ys with
    | nil=>rw [jq] at hA;cases hA
    | cons y ys =>
      rw [jq] at hA;obtain ⟨x,xs,h1,h2,h3⟩:=hA;cases h1;cases ys with
      | nil=>exact h2
      | cons z zs=>rw [jq] at h3;obtain ⟨_,_,h4,_⟩:=h3;cases h4
   ·cases hp
 | .tmp t true cs::l,v::vs,p,hd,hp,hc=>by
   rw [jr,Bool.and_eq_true] at hd;cases v with
   | agg ws =>
     simp only [pO] at hp;split at hp
     ·rename_i x y hx hy;cases hp;rw [cu] at hc;have e1:jE (uI (.tmp t true cs)) (dF l) (wM (jm cs) (dF l) (x.f s) (y.f s))=x.f s:=jZ _ _ _ _;have e2:kP (uI (.tmp t true cs)) (dF l) (wM (jm cs) (dF l) (x.f s) (y.f s))=y.f s:=kT _ _ _ _;have hA:=TJ hd.1 hx hc.1;have hB:=Gn l vs y hd.2 hy hc.2;rw [cL];simp only [lT,e1,e2,List.map_append];show jq _ _ _ (.agg (oV cs (x.f s))::(lT l (y.f s)).map (·.2)) _;rw [jq];refine ⟨_,_,rfl,?_,hB⟩;rw [SV.c,gU];exact ⟨_,rfl,hA⟩
     ·cases hp
   | _=>simp only [pO] at hp;cases hp
 | [],_::_,p,_,hp,_=>by cases hp
 | .tmp _ true _::_,[],p,_,hp,_=>by cases hp
 | .tmp _ false _::_,[],p,_,hp,_=>by cases hp
 | .mix _ _::_,_,p,hd,_,_=>by cases hd
 | .row _ _ _::_,_,p,hd,_,_=>by cases hd
 | .arr _ _::_,_,p,hd,_,_=>by cases hd
 | .mp _::_,_,p,hd,_,_=>by cases hd
 | .drop _::_,_,p,hd,_,_=>by cases hd
 | .dead _::_,_,p,hd,_,_=>by cases hd
end
def adh:Nat->List IT->Bool
 | _,[]=>true
 | i,.tmp t _ _::l=>decide (t=i)&&adh (i+1) l
 | _,_=>false
theorem KD:∀(ai:List IT) (i:Nat) (x:(dF ai).T),adh i ai=true->lT ai x=jw i ((lT ai x).map (·.2))
 | [],i,x,_=>rfl
 | .tmp t true cs::l,i,x,h=>by
   rw [adh,Bool.and_eq_true] at h;have ht:=of_decide_eq_true h.1;subst ht;show (t,AV.agg _)::lT l _=jw t (AV.agg _::(lT l _).map (·.2));rw [jw,<-KD l (t+1) _ h.2]
 | .tmp t false cs::l,i,x,h=>by
   rw [adh,Bool.and_eq_true] at h;have ht:=of_decide_eq_true h.1;subst ht;show (t,nV _)::lT l _=jw t (nV _::(lT l _).map (·.2));rw [jw,<-KD l (t+1) _ h.2]
def VX (fn:Func) (ai ri:List IT):Bool:=(jr ai&&jr ri)&&(adh 0 ai&&decide (ai.length<=fn.ntmps))
theorem Qv:∀(ai:List IT) (x:(dF ai).T),jr ai=true->(lT ai x).length=ai.length
 | [],_,_=>rfl
 | .tmp t true cs::l,x,h=>by
   rw [jr,Bool.and_eq_true] at h;show (lT l _).length+1=_;rw [Qv l _ h.2];rfl
 | .tmp t false cs::l,x,h=>by
   rw [jr,Bool.and_eq_true] at h;show (lT l _).length+1=_;rw [Qv l _ h.2];rfl
section
variable {P:Program} {L:List (List (Option TI))} {cs:List Nat} {con:Nat->Option CE} {plan:Nat->Option PL} {eg:Nat->Bool}
theorem agc (K:Facts P L cs) {l:List (Nat×Func)} (hl:Sj P l) (hcon:∀f E,con f=some E->aS P (f % 1000000000) E) {f:Nat} {fn:Func} (hf:P.funcs[f]? = some fn) (hfn:xZ P f=true) {ai ri:List IT} (hsh:VX fn ai ri=true) (n:Nat)
 {G:(dF ai).T->Option (dF ri).T} (hG:∀a r,G a=some r->(ac6 (vw (aX P) L) (Zx cs) (Sl l) con plan eg n f fn ai ri).run a=some r):aS P f ⟨ai,ri,G⟩:=by
 unfold VX at hsh;rw [Bool.and_eq_true,Bool.and_eq_true,Bool.and_eq_true,decide_eq_true_eq] at hsh;obtain ⟨⟨s1,s2⟩,s3,s4⟩:=hsh;refine aS.mk hfn s1 s2 fun a r hr => ?_;have hrun:=hG a r hr;rw [<-K.hT] at hrun;unfold ac6 at hrun;split at hrun
 ·rename_i c hb;obtain ⟨τ,g,s',e,d',F',h1,h2,h3,h4⟩:=TF (plan:=plan) K.hq K.hdp K.hm hcon (JM hl) n _ f fn.ntmps 1 c _ _ 0 _ a r (aV []) (fun r hr=>by cases hr) hrun;unfold anp at h4;split at h4
  ·rw [TR.run] at h4;cases h4
  ·rename_i he;split at h4
   ·rw [TR.run] at h4;cases h4
   ·rename_i xs hxs;split at h4
    ·rename_i p hp;obtain ⟨c1,c2⟩:=ru h4;rw [TR.run] at c2;cases c2;have hlen:((lT ai a).map (·.2)).length<=fn.ntmps:=by rw [List.length_map,Qv ai a s1];exact s4
     have hst:(⟨oH ai (fun s=>s),[]⟩:SS (dF ai).T).c a fn.ntmps=⟨fn.ntmps,jw 0 ((lT ai a).map (·.2)),[]⟩:=by
      show (⟨fn.ntmps,cT a (oH ai fun s=>s),[]⟩:SL)=_;rw [uS];exact congrArg (fun t=>(⟨fn.ntmps,t,[]⟩:SL)) (KD ai 0 a s3)
     rw [hst] at h3;refine Cm hf hb hlen h3 he (Qs hxs) (Zw ?_);have hw:=Gn (s:=s') ri xs p s2 hp c1;rw [mG s' fn.ntmps] at hw;rw [oI];generalize cL s' xs=ys at hw;generalize (lT ri (p.f s')).map (·.2)=zs at hw;have hw':jq (fun _=>none) (aV (d'.c s' fn.ntmps).hp) (aV []) zs ys:=hw;cases zs with
     | nil=>rw [jq] at hw';subst hw';show gU _ _ _ (.tup []) (.tup []);rw [gU];exact ⟨[],rfl,by rw [jq]⟩
     | cons z zs =>
       rw [jq] at hw';obtain ⟨y,ys',rfl,k1,k2⟩:=hw';cases zs with
       | nil=>rw [jq] at k2;subst k2;exact k1
       | cons z2 zs =>
         rw [jq] at k2;obtain ⟨y2,ys2,rfl,k3,k4⟩:=k2;show gU _ _ _ (.tup (z::z2::zs)) (.tup (y::y2::ys2));rw [gU];exact ⟨_,rfl,by rw [jq];exact ⟨y,_,rfl,k1,by rw [jq];exact ⟨y2,ys2,rfl,k3,k4⟩⟩⟩
    ·rw [TR.run] at h4;cases h4
 ·rw [TR.run] at hrun;cases hrun
theorem TK:∀(l:List (Nat×AV)) (i:Nat),l.map (·.1)=List.range' i l.length->l=jw i (l.map (·.2))
 | [],_,_=>rfl
 | x::l,i,h=>by
   rw [List.map_cons,List.length_cons,List.range'_succ] at h;injection h with h1 h2;rw [List.map_cons,jw,<-TK l (i+1) h2,<-h1]
def adi (fn:Func) (ai ri:List IT):Bool:=(isNat 0 (qp ai)&&decide ((qp ai).length<=fn.ntmps))&&(isNat 0 (qp ri)&&decide ((qp ri).length=fn.results.size))
theorem TL (l:List IT) (x:(dF l).T):(lT l x).length=(qp l).length:=by rw [<-xC l x,List.length_map]
theorem pR (K:Facts P L cs) {l:List (Nat×Func)} (hl:Sj P l) (hcon:∀f E,con f=some E->aS P (f % 1000000000) E) {f:Nat} {fn:Func} (hf:P.funcs[f]? = some fn) (hfn:xZ P f=true) {ai ri:List IT} (hsh:adi fn ai ri=true) (n:Nat)
 {G:(dF ai).T->Option (dF ri).T} (hG:∀a r,G a=some r->(aip (vw (aX P) L) (Zx cs) (Sl l) con plan eg n f fn ai ri).run a=some r):af8 P f ⟨ai,ri,G⟩:=by
 unfold adi at hsh;rw [Bool.and_eq_true,Bool.and_eq_true,Bool.and_eq_true,decide_eq_true_eq,decide_eq_true_eq] at hsh;obtain ⟨⟨s1,s2⟩,s3,s4⟩:=hsh;refine ⟨hfn,fun a r hr => ?_⟩;have hrun:=hG a r hr;rw [<-K.hT] at hrun;unfold aip at hrun;split at hrun
 ·rename_i c hb;have hO:cO a (jd ai (fun s=>s))=ou ai a:=zO a ai _;have hk0:∀r,((aV (ou ai a)) r).isSome=true->(look r (⟨oH ai (fun s=>s),jd ai (fun s=>s)⟩:SS (dF ai).T).hp).isSome=true:=fun r hr=>by
   unfold aV at hr;rw [<-hO,lD] at hr;show (look r (jd ai (fun s=>s))).isSome=true;cases hl:look r (jd ai (fun s:(dF ai).T=>s)) with
   | none=>rw [hl] at hr;cases hr
   | some o=>rfl
  obtain ⟨τ,g,s',e,d',F',g1,g2,g3,g4⟩:=TF (plan:=plan) K.hq K.hdp K.hm hcon (JM hl) n _ f fn.ntmps 1 c _ _ 0 _ a r (aV (ou ai a)) hk0 hrun;unfold anq at g4;split at g4
  ·rw [TR.run] at g4;cases g4
  ·rename_i he;split at g4
   ·rw [TR.run] at g4;cases g4
   ·rename_i xs hxs;split at g4
    ·rename_i p hp;obtain ⟨c1,c2⟩:=ru g4;rw [TR.run] at c2;cases c2;have hlen:((lT ai a).map (·.2)).length<=fn.ntmps:=by rw [List.length_map,TL];exact s2
     have hst:(⟨oH ai (fun s=>s),jd ai (fun s=>s)⟩:SS (dF ai).T).c a fn.ntmps=⟨fn.ntmps,jw 0 ((lT ai a).map (·.2)),ou ai a⟩:=by
      show (⟨fn.ntmps,cT a (oH ai fun s=>s),cO a (jd ai fun s=>s)⟩:SL)=_;rw [uS,hO];refine congrArg (fun t=>(⟨fn.ntmps,t,ou ai a⟩:SL)) (TK _ 0 ?_);rw [xC,zY s1,TL]
     rw [hst] at g3;have hrs:xs.length=fn.results.size:=by have:=(Jb (s:=s') (N:=fn.ntmps) _ _ hxs).2;rw [this,Array.length_toList]
     have hgr:Grow (⟨[],jd ai (fun s=>s)⟩:SS (dF ai).T) g (⟨rX 0 xs,d'.hp⟩:SS τ):=⟨⟨rX 0 xs,(List.append_nil _).symm⟩,g2.hp⟩
     obtain ⟨θ,q1,q2,q3⟩:=CY (N:=fn.ntmps) hgr hp c1;rw [g1] at q1 q2 q3;have hH:((headD (⟨[],jd ai (fun s=>s)⟩:SS (dF ai).T) ri).c (a,p.f s') fn.ntmps).hp=ou ri (p.f s')++ou ai a:=by
      show cO (a,p.f s') (jd ri Prod.snd++jR Prod.fst (jd ai (fun s=>s)))=_;rw [dP,zO,qY,hO]
     have hT:((headD (⟨[],jd ai (fun s=>s)⟩:SS (dF ai).T) ri).c (a,p.f s') fn.ntmps).tm=lT ri (p.f s'):=by
      show cT (a,p.f s') (oH ri Prod.snd++nT Prod.fst [])=_;rw [show nT (Prod.fst:(dF ai).T×(dF ri).T->(dF ai).T) []=[] from rfl,List.append_nil,uS]
     have hR:((headD (⟨[],jd ai (fun s=>s)⟩:SS (dF ai).T) ri).c (a,p.f s') fn.ntmps).rd=aV (ou ri (p.f s')++ou ai a):=by
      unfold SL.rd aV;rw [hH]
     rw [hR] at q1 q2 q3;rw [hT] at q3;refine Cm hf hb hlen g3 he (Qs hxs) ⟨θ,fun r o ho => ?_,q2,?_⟩
     ·exact q1 r (hk0 r (by unfold aV;rw [ho];rfl))
     ·rw [oI];refine adb (Qu _ _ 0 ?_ fun x hx => ?_)
      ·rw [xC,zY s3,jO,s4,hrs]
      ·have hnd:((lT ri (p.f s')).map (·.1)).Nodup:=by rw [xC,zY s3];exact List.nodup_range'
       have:=q3 x.1 x.2 (Ja hnd hx);unfold SL.get at this;rw [show (SS.c s' fn.ntmps (⟨rX 0 xs,d'.hp⟩:SS τ)).tm=jw 0 (cL s' xs) from KC s' 0 xs] at this;rw [mO] at this;simp only [Nat.zero_le,if_true,Nat.sub_zero] at this;exact this
    ·split at g4
     ·rw [TR.run] at g4;cases g4
     ·exact (zZ g4).elim
 ·rw [TR.run] at hrun;cases hrun
theorem tC {f:Nat} {E:CE} (h:af8 P f E) (hd:VR E=false):aS P f E:=by
 unfold aS;rw [hd];exact h
end
end Go.Proofs.YtkpijdndakljjaaGreat
namespace Go.Proofs.YtkpijdndakljjaaGreat
open Go.ChangeShapes Go.WideShapes Go.Deep Go.RowKit
def WfU:(u:U)->u.T->Prop
 | .int k,n=>(Lit.int k n).wf=true
 | .bool,_=>True
 | .str,s=>s.length<=maxLen
 | .list t,l=>l.length<=maxLen/\∀x∈l,WfU t x
 | .pair a b,p=>WfU a p.1/\WfU b p.2
 | .unit,_=>True
theorem KE {u:Option U} {l:List (Option U)} {w:U} (h:J3.pairs (u::l)=some w):(l=[]/\u=some w)\/∃a b,u=some a/\J3.pairs l=some b/\w = .pair a b:=by
 cases l with
 | nil=>exact .inl ⟨rfl,h⟩
 | cons v l =>
   have e:J3.pairs (u::v::l)=match u,J3.pairs (v::l) with | some u,some v=>some (.pair u v) | _,_=>none:=by
    cases u<;>cases hp:J3.pairs (v::l)<;>simp [J3.pairs,hp]
   rw [e] at h;split at h
   ·rename_i a b _ hb;cases h;exact .inr ⟨a,b,rfl,hb,rfl⟩
   ·cases h
theorem Aa {T:Ty}:∀(m n t:Nat) (u:U) (ds:List DV),J3 T n t=some u->yQ T m t=true->Sh T m t ds->∃x:u.T,ds=gZ u x/\WfU u x
 | 0,n,t,u,ds,hu,hd,h=>h.elim
 | m+1,0,t,u,ds,hu,hd,h=>by cases hu
 | m+1,n+1,t,u,ds,hu,hd,h=>by
   rw [Sh] at h;rw [J3] at hu;rw [yQ] at hd;cases hT:T t with
   | none=>rw [hT] at h;exact h.elim
   | some i =>
     rw [hT] at h hu hd;simp only at h hu hd;obtain ⟨hlen,h⟩:=h;split at hu
     ·rename_i k hk;cases hu;rw [hk] at h;obtain ⟨x,rfl,hx⟩:=h;exact ⟨x,rfl,hx⟩
     ·rename_i hk;cases hu;rw [hk] at h;obtain ⟨b,rfl⟩:=h;exact ⟨b,rfl,trivial⟩
     ·rename_i hk;cases hu;rw [hk] at h;obtain ⟨s,rfl,hs⟩:=h;refine ⟨s.data.toList,?_,?_⟩
      ·show [DV.val (.string s)]=[.val (.string ⟨s.data.toList.toArray⟩)]
       rw [Array.toArray_toList]
      ·show s.data.toList.length<=maxLen;rw [Array.length_toList];exact hs
     ·rename_i e hk;rw [hk] at h hd;obtain ⟨rows,rfl,h1,h2⟩:=h;simp only at hd;split at hu
      ·rename_i w hw;cases hu;cases hTe:T e with
       | none=>rw [hTe] at hd;cases hd
       | some ei =>
         rw [hTe] at hd;simp only [Bool.and_eq_true] at hd;have key:∀rows:List (List DV),(∀r∈rows,Sh T m e r)->∃l:List w.T,rows.flatten=l.flatMap (gZ w)/\rows.length=l.length/\∀a∈l,WfU w a:=by
          intro rows
          induction rows with
          | nil=>intro _;exact ⟨[],rfl,rfl,fun a ha=>by cases ha⟩
          | cons r rows ih =>
            intro hr;obtain ⟨l,k1,k2,k3⟩:=ih fun r' h'=>hr r' (List.mem_cons_of_mem _ h');obtain ⟨a,rfl,ha⟩:=Aa m n e w r hw hd.2.2 (hr r List.mem_cons_self);refine ⟨a::l,by rw [List.flatten_cons,List.flatMap_cons,k1],by rw [List.length_cons,List.length_cons,k2],fun b hb => ?_⟩;rcases List.mem_cons.1 hb with rfl | hb
            ·exact ha
            ·exact k3 b hb
         obtain ⟨l,k1,k2,k3⟩:=key rows h2;exact ⟨l,by rw [k1,k2];rfl,by show l.length<=maxLen;omega,k3⟩
      ·cases hu
     ·rename_i fs hk;rw [hk] at h hd;simp only [Bool.and_eq_true] at hd;obtain ⟨hd1,hd2⟩:=hd;have key:∀(fs:List (Nat×Nat)) (o:Nat) (u:U),J3.pairs (fs.map fun f=>J3 T n f.2)=some u->rU T o fs i.size=true->(∀f∈fs,yQ T m f.2=true)->(∀f∈fs,∃fi,T f.2=some fi/\Sh T m f.2 ((ds.drop f.1).take fi.size))->∃x:u.T,ds.drop o=gZ u x/\WfU u x:=by
       intro fs
       induction fs with
       | nil =>
         intro o u hu hc _ _;cases hu;rw [rU] at hc;have:=eq_of_beq hc;exact ⟨(),by rw [List.drop_eq_nil_of_le (by omega)];rfl,trivial⟩
       | cons f fs ih =>
         intro o u hu hc hdd hf;obtain ⟨fo,ft⟩:=f;rw [rU,Bool.and_eq_true] at hc;obtain ⟨hc1,hc2⟩:=hc;have hc1:=eq_of_beq hc1;subst hc1;obtain ⟨fi,f1,f2⟩:=hf (fo,ft) List.mem_cons_self;simp only at f1 f2;rw [f1] at hc2;simp only at hc2;rw [List.map_cons] at hu;have hdf:=hdd (fo,ft) List.mem_cons_self;rcases KE hu with ⟨e1,e2⟩ | ⟨a,b,e1,e2,rfl⟩
         ·obtain ⟨x,x1,x2⟩:=Aa m n ft u _ e2 hdf f2;refine ⟨x,?_,x2⟩;have:fs=[]:=by cases fs with | nil=>rfl | cons _ _=>cases e1
          subst this;rw [rU] at hc2;have:=eq_of_beq hc2;rw [<-x1,List.take_of_length_le (by rw [List.length_drop];omega)]
         ·obtain ⟨x,x1,x2⟩:=Aa m n ft a _ e1 hdf f2;obtain ⟨y,y1,y2⟩:=ih (fo+fi.size) b e2 hc2 (fun f hf'=>hdd f (List.mem_cons_of_mem _ hf')) (fun f hf'=>hf f (List.mem_cons_of_mem _ hf'));refine ⟨(x,y),?_,x2,y2⟩;show _=gZ a x++gZ b y;rw [<-x1,<-y1,<-List.drop_drop,List.take_append_drop]
      obtain ⟨x,x1,x2⟩:=key fs 0 u hu hd1 (fun f hf=>List.all_eq_true.1 hd2 f hf) h;rw [List.drop_zero] at x1;exact ⟨x,x1,x2⟩
     ·rename_i ka ea hk;rw [hk] at h hd;obtain ⟨ei,hei,h⟩:=h;simp only [hei,Bool.and_eq_true] at hd;obtain ⟨hd1,hd2⟩:=hd;have hmap:(ZM ka ea ei.size).map (fun f=>J3 T n f.2)=List.replicate ka (J3 T n ea):=by
       unfold ZM;rw [List.map_map];apply List.ext_getElem
       ·simp
       ·intro q q1 q2;simp
      rw [<-hmap] at hu;have key:∀(fs:List (Nat×Nat)) (o:Nat) (u:U),J3.pairs (fs.map fun f=>J3 T n f.2)=some u->rU T o fs i.size=true->(∀f∈fs,yQ T m f.2=true)->(∀f∈fs,∃fi,T f.2=some fi/\Sh T m f.2 ((ds.drop f.1).take fi.size))->∃x:u.T,ds.drop o=gZ u x/\WfU u x:=by
       intro fs
       induction fs with
       | nil =>
         intro o u hu hc _ _;cases hu;rw [rU] at hc;have:=eq_of_beq hc;exact ⟨(),by rw [List.drop_eq_nil_of_le (by omega)];rfl,trivial⟩
       | cons f fs ih =>
         intro o u hu hc hdd hf;obtain ⟨fo,ft⟩:=f;rw [rU,Bool.and_eq_true] at hc;obtain ⟨hc1,hc2⟩:=hc;have hc1:=eq_of_beq hc1;subst hc1;obtain ⟨fi,f1,f2⟩:=hf (fo,ft) List.mem_cons_self;simp only at f1 f2;rw [f1] at hc2;simp only at hc2;rw [List.map_cons] at hu;have hdf:=hdd (fo,ft) List.mem_cons_self;rcases KE hu with ⟨e1,e2⟩ | ⟨a,b,e1,e2,rfl⟩
         ·obtain ⟨x,x1,x2⟩:=Aa m n ft u _ e2 hdf f2;refine ⟨x,?_,x2⟩;have:fs=[]:=by cases fs with | nil=>rfl | cons _ _=>cases e1
          subst this;rw [rU] at hc2;have:=eq_of_beq hc2;rw [<-x1,List.take_of_length_le (by rw [List.length_drop];omega)]
         ·obtain ⟨x,x1,x2⟩:=Aa m n ft a _ e1 hdf f2;obtain ⟨y,y1,y2⟩:=ih (fo+fi.size) b e2 hc2 (fun f hf'=>hdd f (List.mem_cons_of_mem _ hf')) (fun f hf'=>hf f (List.mem_cons_of_mem _ hf'));refine ⟨(x,y),?_,x2,y2⟩;show _=gZ a x++gZ b y;rw [<-x1,<-y1,<-List.drop_drop,List.take_append_drop]
      obtain ⟨x,x1,x2⟩:=key (ZM ka ea ei.size) 0 u hu hd1 (fun f hf=>by obtain ⟨_,_,rfl⟩:=List.mem_map.1 hf;exact hd2) h;rw [List.drop_zero] at x1;exact ⟨x,x1,x2⟩
     ·rename_i h1 h2 h3 h4 h5 h6;cases hk:i.k<;>rw [hk] at hd<;>first | (cases hd;done) | exact (h1 _ hk).elim | exact (h2 hk).elim | exact (h3 hk).elim | exact (h4 _ hk).elim | exact (h5 _ hk).elim | exact (h6 _ _ hk).elim
def sH:U->List CS
 | .pair a b=>sH a++sH b
 | .unit=>[]
 | u=>[.dat u]
def WfC:(c:CS)->(uC c).T->Prop
 | .dat u,x=>WfU u x
 | _,_=>True
def Qw:(cs:List CS)->(jm cs).T->Prop
 | [],_=>True
 | c::cs,x=>WfC c (jE (uC c) (jm cs) x)/\Qw cs (kP (uC c) (jm cs) x)
theorem Oy:∀(a b:List CS) (x:(jm a).T) (y:(jm b).T),∃z:(jm (a++b)).T,oV (a++b) z=oV a x++oV b y/\(Qw a x->Qw b y->Qw (a++b) z)
 | [],b,x,y=>⟨y,rfl,fun _ h=>h⟩
 | c::a,b,x,y=>by
   obtain ⟨z,h1,h2⟩:=Oy a b (kP (uC c) (jm a) x) y;refine ⟨wM (uC c) (jm (a++b)) (jE (uC c) (jm a) x) z,?_,fun w1 w2 => ?_⟩
   ·show aC c (jE (uC c) (jm (a++b)) (wM (uC c) (jm (a++b)) _ z))::oV (a++b) (kP (uC c) (jm (a++b)) (wM (uC c) (jm (a++b)) _ z))=aC c _::oV a _++oV b y;rw [jZ,kT,h1];rfl
   ·refine ⟨?_,?_⟩
    ·exact (congrArg (WfC c) (jZ (uC c) (jm (a++b)) (jE (uC c) (jm a) x) z)).mpr w1.1
    ·exact (congrArg (Qw (a++b)) (kT (uC c) (jm (a++b)) (jE (uC c) (jm a) x) z)).mpr (h2 w1.2 w2)
theorem cells_one (u:U) (x:u.T) (hs:sH u=[.dat u]) (h:aC (.dat u) x = .d ((gZ u x).headD (.val .nilFunc))) (h1:fH u=1) (hw:WfU u x):∃z:(jm [.dat u]).T,oV [.dat u] z=(gZ u x).map .d/\Qw [.dat u] z:=by
 refine ⟨wM u .unit x (),?_,?_⟩
 ·show [aC (.dat u) (jE u .unit (wM u .unit x ()))]=_;rw [jZ,h];have:=bZ u x;rw [h1] at this;cases he:gZ u x with
  | nil=>rw [he] at this;cases this
  | cons d ds =>
    rw [he] at this;cases ds with
    | nil=>rfl
    | cons _ _=>cases this
 ·refine ⟨?_,trivial⟩;show WfU u (jE u .unit (wM u .unit x ()));rw [jZ];exact hw
theorem oZ:∀(u:U) (x:u.T),WfU u x->∃z:(jm (sH u)).T,oV (sH u) z=(gZ u x).map .d/\Qw (sH u) z
 | .int k,x,h=>cells_one (.int k) x rfl rfl rfl h
 | .bool,x,h=>cells_one .bool x rfl rfl rfl h
 | .str,x,h=>cells_one .str x rfl rfl rfl h
 | .list t,x,h=>cells_one (.list t) x rfl rfl rfl h
 | .unit,x,h=>⟨(),rfl,trivial⟩
 | .pair a b,x,h=>by
   obtain ⟨z1,g1,w1⟩:=oZ a x.1 h.1;obtain ⟨z2,g2,w2⟩:=oZ b x.2 h.2;obtain ⟨z,g3,w3⟩:=Oy _ _ z1 z2;refine ⟨z,?_,w3 w1 w2⟩;show oV (sH a++sH b) z=(gZ a x.1++gZ b x.2).map .d;rw [g3,g1,g2,List.map_append]
def WfI:(i:IT)->(uI i).T->Prop
 | .tmp _ _ cs,x=>Qw cs x
 | _,_=>True
def VY:(l:List IT)->(dF l).T->Prop
 | [],_=>True
 | i::l,x=>WfI i (jE (uI i) (dF l) x)/\VY l (kP (uI i) (dF l) x)
def ant (T:Ty) (j t:Nat):Option IT :=
 match T t,J3 T 20 t with
 | some i,some u=>match i.k with
   | .agg _=>some (.tmp j true (sH u))
   | .arr _ _=>some (.tmp j true (sH u))
   | _=>some (.tmp j false [.dat u])
 | _,_=>none
def aiq (E:En) (i:IT) (v:Value):Prop:=∃y:(uI i).T,WfI i y/\∃x,(aT i y).map (·.2)=[x]/\Rel E x v
theorem adk {E:En}:∃a:(dF []).T,VY [] a/\aW E ((lT [] a).map (·.2)) []:=⟨(),trivial,by show aW E [] [];rw [aW]⟩
theorem Gp {E:En} {i:IT} {l:List IT} {v:Value} {vs:List Value} (h:aiq E i v) (k:∃a:(dF l).T,VY l a/\aW E ((lT l a).map (·.2)) vs):∃a:(dF (i::l)).T,VY (i::l) a/\aW E ((lT (i::l) a).map (·.2)) (v::vs):=by
 obtain ⟨y,w1,x,e,hr⟩:=h;obtain ⟨a,w2,hrl⟩:=k;refine ⟨wM (uI i) (dF l) y a,⟨?_,?_⟩,?_⟩
 ·exact (congrArg (WfI i) (jZ (uI i) (dF l) y a)).mpr w1
 ·exact (congrArg (VY l) (kT (uI i) (dF l) y a)).mpr w2
 ·show aW E ((aT i (jE (uI i) (dF l) (wM (uI i) (dF l) y a))++lT l (kP (uI i) (dF l) (wM (uI i) (dF l) y a))).map (·.2)) (v::vs);rw [jZ,kT,List.map_append,e];show aW E (x::_) _;rw [aW];exact ⟨v,vs,rfl,hr,hrl⟩
section
variable {H:Type} {ec:TypeId×Value->H} {P:Program} {W:World} {base:Nat} {spare:Nat->Bool} {held:Bool} {T:Ty} {m t j:Nat} {v:Value} {d:DataW H} {ps:List MemPlace}
theorem open_arg (hT:aX P=T) (hd:yQ T 20 t=true) {i:IT} (hi:ant T j t=some i) {b0:Nat} (hv:v.okWide P W .any b0 t) (h:DataW.Trod ec P W base spare held t v d ps):aiq (E0 W) i v:=by
 unfold ant at hi;split at hi
 ·rename_i ti u hti hu;split at hi
  ·rename_i fs hk;cases hi;obtain ⟨ds,h1,h2⟩:=Sv (m:=20) hT hd (by rw [hti];simp only [hk]) hv h;obtain ⟨x,rfl,hx⟩:=Aa 20 20 t u ds hu hd h1;obtain ⟨z,z1,z2⟩:=oZ u x hx;refine ⟨z,z2,_,rfl,?_⟩;show Rel (E0 W) (.agg (oV (sH u) z)) v;rw [z1];exact h2
  ·rename_i ka ea hk;cases hi;obtain ⟨ds,h1,h2⟩:=Sv (m:=20) hT hd (by rw [hti];simp only [hk]) hv h;obtain ⟨x,rfl,hx⟩:=Aa 20 20 t u ds hu hd h1;obtain ⟨z,z1,z2⟩:=oZ u x hx;refine ⟨z,z2,_,rfl,?_⟩;show Rel (E0 W) (.agg (oV (sH u) z)) v;rw [z1];exact h2
  ·rename_i hk hna0;cases hi;have hna:∀k n,ti.k ≠ .arr k n:=fun k n e=>hna0 _ _ e;obtain ⟨x,h1,h2⟩:=ab4 (m:=20) hT hd (by rw [hti];show (!ti.k.isAgg)=true;cases hkk:ti.k<;>first | rfl | exact (hk _ hkk).elim | exact (hna _ _ hkk).elim) hv h;obtain ⟨y,e,hy⟩:=Aa 20 20 t u [x] hu hd h1;have hz:∃z:(jm [.dat u]).T,oV [.dat u] z=(gZ u y).map .d/\Qw [.dat u] z:=by
    have hl:=congrArg List.length e;rw [bZ] at hl;cases u with
    | int k=>exact oZ _ y hy
    | bool=>exact oZ _ y hy
    | str=>exact oZ _ y hy
    | list w=>exact oZ _ y hy
    | unit=>cases hl
    | pair a b =>
      exfalso;rw [J3,hti] at hu;simp only at hu;cases hkk:ti.k with
      | agg fs=>exact hk _ hkk
      | arr k n=>exact hna _ _ hkk
      | slice e=>rw [hkk] at hu;simp only at hu;split at hu<;>cases hu
      | _=>rw [hkk] at hu;cases hu
   obtain ⟨z,z1,z2⟩:=hz;refine ⟨z,z2,_,rfl,?_⟩;show Rel (E0 W) (nV (oV [.dat u] z)) v;rw [z1,<-e];exact h2
 ·cases hi
end
def wG (l:List (Nat×PL)) (p:Nat):Option PL:=jH p l
def dR:Nat->Bool:=fun _=>false
def TM:Nat->Bool:=fun _=>true
def adl (l:List (Nat×CE)) (f:Nat):Option CE:=jH f l
def dD (P:Program):List (Nat×CE)->Prop
 | []=>True
 | (f,E)::l=>aS P (f % 1000000000) E/\dD P l
theorem nX {P:Program} {l:List (Nat×CE)} (h:dD P l):∀f E,adl l f=some E->aS P (f % 1000000000) E:=by
 intro f E hE;unfold adl at hE;rw [jQ] at hE
 induction l with
 | nil=>cases hE
 | cons x l ih =>
   obtain ⟨k,E'⟩:=x;rw [look] at hE;split at hE
   ·rename_i hk;subst hk;cases hE;exact h.1
   ·exact ih h.2 hE
def riB:List IT:=[.tmp 0 false [.dat .bool]]
theorem agd {P:Program} {f:Nat} {ai:List IT} {G:(dF ai).T->Option Bool} (h:aS P f ⟨ai,riB,G⟩) {a:(dF ai).T} (hG:G a=some true) (hd:jr ai=true:=by rfl):fB P iV f ((lT ai a).map (·.2)) [] (eG true) []:=by
 unfold aS at h;have e:VR ⟨ai,riB,G⟩=true:=by unfold VR;rw [hd];rfl
 rw [e] at h;exact h.2 a true hG
def ah {α β:Type} (x:Option α) (f:α->Option β):Option β:=match x with | some a=>f a | none=>none
def aB {α β:Type} (x:Option (α ⊕ β)) (f:α->Option β):Option β:=match x with | some (.inl u)=>f u | some (.inr x)=>some x | none=>none
def au {α β:Type} (x:Option β):Option (α ⊕ β):=match x with | some b=>some (.inr b) | none=>none
end Go.Proofs.YtkpijdndakljjaaGreat
