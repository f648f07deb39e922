import Derived.Test.YtigfeinnobfflaaGreatXAp
import Derived.Test.YtigfeinnobfflaaGreatHBp
set_option linter.unusedSimpArgs false
set_option linter.unusedVariables false
namespace Go.Proofs.YtigfeinnobfflaaGreat
open Go.RowKit
structure GT where
 t:U
 l:List t.T
def gTab (_:Nat):Option GT:=none
inductive yX {υ β:Type} (body:υ->Option (υ ⊕ β)):υ->β->Prop where
 | done {x b} (h:body x=some (.inr b)):yX body x b
 | step {x y b} (h:body x=some (.inl y)) (k:yX body y b):yX body x b
theorem yX.det {υ β:Type} {body:υ->Option (υ ⊕ β)} {x:υ} {b c:β} (h:yX body x b):yX body x c->b=c:=by
 induction h with
 | done h =>
   intro k;cases k with
   | done h'=>rw [h] at h';cases h';rfl
   | step h' _=>rw [h] at h';cases h'
 | step h _ ih =>
   intro k;cases k with
   | done h'=>rw [h] at h';cases h'
   | step h' k'=>rw [h] at h';cases h';exact ih k'
open Classical in
noncomputable def bn {υ β:Type} (body:υ->Option (υ ⊕ β)) (x:υ):Option β :=
 if h:∃b,yX body x b then some (Classical.choose h) else none
theorem tX {υ β:Type} {body:υ->Option (υ ⊕ β)} {x:υ} {b:β}:bn body x=some b↔yX body x b:=by
 unfold bn;constructor
 ·intro h;split at h
  ·rename_i hx;cases h;exact Classical.choose_spec hx
  ·cases h
 ·intro h;rw [dif_pos ⟨b,h⟩];exact congrArg some ((Classical.choose_spec (⟨b,h⟩:∃b,yX body x b)).det h)
theorem Gp {υ β:Type} (body:υ->Option (υ ⊕ β)) (x:υ):bn body x=match body x with
 | some (.inl y)=>bn body y
 | some (.inr b)=>some b
 | none=>none:=by
 cases h:body x with
 | none =>
   unfold bn;rw [dif_neg];rintro ⟨b,k⟩;cases k with
   | done h'=>rw [h] at h';cases h'
   | step h' _=>rw [h] at h';cases h'
 | some r =>
   cases r with
   | inr b=>exact tX.2 (.done h)
   | inl y =>
     simp only;cases hy:bn body y with
     | some b=>exact tX.2 (.step h (tX.1 hy))
     | none =>
       unfold bn;rw [dif_neg];rintro ⟨b,k⟩;cases k with
       | done h'=>rw [h] at h';cases h'
       | step h' k'=>rw [h] at h';cases h';rw [tX.2 k'] at hy;cases hy
inductive VI where
 | u (u:U) | own (r e:Nat) (u:U) | nil | np | pt (r off:Nat) | cl (f:Nat) (caps:List (Nat×Nat)) | agg (l:List VI) | junk | k (u:U) (n:Int)
inductive OI where
 | mix (l:List VI) | row (e:Nat) (u:U) (wr:Bool) | arr (u:U) | mp | dead
structure NI where
 p:Nat
 kind:Nat
 tms:List (Nat×VI)
 hps:List (Nat×OI)
 tm0:List (Nat×VI)
 hp0:List (Nat×OI)
inductive TR:Type->Type->Type 1 where
 | ret {β σ:Type} (f:σ->β):TR β σ
 | fail {β σ:Type} (msg:String):TR β σ
 | bad {β σ:Type} (is:List Nat) (msg:String):TR β σ
 | note {β σ:Type} (n:NI):TR β σ
 | req {β σ:Type} (c:List (σ->Bool)) (r:TR β σ):TR β σ
 | bnd {β σ α:Type} (f:σ->Option α) (r:TR β (σ×α)):TR β σ
 | iff {β σ:Type} (c:σ->Bool) (t e:TR β σ):TR β σ
 | join {β σ υ:Type} (a:TR (υ ⊕ β) σ) (b:TR β (σ×υ)):TR β σ
 | loop {β σ υ:Type} (x0:σ->υ) (body:TR (υ ⊕ β) (σ×υ)):TR β σ
 | out {β σ υ:Type} (t:TR β σ):TR (υ ⊕ β) σ
def allB {σ:Type} (s:σ):List (σ->Bool)->Bool
 | []=>true
 | [c]=>c s
 | c::cs=>c s&&allB s cs
theorem Nq {σ:Type} (s:σ):∀cs:List (σ->Bool),allB s cs=true↔allT s cs
 | []=>by simp [allB,allT]
 | [c]=>by simp [allB,allT]
 | c::d::cs=>by
   rw [allB,allT,Bool.and_eq_true,Nq s (d::cs)];intro h;cases h
noncomputable def TR.run:{β σ:Type}->TR β σ->σ->Option β
 | _,_,.ret f,s=>some (f s)
 | _,_,.fail _,_=>none
 | _,_,.bad _ _,_=>none
 | _,_,.note _,_=>none
 | _,_,.req c r,s=>bif allB s c then r.run s else none
 | _,_,.bnd f r,s=>match f s with | some a=>r.run (s,a) | none=>none
 | _,_,.iff c t e,s=>bif c s then t.run s else e.run s
 | _,_,.join a b,s=>match a.run s with
   | some (.inl u)=>b.run (s,u)
   | some (.inr x)=>some x
   | none=>none
 | _,_,.loop x0 body,s=>bn (fun u=>body.run (s,u)) (x0 s)
 | _,_,.out t,s=>match t.run s with | some b=>some (.inr b) | none=>none
def Az {β σ:Type} (cs:List (σ->Bool)) (t:TR β σ):TR β σ:=match cs with | []=>t | cs => .req cs t
theorem oJ {β σ:Type} {cs:List (σ->Bool)} {t:TR β σ} {s:σ} {b:β} (h:(Az cs t).run s=some b):allT s cs/\t.run s=some b:=by
 unfold Az at h;split at h
 ·exact ⟨trivial,h⟩
 ·rw [TR.run] at h;cases hc:allB s cs with
  | true=>rw [hc] at h;exact ⟨(Nq s cs).1 hc,h⟩
  | false=>rw [hc] at h;cases h
def HR.thn {β:Type}:{σ:Type}->HR σ->(SV σ->List (Nat×SO σ)->TR β σ)->((τ:Type)->(τ->σ)->SV τ->List (Nat×SO τ)->TR β τ)->TR β σ
 | _,.ok v us,K0,_=>K0 v us
 | _,.req c r,K0,K=>Az c (r.thn K0 K)
 | _,.bnd f r,_,K => .bnd f (r.thn (fun v us=>K _ Prod.fst v us) (fun τ g v us=>K τ (fun t=>(g t).1) v us))
 | _,.fail m,_,_ => .fail m
 | _,.iff c t e,K0,K => .iff c (t.thn K0 K) (e.thn K0 K)
theorem HR.thn_c {β:Type} {b:β}:{σ:Type}->(h:HR σ)->{s:σ}->{x:Option (AV×List (Nat×AO))}->{K0:SV σ->List (Nat×SO σ)->TR β σ}->{K:(τ:Type)->(τ->σ)->SV τ->List (Nat×SO τ)->TR β τ} ->
 (h.thn K0 K).run s=some b->h.Ok s x ->
 (∃v us,x=some (v.c s,cO s us)/\(K0 v us).run s=some b)\/∃(τ:Type) (g:τ->σ) (s':τ) (v:SV τ) (us:List (Nat×SO τ)),g s'=s/\x=some (v.c s',cO s' us)/\(K τ g v us).run s'=some b
 | _,.ok v us,s,x,K0,K,hr,ho => .inl ⟨v,us,ho,hr⟩
 | _,.req c r,s,x,K0,K,hr,ho=>by
   rw [HR.thn] at hr;obtain ⟨h1,h2⟩:=oJ hr;exact HR.thn_c r h2 (ho h1)
 | _,.bnd f r,s,x,K0,K,hr,ho=>by
   rw [HR.thn,TR.run] at hr;cases hf:f s with
   | none=>rw [hf] at hr;cases hr
   | some a =>
     rw [hf] at hr;rcases HR.thn_c r hr (ho a hf) with ⟨v,us,h1,h2⟩ | ⟨τ,g,s',v,us,h1,h2,h3⟩
     ·exact .inr ⟨_,Prod.fst,(s,a),v,us,rfl,h1,h2⟩
     ·exact .inr ⟨τ,fun t=>(g t).1,s',v,us,by show (g s').1=s;rw [h1],h2,h3⟩
 | _,.fail m,s,x,K0,K,hr,ho=>by rw [HR.thn,TR.run] at hr;cases hr
 | _,.iff c t e,s,x,K0,K,hr,ho=>by
   rw [HR.thn,TR.run] at hr;rw [HR.Ok] at ho;cases hc:c s with
   | true=>rw [hc] at hr ho;exact HR.thn_c t hr ho
   | false=>rw [hc] at hr ho;exact HR.thn_c e hr ho
section
variable {σ:Type}
def Qj (v:Value):SV σ :=
 match v with
 | .agg cs=>match cs.toList.all (·.oneCell') with | true => .agg (cs.toList.map .val) | false => .junk
 | .tuple cs=>match cs.isEmpty with | true => .undef | false => .junk
 | v => .val v
theorem SK (s:σ):∀l:List Value,cL s (l.map .val)=l.map fun c=>AV.d (.val c)
 | []=>rfl
 | x::l=>by rw [List.map_cons,cL,SK s l,SV.c];rfl
theorem YO (s:σ) (v:Value):(Qj v:SV σ).c s=y5 v:=by
 unfold Qj y5;split
 ·rename_i cs;show _=(if (cs.toList.all fun x=>x.oneCell')=true then AV.agg (cs.toList.map fun c => .d (.val c)) else .junk)
  cases h:(cs.toList.all fun x=>x.oneCell') with
  | true=>rw [if_pos rfl,SV.c,SK]
  | false=>rw [if_neg (by simp),SV.c]
 ·rename_i cs;show _=(if cs.isEmpty=true then AV.undef else .junk)
  cases h:cs.isEmpty with
  | true=>rw [if_pos rfl,SV.c]
  | false=>rw [if_neg (by simp),SV.c]
 ·rename_i h1 h2;rw [SV.c];cases v<;>first | rfl | exact (h1 _ rfl).elim | exact (h2 _ rfl).elim
def tY (d:SS σ):Operand->SV σ
 | .tmp t=>match gV t d.tm with | some x=>x | none => .junk
 | .const v=>Qj v
 | .global g=>match gTab g with | some x => .dpt x.t (fun _=>x.l) (fun _=>0) 0 | none => .junk
 | .func f=>match Nat.blt f 1048576 with | true => .clo f [] | false => .junk
def nJ (g:Nat):Option (List DV):=(gTab g).map fun x=>aS x.t x.l
theorem Nr (s:σ) (N:Nat) (d:SS σ) (x:Operand):(tY d x).c s=(d.c s N).ev nJ x:=by
 cases x with
 | tmp t =>
   show _=(d.c s N).get t;unfold tY SL.get SS.c;simp only [mZ];rw [gW];cases look t d.tm with
   | none=>simp only [Option.map_none];rw [SV.c]
   | some x=>rfl
 | const v=>exact YO s v
 | global g =>
   show (match gTab g with | some x=>SV.dpt x.t (fun _=>x.l) (fun _=>0) 0 | none => .junk:SV σ).c s=(match (gTab g).map fun x=>aS x.t x.l with | some cells=>AV.dptr cells 0 | none => .junk)
   cases gTab g with
   | none=>rw [SV.c];rfl
   | some x=>rw [SV.c,Nat.zero_mul];rfl
 | func f =>
   show (match Nat.blt f 1048576 with | true=>SV.clo f [] | false => .junk:SV σ).c s=(match Nat.blt f 1048576 with | true=>AV.clo f [] | false => .junk)
   cases Nat.blt f 1048576 with
   | true=>rw [SV.c,cL]
   | false=>rw [SV.c]
def jC (d:SS σ) (r:Nat):Option (SO σ):=gV r d.hp
theorem jX (s:σ) (N:Nat) (d:SS σ):gu s (jC d)=(d.c s N).rd:=by
 funext r;unfold gu jC SL.rd SS.c;rw [gW];simp only [jI]
def YP (d:SS σ) (o:Option Nat) (v:SV σ):SS σ:=match o with | some t=>⟨(t,v)::d.tm,d.hp⟩ | none=>d
def Es (d:SS σ) (o:Option Nat) (v:SV σ) (us:List (Nat×SO σ)):SS σ:=⟨(YP d o v).tm,us++d.hp⟩
theorem YQ (s:σ) (N:Nat) (d:SS σ) (o:Option Nat) (v:SV σ):(YP d o v).c s N=(d.c s N).put o (v.c s):=by
 cases o<;>rfl
theorem afp (s:σ) (N:Nat) (d:SS σ) (o:Option Nat) (v:SV σ) (us:List (Nat×SO σ)):(Es d o v us).c s N=(d.c s N).app o (v.c s) (cO s us):=by
 unfold Es SL.app;rw [<-YQ];unfold SS.c;simp only [cZ]
structure EN where
 ks:List Nat
 rds:List Nat
 lvs:List Nat
 chg:List Nat
def J7 (e:Ef):EN:=⟨tu e,e.rds,e.lvs,e.chg⟩
def jv (r:Nat):List Nat->Bool
 | []=>false
 | x::l=>match decide (r=x) with | true=>true | false=>jv r l
theorem AA (r:Nat):∀l:List Nat,jv r l=l.contains r
 | []=>rfl
 | x::l=>by
   rw [jv,List.contains_cons,AA r l];by_cases h:r=x
   ·subst h;simp
   ·rw [decide_eq_false h];simp [h]
def BX (a b:List Nat):Bool:=a.all fun r => !jv r b
def ncN (x y:EN):Bool:=(BX x.ks y.rds&&BX x.ks y.ks)&&(BX x.chg y.lvs&&(BX y.ks x.rds&&BX y.chg x.lvs))
theorem SN {α:Type} (p q:α->Bool):∀l:List α,l.all (fun r=>p r&&q r)=(l.all p&&l.all q)
 | []=>rfl
 | x::l=>by rw [List.all_cons,List.all_cons,List.all_cons,SN p q l];cases p x<;>cases q x<;>cases l.all p<;>rfl
theorem afq (x y:Ef):ncN (J7 x) (J7 y)=UN x y:=by
 unfold ncN UN BX J7;simp only [AA,SN,Bool.and_assoc]
def Qk (ops:Array Oper) (anc:List Nat) (o:Oper) (e:EN) (log:List (Nat×EN)):Bool :=
 log.all fun x=>jv x.1 anc||match ops[x.1]? with | some oj=>oj.apart ops o&&ncN x.2 e | none=>false
theorem YR (ops:Array Oper) (anc:List Nat) (o:Oper) (e:Ef) (log:List (Nat×Ef)):Qk ops anc o (J7 e) (log.map fun x=>(x.1,J7 x.2))=qC ops anc o e log:=by
 unfold Qk qC;rw [List.all_map];congr 1;funext x;simp only [Function.comp,AA];cases ops[x.1]? with
 | none=>rfl
 | some oj=>simp only [afq]
def bg:List (Nat×SO σ)->List Nat
 | []=>[]
 | (r,_)::l=>r::bg l
theorem Ns (s:σ):∀us:List (Nat×SO σ),(cO s us).map (·.1)=bg us
 | []=>rfl
 | (r,o)::l=>by rw [cO,List.map_cons,bg,Ns s l]
def Gq (x:Option (SO σ)) (o:SO σ):Bool :=
 match x with
 | none=>false
 | some x=>match x.kind,o.kind with
   | .data a,.data b=>decide (a=b)
   | .mix,.mix=>true
   | .mp,.mp=>true
   | .dead,.dead=>true
   | _,_=>false
theorem YS (s:σ) (x:Option (SO σ)) (o:SO σ):DJ (x.map (·.c s)) (o.c s)=Gq x o:=by
 unfold DJ Gq;cases x with
 | none=>rfl
 | some x =>
   simp only [Option.map_some];cases x<;>cases o<;>simp [SO.c,SO.kind]<;>rfl
def qI (rd:Nat->Option (SO σ)):List (Nat×SO σ)->List Nat
 | []=>[]
 | (r,o)::l=>match Gq (rd r) o with | true=>qI rd l | false=>r::qI rd l
theorem SQ (s:σ) (rd:Nat->Option (SO σ)):∀us:List (Nat×SO σ),lT (gu s rd) (cO s us)=qI rd us
 | []=>rfl
 | (r,o)::l=>by
   have ih:=SQ s rd l;unfold lT at ih ⊢;rw [cO,List.filter_cons,qI];simp only;rw [show DJ (gu s rd r) (o.c s)=Gq (rd r) o from YS s (rd r) o];cases h:Gq (rd r) o with
   | true=>simpa using ih
   | false=>simp [ih]
end
inductive WG (σ:Type):Type where
 | yes | no | dyn (t:Nat) (f:σ->Bool) (want:Bool) | bad
section
variable {σ:Type}
def YT (ops:Array Oper) (d:SS σ) (o:Oper):WG σ :=
 match o.guard with
 | none => .yes
 | some (j,want)=>match ops[j]? with
   | none => .no
   | some oj=>match oj.dst with
     | none => .no
     | some t=>match gV t d.tm with
       | some (.val (.bool b))=>match b,want with
         | true,true => .yes
         | false,false => .yes
         | _,_ => .no
       | some (.bool f) => .dyn t f want
       | some .undef => .no
       | _ => .bad
def WG.Ok (s:σ) (N:Nat) (d:SS σ) (x:Option Bool):WG σ->Prop
 | .yes=>x=some true
 | .no=>x=some false
 | .dyn t f want=>x=some (f s==want)/\(d.c s N).get t=bJ (f s)
 | .bad=>True
def zn (d:SS σ) (t:Nat) (b:Bool):SS σ:=⟨(t,.val (.bool b))::d.tm,d.hp⟩
theorem J8 {s:σ} {N:Nat} {d:SS σ} {t:Nat} {b:Bool} (h:(d.c s N).get t=bJ b):((zn d t b).c s N).S=(d.c s N).S:=by
 unfold SL.S;have:((zn d t b).c s N).get=(d.c s N).get:=by
  funext k;unfold SL.get;show (match look k ((t,(SV.val (.bool b):SV σ).c s)::cT s d.tm) with | some x=>x | none=>AV.junk)=_;rw [look];by_cases hk:t=k
  ·subst hk;rw [if_pos rfl,SV.c];exact h.symm
  ·rw [if_neg hk];rfl
 rw [this];rfl
theorem abG (s:σ) (N:Nat) (ops:Array Oper) (d:SS σ) (o:Oper):(YT ops d o).Ok s N d (oz ops (d.c s N) o):=by
 unfold YT oz;cases o.guard with
 | none=>rfl
 | some p =>
   obtain ⟨j,want⟩:=p;simp only;cases ops[j]? with
   | none=>rfl
   | some oj =>
     simp only [Option.bind_some];cases oj.dst with
     | none=>rfl
     | some t =>
       simp only;have he:(d.c s N).get t=match gV t d.tm with | some v=>v.c s | none => .junk:=by
        unfold SL.get SS.c;simp only [mZ];rw [gW];cases look t d.tm<;>rfl
       rw [he];cases hlq:gV t d.tm with
       | none=>trivial
       | some v =>
         cases v with
         | val v=>cases v with
           | bool b=>simp only [SV.c];cases b<;>cases want<;>rfl
           | _=>trivial
         | bool f =>
           refine ⟨?_,?_⟩
           ·simp only [SV.c,bJ]
           ·rw [he,hlq];simp only [SV.c]
         | undef=>simp only [SV.c];rfl
         | _=>trivial
def YU (ρ:Operand->SV σ) (o:Oper):Option (Nat×List (SV σ)) :=
 match o.op with
 | .call c=>match c.callee with
   | .value x=>match ρ x with
     | .clo f caps=>some (f % 1048576,caps.take (f / 1048576)++(c.args.toList.map ρ++caps.drop (f / 1048576)))
     | _=>none
   | .invoke x n=>match ρ x with
     | .val (.iface t (.agg cs))=>match cs.toList.isEmpty,Oz t n with
       | true,some f=>some (f,.agg []::c.args.toList.map ρ)
       | _,_=>none
     | _=>none
   | _=>none
 | _=>none
def Ql (o:Oper):Bool :=
 match o.op with
 | .call c=>match c.callee with
   | .value _=>false
   | .invoke _ _=>false
   | _=>true
 | _=>true
theorem abH (s:σ) (ρ:Operand->SV σ) (o:Oper) {f:Nat} {args:List (SV σ)} (h:YU ρ o=some (f,args)):rF (fun x=>(ρ x).c s) o=some (f,cL s args):=by
 unfold YU at h;unfold rF;split at h
 ·rename_i c hc;rw [hc];simp only;split at h
  ·rename_i x hx;rw [hx];simp only;split at h
   ·rename_i g caps hv;cases h;rw [hv,SV.c];simp only;rw [mJ,mJ,EH,EG,kK]
   ·cases h
  ·rename_i x n hx;rw [hx];simp only;split at h
   ·rename_i t cs hv;split at h
    ·rename_i g h1 h2;cases h;rw [hv,SV.c];simp only [h1,h2];rw [cL,SV.c,cL,kK]
    ·cases h
   ·cases h
  ·cases h
 ·cases h
theorem YV (ρ:Operand->AV) (o:Oper) (h:Ql o=true):rF ρ o=none:=by
 unfold Ql at h;unfold rF;split at h
 ·rename_i c hc;rw [hc];simp only;split at h
  ·cases h
  ·cases h
  ·rename_i hx hy;split
   ·rename_i x hx';exact (hx x hx').elim
   ·rename_i x n hx';exact (hy x n hx').elim
   ·rfl
 ·rename_i hc;split
  ·rename_i c hc';exact (hc c hc').elim
  ·rfl
def SX (T:Ty) (o:Oper):Bool :=
 match o.op with
 | .alloc _=>true
 | .box _ _=>true
 | .buildSlice _ _ _=>true
 | .load _ _=>true
 | .store _ _ _=>true
 | .makeSlice _ _ _=>true
 | .makeMap _ _=>true
 | .lookup _ _ _ _=>true
 | .mapUpdate _ _ _ _=>true
 | .insert _ _ _ _=>true
 | .convert src dst _=>match T src,T dst with
   | some si,some di=>match si.k,di.k with | .slice _,.str=>true | _,_=>false
   | _,_=>false
 | .call c=>match c.callee with | .builtin .append=>true | .builtin .copy=>true | _=>false
 | _=>false
theorem abI (T:Ty) (q:Nat->Bool) (lk:Nat->Option AK) (o:Oper) (ρ:Operand->AV) (h:SX T o=true):zJ T q lk o ρ=none:=by
 unfold SX at h;unfold zJ;cases ho:o.op with
 | convert src dst x =>
   rw [ho] at h;simp only at h ⊢;split at h
   ·rename_i si di h1 h2;split at h
    ·rename_i h3 h4;simp only [h1,h2,h3,h4]
    ·cases h
   ·cases h
 | call c =>
   rw [ho] at h;simp only at h ⊢;split at h
   ·rename_i hc;simp only [hc];split<;>rfl
   ·rename_i hc;simp only [hc];split<;>rfl
   ·cases h
 | alloc t=>rfl
 | box t x=>rfl
 | buildSlice t n parts=>rfl
 | load t x=>rfl
 | store t x y=>rfl
 | makeSlice t l c=>rfl
 | makeMap t r=>rfl
 | lookup t x y ok=>rfl
 | mapUpdate t x y z=>rfl
 | insert t x y z=>rfl
 | _=>first | (rw [ho] at h;cases h;done) | (exact absurd h (by rw [ho];simp)) | (rw [ho] at h;simp at h)
def sN (T:Ty) (o:Oper) (ρ:Operand->SV σ):Option (List (σ->Bool)×SV σ) :=
 match o.op with
 | .convert src dst x=>match T src,T dst with
   | some si,some di=>match si.k,di.k with
     | .str,.slice e=>match Bq (T e),asS (ρ x) with
       | true,some f=>some ([fun s=>decide ((f s).length<=140737488355328)],.lst (.int .u8) fun s=>(f s).map fun b=>(b.toNat:Int))
       | _,_=>none
     | _,_=>none
   | _,_=>none
 | _=>none
theorem ak9 (s:σ) (T:Ty) (q:Nat->Bool) (lk:Nat->Option AK) (rd:Nat->Option AO) (slot:Nat) (o:Oper) (ρ:Operand->SV σ) {cs:List (σ->Bool)} {v:SV σ} (h:sN T o ρ=some (cs,v)) (hc:allT s cs) :
 zJ T q lk o (fun x=>(ρ x).c s)=none/\zL T rd slot o (fun x=>(ρ x).c s)=none/\Hu T rd slot o (fun x=>(ρ x).c s)=some (v.c s,[]):=by
 unfold sN at h;split at h
 ·rename_i src dst x ho;split at h
  ·rename_i si di hsi hdi;split at h
   ·rename_i e k1 k2;split at h
    ·rename_i f hu hf;cases h;have hx:=rQ (s:=s) hf;have hl:(⟨(f s).toArray⟩:ByteArray).size=(f s).length:=by show (f s).toArray.size=_;simp
     refine ⟨?_,?_,?_⟩
     ·unfold zJ;simp only [ho,hsi,hdi,k1,k2,hx]
     ·unfold zL;simp only [ho,hsi,hdi,k1,k2]
     ·unfold Hu;simp only [ho,hsi,hdi,k1,k2,hx,hu,if_true,hl];rw [if_pos (of_decide_eq_true hc.1),SV.c,Gl,List.length_map]
    ·cases h
   ·cases h
  ·cases h
 ·cases h
def Jd (rs:List Nat) (rd:Nat->Option (SO σ)):Nat->Option (SO σ):=fun r=>match jv r rs with | true=>rd r | false=>none
theorem SY (s:σ) (rs:List Nat) (rd:Nat->Option (SO σ)):gu s (Jd rs rd)=restrict rs (gu s rd):=by
 funext r;unfold gu Jd restrict;rw [AA];cases rs.contains r<;>rfl
def fE (o:Oper) (ρ:Operand->SV σ):List Nat:=o.op.operands.toList.flatMap fun x=>(ρ x).refs
theorem Gs (s:σ) (o:Oper) (ρ:Operand->SV σ):(o.op.operands.toList.flatMap fun x=>((ρ x).c s).refs)=fE o ρ:=by
 unfold fE;congr 1;funext x;exact F5 s _
end
structure Grow {σ τ:Type} (d:SS σ) (g:τ->σ) (d':SS τ):Prop where
 tm:∃l,d'.tm=l++lu g d.tm
 hp:∃l,d'.hp=l++iV g d.hp
section
variable {σ τ υ:Type}
mutual
theorem map_map (g:τ->σ) (h:υ->τ):∀v:SV σ,(v.map g).map h=v.map fun t=>g (h t)
 | .val v=>by rw [SV.map,SV.map,SV.map]
 | .int k f=>by rw [SV.map,SV.map,SV.map]
 | .bool f=>by rw [SV.map,SV.map,SV.map]
 | .str f=>by rw [SV.map,SV.map,SV.map]
 | .lst t f=>by rw [SV.map,SV.map,SV.map]
 | .ptr r off=>by rw [SV.map,SV.map,SV.map]
 | .ptx r z j off=>by rw [SV.map,SV.map,SV.map]
 | .sl r z o n cap=>by rw [SV.map,SV.map,SV.map];cases o<;>cases cap<;>rfl
 | .dpt t f j off=>by rw [SV.map,SV.map,SV.map]
 | .agg cs=>by rw [SV.map,SV.map,SV.map,qm g h cs]
 | .tup cs=>by rw [SV.map,SV.map,SV.map,qm g h cs]
 | .clo f cs=>by rw [SV.map,SV.map,SV.map,qm g h cs]
 | .undef=>by rw [SV.map,SV.map,SV.map]
 | .junk=>by rw [SV.map,SV.map,SV.map]
theorem qm (g:τ->σ) (h:υ->τ):∀l:List (SV σ),nX h (nX g l)=nX (fun t=>g (h t)) l
 | []=>by rw [nX,nX,nX]
 | x::l=>by rw [nX,nX,nX,map_map g h x,qm g h l]
end
theorem Vq (g:τ->σ) (h:υ->τ) (o:SO σ):(o.map g).map h=o.map fun t=>g (h t):=by
 cases o with
 | mix cs=>show SO.mix _=SO.mix _;rw [qm]
 | tab kk ks vs=>show SO.tab _ _ _=SO.tab _ _ _;rw [qm]
 | _=>rfl
theorem Je (g:τ->σ) (h:υ->τ):∀l:List (Nat×SV σ),lu h (lu g l)=lu (fun t=>g (h t)) l
 | []=>rfl
 | (t,v)::l=>by rw [lu,lu,lu,map_map,Je g h l]
theorem Jf (g:τ->σ) (h:υ->τ):∀l:List (Nat×SO σ),iV h (iV g l)=iV (fun t=>g (h t)) l
 | []=>rfl
 | (t,v)::l=>by rw [iV,iV,iV,Vq,Jf g h l]
theorem DW (g:τ->σ):∀a b:List (Nat×SV σ),lu g (a++b)=lu g a++lu g b
 | [],b=>rfl
 | (t,v)::a,b=>by rw [List.cons_append,lu,lu,DW g a b];rfl
theorem DY (g:τ->σ):∀a b:List (Nat×SO σ),iV g (a++b)=iV g a++iV g b
 | [],b=>rfl
 | (t,v)::a,b=>by rw [List.cons_append,iV,iV,DY g a b];rfl
mutual
theorem map_id:∀v:SV σ,v.map (fun s=>s)=v
 | .val v=>by rw [SV.map]
 | .int k f=>by rw [SV.map]
 | .bool f=>by rw [SV.map]
 | .str f=>by rw [SV.map]
 | .lst t f=>by rw [SV.map]
 | .ptr r off=>by rw [SV.map]
 | .ptx r z j off=>by rw [SV.map]
 | .sl r z o n cap=>by rw [SV.map];cases o<;>cases cap<;>rfl
 | .dpt t f j off=>by rw [SV.map]
 | .agg cs=>by rw [SV.map,yC cs]
 | .tup cs=>by rw [SV.map,yC cs]
 | .clo f cs=>by rw [SV.map,yC cs]
 | .undef=>by rw [SV.map]
 | .junk=>by rw [SV.map]
theorem yC:∀l:List (SV σ),nX (fun s=>s) l=l
 | []=>by rw [nX]
 | x::l=>by rw [nX,map_id x,yC l]
end
theorem abJ (o:SO σ):o.map (fun s=>s)=o:=by
 cases o with
 | mix cs=>show SO.mix _=SO.mix _;rw [yC]
 | tab kk ks vs=>show SO.tab _ _ _=SO.tab _ _ _;rw [yC]
 | _=>rfl
theorem AB:∀l:List (Nat×SV σ),lu (fun s=>s) l=l
 | []=>rfl
 | (t,v)::l=>by rw [lu,map_id,AB l]
theorem AL:∀l:List (Nat×SO σ),iV (fun s=>s) l=l
 | []=>rfl
 | (t,v)::l=>by rw [iV,abJ,AL l]
theorem Grow.refl (d:SS σ):Grow d (fun s=>s) d:=⟨⟨[],by rw [AB];rfl⟩,⟨[],by rw [AL];rfl⟩⟩
theorem Grow.trans {d:SS σ} {g:τ->σ} {d':SS τ} {h:υ->τ} {d'':SS υ} (a:Grow d g d') (b:Grow d' h d''):Grow d (fun t=>g (h t)) d'':=by
 obtain ⟨⟨l1,h1⟩,⟨l2,h2⟩⟩:=a;obtain ⟨⟨l3,h3⟩,⟨l4,h4⟩⟩:=b;exact ⟨⟨l3++lu h l1,by rw [h3,h1,DW,Je,List.append_assoc]⟩,⟨l4++iV h l2,by rw [h4,h2,DY,Jf,List.append_assoc]⟩⟩
theorem Grow.app {d:SS σ} {g:τ->σ} {d':SS τ} (a:Grow d g d') (o:Option Nat) (v:SV τ) (us:List (Nat×SO τ)):Grow d g (Es d' o v us):=by
 obtain ⟨⟨l1,h1⟩,⟨l2,h2⟩⟩:=a;refine ⟨?_,⟨us++l2,by show us++d'.hp=_;rw [h2,List.append_assoc]⟩⟩;cases o with
 | none=>exact ⟨l1,h1⟩
 | some t=>exact ⟨(t,v)::l1,by show (t,v)::d'.tm=_;rw [h1];rfl⟩
theorem Grow.put {d:SS σ} {g:τ->σ} {d':SS τ} (a:Grow d g d') (o:Option Nat) (v:SV τ):Grow d g (YP d' o v):=by
 obtain ⟨⟨l1,h1⟩,⟨l2,h2⟩⟩:=a;cases o with
 | none=>exact ⟨⟨l1,h1⟩,⟨l2,h2⟩⟩
 | some t=>exact ⟨⟨(t,v)::l1,by show (t,v)::d'.tm=_;rw [h1];rfl⟩,⟨l2,h2⟩⟩
theorem Grow.map (d:SS σ) (g:τ->σ):Grow d g (d.map g):=⟨⟨[],rfl⟩,⟨[],rfl⟩⟩
end
def abK (o:Oper):Bool :=
 match o.op with
 | .binOp _ _ _ _ _=>true
 | .unOp _ _ _=>true
 | .convert _ _ _=>true
 | .slice _ _ _ _ _=>true
 | _=>false
def YW {β σ:Type} (b:Bool) (v:SV σ) (K0:SV σ->TR β σ) (K:(τ:Type)->(τ->σ)->SV τ->TR β τ):TR β σ :=
 match b,v with
 | true,.int k f => .bnd (fun s=>some (f s)) (K (σ×Int) Prod.fst (.int k Prod.snd))
 | true,.str f => .bnd (fun s=>some (f s)) (K (σ×List UInt8) Prod.fst (.str Prod.snd))
 | true,.lst t f => .bnd (fun s=>some (f s)) (K (σ×List t.T) Prod.fst (.lst t Prod.snd))
 | _,v=>K0 v
theorem abL {β σ:Type} {n:Bool} {v:SV σ} {K0:SV σ->TR β σ} {K:(τ:Type)->(τ->σ)->SV τ->TR β τ} {s:σ} {b:β} (h:(YW n v K0 K).run s=some b) :
 (K0 v).run s=some b\/∃(τ:Type) (g:τ->σ) (s':τ) (v':SV τ),g s'=s/\v'.c s'=v.c s/\(K τ g v').run s'=some b:=by
 unfold YW at h;split at h
 ·rw [TR.run] at h;exact .inr ⟨_,Prod.fst,_,_,rfl,by rw [SV.c,SV.c],h⟩
 ·rw [TR.run] at h;exact .inr ⟨_,Prod.fst,_,_,rfl,by rw [SV.c,SV.c],h⟩
 ·rw [TR.run] at h;exact .inr ⟨_,Prod.fst,_,_,rfl,by rw [SV.c,SV.c],h⟩
 ·exact .inl h
abbrev S9 (β:Type):Type 1:=Nat->(σ:Type)->Nat->List (SV σ)->SS σ->Nat->((τ:Type)->(τ->σ)->SV τ->List (Nat×SO τ)->List Nat->Nat->TR β τ)->TR β σ
section
variable {β:Type} (eg:Nat->Bool) (call:S9 β) (T:Ty) (q:Nat->Bool) (N base:Nat) (ops:Array Oper) (draw:Bool) (anc:List (List Nat))
def ncD (i:Nat) (o:Oper) (e:EN) (log:List (Nat×EN)):Bool:=match draw with | false=>true | true=>Qk ops (anc.getD i []) o e log
def brW {σ:Type} (d:SS σ) (w:WG σ) (go skip:SS σ->TR β σ):TR β σ :=
 match w with
 | .yes=>go d
 | .no=>skip d
 | .dyn t f true => .iff f (go (zn d t true)) (skip (zn d t false))
 | .dyn t f false => .iff f (skip (zn d t true)) (go (zn d t false))
 | .bad => .fail "guard"
def Qm (i:Nat) (o:Oper) {σ:Type} (d:SS σ) (log:List (Nat×EN)) (rec:SS σ->List (Nat×EN)->TR β σ):TR β σ :=
 match ncD ops draw anc i o ⟨[],[],[],[]⟩ log with
 | true=>rec (YP d o.dst .undef) ((i,⟨[],[],[],[]⟩)::log)
 | false => .fail "order"
def afr (i:Nat) (o:Oper) (σ:Type) (d:SS σ) (log:List (Nat×EN)) (F:Nat) (K:(τ:Type)->(τ->σ)->SS τ->Nat->TR β τ)
    (rec:(σ:Type)->SS σ->List (Nat×EN)->Nat->((τ:Type)->(τ->σ)->SS τ->Nat->TR β τ)->TR β σ):TR β σ :=
 match Ql o with
 | false=>match YU (tY d) o with
   | none => .fail "call of what"
   | some (f,args)=>call i σ f args d F (fun τ g v us rds F' =>
     match ncD ops draw anc i o ⟨bg us,rds,[],qI (jC (d.map g)) us⟩ log with
     | true=>rec τ (Es (d.map g) o.dst v us) ((i,⟨bg us,rds,[],qI (jC (d.map g)) us⟩)::log) F' (fun τ' g' d' F''=>K τ' (fun t=>g (g' t)) d' F'')
     | false => .fail "order of a call")
 | true=>match SX T o with
   | false=>match sQ T q (Ib (Jd (fE o (tY d)) (jC d))) o (tY d) with
     | none=>match sN T o (tY d) with
       | none => .bad [base+i] "operation"
       | some (cs,v)=>match ncD ops draw anc i o ⟨[],(base+i)::fE o (tY d),[],[]⟩ log with
         | true=>Az cs (rec σ (Es d o.dst v []) ((i,⟨[],(base+i)::fE o (tY d),[],[]⟩)::log) F K)
         | false => .fail "order"
     | some (cs,v)=>match ncD ops draw anc i o ⟨[],[],fE o (tY d),[]⟩ log with
       | true=>Az cs (YW (abK o) v (fun v=>rec σ (Es d o.dst v []) ((i,⟨[],[],fE o (tY d),[]⟩)::log) F K)
         (fun τ g v=>rec τ (Es (d.map g) o.dst v []) ((i,⟨[],[],fE o (tY d),[]⟩)::log) F (fun τ' g' d' F''=>K τ' (fun t=>g (g' t)) d' F'')))
       | false => .fail "order"
   | true=>(hS eg T (Jd ((base+i)::fE o (tY d)) (jC d)) (base+i) o (tY d)).thn
     (fun v us=>match ncD ops draw anc i o ⟨bg us,(base+i)::fE o (tY d),[],qI (jC d) us⟩ log with
       | true=>rec σ (Es d o.dst v us) ((i,⟨bg us,(base+i)::fE o (tY d),[],qI (jC d) us⟩)::log) F K
       | false => .fail "order")
     (fun τ g v us=>match ncD ops draw anc i o ⟨bg us,(base+i)::fE o (tY d),[],qI (jC (d.map g)) us⟩ log with
       | true=>rec τ (Es (d.map g) o.dst v us) ((i,⟨bg us,(base+i)::fE o (tY d),[],qI (jC (d.map g)) us⟩)::log) F (fun τ' g' d' F''=>K τ' (fun t=>g (g' t)) d' F'')
       | false => .fail "order")
def J9:List (Nat×Oper)->(σ:Type)->SS σ->List (Nat×EN)->Nat->((τ:Type)->(τ->σ)->SS τ->Nat->TR β τ)->TR β σ
 | [],σ,d,_,F,K=>K σ (fun s=>s) d F
 | (i,o)::is,σ,d,log,F,K=>match ae1 N o.dst with
   | false => .fail "dst"
   | true=>brW d (YT ops d o) (fun d=>afr eg call T q base ops draw anc i o σ d log F K (fun σ d log F K=>J9 is σ d log F K)) (fun d=>Qm ops draw anc i o d log (fun d log=>J9 is σ d log F K))
end
def YX (P:Program) (N:Nat) {β:Type} (call:S9 β):Prop :=
 ∀(i:Nat) (σ:Type) (f:Nat) (args:List (SV σ)) (d:SS σ) (F:Nat) (K:(τ:Type)->(τ->σ)->SV τ->List (Nat×SO τ)->List Nat->Nat->TR β τ) (s:σ) (b:β),(call i σ f args d F K).run s=some b ->
  ∃(τ:Type) (g:τ->σ) (s':τ) (v:SV τ) (us:List (Nat×SO τ)) (rds:List Nat) (F':Nat),g s'=s/\qA P f=true/\Does P nJ f (cL s args) rds (v.c s') (cO s' us) (d.c s N).rd/\(K τ g v us rds F').run s'=some b
section
variable {P:Program} {eg:Nat->Bool} {q:Nat->Bool} {N base:Nat} {ops:Array Oper} {draw:Bool} {anc:List (List Nat)} {β:Type} {call:S9 β}
def Qn {σ:Type} (N:Nat) (d:SS σ) (s:σ) (b:β) (K:(τ:Type)->(τ->σ)->SS τ->Nat->TR β τ) (sl:SL):Prop :=
 ∃(τ:Type) (g:τ->σ) (s':τ) (d':SS τ) (F':Nat),g s'=s/\Grow d g d'/\sl=d'.c s' N/\(K τ g d' F').run s'=some b
theorem xw {GL:Nat->Option (List DV)} {K K':SL->Prop} (hK:∀s,K s->K' s) {is:List Nat} {s:SL} {log:List (Nat×Ef)} (h:lU P GL q N base ops draw K is s log):lU P GL q N base ops draw K' is s log:=by
 obtain ⟨L,s',h1,h2,h3,h4⟩:=h;exact ⟨L,s',h1,h2,hK _ h3,h4⟩
theorem YZ {GL:Nat->Option (List DV)} {K:SL->Prop} {is:List Nat} {s s2:SL} {log:List (Nat×Ef)} (e:s2.S=s.S) (h:lU P GL q N base ops draw K is s2 log):lU P GL q N base ops draw K is s log:=by
 obtain ⟨L,s',h1,h2,h3,h4⟩:=h;exact ⟨L,s',h1,by rw [<-e];exact h2,h3,h4⟩
theorem Gt (hanc:draw=true->anc=qB ops ops.size) (hcall:YX P N call) :
 ∀(is:List (Nat×Oper)) (σ:Type) (d:SS σ) (log:List (Nat×Ef)) (slog:List (Nat×EN)) (F:Nat) (K:(τ:Type)->(τ->σ)->SS τ->Nat->TR β τ) (s:σ) (b:β),(∀x∈is,ops[x.1]? = some x.2)->(log.map fun x=>(x.1,J7 x.2))=slog ->
  (J9 eg call (aO P) q N base ops draw anc is σ d slog F K).run s=some b->lU P nJ q N base ops draw (Qn N d s b K) (is.map (·.1)) (d.c s N) log
 | [],σ,d,log,slog,F,K,s,b,_,_,h=>⟨[],d.c s N,rfl,rfl,⟨σ,fun s=>s,s,d,F,rfl,Grow.refl d,rfl,h⟩,fun _ y hy=>(by cases hy),fun _=>List.Pairwise.nil⟩
 | (i,o)::is,σ,d,log,slog,F,K,s,b,hall,hlog,h=>by
   have ho:ops[i]? = some o:=hall (i,o) List.mem_cons_self;have hall':∀x∈is,ops[x.1]? = some x.2:=fun x hx=>hall x (List.mem_cons_of_mem _ hx);rw [List.map_cons];rw [J9] at h;split at h
   ·rw [TR.run] at h;cases h
   ·rename_i hdst;rw [RY] at hdst;have hd:∀t,o.dst=some t->t<N:=fun t e=>by
     unfold UU at hdst;rw [e] at hdst;simpa using hdst
    have hnc:∀(e:Ef),ncD ops draw anc i o (J7 e) slog=true->draw=true->qC ops (anc.getD i []) o e log=true:=fun e he hdr=>by
     unfold ncD at he;rw [hdr] at he;simp only at he;rw [<-hlog,YR] at he;exact he
    -- the operation left out
    have hskip:∀d:SS σ,oz ops (d.c s N) o=some false->(Qm ops draw anc i o d slog (fun d log=>J9 eg call (aO P) q N base ops draw anc is σ d log F K)).run s=some b->lU P nJ q N base ops draw (Qn N d s b K) (i::is.map (·.1)) (d.c s N) log:=fun d hw ht=>by
     unfold Qm at ht;split at ht
     ·rename_i hn;have ih:=Gt hanc hcall is σ (YP d o.dst .undef) ((i,pG)::log) _ F K s b hall' (by rw [List.map_cons,hlog];rfl) ht;rw [YQ,show (SV.undef:SV σ).c s = .undef from by rw [SV.c]] at ih;refine jG hanc ho (SL.put_S _ o.dst) ?_ (hnc pG hn) (xw (fun sl => ?_) ih)
      ·unfold kD;rw [ho];exact ⟨hd,.inr ⟨hw,rfl⟩⟩
      ·rintro ⟨τ,g,s',d',F',h1,h2,h3,h4⟩;exact ⟨τ,g,s',d',F',h1,((Grow.refl d).put o.dst .undef).trans h2,h3,h4⟩
     ·rw [TR.run] at ht;cases ht
    -- the operation carried out
    have hgo:∀d:SS σ,oz ops (d.c s N) o=some true->(afr eg call (aO P) q base ops draw anc i o σ d slog F K (fun σ d log F K=>J9 eg call (aO P) q N base ops draw anc is σ d log F K)).run s=some b->lU P nJ q N base ops draw (Qn N d s b K) (i::is.map (·.1)) (d.c s N) log:=fun d hw ht=>by
     have hev:(fun x=>(tY d x).c s)=(d.c s N).ev nJ:=by funext x;exact Nr s N d x
     unfold afr at ht
     -- the rest,from a state in which more is known
     have rest:∀(τ:Type) (g:τ->σ) (s':τ) (v:SV τ) (us:List (Nat×SO τ)) (rds lvs:List Nat) (F':Nat),g s'=s ->
      EfR P nJ q (base+i) o (d.c s N).S ⟨v.c s',cO s' us,rds,lvs,lT (d.c s N).rd (cO s' us)⟩ ->
      ncD ops draw anc i o ⟨bg us,rds,lvs,qI (jC (d.map g)) us⟩ slog=true ->
      (J9 eg call (aO P) q N base ops draw anc is τ (Es (d.map g) o.dst v us) ((i,⟨bg us,rds,lvs,qI (jC (d.map g)) us⟩)::slog) F' (fun τ' g' d' F''=>K τ' (fun t=>g (g' t)) d' F'')).run s'=some b ->
      lU P nJ q N base ops draw (Qn N d s b K) (i::is.map (·.1)) (d.c s N) log:=fun τ g s' v us rds lvs F' hg hef hn hr=>by
      have hen:(⟨bg us,rds,lvs,qI (jC (d.map g)) us⟩:EN)=J7 ⟨v.c s',cO s' us,rds,lvs,lT (d.c s N).rd (cO s' us)⟩:=by
       unfold J7 tu;rw [Ns,<-hg,<-Yj g s' N d,<-jX,SQ]
      rw [hen] at hn hr;have ih:=Gt hanc hcall is τ (Es (d.map g) o.dst v us) ((i,⟨v.c s',cO s' us,rds,lvs,lT (d.c s N).rd (cO s' us)⟩)::log) _ F' _ s' b hall' (by rw [List.map_cons,hlog]) hr;rw [afp,Yj,hg] at ih;refine jG hanc ho (SL.app_S (d.c s N) o.dst ⟨v.c s',cO s' us,rds,lvs,lT (d.c s N).rd (cO s' us)⟩) ?_ (hnc _ hn) (xw (fun sl => ?_) ih)
      ·unfold kD;rw [ho];exact ⟨hd,.inl ⟨hw,hef⟩⟩
      ·rintro ⟨τ',g',s'',d',F'',h1,h2,h3,h4⟩;refine ⟨τ',fun t=>g (g' t),s'',d',F'',by show g (g' s'')=s;rw [h1,hg],?_,h3,h4⟩;exact ((Grow.map d g).app o.dst v us).trans h2
     have restI:∀(v:SV σ) (us:List (Nat×SO σ)) (rds lvs:List Nat) (F':Nat),
      EfR P nJ q (base+i) o (d.c s N).S ⟨v.c s,cO s us,rds,lvs,lT (d.c s N).rd (cO s us)⟩ ->
      ncD ops draw anc i o ⟨bg us,rds,lvs,qI (jC d) us⟩ slog=true ->
      (J9 eg call (aO P) q N base ops draw anc is σ (Es d o.dst v us) ((i,⟨bg us,rds,lvs,qI (jC d) us⟩)::slog) F' K).run s=some b ->
      lU P nJ q N base ops draw (Qn N d s b K) (i::is.map (·.1)) (d.c s N) log:=fun v us rds lvs F' hef hn hr=>by
      have hmap:d.map (fun s:σ=>s)=d:=by unfold SS.map;rw [AB,AL]
      refine rest σ (fun s=>s) s v us rds lvs F' rfl hef (by rw [hmap];exact hn) (by rw [hmap];exact hr)
     have heff:∀(v:AV) (us:List (Nat×AO)),zL (aO P) (restrict ((base+i)::fE o (tY d)) (d.c s N).rd) (base+i) o ((d.c s N).ev nJ)=some (v,us)->SX (aO P) o=true->eff (aO P) q (d.c s N).rd (base+i) o ((d.c s N).ev nJ)=some ⟨v,us,(base+i)::fE o (tY d),[]⟩:=fun v us he ho'=>by
      have hrs:(o.op.operands.toList.flatMap fun x=>((d.c s N).ev nJ x).refs)=fE o (tY d):=by rw [<-Gs s];simp only [Nr s N d]
      unfold eff;simp only [hrs];rw [abI _ _ _ _ _ ho'];simp only [he]
     split at ht
     ·split at ht
      ·rw [TR.run] at ht;cases ht
      ·rename_i f args hc;obtain ⟨τ,g,s',v,us,rds,F',h1,h2,h3,h4⟩:=hcall _ _ _ _ _ _ _ _ _ ht;split at h4
       ·rename_i hn;refine rest τ g s' v us rds [] F' h1 ?_ hn h4;refine ⟨rfl,?_⟩;rw [SL.ev_S,<-hev,abH s _ o hc];exact ⟨rfl,.inl ⟨h2,h3⟩⟩
       ·rw [TR.run] at h4;cases h4
     ·rename_i hno;have hca:rF ((d.c s N).S.ev nJ) o=none:=YV _ o hno;split at ht
      ·split at ht
       ·split at ht
        ·rw [TR.run] at ht;cases ht
        ·rename_i cs v hq;split at ht
         ·rename_i hn;obtain ⟨g1,g2⟩:=oJ ht;have hrs:(o.op.operands.toList.flatMap fun x=>((d.c s N).ev nJ x).refs)=fE o (tY d):=by rw [<-Gs s];simp only [Nr s N d]
          obtain ⟨n1,n2,n3⟩:=ak9 s (aO P) q (kinds (restrict (fE o (tY d)) (d.c s N).rd)) (restrict ((base+i)::fE o (tY d)) (d.c s N).rd) (base+i) o (tY d) hq g1;rw [hev] at n1 n2 n3;refine restI v [] ((base+i)::fE o (tY d)) [] F ⟨rfl,?_⟩ hn g2;rw [hca];refine ⟨⟨v.c s,[],(base+i)::fE o (tY d),[]⟩,?_,rfl,rfl,rfl,rfl⟩;rw [SL.ev_S];show eff (aO P) q (d.c s N).rd (base+i) o ((d.c s N).ev nJ)=_;unfold eff;simp only [hrs];rw [n1];simp only [n2,n3]
         ·rw [TR.run] at ht;cases ht
       ·rename_i cs v hq;split at ht
        ·rename_i hn;obtain ⟨g1,g2⟩:=oJ ht;have hEf:EfR P nJ q (base+i) o (d.c s N).S ⟨v.c s,[],[],fE o (tY d),[]⟩ := ?_
         ·rcases abL g2 with g2 | ⟨τ,g,s',v',h1,h2,h3⟩
          ·exact restI v [] [] (fE o (tY d)) F hEf hn g2
          ·exact rest τ g s' v' [] [] (fE o (tY d)) F h1 (by rw [h2];exact hEf) hn h3
         refine ⟨rfl,?_⟩;rw [hca];refine ⟨⟨v.c s,[],[],fE o (tY d)⟩,?_,rfl,rfl,rfl,rfl⟩;have hQ:=ak4 s (aO P) q (Ib (Jd (fE o (tY d)) (jC d))) o (tY d) cs v hq g1;have hrs:(o.op.operands.toList.flatMap fun x=>((d.c s N).ev nJ x).refs)=fE o (tY d):=by rw [<-Gs s];simp only [Nr s N d]
         rw [<-nY s,SY,jX s N,hev] at hQ;rw [SL.ev_S];show eff (aO P) q (d.c s N).rd (base+i) o ((d.c s N).ev nJ)=_;unfold eff;simp only [hrs];rw [hQ]
        ·rw [TR.run] at ht;cases ht
      ·rename_i hH;have hO:=ak7 s eg (aO P) (Jd ((base+i)::fE o (tY d)) (jC d)) (base+i) o (tY d);rw [SY,jX s N,hev] at hO
       have mkEf:∀ {τ:Type} (s':τ) (v:SV τ) (us:List (Nat×SO τ)),zL (aO P) (restrict ((base+i)::fE o (tY d)) (d.c s N).rd) (base+i) o ((d.c s N).ev nJ)=some (v.c s',cO s' us) ->
        EfR P nJ q (base+i) o (d.c s N).S ⟨v.c s',cO s' us,(base+i)::fE o (tY d),[],lT (d.c s N).rd (cO s' us)⟩:=fun {τ} s' v us he=>by
        refine ⟨rfl,?_⟩;rw [hca];refine ⟨⟨v.c s',cO s' us,(base+i)::fE o (tY d),[]⟩,?_,rfl,rfl,rfl,rfl⟩;rw [SL.ev_S];exact heff _ _ he hH
       rcases HR.thn_c _ ht hO with ⟨v,us,h1,h2⟩ | ⟨τ,g,s',v,us,h1,h2,h3⟩
       ·split at h2
        ·rename_i hn;exact restI v us _ [] F (mkEf s v us h1) hn h2
        ·rw [TR.run] at h2;cases h2
       ·split at h3
        ·rename_i hn;exact rest τ g s' v us _ [] F h1 (mkEf s' v us h2) hn h3
        ·rw [TR.run] at h3;cases h3
    have hW:=abG s N ops d o;have viaRef:∀(k:Nat) (b':Bool),(d.c s N).get k=bJ b'->lU P nJ q N base ops draw (Qn N (zn d k b') s b K) (i::is.map (·.1)) ((zn d k b').c s N) log->lU P nJ q N base ops draw (Qn N d s b K) (i::is.map (·.1)) (d.c s N) log:=fun k b' hk hr=>by
     refine YZ (J8 hk) (xw (fun sl => ?_) hr);rintro ⟨τ,g,s',d',F',h1,h2,h3,h4⟩;refine ⟨τ,g,s',d',F',h1,?_,h3,h4⟩;have h0:Grow d (fun s=>s) (zn d k b'):=⟨⟨[(k,.val (.bool b'))],by rw [AB];rfl⟩,⟨[],by rw [AL];rfl⟩⟩
     exact h0.trans h2
    have wantRef:∀(k:Nat) (b':Bool),(d.c s N).get k=bJ b'->oz ops ((zn d k b').c s N) o=oz ops (d.c s N) o:=fun k b' hk=>by
     rw [<-IC,<-IC,J8 hk]
    unfold brW at h;split at h
    ·rename_i hw;rw [hw] at hW;exact hgo d hW h
    ·rename_i hw;rw [hw] at hW;exact hskip d hW h
    ·rename_i k f hw;rw [hw] at hW;rw [TR.run] at h;obtain ⟨hW,hk⟩:=hW;cases hf:f s with
     | true=>rw [hf] at h hW hk;exact viaRef k true hk (hgo _ (by rw [wantRef k true hk];exact hW) h)
     | false=>rw [hf] at h hW hk;exact viaRef k false hk (hskip _ (by rw [wantRef k false hk];exact hW) h)
    ·rename_i k f hw;rw [hw] at hW;rw [TR.run] at h;obtain ⟨hW,hk⟩:=hW;cases hf:f s with
     | true=>rw [hf] at h hW hk;exact viaRef k true hk (hskip _ (by rw [wantRef k true hk];exact hW) h)
     | false=>rw [hf] at h hW hk;exact viaRef k false hk (hgo _ (by rw [wantRef k false hk];exact hW) h)
    ·rw [TR.run] at h;cases h
end
def pr:U->U->U
 | .unit,b=>b
 | .int k,.unit => .int k
 | .bool,.unit => .bool
 | .str,.unit => .str
 | .list t,.unit => .list t
 | .pair a b,.unit => .pair a b
 | a,b => .pair a b
def sO:(a b:U)->a.T->b.T->(pr a b).T
 | .unit,_,_,y=>y
 | .int _,.unit,x,_=>x
 | .bool,.unit,x,_=>x
 | .str,.unit,x,_=>x
 | .list _,.unit,x,_=>x
 | .pair _ _,.unit,x,_=>x
 | .int _,.int _,x,y=>(x,y)
 | .int _,.bool,x,y=>(x,y)
 | .int _,.str,x,y=>(x,y)
 | .int _,.list _,x,y=>(x,y)
 | .int _,.pair _ _,x,y=>(x,y)
 | .bool,.int _,x,y=>(x,y)
 | .bool,.bool,x,y=>(x,y)
 | .bool,.str,x,y=>(x,y)
 | .bool,.list _,x,y=>(x,y)
 | .bool,.pair _ _,x,y=>(x,y)
 | .str,.int _,x,y=>(x,y)
 | .str,.bool,x,y=>(x,y)
 | .str,.str,x,y=>(x,y)
 | .str,.list _,x,y=>(x,y)
 | .str,.pair _ _,x,y=>(x,y)
 | .list _,.int _,x,y=>(x,y)
 | .list _,.bool,x,y=>(x,y)
 | .list _,.str,x,y=>(x,y)
 | .list _,.list _,x,y=>(x,y)
 | .list _,.pair _ _,x,y=>(x,y)
 | .pair _ _,.int _,x,y=>(x,y)
 | .pair _ _,.bool,x,y=>(x,y)
 | .pair _ _,.str,x,y=>(x,y)
 | .pair _ _,.list _,x,y=>(x,y)
 | .pair _ _,.pair _ _,x,y=>(x,y)
def iG:(a b:U)->(pr a b).T->a.T
 | .unit,_,_=>()
 | .int _,.unit,x=>x
 | .bool,.unit,x=>x
 | .str,.unit,x=>x
 | .list _,.unit,x=>x
 | .pair _ _,.unit,x=>x
 | .int _,.int _,p=>p.1
 | .int _,.bool,p=>p.1
 | .int _,.str,p=>p.1
 | .int _,.list _,p=>p.1
 | .int _,.pair _ _,p=>p.1
 | .bool,.int _,p=>p.1
 | .bool,.bool,p=>p.1
 | .bool,.str,p=>p.1
 | .bool,.list _,p=>p.1
 | .bool,.pair _ _,p=>p.1
 | .str,.int _,p=>p.1
 | .str,.bool,p=>p.1
 | .str,.str,p=>p.1
 | .str,.list _,p=>p.1
 | .str,.pair _ _,p=>p.1
 | .list _,.int _,p=>p.1
 | .list _,.bool,p=>p.1
 | .list _,.str,p=>p.1
 | .list _,.list _,p=>p.1
 | .list _,.pair _ _,p=>p.1
 | .pair _ _,.int _,p=>p.1
 | .pair _ _,.bool,p=>p.1
 | .pair _ _,.str,p=>p.1
 | .pair _ _,.list _,p=>p.1
 | .pair _ _,.pair _ _,p=>p.1
def jw:(a b:U)->(pr a b).T->b.T
 | .unit,_,y=>y
 | .int _,.unit,_=>()
 | .bool,.unit,_=>()
 | .str,.unit,_=>()
 | .list _,.unit,_=>()
 | .pair _ _,.unit,_=>()
 | .int _,.int _,p=>p.2
 | .int _,.bool,p=>p.2
 | .int _,.str,p=>p.2
 | .int _,.list _,p=>p.2
 | .int _,.pair _ _,p=>p.2
 | .bool,.int _,p=>p.2
 | .bool,.bool,p=>p.2
 | .bool,.str,p=>p.2
 | .bool,.list _,p=>p.2
 | .bool,.pair _ _,p=>p.2
 | .str,.int _,p=>p.2
 | .str,.bool,p=>p.2
 | .str,.str,p=>p.2
 | .str,.list _,p=>p.2
 | .str,.pair _ _,p=>p.2
 | .list _,.int _,p=>p.2
 | .list _,.bool,p=>p.2
 | .list _,.str,p=>p.2
 | .list _,.list _,p=>p.2
 | .list _,.pair _ _,p=>p.2
 | .pair _ _,.int _,p=>p.2
 | .pair _ _,.bool,p=>p.2
 | .pair _ _,.str,p=>p.2
 | .pair _ _,.list _,p=>p.2
 | .pair _ _,.pair _ _,p=>p.2
theorem jd (a b:U) (x:a.T) (y:b.T):iG a b (sO a b x y)=x:=by cases a<;>cases b<;>rfl
theorem jD (a b:U) (x:a.T) (y:b.T):jw a b (sO a b x y)=y:=by cases a<;>cases b<;>rfl
inductive CS where
 | dat (u:U) | own (r e:Nat) (u:U) | nil | np | pt (r off:Nat) | cl (f:Nat) (caps:List (Nat×Nat)) | ki (k:IntKind) (n:Int) | kb (b:Bool)
inductive IT where
 | tmp (t:Nat) (agg:Bool) (cs:List CS)
 | mix (r:Nat) (cs:List CS)
 | row (r e:Nat) (u:U)
 | arr (r:Nat) (u:U)
 | mp (r:Nat)
 | drop (t:Nat)
 | dead (r:Nat)
def uC:CS->U
 | .dat u=>u
 | .own _ _ u => .list u
 | _ => .unit
def iw:List CS->U
 | [] => .unit
 | c::cs=>pr (uC c) (iw cs)
def uI:IT->U
 | .tmp _ _ cs=>iw cs
 | .mix _ cs=>iw cs
 | .row _ _ u => .list u
 | .arr _ u => .list u
 | .mp _ => .list (.int .i64)
 | _ => .unit
def bQ:List IT->U
 | [] => .unit
 | i::l=>pr (uI i) (bQ l)
section
variable {σ:Type}
def zo (ρ:Nat->Nat):List (Nat×Nat)->List (SV σ)
 | []=>[]
 | (r,off)::l => .ptr (ρ r) off::zo ρ l
def eqN (a b:Option Nat):Bool:=match a,b with
 | some x,some y=>decide (x=y)
 | none,none=>true
 | _,_=>false
def Gu (θ:Nat->Option Nat):List (Nat×Nat)->List (SV σ)->Bool
 | [],[]=>true
 | (r,off)::l,.ptr r1 off1::vs=>(eqN (θ r) (some r1)&&decide (off=off1))&&Gu θ l vs
 | _,_=>false
def Qo:(c:CS)->(σ->(uC c).T)->SV σ
 | .dat (.int k),f => .int k f
 | .dat .bool,f => .bool f
 | .dat .str,f => .str f
 | .dat (.list t),f => .lst t f
 | .dat _,_ => .junk
 | .own r _ u,f => .sl r (eH u) none (fun s=>(f s).length) .unk
 | .nil,_ => .val (.slice none 0 0)
 | .np,_ => .val (.pointer none)
 | .ki k n,_ => .val (.int k n)
 | .kb b,_ => .val (.bool b)
 | .pt r off,_ => .ptr r off
 | .cl f caps,_ => .clo f (zo (fun r=>r) caps)
def ajj:(c:CS)->(σ->(uC c).T)->List (Nat×SO σ)
 | .own r e u,f=>[(r,.data e u f true)]
 | _,_=>[]
def DZ:(cs:List CS)->(σ->(iw cs).T)->List (SV σ)
 | [],_=>[]
 | c::cs,f=>Qo c (fun s=>iG (uC c) (iw cs) (f s))::DZ cs (fun s=>jw (uC c) (iw cs) (f s))
def Jg:(cs:List CS)->(σ->(iw cs).T)->List (Nat×SO σ)
 | [],_=>[]
 | c::cs,f=>ajj c (fun s=>iG (uC c) (iw cs) (f s))++Jg cs (fun s=>jw (uC c) (iw cs) (f s))
def one1:List (SV σ)->SV σ
 | [v]=>v
 | _ => .junk
def adN:(i:IT)->(σ->(uI i).T)->List (Nat×SV σ)
 | .tmp t true cs,f=>[(t,.agg (DZ cs f))]
 | .tmp t false cs,f=>[(t,one1 (DZ cs f))]
 | .drop t,_=>[(t,.junk)]
 | _,_=>[]
def adO:(i:IT)->(σ->(uI i).T)->List (Nat×SO σ)
 | .tmp _ _ cs,f=>Jg cs f
 | .mix r cs,f=>(r,.mix (DZ cs f))::Jg cs f
 | .row r e u,f=>[(r,.data e u f true)]
 | .arr r u,f=>[(r,.arr u f)]
 | .mp r,f=>[(r,.mp f)]
 | .dead r,_=>[(r,.dead)]
 | _,_=>[]
def lX:(l:List IT)->(σ->(bQ l).T)->List (Nat×SV σ)
 | [],_=>[]
 | i::l,f=>adN i (fun s=>iG (uI i) (bQ l) (f s))++lX l (fun s=>jw (uI i) (bQ l) (f s))
def gX:(l:List IT)->(σ->(bQ l).T)->List (Nat×SO σ)
 | [],_=>[]
 | i::l,f=>adO i (fun s=>iG (uI i) (bQ l) (f s))++gX l (fun s=>jw (uI i) (bQ l) (f s))
def headD (d:SS σ) (its:List IT):SS (σ×(bQ its).T):=⟨lX its Prod.snd++lu Prod.fst d.tm,gX its Prod.snd++iV Prod.fst d.hp⟩
def Y0:U->Bool
 | .int _=>true
 | .bool=>true
 | .str=>true
 | .list _=>true
 | _=>false
def Et (rd:Nat->Option (SO σ)):(c:CS)->SV σ->Option (PK σ (uC c).T)
 | .dat u,v=>match Y0 u with | true=>Ep rd u [v] | false=>none
 | .own _ e u,v=>match v with
   | .val (.slice none 0 0)=>some ⟨fun _=>[],[],[]⟩
   | .sl r z none n .unk=>match rd r with
     | some (.data e' u' f true)=>match Ox u' u,decide (e'=e/\z=eH u') with
       | some ⟨h⟩,true=>some ⟨fP h fun s=>(f s).take (n s),[fun s=>decide (n s<=(f s).length)],[]⟩
       | _,_=>none
     | _=>none
   | _=>none
 | .nil,v=>match v with | .val (.slice none 0 0)=>some ⟨fun _=>(),[],[]⟩ | _=>none
 | .np,v=>match v with | .val (.pointer none)=>some ⟨fun _=>(),[],[]⟩ | _=>none
 | .ki k n,v=>match v with | .val (.int k1 n1)=>(match decide (k1=k/\n1=n) with | true=>some ⟨fun _=>(),[],[]⟩ | false=>none) | _=>none
 | .kb b,v=>match v with | .val (.bool b1)=>(match decide (b1=b) with | true=>some ⟨fun _=>(),[],[]⟩ | false=>none) | _=>none
 | .pt r off,v=>match v with | .ptr r' off'=>(match decide (r=r'/\off=off') with | true=>some ⟨fun _=>(),[],[]⟩ | false=>none) | _=>none
 | .cl f caps,v=>match v with | .clo f' vs=>(match decide (f=f')&&Gu some caps vs with | true=>some ⟨fun _=>(),[],[]⟩ | false=>none) | _=>none
def thC:CS->SV σ->List (Nat×Option Nat)
 | .own r _ _,.sl r1 _ _ _ _=>[(r,some r1)]
 | .own r _ _,_=>[(r,none)]
 | _,_=>[]
def Eu (rd:Nat->Option (SO σ)):(cs:List CS)->List (SV σ)->Option (PK σ (iw cs).T)
 | [],[]=>some ⟨fun _=>(),[],[]⟩
 | c::cs,v::vs=>match Et rd c v,Eu rd cs vs with
   | some x,some y=>some ⟨fun s=>sO (uC c) (iw cs) (x.f s) (y.f s),x.cs++y.cs,x.fz++y.fz⟩
   | _,_=>none
 | _,_=>none
def Qp:List CS->List (SV σ)->List (Nat×Option Nat)
 | c::cs,v::vs=>thC c v++Qp cs vs
 | _,_=>[]
def pkI (d:SS σ):(i:IT)->Option (PK σ (uI i).T)
 | .tmp t agg cs=>match gV t d.tm with
   | none=>none
   | some v=>match agg with
     | false=>Eu (jC d) cs [v]
     | true=>match v with | .agg vs=>Eu (jC d) cs vs | _=>none
 | .mix r cs=>match jC d r with | some (.mix vs)=>Eu (jC d) cs vs | _=>none
 | .row r e u=>match jC d r with
   | some (.data e' u' f true)=>match Ox u' u,decide (e'=e) with | some ⟨h⟩,true=>some ⟨fP h f,[],[]⟩ | _,_=>none
   | _=>none
 | .arr r u=>match jC d r with
   | some (.arr u' f)=>match Ox u' u with | some ⟨h⟩=>some ⟨fP h f,[],[]⟩ | none=>none
   | _=>none
 | .mp r=>match jC d r with
   | some (.mp f)=>some ⟨f,[],[]⟩
   | _=>none
 | .drop _=>some ⟨fun _=>(),[],[]⟩
 | .dead _=>some ⟨fun _=>(),[],[]⟩
def thI (d:SS σ):IT->List (Nat×Option Nat)
 | .tmp t agg cs=>match gV t d.tm with
   | none=>[]
   | some v=>match agg with
     | false=>Qp cs [v]
     | true=>match v with | .agg vs=>Qp cs vs | _=>[]
 | .mix r cs=>match jC d r with | some (.mix vs)=>Qp cs vs | _=>[]
 | _=>[]
def abM (d:SS σ):(l:List IT)->Option (PK σ (bQ l).T)
 | []=>some ⟨fun _=>(),[],[]⟩
 | i::l=>match pkI d i,abM d l with
   | some x,some y=>some ⟨fun s=>sO (uI i) (bQ l) (x.f s) (y.f s),x.cs++y.cs,x.fz++y.fz⟩
   | _,_=>none
def sH (d:SS σ):List IT->List (Nat×Option Nat)
 | []=>[]
 | i::l=>thI d i++sH d l
def nM:List IT->List Nat
 | []=>[]
 | .tmp t _ _::l=>t::nM l
 | .drop t::l=>t::nM l
 | _::l=>nM l
def jE:List IT->List Nat
 | []=>[]
 | .mix r _::l=>r::jE l
 | .row r _ _::l=>r::jE l
 | .arr r _::l=>r::jE l
 | .mp r::l=>r::jE l
 | .dead r::l=>r::jE l
 | _::l=>jE l
def iF:List (Nat×Option Nat)->List Nat
 | []=>[]
 | (r,_)::l=>r::iF l
def nodupB:List Nat->Bool
 | []=>true
 | r::l => !jv r l&&nodupB l
def Nu (o:Option (SO σ)):Bool :=
 match o with
 | none=>true
 | some .dead=>true
 | some (.data _ _ _ false)=>true
 | _=>false
def okN {σ':Type} (keys:List Nat) (dh:SS σ') (r:Nat):Bool := !jv r keys && !gB (jC dh) r
def Qq {σ':Type} (keys:List Nat) (dh:SS σ') (l:List Nat):Bool:=l.all (okN keys dh)
def Vr {σ':Type} (keys:List Nat) (dh:SS σ'):List Nat->List (Nat×SV σ)->Bool
 | _,[]=>true
 | skip,(t,v)::l=>match jv t skip with
   | true=>Vr keys dh skip l
   | false=>Qq keys dh v.refs&&Vr keys dh (t::skip) l
def Gv:SO σ->List Nat
 | .mix cs=>oZ cs
 | .tab _ _ vs=>oZ vs
 | _=>[]
def Vs {σ':Type} (keys:List Nat) (dh:SS σ'):List Nat->List (Nat×SO σ)->Bool
 | _,[]=>true
 | skip,(r,o)::l=>match jv r skip with
   | true=>Vs keys dh skip l
   | false=>(!jv r keys&&Qq keys dh (Gv o))&&Vs keys dh (r::skip) l
def eG:List CS->List Nat
 | []=>[]
 | .pt r _::l=>r::eG l
 | .cl _ caps::l=>caps.map (·.1)++eG l
 | _::l=>eG l
def dL:List IT->List Nat
 | []=>[]
 | .tmp _ _ cs::l=>eG cs++dL l
 | .mix _ cs::l=>eG cs++dL l
 | _::l=>dL l
def Gw {σ':Type} (keys:List Nat) (dh:SS σ'):List (Nat×Option Nat)->Bool
 | []=>true
 | (_,none)::l=>Gw keys dh l
 | (r,some x)::l=>((jv x keys||Nu (jC dh x))&&l.all fun y=>match y.2 with | some z => !decide (x=z) | none=>true)&&Gw keys dh l
def Ko {σ':Type} (th:List (Nat×Option Nat)) (dh:SS σ') (x:Nat):Bool :=
 (th.all fun y=>match y.2 with | some z => !decide (x=z) | none=>true)&&(jv x (iF th)||Nu (jC dh x))
def adP {τ:Type} (d:SS σ) (its:List IT) (d':SS τ) (fz:List (Nat×SO τ)):Bool :=
 ((((d'.tm.take (d'.tm.length-d.tm.length)).all fun x=>jv x.1 (nM its)||(match gV x.1 d.tm with | none=>true | some _=>false)) &&
  ((d'.hp.take (d'.hp.length-d.hp.length)).all fun x=>jv x.1 (jE its)||gB (jC d) x.1)) &&
 ((nodupB (iF (sH d' its))&&(iF (sH d' its)).all fun r=>gB (jC d) r && !jv r (jE its)) &&
  (Gw (iF (sH d' its)) (headD d its) (sH d' its)&&fz.all fun x=>Ko (sH d' its) (headD d its) x.1))) &&
 ((Vr (iF (sH d' its)) (headD d its) (nM its) d.tm&&Vs (iF (sH d' its)) (headD d its) (jE its) d.hp) &&
  (Qq (iF (sH d' its)) (headD d its) (dL its)&&(nodupB (jE its)&&(jE its).all fun r => !gB (jC d) r)))
end
def BZ:List (Nat×Nat)->List AV
 | []=>[]
 | (r,off)::l => .ptr r off::BZ l
def aC:(c:CS)->(uC c).T->AV
 | .dat (.int k),n=>dG k n
 | .dat .bool,b=>bJ b
 | .dat .str,l => .d (.val (.string ⟨l.toArray⟩))
 | .dat (.list t),l => .d (.dl (aS t l) l.length none)
 | .dat _,_ => .junk
 | .own r _ u,l => .sl r 0 l.length none
 | .nil,_ => .d (.val (.slice none 0 0))
 | .np,_ => .d (.val (.pointer none))
 | .ki k n,_ => .d (.val (.int k n))
 | .kb b,_ => .d (.val (.bool b))
 | .pt r off,_ => .ptr r off
 | .cl f caps,_ => .clo f (BZ caps)
def oC:(c:CS)->(uC c).T->List (Nat×AO)
 | .own r e u,l=>[(r,.data e (eH u) (aS u l) true)]
 | _,_=>[]
def mM:(cs:List CS)->(iw cs).T->List AV
 | [],_=>[]
 | c::cs,x=>aC c (iG (uC c) (iw cs) x)::mM cs (jw (uC c) (iw cs) x)
def Kq:(cs:List CS)->(iw cs).T->List (Nat×AO)
 | [],_=>[]
 | c::cs,x=>oC c (iG (uC c) (iw cs) x)++Kq cs (jw (uC c) (iw cs) x)
def lC:List AV->AV
 | [v]=>v
 | _ => .junk
def aT:(i:IT)->(uI i).T->List (Nat×AV)
 | .tmp t true cs,x=>[(t,.agg (mM cs x))]
 | .tmp t false cs,x=>[(t,lC (mM cs x))]
 | .drop t,_=>[(t,.junk)]
 | _,_=>[]
def aH:(i:IT)->(uI i).T->List (Nat×AO)
 | .tmp _ _ cs,x=>Kq cs x
 | .mix r cs,x=>(r,.mix (mM cs x))::Kq cs x
 | .row r e u,l=>[(r,.data e (eH u) (aS u l) true)]
 | .arr r u,l=>[(r,.mix ((aS u l).map .d))]
 | .mp r,l=>[(r,Xv l)]
 | .dead r,_=>[(r,.dead)]
 | _,_=>[]
def jJ:(l:List IT)->(bQ l).T->List (Nat×AV)
 | [],_=>[]
 | i::l,x=>aT i (iG (uI i) (bQ l) x)++jJ l (jw (uI i) (bQ l) x)
def lM:(l:List IT)->(bQ l).T->List (Nat×AO)
 | [],_=>[]
 | i::l,x=>aH i (iG (uI i) (bQ l) x)++lM l (jw (uI i) (bQ l) x)
section
variable {σ:Type} (s:σ)
theorem alb (k:IntKind) (f:σ->Int):(SV.int k f).c s=dG k (f s):=by rw [SV.c]
theorem ajk (f:σ->Bool):(SV.bool f).c s=bJ (f s):=by rw [SV.c]
theorem cStr (f:σ->List UInt8):(SV.str f).c s = .d (.val (.string ⟨(f s).toArray⟩)):=by rw [SV.c]
theorem alc (t:U) (f:σ->List t.T):(SV.lst t f).c s = .d (.dl (aS t (f s)) (f s).length none):=by rw [SV.c]
theorem Nv:(SV.junk:SV σ).c s = .junk:=by rw [SV.c]
theorem abN (r z:Nat) (n:σ->Nat):(SV.sl r z none n .unk).c s = .sl r 0 (n s) none:=by rw [SV.c];simp only [sG,Nat.zero_mul,oW]
theorem cVal (v:Value):(SV.val v:SV σ).c s = .d (.val v):=by rw [SV.c]
theorem ajl (r off:Nat):(SV.ptr r off:SV σ).c s = .ptr r off:=by rw [SV.c]
theorem aft (caps:List (Nat×Nat)):cL s (zo (fun r=>r) caps:List (SV σ))=BZ caps:=by
 induction caps with
 | nil=>rfl
 | cons x l ih=>obtain ⟨r,off⟩:=x;rw [zo,cL,ih,SV.c,BZ]
theorem ald (t:Nat) (l:List (SV σ)):cT s [(t,SV.agg l)]=[(t,.agg (cL s l))]:=by rw [cT,cT,SV.c]
theorem iH:∀(c:CS) (f:σ->(uC c).T),(Qo c f).c s=aC c (f s)
 | .dat (.int k),f=>alb s k f
 | .dat .bool,f=>ajk s f
 | .dat .str,f=>cStr s f
 | .dat (.list t),f=>alc s t f
 | .dat (.pair a b),f=>Nv s
 | .dat .unit,f=>Nv s
 | .own r e u,f=>abN s r (eH u) _
 | .nil,f=>cVal s _
 | .np,f=>cVal s _
 | .ki _ _,f=>cVal s _
 | .kb _,f=>cVal s _
 | .pt r off,f=>ajl s _ _
 | .cl f caps,_=>by show (SV.clo f (zo (fun r=>r) caps)).c s=_;rw [SV.c,aft];rfl
theorem afu:∀(c:CS) (f:σ->(uC c).T),cO s (ajj c f)=oC c (f s)
 | .own r e u,f=>rfl
 | .dat _,f=>rfl
 | .nil,f=>rfl
 | .np,f=>rfl
 | .ki _ _,f=>rfl
 | .kb _,f=>rfl
 | .pt _ _,f=>rfl
 | .cl _ _,f=>rfl
theorem EM:∀(cs:List CS) (f:σ->(iw cs).T),cL s (DZ cs f)=mM cs (f s)
 | [],_=>rfl
 | c::cs,f=>by rw [DZ,cL,iH,EM cs];rfl
theorem Kr:∀(cs:List CS) (f:σ->(iw cs).T),cO s (Jg cs f)=Kq cs (f s)
 | [],_=>rfl
 | c::cs,f=>by rw [Jg,cZ,afu,Kr cs];rfl
theorem Y1 (l:List (SV σ)):(one1 l).c s=lC (cL s l):=by
 cases l with
 | nil=>exact Nv s
 | cons v l=>cases l with
   | nil=>rfl
   | cons w l=>exact Nv s
theorem abP:∀(i:IT) (f:σ->(uI i).T),cT s (adN i f)=aT i (f s)
 | .tmp t true cs,f=>(ald s t (DZ cs f)).trans (congrArg (fun l=>[(t,AV.agg l)]) (EM s cs f))
 | .tmp t false cs,f=>(congrArg (fun v=>[(t,v)]) (Y1 s (DZ cs f))).trans (congrArg (fun l=>[(t,lC l)]) (EM s cs f))
 | .drop t,f=>congrArg (fun v=>[(t,v)]) (Nv s)
 | .mix _ _,f=>rfl
 | .row _ _ _,f=>rfl
 | .arr _ _,f=>rfl
 | .mp _,f=>rfl
 | .dead _,f=>rfl
theorem abQ:∀(i:IT) (f:σ->(uI i).T),cO s (adO i f)=aH i (f s)
 | .tmp t a cs,f=>Kr s cs f
 | .mix r cs,f=>(congrArg (fun l=>(r,AO.mix l)::cO s (Jg cs f)) (EM s cs f)).trans (congrArg (fun l=>(r,AO.mix (mM cs (f s)))::l) (Kr s cs f))
 | .row _ _ _,f=>rfl
 | .arr _ _,f=>rfl
 | .mp _,f=>rfl
 | .dead _,f=>rfl
 | .drop _,f=>rfl
theorem qJ:∀(l:List IT) (f:σ->(bQ l).T),cT s (lX l f)=jJ l (f s)
 | [],_=>rfl
 | i::l,f=>by rw [lX,tV,abP,qJ l];rfl
theorem xA:∀(l:List IT) (f:σ->(bQ l).T),cO s (gX l f)=lM l (f s)
 | [],_=>rfl
 | i::l,f=>by rw [gX,cZ,abQ,xA l];rfl
end
section
variable {θ:Nat->Option Nat} {hp1 hp2:Nat->Option AO}
mutual
theorem uV:∀(x:AV),(∀r∈x.refs,θ r=some r/\(hp2 r).isSome=true)->eY θ hp1 hp2 x x
 | .d x,_=>by rw [eY];exact ⟨x,.inl rfl,.inl rfl⟩
 | .ptr r off,h=>by rw [eY];have:=h r (by simp [AV.refs]);exact ⟨r,this.1,this.2,rfl⟩
 | .sl r off n c,h=>by rw [eY];have:=h r (by simp [AV.refs]);exact ⟨this.2,.inl ⟨r,this.1,rfl⟩⟩
 | .dptr cells off,_=>by rw [eY]
 | .agg cs,h=>by rw [eY];exact ⟨cs,rfl,sJ cs fun r hr=>h r (by rw [AV.refs];exact hr)⟩
 | .tup cs,h=>by rw [eY];exact ⟨cs,rfl,sJ cs fun r hr=>h r (by rw [AV.refs];exact hr)⟩
 | .clo f cs,h=>by rw [eY];exact ⟨cs,rfl,sJ cs fun r hr=>h r (by rw [AV.refs];exact hr)⟩
 | .undef,_=>by rw [eY]
 | .ab,_=>by rw [eY]
 | .junk,_=>by rw [eY];trivial
theorem sJ:∀(xs:List AV),(∀r∈AV.refs.refsL xs,θ r=some r/\(hp2 r).isSome=true)->gJ θ hp1 hp2 xs xs
 | [],_=>by rw [gJ]
 | x::xs,h=>by
   rw [AV.refs.refsL] at h;rw [gJ];exact ⟨x,xs,rfl,uV x fun r hr=>h r (List.mem_append_left _ hr),sJ xs fun r hr=>h r (List.mem_append_right _ hr)⟩
end
theorem D5 {x:DV} {y:AV} (h:y = .d x):eY θ hp1 hp2 (.d x) y:=by subst h;rw [eY];exact ⟨x,.inl rfl,.inl rfl⟩
theorem AP (l:List Int):wV (Xv l)=[]:=by
 show AV.refs.refsL (l.map fun _=>bJ true)=[]
 induction l with
 | nil=>rfl
 | cons x l ih=>rw [List.map_cons,AV.refs.refsL,ih];rfl
theorem xB {r:Nat} {o:AO} (h1:θ r=some r) (h2:hp1 r=some o) (h:∀r∈wV o,θ r=some r/\(hp2 r).isSome=true):rJ θ hp1 hp2 r o:=by
 unfold rJ;rw [h1];cases o with
 | data e s cs wr=>exact ⟨wr,cs,h2,.inl rfl,fun h=>h,fun h => .inl h⟩
 | mix cs=>exact ⟨cs,h2,sJ cs h⟩
 | mp kk ks vs=>exact ⟨vs,h2,sJ vs h⟩
 | dead=>trivial
theorem tZ:∀l:List DV,AV.refs.refsL (l.map .d)=[]
 | []=>rfl
 | x::l=>by rw [List.map_cons,AV.refs.refsL,tZ l,BN];rfl
end
section
variable {σ:Type} {s:σ} {θ:Nat->Option Nat} {hp2:Nat->Option AO} {rd:Nat->Option (SO σ)}
theorem afv {t:U} {v:SV σ} {p:PK σ (List t.T)} (hp:pkL rd t v=some p) (hc:allT s p.cs) (hfz:∀x∈p.fz,oQ θ hp2 x.1):eY θ (gu s rd) hp2 (.d (.dl (aS t (p.f s)) (p.f s).length none)) (v.c s):=by
 unfold pkL at hp;split at hp
 ·split at hp
  ·rename_i hk _;subst hk;cases hp;exact D5 (by rw [SV.c];rfl)
  ·cases hp
 ·cases hp;rw [SV.c,eY];exact ⟨.dl [] 0 none,.inr (.inl ⟨rfl,.inl rfl⟩),.inl rfl⟩
 ·rename_i r z o n cap;split at hp
  ·rename_i e u f wr hr;split at hp
   ·rename_i hk _ hz;subst hk;cases hp;have hz:=of_decide_eq_true hz;have h1:=uU hc.1;rw [SV.c,eY];refine ⟨.dl (aS u (rowP o n f s)) (rowP o n f s).length none,?_,.inl rfl⟩;unfold XO;simp only [gu,hr,Option.map_some,SO.c];refine ⟨hfz _ List.mem_cons_self,none,?_,.inr rfl⟩;rw [rV,hz,iO,fJ,List.length_take,List.length_drop,Nat.min_eq_left (by omega)]
   ·cases hp
  ·cases hp
 ·cases hp
theorem xC {a b:Option Nat} (h:eqN a b=true):a=b:=by
 unfold eqN at h;split at h
 ·rw [of_decide_eq_true h]
 ·rfl
 ·cases h
theorem Kt:∀(caps:List (Nat×Nat)) (vs:List (SV σ)),Gu θ caps vs=true->(∀r∈caps.map (·.1),(hp2 r).isSome=true)->gJ θ (gu s rd) hp2 (BZ caps) (cL s vs)
 | [],[],_,_=>by rw [cL,BZ,gJ]
 | (r,off)::l,.ptr r1 off1::vs,h,hr=>by
   rw [Gu,Bool.and_eq_true,Bool.and_eq_true] at h;obtain ⟨⟨h1,h2⟩,h3⟩:=h;obtain rfl:=of_decide_eq_true h2;rw [cL,BZ,gJ,SV.c];exact ⟨_,_,rfl,by rw [eY];exact ⟨r1,xC h1,hr r (by simp),rfl⟩,Kt l vs h3 fun x hx=>hr x (by simp at hx ⊢;exact .inr hx)⟩
 | [],_::_,h,_=>by cases h
 | (r,off)::l,[],h,_=>by cases h
 | (r,off)::l,.val _::vs,h,_=>by cases h
 | (r,off)::l,.int _ _::vs,h,_=>by cases h
 | (r,off)::l,.bool _::vs,h,_=>by cases h
 | (r,off)::l,.str _::vs,h,_=>by cases h
 | (r,off)::l,.lst _ _::vs,h,_=>by cases h
 | (r,off)::l,.ptx _ _ _ _::vs,h,_=>by cases h
 | (r,off)::l,.sl _ _ _ _ _::vs,h,_=>by cases h
 | (r,off)::l,.dpt _ _ _ _::vs,h,_=>by cases h
 | (r,off)::l,.agg _::vs,h,_=>by cases h
 | (r,off)::l,.tup _::vs,h,_=>by cases h
 | (r,off)::l,.clo _ _::vs,h,_=>by cases h
 | (r,off)::l,.undef::vs,h,_=>by cases h
 | (r,off)::l,.junk::vs,h,_=>by cases h
theorem Tc:∀ {caps:List (Nat×Nat)} {vs:List (SV σ)},Gu some caps vs=true->(∀r∈caps.map (·.1),θ r=some r)->Gu θ caps vs=true
 | [],[],_,_=>rfl
 | (r,off)::l,.ptr r1 off1::vs,h,hr=>by
   rw [Gu,Bool.and_eq_true,Bool.and_eq_true] at h ⊢;obtain ⟨⟨h1,h2⟩,h3⟩:=h;refine ⟨⟨?_,h2⟩,Tc h3 fun x hx=>hr x (by simp at hx ⊢;exact .inr hx)⟩;rw [hr r (by simp)];exact h1
 | [],_::_,h,_=>by cases h
 | (r,off)::l,[],h,_=>by cases h
 | (r,off)::l,.val _::vs,h,_=>by cases h
 | (r,off)::l,.int _ _::vs,h,_=>by cases h
 | (r,off)::l,.bool _::vs,h,_=>by cases h
 | (r,off)::l,.str _::vs,h,_=>by cases h
 | (r,off)::l,.lst _ _::vs,h,_=>by cases h
 | (r,off)::l,.ptx _ _ _ _::vs,h,_=>by cases h
 | (r,off)::l,.sl _ _ _ _ _::vs,h,_=>by cases h
 | (r,off)::l,.dpt _ _ _ _::vs,h,_=>by cases h
 | (r,off)::l,.agg _::vs,h,_=>by cases h
 | (r,off)::l,.tup _::vs,h,_=>by cases h
 | (r,off)::l,.clo _ _::vs,h,_=>by cases h
 | (r,off)::l,.undef::vs,h,_=>by cases h
 | (r,off)::l,.junk::vs,h,_=>by cases h
theorem Cb:∀(c:CS) (v:SV σ) (p:PK σ (uC c).T),Et rd c v=some p->allT s p.cs->(∀x∈p.fz,oQ θ hp2 x.1)->(∀x∈thC c v,θ x.1=x.2)->(∀x∈oC c (p.f s),(hp2 x.1).isSome=true)->(∀r∈eG [c],θ r=some r/\(hp2 r).isSome=true) ->
 eY θ (gu s rd) hp2 (aC c (p.f s)) (v.c s)/\∀x∈oC c (p.f s),rJ θ (gu s rd) hp2 x.1 x.2
 | .dat u,v,p,hp,hc,hfz,hth,hl,hpt=>by
   refine ⟨?_,fun x hx=>(by simp [oC] at hx)⟩;simp only [Et] at hp;split at hp
   ·rename_i hs;cases u with
    | int k =>
      simp only [Ep] at hp;split at hp
      ·rename_i k' f hf;split at hp
       ·rename_i hk _;obtain ⟨hk⟩:=hk;subst hk;cases hp;exact D5 (kJ hf s)
       ·cases hp
      ·cases hp
    | bool =>
      simp only [Ep] at hp;split at hp
      ·rename_i f hf;cases hp;exact D5 (xq hf s)
      ·cases hp
    | str =>
      simp only [Ep] at hp;split at hp
      ·rename_i f hf;cases hp;exact D5 (rQ hf s)
      ·cases hp
    | list t =>
      simp only [Ep] at hp;exact afv hp hc hfz
    | pair a b=>cases hs
    | unit=>cases hs
   ·cases hp
 | .own r e u,v,p,hp,hc,hfz,hth,hl,hpt=>by
   simp only [Et] at hp;split at hp
   ·cases hp;have h1:=hth (r,none) (by simp [thC]);have h2:=hl (r,_) (List.mem_singleton.2 rfl);refine ⟨?_,fun x hx => ?_⟩
    ·rw [SV.c];simp only [aC,List.length_nil];rw [eY];exact ⟨h2,.inr (.inl ⟨h1,rfl,rfl,rfl,rfl⟩)⟩
    ·simp only [oC,List.mem_singleton] at hx;subst hx;unfold rJ;simp only [h1];rfl
   ·rename_i r1 z n;split at hp
    ·rename_i e' u' f hr;split at hp
     ·rename_i hk _ hd;subst hk;obtain ⟨rfl,hz⟩:=of_decide_eq_true hd;cases hp;have hn:n s<=(f s).length:=of_decide_eq_true hc.1;have hn':((f s).take (n s)).length=n s:=by rw [List.length_take];omega
      have h1:=hth (r,some r1) (by simp [thC]);have h2:=hl (r,_) (List.mem_singleton.2 rfl);refine ⟨?_,fun x hx => ?_⟩
      ·rw [SV.c];simp only [aC,fP,sG,Nat.zero_mul,oW,hn'];rw [eY];exact ⟨h2,.inl ⟨r1,h1,rfl⟩⟩
      ·simp only [oC,List.mem_singleton] at hx;subst hx;unfold rJ;simp only [h1];exact ⟨true,_,by simp only [gu,hr,Option.map_some,SO.c],.inr (.inr ⟨n s*eH u',(fJ u' (n s) (f s)).symm⟩),fun _=>rfl,fun h=>(by cases h)⟩
     ·cases hp
    ·cases hp
   ·cases hp
 | .nil,v,p,hp,hc,hfz,hth,hl,hpt=>by
   refine ⟨?_,fun x hx=>(by simp [oC] at hx)⟩;simp only [Et] at hp;split at hp
   ·cases hp;exact D5 (by rw [SV.c])
   ·cases hp
 | .np,v,p,hp,hc,hfz,hth,hl,hpt=>by
   refine ⟨?_,fun x hx=>(by simp [oC] at hx)⟩;simp only [Et] at hp;split at hp
   ·cases hp;exact D5 (by rw [SV.c])
   ·cases hp
 | .ki k n,v,p,hp,hc,hfz,hth,hl,hpt=>by
   refine ⟨?_,fun x hx=>(by simp [oC] at hx)⟩;simp only [Et] at hp;split at hp
   ·split at hp
    ·rename_i hd;obtain ⟨rfl,rfl⟩:=of_decide_eq_true hd;cases hp;exact D5 (by rw [SV.c])
    ·cases hp
   ·cases hp
 | .kb b,v,p,hp,hc,hfz,hth,hl,hpt=>by
   refine ⟨?_,fun x hx=>(by simp [oC] at hx)⟩;simp only [Et] at hp;split at hp
   ·split at hp
    ·rename_i hd;obtain rfl:=of_decide_eq_true hd;cases hp;exact D5 (by rw [SV.c])
    ·cases hp
   ·cases hp
 | .pt r off,v,p,hp,hc,hfz,hth,hl,hpt=>by
   refine ⟨?_,fun x hx=>(by simp [oC] at hx)⟩;simp only [Et] at hp;split at hp
   ·split at hp
    ·rename_i hd;obtain ⟨rfl,rfl⟩:=of_decide_eq_true hd;cases hp;have:=hpt r (by simp [eG]);rw [SV.c];exact uV (.ptr r off) fun r' hr'=>by simp [AV.refs] at hr';subst hr';exact this
    ·cases hp
   ·cases hp
 | .cl f caps,v,p,hp,hc,hfz,hth,hl,hpt=>by
   refine ⟨?_,fun x hx=>(by simp [oC] at hx)⟩;simp only [Et] at hp;split at hp
   ·rename_i f' vs;split at hp
    ·rename_i hd;rw [Bool.and_eq_true] at hd;obtain ⟨hd,hb⟩:=hd;obtain rfl:=of_decide_eq_true hd;cases hp;have hm:∀r∈caps.map (·.1),r∈eG [.cl f caps]:=fun r hr=>by show r∈caps.map (·.1)++[];rw [List.append_nil];exact hr
     have hb':Gu θ caps vs=true:=Tc hb fun r hr=>(hpt r (hm r hr)).1;rw [SV.c];show eY θ _ hp2 (.clo f (BZ caps)) _;rw [eY];exact ⟨_,rfl,Kt caps vs hb' fun r hr=>(hpt r (hm r hr)).2⟩
    ·cases hp
   ·cases hp
theorem AQ:∀(cs:List CS) (vs:List (SV σ)) (p:PK σ (iw cs).T),Eu rd cs vs=some p->allT s p.cs->(∀x∈p.fz,oQ θ hp2 x.1)->(∀x∈Qp cs vs,θ x.1=x.2)->(∀x∈Kq cs (p.f s),(hp2 x.1).isSome=true)->(∀r∈eG cs,θ r=some r/\(hp2 r).isSome=true) ->
 gJ θ (gu s rd) hp2 (mM cs (p.f s)) (cL s vs)/\∀x∈Kq cs (p.f s),rJ θ (gu s rd) hp2 x.1 x.2
 | [],[],p,hp,hc,hfz,hth,hl,hpt=>by
   refine ⟨?_,fun x hx=>(by cases hx)⟩;rw [cL,show mM [] (p.f s)=[] from rfl,gJ]
 | c::cs,v::vs,p,hp,hc,hfz,hth,hl,hpt=>by
   rw [Eu] at hp;split at hp
   ·rename_i x y hx hy;cases hp;rw [bK] at hc;have e1:iG (uC c) (iw cs) (sO (uC c) (iw cs) (x.f s) (y.f s))=x.f s:=jd _ _ _ _;have e2:jw (uC c) (iw cs) (sO (uC c) (iw cs) (x.f s) (y.f s))=y.f s:=jD _ _ _ _;simp only [Kq,e1,e2] at hl;have hpt1:∀r∈eG [c],θ r=some r/\(hp2 r).isSome=true:=fun r hr=>hpt r (by cases c<;>simp [eG] at hr ⊢ <;> simp [hr]);have hpt2:∀r∈eG cs,θ r=some r/\(hp2 r).isSome=true:=fun r hr=>hpt r (by cases c<;>simp [eG,hr]);obtain ⟨a1,a2⟩:=Cb c v x hx hc.1 (fun z hz=>hfz z (List.mem_append_left _ hz)) (fun z hz=>hth z (List.mem_append_left _ hz)) (fun z hz=>hl z (List.mem_append_left _ hz)) hpt1;obtain ⟨b1,b2⟩:=AQ cs vs y hy hc.2 (fun z hz=>hfz z (List.mem_append_right _ hz)) (fun z hz=>hth z (List.mem_append_right _ hz)) (fun z hz=>hl z (List.mem_append_right _ hz)) hpt2;refine ⟨?_,fun z hz => ?_⟩
    ·rw [cL];simp only [mM,e1,e2];rw [gJ];exact ⟨_,_,rfl,a1,b1⟩
    ·simp only [Kq,e1,e2] at hz;rcases List.mem_append.1 hz with h | h
     ·exact a2 z h
     ·exact b2 z h
   ·cases hp
 | [],_::_,p,hp,_,_,_,_,_=>by cases hp
 | _::_,[],p,hp,_,_,_,_,_=>by cases hp
end
theorem fK {r:Nat} {l:List Nat}:jv r l=true↔r∈l:=by rw [AA,List.contains_iff_mem]
theorem kL {r:Nat} {l:List Nat}:jv r l=false↔r∉l:=by rw [<-fK];cases jv r l<;>simp
section
variable {σ:Type} {s:σ} {θ:Nat->Option Nat} {hp2:Nat->Option AO}
theorem Cc {i:IT} {l:List IT}:∀r∈dL [i],r∈dL (i::l):=fun r hr=>by
 cases i<;>simp [dL] at hr ⊢ <;> simp [hr]
theorem Ce {i:IT} {l:List IT}:∀r∈dL l,r∈dL (i::l):=fun r hr=>by
 cases i<;>simp [dL]<;>simp [hr]
theorem afw {d:SS σ} {N:Nat}:∀(i:IT) (p:PK σ (uI i).T),pkI d i=some p->allT s p.cs->(∀x∈p.fz,oQ θ hp2 x.1)->(∀x∈thI d i,θ x.1=x.2)->(∀x∈aH i (p.f s),(hp2 x.1).isSome=true)->(∀r∈dL [i],θ r=some r/\(hp2 r).isSome=true)->(∀r∈jE [i],θ r=some r) ->
 (∀x∈aT i (p.f s),eY θ (d.c s N).rd hp2 x.2 ((d.c s N).get x.1))/\∀x∈aH i (p.f s),rJ θ (d.c s N).rd hp2 x.1 x.2
 | .tmp t agg cs,p,hp,hc,hfz,hth,hl,hpt,hcv=>by
   rw [<-jX s N];have hget:∀v,gV t d.tm=some v->(d.c s N).get t=v.c s:=fun v hv=>by
    rw [gW] at hv;unfold SL.get SS.c;simp only [mZ,hv,Option.map_some]
   have hpt':∀r∈eG cs,θ r=some r/\(hp2 r).isSome=true:=fun r hr=>hpt r (by simp [dL,hr]);simp only [pkI] at hp;simp only [thI] at hth;cases hv:gV t d.tm with
   | none=>simp only [hv] at hp;cases hp
   | some v =>
     simp only [hv] at hp hth;cases agg with
     | false =>
       simp only at hp hth;obtain ⟨a,b⟩:=AQ cs [v] p hp hc hfz hth hl hpt';refine ⟨fun x hx => ?_,b⟩;have hx:x∈[(t,lC (mM cs (p.f s)))]:=hx;rw [List.mem_singleton] at hx;subst hx;show eY θ _ hp2 (lC (mM cs (p.f s))) ((d.c s N).get t);rw [hget v hv];rw [cL,cL] at a;generalize mM cs (p.f s)=ys at a ⊢;cases ys with
       | nil=>rw [gJ] at a;cases a
       | cons y ys =>
         rw [gJ] at a;obtain ⟨x,xs,h1,h2,h3⟩:=a;cases h1;cases ys with
         | nil=>exact h2
         | cons z zs=>rw [gJ] at h3;obtain ⟨_,_,h4,_⟩:=h3;cases h4
     | true =>
       simp only at hp hth;cases v with
       | agg vs =>
         simp only at hp hth;obtain ⟨a,b⟩:=AQ cs vs p hp hc hfz hth hl hpt';refine ⟨fun x hx => ?_,b⟩;have hx:x∈[(t,AV.agg (mM cs (p.f s)))]:=hx;rw [List.mem_singleton] at hx;subst hx;show eY θ _ hp2 (.agg (mM cs (p.f s))) ((d.c s N).get t);rw [hget _ hv,SV.c,eY];exact ⟨_,rfl,a⟩
       | _=>cases hp
 | .mix r cs,p,hp,hc,hfz,hth,hl,hpt,hcv=>by
   rw [<-jX s N];refine ⟨fun x hx=>(by cases hx),?_⟩;simp only [pkI] at hp;simp only [thI] at hth;cases hvs:jC d r with
   | none=>simp only [hvs] at hp;cases hp
   | some o =>
     cases o with
     | mix vs =>
       simp only [hvs] at hp hth;have hpt':∀r∈eG cs,θ r=some r/\(hp2 r).isSome=true:=fun r hr=>hpt r (by simp [dL,hr]);obtain ⟨a,b⟩:=AQ cs vs p hp hc hfz hth (fun x hx=>hl x (List.mem_cons_of_mem _ hx)) hpt';intro x hx;rcases List.mem_cons.1 hx with rfl | hx
       ·unfold rJ;have hr:θ r=some r:=hcv r (by simp [jE]);simp only [hr];exact ⟨_,by simp only [gu,hvs,Option.map_some,SO.c],a⟩
       ·exact b x hx
     | data e u f wr=>simp only [hvs] at hp;cases hp
     | arr u f=>simp only [hvs] at hp;cases hp
     | mp f=>simp only [hvs] at hp;cases hp
     | tab kk ks vs=>simp only [hvs] at hp;cases hp
     | dead=>simp only [hvs] at hp;cases hp
 | .row r e u,p,hp,hc,hfz,hth,hl,hpt,hcv=>by
   rw [<-jX s N];refine ⟨fun x hx=>(by cases hx),?_⟩;simp only [pkI] at hp;split at hp
   ·rename_i e' u' f hr;split at hp
    ·rename_i hk _ hd;subst hk;have hd:=of_decide_eq_true hd;subst hd;cases hp;intro x hx;have hx:x∈[(r,AO.data e' (eH u') (aS u' (f s)) true)]:=hx;rw [List.mem_singleton] at hx;subst hx;exact xB (hcv r (by simp [jE])) (by simp only [gu,hr,Option.map_some,SO.c]) (fun r hr=>(by cases hr))
    ·cases hp
   ·cases hp
 | .arr r u,p,hp,hc,hfz,hth,hl,hpt,hcv=>by
   rw [<-jX s N];refine ⟨fun x hx=>(by cases hx),?_⟩;simp only [pkI] at hp;split at hp
   ·rename_i u' f hr;split at hp
    ·rename_i hk _;subst hk;cases hp;intro x hx;have hx:x∈[(r,AO.mix ((aS u' (f s)).map .d))]:=hx;rw [List.mem_singleton] at hx;subst hx;exact xB (hcv r (by simp [jE])) (by simp only [gu,hr,Option.map_some,SO.c]) (fun r hr=>(by simp [wV,tZ] at hr))
    ·cases hp
   ·cases hp
 | .mp r,p,hp,hc,hfz,hth,hl,hpt,hcv=>by
   rw [<-jX s N];refine ⟨fun x hx=>(by cases hx),?_⟩;simp only [pkI] at hp;split at hp
   ·rename_i f hr;cases hp;intro x hx;have hx:x∈[(r,Xv (f s))]:=hx;rw [List.mem_singleton] at hx;subst hx;exact xB (hcv r (by simp [jE])) (by simp only [gu,hr,Option.map_some,SO.c]) (fun r hr=>(by rw [AP] at hr;cases hr))
   ·cases hp
 | .drop t,p,hp,hc,hfz,hth,hl,hpt,hcv=>by
   refine ⟨fun x hx => ?_,fun x hx=>(by cases hx)⟩;have hx:x∈[(t,AV.junk)]:=hx;rw [List.mem_singleton] at hx;subst hx;rw [eY];trivial
 | .dead r,p,hp,hc,hfz,hth,hl,hpt,hcv=>by
   refine ⟨fun x hx=>(by cases hx),fun x hx => ?_⟩;have hx:x∈[(r,AO.dead)]:=hx;rw [List.mem_singleton] at hx;subst hx;unfold rJ;simp only [hcv r (by simp [jE])]
theorem abR {i:IT} {l:List IT}:∀r∈jE [i],r∈jE (i::l):=fun r hr=>by
 cases i<;>simp [jE] at hr ⊢ <;> simp [hr]
theorem abS {i:IT} {l:List IT}:∀r∈jE l,r∈jE (i::l):=fun r hr=>by
 cases i<;>simp [jE]<;>simp [hr]
theorem Td {d:SS σ} {N:Nat}:∀(l:List IT) (p:PK σ (bQ l).T),abM d l=some p->allT s p.cs->(∀x∈p.fz,oQ θ hp2 x.1)->(∀x∈sH d l,θ x.1=x.2)->(∀x∈lM l (p.f s),(hp2 x.1).isSome=true)->(∀r∈dL l,θ r=some r/\(hp2 r).isSome=true)->(∀r∈jE l,θ r=some r) ->
 (∀x∈jJ l (p.f s),eY θ (d.c s N).rd hp2 x.2 ((d.c s N).get x.1))/\∀x∈lM l (p.f s),rJ θ (d.c s N).rd hp2 x.1 x.2
 | [],p,hp,hc,hfz,hth,hl,hpt,hcv=>⟨fun x hx=>(by cases hx),fun x hx=>(by cases hx)⟩
 | i::l,p,hp,hc,hfz,hth,hl,hpt,hcv=>by
   rw [abM] at hp;split at hp
   ·rename_i x y hx hy;cases hp;rw [bK] at hc;have e1:iG (uI i) (bQ l) (sO (uI i) (bQ l) (x.f s) (y.f s))=x.f s:=jd _ _ _ _;have e2:jw (uI i) (bQ l) (sO (uI i) (bQ l) (x.f s) (y.f s))=y.f s:=jD _ _ _ _;simp only [lM,e1,e2] at hl;obtain ⟨a1,a2⟩:=afw (N:=N) i x hx hc.1 (fun z hz=>hfz z (List.mem_append_left _ hz)) (fun z hz=>hth z (List.mem_append_left _ hz)) (fun z hz=>hl z (List.mem_append_left _ hz)) (fun r hr=>hpt r (Cc r hr)) (fun r hr=>hcv r (abR r hr));obtain ⟨b1,b2⟩:=Td (N:=N) l y hy hc.2 (fun z hz=>hfz z (List.mem_append_right _ hz)) (fun z hz=>hth z (List.mem_append_right _ hz)) (fun z hz=>hl z (List.mem_append_right _ hz)) (fun r hr=>hpt r (Ce r hr)) (fun r hr=>hcv r (abS r hr));simp only [jJ,lM,e1,e2];refine ⟨fun z hz => ?_,fun z hz => ?_⟩
    ·rcases List.mem_append.1 hz with h | h
     ·exact a1 z h
     ·exact b1 z h
    ·rcases List.mem_append.1 hz with h | h
     ·exact a2 z h
     ·exact b2 z h
   ·cases hp
end
def Lu (th:List (Nat×Option Nat)) (r:Nat):Option Nat:=match look r th with | some x=>x | none=>some r
theorem AU:∀th:List (Nat×Option Nat),iF th=th.map (·.1)
 | []=>rfl
 | (r,x)::l=>by rw [iF,AU l];rfl
theorem abT {th:List (Nat×Option Nat)} (hn:nodupB (iF th)=true):∀x∈th,Lu th x.1=x.2:=by
 induction th with
 | nil=>intro x hx;cases hx
 | cons y l ih =>
   intro x hx;obtain ⟨k,v⟩:=y;rw [iF,nodupB,Bool.and_eq_true] at hn;have hk:k∉iF l:=by have:=hn.1;simp only [Bool.not_eq_true'] at this;exact kL.1 this
   rcases List.mem_cons.1 hx with rfl | hx
   ·unfold Lu;rw [look,if_pos rfl]
   ·have hne:k≠x.1:=fun e=>hk (by rw [AU,e];exact List.mem_map.2 ⟨x,hx,rfl⟩);have:=ih hn.2 x hx;unfold Lu at this ⊢;rw [look,if_neg hne];exact this
theorem jK {th:List (Nat×Option Nat)} {r:Nat} (h:r∉iF th):Lu th r=some r:=by
 unfold Lu;cases hl:look r th with
 | none=>rfl
 | some x=>exact (h (by rw [AU];exact List.mem_map.2 ⟨_,aU hl,rfl⟩)).elim
theorem xE {th:List (Nat×Option Nat)} {r:Nat} (h:r∈iF th):∃x,(r,x)∈th/\Lu th r=x:=by
 unfold Lu;cases hl:look r th with
 | none =>
   exfalso;rw [AU] at h;obtain ⟨y,hy,rfl⟩:=List.mem_map.1 h;have:∀l:List (Nat×Option Nat),y∈l->look y.1 l≠none:=by
    intro l
    induction l with
    | nil=>intro h;cases h
    | cons z l ih =>
      intro h;rw [look];split
      ·simp
      ·rcases List.mem_cons.1 h with rfl | h
       ·rename_i hne;exact (hne rfl).elim
       ·exact ih h
   exact this th hy hl
 | some x=>exact ⟨x,aU hl,rfl⟩
theorem Qr {GL:Nat->Option (List DV)} {N:Nat} {hp0:Nat->Option AO} {s s':SL} (θ:Nat->Option Nat) (hk:∀r o,hp0 r=some o->θ r=some r/\(s'.rd r).isSome=true) (hw:JE θ s.rd s'.rd) (ht:∀t v,look t s'.tm=some v->eY θ s.rd s'.rd v (s.get t)):vP GL N hp0 s.S s'.S:=fun E0 w0 E a w he hS hA=>by
 have hp:E.hp=s.rd:=hS.hp;have hw':JE θ E.hp s'.rd:=by rw [hp];exact hw
 refine ⟨jW E θ s'.rd,⟨hS.h,rfl,tC hS.sim hw',hS.n,hS.df,fun t => ?_⟩,⟨BH hA hw' (fun r o ho=>by rw [he] at ho;exact hk r o ho),tH hw' hA.fr⟩⟩;show Rel _ (s'.get t) _;unfold SL.get;cases hl:look t s'.tm with
 | none=>simp only;rw [Rel];trivial
 | some y =>
   have:=ht _ _ hl;rw [<-hp] at this;exact wU hS.sim hw' _ _ _ this (hS.tm t)
section
variable {σ τ σ':Type}
theorem Ci {s:σ} {d:SS σ} {N r:Nat} (h:Nu (jC d r)=true) {o:AO} (ho:(d.c s N).rd r=some o):o.mutB=false:=by
 rw [<-jX] at ho;unfold gu at ho;unfold Nu at h;split at h
 ·rename_i e;rw [e] at ho;cases ho
 ·rename_i e;rw [e] at ho;cases ho;rfl
 ·rename_i e;rw [e] at ho;cases ho;rfl
 ·cases h
theorem Cj {s:σ} {d:SS σ} {N r:Nat} (h:gB (jC d) r=false):((d.c s N).rd r).isSome=true:=by
 rw [<-jX];unfold gB at h;unfold gu;split at h
 ·cases h
 ·rename_i e;rw [e];rfl
theorem zq {s:σ} {d:SS σ} {N r:Nat} (h:gB (jC d) r=true):(d.c s N).rd r=none:=by
 rw [<-jX];unfold gB at h;unfold gu;split at h
 ·rename_i e;rw [e];rfl
 ·cases h
theorem yD {keys:List Nat} {dh:SS σ'}:∀ {l:List (Nat×SV σ)} {skip:List Nat},Vr keys dh skip l=true->∀t v,t∉skip->look t l=some v->Qq keys dh v.refs=true
 | [],skip,_,t,v,_,h=>by cases h
 | (k,x)::l,skip,hok,t,v,ht,h=>by
   rw [Vr] at hok;rw [look] at h;by_cases hk:k=t
   ·subst hk;rw [if_pos rfl] at h;cases h;rw [kL.2 ht] at hok;simp only [Bool.and_eq_true] at hok;exact hok.1
   ·rw [if_neg hk] at h;cases hm:jv k skip with
    | true=>rw [hm] at hok;exact yD hok t v ht h
    | false =>
      rw [hm] at hok;simp only [Bool.and_eq_true] at hok;exact yD hok.2 t v (fun hin=>by rcases List.mem_cons.1 hin with e | e;exact hk e.symm;exact ht e) h
theorem yE {keys:List Nat} {dh:SS σ'}:∀ {l:List (Nat×SO σ)} {skip:List Nat},Vs keys dh skip l=true->∀r o,r∉skip->look r l=some o->r∉keys/\Qq keys dh (Gv o)=true
 | [],skip,_,t,v,_,h=>by cases h
 | (k,x)::l,skip,hok,t,v,ht,h=>by
   rw [Vs] at hok;rw [look] at h;by_cases hk:k=t
   ·subst hk;rw [if_pos rfl] at h;cases h;rw [kL.2 ht] at hok;simp only [Bool.and_eq_true,Bool.not_eq_true'] at hok;exact ⟨kL.1 hok.1.1,hok.1.2⟩
   ·rw [if_neg hk] at h;cases hm:jv k skip with
    | true=>rw [hm] at hok;exact yE hok t v ht h
    | false =>
      rw [hm] at hok;simp only [Bool.and_eq_true] at hok;exact yE hok.2 t v (fun hin=>by rcases List.mem_cons.1 hin with e | e;exact hk e.symm;exact ht e) h
theorem Ku (s:σ) (o:SO σ):wV (o.c s)=Gv o:=by
 cases o with
 | mix cs=>exact rU s cs
 | arr u f=>show AV.refs.refsL ((aS u (f s)).map .d)=[];rw [tZ]
 | data e t f wr=>rfl
 | mp f=>exact AP (f s)
 | tab kk ks vs=>exact rU s vs
 | dead=>rfl
theorem Kv:∀(its:List IT) (x:(bQ its).T) (t:Nat),t∈nM its->∃v,(t,v)∈jJ its x
 | [],_,_,h=>by cases h
 | i::l,x,t,h=>by
   have tl:t∈nM l->∃v,(t,v)∈jJ (i::l) x:=fun h=>by
    obtain ⟨v,hv⟩:=Kv l (jw (uI i) (bQ l) x) t h;exact ⟨v,by rw [jJ];exact List.mem_append_right _ hv⟩
   cases i with
   | tmp k a cs =>
     rw [nM] at h;rcases List.mem_cons.1 h with rfl | h
     ·cases a with
      | true=>exact ⟨_,by rw [jJ];exact List.mem_append_left _ (List.mem_singleton.2 rfl)⟩
      | false=>exact ⟨_,by rw [jJ];exact List.mem_append_left _ (List.mem_singleton.2 rfl)⟩
     ·exact tl h
   | drop k =>
     rw [nM] at h;rcases List.mem_cons.1 h with rfl | h
     ·exact ⟨_,by rw [jJ];exact List.mem_append_left _ (List.mem_singleton.2 rfl)⟩
     ·exact tl h
   | mix r cs=>exact tl (by simpa [nM] using h)
   | row r e u=>exact tl (by simpa [nM] using h)
   | arr r u=>exact tl (by simpa [nM] using h)
   | mp r=>exact tl (by simpa [nM] using h)
   | dead r=>exact tl (by simpa [nM] using h)
theorem nZ {α:Type} {k:Nat}:∀ {l:List (Nat×α)},k∉l.map (·.1)->look k l=none
 | [],_=>rfl
 | (i,x)::l,h=>by
   rw [List.map_cons] at h;rw [look,if_neg (fun e=>h (by rw [e];exact List.mem_cons_self))];exact nZ fun hm=>h (List.mem_cons_of_mem _ hm)
theorem Kw:∀(its:List IT) (x:(bQ its).T) (r:Nat),r∈jE its->∃o,(r,o)∈lM its x
 | [],_,_,h=>by cases h
 | i::l,x,t,h=>by
   have tl:t∈jE l->∃v,(t,v)∈lM (i::l) x:=fun h=>by
    obtain ⟨v,hv⟩:=Kw l (jw (uI i) (bQ l) x) t h;exact ⟨v,by rw [lM];exact List.mem_append_right _ hv⟩
   cases i with
   | tmp k a cs=>exact tl (by simpa [jE] using h)
   | drop k=>exact tl (by simpa [jE] using h)
   | mix r cs =>
     rw [jE] at h;rcases List.mem_cons.1 h with rfl | h
     ·exact ⟨_,by rw [lM];exact List.mem_append_left _ List.mem_cons_self⟩
     ·exact tl h
   | row r e u =>
     rw [jE] at h;rcases List.mem_cons.1 h with rfl | h
     ·exact ⟨_,by rw [lM];exact List.mem_append_left _ (List.mem_singleton.2 rfl)⟩
     ·exact tl h
   | arr r u =>
     rw [jE] at h;rcases List.mem_cons.1 h with rfl | h
     ·exact ⟨_,by rw [lM];exact List.mem_append_left _ (List.mem_singleton.2 rfl)⟩
     ·exact tl h
   | mp r =>
     rw [jE] at h;rcases List.mem_cons.1 h with rfl | h
     ·exact ⟨_,by rw [lM];exact List.mem_append_left _ (List.mem_singleton.2 rfl)⟩
     ·exact tl h
   | dead r =>
     rw [jE] at h;rcases List.mem_cons.1 h with rfl | h
     ·exact ⟨_,by rw [lM];exact List.mem_append_left _ (List.mem_singleton.2 rfl)⟩
     ·exact tl h
end
section
variable {σ τ:Type}
def Y2 (d:SS σ) (its:List IT) (d':SS τ):Option (PK τ (bQ its).T) :=
 match abM d' its with
 | none=>none
 | some p=>match adP d its d' p.fz with
   | true=>some p
   | false=>none
theorem qo (d:SS σ) (its:List IT):Grow d Prod.fst (headD d its):=⟨⟨_,rfl⟩,⟨_,rfl⟩⟩
theorem iW {α:Type} {k:Nat} {l:List (Nat×α)} {v:α} (h:(k,v)∈l):∃w,look k l=some w:=by
 cases hl:look k l with
 | some w=>exact ⟨w,rfl⟩
 | none=>exact (nR hl v h).elim
theorem Gx (g:τ->σ):∀l:List (Nat×SV σ),(lu g l).length=l.length
 | []=>rfl
 | (t,v)::l=>by rw [lu,List.length_cons,List.length_cons,Gx g l]
theorem AX (g:τ->σ):∀l:List (Nat×SO σ),(iV g l).length=l.length
 | []=>rfl
 | (t,v)::l=>by rw [iV,List.length_cons,List.length_cons,AX g l]
theorem kM {σ':Type} {keys:List Nat} {dh:SS σ'}:∀ {th:List (Nat×Option Nat)},Gw keys dh th=true->(∀r x,(r,some x)∈th->x∈keys\/Nu (jC dh x)=true)/\∀r r' x,(r,some x)∈th->(r',some x)∈th->r=r'
 | [],_=>⟨fun r x h=>(by cases h),fun r r' x h=>(by cases h)⟩
 | (k,none)::l,h=>by
   rw [Gw] at h;obtain ⟨a,b⟩:=kM h;refine ⟨fun r x hm => ?_,fun r r' x hm hm' => ?_⟩
   ·rcases List.mem_cons.1 hm with e | hm
    ·cases e
    ·exact a r x hm
   ·rcases List.mem_cons.1 hm with e | hm
    ·cases e
    ·rcases List.mem_cons.1 hm' with e | hm'
     ·cases e
     ·exact b r r' x hm hm'
 | (k,some y)::l,h=>by
   rw [Gw,Bool.and_eq_true,Bool.and_eq_true] at h;obtain ⟨⟨h1,h2⟩,h3⟩:=h;obtain ⟨a,b⟩:=kM h3;have hno:∀r x,(r,some x)∈l->y≠x:=fun r x hm=>by
    have:=List.all_eq_true.1 h2 _ hm;simpa using this
   refine ⟨fun r x hm => ?_,fun r r' x hm hm' => ?_⟩
   ·rcases List.mem_cons.1 hm with e | hm
    ·cases e;rcases (Bool.or_eq_true _ _).mp h1 with h | h
     ·exact .inl (fK.1 h)
     ·exact .inr h
    ·exact a r x hm
   ·rcases List.mem_cons.1 hm with e | hm
    ·cases e;rcases List.mem_cons.1 hm' with e | hm'
     ·cases e;rfl
     ·exact (hno _ _ hm' rfl).elim
    ·rcases List.mem_cons.1 hm' with e | hm'
     ·cases e;exact (hno _ _ hm rfl).elim
     ·exact b r r' x hm hm'
theorem Vt {N:Nat} {d:SS σ} {its:List IT} {g:τ->σ} {d':SS τ} {p:PK τ (bQ its).T} {s:τ} (hg:Grow d g d') (h:Y2 d its d'=some p) (hc:allT s p.cs) :
 ∃ θ:Nat->Option Nat,(∀r,(look r d.hp).isSome=true->θ r=some r/\(((headD d its).c (g s,p.f s) N).rd r).isSome=true)/\JE θ (d'.c s N).rd ((headD d its).c (g s,p.f s) N).rd /\
   ∀t v,look t ((headD d its).c (g s,p.f s) N).tm=some v->eY θ (d'.c s N).rd ((headD d its).c (g s,p.f s) N).rd v ((d'.c s N).get t):=by
 unfold Y2 at h;split at h
 ·cases h
 rename_i p' hp;split at h
 ·rename_i hB;cases h;unfold adP at hB;simp only [Bool.and_eq_true] at hB;obtain ⟨⟨⟨b1,b2⟩,⟨b3,b4⟩,b5,b6⟩,⟨b7,b8⟩,b9,b10,b11⟩:=hB
  -- the names
  have hkey:=abT b3;have hkd:∀r∈iF (sH d' its),look r d.hp=none/\r∉jE its:=fun r hr=>by
   have:=List.all_eq_true.1 b4 r hr;rw [Bool.and_eq_true,Bool.not_eq_true'] at this;refine ⟨?_,kL.1 this.2⟩;have h1:=this.1;unfold gB jC at h1;rw [gW] at h1;split at h1
   ·assumption
   ·cases h1
  have hT:((headD d its).c (g s,p.f s) N).tm=jJ its (p.f s)++cT (g s) d.tm:=by
   show cT (g s,p.f s) (lX its Prod.snd++lu Prod.fst d.tm)=_;rw [tV,qJ,JU]
  have hH:((headD d its).c (g s,p.f s) N).hp=lM its (p.f s)++cO (g s) d.hp:=by
   show cO (g s,p.f s) (gX its Prod.snd++iV Prod.fst d.hp)=_;rw [cZ,xA,oH]
  have hHs:∀r,(∃o,(r,o)∈lM its (p.f s))->(((headD d its).c (g s,p.f s) N).rd r).isSome=true:=fun r ⟨o,ho⟩=>by
   unfold SL.rd;rw [hH,bI];obtain ⟨w,hw⟩:=iW ho;rw [hw];rfl
  have hNs:∀l,Qq (iF (sH d' its)) (headD d its) l=true->∀r∈l,Lu (sH d' its) r=some r/\(((headD d its).c (g s,p.f s) N).rd r).isSome=true:=fun l hl r hr=>by
   have:=List.all_eq_true.1 hl r hr;unfold okN at this;rw [Bool.and_eq_true,Bool.not_eq_true',Bool.not_eq_true'] at this;exact ⟨jK (kL.1 this.1),Cj this.2⟩
  -- the items
  have hcov:∀r∈jE its,Lu (sH d' its) r=some r:=fun r hr=>jK fun hk=>(hkd r hk).2 hr;have hfz:∀x∈p.fz,oQ (Lu (sH d' its)) ((headD d its).c (g s,p.f s) N).rd x.1:=fun x hx r' hr' o ho=>by
   have:=List.all_eq_true.1 b6 x hx;unfold Ko at this;rw [Bool.and_eq_true] at this;obtain ⟨f1,f2⟩:=this;by_cases hk:r'∈iF (sH d' its)
   ·obtain ⟨y,hy1,hy2⟩:=xE hk;rw [hy2] at hr';subst hr';have:=List.all_eq_true.1 f1 _ hy1;simp at this
   ·rw [jK hk] at hr';cases hr';rcases (Bool.or_eq_true _ _).mp f2 with h | h
    ·exact (hk (fK.1 h)).elim
    ·exact Ci h ho
  obtain ⟨w1,w2⟩:=Td (s:=s) (N:=N) (θ:=Lu (sH d' its)) (hp2:=((headD d its).c (g s,p.f s) N).rd) its p hp hc hfz hkey (fun x hx=>hHs x.1 ⟨x.2,hx⟩) (hNs _ b9) hcov
  -- what is kept
  obtain ⟨⟨l1,g1⟩,⟨l2,g2⟩⟩:=hg;have hl1:d'.tm.take (d'.tm.length-d.tm.length)=l1:=by rw [g1,List.length_append,Gx,Nat.add_sub_cancel,List.take_left]
  have hl2:d'.hp.take (d'.hp.length-d.hp.length)=l2:=by rw [g2,List.length_append,AX,Nat.add_sub_cancel,List.take_left]
  rw [hl1] at b1;rw [hl2] at b2;have keptT:∀t w,t∉nM its->look t d.tm=some w->(d'.c s N).get t=w.c (g s):=fun t w ht hw=>by
   unfold SL.get SS.c;simp only [mZ,g1,bI];rw [nZ (l:=l1) (fun hm => ?_)]
   ·have:look t (lu g d.tm)=some (w.map g):=by
     have:∀l:List (Nat×SV σ),look t (lu g l)=(look t l).map (SV.map g):=by
      intro l
      induction l with
      | nil=>rfl
      | cons x l ih =>
        obtain ⟨k,v⟩:=x;rw [lu,look,look];split
        ·rfl
        ·exact ih
     rw [this,hw];rfl
    simp only [this,Option.map_some,Sj]
   ·obtain ⟨x,hx,rfl⟩:=List.mem_map.1 hm;have:=List.all_eq_true.1 b1 x hx;rcases (Bool.or_eq_true _ _).mp this with h | h
    ·exact ht (fK.1 h)
    ·rw [gW,hw] at h;cases h
  have keptH:∀r w,r∉jE its->look r d.hp=some w->(d'.c s N).rd r=some (w.c (g s)):=fun r w ht hw=>by
   unfold SL.rd SS.c;simp only [jI,g2,bI];rw [nZ (l:=l2) (fun hm => ?_)]
   ·have:look r (iV g d.hp)=some (w.map g):=by
     have:∀l:List (Nat×SO σ),look r (iV g l)=(look r l).map (SO.map g):=by
      intro l
      induction l with
      | nil=>rfl
      | cons x l ih =>
        obtain ⟨k,v⟩:=x;rw [iV,look,look];split
        ·rfl
        ·exact ih
     rw [this,hw];rfl
    simp only [this,Option.map_some,JR]
   ·obtain ⟨x,hx,rfl⟩:=List.mem_map.1 hm;have:=List.all_eq_true.1 b2 x hx;rcases (Bool.or_eq_true _ _).mp this with h | h
    ·exact ht (fK.1 h)
    ·unfold gB jC at h;rw [gW,hw] at h;cases h
  have notH:∀r,look r (lM its (p.f s))=none->r∉jE its:=fun r hn hr=>by
   obtain ⟨o,ho⟩:=Kw its (p.f s) r hr;exact nR hn o ho
  refine ⟨Lu (sH d' its),fun r hs => ?_,⟨fun r o ho => ?_,fun r' r'' o' o'' r ho' ho'' hm' hm'' ht' ht'' => ?_⟩,fun t v hv => ?_⟩
  ·refine ⟨jK fun hk => ?_,?_⟩
   ·rw [(hkd r hk).1] at hs;cases hs
   ·unfold SL.rd;rw [hH,bI];cases look r (lM its (p.f s)) with
    | some x=>rfl
    | none =>
      simp only [jI];cases hl:look r d.hp with
      | none=>rw [hl] at hs;cases hs
      | some w=>rfl
  ·unfold SL.rd at ho;rw [hH,bI] at ho;cases hl:look r (lM its (p.f s)) with
   | some x =>
     rw [hl] at ho;cases ho;exact w2 _ (aU hl)
   | none =>
     rw [hl] at ho;simp only [jI] at ho;cases hw:look r d.hp with
     | none=>rw [hw] at ho;cases ho
     | some w =>
       rw [hw] at ho;cases ho;have hnc:=notH r hl;obtain ⟨k1,k2⟩:=yE b8 r w hnc hw;exact xB (jK k1) (keptH r w hnc hw) (fun q hq=>hNs _ k2 q (by rw [Ku] at hq;exact hq))
  ·by_cases k1:r'∈iF (sH d' its)
   ·obtain ⟨x,x1,x2⟩:=xE k1;rw [x2] at ht';subst ht';by_cases k2:r''∈iF (sH d' its)
    ·obtain ⟨y,y1,y2⟩:=xE k2;rw [y2] at ht'';subst ht'';exact (kM b5).2 _ _ _ x1 y1
    ·rw [jK k2] at ht'';cases ht'';rcases (kM b5).1 _ _ x1 with h | h
     ·exact (k2 h).elim
     ·rw [Ci h ho''] at hm'';cases hm''
   ·rw [jK k1] at ht';cases ht';by_cases k2:r''∈iF (sH d' its)
    ·obtain ⟨y,y1,y2⟩:=xE k2;rw [y2] at ht'';subst ht'';rcases (kM b5).1 _ _ y1 with h | h
     ·exact (k1 h).elim
     ·rw [Ci h ho'] at hm';cases hm'
    ·rw [jK k2] at ht'';cases ht'';rfl
  ·rw [hT,bI] at hv;cases hl:look t (jJ its (p.f s)) with
   | some x =>
     rw [hl] at hv;cases hv;exact w1 _ (aU hl)
   | none =>
     rw [hl] at hv;simp only [mZ] at hv;cases hw:look t d.tm with
     | none=>rw [hw] at hv;cases hv
     | some w =>
       rw [hw] at hv;cases hv;have hnc:t∉nM its:=fun hc=>by
        obtain ⟨v,hv⟩:=Kv its (p.f s) t hc;exact nR hl v hv
       rw [keptT t w hnc hw];exact uV _ fun r hr=>hNs _ (yD b7 t w hnc hw) r (by rw [F5] at hr;exact hr)
 ·cases h
end
theorem D6 {a b c:AO} (h:a.like b) (k:b.like c) (hb:b ≠ .dead):a.like c:=by
 cases a<;>cases b<;>cases c<;>simp_all [AO.like]
theorem rJ.same {θ:Nat->Option Nat} {hp1 hp2:Nat->Option AO} {r':Nat} {o:AO} (h:rJ θ hp1 hp2 r' o) (hd:o ≠ .dead) {r:Nat} (ht:θ r'=some r):∃o1,hp1 r=some o1/\o1 ≠ .dead/\o1.like o:=by
 unfold rJ at h;rw [ht] at h;cases o with
 | dead=>exact (hd rfl).elim
 | data e s cs wr=>obtain ⟨wr1,cs1,h1,_⟩:=h;exact ⟨_,h1,by simp,⟨rfl,rfl⟩⟩
 | mix cs=>obtain ⟨cs1,h1,_⟩:=h;exact ⟨_,h1,by simp,trivial⟩
 | mp kk ks vs=>obtain ⟨vs1,h1,_⟩:=h;exact ⟨_,h1,by simp,trivial⟩
theorem ajm {P:Program} {GL:Nat->Option (List DV)} {f:FuncId} {argsC args:List AV} {osC os usC us:List (Nat×AO)} {vC v:AV} {θ θ':Nat->Option Nat} (h:fZ P GL f argsC osC vC usC)
 (hw:JE θ (aK os) (aK osC)) (ha:gJ θ (aK os) (aK osC) argsC args) (hw':JE θ' (aK usC) (aK us)) (hv:eY θ' (aK usC) (aK us) v vC)
 (hk:∀r o,look r os=some o->∃o',look r us=some o'/\∃c oc,θ' r=some c/\θ c=some r/\look c osC=some oc/\oc ≠ .dead):fZ P GL f args os v us:=fun E w vs hE hwh hs hrel=>by
 have hw0:JE θ E.hp (aK osC):=by rw [hE];exact hw
 have ha0:gJ θ E.hp (aK osC) argsC args:=by rw [hE];exact ha
 refine (h (jW E θ (aK osC)) w vs rfl hwh (tC hs hw0) (nV hs hw0 argsC args vs.toList ha0 hrel)).mono ?_;rintro e w' ⟨u,E2,rfl,h1,h2,h3,h4,h5,h6⟩;have hw2:JE θ' E2.hp (aK us):=by rw [h2];exact hw'
 have hv2:eY θ' E2.hp (aK us) v vC:=by rw [h2];exact hv
 refine ⟨u,jW E2 θ' (aK us),rfl,h1,rfl,tC h3 hw2,⟨oU.trans (h4.sub.trans oU),fun r o ho => ?_⟩,tH hw2 ((tH hw0 (mX.refl E w)).trans h5),wU h3 hw2 v vC u hv2 h6⟩;rw [hE] at ho;obtain ⟨o',k1,c,oc,k2,k3,k4,k5⟩:=hk r o ho;have k1':(jW E2 θ' (aK us)).hp r=some o':=k1;have hc:=hw0.ob c oc k4;obtain ⟨o1,q1,q2,q3⟩:=hc.same k5 k3;rw [hE] at q1;have:o1=o:=by have e:aK os r=some o:=ho;rw [q1] at e;cases e;rfl
 subst this;refine ⟨o',k1',?_⟩;by_cases hd:o' = .dead
 ·subst hd;exact ⟨by cases o1<;>simp_all [AO.like],.inl rfl⟩
 ·obtain ⟨o2,p1,p2,p3⟩:=(hw2.ob r o' k1').same hd k2;obtain ⟨oc',p4,p5,p6⟩:=h4.ob c oc k4;rw [p1] at p4;cases p4;refine ⟨D6 q3 (D6 p5 p3 p2) k5,.inr ?_⟩;rcases p6 with p6 | p6
  ·exact (p2 p6).elim
  ·rw [nU k2,p6,nU k3]
def lg:List (Nat×Option Nat)->Nat->Option Nat
 | [],_=>none
 | (r,x)::l,k=>match decide (r=k) with | true=>x | false=>lg l k
def yS:List CS->List Nat
 | []=>[]
 | .own r _ _::l=>r::yS l
 | _::l=>yS l
def aN:List IT->List Nat
 | []=>[]
 | .tmp _ _ cs::l=>yS cs++aN l
 | .mix r cs::l=>r::(yS cs++aN l)
 | .row r _ _::l=>r::aN l
 | .arr r _::l=>r::aN l
 | .mp r::l=>r::aN l
 | .dead r::l=>r::aN l
 | .drop _::l=>aN l
def Tf:List IT->Bool
 | []=>true
 | .dead _::_=>false
 | .drop _::_=>false
 | _::l=>Tf l
section
variable {σ:Type}
def ajn:List (Nat×Nat)->List (SV σ)->List (Nat×Option Nat)
 | (r,_)::l,.ptr r1 _::vs=>(r,some r1)::ajn l vs
 | _,_=>[]
def cellT:CS->SV σ->List (Nat×Option Nat)
 | .own r _ _,.sl r1 _ _ _ _=>[(r,some r1)]
 | .own r _ _,_=>[(r,none)]
 | .pt r _,.ptr r1 _=>[(r,some r1)]
 | .cl _ caps,.clo _ vs=>ajn caps vs
 | _,_=>[]
def Ky:List CS->List (SV σ)->List (Nat×Option Nat)
 | c::cs,v::vs=>cellT c v++Ky cs vs
 | _,_=>[]
def namesT (d:SS σ):List IT->List (Nat×Option Nat)->List (Nat×Option Nat)
 | [],acc=>acc
 | .tmp t false cs::l,acc=>match gV t d.tm with
   | some v=>namesT d l (acc++Ky cs [v])
   | none=>acc
 | .tmp t true cs::l,acc=>match gV t d.tm with
   | some (.agg vs)=>namesT d l (acc++Ky cs vs)
   | _=>acc
 | .mix r cs::l,acc=>match lg acc r with
   | some r1=>match jC d r1 with
     | some (.mix vs)=>namesT d l (acc++Ky cs vs)
     | _=>acc
   | none=>acc
 | _::l,acc=>namesT d l acc
def xG (r:Nat):Bool:=decide (41000000<=r)
def vY (θ:Nat->Option Nat) (rd:Nat->Option (SO σ)):(c:CS)->SV σ->Option (PK σ (uC c).T)
 | .pt r off,v=>match v with
   | .ptr r1 off1=>match eqN (θ r) (some r1)&&decide (off=off1) with | true=>some ⟨fun _=>(),[],[]⟩ | false=>none
   | _=>none
 | .cl f caps,v=>match v with
   | .clo f1 vs=>match decide (f=f1)&&Gu θ caps vs with | true=>some ⟨fun _=>(),[],[]⟩ | false=>none
   | _=>none
 | .dat u,v=>Et rd (.dat u) v
 | .own r e u,v=>match v with
   | .val (.slice none 0 0)=>match θ r with | none=>some ⟨fun _=>[],[],[]⟩ | some _=>none
   | .sl r1 z none n .unk=>match eqN (θ r) (some r1) with
     | true=>match rd r1 with
       | some (.data e' u' f true)=>match Ox u' u,decide (e'=e/\z=eH u') with
         | some ⟨h⟩,true=>match xG r with
           | true=>some ⟨fP h fun s=>(f s).take (n s),[fun s=>decide (n s<=(f s).length)],[]⟩
           | false=>some ⟨fP h f,[fun s=>decide (n s=(f s).length)],[]⟩
         | _,_=>none
       | _=>none
     | false=>none
   | _=>none
 | .nil,v=>Et rd .nil v
 | .np,v=>Et rd .np v
 | .ki k n,v=>Et rd (.ki k n) v
 | .kb b,v=>Et rd (.kb b) v
def D7 (θ:Nat->Option Nat) (rd:Nat->Option (SO σ)):(cs:List CS)->List (SV σ)->Option (PK σ (iw cs).T)
 | [],[]=>some ⟨fun _=>(),[],[]⟩
 | c::cs,v::vs=>match vY θ rd c v,D7 θ rd cs vs with
   | some x,some y=>some ⟨fun s=>sO (uC c) (iw cs) (x.f s) (y.f s),x.cs++y.cs,x.fz++y.fz⟩
   | _,_=>none
 | _,_=>none
def AY (θ:Nat->Option Nat) (d:SS σ):(i:IT)->Option (PK σ (uI i).T)
 | .tmp t agg cs=>match gV t d.tm with
   | none=>none
   | some v=>match agg with
     | false=>D7 θ (jC d) cs [v]
     | true=>match v with | .agg vs=>D7 θ (jC d) cs vs | _=>none
 | .mix r cs=>match θ r with
   | some r1=>match jC d r1 with | some (.mix vs)=>D7 θ (jC d) cs vs | _=>none
   | none=>none
 | .row r e u=>match θ r with
   | some r1=>match jC d r1 with
     | some (.data e' u' f true)=>match Ox u' u,decide (e'=e) with | some ⟨h⟩,true=>some ⟨fP h f,[],[]⟩ | _,_=>none
     | _=>none
   | none=>none
 | .arr r u=>match θ r with
   | some r1=>match jC d r1 with
     | some (.arr u' f)=>match Ox u' u with | some ⟨h⟩=>some ⟨fP h f,[],[]⟩ | none=>none
     | _=>none
   | none=>none
 | .mp r=>match θ r with
   | some r1=>match jC d r1 with
     | some (.mp f)=>some ⟨f,[],[]⟩
     | _=>none
   | none=>none
 | .drop _=>none
 | .dead _=>none
def Jh (θ:Nat->Option Nat) (d:SS σ):(l:List IT)->Option (PK σ (bQ l).T)
 | []=>some ⟨fun _=>(),[],[]⟩
 | i::l=>match AY θ d i,Jh θ d l with
   | some x,some y=>some ⟨fun s=>sO (uI i) (bQ l) (x.f s) (y.f s),x.cs++y.cs,x.fz++y.fz⟩
   | _,_=>none
end
section
variable {σ:Type} {s:σ} {θ:Nat->Option Nat} {hp2:Nat->Option AO} {rd:Nat->Option (SO σ)}
theorem abU:∀(c:CS) (v:SV σ) (p:PK σ (uC c).T),vY θ rd c v=some p->allT s p.cs->(∀x∈p.fz,oQ θ hp2 x.1)->(∀x∈oC c (p.f s),(hp2 x.1).isSome=true)->(∀r∈eG [c],(hp2 r).isSome=true) ->
 eY θ (gu s rd) hp2 (aC c (p.f s)) (v.c s)/\∀x∈oC c (p.f s),rJ θ (gu s rd) hp2 x.1 x.2
 | .dat u,v,p,hp,hc,hfz,hl,hpt=>Cb (.dat u) v p hp hc hfz (fun x hx=>by cases v<;>cases hx) hl (fun r hr=>by cases hr)
 | .nil,v,p,hp,hc,hfz,hl,hpt=>Cb .nil v p hp hc hfz (fun x hx=>by cases v<;>cases hx) hl (fun r hr=>by cases hr)
 | .np,v,p,hp,hc,hfz,hl,hpt=>Cb .np v p hp hc hfz (fun x hx=>by cases v<;>cases hx) hl (fun r hr=>by cases hr)
 | .ki k n,v,p,hp,hc,hfz,hl,hpt=>Cb (.ki k n) v p hp hc hfz (fun x hx=>by cases v<;>cases hx) hl (fun r hr=>by cases hr)
 | .kb b,v,p,hp,hc,hfz,hl,hpt=>Cb (.kb b) v p hp hc hfz (fun x hx=>by cases v<;>cases hx) hl (fun r hr=>by cases hr)
 | .own r e u,v,p,hp,hc,hfz,hl,hpt=>by
   have h2:=hl (r,_) (List.mem_singleton.2 rfl);simp only [vY] at hp;split at hp
   ·split at hp
    ·rename_i h1;cases hp;refine ⟨?_,fun x hx => ?_⟩
     ·rw [SV.c];show eY θ _ hp2 (.sl r 0 ([]:List u.T).length none) _;rw [eY];exact ⟨h2,.inr (.inl ⟨h1,rfl,rfl,rfl,rfl⟩)⟩
     ·have hx:x∈[(r,AO.data e (eH u) (aS u []) true)]:=hx;rw [List.mem_singleton] at hx;subst hx;unfold rJ;simp only [h1];rfl
    ·cases hp
   ·rename_i r1 z n;split at hp
    ·rename_i h1;have h1:=xC h1;split at hp
     ·rename_i e' u' f hr;split at hp
      ·rename_i hk _ hd;subst hk;obtain ⟨rfl,hz⟩:=of_decide_eq_true hd;split at hp
       ·cases hp;have hn:n s<=(f s).length:=of_decide_eq_true hc.1;have hn':((f s).take (n s)).length=n s:=by rw [List.length_take];omega
        refine ⟨?_,fun x hx => ?_⟩
        ·rw [SV.c];show eY θ _ hp2 (.sl r 0 ((f s).take (n s)).length none) _;simp only [sG,Nat.zero_mul,oW,hn'];rw [eY];exact ⟨h2,.inl ⟨r1,h1,rfl⟩⟩
        ·have hx:x∈[(r,AO.data e' (eH u') (aS u' ((f s).take (n s))) true)]:=hx;rw [List.mem_singleton] at hx;subst hx;unfold rJ;simp only [h1];exact ⟨true,aS u' (f s),by simp only [gu,hr,Option.map_some,SO.c],.inr (.inr ⟨n s*eH u',(fJ u' (n s) (f s)).symm⟩),fun _=>rfl,fun h=>by cases h⟩
       ·cases hp;have hn:n s=(f s).length:=of_decide_eq_true hc.1;refine ⟨?_,fun x hx => ?_⟩
        ·rw [SV.c];show eY θ _ hp2 (.sl r 0 (f s).length none) _;simp only [sG,Nat.zero_mul,oW,hn];rw [eY];exact ⟨h2,.inl ⟨r1,h1,rfl⟩⟩
        ·have hx:x∈[(r,AO.data e' (eH u') (aS u' (f s)) true)]:=hx;rw [List.mem_singleton] at hx;subst hx;unfold rJ;simp only [h1];exact ⟨true,aS u' (f s),by simp only [gu,hr,Option.map_some,SO.c],.inl rfl,fun _=>rfl,fun h=>by cases h⟩
      ·cases hp
     ·cases hp
    ·cases hp
   ·cases hp
 | .pt r off,v,p,hp,hc,hfz,hl,hpt=>by
   refine ⟨?_,fun x hx=>(by simp [oC] at hx)⟩;simp only [vY] at hp;split at hp
   ·rename_i r1 off1;split at hp
    ·rename_i hd;rw [Bool.and_eq_true] at hd;obtain rfl:=of_decide_eq_true hd.2;cases hp;rw [SV.c];show eY θ _ hp2 (.ptr r off) _;rw [eY];exact ⟨r1,xC hd.1,hpt r (by simp [eG]),rfl⟩
    ·cases hp
   ·cases hp
 | .cl f caps,v,p,hp,hc,hfz,hl,hpt=>by
   refine ⟨?_,fun x hx=>(by simp [oC] at hx)⟩;simp only [vY] at hp;split at hp
   ·rename_i f' vs;split at hp
    ·rename_i hd;rw [Bool.and_eq_true] at hd;obtain ⟨hd,hb⟩:=hd;obtain rfl:=of_decide_eq_true hd;cases hp;rw [SV.c];show eY θ _ hp2 (.clo f (BZ caps)) _;rw [eY];exact ⟨_,rfl,Kt caps vs hb fun r hr=>hpt r (by show r∈caps.map (·.1)++[];rw [List.append_nil];exact hr)⟩
    ·cases hp
   ·cases hp
theorem AZ:∀(cs:List CS) (vs:List (SV σ)) (p:PK σ (iw cs).T),D7 θ rd cs vs=some p->allT s p.cs->(∀x∈p.fz,oQ θ hp2 x.1)->(∀x∈Kq cs (p.f s),(hp2 x.1).isSome=true)->(∀r∈eG cs,(hp2 r).isSome=true) ->
 gJ θ (gu s rd) hp2 (mM cs (p.f s)) (cL s vs)/\∀x∈Kq cs (p.f s),rJ θ (gu s rd) hp2 x.1 x.2
 | [],[],p,hp,hc,hfz,hl,hpt=>by
   refine ⟨?_,fun x hx=>(by cases hx)⟩;rw [cL,show mM [] (p.f s)=[] from rfl,gJ]
 | c::cs,v::vs,p,hp,hc,hfz,hl,hpt=>by
   rw [D7] at hp;split at hp
   ·rename_i x y hx hy;cases hp;rw [bK] at hc;have e1:iG (uC c) (iw cs) (sO (uC c) (iw cs) (x.f s) (y.f s))=x.f s:=jd _ _ _ _;have e2:jw (uC c) (iw cs) (sO (uC c) (iw cs) (x.f s) (y.f s))=y.f s:=jD _ _ _ _;simp only [Kq,e1,e2] at hl;have hpt1:∀r∈eG [c],(hp2 r).isSome=true:=fun r hr=>hpt r (by cases c<;>simp [eG] at hr ⊢ <;> first | exact .inl hr | simp [hr]);have hpt2:∀r∈eG cs,(hp2 r).isSome=true:=fun r hr=>hpt r (by cases c<;>simp [eG,hr]);obtain ⟨a1,a2⟩:=abU c v x hx hc.1 (fun z hz=>hfz z (List.mem_append_left _ hz)) (fun z hz=>hl z (List.mem_append_left _ hz)) hpt1;obtain ⟨b1,b2⟩:=AZ cs vs y hy hc.2 (fun z hz=>hfz z (List.mem_append_right _ hz)) (fun z hz=>hl z (List.mem_append_right _ hz)) hpt2;refine ⟨?_,fun z hz => ?_⟩
    ·rw [cL];simp only [mM,e1,e2];rw [gJ];exact ⟨_,_,rfl,a1,b1⟩
    ·simp only [Kq,e1,e2] at hz;rcases List.mem_append.1 hz with h | h
     ·exact a2 z h
     ·exact b2 z h
   ·cases hp
 | [],_::_,p,hp,_,_,_,_=>by cases hp
 | _::_,[],p,hp,_,_,_,_=>by cases hp
theorem yF {d:SS σ} {N:Nat}:∀(i:IT) (p:PK σ (uI i).T),AY θ d i=some p->allT s p.cs->(∀x∈p.fz,oQ θ hp2 x.1)->(∀x∈aH i (p.f s),(hp2 x.1).isSome=true)->(∀r∈dL [i],(hp2 r).isSome=true) ->
 (∀x∈aT i (p.f s),eY θ (d.c s N).rd hp2 x.2 ((d.c s N).get x.1))/\∀x∈aH i (p.f s),rJ θ (d.c s N).rd hp2 x.1 x.2
 | .tmp t agg cs,p,hp,hc,hfz,hl,hpt=>by
   rw [<-jX s N];have hget:∀v,gV t d.tm=some v->(d.c s N).get t=v.c s:=fun v hv=>by
    rw [gW] at hv;unfold SL.get SS.c;simp only [mZ,hv,Option.map_some]
   have hpt':∀r∈eG cs,(hp2 r).isSome=true:=fun r hr=>hpt r (by simp [dL,hr]);simp only [AY] at hp;cases hv:gV t d.tm with
   | none=>simp only [hv] at hp;cases hp
   | some v =>
     simp only [hv] at hp;cases agg with
     | false =>
       simp only at hp;obtain ⟨a,b⟩:=AZ cs [v] p hp hc hfz hl hpt';refine ⟨fun x hx => ?_,b⟩;have hx:x∈[(t,lC (mM cs (p.f s)))]:=hx;rw [List.mem_singleton] at hx;subst hx;show eY θ _ hp2 (lC (mM cs (p.f s))) ((d.c s N).get t);rw [hget v hv];rw [cL,cL] at a;generalize mM cs (p.f s)=ys at a ⊢;cases ys with
       | nil=>rw [gJ] at a;cases a
       | cons y ys =>
         rw [gJ] at a;obtain ⟨x,xs,h1,h2,h3⟩:=a;cases h1;cases ys with
         | nil=>exact h2
         | cons z zs=>rw [gJ] at h3;obtain ⟨_,_,h4,_⟩:=h3;cases h4
     | true =>
       simp only at hp;cases v with
       | agg vs =>
         simp only at hp;obtain ⟨a,b⟩:=AZ cs vs p hp hc hfz hl hpt';refine ⟨fun x hx => ?_,b⟩;have hx:x∈[(t,AV.agg (mM cs (p.f s)))]:=hx;rw [List.mem_singleton] at hx;subst hx;show eY θ _ hp2 (.agg (mM cs (p.f s))) ((d.c s N).get t);rw [hget _ hv,SV.c,eY];exact ⟨_,rfl,a⟩
       | _=>cases hp
 | .mix r cs,p,hp,hc,hfz,hl,hpt=>by
   rw [<-jX s N];refine ⟨fun x hx=>(by cases hx),?_⟩;simp only [AY] at hp;cases hr:θ r with
   | none=>simp only [hr] at hp;cases hp
   | some r1 =>
     simp only [hr] at hp;cases hvs:jC d r1 with
     | none=>simp only [hvs] at hp;cases hp
     | some o =>
       cases o with
       | mix vs =>
         simp only [hvs] at hp;have hpt':∀r∈eG cs,(hp2 r).isSome=true:=fun r hr=>hpt r (by simp [dL,hr]);obtain ⟨a,b⟩:=AZ cs vs p hp hc hfz (fun x hx=>hl x (List.mem_cons_of_mem _ hx)) hpt';intro x hx;rcases List.mem_cons.1 hx with rfl | hx
         ·unfold rJ;simp only [hr];exact ⟨_,by simp only [gu,hvs,Option.map_some,SO.c],a⟩
         ·exact b x hx
       | data e u f wr=>simp only [hvs] at hp;cases hp
       | arr u f=>simp only [hvs] at hp;cases hp
       | mp f=>simp only [hvs] at hp;cases hp
       | tab kk ks vs=>simp only [hvs] at hp;cases hp
       | dead=>simp only [hvs] at hp;cases hp
 | .row r e u,p,hp,hc,hfz,hl,hpt=>by
   rw [<-jX s N];refine ⟨fun x hx=>(by cases hx),?_⟩;simp only [AY] at hp;split at hp
   ·rename_i r1 hr1;split at hp
    ·rename_i e' u' f hr;split at hp
     ·rename_i hk _ hd;subst hk;have hd:=of_decide_eq_true hd;subst hd;cases hp;intro x hx;have hx:x∈[(r,AO.data e' (eH u') (aS u' (f s)) true)]:=hx;rw [List.mem_singleton] at hx;subst hx;unfold rJ;simp only [hr1];exact ⟨true,aS u' (f s),by simp only [gu,hr,Option.map_some,SO.c],.inl rfl,fun _=>rfl,fun h=>by cases h⟩
     ·cases hp
    ·cases hp
   ·cases hp
 | .arr r u,p,hp,hc,hfz,hl,hpt=>by
   rw [<-jX s N];refine ⟨fun x hx=>(by cases hx),?_⟩;simp only [AY] at hp;split at hp
   ·rename_i r1 hr1;split at hp
    ·rename_i u' f hr;split at hp
     ·rename_i hk _;subst hk;cases hp;intro x hx;have hx:x∈[(r,AO.mix ((aS u' (f s)).map .d))]:=hx;rw [List.mem_singleton] at hx;subst hx;unfold rJ;simp only [hr1];exact ⟨_,by simp only [gu,hr,Option.map_some,SO.c],sJ _ fun r hr=>(by rw [tZ] at hr;cases hr)⟩
     ·cases hp
    ·cases hp
   ·cases hp
 | .mp r,p,hp,hc,hfz,hl,hpt=>by
   rw [<-jX s N];refine ⟨fun x hx=>(by cases hx),?_⟩;simp only [AY] at hp;split at hp
   ·rename_i r1 hr1;split at hp
    ·rename_i f hr;cases hp;intro x hx;have hx:x∈[(r,Xv (f s))]:=hx;rw [List.mem_singleton] at hx;subst hx;unfold rJ;simp only [hr1];exact ⟨_,by simp only [gu,hr,Option.map_some,SO.c];rfl,sJ ((f s).map fun _=>bJ true) fun q hq=>(by rw [show AV.refs.refsL (List.map (fun _=>bJ true) (f s))=[] from AP (f s)] at hq;cases hq)⟩
    ·cases hp
   ·cases hp
 | .drop t,p,hp,hc,hfz,hl,hpt=>by cases hp
 | .dead r,p,hp,hc,hfz,hl,hpt=>by cases hp
theorem Nw {d:SS σ} {N:Nat}:∀(l:List IT) (p:PK σ (bQ l).T),Jh θ d l=some p->allT s p.cs->(∀x∈p.fz,oQ θ hp2 x.1)->(∀x∈lM l (p.f s),(hp2 x.1).isSome=true)->(∀r∈dL l,(hp2 r).isSome=true) ->
 (∀x∈jJ l (p.f s),eY θ (d.c s N).rd hp2 x.2 ((d.c s N).get x.1))/\∀x∈lM l (p.f s),rJ θ (d.c s N).rd hp2 x.1 x.2
 | [],p,hp,hc,hfz,hl,hpt=>⟨fun x hx=>(by cases hx),fun x hx=>(by cases hx)⟩
 | i::l,p,hp,hc,hfz,hl,hpt=>by
   rw [Jh] at hp;split at hp
   ·rename_i x y hx hy;cases hp;rw [bK] at hc;have e1:iG (uI i) (bQ l) (sO (uI i) (bQ l) (x.f s) (y.f s))=x.f s:=jd _ _ _ _;have e2:jw (uI i) (bQ l) (sO (uI i) (bQ l) (x.f s) (y.f s))=y.f s:=jD _ _ _ _;simp only [lM,e1,e2] at hl;obtain ⟨a1,a2⟩:=yF (N:=N) i x hx hc.1 (fun z hz=>hfz z (List.mem_append_left _ hz)) (fun z hz=>hl z (List.mem_append_left _ hz)) (fun r hr=>hpt r (Cc r hr));obtain ⟨b1,b2⟩:=Nw (N:=N) l y hy hc.2 (fun z hz=>hfz z (List.mem_append_right _ hz)) (fun z hz=>hl z (List.mem_append_right _ hz)) (fun r hr=>hpt r (Ce r hr));simp only [jJ,lM,e1,e2];refine ⟨fun z hz => ?_,fun z hz => ?_⟩
    ·rcases List.mem_append.1 hz with h | h
     ·exact a1 z h
     ·exact b1 z h
    ·rcases List.mem_append.1 hz with h | h
     ·exact a2 z h
     ·exact b2 z h
   ·cases hp
end
section
variable {σ τ σ':Type}
def ajo:CS->SV σ->List (Nat×Option Nat)
 | .own r _ _,.sl r1 _ _ _ _=>[(r,some r1)]
 | .own r _ _,_=>[(r,none)]
 | .pt r _,.ptr r1 _=>match decide (r=r1) with | true=>[] | false=>[(r,some r1)]
 | _,_=>[]
def Y3:List (Nat×Option Nat)->List (Nat×Option Nat)->List (Nat×Option Nat)
 | acc,[]=>acc
 | acc,(r,x)::l=>match jv r (iF acc) with | true=>Y3 acc l | false=>Y3 (acc++[(r,x)]) l
def Kz:List CS->List (SV σ)->List (Nat×Option Nat)
 | c::cs,v::vs=>ajo c v++Kz cs vs
 | _,_=>[]
def uX (d:SS σ):List IT->List (Nat×Option Nat)->List (Nat×Option Nat)
 | [],acc=>acc
 | .tmp t false cs::l,acc=>match gV t d.tm with
   | some v=>uX d l (Y3 acc (Kz cs [v]))
   | none=>uX d l acc
 | .tmp t true cs::l,acc=>match gV t d.tm with
   | some (.agg vs)=>uX d l (Y3 acc (Kz cs vs))
   | _=>uX d l acc
 | .mix r cs::l,acc=>match Lu acc r with
   | some r1=>match jC d r1 with
     | some (.mix vs)=>uX d l (Y3 acc (Kz cs vs))
     | _=>uX d l acc
   | none=>uX d l acc
 | _::l,acc=>uX d l acc
def ajp (θ:Nat->Option Nat) (d:SS σ):(i:IT)->Option (PK σ (uI i).T)
 | .drop _=>some ⟨fun _=>(),[],[]⟩
 | .dead _=>some ⟨fun _=>(),[],[]⟩
 | i=>AY θ d i
def Ti (θ:Nat->Option Nat) (d:SS σ):(l:List IT)->Option (PK σ (bQ l).T)
 | []=>some ⟨fun _=>(),[],[]⟩
 | i::l=>match ajp θ d i,Ti θ d l with
   | some x,some y=>some ⟨fun s=>sO (uI i) (bQ l) (x.f s) (y.f s),x.cs++y.cs,x.fz++y.fz⟩
   | _,_=>none
theorem abV {s:σ} {θ:Nat->Option Nat} {hp2:Nat->Option AO} {d:SS σ} {N:Nat} (i:IT) (p:PK σ (uI i).T) (hp:ajp θ d i=some p) (hc:allT s p.cs) (hfz:∀x∈p.fz,oQ θ hp2 x.1) (hl:∀x∈aH i (p.f s),(hp2 x.1).isSome=true) (hpt:∀r∈dL [i],(hp2 r).isSome=true) :
 (∀x∈aT i (p.f s),eY θ (d.c s N).rd hp2 x.2 ((d.c s N).get x.1))/\∀x∈aH i (p.f s),rJ θ (d.c s N).rd hp2 x.1 x.2:=by
 cases i with
 | drop t =>
   refine ⟨fun x hx => ?_,fun x hx=>(by cases hx)⟩;have hx:x∈[(t,AV.junk)]:=hx;rw [List.mem_singleton] at hx;subst hx;rw [eY];trivial
 | dead r =>
   refine ⟨fun x hx=>(by cases hx),fun x hx => ?_⟩;have hx:x∈[(r,AO.dead)]:=hx;rw [List.mem_singleton] at hx;subst hx;unfold rJ;simp only;split<;>trivial
 | tmp t a cs=>exact yF _ p hp hc hfz hl hpt
 | mix r cs=>exact yF _ p hp hc hfz hl hpt
 | row r e u=>exact yF _ p hp hc hfz hl hpt
 | arr r u=>exact yF _ p hp hc hfz hl hpt
 | mp r=>exact yF _ p hp hc hfz hl hpt
theorem Ny {s:σ} {θ:Nat->Option Nat} {hp2:Nat->Option AO} {d:SS σ} {N:Nat}:∀(l:List IT) (p:PK σ (bQ l).T),Ti θ d l=some p->allT s p.cs->(∀x∈p.fz,oQ θ hp2 x.1)->(∀x∈lM l (p.f s),(hp2 x.1).isSome=true)->(∀r∈dL l,(hp2 r).isSome=true) ->
 (∀x∈jJ l (p.f s),eY θ (d.c s N).rd hp2 x.2 ((d.c s N).get x.1))/\∀x∈lM l (p.f s),rJ θ (d.c s N).rd hp2 x.1 x.2
 | [],p,hp,hc,hfz,hl,hpt=>⟨fun x hx=>(by cases hx),fun x hx=>(by cases hx)⟩
 | i::l,p,hp,hc,hfz,hl,hpt=>by
   rw [Ti] at hp;split at hp
   ·rename_i x y hx hy;cases hp;rw [bK] at hc;have e1:iG (uI i) (bQ l) (sO (uI i) (bQ l) (x.f s) (y.f s))=x.f s:=jd _ _ _ _;have e2:jw (uI i) (bQ l) (sO (uI i) (bQ l) (x.f s) (y.f s))=y.f s:=jD _ _ _ _;simp only [lM,e1,e2] at hl;obtain ⟨a1,a2⟩:=abV (N:=N) i x hx hc.1 (fun z hz=>hfz z (List.mem_append_left _ hz)) (fun z hz=>hl z (List.mem_append_left _ hz)) (fun r hr=>hpt r (Cc r hr));obtain ⟨b1,b2⟩:=Ny (N:=N) l y hy hc.2 (fun z hz=>hfz z (List.mem_append_right _ hz)) (fun z hz=>hl z (List.mem_append_right _ hz)) (fun r hr=>hpt r (Ce r hr));simp only [jJ,lM,e1,e2];refine ⟨fun z hz => ?_,fun z hz => ?_⟩
    ·rcases List.mem_append.1 hz with h | h
     ·exact a1 z h
     ·exact b1 z h
    ·rcases List.mem_append.1 hz with h | h
     ·exact a2 z h
     ·exact b2 z h
   ·cases hp
def Y4 (d:SS σ) (its:List IT) (d':SS τ) (fz:List (Nat×SO τ)) (th:List (Nat×Option Nat)):Bool :=
 ((((d'.tm.take (d'.tm.length-d.tm.length)).all fun x=>jv x.1 (nM its)||(match gV x.1 d.tm with | none=>true | some _=>false)) &&
  ((d'.hp.take (d'.hp.length-d.hp.length)).all fun x=>jv x.1 (jE its)||gB (jC d) x.1)) &&
 ((nodupB (iF th)&&(iF th).all fun r=>gB (jC d) r) &&
  (Gw (iF th) (headD d its) th&&fz.all fun x=>Ko th (headD d its) x.1))) &&
 ((Vr (iF th) (headD d its) (nM its) d.tm&&Vs (iF th) (headD d its) (jE its) d.hp) &&
  ((dL its).all fun r => !gB (jC (headD d its)) r))
def Qs (d:SS σ) (its:List IT) (d':SS τ) (th:List (Nat×Option Nat)):Option (PK τ (bQ its).T) :=
 match Ti (Lu th) d' its with
 | none=>none
 | some p=>match Y4 d its d' p.fz th with
   | true=>some p
   | false=>none
def adQ (d:SS σ) (its:List IT) (d':SS τ):Option (PK τ (bQ its).T) :=
 match uX d' its [] with
 | th=>Qs d its d' th
def Gy (d:SS σ) (its:List IT) (d':SS τ):Option (PK τ (bQ its).T) :=
 match Y2 d its d' with
 | some p=>some p
 | none=>adQ d its d'
theorem Nz {N:Nat} {d:SS σ} {its:List IT} {g:τ->σ} {d':SS τ} {p:PK τ (bQ its).T} {s:τ} {th:List (Nat×Option Nat)} (hg:Grow d g d') (h:Qs d its d' th=some p) (hc:allT s p.cs) :
 ∃ θ:Nat->Option Nat,(∀r,(look r d.hp).isSome=true->θ r=some r/\(((headD d its).c (g s,p.f s) N).rd r).isSome=true)/\JE θ (d'.c s N).rd ((headD d its).c (g s,p.f s) N).rd /\
   ∀t v,look t ((headD d its).c (g s,p.f s) N).tm=some v->eY θ (d'.c s N).rd ((headD d its).c (g s,p.f s) N).rd v ((d'.c s N).get t):=by
 unfold Qs at h;split at h
 ·cases h
 rename_i p' hp;split at h
 ·rename_i hB;cases h;unfold Y4 at hB;simp only [Bool.and_eq_true] at hB;obtain ⟨⟨⟨b1,b2⟩,⟨b3,b4⟩,b5,b6⟩,⟨b7,b8⟩,b9⟩:=hB;have hkd:∀r∈iF th,look r d.hp=none:=fun r hr=>by
   have h1:=List.all_eq_true.1 b4 r hr;unfold gB jC at h1;rw [gW] at h1;split at h1
   ·assumption
   ·cases h1
  have hT:((headD d its).c (g s,p.f s) N).tm=jJ its (p.f s)++cT (g s) d.tm:=by
   show cT (g s,p.f s) (lX its Prod.snd++lu Prod.fst d.tm)=_;rw [tV,qJ,JU]
  have hH:((headD d its).c (g s,p.f s) N).hp=lM its (p.f s)++cO (g s) d.hp:=by
   show cO (g s,p.f s) (gX its Prod.snd++iV Prod.fst d.hp)=_;rw [cZ,xA,oH]
  have hHs:∀r,(∃o,(r,o)∈lM its (p.f s))->(((headD d its).c (g s,p.f s) N).rd r).isSome=true:=fun r ⟨o,ho⟩=>by
   unfold SL.rd;rw [hH,bI];obtain ⟨w,hw⟩:=iW ho;rw [hw];rfl
  have hNs:∀l,Qq (iF th) (headD d its) l=true->∀r∈l,Lu th r=some r/\(((headD d its).c (g s,p.f s) N).rd r).isSome=true:=fun l hl r hr=>by
   have:=List.all_eq_true.1 hl r hr;unfold okN at this;rw [Bool.and_eq_true,Bool.not_eq_true',Bool.not_eq_true'] at this;exact ⟨jK (kL.1 this.1),Cj this.2⟩
  have hpt:∀r∈dL its,(((headD d its).c (g s,p.f s) N).rd r).isSome=true:=fun r hr=>by
   have:=List.all_eq_true.1 b9 r hr;rw [Bool.not_eq_true'] at this;exact Cj this
  have hfz:∀x∈p.fz,oQ (Lu th) ((headD d its).c (g s,p.f s) N).rd x.1:=fun x hx r' hr' o ho=>by
   have:=List.all_eq_true.1 b6 x hx;unfold Ko at this;rw [Bool.and_eq_true] at this;obtain ⟨f1,f2⟩:=this;by_cases hk:r'∈iF th
   ·obtain ⟨y,hy1,hy2⟩:=xE hk;rw [hy2] at hr';subst hr';have:=List.all_eq_true.1 f1 _ hy1;simp at this
   ·rw [jK hk] at hr';cases hr';rcases (Bool.or_eq_true _ _).mp f2 with h | h
    ·exact (hk (fK.1 h)).elim
    ·exact Ci h ho
  obtain ⟨w1,w2⟩:=Ny (s:=s) (N:=N) (θ:=Lu th) (hp2:=((headD d its).c (g s,p.f s) N).rd) its p hp hc hfz (fun x hx=>hHs x.1 ⟨x.2,hx⟩) hpt;obtain ⟨⟨l1,g1⟩,⟨l2,g2⟩⟩:=hg;have hl1:d'.tm.take (d'.tm.length-d.tm.length)=l1:=by rw [g1,List.length_append,Gx,Nat.add_sub_cancel,List.take_left]
  have hl2:d'.hp.take (d'.hp.length-d.hp.length)=l2:=by rw [g2,List.length_append,AX,Nat.add_sub_cancel,List.take_left]
  rw [hl1] at b1;rw [hl2] at b2;have keptT:∀t w,t∉nM its->look t d.tm=some w->(d'.c s N).get t=w.c (g s):=fun t w ht hw=>by
   unfold SL.get SS.c;simp only [mZ,g1,bI];rw [nZ (l:=l1) (fun hm => ?_)]
   ·have:look t (lu g d.tm)=some (w.map g):=by
     have:∀l:List (Nat×SV σ),look t (lu g l)=(look t l).map (SV.map g):=by
      intro l
      induction l with
      | nil=>rfl
      | cons x l ih =>
        obtain ⟨k,v⟩:=x;rw [lu,look,look];split
        ·rfl
        ·exact ih
     rw [this,hw];rfl
    simp only [this,Option.map_some,Sj]
   ·obtain ⟨x,hx,rfl⟩:=List.mem_map.1 hm;have:=List.all_eq_true.1 b1 x hx;rcases (Bool.or_eq_true _ _).mp this with h | h
    ·exact ht (fK.1 h)
    ·rw [gW,hw] at h;cases h
  have keptH:∀r w,r∉jE its->look r d.hp=some w->(d'.c s N).rd r=some (w.c (g s)):=fun r w ht hw=>by
   unfold SL.rd SS.c;simp only [jI,g2,bI];rw [nZ (l:=l2) (fun hm => ?_)]
   ·have:look r (iV g d.hp)=some (w.map g):=by
     have:∀l:List (Nat×SO σ),look r (iV g l)=(look r l).map (SO.map g):=by
      intro l
      induction l with
      | nil=>rfl
      | cons x l ih =>
        obtain ⟨k,v⟩:=x;rw [iV,look,look];split
        ·rfl
        ·exact ih
     rw [this,hw];rfl
    simp only [this,Option.map_some,JR]
   ·obtain ⟨x,hx,rfl⟩:=List.mem_map.1 hm;have:=List.all_eq_true.1 b2 x hx;rcases (Bool.or_eq_true _ _).mp this with h | h
    ·exact ht (fK.1 h)
    ·unfold gB jC at h;rw [gW,hw] at h;cases h
  have notH:∀r,look r (lM its (p.f s))=none->r∉jE its:=fun r hn hr=>by
   obtain ⟨o,ho⟩:=Kw its (p.f s) r hr;exact nR hn o ho
  refine ⟨Lu th,fun r hs => ?_,⟨fun r o ho => ?_,fun r' r'' o' o'' r ho' ho'' hm' hm'' ht' ht'' => ?_⟩,fun t v hv => ?_⟩
  ·refine ⟨jK fun hk => ?_,?_⟩
   ·rw [hkd r hk] at hs;cases hs
   ·unfold SL.rd;rw [hH,bI];cases look r (lM its (p.f s)) with
    | some x=>rfl
    | none =>
      simp only [jI];cases hl:look r d.hp with
      | none=>rw [hl] at hs;cases hs
      | some w=>rfl
  ·unfold SL.rd at ho;rw [hH,bI] at ho;cases hl:look r (lM its (p.f s)) with
   | some x =>
     rw [hl] at ho;cases ho;exact w2 _ (aU hl)
   | none =>
     rw [hl] at ho;simp only [jI] at ho;cases hw:look r d.hp with
     | none=>rw [hw] at ho;cases ho
     | some w =>
       rw [hw] at ho;cases ho;have hnc:=notH r hl;obtain ⟨k1,k2⟩:=yE b8 r w hnc hw;exact xB (jK k1) (keptH r w hnc hw) (fun q hq=>hNs _ k2 q (by rw [Ku] at hq;exact hq))
  ·by_cases k1:r'∈iF th
   ·obtain ⟨x,x1,x2⟩:=xE k1;rw [x2] at ht';subst ht';by_cases k2:r''∈iF th
    ·obtain ⟨y,y1,y2⟩:=xE k2;rw [y2] at ht'';subst ht'';exact (kM b5).2 _ _ _ x1 y1
    ·rw [jK k2] at ht'';cases ht'';rcases (kM b5).1 _ _ x1 with h | h
     ·exact (k2 h).elim
     ·rw [Ci h ho''] at hm'';cases hm''
   ·rw [jK k1] at ht';cases ht';by_cases k2:r''∈iF th
    ·obtain ⟨y,y1,y2⟩:=xE k2;rw [y2] at ht'';subst ht'';rcases (kM b5).1 _ _ y1 with h | h
     ·exact (k1 h).elim
     ·rw [Ci h ho'] at hm';cases hm'
    ·rw [jK k2] at ht'';cases ht'';rfl
  ·rw [hT,bI] at hv;cases hl:look t (jJ its (p.f s)) with
   | some x =>
     rw [hl] at hv;cases hv;exact w1 _ (aU hl)
   | none =>
     rw [hl] at hv;simp only [mZ] at hv;cases hw:look t d.tm with
     | none=>rw [hw] at hv;cases hv
     | some w =>
       rw [hw] at hv;cases hv;have hnc:t∉nM its:=fun hc=>by
        obtain ⟨v,hv⟩:=Kv its (p.f s) t hc;exact nR hl v hv
       rw [keptT t w hnc hw];exact uV _ fun r hr=>hNs _ (yD b7 t w hnc hw) r (by rw [F5] at hr;exact hr)
 ·cases h
theorem zu {N:Nat} {d:SS σ} {its:List IT} {g:τ->σ} {d':SS τ} {p:PK τ (bQ its).T} {s:τ} (hg:Grow d g d') (h:Gy d its d'=some p) (hc:allT s p.cs) :
 ∃ θ:Nat->Option Nat,(∀r,(look r d.hp).isSome=true->θ r=some r/\(((headD d its).c (g s,p.f s) N).rd r).isSome=true)/\JE θ (d'.c s N).rd ((headD d its).c (g s,p.f s) N).rd /\
   ∀t v,look t ((headD d its).c (g s,p.f s) N).tm=some v->eY θ (d'.c s N).rd ((headD d its).c (g s,p.f s) N).rd v ((d'.c s N).get t):=by
 unfold Gy at h;split at h
 ·rename_i p' hp;cases h;exact Vt hg hp hc
 ·unfold adQ at h;exact Nz hg h hc
theorem xH {N:Nat} {hp0:Nat->Option AO} {d:SS σ} {its:List IT} {g:τ->σ} {d':SS τ} {p:PK τ (bQ its).T} {s:τ} (hg:Grow d g d') (h:Gy d its d'=some p) (hc:allT s p.cs) (hks:∀r,(hp0 r).isSome=true->(look r d.hp).isSome=true) :
 vP nJ N hp0 (d'.c s N).S ((headD d its).c (g s,p.f s) N).S:=by
 obtain ⟨θ,h1,h2,h3⟩:=zu (N:=N) hg h hc;exact Qr θ (fun r o ho=>h1 r (hks r (by rw [ho];rfl))) h2 h3
end
section
variable {σ:Type} (ρ:Nat->Nat)
def fU:(c:CS)->(σ->(uC c).T)->SV σ
 | .own r _ u,f => .sl (ρ r) (eH u) none (fun s=>(f s).length) .unk
 | .pt r off,_ => .ptr (ρ r) off
 | .cl f caps,_ => .clo f (zo ρ caps)
 | .dat u,f=>Qo (.dat u) f
 | .nil,f=>Qo .nil f
 | .np,f=>Qo .np f
 | .ki k n,f=>Qo (.ki k n) f
 | .kb b,f=>Qo (.kb b) f
def ajq:(c:CS)->(σ->(uC c).T)->List (Nat×SO σ)
 | .own r e u,f=>[(ρ r,.data e u f true)]
 | _,_=>[]
def jL:(cs:List CS)->(σ->(iw cs).T)->List (SV σ)
 | [],_=>[]
 | c::cs,f=>fU ρ c (fun s=>iG (uC c) (iw cs) (f s))::jL cs (fun s=>jw (uC c) (iw cs) (f s))
def kN:(cs:List CS)->(σ->(iw cs).T)->List (Nat×SO σ)
 | [],_=>[]
 | c::cs,f=>ajq ρ c (fun s=>iG (uC c) (iw cs) (f s))++kN cs (fun s=>jw (uC c) (iw cs) (f s))
def afx:(i:IT)->(σ->(uI i).T)->List (Nat×SV σ)
 | .tmp t true cs,f=>[(t,.agg (jL ρ cs f))]
 | .tmp t false cs,f=>[(t,one1 (jL ρ cs f))]
 | .drop t,_=>[(t,.junk)]
 | _,_=>[]
def Cm:(i:IT)->(σ->(uI i).T)->List (Nat×SO σ)
 | .tmp _ _ cs,f=>kN ρ cs f
 | .mix r cs,f=>(ρ r,.mix (jL ρ cs f))::kN ρ cs f
 | .row r e u,f=>[(ρ r,.data e u f true)]
 | .arr r u,f=>[(ρ r,.arr u f)]
 | .mp r,f=>[(ρ r,.mp f)]
 | .dead r,_=>[(ρ r,.dead)]
 | _,_=>[]
def A8:(l:List IT)->(σ->(bQ l).T)->List (Nat×SV σ)
 | [],_=>[]
 | i::l,f=>afx ρ i (fun s=>iG (uI i) (bQ l) (f s))++A8 l (fun s=>jw (uI i) (bQ l) (f s))
def bY:(l:List IT)->(σ->(bQ l).T)->List (Nat×SO σ)
 | [],_=>[]
 | i::l,f=>Cm ρ i (fun s=>iG (uI i) (bQ l) (f s))++bY l (fun s=>jw (uI i) (bQ l) (f s))
end
section
variable {σ:Type} {s:σ} {ρ:Nat->Nat} {θ':Nat->Option Nat} {hp1 hp2:Nat->Option AO}
theorem Tj:∀(caps:List (Nat×Nat)),(∀r∈caps.map (·.1),θ' (ρ r)=some r/\(hp2 (ρ r)).isSome=true)->gJ θ' hp1 hp2 (cL s (zo ρ caps)) (BZ caps)
 | [],_=>by rw [zo,cL,BZ,gJ]
 | (r,off)::l,h=>by
   rw [zo,cL,SV.c,BZ,gJ];have:=h r (by simp);exact ⟨_,_,rfl,by rw [eY];exact ⟨r,this.1,this.2,rfl⟩,Tj l fun x hx=>h x (by simp at hx ⊢;exact .inr hx)⟩
theorem abW (u:U) (x:(uC (.dat u)).T):eY θ' hp1 hp2 (aC (.dat u) x) (aC (.dat u) x):=uV _ fun r hr=>by cases u<;>simp [aC,dG,bJ,AV.refs] at hr
theorem Y5:∀(c:CS) (f:σ->(uC c).T),(∀r∈yS [c]++eG [c],θ' (ρ r)=some r/\(hp2 (ρ r)).isSome=true)->eY θ' hp1 hp2 ((fU ρ c f).c s) (aC c (f s))
 | .dat u,f,h=>by rw [fU,iH];exact abW u _
 | .nil,f,h=>by rw [fU,iH];exact uV _ fun r hr=>by simp [aC,AV.refs] at hr
 | .np,f,h=>by rw [fU,iH];exact uV _ fun r hr=>by simp [aC,AV.refs] at hr
 | .ki _ _,f,h=>by rw [fU,iH];exact uV _ fun r hr=>by simp [aC,AV.refs] at hr
 | .kb _,f,h=>by rw [fU,iH];exact uV _ fun r hr=>by simp [aC,AV.refs] at hr
 | .own r e u,f,h=>by
   have:=h r (by simp [yS]);rw [fU,abN];show eY θ' hp1 hp2 _ (.sl r 0 (f s).length none);rw [eY];exact ⟨this.2,.inl ⟨r,this.1,rfl⟩⟩
 | .pt r off,f,h=>by
   have:=h r (by simp [yS,eG]);rw [fU,ajl];show eY θ' hp1 hp2 _ (.ptr r off);rw [eY];exact ⟨r,this.1,this.2,rfl⟩
 | .cl f caps,_,h=>by
   rw [fU,SV.c];show eY θ' hp1 hp2 _ (.clo f (BZ caps));rw [eY];exact ⟨_,rfl,Tj caps fun r hr=>h r (by show r∈[]++(caps.map (·.1)++[]);rw [List.nil_append,List.append_nil];exact hr)⟩
theorem yG (c:CS) (cs:List CS):yS (c::cs)=yS [c]++yS cs:=by cases c<;>rfl
theorem D8 (c:CS) (cs:List CS):eG (c::cs)=eG [c]++eG cs:=by cases c<;>simp [eG]
theorem yH:∀(cs:List CS) (f:σ->(iw cs).T),(∀r∈yS cs++eG cs,θ' (ρ r)=some r/\(hp2 (ρ r)).isSome=true)->gJ θ' hp1 hp2 (cL s (jL ρ cs f)) (mM cs (f s))
 | [],f,h=>by rw [jL,cL,show mM [] (f s)=[] from rfl,gJ]
 | c::cs,f,h=>by
   rw [jL,cL,gJ];refine ⟨_,_,rfl,Y5 c _ fun r hr=>h r ?_,yH cs _ fun r hr=>h r ?_⟩
   ·rw [yG,D8];rcases List.mem_append.1 hr with g | g
    ·exact List.mem_append_left _ (List.mem_append_left _ g)
    ·exact List.mem_append_right _ (List.mem_append_left _ g)
   ·rw [yG,D8];rcases List.mem_append.1 hr with g | g
    ·exact List.mem_append_left _ (List.mem_append_right _ g)
    ·exact List.mem_append_right _ (List.mem_append_right _ g)
def ObP (θ':Nat->Option Nat) (hp1 hp2:Nat->Option AO) (ρ:Nat->Nat) (l:List (Nat×AO)) (x:Nat×AO):Prop:=∃r o1,x.1=ρ r/\(r,o1)∈l/\(hp1 r=some o1->θ' (ρ r)=some r->rJ θ' hp1 hp2 x.1 x.2)
theorem ObP.mono {l l':List (Nat×AO)} {x:Nat×AO} (h:ObP θ' hp1 hp2 ρ l x) (k:∀y∈l,y∈l'):ObP θ' hp1 hp2 ρ l' x:=by
 obtain ⟨r,o1,h1,h2,h3⟩:=h;exact ⟨r,o1,h1,k _ h2,h3⟩
theorem NC {r e z:Nat} {cs:List DV}:ObP θ' hp1 hp2 ρ [(r,.data e z cs true)] (ρ r,.data e z cs true) :=
 ⟨r,_,rfl,List.mem_singleton.2 rfl,fun h1 h2=>by unfold rJ;simp only [h2];exact ⟨true,cs,h1,.inl rfl,fun _=>rfl,fun h=>by cases h⟩⟩
theorem CB:∀(cs:List CS) (f:σ->(iw cs).T),∀x∈cO s (kN ρ cs f),ObP θ' hp1 hp2 ρ (Kq cs (f s)) x
 | [],f,x,hx=>by cases hx
 | c::cs,f,x,hx=>by
   rw [kN,cZ] at hx;rcases List.mem_append.1 hx with hx | hx
   ·cases c with
    | own r e u =>
      have hx:x∈[(ρ r,AO.data e (eH u) (aS u (iG (.list u) (iw cs) (f s))) true)]:=hx;rw [List.mem_singleton] at hx;subst hx;exact (NC (r:=r)).mono fun y hy=>List.mem_append_left _ hy
    | _=>cases hx
   ·exact (CB cs _ x hx).mono fun y hy=>List.mem_append_right _ hy
theorem Vu:∀(i:IT) (f:σ->(uI i).T),(∀r∈aN [i]++dL [i],θ' (ρ r)=some r/\(hp2 (ρ r)).isSome=true)->∀x∈cO s (Cm ρ i f),ObP θ' hp1 hp2 ρ (aH i (f s)) x
 | .tmp t a cs,f,h,x,hx=>CB cs f x hx
 | .mix r cs,f,h,x,hx=>by
   have hx:x∈(ρ r,AO.mix (cL s (jL ρ cs f)))::cO s (kN ρ cs f):=hx;rcases List.mem_cons.1 hx with rfl | hx
   ·refine ⟨r,.mix (mM cs (f s)),rfl,List.mem_cons_self,fun h1 h2 => ?_⟩;unfold rJ;simp only [h2];refine ⟨_,h1,yH cs f fun q hq=>h q ?_⟩;rcases List.mem_append.1 hq with g | g
    ·exact List.mem_append_left _ (by show q∈r::(yS cs++[]);simp [g])
    ·exact List.mem_append_right _ (by show q∈eG cs++[];simp [g])
   ·exact (CB cs f x hx).mono fun y hy=>List.mem_cons_of_mem _ hy
 | .row r e u,f,h,x,hx=>by
   have hx:x∈[(ρ r,AO.data e (eH u) (aS u (f s)) true)]:=hx;rw [List.mem_singleton] at hx;subst hx;exact NC
 | .arr r u,f,h,x,hx=>by
   have hx:x∈[(ρ r,AO.mix ((aS u (f s)).map .d))]:=hx;rw [List.mem_singleton] at hx;subst hx;refine ⟨r,_,rfl,List.mem_singleton.2 rfl,fun h1 h2 => ?_⟩;unfold rJ;simp only [h2];exact ⟨_,h1,sJ _ fun q hq=>(by rw [tZ] at hq;cases hq)⟩
 | .mp r,f,h,x,hx=>by
   have hx:x∈[(ρ r,Xv (f s))]:=hx;rw [List.mem_singleton] at hx;subst hx;refine ⟨r,_,rfl,List.mem_singleton.2 rfl,fun h1 h2 => ?_⟩;unfold rJ;simp only [h2];exact ⟨_,h1,sJ ((f s).map fun _=>bJ true) fun q hq=>(by rw [show AV.refs.refsL (List.map (fun _=>bJ true) (f s))=[] from AP (f s)] at hq;cases hq)⟩
 | .dead r,f,h,x,hx=>by
   have hx:x∈[(ρ r,AO.dead)]:=hx;rw [List.mem_singleton] at hx;subst hx;refine ⟨r,_,rfl,List.mem_singleton.2 rfl,fun h1 h2 => ?_⟩;unfold rJ;simp only [h2]
 | .drop t,f,h,x,hx=>by cases hx
theorem rW (i:IT) (l:List IT):aN (i::l)=aN [i]++aN l:=by cases i<;>simp [aN]
theorem D9 (i:IT) (l:List IT):dL (i::l)=dL [i]++dL l:=by cases i<;>simp [dL]
theorem zx:∀(l:List IT) (f:σ->(bQ l).T),(∀r∈aN l++dL l,θ' (ρ r)=some r/\(hp2 (ρ r)).isSome=true)->∀x∈cO s (bY ρ l f),ObP θ' hp1 hp2 ρ (lM l (f s)) x
 | [],f,h,x,hx=>by cases hx
 | i::l,f,h,x,hx=>by
   rw [bY,cZ] at hx;rw [rW,D9] at h;have h1:∀r∈aN [i]++dL [i],θ' (ρ r)=some r/\(hp2 (ρ r)).isSome=true:=fun r hr=>h r (by
    rcases List.mem_append.1 hr with g | g
    ·exact List.mem_append_left _ (List.mem_append_left _ g)
    ·exact List.mem_append_right _ (List.mem_append_left _ g))
   have h2:∀r∈aN l++dL l,θ' (ρ r)=some r/\(hp2 (ρ r)).isSome=true:=fun r hr=>h r (by
    rcases List.mem_append.1 hr with g | g
    ·exact List.mem_append_left _ (List.mem_append_right _ g)
    ·exact List.mem_append_right _ (List.mem_append_right _ g))
   rcases List.mem_append.1 hx with hx | hx
   ·exact (Vu i _ h1 x hx).mono fun y hy=>List.mem_append_left _ hy
   ·exact (zx l _ h2 x hx).mono fun y hy=>List.mem_append_right _ hy
theorem abX {ys xs:List AV} (h:gJ θ' hp1 hp2 ys xs):eY θ' hp1 hp2 (lC ys) (lC xs):=by
 cases ys with
 | nil=>rw [gJ] at h;subst h;show eY θ' hp1 hp2 .junk .junk;rw [eY];trivial
 | cons y ys =>
   rw [gJ] at h;obtain ⟨x,xs',rfl,h1,h2⟩:=h;cases ys with
   | nil=>rw [gJ] at h2;subst h2;exact h1
   | cons z zs=>show eY θ' hp1 hp2 .junk _;rw [eY];trivial
theorem abY {a b a' b':List AV} (h:gJ θ' hp1 hp2 a a') (k:gJ θ' hp1 hp2 b b'):gJ θ' hp1 hp2 (a++b) (a'++b'):=by
 induction a generalizing a' with
 | nil=>rw [gJ] at h;subst h;exact k
 | cons y ys ih =>
   rw [gJ] at h;obtain ⟨x,xs',rfl,h1,h2⟩:=h;rw [List.cons_append,gJ];exact ⟨x,xs'++b',rfl,h1,ih h2⟩
theorem KA {y x:AV} (h:eY θ' hp1 hp2 y x):gJ θ' hp1 hp2 [y] [x]:=by rw [gJ];exact ⟨x,[],rfl,h,by rw [gJ]⟩
theorem abZ (l:List (Nat×SV σ)):cL s (l.map (·.2))=(cT s l).map (·.2):=by
 induction l with
 | nil=>rfl
 | cons x l ih=>obtain ⟨t,v⟩:=x;rw [List.map_cons,cL,ih,cT,List.map_cons]
theorem Gz:∀(l:List IT) (f:σ->(bQ l).T),(∀r∈aN l++dL l,θ' (ρ r)=some r/\(hp2 (ρ r)).isSome=true)->gJ θ' hp1 hp2 ((cT s (A8 ρ l f)).map (·.2)) ((jJ l (f s)).map (·.2))
 | [],f,h=>by show gJ θ' hp1 hp2 [] [];rw [gJ]
 | i::l,f,h=>by
   rw [A8,tV,List.map_append];rw [rW,D9] at h;have h2:∀r∈aN l++dL l,θ' (ρ r)=some r/\(hp2 (ρ r)).isSome=true:=fun r hr=>h r (by
    rcases List.mem_append.1 hr with g | g
    ·exact List.mem_append_left _ (List.mem_append_right _ g)
    ·exact List.mem_append_right _ (List.mem_append_right _ g))
   rw [show jJ (i::l) (f s)=aT i (iG (uI i) (bQ l) (f s))++jJ l (jw (uI i) (bQ l) (f s)) from rfl,List.map_append];refine abY ?_ (Gz l _ h2);cases i with
   | tmp t a cs =>
     have hc:∀r∈yS cs++eG cs,θ' (ρ r)=some r/\(hp2 (ρ r)).isSome=true:=fun q hq=>h q (by
      rcases List.mem_append.1 hq with g | g
      ·exact List.mem_append_left _ (List.mem_append_left _ (by show q∈yS cs++[];simp [g]))
      ·exact List.mem_append_right _ (List.mem_append_left _ (by show q∈eG cs++[];simp [g])))
     cases a with
     | true =>
       show gJ θ' hp1 hp2 [(SV.agg (jL ρ cs _)).c s] [.agg (mM cs _)];refine KA ?_;rw [SV.c,eY];exact ⟨_,rfl,yH cs _ hc⟩
     | false =>
       show gJ θ' hp1 hp2 [(one1 (jL ρ cs _)).c s] [lC (mM cs _)];refine KA ?_;rw [Y1];exact abX (yH cs _ hc)
   | drop t =>
     show gJ θ' hp1 hp2 [(SV.junk:SV σ).c s] [.junk];refine KA ?_;rw [SV.c,eY];trivial
   | _=>show gJ θ' hp1 hp2 [] [];rw [gJ]
end
theorem CG:∀(cs:List CS) (x:(iw cs).T),(Kq cs x).map (·.1)=yS cs
 | [],_=>rfl
 | c::cs,x=>by
   rw [Kq,List.map_append,CG cs,yG];cases c<;>rfl
theorem Y6:∀(i:IT) (x:(uI i).T),(aH i x).map (·.1)=aN [i]
 | .tmp t a cs,x=>(CG cs x).trans (List.append_nil _).symm
 | .mix r cs,x=>congrArg (fun l=>r::l) ((CG cs x).trans (List.append_nil _).symm)
 | .row r e u,x=>rfl
 | .arr r u,x=>rfl
 | .mp r,x=>rfl
 | .dead r,x=>rfl
 | .drop t,x=>rfl
theorem jS:∀(l:List IT) (x:(bQ l).T),(lM l x).map (·.1)=aN l
 | [],_=>rfl
 | i::l,x=>by rw [lM,List.map_append,Y6,jS l,<-rW]
theorem uY {σ:Type} (s:σ) (ρ:Nat->Nat):∀(cs:List CS) (f:σ->(iw cs).T),(cO s (kN ρ cs f)).map (·.1)=(yS cs).map ρ
 | [],_=>rfl
 | c::cs,f=>by
   rw [kN,cZ,List.map_append,uY s ρ cs,yG,List.map_append];cases c<;>rfl
theorem KC {σ:Type} (s:σ) (ρ:Nat->Nat):∀(i:IT) (f:σ->(uI i).T),(cO s (Cm ρ i f)).map (·.1)=(aN [i]).map ρ
 | .tmp t a cs,f=>(uY s ρ cs f).trans (congrArg (List.map ρ) (List.append_nil _).symm)
 | .mix r cs,f=>congrArg (fun l=>ρ r::l) ((uY s ρ cs f).trans (congrArg (List.map ρ) (List.append_nil _).symm))
 | .row r e u,f=>rfl
 | .arr r u,f=>rfl
 | .mp r,f=>rfl
 | .dead r,f=>rfl
 | .drop t,f=>rfl
theorem jy {σ:Type} (s:σ) (ρ:Nat->Nat):∀(l:List IT) (f:σ->(bQ l).T),(cO s (bY ρ l f)).map (·.1)=(aN l).map ρ
 | [],_=>rfl
 | i::l,f=>by rw [bY,cZ,List.map_append,KC,jy s ρ l,rW i l,List.map_append]
theorem CJ:∀ {l:List Nat},nodupB l=true->l.Nodup
 | [],_=>List.nodup_nil
 | r::l,h=>by
   rw [nodupB,Bool.and_eq_true,Bool.not_eq_true'] at h;exact List.nodup_cons.2 ⟨kL.1 h.1,CJ h.2⟩
theorem EO {α:Type} {k:Nat} {v:α}:∀ {l:List (Nat×α)},(l.map (·.1)).Nodup->(k,v)∈l->look k l=some v
 | (j,w)::l,hn,hm=>by
   rw [List.map_cons,List.nodup_cons] at hn;rw [look];rcases List.mem_cons.1 hm with e | hm
   ·cases e;rw [if_pos rfl]
   ·rw [if_neg (fun e=>hn.1 (by subst e;exact List.mem_map.2 ⟨_,hm,rfl⟩)),EO hn.2 hm]
theorem oK {α:Type} {k:Nat} {l:List (Nat×α)} (h:k∈l.map (·.1)):∃v,look k l=some v:=by
 obtain ⟨⟨j,v⟩,h1,rfl⟩:=List.mem_map.1 h;exact iW h1
theorem ND:∀ {l:List IT} {x:(bQ l).T},Tf l=true->∀y∈lM l x,y.2 ≠ .dead
 | [],_,_,y,hy=>by cases hy
 | i::l,x,h,y,hy=>by
   have hl:Tf l=true:=by cases i<;>first | exact h | cases h
   rw [lM] at hy;rcases List.mem_append.1 hy with hy | hy
   ·have hcs:∀(cs:List CS) (z:(iw cs).T),∀y∈Kq cs z,y.2 ≠ .dead:=fun cs=>by
     induction cs with
     | nil=>intro z y hy;cases hy
     | cons c cs ih =>
       intro z y hy;rw [Kq] at hy;rcases List.mem_append.1 hy with hy | hy
       ·cases c with
        | own r e u =>
          have hy:y∈[(r,AO.data e (eH u) (aS u (iG (.list u) (iw cs) z)) true)]:=hy;rw [List.mem_singleton] at hy;subst hy;simp
        | _=>cases hy
       ·exact ih _ y hy
    cases i with
    | tmp t a cs=>exact hcs cs _ y hy
    | mix r cs =>
      rcases List.mem_cons.1 hy with rfl | hy
      ·simp
      ·exact hcs cs _ y hy
    | row r e u =>
      have hy:y∈[(r,AO.data e (eH u) (aS u (iG (uI (.row r e u)) (bQ l) x)) true)]:=hy;rw [List.mem_singleton] at hy;subst hy;simp
    | arr r u =>
      have hy:y∈[(r,AO.mix ((aS u (iG (uI (.arr r u)) (bQ l) x)).map .d))]:=hy;rw [List.mem_singleton] at hy;subst hy;simp
    | mp r =>
      have hy:y∈[(r,Xv (iG (uI (.mp r)) (bQ l) x))]:=hy;rw [List.mem_singleton] at hy;subst hy;exact fun e=>(by cases e)
    | drop t=>cases h
    | dead r=>cases h
   ·exact ND hl y hy
theorem Ji {k r:Nat}:∀ {l:List (Nat×Option Nat)},lg l k=some r->(k,some r)∈l
 | (j,x)::l,h=>by
   rw [lg] at h;split at h
   ·rename_i hd;have:=of_decide_eq_true hd;subst this;subst h;exact List.mem_cons_self
   ·exact List.mem_cons_of_mem _ (Ji h)
theorem ab1 {σ:Type} {s:σ} {ρ:Nat->Nat} {ri ai:List IT} {f1:σ->(bQ ri).T} {f2:σ->(bQ ai).T} {tbl:List (Nat×Option Nat)} (htb:tbl=(aN ri++aN ai).map fun r=>(ρ r,some r))
 (n1:nodupB (aN ri)=true) (n2:nodupB (aN ai)=true) (hin:∀r∈aN ri++aN ai,lg tbl (ρ r)=some r) (hrf:∀r∈dL ri++dL ai,r∈aN ri++aN ai) :
 (∀r∈aN ri++aN ai,lg tbl (ρ r)=some r/\(aK (cO s (bY ρ ri f1++bY ρ ai f2)) (ρ r)).isSome=true) /\
 JE (lg tbl) (aK (lM ri (f1 s)++lM ai (f2 s))) (aK (cO s (bY ρ ri f1++bY ρ ai f2))):=by
 have hnm:(cO s (bY ρ ri f1++bY ρ ai f2)).map (·.1)=(aN ri++aN ai).map ρ:=by rw [cZ,List.map_append,jy,jy,List.map_append]
 have hall:∀r∈aN ri++aN ai,lg tbl (ρ r)=some r/\(aK (cO s (bY ρ ri f1++bY ρ ai f2)) (ρ r)).isSome=true:=fun r hr=>by
  refine ⟨hin r hr,?_⟩;obtain ⟨v,hv⟩:=oK (k:=ρ r) (l:=cO s (bY ρ ri f1++bY ρ ai f2)) (by rw [hnm];exact List.mem_map.2 ⟨r,hr,rfl⟩);unfold aK;rw [hv];rfl
 refine ⟨hall,fun r' o ho => ?_,fun r' r'' o' o'' r h1 h2 h3 h4 h5 h6 => ?_⟩
 ·have hsub:∀(l:List IT),(∀r∈aN l,r∈aN ri++aN ai)->(∀r∈dL l,r∈dL ri++dL ai)->∀r∈aN l++dL l,lg tbl (ρ r)=some r/\(aK (cO s (bY ρ ri f1++bY ρ ai f2)) (ρ r)).isSome=true:=fun l a b r hr=>by
   rcases List.mem_append.1 hr with g | g
   ·exact hall r (a r g)
   ·exact hall r (hrf r (b r g))
  have ho':=ho;unfold aK at ho;rw [cZ,bI] at ho;cases hl:look r' (cO s (bY ρ ri f1)) with
  | some o1 =>
    rw [hl] at ho;cases ho;obtain ⟨r,o2,e1,e2,e3⟩:=zx (hp1:=aK (lM ri (f1 s)++lM ai (f2 s))) ri f1 (hsub ri (fun r hr=>List.mem_append_left _ hr) (fun r hr=>List.mem_append_left _ hr)) _ (aU hl);have hr:r∈aN ri:=by rw [<-jS ri (f1 s)];exact List.mem_map.2 ⟨_,e2,rfl⟩
    refine e3 ?_ (hin r (List.mem_append_left _ hr));unfold aK;rw [bI,EO (by rw [jS];exact CJ n1) e2]
  | none =>
    rw [hl] at ho;obtain ⟨r,o2,e1,e2,e3⟩:=zx (hp1:=aK (lM ri (f1 s)++lM ai (f2 s))) ai f2 (hsub ai (fun r hr=>List.mem_append_right _ hr) (fun r hr=>List.mem_append_right _ hr)) _ (aU ho);have hr:r∈aN ai:=by rw [<-jS ai (f2 s)];exact List.mem_map.2 ⟨_,e2,rfl⟩
    refine e3 ?_ (hin r (List.mem_append_right _ hr));unfold aK;rw [bI];have hno:look r (lM ri (f1 s))=none:=by
     cases hq:look r (lM ri (f1 s)) with
     | none=>rfl
     | some w =>
       exfalso;have hr2:r∈aN ri:=by rw [<-jS ri (f1 s)];exact List.mem_map.2 ⟨_,aU hq,rfl⟩
       obtain ⟨v,hv⟩:=oK (k:=r') (l:=cO s (bY ρ ri f1)) (by rw [jy];exact List.mem_map.2 ⟨r,hr2,e1.symm⟩);rw [hl] at hv;cases hv
    rw [hno];exact EO (by rw [jS];exact CJ n2) e2
 ·have key:∀q,lg tbl q=some r->q=ρ r:=fun q hq=>by
   have:=Ji hq;rw [htb] at this;obtain ⟨z,_,e⟩:=List.mem_map.1 this;simp only [Prod.mk.injEq,Option.some.injEq] at e;rw [<-e.1,e.2]
  rw [key r' h5,key r'' h6]
section
variable {σ:Type}
def adR:CS->SV σ->Bool
 | .dat (.int _),.int _ _=>true
 | .dat (.int _),.val _=>true
 | .dat .bool,.bool _=>true
 | .dat .bool,.val _=>true
 | .dat .str,.str _=>true
 | .dat .str,.val _=>true
 | .dat (.list _),.lst _ _=>true
 | .own r _ _,.sl _ _ _ _ _ => !xG r
 | .nil,_=>true
 | .np,_=>true
 | .ki _ _,_=>true
 | .kb _,_=>true
 | .pt _ _,_=>true
 | .cl _ _,_=>true
 | _,_=>false
def CO:List CS->List (SV σ)->Bool
 | [],_=>true
 | c::cs,v::vs=>adR c v&&CO cs vs
 | _,_=>false
def xI:List CS->List (SV σ)->List Nat
 | .own r _ _::cs,v::vs=>match v with
   | .sl _ _ _ _ _=>match xG r with
     | true=>r::xI cs vs
     | false=>xI cs vs
   | _=>r::xI cs vs
 | _::cs,_::vs=>xI cs vs
 | _,_=>[]
def Tm (θ:Nat->Option Nat) (d:SS σ):IT->List Nat
 | .tmp t agg cs=>match gV t d.tm with
   | none=>[]
   | some v=>match agg with
     | false=>xI cs [v]
     | true=>match v with | .agg vs=>xI cs vs | _=>[]
 | .mix r cs=>match θ r with
   | some r1=>match jC d r1 with
     | some (.mix vs)=>match CO cs vs with
       | true=>xI cs vs
       | false=>r::xI cs vs
     | _=>[]
   | none=>[]
 | _=>[]
def Jj (θ:Nat->Option Nat) (d:SS σ):List IT->List Nat
 | []=>[]
 | i::l=>Tm θ d i++Jj θ d l
end
section
variable {σ:Type} {s:σ} {θ:Nat->Option Nat} {rd:Nat->Option (SO σ)} {ρ:Nat->Nat}
theorem Jk (hρ:∀r x,θ r=some x->ρ r=x):∀(caps:List (Nat×Nat)) (vs:List (SV σ)),Gu θ caps vs=true->cL s (zo ρ caps)=cL s vs
 | [],[],_=>rfl
 | (r,off)::l,.ptr r1 off1::vs,h=>by
   rw [Gu,Bool.and_eq_true,Bool.and_eq_true] at h;obtain ⟨⟨h1,h2⟩,h3⟩:=h;obtain rfl:=of_decide_eq_true h2;rw [zo,cL,cL,Jk hρ l vs h3,SV.c,SV.c,hρ r r1 (xC h1)]
 | [],_::_,h=>by cases h
 | (r,off)::l,[],h=>by cases h
 | (r,off)::l,.val _::vs,h=>by cases h
 | (r,off)::l,.int _ _::vs,h=>by cases h
 | (r,off)::l,.bool _::vs,h=>by cases h
 | (r,off)::l,.str _::vs,h=>by cases h
 | (r,off)::l,.lst _ _::vs,h=>by cases h
 | (r,off)::l,.ptx _ _ _ _::vs,h=>by cases h
 | (r,off)::l,.sl _ _ _ _ _::vs,h=>by cases h
 | (r,off)::l,.dpt _ _ _ _::vs,h=>by cases h
 | (r,off)::l,.agg _::vs,h=>by cases h
 | (r,off)::l,.tup _::vs,h=>by cases h
 | (r,off)::l,.clo _ _::vs,h=>by cases h
 | (r,off)::l,.undef::vs,h=>by cases h
 | (r,off)::l,.junk::vs,h=>by cases h
theorem Vw (hρ:∀r x,θ r=some x->ρ r=x):∀(c:CS) (v:SV σ) (p:PK σ (uC c).T),vY θ rd c v=some p->allT s p.cs->adR c v=true->(fU ρ c p.f).c s=v.c s
 | .dat (.int k),v,p,hp,hc,hv=>by
   rw [fU,iH];simp only [vY,Et,Y0,Ep] at hp;split at hp
   ·rename_i k' f hf;split at hp
    ·rename_i hk _;obtain ⟨hk⟩:=hk;subst hk;cases hp;exact (kJ hf s).symm
    ·cases hp
   ·cases hp
 | .dat .bool,v,p,hp,hc,hv=>by
   rw [fU,iH];simp only [vY,Et,Y0,Ep] at hp;split at hp
   ·rename_i f hf;cases hp;exact (xq hf s).symm
   ·cases hp
 | .dat .str,v,p,hp,hc,hv=>by
   rw [fU,iH];simp only [vY,Et,Y0,Ep] at hp;split at hp
   ·rename_i f hf;cases hp;exact (rQ hf s).symm
   ·cases hp
 | .dat (.list t),v,p,hp,hc,hv=>by
   rw [fU,iH];cases v with
   | lst u f =>
     simp only [vY,Et,Y0,Ep,pkL] at hp;split at hp
     ·rename_i hk _;subst hk;cases hp;rw [SV.c];rfl
     ·cases hp
   | _=>cases hv
 | .dat (.pair a b),v,p,hp,hc,hv=>by cases v<;>cases hv
 | .dat .unit,v,p,hp,hc,hv=>by cases v<;>cases hv
 | .own r e u,v,p,hp,hc,hv=>by
   simp only [vY] at hp;split at hp
   ·cases hv
   ·rename_i r1 z n;split at hp
    ·rename_i h1;have h1:=xC h1;split at hp
     ·rename_i e' u' f hr;split at hp
      ·rename_i hk _ hd;subst hk;obtain ⟨rfl,hz⟩:=of_decide_eq_true hd;have hv:(!xG r)=true:=hv;split at hp
       ·rename_i hsh;rw [hsh] at hv;cases hv
       cases hp;have hn:n s=(f s).length:=of_decide_eq_true hc.1;rw [fU,SV.c,SV.c,hρ r r1 h1,hz];show AV.sl r1 (sG s none*eH u') (f s).length (oW s (f s).length Cp.unk)=_;rw [hn]
      ·cases hp
     ·cases hp
    ·cases hp
   ·cases hp
 | .nil,v,p,hp,hc,hv=>by
   rw [fU,iH];simp only [vY,Et] at hp;split at hp
   ·rw [SV.c];rfl
   ·cases hp
 | .np,v,p,hp,hc,hv=>by
   rw [fU,iH];simp only [vY,Et] at hp;split at hp
   ·rw [SV.c];rfl
   ·cases hp
 | .ki k n,v,p,hp,hc,hv=>by
   rw [fU,iH];simp only [vY,Et] at hp;split at hp
   ·split at hp
    ·rename_i hd;obtain ⟨rfl,rfl⟩:=of_decide_eq_true hd;rw [SV.c];rfl
    ·cases hp
   ·cases hp
 | .kb b,v,p,hp,hc,hv=>by
   rw [fU,iH];simp only [vY,Et] at hp;split at hp
   ·split at hp
    ·rename_i hd;obtain rfl:=of_decide_eq_true hd;rw [SV.c];rfl
    ·cases hp
   ·cases hp
 | .pt r off,v,p,hp,hc,hv=>by
   simp only [vY] at hp;split at hp
   ·rename_i r1 off1;split at hp
    ·rename_i hd;rw [Bool.and_eq_true] at hd;obtain rfl:=of_decide_eq_true hd.2;rw [fU,SV.c,SV.c,hρ r r1 (xC hd.1)]
    ·cases hp
   ·cases hp
 | .cl f caps,v,p,hp,hc,hv=>by
   simp only [vY] at hp;split at hp
   ·rename_i f' vs;split at hp
    ·rename_i hd;rw [Bool.and_eq_true] at hd;obtain rfl:=of_decide_eq_true hd.1;rw [fU,SV.c,SV.c,Jk hρ caps vs hd.2]
    ·cases hp
   ·cases hp
theorem uZ (hρ:∀r x,θ r=some x->ρ r=x):∀(cs:List CS) (vs:List (SV σ)) (p:PK σ (iw cs).T),D7 θ rd cs vs=some p->allT s p.cs ->
 (CO cs vs=true->cL s (jL ρ cs p.f)=cL s vs)/\∀x∈cO s (kN ρ cs p.f),x.1∈(xI cs vs).map ρ\/gu s rd x.1=some x.2
 | [],[],p,hp,hc=>⟨fun _=>rfl,fun x hx=>by cases hx⟩
 | c::cs,v::vs,p,hp,hc=>by
   rw [D7] at hp;split at hp
   ·rename_i x y hx hy;cases hp;rw [bK] at hc;obtain ⟨b1,b2⟩:=uZ hρ cs vs y hy hc.2;have e1:(fun s=>iG (uC c) (iw cs) (sO (uC c) (iw cs) (x.f s) (y.f s)))=x.f:=by funext s;exact jd _ _ _ _
    have e2:(fun s=>jw (uC c) (iw cs) (sO (uC c) (iw cs) (x.f s) (y.f s)))=y.f:=by funext s;exact jD _ _ _ _
    refine ⟨fun hs => ?_,fun z hz => ?_⟩
    ·rw [CO,Bool.and_eq_true] at hs;rw [jL,cL,cL];simp only [e1,e2];rw [Vw hρ c v x hx hc.1 hs.1,b1 hs.2]
    ·rw [kN,cZ] at hz;simp only [e1,e2] at hz;rcases List.mem_append.1 hz with hz | hz
     ·cases c with
      | own r e u =>
        have hz:z∈[(ρ r,AO.data e (eH u) (aS u (x.f s)) true)]:=hz;rw [List.mem_singleton] at hz;subst hz;simp only [vY] at hx;split at hx
        ·left;show ρ r∈(r::xI cs vs).map ρ;exact List.mem_map.2 ⟨r,List.mem_cons_self,rfl⟩
        ·rename_i r1 z n;split at hx
         ·rename_i h1;have h1:=xC h1;split at hx
          ·rename_i e' u' f hr;split at hx
           ·rename_i hk _ hd;subst hk;obtain ⟨rfl,hz⟩:=of_decide_eq_true hd;split at hx
            ·rename_i hsh;left;show ρ r∈(match xG r with | true=>r::xI cs vs | false=>xI cs vs).map ρ;rw [hsh];exact List.mem_map.2 ⟨r,List.mem_cons_self,rfl⟩
            cases hx;right;rw [hρ r r1 h1];simp only [gu,hr,Option.map_some,SO.c];rfl
           ·cases hx
          ·cases hx
         ·cases hx
        ·cases hx
      | _=>cases hz
     ·rcases b2 z hz with h | h
      ·left;obtain ⟨q,q1,q2⟩:=List.mem_map.1 h;refine List.mem_map.2 ⟨q,?_,q2⟩;cases c with
       | own r e u =>
         show q∈(match v with | .sl _ _ _ _ _=>(match xG r with | true=>r::xI cs vs | false=>xI cs vs) | _=>r::xI cs vs);cases v with
         | sl _ _ _ _ _ =>
           show q∈(match xG r with | true=>r::xI cs vs | false=>xI cs vs);cases xG r with
           | true=>exact List.mem_cons_of_mem _ q1
           | false=>exact q1
         | _=>exact List.mem_cons_of_mem _ q1
       | _=>exact q1
      ·exact .inr h
   ·cases hp
 | [],_::_,p,hp,_=>by cases hp
 | _::_,[],p,hp,_=>by cases hp
theorem Vx {d:SS σ} (hρ:∀r x,θ r=some x->ρ r=x):∀(i:IT) (p:PK σ (uI i).T),AY θ d i=some p->allT s p.cs ->
 ∀x∈cO s (Cm ρ i p.f),x.1∈(Tm θ d i).map ρ\/gu s (jC d) x.1=some x.2
 | .tmp t agg cs,p,hp,hc,x,hx=>by
   simp only [AY] at hp;simp only [Tm];cases hv:gV t d.tm with
   | none=>simp only [hv] at hp;cases hp
   | some v =>
     simp only [hv] at hp;cases agg with
     | false=>exact (uZ hρ cs [v] p hp hc).2 x hx
     | true =>
       simp only at hp;cases v with
       | agg vs=>exact (uZ hρ cs vs p hp hc).2 x hx
       | _=>cases hp
 | .mix r cs,p,hp,hc,x,hx=>by
   simp only [AY] at hp;simp only [Tm];cases hr:θ r with
   | none=>simp only [hr] at hp;cases hp
   | some r1 =>
     simp only [hr] at hp;cases hvs:jC d r1 with
     | none=>simp only [hvs] at hp;cases hp
     | some o =>
       cases o with
       | mix vs =>
         simp only [hvs] at hp;simp only [hvs];obtain ⟨a,b⟩:=uZ hρ cs vs p hp hc;have hx:x∈(ρ r,AO.mix (cL s (jL ρ cs p.f)))::cO s (kN ρ cs p.f):=hx;rcases List.mem_cons.1 hx with rfl | hx
         ·cases hs:CO cs vs with
          | true =>
            right;show gu s (jC d) (ρ r)=_;rw [hρ r r1 hr,a hs];simp only [gu,hvs,Option.map_some,SO.c]
          | false=>left;exact List.mem_map.2 ⟨r,List.mem_cons_self,rfl⟩
         ·rcases b x hx with h | h
          ·left;obtain ⟨q,q1,q2⟩:=List.mem_map.1 h;refine List.mem_map.2 ⟨q,?_,q2⟩;cases CO cs vs with
           | true=>exact q1
           | false=>exact List.mem_cons_of_mem _ q1
          ·exact .inr h
       | data e u f wr=>simp only [hvs] at hp;cases hp
       | arr u f=>simp only [hvs] at hp;cases hp
       | mp f=>simp only [hvs] at hp;cases hp
       | tab kk ks vs=>simp only [hvs] at hp;cases hp
       | dead=>simp only [hvs] at hp;cases hp
 | .row r e u,p,hp,hc,x,hx=>by
   simp only [AY] at hp;cases hr1:θ r with
   | none=>simp only [hr1] at hp;cases hp
   | some r1 =>
     simp only [hr1] at hp;split at hp
     ·rename_i e' u' f hr;split at hp
      ·rename_i hk _ hd;subst hk;have hd:=of_decide_eq_true hd;subst hd;cases hp;have hx:x∈[(ρ r,AO.data e' (eH u') (aS u' (f s)) true)]:=hx;rw [List.mem_singleton] at hx;subst hx;right;rw [hρ r r1 hr1];simp only [gu,hr,Option.map_some,SO.c]
      ·cases hp
     ·cases hp
 | .arr r u,p,hp,hc,x,hx=>by
   simp only [AY] at hp;cases hr1:θ r with
   | none=>simp only [hr1] at hp;cases hp
   | some r1 =>
     simp only [hr1] at hp;split at hp
     ·rename_i u' f hr;split at hp
      ·rename_i hk _;subst hk;cases hp;have hx:x∈[(ρ r,AO.mix ((aS u' (f s)).map .d))]:=hx;rw [List.mem_singleton] at hx;subst hx;right;rw [hρ r r1 hr1];simp only [gu,hr,Option.map_some,SO.c]
      ·cases hp
     ·cases hp
 | .mp r,p,hp,hc,x,hx=>by
   simp only [AY] at hp;cases hr1:θ r with
   | none=>simp only [hr1] at hp;cases hp
   | some r1 =>
     simp only [hr1] at hp;split at hp
     ·rename_i f hr;cases hp;have hx:x∈[(ρ r,Xv (f s))]:=hx;rw [List.mem_singleton] at hx;subst hx;right;rw [hρ r r1 hr1];simp only [gu,hr,Option.map_some,SO.c]
     ·cases hp
 | .drop t,p,hp,hc,x,hx=>by cases hp
 | .dead r,p,hp,hc,x,hx=>by cases hp
theorem GH {d:SS σ} (hρ:∀r x,θ r=some x->ρ r=x):∀(l:List IT) (p:PK σ (bQ l).T),Jh θ d l=some p->allT s p.cs ->
 ∀x∈cO s (bY ρ l p.f),x.1∈(Jj θ d l).map ρ\/gu s (jC d) x.1=some x.2
 | [],p,hp,hc,x,hx=>by cases hx
 | i::l,p,hp,hc,x,hx=>by
   rw [Jh] at hp;split at hp
   ·rename_i x' y hx' hy;cases hp;rw [bK] at hc;have e1:(fun s=>iG (uI i) (bQ l) (sO (uI i) (bQ l) (x'.f s) (y.f s)))=x'.f:=by funext s;exact jd _ _ _ _
    have e2:(fun s=>jw (uI i) (bQ l) (sO (uI i) (bQ l) (x'.f s) (y.f s)))=y.f:=by funext s;exact jD _ _ _ _
    rw [bY,cZ] at hx;simp only [e1,e2] at hx;rw [Jj,List.map_append];rcases List.mem_append.1 hx with hx | hx
    ·rcases Vx hρ i x' hx' hc.1 x hx with h | h
     ·exact .inl (List.mem_append_left _ h)
     ·exact .inr h
    ·rcases GH hρ l y hy hc.2 x hx with h | h
     ·exact .inl (List.mem_append_right _ h)
     ·exact .inr h
   ·cases hp
end
section
variable {σ τ:Type} {s1:σ} {s2:τ} {ρ:Nat->Nat}
theorem Y7:∀(c:CS) (f:σ->(uC c).T) (g:τ->(uC c).T),f s1=g s2->(fU ρ c f).c s1=(fU ρ c g).c s2
 | .own r e u,f,g,h=>by rw [fU,fU,abN,abN,h]
 | .pt r off,f,g,h=>by rw [fU,fU,SV.c,SV.c]
 | .cl f caps,_,_,h=>by
   have e:∀l:List (Nat×Nat),cL s1 (zo ρ l)=cL s2 (zo ρ l):=fun l=>by
    induction l with
    | nil=>rfl
    | cons x l ih=>obtain ⟨r,off⟩:=x;rw [zo,zo,cL,cL,SV.c,SV.c,ih]
   rw [fU,fU,SV.c,SV.c,e]
 | .dat u,f,g,h=>by rw [fU,fU,iH,iH,h]
 | .nil,f,g,h=>by rw [fU,fU,iH,iH,h]
 | .np,f,g,h=>by rw [fU,fU,iH,iH,h]
 | .ki _ _,f,g,h=>by rw [fU,fU,iH,iH,h]
 | .kb _,f,g,h=>by rw [fU,fU,iH,iH,h]
theorem Jl:∀(cs:List CS) (f:σ->(iw cs).T) (g:τ->(iw cs).T),f s1=g s2->cL s1 (jL ρ cs f)=cL s2 (jL ρ cs g)
 | [],f,g,h=>rfl
 | c::cs,f,g,h=>by
   rw [jL,jL,cL,cL];rw [Y7 c (fun s=>iG (uC c) (iw cs) (f s)) (fun s=>iG (uC c) (iw cs) (g s)) (congrArg (iG (uC c) (iw cs)) h),Jl cs (fun s=>jw (uC c) (iw cs) (f s)) (fun s=>jw (uC c) (iw cs) (g s)) (congrArg (jw (uC c) (iw cs)) h)]
theorem CP:∀(cs:List CS) (f:σ->(iw cs).T) (g:τ->(iw cs).T),f s1=g s2->cO s1 (kN ρ cs f)=cO s2 (kN ρ cs g)
 | [],f,g,h=>rfl
 | c::cs,f,g,h=>by
   rw [kN,kN,cZ,cZ,CP cs (fun s=>jw (uC c) (iw cs) (f s)) (fun s=>jw (uC c) (iw cs) (g s)) (congrArg (jw (uC c) (iw cs)) h)];congr 1;cases c with
   | own r e u =>
     show [(ρ r,AO.data e (eH u) (aS u (iG (.list u) (iw cs) (f s1))) true)]=[(ρ r,AO.data e (eH u) (aS u (iG (.list u) (iw cs) (g s2))) true)]
     rw [h]
   | _=>rfl
theorem Vy:∀(i:IT) (f:σ->(uI i).T) (g:τ->(uI i).T),f s1=g s2->cO s1 (Cm ρ i f)=cO s2 (Cm ρ i g)
 | .tmp t a cs,f,g,h=>CP cs f g h
 | .mix r cs,f,g,h=>by
   show (ρ r,AO.mix (cL s1 (jL ρ cs f)))::cO s1 (kN ρ cs f)=(ρ r,AO.mix (cL s2 (jL ρ cs g)))::cO s2 (kN ρ cs g);rw [Jl cs f g h,CP cs f g h]
 | .row r e u,f,g,h=>by
   show [(ρ r,AO.data e (eH u) (aS u (f s1)) true)]=[(ρ r,AO.data e (eH u) (aS u (g s2)) true)]
   rw [h]
 | .arr r u,f,g,h=>by
   show [(ρ r,AO.mix ((aS u (f s1)).map .d))]=[(ρ r,AO.mix ((aS u (g s2)).map .d))]
   rw [h]
 | .mp r,f,g,h=>by
   show [(ρ r,Xv (f s1))]=[(ρ r,Xv (g s2))]
   rw [h]
 | .drop t,f,g,h=>rfl
 | .dead r,f,g,h=>rfl
theorem GI:∀(l:List IT) (f:σ->(bQ l).T) (g:τ->(bQ l).T),f s1=g s2->cO s1 (bY ρ l f)=cO s2 (bY ρ l g)
 | [],f,g,h=>rfl
 | i::l,f,g,h=>by
   rw [bY,bY,cZ,cZ,Vy i (fun s=>iG (uI i) (bQ l) (f s)) (fun s=>iG (uI i) (bQ l) (g s)) (congrArg (iG (uI i) (bQ l)) h),GI l (fun s=>jw (uI i) (bQ l) (f s)) (fun s=>jw (uI i) (bQ l) (g s)) (congrArg (jw (uI i) (bQ l)) h)]
end
section
variable {σ τ:Type}
def adS:List (SV σ)->Option (List (Nat×Nat))
 | []=>some []
 | .ptr r off::l=>match adS l with | some c=>some ((r,off)::c) | none=>none
 | _=>none
mutual
def viV (rd:Nat->Option (SO σ)):SV σ->VI
 | .val (.int k n) => .k (.int k) n
 | .val (.bool b) => .k .bool (bif b then 1 else 0)
 | .val (.string _) => .u .str
 | .val (.slice none 0 0) => .nil
 | .val (.pointer none) => .np
 | .int k _ => .u (.int k)
 | .bool _ => .u .bool
 | .str _ => .u .str
 | .lst t _ => .u (.list t)
 | .ptr r off => .pt r off
 | .clo f cs=>match adS cs with | some caps => .cl f caps | none => .junk
 | .sl r z none n .unk=>match rd r with
   | some (.data e u _ true) => .own r e u
   | some (.data _ u _ _) => .u (.list u)
   | _ => .junk
 | .sl r _ _ _ _=>match rd r with
   | some (.data _ u _ _) => .u (.list u)
   | _ => .junk
 | .agg cs => .agg (viL rd cs)
 | _ => .junk
def viL (rd:Nat->Option (SO σ)):List (SV σ)->List VI
 | []=>[]
 | x::l=>viV rd x::viL rd l
end
def oiO (rd:Nat->Option (SO σ)):SO σ->OI
 | .data e u _ wr => .row e u wr
 | .arr u _ => .arr u
 | .mp _ => .mp
 | .tab _ _ _ => .dead
 | .mix cs => .mix (viL rd cs)
 | .dead => .dead
def viT (rd:Nat->Option (SO σ)) (l:List (Nat×SV σ)):List (Nat×VI):=l.map fun x=>(x.1,viV rd x.2)
def viO (rd:Nat->Option (SO σ)) (l:List (Nat×SO σ)):List (Nat×OI):=l.map fun x=>(x.1,oiO rd x.2)
def vV {β:Type} (p kind:Nat) (d:SS σ) (d':SS τ):TR β τ :=
 .note ⟨p,kind,viT (jC d') (d'.tm.take (d'.tm.length-d.tm.length)),viO (jC d') (d'.hp.take (d'.hp.length-d.hp.length)),viT (jC d) d.tm,viO (jC d) d.hp⟩
def afz:List IT->Bool
 | []=>false
 | .drop t::l=>decide (t=88888888)||afz l
 | _::l=>afz l
def ab2 (d:SS τ):List IT->Bool
 | []=>false
 | .tmp t _ _::l=>(match gV t d.tm with | some (.val (.pointer none))=>true | _=>false)||ab2 d l
 | _::l=>ab2 d l
def CQ {β:Type} (p kind:Nat) (d:SS σ) (its:List IT) (d':SS τ):TR ((bQ its).T ⊕ β) τ :=
 match Gy d its d' with
 | some x=>Az x.cs (.ret fun s => .inl (x.f s))
 | none=>match afz its&&ab2 d' its with
   | true => .fail "cut"
   | false=>vV p kind d d'
def zy (rd:Nat->Option (SO σ)):Nat->List Nat->List Nat->List Nat
 | 0,_,seen=>seen
 | _+1,[],seen=>seen
 | n+1,r::work,seen=>match jv r seen with
   | true=>zy rd n work seen
   | false=>match rd r with
     | some o=>zy rd n (Gv o++work) (r::seen)
     | none=>zy rd n work seen
def sK (rd:Nat->Option (SO σ)):List Nat->List (Nat×SO σ)
 | []=>[]
 | r::l=>match rd r with
   | some o=>(r,o)::sK rd l
   | none=>sK rd l
def yI (os:List (Nat×SO σ)) (rs:List Nat):Bool:=rs.all fun r=>jv r (bg os)
def Ba (os:List (Nat×SO σ)):Bool:=os.all fun x=>yI os (Gv x.2)
def Tn (T:Ty) (d:SS σ):ResultVar->Option (SV σ)
 | .tmp t=>some (match gV t d.tm with | some x=>x | none => .junk)
 | .cell a t=>match T t,gV a d.tm with
   | some i,some (.ptr r off)=>match jC d r with
     | some (.mix cs)=>Aq i cs off
     | _=>none
   | _,_=>none
def Ea (T:Ty) (d:SS σ):List ResultVar->Option (List (SV σ))
 | []=>some []
 | r::l=>match Tn T d r,Ea T d l with
   | some x,some xs=>some (x::xs)
   | _,_=>none
def ng (xs:List (SV σ)):SV σ:=match xs with | [x]=>x | xs => .tup xs
def o7:Nat->List (SV σ)->List (Nat×SV σ)
 | _,[]=>[]
 | i,x::xs=>(i,x)::o7 (i+1) xs
end
inductive PL where
 | carry (its:List IT) | unroll | once | stop
structure CE where
 ai:List IT
 ri:List IT
 F:(bQ ai).T->Option (bQ ri).T
def Ew:List CS->Bool
 | []=>true
 | .dat _::l=>Ew l
 | _=>false
def gY:List IT->Bool
 | []=>true
 | .tmp _ _ cs::l=>Ew cs&&gY l
 | _=>false
def Jm:List CS->Bool
 | []=>true
 | .dat (.int _)::l=>Jm l
 | .dat .bool::l=>Jm l
 | .dat .str::l=>Jm l
 | _=>false
def Jo:List IT->Bool
 | []=>true
 | .tmp _ true cs::l=>Jm cs&&Jo l
 | .tmp _ false cs::l=>(Jm cs&&decide (cs.length=1))&&Jo l
 | _=>false
section
variable {σ:Type}
def ni (rd:Nat->Option (SO σ)):(ai:List IT)->List (SV σ)->Option (PK σ (bQ ai).T)
 | [],[]=>some ⟨fun _=>(),[],[]⟩
 | .tmp _ false cs::l,v::vs=>match Eu rd cs [v],ni rd l vs with
   | some x,some y=>some ⟨fun s=>sO (iw cs) (bQ l) (x.f s) (y.f s),x.cs++y.cs,x.fz++y.fz⟩
   | _,_=>none
 | .tmp _ true cs::l,v::vs=>match v with
   | .agg ws=>match Eu rd cs ws,ni rd l vs with
     | some x,some y=>some ⟨fun s=>sO (iw cs) (bQ l) (x.f s) (y.f s),x.cs++y.cs,x.fz++y.fz⟩
     | _,_=>none
   | _=>none
 | _,_=>none
def Tq (its:List IT) (f:σ->(bQ its).T):SV σ:=ng ((lX its f).map (·.2))
def Tt (n:Nat) (d:SS σ):SV σ:=ng ((List.range n).map fun j=>match gV j d.tm with | some v=>v | none => .junk)
def afA {β:Type} (E:CE) (args:List (SV σ)) (d:SS σ) (F:Nat) (K:(τ:Type)->(τ->σ)->SV τ->List (Nat×SO τ)->List Nat->Nat->TR β τ):TR β σ :=
 match E with
 | ⟨ai,[.tmp _ false [.own _ e u]],G⟩=>match ni (jC d) ai args with
   | none => .fail "contract: arguments"
   | some pa=>match gY ai&&gB (jC d) F with
     | false => .fail "contract: shape"
     | true=>Az pa.cs (.bnd (α:=List u.T) (fun s=>G (pa.f s)) (K (σ×List u.T) Prod.fst (.sl F (eH u) none (fun t=>t.2.length) .unk) ((F,.data e u (fun t=>t.2) true)::iV Prod.fst pa.fz) (F::bg pa.fz) (F+1)))
 | E=>match ni (jC d) E.ai args with
 | none => .fail "contract: arguments"
 | some pa=>match gY E.ai&&gY E.ri with
   | false => .fail "contract: shape"
   | true=>match Jo E.ri with
     | true=>Az pa.cs (.bnd (fun s=>E.F (pa.f s)) (K (σ×(bQ E.ri).T) Prod.fst (Tq E.ri Prod.snd) [] (bg pa.fz) F))
     | false=>Az pa.cs (.bnd (fun s=>E.F (pa.f s)) (K (σ×(bQ E.ri).T) Prod.fst (Tq E.ri Prod.snd) (iV Prod.fst pa.fz) (bg pa.fz) F))
def alg:List IT->Bool
 | [.tmp _ false [.own _ _ _]]=>true
 | _=>false
def Qu (E:CE):Bool:=gY E.ai&&(gY E.ri||alg E.ri)
def ajr (r:Nat):List Nat->Nat
 | []=>0
 | k::l=>match decide (k=r) with | true=>0 | false=>ajr r l+1
def GN (θ:Nat->Option Nat):List Nat->List Nat
 | []=>[]
 | r::l=>match θ r with | some x=>x::GN θ l | none=>GN θ l
def Jp (θ:Nat->Option Nat):List Nat->List Nat
 | []=>[]
 | r::l=>match θ r with | some _=>Jp θ l | none=>match jv r (Jp θ l) with | true=>Jp θ l | false=>r::Jp θ l
def NG (ρ:Nat->Nat):List Nat->List (Nat×Option Nat)
 | []=>[]
 | r::l=>(ρ r,some r)::NG ρ l
def isNat:Nat->List Nat->Bool
 | _,[]=>true
 | i,k::l=>decide (k=i)&&isNat (i+1) l
def afB (θ:Nat->Option Nat) (F:Nat) (fr:List Nat) (r:Nat):Nat:=match θ r with | some x=>x | none=>F+ajr r fr
def ajs (E:CE) (args:List (SV σ)) (d:SS σ) (os:List (Nat×SO σ)) (ρ:Nat->Nat) (θ':Nat->Option Nat) (θ:Nat->Option Nat):Bool :=
 ((Tf E.ai&&(isNat 0 (nM E.ai)&&decide ((nM E.ai).length=args.length)))&&(nodupB (aN E.ri)&&nodupB (aN E.ai))) &&
 (((aN E.ri++aN E.ai).all (fun r=>eqN (θ' (ρ r)) (some r))&&((dL E.ri).all (fun r=>jv r (aN E.ri++aN E.ai))&&(dL E.ai).all (fun r=>jv r (aN E.ai)))) &&
  (((aN E.ri++aN E.ai).all (fun r=>gB (jC d) (ρ r)||jv (ρ r) (bg os))&&(bg os).all (fun x=>jv x (GN θ (aN E.ai)))) &&
   (Ba os&&yI os (oZ args))))
def Y8 {β:Type} (E:CE) (args:List (SV σ)) (d:SS σ) (F:Nat) (K:(τ:Type)->(τ->σ)->SV τ->List (Nat×SO τ)->List Nat->Nat->TR β τ) (θ:Nat->Option Nat) (fr:List Nat) (ρ:Nat->Nat) (os:List (Nat×SO σ)):TR β σ :=
 match Jh θ (⟨o7 0 args,os⟩:SS σ) E.ai with
 | none => .fail "contract: state"
 | some pa=>match pa.fz with
   | _::_ => .fail "contract: freezes"
   | []=>match ajs E args d os ρ (lg (NG ρ (aN E.ri++aN E.ai))) θ with
     | false => .fail "contract: names"
     | true=>Az pa.cs (.bnd (fun s=>E.F (pa.f s)) (K (σ×(bQ E.ri).T) Prod.fst (ng ((A8 ρ E.ri Prod.snd).map (·.2))) (bY ρ E.ri Prod.snd++(bY ρ E.ai (fun t=>pa.f t.1)).filter fun y=>jv y.1 ((Jj θ (⟨o7 0 args,os⟩:SS σ) E.ai).map ρ))
        ((aN E.ri++aN E.ai).map ρ) (F+fr.length)))
def Y9 {β:Type} (E:CE) (args:List (SV σ)) (d:SS σ) (F:Nat) (K:(τ:Type)->(τ->σ)->SV τ->List (Nat×SO τ)->List Nat->Nat->TR β τ) (th:List (Nat×Option Nat)) (fr:List Nat):TR β σ :=
 Y8 E args d F K (lg th) fr (afB (lg th) F fr) (sK (jC d) (GN (lg th) (aN E.ai)))
def Za {β:Type} (E:CE) (args:List (SV σ)) (d:SS σ) (F:Nat) (K:(τ:Type)->(τ->σ)->SV τ->List (Nat×SO τ)->List Nat->Nat->TR β τ) (th:List (Nat×Option Nat)):TR β σ :=
 match Jp (lg th) (aN E.ri++aN E.ai) with
 | fr=>Y9 E args d F K th fr
def Zb {β:Type} (E:CE) (args:List (SV σ)) (d:SS σ) (F:Nat) (K:(τ:Type)->(τ->σ)->SV τ->List (Nat×SO τ)->List Nat->Nat->TR β τ):TR β σ :=
 match namesT (⟨o7 0 args,d.hp⟩:SS σ) E.ai [] with
 | th=>Za E args d F K th
def trimS (os us:List (Nat×SO σ)) (n:List Nat):List (Nat×SO σ):=us.filter fun y => !jv y.1 (bg os)||jv y.1 n
end
def ab3 (l:List Oper):Nat:=match (l.filterMap fun o=>o.guard).eraseDups with
 | []=>0
 | [_]=>1
 | _=>2
def Bc:Code->Nat
 | .region _ ops _=>match ab3 ops.toList with | 2=>2 | _=>1
 | .seq a b=>match Bc a with
   | 0=>0
   | 1=>Bc b
   | _=>match Bc b with | 0=>0 | _=>2
 | .cond _ a b=>match Bc a,Bc b with
   | 0,n=>n
   | n,0=>n
   | _,_=>2
 | .exit _=>0
 | .ret=>0
 | .block id a=>match Bc a,exitsN id a with
   | 0,n=>n
   | n,0=>n
   | _,_=>2
 | .loop _=>0
 | .scope a=>Bc a
 | _=>1
where exitsN (id:Nat):Code->Nat
 | .seq a b=>match exitsN id a,exitsN id b with
   | 0,n=>n
   | n,0=>n
   | _,_=>2
 | .cond _ a b=>match exitsN id a,exitsN id b with
   | 0,n=>n
   | n,0=>n
   | _,_=>2
 | .exit i=>match decide (i=id) with | true=>1 | false=>0
 | .block _ a=>exitsN id a
 | .loop a=>exitsN id a
 | .scope a=>exitsN id a
 | _=>0
def rX:Code->Bool
 | .seq a b=>rX a||rX b
 | .cond _ a b=>rX a||rX b
 | .block _ a=>rX a
 | .loop _=>true
 | .scope a=>rX a
 | _=>false
def ab4 (o:Oper):Bool:=match o.op with
 | .call c=>(match c.callee with
   | .value _=>true
   | .invoke _ _=>true
   | _=>false)
 | _=>false
def Bf:Code->Nat
 | .seq a b=>Bf a+Bf b
 | .cond _ a b=>Bf a+Bf b+1
 | .block _ a=>Bf a
 | .loop a=>Bf a+10
 | .scope a=>Bf a
 | .region _ ops _=>ops.size+12*(ops.toList.filter ab4).length
 | _=>0
def Zc (a b:Code):Bool:=(rX a&&decide (0<Bf b))||(decide (2<=Bc a)&&decide (12<=Bf b))
def Eb:Code->Nat
 | .seq a b=>Eb a+Eb b
 | .cond _ a b=>Eb a+Eb b
 | .block _ a=>Eb a
 | .loop a=>Eb a
 | .scope a=>Eb a
 | .ret=>1
 | _=>0
def afC (c:Code):Bool:=decide (2<=Eb c+Bc c)||rX c
inductive WD where
 | ask | go | join (its:List IT)
def adT (x:Option PL) (want:Bool):WD :=
 match x with
 | some (.carry its) => .join its
 | some .unroll => .go
 | some .once => .go
 | some .stop => .go
 | none=>match want with | true => .ask | false => .go
abbrev ajt:Type 1:=(β:Type)->Nat->Nat->Nat->Code->(σ:Type)->SS σ->Nat->((τ:Type)->(τ->σ)->Exit->SS τ->Nat->TR β τ)->TR β σ
section
variable (T:Ty) (q:Nat->Bool) (tab:Nat->Option Func) (con:Nat->Option CE) (plan:Nat->Option PL)
def afD {σ:Type} (rd:Nat->Option (SO σ)):List (SV σ)->Bool
 | []=>false
 | .sl r _ _ _ _::l=>match rd r with
   | some (.data _ _ _ true)=>true
   | _=>afD rd l
 | _::l=>afD rd l
def Tv (con:Nat->Option CE) (f:Nat) (b:Bool):Option CE:=match b with
 | true=>match con (1000000000+f) with
   | some E=>some E
   | none=>con f
 | false=>con f
def alh {σ:Type}:List (SV σ)->Nat
 | .val (.int _ (.ofNat c))::_=>c+2
 | _=>0
def afE (con:Nat->Option CE) (f:Nat) (b:Bool) (c:Nat):Option CE:=match decide (f<1000000000) with
 | false=>none
 | true=>match c with
   | 0=>Tv con f b
   | c+1=>match con (1000000000*(c+1)+f) with
     | some E=>some E
     | none=>Tv con f b
def Zd (rec:ajt) (p:Nat) (β:Type):S9 β:=fun i σ f args d F K =>
 match afE con f (afD (jC d) args) (alh args) with
 | some E=>match Qu E with
   | true=>afA E args d F K
   | false=>Zb E args d F K
 | none=>match tab f with
   | none => .bad [f] "call of an unknown function"
   | some fn=>match fn.body with
     | none => .bad [f] "call without a body"
     | some c=>match sK (jC d) (zy (jC d) 1000 (oZ args) []) with
       | os=>match decide (args.length<=fn.ntmps)&&(Ba os&&yI os (oZ args)) with
         | false => .bad [f] "call: arguments"
         | true=>match adT (plan (p*512+16+i)) (afC c) with
           | .ask=>vV (p*512+16+i) (2+8*f) (⟨[],os⟩:SS σ) (⟨[],os⟩:SS σ)
           | .join its=>match Ba (headD (⟨[],os⟩:SS σ) its).hp&&((headD (⟨[],os⟩:SS σ) its).hp.all fun y=>gB (jC d) y.1||jv y.1 (bg os)) with
             | false=>vV (p*512+16+i) (4+8*f) (⟨[],os⟩:SS σ) (⟨[],os⟩:SS σ)
             | true => .join (rec ((bQ its).T ⊕ β) f fn.ntmps (p*512+16+i) c σ ⟨o7 0 args,os⟩ F (fun τ g e d' F'=>match MJ e with
                | false => .fail "call: exit"
                | true=>match Ea T d' fn.results.toList with
                  | none => .bad [f] "call: results"
                  | some xs=>CQ (p*512+16+i) (2+8*f) (⟨[],os⟩:SS σ) its (⟨o7 0 xs,d'.hp⟩:SS τ)))
               (K (σ×(bQ its).T) Prod.fst (Tt fn.results.size (headD (⟨[],os⟩:SS σ) its)) (gX its Prod.snd) (bg (headD (⟨[],os⟩:SS σ) its).hp) F)
           | .go=>rec β f fn.ntmps (p*512+16+i) c σ ⟨o7 0 args,os⟩ F (fun τ g e d' F'=>match MJ e with
             | false => .fail "call: exit"
             | true=>match Ea T d' fn.results.toList with
               | none => .bad [f] "call: results"
               | some xs=>match sK (jC d') (zy (jC d') 1000 (oZ xs++bg os) []) with
                 | us=>match (Ba us&&yI us (oZ xs))&&(yI us (bg os)&&us.all fun y=>gB (jC d) y.1||jv y.1 (bg os)) with
                   | false => .bad [f] "call: back"
                   | true=>K τ g (ng xs) (trimS (iV g os) us (bg (d'.hp.take (d'.hp.length-os.length)))) (bg us) F')
variable (eg:Nat->Bool)
def sx:Nat->ajt
 | 0,_,_,_,_,_,_,_,_,_ => .fail "fuel"
 | n+1,β,f,N,p,c,σ,d,F,K=>match c with
   | .skip=>K σ (fun s=>s) .normal d F
   | .label _=>K σ (fun s=>s) .normal d F
   | .exit id=>K σ (fun s=>s) (.exit id) d F
   | .ret=>K σ (fun s=>s) .ret d F
   | .region _ ops draw=>match !draw||Fp ops with
     | true=>J9 eg (Zd T tab con plan (fun β f N p c σ d F K=>sx n β f N p c σ d F K) p β) T q N F ops draw (if draw then qB ops ops.size else []) (U9 0 ops.toList) σ d [] (F+ops.size) (fun τ g d' F'=>K τ g .normal d' F')
     | false => .fail "region"
   | .seq a b=>match adT (plan (p*512+1)) (Zc a b) with
     | .ask=>vV (p*512+1) (1+8*f) d d
     | .join its => .join (sx n ((bQ its).T ⊕ β) f N (p*512) a σ d F (fun τ g e d' F'=>match e with
        | .normal=>CQ (p*512+1) (1+8*f) d its d'
        | e => .out (K τ g e d' F')))
       (sx n β f N (p*512+1) b (σ×(bQ its).T) (headD d its) F (fun τ g e d' F'=>K τ (fun t=>(g t).1) e d' F'))
     | .go=>sx n β f N (p*512) a σ d F (fun τ g e d' F'=>match e with
        | .normal=>sx n β f N (p*512+1) b τ d' F' (fun τ' g' e d'' F''=>K τ' (fun t=>g (g' t)) e d'' F'')
        | e=>K τ g e d' F')
   | .cond x a b=>match tY d x with
     | .val (.bool t)=>match t with
       | true=>sx n β f N (p*512+2) a σ d F K
       | false=>sx n β f N (p*512+3) b σ d F K
     | .bool c=>match x with
       | .tmp t => .iff c (sx n β f N (p*512+2) a σ (zn d t true) F K) (sx n β f N (p*512+3) b σ (zn d t false) F K)
       | _ => .iff c (sx n β f N (p*512+2) a σ d F K) (sx n β f N (p*512+3) b σ d F K)
     | _ => .bad [p] "cond"
   | .block id a=>sx n β f N (p*512+4) a σ d F (fun τ g e d' F'=>match e with
     | .exit i=>match decide (i=id) with
       | true=>K τ g .normal d' F'
       | false=>K τ g (.exit i) d' F'
     | e=>K τ g e d' F')
   | .scope a=>sx n β f N (p*512+5) a σ d F (fun τ g e d' F'=>match e with
     | .goto _ => .fail "goto"
     | e=>K τ g e d' F')
   | .loop a=>match plan (p*512+6) with
     | some (.carry its)=>match Gy d its d with
       | none=>vV (p*512+6) (8*f) d d
       | some x=>Az x.cs (.loop x.f (sx n ((bQ its).T ⊕ β) f N (p*512+6) a (σ×(bQ its).T) (headD d its) F (fun τ g e d' F'=>match e with
         | .normal=>CQ (p*512+6) (8*f) d its d'
         | e => .out (K τ (fun t=>(g t).1) e d' F'))))
     | some .unroll=>sx n β f N (p*512+6) a σ d F (fun τ g e d' F'=>match e with
        | .normal=>sx n β f N p (.loop a) τ d' F' (fun τ' g' e d'' F''=>K τ' (fun t=>g (g' t)) e d'' F'')
        | e=>K τ g e d' F')
     | some .once=>sx n β f N (p*512+6) a σ d F (fun τ g e d' F'=>match e with
        | .normal=>match plan ((p*512+7)*512+6) with
          | some (.carry _) => .fail "rounds"
          | _=>sx n β f N (p*512+7) (.loop a) τ d' F' (fun τ' g' e d'' F''=>K τ' (fun t=>g (g' t)) e d'' F'')
        | e=>K τ g e d' F')
     | some .stop => .fail "rounds"
     | none=>vV (p*512+6) (8*f) d d
   | _ => .bad [p] "code"
def aju (fn:Func) (ri:List IT):(τ:Type)->Exit->SS τ->TR (bQ ri).T τ:=fun τ e d'=>match MJ e with
 | false => .fail "exit"
 | true=>match Ea T d' fn.results.toList with
   | none => .fail "results"
   | some xs=>match ni (jC d') ri xs with
     | some p=>Az p.cs (.ret p.f)
     | none => .note ⟨0,3,viT (jC d') (o7 0 xs),[],[],[]⟩
def Ze (n f:Nat) (fn:Func) (ai ri:List IT):TR (bQ ri).T (bQ ai).T:=match fn.body with
 | some c=>sx T q tab con plan eg n (bQ ri).T f fn.ntmps 1 c (bQ ai).T ⟨lX ai (fun s=>s),[]⟩ 0 (fun τ _ e d' _=>aju T fn ri τ e d')
 | none => .fail "no body"
def ajv (fn:Func) (ai ri:List IT):(τ:Type)->Exit->SS τ->TR (bQ ri).T τ:=fun τ e d'=>match MJ e with
 | false => .fail "exit"
 | true=>match Ea T d' fn.results.toList with
   | none => .fail "results"
   | some xs=>match Gy (⟨[],gX ai (fun s=>s)⟩:SS (bQ ai).T) ri (⟨o7 0 xs,d'.hp⟩:SS τ) with
     | some p=>Az p.cs (.ret p.f)
     | none=>match ab2 (⟨o7 0 xs,d'.hp⟩:SS τ) ri with
       | true => .fail "cut"
       | false=>vV 0 2 (⟨[],gX ai (fun s=>s)⟩:SS (bQ ai).T) (⟨o7 0 xs,d'.hp⟩:SS τ)
def adU (n f:Nat) (fn:Func) (ai ri:List IT):TR (bQ ri).T (bQ ai).T:=match fn.body with
 | some c=>sx T q tab con plan eg n (bQ ri).T f fn.ntmps 1 c (bQ ai).T ⟨lX ai (fun s=>s),gX ai (fun s=>s)⟩ 0 (fun τ _ e d' _=>ajv T fn ai ri τ e d')
 | none => .fail "no body"
end
theorem ab5 {hp:Nat->Option AO} {us us':List (Nat×AO)} (h:∀r,look r us'=look r us\/(look r us'=none/\∀o,look r us=some o->hp r=some o)):dH hp us=dH hp us':=by
 funext r;unfold dH;rcases h r with e | ⟨e1,e2⟩
 ·rw [e]
 ·rw [e1];cases hl:look r us with
  | none=>rfl
  | some o=>exact (e2 o hl).symm
theorem CU {P:Program} {GL:Nat->Option (List DV)} {f:FuncId} {args:List AV} {rds:List Nat} {v:AV} {us us':List (Nat×AO)} {hp:Nat->Option AO} (h:Does P GL f args rds v us hp)
 (hu:∀r,look r us'=look r us\/(look r us'=none/\∀o,look r us=some o->r∈rds/\hp r=some o)):Does P GL f args rds v us' hp:=fun E w vs hrd hw hs hrel=>by
 refine (h E w vs hrd hw hs hrel).mono ?_;rintro e w' ⟨u,E',h1,h2,h3⟩;refine ⟨u,E',h1,⟨h2.h,?_,h2.ext,h2.sim,h2.fr⟩,h3⟩;rw [h2.hp];refine ab5 fun r => ?_;rcases hu r with e | ⟨e1,e2⟩
 ·exact .inl e
 ·exact .inr ⟨e1,fun o ho=>by rw [hrd r (e2 o ho).1];exact (e2 o ho).2⟩
def jg (xs:List AV):AV:=match xs with | [x]=>x | xs => .tup xs
theorem lY {σ:Type} (s:σ) (xs:List (SV σ)):(ng xs).c s=jg (cL s xs):=by
 cases xs with
 | nil=>show (SV.tup []).c s=_;rw [SV.c];rfl
 | cons x xs=>cases xs with
   | nil=>rfl
   | cons y ys=>show (SV.tup (x::y::ys)).c s=_;rw [SV.c];rfl
def Zf (P:Program) (f:Nat) (E:CE):Prop :=
 qA P f=true/\match E with
 | ⟨ai,[.tmp _ false [.own _ e u]],G⟩=>∀a (x:List u.T),G a=some x->fZ P nJ f ((jJ ai a).map (·.2)) [] (.sl 1 0 x.length none) [(1,.data e (eH u) (aS u x) true)]
 | E=>∀a r,E.F a=some r->fZ P nJ f ((jJ E.ai a).map (·.2)) [] (jg ((jJ E.ri r).map (·.2))) []
def ab6 (P:Program) (f:Nat) (E:CE):Prop:=qA P f=true/\∀a r,E.F a=some r->fZ P nJ f ((jJ E.ai a).map (·.2)) (lM E.ai a) (jg ((jJ E.ri r).map (·.2))) (lM E.ri r++lM E.ai a)
def aB (P:Program) (f:Nat) (E:CE):Prop:=match Qu E with
 | true=>Zf P f E
 | false=>ab6 P f E
theorem Zf.mk {P:Program} {f:Nat} {ai ri:List IT} {G:(bQ ai).T->Option (bQ ri).T} (h1:qA P f=true) (hd:gY ri=true) (h:∀a r,G a=some r->fZ P nJ f ((jJ ai a).map (·.2)) [] (jg ((jJ ri r).map (·.2))) []):Zf P f ⟨ai,ri,G⟩:=by
 refine ⟨h1,?_⟩;split
 ·rename_i heq;cases heq;simp [gY,Ew] at hd
 ·exact h
theorem aB.mk {P:Program} {f:Nat} {ai ri:List IT} {G:(bQ ai).T->Option (bQ ri).T} (h1:qA P f=true) (ha:gY ai=true) (hd:gY ri=true) (h:∀a r,G a=some r->fZ P nJ f ((jJ ai a).map (·.2)) [] (jg ((jJ ri r).map (·.2))) []):aB P f ⟨ai,ri,G⟩:=by
 have e:Qu ⟨ai,ri,G⟩=true:=by unfold Qu;simp only [ha,hd,Bool.true_or,Bool.and_self]
 unfold aB;rw [e];exact Zf.mk h1 hd h
theorem Em.mono {hp:Nat->Option AO} {rds rds':List Nat} (hs:∀r∈rds,r∈rds'):∀ {F:List (Nat×AO)},Em rds hp F->Em rds' hp F
 | [],_=>trivial
 | (r,o)::l,h=>⟨hs r h.1,h.2.1,Em.mono hs h.2.2⟩
section
variable {σ:Type} {s:σ} {rd:Nat->Option (SO σ)}
theorem afF (l:List (Nat×SV σ)):cL s (l.map (·.2))=(cT s l).map (·.2):=by
 induction l with
 | nil=>rfl
 | cons x l ih=>obtain ⟨t,v⟩:=x;rw [List.map_cons,cL,ih,cT,List.map_cons]
theorem Tz (its:List IT) (f:σ->(bQ its).T):(Tq its f).c s=jg ((jJ its (f s)).map (·.2)):=by
 unfold Tq;rw [lY,afF,qJ]
def vg (rd:Nat->Option (SO σ)) (fz:List (Nat×SO σ)):Prop:=∀x∈fz,∃e u f wr,rd x.1=some (.data e u f wr)/\x.2 = .data e u f false
theorem vg.nil:vg rd []:=fun x hx=>by cases hx
theorem vg.append {a b:List (Nat×SO σ)} (h:vg rd a) (k:vg rd b):vg rd (a++b):=fun x hx=>by
 rcases List.mem_append.1 hx with e | e
 ·exact h x e
 ·exact k x e
theorem afG {t:U} {v:SV σ} {p:PK σ (List t.T)} (hp:pkL rd t v=some p):vg rd p.fz:=by
 unfold pkL at hp;split at hp
 ·split at hp
  ·cases hp;exact vg.nil
  ·cases hp
 ·cases hp;exact vg.nil
 ·rename_i r z o n cap;split at hp
  ·rename_i e u f wr hr;split at hp
   ·cases hp;intro x hx;rw [List.mem_singleton] at hx;subst hx;exact ⟨e,u,f,wr,hr,rfl⟩
   ·cases hp
  ·cases hp
 ·cases hp
theorem afH {t:U} {v:SV σ} {p:PK σ (List t.T)} (hp:pkL rd t v=some p) (hc:allT s p.cs) {F:Nat->Option AO} (hF:∀r e u f wr,rd r=some (.data e u f wr)->r∈p.fz.map (·.1)->F r=some (.data e (eH u) (aS u (f s)) false)) :
 JI F (.d (.dl (aS t (p.f s)) (p.f s).length none)) (v.c s):=by
 unfold pkL at hp;split at hp
 ·split at hp
  ·rename_i hk _;subst hk;cases hp;rw [SV.c,JI];exact .inl rfl
  ·cases hp
 ·cases hp;rw [SV.c,JI];exact .inr rfl
 ·rename_i r z o n cap;split at hp
  ·rename_i e u f wr hr;split at hp
   ·rename_i hk _ hz;subst hk;cases hp;have hz:=of_decide_eq_true hz;have h1:=uU hc.1;rw [SV.c,JI];unfold TdD;simp only [hF r e u f wr hr (by simp)];refine .inl ?_;show DV.dl (aS u (rowP o n f s)) (rowP o n f s).length none=_;rw [rV,hz,iO,fJ,List.length_take,List.length_drop,Nat.min_eq_left (by omega)]
   ·cases hp
  ·cases hp
 ·cases hp
theorem Zg {F:Nat->Option AO} {x:DV} {y:AV} (h:y = .d x):JI F (.d x) y:=by subst h;rw [JI];exact .inl rfl
theorem afI:∀(c:CS) (v:SV σ) (p:PK σ (uC c).T),Ew [c]=true->Et rd c v=some p->allT s p.cs ->
 vg rd p.fz/\∀F:Nat->Option AO,(∀r e u f wr,rd r=some (.data e u f wr)->r∈p.fz.map (·.1)->F r=some (.data e (eH u) (aS u (f s)) false))->JI F (aC c (p.f s)) (v.c s)
 | .dat u,v,p,hd,hp,hc=>by
   simp only [Et] at hp;split at hp
   ·rename_i hs;cases u with
    | int k =>
      simp only [Ep] at hp;split at hp
      ·rename_i k' f hf;split at hp
       ·rename_i hk _;obtain ⟨hk⟩:=hk;subst hk;cases hp;exact ⟨vg.nil,fun F _=>Zg (kJ hf s)⟩
       ·cases hp
      ·cases hp
    | bool =>
      simp only [Ep] at hp;split at hp
      ·rename_i f hf;cases hp;exact ⟨vg.nil,fun F _=>Zg (xq hf s)⟩
      ·cases hp
    | str =>
      simp only [Ep] at hp;split at hp
      ·rename_i f hf;cases hp;exact ⟨vg.nil,fun F _=>Zg (rQ hf s)⟩
      ·cases hp
    | list t =>
      simp only [Ep] at hp;exact ⟨afG hp,fun F hF=>afH hp hc hF⟩
    | pair a b=>cases hs
    | unit=>cases hs
   ·cases hp
 | .own r e u,v,p,hd,hp,hc=>by cases hd
 | .nil,v,p,hd,hp,hc=>by cases hd
 | .np,v,p,hd,hp,hc=>by cases hd
 | .ki _ _,v,p,hd,hp,hc=>by cases hd
 | .kb _,v,p,hd,hp,hc=>by cases hd
 | .pt r off,v,p,hd,hp,hc=>by cases hd
 | .cl f caps,v,p,hd,hp,hc=>by cases hd
theorem KD:∀(cs:List CS) (vs:List (SV σ)) (p:PK σ (iw cs).T),Ew cs=true->Eu rd cs vs=some p->allT s p.cs ->
 vg rd p.fz/\∀F:Nat->Option AO,(∀r e u f wr,rd r=some (.data e u f wr)->r∈p.fz.map (·.1)->F r=some (.data e (eH u) (aS u (f s)) false))->Hq F (mM cs (p.f s)) (cL s vs)
 | [],[],p,hd,hp,hc=>by
   simp only [Eu] at hp;cases hp;refine ⟨vg.nil,fun F _ => ?_⟩;rw [cL,show mM [] ()=[] from rfl,Hq]
 | c::cs,v::vs,p,hd,hp,hc=>by
   rw [Eu] at hp;split at hp
   ·rename_i x y hx hy;cases hp;rw [bK] at hc;have e1:iG (uC c) (iw cs) (sO (uC c) (iw cs) (x.f s) (y.f s))=x.f s:=jd _ _ _ _;have e2:jw (uC c) (iw cs) (sO (uC c) (iw cs) (x.f s) (y.f s))=y.f s:=jD _ _ _ _;have hd1:Ew [c]=true:=by cases c<;>first | rfl | cases hd
    have hd2:Ew cs=true:=by cases c<;>first | exact hd | cases hd
    obtain ⟨a1,a2⟩:=afI c v x hd1 hx hc.1;obtain ⟨b1,b2⟩:=KD cs vs y hd2 hy hc.2;refine ⟨a1.append b1,fun F hF => ?_⟩;rw [cL];simp only [mM,e1,e2];rw [Hq];exact ⟨_,_,rfl,a2 F fun r e u f wr hr hm=>hF r e u f wr hr (by rw [List.map_append];exact List.mem_append_left _ hm),b2 F fun r e u f wr hr hm=>hF r e u f wr hr (by rw [List.map_append];exact List.mem_append_right _ hm)⟩
   ·cases hp
 | [],_::_,p,_,hp,_=>by cases hp
 | _::_,[],p,_,hp,_=>by cases hp
theorem uf:∀(ai:List IT) (vs:List (SV σ)) (p:PK σ (bQ ai).T),gY ai=true->ni rd ai vs=some p->allT s p.cs ->
 vg rd p.fz/\∀F:Nat->Option AO,(∀r e u f wr,rd r=some (.data e u f wr)->r∈p.fz.map (·.1)->F r=some (.data e (eH u) (aS u (f s)) false))->Hq F ((jJ ai (p.f s)).map (·.2)) (cL s vs)
 | [],[],p,hd,hp,hc=>by
   simp only [ni] at hp;cases hp;refine ⟨vg.nil,fun F _ => ?_⟩;rw [cL];show Hq F [] [];rw [Hq]
 | .tmp t false cs::l,v::vs,p,hd,hp,hc=>by
   rw [ni] at hp;rw [gY,Bool.and_eq_true] at hd;split at hp
   ·rename_i x y hx hy;cases hp;rw [bK] at hc;have e1:iG (uI (.tmp t false cs)) (bQ l) (sO (iw cs) (bQ l) (x.f s) (y.f s))=x.f s:=jd _ _ _ _;have e2:jw (uI (.tmp t false cs)) (bQ l) (sO (iw cs) (bQ l) (x.f s) (y.f s))=y.f s:=jD _ _ _ _;obtain ⟨a1,a2⟩:=KD cs [v] x hd.1 hx hc.1;obtain ⟨b1,b2⟩:=uf l vs y hd.2 hy hc.2;refine ⟨a1.append b1,fun F hF => ?_⟩;have hA:=a2 F fun r e u f wr hr hm=>hF r e u f wr hr (by rw [List.map_append];exact List.mem_append_left _ hm);have hB:=b2 F fun r e u f wr hr hm=>hF r e u f wr hr (by rw [List.map_append];exact List.mem_append_right _ hm);rw [cL,cL] at hA;rw [cL];simp only [jJ,e1,e2,List.map_append];show Hq F (lC (mM cs (x.f s))::(jJ l (y.f s)).map (·.2)) _;rw [Hq];refine ⟨_,_,rfl,?_,hB⟩;generalize mM cs (x.f s)=ys at hA ⊢;cases ys with
    | nil=>rw [Hq] at hA;cases hA
    | cons y ys =>
      rw [Hq] at hA;obtain ⟨x,xs,h1,h2,h3⟩:=hA;cases h1;cases ys with
      | nil=>exact h2
      | cons z zs=>rw [Hq] at h3;obtain ⟨_,_,h4,_⟩:=h3;cases h4
   ·cases hp
 | .tmp t true cs::l,v::vs,p,hd,hp,hc=>by
   rw [gY,Bool.and_eq_true] at hd;cases v with
   | agg ws =>
     simp only [ni] at hp;split at hp
     ·rename_i x y hx hy;cases hp;rw [bK] at hc;have e1:iG (uI (.tmp t true cs)) (bQ l) (sO (iw cs) (bQ l) (x.f s) (y.f s))=x.f s:=jd _ _ _ _;have e2:jw (uI (.tmp t true cs)) (bQ l) (sO (iw cs) (bQ l) (x.f s) (y.f s))=y.f s:=jD _ _ _ _;obtain ⟨a1,a2⟩:=KD cs ws x hd.1 hx hc.1;obtain ⟨b1,b2⟩:=uf l vs y hd.2 hy hc.2;refine ⟨a1.append b1,fun F hF => ?_⟩;have hA:=a2 F fun r e u f wr hr hm=>hF r e u f wr hr (by rw [List.map_append];exact List.mem_append_left _ hm);have hB:=b2 F fun r e u f wr hr hm=>hF r e u f wr hr (by rw [List.map_append];exact List.mem_append_right _ hm);rw [cL];simp only [jJ,e1,e2,List.map_append];show Hq F (.agg (mM cs (x.f s))::(jJ l (y.f s)).map (·.2)) _;rw [Hq];refine ⟨_,_,rfl,?_,hB⟩;rw [SV.c,JI];exact ⟨_,rfl,hA⟩
     ·cases hp
   | _=>simp only [ni] at hp;cases hp
 | [],_::_,p,_,hp,_=>by cases hp
 | .tmp _ true _::_,[],p,_,hp,_=>by cases hp
 | .tmp _ false _::_,[],p,_,hp,_=>by cases hp
 | .mix _ _::_,_,p,hd,_,_=>by cases hd
 | .row _ _ _::_,_,p,hd,_,_=>by cases hd
 | .arr _ _::_,_,p,hd,_,_=>by cases hd
 | .mp _::_,_,p,hd,_,_=>by cases hd
 | .drop _::_,_,p,hd,_,_=>by cases hd
 | .dead _::_,_,p,hd,_,_=>by cases hd
theorem NH {N:Nat} {d:SS σ} {fz:List (Nat×SO σ)} (h:vg (jC d) fz):∀(l:List (Nat×SO σ)),(∀x∈l,x∈fz)->Em (bg fz) (d.c s N).rd (cO s l)
 | [],_=>trivial
 | (r,o)::l,hl=>by
   obtain ⟨e,u,f,wr,h1,h2⟩:=h (r,o) (hl _ List.mem_cons_self);rw [cO,Em];refine ⟨?_,⟨e,eH u,aS u (f s),wr,?_,?_⟩,NH h l fun x hx=>hl x (List.mem_cons_of_mem _ hx)⟩
   ·have:∀l:List (Nat×SO σ),(r,o)∈l->r∈bg l:=by
     intro l
     induction l with
     | nil=>intro h;cases h
     | cons x l ih =>
       intro h;obtain ⟨k,y⟩:=x;rw [bg];rcases List.mem_cons.1 h with e | e
       ·cases e;exact List.mem_cons_self
       ·exact List.mem_cons_of_mem _ (ih e)
    exact this fz (hl _ List.mem_cons_self)
   ·rw [<-jX];simp only [gu];simp only at h1;rw [h1];rfl
   ·simp only at h2;rw [h2];rfl
theorem KE {fz:List (Nat×SO σ)} (h:vg rd fz) {r e:Nat} {u:U} {f:σ->List u.T} {wr:Bool} (hr:rd r=some (.data e u f wr)) (hm:r∈fz.map (·.1)):aK (cO s fz) r=some (.data e (eH u) (aS u (f s)) false):=by
 unfold aK;rw [jI]
 induction fz with
 | nil=>cases hm
 | cons x fz ih =>
   obtain ⟨k,o⟩:=x;rw [look];by_cases hk:k=r
   ·subst hk;rw [if_pos rfl];obtain ⟨e',u',f',wr',h1,h2⟩:=h (k,o) List.mem_cons_self;rw [hr] at h1;cases h1;simp only at h2;rw [h2];rfl
   ·rw [if_neg hk];rw [List.map_cons] at hm;rcases List.mem_cons.1 hm with e1 | e1
    ·exact (hk e1.symm).elim
    ·exact ih (fun x hx=>h x (List.mem_cons_of_mem _ hx)) e1
theorem CV:∀(cs:List CS) (x:(iw cs).T),Ew cs=true->AV.refs.refsL (mM cs x)=[]
 | [],x,_=>rfl
 | .dat u::cs,x,h=>by
   rw [mM,AV.refs.refsL,CV cs _ h,List.append_nil];cases u<;>simp [aC,dG,bJ,AV.refs]
theorem Qv {l:List AV} (h:AV.refs.refsL l=[]):(lC l).refs=[]:=by
 cases l with
 | nil=>simp [lC,AV.refs]
 | cons x l =>
   rw [AV.refs.refsL,List.append_eq_nil_iff] at h;cases l with
   | nil=>exact h.1
   | cons y l=>simp [lC,AV.refs]
theorem o8:∀(ai:List IT) (x:(bQ ai).T),gY ai=true->AV.refs.refsL ((jJ ai x).map (·.2))=[]
 | [],x,_=>rfl
 | .tmp t true cs::l,x,h=>by
   rw [gY,Bool.and_eq_true] at h;show AV.refs.refsL (.agg (mM cs _)::(jJ l _).map (·.2))=[]
   rw [AV.refs.refsL,o8 l _ h.2,List.append_nil,AV.refs];exact CV cs _ h.1
 | .tmp t false cs::l,x,h=>by
   rw [gY,Bool.and_eq_true] at h;show AV.refs.refsL (lC (mM cs _)::(jJ l _).map (·.2))=[]
   rw [AV.refs.refsL,o8 l _ h.2,List.append_nil];exact Qv (CV cs _ h.1)
theorem qK:∀(cs:List CS) (x:(iw cs).T),Jm cs=true->nN (mM cs x)=true
 | [],x,_=>rfl
 | .dat (.int k)::cs,x,h=>by rw [mM,nN,qK cs _ h];rfl
 | .dat .bool::cs,x,h=>by rw [mM,nN,qK cs _ h];rfl
 | .dat .str::cs,x,h=>by rw [mM,nN,qK cs _ h];rfl
theorem Qw {l:List AV} (h:nN l=true) (hn:l.length=1):(lC l).flat=true:=by
 cases l with
 | nil=>cases hn
 | cons x l =>
   rw [nN,Bool.and_eq_true] at h;cases l with
   | nil=>exact h.1
   | cons y l=>simp at hn
theorem TA:∀(cs:List CS) (x:(iw cs).T),(mM cs x).length=cs.length
 | [],_=>rfl
 | c::cs,x=>by rw [mM,List.length_cons,List.length_cons,TA cs]
theorem zA:∀(ri:List IT) (x:(bQ ri).T),Jo ri=true->nN ((jJ ri x).map (·.2))=true
 | [],x,_=>rfl
 | .tmp t true cs::l,x,h=>by
   rw [Jo] at h;simp only [Bool.and_eq_true] at h;show nN (.agg (mM cs _)::(jJ l _).map (·.2))=true;rw [nN,zA l _ h.2,Bool.and_true,AV.flat];exact qK cs _ h.1
 | .tmp t false cs::l,x,h=>by
   rw [Jo] at h;simp only [Bool.and_eq_true,decide_eq_true_eq] at h;show nN (lC (mM cs _)::(jJ l _).map (·.2))=true;rw [nN,zA l _ h.2,Bool.and_true];exact Qw (qK cs _ h.1.1) ((TA cs _).trans h.1.2)
theorem Zh {l:List AV} (h:nN l=true):(jg l).flat=true:=by
 cases l with
 | nil=>exact h
 | cons x l=>cases l with
   | nil=>rw [nN,Bool.and_eq_true] at h;exact h.1
   | cons y l=>exact h
end
theorem TB {β σ α:Type} {f:σ->Option α} {r:TR β (σ×α)} {s:σ} {b:β} (h:(TR.bnd f r).run s=some b):∃a,f s=some a/\r.run (s,a)=some b:=by
 rw [TR.run] at h;cases hf:f s with
 | none=>rw [hf] at h;cases h
 | some a=>rw [hf] at h;exact ⟨a,rfl,h⟩
theorem ab7 {P:Program} {σ:Type} {β:Type} {N f:Nat} {E:CE} (hE:Zf P f E) {args:List (SV σ)} {d:SS σ} {F:Nat} {K:(τ:Type)->(τ->σ)->SV τ->List (Nat×SO τ)->List Nat->Nat->TR β τ} {s:σ} {b:β} (h:(afA E args d F K).run s=some b) :
 ∃(τ:Type) (g:τ->σ) (s':τ) (v:SV τ) (us:List (Nat×SO τ)) (rds:List Nat) (F':Nat),g s'=s/\qA P f=true/\Does P nJ f (cL s args) rds (v.c s') (cO s' us) (d.c s N).rd/\(K τ g v us rds F').run s'=some b:=by
 unfold afA at h;split at h
 ·rename_i ai _ _ e u G;split at h
  ·rw [TR.run] at h;cases h
  ·rename_i pa hpa;split at h
   ·rw [TR.run] at h;cases h
   ·rename_i hd;rw [Bool.and_eq_true] at hd;obtain ⟨hd,hn⟩:=hd;obtain ⟨h1,h2⟩:=oJ h;obtain ⟨x,hf,h2⟩:=TB (α:=List u.T) h2;obtain ⟨a1,a2⟩:=uf (s:=s) ai args pa hd hpa h1;have hF:(d.c s N).rd F=none:=by rw [<-jX s N d];exact Option.not_isSome_iff_eq_none.1 (qH s hn)
    have hFz:look F (cO s pa.fz)=none:=by
     cases hl:look F (cO s pa.fz) with
     | none=>rfl
     | some o =>
       obtain ⟨k1,e1,s1,c1,w1,g1,g2⟩:=Pv (NH (N:=N) (s:=s) a1 pa.fz fun x hx=>hx) _ _ (aU hl);rw [hF] at g1;cases g1
    refine ⟨_,Prod.fst,(s,x),_,_,_,F+1,rfl,hE.1,?_,h2⟩;have e1:cO (s,x) (((F,.data e u (fun t=>t.2) true)::iV Prod.fst pa.fz:List (Nat×SO (σ×List u.T))))=[(F,.data e (eH u) (aS u x) true)]++cO s pa.fz:=by
     rw [cO,oH,SO.c];rfl
    have e2:(SV.sl F (eH u) none (fun t=>t.2.length) .unk:SV (σ×List u.T)).c (s,x) = .sl F 0 x.length none:=by
     rw [SV.c];simp [sG,oW]
    rw [e1,e2];refine DN (args':=(jJ ai (pa.f s)).map (·.2)) (F:=cO s pa.fz) ?_ (Em.mono (fun r hr=>List.mem_cons_of_mem _ hr) (NH a1 pa.fz fun x hx=>hx)) (a2 _ fun r e u f wr hr hm=>KE a1 hr hm);exact Yi (Vf (r:=F) (hE.2 _ _ hf) (o8 _ _ hd) (by unfold dH;rw [hFz];exact hF)) (by simp)
 ·rename_i hno;have hE2:∀a r,E.F a=some r->fZ P nJ f ((jJ E.ai a).map (·.2)) [] (jg ((jJ E.ri r).map (·.2))) []:=by
   have:=hE.2;split at this
   ·exact (hno _ _ _ _ _ _ rfl).elim
   ·exact this
  split at h
  ·rw [TR.run] at h;cases h
  ·rename_i pa hpa;split at h
   ·rw [TR.run] at h;cases h
   ·rename_i hd;rw [Bool.and_eq_true] at hd;have key:∀ {t:TR β (σ×(bQ E.ri).T)},(Az pa.cs (.bnd (fun s=>E.F (pa.f s)) t)).run s=some b->allT s pa.cs/\∃r,E.F (pa.f s)=some r/\t.run (s,r)=some b:=fun {t} ht=>by
     obtain ⟨h1,h2⟩:=oJ ht;rw [TR.run] at h2;cases hf:E.F (pa.f s) with
     | none=>rw [hf] at h2;cases h2
     | some r=>rw [hf] at h2;exact ⟨h1,r,rfl,h2⟩
    split at h
    ·rename_i hfl;obtain ⟨h1,r,h2,h3⟩:=key h;obtain ⟨a1,a2⟩:=uf (s:=s) E.ai args pa hd.1 hpa h1;refine ⟨_,Prod.fst,(s,r),_,_,_,F,rfl,hE.1,?_,h3⟩;rw [Tz];exact UZ (F:=cO s pa.fz) (hE2 _ _ h2) (Zh (zA _ _ hfl)) (NH a1 pa.fz fun x hx=>hx) (a2 _ fun r e u f wr hr hm=>KE a1 hr hm) (o8 _ _ hd.1)
    ·obtain ⟨h1,r,h2,h3⟩:=key h;obtain ⟨a1,a2⟩:=uf (s:=s) E.ai args pa hd.1 hpa h1;refine ⟨_,Prod.fst,(s,r),_,_,_,F,rfl,hE.1,?_,h3⟩;rw [Tz,oH];refine DN (us:=[]) (F:=cO s pa.fz) ?_ (NH a1 pa.fz fun x hx=>hx) (a2 _ fun r e u f wr hr hm=>KE a1 hr hm);refine qg (hE2 _ _ h2) (fun p hp=>(by cases hp)) rfl ?_ (fun p hp=>(by cases hp)) rfl;rw [o8 _ _ hd.1];rfl
section
variable {σ τ:Type}
theorem kP {l:List (Nat×SO σ)} {r:Nat}:r∈bg l↔∃o,(r,o)∈l:=by
 induction l with
 | nil=>simp [bg]
 | cons x l ih =>
   obtain ⟨k,o⟩:=x;rw [bg,List.mem_cons,ih];constructor
   ·rintro (rfl | ⟨o',h⟩)
    ·exact ⟨o,List.mem_cons_self⟩
    ·exact ⟨o',List.mem_cons_of_mem _ h⟩
   ·rintro ⟨o',h⟩;rcases List.mem_cons.1 h with e | e
    ·cases e;exact .inl rfl
    ·exact .inr ⟨o',e⟩
theorem qL {l:List (Nat×SO σ)} {s:σ} {r:Nat} (h:r∈bg l):(look r (cO s l)).isSome=true:=by
 rw [jI];obtain ⟨o,ho⟩:=kP.1 h;obtain ⟨w,hw⟩:=iW ho;rw [hw];rfl
theorem yJ {os:List (Nat×SO σ)} {rs:List Nat} {s:σ} (h:yI os rs=true):rM (cO s os) rs=true:=by
 unfold rM;refine List.all_eq_true.2 fun r hr => ?_;exact qL (fK.1 (List.all_eq_true.1 h r hr))
theorem og {l:List (Nat×SO σ)} {s:σ} {x:Nat×AO} (h:x∈cO s l):∃o,(x.1,o)∈l/\x.2=o.c s:=by
 induction l with
 | nil=>cases h
 | cons y l ih =>
   obtain ⟨k,o⟩:=y;rw [cO] at h;rcases List.mem_cons.1 h with e | e
   ·subst e;exact ⟨o,List.mem_cons_self,rfl⟩
   ·obtain ⟨o',h1,h2⟩:=ih e;exact ⟨o',List.mem_cons_of_mem _ h1,h2⟩
theorem yK {os:List (Nat×SO σ)} {s:σ} (h:Ba os=true):((cO s os).all fun p=>rM (cO s os) (wV p.2))=true:=by
 refine List.all_eq_true.2 fun x hx => ?_;obtain ⟨o,h1,h2⟩:=og hx;rw [h2,Ku];exact yJ (List.all_eq_true.1 h _ h1)
theorem qM {rd:Nat->Option (SO σ)}:∀ {l:List Nat} {x:Nat×SO σ},x∈sK rd l->rd x.1=some x.2
 | [],x,h=>by cases h
 | r::l,x,h=>by
   rw [sK] at h;split at h
   ·rename_i o ho;rcases List.mem_cons.1 h with e | e
    ·subst e;exact ho
    ·exact qM e
   ·exact qM h
theorem GR (s:σ):∀(i:Nat) (l:List (SV σ)),cT s (o7 i l)=iT i (cL s l)
 | i,[]=>rfl
 | i,x::l=>by rw [o7,cT,GR s (i+1) l,cL];rfl
theorem ab8 {T:Ty} {d:SS σ} {s:σ} {N:Nat} {r:ResultVar} {v:SV σ} (h:Tn T d r=some v):FC T (d.c s N) r=some (v.c s):=by
 have hget:∀t,(d.c s N).get t=(match gV t d.tm with | some x=>x | none => .junk:SV σ).c s:=fun t=>by
  unfold SL.get SS.c;simp only [mZ];rw [gW];cases look t d.tm with
  | none=>simp only [Option.map_none];rw [SV.c]
  | some x=>rfl
 cases r with
 | tmp t =>
   simp only [Tn,Option.some.injEq] at h;subst h;exact congrArg some (hget t)
 | cell a t =>
   simp only [Tn] at h;split at h
   ·rename_i i r off hT hl;split at h
    ·rename_i cs hr;show Md T (d.c s N).rd t ((d.c s N).get a)=_;rw [hget,hl,<-jX];unfold Md;simp only [hT,SV.c,gu,hr,Option.map_some,SO.c];exact uQ s h
    ·cases h
   ·cases h
theorem EP {T:Ty} {d:SS σ} {s:σ} {N:Nat}:∀(l:List ResultVar) (xs:List (SV σ)),Ea T d l=some xs->uM T (d.c s N) l=some (cL s xs)/\xs.length=l.length
 | [],xs,h=>by cases h;exact ⟨rfl,rfl⟩
 | r::l,xs,h=>by
   rw [Ea] at h;split at h
   ·rename_i x ys hx hy;cases h;obtain ⟨a,b⟩:=EP l ys hy;rw [uM,ab8 hx,a];exact ⟨rfl,by rw [List.length_cons,List.length_cons,b]⟩
   ·cases h
theorem KF {T:Ty} {d:SS σ} {s:σ} {N:Nat} {fn:Func} {xs:List (SV σ)} (h:Ea T d fn.results.toList=some xs):BI T fn (d.c s N)=some ((ng xs).c s):=by
 unfold BI;rw [(EP _ _ h).1,lY];generalize cL s xs=ys;cases ys with
 | nil=>rfl
 | cons y ys=>cases ys with
   | nil=>rfl
   | cons z zs=>rfl
theorem Vz {d:SS σ} {g:τ->σ} {d':SS τ} (h:Grow d g d') {r:Nat} (hr:(look r d.hp).isSome=true):(look r d'.hp).isSome=true:=by
 obtain ⟨_,l,e⟩:=h;rw [e,bI];cases look r l with
 | some x=>rfl
 | none =>
   simp only;have:∀l:List (Nat×SO σ),look r (iV g l)=(look r l).map (SO.map g):=by
    intro l
    induction l with
    | nil=>rfl
    | cons x l ih =>
      obtain ⟨k,v⟩:=x;rw [iV,look,look];split
      ·rfl
      ·exact ih
   rw [this];cases hl:look r d.hp with
   | none=>rw [hl] at hr;cases hr
   | some w=>rfl
theorem xJ {α:Type} (q:Nat->Bool) (r:Nat):∀l:List (Nat×α),look r (l.filter fun y=>q y.1)=if q r=true then look r l else none
 | []=>by simp [look]
 | (k,x)::l=>by
   rw [List.filter_cons];have ih:=xJ q r l;by_cases hk:k=r
   ·subst hk;by_cases hq:q k=true
    ·simp only [hq,if_true];rw [look,if_pos rfl,look,if_pos rfl]
    ·rw [if_neg hq,ih,if_neg hq,if_neg hq]
   ·by_cases hq:q k=true
    ·simp only [hq,if_true];rw [look,if_neg hk,look,if_neg hk];exact ih
    ·rw [if_neg hq,ih,look,if_neg hk]
theorem yL (s:σ) (q:Nat->Bool):∀l:List (Nat×SO σ),cO s (l.filter fun y=>q y.1)=(cO s l).filter fun y=>q y.1
 | []=>rfl
 | (k,x)::l=>by
   rw [cO,List.filter_cons,List.filter_cons];cases hq:q k with
   | true=>simp only [if_true];rw [cO,yL s q l]
   | false=>simp only [Bool.false_eq_true,if_false];exact yL s q l
theorem oh {β:Type} {p kind:Nat} {d:SS σ} {its:List IT} {d':SS τ} {s:τ} {r:(bQ its).T ⊕ β} (h:(CQ p kind d its d':TR ((bQ its).T ⊕ β) τ).run s=some r):∃x,Gy d its d'=some x/\allT s x.cs/\r = .inl (x.f s):=by
 unfold CQ at h;split at h
 ·rename_i x hx;obtain ⟨h1,h2⟩:=oJ h;rw [TR.run] at h2;exact ⟨x,hx,h1,by cases h2;rfl⟩
 ·split at h
  ·rw [TR.run] at h;cases h
  ·unfold vV at h;rw [TR.run] at h;cases h
theorem lN {β υ:Type} {t:TR β τ} {s:τ} {r:υ ⊕ β} (h:(TR.out t:TR (υ ⊕ β) τ).run s=some r):∃b,t.run s=some b/\r = .inr b:=by
 rw [TR.run] at h;cases ht:t.run s with
 | none=>rw [ht] at h;cases h
 | some b=>rw [ht] at h;cases h;exact ⟨b,rfl,rfl⟩
theorem NJ {β υ:Type} {a:TR (υ ⊕ β) σ} {t:TR β (σ×υ)} {s:σ} {b:β} (h:(TR.join a t).run s=some b):(∃u,a.run s=some (.inl u)/\t.run (s,u)=some b)\/a.run s=some (.inr b):=by
 rw [TR.run] at h;cases ha:a.run s with
 | none=>rw [ha] at h;cases h
 | some r =>
   rw [ha] at h;cases r with
   | inl u=>exact .inl ⟨u,rfl,h⟩
   | inr x=>cases h;exact .inr rfl
end
section
variable {P:Program} {q:Nat->Bool} {tab:Nat->Option Func} {con:Nat->Option CE} {plan:Nat->Option PL} {eg:Nat->Bool}
def Qx (P:Program) (q:Nat->Bool) (tab:Nat->Option Func) (con:Nat->Option CE) (plan:Nat->Option PL) (eg:Nat->Bool) (n:Nat):Prop :=
 ∀(β:Type) (f N p:Nat) (c:Code) (σ:Type) (d:SS σ) (F:Nat) (K:(τ:Type)->(τ->σ)->Exit->SS τ->Nat->TR β τ) (s:σ) (b:β) (hp0:Nat->Option AO),(∀r,(hp0 r).isSome=true->(look r d.hp).isSome=true) ->
  (sx (aO P) q tab con plan eg n β f N p c σ d F K).run s=some b ->
  ∃(τ:Type) (g:τ->σ) (s':τ) (e:Exit) (d':SS τ) (F':Nat),g s'=s/\Grow d g d'/\To P nJ N hp0 c (d.c s N) e (d'.c s' N)/\(K τ g e d' F').run s'=some b
theorem Zi {σ:Type} {θ:Nat->Option Nat} {hp1 hp2:Nat->Option AO} {dh:SS σ} {su:σ} {N n:Nat} {xs:List AV} (hn:xs.length=n) (hT:∀t v,look t (dh.c su N).tm=some v->eY θ hp1 hp2 v (match look t (iT 0 xs) with | some x=>x | none => .junk)):eY θ hp1 hp2 ((Tt n dh).c su) (jg xs):=by
 have key:∀(m i:Nat) (ys:List AV),ys.length=m->(∀j,j<m->ys[j]? = xs[i+j]?)->gJ θ hp1 hp2 (cL su ((List.range' i m).map fun j=>match gV j dh.tm with | some v=>v | none => .junk)) ys:=by
  intro m
  induction m with
  | zero=>intro i ys hl _;cases ys with
    | nil=>show gJ θ hp1 hp2 [] [];rw [gJ]
    | cons y ys=>cases hl
  | succ m ih =>
    intro i ys hl hj;cases ys with
    | nil=>cases hl
    | cons y ys =>
      rw [List.range'_succ,List.map_cons,cL,gJ];refine ⟨y,ys,rfl,?_,ih (i+1) ys (by simpa using hl) fun j hjm => ?_⟩
      ·have h0:=hj 0 (Nat.succ_pos m);simp only [List.getElem?_cons_zero,Nat.add_zero] at h0;rw [gW];cases hlk:look i dh.tm with
       | none=>simp only [SV.c];rw [eY];trivial
       | some v =>
         have:=hT i (v.c su) (by show look i (cT su dh.tm)=_;rw [mZ,hlk];rfl);rw [lV] at this;simp only [Nat.zero_le,if_true,Nat.sub_zero,<-h0] at this;exact this
      ·have:=hj (j+1) (Nat.succ_lt_succ hjm);rw [List.getElem?_cons_succ] at this;rw [this];congr 1;omega
 have hk:=key n 0 xs hn fun j _=>by rw [Nat.zero_add]
 unfold Tt;rw [lY,List.range_eq_range'];generalize cL su ((List.range' 0 n).map fun j=>match gV j dh.tm with | some v=>v | none => .junk)=ys at hk;cases ys with
 | nil=>rw [gJ] at hk;subst hk;show eY θ hp1 hp2 (.tup []) (.tup []);rw [eY];exact ⟨[],rfl,by rw [gJ]⟩
 | cons y ys =>
   rw [gJ] at hk;obtain ⟨x,xs',rfl,h1,h2⟩:=hk;cases ys with
   | nil=>rw [gJ] at h2;subst h2;exact h1
   | cons y2 ys =>
     rw [gJ] at h2;obtain ⟨x2,xs2,rfl,h3,h4⟩:=h2;show eY θ hp1 hp2 (.tup (y::y2::ys)) (.tup (x::x2::xs2));rw [eY];exact ⟨_,rfl,by rw [gJ];exact ⟨x,_,rfl,h1,by rw [gJ];exact ⟨x2,xs2,rfl,h3,h4⟩⟩⟩
theorem CW {θ:Nat->Option Nat} {x:Nat}:∀ {l:List Nat},x∈GN θ l->∃r∈l,θ r=some x
 | r::l,h=>by
   rw [GN] at h;split at h
   ·rename_i y hy;rcases List.mem_cons.1 h with rfl | h
    ·exact ⟨r,List.mem_cons_self,hy⟩
    ·obtain ⟨q,h1,h2⟩:=CW h;exact ⟨q,List.mem_cons_of_mem _ h1,h2⟩
   ·obtain ⟨q,h1,h2⟩:=CW h;exact ⟨q,List.mem_cons_of_mem _ h1,h2⟩
theorem NK (ρ:Nat->Nat):∀l:List Nat,NG ρ l=l.map fun r=>(ρ r,some r)
 | []=>rfl
 | r::l=>by rw [NG,NK ρ l];rfl
theorem xK:∀ {l:List Nat} {i:Nat},isNat i l=true->l=List.range' i l.length
 | [],_,_=>rfl
 | k::l,i,h=>by
   rw [isNat,Bool.and_eq_true] at h;have e:=of_decide_eq_true h.1;rw [List.length_cons,List.range'_succ,<-xK h.2,e]
theorem ug:∀(l:List IT) (x:(bQ l).T),(jJ l x).map (·.1)=nM l
 | [],_=>rfl
 | i::l,x=>by
   rw [show jJ (i::l) x=aT i (iG (uI i) (bQ l) x)++jJ l (jw (uI i) (bQ l) x) from rfl,List.map_append,ug l];cases i with
   | tmp t a cs=>cases a<;>rfl
   | _=>rfl
theorem KG {θ:Nat->Option Nat} {hp1 hp2:Nat->Option AO}:∀(l:List (Nat×AV)) (ys:List AV) (i:Nat),l.map (·.1)=List.range' i ys.length->(∀x∈l,eY θ hp1 hp2 x.2 (match ys[x.1-i]? with | some y=>y | none => .junk))->gJ θ hp1 hp2 (l.map (·.2)) ys
 | [],ys,i,h,_=>by
   cases ys with
   | nil=>rw [List.map_nil,gJ]
   | cons y ys=>rw [List.length_cons,List.range'_succ] at h;cases h
 | x::l,ys,i,h,hx=>by
   cases ys with
   | nil=>cases h
   | cons y ys =>
     rw [List.length_cons,List.range'_succ,List.map_cons] at h;injection h with h1 h2;rw [List.map_cons,gJ];refine ⟨y,ys,rfl,?_,KG l ys (i+1) h2 fun z hz => ?_⟩
     ·have:=hx x List.mem_cons_self;rw [h1,Nat.sub_self] at this;exact this
     ·have hk:z.1∈List.range' (i+1) ys.length:=by rw [<-h2];exact List.mem_map.2 ⟨z,hz,rfl⟩
      have hk:=(List.mem_range'_1.1 hk).1;have:=hx z (List.mem_cons_of_mem _ hz);rw [show z.1-i=(z.1-(i+1))+1 by omega,List.getElem?_cons_succ] at this;exact this
theorem Zj {θ:Nat->Option Nat} {hp1 hp2:Nat->Option AO} {ys xs:List AV} (h:gJ θ hp1 hp2 ys xs):eY θ hp1 hp2 (jg ys) (jg xs):=by
 cases ys with
 | nil=>rw [gJ] at h;subst h;show eY θ hp1 hp2 (.tup []) (.tup []);rw [eY];exact ⟨[],rfl,by rw [gJ]⟩
 | cons y ys =>
   rw [gJ] at h;obtain ⟨x,xs',rfl,h1,h2⟩:=h;cases ys with
   | nil=>rw [gJ] at h2;subst h2;exact h1
   | cons y2 ys =>
     rw [gJ] at h2;obtain ⟨x2,xs2,rfl,h3,h4⟩:=h2;show eY θ hp1 hp2 (.tup (y::y2::ys)) (.tup (x::x2::xs2));rw [eY];exact ⟨_,rfl,by rw [gJ];exact ⟨x,_,rfl,h1,by rw [gJ];exact ⟨x2,xs2,rfl,h3,h4⟩⟩⟩
theorem Zk {P:Program} {σ:Type} {β:Type} {N f:Nat} {E:CE} (hE:ab6 P f E) {args:List (SV σ)} {d:SS σ} {F:Nat} {K:(τ:Type)->(τ->σ)->SV τ->List (Nat×SO τ)->List Nat->Nat->TR β τ} {s:σ} {b:β} (h:(Zb E args d F K).run s=some b) :
 ∃(τ:Type) (g:τ->σ) (s':τ) (v:SV τ) (us:List (Nat×SO τ)) (rds:List Nat) (F':Nat),g s'=s/\qA P f=true/\Does P nJ f (cL s args) rds (v.c s') (cO s' us) (d.c s N).rd/\(K τ g v us rds F').run s'=some b:=by
 unfold Zb at h;generalize namesT (⟨o7 0 args,d.hp⟩:SS σ) E.ai []=th at h;simp only at h;unfold Za at h;generalize Jp (lg th) (aN E.ri++aN E.ai)=fr at h;simp only at h;unfold Y9 at h;generalize hos:sK (jC d) (GN (lg th) (aN E.ai))=os at h;generalize hρ:afB (lg th) F fr=ρ at h;have hρs:∀r x,lg th r=some x->ρ r=x:=fun r x hx=>by rw [<-hρ];unfold afB;rw [hx]
 generalize lg th=θ at h hos hρs;unfold Y8 at h;split at h
 ·rw [TR.run] at h;cases h
 rename_i pa hpa;split at h
 ·rw [TR.run] at h;cases h
 rename_i hfz;split at h
 ·rw [TR.run] at h;cases h
 rename_i hB;unfold ajs at hB;simp only [Bool.and_eq_true] at hB;obtain ⟨⟨⟨b1,b2,b3⟩,b4,b5⟩,⟨b6,b7,b7a⟩,⟨b8,b9⟩,b10,b11⟩:=hB;have b3:=of_decide_eq_true b3;obtain ⟨h1,h2⟩:=oJ h;obtain ⟨r,hf,h3⟩:=TB h2;have hD:=hE.2 _ _ hf
 -- the names
 obtain ⟨tbl,htb⟩:∃tbl,tbl=NG ρ (aN E.ri++aN E.ai):=⟨_,rfl⟩
 rw [<-htb] at b6;have hin:∀q∈aN E.ri++aN E.ai,lg tbl (ρ q)=some q:=fun q hq=>xC (List.all_eq_true.1 b6 q hq);have hrf:∀q∈dL E.ri++dL E.ai,q∈aN E.ri++aN E.ai:=fun q hq=>by
  rcases List.mem_append.1 hq with g | g
  ·exact fK.1 (List.all_eq_true.1 b7 q g)
  ·exact List.mem_append_right _ (fK.1 (List.all_eq_true.1 b7a q g))
 obtain ⟨o1,o2⟩:=ab1 (s:=(s,r)) (f1:=Prod.snd) (f2:=fun t:σ×(bQ E.ri).T=>pa.f t.1) (htb.trans (NK ρ _)) b4 b5 hin hrf
 -- what is handed over
 have hai:∀q∈aN E.ai,∃v,look q (lM E.ai (pa.f s))=some v:=fun q hq=>oK (by rw [jS];exact hq);have hai':∀q∈aN E.ai,(aK (lM E.ai (pa.f s)) q).isSome=true:=fun q hq=>by
  obtain ⟨v,hv⟩:=hai q hq;unfold aK;rw [hv];rfl
 have hst:(⟨o7 0 args,os⟩:SS σ).c s 0=⟨0,iT 0 (cL s args),cO s os⟩:=by unfold SS.c;rw [GR]
 obtain ⟨w1,w2⟩:=Nw (N:=0) (hp2:=aK (lM E.ai (pa.f s))) E.ai pa hpa h1 (fun x hx=>by rw [hfz] at hx;cases hx) (fun x hx=>hai' x.1 (by rw [<-jS E.ai (pa.f s)];exact List.mem_map.2 ⟨x,hx,rfl⟩)) (fun q hq=>hai' q (fK.1 (List.all_eq_true.1 b7a q hq)));rw [hst] at w1 w2;have hwH:JE θ (aK (cO s os)) (aK (lM E.ai (pa.f s))):=⟨fun q o ho=>w2 (q,o) (aU ho),fun q q' o o' x e1 e2 _ _ e3 e4=>by
  have m1:q∈aN E.ai:=by rw [<-jS E.ai (pa.f s)];exact List.mem_map.2 ⟨_,aU e1,rfl⟩
  have m2:q'∈aN E.ai:=by rw [<-jS E.ai (pa.f s)];exact List.mem_map.2 ⟨_,aU e2,rfl⟩
  have k1:=hin q (List.mem_append_right _ m1);have k2:=hin q' (List.mem_append_right _ m2);rw [hρs q x e3] at k1;rw [hρs q' x e4,k1] at k2;cases k2;rfl⟩
 have hwA:gJ θ (aK (cO s os)) (aK (lM E.ai (pa.f s))) ((jJ E.ai (pa.f s)).map (·.2)) (cL s args):=by
  refine KG _ _ 0 ?_ fun x hx => ?_
  ·rw [ug,xK b2,b3,iq]
  ·have:=w1 x hx;unfold SL.get at this;simp only [lV,Nat.zero_le,if_true] at this;exact this
 have hback:∀x∈bg os,∃c∈aN E.ai,θ c=some x/\ρ c=x:=fun x hx=>by
  obtain ⟨c,c1,c2⟩:=CW (fK.1 (List.all_eq_true.1 b9 x hx));exact ⟨c,c1,c2,hρs c x c2⟩
 have hosn:∀x o,look x (cO s os)=some o->x∈bg os:=fun x o ho=>by
  obtain ⟨o',k1,_⟩:=og (aU ho);exact kP.2 ⟨o',k1⟩
 have hv:eY (lg tbl) (aK (lM E.ri r++lM E.ai (pa.f s))) (aK (cO (s,r) (bY ρ E.ri Prod.snd++bY ρ E.ai (fun t:σ×(bQ E.ri).T=>pa.f t.1)))) ((ng ((A8 ρ E.ri (Prod.snd:σ×(bQ E.ri).T->(bQ E.ri).T)).map (·.2))).c (s,r)) (jg ((jJ E.ri r).map (·.2))):=by
  rw [lY,abZ];exact Zj (Gz E.ri (Prod.snd:σ×(bQ E.ri).T->(bQ E.ri).T) fun q hq=>by
   rcases List.mem_append.1 hq with g | g
   ·exact o1 q (List.mem_append_left _ g)
   ·exact o1 q (hrf q (List.mem_append_left _ g)))
 have hdo:=ajm hD hwH hwA o2 hv fun x o ho=>by
  obtain ⟨c,c1,c2,c3⟩:=hback x (hosn x o ho);have k:=o1 c (List.mem_append_right _ c1);rw [c3] at k;obtain ⟨o',ho'⟩:=Option.isSome_iff_exists.1 k.2;obtain ⟨oc,hoc⟩:=hai c c1;exact ⟨o',ho',c,oc,k.1,c2,hoc,ND b1 _ (aU hoc)⟩
 have hnm:(cO (s,r) (bY ρ E.ri Prod.snd++bY ρ E.ai (fun t:σ×(bQ E.ri).T=>pa.f t.1))).map (·.1)=(aN E.ri++aN E.ai).map ρ:=by rw [cZ,List.map_append,jy,jy,List.map_append]
 have hosr:∀y∈cO s os,y.1∈(aN E.ri++aN E.ai).map ρ:=fun y hy=>by
  obtain ⟨o',k1,_⟩:=og hy;obtain ⟨c,c1,c2,c3⟩:=hback y.1 (kP.2 ⟨o',k1⟩);exact List.mem_map.2 ⟨c,List.mem_append_right _ c1,c3⟩
 have hosd:∀y∈cO s os,(d.c s N).rd y.1=some y.2:=fun y hy=>by
  obtain ⟨o',k1,k2⟩:=og hy;rw [<-hos] at k1;have:=qM k1;rw [<-jX];unfold gu;rw [this,k2];rfl
 refine ⟨_,Prod.fst,(s,r),_,_,_,_,rfl,hE.1,?_,h3⟩;refine CU (us:=cO (s,r) (bY ρ E.ri Prod.snd++bY ρ E.ai (fun t:σ×(bQ E.ri).T=>pa.f t.1))) ?_ fun q => ?_
 rotate_left
 ·rw [cZ,cZ,yL (s,r) (fun k=>jv k ((Jj θ (⟨o7 0 args,os⟩:SS σ) E.ai).map ρ)),bI,bI,xJ (fun k=>jv k ((Jj θ (⟨o7 0 args,os⟩:SS σ) E.ai).map ρ))];cases hl:look q (cO (s,r) (bY ρ E.ri Prod.snd)) with
  | some o=>exact .inl rfl
  | none =>
    simp only;split
    ·exact .inl rfl
    ·rename_i hq;refine .inr ⟨rfl,fun o ho => ?_⟩;have hm:=aU ho;have hm':(q,o)∈cO s (bY ρ E.ai pa.f):=by rw [<-GI (s1:=(s,r)) (s2:=s) E.ai (fun t:σ×(bQ E.ri).T=>pa.f t.1) pa.f rfl];exact hm
     refine ⟨by
      have:q∈(aN E.ai).map ρ:=by rw [<-jy s ρ E.ai pa.f];exact List.mem_map.2 ⟨_,hm',rfl⟩
      rw [List.map_append];exact List.mem_append_right _ this,?_⟩
     rcases GH hρs E.ai pa hpa h1 _ hm' with g | g
     ·exact (hq (fK.2 g)).elim
     ·have g:gu s (jC (⟨o7 0 args,os⟩:SS σ)) q=some o:=g;rw [jX s 0] at g;have g:look q (cO s os)=some o:=g;exact hosd _ (aU g)
 refine qg hdo (fun y hy=>⟨hosr y hy,?_⟩) (yK b10) (by rw [rU];exact yJ b11) (fun y hy => ?_) (List.all_eq_true.2 fun y hy => ?_)
 ·exact hosd y hy
 ·have hm:y.1∈(aN E.ri++aN E.ai).map ρ:=by rw [<-hnm];exact List.mem_map.2 ⟨y,hy,rfl⟩
  refine ⟨hm,?_⟩;obtain ⟨q,q1,q2⟩:=List.mem_map.1 hm;have:=List.all_eq_true.1 b8 q q1;rw [q2,Bool.or_eq_true] at this;rcases this with g | g
  ·exact .inl (zq g)
  ·exact .inr (qL (fK.1 g))
 ·obtain ⟨v,hv⟩:=oK (k:=y.1) (l:=cO (s,r) (bY ρ E.ri Prod.snd++bY ρ E.ai (fun t:σ×(bQ E.ri).T=>pa.f t.1))) (by rw [hnm];exact hosr y hy);rw [hv];rfl
theorem ab9 (hcon:∀f E,con f=some E->aB P (f % 1000000000) E) {f:Nat} {b:Bool} {c:Nat} {E:CE} (h:afE con f b c=some E):aB P f E:=by
 unfold afE at h;split at h
 ·cases h
 ·rename_i hf;have hf:=of_decide_eq_true hf;have h0:Tv con f b=some E->aB P f E:=by
   intro h;unfold Tv at h;split at h
   ·split at h
    ·rename_i E' hE';cases h;have:=hcon _ _ hE'
     rwa [show (1000000000+f) % 1000000000=f by omega] at this
    ·have:=hcon _ _ h
     rwa [Nat.mod_eq_of_lt hf] at this
   ·have:=hcon _ _ h
    rwa [Nat.mod_eq_of_lt hf] at this
  split at h
  ·exact h0 h
  ·split at h
   ·rename_i E' hE';cases h;have:=hcon _ _ hE'
    rwa [show (1000000000*(_+1)+f) % 1000000000=f by omega] at this
   ·exact h0 h
theorem Zl (hcon:∀f E,con f=some E->aB P (f % 1000000000) E) (htab:∀f fn,tab f=some fn->P.funcs[f]? = some fn/\qA P f=true) {n:Nat} (hn:Qx P q tab con plan eg n) {N p:Nat} {β:Type}:YX P N (Zd (aO P) tab con plan (sx (aO P) q tab con plan eg n) p β):=by
 intro i σ f args d F K s b h;unfold Zd at h;split at h
 ·rename_i E hE;have hE':=ab9 hcon hE;unfold aB at hE';split at h
  ·rename_i hd;rw [hd] at hE';exact ab7 hE' h
  ·rename_i hd;rw [hd] at hE';exact Zk hE' h
 ·split at h
  ·rw [TR.run] at h;cases h
  ·rename_i fn hfn;obtain ⟨t1,t2⟩:=htab f fn hfn;split at h
   ·rw [TR.run] at h;cases h
   ·rename_i c hb;generalize hos:sK (jC d) (zy (jC d) 1000 (oZ args) [])=os at h
    try simp only at h
    split at h
    ·rw [TR.run] at h;cases h
    ·rename_i hok;rw [Bool.and_eq_true,Bool.and_eq_true,decide_eq_true_eq] at hok;obtain ⟨k1,k2,k3⟩:=hok;have hosd:∀p∈cO s os,(d.c s N).rd p.1=some p.2:=fun x hx=>by
      obtain ⟨o,h1,h2⟩:=og hx;rw [<-hos] at h1;have:=qM h1;rw [<-jX];unfold gu;rw [this,h2];rfl
     have hra:rM (cO s os) (AV.refs.refsL (cL s args))=true:=by rw [rU];exact yJ k3
     have hlen:(cL s args).length<=fn.ntmps:=by rw [iq];exact k1
     have hst:(⟨o7 0 args,os⟩:SS σ).c s fn.ntmps=⟨fn.ntmps,iT 0 (cL s args),cO s os⟩:=by unfold SS.c;rw [GR]
     have hk0:∀r,((aK (cO s os)) r).isSome=true->(look r (⟨o7 0 args,os⟩:SS σ).hp).isSome=true:=fun r hr=>by
      unfold aK at hr;rw [jI] at hr;cases hl:look r os with
      | none=>rw [hl] at hr;cases hr
      | some o=>rfl
     split at h
     ·unfold vV at h;rw [TR.run] at h;cases h
     ·rename_i its hits;split at h
      ·first | (unfold vV at h;rw [TR.run] at h;cases h;done) | (rw [TR.run] at h;cases h)
      ·rename_i hck;rw [Bool.and_eq_true] at hck;obtain ⟨c1,c2⟩:=hck;rcases NJ h with ⟨u,h1,h2⟩ | h1
       ·obtain ⟨τ,g,s',e,d',F',g1,g2,g3,g4⟩:=hn _ f fn.ntmps _ c σ _ F _ s _ (aK (cO s os)) hk0 h1;split at g4
        ·rw [TR.run] at g4;cases g4
        ·rename_i he;split at g4
         ·rw [TR.run] at g4;cases g4
         ·rename_i xs hxs;obtain ⟨x,x1,x2,x3⟩:=oh g4;cases x3;have hgr:Grow (⟨[],os⟩:SS σ) g (⟨o7 0 xs,d'.hp⟩:SS τ):=⟨⟨o7 0 xs,(List.append_nil _).symm⟩,g2.hp⟩
          obtain ⟨θ,q1,q2,q3⟩:=zu (N:=fn.ntmps) hgr x1 x2;rw [g1] at q1 q2 q3;rw [hst] at g3;have hrs:xs.length=fn.results.size:=by have:=(EP (s:=s') (N:=fn.ntmps) _ _ hxs).2;rw [this,Array.length_toList]
          have hback:Back (cO s os) (d'.c s' fn.ntmps).hp ((headD (⟨[],os⟩:SS σ) its).c (s,x.f s') fn.ntmps).hp ((Tt fn.results.size (headD (⟨[],os⟩:SS σ) its)).c (s,x.f s')) ((ng xs).c s'):=by
           refine ⟨θ,fun r o ho => ?_,q2,?_⟩
           ·exact q1 r (by rw [jI] at ho;cases hl:look r os with | none=>rw [hl] at ho;cases ho | some w=>rfl)
           ·rw [lY];refine Zi (N:=fn.ntmps) (by rw [iq];exact hrs) fun t v hv => ?_;have:=q3 t v hv;unfold SL.get at this;rw [show (SS.c s' fn.ntmps (⟨o7 0 xs,d'.hp⟩:SS τ)).tm=iT 0 (cL s' xs) from GR s' 0 xs] at this;exact this
          have hdo:=uO t1 hb hlen g3 he (KF hxs) hback;have hin:((cO s os).all fun p=>(look p.1 ((headD (⟨[],os⟩:SS σ) its).c (s,x.f s') fn.ntmps).hp).isSome)=true:=List.all_eq_true.2 fun y hy=>by
           obtain ⟨o,o1,o2⟩:=og hy;have:(look y.1 os).isSome=true:=by obtain ⟨w,hw⟩:=iW o1;rw [hw];rfl
           exact (q1 y.1 this).2
          have hus:((headD (⟨[],os⟩:SS σ) its).c (s,x.f s') fn.ntmps).hp=cO (s,x.f s') (headD (⟨[],os⟩:SS σ) its).hp:=rfl;have hnm:∀y∈((headD (⟨[],os⟩:SS σ) its).c (s,x.f s') fn.ntmps).hp,y.1∈bg (headD (⟨[],os⟩:SS σ) its).hp:=fun y hy=>by
           rw [hus] at hy;obtain ⟨o,o1,_⟩:=og hy;exact kP.2 ⟨o,o1⟩
          have hd1:=qg (rds:=bg (headD (⟨[],os⟩:SS σ) its).hp) (hp:=(d.c s N).rd) hdo (fun y hy=>⟨?_,hosd y hy⟩) (yK k2) hra (fun y hy=>⟨hnm y hy,?_⟩) hin
          ·refine ⟨_,Prod.fst,(s,x.f s'),_,_,_,F,rfl,t2,?_,h2⟩;refine CU hd1 fun r => ?_;have hsp:((headD (⟨[],os⟩:SS σ) its).c (s,x.f s') fn.ntmps).hp=cO (s,x.f s') (gX its Prod.snd)++cO s os:=by
            rw [hus];show cO (s,x.f s') (gX its Prod.snd++iV Prod.fst os)=_;rw [cZ,oH]
           rw [hsp,bI];cases hl:look r (cO (s,x.f s') (gX its Prod.snd)) with
           | some o=>exact .inl rfl
           | none =>
             refine .inr ⟨rfl,fun o ho => ?_⟩;have hm:=aU ho;obtain ⟨o',o1,_⟩:=og hm;refine ⟨?_,hosd _ hm⟩;have:r∈bg os:=kP.2 ⟨o',o1⟩;have hnn:∀l:List (Nat×SO σ),bg (iV (Prod.fst:σ×(bQ its).T->σ) l)=bg l:=by
              intro l
              induction l with
              | nil=>rfl
              | cons z l ih=>obtain ⟨k,w⟩:=z;rw [iV,bg,bg,ih]
             have happ:∀a b:List (Nat×SO (σ×(bQ its).T)),bg (a++b)=bg a++bg b:=by
              intro a b
              induction a with
              | nil=>rfl
              | cons z l ih=>obtain ⟨k,w⟩:=z;rw [List.cons_append,bg,bg,ih];rfl
             show r∈bg (gX its Prod.snd++iV Prod.fst os);rw [happ,hnn];exact List.mem_append_right _ this
          ·have:=List.all_eq_true.1 hin y hy;cases hl:look y.1 ((headD (⟨[],os⟩:SS σ) its).c (s,x.f s') fn.ntmps).hp with
           | none=>rw [hl] at this;cases this
           | some o=>exact hnm (y.1,o) (aU hl)
          ·rw [hus] at hy;obtain ⟨o,o1,_⟩:=og hy;have:=List.all_eq_true.1 c2 _ o1;rcases (Bool.or_eq_true _ _).mp this with h | h
           ·exact .inl (zq h)
           ·exact .inr (qL (fK.1 h))
       ·exfalso;obtain ⟨τ,g,s',e,d',F',g1,g2,g3,g4⟩:=hn _ f fn.ntmps _ c σ _ F _ s _ (aK (cO s os)) hk0 h1;split at g4
        ·rw [TR.run] at g4;cases g4
        ·split at g4
         ·rw [TR.run] at g4;cases g4
         ·obtain ⟨x,x1,x2,x3⟩:=oh g4;cases x3
     ·obtain ⟨τ,g,s',e,d',F',g1,g2,g3,g4⟩:=hn _ f fn.ntmps _ c σ _ F _ s _ (aK (cO s os)) hk0 h;split at g4
      ·rw [TR.run] at g4;cases g4
      ·rename_i he;split at g4
       ·rw [TR.run] at g4;cases g4
       ·rename_i xs hxs;generalize hus:sK (jC d') (zy (jC d') 1000 (oZ xs++bg os) [])=us at g4
        try simp only at g4
        split at g4
        ·rw [TR.run] at g4;cases g4
        ·rename_i hbk;simp only [Bool.and_eq_true] at hbk;obtain ⟨⟨b1,b2⟩,b3,b4⟩:=hbk;rw [hst] at g3;have hlk:∀r o,look r (cO s' us)=some o->(d'.c s' fn.ntmps).rd r=some o:=fun r o ho=>by
          obtain ⟨o',o1,o2⟩:=og (aU ho);rw [<-hus] at o1;have:=qM o1;rw [<-jX];unfold gu;simp only at this o2;rw [this,o2];rfl
         have hinn:((cO s os).all fun y=>(look y.1 (cO s' us)).isSome)=true:=List.all_eq_true.2 fun y hy=>by
          obtain ⟨o,o1,_⟩:=og hy;exact qL (fK.1 (List.all_eq_true.1 b3 _ (kP.2 ⟨o,o1⟩)))
         have hD:=DR t1 hb hlen g3 he (KF hxs) (us:=cO s' us) hlk (yK b1) (by rw [F5];unfold ng;have hh:=yJ (s:=s') b2;split<;>simpa [SV.refs,oZ] using hh) hinn;refine ⟨τ,g,s',_,_,_,F',g1,t2,?_,g4⟩;have hnm:∀y∈cO s' us,y.1∈bg us:=fun y hy=>by
          obtain ⟨o,o1,_⟩:=og hy;exact kP.2 ⟨o,o1⟩
         have hd1:=qg (rds:=bg us) (hp:=(d.c s N).rd) hD (fun y hy=>⟨?_,hosd y hy⟩) (yK k2) hra (fun y hy=>⟨hnm y hy,?_⟩) hinn
         ·refine CU hd1 fun r => ?_;unfold trimS;rw [yL s' (fun r => !jv r (bg (iV g os))||jv r (bg (d'.hp.take (d'.hp.length-os.length)))) us,xJ (fun r => !jv r (bg (iV g os))||jv r (bg (d'.hp.take (d'.hp.length-os.length)))) r (cO s' us)];split
          ·exact .inl rfl
          ·rename_i hq;refine .inr ⟨rfl,fun o ho=>⟨hnm _ (aU ho),?_⟩⟩;rw [Bool.or_eq_true] at hq;have hq1:r∈bg (iV g os):=by
            rcases hm:jv r (bg (iV g os)) with _ | _
            ·exfalso;exact hq (.inl (by rw [hm];rfl))
            ·exact fK.1 hm
           have hq2:r∉bg (d'.hp.take (d'.hp.length-os.length)):=fun hm=>hq (.inr (fK.2 hm));obtain ⟨⟨_,_⟩,l2,e2⟩:=g2;have e2:d'.hp=l2++iV g os:=e2;rw [e2,List.length_append,AX,Nat.add_sub_cancel,List.take_left] at hq2;have h5:=hlk r o ho;unfold SL.rd SS.c at h5;simp only [jI,e2,bI] at h5;rw [nZ (l:=l2) (fun hm=>hq2 (by obtain ⟨x,hx,rfl⟩:=List.mem_map.1 hm;exact kP.2 ⟨x.2,hx⟩))] at h5;simp only at h5;rw [<-jI,oH,g1] at h5;exact hosd _ (aU h5)
         ·have:=List.all_eq_true.1 hinn y hy;cases hl:look y.1 (cO s' us) with
          | none=>rw [hl] at this;cases this
          | some o=>exact hnm (y.1,o) (aU hl)
         ·obtain ⟨o,o1,_⟩:=og hy;have:=List.all_eq_true.1 b4 _ o1;rcases (Bool.or_eq_true _ _).mp this with h | h
          ·exact .inl (zq h)
          ·exact .inr (qL (fK.1 h))
end
section
variable {P:Program} {q:Nat->Bool} {tab:Nat->Option Func} {con:Nat->Option CE} {plan:Nat->Option PL} {eg:Nat->Bool}
theorem xM {β σ τ:Type} {p kind:Nat} {d:SS σ} {d':SS τ} {s:τ} {b:β} (h:(vV p kind d d':TR β τ).run s=some b):False:=by
 unfold vV at h;rw [TR.run] at h;cases h
theorem Zm {N:Nat} {hp0:Nat->Option AO} {a b:Code} {s s1 s1' s2:SL} {e:Exit} (h1:To P nJ N hp0 a s .normal s1) (ht:vP nJ N hp0 s1.S s1'.S) (h2:To P nJ N hp0 b s1' e s2):To P nJ N hp0 (.seq a b) s e s2 :=
 BG (dX h1 (Fz ht h2))
theorem yM {N:Nat} {hp0:Nat->Option AO} {a b:Code} {s s1:SL} {e:Exit} (hne:e ≠ .normal) (h1:To P nJ N hp0 a s e s1):To P nJ N hp0 (.seq a b) s e s1 :=
 BG (dX h1 (by cases e<;>first | exact (hne rfl).elim | exact ⟨rfl,rfl⟩))
theorem ajw {N:Nat} {hp0:Nat->Option AO} {c:Code} {s s0 s2:SL} {e:Exit} (h:s0.S=s.S) (k:To P nJ N hp0 c s0 e s2):To P nJ N hp0 c s e s2:=by
 unfold To at k ⊢;rw [<-h];exact k
theorem mO {σ τ:Type} {hp0:Nat->Option AO} {d:SS σ} {g:τ->σ} {d':SS τ} (hk:∀r,(hp0 r).isSome=true->(look r d.hp).isSome=true) (h:Grow d g d'):∀r,(hp0 r).isSome=true->(look r d'.hp).isSome=true:=fun r hr=>Vz h (hk r hr)
theorem Bg {σ:Type} (d:SS σ) (t:Nat) (b:Bool):Grow d (fun s=>s) (zn d t b):=⟨⟨[(t,.val (.bool b))],by rw [AB];rfl⟩,⟨[],by rw [AL];rfl⟩⟩
theorem TD {n:Nat} (ih:∀m,m<n->Qx P q tab con plan eg m):∀m,m<n->∀(β:Type) (f N p:Nat) (a:Code) (σ:Type) (d:SS σ) (F:Nat) (K:(τ:Type)->(τ->σ)->Exit->SS τ->Nat->TR β τ) (s:σ) (b:β) (hp0:Nat->Option AO),(∀r,(hp0 r).isSome=true->(look r d.hp).isSome=true)->(plan (p*512+6)=some .unroll\/plan (p*512+6)=some .once) ->
 (sx (aO P) q tab con plan eg (m+1) β f N p (.loop a) σ d F K).run s=some b ->
 ∃(τ:Type) (g:τ->σ) (s':τ) (e:Exit) (d':SS τ) (F' k:Nat),g s'=s/\Grow d g d'/\Rounds P nJ N hp0 a e (d'.c s' N) k (d.c s N)/\(K τ g e d' F').run s'=some b:=by
 intro m
 induction m with
 | zero =>
   intro hm β f N p a σ d F K s b hp0 hk hpl h;rw [sx] at h;rcases hpl with hpl | hpl<;>(simp only [hpl] at h;rw [sx,TR.run] at h;cases h)
 | succ m ihm =>
   intro hm β f N p a σ d F K s b hp0 hk hpl h;rw [sx] at h;rcases hpl with hpl | hpl
   ·simp only [hpl] at h;obtain ⟨τ,g,s',e,d',F',h1,h2,h3,h4⟩:=ih (m+1) hm β f N _ a σ d F _ s b hp0 hk h;have other:e ≠ .normal->(K τ g e d' F').run s'=some b->∃(τ:Type) (g:τ->σ) (s':τ) (e:Exit) (d':SS τ) (F' k:Nat),g s'=s/\Grow d g d'/\Rounds P nJ N hp0 a e (d'.c s' N) k (d.c s N)/\(K τ g e d' F').run s'=some b:=fun hne hr=>⟨τ,g,s',e,d',F',0,h1,h2,⟨hne,h3⟩,hr⟩
    cases e with
    | normal =>
      simp only at h4;obtain ⟨τ2,g2,s2,e2,d2,F2,k,k1,k2,k3,k4⟩:=ihm (by omega) β f N p a τ d' F' _ s' b hp0 (mO hk h2) (.inl hpl) h4;exact ⟨τ2,fun t=>g (g2 t),s2,e2,d2,F2,k+1,by show g (g2 s2)=s;rw [k1,h1],h2.trans k2,⟨d'.c s' N,d'.c s' N,h3,vP.refl _,k3⟩,k4⟩
    | exit i=>exact other (by simp) h4
    | goto l=>exact other (by simp) h4
    | ret=>exact other (by simp) h4
    | panic ch=>exact other (by simp) h4
    | outgrown=>exact other (by simp) h4
   ·simp only [hpl] at h;obtain ⟨τ,g,s',e,d',F',h1,h2,h3,h4⟩:=ih (m+1) hm β f N _ a σ d F _ s b hp0 hk h;have other:e ≠ .normal->(K τ g e d' F').run s'=some b->∃(τ:Type) (g:τ->σ) (s':τ) (e:Exit) (d':SS τ) (F' k:Nat),g s'=s/\Grow d g d'/\Rounds P nJ N hp0 a e (d'.c s' N) k (d.c s N)/\(K τ g e d' F').run s'=some b:=fun hne hr=>⟨τ,g,s',e,d',F',0,h1,h2,⟨hne,h3⟩,hr⟩
    cases e with
    | normal =>
      simp only at h4;have fin:(plan ((p*512+7)*512+6)=some .unroll\/plan ((p*512+7)*512+6)=some .once)->(sx (aO P) q tab con plan eg (m+1) β f N (p*512+7) (.loop a) τ d' F' (fun τ' g' e d'' F''=>K τ' (fun t=>g (g' t)) e d'' F'')).run s'=some b->∃(τ:Type) (g:τ->σ) (s':τ) (e:Exit) (d':SS τ) (F' k:Nat),g s'=s/\Grow d g d'/\Rounds P nJ N hp0 a e (d'.c s' N) k (d.c s N)/\(K τ g e d' F').run s'=some b:=fun hp' h5=>by
       obtain ⟨τ2,g2,s2,e2,d2,F2,k,k1,k2,k3,k4⟩:=ihm (by omega) β f N _ a τ d' F' _ s' b hp0 (mO hk h2) hp' h5;exact ⟨τ2,fun t=>g (g2 t),s2,e2,d2,F2,k+1,by show g (g2 s2)=s;rw [k1,h1],h2.trans k2,⟨d'.c s' N,d'.c s' N,h3,vP.refl _,k3⟩,k4⟩
      cases hp2:plan ((p*512+7)*512+6) with
      | none =>
        simp only [hp2] at h4;rw [sx] at h4;simp only [hp2] at h4;exact (xM h4).elim
      | some pl =>
        cases pl with
        | carry its=>simp only [hp2] at h4;rw [TR.run] at h4;cases h4
        | unroll=>simp only [hp2] at h4;exact fin (.inl hp2) h4
        | once=>simp only [hp2] at h4;exact fin (.inr hp2) h4
        | stop =>
          simp only [hp2] at h4;rw [sx] at h4;simp only [hp2] at h4;rw [TR.run] at h4;cases h4
    | exit i=>exact other (by simp) h4
    | goto l=>exact other (by simp) h4
    | ret=>exact other (by simp) h4
    | panic ch=>exact other (by simp) h4
    | outgrown=>exact other (by simp) h4
theorem NM (hq:Ov P q) (hdp:30<=P.depth) (hm:P.follows .mixedOrders=true) (hcon:∀f E,con f=some E->aB P (f % 1000000000) E) (htab:∀f fn,tab f=some fn->P.funcs[f]? = some fn/\qA P f=true) (n:Nat):Qx P q tab con plan eg n:=by
 induction n using Nat.strongRecOn with
 | _ n ih =>
   intro β f N p c σ d F K s b hp0 hk h;cases n with
   | zero=>rw [sx,TR.run] at h;cases h
   | succ n =>
     have ihn:=ih n (Nat.lt_succ_self n);have idg:∀(e:Exit),To P nJ N hp0 c (d.c s N) e (d.c s N)->(K σ (fun s=>s) e d F).run s=some b->∃(τ:Type) (g:τ->σ) (s':τ) (e:Exit) (d':SS τ) (F':Nat),g s'=s/\Grow d g d'/\To P nJ N hp0 c (d.c s N) e (d'.c s' N)/\(K τ g e d' F').run s'=some b:=fun e h1 h2=>⟨σ,fun s=>s,s,e,d,F,rfl,Grow.refl d,h1,h2⟩
     cases c with
     | skip=>rw [sx] at h;exact idg _ (JF ⟨rfl,rfl⟩) h
     | label l=>rw [sx] at h;exact idg _ (Fv ⟨rfl,rfl⟩) h
     | exit id=>rw [sx] at h;exact idg _ (JG ⟨rfl,rfl⟩) h
     | ret=>rw [sx] at h;exact idg _ (O9 ⟨rfl,rfl⟩) h
     | region id ops draw =>
       rw [sx] at h
       try simp only at h
       split at h
       ·rename_i hb;obtain ⟨L,s',g1,g2,⟨τ,g,t,d',F',k1,k2,k3,k4⟩,g4,g5⟩:=Gt (P:=P) (q:=q) (N:=N) (base:=F) (ops:=ops) (draw:=draw) (anc:=if draw=true then qB ops ops.size else []) (fun hd=>by rw [if_pos hd]) (Zl hcon htab ihn) _ σ d [] [] (F+ops.size) _ s b (fun x hx=>by have:=(FU 0 ops.toList x hx).2;rw [Nat.sub_zero,Array.getElem?_toList] at this;exact this) rfl h;subst k3;exact ⟨τ,g,t,.normal,d',F',k1,k2,Yb hq hdp hm (pU hb) (by rw [g1,FQ,List.range_eq_range',Array.length_toList]) g2 g5,k4⟩
       ·rw [TR.run] at h;cases h
     | seq x y =>
       rw [sx] at h
       try simp only at h
       split at h
       ·exact (xM h).elim
       ·rename_i its _;rcases NJ h with ⟨u,h1,h2⟩ | h1
        ·obtain ⟨τ,g,s',e,d',F',k1,k2,k3,k4⟩:=ihn _ f N _ x σ d F _ s _ hp0 hk h1;cases e with
         | normal =>
           simp only at k4;obtain ⟨z,z1,z2,z3⟩:=oh k4;cases z3;have ht:=xH (N:=N) k2 z1 z2 hk;rw [k1] at ht;obtain ⟨τ2,g2,s2,e2,d2,F2,m1,m2,m3,m4⟩:=ihn β f N _ y _ (headD d its) F _ (s,z.f s') b hp0 (mO hk (qo d its)) h2;exact ⟨τ2,fun t=>(g2 t).1,s2,e2,d2,F2,by show (g2 s2).1=s;rw [m1],(qo d its).trans m2,Zm k3 ht m3,m4⟩
         | exit i=>obtain ⟨b',_,hb⟩:=lN k4;cases hb
         | goto l=>obtain ⟨b',_,hb⟩:=lN k4;cases hb
         | ret=>obtain ⟨b',_,hb⟩:=lN k4;cases hb
         | panic ch=>obtain ⟨b',_,hb⟩:=lN k4;cases hb
         | outgrown=>obtain ⟨b',_,hb⟩:=lN k4;cases hb
        ·obtain ⟨τ,g,s',e,d',F',k1,k2,k3,k4⟩:=ihn _ f N _ x σ d F _ s _ hp0 hk h1;have fin:e ≠ .normal->(TR.out (K τ g e d' F'):TR ((bQ its).T ⊕ β) τ).run s'=some (.inr b)->∃(τ:Type) (g:τ->σ) (s':τ) (e:Exit) (d':SS τ) (F':Nat),g s'=s/\Grow d g d'/\To P nJ N hp0 (.seq x y) (d.c s N) e (d'.c s' N)/\(K τ g e d' F').run s'=some b:=fun hne hr=>by
          obtain ⟨b',b1,b2⟩:=lN hr;cases b2;exact ⟨τ,g,s',e,d',F',k1,k2,yM hne k3,b1⟩
         cases e with
         | normal =>
           simp only at k4;obtain ⟨z,z1,z2,z3⟩:=oh k4;cases z3
         | exit i=>exact fin (by simp) k4
         | goto l=>exact fin (by simp) k4
         | ret=>exact fin (by simp) k4
         | panic ch=>exact fin (by simp) k4
         | outgrown=>exact fin (by simp) k4
       ·obtain ⟨τ,g,s',e,d',F',k1,k2,k3,k4⟩:=ihn _ f N _ x σ d F _ s _ hp0 hk h;cases e with
        | normal =>
          simp only at k4;obtain ⟨τ2,g2,s2,e2,d2,F2,m1,m2,m3,m4⟩:=ihn β f N _ y _ d' F' _ s' b hp0 (mO hk k2) k4;exact ⟨τ2,fun t=>g (g2 t),s2,e2,d2,F2,by show g (g2 s2)=s;rw [m1,k1],k2.trans m2,Zm k3 (vP.refl _) m3,m4⟩
        | exit i=>exact ⟨τ,g,s',_,d',F',k1,k2,yM (by simp) k3,k4⟩
        | goto l=>exact ⟨τ,g,s',_,d',F',k1,k2,yM (by simp) k3,k4⟩
        | ret=>exact ⟨τ,g,s',_,d',F',k1,k2,yM (by simp) k3,k4⟩
        | panic ch=>exact ⟨τ,g,s',_,d',F',k1,k2,yM (by simp) k3,k4⟩
        | outgrown=>exact ⟨τ,g,s',_,d',F',k1,k2,yM (by simp) k3,k4⟩
     | cond x a1 a2 =>
       rw [sx] at h
       try simp only at h
       have hev:(d.c s N).S.ev nJ x=(tY d x).c s:=by rw [SL.ev_S,Nr s N d x]
       split at h
       ·rename_i t ht;have hx:(d.c s N).S.ev nJ x = .d (.val (.bool t)):=by rw [hev,ht,SV.c]
        cases t with
        | true =>
          obtain ⟨τ,g,s',e,d',F',k1,k2,k3,k4⟩:=ihn β f N _ a1 σ d F _ s b hp0 hk h;exact ⟨τ,g,s',e,d',F',k1,k2,pR hx (fun _=>k3) (fun hf=>by cases hf),k4⟩
        | false =>
          obtain ⟨τ,g,s',e,d',F',k1,k2,k3,k4⟩:=ihn β f N _ a2 σ d F _ s b hp0 hk h;exact ⟨τ,g,s',e,d',F',k1,k2,pR hx (fun hf=>by cases hf) (fun _=>k3),k4⟩
       ·rename_i cf hcf;have hx:(d.c s N).S.ev nJ x = .d (.val (.bool (cf s))):=by rw [hev,hcf,SV.c];rfl
        split at h
        ·rename_i t;have hget:(d.c s N).get t=bJ (cf s):=by rw [SL.ev_S] at hx;exact hx
         rw [TR.run] at h;cases hv:cf s with
         | true =>
           rw [hv] at h hx hget;obtain ⟨τ,g,s',e,d',F',k1,k2,k3,k4⟩:=ihn β f N _ a1 σ (zn d t true) F _ s b hp0 (mO hk (Bg d t true)) h;exact ⟨τ,g,s',e,d',F',k1,(Bg d t true).trans k2,pR hx (fun _=>ajw (J8 hget) k3) (fun hf=>by cases hf),k4⟩
         | false =>
           rw [hv] at h hx hget;obtain ⟨τ,g,s',e,d',F',k1,k2,k3,k4⟩:=ihn β f N _ a2 σ (zn d t false) F _ s b hp0 (mO hk (Bg d t false)) h;exact ⟨τ,g,s',e,d',F',k1,(Bg d t false).trans k2,pR hx (fun hf=>by cases hf) (fun _=>ajw (J8 hget) k3),k4⟩
        ·rw [TR.run] at h;cases hv:cf s with
         | true =>
           rw [hv] at h hx;obtain ⟨τ,g,s',e,d',F',k1,k2,k3,k4⟩:=ihn β f N _ a1 σ d F _ s b hp0 hk h;exact ⟨τ,g,s',e,d',F',k1,k2,pR hx (fun _=>k3) (fun hf=>by cases hf),k4⟩
         | false =>
           rw [hv] at h hx;obtain ⟨τ,g,s',e,d',F',k1,k2,k3,k4⟩:=ihn β f N _ a2 σ d F _ s b hp0 hk h;exact ⟨τ,g,s',e,d',F',k1,k2,pR hx (fun hf=>by cases hf) (fun _=>k3),k4⟩
       ·rw [TR.run] at h;cases h
     | block id a =>
       rw [sx] at h
       try simp only at h
       obtain ⟨τ,g,s',e,d',F',k1,k2,k3,k4⟩:=ihn β f N _ a σ d F _ s b hp0 hk h;cases e with
       | exit i =>
         simp only at k4;split at k4
         ·rename_i hi;have hi:=of_decide_eq_true hi;exact ⟨τ,g,s',_,d',F',k1,k2,iQ (dX k3 (by show (if i=id then _ else _);rw [if_pos hi];exact ⟨rfl,rfl⟩)),k4⟩
         ·rename_i hi;have hi:=of_decide_eq_false hi;exact ⟨τ,g,s',_,d',F',k1,k2,iQ (dX k3 (by show (if i=id then _ else _);rw [if_neg hi];exact ⟨rfl,rfl⟩)),k4⟩
       | normal=>exact ⟨τ,g,s',_,d',F',k1,k2,iQ (dX k3 ⟨rfl,rfl⟩),k4⟩
       | goto l=>exact ⟨τ,g,s',_,d',F',k1,k2,iQ (dX k3 ⟨rfl,rfl⟩),k4⟩
       | ret=>exact ⟨τ,g,s',_,d',F',k1,k2,iQ (dX k3 ⟨rfl,rfl⟩),k4⟩
       | panic ch=>exact ⟨τ,g,s',_,d',F',k1,k2,iQ (dX k3 ⟨rfl,rfl⟩),k4⟩
       | outgrown=>exact ⟨τ,g,s',_,d',F',k1,k2,iQ (dX k3 ⟨rfl,rfl⟩),k4⟩
     | scope a =>
       rw [sx] at h
       try simp only at h
       obtain ⟨τ,g,s',e,d',F',k1,k2,k3,k4⟩:=ihn β f N _ a σ d F _ s b hp0 hk h;cases e with
       | goto l=>simp only at k4;rw [TR.run] at k4;cases k4
       | exit i=>exact ⟨τ,g,s',_,d',F',k1,k2,kE (dX k3 ⟨rfl,rfl⟩),k4⟩
       | normal=>exact ⟨τ,g,s',_,d',F',k1,k2,kE (dX k3 ⟨rfl,rfl⟩),k4⟩
       | ret=>exact ⟨τ,g,s',_,d',F',k1,k2,kE (dX k3 ⟨rfl,rfl⟩),k4⟩
       | panic ch=>exact ⟨τ,g,s',_,d',F',k1,k2,kE (dX k3 ⟨rfl,rfl⟩),k4⟩
       | outgrown=>exact ⟨τ,g,s',_,d',F',k1,k2,kE (dX k3 ⟨rfl,rfl⟩),k4⟩
     | loop a =>
       cases hpl:plan (p*512+6) with
       | none =>
         rw [sx] at h;simp only [hpl] at h;exact (xM h).elim
       | some pl =>
         cases pl with
         | unroll =>
           obtain ⟨τ,g,s',e,d',F',k,k1,k2,k3,k4⟩:=TD ih n (Nat.lt_succ_self n) β f N p a σ d F K s b hp0 hk (.inl hpl) h;exact ⟨τ,g,s',e,d',F',k1,k2,EF k3,k4⟩
         | once =>
           obtain ⟨τ,g,s',e,d',F',k,k1,k2,k3,k4⟩:=TD ih n (Nat.lt_succ_self n) β f N p a σ d F K s b hp0 hk (.inr hpl) h;exact ⟨τ,g,s',e,d',F',k1,k2,EF k3,k4⟩
         | stop =>
           rw [sx] at h;simp only [hpl] at h;rw [TR.run] at h;cases h
         | carry its =>
           rw [sx] at h;simp only [hpl] at h;split at h
           ·exact (xM h).elim
           ·rename_i x hx;obtain ⟨c1,h2⟩:=oJ h;rw [TR.run] at h2;have hr:=tX.1 h2;have t0:=xH (N:=N) (Grow.refl d) hx c1 hk;have key:∀u,yX (fun u=>(sx (aO P) q tab con plan eg n ((bQ its).T ⊕ β) f N (p*512+6) a (σ×(bQ its).T) (headD d its) F (fun τ g e d' F'=>match e with
             | .normal=>CQ (p*512+6) (8*f) d its d'
             | e => .out (K τ (fun t=>(g t).1) e d' F'))).run (s,u)) u b ->
             ∃(τ:Type) (g:τ->σ) (s':τ) (e:Exit) (d':SS τ) (F' k:Nat),g s'=s/\Grow d g d'/\Rounds P nJ N hp0 a e (d'.c s' N) k ((headD d its).c (s,u) N)/\(K τ g e d' F').run s'=some b:=by
             intro u hu;generalize hb:b=b0 at hu
             induction hu with
             | done hd =>
               subst hb;obtain ⟨τ,g,s',e,d',F',k1,k2,k3,k4⟩:=ihn _ f N _ a _ (headD d its) F _ _ _ hp0 (mO hk (qo d its)) hd;have fin:e ≠ .normal->(TR.out (K τ (fun t=>(g t).1) e d' F'):TR ((bQ its).T ⊕ β) τ).run s'=some (.inr b)->∃(τ:Type) (g:τ->σ) (s':τ) (e:Exit) (d':SS τ) (F' k:Nat),g s'=s/\Grow d g d'/\Rounds P nJ N hp0 a e (d'.c s' N) k ((headD d its).c (s,_) N)/\(K τ g e d' F').run s'=some b:=fun hne hr=>by
                obtain ⟨b',b1,b2⟩:=lN hr;cases b2;exact ⟨τ,fun t=>(g t).1,s',e,d',F',0,by show (g s').1=s;rw [k1],(qo d its).trans k2,⟨hne,k3⟩,b1⟩
               cases e with
               | normal =>
                 simp only at k4;obtain ⟨z,z1,z2,z3⟩:=oh k4;cases z3
               | exit i=>exact fin (by simp) k4
               | goto l=>exact fin (by simp) k4
               | ret=>exact fin (by simp) k4
               | panic ch=>exact fin (by simp) k4
               | outgrown=>exact fin (by simp) k4
             | step hs hrest ihr =>
               obtain ⟨τ,g,s',e,d',F',k1,k2,k3,k4⟩:=ihn _ f N _ a _ (headD d its) F _ _ _ hp0 (mO hk (qo d its)) hs;cases e with
               | normal =>
                 simp only at k4;obtain ⟨z,z1,z2,z3⟩:=oh k4;cases z3;have ht:=xH (N:=N) ((qo d its).trans k2) z1 z2 hk;simp only [k1] at ht;obtain ⟨τ2,g2,s2,e2,d2,F2,m,m1,m2,m3,m4⟩:=ihr hb;exact ⟨τ2,g2,s2,e2,d2,F2,m+1,m1,m2,⟨_,_,k3,ht,m3⟩,m4⟩
               | exit i=>obtain ⟨b',_,hb'⟩:=lN k4;cases hb'
               | goto l=>obtain ⟨b',_,hb'⟩:=lN k4;cases hb'
               | ret=>obtain ⟨b',_,hb'⟩:=lN k4;cases hb'
               | panic ch=>obtain ⟨b',_,hb'⟩:=lN k4;cases hb'
               | outgrown=>obtain ⟨b',_,hb'⟩:=lN k4;cases hb'
            obtain ⟨τ,g,s',e,d',F',k,k1,k2,k3,k4⟩:=key _ hr;exact ⟨τ,g,s',e,d',F',k1,k2,Fz t0 (EF k3),k4⟩
     | rangeFunc _ _ _ _=>simp only [sx] at h;rw [TR.run] at h;cases h
     | goto _=>simp only [sx] at h;rw [TR.run] at h;cases h
     | refuse _=>simp only [sx] at h;rw [TR.run] at h;cases h
end
theorem TF {σ:Type}:∀(cs:List CS) (vs:List (SV σ)),Ew cs=true->Qp cs vs=[]
 | [],_,_=>rfl
 | .dat u::cs,[],_=>rfl
 | .dat u::cs,v::vs,h=>by rw [Qp,TF cs vs h];rfl
theorem NP:∀(cs:List CS) (x:(iw cs).T),Ew cs=true->Kq cs x=[]
 | [],_,_=>rfl
 | .dat u::cs,x,h=>by rw [Kq,NP cs _ h];rfl
theorem TG:∀(cs:List CS),Ew cs=true->eG cs=[]
 | [],_=>rfl
 | .dat u::cs,h=>TG cs h
section
variable {σ:Type} {s:σ} {rd:Nat->Option (SO σ)}
theorem NQ {cs:List CS} {vs:List (SV σ)} {p:PK σ (iw cs).T} (hd:Ew cs=true) (hp:Eu rd cs vs=some p) (hc:allT s p.cs):gJ (fun _=>none) (gu s rd) (aK []) (mM cs (p.f s)) (cL s vs) :=
 (AQ cs vs p hp hc (fun x _ r' hr=>by cases hr) (fun x hx=>by rw [TF cs vs hd] at hx;cases hx) (fun x hx=>by rw [NP cs _ hd] at hx;cases hx) (fun r hr=>by rw [TG cs hd] at hr;cases hr)).1
theorem CX:∀(ai:List IT) (vs:List (SV σ)) (p:PK σ (bQ ai).T),gY ai=true->ni rd ai vs=some p->allT s p.cs ->
 gJ (fun _=>none) (gu s rd) (aK []) ((jJ ai (p.f s)).map (·.2)) (cL s vs)
 | [],[],p,hd,hp,hc=>by
   rw [cL];show gJ _ _ _ [] [];rw [gJ]
 | .tmp t false cs::l,v::vs,p,hd,hp,hc=>by
   rw [ni] at hp;rw [gY,Bool.and_eq_true] at hd;split at hp
   ·rename_i x y hx hy;cases hp;rw [bK] at hc;have e1:iG (uI (.tmp t false cs)) (bQ l) (sO (iw cs) (bQ l) (x.f s) (y.f s))=x.f s:=jd _ _ _ _;have e2:jw (uI (.tmp t false cs)) (bQ l) (sO (iw cs) (bQ l) (x.f s) (y.f s))=y.f s:=jD _ _ _ _;have hA:=NQ hd.1 hx hc.1;have hB:=CX l vs y hd.2 hy hc.2;rw [cL,cL] at hA;rw [cL];simp only [jJ,e1,e2,List.map_append];show gJ _ _ _ (lC (mM cs (x.f s))::(jJ l (y.f s)).map (·.2)) _;rw [gJ];refine ⟨_,_,rfl,?_,hB⟩;generalize mM cs (x.f s)=ys at hA ⊢;cases ys with
    | nil=>rw [gJ] at hA;cases hA
    | cons y ys =>
      rw [gJ] at hA;obtain ⟨x,xs,h1,h2,h3⟩:=hA;cases h1;cases ys with
      | nil=>exact h2
      | cons z zs=>rw [gJ] at h3;obtain ⟨_,_,h4,_⟩:=h3;cases h4
   ·cases hp
 | .tmp t true cs::l,v::vs,p,hd,hp,hc=>by
   rw [gY,Bool.and_eq_true] at hd;cases v with
   | agg ws =>
     simp only [ni] at hp;split at hp
     ·rename_i x y hx hy;cases hp;rw [bK] at hc;have e1:iG (uI (.tmp t true cs)) (bQ l) (sO (iw cs) (bQ l) (x.f s) (y.f s))=x.f s:=jd _ _ _ _;have e2:jw (uI (.tmp t true cs)) (bQ l) (sO (iw cs) (bQ l) (x.f s) (y.f s))=y.f s:=jD _ _ _ _;have hA:=NQ hd.1 hx hc.1;have hB:=CX l vs y hd.2 hy hc.2;rw [cL];simp only [jJ,e1,e2,List.map_append];show gJ _ _ _ (.agg (mM cs (x.f s))::(jJ l (y.f s)).map (·.2)) _;rw [gJ];refine ⟨_,_,rfl,?_,hB⟩;rw [SV.c,eY];exact ⟨_,rfl,hA⟩
     ·cases hp
   | _=>simp only [ni] at hp;cases hp
 | [],_::_,p,_,hp,_=>by cases hp
 | .tmp _ true _::_,[],p,_,hp,_=>by cases hp
 | .tmp _ false _::_,[],p,_,hp,_=>by cases hp
 | .mix _ _::_,_,p,hd,_,_=>by cases hd
 | .row _ _ _::_,_,p,hd,_,_=>by cases hd
 | .arr _ _::_,_,p,hd,_,_=>by cases hd
 | .mp _::_,_,p,hd,_,_=>by cases hd
 | .drop _::_,_,p,hd,_,_=>by cases hd
 | .dead _::_,_,p,hd,_,_=>by cases hd
end
def Zn:Nat->List IT->Bool
 | _,[]=>true
 | i,.tmp t _ _::l=>decide (t=i)&&Zn (i+1) l
 | _,_=>false
theorem GU:∀(ai:List IT) (i:Nat) (x:(bQ ai).T),Zn i ai=true->jJ ai x=iT i ((jJ ai x).map (·.2))
 | [],i,x,_=>rfl
 | .tmp t true cs::l,i,x,h=>by
   rw [Zn,Bool.and_eq_true] at h;have ht:=of_decide_eq_true h.1;subst ht;show (t,AV.agg _)::jJ l _=iT t (AV.agg _::(jJ l _).map (·.2));rw [iT,<-GU l (t+1) _ h.2]
 | .tmp t false cs::l,i,x,h=>by
   rw [Zn,Bool.and_eq_true] at h;have ht:=of_decide_eq_true h.1;subst ht;show (t,lC _)::jJ l _=iT t (lC _::(jJ l _).map (·.2));rw [iT,<-GU l (t+1) _ h.2]
def Qy (fn:Func) (ai ri:List IT):Bool:=(gY ai&&gY ri)&&(Zn 0 ai&&decide (ai.length<=fn.ntmps))
theorem KH:∀(ai:List IT) (x:(bQ ai).T),gY ai=true->(jJ ai x).length=ai.length
 | [],_,_=>rfl
 | .tmp t true cs::l,x,h=>by
   rw [gY,Bool.and_eq_true] at h;show (jJ l _).length+1=_;rw [KH l _ h.2];rfl
 | .tmp t false cs::l,x,h=>by
   rw [gY,Bool.and_eq_true] at h;show (jJ l _).length+1=_;rw [KH l _ h.2];rfl
section
variable {P:Program} {L:List (List (Option TI))} {cs:List Nat} {con:Nat->Option CE} {plan:Nat->Option PL} {eg:Nat->Bool}
theorem acd (K:Facts P L cs) {l:List (Nat×Func)} (hl:IY P l) (hcon:∀f E,con f=some E->aB P (f % 1000000000) E) {f:Nat} {fn:Func} (hf:P.funcs[f]? = some fn) (hfn:qA P f=true) {ai ri:List IT} (hsh:Qy fn ai ri=true) (n:Nat)
 {G:(bQ ai).T->Option (bQ ri).T} (hG:∀a r,G a=some r->(Ze (yP (aO P) L) (qOf cs) (IZ l) con plan eg n f fn ai ri).run a=some r):aB P f ⟨ai,ri,G⟩:=by
 unfold Qy at hsh;rw [Bool.and_eq_true,Bool.and_eq_true,Bool.and_eq_true,decide_eq_true_eq] at hsh;obtain ⟨⟨s1,s2⟩,s3,s4⟩:=hsh;refine aB.mk hfn s1 s2 fun a r hr => ?_;have hrun:=hG a r hr;rw [<-K.hT] at hrun;unfold Ze at hrun;split at hrun
 ·rename_i c hb;obtain ⟨τ,g,s',e,d',F',h1,h2,h3,h4⟩:=NM (plan:=plan) K.hq K.hdp K.hm hcon (Ak hl) n _ f fn.ntmps 1 c _ _ 0 _ a r (aK []) (fun r hr=>by cases hr) hrun;unfold aju at h4;split at h4
  ·rw [TR.run] at h4;cases h4
  ·rename_i he;split at h4
   ·rw [TR.run] at h4;cases h4
   ·rename_i xs hxs;split at h4
    ·rename_i p hp;obtain ⟨c1,c2⟩:=oJ h4;rw [TR.run] at c2;cases c2;have hlen:((jJ ai a).map (·.2)).length<=fn.ntmps:=by rw [List.length_map,KH ai a s1];exact s4
     have hst:(⟨lX ai (fun s=>s),[]⟩:SS (bQ ai).T).c a fn.ntmps=⟨fn.ntmps,iT 0 ((jJ ai a).map (·.2)),[]⟩:=by
      show (⟨fn.ntmps,cT a (lX ai fun s=>s),[]⟩:SL)=_;rw [qJ];exact congrArg (fun t=>(⟨fn.ntmps,t,[]⟩:SL)) (GU ai 0 a s3)
     rw [hst] at h3;refine uO hf hb hlen h3 he (KF hxs) (IE ?_);have hw:=CX (s:=s') ri xs p s2 hp c1;rw [jX s' fn.ntmps] at hw;rw [lY];generalize cL s' xs=ys at hw;generalize (jJ ri (p.f s')).map (·.2)=zs at hw;have hw':gJ (fun _=>none) (aK (d'.c s' fn.ntmps).hp) (aK []) zs ys:=hw;cases zs with
     | nil=>rw [gJ] at hw';subst hw';show eY _ _ _ (.tup []) (.tup []);rw [eY];exact ⟨[],rfl,by rw [gJ]⟩
     | cons z zs =>
       rw [gJ] at hw';obtain ⟨y,ys',rfl,k1,k2⟩:=hw';cases zs with
       | nil=>rw [gJ] at k2;subst k2;exact k1
       | cons z2 zs =>
         rw [gJ] at k2;obtain ⟨y2,ys2,rfl,k3,k4⟩:=k2;show eY _ _ _ (.tup (z::z2::zs)) (.tup (y::y2::ys2));rw [eY];exact ⟨_,rfl,by rw [gJ];exact ⟨y,_,rfl,k1,by rw [gJ];exact ⟨y2,ys2,rfl,k3,k4⟩⟩⟩
    ·rw [TR.run] at h4;cases h4
 ·rw [TR.run] at hrun;cases hrun
theorem NR:∀(l:List (Nat×AV)) (i:Nat),l.map (·.1)=List.range' i l.length->l=iT i (l.map (·.2))
 | [],_,_=>rfl
 | x::l,i,h=>by
   rw [List.map_cons,List.length_cons,List.range'_succ] at h;injection h with h1 h2;rw [List.map_cons,iT,<-NR l (i+1) h2,<-h1]
def Zo (fn:Func) (ai ri:List IT):Bool:=(isNat 0 (nM ai)&&decide ((nM ai).length<=fn.ntmps))&&(isNat 0 (nM ri)&&decide ((nM ri).length=fn.results.size))
theorem NS (l:List IT) (x:(bQ l).T):(jJ l x).length=(nM l).length:=by rw [<-ug l x,List.length_map]
theorem bV (K:Facts P L cs) {l:List (Nat×Func)} (hl:IY P l) (hcon:∀f E,con f=some E->aB P (f % 1000000000) E) {f:Nat} {fn:Func} (hf:P.funcs[f]? = some fn) (hfn:qA P f=true) {ai ri:List IT} (hsh:Zo fn ai ri=true) (n:Nat)
 {G:(bQ ai).T->Option (bQ ri).T} (hG:∀a r,G a=some r->(adU (yP (aO P) L) (qOf cs) (IZ l) con plan eg n f fn ai ri).run a=some r):ab6 P f ⟨ai,ri,G⟩:=by
 unfold Zo at hsh;rw [Bool.and_eq_true,Bool.and_eq_true,Bool.and_eq_true,decide_eq_true_eq,decide_eq_true_eq] at hsh;obtain ⟨⟨s1,s2⟩,s3,s4⟩:=hsh;refine ⟨hfn,fun a r hr => ?_⟩;have hrun:=hG a r hr;rw [<-K.hT] at hrun;unfold adU at hrun;split at hrun
 ·rename_i c hb;have hO:cO a (gX ai (fun s=>s))=lM ai a:=xA a ai _;have hk0:∀r,((aK (lM ai a)) r).isSome=true->(look r (⟨lX ai (fun s=>s),gX ai (fun s=>s)⟩:SS (bQ ai).T).hp).isSome=true:=fun r hr=>by
   unfold aK at hr;rw [<-hO,jI] at hr;show (look r (gX ai (fun s=>s))).isSome=true;cases hl:look r (gX ai (fun s:(bQ ai).T=>s)) with
   | none=>rw [hl] at hr;cases hr
   | some o=>rfl
  obtain ⟨τ,g,s',e,d',F',g1,g2,g3,g4⟩:=NM (plan:=plan) K.hq K.hdp K.hm hcon (Ak hl) n _ f fn.ntmps 1 c _ _ 0 _ a r (aK (lM ai a)) hk0 hrun;unfold ajv at g4;split at g4
  ·rw [TR.run] at g4;cases g4
  ·rename_i he;split at g4
   ·rw [TR.run] at g4;cases g4
   ·rename_i xs hxs;split at g4
    ·rename_i p hp;obtain ⟨c1,c2⟩:=oJ g4;rw [TR.run] at c2;cases c2;have hlen:((jJ ai a).map (·.2)).length<=fn.ntmps:=by rw [List.length_map,NS];exact s2
     have hst:(⟨lX ai (fun s=>s),gX ai (fun s=>s)⟩:SS (bQ ai).T).c a fn.ntmps=⟨fn.ntmps,iT 0 ((jJ ai a).map (·.2)),lM ai a⟩:=by
      show (⟨fn.ntmps,cT a (lX ai fun s=>s),cO a (gX ai fun s=>s)⟩:SL)=_;rw [qJ,hO];refine congrArg (fun t=>(⟨fn.ntmps,t,lM ai a⟩:SL)) (NR _ 0 ?_);rw [ug,xK s1,NS]
     rw [hst] at g3;have hrs:xs.length=fn.results.size:=by have:=(EP (s:=s') (N:=fn.ntmps) _ _ hxs).2;rw [this,Array.length_toList]
     have hgr:Grow (⟨[],gX ai (fun s=>s)⟩:SS (bQ ai).T) g (⟨o7 0 xs,d'.hp⟩:SS τ):=⟨⟨o7 0 xs,(List.append_nil _).symm⟩,g2.hp⟩
     obtain ⟨θ,q1,q2,q3⟩:=zu (N:=fn.ntmps) hgr hp c1;rw [g1] at q1 q2 q3;have hH:((headD (⟨[],gX ai (fun s=>s)⟩:SS (bQ ai).T) ri).c (a,p.f s') fn.ntmps).hp=lM ri (p.f s')++lM ai a:=by
      show cO (a,p.f s') (gX ri Prod.snd++iV Prod.fst (gX ai (fun s=>s)))=_;rw [cZ,xA,oH,hO]
     have hT:((headD (⟨[],gX ai (fun s=>s)⟩:SS (bQ ai).T) ri).c (a,p.f s') fn.ntmps).tm=jJ ri (p.f s'):=by
      show cT (a,p.f s') (lX ri Prod.snd++lu Prod.fst [])=_;rw [show lu (Prod.fst:(bQ ai).T×(bQ ri).T->(bQ ai).T) []=[] from rfl,List.append_nil,qJ]
     have hR:((headD (⟨[],gX ai (fun s=>s)⟩:SS (bQ ai).T) ri).c (a,p.f s') fn.ntmps).rd=aK (lM ri (p.f s')++lM ai a):=by
      unfold SL.rd aK;rw [hH]
     rw [hR] at q1 q2 q3;rw [hT] at q3;refine uO hf hb hlen g3 he (KF hxs) ⟨θ,fun r o ho => ?_,q2,?_⟩
     ·exact q1 r (hk0 r (by unfold aK;rw [ho];rfl))
     ·rw [lY];refine Zj (KG _ _ 0 ?_ fun x hx => ?_)
      ·rw [ug,xK s3,iq,s4,hrs]
      ·have hnd:((jJ ri (p.f s')).map (·.1)).Nodup:=by rw [ug,xK s3];exact List.nodup_range'
       have:=q3 x.1 x.2 (EO hnd hx);unfold SL.get at this;rw [show (SS.c s' fn.ntmps (⟨o7 0 xs,d'.hp⟩:SS τ)).tm=iT 0 (cL s' xs) from GR s' 0 xs] at this;rw [lV] at this;simp only [Nat.zero_le,if_true,Nat.sub_zero] at this;exact this
    ·split at g4
     ·rw [TR.run] at g4;cases g4
     ·exact (xM g4).elim
 ·rw [TR.run] at hrun;cases hrun
theorem dF {f:Nat} {E:CE} (h:ab6 P f E) (hd:Qu E=false):aB P f E:=by
 unfold aB;rw [hd];exact h
end
end Go.Proofs.YtigfeinnobfflaaGreat
namespace Go.Proofs.YtigfeinnobfflaaGreat
open Go.ChangeShapes Go.WideShapes Go.Deep Go.RowKit
def Xx:(u:U)->u.T->Prop
 | .int k,n=>(Lit.int k n).wf=true
 | .bool,_=>True
 | .str,s=>s.length<=maxLen
 | .list t,l=>l.length<=maxLen/\∀x∈l,Xx t x
 | .pair a b,p=>Xx a p.1/\Xx b p.2
 | .unit,_=>True
theorem GV {u:Option U} {l:List (Option U)} {w:U} (h:Gg.pairs (u::l)=some w):(l=[]/\u=some w)\/∃a b,u=some a/\Gg.pairs l=some b/\w = .pair a b:=by
 cases l with
 | nil=>exact .inl ⟨rfl,h⟩
 | cons v l =>
   have e:Gg.pairs (u::v::l)=match u,Gg.pairs (v::l) with | some u,some v=>some (.pair u v) | _,_=>none:=by
    cases u<;>cases hp:Gg.pairs (v::l)<;>simp [Gg.pairs,hp]
   rw [e] at h;split at h
   ·rename_i a b _ hb;cases h;exact .inr ⟨a,b,rfl,hb,rfl⟩
   ·cases h
theorem xO {T:Ty}:∀(m n t:Nat) (u:U) (ds:List DV),Gg T n t=some u->vU T m t=true->Sh T m t ds->∃x:u.T,ds=gq u x/\Xx u x
 | 0,n,t,u,ds,hu,hd,h=>h.elim
 | m+1,0,t,u,ds,hu,hd,h=>by cases hu
 | m+1,n+1,t,u,ds,hu,hd,h=>by
   rw [Sh] at h;rw [Gg] at hu;rw [vU] at hd;cases hT:T t with
   | none=>rw [hT] at h;exact h.elim
   | some i =>
     rw [hT] at h hu hd;simp only at h hu hd;obtain ⟨hlen,h⟩:=h;split at hu
     ·rename_i k hk;cases hu;rw [hk] at h;obtain ⟨x,rfl,hx⟩:=h;exact ⟨x,rfl,hx⟩
     ·rename_i hk;cases hu;rw [hk] at h;obtain ⟨b,rfl⟩:=h;exact ⟨b,rfl,trivial⟩
     ·rename_i hk;cases hu;rw [hk] at h;obtain ⟨s,rfl,hs⟩:=h;refine ⟨s.data.toList,?_,?_⟩
      ·show [DV.val (.string s)]=[.val (.string ⟨s.data.toList.toArray⟩)]
       rw [Array.toArray_toList]
      ·show s.data.toList.length<=maxLen;rw [Array.length_toList];exact hs
     ·rename_i e hk;rw [hk] at h hd;obtain ⟨rows,rfl,h1,h2⟩:=h;simp only at hd;split at hu
      ·rename_i w hw;cases hu;cases hTe:T e with
       | none=>rw [hTe] at hd;cases hd
       | some ei =>
         rw [hTe] at hd;simp only [Bool.and_eq_true] at hd;have key:∀rows:List (List DV),(∀r∈rows,Sh T m e r)->∃l:List w.T,rows.flatten=l.flatMap (gq w)/\rows.length=l.length/\∀a∈l,Xx w a:=by
          intro rows
          induction rows with
          | nil=>intro _;exact ⟨[],rfl,rfl,fun a ha=>by cases ha⟩
          | cons r rows ih =>
            intro hr;obtain ⟨l,k1,k2,k3⟩:=ih fun r' h'=>hr r' (List.mem_cons_of_mem _ h');obtain ⟨a,rfl,ha⟩:=xO m n e w r hw hd.2.2 (hr r List.mem_cons_self);refine ⟨a::l,by rw [List.flatten_cons,List.flatMap_cons,k1],by rw [List.length_cons,List.length_cons,k2],fun b hb => ?_⟩;rcases List.mem_cons.1 hb with rfl | hb
            ·exact ha
            ·exact k3 b hb
         obtain ⟨l,k1,k2,k3⟩:=key rows h2;exact ⟨l,by rw [k1,k2];rfl,by show l.length<=maxLen;omega,k3⟩
      ·cases hu
     ·rename_i fs hk;rw [hk] at h hd;simp only [Bool.and_eq_true] at hd;obtain ⟨hd1,hd2⟩:=hd;have key:∀(fs:List (Nat×Nat)) (o:Nat) (u:U),Gg.pairs (fs.map fun f=>Gg T n f.2)=some u->oV T o fs i.size=true->(∀f∈fs,vU T m f.2=true)->(∀f∈fs,∃fi,T f.2=some fi/\Sh T m f.2 ((ds.drop f.1).take fi.size))->∃x:u.T,ds.drop o=gq u x/\Xx u x:=by
       intro fs
       induction fs with
       | nil =>
         intro o u hu hc _ _;cases hu;rw [oV] at hc;have:=eq_of_beq hc;exact ⟨(),by rw [List.drop_eq_nil_of_le (by omega)];rfl,trivial⟩
       | cons f fs ih =>
         intro o u hu hc hdd hf;obtain ⟨fo,ft⟩:=f;rw [oV,Bool.and_eq_true] at hc;obtain ⟨hc1,hc2⟩:=hc;have hc1:=eq_of_beq hc1;subst hc1;obtain ⟨fi,f1,f2⟩:=hf (fo,ft) List.mem_cons_self;simp only at f1 f2;rw [f1] at hc2;simp only at hc2;rw [List.map_cons] at hu;have hdf:=hdd (fo,ft) List.mem_cons_self;rcases GV hu with ⟨e1,e2⟩ | ⟨a,b,e1,e2,rfl⟩
         ·obtain ⟨x,x1,x2⟩:=xO m n ft u _ e2 hdf f2;refine ⟨x,?_,x2⟩;have:fs=[]:=by cases fs with | nil=>rfl | cons _ _=>cases e1
          subst this;rw [oV] at hc2;have:=eq_of_beq hc2;rw [<-x1,List.take_of_length_le (by rw [List.length_drop];omega)]
         ·obtain ⟨x,x1,x2⟩:=xO m n ft a _ e1 hdf f2;obtain ⟨y,y1,y2⟩:=ih (fo+fi.size) b e2 hc2 (fun f hf'=>hdd f (List.mem_cons_of_mem _ hf')) (fun f hf'=>hf f (List.mem_cons_of_mem _ hf'));refine ⟨(x,y),?_,x2,y2⟩;show _=gq a x++gq b y;rw [<-x1,<-y1,<-List.drop_drop,List.take_append_drop]
      obtain ⟨x,x1,x2⟩:=key fs 0 u hu hd1 (fun f hf=>List.all_eq_true.1 hd2 f hf) h;rw [List.drop_zero] at x1;exact ⟨x,x1,x2⟩
     ·rename_i ka ea hk;rw [hk] at h hd;obtain ⟨ei,hei,h⟩:=h;simp only [hei,Bool.and_eq_true] at hd;obtain ⟨hd1,hd2⟩:=hd;have hmap:(Vd ka ea ei.size).map (fun f=>Gg T n f.2)=List.replicate ka (Gg T n ea):=by
       unfold Vd;rw [List.map_map];apply List.ext_getElem
       ·simp
       ·intro q q1 q2;simp
      rw [<-hmap] at hu;have key:∀(fs:List (Nat×Nat)) (o:Nat) (u:U),Gg.pairs (fs.map fun f=>Gg T n f.2)=some u->oV T o fs i.size=true->(∀f∈fs,vU T m f.2=true)->(∀f∈fs,∃fi,T f.2=some fi/\Sh T m f.2 ((ds.drop f.1).take fi.size))->∃x:u.T,ds.drop o=gq u x/\Xx u x:=by
       intro fs
       induction fs with
       | nil =>
         intro o u hu hc _ _;cases hu;rw [oV] at hc;have:=eq_of_beq hc;exact ⟨(),by rw [List.drop_eq_nil_of_le (by omega)];rfl,trivial⟩
       | cons f fs ih =>
         intro o u hu hc hdd hf;obtain ⟨fo,ft⟩:=f;rw [oV,Bool.and_eq_true] at hc;obtain ⟨hc1,hc2⟩:=hc;have hc1:=eq_of_beq hc1;subst hc1;obtain ⟨fi,f1,f2⟩:=hf (fo,ft) List.mem_cons_self;simp only at f1 f2;rw [f1] at hc2;simp only at hc2;rw [List.map_cons] at hu;have hdf:=hdd (fo,ft) List.mem_cons_self;rcases GV hu with ⟨e1,e2⟩ | ⟨a,b,e1,e2,rfl⟩
         ·obtain ⟨x,x1,x2⟩:=xO m n ft u _ e2 hdf f2;refine ⟨x,?_,x2⟩;have:fs=[]:=by cases fs with | nil=>rfl | cons _ _=>cases e1
          subst this;rw [oV] at hc2;have:=eq_of_beq hc2;rw [<-x1,List.take_of_length_le (by rw [List.length_drop];omega)]
         ·obtain ⟨x,x1,x2⟩:=xO m n ft a _ e1 hdf f2;obtain ⟨y,y1,y2⟩:=ih (fo+fi.size) b e2 hc2 (fun f hf'=>hdd f (List.mem_cons_of_mem _ hf')) (fun f hf'=>hf f (List.mem_cons_of_mem _ hf'));refine ⟨(x,y),?_,x2,y2⟩;show _=gq a x++gq b y;rw [<-x1,<-y1,<-List.drop_drop,List.take_append_drop]
      obtain ⟨x,x1,x2⟩:=key (Vd ka ea ei.size) 0 u hu hd1 (fun f hf=>by obtain ⟨_,_,rfl⟩:=List.mem_map.1 hf;exact hd2) h;rw [List.drop_zero] at x1;exact ⟨x,x1,x2⟩
     ·rename_i h1 h2 h3 h4 h5 h6;cases hk:i.k<;>rw [hk] at hd<;>first | (cases hd;done) | exact (h1 _ hk).elim | exact (h2 hk).elim | exact (h3 hk).elim | exact (h4 _ hk).elim | exact (h5 _ hk).elim | exact (h6 _ _ hk).elim
def pJ:U->List CS
 | .pair a b=>pJ a++pJ b
 | .unit=>[]
 | u=>[.dat u]
def WfC:(c:CS)->(uC c).T->Prop
 | .dat u,x=>Xx u x
 | _,_=>True
def KI:(cs:List CS)->(iw cs).T->Prop
 | [],_=>True
 | c::cs,x=>WfC c (iG (uC c) (iw cs) x)/\KI cs (jw (uC c) (iw cs) x)
theorem Jq:∀(a b:List CS) (x:(iw a).T) (y:(iw b).T),∃z:(iw (a++b)).T,mM (a++b) z=mM a x++mM b y/\(KI a x->KI b y->KI (a++b) z)
 | [],b,x,y=>⟨y,rfl,fun _ h=>h⟩
 | c::a,b,x,y=>by
   obtain ⟨z,h1,h2⟩:=Jq a b (jw (uC c) (iw a) x) y;refine ⟨sO (uC c) (iw (a++b)) (iG (uC c) (iw a) x) z,?_,fun w1 w2 => ?_⟩
   ·show aC c (iG (uC c) (iw (a++b)) (sO (uC c) (iw (a++b)) _ z))::mM (a++b) (jw (uC c) (iw (a++b)) (sO (uC c) (iw (a++b)) _ z))=aC c _::mM a _++mM b y;rw [jd,jD,h1];rfl
   ·refine ⟨?_,?_⟩
    ·exact (congrArg (WfC c) (jd (uC c) (iw (a++b)) (iG (uC c) (iw a) x) z)).mpr w1.1
    ·exact (congrArg (KI (a++b)) (jD (uC c) (iw (a++b)) (iG (uC c) (iw a) x) z)).mpr (h2 w1.2 w2)
theorem cells_one (u:U) (x:u.T) (hs:pJ u=[.dat u]) (h:aC (.dat u) x = .d ((gq u x).headD (.val .nilFunc))) (h1:eH u=1) (hw:Xx u x):∃z:(iw [.dat u]).T,mM [.dat u] z=(gq u x).map .d/\KI [.dat u] z:=by
 refine ⟨sO u .unit x (),?_,?_⟩
 ·show [aC (.dat u) (iG u .unit (sO u .unit x ()))]=_;rw [jd,h];have:=dB u x;rw [h1] at this;cases he:gq u x with
  | nil=>rw [he] at this;cases this
  | cons d ds =>
    rw [he] at this;cases ds with
    | nil=>rfl
    | cons _ _=>cases this
 ·refine ⟨?_,trivial⟩;show Xx u (iG u .unit (sO u .unit x ()));rw [jd];exact hw
theorem mP:∀(u:U) (x:u.T),Xx u x->∃z:(iw (pJ u)).T,mM (pJ u) z=(gq u x).map .d/\KI (pJ u) z
 | .int k,x,h=>cells_one (.int k) x rfl rfl rfl h
 | .bool,x,h=>cells_one .bool x rfl rfl rfl h
 | .str,x,h=>cells_one .str x rfl rfl rfl h
 | .list t,x,h=>cells_one (.list t) x rfl rfl rfl h
 | .unit,x,h=>⟨(),rfl,trivial⟩
 | .pair a b,x,h=>by
   obtain ⟨z1,g1,w1⟩:=mP a x.1 h.1;obtain ⟨z2,g2,w2⟩:=mP b x.2 h.2;obtain ⟨z,g3,w3⟩:=Jq _ _ z1 z2;refine ⟨z,?_,w3 w1 w2⟩;show mM (pJ a++pJ b) z=(gq a x.1++gq b x.2).map .d;rw [g3,g1,g2,List.map_append]
def WfI:(i:IT)->(uI i).T->Prop
 | .tmp _ _ cs,x=>KI cs x
 | _,_=>True
def Qz:(l:List IT)->(bQ l).T->Prop
 | [],_=>True
 | i::l,x=>WfI i (iG (uI i) (bQ l) x)/\Qz l (jw (uI i) (bQ l) x)
def ajx (T:Ty) (j t:Nat):Option IT :=
 match T t,Gg T 20 t with
 | some i,some u=>match i.k with
   | .agg _=>some (.tmp j true (pJ u))
   | .arr _ _=>some (.tmp j true (pJ u))
   | _=>some (.tmp j false [.dat u])
 | _,_=>none
def adV (E:En) (i:IT) (v:Value):Prop:=∃y:(uI i).T,WfI i y/\∃x,(aT i y).map (·.2)=[x]/\Rel E x v
theorem Zp {E:En}:∃a:(bQ []).T,Qz [] a/\aG E ((jJ [] a).map (·.2)) []:=⟨(),trivial,by show aG E [] [];rw [aG]⟩
theorem Jr {E:En} {i:IT} {l:List IT} {v:Value} {vs:List Value} (h:adV E i v) (k:∃a:(bQ l).T,Qz l a/\aG E ((jJ l a).map (·.2)) vs):∃a:(bQ (i::l)).T,Qz (i::l) a/\aG E ((jJ (i::l) a).map (·.2)) (v::vs):=by
 obtain ⟨y,w1,x,e,hr⟩:=h;obtain ⟨a,w2,hrl⟩:=k;refine ⟨sO (uI i) (bQ l) y a,⟨?_,?_⟩,?_⟩
 ·exact (congrArg (WfI i) (jd (uI i) (bQ l) y a)).mpr w1
 ·exact (congrArg (Qz l) (jD (uI i) (bQ l) y a)).mpr w2
 ·show aG E ((aT i (iG (uI i) (bQ l) (sO (uI i) (bQ l) y a))++jJ l (jw (uI i) (bQ l) (sO (uI i) (bQ l) y a))).map (·.2)) (v::vs);rw [jd,jD,List.map_append,e];show aG E (x::_) _;rw [aG];exact ⟨v,vs,rfl,hr,hrl⟩
section
variable {H:Type} {ec:TypeId×Value->H} {P:Program} {W:World} {base:Nat} {spare:Nat->Bool} {held:Bool} {T:Ty} {m t j:Nat} {v:Value} {d:DataW H} {ps:List MemPlace}
theorem open_arg (hT:aO P=T) (hd:vU T 20 t=true) {i:IT} (hi:ajx T j t=some i) {b0:Nat} (hv:v.okWide P W .any b0 t) (h:DataW.Trod ec P W base spare held t v d ps):adV (E0 W) i v:=by
 unfold ajx at hi;split at hi
 ·rename_i ti u hti hu;split at hi
  ·rename_i fs hk;cases hi;obtain ⟨ds,h1,h2⟩:=MQ (m:=20) hT hd (by rw [hti];simp only [hk]) hv h;obtain ⟨x,rfl,hx⟩:=xO 20 20 t u ds hu hd h1;obtain ⟨z,z1,z2⟩:=mP u x hx;refine ⟨z,z2,_,rfl,?_⟩;show Rel (E0 W) (.agg (mM (pJ u) z)) v;rw [z1];exact h2
  ·rename_i ka ea hk;cases hi;obtain ⟨ds,h1,h2⟩:=MQ (m:=20) hT hd (by rw [hti];simp only [hk]) hv h;obtain ⟨x,rfl,hx⟩:=xO 20 20 t u ds hu hd h1;obtain ⟨z,z1,z2⟩:=mP u x hx;refine ⟨z,z2,_,rfl,?_⟩;show Rel (E0 W) (.agg (mM (pJ u) z)) v;rw [z1];exact h2
  ·rename_i hk hna0;cases hi;have hna:∀k n,ti.k ≠ .arr k n:=fun k n e=>hna0 _ _ e;obtain ⟨x,h1,h2⟩:=Yh (m:=20) hT hd (by rw [hti];show (!ti.k.isAgg)=true;cases hkk:ti.k<;>first | rfl | exact (hk _ hkk).elim | exact (hna _ _ hkk).elim) hv h;obtain ⟨y,e,hy⟩:=xO 20 20 t u [x] hu hd h1;have hz:∃z:(iw [.dat u]).T,mM [.dat u] z=(gq u y).map .d/\KI [.dat u] z:=by
    have hl:=congrArg List.length e;rw [dB] at hl;cases u with
    | int k=>exact mP _ y hy
    | bool=>exact mP _ y hy
    | str=>exact mP _ y hy
    | list w=>exact mP _ y hy
    | unit=>cases hl
    | pair a b =>
      exfalso;rw [Gg,hti] at hu;simp only at hu;cases hkk:ti.k with
      | agg fs=>exact hk _ hkk
      | arr k n=>exact hna _ _ hkk
      | slice e=>rw [hkk] at hu;simp only at hu;split at hu<;>cases hu
      | _=>rw [hkk] at hu;cases hu
   obtain ⟨z,z1,z2⟩:=hz;refine ⟨z,z2,_,rfl,?_⟩;show Rel (E0 W) (lC (mM [.dat u] z)) v;rw [z1,<-e];exact h2
 ·cases hi
end
def fA (l:List (Nat×PL)) (p:Nat):Option PL:=gV p l
def dD:Nat->Bool:=fun _=>false
def Zq (l:List (Nat×CE)) (f:Nat):Option CE:=gV f l
def cu (P:Program):List (Nat×CE)->Prop
 | []=>True
 | (f,E)::l=>aB P (f % 1000000000) E/\cu P l
theorem bM {P:Program} {l:List (Nat×CE)} (h:cu P l):∀f E,Zq l f=some E->aB P (f % 1000000000) E:=by
 intro f E hE;unfold Zq at hE;rw [gW] at hE
 induction l with
 | nil=>cases hE
 | cons x l ih =>
   obtain ⟨k,E'⟩:=x;rw [look] at hE;split at hE
   ·rename_i hk;subst hk;cases hE;exact h.1
   ·exact ih h.2 hE
def riB:List IT:=[.tmp 0 false [.dat .bool]]
theorem TJ {P:Program} {f:Nat} {ai:List IT} {G:(bQ ai).T->Option Bool} (h:aB P f ⟨ai,riB,G⟩) {a:(bQ ai).T} (hG:G a=some true) (hd:gY ai=true:=by rfl):fZ P nJ f ((jJ ai a).map (·.2)) [] (bJ true) []:=by
 unfold aB at h;have e:Qu ⟨ai,riB,G⟩=true:=by unfold Qu;rw [hd];rfl
 rw [e] at h;exact h.2 a true hG
def ah {α β:Type} (x:Option α) (f:α->Option β):Option β:=match x with | some a=>f a | none=>none
def au {α β:Type} (x:Option (α ⊕ β)) (f:α->Option β):Option β:=match x with | some (.inl u)=>f u | some (.inr x)=>some x | none=>none
def aA {α β:Type} (x:Option β):Option (α ⊕ β):=match x with | some b=>some (.inr b) | none=>none
end Go.Proofs.YtigfeinnobfflaaGreat
