import Derived.Test.YtigfeinnobfflaaGreatJ20p
import Derived.Test.YtigfeinnobfflaaGreatZ3p
import Derived.Test.YtigfeinnobfflaaGreatXBp
import Derived.Test.YtigfeinnobfflaaGreatU3p
set_option linter.unusedSimpArgs false
set_option linter.unusedVariables false
set_option maxRecDepth 100000
set_option maxHeartbeats 4000000
namespace Go.Proofs.YtigfeinnobfflaaGreat
open Go.RowKit
theorem Lj {v:Vl} {c:Ca} (h:LV v) {n:Int} (hn:v.now<=n/\n<=1000000) :
 So (aV (n,(v.t,c.t))) (fun r=>∃v':Vl,r=v'.t/\v'.fails=false/\v'.due=(left n v.p.j.q).map jr/\v'.done=maxS v.done (due n v.p.j.q)):=by
 have hjv:=h.pv.2.1;have hdl:=vI n v.p.j.q;have hql:=hjv.len;have hsl:=h.sl;unfold aV;refine So.bind (adn (n:=(v.sent.length:Int)) (by omega) h.pv ⟨by have:=h.jn;omega,hn.2⟩) fun r hr => ?_;obtain ⟨r1,l,e0⟩:=r;obtain ⟨⟨sd,e⟩,hsd,he0⟩:=hr;simp only at e hsd he0;subst e he0;refine So.if (fun hf=>by rw [h.ff] at hf;cases hf) fun _=>So.eq4 ?_;have hheed:=Uj (v:={v with p:={v.p with j:=v.p.j.run n,sd:=sd},now:=n,fails:=false}) (c:=c) (rest:=left n v.p.j.q) hsd (by omega) (by show v.due=_;rw [jP];exact h.due) (fun w hw=>h.snt w (sD hw)) (fun w hw=>Rl hw) (fun w hw=>La hjv.2.2.1 hw) rfl;refine So.is hheed (So.le3 (.mk ⟨{v with p:={v.p with j:=v.p.j.run n,sd:=sd},now:=n,fails:=false,done:=maxS v.done (due n v.p.j.q),due:=(left n v.p.j.q).map jr},?_,rfl,rfl,rfl⟩));simp only [Vl.t,List.take_length]
theorem Xq.mono {sent:List (List Int)} {w:WT} (h:Xq sent w) (x:List Int):Xq (sent++[x]) w:=by
 have hl:=h.lt;obtain ⟨h1,y,h2,h3⟩:=h;exact ⟨h1,y,by rw [List.getElem?_append_left (by omega)];exact h2,h3⟩
theorem KW.mono {n m:Int} {t:Bool×(Int×Int)} (h:KW n t) (hm:n<=m):KW m t:=by
 rcases h with h | ⟨h1,h2,h3,h4⟩
 ·exact .inl h
 ·exact .inr ⟨h1,h2,by omega,h4⟩
theorem PV.mono {n m:Int} {p:Pt} (h:PV n p) (hm:n<=m):PV m p:=⟨h.1,h.2.1,h.2.2.1.mono hm,h.2.2.2⟩
structure adv (v:Vl) (c:Ca) (v':Vl) (c':Ca):Prop where
 lv:LV v'
 p:v'.p=v.p
 now:v'.now=v.now
 count:v'.count=v.count
 due:v'.due=v.due
 done:v'.done=v.done
 tm:v'.f.tm=v.f.tm+160
 cd:v'.f.cd=v.f.cd
 how:(v'.sent=v.sent/\c'=c/\10<=v.f.qu)\/(∃x mk ty py,v'.sent=v.sent++[x]/\pO ty py/\Xq v'.sent (0,((v.sent.length:Int),(v.f.tm,(mk,(ty,py)))))/\CaV c'/\c'.fs=c.fs/\c'.sent=c.sent+1/\c'.now=v.now/\c'.ps.length<=c.ps.length+2/\(∀p∈c'.ps,p∈c.ps\/C9 p=Dh mk ty (v.sent.length:Int) v.f.tm 7 py)/\∀dl,c.fs.getD c.sent.toNat (false,(0,(false,0)))=(false,(dl,(false,0)))->∃p,c'.ps=c.ps++[p]/\C9 p=Dh mk ty (v.sent.length:Int) v.f.tm 7 py/\pat p=v.now+dl)
theorem So.le4 {α:Type} {n m k i:Nat} {a b:Option α} {P:α->Prop} (h:So a P):So (bif (decide (n<=n)&&(decide (m<=m)&&(decide (k<=k)&&decide (i<=i)))) then a else b) P:=by
 rw [decide_eq_true (Nat.le_refl n),decide_eq_true (Nat.le_refl m),decide_eq_true (Nat.le_refl k),decide_eq_true (Nat.le_refl i)];exact h
theorem aaJ {v:Vl} {c:Ca} (h:LV v) (hc:CaV c) (hcn:c.now<=v.now) (hcs:c.sent<=800) (hcl:c.ps.length<=180) (hs:v.sent.length<=65) (ht:v.f.tm<=14000) {fr:List Int} (hl:fr.length=160) (hf:Oy fr) :
 So (bD (fr,(v.t,c.t))) (fun r=>∃(v':Vl) (c':Ca),r=(v'.t,c'.t)/\adv v c v' c'):=by
 have hnw:=h.nw;have hfv:=h.fv;unfold bD;refine So.bind (adq h.fv hl hf) fun r hr => ?_;obtain ⟨r1,pk,e0⟩:=r;obtain ⟨he0,f',e,hcd,htm,hdv,hpk⟩:=hr;simp only at he0 e hpk;subst he0 e;have hsq:=h.sq;refine So.neg (by omega) ?_;have hlv0:∀(sq':f'.sq=f'.sq),FV f':=fun _=>⟨by rw [hcd];exact h.fv.1,by have:=h.sl;rcases hpk with ⟨_,e,_⟩ | ⟨e,_⟩<;>omega,by have:=hfv.2.2.1;omega,hdv⟩
 have hfv':=hlv0 rfl;rcases hpk with ⟨rfl,hsq',hq10⟩ | ⟨hsq',mk,ty,py,rfl,hpay,hty⟩
 ·refine So.neg (by simp) (So.le4 ?_);refine So.loop (fun s=>s=(0,(({v with f:=f'}:Vl).t,c.t))) (fun _=>0) (fun s hs' => ?_) (by simp only [Vl.t,List.take_length];rfl);subst hs';refine So.neg (by simp) (.out (So.le4 (.mk ⟨{v with f:=f'},c,by simp only [Vl.t,Ca.t,List.take_length],?_⟩)));exact ⟨⟨hfv',hsq'.trans hsq,h.sl,h.pv,h.jn,h.nw,h.due,h.dn,h.snt,h.dv,h.ow,h.cn,h.ff,h.fw⟩,rfl,rfl,rfl,rfl,rfl,htm,hcd,.inl ⟨rfl,rfl,hq10⟩⟩
 ·refine So.neg (by simp) (So.le4 ?_)
  -- what the packet is turned into
  obtain ⟨tyE,pyE,snd,sE,hE1,hE2,hE3,hE4⟩:∃tyE pyE snd,∃sE:Int×Int,pO tyE pyE/\vF sE/\(snd≠[]->tyE≠13/\snd=Le tyE pyE)/\((ty≠f'.cd/\tyE=ty/\pyE=py/\snd=[]/\sE=v.st)\/(ty=f'.cd/\tyE=v.p.cd/\bP (v.p.cd,pyE)=some snd/\snd.length=160/\∃l,bP (f'.cd,py)=some l/\dN (v.p.cd,(l,v.st))=some (pyE,sE)/\bT (f'.cd,(v.p.cd,(py,v.st)))=some (pyE,(sE,0)))):=by
   have hcf:ET f'.cd:=by rw [hcd];exact h.fv.1
   by_cases hc':ty=f'.cd
   ·subst hc';obtain ⟨l,pb,s',t1,t2,t3,t4,t5⟩:=adp hcf h.pv.1 hpay h.dv;obtain ⟨l2,u1,u2,u3,u4,_⟩:=aki h.pv.1 t4;exact ⟨v.p.cd,pb,l2,s',t4,t5,fun _=>⟨(Ru h.pv.1).1,u3.symm⟩,.inr ⟨rfl,rfl,u4,u1,l,t1,t2,t3⟩⟩
   ·exact ⟨ty,py,[],v.st,hpay,h.dv,fun hn=>(hn rfl).elim,.inl ⟨hc',rfl,rfl,rfl,rfl⟩⟩
  have hd:(Dh mk tyE v.f.sq v.f.tm 7 pyE).length<=2000:=by have:=aal (mk:=mk) (ty:=tyE) (sq:=v.f.sq) (tm:=v.f.tm) (sr:=7) hE1.len.1;omega
  have hsend:=agL hc [97] [98] hd (n:=v.now) ⟨hcn,by omega⟩ (by omega) (by omega);have henc:=aj2 (mk:=mk) (tm:=v.f.tm) (sr:=7) hE1.len.2 (sq:=v.f.sq) ⟨by omega,by omega⟩ hE1.len.1;have hSn:Xq (v.sent++[snd]) (0,((v.sent.length:Int),(v.f.tm,(mk,(tyE,pyE))))):=by
   refine ⟨by simp,snd,?_,hE3⟩;simp only [Int.toNat_natCast];rw [List.getElem?_append_right (Nat.le_refl _),Nat.sub_self];rfl
  have hlv:LV {v with f:=f',sent:=v.sent++[snd],st:=sE,ow:=sE}:=by
   refine ⟨hfv',?_,?_,?_,h.jn,h.nw,h.due,h.dn,fun w hw=>(h.snt w hw).mono snd,hE2,rfl,h.cn,h.ff,h.fw⟩
   ·show f'.sq=((v.sent++[snd]).length:Int)
    rw [List.length_append];simp only [List.length_cons,List.length_nil];omega
   ·show (v.sent++[snd]).length<=70;rw [List.length_append];simp only [List.length_cons,List.length_nil];omega
   ·refine h.pv.mono ?_;show (v.sent.length:Int)<=((v.sent++[snd]).length:Int)
    rw [List.length_append];omega
  refine So.loop (fun s=>s=(0,(({v with f:=f'}:Vl).t,c.t))\/∃(v':Vl) (c':Ca),s=(1,(v'.t,c'.t))/\adv v c v' c') (fun s=>(1-s.1).toNat) (fun s hs' => ?_) (.inl (by simp only [Vl.t,List.take_length];rfl));rcases hs' with rfl | ⟨v',c',rfl,hok⟩
  ·refine So.pos (by simp) (So.pos (by simp) (So.is rfl ?_));refine So.join (P:=fun s=>s=(snd,(({v with f:=f',st:=sE,ow:=sE}:Vl).t,Ui mk tyE v.f.sq v.f.tm pyE))) ?_ fun s hs => ?_
   ·rcases hE4 with ⟨e1,rfl,rfl,rfl,rfl⟩ | ⟨e1,rfl,e3,e4,l,t1,t2,t3⟩
    ·refine So.neg (p:=tyE=f'.cd) e1 (So.le3 (.inl ?_));simp only [Vl.t,List.take_length,h.ow]
     try rfl
    ·refine So.pos (p:=ty=f'.cd) e1 (So.is t3 (So.is t1 (So.is (by rw [<-t2,<-h.ow]) ?_)));refine So.join (P:=fun s=>s=({v with f:=f',fails:=false}:Vl).t) (So.if (fun hf=>(Bool.false_ne_true (h.ff.symm.trans hf)).elim) fun _=>So.neg (by omega) (So.le3 (.inl ?_))) fun s hs => ?_
     ·simp only [Vl.t,List.take_length];rw [decide_eq_false (by simp)]
     ·subst hs;refine So.is e3 (So.if (fun hf=>by cases hf) fun _=>So.le3 (.inl ?_));rw [e4];simp only [Vl.t,List.take_length,h.ff];rfl
   ·subst hs;refine So.is henc (So.pos rfl (So.bind hsend fun r hr=>So.if (fun hf=>(Bool.false_ne_true (h.ff.symm.trans hf)).elim) fun _=>So.neg (by omega) ?_));obtain ⟨num,e0,r3⟩:=r;obtain ⟨he0,c',rfl,k1,k2,k3,k4,k5,k6,k7⟩:=hr;simp only at he0;subst he0;have hq:IntKind.wrap .i64 v.f.sq=v.f.sq:=aj (by omega);refine So.neg (p:=(0:Int)≠0) (by omega) (So.le (So.pos (by rw [List.length_append,List.take_length];show (v.sent.length+1)*24<=140737488355328;omega) (So.is rfl (So.le4 (.inl ⟨.inr ⟨{v with f:=f',sent:=v.sent++[snd],st:=sE,ow:=sE},c',?_,hlv,rfl,rfl,rfl,rfl,rfl,htm,hcd,.inr ⟨snd,mk,tyE,pyE,rfl,hE1,hSn,k1,k2,k3,k4,k5,?_,?_⟩⟩,?_⟩)))))
    ·simp only [Vl.t,Ca.t,List.take_length,Ui,hq,h.ff];rw [decide_eq_false (by omega),aj (n:=(0:Int)+1) (by omega)];rfl
    ·rw [<-hsq];exact k6
    ·rw [<-hsq];exact k7
    ·show (1-IntKind.wrap .i64 (0+1)).toNat<(1-(0:Int)).toNat;rw [aj (n:=(0:Int)+1) (by omega)];omega
  ·refine So.neg (by simp) (.out (So.le4 (.mk ⟨v',c',?_,hok⟩)));simp only [Vl.t,Ca.t,List.take_length]
theorem Om {α:Type} (p:α->Bool) (l:List α):(l.filter p).length+(l.filter fun x => !p x).length=l.length:=by
 induction l with
 | nil=>rfl
 | cons a l ih =>
   cases h:p a with
   | true=>simp [List.filter_cons,h];omega
   | false=>simp [List.filter_cons,h];omega
structure KOk (K:Vl->List (List Int)->Ca->Prop):Prop where
 ca:∀v ds c,K v ds c->CaV c/\v.fails=false/\c.now<=v.now/\0<=v.now/\v.now<=900000
 rc:∀v c x,K v [] c->(∃p∈c.ps,pat p=x)->bf v.now x<=900000->∀ds:List (List Int),ds.length=(c.ps.filter (gI (bf v.now x))).length->(∀d∈ds,∃p∈c.ps.filter (gI (bf v.now x)),d=C9 p)->K {v with now:=bf v.now x} ds {c with ps:=c.ps.filter (fun p => !gI (bf v.now x) p),now:=bf v.now x}
 ar:∀v d ds c,K v (d::ds) c->So (dA (d,(v.t,c.t))) (fun r=>∃v':Vl,r=v'.t/\v'.now=v.now/\K v' ds c)
def Pk (sent:List (List Int)) (d:List Int):Prop:=∃mk ty k tm py,d=Dh mk ty k tm 7 py/\pO ty py/\(0<=tm/\tm<=15000)/\Xq sent (0,(k,(tm,(mk,(ty,py)))))
theorem Pk.mono {sent:List (List Int)} {d:List Int} (h:Pk sent d) (x:List Int):Pk (sent++[x]) d:=by
 obtain ⟨mk,ty,k,tm,py,h1,h2,h3,h4⟩:=h;exact ⟨mk,ty,k,tm,py,h1,h2,h3,h4.mono x⟩
structure GK (v0:Vl) (v:Vl) (ds:List (List Int)) (c:Ca):Prop where
 lv:LV v
 ca:CaV c
 cn:c.now<=v.now
 f:v.f=v0.f
 sent:v.sent=v0.sent
 cd:v.p.cd=v0.p.cd
 cs:c.sent=(v.sent.length:Int)
 ps:∀p∈c.ps,Pk v.sent (C9 p)
 dk:∀d∈ds,Pk v.sent d
 ct:v.count+ds.length+c.ps.length<=2*v.sent.length
theorem Bl {a b:Int}:a<=bf a b/\b<=bf a b:=by unfold bf;split<;>omega
theorem LV.later {v:Vl} (h:LV v) {n:Int} (hn:v.now<=n/\n<=900000):LV {v with now:=n} :=
 ⟨h.fv,h.sq,h.sl,h.pv,by have:=h.jn;show v.p.j.now<=n;omega,by have:=h.nw;show 0<=n/\n<=900000;omega,h.due,h.dn,h.snt,h.dv,h.ow,h.cn,h.ff,fun w hw=>by have:=h.fw w hw;show w.1<=n+120000;omega⟩
theorem GK.recv {v0 v:Vl} {c:Ca} (h:GK v0 v [] c) {n:Int} (hn:v.now<=n/\n<=900000) {ds:List (List Int)} (hl:ds.length=(c.ps.filter (gI n)).length) (hd:∀d∈ds,∃p∈c.ps.filter (gI n),d=C9 p):GK v0 {v with now:=n} ds {c with ps:=c.ps.filter (fun p => !gI n p),now:=n}:=by
 have hf:=Om (gI n) c.ps;have hct:=h.ct;obtain ⟨q1,q2,q3,q4,q5,q6⟩:=h.ca;refine ⟨h.lv.later hn,⟨q1,fun p hp=>q2 p (List.mem_filter.1 hp).1,by show (c.ps.filter fun p => !gI n p).length<=190;omega,q4,q5,by have:=h.lv.nw;show 0<=n/\n<=1000000;omega⟩,Int.le_refl _,h.f,h.sent,h.cd,h.cs,fun p hp=>h.ps p (List.mem_filter.1 hp).1,fun d hd' => ?_,?_⟩
 ·obtain ⟨p,hp,rfl⟩:=hd d hd';exact h.ps p (List.mem_filter.1 hp).1
 ·show v.count+(ds.length:Int)+((c.ps.filter fun p => !gI n p).length:Int)<=2*v.sent.length;simp only [List.length_nil] at hct;omega
theorem GK.arr {v0 v:Vl} {c:Ca} {d:List Int} {ds:List (List Int)} (h:GK v0 v (d::ds) c) {k tm:Int} {mk:Bool} {ty:Int} {py:List Int} {v':Vl} (ha:aiI v k tm mk ty py v'):GK v0 v' ds c:=by
 have hct:=h.ct;simp only [List.length_cons] at hct;refine ⟨ha.lv,h.ca,by rw [ha.now];exact h.cn,ha.f.trans h.f,ha.sent.trans h.sent,ha.cd.trans h.cd,by rw [ha.sent];exact h.cs,fun p hp=>by rw [ha.sent];exact h.ps p hp,fun d hd=>by rw [ha.sent];exact h.dk d (List.mem_cons_of_mem _ hd),?_⟩;rw [ha.count,ha.sent];omega
theorem aeH (v0:Vl):KOk (GK v0):=by
 refine ⟨fun v ds c h=>⟨h.ca,h.lv.ff,h.cn,h.lv.nw⟩,fun v c x h hx hn ds hl hd=>h.recv ⟨Bl.1,hn⟩ hl hd,fun v d ds c h => ?_⟩;obtain ⟨mk,ty,k,tm,py,rfl,h2,h3,h4⟩:=h.dk d (List.mem_cons_self ..);have hct:=h.ct;have hsl:=h.lv.sl;simp only [List.length_cons] at hct;refine (aaI h.lv (c:=c) h2 h3 h4 (by omega)).imp fun r hr => ?_;obtain ⟨v',e,ha⟩:=hr;exact ⟨v',e,ha.now,h.arr ha⟩
def EK (v0:Vl) (fs:List FT) (T k tm:Int) (mk:Bool) (ty:Int) (py:List Int) (v:Vl) (ds:List (List Int)) (c:Ca):Prop :=
 GK v0 v ds c/\c.fs=fs/\v.now<=T/\((v.p.j=v0.p.j/\ds=[]/\∃p,c.ps=[p]/\C9 p=Dh mk ty k tm 7 py/\pat p=T)\/(v.now=T/\v.p.j=v0.p.j/\ds=[Dh mk ty k tm 7 py]/\c.ps=[])\/(v.now=T/\v.p.j=(v0.p.j.put T k tm mk ty py).1/\ds=[]/\c.ps=[]))
theorem aeI (v0:Vl) {fs:List FT} {T k tm:Int} {mk:Bool} {ty:Int} {py:List Int} (hi:0<=tm/\tm<=15000) (hp:pO ty py) (hS:Xq v0.sent (0,(k,(tm,(mk,(ty,py)))))):KOk (EK v0 fs T k tm mk ty py):=by
 refine ⟨fun v ds c h=>⟨h.1.ca,h.1.lv.ff,h.1.cn,h.1.lv.nw⟩,fun v c x h hx hn ds hl hd => ?_,fun v d ds c h => ?_⟩
 ·obtain ⟨hg,hfs,hnow,hph⟩:=h;have hg':=hg.recv ⟨Bl.1,hn⟩ hl hd;rcases hph with ⟨h1,_,p,h3,h4,h5⟩ | ⟨_,_,h2,_⟩ | ⟨_,_,_,h3⟩
  ·obtain ⟨q,hq,hqx⟩:=hx;rw [h3,List.mem_singleton] at hq;have hxe:bf v.now x=T:=by rw [<-hqx,hq,h5];unfold bf;split<;>omega
   have hb:gI T p=true:=decide_eq_true (by omega);have hf1:c.ps.filter (gI T)=[p]:=by rw [h3];simp [hb]
   have hf2:c.ps.filter (fun p => !gI T p)=[]:=by rw [h3];simp [hb]
   rw [hxe] at hl hd hg' ⊢;rw [hf1] at hl hd;refine ⟨hg',hfs,Int.le_refl _,.inr (.inl ⟨rfl,h1,?_,hf2⟩)⟩
   match ds,hl with
   | [d],_ =>
     obtain ⟨p',hp',e⟩:=hd d (List.mem_cons_self ..);rw [List.mem_singleton] at hp';rw [e,hp',h4]
  ·cases h2
  ·obtain ⟨q,hq,_⟩:=hx;rw [h3] at hq;cases hq
 ·obtain ⟨hg,hfs,hnow,hph⟩:=h;rcases hph with ⟨_,h2,_⟩ | ⟨h0,h1,h2,h3⟩ | ⟨_,_,h2,_⟩
  ·cases h2
  ·obtain ⟨rfl,rfl⟩:=List.cons.inj h2;have hct:=hg.ct;have hsl:=hg.lv.sl;simp only [List.length_cons] at hct;refine (aaI hg.lv (c:=c) hp hi (by rw [hg.sent];exact hS) (by omega)).imp fun r hr => ?_;obtain ⟨v',e,ha⟩:=hr;refine ⟨v',e,ha.now,hg.arr ha,hfs,by rw [ha.now];exact hnow,.inr (.inr ⟨ha.now.trans h0,?_,rfl,h3⟩)⟩;rw [ha.j,h0,h1]
  ·cases h2
theorem Ll (a i:Int):So (gK (a,i)) (fun f=>f.length=160/\Oy f):=by
 unfold gK;refine So.join (P:=fun v=>v.length=160/\Oy v) (So.loop (fun s=>0<=s.1/\s.1<=160/\s.2.length=160/\Oy s.2) (fun s=>(160-s.1).toNat) (fun s hs => ?_) ⟨by simp,by simp,by simp,fun x hx=>by rw [(List.mem_replicate.1 hx).2];omega⟩) fun v hv => ?_
 ·obtain ⟨n,v⟩:=s;obtain ⟨h1,h2,h3,h4⟩:=hs;simp only at h1 h2 h3 h4;refine So.dec (fun h => ?_) fun _ => .out (.inl ⟨h3,h4⟩);have h:n<160:=h;refine So.pos ⟨h1,h⟩ (So.get (show n.toNat<v.length by omega) fun x _ _ => ?_);rw [aj (n:=n+1) (by omega)];refine .inl ⟨⟨by simp only;omega,by simp only;omega,by simp only [List.length_set];exact h3,fun y hy => ?_⟩,by simp only;omega⟩;rcases List.mem_or_eq_of_mem_set hy with e | e
  ·exact h4 y e
  ·rw [e];exact vk _
 ·refine So.pos (by omega) (.mk ⟨by rw [List.length_take];omega,fun x hx=>hv.2 x (List.mem_of_mem_take hx)⟩)
theorem pF {x:Int} (h:0<=x):So (aJ x) ET:=by
 unfold aJ;have h1:Int.tmod x 3=x % 3:=Int.tmod_eq_emod_of_nonneg h;rw [h1];refine So.is rfl (So.pos (by omega) (.mk ?_));have h2:x % 3=0\/x % 3=1\/x % 3=2:=by omega
 rcases h2 with h2 | h2 | h2<;>rw [h2]<;>unfold ET<;>decide
set_option maxRecDepth 1000000
set_option maxHeartbeats 0
def akn:List (Nat×PL):=[(513,(.carry [.mix 20000050 (([fB,(.ki .u32 (7)),(.dat (.int .u16)),(.dat (.int .u32)),dO,dI,dI,dI,(.kb false),(.ki .u8 (0)),(.ki .u8 (0)),(.ki .u32 (0)),(.ki .i64 (0)),(.ki .i64 (0)),(.ki .i64 (1)),(.ki .i64 (1)),(.ki .i64 (0)),(.kb false),(.ki .i64 (0)),(.ki .i64 (0)),(.ki .i64 (-1)),(.ki .i64 (-1)),(.ki .i64 (0)),(.ki .i64 (0)),.nil,(.ki .i64 (0)),(.ki .i64 (0)),(.ki .i64 (0)),(.kb false),(.ki .i64 (0)),(.ki .i64 (0)),(.ki .i64 (0)),(.kb false),(.ki .i64 (0)),(.ki .i64 (0)),(.ki .i64 (0)),(.ki .i64 (0)),(.ki .i64 (0)),(.ki .i64 (0)),(.ki .i64 (0)),(.kb false),(.ki .u32 (0)),(.ki .u8 (0)),(.ki .i64 (0)),(.kb false),(.ki .u32 (7)),(.dat (.int .u32)),(.dat (.int .u32)),fB,(.ki .u32 (8))]:List CS)++([(.ki .u16 (0)),(.ki .u32 (0)),(.kb true),(.ki .i64 (0)),(.ki .i64 (0)),(.ki .i64 (0)),(.kb false),(.ki .u8 (0)),(.ki .u8 (0)),(.ki .u32 (0)),(.ki .i64 (0)),(.ki .i64 (0)),dI,dI,dI,dO,dI,dI,dI,dI,dI,dI,(.dat (.list (.pair ak (.pair ak (.pair ak (.pair .bool (.pair aX (.list aX)))))))),dI,dI,dI,dO,dI,dI,dI,dO,dI,dI,dI,dI,dI,dI,dI,(.kb false),(.ki .u32 (0)),(.ki .u8 (0)),(.ki .i64 (0)),(.kb false),(.dat (.int .u32)),(.ki .u32 (0)),(.ki .u32 (0)),(.pt 20000010 0),dI,dI,(.own 10000016 62 (.list (.int .i16)))]:List CS)++([(.dat (.list (.pair ak ak))),(.own 10000017 234 (.pair aX (.pair .bool (.pair (.int .u32) ak)))),(.own 10000018 31 (.int .u32)),dI,dI,dI,dI,dI,dI,dI,dO]:List CS)),.dead 20000051,.dead 20000052,.dead 20000053,.mix 20000010 [(.kb true),(.dat (.list (.pair .bool (.pair ak (.pair .bool ak))))),(.own 10000019 112 (.pair (.pair .bool (.pair ak (.pair .bool ak))) (.pair ak (.pair .str (.pair .str (.pair ak (.pair .bool (.list aX)))))))),dI,dI,dI],.dead 20000011])),(68719740934,(.carry [.tmp 4 false [dI],.mix 20000050 (([fB,(.ki .u32 (7)),(.dat (.int .u16)),(.dat (.int .u32)),dO,dI,dI,dI,(.kb false),(.ki .u8 (0)),(.ki .u8 (0)),(.ki .u32 (0)),(.ki .i64 (0)),(.ki .i64 (0)),(.ki .i64 (1)),(.ki .i64 (1)),(.ki .i64 (0)),(.kb false),(.ki .i64 (0)),(.ki .i64 (0)),(.ki .i64 (-1)),(.ki .i64 (-1)),(.ki .i64 (0)),(.ki .i64 (0)),.nil,(.ki .i64 (0)),(.ki .i64 (0)),(.ki .i64 (0)),(.kb false),(.ki .i64 (0)),(.ki .i64 (0)),(.ki .i64 (0)),(.kb false),(.ki .i64 (0)),(.ki .i64 (0)),(.ki .i64 (0)),(.ki .i64 (0)),(.ki .i64 (0)),(.ki .i64 (0)),(.ki .i64 (0)),(.kb false),(.ki .u32 (0)),(.ki .u8 (0)),(.ki .i64 (0)),(.kb false),(.ki .u32 (7)),(.dat (.int .u32)),(.dat (.int .u32)),fB,(.ki .u32 (8))]:List CS)++([(.ki .u16 (0)),(.ki .u32 (0)),(.kb true),(.ki .i64 (0)),(.ki .i64 (0)),(.ki .i64 (0)),(.kb false),(.ki .u8 (0)),(.ki .u8 (0)),(.ki .u32 (0)),(.ki .i64 (0)),(.ki .i64 (0)),dI,dI,dI,dO,dI,dI,dI,dI,dI,dI,(.dat (.list (.pair ak (.pair ak (.pair ak (.pair .bool (.pair aX (.list aX)))))))),dI,dI,dI,dO,dI,dI,dI,dO,dI,dI,dI,dI,dI,dI,dI,(.kb false),(.ki .u32 (0)),(.ki .u8 (0)),(.ki .i64 (0)),(.kb false),(.dat (.int .u32)),(.ki .u32 (0)),(.ki .u32 (0)),(.pt 20000010 0),dI,dI,(.own 10000012 62 (.list (.int .i16)))]:List CS)++([(.dat (.list (.pair ak ak))),(.own 10000013 234 (.pair aX (.pair .bool (.pair (.int .u32) ak)))),(.own 10000014 31 (.int .u32)),dI,dI,dI,dI,dI,dI,dI,dO]:List CS)),.dead 20000051,.dead 20000052,.dead 20000053,.mix 20000010 [(.kb true),(.dat (.list (.pair .bool (.pair ak (.pair .bool ak))))),(.own 10000015 112 (.pair (.pair .bool (.pair ak (.pair .bool ak))) (.pair ak (.pair .str (.pair .str (.pair ak (.pair .bool (.list aX)))))))),dI,dI,dI],.dead 20000011])),(18014467767403009,(.carry [.tmp 9 false [dI],.tmp 8 false [fB],.tmp 7 false [(.own 10000007 83 (.pair ak (.pair .str (.pair .str (.pair ak (.list aX))))))],.tmp 6 false [dO],.tmp 5 false [dI],.mix 20000050 (([fB,(.ki .u32 (7)),(.dat (.int .u16)),(.dat (.int .u32)),dO,dI,dI,dI,(.kb false),(.ki .u8 (0)),(.ki .u8 (0)),(.ki .u32 (0)),(.ki .i64 (0)),(.ki .i64 (0)),(.ki .i64 (1)),(.ki .i64 (1)),(.ki .i64 (0)),(.kb false),(.ki .i64 (0)),(.ki .i64 (0)),(.ki .i64 (-1)),(.ki .i64 (-1)),(.ki .i64 (0)),(.ki .i64 (0)),.nil,(.ki .i64 (0)),(.ki .i64 (0)),(.ki .i64 (0)),(.kb false),(.ki .i64 (0)),(.ki .i64 (0)),(.ki .i64 (0)),(.kb false),(.ki .i64 (0)),(.ki .i64 (0)),(.ki .i64 (0)),(.ki .i64 (0)),(.ki .i64 (0)),(.ki .i64 (0)),(.ki .i64 (0)),(.kb false),(.ki .u32 (0)),(.ki .u8 (0)),(.ki .i64 (0)),(.kb false),(.ki .u32 (7)),(.dat (.int .u32)),(.dat (.int .u32)),fB,(.ki .u32 (8))]:List CS)++([(.ki .u16 (0)),(.ki .u32 (0)),(.kb true),(.ki .i64 (0)),(.ki .i64 (0)),(.ki .i64 (0)),(.kb false),(.ki .u8 (0)),(.ki .u8 (0)),(.ki .u32 (0)),(.ki .i64 (0)),(.ki .i64 (0)),dI,dI,dI,dO,dI,dI,dI,dI,dI,dI,(.dat (.list (.pair ak (.pair ak (.pair ak (.pair .bool (.pair aX (.list aX)))))))),dI,dI,dI,dO,dI,dI,dI,dO,dI,dI,dI,dI,dI,dI,dI,(.kb false),(.ki .u32 (0)),(.ki .u8 (0)),(.ki .i64 (0)),(.kb false),(.dat (.int .u32)),(.ki .u32 (0)),(.ki .u32 (0)),(.pt 20000010 0),dI,dI,(.own 10000008 62 (.list (.int .i16)))]:List CS)++([(.dat (.list (.pair ak ak))),(.own 10000009 234 (.pair aX (.pair .bool (.pair (.int .u32) ak)))),(.own 10000010 31 (.int .u32)),dI,dI,dI,dI,dI,dI,dI,dO]:List CS)),.dead 20000051,.dead 20000052,.dead 20000053,.dead 10000012,.dead 10000013,.dead 10000014,.mix 20000010 [(.kb true),(.dat (.list (.pair .bool (.pair ak (.pair .bool ak))))),(.own 10000011 112 (.pair (.pair .bool (.pair ak (.pair .bool ak))) (.pair ak (.pair .str (.pair .str (.pair ak (.pair .bool (.list aX)))))))),dI,dI,dI],.dead 10000015,.dead 20000011])),(324519801298215991490525385720321,(.carry [.mix 20000050 (([fB,(.ki .u32 (7)),(.dat (.int .u16)),(.dat (.int .u32)),dO,dI,dI,dI,(.kb false),(.ki .u8 (0)),(.ki .u8 (0)),(.ki .u32 (0)),(.ki .i64 (0)),(.ki .i64 (0)),(.ki .i64 (1)),(.ki .i64 (1)),(.ki .i64 (0)),(.kb false),(.ki .i64 (0)),(.ki .i64 (0)),(.ki .i64 (-1)),(.ki .i64 (-1)),(.ki .i64 (0)),(.ki .i64 (0)),.nil,(.ki .i64 (0)),(.ki .i64 (0)),(.ki .i64 (0)),(.kb false),(.ki .i64 (0)),(.ki .i64 (0)),(.ki .i64 (0)),(.kb false),(.ki .i64 (0)),(.ki .i64 (0)),(.ki .i64 (0)),(.ki .i64 (0)),(.ki .i64 (0)),(.ki .i64 (0)),(.ki .i64 (0)),(.kb false),(.ki .u32 (0)),(.ki .u8 (0)),(.ki .i64 (0)),(.kb false),(.ki .u32 (7)),(.dat (.int .u32)),(.dat (.int .u32)),fB,(.ki .u32 (8))]:List CS)++([(.ki .u16 (0)),(.ki .u32 (0)),(.kb true),(.ki .i64 (0)),(.ki .i64 (0)),(.ki .i64 (0)),(.kb false),(.ki .u8 (0)),(.ki .u8 (0)),(.ki .u32 (0)),(.ki .i64 (0)),(.ki .i64 (0)),dI,dI,dI,dO,dI,dI,dI,dI,dI,dI,(.dat (.list (.pair ak (.pair ak (.pair ak (.pair .bool (.pair aX (.list aX)))))))),dI,dI,dI,dO,dI,dI,dI,dO,dI,dI,dI,dI,dI,dI,dI,(.kb false),(.ki .u32 (0)),(.ki .u8 (0)),(.ki .i64 (0)),(.kb false),(.dat (.int .u32)),(.ki .u32 (0)),(.ki .u32 (0)),(.pt 20000010 0),dI,dI,(.own 10000001 62 (.list (.int .i16)))]:List CS)++([(.dat (.list (.pair ak ak))),(.own 10000002 234 (.pair aX (.pair .bool (.pair (.int .u32) ak)))),(.own 10000003 31 (.int .u32)),dI,dI,dI,dI,dI,dI,dI,dO]:List CS)),.dead 20000051,.dead 20000052,.dead 20000053,.dead 10000012,.dead 10000013,.dead 10000014])),(43556310421258000831125650797705128314886,(.carry [.tmp 9 false [dI],.mix 20000050 (([fB,(.ki .u32 (7)),(.dat (.int .u16)),(.dat (.int .u32)),dO,dI,dI,dI,(.kb false),(.ki .u8 (0)),(.ki .u8 (0)),(.ki .u32 (0)),(.ki .i64 (0)),(.ki .i64 (0)),(.ki .i64 (1)),(.ki .i64 (1)),(.ki .i64 (0)),(.kb false),(.ki .i64 (0)),(.ki .i64 (0)),(.ki .i64 (-1)),(.ki .i64 (-1)),(.ki .i64 (0)),(.ki .i64 (0)),.nil,(.ki .i64 (0)),(.ki .i64 (0)),(.ki .i64 (0)),(.kb false),(.ki .i64 (0)),(.ki .i64 (0)),(.ki .i64 (0)),(.kb false),(.ki .i64 (0)),(.ki .i64 (0)),(.ki .i64 (0)),(.ki .i64 (0)),(.ki .i64 (0)),(.ki .i64 (0)),(.ki .i64 (0)),(.kb false),(.ki .u32 (0)),(.ki .u8 (0)),(.ki .i64 (0)),(.kb false),(.ki .u32 (7)),(.dat (.int .u32)),(.dat (.int .u32)),fB,(.ki .u32 (8))]:List CS)++([(.ki .u16 (0)),(.ki .u32 (0)),(.kb true),(.ki .i64 (0)),(.ki .i64 (0)),(.ki .i64 (0)),(.kb false),(.ki .u8 (0)),(.ki .u8 (0)),(.ki .u32 (0)),(.ki .i64 (0)),(.ki .i64 (0)),dI,dI,dI,dO,dI,dI,dI,dI,dI,dI,(.dat (.list (.pair ak (.pair ak (.pair ak (.pair .bool (.pair aX (.list aX)))))))),dI,dI,dI,dO,dI,dI,dI,dO,dI,dI,dI,dI,dI,dI,dI,(.kb false),(.ki .u32 (0)),(.ki .u8 (0)),(.ki .i64 (0)),(.kb false),(.dat (.int .u32)),(.ki .u32 (0)),(.ki .u32 (0)),(.pt 20000010 0),dI,dI,(.own 10000004 62 (.list (.int .i16)))]:List CS)++([(.dat (.list (.pair ak ak))),(.own 10000005 234 (.pair aX (.pair .bool (.pair (.int .u32) ak)))),(.own 10000006 31 (.int .u32)),dI,dI,dI,dI,dI,dI,dI,dO]:List CS)),.dead 10000001,.dead 10000002,.dead 10000003]))]
noncomputable def aI:(Int×((Int×(Int×(Int×(Bool×(Int×(Int×(Int×(Int×(Int×(Int×(Int×(Int×(Int×(Bool×(Int×(Int×(Int×(Int×(Int×(Int×((List (Int×(Int×(Int×(Bool×(Int×LN))))))×(Int×(Int×(Int×(Bool×(Int×(Int×(Int×(Bool×(Int×(Int×(Int×(Int×(Int×(Int×(Int×(Int×(Int×(Int×((List LN)×((List (Int×Int))×((List (Int×(Bool×(Int×Int))))×(LN×(Int×(Int×(Int×(Int×(Int×(Int×(Int×Bool))))))))))))))))))))))))))))))))))))))))))))))))))×((List (Bool×(Int×(Bool×Int))))×((List ((Bool×(Int×(Bool×Int)))×(Int×(LU×(LU×(Int×(Bool×LN)))))))×(Int×(Int×Int))))))->Option ((Int×(Int×(Int×(Bool×(Int×(Int×(Int×(Int×(Int×(Int×(Int×(Int×(Int×(Bool×(Int×(Int×(Int×(Int×(Int×(Int×((List (Int×(Int×(Int×(Bool×(Int×LN))))))×(Int×(Int×(Int×(Bool×(Int×(Int×(Int×(Bool×(Int×(Int×(Int×(Int×(Int×(Int×(Int×(Int×(Int×(Int×((List LN)×((List (Int×Int))×((List (Int×(Bool×(Int×Int))))×(LN×(Int×(Int×(Int×(Int×(Int×(Int×(Int×Bool))))))))))))))))))))))))))))))))))))))))))))))))))×((List (Bool×(Int×(Bool×Int))))×((List ((Bool×(Int×(Bool×Int)))×(Int×(LU×(LU×(Int×(Bool×LN)))))))×(Int×(Int×Int))))):=fun (a1,((a2,(a3,(a4,(a5,(a6,(a7,(a8,(a9,(a10,(a11,(a12,(a13,(a14,(a15,(a16,(a17,(a18,(a19,(a20,(a21,(a22,(a23,(a24,(a25,(a26,(a27,(a28,(a29,(a30,(a31,(a32,(a33,(a34,(a35,(a36,(a37,(a38,(a39,(a40,(a41,(a42,(a43,(a44,(a45,(a46,(a47,(a48,(a49,(a50,(a51,a52)))))))))))))))))))))))))))))))))))))))))))))))))),(a53,(a54,(a55,(a56,a57)))))) =>
 au (bif ((decide (a41.length<=a41.length))&&((decide (a43.length<=a43.length))&&((decide (a44.length<=a44.length))&&(decide (a54.length<=a54.length))))) then
 bn (fun (v58,((v59,(v60,(v61,(v62,(v63,(v64,(v65,(v66,(v67,(v68,(v69,(v70,(v71,(v72,(v73,(v74,(v75,(v76,(v77,(v78,(v79,(v80,(v81,(v82,(v83,(v84,(v85,(v86,(v87,(v88,(v89,(v90,(v91,(v92,(v93,(v94,(v95,(v96,(v97,(v98,(v99,(v100,(v101,(v102,(v103,(v104,(v105,(v106,(v107,(v108,v109)))))))))))))))))))))))))))))))))))))))))))))))))),(v110,(v111,(v112,(v113,v114)))))) =>
 bif (decide (v58<500)) then
 bif (!v109) then
 au (bif (decide (v111.length=v111.length)) then
 ah (ig (v110,(v111,(v112,(v113,v114))))) fun (x116,x117) =>
 bif (!x117) then
 aA (aA (bif ((decide (v98.length<=v98.length))&&((decide (v100.length<=v100.length))&&((decide (v101.length<=v101.length))&&(decide (v111.length<=v111.length))))) then
 some (Sum.inl ((v59,(v60,(v61,(v62,(v63,(v64,(v65,(v66,(v67,(v68,(v69,(v70,(v71,(v72,(v73,(v74,(v75,(v76,(v77,(v78,(v79,(v80,(v81,(v82,(v83,(v84,(v85,(v86,(v87,(v88,(v89,(v90,(v91,(v92,(v93,(v94,(v95,(v96,(v97,((v98.take v98.length),(v99,((v100.take v100.length),((v101.take v101.length),(v102,(v103,(v104,(v105,(v106,(v107,(v108,v109)))))))))))))))))))))))))))))))))))))))))))))))))),(v110,((v111.take v111.length),(v112,(v113,v114))))))
 else none))
 else
 bif (decide (x116 > a1)) then
 aA (aA (bif ((decide (v98.length<=v98.length))&&((decide (v100.length<=v100.length))&&((decide (v101.length<=v101.length))&&(decide (v111.length<=v111.length))))) then
 some (Sum.inl ((v59,(v60,(v61,(v62,(v63,(v64,(v65,(v66,(v67,(v68,(v69,(v70,(v71,(v72,(v73,(v74,(v75,(v76,(v77,(v78,(v79,(v80,(v81,(v82,(v83,(v84,(v85,(v86,(v87,(v88,(v89,(v90,(v91,(v92,(v93,(v94,(v95,(v96,(v97,((v98.take v98.length),(v99,((v100.take v100.length),((v101.take v101.length),(v102,(v103,(v104,(v105,(v106,(v107,(v108,v109)))))))))))))))))))))))))))))))))))))))))))))))))),(v110,((v111.take v111.length),(v112,(v113,v114))))))
 else none))
 else
 bif (decide (v111.length=v111.length)) then
 ah (fO ((bf v96 x116),(v110,(v111,(v112,(v113,v114)))))) fun (x119,(x120,(x121,(x122,(x123,(x124,x125)))))) =>
 au (bif v109 then
 bif ((decide (v98.length<=v98.length))&&((decide (v100.length<=v100.length))&&(decide (v101.length<=v101.length)))) then
 some (Sum.inl (v59,(v60,(v61,(v62,(v63,(v64,(v65,(v66,(v67,(v68,(v69,(v70,(v71,(v72,(v73,(v74,(v75,(v76,(v77,(v78,(v79,(v80,(v81,(v82,(v83,(v84,(v85,(v86,(v87,(v88,(v89,(v90,(v91,(v92,(v93,(v94,(v95,((bf v96 x116),(v97,((v98.take v98.length),(v99,((v100.take v100.length),((v101.take v101.length),(v102,(v103,(v104,(v105,(v106,(v107,(v108,true)))))))))))))))))))))))))))))))))))))))))))))))))))
 else none
 else
 bif (decide (x120≠0)) then
 bif ((decide (v98.length<=v98.length))&&((decide (v100.length<=v100.length))&&(decide (v101.length<=v101.length)))) then
 some (Sum.inl (v59,(v60,(v61,(v62,(v63,(v64,(v65,(v66,(v67,(v68,(v69,(v70,(v71,(v72,(v73,(v74,(v75,(v76,(v77,(v78,(v79,(v80,(v81,(v82,(v83,(v84,(v85,(v86,(v87,(v88,(v89,(v90,(v91,(v92,(v93,(v94,(v95,((bf v96 x116),(v97,((v98.take v98.length),(v99,((v100.take v100.length),((v101.take v101.length),(v102,(v103,(v104,(v105,(v106,(v107,(v108,true)))))))))))))))))))))))))))))))))))))))))))))))))))
 else none
 else
 bif ((decide (v98.length<=v98.length))&&((decide (v100.length<=v100.length))&&(decide (v101.length<=v101.length)))) then
 some (Sum.inl (v59,(v60,(v61,(v62,(v63,(v64,(v65,(v66,(v67,(v68,(v69,(v70,(v71,(v72,(v73,(v74,(v75,(v76,(v77,(v78,(v79,(v80,(v81,(v82,(v83,(v84,(v85,(v86,(v87,(v88,(v89,(v90,(v91,(v92,(v93,(v94,(v95,((bf v96 x116),(v97,((v98.take v98.length),(v99,((v100.take v100.length),((v101.take v101.length),(v102,(v103,(v104,(v105,(v106,(v107,(v108,(decide ((x119.length:Int)=0)))))))))))))))))))))))))))))))))))))))))))))))))))))
 else none) fun (v126,(v127,(v128,(v129,(v130,(v131,(v132,(v133,(v134,(v135,(v136,(v137,(v138,(v139,(v140,(v141,(v142,(v143,(v144,(v145,(v146,(v147,(v148,(v149,(v150,(v151,(v152,(v153,(v154,(v155,(v156,(v157,(v158,(v159,(v160,(v161,(v162,(v163,(v164,(v165,(v166,(v167,(v168,(v169,(v170,(v171,(v172,(v173,(v174,(v175,v176)))))))))))))))))))))))))))))))))))))))))))))))))) =>
 bif ((decide (v165.length<=v165.length))&&((decide (v167.length<=v167.length))&&(decide (v168.length<=v168.length)))) then
 bn (fun (v177,(v178,(v179,(v180,(v181,(v182,(v183,(v184,(v185,(v186,(v187,(v188,(v189,(v190,(v191,(v192,(v193,(v194,(v195,(v196,(v197,(v198,(v199,(v200,(v201,(v202,(v203,(v204,(v205,(v206,(v207,(v208,(v209,(v210,(v211,(v212,(v213,(v214,(v215,(v216,(v217,(v218,(v219,(v220,(v221,(v222,(v223,(v224,(v225,(v226,(v227,v228))))))))))))))))))))))))))))))))))))))))))))))))))) =>
 bif (decide (v177<(x119.length:Int))) then
 bif (!v228) then
 bif (decide ((0<=v177)/\(v177<(x119.length:Int)))) then
 ah x119[v177.toNat]? fun x229 =>
 bif ((decide (v217.length=v217.length))&&((decide (v219.length=v219.length))&&((decide (v220.length=v220.length))&&(decide (x122.length=x122.length))))) then
 ah (dA (x229.2.2.2.2,((v178,(v179,(v180,(v181,(v182,(v183,(v184,(v185,(v186,(v187,(v188,(v189,(v190,(v191,(v192,(v193,(v194,(v195,(v196,(v197,(v198,(v199,(v200,(v201,(v202,(v203,(v204,(v205,(v206,(v207,(v208,(v209,(v210,(v211,(v212,(v213,(v214,(v215,(v216,(v217,(v218,(v219,(v220,(v221,(v222,(v223,(v224,(v225,(v226,(v227,v228)))))))))))))))))))))))))))))))))))))))))))))))))),(x121,(x122,(x123,(x124,x125))))))) fun (x231,(x232,(x233,(x234,(x235,(x236,(x237,(x238,(x239,(x240,(x241,(x242,(x243,(x244,(x245,(x246,(x247,(x248,(x249,(x250,(x251,(x252,(x253,(x254,(x255,(x256,(x257,(x258,(x259,(x260,(x261,(x262,(x263,(x264,(x265,(x266,(x267,(x268,(x269,(x270,(x271,(x272,(x273,(x274,(x275,(x276,(x277,(x278,(x279,(x280,x281)))))))))))))))))))))))))))))))))))))))))))))))))) =>
 bif ((decide (x270.length<=x270.length))&&((decide (x272.length<=x272.length))&&(decide (x273.length<=x273.length)))) then
 some (Sum.inl ((IntKind.wrap .i64 (v177+(1:Int))),(x231,(x232,(x233,(x234,(x235,(x236,(x237,(x238,(x239,(x240,(x241,(x242,(x243,(x244,(x245,(x246,(x247,(x248,(x249,(x250,(x251,(x252,(x253,(x254,(x255,(x256,(x257,(x258,(x259,(x260,(x261,(x262,(x263,(x264,(x265,(x266,(x267,(x268,(x269,((x270.take x270.length),(x271,((x272.take x272.length),((x273.take x273.length),(x274,(x275,(x276,(x277,(x278,(x279,(x280,x281))))))))))))))))))))))))))))))))))))))))))))))))))))
 else none
 else none
 else none
 else
 aA (bif ((decide (x119.length<=x119.length))&&((decide (v217.length<=v217.length))&&((decide (v219.length<=v219.length))&&((decide (v220.length<=v220.length))&&(decide (x122.length<=x122.length)))))) then
 some (Sum.inl (v177,(x120,((x119.take x119.length),(x117,(x116,((v178,(v179,(v180,(v181,(v182,(v183,(v184,(v185,(v186,(v187,(v188,(v189,(v190,(v191,(v192,(v193,(v194,(v195,(v196,(v197,(v198,(v199,(v200,(v201,(v202,(v203,(v204,(v205,(v206,(v207,(v208,(v209,(v210,(v211,(v212,(v213,(v214,(v215,(v216,((v217.take v217.length),(v218,((v219.take v219.length),((v220.take v220.length),(v221,(v222,(v223,(v224,(v225,(v226,(v227,v228)))))))))))))))))))))))))))))))))))))))))))))))))),(x121,((x122.take x122.length),(x123,(x124,x125)))))))))))
 else none)
 else
 aA (bif ((decide (x119.length<=x119.length))&&((decide (v217.length<=v217.length))&&((decide (v219.length<=v219.length))&&((decide (v220.length<=v220.length))&&(decide (x122.length<=x122.length)))))) then
 some (Sum.inl (v177,(x120,((x119.take x119.length),(x117,(x116,((v178,(v179,(v180,(v181,(v182,(v183,(v184,(v185,(v186,(v187,(v188,(v189,(v190,(v191,(v192,(v193,(v194,(v195,(v196,(v197,(v198,(v199,(v200,(v201,(v202,(v203,(v204,(v205,(v206,(v207,(v208,(v209,(v210,(v211,(v212,(v213,(v214,(v215,(v216,((v217.take v217.length),(v218,((v219.take v219.length),((v220.take v220.length),(v221,(v222,(v223,(v224,(v225,(v226,(v227,v228)))))))))))))))))))))))))))))))))))))))))))))))))),(x121,((x122.take x122.length),(x123,(x124,x125)))))))))))
 else none)) ((0:Int),(v126,(v127,(v128,(v129,(v130,(v131,(v132,(v133,(v134,(v135,(v136,(v137,(v138,(v139,(v140,(v141,(v142,(v143,(v144,(v145,(v146,(v147,(v148,(v149,(v150,(v151,(v152,(v153,(v154,(v155,(v156,(v157,(v158,(v159,(v160,(v161,(v162,(v163,(v164,((v165.take v165.length),(v166,((v167.take v167.length),((v168.take v168.length),(v169,(v170,(v171,(v172,(v173,(v174,(v175,v176)))))))))))))))))))))))))))))))))))))))))))))))))))
 else none
 else none
 else none) fun (v283,(v284,(v285,(v286,(v287,((v288,(v289,(v290,(v291,(v292,(v293,(v294,(v295,(v296,(v297,(v298,(v299,(v300,(v301,(v302,(v303,(v304,(v305,(v306,(v307,(v308,(v309,(v310,(v311,(v312,(v313,(v314,(v315,(v316,(v317,(v318,(v319,(v320,(v321,(v322,(v323,(v324,(v325,(v326,(v327,(v328,(v329,(v330,(v331,(v332,(v333,(v334,(v335,(v336,(v337,v338)))))))))))))))))))))))))))))))))))))))))))))))))),(v339,(v340,(v341,(v342,v343)))))))))) =>
 bif ((decide (v327.length<=v327.length))&&((decide (v329.length<=v329.length))&&((decide (v330.length<=v330.length))&&(decide (v340.length<=v340.length))))) then
 some (Sum.inl ((IntKind.wrap .i64 (v58+(1:Int))),((v288,(v289,(v290,(v291,(v292,(v293,(v294,(v295,(v296,(v297,(v298,(v299,(v300,(v301,(v302,(v303,(v304,(v305,(v306,(v307,(v308,(v309,(v310,(v311,(v312,(v313,(v314,(v315,(v316,(v317,(v318,(v319,(v320,(v321,(v322,(v323,(v324,(v325,(v326,((v327.take v327.length),(v328,((v329.take v329.length),((v330.take v330.length),(v331,(v332,(v333,(v334,(v335,(v336,(v337,v338)))))))))))))))))))))))))))))))))))))))))))))))))),(v339,((v340.take v340.length),(v341,(v342,v343)))))))
 else none
 else
 aA (bif ((decide (v98.length<=v98.length))&&((decide (v100.length<=v100.length))&&((decide (v101.length<=v101.length))&&(decide (v111.length<=v111.length))))) then
 some (Sum.inl ((v59,(v60,(v61,(v62,(v63,(v64,(v65,(v66,(v67,(v68,(v69,(v70,(v71,(v72,(v73,(v74,(v75,(v76,(v77,(v78,(v79,(v80,(v81,(v82,(v83,(v84,(v85,(v86,(v87,(v88,(v89,(v90,(v91,(v92,(v93,(v94,(v95,(v96,(v97,((v98.take v98.length),(v99,((v100.take v100.length),((v101.take v101.length),(v102,(v103,(v104,(v105,(v106,(v107,(v108,v109)))))))))))))))))))))))))))))))))))))))))))))))))),(v110,((v111.take v111.length),(v112,(v113,v114))))))
 else none)
 else
 aA (bif ((decide (v98.length<=v98.length))&&((decide (v100.length<=v100.length))&&((decide (v101.length<=v101.length))&&(decide (v111.length<=v111.length))))) then
 some (Sum.inl ((v59,(v60,(v61,(v62,(v63,(v64,(v65,(v66,(v67,(v68,(v69,(v70,(v71,(v72,(v73,(v74,(v75,(v76,(v77,(v78,(v79,(v80,(v81,(v82,(v83,(v84,(v85,(v86,(v87,(v88,(v89,(v90,(v91,(v92,(v93,(v94,(v95,(v96,(v97,((v98.take v98.length),(v99,((v100.take v100.length),((v101.take v101.length),(v102,(v103,(v104,(v105,(v106,(v107,(v108,v109)))))))))))))))))))))))))))))))))))))))))))))))))),(v110,((v111.take v111.length),(v112,(v113,v114))))))
 else none)) ((0:Int),((a2,(a3,(a4,(a5,(a6,(a7,(a8,(a9,(a10,(a11,(a12,(a13,(a14,(a15,(a16,(a17,(a18,(a19,(a20,(a21,(a22,(a23,(a24,(a25,(a26,(a27,(a28,(a29,(a30,(a31,(a32,(a33,(a34,(a35,(a36,(a37,(a38,(a39,(a40,((a41.take a41.length),(a42,((a43.take a43.length),((a44.take a44.length),(a45,(a46,(a47,(a48,(a49,(a50,(a51,a52)))))))))))))))))))))))))))))))))))))))))))))))))),(a53,((a54.take a54.length),(a55,(a56,a57))))))
 else none) fun ((v345,(v346,(v347,(v348,(v349,(v350,(v351,(v352,(v353,(v354,(v355,(v356,(v357,(v358,(v359,(v360,(v361,(v362,(v363,(v364,(v365,(v366,(v367,(v368,(v369,(v370,(v371,(v372,(v373,(v374,(v375,(v376,(v377,(v378,(v379,(v380,(v381,(v382,(v383,(v384,(v385,(v386,(v387,(v388,(v389,(v390,(v391,(v392,(v393,(v394,v395)))))))))))))))))))))))))))))))))))))))))))))))))),(v396,(v397,(v398,(v399,v400))))) =>
 bif ((decide (v384.length<=v384.length))&&((decide (v386.length<=v386.length))&&((decide (v387.length<=v387.length))&&(decide (v397.length<=v397.length))))) then
 some ((v345,(v346,(v347,(v348,(v349,(v350,(v351,(v352,(v353,(v354,(v355,(v356,(v357,(v358,(v359,(v360,(v361,(v362,(v363,(v364,(v365,(v366,(v367,(v368,(v369,(v370,(v371,(v372,(v373,(v374,(v375,(v376,(v377,(v378,(v379,(v380,(v381,((bf v382 a1),(v383,((v384.take v384.length),(v385,((v386.take v386.length),((v387.take v387.length),(v388,(v389,(v390,(v391,(v392,(v393,(v394,v395)))))))))))))))))))))))))))))))))))))))))))))))))),(v396,((v397.take v397.length),(v398,(v399,v400)))))
 else none
noncomputable def ako:List (Nat×CE):=[(16,agD),(15,ajL),(17,aiC)]
theorem aaK:cu Tryz.prog ako:=⟨ad8,ajM,aeG,trivial⟩
noncomputable def ce8:CE:=⟨[.tmp 0 false [.pt 20000050 0],.tmp 1 false [.dat ak],.mix 20000050 cVl,.mix 20000010 Ie],[.mix 20000050 (([fB,(.ki .u32 (7)),(.dat (.int .u16)),(.dat (.int .u32)),dO,dI,dI,dI,(.kb false),(.ki .u8 (0)),(.ki .u8 (0)),(.ki .u32 (0)),(.ki .i64 (0)),(.ki .i64 (0)),(.ki .i64 (1)),(.ki .i64 (1)),(.ki .i64 (0)),(.kb false),(.ki .i64 (0)),(.ki .i64 (0)),(.ki .i64 (-1)),(.ki .i64 (-1)),(.ki .i64 (0)),(.ki .i64 (0)),.nil,(.ki .i64 (0)),(.ki .i64 (0)),(.ki .i64 (0)),(.kb false),(.ki .i64 (0)),(.ki .i64 (0)),(.ki .i64 (0)),(.kb false),(.ki .i64 (0)),(.ki .i64 (0)),(.ki .i64 (0)),(.ki .i64 (0)),(.ki .i64 (0)),(.ki .i64 (0)),(.ki .i64 (0)),(.kb false),(.ki .u32 (0)),(.ki .u8 (0)),(.ki .i64 (0)),(.kb false),(.ki .u32 (7)),(.dat (.int .u32)),(.dat (.int .u32)),fB,(.ki .u32 (8))]:List CS)++([(.ki .u16 (0)),(.ki .u32 (0)),(.kb true),(.ki .i64 (0)),(.ki .i64 (0)),(.ki .i64 (0)),(.kb false),(.ki .u8 (0)),(.ki .u8 (0)),(.ki .u32 (0)),(.ki .i64 (0)),(.ki .i64 (0)),dI,dI,dI,dO,dI,dI,dI,dI,dI,dI,(.dat (.list (.pair ak (.pair ak (.pair ak (.pair .bool (.pair aX (.list aX)))))))),dI,dI,dI,dO,dI,dI,dI,dO,dI,dI,dI,dI,dI,dI,dI,(.kb false),(.ki .u32 (0)),(.ki .u8 (0)),(.ki .i64 (0)),(.kb false),(.dat (.int .u32)),(.ki .u32 (0)),(.ki .u32 (0)),(.pt 20000010 0),dI,dI,(.own 10000001 62 (.list (.int .i16)))]:List CS)++([(.dat (.list (.pair ak ak))),(.own 10000002 234 (.pair aX (.pair .bool (.pair (.int .u32) ak)))),(.own 10000003 31 (.int .u32)),dI,dI,dI,dI,dI,dI,dI,dO]:List CS)),.dead 20000051,.mix 20000010 [(.kb true),(.dat (.list (.pair .bool (.pair ak (.pair .bool ak))))),(.own 10000014 112 (.pair (.pair .bool (.pair ak (.pair .bool ak))) (.pair ak (.pair .str (.pair .str (.pair ak (.pair .bool (.list aX)))))))),dI,dI,dI],.dead 20000011,.dead 20000052,.dead 20000053],aI⟩
theorem akp:aB Tryz.prog 8 ce8 :=
 dF (bV (plan:=fA akn) (eg:=dD) KK dM (bM aaK) Tryz.func8 (by kernel_rfl) (by kernel_rfl) 10000 (fun a r h=>Eq.trans (show _=aI a from by kernel_rfl) h)) (by rfl)
theorem So.le5 {α:Type} {n m k i j:Nat} {a b:Option α} {P:α->Prop} (h:So a P):So (bif (decide (n<=n)&&(decide (m<=m)&&(decide (k<=k)&&(decide (i<=i)&&decide (j<=j))))) then a else b) P:=by
 rw [decide_eq_true (Nat.le_refl n),decide_eq_true (Nat.le_refl m),decide_eq_true (Nat.le_refl k),decide_eq_true (Nat.le_refl i),decide_eq_true (Nat.le_refl j)];exact h
theorem So.nf {α:Type} {f:Bool} {a b:Option α} {P:α->Prop} (hf:f=false) (h:So a P):So (bif (!f) then a else b) P:=by subst hf;exact h
theorem xX {K:Vl->List (List Int)->Ca->Prop} (hK:KOk K) {v0:Vl} {c0:Ca} (h:K v0 [] c0) {t:Int} (ht:t<=900000) :
 So (aI (t,(v0.t,c0.t))) (fun r=>∃(v:Vl) (c:Ca),r=(({v with now:=bf v.now t}:Vl).t,c.t)/\K v [] c/\v.now<=bf v0.now t/\∀p∈c.ps,t<pat p):=by
 have hc0:=hK.ca _ _ _ h;unfold aI;refine So.join (P:=fun s=>∃(v:Vl) (c:Ca),s=(v.t,c.t)/\K v [] c/\v.now<=bf v0.now t/\∀p∈c.ps,t<pat p) (So.le4 (So.loop (fun s=>∃(n:Nat) (v:Vl) (c:Ca),s=((n:Int),(v.t,c.t))/\K v [] c/\v.now<=bf v0.now t/\n+c.ps.length<=190) (fun s=>s.2.2.2.1.length) (fun s hs => ?_) ⟨0,v0,c0,by simp only [Vl.t,Ca.t,List.take_length];rfl,h,Bl.1,by have:=hc0.1.2.2.1;omega⟩)) fun s hs => ?_
 ·obtain ⟨n,v,c,rfl,hk,hnow,hn⟩:=hs;obtain ⟨hca,hf,hcn,hv0,hv9⟩:=hK.ca _ _ _ hk;refine So.pos (p:=(n:Int)<500) (by omega) (So.nf hf ?_);have hend:(∀p∈c.ps,t<pat p)->∃(v':Vl) (c':Ca),(v.t,c.t)=(v'.t,c'.t)/\K v' [] c'/\v'.now<=bf v0.now t/\∀p∈c'.ps,t<pat p:=fun hp=>⟨v,c,rfl,hk,hnow,hp⟩
  refine So.join (P:=fun s=>∃(i e nx:Int) (l:List DgT) (b:Bool) (v':Vl) (c':Ca),s=(i,(e,(l,(b,(nx,(v'.t,c'.t))))))/\K v' [] c'/\v'.now<=bf v0.now t/\c'.ps.length<c.ps.length) (So.pos rfl (So.bind (ac0 hca) fun r hr => ?_)) fun s hs => ?_
  ·obtain ⟨x,b⟩:=r;simp only at hr;refine So.if (fun hb => .out (.out (So.le4 (.inl ?_)))) fun hb => ?_
   ·simp only [Vl.t,Ca.t,List.take_length];refine hend fun p hp => ?_;rcases hr with ⟨_,e⟩ | ⟨e,_⟩
    ·rw [e] at hp;cases hp
    ·rw [e] at hb;cases hb
   ·rcases hr with ⟨e,_⟩ | ⟨_,hx1,hx2⟩
    ·rw [e] at hb;cases hb
    refine So.dec (fun hxt => .out (.out (So.le4 (.inl ?_)))) fun hxt=>So.pos rfl ?_
    ·simp only [Vl.t,Ca.t,List.take_length];exact hend fun p hp=>by have:=hx2 p hp;omega
    ·have hm:=Bl (a:=v.now) (b:=x);have hmx:bf v.now x<=bf v0.now t:=by
      have:=Bl (a:=v0.now) (b:=t);have:=(zC (a:=v.now) (b:=x)).2.2;omega
     have hm9:bf v.now x<=900000:=by
      have:=(zC (a:=v0.now) (b:=t)).2.2;omega
     obtain ⟨p0,hp0,hpx⟩:=hx1;refine So.bind (Wi hca (n:=bf v.now x) ⟨by omega,by omega⟩) fun r hr => ?_;obtain ⟨l,e,r3⟩:=r;obtain ⟨q1,q2,q3,q4⟩:=hr;simp only at q1 q2 q3 q4;subst q1 q2;have hmem:p0∈c.ps.filter (gI (bf v.now x)):=List.mem_filter.2 ⟨hp0,decide_eq_true (by omega)⟩;have hpos:0<l.length:=by rw [q3];exact List.length_pos_of_mem hmem
     have hfl:=Om (gI (bf v.now x)) c.ps;have hk2:=hK.rc v c x hk ⟨p0,hp0,hpx⟩ hm9 (l.map fun d=>d.2.2.2.2) (by rw [List.length_map];exact q3) (fun d hd=>by
      obtain ⟨d',hd',rfl⟩:=List.mem_map.1 hd;exact q4 d' hd')
     refine So.join (P:=fun s=>s=({v with now:=bf v.now x}:Vl).t) (So.if (fun hf'=>(Bool.false_ne_true (hf.symm.trans hf')).elim) fun _=>So.neg (by omega) (So.le3 (.inl ?_))) fun s hs => ?_
     ·simp only [Vl.t,List.take_length,hf];rw [decide_eq_false (by omega)]
     ·subst hs;refine So.le3 (So.loop (fun s=>∃(i:Nat) (v':Vl),i<=l.length/\s=((i:Int),v'.t)/\v'.now=bf v.now x/\K v' ((l.drop i).map fun d=>d.2.2.2.2) {c with ps:=c.ps.filter (fun p => !gI (bf v.now x) p),now:=bf v.now x}) (fun s=>((l.length:Int)-s.1).toNat) (fun s hs => ?_) ⟨0,{v with now:=bf v.now x},by omega,by simp only [Vl.t,List.take_length];rfl,rfl,hk2⟩);obtain ⟨i,v',hi,rfl,hn',hkv⟩:=hs;have hfv:=(hK.ca _ _ _ hkv).2.1;refine So.dec (p:=(i:Int)<((l.length:Nat):Int)) (fun hi1=>So.nf hfv (So.pos (p:=0<=(i:Int)/\(i:Int)<((l.length:Nat):Int)) (by omega) ?_)) fun hi1 => .out (So.le5 (.inl ?_))
      ·have hi2:i<l.length:=by omega
       rw [List.drop_eq_getElem_cons hi2,List.map_cons] at hkv;refine So.is (iI hi2) (So.eq4 (So.bind (hK.ar v' _ _ _ hkv) fun r hr => ?_));obtain ⟨v2,rfl,hn2,hk3⟩:=hr;refine So.le3 (.inl ⟨⟨i+1,v2,by omega,?_,hn2.trans hn',hk3⟩,?_⟩)
       ·simp only [Vl.t,List.take_length];rw [aj (n:=(i:Int)+1) (by omega)];rfl
       ·show ((l.length:Int)-IntKind.wrap .i64 ((i:Int)+1)).toNat<((l.length:Int)-(i:Int)).toNat;rw [aj (by omega)];omega
      ·rw [List.drop_of_length_le (by omega)] at hkv;refine ⟨(i:Int),0,x,l,b,v',{c with ps:=c.ps.filter (fun p => !gI (bf v.now x) p),now:=bf v.now x},?_,hkv,by rw [hn'];exact hmx,?_⟩
       ·simp only [Vl.t,Ca.t,List.take_length]
       ·show (c.ps.filter fun p => !gI (bf v.now x) p).length<c.ps.length;omega
  ·obtain ⟨i,e,nx,l,b,v',c',rfl,h1,h2,h3⟩:=hs;refine So.le4 (.inl ⟨⟨n+1,v',c',?_,h1,h2,by omega⟩,?_⟩)
   ·simp only [Vl.t,Ca.t,List.take_length];rw [aj (n:=(n:Int)+1) (by omega)];rfl
   ·simp only [Ca.t,List.take_length];exact h3
 ·obtain ⟨v,c,rfl,h1,h2,h3⟩:=hs;refine So.le4 (.mk ⟨v,c,?_,h1,h2,h3⟩);simp only [Vl.t,Ca.t,List.take_length]
def akq:List CS:=[.kb true,.dat (.list UFt),.own 40000011 112 LC,.dat (.int .i64),.dat (.int .i64),.dat (.int .i64)]
def aiJ:List (Nat×PL):=[(262657,.unroll),(35253091829766,(.carry [.tmp 8 false [dI]]))]
noncomputable def aF:(List (Bool×(Int×(Bool×Int))))->Option ((List (Bool×(Int×(Bool×Int))))×((List ((Bool×(Int×(Bool×Int)))×(Int×(LU×(LU×(Int×(Bool×LN)))))))×(Int×(Int×Int)))):=fun a1 =>
 bn (fun v2 =>
 bif (decide (v2<(a1.length:Int))) then
 bif (decide ((0<=v2)/\(v2<(a1.length:Int)))) then
 ah a1[v2.toNat]? fun x3 =>
 bif (decide (x3.2.1<0)) then
 aA (none)
 else
 bif (decide (x3.2.1 > 60000)) then
 aA (none)
 else
 bif (decide (x3.2.2.2<0)) then
 aA (none)
 else
 bif (decide (x3.2.2.2 > 60000)) then
 aA (none)
 else
 some (Sum.inl (IntKind.wrap .i64 (v2+(1:Int))))
 else none
 else
 aA (bif (decide (a1.length<=a1.length)) then
 ah (zB (a1.take a1.length)) fun x5 =>
 bif (decide (x5.length<=x5.length)) then
 some ((x5.take x5.length),(([]:List ((Bool×(Int×(Bool×Int)))×(Int×(LU×(LU×(Int×(Bool×LN))))))),((0:Int),((0:Int),(0:Int)))))
 else none
 else none)) (0:Int)
noncomputable def Hg:CE:=⟨[.tmp 0 false [.dat (.list (.pair .bool (.pair ak (.pair .bool ak))))]],[.tmp 0 false [.own 1 67 (.pair .bool (.pair ak (.pair .bool ak)))]],zB⟩
noncomputable def aiK:List (Nat×CE):=[(28,Hg)]
theorem Xr:cu Tryz.prog aiK:=⟨Ob,trivial⟩
noncomputable def adw:CE:=⟨[.tmp 0 false [.own 20000001 67 UFt]],[.tmp 0 false [.pt 40000010 0],.tmp 1 false [.ki .u8 (0)],.mix 40000010 akq,.dead 20000001],aF⟩
theorem aaL:aB Tryz.prog 14 adw :=
 dF (bV (plan:=fA aiJ) (eg:=dD) KK dM (bM Xr) Tryz.func14 (by kernel_rfl) (by kernel_rfl) 10000 (fun a r h=>Eq.trans (show _=aF a from by kernel_rfl) h)) (by rfl)
def akr:List (Nat×PL):=[(134479892,(.carry [.tmp 0 false [(.pt 20000050 0)],.tmp 1 false [(.kb true)],.mix 20000050 (([fB,(.ki .u32 (7)),(.dat (.int .u16)),(.dat (.int .u32)),dO,dI,dI,dI,(.kb false),(.ki .u8 (0)),(.ki .u8 (0)),(.ki .u32 (0)),(.ki .i64 (0)),(.ki .i64 (0)),(.ki .i64 (1)),(.ki .i64 (1)),(.ki .i64 (0)),(.kb false),(.ki .i64 (0)),(.ki .i64 (0)),(.ki .i64 (-1)),(.ki .i64 (-1)),(.ki .i64 (0)),(.ki .i64 (0)),.nil,(.ki .i64 (0)),(.ki .i64 (0)),(.ki .i64 (0)),(.kb false),(.ki .i64 (0)),(.ki .i64 (0)),(.ki .i64 (0)),(.kb false),(.ki .i64 (0)),(.ki .i64 (0)),(.ki .i64 (0)),(.ki .i64 (0)),(.ki .i64 (0)),(.ki .i64 (0)),(.ki .i64 (0)),(.kb false),(.ki .u32 (0)),(.ki .u8 (0)),(.ki .i64 (0)),(.kb false),(.ki .u32 (7)),(.dat (.int .u32)),(.dat (.int .u32)),fB,(.ki .u32 (8))]:List CS)++([(.ki .u16 (0)),(.ki .u32 (0)),(.kb true),(.ki .i64 (0)),(.ki .i64 (0)),(.ki .i64 (0)),(.kb false),(.ki .u8 (0)),(.ki .u8 (0)),(.ki .u32 (0)),(.ki .i64 (0)),(.ki .i64 (0)),dI,dI,dI,dO,dI,dI,dI,dI,dI,dI,(.dat (.list (.pair ak (.pair ak (.pair ak (.pair .bool (.pair aX (.list aX)))))))),dI,dI,dI,dO,dI,dI,dI,dO,dI,dI,dI,dI,dI,dI,dI,(.kb false),(.ki .u32 (0)),(.ki .u8 (0)),(.ki .i64 (0)),(.kb false),(.dat (.int .u32)),(.ki .u32 (0)),(.ki .u32 (0)),(.pt 20000010 0),dI,dI,(.own 20000051 62 (.list (.int .i16)))]:List CS)++([(.dat (.list (.pair ak ak))),(.own 20000052 234 (.pair aX (.pair .bool (.pair (.int .u32) ak)))),(.own 20000053 31 (.int .u32)),dI,dI,dI,dI,dI,dI,dI,dO]:List CS)),.mix 20000010 [(.kb true),(.dat (.list (.pair .bool (.pair ak (.pair .bool ak))))),(.own 20000011 112 (.pair (.pair .bool (.pair ak (.pair .bool ak))) (.pair ak (.pair .str (.pair .str (.pair ak (.pair .bool (.list aX)))))))),dI,dI,dI]])),(18049585566188033,(.carry [.tmp 4 false [(.own 20000055 67 (.pair .bool (.pair ak (.pair .bool ak))))]])),(2422574366035351276095494,(.carry [.tmp 5 false [dI],.tmp 4 false [(.own 20000054 67 (.pair .bool (.pair ak (.pair .bool ak))))]])),(4731590558662795722772,.unroll),(2422574366035351410311189,.unroll),(325152427320305233939750893912081,.unroll),(1240358075410099922079580673,.unroll),(166478042787996279794464543140478993,.unroll)]
noncomputable def dP:PUnit->Option Bool:=fun _ =>
 au (au (bn (fun (v1,v2) =>
 bif (decide (v1<1)) then
 bif (decide (v1<120)) then
 bif (decide ((0<=v1)/\(v1<1))) then
 ah ((false,((10:Int),(false,(0:Int))))::([]:List (Bool×(Int×(Bool×Int)))))[v1.toNat]? fun x3 =>
 ah (some (Int.tmod (IntKind.wrap .u64 x3.2.1) (3001:Int))) fun x5 =>
 ah (some (Int.tmod (IntKind.wrap .u64 x3.2.2.2) (3001:Int))) fun x8 =>
 bif (decide (v2.length<=v2.length)) then
 bif (decide (((List.length ((v2.take v2.length)++((x3.1,((IntKind.wrap .i64 x5),(x3.2.2.1,(IntKind.wrap .i64 x8))))::([]:List (Bool×(Int×(Bool×Int)))))))*32)<=140737488355328)) then
 ah (some ((v2.take v2.length)++((x3.1,((IntKind.wrap .i64 x5),(x3.2.2.1,(IntKind.wrap .i64 x8))))::([]:List (Bool×(Int×(Bool×Int))))))) fun x10 =>
 bif (decide (x10.length<=x10.length)) then
 some (Sum.inl ((IntKind.wrap .i64 (v1+(1:Int))),(x10.take x10.length)))
 else none
 else none
 else none
 else none
 else
 aA (bif (decide (v2.length<=v2.length)) then
 some (Sum.inl (v2.take v2.length))
 else none)
 else
 aA (bif (decide (v2.length<=v2.length)) then
 some (Sum.inl (v2.take v2.length))
 else none)) ((0:Int),([]:List (Bool×(Int×(Bool×Int)))))) fun v12 =>
 ah (aJ (0:Int)) fun x13 =>
 ah (aZ x13) fun x14 =>
 bif (!x14) then
 ah (aJ (0:Int)) fun x15 =>
 ah (aZ x15) fun x16 =>
 bif (!x16) then
 bif (decide (v12.length=v12.length)) then
 ah (aF v12) fun (x18,(x19,(x20,(x21,x22)))) =>
 none
 else none
 else
 ah (ay ((40:Int),(200:Int))) fun x23 =>
 bif (!x23) then
 bif (decide (v12.length=v12.length)) then
 ah (aF v12) fun (x25,(x26,(x27,(x28,x29)))) =>
 none
 else none
 else
 bif (decide (v12.length=v12.length)) then
 ah (aF v12) fun (x31,(x32,(x33,(x34,x35)))) =>
 none
 else none
 else
 ah (ay ((1:Int),(1:Int))) fun x36 =>
 bif (!x36) then
 ah (aJ (0:Int)) fun x37 =>
 ah (aZ x37) fun x38 =>
 bif (!x38) then
 bif (decide (v12.length=v12.length)) then
 ah (aF v12) fun (x40,(x41,(x42,(x43,x44)))) =>
 none
 else none
 else
 ah (ay ((40:Int),(200:Int))) fun x45 =>
 bif (!x45) then
 bif (decide (v12.length=v12.length)) then
 ah (aF v12) fun (x47,(x48,(x49,(x50,x51)))) =>
 none
 else none
 else
 bif (decide (v12.length=v12.length)) then
 ah (aF v12) fun (x53,(x54,(x55,(x56,x57)))) =>
 none
 else none
 else
 ah (aJ (0:Int)) fun x58 =>
 ah (aZ x58) fun x59 =>
 bif (!x59) then
 bif (decide (v12.length=v12.length)) then
 ah (aF v12) fun (x61,(x62,(x63,(x64,x65)))) =>
 none
 else none
 else
 ah (ay ((40:Int),(200:Int))) fun x66 =>
 bif (!x66) then
 bif (decide (v12.length=v12.length)) then
 ah (aF v12) fun (x68,(x69,(x70,(x71,x72)))) =>
 none
 else none
 else
 bif (decide (v12.length=v12.length)) then
 ah (aF v12) fun (x74,(x75,(x76,(x77,x78)))) =>
 bif (decide (x75.length=x75.length)) then
 some (Sum.inl ((x13,((0:Int),((0:Int),(true,((0:Int),((0:Int),((0:Int),((0:Int),((0:Int),(x58,((40:Int),((200:Int),((0:Int),(false,((0:Int),((0:Int),((-1:Int),((-1:Int),((0:Int),((0:Int),(([]:List (Int×(Int×(Int×(Bool×(Int×LN)))))),((0:Int),((0:Int),((0:Int),(false,((0:Int),((0:Int),((0:Int),(false,((0:Int),((0:Int),((0:Int),((0:Int),((0:Int),((0:Int),((0:Int),((8:Int),((0:Int),((-1:Int),(([]:List LN),(([]:List (Int×Int)),(([]:List (Int×(Bool×(Int×Int)))),(([]:List Int),((0:Int),((0:Int),((0:Int),((0:Int),((0:Int),((0:Int),((0:Int),false)))))))))))))))))))))))))))))))))))))))))))))))))),(x74,(x75,(x76,(x77,x78))))))
 else none
 else none) fun ((v79,(v80,(v81,(v82,(v83,(v84,(v85,(v86,(v87,(v88,(v89,(v90,(v91,(v92,(v93,(v94,(v95,(v96,(v97,(v98,(v99,(v100,(v101,(v102,(v103,(v104,(v105,(v106,(v107,(v108,(v109,(v110,(v111,(v112,(v113,(v114,(v115,(v116,(v117,(v118,(v119,(v120,(v121,(v122,(v123,(v124,(v125,(v126,(v127,(v128,v129)))))))))))))))))))))))))))))))))))))))))))))))))),(v130,(v131,(v132,(v133,v134))))) =>
 bif v129 then
 some false
 else
 ah (gK ((8000:Int),(0:Int))) fun x135 =>
 bif ((decide (v118.length=v118.length))&&((decide (v120.length=v120.length))&&((decide (v121.length=v121.length))&&(decide (v131.length=v131.length))))) then
 ah (bD (x135,((v79,(v80,(v81,(v82,(v83,(v84,(v85,(v86,(v87,(v88,(v89,(v90,(v91,(v92,(v93,(v94,(v95,(v96,(v97,(v98,(v99,(v100,(v101,(v102,(v103,(v104,(v105,(v106,(v107,(v108,(v109,(v110,(v111,(v112,(v113,(v114,(v115,(v116,(v117,(v118,(v119,(v120,(v121,(v122,(v123,(v124,(v125,(v126,(v127,(v128,v129)))))))))))))))))))))))))))))))))))))))))))))))))),(v130,(v131,(v132,(v133,v134))))))) fun ((x137,(x138,(x139,(x140,(x141,(x142,(x143,(x144,(x145,(x146,(x147,(x148,(x149,(x150,(x151,(x152,(x153,(x154,(x155,(x156,(x157,(x158,(x159,(x160,(x161,(x162,(x163,(x164,(x165,(x166,(x167,(x168,(x169,(x170,(x171,(x172,(x173,(x174,(x175,(x176,(x177,(x178,(x179,(x180,(x181,(x182,(x183,(x184,(x185,(x186,x187)))))))))))))))))))))))))))))))))))))))))))))))))),(x188,(x189,(x190,(x191,x192))))) =>
 bif ((decide (x176.length=x176.length))&&((decide (x178.length=x178.length))&&((decide (x179.length=x179.length))&&(decide (x189.length=x189.length))))) then
 ah (aI ((49:Int),((x137,(x138,(x139,(x140,(x141,(x142,(x143,(x144,(x145,(x146,(x147,(x148,(x149,(x150,(x151,(x152,(x153,(x154,(x155,(x156,(x157,(x158,(x159,(x160,(x161,(x162,(x163,(x164,(x165,(x166,(x167,(x168,(x169,(x170,(x171,(x172,(x173,(x174,(x175,(x176,(x177,(x178,(x179,(x180,(x181,(x182,(x183,(x184,(x185,(x186,x187)))))))))))))))))))))))))))))))))))))))))))))))))),(x188,(x189,(x190,(x191,x192))))))) fun ((x194,(x195,(x196,(x197,(x198,(x199,(x200,(x201,(x202,(x203,(x204,(x205,(x206,(x207,(x208,(x209,(x210,(x211,(x212,(x213,(x214,(x215,(x216,(x217,(x218,(x219,(x220,(x221,(x222,(x223,(x224,(x225,(x226,(x227,(x228,(x229,(x230,(x231,(x232,(x233,(x234,(x235,(x236,(x237,(x238,(x239,(x240,(x241,(x242,(x243,x244)))))))))))))))))))))))))))))))))))))))))))))))))),(x245,(x246,(x247,(x248,x249))))) =>
 bif (decide ((x234.length:Int)≠1)) then
 some false
 else
 bif (decide (((0:Int)<=0)/\(0<(x234.length:Int)))) then
 ah x234[0]? fun x250 =>
 bif (decide (x250.1≠50)) then
 some false
 else
 bif ((decide (x233.length=x233.length))&&((decide (x235.length=x235.length))&&((decide (x236.length=x236.length))&&(decide (x246.length=x246.length))))) then
 ah (aV ((50:Int),((x194,(x195,(x196,(x197,(x198,(x199,(x200,(x201,(x202,(x203,(x204,(x205,(x206,(x207,(x208,(x209,(x210,(x211,(x212,(x213,(x214,(x215,(x216,(x217,(x218,(x219,(x220,(x221,(x222,(x223,(x224,(x225,(x226,(x227,(x228,(x229,(x230,(x231,(x232,(x233,(x234,(x235,(x236,(x237,(x238,(x239,(x240,(x241,(x242,(x243,x244)))))))))))))))))))))))))))))))))))))))))))))))))),(x245,(x246,(x247,(x248,x249))))))) fun (x252,(x253,(x254,(x255,(x256,(x257,(x258,(x259,(x260,(x261,(x262,(x263,(x264,(x265,(x266,(x267,(x268,(x269,(x270,(x271,(x272,(x273,(x274,(x275,(x276,(x277,(x278,(x279,(x280,(x281,(x282,(x283,(x284,(x285,(x286,(x287,(x288,(x289,(x290,(x291,(x292,(x293,(x294,(x295,(x296,(x297,(x298,(x299,(x300,(x301,x302)))))))))))))))))))))))))))))))))))))))))))))))))) =>
 bif (!x302) then
 bif (decide ((x292.length:Int)=0)) then
 some (decide (x290=0))
 else
 some false
 else
 some false
 else none
 else none
 else none
 else none
noncomputable def aks:List (Nat×CE):=[(61,VJ),(26,Ol),(10,ado),(13,aaB),(11,adr),(9,ce9),(8,ce8),(14,adw)]
theorem aaM:cu Tryz.prog aks:=⟨Ju,He,aaA,Uh,aaD,akm,akp,aaL,trivial⟩
noncomputable def ce6:CE:=⟨[],[(.tmp 0 false [dO])],dP⟩
theorem akt:aB Tryz.prog 6 ce6 :=nK akr dD aaM Tryz.func6
def vJ (le mo:Int):Jt:=⟨le,mo,0,false,0,0,-1,-1,0,0,[],0,0,0⟩
def iD (a b le mo:Int):Vl:=⟨⟨a,0,0,true,0,(0,0),0,0⟩,⟨b,vJ le mo,false,0,0,0,(false,(0,(0,(0,(0,(0,(0,0))))))),8⟩,0,-1,[],[],[],[],0,0,0,(0,0),(0,0),false⟩
def lZ (fs:List FT):Ca:=⟨fs,[],0,0,0⟩
theorem Hl {a b le mo:Int} {fs:List FT} (ha:ET a) (hb:ET b) (hl:1<=le/\le<=mo/\mo<=1000) (hf:∀f∈fs,Wh f):GK (iD a b le mo) (iD a b le mo) [] (lZ fs):=by
 have hj:JV (vJ le mo):=by
  refine ⟨?_,fun _=>⟨rfl,rfl,rfl⟩,List.Pairwise.nil,List.nodup_nil,fun w hw=>(by cases hw)⟩;simp only [NV,vJ,List.length_nil];omega
 refine ⟨⟨⟨ha,⟨by simp [iD],by simp [iD]⟩,⟨by simp [iD],by simp [iD]⟩,by simp [vF,iD]⟩,rfl,by simp [iD],⟨hb,hj,.inl ⟨rfl,rfl,rfl⟩,⟨by simp [iD],by simp [iD]⟩,fun w hw=>(by cases hw)⟩,by simp [iD,vJ],⟨by simp [iD],by simp [iD]⟩,rfl,rfl,fun w hw=>(by cases hw),by simp [vF,iD],rfl,by simp [iD,vJ,Jt.sum],rfl,fun w hw=>(by cases hw)⟩,⟨hf,fun p hp=>(by cases hp),by simp [lZ],by simp [lZ],by simp [lZ],by simp [lZ]⟩,by simp [lZ,iD],rfl,rfl,rfl,rfl,fun p hp=>(by cases hp),fun d hd=>(by cases hd),by simp [iD,lZ]⟩
theorem Lm {fs:List FT} (hf:∀f∈fs,Wh f) (hl:fs.length<=1000):aF fs=some (fs,([],(0,(0,0)))):=by
 unfold aF;refine So.eq (So.loop (fun v=>0<=v/\v<=(fs.length:Int)) (fun v=>((fs.length:Int)-v).toNat) (fun v hv => ?_) ⟨by omega,by omega⟩);refine So.dec (p:=v<(fs.length:Int)) (fun h1=>So.pos (p:=0<=v/\v<(fs.length:Int)) ⟨hv.1,h1⟩ (So.get (show v.toNat<fs.length by omega) fun x hx _ => ?_)) fun h1 => ?_
 ·obtain ⟨q1,q2,q3,q4⟩:=hf x hx;refine So.neg (by omega) (So.neg (by omega) (So.neg (by omega) (So.neg (by omega) ?_)));rw [aj (n:=v+1) (by omega)];exact .inl ⟨⟨by omega,by omega⟩,by omega⟩
 ·refine .out (So.le ?_);rw [List.take_length];have hc:zB fs=some fs:=by unfold zB;rw [decide_eq_true (by omega)];rfl
  rw [hc];refine So.is rfl (So.le (.mk ?_));rw [List.take_length]
theorem aaN {v0 v v':Vl} {c c':Ca} (h:GK v0 v [] c) (s:adv v c v' c'):GK v' v' [] c':=by
 have hct:=h.ct;simp only [List.length_nil] at hct;rcases s.how with ⟨q1,q2,_⟩ | ⟨x,mk,ty,py,q1,q2,q3,q4,q5,q6,q7,q8,q9,_⟩
 ·subst q2;refine ⟨s.lv,h.ca,by rw [s.now];exact h.cn,rfl,rfl,rfl,by rw [q1];exact h.cs,fun p hp=>by rw [q1];exact h.ps p hp,fun d hd=>(by cases hd),?_⟩;rw [s.count,q1];simp only [List.length_nil];omega
 ·refine ⟨s.lv,q4,by rw [s.now];omega,rfl,rfl,rfl,?_,fun p hp => ?_,fun d hd=>(by cases hd),?_⟩
  ·rw [q6,q1,h.cs,List.length_append];simp only [List.length_cons,List.length_nil];omega
  ·rcases q9 p hp with hp | e
   ·rw [q1];exact (h.ps p hp).mono x
   ·rw [e];exact ⟨mk,ty,_,_,py,rfl,q2,by have:=h.lv.fv.2.2.1;omega,q3⟩
  ·rw [s.count,q1,List.length_append];simp only [List.length_cons,List.length_nil];omega
theorem Oo (mk:Bool) (ty:Int) (py:List Int):((vJ 40 200).put 10 0 0 mk ty py).1.q=[(50,(0,(0,(mk,(ty,py)))))]/\((vJ 40 200).put 10 0 0 mk ty py).1.done = -1:=by
 simp [Jt.put,Jt.run,vJ,due,left,Jt.meas,Jt.take,Jt.at,Jt.spr,uq,eU,rC,maxS]
theorem adx:dP PUnit.unit=some true:=by
 unfold dP;refine So.eq (So.join (P:=fun s=>∃a b,s=((iD a b 40 200).t,(lZ [(false,(10,(false,0)))]).t)/\ET a/\ET b) ?_ fun s hs => ?_)
 ·refine So.join (P:=fun l=>l=[(false,((10:Int),(false,(0:Int))))]) (So.loop (fun s=>s=(0,[])\/s=(1,[(false,(10,(false,0)))])) (fun s=>(1-s.1).toNat) (fun s hs => ?_) (.inl rfl)) fun l hl => ?_
  ·rcases hs with rfl | rfl
   ·refine So.pos (by omega) (So.pos (by omega) (So.pos (by omega) (So.is rfl (So.is rfl (So.is rfl (So.le (So.pos (by simp) (So.is rfl (So.le (.inl ⟨.inr ?_,?_⟩))))))))))
    ·rfl
    ·show (1-IntKind.wrap .i64 (0+1)).toNat<(1-0:Int).toNat;rw [aj (by omega)];decide
   ·exact So.neg (by omega) (.out (So.le (.inl rfl)))
  ·subst hl;refine So.bind (pF (by omega)) fun a ha=>So.is (lK ha) (So.if (fun h=>by cases h) fun _=>So.is (a:=true) rfl (So.if (fun h=>by cases h) fun _=>So.bind (pF (by omega)) fun b hb=>So.is (lK hb) (So.if (fun h=>by cases h) fun _=>So.is (a:=true) rfl (So.if (fun h=>by cases h) fun _=>So.pos rfl (So.is (Lm (fun f hf => ?_) (by decide)) (So.pos rfl (.inl ⟨a,b,rfl,ha,hb⟩)))))));rw [List.mem_singleton.1 hf];unfold Wh;decide
 ·obtain ⟨a,b,rfl,ha,hb⟩:=hs;have hg:=Hl (fs:=[(false,(10,(false,0)))]) (le:=40) (mo:=200) ha hb (by omega) (fun f hf=>by rw [List.mem_singleton.1 hf];unfold Wh;decide);refine So.if (fun h=>by cases h) fun _=>So.bind (Ll _ _) fun fr hfr=>So.eq4 (So.bind (aaJ (v:=iD a b 40 200) (c:=lZ [(false,(10,(false,0)))]) hg.lv hg.ca hg.cn (by decide) (by decide) (by show 0<=65;decide) (by show (0:Int)<=14000;decide) hfr.1 hfr.2) fun r hr => ?_);obtain ⟨v,c,rfl,hs⟩:=hr;have hg2:=aaN hg hs;rcases hs.how with ⟨_,_,hq⟩ | ⟨x,mk,ty,py,q1,q2,q3,q4,q5,q6,q7,q8,q9,q10⟩
  ·exact absurd hq (by show ¬(10:Int)<=0;decide)
  ·obtain ⟨p,e1,e2,e3⟩:=q10 10 rfl;have hE:EK v [(false,(10,(false,0)))] 10 0 0 mk ty py v [] c:=⟨hg2,q5,by rw [hs.now];show (0:Int)<=10;decide,.inl ⟨rfl,rfl,p,e1,e2,e3⟩⟩
   refine So.eq4 (So.bind (xX (aeI v (by show (0:Int)<=0/\(0:Int)<=15000;decide) q2 q3) hE (t:=49) (by decide)) fun r hr => ?_);obtain ⟨w,c2,rfl,hk,hn,hp⟩:=hr;obtain ⟨hgw,k1,k2,k3⟩:=hk;have hj0:v.p.j=vJ 40 200:=by rw [hs.p];rfl
   rcases k3 with ⟨_,_,p',y1,y2,y3⟩ | ⟨_,_,y3,_⟩ | ⟨y1,y2,_,_⟩
   ·have:=hp p' (by rw [y1];exact List.mem_singleton.2 rfl);omega
   ·cases y3
   ·rw [hj0] at y2;have hq:w.p.j.q=[(50,(0,(0,(mk,(ty,py)))))]:=by rw [y2];exact (Oo mk ty py).1
    have hdue:w.due=[(50,0)]:=by rw [hgw.lv.due,hq];rfl
    have hdone:w.done = -1:=by rw [hgw.lv.dn,y2];exact (Oo mk ty py).2
    have hlen:w.due.length=1:=by rw [hdue];rfl
    have hm:bf w.now 49=49:=by rw [y1];rfl
    have hl2:=hgw.lv.later (n:=49) (by rw [y1];decide);rw [hm];refine So.neg (p:=((w.due.length:Nat):Int)≠1) (by omega) (So.pos (p:=(0:Int)<=0/\(0:Int)<((w.due.length:Nat):Int)) (by omega) (So.is (a:=(50,0)) (by show w.due[0]? = _;rw [hdue];rfl) (So.neg (by simp) (So.eq4 (So.bind (Lj (v:={w with now:=49}) (c:=c2) hl2 (n:=50) (by show (49:Int)<=50/\(50:Int)<=1000000;decide)) fun r hr => ?_)))));obtain ⟨u,rfl,z1,z2,z3⟩:=hr;have hd0:u.due=[]:=by rw [z2];show (left 50 w.p.j.q).map jr=[];rw [hq];rfl
    have hd1:u.done=0:=by rw [z3];show maxS w.done (due 50 w.p.j.q)=0;rw [hdone,hq];rfl
    refine So.nf z1 (So.pos (by rw [hd0];rfl) (.mk ?_));show decide (u.done=0)=true;rw [hd1];rfl
theorem aaO (x:Int):IntKind.wrap .i64 (Int.tmod (IntKind.wrap .u64 x) 3001)=IntKind.wrap .u64 x % 3001/\0<=IntKind.wrap .u64 x % 3001/\IntKind.wrap .u64 x % 3001<=3000:=by
 have h0:0<=IntKind.wrap .u64 x:=by rw [GY];omega
 rw [Int.tmod_eq_emod_of_nonneg h0,aj (by omega)];omega
theorem ady (b g:Bool) (x y:Int):Wh (b,(IntKind.wrap .i64 (Int.tmod (IntKind.wrap .u64 x) 3001),(g,IntKind.wrap .i64 (Int.tmod (IntKind.wrap .u64 y) 3001)))):=by
 obtain ⟨a1,a2,a3⟩:=aaO x;obtain ⟨b1,b2,b3⟩:=aaO y;unfold Wh;simp only [a1,b1];omega
structure RK (i:Int) (v:Vl) (c:Ca):Prop where
 gk:GK v v [] c
 tm:v.f.tm=160*i
 sl:(v.sent.length:Int)<=i
 nw:v.now<=20*i
theorem Uk {i:Int} {v:Vl} {c:Ca} (h:RK i v c) (hi:0<=i/\i<=60) {t:Int} (ht:20*i<=t/\t<=800000) :
 So (aI (t,(v.t,c.t))) (fun r=>∃(v':Vl) (c':Ca),r=(v'.t,c'.t)/\GK v' v' [] c'/\v'.f=v.f/\v'.sent=v.sent/\v'.now=t):=by
 refine (xX (aeH v) (v0:=v) (c0:=c) h.gk (t:=t) (by omega)).imp fun r hr => ?_;obtain ⟨w,c2,rfl,hk,hn,_⟩:=hr;have hnw:=h.nw;have hm:bf v.now t=t:=by unfold bf;split<;>omega
 rw [hm] at hn;have hm2:bf w.now t=t:=by unfold bf;split<;>omega
 have hcn:=hk.cn;refine ⟨{w with now:=t},c2,by rw [hm2],⟨hk.lv.later ⟨hn,by omega⟩,hk.ca,by show c2.now<=t;omega,rfl,rfl,rfl,hk.cs,hk.ps,hk.dk,hk.ct⟩,hk.f,hk.sent,rfl⟩
theorem Ul {i:Int} {v:Vl} {c:Ca} (h:GK v v [] c) (htm:v.f.tm=160*i) (hsl:(v.sent.length:Int)<=i) (hnw:v.now=20*i) (hi:0<=i/\i<60) {fr:List Int} (hl:fr.length=160) (hf:Oy fr) :
 So (bD (fr,(v.t,c.t))) (fun r=>∃(v':Vl) (c':Ca),r=(v'.t,c'.t)/\adv v c v' c'/\RK (i+1) v' c'):=by
 have hct:=h.ct;simp only [List.length_nil] at hct;have hc0:0<=v.count:=by have:=(aaH h.lv.pv.2.1);have:=h.lv.cn;omega
 refine (aaJ h.lv h.ca h.cn (by have:=h.cs;omega) (by omega) (by omega) (by omega) hl hf).imp fun r hr => ?_;obtain ⟨v',c',rfl,hs⟩:=hr;have hg:=aaN h hs;refine ⟨v',c',rfl,hs,hg,by rw [hs.tm,htm];omega,?_,by rw [hs.now];omega⟩;rcases hs.how with ⟨q1,_⟩ | ⟨x,_,_,_,q1,_⟩
 ·rw [q1];omega
 ·rw [q1,List.length_append];simp only [List.length_cons,List.length_nil];omega
theorem aaP {v:Vl} {c:Ca} (h:LV v) {n:Int} (hn:v.now+120000<=n/\n<=1000000) :
 So (aV (n,(v.t,c.t))) (fun r=>∃v':Vl,r=v'.t/\v'.fails=false/\v'.due=[]):=by
 refine (Lj h (n:=n) (by omega)).imp fun r hr => ?_;obtain ⟨u,rfl,z1,z2,_⟩:=hr;refine ⟨u,rfl,z1,?_⟩;rw [z2];have hd:left n v.p.j.q=[]:=by
  unfold left;have:∀q:List WT,(∀w∈q,w.1<=n)->q.dropWhile (fun w=>decide (w.1<=n))=[]:=fun q=>by
   induction q with
   | nil=>intro _;rfl
   | cons w q ih =>
     intro hq;rw [List.dropWhile_cons,if_pos (decide_eq_true (hq w (List.mem_cons_self ..)))];exact ih fun x hx=>hq x (List.mem_cons_of_mem _ hx)
  exact this _ fun w hw=>by have:=h.fw w hw;omega
 rw [hd];rfl
def QK (v0:Vl) (v:Vl) (ds:List (List Int)) (c:Ca):Prop:=GK v0 v ds c/\v.p.j=v0.p.j/\c.ps=[]/\c.fs=[]/\ds=[]
theorem aeJ (v0:Vl):KOk (QK v0):=by
 refine ⟨fun v ds c h=>(aeH v0).ca v ds c h.1,fun v c x h hx => ?_,fun v d ds c h => ?_⟩
 ·obtain ⟨p,hp,_⟩:=hx;rw [h.2.2.1] at hp;cases hp
 ·have:=h.2.2.2.2;cases this
structure RE (le i:Int) (v:Vl) (c:Ca):Prop where
 gk:GK v v [] c
 tm:v.f.tm=160*i
 sl:(v.sent.length:Int)<=i
 nw:v.now<=20*i
 fs:c.fs=[]
 ps:c.ps=[]
 ex:Ex v.p.j i (v.sent.length:Int)
 le:v.p.j.le=le
theorem GK.now {v0 v:Vl} {c:Ca} (h:GK v0 v [] c) {t:Int} (ht:v.now<=t/\t<=900000):GK {v with now:=t} {v with now:=t} [] c :=
 ⟨h.lv.later ht,h.ca,by have:=h.cn;show c.now<=t;omega,rfl,rfl,rfl,h.cs,h.ps,h.dk,h.ct⟩
theorem alv {le i:Int} {v:Vl} {c:Ca} (h:RE le i v c) (hi:0<=i/\i<=60) :
 So (aI (20*i,(v.t,c.t))) (fun r=>∃(v':Vl) (c':Ca),r=(v'.t,c'.t)/\RE le i v' c'/\v'.now=20*i/\v'.sent=v.sent):=by
 refine (xX (aeJ v) (v0:=v) (c0:=c) ⟨h.gk,rfl,h.ps,h.fs,rfl⟩ (t:=20*i) (by omega)).imp fun r hr => ?_;obtain ⟨w,c2,rfl,hk,hn,_⟩:=hr;obtain ⟨k1,k2,k3,k4,_⟩:=hk;have hnw:=h.nw;have hm:bf v.now (20*i)=20*i:=by unfold bf;split<;>omega
 rw [hm] at hn;have hm2:bf w.now (20*i)=20*i:=by unfold bf;split<;>omega
 rw [hm2];exact ⟨{w with now:=20*i},c2,rfl,⟨k1.now ⟨hn,by omega⟩,by show w.f.tm=_;rw [k1.f];exact h.tm,by show (w.sent.length:Int)<=i;rw [k1.sent];exact h.sl,Int.le_refl _,k4,k3,by show Ex w.p.j i (w.sent.length:Int);rw [k2,k1.sent];exact h.ex,by show w.p.j.le=le;rw [k2];exact h.le⟩,rfl,k1.sent⟩
theorem alx {le i:Int} {v:Vl} {c:Ca} (h:RE le i v c) (hnw:v.now=20*i) (hi:0<=i/\i<60) {fr:List Int} (hl:fr.length=160) (hf:Oy fr) :
 So (bD (fr,(v.t,c.t))) (fun r=>∃(v':Vl) (c':Ca),r=(v'.t,c'.t)/\So (aI (20*i,(v'.t,c'.t))) (fun r=>∃(w:Vl) (c2:Ca),r=(w.t,c2.t)/\RE le (i+1) w c2/\w.now=20*i/\(w.sent=v.sent\/(w.sent.length=v.sent.length+1/\∃l,w.due=l++[(20*i+le,(v.sent.length:Int))])))):=by
 have hsl:=h.sl;have htm:=h.tm;refine (Ul h.gk h.tm h.sl hnw hi hl hf).imp fun r hr => ?_;obtain ⟨v',c',rfl,hs,hr⟩:=hr;refine ⟨v',c',rfl,?_⟩;have hn':v'.now=20*i:=hs.now.trans hnw;have hm:bf v'.now (20*i)=20*i:=by unfold bf;split<;>omega
 rcases hs.how with ⟨q1,q2,_⟩ | ⟨x,mk,ty,py,q1,q2,q3,q4,q5,q6,q7,q8,q9,q10⟩
 ·subst q2;refine (xX (aeJ v') (v0:=v') (c0:=c') ⟨hr.gk,rfl,h.ps,h.fs,rfl⟩ (t:=20*i) (by omega)).imp fun r hr' => ?_;obtain ⟨w,c2,rfl,hk,hn,_⟩:=hr';obtain ⟨k1,k2,k3,k4,_⟩:=hk;rw [hm] at hn;have hm2:bf w.now (20*i)=20*i:=by unfold bf;split<;>omega
  rw [hm2];refine ⟨{w with now:=20*i},c2,rfl,⟨k1.now ⟨hn,by omega⟩,by show w.f.tm=_;rw [k1.f];exact hr.tm,by show (w.sent.length:Int)<=i+1;rw [k1.sent];exact hr.sl,by show 20*i<=20*(i+1);omega,k4,k3,?_,by show w.p.j.le=le;rw [k2,hs.p];exact h.le⟩,rfl,.inl (k1.sent.trans q1)⟩;show Ex w.p.j (i+1) (w.sent.length:Int);rw [k2,k1.sent,hs.p,q1];exact h.ex.next
 ·obtain ⟨p,e1,e2,e3⟩:=q10 0 (by rw [h.fs];rfl);rw [h.ps,List.nil_append] at e1;have hE:EK v' [] (20*i) (v.sent.length:Int) v.f.tm mk ty py v' [] c':=⟨hr.gk,q5.trans h.fs,by omega,.inl ⟨rfl,rfl,p,e1,e2,by rw [e3,hnw];omega⟩⟩
  refine (xX (aeI v' (by omega) q2 q3) hE (t:=20*i) (by omega)).imp fun r hr' => ?_;obtain ⟨w,c2,rfl,hk,hn,hp⟩:=hr';obtain ⟨k1,k2,k3,k4⟩:=hk;have hm2:bf w.now (20*i)=20*i:=by unfold bf;split<;>omega
  rw [hm2];rcases k4 with ⟨_,_,p',y1,y2,y3⟩ | ⟨_,_,y3,_⟩ | ⟨y1,y2,_,y4⟩
  ·have:=hp p' (by rw [y1];exact List.mem_singleton.2 rfl);omega
  ·cases y3
  ·rw [hs.p,htm] at y2;have hput:=aiH h.gk.lv.pv.2.1 h.ex (by omega) ⟨by omega,by omega⟩ mk ty py;rw [<-y2] at hput;have hlw:(w.sent.length:Int)=(v.sent.length:Int)+1:=by rw [k1.sent,q1,List.length_append];simp only [List.length_cons,List.length_nil];omega
   refine ⟨{w with now:=20*i},c2,rfl,⟨k1.now ⟨by omega,by omega⟩,by show w.f.tm=_;rw [k1.f];exact hr.tm,by show (w.sent.length:Int)<=i+1;omega,by show 20*i<=20*(i+1);omega,k2,y4,?_,?_⟩,rfl,.inr ⟨by show w.sent.length=_;omega,(left (20*i) v.p.j.q).map jr,?_⟩⟩
   ·show Ex w.p.j (i+1) (w.sent.length:Int);rw [hlw];exact hput.2
   ·show w.p.j.le=le;have hct:=h.gk.ct;have hcn:=h.gk.lv.cn;have hjn:=h.gk.lv.jn;simp only [List.length_nil] at hct;have hok:=Ro (mk:=mk) (ty:=ty) h.gk.lv.pv.2.1 (n:=20*i) (k:=(v.sent.length:Int)) (t:=160*i) ⟨by omega,by omega⟩ ⟨by omega,by omega⟩ ⟨by omega,by omega⟩ q2.len.1 (by omega);rw [y2,hok.2.2.2.2.1];exact h.le
   ·show w.due=_;rw [k1.lv.due,hput.1,List.map_append,h.le];rfl
theorem aaQ {a b le mo:Int} {fs:List FT} (ha:ET a) (hb:ET b) (hl:1<=le/\le<=mo/\mo<=1000) (hf:∀f∈fs,Wh f):RK 0 (iD a b le mo) (lZ fs) :=
 ⟨Hl ha hb hl hf,rfl,by show (0:Int)<=0;decide,by show (0:Int)<=20*0;decide⟩
theorem aaR {a b le mo:Int} (ha:ET a) (hb:ET b) (hl:1<=le/\le<=mo/\mo<=1000):RE le 0 (iD a b le mo) (lZ []) :=
 ⟨Hl ha hb hl (fun f hf=>(by cases hf)),rfl,by show (0:Int)<=0;decide,by show (0:Int)<=20*0;decide,rfl,rfl,⟨rfl,rfl,rfl,fun h=>(by cases h),fun w hw=>(by cases hw),by show (-1:Int)<0;decide,by show (-1:Int)<0;decide⟩,rfl⟩
theorem yO {le mo:Int}:ay (le,mo)=some (decide (1<=le/\le<=mo/\mo<=1000)):=by
 unfold ay;refine So.eq (So.dec (fun h1=>So.dec (fun h2 => .mk (decide_eq_decide.2 ⟨fun h=>⟨h1,h2,h⟩,fun h=>h.2.2⟩)) fun h2 => .mk ?_) fun h1 => .mk ?_)
 ·exact (decide_eq_false fun h=>h2 h.2.1).symm
 ·exact (decide_eq_false fun h=>h1 h.1).symm
theorem aaS {P:Program} {f:Nat} {ai:List IT} {G G':(bQ ai).T->Option Bool} (h:aB P f ⟨ai,riB,G⟩) (h':aB P f ⟨ai,riB,G'⟩) {a:(bQ ai).T} (hG:G a=some true\/G' a=some true) (hd:gY ai=true:=by rfl):fZ P nJ f ((jJ ai a).map (·.2)) [] (bJ true) [] :=
 Or.elim hG (fun e=>TJ h e hd) fun e=>TJ h' e hd
def adz (l:List FT):Prop:=(∀f∈l,Wh f)/\l.length<=120
def FI (s:Int×List FT):Prop:=∃n:Nat,s.1=(n:Int)/\n<=120/\s.2.length=n/\∀f∈s.2,Wh f
theorem Oq {β:Type} {Q:β->Prop} (a5:List FT):So (bn (fun (v7,v8) =>
 bif (decide (v7<(a5.length:Int))) then
 bif (decide (v7<120)) then
 bif (decide ((0<=v7)/\(v7<(a5.length:Int)))) then
 ah a5[v7.toNat]? fun x9 =>
 ah (some (Int.tmod (IntKind.wrap .u64 x9.2.1) (3001:Int))) fun x11 =>
 ah (some (Int.tmod (IntKind.wrap .u64 x9.2.2.2) (3001:Int))) fun x14 =>
 bif (decide (v8.length<=v8.length)) then
 bif (decide (((List.length ((v8.take v8.length)++((x9.1,((IntKind.wrap .i64 x11),(x9.2.2.1,(IntKind.wrap .i64 x14))))::([]:List (Bool×(Int×(Bool×Int)))))))*32)<=140737488355328)) then
 ah (some ((v8.take v8.length)++((x9.1,((IntKind.wrap .i64 x11),(x9.2.2.1,(IntKind.wrap .i64 x14))))::([]:List (Bool×(Int×(Bool×Int))))))) fun x16 =>
 bif (decide (x16.length<=x16.length)) then
 some (Sum.inl ((IntKind.wrap .i64 (v7+(1:Int))),(x16.take x16.length)))
 else none
 else none
 else none
 else none
 else
 aA (bif (decide (v8.length<=v8.length)) then
 some (Sum.inl (v8.take v8.length))
 else none)
 else
 aA (bif (decide (v8.length<=v8.length)) then
 some (Sum.inl (v8.take v8.length))
 else none)) ((0:Int),([]:List (Bool×(Int×(Bool×Int)))))) (Sm adz Q):=by
 refine So.loop FI (fun s=>(120-s.1).toNat) (fun s hs => ?_) ⟨0,rfl,by omega,rfl,fun f hf=>(by cases hf)⟩;obtain ⟨v7,v8⟩:=s;obtain ⟨n,h1,h2,h3,h4⟩:=hs;simp only at h1 h3 h4;subst h1;have hend:adz (List.take v8.length v8):=by rw [List.take_length];exact ⟨h4,by omega⟩
 refine So.dec (fun hi=>So.dec (fun hj=>So.pos ⟨by omega,hi⟩ (So.get (show (n:Int).toNat<a5.length by omega) fun x _ _=>So.is rfl (So.is rfl (So.le (So.pos (by simp only [List.take_length];simp only [List.length_append,List.length_cons,List.length_nil];omega) (So.is rfl (So.le (.inl ⟨⟨n+1,?_,by omega,?_,?_⟩,?_⟩)))))))) fun _ => .out (So.le (.inl hend))) fun _ => .out (So.le (.inl hend))
 ·show IntKind.wrap .i64 ((n:Int)+1)=_;rw [aj (by omega)];omega
 ·simp only [List.take_length];simp only [List.length_append,List.length_cons,List.length_nil];omega
 ·intro f hf;simp only [List.take_length] at hf;rcases List.mem_append.1 hf with hf | hf
  ·exact h4 f hf
  ·rw [List.mem_singleton.1 hf];exact ady _ _ _ _
 ·show (120-IntKind.wrap .i64 ((n:Int)+1)).toNat<(120-(n:Int)).toNat;rw [aj (by omega)];omega
theorem Ho {β:Type} {Q:β->Prop} (a3 a4:Int):So (bif (decide (a3>=1)) then
 bif (decide (a3<=a4)) then
 some (Sum.inl (decide (a4<=1000)))
 else
 some (Sum.inl false)
 else
 some (Sum.inl false)) (Sm (fun b=>b=decide (1<=a3/\a3<=a4/\a4<=1000)) Q) :=
 So.dec (fun h1=>So.dec (fun h2 => .inl (decide_eq_decide.2 ⟨fun h=>⟨h1,h2,h⟩,fun h=>h.2.2⟩)) fun h2 => .inl (decide_eq_false fun h=>h2 h.2.1).symm) fun h1 => .inl (decide_eq_false fun h=>h1 h.1).symm
theorem Lp:ay (1,1)=some true:=by rw [yO];rfl
theorem So.bne {α:Type} {a b:Option α} {P:α->Prop} {x y:Bool} (e:x=y) (h:So b P):So (bif (x != y) then a else b) P:=by subst e;cases x<;>exact h
theorem So.tr {α:Type} {f:Bool} {a b:Option α} {P:α->Prop} (hf:f=true) (h:So b P):So (bif (!f) then a else b) P:=by subst hf;exact h
theorem So.fl {α:Type} {f:Bool} {a b:Option α} {P:α->Prop} (hf:f=false) (h:So b P):So (bif f then a else b) P:=by subst hf;exact h
theorem Ot:So (ah (dP ()) fun x=>some x) (· = true):=So.is adx (.mk rfl)
def BeP (s:Bool×(VT×(List FT×(List Jv×(Int×(Int×Int)))))) (le mo:Int):Prop:=∃a b fs,s=(true,((iD a b le mo).t,(lZ fs).t))/\ET a/\ET b/\∀f∈fs,Wh f
def RIv (s:Int×(VT×(List FT×(List Jv×(Int×(Int×Int)))))):Prop:=∃(n:Nat) (v:Vl) (c:Ca),s=((n:Int),(v.t,c.t))/\n<=60/\RK n v c
def REv (s:VT×(List FT×(List Jv×(Int×(Int×Int))))):Prop:=∃(n:Nat) (v:Vl) (c:Ca),s=(v.t,c.t)/\n<=60/\RK n v c
end Go.Proofs.YtigfeinnobfflaaGreat
