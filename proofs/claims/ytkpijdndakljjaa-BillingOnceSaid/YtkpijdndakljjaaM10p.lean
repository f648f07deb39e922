import Derived.Test.YtkpijdndakljjaaM2p
import Derived.Test.YtkpijdndakljjaaZrp
import Derived.Test.YtkpijdndakljjaaFp
import Derived.Test.YtkpijdndakljjaaXBp
import Derived.Test.YtkpijdndakljjaaJ10p
set_option linter.unusedSimpArgs false
set_option linter.unusedVariables false
noncomputable section
set_option maxRecDepth 100000
set_option maxHeartbeats 4000000
namespace Go.Proofs.Ytkpijdndakljjaa
open Go.RowKit
def afE (r:Int×List Int):Prop:=(0<=r.1/\r.1<=255)/\Bytes r.2/\r.2.length<=40
theorem afE.ok {r:Int×List Int} (h:afE r):Jn.EU r:=⟨h.1,h.2.1,by have:=h.2.2;omega⟩
theorem afF:∀ {l:Jn.fV},(∀r∈l,afE r)->Jn.sO l<=54*l.length
 | [],_=>Nat.le_refl _
 | r::l,h=>by
   have h1:=(h r List.mem_cons_self).2.2;have h2:=afF (l:=l) fun r' h'=>h r' (List.mem_cons_of_mem _ h');rw [Jn.sO,List.length_cons];omega
structure BN (g:LG) (R:Jn.fV) (s:ST) (ks:Nat):Prop where
 log:g.1=Jn.iO 0 R
 cnt:g.2.2.1=(R.length:Int)
 sy:g.2.1=(Jn.sO (R.take ks):Int)
 ks:ks<=R.length
 run:run R s0=some s
 bills:g.2.2.2.1=s.1++s.2.1
 last:g.2.2.2.2.1=s.2.2.1
 now:s.2.2.2<=g.2.2.2.2.2/\g.2.2.2.2.2<=1099511627776
 ok:∀r∈R,afE r
 nm:NmR R
 len:R.length<=10000
section
variable {g:LG} {R:Jn.fV} {s:ST} {ks:Nat} (h:BN g R s ks)
include h
theorem BN.by:RBy R:=fun r hr=>(h.ok r hr).2.1
theorem BN.ri:RI R s:=by
 have:=(RY R [] s0 s ri0 h.by (by have:=h.len;show 0+_<=_;omega) h.run).1
 rwa [List.nil_append] at this
theorem BN.glen:g.1.length=Jn.sO R/\g.1.length<=540000:=by
 have h1:=afF h.ok;have h2:=h.len;rw [h.log,Jn.rM];exact ⟨rfl,by omega⟩
theorem BN.syle:0<=g.2.1/\g.2.1<=(g.1.length:Int):=by
 rw [h.sy,h.glen.1];have h2:=Jn.PY R (i:=ks) (j:=R.length) h.ks;rw [List.take_of_length_le (Nat.le_refl _)] at h2;omega
theorem BN.blen:g.2.2.2.1.length<=11000:=by
 have h1:=h.ri.cnt;have h2:=ZR R;have h3:=h.len;rw [h.bills,List.length_append];omega
theorem BN.vl:VL g:=by
 have hi:=h.ri;have hlen:=h.len;have hdl:=hi.len;obtain ⟨i1,i2,i3,i4,i5,i6,i7⟩:=hi.inv;have haz:=hi.inv.az;have hdz:=hi.inv.dz;have hop:=RU hdz haz;have hsy:=h.syle;have hnow:=h.now;have hcnt:=h.cnt;have hlast:=h.last;have hb:=h.bills;refine ⟨⟨hsy.1,hsy.2,by omega,by omega⟩,by omega,by omega,by rw [hb,hop];exact i3,fun i hi => ?_⟩;unfold OKi;rw [hb,List.length_append] at hi;rw [hb,hop];by_cases e:i<s.1.length
 ·rw [jV e];have hm:=i1 _ (iG e);refine ⟨hm.1.mono hnow.1,.inl ⟨e,fun h0 => ?_⟩⟩;rw [jV (by omega)];exact Nr i2 haz (i-1) i (by omega) (by rw [haz.opn];exact e)
 ·have hj:i-s.1.length<s.2.1.length:=by omega
  have hm:=i5 _ hj;have eg:(s.1++s.2.1).getD i b0=s.2.1.getD (i-s.1.length) b0:=by
   rw [List.getD_eq_getElem?_getD,List.getElem?_append_right (by omega),<-List.getD_eq_getElem?_getD]
  rw [eg];refine ⟨hm.1.mono hnow.1,.inr ⟨by omega,?_,by omega⟩⟩;unfold pv;rw [hop];split
  ·omega
  ·have hj':i-1-s.1.length<s.2.1.length:=by omega
   have hm':=i5 _ hj';have eg':(s.1++s.2.1).getD (i-1) b0=s.2.1.getD (i-1-s.1.length) b0:=by
    rw [List.getD_eq_getElem?_getD,List.getElem?_append_right (by omega),<-List.getD_eq_getElem?_getD]
   rw [eg'];omega
theorem BN.snoc {r:Int×List Int} {a:AC} {s':ST} {g':LG} (hr:afE r) (hp:G5 r.1 r.2=some a) (he:mX a s=some s') (hn:a.1=1->a.2.2.2.2.2.1∈NM) (hl:R.length<10000)
 (e1:g'.1=g.1++Jn.jU g.2.2.1 r.1 r.2) (e2:g'.2.1=g.2.1) (e3:g'.2.2.1=g.2.2.1+1) (e4:g'.2.2.2.1=s'.1++s'.2.1) (e5:g'.2.2.2.2.1=s'.2.2.1) (e6:s'.2.2.2<=g'.2.2.2.2.2/\g'.2.2.2.2.2<=1099511627776):BN g' (R++[r]) s' ks:=by
 refine ⟨?_,?_,?_,?_,?_,e4,e5,e6,fun x hx => ?_,fun x hx b hb h1 => ?_,?_⟩
 ·rw [e1,Jn.wP,h.log,h.cnt];show _=_++(Jn.jU _ _ _++[])
  rw [List.append_nil,Nat.zero_add]
 ·rw [e3,h.cnt,List.length_append];rfl
 ·rw [e2,h.sy,List.take_append_of_le_length h.ks]
 ·rw [List.length_append];exact Nat.le_add_right_of_le h.ks
 ·rw [Dv,h.run];exact aiT hp he
 ·rcases List.mem_append.1 hx with hx | hx
  ·exact h.ok x hx
  ·rw [List.mem_singleton.1 hx];exact hr
 ·rcases List.mem_append.1 hx with hx | hx
  ·exact h.nm x hx b hb h1
  ·rw [List.mem_singleton.1 hx,hp] at hb;cases hb;exact hn h1
 ·rw [List.length_append];show R.length+1<=10000;omega
theorem BN.sync:BN (g.1,((g.1.length:Int),(g.2.2.1,(g.2.2.2.1,(g.2.2.2.2.1,g.2.2.2.2.2))))) R s R.length :=
 ⟨h.log,h.cnt,by rw [List.take_length,<-h.glen.1],Nat.le_refl _,h.run,h.bills,h.last,h.now,h.ok,h.nm,h.len⟩
end
theorem Si {c:Tx} (h:c∈NM):c.length=1:=by
 unfold NM at h;simp only [List.mem_cons,List.not_mem_nil,or_false] at h;rcases h with rfl | rfl | rfl | rfl<;>rfl
theorem ari:BN zG [] s0 0:=⟨rfl,rfl,rfl,Nat.le_refl _,rfl,rfl,rfl,⟨Int.le_refl 0,(by omega:(0:Int)<=1099511627776)⟩,fun r hr=>(by cases hr),fun r hr=>(by cases hr),Nat.zero_le _⟩
structure Nx (g:LG) (R:Jn.fV) (s:ST) (ks:Nat) (g':LG) (k n:Int) (s':ST):Prop where
 ex:∃r a,r.1=k/\G5 r.1 r.2=some a/\mX a s=some s'/\BN g' (R++[r]) s' ks/\(k=5->a.2.2.1=n)
 now:g.2.2.2.2.2<=g'.2.2.2.2.2
section
variable {g:LG} {R:Jn.fV} {s:ST} {ks:Nat} (h:BN g R s ks) (hl:R.length<10000)
include h hl
theorem aiV {c:Tx} (hc:c∈NM) {f o:Tx} (hf:f.length=1) (ho:o.length=3) {t:Int} (q:Int×(Int×(Int×(Int×(Int×Bool))))) (ht:g.2.2.2.2.2<=t) :
 (RF g (c,(f,(o,(t,q))))).2≠0\/((RF g (c,(f,(o,(t,q))))).2=0/\∃s',Nx g R s ks (RF g (c,(f,(o,(t,q))))).1 1 0 s'):=by
 have hcl:=Si hc;have hi:=h.ri;have haz:=hi.inv.az;have hdz:=hi.inv.dz;have hb:=h.bills;unfold RF;by_cases hBA:BA g (c,(f,(o,(t,q))))
 ·rw [if_pos hBA];by_cases hF:Cb c g.2.2.2.1
  ·rw [if_pos hF];exact .inl (by decide)
  ·rw [if_neg hF];by_cases hfull:opn g.2.2.2.1>=256\/g.2.2.1>=1048576
   ·rw [if_pos hfull];exact .inl (by decide)
   ·rw [if_neg hfull];have t0:0<=t:=by have:=h.vl.2.1;omega
    have hpr:=apG (t:=t) (c:=c) (f:=f) (o:=o) ⟨t0,hBA.1.2.2⟩ (by omega) (by omega) (by omega);have heff:mX (1,(t,(0,(0,(0,(c,(f,o))))))) s=some (Aw s.1 (c,(f,(o,(t,(-1,(t,(0,(0,(0,false))))))))),(s.2.1,(s.2.2.1,dM s.2.2.2 t))):=by
     unfold mX;simp only;rw [if_neg (by decide),if_pos trivial,dL,cond_true];rw [hb,RU hdz haz] at hfull;rw [hb,RX c haz hdz] at hF;exact ⟨hF,by omega,by omega,by omega,by omega⟩
    refine .inr ⟨rfl,_,⟨⟨(1,lX [t] [c,f,o]),_,rfl,hpr,heff,?_,fun k=>absurd k (by decide)⟩,ht⟩⟩;refine h.snoc ⟨⟨show (0:Int)<=1 by decide,show (1:Int)<=255 by decide⟩,iV _ _,?_⟩ hpr heff (fun _=>hc) hl rfl rfl rfl ?_ h.last ?_
    ·show (lX [t] [c,f,o]).length<=40;rw [iJ];simp only [List.flatMap_cons,List.flatMap_nil,List.length_append,vI,List.length_cons,List.length_nil];omega
    ·show Aw g.2.2.2.1 _=_;rw [hb,aiQ _ haz hdz];rfl
    ·have:=Nu s.2.2.2 t;have:=h.now;show dM s.2.2.2 t<=t/\t<=1099511627776;exact ⟨by omega,hBA.1.2.2⟩
 ·rw [if_neg hBA];exact .inl (by decide)
theorem ZT {c:Tx} (hc:c∈NM) {k:Int} (hk:k=2\/k=3) {t:Int} (ht:g.2.2.2.2.2<=t) :
 (GR g k c t).2≠0\/((GR g k c t).2=0/\∃s',Nx g R s ks (GR g k c t).1 k 0 s'):=by
 have hcl:=Si hc;have hi:=h.ri;have haz:=hi.inv.az;have hdz:=hi.inv.dz;have hb:=h.bills;unfold GR;by_cases hT:Tm g t
 ·rw [if_pos hT];have t0:0<=t:=by have:=h.vl.2.1;omega
  by_cases hF:Cb c g.2.2.2.1
  ·rw [if_pos hF];by_cases ha:k=2/\(g.2.2.2.1.getD (gZ c g.2.2.2.1) b0).2.2.2.2.1 ≠ -1
   ·rw [if_pos ha];exact .inl (by decide)
   ·rw [if_neg ha];by_cases hfull:g.2.2.1>=1048576
    ·rw [if_pos hfull];exact .inl (by decide)
    ·rw [if_neg hfull];have hF':=hF;rw [hb,RX c haz hdz] at hF';have hlt:gZ c s.1<s.1.length:=by have:=hF'.1;rwa [haz.opn] at this
     have hgx:g.2.2.2.1.getD (gZ c g.2.2.2.1) b0=s.1.getD (gZ c s.1) b0:=by rw [hb,G8 c hdz,jV hlt]
     rw [hgx] at ha;have hx:=hi.inv.1 _ (iG hlt);have hnow:=h.now;have heff:mX (k,(t,(0,(0,(0,(c,([],[]))))))) s=some (s.1.set (gZ c s.1) (tch k t (s.1.getD (gZ c s.1) b0)),(s.2.1,(s.2.2.1,dM s.2.2.2 t))):=by
      unfold mX;simp only;rw [if_neg (by omega),if_neg (by omega),if_neg (by omega),dL,cond_true];refine ⟨hF',?_,fun k2 => ?_⟩
      ·have:=hx.1.2.2.2.1.2;omega
      ·exact Classical.byContradiction fun hne=>ha ⟨k2,hne⟩
     refine .inr ⟨rfl,_,⟨⟨(k,lX [t] [c]),_,rfl,afD hk ⟨t0,hT.2.2⟩ (by omega),heff,?_,fun k5=>by omega⟩,ht⟩⟩;refine h.snoc ⟨⟨by omega,by omega⟩,iV _ _,?_⟩ (afD hk ⟨t0,hT.2.2⟩ (by omega)) heff (fun k1=>hc) hl rfl rfl rfl ?_ h.last ?_
     ·show (lX [t] [c]).length<=40;rw [len1];omega
     ·show g.2.2.2.1.set _ _=_;rw [hgx,hb,G8 c hdz,am6 _ hlt]
     ·have:=Nu s.2.2.2 t;show dM s.2.2.2 t<=t/\t<=1099511627776;exact ⟨by omega,hT.2.2⟩
  ·rw [if_neg hF];exact .inl (by decide)
 ·rw [if_neg hT];exact .inl (by decide)
def enS (s:ST) (p:Nat) (t:Int):ST :=
 if (s.1.getD p b0).2.2.2.2.1 ≠ -1 then (iH s.1 p,(s.2.1++[rcd (s.1.getD p b0) t (s.2.2.1+1) (Rt.SE (s.1.getD p b0).2.2.2.2.1 t) (Vr tr 0 (s.1.getD p b0).2.2.1 (s.1.getD p b0).2.2.2.2.1 t)],(s.2.2.1+1,dM s.2.2.2 t)))
 else (iH s.1 p,(s.2.1,(s.2.2.1,dM s.2.2.2 t)))
theorem ajW {p:Nat} (hp:p<s.1.length) {t now:Int} (hE:(s.1.getD p b0).2.2.2.2.2.1<=t) (htn:t<=now) (hnow:g.2.2.2.2.2<=now/\now<=1099511627776) :
 (tC tr 0 g p t now).2=0/\Nx g R s ks (tC tr 0 g p t now).1 4 0 (enS s p t):=by
 have hi:=h.ri;have haz:=hi.inv.az;have hdz:=hi.inv.dz;have hb:=h.bills;have hx:=hi.inv.1 _ (iG hp);have hc:=hi.nm h.nm _ (iG hp);have hcl:=Si hc;have hlast:=h.last;have hdl:=hi.len;have hla:s.2.2.1=(s.2.1.length:Int):=hi.inv.2.2.2.1;have hcnt:=h.cnt;have hnw:=h.now;have hgx:g.2.2.2.1.getD p b0=s.1.getD p b0:=by rw [hb,jV hp]
 have hps:=U9 (Nr hi.inv.2.1 haz) (p:=p) (by rw [haz.opn];exact hp);have hmx:=Nu s.2.2.2 t;have hrst:iH g.2.2.2.1 p=iH s.1 p++s.2.1:=by rw [hb,am7 hp]
 unfold tC ZK laF dE nmF;rw [hgx,hlast,hrst];rw [if_neg (show ¬(((s.1.getD p b0).2.2.2.2.1 ≠ -1/\s.2.2.1>=1048576)\/g.2.2.1>=1048576) from fun k=>by rcases k with k | k<;>omega)];refine ⟨rfl,?_⟩;unfold enS;have hE0:0<=t:=by have:=hx.1.2.1.1;have:=hx.1.2.2.2.1;omega
 obtain ⟨c1,c2,_,_,_,hco⟩:=RG tr 0 (s.1.getD p b0).2.2.1 (s.1.getD p b0).2.2.2.2.1 t;have hse:=Rt.MB (s.1.getD p b0).2.2.2.2.1 t;generalize hxg:s.1.getD p b0=x at *
 by_cases ha:x.2.2.2.2.1 ≠ -1
 ·simp only [if_pos ha];have hpr:=ajV (t:=t) (n:=s.2.2.1+1) (s:=Rt.SE x.2.2.2.2.1 t) (co:=Vr tr 0 x.2.2.1 x.2.2.2.2.1 t) (c:=x.1) ⟨hE0,by omega⟩ (by omega) (by omega) (by omega) (by omega);have heff:mX (4,(t,(s.2.2.1+1,(Rt.SE x.2.2.2.2.1 t,(Vr tr 0 x.2.2.1 x.2.2.2.2.1 t,(x.1,([],[]))))))) s=some (iH s.1 p,(s.2.1++[rcd x t (s.2.2.1+1) (Rt.SE x.2.2.2.2.1 t) (Vr tr 0 x.2.2.1 x.2.2.2.2.1 t)],(s.2.2.1+1,dM s.2.2.2 t))):=by
   unfold mX;simp only;rw [if_neg (by decide),if_neg (by decide),if_pos trivial,dL,cond_true,if_neg (by omega),if_neg (by omega),hps.1,hxg];refine ⟨hps.2,?_,.inr ⟨by omega,?_,rfl,by omega,?_,by omega⟩⟩
   ·rw [hps.1,hxg];exact hE
   ·rw [hps.1,hxg];exact ha
   ·rw [hps.1,hxg]
  refine ⟨⟨(4,lX [t,s.2.2.1+1,Rt.SE x.2.2.2.2.1 t,Vr tr 0 x.2.2.1 x.2.2.2.2.1 t] [x.1]),_,rfl,hpr,heff,?_,fun k=>absurd k (by decide)⟩,hnow.1⟩;refine h.snoc ⟨⟨show (0:Int)<=4 by decide,show (4:Int)<=255 by decide⟩,iV _ _,?_⟩ hpr heff (fun k=>absurd (show (4:Int)=1 from k) (by decide)) hl rfl rfl rfl ?_ rfl ?_
  ·show (lX _ _).length<=40;rw [iJ];simp only [List.flatMap_cons,List.flatMap_nil,List.length_append,vI,List.length_cons,List.length_nil];omega
  ·show iH s.1 p++s.2.1++_=_;rw [List.append_assoc]
  ·show dM s.2.2.2 t<=now/\now<=_;omega
 ·simp only [if_neg ha];have ha':x.2.2.2.2.1 = -1:=Classical.not_not.1 ha;have hpr:=ajV (t:=t) (n:=0) (s:=0) (co:=0) (c:=x.1) ⟨hE0,by omega⟩ (by omega) (by omega) (by omega) (by omega);have heff:mX (4,(t,(0,(0,(0,(x.1,([],[]))))))) s=some (iH s.1 p,(s.2.1,(s.2.2.1,dM s.2.2.2 t))):=by
   unfold mX;simp only;rw [if_neg (by decide),if_neg (by decide),if_pos trivial,dL,cond_true,if_pos trivial,if_pos trivial,hps.1];refine ⟨hps.2,?_,.inl ⟨rfl,rfl,rfl,?_⟩⟩
   ·rw [hps.1,hxg];exact hE
   ·rw [hps.1,hxg];exact ha'
  refine ⟨⟨(4,lX [t,0,0,0] [x.1]),_,rfl,hpr,heff,?_,fun k=>absurd k (by decide)⟩,hnow.1⟩;refine h.snoc ⟨⟨show (0:Int)<=4 by decide,show (4:Int)<=255 by decide⟩,iV _ _,?_⟩ hpr heff (fun k=>absurd (show (4:Int)=1 from k) (by decide)) hl rfl rfl rfl rfl rfl ?_
  ·show (lX _ _).length<=40;rw [iJ];simp only [List.flatMap_cons,List.flatMap_nil,List.length_append,vI,List.length_cons,List.length_nil];omega
  ·show dM s.2.2.2 t<=now/\now<=_;omega
theorem ajX {c:Tx} {t:Int} (ht:g.2.2.2.2.2<=t) :
 ((GZ g tr 0 c t).2≠0/\(t<=1099511627776->¬Cb c s.1))\/((GZ g tr 0 c t).2=0/\Cb c s.1/\(GZ g tr 0 c t).1.2.2.2.2.2=t/\Nx g R s ks (GZ g tr 0 c t).1 4 0 (enS s (gZ c s.1) t)):=by
 have hi:=h.ri;have haz:=hi.inv.az;have hdz:=hi.inv.dz;have hb:=h.bills;unfold GZ;by_cases hT:Tm g t/\Rt.TV tr 0
 ·rw [if_pos hT];by_cases hF:Cb c g.2.2.2.1
  ·rw [if_pos hF];have hF':=hF;rw [hb,RX c haz hdz] at hF';have hlt:gZ c s.1<s.1.length:=by have:=hF'.1;rwa [haz.opn] at this
   have hx:=hi.inv.1 _ (iG hlt);have hnw:=h.now;have hps:gZ c g.2.2.2.1=gZ c s.1:=by rw [hb,G8 c hdz]
   rw [hps];have hf:=ajW h hl hlt (t:=t) (now:=t) (by have:=hx.1.2.2.2.1.2;omega) (Int.le_refl _) ⟨ht,hT.1.2.2⟩;refine .inr ⟨hf.1,hF',?_,hf.2⟩;have h0:=hf.1;unfold tC at h0 ⊢;split at h0
   ·exact absurd h0 (by decide)
   ·rename_i hn;rw [if_neg hn]
  ·rw [if_neg hF];refine .inl ⟨by decide,fun _ => ?_⟩;rw [hb,RX c haz hdz] at hF;exact hF
 ·rw [if_neg hT];refine .inl ⟨by decide,fun h1=>(hT ⟨⟨h.vl,ht,h1⟩,Rt.P7⟩).elim⟩
theorem ZU {i:Nat} (hi':i<g.2.2.2.1.length) (hd:Due g.2.2.2.1 i) {n:Int} (hn:n=(g.2.2.2.1.getD i b0).2.2.2.2.2.2.1) :
 (gvR g n i).2=0/\s.1.length<=i/\n=((i-s.1.length:Nat):Int)+1/\i-s.1.length<s.2.1.length/\(gvR g n i).1.2.2.2.2.2=g.2.2.2.2.2/\Nx g R s ks (gvR g n i).1 5 n (s.1,(s.2.1.set (i-s.1.length) (SB (s.2.1.getD (i-s.1.length) b0)),s.2.2)):=by
 have hi:=h.ri;have haz:=hi.inv.az;have hb:=h.bills;have hcnt:=h.cnt;have hdl:=hi.len;have hge:s.1.length<=i:=by
  refine Classical.byContradiction fun k=>hd.1 ?_;rw [hb,jV (by omega)];exact haz _ (iG (by omega))
 rw [hb,List.length_append] at hi';have hj:i-s.1.length<s.2.1.length:=by omega
 have eg:g.2.2.2.1.getD i b0=s.2.1.getD (i-s.1.length) b0:=by
  rw [hb,List.getD_eq_getElem?_getD,List.getElem?_append_right hge,<-List.getD_eq_getElem?_getD]
 have h5:=(hi.inv.2.2.2.2.1 _ hj).2;unfold Due at hd;rw [eg] at hd hn;have hn1:n=((i-s.1.length:Nat):Int)+1:=by rw [hn,h5]
 have hlen:=h.len;unfold gvR;rw [eg,if_neg (by rw [hd.2];simp),if_neg (by omega)];have hpr:=apF (n:=n) (by omega);have hto:(n-1).toNat=i-s.1.length:=by omega
 have heff:mX (5,(0,(n,(0,(0,([],([],[]))))))) s=some (s.1,(s.2.1.set (i-s.1.length) (SB (s.2.1.getD (i-s.1.length) b0)),s.2.2)):=by
  unfold mX;simp only;rw [if_pos trivial,dL,cond_true,hto];exact ⟨by omega,by omega,by rw [hto];exact hd.2⟩
 refine ⟨rfl,hge,hn1,hj,rfl,⟨⟨(5,lX [n] []),_,rfl,hpr,heff,?_,fun _=>rfl⟩,Int.le_refl _⟩⟩;refine h.snoc ⟨⟨show (0:Int)<=5 by decide,show (5:Int)<=255 by decide⟩,iV _ _,?_⟩ hpr heff (fun k=>absurd (show (5:Int)=1 from k) (by decide)) hl rfl rfl rfl ?_ h.last h.now
 ·show (lX _ _).length<=40;rw [iJ];simp
 ·show g.2.2.2.1.set i _=_;rw [hb,List.set_append,if_neg (by omega)]
end
def clS:Nat->ST->ST
 | 0,s=>s
 | n+1,s=>clS n (enS s 0 (s.1.getD 0 b0).2.2.2.2.2.1)
theorem aiW {s:ST} {p:Nat} (h:p<s.1.length) (t:Int):(enS s p t).1.length+1=s.1.length:=by
 have:=RH h;unfold enS;split<;>exact this
theorem Nx.rel {g:LG} {R:Jn.fV} {s:ST} {ks:Nat} {g':LG} {k n:Int} {s':ST} (h:Nx g R s ks g' k n s'):∃r,r.1=k/\BN g' (R++[r]) s' ks:=by
 obtain ⟨r,a,h1,h2,h3,h4,_⟩:=h.ex;exact ⟨r,h1,h4⟩
theorem ZV:∀(n:Nat) (g:LG) (R:Jn.fV) (s:ST) (ks:Nat),BN g R s ks->s.1.length=n->R.length+n<=10000 ->
 (cls tr 0 n g).2=0/\(cls tr 0 n g).1.2.2.2.2.2=g.2.2.2.2.2/\∃E,BN (cls tr 0 n g).1 (R++E) (clS n s) ks/\E.length=n/\∀r∈E,r.1=4
 | 0,g,R,s,ks,h,hn,hl=>⟨rfl,rfl,[],by rw [List.append_nil];exact h,rfl,fun r hr=>by cases hr⟩
 | n+1,g,R,s,ks,h,hn,hl=>by
   have hp:0<s.1.length:=by omega
   have hb:g.2.2.2.1.getD 0 b0=s.1.getD 0 b0:=by rw [h.bills,jV hp]
   have hx:=h.ri.inv.1 _ (iG hp);have hnw:=h.now;obtain ⟨h0,hN⟩:=ajW h (by omega) hp (t:=(s.1.getD 0 b0).2.2.2.2.2.1) (now:=g.2.2.2.2.2) (Int.le_refl _) (by have:=hx.1.2.2.2.1.2;omega) ⟨Int.le_refl _,hnw.2⟩;have hnow:(tC tr 0 g 0 (s.1.getD 0 b0).2.2.2.2.2.1 g.2.2.2.2.2).1.2.2.2.2.2=g.2.2.2.2.2:=by
    unfold tC at h0 ⊢;split at h0
    ·exact absurd h0 (by decide)
    ·rename_i hn;rw [if_neg hn]
   obtain ⟨r,hr,hrel⟩:=hN.rel;have hlen:=aiW hp (s.1.getD 0 b0).2.2.2.2.2.1;obtain ⟨k1,k2,E,k3,k4,k5⟩:=ZV n _ (R++[r]) _ ks hrel (by omega) (by rw [List.length_append];show R.length+1+n<=10000;omega);unfold cls;rw [hb,if_neg (by rw [h0];decide)];refine ⟨k1,k2.trans hnow,r::E,?_,by rw [List.length_cons,k4],fun x hx => ?_⟩
   ·rw [List.append_assoc] at k3;exact k3
   ·rcases List.mem_cons.1 hx with e | hx
    ·rw [e];exact hr
    ·exact k5 x hx
theorem Sj {R:Jn.fV} {k:Nat} (hk:k<=R.length):(R.take k).length=k:=by rw [List.length_take];omega
theorem ab4 {g:LG} {R:Jn.fV} {s:ST} {ks:Nat} (h:BN g R s ks) {m:Nat} (hm:m<=g.1.length) (hks:Jn.sO (R.take ks)<=m) {now:Int} (hn:s.2.2.2<=now/\now<=1099511627776) (hL:R.length+uj R<=10000) :
 ∃k sk g' E,k<=R.length/\ks<=k/\run (R.take k) s0=some sk/\Lat sk s/\(∃n e,ay (Jn.pR (g.1.take m)) ([],0)=some (R.take k,(n,e)))/\lY (g.1.take m,((tr,0),now))=some (g',0) /\
  BN g' (R.take k++E) (clS sk.1.length sk) k/\g'.2.2.2.2.2=now/\E.length=sk.1.length/\(∀r∈E,r.1=4)/\RI (R.take k) sk:=by
 have hok:∀r∈R,Jn.EU r:=fun r hr=>(h.ok r hr).ok;have hgl:=h.glen;have hlen:=h.len;have hlog:=h.log;have hle:=Jn.cnt_le R m;have hscan:=Jn.U5 R ((Jn.iO 0 R).take m) [] 0 m hok rfl (Nat.zero_le _) (by rw [<-show g.1=Jn.iO ([]:Jn.fV).length R from hlog];exact hm) (by simp;omega);have hspec:=(Jn.ML R m).1;rw [List.nil_append,Nat.zero_add] at hscan;have hcge:=Jn.amC h.ks hks;obtain ⟨k,hk⟩:∃k,k=Jn.cnt R m:=⟨_,rfl⟩
 rw [<-hk] at hscan hspec hle hcge;obtain ⟨sk,hrun,hri,hext⟩:=Nz h.by (by omega) h.run hle;have hby:Bytes (g.1.take m):=fun x hx=>by
  rw [hlog] at hx;exact Jn.EW R 0 hok x (List.take_subset _ _ hx)
 have hrec:=ab2 (g.1.take m) tr 0 now hby (by rw [List.length_take];omega) (by rw [hlog];exact hscan);have hnow0:0<=now:=by have:=h.ri.inv.2.2.2.2.2.1.1;omega
 have htm:=hext.tm;unfold am1 at hrec;rw [dL ⟨Rt.P7,hnow0,hn.2⟩,cond_true,hrun] at hrec;simp only at hrec;rw [if_neg (by omega)] at hrec;have lT:=Sj hle;have hel:Jn.xR R m<=m:=Jn.ZA R m;have htake:(g.1.take m).take (((Jn.xR R m:Nat):Int)).toNat=Jn.iO 0 (R.take k):=by
  rw [Int.toNat_natCast,List.take_take,Nat.min_eq_left hel,hlog,<-hspec,Jn.U6]
 have hg0:BN ((g.1.take m).take (((Jn.xR R m:Nat):Int)).toNat,((((Jn.xR R m:Nat):Int)),(((R.take k).length:Int),(sk.1++sk.2.1,(sk.2.2.1,now))))) (R.take k) sk k:=by
  refine ⟨htake,rfl,?_,by rw [lT];exact Nat.le_refl _,hrun,rfl,rfl,⟨by show sk.2.2.2<=now;omega,hn.2⟩,fun r hr=>h.ok r (List.mem_of_mem_take hr),fun r hr=>h.nm r (List.mem_of_mem_take hr),by rw [lT];omega⟩;show ((Jn.xR R m:Nat):Int)=_;rw [<-hspec,List.take_take,Nat.min_self]
 have hcnt:=hri.cnt;have hbk:uj (R.take k)<=uj R:=by
  conv=>rhs;rw [<-List.take_append_drop k R,xU]
  omega
 obtain ⟨c1,c2,E,c3,c4,c5⟩:=ZV sk.1.length _ _ _ _ hg0 rfl (by rw [lT];omega);refine ⟨k,sk,_,E,hle,hcge,hrun,hext,⟨_,_,by rw [hlog];exact hscan⟩,?_,c3,c2,c4,c5,hri⟩;rw [hrec];exact congrArg some (Prod.ext rfl c1)
theorem P9:∀(n:Nat) (l:List Int),l.Nodup->(∀x,x∈l↔1<=x/\x<=(n:Int))->l.length=n
 | 0,l,_,h=>by
   cases l with
   | nil=>rfl
   | cons x l=>have:=(h x).1 (by simp);omega
 | n+1,l,hn,h=>by
   have hm:((n:Int)+1)∈l:=(h _).2 (by omega);have h2:=P9 n (l.erase ((n:Int)+1)) (hn.erase _) (fun x=>by rw [hn.mem_erase_iff,h x];omega);rw [List.length_erase_of_mem hm] at h2;have:=List.length_pos_of_mem hm;omega
def nU (b:BL):Int:=b.2.2.2.2.2.2.1
structure Fq (R:Jn.fV) (ks:Nat) (seen sure:List BL):Prop where
 ex:∃t,run (R.take ks) s0=some t/\(∀b∈seen,∃i,i<t.2.1.length/\nU b=(i:Int)+1/\b=ug (t.2.1.getD i b0))/\∀x∈sure,0<=x.2.2.2.2.1/\∃y∈t.1++t.2.1,SC x y
 nd:(seen.map nU).Nodup
 gv:∀n,GvR R n->n∈seen.map nU
theorem oi0:Fq [] 0 [] []:=⟨⟨s0,rfl,fun b hb=>(by cases hb),fun x hx=>(by cases hx)⟩,List.nodup_nil,fun n h=>by obtain ⟨x,hx,_⟩:=h;cases hx⟩
theorem Fq.move {R R':Jn.fV} {ks k:Nat} {seen sure:List BL} (h:Fq R ks seen sure) (hE:∀t,run (R.take ks) s0=some t->∃u,run (R'.take k) s0=some u/\Lat t u) (hg:∀n,GvR R' n->GvR R n\/n∈seen.map nU):Fq R' k seen sure:=by
 obtain ⟨⟨t,h1,h2,h3⟩,h4,h5⟩:=h;obtain ⟨u,h6,h7⟩:=hE t h1;refine ⟨⟨u,h6,fun b hb => ?_,fun x hx => ?_⟩,h4,fun n hn=>(hg n hn).elim (h5 n) id⟩
 ·obtain ⟨i,i1,i2,i3⟩:=h2 b hb;exact ⟨i,Nat.lt_of_lt_of_le i1 h7.len,i2,by rw [h7.same i i1];exact i3⟩
 ·obtain ⟨x1,y,y1,y2⟩:=h3 x hx;obtain ⟨z,z1,z2⟩:=h7.aft y y1 (by rw [y2.2.2.1];exact x1);exact ⟨x1,z,z1,y2.trans z2⟩
theorem Fq.snoc {R:Jn.fV} {ks:Nat} {seen sure:List BL} (h:Fq R ks seen sure) (hk:ks<=R.length) {r:Int×List Int} (hr:∀a,G5 r.1 r.2=some a->a.1=5->a.2.2.1∈seen.map nU):Fq (R++[r]) ks seen sure :=
 h.move (fun t ht=>⟨t,by rw [List.take_append_of_le_length hk];exact ht,Lat.refl t⟩) (fun n hn=>by
  obtain ⟨x,hx,a,h1,h2,h3⟩:=hn;rcases List.mem_append.1 hx with hx | hx
  ·exact .inl ⟨x,hx,a,h1,h2,h3⟩
  ·rw [List.mem_singleton.1 hx] at h1;rw [<-h3];exact .inr (hr a h1 h2))
theorem Fq.sync {R:Jn.fV} {ks:Nat} {seen sure:List BL} (h:Fq R ks seen sure) (hk:ks<=R.length) (hb:RBy R) (hl:R.length<=900000) {s:ST} (hr:run R s0=some s):Fq R R.length seen sure :=
 h.move (fun t ht=>by
  obtain ⟨u,h1,_,h2⟩:=Nz hb hl hr hk;rw [ht] at h1;cases h1;exact ⟨s,by rw [List.take_length];exact hr,h2⟩) (fun n hn => .inl hn)
theorem Fq.cut {R E:Jn.fV} {ks k:Nat} {seen sure:List BL} (h:Fq R ks seen sure) (hks:ks<=k) (hk:k<=R.length) (hb:RBy R) (hl:R.length<=900000) {u:ST} (hr:run (R.take k) s0=some u) (hE:∀r∈E,r.1=4):Fq (R.take k++E) k seen sure :=
 h.move (fun t ht=>by
  have lT:=Sj hk;obtain ⟨v,h1,_,h2⟩:=Nz (R:=R.take k) (fun x hx=>hb x (List.mem_of_mem_take hx)) (by omega) hr (k:=ks) (by omega);rw [List.take_take,Nat.min_eq_left hks,ht] at h1;cases h1;exact ⟨u,by rw [List.take_append_of_le_length (by omega),List.take_of_length_le (by omega)];exact hr,h2⟩) (fun n hn=>by
  obtain ⟨x,hx,a,h1,h2,h3⟩:=hn;rcases List.mem_append.1 hx with hx | hx
  ·exact .inl ⟨x,List.mem_of_mem_take hx,a,h1,h2,h3⟩
  ·have:=hE x hx;have:=Ny h1;omega)
theorem Fq.more {R:Jn.fV} {seen sure l:List BL} (h:Fq R R.length seen sure) {s:ST} (hr:run R s0=some s) (hl:∀x∈l,0<=x.2.2.2.2.1/\x∈s.1++s.2.1):Fq R R.length seen (sure++l):=by
 obtain ⟨⟨t,h1,h2,h3⟩,h4,h5⟩:=h;refine ⟨⟨t,h1,h2,fun x hx => ?_⟩,h4,h5⟩;rw [List.take_length,hr] at h1;cases h1;rcases List.mem_append.1 hx with hx | hx
 ·exact h3 x hx
 ·exact ⟨(hl x hx).1,x,(hl x hx).2,SC.rfl x⟩
theorem ab5:∀ {l:Jn.fV},Jn.sO l=0->l=[]
 | [],_=>rfl
 | r::l,h=>by rw [Jn.sO] at h;omega
theorem BN.full {g:LG} {R:Jn.fV} {s:ST} {ks:Nat} (h:BN g R s ks) (hs:g.2.1=(g.1.length:Int)):ks=R.length:=by
 have h1:=h.sy;rw [hs,h.glen.1] at h1;have h2:=Jn.Au (R.take ks) (R.drop ks);rw [List.take_append_drop] at h2;have h3:=ab5 (l:=R.drop ks) (by omega);have h4:=h.ks;have h5:(R.drop ks).length=0:=by rw [h3];rfl
 rw [List.length_drop] at h5;omega
theorem ajY {b:BL} (h:b.2.2.2.2.2.2.2.2.2=false):ug b=b:=by
 obtain ⟨a1,a2,a3,a4,a5,a6,a7,a8,a9,a10⟩:=b;replace h:a10=false:=h;subst h;rfl
open Classical in
def adS (seen:List BL) (b:BL):List BL:=if nU b∈seen.map nU then seen else seen++[b]
theorem ZW (seen:List BL) (b:BL):nU b∈(adS seen b).map nU:=by
 unfold adS;split
 ·rename_i h;exact h
 ·rw [List.map_append];exact List.mem_append.2 (.inr (List.mem_singleton.2 rfl))
theorem Fq.take {R:Jn.fV} {seen sure:List BL} (h:Fq R R.length seen sure) {s:ST} (hr:run R s0=some s) (hri:RI R s) {j:Nat} (hj:j<s.2.1.length) (hg:(s.2.1.getD j b0).2.2.2.2.2.2.2.2.2=false) :
 (∀x∈seen,nU x=nU (s.2.1.getD j b0)->x=s.2.1.getD j b0)/\Fq R R.length (adS seen (s.2.1.getD j b0)) sure:=by
 obtain ⟨⟨t,h1,h2,h3⟩,h4,h5⟩:=h;have h1':=h1;rw [List.take_length,hr] at h1';cases h1';have hn:=fun i hi=>(hri.inv.2.2.2.2.1 i hi).2;refine ⟨fun x hx hxn => ?_,?_⟩
 ·obtain ⟨i,i1,i2,i3⟩:=h2 x hx;have:=hn j hj;unfold nU at hxn i2;obtain rfl:i=j:=by omega
  rw [i3,ajY hg]
 ·unfold adS;split
  ·exact ⟨⟨s,h1,h2,h3⟩,h4,h5⟩
  ·rename_i hno;refine ⟨⟨s,h1,fun b hb => ?_,h3⟩,?_,fun n hn => ?_⟩
   ·rcases List.mem_append.1 hb with hb | hb
    ·exact h2 b hb
    ·rw [List.mem_singleton.1 hb];exact ⟨j,hj,hn j hj,(ajY hg).symm⟩
   ·rw [List.map_append,List.nodup_append];refine ⟨h4,by simp,fun a ha b hb e => ?_⟩;rw [List.map_cons,List.map_nil,List.mem_singleton] at hb;subst hb;subst e;exact hno ha
   ·rw [List.map_append];exact List.mem_append.2 (.inl (h5 n hn))
def nG (dn:List BL):Nat:=(dn.filter fun x => !x.2.2.2.2.2.2.2.2.2).length
theorem apH (dn:List BL):nG dn<=dn.length:=List.length_filter_le ..
theorem afG:∀ {dn:List BL} {j:Nat},j<dn.length->(dn.getD j b0).2.2.2.2.2.2.2.2.2=false->nG (dn.set j (SB (dn.getD j b0)))+1=nG dn
 | x::l,0,_,h=>by
   rw [List.getD_cons_zero] at h ⊢;unfold nG;rw [List.set_cons_zero,List.filter_cons,List.filter_cons,h];rfl
 | x::l,j+1,hj,h=>by
   rw [List.getD_cons_succ] at h ⊢;have ih:=afG (dn:=l) (j:=j) (by simpa using hj) h;unfold nG at ih ⊢;rw [List.set_cons_succ,List.filter_cons,List.filter_cons];split
   ·rw [List.length_cons,List.length_cons];omega
   ·exact ih
theorem Fq.done {R:Jn.fV} {seen sure:List BL} (h:Fq R R.length seen sure) {s:ST} (hr:run R s0=some s) (hri:RI R s) (h0:s.1=[]) (hg:∀i,i<s.2.1.length->(s.2.1.getD i b0).2.2.2.2.2.2.2.2.2=true) :
 (∀n,n∈seen.map nU↔1<=n/\n<=s.2.2.1)/\(seen.map nU).Nodup/\(seen.length:Int)=s.2.2.1/\∀x∈sure,∃y∈seen,y.1=x.1/\y.2.2.2.1=x.2.2.2.1/\y.2.2.2.2.1=x.2.2.2.2.1/\x.2.2.2.2.2.1<=y.2.2.2.2.2.1:=by
 obtain ⟨⟨t,h1,h2,h3⟩,h4,h5⟩:=h;rw [List.take_length,hr] at h1;cases h1;have hla:s.2.2.1=(s.2.1.length:Int):=hri.inv.2.2.2.1;have hm:∀n,n∈seen.map nU↔1<=n/\n<=(s.2.1.length:Int):=fun n=>by
  constructor
  ·intro hn;obtain ⟨b,hb,rfl⟩:=List.mem_map.1 hn;obtain ⟨i,i1,i2,_⟩:=h2 b hb;omega
  ·rintro ⟨n1,n2⟩;have:=hri.gv (n-1).toNat (by omega) (hg _ (by omega));rw [show (((n-1).toNat:Nat):Int)+1=n from by omega] at this;exact h5 n this
 have hlen:=P9 s.2.1.length (seen.map nU) h4 hm;rw [List.length_map] at hlen;refine ⟨fun n=>by rw [hla];exact hm n,h4,by rw [hla,hlen],fun x hx => ?_⟩;obtain ⟨_,y,hy,hA⟩:=h3 x hx;rw [h0,List.nil_append] at hy;obtain ⟨i,hi,e⟩:=List.mem_iff_getElem.1 hy;have hmem:=(hm ((i:Int)+1)).2 (by omega);obtain ⟨b,hb,hbn⟩:=List.mem_map.1 hmem;obtain ⟨j,j1,j2,j3⟩:=h2 b hb;obtain rfl:j=i:=by omega
 refine ⟨b,hb,?_⟩;rw [wF hi,e] at j3;rw [j3];exact hA
set_option maxRecDepth 1000000
set_option maxHeartbeats 0
abbrev G9:=iT
abbrev LGz:=LN×(Int×(Int×((List G9)×(Int×Int))))
abbrev A4z:=Int×(Int×(Int×Int))
def ana:List (Nat×PL):=[]
def iW:Int->Option LU:=fun a1 =>
 ah (some (Int.tmod a1 (5:Int))) fun x2 =>
 ah (some (IntKind.wrap .u8 ((Int.tmod a1 (5:Int))+(1:Int)))) fun x4 =>
 bif ((decide ((0<=x4)/\(x4<=5)))&&(decide ((0<=x2)/\(x2<=((x4.toNat:Nat):Int))))) then
 some (List.take (x4.toNat-x2.toNat) (List.drop x2.toNat ((99:UInt8)::((97:UInt8)::((108:UInt8)::((108:UInt8)::((115:UInt8)::([]:List UInt8))))))))
 else none
def anb:List (Nat×CE):=[]
theorem ab6:dZ Try.prog anb:=trivial
def ane:CE:=⟨[(.tmp 0 false [Gv])],[(.tmp 0 false [dS])],iW⟩
theorem ajZ:aV Try.prog 38 ane :=nT ana fC ab6 Try.func38
def anf:List (Nat×PL):=[(635065662736647179655866222081,(.carry [.tmp 51 false [dO]]))]
def jW:((zl)×(Int×(Int×(Int×Int))))->Option ((zl)×Bool):=fun ((a1,(a2,(a3,(a4,(a5,a6))))),(a7,(a8,(a9,a10)))) =>
 ah (some (IntKind.wrap .i64 (a6+(IntKind.wrap .i64 a9)))) fun x12 =>
 ah (iW a8) fun x13 =>
 ah (some (Int.tmod a7 (9:Int))) fun x14 =>
 bif (decide (x14=0)) then
 bif (decide ((2+x13.length)<=9223372036854775807)) then
 ah (mJ ((a1,(a2,(a3,(a4,(a5,a6))))),(x13,(((102:UInt8)::([]:List UInt8)),((((52:UInt8)::((57:UInt8)::([]:List UInt8)))++x13),(x12,((0:Int),((0:Int),((0:Int),((0:Int),((0:Int),false))))))))))) fun ((x17,(x18,(x19,(x20,(x21,x22))))),x23) =>
 bif (decide (x23≠0)) then
 some ((a1,(a2,(a3,(a4,(a5,a6))))),false)
 else
 some ((x17,(x18,(x19,(x20,(x21,x22))))),true)
 else none
 else
 aA (bif (decide (x14=1)) then
 some (Sum.inl true)
 else
 some (Sum.inl (decide (x14=2)))) fun v24 =>
 bif v24 then
 ah (nO ((a1,(a2,(a3,(a4,(a5,a6))))),(x13,x12))) fun ((x26,(x27,(x28,(x29,(x30,x31))))),x32) =>
 bif (decide (x32≠0)) then
 some ((a1,(a2,(a3,(a4,(a5,a6))))),false)
 else
 some ((x26,(x27,(x28,(x29,(x30,x31))))),true)
 else
 bif (decide (x14=3)) then
 ah (yN ((a1,(a2,(a3,(a4,(a5,a6))))),(x13,x12))) fun ((x34,(x35,(x36,(x37,(x38,x39))))),x40) =>
 bif (decide (x40≠0)) then
 some ((a1,(a2,(a3,(a4,(a5,a6))))),false)
 else
 some ((x34,(x35,(x36,(x37,(x38,x39))))),true)
 else
 bif (decide (x14=4)) then
 ah (gY ()) fun (x42,x43) =>
 ah (nP ((a1,(a2,(a3,(a4,(a5,a6))))),((x42,x43),(x13,x12)))) fun ((x45,(x46,(x47,(x48,(x49,x50))))),x51) =>
 bif (decide (x51≠0)) then
 some ((a1,(a2,(a3,(a4,(a5,a6))))),false)
 else
 some ((x45,(x46,(x47,(x48,(x49,x50))))),true)
 else
 bif (decide (x14=5)) then
 ah (jG (a1,(a2,(a3,(a4,(a5,a6)))))) fun (x53,(x54,(x55,(x56,(x57,x58))))) =>
 some ((x53,(x54,(x55,(x56,(x57,x58))))),true)
 else
 ah (eY (a1,(a2,(a3,(a4,(a5,a6)))))) fun ((x60,(x61,(x62,(x63,(x64,(x65,(x66,(x67,(x68,x69))))))))),x70) =>
 bif (!x70) then
 some ((a1,(a2,(a3,(a4,(a5,a6))))),false)
 else
 ah (mM ((a1,(a2,(a3,(a4,(a5,a6))))),x66)) fun ((x72,(x73,(x74,(x75,(x76,x77))))),x78) =>
 bif (decide (x78≠0)) then
 some ((a1,(a2,(a3,(a4,(a5,a6))))),false)
 else
 some ((x72,(x73,(x74,(x75,(x76,x77))))),true)
def ang:List (Nat×CE):=[(10,al2),(15,al8),(17,aoH),(20,ahV),(24,ahW),(22,amk),(26,ahX),(28,ahY),(38,ane)]
theorem ab7:dZ Try.prog ang:=⟨ajA,ajC,aoI,aeT,aeU,ajE,aeV,aeW,ajZ,trivial⟩
def apI:CE:=⟨[(.tmp 0 true [dY,dI,dI,(.dat (.list nZ)),dI,dI]),(.tmp 1 true [Gv,Gv,(.dat (.int .u16)),(.dat (.int .u16))])],[(.tmp 0 true [dY,dI,dI,(.dat (.list nZ)),dI,dI]),(.tmp 1 false [dO])],jW⟩
theorem apJ:aV Try.prog 32 apI :=nT anf fC ab7 Try.func32
def Oj:List (Nat×PL):=[(262657,(.carry [])),(35253091829766,(.carry [.tmp 5 false [dI]]))]
def seB (a1 a2 a3:List UInt8) (a4 a5 a6 a7 a8 a9:Int) (a10:Bool) (a11:List G9):Int->Option (Int ⊕ (Unit ⊕ (Bool×List G9))) :=
 (fun v12 =>
 bif (decide (v12<(a11.length:Int))) then
 bif (decide ((0<=v12)/\(v12<(a11.length:Int)))) then
 ah a11[v12.toNat]? fun x13 =>
 bif (decide (x13.2.2.2.2.2.2.1=a7)) then
 bif (decide ((0<=v12)/\(v12<(a11.length:Int)))) then
 ah a11[v12.toNat]? fun x14 =>
 au (au (bif (decide (a11.length<=a11.length)) then
 some (((decide (x14.1=a1))&&((decide (x14.2.1=a2))&&((decide (x14.2.2.1=a3))&&((decide (x14.2.2.2.1=a4))&&((decide (x14.2.2.2.2.1=a5))&&((decide (x14.2.2.2.2.2.1=a6))&&((decide (x14.2.2.2.2.2.2.1=a7))&&((decide (x14.2.2.2.2.2.2.2.1=a8))&&((decide (x14.2.2.2.2.2.2.2.2.1=a9))&&(x14.2.2.2.2.2.2.2.2.2==a10)))))))))),(a11.take a11.length))
 else none))
 else none
 else
 some (Sum.inl (IntKind.wrap .i64 (v12+(1:Int))))
 else none
 else
 au (some (Sum.inl ())))
def He:((iT)×(List iT))->Option (Bool×(List iT)):=fun ((a1,(a2,(a3,(a4,(a5,(a6,(a7,(a8,(a9,a10))))))))),a11) =>
 aA (ay (seB a1 a2 a3 a4 a5 a6 a7 a8 a9 a10 a11) (0:Int)) fun _ =>
 bif (decide (a11.length<=a11.length)) then
 bif (decide (((List.length ((a11.take a11.length)++((a1,(a2,(a3,(a4,(a5,(a6,(a7,(a8,(a9,a10)))))))))::([]:List iT))))*104)<=140737488355328)) then
 ah (some ((a11.take a11.length)++((a1,(a2,(a3,(a4,(a5,(a6,(a7,(a8,(a9,a10)))))))))::([]:List iT)))) fun x16 =>
 bif (decide (x16.length<=x16.length)) then
 some (true,(x16.take x16.length))
 else none
 else none
 else none
def Ol:List (Nat×CE):=[]
theorem Hf:dZ Try.prog Ol:=trivial
def IW:CE:=⟨[.tmp 0 false [.pt 20000030 0],.tmp 1 true [.dat .str,.dat .str,.dat .str,.dat dH,.dat dH,.dat dH,.dat dH,.dat dH,.dat dH,.dat .bool],.mix 20000030 [.own 20000031 29 pV]],[.tmp 0 false [dO],.mix 20000030 [(.own 10000001 29 nZ)],.dead 20000031],He⟩
theorem Sl:aV Try.prog 36 IW :=
 rH (oK (plan:=vF Oj) (eg:=fC) KK qj (nI Hf) Try.func36 (by kernel_rfl) (by kernel_rfl) 10000 (fun a r h=>Eq.trans (show _=He a from by kernel_rfl) h)) (by rfl)
def anh:List (Nat×PL):=[(134480385,(.carry [.tmp 3 false [(.own 10000002 29 nZ)]])),(18049651601311750,(.carry [.tmp 4 false [dI],.tmp 3 false [(.own 10000001 29 nZ)]]))]
def awB {δ:Type} (a4:List G9):(Int×List G9)->Option ((Int×List G9) ⊕ (List G9 ⊕ δ)) :=
 (fun (v7,v8) =>
 bif (decide (v7<(a4.length:Int))) then
 bif (decide ((0<=v7)/\(v7<(a4.length:Int)))) then
 ah a4[v7.toNat]? fun x9 =>
 bif (decide (x9.2.2.2.2.1>=0)) then
 bif (decide ((0<=v7)/\(v7<(a4.length:Int)))) then
 ah a4[v7.toNat]? fun x10 =>
 bif (decide (v8.length<=v8.length)) then
 bif (decide (((List.length ((v8.take v8.length)++((x10.1,(x10.2.1,(x10.2.2.1,(x10.2.2.2.1,(x10.2.2.2.2.1,(x10.2.2.2.2.2.1,(x10.2.2.2.2.2.2.1,(x10.2.2.2.2.2.2.2.1,(x10.2.2.2.2.2.2.2.2.1,x10.2.2.2.2.2.2.2.2.2)))))))))::([]:List iT))))*104)<=140737488355328)) then
 ah (some ((v8.take v8.length)++((x10.1,(x10.2.1,(x10.2.2.1,(x10.2.2.2.1,(x10.2.2.2.2.1,(x10.2.2.2.2.2.1,(x10.2.2.2.2.2.2.1,(x10.2.2.2.2.2.2.2.1,(x10.2.2.2.2.2.2.2.2.1,x10.2.2.2.2.2.2.2.2.2)))))))))::([]:List iT)))) fun x11 =>
 bif (decide (x11.length<=x11.length)) then
 some (Sum.inl ((IntKind.wrap .i64 (v7+(1:Int))),(x11.take x11.length)))
 else none
 else none
 else none
 else none
 else
 bif (decide (v8.length<=v8.length)) then
 some (Sum.inl ((IntKind.wrap .i64 (v7+(1:Int))),(v8.take v8.length)))
 else none
 else none
 else
 au (bif (decide (v8.length<=v8.length)) then
 some (Sum.inl (v8.take v8.length))
 else none))
def iD:(zl)->Option (List iT):=fun (a1,(a2,(a3,(a4,(a5,a6))))) =>
 aA (ay (awB a4) ((0:Int),([]:List iT))) fun v14 =>
 bif (decide (v14.length<=v14.length)) then
 some (v14.take v14.length)
 else none
def ani:List (Nat×CE):=[]
theorem ab8:dZ Try.prog ani:=trivial
def apK:CE:=⟨[(.tmp 0 true [dY,dI,dI,(.dat (.list nZ)),dI,dI])],[(.tmp 0 false [(.dat (.list nZ))])],iD⟩
theorem apL:aV Try.prog 37 apK :=nT anh ajt ab8 Try.func37
def anj:List (Nat×PL):=[(262657,(.carry [])),(35253091829766,(.carry [.tmp 5 false [dI]])),(9241386504622178817,(.carry [.tmp 7 false [dI],.tmp 6 false [dI]])),(1240357900220250339094299137,(.carry [.tmp 7 false [dI],.tmp 6 false [dI]])),(166478019274412700104466407786547206,(.carry [.tmp 7 false [dI],.tmp 6 false [dI]]))]
def wgB {δ:Type} (a1:List G9) (v3:Int):(Int×Int)->Option ((Int×Int) ⊕ ((Int×Int) ⊕ δ)) :=
 (fun (v4,v5) =>
 bif (decide (v4<(a1.length:Int))) then
 bif (decide ((0<=v4)/\(v4<(a1.length:Int)))) then
 ah a1[v4.toNat]? fun x6 =>
 bif (decide (x6.2.2.2.2.2.2.1=v3)) then
 some (Sum.inl ((IntKind.wrap .i64 (v4+(1:Int))),(IntKind.wrap .i64 (v5+(1:Int)))))
 else
 some (Sum.inl ((IntKind.wrap .i64 (v4+(1:Int))),v5))
 else none
 else
 au (some (Sum.inl (v4,v5))))
def whB (a1:List G9) (a2:Int):Int->Option (Int ⊕ (Unit ⊕ Bool)) :=
 (fun v3 =>
 bif (decide (v3<=a2)) then
 aA (aA (ay (wgB a1 v3) ((0:Int),(0:Int))) fun (v10,v11) =>
 bif (decide (v11≠1)) then
 au (au (au (some false)))
 else
 some (Sum.inl (v10,v11))) fun (v12,v13) =>
 some (Sum.inl (IntKind.wrap .i64 (v3+(1:Int))))
 else
 au (some (Sum.inl ())))
def jE:((List iT)×Int)->Option Bool:=fun (a1,a2) =>
 aA (ay (whB a1 a2) (1:Int)) fun _ =>
 some (decide ((a1.length:Int)=a2))
def ank:List (Nat×CE):=[]
theorem ab9:dZ Try.prog ank:=trivial
def apO:CE:=⟨[(.tmp 0 false [(.dat (.list nZ))]),(.tmp 1 false [dI])],[(.tmp 0 false [dO])],jE⟩
theorem apP:aV Try.prog 39 apO :=nT anj fC ab9 Try.func39
def anl:List (Nat×PL):=[]
def lS:((iT)×(iT))->Option Bool:=fun ((a1,(a2,(a3,(a4,(a5,(a6,(a7,(a8,(a9,a10))))))))),(a11,(a12,(a13,(a14,(a15,(a16,(a17,(a18,(a19,a20)))))))))) =>
 bif (decide (a1=a11)) then
 bif (decide (a4=a14)) then
 some (decide (a5=a15))
 else
 some false
 else
 some false
def anm:List (Nat×CE):=[]
theorem acd:dZ Try.prog anm:=trivial
def apQ:CE:=⟨[(.tmp 0 true [dS,dS,dS,dI,dI,dI,dI,dI,dI,dO]),(.tmp 1 true [dS,dS,dS,dI,dI,dI,dI,dI,dI,dO])],[(.tmp 0 false [dO])],lS⟩
theorem apR:aV Try.prog 78 apQ :=nT anl fC acd Try.func78
def ano:List (Nat×PL):=[(262657,(.carry [])),(35253091829766,(.carry [.tmp 5 false [dI]])),(9241386504622178817,(.carry [.tmp 7 false [dI],.tmp 6 false [dO]])),(1240357900220250339094299137,(.carry [.tmp 7 false [dI],.tmp 6 false [dO]])),(166478019274412700104466407786547206,(.carry [.tmp 7 false [dI],.tmp 6 false [dO]]))]
def afH {δ:Type} (a1 a2:List G9) (v3:Int):(Int×Bool)->Option ((Int×Bool) ⊕ ((Int×Bool) ⊕ δ)) :=
 (fun (v4,v5) =>
 bif (decide (v4<(a1.length:Int))) then
 bif v5 then
 some (Sum.inl ((IntKind.wrap .i64 (v4+(1:Int))),true))
 else
 bif (decide ((0<=v4)/\(v4<(a1.length:Int)))) then
 ah a1[v4.toNat]? fun x7 =>
 bif (decide ((0<=v3)/\(v3<(a2.length:Int)))) then
 ah a2[v3.toNat]? fun x8 =>
 ah (lS ((x7.1,(x7.2.1,(x7.2.2.1,(x7.2.2.2.1,(x7.2.2.2.2.1,(x7.2.2.2.2.2.1,(x7.2.2.2.2.2.2.1,(x7.2.2.2.2.2.2.2.1,(x7.2.2.2.2.2.2.2.2.1,x7.2.2.2.2.2.2.2.2.2))))))))),(x8.1,(x8.2.1,(x8.2.2.1,(x8.2.2.2.1,(x8.2.2.2.2.1,(x8.2.2.2.2.2.1,(x8.2.2.2.2.2.2.1,(x8.2.2.2.2.2.2.2.1,(x8.2.2.2.2.2.2.2.2.1,x8.2.2.2.2.2.2.2.2.2))))))))))) fun x9 =>
 bif x9 then
 bif (decide ((0<=v4)/\(v4<(a1.length:Int)))) then
 ah a1[v4.toNat]? fun x10 =>
 bif (decide ((0<=v3)/\(v3<(a2.length:Int)))) then
 ah a2[v3.toNat]? fun x11 =>
 some (Sum.inl ((IntKind.wrap .i64 (v4+(1:Int))),(decide (x10.2.2.2.2.2.1>=x11.2.2.2.2.2.1))))
 else none
 else none
 else
 some (Sum.inl ((IntKind.wrap .i64 (v4+(1:Int))),false))
 else none
 else none
 else
 au (some (Sum.inl (v4,v5))))
def afI (a1 a2:List G9):Int->Option (Int ⊕ (Unit ⊕ Bool)) :=
 (fun v3 =>
 bif (decide (v3<(a2.length:Int))) then
 aA (aA (ay (afH a1 a2 v3) ((0:Int),false)) fun (v14,v15) =>
 bif (!v15) then
 au (au (au (some false)))
 else
 some (Sum.inl (v14,v15))) fun (v16,v17) =>
 some (Sum.inl (IntKind.wrap .i64 (v3+(1:Int))))
 else
 au (some (Sum.inl ())))
def iE:((List iT)×(List iT))->Option Bool:=fun (a1,a2) =>
 aA (ay (afI a1 a2) (0:Int)) fun _ =>
 some true
def anp:List (Nat×CE):=[(78,apQ)]
theorem ace:dZ Try.prog anp:=⟨apR,trivial⟩
def apS:CE:=⟨[(.tmp 0 false [(.dat (.list nZ))]),(.tmp 1 false [(.dat (.list nZ))])],[(.tmp 0 false [dO])],iE⟩
theorem apT:aV Try.prog 40 apS :=nT ano fC ace Try.func40
def apU:CE:=⟨[(.tmp 0 true [dY,dI,dI]),(.tmp 1 false [dI])],[(.tmp 0 false [dY])],mG⟩
def apV:List (Nat×PL):=[(35253226045953,(.carry [.tmp 5 false [(.own 10000005 29 nZ)],.mix 4 [(.own 10000006 29 nZ)],.mix 2 [dY,dI,dI,(.dat (.list nZ)),dI,dI]])),(4731607904558101301254,(.carry [.tmp 6 false [dI],.tmp 5 false [(.own 10000003 29 nZ)],.mix 4 [(.own 10000002 29 nZ)],.mix 2 [dY,dI,dI,(.dat (.list nZ)),dI,dI]])),(18049651735527937,(.carry [.mix 2 [dY,dI,dI,(.dat (.list nZ)),dI,dI]])),(43641380036262212448999211270542761132545,(.carry [.mix 4 [(.own 10000001 29 nZ)],.dead 10000002])),(2422583247133816450713606,(.carry [.tmp 15 false [dI],.mix 2 [dY,dI,dI,(.dat (.list nZ)),dI,dI]])),(9241421688590303745,(.carry [.mix 2 [dY,dI,dI,(.dat (.list nZ)),dI,dI],.mix 4 [(.own 10000007 29 nZ)],.dead 10000006])),(5857446875251671767157990010524242726056897020417,(.carry [.mix 2 [dY,dI,dI,(.dat (.list nZ)),dI,dI]])),(1240362622532514091349837830,(.carry [.tmp 18 false [dI],.mix 2 [dY,dI,dI,(.dat (.list nZ)),dI,dI],.mix 4 [(.own 10000004 29 nZ)],.dead 10000006]))]
def oaT (v9:Int) (v10:List G9) (v12:List Int) (v13 v14:Int) (v15:List G9) (v16 v17:Int) (x18:A4z) (v52:List G9):Option ((Int×(List G9×(List G9×LGz))) ⊕ ((List G9×(List G9×LGz)) ⊕ Bool)) :=
 bif (decide ((Int.tmod x18.1 (9:Int))=7)) then
 bif ((decide (v10.length<=v10.length))&&(decide (v52.length<=v52.length))) then
 some (Sum.inl ((IntKind.wrap .i64 (v9+(1:Int))),((v10.take v10.length),((v52.take v52.length),(v12,(v13,(v14,(v15,(v16,v17)))))))))
 else none
 else
 ah (jW ((v12,(v13,(v14,(v15,(v16,v17))))),(x18.1,(x18.2.1,(x18.2.2.1,x18.2.2.2))))) fun ((x56,(x57,(x58,(x59,(x60,x61))))),x62) =>
 aA (bif x62 then
 some (Sum.inl (x56,(x57,(x58,(x59,(x60,x61))))))
 else
 some (Sum.inl (v12,(v13,(v14,(v15,(v16,v17))))))) fun (v63,(v64,(v65,(v66,(v67,v68))))) =>
 bif x62 then
 bif (decide ((Int.tmod x18.1 (9:Int))=5)) then
 ah (iD (v63,(v64,(v65,(v66,(v67,v68)))))) fun x70 =>
 bif (decide (v10.length<=v10.length)) then
 bif (decide (((List.length ((v10.take v10.length)++x70))*104)<=140737488355328)) then
 ah (some ((v10.take v10.length)++x70)) fun x71 =>
 bif ((decide (x71.length<=x71.length))&&(decide (v52.length<=v52.length))) then
 some (Sum.inl ((IntKind.wrap .i64 (v9+(1:Int))),((x71.take x71.length),((v52.take v52.length),(v63,(v64,(v65,(v66,(v67,v68)))))))))
 else none
 else none
 else none
 else
 bif ((decide (v10.length<=v10.length))&&(decide (v52.length<=v52.length))) then
 some (Sum.inl ((IntKind.wrap .i64 (v9+(1:Int))),((v10.take v10.length),((v52.take v52.length),(v63,(v64,(v65,(v66,(v67,v68)))))))))
 else none
 else
 bif ((decide (v10.length<=v10.length))&&(decide (v52.length<=v52.length))) then
 some (Sum.inl ((IntKind.wrap .i64 (v9+(1:Int))),((v10.take v10.length),((v52.take v52.length),(v63,(v64,(v65,(v66,(v67,v68)))))))))
 else none
def ZX (a1:List A4z):(Int×(List G9×(List G9×LGz)))->Option ((Int×(List G9×(List G9×LGz))) ⊕ ((List G9×(List G9×LGz)) ⊕ Bool)) :=
 (fun (v9,(v10,(v11,(v12,(v13,(v14,(v15,(v16,v17)))))))) =>
 bif (decide (v9<(a1.length:Int))) then
 bif (decide (v9<80)) then
 bif (decide ((0<=v9)/\(v9<(a1.length:Int)))) then
 ah a1[v9.toNat]? fun x18 =>
 bif (decide ((Int.tmod x18.1 (9:Int))=8)) then
 ah (some (IntKind.wrap .i64 ((v12.length:Int)+(1:Int)))) fun x21 =>
 bif (decide (x21≠0)) then
 ah (mG ((v12,(v13,v14)),(Int.tmod (IntKind.wrap .i64 x18.2.2.2) x21))) fun x23 =>
 ah (gY ()) fun (x25,x26) =>
 ah (lY (x23,((x25,x26),v17))) fun ((x28,(x29,(x30,(x31,(x32,x33))))),x34) =>
 bif (decide (x34≠0)) then
 au (au (some false))
 else
 bif ((decide (v10.length<=v10.length))&&(decide (v11.length<=v11.length))) then
 some (Sum.inl ((IntKind.wrap .i64 (v9+(1:Int))),((v10.take v10.length),((v11.take v11.length),(x28,(x29,(x30,(x31,(x32,x33)))))))))
 else none
 else none
 else
 ah (eY (v12,(v13,(v14,(v15,(v16,v17)))))) fun ((x37,(x38,(x39,(x40,(x41,(x42,(x43,(x44,(x45,x46))))))))),x47) =>
 aA (bif (decide ((Int.tmod x18.1 (9:Int))>=6)) then
 bif x47 then
 bif (decide (v11.length=v11.length)) then
 ah (He ((x37,(x38,(x39,(x40,(x41,(x42,(x43,(x44,(x45,x46))))))))),v11)) fun (x50,x51) =>
 bif (!x50) then
 au (au (au (some false)))
 else
 bif (decide (x51.length<=x51.length)) then
 some (Sum.inl (x51.take x51.length))
 else none
 else none
 else
 bif (decide (v11.length<=v11.length)) then
 some (Sum.inl (v11.take v11.length))
 else none
 else
 bif (decide (v11.length<=v11.length)) then
 some (Sum.inl (v11.take v11.length))
 else none) fun v52 =>
 oaT v9 v10 v12 v13 v14 v15 v16 v17 x18 v52
 else none
 else
 au (bif ((decide (v10.length<=v10.length))&&(decide (v11.length<=v11.length))) then
 some (Sum.inl ((v10.take v10.length),((v11.take v11.length),(v12,(v13,(v14,(v15,(v16,v17))))))))
 else none)
 else
 au (bif ((decide (v10.length<=v10.length))&&(decide (v11.length<=v11.length))) then
 some (Sum.inl ((v10.take v10.length),((v11.take v11.length),(v12,(v13,(v14,(v15,(v16,v17))))))))
 else none))
def obB {δ:Type}:(Int×LGz)->Option ((Int×LGz) ⊕ (LGz ⊕ δ)) :=
 (fun (v83,(v84,(v85,(v86,(v87,(v88,v89)))))) =>
 bif (decide (v83<5)) then
 ah (gY ()) fun (x91,x92) =>
 ah (iW (IntKind.wrap .u8 v83)) fun x94 =>
 ah (nP ((v84,(v85,(v86,(v87,(v88,v89))))),((x91,x92),(x94,v89)))) fun ((x96,(x97,(x98,(x99,(x100,x101))))),x102) =>
 bif (decide (x102=0)) then
 some (Sum.inl ((IntKind.wrap .i64 (v83+(1:Int))),(x96,(x97,(x98,(x99,(x100,x101)))))))
 else
 some (Sum.inl ((IntKind.wrap .i64 (v83+(1:Int))),(v84,(v85,(v86,(v87,(v88,v89)))))))
 else
 au (some (Sum.inl (v84,(v85,(v86,(v87,(v88,v89))))))))
def Vk  : (Int×(LGz×List G9))->Option ((Int×(LGz×List G9)) ⊕ ((LGz×List G9) ⊕ Bool)) :=
 (fun (v111,((v112,(v113,(v114,(v115,(v116,v117))))),v118)) =>
 bif (decide (v111<=100)) then
 ah (jG (v112,(v113,(v114,(v115,(v116,v117)))))) fun (x120,(x121,(x122,(x123,(x124,x125))))) =>
 ah (eY (x120,(x121,(x122,(x123,(x124,x125)))))) fun ((x127,(x128,(x129,(x130,(x131,(x132,(x133,(x134,(x135,x136))))))))),x137) =>
 bif (!x137) then
 au (bif (decide (v118.length<=v118.length)) then
 some (Sum.inl ((x120,(x121,(x122,(x123,(x124,x125))))),(v118.take v118.length)))
 else none)
 else
 ah (mM ((x120,(x121,(x122,(x123,(x124,x125))))),x133)) fun ((x139,(x140,(x141,(x142,(x143,x144))))),x145) =>
 bif (decide (v118.length=v118.length)) then
 ah (He ((x127,(x128,(x129,(x130,(x131,(x132,(x133,(x134,(x135,x136))))))))),v118)) fun (x147,x148) =>
 bif (!x147) then
 au (au (some false))
 else
 bif (decide (x145≠0)) then
 au (au (some false))
 else
 bif (decide (x148.length<=x148.length)) then
 some (Sum.inl ((IntKind.wrap .i64 (v111+(1:Int))),((x139,(x140,(x141,(x142,(x143,x144))))),(x148.take x148.length))))
 else none
 else none
 else
 au (bif (decide (v118.length<=v118.length)) then
 some (Sum.inl ((v112,(v113,(v114,(v115,(v116,v117))))),(v118.take v118.length)))
 else none))
def iP:(List (Int×(Int×(Int×Int))))->Option Bool:=fun a1 =>
 ah (pU ()) fun (x3,(x4,(x5,(x6,(x7,x8))))) =>
 aA (ay (ZX a1) ((0:Int),(([]:List iT),(([]:List iT),(x3,(x4,(x5,(x6,(x7,x8))))))))) fun (v75,(v76,(v77,(v78,(v79,(v80,(v81,v82))))))) =>
 aA (ay obB ((0:Int),(v77,(v78,(v79,(v80,(v81,v82))))))) fun (v105,(v106,(v107,(v108,(v109,v110))))) =>
 aA (bif (decide (v76.length<=v76.length)) then
 ay Vk ((0:Int),((v105,(v106,(v107,(v108,(v109,v110))))),(v76.take v76.length)))
 else none) fun ((v150,(v151,(v152,(v153,(v154,v155))))),v156) =>
 bif (decide (v156.length<=v156.length)) then
 ah (jE ((v156.take v156.length),v154)) fun x157 =>
 bif x157 then
 bif ((decide (v156.length<=v156.length))&&(decide (v75.length<=v75.length))) then
 ah (iE ((v156.take v156.length),(v75.take v75.length))) fun x158 =>
 bif x158 then
 ah (jD ()) fun x159 =>
 some x159
 else
 some false
 else none
 else
 some false
 else none
def apW:List (Nat×CE):=[(33,apU),(20,ahV),(24,ahW),(22,amk),(26,ahX),(28,ahY),(31,amX),(9,ce9),(29,apo),(38,ane),(32,apI),(36,IW),(37,apK),(39,apO),(40,apS)]
theorem afJ:dZ Try.prog apW:=⟨aeG,aeT,aeU,ajE,aeV,aeW,ajS,aq0,apq,ajZ,apJ,Sl,apL,apP,apT,trivial⟩
def ce7:CE:=⟨[(.tmp 0 false [(.dat (.list (.pair vP (.pair vP (.pair (.int .u16) (.int .u16))))))])],[(.tmp 0 false [dO])],iP⟩
theorem arl:aV Try.prog 7 ce7 :=nT apV fC afJ Try.func7
theorem anq (c:Int) (hc:0<=c):∃t,iW c=some t/\t∈NM:=by
 have h0:0<=Int.tmod c 5:=Int.tmod_nonneg _ hc;have h1:Int.tmod c 5<5:=Int.tmod_lt_of_pos _ (by decide);unfold iW;generalize Int.tmod c 5=m at *
 have hm:m=0\/m=1\/m=2\/m=3\/m=4:=by omega
 rcases hm with rfl | rfl | rfl | rfl | rfl
 ·exact ⟨[99],rfl,by decide⟩
 ·exact ⟨[97],rfl,by decide⟩
 ·exact ⟨[108],rfl,by decide⟩
 ·exact ⟨[108],rfl,by decide⟩
 ·exact ⟨[115],rfl,by decide⟩
def snG (g:LG):LG:=(g.1,((g.1.length:Int),(g.2.2.1,(g.2.2.2.1,(g.2.2.2.2.1,g.2.2.2.2.2)))))
def Stp (g:LG) (R:Jn.fV) (s:ST) (ks:Nat) (q:Int) (r:LG×Bool):Prop :=
 (r.2=false/\r.1=g)\/(r.2=true/\q=5/\r.1=snG g)\/(r.2=true/\q≠5/\∃k n s',Nx g R s ks r.1 k n s'/\(k=5->6<=q/\∃b,eY g=some (b,true)/\nU b=n))
theorem afK {g:LG} {R:Jn.fV} {s:ST} {ks:Nat} (h:BN g R s ks) {i:Nat} (hi:i<g.2.2.2.1.length) (h0:(g.2.2.2.1.getD i b0).2.2.2.2.2.2.1≠0):s.1.length<=i/\i-s.1.length<s.2.1.length/\g.2.2.2.1.getD i b0=s.2.1.getD (i-s.1.length) b0/\(g.2.2.2.1.getD i b0).2.2.2.2.2.2.1=((i-s.1.length:Nat):Int)+1:=by
 have hb:=h.bills;have haz:=h.ri.inv.az;have hge:s.1.length<=i:=by
  refine Classical.byContradiction fun k=>h0 ?_;rw [hb,jV (by omega)];exact haz _ (iG (by omega))
 rw [hb,List.length_append] at hi;have hj:i-s.1.length<s.2.1.length:=by omega
 have eg:g.2.2.2.1.getD i b0=s.2.1.getD (i-s.1.length) b0:=by
  rw [hb,List.getD_eq_getElem?_getD,List.getElem?_append_right hge,<-List.getD_eq_getElem?_getD]
 exact ⟨hge,hj,eg,by rw [eg];exact (h.ri.inv.2.2.2.2.1 _ hj).2⟩
theorem ZY {g:LG} {R:Jn.fV} {s:ST} {ks:Nat} (h:BN g R s ks) (hl:R.length<10000) {i:Nat} (hi:i<g.2.2.2.1.length) (hd:Due g.2.2.2.1 i) :
 mM (g,(g.2.2.2.1.getD i b0).2.2.2.2.2.2.1)=some (gvR g (g.2.2.2.1.getD i b0).2.2.2.2.2.2.1 i):=by
 have hbl:=h.blen;have hgl:=h.glen;have hu:=afK h hi hd.1;obtain ⟨r,e1,_,hr⟩:=apu g (g.2.2.2.1.getD i b0).2.2.2.2.2.2.1 (by omega) (by omega);rw [e1];rcases hr with ⟨k,_⟩ | ⟨_,⟨j,j1,j2,rfl⟩ | ⟨k,_⟩⟩
 ·exact (k h.vl).elim
 ·have hu2:=afK h j1 (by rw [j2.2];exact hd.1);have e:=j2.2;rw [hu2.2.2.2,hu.2.2.2] at e;obtain rfl:j=i:=by omega
  rfl
 ·exact (k i hi ⟨by omega,rfl⟩).elim
theorem anr {g:LG} {R:Jn.fV} {s:ST} {ks:Nat} (h:BN g R s ks) (hl:R.length<10000) {d c t k:Int} (hd:0<=d) (hc:0<=c) (ht:0<=t/\t<=65535) :
 ∃r,jW (g,(d,(c,(t,k))))=some r/\Stp g R s ks (Int.tmod d 9) r:=by
 have hbl:=h.blen;have hgl:=h.glen;have hnw:=h.now;have hvl:=h.vl;obtain ⟨nm,hnm,hnM⟩:=anq c hc;have hnl:=Si hnM;have q0:0<=Int.tmod d 9:=Int.tmod_nonneg _ hd;have hn0:=hvl.2.1;have hw:IntKind.wrap .i64 (g.2.2.2.2.2+IntKind.wrap .i64 t)=g.2.2.2.2.2+t:=by
  rw [aj (n:=t) (by omega),aj (by omega)]
 have hB:=ZI g (nm,([102],([52,57]++nm,(g.2.2.2.2.2+t,(0,(0,(0,(0,(0,false))))))))) (by omega) (by omega);have hBw:=aiV h hl hnM (f:=[102]) (o:=[52,57]++nm) rfl (by rw [List.length_append,hnl];rfl) (t:=g.2.2.2.2.2+t) (0,(0,(0,(0,(0,false))))) (by omega);have hA:=Vg g nm (g.2.2.2.2.2+t) (by omega) (by omega);have hAw:=ZT h hl hnM (k:=2) (.inl rfl) (t:=g.2.2.2.2.2+t) (by omega);have hM:=amY g nm (g.2.2.2.2.2+t) (by omega) (by omega);have hMw:=ZT h hl hnM (k:=3) (.inr rfl) (t:=g.2.2.2.2.2+t) (by omega);have hE:=afr g tr 0 nm (g.2.2.2.2.2+t) (by omega) (by omega);have hEw:=ajX h hl (c:=nm) (t:=g.2.2.2.2.2+t) (by omega);have hS:=GN g (by omega) (by omega);unfold abZ at hS;rw [if_pos hvl] at hS;obtain ⟨nx,hN,_,hNx⟩:=Ns g (by omega);have hGv:=fun i hi hd=>ZY h hl (i:=i) hi hd;have hGw:=fun i (hi:i<g.2.2.2.1.length) (hd:Due g.2.2.2.1 i)=>ZU h hl hi hd (n:=(g.2.2.2.1.getD i b0).2.2.2.2.2.2.1) rfl;obtain ⟨g1,g2,g3,g4,g5,g6⟩:=g;simp only at hw hB hA hM hE hS hN;unfold jW;simp only [↓aF,aG,hw,hnm];generalize Int.tmod d 9=q at *
 by_cases c0:q=0
 ·simp (disch:=(first | omega | (simp only [bJ];omega))) only [↓aF,aG,c0,if_true,hnl,if_pos,hB];rcases hBw with e0 | ⟨e0,s',hX⟩
  ·generalize RF _ _=r at *
   obtain ⟨⟨r1,r2,r3,r4,r5,r6⟩,r7⟩:=r;simp only at e0;simp only [↓aF,aG,ne_eq,e0,not_false_iff,if_true];exact ⟨_,rfl,.inl ⟨rfl,rfl⟩⟩
  ·generalize RF _ _=r at *
   obtain ⟨⟨r1,r2,r3,r4,r5,r6⟩,r7⟩:=r;simp only at e0 hX;simp only [↓aF,aG,ne_eq,e0,not_true_eq_false,if_false];exact ⟨_,rfl,.inr (.inr ⟨rfl,by decide,1,0,s',hX,fun k=>absurd k (by decide)⟩)⟩
 ·by_cases c12:q=1\/q=2
  ·have hv:∀ {β:Type} (f:Bool->Option β),aA (if q=1 then some (Sum.inl true) else some (Sum.inl (decide (q=2)))) f=f true:=fun f=>by
    by_cases k1:q=1
    ·rw [if_pos k1];rfl
    ·rw [if_neg k1,decide_eq_true (show q=2 by omega)];rfl
   simp only [↓aF,aG,c0,if_false,↓hv,hA];rcases hAw with e0 | ⟨e0,s',hX⟩
   ·generalize GR _ 2 _ _=r at *
    obtain ⟨⟨r1,r2,r3,r4,r5,r6⟩,r7⟩:=r;simp only at e0;simp only [↓aF,aG,ne_eq,e0,not_false_iff,if_true];exact ⟨_,rfl,.inl ⟨rfl,rfl⟩⟩
   ·generalize GR _ 2 _ _=r at *
    obtain ⟨⟨r1,r2,r3,r4,r5,r6⟩,r7⟩:=r;simp only at e0 hX;simp only [↓aF,aG,ne_eq,e0,not_true_eq_false,if_false];exact ⟨_,rfl,.inr (.inr ⟨rfl,by omega,2,0,s',hX,fun k=>absurd k (by decide)⟩)⟩
  ·have hv:∀ {β:Type} (f:Bool->Option β),aA (if q=1 then some (Sum.inl true) else some (Sum.inl (decide (q=2)))) f=f false:=fun f=>by
    rw [if_neg (by omega),decide_eq_false (show ¬q=2 by omega)];rfl
   by_cases c3:q=3
   ·simp only [↓aF,aG,c0,if_false,↓hv,c3,if_true,hM];rcases hMw with e0 | ⟨e0,s',hX⟩
    ·generalize GR _ 3 _ _=r at *
     obtain ⟨⟨r1,r2,r3,r4,r5,r6⟩,r7⟩:=r;simp only at e0;simp only [↓aF,aG,ne_eq,e0,not_false_iff,if_true];exact ⟨_,rfl,.inl ⟨rfl,rfl⟩⟩
    ·generalize GR _ 3 _ _=r at *
     obtain ⟨⟨r1,r2,r3,r4,r5,r6⟩,r7⟩:=r;simp only at e0 hX;simp only [↓aF,aG,ne_eq,e0,not_true_eq_false,if_false];exact ⟨_,rfl,.inr (.inr ⟨rfl,by decide,3,0,s',hX,fun k=>absurd k (by decide)⟩)⟩
   ·by_cases c4:q=4
    ·simp only [↓aF,aG,c0,if_false,↓hv,c3,c4,if_true,Az,hE];rcases hEw with ⟨e0,_⟩ | ⟨e0,_,_,hX⟩
     ·generalize GZ _ _ _ _ _=r at *
      obtain ⟨⟨r1,r2,r3,r4,r5,r6⟩,r7⟩:=r;simp only at e0;simp only [↓aF,aG,ne_eq,e0,not_false_iff,if_true];exact ⟨_,rfl,.inl ⟨rfl,rfl⟩⟩
     ·generalize GZ _ _ _ _ _=r at *
      obtain ⟨⟨r1,r2,r3,r4,r5,r6⟩,r7⟩:=r;simp only at e0 hX;simp only [↓aF,aG,ne_eq,e0,not_true_eq_false,if_false];exact ⟨_,rfl,.inr (.inr ⟨rfl,by decide,4,0,_,hX,fun k=>absurd k (by decide)⟩)⟩
    ·by_cases c5:q=5
     ·simp only [↓aF,aG,c0,if_false,↓hv,c3,c4,c5,if_true,hS];exact ⟨_,rfl,.inr (.inl ⟨rfl,rfl,rfl⟩)⟩
     ·simp only [↓aF,aG,c0,if_false,↓hv,c3,c4,c5,hN];rcases hNx with ⟨_,i,i1,i2,_,rfl⟩ | ⟨_,rfl⟩
      ·obtain ⟨e0,_,_,_,_,hX⟩:=hGw i i1 i2;have hgv:=hGv i i1 i2;simp only at hgv e0 hX;generalize hx:g4.getD i b0=x at *
       obtain ⟨y1,y2,y3,y4,y5,y6,y7,y8,y9,y10⟩:=x;simp only at hgv;simp only [↓aF,aG];rw [hgv];generalize gvR _ _ _=r at *
       obtain ⟨⟨r1,r2,r3,r4,r5,r6⟩,r7⟩:=r;simp only at e0 hX;simp only [↓aF,aG,ne_eq,e0,not_true_eq_false,if_false];exact ⟨_,rfl,.inr (.inr ⟨rfl,by omega,5,_,_,hX,fun _=>⟨by omega,_,hN,rfl⟩⟩)⟩
      ·simp only [↓aF,aG,b0];exact ⟨_,rfl,.inl ⟨rfl,rfl⟩⟩
abbrev LS:=(List Int×(Int×Int))×(List BL×(Int×Int))
abbrev A4:=Int×(Int×(Int×Int))
def dLS:LS:=(([],(0,0)),([],(0,0)))
structure CrI (acts:List A4) (i:Nat) (S:List LS) (R:Jn.fV) (s:ST) (ks:Nat) (g:LG):Prop where
 rel:BN g R s ks
 ia:i<=acts.length
 i60:i<=60
 rl:R.length<=i
 sl:S.length=R.length+1
 st:∀k,k<=R.length->∃t,run (R.take k) s0=some t/\(S.getD k dLS).2.1=t.1++t.2.1/\(S.getD k dLS).2.2.1=t.2.2.1
def dA4:A4:=(0,(0,(0,0)))
def Vl (a:A4):Prop:=0<=a.1/\0<=a.2.1/\(0<=a.2.2.1/\a.2.2.1<=65535)/\(0<=a.2.2.2/\a.2.2.2<=65535)
theorem apY (a1 a2 a3:Tx) (a4 a5 a6 a7 a8 a9:Int) (a10:Bool) (a11:List BL):He ((a1,(a2,(a3,(a4,(a5,(a6,(a7,(a8,(a9,a10))))))))),a11) =
 aA (ay (seB a1 a2 a3 a4 a5 a6 a7 a8 a9 a10 a11) (0:Int)) fun _ =>
 bif (decide (a11.length<=a11.length)) then
  bif (decide (((List.length ((a11.take a11.length)++((a1,(a2,(a3,(a4,(a5,(a6,(a7,(a8,(a9,a10)))))))))::([]:List iT))))*104)<=140737488355328)) then
   ah (some ((a11.take a11.length)++((a1,(a2,(a3,(a4,(a5,(a6,(a7,(a8,(a9,a10)))))))))::([]:List iT)))) fun x16 =>
   bif (decide (x16.length<=x16.length)) then
    some (true,(x16.take x16.length))
   else none
  else none
 else none:=rfl
theorem apZ (a1:List Int) (a2 a3:Int) (a4:List BL) (a5 a6:Int):iD (a1,(a2,(a3,(a4,(a5,a6))))) =
 aA (ay (awB a4) ((0:Int),([]:List iT))) fun v14 =>
 bif (decide (v14.length<=v14.length)) then
  some (v14.take v14.length)
 else none:=rfl
theorem ap0 (a1:List BL) (a2:Int):jE (a1,a2) =
 aA (ay (whB a1 a2) (1:Int)) fun _ =>
 some (decide ((a1.length:Int)=a2)):=rfl
theorem ap1 (a1 a2:List BL):iE (a1,a2) =
 aA (ay (afI a1 a2) (0:Int)) fun _ =>
 some true:=rfl
theorem aiY (a1:List A4):iP a1 =
 ah (pU ()) fun (x3,(x4,(x5,(x6,(x7,x8))))) =>
 aA (ay (ZX a1) ((0:Int),(([]:List iT),(([]:List iT),(x3,(x4,(x5,(x6,(x7,x8))))))))) fun (v75,(v76,(v77,(v78,(v79,(v80,(v81,v82))))))) =>
 aA (ay (obB) ((0:Int),(v77,(v78,(v79,(v80,(v81,v82))))))) fun (v105,(v106,(v107,(v108,(v109,v110))))) =>
 aA (bif (decide (v76.length<=v76.length)) then
 ay (Vk) ((0:Int),((v105,(v106,(v107,(v108,(v109,v110))))),(v76.take v76.length)))
 else none) fun ((v150,(v151,(v152,(v153,(v154,v155))))),v156) =>
 bif (decide (v156.length<=v156.length)) then
  ah (jE ((v156.take v156.length),v154)) fun x157 =>
  bif x157 then
   bif ((decide (v156.length<=v156.length))&&(decide (v75.length<=v75.length))) then
    ah (iE ((v156.take v156.length),(v75.take v75.length))) fun x158 =>
    bif x158 then
     ah (jD ()) fun x159 =>
     some x159
    else
     some false
   else none
  else
   some false
 else none:=rfl
theorem Vm {b:BL} {seen:List BL} (h:∀x∈seen,nU x=nU b->x=b) (hl:seen.length<=100000):He (b,seen)=some (true,adS seen b):=by
 obtain ⟨b1,b2,b3,b4,b5,b6,b7,b8,b9,b10⟩:=b;rw [apY];have hL:=lM (body:=seB b1 b2 b3 b4 b5 b6 b7 b8 b9 b10 seen) seen.length (fun i=>nU (seen.getD i b0)=b7) (fun i => .inr (true,seen)) (.inl ()) (fun i hi hn=>by
  obtain ⟨x,hx,hxb⟩:=get_at b0 hi;simp only [hx] at hn;replace hn:¬x.2.2.2.2.2.2.1=b7:=hn;unfold seB;simp (disch:=(first | omega | (simp only [bJ];omega))) only [↓aF,aG,if_pos,↓hxb,hn,if_false,aj];rfl) (fun i hi hn=>by
  obtain ⟨x,hx,hxb⟩:=get_at b0 hi;have hxe:=h x (by rw [<-hx];exact iG hi) (by rw [<-hx];exact hn);subst hxe;unfold seB;simp (disch:=(first | omega | (simp only [bJ];omega))) only [↓aF,aG,if_pos,↓hxb,decide_true,Bool.and_true,beq_self_eq_true]) (by
  unfold seB;simp (disch:=(first | omega | (simp only [bJ];omega))) only [↓aF,aG,if_neg])
 rcases hL with ⟨i,i1,i2,_,e⟩ | ⟨k,e⟩
 ·rw [e];have hm:nU (b1,(b2,(b3,(b4,(b5,(b6,(b7,(b8,(b9,b10)))))))))∈seen.map nU:=List.mem_map.2 ⟨_,iG i1,i2⟩;unfold adS;rw [if_pos hm];rfl
 ·rw [e];have hm:¬nU (b1,(b2,(b3,(b4,(b5,(b6,(b7,(b8,(b9,b10)))))))))∈seen.map nU:=fun hm=>by
   obtain ⟨x,hx,hxe⟩:=List.mem_map.1 hm;obtain ⟨i,hi,e2⟩:=List.mem_iff_getElem.1 hx;exact k i hi (by rw [wF hi,e2];exact hxe)
  unfold adS;rw [if_neg hm];simp (disch:=first | omega | (simp only [bJ];omega)) only [↓aF,aG,if_pos]
theorem Z4 (seen:List BL) (b:BL):(adS seen b).length<=seen.length+1:=by
 unfold adS;split
 ·omega
 ·rw [List.length_append];exact Nat.le_refl _
theorem XF (g:LG) (hl:g.2.2.2.1.length<=20000):iD g=some (g.2.2.2.1.filter fun x=>decide (x.2.2.2.2.1>=0)):=by
 obtain ⟨a1,a2,a3,a4,a5,a6⟩:=g;replace hl:a4.length<=20000:=hl;rw [apZ];have hloop:∀ {δ:Type},ay (awB (δ:=δ) a4) (0,[])=some (.inl (a4.filter fun x=>decide (x.2.2.2.2.1>=0))):=fun {δ}=>by
  refine bG (fun i=>((i:Int),(a4.take i).filter fun x=>decide (x.2.2.2.2.1>=0))) a4.length rfl (fun i hi => ?_) ?_
  ·obtain ⟨x,hx,hxb⟩:=get_at b0 hi;have ht:=take_snoc a4 b0 hi;rw [hx] at ht;have hf:((a4.take i).filter fun x=>decide (x.2.2.2.2.1>=0)).length<=20000:=Nat.le_trans (List.length_filter_le ..) (by rw [List.length_take];omega);have e:((a4.take (i+1)).filter fun x=>decide (x.2.2.2.2.1>=0))=((a4.take i).filter fun x=>decide (x.2.2.2.2.1>=0))++(if x.2.2.2.2.1>=0 then [x] else []):=by
    rw [ht,List.filter_append];congr 1;by_cases h:x.2.2.2.2.1>=0
    ·rw [if_pos h,List.filter_cons,decide_eq_true h];rfl
    ·rw [if_neg h,List.filter_cons,decide_eq_false h];rfl
   simp only [e];generalize ((a4.take i).filter fun x=>decide (x.2.2.2.2.1>=0))=acc at *
   unfold awB;by_cases h:x.2.2.2.2.1>=0
   ·simp (disch:=first | omega | (simp only [bJ];omega)) only [↓aF,aG,if_pos,↓hxb,h,if_true,aj];rfl
   ·simp (disch:=(first | omega | (simp only [bJ];omega))) only [↓aF,aG,if_pos,↓hxb,h,if_false,aj,List.append_nil];rfl
  ·unfold awB;simp (disch:=(first | omega | (simp only [bJ];omega))) only [↓aF,aG,if_neg]
 rw [hloop];simp only [↓aF,aG]
def XG (n:Int) (l:List BL):Nat:=(l.filter fun x=>decide (x.2.2.2.2.2.2.1=n)).length
theorem ant (n:Int) (l:List BL):XG n l<=l.length:=List.length_filter_le ..
theorem Sm (n:Int) (l m:List BL):XG n (l++m)=XG n l+XG n m:=by unfold XG;rw [List.filter_append,List.length_append]
theorem Sr (n:Int) (x:BL):XG n [x]=if x.2.2.2.2.2.2.1=n then 1 else 0:=by
 unfold XG;by_cases h:x.2.2.2.2.2.2.1=n
 ·rw [if_pos h,List.filter_cons,decide_eq_true h];rfl
 ·rw [if_neg h,List.filter_cons,decide_eq_false h];rfl
theorem Vo {n:Int}:∀ {l:List BL},n∉l.map nU->XG n l=0
 | [],_=>rfl
 | x::l,h=>by
   rw [List.map_cons,List.mem_cons] at h;have h1:=Vo (n:=n) (l:=l) fun k=>h (.inr k);have e:=Sm n [x] l;rw [Sr,h1] at e;have h2:¬x.2.2.2.2.2.2.1=n:=fun k=>h (.inl k.symm);rw [if_neg h2] at e;exact e
theorem Vp {n:Int}:∀ {l:List BL},(l.map nU).Nodup->n∈l.map nU->XG n l=1
 | [],_,h=>by cases h
 | x::l,hn,h=>by
   rw [List.map_cons,List.nodup_cons] at hn;have e:=Sm n [x] l;rw [Sr] at e;rcases List.mem_cons.1 h with h | h
   ·have h2:x.2.2.2.2.2.2.1=n:=h.symm;have h3:n∉l.map nU:=by rw [h];exact hn.1
    rw [if_pos h2,Vo h3] at e;exact e
   ·have h2:¬x.2.2.2.2.2.2.1=n:=fun k=>hn.1 (by rw [show nU x=n from k];exact h);rw [if_neg h2,Vp hn.2 h] at e;exact e
theorem aiZ {δ:Type} (l:List BL) (n:Int) (hl:l.length<=100000):ay (wgB (δ:=δ) l n) (0,0)=some (.inl ((l.length:Int),(XG n l:Int))):=by
 refine bG (fun i=>((i:Int),(XG n (l.take i):Int))) l.length rfl (fun i hi => ?_) ?_
 ·obtain ⟨x,hx,hxb⟩:=get_at b0 hi;have ht:=take_snoc l b0 hi;rw [hx] at ht;have hc:=ant n (l.take i);rw [List.length_take] at hc;have e:XG n (l.take (i+1))=XG n (l.take i)+(if x.2.2.2.2.2.2.1=n then 1 else 0):=by rw [ht,Sm,Sr]
  simp only [e];generalize XG n (l.take i)=c at *
  unfold wgB;by_cases h:x.2.2.2.2.2.2.1=n
  ·simp (disch:=(first | omega | (simp only [bJ];omega))) only [↓aF,aG,if_pos,↓hxb,h,if_true,aj];rfl
  ·simp (disch:=(first | omega | (simp only [bJ];omega))) only [↓aF,aG,if_pos,↓hxb,h,if_false,aj];rfl
 ·unfold wgB;simp (disch:=(first | omega | (simp only [bJ];omega))) only [↓aF,aG,if_neg]
theorem ai0 {l:List BL} {last:Int} (hl:l.length<=100000) (h1:(l.map nU).Nodup) (h2:∀n,n∈l.map nU↔1<=n/\n<=last) (h3:(l.length:Int)=last):jE (l,last)=some true:=by
 rw [ap0];have hloop:ay (whB l last) (1:Int)=some (.inl ()):=by
  refine bG (fun i=>((i:Int)+1)) l.length rfl (fun i hi => ?_) ?_
  ·have hc:XG ((i:Int)+1) l=1:=Vp h1 ((h2 _).2 (by omega));have hw:∀ {δ:Type},ay (wgB (δ:=δ) l ((i:Int)+1)) (0,0)=_:=fun {δ}=>aiZ l ((i:Int)+1) hl;rw [hc] at hw;have hne:¬(((1:Nat):Int)≠1):=by decide
   unfold whB;simp (disch:=(first | omega | (simp only [bJ];omega))) only [↓aF,aG,if_pos,↓hw,hne,if_false,aj];rfl
  ·unfold whB;simp (disch:=(first | omega | (simp only [bJ];omega))) only [↓aF,aG,if_neg]
 rw [hloop];show some (decide (((l.length:Nat):Int)=last))=some true;rw [decide_eq_true h3]
def okC (x y:BL):Bool:=decide (y.1=x.1)&&(decide (y.2.2.2.1=x.2.2.2.1)&&(decide (y.2.2.2.2.1=x.2.2.2.2.1)&&decide (y.2.2.2.2.2.1>=x.2.2.2.2.2.1)))
theorem anu {β:Type} (y x:BL) (f:Bool->Option β):ah (lS (y,x)) f=f (decide (y.1=x.1)&&(decide (y.2.2.2.1=x.2.2.2.1)&&decide (y.2.2.2.2.1=x.2.2.2.2.1))):=by
 obtain ⟨y1,y2,y3,y4,y5,y6,y7,y8,y9,y10⟩:=y;obtain ⟨x1,x2,x3,x4,x5,x6,x7,x8,x9,x10⟩:=x;unfold lS;simp only;cases decide (y1=x1)<;>cases decide (y4=x4)<;>rfl
theorem afL {δ:Type} (l m:List BL) {k:Nat} (hk:k<m.length) (hl:l.length<=100000):ay (afH (δ:=δ) l m (k:Int)) (0,false)=some (.inl ((l.length:Int),l.any (okC (m.getD k b0)))):=by
 obtain ⟨z,hz,hzb⟩:=get_at b0 hk;rw [hz];refine bG (fun i=>((i:Int),(l.take i).any (okC z))) l.length rfl (fun i hi => ?_) ?_
 ·obtain ⟨x,hx,hxb⟩:=get_at b0 hi;have ht:=take_snoc l b0 hi;rw [hx] at ht;have e:(l.take (i+1)).any (okC z)=((l.take i).any (okC z)||okC z x):=by rw [ht,List.any_append];simp
  simp only [e];generalize (l.take i).any (okC z)=c at *
  unfold afH;cases c with
  | true =>
    simp (disch:=(first | omega | (simp only [bJ];omega))) only [↓aF,aG,if_pos,aj,Bool.true_or];rfl
  | false =>
    have hs:=fun {β:Type} (f:Bool->Option β)=>anu (x.1,(x.2.1,(x.2.2.1,(x.2.2.2.1,(x.2.2.2.2.1,(x.2.2.2.2.2.1,(x.2.2.2.2.2.2.1,(x.2.2.2.2.2.2.2.1,(x.2.2.2.2.2.2.2.2.1,x.2.2.2.2.2.2.2.2.2))))))))) (z.1,(z.2.1,(z.2.2.1,(z.2.2.2.1,(z.2.2.2.2.1,(z.2.2.2.2.2.1,(z.2.2.2.2.2.2.1,(z.2.2.2.2.2.2.2.1,(z.2.2.2.2.2.2.2.2.1,z.2.2.2.2.2.2.2.2.2))))))))) f;simp (disch:=(first | omega | (simp only [bJ];omega))) only [↓aF,aG,if_pos,↓hxb,↓hzb,↓hs,aj,Bool.false_or];unfold okC;by_cases c1:x.1=z.1
    ·by_cases c2:x.2.2.2.1=z.2.2.2.1
     ·by_cases c3:x.2.2.2.2.1=z.2.2.2.2.1
      ·simp only [c1,c2,c3,if_true,decide_true,Bool.true_and];rfl
      ·simp only [c1,c2,c3,if_true,if_false,decide_true,decide_false,Bool.true_and,Bool.false_and];rfl
     ·simp only [c1,c2,if_true,if_false,decide_true,decide_false,Bool.true_and,Bool.false_and];rfl
    ·simp only [c1,if_false,decide_false,Bool.false_and];rfl
 ·unfold afH;simp (disch:=(first | omega | (simp only [bJ];omega))) only [↓aF,aG,if_neg]
theorem XH {l m:List BL} (hl:l.length<=100000) (hm:m.length<=100000) (h:∀x∈m,∃y∈l,y.1=x.1/\y.2.2.2.1=x.2.2.2.1/\y.2.2.2.2.1=x.2.2.2.2.1/\x.2.2.2.2.2.1<=y.2.2.2.2.2.1):iE (l,m)=some true:=by
 rw [ap1];have hloop:ay (afI l m) (0:Int)=some (.inl ()):=by
  refine bG (fun i=>(i:Int)) m.length rfl (fun i hi => ?_) ?_
  ·have hw:∀ {δ:Type},ay (afH (δ:=δ) l m (i:Int)) (0,false)=_:=fun {δ}=>afL l m hi hl;have hany:l.any (okC (m.getD i b0))=true:=by
    obtain ⟨y,hy,y1,y2,y3,y4⟩:=h _ (iG hi);refine List.any_eq_true.2 ⟨y,hy,?_⟩;unfold okC;rw [decide_eq_true y1,decide_eq_true y2,decide_eq_true y3,decide_eq_true y4];rfl
   rw [hany] at hw;unfold afI;simp (disch:=(first | omega | (simp only [bJ];omega))) only [↓aF,aG,if_pos,↓hw,aj];rfl
  ·unfold afI;simp (disch:=(first | omega | (simp only [bJ];omega))) only [↓aF,aG,if_neg]
 rw [hloop];rfl
structure OnS (acts:List A4) (i:Nat) (sure seen:List BL) (R:Jn.fV) (s:ST) (ks:Nat) (g:LG):Prop where
 rel:BN g R s ks
 oi:Fq R ks seen sure
 ia:i<=acts.length
 i80:i<=80
 rl:R.length<=100*i
 bg:uj R<=i
 sl:seen.length<=i
 ul:sure.length<=100*i
theorem afM {E:Jn.fV} (h:∀r∈E,r.1=4):uj E=0:=by
 unfold uj;rw [List.filter_eq_nil_iff.2 (fun r hr=>by rw [h r hr];decide)];rfl
theorem acf (R:Jn.fV) (k:Nat):uj (R.take k)<=uj R:=by
 conv=>rhs;rw [<-List.take_append_drop k R,xU]
 omega
theorem acg (R:Jn.fV) (r:Int×List Int):uj (R++[r])<=uj R+1:=by
 rw [xU];have:=ZR [r];show uj R+uj [r]<=_;rw [List.length_singleton] at this;omega
theorem afN {g:LG} {R:Jn.fV} {s:ST} {ks:Nat} (h:BN g R s ks):∃r,eY g=some r /\
 ((r.2=true/\ks=R.length/\∃i,i<g.2.2.2.1.length/\Due g.2.2.2.1 i/\r.1=g.2.2.2.1.getD i b0/\s.1.length<=i/\i-s.1.length<s.2.1.length/\r.1=s.2.1.getD (i-s.1.length) b0/\r.1.2.2.2.2.2.2.2.2.2=false) \/
  (r.2=false/\(g.2.1=(g.1.length:Int)->∀i,i<s.2.1.length->(s.2.1.getD i b0).2.2.2.2.2.2.2.2.2=true))):=by
 have hbl:=h.blen;obtain ⟨r,e,_,hr⟩:=Ns g (by omega);refine ⟨r,e,?_⟩;rcases hr with ⟨hx,i,i1,i2,_,rfl⟩ | ⟨hno,rfl⟩
 ·have hu:=afK h i1 i2.1;exact .inl ⟨rfl,h.full hx.2,i,i1,i2,rfl,hu.1,hu.2.1,hu.2.2.1,i2.2⟩
 ·refine .inr ⟨rfl,fun hs i hi => ?_⟩;refine Classical.byContradiction fun hf=>hno ⟨⟨h.vl,hs⟩,s.1.length+i,?_,?_⟩
  ·rw [h.bills,List.length_append];omega
  ·have eg:g.2.2.2.1.getD (s.1.length+i) b0=s.2.1.getD i b0:=by
    rw [h.bills,List.getD_eq_getElem?_getD,List.getElem?_append_right (by omega),<-List.getD_eq_getElem?_getD,Nat.add_sub_cancel_left]
   unfold Due;rw [eg];refine ⟨?_,by cases hq:(s.2.1.getD i b0).2.2.2.2.2.2.2.2.2 with | true=>exact absurd hq hf | false=>rfl⟩;rw [(h.ri.inv.2.2.2.2.1 i hi).2];omega
theorem Sv {R:Jn.fV} {s:ST} {ks:Nat} {g g':LG} {seen sure:List BL} {k n:Int} {s':ST} (hoi:Fq R ks seen sure) (hks:ks<=R.length) (h:Nx g R s ks g' k n s') (hk:k=5->n∈seen.map nU):∃r,BN g' (R++[r]) s' ks/\Fq (R++[r]) ks seen sure/\r.1=k:=by
 obtain ⟨r,a,h1,h2,h3,h4,h5⟩:=h.ex;refine ⟨r,h4,hoi.snoc hks fun b hb hb5 => ?_,h1⟩;rw [h2] at hb;cases hb;have h6:=Ny h2;rw [h5 (by omega)];exact hk (by omega)
theorem ai2 {p:BL->Bool} (l:List BL):(l.filter p).length<=l.length:=List.length_filter_le ..
theorem afO {acts:List A4} {i:Nat} {sure seen:List BL} {R:Jn.fV} {s:ST} {ks:Nat} {g:LG} (hrel:BN g R s ks) (hoi:Fq R ks seen sure) (hi:i<acts.length) (h80:i<80) (hrl:R.length<=100*i) (hbg:uj R<=i) (hsl:seen.length<=i+1) (hul:sure.length<=100*i) {x:A4} (hxo:Vl x) (hb:∀b,eY g=some (b,true)->6<=Int.tmod x.1 9->nU b∈seen.map nU) :
 ∃sure' seen' R' s' ks' g',OnS acts (i+1) sure' seen' R' s' ks' g'/\oaT (i:Int) sure g.1 g.2.1 g.2.2.1 g.2.2.2.1 g.2.2.2.2.1 g.2.2.2.2.2 x seen=some (.inl (((i+1:Nat):Int),(sure',(seen',g')))):=by
 have hgl:=hrel.glen;have hcnt:=hrel.ri.cnt;obtain ⟨r,e,hst⟩:=anr hrel (by omega) (d:=x.1) (c:=x.2.1) (t:=x.2.2.1) (k:=x.2.2.2) hxo.1 hxo.2.1 hxo.2.2.1;unfold oaT;by_cases c7:Int.tmod x.1 9=7
 ·refine ⟨sure,seen,R,s,ks,g,⟨hrel,hoi,by omega,by omega,by omega,by omega,hsl,by omega⟩,?_⟩;simp (disch:=(first | omega | (simp only [bJ];omega))) only [↓aF,aG,c7,if_true,aj];rfl
 ·obtain ⟨⟨b1,b2,b3,b4,b5,b6⟩,ok⟩:=r;have e':jW ((g.1,(g.2.1,(g.2.2.1,(g.2.2.2.1,(g.2.2.2.2.1,g.2.2.2.2.2))))),(x.1,(x.2.1,(x.2.2.1,x.2.2.2))))=some ((b1,(b2,(b3,(b4,(b5,b6))))),ok):=e;rcases hst with ⟨h1,h2⟩ | ⟨h1,h2,h3⟩ | ⟨h1,h2,k,n,s',h3,h4⟩
  ·replace h1:ok=false:=h1;subst h1;refine ⟨sure,seen,R,s,ks,g,⟨hrel,hoi,by omega,by omega,by omega,by omega,hsl,by omega⟩,?_⟩;simp (disch:=(first | omega | (simp only [bJ];omega))) only [↓aF,aG,c7,if_false,e',aj];rfl
  ·replace h1:ok=true:=h1;subst h1;replace h3:(b1,(b2,(b3,(b4,(b5,b6)))))=snG g:=h3;have hoi2:=hoi.sync hrel.ks hrel.by (by omega) hrel.run;have hbl:g.2.2.2.1.length<=i:=by rw [hrel.bills,List.length_append];omega
   have han:=XF (snG g) (by show g.2.2.2.1.length<=_;omega);have hoi3:=hoi2.more hrel.run (l:=g.2.2.2.1.filter fun x=>decide (x.2.2.2.2.1>=0)) (fun y hy=>by
    rw [List.mem_filter] at hy;refine ⟨by have:=of_decide_eq_true hy.2;omega,?_⟩;rw [<-hrel.bills];exact hy.1)
   have hfl:=ai2 (p:=fun x:BL=>decide (x.2.2.2.2.1>=0)) g.2.2.2.1;refine ⟨sure++g.2.2.2.1.filter fun x=>decide (x.2.2.2.2.1>=0),seen,R,s,R.length,snG g,⟨hrel.sync,hoi3,by omega,by omega,by omega,by omega,hsl,by rw [List.length_append];omega⟩,?_⟩;replace han:iD (snG g)=some (g.2.2.2.1.filter fun x=>decide (x.2.2.2.2.1>=0)):=han;rw [<-h3] at han ⊢;generalize (g.2.2.2.1.filter fun x=>decide (x.2.2.2.2.1>=0))=fl at *
   simp (disch:=first | omega | (simp only [bJ];omega)) only [↓aF,aG,c7,if_false,e',h2,if_true,han,if_pos,aj];rfl
  ·replace h1:ok=true:=h1;subst h1;obtain ⟨r,hr1,hr2,hr3⟩:=Sv hoi hrel.ks h3 (fun k5=>by
    obtain ⟨h6,b,hb1,hb2⟩:=h4 k5;rw [<-hb2];exact hb b hb1 h6)
   have hbs:=acg R r;have hlr:(R++[r]).length=R.length+1:=by rw [List.length_append];rfl
   refine ⟨sure,seen,R++[r],s',ks,(b1,(b2,(b3,(b4,(b5,b6))))),⟨hr1,hr2,by omega,by omega,by omega,by omega,hsl,by omega⟩,?_⟩;simp (disch:=(first | omega | (simp only [bJ];omega))) only [↓aF,aG,c7,if_false,e',h2,aj];rfl
theorem ai3 {acts:List A4} (hok:∀a∈acts,Vl a) {i:Nat} {sure seen:List BL} {R:Jn.fV} {s:ST} {ks:Nat} {g:LG} (h:OnS acts i sure seen R s ks g) (hi:i<acts.length) (h80:i<80) :
 ∃sure' seen' R' s' ks' g',OnS acts (i+1) sure' seen' R' s' ks' g'/\ZX acts ((i:Int),(sure,(seen,g)))=some (.inl (((i+1:Nat):Int),(sure',(seen',g')))):=by
 obtain ⟨x,hx,hxb⟩:=get_at dA4 hi;have hxo:Vl x:=by
  rw [<-hx,List.getD_eq_getElem?_getD,List.getElem?_eq_getElem hi];exact hok _ (List.getElem_mem hi)
 obtain ⟨hrel,hoi,_,_,hrl,hbg,hsl,hul⟩:=h;have hgl:=hrel.glen;have hnw:=hrel.now;have hcnt:=hrel.cnt;by_cases c8:Int.tmod x.1 9=8
 ·obtain ⟨m,m1,m2,hcr⟩:=Jn.aio g.1 g.2.1 g.2.2.1 (Int.tmod x.2.2.2 ((g.1.length:Int)+1)) (by omega) hrel.syle (by omega);rw [hrel.sy] at m1;obtain ⟨k,sk,g',E,k1,k2,k3,k4,_,k6,k7,k8,k9,k10,k11⟩:=ab4 hrel m2 (by omega) (now:=g.2.2.2.2.2) hnw (by omega);have hoi':=hoi.cut k2 k1 hrel.by (by omega) k3 k10;have lT:=Sj k1;have hbt:=acf R k;have hkc:=k11.cnt;refine ⟨sure,seen,R.take k++E,_,k,g',⟨k7,hoi',by omega,by omega,?_,?_,by omega,by omega⟩,?_⟩
  ·rw [List.length_append,lT];omega
  ·rw [xU,afM k10];omega
  ·obtain ⟨g1,g2,g3,g4,g5,g6⟩:=g;obtain ⟨z1,z2,z3,z4,z5,z6⟩:=g';simp only at hcr k6 hgl;have hw1:IntKind.wrap .i64 (((g1.length:Nat):Int)+1)=((g1.length:Nat):Int)+1:=aj (by omega);have hw2:IntKind.wrap .i64 x.2.2.2=x.2.2.2:=aj (by have:=hxo.2.2.2;omega);have hne:¬(((g1.length:Nat):Int)+1)=0:=by omega
   unfold ZX;simp (disch:=(first | omega | (simp only [bJ];omega))) only [↓aF,aG,if_pos,↓hxb,c8,if_true,hw1,hw2,hne,ne_eq,not_false_iff,hcr,Az,k6,not_true_eq_false,if_false,aj];rfl
 ·obtain ⟨b,hb,hnx⟩:=afN hrel;have hlen:seen.length<=100000:=by omega
  by_cases c6:6<=Int.tmod x.1 9
  ·rcases hnx with ⟨q1,q2,j,q3,q4,q5,q6,q7,q8,q9⟩ | ⟨q1,_⟩
   ·subst q2;obtain ⟨hT1,hT2⟩:=hoi.take hrel.run hrel.ri q7 (by rw [<-q8];exact q9);rw [<-q8] at hT1 hT2;have hse:=Vm hT1 hlen;have hal:=Z4 seen b.1;obtain ⟨sure',seen',R',s',ks',g',h1,h2⟩:=afO hrel hT2 hi h80 hrl hbg (by omega) hul hxo (fun b' hb' _=>by
     rw [hb] at hb';have:b.1=b':=by cases hb';rfl
     rw [<-this];exact ZW seen b.1)
    refine ⟨sure',seen',R',s',ks',g',h1,?_⟩;rw [<-h2];obtain ⟨⟨y1,y2,y3,y4,y5,y6,y7,y8,y9,y10⟩,y11⟩:=b;replace q1:y11=true:=q1;subst q1;obtain ⟨g1,g2,g3,g4,g5,g6⟩:=g;simp only at hse;generalize adS seen _=w at *
    unfold ZX;simp (disch:=(first | omega | (simp only [bJ];omega))) only [↓aF,aG,if_pos,↓hxb,c8,if_false,hb,if_true,hse,decide_true]
   ·obtain ⟨sure',seen',R',s',ks',g',h1,h2⟩:=afO hrel hoi hi h80 hrl hbg (by omega) hul hxo (fun b' hb' _=>by
     rw [hb] at hb';cases hb';cases q1)
    refine ⟨sure',seen',R',s',ks',g',h1,?_⟩;rw [<-h2];obtain ⟨⟨y1,y2,y3,y4,y5,y6,y7,y8,y9,y10⟩,y11⟩:=b;replace q1:y11=false:=q1;subst q1;obtain ⟨g1,g2,g3,g4,g5,g6⟩:=g;unfold ZX;simp (disch:=(first | omega | (simp only [bJ];omega))) only [↓aF,aG,if_pos,↓hxb,c8,if_false,hb]
  ·obtain ⟨sure',seen',R',s',ks',g',h1,h2⟩:=afO hrel hoi hi h80 hrl hbg (by omega) hul hxo (fun b' _ k=>absurd k c6);refine ⟨sure',seen',R',s',ks',g',h1,?_⟩;rw [<-h2];obtain ⟨⟨y1,y2,y3,y4,y5,y6,y7,y8,y9,y10⟩,y11⟩:=b;obtain ⟨g1,g2,g3,g4,g5,g6⟩:=g;have c6':¬Int.tmod x.1 9>=6:=c6;unfold ZX;simp (disch:=(first | omega | (simp only [bJ];omega))) only [↓aF,aG,if_pos,↓hxb,c8,if_false,hb,c6']
theorem ai4 {acts:List A4} (hok:∀a∈acts,Vl a):∃i sure seen R s ks g,OnS acts i sure seen R s ks g/\ay (ZX acts) (0,([],([],zG)))=some (.inl (sure,(seen,g))):=by
 have key:∀n i sure seen R s ks g,80-i=n->OnS acts i sure seen R s ks g->∃i' sure' seen' R' s' ks' g',OnS acts i' sure' seen' R' s' ks' g'/\ay (ZX acts) ((i:Int),(sure,(seen,g)))=some (.inl (sure',(seen',g'))):=by
  intro n
  induction n with
  | zero =>
    intro i sure seen R s ks g hn h;have h80:=h.i80;refine ⟨i,sure,seen,R,s,ks,g,h,?_⟩;rw [dR];obtain ⟨a1,a2,a3,a4,a5,a6⟩:=g;have e:ZX acts ((i:Int),(sure,(seen,(a1,(a2,(a3,(a4,(a5,a6))))))))=some (.inr (.inl (sure,(seen,(a1,(a2,(a3,(a4,(a5,a6))))))))):=by
     unfold ZX;by_cases hi:(i:Int)<((acts.length:Nat):Int)
     ·simp (disch:=(first | omega | (simp only [bJ];omega))) only [↓aF,aG,hi,if_true,if_neg]
     ·simp (disch:=(first | omega | (simp only [bJ];omega))) only [↓aF,aG,hi,if_false]
    rw [e]
  | succ n ih =>
    intro i sure seen R s ks g hn h;by_cases hi:i<acts.length
    ·obtain ⟨sure',seen',R',s',ks',g',h',e⟩:=ai3 hok h hi (by omega);rw [dR,e];exact ih (i+1) sure' seen' R' s' ks' g' (by omega) h'
    ·refine ⟨i,sure,seen,R,s,ks,g,h,?_⟩;rw [dR];obtain ⟨a1,a2,a3,a4,a5,a6⟩:=g;have e:ZX acts ((i:Int),(sure,(seen,(a1,(a2,(a3,(a4,(a5,a6))))))))=some (.inr (.inl (sure,(seen,(a1,(a2,(a3,(a4,(a5,a6))))))))):=by
      have hi:¬(i:Int)<((acts.length:Nat):Int):=by omega
      unfold ZX;simp (disch:=(first | omega | (simp only [bJ];omega))) only [↓aF,aG,hi,if_false]
     rw [e]
 exact key 80 0 [] [] [] s0 0 zG rfl ⟨ari,oi0,Nat.zero_le _,by omega,Nat.le_refl _,Nat.le_refl _,Nat.le_refl _,Nat.le_refl _⟩
def nmS (i:Nat):Tx:=([[99],[97],[108],[108],[115]]:List Tx).getD i []
theorem ap2 {i:Nat} (h:i<5):iW (IntKind.wrap .u8 (i:Int))=some (nmS i):=by
 match i,h with
 | 0,_=>rfl
 | 1,_=>rfl
 | 2,_=>rfl
 | 3,_=>rfl
 | 4,_=>rfl
theorem anv {s:ST} (h:INV s) {b:BL} (hb:b∈s.1):Cb b.1 s.1:=by
 obtain ⟨p,hp,e⟩:=List.mem_iff_getElem.1 hb;have:=U9 (Nr h.2.1 h.az) (p:=p) (by rw [h.az.opn];exact hp);rw [wF hp,e] at this;exact this.2
theorem anw {op:List BL} (h:PW op) {p:Nat} (hp:p<op.length) {b:BL} (hb:b∈iH op p):b.1≠(op.getD p b0).1/\b∈op:=by
 unfold iH at hb;rw [wF hp];rcases List.mem_append.1 hb with hb | hb
 ·obtain ⟨i,hi,e⟩:=List.mem_iff_getElem.1 hb;rw [List.length_take] at hi;rw [List.getElem_take] at e;have:=List.pairwise_iff_getElem.1 h i p (by omega) hp (by omega);rw [e] at this;exact ⟨ajL this,by rw [<-e];exact List.getElem_mem _⟩
 ·obtain ⟨i,hi,e⟩:=List.mem_iff_getElem.1 hb;rw [List.length_drop] at hi;rw [List.getElem_drop] at e;have:=List.pairwise_iff_getElem.1 h p (p+1+i) hp (by omega) (by omega);rw [e] at this;exact ⟨fun k=>ajL this k.symm,by rw [<-e];exact List.getElem_mem _⟩
structure OeS (i:Nat) (sure seen:List BL) (R:Jn.fV) (s:ST) (ks:Nat) (g:LG):Prop where
 rel:BN g R s ks
 oi:Fq R ks seen sure
 rl:R.length<=8000+i
 bg:uj R<=80
 no:∀j,j<i->∀b∈s.1,b.1≠nmS j
theorem ai5 {δ:Type} {i:Nat} {sure seen:List BL} {R:Jn.fV} {s:ST} {ks:Nat} {g:LG} (h:OeS i sure seen R s ks g) (hi:i<5) :
 ∃R' s' g',OeS (i+1) sure seen R' s' ks g'/\obB (δ:=δ) ((i:Int),g)=some (.inl (((i+1:Nat):Int),g')):=by
 obtain ⟨hrel,hoi,hrl,hbg,hno⟩:=h;have hbl:=hrel.blen;have hgl:=hrel.glen;have hnw:=hrel.now;have hE:=afr g tr 0 (nmS i) g.2.2.2.2.2 (by omega) (by omega);have hnm:=ap2 hi;rcases ajX hrel (by omega) (c:=nmS i) (t:=g.2.2.2.2.2) (Int.le_refl _) with ⟨e0,hF⟩ | ⟨e0,hF,hnow,hX⟩
 ·refine ⟨R,s,g,⟨hrel,hoi,by omega,hbg,fun j hj b hb => ?_⟩,?_⟩
  ·by_cases e:j<i
   ·exact hno j e b hb
   ·obtain rfl:j=i:=by omega
    intro k;have:=anv hrel.ri.inv hb;rw [k] at this;exact hF hnw.2 this
  ·obtain ⟨g1,g2,g3,g4,g5,g6⟩:=g;simp only at hE e0;generalize GZ _ _ _ _ _=r at *
   obtain ⟨⟨r1,r2,r3,r4,r5,r6⟩,r7⟩:=r;simp only at e0;unfold obB;simp (disch:=(first | omega | (simp only [bJ];omega))) only [↓aF,aG,if_pos,Az,hnm,hE,e0,if_false,aj];rfl
 ·obtain ⟨r,hr1,hr2,hr3⟩:=Sv hoi hrel.ks hX (fun k5=>absurd k5 (by decide));have hkind:uj (R++[r])<=80:=by
   rw [xU,afM (E:=[r]) (fun x hx=>by rw [List.mem_singleton.1 hx];exact hr3)];exact hbg
  refine ⟨R++[r],_,(GZ g tr 0 (nmS i) g.2.2.2.2.2).1,⟨hr1,hr2,by rw [List.length_append];show R.length+1<=_;omega,hkind,fun j hj b hb => ?_⟩,?_⟩
  ·have hlt:gZ (nmS i) s.1<s.1.length:=by have:=hF.1;rwa [hrel.ri.inv.az.opn] at this
   have hb':b∈iH s.1 (gZ (nmS i) s.1):=by
    unfold enS at hb;split at hb<;>exact hb
   obtain ⟨n1,n2⟩:=anw hrel.ri.inv.2.1 hlt hb';rw [hF.2] at n1;by_cases e:j<i
   ·exact hno j e b n2
   ·obtain rfl:j=i:=by omega
    exact n1
  ·obtain ⟨g1,g2,g3,g4,g5,g6⟩:=g;simp only at hE e0;generalize GZ _ _ _ _ _=r at *
   obtain ⟨⟨r1,r2,r3,r4,r5,r6⟩,r7⟩:=r;simp only at e0;unfold obB;simp (disch:=(first | omega | (simp only [bJ];omega))) only [↓aF,aG,if_pos,Az,hnm,hE,e0,if_true,aj];rfl
theorem anz {c:Tx} (h:c∈NM):∃i,i<5/\c=nmS i:=by
 unfold NM at h;simp only [List.mem_cons,List.not_mem_nil,or_false] at h;rcases h with rfl | rfl | rfl | rfl
 ·exact ⟨0,by decide,rfl⟩
 ·exact ⟨1,by decide,rfl⟩
 ·exact ⟨2,by decide,rfl⟩
 ·exact ⟨4,by decide,rfl⟩
theorem ai6 {δ:Type} {sure seen:List BL} {R:Jn.fV} {s:ST} {ks:Nat} {g:LG} (h:OeS 0 sure seen R s ks g) :
 ∃R' s' g',OeS 5 sure seen R' s' ks g'/\s'.1=[]/\ay (obB (δ:=δ)) ((0:Int),g)=some (.inl g'):=by
 have key:∀n i R s g,i+n=5->OeS i sure seen R s ks g->∃R' s' g',OeS 5 sure seen R' s' ks g'/\ay (obB (δ:=δ)) ((i:Int),g)=some (.inl g'):=by
  intro n
  induction n with
  | zero =>
    intro i R s g hn h;obtain rfl:i=5:=by omega
    refine ⟨R,s,g,h,?_⟩;rw [dR];obtain ⟨a1,a2,a3,a4,a5,a6⟩:=g;have e:obB (δ:=δ) (((5:Nat):Int),(a1,(a2,(a3,(a4,(a5,a6))))))=some (.inr (.inl (a1,(a2,(a3,(a4,(a5,a6))))))):=by
     unfold obB;simp (disch:=(first | omega | (simp only [bJ];omega))) only [↓aF,aG,if_neg]
    rw [e]
  | succ n ih =>
    intro i R s g hn h;obtain ⟨R',s',g',h',e⟩:=ai5 h (by omega) (δ:=δ);rw [dR,e];exact ih (i+1) R' s' g' (by omega) h'
 obtain ⟨R',s',g',h',e⟩:=key 5 0 R s g rfl h;refine ⟨R',s',g',h',?_,e⟩;cases hs:s'.1 with
 | nil=>rfl
 | cons b l =>
   exfalso;have hb:b∈s'.1:=by rw [hs];simp
   obtain ⟨i,hi,e⟩:=anz (h'.rel.ri.nm h'.rel.nm b hb);exact h'.no i hi b hb e
structure OgS (i:Nat) (sure seen:List BL) (R:Jn.fV) (s:ST) (ks:Nat) (g:LG):Prop where
 rel:BN g R s ks
 oi:Fq R ks seen sure
 rl:R.length<=8005+i
 op:s.1=[]
 ng:i+nG s.2.1<=100
 sl:seen.length<=80+i
theorem ai7 {i:Nat} {sure seen:List BL} {R:Jn.fV} {s:ST} {ks:Nat} {g:LG} (h:OgS i sure seen R s ks g) :
 (∃seen' R' s' ks' g',OgS (i+1) sure seen' R' s' ks' g'/\Vk ((i:Int),(g,seen))=some (.inl (((i+1:Nat):Int),(g',seen')))) \/
 (∃g',BN g' R s R.length/\Fq R R.length seen sure/\(∀i,i<s.2.1.length->(s.2.1.getD i b0).2.2.2.2.2.2.2.2.2=true)/\Vk ((i:Int),(g,seen))=some (.inr (.inl (g',seen)))):=by
 obtain ⟨hrel,hoi,hrl,hop,hng,hsl⟩:=h;have hbl:=hrel.blen;have hgl:=hrel.glen;have hS:=GN g (by omega) (by omega);unfold abZ at hS;rw [if_pos hrel.vl] at hS;have hrel2:=hrel.sync;have hoi2:=hoi.sync hrel.ks hrel.by (by omega) hrel.run;have hGv:=fun i hi hd=>ZY hrel2 (by omega) (i:=i) hi hd;have hGw:=fun i hi hd=>ZU hrel2 (by omega) (i:=i) hi hd (n:=_) rfl;obtain ⟨b,hb,hnx⟩:=afN hrel2;obtain ⟨g1,g2,g3,g4,g5,g6⟩:=g;simp only at hS hb hnx hGv hGw hrel2;rcases hnx with ⟨q1,q2,j,q3,q4,q5,q6,q7,q8,q9⟩ | ⟨q1,q2⟩
 ·obtain ⟨hT1,hT2⟩:=hoi2.take hrel.run hrel.ri q7 (by rw [<-q8];exact q9);rw [<-q8] at hT1 hT2;have hse:=Vm hT1 (by omega);have hal:=Z4 seen b.1;have hgv:=hGv j q3 q4;obtain ⟨e0,w1,w2,w3,_,hX⟩:=hGw j q3 q4;obtain ⟨r,hr1,hr2,hr3⟩:=Sv hT2 (Nat.le_refl _) hX (fun _=>by rw [<-q5];exact ZW seen b.1);have hns:=afG w3 (by rw [<-q8];exact q9);refine .inl ⟨adS seen b.1,R++[r],_,R.length,(gvR (g1,((g1.length:Int),(g3,(g4,(g5,g6))))) (g4.getD j b0).2.2.2.2.2.2.1 j).1,⟨hr1,hr2,by rw [List.length_append];show R.length+1<=_;omega,hop,by show i+1+nG (s.2.1.set _ _)<=100;omega,by omega⟩,?_⟩;rw [<-q5] at hgv e0 ⊢;obtain ⟨⟨y1,y2,y3,y4,y5,y6,y7,y8,y9,y10⟩,y11⟩:=b;replace q1:y11=true:=q1;subst q1
  try simp only at hse
  try simp only at hgv
  try simp only at e0
  have hi100:(i:Int)<=100:=by omega
  generalize adS seen _=w at *
  generalize gvR _ _ _=r at *
  obtain ⟨⟨r1,r2,r3,r4,r5,r6⟩,r7⟩:=r
  try simp only at e0
  unfold Vk;simp (disch:=(first | omega | (simp only [bJ];omega))) only [↓aF,aG,hi100,if_true,hS,hb,hgv,hse,decide_true,e0,ne_eq,not_true_eq_false,if_false,aj];rfl
 ·refine .inr ⟨_,hrel2,hoi2,q2 (by trivial),?_⟩;obtain ⟨⟨y1,y2,y3,y4,y5,y6,y7,y8,y9,y10⟩,y11⟩:=b;replace q1:y11=false:=q1;subst q1;have hi100:(i:Int)<=100:=by omega
  unfold Vk;simp (disch:=(first | omega | (simp only [bJ];omega))) only [↓aF,aG,hi100,if_true,hS,hb]
theorem Z5 {sure:List BL}:∀(n i:Nat) (seen:List BL) (R:Jn.fV) (s:ST) (ks:Nat) (g:LG),101-i=n->OgS i sure seen R s ks g ->
 ∃seen' R' s' g',BN g' R' s' R'.length/\Fq R' R'.length seen' sure/\s'.1=[]/\seen'.length<=300/\(∀i,i<s'.2.1.length->(s'.2.1.getD i b0).2.2.2.2.2.2.2.2.2=true)/\ay Vk ((i:Int),(g,seen))=some (.inl (g',seen'))
 | 0,i,seen,R,s,ks,g,hn,h=>by have:=h.ng;omega
 | n+1,i,seen,R,s,ks,g,hn,h=>by
   rcases ai7 h with ⟨seen',R',s',ks',g',h',e⟩ | ⟨g',h1,h2,h3,e⟩
   ·rw [dR,e];exact Z5 n (i+1) seen' R' s' ks' g' (by omega) h'
   ·rw [dR,e];have h4:=h.sl;have h5:=h.ng;exact ⟨seen,R,s,g',h1,h2,h.op,by omega,h3,rfl⟩
theorem afP {acts:List A4} (hok:∀a∈acts,Vl a):iP acts=some true:=by
 rw [aiY];have h0:pU ()=some zG:=rfl;rw [h0];unfold zG;simp only [↓aF,aG];obtain ⟨i,sure,seen,R,s,ks,g,h,e⟩:=ai4 hok;have e':ay (ZX acts) ((0:Int),(([]:List BL),(([]:List BL),(([]:List Int),((0:Int),((0:Int),(([]:List BL),((0:Int),(0:Int)))))))))=some (.inl (sure,(seen,g))):=e;rw [e'];obtain ⟨hrel,hoi,_,h80,hrl,hbg,hsl,hul⟩:=h;obtain ⟨R1,s1,g1,hE,hop,eE⟩:=ai6 (δ:=Bool) (⟨hrel,hoi,by omega,by omega,fun j hj=>absurd hj (Nat.not_lt_zero j)⟩:OeS 0 sure seen R s ks g);have hcnt:=hE.rel.ri.cnt;have hng:=apH s1.2.1;have hbg1:=hE.bg;have hrl1:=hE.rl;obtain ⟨seen2,R2,s2,g2,f1,f2,f3,f4,f5,eG⟩:=Z5 101 0 seen R1 s1 ks g1 rfl ⟨hE.rel,hE.oi,by omega,hop,by omega,by omega⟩;obtain ⟨d1,d2,d3,d4⟩:=f2.done f1.run f1.ri f3 f5;have hw:=ai0 (last:=g2.2.2.2.2.1) (by omega) d2 (by rw [f1.last];exact d1) (by rw [f1.last];exact d3);have hc:=XH (l:=seen2) (m:=sure) (by omega) (by omega) d4;obtain ⟨a1,a2,a3,a4,a5,a6⟩:=g;obtain ⟨c1,c2,c3,c4,c5,c6⟩:=g1;obtain ⟨z1,z2,z3,z4,z5,z6⟩:=g2;have eG':ay Vk ((0:Int),((c1,(c2,(c3,(c4,(c5,c6))))),seen))=some (.inl ((z1,(z2,(z3,(z4,(z5,z6))))),seen2)):=eG;simp only at hw;simp (disch:=(first | omega | (simp only [bJ];omega))) only [↓aF,aG,eE,eG',hw,hc,aiJ]
theorem ach (a:List A4) (h:WZ [(.tmp 0 false [(.dat (.list (.pair (.int .u8) (.pair (.int .u8) (.pair (.int .u16) (.int .u16))))))])] a):iP a=some true:=by
 refine afP (fun x ha => ?_);have hl:YI (.list (.pair (.int .u8) (.pair (.int .u8) (.pair (.int .u16) (.int .u16))))) a:=h.1.1;have hx:=hl.2 x ha;have w1:=aor hx.1;have w2:=aor hx.2.1;exact ⟨w1.1,w2.1,aju hx.2.2.1,aju hx.2.2.2⟩
end Go.Proofs.Ytkpijdndakljjaa
end
