import Derived.Test.YtkpijdndakljjaaM2p
import Derived.Test.YtkpijdndakljjaaZrp
import Derived.Test.YtkpijdndakljjaaFp
import Derived.Test.YtkpijdndakljjaaXBp
import Derived.Test.YtkpijdndakljjaaJ10p
set_option linter.unusedSimpArgs false
set_option linter.unusedVariables false
set_option maxRecDepth 100000
set_option maxHeartbeats 4000000
namespace Go.Proofs.Ytkpijdndakljjaa
open Go.RowKit
def afg (r:Int×List Int):Prop:=(0<=r.1/\r.1<=255)/\Bytes r.2/\r.2.length<=40
theorem afg.ok {r:Int×List Int} (h:afg r):Jn.EM r:=⟨h.1,h.2.1,by have:=h.2.2;omega⟩
theorem afh:∀ {l:Jn.iK},(∀r∈l,afg r)->Jn.rZ l<=54*l.length
 | [],_=>Nat.le_refl _
 | r::l,h=>by
   have h1:=(h r List.mem_cons_self).2.2;have h2:=afh (l:=l) fun r' h'=>h r' (List.mem_cons_of_mem _ h');rw [Jn.rZ,List.length_cons];omega
structure GR (g:LG) (R:Jn.iK) (s:ST) (ks:Nat):Prop where
 log:g.1=Jn.iL 0 R
 cnt:g.2.2.1=(R.length:Int)
 sy:g.2.1=(Jn.rZ (R.take ks):Int)
 ks:ks<=R.length
 run:run R s0=some s
 bills:g.2.2.2.1=s.1++s.2.1
 last:g.2.2.2.2.1=s.2.2.1
 now:s.2.2.2<=g.2.2.2.2.2/\g.2.2.2.2.2<=1099511627776
 ok:∀r∈R,afg r
 nm:NmR R
 len:R.length<=10000
section
variable {g:LG} {R:Jn.iK} {s:ST} {ks:Nat} (h:GR g R s ks)
include h
theorem GR.by:RBy R:=fun r hr=>(h.ok r hr).2.1
theorem GR.ri:RI R s:=by
 have:=(RP R [] s0 s ri0 h.by (by have:=h.len;show 0+_<=_;omega) h.run).1
 rwa [List.nil_append] at this
theorem GR.glen:g.1.length=Jn.rZ R/\g.1.length<=540000:=by
 have h1:=afh h.ok;have h2:=h.len;rw [h.log,Jn.rC];exact ⟨rfl,by omega⟩
theorem GR.syle:0<=g.2.1/\g.2.1<=(g.1.length:Int):=by
 rw [h.sy,h.glen.1];have h2:=Jn.Pz R (i:=ks) (j:=R.length) h.ks;rw [List.take_of_length_le (Nat.le_refl _)] at h2;omega
theorem GR.blen:g.2.2.2.1.length<=11000:=by
 have h1:=h.ri.cnt;have h2:=RN R;have h3:=h.len;rw [h.bills,List.length_append];omega
theorem GR.vl:VL g:=by
 have hi:=h.ri;have hlen:=h.len;have hdl:=hi.len;obtain ⟨i1,i2,i3,i4,i5,i6,i7⟩:=hi.inv;have haz:=hi.inv.az;have hdz:=hi.inv.dz;have hop:=RH hdz haz;have hsy:=h.syle;have hnow:=h.now;have hcnt:=h.cnt;have hlast:=h.last;have hb:=h.bills;refine ⟨⟨hsy.1,hsy.2,by omega,by omega⟩,by omega,by omega,by rw [hb,hop];exact i3,fun i hi => ?_⟩;unfold OKi;rw [hb,List.length_append] at hi;rw [hb,hop];by_cases e:i<s.1.length
 ·rw [jr e];have hm:=i1 _ (iT e);refine ⟨hm.1.mono hnow.1,.inl ⟨e,fun h0 => ?_⟩⟩;rw [jr (by omega)];exact RF i2 haz (i-1) i (by omega) (by rw [haz.opn];exact e)
 ·have hj:i-s.1.length<s.2.1.length:=by omega
  have hm:=i5 _ hj;have eg:(s.1++s.2.1).getD i b0=s.2.1.getD (i-s.1.length) b0:=by
   rw [List.getD_eq_getElem?_getD,List.getElem?_append_right (by omega),<-List.getD_eq_getElem?_getD]
  rw [eg];refine ⟨hm.1.mono hnow.1,.inr ⟨by omega,?_,by omega⟩⟩;unfold pv;rw [hop];split
  ·omega
  ·have hj':i-1-s.1.length<s.2.1.length:=by omega
   have hm':=i5 _ hj';have eg':(s.1++s.2.1).getD (i-1) b0=s.2.1.getD (i-1-s.1.length) b0:=by
    rw [List.getD_eq_getElem?_getD,List.getElem?_append_right (by omega),<-List.getD_eq_getElem?_getD]
   rw [eg'];omega
theorem GR.snoc {r:Int×List Int} {a:AC} {s':ST} {g':LG} (hr:afg r) (hp:GH r.1 r.2=some a) (he:mP a s=some s') (hn:a.1=1->a.2.2.2.2.2.1∈NM) (hl:R.length<10000)
 (e1:g'.1=g.1++Jn.jR g.2.2.1 r.1 r.2) (e2:g'.2.1=g.2.1) (e3:g'.2.2.1=g.2.2.1+1) (e4:g'.2.2.2.1=s'.1++s'.2.1) (e5:g'.2.2.2.2.1=s'.2.2.1) (e6:s'.2.2.2<=g'.2.2.2.2.2/\g'.2.2.2.2.2<=1099511627776):GR g' (R++[r]) s' ks:=by
 refine ⟨?_,?_,?_,?_,?_,e4,e5,e6,fun x hx => ?_,fun x hx b hb h1 => ?_,?_⟩
 ·rw [e1,Jn.wH,h.log,h.cnt];show _=_++(Jn.jR _ _ _++[])
  rw [List.append_nil,Nat.zero_add]
 ·rw [e3,h.cnt,List.length_append];rfl
 ·rw [e2,h.sy,List.take_append_of_le_length h.ks]
 ·rw [List.length_append];exact Nat.le_add_right_of_le h.ks
 ·rw [Dk,h.run];exact aiq hp he
 ·rcases List.mem_append.1 hx with hx | hx
  ·exact h.ok x hx
  ·rw [List.mem_singleton.1 hx];exact hr
 ·rcases List.mem_append.1 hx with hx | hx
  ·exact h.nm x hx b hb h1
  ·rw [List.mem_singleton.1 hx,hp] at hb;cases hb;exact hn h1
 ·rw [List.length_append];show R.length+1<=10000;omega
theorem GR.sync:GR (g.1,((g.1.length:Int),(g.2.2.1,(g.2.2.2.1,(g.2.2.2.2.1,g.2.2.2.2.2))))) R s R.length :=
 ⟨h.log,h.cnt,by rw [List.take_length,<-h.glen.1],Nat.le_refl _,h.run,h.bills,h.last,h.now,h.ok,h.nm,h.len⟩
end
theorem RS {c:Tx} (h:c∈NM):c.length=1:=by
 unfold NM at h;simp only [List.mem_cons,List.not_mem_nil,or_false] at h;rcases h with rfl | rfl | rfl | rfl<;>rfl
theorem aqt:GR zG [] s0 0:=⟨rfl,rfl,rfl,Nat.le_refl _,rfl,rfl,rfl,⟨Int.le_refl 0,(by omega:(0:Int)<=1099511627776)⟩,fun r hr=>(by cases hr),fun r hr=>(by cases hr),Nat.zero_le _⟩
structure Nx (g:LG) (R:Jn.iK) (s:ST) (ks:Nat) (g':LG) (k n:Int) (s':ST):Prop where
 ex:∃r a,r.1=k/\GH r.1 r.2=some a/\mP a s=some s'/\GR g' (R++[r]) s' ks/\(k=5->a.2.2.1=n)
 now:g.2.2.2.2.2<=g'.2.2.2.2.2
section
variable {g:LG} {R:Jn.iK} {s:ST} {ks:Nat} (h:GR g R s ks) (hl:R.length<10000)
include h hl
theorem ais {c:Tx} (hc:c∈NM) {f o:Tx} (hf:f.length=1) (ho:o.length=3) {t:Int} (q:Int×(Int×(Int×(Int×(Int×Bool))))) (ht:g.2.2.2.2.2<=t) :
 (Ro g (c,(f,(o,(t,q))))).2≠0\/((Ro g (c,(f,(o,(t,q))))).2=0/\∃s',Nx g R s ks (Ro g (c,(f,(o,(t,q))))).1 1 0 s'):=by
 have hcl:=RS hc;have hi:=h.ri;have haz:=hi.inv.az;have hdz:=hi.inv.dz;have hb:=h.bills;unfold Ro;by_cases hBA:BA g (c,(f,(o,(t,q))))
 ·rw [if_pos hBA];by_cases hF:Di c g.2.2.2.1
  ·rw [if_pos hF];exact .inl (by decide)
  ·rw [if_neg hF];by_cases hfull:opn g.2.2.2.1>=256\/g.2.2.1>=1048576
   ·rw [if_pos hfull];exact .inl (by decide)
   ·rw [if_neg hfull];have t0:0<=t:=by have:=h.vl.2.1;omega
    have hpr:=aoZ (t:=t) (c:=c) (f:=f) (o:=o) ⟨t0,hBA.1.2.2⟩ (by omega) (by omega) (by omega);have heff:mP (1,(t,(0,(0,(0,(c,(f,o))))))) s=some (Ai s.1 (c,(f,(o,(t,(-1,(t,(0,(0,(0,false))))))))),(s.2.1,(s.2.2.1,dK s.2.2.2 t))):=by
     unfold mP;simp only;rw [if_neg (by decide),if_pos trivial,dM,cond_true];rw [hb,RH hdz haz] at hfull;rw [hb,RJ c haz hdz] at hF;exact ⟨hF,by omega,by omega,by omega,by omega⟩
    refine .inr ⟨rfl,_,⟨⟨(1,lW [t] [c,f,o]),_,rfl,hpr,heff,?_,fun k=>absurd k (by decide)⟩,ht⟩⟩;refine h.snoc ⟨⟨show (0:Int)<=1 by decide,show (1:Int)<=255 by decide⟩,iQ _ _,?_⟩ hpr heff (fun _=>hc) hl rfl rfl rfl ?_ h.last ?_
    ·show (lW [t] [c,f,o]).length<=40;rw [iG];simp only [List.flatMap_cons,List.flatMap_nil,List.length_append,uZ,List.length_cons,List.length_nil];omega
    ·show Ai g.2.2.2.1 _=_;rw [hb,ain _ haz hdz];rfl
    ·have:=Nh s.2.2.2 t;have:=h.now;show dK s.2.2.2 t<=t/\t<=1099511627776;exact ⟨by omega,hBA.1.2.2⟩
 ·rw [if_neg hBA];exact .inl (by decide)
theorem ZF {c:Tx} (hc:c∈NM) {k:Int} (hk:k=2\/k=3) {t:Int} (ht:g.2.2.2.2.2<=t) :
 (Gv g k c t).2≠0\/((Gv g k c t).2=0/\∃s',Nx g R s ks (Gv g k c t).1 k 0 s'):=by
 have hcl:=RS hc;have hi:=h.ri;have haz:=hi.inv.az;have hdz:=hi.inv.dz;have hb:=h.bills;unfold Gv;by_cases hT:Tm g t
 ·rw [if_pos hT];have t0:0<=t:=by have:=h.vl.2.1;omega
  by_cases hF:Di c g.2.2.2.1
  ·rw [if_pos hF];by_cases ha:k=2/\(g.2.2.2.1.getD (gZ c g.2.2.2.1) b0).2.2.2.2.1 ≠ -1
   ·rw [if_pos ha];exact .inl (by decide)
   ·rw [if_neg ha];by_cases hfull:g.2.2.1>=1048576
    ·rw [if_pos hfull];exact .inl (by decide)
    ·rw [if_neg hfull];have hF':=hF;rw [hb,RJ c haz hdz] at hF';have hlt:gZ c s.1<s.1.length:=by have:=hF'.1;rwa [haz.opn] at this
     have hgx:g.2.2.2.1.getD (gZ c g.2.2.2.1) b0=s.1.getD (gZ c s.1) b0:=by rw [hb,GN c hdz,jr hlt]
     rw [hgx] at ha;have hx:=hi.inv.1 _ (iT hlt);have hnow:=h.now;have heff:mP (k,(t,(0,(0,(0,(c,([],[]))))))) s=some (s.1.set (gZ c s.1) (tch k t (s.1.getD (gZ c s.1) b0)),(s.2.1,(s.2.2.1,dK s.2.2.2 t))):=by
      unfold mP;simp only;rw [if_neg (by omega),if_neg (by omega),if_neg (by omega),dM,cond_true];refine ⟨hF',?_,fun k2 => ?_⟩
      ·have:=hx.1.2.2.2.1.2;omega
      ·exact Classical.byContradiction fun hne=>ha ⟨k2,hne⟩
     refine .inr ⟨rfl,_,⟨⟨(k,lW [t] [c]),_,rfl,aff hk ⟨t0,hT.2.2⟩ (by omega),heff,?_,fun k5=>by omega⟩,ht⟩⟩;refine h.snoc ⟨⟨by omega,by omega⟩,iQ _ _,?_⟩ (aff hk ⟨t0,hT.2.2⟩ (by omega)) heff (fun k1=>hc) hl rfl rfl rfl ?_ h.last ?_
     ·show (lW [t] [c]).length<=40;rw [len1];omega
     ·show g.2.2.2.1.set _ _=_;rw [hgx,hb,GN c hdz,amB _ hlt]
     ·have:=Nh s.2.2.2 t;show dK s.2.2.2 t<=t/\t<=1099511627776;exact ⟨by omega,hT.2.2⟩
  ·rw [if_neg hF];exact .inl (by decide)
 ·rw [if_neg hT];exact .inl (by decide)
noncomputable def enS (s:ST) (p:Nat) (t:Int):ST :=
 if (s.1.getD p b0).2.2.2.2.1 ≠ -1 then (iE s.1 p,(s.2.1++[U1 (s.1.getD p b0) t (s.2.2.1+1) (Rt.SE (s.1.getD p b0).2.2.2.2.1 t) (Rq tr 0 (s.1.getD p b0).2.2.1 (s.1.getD p b0).2.2.2.2.1 t)],(s.2.2.1+1,dK s.2.2.2 t)))
 else (iE s.1 p,(s.2.1,(s.2.2.1,dK s.2.2.2 t)))
theorem ajq {p:Nat} (hp:p<s.1.length) {t now:Int} (hE:(s.1.getD p b0).2.2.2.2.2.1<=t) (htn:t<=now) (hnow:g.2.2.2.2.2<=now/\now<=1099511627776) :
 (sS tr 0 g p t now).2=0/\Nx g R s ks (sS tr 0 g p t now).1 4 0 (enS s p t):=by
 have hi:=h.ri;have haz:=hi.inv.az;have hdz:=hi.inv.dz;have hb:=h.bills;have hx:=hi.inv.1 _ (iT hp);have hc:=hi.nm h.nm _ (iT hp);have hcl:=RS hc;have hlast:=h.last;have hdl:=hi.len;have hla:s.2.2.1=(s.2.1.length:Int):=hi.inv.2.2.2.1;have hcnt:=h.cnt;have hnw:=h.now;have hgx:g.2.2.2.1.getD p b0=s.1.getD p b0:=by rw [hb,jr hp]
 have hps:=ae1 (RF hi.inv.2.1 haz) (p:=p) (by rw [haz.opn];exact hp);have hmx:=Nh s.2.2.2 t;have hrst:iE g.2.2.2.1 p=iE s.1 p++s.2.1:=by rw [hb,amC hp]
 unfold sS Zx laF dE nmF;rw [hgx,hlast,hrst];rw [if_neg (show ¬(((s.1.getD p b0).2.2.2.2.1 ≠ -1/\s.2.2.1>=1048576)\/g.2.2.1>=1048576) from fun k=>by rcases k with k | k<;>omega)];refine ⟨rfl,?_⟩;unfold enS;have hE0:0<=t:=by have:=hx.1.2.1.1;have:=hx.1.2.2.2.1;omega
 obtain ⟨c1,c2,_,_,_,hco⟩:=Jg tr 0 (s.1.getD p b0).2.2.1 (s.1.getD p b0).2.2.2.2.1 t;have hse:=Rt.LY (s.1.getD p b0).2.2.2.2.1 t;generalize hxg:s.1.getD p b0=x at *
 by_cases ha:x.2.2.2.2.1 ≠ -1
 ·simp only [if_pos ha];have hpr:=ajo (t:=t) (n:=s.2.2.1+1) (s:=Rt.SE x.2.2.2.2.1 t) (co:=Rq tr 0 x.2.2.1 x.2.2.2.2.1 t) (c:=x.1) ⟨hE0,by omega⟩ (by omega) (by omega) (by omega) (by omega);have heff:mP (4,(t,(s.2.2.1+1,(Rt.SE x.2.2.2.2.1 t,(Rq tr 0 x.2.2.1 x.2.2.2.2.1 t,(x.1,([],[]))))))) s=some (iE s.1 p,(s.2.1++[U1 x t (s.2.2.1+1) (Rt.SE x.2.2.2.2.1 t) (Rq tr 0 x.2.2.1 x.2.2.2.2.1 t)],(s.2.2.1+1,dK s.2.2.2 t))):=by
   unfold mP;simp only;rw [if_neg (by decide),if_neg (by decide),if_pos trivial,dM,cond_true,if_neg (by omega),if_neg (by omega),hps.1,hxg];refine ⟨hps.2,?_,.inr ⟨by omega,?_,rfl,by omega,?_,by omega⟩⟩
   ·rw [hps.1,hxg];exact hE
   ·rw [hps.1,hxg];exact ha
   ·rw [hps.1,hxg]
  refine ⟨⟨(4,lW [t,s.2.2.1+1,Rt.SE x.2.2.2.2.1 t,Rq tr 0 x.2.2.1 x.2.2.2.2.1 t] [x.1]),_,rfl,hpr,heff,?_,fun k=>absurd k (by decide)⟩,hnow.1⟩;refine h.snoc ⟨⟨show (0:Int)<=4 by decide,show (4:Int)<=255 by decide⟩,iQ _ _,?_⟩ hpr heff (fun k=>absurd (show (4:Int)=1 from k) (by decide)) hl rfl rfl rfl ?_ rfl ?_
  ·show (lW _ _).length<=40;rw [iG];simp only [List.flatMap_cons,List.flatMap_nil,List.length_append,uZ,List.length_cons,List.length_nil];omega
  ·show iE s.1 p++s.2.1++_=_;rw [List.append_assoc]
  ·show dK s.2.2.2 t<=now/\now<=_;omega
 ·simp only [if_neg ha];have ha':x.2.2.2.2.1 = -1:=Classical.not_not.1 ha;have hpr:=ajo (t:=t) (n:=0) (s:=0) (co:=0) (c:=x.1) ⟨hE0,by omega⟩ (by omega) (by omega) (by omega) (by omega);have heff:mP (4,(t,(0,(0,(0,(x.1,([],[]))))))) s=some (iE s.1 p,(s.2.1,(s.2.2.1,dK s.2.2.2 t))):=by
   unfold mP;simp only;rw [if_neg (by decide),if_neg (by decide),if_pos trivial,dM,cond_true,if_pos trivial,if_pos trivial,hps.1];refine ⟨hps.2,?_,.inl ⟨rfl,rfl,rfl,?_⟩⟩
   ·rw [hps.1,hxg];exact hE
   ·rw [hps.1,hxg];exact ha'
  refine ⟨⟨(4,lW [t,0,0,0] [x.1]),_,rfl,hpr,heff,?_,fun k=>absurd k (by decide)⟩,hnow.1⟩;refine h.snoc ⟨⟨show (0:Int)<=4 by decide,show (4:Int)<=255 by decide⟩,iQ _ _,?_⟩ hpr heff (fun k=>absurd (show (4:Int)=1 from k) (by decide)) hl rfl rfl rfl rfl rfl ?_
  ·show (lW _ _).length<=40;rw [iG];simp only [List.flatMap_cons,List.flatMap_nil,List.length_append,uZ,List.length_cons,List.length_nil];omega
  ·show dK s.2.2.2 t<=now/\now<=_;omega
theorem ao0 {c:Tx} {t:Int} (ht:g.2.2.2.2.2<=t) :
 ((N8 g tr 0 c t).2≠0/\(t<=1099511627776->¬Di c s.1))\/((N8 g tr 0 c t).2=0/\Di c s.1/\(N8 g tr 0 c t).1.2.2.2.2.2=t/\Nx g R s ks (N8 g tr 0 c t).1 4 0 (enS s (gZ c s.1) t)):=by
 have hi:=h.ri;have haz:=hi.inv.az;have hdz:=hi.inv.dz;have hb:=h.bills;unfold N8;by_cases hT:Tm g t/\Rt.TV tr 0
 ·rw [if_pos hT];by_cases hF:Di c g.2.2.2.1
  ·rw [if_pos hF];have hF':=hF;rw [hb,RJ c haz hdz] at hF';have hlt:gZ c s.1<s.1.length:=by have:=hF'.1;rwa [haz.opn] at this
   have hx:=hi.inv.1 _ (iT hlt);have hnw:=h.now;have hps:gZ c g.2.2.2.1=gZ c s.1:=by rw [hb,GN c hdz]
   rw [hps];have hf:=ajq h hl hlt (t:=t) (now:=t) (by have:=hx.1.2.2.2.1.2;omega) (Int.le_refl _) ⟨ht,hT.1.2.2⟩;refine .inr ⟨hf.1,hF',?_,hf.2⟩;have h0:=hf.1;unfold sS at h0 ⊢;split at h0
   ·exact absurd h0 (by decide)
   ·rename_i hn;rw [if_neg hn]
  ·rw [if_neg hF];refine .inl ⟨by decide,fun _ => ?_⟩;rw [hb,RJ c haz hdz] at hF;exact hF
 ·rw [if_neg hT];refine .inl ⟨by decide,fun h1=>(hT ⟨⟨h.vl,ht,h1⟩,Rt.PI⟩).elim⟩
theorem ait {i:Nat} (hi':i<g.2.2.2.1.length) (hd:Due g.2.2.2.1 i) {n:Int} (hn:n=(g.2.2.2.1.getD i b0).2.2.2.2.2.2.1) :
 (gvR g n i).2=0/\s.1.length<=i/\n=((i-s.1.length:Nat):Int)+1/\i-s.1.length<s.2.1.length/\(gvR g n i).1.2.2.2.2.2=g.2.2.2.2.2/\Nx g R s ks (gvR g n i).1 5 n (s.1,(s.2.1.set (i-s.1.length) (U6 (s.2.1.getD (i-s.1.length) b0)),s.2.2)):=by
 have hi:=h.ri;have haz:=hi.inv.az;have hb:=h.bills;have hcnt:=h.cnt;have hdl:=hi.len;have hge:s.1.length<=i:=by
  refine Classical.byContradiction fun k=>hd.1 ?_;rw [hb,jr (by omega)];exact haz _ (iT (by omega))
 rw [hb,List.length_append] at hi';have hj:i-s.1.length<s.2.1.length:=by omega
 have eg:g.2.2.2.1.getD i b0=s.2.1.getD (i-s.1.length) b0:=by
  rw [hb,List.getD_eq_getElem?_getD,List.getElem?_append_right hge,<-List.getD_eq_getElem?_getD]
 have h5:=(hi.inv.2.2.2.2.1 _ hj).2;unfold Due at hd;rw [eg] at hd hn;have hn1:n=((i-s.1.length:Nat):Int)+1:=by rw [hn,h5]
 have hlen:=h.len;unfold gvR;rw [eg,if_neg (by rw [hd.2];simp),if_neg (by omega)];have hpr:=aoY (n:=n) (by omega);have hto:(n-1).toNat=i-s.1.length:=by omega
 have heff:mP (5,(0,(n,(0,(0,([],([],[]))))))) s=some (s.1,(s.2.1.set (i-s.1.length) (U6 (s.2.1.getD (i-s.1.length) b0)),s.2.2)):=by
  unfold mP;simp only;rw [if_pos trivial,dM,cond_true,hto];exact ⟨by omega,by omega,by rw [hto];exact hd.2⟩
 refine ⟨rfl,hge,hn1,hj,rfl,⟨⟨(5,lW [n] []),_,rfl,hpr,heff,?_,fun _=>rfl⟩,Int.le_refl _⟩⟩;refine h.snoc ⟨⟨show (0:Int)<=5 by decide,show (5:Int)<=255 by decide⟩,iQ _ _,?_⟩ hpr heff (fun k=>absurd (show (5:Int)=1 from k) (by decide)) hl rfl rfl rfl ?_ h.last h.now
 ·show (lW _ _).length<=40;rw [iG];simp
 ·show g.2.2.2.1.set i _=_;rw [hb,List.set_append,if_neg (by omega)]
end
noncomputable def clS:Nat->ST->ST
 | 0,s=>s
 | n+1,s=>clS n (enS s 0 (s.1.getD 0 b0).2.2.2.2.2.1)
theorem aiu {s:ST} {p:Nat} (h:p<s.1.length) (t:Int):(enS s p t).1.length+1=s.1.length:=by
 have:=Ru h;unfold enS;split<;>exact this
theorem Nx.rel {g:LG} {R:Jn.iK} {s:ST} {ks:Nat} {g':LG} {k n:Int} {s':ST} (h:Nx g R s ks g' k n s'):∃r,r.1=k/\GR g' (R++[r]) s' ks:=by
 obtain ⟨r,a,h1,h2,h3,h4,_⟩:=h.ex;exact ⟨r,h1,h4⟩
theorem ZG:∀(n:Nat) (g:LG) (R:Jn.iK) (s:ST) (ks:Nat),GR g R s ks->s.1.length=n->R.length+n<=10000 ->
 (cls tr 0 n g).2=0/\(cls tr 0 n g).1.2.2.2.2.2=g.2.2.2.2.2/\∃E,GR (cls tr 0 n g).1 (R++E) (clS n s) ks/\E.length=n/\∀r∈E,r.1=4
 | 0,g,R,s,ks,h,hn,hl=>⟨rfl,rfl,[],by rw [List.append_nil];exact h,rfl,fun r hr=>by cases hr⟩
 | n+1,g,R,s,ks,h,hn,hl=>by
   have hp:0<s.1.length:=by omega
   have hb:g.2.2.2.1.getD 0 b0=s.1.getD 0 b0:=by rw [h.bills,jr hp]
   have hx:=h.ri.inv.1 _ (iT hp);have hnw:=h.now;obtain ⟨h0,hN⟩:=ajq h (by omega) hp (t:=(s.1.getD 0 b0).2.2.2.2.2.1) (now:=g.2.2.2.2.2) (Int.le_refl _) (by have:=hx.1.2.2.2.1.2;omega) ⟨Int.le_refl _,hnw.2⟩;have hnow:(sS tr 0 g 0 (s.1.getD 0 b0).2.2.2.2.2.1 g.2.2.2.2.2).1.2.2.2.2.2=g.2.2.2.2.2:=by
    unfold sS at h0 ⊢;split at h0
    ·exact absurd h0 (by decide)
    ·rename_i hn;rw [if_neg hn]
   obtain ⟨r,hr,hrel⟩:=hN.rel;have hlen:=aiu hp (s.1.getD 0 b0).2.2.2.2.2.1;obtain ⟨k1,k2,E,k3,k4,k5⟩:=ZG n _ (R++[r]) _ ks hrel (by omega) (by rw [List.length_append];show R.length+1+n<=10000;omega);unfold cls;rw [hb,if_neg (by rw [h0];decide)];refine ⟨k1,k2.trans hnow,r::E,?_,by rw [List.length_cons,k4],fun x hx => ?_⟩
   ·rw [List.append_assoc] at k3;exact k3
   ·rcases List.mem_cons.1 hx with e | hx
    ·rw [e];exact hr
    ·exact k5 x hx
noncomputable def GU:List BL->Int->List BL
 | [],la=>[]
 | x::l,la=>if x.2.2.2.2.1 ≠ -1 then U1 x x.2.2.2.2.2.1 (la+1) (Rt.SE x.2.2.2.2.1 x.2.2.2.2.2.1) (Rq tr 0 x.2.2.1 x.2.2.2.2.1 x.2.2.2.2.2.1)::GU l (la+1) else GU l la
def GV:List BL->Int->Int
 | [],la=>la
 | x::l,la=>if x.2.2.2.2.1 ≠ -1 then GV l (la+1) else GV l la
theorem Xt:∀(op dn:List BL) (la no:Int),∃no',clS op.length (op,(dn,(la,no)))=([],(dn++GU op la,(GV op la,no')))
 | [],dn,la,no=>⟨no,by rw [show GU [] la=[] from rfl,List.append_nil];rfl⟩
 | x::l,dn,la,no=>by
   show ∃no',clS l.length (enS (x::l,(dn,(la,no))) 0 x.2.2.2.2.2.1)=_;have hr:iE (x::l) 0=l:=amu _;unfold enS GU GV;show ∃no',clS l.length (if x.2.2.2.2.1 ≠ -1 then (iE (x::l) 0,_) else (iE (x::l) 0,_))=_;rw [hr];by_cases ha:x.2.2.2.2.1 ≠ -1
   ·rw [if_pos ha,if_pos ha,if_pos ha];obtain ⟨no',h⟩:=Xt l (dn++[U1 x x.2.2.2.2.2.1 (la+1) (Rt.SE x.2.2.2.2.1 x.2.2.2.2.2.1) (Rq tr 0 x.2.2.1 x.2.2.2.2.1 x.2.2.2.2.2.1)]) (la+1) (dK no x.2.2.2.2.2.1);refine ⟨no',Eq.trans h ?_⟩;rw [List.append_assoc];rfl
   ·rw [if_neg ha,if_neg ha,if_neg ha];exact Xt l dn la (dK no x.2.2.2.2.2.1)
theorem RU {R:Jn.iK} {k:Nat} (hk:k<=R.length):(R.take k).length=k:=by rw [List.length_take];omega
theorem abI {g:LG} {R:Jn.iK} {s:ST} {ks:Nat} (h:GR g R s ks) {m:Nat} (hm:m<=g.1.length) (hks:Jn.rZ (R.take ks)<=m) {now:Int} (hn:s.2.2.2<=now/\now<=1099511627776) (hL:R.length+IW R<=10000) :
 ∃k sk g' E,k<=R.length/\ks<=k/\run (R.take k) s0=some sk/\Lat sk s/\(∃n e,ay (Jn.pz (g.1.take m)) ([],0)=some (R.take k,(n,e)))/\jZ (g.1.take m,((tr,0),now))=some (g',0) /\
  GR g' (R.take k++E) (clS sk.1.length sk) k/\g'.2.2.2.2.2=now/\E.length=sk.1.length/\(∀r∈E,r.1=4)/\RI (R.take k) sk:=by
 have hok:∀r∈R,Jn.EM r:=fun r hr=>(h.ok r hr).ok;have hgl:=h.glen;have hlen:=h.len;have hlog:=h.log;have hle:=Jn.cnt_le R m;have hscan:=Jn.UW R ((Jn.iL 0 R).take m) [] 0 m hok rfl (Nat.zero_le _) (by rw [<-show g.1=Jn.iL ([]:Jn.iK).length R from hlog];exact hm) (by simp;omega);have hspec:=(Jn.MB R m).1;rw [List.nil_append,Nat.zero_add] at hscan;have hcge:=Jn.al3 h.ks hks;obtain ⟨k,hk⟩:∃k,k=Jn.cnt R m:=⟨_,rfl⟩
 rw [<-hk] at hscan hspec hle hcge;obtain ⟨sk,hrun,hri,hext⟩:=Nl h.by (by omega) h.run hle;have hby:Bytes (g.1.take m):=fun x hx=>by
  rw [hlog] at hx;exact Jn.yH R 0 hok x (List.take_subset _ _ hx)
 have hrec:=abG (g.1.take m) tr 0 now hby (by rw [List.length_take];omega) (by rw [hlog];exact hscan);have hnow0:0<=now:=by have:=h.ri.inv.2.2.2.2.2.1.1;omega
 have htm:=hext.tm;unfold amv at hrec;rw [dM ⟨Rt.PI,hnow0,hn.2⟩,cond_true,hrun] at hrec;simp only at hrec;rw [if_neg (by omega)] at hrec;have lT:=RU hle;have hel:Jn.xI R m<=m:=Jn.Zn R m;have htake:(g.1.take m).take (((Jn.xI R m:Nat):Int)).toNat=Jn.iL 0 (R.take k):=by
  rw [Int.toNat_natCast,List.take_take,Nat.min_eq_left hel,hlog,<-hspec,Jn.UY]
 have hg0:GR ((g.1.take m).take (((Jn.xI R m:Nat):Int)).toNat,((((Jn.xI R m:Nat):Int)),(((R.take k).length:Int),(sk.1++sk.2.1,(sk.2.2.1,now))))) (R.take k) sk k:=by
  refine ⟨htake,rfl,?_,by rw [lT];exact Nat.le_refl _,hrun,rfl,rfl,⟨by show sk.2.2.2<=now;omega,hn.2⟩,fun r hr=>h.ok r (List.mem_of_mem_take hr),fun r hr=>h.nm r (List.mem_of_mem_take hr),by rw [lT];omega⟩;show ((Jn.xI R m:Nat):Int)=_;rw [<-hspec,List.take_take,Nat.min_self]
 have hcnt:=hri.cnt;have hbk:IW (R.take k)<=IW R:=by
  conv=>rhs;rw [<-List.take_append_drop k R,Vb]
  omega
 obtain ⟨c1,c2,E,c3,c4,c5⟩:=ZG sk.1.length _ _ _ _ hg0 rfl (by rw [lT];omega);refine ⟨k,sk,_,E,hle,hcge,hrun,hext,⟨_,_,by rw [hlog];exact hscan⟩,?_,c3,c2,c4,c5,hri⟩;rw [hrec];exact congrArg some (Prod.ext rfl c1)
theorem PS:∀(n:Nat) (l:List Int),l.Nodup->(∀x,x∈l↔1<=x/\x<=(n:Int))->l.length=n
 | 0,l,_,h=>by
   cases l with
   | nil=>rfl
   | cons x l=>have:=(h x).1 (by simp);omega
 | n+1,l,hn,h=>by
   have hm:((n:Int)+1)∈l:=(h _).2 (by omega);have h2:=PS n (l.erase ((n:Int)+1)) (hn.erase _) (fun x=>by rw [hn.mem_erase_iff,h x];omega);rw [List.length_erase_of_mem hm] at h2;have:=List.length_pos_of_mem hm;omega
def Dl (b:BL):Int:=b.2.2.2.2.2.2.1
structure PU (R:Jn.iK) (ks:Nat) (seen sure:List BL):Prop where
 ex:∃t,run (R.take ks) s0=some t/\(∀b∈seen,∃i,i<t.2.1.length/\Dl b=(i:Int)+1/\b=ug (t.2.1.getD i b0))/\∀x∈sure,0<=x.2.2.2.2.1/\∃y∈t.1++t.2.1,Sj x y
 nd:(seen.map Dl).Nodup
 gv:∀n,GvR R n->n∈seen.map Dl
theorem PU.move {R R':Jn.iK} {ks k:Nat} {seen sure:List BL} (h:PU R ks seen sure) (hE:∀t,run (R.take ks) s0=some t->∃u,run (R'.take k) s0=some u/\Lat t u) (hg:∀n,GvR R' n->GvR R n\/n∈seen.map Dl):PU R' k seen sure:=by
 obtain ⟨⟨t,h1,h2,h3⟩,h4,h5⟩:=h;obtain ⟨u,h6,h7⟩:=hE t h1;refine ⟨⟨u,h6,fun b hb => ?_,fun x hx => ?_⟩,h4,fun n hn=>(hg n hn).elim (h5 n) id⟩
 ·obtain ⟨i,i1,i2,i3⟩:=h2 b hb;exact ⟨i,Nat.lt_of_lt_of_le i1 h7.len,i2,by rw [h7.same i i1];exact i3⟩
 ·obtain ⟨x1,y,y1,y2⟩:=h3 x hx;obtain ⟨z,z1,z2⟩:=h7.aft y y1 (by rw [y2.2.2.1];exact x1);exact ⟨x1,z,z1,y2.trans z2⟩
theorem PU.snoc {R:Jn.iK} {ks:Nat} {seen sure:List BL} (h:PU R ks seen sure) (hk:ks<=R.length) {r:Int×List Int} (hr:∀a,GH r.1 r.2=some a->a.1=5->a.2.2.1∈seen.map Dl):PU (R++[r]) ks seen sure :=
 h.move (fun t ht=>⟨t,by rw [List.take_append_of_le_length hk];exact ht,Lat.refl t⟩) (fun n hn=>by
  obtain ⟨x,hx,a,h1,h2,h3⟩:=hn;rcases List.mem_append.1 hx with hx | hx
  ·exact .inl ⟨x,hx,a,h1,h2,h3⟩
  ·rw [List.mem_singleton.1 hx] at h1;rw [<-h3];exact .inr (hr a h1 h2))
theorem PU.sync {R:Jn.iK} {ks:Nat} {seen sure:List BL} (h:PU R ks seen sure) (hk:ks<=R.length) (hb:RBy R) (hl:R.length<=900000) {s:ST} (hr:run R s0=some s):PU R R.length seen sure :=
 h.move (fun t ht=>by
  obtain ⟨u,h1,_,h2⟩:=Nl hb hl hr hk;rw [ht] at h1;cases h1;exact ⟨s,by rw [List.take_length];exact hr,h2⟩) (fun n hn => .inl hn)
theorem PU.cut {R E:Jn.iK} {ks k:Nat} {seen sure:List BL} (h:PU R ks seen sure) (hks:ks<=k) (hk:k<=R.length) (hb:RBy R) (hl:R.length<=900000) {u:ST} (hr:run (R.take k) s0=some u) (hE:∀r∈E,r.1=4):PU (R.take k++E) k seen sure :=
 h.move (fun t ht=>by
  have lT:=RU hk;obtain ⟨v,h1,_,h2⟩:=Nl (R:=R.take k) (fun x hx=>hb x (List.mem_of_mem_take hx)) (by omega) hr (k:=ks) (by omega);rw [List.take_take,Nat.min_eq_left hks,ht] at h1;cases h1;exact ⟨u,by rw [List.take_append_of_le_length (by omega),List.take_of_length_le (by omega)];exact hr,h2⟩) (fun n hn=>by
  obtain ⟨x,hx,a,h1,h2,h3⟩:=hn;rcases List.mem_append.1 hx with hx | hx
  ·exact .inl ⟨x,List.mem_of_mem_take hx,a,h1,h2,h3⟩
  ·have:=hE x hx;have:=Va h1;omega)
theorem PU.more {R:Jn.iK} {seen sure l:List BL} (h:PU R R.length seen sure) {s:ST} (hr:run R s0=some s) (hl:∀x∈l,0<=x.2.2.2.2.1/\x∈s.1++s.2.1):PU R R.length seen (sure++l):=by
 obtain ⟨⟨t,h1,h2,h3⟩,h4,h5⟩:=h;refine ⟨⟨t,h1,h2,fun x hx => ?_⟩,h4,h5⟩;rw [List.take_length,hr] at h1;cases h1;rcases List.mem_append.1 hx with hx | hx
 ·exact h3 x hx
 ·exact ⟨(hl x hx).1,x,(hl x hx).2,Sj.rfl x⟩
theorem abJ:∀ {l:Jn.iK},Jn.rZ l=0->l=[]
 | [],_=>rfl
 | r::l,h=>by rw [Jn.rZ] at h;omega
theorem GR.full {g:LG} {R:Jn.iK} {s:ST} {ks:Nat} (h:GR g R s ks) (hs:g.2.1=(g.1.length:Int)):ks=R.length:=by
 have h1:=h.sy;rw [hs,h.glen.1] at h1;have h2:=Jn.Ah (R.take ks) (R.drop ks);rw [List.take_append_drop] at h2;have h3:=abJ (l:=R.drop ks) (by omega);have h4:=h.ks;have h5:(R.drop ks).length=0:=by rw [h3];rfl
 rw [List.length_drop] at h5;omega
theorem ajr {b:BL} (h:b.2.2.2.2.2.2.2.2.2=false):ug b=b:=by
 obtain ⟨a1,a2,a3,a4,a5,a6,a7,a8,a9,a10⟩:=b;replace h:a10=false:=h;subst h;rfl
open Classical in
noncomputable def adS (seen:List BL) (b:BL):List BL:=if Dl b∈seen.map Dl then seen else seen++[b]
theorem PU.take {R:Jn.iK} {seen sure:List BL} (h:PU R R.length seen sure) {s:ST} (hr:run R s0=some s) (hri:RI R s) {j:Nat} (hj:j<s.2.1.length) (hg:(s.2.1.getD j b0).2.2.2.2.2.2.2.2.2=false) :
 (∀x∈seen,Dl x=Dl (s.2.1.getD j b0)->x=s.2.1.getD j b0)/\PU R R.length (adS seen (s.2.1.getD j b0)) sure:=by
 obtain ⟨⟨t,h1,h2,h3⟩,h4,h5⟩:=h;have h1':=h1;rw [List.take_length,hr] at h1';cases h1';have hn:=fun i hi=>(hri.inv.2.2.2.2.1 i hi).2;refine ⟨fun x hx hxn => ?_,?_⟩
 ·obtain ⟨i,i1,i2,i3⟩:=h2 x hx;have:=hn j hj;unfold Dl at hxn i2;obtain rfl:i=j:=by omega
  rw [i3,ajr hg]
 ·unfold adS;split
  ·exact ⟨⟨s,h1,h2,h3⟩,h4,h5⟩
  ·rename_i hno;refine ⟨⟨s,h1,fun b hb => ?_,h3⟩,?_,fun n hn => ?_⟩
   ·rcases List.mem_append.1 hb with hb | hb
    ·exact h2 b hb
    ·rw [List.mem_singleton.1 hb];exact ⟨j,hj,hn j hj,(ajr hg).symm⟩
   ·rw [List.map_append,List.nodup_append];refine ⟨h4,by simp,fun a ha b hb e => ?_⟩;rw [List.map_cons,List.map_nil,List.mem_singleton] at hb;subst hb;subst e;exact hno ha
   ·rw [List.map_append];exact List.mem_append.2 (.inl (h5 n hn))
theorem PU.done {R:Jn.iK} {seen sure:List BL} (h:PU R R.length seen sure) {s:ST} (hr:run R s0=some s) (hri:RI R s) (h0:s.1=[]) (hg:∀i,i<s.2.1.length->(s.2.1.getD i b0).2.2.2.2.2.2.2.2.2=true) :
 (∀n,n∈seen.map Dl↔1<=n/\n<=s.2.2.1)/\(seen.map Dl).Nodup/\(seen.length:Int)=s.2.2.1/\∀x∈sure,∃y∈seen,y.1=x.1/\y.2.2.2.1=x.2.2.2.1/\y.2.2.2.2.1=x.2.2.2.2.1/\x.2.2.2.2.2.1<=y.2.2.2.2.2.1:=by
 obtain ⟨⟨t,h1,h2,h3⟩,h4,h5⟩:=h;rw [List.take_length,hr] at h1;cases h1;have hla:s.2.2.1=(s.2.1.length:Int):=hri.inv.2.2.2.1;have hm:∀n,n∈seen.map Dl↔1<=n/\n<=(s.2.1.length:Int):=fun n=>by
  constructor
  ·intro hn;obtain ⟨b,hb,rfl⟩:=List.mem_map.1 hn;obtain ⟨i,i1,i2,_⟩:=h2 b hb;omega
  ·rintro ⟨n1,n2⟩;have:=hri.gv (n-1).toNat (by omega) (hg _ (by omega));rw [show (((n-1).toNat:Nat):Int)+1=n from by omega] at this;exact h5 n this
 have hlen:=PS s.2.1.length (seen.map Dl) h4 hm;rw [List.length_map] at hlen;refine ⟨fun n=>by rw [hla];exact hm n,h4,by rw [hla,hlen],fun x hx => ?_⟩;obtain ⟨_,y,hy,hA⟩:=h3 x hx;rw [h0,List.nil_append] at hy;obtain ⟨i,hi,e⟩:=List.mem_iff_getElem.1 hy;have hmem:=(hm ((i:Int)+1)).2 (by omega);obtain ⟨b,hb,hbn⟩:=List.mem_map.1 hmem;obtain ⟨j,j1,j2,j3⟩:=h2 b hb;obtain rfl:j=i:=by omega
 refine ⟨b,hb,?_⟩;rw [Bv hi,e] at j3;rw [j3];exact hA
set_option maxRecDepth 1000000
set_option maxHeartbeats 0
def amF:List (Nat×PL):=[]
noncomputable def lN:Int->Option LU:=fun a1 =>
 ah (some (Int.tmod a1 (5:Int))) fun x2 =>
 ah (some (IntKind.wrap .u8 ((Int.tmod a1 (5:Int))+(1:Int)))) fun x4 =>
 bif ((decide (((0:Int)<=x4)/\(x4<=(5:Int))))&&(decide (((0:Int)<=x2)/\(x2<=((x4.toNat:Nat):Int))))) then
 some (List.take (x4.toNat-x2.toNat) (List.drop x2.toNat ((99:UInt8)::((97:UInt8)::((108:UInt8)::((108:UInt8)::((115:UInt8)::([]:List UInt8))))))))
 else none
noncomputable def amG:List (Nat×CE):=[]
theorem abK:eH Try.prog amG:=trivial
noncomputable def ao1:CE:=⟨[(.tmp 0 false [Fa])],[(.tmp 0 false [dS])],lN⟩
theorem ao2:aW Try.prog 38 ao1 :=nR amF fC abK Try.func38
def amH:List (Nat×PL):=[(635065662736647179655866222081,(.carry [.tmp 51 false [dO]]))]
noncomputable def jS:((yU)×(Int×(Int×(Int×Int))))->Option ((yU)×Bool):=fun ((a1,(a2,(a3,(a4,(a5,a6))))),(a7,(a8,(a9,a10)))) =>
 ah (some (IntKind.wrap .i64 (a6+(IntKind.wrap .i64 a9)))) fun x12 =>
 ah (lN a8) fun x13 =>
 ah (some (Int.tmod a7 (9:Int))) fun x14 =>
 bif (decide (x14=(0:Int))) then
 bif (decide ((2+x13.length)<=9223372036854775807)) then
 ah (mD ((a1,(a2,(a3,(a4,(a5,a6))))),(x13,(((102:UInt8)::([]:List UInt8)),((((52:UInt8)::((57:UInt8)::([]:List UInt8)))++x13),(x12,((0:Int),((0:Int),((0:Int),((0:Int),((0:Int),false))))))))))) fun ((x17,(x18,(x19,(x20,(x21,x22))))),x23) =>
 bif (decide (x23≠(0:Int))) then
 some ((a1,(a2,(a3,(a4,(a5,a6))))),false)
 else
 some ((x17,(x18,(x19,(x20,(x21,x22))))),true)
 else none
 else
 aA (bif (decide (x14=(1:Int))) then
 some (Sum.inl true)
 else
 some (Sum.inl (decide (x14=(2:Int))))) fun v24 =>
 bif v24 then
 ah (nG ((a1,(a2,(a3,(a4,(a5,a6))))),(x13,x12))) fun ((x26,(x27,(x28,(x29,(x30,x31))))),x32) =>
 bif (decide (x32≠(0:Int))) then
 some ((a1,(a2,(a3,(a4,(a5,a6))))),false)
 else
 some ((x26,(x27,(x28,(x29,(x30,x31))))),true)
 else
 bif (decide (x14=(3:Int))) then
 ah (yE ((a1,(a2,(a3,(a4,(a5,a6))))),(x13,x12))) fun ((x34,(x35,(x36,(x37,(x38,x39))))),x40) =>
 bif (decide (x40≠(0:Int))) then
 some ((a1,(a2,(a3,(a4,(a5,a6))))),false)
 else
 some ((x34,(x35,(x36,(x37,(x38,x39))))),true)
 else
 bif (decide (x14=(4:Int))) then
 ah (eF ()) fun (x42,x43) =>
 ah (pq ((a1,(a2,(a3,(a4,(a5,a6))))),((x42,x43),(x13,x12)))) fun ((x45,(x46,(x47,(x48,(x49,x50))))),x51) =>
 bif (decide (x51≠(0:Int))) then
 some ((a1,(a2,(a3,(a4,(a5,a6))))),false)
 else
 some ((x45,(x46,(x47,(x48,(x49,x50))))),true)
 else
 bif (decide (x14=(5:Int))) then
 ah (kJ (a1,(a2,(a3,(a4,(a5,a6)))))) fun (x53,(x54,(x55,(x56,(x57,x58))))) =>
 some ((x53,(x54,(x55,(x56,(x57,x58))))),true)
 else
 ah (iw (a1,(a2,(a3,(a4,(a5,a6)))))) fun ((x60,(x61,(x62,(x63,(x64,(x65,(x66,(x67,(x68,x69))))))))),x70) =>
 bif (!x70) then
 some ((a1,(a2,(a3,(a4,(a5,a6))))),false)
 else
 ah (ou ((a1,(a2,(a3,(a4,(a5,a6))))),x66)) fun ((x72,(x73,(x74,(x75,(x76,x77))))),x78) =>
 bif (decide (x78≠(0:Int))) then
 some ((a1,(a2,(a3,(a4,(a5,a6))))),false)
 else
 some ((x72,(x73,(x74,(x75,(x76,x77))))),true)
noncomputable def amI:List (Nat×CE):=[(10,alq),(15,aly),(17,anY),(20,alH),(24,alK),(22,an1),(26,alP),(28,aex),(38,ao1)]
theorem abL:eH Try.prog amI:=⟨ai1,ai3,anZ,ai5,ai6,an2,ai7,Y9,ao2,trivial⟩
noncomputable def ao3:CE:=⟨[(.tmp 0 true [dY,dI,dI,(.dat (.list pY)),dI,dI]),(.tmp 1 true [Fa,Fa,(.dat (.int .u16)),(.dat (.int .u16))])],[(.tmp 0 true [dY,dI,dI,(.dat (.list pY)),dI,dI]),(.tmp 1 false [dO])],jS⟩
theorem ao4:aW Try.prog 32 ao3 :=nR amH fC abL Try.func32
def amJ:List (Nat×PL):=[(262657,(.carry [])),(35253226045953,(.carry [.tmp 7 false [(.own 10000002 29 pY)]])),(4731607904558101301254,(.carry [.tmp 9 false [dI],.tmp 7 false [(.own 10000001 29 pY)]])),(18049651735527937,(.carry [.tmp 7 false [(.own 10000004 29 pY)],.tmp 8 false [dI],.dead 10000002])),(2422583247133816450713606,(.carry [.tmp 10 false [dI],.tmp 7 false [(.own 10000003 29 pY)],.tmp 8 false [dI],.dead 10000002]))]
noncomputable def jk:((yU)×((yU)×Int))->Option Bool:=fun ((a1,(a2,(a3,(a4,(a5,a6))))),((a7,(a8,(a9,(a10,(a11,a12))))),a13)) =>
 aA (ah (bY (a1,(a2,(a3,(a4,(a5,a6)))))) fun x14 =>
 bif (!x14) then
 au (some false)
 else
 bif (decide (a6≠a13)) then
 au (some false)
 else
 bif (decide ((a4.length:Int) > (a10.length:Int))) then
 au (some false)
 else
 some (Sum.inl ())) fun _ =>
 aA (ay (fun (v15,v16) =>
 bif (decide (v15<(a10.length:Int))) then
 bif (decide (((0:Int)<=v15)/\(v15<(a10.length:Int)))) then
 ah a10[v15.toNat]? fun x17 =>
 bif (decide (x17.2.2.2.2.2.2.1 > (0:Int))) then
 bif (decide (((0:Int)<=v15)/\(v15<(a10.length:Int)))) then
 ah a10[v15.toNat]? fun x18 =>
 bif (decide (v16.length<=v16.length)) then
 bif (decide (((List.length ((v16.take v16.length)++((x18.1,(x18.2.1,(x18.2.2.1,(x18.2.2.2.1,(x18.2.2.2.2.1,(x18.2.2.2.2.2.1,(x18.2.2.2.2.2.2.1,(x18.2.2.2.2.2.2.2.1,(x18.2.2.2.2.2.2.2.2.1,x18.2.2.2.2.2.2.2.2.2)))))))))::([]:List iO))))*104)<=140737488355328)) then
 ah (some ((v16.take v16.length)++((x18.1,(x18.2.1,(x18.2.2.1,(x18.2.2.2.1,(x18.2.2.2.2.1,(x18.2.2.2.2.2.1,(x18.2.2.2.2.2.2.1,(x18.2.2.2.2.2.2.2.1,(x18.2.2.2.2.2.2.2.2.1,x18.2.2.2.2.2.2.2.2.2)))))))))::([]:List iO)))) fun x19 =>
 bif (decide (x19.length<=x19.length)) then
 some (Sum.inl ((IntKind.wrap .i64 (v15+(1:Int))),(x19.take x19.length)))
 else none
 else none
 else none
 else none
 else
 bif (decide (v16.length<=v16.length)) then
 some (Sum.inl ((IntKind.wrap .i64 (v15+(1:Int))),(v16.take v16.length)))
 else none
 else none
 else
 au (bif (decide (v16.length<=v16.length)) then
 some (Sum.inl (v16.take v16.length))
 else none)) ((0:Int),([]:List iO))) fun v22 =>
 aA (bif (decide (v22.length<=v22.length)) then
 ay (fun (v23,(v24,v25)) =>
 bif (decide (v23<(a10.length:Int))) then
 bif (decide (((0:Int)<=v23)/\(v23<(a10.length:Int)))) then
 ah a10[v23.toNat]? fun x26 =>
 bif (decide (x26.2.2.2.2.2.2.1 > (0:Int))) then
 bif (decide (v24.length<=v24.length)) then
 some (Sum.inl ((IntKind.wrap .i64 (v23+(1:Int))),((v24.take v24.length),v25)))
 else none
 else
 bif (decide (x26.2.2.2.2.1=(-1:Int))) then
 bif (decide (v24.length<=v24.length)) then
 some (Sum.inl ((IntKind.wrap .i64 (v23+(1:Int))),((v24.take v24.length),v25)))
 else none
 else
 ah (some (IntKind.wrap .i64 (v25+(1:Int)))) fun x29 =>
 ah (bQ (x26.2.2.2.2.1,x26.2.2.2.2.2.1)) fun x30 =>
 ah (eF ()) fun (x32,x33) =>
 ah (bP ((x32,x33),(x26.2.2.1,(x26.2.2.2.2.1,x26.2.2.2.2.2.1)))) fun (x35,x36) =>
 bif (decide (x36=(0:Int))) then
 bif (decide (v24.length<=v24.length)) then
 bif (decide (((List.length ((v24.take v24.length)++((x26.1,(x26.2.1,(x26.2.2.1,(x26.2.2.2.1,(x26.2.2.2.2.1,(x26.2.2.2.2.2.1,(x29,(x30,(x35,x26.2.2.2.2.2.2.2.2.2)))))))))::([]:List iO))))*104)<=140737488355328)) then
 ah (some ((v24.take v24.length)++((x26.1,(x26.2.1,(x26.2.2.1,(x26.2.2.2.1,(x26.2.2.2.2.1,(x26.2.2.2.2.2.1,(x29,(x30,(x35,x26.2.2.2.2.2.2.2.2.2)))))))))::([]:List iO)))) fun x37 =>
 bif (decide (x37.length<=x37.length)) then
 some (Sum.inl ((IntKind.wrap .i64 (v23+(1:Int))),((x37.take x37.length),x29)))
 else none
 else none
 else none
 else
 bif (decide (v24.length<=v24.length)) then
 bif (decide (((List.length ((v24.take v24.length)++((x26.1,(x26.2.1,(x26.2.2.1,(x26.2.2.2.1,(x26.2.2.2.2.1,(x26.2.2.2.2.2.1,(x29,(x30,(x26.2.2.2.2.2.2.2.2.1,x26.2.2.2.2.2.2.2.2.2)))))))))::([]:List iO))))*104)<=140737488355328)) then
 ah (some ((v24.take v24.length)++((x26.1,(x26.2.1,(x26.2.2.1,(x26.2.2.2.1,(x26.2.2.2.2.1,(x26.2.2.2.2.2.1,(x29,(x30,(x26.2.2.2.2.2.2.2.2.1,x26.2.2.2.2.2.2.2.2.2)))))))))::([]:List iO)))) fun x39 =>
 bif (decide (x39.length<=x39.length)) then
 some (Sum.inl ((IntKind.wrap .i64 (v23+(1:Int))),((x39.take x39.length),x29)))
 else none
 else none
 else none
 else none
 else
 au (bif (decide (v24.length<=v24.length)) then
 some (Sum.inl ((v24.take v24.length),v25))
 else none)) ((0:Int),((v22.take v22.length),a11))
 else none) fun (v41,v42) =>
 bif (decide (v41.length<=v41.length)) then
 ah (gW (a4,(v41.take v41.length))) fun x43 =>
 bif x43 then
 some (decide (a5=v42))
 else
 some false
 else none
noncomputable def amK:List (Nat×CE):=[(76,ahu),(77,alC),(12,UJ),(59,an4),(28,aex),(77,alC)]
theorem abM:eH Try.prog amK:=⟨Pm,aep,LV,an5,Y9,aep,trivial⟩
noncomputable def ao5:CE:=⟨[(.tmp 0 true [dY,dI,dI,(.dat (.list pY)),dI,dI]),(.tmp 1 true [dY,dI,dI,(.dat (.list pY)),dI,dI]),(.tmp 2 false [dI])],[(.tmp 0 false [dO])],jk⟩
theorem ao6:aW Try.prog 35 ao5 :=nR amJ fC abM Try.func35
def ao7:List (Nat×PL):=[(35253226045953,(.carry [.tmp 6 false [(.own 10000003 27 (.pair (.pair (.list sW) (.pair dF dF)) (.pair (.list pY) (.pair dF dF))))],.tmp 7 false [dI],.mix 2 [dY,dI,dI,(.dat (.list pY)),dI,dI],.dead 5])),(4731607904558101301254,(.carry [.tmp 8 false [dI],.tmp 6 false [(.own 10000002 27 (.pair (.pair (.list sW) (.pair dF dF)) (.pair (.list pY) (.pair dF dF))))],.tmp 7 false [dI],.mix 2 [dY,dI,dI,(.dat (.list pY)),dI,dI],.dead 5])),(85237070383324633689451584512778830337,(.carry [.tmp 6 false [(.own 10000001 27 (.pair (.pair (.list sW) (.pair dF dF)) (.pair (.list pY) (.pair dF dF))))],.dead 5,.dead 10000002]))]
noncomputable def iC:((List (Int×(Int×(Int×Int))))×Int)->Option Bool:=fun (a1,a2) =>
 ah (pF ()) fun (x4,(x5,(x6,(x7,(x8,x9))))) =>
 aA (ay (fun (v10,(v11,(v12,(v13,(v14,(v15,(v16,(v17,v18)))))))) =>
 bif (decide (v10<(a1.length:Int))) then
 bif (decide (v10<(60:Int))) then
 bif (decide (((0:Int)<=v10)/\(v10<(a1.length:Int)))) then
 ah a1[v10.toNat]? fun x19 =>
 ah (jS ((v13,(v14,(v15,(v16,(v17,v18))))),(x19.1,(x19.2.1,(x19.2.2.1,x19.2.2.2))))) fun ((x21,(x22,(x23,(x24,(x25,x26))))),x27) =>
 bif (!x27) then
 bif (decide (v11.length<=v11.length)) then
 some (Sum.inl ((IntKind.wrap .i64 (v10+(1:Int))),((v11.take v11.length),(v12,(v13,(v14,(v15,(v16,(v17,v18)))))))))
 else none
 else
 aA (bif (decide (x23=(v11.length:Int))) then
 bif (decide (v11.length<=v11.length)) then
 bif (decide (((List.length ((v11.take v11.length)++(((x21,(x22,x23)),(x24,(x25,x26)))::([]:List ((LN×(Int×Int))×((List iO)×(Int×Int)))))))*80)<=140737488355328)) then
 ah (some ((v11.take v11.length)++(((x21,(x22,x23)),(x24,(x25,x26)))::([]:List ((LN×(Int×Int))×((List iO)×(Int×Int))))))) fun x29 =>
 bif (decide (x29.length<=x29.length)) then
 some (Sum.inl (x29.take x29.length))
 else none
 else none
 else none
 else
 bif (decide (v11.length<=v11.length)) then
 some (Sum.inl (v11.take v11.length))
 else none) fun v30 =>
 bif (decide (((0:Int)<=v10)/\(v10<(a1.length:Int)))) then
 ah a1[v10.toNat]? fun x31 =>
 bif (decide ((Int.tmod x31.1 (9:Int))=(5:Int))) then
 bif (decide (v30.length<=v30.length)) then
 some (Sum.inl ((IntKind.wrap .i64 (v10+(1:Int))),((v30.take v30.length),(x23,(x21,(x22,(x23,(x24,(x25,x26)))))))))
 else none
 else
 bif (decide (v30.length<=v30.length)) then
 some (Sum.inl ((IntKind.wrap .i64 (v10+(1:Int))),((v30.take v30.length),(v12,(x21,(x22,(x23,(x24,(x25,x26)))))))))
 else none
 else none
 else none
 else
 au (bif (decide (v11.length<=v11.length)) then
 some (Sum.inl ((v11.take v11.length),(v12,(v13,(v14,(v15,(v16,(v17,v18))))))))
 else none)
 else
 au (bif (decide (v11.length<=v11.length)) then
 some (Sum.inl ((v11.take v11.length),(v12,(v13,(v14,(v15,(v16,(v17,v18))))))))
 else none)) ((0:Int),((((x4,(x5,x6)),(x7,(x8,x9)))::([]:List ((LN×(Int×Int))×((List iO)×(Int×Int))))),((0:Int),(x4,(x5,(x6,(x7,(x8,x9))))))))) fun (v35,(v36,(v37,(v38,(v39,(v40,(v41,v42))))))) =>
 ah (some (IntKind.wrap .i64 ((v37.length:Int)+(1:Int)))) fun x44 =>
 bif (decide (x44≠(0:Int))) then
 ah (kP ((v37,(v38,v39)),(Int.tmod (IntKind.wrap .i64 a2) x44))) fun x46 =>
 ah (kG x46) fun (x48,(x49,x50)) =>
 ah (eF ()) fun (x52,x53) =>
 ah (jZ (x46,((x52,x53),v42))) fun ((x55,(x56,(x57,(x58,(x59,x60))))),x61) =>
 bif (decide (x61=(0:Int))) then
 bif (decide ((x48.length:Int)>=v36)) then
 bif (decide ((x48.length:Int)<(v35.length:Int))) then
 bif (decide (((0:Int)<=(x48.length:Int))/\((x48.length:Int)<(v35.length:Int)))) then
 ah v35[(Int.toNat (x48.length:Int))]? fun x62 =>
 ah (jk ((x55,(x56,(x57,(x58,(x59,x60))))),((x62.1.1,(x62.1.2.1,(x62.1.2.2,(x62.2.1,(x62.2.2.1,x62.2.2.2))))),v42))) fun x63 =>
 bif x63 then
 ah (jC ()) fun x64 =>
 some x64
 else
 some false
 else none
 else
 some false
 else
 some false
 else
 some false
 else none
noncomputable def ao8:CE:=⟨[(.tmp 0 true [dY,dI,dI]),(.tmp 1 false [dI])],[(.tmp 0 false [dY])],kP⟩
noncomputable def ao9:CE:=⟨[(.tmp 0 false [dY])],[(.tmp 0 false [(.dat (.list (.pair sW (.list sW))))]),(.tmp 1 false [dI]),(.tmp 2 false [Fa])],kG⟩
noncomputable def apa:List (Nat×CE):=[(33,ao8),(34,ao9),(28,aex),(31,amo),(9,ce9),(29,aoJ),(32,ao3),(35,ao5)]
theorem afi:eH Try.prog apa:=⟨aeg,aei,Y9,ajl,aqd,aoK,ao4,ao6,trivial⟩
noncomputable def ce6:CE:=⟨[(.tmp 0 false [(.dat (.list (.pair sW (.pair sW (.pair (.int .u16) (.int .u16))))))]),(.tmp 1 false [(.dat (.int .u16))])],[(.tmp 0 false [dO])],iC⟩
theorem aqu:aW Try.prog 6 ce6 :=nR ao7 fC afi Try.func6
theorem amL (c:Int) (hc:0<=c):∃t,lN c=some t/\t∈NM:=by
 have h0:0<=Int.tmod c 5:=Int.tmod_nonneg _ hc;have h1:Int.tmod c 5<5:=Int.tmod_lt_of_pos _ (by decide);unfold lN;generalize Int.tmod c 5=m at *
 have hm:m=0\/m=1\/m=2\/m=3\/m=4:=by omega
 rcases hm with rfl | rfl | rfl | rfl | rfl
 ·exact ⟨[99],rfl,by decide⟩
 ·exact ⟨[97],rfl,by decide⟩
 ·exact ⟨[108],rfl,by decide⟩
 ·exact ⟨[108],rfl,by decide⟩
 ·exact ⟨[115],rfl,by decide⟩
def snG (g:LG):LG:=(g.1,((g.1.length:Int),(g.2.2.1,(g.2.2.2.1,(g.2.2.2.2.1,g.2.2.2.2.2)))))
def Stp (g:LG) (R:Jn.iK) (s:ST) (ks:Nat) (q:Int) (r:LG×Bool):Prop :=
 (r.2=false/\r.1=g)\/(r.2=true/\q=5/\r.1=snG g)\/(r.2=true/\q≠5/\∃k n s',Nx g R s ks r.1 k n s'/\(k=5->6<=q/\∃b,iw g=some (b,true)/\Dl b=n))
theorem ajs {g:LG} {R:Jn.iK} {s:ST} {ks:Nat} (h:GR g R s ks) {i:Nat} (hi:i<g.2.2.2.1.length) (h0:(g.2.2.2.1.getD i b0).2.2.2.2.2.2.1≠0):s.1.length<=i/\i-s.1.length<s.2.1.length/\g.2.2.2.1.getD i b0=s.2.1.getD (i-s.1.length) b0/\(g.2.2.2.1.getD i b0).2.2.2.2.2.2.1=((i-s.1.length:Nat):Int)+1:=by
 have hb:=h.bills;have haz:=h.ri.inv.az;have hge:s.1.length<=i:=by
  refine Classical.byContradiction fun k=>h0 ?_;rw [hb,jr (by omega)];exact haz _ (iT (by omega))
 rw [hb,List.length_append] at hi;have hj:i-s.1.length<s.2.1.length:=by omega
 have eg:g.2.2.2.1.getD i b0=s.2.1.getD (i-s.1.length) b0:=by
  rw [hb,List.getD_eq_getElem?_getD,List.getElem?_append_right hge,<-List.getD_eq_getElem?_getD]
 exact ⟨hge,hj,eg,by rw [eg];exact (h.ri.inv.2.2.2.2.1 _ hj).2⟩
theorem aiv {g:LG} {R:Jn.iK} {s:ST} {ks:Nat} (h:GR g R s ks) (hl:R.length<10000) {i:Nat} (hi:i<g.2.2.2.1.length) (hd:Due g.2.2.2.1 i) :
 ou (g,(g.2.2.2.1.getD i b0).2.2.2.2.2.2.1)=some (gvR g (g.2.2.2.1.getD i b0).2.2.2.2.2.2.1 i):=by
 have hbl:=h.blen;have hgl:=h.glen;have hu:=ajs h hi hd.1;obtain ⟨r,e1,_,hr⟩:=aoO g (g.2.2.2.1.getD i b0).2.2.2.2.2.2.1 (by omega) (by omega);rw [e1];rcases hr with ⟨k,_⟩ | ⟨_,⟨j,j1,j2,rfl⟩ | ⟨k,_⟩⟩
 ·exact (k h.vl).elim
 ·have hu2:=ajs h j1 (by rw [j2.2];exact hd.1);have e:=j2.2;rw [hu2.2.2.2,hu.2.2.2] at e;obtain rfl:j=i:=by omega
  rfl
 ·exact (k i hi ⟨by omega,rfl⟩).elim
theorem amM {g:LG} {R:Jn.iK} {s:ST} {ks:Nat} (h:GR g R s ks) (hl:R.length<10000) {d c t k:Int} (hd:0<=d) (hc:0<=c) (ht:0<=t/\t<=65535) :
 ∃r,jS (g,(d,(c,(t,k))))=some r/\Stp g R s ks (Int.tmod d 9) r:=by
 have hbl:=h.blen;have hgl:=h.glen;have hnw:=h.now;have hvl:=h.vl;obtain ⟨nm,hnm,hnM⟩:=amL c hc;have hnl:=RS hnM;have q0:0<=Int.tmod d 9:=Int.tmod_nonneg _ hd;have hn0:=hvl.2.1;have hw:IntKind.wrap .i64 (g.2.2.2.2.2+IntKind.wrap .i64 t)=g.2.2.2.2.2+t:=by
  rw [aj (n:=t) (by omega),aj (by omega)]
 have hB:=Zv g (nm,([102],([52,57]++nm,(g.2.2.2.2.2+t,(0,(0,(0,(0,(0,false))))))))) (by omega) (by omega);have hBw:=ais h hl hnM (f:=[102]) (o:=[52,57]++nm) rfl (by rw [List.length_append,hnl];rfl) (t:=g.2.2.2.2.2+t) (0,(0,(0,(0,(0,false))))) (by omega);have hA:=U8 g nm (g.2.2.2.2.2+t) (by omega) (by omega);have hAw:=ZF h hl hnM (k:=2) (.inl rfl) (t:=g.2.2.2.2.2+t) (by omega);have hM:=amq g nm (g.2.2.2.2.2+t) (by omega) (by omega);have hMw:=ZF h hl hnM (k:=3) (.inr rfl) (t:=g.2.2.2.2.2+t) (by omega);have hE:=ajj g tr 0 nm (g.2.2.2.2.2+t) (by omega) (by omega);have hEw:=ao0 h hl (c:=nm) (t:=g.2.2.2.2.2+t) (by omega);have hS:=MC g (by omega) (by omega);unfold ae6 at hS;rw [if_pos hvl] at hS;obtain ⟨nx,hN,_,hNx⟩:=RG g (by omega);have hGv:=fun i hi hd=>aiv h hl (i:=i) hi hd;have hGw:=fun i (hi:i<g.2.2.2.1.length) (hd:Due g.2.2.2.1 i)=>ait h hl hi hd (n:=(g.2.2.2.1.getD i b0).2.2.2.2.2.2.1) rfl;obtain ⟨g1,g2,g3,g4,g5,g6⟩:=g;simp only at hw hB hA hM hE hS hN;unfold jS;simp only [↓aF,aG,hw,hnm];generalize Int.tmod d 9=q at *
 by_cases c0:q=0
 ·simp (disch:=(first | omega | (simp only [bM];omega))) only [↓aF,aG,c0,if_true,hnl,if_pos,hB];rcases hBw with e0 | ⟨e0,s',hX⟩
  ·generalize Ro _ _=r at *
   obtain ⟨⟨r1,r2,r3,r4,r5,r6⟩,r7⟩:=r;simp only at e0;simp only [↓aF,aG,ne_eq,e0,not_false_iff,if_true];exact ⟨_,rfl,.inl ⟨rfl,rfl⟩⟩
  ·generalize Ro _ _=r at *
   obtain ⟨⟨r1,r2,r3,r4,r5,r6⟩,r7⟩:=r;simp only at e0 hX;simp only [↓aF,aG,ne_eq,e0,not_true_eq_false,if_false];exact ⟨_,rfl,.inr (.inr ⟨rfl,by decide,1,0,s',hX,fun k=>absurd k (by decide)⟩)⟩
 ·by_cases c12:q=1\/q=2
  ·have hv:∀ {β:Type} (f:Bool->Option β),aA (if q=1 then some (Sum.inl true) else some (Sum.inl (decide (q=2)))) f=f true:=fun f=>by
    by_cases k1:q=1
    ·rw [if_pos k1];rfl
    ·rw [if_neg k1,decide_eq_true (show q=2 by omega)];rfl
   simp only [↓aF,aG,c0,if_false,↓hv,hA];rcases hAw with e0 | ⟨e0,s',hX⟩
   ·generalize Gv _ 2 _ _=r at *
    obtain ⟨⟨r1,r2,r3,r4,r5,r6⟩,r7⟩:=r;simp only at e0;simp only [↓aF,aG,ne_eq,e0,not_false_iff,if_true];exact ⟨_,rfl,.inl ⟨rfl,rfl⟩⟩
   ·generalize Gv _ 2 _ _=r at *
    obtain ⟨⟨r1,r2,r3,r4,r5,r6⟩,r7⟩:=r;simp only at e0 hX;simp only [↓aF,aG,ne_eq,e0,not_true_eq_false,if_false];exact ⟨_,rfl,.inr (.inr ⟨rfl,by omega,2,0,s',hX,fun k=>absurd k (by decide)⟩)⟩
  ·have hv:∀ {β:Type} (f:Bool->Option β),aA (if q=1 then some (Sum.inl true) else some (Sum.inl (decide (q=2)))) f=f false:=fun f=>by
    rw [if_neg (by omega),decide_eq_false (show ¬q=2 by omega)];rfl
   by_cases c3:q=3
   ·simp only [↓aF,aG,c0,if_false,↓hv,c3,if_true,hM];rcases hMw with e0 | ⟨e0,s',hX⟩
    ·generalize Gv _ 3 _ _=r at *
     obtain ⟨⟨r1,r2,r3,r4,r5,r6⟩,r7⟩:=r;simp only at e0;simp only [↓aF,aG,ne_eq,e0,not_false_iff,if_true];exact ⟨_,rfl,.inl ⟨rfl,rfl⟩⟩
    ·generalize Gv _ 3 _ _=r at *
     obtain ⟨⟨r1,r2,r3,r4,r5,r6⟩,r7⟩:=r;simp only at e0 hX;simp only [↓aF,aG,ne_eq,e0,not_true_eq_false,if_false];exact ⟨_,rfl,.inr (.inr ⟨rfl,by decide,3,0,s',hX,fun k=>absurd k (by decide)⟩)⟩
   ·by_cases c4:q=4
    ·simp only [↓aF,aG,c0,if_false,↓hv,c3,c4,if_true,Aj,hE];rcases hEw with ⟨e0,_⟩ | ⟨e0,_,_,hX⟩
     ·generalize N8 _ _ _ _ _=r at *
      obtain ⟨⟨r1,r2,r3,r4,r5,r6⟩,r7⟩:=r;simp only at e0;simp only [↓aF,aG,ne_eq,e0,not_false_iff,if_true];exact ⟨_,rfl,.inl ⟨rfl,rfl⟩⟩
     ·generalize N8 _ _ _ _ _=r at *
      obtain ⟨⟨r1,r2,r3,r4,r5,r6⟩,r7⟩:=r;simp only at e0 hX;simp only [↓aF,aG,ne_eq,e0,not_true_eq_false,if_false];exact ⟨_,rfl,.inr (.inr ⟨rfl,by decide,4,0,_,hX,fun k=>absurd k (by decide)⟩)⟩
    ·by_cases c5:q=5
     ·simp only [↓aF,aG,c0,if_false,↓hv,c3,c4,c5,if_true,hS];exact ⟨_,rfl,.inr (.inl ⟨rfl,rfl,rfl⟩)⟩
     ·simp only [↓aF,aG,c0,if_false,↓hv,c3,c4,c5,hN];rcases hNx with ⟨_,i,i1,i2,_,rfl⟩ | ⟨_,rfl⟩
      ·obtain ⟨e0,_,_,_,_,hX⟩:=hGw i i1 i2;have hgv:=hGv i i1 i2;simp only at hgv e0 hX;generalize hx:g4.getD i b0=x at *
       obtain ⟨y1,y2,y3,y4,y5,y6,y7,y8,y9,y10⟩:=x;simp only at hgv;simp only [↓aF,aG];rw [hgv];generalize gvR _ _ _=r at *
       obtain ⟨⟨r1,r2,r3,r4,r5,r6⟩,r7⟩:=r;simp only at e0 hX;simp only [↓aF,aG,ne_eq,e0,not_true_eq_false,if_false];exact ⟨_,rfl,.inr (.inr ⟨rfl,by omega,5,_,_,hX,fun _=>⟨by omega,_,hN,rfl⟩⟩)⟩
      ·simp only [↓aF,aG,b0];exact ⟨_,rfl,.inl ⟨rfl,rfl⟩⟩
abbrev LS:=(List Int×(Int×Int))×(List BL×(Int×Int))
abbrev A4:=Int×(Int×(Int×Int))
noncomputable def afj {δ:Type} (a10:List BL):(Int×List BL)->Option ((Int×List BL) ⊕ (List BL ⊕ δ)) :=
 (fun (v15,v16) =>
 bif (decide (v15<(a10.length:Int))) then
 bif (decide (((0:Int)<=v15)/\(v15<(a10.length:Int)))) then
 ah a10[v15.toNat]? fun x17 =>
 bif (decide (x17.2.2.2.2.2.2.1 > (0:Int))) then
 bif (decide (((0:Int)<=v15)/\(v15<(a10.length:Int)))) then
 ah a10[v15.toNat]? fun x18 =>
 bif (decide (v16.length<=v16.length)) then
 bif (decide (((List.length ((v16.take v16.length)++((x18.1,(x18.2.1,(x18.2.2.1,(x18.2.2.2.1,(x18.2.2.2.2.1,(x18.2.2.2.2.2.1,(x18.2.2.2.2.2.2.1,(x18.2.2.2.2.2.2.2.1,(x18.2.2.2.2.2.2.2.2.1,x18.2.2.2.2.2.2.2.2.2)))))))))::([]:List iO))))*104)<=140737488355328)) then
 ah (some ((v16.take v16.length)++((x18.1,(x18.2.1,(x18.2.2.1,(x18.2.2.2.1,(x18.2.2.2.2.1,(x18.2.2.2.2.2.1,(x18.2.2.2.2.2.2.1,(x18.2.2.2.2.2.2.2.1,(x18.2.2.2.2.2.2.2.2.1,x18.2.2.2.2.2.2.2.2.2)))))))))::([]:List iO)))) fun x19 =>
 bif (decide (x19.length<=x19.length)) then
 some (Sum.inl ((IntKind.wrap .i64 (v15+(1:Int))),(x19.take x19.length)))
 else none
 else none
 else none
 else none
 else
 bif (decide (v16.length<=v16.length)) then
 some (Sum.inl ((IntKind.wrap .i64 (v15+(1:Int))),(v16.take v16.length)))
 else none
 else none
 else
 au (bif (decide (v16.length<=v16.length)) then
 some (Sum.inl (v16.take v16.length))
 else none))
noncomputable def abN {δ:Type} (a10:List BL):(Int×(List BL×Int))->Option ((Int×(List BL×Int)) ⊕ ((List BL×Int) ⊕ δ)) :=
 (fun (v23,(v24,v25)) =>
 bif (decide (v23<(a10.length:Int))) then
 bif (decide (((0:Int)<=v23)/\(v23<(a10.length:Int)))) then
 ah a10[v23.toNat]? fun x26 =>
 bif (decide (x26.2.2.2.2.2.2.1 > (0:Int))) then
 bif (decide (v24.length<=v24.length)) then
 some (Sum.inl ((IntKind.wrap .i64 (v23+(1:Int))),((v24.take v24.length),v25)))
 else none
 else
 bif (decide (x26.2.2.2.2.1=(-1:Int))) then
 bif (decide (v24.length<=v24.length)) then
 some (Sum.inl ((IntKind.wrap .i64 (v23+(1:Int))),((v24.take v24.length),v25)))
 else none
 else
 ah (some (IntKind.wrap .i64 (v25+(1:Int)))) fun x29 =>
 ah (bQ (x26.2.2.2.2.1,x26.2.2.2.2.2.1)) fun x30 =>
 ah (eF ()) fun (x32,x33) =>
 ah (bP ((x32,x33),(x26.2.2.1,(x26.2.2.2.2.1,x26.2.2.2.2.2.1)))) fun (x35,x36) =>
 bif (decide (x36=(0:Int))) then
 bif (decide (v24.length<=v24.length)) then
 bif (decide (((List.length ((v24.take v24.length)++((x26.1,(x26.2.1,(x26.2.2.1,(x26.2.2.2.1,(x26.2.2.2.2.1,(x26.2.2.2.2.2.1,(x29,(x30,(x35,x26.2.2.2.2.2.2.2.2.2)))))))))::([]:List iO))))*104)<=140737488355328)) then
 ah (some ((v24.take v24.length)++((x26.1,(x26.2.1,(x26.2.2.1,(x26.2.2.2.1,(x26.2.2.2.2.1,(x26.2.2.2.2.2.1,(x29,(x30,(x35,x26.2.2.2.2.2.2.2.2.2)))))))))::([]:List iO)))) fun x37 =>
 bif (decide (x37.length<=x37.length)) then
 some (Sum.inl ((IntKind.wrap .i64 (v23+(1:Int))),((x37.take x37.length),x29)))
 else none
 else none
 else none
 else
 bif (decide (v24.length<=v24.length)) then
 bif (decide (((List.length ((v24.take v24.length)++((x26.1,(x26.2.1,(x26.2.2.1,(x26.2.2.2.1,(x26.2.2.2.2.1,(x26.2.2.2.2.2.1,(x29,(x30,(x26.2.2.2.2.2.2.2.2.1,x26.2.2.2.2.2.2.2.2.2)))))))))::([]:List iO))))*104)<=140737488355328)) then
 ah (some ((v24.take v24.length)++((x26.1,(x26.2.1,(x26.2.2.1,(x26.2.2.2.1,(x26.2.2.2.2.1,(x26.2.2.2.2.2.1,(x29,(x30,(x26.2.2.2.2.2.2.2.2.1,x26.2.2.2.2.2.2.2.2.2)))))))))::([]:List iO)))) fun x39 =>
 bif (decide (x39.length<=x39.length)) then
 some (Sum.inl ((IntKind.wrap .i64 (v23+(1:Int))),((x39.take x39.length),x29)))
 else none
 else none
 else none
 else none
 else
 au (bif (decide (v24.length<=v24.length)) then
 some (Sum.inl ((v24.take v24.length),v25))
 else none))
theorem amN (a1:List Int) (a2 a3:Int) (a4:List BL) (a5 a6:Int) (a7:List Int) (a8 a9:Int) (a10:List BL) (a11 a12 a13:Int):jk ((a1,(a2,(a3,(a4,(a5,a6))))),((a7,(a8,(a9,(a10,(a11,a12))))),a13)) =
 aA (ah (bY (a1,(a2,(a3,(a4,(a5,a6)))))) fun x14 =>
 bif (!x14) then
 au (some false)
 else
 bif (decide (a6≠a13)) then
 au (some false)
 else
 bif (decide ((a4.length:Int) > (a10.length:Int))) then
 au (some false)
 else
 some (Sum.inl ())) fun _ =>
 aA (ay (afj a10) ((0:Int),([]:List iO))) fun v22 =>
 aA (bif (decide (v22.length<=v22.length)) then
 ay (abN a10) ((0:Int),((v22.take v22.length),a11))
 else none) fun (v41,v42) =>
 bif (decide (v41.length<=v41.length)) then
  ah (gW (a4,(v41.take v41.length))) fun x43 =>
  bif x43 then
   some (decide (a5=v42))
  else
   some false
 else none:=rfl
noncomputable def crB {δ:Type} (a1:List A4):(Int×(List LS×(Int×LG)))->Option ((Int×(List LS×(Int×LG))) ⊕ ((List LS×(Int×LG)) ⊕ δ)) :=
 (fun (v10,(v11,(v12,(v13,(v14,(v15,(v16,(v17,v18)))))))) =>
 bif (decide (v10<(a1.length:Int))) then
 bif (decide (v10<(60:Int))) then
 bif (decide (((0:Int)<=v10)/\(v10<(a1.length:Int)))) then
 ah a1[v10.toNat]? fun x19 =>
 ah (jS ((v13,(v14,(v15,(v16,(v17,v18))))),(x19.1,(x19.2.1,(x19.2.2.1,x19.2.2.2))))) fun ((x21,(x22,(x23,(x24,(x25,x26))))),x27) =>
 bif (!x27) then
 bif (decide (v11.length<=v11.length)) then
 some (Sum.inl ((IntKind.wrap .i64 (v10+(1:Int))),((v11.take v11.length),(v12,(v13,(v14,(v15,(v16,(v17,v18)))))))))
 else none
 else
 aA (bif (decide (x23=(v11.length:Int))) then
 bif (decide (v11.length<=v11.length)) then
 bif (decide (((List.length ((v11.take v11.length)++(((x21,(x22,x23)),(x24,(x25,x26)))::([]:List (((List Int)×(Int×Int))×((List iO)×(Int×Int)))))))*80)<=140737488355328)) then
 ah (some ((v11.take v11.length)++(((x21,(x22,x23)),(x24,(x25,x26)))::([]:List (((List Int)×(Int×Int))×((List iO)×(Int×Int))))))) fun x29 =>
 bif (decide (x29.length<=x29.length)) then
 some (Sum.inl (x29.take x29.length))
 else none
 else none
 else none
 else
 bif (decide (v11.length<=v11.length)) then
 some (Sum.inl (v11.take v11.length))
 else none) fun v30 =>
 bif (decide (((0:Int)<=v10)/\(v10<(a1.length:Int)))) then
 ah a1[v10.toNat]? fun x31 =>
 bif (decide ((Int.tmod x31.1 (9:Int))=(5:Int))) then
 bif (decide (v30.length<=v30.length)) then
 some (Sum.inl ((IntKind.wrap .i64 (v10+(1:Int))),((v30.take v30.length),(x23,(x21,(x22,(x23,(x24,(x25,x26)))))))))
 else none
 else
 bif (decide (v30.length<=v30.length)) then
 some (Sum.inl ((IntKind.wrap .i64 (v10+(1:Int))),((v30.take v30.length),(v12,(x21,(x22,(x23,(x24,(x25,x26)))))))))
 else none
 else none
 else none
 else
 au (bif (decide (v11.length<=v11.length)) then
 some (Sum.inl ((v11.take v11.length),(v12,(v13,(v14,(v15,(v16,(v17,v18))))))))
 else none)
 else
 au (bif (decide (v11.length<=v11.length)) then
 some (Sum.inl ((v11.take v11.length),(v12,(v13,(v14,(v15,(v16,(v17,v18))))))))
 else none))
theorem afk (a1:List A4) (a2:Int):iC (a1,a2) =
 ah (pF ()) fun (x4,(x5,(x6,(x7,(x8,x9))))) =>
 aA (ay (crB a1) ((0:Int),((((x4,(x5,x6)),(x7,(x8,x9)))::([]:List (((List Int)×(Int×Int))×((List iO)×(Int×Int))))),((0:Int),(x4,(x5,(x6,(x7,(x8,x9))))))))) fun (v35,(v36,(v37,(v38,(v39,(v40,(v41,v42))))))) =>
 ah (some (IntKind.wrap .i64 ((v37.length:Int)+(1:Int)))) fun x44 =>
 bif (decide (x44≠(0:Int))) then
  ah (kP ((v37,(v38,v39)),(Int.tmod (IntKind.wrap .i64 a2) x44))) fun x46 =>
  ah (kG x46) fun (x48,(x49,x50)) =>
  ah (eF ()) fun (x52,x53) =>
  ah (jZ (x46,((x52,x53),v42))) fun ((x55,(x56,(x57,(x58,(x59,x60))))),x61) =>
  bif (decide (x61=(0:Int))) then
   bif (decide ((x48.length:Int)>=v36)) then
    bif (decide ((x48.length:Int)<(v35.length:Int))) then
     bif (decide (((0:Int)<=(x48.length:Int))/\((x48.length:Int)<(v35.length:Int)))) then
      ah v35[(Int.toNat (x48.length:Int))]? fun x62 =>
      ah (jk ((x55,(x56,(x57,(x58,(x59,x60))))),((x62.1.1,(x62.1.2.1,(x62.1.2.2,(x62.2.1,(x62.2.2.1,x62.2.2.2))))),v42))) fun x63 =>
      bif x63 then
       ah (jC ()) fun x64 =>
       some x64
      else
       some false
     else none
    else
     some false
   else
    some false
  else
   some false
 else none:=rfl
theorem RX:∀(l m:List BL) (la:Int),GU (l++m) la=GU l la++GU m (GV l la)
 | [],m,la=>rfl
 | x::l,m,la=>by
   rw [List.cons_append,GU,GU,GV];split
   ·rw [RX l m,List.cons_append]
   ·exact RX l m la
theorem RY:∀(l m:List BL) (la:Int),GV (l++m) la=GV m (GV l la)
 | [],m,la=>rfl
 | x::l,m,la=>by
   rw [List.cons_append,GV,GV];split
   ·exact RY l m (la+1)
   ·exact RY l m la
theorem Ji:∀(l:List BL) (la:Int),(GU l la).length<=l.length/\la<=GV l la/\GV l la<=la+(l.length:Int)
 | [],la=>⟨Nat.le_refl _,Int.le_refl _,by show la<=la+0;omega⟩
 | x::l,la=>by
   rw [GU,GV,List.length_cons];split
   ·have:=Ji l (la+1);rw [List.length_cons];omega
   ·have:=Ji l la;omega
def OpB (op:List BL):Prop:=∀b∈op,b.2.2.2.2.2.2.1=0/\b.2.2.2.2.2.2.2.2.1=0
def DoB (dn:List BL):Prop:=∀b∈dn,1<=b.2.2.2.2.2.2.1
theorem aiw:∀ {dn:List BL},DoB dn->(dn.filter fun x=>decide (x.2.2.2.2.2.2.1 > 0))=dn:=fun {dn} h=>List.filter_eq_self.2 fun x hx=>decide_eq_true (by have:=h x hx;omega)
theorem aix:∀ {op:List BL},OpB op->(op.filter fun x=>decide (x.2.2.2.2.2.2.1 > 0))=[]:=fun {op} h=>List.filter_eq_nil_iff.2 fun x hx=>by
 have:=(h x hx).1;rw [decide_eq_false (by omega)];simp
theorem afl {δ:Type} (l:List BL) (hl:l.length<=20000):ay (afj (δ:=δ) l) (0,[])=some (.inl (l.filter fun x=>decide (x.2.2.2.2.2.2.1 > 0))):=by
 refine bI (fun i=>((i:Int),(l.take i).filter fun x=>decide (x.2.2.2.2.2.2.1 > 0))) l.length rfl (fun i hi => ?_) ?_
 ·obtain ⟨x,hx,hxb⟩:=get_at b0 hi;have ht:=take_snoc l b0 hi;rw [hx] at ht;have hf:((l.take i).filter fun x=>decide (x.2.2.2.2.2.2.1 > 0)).length<=20000:=Nat.le_trans (List.length_filter_le ..) (by rw [List.length_take];omega);have e:((l.take (i+1)).filter fun x=>decide (x.2.2.2.2.2.2.1 > 0))=((l.take i).filter fun x=>decide (x.2.2.2.2.2.2.1 > 0))++(if x.2.2.2.2.2.2.1 > 0 then [x] else []):=by
   rw [ht,List.filter_append];congr 1;by_cases h:x.2.2.2.2.2.2.1 > 0
   ·rw [if_pos h,List.filter_cons,decide_eq_true h];rfl
   ·rw [if_neg h,List.filter_cons,decide_eq_false h];rfl
  simp only [e];generalize ((l.take i).filter fun x=>decide (x.2.2.2.2.2.2.1 > 0))=acc at *
  unfold afj;by_cases h:x.2.2.2.2.2.2.1 > 0
  ·simp (disch:=first | omega | (simp only [bM];omega)) only [↓aF,aG,if_pos,↓hxb,h,if_true,aj];rfl
  ·simp (disch:=(first | omega | (simp only [bM];omega))) only [↓aF,aG,if_pos,↓hxb,h,if_false,aj,List.append_nil];rfl
 ·unfold afj;simp (disch:=(first | omega | (simp only [bM];omega))) only [↓aF,aG,if_neg]
theorem afm {δ:Type} (op dn:List BL) (la:Int) (ho:OpB op) (hd:DoB dn) (hl:op.length+dn.length<=20000) (h0:0<=la/\la<=20000):ay (abN (δ:=δ) (op++dn)) (0,(dn,la))=some (.inl (dn++GU op la,GV op la)):=by
 have hlen:(op++dn).length=op.length+dn.length:=List.length_append;refine bI (fun i=>((i:Int),(dn++GU (op.take i) la,GV (op.take i) la))) (op.length+dn.length) (by show ((0:Int),(dn++[],la))=_;rw [List.append_nil]) (fun i hi => ?_) ?_
 ·obtain ⟨x,hx,hxb⟩:=get_at b0 (l:=op++dn) (i:=i) (by omega);have hcl:=Ji (op.take i) la;have htl:(op.take i).length<=op.length:=by rw [List.length_take];omega
  by_cases hio:i<op.length
  ·have hxo:op.getD i b0=x:=by rw [<-hx,jr hio]
   have hxm:=ho x (by rw [<-hxo];exact iT hio);have ht:=take_snoc op b0 hio;rw [hxo] at ht;have e1:GU (op.take (i+1)) la=GU (op.take i) la++GU [x] (GV (op.take i) la):=by rw [ht,RX]
   have e2:GV (op.take (i+1)) la=GV [x] (GV (op.take i) la):=by rw [ht,RY]
   simp only [e1,e2];generalize GU (op.take i) la=acc at *
   generalize GV (op.take i) la=q at *
   have hn0:¬x.2.2.2.2.2.2.1 > 0:=by omega
   unfold abN;by_cases ha:x.2.2.2.2.1 = -1
   ·have k1:GU [x] q=[]:=by unfold GU;rw [if_neg (fun k=>k ha)];rfl
    have k2:GV [x] q=q:=by unfold GV;rw [if_neg (fun k=>k ha)];rfl
    rw [k1,k2];simp (disch:=(first | omega | (simp only [bM];omega))) only [↓aF,aG,if_pos,↓hxb,hn0,ha,if_false,if_true,aj,List.append_nil];rfl
   ·obtain ⟨c,e,c1,_,c3,c4⟩:=Jg tr 0 x.2.2.1 x.2.2.2.2.1 x.2.2.2.2.2.1;have k1:GU [x] q=[U1 x x.2.2.2.2.2.1 (q+1) (Rt.SE x.2.2.2.2.1 x.2.2.2.2.2.1) (Rq tr 0 x.2.2.1 x.2.2.2.2.1 x.2.2.2.2.2.1)]:=by unfold GU;rw [if_pos ha];rfl
    have k2:GV [x] q=q+1:=by unfold GV;rw [if_pos ha];rfl
    have hwq:IntKind.wrap .i64 (q+1)=q+1:=aj (by omega);rw [k1,k2,c3];have hal:(dn++acc).length<=20000:=by rw [List.length_append];omega
    have ha2:∀y,(dn++acc++[y]).length<=30000:=fun y=>by rw [List.length_append];show _+1<=_;omega
    rw [show ∀y:BL,(dn++(acc++[y]))=dn++acc++[y] from fun y=>(List.append_assoc ..).symm];generalize dn++acc=ac at *
    by_cases he:e=0
    ·simp (disch:=first | omega | (simp only [bM];omega)) only [↓aF,aG,if_pos,↓hxb,hn0,ha,if_false,hwq,↓BN,Aj,c1,he,if_true,aj];rfl
    ·simp (disch:=first | omega | (simp only [bM];omega)) only [↓aF,aG,if_pos,↓hxb,hn0,ha,if_false,hwq,↓BN,Aj,c1,he,if_true,aj];rw [show U1 x x.2.2.2.2.2.1 (q+1) (Rt.SE x.2.2.2.2.1 x.2.2.2.2.2.1) 0=(x.1,(x.2.1,(x.2.2.1,(x.2.2.2.1,(x.2.2.2.2.1,(x.2.2.2.2.2.1,(q+1,(Rt.SE x.2.2.2.2.1 x.2.2.2.2.2.1,(x.2.2.2.2.2.2.2.2.1,x.2.2.2.2.2.2.2.2.2))))))))) from by rw [hxm.2];rfl];rfl
  ·have hxo:dn.getD (i-op.length) b0=x:=by
    rw [<-hx,List.getD_eq_getElem?_getD,List.getD_eq_getElem?_getD,List.getElem?_append_right (by omega)]
   have hxm:=hd x (by rw [<-hxo];exact iT (by omega));have hn0:x.2.2.2.2.2.2.1 > 0:=by omega
   rw [List.take_of_length_le (show op.length<=i+1 by omega),List.take_of_length_le (show op.length<=i by omega)];unfold abN;simp (disch:=(first | omega | (simp only [bM];omega))) only [↓aF,aG,if_pos,↓hxb,hn0,if_true,aj];rfl
 ·rw [List.take_of_length_le (show op.length<=op.length+dn.length by omega)];unfold abN;simp (disch:=(first | omega | (simp only [bM];omega))) only [↓aF,aG,if_neg]
theorem afn {r w:LG} {now:Int} {op dn:List BL} (hv:VL r) (hn:r.2.2.2.2.2=now) (hw:w.2.2.2.1=op++dn) (ho:OpB op) (hd:DoB dn) (hl:op.length+dn.length<=20000) (h0:0<=w.2.2.2.2.1/\w.2.2.2.2.1<=20000) (hb:r.2.2.2.1=dn++GU op w.2.2.2.2.1) (hla:r.2.2.2.2.1=GV op w.2.2.2.2.1):jk (r,(w,now))=some true:=by
 obtain ⟨r1,r2,r3,r4,r5,r6⟩:=r;obtain ⟨w1,w2,w3,w4,w5,w6⟩:=w;simp only at hn hw h0 hb hla;have hcl:=Ji op w5;have hlen:(op++dn).length=op.length+dn.length:=List.length_append;have hlen2:(dn++GU op w5).length=dn.length+(GU op w5).length:=List.length_append;have hva:=(nK (r1,(r2,(r3,(r4,(r5,r6))))) (by show r4.length<=_;rw [hb];omega)).tf;rw [dM hv] at hva;have hA:∀ {δ:Type},ay (afj (δ:=δ) (op++dn)) (0,[])=some (.inl dn):=fun {δ}=>by
  rw [afl _ (by omega),List.filter_append,aix ho,aiw hd,List.nil_append]
 have hB:∀ {δ:Type},ay (abN (δ:=δ) (op++dn)) (0,(dn,w5))=_:=fun {δ}=>afm op dn w5 ho hd (by omega) h0;have hS:=Nc (dn++GU op w5) (by omega);rw [amN];subst hb hla hn hw;simp (disch:=(first | omega | (simp only [bM];omega))) only [↓aF,aG,hva,ne_eq,not_true_eq_false,if_false,if_neg,↓hA,↓hB,hS,decide_true]
def dLS:LS:=(([],(0,0)),([],(0,0)))
structure CrI (acts:List A4) (i:Nat) (S:List LS) (R:Jn.iK) (s:ST) (ks:Nat) (g:LG):Prop where
 rel:GR g R s ks
 ia:i<=acts.length
 i60:i<=60
 rl:R.length<=i
 sl:S.length=R.length+1
 st:∀k,k<=R.length->∃t,run (R.take k) s0=some t/\(S.getD k dLS).2.1=t.1++t.2.1/\(S.getD k dLS).2.2.1=t.2.2.1
def dA4:A4:=(0,(0,(0,0)))
def ZH (a:A4):Prop:=0<=a.1/\0<=a.2.1/\(0<=a.2.2.1/\a.2.2.1<=65535)/\(0<=a.2.2.2/\a.2.2.2<=65535)
theorem aiy {acts:List A4} (hok:∀a∈acts,ZH a) {i:Nat} {S:List LS} {R:Jn.iK} {s:ST} {ks:Nat} {g:LG} (h:CrI acts i S R s ks g) (hi:i<acts.length) (h60:i<60) {δ:Type} :
 ∃S' R' s' ks' g',CrI acts (i+1) S' R' s' ks' g'/\crB (δ:=δ) acts ((i:Int),(S,((ks:Int),g)))=some (.inl (((i+1:Nat):Int),(S',((ks':Int),g')))):=by
 obtain ⟨x,hx,hxb⟩:=get_at dA4 hi;have hxo:ZH x:=by
  rw [<-hx,List.getD_eq_getElem?_getD,List.getElem?_eq_getElem hi];exact hok _ (List.getElem_mem hi)
 have hrl:=h.rl;have hsl:=h.sl;obtain ⟨⟨g',ok⟩,e,hst⟩:=amM h.rel (by omega) (d:=x.1) (c:=x.2.1) (t:=x.2.2.1) (k:=x.2.2.2) hxo.1 hxo.2.1 hxo.2.2.1;obtain ⟨b1,b2,b3,b4,b5,b6⟩:=g';rcases hst with ⟨h1,h2⟩ | ⟨h1,h2,h3⟩ | ⟨h1,h2,k,n,s',h3,h4⟩
 ·replace h1:ok=false:=h1;subst h1;refine ⟨S,R,s,ks,g,⟨h.rel,by omega,by omega,by omega,h.sl,h.st⟩,?_⟩;obtain ⟨a1,a2,a3,a4,a5,a6⟩:=g;unfold crB;simp (disch:=(first | omega | (simp only [bM];omega))) only [↓aF,aG,if_pos,↓hxb,e,aj];rfl
 ·replace h1:ok=true:=h1;subst h1;replace h3:(b1,(b2,(b3,(b4,(b5,b6)))))=snG g:=h3;have hcnt:=h.rel.cnt;have hrel:=h.rel.sync;have hb3:b3=(R.length:Int):=by
   have:b3=(snG g).2.2.1:=by rw [<-h3]
   rw [this];exact hcnt
  refine ⟨S,R,s,R.length,snG g,⟨hrel,by omega,by omega,by omega,h.sl,h.st⟩,?_⟩;rw [<-h3];have hne:¬b3=((S.length:Nat):Int):=by omega
  obtain ⟨a1,a2,a3,a4,a5,a6⟩:=g;unfold crB;simp (disch:=(first | omega | (simp only [bM];omega))) only [↓aF,aG,if_pos,↓hxb,e,hne,if_false,h2,if_true,aj];rw [hb3];rfl
 ·replace h1:ok=true:=h1;subst h1;obtain ⟨r,hr,hrel⟩:=h3.rel;replace hrel:GR (b1,(b2,(b3,(b4,(b5,b6))))) (R++[r]) s' ks:=hrel;have hcnt:=hrel.cnt;have hlr:(R++[r]).length=R.length+1:=by rw [List.length_append];rfl
  rw [hlr] at hcnt;replace hcnt:b3=((R.length+1:Nat):Int):=hcnt;refine ⟨S++[((b1,(b2,b3)),(b4,(b5,b6)))],R++[r],s',ks,(b1,(b2,(b3,(b4,(b5,b6))))),⟨hrel,by omega,by omega,by omega,by rw [List.length_append,hlr,hsl];rfl,fun k hk => ?_⟩,?_⟩
  ·rw [hlr] at hk;by_cases e2:k<=R.length
   ·obtain ⟨t,t1,t2,t3⟩:=h.st k e2;refine ⟨t,by rw [List.take_append_of_le_length e2];exact t1,?_⟩;rw [List.getD_eq_getElem?_getD,List.getElem?_append_left (by omega),<-List.getD_eq_getElem?_getD];exact ⟨t2,t3⟩
   ·obtain rfl:k=R.length+1:=by omega
    refine ⟨s',by rw [List.take_of_length_le (by omega)];exact hrel.run,?_⟩;rw [List.getD_eq_getElem?_getD,List.getElem?_append_right (by omega),hsl,Nat.sub_self];exact ⟨hrel.bills,hrel.last⟩
  ·have heq:b3=((S.length:Nat):Int):=by omega
   obtain ⟨a1,a2,a3,a4,a5,a6⟩:=g;unfold crB;simp (disch:=first | omega | (simp only [bM];omega)) only [↓aF,aG,if_pos,↓hxb,e,heq,if_true,h2,if_false,aj];rfl
theorem aiz {δ:Type} {acts:List A4} (hok:∀a∈acts,ZH a):∃i S R s ks g,CrI acts i S R s ks g/\ay (crB (δ:=δ) acts) (0,([(([],(0,0)),([],(0,0)))],((0:Int),zG)))=some (.inl (S,((ks:Int),g))):=by
 have key:∀n i S R s ks g,60-i=n->CrI acts i S R s ks g->∃i' S' R' s' ks' g',CrI acts i' S' R' s' ks' g'/\ay (crB (δ:=δ) acts) ((i:Int),(S,((ks:Int),g)))=some (.inl (S',((ks':Int),g'))):=by
  intro n
  induction n with
  | zero =>
    intro i S R s ks g hn h;have h60:=h.i60;refine ⟨i,S,R,s,ks,g,h,?_⟩;rw [fG];obtain ⟨a1,a2,a3,a4,a5,a6⟩:=g;have e:crB (δ:=δ) acts ((i:Int),(S,((ks:Int),(a1,(a2,(a3,(a4,(a5,a6))))))))=some (.inr (.inl (S,((ks:Int),(a1,(a2,(a3,(a4,(a5,a6))))))))):=by
     unfold crB;by_cases hi:(i:Int)<((acts.length:Nat):Int)
     ·simp (disch:=(first | omega | (simp only [bM];omega))) only [↓aF,aG,hi,if_true,if_neg]
     ·simp (disch:=(first | omega | (simp only [bM];omega))) only [↓aF,aG,hi,if_false]
    rw [e]
  | succ n ih =>
    intro i S R s ks g hn h;by_cases hi:i<acts.length
    ·obtain ⟨S',R',s',ks',g',h',e⟩:=aiy hok h hi (by omega) (δ:=δ);rw [fG,e];exact ih (i+1) S' R' s' ks' g' (by omega) h'
    ·refine ⟨i,S,R,s,ks,g,h,?_⟩;rw [fG];obtain ⟨a1,a2,a3,a4,a5,a6⟩:=g;have e:crB (δ:=δ) acts ((i:Int),(S,((ks:Int),(a1,(a2,(a3,(a4,(a5,a6))))))))=some (.inr (.inl (S,((ks:Int),(a1,(a2,(a3,(a4,(a5,a6))))))))):=by
      have hi:¬(i:Int)<((acts.length:Nat):Int):=by omega
      unfold crB;simp (disch:=(first | omega | (simp only [bM];omega))) only [↓aF,aG,hi,if_false]
     rw [e]
 exact key 60 0 _ [] s0 0 zG rfl ⟨aqt,Nat.zero_le _,by omega,Nat.le_refl _,rfl,fun k hk=>by
  obtain rfl:k=0:=by simpa using hk
  exact ⟨s0,rfl,rfl,rfl⟩⟩
theorem aiA {R:Jn.iK} {s:ST} (h:RI R s):OpB s.1/\DoB s.2.1:=by
 refine ⟨fun b hb => ?_,fun b hb => ?_⟩
 ·have:=h.inv.1 b hb;refine ⟨this.2,?_⟩;rcases this.1.2.2.2.2 with q | q
  ·exact q.2.2.1
  ·exact absurd this.2 q.1
 ·obtain ⟨i,hi,e⟩:=List.mem_iff_getElem.1 hb;have:=(h.inv.2.2.2.2.1 i hi).2;rw [Bv hi,e] at this;omega
theorem abP {acts:List A4} (hok:∀a∈acts,ZH a) {keep:Int} (hk:0<=keep/\keep<=65535):iC (acts,keep)=some true:=by
 rw [afk];have h0:pF ()=some zG:=rfl;rw [h0];unfold zG;simp only [↓aF,aG];obtain ⟨i,S,R,s,ks,g,h,e⟩:=aiz (δ:=Bool) hok;have e':ay (crB (δ:=Bool) acts) ((0:Int),([(([],((0:Int),(0:Int))),([],((0:Int),(0:Int))))],((0:Int),(([]:List Int),((0:Int),((0:Int),(([]:List BL),((0:Int),(0:Int)))))))))=some (.inl (S,((ks:Int),g))):=e;rw [e'];have hR:=h.rl;have h60:=h.i60;have hrel:=h.rel;have hgl:=hrel.glen;have hsy:=hrel.syle;have hcnt:=hrel.cnt;have hnw:=hrel.now;obtain ⟨m,m1,m2,hcr⟩:=Jn.ahR g.1 g.2.1 g.2.2.1 (Int.tmod keep ((g.1.length:Int)+1)) (by omega) hsy (by omega);rw [hrel.sy] at m1;obtain ⟨k,sk,g',E,k1,k2,k3,k4,⟨n,er,k5⟩,k6,k7,k8,k9,k10,k11⟩:=abI hrel m2 (by omega) (now:=g.2.2.2.2.2) hnw (by have:=RN R;omega);have hby:Bytes (g.1.take m):=fun x hx=>by
  rw [hrel.log] at hx;exact Jn.yH R 0 (fun r hr=>(hrel.ok r hr).ok) x (List.take_subset _ _ hx)
 have hscan:=Jn.aeP (g.1.take m) hby (by rw [List.length_take];omega) k5;obtain ⟨t,t1,t2,t3⟩:=h.st k k1;rw [k3] at t1;cases t1;have hsl:=h.sl;have lT:=RU k1;have hSk:∀ {β:Type} (f:LS->Option β),ah S[Int.toNat ((k:Nat):Int)]? f=f (S.getD k dLS):=fun f=>QU dLS f (by omega);have hopb:=aiA k11;have hcl:∃no',clS sk.1.length sk=([],(sk.2.1++GU sk.1 sk.2.2.1,(GV sk.1 sk.2.2.1,no'))):=Xt sk.1 sk.2.1 sk.2.2.1 sk.2.2.2;obtain ⟨no',hcl⟩:=hcl;rw [hcl] at k7;have hkc:=k11.cnt;have hkl:=k11.len;have hkb:=RN (R.take k);have hla:sk.2.2.1=(sk.2.1.length:Int):=k11.inv.2.2.2.1;generalize hY:S.getD k dLS=Y at *
 have hclosed:=afn (r:=g') (w:=(Y.1.1,(Y.1.2.1,(Y.1.2.2,(Y.2.1,(Y.2.2.1,Y.2.2.2)))))) (now:=g.2.2.2.2.2) (op:=sk.1) (dn:=sk.2.1) k7.vl k8 t2 hopb.1 hopb.2 (by omega) (by show 0<=Y.2.2.1/\Y.2.2.1<=20000;omega) (by rw [show (Y.1.1,(Y.1.2.1,(Y.1.2.2,(Y.2.1,(Y.2.2.1,Y.2.2.2))))).2.2.2.2.1=sk.2.2.1 from t3];exact k7.bills.trans (List.nil_append _)) (by rw [show (Y.1.1,(Y.1.2.1,(Y.1.2.2,(Y.2.1,(Y.2.2.1,Y.2.2.2))))).2.2.2.2.1=sk.2.2.1 from t3];exact k7.last);obtain ⟨g1,g2,g3,g4,g5,g6⟩:=g;obtain ⟨z1,z2,z3,z4,z5,z6⟩:=g';simp only at hcr hscan k6 hclosed hgl;have hw1:IntKind.wrap .i64 (((g1.length:Nat):Int)+1)=((g1.length:Nat):Int)+1:=aj (by omega);have hw2:IntKind.wrap .i64 keep=keep:=aj (by omega);have hne:(((g1.length:Nat):Int)+1)≠0:=by omega
 simp (disch:=(first | omega | (simp only [bM];omega))) only [↓aF,aG,hw1,hw2,hne,ne_eq,not_false_iff,if_true,if_pos,hcr,hscan,Aj,k6,lT,↓hSk,hclosed,aic]
theorem Xu (a:List A4×Int) (h:WM [(.tmp 0 false [(.dat (.list (.pair (.int .u8) (.pair (.int .u8) (.pair (.int .u16) (.int .u16))))))]),(.tmp 1 false [(.dat (.int .u16))])] a):iC a=some true:=by
 obtain ⟨acts,keep⟩:=a;refine abP (fun a ha => ?_) (adW h.2.1.1);have hl:Yv (.list (.pair (.int .u8) (.pair (.int .u8) (.pair (.int .u16) (.int .u16))))) acts:=h.1.1;have hx:=hl.2 a ha;have w1:=anJ hx.1;have w2:=anJ hx.2.1;exact ⟨w1.1,w2.1,adW hx.2.2.1,adW hx.2.2.2⟩
end Go.Proofs.Ytkpijdndakljjaa
