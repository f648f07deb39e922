import Derived.Test.YtkpijdndakljjaaGreatJ7p
import Derived.Test.YtkpijdndakljjaaGreatZrp
import Derived.Test.YtkpijdndakljjaaGreatFp
import Derived.Test.YtkpijdndakljjaaGreatXBp
import Derived.Test.YtkpijdndakljjaaGreatY3p
set_option linter.unusedSimpArgs false
set_option linter.unusedVariables false
set_option maxRecDepth 100000
set_option maxHeartbeats 4000000
namespace Go.Proofs.YtkpijdndakljjaaGreat
open Go.RowKit
namespace Rt
theorem ao0 {r:Ra} {f a s:Int} (h:RV r) (hf:0<=f/\f<=3600) (ha:0<=a/\a<=281474976710656) (hs:0<=s/\s<=1000000):0<=CV r f a s/\CV r f a s<=1000000000*(s+1):=by
 have hfi:=h.1.2.2.1;have hst:=h.1.2.2.2;have hn:=Yy (f:=f) (fi:=r.2.2.1) (s:=s) hst.1;have hle:=Yz (st:=r.2.2.2.1) hst.1 hf.1 hfi.1 hs.1;unfold CV;split
 ·omega
 ·have:=YB h.2.2 h.1.2.1 (n:=(PN f r.2.2.1 r.2.2.2.1 s).toNat) (mo:=MO a f r.2.2.1 r.2.2.2.1) (fun k hk=>by have:=YC ha hf hfi hst (k:=k) (by omega);omega);omega
theorem ahC (l:List Ra) (f:Int) (num:List UInt8) (a b:Int):∃c e,bV ((l,f),(num,(a,b)))=some (c,e)/\dH ((l,f),(num,(a,b)))=some (c,e)/\(0<=c/\c<=2000000000000000):=by
 obtain ⟨⟨c,e⟩,h1,h2⟩:=aaX l f num a b;refine ⟨c,e,h1,h2,?_⟩;have z:∀q:Int,bV ((l,f),(num,(a,b)))=some (0,q)->0<=c/\c<=2000000000000000:=fun q hq=>by
  rw [h1] at hq;cases hq;omega
 by_cases hv:TV l f
 ·by_cases hs:Spn a b
  ·by_cases hq:SE a b<=1000000
   ·obtain ⟨r,e1,e2,k1,_⟩:=Gu l f num;rcases k1 hv with ⟨rfl,_⟩ | ⟨i,hi,rfl,_⟩
    ·have w1:0<=a/\a<=281474976710656:=⟨hs.1,Int.le_trans hs.2.1 hs.2.2⟩
     have w2:a<=b/\b<=281474976710656:=hs.2;refine z 8 ?_;unfold bV;simp (disch:=omega) only [↓aN,aQ,jh hv,iJ,w1,w2,and_self,decide_true,qP,if_neg,e1]
    ·have w1:0<=a/\a<=281474976710656:=⟨hs.1,Int.le_trans hs.2.1 hs.2.2⟩
     have hp:=QD hv hs hq hi e1;rw [h1] at hp;have hb:=ao0 (hv.2 i hi).1 hv.1.2 w1 ⟨(Lu a b).1,hq⟩;simp only [Option.some.injEq,Prod.mk.injEq] at hp;rw [hp.1];omega
   ·have w1:0<=a/\a<=281474976710656:=⟨hs.1,Int.le_trans hs.2.1 hs.2.2⟩
    have w2:a<=b/\b<=281474976710656:=hs.2;refine z 4 ?_;unfold bV;simp (disch:=omega) only [↓aN,aQ,jh hv,iJ,w1,w2,and_self,decide_true,qP,if_pos]
  ·refine z 3 ?_;unfold bV;by_cases w1:0<=a/\a<=281474976710656
   ·have w2:¬(a<=b/\b<=281474976710656):=fun k=>hs ⟨w1.1,k⟩;simp (disch:=omega) only [↓aN,aQ,jh hv,iJ,w1,w2,and_self,decide_true,decide_false]
   ·simp (disch:=omega) only [↓aN,aQ,jh hv,iJ,w1,decide_false]
 ·refine z 2 ?_;unfold bV;simp only [↓aN,aQ,xH hv]
end Rt
noncomputable def coR (rs:List Ra) (fr:Int) (num:Tx) (a b:Int):Int:=match bV ((rs,fr),(num,(a,b))) with | some (c,e)=>if e=0 then c else 0 | none=>0
theorem QU (rs:List Ra) (fr:Int) (num:Tx) (a b:Int):∃c e,bV ((rs,fr),(num,(a,b)))=some (c,e)/\dH ((rs,fr),(num,(a,b)))=some (c,e)/\coR rs fr num a b=(if e=0 then c else 0)/\(0<=coR rs fr num a b/\coR rs fr num a b<=2000000000000000):=by
 obtain ⟨c,e,h1,h2,h3⟩:=Rt.ahC rs fr num a b;have h4:coR rs fr num a b=(if e=0 then c else 0):=by unfold coR;rw [h1]
 refine ⟨c,e,h1,h2,h4,?_⟩;rw [h4];split<;>omega
theorem aeH {l:List BL} (hs:QT l) {p:Nat} (hp:p<opn l):dW (l.getD p b0).1 l=p/\vI (l.getD p b0).1 l:=by
 have h1:=Je (c:=(l.getD p b0).1) hs hp;have h2:=sK (l.getD p b0).1 l;rw [LP] at h1;have h3:dW (l.getD p b0).1 l=p:=by
  by_cases h4:dW (l.getD p b0).1 l<p
  ·have h5:=(Je (c:=(l.getD p b0).1) hs (show dW (l.getD p b0).1 l<opn l by omega)).1 (hs _ _ h4 hp);omega
  ·have h5:¬p<dW (l.getD p b0).1 l:=fun h=>by have:=h1.2 h;cases this
   omega
 exact ⟨h3,by omega,by rw [h3]⟩
def ji (l:List BL) (p:Nat):List BL:=l.take p++l.drop (p+1)
theorem YP {l:List BL} {p:Nat} (h:p<l.length):(ji l p).length+1=l.length:=by
 rw [ji,List.length_append,List.length_take,List.length_drop];omega
def rcd (x:BL) (t n s co:Int):BL:=(x.1,(x.2.1,(x.2.2.1,(x.2.2.2.1,(x.2.2.2.2.1,(t,(n,(s,(co,x.2.2.2.2.2.2.2.2.2)))))))))
def OK4 (l:List BL) (last t n s:Int) (c:Tx):Prop:=vI c l/\(l.getD (dW c l) b0).2.2.2.2.2.1<=t/\((n=0/\(l.getD (dW c l) b0).2.2.2.2.1 = -1)\/(n≠0/\(l.getD (dW c l) b0).2.2.2.2.1 ≠ -1/\n=last+1/\n<=1048576/\s=Rt.SE (l.getD (dW c l) b0).2.2.2.2.1 t))
theorem aiR (g:LG) (t n s co:Int) (c f to:Tx) (hl:g.2.2.2.1.length<=1000000) (hs:QT g.2.2.2.1) (h5:0<=g.2.2.2.2.1/\g.2.2.2.2.1<=1048576) :
 (OK4 g.2.2.2.1 g.2.2.2.2.1 t n s c/\aZ (g,(4,(t,(n,(s,(co,(c,(f,to))))))))=some (Iy g (if n=0 then ji g.2.2.2.1 (dW c g.2.2.2.1) else ji g.2.2.2.1 (dW c g.2.2.2.1)++[rcd (g.2.2.2.1.getD (dW c g.2.2.2.1) b0) t n s co]) (if n=0 then g.2.2.2.2.1 else n) t,true)) \/
 (¬OK4 g.2.2.2.1 g.2.2.2.2.1 t n s c/\∃g',aZ (g,(4,(t,(n,(s,(co,(c,(f,to))))))))=some (g',false)):=by
 rw [YF];have ho:=lN g.2.2.2.1;have hF:=@aeC (LG×Bool) (Iy g g.2.2.2.1 g.2.2.2.2.1 t) c hl hs;have hN:=@aeD (LG×Bool) (Iy g g.2.2.2.1 g.2.2.2.2.1 t) c hl hs;unfold Iy at hF hN;simp only at hF hN;unfold OK4;by_cases hf:vI c g.2.2.2.1
 ·have hlt:dW c g.2.2.2.1<g.2.2.2.1.length:=by have:=hf.1;omega
  obtain ⟨x,hx,hxb⟩:=get_at b0 hlt;have hrl:=YP hlt;rw [hx];have e1:Int.toNat (((dW c g.2.2.2.1:Nat):Int)+1)=dW c g.2.2.2.1+1:=by omega
  have e2:g.2.2.2.1.take (dW c g.2.2.2.1)++g.2.2.2.1.drop (dW c g.2.2.2.1+1)=ji g.2.2.2.1 (dW c g.2.2.2.1):=rfl;rw [Int.toNat_natCast] at hxb;have hlast:IntKind.wrap .i64 (g.2.2.2.2.1+(1:Int))=g.2.2.2.2.1+1:=aj (by omega);by_cases h2:x.2.2.2.2.2.1<=t
  ·by_cases hn:n=0
   ·subst hn;by_cases ha:x.2.2.2.2.1 = -1
    ·refine .inl ⟨⟨hf,h2,.inl ⟨rfl,ha⟩⟩,?_⟩;simp (disch:=(first | omega | (simp only [bM];omega))) only [↓aN,aQ,if_pos,if_neg,↓hF hf,Int.toNat_natCast,↓hxb,aj,e1,e2,ha,decide_true];rfl
    ·refine .inr ⟨fun h=>by omega,Iy g (ji g.2.2.2.1 (dW c g.2.2.2.1)) g.2.2.2.2.1 t,?_⟩;simp (disch:=(first | omega | (simp only [bM];omega))) only [↓aN,aQ,if_pos,if_neg,↓hF hf,Int.toNat_natCast,↓hxb,aj,e1,e2,ha,decide_false];rfl
   ·by_cases h3:x.2.2.2.2.1 = -1
    ·refine .inr ⟨fun h=>by omega,Iy g g.2.2.2.1 g.2.2.2.2.1 t,?_⟩;simp (disch:=(first | omega | (simp only [bM];omega))) only [↓aN,aQ,if_pos,if_neg,↓hF hf,Int.toNat_natCast,↓hxb,aj,e1,e2];rfl
    ·by_cases h4:n=g.2.2.2.2.1+1
     ·by_cases h6:n<=1048576
      ·by_cases h7:s=Rt.SE x.2.2.2.2.1 t
       ·refine .inl ⟨⟨hf,h2,.inr ⟨hn,h3,h4,h6,h7⟩⟩,?_⟩;rw [if_neg hn,if_neg hn];simp (disch:=(first | omega | (simp only [bM];omega))) only [↓aN,aQ,if_pos,if_neg,↓hF hf,Int.toNat_natCast,↓hxb,aj,e1,e2,↓Aj];rfl
       ·refine .inr ⟨fun h=>by omega,Iy g g.2.2.2.1 g.2.2.2.2.1 t,?_⟩;simp (disch:=(first | omega | (simp only [bM];omega))) only [↓aN,aQ,if_pos,if_neg,↓hF hf,Int.toNat_natCast,↓hxb,aj,e1,e2,↓Aj];rfl
      ·refine .inr ⟨fun h=>by omega,Iy g g.2.2.2.1 g.2.2.2.2.1 t,?_⟩;simp (disch:=(first | omega | (simp only [bM];omega))) only [↓aN,aQ,if_pos,if_neg,↓hF hf,Int.toNat_natCast,↓hxb,aj,e1,e2];rfl
     ·refine .inr ⟨fun h=>by omega,Iy g g.2.2.2.1 g.2.2.2.2.1 t,?_⟩;simp (disch:=(first | omega | (simp only [bM];omega))) only [↓aN,aQ,if_pos,if_neg,↓hF hf,Int.toNat_natCast,↓hxb,hlast,aj,e1,e2];rfl
  ·refine .inr ⟨fun h=>h2 h.2.1,Iy g g.2.2.2.1 g.2.2.2.2.1 t,?_⟩;simp (disch:=(first | omega | (simp only [bM];omega))) only [↓aN,aQ,if_pos,if_neg,↓hF hf,Int.toNat_natCast,↓hxb];rfl
 ·refine .inr ⟨fun h=>hf h.1,Iy g g.2.2.2.1 g.2.2.2.2.1 t,?_⟩;simp (disch:=(first | omega | (simp only [bM];omega))) only [↓aN,aQ,if_pos,if_neg,↓hN hf];rfl
def Opb (x:BL):Prop:=(x.2.2.2.2.2.2.1=0/\x.2.2.2.2.2.2.2.1=0/\x.2.2.2.2.2.2.2.2.1=0)/\(x.2.2.2.2.1 = -1\/0<=x.2.2.2.2.1)/\x.1.length<=200
noncomputable def nmF (rs:List Ra) (fr:Int) (last:Int) (x:BL) (t:Int):Int×(Int×Int):=if x.2.2.2.2.1 ≠ -1 then (last+1,(Rt.SE x.2.2.2.2.1 t,coR rs fr x.2.2.1 x.2.2.2.2.1 t)) else (0,(0,0))
noncomputable def dE (rs:List Ra) (fr:Int) (last:Int) (x:BL) (t:Int):List Int:=Dl [t,(nmF rs fr last x t).1,(nmF rs fr last x t).2.1,(nmF rs fr last x t).2.2] [x.1]
noncomputable def Ri (rs:List Ra) (fr:Int) (l:List BL) (last:Int) (p:Nat) (t:Int):List BL:=if (l.getD p b0).2.2.2.2.1 ≠ -1 then ji l p++[rcd (l.getD p b0) t (last+1) (Rt.SE (l.getD p b0).2.2.2.2.1 t) (coR rs fr (l.getD p b0).2.2.1 (l.getD p b0).2.2.2.2.1 t)] else ji l p
def laF (l:List BL) (last:Int) (p:Nat):Int:=if (l.getD p b0).2.2.2.2.1 ≠ -1 then last+1 else last
open Classical in
noncomputable def jk (rs:List Ra) (fr:Int) (g:LG) (p:Nat) (t now:Int):LG×Int :=
 if ((g.2.2.2.1.getD p b0).2.2.2.2.1 ≠ -1/\g.2.2.2.2.1>=1048576)\/g.2.2.1>=1048576 then (zG,10) else
  ((g.1++Jn.vH g.2.2.1 4 (dE rs fr g.2.2.2.2.1 (g.2.2.2.1.getD p b0) t),(g.2.1,(g.2.2.1+1,(Ri rs fr g.2.2.2.1 g.2.2.2.2.1 p t,(laF g.2.2.2.1 g.2.2.2.2.1 p,now))))),0)
theorem aiT (rs:List Ra) (fr:Int) {last:Int} {x:BL} {t:Int} (h5:0<=last/\last<=1048576) (hx:Opb x) (ht:0<=t/\t<=1099511627776):DOk [t,(nmF rs fr last x t).1,(nmF rs fr last x t).2.1,(nmF rs fr last x t).2.2] [x.1]/\(dE rs fr last x t).length<=4096:=by
 obtain ⟨c,e,_,_,_,h6⟩:=QU rs fr x.2.2.1 x.2.2.2.2.1 t;have h7:=Rt.Lu x.2.2.2.2.1 t;have h8:=hx.2.2;refine ⟨⟨⟨by simp,fun n hn => ?_⟩,by simp,fun t ht => ?_⟩,?_⟩
 ·unfold nmF at hn;simp only [List.mem_cons,List.not_mem_nil,or_false] at hn;split at hn<;>simp only at hn<;>omega
 ·rw [List.mem_singleton] at ht;subst ht;omega
 ·rw [dE,nD];simp only [List.flatMap_cons,List.flatMap_nil,List.length_append,Ak,List.length_cons,List.length_nil];omega
theorem aiU (rs:List Ra) (fr:Int) (g:LG) {p:Nat} (t:Int) (hp:p<g.2.2.2.1.length) (hl:g.2.2.2.1.length<=1000000) (hB:g.1.length<=900000) (h1:0<=g.2.1/\g.2.1<=(g.1.length:Int)) (h2:0<=g.2.2.1) (h5:0<=g.2.2.2.2.1/\g.2.2.2.2.1<=1048576) (hx:Opb (g.2.2.2.1.getD p b0)) (ht:0<=t/\t<=1099511627776) :
 jf (g,((rs,fr),(((p:Nat):Int),t)))=some (jk rs fr g p t g.2.2.2.2.2):=by
 rw [alP];unfold jk;have hd:=aiT rs fr h5 hx ht;have hrl:=YP hp;unfold Ri laF;obtain ⟨x,hxx,hxb⟩:=get_at b0 hp;rw [hxx] at hx hd ⊢;rw [Int.toNat_natCast] at hxb;obtain ⟨c,e,c1,c2,c3,c4⟩:=QU rs fr x.2.2.1 x.2.2.2.2.1 t;have hC:∀ {β:Type} (f:Int×Int->Option β),ah (bV ((rs,fr),(x.2.2.1,(x.2.2.2.2.1,t)))) f=f (c,e):=fun f=>by rw [c1];rfl
 have hD:=fun {β:Type} (f:List BL->Option β)=>aeB (l:=g.2.2.2.1) (p:=p) (j:=((p:Nat):Int)+1) hl hp rfl f;have hrst:g.2.2.2.1.take p++g.2.2.2.1.drop (p+1)=ji g.2.2.2.1 p:=rfl;have hlast:IntKind.wrap .i64 (g.2.2.2.2.1+(1:Int))=g.2.2.2.2.1+1:=aj (by omega);have hpw:IntKind.wrap .i64 (((p:Nat):Int)+(1:Int))=((p:Nat):Int)+1:=aj (by omega);unfold dE at hd;unfold dE;by_cases ha:x.2.2.2.2.1 ≠ -1
 ·have hnm:nmF rs fr g.2.2.2.2.1 x t=(g.2.2.2.2.1+1,(Rt.SE x.2.2.2.2.1 t,coR rs fr x.2.2.1 x.2.2.2.2.1 t)):=if_pos ha;rw [hnm] at hd ⊢;simp only at hd;by_cases hq:g.2.2.2.2.1>=1048576
  ·rw [if_pos (.inl ⟨ha,hq⟩)];simp (disch:=(first | omega | (simp only [bM];omega))) only [↓aN,aQ,if_pos,Int.toNat_natCast,↓hxb,↓qh hl,hpw,↓hD];rfl
  ·by_cases hc:g.2.2.1>=1048576
   ·rw [if_pos (.inr hc)];by_cases he:e=0
    ·rw [if_pos he] at c3;rw [c3] at hd;simp (disch:=(first | omega | (simp only [bM];omega))) only [↓aN,aQ,if_pos,if_neg,Int.toNat_natCast,↓hxb,↓qh hl,hpw,↓hD,hrst,hlast,↓Iw,↓hC,he,↓sO hd.1,↓aa4 hc];rfl
    ·rw [if_neg he] at c3;rw [c3] at hd;have hz:=hx.1.2.2;simp (disch:=(first | omega | (simp only [bM];omega))) only [↓aN,aQ,if_pos,if_neg,hz,Int.toNat_natCast,↓hxb,↓qh hl,hpw,↓hD,hrst,hlast,↓Iw,↓hC,he,↓sO hd.1,↓aa4 hc];rfl
   ·rw [if_neg (by omega),if_pos ha,if_pos ha];have hlg:LX (g.1,(g.2.1,g.2.2.1)):=⟨hB,h1,h2,show g.2.2.1<1048576 by omega⟩
    by_cases he:e=0
    ·rw [if_pos he] at c3;rw [c3] at hd ⊢;simp (disch:=(first | omega | (simp only [bM];omega))) only [↓aN,aQ,if_pos,if_neg,Int.toNat_natCast,↓hxb,↓qh hl,hpw,↓hD,hrst,hlast,↓Iw,↓hC,he,↓sO hd.1,↓aa3 hlg (show (0:Int)<=4/\(4:Int)<=255 by omega) (lS _ _) hd.2];rfl
    ·rw [if_neg he] at c3;rw [c3] at hd ⊢;have hz:=hx.1.2.2;simp (disch:=(first | omega | (simp only [bM];omega))) only [↓aN,aQ,if_pos,if_neg,hz,Int.toNat_natCast,↓hxb,↓qh hl,hpw,↓hD,hrst,hlast,↓Iw,↓hC,he,↓sO hd.1,↓aa3 hlg (show (0:Int)<=4/\(4:Int)<=255 by omega) (lS _ _) hd.2];rfl
 ·have hnm:nmF rs fr g.2.2.2.2.1 x t=(0,(0,0)):=if_neg ha;rw [hnm] at hd ⊢;simp only at hd;have hz:=hx.1;by_cases hc:g.2.2.1>=1048576
  ·rw [if_pos (.inr hc)];simp (disch:=(first | omega | (simp only [bM];omega))) only [↓aN,aQ,if_pos,if_neg,Int.toNat_natCast,↓hxb,↓qh hl,hpw,↓hD,hrst,hz.1,hz.2.1,hz.2.2,↓sO hd.1,↓aa4 hc];rfl
  ·rw [if_neg (by omega),if_neg ha,if_neg ha];have hlg:LX (g.1,(g.2.1,g.2.2.1)):=⟨hB,h1,h2,show g.2.2.1<1048576 by omega⟩
   simp (disch:=(first | omega | (simp only [bM];omega))) only [↓aN,aQ,if_pos,if_neg,Int.toNat_natCast,↓hxb,↓qh hl,hpw,↓hD,hrst,hz.1,hz.2.1,hz.2.2,↓sO hd.1,↓aa3 hlg (show (0:Int)<=4/\(4:Int)<=255 by omega) (lS _ _) hd.2]
theorem ahD (rs:List Ra) (fr:Int) (g:LG) {p:Nat} (t:Int) (hp:p<opn g.2.2.2.1) (hs:QT g.2.2.2.1) (hl:g.2.2.2.1.length<=1000000) (hB:g.1.length<=900000) (h1:0<=g.2.1/\g.2.1<=(g.1.length:Int)) (h2:0<=g.2.2.1) (h5:0<=g.2.2.2.2.1/\g.2.2.2.2.1<=1048576) (hx:Opb (g.2.2.2.1.getD p b0)) (ht:0<=t/\t<=1099511627776) (hE:(g.2.2.2.1.getD p b0).2.2.2.2.2.1<=t) :
 jC (g,((rs,fr),(((p:Nat):Int),t)))=some (jk rs fr g p t (fV g.2.2.2.2.2 t)):=by
 have hp':p<g.2.2.2.1.length:=by have:=lN g.2.2.2.1;omega
 rw [alQ];unfold jk;have hd:=aiT rs fr h5 hx ht;obtain ⟨hps,hfn⟩:=aeH hs hp;have hef:=fun n s co=>aiR g t n s co (g.2.2.2.1.getD p b0).1 [] [] hl hs h5;unfold OK4 at hef;rw [hps] at hef;unfold Ri laF;obtain ⟨x,hxx,hxb⟩:=get_at b0 hp';rw [hxx] at hx hd hE hef hfn ⊢;rw [Int.toNat_natCast] at hxb;obtain ⟨c,e,c1,c2,c3,c4⟩:=QU rs fr x.2.2.1 x.2.2.2.2.1 t;have hC:∀ {β:Type} (f:Int×Int->Option β),ah (dH ((rs,fr),(x.2.2.1,(x.2.2.2.2.1,t)))) f=f (c,e):=fun f=>by rw [c2];rfl
 have hlast:IntKind.wrap .i64 (g.2.2.2.2.1+(1:Int))=g.2.2.2.2.1+1:=aj (by omega);unfold dE at hd;unfold dE;have har:∀n s co,DOk [t,n,s,co] [x.1]->um (4,(t,(n,(s,(co,(x.1,([],[])))))))=some (4,Dl [t,n,s,co] [x.1]):=fun n s co h=>by
  rw [aoU];simp (disch:=(first | omega | (simp only [bM];omega))) only [↓aN,aQ,if_pos,if_neg,↓ahx h]
 by_cases ha:x.2.2.2.2.1 ≠ -1
 ·have hnm:nmF rs fr g.2.2.2.2.1 x t=(g.2.2.2.2.1+1,(Rt.SE x.2.2.2.2.1 t,coR rs fr x.2.2.1 x.2.2.2.2.1 t)):=if_pos ha;rw [hnm] at hd ⊢;simp only at hd;have ha0:x.2.2.2.2.1>=0:=by have:=hx.2.1;omega
  by_cases he:e=0
  ·rw [if_pos he] at c3;rw [c3] at hd ⊢;subst he;by_cases hc:g.2.2.1>=1048576
   ·rw [if_pos (.inr hc)];simp (disch:=(first | omega | (simp only [bM];omega))) only [↓aN,aQ,if_pos,if_neg,Int.toNat_natCast,↓hxb,hlast,↓Aj,↓hC,↓Am];rfl
   ·by_cases hq:g.2.2.2.2.1>=1048576
    ·rw [if_pos (.inl ⟨ha,hq⟩)];simp (disch:=(first | omega | (simp only [bM];omega))) only [↓aN,aQ,if_pos,if_neg,Int.toNat_natCast,↓hxb,hlast,↓Aj,↓hC,↓Am];rfl
    ·rw [if_neg (by omega),if_pos ha,if_pos ha];have hlg:LX (g.1,(g.2.1,g.2.2.1)):=⟨hB,h1,h2,show g.2.2.1<1048576 by omega⟩
     rcases hef (g.2.2.2.2.1+1) (Rt.SE x.2.2.2.2.1 t) c with ⟨_,hee⟩ | ⟨hno,_⟩
     ·rw [if_neg (show ¬g.2.2.2.2.1+1=0 by omega),if_neg (show ¬g.2.2.2.2.1+1=0 by omega)] at hee;simp (disch:=(first | omega | (simp only [bM];omega))) only [↓aN,aQ,if_pos,if_neg,Int.toNat_natCast,↓hxb,hlast,↓Aj,↓hC,↓Am,↓WE hee (har _ _ _ hd.1) hlg (show (0:Int)<=4/\(4:Int)<=255 by omega) (lS _ _) hd.2]
     ·exact (hno ⟨hfn,hE,.inr ⟨by omega,ha,rfl,by omega,rfl⟩⟩).elim
  ·rw [if_neg he] at c3;rw [c3] at hd ⊢;by_cases hc:g.2.2.1>=1048576
   ·rw [if_pos (.inr hc)];simp (disch:=(first | omega | (simp only [bM];omega))) only [↓aN,aQ,if_pos,if_neg,Int.toNat_natCast,↓hxb,hlast,↓Aj,↓hC,↓Am];rfl
   ·by_cases hq:g.2.2.2.2.1>=1048576
    ·rw [if_pos (.inl ⟨ha,hq⟩)];simp (disch:=(first | omega | (simp only [bM];omega))) only [↓aN,aQ,if_pos,if_neg,Int.toNat_natCast,↓hxb,hlast,↓Aj,↓hC,↓Am];rfl
    ·rw [if_neg (by omega),if_pos ha,if_pos ha];have hlg:LX (g.1,(g.2.1,g.2.2.1)):=⟨hB,h1,h2,show g.2.2.1<1048576 by omega⟩
     rcases hef (g.2.2.2.2.1+1) (Rt.SE x.2.2.2.2.1 t) 0 with ⟨_,hee⟩ | ⟨hno,_⟩
     ·rw [if_neg (show ¬g.2.2.2.2.1+1=0 by omega),if_neg (show ¬g.2.2.2.2.1+1=0 by omega)] at hee;simp (disch:=(first | omega | (simp only [bM];omega))) only [↓aN,aQ,if_pos,if_neg,Int.toNat_natCast,↓hxb,hlast,↓Aj,↓hC,↓Am,↓WE hee (har _ _ _ hd.1) hlg (show (0:Int)<=4/\(4:Int)<=255 by omega) (lS _ _) hd.2]
     ·exact (hno ⟨hfn,hE,.inr ⟨by omega,ha,rfl,by omega,rfl⟩⟩).elim
 ·have hnm:nmF rs fr g.2.2.2.2.1 x t=(0,(0,0)):=if_neg ha;rw [hnm] at hd ⊢;simp only at hd;by_cases hc:g.2.2.1>=1048576
  ·rw [if_pos (.inr hc)];simp (disch:=(first | omega | (simp only [bM];omega))) only [↓aN,aQ,if_pos,if_neg,Int.toNat_natCast,↓hxb,↓Am];rfl
  ·rw [if_neg (by omega),if_neg ha,if_neg ha];have hlg:LX (g.1,(g.2.1,g.2.2.1)):=⟨hB,h1,h2,show g.2.2.1<1048576 by omega⟩
   rcases hef 0 0 0 with ⟨_,he⟩ | ⟨hno,_⟩
   ·rw [if_pos rfl,if_pos rfl] at he;simp (disch:=(first | omega | (simp only [bM];omega))) only [↓aN,aQ,if_pos,if_neg,Int.toNat_natCast,↓hxb,↓Am,↓WE he (har _ _ _ hd.1) hlg (show (0:Int)<=4/\(4:Int)<=255 by omega) (lS _ _) hd.2]
   ·exact (hno ⟨hfn,hE,.inl ⟨rfl,by omega⟩⟩).elim
set_option maxRecDepth 1000000
set_option maxHeartbeats 0
def Nb:List (Nat×PL):=[]
noncomputable def wJ:(Int×(LN×Bool))->Option (LN×(LN×Bool)):=fun (a1,(a2,a3)) =>
 bif a3 then
 some (([]:List Int),(a2,true))
 else
 bif (decide ((a2.length:Int)<a1)) then
 some (([]:List Int),(a2,true))
 else
 bif (decide (((0:Int)<=a1)/\(a1<=(a2.length:Int)))) then
 bif (decide (((0:Int)<=a1)/\(a1<=(a2.length:Int)))) then
 some ((List.take a1.toNat a2),((List.drop a1.toNat a2),a3))
 else none
 else none
noncomputable def Nc:List (Nat×CE):=[]
theorem Gx:dD Tryz.prog Nc:=trivial
noncomputable def Ap:CE:=⟨[.tmp 0 false [.pt 20000010 0],.tmp 1 false [.dat bT],.mix 20000010 [.dat (.list qm),.dat .bool]],[.tmp 0 false [dY],.mix 20000010 [dY,dO]],wJ⟩
theorem ER:aS Tryz.prog 66 Ap :=
 tC (pR (plan:=wG Nb) (eg:=dR) KK qX (nX Gx) Tryz.func66 (by kernel_rfl) (by kernel_rfl) 10000 (fun a r h=>Eq.trans (show _=wJ a from by kernel_rfl) h)) (by rfl)
def IW:List (Nat×PL):=[(134480385,(.carry [.tmp 3 false [(.dat (.int .u64))],.mix 20000010 [dY,dO]])),(18049651601311750,(.carry [.tmp 9 false [dI],.tmp 3 false [(.dat (.int .u64))]]))]
noncomputable def qj:(LN×Bool)->Option (Int×(LN×Bool)):=fun (a1,a2) =>
 aB (ah (wJ ((8:Int),(a1,a2))) fun (x4,(x5,x6)) =>
 aA (fun (v7,v8) =>
 bif (decide (v7<(x4.length:Int))) then
 bif (decide (((0:Int)<=v7)/\(v7<(x4.length:Int)))) then
 ah x4[v7.toNat]? fun x9 =>
 some (Sum.inl ((IntKind.wrap .i64 (v7+(1:Int))),(IntKind.wrap .u64 (((BitVec.toNat ((BitVec.ofInt 64 (IntKind.wrap .u64 (v8*(256:Int)))) ||| (BitVec.ofInt 64 (IntKind.wrap .u64 x9)))):Nat):Int))))
 else none
 else
 au (some (Sum.inl (v8,(x5,x6))))) ((0:Int),(0:Int))) fun (v14,(v15,v16)) =>
 some (v14,(v15,v16))
noncomputable def IX:List (Nat×CE):=[(66,Ap)]
theorem Dn:dD Tryz.prog IX:=⟨ER,trivial⟩
noncomputable def BR:CE:=⟨[.tmp 0 false [.pt 20000010 0],.mix 20000010 [.dat (.list qm),.dat .bool]],[.tmp 0 false [(.dat (.int .u64))],.mix 20000010 [dY,dO]],qj⟩
theorem LY:aS Tryz.prog 41 BR :=
 tC (pR (plan:=wG IW) (eg:=dR) KK qX (nX Dn) Tryz.func41 (by kernel_rfl) (by kernel_rfl) 10000 (fun a r h=>Eq.trans (show _=qj a from by kernel_rfl) h)) (by rfl)
def Nh:List (Nat×PL):=[(134480385,(.carry [.tmp 3 false [dI],.mix 20000010 [dY,dO]])),(18049651601311750,(.carry [.tmp 9 false [dI],.tmp 3 false [dI]]))]
noncomputable def wK:(LN×Bool)->Option (LU×(LN×Bool)):=fun (a1,a2) =>
 aB (ah (wJ ((2:Int),(a1,a2))) fun (x4,(x5,x6)) =>
 aA (fun (v7,v8) =>
 bif (decide (v7<(x4.length:Int))) then
 bif (decide (((0:Int)<=v7)/\(v7<(x4.length:Int)))) then
 ah x4[v7.toNat]? fun x9 =>
 some (Sum.inl ((IntKind.wrap .i64 (v7+(1:Int))),(IntKind.wrap .i64 (((BitVec.toNat ((BitVec.ofInt 64 (IntKind.wrap .i64 (v8*(256:Int)))) ||| (BitVec.ofInt 64 (IntKind.wrap .i64 x9)))):Nat):Int))))
 else none
 else
 au (some (Sum.inl (v8,(x5,x6))))) ((0:Int),(0:Int))) fun (v14,(v15,v16)) =>
 ah (wJ (v14,(v15,v16))) fun (x18,(x19,x20)) =>
 some ((jS x18),(x19,x20))
noncomputable def Nj:List (Nat×CE):=[(66,Ap)]
theorem Gy:dD Tryz.prog Nj:=⟨ER,trivial⟩
noncomputable def Iz:CE:=⟨[.tmp 0 false [.pt 20000010 0],.mix 20000010 [.dat (.list qm),.dat .bool]],[.tmp 0 false [dS],.mix 20000010 [dY,dO]],wK⟩
theorem QV:aS Tryz.prog 44 Iz :=
 tC (pR (plan:=wG Nh) (eg:=dR) KK qX (nX Gy) Tryz.func44 (by kernel_rfl) (by kernel_rfl) 10000 (fun a r h=>Eq.trans (show _=wK a from by kernel_rfl) h)) (by rfl)
def LZ:List (Nat×PL):=[]
noncomputable def tK:(LN×Bool)->Option Bool:=fun (a1,a2) =>
 bif (!a2) then
 some (decide ((a1.length:Int)=(0:Int)))
 else
 some false
noncomputable def L6:List (Nat×CE):=[]
theorem ES:dD Tryz.prog L6:=trivial
noncomputable def ET:CE:=⟨[.tmp 0 false [.pt 20000010 0],.mix 20000010 [.dat (.list qm),.dat .bool]],[.tmp 0 false [dO]],tK⟩
theorem Nk:aS Tryz.prog 42 ET :=
 tC (pR (plan:=wG LZ) (eg:=dR) KK qX (nX ES) Tryz.func42 (by kernel_rfl) (by kernel_rfl) 10000 (fun a r h=>Eq.trans (show _=tK a from by kernel_rfl) h)) (by rfl)
def Nl:List (Nat×PL):=[]
noncomputable def Gz:(Int×((List jK)×((List jK)×(Int×Int))))->Option (Bool×(List jK)):=fun (a1,(a2,(a3,(a4,a5)))) =>
 bif (decide (a1<(1:Int))) then
 some (false,a3)
 else
 bif (decide (a1 > (IntKind.wrap .u64 (a3.length:Int)))) then
 some (false,a3)
 else
 ah (some (IntKind.wrap .u64 (a1-(1:Int)))) fun x7 =>
 bif (decide (((0:Int)<=x7)/\(x7<(a3.length:Int)))) then
 ah a3[x7.toNat]? fun x8 =>
 bif x8.2.2.2.2.2.2.2.2.2 then
 some (false,a3)
 else
 ah (some (IntKind.wrap .u64 (a1-(1:Int)))) fun x9 =>
 bif (decide (((0:Int)<=x9)/\(x9<(a3.length:Int)))) then
 ah a3[x9.toNat]? fun x10 =>
 some (true,(List.set a3 x9.toNat (x10.1,(x10.2.1,(x10.2.2.1,(x10.2.2.2.1,(x10.2.2.2.2.1,(x10.2.2.2.2.2.1,(x10.2.2.2.2.2.2.1,(x10.2.2.2.2.2.2.2.1,(x10.2.2.2.2.2.2.2.2.1,true)))))))))))
 else none
 else none
noncomputable def Np:List (Nat×CE):=[]
theorem GH:dD Tryz.prog Np:=trivial
noncomputable def IB:CE:=⟨[.tmp 0 false [.pt 20000020 0],.tmp 1 false [.dat (.int .u64)],.mix 20000020 [.own 20000021 41 pU,.own 20000022 41 pU,.dat bT,.dat bT]],[.tmp 0 false [dO],.row 20000022 41 oD],Gz⟩
theorem QW:aS Tryz.prog 43 IB :=
 tC (pR (plan:=wG Nl) (eg:=dR) KK qX (nX GH) Tryz.func43 (by kernel_rfl) (by kernel_rfl) 10000 (fun a r h=>Eq.trans (show _=Gz a from by kernel_rfl) h)) (by rfl)
def L8:List (Nat×PL):=[(134480385,(.carry []))]
noncomputable def Bv:(Int×(LU×(LU×(LU×((List jK)×((List jK)×(Int×Int)))))))->Option (Bool×((List jK)×((List jK)×(Int×Int)))):=fun (a1,(a2,(a3,(a4,(a5,(a6,(a7,a8))))))) =>
 bif (decide (a5.length<=a5.length)) then
 ah (iY ((a5.take a5.length),a2)) fun (x10,x11) =>
 aB (bif x11 then
 au (bif ((decide (a5.length<=a5.length))&&(decide (a6.length<=a6.length))) then
 some (false,((a5.take a5.length),((a6.take a6.length),(a7,a8))))
 else none)
 else
 bif (decide ((a5.length:Int)>=(256:Int))) then
 au (bif ((decide (a5.length<=a5.length))&&(decide (a6.length<=a6.length))) then
 some (false,((a5.take a5.length),((a6.take a6.length),(a7,a8))))
 else none)
 else
 ah (bF ((a2.length:Int),((1:Int),(200:Int)))) fun x12 =>
 bif (!x12) then
 au (bif ((decide (a5.length<=a5.length))&&(decide (a6.length<=a6.length))) then
 some (false,((a5.take a5.length),((a6.take a6.length),(a7,a8))))
 else none)
 else
 bif (decide ((a3.length:Int) > (200:Int))) then
 au (bif ((decide (a5.length<=a5.length))&&(decide (a6.length<=a6.length))) then
 some (false,((a5.take a5.length),((a6.take a6.length),(a7,a8))))
 else none)
 else
 bif (decide ((a4.length:Int) > (200:Int))) then
 au (bif ((decide (a5.length<=a5.length))&&(decide (a6.length<=a6.length))) then
 some (false,((a5.take a5.length),((a6.take a6.length),(a7,a8))))
 else none)
 else
 some (Sum.inl ())) fun _ =>
 ah (nY (a1,(a2,(a3,a4)))) fun (x14,(x15,(x16,(x17,(x18,(x19,(x20,(x21,(x22,x23))))))))) =>
 bif ((decide (a5.length=a5.length))&&true) then
 ah (Qx (a5,(x10,((x14,(x15,(x16,(x17,(x18,(x19,(x20,(x21,(x22,x23)))))))))::([]:List jK))))) fun x24 =>
 bif ((decide (x24.length<=x24.length))&&(decide (a6.length<=a6.length))) then
 some (true,((x24.take x24.length),((a6.take a6.length),(a7,a8))))
 else none
 else none
 else none
noncomputable def L9:List (Nat×CE):=[(1000000032,Lr),(17,Uf),(60,ad5),(34,akX)]
theorem EU:dD Tryz.prog L9:=⟨XY,Lp,Yr,aiz,trivial⟩
noncomputable def EW:CE:=⟨[.tmp 0 false [.pt 20000020 0],.tmp 1 false [.dat bT],.tmp 2 false [.dat .str],.tmp 3 false [.dat .str],.tmp 4 false [.dat .str],.mix 20000020 [.own 20000021 41 pU,.own 20000022 41 pU,.dat bT,.dat bT]],[.tmp 0 false [dO],.mix 20000020 [(.own 10000001 41 oD),(.own 10000002 41 oD),dI,dI],.dead 20000021,.dead 20000022],Bv⟩
theorem Nq:aS Tryz.prog 45 EW :=
 tC (pR (plan:=wG L8) (eg:=dR) KK qX (nX EU) Tryz.func45 (by kernel_rfl) (by kernel_rfl) 10000 (fun a r h=>Eq.trans (show _=Bv a from by kernel_rfl) h)) (by rfl)
def Mc:List (Nat×PL):=[]
noncomputable def Bz:(Int×(Int×(LU×((List jK)×((List jK)×(Int×Int))))))->Option (Bool×(List jK)):=fun (a1,(a2,(a3,(a4,(a5,(a6,a7)))))) =>
 bif (decide (a4.length<=a4.length)) then
 ah (iY ((a4.take a4.length),a3)) fun (x9,x10) =>
 bif (!x10) then
 some (false,a4)
 else
 bif (decide (((0:Int)<=x9)/\(x9<(a4.length:Int)))) then
 ah a4[x9.toNat]? fun x11 =>
 bif (decide (a2<x11.2.2.2.2.2.1)) then
 some (false,a4)
 else
 bif (decide (a1=(2:Int))) then
 bif (decide (((0:Int)<=x9)/\(x9<(a4.length:Int)))) then
 ah a4[x9.toNat]? fun x12 =>
 bif (decide (x12.2.2.2.2.1≠(-1:Int))) then
 some (false,a4)
 else
 bif (decide (((0:Int)<=x9)/\(x9<(a4.length:Int)))) then
 ah a4[x9.toNat]? fun x13 =>
 bif (decide (((0:Int)<=x9)/\(x9<(a4.length:Int)))) then
 ah (List.set a4 x9.toNat (x13.1,(x13.2.1,(x13.2.2.1,(x13.2.2.2.1,(a2,(x13.2.2.2.2.2.1,(x13.2.2.2.2.2.2.1,(x13.2.2.2.2.2.2.2.1,(x13.2.2.2.2.2.2.2.2.1,x13.2.2.2.2.2.2.2.2.2))))))))))[x9.toNat]? fun x14 =>
 some (true,(List.set (List.set a4 x9.toNat (x13.1,(x13.2.1,(x13.2.2.1,(x13.2.2.2.1,(a2,(x13.2.2.2.2.2.1,(x13.2.2.2.2.2.2.1,(x13.2.2.2.2.2.2.2.1,(x13.2.2.2.2.2.2.2.2.1,x13.2.2.2.2.2.2.2.2.2)))))))))) x9.toNat (x14.1,(x14.2.1,(x14.2.2.1,(x14.2.2.2.1,(x14.2.2.2.2.1,(a2,(x14.2.2.2.2.2.2.1,(x14.2.2.2.2.2.2.2.1,(x14.2.2.2.2.2.2.2.2.1,x14.2.2.2.2.2.2.2.2.2)))))))))))
 else none
 else none
 else none
 else
 bif (decide (((0:Int)<=x9)/\(x9<(a4.length:Int)))) then
 ah a4[x9.toNat]? fun x15 =>
 some (true,(List.set a4 x9.toNat (x15.1,(x15.2.1,(x15.2.2.1,(x15.2.2.2.1,(x15.2.2.2.2.1,(a2,(x15.2.2.2.2.2.2.1,(x15.2.2.2.2.2.2.2.1,(x15.2.2.2.2.2.2.2.2.1,x15.2.2.2.2.2.2.2.2.2)))))))))))
 else none
 else none
 else none
noncomputable def Md:List (Nat×CE):=[(60,ad5)]
theorem EX:dD Tryz.prog Md:=⟨Yr,trivial⟩
noncomputable def EY:CE:=⟨[.tmp 0 false [.pt 20000020 0],.tmp 1 false [.dat qm],.tmp 2 false [.dat bT],.tmp 3 false [.dat .str],.mix 20000020 [.own 20000021 41 pU,.own 20000022 41 pU,.dat bT,.dat bT]],[.tmp 0 false [dO],.row 20000021 41 oD],Bz⟩
theorem Nr:aS Tryz.prog 46 EY :=
 tC (pR (plan:=wG Mc) (eg:=dR) KK qX (nX EX) Tryz.func46 (by kernel_rfl) (by kernel_rfl) 10000 (fun a r h=>Eq.trans (show _=Bz a from by kernel_rfl) h)) (by rfl)
def QX:List (Nat×PL):=[(4731607904558101300225,(.carry [])),(18049651735527937,(.carry []))]
noncomputable def O9:(Int×(Int×(Int×(Int×(LU×((List jK)×((List jK)×(Int×Int))))))))->Option (Bool×((List jK)×((List jK)×(Int×Int)))):=fun (a1,(a2,(a3,(a4,(a5,(a6,(a7,(a8,a9)))))))) =>
 bif (decide (a6.length<=a6.length)) then
 ah (iY ((a6.take a6.length),a5)) fun (x11,x12) =>
 bif (!x12) then
 bif ((decide (a6.length<=a6.length))&&(decide (a7.length<=a7.length))) then
 some (false,((a6.take a6.length),((a7.take a7.length),(a8,a9))))
 else none
 else
 bif (decide (((0:Int)<=x11)/\(x11<(a6.length:Int)))) then
 ah a6[x11.toNat]? fun x13 =>
 bif (decide (a1<x13.2.2.2.2.2.1)) then
 bif ((decide (a6.length<=a6.length))&&(decide (a7.length<=a7.length))) then
 some (false,((a6.take a6.length),((a7.take a7.length),(a8,a9))))
 else none
 else
 bif (decide (((0:Int)<=x11)/\(x11<(a6.length:Int)))) then
 ah a6[x11.toNat]? fun x14 =>
 bif (decide (a2=(0:Int))) then
 aB (bif (decide (a3≠(0:Int))) then
 au (bif ((decide (a6.length<=a6.length))&&(decide (a7.length<=a7.length))) then
 some (false,((a6.take a6.length),((a7.take a7.length),(a8,a9))))
 else none)
 else
 bif (decide (a4≠(0:Int))) then
 au (bif ((decide (a6.length<=a6.length))&&(decide (a7.length<=a7.length))) then
 some (false,((a6.take a6.length),((a7.take a7.length),(a8,a9))))
 else none)
 else
 bif (decide (x14.2.2.2.2.1≠(-1:Int))) then
 au (bif ((decide (a6.length<=a6.length))&&(decide (a7.length<=a7.length))) then
 some (false,((a6.take a6.length),((a7.take a7.length),(a8,a9))))
 else none)
 else
 some (Sum.inl ())) fun _ =>
 bif (decide (a6.length=a6.length)) then
 ah (MZ (a6,(x11,(IntKind.wrap .i64 (x11+(1:Int)))))) fun x16 =>
 bif ((decide (x16.length<=x16.length))&&(decide (a7.length<=a7.length))) then
 some (true,((x16.take x16.length),((a7.take a7.length),(a8,a9))))
 else none
 else none
 else
 aB (bif (decide (x14.2.2.2.2.1=(-1:Int))) then
 au (bif ((decide (a6.length<=a6.length))&&(decide (a7.length<=a7.length))) then
 some (false,((a6.take a6.length),((a7.take a7.length),(a8,a9))))
 else none)
 else
 bif (decide (a2≠(IntKind.wrap .u64 (IntKind.wrap .i64 (a8+(1:Int)))))) then
 au (bif ((decide (a6.length<=a6.length))&&(decide (a7.length<=a7.length))) then
 some (false,((a6.take a6.length),((a7.take a7.length),(a8,a9))))
 else none)
 else
 bif (decide (a2 > (1048576:Int))) then
 au (bif ((decide (a6.length<=a6.length))&&(decide (a7.length<=a7.length))) then
 some (false,((a6.take a6.length),((a7.take a7.length),(a8,a9))))
 else none)
 else
 some (Sum.inl ())) fun _ =>
 ah (cZ (x14.2.2.2.2.1,a1)) fun x19 =>
 bif (decide (a3≠(IntKind.wrap .u64 x19))) then
 bif ((decide (a6.length<=a6.length))&&(decide (a7.length<=a7.length))) then
 some (false,((a6.take a6.length),((a7.take a7.length),(a8,a9))))
 else none
 else
 bif (decide ((IntKind.wrap .i64 a4)<(0:Int))) then
 bif ((decide (a6.length<=a6.length))&&(decide (a7.length<=a7.length))) then
 some (false,((a6.take a6.length),((a7.take a7.length),(a8,a9))))
 else none
 else
 ah (some (IntKind.wrap .i64 (a8+(1:Int)))) fun x22 =>
 bif (decide (a6.length=a6.length)) then
 ah (MZ (a6,(x11,(IntKind.wrap .i64 (x11+(1:Int)))))) fun x24 =>
 bif (decide (a7.length<=a7.length)) then
 bif (decide (((List.length ((a7.take a7.length)++((x14.1,(x14.2.1,(x14.2.2.1,(x14.2.2.2.1,(x14.2.2.2.2.1,(a1,(x22,(x19,((IntKind.wrap .i64 a4),x14.2.2.2.2.2.2.2.2.2)))))))))::([]:List jK))))*104)<=140737488355328)) then
 ah (some ((a7.take a7.length)++((x14.1,(x14.2.1,(x14.2.2.1,(x14.2.2.2.1,(x14.2.2.2.2.1,(a1,(x22,(x19,((IntKind.wrap .i64 a4),x14.2.2.2.2.2.2.2.2.2)))))))))::([]:List jK)))) fun x25 =>
 bif ((decide (x24.length<=x24.length))&&(decide (x25.length<=x25.length))) then
 some (true,((x24.take x24.length),((x25.take x25.length),(x22,a9))))
 else none
 else none
 else none
 else none
 else none
 else none
 else none
noncomputable def QY:List (Nat×CE):=[(50,akJ),(1000000049,Ls),(60,ad5)]
theorem IY:dD Tryz.prog QY:=⟨TT,XZ,Yr,trivial⟩
noncomputable def Me:CE:=⟨[.tmp 0 false [.pt 20000020 0],.tmp 1 false [.dat bT],.tmp 2 false [.dat (.int .u64)],.tmp 3 false [.dat (.int .u64)],.tmp 4 false [.dat (.int .u64)],.tmp 5 false [.dat .str],.mix 20000020 [.own 20000021 41 pU,.own 20000022 41 pU,.dat bT,.dat bT]],[.tmp 0 false [dO],.mix 20000020 [(.own 10000001 41 oD),(.own 10000002 41 oD),dI,dI],.dead 20000022,.dead 20000021],O9⟩
theorem Us:aS Tryz.prog 47 Me :=
 tC (pR (plan:=wG QX) (eg:=dR) KK qX (nX IY) Tryz.func47 (by kernel_rfl) (by kernel_rfl) 10000 (fun a r h=>Eq.trans (show _=O9 a from by kernel_rfl) h)) (by rfl)
def MB:List (Nat×PL):=[(4731607904558235517441,(.carry [.tmp 8 false [dO],.mix 5 [dY,dO],.mix 20000020 [(.own 10000001 41 oD),(.own 10000002 41 oD),dI,dI],.dead 20000021,.dead 20000022])),(166478653092435647486938694421841409,(.carry [.tmp 63 false [dO]]))]
noncomputable def BD:((Int×LN)×((List jK)×((List jK)×(Int×Int))))->Option (Bool×((List jK)×((List jK)×(Int×Int)))):=fun ((a1,a2),(a3,(a4,(a5,a6)))) =>
 ah (qj (a2,false)) fun (x8,(x9,x10)) =>
 bif (decide (a1=(5:Int))) then
 ah (tK (x9,x10)) fun x11 =>
 bif x11 then
 bif ((decide (a3.length=a3.length))&&(decide (a4.length=a4.length))) then
 ah (Gz (x8,(a3,(a4,(a5,a6))))) fun (x13,x14) =>
 bif ((decide (a3.length<=a3.length))&&(decide (a4.length<=x14.length))) then
 some (x13,((a3.take a3.length),((List.take a4.length x14),(a5,a6))))
 else none
 else none
 else
 bif ((decide (a3.length<=a3.length))&&(decide (a4.length<=a4.length))) then
 some (false,((a3.take a3.length),((a4.take a4.length),(a5,a6))))
 else none
 else
 bif x10 then
 bif ((decide (a3.length<=a3.length))&&(decide (a4.length<=a4.length))) then
 some (false,((a3.take a3.length),((a4.take a4.length),(a5,a6))))
 else none
 else
 bif (decide (x8 > (1099511627776:Int))) then
 bif ((decide (a3.length<=a3.length))&&(decide (a4.length<=a4.length))) then
 some (false,((a3.take a3.length),((a4.take a4.length),(a5,a6))))
 else none
 else
 aB (bif (decide (a1=(1:Int))) then
 ah (wK (x9,x10)) fun (x17,(x18,x19)) =>
 ah (wK (x18,x19)) fun (x21,(x22,x23)) =>
 ah (wK (x22,x23)) fun (x25,(x26,x27)) =>
 ah (tK (x26,x27)) fun x28 =>
 bif x28 then
 bif ((decide (a3.length=a3.length))&&(decide (a4.length=a4.length))) then
 ah (Bv ((IntKind.wrap .i64 x8),(x17,(x21,(x25,(a3,(a4,(a5,a6)))))))) fun (x30,(x31,(x32,(x33,x34)))) =>
 bif ((decide (x31.length<=x31.length))&&(decide (x32.length<=x32.length))) then
 some (Sum.inl (x30,((x26,x27),((x31.take x31.length),((x32.take x32.length),(x33,x34))))))
 else none
 else none
 else
 bif ((decide (a3.length<=a3.length))&&(decide (a4.length<=a4.length))) then
 some (Sum.inl (false,((x26,x27),((a3.take a3.length),((a4.take a4.length),(a5,a6))))))
 else none
 else
 aB (bif (decide (a1=(2:Int))) then
 some (Sum.inl true)
 else
 some (Sum.inl (decide (a1=(3:Int))))) fun v35 =>
 bif v35 then
 ah (wK (x9,x10)) fun (x37,(x38,x39)) =>
 ah (tK (x38,x39)) fun x40 =>
 bif x40 then
 bif ((decide (a3.length=a3.length))&&(decide (a4.length=a4.length))) then
 ah (Bz (a1,((IntKind.wrap .i64 x8),(x37,(a3,(a4,(a5,a6))))))) fun (x42,x43) =>
 bif ((decide (a3.length<=x43.length))&&(decide (a4.length<=a4.length))) then
 some (Sum.inl (x42,((x38,x39),((List.take a3.length x43),((a4.take a4.length),(a5,a6))))))
 else none
 else none
 else
 bif ((decide (a3.length<=a3.length))&&(decide (a4.length<=a4.length))) then
 some (Sum.inl (false,((x38,x39),((a3.take a3.length),((a4.take a4.length),(a5,a6))))))
 else none
 else
 bif (decide (a1=(4:Int))) then
 ah (qj (x9,x10)) fun (x45,(x46,x47)) =>
 ah (qj (x46,x47)) fun (x49,(x50,x51)) =>
 ah (qj (x50,x51)) fun (x53,(x54,x55)) =>
 ah (wK (x54,x55)) fun (x57,(x58,x59)) =>
 ah (tK (x58,x59)) fun x60 =>
 bif x60 then
 bif ((decide (a3.length=a3.length))&&(decide (a4.length=a4.length))) then
 ah (O9 ((IntKind.wrap .i64 x8),(x45,(x49,(x53,(x57,(a3,(a4,(a5,a6))))))))) fun (x62,(x63,(x64,(x65,x66)))) =>
 bif ((decide (x63.length<=x63.length))&&(decide (x64.length<=x64.length))) then
 some (Sum.inl (x62,((x58,x59),((x63.take x63.length),((x64.take x64.length),(x65,x66))))))
 else none
 else none
 else
 bif ((decide (a3.length<=a3.length))&&(decide (a4.length<=a4.length))) then
 some (Sum.inl (false,((x58,x59),((a3.take a3.length),((a4.take a4.length),(a5,a6))))))
 else none
 else
 bif ((decide (a3.length<=a3.length))&&(decide (a4.length<=a4.length))) then
 some (Sum.inl (false,((x9,x10),((a3.take a3.length),((a4.take a4.length),(a5,a6))))))
 else none) fun (v67,((v68,v69),(v70,(v71,(v72,v73))))) =>
 bif v67 then
 bif ((decide (v70.length<=v70.length))&&(decide (v71.length<=v71.length))) then
 some (v67,((v70.take v70.length),((v71.take v71.length),(v72,(fV v73 (IntKind.wrap .i64 x8))))))
 else none
 else
 bif ((decide (v70.length<=v70.length))&&(decide (v71.length<=v71.length))) then
 some (v67,((v70.take v70.length),((v71.take v71.length),(v72,v73))))
 else none
noncomputable def MC:List (Nat×CE):=[(41,BR),(44,Iz),(42,ET),(43,IB),(45,EW),(46,EY),(47,Me)]
theorem EZ:dD Tryz.prog MC:=⟨LY,QV,Nk,QW,Nq,Nr,Us,trivial⟩
noncomputable def E8:CE:=⟨[.tmp 0 false [.pt 20000020 0],.tmp 1 true [.dat qm,.dat (.list qm)],.mix 20000020 [.own 20000021 41 pU,.own 20000022 41 pU,.dat bT,.dat bT]],[.tmp 0 false [dO],.mix 20000020 [(.own 10000003 41 oD),(.own 10000004 41 oD),dI,dI],.dead 20000021,.dead 20000022],BD⟩
theorem Ns:aS Tryz.prog 19 E8 :=
 tC (pR (plan:=wG MB) (eg:=dR) KK qX (nX EZ) Tryz.func19 (by kernel_rfl) (by kernel_rfl) 10000 (fun a r h=>Eq.trans (show _=BD a from by kernel_rfl) h)) (by rfl)
def ao2:List (Nat×PL):=[(35253226045953,(.carry [.mix 20 [(.own 10000003 41 oD),(.own 10000004 41 oD),dI,dI]])),(4731607904558101301254,(.carry [.tmp 34 false [dI],.mix 20 [(.own 10000001 41 oD),(.own 10000002 41 oD),dI,dI]])),(4731607904558235516954,(.carry [.tmp 0 false [(.own 10000005 41 oD)]])),(635065662736647214774471623169,(.carry [.tmp 3 false [dI]])),(85237070383327051504557613662081386502,(.carry [.tmp 11 false [dI],.tmp 3 false [dI]])),(166478653092435647469839089184014849,(.carry [.tmp 6 false [(.own 10000007 41 oD)],.dead 52])),(22344386578566886589610751075867846817089542,(.carry [.tmp 27 false [dI],.tmp 6 false [(.own 10000006 41 oD)],.dead 52])),(4731607904558235517441,(.carry [.mix 45 [dY,dI,dI,(.dat (.list oD)),dI,dI],.dead 10000005])),(635065662736647214839701440518,(.carry [.tmp 73 false [dI],.mix 45 [dY,dI,dI,(.dat (.list oD)),dI,dI],.dead 10000005]))]
noncomputable def kE:(LN×(((List (LU×(Int×(Int×(Int×(List ((Int×(Int×Int))×(Int×Int))))))))×Int)×Int))->Option ((BN)×Int):=fun (a1,((a2,a3),a4)) =>
 ah (bC (a2,a3)) fun x5 =>
 bif (!x5) then
 some ((([]:List Int),((0:Int),((0:Int),(([]:List jK),((0:Int),(0:Int)))))),(2:Int))
 else
 ah (bF (a4,((0:Int),(1099511627776:Int)))) fun x6 =>
 bif (!x6) then
 some ((([]:List Int),((0:Int),((0:Int),(([]:List jK),((0:Int),(0:Int)))))),(2:Int))
 else
 ah (jv a1) fun ((x8,(x9,x10)),x11) =>
 aB (aA (fun (v12,(v13,(v14,(v15,v16)))) =>
 bif (decide (v12<(x11.length:Int))) then
 bif (decide (((0:Int)<=v12)/\(v12<(x11.length:Int)))) then
 ah x11[v12.toNat]? fun x17 =>
 bif ((decide (v13.length=v13.length))&&(decide (v14.length=v14.length))) then
 ah (BD ((x17.1,x17.2),(v13,(v14,(v15,v16))))) fun (x19,(x20,(x21,(x22,x23)))) =>
 bif (!x19) then
 au (au (some ((([]:List Int),((0:Int),((0:Int),(([]:List jK),((0:Int),(0:Int)))))),(5:Int))))
 else
 bif ((decide (x20.length<=x20.length))&&(decide (x21.length<=x21.length))) then
 some (Sum.inl ((IntKind.wrap .i64 (v12+(1:Int))),((x20.take x20.length),((x21.take x21.length),(x22,x23)))))
 else none
 else none
 else none
 else
 au (bif ((decide (v13.length<=v13.length))&&(decide (v14.length<=v14.length))) then
 some (Sum.inl ((v13.take v13.length),((v14.take v14.length),(v15,v16))))
 else none)) ((0:Int),(([]:List jK),(([]:List jK),((0:Int),(0:Int)))))) fun (v25,(v26,(v27,v28))) =>
 bif (decide (a4<v28)) then
 some ((([]:List Int),((0:Int),((0:Int),(([]:List jK),((0:Int),(0:Int)))))),(9:Int))
 else
 bif ((decide (v25.length<=v25.length))&&(decide (v26.length<=v26.length))) then
 aB (aB (aA (fun (v29,v30) =>
 bif (decide (v29<(2:Int))) then
 bif (decide (((0:Int)<=v29)/\(v29<(2:Int)))) then
 ah ((v25.take v25.length)::((v26.take v26.length)::([]:List (List jK))))[v29.toNat]? fun x31 =>
 ah (some (IntKind.wrap .i64 (v30+(x31.length:Int)))) fun x32 =>
 bif (decide (x32<(0:Int))) then
 none
 else
 some (Sum.inl ((IntKind.wrap .i64 (v29+(1:Int))),x32))
 else none
 else
 au (some (Sum.inl v30))) ((0:Int),(0:Int))) fun v34 =>
 ah (Ig v34) fun x35 =>
 aB (bif (decide (x35.length<=x35.length)) then
 aA (fun (v36,v37) =>
 bif (decide (v36<(2:Int))) then
 bif (decide (((0:Int)<=v36)/\(v36<(2:Int)))) then
 ah ((v25.take v25.length)::((v26.take v26.length)::([]:List (List jK))))[v36.toNat]? fun x38 =>
 bif (decide (v37.length<=v37.length)) then
 bif (decide (((List.length ((v37.take v37.length)++x38))*104)<=140737488355328)) then
 ah (some ((v37.take v37.length)++x38)) fun x39 =>
 bif (decide (x39.length<=x39.length)) then
 some (Sum.inl ((IntKind.wrap .i64 (v36+(1:Int))),(x39.take x39.length)))
 else none
 else none
 else none
 else none
 else
 au (bif (decide (v37.length<=v37.length)) then
 some (Sum.inl (v37.take v37.length))
 else none)) ((0:Int),(x35.take x35.length))
 else none) fun v41 =>
 bif (decide (v41.length<=v41.length)) then
 some (Sum.inl (v41.take v41.length))
 else none) fun v42 =>
 aB (bif (decide (v42.length<=v42.length)) then
 aA (fun (v43,(v44,(v45,(v46,(v47,(v48,v49)))))) =>
 bif (decide (v43<(v25.length:Int))) then
 bif (decide (((0:Int)<=(0:Int))/\((0:Int)<(v47.length:Int)))) then
 ah v47[0]? fun x50 =>
 ah (jf ((v44,(v45,(v46,(v47,(v48,v49))))),((a2,a3),((0:Int),x50.2.2.2.2.2.1)))) fun ((x52,(x53,(x54,(x55,(x56,x57))))),x58) =>
 bif (decide (x58≠(0:Int))) then
 au (au (some ((([]:List Int),((0:Int),((0:Int),(([]:List jK),((0:Int),(0:Int)))))),x58)))
 else
 some (Sum.inl ((IntKind.wrap .i64 (v43+(1:Int))),(x52,(x53,(x54,(x55,(x56,x57)))))))
 else none
 else
 au (some (Sum.inl (v44,(v45,(v46,(v47,(v48,v49)))))))) ((0:Int),(x8,(x9,(x10,((v42.take v42.length),(v27,a4))))))
 else none) fun (v60,(v61,(v62,(v63,(v64,v65))))) =>
 some ((v60,(v61,(v62,(v63,(v64,v65))))),(0:Int))
 else none
noncomputable def ao3:CE:=⟨[(.tmp 0 false [dY])],[(.tmp 0 true [dY,dI,dI]),(.tmp 1 false [(.dat (.list (.pair qm (.list qm))))])],jv⟩
noncomputable def Ut:CE:=⟨[.tmp 0 false [.nil],.tmp 1 false [.dat bT]],[.tmp 0 false [.own 20000003 41 pU]],Ig⟩
noncomputable def ao4:List (Nat×CE):=[(16,anX),(18,ao3),(48,Ut),(17,Uf),(21,ak4),(19,E8)]
theorem aeJ:dD Tryz.prog ao4:=⟨X6,adW,ads,Lp,aiA,Ns,trivial⟩
noncomputable def ce6:CE:=⟨[(.tmp 0 false [dY]),(.tmp 1 true [(.dat (.list (.pair .str (.pair bT (.pair bT (.pair bT (.list (.pair (.pair qm (.pair bT bT)) (.pair bT bT))))))))),dI]),(.tmp 2 false [dI])],[(.tmp 0 true [dY,dI,dI,(.dat (.list oD)),dI,dI]),(.tmp 1 false [yV])],kE⟩
theorem aqM:aS Tryz.prog 6 ce6 :=kU ao2 dR aeJ Tryz.func6
noncomputable def cnB {δ:Type} (x4 x5:List Int) (x6:Bool):(Int×Int)->Option ((Int×Int) ⊕ ((Int×(List Int×Bool)) ⊕ δ)) :=
 (fun (v7,v8) =>
 bif (decide (v7<(x4.length:Int))) then
 bif (decide (((0:Int)<=v7)/\(v7<(x4.length:Int)))) then
 ah x4[v7.toNat]? fun x9 =>
 some (Sum.inl ((IntKind.wrap .i64 (v7+(1:Int))),(IntKind.wrap .u64 (((BitVec.toNat ((BitVec.ofInt 64 (IntKind.wrap .u64 (v8*(256:Int)))) ||| (BitVec.ofInt 64 (IntKind.wrap .u64 x9)))):Nat):Int))))
 else none
 else
 au (some (Sum.inl (v8,(x5,x6)))))
theorem Uu (a1:List Int) (a2:Bool):qj (a1,a2) =
 aB (ah (wJ ((8:Int),(a1,a2))) fun (x4,(x5,x6)) =>
 aA (cnB x4 x5 x6) ((0:Int),(0:Int))) fun (v14,(v15,v16)) =>
 some (v14,(v15,v16)):=rfl
noncomputable def cxB {δ:Type} (x4 x5:List Int) (x6:Bool):(Int×Int)->Option ((Int×Int) ⊕ ((Int×(List Int×Bool)) ⊕ δ)) :=
 (fun (v7,v8) =>
 bif (decide (v7<(x4.length:Int))) then
 bif (decide (((0:Int)<=v7)/\(v7<(x4.length:Int)))) then
 ah x4[v7.toNat]? fun x9 =>
 some (Sum.inl ((IntKind.wrap .i64 (v7+(1:Int))),(IntKind.wrap .i64 (((BitVec.toNat ((BitVec.ofInt 64 (IntKind.wrap .i64 (v8*(256:Int)))) ||| (BitVec.ofInt 64 (IntKind.wrap .i64 x9)))):Nat):Int))))
 else none
 else
 au (some (Sum.inl (v8,(x5,x6)))))
theorem aa5 (a1:List Int) (a2:Bool):wK (a1,a2) =
 aB (ah (wJ ((2:Int),(a1,a2))) fun (x4,(x5,x6)) =>
 aA (cxB x4 x5 x6) ((0:Int),(0:Int))) fun (v14,(v15,v16)) =>
 ah (wJ (v14,(v15,v16))) fun (x18,(x19,x20)) =>
 some ((jS x18),(x19,x20)):=rfl
def val (l:List Int):Int:=l.foldl (fun a x=>a*256+x) 0
theorem Fa (l:List Int) (x:Int):val (l++[x])=val l*256+x:=by unfold val;rw [List.foldl_append];rfl
theorem tN {l:List Int} (h:Bytes l):0<=val l/\val l<256 ^ l.length:=by
 induction hn:l.length generalizing l with
 | zero =>
   rw [List.length_eq_zero_iff.1 hn];exact ⟨Int.le_refl 0,by decide⟩
 | succ n ih =>
   rcases List.eq_nil_or_concat l with e | ⟨l',c,e⟩
   ·rw [e] at hn;cases hn
   ·rw [List.concat_eq_append] at e;subst e;have hl':l'.length=n:=by simpa using hn
    have h1:=ih (fun x hx=>h x (List.mem_append_left _ hx)) hl';have h2:=h c (by simp);rw [Fa,Int.pow_succ];omega
theorem alZ {x y:Int} (hx:0<=x/\x*256+255<18446744073709551616) (hy:0<=y/\y<=255):IntKind.wrap .u64 (((BitVec.toNat ((BitVec.ofInt 64 (IntKind.wrap .u64 (x*(256:Int)))) ||| (BitVec.ofInt 64 (IntKind.wrap .u64 y)))):Nat):Int)=x*256+y:=by
 obtain ⟨a,rfl⟩:=Int.eq_ofNat_of_zero_le hx.1;obtain ⟨b,rfl⟩:=Int.eq_ofNat_of_zero_le hy.1;rw [Di,Di,Di,Int.emod_eq_of_lt (a:=(b:Int)) (by omega) (by omega),Int.emod_eq_of_lt (a:=(a:Int)*256) (by omega) (by omega)];rw [BitVec.toNat_or,show ((a:Int)*256)=((a*256:Nat):Int) from by omega,BitVec.ofInt_natCast,BitVec.ofInt_natCast,BitVec.toNat_ofNat,BitVec.toNat_ofNat,Nat.mod_eq_of_lt (by omega),Nat.mod_eq_of_lt (by omega)];have:=Nat.shiftLeft_add_eq_or_of_lt (i:=8) (b:=b) (by omega) a;rw [Nat.shiftLeft_eq] at this;rw [<-this];omega
theorem al0 {x y:Int} (hx:0<=x/\x*256+255<9223372036854775808) (hy:0<=y/\y<=255):IntKind.wrap .i64 (((BitVec.toNat ((BitVec.ofInt 64 (IntKind.wrap .i64 (x*(256:Int)))) ||| (BitVec.ofInt 64 (IntKind.wrap .i64 y)))):Nat):Int)=x*256+y:=by
 obtain ⟨a,rfl⟩:=Int.eq_ofNat_of_zero_le hx.1;obtain ⟨b,rfl⟩:=Int.eq_ofNat_of_zero_le hy.1;rw [aj (n:=(a:Int)*256) (by omega),aj (n:=(b:Int)) (by omega)];rw [BitVec.toNat_or,show ((a:Int)*256)=((a*256:Nat):Int) from by omega,BitVec.ofInt_natCast,BitVec.ofInt_natCast,BitVec.toNat_ofNat,BitVec.toNat_ofNat,Nat.mod_eq_of_lt (by omega),Nat.mod_eq_of_lt (by omega)];have:=Nat.shiftLeft_add_eq_or_of_lt (i:=8) (b:=b) (by omega) a;rw [Nat.shiftLeft_eq] at this;rw [<-this,aj (by omega)];omega
theorem ahE {δ:Type} (L R:List Int) (E:Bool) (hL:Bytes L) (hl:L.length<=8):aA (cnB (δ:=δ) L R E) (0,0)=some (.inl (val L,(R,E))):=by
 refine bQ (fun i=>((i:Int),val (L.take i))) L.length rfl (fun i hi => ?_) ?_
 ·obtain ⟨x,hx,hxb⟩:=get_at (0:Int) hi;have ht:=take_snoc L 0 hi;rw [hx] at ht;have hb:Bytes (L.take i):=fun y hy=>hL y (List.mem_of_mem_take hy);have hx8:0<=x/\x<=255:=by rw [<-hx];exact hL.getD i
  have hr:=tN hb;have hlt:(L.take i).length<=8-1:=by rw [List.length_take];omega
  have hp:(256:Int) ^ (L.take i).length<=256 ^ (8-1):=by
   have:=Nat.pow_le_pow_right (show 0<256 by decide) hlt
   exact_mod_cast this
  have h7:(256:Int) ^ (8-1)*256<=18446744073709551616:=by decide
  have h8:(256:Int) ^ (8-1)<=72057594037927936:=by decide
  have hv:val (L.take (i+1))=val (L.take i)*256+x:=by rw [ht,Fa]
  simp only [hv];generalize hV:val (L.take i)=V at hr ⊢;have ho:=alZ (x:=V) (y:=x) ⟨by omega,by have h9:(256:Int) ^ (8-1)*256<=18446744073709551616:=(by decide);omega⟩ hx8;unfold cnB;simp (disch:=(first | omega | (simp only [bM];omega))) only [↓aN,aQ,if_pos,if_neg,↓hxb,aj,↓ho];rfl
 ·unfold cnB;simp (disch:=(first | omega | (simp only [bM];omega))) only [↓aN,aQ,if_neg,List.take_length]
theorem ahF {δ:Type} (L R:List Int) (E:Bool) (hL:Bytes L) (hl:L.length<=2):aA (cxB (δ:=δ) L R E) (0,0)=some (.inl (val L,(R,E))):=by
 refine bQ (fun i=>((i:Int),val (L.take i))) L.length rfl (fun i hi => ?_) ?_
 ·obtain ⟨x,hx,hxb⟩:=get_at (0:Int) hi;have ht:=take_snoc L 0 hi;rw [hx] at ht;have hb:Bytes (L.take i):=fun y hy=>hL y (List.mem_of_mem_take hy);have hx8:0<=x/\x<=255:=by rw [<-hx];exact hL.getD i
  have hr:=tN hb;have hlt:(L.take i).length<=2-1:=by rw [List.length_take];omega
  have hp:(256:Int) ^ (L.take i).length<=256 ^ (2-1):=by
   have:=Nat.pow_le_pow_right (show 0<256 by decide) hlt
   exact_mod_cast this
  have h7:(256:Int) ^ (2-1)*256<=18446744073709551616:=by decide
  have h8:(256:Int) ^ (2-1)<=72057594037927936:=by decide
  have hv:val (L.take (i+1))=val (L.take i)*256+x:=by rw [ht,Fa]
  simp only [hv];generalize hV:val (L.take i)=V at hr ⊢;have ho:=al0 (x:=V) (y:=x) ⟨by omega,by have h9:(256:Int) ^ (2-1)*256<=9223372036854775808:=(by decide);omega⟩ hx8;unfold cxB;simp (disch:=(first | omega | (simp only [bM];omega))) only [↓aN,aQ,if_pos,if_neg,↓hxb,aj,↓ho];rfl
 ·unfold cxB;simp (disch:=(first | omega | (simp only [bM];omega))) only [↓aN,aQ,if_neg,List.take_length]
def Fe (n:Nat) (r:List Int) (s:Bool):List Int×(List Int×Bool):=if s=true\/r.length<n then ([],(r,true)) else (r.take n,(r.drop n,false))
theorem WH (n:Nat) (r:List Int) (s:Bool):wJ ((n:Int),(r,s))=some (Fe n r s):=by
 unfold wJ Fe;cases s
 ·by_cases h:r.length<n
  ·rw [if_pos (.inr h)];simp (disch:=(first | omega | (simp only [bM];omega))) only [↓aN,aQ,if_pos]
  ·rw [if_neg (by rintro (h0 | h0);exact absurd h0 (by simp);exact h h0)];simp (disch:=(first | omega | (simp only [bM];omega))) only [↓aN,aQ,if_pos,if_neg,Int.toNat_natCast]
 ·rw [if_pos (.inl rfl)];rfl
def YQ (r:List Int) (s:Bool):Int×(List Int×Bool):=(val (Fe 8 r s).1,(Fe 8 r s).2)
def YR (r:List Int) (s:Bool):Tx×(List Int×Bool):=(jS (Fe (val (Fe 2 r s).1).toNat (Fe 2 r s).2.1 (Fe 2 r s).2.2).1,(Fe (val (Fe 2 r s).1).toNat (Fe 2 r s).2.1 (Fe 2 r s).2.2).2)
theorem qR {n:Nat} {r:List Int} {s:Bool} (h:Bytes r):Bytes (Fe n r s).1/\Bytes (Fe n r s).2.1/\(Fe n r s).1.length<=n:=by
 unfold Fe;by_cases h0:s=true\/r.length<n
 ·rw [if_pos h0];exact ⟨fun x (hx:x∈([]:List Int))=>(by cases hx),h,Nat.zero_le _⟩
 ·rw [if_neg h0];exact ⟨fun x hx=>h x (List.mem_of_mem_take hx),fun x hx=>h x (List.mem_of_mem_drop hx),by show (r.take n).length<=n;rw [List.length_take];omega⟩
theorem ao5 (r:List Int) (s:Bool) (h:Bytes r):qj (r,s)=some (YQ r s):=by
 rw [Uu];have e:=WH 8 r s;obtain ⟨h1,h2,h3⟩:=qR (n:=8) (s:=s) h;rw [show ((8:Nat):Int)=(8:Int) from rfl] at e;rw [e];unfold YQ;generalize Fe 8 r s=t at *
 obtain ⟨t1,t2,t3⟩:=t;replace h1:Bytes t1:=h1;replace h3:t1.length<=_:=h3;simp only [↓aN,aQ,ahE t1 t2 t3 h1 h3]
theorem ao6 (r:List Int) (s:Bool) (h:Bytes r):wK (r,s)=some (YR r s):=by
 rw [aa5];have e:=WH 2 r s;obtain ⟨h1,h2,h3⟩:=qR (n:=2) (s:=s) h;rw [show ((2:Nat):Int)=(2:Int) from rfl] at e;rw [e];unfold YR;generalize Fe 2 r s=t at *
 obtain ⟨t1,t2,t3⟩:=t;replace h1:Bytes t1:=h1;replace h3:t1.length<=_:=h3;have hv:=tN h1;have e2:=WH (val t1).toNat t2 t3;rw [show (((val t1).toNat:Nat):Int)=val t1 from by omega] at e2;simp only [↓aN,aQ,ahF t1 t2 t3 h1 h3];rw [e2];rfl
theorem ahG (r:List Int) (s:Bool):tK (r,s)=some (decide (s=false/\r=[])):=by
 unfold tK;cases s
 ·cases r with
  | nil=>rfl
  | cons a l=>simp;omega
 ·rfl
theorem YS {β:Type} {r:List Int} (s:Bool) (h:Bytes r) (f:_->Option β):ah (qj (r,s)) f=f (YQ r s):=by rw [ao5 r s h];rfl
theorem Uw {β:Type} {r:List Int} (s:Bool) (h:Bytes r) (f:_->Option β):ah (wK (r,s)) f=f (YR r s):=by rw [ao6 r s h];rfl
theorem YT {β:Type} (r:List Int) (s:Bool) (f:Bool->Option β):ah (tK (r,s)) f=f (decide (s=false/\r=[])):=by rw [ahG];rfl
theorem qU {r:List Int} {s:Bool} (h:Bytes r):Bytes (YQ r s).2.1:=(qR h).2.1
theorem GI {r:List Int} {s:Bool} (h:Bytes r):Bytes (YR r s).2.1:=(qR (qR h).2.1).2.1
theorem BF {r:List Int} {s:Bool} (h:Bytes r):0<=(YQ r s).1/\(YQ r s).1<18446744073709551616:=by
 have h1:=tN (qR (n:=8) (s:=s) h).1;have h2:=(qR (n:=8) (s:=s) h).2.2;have hp:(256:Int) ^ (Fe 8 r s).1.length<=256 ^ 8:=by
  have:=Nat.pow_le_pow_right (show 0<256 by decide) h2
  exact_mod_cast this
 have h8:(256:Int) ^ 8=18446744073709551616:=by decide
 show 0<=val (Fe 8 r s).1/\val (Fe 8 r s).1<18446744073709551616;omega
theorem VL.opb {g:LG} (h:VL g) {p:Nat} (hp:p<opn g.2.2.2.1):Opb (g.2.2.2.1.getD p b0):=by
 have ho:=lN g.2.2.2.1;have hb:=h.at (i:=p) (by omega);have hz:=Dk hp;obtain ⟨k1,k2,k3,k4,k5⟩:=hb;refine ⟨?_,?_,k1.2.1⟩
 ·rcases k5 with k5 | k5
  ·exact ⟨k5.1,k5.2.1,k5.2.2.1⟩
  ·exact (k5.1 hz).elim
 ·have:=k2.1;omega
open Classical in
noncomputable def al1 (g:LG) (rs:List Ra) (fr:Int) (c:Tx) (t:Int):LG×Int :=
 if Tm g t/\Rt.TV rs fr then (if vI c g.2.2.2.1 then jk rs fr g (dW c g.2.2.2.1) t t else (zG,8)) else (zG,2)
theorem ao7 (g:LG) (rs:List Ra) (fr:Int) (c:Tx) (t:Int) (hl:g.2.2.2.1.length<=1000000) (hB:g.1.length<=900000):rZ (g,((rs,fr),(c,t)))=some (al1 g rs fr c t):=by
 have ho:=lN g.2.2.2.1;rw [aoP];unfold al1;by_cases h:Tm g t/\Rt.TV rs fr
 ·rw [if_pos h];obtain ⟨htm,hr⟩:=h;have hv:=htm.1;have ht:=htm.2;have h0:=hv.2.1;have hs:=hv.srt;have hR:∀ {β:Type} (f:Bool->Option β),ah (bC (rs,fr)) f=f true:=fun f=>by rw [Rt.jh hr];rfl
  by_cases hf:vI c g.2.2.2.1
  ·rw [if_pos hf];have hlt:dW c g.2.2.2.1<g.2.2.2.1.length:=by have:=hf.1;omega
   have hfin:=aiU rs fr g t hlt hl hB ⟨hv.1.1,hv.1.2.1⟩ hv.1.2.2.1 hv.2.2.1 (hv.opb hf.1) ⟨by omega,ht.2⟩;have hF:∀ {β:Type} (f:LG×Int->Option β),ah (jf (g,((rs,fr),(((dW c g.2.2.2.1:Nat):Int),t)))) f=f (jk rs fr g (dW c g.2.2.2.1) t g.2.2.2.2.2):=fun f=>by rw [hfin];rfl
   simp (disch:=(first | omega | (simp only [bM];omega))) only [↓aN,aQ,↓(qw g hl).b,iU hv,↓jD,if_pos,↓hR,↓sS g c hl hs,iU hf,↓hF];unfold jk;split
   ·rfl
   ·rfl
  ·rw [if_neg hf];simp (disch:=(first | omega | (simp only [bM];omega))) only [↓aN,aQ,↓(qw g hl).b,iU hv,↓jD,if_pos,↓hR,↓sS g c hl hs,mg hf];rfl
 ·rw [if_neg h];by_cases hv:VL g
  ·by_cases h1:g.2.2.2.2.2<=t/\t<=1099511627776
   ·have hr:¬Rt.TV rs fr:=fun k=>h ⟨⟨hv,h1⟩,k⟩;have hR:∀ {β:Type} (f:Bool->Option β),ah (bC (rs,fr)) f=f false:=fun f=>by rw [Rt.xH hr];rfl
    simp (disch:=(first | omega | (simp only [bM];omega))) only [↓aN,aQ,↓(qw g hl).b,iU hv,↓jD,if_pos,↓hR];rfl
   ·simp (disch:=(first | omega | (simp only [bM];omega))) only [↓aN,aQ,↓(qw g hl).b,iU hv,↓jD,if_neg,h1,decide_false];rfl
  ·simp only [↓aN,aQ,↓(qw g hl).b,mg hv];rfl
def Rec (n:Int) (l:List BL) (i:Nat):Prop:=n > 0/\(l.getD i b0).2.2.2.2.2.2.1=n
def gvn (x:BL):BL:=(x.1,(x.2.1,(x.2.2.1,(x.2.2.2.1,(x.2.2.2.2.1,(x.2.2.2.2.2.1,(x.2.2.2.2.2.2.1,(x.2.2.2.2.2.2.2.1,(x.2.2.2.2.2.2.2.2.1,true)))))))))
theorem ao8 (g:LG) (n:Int) (hl:g.2.2.2.1.length<=1000000):(∃i,i<g.2.2.2.1.length/\Rec n g.2.2.2.1 i/\(∀j,j<i->¬Rec n g.2.2.2.1 j)/\dw (g,n)=some ((i:Nat):Int))\/((∀i,i<g.2.2.2.1.length->¬Rec n g.2.2.2.1 i)/\dw (g,n)=some (-1:Int)):=by
 rw [aoI];have hL:=ny (body:=rcB g n) g.2.2.2.1.length (fun i=>Rec n g.2.2.2.1 i) (fun i => .inr ((i:Nat):Int)) (.inl ()) (fun i hi hn=>by
  obtain ⟨x,hx,hxb⟩:=get_at b0 hi;unfold Rec at hn;rw [hx] at hn;unfold rcB;by_cases h0:n > 0
  ·have h1:¬x.2.2.2.2.2.2.1=n:=fun k=>hn ⟨h0,k⟩;simp (disch:=(first | omega | (simp only [bM];omega))) only [↓aN,aQ,if_pos,if_neg,↓hxb,aj];rfl
  ·simp (disch:=(first | omega | (simp only [bM];omega))) only [↓aN,aQ,if_pos,if_neg,↓hxb,aj];rfl) (fun i hi hn=>by
  obtain ⟨x,hx,hxb⟩:=get_at b0 hi;unfold Rec at hn;rw [hx] at hn;unfold rcB;simp (disch:=(first | omega | (simp only [bM];omega))) only [↓aN,aQ,if_pos,if_neg,↓hxb]) (by
  unfold rcB;simp (disch:=(first | omega | (simp only [bM];omega))) only [↓aN,aQ,if_neg])
 rcases hL with ⟨i,k1,k2,k3,e⟩ | ⟨k,e⟩
 ·exact .inl ⟨i,k1,k2,k3,by rw [e];rfl⟩
 ·exact .inr ⟨k,by rw [e];rfl⟩
theorem VL.num {g:LG} (h:VL g) {i:Nat} (hi:i<g.2.2.2.1.length):0<=(g.2.2.2.1.getD i b0).2.2.2.2.2.2.1/\(g.2.2.2.1.getD i b0).2.2.2.2.2.2.1<=1048576/\(opn g.2.2.2.1<=i->1<=(g.2.2.2.1.getD i b0).2.2.2.2.2.2.1):=by
 have hp:=YI h.2.2.1 (i:=i) (fun j hj=>h.2.2.2.2 j (by omega));have h3:=h.2.2.1;rcases (h.2.2.2.2 i hi).2 with ⟨k,_⟩ | ⟨k,k2,k3⟩
 ·rw [Dk k];omega
 ·omega
end Go.Proofs.YtkpijdndakljjaaGreat
