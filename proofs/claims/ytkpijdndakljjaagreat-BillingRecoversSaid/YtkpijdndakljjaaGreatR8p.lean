import Derived.Test.YtkpijdndakljjaaGreatJ15p
import Derived.Test.YtkpijdndakljjaaGreatJ10p
import Derived.Test.YtkpijdndakljjaaGreatZrp
import Derived.Test.YtkpijdndakljjaaGreatFp
import Derived.Test.YtkpijdndakljjaaGreatXBp
import Derived.Test.YtkpijdndakljjaaGreatY3p
import Derived.Test.YtkpijdndakljjaaGreatJ7p
set_option linter.unusedSimpArgs false
set_option linter.unusedVariables false
set_option maxRecDepth 100000
set_option maxHeartbeats 4000000
namespace Go.Proofs.YtkpijdndakljjaaGreat
open Go.RowKit
def OKt (op:List BL) (k t:Int) (c:Tx):Prop:=vI c op/\(op.getD (dW c op) b0).2.2.2.2.2.1<=t/\(k=2->(op.getD (dW c op) b0).2.2.2.2.1 = -1)
theorem apb (op dn:List BL) (la no k t:Int) (c:Tx) (h:Opn op) :
 (OKt op k t c/\Bz (k,(t,(c,(op,(dn,(la,no))))))=some (true,op.set (dW c op) (YO k t (op.getD (dW c op) b0)))) \/
 (¬OKt op k t c/\Bz (k,(t,(c,(op,(dn,(la,no))))))=some (false,op)):=by
 have hp:=sK c op;have ha:=h.1;unfold Bz;simp only [↓aN,aQ,decide_true,↓aeK c h];by_cases h1:vI c op
 ·rw [iU h1];have hlt:dW c op<op.length:=by have:=h1.1;omega
  obtain ⟨x,hx,hxb⟩:=get_at b0 hlt;unfold OKt;rw [hx];by_cases h2:x.2.2.2.2.2.1<=t
  ·by_cases h3:k=2
   ·by_cases h4:x.2.2.2.2.1 = -1
    ·refine .inl ⟨⟨h1,h2,fun _=>h4⟩,?_⟩;simp (disch:=(first | omega | (simp only [bM];omega))) only [↓aN,aQ,if_pos,if_neg,↓hxb,h3,h4,ne_eq,not_true_eq_false,decide_true,decide_false,Int.toNat_natCast];rw [List.getElem?_eq_getElem (by rw [List.length_set];exact hlt),List.getElem_set_self];simp only [↓aN,aQ,List.set_set];rfl
    ·refine .inr ⟨fun q=>h4 (q.2.2 h3),?_⟩;simp (disch:=(first | omega | (simp only [bM];omega))) only [↓aN,aQ,if_pos,if_neg,↓hxb,h3,h4,ne_eq,not_false_iff,decide_true,decide_false,Int.toNat_natCast]
   ·refine .inl ⟨⟨h1,h2,fun q=>absurd q h3⟩,?_⟩;simp (disch:=(first | omega | (simp only [bM];omega))) only [↓aN,aQ,if_pos,if_neg,↓hxb,h3,decide_true,decide_false,Int.toNat_natCast];rw [show YO k t x=_ from by unfold YO;rw [if_neg h3]]
  ·refine .inr ⟨fun q=>h2 q.2.1,?_⟩;simp (disch:=(first | omega | (simp only [bM];omega))) only [↓aN,aQ,if_pos,if_neg,↓hxb,decide_true,decide_false]
 ·refine .inr ⟨fun q=>h1 q.1,?_⟩;rw [mg h1];simp only [↓aN,aQ,decide_true,Bool.and_true]
theorem ahI {n:Int} (h:9223372036854775808<=n/\n<18446744073709551616):IntKind.wrap .i64 n<0:=by
 have e:IntKind.wrap .i64 n=n-18446744073709551616:=by
  show (if (true&&decide (n % 18446744073709551616>=9223372036854775808))=true then n % 18446744073709551616-18446744073709551616 else n % 18446744073709551616)=_;rw [Int.emod_eq_of_lt (by omega) h.2,if_pos (by simp;omega)]
 omega
def OKe (op:List BL) (la t n s co:Int) (c:Tx):Prop:=vI c op/\(op.getD (dW c op) b0).2.2.2.2.2.1<=t /\
 ((n=0/\s=0/\co=0/\(op.getD (dW c op) b0).2.2.2.2.1 = -1)\/(n≠0/\(op.getD (dW c op) b0).2.2.2.2.1 ≠ -1/\n=la+1/\n<=1048576/\s=Rt.SE (op.getD (dW c op) b0).2.2.2.2.1 t/\co<9223372036854775808))
theorem apc (op dn:List BL) (la no t n s co:Int) (c:Tx) (h:Opn op) (hd:dn.length<=1000000) (hla:0<=la/\la<=1048576) (hco:0<=co/\co<18446744073709551616) :
 (OKe op la t n s co c/\O9 (t,(n,(s,(co,(c,(op,(dn,(la,no))))))))=some (true,(ji op (dW c op),(if n=0 then dn else dn++[rcd (op.getD (dW c op) b0) t n s co],(if n=0 then la else n,no))))) \/
 (¬OKe op la t n s co c/\O9 (t,(n,(s,(co,(c,(op,(dn,(la,no))))))))=some (false,(op,(dn,(la,no))))):=by
 have hp:=sK c op;have ha:=h.1;have hl:=h.2.2;have hw:∀x:Int,0<=x->x<18446744073709551616->IntKind.wrap .u64 x=x:=fun x a b=>by rw [Di];omega
 unfold O9;simp only [↓aN,aQ,decide_true,Bool.and_true,↓aeK c h];by_cases h1:vI c op
 ·rw [iU h1];have hlt:dW c op<op.length:=by have:=h1.1;omega
  obtain ⟨x,hx,hxb⟩:=get_at b0 hlt;have hj:IntKind.wrap .i64 (((dW c op:Nat):Int)+1)=((dW c op:Nat):Int)+1:=aj (by omega);have hla1:IntKind.wrap .i64 (la+1)=la+1:=aj (by omega);unfold OKe;rw [hx];by_cases h2:x.2.2.2.2.2.1<=t
  ·by_cases h3:n=0
   ·by_cases h4:s=0
    ·by_cases h5:co=0
     ·by_cases h6:x.2.2.2.2.1 = -1
      ·refine .inl ⟨⟨h1,h2,.inl ⟨h3,h4,h5,h6⟩⟩,?_⟩;simp (disch:=(first | omega | (simp only [bM];omega))) only [↓aN,aQ,if_pos,if_neg,↓hxb,h3,h4,h5,h6,ne_eq,not_true_eq_false,decide_true,decide_false,↓aeB hl hlt hj];rfl
      ·refine .inr ⟨fun q=>by rcases q.2.2 with q | q;exact h6 q.2.2.2;exact q.1 h3,?_⟩;simp (disch:=(first | omega | (simp only [bM];omega))) only [↓aN,aQ,if_pos,if_neg,↓hxb,h3,h4,h5,h6,ne_eq,not_true_eq_false,not_false_iff,decide_true,decide_false,Bool.and_true]
     ·refine .inr ⟨fun q=>by rcases q.2.2 with q | q;exact h5 q.2.2.1;exact q.1 h3,?_⟩;simp (disch:=(first | omega | (simp only [bM];omega))) only [↓aN,aQ,if_pos,if_neg,↓hxb,h3,h4,h5,ne_eq,not_true_eq_false,not_false_iff,decide_true,decide_false,Bool.and_true]
    ·refine .inr ⟨fun q=>by rcases q.2.2 with q | q;exact h4 q.2.1;exact q.1 h3,?_⟩;simp (disch:=(first | omega | (simp only [bM];omega))) only [↓aN,aQ,if_pos,if_neg,↓hxb,h3,h4,ne_eq,not_true_eq_false,not_false_iff,decide_true,decide_false,Bool.and_true]
   ·have hse:=Rt.Lu x.2.2.2.2.1 t;by_cases h4:x.2.2.2.2.1 = -1
    ·refine .inr ⟨fun q=>by rcases q.2.2 with q | q;exact h3 q.1;exact q.2.1 h4,?_⟩;simp (disch:=(first | omega | (simp only [bM];omega))) only [↓aN,aQ,if_pos,if_neg,↓hxb,h3,h4,decide_true,decide_false,Bool.and_true]
    ·by_cases h5:n=la+1
     ·by_cases h6:n<=1048576
      ·by_cases h7:s=Rt.SE x.2.2.2.2.1 t
       ·by_cases h8:co<9223372036854775808
        ·refine .inl ⟨⟨h1,h2,.inr ⟨h3,h4,h5,h6,h7,h8⟩⟩,?_⟩;have hc:IntKind.wrap .i64 co=co:=aj (by omega);have hz:¬la+1=0:=by omega
         simp (disch:=(first | omega | (simp only [bM];omega))) only [↓aN,aQ,if_pos,if_neg,↓hxb,h3,h4,h5,h7,hz,hla1,hw (la+1) (by omega) (by omega),hw (Rt.SE x.2.2.2.2.1 t) (by omega) (by omega),↓Iw,hc,ne_eq,not_true_eq_false,decide_true,decide_false,↓aeB hl hlt hj];rfl
        ·refine .inr ⟨fun q=>by rcases q.2.2 with q | q;exact h3 q.1;exact h8 q.2.2.2.2.2,?_⟩;have hc:IntKind.wrap .i64 co<0:=ahI ⟨by omega,by omega⟩;have hz:¬la+1=0:=by omega
         simp (disch:=(first | omega | (simp only [bM];omega))) only [↓aN,aQ,if_pos,if_neg,↓hxb,h3,h4,h5,h7,hz,hla1,hw (la+1) (by omega) (by omega),hw (Rt.SE x.2.2.2.2.1 t) (by omega) (by omega),↓Iw,hc,ne_eq,not_true_eq_false,decide_true,decide_false,Bool.and_true]
       ·refine .inr ⟨fun q=>by rcases q.2.2 with q | q;exact h3 q.1;exact h7 q.2.2.2.2.1,?_⟩;have hz:¬la+1=0:=by omega
        simp (disch:=(first | omega | (simp only [bM];omega))) only [↓aN,aQ,if_pos,if_neg,↓hxb,h3,h4,h5,h7,hz,hla1,hw (la+1) (by omega) (by omega),hw (Rt.SE x.2.2.2.2.1 t) (by omega) (by omega),↓Iw,ne_eq,not_true_eq_false,not_false_iff,decide_true,decide_false,Bool.and_true]
      ·refine .inr ⟨fun q=>by rcases q.2.2 with q | q;exact h3 q.1;exact h6 q.2.2.2.1,?_⟩;have hz:¬la+1=0:=by omega
       simp (disch:=(first | omega | (simp only [bM];omega))) only [↓aN,aQ,if_pos,if_neg,↓hxb,h3,h4,h5,hz,hla1,hw (la+1) (by omega) (by omega),ne_eq,not_true_eq_false,decide_true,decide_false,Bool.and_true]
     ·refine .inr ⟨fun q=>by rcases q.2.2 with q | q;exact h3 q.1;exact h5 q.2.2.1,?_⟩;simp (disch:=(first | omega | (simp only [bM];omega))) only [↓aN,aQ,if_pos,if_neg,↓hxb,h3,h4,h5,hla1,hw (la+1) (by omega) (by omega),ne_eq,not_true_eq_false,not_false_iff,decide_true,decide_false,Bool.and_true]
  ·refine .inr ⟨fun q=>h2 q.2.1,?_⟩;simp (disch:=(first | omega | (simp only [bM];omega))) only [↓aN,aQ,if_pos,if_neg,↓hxb,decide_true,decide_false,Bool.and_true]
 ·refine .inr ⟨fun q=>h1 q.1,?_⟩;rw [mg h1];simp only [↓aN,aQ,decide_true,Bool.and_true]
abbrev Cu:=List Int×Bool
def rN (r:Cu):Int×Cu:=YQ r.1 r.2
def rT (r:Cu):Tx×Cu:=YR r.1 r.2
def yX (r:Cu):Prop:=r.2=false/\r.1=[]
instance (r:Cu):Decidable (yX r):=inferInstanceAs (Decidable (r.2=false/\r.1=[]))
def ahJ (t:Int) (c:Tx×Cu) (f:Tx×Cu) (o:Tx×Cu):Option AC:=if yX o.2 then some (1,(t,(0,(0,(0,(c.1,(f.1,o.1))))))) else none
def aeL (k t:Int) (c:Tx×Cu):Option AC:=if yX c.2 then some (k,(t,(0,(0,(0,(c.1,([],[]))))))) else none
def MF (t:Int) (n s o:Int×Cu) (c:Tx×Cu):Option AC:=if yX c.2 then some (4,(t,(n.1,(s.1,(o.1,(c.1,([],[]))))))) else none
def Ux (k:Int) (a:Int×Cu):Option AC :=
 if k=5 then (if yX a.2 then some (5,(0,(a.1,(0,(0,([],([],[]))))))) else none)
 else if a.2.2=true\/a.1 > 1099511627776 then none
 else if k=1 then ahJ a.1 (rT a.2) (rT (rT a.2).2) (rT (rT (rT a.2).2).2)
 else if k=2\/k=3 then aeL k a.1 (rT a.2)
 else if k=4 then MF a.1 (rN a.2) (rN (rN a.2).2) (rN (rN (rN a.2).2).2) (rT (rN (rN (rN a.2).2).2).2)
 else none
def IC (k:Int) (d:List Int):Option AC:=Ux k (rN (d,false))
noncomputable def uZ (a:AC) (s:ST):Option ST :=
 if a.1=5 then bif tf (OKg s.2.1 a.2.2.1) then some (s.1,(s.2.1.set (a.2.2.1-1).toNat (gvn (s.2.1.getD (a.2.2.1-1).toNat b0)),s.2.2)) else none
 else if a.1=1 then bif tf (OKb s.1 a.2.2.2.2.2.1 a.2.2.2.2.2.2.1 a.2.2.2.2.2.2.2) then some (yI s.1 (a.2.2.2.2.2.1,(a.2.2.2.2.2.2.1,(a.2.2.2.2.2.2.2,(a.2.1,(-1,(a.2.1,(0,(0,(0,false))))))))),(s.2.1,(s.2.2.1,fV s.2.2.2 a.2.1))) else none
 else if a.1=4 then bif tf (OKe s.1 s.2.2.1 a.2.1 a.2.2.1 a.2.2.2.1 a.2.2.2.2.1 a.2.2.2.2.2.1) then some (ji s.1 (dW a.2.2.2.2.2.1 s.1),(if a.2.2.1=0 then s.2.1 else s.2.1++[rcd (s.1.getD (dW a.2.2.2.2.2.1 s.1) b0) a.2.1 a.2.2.1 a.2.2.2.1 a.2.2.2.2.1],(if a.2.2.1=0 then s.2.2.1 else a.2.2.1,fV s.2.2.2 a.2.1))) else none
 else bif tf (OKt s.1 a.1 a.2.1 a.2.2.2.2.2.1) then some (s.1.set (dW a.2.2.2.2.2.1 s.1) (YO a.1 a.2.1 (s.1.getD (dW a.2.2.2.2.2.1 s.1) b0)),(s.2.1,(s.2.2.1,fV s.2.2.2 a.2.1))) else none
def Apl (o:Option AC) (s:ST) (r:Option (Bool×ST)):Prop :=
 (∃a s',o=some a/\uZ a s=some s'/\r=some (true,s'))\/((o=none\/∃a,o=some a/\uZ a s=none)/\∃s',r=some (false,s'))
theorem Apl.bad {o:Option AC} {s:ST} (h:o=none) (s':ST):Apl o s (some (false,s')) := .inr ⟨.inl h,s',rfl⟩
theorem apd (k:Int) (d:List Int) (op dn:List BL) (la no:Int) (h:Opn op) (hd:dn.length<=1000000) (hla:0<=la/\la<=1048576) (hb:Bytes d) :
 Apl (IC k d) (op,(dn,(la,no))) (BD ((k,d),(op,(dn,(la,no))))):=by
 unfold BD IC;simp only [↓aN,aQ,↓YS false hb];have hr:0<=(rN (d,false)).1/\(rN (d,false)).1<18446744073709551616:=BF hb;have hA:Bytes (rN (d,false)).2.1:=qU hb;rw [show YQ d false=rN (d,false) from rfl];generalize rN (d,false)=A at *
 obtain ⟨t,r,s⟩:=A;simp only at hr hA;unfold Ux;by_cases k5:k=5
 ·simp only [k5,↓aN,aQ,if_true,↓YT,decide_true,Bool.and_true,Bool.and_self];by_cases hf:yX (r,s)
  ·have hf':s=false/\r=[]:=hf;simp only [hf',hf,↓aN,aQ,if_true,and_self,decide_true];rcases ao9 op dn la no t hr hd with ⟨h1,e⟩ | ⟨h1,e⟩
   ·rw [e];simp only [↓aN,aQ,List.length_set,decide_true,Bool.and_true,Bool.and_self];refine .inl ⟨_,_,rfl,?_,rfl⟩;unfold uZ;simp only [if_true,iU h1,cond_true];rw [List.take_of_length_le (by rw [List.length_set];exact Nat.le_refl _)]
   ·rw [e];simp only [↓aN,aQ,decide_true,Bool.and_true,Bool.and_self];refine .inr ⟨.inr ⟨_,rfl,?_⟩,_,rfl⟩;unfold uZ;simp only [if_true,mg h1,cond_false]
  ·have hf':¬(s=false/\r=[]):=hf;simp only [hf',hf,↓aN,aQ,decide_false,decide_true,Bool.and_self];exact Apl.bad rfl _
 ·have k5':decide (k=5)=false:=decide_eq_false k5;by_cases hs:s=true
  ·subst hs;simp only [k5,↓aN,aQ,decide_true,Bool.and_self,if_false,true_or,if_true];exact Apl.bad rfl _
  obtain rfl:s=false:=by simpa using hs
  by_cases ht:t > 1099511627776
  ·simp only [k5,ht,↓aN,aQ,decide_true,Bool.and_self,if_false,or_true,if_true];exact Apl.bad rfl _
  have hwt:IntKind.wrap .i64 t=t:=aj (by omega);simp only [k5,ht,↓aN,aQ,decide_true,Bool.and_self,if_false,reduceCtorEq,or_self,hwt];by_cases k1:k=1
  ·subst k1;have hc:Bytes (rT (r,false)).2.1:=GI hA;simp only [↓aN,aQ,decide_true,if_true,↓Uw false hA];rw [show YR r false=rT (r,false) from rfl];generalize rT (r,false)=C at *
   obtain ⟨c,r1,s1⟩:=C;replace hc:Bytes r1:=hc;have hc2:Bytes (rT (r1,s1)).2.1:=GI hc;simp only [↓aN,aQ,↓Uw s1 hc];rw [show YR r1 s1=rT (r1,s1) from rfl];generalize rT (r1,s1)=C at *
   obtain ⟨f,r2,s2⟩:=C;replace hc2:Bytes r2:=hc2;simp only [↓aN,aQ,↓Uw s2 hc2];rw [show YR r2 s2=rT (r2,s2) from rfl];generalize rT (r2,s2)=C at *
   obtain ⟨o,r3,s3⟩:=C;simp only [↓aN,aQ,↓YT];unfold ahJ;by_cases hf:yX (r3,s3)
   ·have hf':s3=false/\r3=[]:=hf;simp only [hf',hf,↓aN,aQ,if_true,and_self,decide_true,Bool.and_self];rcases apa op dn la no t c f o h with ⟨h1,e⟩ | ⟨h1,e⟩
    ·rw [e];simp only [↓aN,aQ,decide_true,Bool.and_true,Bool.and_self];refine .inl ⟨_,_,rfl,?_,rfl⟩;unfold uZ;simp only [show ¬(1:Int)=5 by omega,if_true,if_false,iU h1,cond_true]
    ·rw [e];simp only [↓aN,aQ,decide_true,Bool.and_true,Bool.and_self];refine .inr ⟨.inr ⟨_,rfl,?_⟩,_,rfl⟩;unfold uZ;simp only [show ¬(1:Int)=5 by omega,if_true,if_false,mg h1,cond_false]
   ·have hf':¬(s3=false/\r3=[]):=hf;simp only [hf',hf,↓aN,aQ,decide_false,decide_true,Bool.and_self];exact Apl.bad rfl _
  ·by_cases k23:k=2\/k=3
   ·have h5:decide (k=1)=false:=decide_eq_false k1;have hk4:¬k=4:=by omega
    have hc:Bytes (rT (r,false)).2.1:=GI hA;have hv:∀ {β:Type} (f:Bool->Option β),aB (if k=2 then some (Sum.inl true) else some (Sum.inl (decide (k=3)))) f=f true:=fun f=>by
     by_cases k2:k=2
     ·rw [if_pos k2];rfl
     ·rw [if_neg k2,decide_eq_true (show k=3 by omega)];rfl
    simp only [k1,k23,↓aN,aQ,decide_true,if_true,if_false,↓hv,↓Uw false hA];rw [show YR r false=rT (r,false) from rfl];generalize rT (r,false)=C at *
    obtain ⟨c,r1,s1⟩:=C;simp only [↓aN,aQ,↓YT];unfold aeL;by_cases hf:yX (r1,s1)
    ·have hf':s1=false/\r1=[]:=hf;simp only [hf',hf,↓aN,aQ,if_true,and_self,decide_true,Bool.and_self];rcases apb op dn la no k t c h with ⟨h1,e⟩ | ⟨h1,e⟩
     ·rw [e];simp only [↓aN,aQ,List.length_set,decide_true,Bool.and_true,Bool.and_self];refine .inl ⟨_,_,rfl,?_,rfl⟩;unfold uZ;simp only [k5,k1,hk4,if_true,if_false,iU h1,cond_true];rw [List.take_of_length_le (by rw [List.length_set];exact Nat.le_refl _)]
     ·rw [e];simp only [↓aN,aQ,decide_true,Bool.and_true,Bool.and_self];refine .inr ⟨.inr ⟨_,rfl,?_⟩,_,rfl⟩;unfold uZ;simp only [k5,k1,hk4,if_true,if_false,mg h1,cond_false]
    ·have hf':¬(s1=false/\r1=[]):=hf;simp only [hf',hf,↓aN,aQ,decide_false,decide_true,Bool.and_self];exact Apl.bad rfl _
   ·have hv:∀ {β:Type} (f:Bool->Option β),aB (if k=2 then some (Sum.inl true) else some (Sum.inl (decide (k=3)))) f=f false:=fun f=>by
     rw [if_neg (by omega),decide_eq_false (show ¬k=3 by omega)];rfl
    by_cases k4:k=4
    ·subst k4;have hb1:Bytes (rN (r,false)).2.1:=qU hA;have hz:¬((4:Int)=2\/(4:Int)=3):=by omega
     have hz1:¬((4:Int)=1):=by omega
     simp only [k1,hz,hz1,↓aN,aQ,decide_true,if_true,if_false,↓hv,↓YS false hA];rw [show YQ r false=rN (r,false) from rfl];generalize rN (r,false)=C at *
     obtain ⟨n,r1,s1⟩:=C;replace hb1:Bytes r1:=hb1;have hb2:Bytes (rN (r1,s1)).2.1:=qU hb1;simp only [↓aN,aQ,↓YS s1 hb1];rw [show YQ r1 s1=rN (r1,s1) from rfl];generalize rN (r1,s1)=C at *
     obtain ⟨se,r2,s2⟩:=C;replace hb2:Bytes r2:=hb2;have hb3:Bytes (rN (r2,s2)).2.1:=qU hb2;have hco:0<=(rN (r2,s2)).1/\(rN (r2,s2)).1<18446744073709551616:=BF hb2;simp only [↓aN,aQ,↓YS s2 hb2];rw [show YQ r2 s2=rN (r2,s2) from rfl];generalize rN (r2,s2)=C at *
     obtain ⟨co,r3,s3⟩:=C;replace hb3:Bytes r3:=hb3;replace hco:0<=co/\co<18446744073709551616:=hco;simp only [↓aN,aQ,↓Uw s3 hb3];rw [show YR r3 s3=rT (r3,s3) from rfl];generalize rT (r3,s3)=C at *
     obtain ⟨c,r4,s4⟩:=C;simp only [↓aN,aQ,↓YT];unfold MF;by_cases hf:yX (r4,s4)
     ·have hf':s4=false/\r4=[]:=hf;simp only [hf',hf,↓aN,aQ,if_true,and_self,decide_true,Bool.and_self];rcases apc op dn la no t n se co c h hd hla hco with ⟨h1,e⟩ | ⟨h1,e⟩
      ·rw [e];simp only [↓aN,aQ,decide_true,Bool.and_true,Bool.and_self];refine .inl ⟨_,_,rfl,?_,rfl⟩;unfold uZ;simp only [show ¬(4:Int)=5 by omega,hz1,if_true,if_false,iU h1,cond_true]
      ·rw [e];simp only [↓aN,aQ,decide_true,Bool.and_true,Bool.and_self];refine .inr ⟨.inr ⟨_,rfl,?_⟩,_,rfl⟩;unfold uZ;simp only [show ¬(4:Int)=5 by omega,hz1,if_true,if_false,mg h1,cond_false]
     ·have hf':¬(s4=false/\r4=[]):=hf;simp only [hf',hf,↓aN,aQ,decide_false,decide_true,Bool.and_self];exact Apl.bad rfl _
    ·simp only [k1,k23,k4,↓aN,aQ,decide_true,decide_false,if_true,if_false,↓hv,Bool.and_self];exact Apl.bad rfl _
def AZ (op:List BL):Prop:=∀b∈op,b.2.2.2.2.2.2.1=0
def PW (op:List BL):Prop:=op.Pairwise (fun a b=>Op.bytesLess a.1 b.1=true)
theorem AZ.opn:∀ {op:List BL},AZ op->opn op=op.length
 | [],_=>rfl
 | b::l,h=>by
   rw [Go.Proofs.YtkpijdndakljjaaGreat.opn,if_pos (h b (by simp)),AZ.opn (fun x hx=>h x (by simp [hx]))];rfl
theorem WI {op:List BL} (h:PW op) (ha:AZ op):QT op:=fun i j hij hj=>by
 rw [ha.opn] at hj;have:=List.pairwise_iff_getElem.1 h i j (by omega) hj hij;rw [List.getD_eq_getElem?_getD,List.getElem?_eq_getElem (by omega:i<op.length),List.getD_eq_getElem?_getD,List.getElem?_eq_getElem hj];exact this
theorem al2 {op:List BL} (ha:AZ op) (h:PW op) (hl:op.length<=1000000):Opn op:=⟨ha.opn,WI h ha,hl⟩
theorem aeM {op:List BL} (h:PW op) (p:Nat):PW (ji op p):=by
 refine List.Pairwise.sublist ?_ h;unfold ji;have:op.take p++op.drop (p+1)=op.eraseIdx p:=(List.eraseIdx_eq_take_drop_succ op p).symm;rw [this];exact List.eraseIdx_sublist op p
theorem al3 {op:List BL} (h:PW op) {p:Nat} (hp:p<op.length) {x:BL} (hx:x.1=(op.getD p b0).1):PW (op.set p x):=by
 refine List.pairwise_iff_getElem.2 fun i j hi hj hij => ?_;rw [List.length_set] at hi hj;have h0:=List.pairwise_iff_getElem.1 h i j hi hj hij;have e:(op.getD p b0)=op[p]:=by rw [List.getD_eq_getElem?_getD,List.getElem?_eq_getElem hp];rfl
 rw [e] at hx;have g:∀(k:Nat) (hk:k<op.length),((op.set p x)[k]'(by rw [List.length_set];exact hk)).1=(op[k]).1:=fun k hk=>by
  rw [List.getElem_set];split
  ·rename_i e2;subst e2;exact hx
  ·rfl
 rw [g i hi,g j hj];exact h0
theorem al4 {op:List BL} (h:PW op) (ha:AZ op) {b:BL} (hn:¬vI b.1 op):PW (yI op b):=by
 have hs:=WI h ha;have ho:=ha.opn;have hp:=sK b.1 op;unfold yI;have hdec:op=op.take (dW b.1 op)++op.drop (dW b.1 op):=(List.take_append_drop _ _).symm;have h0:=h;rw [PW,hdec,List.pairwise_append] at h0;obtain ⟨h1,h2,h3⟩:=h0;have hlo:∀x∈op.take (dW b.1 op),Op.bytesLess x.1 b.1=true:=fun x hx=>by
  obtain ⟨i,hi,rfl⟩:=List.mem_iff_getElem.1 hx;rw [List.length_take] at hi;have:=Gw (c:=b.1) (l:=op) (i:=i) (by omega);rw [List.getD_eq_getElem?_getD,List.getElem?_eq_getElem (by omega)] at this;rw [List.getElem_take];exact this
 have hhi:∀x∈op.drop (dW b.1 op),Op.bytesLess b.1 x.1=true:=fun x hx=>by
  obtain ⟨i,hi,rfl⟩:=List.mem_iff_getElem.1 hx;rw [List.length_drop] at hi;rw [List.getElem_drop];have hlt:dW b.1 op<opn op:=by omega
  have hne:(op.getD (dW b.1 op) b0).1≠b.1:=fun e=>hn ⟨hlt,e⟩;have hnl:=LV (c:=b.1) (l:=op) hlt;have hlt2:dW b.1 op<op.length:=by omega
  have e1:(op.getD (dW b.1 op) b0)=op[dW b.1 op]:=by rw [List.getD_eq_getElem?_getD,List.getElem?_eq_getElem hlt2];rfl
  rw [e1] at hne hnl;have hfirst:Op.bytesLess b.1 (op[dW b.1 op]).1=true:=by
   rcases aey b.1 (op[dW b.1 op]).1 with g | g | g
   ·exact g
   ·rw [hnl] at g;cases g
   ·exact absurd g.symm hne
  by_cases hi0:i=0
  ·subst hi0;exact hfirst
  ·exact Uo hfirst (List.pairwise_iff_getElem.1 h (dW b.1 op) (dW b.1 op+i) hlt2 (by omega) (by omega))
 rw [PW,List.append_assoc,List.pairwise_append];refine ⟨h1,?_,fun x hx y hy => ?_⟩
 ·show List.Pairwise _ (b::op.drop (dW b.1 op));exact List.pairwise_cons.2 ⟨hhi,h2⟩
 ·rcases List.mem_cons.1 (show y∈b::op.drop (dW b.1 op) from hy) with rfl | hy
  ·exact hlo x hx
  ·exact h3 x hx y hy
theorem ahK {op:List BL} {b x:BL} (h:x∈yI op b):x=b\/x∈op:=by
 unfold yI at h;rcases List.mem_append.1 h with h | h
 ·rcases List.mem_append.1 h with h | h
  ·exact .inr (List.mem_of_mem_take h)
  ·exact .inl (List.mem_singleton.1 h)
 ·exact .inr (List.mem_of_mem_drop h)
def Due (l:List BL) (i:Nat):Prop:=(l.getD i b0).2.2.2.2.2.2.1≠0/\(l.getD i b0).2.2.2.2.2.2.2.2.2=false
def NX (g:LG):Prop:=VL g/\g.2.1=(g.1.length:Int)
open Classical in
noncomputable def ahL (g:LG):LG:=if VL g then (g.1,((g.1.length:Int),(g.2.2.1,(g.2.2.2.1,(g.2.2.2.2.1,g.2.2.2.2.2))))) else zG
theorem QM (g:LG) (hl:g.2.2.2.1.length<=1000000) (hB:g.1.length<=900000):lJ g=some (ahL g):=by
 rw [aoQ];unfold ahL;by_cases hv:VL g
 ·rw [if_pos hv];have hS:∀ {β:Type} (f:List Int×(Int×Int)->Option β),ah (kJ (g.1,(g.2.1,g.2.2.1))) f=f (g.1,((g.1.length:Int),g.2.2.1)):=fun f=>by rw [Jn.QM g.1 g.2.1 g.2.2.1 hB ⟨hv.1.1,hv.1.2.1⟩ ⟨hv.1.2.2.1,hv.1.2.2.2⟩];rfl
  simp (disch:=(first | omega | (simp only [bM];omega))) only [↓aN,aQ,↓(qw g hl).b,iU hv,↓hS,↓qh hl]
 ·rw [if_neg hv];simp only [↓aN,aQ,↓(qw g hl).b,mg hv];rfl
theorem MG (l:List BL) (hl:l.length<=1000000):iD (l,l)=some true:=by
 rw [aoM];have hL:aA (sbB l l) (0:Int)=some (.inl ()):=by
  refine bQ (fun i=>((i:Nat):Int)) l.length rfl (fun i hi => ?_) ?_
  ·obtain ⟨x,hx,hxb⟩:=get_at b0 hi;unfold sbB;simp (disch:=(first | omega | (simp only [bM];omega))) only [↓aN,aQ,if_pos,↓hxb,aj,decide_true,Bool.and_true,Bool.true_and,beq_self_eq_true];rfl
  ·unfold sbB;simp (disch:=(first | omega | (simp only [bM];omega))) only [↓aN,aQ,if_neg]
 rw [hL];simp (disch:=(first | omega | (simp only [bM];omega))) only [↓aN,aQ,if_neg]
theorem aa6 (g:LG) (hl:g.2.2.2.1.length<=1000000):iT (g,g)=some true:=by
 rw [aoT,Jn.QK,MG _ hl];simp (disch:=(first | omega | (simp only [bM];omega))) only [↓aN,aQ,if_pos,decide_true]
set_option maxRecDepth 1000000
set_option maxHeartbeats 0
def al5:List (Nat×PL):=[]
noncomputable def Aq:PUnit->Option (BN):=fun _ =>
 some (([]:List Int),((0:Int),((0:Int),(([]:List jK),((0:Int),(0:Int))))))
noncomputable def al6:List (Nat×CE):=[]
theorem aa7:dD Tryz.prog al6:=trivial
noncomputable def ape:CE:=⟨[],[(.tmp 0 true [dY,dI,dI,(.dat (.list oD)),dI,dI])],Aq⟩
theorem apf:aS Tryz.prog 10 ape :=kU al5 dR aa7 Tryz.func10
def apg:List (Nat×PL):=[]
noncomputable def iK:PUnit->Option Bool:=fun _ =>
 ah (Aq ()) fun (x2,(x3,(x4,(x5,(x6,x7))))) =>
 ah (nZ ((x2,(x3,(x4,(x5,(x6,x7))))),(((99:UInt8)::([]:List UInt8)),(((97:UInt8)::([]:List UInt8)),(((98:UInt8)::([]:List UInt8)),((1000:Int),((0:Int),((0:Int),((0:Int),((0:Int),((0:Int),false))))))))))) fun ((x9,(x10,(x11,(x12,(x13,x14))))),x15) =>
 ah (pY ((x9,(x10,(x11,(x12,(x13,x14))))),(((99:UInt8)::([]:List UInt8)),(2000:Int)))) fun ((x17,(x18,(x19,(x20,(x21,x22))))),x23) =>
 ah (lJ (x17,(x18,(x19,(x20,(x21,x22)))))) fun (x25,(x26,(x27,(x28,(x29,x30))))) =>
 ah (jF (x25,(x26,(x27,(x28,(x29,x30)))))) fun ((x32,(x33,(x34,(x35,(x36,(x37,(x38,(x39,(x40,x41))))))))),x42) =>
 ah (ni ()) fun (x44,x45) =>
 ah (rZ ((x17,(x18,(x19,(x20,(x21,x22))))),((x44,x45),(((99:UInt8)::([]:List UInt8)),(4500:Int))))) fun ((x47,(x48,(x49,(x50,(x51,x52))))),x53) =>
 ah (jF (x47,(x48,(x49,(x50,(x51,x52)))))) fun ((x55,(x56,(x57,(x58,(x59,(x60,(x61,(x62,(x63,x64))))))))),x65) =>
 ah (lJ (x47,(x48,(x49,(x50,(x51,x52)))))) fun (x67,(x68,(x69,(x70,(x71,x72))))) =>
 ah (jF (x67,(x68,(x69,(x70,(x71,x72)))))) fun ((x74,(x75,(x76,(x77,(x78,(x79,(x80,(x81,(x82,x83))))))))),x84) =>
 bif (decide (x15=(0:Int))) then
 bif (decide (x23=(0:Int))) then
 bif (decide (x53=(0:Int))) then
 bif (!x42) then
 bif (!x65) then
 bif x84 then
 some ((decide (x74=((99:UInt8)::([]:List UInt8))))&&((decide (x75=((97:UInt8)::([]:List UInt8))))&&((decide (x76=((98:UInt8)::([]:List UInt8))))&&((decide (x77=(1000:Int)))&&((decide (x78=(2000:Int)))&&((decide (x79=(4500:Int)))&&((decide (x80=(1:Int)))&&((decide (x81=(3:Int)))&&((decide (x82=(3000:Int)))&&(x83==false))))))))))
 else
 some false
 else
 some false
 else
 some false
 else
 some false
 else
 some false
 else
 some false
noncomputable def aph:List (Nat×CE):=[(9,ce9),(11,anV),(14,anY),(12,an0),(13,an3),(15,aop),(10,ape)]
theorem aeN:dD Tryz.prog aph:=⟨aqB,anW,anZ,an1,an4,aoq,apf,trivial⟩
noncomputable def ce5:CE:=⟨[],[(.tmp 0 false [dO])],iK⟩
theorem aqN:aS Tryz.prog 5 ce5 :=kU apg dR aeN Tryz.func5
def tr:List Ra:=[([],(0,(1,(1,[((127,(0,1440)),(1000,1000))]))))]
namespace Rt
theorem aeO {l:List tJ} {rc:Int} {mo:Nat->Int} (hl:l.length=1) (h:RVl l):∀ {n:Nat},(∀k,k<n+1->0<=mo k/\mo k<=4000000000000000000)->CU l rc mo (n+1)=rc+(l.getD 0 p0).2.1+(n:Int)*(l.getD 0 p0).2.2
 | 0,hm=>by
   obtain ⟨i,hi,e⟩:=(aaW h (hm 0 (by omega))).2.pos h;obtain rfl:i=0:=by omega
   show rc+prc l (mo 0) 0=_;unfold prc;rw [if_pos rfl,e];show rc+(l.getD 0 p0).2.1=rc+(l.getD 0 p0).2.1+(0:Int)*_;rw [Int.zero_mul];omega
 | n+1,hm=>by
   obtain ⟨i,hi,e⟩:=(aaW h (hm (n+1) (by omega))).2.pos h;obtain rfl:i=0:=by omega
   show CU l rc mo (n+1)+prc l (mo (n+1)) (n+1)=_;rw [aeO hl h (fun k hk=>hm k (by omega))];unfold prc;rw [if_neg (by omega),e,show ((n+1:Nat):Int)=(n:Int)+1 from rfl,Int.add_mul,Int.one_mul];show _+(l.getD 0 p0).2.2=_;omega
theorem aiW:RV (tr.getD 0 r0):=by
 refine ⟨⟨by decide,by decide,by decide,by decide⟩,fun i hi => ?_,by decide,fun i hi => ?_,by decide⟩
 ·exact absurd hi (by simp [tr])
 ·obtain rfl:i=0:=by have:i<1:=hi;omega
  decide
theorem YU:TV tr 0:=by
 refine ⟨by decide,fun i hi => ?_⟩;obtain rfl:i=0:=by have:i<1:=hi;omega
 exact ⟨aiW,fun k hk=>by omega⟩
theorem ahM (num:List UInt8):iy ((tr,0),num)=some (0,true):=by
 obtain ⟨r,e1,_,h,_⟩:=Gu tr 0 num;have k:FX tr num (((0:Nat):Int),true) := .inr ⟨0,by decide,rfl,by show Bg num [];simp [Bg],fun j hj _=>by
  obtain rfl:j=0:=by have:j<1:=hj;omega
  exact Nat.le_refl _⟩
 rw [e1,(h YU).uniq YU k];rfl
theorem ahN (num:List UInt8) {a b:Int} (hs:Spn a b) (h1:SE a b<=1000000):bV ((tr,0),(num,(a,b)))=some (1000*SE a b,0):=by
 rw [QD (i:=0) YU hs h1 (by decide) (ahM num)];have h0:=Lu a b;have e:CV (tr.getD 0 r0) 0 a (SE a b)=1000*SE a b:=by
  generalize SE a b=s at *
  unfold CV;have hp:PN 0 (tr.getD 0 r0).2.2.1 (tr.getD 0 r0).2.2.2.1 s=s:=by
   show PN 0 1 1 s=s;unfold PN;split
   ·omega
   ·split<;>omega
  rw [hp];split
  ·omega
  ·obtain ⟨n,hn⟩:∃n:Nat,s.toNat=n+1:=⟨s.toNat-1,by omega⟩
   rw [hn,aeO rfl aiW.2.2 (fun k hk=>by
    have:=YC (a:=a) (f:=0) (fi:=1) (st:=1) ⟨hs.1,Int.le_trans hs.2.1 hs.2.2⟩ (by omega) (by omega) (by omega) (k:=k) (by omega);show 0<=MO a 0 1 1 k/\MO a 0 1 1 k<=4000000000000000000;omega)]
   show (0:Int)+1000+(n:Int)*1000=1000*s;omega
 rw [e]
end Rt
theorem aeP:ni ()=some (tr,0):=rfl
theorem VL1 {B:List Int} {s n l now:Int} {b:BL} (h1:0<=s/\s<=(B.length:Int)/\0<=n/\n<=1048576) (h2:0<=now/\now<=1099511627776) (h3:0<=l/\l<=1048576) (h4:BK now b) (h5:b.2.2.2.2.2.2.1=0\/(1<=b.2.2.2.2.2.2.1/\b.2.2.2.2.2.2.1<=l)):VL (B,(s,(n,([b],(l,now))))):=by
 refine ⟨h1,h2,h3,?_,fun i hi => ?_⟩
 ·have:=lN [b];simp at this;show opn [b]<=256;omega
 ·obtain rfl:i=0:=by have:i<1:=hi;omega
  refine ⟨h4,?_⟩;by_cases hz:b.2.2.2.2.2.2.1=0
  ·exact .inl ⟨by show 0<opn [b];simp [opn,hz],fun h=>by omega⟩
  ·exact .inr ⟨Nat.le_trans (show opn [b]<=0 by simp [opn,hz]) (Nat.le_refl _),by
    rw [YH (Nat.zero_le _)];show 0+1<=b.2.2.2.2.2.2.1/\b.2.2.2.2.2.2.1<=l;omega⟩
theorem VL0:VL zG:=⟨by decide,by decide,by decide,by decide,fun i hi=>absurd hi (by simp [zG])⟩
def wA:BL:=([99],([97],([98],(1000,(0,(0,(0,(0,(0,false)))))))))
def wB:List Int:=[]++Jn.vH 0 1 (dB wA)
def w1:BL:=([99],([97],([98],(1000,(-1,(1000,(0,(0,(0,false)))))))))
def w2:BL:=([99],([97],([98],(1000,(2000,(2000,(0,(0,(0,false)))))))))
def w3:BL:=([99],([97],([98],(1000,(2000,(4500,(1,(3,(3000,false)))))))))
def wC:List Int:=wB++Jn.vH 1 2 (Dl [2000] [[99]])
def wD:List Int:=wC++Jn.vH 2 4 (Dl [4500,1,3,3000] [[99]])
theorem len1 (t:Int) (c:Tx):(Dl [t] [c]).length=10+c.length:=by
 rw [nD];simp only [List.flatMap_cons,List.flatMap_nil,List.length_append,Ak,List.length_cons,List.length_nil];omega
theorem WJ:wB.length=31:=by
 unfold wB;rw [List.nil_append,Jn.o8,dB,nD];simp [Ak,wA]
theorem GK:wC.length=56:=by
 unfold wC;rw [List.length_append,WJ,Jn.o8,len1];rfl
theorem GN:wD.length=105:=by
 unfold wD;rw [List.length_append,GK,Jn.o8,nD];simp [Ak]
theorem bk1:BK 1000 w1:=⟨by decide,by decide,.inl rfl,by decide,.inl (by decide)⟩
theorem bk2:BK 2000 w2:=⟨by decide,by decide,.inr (by decide),by decide,.inl (by decide)⟩
theorem bk3:BK 4500 w3:=⟨by decide,by decide,.inr (by decide),by decide,.inr ⟨by decide,by decide,by decide,by decide⟩⟩
theorem aeQ (g:LG) (c:Tx) (t:Int) (hl:g.2.2.2.1.length<=1000000) (hB:g.1.length<=900000):pY (g,(c,t))=some (ahA g 2 c t):=by
 have h:=ahB g 2 c t (.inl rfl) hl hB;obtain ⟨a1,a2,a3,a4,a5,a6⟩:=g;show ah (og ((a1,(a2,(a3,(a4,(a5,a6))))),(2,(c,t)))) _=_;rw [h];rfl
theorem aqO:nZ (zG,wA)=some ((wB,(0,(1,([w1],(0,1000))))),0):=by
 rw [ahy zG wA (by decide) (by decide)];unfold alV;rw [if_pos ⟨⟨VL0,by decide,by decide⟩,by decide⟩,if_neg (fun h=>absurd h.1 (by decide)),if_neg (by decide)];rfl
theorem apk {b:BL} (h:b.2.2.2.2.2.2.1=0):vI b.1 [b]/\dW b.1 [b]=0:=by
 have h2:dW b.1 [b]=0:=by simp [dW,LP]
 refine ⟨⟨?_,?_⟩,h2⟩
 ·rw [h2];simp [opn,h]
 ·rw [h2];rfl
theorem aqP:pY ((wB,(0,(1,([w1],(0,1000))))),([99],2000))=some ((wC,(0,(2,([w2],(0,2000))))),0):=by
 have hv:VL (wB,(0,(1,([w1],(0,1000))))):=VL1 (by rw [WJ];decide) (by decide) (by decide) bk1 (.inl rfl);rw [aeQ _ _ _ (by decide) (by show wB.length<=_;rw [WJ];decide)];unfold ahA;have hf:vI [99] [w1]/\dW [99] [w1]=0:=apk (b:=w1) rfl;rw [if_pos ⟨hv,by decide,by decide⟩];dsimp only;rw [if_pos hf.1];have e0:dW ([99]:Tx) [w1]=0:=hf.2;simp only [e0];rw [if_neg (fun h=>h.2 rfl),if_neg (by decide)];rfl
theorem aqQ:lJ (wC,(0,(2,([w2],(0,2000)))))=some (wC,(56,(2,([w2],(0,2000))))):=by
 have hv:VL (wC,(0,(2,([w2],(0,2000))))):=VL1 (by rw [GK];decide) (by decide) (by decide) bk2 (.inl rfl);rw [QM _ (by decide) (by show wC.length<=_;rw [GK];decide)];unfold ahL;rw [if_pos hv];simp only [GK];rfl
theorem aqR:coR tr 0 [98] 2000 4500=3000:=by
 unfold coR;rw [Rt.ahN [98] (by decide) (by decide)];rfl
theorem aqS:rZ ((wC,(0,(2,([w2],(0,2000))))),((tr,0),([99],4500)))=some ((wD,(0,(3,([w3],(1,4500))))),0):=by
 have hv:VL (wC,(0,(2,([w2],(0,2000))))):=VL1 (by rw [GK];decide) (by decide) (by decide) bk2 (.inl rfl);rw [ao7 _ _ _ _ _ (by decide) (by show wC.length<=_;rw [GK];decide)];unfold al1;have hf:vI [99] [w2]/\dW [99] [w2]=0:=apk (b:=w2) rfl;rw [if_pos ⟨⟨hv,by decide,by decide⟩,Rt.YU⟩];dsimp only;rw [if_pos hf.1];have e0:dW ([99]:Tx) [w2]=0:=hf.2;simp only [e0];have hse:Rt.SE 2000 4500=3:=by decide
 have hco:coR tr 0 w2.2.2.1 2000 4500=3000:=aqR;unfold jk Ri laF dE nmF;have eg:([w2]:List BL).getD 0 b0=w2:=rfl;simp only [eg];rw [if_neg (by decide),if_pos (show w2.2.2.2.2.1 ≠ -1 by decide),if_pos (show w2.2.2.2.2.1 ≠ -1 by decide),if_pos (show w2.2.2.2.2.1 ≠ -1 by decide)];have ea:w2.2.2.2.2.1=2000:=rfl;simp only [ea,hse,hco];rfl
theorem aqT:lJ (wD,(0,(3,([w3],(1,4500)))))=some (wD,(105,(3,([w3],(1,4500))))):=by
 have hv:VL (wD,(0,(3,([w3],(1,4500))))):=VL1 (by rw [GN];decide) (by decide) (by decide) bk3 (.inr (by decide));rw [QM _ (by decide) (by show wD.length<=_;rw [GN];decide)];unfold ahL;rw [if_pos hv];simp only [GN];rfl
theorem al7 {β:Type} (rs:List Ra) (fr:Int) (f:Bool->Option β):ah (lK (rs,fr)) f=f (decide (rs.length<=20)):=by
 unfold lK;rw [ay];congr 1;rw [decide_eq_decide];omega
theorem aeR (l:List BL) (b:BL):(yI l b).length<=l.length+1:=by
 unfold yI;simp only [List.length_append,List.length_take,List.length_drop,List.length_cons,List.length_nil];omega
theorem aeS (l:List BL) (p:Nat):(ji l p).length<=l.length:=by
 rw [ji,List.length_append,List.length_take,List.length_drop];omega
theorem BK.mono {n m:Int} {b:BL} (h:BK n b) (hm:n<=m):BK m b:=⟨h.1,⟨h.2.1.1,Int.le_trans h.2.1.2 hm⟩,h.2.2.1,⟨h.2.2.2.1.1,Int.le_trans h.2.2.2.1.2 hm⟩,h.2.2.2.2⟩
theorem al8 (x y:Int):x<=fV x y/\y<=fV x y/\(fV x y=x\/fV x y=y):=by unfold fV;split<;>omega
def INV (s:ST):Prop:=(∀b∈s.1,BK s.2.2.2 b/\b.2.2.2.2.2.2.1=0)/\PW s.1/\s.1.length<=256/\s.2.2.1=(s.2.1.length:Int) /\
 (∀i,i<s.2.1.length->BK s.2.2.2 (s.2.1.getD i b0)/\(s.2.1.getD i b0).2.2.2.2.2.2.1=(i:Int)+1)/\(0<=s.2.2.2/\s.2.2.2<=1099511627776)/\s.2.1.length<=1000000
theorem INV.az {s:ST} (h:INV s):AZ s.1:=fun b hb=>(h.1 b hb).2
theorem INV.op {s:ST} (h:INV s):Opn s.1:=al2 h.az h.2.1 (by have:=h.2.2.1;omega)
def s0:ST:=([],([],(0,0)))
theorem inv0:INV s0:=⟨fun b (hb:b∈([]:List BL))=>(by cases hb),List.Pairwise.nil,Nat.zero_le _,rfl,fun i (hi:i<0)=>absurd hi (Nat.not_lt_zero i),⟨Int.le_refl 0,(by omega:(0:Int)<=1099511627776)⟩,Nat.zero_le _⟩
def AOk (a:AC):Prop:=(a.1=1\/a.1=2\/a.1=3\/a.1=4\/a.1=5)/\(0<=a.2.1/\a.2.1<=1099511627776)/\0<=a.2.2.1/\0<=a.2.2.2.1/\0<=a.2.2.2.2.1
theorem aeT {k:Int} {d:List Int} {a:AC} (hb:Bytes d) (h:IC k d=some a):AOk a:=by
 unfold IC Ux at h;have hr:0<=(rN (d,false)).1/\(rN (d,false)).1<18446744073709551616:=BF hb;have hA:Bytes (rN (d,false)).2.1:=qU hb;generalize rN (d,false)=A at *
 obtain ⟨t,r,s⟩:=A;simp only at hr hA;split at h
 ·split at h
  ·cases h;exact ⟨.inr (.inr (.inr (.inr rfl))),⟨Int.le_refl 0,(by omega:(0:Int)<=1099511627776)⟩,hr.1,Int.le_refl 0,Int.le_refl 0⟩
  ·cases h
 ·split at h
  ·cases h
  ·rename_i hn;simp only [not_or] at hn;split at h
   ·unfold ahJ at h;split at h
    ·cases h;exact ⟨.inl rfl,⟨hr.1,by simpa using hn.2⟩,Int.le_refl 0,Int.le_refl 0,Int.le_refl 0⟩
    ·cases h
   ·split at h
    ·rename_i hk;unfold aeL at h;split at h
     ·cases h;exact ⟨hk.elim (fun e => .inr (.inl e)) (fun e => .inr (.inr (.inl e))),⟨hr.1,by simpa using hn.2⟩,Int.le_refl 0,Int.le_refl 0,Int.le_refl 0⟩
     ·cases h
    ·split at h
     ·unfold MF at h;have b1:Bytes (rN (r,s)).2.1:=qU hA;have b2:Bytes (rN (rN (r,s)).2).2.1:=qU b1;have c1:0<=(rN (r,s)).1:=(BF hA).1;have c2:0<=(rN (rN (r,s)).2).1:=(BF b1).1;have c3:0<=(rN (rN (rN (r,s)).2).2).1:=(BF b2).1;split at h
      ·cases h;exact ⟨.inr (.inr (.inr (.inl rfl))),⟨hr.1,by simpa using hn.2⟩,c1,c2,c3⟩
      ·cases h
     ·cases h
theorem xK {l:List BL} {p:Nat} (h:p<l.length):l.getD p b0∈l:=by
 rw [List.getD_eq_getElem?_getD,List.getElem?_eq_getElem h];exact List.getElem_mem h
theorem YV {a:AC} {s s':ST} (ha:AOk a) (h:INV s) (hl:s.2.1.length<1000000) (he:uZ a s=some s'):INV s'/\s'.2.1.length<=s.2.1.length+1:=by
 obtain ⟨i1,i2,i3,i4,i5,i6,i7⟩:=h;have haz:AZ s.1:=fun b hb=>(i1 b hb).2;obtain ⟨op,dn,la,no⟩:=s;obtain ⟨k,t,n,se,co,c,f,o⟩:=a;obtain ⟨hk,ht,hn,hse,hco⟩:=ha;simp only at i1 i2 i3 i4 i5 i6 i7 hk ht hn hse hco hl haz;have hm:=al8 no t;have hop:=haz.opn;unfold uZ at he;simp only at he;split at he
 ·by_cases hg:OKg dn n
  ·rw [iU hg] at he;simp only [cond_true,Option.some.injEq] at he;subst he;have hg1:=hg.1;have hg2:=hg.2.1;refine ⟨⟨i1,i2,i3,?_,fun i hi => ?_,i6,?_⟩,?_⟩
   ·show la=(((dn.set (n-1).toNat (gvn (dn.getD (n-1).toNat b0))).length:Nat):Int)
    rw [List.length_set];exact i4
   ·replace hi:i<(dn.set (n-1).toNat (gvn (dn.getD (n-1).toNat b0))).length:=hi;rw [List.length_set] at hi;show BK no ((dn.set (n-1).toNat (gvn (dn.getD (n-1).toNat b0))).getD i b0)/\((dn.set (n-1).toNat (gvn (dn.getD (n-1).toNat b0))).getD i b0).2.2.2.2.2.2.1=(i:Int)+1;rw [List.getD_eq_getElem?_getD,List.getElem?_set];obtain ⟨j1,j2⟩:=i5 i hi;by_cases e:(n-1).toNat=i
    ·rw [if_pos e,if_pos (by omega),Option.getD_some,e];refine ⟨⟨j1.1,j1.2.1,j1.2.2.1,j1.2.2.2.1,?_⟩,j2⟩;rcases j1.2.2.2.2 with q | q
     ·exact absurd q.1 (by omega)
     ·exact .inr q
    ·rw [if_neg e,<-List.getD_eq_getElem?_getD];exact ⟨j1,j2⟩
   ·show (dn.set (n-1).toNat (gvn (dn.getD (n-1).toNat b0))).length<=1000000;rw [List.length_set];exact i7
   ·show (dn.set (n-1).toNat (gvn (dn.getD (n-1).toNat b0))).length<=dn.length+1;rw [List.length_set];omega
  ·rw [mg hg] at he;cases he
 ·split at he
  ·by_cases hg:OKb op c f o
   ·rw [iU hg] at he;simp only [cond_true,Option.some.injEq] at he;subst he;refine ⟨⟨fun b hb => ?_,al4 i2 haz hg.1,?_,i4,fun i hi=>⟨(i5 i hi).1.mono hm.1,(i5 i hi).2⟩,?_,i7⟩,Nat.le_succ _⟩
    ·rcases ahK hb with rfl | hb
     ·exact ⟨⟨⟨hg.2.2.1.1,hg.2.2.1.2,hg.2.2.2.1,hg.2.2.2.2⟩,⟨ht.1,hm.2.1⟩,.inl rfl,⟨Int.le_refl _,hm.2.1⟩,.inl ⟨rfl,rfl,rfl,rfl⟩⟩,rfl⟩
     ·exact ⟨(i1 b hb).1.mono hm.1,(i1 b hb).2⟩
    ·have:=aeR op (c,(f,(o,(t,(-1,(t,(0,(0,(0,false)))))))));have h2:=hg.2.1;show (yI op _).length<=256;omega
    ·show 0<=fV no t/\fV no t<=1099511627776;omega
   ·rw [mg hg] at he;cases he
  ·split at he
   ·by_cases hg:OKe op la t n se co c
    ·rw [iU hg] at he;simp only [cond_true,Option.some.injEq] at he;subst he;have hlt:dW c op<op.length:=by have:=hg.1.1;omega
     have hx:=i1 _ (xK hlt);have hrl:=aeS op (dW c op);have hrb:∀b∈ji op (dW c op),BK (fV no t) b/\b.2.2.2.2.2.2.1=0:=fun b hb=>by
      have:b∈op:=by
       unfold ji at hb;rcases List.mem_append.1 hb with hb | hb
       ·exact List.mem_of_mem_take hb
       ·exact List.mem_of_mem_drop hb
      exact ⟨(i1 b this).1.mono hm.1,(i1 b this).2⟩
     have hmx:0<=fV no t/\fV no t<=1099511627776:=by omega
     obtain ⟨hF,hE,hC⟩:=hg;generalize op.getD (dW c op) b0=x at *
     by_cases hz:n=0
     ·simp only [if_pos hz];exact ⟨⟨hrb,aeM i2 _,by show (ji op (dW c op)).length<=256;omega,i4,fun i hi=>⟨(i5 i hi).1.mono hm.1,(i5 i hi).2⟩,hmx,i7⟩,Nat.le_succ _⟩
     ·simp only [if_neg hz];rcases hC with q | q
      ·exact absurd q.1 hz
      ·obtain ⟨q1,q2,q3,q4,q5,q6⟩:=q;refine ⟨⟨hrb,aeM i2 _,by show (ji op (dW c op)).length<=256;omega,?_,fun i hi => ?_,hmx,?_⟩,?_⟩
       ·show n=(((dn++[rcd x t n se co]).length:Nat):Int)
        rw [List.length_append];show n=((dn.length+1:Nat):Int)
        omega
       ·replace hi:i<(dn++[rcd x t n se co]).length:=hi;rw [List.length_append] at hi;replace hi:i<dn.length+1:=hi;show BK (fV no t) ((dn++[rcd x t n se co]).getD i b0)/\((dn++[rcd x t n se co]).getD i b0).2.2.2.2.2.2.1=(i:Int)+1;rw [List.getD_eq_getElem?_getD];by_cases e:i<dn.length
        ·rw [List.getElem?_append_left e,<-List.getD_eq_getElem?_getD];exact ⟨(i5 i e).1.mono hm.1,(i5 i e).2⟩
        ·obtain rfl:i=dn.length:=by omega
         rw [List.getElem?_append_right (Nat.le_refl _),Nat.sub_self];show BK (fV no t) (rcd x t n se co)/\n=_;obtain ⟨⟨x1,x2,x3,x4,x5⟩,x6⟩:=hx;refine ⟨⟨x1,⟨x2.1,by have:=x4.1;show x.2.2.2.1<=_;omega⟩,?_,⟨?_,hm.2.1⟩,.inr ⟨q1,q2,hco,q5⟩⟩,by omega⟩
         ·rcases x3 with x3 | x3
          ·exact .inl x3
          ·exact .inr ⟨x3.1,Int.le_trans x3.2 hE⟩
         ·show x.2.2.2.1<=t;have:=x4.1;omega
       ·show (dn++[rcd x t n se co]).length<=1000000;rw [List.length_append];show dn.length+1<=1000000;omega
       ·show (dn++[rcd x t n se co]).length<=dn.length+1;rw [List.length_append];exact Nat.le_refl _
    ·rw [mg hg] at he;cases he
   ·by_cases hg:OKt op k t c
    ·rw [iU hg] at he;simp only [cond_true,Option.some.injEq] at he;subst he;have hlt:dW c op<op.length:=by have:=hg.1.1;omega
     have hx:=i1 _ (xK hlt);obtain ⟨hF,hE,hC⟩:=hg;refine ⟨⟨fun b hb => ?_,al3 i2 hlt rfl,?_,i4,fun i hi=>⟨(i5 i hi).1.mono hm.1,(i5 i hi).2⟩,?_,i7⟩,Nat.le_succ _⟩
     ·rcases List.mem_or_eq_of_mem_set hb with hb | rfl
      ·exact ⟨(i1 b hb).1.mono hm.1,(i1 b hb).2⟩
      ·generalize op.getD (dW c op) b0=x at *
       obtain ⟨⟨x1,x2,x3,x4,x5⟩,x6⟩:=hx;refine ⟨⟨x1,⟨x2.1,by have:=x4.1;show x.2.2.2.1<=fV no t;omega⟩,?_,⟨?_,hm.2.1⟩,?_⟩,x6⟩
       ·show (if k=2 then t else x.2.2.2.2.1) = -1\/(x.2.2.2.1<=(if k=2 then t else x.2.2.2.2.1)/\(if k=2 then t else x.2.2.2.2.1)<=t)
        have:=x4.1;split
        ·exact .inr ⟨by omega,Int.le_refl _⟩
        ·rcases x3 with x3 | x3
         ·exact .inl x3
         ·exact .inr ⟨x3.1,Int.le_trans x3.2 hE⟩
       ·show x.2.2.2.1<=t;have:=x4.1;omega
       ·rcases x5 with q | q
        ·exact .inl q
        ·exact absurd x6 q.1
     ·show (op.set _ _).length<=256;rw [List.length_set];exact i3
     ·show 0<=fV no t/\fV no t<=1099511627776;omega
    ·rw [mg hg] at he;cases he
noncomputable def rpB (x11:List (Int×List Int)):(Int×ST)->Option ((Int×ST) ⊕ (ST ⊕ (LG×Int))) :=
 (fun (v12,(v13,(v14,(v15,v16)))) =>
 bif (decide (v12<(x11.length:Int))) then
 bif (decide (((0:Int)<=v12)/\(v12<(x11.length:Int)))) then
 ah x11[v12.toNat]? fun x17 =>
 bif ((decide (v13.length=v13.length))&&(decide (v14.length=v14.length))) then
 ah (BD ((x17.1,x17.2),(v13,(v14,(v15,v16))))) fun (x19,(x20,(x21,(x22,x23)))) =>
 bif (!x19) then
 au (au (some ((([]:List Int),((0:Int),((0:Int),(([]:List jK),((0:Int),(0:Int)))))),(5:Int))))
 else
 bif ((decide (x20.length<=x20.length))&&(decide (x21.length<=x21.length))) then
 some (Sum.inl ((IntKind.wrap .i64 (v12+(1:Int))),((x20.take x20.length),((x21.take x21.length),(x22,x23)))))
 else none
 else none
 else none
 else
 au (bif ((decide (v13.length<=v13.length))&&(decide (v14.length<=v14.length))) then
 some (Sum.inl ((v13.take v13.length),((v14.take v14.length),(v15,v16))))
 else none))
noncomputable def caB {δ:Type} (v25 v26:List BL):(Int×Int)->Option ((Int×Int) ⊕ (Int ⊕ δ)) :=
 (fun (v29,v30) =>
 bif (decide (v29<(2:Int))) then
 bif (decide (((0:Int)<=v29)/\(v29<(2:Int)))) then
 ah ((v25.take v25.length)::((v26.take v26.length)::([]:List (List jK))))[v29.toNat]? fun x31 =>
 ah (some (IntKind.wrap .i64 (v30+(x31.length:Int)))) fun x32 =>
 bif (decide (x32<(0:Int))) then
 none
 else
 some (Sum.inl ((IntKind.wrap .i64 (v29+(1:Int))),x32))
 else none
 else
 au (some (Sum.inl v30)))
noncomputable def cbB {δ:Type} (v25 v26:List BL):(Int×List BL)->Option ((Int×List BL) ⊕ (List BL ⊕ δ)) :=
 (fun (v36,v37) =>
 bif (decide (v36<(2:Int))) then
 bif (decide (((0:Int)<=v36)/\(v36<(2:Int)))) then
 ah ((v25.take v25.length)::((v26.take v26.length)::([]:List (List jK))))[v36.toNat]? fun x38 =>
 bif (decide (v37.length<=v37.length)) then
 bif (decide (((List.length ((v37.take v37.length)++x38))*104)<=140737488355328)) then
 ah (some ((v37.take v37.length)++x38)) fun x39 =>
 bif (decide (x39.length<=x39.length)) then
 some (Sum.inl ((IntKind.wrap .i64 (v36+(1:Int))),(x39.take x39.length)))
 else none
 else none
 else none
 else none
 else
 au (bif (decide (v37.length<=v37.length)) then
 some (Sum.inl (v37.take v37.length))
 else none))
noncomputable def Yu (a2:List Ra) (a3:Int) (v25:List BL):(Int×LG)->Option ((Int×LG) ⊕ (LG ⊕ (LG×Int))) :=
 (fun (v43,(v44,(v45,(v46,(v47,(v48,v49)))))) =>
 bif (decide (v43<(v25.length:Int))) then
 bif (decide (((0:Int)<=(0:Int))/\((0:Int)<(v47.length:Int)))) then
 ah v47[0]? fun x50 =>
 ah (jf ((v44,(v45,(v46,(v47,(v48,v49))))),((a2,a3),((0:Int),x50.2.2.2.2.2.1)))) fun ((x52,(x53,(x54,(x55,(x56,x57))))),x58) =>
 bif (decide (x58≠(0:Int))) then
 au (au (some ((([]:List Int),((0:Int),((0:Int),(([]:List jK),((0:Int),(0:Int)))))),x58)))
 else
 some (Sum.inl ((IntKind.wrap .i64 (v43+(1:Int))),(x52,(x53,(x54,(x55,(x56,x57)))))))
 else none
 else
 au (some (Sum.inl (v44,(v45,(v46,(v47,(v48,v49))))))))
theorem al9 (a1:List Int) (a2:List Ra) (a3 a4:Int):kE (a1,((a2,a3),a4)) =
 ah (bC (a2,a3)) fun x5 =>
 bif (!x5) then
  some ((([]:List Int),((0:Int),((0:Int),(([]:List jK),((0:Int),(0:Int)))))),(2:Int))
 else
  ah (bF (a4,((0:Int),(1099511627776:Int)))) fun x6 =>
  bif (!x6) then
   some ((([]:List Int),((0:Int),((0:Int),(([]:List jK),((0:Int),(0:Int)))))),(2:Int))
  else
   ah (jv a1) fun ((x8,(x9,x10)),x11) =>
   aB (aA (rpB x11) ((0:Int),(([]:List jK),(([]:List jK),((0:Int),(0:Int)))))) fun (v25,(v26,(v27,v28))) =>
   bif (decide (a4<v28)) then
    some ((([]:List Int),((0:Int),((0:Int),(([]:List jK),((0:Int),(0:Int)))))),(9:Int))
   else
    bif ((decide (v25.length<=v25.length))&&(decide (v26.length<=v26.length))) then
     aB (aB (aA (caB v25 v26) ((0:Int),(0:Int))) fun v34 =>
 ah (Ig v34) fun x35 =>
 aB (bif (decide (x35.length<=x35.length)) then
 aA (cbB v25 v26) ((0:Int),(x35.take x35.length))
 else none) fun v41 =>
 bif (decide (v41.length<=v41.length)) then
 some (Sum.inl (v41.take v41.length))
 else none) fun v42 =>
     aB (bif (decide (v42.length<=v42.length)) then
 aA (Yu a2 a3 v25) ((0:Int),(x8,(x9,(x10,((v42.take v42.length),(v27,a4))))))
 else none) fun (v60,(v61,(v62,(v63,(v64,v65))))) =>
     some ((v60,(v61,(v62,(v63,(v64,v65))))),(0:Int))
    else none:=rfl
noncomputable def run:List (Int×List Int)->ST->Option ST
 | [],s=>some s
 | x::l,s=>match IC x.1 x.2 with | none=>none | some a=>match uZ a s with | none=>none | some s'=>run l s'
def RBy (l:List (Int×List Int)):Prop:=∀x∈l,Bytes x.2
theorem ql {x:Int×List Int} {l:List (Int×List Int)} {s:ST}:run (x::l) s=match IC x.1 x.2 with | none=>none | some a=>match uZ a s with | none=>none | some s'=>run l s':=rfl
theorem ahQ {l:List (Int×List Int)} {i:Nat} (hi:i<l.length) (hl:l.length<=900000) (hb:RBy l) (op dn:List BL) (la no:Int) (h:INV (op,(dn,(la,no)))) (hd:dn.length<=i) :
 (∃s',run [l.getD i (0,[])] (op,(dn,(la,no)))=some s'/\INV s'/\s'.2.1.length<=i+1/\rpB l ((i:Int),(op,(dn,(la,no))))=some (.inl (((i+1:Nat):Int),s'))) \/
 (run [l.getD i (0,[])] (op,(dn,(la,no)))=none/\rpB l ((i:Int),(op,(dn,(la,no))))=some (.inr (.inr (zG,5)))):=by
 obtain ⟨x,hx,hxb⟩:=get_at ((0,[]):Int×List Int) hi;have hbx:Bytes x.2:=by
  rw [<-hx,List.getD_eq_getElem?_getD,List.getElem?_eq_getElem hi];exact hb _ (List.getElem_mem hi)
 have hla:la=(dn.length:Int):=h.2.2.2.1;have hj:=apd x.1 x.2 op dn la no h.op (by omega) (by omega) hbx;rw [hx];unfold rpB;simp (disch:=(first | omega | (simp only [bM];omega))) only [↓aN,aQ,if_pos,if_neg,↓hxb,decide_true,Bool.and_self];rcases hj with ⟨a,s',h1,h2,h3⟩ | ⟨h1,s',h3⟩
 ·have hk:=YV (aeT hbx h1) h (by show dn.length<1000000;omega) h2;refine .inl ⟨s',?_,hk.1,?_,?_⟩
  ·rw [ql,h1];simp only [h2];rfl
  ·have:=hk.2;show s'.2.1.length<=i+1;have e:((op,(dn,(la,no))):ST).2.1.length=dn.length:=rfl;omega
  ·rw [h3];obtain ⟨o1,d1,l1,n1⟩:=s';simp (disch:=(first | omega | (simp only [bM];omega))) only [↓aN,aQ,decide_true,Bool.and_self,aj];rfl
 ·refine .inr ⟨?_,?_⟩
  ·rcases h1 with h1 | ⟨a,h1,h2⟩
   ·rw [ql,h1]
   ·rw [ql,h1];simp only [h2]
  ·rw [h3];obtain ⟨o1,d1,l1,n1⟩:=s';simp only [↓aN,aQ];rfl
theorem run_bind (x:Int×List Int) (l:List (Int×List Int)) (s:ST):run (x::l) s=match run [x] s with | none=>none | some s'=>run l s':=by
 rw [ql,ql];cases IC x.1 x.2 with
 | none=>rfl
 | some a =>
   simp only;cases uZ a s with
   | none=>rfl
   | some s'=>rfl
theorem Jg {l:List (Int×List Int)} (hl:l.length<=900000) (hb:RBy l):∀(n i:Nat) (s:ST),l.length-i=n->i<=l.length->INV s->s.2.1.length<=i ->
 (∃s',run (l.drop i) s=some s'/\INV s'/\s'.2.1.length<=l.length/\aA (rpB l) ((i:Int),s)=some (.inl s'))\/(run (l.drop i) s=none/\aA (rpB l) ((i:Int),s)=some (.inr (zG,5)))
 | 0,i,s,hn,hi,hI,hd=>by
   obtain rfl:i=l.length:=by omega
   refine .inl ⟨s,by rw [List.drop_length];rfl,hI,hd,?_⟩;rw [dN];obtain ⟨op,dn,la,no⟩:=s;have e:rpB l (((l.length:Nat):Int),(op,(dn,(la,no))))=some (.inr (.inl (op,(dn,(la,no))))):=by
    unfold rpB;simp (disch:=(first | omega | (simp only [bM];omega))) only [↓aN,aQ,if_pos,if_neg,decide_true,Bool.and_self]
   rw [e]
 | n+1,i,s,hn,hi,hI,hd=>by
   have hlt:i<l.length:=by omega
   have hdr:l.drop i=l.getD i (0,[])::l.drop (i+1):=by
    rw [List.drop_eq_getElem_cons hlt,List.getD_eq_getElem?_getD,List.getElem?_eq_getElem hlt];rfl
   rw [hdr,run_bind,dN];obtain ⟨op,dn,la,no⟩:=s;rcases ahQ hlt hl hb op dn la no hI hd with ⟨s',h1,h2,h3,h4⟩ | ⟨h1,h4⟩
   ·rw [h1,h4];exact Jg hl hb n (i+1) s' (by omega) (by omega) h2 h3
   ·rw [h1,h4];exact .inr ⟨rfl,rfl⟩
theorem aqV {δ:Type} (op dn:List BL) (h1:op.length<=1000000) (h2:dn.length<=1000000):aA (caB (δ:=δ) op dn) (0,0)=some (.inl (((op.length+dn.length:Nat):Int))):=by
 have e0:caB (δ:=δ) op dn (0,0)=some (.inl (1,(op.length:Int))):=by
  unfold caB;simp (disch:=(first | omega | (simp only [bM];omega))) only [↓aN,aQ,if_pos,if_neg,decide_true,Bool.and_self,aj,Int.zero_add,Int.toNat_zero,List.getElem?_cons_zero]
 have e1:caB (δ:=δ) op dn (1,(op.length:Int))=some (.inl (2,((op.length+dn.length:Nat):Int))):=by
  unfold caB;simp (disch:=(first | omega | (simp only [bM];omega))) only [↓aN,aQ,if_pos,if_neg,decide_true,Bool.and_self,aj,Int.toNat_one,List.getElem?_cons_succ,List.getElem?_cons_zero];rw [Int.natCast_add];rfl
 have e2:caB (δ:=δ) op dn (2,((op.length+dn.length:Nat):Int))=some (.inr (.inl ((op.length+dn.length:Nat):Int))):=by
  unfold caB;simp (disch:=(first | omega | (simp only [bM];omega))) only [↓aN,aQ,if_pos,if_neg]
 rw [dN,e0];simp only;rw [dN,e1];simp only;rw [dN,e2]
theorem aqW {δ:Type} (op dn:List BL) (h1:op.length<=400000) (h2:dn.length<=400000):aA (cbB (δ:=δ) op dn) (0,[])=some (.inl (op++dn)):=by
 have e0:cbB (δ:=δ) op dn (0,[])=some (.inl (1,op)):=by
  unfold cbB;simp (disch:=(first | omega | (simp only [bM];omega))) only [↓aN,aQ,if_pos,if_neg,decide_true,Bool.and_self,aj,Int.toNat_zero,List.getElem?_cons_zero,List.nil_append];rfl
 have e1:cbB (δ:=δ) op dn (1,op)=some (.inl (2,op++dn)):=by
  unfold cbB;simp (disch:=(first | omega | (simp only [bM];omega))) only [↓aN,aQ,if_pos,if_neg,decide_true,Bool.and_self,aj,Int.toNat_one,List.getElem?_cons_succ,List.getElem?_cons_zero];rfl
 have e2:cbB (δ:=δ) op dn (2,op++dn)=some (.inr (.inl (op++dn))):=by
  unfold cbB;simp (disch:=(first | omega | (simp only [bM];omega))) only [↓aN,aQ,if_pos,if_neg]
 rw [dN,e0];simp only;rw [dN,e1];simp only;rw [dN,e2]
noncomputable def cls (rs:List Ra) (fr:Int):Nat->LG->LG×Int
 | 0,g=>(g,0)
 | n+1,g=>if (jk rs fr g 0 (g.2.2.2.1.getD 0 b0).2.2.2.2.2.1 g.2.2.2.2.2).2≠0 then jk rs fr g 0 (g.2.2.2.1.getD 0 b0).2.2.2.2.2.1 g.2.2.2.2.2 else cls rs fr n (jk rs fr g 0 (g.2.2.2.1.getD 0 b0).2.2.2.2.2.1 g.2.2.2.2.2).1
def FI (n:Nat) (g:LG):Prop:=n<=g.2.2.2.1.length/\(∀i,i<n->Opb (g.2.2.2.1.getD i b0)/\(0<=(g.2.2.2.1.getD i b0).2.2.2.2.2.1/\(g.2.2.2.1.getD i b0).2.2.2.2.2.1<=1099511627776))/\g.2.2.2.1.length<=1000000/\g.1.length+1000*n<=900000/\(0<=g.2.1/\g.2.1<=(g.1.length:Int))/\0<=g.2.2.1/\(0<=g.2.2.2.2.1/\g.2.2.2.2.1<=1048576)
theorem ama (l:List BL):ji l 0=l.drop 1:=by unfold ji;rw [List.take_zero,List.nil_append]
theorem YW (rs:List Ra) (fr:Int) {n:Nat} {g:LG} (h:FI (n+1) g) (he:(jk rs fr g 0 (g.2.2.2.1.getD 0 b0).2.2.2.2.2.1 g.2.2.2.2.2).2=0):FI n (jk rs fr g 0 (g.2.2.2.1.getD 0 b0).2.2.2.2.2.1 g.2.2.2.2.2).1:=by
 obtain ⟨h1,h2,h3,h4,h5,h6,h7⟩:=h;unfold jk at he ⊢;split at he
 ·cases he
 ·rename_i hn;rw [if_neg hn];have hx:=h2 0 (Nat.succ_pos n);have hlen:(dE rs fr g.2.2.2.2.1 (g.2.2.2.1.getD 0 b0) (g.2.2.2.1.getD 0 b0).2.2.2.2.2.1).length<=240:=by
   have hl2:=hx.1.2.2;revert hl2;generalize g.2.2.2.1.getD 0 b0=y;intro hl2;unfold dE;rw [nD];simp [Ak];omega
  have hget:∀i,i<n->(Ri rs fr g.2.2.2.1 g.2.2.2.2.1 0 (g.2.2.2.1.getD 0 b0).2.2.2.2.2.1).getD i b0=g.2.2.2.1.getD (i+1) b0:=fun i hi=>by
   have e:(g.2.2.2.1.drop 1).getD i b0=g.2.2.2.1.getD (i+1) b0:=by
    rw [List.getD_eq_getElem?_getD,List.getElem?_drop,<-List.getD_eq_getElem?_getD,Nat.add_comm]
   unfold Ri;rw [ama];split
   ·rw [List.getD_eq_getElem?_getD,List.getElem?_append_left (by rw [List.length_drop];omega),<-List.getD_eq_getElem?_getD];exact e
   ·exact e
  have hbl:(Ri rs fr g.2.2.2.1 g.2.2.2.2.1 0 (g.2.2.2.1.getD 0 b0).2.2.2.2.2.1).length<=g.2.2.2.1.length/\g.2.2.2.1.length<=(Ri rs fr g.2.2.2.1 g.2.2.2.2.1 0 (g.2.2.2.1.getD 0 b0).2.2.2.2.2.1).length+1:=by
   unfold Ri;rw [ama];split
   ·rw [List.length_append,List.length_drop,List.length_singleton];omega
   ·rw [List.length_drop];omega
  have hla:0<=laF g.2.2.2.1 g.2.2.2.2.1 0/\laF g.2.2.2.1 g.2.2.2.2.1 0<=1048576:=by
   unfold laF;split
   ·rename_i ha;have:¬g.2.2.2.2.1>=1048576:=fun k=>hn (.inl ⟨ha,k⟩);omega
   ·exact h7
  refine ⟨?_,fun i hi => ?_,?_,?_,?_,?_,hla⟩
  ·show n<=(Ri rs fr g.2.2.2.1 g.2.2.2.2.1 0 (g.2.2.2.1.getD 0 b0).2.2.2.2.2.1).length;omega
  ·show Opb ((Ri rs fr g.2.2.2.1 g.2.2.2.2.1 0 (g.2.2.2.1.getD 0 b0).2.2.2.2.2.1).getD i b0)/\_<=((Ri rs fr g.2.2.2.1 g.2.2.2.2.1 0 (g.2.2.2.1.getD 0 b0).2.2.2.2.2.1).getD i b0).2.2.2.2.2.1/\((Ri rs fr g.2.2.2.1 g.2.2.2.2.1 0 (g.2.2.2.1.getD 0 b0).2.2.2.2.2.1).getD i b0).2.2.2.2.2.1<=_;rw [hget i hi];exact h2 (i+1) (by omega)
  ·show (Ri rs fr g.2.2.2.1 g.2.2.2.2.1 0 (g.2.2.2.1.getD 0 b0).2.2.2.2.2.1).length<=1000000;omega
  ·show (g.1++Jn.vH g.2.2.1 4 _).length+1000*n<=900000;rw [List.length_append,Jn.o8];omega
  ·show 0<=g.2.1/\g.2.1<=(((g.1++Jn.vH g.2.2.1 4 _).length:Nat):Int)
   rw [List.length_append];omega
  ·show 0<=g.2.2.1+1;omega
theorem Jd (rs:List Ra) (fr:Int) (op:List BL) (hop:op.length<=1000000):∀(n k:Nat) (g:LG),k+n=op.length->FI n g ->
 aA (Yu rs fr op) ((k:Int),g)=some (if (cls rs fr n g).2≠0 then .inr (cls rs fr n g) else .inl (cls rs fr n g).1)
 | 0,k,g,hk,h=>by
   rw [dN];obtain ⟨a1,a2,a3,a4,a5,a6⟩:=g;have e:Yu rs fr op ((k:Int),(a1,(a2,(a3,(a4,(a5,a6))))))=some (.inr (.inl (a1,(a2,(a3,(a4,(a5,a6))))))):=by
    unfold Yu;simp (disch:=(first | omega | (simp only [bM];omega))) only [↓aN,aQ,if_neg]
   rw [e];rfl
 | n+1,k,g,hk,h=>by
   rw [dN];have hst:=YW rs fr h;obtain ⟨h1,h2,h3,h4,h5,h6,h7⟩:=h;obtain ⟨x,hx,hxb⟩:=get_at b0 (l:=g.2.2.2.1) (i:=0) (by omega);have hx2:=h2 0 (Nat.succ_pos n);have hf:=aiU rs fr g (p:=0) (g.2.2.2.1.getD 0 b0).2.2.2.2.2.1 (by omega) h3 (by omega) h5 h6 h7 hx2.1 hx2.2;rw [hx] at hf hst;obtain ⟨a1,a2,a3,a4,a5,a6⟩:=g;simp only at hf hst hx hxb;have e:Yu rs fr op ((k:Int),(a1,(a2,(a3,(a4,(a5,a6))))))=some (if (jk rs fr (a1,(a2,(a3,(a4,(a5,a6))))) 0 x.2.2.2.2.2.1 a6).2≠0 then .inr (.inr (zG,(jk rs fr (a1,(a2,(a3,(a4,(a5,a6))))) 0 x.2.2.2.2.2.1 a6).2)) else .inl (((k+1:Nat):Int),(jk rs fr (a1,(a2,(a3,(a4,(a5,a6))))) 0 x.2.2.2.2.2.1 a6).1)):=by
    unfold Yu;have hxb':∀ {β:Type} (f:BL->Option β),ah a4[0]? f=f x:=fun f=>hxb f;have h1':0<a4.length:=by have:n+1<=a4.length:=h1;omega
    simp (disch:=(first | omega | (simp only [bM];omega))) only [↓aN,aQ,if_pos,↓hxb'];rw [show ((0:Int))=(((0:Nat)):Int) from rfl,hf];generalize jk rs fr (a1,(a2,(a3,(a4,(a5,a6))))) 0 x.2.2.2.2.2.1 a6=r;obtain ⟨⟨r1,r2,r3,r4,r5,r6⟩,r7⟩:=r;simp only [↓aN,aQ];by_cases hr:r7=0
    ·simp (disch:=(first | omega | (simp only [bM];omega))) only [↓aN,aQ,hr,ne_eq,not_true_eq_false,if_false,aj];rfl
    ·simp (disch:=(first | omega | (simp only [bM];omega))) only [↓aN,aQ,hr,ne_eq,not_false_iff,if_true];rfl
   rw [e];unfold cls;simp only [hx];by_cases hr:(jk rs fr (a1,(a2,(a3,(a4,(a5,a6))))) 0 x.2.2.2.2.2.1 a6).2=0
   ·simp only [hr,ne_eq,not_true_eq_false,if_false];exact Jd rs fr op hop n (k+1) _ (by omega) (hst hr)
   ·simp only [hr,ne_eq,not_false_iff,if_true];have hz:∀r:LG×Int,r=jk rs fr (a1,(a2,(a3,(a4,(a5,a6))))) 0 x.2.2.2.2.2.1 a6->r.2≠0->r.1=zG:=fun r e hr=>by
     subst e;unfold jk at hr ⊢;split at hr
     ·rename_i hc;rw [if_pos hc]
     ·exact absurd rfl hr
    rw [<-hz _ rfl hr]
theorem ahR {b:List Int} (h:Bytes b) (n:Nat):Bytes (Jn.oh b n).1.2:=by
 unfold Jn.oh;split
 ·exact fun x hx=>by cases hx
 ·split
  ·exact fun x hx=>by cases hx
  ·split
   ·exact fun x hx=>by cases hx
   ·split
    ·exact fun x hx=>h x (List.mem_of_mem_drop (List.mem_of_mem_take hx))
    ·exact fun x hx=>by cases hx
theorem Jh {b:List Int} (hb:Bytes b) {r:Jn.Ai×(Int×Int)} (hr:aA (Jn.mM b) ([],0)=some r):RBy r.1:=by
 have key:∀x r,xq (Jn.mM b) x r->RBy x.1->RBy r.1:=by
  intro x r h
  induction h with
  | done hd =>
    intro hI;unfold Jn.mM at hd;split at hd
    ·split at hd
     ·cases hd;exact hI
     ·cases hd
    ·cases hd;exact hI
  | step hn _ ih =>
    intro hI;refine ih ?_;unfold Jn.mM at hn;split at hn
    ·split at hn
     ·cases hn
     ·cases hn;intro y hy;rcases List.mem_append.1 hy with hy | hy
      ·exact hI y hy
      ·rw [List.mem_singleton.1 hy];exact ahR (fun z hz=>hb z (List.mem_of_mem_drop hz)) _
    ·cases hn
 exact key _ _ (nH.1 hr) (fun x hx=>by cases hx)
noncomputable def aa8 (b:List Int) (rs:List Ra) (fr now:Int) (l:Jn.Ai) (n:Int):LG×Int :=
 bif tf (Rt.TV rs fr/\0<=now/\now<=1099511627776) then
  (match run l s0 with
  | none=>(zG,5)
  | some s=>if now<s.2.2.2 then (zG,9) else cls rs fr s.1.length (b.take n.toNat,(n,((l.length:Int),(s.1++s.2.1,(s.2.2.1,now))))))
 else (zG,2)
theorem amb {now:Int} {b:BL} (h:BK now b) (h0:b.2.2.2.2.2.2.1=0) (hn:now<=1099511627776):Opb b/\(0<=b.2.2.2.2.2.1/\b.2.2.2.2.2.1<=1099511627776):=by
 obtain ⟨x1,x2,x3,x4,x5⟩:=h;rcases x5 with q | q
 ·exact ⟨⟨⟨q.1,q.2.1,q.2.2.1⟩,x3.elim .inl (fun k => .inr (by omega)),x1.2.1⟩,by omega,by omega⟩
 ·exact absurd h0 q.1
theorem aeV {s:ST} (h:INV s) (hd:s.2.1.length<=400000) {B:List Int} {sy c now:Int} (hB:B.length<=600000) (hs:0<=sy/\sy<=(B.length:Int)) (hc:0<=c):FI s.1.length (B,(sy,(c,(s.1++s.2.1,(s.2.2.1,now))))):=by
 obtain ⟨i1,i2,i3,i4,i5,i6,i7⟩:=h;refine ⟨?_,fun i hi => ?_,?_,?_,hs,hc,?_⟩
 ·show s.1.length<=(s.1++s.2.1).length;rw [List.length_append];omega
 ·show Opb ((s.1++s.2.1).getD i b0)/\0<=((s.1++s.2.1).getD i b0).2.2.2.2.2.1/\((s.1++s.2.1).getD i b0).2.2.2.2.2.1<=1099511627776;rw [List.getD_eq_getElem?_getD,List.getElem?_append_left hi,<-List.getD_eq_getElem?_getD];have:=i1 _ (xK hi);exact amb this.1 this.2 i6.2
 ·show (s.1++s.2.1).length<=1000000;rw [List.length_append];omega
 ·show B.length+1000*s.1.length<=900000;omega
 ·show 0<=s.2.2.1/\s.2.2.1<=1048576;omega
theorem aa9 (b:List Int) (rs:List Ra) (fr now:Int) (hb:Bytes b) (hl:b.length<=600000) {l:Jn.Ai} {n e:Int} (hr:aA (Jn.mM b) ([],0)=some (l,(n,e))) :
 kE (b,((rs,fr),now))=some (aa8 b rs fr now l n):=by
 obtain ⟨o1,o2,o3⟩:=Jn.xJ hr;simp only at o1 o2 o3;have hby:RBy l:=Jh hb hr;have hj:=Jn.aa0 b hb (by omega) hr;rw [al9];unfold aa8;by_cases ht:Rt.TV rs fr
 ·by_cases hn:0<=now/\now<=1099511627776
  ·rw [iU ⟨ht,hn⟩,cond_true];have hR:∀ {β:Type} (f:Bool->Option β),ah (bC (rs,fr)) f=f true:=fun f=>by rw [Rt.jh ht];rfl
   simp only [↓aN,aQ,↓hR,↓jD,hn,and_self,decide_true];rw [hj];simp only [↓aN,aQ];rcases Jg (l:=l) (by omega) hby l.length 0 s0 (by omega) (Nat.zero_le _) inv0 (Nat.zero_le _) with ⟨s,h1,h2,h3,h4⟩ | ⟨h1,h4⟩
   ·rw [List.drop_zero] at h1;have h4':aA (rpB l) (0,([],([],(0,0))))=some (.inl s):=h4;rw [h1,h4'];have hfi:=aeV h2 (show s.2.1.length<=400000 by omega) (B:=b.take n.toNat) (sy:=n) (c:=(l.length:Int)) (now:=now) (by rw [List.length_take];omega) (by rw [List.length_take];omega) (by omega);have h256:=h2.2.2.1;obtain ⟨op,dn,la,no⟩:=s;simp only at h3 hfi h256;simp only [↓aN,aQ];by_cases hw:now<no
    ·simp only [hw,↓aN,aQ,if_true];rfl
    ·have hg:∀ {β:Type} (f:List BL->Option β),ah (Ig ((((op.length+dn.length:Nat)):Int))) f=f []:=fun f=>by
      unfold Ig;rw [decide_eq_true (show (0:Int)<=((op.length+dn.length:Nat):Int)/\((op.length+dn.length:Nat):Int)<=1000000 by omega)];rfl
     have hca:∀ {δ:Type},aA (caB (δ:=δ) op dn) (0,0)=_:=fun {δ}=>aqV op dn (by omega) (by omega);have hcb:∀ {δ:Type},aA (cbB (δ:=δ) op dn) (0,[])=_:=fun {δ}=>aqW op dn (by omega) (by omega);have hlp:=Jd rs fr op (by omega) op.length 0 _ (by omega) hfi;simp only [hw,↓aN,aQ,if_false,decide_true,Bool.and_self,↓hca,↓hg,List.length_nil,List.take_nil,↓hcb];rw [show ((0:Int))=(((0:Nat)):Int) from rfl,hlp];generalize cls rs fr op.length _=r;obtain ⟨⟨r1,r2,r3,r4,r5,r6⟩,r7⟩:=r;by_cases hz:r7=0
     ·subst hz;rfl
     ·simp only [ne_eq,hz,not_false_iff,if_true];rfl
   ·rw [List.drop_zero] at h1;have h4':aA (rpB l) (0,([],([],(0,0))))=some (.inr (zG,5)):=h4;rw [h1,h4'];rfl
  ·rw [mg (fun k=>hn k.2),cond_false];have hR:∀ {β:Type} (f:Bool->Option β),ah (bC (rs,fr)) f=f true:=fun f=>by rw [Rt.jh ht];rfl
   simp only [↓aN,aQ,↓hR,↓jD,hn,decide_false];rfl
 ·rw [mg (fun k=>ht k.1),cond_false];have hR:∀ {β:Type} (f:Bool->Option β),ah (bC (rs,fr)) f=f false:=fun f=>by rw [Rt.xH ht];rfl
  simp only [↓aN,aQ,↓hR];rfl
def DZ (dn:List BL):Prop:=∀b∈dn,b.2.2.2.2.2.2.1≠0
theorem INV.dz {s:ST} (h:INV s):DZ s.2.1:=fun b hb=>by
 obtain ⟨i,hi,e⟩:=List.mem_iff_getElem.1 hb;have h5:=(h.2.2.2.2.1 i hi).2;rw [List.getD_eq_getElem?_getD,List.getElem?_eq_getElem hi,e] at h5;replace h5:b.2.2.2.2.2.2.1=(i:Int)+1:=h5;omega
theorem amc (c:Tx):∀ {dn:List BL},DZ dn->dW c dn=0
 | [],_=>rfl
 | b::l,h=>by rw [dW,if_neg (fun k=>h b (by simp) k.1)]
theorem amd:∀ {dn:List BL},DZ dn->opn dn=0
 | [],_=>rfl
 | b::l,h=>by rw [opn,if_neg (h b (by simp))]
theorem GR {dn:List BL} (hd:DZ dn):∀ {op:List BL},AZ op->opn (op++dn)=op.length
 | [],_=>by rw [List.nil_append,amd hd];rfl
 | b::l,h=>by rw [List.cons_append,opn,if_pos (h b (by simp)),GR hd (fun x hx=>h x (by simp [hx]))];rfl
theorem QZ (c:Tx) {dn:List BL} (hd:DZ dn):∀(op:List BL),dW c (op++dn)=dW c op
 | []=>by rw [List.nil_append,amc c hd];rfl
 | b::l=>by rw [List.cons_append,dW,dW,QZ c hd l]
theorem ame (c:Tx) {op dn:List BL} (ha:AZ op) (hd:DZ dn):vI c (op++dn)↔vI c op:=by
 unfold vI;rw [QZ c hd,GR hd ha,ha.opn];constructor
 ·rintro ⟨h1,h2⟩;rw [qQ h1] at h2;exact ⟨h1,h2⟩
 ·rintro ⟨h1,h2⟩;rw [qQ h1];exact ⟨h1,h2⟩
theorem aeW {op dn:List BL} (ha:AZ op) (hp:PW op) (hd:DZ dn):QT (op++dn):=fun i j hij hj=>by
 rw [GR hd ha] at hj;rw [qQ (by omega),qQ hj];exact WI hp ha i j hij (by rw [ha.opn];exact hj)
theorem ahS {op dn:List BL} (b:BL) (ha:AZ op) (hd:DZ dn):yI (op++dn) b=yI op b++dn:=by
 have h1:=sK b.1 op;have h2:=ha.opn;unfold yI;rw [QZ b.1 hd,List.take_append_of_le_length (by omega),List.drop_append_of_le_length (by omega),List.append_assoc,List.append_assoc,List.append_assoc]
theorem amf {op dn:List BL} {p:Nat} (x:BL) (h:p<op.length):(op++dn).set p x=op.set p x++dn:=by
 rw [List.set_append,if_pos h]
theorem amg {op dn:List BL} {p:Nat} (h:p<op.length):ji (op++dn) p=ji op p++dn:=by
 unfold ji;rw [List.take_append_of_le_length (by omega),List.drop_append_of_le_length (by omega),List.append_assoc]
def amh:List (Nat×PL):=[(68853957121,(.carry [.tmp 0 false [dY],.tmp 9 false [(.own 10000005 2 bT)]])),(9241421688456087558,(.carry [.tmp 11 false [dI],.tmp 0 false [dY],.tmp 9 false [(.own 10000004 2 bT)]])),(35253226045953,(.carry [.tmp 0 false [dY],.tmp 10 false [(.own 10000003 9 .str)]])),(2422583247098632616804865,(.carry [.tmp 0 false [dY],.tmp 9 false [(.own 10000002 2 bT)],.tmp 12 false [dI],.dead 10000004])),(4731607904558101301254,(.carry [.tmp 14 false [dI],.tmp 0 false [dY],.tmp 10 false [(.own 10000001 9 .str)]])),(166478653090017823607932654836777473,(.carry [.tmp 13 false [dI],.tmp 12 false [dI]])),(22344386578242371764161483709200483133687814,(.carry [.tmp 13 false [dI],.tmp 12 false [dI]]))]
noncomputable def gX:(LN×(Int×Int))->Option (LN×((List LU)×Bool)):=fun (a1,(a2,a3)) =>
 aB (aA (fun (v4,(v5,v6)) =>
 bif (decide (v4<a2)) then
 aB (bif (decide ((v5.length:Int)<(8:Int))) then
 au (au (au (some (([]:List Int),(([]:List LU),false)))))
 else
 bif (decide (((0:Int)<=(0:Int))/\((0:Int)<(v5.length:Int)))) then
 ah v5[0]? fun x7 =>
 bif (decide (x7 > (127:Int))) then
 au (au (au (some (([]:List Int),(([]:List LU),false)))))
 else
 aB (aA (fun (v8,v9) =>
 bif (decide (v8<(8:Int))) then
 bif (decide (((0:Int)<=v8)/\(v8<(v5.length:Int)))) then
 ah v5[v8.toNat]? fun x11 =>
 some (Sum.inl ((IntKind.wrap .i64 (v8+(1:Int))),(IntKind.wrap .i64 ((IntKind.wrap .i64 ((256:Int)*v9))+(IntKind.wrap .i64 x11)))))
 else none
 else
 au (some (Sum.inl (v8,v9)))) ((0:Int),(0:Int))) fun (v15,v16) =>
 bif (decide (v6.length<=v6.length)) then
 bif (decide (((List.length ((v6.take v6.length)++(v16::([]:List Int))))*8)<=140737488355328)) then
 ah (some ((v6.take v6.length)++(v16::([]:List Int)))) fun x17 =>
 bif (decide (((0:Int)<=(8:Int))/\((8:Int)<=(v5.length:Int)))) then
 bif (decide (x17.length<=x17.length)) then
 some (Sum.inl ((v5.drop 8),((x17.take x17.length),v16)))
 else none
 else none
 else none
 else none
 else none) fun (v19,(v20,v21)) =>
 bif (decide (v20.length<=v20.length)) then
 some (Sum.inl ((IntKind.wrap .i64 (v4+(1:Int))),(v19,(v20.take v20.length))))
 else none
 else
 au (bif (decide (v6.length<=v6.length)) then
 some (Sum.inl (v5,(v6.take v6.length)))
 else none)) ((0:Int),(a1,([]:List Int)))) fun (v23,v24) =>
 aB (aA (fun (v25,(v26,v27)) =>
 bif (decide (v25<a3)) then
 bif (decide ((v26.length:Int)<(2:Int))) then
 au (au (some (([]:List Int),(([]:List LU),false))))
 else
 bif (decide (((0:Int)<=(0:Int))/\((0:Int)<(v26.length:Int)))) then
 ah v26[0]? fun x28 =>
 bif (decide (((0:Int)<=(1:Int))/\((1:Int)<(v26.length:Int)))) then
 ah v26[1]? fun x31 =>
 ah (some (IntKind.wrap .i64 ((IntKind.wrap .i64 ((256:Int)*(IntKind.wrap .i64 x28)))+(IntKind.wrap .i64 x31)))) fun x33 =>
 bif (decide ((v26.length:Int)<(IntKind.wrap .i64 ((2:Int)+x33)))) then
 au (au (some (([]:List Int),(([]:List LU),false))))
 else
 ah (some (IntKind.wrap .i64 ((2:Int)+x33))) fun x35 =>
 bif ((decide (((0:Int)<=x35)/\(x35<=(v26.length:Int))))&&(decide (((0:Int)<=(2:Int))/\((2:Int)<=((x35.toNat:Nat):Int))))) then
 ah (some (List.take (x35.toNat-2) (v26.drop 2))) fun x36 =>
 bif (decide (v27.length<=v27.length)) then
 bif (decide (((List.length ((v27.take v27.length)++((jS x36)::([]:List LU))))*16)<=140737488355328)) then
 ah (some ((v27.take v27.length)++((jS x36)::([]:List LU)))) fun x37 =>
 ah (some (IntKind.wrap .i64 ((2:Int)+x33))) fun x38 =>
 bif (decide (((0:Int)<=x38)/\(x38<=(v26.length:Int)))) then
 bif (decide (x37.length<=x37.length)) then
 some (Sum.inl ((IntKind.wrap .i64 (v25+(1:Int))),((List.drop x38.toNat v26),(x37.take x37.length))))
 else none
 else none
 else none
 else none
 else none
 else none
 else none
 else
 au (bif (decide (v27.length<=v27.length)) then
 some (Sum.inl (v26,(v27.take v27.length)))
 else none)) ((0:Int),(v23,([]:List LU)))) fun (v41,v42) =>
 bif ((decide (v24.length<=v24.length))&&(decide (v42.length<=v42.length))) then
 some ((v24.take v24.length),((v42.take v42.length),(decide ((v41.length:Int)=(0:Int)))))
 else none
noncomputable def ami:List (Nat×CE):=[]
theorem abb:dD Tryz.prog ami:=trivial
noncomputable def apl:CE:=⟨[(.tmp 0 false [dY]),(.tmp 1 false [dI]),(.tmp 2 false [dI])],[(.tmp 0 false [(.dat (.list bT))]),(.tmp 1 false [(.dat (.list .str))]),(.tmp 2 false [dO])],gX⟩
theorem apm:aS Tryz.prog 75 apl :=kU amh TM abb Tryz.func75
def amj:List (Nat×PL):=[(4731607869374266082817,(.carry [.tmp 57 false [dO]])),(166478651854509775337071146885972481,(.carry []))]
noncomputable def gK:(Int×LN)->Option ((Int×(Int×(Int×(Int×(Int×(LU×(LU×LU)))))))×Bool):=fun (a1,a2) =>
 bif (decide (a1=(1:Int))) then
 ah (gX (a2,((1:Int),(3:Int)))) fun (x4,(x5,x6)) =>
 bif (!x6) then
 some ((a1,((0:Int),((0:Int),((0:Int),((0:Int),(([]:List UInt8),(([]:List UInt8),([]:List UInt8)))))))),false)
 else
 bif (decide (((0:Int)<=(0:Int))/\((0:Int)<(x4.length:Int)))) then
 ah x4[0]? fun x7 =>
 bif (decide (x7 > (1099511627776:Int))) then
 some ((a1,((0:Int),((0:Int),((0:Int),((0:Int),(([]:List UInt8),(([]:List UInt8),([]:List UInt8)))))))),false)
 else
 bif (decide (((0:Int)<=(0:Int))/\((0:Int)<(x4.length:Int)))) then
 ah x4[0]? fun x8 =>
 bif (decide (((0:Int)<=(0:Int))/\((0:Int)<(x5.length:Int)))) then
 ah x5[0]? fun x9 =>
 bif (decide (((0:Int)<=(1:Int))/\((1:Int)<(x5.length:Int)))) then
 ah x5[1]? fun x10 =>
 bif (decide (((0:Int)<=(2:Int))/\((2:Int)<(x5.length:Int)))) then
 ah x5[2]? fun x11 =>
 some ((a1,(x8,((0:Int),((0:Int),((0:Int),(x9,(x10,x11))))))),true)
 else none
 else none
 else none
 else none
 else none
 else
 aB (bif (decide (a1=(2:Int))) then
 some (Sum.inl true)
 else
 some (Sum.inl (decide (a1=(3:Int))))) fun v12 =>
 bif v12 then
 ah (gX (a2,((1:Int),(1:Int)))) fun (x14,(x15,x16)) =>
 bif (!x16) then
 some ((a1,((0:Int),((0:Int),((0:Int),((0:Int),(([]:List UInt8),(([]:List UInt8),([]:List UInt8)))))))),false)
 else
 bif (decide (((0:Int)<=(0:Int))/\((0:Int)<(x14.length:Int)))) then
 ah x14[0]? fun x17 =>
 bif (decide (x17 > (1099511627776:Int))) then
 some ((a1,((0:Int),((0:Int),((0:Int),((0:Int),(([]:List UInt8),(([]:List UInt8),([]:List UInt8)))))))),false)
 else
 bif (decide (((0:Int)<=(0:Int))/\((0:Int)<(x14.length:Int)))) then
 ah x14[0]? fun x18 =>
 bif (decide (((0:Int)<=(0:Int))/\((0:Int)<(x15.length:Int)))) then
 ah x15[0]? fun x19 =>
 some ((a1,(x18,((0:Int),((0:Int),((0:Int),(x19,(([]:List UInt8),([]:List UInt8)))))))),true)
 else none
 else none
 else none
 else
 bif (decide (a1=(4:Int))) then
 ah (gX (a2,((4:Int),(1:Int)))) fun (x21,(x22,x23)) =>
 aB (bif (!x23) then
 au (some ((a1,((0:Int),((0:Int),((0:Int),((0:Int),(([]:List UInt8),(([]:List UInt8),([]:List UInt8)))))))),false))
 else
 bif (decide (((0:Int)<=(0:Int))/\((0:Int)<(x21.length:Int)))) then
 ah x21[0]? fun x24 =>
 bif (decide (x24 > (1099511627776:Int))) then
 au (some ((a1,((0:Int),((0:Int),((0:Int),((0:Int),(([]:List UInt8),(([]:List UInt8),([]:List UInt8)))))))),false))
 else
 bif (decide (((0:Int)<=(1:Int))/\((1:Int)<(x21.length:Int)))) then
 ah x21[1]? fun x25 =>
 bif (decide (x25=(0:Int))) then
 bif (decide (((0:Int)<=(2:Int))/\((2:Int)<(x21.length:Int)))) then
 ah x21[2]? fun x26 =>
 bif (decide (x26≠(0:Int))) then
 au (some ((a1,((0:Int),((0:Int),((0:Int),((0:Int),(([]:List UInt8),(([]:List UInt8),([]:List UInt8)))))))),false))
 else
 bif (decide (((0:Int)<=(3:Int))/\((3:Int)<(x21.length:Int)))) then
 ah x21[3]? fun x27 =>
 bif (decide (x27≠(0:Int))) then
 au (some ((a1,((0:Int),((0:Int),((0:Int),((0:Int),(([]:List UInt8),(([]:List UInt8),([]:List UInt8)))))))),false))
 else
 some (Sum.inl ())
 else none
 else none
 else
 some (Sum.inl ())
 else none
 else none) fun _ =>
 bif (decide (((0:Int)<=(0:Int))/\((0:Int)<(x21.length:Int)))) then
 ah x21[0]? fun x28 =>
 bif (decide (((0:Int)<=(1:Int))/\((1:Int)<(x21.length:Int)))) then
 ah x21[1]? fun x29 =>
 bif (decide (((0:Int)<=(2:Int))/\((2:Int)<(x21.length:Int)))) then
 ah x21[2]? fun x30 =>
 bif (decide (((0:Int)<=(3:Int))/\((3:Int)<(x21.length:Int)))) then
 ah x21[3]? fun x31 =>
 bif (decide (((0:Int)<=(0:Int))/\((0:Int)<(x22.length:Int)))) then
 ah x22[0]? fun x32 =>
 some ((a1,(x28,(x29,(x30,(x31,(x32,(([]:List UInt8),([]:List UInt8)))))))),true)
 else none
 else none
 else none
 else none
 else none
 else
 bif (decide (a1=(5:Int))) then
 ah (gX (a2,((1:Int),(0:Int)))) fun (x34,(x35,x36)) =>
 bif (!x36) then
 some ((a1,((0:Int),((0:Int),((0:Int),((0:Int),(([]:List UInt8),(([]:List UInt8),([]:List UInt8)))))))),false)
 else
 bif (decide (((0:Int)<=(0:Int))/\((0:Int)<(x34.length:Int)))) then
 ah x34[0]? fun x37 =>
 some ((a1,((0:Int),(x37,((0:Int),((0:Int),(([]:List UInt8),(([]:List UInt8),([]:List UInt8)))))))),true)
 else none
 else
 some ((a1,((0:Int),((0:Int),((0:Int),((0:Int),(([]:List UInt8),(([]:List UInt8),([]:List UInt8)))))))),false)
noncomputable def amk:List (Nat×CE):=[(75,apl)]
theorem abd:dD Tryz.prog amk:=⟨apm,trivial⟩
noncomputable def apn:CE:=⟨[(.tmp 0 true [yV,dY])],[(.tmp 0 true [yV,dI,dI,dI,dI,dS,dS,dS]),(.tmp 1 false [dO])],gK⟩
theorem apo:aS Tryz.prog 54 apn :=kU amj dR abd Tryz.func54
def aml:List (Nat×PL):=[(68853957121,(.carry [.mix 10 [dY,dI,dI,(.dat (.list oD)),dI,dI]])),(9241421688456087558,(.carry [.tmp 7 false [dI],.mix 10 [dY,dI,dI,(.dat (.list oD)),dI,dI]]))]
noncomputable def jo:LN->Option ((BN)×Bool):=fun a1 =>
 ah (gI a1) fun ((x3,(x4,x5)),x6) =>
 aB (aA (fun (v7,(v8,(v9,(v10,(v11,(v12,v13)))))) =>
 bif (decide (v7<(x6.length:Int))) then
 bif (decide (((0:Int)<=v7)/\(v7<(x6.length:Int)))) then
 ah x6[v7.toNat]? fun x14 =>
 ah (gK (x14.1,x14.2)) fun ((x16,(x17,(x18,(x19,(x20,(x21,(x22,x23))))))),x24) =>
 bif (!x24) then
 au (au (some ((([]:List Int),((0:Int),((0:Int),(([]:List jK),((0:Int),(0:Int)))))),false)))
 else
 ah (aZ ((v8,(v9,(v10,(v11,(v12,v13))))),(x16,(x17,(x18,(x19,(x20,(x21,(x22,x23))))))))) fun ((x26,(x27,(x28,(x29,(x30,x31))))),x32) =>
 bif (!x32) then
 au (au (some ((([]:List Int),((0:Int),((0:Int),(([]:List jK),((0:Int),(0:Int)))))),false)))
 else
 some (Sum.inl ((IntKind.wrap .i64 (v7+(1:Int))),(x26,(x27,(x28,(x29,(x30,x31)))))))
 else none
 else
 au (some (Sum.inl (v8,(v9,(v10,(v11,(v12,v13)))))))) ((0:Int),(([]:List Int),((0:Int),((0:Int),(([]:List jK),((0:Int),(0:Int)))))))) fun (v34,(v35,(v36,(v37,(v38,v39))))) =>
 some ((x3,(x4,(x5,(v37,(v38,v39))))),true)
noncomputable def apq:CE:=⟨[(.tmp 0 false [dY])],[(.tmp 0 true [dY,dI,dI]),(.tmp 1 false [(.dat (.list (.pair qm (.list qm))))])],gI⟩
noncomputable def amm:List (Nat×CE):=[(53,apq),(55,alr),(54,apn)]
theorem abe:dD Tryz.prog amm:=⟨akq,aiE,apo,trivial⟩
noncomputable def apr:CE:=⟨[(.tmp 0 false [dY])],[(.tmp 0 true [dY,dI,dI,(.dat (.list oD)),dI,dI]),(.tmp 1 false [dO])],jo⟩
theorem aps:aS Tryz.prog 23 apr :=kU aml dR abe Tryz.func23
def amn:List (Nat×PL):=[(262657,(.carry [.mix 0 [dY,dI,dI,(.dat (.list oD)),dI,dI]])),(68853696518,(.carry [.mix 0 [dY,dI,dI,(.dat (.list oD)),dI,dI]]))]
noncomputable def kM:((BN)×(((List (LU×(Int×(Int×(Int×(List ((Int×(Int×Int))×(Int×Int))))))))×Int)×Int))->Option ((BN)×Int):=fun ((a1,(a2,(a3,(a4,(a5,a6))))),((a7,a8),a9)) =>
 aB (aA (fun (v10,(v11,(v12,(v13,(v14,v15))))) =>
 ah (bW (v10,(v11,(v12,(v13,(v14,v15)))))) fun x16 =>
 bif (decide (x16 > (0:Int))) then
 bif (decide (((0:Int)<=(0:Int))/\((0:Int)<(v13.length:Int)))) then
 ah v13[0]? fun x17 =>
 ah (jC ((v10,(v11,(v12,(v13,(v14,v15))))),((a7,a8),((0:Int),x17.2.2.2.2.2.1)))) fun ((x19,(x20,(x21,(x22,(x23,x24))))),x25) =>
 bif (decide (x25≠(0:Int))) then
 au (au (some ((([]:List Int),((0:Int),((0:Int),(([]:List jK),((0:Int),(0:Int)))))),x25)))
 else
 some (Sum.inl (x19,(x20,(x21,(x22,(x23,x24))))))
 else none
 else
 au (some (Sum.inl (v10,(v11,(v12,(v13,(v14,v15)))))))) (a1,(a2,(a3,(a4,(a5,a6)))))) fun (v26,(v27,(v28,(v29,(v30,v31))))) =>
 some ((v26,(v27,(v28,(v29,(v30,a9))))),(0:Int))
noncomputable def amo:List (Nat×CE):=[(56,ag3),(57,aog)]
theorem abf:dD Tryz.prog amo:=⟨aea,aoh,trivial⟩
noncomputable def apt:CE:=⟨[(.tmp 0 true [dY,dI,dI,(.dat (.list oD)),dI,dI]),(.tmp 1 true [(.dat (.list (.pair .str (.pair bT (.pair bT (.pair bT (.list (.pair (.pair qm (.pair bT bT)) (.pair bT bT))))))))),dI]),(.tmp 2 false [dI])],[(.tmp 0 true [dY,dI,dI,(.dat (.list oD)),dI,dI]),(.tmp 1 false [yV])],kM⟩
theorem apu:aS Tryz.prog 24 apt :=kU amn dR abf Tryz.func24
def apv:List (Nat×PL):=[(262657,(.carry []))]
noncomputable def gJ:(LN×(((List (LU×(Int×(Int×(Int×(List ((Int×(Int×Int))×(Int×Int))))))))×Int)×Int))->Option ((BN)×Int):=fun (a1,((a2,a3),a4)) =>
 aB (ah (bK (a2,a3)) fun x5 =>
 bif (!x5) then
 au (some ((([]:List Int),((0:Int),((0:Int),(([]:List jK),((0:Int),(0:Int)))))),(2:Int)))
 else
 bif (decide (a4<(0:Int))) then
 au (some ((([]:List Int),((0:Int),((0:Int),(([]:List jK),((0:Int),(0:Int)))))),(2:Int)))
 else
 bif (decide (a4 > (1099511627776:Int))) then
 au (some ((([]:List Int),((0:Int),((0:Int),(([]:List jK),((0:Int),(0:Int)))))),(2:Int)))
 else
 some (Sum.inl ())) fun _ =>
 ah (jo a1) fun ((x7,(x8,(x9,(x10,(x11,x12))))),x13) =>
 bif (!x13) then
 some ((([]:List Int),((0:Int),((0:Int),(([]:List jK),((0:Int),(0:Int)))))),(5:Int))
 else
 bif (decide (a4<x12)) then
 some ((([]:List Int),((0:Int),((0:Int),(([]:List jK),((0:Int),(0:Int)))))),(9:Int))
 else
 ah (kM ((x7,(x8,(x9,(x10,(x11,x12))))),((a2,a3),a4))) fun ((x15,(x16,(x17,(x18,(x19,x20))))),x21) =>
 some ((x15,(x16,(x17,(x18,(x19,x20))))),x21)
noncomputable def aqX:CE:=⟨[(.tmp 0 true [(.dat (.list (.pair .str (.pair bT (.pair bT (.pair bT (.list (.pair (.pair qm (.pair bT bT)) (.pair bT bT))))))))),dI])],[(.tmp 0 false [dO])],bK⟩
noncomputable def apw:List (Nat×CE):=[(22,aqX),(23,apr),(24,apt)]
theorem aeX:dD Tryz.prog apw:=⟨air,aps,apu,trivial⟩
noncomputable def ce7:CE:=⟨[(.tmp 0 false [dY]),(.tmp 1 true [(.dat (.list (.pair .str (.pair bT (.pair bT (.pair bT (.list (.pair (.pair qm (.pair bT bT)) (.pair bT bT))))))))),dI]),(.tmp 2 false [dI])],[(.tmp 0 true [dY,dI,dI,(.dat (.list oD)),dI,dI]),(.tmp 1 false [yV])],gJ⟩
theorem aqY:aS Tryz.prog 7 ce7 :=kU apv dR aeX Tryz.func7
def apx:List (Nat×PL):=[]
noncomputable def gB:(LN×(((List (LU×(Int×(Int×(Int×(List ((Int×(Int×Int))×(Int×Int))))))))×Int)×Int))->Option Bool:=fun (a1,((a2,a3),a4)) =>
 bif (decide ((a1.length:Int) > (100000:Int))) then
 ah (iK ()) fun x5 =>
 some x5
 else
 ah (lK (a2,a3)) fun x6 =>
 bif (!x6) then
 ah (iK ()) fun x7 =>
 some x7
 else
 ah (kE (a1,((a2,a3),a4))) fun ((x9,(x10,(x11,(x12,(x13,x14))))),x15) =>
 ah (gJ (a1,((a2,a3),a4))) fun ((x17,(x18,(x19,(x20,(x21,x22))))),x23) =>
 ah (iT ((x9,(x10,(x11,(x12,(x13,x14))))),(x17,(x18,(x19,(x20,(x21,x22))))))) fun x24 =>
 bif (!x24) then
 some false
 else
 bif (decide (x15≠x23)) then
 some false
 else
 ah (some (IntKind.wrap .i64 (Int.tdiv (a1.length:Int) (2:Int)))) fun x25 =>
 bif (decide (((0:Int)<=x25)/\(x25<=(a1.length:Int)))) then
 ah (kE ((List.take x25.toNat a1),((a2,a3),a4))) fun ((x28,(x29,(x30,(x31,(x32,x33))))),x34) =>
 ah (some (IntKind.wrap .i64 (Int.tdiv (a1.length:Int) (2:Int)))) fun x35 =>
 bif (decide (((0:Int)<=x35)/\(x35<=(a1.length:Int)))) then
 ah (gJ ((List.take x35.toNat a1),((a2,a3),a4))) fun ((x38,(x39,(x40,(x41,(x42,x43))))),x44) =>
 ah (iT ((x28,(x29,(x30,(x31,(x32,x33))))),(x38,(x39,(x40,(x41,(x42,x43))))))) fun x45 =>
 bif x45 then
 bif (decide (x34=x44)) then
 ah (iK ()) fun x46 =>
 some x46
 else
 some false
 else
 some false
 else none
 else none
noncomputable def apy:List (Nat×CE):=[(8,ce8),(4,ce4),(5,ce5),(6,ce6),(7,ce7)]
theorem aeY:dD Tryz.prog apy:=⟨aqE,aqF,aqN,aqM,aqY,trivial⟩
noncomputable def ce3:CE:=⟨[(.tmp 0 false [dY]),(.tmp 1 true [(.dat (.list (.pair .str (.pair bT (.pair bT (.pair bT (.list (.pair (.pair qm (.pair bT bT)) (.pair bT bT))))))))),dI]),(.tmp 2 false [dI])],[(.tmp 0 false [dO])],gB⟩
theorem aqZ:aS Tryz.prog 3 ce3 :=kU apx dR aeY Tryz.func3
end Go.Proofs.YtkpijdndakljjaaGreat

namespace Go.Proofs.YtkpijdndakljjaaGreat.Jn
open Go.RowKit
set_option maxHeartbeats 4000000 in
theorem ahT (b:List Int) (n:Int) (hb:Bytes b) (hl:b.length<=9223372036854775806) (hn:0<=n/\n<1048576):∃r,jB (b,n)=some r/\(r=true↔Wrong b n):=by
 unfold jB;simp only [ay,aI,aF,aG,aJ,aO,aP,aK,List.take_length,Nat.le_refl,if_true,Nat.mul_one,Int.mul_one,cond_true,cond_false];have hx:∀i,0<=b.getD i 0/\b.getD i 0<=255:=fun i=>hb.getD i;rw [show (4:Int)=((4:Nat):Int) from rfl,Ah n 4 hn.1 (by omega) (by omega)];simp only [ay,aI,aF,aG,aJ,aO,aP,aK,List.take_length,Nat.le_refl,if_true,Nat.mul_one,Int.mul_one,cond_true,cond_false];rw [if_pos (by rw [dA];omega),if_pos (by rw [List.length_append,dA];simp),show [167,0]++be 4 n=uX n from rfl]
 have hs:=pV (υ:=Int) (β:=Unit ⊕ Bool) (body:=fun x=>if x<6 then if x<(b.length:Int) then if x≠1 then if 0<=x/\x<(b.length:Int) then ah b[x.toNat]? fun x6=>if 0<=x/\x<((uX n).length:Int) then ah (uX n)[x.toNat]? fun x7=>if x6≠x7 then some (Sum.inr (Sum.inr true)) else some (Sum.inl (IntKind.wrap .i64 (x+1))) else none else none else some (Sum.inl (IntKind.wrap .i64 (x+1))) else some (Sum.inr (Sum.inl ())) else some (Sum.inr (Sum.inl ())))
  (fun i=>(i:Int)) (min 6 b.length) (fun i=>i≠1/\b.getD i 0≠(uX n).getD i 0) (r0 := .inl ()) (r1 := .inr true) (x:=0) rfl
  (fun i hi hbad=>by
    rw [if_pos (by omega),if_pos (by omega),aj (by omega)];by_cases h1:i=1
    ·rw [if_neg (by omega)];rfl
    ·rw [if_pos (by omega),if_pos (by omega),Ie 0 (by omega)];simp only [ay,aI,aF,aG,aJ,aO,aP,aK,List.take_length,Nat.le_refl,if_true,Nat.mul_one,Int.mul_one,cond_true,cond_false];rw [if_pos (by rw [qg];omega),Ie 0 (by rw [qg];omega)];simp only [ay,aI,aF,aG,aJ,aO,aP,aK,List.take_length,Nat.le_refl,if_true,Nat.mul_one,Int.mul_one,cond_true,cond_false];rw [if_neg (fun h=>hbad ⟨h1,h⟩)];rfl)
  (fun i hi hbad=>by
    rw [if_pos (by omega),if_pos (by omega),if_pos (by have:=hbad.1;omega),if_pos (by omega),Ie 0 (by omega)];simp only [ay,aI,aF,aG,aJ,aO,aP,aK,List.take_length,Nat.le_refl,if_true,Nat.mul_one,Int.mul_one,cond_true,cond_false];rw [if_pos (by rw [qg];omega),Ie 0 (by rw [qg];omega)];simp only [ay,aI,aF,aG,aJ,aO,aP,aK,List.take_length,Nat.le_refl,if_true,Nat.mul_one,Int.mul_one,cond_true,cond_false];rw [if_pos hbad.2])
  (by
    by_cases h6:b.length<6
    ·rw [if_pos (by omega),if_neg (by omega)]
    ·rw [if_neg (by omega)])
 rcases hs with ⟨⟨i,h1,h2⟩,hs⟩ | ⟨hno,hs⟩
 ·refine ⟨true,?_,iff_of_true rfl (.inr ⟨i,by omega,by omega,.inl ⟨by omega,h2.1,h2.2⟩⟩)⟩;exact OB hs
 ·have nob:∀i,i<6->¬YE b n i:=fun i hi hb=>by
   obtain ⟨q1,q2⟩:=hb;rcases q2 with ⟨_,q3,q4⟩ | ⟨q3,_⟩ | ⟨q3,_⟩
   ·exact hno ⟨i,by omega,q3,q4⟩
   ·omega
   ·omega
  have key:Wrong b n↔((8<=b.length/\256*b.getD 6 0+b.getD 7 0 > 4096)\/(9<=b.length/\b.getD 8 0≠255-b.getD 6 0)\/(10<=b.length/\b.getD 9 0≠255-b.getD 7 0)):=by
   constructor
   ·rintro (h | ⟨i,h1,h2⟩)
    ·exact .inl h
    ·by_cases h6:i<6
     ·exact (nob i h6 h2).elim
     ·obtain ⟨q1,q2⟩:=h2;rcases q2 with ⟨q2,_⟩ | ⟨rfl,q2⟩ | ⟨rfl,q2⟩
      ·omega
      ·exact .inr (.inl ⟨by omega,q2⟩)
      ·exact .inr (.inr ⟨by omega,q2⟩)
   ·rintro (h | ⟨h1,h2⟩ | ⟨h1,h2⟩)
    ·exact .inl h
    ·exact .inr ⟨8,by omega,by omega,.inr (.inl ⟨rfl,h2⟩)⟩
    ·exact .inr ⟨9,by omega,by omega,.inr (.inr ⟨rfl,h2⟩)⟩
  rw [key]
  suffices hg:∀X:Option Bool,(X=some (decide ((8<=b.length/\256*b.getD 6 0+b.getD 7 0 > 4096)\/(9<=b.length/\b.getD 8 0≠255-b.getD 6 0)\/(10<=b.length/\b.getD 9 0≠255-b.getD 7 0))))->∃r,X=some r/\(r=true↔((8<=b.length/\256*b.getD 6 0+b.getD 7 0 > 4096)\/(9<=b.length/\b.getD 8 0≠255-b.getD 6 0)\/(10<=b.length/\b.getD 9 0≠255-b.getD 7 0))) by
   refine hg _ ?_;refine jU (a:=()) hs ?_;have h6:=hx 6;have h7:=hx 7;have h8:=hx 8;have h9:=hx 9;have g:∀i,i<b.length->b[i]? = some (b.getD i 0):=fun i hi=>qN 0 hi;have fin:∀(p:Prop) [Decidable p] (r:Bool),(r=true↔p)->some r=some (decide p):=fun p _ r h=>by rw [Option.some.injEq,Bool.eq_iff_iff,h,decide_eq_true_iff]
   by_cases c8:8<=b.length<;>by_cases c9:9<=b.length<;>by_cases c10:10<=b.length<;>try omega
   all_goals simp (disch:=omega) only [ay,aI,aF,aG,aJ,aO,aP,aK,List.take_length,Nat.le_refl,if_true,Nat.mul_one,Int.mul_one,cond_true,cond_false,if_pos,if_neg,aj,g]
   all_goals (repeat' split)
   all_goals (refine fin _ _ ?_;simp only [decide_eq_true_eq,iff_true,true_iff,false_iff,reduceCtorEq];omega)
  intro X hX;exact ⟨_,hX,by simp⟩
section
variable {b:List Int} {n:Nat}
end
set_option maxHeartbeats 4000000 in
theorem apz (b:List Int) (n:Nat) (hb:Bytes b) (hl:b.length<=1000000):kK (b,(n:Int))=some (oh b n):=by
 unfold kK;have hx:∀i,0<=b.getD i 0/\b.getD i 0<=255:=fun i=>hb.getD i;have x6:=hx 6;have x7:=hx 7;have x1:=hx 1;have hs:=QH hb;have g:∀i,i<b.length->b[i]? = some (b.getD i 0):=fun i hi=>qN 0 hi;simp only [ay,aI,aF,aG,aJ,aO,aP,aK,List.take_length,Nat.le_refl,if_true,Nat.mul_one,Int.mul_one,cond_true,cond_false];by_cases hn:n>=1048576
 ·rw [if_pos (by omega),yG (.inl hn)]
 rw [if_neg (by omega)];obtain ⟨r,hr,hrw⟩:=ahT b n hb (by omega) (by omega);refine iq hr ?_;by_cases hw:Wrong b n
 ·rw [yG (.inr hw),hrw.2 hw];rfl
 have hrf:r=false:=by cases r with | false=>rfl | true=>exact (hw (hrw.1 rfl)).elim
 have hnw:¬(n>=1048576\/Wrong b n):=by rintro (h | h);exact hn h;exact hw h
 rw [hrf];simp only [ay,aI,aF,aG,aJ,aO,aP,aK,List.take_length,Nat.le_refl,if_true,Nat.mul_one,Int.mul_one,cond_true,cond_false];by_cases h14:b.length<14
 ·rw [if_pos (by omega),uY hnw (by omega)]
 rw [if_neg (by omega)];have hsz:=aiL hb hw (by omega);simp (disch:=omega) only [ay,aI,aF,aG,aJ,aO,aP,aK,List.take_length,Nat.le_refl,if_true,Nat.mul_one,Int.mul_one,cond_true,cond_false,g,if_pos,aj];have ez:(256*b.getD 6 0+b.getD 7 0)=((szB b:Nat):Int):=hs.symm;rw [ez];by_cases hlen:b.length<14+szB b
 ·rw [if_pos (by omega),uY hnw hlen]
 rw [if_neg (by omega)];have hpre:=alN hb hw (by omega);have e10:(10+((szB b:Nat):Int)).toNat-10=szB b:=by omega
 have hdl:((b.drop 10).take (szB b)).length=szB b:=by rw [List.length_take,List.length_drop];omega
 simp (disch:=omega) only [ay,aI,aF,aG,aJ,aO,aP,aK,List.take_length,Nat.le_refl,if_true,Nat.mul_one,Int.mul_one,cond_true,cond_false,ED,if_pos,e10,hdl];have henc:eP ((n:Int),(b.getD 1 0,(b.drop 10).take (szB b)))=some (vH n (b.getD 1 0) ((b.drop 10).take (szB b)),0):=by
  rw [Un n _ _ (by omega) x1 ((hb.drop 10).take _)];unfold encS;rw [if_neg (by omega),if_neg (by omega),if_neg (by rw [hdl];omega)]
 refine iq henc ?_;have hE:vH n (b.getD 1 0) ((b.drop 10).take (szB b))=b.take (10+szB b)++be 4 (crc (b.take (10+szB b))):=by rw [vH,<-hpre]
 rw [hE];have hEl:(b.take (10+szB b)++be 4 (crc (b.take (10+szB b)))).length=14+szB b:=by rw [List.length_append,dA,List.length_take];omega
 clear g;have htk:b.take (14+szB b)=b.take (10+szB b)++(b.drop (10+szB b)).take 4:=by rw [<-List.take_add];congr 1;omega
 generalize hEE:b.take (10+szB b)++be 4 (crc (b.take (10+szB b)))=E at *
 refine BP (fun o=>o=some (oh b n)) (fun i=>(i:Int)) (14+szB b) (fun i=>b.getD i 0≠E.getD i 0) (.inl ()) (.inr ((0,[]),(0,11))) rfl ?_ ?_ ?_ ?_ ?_
 ·intro i hi hbad;simp (disch:=omega) only [ay,aI,aF,aG,aJ,aO,aP,aK,List.take_length,Nat.le_refl,if_true,Nat.mul_one,Int.mul_one,cond_true,cond_false,if_pos,qN (0:Int),Int.toNat_natCast,aj];rw [if_neg hbad];rfl
 ·intro i hi hbad;simp (disch:=omega) only [ay,aI,aF,aG,aJ,aO,aP,aK,List.take_length,Nat.le_refl,if_true,Nat.mul_one,Int.mul_one,cond_true,cond_false,if_pos,qN (0:Int),Int.toNat_natCast,aj]
 ·rw [if_neg (by omega)]
 ·rintro ⟨i,h1,h2⟩;rw [aG,Dj hnw hlen];intro hc;refine h2 ?_;have:E=b.take (14+szB b):=by
   rw [<-hEE,hc,htk]
  rw [this,getD_take h1]
 ·intro hno;rw [aF,QJ hnw hlen]
  ·congr 3
  ·have hEb:E=b.take (14+szB b):=aeu (by rw [hEl,List.length_take];omega) fun i hi=>by
    rw [getD_take (by omega)];exact (Decidable.not_not.1 fun hh=>hno ⟨i,by omega,hh⟩).symm
   rw [htk,<-hEE] at hEb;exact List.append_cancel_left hEb
theorem amq (b:List Int) (hb:Bytes b) (hl:b.length<=1000000) {r:Ai×(Int×Int)} (hr:aA (mM b) ([],0)=some r):jW b=some r:=by
 unfold jW;simp only [ay,aI,aF,aG,aJ,aO,aP,aK,List.take_length,Nat.le_refl,if_true,Nat.mul_one,Int.mul_one,cond_true,cond_false];refine V4 (fun x y=>x=(y.2,y.1)/\O8 b y) ?_ (x:=(0,[])) ⟨rfl,by show (0:Int)<=0;omega,by show (0:Int)<=_;omega,by show (14*((0:Nat):Int))<=0;omega⟩ hr
 ·rintro x y ⟨rfl,hI⟩;obtain ⟨i1,i2,i3⟩:=hI;unfold mM;by_cases hlt:y.2<(b.length:Int)
  ·simp (disch:=omega) only [if_pos];rw [apz _ _ (hb.drop _) (by rw [List.length_drop];omega),ay];have hnext:=yH ⟨i1,i2,i3⟩ hlt;obtain ⟨⟨⟨k,d⟩,⟨sz,e⟩⟩,hO⟩:∃o,o=oh (b.drop y.2.toNat) y.1.length:=⟨_,rfl⟩
   rw [<-hO] at hnext ⊢;simp only at hnext ⊢;by_cases he:e≠0
   ·rw [if_pos he,if_pos he];exact .inr ⟨_,_,rfl,rfl,rfl⟩
   ·rw [if_neg he,if_neg he];obtain ⟨k1,k2⟩:=hnext (Decidable.not_not.1 he);have k3:=k1.2.1;have k4:=k1.2.2;simp only at k3 k4;rw [if_pos (by omega),aj (by omega)];exact .inl ⟨_,_,rfl,rfl,rfl,k1⟩
  ·rw [if_neg hlt,if_neg hlt];exact .inr ⟨_,_,rfl,rfl,rfl⟩
theorem abg (b:List Int) (hb:Bytes b) (hl:b.length<=1000000) {l:Ai} {n e:Int} (hr:aA (mM b) ([],0)=some (l,(n,e))):gI b=some ((b.take n.toNat,(n,(l.length:Int))),l):=by
 unfold gI;obtain ⟨h1,h2,h3⟩:=xJ hr;simp only at h1 h2 h3;refine iq (amq b hb hl hr) ?_;simp only [ay,aI,aF,aG,aJ,aO,aP,aK,List.take_length,Nat.le_refl,if_true,Nat.mul_one,Int.mul_one,cond_true,cond_false,ED];rw [if_pos (by omega)];refine iq (aev _ (by rw [List.length_take];omega)) ?_;rfl
end Go.Proofs.YtkpijdndakljjaaGreat.Jn
