import Derived.Test.YtkpijdndakljjaaJ15p
import Derived.Test.YtkpijdndakljjaaJ10p
import Derived.Test.YtkpijdndakljjaaZrp
import Derived.Test.YtkpijdndakljjaaFp
import Derived.Test.YtkpijdndakljjaaXBp
import Derived.Test.YtkpijdndakljjaaQ1p
set_option linter.unusedSimpArgs false
set_option linter.unusedVariables false
noncomputable section
set_option maxRecDepth 100000
set_option maxHeartbeats 4000000
namespace Go.Proofs.Ytkpijdndakljjaa
open Go.RowKit
def OKt (op:List BL) (k t:Int) (c:Tx):Prop:=Cb c op/\(op.getD (gZ c op) b0).2.2.2.2.2.1<=t/\(k=2->(op.getD (gZ c op) b0).2.2.2.2.1 = -1)
theorem apx (op dn:List BL) (la no k t:Int) (c:Tx) (h:Opn op) :
 (OKt op k t c/\BI (k,(t,(c,(op,(dn,(la,no))))))=some (true,op.set (gZ c op) (tch k t (op.getD (gZ c op) b0)))) \/
 (¬OKt op k t c/\BI (k,(t,(c,(op,(dn,(la,no))))))=some (false,op)):=by
 have hp:=wQ c op;have ha:=h.1;unfold BI;simp only [↓aF,aG,decide_true,↓afs c h];by_cases h1:Cb c op
 ·rw [dL h1];have hlt:gZ c op<op.length:=by have:=h1.1;omega
  obtain ⟨x,hx,hxb⟩:=get_at b0 hlt;unfold OKt;rw [hx];by_cases h2:x.2.2.2.2.2.1<=t
  ·by_cases h3:k=2
   ·by_cases h4:x.2.2.2.2.1 = -1
    ·refine .inl ⟨⟨h1,h2,fun _=>h4⟩,?_⟩;simp (disch:=(first | omega | (simp only [bJ];omega))) only [↓aF,aG,if_pos,if_neg,↓hxb,h3,h4,ne_eq,not_true_eq_false,decide_true,decide_false,Int.toNat_natCast];rw [List.getElem?_eq_getElem (by rw [List.length_set];exact hlt),List.getElem_set_self];simp only [↓aF,aG,List.set_set];rfl
    ·refine .inr ⟨fun q=>h4 (q.2.2 h3),?_⟩;simp (disch:=(first | omega | (simp only [bJ];omega))) only [↓aF,aG,if_pos,if_neg,↓hxb,h3,h4,ne_eq,not_false_iff,decide_true,decide_false,Int.toNat_natCast]
   ·refine .inl ⟨⟨h1,h2,fun q=>absurd q h3⟩,?_⟩;simp (disch:=(first | omega | (simp only [bJ];omega))) only [↓aF,aG,if_pos,if_neg,↓hxb,h3,decide_true,decide_false,Int.toNat_natCast];rw [show tch k t x=_ from by unfold tch;rw [if_neg h3]]
  ·refine .inr ⟨fun q=>h2 q.2.1,?_⟩;simp (disch:=(first | omega | (simp only [bJ];omega))) only [↓aF,aG,if_pos,if_neg,↓hxb,decide_true,decide_false]
 ·refine .inr ⟨fun q=>h1 q.1,?_⟩;rw [jP h1];simp only [↓aF,aG,decide_true,Bool.and_true]
theorem aiC {n:Int} (h:9223372036854775808<=n/\n<18446744073709551616):IntKind.wrap .i64 n<0:=by
 have e:IntKind.wrap .i64 n=n-18446744073709551616:=by
  show (if (true&&decide (n % 18446744073709551616>=9223372036854775808))=true then n % 18446744073709551616-18446744073709551616 else n % 18446744073709551616)=_;rw [Int.emod_eq_of_lt (by omega) h.2,if_pos (by simp;omega)]
 omega
def OKe (op:List BL) (la t n s co:Int) (c:Tx):Prop:=Cb c op/\(op.getD (gZ c op) b0).2.2.2.2.2.1<=t /\
 ((n=0/\s=0/\co=0/\(op.getD (gZ c op) b0).2.2.2.2.1 = -1)\/(n≠0/\(op.getD (gZ c op) b0).2.2.2.2.1 ≠ -1/\n=la+1/\n<=1048576/\s=Rt.SE (op.getD (gZ c op) b0).2.2.2.2.1 t/\co<9223372036854775808))
theorem apy (op dn:List BL) (la no t n s co:Int) (c:Tx) (h:Opn op) (hd:dn.length<=1000000) (hla:0<=la/\la<=1048576) (hco:0<=co/\co<18446744073709551616) :
 (OKe op la t n s co c/\P6 (t,(n,(s,(co,(c,(op,(dn,(la,no))))))))=some (true,(iH op (gZ c op),(if n=0 then dn else dn++[rcd (op.getD (gZ c op) b0) t n s co],(if n=0 then la else n,no))))) \/
 (¬OKe op la t n s co c/\P6 (t,(n,(s,(co,(c,(op,(dn,(la,no))))))))=some (false,(op,(dn,(la,no))))):=by
 have hp:=wQ c op;have ha:=h.1;have hl:=h.2.2;have hw:∀x:Int,0<=x->x<18446744073709551616->IntKind.wrap .u64 x=x:=fun x a b=>by rw [Dq];omega
 unfold P6;simp only [↓aF,aG,decide_true,Bool.and_true,↓afs c h];by_cases h1:Cb c op
 ·rw [dL h1];have hlt:gZ c op<op.length:=by have:=h1.1;omega
  obtain ⟨x,hx,hxb⟩:=get_at b0 hlt;have hj:IntKind.wrap .i64 (((gZ c op:Nat):Int)+1)=((gZ c op:Nat):Int)+1:=aj (by omega);have hla1:IntKind.wrap .i64 (la+1)=la+1:=aj (by omega);unfold OKe;rw [hx];by_cases h2:x.2.2.2.2.2.1<=t
  ·by_cases h3:n=0
   ·by_cases h4:s=0
    ·by_cases h5:co=0
     ·by_cases h6:x.2.2.2.2.1 = -1
      ·refine .inl ⟨⟨h1,h2,.inl ⟨h3,h4,h5,h6⟩⟩,?_⟩;simp (disch:=(first | omega | (simp only [bJ];omega))) only [↓aF,aG,if_pos,if_neg,↓hxb,h3,h4,h5,h6,ne_eq,not_true_eq_false,decide_true,decide_false,↓afn hl hlt hj];rfl
      ·refine .inr ⟨fun q=>by rcases q.2.2 with q | q;exact h6 q.2.2.2;exact q.1 h3,?_⟩;simp (disch:=(first | omega | (simp only [bJ];omega))) only [↓aF,aG,if_pos,if_neg,↓hxb,h3,h4,h5,h6,ne_eq,not_true_eq_false,not_false_iff,decide_true,decide_false,Bool.and_true]
     ·refine .inr ⟨fun q=>by rcases q.2.2 with q | q;exact h5 q.2.2.1;exact q.1 h3,?_⟩;simp (disch:=(first | omega | (simp only [bJ];omega))) only [↓aF,aG,if_pos,if_neg,↓hxb,h3,h4,h5,ne_eq,not_true_eq_false,not_false_iff,decide_true,decide_false,Bool.and_true]
    ·refine .inr ⟨fun q=>by rcases q.2.2 with q | q;exact h4 q.2.1;exact q.1 h3,?_⟩;simp (disch:=(first | omega | (simp only [bJ];omega))) only [↓aF,aG,if_pos,if_neg,↓hxb,h3,h4,ne_eq,not_true_eq_false,not_false_iff,decide_true,decide_false,Bool.and_true]
   ·have hse:=Rt.MB x.2.2.2.2.1 t;by_cases h4:x.2.2.2.2.1 = -1
    ·refine .inr ⟨fun q=>by rcases q.2.2 with q | q;exact h3 q.1;exact q.2.1 h4,?_⟩;simp (disch:=(first | omega | (simp only [bJ];omega))) only [↓aF,aG,if_pos,if_neg,↓hxb,h3,h4,decide_true,decide_false,Bool.and_true]
    ·by_cases h5:n=la+1
     ·by_cases h6:n<=1048576
      ·by_cases h7:s=Rt.SE x.2.2.2.2.1 t
       ·by_cases h8:co<9223372036854775808
        ·refine .inl ⟨⟨h1,h2,.inr ⟨h3,h4,h5,h6,h7,h8⟩⟩,?_⟩;have hc:IntKind.wrap .i64 co=co:=aj (by omega);have hz:¬la+1=0:=by omega
         simp (disch:=(first | omega | (simp only [bJ];omega))) only [↓aF,aG,if_pos,if_neg,↓hxb,h3,h4,h5,h7,hz,hla1,hw (la+1) (by omega) (by omega),hw (Rt.SE x.2.2.2.2.1 t) (by omega) (by omega),↓IQ,hc,ne_eq,not_true_eq_false,decide_true,decide_false,↓afn hl hlt hj];rfl
        ·refine .inr ⟨fun q=>by rcases q.2.2 with q | q;exact h3 q.1;exact h8 q.2.2.2.2.2,?_⟩;have hc:IntKind.wrap .i64 co<0:=aiC ⟨by omega,by omega⟩;have hz:¬la+1=0:=by omega
         simp (disch:=(first | omega | (simp only [bJ];omega))) only [↓aF,aG,if_pos,if_neg,↓hxb,h3,h4,h5,h7,hz,hla1,hw (la+1) (by omega) (by omega),hw (Rt.SE x.2.2.2.2.1 t) (by omega) (by omega),↓IQ,hc,ne_eq,not_true_eq_false,decide_true,decide_false,Bool.and_true]
       ·refine .inr ⟨fun q=>by rcases q.2.2 with q | q;exact h3 q.1;exact h7 q.2.2.2.2.1,?_⟩;have hz:¬la+1=0:=by omega
        simp (disch:=(first | omega | (simp only [bJ];omega))) only [↓aF,aG,if_pos,if_neg,↓hxb,h3,h4,h5,h7,hz,hla1,hw (la+1) (by omega) (by omega),hw (Rt.SE x.2.2.2.2.1 t) (by omega) (by omega),↓IQ,ne_eq,not_true_eq_false,not_false_iff,decide_true,decide_false,Bool.and_true]
      ·refine .inr ⟨fun q=>by rcases q.2.2 with q | q;exact h3 q.1;exact h6 q.2.2.2.1,?_⟩;have hz:¬la+1=0:=by omega
       simp (disch:=(first | omega | (simp only [bJ];omega))) only [↓aF,aG,if_pos,if_neg,↓hxb,h3,h4,h5,hz,hla1,hw (la+1) (by omega) (by omega),ne_eq,not_true_eq_false,decide_true,decide_false,Bool.and_true]
     ·refine .inr ⟨fun q=>by rcases q.2.2 with q | q;exact h3 q.1;exact h5 q.2.2.1,?_⟩;simp (disch:=(first | omega | (simp only [bJ];omega))) only [↓aF,aG,if_pos,if_neg,↓hxb,h3,h4,h5,hla1,hw (la+1) (by omega) (by omega),ne_eq,not_true_eq_false,not_false_iff,decide_true,decide_false,Bool.and_true]
  ·refine .inr ⟨fun q=>h2 q.2.1,?_⟩;simp (disch:=(first | omega | (simp only [bJ];omega))) only [↓aF,aG,if_pos,if_neg,↓hxb,decide_true,decide_false,Bool.and_true]
 ·refine .inr ⟨fun q=>h1 q.1,?_⟩;rw [jP h1];simp only [↓aF,aG,decide_true,Bool.and_true]
abbrev Cu:=List Int×Bool
def rN (r:Cu):Int×Cu:=rdN r.1 r.2
def rT (r:Cu):Tx×Cu:=rdT r.1 r.2
def RS (r:Cu):Prop:=r.2=false/\r.1=[]
instance (r:Cu):Decidable (RS r):=inferInstanceAs (Decidable (r.2=false/\r.1=[]))
def aiE (t:Int) (c:Tx×Cu) (f:Tx×Cu) (o:Tx×Cu):Option AC:=if RS o.2 then some (1,(t,(0,(0,(0,(c.1,(f.1,o.1))))))) else none
def aiF (k t:Int) (c:Tx×Cu):Option AC:=if RS c.2 then some (k,(t,(0,(0,(0,(c.1,([],[]))))))) else none
def aiG (t:Int) (n s o:Int×Cu) (c:Tx×Cu):Option AC:=if RS c.2 then some (4,(t,(n.1,(s.1,(o.1,(c.1,([],[]))))))) else none
def XB (k:Int) (a:Int×Cu):Option AC :=
 if k=5 then (if RS a.2 then some (5,(0,(a.1,(0,(0,([],([],[]))))))) else none)
 else if a.2.2=true\/a.1 > 1099511627776 then none
 else if k=1 then aiE a.1 (rT a.2) (rT (rT a.2).2) (rT (rT (rT a.2).2).2)
 else if k=2\/k=3 then aiF k a.1 (rT a.2)
 else if k=4 then aiG a.1 (rN a.2) (rN (rN a.2).2) (rN (rN (rN a.2).2).2) (rT (rN (rN (rN a.2).2).2).2)
 else none
def G5 (k:Int) (d:List Int):Option AC:=XB k (rN (d,false))
def mX (a:AC) (s:ST):Option ST :=
 if a.1=5 then bif tf (OKg s.2.1 a.2.2.1) then some (s.1,(s.2.1.set (a.2.2.1-1).toNat (SB (s.2.1.getD (a.2.2.1-1).toNat b0)),s.2.2)) else none
 else if a.1=1 then bif tf (OKb s.1 a.2.2.2.2.2.1 a.2.2.2.2.2.2.1 a.2.2.2.2.2.2.2) then some (Aw s.1 (a.2.2.2.2.2.1,(a.2.2.2.2.2.2.1,(a.2.2.2.2.2.2.2,(a.2.1,(-1,(a.2.1,(0,(0,(0,false))))))))),(s.2.1,(s.2.2.1,dM s.2.2.2 a.2.1))) else none
 else if a.1=4 then bif tf (OKe s.1 s.2.2.1 a.2.1 a.2.2.1 a.2.2.2.1 a.2.2.2.2.1 a.2.2.2.2.2.1) then some (iH s.1 (gZ a.2.2.2.2.2.1 s.1),(if a.2.2.1=0 then s.2.1 else s.2.1++[rcd (s.1.getD (gZ a.2.2.2.2.2.1 s.1) b0) a.2.1 a.2.2.1 a.2.2.2.1 a.2.2.2.2.1],(if a.2.2.1=0 then s.2.2.1 else a.2.2.1,dM s.2.2.2 a.2.1))) else none
 else bif tf (OKt s.1 a.1 a.2.1 a.2.2.2.2.2.1) then some (s.1.set (gZ a.2.2.2.2.2.1 s.1) (tch a.1 a.2.1 (s.1.getD (gZ a.2.2.2.2.2.1 s.1) b0)),(s.2.1,(s.2.2.1,dM s.2.2.2 a.2.1))) else none
def Apl (o:Option AC) (s:ST) (r:Option (Bool×ST)):Prop :=
 (∃a s',o=some a/\mX a s=some s'/\r=some (true,s'))\/((o=none\/∃a,o=some a/\mX a s=none)/\∃s',r=some (false,s'))
theorem Apl.bad {o:Option AC} {s:ST} (h:o=none) (s':ST):Apl o s (some (false,s')) := .inr ⟨.inl h,s',rfl⟩
theorem apz (k:Int) (d:List Int) (op dn:List BL) (la no:Int) (h:Opn op) (hd:dn.length<=1000000) (hla:0<=la/\la<=1048576) (hb:Bytes d) :
 Apl (G5 k d) (op,(dn,(la,no))) (BJ ((k,d),(op,(dn,(la,no))))):=by
 unfold BJ G5;simp only [↓aF,aG,↓ZL false hb];have hr:0<=(rN (d,false)).1/\(rN (d,false)).1<18446744073709551616:=BM hb;have hA:Bytes (rN (d,false)).2.1:=qY hb;rw [show rdN d false=rN (d,false) from rfl];generalize rN (d,false)=A at *
 obtain ⟨t,r,s⟩:=A;simp only at hr hA;unfold XB;by_cases k5:k=5
 ·simp only [k5,↓aF,aG,if_true,↓ZM,decide_true,Bool.and_true,Bool.and_self];by_cases hf:RS (r,s)
  ·have hf':s=false/\r=[]:=hf;simp only [hf',hf,↓aF,aG,if_true,and_self,decide_true];rcases apv op dn la no t hr hd with ⟨h1,e⟩ | ⟨h1,e⟩
   ·rw [e];simp only [↓aF,aG,List.length_set,decide_true,Bool.and_true,Bool.and_self];refine .inl ⟨_,_,rfl,?_,rfl⟩;unfold mX;simp only [if_true,dL h1,cond_true];rw [List.take_of_length_le (by rw [List.length_set];exact Nat.le_refl _)]
   ·rw [e];simp only [↓aF,aG,decide_true,Bool.and_true,Bool.and_self];refine .inr ⟨.inr ⟨_,rfl,?_⟩,_,rfl⟩;unfold mX;simp only [if_true,jP h1,cond_false]
  ·have hf':¬(s=false/\r=[]):=hf;simp only [hf',hf,↓aF,aG,decide_false,decide_true,Bool.and_self];exact Apl.bad rfl _
 ·have k5':decide (k=5)=false:=decide_eq_false k5;by_cases hs:s=true
  ·subst hs;simp only [k5,↓aF,aG,decide_true,Bool.and_self,if_false,true_or,if_true];exact Apl.bad rfl _
  obtain rfl:s=false:=by simpa using hs
  by_cases ht:t > 1099511627776
  ·simp only [k5,ht,↓aF,aG,decide_true,Bool.and_self,if_false,or_true,if_true];exact Apl.bad rfl _
  have hwt:IntKind.wrap .i64 t=t:=aj (by omega);simp only [k5,ht,↓aF,aG,decide_true,Bool.and_self,if_false,reduceCtorEq,or_self,hwt];by_cases k1:k=1
  ·subst k1;have hc:Bytes (rT (r,false)).2.1:=GY hA;simp only [↓aF,aG,decide_true,if_true,↓Ve false hA];rw [show rdT r false=rT (r,false) from rfl];generalize rT (r,false)=C at *
   obtain ⟨c,r1,s1⟩:=C;replace hc:Bytes r1:=hc;have hc2:Bytes (rT (r1,s1)).2.1:=GY hc;simp only [↓aF,aG,↓Ve s1 hc];rw [show rdT r1 s1=rT (r1,s1) from rfl];generalize rT (r1,s1)=C at *
   obtain ⟨f,r2,s2⟩:=C;replace hc2:Bytes r2:=hc2;simp only [↓aF,aG,↓Ve s2 hc2];rw [show rdT r2 s2=rT (r2,s2) from rfl];generalize rT (r2,s2)=C at *
   obtain ⟨o,r3,s3⟩:=C;simp only [↓aF,aG,↓ZM];unfold aiE;by_cases hf:RS (r3,s3)
   ·have hf':s3=false/\r3=[]:=hf;simp only [hf',hf,↓aF,aG,if_true,and_self,decide_true,Bool.and_self];rcases apw op dn la no t c f o h with ⟨h1,e⟩ | ⟨h1,e⟩
    ·rw [e];simp only [↓aF,aG,decide_true,Bool.and_true,Bool.and_self];refine .inl ⟨_,_,rfl,?_,rfl⟩;unfold mX;simp only [show ¬(1:Int)=5 by omega,if_true,if_false,dL h1,cond_true]
    ·rw [e];simp only [↓aF,aG,decide_true,Bool.and_true,Bool.and_self];refine .inr ⟨.inr ⟨_,rfl,?_⟩,_,rfl⟩;unfold mX;simp only [show ¬(1:Int)=5 by omega,if_true,if_false,jP h1,cond_false]
   ·have hf':¬(s3=false/\r3=[]):=hf;simp only [hf',hf,↓aF,aG,decide_false,decide_true,Bool.and_self];exact Apl.bad rfl _
  ·by_cases k23:k=2\/k=3
   ·have h5:decide (k=1)=false:=decide_eq_false k1;have hk4:¬k=4:=by omega
    have hc:Bytes (rT (r,false)).2.1:=GY hA;have hv:∀ {β:Type} (f:Bool->Option β),aA (if k=2 then some (Sum.inl true) else some (Sum.inl (decide (k=3)))) f=f true:=fun f=>by
     by_cases k2:k=2
     ·rw [if_pos k2];rfl
     ·rw [if_neg k2,decide_eq_true (show k=3 by omega)];rfl
    simp only [k1,k23,↓aF,aG,decide_true,if_true,if_false,↓hv,↓Ve false hA];rw [show rdT r false=rT (r,false) from rfl];generalize rT (r,false)=C at *
    obtain ⟨c,r1,s1⟩:=C;simp only [↓aF,aG,↓ZM];unfold aiF;by_cases hf:RS (r1,s1)
    ·have hf':s1=false/\r1=[]:=hf;simp only [hf',hf,↓aF,aG,if_true,and_self,decide_true,Bool.and_self];rcases apx op dn la no k t c h with ⟨h1,e⟩ | ⟨h1,e⟩
     ·rw [e];simp only [↓aF,aG,List.length_set,decide_true,Bool.and_true,Bool.and_self];refine .inl ⟨_,_,rfl,?_,rfl⟩;unfold mX;simp only [k5,k1,hk4,if_true,if_false,dL h1,cond_true];rw [List.take_of_length_le (by rw [List.length_set];exact Nat.le_refl _)]
     ·rw [e];simp only [↓aF,aG,decide_true,Bool.and_true,Bool.and_self];refine .inr ⟨.inr ⟨_,rfl,?_⟩,_,rfl⟩;unfold mX;simp only [k5,k1,hk4,if_true,if_false,jP h1,cond_false]
    ·have hf':¬(s1=false/\r1=[]):=hf;simp only [hf',hf,↓aF,aG,decide_false,decide_true,Bool.and_self];exact Apl.bad rfl _
   ·have hv:∀ {β:Type} (f:Bool->Option β),aA (if k=2 then some (Sum.inl true) else some (Sum.inl (decide (k=3)))) f=f false:=fun f=>by
     rw [if_neg (by omega),decide_eq_false (show ¬k=3 by omega)];rfl
    by_cases k4:k=4
    ·subst k4;have hb1:Bytes (rN (r,false)).2.1:=qY hA;have hz:¬((4:Int)=2\/(4:Int)=3):=by omega
     have hz1:¬((4:Int)=1):=by omega
     simp only [k1,hz,hz1,↓aF,aG,decide_true,if_true,if_false,↓hv,↓ZL false hA];rw [show rdN r false=rN (r,false) from rfl];generalize rN (r,false)=C at *
     obtain ⟨n,r1,s1⟩:=C;replace hb1:Bytes r1:=hb1;have hb2:Bytes (rN (r1,s1)).2.1:=qY hb1;simp only [↓aF,aG,↓ZL s1 hb1];rw [show rdN r1 s1=rN (r1,s1) from rfl];generalize rN (r1,s1)=C at *
     obtain ⟨se,r2,s2⟩:=C;replace hb2:Bytes r2:=hb2;have hb3:Bytes (rN (r2,s2)).2.1:=qY hb2;have hco:0<=(rN (r2,s2)).1/\(rN (r2,s2)).1<18446744073709551616:=BM hb2;simp only [↓aF,aG,↓ZL s2 hb2];rw [show rdN r2 s2=rN (r2,s2) from rfl];generalize rN (r2,s2)=C at *
     obtain ⟨co,r3,s3⟩:=C;replace hb3:Bytes r3:=hb3;replace hco:0<=co/\co<18446744073709551616:=hco;simp only [↓aF,aG,↓Ve s3 hb3];rw [show rdT r3 s3=rT (r3,s3) from rfl];generalize rT (r3,s3)=C at *
     obtain ⟨c,r4,s4⟩:=C;simp only [↓aF,aG,↓ZM];unfold aiG;by_cases hf:RS (r4,s4)
     ·have hf':s4=false/\r4=[]:=hf;simp only [hf',hf,↓aF,aG,if_true,and_self,decide_true,Bool.and_self];rcases apy op dn la no t n se co c h hd hla hco with ⟨h1,e⟩ | ⟨h1,e⟩
      ·rw [e];simp only [↓aF,aG,decide_true,Bool.and_true,Bool.and_self];refine .inl ⟨_,_,rfl,?_,rfl⟩;unfold mX;simp only [show ¬(4:Int)=5 by omega,hz1,if_true,if_false,dL h1,cond_true]
      ·rw [e];simp only [↓aF,aG,decide_true,Bool.and_true,Bool.and_self];refine .inr ⟨.inr ⟨_,rfl,?_⟩,_,rfl⟩;unfold mX;simp only [show ¬(4:Int)=5 by omega,hz1,if_true,if_false,jP h1,cond_false]
     ·have hf':¬(s4=false/\r4=[]):=hf;simp only [hf',hf,↓aF,aG,decide_false,decide_true,Bool.and_self];exact Apl.bad rfl _
    ·simp only [k1,k23,k4,↓aF,aG,decide_true,decide_false,if_true,if_false,↓hv,Bool.and_self];exact Apl.bad rfl _
def AZ (op:List BL):Prop:=∀b∈op,b.2.2.2.2.2.2.1=0
def PW (op:List BL):Prop:=op.Pairwise (fun a b=>Op.bytesLess a.1 b.1=true)
theorem AZ.opn:∀ {op:List BL},AZ op->opn op=op.length
 | [],_=>rfl
 | b::l,h=>by
   rw [Go.Proofs.Ytkpijdndakljjaa.opn,if_pos (h b (by simp)),AZ.opn (fun x hx=>h x (by simp [hx]))];rfl
theorem Nr {op:List BL} (h:PW op) (ha:AZ op):Srt op:=fun i j hij hj=>by
 rw [ha.opn] at hj;have:=List.pairwise_iff_getElem.1 h i j (by omega) hj hij;rw [List.getD_eq_getElem?_getD,List.getElem?_eq_getElem (by omega:i<op.length),List.getD_eq_getElem?_getD,List.getElem?_eq_getElem hj];exact this
theorem amS {op:List BL} (ha:AZ op) (h:PW op) (hl:op.length<=1000000):Opn op:=⟨ha.opn,Nr h ha,hl⟩
theorem afu {op:List BL} (h:PW op) (p:Nat):PW (iH op p):=by
 refine List.Pairwise.sublist ?_ h;unfold iH;have:op.take p++op.drop (p+1)=op.eraseIdx p:=(List.eraseIdx_eq_take_drop_succ op p).symm;rw [this];exact List.eraseIdx_sublist op p
theorem amT {op:List BL} (h:PW op) {p:Nat} (hp:p<op.length) {x:BL} (hx:x.1=(op.getD p b0).1):PW (op.set p x):=by
 refine List.pairwise_iff_getElem.2 fun i j hi hj hij => ?_;rw [List.length_set] at hi hj;have h0:=List.pairwise_iff_getElem.1 h i j hi hj hij;have e:(op.getD p b0)=op[p]:=by rw [List.getD_eq_getElem?_getD,List.getElem?_eq_getElem hp];rfl
 rw [e] at hx;have g:∀(k:Nat) (hk:k<op.length),((op.set p x)[k]'(by rw [List.length_set];exact hk)).1=(op[k]).1:=fun k hk=>by
  rw [List.getElem_set];split
  ·rename_i e2;subst e2;exact hx
  ·rfl
 rw [g i hi,g j hj];exact h0
theorem amU {op:List BL} (h:PW op) (ha:AZ op) {b:BL} (hn:¬Cb b.1 op):PW (Aw op b):=by
 have hs:=Nr h ha;have ho:=ha.opn;have hp:=wQ b.1 op;unfold Aw;have hdec:op=op.take (gZ b.1 op)++op.drop (gZ b.1 op):=(List.take_append_drop _ _).symm;have h0:=h;rw [PW,hdec,List.pairwise_append] at h0;obtain ⟨h1,h2,h3⟩:=h0;have hlo:∀x∈op.take (gZ b.1 op),Op.bytesLess x.1 b.1=true:=fun x hx=>by
  obtain ⟨i,hi,rfl⟩:=List.mem_iff_getElem.1 hx;rw [List.length_take] at hi;have:=Xv (c:=b.1) (l:=op) (i:=i) (by omega);rw [List.getD_eq_getElem?_getD,List.getElem?_eq_getElem (by omega)] at this;rw [List.getElem_take];exact this
 have hhi:∀x∈op.drop (gZ b.1 op),Op.bytesLess b.1 x.1=true:=fun x hx=>by
  obtain ⟨i,hi,rfl⟩:=List.mem_iff_getElem.1 hx;rw [List.length_drop] at hi;rw [List.getElem_drop];have hlt:gZ b.1 op<opn op:=by omega
  have hne:(op.getD (gZ b.1 op) b0).1≠b.1:=fun e=>hn ⟨hlt,e⟩;have hnl:=Xw (c:=b.1) (l:=op) hlt;have hlt2:gZ b.1 op<op.length:=by omega
  have e1:(op.getD (gZ b.1 op) b0)=op[gZ b.1 op]:=by rw [List.getD_eq_getElem?_getD,List.getElem?_eq_getElem hlt2];rfl
  rw [e1] at hne hnl;have hfirst:Op.bytesLess b.1 (op[gZ b.1 op]).1=true:=by
   rcases afk b.1 (op[gZ b.1 op]).1 with g | g | g
   ·exact g
   ·rw [hnl] at g;cases g
   ·exact absurd g.symm hne
  by_cases hi0:i=0
  ·subst hi0;exact hfirst
  ·exact ZC hfirst (List.pairwise_iff_getElem.1 h (gZ b.1 op) (gZ b.1 op+i) hlt2 (by omega) (by omega))
 rw [PW,List.append_assoc,List.pairwise_append];refine ⟨h1,?_,fun x hx y hy => ?_⟩
 ·show List.Pairwise _ (b::op.drop (gZ b.1 op));exact List.pairwise_cons.2 ⟨hhi,h2⟩
 ·rcases List.mem_cons.1 (show y∈b::op.drop (gZ b.1 op) from hy) with rfl | hy
  ·exact hlo x hx
  ·exact h3 x hx y hy
theorem ZN {op:List BL} {b x:BL} (h:x∈Aw op b):x=b\/x∈op:=by
 unfold Aw at h;rcases List.mem_append.1 h with h | h
 ·rcases List.mem_append.1 h with h | h
  ·exact .inr (List.mem_of_mem_take h)
  ·exact .inl (List.mem_singleton.1 h)
 ·exact .inr (List.mem_of_mem_drop h)
theorem Vf {β:Type} {body:Int->Option (Int ⊕ β)} {k n:Nat} (hk:k<=n) (p:Nat->Prop) (f:Nat->β) (r0:β) (h1:∀i:Nat,k<=i->i<n->¬p i->body (i:Int)=some (.inl ((i+1:Nat):Int))) (h2:∀i:Nat,k<=i->i<n->p i->body (i:Int)=some (.inr (f i))) (h3:body (n:Int)=some (.inr r0)) :
 (∃i,k<=i/\i<n/\p i/\(∀j,k<=j->j<i->¬p j)/\ay body (k:Int)=some (f i))\/((∀i,k<=i->i<n->¬p i)/\ay body (k:Int)=some r0):=by
 by_cases h:∃i,k<=i/\i<n/\p i
 ·obtain ⟨i,⟨q1,q2,q3⟩,q4⟩:=least h;have q5:∀j,k<=j->j<i->¬p j:=fun j j1 j2 j3=>q4 j j2 ⟨j1,by omega,j3⟩;refine .inl ⟨i,q1,q2,q3,q5,bG (fun j=>((k+j:Nat):Int)) (i-k) (by simp) (fun j hj => ?_) ?_⟩
  ·exact h1 (k+j) (by omega) (by omega) (q5 _ (by omega) (by omega))
  ·show body ((k+(i-k):Nat):Int)=_;rw [show k+(i-k)=i from by omega];exact h2 i q1 q2 q3
 ·have h':∀i,k<=i->i<n->¬p i:=fun i i1 i2 i3=>h ⟨i,i1,i2,i3⟩;refine .inr ⟨h',bG (fun j=>((k+j:Nat):Int)) (n-k) (by simp) (fun j hj => ?_) ?_⟩
  ·exact h1 (k+j) (by omega) (by omega) (h' _ (by omega) (by omega))
  ·show body ((k+(n-k):Nat):Int)=_;rw [show k+(n-k)=n from by omega];exact h3
def Due (l:List BL) (i:Nat):Prop:=(l.getD i b0).2.2.2.2.2.2.1≠0/\(l.getD i b0).2.2.2.2.2.2.2.2.2=false
def NX (g:LG):Prop:=VL g/\g.2.1=(g.1.length:Int)
theorem Ns (g:LG) (hl:g.2.2.2.1.length<=1000000):∃r,eY g=some r/\vH g=some r /\
 ((NX g/\∃i,i<g.2.2.2.1.length/\Due g.2.2.2.1 i/\(∀j,j<i->¬Due g.2.2.2.1 j)/\r=(g.2.2.2.1.getD i b0,true))\/(¬(NX g/\∃i,i<g.2.2.2.1.length/\Due g.2.2.2.1 i)/\r=(b0,false))):=by
 have ho:=tq g.2.2.2.1;rw [ao4,ao6];by_cases hv:VL g
 ·by_cases hsy:g.2.1=(g.1.length:Int)
  ·have hP:=lM (body:=nxB g) g.2.2.2.1.length (fun i=>Due g.2.2.2.1 i) (fun i => .inr (g.2.2.2.1.getD i b0,true)) (.inl ()) (fun i hi hn=>by
    obtain ⟨x,hx,hxb⟩:=get_at b0 hi;unfold Due at hn;rw [hx] at hn;unfold nxB;by_cases h0:x.2.2.2.2.2.2.1=0
    ·simp (disch:=(first | omega | (simp only [bJ];omega))) only [↓aF,aG,if_pos,if_neg,↓hxb,aj];rfl
    ·have h1:x.2.2.2.2.2.2.2.2.2=true:=by
      cases hg:x.2.2.2.2.2.2.2.2.2 with
      | true=>rfl
      | false=>exact (hn ⟨h0,hg⟩).elim
     simp (disch:=(first | omega | (simp only [bJ];omega))) only [↓aF,aG,if_pos,if_neg,↓hxb,h1,aj];rfl) (fun i hi hn=>by
    obtain ⟨x,hx,hxb⟩:=get_at b0 hi;unfold Due at hn;rw [hx] at hn ⊢;have hg:=hn.2;have h0:=hn.1;unfold nxB;simp (disch:=(first | omega | (simp only [bJ];omega))) only [↓aF,aG,if_pos,if_neg,↓hxb,hg]) (by
    unfold nxB;simp (disch:=(first | omega | (simp only [bJ];omega))) only [↓aF,aG,if_neg])
   have hR:=Vf (body:=nrB g) ho (fun i=>Due g.2.2.2.1 i) (fun i => .inr (g.2.2.2.1.getD i b0,true)) (.inl ()) (fun i hk hi hn=>by
    obtain ⟨x,hx,hxb⟩:=get_at b0 hi;have hnum:=(hv.num hi).2.2 hk;unfold Due at hn;rw [hx] at hn hnum;have h1:x.2.2.2.2.2.2.2.2.2=true:=by
     cases hg:x.2.2.2.2.2.2.2.2.2 with
     | true=>rfl
     | false=>exact (hn ⟨by omega,hg⟩).elim
    unfold nrB;simp (disch:=(first | omega | (simp only [bJ];omega))) only [↓aF,aG,if_pos,if_neg,↓hxb,h1,aj];rfl) (fun i hk hi hn=>by
    obtain ⟨x,hx,hxb⟩:=get_at b0 hi;unfold Due at hn;rw [hx] at hn ⊢;have hg:=hn.2;unfold nrB;simp (disch:=(first | omega | (simp only [bJ];omega))) only [↓aF,aG,if_pos,if_neg,↓hxb,hg]) (by
    unfold nrB;simp (disch:=(first | omega | (simp only [bJ];omega))) only [↓aF,aG,if_neg])
   have hno:∀i,i<opn g.2.2.2.1->¬Due g.2.2.2.1 i:=fun i hi h=>h.1 (MN hi);rcases hP with ⟨i,k1,k2,k3,e⟩ | ⟨k,e⟩
   ·have hio:opn g.2.2.2.1<=i:=by
     rcases Nat.lt_or_ge i (opn g.2.2.2.1) with h | h
     ·exact (hno i h k2).elim
     ·exact h
    rcases hR with ⟨i',k0',k1',k2',k3',e'⟩ | ⟨k',_⟩
    ·have hii:i'=i:=by
      rcases Nat.lt_trichotomy i' i with h | h | h
      ·exact (k3 _ h k2').elim
      ·exact h
      ·exact (k3' _ hio h k2).elim
     subst hii;refine ⟨(g.2.2.2.1.getD i' b0,true),?_,?_,.inl ⟨⟨hv,hsy⟩,i',k1,k2,k3,rfl⟩⟩
     ·simp (disch:=(first | omega | (simp only [bJ];omega))) only [↓aF,aG,↓(oq g hl).b,dL hv,if_neg,e]
     ·simp (disch:=(first | omega | (simp only [bJ];omega))) only [↓aF,aG,↓(Ry g hl).b,dL hv,if_neg,↓amF g hl,e']
    ·exact (k' i hio k1 k2).elim
   ·rcases hR with ⟨i',_,k1',k2',_,_⟩ | ⟨_,e'⟩
    ·exact (k i' k1' k2').elim
    ·refine ⟨(b0,false),?_,?_,.inr ⟨fun h=>by obtain ⟨i,i1,i2⟩:=h.2;exact k i i1 i2,rfl⟩⟩
     ·simp (disch:=(first | omega | (simp only [bJ];omega))) only [↓aF,aG,↓(oq g hl).b,dL hv,if_neg,e];rfl
     ·simp (disch:=(first | omega | (simp only [bJ];omega))) only [↓aF,aG,↓(Ry g hl).b,dL hv,if_neg,↓amF g hl,e'];rfl
  ·refine ⟨(b0,false),?_,?_,.inr ⟨fun h=>hsy h.1.2,rfl⟩⟩
   ·simp (disch:=(first | omega | (simp only [bJ];omega))) only [↓aF,aG,↓(oq g hl).b,dL hv,if_pos];rfl
   ·simp (disch:=(first | omega | (simp only [bJ];omega))) only [↓aF,aG,↓(Ry g hl).b,dL hv,if_pos];rfl
 ·refine ⟨(b0,false),?_,?_,.inr ⟨fun h=>hv h.1.1,rfl⟩⟩
  ·simp only [↓aF,aG,↓(oq g hl).b,jP hv];rfl
  ·simp only [↓aF,aG,↓(Ry g hl).b,jP hv];rfl
open Classical in
def abZ (g:LG):LG:=if VL g then (g.1,((g.1.length:Int),(g.2.2.1,(g.2.2.2.1,(g.2.2.2.2.1,g.2.2.2.2.2))))) else zG
theorem GN (g:LG) (hl:g.2.2.2.1.length<=1000000) (hB:g.1.length<=900000):jG g=some (abZ g):=by
 rw [apc];unfold abZ;by_cases hv:VL g
 ·rw [if_pos hv];have hS:∀ {β:Type} (f:List Int×(Int×Int)->Option β),ah (kJ (g.1,(g.2.1,g.2.2.1))) f=f (g.1,((g.1.length:Int),g.2.2.1)):=fun f=>by rw [Jn.GN g.1 g.2.1 g.2.2.1 hB ⟨hv.1.1,hv.1.2.1⟩ ⟨hv.1.2.2.1,hv.1.2.2.2⟩];rfl
  simp (disch:=(first | omega | (simp only [bJ];omega))) only [↓aF,aG,↓(oq g hl).b,dL hv,↓hS,↓oP hl]
 ·rw [if_neg hv];simp only [↓aF,aG,↓(oq g hl).b,jP hv];rfl
set_option maxRecDepth 1000000
set_option maxHeartbeats 0
def amV:List (Nat×PL):=[]
def pU:PUnit->Option (zl):=fun _ =>
 some (([]:List Int),((0:Int),((0:Int),(([]:List iT),((0:Int),(0:Int))))))
def amW:List (Nat×CE):=[]
theorem ab1:dZ Try.prog amW:=trivial
def amX:CE:=⟨[],[(.tmp 0 true [dY,dI,dI,(.dat (.list nZ)),dI,dI])],pU⟩
theorem ajS:aV Try.prog 31 amX :=nT amV fC ab1 Try.func31
def apA:List (Nat×PL):=[]
def jD:PUnit->Option Bool:=fun _ =>
 ah (pU ()) fun (x2,(x3,(x4,(x5,(x6,x7))))) =>
 ah (mJ ((x2,(x3,(x4,(x5,(x6,x7))))),(((99:UInt8)::([]:List UInt8)),(((97:UInt8)::([]:List UInt8)),(((98:UInt8)::([]:List UInt8)),((1000:Int),((0:Int),((0:Int),((0:Int),((0:Int),((0:Int),false))))))))))) fun ((x9,(x10,(x11,(x12,(x13,x14))))),x15) =>
 ah (nO ((x9,(x10,(x11,(x12,(x13,x14))))),(((99:UInt8)::([]:List UInt8)),(2000:Int)))) fun ((x17,(x18,(x19,(x20,(x21,x22))))),x23) =>
 ah (jG (x17,(x18,(x19,(x20,(x21,x22)))))) fun (x25,(x26,(x27,(x28,(x29,x30))))) =>
 ah (eY (x25,(x26,(x27,(x28,(x29,x30)))))) fun ((x32,(x33,(x34,(x35,(x36,(x37,(x38,(x39,(x40,x41))))))))),x42) =>
 ah (gY ()) fun (x44,x45) =>
 ah (nP ((x17,(x18,(x19,(x20,(x21,x22))))),((x44,x45),(((99:UInt8)::([]:List UInt8)),(4500:Int))))) fun ((x47,(x48,(x49,(x50,(x51,x52))))),x53) =>
 ah (eY (x47,(x48,(x49,(x50,(x51,x52)))))) fun ((x55,(x56,(x57,(x58,(x59,(x60,(x61,(x62,(x63,x64))))))))),x65) =>
 ah (jG (x47,(x48,(x49,(x50,(x51,x52)))))) fun (x67,(x68,(x69,(x70,(x71,x72))))) =>
 ah (eY (x67,(x68,(x69,(x70,(x71,x72)))))) fun ((x74,(x75,(x76,(x77,(x78,(x79,(x80,(x81,(x82,x83))))))))),x84) =>
 bif (decide (x15=0)) then
 bif (decide (x23=0)) then
 bif (decide (x53=0)) then
 bif (!x42) then
 bif (!x65) then
 bif x84 then
 some ((decide (x74=((99:UInt8)::([]:List UInt8))))&&((decide (x75=((97:UInt8)::([]:List UInt8))))&&((decide (x76=((98:UInt8)::([]:List UInt8))))&&((decide (x77=1000))&&((decide (x78=2000))&&((decide (x79=4500))&&((decide (x80=1))&&((decide (x81=3))&&((decide (x82=3000))&&(x83==false))))))))))
 else
 some false
 else
 some false
 else
 some false
 else
 some false
 else
 some false
 else
 some false
def apB:List (Nat×CE):=[(10,al2),(15,al8),(20,ahV),(24,ahW),(26,ahX),(28,ahY),(31,amX)]
theorem afv:dZ Try.prog apB:=⟨ajA,ajC,aeT,aeU,aeV,aeW,ajS,trivial⟩
def ce9:CE:=⟨[],[(.tmp 0 false [dO])],jD⟩
theorem aq0:aV Try.prog 9 ce9 :=nT apA fC afv Try.func9
def tr:List Ra:=[([],(0,(1,(1,[((127,(0,1440)),(1000,1000))]))))]
namespace Rt
theorem afw {l:List uf} {rc:Int} {mo:Nat->Int} (hl:l.length=1) (h:RVl l):∀ {n:Nat},(∀k,k<n+1->0<=mo k/\mo k<=4000000000000000000)->CU l rc mo (n+1)=rc+(l.getD 0 p0).2.1+(n:Int)*(l.getD 0 p0).2.2
 | 0,hm=>by
   obtain ⟨i,hi,e⟩:=(abN h (hm 0 (by omega))).2.pos h;obtain rfl:i=0:=by omega
   show rc+prc l (mo 0) 0=_;unfold prc;rw [if_pos rfl,e];show rc+(l.getD 0 p0).2.1=rc+(l.getD 0 p0).2.1+(0:Int)*_;rw [Int.zero_mul];omega
 | n+1,hm=>by
   obtain ⟨i,hi,e⟩:=(abN h (hm (n+1) (by omega))).2.pos h;obtain rfl:i=0:=by omega
   show CU l rc mo (n+1)+prc l (mo (n+1)) (n+1)=_;rw [afw hl h (fun k hk=>hm k (by omega))];unfold prc;rw [if_neg (by omega),e,show ((n+1:Nat):Int)=(n:Int)+1 from rfl,Int.add_mul,Int.one_mul];show _+(l.getD 0 p0).2.2=_;omega
theorem ajT:RV (tr.getD 0 r0):=by
 refine ⟨⟨by decide,by decide,by decide,by decide⟩,fun i hi => ?_,by decide,fun i hi => ?_,by decide⟩
 ·exact absurd hi (by simp [tr])
 ·obtain rfl:i=0:=by have:i<1:=hi;omega
  decide
theorem P7:TV tr 0:=by
 refine ⟨by decide,fun i hi => ?_⟩;obtain rfl:i=0:=by have:i<1:=hi;omega
 exact ⟨ajT,fun k hk=>by omega⟩
theorem aiH (num:List UInt8):gX ((tr,0),num)=some (0,true):=by
 obtain ⟨r,e1,_,h,_⟩:=GI tr 0 num;have k:FX tr num (((0:Nat):Int),true) := .inr ⟨0,by decide,rfl,by show Bg num [];simp [Bg],fun j hj _=>by
  obtain rfl:j=0:=by have:j<1:=hj;omega
  exact Nat.le_refl _⟩
 rw [e1,(h P7).uniq P7 k];rfl
theorem aiI (num:List UInt8) {a b:Int} (hs:Spn a b) (h1:SE a b<=1000000):bT ((tr,0),(num,(a,b)))=some (1000*SE a b,0):=by
 rw [Rj (i:=0) P7 hs h1 (by decide) (aiH num)];have h0:=MB a b;have e:CV (tr.getD 0 r0) 0 a (SE a b)=1000*SE a b:=by
  generalize SE a b=s at *
  unfold CV;have hp:PN 0 (tr.getD 0 r0).2.2.1 (tr.getD 0 r0).2.2.2.1 s=s:=by
   show PN 0 1 1 s=s;unfold PN;split
   ·omega
   ·split<;>omega
  rw [hp];split
  ·omega
  ·obtain ⟨n,hn⟩:∃n:Nat,s.toNat=n+1:=⟨s.toNat-1,by omega⟩
   rw [hn,afw rfl ajT.2.2 (fun k hk=>by
    have:=Zw (a:=a) (f:=0) (fi:=1) (st:=1) ⟨hs.1,Int.le_trans hs.2.1 hs.2.2⟩ (by omega) (by omega) (by omega) (k:=k) (by omega);show 0<=MO a 0 1 1 k/\MO a 0 1 1 k<=4000000000000000000;omega)]
   show (0:Int)+1000+(n:Int)*1000=1000*s;omega
 rw [e]
end Rt
theorem Az:gY ()=some (tr,0):=rfl
theorem VL1 {B:List Int} {s n l now:Int} {b:BL} (h1:0<=s/\s<=(B.length:Int)/\0<=n/\n<=1048576) (h2:0<=now/\now<=1099511627776) (h3:0<=l/\l<=1048576) (h4:BK now b) (h5:b.2.2.2.2.2.2.1=0\/(1<=b.2.2.2.2.2.2.1/\b.2.2.2.2.2.2.1<=l)):VL (B,(s,(n,([b],(l,now))))):=by
 refine ⟨h1,h2,h3,?_,fun i hi => ?_⟩
 ·have:=tq [b];simp at this;show opn [b]<=256;omega
 ·obtain rfl:i=0:=by have:i<1:=hi;omega
  refine ⟨h4,?_⟩;by_cases hz:b.2.2.2.2.2.2.1=0
  ·exact .inl ⟨by show 0<opn [b];simp [opn,hz],fun h=>by omega⟩
  ·exact .inr ⟨Nat.le_trans (show opn [b]<=0 by simp [opn,hz]) (Nat.le_refl _),by
    rw [PZ (Nat.zero_le _)];show 0+1<=b.2.2.2.2.2.2.1/\b.2.2.2.2.2.2.1<=l;omega⟩
theorem VL0:VL zG:=⟨by decide,by decide,by decide,by decide,fun i hi=>absurd hi (by simp [zG])⟩
def wA:BL:=([99],([97],([98],(1000,(0,(0,(0,(0,(0,false)))))))))
def wB:List Int:=[]++Jn.jU 0 1 (dB wA)
def w1:BL:=([99],([97],([98],(1000,(-1,(1000,(0,(0,(0,false)))))))))
def w2:BL:=([99],([97],([98],(1000,(2000,(2000,(0,(0,(0,false)))))))))
def w3:BL:=([99],([97],([98],(1000,(2000,(4500,(1,(3,(3000,false)))))))))
def wC:List Int:=wB++Jn.jU 1 2 (lX [2000] [[99]])
def wD:List Int:=wC++Jn.jU 2 4 (lX [4500,1,3,3000] [[99]])
theorem len1 (t:Int) (c:Tx):(lX [t] [c]).length=10+c.length:=by
 rw [iJ];simp only [List.flatMap_cons,List.flatMap_nil,List.length_append,vI,List.length_cons,List.length_nil];omega
theorem XC:wB.length=31:=by
 unfold wB;rw [List.nil_append,Jn.fE,dB,iJ];simp [vI,wA]
theorem G6:wC.length=56:=by
 unfold wC;rw [List.length_append,XC,Jn.fE,len1];rfl
theorem G7:wD.length=105:=by
 unfold wD;rw [List.length_append,G6,Jn.fE,iJ];simp [vI]
theorem bk1:BK 1000 w1:=⟨by decide,by decide,.inl rfl,by decide,.inl (by decide)⟩
theorem bk2:BK 2000 w2:=⟨by decide,by decide,.inr (by decide),by decide,.inl (by decide)⟩
theorem bk3:BK 4500 w3:=⟨by decide,by decide,.inr (by decide),by decide,.inr ⟨by decide,by decide,by decide,by decide⟩⟩
theorem Vg (g:LG) (c:Tx) (t:Int) (hl:g.2.2.2.1.length<=1000000) (hB:g.1.length<=900000):nO (g,(c,t))=some (GR g 2 c t):=by
 have h:=ZJ g 2 c t (.inl rfl) hl hB;obtain ⟨a1,a2,a3,a4,a5,a6⟩:=g;show ah (kQ ((a1,(a2,(a3,(a4,(a5,a6))))),(2,(c,t)))) _=_;rw [h];rfl
theorem amY (g:LG) (c:Tx) (t:Int) (hl:g.2.2.2.1.length<=1000000) (hB:g.1.length<=900000):yN (g,(c,t))=some (GR g 3 c t):=by
 have h:=ZJ g 3 c t (.inr rfl) hl hB;obtain ⟨a1,a2,a3,a4,a5,a6⟩:=g;show ah (kQ ((a1,(a2,(a3,(a4,(a5,a6))))),(3,(c,t)))) _=_;rw [h];rfl
theorem aq1:mJ (zG,wA)=some ((wB,(0,(1,([w1],(0,1000))))),0):=by
 rw [ZI zG wA (by decide) (by decide)];unfold RF;rw [if_pos ⟨⟨VL0,by decide,by decide⟩,by decide⟩,if_neg (fun h=>absurd h.1 (by decide)),if_neg (by decide)];rfl
theorem apD {b:BL} (h:b.2.2.2.2.2.2.1=0):Cb b.1 [b]/\gZ b.1 [b]=0:=by
 have h2:gZ b.1 [b]=0:=by simp [gZ,Rz]
 refine ⟨⟨?_,?_⟩,h2⟩
 ·rw [h2];simp [opn,h]
 ·rw [h2];rfl
theorem aq2:nO ((wB,(0,(1,([w1],(0,1000))))),([99],2000))=some ((wC,(0,(2,([w2],(0,2000))))),0):=by
 have hv:VL (wB,(0,(1,([w1],(0,1000))))):=VL1 (by rw [XC];decide) (by decide) (by decide) bk1 (.inl rfl);rw [Vg _ _ _ (by decide) (by show wB.length<=_;rw [XC];decide)];unfold GR;have hf:Cb [99] [w1]/\gZ [99] [w1]=0:=apD (b:=w1) rfl;rw [if_pos ⟨hv,by decide,by decide⟩];dsimp only;rw [if_pos hf.1];have e0:gZ ([99]:Tx) [w1]=0:=hf.2;simp only [e0];rw [if_neg (fun h=>h.2 rfl),if_neg (by decide)];rfl
theorem aq3:jG (wC,(0,(2,([w2],(0,2000)))))=some (wC,(56,(2,([w2],(0,2000))))):=by
 have hv:VL (wC,(0,(2,([w2],(0,2000))))):=VL1 (by rw [G6];decide) (by decide) (by decide) bk2 (.inl rfl);rw [GN _ (by decide) (by show wC.length<=_;rw [G6];decide)];unfold abZ;rw [if_pos hv];simp only [G6];rfl
theorem aq4:eY (wC,(56,(2,([w2],(0,2000)))))=some (b0,false):=by
 obtain ⟨r,h1,_,h3⟩:=Ns (wC,(56,(2,([w2],(0,2000))))) (by decide);rcases h3 with ⟨_,i,hi,hd,_⟩ | ⟨_,rfl⟩
 ·obtain rfl:i=0:=by have:i<1:=hi;omega
  exact (hd.1 rfl).elim
 ·exact h1
theorem aq5:Vr tr 0 [98] 2000 4500=3000:=by
 unfold Vr;rw [Rt.aiI [98] (by decide) (by decide)];rfl
theorem aq6:nP ((wC,(0,(2,([w2],(0,2000))))),((tr,0),([99],4500)))=some ((wD,(0,(3,([w3],(1,4500))))),0):=by
 have hv:VL (wC,(0,(2,([w2],(0,2000))))):=VL1 (by rw [G6];decide) (by decide) (by decide) bk2 (.inl rfl);rw [afr _ _ _ _ _ (by decide) (by show wC.length<=_;rw [G6];decide)];unfold GZ;have hf:Cb [99] [w2]/\gZ [99] [w2]=0:=apD (b:=w2) rfl;rw [if_pos ⟨⟨hv,by decide,by decide⟩,Rt.P7⟩];dsimp only;rw [if_pos hf.1];have e0:gZ ([99]:Tx) [w2]=0:=hf.2;simp only [e0];have hse:Rt.SE 2000 4500=3:=by decide
 have hco:Vr tr 0 w2.2.2.1 2000 4500=3000:=aq5;unfold tC ZK laF dE nmF;have eg:([w2]:List BL).getD 0 b0=w2:=rfl;simp only [eg];rw [if_neg (by decide),if_pos (show w2.2.2.2.2.1 ≠ -1 by decide),if_pos (show w2.2.2.2.2.1 ≠ -1 by decide),if_pos (show w2.2.2.2.2.1 ≠ -1 by decide)];have ea:w2.2.2.2.2.1=2000:=rfl;simp only [ea,hse,hco];rfl
theorem aq7:eY (wD,(0,(3,([w3],(1,4500)))))=some (b0,false):=by
 obtain ⟨r,h1,_,h3⟩:=Ns (wD,(0,(3,([w3],(1,4500))))) (by decide);rcases h3 with ⟨h,_⟩ | ⟨_,rfl⟩
 ·have h2:(0:Int)=(wD.length:Int):=h.2;rw [G7] at h2;omega
 ·exact h1
theorem aq8:jG (wD,(0,(3,([w3],(1,4500)))))=some (wD,(105,(3,([w3],(1,4500))))):=by
 have hv:VL (wD,(0,(3,([w3],(1,4500))))):=VL1 (by rw [G7];decide) (by decide) (by decide) bk3 (.inr (by decide));rw [GN _ (by decide) (by show wD.length<=_;rw [G7];decide)];unfold abZ;rw [if_pos hv];simp only [G7];rfl
theorem aq9:eY (wD,(105,(3,([w3],(1,4500)))))=some (w3,true):=by
 have hv:VL (wD,(105,(3,([w3],(1,4500))))):=VL1 (by rw [G7];decide) (by decide) (by decide) bk3 (.inr (by decide));obtain ⟨r,h1,_,h3⟩:=Ns (wD,(105,(3,([w3],(1,4500))))) (by decide);rcases h3 with ⟨_,i,hi,_,_,rfl⟩ | ⟨hno,_⟩
 ·obtain rfl:i=0:=by have:i<1:=hi;omega
  exact h1
 ·exact (hno ⟨⟨hv,by show (105:Int)=(wD.length:Int);rw [G7];rfl⟩,0,by decide,by decide,rfl⟩).elim
theorem aiJ:jD ()=some true:=by
 unfold jD;have h0:pU ()=some zG:=rfl;have h1:=aq1;unfold zG wA at h1;rw [h0];unfold zG;simp only [↓aF,aG,h1,aq2,aq3,aq4,Az,aq6,aq7,aq8,aq9];rfl
theorem Vh (l:List BL) (b:BL):(Aw l b).length<=l.length+1:=by
 unfold Aw;simp only [List.length_append,List.length_take,List.length_drop,List.length_cons,List.length_nil];omega
theorem amZ (l:List BL) (p:Nat):(iH l p).length<=l.length:=by
 rw [iH,List.length_append,List.length_take,List.length_drop];omega
theorem BK.mono {n m:Int} {b:BL} (h:BK n b) (hm:n<=m):BK m b:=⟨h.1,⟨h.2.1.1,Int.le_trans h.2.1.2 hm⟩,h.2.2.1,⟨h.2.2.2.1.1,Int.le_trans h.2.2.2.1.2 hm⟩,h.2.2.2.2⟩
theorem Nu (x y:Int):x<=dM x y/\y<=dM x y/\(dM x y=x\/dM x y=y):=by unfold dM;split<;>omega
def INV (s:ST):Prop:=(∀b∈s.1,BK s.2.2.2 b/\b.2.2.2.2.2.2.1=0)/\PW s.1/\s.1.length<=256/\s.2.2.1=(s.2.1.length:Int) /\
 (∀i,i<s.2.1.length->BK s.2.2.2 (s.2.1.getD i b0)/\(s.2.1.getD i b0).2.2.2.2.2.2.1=(i:Int)+1)/\(0<=s.2.2.2/\s.2.2.2<=1099511627776)/\s.2.1.length<=1000000
theorem INV.az {s:ST} (h:INV s):AZ s.1:=fun b hb=>(h.1 b hb).2
theorem INV.op {s:ST} (h:INV s):Opn s.1:=amS h.az h.2.1 (by have:=h.2.2.1;omega)
def s0:ST:=([],([],(0,0)))
theorem inv0:INV s0:=⟨fun b (hb:b∈([]:List BL))=>(by cases hb),List.Pairwise.nil,Nat.zero_le _,rfl,fun i (hi:i<0)=>absurd hi (Nat.not_lt_zero i),⟨Int.le_refl 0,(by omega:(0:Int)<=1099511627776)⟩,Nat.zero_le _⟩
def AOk (a:AC):Prop:=(a.1=1\/a.1=2\/a.1=3\/a.1=4\/a.1=5)/\(0<=a.2.1/\a.2.1<=1099511627776)/\0<=a.2.2.1/\0<=a.2.2.2.1/\0<=a.2.2.2.2.1
theorem afx {k:Int} {d:List Int} {a:AC} (hb:Bytes d) (h:G5 k d=some a):AOk a:=by
 unfold G5 XB at h;have hr:0<=(rN (d,false)).1/\(rN (d,false)).1<18446744073709551616:=BM hb;have hA:Bytes (rN (d,false)).2.1:=qY hb;generalize rN (d,false)=A at *
 obtain ⟨t,r,s⟩:=A;simp only at hr hA;split at h
 ·split at h
  ·cases h;exact ⟨.inr (.inr (.inr (.inr rfl))),⟨Int.le_refl 0,(by omega:(0:Int)<=1099511627776)⟩,hr.1,Int.le_refl 0,Int.le_refl 0⟩
  ·cases h
 ·split at h
  ·cases h
  ·rename_i hn;simp only [not_or] at hn;split at h
   ·unfold aiE at h;split at h
    ·cases h;exact ⟨.inl rfl,⟨hr.1,by simpa using hn.2⟩,Int.le_refl 0,Int.le_refl 0,Int.le_refl 0⟩
    ·cases h
   ·split at h
    ·rename_i hk;unfold aiF at h;split at h
     ·cases h;exact ⟨hk.elim (fun e => .inr (.inl e)) (fun e => .inr (.inr (.inl e))),⟨hr.1,by simpa using hn.2⟩,Int.le_refl 0,Int.le_refl 0,Int.le_refl 0⟩
     ·cases h
    ·split at h
     ·unfold aiG at h;have b1:Bytes (rN (r,s)).2.1:=qY hA;have b2:Bytes (rN (rN (r,s)).2).2.1:=qY b1;have c1:0<=(rN (r,s)).1:=(BM hA).1;have c2:0<=(rN (rN (r,s)).2).1:=(BM b1).1;have c3:0<=(rN (rN (rN (r,s)).2).2).1:=(BM b2).1;split at h
      ·cases h;exact ⟨.inr (.inr (.inr (.inl rfl))),⟨hr.1,by simpa using hn.2⟩,c1,c2,c3⟩
      ·cases h
     ·cases h
theorem iG {l:List BL} {p:Nat} (h:p<l.length):l.getD p b0∈l:=by
 rw [List.getD_eq_getElem?_getD,List.getElem?_eq_getElem h];exact List.getElem_mem h
theorem ZO {a:AC} {s s':ST} (ha:AOk a) (h:INV s) (hl:s.2.1.length<1000000) (he:mX a s=some s'):INV s'/\s'.2.1.length<=s.2.1.length+1:=by
 obtain ⟨i1,i2,i3,i4,i5,i6,i7⟩:=h;have haz:AZ s.1:=fun b hb=>(i1 b hb).2;obtain ⟨op,dn,la,no⟩:=s;obtain ⟨k,t,n,se,co,c,f,o⟩:=a;obtain ⟨hk,ht,hn,hse,hco⟩:=ha;simp only at i1 i2 i3 i4 i5 i6 i7 hk ht hn hse hco hl haz;have hm:=Nu no t;have hop:=haz.opn;unfold mX at he;simp only at he;split at he
 ·by_cases hg:OKg dn n
  ·rw [dL hg] at he;simp only [cond_true,Option.some.injEq] at he;subst he;have hg1:=hg.1;have hg2:=hg.2.1;refine ⟨⟨i1,i2,i3,?_,fun i hi => ?_,i6,?_⟩,?_⟩
   ·show la=(((dn.set (n-1).toNat (SB (dn.getD (n-1).toNat b0))).length:Nat):Int)
    rw [List.length_set];exact i4
   ·replace hi:i<(dn.set (n-1).toNat (SB (dn.getD (n-1).toNat b0))).length:=hi;rw [List.length_set] at hi;show BK no ((dn.set (n-1).toNat (SB (dn.getD (n-1).toNat b0))).getD i b0)/\((dn.set (n-1).toNat (SB (dn.getD (n-1).toNat b0))).getD i b0).2.2.2.2.2.2.1=(i:Int)+1;rw [List.getD_eq_getElem?_getD,List.getElem?_set];obtain ⟨j1,j2⟩:=i5 i hi;by_cases e:(n-1).toNat=i
    ·rw [if_pos e,if_pos (by omega),Option.getD_some,e];refine ⟨⟨j1.1,j1.2.1,j1.2.2.1,j1.2.2.2.1,?_⟩,j2⟩;rcases j1.2.2.2.2 with q | q
     ·exact absurd q.1 (by omega)
     ·exact .inr q
    ·rw [if_neg e,<-List.getD_eq_getElem?_getD];exact ⟨j1,j2⟩
   ·show (dn.set (n-1).toNat (SB (dn.getD (n-1).toNat b0))).length<=1000000;rw [List.length_set];exact i7
   ·show (dn.set (n-1).toNat (SB (dn.getD (n-1).toNat b0))).length<=dn.length+1;rw [List.length_set];omega
  ·rw [jP hg] at he;cases he
 ·split at he
  ·by_cases hg:OKb op c f o
   ·rw [dL hg] at he;simp only [cond_true,Option.some.injEq] at he;subst he;refine ⟨⟨fun b hb => ?_,amU i2 haz hg.1,?_,i4,fun i hi=>⟨(i5 i hi).1.mono hm.1,(i5 i hi).2⟩,?_,i7⟩,Nat.le_succ _⟩
    ·rcases ZN hb with rfl | hb
     ·exact ⟨⟨⟨hg.2.2.1.1,hg.2.2.1.2,hg.2.2.2.1,hg.2.2.2.2⟩,⟨ht.1,hm.2.1⟩,.inl rfl,⟨Int.le_refl _,hm.2.1⟩,.inl ⟨rfl,rfl,rfl,rfl⟩⟩,rfl⟩
     ·exact ⟨(i1 b hb).1.mono hm.1,(i1 b hb).2⟩
    ·have:=Vh op (c,(f,(o,(t,(-1,(t,(0,(0,(0,false)))))))));have h2:=hg.2.1;show (Aw op _).length<=256;omega
    ·show 0<=dM no t/\dM no t<=1099511627776;omega
   ·rw [jP hg] at he;cases he
  ·split at he
   ·by_cases hg:OKe op la t n se co c
    ·rw [dL hg] at he;simp only [cond_true,Option.some.injEq] at he;subst he;have hlt:gZ c op<op.length:=by have:=hg.1.1;omega
     have hx:=i1 _ (iG hlt);have hrl:=amZ op (gZ c op);have hrb:∀b∈iH op (gZ c op),BK (dM no t) b/\b.2.2.2.2.2.2.1=0:=fun b hb=>by
      have:b∈op:=by
       unfold iH at hb;rcases List.mem_append.1 hb with hb | hb
       ·exact List.mem_of_mem_take hb
       ·exact List.mem_of_mem_drop hb
      exact ⟨(i1 b this).1.mono hm.1,(i1 b this).2⟩
     have hmx:0<=dM no t/\dM no t<=1099511627776:=by omega
     obtain ⟨hF,hE,hC⟩:=hg;generalize op.getD (gZ c op) b0=x at *
     by_cases hz:n=0
     ·simp only [if_pos hz];exact ⟨⟨hrb,afu i2 _,by show (iH op (gZ c op)).length<=256;omega,i4,fun i hi=>⟨(i5 i hi).1.mono hm.1,(i5 i hi).2⟩,hmx,i7⟩,Nat.le_succ _⟩
     ·simp only [if_neg hz];rcases hC with q | q
      ·exact absurd q.1 hz
      ·obtain ⟨q1,q2,q3,q4,q5,q6⟩:=q;refine ⟨⟨hrb,afu i2 _,by show (iH op (gZ c op)).length<=256;omega,?_,fun i hi => ?_,hmx,?_⟩,?_⟩
       ·show n=(((dn++[rcd x t n se co]).length:Nat):Int)
        rw [List.length_append];show n=((dn.length+1:Nat):Int)
        omega
       ·replace hi:i<(dn++[rcd x t n se co]).length:=hi;rw [List.length_append] at hi;replace hi:i<dn.length+1:=hi;show BK (dM no t) ((dn++[rcd x t n se co]).getD i b0)/\((dn++[rcd x t n se co]).getD i b0).2.2.2.2.2.2.1=(i:Int)+1;rw [List.getD_eq_getElem?_getD];by_cases e:i<dn.length
        ·rw [List.getElem?_append_left e,<-List.getD_eq_getElem?_getD];exact ⟨(i5 i e).1.mono hm.1,(i5 i e).2⟩
        ·obtain rfl:i=dn.length:=by omega
         rw [List.getElem?_append_right (Nat.le_refl _),Nat.sub_self];show BK (dM no t) (rcd x t n se co)/\n=_;obtain ⟨⟨x1,x2,x3,x4,x5⟩,x6⟩:=hx;refine ⟨⟨x1,⟨x2.1,by have:=x4.1;show x.2.2.2.1<=_;omega⟩,?_,⟨?_,hm.2.1⟩,.inr ⟨q1,q2,hco,q5⟩⟩,by omega⟩
         ·rcases x3 with x3 | x3
          ·exact .inl x3
          ·exact .inr ⟨x3.1,Int.le_trans x3.2 hE⟩
         ·show x.2.2.2.1<=t;have:=x4.1;omega
       ·show (dn++[rcd x t n se co]).length<=1000000;rw [List.length_append];show dn.length+1<=1000000;omega
       ·show (dn++[rcd x t n se co]).length<=dn.length+1;rw [List.length_append];exact Nat.le_refl _
    ·rw [jP hg] at he;cases he
   ·by_cases hg:OKt op k t c
    ·rw [dL hg] at he;simp only [cond_true,Option.some.injEq] at he;subst he;have hlt:gZ c op<op.length:=by have:=hg.1.1;omega
     have hx:=i1 _ (iG hlt);obtain ⟨hF,hE,hC⟩:=hg;refine ⟨⟨fun b hb => ?_,amT i2 hlt rfl,?_,i4,fun i hi=>⟨(i5 i hi).1.mono hm.1,(i5 i hi).2⟩,?_,i7⟩,Nat.le_succ _⟩
     ·rcases List.mem_or_eq_of_mem_set hb with hb | rfl
      ·exact ⟨(i1 b hb).1.mono hm.1,(i1 b hb).2⟩
      ·generalize op.getD (gZ c op) b0=x at *
       obtain ⟨⟨x1,x2,x3,x4,x5⟩,x6⟩:=hx;refine ⟨⟨x1,⟨x2.1,by have:=x4.1;show x.2.2.2.1<=dM no t;omega⟩,?_,⟨?_,hm.2.1⟩,?_⟩,x6⟩
       ·show (if k=2 then t else x.2.2.2.2.1) = -1\/(x.2.2.2.1<=(if k=2 then t else x.2.2.2.2.1)/\(if k=2 then t else x.2.2.2.2.1)<=t)
        have:=x4.1;split
        ·exact .inr ⟨by omega,Int.le_refl _⟩
        ·rcases x3 with x3 | x3
         ·exact .inl x3
         ·exact .inr ⟨x3.1,Int.le_trans x3.2 hE⟩
       ·show x.2.2.2.1<=t;have:=x4.1;omega
       ·rcases x5 with q | q
        ·exact .inl q
        ·exact absurd x6 q.1
     ·show (op.set _ _).length<=256;rw [List.length_set];exact i3
     ·show 0<=dM no t/\dM no t<=1099511627776;omega
    ·rw [jP hg] at he;cases he
def rpB (x11:List (Int×List Int)):(Int×ST)->Option ((Int×ST) ⊕ (ST ⊕ (LG×Int))) :=
 (fun (v12,(v13,(v14,(v15,v16)))) =>
 bif (decide (v12<(x11.length:Int))) then
 bif (decide ((0<=v12)/\(v12<(x11.length:Int)))) then
 ah x11[v12.toNat]? fun x17 =>
 bif ((decide (v13.length=v13.length))&&(decide (v14.length=v14.length))) then
 ah (BJ ((x17.1,x17.2),(v13,(v14,(v15,v16))))) fun (x19,(x20,(x21,(x22,x23)))) =>
 bif (!x19) then
 au (au (some ((([]:List Int),((0:Int),((0:Int),(([]:List iT),((0:Int),(0:Int)))))),(5:Int))))
 else
 bif ((decide (x20.length<=x20.length))&&(decide (x21.length<=x21.length))) then
 some (Sum.inl ((IntKind.wrap .i64 (v12+(1:Int))),((x20.take x20.length),((x21.take x21.length),(x22,x23)))))
 else none
 else none
 else none
 else
 au (bif ((decide (v13.length<=v13.length))&&(decide (v14.length<=v14.length))) then
 some (Sum.inl ((v13.take v13.length),((v14.take v14.length),(v15,v16))))
 else none))
def caB {δ:Type} (v25 v26:List BL):(Int×Int)->Option ((Int×Int) ⊕ (Int ⊕ δ)) :=
 (fun (v29,v30) =>
 bif (decide (v29<2)) then
 bif (decide ((0<=v29)/\(v29<2))) then
 ah ((v25.take v25.length)::((v26.take v26.length)::([]:List (List iT))))[v29.toNat]? fun x31 =>
 ah (some (IntKind.wrap .i64 (v30+(x31.length:Int)))) fun x32 =>
 bif (decide (x32<0)) then
 none
 else
 some (Sum.inl ((IntKind.wrap .i64 (v29+(1:Int))),x32))
 else none
 else
 au (some (Sum.inl v30)))
def cbB {δ:Type} (v25 v26:List BL):(Int×List BL)->Option ((Int×List BL) ⊕ (List BL ⊕ δ)) :=
 (fun (v36,v37) =>
 bif (decide (v36<2)) then
 bif (decide ((0<=v36)/\(v36<2))) then
 ah ((v25.take v25.length)::((v26.take v26.length)::([]:List (List iT))))[v36.toNat]? fun x38 =>
 bif (decide (v37.length<=v37.length)) then
 bif (decide (((List.length ((v37.take v37.length)++x38))*104)<=140737488355328)) then
 ah (some ((v37.take v37.length)++x38)) fun x39 =>
 bif (decide (x39.length<=x39.length)) then
 some (Sum.inl ((IntKind.wrap .i64 (v36+(1:Int))),(x39.take x39.length)))
 else none
 else none
 else none
 else none
 else
 au (bif (decide (v37.length<=v37.length)) then
 some (Sum.inl (v37.take v37.length))
 else none))
def Zn (a2:List Ra) (a3:Int) (v25:List BL):(Int×LG)->Option ((Int×LG) ⊕ (LG ⊕ (LG×Int))) :=
 (fun (v43,(v44,(v45,(v46,(v47,(v48,v49)))))) =>
 bif (decide (v43<(v25.length:Int))) then
 bif (decide (((0:Int)<=0)/\(0<(v47.length:Int)))) then
 ah v47[0]? fun x50 =>
 ah (ji ((v44,(v45,(v46,(v47,(v48,v49))))),((a2,a3),((0:Int),x50.2.2.2.2.2.1)))) fun ((x52,(x53,(x54,(x55,(x56,x57))))),x58) =>
 bif (decide (x58≠0)) then
 au (au (some ((([]:List Int),((0:Int),((0:Int),(([]:List iT),((0:Int),(0:Int)))))),x58)))
 else
 some (Sum.inl ((IntKind.wrap .i64 (v43+(1:Int))),(x52,(x53,(x54,(x55,(x56,x57)))))))
 else none
 else
 au (some (Sum.inl (v44,(v45,(v46,(v47,(v48,v49))))))))
theorem am0 (a1:List Int) (a2:List Ra) (a3 a4:Int):lY (a1,((a2,a3),a4)) =
 ah (aW (a2,a3)) fun x5 =>
 bif (!x5) then
  some ((([]:List Int),((0:Int),((0:Int),(([]:List iT),((0:Int),(0:Int)))))),(2:Int))
 else
  ah (aZ (a4,((0:Int),(1099511627776:Int)))) fun x6 =>
  bif (!x6) then
   some ((([]:List Int),((0:Int),((0:Int),(([]:List iT),((0:Int),(0:Int)))))),(2:Int))
  else
   ah (kD a1) fun ((x8,(x9,x10)),x11) =>
   aA (ay (rpB x11) ((0:Int),(([]:List iT),(([]:List iT),((0:Int),(0:Int)))))) fun (v25,(v26,(v27,v28))) =>
   bif (decide (a4<v28)) then
    some ((([]:List Int),((0:Int),((0:Int),(([]:List iT),((0:Int),(0:Int)))))),(9:Int))
   else
    bif ((decide (v25.length<=v25.length))&&(decide (v26.length<=v26.length))) then
     aA (aA (ay (caB v25 v26) ((0:Int),(0:Int))) fun v34 =>
 ah (Iw v34) fun x35 =>
 aA (bif (decide (x35.length<=x35.length)) then
 ay (cbB v25 v26) ((0:Int),(x35.take x35.length))
 else none) fun v41 =>
 bif (decide (v41.length<=v41.length)) then
 some (Sum.inl (v41.take v41.length))
 else none) fun v42 =>
     aA (bif (decide (v42.length<=v42.length)) then
 ay (Zn a2 a3 v25) ((0:Int),(x8,(x9,(x10,((v42.take v42.length),(v27,a4))))))
 else none) fun (v60,(v61,(v62,(v63,(v64,v65))))) =>
     some ((v60,(v61,(v62,(v63,(v64,v65))))),(0:Int))
    else none:=rfl
def run:List (Int×List Int)->ST->Option ST
 | [],s=>some s
 | x::l,s=>match G5 x.1 x.2 with | none=>none | some a=>match mX a s with | none=>none | some s'=>run l s'
def RBy (l:List (Int×List Int)):Prop:=∀x∈l,Bytes x.2
theorem vJ {x:Int×List Int} {l:List (Int×List Int)} {s:ST}:run (x::l) s=match G5 x.1 x.2 with | none=>none | some a=>match mX a s with | none=>none | some s'=>run l s':=rfl
theorem aiM {l:List (Int×List Int)} {i:Nat} (hi:i<l.length) (hl:l.length<=900000) (hb:RBy l) (op dn:List BL) (la no:Int) (h:INV (op,(dn,(la,no)))) (hd:dn.length<=i) :
 (∃s',run [l.getD i (0,[])] (op,(dn,(la,no)))=some s'/\INV s'/\s'.2.1.length<=i+1/\rpB l ((i:Int),(op,(dn,(la,no))))=some (.inl (((i+1:Nat):Int),s'))) \/
 (run [l.getD i (0,[])] (op,(dn,(la,no)))=none/\rpB l ((i:Int),(op,(dn,(la,no))))=some (.inr (.inr (zG,5)))):=by
 obtain ⟨x,hx,hxb⟩:=get_at ((0,[]):Int×List Int) hi;have hbx:Bytes x.2:=by
  rw [<-hx,List.getD_eq_getElem?_getD,List.getElem?_eq_getElem hi];exact hb _ (List.getElem_mem hi)
 have hla:la=(dn.length:Int):=h.2.2.2.1;have hj:=apz x.1 x.2 op dn la no h.op (by omega) (by omega) hbx;rw [hx];unfold rpB;simp (disch:=(first | omega | (simp only [bJ];omega))) only [↓aF,aG,if_pos,if_neg,↓hxb,decide_true,Bool.and_self];rcases hj with ⟨a,s',h1,h2,h3⟩ | ⟨h1,s',h3⟩
 ·have hk:=ZO (afx hbx h1) h (by show dn.length<1000000;omega) h2;refine .inl ⟨s',?_,hk.1,?_,?_⟩
  ·rw [vJ,h1];simp only [h2];rfl
  ·have:=hk.2;show s'.2.1.length<=i+1;have e:((op,(dn,(la,no))):ST).2.1.length=dn.length:=rfl;omega
  ·rw [h3];obtain ⟨o1,d1,l1,n1⟩:=s';simp (disch:=(first | omega | (simp only [bJ];omega))) only [↓aF,aG,decide_true,Bool.and_self,aj];rfl
 ·refine .inr ⟨?_,?_⟩
  ·rcases h1 with h1 | ⟨a,h1,h2⟩
   ·rw [vJ,h1]
   ·rw [vJ,h1];simp only [h2]
  ·rw [h3];obtain ⟨o1,d1,l1,n1⟩:=s';simp only [↓aF,aG];rfl
theorem run_bind (x:Int×List Int) (l:List (Int×List Int)) (s:ST):run (x::l) s=match run [x] s with | none=>none | some s'=>run l s':=by
 rw [vJ,vJ];cases G5 x.1 x.2 with
 | none=>rfl
 | some a =>
   simp only;cases mX a s with
   | none=>rfl
   | some s'=>rfl
theorem ZP {l:List (Int×List Int)} (hl:l.length<=900000) (hb:RBy l):∀(n i:Nat) (s:ST),l.length-i=n->i<=l.length->INV s->s.2.1.length<=i ->
 (∃s',run (l.drop i) s=some s'/\INV s'/\s'.2.1.length<=l.length/\ay (rpB l) ((i:Int),s)=some (.inl s'))\/(run (l.drop i) s=none/\ay (rpB l) ((i:Int),s)=some (.inr (zG,5)))
 | 0,i,s,hn,hi,hI,hd=>by
   obtain rfl:i=l.length:=by omega
   refine .inl ⟨s,by rw [List.drop_length];rfl,hI,hd,?_⟩;rw [dR];obtain ⟨op,dn,la,no⟩:=s;have e:rpB l (((l.length:Nat):Int),(op,(dn,(la,no))))=some (.inr (.inl (op,(dn,(la,no))))):=by
    unfold rpB;simp (disch:=(first | omega | (simp only [bJ];omega))) only [↓aF,aG,if_pos,if_neg,decide_true,Bool.and_self]
   rw [e]
 | n+1,i,s,hn,hi,hI,hd=>by
   have hlt:i<l.length:=by omega
   have hdr:l.drop i=l.getD i (0,[])::l.drop (i+1):=by
    rw [List.drop_eq_getElem_cons hlt,List.getD_eq_getElem?_getD,List.getElem?_eq_getElem hlt];rfl
   rw [hdr,run_bind,dR];obtain ⟨op,dn,la,no⟩:=s;rcases aiM hlt hl hb op dn la no hI hd with ⟨s',h1,h2,h3,h4⟩ | ⟨h1,h4⟩
   ·rw [h1,h4];exact ZP hl hb n (i+1) s' (by omega) (by omega) h2 h3
   ·rw [h1,h4];exact .inr ⟨rfl,rfl⟩
theorem ara {δ:Type} (op dn:List BL) (h1:op.length<=1000000) (h2:dn.length<=1000000):ay (caB (δ:=δ) op dn) (0,0)=some (.inl (((op.length+dn.length:Nat):Int))):=by
 have e0:caB (δ:=δ) op dn (0,0)=some (.inl (1,(op.length:Int))):=by
  unfold caB;simp (disch:=(first | omega | (simp only [bJ];omega))) only [↓aF,aG,if_pos,if_neg,decide_true,Bool.and_self,aj,Int.zero_add,Int.toNat_zero,List.getElem?_cons_zero]
 have e1:caB (δ:=δ) op dn (1,(op.length:Int))=some (.inl (2,((op.length+dn.length:Nat):Int))):=by
  unfold caB;simp (disch:=(first | omega | (simp only [bJ];omega))) only [↓aF,aG,if_pos,if_neg,decide_true,Bool.and_self,aj,Int.toNat_one,List.getElem?_cons_succ,List.getElem?_cons_zero];rw [Int.natCast_add];rfl
 have e2:caB (δ:=δ) op dn (2,((op.length+dn.length:Nat):Int))=some (.inr (.inl ((op.length+dn.length:Nat):Int))):=by
  unfold caB;simp (disch:=(first | omega | (simp only [bJ];omega))) only [↓aF,aG,if_pos,if_neg]
 rw [dR,e0];simp only;rw [dR,e1];simp only;rw [dR,e2]
theorem arb {δ:Type} (op dn:List BL) (h1:op.length<=400000) (h2:dn.length<=400000):ay (cbB (δ:=δ) op dn) (0,[])=some (.inl (op++dn)):=by
 have e0:cbB (δ:=δ) op dn (0,[])=some (.inl (1,op)):=by
  unfold cbB;simp (disch:=(first | omega | (simp only [bJ];omega))) only [↓aF,aG,if_pos,if_neg,decide_true,Bool.and_self,aj,Int.toNat_zero,List.getElem?_cons_zero,List.nil_append];rfl
 have e1:cbB (δ:=δ) op dn (1,op)=some (.inl (2,op++dn)):=by
  unfold cbB;simp (disch:=(first | omega | (simp only [bJ];omega))) only [↓aF,aG,if_pos,if_neg,decide_true,Bool.and_self,aj,Int.toNat_one,List.getElem?_cons_succ,List.getElem?_cons_zero];rfl
 have e2:cbB (δ:=δ) op dn (2,op++dn)=some (.inr (.inl (op++dn))):=by
  unfold cbB;simp (disch:=(first | omega | (simp only [bJ];omega))) only [↓aF,aG,if_pos,if_neg]
 rw [dR,e0];simp only;rw [dR,e1];simp only;rw [dR,e2]
def cls (rs:List Ra) (fr:Int):Nat->LG->LG×Int
 | 0,g=>(g,0)
 | n+1,g=>if (tC rs fr g 0 (g.2.2.2.1.getD 0 b0).2.2.2.2.2.1 g.2.2.2.2.2).2≠0 then tC rs fr g 0 (g.2.2.2.1.getD 0 b0).2.2.2.2.2.1 g.2.2.2.2.2 else cls rs fr n (tC rs fr g 0 (g.2.2.2.1.getD 0 b0).2.2.2.2.2.1 g.2.2.2.2.2).1
def FI (n:Nat) (g:LG):Prop:=n<=g.2.2.2.1.length/\(∀i,i<n->Opb (g.2.2.2.1.getD i b0)/\(0<=(g.2.2.2.1.getD i b0).2.2.2.2.2.1/\(g.2.2.2.1.getD i b0).2.2.2.2.2.1<=1099511627776))/\g.2.2.2.1.length<=1000000/\g.1.length+1000*n<=900000/\(0<=g.2.1/\g.2.1<=(g.1.length:Int))/\0<=g.2.2.1/\(0<=g.2.2.2.2.1/\g.2.2.2.2.1<=1048576)
theorem apE (l:List BL):iH l 0=l.drop 1:=by unfold iH;rw [List.take_zero,List.nil_append]
theorem aiN (rs:List Ra) (fr:Int) {n:Nat} {g:LG} (h:FI (n+1) g) (he:(tC rs fr g 0 (g.2.2.2.1.getD 0 b0).2.2.2.2.2.1 g.2.2.2.2.2).2=0):FI n (tC rs fr g 0 (g.2.2.2.1.getD 0 b0).2.2.2.2.2.1 g.2.2.2.2.2).1:=by
 obtain ⟨h1,h2,h3,h4,h5,h6,h7⟩:=h;unfold tC at he ⊢;split at he
 ·cases he
 ·rename_i hn;rw [if_neg hn];have hx:=h2 0 (Nat.succ_pos n);have hlen:(dE rs fr g.2.2.2.2.1 (g.2.2.2.1.getD 0 b0) (g.2.2.2.1.getD 0 b0).2.2.2.2.2.1).length<=240:=by
   have hl2:=hx.1.2.2;revert hl2;generalize g.2.2.2.1.getD 0 b0=y;intro hl2;unfold dE;rw [iJ];simp [vI];omega
  have hget:∀i,i<n->(ZK rs fr g.2.2.2.1 g.2.2.2.2.1 0 (g.2.2.2.1.getD 0 b0).2.2.2.2.2.1).getD i b0=g.2.2.2.1.getD (i+1) b0:=fun i hi=>by
   have e:(g.2.2.2.1.drop 1).getD i b0=g.2.2.2.1.getD (i+1) b0:=by
    rw [List.getD_eq_getElem?_getD,List.getElem?_drop,<-List.getD_eq_getElem?_getD,Nat.add_comm]
   unfold ZK;rw [apE];split
   ·rw [List.getD_eq_getElem?_getD,List.getElem?_append_left (by rw [List.length_drop];omega),<-List.getD_eq_getElem?_getD];exact e
   ·exact e
  have hbl:(ZK rs fr g.2.2.2.1 g.2.2.2.2.1 0 (g.2.2.2.1.getD 0 b0).2.2.2.2.2.1).length<=g.2.2.2.1.length/\g.2.2.2.1.length<=(ZK rs fr g.2.2.2.1 g.2.2.2.2.1 0 (g.2.2.2.1.getD 0 b0).2.2.2.2.2.1).length+1:=by
   unfold ZK;rw [apE];split
   ·rw [List.length_append,List.length_drop,List.length_singleton];omega
   ·rw [List.length_drop];omega
  have hla:0<=laF g.2.2.2.1 g.2.2.2.2.1 0/\laF g.2.2.2.1 g.2.2.2.2.1 0<=1048576:=by
   unfold laF;split
   ·rename_i ha;have:¬g.2.2.2.2.1>=1048576:=fun k=>hn (.inl ⟨ha,k⟩);omega
   ·exact h7
  refine ⟨?_,fun i hi => ?_,?_,?_,?_,?_,hla⟩
  ·show n<=(ZK rs fr g.2.2.2.1 g.2.2.2.2.1 0 (g.2.2.2.1.getD 0 b0).2.2.2.2.2.1).length;omega
  ·show Opb ((ZK rs fr g.2.2.2.1 g.2.2.2.2.1 0 (g.2.2.2.1.getD 0 b0).2.2.2.2.2.1).getD i b0)/\_<=((ZK rs fr g.2.2.2.1 g.2.2.2.2.1 0 (g.2.2.2.1.getD 0 b0).2.2.2.2.2.1).getD i b0).2.2.2.2.2.1/\((ZK rs fr g.2.2.2.1 g.2.2.2.2.1 0 (g.2.2.2.1.getD 0 b0).2.2.2.2.2.1).getD i b0).2.2.2.2.2.1<=_;rw [hget i hi];exact h2 (i+1) (by omega)
  ·show (ZK rs fr g.2.2.2.1 g.2.2.2.2.1 0 (g.2.2.2.1.getD 0 b0).2.2.2.2.2.1).length<=1000000;omega
  ·show (g.1++Jn.jU g.2.2.1 4 _).length+1000*n<=900000;rw [List.length_append,Jn.fE];omega
  ·show 0<=g.2.1/\g.2.1<=(((g.1++Jn.jU g.2.2.1 4 _).length:Nat):Int)
   rw [List.length_append];omega
  ·show 0<=g.2.2.1+1;omega
theorem Jo (rs:List Ra) (fr:Int) (op:List BL) (hop:op.length<=1000000):∀(n k:Nat) (g:LG),k+n=op.length->FI n g ->
 ay (Zn rs fr op) ((k:Int),g)=some (if (cls rs fr n g).2≠0 then .inr (cls rs fr n g) else .inl (cls rs fr n g).1)
 | 0,k,g,hk,h=>by
   rw [dR];obtain ⟨a1,a2,a3,a4,a5,a6⟩:=g;have e:Zn rs fr op ((k:Int),(a1,(a2,(a3,(a4,(a5,a6))))))=some (.inr (.inl (a1,(a2,(a3,(a4,(a5,a6))))))):=by
    unfold Zn;simp (disch:=(first | omega | (simp only [bJ];omega))) only [↓aF,aG,if_neg]
   rw [e];rfl
 | n+1,k,g,hk,h=>by
   rw [dR];have hst:=aiN rs fr h;obtain ⟨h1,h2,h3,h4,h5,h6,h7⟩:=h;obtain ⟨x,hx,hxb⟩:=get_at b0 (l:=g.2.2.2.1) (i:=0) (by omega);have hx2:=h2 0 (Nat.succ_pos n);have hf:=ajQ rs fr g (p:=0) (g.2.2.2.1.getD 0 b0).2.2.2.2.2.1 (by omega) h3 (by omega) h5 h6 h7 hx2.1 hx2.2;rw [hx] at hf hst;obtain ⟨a1,a2,a3,a4,a5,a6⟩:=g;simp only at hf hst hx hxb;have e:Zn rs fr op ((k:Int),(a1,(a2,(a3,(a4,(a5,a6))))))=some (if (tC rs fr (a1,(a2,(a3,(a4,(a5,a6))))) 0 x.2.2.2.2.2.1 a6).2≠0 then .inr (.inr (zG,(tC rs fr (a1,(a2,(a3,(a4,(a5,a6))))) 0 x.2.2.2.2.2.1 a6).2)) else .inl (((k+1:Nat):Int),(tC rs fr (a1,(a2,(a3,(a4,(a5,a6))))) 0 x.2.2.2.2.2.1 a6).1)):=by
    unfold Zn;have hxb':∀ {β:Type} (f:BL->Option β),ah a4[0]? f=f x:=fun f=>hxb f;have h1':0<a4.length:=by have:n+1<=a4.length:=h1;omega
    simp (disch:=(first | omega | (simp only [bJ];omega))) only [↓aF,aG,if_pos,↓hxb'];rw [show ((0:Int))=(((0:Nat)):Int) from rfl,hf];generalize tC rs fr (a1,(a2,(a3,(a4,(a5,a6))))) 0 x.2.2.2.2.2.1 a6=r;obtain ⟨⟨r1,r2,r3,r4,r5,r6⟩,r7⟩:=r;simp only [↓aF,aG];by_cases hr:r7=0
    ·simp (disch:=(first | omega | (simp only [bJ];omega))) only [↓aF,aG,hr,ne_eq,not_true_eq_false,if_false,aj];rfl
    ·simp (disch:=(first | omega | (simp only [bJ];omega))) only [↓aF,aG,hr,ne_eq,not_false_iff,if_true];rfl
   rw [e];unfold cls;simp only [hx];by_cases hr:(tC rs fr (a1,(a2,(a3,(a4,(a5,a6))))) 0 x.2.2.2.2.2.1 a6).2=0
   ·simp only [hr,ne_eq,not_true_eq_false,if_false];exact Jo rs fr op hop n (k+1) _ (by omega) (hst hr)
   ·simp only [hr,ne_eq,not_false_iff,if_true];have hz:∀r:LG×Int,r=tC rs fr (a1,(a2,(a3,(a4,(a5,a6))))) 0 x.2.2.2.2.2.1 a6->r.2≠0->r.1=zG:=fun r e hr=>by
     subst e;unfold tC at hr ⊢;split at hr
     ·rename_i hc;rw [if_pos hc]
     ·exact absurd rfl hr
    rw [<-hz _ rfl hr]
theorem aiO {b:List Int} (h:Bytes b) (n:Nat):Bytes (Jn.oV b n).1.2:=by
 unfold Jn.oV;split
 ·exact fun x hx=>by cases hx
 ·split
  ·exact fun x hx=>by cases hx
  ·split
   ·exact fun x hx=>by cases hx
   ·split
    ·exact fun x hx=>h x (List.mem_of_mem_drop (List.mem_of_mem_take hx))
    ·exact fun x hx=>by cases hx
theorem aiP {b:List Int} (hb:Bytes b) {r:Jn.fV×(Int×Int)} (hr:ay (Jn.pR b) ([],0)=some r):RBy r.1:=by
 have key:∀x r,yZ (Jn.pR b) x r->RBy x.1->RBy r.1:=by
  intro x r h
  induction h with
  | done hd =>
    intro hI;unfold Jn.pR at hd;split at hd
    ·split at hd
     ·cases hd;exact hI
     ·cases hd
    ·cases hd;exact hI
  | step hn _ ih =>
    intro hI;refine ih ?_;unfold Jn.pR at hn;split at hn
    ·split at hn
     ·cases hn
     ·cases hn;intro y hy;rcases List.mem_append.1 hy with hy | hy
      ·exact hI y hy
      ·rw [List.mem_singleton.1 hy];exact aiO (fun z hz=>hb z (List.mem_of_mem_drop hz)) _
    ·cases hn
 exact key _ _ (pI.1 hr) (fun x hx=>by cases hx)
def am1 (b:List Int) (rs:List Ra) (fr now:Int) (l:Jn.fV) (n:Int):LG×Int :=
 bif tf (Rt.TV rs fr/\0<=now/\now<=1099511627776) then
  (match run l s0 with
  | none=>(zG,5)
  | some s=>if now<s.2.2.2 then (zG,9) else cls rs fr s.1.length (b.take n.toNat,(n,((l.length:Int),(s.1++s.2.1,(s.2.2.1,now))))))
 else (zG,2)
theorem am2 {now:Int} {b:BL} (h:BK now b) (h0:b.2.2.2.2.2.2.1=0) (hn:now<=1099511627776):Opb b/\(0<=b.2.2.2.2.2.1/\b.2.2.2.2.2.1<=1099511627776):=by
 obtain ⟨x1,x2,x3,x4,x5⟩:=h;rcases x5 with q | q
 ·exact ⟨⟨⟨q.1,q.2.1,q.2.2.1⟩,x3.elim .inl (fun k => .inr (by omega)),x1.2.1⟩,by omega,by omega⟩
 ·exact absurd h0 q.1
theorem am3 {s:ST} (h:INV s) (hd:s.2.1.length<=400000) {B:List Int} {sy c now:Int} (hB:B.length<=600000) (hs:0<=sy/\sy<=(B.length:Int)) (hc:0<=c):FI s.1.length (B,(sy,(c,(s.1++s.2.1,(s.2.2.1,now))))):=by
 obtain ⟨i1,i2,i3,i4,i5,i6,i7⟩:=h;refine ⟨?_,fun i hi => ?_,?_,?_,hs,hc,?_⟩
 ·show s.1.length<=(s.1++s.2.1).length;rw [List.length_append];omega
 ·show Opb ((s.1++s.2.1).getD i b0)/\0<=((s.1++s.2.1).getD i b0).2.2.2.2.2.1/\((s.1++s.2.1).getD i b0).2.2.2.2.2.1<=1099511627776;rw [List.getD_eq_getElem?_getD,List.getElem?_append_left hi,<-List.getD_eq_getElem?_getD];have:=i1 _ (iG hi);exact am2 this.1 this.2 i6.2
 ·show (s.1++s.2.1).length<=1000000;rw [List.length_append];omega
 ·show B.length+1000*s.1.length<=900000;omega
 ·show 0<=s.2.2.1/\s.2.2.1<=1048576;omega
theorem ab2 (b:List Int) (rs:List Ra) (fr now:Int) (hb:Bytes b) (hl:b.length<=600000) {l:Jn.fV} {n e:Int} (hr:ay (Jn.pR b) ([],0)=some (l,(n,e))) :
 lY (b,((rs,fr),now))=some (am1 b rs fr now l n):=by
 obtain ⟨o1,o2,o3⟩:=Jn.U4 hr;simp only at o1 o2 o3;have hby:RBy l:=aiP hb hr;have hj:=Jn.abR b hb (by omega) hr;rw [am0];unfold am1;by_cases ht:Rt.TV rs fr
 ·by_cases hn:0<=now/\now<=1099511627776
  ·rw [dL ⟨ht,hn⟩,cond_true];have hR:∀ {β:Type} (f:Bool->Option β),ah (aW (rs,fr)) f=f true:=fun f=>by rw [Rt.jB ht];rfl
   simp only [↓aF,aG,↓hR,↓jC,hn,and_self,decide_true];rw [hj];simp only [↓aF,aG];rcases ZP (l:=l) (by omega) hby l.length 0 s0 (by omega) (Nat.zero_le _) inv0 (Nat.zero_le _) with ⟨s,h1,h2,h3,h4⟩ | ⟨h1,h4⟩
   ·rw [List.drop_zero] at h1;have h4':ay (rpB l) (0,([],([],(0,0))))=some (.inl s):=h4;rw [h1,h4'];have hfi:=am3 h2 (show s.2.1.length<=400000 by omega) (B:=b.take n.toNat) (sy:=n) (c:=(l.length:Int)) (now:=now) (by rw [List.length_take];omega) (by rw [List.length_take];omega) (by omega);have h256:=h2.2.2.1;obtain ⟨op,dn,la,no⟩:=s;simp only at h3 hfi h256;simp only [↓aF,aG];by_cases hw:now<no
    ·simp only [hw,↓aF,aG,if_true];rfl
    ·have hg:∀ {β:Type} (f:List BL->Option β),ah (Iw ((((op.length+dn.length:Nat)):Int))) f=f []:=fun f=>by
      unfold Iw;rw [decide_eq_true (show (0:Int)<=((op.length+dn.length:Nat):Int)/\((op.length+dn.length:Nat):Int)<=1000000 by omega)];rfl
     have hca:∀ {δ:Type},ay (caB (δ:=δ) op dn) (0,0)=_:=fun {δ}=>ara op dn (by omega) (by omega);have hcb:∀ {δ:Type},ay (cbB (δ:=δ) op dn) (0,[])=_:=fun {δ}=>arb op dn (by omega) (by omega);have hlp:=Jo rs fr op (by omega) op.length 0 _ (by omega) hfi;simp only [hw,↓aF,aG,if_false,decide_true,Bool.and_self,↓hca,↓hg,List.length_nil,List.take_nil,↓hcb];rw [show ((0:Int))=(((0:Nat)):Int) from rfl,hlp];generalize cls rs fr op.length _=r;obtain ⟨⟨r1,r2,r3,r4,r5,r6⟩,r7⟩:=r;by_cases hz:r7=0
     ·subst hz;rfl
     ·simp only [ne_eq,hz,not_false_iff,if_true];rfl
   ·rw [List.drop_zero] at h1;have h4':ay (rpB l) (0,([],([],(0,0))))=some (.inr (zG,5)):=h4;rw [h1,h4'];rfl
  ·rw [jP (fun k=>hn k.2),cond_false];have hR:∀ {β:Type} (f:Bool->Option β),ah (aW (rs,fr)) f=f true:=fun f=>by rw [Rt.jB ht];rfl
   simp only [↓aF,aG,↓hR,↓jC,hn,decide_false];rfl
 ·rw [jP (fun k=>ht k.1),cond_false];have hR:∀ {β:Type} (f:Bool->Option β),ah (aW (rs,fr)) f=f false:=fun f=>by rw [Rt.Aq ht];rfl
  simp only [↓aF,aG,↓hR];rfl
def DZ (dn:List BL):Prop:=∀b∈dn,b.2.2.2.2.2.2.1≠0
theorem INV.dz {s:ST} (h:INV s):DZ s.2.1:=fun b hb=>by
 obtain ⟨i,hi,e⟩:=List.mem_iff_getElem.1 hb;have h5:=(h.2.2.2.2.1 i hi).2;rw [List.getD_eq_getElem?_getD,List.getElem?_eq_getElem hi,e] at h5;replace h5:b.2.2.2.2.2.2.1=(i:Int)+1:=h5;omega
theorem am4 (c:Tx):∀ {dn:List BL},DZ dn->gZ c dn=0
 | [],_=>rfl
 | b::l,h=>by rw [gZ,if_neg (fun k=>h b (by simp) k.1)]
theorem am5:∀ {dn:List BL},DZ dn->opn dn=0
 | [],_=>rfl
 | b::l,h=>by rw [opn,if_neg (h b (by simp))]
theorem RU {dn:List BL} (hd:DZ dn):∀ {op:List BL},AZ op->opn (op++dn)=op.length
 | [],_=>by rw [List.nil_append,am5 hd];rfl
 | b::l,h=>by rw [List.cons_append,opn,if_pos (h b (by simp)),RU hd (fun x hx=>h x (by simp [hx]))];rfl
theorem G8 (c:Tx) {dn:List BL} (hd:DZ dn):∀(op:List BL),gZ c (op++dn)=gZ c op
 | []=>by rw [List.nil_append,am4 c hd];rfl
 | b::l=>by rw [List.cons_append,gZ,gZ,G8 c hd l]
theorem RX (c:Tx) {op dn:List BL} (ha:AZ op) (hd:DZ dn):Cb c (op++dn)↔Cb c op:=by
 unfold Cb;rw [G8 c hd,RU hd ha,ha.opn];constructor
 ·rintro ⟨h1,h2⟩;rw [jV h1] at h2;exact ⟨h1,h2⟩
 ·rintro ⟨h1,h2⟩;rw [jV h1];exact ⟨h1,h2⟩
theorem aiQ {op dn:List BL} (b:BL) (ha:AZ op) (hd:DZ dn):Aw (op++dn) b=Aw op b++dn:=by
 have h1:=wQ b.1 op;have h2:=ha.opn;unfold Aw;rw [G8 b.1 hd,List.take_append_of_le_length (by omega),List.drop_append_of_le_length (by omega),List.append_assoc,List.append_assoc,List.append_assoc]
theorem am6 {op dn:List BL} {p:Nat} (x:BL) (h:p<op.length):(op++dn).set p x=op.set p x++dn:=by
 rw [List.set_append,if_pos h]
theorem am7 {op dn:List BL} {p:Nat} (h:p<op.length):iH (op++dn) p=iH op p++dn:=by
 unfold iH;rw [List.take_append_of_le_length (by omega),List.drop_append_of_le_length (by omega),List.append_assoc]
def ug (x:BL):BL:=(x.1,(x.2.1,(x.2.2.1,(x.2.2.2.1,(x.2.2.2.2.1,(x.2.2.2.2.2.1,(x.2.2.2.2.2.2.1,(x.2.2.2.2.2.2.2.1,(x.2.2.2.2.2.2.2.2.1,false)))))))))
def SC (x y:BL):Prop:=y.1=x.1/\y.2.2.2.1=x.2.2.2.1/\y.2.2.2.2.1=x.2.2.2.2.1/\x.2.2.2.2.2.1<=y.2.2.2.2.2.1
theorem SC.rfl (x:BL):SC x x:=⟨Eq.refl _,Eq.refl _,Eq.refl _,Int.le_refl _⟩
theorem SC.trans {x y z:BL} (h:SC x y) (k:SC y z):SC x z:=⟨k.1.trans h.1,k.2.1.trans h.2.1,k.2.2.1.trans h.2.2.1,Int.le_trans h.2.2.2 k.2.2.2⟩
structure Lat (s t:ST):Prop where
 len:s.2.1.length<=t.2.1.length
 same:∀i,i<s.2.1.length->ug (t.2.1.getD i b0)=ug (s.2.1.getD i b0)
 aft:∀x∈s.1++s.2.1,0<=x.2.2.2.2.1->∃y∈t.1++t.2.1,SC x y
 tm:s.2.2.2<=t.2.2.2
theorem Lat.refl (s:ST):Lat s s:=⟨Nat.le_refl _,fun _ _=>Eq.refl _,fun x hx _=>⟨x,hx,SC.rfl x⟩,Int.le_refl _⟩
theorem Lat.trans {s t u:ST} (h:Lat s t) (k:Lat t u):Lat s u:=⟨Nat.le_trans h.len k.len,fun i hi=>(k.same i (Nat.lt_of_lt_of_le hi h.len)).trans (h.same i hi),fun x hx h0=>by
 obtain ⟨y,hy,h1⟩:=h.aft x hx h0;obtain ⟨z,hz,h2⟩:=k.aft y hy (by rw [h1.2.2.1];exact h0);exact ⟨z,hz,h1.trans h2⟩,Int.le_trans h.tm k.tm⟩
theorem wF {l:List BL} {i:Nat} (hi:i<l.length):l.getD i b0=l[i]:=by rw [List.getD_eq_getElem?_getD,List.getElem?_eq_getElem hi];rfl
theorem P8 {l:List BL} {i j:Nat} {x:BL} (hj:j<l.length):(l.set i x).getD j b0=if i=j then x else l.getD j b0:=by
 rw [wF (by rw [List.length_set];exact hj),List.getElem_set,wF hj]
theorem Nv {l:List BL} {p:Nat} {v x:BL} (hp:p<l.length) (hx:x∈l):x∈l.set p v\/x=l.getD p b0:=by
 obtain ⟨i,hi,e⟩:=List.mem_iff_getElem.1 hx;by_cases e2:p=i
 ·subst e2;exact .inr (by rw [wF hi,e])
 ·exact .inl (List.mem_iff_getElem.2 ⟨i,by rw [List.length_set];exact hi,by rw [List.getElem_set_ne e2,e]⟩)
theorem Nw {l:List BL} {p:Nat} {v:BL} (hp:p<l.length):v∈l.set p v :=
 List.mem_iff_getElem.2 ⟨p,by rw [List.length_set];exact hp,List.getElem_set_self _⟩
theorem afz {l:List BL} {b x:BL} (h:x∈l):x∈Aw l b:=by
 unfold Aw;rw [<-List.take_append_drop (gZ b.1 l) l] at h;rcases List.mem_append.1 h with h | h
 ·exact List.mem_append.2 (.inl (List.mem_append.2 (.inl h)))
 ·exact List.mem_append.2 (.inr h)
theorem ZQ {l:List BL} {p:Nat} {x:BL} (hp:p<l.length) (h:x∈l):x∈iH l p\/x=l.getD p b0:=by
 unfold iH;have e:l=l.take p++(l.getD p b0::l.drop (p+1)):=by rw [wF hp,<-List.drop_eq_getElem_cons hp,List.take_append_drop]
 rw [e] at h;rcases List.mem_append.1 h with h | h
 ·exact .inl (List.mem_append.2 (.inl h))
 ·rcases List.mem_cons.1 h with h | h
  ·exact .inr h
  ·exact .inl (List.mem_append.2 (.inr h))
theorem aiR {a:AC} {s s':ST} (h:INV s) (he:mX a s=some s'):Lat s s':=by
 obtain ⟨i1,i2,i3,i4,i5,i6,i7⟩:=h;have haz:AZ s.1:=fun b hb=>(i1 b hb).2;obtain ⟨op,dn,la,no⟩:=s;obtain ⟨k,t,n,se,co,c,f,o⟩:=a;simp only at i1 i2 i3 i4 i5 i6 i7 haz;have hm:=(Nu no t).1;have hop:=haz.opn;have hsame:∀i,i<dn.length->ug (dn.getD i b0)=ug (dn.getD i b0):=fun _ _=>rfl;unfold mX at he;simp only at he;split at he
 ·by_cases hg:OKg dn n
  ·rw [dL hg] at he;simp only [cond_true,Option.some.injEq] at he;subst he;have hg1:=hg.1;have hg2:=hg.2.1;refine ⟨by show dn.length<=(dn.set _ _).length;rw [List.length_set];exact Nat.le_refl _,fun i hi => ?_,fun x hx _ => ?_,Int.le_refl _⟩
   ·show ug ((dn.set (n-1).toNat (SB (dn.getD (n-1).toNat b0))).getD i b0)=ug (dn.getD i b0);rw [P8 hi];split
    ·rename_i e;rw [e];rfl
    ·rfl
   ·rcases List.mem_append.1 hx with hx | hx
    ·exact ⟨x,List.mem_append.2 (.inl hx),SC.rfl x⟩
    ·have hp:(n-1).toNat<dn.length:=by omega
     rcases Nv (v:=SB (dn.getD (n-1).toNat b0)) hp hx with h | h
     ·exact ⟨x,List.mem_append.2 (.inr h),SC.rfl x⟩
     ·exact ⟨SB (dn.getD (n-1).toNat b0),List.mem_append.2 (.inr (Nw hp)),by rw [h];exact ⟨rfl,rfl,rfl,Int.le_refl _⟩⟩
  ·rw [jP hg] at he;cases he
 ·split at he
  ·by_cases hg:OKb op c f o
   ·rw [dL hg] at he;simp only [cond_true,Option.some.injEq] at he;subst he;refine ⟨Nat.le_refl _,hsame,fun x hx _=>⟨x,?_,SC.rfl x⟩,hm⟩;rcases List.mem_append.1 hx with hx | hx
    ·exact List.mem_append.2 (.inl (afz hx))
    ·exact List.mem_append.2 (.inr hx)
   ·rw [jP hg] at he;cases he
  ·split at he
   ·by_cases hg:OKe op la t n se co c
    ·rw [dL hg] at he;simp only [cond_true,Option.some.injEq] at he;subst he;have hlt:gZ c op<op.length:=by have:=hg.1.1;omega
     obtain ⟨hF,hE,hC⟩:=hg;by_cases hz:n=0
     ·simp only [if_pos hz];have ha:(op.getD (gZ c op) b0).2.2.2.2.1 = -1:=by
       rcases hC with q | q
       ·exact q.2.2.2
       ·exact absurd hz q.1
      refine ⟨Nat.le_refl _,hsame,fun x hx h0=>⟨x,?_,SC.rfl x⟩,hm⟩;rcases List.mem_append.1 hx with hx | hx
      ·rcases ZQ hlt hx with h | h
       ·exact List.mem_append.2 (.inl h)
       ·rw [h,ha] at h0;omega
      ·exact List.mem_append.2 (.inr hx)
     ·simp only [if_neg hz];refine ⟨by show dn.length<=(dn++[_]).length;rw [List.length_append];omega,fun i hi => ?_,fun x hx h0 => ?_,hm⟩
      ·show ug ((dn++[_]).getD i b0)=ug (dn.getD i b0);rw [jV hi]
      ·rcases List.mem_append.1 hx with hx | hx
       ·rcases ZQ hlt hx with h | h
        ·exact ⟨x,List.mem_append.2 (.inl h),SC.rfl x⟩
        ·refine ⟨rcd (op.getD (gZ c op) b0) t n se co,List.mem_append.2 (.inr (List.mem_append.2 (.inr (List.mem_singleton.2 rfl)))),?_⟩;rw [h];exact ⟨rfl,rfl,rfl,hE⟩
       ·exact ⟨x,List.mem_append.2 (.inr (List.mem_append.2 (.inl hx))),SC.rfl x⟩
    ·rw [jP hg] at he;cases he
   ·by_cases hg:OKt op k t c
    ·rw [dL hg] at he;simp only [cond_true,Option.some.injEq] at he;subst he;have hlt:gZ c op<op.length:=by have:=hg.1.1;omega
     obtain ⟨hF,hE,hC⟩:=hg;refine ⟨Nat.le_refl _,hsame,fun x hx h0 => ?_,hm⟩;rcases List.mem_append.1 hx with hx | hx
     ·rcases Nv (v:=tch k t (op.getD (gZ c op) b0)) hlt hx with h | h
      ·exact ⟨x,List.mem_append.2 (.inl h),SC.rfl x⟩
      ·refine ⟨tch k t (op.getD (gZ c op) b0),List.mem_append.2 (.inl (Nw hlt)),?_⟩;rw [h] at h0 ⊢;refine ⟨rfl,rfl,?_,hE⟩;show (if k=2 then t else (op.getD (gZ c op) b0).2.2.2.2.1)=_;rw [if_neg];intro k2;have:=hC k2;omega
     ·exact ⟨x,List.mem_append.2 (.inr hx),SC.rfl x⟩
    ·rw [jP hg] at he;cases he
theorem Dv:∀(A B:List (Int×List Int)) (s:ST),run (A++B) s=match run A s with | none=>none | some t=>run B t
 | [],B,s=>rfl
 | x::A,B,s=>by
   rw [List.cons_append,run_bind,run_bind x A];cases run [x] s with
   | none=>rfl
   | some t=>exact Dv A B t
theorem aiS {x:Int×List Int} {s s':ST} (h:run [x] s=some s'):∃a,G5 x.1 x.2=some a/\mX a s=some s':=by
 rw [vJ] at h;cases hp:G5 x.1 x.2 with
 | none=>rw [hp] at h;cases h
 | some a =>
   rw [hp] at h;simp only at h;cases he:mX a s with
   | none=>rw [he] at h;cases h
   | some t =>
     rw [he] at h;cases h;exact ⟨a,rfl,he⟩
theorem aiT {x:Int×List Int} {s s':ST} {a:AC} (h:G5 x.1 x.2=some a) (he:mX a s=some s'):run [x] s=some s':=by
 rw [vJ,h];simp only [he];rfl
theorem Ny {k:Int} {d:List Int} {a:AC} (h:G5 k d=some a):a.1=k:=by
 unfold G5 XB at h;split at h
 ·rename_i hk;split at h
  ·cases h;exact hk.symm
  ·cases h
 ·split at h
  ·cases h
  ·split at h
   ·rename_i hk;unfold aiE at h;split at h
    ·cases h;exact hk.symm
    ·cases h
   ·split at h
    ·unfold aiF at h;split at h
     ·cases h;rfl
     ·cases h
    ·split at h
     ·rename_i hk;unfold aiG at h;split at h
      ·cases h;exact hk.symm
      ·cases h
     ·cases h
def uj (R:List (Int×List Int)):Nat:=(R.filter fun x=>decide (x.1=1)).length
def NM:List Tx:=[[99],[97],[108],[115]]
def NmR (R:List (Int×List Int)):Prop:=∀x∈R,∀a,G5 x.1 x.2=some a->a.1=1->a.2.2.2.2.2.1∈NM
def GvR (R:List (Int×List Int)) (n:Int):Prop:=∃x∈R,∃a,G5 x.1 x.2=some a/\a.1=5/\a.2.2.1=n
def bgA (a:AC):Nat:=if a.1=1 then 1 else 0
theorem xU (A B:List (Int×List Int)):uj (A++B)=uj A+uj B:=by unfold uj;rw [List.filter_append,List.length_append]
theorem afA {x:Int×List Int} {a:AC} (h:G5 x.1 x.2=some a):uj [x]=bgA a:=by
 have:=Ny h;unfold uj bgA;rw [this];by_cases e:x.1=1
 ·simp [e]
 ·simp [e]
theorem ZR (A:List (Int×List Int)):uj A<=A.length:=List.length_filter_le ..
structure RI (R:List (Int×List Int)) (s:ST):Prop where
 inv:INV s
 len:s.2.1.length<=R.length
 cnt:s.1.length+s.2.1.length<=uj R
 nm:NmR R->∀b∈s.1,b.1∈NM
 gv:∀i,i<s.2.1.length->(s.2.1.getD i b0).2.2.2.2.2.2.2.2.2=true->GvR R ((i:Int)+1)
theorem ri0:RI [] s0:=⟨inv0,Nat.le_refl _,Nat.le_refl _,fun _ b (hb:b∈([]:List BL))=>(by cases hb),fun i (hi:i<0)=>absurd hi (Nat.not_lt_zero i)⟩
theorem GvR.app {R:List (Int×List Int)} {n:Int} (h:GvR R n) (x:Int×List Int):GvR (R++[x]) n:=by
 obtain ⟨y,hy,h⟩:=h;exact ⟨y,List.mem_append.2 (.inl hy),h⟩
theorem afB {n:Int} {b:BL} (h:BK n b) (h0:b.2.2.2.2.2.2.1=0):b.2.2.2.2.2.2.2.2.2=false:=by
 rcases h.2.2.2.2 with q | q
 ·exact q.2.2.2
 ·exact absurd h0 q.1
theorem aiU {R:List (Int×List Int)} {s s':ST} {x:Int×List Int} {a:AC} (h:RI R s) (hl:R.length<=900000) (hb:Bytes x.2) (hp:G5 x.1 x.2=some a) (he:mX a s=some s'):RI (R++[x]) s':=by
 have hlen:=h.len;have hcnt:=h.cnt;have hinv:=ZO (afx hb hp) h.inv (by omega) he;refine ⟨hinv.1,by rw [List.length_append];show s'.2.1.length<=R.length+1;have:=hinv.2;omega,?_,fun hn b hbm => ?_,fun i hi hgv => ?_⟩
 ·rw [xU,afA hp];have haz:=h.inv.az;have hop:=haz.opn;obtain ⟨op,dn,la,no⟩:=s;obtain ⟨k,t,n,se,co,c,f,o⟩:=a;simp only at hlen hcnt haz hop;unfold mX at he;simp only at he;unfold bgA;show s'.1.length+s'.2.1.length<=uj R+(if k=1 then 1 else 0)
  split at he
  ·by_cases hg:OKg dn n
   ·rw [dL hg] at he;simp only [cond_true,Option.some.injEq] at he;subst he;simp only [List.length_set];omega
   ·rw [jP hg] at he;cases he
  ·split at he
   ·rename_i hk;by_cases hg:OKb op c f o
    ·rw [dL hg] at he;simp only [cond_true,Option.some.injEq] at he;subst he;rw [if_pos hk];have:=Vh op (c,(f,(o,(t,(-1,(t,(0,(0,(0,false)))))))));simp only;omega
    ·rw [jP hg] at he;cases he
   ·split at he
    ·by_cases hg:OKe op la t n se co c
     ·rw [dL hg] at he;simp only [cond_true,Option.some.injEq] at he;subst he;have hlt:gZ c op<op.length:=by have:=hg.1.1;omega
      have hrl:=RH hlt;simp only;split
      ·omega
      ·rw [List.length_append];show (iH op (gZ c op)).length+(dn.length+1)<=_;omega
     ·rw [jP hg] at he;cases he
    ·by_cases hg:OKt op k t c
     ·rw [dL hg] at he;simp only [cond_true,Option.some.injEq] at he;subst he;simp only [List.length_set];omega
     ·rw [jP hg] at he;cases he
 ·have hn0:NmR R:=fun y hy=>hn y (List.mem_append.2 (.inl hy));have hx:=hn x (List.mem_append.2 (.inr (List.mem_singleton.2 rfl))) a hp;have hs:=h.nm hn0;have haz:=h.inv.az;have hop:=haz.opn;obtain ⟨op,dn,la,no⟩:=s;obtain ⟨k,t,n,se,co,c,f,o⟩:=a;simp only at hs hx haz hop;unfold mX at he;simp only at he;split at he
  ·by_cases hg:OKg dn n
   ·rw [dL hg] at he;simp only [cond_true,Option.some.injEq] at he;subst he;exact hs b hbm
   ·rw [jP hg] at he;cases he
  ·split at he
   ·rename_i hk;by_cases hg:OKb op c f o
    ·rw [dL hg] at he;simp only [cond_true,Option.some.injEq] at he;subst he;rcases ZN hbm with rfl | hbm
     ·exact hx hk
     ·exact hs b hbm
    ·rw [jP hg] at he;cases he
   ·split at he
    ·by_cases hg:OKe op la t n se co c
     ·rw [dL hg] at he;simp only [cond_true,Option.some.injEq] at he;subst he;refine hs b ?_;replace hbm:b∈iH op (gZ c op):=hbm;unfold iH at hbm;rcases List.mem_append.1 hbm with hb | hb
      ·exact List.mem_of_mem_take hb
      ·exact List.mem_of_mem_drop hb
     ·rw [jP hg] at he;cases he
    ·by_cases hg:OKt op k t c
     ·rw [dL hg] at he;simp only [cond_true,Option.some.injEq] at he;subst he;have hlt:gZ c op<op.length:=by have:=hg.1.1;omega
      rcases List.mem_or_eq_of_mem_set hbm with hb | rfl
      ·exact hs b hb
      ·show (op.getD (gZ c op) b0).1∈NM;exact hs (op.getD (gZ c op) b0) (iG hlt)
     ·rw [jP hg] at he;cases he
 ·have hs:=h.gv;have hi0:=h.inv.1;have haz:=h.inv.az;have hop:=haz.opn;obtain ⟨op,dn,la,no⟩:=s;obtain ⟨k,t,n,se,co,c,f,o⟩:=a;simp only at hs hi0 haz hop;unfold mX at he;simp only at he;split at he
  ·rename_i hk;by_cases hg:OKg dn n
   ·rw [dL hg] at he;simp only [cond_true,Option.some.injEq] at he;subst he;replace hi:i<(dn.set (n-1).toNat (SB (dn.getD (n-1).toNat b0))).length:=hi;rw [List.length_set] at hi;replace hgv:((dn.set (n-1).toNat (SB (dn.getD (n-1).toNat b0))).getD i b0).2.2.2.2.2.2.2.2.2=true:=hgv;rw [P8 hi] at hgv;split at hgv
    ·rename_i e;refine ⟨x,List.mem_append.2 (.inr (List.mem_singleton.2 rfl)),_,hp,hk,?_⟩;have:=hg.1;show n=(i:Int)+1;omega
    ·exact (hs i hi hgv).app x
   ·rw [jP hg] at he;cases he
  ·split at he
   ·by_cases hg:OKb op c f o
    ·rw [dL hg] at he;simp only [cond_true,Option.some.injEq] at he;subst he;exact (hs i hi hgv).app x
    ·rw [jP hg] at he;cases he
   ·split at he
    ·by_cases hg:OKe op la t n se co c
     ·rw [dL hg] at he;simp only [cond_true,Option.some.injEq] at he;subst he;have hlt:gZ c op<op.length:=by have:=hg.1.1;omega
      have hxx:=hi0 _ (iG hlt);by_cases hz:n=0
      ·simp only [if_pos hz] at hi hgv;exact (hs i hi hgv).app x
      ·simp only [if_neg hz] at hi hgv;rw [List.length_append] at hi;replace hi:i<dn.length+1:=hi;by_cases e:i<dn.length
       ·rw [jV e] at hgv;exact (hs i e hgv).app x
       ·obtain rfl:i=dn.length:=by omega
        rw [List.getD_eq_getElem?_getD,List.getElem?_append_right (Nat.le_refl _),Nat.sub_self] at hgv;replace hgv:(op.getD (gZ c op) b0).2.2.2.2.2.2.2.2.2=true:=hgv;rw [afB hxx.1 hxx.2] at hgv;cases hgv
     ·rw [jP hg] at he;cases he
    ·by_cases hg:OKt op k t c
     ·rw [dL hg] at he;simp only [cond_true,Option.some.injEq] at he;subst he;exact (hs i hi hgv).app x
     ·rw [jP hg] at he;cases he
theorem RY:∀(B A:List (Int×List Int)) (s s':ST),RI A s->RBy B->A.length+B.length<=900000->run B s=some s'->RI (A++B) s'/\Lat s s'
 | [],A,s,s',h,_,_,hr=>by
   cases hr;rw [List.append_nil];exact ⟨h,Lat.refl _⟩
 | x::B,A,s,s',h,hb,hl,hr=>by
   rw [run_bind] at hr;rw [List.length_cons] at hl;cases h1:run [x] s with
   | none=>rw [h1] at hr;cases hr
   | some t =>
     rw [h1] at hr;obtain ⟨a,hp,he⟩:=aiS h1;have hs:=aiU h (by omega) (hb x (by simp)) hp he;have:=RY B (A++[x]) t s' hs (fun y hy=>hb y (by simp [hy])) (by rw [List.length_append];show A.length+1+B.length<=900000;omega) hr;rw [List.append_assoc] at this;exact ⟨this.1,(aiR h.inv he).trans this.2⟩
theorem Nz {R:List (Int×List Int)} {s:ST} (hb:RBy R) (hl:R.length<=900000) (h:run R s0=some s) {k:Nat} (hk:k<=R.length):∃t,run (R.take k) s0=some t/\RI (R.take k) t/\Lat t s:=by
 have h':=h;rw [<-List.take_append_drop k R,Dv] at h';cases h1:run (R.take k) s0 with
 | none=>rw [h1] at h';cases h'
 | some t =>
   rw [h1] at h';have r1:=RY (R.take k) [] s0 t ri0 (fun x hx=>hb x (List.mem_of_mem_take hx)) (by rw [List.length_take];show 0+_<=_;omega) h1;rw [List.nil_append] at r1;exact ⟨t,rfl,r1.1,(RY (R.drop k) (R.take k) t s r1.1 (fun x hx=>hb x (List.mem_of_mem_drop hx)) (by rw [List.length_take,List.length_drop];omega) h').2⟩
open Jn (be bP oO nR)
theorem RZ:∀(l:List Int) (a:Int),l.foldl (fun a x=>a*256+x) a=a*256 ^ l.length+val l
 | [],a=>by simp [val]
 | x::l,a=>by
   unfold val;rw [List.foldl_cons,List.foldl_cons,RZ l,RZ l (0*256+x),List.length_cons,Int.pow_succ,Int.add_mul,Int.zero_mul,Int.zero_add,Int.mul_assoc,Int.mul_comm 256,Int.add_assoc]
theorem afC (x:Int) (l:List Int):val (x::l)=x*256 ^ l.length+val l:=by
 show List.foldl _ (0*256+x) l=_;rw [RZ,Int.zero_mul,Int.zero_add]
theorem XD (n:Int):∀k:Nat,val (be k n)=n % 256 ^ k
 | 0=>by show (0:Int)=n % 1;omega
 | k+1=>by
   rw [oO,afC,bP,XD n k];have hp:(0:Int)<256 ^ k:=Int.pow_pos (by decide);have h1:=Int.mul_ediv_add_emod n (256 ^ k);have h2:=Int.mul_ediv_add_emod n (256 ^ (k+1));have h3:n / 256 ^ (k+1)=n / 256 ^ k / 256:=by rw [Int.pow_succ,Int.ediv_ediv_of_nonneg (Int.le_of_lt hp)]
   have h4:=Int.mul_ediv_add_emod (n / 256 ^ k) 256;rw [h3] at h2;rw [Int.pow_succ] at h2 ⊢;generalize n / 256 ^ k=q at *
   generalize n % 256 ^ k=r at *
   generalize (256:Int) ^ k=p at *
   generalize n % (p*256)=z at *
   generalize q / 256=u at *
   generalize q % 256=v at *
   subst h1;have:v=q-256*u:=by omega
   subst this;have e1:(q-256*u)*p=p*q-p*256*u:=by rw [Int.sub_mul,Int.mul_comm q p,Int.mul_assoc p,Int.mul_comm p (256*u)]
   rw [e1];generalize p*256*u=a at *
   generalize p*q=b at *
   omega
theorem XE {n:Nat} {l r:List Int} (h:l.length=n):Nq n (l++r) false=(l,(r,false)):=by
 unfold Nq;rw [if_neg (by rintro (k | k);exact absurd k (by simp);rw [List.length_append] at k;omega)];rw [List.take_append_of_le_length (by omega),List.take_of_length_le (by omega),List.drop_append_of_le_length (by omega),List.drop_of_length_le (by omega),List.nil_append]
theorem ND {n:Int} (h:0<=n/\n<9223372036854775808) (r:List Int):rN (be 8 n++r,false)=(n,(r,false)):=by
 unfold rN rdN;simp only;rw [XE (bP 8 n)];simp only [XD];rw [show (256:Int) ^ 8=18446744073709551616 from by decide,Int.emod_eq_of_lt h.1 (by omega)]
theorem ajU:∀t:Tx,ni (txB t)=t
 | []=>rfl
 | x::t=>by
   show UInt8.ofNat ((x.toNat:Nat):Int).toNat::ni (txB t)=x::t;rw [ajU t,Int.toNat_natCast];congr 1;exact UInt8.ofNat_toNat
theorem Vj {t:Tx} (h:t.length<=1000) (r:List Int):rT (tB t++r,false)=(t,(r,false)):=by
 unfold rT rdT;simp only;unfold tB;rw [List.append_assoc,XE (bP 2 _)];simp only [XD];rw [show (256:Int) ^ 2=65536 from by decide,Int.emod_eq_of_lt (by omega) (by omega),Int.toNat_natCast];rw [XE (show (txB t).length=t.length by rw [txB,List.length_map])];simp only [ajU]
theorem qZ (n:Int) (ns:List Int) (ts:List Tx):lX (n::ns) ts=be 8 n++lX ns ts:=by unfold lX;rw [List.flatMap_cons,List.append_assoc]
theorem xW (t:Tx) (ts:List Tx):lX [] (t::ts)=tB t++lX [] ts:=by unfold lX;rw [List.flatMap_cons];rfl
theorem Fp:lX [] []=[]:=rfl
abbrev TmQ (t:Int):Prop:=0<=t/\t<=1099511627776
theorem apF {n:Int} (h:0<=n/\n<9223372036854775808):G5 5 (lX [n] [])=some (5,(0,(n,(0,(0,([],([],[]))))))):=by
 unfold G5;rw [qZ,Fp,ND h];rfl
theorem apG {t:Int} {c f o:Tx} (ht:TmQ t) (hc:c.length<=1000) (hf:f.length<=1000) (ho:o.length<=1000):G5 1 (lX [t] [c,f,o])=some (1,(t,(0,(0,(0,(c,(f,o))))))):=by
 unfold G5;rw [qZ,ND (by omega),xW,xW,xW,Fp];unfold XB;rw [if_neg (by decide),if_neg (by rintro (k | k);exact absurd k (by simp);exact absurd k (by show ¬t > _;omega)),if_pos rfl];simp only [Vj hc,Vj hf,Vj ho];rfl
theorem afD {k t:Int} {c:Tx} (hk:k=2\/k=3) (ht:TmQ t) (hc:c.length<=1000):G5 k (lX [t] [c])=some (k,(t,(0,(0,(0,(c,([],[]))))))):=by
 unfold G5;rw [qZ,ND (by omega),xW,Fp];unfold XB;rw [if_neg (by omega),if_neg (by rintro (k | k);exact absurd k (by simp);exact absurd k (by show ¬t > _;omega)),if_neg (by omega),if_pos hk];simp only [Vj hc];rfl
theorem ajV {t n s co:Int} {c:Tx} (ht:TmQ t) (hn:0<=n/\n<9223372036854775808) (hs:0<=s/\s<9223372036854775808) (hco:0<=co/\co<9223372036854775808) (hc:c.length<=1000):G5 4 (lX [t,n,s,co] [c])=some (4,(t,(n,(s,(co,(c,([],[]))))))):=by
 unfold G5;rw [qZ,ND (by omega),qZ,qZ,qZ,xW,Fp];unfold XB;rw [if_neg (by decide),if_neg (by rintro (k | k);exact absurd k (by simp);exact absurd k (by show ¬t > _;omega)),if_neg (by decide),if_neg (by decide),if_pos rfl];simp only [ND hn,ND hs,ND hco,Vj hc];rfl
end Go.Proofs.Ytkpijdndakljjaa
end
