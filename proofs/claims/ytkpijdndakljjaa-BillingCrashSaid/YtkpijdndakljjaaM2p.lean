import Derived.Test.YtkpijdndakljjaaJ15p
import Derived.Test.YtkpijdndakljjaaJ10p
import Derived.Test.YtkpijdndakljjaaZrp
import Derived.Test.YtkpijdndakljjaaFp
import Derived.Test.YtkpijdndakljjaaXBp
import Derived.Test.YtkpijdndakljjaaQ1p
set_option linter.unusedSimpArgs false
set_option linter.unusedVariables false
set_option maxRecDepth 100000
set_option maxHeartbeats 4000000
namespace Go.Proofs.Ytkpijdndakljjaa
open Go.RowKit
def OKt (op:List BL) (k t:Int) (c:Tx):Prop:=Di c op/\(op.getD (gZ c op) b0).2.2.2.2.2.1<=t/\(k=2->(op.getD (gZ c op) b0).2.2.2.2.1 = -1)
theorem aoR (op dn:List BL) (la no k t:Int) (c:Tx) (h:Opn op) :
 (OKt op k t c/\Bl (k,(t,(c,(op,(dn,(la,no))))))=some (true,op.set (gZ c op) (tch k t (op.getD (gZ c op) b0)))) \/
 (¬OKt op k t c/\Bl (k,(t,(c,(op,(dn,(la,no))))))=some (false,op)):=by
 have hp:=wJ c op;have ha:=h.1;unfold Bl;simp only [↓aF,aG,decide_true,↓ae4 c h];by_cases h1:Di c op
 ·rw [dM h1];have hlt:gZ c op<op.length:=by have:=h1.1;omega
  obtain ⟨x,hx,hxb⟩:=get_at b0 hlt;unfold OKt;rw [hx];by_cases h2:x.2.2.2.2.2.1<=t
  ·by_cases h3:k=2
   ·by_cases h4:x.2.2.2.2.1 = -1
    ·refine .inl ⟨⟨h1,h2,fun _=>h4⟩,?_⟩;simp (disch:=(first | omega | (simp only [bM];omega))) only [↓aF,aG,if_pos,if_neg,↓hxb,h3,h4,ne_eq,not_true_eq_false,decide_true,decide_false,Int.toNat_natCast];rw [List.getElem?_eq_getElem (by rw [List.length_set];exact hlt),List.getElem_set_self];simp only [↓aF,aG,List.set_set];rfl
    ·refine .inr ⟨fun q=>h4 (q.2.2 h3),?_⟩;simp (disch:=(first | omega | (simp only [bM];omega))) only [↓aF,aG,if_pos,if_neg,↓hxb,h3,h4,ne_eq,not_false_iff,decide_true,decide_false,Int.toNat_natCast]
   ·refine .inl ⟨⟨h1,h2,fun q=>absurd q h3⟩,?_⟩;simp (disch:=(first | omega | (simp only [bM];omega))) only [↓aF,aG,if_pos,if_neg,↓hxb,h3,decide_true,decide_false,Int.toNat_natCast];rw [show tch k t x=_ from by unfold tch;rw [if_neg h3]]
  ·refine .inr ⟨fun q=>h2 q.2.1,?_⟩;simp (disch:=(first | omega | (simp only [bM];omega))) only [↓aF,aG,if_pos,if_neg,↓hxb,decide_true,decide_false]
 ·refine .inr ⟨fun q=>h1 q.1,?_⟩;rw [jL h1];simp only [↓aF,aG,decide_true,Bool.and_true]
theorem ah5 {n:Int} (h:9223372036854775808<=n/\n<18446744073709551616):IntKind.wrap .i64 n<0:=by
 have e:IntKind.wrap .i64 n=n-18446744073709551616:=by
  show (if (true&&decide (n % 18446744073709551616>=9223372036854775808))=true then n % 18446744073709551616-18446744073709551616 else n % 18446744073709551616)=_;rw [Int.emod_eq_of_lt (by omega) h.2,if_pos (by simp;omega)]
 omega
def OKe (op:List BL) (la t n s co:Int) (c:Tx):Prop:=Di c op/\(op.getD (gZ c op) b0).2.2.2.2.2.1<=t /\
 ((n=0/\s=0/\co=0/\(op.getD (gZ c op) b0).2.2.2.2.1 = -1)\/(n≠0/\(op.getD (gZ c op) b0).2.2.2.2.1 ≠ -1/\n=la+1/\n<=1048576/\s=Rt.SE (op.getD (gZ c op) b0).2.2.2.2.1 t/\co<9223372036854775808))
theorem aoS (op dn:List BL) (la no t n s co:Int) (c:Tx) (h:Opn op) (hd:dn.length<=1000000) (hla:0<=la/\la<=1048576) (hco:0<=co/\co<18446744073709551616) :
 (OKe op la t n s co c/\PG (t,(n,(s,(co,(c,(op,(dn,(la,no))))))))=some (true,(iE op (gZ c op),(if n=0 then dn else dn++[U1 (op.getD (gZ c op) b0) t n s co],(if n=0 then la else n,no))))) \/
 (¬OKe op la t n s co c/\PG (t,(n,(s,(co,(c,(op,(dn,(la,no))))))))=some (false,(op,(dn,(la,no))))):=by
 have hp:=wJ c op;have ha:=h.1;have hl:=h.2.2;have hw:∀x:Int,0<=x->x<18446744073709551616->IntKind.wrap .u64 x=x:=fun x a b=>by rw [Df];omega
 unfold PG;simp only [↓aF,aG,decide_true,Bool.and_true,↓ae4 c h];by_cases h1:Di c op
 ·rw [dM h1];have hlt:gZ c op<op.length:=by have:=h1.1;omega
  obtain ⟨x,hx,hxb⟩:=get_at b0 hlt;have hj:IntKind.wrap .i64 (((gZ c op:Nat):Int)+1)=((gZ c op:Nat):Int)+1:=aj (by omega);have hla1:IntKind.wrap .i64 (la+1)=la+1:=aj (by omega);unfold OKe;rw [hx];by_cases h2:x.2.2.2.2.2.1<=t
  ·by_cases h3:n=0
   ·by_cases h4:s=0
    ·by_cases h5:co=0
     ·by_cases h6:x.2.2.2.2.1 = -1
      ·refine .inl ⟨⟨h1,h2,.inl ⟨h3,h4,h5,h6⟩⟩,?_⟩;simp (disch:=(first | omega | (simp only [bM];omega))) only [↓aF,aG,if_pos,if_neg,↓hxb,h3,h4,h5,h6,ne_eq,not_true_eq_false,decide_true,decide_false,↓aeZ hl hlt hj];rfl
      ·refine .inr ⟨fun q=>by rcases q.2.2 with q | q;exact h6 q.2.2.2;exact q.1 h3,?_⟩;simp (disch:=(first | omega | (simp only [bM];omega))) only [↓aF,aG,if_pos,if_neg,↓hxb,h3,h4,h5,h6,ne_eq,not_true_eq_false,not_false_iff,decide_true,decide_false,Bool.and_true]
     ·refine .inr ⟨fun q=>by rcases q.2.2 with q | q;exact h5 q.2.2.1;exact q.1 h3,?_⟩;simp (disch:=(first | omega | (simp only [bM];omega))) only [↓aF,aG,if_pos,if_neg,↓hxb,h3,h4,h5,ne_eq,not_true_eq_false,not_false_iff,decide_true,decide_false,Bool.and_true]
    ·refine .inr ⟨fun q=>by rcases q.2.2 with q | q;exact h4 q.2.1;exact q.1 h3,?_⟩;simp (disch:=(first | omega | (simp only [bM];omega))) only [↓aF,aG,if_pos,if_neg,↓hxb,h3,h4,ne_eq,not_true_eq_false,not_false_iff,decide_true,decide_false,Bool.and_true]
   ·have hse:=Rt.LY x.2.2.2.2.1 t;by_cases h4:x.2.2.2.2.1 = -1
    ·refine .inr ⟨fun q=>by rcases q.2.2 with q | q;exact h3 q.1;exact q.2.1 h4,?_⟩;simp (disch:=(first | omega | (simp only [bM];omega))) only [↓aF,aG,if_pos,if_neg,↓hxb,h3,h4,decide_true,decide_false,Bool.and_true]
    ·by_cases h5:n=la+1
     ·by_cases h6:n<=1048576
      ·by_cases h7:s=Rt.SE x.2.2.2.2.1 t
       ·by_cases h8:co<9223372036854775808
        ·refine .inl ⟨⟨h1,h2,.inr ⟨h3,h4,h5,h6,h7,h8⟩⟩,?_⟩;have hc:IntKind.wrap .i64 co=co:=aj (by omega);have hz:¬la+1=0:=by omega
         simp (disch:=(first | omega | (simp only [bM];omega))) only [↓aF,aG,if_pos,if_neg,↓hxb,h3,h4,h5,h7,hz,hla1,hw (la+1) (by omega) (by omega),hw (Rt.SE x.2.2.2.2.1 t) (by omega) (by omega),↓BN,hc,ne_eq,not_true_eq_false,decide_true,decide_false,↓aeZ hl hlt hj];rfl
        ·refine .inr ⟨fun q=>by rcases q.2.2 with q | q;exact h3 q.1;exact h8 q.2.2.2.2.2,?_⟩;have hc:IntKind.wrap .i64 co<0:=ah5 ⟨by omega,by omega⟩;have hz:¬la+1=0:=by omega
         simp (disch:=(first | omega | (simp only [bM];omega))) only [↓aF,aG,if_pos,if_neg,↓hxb,h3,h4,h5,h7,hz,hla1,hw (la+1) (by omega) (by omega),hw (Rt.SE x.2.2.2.2.1 t) (by omega) (by omega),↓BN,hc,ne_eq,not_true_eq_false,decide_true,decide_false,Bool.and_true]
       ·refine .inr ⟨fun q=>by rcases q.2.2 with q | q;exact h3 q.1;exact h7 q.2.2.2.2.1,?_⟩;have hz:¬la+1=0:=by omega
        simp (disch:=(first | omega | (simp only [bM];omega))) only [↓aF,aG,if_pos,if_neg,↓hxb,h3,h4,h5,h7,hz,hla1,hw (la+1) (by omega) (by omega),hw (Rt.SE x.2.2.2.2.1 t) (by omega) (by omega),↓BN,ne_eq,not_true_eq_false,not_false_iff,decide_true,decide_false,Bool.and_true]
      ·refine .inr ⟨fun q=>by rcases q.2.2 with q | q;exact h3 q.1;exact h6 q.2.2.2.1,?_⟩;have hz:¬la+1=0:=by omega
       simp (disch:=(first | omega | (simp only [bM];omega))) only [↓aF,aG,if_pos,if_neg,↓hxb,h3,h4,h5,hz,hla1,hw (la+1) (by omega) (by omega),ne_eq,not_true_eq_false,decide_true,decide_false,Bool.and_true]
     ·refine .inr ⟨fun q=>by rcases q.2.2 with q | q;exact h3 q.1;exact h5 q.2.2.1,?_⟩;simp (disch:=(first | omega | (simp only [bM];omega))) only [↓aF,aG,if_pos,if_neg,↓hxb,h3,h4,h5,hla1,hw (la+1) (by omega) (by omega),ne_eq,not_true_eq_false,not_false_iff,decide_true,decide_false,Bool.and_true]
  ·refine .inr ⟨fun q=>h2 q.2.1,?_⟩;simp (disch:=(first | omega | (simp only [bM];omega))) only [↓aF,aG,if_pos,if_neg,↓hxb,decide_true,decide_false,Bool.and_true]
 ·refine .inr ⟨fun q=>h1 q.1,?_⟩;rw [jL h1];simp only [↓aF,aG,decide_true,Bool.and_true]
abbrev Cu:=List Int×Bool
def rN (r:Cu):Int×Cu:=rdN r.1 r.2
def rT (r:Cu):Tx×Cu:=rdT r.1 r.2
def RD (r:Cu):Prop:=r.2=false/\r.1=[]
instance (r:Cu):Decidable (RD r):=inferInstanceAs (Decidable (r.2=false/\r.1=[]))
def ah7 (t:Int) (c:Tx×Cu) (f:Tx×Cu) (o:Tx×Cu):Option AC:=if RD o.2 then some (1,(t,(0,(0,(0,(c.1,(f.1,o.1))))))) else none
def ah8 (k t:Int) (c:Tx×Cu):Option AC:=if RD c.2 then some (k,(t,(0,(0,(0,(c.1,([],[]))))))) else none
def ah9 (t:Int) (n s o:Int×Cu) (c:Tx×Cu):Option AC:=if RD c.2 then some (4,(t,(n.1,(s.1,(o.1,(c.1,([],[]))))))) else none
def Xo (k:Int) (a:Int×Cu):Option AC :=
 if k=5 then (if RD a.2 then some (5,(0,(a.1,(0,(0,([],([],[]))))))) else none)
 else if a.2.2=true\/a.1 > 1099511627776 then none
 else if k=1 then ah7 a.1 (rT a.2) (rT (rT a.2).2) (rT (rT (rT a.2).2).2)
 else if k=2\/k=3 then ah8 k a.1 (rT a.2)
 else if k=4 then ah9 a.1 (rN a.2) (rN (rN a.2).2) (rN (rN (rN a.2).2).2) (rT (rN (rN (rN a.2).2).2).2)
 else none
def GH (k:Int) (d:List Int):Option AC:=Xo k (rN (d,false))
noncomputable def mP (a:AC) (s:ST):Option ST :=
 if a.1=5 then bif tf (OKg s.2.1 a.2.2.1) then some (s.1,(s.2.1.set (a.2.2.1-1).toNat (U6 (s.2.1.getD (a.2.2.1-1).toNat b0)),s.2.2)) else none
 else if a.1=1 then bif tf (OKb s.1 a.2.2.2.2.2.1 a.2.2.2.2.2.2.1 a.2.2.2.2.2.2.2) then some (Ai s.1 (a.2.2.2.2.2.1,(a.2.2.2.2.2.2.1,(a.2.2.2.2.2.2.2,(a.2.1,(-1,(a.2.1,(0,(0,(0,false))))))))),(s.2.1,(s.2.2.1,dK s.2.2.2 a.2.1))) else none
 else if a.1=4 then bif tf (OKe s.1 s.2.2.1 a.2.1 a.2.2.1 a.2.2.2.1 a.2.2.2.2.1 a.2.2.2.2.2.1) then some (iE s.1 (gZ a.2.2.2.2.2.1 s.1),(if a.2.2.1=0 then s.2.1 else s.2.1++[U1 (s.1.getD (gZ a.2.2.2.2.2.1 s.1) b0) a.2.1 a.2.2.1 a.2.2.2.1 a.2.2.2.2.1],(if a.2.2.1=0 then s.2.2.1 else a.2.2.1,dK s.2.2.2 a.2.1))) else none
 else bif tf (OKt s.1 a.1 a.2.1 a.2.2.2.2.2.1) then some (s.1.set (gZ a.2.2.2.2.2.1 s.1) (tch a.1 a.2.1 (s.1.getD (gZ a.2.2.2.2.2.1 s.1) b0)),(s.2.1,(s.2.2.1,dK s.2.2.2 a.2.1))) else none
def Apl (o:Option AC) (s:ST) (r:Option (Bool×ST)):Prop :=
 (∃a s',o=some a/\mP a s=some s'/\r=some (true,s'))\/((o=none\/∃a,o=some a/\mP a s=none)/\∃s',r=some (false,s'))
theorem Apl.bad {o:Option AC} {s:ST} (h:o=none) (s':ST):Apl o s (some (false,s')) := .inr ⟨.inl h,s',rfl⟩
theorem aoT (k:Int) (d:List Int) (op dn:List BL) (la no:Int) (h:Opn op) (hd:dn.length<=1000000) (hla:0<=la/\la<=1048576) (hb:Bytes d) :
 Apl (GH k d) (op,(dn,(la,no))) (Bo ((k,d),(op,(dn,(la,no))))):=by
 unfold Bo GH;simp only [↓aF,aG,↓Zy false hb];have hr:0<=(rN (d,false)).1/\(rN (d,false)).1<18446744073709551616:=Bq hb;have hA:Bytes (rN (d,false)).2.1:=qP hb;rw [show rdN d false=rN (d,false) from rfl];generalize rN (d,false)=A at *
 obtain ⟨t,r,s⟩:=A;simp only at hr hA;unfold Xo;by_cases k5:k=5
 ·simp only [k5,↓aF,aG,if_true,↓Zz,decide_true,Bool.and_true,Bool.and_self];by_cases hf:RD (r,s)
  ·have hf':s=false/\r=[]:=hf;simp only [hf',hf,↓aF,aG,if_true,and_self,decide_true];rcases aoP op dn la no t hr hd with ⟨h1,e⟩ | ⟨h1,e⟩
   ·rw [e];simp only [↓aF,aG,List.length_set,decide_true,Bool.and_true,Bool.and_self];refine .inl ⟨_,_,rfl,?_,rfl⟩;unfold mP;simp only [if_true,dM h1,cond_true];rw [List.take_of_length_le (by rw [List.length_set];exact Nat.le_refl _)]
   ·rw [e];simp only [↓aF,aG,decide_true,Bool.and_true,Bool.and_self];refine .inr ⟨.inr ⟨_,rfl,?_⟩,_,rfl⟩;unfold mP;simp only [if_true,jL h1,cond_false]
  ·have hf':¬(s=false/\r=[]):=hf;simp only [hf',hf,↓aF,aG,decide_false,decide_true,Bool.and_self];exact Apl.bad rfl _
 ·have k5':decide (k=5)=false:=decide_eq_false k5;by_cases hs:s=true
  ·subst hs;simp only [k5,↓aF,aG,decide_true,Bool.and_self,if_false,true_or,if_true];exact Apl.bad rfl _
  obtain rfl:s=false:=by simpa using hs
  by_cases ht:t > 1099511627776
  ·simp only [k5,ht,↓aF,aG,decide_true,Bool.and_self,if_false,or_true,if_true];exact Apl.bad rfl _
  have hwt:IntKind.wrap .i64 t=t:=aj (by omega);simp only [k5,ht,↓aF,aG,decide_true,Bool.and_self,if_false,reduceCtorEq,or_self,hwt];by_cases k1:k=1
  ·subst k1;have hc:Bytes (rT (r,false)).2.1:=Gz hA;simp only [↓aF,aG,decide_true,if_true,↓U5 false hA];rw [show rdT r false=rT (r,false) from rfl];generalize rT (r,false)=C at *
   obtain ⟨c,r1,s1⟩:=C;replace hc:Bytes r1:=hc;have hc2:Bytes (rT (r1,s1)).2.1:=Gz hc;simp only [↓aF,aG,↓U5 s1 hc];rw [show rdT r1 s1=rT (r1,s1) from rfl];generalize rT (r1,s1)=C at *
   obtain ⟨f,r2,s2⟩:=C;replace hc2:Bytes r2:=hc2;simp only [↓aF,aG,↓U5 s2 hc2];rw [show rdT r2 s2=rT (r2,s2) from rfl];generalize rT (r2,s2)=C at *
   obtain ⟨o,r3,s3⟩:=C;simp only [↓aF,aG,↓Zz];unfold ah7;by_cases hf:RD (r3,s3)
   ·have hf':s3=false/\r3=[]:=hf;simp only [hf',hf,↓aF,aG,if_true,and_self,decide_true,Bool.and_self];rcases aoQ op dn la no t c f o h with ⟨h1,e⟩ | ⟨h1,e⟩
    ·rw [e];simp only [↓aF,aG,decide_true,Bool.and_true,Bool.and_self];refine .inl ⟨_,_,rfl,?_,rfl⟩;unfold mP;simp only [show ¬(1:Int)=5 by omega,if_true,if_false,dM h1,cond_true]
    ·rw [e];simp only [↓aF,aG,decide_true,Bool.and_true,Bool.and_self];refine .inr ⟨.inr ⟨_,rfl,?_⟩,_,rfl⟩;unfold mP;simp only [show ¬(1:Int)=5 by omega,if_true,if_false,jL h1,cond_false]
   ·have hf':¬(s3=false/\r3=[]):=hf;simp only [hf',hf,↓aF,aG,decide_false,decide_true,Bool.and_self];exact Apl.bad rfl _
  ·by_cases k23:k=2\/k=3
   ·have h5:decide (k=1)=false:=decide_eq_false k1;have hk4:¬k=4:=by omega
    have hc:Bytes (rT (r,false)).2.1:=Gz hA;have hv:∀ {β:Type} (f:Bool->Option β),aA (if k=2 then some (Sum.inl true) else some (Sum.inl (decide (k=3)))) f=f true:=fun f=>by
     by_cases k2:k=2
     ·rw [if_pos k2];rfl
     ·rw [if_neg k2,decide_eq_true (show k=3 by omega)];rfl
    simp only [k1,k23,↓aF,aG,decide_true,if_true,if_false,↓hv,↓U5 false hA];rw [show rdT r false=rT (r,false) from rfl];generalize rT (r,false)=C at *
    obtain ⟨c,r1,s1⟩:=C;simp only [↓aF,aG,↓Zz];unfold ah8;by_cases hf:RD (r1,s1)
    ·have hf':s1=false/\r1=[]:=hf;simp only [hf',hf,↓aF,aG,if_true,and_self,decide_true,Bool.and_self];rcases aoR op dn la no k t c h with ⟨h1,e⟩ | ⟨h1,e⟩
     ·rw [e];simp only [↓aF,aG,List.length_set,decide_true,Bool.and_true,Bool.and_self];refine .inl ⟨_,_,rfl,?_,rfl⟩;unfold mP;simp only [k5,k1,hk4,if_true,if_false,dM h1,cond_true];rw [List.take_of_length_le (by rw [List.length_set];exact Nat.le_refl _)]
     ·rw [e];simp only [↓aF,aG,decide_true,Bool.and_true,Bool.and_self];refine .inr ⟨.inr ⟨_,rfl,?_⟩,_,rfl⟩;unfold mP;simp only [k5,k1,hk4,if_true,if_false,jL h1,cond_false]
    ·have hf':¬(s1=false/\r1=[]):=hf;simp only [hf',hf,↓aF,aG,decide_false,decide_true,Bool.and_self];exact Apl.bad rfl _
   ·have hv:∀ {β:Type} (f:Bool->Option β),aA (if k=2 then some (Sum.inl true) else some (Sum.inl (decide (k=3)))) f=f false:=fun f=>by
     rw [if_neg (by omega),decide_eq_false (show ¬k=3 by omega)];rfl
    by_cases k4:k=4
    ·subst k4;have hb1:Bytes (rN (r,false)).2.1:=qP hA;have hz:¬((4:Int)=2\/(4:Int)=3):=by omega
     have hz1:¬((4:Int)=1):=by omega
     simp only [k1,hz,hz1,↓aF,aG,decide_true,if_true,if_false,↓hv,↓Zy false hA];rw [show rdN r false=rN (r,false) from rfl];generalize rN (r,false)=C at *
     obtain ⟨n,r1,s1⟩:=C;replace hb1:Bytes r1:=hb1;have hb2:Bytes (rN (r1,s1)).2.1:=qP hb1;simp only [↓aF,aG,↓Zy s1 hb1];rw [show rdN r1 s1=rN (r1,s1) from rfl];generalize rN (r1,s1)=C at *
     obtain ⟨se,r2,s2⟩:=C;replace hb2:Bytes r2:=hb2;have hb3:Bytes (rN (r2,s2)).2.1:=qP hb2;have hco:0<=(rN (r2,s2)).1/\(rN (r2,s2)).1<18446744073709551616:=Bq hb2;simp only [↓aF,aG,↓Zy s2 hb2];rw [show rdN r2 s2=rN (r2,s2) from rfl];generalize rN (r2,s2)=C at *
     obtain ⟨co,r3,s3⟩:=C;replace hb3:Bytes r3:=hb3;replace hco:0<=co/\co<18446744073709551616:=hco;simp only [↓aF,aG,↓U5 s3 hb3];rw [show rdT r3 s3=rT (r3,s3) from rfl];generalize rT (r3,s3)=C at *
     obtain ⟨c,r4,s4⟩:=C;simp only [↓aF,aG,↓Zz];unfold ah9;by_cases hf:RD (r4,s4)
     ·have hf':s4=false/\r4=[]:=hf;simp only [hf',hf,↓aF,aG,if_true,and_self,decide_true,Bool.and_self];rcases aoS op dn la no t n se co c h hd hla hco with ⟨h1,e⟩ | ⟨h1,e⟩
      ·rw [e];simp only [↓aF,aG,decide_true,Bool.and_true,Bool.and_self];refine .inl ⟨_,_,rfl,?_,rfl⟩;unfold mP;simp only [show ¬(4:Int)=5 by omega,hz1,if_true,if_false,dM h1,cond_true]
      ·rw [e];simp only [↓aF,aG,decide_true,Bool.and_true,Bool.and_self];refine .inr ⟨.inr ⟨_,rfl,?_⟩,_,rfl⟩;unfold mP;simp only [show ¬(4:Int)=5 by omega,hz1,if_true,if_false,jL h1,cond_false]
     ·have hf':¬(s4=false/\r4=[]):=hf;simp only [hf',hf,↓aF,aG,decide_false,decide_true,Bool.and_self];exact Apl.bad rfl _
    ·simp only [k1,k23,k4,↓aF,aG,decide_true,decide_false,if_true,if_false,↓hv,Bool.and_self];exact Apl.bad rfl _
def AZ (op:List BL):Prop:=∀b∈op,b.2.2.2.2.2.2.1=0
def PW (op:List BL):Prop:=op.Pairwise (fun a b=>Op.bytesLess a.1 b.1=true)
theorem AZ.opn:∀ {op:List BL},AZ op->opn op=op.length
 | [],_=>rfl
 | b::l,h=>by
   rw [Go.Proofs.Ytkpijdndakljjaa.opn,if_pos (h b (by simp)),AZ.opn (fun x hx=>h x (by simp [hx]))];rfl
theorem RF {op:List BL} (h:PW op) (ha:AZ op):Srt op:=fun i j hij hj=>by
 rw [ha.opn] at hj;have:=List.pairwise_iff_getElem.1 h i j (by omega) hj hij;rw [List.getD_eq_getElem?_getD,List.getElem?_eq_getElem (by omega:i<op.length),List.getD_eq_getElem?_getD,List.getElem?_eq_getElem hj];exact this
theorem amj {op:List BL} (ha:AZ op) (h:PW op) (hl:op.length<=1000000):Opn op:=⟨ha.opn,RF h ha,hl⟩
theorem ae5 {op:List BL} (h:PW op) (p:Nat):PW (iE op p):=by
 refine List.Pairwise.sublist ?_ h;unfold iE;have:op.take p++op.drop (p+1)=op.eraseIdx p:=(List.eraseIdx_eq_take_drop_succ op p).symm;rw [this];exact List.eraseIdx_sublist op p
theorem amk {op:List BL} (h:PW op) {p:Nat} (hp:p<op.length) {x:BL} (hx:x.1=(op.getD p b0).1):PW (op.set p x):=by
 refine List.pairwise_iff_getElem.2 fun i j hi hj hij => ?_;rw [List.length_set] at hi hj;have h0:=List.pairwise_iff_getElem.1 h i j hi hj hij;have e:(op.getD p b0)=op[p]:=by rw [List.getD_eq_getElem?_getD,List.getElem?_eq_getElem hp];rfl
 rw [e] at hx;have g:∀(k:Nat) (hk:k<op.length),((op.set p x)[k]'(by rw [List.length_set];exact hk)).1=(op[k]).1:=fun k hk=>by
  rw [List.getElem_set];split
  ·rename_i e2;subst e2;exact hx
  ·rfl
 rw [g i hi,g j hj];exact h0
theorem aml {op:List BL} (h:PW op) (ha:AZ op) {b:BL} (hn:¬Di b.1 op):PW (Ai op b):=by
 have hs:=RF h ha;have ho:=ha.opn;have hp:=wJ b.1 op;unfold Ai;have hdec:op=op.take (gZ b.1 op)++op.drop (gZ b.1 op):=(List.take_append_drop _ _).symm;have h0:=h;rw [PW,hdec,List.pairwise_append] at h0;obtain ⟨h1,h2,h3⟩:=h0;have hlo:∀x∈op.take (gZ b.1 op),Op.bytesLess x.1 b.1=true:=fun x hx=>by
  obtain ⟨i,hi,rfl⟩:=List.mem_iff_getElem.1 hx;rw [List.length_take] at hi;have:=Xi (c:=b.1) (l:=op) (i:=i) (by omega);rw [List.getD_eq_getElem?_getD,List.getElem?_eq_getElem (by omega)] at this;rw [List.getElem_take];exact this
 have hhi:∀x∈op.drop (gZ b.1 op),Op.bytesLess b.1 x.1=true:=fun x hx=>by
  obtain ⟨i,hi,rfl⟩:=List.mem_iff_getElem.1 hx;rw [List.length_drop] at hi;rw [List.getElem_drop];have hlt:gZ b.1 op<opn op:=by omega
  have hne:(op.getD (gZ b.1 op) b0).1≠b.1:=fun e=>hn ⟨hlt,e⟩;have hnl:=Xj (c:=b.1) (l:=op) hlt;have hlt2:gZ b.1 op<op.length:=by omega
  have e1:(op.getD (gZ b.1 op) b0)=op[gZ b.1 op]:=by rw [List.getD_eq_getElem?_getD,List.getElem?_eq_getElem hlt2];rfl
  rw [e1] at hne hnl;have hfirst:Op.bytesLess b.1 (op[gZ b.1 op]).1=true:=by
   rcases aeW b.1 (op[gZ b.1 op]).1 with g | g | g
   ·exact g
   ·rw [hnl] at g;cases g
   ·exact absurd g.symm hne
  by_cases hi0:i=0
  ·subst hi0;exact hfirst
  ·exact Zp hfirst (List.pairwise_iff_getElem.1 h (gZ b.1 op) (gZ b.1 op+i) hlt2 (by omega) (by omega))
 rw [PW,List.append_assoc,List.pairwise_append];refine ⟨h1,?_,fun x hx y hy => ?_⟩
 ·show List.Pairwise _ (b::op.drop (gZ b.1 op));exact List.pairwise_cons.2 ⟨hhi,h2⟩
 ·rcases List.mem_cons.1 (show y∈b::op.drop (gZ b.1 op) from hy) with rfl | hy
  ·exact hlo x hx
  ·exact h3 x hx y hy
theorem ZA {op:List BL} {b x:BL} (h:x∈Ai op b):x=b\/x∈op:=by
 unfold Ai at h;rcases List.mem_append.1 h with h | h
 ·rcases List.mem_append.1 h with h | h
  ·exact .inr (List.mem_of_mem_take h)
  ·exact .inl (List.mem_singleton.1 h)
 ·exact .inr (List.mem_of_mem_drop h)
theorem U7 {β:Type} {body:Int->Option (Int ⊕ β)} {k n:Nat} (hk:k<=n) (p:Nat->Prop) (f:Nat->β) (r0:β) (h1:∀i:Nat,k<=i->i<n->¬p i->body (i:Int)=some (.inl ((i+1:Nat):Int))) (h2:∀i:Nat,k<=i->i<n->p i->body (i:Int)=some (.inr (f i))) (h3:body (n:Int)=some (.inr r0)) :
 (∃i,k<=i/\i<n/\p i/\(∀j,k<=j->j<i->¬p j)/\ay body (k:Int)=some (f i))\/((∀i,k<=i->i<n->¬p i)/\ay body (k:Int)=some r0):=by
 by_cases h:∃i,k<=i/\i<n/\p i
 ·obtain ⟨i,⟨q1,q2,q3⟩,q4⟩:=least h;have q5:∀j,k<=j->j<i->¬p j:=fun j j1 j2 j3=>q4 j j2 ⟨j1,by omega,j3⟩;refine .inl ⟨i,q1,q2,q3,q5,bI (fun j=>((k+j:Nat):Int)) (i-k) (by simp) (fun j hj => ?_) ?_⟩
  ·exact h1 (k+j) (by omega) (by omega) (q5 _ (by omega) (by omega))
  ·show body ((k+(i-k):Nat):Int)=_;rw [show k+(i-k)=i from by omega];exact h2 i q1 q2 q3
 ·have h':∀i,k<=i->i<n->¬p i:=fun i i1 i2 i3=>h ⟨i,i1,i2,i3⟩;refine .inr ⟨h',bI (fun j=>((k+j:Nat):Int)) (n-k) (by simp) (fun j hj => ?_) ?_⟩
  ·exact h1 (k+j) (by omega) (by omega) (h' _ (by omega) (by omega))
  ·show body ((k+(n-k):Nat):Int)=_;rw [show k+(n-k)=n from by omega];exact h3
def Due (l:List BL) (i:Nat):Prop:=(l.getD i b0).2.2.2.2.2.2.1≠0/\(l.getD i b0).2.2.2.2.2.2.2.2.2=false
def NX (g:LG):Prop:=VL g/\g.2.1=(g.1.length:Int)
theorem RG (g:LG) (hl:g.2.2.2.1.length<=1000000):∃r,iw g=some r/\uY g=some r /\
 ((NX g/\∃i,i<g.2.2.2.1.length/\Due g.2.2.2.1 i/\(∀j,j<i->¬Due g.2.2.2.1 j)/\r=(g.2.2.2.1.getD i b0,true))\/(¬(NX g/\∃i,i<g.2.2.2.1.length/\Due g.2.2.2.1 i)/\r=(b0,false))):=by
 have ho:=sK g.2.2.2.1;rw [aop,aor];by_cases hv:VL g
 ·by_cases hsy:g.2.1=(g.1.length:Int)
  ·have hP:=nH (body:=nxB g) g.2.2.2.1.length (fun i=>Due g.2.2.2.1 i) (fun i => .inr (g.2.2.2.1.getD i b0,true)) (.inl ()) (fun i hi hn=>by
    obtain ⟨x,hx,hxb⟩:=get_at b0 hi;unfold Due at hn;rw [hx] at hn;unfold nxB;by_cases h0:x.2.2.2.2.2.2.1=0
    ·simp (disch:=(first | omega | (simp only [bM];omega))) only [↓aF,aG,if_pos,if_neg,↓hxb,aj];rfl
    ·have h1:x.2.2.2.2.2.2.2.2.2=true:=by
      cases hg:x.2.2.2.2.2.2.2.2.2 with
      | true=>rfl
      | false=>exact (hn ⟨h0,hg⟩).elim
     simp (disch:=(first | omega | (simp only [bM];omega))) only [↓aF,aG,if_pos,if_neg,↓hxb,h1,aj];rfl) (fun i hi hn=>by
    obtain ⟨x,hx,hxb⟩:=get_at b0 hi;unfold Due at hn;rw [hx] at hn ⊢;have hg:=hn.2;have h0:=hn.1;unfold nxB;simp (disch:=(first | omega | (simp only [bM];omega))) only [↓aF,aG,if_pos,if_neg,↓hxb,hg]) (by
    unfold nxB;simp (disch:=(first | omega | (simp only [bM];omega))) only [↓aF,aG,if_neg])
   have hR:=U7 (body:=nrB g) ho (fun i=>Due g.2.2.2.1 i) (fun i => .inr (g.2.2.2.1.getD i b0,true)) (.inl ()) (fun i hk hi hn=>by
    obtain ⟨x,hx,hxb⟩:=get_at b0 hi;have hnum:=(hv.num hi).2.2 hk;unfold Due at hn;rw [hx] at hn hnum;have h1:x.2.2.2.2.2.2.2.2.2=true:=by
     cases hg:x.2.2.2.2.2.2.2.2.2 with
     | true=>rfl
     | false=>exact (hn ⟨by omega,hg⟩).elim
    unfold nrB;simp (disch:=(first | omega | (simp only [bM];omega))) only [↓aF,aG,if_pos,if_neg,↓hxb,h1,aj];rfl) (fun i hk hi hn=>by
    obtain ⟨x,hx,hxb⟩:=get_at b0 hi;unfold Due at hn;rw [hx] at hn ⊢;have hg:=hn.2;unfold nrB;simp (disch:=(first | omega | (simp only [bM];omega))) only [↓aF,aG,if_pos,if_neg,↓hxb,hg]) (by
    unfold nrB;simp (disch:=(first | omega | (simp only [bM];omega))) only [↓aF,aG,if_neg])
   have hno:∀i,i<opn g.2.2.2.1->¬Due g.2.2.2.1 i:=fun i hi h=>h.1 (MF hi);rcases hP with ⟨i,k1,k2,k3,e⟩ | ⟨k,e⟩
   ·have hio:opn g.2.2.2.1<=i:=by
     rcases Nat.lt_or_ge i (opn g.2.2.2.1) with h | h
     ·exact (hno i h k2).elim
     ·exact h
    rcases hR with ⟨i',k0',k1',k2',k3',e'⟩ | ⟨k',_⟩
    ·have hii:i'=i:=by
      rcases Nat.lt_trichotomy i' i with h | h | h
      ·exact (k3 _ h k2').elim
      ·exact h
      ·exact (k3' _ hio h k2).elim
     subst hii;refine ⟨(g.2.2.2.1.getD i' b0,true),?_,?_,.inl ⟨⟨hv,hsy⟩,i',k1,k2,k3,rfl⟩⟩
     ·simp (disch:=(first | omega | (simp only [bM];omega))) only [↓aF,aG,↓(nK g hl).b,dM hv,if_neg,e]
     ·simp (disch:=(first | omega | (simp only [bM];omega))) only [↓aF,aG,↓(Rl g hl).b,dM hv,if_neg,↓al6 g hl,e']
    ·exact (k' i hio k1 k2).elim
   ·rcases hR with ⟨i',_,k1',k2',_,_⟩ | ⟨_,e'⟩
    ·exact (k i' k1' k2').elim
    ·refine ⟨(b0,false),?_,?_,.inr ⟨fun h=>by obtain ⟨i,i1,i2⟩:=h.2;exact k i i1 i2,rfl⟩⟩
     ·simp (disch:=(first | omega | (simp only [bM];omega))) only [↓aF,aG,↓(nK g hl).b,dM hv,if_neg,e];rfl
     ·simp (disch:=(first | omega | (simp only [bM];omega))) only [↓aF,aG,↓(Rl g hl).b,dM hv,if_neg,↓al6 g hl,e'];rfl
  ·refine ⟨(b0,false),?_,?_,.inr ⟨fun h=>hsy h.1.2,rfl⟩⟩
   ·simp (disch:=(first | omega | (simp only [bM];omega))) only [↓aF,aG,↓(nK g hl).b,dM hv,if_pos];rfl
   ·simp (disch:=(first | omega | (simp only [bM];omega))) only [↓aF,aG,↓(Rl g hl).b,dM hv,if_pos];rfl
 ·refine ⟨(b0,false),?_,?_,.inr ⟨fun h=>hv h.1.1,rfl⟩⟩
  ·simp only [↓aF,aG,↓(nK g hl).b,jL hv];rfl
  ·simp only [↓aF,aG,↓(Rl g hl).b,jL hv];rfl
open Classical in
noncomputable def ae6 (g:LG):LG:=if VL g then (g.1,((g.1.length:Int),(g.2.2.1,(g.2.2.2.1,(g.2.2.2.2.1,g.2.2.2.2.2))))) else zG
theorem MC (g:LG) (hl:g.2.2.2.1.length<=1000000) (hB:g.1.length<=900000):kJ g=some (ae6 g):=by
 rw [aoy];unfold ae6;by_cases hv:VL g
 ·rw [if_pos hv];have hS:∀ {β:Type} (f:List Int×(Int×Int)->Option β),ah (kF (g.1,(g.2.1,g.2.2.1))) f=f (g.1,((g.1.length:Int),g.2.2.1)):=fun f=>by rw [Jn.MC g.1 g.2.1 g.2.2.1 hB ⟨hv.1.1,hv.1.2.1⟩ ⟨hv.1.2.2.1,hv.1.2.2.2⟩];rfl
  simp (disch:=(first | omega | (simp only [bM];omega))) only [↓aF,aG,↓(nK g hl).b,dM hv,↓hS,↓oH hl]
 ·rw [if_neg hv];simp only [↓aF,aG,↓(nK g hl).b,jL hv];rfl
theorem Nc (l:List BL) (hl:l.length<=1000000):gW (l,l)=some true:=by
 rw [aou];have hL:ay (sbB l l) (0:Int)=some (.inl ()):=by
  refine bI (fun i=>((i:Nat):Int)) l.length rfl (fun i hi => ?_) ?_
  ·obtain ⟨x,hx,hxb⟩:=get_at b0 hi;unfold sbB;simp (disch:=(first | omega | (simp only [bM];omega))) only [↓aF,aG,if_pos,↓hxb,aj,decide_true,Bool.and_true,Bool.true_and,beq_self_eq_true];rfl
  ·unfold sbB;simp (disch:=(first | omega | (simp only [bM];omega))) only [↓aF,aG,if_neg]
 rw [hL];simp (disch:=(first | omega | (simp only [bM];omega))) only [↓aF,aG,if_neg]
set_option maxRecDepth 1000000
set_option maxHeartbeats 0
def amm:List (Nat×PL):=[]
noncomputable def pF:PUnit->Option (yU):=fun _ =>
 some (([]:List Int),((0:Int),((0:Int),(([]:List iO),((0:Int),(0:Int))))))
noncomputable def amn:List (Nat×CE):=[]
theorem abE:eH Try.prog amn:=trivial
noncomputable def amo:CE:=⟨[],[(.tmp 0 true [dY,dI,dI,(.dat (.list pY)),dI,dI])],pF⟩
theorem ajl:aW Try.prog 31 amo :=nR amm fC abE Try.func31
def aoU:List (Nat×PL):=[]
noncomputable def jC:PUnit->Option Bool:=fun _ =>
 ah (pF ()) fun (x2,(x3,(x4,(x5,(x6,x7))))) =>
 ah (mD ((x2,(x3,(x4,(x5,(x6,x7))))),(((99:UInt8)::([]:List UInt8)),(((97:UInt8)::([]:List UInt8)),(((98:UInt8)::([]:List UInt8)),((1000:Int),((0:Int),((0:Int),((0:Int),((0:Int),((0:Int),false))))))))))) fun ((x9,(x10,(x11,(x12,(x13,x14))))),x15) =>
 ah (nG ((x9,(x10,(x11,(x12,(x13,x14))))),(((99:UInt8)::([]:List UInt8)),(2000:Int)))) fun ((x17,(x18,(x19,(x20,(x21,x22))))),x23) =>
 ah (kJ (x17,(x18,(x19,(x20,(x21,x22)))))) fun (x25,(x26,(x27,(x28,(x29,x30))))) =>
 ah (iw (x25,(x26,(x27,(x28,(x29,x30)))))) fun ((x32,(x33,(x34,(x35,(x36,(x37,(x38,(x39,(x40,x41))))))))),x42) =>
 ah (eF ()) fun (x44,x45) =>
 ah (pq ((x17,(x18,(x19,(x20,(x21,x22))))),((x44,x45),(((99:UInt8)::([]:List UInt8)),(4500:Int))))) fun ((x47,(x48,(x49,(x50,(x51,x52))))),x53) =>
 ah (iw (x47,(x48,(x49,(x50,(x51,x52)))))) fun ((x55,(x56,(x57,(x58,(x59,(x60,(x61,(x62,(x63,x64))))))))),x65) =>
 ah (kJ (x47,(x48,(x49,(x50,(x51,x52)))))) fun (x67,(x68,(x69,(x70,(x71,x72))))) =>
 ah (iw (x67,(x68,(x69,(x70,(x71,x72)))))) fun ((x74,(x75,(x76,(x77,(x78,(x79,(x80,(x81,(x82,x83))))))))),x84) =>
 bif (decide (x15=(0:Int))) then
 bif (decide (x23=(0:Int))) then
 bif (decide (x53=(0:Int))) then
 bif (!x42) then
 bif (!x65) then
 bif x84 then
 some ((decide (x74=((99:UInt8)::([]:List UInt8))))&&((decide (x75=((97:UInt8)::([]:List UInt8))))&&((decide (x76=((98:UInt8)::([]:List UInt8))))&&((decide (x77=(1000:Int)))&&((decide (x78=(2000:Int)))&&((decide (x79=(4500:Int)))&&((decide (x80=(1:Int)))&&((decide (x81=(3:Int)))&&((decide (x82=(3000:Int)))&&(x83==false))))))))))
 else
 some false
 else
 some false
 else
 some false
 else
 some false
 else
 some false
 else
 some false
noncomputable def aoV:List (Nat×CE):=[(10,alq),(15,aly),(20,alH),(24,alK),(26,alP),(28,aex),(31,amo)]
theorem ae7:eH Try.prog aoV:=⟨ai1,ai3,ai5,ai6,ai7,Y9,ajl,trivial⟩
noncomputable def ce9:CE:=⟨[],[(.tmp 0 false [dO])],jC⟩
theorem aqd:aW Try.prog 9 ce9 :=nR aoU fC ae7 Try.func9
def tr:List Ra:=[([],(0,(1,(1,[((127,(0,1440)),(1000,1000))]))))]
namespace Rt
theorem ae8 {l:List tN} {rc:Int} {mo:Nat->Int} (hl:l.length=1) (h:RVl l):∀ {n:Nat},(∀k,k<n+1->0<=mo k/\mo k<=4000000000000000000)->CU l rc mo (n+1)=rc+(l.getD 0 p0).2.1+(n:Int)*(l.getD 0 p0).2.2
 | 0,hm=>by
   obtain ⟨i,hi,e⟩:=(abu h (hm 0 (by omega))).2.pos h;obtain rfl:i=0:=by omega
   show rc+prc l (mo 0) 0=_;unfold prc;rw [if_pos rfl,e];show rc+(l.getD 0 p0).2.1=rc+(l.getD 0 p0).2.1+(0:Int)*_;rw [Int.zero_mul];omega
 | n+1,hm=>by
   obtain ⟨i,hi,e⟩:=(abu h (hm (n+1) (by omega))).2.pos h;obtain rfl:i=0:=by omega
   show CU l rc mo (n+1)+prc l (mo (n+1)) (n+1)=_;rw [ae8 hl h (fun k hk=>hm k (by omega))];unfold prc;rw [if_neg (by omega),e,show ((n+1:Nat):Int)=(n:Int)+1 from rfl,Int.add_mul,Int.one_mul];show _+(l.getD 0 p0).2.2=_;omega
theorem ajm:RV (tr.getD 0 r0):=by
 refine ⟨⟨by decide,by decide,by decide,by decide⟩,fun i hi => ?_,by decide,fun i hi => ?_,by decide⟩
 ·exact absurd hi (by simp [tr])
 ·obtain rfl:i=0:=by have:i<1:=hi;omega
  decide
theorem PI:TV tr 0:=by
 refine ⟨by decide,fun i hi => ?_⟩;obtain rfl:i=0:=by have:i<1:=hi;omega
 exact ⟨ajm,fun k hk=>by omega⟩
theorem aia (num:List UInt8):gV ((tr,0),num)=some (0,true):=by
 obtain ⟨r,e1,_,h,_⟩:=Gt tr 0 num;have k:FX tr num (((0:Nat):Int),true) := .inr ⟨0,by decide,rfl,by show Bg num [];simp [Bg],fun j hj _=>by
  obtain rfl:j=0:=by have:j<1:=hj;omega
  exact Nat.le_refl _⟩
 rw [e1,(h PI).uniq PI k];rfl
theorem aib (num:List UInt8) {a b:Int} (hs:Spn a b) (h1:SE a b<=1000000):bP ((tr,0),(num,(a,b)))=some (1000*SE a b,0):=by
 rw [Q5 (i:=0) PI hs h1 (by decide) (aia num)];have h0:=LY a b;have e:CV (tr.getD 0 r0) 0 a (SE a b)=1000*SE a b:=by
  generalize SE a b=s at *
  unfold CV;have hp:PN 0 (tr.getD 0 r0).2.2.1 (tr.getD 0 r0).2.2.2.1 s=s:=by
   show PN 0 1 1 s=s;unfold PN;split
   ·omega
   ·split<;>omega
  rw [hp];split
  ·omega
  ·obtain ⟨n,hn⟩:∃n:Nat,s.toNat=n+1:=⟨s.toNat-1,by omega⟩
   rw [hn,ae8 rfl ajm.2.2 (fun k hk=>by
    have:=Zj (a:=a) (f:=0) (fi:=1) (st:=1) ⟨hs.1,Int.le_trans hs.2.1 hs.2.2⟩ (by omega) (by omega) (by omega) (k:=k) (by omega);show 0<=MO a 0 1 1 k/\MO a 0 1 1 k<=4000000000000000000;omega)]
   show (0:Int)+1000+(n:Int)*1000=1000*s;omega
 rw [e]
end Rt
theorem Aj:eF ()=some (tr,0):=rfl
theorem VL1 {B:List Int} {s n l now:Int} {b:BL} (h1:0<=s/\s<=(B.length:Int)/\0<=n/\n<=1048576) (h2:0<=now/\now<=1099511627776) (h3:0<=l/\l<=1048576) (h4:BK now b) (h5:b.2.2.2.2.2.2.1=0\/(1<=b.2.2.2.2.2.2.1/\b.2.2.2.2.2.2.1<=l)):VL (B,(s,(n,([b],(l,now))))):=by
 refine ⟨h1,h2,h3,?_,fun i hi => ?_⟩
 ·have:=sK [b];simp at this;show opn [b]<=256;omega
 ·obtain rfl:i=0:=by have:i<1:=hi;omega
  refine ⟨h4,?_⟩;by_cases hz:b.2.2.2.2.2.2.1=0
  ·exact .inl ⟨by show 0<opn [b];simp [opn,hz],fun h=>by omega⟩
  ·exact .inr ⟨Nat.le_trans (show opn [b]<=0 by simp [opn,hz]) (Nat.le_refl _),by
    rw [PD (Nat.zero_le _)];show 0+1<=b.2.2.2.2.2.2.1/\b.2.2.2.2.2.2.1<=l;omega⟩
theorem VL0:VL zG:=⟨by decide,by decide,by decide,by decide,fun i hi=>absurd hi (by simp [zG])⟩
def wA:BL:=([99],([97],([98],(1000,(0,(0,(0,(0,(0,false)))))))))
def wB:List Int:=[]++Jn.jR 0 1 (dB wA)
def w1:BL:=([99],([97],([98],(1000,(-1,(1000,(0,(0,(0,false)))))))))
def w2:BL:=([99],([97],([98],(1000,(2000,(2000,(0,(0,(0,false)))))))))
def w3:BL:=([99],([97],([98],(1000,(2000,(4500,(1,(3,(3000,false)))))))))
def wC:List Int:=wB++Jn.jR 1 2 (lW [2000] [[99]])
def wD:List Int:=wC++Jn.jR 2 4 (lW [4500,1,3,3000] [[99]])
theorem len1 (t:Int) (c:Tx):(lW [t] [c]).length=10+c.length:=by
 rw [iG];simp only [List.flatMap_cons,List.flatMap_nil,List.length_append,uZ,List.length_cons,List.length_nil];omega
theorem Xp:wB.length=31:=by
 unfold wB;rw [List.nil_append,Jn.fB,dB,iG];simp [uZ,wA]
theorem GI:wC.length=56:=by
 unfold wC;rw [List.length_append,Xp,Jn.fB,len1];rfl
theorem GK:wD.length=105:=by
 unfold wD;rw [List.length_append,GI,Jn.fB,iG];simp [uZ]
theorem bk1:BK 1000 w1:=⟨by decide,by decide,.inl rfl,by decide,.inl (by decide)⟩
theorem bk2:BK 2000 w2:=⟨by decide,by decide,.inr (by decide),by decide,.inl (by decide)⟩
theorem bk3:BK 4500 w3:=⟨by decide,by decide,.inr (by decide),by decide,.inr ⟨by decide,by decide,by decide,by decide⟩⟩
theorem U8 (g:LG) (c:Tx) (t:Int) (hl:g.2.2.2.1.length<=1000000) (hB:g.1.length<=900000):nG (g,(c,t))=some (Gv g 2 c t):=by
 have h:=Zw g 2 c t (.inl rfl) hl hB;obtain ⟨a1,a2,a3,a4,a5,a6⟩:=g;show ah (kQ ((a1,(a2,(a3,(a4,(a5,a6))))),(2,(c,t)))) _=_;rw [h];rfl
theorem amq (g:LG) (c:Tx) (t:Int) (hl:g.2.2.2.1.length<=1000000) (hB:g.1.length<=900000):yE (g,(c,t))=some (Gv g 3 c t):=by
 have h:=Zw g 3 c t (.inr rfl) hl hB;obtain ⟨a1,a2,a3,a4,a5,a6⟩:=g;show ah (kQ ((a1,(a2,(a3,(a4,(a5,a6))))),(3,(c,t)))) _=_;rw [h];rfl
theorem aqe:mD (zG,wA)=some ((wB,(0,(1,([w1],(0,1000))))),0):=by
 rw [Zv zG wA (by decide) (by decide)];unfold Ro;rw [if_pos ⟨⟨VL0,by decide,by decide⟩,by decide⟩,if_neg (fun h=>absurd h.1 (by decide)),if_neg (by decide)];rfl
theorem aoX {b:BL} (h:b.2.2.2.2.2.2.1=0):Di b.1 [b]/\gZ b.1 [b]=0:=by
 have h2:gZ b.1 [b]=0:=by simp [gZ,Xh]
 refine ⟨⟨?_,?_⟩,h2⟩
 ·rw [h2];simp [opn,h]
 ·rw [h2];rfl
theorem aqf:nG ((wB,(0,(1,([w1],(0,1000))))),([99],2000))=some ((wC,(0,(2,([w2],(0,2000))))),0):=by
 have hv:VL (wB,(0,(1,([w1],(0,1000))))):=VL1 (by rw [Xp];decide) (by decide) (by decide) bk1 (.inl rfl);rw [U8 _ _ _ (by decide) (by show wB.length<=_;rw [Xp];decide)];unfold Gv;have hf:Di [99] [w1]/\gZ [99] [w1]=0:=aoX (b:=w1) rfl;rw [if_pos ⟨hv,by decide,by decide⟩];dsimp only;rw [if_pos hf.1];have e0:gZ ([99]:Tx) [w1]=0:=hf.2;simp only [e0];rw [if_neg (fun h=>h.2 rfl),if_neg (by decide)];rfl
theorem aqg:kJ (wC,(0,(2,([w2],(0,2000)))))=some (wC,(56,(2,([w2],(0,2000))))):=by
 have hv:VL (wC,(0,(2,([w2],(0,2000))))):=VL1 (by rw [GI];decide) (by decide) (by decide) bk2 (.inl rfl);rw [MC _ (by decide) (by show wC.length<=_;rw [GI];decide)];unfold ae6;rw [if_pos hv];simp only [GI];rfl
theorem aqh:iw (wC,(56,(2,([w2],(0,2000)))))=some (b0,false):=by
 obtain ⟨r,h1,_,h3⟩:=RG (wC,(56,(2,([w2],(0,2000))))) (by decide);rcases h3 with ⟨_,i,hi,hd,_⟩ | ⟨_,rfl⟩
 ·obtain rfl:i=0:=by have:i<1:=hi;omega
  exact (hd.1 rfl).elim
 ·exact h1
theorem aqi:Rq tr 0 [98] 2000 4500=3000:=by
 unfold Rq;rw [Rt.aib [98] (by decide) (by decide)];rfl
theorem aqj:pq ((wC,(0,(2,([w2],(0,2000))))),((tr,0),([99],4500)))=some ((wD,(0,(3,([w3],(1,4500))))),0):=by
 have hv:VL (wC,(0,(2,([w2],(0,2000))))):=VL1 (by rw [GI];decide) (by decide) (by decide) bk2 (.inl rfl);rw [ajj _ _ _ _ _ (by decide) (by show wC.length<=_;rw [GI];decide)];unfold N8;have hf:Di [99] [w2]/\gZ [99] [w2]=0:=aoX (b:=w2) rfl;rw [if_pos ⟨⟨hv,by decide,by decide⟩,Rt.PI⟩];dsimp only;rw [if_pos hf.1];have e0:gZ ([99]:Tx) [w2]=0:=hf.2;simp only [e0];have hse:Rt.SE 2000 4500=3:=by decide
 have hco:Rq tr 0 w2.2.2.1 2000 4500=3000:=aqi;unfold sS Zx laF dE nmF;have eg:([w2]:List BL).getD 0 b0=w2:=rfl;simp only [eg];rw [if_neg (by decide),if_pos (show w2.2.2.2.2.1 ≠ -1 by decide),if_pos (show w2.2.2.2.2.1 ≠ -1 by decide),if_pos (show w2.2.2.2.2.1 ≠ -1 by decide)];have ea:w2.2.2.2.2.1=2000:=rfl;simp only [ea,hse,hco];rfl
theorem aqk:iw (wD,(0,(3,([w3],(1,4500)))))=some (b0,false):=by
 obtain ⟨r,h1,_,h3⟩:=RG (wD,(0,(3,([w3],(1,4500))))) (by decide);rcases h3 with ⟨h,_⟩ | ⟨_,rfl⟩
 ·have h2:(0:Int)=(wD.length:Int):=h.2;rw [GK] at h2;omega
 ·exact h1
theorem aql:kJ (wD,(0,(3,([w3],(1,4500)))))=some (wD,(105,(3,([w3],(1,4500))))):=by
 have hv:VL (wD,(0,(3,([w3],(1,4500))))):=VL1 (by rw [GK];decide) (by decide) (by decide) bk3 (.inr (by decide));rw [MC _ (by decide) (by show wD.length<=_;rw [GK];decide)];unfold ae6;rw [if_pos hv];simp only [GK];rfl
theorem aqm:iw (wD,(105,(3,([w3],(1,4500)))))=some (w3,true):=by
 have hv:VL (wD,(105,(3,([w3],(1,4500))))):=VL1 (by rw [GK];decide) (by decide) (by decide) bk3 (.inr (by decide));obtain ⟨r,h1,_,h3⟩:=RG (wD,(105,(3,([w3],(1,4500))))) (by decide);rcases h3 with ⟨_,i,hi,_,_,rfl⟩ | ⟨hno,_⟩
 ·obtain rfl:i=0:=by have:i<1:=hi;omega
  exact h1
 ·exact (hno ⟨⟨hv,by show (105:Int)=(wD.length:Int);rw [GK];rfl⟩,0,by decide,by decide,rfl⟩).elim
theorem aic:jC ()=some true:=by
 unfold jC;have h0:pF ()=some zG:=rfl;have h1:=aqe;unfold zG wA at h1;rw [h0];unfold zG;simp only [↓aF,aG,h1,aqf,aqg,aqh,Aj,aqj,aqk,aql,aqm];rfl
theorem U9 (l:List BL) (b:BL):(Ai l b).length<=l.length+1:=by
 unfold Ai;simp only [List.length_append,List.length_take,List.length_drop,List.length_cons,List.length_nil];omega
theorem amr (l:List BL) (p:Nat):(iE l p).length<=l.length:=by
 rw [iE,List.length_append,List.length_take,List.length_drop];omega
theorem BK.mono {n m:Int} {b:BL} (h:BK n b) (hm:n<=m):BK m b:=⟨h.1,⟨h.2.1.1,Int.le_trans h.2.1.2 hm⟩,h.2.2.1,⟨h.2.2.2.1.1,Int.le_trans h.2.2.2.1.2 hm⟩,h.2.2.2.2⟩
theorem Nh (x y:Int):x<=dK x y/\y<=dK x y/\(dK x y=x\/dK x y=y):=by unfold dK;split<;>omega
def INV (s:ST):Prop:=(∀b∈s.1,BK s.2.2.2 b/\b.2.2.2.2.2.2.1=0)/\PW s.1/\s.1.length<=256/\s.2.2.1=(s.2.1.length:Int) /\
 (∀i,i<s.2.1.length->BK s.2.2.2 (s.2.1.getD i b0)/\(s.2.1.getD i b0).2.2.2.2.2.2.1=(i:Int)+1)/\(0<=s.2.2.2/\s.2.2.2<=1099511627776)/\s.2.1.length<=1000000
theorem INV.az {s:ST} (h:INV s):AZ s.1:=fun b hb=>(h.1 b hb).2
theorem INV.op {s:ST} (h:INV s):Opn s.1:=amj h.az h.2.1 (by have:=h.2.2.1;omega)
def s0:ST:=([],([],(0,0)))
theorem inv0:INV s0:=⟨fun b (hb:b∈([]:List BL))=>(by cases hb),List.Pairwise.nil,Nat.zero_le _,rfl,fun i (hi:i<0)=>absurd hi (Nat.not_lt_zero i),⟨Int.le_refl 0,(by omega:(0:Int)<=1099511627776)⟩,Nat.zero_le _⟩
def AOk (a:AC):Prop:=(a.1=1\/a.1=2\/a.1=3\/a.1=4\/a.1=5)/\(0<=a.2.1/\a.2.1<=1099511627776)/\0<=a.2.2.1/\0<=a.2.2.2.1/\0<=a.2.2.2.2.1
theorem ae9 {k:Int} {d:List Int} {a:AC} (hb:Bytes d) (h:GH k d=some a):AOk a:=by
 unfold GH Xo at h;have hr:0<=(rN (d,false)).1/\(rN (d,false)).1<18446744073709551616:=Bq hb;have hA:Bytes (rN (d,false)).2.1:=qP hb;generalize rN (d,false)=A at *
 obtain ⟨t,r,s⟩:=A;simp only at hr hA;split at h
 ·split at h
  ·cases h;exact ⟨.inr (.inr (.inr (.inr rfl))),⟨Int.le_refl 0,(by omega:(0:Int)<=1099511627776)⟩,hr.1,Int.le_refl 0,Int.le_refl 0⟩
  ·cases h
 ·split at h
  ·cases h
  ·rename_i hn;simp only [not_or] at hn;split at h
   ·unfold ah7 at h;split at h
    ·cases h;exact ⟨.inl rfl,⟨hr.1,by simpa using hn.2⟩,Int.le_refl 0,Int.le_refl 0,Int.le_refl 0⟩
    ·cases h
   ·split at h
    ·rename_i hk;unfold ah8 at h;split at h
     ·cases h;exact ⟨hk.elim (fun e => .inr (.inl e)) (fun e => .inr (.inr (.inl e))),⟨hr.1,by simpa using hn.2⟩,Int.le_refl 0,Int.le_refl 0,Int.le_refl 0⟩
     ·cases h
    ·split at h
     ·unfold ah9 at h;have b1:Bytes (rN (r,s)).2.1:=qP hA;have b2:Bytes (rN (rN (r,s)).2).2.1:=qP b1;have c1:0<=(rN (r,s)).1:=(Bq hA).1;have c2:0<=(rN (rN (r,s)).2).1:=(Bq b1).1;have c3:0<=(rN (rN (rN (r,s)).2).2).1:=(Bq b2).1;split at h
      ·cases h;exact ⟨.inr (.inr (.inr (.inl rfl))),⟨hr.1,by simpa using hn.2⟩,c1,c2,c3⟩
      ·cases h
     ·cases h
theorem iT {l:List BL} {p:Nat} (h:p<l.length):l.getD p b0∈l:=by
 rw [List.getD_eq_getElem?_getD,List.getElem?_eq_getElem h];exact List.getElem_mem h
theorem ZB {a:AC} {s s':ST} (ha:AOk a) (h:INV s) (hl:s.2.1.length<1000000) (he:mP a s=some s'):INV s'/\s'.2.1.length<=s.2.1.length+1:=by
 obtain ⟨i1,i2,i3,i4,i5,i6,i7⟩:=h;have haz:AZ s.1:=fun b hb=>(i1 b hb).2;obtain ⟨op,dn,la,no⟩:=s;obtain ⟨k,t,n,se,co,c,f,o⟩:=a;obtain ⟨hk,ht,hn,hse,hco⟩:=ha;simp only at i1 i2 i3 i4 i5 i6 i7 hk ht hn hse hco hl haz;have hm:=Nh no t;have hop:=haz.opn;unfold mP at he;simp only at he;split at he
 ·by_cases hg:OKg dn n
  ·rw [dM hg] at he;simp only [cond_true,Option.some.injEq] at he;subst he;have hg1:=hg.1;have hg2:=hg.2.1;refine ⟨⟨i1,i2,i3,?_,fun i hi => ?_,i6,?_⟩,?_⟩
   ·show la=(((dn.set (n-1).toNat (U6 (dn.getD (n-1).toNat b0))).length:Nat):Int)
    rw [List.length_set];exact i4
   ·replace hi:i<(dn.set (n-1).toNat (U6 (dn.getD (n-1).toNat b0))).length:=hi;rw [List.length_set] at hi;show BK no ((dn.set (n-1).toNat (U6 (dn.getD (n-1).toNat b0))).getD i b0)/\((dn.set (n-1).toNat (U6 (dn.getD (n-1).toNat b0))).getD i b0).2.2.2.2.2.2.1=(i:Int)+1;rw [List.getD_eq_getElem?_getD,List.getElem?_set];obtain ⟨j1,j2⟩:=i5 i hi;by_cases e:(n-1).toNat=i
    ·rw [if_pos e,if_pos (by omega),Option.getD_some,e];refine ⟨⟨j1.1,j1.2.1,j1.2.2.1,j1.2.2.2.1,?_⟩,j2⟩;rcases j1.2.2.2.2 with q | q
     ·exact absurd q.1 (by omega)
     ·exact .inr q
    ·rw [if_neg e,<-List.getD_eq_getElem?_getD];exact ⟨j1,j2⟩
   ·show (dn.set (n-1).toNat (U6 (dn.getD (n-1).toNat b0))).length<=1000000;rw [List.length_set];exact i7
   ·show (dn.set (n-1).toNat (U6 (dn.getD (n-1).toNat b0))).length<=dn.length+1;rw [List.length_set];omega
  ·rw [jL hg] at he;cases he
 ·split at he
  ·by_cases hg:OKb op c f o
   ·rw [dM hg] at he;simp only [cond_true,Option.some.injEq] at he;subst he;refine ⟨⟨fun b hb => ?_,aml i2 haz hg.1,?_,i4,fun i hi=>⟨(i5 i hi).1.mono hm.1,(i5 i hi).2⟩,?_,i7⟩,Nat.le_succ _⟩
    ·rcases ZA hb with rfl | hb
     ·exact ⟨⟨⟨hg.2.2.1.1,hg.2.2.1.2,hg.2.2.2.1,hg.2.2.2.2⟩,⟨ht.1,hm.2.1⟩,.inl rfl,⟨Int.le_refl _,hm.2.1⟩,.inl ⟨rfl,rfl,rfl,rfl⟩⟩,rfl⟩
     ·exact ⟨(i1 b hb).1.mono hm.1,(i1 b hb).2⟩
    ·have:=U9 op (c,(f,(o,(t,(-1,(t,(0,(0,(0,false)))))))));have h2:=hg.2.1;show (Ai op _).length<=256;omega
    ·show 0<=dK no t/\dK no t<=1099511627776;omega
   ·rw [jL hg] at he;cases he
  ·split at he
   ·by_cases hg:OKe op la t n se co c
    ·rw [dM hg] at he;simp only [cond_true,Option.some.injEq] at he;subst he;have hlt:gZ c op<op.length:=by have:=hg.1.1;omega
     have hx:=i1 _ (iT hlt);have hrl:=amr op (gZ c op);have hrb:∀b∈iE op (gZ c op),BK (dK no t) b/\b.2.2.2.2.2.2.1=0:=fun b hb=>by
      have:b∈op:=by
       unfold iE at hb;rcases List.mem_append.1 hb with hb | hb
       ·exact List.mem_of_mem_take hb
       ·exact List.mem_of_mem_drop hb
      exact ⟨(i1 b this).1.mono hm.1,(i1 b this).2⟩
     have hmx:0<=dK no t/\dK no t<=1099511627776:=by omega
     obtain ⟨hF,hE,hC⟩:=hg;generalize op.getD (gZ c op) b0=x at *
     by_cases hz:n=0
     ·simp only [if_pos hz];exact ⟨⟨hrb,ae5 i2 _,by show (iE op (gZ c op)).length<=256;omega,i4,fun i hi=>⟨(i5 i hi).1.mono hm.1,(i5 i hi).2⟩,hmx,i7⟩,Nat.le_succ _⟩
     ·simp only [if_neg hz];rcases hC with q | q
      ·exact absurd q.1 hz
      ·obtain ⟨q1,q2,q3,q4,q5,q6⟩:=q;refine ⟨⟨hrb,ae5 i2 _,by show (iE op (gZ c op)).length<=256;omega,?_,fun i hi => ?_,hmx,?_⟩,?_⟩
       ·show n=(((dn++[U1 x t n se co]).length:Nat):Int)
        rw [List.length_append];show n=((dn.length+1:Nat):Int)
        omega
       ·replace hi:i<(dn++[U1 x t n se co]).length:=hi;rw [List.length_append] at hi;replace hi:i<dn.length+1:=hi;show BK (dK no t) ((dn++[U1 x t n se co]).getD i b0)/\((dn++[U1 x t n se co]).getD i b0).2.2.2.2.2.2.1=(i:Int)+1;rw [List.getD_eq_getElem?_getD];by_cases e:i<dn.length
        ·rw [List.getElem?_append_left e,<-List.getD_eq_getElem?_getD];exact ⟨(i5 i e).1.mono hm.1,(i5 i e).2⟩
        ·obtain rfl:i=dn.length:=by omega
         rw [List.getElem?_append_right (Nat.le_refl _),Nat.sub_self];show BK (dK no t) (U1 x t n se co)/\n=_;obtain ⟨⟨x1,x2,x3,x4,x5⟩,x6⟩:=hx;refine ⟨⟨x1,⟨x2.1,by have:=x4.1;show x.2.2.2.1<=_;omega⟩,?_,⟨?_,hm.2.1⟩,.inr ⟨q1,q2,hco,q5⟩⟩,by omega⟩
         ·rcases x3 with x3 | x3
          ·exact .inl x3
          ·exact .inr ⟨x3.1,Int.le_trans x3.2 hE⟩
         ·show x.2.2.2.1<=t;have:=x4.1;omega
       ·show (dn++[U1 x t n se co]).length<=1000000;rw [List.length_append];show dn.length+1<=1000000;omega
       ·show (dn++[U1 x t n se co]).length<=dn.length+1;rw [List.length_append];exact Nat.le_refl _
    ·rw [jL hg] at he;cases he
   ·by_cases hg:OKt op k t c
    ·rw [dM hg] at he;simp only [cond_true,Option.some.injEq] at he;subst he;have hlt:gZ c op<op.length:=by have:=hg.1.1;omega
     have hx:=i1 _ (iT hlt);obtain ⟨hF,hE,hC⟩:=hg;refine ⟨⟨fun b hb => ?_,amk i2 hlt rfl,?_,i4,fun i hi=>⟨(i5 i hi).1.mono hm.1,(i5 i hi).2⟩,?_,i7⟩,Nat.le_succ _⟩
     ·rcases List.mem_or_eq_of_mem_set hb with hb | rfl
      ·exact ⟨(i1 b hb).1.mono hm.1,(i1 b hb).2⟩
      ·generalize op.getD (gZ c op) b0=x at *
       obtain ⟨⟨x1,x2,x3,x4,x5⟩,x6⟩:=hx;refine ⟨⟨x1,⟨x2.1,by have:=x4.1;show x.2.2.2.1<=dK no t;omega⟩,?_,⟨?_,hm.2.1⟩,?_⟩,x6⟩
       ·show (if k=2 then t else x.2.2.2.2.1) = -1\/(x.2.2.2.1<=(if k=2 then t else x.2.2.2.2.1)/\(if k=2 then t else x.2.2.2.2.1)<=t)
        have:=x4.1;split
        ·exact .inr ⟨by omega,Int.le_refl _⟩
        ·rcases x3 with x3 | x3
         ·exact .inl x3
         ·exact .inr ⟨x3.1,Int.le_trans x3.2 hE⟩
       ·show x.2.2.2.1<=t;have:=x4.1;omega
       ·rcases x5 with q | q
        ·exact .inl q
        ·exact absurd x6 q.1
     ·show (op.set _ _).length<=256;rw [List.length_set];exact i3
     ·show 0<=dK no t/\dK no t<=1099511627776;omega
    ·rw [jL hg] at he;cases he
noncomputable def rpB (x11:List (Int×List Int)):(Int×ST)->Option ((Int×ST) ⊕ (ST ⊕ (LG×Int))) :=
 (fun (v12,(v13,(v14,(v15,v16)))) =>
 bif (decide (v12<(x11.length:Int))) then
 bif (decide (((0:Int)<=v12)/\(v12<(x11.length:Int)))) then
 ah x11[v12.toNat]? fun x17 =>
 bif ((decide (v13.length=v13.length))&&(decide (v14.length=v14.length))) then
 ah (Bo ((x17.1,x17.2),(v13,(v14,(v15,v16))))) fun (x19,(x20,(x21,(x22,x23)))) =>
 bif (!x19) then
 au (au (some ((([]:List Int),((0:Int),((0:Int),(([]:List iO),((0:Int),(0:Int)))))),(5:Int))))
 else
 bif ((decide (x20.length<=x20.length))&&(decide (x21.length<=x21.length))) then
 some (Sum.inl ((IntKind.wrap .i64 (v12+(1:Int))),((x20.take x20.length),((x21.take x21.length),(x22,x23)))))
 else none
 else none
 else none
 else
 au (bif ((decide (v13.length<=v13.length))&&(decide (v14.length<=v14.length))) then
 some (Sum.inl ((v13.take v13.length),((v14.take v14.length),(v15,v16))))
 else none))
noncomputable def caB {δ:Type} (v25 v26:List BL):(Int×Int)->Option ((Int×Int) ⊕ (Int ⊕ δ)) :=
 (fun (v29,v30) =>
 bif (decide (v29<(2:Int))) then
 bif (decide (((0:Int)<=v29)/\(v29<(2:Int)))) then
 ah ((v25.take v25.length)::((v26.take v26.length)::([]:List (List iO))))[v29.toNat]? fun x31 =>
 ah (some (IntKind.wrap .i64 (v30+(x31.length:Int)))) fun x32 =>
 bif (decide (x32<(0:Int))) then
 none
 else
 some (Sum.inl ((IntKind.wrap .i64 (v29+(1:Int))),x32))
 else none
 else
 au (some (Sum.inl v30)))
noncomputable def cbB {δ:Type} (v25 v26:List BL):(Int×List BL)->Option ((Int×List BL) ⊕ (List BL ⊕ δ)) :=
 (fun (v36,v37) =>
 bif (decide (v36<(2:Int))) then
 bif (decide (((0:Int)<=v36)/\(v36<(2:Int)))) then
 ah ((v25.take v25.length)::((v26.take v26.length)::([]:List (List iO))))[v36.toNat]? fun x38 =>
 bif (decide (v37.length<=v37.length)) then
 bif (decide (((List.length ((v37.take v37.length)++x38))*104)<=140737488355328)) then
 ah (some ((v37.take v37.length)++x38)) fun x39 =>
 bif (decide (x39.length<=x39.length)) then
 some (Sum.inl ((IntKind.wrap .i64 (v36+(1:Int))),(x39.take x39.length)))
 else none
 else none
 else none
 else none
 else
 au (bif (decide (v37.length<=v37.length)) then
 some (Sum.inl (v37.take v37.length))
 else none))
noncomputable def Zb (a2:List Ra) (a3:Int) (v25:List BL):(Int×LG)->Option ((Int×LG) ⊕ (LG ⊕ (LG×Int))) :=
 (fun (v43,(v44,(v45,(v46,(v47,(v48,v49)))))) =>
 bif (decide (v43<(v25.length:Int))) then
 bif (decide (((0:Int)<=(0:Int))/\((0:Int)<(v47.length:Int)))) then
 ah v47[0]? fun x50 =>
 ah (jf ((v44,(v45,(v46,(v47,(v48,v49))))),((a2,a3),((0:Int),x50.2.2.2.2.2.1)))) fun ((x52,(x53,(x54,(x55,(x56,x57))))),x58) =>
 bif (decide (x58≠(0:Int))) then
 au (au (some ((([]:List Int),((0:Int),((0:Int),(([]:List iO),((0:Int),(0:Int)))))),x58)))
 else
 some (Sum.inl ((IntKind.wrap .i64 (v43+(1:Int))),(x52,(x53,(x54,(x55,(x56,x57)))))))
 else none
 else
 au (some (Sum.inl (v44,(v45,(v46,(v47,(v48,v49))))))))
theorem ams (a1:List Int) (a2:List Ra) (a3 a4:Int):jZ (a1,((a2,a3),a4)) =
 ah (aV (a2,a3)) fun x5 =>
 bif (!x5) then
  some ((([]:List Int),((0:Int),((0:Int),(([]:List iO),((0:Int),(0:Int)))))),(2:Int))
 else
  ah (aZ (a4,((0:Int),(1099511627776:Int)))) fun x6 =>
  bif (!x6) then
   some ((([]:List Int),((0:Int),((0:Int),(([]:List iO),((0:Int),(0:Int)))))),(2:Int))
  else
   ah (jY a1) fun ((x8,(x9,x10)),x11) =>
   aA (ay (rpB x11) ((0:Int),(([]:List iO),(([]:List iO),((0:Int),(0:Int)))))) fun (v25,(v26,(v27,v28))) =>
   bif (decide (a4<v28)) then
    some ((([]:List Int),((0:Int),((0:Int),(([]:List iO),((0:Int),(0:Int)))))),(9:Int))
   else
    bif ((decide (v25.length<=v25.length))&&(decide (v26.length<=v26.length))) then
     aA (aA (ay (caB v25 v26) ((0:Int),(0:Int))) fun v34 =>
 ah (Ih v34) fun x35 =>
 aA (bif (decide (x35.length<=x35.length)) then
 ay (cbB v25 v26) ((0:Int),(x35.take x35.length))
 else none) fun v41 =>
 bif (decide (v41.length<=v41.length)) then
 some (Sum.inl (v41.take v41.length))
 else none) fun v42 =>
     aA (bif (decide (v42.length<=v42.length)) then
 ay (Zb a2 a3 v25) ((0:Int),(x8,(x9,(x10,((v42.take v42.length),(v27,a4))))))
 else none) fun (v60,(v61,(v62,(v63,(v64,v65))))) =>
     some ((v60,(v61,(v62,(v63,(v64,v65))))),(0:Int))
    else none:=rfl
noncomputable def run:List (Int×List Int)->ST->Option ST
 | [],s=>some s
 | x::l,s=>match GH x.1 x.2 with | none=>none | some a=>match mP a s with | none=>none | some s'=>run l s'
def RBy (l:List (Int×List Int)):Prop:=∀x∈l,Bytes x.2
theorem vg {x:Int×List Int} {l:List (Int×List Int)} {s:ST}:run (x::l) s=match GH x.1 x.2 with | none=>none | some a=>match mP a s with | none=>none | some s'=>run l s':=rfl
theorem aii {l:List (Int×List Int)} {i:Nat} (hi:i<l.length) (hl:l.length<=900000) (hb:RBy l) (op dn:List BL) (la no:Int) (h:INV (op,(dn,(la,no)))) (hd:dn.length<=i) :
 (∃s',run [l.getD i (0,[])] (op,(dn,(la,no)))=some s'/\INV s'/\s'.2.1.length<=i+1/\rpB l ((i:Int),(op,(dn,(la,no))))=some (.inl (((i+1:Nat):Int),s'))) \/
 (run [l.getD i (0,[])] (op,(dn,(la,no)))=none/\rpB l ((i:Int),(op,(dn,(la,no))))=some (.inr (.inr (zG,5)))):=by
 obtain ⟨x,hx,hxb⟩:=get_at ((0,[]):Int×List Int) hi;have hbx:Bytes x.2:=by
  rw [<-hx,List.getD_eq_getElem?_getD,List.getElem?_eq_getElem hi];exact hb _ (List.getElem_mem hi)
 have hla:la=(dn.length:Int):=h.2.2.2.1;have hj:=aoT x.1 x.2 op dn la no h.op (by omega) (by omega) hbx;rw [hx];unfold rpB;simp (disch:=(first | omega | (simp only [bM];omega))) only [↓aF,aG,if_pos,if_neg,↓hxb,decide_true,Bool.and_self];rcases hj with ⟨a,s',h1,h2,h3⟩ | ⟨h1,s',h3⟩
 ·have hk:=ZB (ae9 hbx h1) h (by show dn.length<1000000;omega) h2;refine .inl ⟨s',?_,hk.1,?_,?_⟩
  ·rw [vg,h1];simp only [h2];rfl
  ·have:=hk.2;show s'.2.1.length<=i+1;have e:((op,(dn,(la,no))):ST).2.1.length=dn.length:=rfl;omega
  ·rw [h3];obtain ⟨o1,d1,l1,n1⟩:=s';simp (disch:=(first | omega | (simp only [bM];omega))) only [↓aF,aG,decide_true,Bool.and_self,aj];rfl
 ·refine .inr ⟨?_,?_⟩
  ·rcases h1 with h1 | ⟨a,h1,h2⟩
   ·rw [vg,h1]
   ·rw [vg,h1];simp only [h2]
  ·rw [h3];obtain ⟨o1,d1,l1,n1⟩:=s';simp only [↓aF,aG];rfl
theorem run_bind (x:Int×List Int) (l:List (Int×List Int)) (s:ST):run (x::l) s=match run [x] s with | none=>none | some s'=>run l s':=by
 rw [vg,vg];cases GH x.1 x.2 with
 | none=>rfl
 | some a =>
   simp only;cases mP a s with
   | none=>rfl
   | some s'=>rfl
theorem ZC {l:List (Int×List Int)} (hl:l.length<=900000) (hb:RBy l):∀(n i:Nat) (s:ST),l.length-i=n->i<=l.length->INV s->s.2.1.length<=i ->
 (∃s',run (l.drop i) s=some s'/\INV s'/\s'.2.1.length<=l.length/\ay (rpB l) ((i:Int),s)=some (.inl s'))\/(run (l.drop i) s=none/\ay (rpB l) ((i:Int),s)=some (.inr (zG,5)))
 | 0,i,s,hn,hi,hI,hd=>by
   obtain rfl:i=l.length:=by omega
   refine .inl ⟨s,by rw [List.drop_length];rfl,hI,hd,?_⟩;rw [fG];obtain ⟨op,dn,la,no⟩:=s;have e:rpB l (((l.length:Nat):Int),(op,(dn,(la,no))))=some (.inr (.inl (op,(dn,(la,no))))):=by
    unfold rpB;simp (disch:=(first | omega | (simp only [bM];omega))) only [↓aF,aG,if_pos,if_neg,decide_true,Bool.and_self]
   rw [e]
 | n+1,i,s,hn,hi,hI,hd=>by
   have hlt:i<l.length:=by omega
   have hdr:l.drop i=l.getD i (0,[])::l.drop (i+1):=by
    rw [List.drop_eq_getElem_cons hlt,List.getD_eq_getElem?_getD,List.getElem?_eq_getElem hlt];rfl
   rw [hdr,run_bind,fG];obtain ⟨op,dn,la,no⟩:=s;rcases aii hlt hl hb op dn la no hI hd with ⟨s',h1,h2,h3,h4⟩ | ⟨h1,h4⟩
   ·rw [h1,h4];exact ZC hl hb n (i+1) s' (by omega) (by omega) h2 h3
   ·rw [h1,h4];exact .inr ⟨rfl,rfl⟩
theorem aqn {δ:Type} (op dn:List BL) (h1:op.length<=1000000) (h2:dn.length<=1000000):ay (caB (δ:=δ) op dn) (0,0)=some (.inl (((op.length+dn.length:Nat):Int))):=by
 have e0:caB (δ:=δ) op dn (0,0)=some (.inl (1,(op.length:Int))):=by
  unfold caB;simp (disch:=(first | omega | (simp only [bM];omega))) only [↓aF,aG,if_pos,if_neg,decide_true,Bool.and_self,aj,Int.zero_add,Int.toNat_zero,List.getElem?_cons_zero]
 have e1:caB (δ:=δ) op dn (1,(op.length:Int))=some (.inl (2,((op.length+dn.length:Nat):Int))):=by
  unfold caB;simp (disch:=(first | omega | (simp only [bM];omega))) only [↓aF,aG,if_pos,if_neg,decide_true,Bool.and_self,aj,Int.toNat_one,List.getElem?_cons_succ,List.getElem?_cons_zero];rw [Int.natCast_add];rfl
 have e2:caB (δ:=δ) op dn (2,((op.length+dn.length:Nat):Int))=some (.inr (.inl ((op.length+dn.length:Nat):Int))):=by
  unfold caB;simp (disch:=(first | omega | (simp only [bM];omega))) only [↓aF,aG,if_pos,if_neg]
 rw [fG,e0];simp only;rw [fG,e1];simp only;rw [fG,e2]
theorem aqo {δ:Type} (op dn:List BL) (h1:op.length<=400000) (h2:dn.length<=400000):ay (cbB (δ:=δ) op dn) (0,[])=some (.inl (op++dn)):=by
 have e0:cbB (δ:=δ) op dn (0,[])=some (.inl (1,op)):=by
  unfold cbB;simp (disch:=(first | omega | (simp only [bM];omega))) only [↓aF,aG,if_pos,if_neg,decide_true,Bool.and_self,aj,Int.toNat_zero,List.getElem?_cons_zero,List.nil_append];rfl
 have e1:cbB (δ:=δ) op dn (1,op)=some (.inl (2,op++dn)):=by
  unfold cbB;simp (disch:=(first | omega | (simp only [bM];omega))) only [↓aF,aG,if_pos,if_neg,decide_true,Bool.and_self,aj,Int.toNat_one,List.getElem?_cons_succ,List.getElem?_cons_zero];rfl
 have e2:cbB (δ:=δ) op dn (2,op++dn)=some (.inr (.inl (op++dn))):=by
  unfold cbB;simp (disch:=(first | omega | (simp only [bM];omega))) only [↓aF,aG,if_pos,if_neg]
 rw [fG,e0];simp only;rw [fG,e1];simp only;rw [fG,e2]
noncomputable def cls (rs:List Ra) (fr:Int):Nat->LG->LG×Int
 | 0,g=>(g,0)
 | n+1,g=>if (sS rs fr g 0 (g.2.2.2.1.getD 0 b0).2.2.2.2.2.1 g.2.2.2.2.2).2≠0 then sS rs fr g 0 (g.2.2.2.1.getD 0 b0).2.2.2.2.2.1 g.2.2.2.2.2 else cls rs fr n (sS rs fr g 0 (g.2.2.2.1.getD 0 b0).2.2.2.2.2.1 g.2.2.2.2.2).1
def FI (n:Nat) (g:LG):Prop:=n<=g.2.2.2.1.length/\(∀i,i<n->Opb (g.2.2.2.1.getD i b0)/\(0<=(g.2.2.2.1.getD i b0).2.2.2.2.2.1/\(g.2.2.2.1.getD i b0).2.2.2.2.2.1<=1099511627776))/\g.2.2.2.1.length<=1000000/\g.1.length+1000*n<=900000/\(0<=g.2.1/\g.2.1<=(g.1.length:Int))/\0<=g.2.2.1/\(0<=g.2.2.2.2.1/\g.2.2.2.2.1<=1048576)
theorem amu (l:List BL):iE l 0=l.drop 1:=by unfold iE;rw [List.take_zero,List.nil_append]
theorem aij (rs:List Ra) (fr:Int) {n:Nat} {g:LG} (h:FI (n+1) g) (he:(sS rs fr g 0 (g.2.2.2.1.getD 0 b0).2.2.2.2.2.1 g.2.2.2.2.2).2=0):FI n (sS rs fr g 0 (g.2.2.2.1.getD 0 b0).2.2.2.2.2.1 g.2.2.2.2.2).1:=by
 obtain ⟨h1,h2,h3,h4,h5,h6,h7⟩:=h;unfold sS at he ⊢;split at he
 ·cases he
 ·rename_i hn;rw [if_neg hn];have hx:=h2 0 (Nat.succ_pos n);have hlen:(dE rs fr g.2.2.2.2.1 (g.2.2.2.1.getD 0 b0) (g.2.2.2.1.getD 0 b0).2.2.2.2.2.1).length<=240:=by
   have hl2:=hx.1.2.2;revert hl2;generalize g.2.2.2.1.getD 0 b0=y;intro hl2;unfold dE;rw [iG];simp [uZ];omega
  have hget:∀i,i<n->(Zx rs fr g.2.2.2.1 g.2.2.2.2.1 0 (g.2.2.2.1.getD 0 b0).2.2.2.2.2.1).getD i b0=g.2.2.2.1.getD (i+1) b0:=fun i hi=>by
   have e:(g.2.2.2.1.drop 1).getD i b0=g.2.2.2.1.getD (i+1) b0:=by
    rw [List.getD_eq_getElem?_getD,List.getElem?_drop,<-List.getD_eq_getElem?_getD,Nat.add_comm]
   unfold Zx;rw [amu];split
   ·rw [List.getD_eq_getElem?_getD,List.getElem?_append_left (by rw [List.length_drop];omega),<-List.getD_eq_getElem?_getD];exact e
   ·exact e
  have hbl:(Zx rs fr g.2.2.2.1 g.2.2.2.2.1 0 (g.2.2.2.1.getD 0 b0).2.2.2.2.2.1).length<=g.2.2.2.1.length/\g.2.2.2.1.length<=(Zx rs fr g.2.2.2.1 g.2.2.2.2.1 0 (g.2.2.2.1.getD 0 b0).2.2.2.2.2.1).length+1:=by
   unfold Zx;rw [amu];split
   ·rw [List.length_append,List.length_drop,List.length_singleton];omega
   ·rw [List.length_drop];omega
  have hla:0<=laF g.2.2.2.1 g.2.2.2.2.1 0/\laF g.2.2.2.1 g.2.2.2.2.1 0<=1048576:=by
   unfold laF;split
   ·rename_i ha;have:¬g.2.2.2.2.1>=1048576:=fun k=>hn (.inl ⟨ha,k⟩);omega
   ·exact h7
  refine ⟨?_,fun i hi => ?_,?_,?_,?_,?_,hla⟩
  ·show n<=(Zx rs fr g.2.2.2.1 g.2.2.2.2.1 0 (g.2.2.2.1.getD 0 b0).2.2.2.2.2.1).length;omega
  ·show Opb ((Zx rs fr g.2.2.2.1 g.2.2.2.2.1 0 (g.2.2.2.1.getD 0 b0).2.2.2.2.2.1).getD i b0)/\_<=((Zx rs fr g.2.2.2.1 g.2.2.2.2.1 0 (g.2.2.2.1.getD 0 b0).2.2.2.2.2.1).getD i b0).2.2.2.2.2.1/\((Zx rs fr g.2.2.2.1 g.2.2.2.2.1 0 (g.2.2.2.1.getD 0 b0).2.2.2.2.2.1).getD i b0).2.2.2.2.2.1<=_;rw [hget i hi];exact h2 (i+1) (by omega)
  ·show (Zx rs fr g.2.2.2.1 g.2.2.2.2.1 0 (g.2.2.2.1.getD 0 b0).2.2.2.2.2.1).length<=1000000;omega
  ·show (g.1++Jn.jR g.2.2.1 4 _).length+1000*n<=900000;rw [List.length_append,Jn.fB];omega
  ·show 0<=g.2.1/\g.2.1<=(((g.1++Jn.jR g.2.2.1 4 _).length:Nat):Int)
   rw [List.length_append];omega
  ·show 0<=g.2.2.1+1;omega
theorem Jc (rs:List Ra) (fr:Int) (op:List BL) (hop:op.length<=1000000):∀(n k:Nat) (g:LG),k+n=op.length->FI n g ->
 ay (Zb rs fr op) ((k:Int),g)=some (if (cls rs fr n g).2≠0 then .inr (cls rs fr n g) else .inl (cls rs fr n g).1)
 | 0,k,g,hk,h=>by
   rw [fG];obtain ⟨a1,a2,a3,a4,a5,a6⟩:=g;have e:Zb rs fr op ((k:Int),(a1,(a2,(a3,(a4,(a5,a6))))))=some (.inr (.inl (a1,(a2,(a3,(a4,(a5,a6))))))):=by
    unfold Zb;simp (disch:=(first | omega | (simp only [bM];omega))) only [↓aF,aG,if_neg]
   rw [e];rfl
 | n+1,k,g,hk,h=>by
   rw [fG];have hst:=aij rs fr h;obtain ⟨h1,h2,h3,h4,h5,h6,h7⟩:=h;obtain ⟨x,hx,hxb⟩:=get_at b0 (l:=g.2.2.2.1) (i:=0) (by omega);have hx2:=h2 0 (Nat.succ_pos n);have hf:=aji rs fr g (p:=0) (g.2.2.2.1.getD 0 b0).2.2.2.2.2.1 (by omega) h3 (by omega) h5 h6 h7 hx2.1 hx2.2;rw [hx] at hf hst;obtain ⟨a1,a2,a3,a4,a5,a6⟩:=g;simp only at hf hst hx hxb;have e:Zb rs fr op ((k:Int),(a1,(a2,(a3,(a4,(a5,a6))))))=some (if (sS rs fr (a1,(a2,(a3,(a4,(a5,a6))))) 0 x.2.2.2.2.2.1 a6).2≠0 then .inr (.inr (zG,(sS rs fr (a1,(a2,(a3,(a4,(a5,a6))))) 0 x.2.2.2.2.2.1 a6).2)) else .inl (((k+1:Nat):Int),(sS rs fr (a1,(a2,(a3,(a4,(a5,a6))))) 0 x.2.2.2.2.2.1 a6).1)):=by
    unfold Zb;have hxb':∀ {β:Type} (f:BL->Option β),ah a4[0]? f=f x:=fun f=>hxb f;have h1':0<a4.length:=by have:n+1<=a4.length:=h1;omega
    simp (disch:=(first | omega | (simp only [bM];omega))) only [↓aF,aG,if_pos,↓hxb'];rw [show ((0:Int))=(((0:Nat)):Int) from rfl,hf];generalize sS rs fr (a1,(a2,(a3,(a4,(a5,a6))))) 0 x.2.2.2.2.2.1 a6=r;obtain ⟨⟨r1,r2,r3,r4,r5,r6⟩,r7⟩:=r;simp only [↓aF,aG];by_cases hr:r7=0
    ·simp (disch:=(first | omega | (simp only [bM];omega))) only [↓aF,aG,hr,ne_eq,not_true_eq_false,if_false,aj];rfl
    ·simp (disch:=(first | omega | (simp only [bM];omega))) only [↓aF,aG,hr,ne_eq,not_false_iff,if_true];rfl
   rw [e];unfold cls;simp only [hx];by_cases hr:(sS rs fr (a1,(a2,(a3,(a4,(a5,a6))))) 0 x.2.2.2.2.2.1 a6).2=0
   ·simp only [hr,ne_eq,not_true_eq_false,if_false];exact Jc rs fr op hop n (k+1) _ (by omega) (hst hr)
   ·simp only [hr,ne_eq,not_false_iff,if_true];have hz:∀r:LG×Int,r=sS rs fr (a1,(a2,(a3,(a4,(a5,a6))))) 0 x.2.2.2.2.2.1 a6->r.2≠0->r.1=zG:=fun r e hr=>by
     subst e;unfold sS at hr ⊢;split at hr
     ·rename_i hc;rw [if_pos hc]
     ·exact absurd rfl hr
    rw [<-hz _ rfl hr]
theorem aik {b:List Int} (h:Bytes b) (n:Nat):Bytes (Jn.oK b n).1.2:=by
 unfold Jn.oK;split
 ·exact fun x hx=>by cases hx
 ·split
  ·exact fun x hx=>by cases hx
  ·split
   ·exact fun x hx=>by cases hx
   ·split
    ·exact fun x hx=>h x (List.mem_of_mem_drop (List.mem_of_mem_take hx))
    ·exact fun x hx=>by cases hx
theorem ail {b:List Int} (hb:Bytes b) {r:Jn.iK×(Int×Int)} (hr:ay (Jn.pz b) ([],0)=some r):RBy r.1:=by
 have key:∀x r,yQ (Jn.pz b) x r->RBy x.1->RBy r.1:=by
  intro x r h
  induction h with
  | done hd =>
    intro hI;unfold Jn.pz at hd;split at hd
    ·split at hd
     ·cases hd;exact hI
     ·cases hd
    ·cases hd;exact hI
  | step hn _ ih =>
    intro hI;refine ih ?_;unfold Jn.pz at hn;split at hn
    ·split at hn
     ·cases hn
     ·cases hn;intro y hy;rcases List.mem_append.1 hy with hy | hy
      ·exact hI y hy
      ·rw [List.mem_singleton.1 hy];exact aik (fun z hz=>hb z (List.mem_of_mem_drop hz)) _
    ·cases hn
 exact key _ _ (oZ.1 hr) (fun x hx=>by cases hx)
noncomputable def amv (b:List Int) (rs:List Ra) (fr now:Int) (l:Jn.iK) (n:Int):LG×Int :=
 bif tf (Rt.TV rs fr/\0<=now/\now<=1099511627776) then
  (match run l s0 with
  | none=>(zG,5)
  | some s=>if now<s.2.2.2 then (zG,9) else cls rs fr s.1.length (b.take n.toNat,(n,((l.length:Int),(s.1++s.2.1,(s.2.2.1,now))))))
 else (zG,2)
theorem amw {now:Int} {b:BL} (h:BK now b) (h0:b.2.2.2.2.2.2.1=0) (hn:now<=1099511627776):Opb b/\(0<=b.2.2.2.2.2.1/\b.2.2.2.2.2.1<=1099511627776):=by
 obtain ⟨x1,x2,x3,x4,x5⟩:=h;rcases x5 with q | q
 ·exact ⟨⟨⟨q.1,q.2.1,q.2.2.1⟩,x3.elim .inl (fun k => .inr (by omega)),x1.2.1⟩,by omega,by omega⟩
 ·exact absurd h0 q.1
theorem amx {s:ST} (h:INV s) (hd:s.2.1.length<=400000) {B:List Int} {sy c now:Int} (hB:B.length<=600000) (hs:0<=sy/\sy<=(B.length:Int)) (hc:0<=c):FI s.1.length (B,(sy,(c,(s.1++s.2.1,(s.2.2.1,now))))):=by
 obtain ⟨i1,i2,i3,i4,i5,i6,i7⟩:=h;refine ⟨?_,fun i hi => ?_,?_,?_,hs,hc,?_⟩
 ·show s.1.length<=(s.1++s.2.1).length;rw [List.length_append];omega
 ·show Opb ((s.1++s.2.1).getD i b0)/\0<=((s.1++s.2.1).getD i b0).2.2.2.2.2.1/\((s.1++s.2.1).getD i b0).2.2.2.2.2.1<=1099511627776;rw [List.getD_eq_getElem?_getD,List.getElem?_append_left hi,<-List.getD_eq_getElem?_getD];have:=i1 _ (iT hi);exact amw this.1 this.2 i6.2
 ·show (s.1++s.2.1).length<=1000000;rw [List.length_append];omega
 ·show B.length+1000*s.1.length<=900000;omega
 ·show 0<=s.2.2.1/\s.2.2.1<=1048576;omega
theorem abG (b:List Int) (rs:List Ra) (fr now:Int) (hb:Bytes b) (hl:b.length<=600000) {l:Jn.iK} {n e:Int} (hr:ay (Jn.pz b) ([],0)=some (l,(n,e))) :
 jZ (b,((rs,fr),now))=some (amv b rs fr now l n):=by
 obtain ⟨o1,o2,o3⟩:=Jn.UU hr;simp only at o1 o2 o3;have hby:RBy l:=ail hb hr;have hj:=Jn.abx b hb (by omega) hr;rw [ams];unfold amv;by_cases ht:Rt.TV rs fr
 ·by_cases hn:0<=now/\now<=1099511627776
  ·rw [dM ⟨ht,hn⟩,cond_true];have hR:∀ {β:Type} (f:Bool->Option β),ah (aV (rs,fr)) f=f true:=fun f=>by rw [Rt.jA ht];rfl
   simp only [↓aF,aG,↓hR,↓jB,hn,and_self,decide_true];rw [hj];simp only [↓aF,aG];rcases ZC (l:=l) (by omega) hby l.length 0 s0 (by omega) (Nat.zero_le _) inv0 (Nat.zero_le _) with ⟨s,h1,h2,h3,h4⟩ | ⟨h1,h4⟩
   ·rw [List.drop_zero] at h1;have h4':ay (rpB l) (0,([],([],(0,0))))=some (.inl s):=h4;rw [h1,h4'];have hfi:=amx h2 (show s.2.1.length<=400000 by omega) (B:=b.take n.toNat) (sy:=n) (c:=(l.length:Int)) (now:=now) (by rw [List.length_take];omega) (by rw [List.length_take];omega) (by omega);have h256:=h2.2.2.1;obtain ⟨op,dn,la,no⟩:=s;simp only at h3 hfi h256;simp only [↓aF,aG];by_cases hw:now<no
    ·simp only [hw,↓aF,aG,if_true];rfl
    ·have hg:∀ {β:Type} (f:List BL->Option β),ah (Ih ((((op.length+dn.length:Nat)):Int))) f=f []:=fun f=>by
      unfold Ih;rw [decide_eq_true (show (0:Int)<=((op.length+dn.length:Nat):Int)/\((op.length+dn.length:Nat):Int)<=1000000 by omega)];rfl
     have hca:∀ {δ:Type},ay (caB (δ:=δ) op dn) (0,0)=_:=fun {δ}=>aqn op dn (by omega) (by omega);have hcb:∀ {δ:Type},ay (cbB (δ:=δ) op dn) (0,[])=_:=fun {δ}=>aqo op dn (by omega) (by omega);have hlp:=Jc rs fr op (by omega) op.length 0 _ (by omega) hfi;simp only [hw,↓aF,aG,if_false,decide_true,Bool.and_self,↓hca,↓hg,List.length_nil,List.take_nil,↓hcb];rw [show ((0:Int))=(((0:Nat)):Int) from rfl,hlp];generalize cls rs fr op.length _=r;obtain ⟨⟨r1,r2,r3,r4,r5,r6⟩,r7⟩:=r;by_cases hz:r7=0
     ·subst hz;rfl
     ·simp only [ne_eq,hz,not_false_iff,if_true];rfl
   ·rw [List.drop_zero] at h1;have h4':ay (rpB l) (0,([],([],(0,0))))=some (.inr (zG,5)):=h4;rw [h1,h4'];rfl
  ·rw [jL (fun k=>hn k.2),cond_false];have hR:∀ {β:Type} (f:Bool->Option β),ah (aV (rs,fr)) f=f true:=fun f=>by rw [Rt.jA ht];rfl
   simp only [↓aF,aG,↓hR,↓jB,hn,decide_false];rfl
 ·rw [jL (fun k=>ht k.1),cond_false];have hR:∀ {β:Type} (f:Bool->Option β),ah (aV (rs,fr)) f=f false:=fun f=>by rw [Rt.Af ht];rfl
  simp only [↓aF,aG,↓hR];rfl
def DZ (dn:List BL):Prop:=∀b∈dn,b.2.2.2.2.2.2.1≠0
theorem INV.dz {s:ST} (h:INV s):DZ s.2.1:=fun b hb=>by
 obtain ⟨i,hi,e⟩:=List.mem_iff_getElem.1 hb;have h5:=(h.2.2.2.2.1 i hi).2;rw [List.getD_eq_getElem?_getD,List.getElem?_eq_getElem hi,e] at h5;replace h5:b.2.2.2.2.2.2.1=(i:Int)+1:=h5;omega
theorem amy (c:Tx):∀ {dn:List BL},DZ dn->gZ c dn=0
 | [],_=>rfl
 | b::l,h=>by rw [gZ,if_neg (fun k=>h b (by simp) k.1)]
theorem amA:∀ {dn:List BL},DZ dn->opn dn=0
 | [],_=>rfl
 | b::l,h=>by rw [opn,if_neg (h b (by simp))]
theorem RH {dn:List BL} (hd:DZ dn):∀ {op:List BL},AZ op->opn (op++dn)=op.length
 | [],_=>by rw [List.nil_append,amA hd];rfl
 | b::l,h=>by rw [List.cons_append,opn,if_pos (h b (by simp)),RH hd (fun x hx=>h x (by simp [hx]))];rfl
theorem GN (c:Tx) {dn:List BL} (hd:DZ dn):∀(op:List BL),gZ c (op++dn)=gZ c op
 | []=>by rw [List.nil_append,amy c hd];rfl
 | b::l=>by rw [List.cons_append,gZ,gZ,GN c hd l]
theorem RJ (c:Tx) {op dn:List BL} (ha:AZ op) (hd:DZ dn):Di c (op++dn)↔Di c op:=by
 unfold Di;rw [GN c hd,RH hd ha,ha.opn];constructor
 ·rintro ⟨h1,h2⟩;rw [jr h1] at h2;exact ⟨h1,h2⟩
 ·rintro ⟨h1,h2⟩;rw [jr h1];exact ⟨h1,h2⟩
theorem ain {op dn:List BL} (b:BL) (ha:AZ op) (hd:DZ dn):Ai (op++dn) b=Ai op b++dn:=by
 have h1:=wJ b.1 op;have h2:=ha.opn;unfold Ai;rw [GN b.1 hd,List.take_append_of_le_length (by omega),List.drop_append_of_le_length (by omega),List.append_assoc,List.append_assoc,List.append_assoc]
theorem amB {op dn:List BL} {p:Nat} (x:BL) (h:p<op.length):(op++dn).set p x=op.set p x++dn:=by
 rw [List.set_append,if_pos h]
theorem amC {op dn:List BL} {p:Nat} (h:p<op.length):iE (op++dn) p=iE op p++dn:=by
 unfold iE;rw [List.take_append_of_le_length (by omega),List.drop_append_of_le_length (by omega),List.append_assoc]
def ug (x:BL):BL:=(x.1,(x.2.1,(x.2.2.1,(x.2.2.2.1,(x.2.2.2.2.1,(x.2.2.2.2.2.1,(x.2.2.2.2.2.2.1,(x.2.2.2.2.2.2.2.1,(x.2.2.2.2.2.2.2.2.1,false)))))))))
def Sj (x y:BL):Prop:=y.1=x.1/\y.2.2.2.1=x.2.2.2.1/\y.2.2.2.2.1=x.2.2.2.2.1/\x.2.2.2.2.2.1<=y.2.2.2.2.2.1
theorem Sj.rfl (x:BL):Sj x x:=⟨Eq.refl _,Eq.refl _,Eq.refl _,Int.le_refl _⟩
theorem Sj.trans {x y z:BL} (h:Sj x y) (k:Sj y z):Sj x z:=⟨k.1.trans h.1,k.2.1.trans h.2.1,k.2.2.1.trans h.2.2.1,Int.le_trans h.2.2.2 k.2.2.2⟩
structure Lat (s t:ST):Prop where
 len:s.2.1.length<=t.2.1.length
 same:∀i,i<s.2.1.length->ug (t.2.1.getD i b0)=ug (s.2.1.getD i b0)
 aft:∀x∈s.1++s.2.1,0<=x.2.2.2.2.1->∃y∈t.1++t.2.1,Sj x y
 tm:s.2.2.2<=t.2.2.2
theorem Lat.refl (s:ST):Lat s s:=⟨Nat.le_refl _,fun _ _=>Eq.refl _,fun x hx _=>⟨x,hx,Sj.rfl x⟩,Int.le_refl _⟩
theorem Lat.trans {s t u:ST} (h:Lat s t) (k:Lat t u):Lat s u:=⟨Nat.le_trans h.len k.len,fun i hi=>(k.same i (Nat.lt_of_lt_of_le hi h.len)).trans (h.same i hi),fun x hx h0=>by
 obtain ⟨y,hy,h1⟩:=h.aft x hx h0;obtain ⟨z,hz,h2⟩:=k.aft y hy (by rw [h1.2.2.1];exact h0);exact ⟨z,hz,h1.trans h2⟩,Int.le_trans h.tm k.tm⟩
theorem Bv {l:List BL} {i:Nat} (hi:i<l.length):l.getD i b0=l[i]:=by rw [List.getD_eq_getElem?_getD,List.getElem?_eq_getElem hi];rfl
theorem PO {l:List BL} {i j:Nat} {x:BL} (hj:j<l.length):(l.set i x).getD j b0=if i=j then x else l.getD j b0:=by
 rw [Bv (by rw [List.length_set];exact hj),List.getElem_set,Bv hj]
theorem Nj {l:List BL} {p:Nat} {v x:BL} (hp:p<l.length) (hx:x∈l):x∈l.set p v\/x=l.getD p b0:=by
 obtain ⟨i,hi,e⟩:=List.mem_iff_getElem.1 hx;by_cases e2:p=i
 ·subst e2;exact .inr (by rw [Bv hi,e])
 ·exact .inl (List.mem_iff_getElem.2 ⟨i,by rw [List.length_set];exact hi,by rw [List.getElem_set_ne e2,e]⟩)
theorem Nk {l:List BL} {p:Nat} {v:BL} (hp:p<l.length):v∈l.set p v :=
 List.mem_iff_getElem.2 ⟨p,by rw [List.length_set];exact hp,List.getElem_set_self _⟩
theorem afb {l:List BL} {b x:BL} (h:x∈l):x∈Ai l b:=by
 unfold Ai;rw [<-List.take_append_drop (gZ b.1 l) l] at h;rcases List.mem_append.1 h with h | h
 ·exact List.mem_append.2 (.inl (List.mem_append.2 (.inl h)))
 ·exact List.mem_append.2 (.inr h)
theorem ZE {l:List BL} {p:Nat} {x:BL} (hp:p<l.length) (h:x∈l):x∈iE l p\/x=l.getD p b0:=by
 unfold iE;have e:l=l.take p++(l.getD p b0::l.drop (p+1)):=by rw [Bv hp,<-List.drop_eq_getElem_cons hp,List.take_append_drop]
 rw [e] at h;rcases List.mem_append.1 h with h | h
 ·exact .inl (List.mem_append.2 (.inl h))
 ·rcases List.mem_cons.1 h with h | h
  ·exact .inr h
  ·exact .inl (List.mem_append.2 (.inr h))
theorem aio {a:AC} {s s':ST} (h:INV s) (he:mP a s=some s'):Lat s s':=by
 obtain ⟨i1,i2,i3,i4,i5,i6,i7⟩:=h;have haz:AZ s.1:=fun b hb=>(i1 b hb).2;obtain ⟨op,dn,la,no⟩:=s;obtain ⟨k,t,n,se,co,c,f,o⟩:=a;simp only at i1 i2 i3 i4 i5 i6 i7 haz;have hm:=(Nh no t).1;have hop:=haz.opn;have hsame:∀i,i<dn.length->ug (dn.getD i b0)=ug (dn.getD i b0):=fun _ _=>rfl;unfold mP at he;simp only at he;split at he
 ·by_cases hg:OKg dn n
  ·rw [dM hg] at he;simp only [cond_true,Option.some.injEq] at he;subst he;have hg1:=hg.1;have hg2:=hg.2.1;refine ⟨by show dn.length<=(dn.set _ _).length;rw [List.length_set];exact Nat.le_refl _,fun i hi => ?_,fun x hx _ => ?_,Int.le_refl _⟩
   ·show ug ((dn.set (n-1).toNat (U6 (dn.getD (n-1).toNat b0))).getD i b0)=ug (dn.getD i b0);rw [PO hi];split
    ·rename_i e;rw [e];rfl
    ·rfl
   ·rcases List.mem_append.1 hx with hx | hx
    ·exact ⟨x,List.mem_append.2 (.inl hx),Sj.rfl x⟩
    ·have hp:(n-1).toNat<dn.length:=by omega
     rcases Nj (v:=U6 (dn.getD (n-1).toNat b0)) hp hx with h | h
     ·exact ⟨x,List.mem_append.2 (.inr h),Sj.rfl x⟩
     ·exact ⟨U6 (dn.getD (n-1).toNat b0),List.mem_append.2 (.inr (Nk hp)),by rw [h];exact ⟨rfl,rfl,rfl,Int.le_refl _⟩⟩
  ·rw [jL hg] at he;cases he
 ·split at he
  ·by_cases hg:OKb op c f o
   ·rw [dM hg] at he;simp only [cond_true,Option.some.injEq] at he;subst he;refine ⟨Nat.le_refl _,hsame,fun x hx _=>⟨x,?_,Sj.rfl x⟩,hm⟩;rcases List.mem_append.1 hx with hx | hx
    ·exact List.mem_append.2 (.inl (afb hx))
    ·exact List.mem_append.2 (.inr hx)
   ·rw [jL hg] at he;cases he
  ·split at he
   ·by_cases hg:OKe op la t n se co c
    ·rw [dM hg] at he;simp only [cond_true,Option.some.injEq] at he;subst he;have hlt:gZ c op<op.length:=by have:=hg.1.1;omega
     obtain ⟨hF,hE,hC⟩:=hg;by_cases hz:n=0
     ·simp only [if_pos hz];have ha:(op.getD (gZ c op) b0).2.2.2.2.1 = -1:=by
       rcases hC with q | q
       ·exact q.2.2.2
       ·exact absurd hz q.1
      refine ⟨Nat.le_refl _,hsame,fun x hx h0=>⟨x,?_,Sj.rfl x⟩,hm⟩;rcases List.mem_append.1 hx with hx | hx
      ·rcases ZE hlt hx with h | h
       ·exact List.mem_append.2 (.inl h)
       ·rw [h,ha] at h0;omega
      ·exact List.mem_append.2 (.inr hx)
     ·simp only [if_neg hz];refine ⟨by show dn.length<=(dn++[_]).length;rw [List.length_append];omega,fun i hi => ?_,fun x hx h0 => ?_,hm⟩
      ·show ug ((dn++[_]).getD i b0)=ug (dn.getD i b0);rw [jr hi]
      ·rcases List.mem_append.1 hx with hx | hx
       ·rcases ZE hlt hx with h | h
        ·exact ⟨x,List.mem_append.2 (.inl h),Sj.rfl x⟩
        ·refine ⟨U1 (op.getD (gZ c op) b0) t n se co,List.mem_append.2 (.inr (List.mem_append.2 (.inr (List.mem_singleton.2 rfl)))),?_⟩;rw [h];exact ⟨rfl,rfl,rfl,hE⟩
       ·exact ⟨x,List.mem_append.2 (.inr (List.mem_append.2 (.inl hx))),Sj.rfl x⟩
    ·rw [jL hg] at he;cases he
   ·by_cases hg:OKt op k t c
    ·rw [dM hg] at he;simp only [cond_true,Option.some.injEq] at he;subst he;have hlt:gZ c op<op.length:=by have:=hg.1.1;omega
     obtain ⟨hF,hE,hC⟩:=hg;refine ⟨Nat.le_refl _,hsame,fun x hx h0 => ?_,hm⟩;rcases List.mem_append.1 hx with hx | hx
     ·rcases Nj (v:=tch k t (op.getD (gZ c op) b0)) hlt hx with h | h
      ·exact ⟨x,List.mem_append.2 (.inl h),Sj.rfl x⟩
      ·refine ⟨tch k t (op.getD (gZ c op) b0),List.mem_append.2 (.inl (Nk hlt)),?_⟩;rw [h] at h0 ⊢;refine ⟨rfl,rfl,?_,hE⟩;show (if k=2 then t else (op.getD (gZ c op) b0).2.2.2.2.1)=_;rw [if_neg];intro k2;have:=hC k2;omega
     ·exact ⟨x,List.mem_append.2 (.inr hx),Sj.rfl x⟩
    ·rw [jL hg] at he;cases he
theorem Dk:∀(A B:List (Int×List Int)) (s:ST),run (A++B) s=match run A s with | none=>none | some t=>run B t
 | [],B,s=>rfl
 | x::A,B,s=>by
   rw [List.cons_append,run_bind,run_bind x A];cases run [x] s with
   | none=>rfl
   | some t=>exact Dk A B t
theorem aip {x:Int×List Int} {s s':ST} (h:run [x] s=some s'):∃a,GH x.1 x.2=some a/\mP a s=some s':=by
 rw [vg] at h;cases hp:GH x.1 x.2 with
 | none=>rw [hp] at h;cases h
 | some a =>
   rw [hp] at h;simp only at h;cases he:mP a s with
   | none=>rw [he] at h;cases h
   | some t =>
     rw [he] at h;cases h;exact ⟨a,rfl,he⟩
theorem aiq {x:Int×List Int} {s s':ST} {a:AC} (h:GH x.1 x.2=some a) (he:mP a s=some s'):run [x] s=some s':=by
 rw [vg,h];simp only [he];rfl
theorem Va {k:Int} {d:List Int} {a:AC} (h:GH k d=some a):a.1=k:=by
 unfold GH Xo at h;split at h
 ·rename_i hk;split at h
  ·cases h;exact hk.symm
  ·cases h
 ·split at h
  ·cases h
  ·split at h
   ·rename_i hk;unfold ah7 at h;split at h
    ·cases h;exact hk.symm
    ·cases h
   ·split at h
    ·unfold ah8 at h;split at h
     ·cases h;rfl
     ·cases h
    ·split at h
     ·rename_i hk;unfold ah9 at h;split at h
      ·cases h;exact hk.symm
      ·cases h
     ·cases h
def IW (R:List (Int×List Int)):Nat:=(R.filter fun x=>decide (x.1=1)).length
def NM:List Tx:=[[99],[97],[108],[115]]
def NmR (R:List (Int×List Int)):Prop:=∀x∈R,∀a,GH x.1 x.2=some a->a.1=1->a.2.2.2.2.2.1∈NM
def GvR (R:List (Int×List Int)) (n:Int):Prop:=∃x∈R,∃a,GH x.1 x.2=some a/\a.1=5/\a.2.2.1=n
def bgA (a:AC):Nat:=if a.1=1 then 1 else 0
theorem Vb (A B:List (Int×List Int)):IW (A++B)=IW A+IW B:=by unfold IW;rw [List.filter_append,List.length_append]
theorem afc {x:Int×List Int} {a:AC} (h:GH x.1 x.2=some a):IW [x]=bgA a:=by
 have:=Va h;unfold IW bgA;rw [this];by_cases e:x.1=1
 ·simp [e]
 ·simp [e]
theorem RN (A:List (Int×List Int)):IW A<=A.length:=List.length_filter_le ..
structure RI (R:List (Int×List Int)) (s:ST):Prop where
 inv:INV s
 len:s.2.1.length<=R.length
 cnt:s.1.length+s.2.1.length<=IW R
 nm:NmR R->∀b∈s.1,b.1∈NM
 gv:∀i,i<s.2.1.length->(s.2.1.getD i b0).2.2.2.2.2.2.2.2.2=true->GvR R ((i:Int)+1)
theorem ri0:RI [] s0:=⟨inv0,Nat.le_refl _,Nat.le_refl _,fun _ b (hb:b∈([]:List BL))=>(by cases hb),fun i (hi:i<0)=>absurd hi (Nat.not_lt_zero i)⟩
theorem GvR.app {R:List (Int×List Int)} {n:Int} (h:GvR R n) (x:Int×List Int):GvR (R++[x]) n:=by
 obtain ⟨y,hy,h⟩:=h;exact ⟨y,List.mem_append.2 (.inl hy),h⟩
theorem afd {n:Int} {b:BL} (h:BK n b) (h0:b.2.2.2.2.2.2.1=0):b.2.2.2.2.2.2.2.2.2=false:=by
 rcases h.2.2.2.2 with q | q
 ·exact q.2.2.2
 ·exact absurd h0 q.1
theorem air {R:List (Int×List Int)} {s s':ST} {x:Int×List Int} {a:AC} (h:RI R s) (hl:R.length<=900000) (hb:Bytes x.2) (hp:GH x.1 x.2=some a) (he:mP a s=some s'):RI (R++[x]) s':=by
 have hlen:=h.len;have hcnt:=h.cnt;have hinv:=ZB (ae9 hb hp) h.inv (by omega) he;refine ⟨hinv.1,by rw [List.length_append];show s'.2.1.length<=R.length+1;have:=hinv.2;omega,?_,fun hn b hbm => ?_,fun i hi hgv => ?_⟩
 ·rw [Vb,afc hp];have haz:=h.inv.az;have hop:=haz.opn;obtain ⟨op,dn,la,no⟩:=s;obtain ⟨k,t,n,se,co,c,f,o⟩:=a;simp only at hlen hcnt haz hop;unfold mP at he;simp only at he;unfold bgA;show s'.1.length+s'.2.1.length<=IW R+(if k=1 then 1 else 0)
  split at he
  ·by_cases hg:OKg dn n
   ·rw [dM hg] at he;simp only [cond_true,Option.some.injEq] at he;subst he;simp only [List.length_set];omega
   ·rw [jL hg] at he;cases he
  ·split at he
   ·rename_i hk;by_cases hg:OKb op c f o
    ·rw [dM hg] at he;simp only [cond_true,Option.some.injEq] at he;subst he;rw [if_pos hk];have:=U9 op (c,(f,(o,(t,(-1,(t,(0,(0,(0,false)))))))));simp only;omega
    ·rw [jL hg] at he;cases he
   ·split at he
    ·by_cases hg:OKe op la t n se co c
     ·rw [dM hg] at he;simp only [cond_true,Option.some.injEq] at he;subst he;have hlt:gZ c op<op.length:=by have:=hg.1.1;omega
      have hrl:=Ru hlt;simp only;split
      ·omega
      ·rw [List.length_append];show (iE op (gZ c op)).length+(dn.length+1)<=_;omega
     ·rw [jL hg] at he;cases he
    ·by_cases hg:OKt op k t c
     ·rw [dM hg] at he;simp only [cond_true,Option.some.injEq] at he;subst he;simp only [List.length_set];omega
     ·rw [jL hg] at he;cases he
 ·have hn0:NmR R:=fun y hy=>hn y (List.mem_append.2 (.inl hy));have hx:=hn x (List.mem_append.2 (.inr (List.mem_singleton.2 rfl))) a hp;have hs:=h.nm hn0;have haz:=h.inv.az;have hop:=haz.opn;obtain ⟨op,dn,la,no⟩:=s;obtain ⟨k,t,n,se,co,c,f,o⟩:=a;simp only at hs hx haz hop;unfold mP at he;simp only at he;split at he
  ·by_cases hg:OKg dn n
   ·rw [dM hg] at he;simp only [cond_true,Option.some.injEq] at he;subst he;exact hs b hbm
   ·rw [jL hg] at he;cases he
  ·split at he
   ·rename_i hk;by_cases hg:OKb op c f o
    ·rw [dM hg] at he;simp only [cond_true,Option.some.injEq] at he;subst he;rcases ZA hbm with rfl | hbm
     ·exact hx hk
     ·exact hs b hbm
    ·rw [jL hg] at he;cases he
   ·split at he
    ·by_cases hg:OKe op la t n se co c
     ·rw [dM hg] at he;simp only [cond_true,Option.some.injEq] at he;subst he;refine hs b ?_;replace hbm:b∈iE op (gZ c op):=hbm;unfold iE at hbm;rcases List.mem_append.1 hbm with hb | hb
      ·exact List.mem_of_mem_take hb
      ·exact List.mem_of_mem_drop hb
     ·rw [jL hg] at he;cases he
    ·by_cases hg:OKt op k t c
     ·rw [dM hg] at he;simp only [cond_true,Option.some.injEq] at he;subst he;have hlt:gZ c op<op.length:=by have:=hg.1.1;omega
      rcases List.mem_or_eq_of_mem_set hbm with hb | rfl
      ·exact hs b hb
      ·show (op.getD (gZ c op) b0).1∈NM;exact hs (op.getD (gZ c op) b0) (iT hlt)
     ·rw [jL hg] at he;cases he
 ·have hs:=h.gv;have hi0:=h.inv.1;have haz:=h.inv.az;have hop:=haz.opn;obtain ⟨op,dn,la,no⟩:=s;obtain ⟨k,t,n,se,co,c,f,o⟩:=a;simp only at hs hi0 haz hop;unfold mP at he;simp only at he;split at he
  ·rename_i hk;by_cases hg:OKg dn n
   ·rw [dM hg] at he;simp only [cond_true,Option.some.injEq] at he;subst he;replace hi:i<(dn.set (n-1).toNat (U6 (dn.getD (n-1).toNat b0))).length:=hi;rw [List.length_set] at hi;replace hgv:((dn.set (n-1).toNat (U6 (dn.getD (n-1).toNat b0))).getD i b0).2.2.2.2.2.2.2.2.2=true:=hgv;rw [PO hi] at hgv;split at hgv
    ·rename_i e;refine ⟨x,List.mem_append.2 (.inr (List.mem_singleton.2 rfl)),_,hp,hk,?_⟩;have:=hg.1;show n=(i:Int)+1;omega
    ·exact (hs i hi hgv).app x
   ·rw [jL hg] at he;cases he
  ·split at he
   ·by_cases hg:OKb op c f o
    ·rw [dM hg] at he;simp only [cond_true,Option.some.injEq] at he;subst he;exact (hs i hi hgv).app x
    ·rw [jL hg] at he;cases he
   ·split at he
    ·by_cases hg:OKe op la t n se co c
     ·rw [dM hg] at he;simp only [cond_true,Option.some.injEq] at he;subst he;have hlt:gZ c op<op.length:=by have:=hg.1.1;omega
      have hxx:=hi0 _ (iT hlt);by_cases hz:n=0
      ·simp only [if_pos hz] at hi hgv;exact (hs i hi hgv).app x
      ·simp only [if_neg hz] at hi hgv;rw [List.length_append] at hi;replace hi:i<dn.length+1:=hi;by_cases e:i<dn.length
       ·rw [jr e] at hgv;exact (hs i e hgv).app x
       ·obtain rfl:i=dn.length:=by omega
        rw [List.getD_eq_getElem?_getD,List.getElem?_append_right (Nat.le_refl _),Nat.sub_self] at hgv;replace hgv:(op.getD (gZ c op) b0).2.2.2.2.2.2.2.2.2=true:=hgv;rw [afd hxx.1 hxx.2] at hgv;cases hgv
     ·rw [jL hg] at he;cases he
    ·by_cases hg:OKt op k t c
     ·rw [dM hg] at he;simp only [cond_true,Option.some.injEq] at he;subst he;exact (hs i hi hgv).app x
     ·rw [jL hg] at he;cases he
theorem RP:∀(B A:List (Int×List Int)) (s s':ST),RI A s->RBy B->A.length+B.length<=900000->run B s=some s'->RI (A++B) s'/\Lat s s'
 | [],A,s,s',h,_,_,hr=>by
   cases hr;rw [List.append_nil];exact ⟨h,Lat.refl _⟩
 | x::B,A,s,s',h,hb,hl,hr=>by
   rw [run_bind] at hr;rw [List.length_cons] at hl;cases h1:run [x] s with
   | none=>rw [h1] at hr;cases hr
   | some t =>
     rw [h1] at hr;obtain ⟨a,hp,he⟩:=aip h1;have hs:=air h (by omega) (hb x (by simp)) hp he;have:=RP B (A++[x]) t s' hs (fun y hy=>hb y (by simp [hy])) (by rw [List.length_append];show A.length+1+B.length<=900000;omega) hr;rw [List.append_assoc] at this;exact ⟨this.1,(aio h.inv he).trans this.2⟩
theorem Nl {R:List (Int×List Int)} {s:ST} (hb:RBy R) (hl:R.length<=900000) (h:run R s0=some s) {k:Nat} (hk:k<=R.length):∃t,run (R.take k) s0=some t/\RI (R.take k) t/\Lat t s:=by
 have h':=h;rw [<-List.take_append_drop k R,Dk] at h';cases h1:run (R.take k) s0 with
 | none=>rw [h1] at h';cases h'
 | some t =>
   rw [h1] at h';have r1:=RP (R.take k) [] s0 t ri0 (fun x hx=>hb x (List.mem_of_mem_take hx)) (by rw [List.length_take];show 0+_<=_;omega) h1;rw [List.nil_append] at r1;exact ⟨t,rfl,r1.1,(RP (R.drop k) (R.take k) t s r1.1 (fun x hx=>hb x (List.mem_of_mem_drop hx)) (by rw [List.length_take,List.length_drop];omega) h').2⟩
open Jn (be bT oG nI)
theorem RQ:∀(l:List Int) (a:Int),l.foldl (fun a x=>a*256+x) a=a*256 ^ l.length+val l
 | [],a=>by simp [val]
 | x::l,a=>by
   unfold val;rw [List.foldl_cons,List.foldl_cons,RQ l,RQ l (0*256+x),List.length_cons,Int.pow_succ,Int.add_mul,Int.zero_mul,Int.zero_add,Int.mul_assoc,Int.mul_comm 256,Int.add_assoc]
theorem afe (x:Int) (l:List Int):val (x::l)=x*256 ^ l.length+val l:=by
 show List.foldl _ (0*256+x) l=_;rw [RQ,Int.zero_mul,Int.zero_add]
theorem Xq (n:Int):∀k:Nat,val (be k n)=n % 256 ^ k
 | 0=>by show (0:Int)=n % 1;omega
 | k+1=>by
   rw [oG,afe,bT,Xq n k];have hp:(0:Int)<256 ^ k:=Int.pow_pos (by decide);have h1:=Int.mul_ediv_add_emod n (256 ^ k);have h2:=Int.mul_ediv_add_emod n (256 ^ (k+1));have h3:n / 256 ^ (k+1)=n / 256 ^ k / 256:=by rw [Int.pow_succ,Int.ediv_ediv_of_nonneg (Int.le_of_lt hp)]
   have h4:=Int.mul_ediv_add_emod (n / 256 ^ k) 256;rw [h3] at h2;rw [Int.pow_succ] at h2 ⊢;generalize n / 256 ^ k=q at *
   generalize n % 256 ^ k=r at *
   generalize (256:Int) ^ k=p at *
   generalize n % (p*256)=z at *
   generalize q / 256=u at *
   generalize q % 256=v at *
   subst h1;have:v=q-256*u:=by omega
   subst this;have e1:(q-256*u)*p=p*q-p*256*u:=by rw [Int.sub_mul,Int.mul_comm q p,Int.mul_assoc p,Int.mul_comm p (256*u)]
   rw [e1];generalize p*256*u=a at *
   generalize p*q=b at *
   omega
theorem Xr {n:Nat} {l r:List Int} (h:l.length=n):Nb n (l++r) false=(l,(r,false)):=by
 unfold Nb;rw [if_neg (by rintro (k | k);exact absurd k (by simp);rw [List.length_append] at k;omega)];rw [List.take_append_of_le_length (by omega),List.take_of_length_le (by omega),List.drop_append_of_le_length (by omega),List.drop_of_length_le (by omega),List.nil_append]
theorem Np {n:Int} (h:0<=n/\n<9223372036854775808) (r:List Int):rN (be 8 n++r,false)=(n,(r,false)):=by
 unfold rN rdN;simp only;rw [Xr (bT 8 n)];simp only [Xq];rw [show (256:Int) ^ 8=18446744073709551616 from by decide,Int.emod_eq_of_lt h.1 (by omega)]
theorem ajn:∀t:Tx,mW (txB t)=t
 | []=>rfl
 | x::t=>by
   show UInt8.ofNat ((x.toNat:Nat):Int).toNat::mW (txB t)=x::t;rw [ajn t,Int.toNat_natCast];congr 1;exact UInt8.ofNat_toNat
theorem Vd {t:Tx} (h:t.length<=1000) (r:List Int):rT (tB t++r,false)=(t,(r,false)):=by
 unfold rT rdT;simp only;unfold tB;rw [List.append_assoc,Xr (bT 2 _)];simp only [Xq];rw [show (256:Int) ^ 2=65536 from by decide,Int.emod_eq_of_lt (by omega) (by omega),Int.toNat_natCast];rw [Xr (show (txB t).length=t.length by rw [txB,List.length_map])];simp only [ajn]
theorem qQ (n:Int) (ns:List Int) (ts:List Tx):lW (n::ns) ts=be 8 n++lW ns ts:=by unfold lW;rw [List.flatMap_cons,List.append_assoc]
theorem xJ (t:Tx) (ts:List Tx):lW [] (t::ts)=tB t++lW [] ts:=by unfold lW;rw [List.flatMap_cons];rfl
theorem E8:lW [] []=[]:=rfl
abbrev TmQ (t:Int):Prop:=0<=t/\t<=1099511627776
theorem aoY {n:Int} (h:0<=n/\n<9223372036854775808):GH 5 (lW [n] [])=some (5,(0,(n,(0,(0,([],([],[]))))))):=by
 unfold GH;rw [qQ,E8,Np h];rfl
theorem aoZ {t:Int} {c f o:Tx} (ht:TmQ t) (hc:c.length<=1000) (hf:f.length<=1000) (ho:o.length<=1000):GH 1 (lW [t] [c,f,o])=some (1,(t,(0,(0,(0,(c,(f,o))))))):=by
 unfold GH;rw [qQ,Np (by omega),xJ,xJ,xJ,E8];unfold Xo;rw [if_neg (by decide),if_neg (by rintro (k | k);exact absurd k (by simp);exact absurd k (by show ¬t > _;omega)),if_pos rfl];simp only [Vd hc,Vd hf,Vd ho];rfl
theorem aff {k t:Int} {c:Tx} (hk:k=2\/k=3) (ht:TmQ t) (hc:c.length<=1000):GH k (lW [t] [c])=some (k,(t,(0,(0,(0,(c,([],[]))))))):=by
 unfold GH;rw [qQ,Np (by omega),xJ,E8];unfold Xo;rw [if_neg (by omega),if_neg (by rintro (k | k);exact absurd k (by simp);exact absurd k (by show ¬t > _;omega)),if_neg (by omega),if_pos hk];simp only [Vd hc];rfl
theorem ajo {t n s co:Int} {c:Tx} (ht:TmQ t) (hn:0<=n/\n<9223372036854775808) (hs:0<=s/\s<9223372036854775808) (hco:0<=co/\co<9223372036854775808) (hc:c.length<=1000):GH 4 (lW [t,n,s,co] [c])=some (4,(t,(n,(s,(co,(c,([],[]))))))):=by
 unfold GH;rw [qQ,Np (by omega),qQ,qQ,qQ,xJ,E8];unfold Xo;rw [if_neg (by decide),if_neg (by rintro (k | k);exact absurd k (by simp);exact absurd k (by show ¬t > _;omega)),if_neg (by decide),if_neg (by decide),if_pos rfl];simp only [Np hn,Np hs,Np hco,Vd hc];rfl
end Go.Proofs.Ytkpijdndakljjaa
