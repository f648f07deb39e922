import Derived.Test.YtkpijdndakljjaaJ10p
set_option linter.unusedSimpArgs false
set_option linter.unusedVariables false
set_option maxRecDepth 100000
set_option maxHeartbeats 4000000
namespace Go.Proofs.Ytkpijdndakljjaa
open Go.RowKit
def Opn (op:List BL):Prop:=opn op=op.length/\Srt op/\op.length<=1000000
theorem afs {β:Type} {op:List BL} (c:Tx) (h:Opn op) (f:Int×Bool->Option β):ah (jc (op,c)) f=f (((gZ c op:Nat):Int),tf (Cb c op)):=by
 obtain ⟨ha,hs,hl⟩:=h;have hp:=wQ c op;have e:=ZE op c hl (p:=gZ c op) (by omega) (fun m hm=>Jq hs (by omega));rw [e,show tf (Cb c op)=decide (gZ c op<op.length/\(op.getD (gZ c op) b0).1=c) from ?_]
 ·rfl
 ·by_cases hF:Cb c op
  ·rw [dL hF,decide_eq_true (show _/\_ from ⟨by have:=hF.1;omega,hF.2⟩)]
  ·rw [jP hF,decide_eq_false (fun k=>hF ⟨by omega,k.2⟩)]
def OKg (dn:List BL) (n:Int):Prop:=1<=n/\n<=(dn.length:Int)/\(dn.getD (n-1).toNat b0).2.2.2.2.2.2.2.2.2=false
theorem apv (op dn:List BL) (la no n:Int) (hn:0<=n/\n<18446744073709551616) (hl:dn.length<=1000000) :
 (OKg dn n/\GV (n,(op,(dn,(la,no))))=some (true,dn.set (n-1).toNat (SB (dn.getD (n-1).toNat b0))))\/(¬OKg dn n/\GV (n,(op,(dn,(la,no))))=some (false,dn)):=by
 have hw:∀x:Int,0<=x->x<18446744073709551616->IntKind.wrap .u64 x=x:=fun x a b=>by rw [Dq];omega
 unfold GV;by_cases h1:1<=n
 ·by_cases h2:n<=(dn.length:Int)
  ·obtain ⟨x,hx,hxb⟩:=get_at b0 (l:=dn) (i:=(n-1).toNat) (by omega);have hq:((((n-1).toNat:Nat)):Int)=n-1:=by omega
   rw [hq] at hxb;simp (disch:=(first | omega | (simp only [bJ];omega))) only [↓aF,aG,if_pos,if_neg,hw (n-1) (by omega) (by omega),hw (dn.length:Int) (by omega) (by omega),↓hxb];unfold OKg;rw [hx];cases hg:x.2.2.2.2.2.2.2.2.2
   ·refine .inl ⟨⟨h1,h2,rfl⟩,?_⟩;simp (disch:=(first | omega | (simp only [bJ];omega))) only [↓aF,aG,if_pos,if_neg];rfl
   ·refine .inr ⟨fun k=>(by cases k.2.2),?_⟩;simp only [↓aF,aG]
  ·refine .inr ⟨fun k=>h2 k.2.1,?_⟩;simp (disch:=(first | omega | (simp only [bJ];omega))) only [↓aF,aG,if_pos,if_neg,hw (dn.length:Int) (by omega) (by omega)]
 ·refine .inr ⟨fun k=>h1 k.1,?_⟩;simp (disch:=(first | omega | (simp only [bJ];omega))) only [↓aF,aG,if_pos,if_neg]
abbrev ST:=List BL×(List BL×(Int×Int))
def OKb (op:List BL) (c f to:Tx):Prop:=¬Cb c op/\op.length<256/\(1<=c.length/\c.length<=200)/\f.length<=200/\to.length<=200
theorem apw (op dn:List BL) (la no t:Int) (c f to:Tx) (h:Opn op) :
 (OKb op c f to/\BH (t,(c,(f,(to,(op,(dn,(la,no)))))))=some (true,(Aw op (c,(f,(to,(t,(-1,(t,(0,(0,(0,false))))))))),(dn,(la,no))))) \/
 (¬OKb op c f to/\BH (t,(c,(f,(to,(op,(dn,(la,no)))))))=some (false,(op,(dn,(la,no))))):=by
 have hp:=wQ c op;have ha:=h.1;unfold BH;simp only [↓aF,aG,decide_true,↓afs c h];by_cases h1:Cb c op
 ·refine .inr ⟨fun k=>k.1 h1,?_⟩;rw [dL h1];simp only [↓aF,aG,decide_true,Bool.and_true]
 ·rw [jP h1];by_cases h2:op.length<256
  ·by_cases h3:1<=c.length/\c.length<=200
   ·by_cases h4:f.length<=200
    ·by_cases h5:to.length<=200
     ·refine .inl ⟨⟨h1,h2,h3,h4,h5⟩,?_⟩;simp (disch:=(first | omega | (simp only [bJ];omega))) only [↓aF,aG,if_pos,if_neg,↓jC,decide_true,Bool.and_true,↓ZH,↓ajO h.2.2 (show gZ c op<=op.length by omega)];rfl
     ·refine .inr ⟨fun k=>h5 k.2.2.2.2,?_⟩;simp (disch:=(first | omega | (simp only [bJ];omega))) only [↓aF,aG,if_pos,if_neg,↓jC,decide_true,Bool.and_true]
    ·refine .inr ⟨fun k=>h4 k.2.2.2.1,?_⟩;simp (disch:=(first | omega | (simp only [bJ];omega))) only [↓aF,aG,if_pos,if_neg,↓jC,decide_true,Bool.and_true]
   ·refine .inr ⟨fun k=>h3 k.2.2.1,?_⟩;simp (disch:=(first | omega | (simp only [bJ];omega))) only [↓aF,aG,if_pos,if_neg,↓jC,decide_true,Bool.and_true]
  ·refine .inr ⟨fun k=>h2 k.2.1,?_⟩;simp (disch:=(first | omega | (simp only [bJ];omega))) only [↓aF,aG,if_pos,if_neg,decide_true,Bool.and_true]
end Go.Proofs.Ytkpijdndakljjaa
