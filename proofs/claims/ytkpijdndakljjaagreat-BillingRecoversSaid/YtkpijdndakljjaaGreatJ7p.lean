import Derived.Test.YtkpijdndakljjaaGreatG6p
import Derived.Test.YtkpijdndakljjaaGreatY3p
set_option linter.unusedSimpArgs false
set_option linter.unusedVariables false
namespace Go.Proofs.YtkpijdndakljjaaGreat.Jn
open Go.RowKit
abbrev Ai:=List (Int×List Int)
noncomputable def mM (b:List Int) (x:Ai×Int):Option ((Ai×Int) ⊕ (Ai×(Int×Int))) :=
 if x.2<(b.length:Int) then
 if (oh (b.drop x.2.toNat) x.1.length).2.2≠0 then some (.inr (x.1,(x.2,(oh (b.drop x.2.toNat) x.1.length).2.2)))
 else some (.inl (x.1++[(oh (b.drop x.2.toNat) x.1.length).1],x.2+(oh (b.drop x.2.toNat) x.1.length).2.1))
 else some (.inr (x.1,(x.2,0)))
def O8 (b:List Int) (x:Ai×Int):Prop:=0<=x.2/\x.2<=(b.length:Int)/\14*(x.1.length:Int)<=x.2
theorem LK (b:List Int) (n:Nat):(oh b n).2.2≠0/\(oh b n).2.1=0\/((oh b n).2.2=0/\(oh b n).2.1=((14+szB b:Nat):Int)/\14+szB b<=b.length/\¬(n>=1048576\/Wrong b n)):=by
 by_cases h:n>=1048576\/Wrong b n
 ·rw [yG h];exact .inl ⟨by decide,rfl⟩
 by_cases k:b.length<14+szB b
 ·rw [uY h k];exact .inl ⟨by decide,rfl⟩
 by_cases c:be 4 (crc (b.take (10+szB b)))=(b.drop (10+szB b)).take 4
 ·rw [QJ h k c];exact .inr ⟨rfl,rfl,by omega,h⟩
 ·rw [Dj h k c];exact .inl ⟨by decide,rfl⟩
theorem yH {b:List Int} {x:Ai×Int} (h:O8 b x) (hlt:x.2<(b.length:Int)) (he:(oh (b.drop x.2.toNat) x.1.length).2.2=0):O8 b (x.1++[(oh (b.drop x.2.toNat) x.1.length).1],x.2+(oh (b.drop x.2.toNat) x.1.length).2.1)/\x.2+14<=x.2+(oh (b.drop x.2.toNat) x.1.length).2.1:=by
 obtain ⟨h1,h2,h3⟩:=h;rcases LK (b.drop x.2.toNat) x.1.length with ⟨q,_⟩ | ⟨_,q2,q3,_⟩
 ·exact (q he).elim
 ·rw [List.length_drop] at q3;refine ⟨⟨?_,?_,?_⟩,?_⟩
  ·show 0<=x.2+_;omega
  ·show x.2+_<=_;omega
  ·show 14*((x.1++[_]).length:Int)<=x.2+_;rw [List.length_append,List.length_singleton];omega
  ·omega
theorem aaZ (b:List Int):∃r,aA (mM b) ([],0)=some r:=by
 refine V5 (O8 b) (fun x=>((b.length:Int)-x.2).toNat) ?_ ⟨by show (0:Int)<=0;omega,by show (0:Int)<=_;omega,by show (14*((0:Nat):Int))<=0;omega⟩;intro x hx;unfold mM;by_cases hlt:x.2<(b.length:Int)
 ·rw [if_pos hlt];by_cases he:(oh (b.drop x.2.toNat) x.1.length).2.2≠0
  ·rw [if_pos he];exact .inl ⟨_,rfl⟩
  ·rw [if_neg he];obtain ⟨k1,k2⟩:=yH hx hlt (Decidable.not_not.1 he);refine .inr ⟨_,rfl,k1,?_⟩;have:=k1.2.1;simp only at this ⊢;omega
 ·rw [if_neg hlt];exact .inl ⟨_,rfl⟩
theorem xJ {b:List Int} {r:Ai×(Int×Int)} (hr:aA (mM b) ([],0)=some r):0<=r.2.1/\r.2.1<=(b.length:Int)/\14*(r.1.length:Int)<=r.2.1:=by
 have key:∀x r,xq (mM b) x r->O8 b x->0<=r.2.1/\r.2.1<=(b.length:Int)/\14*(r.1.length:Int)<=r.2.1:=by
  intro x r h
  induction h with
  | done hd =>
    intro hI;unfold mM at hd;split at hd
    ·split at hd
     ·cases hd;exact hI
     ·cases hd
    ·cases hd;exact hI
  | step hd _ ih =>
    intro hI;refine ih ?_;unfold mM at hd;split at hd
    ·rename_i hlt;split at hd
     ·cases hd
     ·rename_i he;cases hd;exact (yH hI hlt (Decidable.not_not.1 he)).1
    ·cases hd
 exact key _ _ (nH.1 hr) ⟨by show (0:Int)<=0;omega,by show (0:Int)<=_;omega,by show (14*((0:Nat):Int))<=0;omega⟩
theorem ahq (C:Int) (i:Nat) (hi:i<[(C,(4:Int))].length):1<=[(C,(4:Int))][i].2/\[(C,(4:Int))][i].2<=4:=by
 have h1:i<1:=hi;have h0:i=0:=by omega
 subst h0;exact ⟨by simp,by simp⟩
set_option maxHeartbeats 4000000 in
theorem alO (b:List Int) (hb:Bytes b) (hl:b.length<=1000000) {r:Ai×(Int×Int)} (hr:aA (mM b) ([],0)=some r):pW b=some r:=by
 unfold pW;simp only [ay,aI,aF,aG,aJ,aO,aP,aK,List.take_length,Nat.le_refl,if_true,Nat.mul_one,Int.mul_one,cond_true,cond_false,ED];refine V3 (fun x y=>x=(y.1,(b,y.2))/\O8 b y) ?_ (x:=([],(b,0))) ⟨rfl,by show (0:Int)<=0;omega,by show (0:Int)<=_;omega,by show (14*((0:Nat):Int))<=0;omega⟩ hr;rintro x y ⟨rfl,hI⟩;obtain ⟨i1,i2,i3⟩:=hI;unfold mM;by_cases hlt:y.2<(b.length:Int)
 ·have hrest:List.take ((b.length:Int).toNat-y.2.toNat) (b.drop y.2.toNat)=b.drop y.2.toNat:=by
   rw [List.take_of_length_le];rw [List.length_drop];omega
  simp only;rw [if_pos hlt,if_pos hlt,if_neg (by omega)];rw [hrest];have hnext:=yH ⟨i1,i2,i3⟩ hlt;generalize hB:b.drop y.2.toNat=B at *
  have hBb:Bytes B:=by rw [<-hB];exact hb.drop _
  have hBl:(B.length:Int)=(b.length:Int)-y.2:=by rw [<-hB,List.length_drop];omega
  refine Df.join ((oh B y.1.length).1,((oh B y.1.length).2.2,(b,y.2+(oh B y.1.length).2.1))) ?_ ?_
  ·rw [if_pos (by omega)];have hn:y.1.length<1048576:=by omega
   generalize hN:y.1.length=n at *
   obtain ⟨r,hr',hrw⟩:=aes B n hBb (by omega) (by omega);refine iq hr' ?_;by_cases hw:Wrong B n
   ·rw [hrw.2 hw,yG (.inr hw),Int.add_zero];rfl
   have hrt:r=true:=by cases r with | true=>rfl | false=>exact (hw (hrw.1 rfl)).elim
   have hnw:¬(n>=1048576\/Wrong B n):=by rintro (h | h);omega;exact hw h
   rw [hrt];simp only [Bool.not_true,cond_false];by_cases h10:B.length<10
   ·rw [if_pos (by omega),uY hnw (by omega),Int.add_zero]
   rw [if_neg (by omega)];have hsz:=aiL hBb hw (by omega);have hs:=QH hBb;have x6:=hBb.getD 6;have x7:=hBb.getD 7;have g6:B[6]? = some (B.getD 6 0):=qN 0 (by omega);have g7:B[7]? = some (B.getD 7 0):=qN 0 (by omega);have g1:B[1]? = some (B.getD 1 0):=qN 0 (by omega);rw [if_pos (by omega),g6,ay,if_pos (by omega),g7,ay,KG x6 x7,<-hs,aj (n:=10+((szB B:Nat):Int)) (by omega),aj (n:=10+((szB B:Nat):Int)+4) (by omega)];by_cases hlen:B.length<14+szB B
   ·rw [if_pos (by omega),uY hnw hlen,Int.add_zero]
   rw [if_neg (by omega),if_pos (by omega),show (10+((szB B:Nat):Int)).toNat=10+szB B from by omega];refine iq (YD _ (hBb.take _) (by rw [List.length_take];omega)) ?_;have hcb:=QF (B.take (10+szB B));generalize hC:crc (B.take (10+szB B))=C at *
   have hf:xI [(C,4)]=be 4 C:=by simp only [xI,List.flatMap_cons,List.flatMap_nil,List.append_nil];rfl
   refine jU (a:=be 4 C) (jU (a:=be 4 C) ?_ rfl) ?_
   ·have hloop:=fun β body h=>Iu (β:=β) (body:=body) [(C,4)] 1 rfl (ahq C) (by rw [hf,dA];omega) (by simp) [] (by simp) h;rw [hf,List.nil_append] at hloop;exact hloop _ _ (fun _=>rfl)
   have hbl:(jS (be 4 C)).length=4:=by rw [wH,dA]
   have e1:(10+((szB B:Nat):Int)+4).toNat-(10+szB B)=4:=by omega
   rw [if_pos (by omega),e1];by_cases hc:be 4 C=(B.drop (10+szB B)).take 4
   ·rw [QJ hnw hlen (by rw [hC];exact hc)];rw [if_neg (fun h=>h (by rw [hc]))];rw [if_pos (by omega)];have e2:10+szB B-10=szB B:=by omega
    have hdl:((B.drop 10).take (szB B)).length=szB B:=by rw [List.length_take,List.length_drop];omega
    have htt:List.take (szB B) (List.take (szB B) (B.drop 10))=List.take (szB B) (B.drop 10):=List.take_of_length_le (by omega);have hlay:zM (List.replicate (szB B) (0:Int)) 0 (List.take (szB B) (B.drop 10))=List.take (szB B) (B.drop 10):=adr (by rw [hdl,List.length_replicate]);rw [if_pos (by omega),Int.toNat_natCast,e2,List.length_replicate,if_pos (Nat.le_refl _),if_pos (by omega),g1,ay,htt,hlay,if_pos (by omega),htt,aj (by omega)];rw [show y.2+(10+((szB B:Nat):Int)+4)=y.2+((14+szB B:Nat):Int) from by omega]
   ·rw [Dj hnw hlen (by rw [hC];exact hc),if_pos (fun h=>hc ((V6 (qc _ _) ((hBb.drop _).take _)).1 h)),Int.add_zero]
  ·obtain ⟨⟨⟨kd,d⟩,⟨sz,e⟩⟩,hO⟩:∃o,o=oh B y.1.length:=⟨_,rfl⟩
   rw [<-hO] at hnext ⊢;simp only at hnext ⊢;by_cases he:e≠0
   ·rw [if_pos he,if_pos he];have hz:sz=0:=by
     rcases LK B y.1.length with ⟨_,q⟩ | ⟨q,_⟩
     ·rw [<-hO] at q;exact q
     ·rw [<-hO] at q;exact (he q).elim
    refine Df.stop ?_;rw [hz,Int.add_zero];rfl
   ·rw [if_neg he,if_neg he];obtain ⟨k1,k2⟩:=hnext (Decidable.not_not.1 he);have k3:=k1.2.1;have k4:=k1.2.2;simp only at k3 k4;rw [if_pos (by omega)];exact Df.next ⟨rfl,k1⟩
 ·simp only;rw [if_neg hlt,if_neg hlt];exact Df.stop rfl
theorem LM (a b:List Int) (ha:a.length<=1000000) (hb:b.length<=1000000):jV (a,b)=some (a++b):=by
 unfold jV;simp only [ay,aI,aF,aG,aJ,aO,aP,aK,List.take_length,Nat.le_refl,if_true,Nat.mul_one,Int.mul_one,cond_true,cond_false];rw [aj (by omega),if_pos (by omega)];have e:((a.length:Int)+(b.length:Int)).toNat=a.length+b.length:=by omega
 have h1:(List.take (a.length+b.length) a)=a:=List.take_of_length_le (by omega);have h2:(List.take (a.length+b.length-a.length) b)=b:=List.take_of_length_le (by omega);have h3:zM (List.replicate (a.length+b.length) (0:Int)) 0 a=a++List.replicate b.length 0:=by
  unfold zM;rw [List.take_zero,List.nil_append,Nat.zero_add,List.drop_replicate,show a.length+b.length-a.length=b.length from by omega]
 have h4:zM (a++List.replicate b.length (0:Int)) a.length b=a++b:=by
  unfold zM;rw [List.take_left,List.drop_of_length_le (by rw [List.length_append,List.length_replicate];omega),List.append_nil]
 rw [e,Int.toNat_natCast,h1,h2,h3,h4];rw [if_pos (by rw [List.length_replicate];omega),if_pos (by omega),if_pos (by rw [List.length_append,List.length_replicate];omega),if_pos (by rw [List.length_append];omega),List.take_of_length_le (by rw [List.length_append];omega)]
theorem aev (a:List Int) (ha:a.length<=1000000):je a=some a:=by
 unfold je;simp only [ay,aI,aF,aG,aJ,aO,aP,aK,List.take_length,Nat.le_refl,if_true,Nat.mul_one,Int.mul_one,cond_true,cond_false];rw [if_pos (by omega)]
theorem aa0 (b:List Int) (hb:Bytes b) (hl:b.length<=1000000) {l:Ai} {n e:Int} (hr:aA (mM b) ([],0)=some (l,(n,e))):jv b=some ((b.take n.toNat,(n,(l.length:Int))),l):=by
 unfold jv;obtain ⟨h1,h2,h3⟩:=xJ hr;simp only at h1 h2 h3;refine iq (alO b hb hl hr) ?_;simp only [ay,aI,aF,aG,aJ,aO,aP,aK,List.take_length,Nat.le_refl,if_true,Nat.mul_one,Int.mul_one,cond_true,cond_false,ED];rw [if_pos (by omega)];refine iq (LM _ _ (by rw [List.length_take];omega) (by simp)) ?_;rw [List.append_nil]
theorem QK (a:List Int×(Int×Int)):fE (a,a)=some true:=by
 unfold fE;simp
def aiM (r:Int×List Int):Prop:=(0<=r.1/\r.1<=255)/\Bytes r.2/\r.2.length<=4096
theorem o8 (n k:Int) (d:List Int):(vH n k d).length=14+d.length:=by
 rw [vH,List.length_append,dA,o7];omega
def aox (r:Int×List Int):Prop:=(0<=r.1/\r.1<=255)/\Bytes r.2/\r.2.length<=200
theorem aox.ok {r:Int×List Int} (h:aox r):aiM r:=⟨h.1,h.2.1,by have:=h.2.2;omega⟩
theorem QL (b:List Int) (s c:Int):iH (b,(s,c))=some (decide (0<=s/\s<=(b.length:Int)/\0<=c/\c<=1048576)):=by
 unfold iH;simp only [ay,aI,aF,aG,aJ,aO,aP,aK,List.take_length,Nat.le_refl,if_true,Nat.mul_one,Int.mul_one,cond_true,cond_false];by_cases h1:s>=0
 ·by_cases h2:s<=(b.length:Int)
  ·by_cases h3:c>=0
   ·rw [if_pos h1,if_pos h2,if_pos h3];congr 1;rw [decide_eq_decide];omega
   ·rw [if_pos h1,if_pos h2,if_neg h3,decide_eq_false (by omega)]
  ·rw [if_pos h1,if_neg h2,decide_eq_false (by omega)]
 ·rw [if_neg h1,decide_eq_false (by omega)]
theorem aew (b:List Int) (s c k:Int) (d:List Int) (hb:b.length<=900000) (hs:0<=s/\s<=(b.length:Int)) (hc:0<=c/\c<1048576) (hr:aiM (k,d)):kZ ((b,(s,c)),(k,d))=some ((b++vH c k d,(s,c+1)),0):=by
 unfold kZ;refine iq (QL b s c) ?_;rw [decide_eq_true (by omega)];simp only [ay,aI,aF,aG,aJ,aO,aP,aK,List.take_length,Nat.le_refl,if_true,Nat.mul_one,Int.mul_one,cond_true,cond_false,Bool.not_true];rw [if_neg (by omega)];have he:encS c k d=(vH c k d,0):=by
  have:=hr.2.2;simp only at this;unfold encS;rw [if_neg (by omega),if_neg (by omega),if_neg (by omega)]
 refine iq ((aer c k d (by omega) hr.1 hr.2.1).trans (congrArg some he)) ?_;simp only [ne_eq,not_true_eq_false,if_false];have:=hr.2.2;simp only at this;refine iq (LM _ _ (by omega) (by rw [o8];omega)) ?_;rw [aj (by omega)]
theorem QM (b:List Int) (s c:Int) (hb:b.length<=900000) (hs:0<=s/\s<=(b.length:Int)) (hc:0<=c/\c<=1048576):kJ (b,(s,c))=some (b,((b.length:Int),c)):=by
 unfold kJ;refine iq (QL b s c) ?_;rw [decide_eq_true (by omega)];simp only [ay,aI,aF,aG,aJ,aO,aP,aK,List.take_length,Nat.le_refl,if_true,Nat.mul_one,Int.mul_one,cond_true,cond_false,Bool.not_true];refine iq (LM b [] (by omega) (by simp)) ?_;rw [List.append_nil]
end Go.Proofs.YtkpijdndakljjaaGreat.Jn

set_option maxRecDepth 100000
namespace Go.Proofs.YtkpijdndakljjaaGreat
open Go.RowKit
abbrev Tx:=List UInt8
abbrev BL:=Tx×(Tx×(Tx×(Int×(Int×(Int×(Int×(Int×(Int×Bool))))))))
abbrev LG:=List Int×(Int×(Int×(List BL×(Int×Int))))
abbrev AC:=Int×(Int×(Int×(Int×(Int×(Tx×(Tx×Tx))))))
def b0:BL:=([],([],([],(0,(0,(0,(0,(0,(0,false)))))))))
noncomputable def ocB {δ:Type} (a1:List BL):(Int)->Option ((Int) ⊕ (Int ⊕ δ)) :=
(fun v2 =>
 bif (decide (v2<(a1.length:Int))) then
 bif (decide (((0:Int)<=v2)/\(v2<(a1.length:Int)))) then
 ah a1[v2.toNat]? fun x3 =>
 bif (decide (x3.2.2.2.2.2.2.1=(0:Int))) then
 some (Sum.inl (IntKind.wrap .i64 (v2+(1:Int))))
 else
 au (some (Sum.inl v2))
 else none
 else
 au (some (Sum.inl v2)))
theorem aoz (a1:List BL):eH a1 =
 aB (aA (ocB a1) (0:Int)) fun v5 =>
 some v5:=rfl
theorem or_eq (g:LG):bW g =
 aB (aA (ocB g.2.2.2.1) (0:Int)) fun v10 =>
 some v10:=rfl
noncomputable def vaB (g:LG) (x10:Int):(Int×Int)->Option ((Int×Int) ⊕ (Unit ⊕ Bool)) :=
(fun (v11,v12) =>
 bif (decide (v11<(g.2.2.2.1.length:Int))) then
 bif (decide (((0:Int)<=v11)/\(v11<(g.2.2.2.1.length:Int)))) then
 ah g.2.2.2.1[v11.toNat]? fun x13 =>
 ah (kL (x13,g.2.2.2.2.2)) fun x14 =>
 bif (!x14) then
 au (au (some false))
 else
 bif (decide (v11<x10)) then
 bif (decide (v11 > (0:Int))) then
 ah (some (IntKind.wrap .i64 (v11-(1:Int)))) fun x15 =>
 bif (decide (((0:Int)<=x15)/\(x15<(g.2.2.2.1.length:Int)))) then
 ah g.2.2.2.1[x15.toNat]? fun x16 =>
 bif (!(Go.Op.bytesLess x16.1 x13.1)) then
 au (au (some false))
 else
 some (Sum.inl ((IntKind.wrap .i64 (v11+(1:Int))),v12))
 else none
 else
 some (Sum.inl ((IntKind.wrap .i64 (v11+(1:Int))),v12))
 else
 ah (bF (x13.2.2.2.2.2.2.1,((IntKind.wrap .i64 (v12+(1:Int))),g.2.2.2.2.1))) fun x20 =>
 bif (!x20) then
 au (au (some false))
 else
 some (Sum.inl ((IntKind.wrap .i64 (v11+(1:Int))),x13.2.2.2.2.2.2.1))
 else none
 else
 au (some (Sum.inl ())))
theorem aoA (g:LG):fC g =
 aB (ah (iH (g.1,(g.2.1,g.2.2.1))) fun x7 =>
 bif (!x7) then
 au (some false)
 else
 ah (bF (g.2.2.2.2.2,((0:Int),(1099511627776:Int)))) fun x8 =>
 bif (!x8) then
 au (some false)
 else
 ah (bF (g.2.2.2.2.1,((0:Int),(1048576:Int)))) fun x9 =>
 bif (!x9) then
 au (some false)
 else
 some (Sum.inl ())) fun _ =>
 ah (eH g.2.2.2.1) fun x10 =>
 bif (decide (x10 > (256:Int))) then
  some false
 else
  aB (aA (vaB g x10) ((0:Int),(0:Int))) fun _ =>
  some true:=rfl
noncomputable def plB {δ:Type} (a1:List BL) (a2:Tx):(Int×Int)->Option ((Int×Int) ⊕ (Int ⊕ δ)) :=
(fun (v3,v4) =>
 bif (decide (v4<v3)) then
 ah (some (Int.fdiv (IntKind.wrap .u64 (IntKind.wrap .i64 (v4+v3))) (2:Int))) fun x7 =>
 bif (decide (((0:Int)<=(IntKind.wrap .i64 x7))/\((IntKind.wrap .i64 x7)<(a1.length:Int)))) then
 ah a1[(Int.toNat (IntKind.wrap .i64 x7))]? fun x9 =>
 bif (!(!(Go.Op.bytesLess x9.1 a2))) then
 some (Sum.inl (v3,(IntKind.wrap .i64 ((IntKind.wrap .i64 x7)+(1:Int)))))
 else
 some (Sum.inl ((IntKind.wrap .i64 x7),v4))
 else none
 else
 au (some (Sum.inl v4)))
theorem aoB (a1:List BL) (a2:Tx):iY (a1,a2) =
 aB (aB (aA (plB a1 a2) ((a1.length:Int),(0:Int))) fun v11 =>
 some (Sum.inl v11)) fun v12 =>
 bif (decide (v12<(a1.length:Int))) then
  bif (decide (((0:Int)<=v12)/\(v12<(a1.length:Int)))) then
   ah a1[v12.toNat]? fun x13 =>
   some (v12,(decide (x13.1=a2)))
  else none
 else
  some (v12,false):=rfl
noncomputable def d8B {δ:Type} (x5:Int):(Int×List Int)->Option ((Int×List Int) ⊕ ((Int×(List Int×Int)) ⊕ δ)) :=
(fun (v6,v7) =>
 bif (decide (v6>=(0:Int))) then
 bif (decide ((0:Int)<=v6)) then
 ah (some (Int.fdiv (IntKind.wrap .u64 x5) ((2:Int) ^ (Min.min v6.toNat 64)))) fun x9 =>
 bif (decide (v7.length<=v7.length)) then
 bif (decide (((List.length ((v7.take v7.length)++((IntKind.wrap .u8 x9)::([]:List Int))))*1)<=140737488355328)) then
 ah (some ((v7.take v7.length)++((IntKind.wrap .u8 x9)::([]:List Int)))) fun x11 =>
 bif (decide (x11.length<=x11.length)) then
 some (Sum.inl ((IntKind.wrap .i64 (v6-(8:Int))),(x11.take x11.length)))
 else none
 else none
 else none
 else none
 else
 au (bif (decide (v7.length<=v7.length)) then
 some (Sum.inl (v6,((v7.take v7.length),x5)))
 else none))
noncomputable def dnB {δ:Type} (a1:List Int):(Int×List Int)->Option ((Int×List Int) ⊕ (List Int ⊕ δ)) :=
(fun (v3,v4) =>
 bif (decide (v3<(a1.length:Int))) then
 aB (bif (decide (((0:Int)<=v3)/\(v3<(a1.length:Int)))) then
 ah a1[v3.toNat]? fun x5 =>
 bif (decide (v4.length<=v4.length)) then
 aA (d8B x5) ((56:Int),(v4.take v4.length))
 else none
 else none) fun (v13,(v14,v15)) =>
 bif (decide (v14.length<=v14.length)) then
 some (Sum.inl ((IntKind.wrap .i64 (v3+(1:Int))),(v14.take v14.length)))
 else none
 else
 au (bif (decide (v4.length<=v4.length)) then
 some (Sum.inl (v4.take v4.length))
 else none))
noncomputable def dtB {δ:Type} (a2:List Tx):(Int×List Int)->Option ((Int×List Int) ⊕ (List Int ⊕ δ)) :=
(fun (v18,v19) =>
 bif (decide (v18<(a2.length:Int))) then
 bif (decide (((0:Int)<=v18)/\(v18<(a2.length:Int)))) then
 ah a2[v18.toNat]? fun x20 =>
 ah (some (Int.fdiv (x20.length:Int) (256:Int))) fun x21 =>
 ah (some (IntKind.wrap .u8 (x20.length:Int))) fun x23 =>
 bif (decide (v19.length<=v19.length)) then
 bif (decide (((List.length ((v19.take v19.length)++((IntKind.wrap .u8 x21)::(x23::([]:List Int)))))*1)<=140737488355328)) then
 ah (some ((v19.take v19.length)++((IntKind.wrap .u8 x21)::(x23::([]:List Int))))) fun x24 =>
 bif (decide (x24.length<=x24.length)) then
 bif (decide (((List.length ((x24.take x24.length)++(List.map (fun (x25:UInt8)=>(((UInt8.toNat x25):Nat):Int)) x20)))*1)<=140737488355328)) then
 ah (some ((x24.take x24.length)++(List.map (fun (x27:UInt8)=>(((UInt8.toNat x27):Nat):Int)) x20))) fun x26 =>
 bif (decide (x26.length<=x26.length)) then
 some (Sum.inl ((IntKind.wrap .i64 (v18+(1:Int))),(x26.take x26.length)))
 else none
 else none
 else none
 else none
 else none
 else none
 else
 au (bif (decide (v19.length<=v19.length)) then
 some (Sum.inl (v19.take v19.length))
 else none))
theorem aoC (a1:List Int) (a2:List Tx):gQ (a1,a2) =
 aB (aA (dnB a1) ((0:Int),([]:List Int))) fun v17 =>
 aB (bif (decide (v17.length<=v17.length)) then
 aA (dtB a2) ((0:Int),(v17.take v17.length))
 else none) fun v29 =>
 bif (decide (v29.length<=v29.length)) then
  some (v29.take v29.length)
 else none:=rfl
noncomputable def nuB {δ:Type}  : (Int×(Int×List Int))->Option ((Int×(Int×List Int)) ⊕ (List Int ⊕ δ)) :=
(fun (v2,(v3,v4)) =>
 bif (decide (v2>=(0:Int))) then
 bif (decide (((0:Int)<=v2)/\(v2<(8:Int)))) then
 ah v4[v2.toNat]? fun x7 =>
 some (Sum.inl ((IntKind.wrap .i64 (v2-(1:Int))),((IntKind.wrap .i64 (Int.tdiv v3 (256:Int))),(List.set v4 v2.toNat (IntKind.wrap .u8 (Int.tmod v3 (256:Int)))))))
 else none
 else
 au (some (Sum.inl v4)))
theorem aoD (a1:Int):jg a1 =
 aB (aA nuB ((7:Int),(a1,(List.replicate 8 (0:Int))))) fun v10 =>
 bif (decide (8<=v10.length)) then
  some (List.take 8 v10)
 else none:=rfl
noncomputable def drB {δ:Type} (a1:List Int):(Int×List Int)->Option ((Int×List Int) ⊕ (List Int ⊕ δ)) :=
(fun (v3,v4) =>
 bif (decide (v3<(a1.length:Int))) then
 bif (decide (((0:Int)<=v3)/\(v3<(a1.length:Int)))) then
 ah a1[v3.toNat]? fun x5 =>
 ah (jg x5) fun x6 =>
 bif (decide (v4.length<=v4.length)) then
 bif (decide (((List.length ((v4.take v4.length)++x6))*1)<=140737488355328)) then
 ah (some ((v4.take v4.length)++x6)) fun x7 =>
 bif (decide (x7.length<=x7.length)) then
 some (Sum.inl ((IntKind.wrap .i64 (v3+(1:Int))),(x7.take x7.length)))
 else none
 else none
 else none
 else none
 else
 au (bif (decide (v4.length<=v4.length)) then
 some (Sum.inl (v4.take v4.length))
 else none))
noncomputable def trB {δ:Type} (a2:List Tx):(Int×List Int)->Option ((Int×List Int) ⊕ (List Int ⊕ δ)) :=
(fun (v10,v11) =>
 bif (decide (v10<(a2.length:Int))) then
 bif (decide (((0:Int)<=v10)/\(v10<(a2.length:Int)))) then
 ah a2[v10.toNat]? fun x12 =>
 ah (some (IntKind.wrap .i64 (Int.tdiv (x12.length:Int) (256:Int)))) fun x13 =>
 bif (decide (((0:Int)<=v10)/\(v10<(a2.length:Int)))) then
 ah a2[v10.toNat]? fun x15 =>
 ah (some (Int.tmod (x15.length:Int) (256:Int))) fun x16 =>
 bif (decide (v11.length<=v11.length)) then
 bif (decide (((List.length ((v11.take v11.length)++((IntKind.wrap .u8 x13)::((IntKind.wrap .u8 x16)::([]:List Int)))))*1)<=140737488355328)) then
 ah (some ((v11.take v11.length)++((IntKind.wrap .u8 x13)::((IntKind.wrap .u8 x16)::([]:List Int))))) fun x18 =>
 bif (decide (((0:Int)<=v10)/\(v10<(a2.length:Int)))) then
 ah a2[v10.toNat]? fun x19 =>
 bif (decide (x19.length<=140737488355328)) then
 bif (decide (x18.length<=x18.length)) then
 bif (decide (((List.length ((x18.take x18.length)++(List.map (fun (x20:UInt8)=>(((UInt8.toNat x20):Nat):Int)) x19)))*1)<=140737488355328)) then
 ah (some ((x18.take x18.length)++(List.map (fun (x22:UInt8)=>(((UInt8.toNat x22):Nat):Int)) x19))) fun x21 =>
 bif (decide (x21.length<=x21.length)) then
 some (Sum.inl ((IntKind.wrap .i64 (v10+(1:Int))),(x21.take x21.length)))
 else none
 else none
 else none
 else none
 else none
 else none
 else none
 else none
 else none
 else
 au (bif (decide (v11.length<=v11.length)) then
 some (Sum.inl (v11.take v11.length))
 else none))
theorem aoE (a1:List Int) (a2:List Tx):bY (a1,a2) =
 aB (aA (drB a1) ((0:Int),([]:List Int))) fun v9 =>
 aB (bif (decide (v9.length<=v9.length)) then
 aA (trB a2) ((0:Int),(v9.take v9.length))
 else none) fun v24 =>
 bif (decide (v24.length<=v24.length)) then
  some (v24.take v24.length)
 else none:=rfl
noncomputable def fdB (g:LG) (a7:Tx):(Int)->Option ((Int) ⊕ (Unit ⊕ Int)) :=
(fun v8 =>
 ah (bW g) fun x9 =>
 bif (decide (v8<x9)) then
 bif (decide (((0:Int)<=v8)/\(v8<(g.2.2.2.1.length:Int)))) then
 ah g.2.2.2.1[v8.toNat]? fun x10 =>
 bif (decide (x10.1=a7)) then
 au (au (some v8))
 else
 some (Sum.inl (IntKind.wrap .i64 (v8+(1:Int))))
 else none
 else
 au (some (Sum.inl ())))
theorem aoG (g:LG) (a7:Tx):fQ (g,a7) =
 aB (aA (fdB g a7) (0:Int)) fun _ =>
 some (-1:Int):=rfl
noncomputable def rcB (g:LG) (a7:Int):(Int)->Option ((Int) ⊕ (Unit ⊕ Int)) :=
(fun v8 =>
 bif (decide (v8<(g.2.2.2.1.length:Int))) then
 bif (decide (a7 > (0:Int))) then
 bif (decide (((0:Int)<=v8)/\(v8<(g.2.2.2.1.length:Int)))) then
 ah g.2.2.2.1[v8.toNat]? fun x9 =>
 bif (decide (x9.2.2.2.2.2.2.1=a7)) then
 au (au (some v8))
 else
 some (Sum.inl (IntKind.wrap .i64 (v8+(1:Int))))
 else none
 else
 some (Sum.inl (IntKind.wrap .i64 (v8+(1:Int))))
 else
 au (some (Sum.inl ())))
theorem aoI (g:LG) (a7:Int):dw (g,a7) =
 aB (aA (rcB g a7) (0:Int)) fun _ =>
 some (-1:Int):=rfl
noncomputable def wiB {δ:Type} (a1:List BL) (b:BL):(Int)->Option ((Int) ⊕ (Int ⊕ δ)) :=
(fun v12 =>
 bif (decide (v12<(a1.length:Int))) then
 bif (decide (((0:Int)<=v12)/\(v12<(a1.length:Int)))) then
 ah a1[v12.toNat]? fun x13 =>
 bif (decide (x13.2.2.2.2.2.2.1=(0:Int))) then
 bif (decide (((0:Int)<=v12)/\(v12<(a1.length:Int)))) then
 ah a1[v12.toNat]? fun x14 =>
 bif (Go.Op.bytesLess x14.1 b.1) then
 some (Sum.inl (IntKind.wrap .i64 (v12+(1:Int))))
 else
 au (some (Sum.inl v12))
 else none
 else
 au (some (Sum.inl v12))
 else none
 else
 au (some (Sum.inl v12)))
theorem aoJ (a1:List BL) (b:BL):fU (a1,b) =
 aB (aA (wiB a1 b) (0:Int)) fun v16 =>
 bif (decide (((0:Int)<=v16)/\(v16<=(a1.length:Int)))) then
  ah (some (List.take v16.toNat a1)) fun x17 =>
  bif (decide ((x17.length*104)<=140737488355328)) then
   bif (decide (x17.length<=x17.length)) then
    bif (decide (((List.length ((x17.take x17.length)++(b::([]:List BL))))*104)<=140737488355328)) then
     ah (some ((x17.take x17.length)++(b::([]:List BL)))) fun x19 =>
     bif (decide (((0:Int)<=v16)/\(v16<=(a1.length:Int)))) then
      ah (some (List.drop v16.toNat a1)) fun x20 =>
      bif (decide (x19.length<=x19.length)) then
       bif (decide (((List.length ((x19.take x19.length)++x20))*104)<=140737488355328)) then
        ah (some ((x19.take x19.length)++x20)) fun x21 =>
        bif (decide (x21.length<=x21.length)) then
         some (x21.take x21.length)
        else none
       else none
      else none
     else none
    else none
   else none
  else none
 else none:=rfl
noncomputable def nxB (g:LG):(Int)->Option ((Int) ⊕ (Unit ⊕ (BL×Bool))) :=
(fun v8 =>
 bif (decide (v8<(g.2.2.2.1.length:Int))) then
 bif (decide (((0:Int)<=v8)/\(v8<(g.2.2.2.1.length:Int)))) then
 ah g.2.2.2.1[v8.toNat]? fun x9 =>
 bif (decide (x9.2.2.2.2.2.2.1≠(0:Int))) then
 bif (!x9.2.2.2.2.2.2.2.2.2) then
 au (au (some (x9,true)))
 else
 some (Sum.inl (IntKind.wrap .i64 (v8+(1:Int))))
 else
 some (Sum.inl (IntKind.wrap .i64 (v8+(1:Int))))
 else none
 else
 au (some (Sum.inl ())))
theorem aoL (g:LG):jF g =
 ah (fC g) fun x7 =>
 bif (!x7) then
  some ((([]:List UInt8),(([]:List UInt8),(([]:List UInt8),((0:Int),((0:Int),((0:Int),((0:Int),((0:Int),((0:Int),false))))))))),false)
 else
  bif (decide (g.2.1≠(g.1.length:Int))) then
   some ((([]:List UInt8),(([]:List UInt8),(([]:List UInt8),((0:Int),((0:Int),((0:Int),((0:Int),((0:Int),((0:Int),false))))))))),false)
  else
   aB (aA (nxB g) (0:Int)) fun _ =>
   some ((([]:List UInt8),(([]:List UInt8),(([]:List UInt8),((0:Int),((0:Int),((0:Int),((0:Int),((0:Int),((0:Int),false))))))))),false):=rfl
noncomputable def sbB (a1 a2:List BL):(Int)->Option ((Int) ⊕ (Unit ⊕ Bool)) :=
(fun v3 =>
 bif (decide (v3<(a1.length:Int))) then
 bif (decide (((0:Int)<=v3)/\(v3<(a1.length:Int)))) then
 ah a1[v3.toNat]? fun x4 =>
 bif (decide (((0:Int)<=v3)/\(v3<(a2.length:Int)))) then
 ah a2[v3.toNat]? fun x5 =>
 bif (!((decide (x4.1=x5.1))&&((decide (x4.2.1=x5.2.1))&&((decide (x4.2.2.1=x5.2.2.1))&&((decide (x4.2.2.2.1=x5.2.2.2.1))&&((decide (x4.2.2.2.2.1=x5.2.2.2.2.1))&&((decide (x4.2.2.2.2.2.1=x5.2.2.2.2.2.1))&&((decide (x4.2.2.2.2.2.2.1=x5.2.2.2.2.2.2.1))&&((decide (x4.2.2.2.2.2.2.2.1=x5.2.2.2.2.2.2.2.1))&&((decide (x4.2.2.2.2.2.2.2.2.1=x5.2.2.2.2.2.2.2.2.1))&&(x4.2.2.2.2.2.2.2.2.2==x5.2.2.2.2.2.2.2.2.2))))))))))) then
 au (au (some false))
 else
 some (Sum.inl (IntKind.wrap .i64 (v3+(1:Int))))
 else none
 else none
 else
 au (some (Sum.inl ())))
theorem aoM (a1 a2:List BL):iD (a1,a2) =
 bif (decide ((a1.length:Int)≠(a2.length:Int))) then
  some false
 else
  aB (aA (sbB a1 a2) (0:Int)) fun _ =>
  some true:=rfl
theorem aoN (g:LG) (a7:Tx):iZ (g,a7) =
 ah (eH g.2.2.2.1) fun x8 =>
 bif (decide (((0:Int)<=x8)/\(x8<=(g.2.2.2.1.length:Int)))) then
  ah (iY ((List.take x8.toNat g.2.2.2.1),a7)) fun (x11,x12) =>
  some (x11,x12)
 else none:=rfl
theorem aoO (g:LG) (b:BL):nZ (g,b) =
 aB (ah (fC g) fun x17 =>
 bif (!x17) then
 au (some ((([]:List Int),((0:Int),((0:Int),(([]:List BL),((0:Int),(0:Int)))))),(2:Int)))
 else
 ah (bF (b.2.2.2.1,(g.2.2.2.2.2,(1099511627776:Int)))) fun x18 =>
 bif (!x18) then
 au (some ((([]:List Int),((0:Int),((0:Int),(([]:List BL),((0:Int),(0:Int)))))),(2:Int)))
 else
 ah (bF ((b.1.length:Int),((1:Int),(200:Int)))) fun x19 =>
 bif (!x19) then
 au (some ((([]:List Int),((0:Int),((0:Int),(([]:List BL),((0:Int),(0:Int)))))),(2:Int)))
 else
 bif (decide ((b.2.1.length:Int) > (200:Int))) then
 au (some ((([]:List Int),((0:Int),((0:Int),(([]:List BL),((0:Int),(0:Int)))))),(2:Int)))
 else
 bif (decide ((b.2.2.1.length:Int) > (200:Int))) then
 au (some ((([]:List Int),((0:Int),((0:Int),(([]:List BL),((0:Int),(0:Int)))))),(2:Int)))
 else
 some (Sum.inl ())) fun _ =>
 ah (iZ (g,b.1)) fun (x21,x22) =>
 bif x22 then
  some ((([]:List Int),((0:Int),((0:Int),(([]:List BL),((0:Int),(0:Int)))))),(7:Int))
 else
  ah (eH g.2.2.2.1) fun x23 =>
  bif (decide (x23>=(256:Int))) then
   some ((([]:List Int),((0:Int),((0:Int),(([]:List BL),((0:Int),(0:Int)))))),(10:Int))
  else
   ah (gQ ((b.2.2.2.1::([]:List Int)),(b.1::(b.2.1::(b.2.2.1::([]:List (List UInt8))))))) fun x24 =>
   ah (dV ((g.1,(g.2.1,g.2.2.1)),((1:Int),x24))) fun ((x26,(x27,x28)),x29) =>
   bif (decide (x29≠(0:Int))) then
    some ((([]:List Int),((0:Int),((0:Int),(([]:List BL),((0:Int),(0:Int)))))),x29)
   else
    ah (kX g.2.2.2.1) fun x30 =>
    ah (nY (b.2.2.2.1,(b.1,(b.2.1,b.2.2.1)))) fun (x32,(x33,(x34,(x35,(x36,(x37,(x38,(x39,(x40,x41))))))))) =>
    bif ((decide (x30.length=x30.length))&&true) then
     ah (Qx (x30,(x21,((x32,(x33,(x34,(x35,(x36,(x37,(x38,(x39,(x40,x41)))))))))::([]:List BL))))) fun x42 =>
     bif (decide (x42.length<=x42.length)) then
      some ((x26,(x27,(x28,((x42.take x42.length),(g.2.2.2.2.1,b.2.2.2.1))))),(0:Int))
     else none
    else none:=rfl
theorem to_eq (g:LG) (a7:Int) (a8:Tx) (a9:Int):og (g,(a7,(a8,a9))) =
 ah (fC g) fun x10 =>
 bif (!x10) then
  some ((([]:List Int),((0:Int),((0:Int),(([]:List BL),((0:Int),(0:Int)))))),(2:Int))
 else
  ah (bF (a9,(g.2.2.2.2.2,(1099511627776:Int)))) fun x11 =>
  bif (!x11) then
   some ((([]:List Int),((0:Int),((0:Int),(([]:List BL),((0:Int),(0:Int)))))),(2:Int))
  else
   ah (iZ (g,a8)) fun (x13,x14) =>
   bif (!x14) then
    some ((([]:List Int),((0:Int),((0:Int),(([]:List BL),((0:Int),(0:Int)))))),(8:Int))
   else
    bif (decide (a7=(2:Int))) then
     bif (decide (((0:Int)<=x13)/\(x13<(g.2.2.2.1.length:Int)))) then
      ah g.2.2.2.1[x13.toNat]? fun x15 =>
      bif (decide (x15.2.2.2.2.1≠(-1:Int))) then
       some ((([]:List Int),((0:Int),((0:Int),(([]:List BL),((0:Int),(0:Int)))))),(9:Int))
      else
       ah (gQ ((a9::([]:List Int)),(a8::([]:List (List UInt8))))) fun x16 =>
       ah (dV ((g.1,(g.2.1,g.2.2.1)),(a7,x16))) fun ((x18,(x19,x20)),x21) =>
       bif (decide (x21≠(0:Int))) then
        some ((([]:List Int),((0:Int),((0:Int),(([]:List BL),((0:Int),(0:Int)))))),x21)
       else
        ah (kX g.2.2.2.1) fun x22 =>
        bif (decide (((0:Int)<=x13)/\(x13<(x22.length:Int)))) then
         ah x22[x13.toNat]? fun x23 =>
         bif (decide (a7=(2:Int))) then
          bif (decide (((0:Int)<=x13)/\(x13<(x22.length:Int)))) then
           ah (List.set x22 x13.toNat (x23.1,(x23.2.1,(x23.2.2.1,(x23.2.2.2.1,(x23.2.2.2.2.1,(a9,(x23.2.2.2.2.2.2.1,(x23.2.2.2.2.2.2.2.1,(x23.2.2.2.2.2.2.2.2.1,x23.2.2.2.2.2.2.2.2.2))))))))))[x13.toNat]? fun x24 =>
           bif (decide (x22.length<=(List.length (List.set (List.set x22 x13.toNat (x23.1,(x23.2.1,(x23.2.2.1,(x23.2.2.2.1,(x23.2.2.2.2.1,(a9,(x23.2.2.2.2.2.2.1,(x23.2.2.2.2.2.2.2.1,(x23.2.2.2.2.2.2.2.2.1,x23.2.2.2.2.2.2.2.2.2)))))))))) x13.toNat (x24.1,(x24.2.1,(x24.2.2.1,(x24.2.2.2.1,(a9,(x24.2.2.2.2.2.1,(x24.2.2.2.2.2.2.1,(x24.2.2.2.2.2.2.2.1,(x24.2.2.2.2.2.2.2.2.1,x24.2.2.2.2.2.2.2.2.2))))))))))))) then
            some ((x18,(x19,(x20,((List.take x22.length (List.set (List.set x22 x13.toNat (x23.1,(x23.2.1,(x23.2.2.1,(x23.2.2.2.1,(x23.2.2.2.2.1,(a9,(x23.2.2.2.2.2.2.1,(x23.2.2.2.2.2.2.2.1,(x23.2.2.2.2.2.2.2.2.1,x23.2.2.2.2.2.2.2.2.2)))))))))) x13.toNat (x24.1,(x24.2.1,(x24.2.2.1,(x24.2.2.2.1,(a9,(x24.2.2.2.2.2.1,(x24.2.2.2.2.2.2.1,(x24.2.2.2.2.2.2.2.1,(x24.2.2.2.2.2.2.2.2.1,x24.2.2.2.2.2.2.2.2.2))))))))))),(g.2.2.2.2.1,a9))))),(0:Int))
           else none
          else none
         else
          bif (decide (x22.length<=(List.length (List.set x22 x13.toNat (x23.1,(x23.2.1,(x23.2.2.1,(x23.2.2.2.1,(x23.2.2.2.2.1,(a9,(x23.2.2.2.2.2.2.1,(x23.2.2.2.2.2.2.2.1,(x23.2.2.2.2.2.2.2.2.1,x23.2.2.2.2.2.2.2.2.2))))))))))))) then
           some ((x18,(x19,(x20,((List.take x22.length (List.set x22 x13.toNat (x23.1,(x23.2.1,(x23.2.2.1,(x23.2.2.2.1,(x23.2.2.2.2.1,(a9,(x23.2.2.2.2.2.2.1,(x23.2.2.2.2.2.2.2.1,(x23.2.2.2.2.2.2.2.2.1,x23.2.2.2.2.2.2.2.2.2))))))))))),(g.2.2.2.2.1,a9))))),(0:Int))
          else none
        else none
     else none
    else
     ah (gQ ((a9::([]:List Int)),(a8::([]:List (List UInt8))))) fun x25 =>
     ah (dV ((g.1,(g.2.1,g.2.2.1)),(a7,x25))) fun ((x27,(x28,x29)),x30) =>
     bif (decide (x30≠(0:Int))) then
      some ((([]:List Int),((0:Int),((0:Int),(([]:List BL),((0:Int),(0:Int)))))),x30)
     else
      ah (kX g.2.2.2.1) fun x31 =>
      bif (decide (((0:Int)<=x13)/\(x13<(x31.length:Int)))) then
       ah x31[x13.toNat]? fun x32 =>
       bif (decide (a7=(2:Int))) then
        bif (decide (((0:Int)<=x13)/\(x13<(x31.length:Int)))) then
         ah (List.set x31 x13.toNat (x32.1,(x32.2.1,(x32.2.2.1,(x32.2.2.2.1,(x32.2.2.2.2.1,(a9,(x32.2.2.2.2.2.2.1,(x32.2.2.2.2.2.2.2.1,(x32.2.2.2.2.2.2.2.2.1,x32.2.2.2.2.2.2.2.2.2))))))))))[x13.toNat]? fun x33 =>
         bif (decide (x31.length<=(List.length (List.set (List.set x31 x13.toNat (x32.1,(x32.2.1,(x32.2.2.1,(x32.2.2.2.1,(x32.2.2.2.2.1,(a9,(x32.2.2.2.2.2.2.1,(x32.2.2.2.2.2.2.2.1,(x32.2.2.2.2.2.2.2.2.1,x32.2.2.2.2.2.2.2.2.2)))))))))) x13.toNat (x33.1,(x33.2.1,(x33.2.2.1,(x33.2.2.2.1,(a9,(x33.2.2.2.2.2.1,(x33.2.2.2.2.2.2.1,(x33.2.2.2.2.2.2.2.1,(x33.2.2.2.2.2.2.2.2.1,x33.2.2.2.2.2.2.2.2.2))))))))))))) then
          some ((x27,(x28,(x29,((List.take x31.length (List.set (List.set x31 x13.toNat (x32.1,(x32.2.1,(x32.2.2.1,(x32.2.2.2.1,(x32.2.2.2.2.1,(a9,(x32.2.2.2.2.2.2.1,(x32.2.2.2.2.2.2.2.1,(x32.2.2.2.2.2.2.2.2.1,x32.2.2.2.2.2.2.2.2.2)))))))))) x13.toNat (x33.1,(x33.2.1,(x33.2.2.1,(x33.2.2.2.1,(a9,(x33.2.2.2.2.2.1,(x33.2.2.2.2.2.2.1,(x33.2.2.2.2.2.2.2.1,(x33.2.2.2.2.2.2.2.2.1,x33.2.2.2.2.2.2.2.2.2))))))))))),(g.2.2.2.2.1,a9))))),(0:Int))
         else none
        else none
       else
        bif (decide (x31.length<=(List.length (List.set x31 x13.toNat (x32.1,(x32.2.1,(x32.2.2.1,(x32.2.2.2.1,(x32.2.2.2.2.1,(a9,(x32.2.2.2.2.2.2.1,(x32.2.2.2.2.2.2.2.1,(x32.2.2.2.2.2.2.2.2.1,x32.2.2.2.2.2.2.2.2.2))))))))))))) then
         some ((x27,(x28,(x29,((List.take x31.length (List.set x31 x13.toNat (x32.1,(x32.2.1,(x32.2.2.1,(x32.2.2.2.1,(x32.2.2.2.2.1,(a9,(x32.2.2.2.2.2.2.1,(x32.2.2.2.2.2.2.2.1,(x32.2.2.2.2.2.2.2.2.1,x32.2.2.2.2.2.2.2.2.2))))))))))),(g.2.2.2.2.1,a9))))),(0:Int))
        else none
      else none:=rfl
theorem alP (g:LG) (a7:List Ra) (a8 a9 a10:Int):jf (g,((a7,a8),(a9,a10))) =
 bif (decide (((0:Int)<=a9)/\(a9<(g.2.2.2.1.length:Int)))) then
  ah g.2.2.2.1[a9.toNat]? fun x11 =>
  ah (kX g.2.2.2.1) fun x12 =>
  bif (decide (x12.length=x12.length)) then
   ah (MZ (x12,(a9,(IntKind.wrap .i64 (a9+(1:Int)))))) fun x14 =>
   aB (bif (decide (x11.2.2.2.2.1≠(-1:Int))) then
 bif (decide (g.2.2.2.2.1>=(1048576:Int))) then
 au (some ((([]:List Int),((0:Int),((0:Int),(([]:List BL),((0:Int),(0:Int)))))),(10:Int)))
 else
 ah (some (IntKind.wrap .i64 (g.2.2.2.2.1+(1:Int)))) fun x15 =>
 ah (cZ (x11.2.2.2.2.1,a10)) fun x16 =>
 ah (bV ((a7,a8),(x11.2.2.1,(x11.2.2.2.2.1,a10)))) fun (x18,x19) =>
 bif (decide (x19=(0:Int))) then
 bif (decide (x14.length<=x14.length)) then
 bif (decide (((List.length ((x14.take x14.length)++((x11.1,(x11.2.1,(x11.2.2.1,(x11.2.2.2.1,(x11.2.2.2.2.1,(a10,(x15,(x16,(x18,x11.2.2.2.2.2.2.2.2.2)))))))))::([]:List BL))))*104)<=140737488355328)) then
 ah (some ((x14.take x14.length)++((x11.1,(x11.2.1,(x11.2.2.1,(x11.2.2.2.1,(x11.2.2.2.2.1,(a10,(x15,(x16,(x18,x11.2.2.2.2.2.2.2.2.2)))))))))::([]:List BL)))) fun x20 =>
 bif (decide (x20.length<=x20.length)) then
 some (Sum.inl ((x20.take x20.length),((x11.1,(x11.2.1,(x11.2.2.1,(x11.2.2.2.1,(x11.2.2.2.2.1,(a10,(x15,(x16,(x18,x11.2.2.2.2.2.2.2.2.2))))))))),(g.1,(g.2.1,(g.2.2.1,(g.2.2.2.1,(x15,g.2.2.2.2.2))))))))
 else none
 else none
 else none
 else
 bif (decide (x14.length<=x14.length)) then
 bif (decide (((List.length ((x14.take x14.length)++((x11.1,(x11.2.1,(x11.2.2.1,(x11.2.2.2.1,(x11.2.2.2.2.1,(a10,(x15,(x16,(x11.2.2.2.2.2.2.2.2.1,x11.2.2.2.2.2.2.2.2.2)))))))))::([]:List BL))))*104)<=140737488355328)) then
 ah (some ((x14.take x14.length)++((x11.1,(x11.2.1,(x11.2.2.1,(x11.2.2.2.1,(x11.2.2.2.2.1,(a10,(x15,(x16,(x11.2.2.2.2.2.2.2.2.1,x11.2.2.2.2.2.2.2.2.2)))))))))::([]:List BL)))) fun x21 =>
 bif (decide (x21.length<=x21.length)) then
 some (Sum.inl ((x21.take x21.length),((x11.1,(x11.2.1,(x11.2.2.1,(x11.2.2.2.1,(x11.2.2.2.2.1,(a10,(x15,(x16,(x11.2.2.2.2.2.2.2.2.1,x11.2.2.2.2.2.2.2.2.2))))))))),(g.1,(g.2.1,(g.2.2.1,(g.2.2.2.1,(x15,g.2.2.2.2.2))))))))
 else none
 else none
 else none
 else
 bif (decide (x14.length<=x14.length)) then
 some (Sum.inl ((x14.take x14.length),((x11.1,(x11.2.1,(x11.2.2.1,(x11.2.2.2.1,(x11.2.2.2.2.1,(a10,(x11.2.2.2.2.2.2.1,(x11.2.2.2.2.2.2.2.1,(x11.2.2.2.2.2.2.2.2.1,x11.2.2.2.2.2.2.2.2.2))))))))),g)))
 else none) fun (v22,((v23,(v24,(v25,(v26,(v27,(v28,(v29,(v30,(v31,v32))))))))),(v33,(v34,(v35,(v36,(v37,v38))))))) =>
   ah (gQ ((a10::(v29::(v30::(v31::([]:List Int))))),(v23::([]:List (List UInt8))))) fun x39 =>
   ah (dV ((v33,(v34,v35)),((4:Int),x39))) fun ((x41,(x42,x43)),x44) =>
   bif (decide (x44≠(0:Int))) then
    some ((([]:List Int),((0:Int),((0:Int),(([]:List BL),((0:Int),(0:Int)))))),x44)
   else
    bif (decide (v22.length<=v22.length)) then
     some ((x41,(x42,(x43,((v22.take v22.length),(v37,v38))))),(0:Int))
    else none
  else none
 else none:=rfl
theorem aoP (g:LG) (a7:List Ra) (a8:Int) (a9:Tx) (a10:Int):rZ (g,((a7,a8),(a9,a10))) =
 aB (ah (fC g) fun x11 =>
 bif (!x11) then
 au (some ((([]:List Int),((0:Int),((0:Int),(([]:List BL),((0:Int),(0:Int)))))),(2:Int)))
 else
 ah (bF (a10,(g.2.2.2.2.2,(1099511627776:Int)))) fun x12 =>
 bif (!x12) then
 au (some ((([]:List Int),((0:Int),((0:Int),(([]:List BL),((0:Int),(0:Int)))))),(2:Int)))
 else
 ah (bC (a7,a8)) fun x13 =>
 bif (!x13) then
 au (some ((([]:List Int),((0:Int),((0:Int),(([]:List BL),((0:Int),(0:Int)))))),(2:Int)))
 else
 some (Sum.inl ())) fun _ =>
 ah (iZ (g,a9)) fun (x15,x16) =>
 bif (!x16) then
  some ((([]:List Int),((0:Int),((0:Int),(([]:List BL),((0:Int),(0:Int)))))),(8:Int))
 else
  ah (jf (g,((a7,a8),(x15,a10)))) fun ((x18,(x19,(x20,(x21,(x22,x23))))),x24) =>
  bif (decide (x24≠(0:Int))) then
   some ((([]:List Int),((0:Int),((0:Int),(([]:List BL),((0:Int),(0:Int)))))),x24)
  else
   some ((x18,(x19,(x20,(x21,(x22,a10))))),(0:Int)):=rfl
theorem aoQ (g:LG):lJ g =
 ah (fC g) fun x7 =>
 bif (!x7) then
  some (([]:List Int),((0:Int),((0:Int),(([]:List BL),((0:Int),(0:Int))))))
 else
  ah (kJ (g.1,(g.2.1,g.2.2.1))) fun (x9,(x10,x11)) =>
  ah (kX g.2.2.2.1) fun x12 =>
  bif (decide (x12.length<=x12.length)) then
   some (x9,(x10,(x11,((x12.take x12.length),(g.2.2.2.2.1,g.2.2.2.2.2)))))
  else none:=rfl
theorem aoR (g:LG):jX g =
 some (decide (g.2.2.1>=(1048576:Int))):=rfl
theorem YF (g:LG) (a:AC):aZ (g,a) =
 bif (decide (a.1=(5:Int))) then
  ah (dw (g,a.2.2.1)) fun x15 =>
  bif (decide (x15<(0:Int))) then
   some (g,false)
  else
   bif (decide (((0:Int)<=x15)/\(x15<(g.2.2.2.1.length:Int)))) then
    ah g.2.2.2.1[x15.toNat]? fun x16 =>
    bif x16.2.2.2.2.2.2.2.2.2 then
     some (g,false)
    else
     bif (decide ((g.2.2.2.1.length*104)<=140737488355328)) then
      bif (decide (((0:Int)<=x15)/\(x15<(g.2.2.2.1.length:Int)))) then
       ah g.2.2.2.1[x15.toNat]? fun x18 =>
       bif (decide (g.2.2.2.1.length<=(List.length (List.set g.2.2.2.1 x15.toNat (x18.1,(x18.2.1,(x18.2.2.1,(x18.2.2.2.1,(x18.2.2.2.2.1,(x18.2.2.2.2.2.1,(x18.2.2.2.2.2.2.1,(x18.2.2.2.2.2.2.2.1,(x18.2.2.2.2.2.2.2.2.1,true))))))))))))) then
        some ((g.1,(g.2.1,(g.2.2.1,((List.take g.2.2.2.1.length (List.set g.2.2.2.1 x15.toNat (x18.1,(x18.2.1,(x18.2.2.1,(x18.2.2.2.1,(x18.2.2.2.2.1,(x18.2.2.2.2.2.1,(x18.2.2.2.2.2.2.1,(x18.2.2.2.2.2.2.2.1,(x18.2.2.2.2.2.2.2.2.1,true))))))))))),(g.2.2.2.2.1,g.2.2.2.2.2))))),true)
       else none
      else none
     else none
   else none
 else
  ah (fQ ((g.1,(g.2.1,(g.2.2.1,(g.2.2.2.1,(g.2.2.2.2.1,(fV g.2.2.2.2.2 a.2.1)))))),a.2.2.2.2.2.1)) fun x19 =>
  bif (decide (a.1=(1:Int))) then
   aB (bif (decide (x19>=(0:Int))) then
 au (some ((g.1,(g.2.1,(g.2.2.1,(g.2.2.2.1,(g.2.2.2.2.1,(fV g.2.2.2.2.2 a.2.1)))))),false))
 else
 ah (bW (g.1,(g.2.1,(g.2.2.1,(g.2.2.2.1,(g.2.2.2.2.1,(fV g.2.2.2.2.2 a.2.1))))))) fun x20 =>
 bif (decide (x20>=(256:Int))) then
 au (some ((g.1,(g.2.1,(g.2.2.1,(g.2.2.2.1,(g.2.2.2.2.1,(fV g.2.2.2.2.2 a.2.1)))))),false))
 else
 bif (decide (a.2.2.2.2.2.1=([]:List UInt8))) then
 au (some ((g.1,(g.2.1,(g.2.2.1,(g.2.2.2.1,(g.2.2.2.2.1,(fV g.2.2.2.2.2 a.2.1)))))),false))
 else
 bif (decide ((a.2.2.2.2.2.1.length:Int) > (200:Int))) then
 au (some ((g.1,(g.2.1,(g.2.2.1,(g.2.2.2.1,(g.2.2.2.2.1,(fV g.2.2.2.2.2 a.2.1)))))),false))
 else
 bif (decide ((a.2.2.2.2.2.2.1.length:Int) > (200:Int))) then
 au (some ((g.1,(g.2.1,(g.2.2.1,(g.2.2.2.1,(g.2.2.2.2.1,(fV g.2.2.2.2.2 a.2.1)))))),false))
 else
 bif (decide ((a.2.2.2.2.2.2.2.length:Int) > (200:Int))) then
 au (some ((g.1,(g.2.1,(g.2.2.1,(g.2.2.2.1,(g.2.2.2.2.1,(fV g.2.2.2.2.2 a.2.1)))))),false))
 else
 some (Sum.inl ())) fun _ =>
   ah (fU (g.2.2.2.1,(a.2.2.2.2.2.1,(a.2.2.2.2.2.2.1,(a.2.2.2.2.2.2.2,(a.2.1,((-1:Int),(a.2.1,((0:Int),((0:Int),((0:Int),false))))))))))) fun x21 =>
   some ((g.1,(g.2.1,(g.2.2.1,(x21,(g.2.2.2.2.1,(fV g.2.2.2.2.2 a.2.1)))))),true)
  else
   aB (bif (decide (x19<(0:Int))) then
 au (some ((g.1,(g.2.1,(g.2.2.1,(g.2.2.2.1,(g.2.2.2.2.1,(fV g.2.2.2.2.2 a.2.1)))))),false))
 else
 bif (decide (((0:Int)<=x19)/\(x19<(g.2.2.2.1.length:Int)))) then
 ah g.2.2.2.1[x19.toNat]? fun x22 =>
 bif (decide (a.2.1<x22.2.2.2.2.2.1)) then
 au (some ((g.1,(g.2.1,(g.2.2.1,(g.2.2.2.1,(g.2.2.2.2.1,(fV g.2.2.2.2.2 a.2.1)))))),false))
 else
 bif (decide (a.1=(2:Int))) then
 bif (decide (((0:Int)<=x19)/\(x19<(g.2.2.2.1.length:Int)))) then
 ah g.2.2.2.1[x19.toNat]? fun x23 =>
 bif (decide (x23.2.2.2.2.1>=(0:Int))) then
 au (some ((g.1,(g.2.1,(g.2.2.1,(g.2.2.2.1,(g.2.2.2.2.1,(fV g.2.2.2.2.2 a.2.1)))))),false))
 else
 some (Sum.inl ())
 else none
 else
 some (Sum.inl ())
 else none) fun _ =>
   bif (decide (((0:Int)<=x19)/\(x19<(g.2.2.2.1.length:Int)))) then
    ah g.2.2.2.1[x19.toNat]? fun x24 =>
    bif (decide (((0:Int)<=x19)/\(x19<=(g.2.2.2.1.length:Int)))) then
     ah (some (List.take x19.toNat g.2.2.2.1)) fun x25 =>
     bif (decide ((x25.length*104)<=140737488355328)) then
      ah (some (IntKind.wrap .i64 (x19+(1:Int)))) fun x27 =>
      bif (decide (((0:Int)<=x27)/\(x27<=(g.2.2.2.1.length:Int)))) then
       ah (some (List.drop x27.toNat g.2.2.2.1)) fun x28 =>
       bif (decide (x25.length<=x25.length)) then
        bif (decide (((List.length ((x25.take x25.length)++x28))*104)<=140737488355328)) then
         ah (some ((x25.take x25.length)++x28)) fun x29 =>
         aB (bif (decide (a.1=(2:Int))) then
 some (Sum.inl (x24.1,(x24.2.1,(x24.2.2.1,(x24.2.2.2.1,(a.2.1,(a.2.1,(x24.2.2.2.2.2.2.1,(x24.2.2.2.2.2.2.2.1,(x24.2.2.2.2.2.2.2.2.1,x24.2.2.2.2.2.2.2.2.2))))))))))
 else
 some (Sum.inl (x24.1,(x24.2.1,(x24.2.2.1,(x24.2.2.2.1,(x24.2.2.2.2.1,(a.2.1,(x24.2.2.2.2.2.2.1,(x24.2.2.2.2.2.2.2.1,(x24.2.2.2.2.2.2.2.2.1,x24.2.2.2.2.2.2.2.2.2))))))))))) fun (v30,(v31,(v32,(v33,(v34,(v35,(v36,(v37,(v38,v39))))))))) =>
         bif (decide (a.1<(4:Int))) then
          bif (decide (x29.length<=x29.length)) then
           ah (fU ((x29.take x29.length),(v30,(v31,(v32,(v33,(v34,(v35,(v36,(v37,(v38,v39))))))))))) fun x40 =>
           some ((g.1,(g.2.1,(g.2.2.1,(x40,(g.2.2.2.2.1,(fV g.2.2.2.2.2 a.2.1)))))),true)
          else none
         else
          bif (decide (a.2.2.1=(0:Int))) then
           bif (decide (x29.length<=x29.length)) then
            some ((g.1,(g.2.1,(g.2.2.1,((x29.take x29.length),(g.2.2.2.2.1,(fV g.2.2.2.2.2 a.2.1)))))),(decide (v34=(-1:Int))))
           else none
          else
           aB (bif (decide (v34=(-1:Int))) then
 au (some ((g.1,(g.2.1,(g.2.2.1,(g.2.2.2.1,(g.2.2.2.2.1,(fV g.2.2.2.2.2 a.2.1)))))),false))
 else
 bif (decide (a.2.2.1≠(IntKind.wrap .i64 (g.2.2.2.2.1+(1:Int))))) then
 au (some ((g.1,(g.2.1,(g.2.2.1,(g.2.2.2.1,(g.2.2.2.2.1,(fV g.2.2.2.2.2 a.2.1)))))),false))
 else
 bif (decide (a.2.2.1 > (1048576:Int))) then
 au (some ((g.1,(g.2.1,(g.2.2.1,(g.2.2.2.1,(g.2.2.2.2.1,(fV g.2.2.2.2.2 a.2.1)))))),false))
 else
 ah (bH (v34,v35)) fun x42 =>
 bif (decide (a.2.2.2.1≠x42)) then
 au (some ((g.1,(g.2.1,(g.2.2.1,(g.2.2.2.1,(g.2.2.2.2.1,(fV g.2.2.2.2.2 a.2.1)))))),false))
 else
 some (Sum.inl ())) fun _ =>
           bif (decide (x29.length<=x29.length)) then
            bif (decide (((List.length ((x29.take x29.length)++((v30,(v31,(v32,(v33,(v34,(v35,(a.2.2.1,(a.2.2.2.1,(a.2.2.2.2.1,v39)))))))))::([]:List BL))))*104)<=140737488355328)) then
             ah (some ((x29.take x29.length)++((v30,(v31,(v32,(v33,(v34,(v35,(a.2.2.1,(a.2.2.2.1,(a.2.2.2.2.1,v39)))))))))::([]:List BL)))) fun x43 =>
             bif (decide (x43.length<=x43.length)) then
              some ((g.1,(g.2.1,(g.2.2.1,((x43.take x43.length),(a.2.2.1,(fV g.2.2.2.2.2 a.2.1)))))),true)
             else none
            else none
           else none
        else none
       else none
      else none
     else none
    else none
   else none:=rfl
theorem aoS (g:LG) (a:AC):jY (g,a) =
 ah (aZ (g,a)) fun ((x16,(x17,(x18,(x19,(x20,x21))))),x22) =>
 ah (um a) fun (x24,x25) =>
 ah (iC ((g.1,(g.2.1,g.2.2.1)),(x24,x25))) fun ((x27,(x28,x29)),x30) =>
 some (x27,(x28,(x29,(x19,(x20,x21))))):=rfl
theorem alQ (g:LG) (a7:List Ra) (a8 a9 a10:Int):jC (g,((a7,a8),(a9,a10))) =
 bif (decide (((0:Int)<=a9)/\(a9<(g.2.2.2.1.length:Int)))) then
  ah g.2.2.2.1[a9.toNat]? fun x11 =>
  aB (bif (decide (x11.2.2.2.2.1>=(0:Int))) then
 ah (some (IntKind.wrap .i64 (g.2.2.2.2.1+(1:Int)))) fun x12 =>
 ah (bH (x11.2.2.2.2.1,a10)) fun x13 =>
 ah (dH ((a7,a8),(x11.2.2.1,(x11.2.2.2.2.1,a10)))) fun (x15,x16) =>
 bif (decide (x16=(0:Int))) then
 some (Sum.inl ((4:Int),(a10,(x12,(x13,(x15,(x11.1,(([]:List UInt8),([]:List UInt8)))))))))
 else
 some (Sum.inl ((4:Int),(a10,(x12,(x13,((0:Int),(x11.1,(([]:List UInt8),([]:List UInt8)))))))))
 else
 some (Sum.inl ((4:Int),(a10,((0:Int),((0:Int),((0:Int),(x11.1,(([]:List UInt8),([]:List UInt8)))))))))) fun (v17,(v18,(v19,(v20,(v21,(v22,(v23,v24))))))) =>
  ah (jX g) fun x25 =>
  bif x25 then
   some ((([]:List Int),((0:Int),((0:Int),(([]:List BL),((0:Int),(0:Int)))))),(10:Int))
  else
   bif (decide (v19 > (1048576:Int))) then
    some ((([]:List Int),((0:Int),((0:Int),(([]:List BL),((0:Int),(0:Int)))))),(10:Int))
   else
    ah (jY (g,(v17,(v18,(v19,(v20,(v21,(v22,(v23,v24))))))))) fun (x27,(x28,(x29,(x30,(x31,x32))))) =>
    some ((x27,(x28,(x29,(x30,(x31,x32))))),(0:Int))
 else none:=rfl
theorem aoT (g h:LG):iT (g,h) =
 ah (fE ((g.1,(g.2.1,g.2.2.1)),(h.1,(h.2.1,h.2.2.1)))) fun x13 =>
 bif x13 then
  ah (iD (g.2.2.2.1,h.2.2.2.1)) fun x14 =>
  bif x14 then
   bif (decide (g.2.2.2.2.1=h.2.2.2.2.1)) then
    some (decide (g.2.2.2.2.2=h.2.2.2.2.2))
   else
    some false
  else
   some false
 else
  some false:=rfl
theorem aoU (a:AC):um a =
 bif (decide (a.1=(1:Int))) then
  ah (bY ((a.2.1::([]:List Int)),(a.2.2.2.2.2.1::(a.2.2.2.2.2.2.1::(a.2.2.2.2.2.2.2::([]:List (List UInt8))))))) fun x9 =>
  some ((1:Int),x9)
 else
  bif (decide (a.1=(4:Int))) then
   ah (bY ((a.2.1::(a.2.2.1::(a.2.2.2.1::(a.2.2.2.2.1::([]:List Int))))),(a.2.2.2.2.2.1::([]:List (List UInt8))))) fun x10 =>
   some ((4:Int),x10)
  else
   bif (decide (a.1=(5:Int))) then
    ah (bY ((a.2.2.1::([]:List Int)),([]:List (List UInt8)))) fun x11 =>
    some ((5:Int),x11)
   else
    ah (bY ((a.2.1::([]:List Int)),(a.2.2.2.2.2.1::([]:List (List UInt8))))) fun x12 =>
    some (a.1,x12):=rfl
noncomputable def tf (p:Prop):Bool:=@decide p (Classical.propDecidable p)
theorem iU {p:Prop} (h:p):tf p=true:=by unfold tf;exact @decide_eq_true p (Classical.propDecidable p) h
theorem mg {p:Prop} (h:¬p):tf p=false:=by unfold tf;exact @decide_eq_false p (Classical.propDecidable p) h
theorem Is.tf {o:Option Bool} {P:Prop} (h:Is o P):o=Option.some (Go.Proofs.YtkpijdndakljjaaGreat.tf P):=by
 rcases h with ⟨h,e⟩ | ⟨h,e⟩
 ·rw [e,iU h]
 ·rw [e,mg h]
theorem Is.b {o:Option Bool} {P:Prop} (h:Is o P) {β:Type} (f:Bool->Option β):ah o f=f (Go.Proofs.YtkpijdndakljjaaGreat.tf P):=by rw [h.tf];rfl
theorem Is.ite' {c:Prop} [Decidable c] {a b:Option Bool} {P:Prop} (h1:c->Is a P) (h2:¬c->Is b P):Is (if c then a else b) P:=by
 by_cases h:c
 ·rw [if_pos h];exact h1 h
 ·rw [if_neg h];exact h2 h
def opn:List BL->Nat
 | []=>0
 | b::l=>if b.2.2.2.2.2.2.1=0 then opn l+1 else 0
theorem lN:∀l:List BL,opn l<=l.length
 | []=>Nat.le_refl _
 | b::l=>by
   have:=lN l;rw [opn,List.length_cons];split<;>omega
theorem Dk:∀ {l:List BL} {i:Nat},i<opn l->(l.getD i b0).2.2.2.2.2.2.1=0
 | [],i,h=>by simp [opn] at h
 | b::l,i,h=>by
   rw [opn] at h;split at h
   ·rename_i hb;cases i with
    | zero=>exact hb
    | succ i =>
      rw [List.getD_cons_succ];exact Dk (by omega)
   ·omega
theorem QN:∀ {l:List BL},opn l<l.length->(l.getD (opn l) b0).2.2.2.2.2.2.1≠0
 | [],h=>by simp [opn] at h
 | b::l,h=>by
   rw [opn] at h ⊢;split at h
   ·rename_i hb;rw [if_pos hb,List.getD_cons_succ];exact QN (by simpa using h)
   ·rename_i hb;rw [if_neg hb];exact hb
theorem YG {δ:Type} (l:List BL) (hl:l.length<=1000000):aA (ocB (δ:=δ) l) (0:Int)=some (.inl ((opn l:Nat):Int)):=by
 have h1:=lN l;refine bQ (fun i=>((i:Nat):Int)) (opn l) rfl (fun i hi => ?_) ?_
 ·have hz:=Dk hi;obtain ⟨x,hx,hxb⟩:=get_at b0 (show i<l.length by omega);rw [hx] at hz;unfold ocB;simp (disch:=(first | omega | (simp only [bM];omega))) only [↓aN,aQ,if_pos,↓hxb,hz,aj];rfl
 ·unfold ocB;by_cases h2:opn l<l.length
  ·have hz:=QN h2;obtain ⟨x,hx,hxb⟩:=get_at b0 h2;rw [hx] at hz;simp (disch:=(first | omega | (simp only [bM];omega))) only [↓aN,aQ,if_pos,if_neg,↓hxb,hz]
  ·simp (disch:=(first | omega | (simp only [bM];omega))) only [↓aN,aQ,if_neg]
theorem aqI (l:List BL) (hl:l.length<=1000000):eH l=some ((opn l:Nat):Int):=by rw [aoz,YG l hl];rfl
theorem aqJ (g:LG) (hl:g.2.2.2.1.length<=1000000):bW g=some ((opn g.2.2.2.1:Nat):Int):=by rw [or_eq,YG _ hl];rfl
theorem QO {β:Type} (l:List BL) (hl:l.length<=1000000) (f:Int->Option β):ah (eH l) f=f ((opn l:Nat):Int):=by rw [aqI l hl];rfl
theorem aa1 {β:Type} (g:LG) (hl:g.2.2.2.1.length<=1000000) (f:Int->Option β):ah (bW g) f=f ((opn g.2.2.2.1:Nat):Int):=by rw [aqJ g hl];rfl
theorem jD {β:Type} (a b c:Int) (f:Bool->Option β):ah (bF (a,(b,c))) f=f (decide (b<=a/\a<=c)):=by
 unfold bF;by_cases h:b<=a
 ·simp only [aK];rw [if_pos h,ay];congr 1;rw [decide_eq_decide];omega
 ·simp only [aK];rw [if_neg h,ay];congr 1;rw [eq_comm,decide_eq_false_iff_not];omega
def BK (n:Int) (b:BL):Prop :=
 (1<=b.1.length/\b.1.length<=200/\b.2.1.length<=200/\b.2.2.1.length<=200)/\(0<=b.2.2.2.1/\b.2.2.2.1<=n)/\(b.2.2.2.2.1 = -1\/(b.2.2.2.1<=b.2.2.2.2.1/\b.2.2.2.2.1<=b.2.2.2.2.2.1))/\(b.2.2.2.1<=b.2.2.2.2.2.1/\b.2.2.2.2.2.1<=n) /\
 ((b.2.2.2.2.2.2.1=0/\b.2.2.2.2.2.2.2.1=0/\b.2.2.2.2.2.2.2.2.1=0/\b.2.2.2.2.2.2.2.2.2=false)\/(b.2.2.2.2.2.2.1≠0/\b.2.2.2.2.1 ≠ -1/\0<=b.2.2.2.2.2.2.2.2.1/\b.2.2.2.2.2.2.2.1=Rt.SE b.2.2.2.2.1 b.2.2.2.2.2.1))
theorem Iw {β:Type} (a b:Int) (f:Int->Option β):ah (cZ (a,b)) f=f (Rt.SE a b):=by rw [Rt.qP];rfl
theorem Aj {β:Type} (a b:Int) (f:Int->Option β):ah (bH (a,b)) f=f (Rt.SE a b):=by rw [Rt.yF];rfl
set_option maxHeartbeats 4000000 in
theorem aa2 (n:Int) (b:BL):Is (kL (b,n)) (BK n b):=by
 obtain ⟨a1,a2,a3,a4,a5,a6,a7,a8,a9,a10⟩:=b;unfold kL BK;generalize hs:Rt.SE a5 a6=sv;cases a10<;>simp only [↓aN,aQ,jD,Iw,hs,fV,aK,<-decide_not,OA,TP,Oz,and_true,and_false,true_and,false_and,or_false,false_or,eq_self_iff_true,Bool.not_true,Bool.not_false,reduceCtorEq]<;>repeat' (refine Is.ite' (fun _ => ?_) (fun _ => ?_))
 all_goals first | exact Is.f (by omega) | exact Is.t (by omega) | exact Is.d (by omega)
def pv (l:List BL) (i:Nat):Int:=if i<=opn l then 0 else (l.getD (i-1) b0).2.2.2.2.2.2.1
theorem YH {l:List BL} {i:Nat} (h:i<=opn l):pv l i=0:=if_pos h
theorem aiN {l:List BL} {i:Nat} (h:opn l<=i):pv l (i+1)=(l.getD i b0).2.2.2.2.2.2.1:=by
 unfold pv;rw [if_neg (by omega),Nat.add_sub_cancel]
def OKi (g:LG) (i:Nat):Prop:=BK g.2.2.2.2.2 (g.2.2.2.1.getD i b0)/\((i<opn g.2.2.2.1/\(0<i->Op.bytesLess (g.2.2.2.1.getD (i-1) b0).1 (g.2.2.2.1.getD i b0).1=true))\/(opn g.2.2.2.1<=i/\pv g.2.2.2.1 i+1<=(g.2.2.2.1.getD i b0).2.2.2.2.2.2.1/\(g.2.2.2.1.getD i b0).2.2.2.2.2.2.1<=g.2.2.2.2.1))
theorem YI {g:LG} (h:0<=g.2.2.2.2.1/\g.2.2.2.2.1<=1048576):∀ {i:Nat},(∀j,j<i->OKi g j)->0<=pv g.2.2.2.1 i/\pv g.2.2.2.1 i<=1048576
 | 0,_=>by simp [pv]
 | i+1,hj=>by
   have ih:=YI h (i:=i) (fun j hj'=>hj j (by omega));rcases (hj i (by omega)).2 with ⟨h1,_⟩ | ⟨h1,h2,h3⟩
   ·rw [YH (by omega)];omega
   ·rw [aiN h1];omega
set_option maxHeartbeats 4000000 in
theorem ahr (g:LG) (hl:g.2.2.2.1.length<=1000000) (h5:0<=g.2.2.2.2.1/\g.2.2.2.2.1<=1048576) :
 ((∀i,i<g.2.2.2.1.length->OKi g i)/\aA (vaB g ((opn g.2.2.2.1:Nat):Int)) ((0:Int),(0:Int))=some (.inl ()))\/(¬(∀i,i<g.2.2.2.1.length->OKi g i)/\aA (vaB g ((opn g.2.2.2.1:Nat):Int)) ((0:Int),(0:Int))=some (.inr false)):=by
 have ho:=lN g.2.2.2.1;refine aaN (fun i=>(((i:Nat):Int),pv g.2.2.2.1 i)) _ (OKi g) _ _ (by simp [pv]) (fun i hi hj hok => ?_) (fun i hi hj hno => ?_) (fun _ => ?_)
 ·have hp:=YI h5 hj;obtain ⟨x,hx,hxb⟩:=get_at b0 hi;obtain ⟨hb,hok⟩:=hok;rw [hx] at hb hok;unfold vaB;rcases hok with ⟨h1,h2⟩ | ⟨h1,h2,h3⟩
  ·rw [YH (by omega),YH (show i+1<=_ by omega)];by_cases h0:0<i
   ·obtain ⟨y,hy,hyb⟩:=get_at b0 (show i-1<g.2.2.2.1.length by omega);have hbl:=h2 h0;rw [hy] at hbl;have hc:((i:Int)-1)=((i-1:Nat):Int):=by omega
    simp (disch:=(first | omega | (simp only [bM];omega))) only [↓aN,aQ,if_pos,if_neg,↓hxb,↓(aa2 g.2.2.2.2.2 x).b,iU hb,↓hyb,hc,hbl,aj,Bool.not_true];rfl
   ·simp (disch:=(first | omega | (simp only [bM];omega))) only [↓aN,aQ,if_pos,if_neg,↓hxb,↓(aa2 g.2.2.2.2.2 x).b,iU hb,aj,Bool.not_true];rfl
  ·rw [aiN h1,hx];simp (disch:=(first | omega | (simp only [bM];omega))) only [↓aN,aQ,if_pos,if_neg,↓hxb,↓(aa2 g.2.2.2.2.2 x).b,iU hb,↓jD,aj,Bool.not_true];rfl
 ·have hp:=YI h5 hj;obtain ⟨x,hx,hxb⟩:=get_at b0 hi;unfold OKi at hno;rw [hx] at hno;unfold vaB;by_cases hb:BK g.2.2.2.2.2 x
  ·by_cases h1:i<opn g.2.2.2.1
   ·by_cases h0:0<i
    ·obtain ⟨y,hy,hyb⟩:=get_at b0 (show i-1<g.2.2.2.1.length by omega);rw [hy] at hno;have hc:((i:Int)-1)=((i-1:Nat):Int):=by omega
     cases hbl:Op.bytesLess y.1 x.1 with
     | true=>exact (hno ⟨hb,.inl ⟨h1,fun _=>hbl⟩⟩).elim
     | false=>simp (disch:=(first | omega | (simp only [bM];omega))) only [↓aN,aQ,if_pos,if_neg,↓hxb,↓(aa2 g.2.2.2.2.2 x).b,iU hb,↓hyb,hc,hbl,aj,Bool.not_true,Bool.not_false]
    ·exact (hno ⟨hb,.inl ⟨h1,fun h=>(h0 h).elim⟩⟩).elim
   ·simp (disch:=(first | omega | (simp only [bM];omega))) only [↓aN,aQ,if_pos,if_neg,↓hxb,↓(aa2 g.2.2.2.2.2 x).b,iU hb,↓jD,aj,Bool.not_true];have h4:¬(pv g.2.2.2.1 i+1<=x.2.2.2.2.2.2.1/\x.2.2.2.2.2.2.1<=g.2.2.2.2.1):=fun h=>hno ⟨hb,.inr ⟨by omega,h⟩⟩;simp (disch:=(first | omega | (simp only [bM];omega))) only [↓aN,aQ,if_neg,h4]
  ·simp (disch:=(first | omega | (simp only [bM];omega))) only [↓aN,aQ,if_pos,↓hxb,↓(aa2 g.2.2.2.2.2 x).b,mg hb,Bool.not_false]
 ·unfold vaB;simp (disch:=(first | omega | (simp only [bM];omega))) only [↓aN,aQ,if_neg]
def VL (g:LG):Prop:=(0<=g.2.1/\g.2.1<=(g.1.length:Int)/\0<=g.2.2.1/\g.2.2.1<=1048576)/\(0<=g.2.2.2.2.2/\g.2.2.2.2.2<=1099511627776)/\(0<=g.2.2.2.2.1/\g.2.2.2.2.1<=1048576)/\opn g.2.2.2.1<=256/\∀i,i<g.2.2.2.1.length->OKi g i
theorem aex {β:Type} (b:List Int) (s c:Int) (f:Bool->Option β):ah (iH (b,(s,c))) f=f (decide (0<=s/\s<=(b.length:Int)/\0<=c/\c<=1048576)):=by rw [Jn.QL];rfl
theorem qw (g:LG) (hl:g.2.2.2.1.length<=1000000):Is (fC g) (VL g):=by
 rw [aoA];by_cases h1:0<=g.2.1/\g.2.1<=(g.1.length:Int)/\0<=g.2.2.1/\g.2.2.1<=1048576
 ·skip
  by_cases h2:0<=g.2.2.2.2.2/\g.2.2.2.2.2<=1099511627776
  ·skip
   by_cases h3:0<=g.2.2.2.2.1/\g.2.2.2.2.1<=1048576
   ·skip
    by_cases h4:¬((opn g.2.2.2.1:Nat):Int) > 256
    ·skip
     simp (disch:=(first | omega | (simp only [bM];omega))) only [↓aN,aQ,↓aex,↓jD,↓QO _ hl,and_self,decide_true,decide_false,if_neg,h1,h2,h3,h4];rcases ahr g hl h3 with ⟨h,e⟩ | ⟨h,e⟩
     ·rw [e];exact Is.t ⟨h1,h2,h3,by omega,h⟩
     ·rw [e];exact Is.f fun k=>h k.2.2.2.2
    ·(simp (disch:=(first | omega | (simp only [bM];omega))) only [↓aN,aQ,↓aex,↓jD,↓QO _ hl,and_self,decide_true,decide_false,if_pos,if_neg,h1,h2,h3,h4];exact Is.f fun k=>by unfold VL at k;omega)
   ·(simp (disch:=(first | omega | (simp only [bM];omega))) only [↓aN,aQ,↓aex,↓jD,↓QO _ hl,and_self,decide_true,decide_false,if_pos,if_neg,h1,h2,h3];exact Is.f fun k=>by unfold VL at k;omega)
  ·(simp (disch:=(first | omega | (simp only [bM];omega))) only [↓aN,aQ,↓aex,↓jD,↓QO _ hl,and_self,decide_true,decide_false,if_pos,if_neg,h1,h2];exact Is.f fun k=>by unfold VL at k;omega)
 ·(simp (disch:=(first | omega | (simp only [bM];omega))) only [↓aN,aQ,↓aex,↓jD,↓QO _ hl,and_self,decide_true,decide_false,if_pos,if_neg,h1];exact Is.f fun k=>by unfold VL at k;omega)
theorem aoV {β:Type} (b:List Int) (s c:Int) (f:Bool->Option β):ah (gq (b,(s,c))) f=f (decide (0<=s/\s<=(b.length:Int)/\0<=c/\c<=1048576)):=by
 have h:Is (gq (b,(s,c))) (0<=s/\s<=(b.length:Int)/\0<=c/\c<=1048576):=by
  unfold gq;simp only [↓aN,aQ,aK,<-decide_not,OA,TP,Oz]
  repeat' (refine Is.ite' (fun _ => ?_) (fun _ => ?_))
  all_goals first | exact Is.f (by omega) | exact Is.t (by omega) | exact Is.d (by omega)
 rcases h with ⟨k,e⟩ | ⟨k,e⟩
 ·rw [e,decide_eq_true k];rfl
 ·rw [e,decide_eq_false k];rfl
theorem LP:∀a:Tx,Op.bytesLess a a=false
 | []=>rfl
 | x::a=>by rw [Op.bytesLess,LP a];simp
theorem QS {x y:UInt8} {a b:Tx}:Op.bytesLess (x::a) (y::b)=true↔x.toNat<y.toNat\/(x=y/\Op.bytesLess a b=true):=by
 rw [Op.bytesLess];simp [UInt8.lt_iff_toNat_lt]
theorem Uo:∀ {a b c:Tx},Op.bytesLess a b=true->Op.bytesLess b c=true->Op.bytesLess a c=true
 | _,_,[],_,h=>by cases ‹Tx› <;> simp [Op.bytesLess] at h
 | _,[],_::_,h,_=>by cases ‹Tx› <;> simp [Op.bytesLess] at h
 | [],_::_,_::_,_,_=>rfl
 | x::a,y::b,z::c,h,k=>by
   rw [QS] at h k ⊢;rcases h with h | ⟨rfl,h⟩<;>rcases k with k | ⟨rfl,k⟩
   ·exact .inl (by omega)
   ·exact .inl h
   ·exact .inl k
   ·exact .inr ⟨rfl,Uo h k⟩
theorem aey:∀(a b:Tx),Op.bytesLess a b=true\/Op.bytesLess b a=true\/a=b
 | [],[] => .inr (.inr rfl)
 | [],_::_ => .inl rfl
 | _::_,[] => .inr (.inl rfl)
 | x::a,y::b=>by
   rw [QS,QS];rcases Nat.lt_trichotomy x.toNat y.toNat with h | h | h
   ·exact .inl (.inl h)
   ·have e:x=y:=UInt8.toNat_inj.1 h;subst e;rcases aey a b with g | g | g
    ·exact .inl (.inr ⟨rfl,g⟩)
    ·exact .inr (.inl (.inr ⟨rfl,g⟩))
    ·exact .inr (.inr (by rw [g]))
   ·exact .inr (.inl (.inl h))
def dW (c:Tx):List BL->Nat
 | []=>0
 | b::l=>if b.2.2.2.2.2.2.1=0/\Op.bytesLess b.1 c=true then dW c l+1 else 0
theorem sK (c:Tx):∀l:List BL,dW c l<=opn l
 | []=>Nat.le_refl _
 | b::l=>by
   have:=sK c l;rw [dW,opn];split
   ·rename_i h;rw [if_pos h.1];omega
   ·exact Nat.zero_le _
theorem Gw {c:Tx}:∀ {l:List BL} {i:Nat},i<dW c l->Op.bytesLess (l.getD i b0).1 c=true
 | [],i,h=>by simp [dW] at h
 | b::l,i,h=>by
   rw [dW] at h;split at h
   ·rename_i hb;cases i with
    | zero=>exact hb.2
    | succ i=>rw [List.getD_cons_succ];exact Gw (by omega)
   ·omega
theorem LV {c:Tx}:∀ {l:List BL},dW c l<opn l->Op.bytesLess (l.getD (dW c l) b0).1 c=false
 | [],h=>by simp [dW,opn] at h
 | b::l,h=>by
   rw [dW] at h ⊢;split at h
   ·rename_i hb;rw [if_pos hb,List.getD_cons_succ];rw [opn,if_pos hb.1] at h;exact LV (by omega)
   ·rename_i hb;rw [if_neg hb];rw [opn] at h;split at h
    ·rename_i h0;cases hbl:Op.bytesLess b.1 c with
     | true=>exact (hb ⟨h0,hbl⟩).elim
     | false=>exact hbl
    ·omega
def QT (l:List BL):Prop:=∀i j,i<j->j<opn l->Op.bytesLess (l.getD i b0).1 (l.getD j b0).1=true
theorem VL.srt {g:LG} (h:VL g):QT g.2.2.2.1:=fun i j hij hj=>by
 have ho:=lN g.2.2.2.1
 induction j with
 | zero=>omega
 | succ j ih =>
   have hok:=(h.2.2.2.2 (j+1) (by omega)).2;rcases hok with ⟨_,h2⟩ | ⟨h1,_⟩
   ·have h3:=h2 (by omega);rw [Nat.add_sub_cancel] at h3;by_cases e:i=j
    ·subst e;exact h3
    ·exact Uo (ih (by omega) (by omega)) h3
   ·omega
theorem Je {c:Tx} {l:List BL} (hs:QT l) {m:Nat} (hm:m<opn l):Op.bytesLess (l.getD m b0).1 c=true↔m<dW c l:=by
 constructor
 ·intro h;by_cases hp:m<dW c l
  ·exact hp
  ·exfalso;have h1:=LV (c:=c) (l:=l) (by omega);by_cases e:m=dW c l
   ·subst e;rw [h1] at h;cases h
   ·have:=Uo (hs _ _ (show dW c l<m by omega) hm) h;rw [h1] at this;cases this
 ·exact Gw
def vI (c:Tx) (l:List BL):Prop:=dW c l<opn l/\(l.getD (dW c l) b0).1=c
theorem YJ (l:List BL) (c:Tx) (hl:l.length<=1000000) {p:Nat} (hp:p<=l.length) (hs:∀m,m<l.length->(Op.bytesLess (l.getD m b0).1 c=true↔m<p)):iY (l,c)=some (((p:Nat):Int),decide (p<l.length/\(l.getD p b0).1=c)):=by
 rw [aoB];have hloop:∀ {δ:Type},∃r:Int ⊕ δ,aA (plB (δ:=δ) l c) ((l.length:Int),(0:Int))=some r/\r = .inl ((p:Nat):Int):=fun {δ}=>by
  refine Dh (fun x=>∃lo hi:Nat,x=(((hi:Nat):Int),((lo:Nat):Int))/\lo<=p/\p<=hi/\hi<=l.length) (fun r=>r=(.inl ((p:Nat):Int):Int ⊕ δ)) (fun x=>(x.1-x.2).toNat) (x:=(((l.length:Nat):Int),(0:Int))) (fun x hx => ?_) ⟨0,l.length,rfl,by omega,hp,Nat.le_refl _⟩;obtain ⟨lo,hi,rfl,h1,h2,h3⟩:=hx;by_cases hlt:lo<hi
  ·have hmid:∃m:Nat,IntKind.wrap .i64 (Int.fdiv (IntKind.wrap .u64 (((lo:Nat):Int)+((hi:Nat):Int))) (2:Int))=((m:Nat):Int)/\lo<=m/\m<hi:=by
    refine ⟨(lo+hi) / 2,?_,by omega,by omega⟩;rw [Di,Int.fdiv_eq_ediv_of_nonneg _ (by omega),aj (by omega)];omega
   obtain ⟨m,hm,m1,m2⟩:=hmid;obtain ⟨x,hx,hxb⟩:=get_at b0 (show m<l.length by omega);have hsm:=hs m (by omega);rw [hx] at hsm;refine .inr ?_;unfold plB;cases hbl:Op.bytesLess x.1 c with
   | true =>
     have hmp:m<p:=hsm.1 hbl;refine ⟨(((hi:Nat):Int),(((m+1:Nat)):Int)),?_,⟨m+1,hi,rfl,by omega,h2,h3⟩,by simp only;omega⟩;simp (disch:=(first | omega | (simp only [bM];omega))) only [↓aN,aQ,if_pos,hm,↓hxb,hbl,aj,Bool.not_true,Bool.not_false];rfl
   | false =>
     have hmp:¬m<p:=fun h=>by rw [hsm.2 h] at hbl;cases hbl
     refine ⟨(((m:Nat):Int),((lo:Nat):Int)),?_,⟨lo,m,rfl,h1,by omega,by omega⟩,by simp only;omega⟩;simp (disch:=(first | omega | (simp only [bM];omega))) only [↓aN,aQ,if_pos,hm,↓hxb,hbl,aj,Bool.not_true,Bool.not_false]
  ·refine .inl ⟨_,?_,rfl⟩;obtain rfl:lo=p:=by omega
   unfold plB;simp (disch:=(first | omega | (simp only [bM];omega))) only [↓aN,aQ,if_neg]
 obtain ⟨r,hr,rfl⟩:=hloop;rw [hr];by_cases hpl:p<l.length
 ·obtain ⟨x,hx,hxb⟩:=get_at b0 hpl;rw [hx];simp (disch:=(first | omega | (simp only [bM];omega))) only [↓aN,aQ,if_pos,↓hxb];rw [Option.some.injEq,Prod.mk.injEq];exact ⟨rfl,by rw [decide_eq_decide];exact ⟨fun h=>⟨hpl,h⟩,fun h=>h.2⟩⟩
 ·simp (disch:=(first | omega | (simp only [bM];omega))) only [↓aN,aQ,if_neg];rw [decide_eq_false (fun h=>hpl h.1)]
theorem alR (g:LG) (c:Tx) (hl:g.2.2.2.1.length<=1000000) (hs:QT g.2.2.2.1):iZ (g,c)=some (((dW c g.2.2.2.1:Nat):Int),tf (vI c g.2.2.2.1)):=by
 have ho:=lN g.2.2.2.1;have hp:=sK c g.2.2.2.1;rw [aoN];have hlen:(g.2.2.2.1.take (opn g.2.2.2.1)).length=opn g.2.2.2.1:=by rw [List.length_take];omega
 have h:=YJ (g.2.2.2.1.take (opn g.2.2.2.1)) c (by omega) (p:=dW c g.2.2.2.1) (by omega) (fun m hm=>by rw [getD_take _ _ (by omega)];exact Je hs (by omega));simp (disch:=(first | omega | (simp only [bM];omega))) only [↓aN,aQ,↓QO _ hl,if_pos,Int.toNat_natCast];rw [h,hlen];simp only [↓aN];congr 2;unfold vI;by_cases hq:dW c g.2.2.2.1<opn g.2.2.2.1
 ·rw [getD_take _ _ hq];by_cases hc:(g.2.2.2.1.getD (dW c g.2.2.2.1) b0).1=c
  ·rw [iU ⟨hq,hc⟩,decide_eq_true ⟨hq,hc⟩]
  ·rw [mg (fun k=>hc k.2),decide_eq_false (fun k=>hc k.2)]
 ·rw [mg (fun k=>hq k.1),decide_eq_false (fun k=>hq k.1)]
theorem aiO (g:LG) (c:Tx) (hl:g.2.2.2.1.length<=1000000) (hs:QT g.2.2.2.1):(vI c g.2.2.2.1/\fQ (g,c)=some ((dW c g.2.2.2.1:Nat):Int))\/(¬vI c g.2.2.2.1/\fQ (g,c)=some (-1:Int)):=by
 have ho:=lN g.2.2.2.1;have hp:=sK c g.2.2.2.1;rw [aoG];have hL:=ny (body:=fdB g c) (opn g.2.2.2.1) (fun i=>(g.2.2.2.1.getD i b0).1=c) (fun i => .inr ((i:Nat):Int)) (.inl ()) (fun i hi hn=>by
  obtain ⟨x,hx,hxb⟩:=get_at b0 (show i<g.2.2.2.1.length by omega);simp only [hx] at hn;unfold fdB;simp (disch:=(first | omega | (simp only [bM];omega))) only [↓aN,aQ,↓aa1 _ hl,if_pos,if_neg,↓hxb,hn,aj,decide_false];rfl) (fun i hi hn=>by
  obtain ⟨x,hx,hxb⟩:=get_at b0 (show i<g.2.2.2.1.length by omega);simp only [hx] at hn;unfold fdB;simp (disch:=(first | omega | (simp only [bM];omega))) only [↓aN,aQ,↓aa1 _ hl,if_pos,if_neg,↓hxb,hn,decide_true]) (by
  unfold fdB;simp (disch:=(first | omega | (simp only [bM];omega))) only [↓aN,aQ,↓aa1 _ hl,if_neg])
 rcases hL with ⟨i,k1,k2,k3,e⟩ | ⟨k,e⟩
 ·have hip:i=dW c g.2.2.2.1:=by
   have h1:¬i<dW c g.2.2.2.1:=fun h=>by
    have:=Gw h;rw [k2,LP] at this;cases this
   by_cases h2:dW c g.2.2.2.1<i
   ·exfalso;have:=hs _ _ h2 k1;rw [k2,LV (by omega)] at this;cases this
   ·omega
  subst hip;exact .inl ⟨⟨k1,k2⟩,by rw [e];rfl⟩
 ·exact .inr ⟨fun h=>k _ h.1 h.2,by rw [e];rfl⟩
theorem alS (l:List BL) (b:BL) (hl:l.length<=1000000):fU (l,b)=some (l.take (dW b.1 l)++[b]++l.drop (dW b.1 l)):=by
 have ho:=lN l;have hp:=sK b.1 l;rw [aoJ];have hloop:∀ {δ:Type},aA (wiB (δ:=δ) l b) (0:Int)=some (.inl ((dW b.1 l:Nat):Int)):=fun {δ}=>by
  refine bQ (fun i=>((i:Nat):Int)) (dW b.1 l) rfl (fun i hi => ?_) ?_
  ·obtain ⟨x,hx,hxb⟩:=get_at b0 (show i<l.length by omega);have h1:=Gw hi;have h2:=Dk (show i<opn l by omega);rw [hx] at h1 h2;unfold wiB;simp (disch:=(first | omega | (simp only [bM];omega))) only [↓aN,aQ,if_pos,↓hxb,h1,h2,aj];rfl
  ·unfold wiB;by_cases hlt:dW b.1 l<l.length
   ·obtain ⟨x,hx,hxb⟩:=get_at b0 hlt;by_cases h2:dW b.1 l<opn l
    ·have h1:=LV h2;have h3:=Dk h2;rw [hx] at h1 h3;simp (disch:=(first | omega | (simp only [bM];omega))) only [↓aN,aQ,if_pos,↓hxb,h1,h3]
    ·have he:dW b.1 l=opn l:=by omega
     have h3:=QN (show opn l<l.length by omega);rw [<-he,hx] at h3;simp (disch:=(first | omega | (simp only [bM];omega))) only [↓aN,aQ,if_pos,if_neg,↓hxb,h3]
   ·simp (disch:=(first | omega | (simp only [bM];omega))) only [↓aN,aQ,if_neg]
 rw [hloop];have hle:dW b.1 l<=l.length:=by omega
 simp (disch:=(first | omega | (simp only [bM];omega))) only [↓aN,aQ,if_pos,Int.toNat_natCast]
open Jn (be dA rE qc)
def txB (t:Tx):List Int:=t.map fun x=>((x.toNat:Nat):Int)
def tB (t:Tx):List Int:=be 2 ((t.length:Nat):Int)++txB t
def Dl (ns:List Int) (ts:List Tx):List Int:=ns.flatMap (be 8)++ts.flatMap tB
theorem YK (n:Int):∀(k m:Nat),(be (k+m) n).drop k=be m n
 | 0,m=>by rw [List.drop_zero,Nat.zero_add]
 | k+1,m=>by
   rw [show k+1+m=(k+m)+1 from by omega,rE,List.drop_succ_cons];exact YK n k m
theorem ahs (n:Int) {k:Nat} (h:k<8):(be 8 n).take (k+1)=(be 8 n).take k++[n / 256 ^ (7-k) % 256]:=by
 have h1:=YK n k (8-k);rw [show k+(8-k)=8 from by omega] at h1;have h2:be (8-k) n=(n / 256 ^ (7-k) % 256)::be (7-k) n:=by
  rw [show 8-k=(7-k)+1 from by omega,rE]
 rw [List.take_add_one];congr 1;have h3:(be 8 n)[k]? = ((be 8 n).drop k)[0]? := by rw [List.getElem?_drop];rfl
 rw [h3,h1,h2];rfl
theorem aqK (m:Nat):(2:Int) ^ (8*m)=256 ^ m:=by rw [Int.pow_mul];rfl
theorem aht {δ:Type} (x:Int) (hx:0<=x/\x<9223372036854775808) (L:List Int) (hL:L.length<=1000000):aA (d8B (δ:=δ) x) ((56:Int),L)=some (.inl ((-8:Int),(L++be 8 x,x))):=by
 refine bQ (fun k=>((56:Int)-8*((k:Nat):Int),L++(be 8 x).take k)) 8 (by simp) (fun k hk => ?_) ?_
 ·have hl:((be 8 x).take k).length=k:=by rw [List.length_take,dA];omega
  have hp:(2:Int) ^ (Min.min (Int.toNat ((56:Int)-8*((k:Nat):Int))) 64)=256 ^ (7-k):=by
   rw [show Min.min (Int.toNat ((56:Int)-8*((k:Nat):Int))) 64=8*(7-k) from by omega,aqK]
  have hpos:(0:Int)<=256 ^ (7-k):=Int.pow_nonneg (by decide);have hv:IntKind.wrap .u8 (Int.fdiv (IntKind.wrap .u64 x) ((2:Int) ^ (Min.min (Int.toNat ((56:Int)-8*((k:Nat):Int))) 64)))=x / 256 ^ (7-k) % 256:=by
   rw [hp,Di,yS,show x % 18446744073709551616=x from by omega,Int.fdiv_eq_ediv_of_nonneg _ hpos]
  rw [ahs x hk,<-List.append_assoc];unfold d8B;simp (disch:=(first | omega | (simp only [bM];omega))) only [↓aN,aQ,if_pos,hv,aj];rw [show (56:Int)-8*((k:Nat):Int)-8=56-8*((k+1:Nat):Int) from by omega]
 ·unfold d8B;rw [List.take_of_length_le (show (be 8 x).length<=8 by rw [dA];omega)];simp (disch:=(first | omega | (simp only [bM];omega))) only [↓aN,aQ,if_neg];rfl
theorem Jf {α β:Type} (f:α->List β) (l:List α) (d:α) {i:Nat} (h:i<l.length):(l.take (i+1)).flatMap f=(l.take i).flatMap f++f (l.getD i d):=by
 rw [take_snoc l d h,List.flatMap_append,List.flatMap_singleton]
theorem EP (l:List Int):(l.flatMap (be 8)).length=8*l.length:=by
 induction l with
 | nil=>rfl
 | cons x l ih=>rw [List.flatMap_cons,List.length_append,ih,dA,List.length_cons];omega
theorem Ak (t:Tx):(tB t).length=2+t.length:=by rw [tB,List.length_append,dA,txB,List.length_map]
theorem YL {l:List Tx} (h:∀t∈l,t.length<=1000):(l.flatMap tB).length<=1002*l.length:=by
 induction l with
 | nil=>simp
 | cons x l ih =>
   rw [List.flatMap_cons,List.length_append,Ak,List.length_cons];have:=ih fun t ht=>h t (List.mem_cons_of_mem _ ht);have:=h x List.mem_cons_self;omega
theorem getD_mem {α:Type} {l:List α} {d:α} {i:Nat} (h:i<l.length):l.getD i d∈l:=by
 rw [List.getD_eq_getElem?_getD,List.getElem?_eq_getElem h];exact List.getElem_mem h
def DOk (ns:List Int) (ts:List Tx):Prop:=(ns.length<=10/\∀n∈ns,0<=n/\n<9223372036854775808)/\(ts.length<=10/\∀t∈ts,t.length<=1000)
theorem be2 (n:Int):be 2 n=[n / 256 % 256,n % 256]:=by
 rw [rE,rE];simp [be]
theorem alT {ns:List Int} {ts:List Tx} (h:DOk ns ts):gQ (ns,ts)=some (Dl ns ts):=by
 obtain ⟨⟨h1,h2⟩,h3,h4⟩:=h;rw [aoC];have hn:∀ {δ:Type},aA (dnB (δ:=δ) ns) ((0:Int),([]:List Int))=some (.inl (ns.flatMap (be 8))):=fun {δ}=>by
  refine bQ (fun i=>(((i:Nat):Int),(ns.take i).flatMap (be 8))) ns.length (by simp) (fun i hi => ?_) ?_
  ·obtain ⟨x,hx,hxb⟩:=get_at (0:Int) hi;have hm:=h2 _ (getD_mem (d:=(0:Int)) hi);rw [Jf (be 8) ns 0 hi];rw [hx] at hm ⊢;have hl:((ns.take i).flatMap (be 8)).length<=1000:=by rw [EP,List.length_take];omega
   generalize (ns.take i).flatMap (be 8)=L at *
   unfold dnB;simp (disch:=(first | omega | (simp only [bM];omega))) only [↓aN,aQ,if_pos,↓hxb,↓aht x hm L (by omega),aj];rfl
  ·unfold dnB;simp (disch:=(first | omega | (simp only [bM];omega))) only [↓aN,aQ,if_neg]
 have ht:∀ {δ:Type} (L:List Int),L.length<=1000->aA (dtB (δ:=δ) ts) ((0:Int),L)=some (.inl (L++ts.flatMap tB)):=fun {δ} L hL=>by
  refine bQ (fun i=>(((i:Nat):Int),L++(ts.take i).flatMap tB)) ts.length (by simp) (fun i hi => ?_) ?_
  ·obtain ⟨x,hx,hxb⟩:=get_at ([]:Tx) hi;have hm:=h4 _ (getD_mem (d:=([]:Tx)) hi);have hl:=YL (l:=ts.take i) fun t ht=>h4 t (List.mem_of_mem_take ht);rw [List.length_take] at hl;rw [Jf tB ts [] hi,<-List.append_assoc];rw [hx] at hm ⊢;generalize hM:L++(ts.take i).flatMap tB=M;have hMl:M.length<=20000:=by rw [<-hM,List.length_append];omega
   have e1:IntKind.wrap .u8 (Int.fdiv (x.length:Int) (256:Int))=((x.length:Nat):Int) / 256 % 256:=by rw [yS,Int.fdiv_eq_ediv_of_nonneg _ (by decide)]
   have e2:IntKind.wrap .u8 (x.length:Int)=((x.length:Nat):Int) % 256:=by rw [yS]
   rw [tB,be2];unfold dtB;have hl2:∀f:UInt8->Int,(List.map f x).length=x.length:=fun f=>List.length_map ..;simp (disch:=first | omega | (simp only [List.length_append,List.length_cons,List.length_nil,List.length_map];omega)) only [↓aN,aQ,if_pos,↓hxb,e1,e2,aj,List.append_assoc];rfl
  ·unfold dtB;simp (disch:=(first | omega | (simp only [bM];omega))) only [↓aN,aQ,if_neg]
 rw [hn];simp only [↓aN,aQ];rw [ht _ (by rw [EP];omega)];simp only [↓aN,aQ];rfl
end Go.Proofs.YtkpijdndakljjaaGreat

namespace Go.Proofs.YtkpijdndakljjaaGreat
open Go.RowKit
open Jn (be dA rE qc)
theorem ahu (n:Int) (m:Nat) (v:Int) (L:List Int):(List.replicate (m+1) (0:Int)++L).set m v=List.replicate m 0++(v::L):=by
 rw [List.set_append];rw [if_pos (by simp)];rw [List.replicate_succ',List.set_append];rw [if_neg (by simp),List.length_replicate,Nat.sub_self,List.set_cons_zero,List.append_assoc];rfl
theorem aez (n:Int) (hn:0<=n/\n<9223372036854775808):jg n=some (be 8 n):=by
 rw [aoD];have hloop:∀ {δ:Type},aA (nuB (δ:=δ)) ((7:Int),(n,(List.replicate 8 (0:Int))))=some (.inl (be 8 n)):=fun {δ}=>by
  refine bQ (fun k=>((7:Int)-((k:Nat):Int),(n / 256 ^ k,List.replicate (8-k) (0:Int)++be k n))) 8 (by simp [be]) (fun k hk => ?_) ?_
  ·have hp:(0:Int)<256 ^ k:=Int.pow_pos (by decide);have h0:0<=n / 256 ^ k:=Int.ediv_nonneg hn.1 (Int.le_of_lt hp);have h1:n / 256 ^ k<=n:=Int.ediv_le_self _ hn.1;have hlen:(List.replicate (8-k) (0:Int)++be k n).length=8:=by rw [List.length_append,List.length_replicate,dA];omega
   have e1:Int.tdiv (n / 256 ^ k) (256:Int)=n / 256 ^ (k+1):=by rw [Int.tdiv_eq_ediv_of_nonneg h0,Int.ediv_ediv_of_nonneg (Int.le_of_lt hp),Int.pow_succ]
   have e2:Int.tmod (n / 256 ^ k) (256:Int)=n / 256 ^ k % 256:=Int.tmod_eq_emod_of_nonneg h0;have h2:n / 256 ^ (k+1)<=n:=Int.ediv_le_self _ hn.1;have h3:0<=n / 256 ^ (k+1):=Int.ediv_nonneg hn.1 (Int.le_of_lt (Int.pow_pos (by decide)));have hset:=ahu n (7-k) (n / 256 ^ k % 256) (be k n);rw [show 7-k+1=8-k from by omega] at hset;have hix:Int.toNat ((7:Int)-((k:Nat):Int))=7-k:=by omega
   obtain ⟨y,hy⟩:∃y,(List.replicate (8-k) (0:Int)++be k n)[7-k]? = some y:=⟨_,List.getElem?_eq_getElem (by rw [hlen];omega)⟩
   have hw:IntKind.wrap .u8 (n / 256 ^ k % 256)=n / 256 ^ k % 256:=by rw [yS];omega
   rw [rE,show 8-(k+1)=7-k from by omega,show (7:Int)-((k+1:Nat):Int)=7-((k:Nat):Int)-1 from by omega];unfold nuB;simp only [↓aN,aQ,if_pos (show (7:Int)-((k:Nat):Int)>=0 by omega),if_pos (show (0:Int)<=(7:Int)-((k:Nat):Int)/\(7:Int)-((k:Nat):Int)<8 by omega),hix,hy,e1,e2,hw,hset,aj (show -9223372036854775808<=n / 256 ^ (k+1)/\n / 256 ^ (k+1)<=9223372036854775807 by omega),aj (show -9223372036854775808<=(7:Int)-((k:Nat):Int)-1/\(7:Int)-((k:Nat):Int)-1<=9223372036854775807 by omega)]
  ·unfold nuB;simp (disch:=(first | omega | (simp only [bM];omega))) only [↓aN,aQ,if_neg];rfl
 rw [hloop];have hl:=dA 8 n;simp only [↓aN,aQ,hl];rw [List.take_of_length_le (by omega)]
theorem ahv {ns:List Int} {ts:List Tx} (h:DOk ns ts):bY (ns,ts)=some (Dl ns ts):=by
 obtain ⟨⟨h1,h2⟩,h3,h4⟩:=h;rw [aoE];have hn:∀ {δ:Type},aA (drB (δ:=δ) ns) ((0:Int),([]:List Int))=some (.inl (ns.flatMap (be 8))):=fun {δ}=>by
  refine bQ (fun i=>(((i:Nat):Int),(ns.take i).flatMap (be 8))) ns.length (by simp) (fun i hi => ?_) ?_
  ·obtain ⟨x,hx,hxb⟩:=get_at (0:Int) hi;have hm:=h2 _ (getD_mem (d:=(0:Int)) hi);rw [Jf (be 8) ns 0 hi];rw [hx] at hm ⊢;have hl:((ns.take i).flatMap (be 8)).length<=1000:=by rw [EP,List.length_take];omega
   have hl8:=dA 8 x;generalize (ns.take i).flatMap (be 8)=L at *
   unfold drB;simp (disch:=first | omega | (simp only [List.length_append,hl8];omega)) only [↓aN,aQ,if_pos,↓hxb,aez x hm,aj];rfl
  ·unfold drB;simp (disch:=(first | omega | (simp only [bM];omega))) only [↓aN,aQ,if_neg]
 have ht:∀ {δ:Type} (L:List Int),L.length<=1000->aA (trB (δ:=δ) ts) ((0:Int),L)=some (.inl (L++ts.flatMap tB)):=fun {δ} L hL=>by
  refine bQ (fun i=>(((i:Nat):Int),L++(ts.take i).flatMap tB)) ts.length (by simp) (fun i hi => ?_) ?_
  ·obtain ⟨x,hx,hxb⟩:=get_at ([]:Tx) hi;have hm:=h4 _ (getD_mem (d:=([]:Tx)) hi);have hl:=YL (l:=ts.take i) fun t ht=>h4 t (List.mem_of_mem_take ht);rw [List.length_take] at hl;rw [Jf tB ts [] hi,<-List.append_assoc];rw [hx] at hm ⊢;generalize hM:L++(ts.take i).flatMap tB=M;have hMl:M.length<=20000:=by rw [<-hM,List.length_append];omega
   have e1:IntKind.wrap .u8 (IntKind.wrap .i64 (Int.tdiv (x.length:Int) (256:Int)))=((x.length:Nat):Int) / 256 % 256:=by
    rw [Int.tdiv_eq_ediv_of_nonneg (by omega),aj (by omega),yS]
   have e2:IntKind.wrap .u8 (Int.tmod (x.length:Int) (256:Int))=((x.length:Nat):Int) % 256:=by
    rw [Int.tmod_eq_emod_of_nonneg (by omega),yS];omega
   rw [tB,be2];unfold trB;simp (disch:=first | omega | (simp only [List.length_append,List.length_cons,List.length_nil,List.length_map];omega)) only [↓aN,aQ,if_pos,↓hxb,e1,e2,aj,List.append_assoc];rfl
  ·unfold trB;simp (disch:=(first | omega | (simp only [bM];omega))) only [↓aN,aQ,if_neg]
 rw [hn];simp only [↓aN,aQ];rw [ht _ (by rw [EP];omega)];simp only [↓aN,aQ];rfl
theorem aeA (t:Tx):Bytes (txB t):=fun x hx=>by
 rw [txB,List.mem_map] at hx;obtain ⟨y,_,rfl⟩:=hx;have:=y.toNat_lt;omega
theorem LW {α:Type} (f:α->List Int) (h:∀a,Bytes (f a)):∀l:List α,Bytes (l.flatMap f)
 | []=>fun x hx=>by cases hx
 | a::l=>by rw [List.flatMap_cons];exact (h a).app (LW f h l)
theorem lS (ns:List Int) (ts:List Tx):Bytes (Dl ns ts):=(LW _ (qc 8) ns).app (LW _ (fun t=>(qc 2 _).app (aeA t)) ts)
theorem nD (ns:List Int) (ts:List Tx):(Dl ns ts).length=8*ns.length+(ts.flatMap tB).length:=by rw [Dl,List.length_append,EP]
def aoW (lg:List Int×(Int×Int)) (k:Int) (d:List Int):List Int×(Int×Int):=(lg.1++Jn.vH lg.2.2 k d,(lg.2.1,lg.2.2+1))
def LX (lg:List Int×(Int×Int)):Prop:=lg.1.length<=900000/\(0<=lg.2.1/\lg.2.1<=(lg.1.length:Int))/\(0<=lg.2.2/\lg.2.2<1048576)
theorem ahw {lg:List Int×(Int×Int)} {k:Int} {d:List Int} (h:LX lg) (hk:0<=k/\k<=255) (hd:Bytes d) (hl:d.length<=4096):dV (lg,(k,d))=some (aoW lg k d,0):=by
 obtain ⟨B,s,n⟩:=lg;obtain ⟨h1,h2,h3⟩:=h;simp only at h1 h2 h3;unfold dV;simp (disch:=(first | omega | (simp only [bM];omega))) only [↓aN,aQ,if_neg,↓Jn.aew B s n k d h1 h2 h3 ⟨hk,hd,hl⟩];rfl
theorem WC {lg:List Int×(Int×Int)} {k:Int} {d:List Int} (h:lg.2.2>=1048576):dV (lg,(k,d))=some (([],(0,0)),10):=by
 obtain ⟨B,s,n⟩:=lg;unfold dV;simp (disch:=(first | omega | (simp only [bM];omega))) only [↓aN,aQ,if_pos]
theorem alU {lg:List Int×(Int×Int)} {k:Int} {d:List Int} (h:LX lg) (hk:0<=k/\k<=255) (hd:Bytes d) (hl:d.length<=4096):iC (lg,(k,d))=some (aoW lg k d,0):=by
 obtain ⟨B,s,n⟩:=lg;obtain ⟨h1,h2,h3⟩:=h;simp only at h1 h2 h3;have he:Jn.encS n k d=(Jn.vH n k d,0):=by
  unfold Jn.encS;rw [if_neg (by omega),if_neg (by omega),if_neg (by omega)]
 have hen:=Jn.Un n k d (by omega) hk hd;rw [he] at hen;have lB:=Jn.o8 n k d;unfold iC;simp (disch:=(first | omega | (simp only [bM];omega))) only [↓aN,aQ,↓aoV,decide_true,hen,if_pos,if_neg,ne_eq,not_true_eq_false,decide_false,aj];rfl
end Go.Proofs.YtkpijdndakljjaaGreat

set_option maxHeartbeats 4000000
namespace Go.Proofs.YtkpijdndakljjaaGreat
open Go.RowKit
theorem aa3 {β:Type} {B:List Int} {s n k:Int} {d:List Int} (h:LX (B,(s,n))) (hk:0<=k/\k<=255) (hd:Bytes d) (hl:d.length<=4096) (f:(List Int×(Int×Int))×Int->Option β):ah (dV ((B,(s,n)),(k,d))) f=f ((B++Jn.vH n k d,(s,n+1)),0):=by rw [ahw h hk hd hl];rfl
theorem aa4 {β:Type} {B:List Int} {s n k:Int} {d:List Int} (h:n>=1048576) (f:(List Int×(Int×Int))×Int->Option β):ah (dV ((B,(s,n)),(k,d))) f=f (([],(0,0)),10):=by rw [WC (lg:=(B,(s,n))) h];rfl
theorem aoX {β:Type} {B:List Int} {s n k:Int} {d:List Int} (h:LX (B,(s,n))) (hk:0<=k/\k<=255) (hd:Bytes d) (hl:d.length<=4096) (f:(List Int×(Int×Int))×Int->Option β):ah (iC ((B,(s,n)),(k,d))) f=f ((B++Jn.vH n k d,(s,n+1)),0):=by rw [alU h hk hd hl];rfl
theorem sO {β:Type} {ns:List Int} {ts:List Tx} (h:DOk ns ts) (f:List Int->Option β):ah (gQ (ns,ts)) f=f (Dl ns ts):=by rw [alT h];rfl
theorem ahx {β:Type} {ns:List Int} {ts:List Tx} (h:DOk ns ts) (f:List Int->Option β):ah (bY (ns,ts)) f=f (Dl ns ts):=by rw [ahv h];rfl
theorem qh {α β:Type} {l:List α} (h:l.length<=1000000) (f:List α->Option β):ah (kX l) f=f l:=by
 unfold kX;rw [decide_eq_true h];rfl
theorem aiQ {α β:Type} {l:List α} {p:Nat} {v:α} (h:l.length<=1000000) (hp:p<=l.length) (f:List α->Option β):ah (Qx (l,(((p:Nat):Int),[v]))) f=f (l.take p++[v]++l.drop p):=by
 unfold Qx;simp only [aK];rw [if_pos h,if_pos (by omega),if_pos (show [v].length=1 from rfl),Int.toNat_natCast];rfl
theorem aeB {α β:Type} {l:List α} {p:Nat} {j:Int} (h:l.length<=1000000) (hp:p<l.length) (hj:j=((p:Nat):Int)+1) (f:List α->Option β):ah (MZ (l,(((p:Nat):Int),j))) f=f (l.take p++l.drop (p+1)):=by
 unfold MZ;simp only [aK];rw [if_pos h,if_pos (by omega),if_pos hj,Int.toNat_natCast];rfl
theorem YM {β:Type} (t:Int) (a b c:Tx) (f:BL->Option β):ah (nY (t,(a,(b,c)))) f=f (a,(b,(c,(t,(-1,(t,(0,(0,(0,false))))))))):=rfl
theorem sS {β:Type} (g:LG) (c:Tx) (hl:g.2.2.2.1.length<=1000000) (hs:QT g.2.2.2.1) (f:Int×Bool->Option β):ah (iZ (g,c)) f=f (((dW c g.2.2.2.1:Nat):Int),tf (vI c g.2.2.2.1)):=by rw [alR g c hl hs];rfl
theorem aeC {β:Type} {g:LG} {c:Tx} (hl:g.2.2.2.1.length<=1000000) (hs:QT g.2.2.2.1) (h:vI c g.2.2.2.1) (f:Int->Option β):ah (fQ (g,c)) f=f ((dW c g.2.2.2.1:Nat):Int):=by
 rcases aiO g c hl hs with ⟨_,e⟩ | ⟨k,_⟩
 ·rw [e];rfl
 ·exact (k h).elim
theorem aeD {β:Type} {g:LG} {c:Tx} (hl:g.2.2.2.1.length<=1000000) (hs:QT g.2.2.2.1) (h:¬vI c g.2.2.2.1) (f:Int->Option β):ah (fQ (g,c)) f=f (-1):=by
 rcases aiO g c hl hs with ⟨k,_⟩ | ⟨_,e⟩
 ·exact (h k).elim
 ·rw [e];rfl
theorem aeE {β:Type} (l:List BL) (b:BL) (hl:l.length<=1000000) (f:List BL->Option β):ah (fU (l,b)) f=f (l.take (dW b.1 l)++[b]++l.drop (dW b.1 l)):=by rw [alS l b hl];rfl
theorem Am {β:Type} (g:LG) (f:Bool->Option β):ah (jX g) f=f (decide (g.2.2.1>=1048576)):=by rw [aoR];rfl
def Tm (g:LG) (n:Int):Prop:=VL g/\g.2.2.2.2.2<=n/\n<=1099511627776
def zG:LG:=([],(0,(0,([],(0,0)))))
def bgn (b:BL):BL:=(b.1,(b.2.1,(b.2.2.1,(b.2.2.2.1,(-1,(b.2.2.2.1,(0,(0,(0,false)))))))))
def yI (l:List BL) (b:BL):List BL:=l.take (dW b.1 l)++[b]++l.drop (dW b.1 l)
def BA (g:LG) (b:BL):Prop:=Tm g b.2.2.2.1/\(1<=b.1.length/\b.1.length<=200/\b.2.1.length<=200/\b.2.2.1.length<=200)
def dB (b:BL):List Int:=Dl [b.2.2.2.1] [b.1,b.2.1,b.2.2.1]
open Classical in
noncomputable def alV (g:LG) (b:BL):LG×Int :=
 if BA g b then (if vI b.1 g.2.2.2.1 then (zG,7) else if opn g.2.2.2.1>=256\/g.2.2.1>=1048576 then (zG,10) else
  ((g.1++Jn.vH g.2.2.1 1 (dB b),(g.2.1,(g.2.2.1+1,(yI g.2.2.2.1 (bgn b),(g.2.2.2.2.1,b.2.2.2.1))))),0)) else (zG,2)
theorem VL.lg {g:LG} (h:VL g) (hB:g.1.length<=900000) (hc:g.2.2.1<1048576):LX (g.1,(g.2.1,g.2.2.1)):=⟨hB,⟨h.1.1,h.1.2.1⟩,⟨h.1.2.2.1,hc⟩⟩
theorem aoY {g:LG} {b:BL} (h:BA g b):DOk [b.2.2.2.1] [b.1,b.2.1,b.2.2.1]/\(dB b).length<=4096:=by
 obtain ⟨⟨hv,h1,h2⟩,h3⟩:=h;have h0:=hv.2.1;refine ⟨⟨⟨by simp,fun n hn => ?_⟩,by simp,fun t ht => ?_⟩,?_⟩
 ·rw [List.mem_singleton] at hn;subst hn;omega
 ·simp only [List.mem_cons,List.not_mem_nil,or_false] at ht;rcases ht with rfl | rfl | rfl<;>omega
 ·rw [dB,nD];simp only [List.flatMap_cons,List.flatMap_nil,List.length_append,Ak,List.length_cons,List.length_nil];omega
theorem ahy (g:LG) (b:BL) (hl:g.2.2.2.1.length<=1000000) (hB:g.1.length<=900000):nZ (g,b)=some (alV g b):=by
 have ho:=lN g.2.2.2.1;rw [aoO];unfold alV;by_cases h:BA g b
 ·rw [if_pos h];have hd:=aoY h;obtain ⟨⟨hv,t1,t2⟩,l1,l2,l3,l4⟩:=h;have hs:=hv.srt;have hp:=sK b.1 g.2.2.2.1;by_cases hf:vI b.1 g.2.2.2.1
  ·rw [if_pos hf];simp (disch:=(first | omega | (simp only [bM];omega))) only [↓aN,aQ,↓(qw g hl).b,iU hv,↓jD,if_pos,if_neg,↓sS g b.1 hl hs,iU hf];rfl
  ·rw [if_neg hf];by_cases hfull:opn g.2.2.2.1>=256\/g.2.2.1>=1048576
   ·rw [if_pos hfull];by_cases ho6:opn g.2.2.2.1>=256
    ·simp (disch:=(first | omega | (simp only [bM];omega))) only [↓aN,aQ,↓(qw g hl).b,iU hv,↓jD,if_pos,if_neg,↓sS g b.1 hl hs,mg hf,↓QO _ hl];rfl
    ·have hc:g.2.2.1>=1048576:=by omega
     simp (disch:=(first | omega | (simp only [bM];omega))) only [↓aN,aQ,↓(qw g hl).b,iU hv,↓jD,if_pos,if_neg,↓sS g b.1 hl hs,mg hf,↓QO _ hl,↓sO hd.1,↓aa4 hc];rfl
   ·rw [if_neg hfull];have hlg:=hv.lg hB (by omega);simp (disch:=(first | omega | (simp only [bM];omega))) only [↓aN,aQ,↓(qw g hl).b,iU hv,↓jD,if_pos,if_neg,↓sS g b.1 hl hs,mg hf,↓QO _ hl,↓sO hd.1,↓aa3 hlg (show (0:Int)<=1/\(1:Int)<=255 by omega) (lS _ _) hd.2,↓qh hl,↓YM,↓aiQ hl (show dW b.1 g.2.2.2.1<=g.2.2.2.1.length by omega),decide_true,Bool.and_true,Bool.true_and];rfl
 ·rw [if_neg h];by_cases hv:VL g
  ·have h0:=hv.2.1;by_cases h1:g.2.2.2.2.2<=b.2.2.2.1/\b.2.2.2.1<=1099511627776
   ·by_cases h2:1<=b.1.length/\b.1.length<=200
    ·by_cases h3:b.2.1.length<=200
     ·by_cases h4:b.2.2.1.length<=200
      ·exact (h ⟨⟨hv,h1⟩,h2.1,h2.2,h3,h4⟩).elim
      ·simp (disch:=(first | omega | (simp only [bM];omega))) only [↓aN,aQ,↓(qw g hl).b,iU hv,↓jD,if_pos,if_neg];rfl
     ·simp (disch:=(first | omega | (simp only [bM];omega))) only [↓aN,aQ,↓(qw g hl).b,iU hv,↓jD,if_pos,if_neg];rfl
    ·simp (disch:=(first | omega | (simp only [bM];omega))) only [↓aN,aQ,↓(qw g hl).b,iU hv,↓jD,if_pos,if_neg];rfl
   ·simp (disch:=(first | omega | (simp only [bM];omega))) only [↓aN,aQ,↓(qw g hl).b,iU hv,↓jD,if_neg,h1,decide_false];rfl
  ·simp only [↓aN,aQ,↓(qw g hl).b,mg hv];rfl
theorem qQ {l r:List BL} {i:Nat} (h:i<l.length):(l++r).getD i b0=l.getD i b0:=by
 rw [List.getD_eq_getElem?_getD,List.getD_eq_getElem?_getD,List.getElem?_append_left h]
theorem YN {c:Tx}:∀ {l:List BL} {r:List BL},(∀i,i<l.length->(l.getD i b0).2.2.2.2.2.2.1=0/\Op.bytesLess (l.getD i b0).1 c=true)->dW c (l++r)=l.length+dW c r
 | [],r,_=>by simp
 | x::l,r,h=>by
   have h0:=h 0 (by simp);rw [List.getD_cons_zero] at h0;rw [List.cons_append,dW,if_pos h0,YN fun i hi=>by have:=h (i+1) (by simpa using hi);rwa [List.getD_cons_succ] at this];rw [List.length_cons];omega
theorem aeF {c:Tx}:∀ {l:List BL},(∀x∈l.head?,¬(x.2.2.2.2.2.2.1=0/\Op.bytesLess x.1 c=true))->dW c l=0
 | [],_=>rfl
 | x::l,h=>by rw [dW,if_neg (h x rfl)]
theorem ahz {c:Tx} {l:List BL} (hs:QT l) (h:vI c l):dW c (l.take (dW c l)++l.drop (dW c l+1))=dW c l:=by
 obtain ⟨h1,h2⟩:=h;have ho:=lN l;have hlen:(l.take (dW c l)).length=dW c l:=by rw [List.length_take];omega
 have hz:dW c (l.drop (dW c l+1))=0:=aeF fun x hx=>by
  rintro ⟨k1,k2⟩;rw [List.head?_drop] at hx;have hx':l[dW c l+1]? = some x:=hx;have hlt:=(List.getElem?_eq_some_iff.1 hx').1;have hg:l.getD (dW c l+1) b0=x:=by rw [List.getD_eq_getElem?_getD,hx'];rfl
  by_cases hop:dW c l+1<opn l
  ·have:=hs _ _ (Nat.lt_succ_self (dW c l)) hop;rw [h2,hg] at this;have:=Uo this k2;rw [LP] at this;cases this
  ·have he:opn l=dW c l+1:=by omega
   have:=QN (l:=l) (by omega);rw [he,hg] at this;exact this k1
 rw [YN (fun i hi=>by
  rw [hlen] at hi;rw [getD_take _ _ hi];exact ⟨Dk (by omega),Gw hi⟩),hlen,hz,Nat.add_zero]
theorem alW (l:List BL) {p:Nat} (h:p<l.length) (b:BL):l.take p++[b]++l.drop (p+1)=l.set p b:=by
 rw [List.set_eq_take_append_cons_drop,if_pos h,List.append_assoc];rfl
theorem aeG {l:List BL} {b:BL} (hs:QT l) (h:vI b.1 l):yI (l.take (dW b.1 l)++l.drop (dW b.1 l+1)) b=l.set (dW b.1 l) b:=by
 have ho:=lN l;have h1:=h.1;have hlen:(l.take (dW b.1 l)).length=dW b.1 l:=by rw [List.length_take];omega
 unfold yI;rw [ahz hs h,List.take_append_of_le_length (by omega),List.take_of_length_le (by omega),List.drop_append_of_le_length (by omega),List.drop_of_length_le (by omega),List.nil_append];exact alW l (by omega) b
def Iy (g:LG) (bs:List BL) (last t:Int):LG:=(g.1,(g.2.1,(g.2.2.1,(bs,(last,fV g.2.2.2.2.2 t)))))
theorem aoZ (g:LG) (t n1 n2 n3:Int) (c f to:Tx) (hl:g.2.2.2.1.length<=1000000) (hs:QT g.2.2.2.1) :
 ((¬vI c g.2.2.2.1/\opn g.2.2.2.1<256/\1<=c.length/\c.length<=200/\f.length<=200/\to.length<=200)/\aZ (g,(1,(t,(n1,(n2,(n3,(c,(f,to))))))))=some (Iy g (yI g.2.2.2.1 (c,(f,(to,(t,(-1,(t,(0,(0,(0,false)))))))))) g.2.2.2.2.1 t,true)) \/
 (¬(¬vI c g.2.2.2.1/\opn g.2.2.2.1<256/\1<=c.length/\c.length<=200/\f.length<=200/\to.length<=200)/\aZ (g,(1,(t,(n1,(n2,(n3,(c,(f,to))))))))=some (Iy g g.2.2.2.1 g.2.2.2.2.1 t,false)):=by
 rw [YF];have ho:=lN g.2.2.2.1;have hF:=@aeC (LG×Bool) (Iy g g.2.2.2.1 g.2.2.2.2.1 t) c hl hs;have hN:=@aeD (LG×Bool) (Iy g g.2.2.2.1 g.2.2.2.2.1 t) c hl hs;have hO:=@aa1 (Unit ⊕ (LG×Bool)) (Iy g g.2.2.2.1 g.2.2.2.2.1 t) hl;unfold Iy at hF hN hO;simp only at hF hN hO;by_cases hf:vI c g.2.2.2.1
 ·refine .inr ⟨fun h=>h.1 hf,?_⟩;simp (disch:=(first | omega | (simp only [bM];omega))) only [↓aN,aQ,if_pos,if_neg,↓hF hf];rfl
 ·by_cases h2:opn g.2.2.2.1<256
  ·by_cases h3:c=[]
   ·have h3:=eq_true h3;refine .inr ⟨fun h=>by have:=List.length_eq_zero_iff.2 (of_eq_true h3);omega,?_⟩;simp (disch:=(first | omega | (simp only [bM];omega))) only [↓aN,aQ,if_pos,if_neg,↓hN hf,↓hO,h3];rfl
   ·have h3':1<=c.length:=by
     rcases Nat.eq_zero_or_pos c.length with e | e
     ·exact (h3 (List.length_eq_zero_iff.1 e)).elim
     ·exact e
    have h3:=eq_false h3;by_cases h4:c.length<=200
    ·by_cases h5:f.length<=200
     ·by_cases h6:to.length<=200
      ·refine .inl ⟨⟨hf,h2,h3',h4,h5,h6⟩,?_⟩;simp (disch:=(first | omega | (simp only [bM];omega))) only [↓aN,aQ,if_pos,if_neg,↓hN hf,↓hO,h3,↓aeE _ _ hl];rfl
      ·refine .inr ⟨fun h=>by omega,?_⟩;simp (disch:=(first | omega | (simp only [bM];omega))) only [↓aN,aQ,if_pos,if_neg,↓hN hf,↓hO,h3];rfl
     ·refine .inr ⟨fun h=>by omega,?_⟩;simp (disch:=(first | omega | (simp only [bM];omega))) only [↓aN,aQ,if_pos,if_neg,↓hN hf,↓hO,h3];rfl
    ·refine .inr ⟨fun h=>by omega,?_⟩;simp (disch:=(first | omega | (simp only [bM];omega))) only [↓aN,aQ,if_pos,if_neg,↓hN hf,↓hO,h3];rfl
  ·refine .inr ⟨fun h=>h2 h.2.1,?_⟩;simp (disch:=(first | omega | (simp only [bM];omega))) only [↓aN,aQ,if_pos,if_neg,↓hN hf,↓hO];rfl
def YO (k t:Int) (x:BL):BL:=(x.1,(x.2.1,(x.2.2.1,(x.2.2.2.1,(if k=2 then t else x.2.2.2.2.1,(t,x.2.2.2.2.2.2))))))
theorem alX (g:LG) (k t n1 n2 n3:Int) (c f to:Tx) (hk:k=2\/k=3) (hl:g.2.2.2.1.length<=1000000) (hs:QT g.2.2.2.1) :
 ((vI c g.2.2.2.1/\(g.2.2.2.1.getD (dW c g.2.2.2.1) b0).2.2.2.2.2.1<=t/\(k=2->(g.2.2.2.1.getD (dW c g.2.2.2.1) b0).2.2.2.2.1<0))/\aZ (g,(k,(t,(n1,(n2,(n3,(c,(f,to))))))))=some (Iy g (g.2.2.2.1.set (dW c g.2.2.2.1) (YO k t (g.2.2.2.1.getD (dW c g.2.2.2.1) b0))) g.2.2.2.2.1 t,true)) \/
 (¬(vI c g.2.2.2.1/\(g.2.2.2.1.getD (dW c g.2.2.2.1) b0).2.2.2.2.2.1<=t/\(k=2->(g.2.2.2.1.getD (dW c g.2.2.2.1) b0).2.2.2.2.1<0))/\aZ (g,(k,(t,(n1,(n2,(n3,(c,(f,to))))))))=some (Iy g g.2.2.2.1 g.2.2.2.2.1 t,false)):=by
 rw [YF];have ho:=lN g.2.2.2.1;have hF:=@aeC (LG×Bool) (Iy g g.2.2.2.1 g.2.2.2.2.1 t) c hl hs;have hN:=@aeD (LG×Bool) (Iy g g.2.2.2.1 g.2.2.2.2.1 t) c hl hs;unfold Iy at hF hN;simp only at hF hN;have hk5:¬k=5:=by omega
 have hk1:¬k=1:=by omega
 by_cases hf:vI c g.2.2.2.1
 ·obtain ⟨x,hx,hxb⟩:=get_at b0 (show dW c g.2.2.2.1<g.2.2.2.1.length by have:=hf.1;omega);have hlt:dW c g.2.2.2.1<g.2.2.2.1.length:=by have:=hf.1;omega
  have hxc:x.1=c:=by rw [<-hx];exact hf.2
  rw [hx];by_cases h2:x.2.2.2.2.2.1<=t
  ·by_cases h3:k=2->x.2.2.2.2.1<0
   ·refine .inl ⟨⟨hf,h2,h3⟩,?_⟩;have hrl:(g.2.2.2.1.take (dW c g.2.2.2.1)++g.2.2.2.1.drop (dW c g.2.2.2.1+1)).length<=1000000:=by rw [List.length_append,List.length_take,List.length_drop];omega
    have hins:∀b:BL,b.1=c->yI (g.2.2.2.1.take (dW c g.2.2.2.1)++g.2.2.2.1.drop (dW c g.2.2.2.1+1)) b=g.2.2.2.1.set (dW c g.2.2.2.1) b:=fun b hb=>by
     subst hb;exact aeG hs hf
    have hW:=fun (f:List BL->Option (LG×Bool)) (b:BL)=>aeE (g.2.2.2.1.take (dW c g.2.2.2.1)++g.2.2.2.1.drop (dW c g.2.2.2.1+1)) b hrl f;have e1:Int.toNat (((dW c g.2.2.2.1:Nat):Int)+1)=dW c g.2.2.2.1+1:=by omega
    rcases hk with rfl | rfl
    ·have h4:=h3 rfl;simp (disch:=(first | omega | (simp only [bM];omega))) only [↓aN,aQ,if_pos,if_neg,↓hF hf,↓hxb,aj,Int.toNat_natCast,e1,↓hW];have:=hins (YO 2 t x) hxc;unfold yI at this;rw [show (YO 2 t x).1=x.1 from rfl] at this;unfold Iy YO;unfold YO at this;rw [if_pos rfl] at this ⊢;rw [<-this]
    ·simp (disch:=(first | omega | (simp only [bM];omega))) only [↓aN,aQ,if_pos,if_neg,↓hF hf,↓hxb,aj,Int.toNat_natCast,e1,↓hW];have:=hins (YO 3 t x) hxc;unfold yI at this;rw [show (YO 3 t x).1=x.1 from rfl] at this;unfold Iy YO;unfold YO at this;rw [if_neg (by omega)] at this ⊢;rw [<-this]
   ·refine .inr ⟨fun h=>h3 h.2.2,?_⟩;have h4:k=2/\¬x.2.2.2.2.1<0:=by
     by_cases e:k=2
     ·exact ⟨e,fun h=>h3 fun _=>h⟩
     ·exact (h3 fun h=>(e h).elim).elim
    obtain ⟨rfl,h4⟩:=h4;simp (disch:=(first | omega | (simp only [bM];omega))) only [↓aN,aQ,if_pos,if_neg,↓hF hf,↓hxb];rfl
  ·refine .inr ⟨fun h=>h2 h.2.1,?_⟩;simp (disch:=(first | omega | (simp only [bM];omega))) only [↓aN,aQ,if_pos,if_neg,↓hF hf,↓hxb];rfl
 ·refine .inr ⟨fun h=>hf h.1,?_⟩;simp (disch:=(first | omega | (simp only [bM];omega))) only [↓aN,aQ,if_pos,if_neg,↓hN hf];rfl
theorem WE {β:Type} {g:LG} {a:AC} {bs:List BL} {last t k:Int} {d:List Int} (he:aZ (g,a)=some (Iy g bs last t,true)) (hr:um a=some (k,d)) (hlg:LX (g.1,(g.2.1,g.2.2.1))) (hk:0<=k/\k<=255) (hd:Bytes d) (hl:d.length<=4096) (f:LG->Option β) :
 ah (jY (g,a)) f=f (g.1++Jn.vH g.2.2.1 k d,(g.2.1,(g.2.2.1+1,(bs,(last,fV g.2.2.2.2.2 t))))):=by
 rw [aoS,he,hr];unfold Iy;simp only [↓aN,aQ,↓aoX hlg hk hd hl]
theorem BA.len {g:LG} {b:BL} (h:BA g b):b.1≠[]:=fun e=>by have:=h.2.1;rw [e] at this;simp at this
open Classical in
noncomputable def ahA (g:LG) (k:Int) (c:Tx) (t:Int):LG×Int :=
 if Tm g t then (if vI c g.2.2.2.1 then (if k=2/\(g.2.2.2.1.getD (dW c g.2.2.2.1) b0).2.2.2.2.1 ≠ -1 then (zG,9) else if g.2.2.1>=1048576 then (zG,10) else
  ((g.1++Jn.vH g.2.2.1 k (Dl [t] [c]),(g.2.1,(g.2.2.1+1,(g.2.2.2.1.set (dW c g.2.2.2.1) (YO k t (g.2.2.2.1.getD (dW c g.2.2.2.1) b0)),(g.2.2.2.2.1,t))))),0)) else (zG,8)) else (zG,2)
theorem VL.at {g:LG} (h:VL g) {i:Nat} (hi:i<g.2.2.2.1.length):BK g.2.2.2.2.2 (g.2.2.2.1.getD i b0):=(h.2.2.2.2 i hi).1
theorem Ur {β:Type} {l:List BL} {p:Nat} {A:BL} (h:p<l.length) (f:BL->Option β):ah (List.set l p A)[p]? f=f A:=by
 rw [List.getElem?_set_self h];rfl
theorem aqL {g:LG} {t:Int} {c:Tx} (h:Tm g t) (hc:c.length<=200):DOk [t] [c]/\(Dl [t] [c]).length<=4096:=by
 have h0:=h.1.2.1;have h1:=h.2;refine ⟨⟨⟨by simp,fun n hn => ?_⟩,by simp,fun t ht => ?_⟩,?_⟩
 ·rw [List.mem_singleton] at hn;subst hn;omega
 ·rw [List.mem_singleton] at ht;subst ht;omega
 ·rw [nD];simp only [List.flatMap_cons,List.flatMap_nil,List.length_append,Ak,List.length_cons,List.length_nil];omega
theorem ahB (g:LG) (k:Int) (c:Tx) (t:Int) (hk:k=2\/k=3) (hl:g.2.2.2.1.length<=1000000) (hB:g.1.length<=900000):og (g,(k,(c,t)))=some (ahA g k c t):=by
 have ho:=lN g.2.2.2.1;rw [to_eq];unfold ahA;by_cases htm:Tm g t
 ·rw [if_pos htm];have hv:=htm.1;have ht:=htm.2;have hs:=hv.srt;by_cases hf:vI c g.2.2.2.1
  ·rw [if_pos hf];have hlt:dW c g.2.2.2.1<g.2.2.2.1.length:=by have:=hf.1;omega
   have hb:=hv.at hlt;have hxc:=hf.2;obtain ⟨x,hx,hxb⟩:=get_at b0 hlt;rw [hx] at hb hxc ⊢;rw [Int.toNat_natCast] at hxb;have hcl:c.length<=200:=by rw [<-hxc];exact hb.1.2.1
   have hd:=aqL htm hcl;by_cases ha:k=2/\x.2.2.2.2.1 ≠ -1
   ·rw [if_pos ha];obtain ⟨rfl,ha⟩:=ha;simp (disch:=(first | omega | (simp only [bM];omega))) only [↓aN,aQ,↓(qw g hl).b,iU hv,↓jD,if_pos,if_neg,↓sS g c hl hs,iU hf,Int.toNat_natCast,↓hxb];rfl
   ·rw [if_neg ha];by_cases hc:g.2.2.1>=1048576
    ·rw [if_pos hc];rcases hk with rfl | rfl
     ·have ha':¬x.2.2.2.2.1 ≠ -1:=fun h=>ha ⟨rfl,h⟩;simp (disch:=(first | omega | (simp only [bM];omega))) only [↓aN,aQ,↓(qw g hl).b,iU hv,↓jD,if_pos,if_neg,↓sS g c hl hs,iU hf,Int.toNat_natCast,↓hxb,↓sO hd.1,↓aa4 hc];rfl
     ·simp (disch:=(first | omega | (simp only [bM];omega))) only [↓aN,aQ,↓(qw g hl).b,iU hv,↓jD,if_pos,if_neg,↓sS g c hl hs,iU hf,Int.toNat_natCast,↓hxb,↓sO hd.1,↓aa4 hc];rfl
    ·rw [if_neg hc];have hlg:=hv.lg hB (by omega);rcases hk with rfl | rfl
     ·have ha':¬x.2.2.2.2.1 ≠ -1:=fun h=>ha ⟨rfl,h⟩;simp (disch:=first | omega | (simp only [bM];omega)) only [↓aN,aQ,↓(qw g hl).b,iU hv,↓jD,if_pos,if_neg,↓sS g c hl hs,iU hf,Int.toNat_natCast,↓hxb,↓sO hd.1,↓aa3 hlg (show (0:Int)<=2/\(2:Int)<=255 by omega) (lS _ _) hd.2,↓qh hl,↓Ur hlt,List.set_set];rw [List.take_of_length_le (by simp)];rfl
     ·simp (disch:=first | omega | (simp only [bM];omega)) only [↓aN,aQ,↓(qw g hl).b,iU hv,↓jD,if_pos,if_neg,↓sS g c hl hs,iU hf,Int.toNat_natCast,↓hxb,↓sO hd.1,↓aa3 hlg (show (0:Int)<=3/\(3:Int)<=255 by omega) (lS _ _) hd.2,↓qh hl,↓Ur hlt,List.set_set];rw [List.take_of_length_le (by simp)];rfl
  ·rw [if_neg hf];simp (disch:=(first | omega | (simp only [bM];omega))) only [↓aN,aQ,↓(qw g hl).b,iU hv,↓jD,if_pos,if_neg,↓sS g c hl hs,mg hf];rfl
 ·rw [if_neg htm];by_cases hv:VL g
  ·have h1:¬(g.2.2.2.2.2<=t/\t<=1099511627776):=fun h=>htm ⟨hv,h⟩;simp (disch:=(first | omega | (simp only [bM];omega))) only [↓aN,aQ,↓(qw g hl).b,iU hv,↓jD,if_neg,h1,decide_false];rfl
  ·simp only [↓aN,aQ,↓(qw g hl).b,mg hv];rfl
end Go.Proofs.YtkpijdndakljjaaGreat
