import Derived.Test.YtkpijdndakljjaaGreatR8p
set_option linter.unusedSimpArgs false
set_option linter.unusedVariables false
set_option maxRecDepth 100000
set_option maxHeartbeats 4000000
namespace Go.Proofs.YtkpijdndakljjaaGreat
open Go.RowKit
abbrev RR:=List Int×(List Tx×Bool)
noncomputable def rkB {δ:Type} (v5:List Int):(Int×Int)->Option ((Int×Int) ⊕ ((Int×Int) ⊕ δ)) :=
 (fun (v8,v9) =>
 bif (decide (v8<(8:Int))) then
 bif (decide (((0:Int)<=v8)/\(v8<(v5.length:Int)))) then
 ah v5[v8.toNat]? fun x11 =>
 some (Sum.inl ((IntKind.wrap .i64 (v8+(1:Int))),(IntKind.wrap .i64 ((IntKind.wrap .i64 ((256:Int)*v9))+(IntKind.wrap .i64 x11)))))
 else none
 else
 au (some (Sum.inl (v8,v9))))
noncomputable def rnB (a2:Int):(Int×(List Int×List Int))->Option ((Int×(List Int×List Int)) ⊕ ((List Int×List Int) ⊕ RR)) :=
 (fun (v4,(v5,v6)) =>
 bif (decide (v4<a2)) then
 aB (bif (decide ((v5.length:Int)<(8:Int))) then
 au (au (au (some (([]:List Int),(([]:List (List UInt8)),false)))))
 else
 bif (decide (((0:Int)<=(0:Int))/\((0:Int)<(v5.length:Int)))) then
 ah v5[0]? fun x7 =>
 bif (decide (x7 > (127:Int))) then
 au (au (au (some (([]:List Int),(([]:List (List UInt8)),false)))))
 else
 aB (aA (rkB v5) ((0:Int),(0:Int))) fun (v15,v16) =>
 bif (decide (v6.length<=v6.length)) then
 bif (decide (((List.length ((v6.take v6.length)++(v16::([]:List Int))))*8)<=140737488355328)) then
 ah (some ((v6.take v6.length)++(v16::([]:List Int)))) fun x17 =>
 bif (decide (((0:Int)<=(8:Int))/\((8:Int)<=(v5.length:Int)))) then
 bif (decide (x17.length<=x17.length)) then
 some (Sum.inl ((v5.drop 8),((x17.take x17.length),v16)))
 else none
 else none
 else none
 else none
 else none) fun (v19,(v20,v21)) =>
 bif (decide (v20.length<=v20.length)) then
 some (Sum.inl ((IntKind.wrap .i64 (v4+(1:Int))),(v19,(v20.take v20.length))))
 else none
 else
 au (bif (decide (v6.length<=v6.length)) then
 some (Sum.inl (v5,(v6.take v6.length)))
 else none))
noncomputable def rtB (a3:Int):(Int×(List Int×List Tx))->Option ((Int×(List Int×List Tx)) ⊕ ((List Int×List Tx) ⊕ RR)) :=
 (fun (v25,(v26,v27)) =>
 bif (decide (v25<a3)) then
 bif (decide ((v26.length:Int)<(2:Int))) then
 au (au (some (([]:List Int),(([]:List (List UInt8)),false))))
 else
 bif (decide (((0:Int)<=(0:Int))/\((0:Int)<(v26.length:Int)))) then
 ah v26[0]? fun x28 =>
 bif (decide (((0:Int)<=(1:Int))/\((1:Int)<(v26.length:Int)))) then
 ah v26[1]? fun x31 =>
 ah (some (IntKind.wrap .i64 ((IntKind.wrap .i64 ((256:Int)*(IntKind.wrap .i64 x28)))+(IntKind.wrap .i64 x31)))) fun x33 =>
 bif (decide ((v26.length:Int)<(IntKind.wrap .i64 ((2:Int)+x33)))) then
 au (au (some (([]:List Int),(([]:List (List UInt8)),false))))
 else
 ah (some (IntKind.wrap .i64 ((2:Int)+x33))) fun x35 =>
 bif ((decide (((0:Int)<=x35)/\(x35<=(v26.length:Int))))&&(decide (((0:Int)<=(2:Int))/\((2:Int)<=((x35.toNat:Nat):Int))))) then
 ah (some (List.take (x35.toNat-2) (v26.drop 2))) fun x36 =>
 bif (decide (v27.length<=v27.length)) then
 bif (decide (((List.length ((v27.take v27.length)++((jS x36)::([]:List (List UInt8)))))*16)<=140737488355328)) then
 ah (some ((v27.take v27.length)++((jS x36)::([]:List (List UInt8))))) fun x37 =>
 ah (some (IntKind.wrap .i64 ((2:Int)+x33))) fun x38 =>
 bif (decide (((0:Int)<=x38)/\(x38<=(v26.length:Int)))) then
 bif (decide (x37.length<=x37.length)) then
 some (Sum.inl ((IntKind.wrap .i64 (v25+(1:Int))),((List.drop x38.toNat v26),(x37.take x37.length))))
 else none
 else none
 else none
 else none
 else none
 else none
 else none
 else
 au (bif (decide (v27.length<=v27.length)) then
 some (Sum.inl (v26,(v27.take v27.length)))
 else none))
theorem apB (a1:List Int) (a2 a3:Int):gX (a1,(a2,a3)) =
 aB (aA (rnB a2) ((0:Int),(a1,([]:List Int)))) fun (v23,v24) =>
 aB (aA (rtB a3) ((0:Int),(v23,([]:List (List UInt8))))) fun (v41,v42) =>
 bif ((decide (v24.length<=v24.length))&&(decide (v42.length<=v42.length))) then
  some ((v24.take v24.length),((v42.take v42.length),(decide ((v41.length:Int)=(0:Int)))))
 else none:=rfl
noncomputable def deB (x6:List (Int×List Int)):(Int×LG)->Option ((Int×LG) ⊕ (LG ⊕ (LG×Bool))) :=
 (fun (v7,(v8,(v9,(v10,(v11,(v12,v13)))))) =>
 bif (decide (v7<(x6.length:Int))) then
 bif (decide (((0:Int)<=v7)/\(v7<(x6.length:Int)))) then
 ah x6[v7.toNat]? fun x14 =>
 ah (gK (x14.1,x14.2)) fun ((x16,(x17,(x18,(x19,(x20,(x21,(x22,x23))))))),x24) =>
 bif (!x24) then
 au (au (some ((([]:List Int),((0:Int),((0:Int),(([]:List jK),((0:Int),(0:Int)))))),false)))
 else
 ah (aZ ((v8,(v9,(v10,(v11,(v12,v13))))),(x16,(x17,(x18,(x19,(x20,(x21,(x22,x23))))))))) fun ((x26,(x27,(x28,(x29,(x30,x31))))),x32) =>
 bif (!x32) then
 au (au (some ((([]:List Int),((0:Int),((0:Int),(([]:List jK),((0:Int),(0:Int)))))),false)))
 else
 some (Sum.inl ((IntKind.wrap .i64 (v7+(1:Int))),(x26,(x27,(x28,(x29,(x30,x31)))))))
 else none
 else
 au (some (Sum.inl (v8,(v9,(v10,(v11,(v12,v13))))))))
theorem apC (a1:List Int):jo a1 =
 ah (gI a1) fun ((x3,(x4,x5)),x6) =>
 aB (aA (deB x6) ((0:Int),(([]:List Int),((0:Int),((0:Int),(([]:List jK),((0:Int),(0:Int)))))))) fun (v34,(v35,(v36,(v37,(v38,v39))))) =>
 some ((x3,(x4,(x5,(v37,(v38,v39))))),true):=rfl
noncomputable def cdB (a7:List Ra) (a8:Int):LG->Option (LG ⊕ (LG ⊕ (LG×Int))) :=
 (fun (v10,(v11,(v12,(v13,(v14,v15))))) =>
 ah (bW (v10,(v11,(v12,(v13,(v14,v15)))))) fun x16 =>
 bif (decide (x16 > (0:Int))) then
 bif (decide (((0:Int)<=(0:Int))/\((0:Int)<(v13.length:Int)))) then
 ah v13[0]? fun x17 =>
 ah (jC ((v10,(v11,(v12,(v13,(v14,v15))))),((a7,a8),((0:Int),x17.2.2.2.2.2.1)))) fun ((x19,(x20,(x21,(x22,(x23,x24))))),x25) =>
 bif (decide (x25≠(0:Int))) then
 au (au (some ((([]:List Int),((0:Int),((0:Int),(([]:List jK),((0:Int),(0:Int)))))),x25)))
 else
 some (Sum.inl (x19,(x20,(x21,(x22,(x23,x24))))))
 else none
 else
 au (some (Sum.inl (v10,(v11,(v12,(v13,(v14,v15))))))))
theorem apD (a1:List Int) (a2 a3:Int) (a4:List BL) (a5 a6:Int) (a7:List Ra) (a8 a9:Int):kM ((a1,(a2,(a3,(a4,(a5,a6))))),((a7,a8),a9)) =
 aB (aA (cdB a7 a8) (a1,(a2,(a3,(a4,(a5,a6)))))) fun (v26,(v27,(v28,(v29,(v30,v31))))) =>
 some ((v26,(v27,(v28,(v29,(v30,a9))))),(0:Int)):=rfl
def wL:Nat->List Int->Option (List Int×List Int)
 | 0,b=>some ([],b)
 | k+1,b=>if b.length<8\/b.getD 0 0 > 127 then none else match wL k (b.drop 8) with | none=>none | some x=>some (val (b.take 8)::x.1,x.2)
def IE (b:List Int):Nat:=(val (b.take 2)).toNat
def yJ:Nat->List Int->Option (List Tx×List Int)
 | 0,b=>some ([],b)
 | k+1,b=>if b.length<2\/b.length<2+IE b then none else match yJ k (b.drop (2+IE b)) with | none=>none | some x=>some (jS ((b.drop 2).take (IE b))::x.1,x.2)
theorem Q5:∀(l:List Int) (a:Int),l.foldl (fun a x=>a*256+x) a=a*256 ^ l.length+val l
 | [],a=>by simp [val]
 | x::l,a=>by
   unfold val;rw [List.foldl_cons,List.foldl_cons,Q5 l,Q5 l (0*256+x),List.length_cons,Int.pow_succ,Int.add_mul,Int.zero_mul,Int.zero_add,Int.mul_assoc,Int.mul_comm 256,Int.add_assoc]
theorem Uy (x:Int) (l:List Int):val (x::l)=x*256 ^ l.length+val l:=by
 show List.foldl _ (0*256+x) l=_;rw [Q5,Int.zero_mul,Int.zero_add]
theorem abh {b:List Int} (hb:Bytes b) (h0:b.getD 0 0<=127) {i:Nat} (hi:i<=b.length) (h7:i<=7):0<=val (b.take i)/\val (b.take i)<36028797018963968:=by
 have hr:=tN (hb.take i);rw [List.length_take,Nat.min_eq_left hi] at hr;refine ⟨hr.1,?_⟩;cases b with
 | nil=>simp at hi;subst hi;decide
 | cons x l =>
   cases i with
   | zero=>show (0:Int)<36028797018963968;decide
   | succ i =>
     rw [List.getD_cons_zero] at h0;rw [List.take_succ_cons,Uy];have h1:=tN (fun y hy=>hb y (List.mem_cons_of_mem _ (List.mem_of_mem_take hy)):Bytes (l.take i));have hl:(l.take i).length=i:=by rw [List.length_take];rw [List.length_cons] at hi;omega
     rw [hl] at h1 ⊢;have hp:(256:Int) ^ i<=256 ^ 6:=by
      have:=Nat.pow_le_pow_right (show 0<256 by decide) (show i<=6 by omega)
      exact_mod_cast this
     have hp0:(0:Int)<=256 ^ i:=Int.pow_nonneg (by decide);have h2:x*256 ^ i<=127*256 ^ i:=Int.mul_le_mul_of_nonneg_right h0 hp0;have h6:(256:Int) ^ 6=281474976710656:=by decide
     rw [h6] at hp;omega
theorem ahU {δ:Type} {b:List Int} (hb:Bytes b) (h8:8<=b.length) (h0:b.getD 0 0<=127):aA (rkB (δ:=δ) b) (0,0)=some (.inl (8,val (b.take 8))):=by
 refine bQ (fun i=>((i:Int),val (b.take i))) 8 rfl (fun i hi => ?_) ?_
 ·obtain ⟨x,hx,hxb⟩:=get_at (0:Int) (show i<b.length by omega);have ht:=take_snoc b 0 (show i<b.length by omega);rw [hx] at ht;have hx8:0<=x/\x<=255:=by rw [<-hx];exact hb.getD i
  have hv:=abh hb h0 (i:=i) (by omega) (by omega);have hv2:val (b.take (i+1))=256*val (b.take i)+x:=by rw [ht,Fa];omega
  simp only [hv2];generalize val (b.take i)=V at *
  unfold rkB;simp (disch:=(first | omega | (simp only [bM];omega))) only [↓aN,aQ,if_pos,↓hxb,aj];rfl
 ·unfold rkB;simp (disch:=(first | omega | (simp only [bM];omega))) only [↓aN,aQ,if_neg];rfl
theorem YX {m:Nat} (hm:m<=10):∀(k i:Nat) (b acc:List Int),i+k=m->Bytes b->acc.length=i->aA (rnB (m:Int)) ((i:Int),(b,acc))=some (match wL k b with | none => .inr ([],([],false)) | some x => .inl (x.2,acc++x.1))
 | 0,i,b,acc,hik,hb,hacc=>by
   obtain rfl:i=m:=by omega
   rw [dN];have e:rnB ((i:Nat):Int) ((i:Int),(b,acc))=some (.inr (.inl (b,acc))):=by
    unfold rnB;simp (disch:=(first | omega | (simp only [bM];omega))) only [↓aN,aQ,if_neg]
   rw [e];show _=some (Sum.inl (b,acc++[]));rw [List.append_nil]
 | k+1,i,b,acc,hik,hb,hacc=>by
   rw [dN];unfold wL;by_cases h8:b.length<8
   ·have e:rnB (m:Int) ((i:Int),(b,acc))=some (.inr (.inr ([],([],false)))):=by
     unfold rnB;simp (disch:=(first | omega | (simp only [bM];omega))) only [↓aN,aQ,if_pos]
    rw [e,if_pos (.inl h8)]
   ·have hz:∀ {β:Type} (f:Int->Option β),ah b[0]? f=f (b.getD 0 0):=fun f=>by rw [qN 0 (by omega)];rfl
    by_cases h0:b.getD 0 0 > 127
    ·have e:rnB (m:Int) ((i:Int),(b,acc))=some (.inr (.inr ([],([],false)))):=by
      unfold rnB;simp (disch:=(first | omega | (simp only [bM];omega))) only [↓aN,aQ,if_pos,if_neg,↓hz,h0]
     rw [e,if_pos (.inr h0)]
    ·have hrk:∀ {δ:Type},aA (rkB (δ:=δ) b) (0,0)=_:=fun {δ}=>ahU hb (by omega) (by omega);have e:rnB (m:Int) ((i:Int),(b,acc))=some (.inl (((i+1:Nat):Int),(b.drop 8,acc++[val (b.take 8)]))):=by
      unfold rnB;simp (disch:=first | omega | (simp only [List.length_append,List.length_cons,List.length_nil];omega)) only [↓aN,aQ,if_pos,if_neg,↓hz,h0,↓hrk,aj];rfl
     rw [e,if_neg (by rintro (k | k);exact h8 k;exact h0 k)];simp only;rw [YX hm k (i+1) (b.drop 8) (acc++[val (b.take 8)]) (by omega) (hb.drop 8) (by rw [List.length_append,hacc];rfl)];cases wL k (b.drop 8) with
     | none=>rfl
     | some x=>simp only [List.append_assoc,List.singleton_append]
theorem ams {b:List Int} (hb:Bytes b) (h2:2<=b.length):val (b.take 2)=256*b.getD 0 0+b.getD 1 0/\0<=val (b.take 2)/\val (b.take 2)<65536/\((IE b:Nat):Int)=val (b.take 2):=by
 have hr:=tN (hb.take 2);rw [List.length_take,Nat.min_eq_left h2] at hr;have h6:(256:Int) ^ 2=65536:=by decide
 rw [h6] at hr;refine ⟨?_,hr.1,hr.2,by unfold IE;omega⟩
 match b,h2 with
 | x::y::l,_ =>
   show (0*256+x)*256+y=256*x+y;omega
theorem YZ {m:Nat} (hm:m<=10):∀(k i:Nat) (b:List Int) (acc:List Tx),i+k=m->Bytes b->acc.length=i->b.length<=1000000->aA (rtB (m:Int)) ((i:Int),(b,acc))=some (match yJ k b with | none => .inr ([],([],false)) | some x => .inl (x.2,acc++x.1))
 | 0,i,b,acc,hik,hb,hacc,hl=>by
   obtain rfl:i=m:=by omega
   rw [dN];have e:rtB ((i:Nat):Int) ((i:Int),(b,acc))=some (.inr (.inl (b,acc))):=by
    unfold rtB;simp (disch:=(first | omega | (simp only [bM];omega))) only [↓aN,aQ,if_neg]
   rw [e];show _=some (Sum.inl (b,acc++[]));rw [List.append_nil]
 | k+1,i,b,acc,hik,hb,hacc,hl=>by
   rw [dN];unfold yJ;by_cases h2:b.length<2
   ·have e:rtB (m:Int) ((i:Int),(b,acc))=some (.inr (.inr ([],([],false)))):=by
     unfold rtB;simp (disch:=(first | omega | (simp only [bM];omega))) only [↓aN,aQ,if_pos]
    rw [e,if_pos (.inl h2)]
   ·have hz0:∀ {β:Type} (f:Int->Option β),ah b[0]? f=f (b.getD 0 0):=fun f=>by rw [qN 0 (by omega)];rfl
    have hz1:∀ {β:Type} (f:Int->Option β),ah b[1]? f=f (b.getD 1 0):=fun f=>by rw [qN 0 (by omega)];rfl
    obtain ⟨t1,t2,t3,t4⟩:=ams hb (by omega);have x0:=hb.getD 0;have x1:=hb.getD 1;have hv:IntKind.wrap .i64 (IntKind.wrap .i64 (256*IntKind.wrap .i64 (b.getD 0 0))+IntKind.wrap .i64 (b.getD 1 0))=((IE b:Nat):Int):=by
     rw [aj (n:=b.getD 0 0) (by omega),aj (n:=b.getD 1 0) (by omega),aj (n:=256*b.getD 0 0) (by omega),aj (by omega)];omega
    have hw:IntKind.wrap .i64 (2+((IE b:Nat):Int))=((2+IE b:Nat):Int):=by
     rw [aj (by omega)];omega
    have hq:Int.toNat (2+((IE b:Nat):Int))=2+IE b:=by omega
    by_cases h3:b.length<2+IE b
    ·have e:rtB (m:Int) ((i:Int),(b,acc))=some (.inr (.inr ([],([],false)))):=by
      unfold rtB;simp (disch:=(first | omega | (simp only [bM];omega))) only [↓aN,aQ,if_pos,if_neg,↓hz0,↓hz1,hv,hw]
     rw [e,if_pos (.inr h3)]
    ·have e:rtB (m:Int) ((i:Int),(b,acc))=some (.inl (((i+1:Nat):Int),(b.drop (2+IE b),acc++[jS ((b.drop 2).take (IE b))]))):=by
      unfold rtB;simp (disch:=first | omega | (simp only [List.length_append,List.length_cons,List.length_nil];omega)) only [↓aN,aQ,if_pos,if_neg,↓hz0,↓hz1,↓hv,↓hw,aj,Int.toNat_natCast,hq,Nat.add_sub_cancel_left];rfl
     rw [e,if_neg (by rintro (k | k);exact h2 k;exact h3 k)];simp only;rw [YZ hm k (i+1) (b.drop (2+IE b)) (acc++[_]) (by omega) (hb.drop _) (by rw [List.length_append,hacc];rfl) (by rw [List.length_drop];omega)];cases yJ k (b.drop (2+IE b)) with
     | none=>rfl
     | some x=>simp only [List.append_assoc,List.singleton_append]
theorem Uz:∀ {k:Nat} {b:List Int} {x:List Int×List Int},wL k b=some x->Bytes b->x.1.length=k/\Bytes x.2/\x.2.length<=b.length
 | 0,b,x,h,hb=>by cases h;exact ⟨rfl,hb,Nat.le_refl _⟩
 | k+1,b,x,h,hb=>by
   unfold wL at h;split at h
   ·cases h
   ·cases hr:wL k (b.drop 8) with
    | none=>rw [hr] at h;cases h
    | some y =>
      rw [hr] at h;cases h;have:=Uz hr (hb.drop 8);rw [List.length_drop] at this;exact ⟨by rw [List.length_cons,this.1],this.2.1,by show y.2.length<=b.length;omega⟩
theorem UA:∀ {k:Nat} {b:List Int} {x:List Tx×List Int},yJ k b=some x->x.1.length=k
 | 0,b,x,h=>by cases h;rfl
 | k+1,b,x,h=>by
   unfold yJ at h;split at h
   ·cases h
   ·cases hr:yJ k (b.drop (2+IE b)) with
    | none=>rw [hr] at h;cases h
    | some y =>
      rw [hr] at h;cases h;have:=UA hr;rw [List.length_cons,this]
def Q7 (n t:Nat) (b:List Int):Option (List Int×List Tx):=match wL n b with | none=>none | some x=>match yJ t x.2 with | none=>none | some y=>if y.2=[] then some (x.1,y.1) else none
theorem Q8 {n t:Nat} (hn:n<=10) (ht:t<=10) {b:List Int} (hb:Bytes b) (hl:b.length<=1000000):∃r,gX (b,((n:Int),(t:Int)))=some r/\((∃x,Q7 n t b=some x/\x.1.length=n/\x.2.length=t/\r=(x.1,(x.2,true)))\/(Q7 n t b=none/\r.2.2=false)):=by
 have h1:=YX hn n 0 b [] (by omega) hb rfl;rw [apB];rw [show ((0:Nat):Int)=(0:Int) from rfl] at h1;rw [h1];unfold Q7;cases hx:wL n b with
 | none=>exact ⟨_,rfl,.inr ⟨rfl,rfl⟩⟩
 | some x =>
   obtain ⟨l1,l2,l3⟩:=Uz hx hb;have h2:=YZ ht t 0 x.2 [] (by omega) l2 rfl (by omega);rw [show ((0:Nat):Int)=(0:Int) from rfl] at h2;simp only [↓aN,List.nil_append];rw [h2];cases hy:yJ t x.2 with
   | none=>exact ⟨_,rfl,.inr ⟨rfl,rfl⟩⟩
   | some y =>
     simp only [↓aN,aQ,List.nil_append,decide_true,Bool.and_self];refine ⟨_,rfl,?_⟩;by_cases hz:y.2=[]
     ·rw [if_pos hz];exact .inl ⟨_,rfl,l1,UA hy,by rw [hz];rfl⟩
     ·rw [if_neg hz];refine .inr ⟨rfl,?_⟩;show decide (((y.2.length:Nat):Int)=0)=false;rw [decide_eq_false];intro k;exact hz (List.length_eq_zero_iff.1 (by omega))
theorem aq0 (r:List Int):rN (r,true)=(0,(r,true)):=by
 unfold rN YQ Fe;simp only [true_or,if_true];rfl
theorem aq1 (r:List Int):(rT (r,true)).2.2=true:=by
 unfold rT YR Fe;simp only [true_or,if_true]
theorem amu {x:Cu} (h:x.2=true):(rN x).2.2=true:=by
 obtain ⟨r,s⟩:=x;replace h:s=true:=h;subst h;rw [aq0]
theorem abj {x:Cu} (h:x.2=true):(rT x).2.2=true:=by
 obtain ⟨r,s⟩:=x;replace h:s=true:=h;subst h;exact aq1 r
theorem Fb {x:Cu} (h:x.2=true):¬yX x:=fun k=>by rw [k.1] at h;cases h
theorem oq (k:Nat) {b:List Int} (hb:Bytes b) :
 (wL (k+1) b=none/\(rN (b,false)).2.2=true)\/(wL (k+1) b=none/\(rN (b,false)).2=(b.drop 8,false)/\9223372036854775808<=(rN (b,false)).1) \/
 (∃v,rN (b,false)=(v,(b.drop 8,false))/\(0<=v/\v<9223372036854775808)/\wL (k+1) b=match wL k (b.drop 8) with | none=>none | some x=>some (v::x.1,x.2)):=by
 have hE:wL (k+1) b=if b.length<8\/b.getD 0 0 > 127 then none else match wL k (b.drop 8) with | none=>none | some x=>some (val (b.take 8)::x.1,x.2):=rfl
 rw [hE];by_cases h8:b.length<8
 ·refine .inl ⟨by rw [if_pos (.inl h8)],?_⟩;unfold rN YQ Fe;simp only [h8,or_true,if_true]
 ·have e:rN (b,false)=(val (b.take 8),(b.drop 8,false)):=by
   unfold rN YQ Fe;simp only [h8,or_false,reduceCtorEq,if_false]
  have hr:=tN (hb.take 8);have ht:b.take 8=b.getD 0 0::(b.drop 1).take 7:=by
   cases b with
   | nil=>simp at h8
   | cons x l=>rfl
  have hl7:((b.drop 1).take 7).length=7:=by rw [List.length_take,List.length_drop];omega
  have hv:val (b.take 8)=b.getD 0 0*72057594037927936+val ((b.drop 1).take 7):=by
   rw [ht,Uy,hl7];rfl
  have h7:=tN ((hb.drop 1).take 7);rw [hl7] at h7;have e7:(256:Int) ^ 7=72057594037927936:=by decide
  rw [e7] at h7;have h0:=hb.getD 0;by_cases h1:b.getD 0 0 > 127
  ·refine .inr (.inl ⟨by rw [if_pos (.inr h1)],by rw [e],?_⟩);rw [e];show _<=val (b.take 8);omega
  ·refine .inr (.inr ⟨_,e,by omega,?_⟩);rw [if_neg (by rintro (k | k);exact h8 k;exact h1 k)]
theorem xM (k:Nat) {b:List Int} (hb:Bytes b) :
 (yJ (k+1) b=none/\(rT (b,false)).2.2=true) \/
 (∃t r,rT (b,false)=(t,(r,false))/\Bytes r/\yJ (k+1) b=match yJ k r with | none=>none | some x=>some (t::x.1,x.2)):=by
 have hE:yJ (k+1) b=if b.length<2\/b.length<2+IE b then none else match yJ k (b.drop (2+IE b)) with | none=>none | some x=>some (jS ((b.drop 2).take (IE b))::x.1,x.2):=rfl
 rw [hE];by_cases h2:b.length<2
 ·refine .inl ⟨by rw [if_pos (.inl h2)],?_⟩;unfold rT YR Fe;simp only [h2,or_true,if_true,true_or]
 ·by_cases h3:b.length<2+IE b
  ·refine .inl ⟨by rw [if_pos (.inr h3)],?_⟩;have h3':(b.drop 2).length<IE b:=by rw [List.length_drop];omega
   unfold IE at h3';unfold rT YR Fe;simp only [h2,or_false,reduceCtorEq,if_false,h3',or_true,if_true]
  ·refine .inr ⟨jS ((b.drop 2).take (IE b)),b.drop (2+IE b),?_,hb.drop _,?_⟩
   ·have h3':¬(b.drop 2).length<IE b:=by rw [List.length_drop];omega
    unfold IE at h3' ⊢;unfold rT YR Fe;simp only [h2,or_false,reduceCtorEq,if_false,h3'];rw [List.drop_drop]
   ·rw [if_neg (by rintro (k | k);exact h2 k;exact h3 k)]
def Bad (a:AC):Prop:=(a.1=5/\9223372036854775808<=a.2.2.1)\/(a.1=4/\(9223372036854775808<=a.2.2.1\/9223372036854775808<=a.2.2.2.1\/9223372036854775808<=a.2.2.2.2.1\/(a.2.2.1=0/\(a.2.2.2.1≠0\/a.2.2.2.2.1≠0))))
theorem ahV {a:AC} {s:ST} (h:INV s) (hb:Bad a):uZ a s=none:=by
 have hla:=h.2.2.2.1;have h7:=h.2.2.2.2.2.2;obtain ⟨op,dn,la,no⟩:=s;obtain ⟨k,t,n,se,co,c,f,o⟩:=a;simp only at hla h7;unfold uZ;simp only;rcases hb with ⟨k5,hn⟩ | ⟨k4,hn⟩
 ·replace k5:k=5:=k5;replace hn:9223372036854775808<=n:=hn;rw [if_pos k5,mg,cond_false];intro q;have:=q.2.1;omega
 ·replace k4:k=4:=k4;rw [if_neg (by omega),if_neg (by omega),if_pos k4,mg,cond_false];intro q;replace hn:9223372036854775808<=n\/9223372036854775808<=se\/9223372036854775808<=co\/(n=0/\(se≠0\/co≠0)):=hn;rcases q.2.2 with q | q
  ·omega
  ·have hse:=Rt.Lu (op.getD (dW c op) b0).2.2.2.2.1 t;have:=q.2.2.2.2.1;omega
def Und (k:Int) (d:List Int) (r:AC×Bool):Prop:=(r.2=true/\IC k d=some r.1/\¬Bad r.1)\/(r.2=false/\(IC k d=none\/∃a,IC k d=some a/\Bad a))
theorem d0 (n t:Nat) (d:List Int) (h:wL n d=none):Q7 n t d=none:=by unfold Q7;rw [h]
theorem apE {k:Int} (hk:k=2\/k=3) {d:List Int} (hb:Bytes d) :
 (∃t c,Q7 1 1 d=some ([t],[c])/\(0<=t/\t<9223372036854775808)/\IC k d=if t > 1099511627776 then none else some (k,(t,(0,(0,(0,(c,([],[]))))))))  \/ (Q7 1 1 d=none/\IC k d=none):=by
 unfold IC Ux;rw [if_neg (by omega),if_neg (show ¬k=1 by omega),if_pos hk];rcases oq 0 hb with ⟨h1,h2⟩ | ⟨h1,h2,h3⟩ | ⟨v,h1,h2,h3⟩
 ·exact .inr ⟨d0 _ _ _ h1,by rw [if_pos (.inl h2)]⟩
 ·exact .inr ⟨d0 _ _ _ h1,by rw [if_pos (.inr (by omega))]⟩
 ·rw [h1];unfold Q7;rw [h3];simp only [wL];rcases xM 0 (hb.drop 8) with ⟨g1,g2⟩ | ⟨c,r,g1,g2,g3⟩
  ·refine .inr ⟨by rw [g1],?_⟩;unfold aeL;rw [if_neg (Fb g2)];split<;>rfl
  ·rw [g3,g1];simp only [yJ];unfold aeL;by_cases hf:r=[]
   ·refine .inl ⟨v,c,by rw [if_pos hf],h2,?_⟩;rw [if_pos (show yX (r,false) from ⟨rfl,hf⟩)];simp only [reduceCtorEq,false_or]
   ·refine .inr ⟨by rw [if_neg hf],?_⟩;rw [if_neg (show ¬yX (r,false) from fun q=>hf q.2)];split<;>rfl
theorem apF {d:List Int} (hb:Bytes d) :
 (∃n,Q7 1 0 d=some ([n],[])/\(0<=n/\n<9223372036854775808)/\IC 5 d=some (5,(0,(n,(0,(0,([],([],[]))))))))  \/ (Q7 1 0 d=none/\(IC 5 d=none\/∃a,IC 5 d=some a/\Bad a)):=by
 unfold IC Ux;rw [if_pos rfl];rcases oq 0 hb with ⟨h1,h2⟩ | ⟨h1,h2,h3⟩ | ⟨v,h1,h2,h3⟩
 ·exact .inr ⟨d0 _ _ _ h1,.inl (by rw [if_neg (Fb h2)])⟩
 ·refine .inr ⟨d0 _ _ _ h1,?_⟩;split
  ·exact .inr ⟨_,rfl,.inl ⟨rfl,h3⟩⟩
  ·exact .inl rfl
 ·rw [h1];unfold Q7;rw [h3];simp only [wL,yJ];by_cases hf:d.drop 8=[]
  ·refine .inl ⟨v,by rw [if_pos hf],h2,?_⟩;rw [if_pos (show yX (d.drop 8,false) from ⟨rfl,hf⟩)]
  ·refine .inr ⟨by rw [if_neg hf],.inl ?_⟩;rw [if_neg (show ¬yX (d.drop 8,false) from fun q=>hf q.2)]
theorem apG {d:List Int} (hb:Bytes d) :
 (∃t c f o,Q7 1 3 d=some ([t],[c,f,o])/\(0<=t/\t<9223372036854775808)/\IC 1 d=if t > 1099511627776 then none else some (1,(t,(0,(0,(0,(c,(f,o))))))))  \/ (Q7 1 3 d=none/\IC 1 d=none):=by
 unfold IC Ux;rw [if_neg (by decide),if_pos rfl];rcases oq 0 hb with ⟨h1,h2⟩ | ⟨h1,h2,h3⟩ | ⟨v,h1,h2,h3⟩
 ·exact .inr ⟨d0 _ _ _ h1,by rw [if_pos (.inl h2)]⟩
 ·exact .inr ⟨d0 _ _ _ h1,by rw [if_pos (.inr (by omega))]⟩
 ·rw [h1];unfold Q7;rw [h3];simp only [wL];unfold ahJ;rcases xM 2 (hb.drop 8) with ⟨g1,g2⟩ | ⟨c,r,g1,g2,g3⟩
  ·refine .inr ⟨by rw [g1],?_⟩;rw [if_neg (Fb (abj (abj g2)))];split<;>rfl
  ·rw [g3,g1];simp only;rcases xM 1 g2 with ⟨k1,k2⟩ | ⟨f,r2,k1,k2,k3⟩
   ·refine .inr ⟨by rw [k1],?_⟩;rw [if_neg (Fb (abj k2))];split<;>rfl
   ·rw [k3,k1];simp only;rcases xM 0 k2 with ⟨m1,m2⟩ | ⟨o,r3,m1,m2,m3⟩
    ·refine .inr ⟨by rw [m1],?_⟩;rw [if_neg (Fb m2)];split<;>rfl
    ·rw [m3,m1];simp only [yJ];by_cases hf:r3=[]
     ·refine .inl ⟨v,c,f,o,by rw [if_pos hf],h2,?_⟩;rw [if_pos (show yX (r3,false) from ⟨rfl,hf⟩)];simp only [reduceCtorEq,false_or]
     ·refine .inr ⟨by rw [if_neg hf],?_⟩;rw [if_neg (show ¬yX (r3,false) from fun q=>hf q.2)];split<;>rfl
theorem WL {t:Int} {n s o:Int×Cu} {c:Tx×Cu} (h:9223372036854775808<=n.1\/9223372036854775808<=s.1\/9223372036854775808<=o.1):MF t n s o c=none\/∃a,MF t n s o c=some a/\Bad a:=by
 unfold MF;split
 ·refine .inr ⟨_,rfl,.inr ⟨rfl,?_⟩⟩;rcases h with h | h | h
  ·exact .inl h
  ·exact .inr (.inl h)
  ·exact .inr (.inr (.inl h))
 ·exact .inl rfl
theorem apH {d:List Int} (hb:Bytes d) :
 (∃t n s co c,Q7 4 1 d=some ([t,n,s,co],[c])/\(0<=t/\t<9223372036854775808)/\(0<=n/\n<9223372036854775808)/\(0<=s/\s<9223372036854775808)/\(0<=co/\co<9223372036854775808)/\IC 4 d=if t > 1099511627776 then none else some (4,(t,(n,(s,(co,(c,([],[]))))))))  \/
 (Q7 4 1 d=none/\(IC 4 d=none\/∃a,IC 4 d=some a/\Bad a)):=by
 unfold IC Ux;rw [if_neg (by decide),if_neg (show ¬(4:Int)=1 by decide),if_neg (show ¬((4:Int)=2\/(4:Int)=3) by decide),if_pos rfl];rcases oq 3 hb with ⟨h1,h2⟩ | ⟨h1,h2,h3⟩ | ⟨v,h1,h2,h3⟩
 ·exact .inr ⟨d0 _ _ _ h1,.inl (by rw [if_pos (.inl h2)])⟩
 ·exact .inr ⟨d0 _ _ _ h1,.inl (by rw [if_pos (.inr (by omega))])⟩
 ·rw [h1];by_cases hv:v > 1099511627776
  ·rw [if_pos (.inr hv)];rcases hd:Q7 4 1 d with _ | x
   ·exact .inr ⟨rfl,.inl rfl⟩
   ·refine .inl ?_;unfold Q7 at hd;rw [h3] at hd;rcases oq 2 (hb.drop 8) with ⟨g1,g2⟩ | ⟨g1,g2,g3⟩ | ⟨n,g1,g2,g3⟩
    ·rw [g1] at hd;cases hd
    ·rw [g1] at hd;cases hd
    ·rw [g3] at hd;rcases oq 1 ((hb.drop 8).drop 8) with ⟨k1,k2⟩ | ⟨k1,k2,k3⟩ | ⟨s,k1,k2,k3⟩
     ·rw [k1] at hd;cases hd
     ·rw [k1] at hd;cases hd
     ·rw [k3] at hd;rcases oq 0 (((hb.drop 8).drop 8).drop 8) with ⟨m1,m2⟩ | ⟨m1,m2,m3⟩ | ⟨o,m1,m2,m3⟩
      ·rw [m1] at hd;cases hd
      ·rw [m1] at hd;cases hd
      ·rw [m3] at hd;simp only [wL] at hd;rcases xM 0 ((((hb.drop 8).drop 8).drop 8).drop 8) with ⟨q1,q2⟩ | ⟨c,r,q1,q2,q3⟩
       ·rw [q1] at hd;cases hd
       ·rw [q3] at hd;simp only [yJ] at hd;by_cases hf:r=[]
        ·rw [if_pos hf] at hd;cases hd;exact ⟨v,n,s,o,c,rfl,h2,g2,k2,m2,by rw [if_pos hv]⟩
        ·rw [if_neg hf] at hd;cases hd
  ·rw [if_neg (by rintro (k | k);exact absurd k (by simp);exact hv k)];simp only;have hb1:=hb.drop 8;rcases oq 2 hb1 with ⟨g1,g2⟩ | ⟨g1,g2,g3⟩ | ⟨n,g1,g2,g3⟩
   ·refine .inr ⟨d0 _ _ _ (by rw [h3,g1]),.inl ?_⟩;unfold MF;rw [if_neg (Fb (abj (amu (amu g2))))]
   ·exact .inr ⟨d0 _ _ _ (by rw [h3,g1]),WL (.inl g3)⟩
   ·rw [g1];simp only;have hb2:=hb1.drop 8;rcases oq 1 hb2 with ⟨k1,k2⟩ | ⟨k1,k2,k3⟩ | ⟨s,k1,k2,k3⟩
    ·refine .inr ⟨d0 _ _ _ (by rw [h3,g3,k1]),.inl ?_⟩;unfold MF;rw [if_neg (Fb (abj (amu k2)))]
    ·exact .inr ⟨d0 _ _ _ (by rw [h3,g3,k1]),WL (.inr (.inl k3))⟩
    ·rw [k1];simp only;have hb3:=hb2.drop 8;rcases oq 0 hb3 with ⟨m1,m2⟩ | ⟨m1,m2,m3⟩ | ⟨o,m1,m2,m3⟩
     ·refine .inr ⟨d0 _ _ _ (by rw [h3,g3,k3,m1]),.inl ?_⟩;unfold MF;rw [if_neg (Fb (abj m2))]
     ·exact .inr ⟨d0 _ _ _ (by rw [h3,g3,k3,m1]),WL (.inr (.inr m3))⟩
     ·rw [m1];simp only;unfold Q7;rw [h3,g3,k3,m3];simp only [wL];rcases xM 0 (hb3.drop 8) with ⟨q1,q2⟩ | ⟨c,r,q1,q2,q3⟩
      ·refine .inr ⟨by rw [q1],.inl ?_⟩;unfold MF;rw [if_neg (Fb q2)]
      ·rw [q3,q1];simp only [yJ];unfold MF;by_cases hf:r=[]
       ·refine .inl ⟨v,n,s,o,c,by rw [if_pos hf],h2,g2,k2,m2,?_⟩;rw [if_pos (show yX (r,false) from ⟨rfl,hf⟩),if_neg hv]
       ·refine .inr ⟨by rw [if_neg hf],.inl ?_⟩;rw [if_neg (show ¬yX (r,false) from fun q=>hf q.2)]
theorem aeZ {k:Int} (h1:k≠1) (h2:k≠2) (h3:k≠3) (h4:k≠4) (h5:k≠5) (d:List Int):IC k d=none:=by
 unfold IC Ux;rw [if_neg h5,if_neg h1,if_neg (show ¬(k=2\/k=3) by omega),if_neg h4];split<;>rfl
def zA (k:Int):AC:=(k,(0,(0,(0,(0,([],([],[])))))))
theorem apI (k:Int) {d:List Int} (hb:Bytes d) (hl:d.length<=1000000):∃r,gK (k,d)=some r/\Und k d r:=by
 have hv:∀ {β:Type} (f:Bool->Option β),aB (bif decide (k=2) then some (Sum.inl true) else some (Sum.inl (decide (k=3)))) f=f (decide (k=2\/k=3)):=fun f=>by
  by_cases k2:k=2
  ·rw [decide_eq_true k2,decide_eq_true (show k=2\/k=3 from .inl k2)];rfl
  ·rw [decide_eq_false k2];show f (decide (k=3))=_;congr 1;rw [decide_eq_decide];omega
 unfold gK;by_cases k1:k=1
 ·subst k1;obtain ⟨r,e,hr⟩:=Q8 (n:=1) (t:=3) (by omega) (by omega) hb hl;rw [show ((1:Nat):Int)=1 from rfl,show ((3:Nat):Int)=3 from rfl] at e;simp only [↓aN,aQ,if_true,e];rcases apG hb with ⟨t,c,f,o,u1,u2,u3⟩ | ⟨u1,u2⟩
  ·rcases hr with ⟨x,x1,_,_,rfl⟩ | ⟨x1,_⟩
   ·rw [u1] at x1;cases x1;by_cases ht:t > 1099511627776
    ·rw [if_pos ht] at u3;exact ⟨(zA 1,false),by simp [ay,aF,aG,zA,ht],.inr ⟨rfl,.inl u3⟩⟩
    ·rw [if_neg ht] at u3;exact ⟨((1,(t,(0,(0,(0,(c,(f,o))))))),true),by simp [ay,aF,aG,ht],.inl ⟨rfl,u3,by unfold Bad;dsimp only;omega⟩⟩
   ·rw [u1] at x1;cases x1
  ·rcases hr with ⟨x,x1,_⟩ | ⟨_,x2⟩
   ·rw [u1] at x1;cases x1
   ·exact ⟨(zA 1,false),by simp only [x2,↓aN,aQ];rfl,.inr ⟨rfl,.inl u2⟩⟩
 ·by_cases k23:k=2\/k=3
  ·obtain ⟨r,e,hr⟩:=Q8 (n:=1) (t:=1) (by omega) (by omega) hb hl;rw [show ((1:Nat):Int)=1 from rfl] at e;simp only [↓hv,↓aN,aQ,k1,if_false,k23,if_true,e];rcases apE k23 hb with ⟨t,c,u1,u2,u3⟩ | ⟨u1,u2⟩
   ·rcases hr with ⟨x,x1,_,_,rfl⟩ | ⟨x1,_⟩
    ·rw [u1] at x1;cases x1;by_cases ht:t > 1099511627776
     ·rw [if_pos ht] at u3;exact ⟨(zA k,false),by simp [ay,aF,aG,zA,ht],.inr ⟨rfl,.inl u3⟩⟩
     ·rw [if_neg ht] at u3;exact ⟨((k,(t,(0,(0,(0,(c,([],[]))))))),true),by simp [ay,aF,aG,ht],.inl ⟨rfl,u3,by unfold Bad;dsimp only;omega⟩⟩
    ·rw [u1] at x1;cases x1
   ·rcases hr with ⟨x,x1,_⟩ | ⟨_,x2⟩
    ·rw [u1] at x1;cases x1
    ·exact ⟨(zA k,false),by simp only [x2,↓aN,aQ];rfl,.inr ⟨rfl,.inl u2⟩⟩
  ·by_cases k4:k=4
   ·subst k4;obtain ⟨r,e,hr⟩:=Q8 (n:=4) (t:=1) (by omega) (by omega) hb hl;rw [show ((1:Nat):Int)=1 from rfl,show ((4:Nat):Int)=4 from rfl] at e;simp only [↓hv,↓aN,aQ,k1,if_false,k23,if_true,e];rcases apH hb with ⟨t,n,s,co,c,u1,u2,u4,u5,u6,u3⟩ | ⟨u1,u2⟩
    ·rcases hr with ⟨x,x1,_,_,rfl⟩ | ⟨x1,_⟩
     ·rw [u1] at x1;cases x1;by_cases ht:t > 1099511627776
      ·rw [if_pos ht] at u3;exact ⟨(zA 4,false),by simp [ay,aF,aG,zA,ht],.inr ⟨rfl,.inl u3⟩⟩
      ·rw [if_neg ht] at u3;by_cases hn:n=0
       ·by_cases hs:s=0
        ·by_cases hc:co=0
         ·exact ⟨((4,(t,(0,(0,(0,(c,([],[]))))))),true),by simp [ay,aF,aG,ht,hn,hs,hc],.inl ⟨rfl,by rw [u3,hn,hs,hc],by unfold Bad;dsimp only;omega⟩⟩
         ·exact ⟨(zA 4,false),by simp [ay,aF,aG,zA,ht,hn,hs,hc],.inr ⟨rfl,.inr ⟨_,u3,.inr ⟨rfl,.inr (.inr (.inr ⟨hn,.inr hc⟩))⟩⟩⟩⟩
        ·exact ⟨(zA 4,false),by simp [ay,aF,aG,zA,ht,hn,hs],.inr ⟨rfl,.inr ⟨_,u3,.inr ⟨rfl,.inr (.inr (.inr ⟨hn,.inl hs⟩))⟩⟩⟩⟩
       ·exact ⟨((4,(t,(n,(s,(co,(c,([],[]))))))),true),by simp [ay,aF,aG,ht,hn],.inl ⟨rfl,u3,by unfold Bad;dsimp only;omega⟩⟩
     ·rw [u1] at x1;cases x1
    ·rcases hr with ⟨x,x1,_⟩ | ⟨_,x2⟩
     ·rw [u1] at x1;cases x1
     ·exact ⟨(zA 4,false),by simp only [x2,↓aN,aQ];rfl,.inr ⟨rfl,u2⟩⟩
   ·by_cases k5:k=5
    ·subst k5;obtain ⟨r,e,hr⟩:=Q8 (n:=1) (t:=0) (by omega) (by omega) hb hl;rw [show ((1:Nat):Int)=1 from rfl,show ((0:Nat):Int)=0 from rfl] at e;simp only [↓hv,↓aN,aQ,k1,k4,if_false,k23,if_true,e];rcases apF hb with ⟨n,u1,u2,u3⟩ | ⟨u1,u2⟩
     ·rcases hr with ⟨x,x1,_,_,rfl⟩ | ⟨x1,_⟩
      ·rw [u1] at x1;cases x1;exact ⟨((5,(0,(n,(0,(0,([],([],[]))))))),true),by simp [ay,aF,aG],.inl ⟨rfl,u3,by unfold Bad;dsimp only;omega⟩⟩
      ·rw [u1] at x1;cases x1
     ·rcases hr with ⟨x,x1,_⟩ | ⟨_,x2⟩
      ·rw [u1] at x1;cases x1
      ·exact ⟨(zA 5,false),by simp only [x2,↓aN,aQ];rfl,.inr ⟨rfl,u2⟩⟩
    ·exact ⟨(zA k,false),by simp only [↓hv,↓aN,aQ,k1,k4,k5,if_false,k23,if_false];rfl,.inr ⟨rfl,.inl (aeZ k1 (by omega) (by omega) k4 k5 d)⟩⟩
def yY (s:ST):LG:=([],(0,(0,(s.1++s.2.1,s.2.2))))
theorem apJ (op dn:List BL) (la no n t n2 n3:Int) (c f o:Tx) (ha:AZ op) (h5:∀i,i<dn.length->(dn.getD i b0).2.2.2.2.2.2.1=(i:Int)+1) (hl:op.length+dn.length<=1000000) :
 (OKg dn n/\aZ (yY (op,(dn,(la,no))),(5,(t,(n,(n2,(n3,(c,(f,o))))))))=some (yY (op,(dn.set (n-1).toNat (gvn (dn.getD (n-1).toNat b0)),(la,no))),true)) \/
 (¬OKg dn n/\∃g,aZ (yY (op,(dn,(la,no))),(5,(t,(n,(n2,(n3,(c,(f,o))))))))=some (g,false)):=by
 have hbl:(yY (op,(dn,(la,no)))).2.2.2.1.length<=1000000:=by show (op++dn).length<=_;rw [List.length_append];exact hl
 have hR:=ao8 (yY (op,(dn,(la,no)))) n hbl;have hRb:∀ {β:Type} {v:Int} (f:Int->Option β),dw (yY (op,(dn,(la,no))),n)=some v->ah (dw (yY (op,(dn,(la,no))),n)) f=f v:=fun f e=>by rw [e];rfl
 rw [YF];rcases hR with ⟨i,i1,i2,i3,e⟩ | ⟨i1,e⟩
 ·replace i1:i<(op++dn).length:=i1;rw [List.length_append] at i1;replace i2:n > 0/\((op++dn).getD i b0).2.2.2.2.2.2.1=n:=i2;have hge:op.length<=i:=by
   refine Classical.byContradiction fun k => ?_;have hz:=i2.2;rw [qQ (by omega),ha _ (xK (by omega))] at hz;omega
  have eg:(op++dn).getD i b0=dn.getD (i-op.length) b0:=by
   rw [List.getD_eq_getElem?_getD,List.getElem?_append_right hge,<-List.getD_eq_getElem?_getD]
  have hn:=i2.2;rw [eg,h5 _ (by omega)] at hn;have hto:(n-1).toNat=i-op.length:=by omega
  obtain ⟨x,hx,hxb⟩:=get_at b0 (l:=op++dn) (i:=i) (by rw [List.length_append];exact i1);rw [Int.toNat_natCast] at hxb;rw [eg] at hx;have hlen:(op++dn).length=op.length+dn.length:=List.length_append;have hb2:∀ {β:Type} (f:Int->Option β),ah (dw (([],(0,(0,(op++dn,(la,no))))),n)) f=f (i:Int):=fun f=>hRb f e;unfold OKg;rw [hto,hx];cases hg:x.2.2.2.2.2.2.2.2.2
  ·refine .inl ⟨⟨by omega,by omega,rfl⟩,?_⟩;unfold yY;simp (disch:=first | omega | (simp only [bM];omega)) only [↓aN,aQ,decide_true,↓hb2,if_pos,if_neg,Int.toNat_natCast,↓hxb,hg];rw [List.take_of_length_le (by simp),List.set_append,if_neg (by omega)];rfl
  ·refine .inr ⟨fun k=>(by cases k.2.2),?_⟩;refine ⟨([],(0,(0,(op++dn,(la,no))))),?_⟩;unfold yY;simp (disch:=first | omega | (simp only [bM];omega)) only [↓aN,aQ,decide_true,↓hb2,if_pos,if_neg,Int.toNat_natCast,↓hxb,hg]
 ·have hb2:∀ {β:Type} (f:Int->Option β),ah (dw (([],(0,(0,(op++dn,(la,no))))),n)) f=f (-1):=fun f=>hRb f e;refine .inr ⟨fun k => ?_,([],(0,(0,(op++dn,(la,no))))),?_⟩
  ·have h0:=k.1;have h1:=k.2.1;refine i1 (op.length+(n-1).toNat) ?_ ⟨by omega,?_⟩
   ·show _<(op++dn).length;rw [List.length_append];omega
   ·show ((op++dn).getD _ b0).2.2.2.2.2.2.1=n;rw [List.getD_eq_getElem?_getD,List.getElem?_append_right (by omega),<-List.getD_eq_getElem?_getD,h5 _ (by omega)];omega
  ·unfold yY;simp (disch:=(first | omega | (simp only [bM];omega))) only [↓aN,aQ,decide_true,↓hb2,if_pos]
theorem aq2 {a:AC} {s:ST} (ha:AOk a) (hn:¬Bad a) (h:INV s) (hl:s.2.1.length<=900000) :
 (∃s',uZ a s=some s'/\aZ (yY s,a)=some (yY s',true))\/(uZ a s=none/\∃g,aZ (yY s,a)=some (g,false)):=by
 have haz:=h.az;have hdz:=h.dz;have hpw:=h.2.1;have h256:=h.2.2.1;have hla:=h.2.2.2.1;have h5:=h.2.2.2.2.1;have hbk:=h.1;obtain ⟨op,dn,la,no⟩:=s;obtain ⟨k,t,n,se,co,c,f,o⟩:=a;obtain ⟨hk,ht,hn0,hse0,hco0⟩:=ha;simp only at haz hdz hpw h256 hla h5 hk ht hn0 hse0 hco0 hl hbk;have hbl:(yY (op,(dn,(la,no)))).2.2.2.1.length<=1000000:=by show (op++dn).length<=_;rw [List.length_append];omega
 have hsrt:QT (yY (op,(dn,(la,no)))).2.2.2.1:=aeW haz hpw hdz;have hbills:(yY (op,(dn,(la,no)))).2.2.2.1=op++dn:=rfl;have hopn:opn (yY (op,(dn,(la,no)))).2.2.2.1=op.length:=GR hdz haz;have hfnd:vI c (yY (op,(dn,(la,no)))).2.2.2.1↔vI c op:=ame c haz hdz;have hpsn:dW c (yY (op,(dn,(la,no)))).2.2.2.1=dW c op:=QZ c hdz op;have hget:vI c op->(yY (op,(dn,(la,no)))).2.2.2.1.getD (dW c op) b0=op.getD (dW c op) b0:=fun hf=>qQ (by have:=hf.1;rwa [haz.opn] at this);have hlt:vI c op->dW c op<op.length:=fun hf=>by have:=hf.1;rwa [haz.opn] at this
 by_cases k5:k=5
 ·subst k5;unfold uZ;simp only;rw [if_pos trivial];rcases apJ op dn la no n t se co c f o haz (fun i hi=>(h5 i hi).2) (by omega) with ⟨h1,e⟩ | ⟨h1,g,e⟩
  ·rw [iU h1,cond_true];exact .inl ⟨_,rfl,e⟩
  ·rw [mg h1,cond_false];exact .inr ⟨rfl,g,e⟩
 ·by_cases k1:k=1
  ·subst k1;have hef:=aoZ (yY (op,(dn,(la,no)))) t n se co c f o hbl hsrt;rw [hfnd,hopn] at hef;unfold uZ;simp only;rw [if_neg (by decide),if_pos trivial];rcases hef with ⟨h1,e⟩ | ⟨h1,e⟩
   ·rw [iU (show OKb op c f o from ⟨h1.1,h1.2.1,⟨h1.2.2.1,h1.2.2.2.1⟩,h1.2.2.2.2.1,h1.2.2.2.2.2⟩),cond_true];refine .inl ⟨_,rfl,?_⟩;rw [e,hbills,ahS _ haz hdz];rfl
   ·rw [mg (show ¬OKb op c f o from fun q=>h1 ⟨q.1,q.2.1,q.2.2.1.1,q.2.2.1.2,q.2.2.2.1,q.2.2.2.2⟩),cond_false];exact .inr ⟨rfl,_,e⟩
  ·by_cases k4:k=4
   ·subst k4;have hef:=aiR (yY (op,(dn,(la,no)))) t n se co c f o hbl hsrt (by show 0<=la/\la<=1048576;omega);unfold OK4 at hef;rw [hfnd,hpsn] at hef;unfold uZ;simp only;rw [if_neg (by decide),if_neg (by decide),if_pos trivial];have hbad:n<9223372036854775808/\se<9223372036854775808/\co<9223372036854775808/\(n=0->se=0/\co=0):=by
     unfold Bad at hn;dsimp only at hn;refine ⟨by omega,by omega,by omega,by omega⟩
    have hlast:(yY (op,(dn,(la,no)))).2.2.2.2.1=la:=rfl;rw [hlast] at hef;rcases hef with ⟨h1,e⟩ | ⟨h1,g,e⟩
    ·have hf:=h1.1;rw [hget hf] at h1 e;have hok:OKe op la t n se co c:=by
      refine ⟨hf,h1.2.1,?_⟩;rcases h1.2.2 with q | q
      ·exact .inl ⟨q.1,(hbad.2.2.2 q.1).1,(hbad.2.2.2 q.1).2,q.2⟩
      ·exact .inr ⟨q.1,q.2.1,q.2.2.1,q.2.2.2.1,q.2.2.2.2,hbad.2.2.1⟩
     rw [iU hok,cond_true];refine .inl ⟨_,rfl,?_⟩;rw [e,hbills,amg (hlt hf)];by_cases hz:n=0
     ·simp only [if_pos hz];rfl
     ·simp only [if_neg hz];rw [List.append_assoc];rfl
    ·refine .inr ⟨?_,g,e⟩;rw [mg,cond_false];intro q;refine h1 ⟨q.1,?_,?_⟩
     ·rw [hget q.1];exact q.2.1
     ·rw [hget q.1];rcases q.2.2 with w | w
      ·exact .inl ⟨w.1,w.2.2.2⟩
      ·exact .inr ⟨w.1,w.2.1,w.2.2.1,w.2.2.2.1,w.2.2.2.2.1⟩
   ·have k23:k=2\/k=3:=by omega
    have hef:=alX (yY (op,(dn,(la,no)))) k t n se co c f o k23 hbl hsrt;rw [hfnd,hpsn] at hef;unfold uZ;simp only;rw [if_neg k5,if_neg k1,if_neg k4];have hans:vI c op->((op.getD (dW c op) b0).2.2.2.2.1<0↔(op.getD (dW c op) b0).2.2.2.2.1 = -1):=fun hf=>by
     have hx:=hbk _ (xK (hlt hf));have:=hx.1.2.2.1;have:=hx.1.2.1.1;omega
    rcases hef with ⟨h1,e⟩ | ⟨h1,e⟩
    ·have hf:=h1.1;rw [hget hf] at h1 e;rw [iU (show OKt op k t c from ⟨hf,h1.2.1,fun k2=>(hans hf).1 (h1.2.2 k2)⟩),cond_true];refine .inl ⟨_,rfl,?_⟩;rw [e,hbills,amf _ (hlt hf)];rfl
    ·refine .inr ⟨?_,_,e⟩;rw [mg,cond_false];intro q;refine h1 ⟨q.1,?_,fun k2 => ?_⟩
     ·rw [hget q.1];exact q.2.1
     ·rw [hget q.1];exact (hans q.1).2 (q.2.2 k2)
theorem ahW {l:List (Int×List Int)} {i:Nat} (hi:i<l.length) (hl:l.length<=900000) (hb:RBy l) (hs:∀x∈l,x.2.length<=1000000) {s:ST} (h:INV s) (hd:s.2.1.length<=i) :
 (∃s',run [l.getD i (0,[])] s=some s'/\INV s'/\s'.2.1.length<=i+1/\deB l ((i:Int),yY s)=some (.inl (((i+1:Nat):Int),yY s'))) \/
 (run [l.getD i (0,[])] s=none/\deB l ((i:Int),yY s)=some (.inr (.inr (zG,false)))):=by
 obtain ⟨x,hx,hxb⟩:=get_at ((0,[]):Int×List Int) hi;have hxm:x∈l:=by
  rw [<-hx,List.getD_eq_getElem?_getD,List.getElem?_eq_getElem hi];exact List.getElem_mem hi
 have hbx:=hb x hxm;obtain ⟨r,hr,hu⟩:=apI x.1 hbx (hs x hxm);rw [hx];rcases hu with ⟨u1,u2,u3⟩ | ⟨u1,u2⟩
 ·have hok:=aeT hbx u2;rcases aq2 hok u3 h (by omega) with ⟨s',e1,e2⟩ | ⟨e1,g,e2⟩
  ·have hk:=YV hok h (by omega) e1;refine .inl ⟨s',?_,hk.1,by have:=hk.2;omega,?_⟩
   ·rw [ql,u2];simp only [e1];rfl
   ·unfold deB;unfold yY at e2 ⊢;obtain ⟨r1,r2⟩:=r;replace u1:r2=true:=u1;subst u1;simp (disch:=(first | omega | (simp only [bM];omega))) only [↓aN,aQ,if_pos,↓hxb,hr,e2,aj];rfl
  ·refine .inr ⟨?_,?_⟩
   ·rw [ql,u2];simp only [e1]
   ·unfold deB;unfold yY at e2 ⊢;obtain ⟨r1,r2⟩:=r;replace u1:r2=true:=u1;subst u1;simp (disch:=(first | omega | (simp only [bM];omega))) only [↓aN,aQ,if_pos,↓hxb,hr,e2];rfl
 ·refine .inr ⟨?_,?_⟩
  ·rcases u2 with u2 | ⟨a,u2,u4⟩
   ·rw [ql,u2]
   ·rw [ql,u2];simp only [ahV h u4]
  ·unfold deB;unfold yY;obtain ⟨r1,r2⟩:=r;replace u1:r2=false:=u1;subst u1;simp (disch:=(first | omega | (simp only [bM];omega))) only [↓aN,aQ,if_pos,↓hxb,hr];rfl
theorem Y0 {l:List (Int×List Int)} (hl:l.length<=900000) (hb:RBy l) (hs:∀x∈l,x.2.length<=1000000):∀(n i:Nat) (s:ST),l.length-i=n->i<=l.length->INV s->s.2.1.length<=i ->
 (∃s',run (l.drop i) s=some s'/\aA (deB l) ((i:Int),yY s)=some (.inl (yY s')))\/(run (l.drop i) s=none/\aA (deB l) ((i:Int),yY s)=some (.inr (zG,false)))
 | 0,i,s,hn,hi,hI,hd=>by
   obtain rfl:i=l.length:=by omega
   refine .inl ⟨s,by rw [List.drop_length];rfl,?_⟩;rw [dN];have e:deB l (((l.length:Nat):Int),yY s)=some (.inr (.inl (yY s))):=by
    unfold deB yY;simp (disch:=(first | omega | (simp only [bM];omega))) only [↓aN,aQ,if_neg]
   rw [e]
 | n+1,i,s,hn,hi,hI,hd=>by
   have hlt:i<l.length:=by omega
   have hdr:l.drop i=l.getD i (0,[])::l.drop (i+1):=by
    rw [List.drop_eq_getElem_cons hlt,List.getD_eq_getElem?_getD,List.getElem?_eq_getElem hlt];rfl
   rw [hdr,run_bind,dN];rcases ahW hlt hl hb hs hI hd with ⟨s',h1,h2,h3,h4⟩ | ⟨h1,h4⟩
   ·rw [h1,h4];exact Y0 hl hb hs n (i+1) s' (by omega) (by omega) h2 h3
   ·rw [h1,h4];exact .inr ⟨rfl,rfl⟩
theorem ahX (b:List Int) (n:Nat):(Jn.oh b n).1.2.length<=b.length:=by
 unfold Jn.oh;split
 ·exact Nat.zero_le _
 ·split
  ·exact Nat.zero_le _
  ·split
   ·exact Nat.zero_le _
   ·split
    ·show (List.take (Jn.szB b) (b.drop 10)).length<=b.length;rw [List.length_take,List.length_drop];omega
    ·exact Nat.zero_le _
theorem ahY {b:List Int} {r:Jn.Ai×(Int×Int)} (hr:aA (Jn.mM b) ([],0)=some r):∀x∈r.1,x.2.length<=b.length:=by
 have key:∀x r,xq (Jn.mM b) x r->(∀y∈x.1,y.2.length<=b.length)->∀y∈r.1,y.2.length<=b.length:=by
  intro x r h
  induction h with
  | done hd =>
    intro hI;unfold Jn.mM at hd;split at hd
    ·split at hd
     ·cases hd;exact hI
     ·cases hd
    ·cases hd;exact hI
  | step hn _ ih =>
    intro hI;refine ih ?_;unfold Jn.mM at hn;split at hn
    ·split at hn
     ·cases hn
     ·cases hn;intro y hy;rcases List.mem_append.1 hy with hy | hy
      ·exact hI y hy
      ·rw [List.mem_singleton.1 hy];refine Nat.le_trans (ahX _ _) ?_;rw [List.length_drop];omega
    ·cases hn
 exact key _ _ (nH.1 hr) (fun x hx=>by cases hx)
theorem UC (b:List Int) (hb:Bytes b) (hl:b.length<=600000) {l:Jn.Ai} {n e:Int} (hr:aA (Jn.mM b) ([],0)=some (l,(n,e))) :
 jo b=some (match run l s0 with | none=>(zG,false) | some s=>((b.take n.toNat,(n,((l.length:Int),(s.1++s.2.1,s.2.2)))),true)):=by
 obtain ⟨o1,o2,o3⟩:=Jn.xJ hr;simp only at o1 o2 o3;have hby:RBy l:=Jh hb hr;have hle:=ahY hr;have hj:=Jn.abg b hb (by omega) hr;rw [apC,hj];simp only [↓aN];rcases Y0 (l:=l) (by omega) hby (fun x hx=>by have:=hle x hx;omega) l.length 0 s0 (by omega) (Nat.zero_le _) inv0 (Nat.zero_le _) with ⟨s,h1,h2⟩ | ⟨h1,h2⟩
 ·rw [List.drop_zero] at h1;have h2':aA (deB l) (0,([],(0,(0,([],(0,0))))))=some (.inl (yY s)):=h2;rw [h1,h2'];rfl
 ·rw [List.drop_zero] at h1;have h2':aA (deB l) (0,([],(0,(0,([],(0,0))))))=some (.inr (zG,false)):=h2;rw [h1,h2'];rfl
theorem amv {a b:Int} (h:b<=a):fV a b=a:=by unfold fV;split<;>omega
def stn (g:LG) (x:Int):LG:=(g.1,(g.2.1,(g.2.2.1,(g.2.2.2.1,(g.2.2.2.2.1,x)))))
theorem ah0 (rs:List Ra) (fr:Int) (g:LG) (p:Nat) (t x y:Int):jk rs fr (stn g y) p t x=if (jk rs fr g p t g.2.2.2.2.2).2≠0 then jk rs fr g p t g.2.2.2.2.2 else (stn (jk rs fr g p t g.2.2.2.2.2).1 x,0):=by
 unfold jk;split
 ·rename_i h;have h':((g.2.2.2.1.getD p b0).2.2.2.2.1 ≠ -1/\g.2.2.2.2.1>=1048576)\/g.2.2.1>=1048576:=h;rw [if_pos h',if_pos (by simp)]
 ·rename_i h;have h':¬(((g.2.2.2.1.getD p b0).2.2.2.2.1 ≠ -1/\g.2.2.2.2.1>=1048576)\/g.2.2.1>=1048576):=h;rw [if_neg h',if_neg (by simp)];rfl
theorem Y1 (rs:List Ra) (fr x:Int):∀(n:Nat) (g:LG),cls rs fr n (stn g x)=if (cls rs fr n g).2≠0 then cls rs fr n g else (stn (cls rs fr n g).1 x,0)
 | 0,g=>by
   unfold cls;rw [if_neg (by simp)]
 | n+1,g=>by
   have hf:=ah0 rs fr g 0 (g.2.2.2.1.getD 0 b0).2.2.2.2.2.1 x x;show (if (jk rs fr (stn g x) 0 (g.2.2.2.1.getD 0 b0).2.2.2.2.2.1 x).2≠0 then jk rs fr (stn g x) 0 (g.2.2.2.1.getD 0 b0).2.2.2.2.2.1 x else cls rs fr n (jk rs fr (stn g x) 0 (g.2.2.2.1.getD 0 b0).2.2.2.2.2.1 x).1)=_;rw [hf];show _=if (if (jk rs fr g 0 (g.2.2.2.1.getD 0 b0).2.2.2.2.2.1 g.2.2.2.2.2).2≠0 then _ else _:LG×Int).2≠0 then (if (jk rs fr g 0 (g.2.2.2.1.getD 0 b0).2.2.2.2.2.1 g.2.2.2.2.2).2≠0 then _ else _) else (stn (if (jk rs fr g 0 (g.2.2.2.1.getD 0 b0).2.2.2.2.2.1 g.2.2.2.2.2).2≠0 then _ else _:LG×Int).1 x,0);by_cases h:(jk rs fr g 0 (g.2.2.2.1.getD 0 b0).2.2.2.2.2.1 g.2.2.2.2.2).2≠0
   ·simp only [if_pos h]
   ·simp only [if_neg h];rw [if_neg (by simp)];exact Y1 rs fr x n _
theorem Y2 (rs:List Ra) (fr:Int):∀(n:Nat) (g:LG),(cls rs fr n g).2≠0->(cls rs fr n g).1=zG
 | 0,g,h=>absurd rfl h
 | n+1,g,h=>by
   unfold cls at h ⊢;split
   ·rename_i hc;rw [if_pos hc] at h;unfold jk at h ⊢;split
    ·rfl
    ·rename_i hd;rw [if_neg hd] at h;exact absurd rfl h
   ·rename_i hc;rw [if_neg hc] at h;exact Y2 rs fr n _ h
theorem Y3 (rs:List Ra) (fr:Int):∀(n:Nat) (op dn:List BL) (g:LG),g.2.2.2.1=op++dn->AZ op->PW op->DZ dn->op.length=n->FI n g->(∀b∈op,b.2.2.2.2.2.1<=g.2.2.2.2.2) ->
 aA (cdB rs fr) g=some (if (cls rs fr n g).2≠0 then .inr (cls rs fr n g) else .inl (cls rs fr n g).1)
 | 0,op,dn,g,hb,ha,hp,hd,hn,hf,hnow=>by
   have ho:=GR hd ha;rw [hn,<-hb] at ho;have hl:g.2.2.2.1.length<=1000000:=hf.2.2.1;have hO:∀ {β:Type} (f:Int->Option β),ah (bW g) f=f 0:=fun f=>by rw [aa1 g hl,ho];rfl
   rw [dN];obtain ⟨a1,a2,a3,a4,a5,a6⟩:=g;have e:cdB rs fr (a1,(a2,(a3,(a4,(a5,a6)))))=some (.inr (.inl (a1,(a2,(a3,(a4,(a5,a6))))))):=by
    unfold cdB;simp (disch:=(first | omega | (simp only [bM];omega))) only [↓aN,aQ,↓hO,if_neg]
   rw [e];rfl
 | n+1,op,dn,g,hb,ha,hp,hd,hn,hf,hnow=>by
   have ho:=GR hd ha;rw [hn,<-hb] at ho;have hl:g.2.2.2.1.length<=1000000:=hf.2.2.1;have hO:∀ {β:Type} (f:Int->Option β),ah (bW g) f=f ((n+1:Nat):Int):=fun f=>by rw [aa1 g hl,ho]
   have hst:=YW rs fr hf;obtain ⟨h1,h2,h3,h4,h5,h6,h7⟩:=hf;obtain ⟨x,hx,hxb⟩:=get_at b0 (l:=g.2.2.2.1) (i:=0) (by omega);have hx2:=h2 0 (Nat.succ_pos n);have hsr:QT g.2.2.2.1:=by rw [hb];exact aeW ha hp hd
   cases op with
   | nil=>cases hn
   | cons y l =>
   have hxy:x=y:=by rw [<-hx,hb];rfl
   have hE:x.2.2.2.2.2.1<=g.2.2.2.2.2:=by rw [hxy];exact hnow y (by simp)
   have hed:=ahD rs fr g (p:=0) (g.2.2.2.1.getD 0 b0).2.2.2.2.2.1 (by omega) hsr h3 (by omega) h5 h6 h7 hx2.1 hx2.2 (Int.le_refl _);rw [hx] at hed hst;rw [amv hE] at hed;have hnext:(jk rs fr g 0 x.2.2.2.2.2.1 g.2.2.2.2.2).2=0->aA (cdB rs fr) (jk rs fr g 0 x.2.2.2.2.2.1 g.2.2.2.2.2).1=some (if (cls rs fr n (jk rs fr g 0 x.2.2.2.2.2.1 g.2.2.2.2.2).1).2≠0 then .inr (cls rs fr n (jk rs fr g 0 x.2.2.2.2.2.1 g.2.2.2.2.2).1) else .inl (cls rs fr n (jk rs fr g 0 x.2.2.2.2.2.1 g.2.2.2.2.2).1).1):=fun hr=>by
    have hF:=hst hr;have hrst:ji g.2.2.2.1 0=l++dn:=by rw [ama,hb];rfl
    have hg':∃dn',(jk rs fr g 0 x.2.2.2.2.2.1 g.2.2.2.2.2).1.2.2.2.1=l++dn'/\DZ dn'/\(jk rs fr g 0 x.2.2.2.2.2.1 g.2.2.2.2.2).1.2.2.2.2.2=g.2.2.2.2.2:=by
     unfold jk at hr ⊢;split at hr
     ·cases hr
     ·rename_i hc;rw [if_neg hc];show ∃dn',Ri rs fr g.2.2.2.1 g.2.2.2.2.1 0 x.2.2.2.2.2.1=l++dn'/\DZ dn'/\g.2.2.2.2.2=g.2.2.2.2.2;unfold Ri;rw [hrst];split
      ·refine ⟨dn++[_],by rw [List.append_assoc],fun b hbm => ?_,rfl⟩;rcases List.mem_append.1 hbm with hbm | hbm
       ·exact hd b hbm
       ·rw [List.mem_singleton.1 hbm];show g.2.2.2.2.1+1≠0;omega
      ·exact ⟨dn,rfl,hd,rfl⟩
    obtain ⟨dn',d1,d2,d3⟩:=hg';exact Y3 rs fr n l dn' _ d1 (fun b hbm=>ha b (by simp [hbm])) (List.pairwise_cons.1 hp).2 d2 (by simpa using hn) hF (fun b hbm=>by rw [d3];exact hnow b (by simp [hbm]))
   have hxb':∀ {β:Type} (f:BL->Option β),ah g.2.2.2.1[0]? f=f x:=fun f=>hxb f;have hglen:0<g.2.2.2.1.length:=by omega
   rw [dN];have e:cdB rs fr g=some (if (jk rs fr g 0 x.2.2.2.2.2.1 g.2.2.2.2.2).2≠0 then .inr (.inr (zG,(jk rs fr g 0 x.2.2.2.2.2.1 g.2.2.2.2.2).2)) else .inl (jk rs fr g 0 x.2.2.2.2.2.1 g.2.2.2.2.2).1):=by
    generalize jk rs fr g 0 x.2.2.2.2.2.1 g.2.2.2.2.2=r at *
    clear hst hnext;obtain ⟨a1,a2,a3,a4,a5,a6⟩:=g;obtain ⟨⟨r1,r2,r3,r4,r5,r6⟩,r7⟩:=r;unfold cdB;simp only at hxb' hglen hed;rw [show (((0:Nat)):Int)=0 from rfl] at hed;simp (disch:=(first | omega | (simp only [bM];omega))) only [↓aN,aQ,↓hO,if_pos,↓hxb',hed];by_cases hr:r7=0
    ·simp (disch:=(first | omega | (simp only [bM];omega))) only [↓aN,aQ,hr,ne_eq,not_true_eq_false,if_false]
    ·simp (disch:=(first | omega | (simp only [bM];omega))) only [↓aN,aQ,hr,ne_eq,not_false_iff,if_true];rfl
   rw [e];unfold cls;simp only [hx];by_cases hr:(jk rs fr g 0 x.2.2.2.2.2.1 g.2.2.2.2.2).2=0
   ·simp only [hr,ne_eq,not_true_eq_false,if_false];exact hnext hr
   ·simp only [hr,ne_eq,not_false_iff,if_true];have hz:(jk rs fr g 0 x.2.2.2.2.2.1 g.2.2.2.2.2).1=zG:=by
     unfold jk at hr ⊢;split at hr
     ·rename_i hc;rw [if_pos hc]
     ·exact absurd rfl hr
    rw [<-hz]
theorem ae0 (rs:List Ra) (fr now:Int) {op dn:List BL} {g:LG} (hb:g.2.2.2.1=op++dn) (ha:AZ op) (hp:PW op) (hd:DZ dn) (hf:FI op.length g) (hn:∀b∈op,b.2.2.2.2.2.1<=g.2.2.2.2.2) :
 kM (g,((rs,fr),now))=some (cls rs fr op.length (stn g now)):=by
 have h:=Y3 rs fr op.length op dn g hb ha hp hd rfl hf hn;have he:=Y2 rs fr op.length g;rw [Y1];obtain ⟨a1,a2,a3,a4,a5,a6⟩:=g;rw [apD,h];generalize cls rs fr op.length (a1,(a2,(a3,(a4,(a5,a6)))))=r at *
 obtain ⟨⟨r1,r2,r3,r4,r5,r6⟩,r7⟩:=r;by_cases hr:r7=0
 ·subst hr;rw [if_neg (by simp),if_neg (by simp)];rfl
 ·rw [if_pos hr,if_pos hr];simp only [↓aN,aQ]
theorem WM (b:List Int) (rs:List Ra) (fr now:Int) (hb:Bytes b) (hl:b.length<=600000) {l:Jn.Ai} {n e:Int} (hr:aA (Jn.mM b) ([],0)=some (l,(n,e))) :
 gJ (b,((rs,fr),now))=some (aa8 b rs fr now l n):=by
 obtain ⟨o1,o2,o3⟩:=Jn.xJ hr;simp only at o1 o2 o3;have hby:RBy l:=Jh hb hr;have hde:=UC b hb hl hr;unfold aa8;unfold gJ;by_cases ht:Rt.TV rs fr
 ·have hR:∀ {β:Type} (f:Bool->Option β),ah (bK (rs,fr)) f=f true:=fun f=>by rw [Rt.nC,Rt.jh ht];rfl
  by_cases h0:now<0
  ·rw [mg (fun k=>by omega),cond_false];simp only [↓aN,aQ,↓hR,h0,if_true];rfl
  ·by_cases h1:now > 1099511627776
   ·rw [mg (fun k=>by omega),cond_false];simp only [↓aN,aQ,↓hR,h0,h1,if_true,if_false];rfl
   ·rw [iU ⟨ht,by omega,by omega⟩,cond_true];simp only [↓aN,aQ,↓hR,h0,h1,if_false];rw [hde];rcases Jg (l:=l) (by omega) hby l.length 0 s0 (by omega) (Nat.zero_le _) inv0 (Nat.zero_le _) with ⟨s,r1,r2,r3,_⟩ | ⟨r1,_⟩
    ·rw [List.drop_zero] at r1;rw [r1];have hfi:=aeV r2 (show s.2.1.length<=400000 by omega) (B:=b.take n.toNat) (sy:=n) (c:=(l.length:Int)) (now:=s.2.2.2) (by rw [List.length_take];omega) (by rw [List.length_take];omega) (by omega);have hcl:=ae0 rs fr now (op:=s.1) (dn:=s.2.1) (g:=(b.take n.toNat,(n,((l.length:Int),(s.1++s.2.1,(s.2.2.1,s.2.2.2)))))) rfl r2.az r2.2.1 r2.dz hfi (fun x hx=>(r2.1 x hx).1.2.2.2.1.2);obtain ⟨op,dn,la,no⟩:=s;simp only at hcl;simp only [↓aN,aQ];by_cases hw:now<no
     ·simp only [hw,↓aN,aQ,if_true];rfl
     ·simp only [hw,↓aN,aQ,if_false];rw [hcl];show ah (some (cls rs fr op.length (b.take n.toNat,(n,((l.length:Int),(op++dn,(la,now))))))) _=some (cls rs fr op.length (b.take n.toNat,(n,((l.length:Int),(op++dn,(la,now))))));generalize cls rs fr op.length _=r;obtain ⟨⟨q1,q2,q3,q4,q5,q6⟩,q7⟩:=r;rfl
    ·rw [List.drop_zero] at r1;rw [r1];rfl
 ·rw [mg (fun k=>ht k.1),cond_false];have hR:∀ {β:Type} (f:Bool->Option β),ah (bK (rs,fr)) f=f false:=fun f=>by rw [Rt.nC,Rt.xH ht];rfl
  simp only [↓aN,aQ,↓hR];rfl
theorem ae1 (g:LG) (hl:g.2.2.2.1.length<=1000000):∃r,jF g=some r /\
 ((NX g/\∃i,i<g.2.2.2.1.length/\Due g.2.2.2.1 i/\(∀j,j<i->¬Due g.2.2.2.1 j)/\r=(g.2.2.2.1.getD i b0,true))\/(¬(NX g/\∃i,i<g.2.2.2.1.length/\Due g.2.2.2.1 i)/\r=(b0,false))):=by
 have ho:=lN g.2.2.2.1;rw [aoL];by_cases hv:VL g
 ·by_cases hsy:g.2.1=(g.1.length:Int)
  ·have hP:=ny (body:=nxB g) g.2.2.2.1.length (fun i=>Due g.2.2.2.1 i) (fun i => .inr (g.2.2.2.1.getD i b0,true)) (.inl ()) (fun i hi hn=>by
    obtain ⟨x,hx,hxb⟩:=get_at b0 hi;unfold Due at hn;rw [hx] at hn;unfold nxB;by_cases h0:x.2.2.2.2.2.2.1=0
    ·simp (disch:=(first | omega | (simp only [bM];omega))) only [↓aN,aQ,if_pos,if_neg,↓hxb,aj];rfl
    ·have h1:x.2.2.2.2.2.2.2.2.2=true:=by
      cases hg:x.2.2.2.2.2.2.2.2.2 with
      | true=>rfl
      | false=>exact (hn ⟨h0,hg⟩).elim
     simp (disch:=(first | omega | (simp only [bM];omega))) only [↓aN,aQ,if_pos,if_neg,↓hxb,h1,aj];rfl) (fun i hi hn=>by
    obtain ⟨x,hx,hxb⟩:=get_at b0 hi;unfold Due at hn;rw [hx] at hn ⊢;have hg:=hn.2;have h0:=hn.1;unfold nxB;simp (disch:=(first | omega | (simp only [bM];omega))) only [↓aN,aQ,if_pos,if_neg,↓hxb,hg]) (by
    unfold nxB;simp (disch:=(first | omega | (simp only [bM];omega))) only [↓aN,aQ,if_neg])
   rcases hP with ⟨i,k1,k2,k3,e⟩ | ⟨k,e⟩
   ·refine ⟨(g.2.2.2.1.getD i b0,true),?_,.inl ⟨⟨hv,hsy⟩,i,k1,k2,k3,rfl⟩⟩;simp (disch:=(first | omega | (simp only [bM];omega))) only [↓aN,aQ,↓(qw g hl).b,iU hv,if_neg,e]
   ·refine ⟨(b0,false),?_,.inr ⟨fun h=>by obtain ⟨i,i1,i2⟩:=h.2;exact k i i1 i2,rfl⟩⟩;simp (disch:=(first | omega | (simp only [bM];omega))) only [↓aN,aQ,↓(qw g hl).b,iU hv,if_neg,e];rfl
  ·refine ⟨(b0,false),?_,.inr ⟨fun h=>hsy h.1.2,rfl⟩⟩;simp (disch:=(first | omega | (simp only [bM];omega))) only [↓aN,aQ,↓(qw g hl).b,iU hv,if_pos];rfl
 ·refine ⟨(b0,false),?_,.inr ⟨fun h=>hv h.1.1,rfl⟩⟩;simp only [↓aN,aQ,↓(qw g hl).b,mg hv];rfl
theorem aq3:jF (wC,(56,(2,([w2],(0,2000)))))=some (b0,false):=by
 obtain ⟨r,h1,h3⟩:=ae1 (wC,(56,(2,([w2],(0,2000))))) (by decide);rcases h3 with ⟨_,i,hi,hd,_⟩ | ⟨_,rfl⟩
 ·obtain rfl:i=0:=by have:i<1:=hi;omega
  exact (hd.1 rfl).elim
 ·exact h1
theorem aq4:jF (wD,(0,(3,([w3],(1,4500)))))=some (b0,false):=by
 obtain ⟨r,h1,h3⟩:=ae1 (wD,(0,(3,([w3],(1,4500))))) (by decide);rcases h3 with ⟨h,_⟩ | ⟨_,rfl⟩
 ·have h2:(0:Int)=(wD.length:Int):=h.2;rw [GN] at h2;omega
 ·exact h1
theorem aq5:jF (wD,(105,(3,([w3],(1,4500)))))=some (w3,true):=by
 have hv:VL (wD,(105,(3,([w3],(1,4500))))):=VL1 (by rw [GN];decide) (by decide) (by decide) bk3 (.inr (by decide));obtain ⟨r,h1,h3⟩:=ae1 (wD,(105,(3,([w3],(1,4500))))) (by decide);rcases h3 with ⟨_,i,hi,_,_,rfl⟩ | ⟨hno,_⟩
 ·obtain rfl:i=0:=by have:i<1:=hi;omega
  exact h1
 ·exact (hno ⟨⟨hv,by show (105:Int)=(wD.length:Int);rw [GN];rfl⟩,0,by decide,by decide,rfl⟩).elim
theorem Q9:iK ()=some true:=by
 unfold iK;have h0:Aq ()=some zG:=rfl;have h1:=aqO;unfold zG wA at h1;rw [h0];unfold zG;simp only [↓aN,aQ,h1,aqP,aqQ,aq3,aeP,aqS,aq4,aqT,aq5];rfl
theorem ah1 (b:List Int) (hb:Bytes b) (hl:b.length<=1000000):∃r,aA (Jn.mM b) ([],0)=some r:=Jn.aaZ b
theorem Y4 (rs:List Ra) (fr:Int):∀(n:Nat) (g:LG),(cls rs fr n g).1.2.2.2.1.length<=g.2.2.2.1.length+n
 | 0,g=>Nat.le_refl _
 | n+1,g=>by
   have hb:=aeS g.2.2.2.1 0;have hf:(jk rs fr g 0 (g.2.2.2.1.getD 0 b0).2.2.2.2.2.1 g.2.2.2.2.2).1.2.2.2.1.length<=g.2.2.2.1.length+1:=by
    unfold jk;split
    ·exact Nat.zero_le _
    ·show (Ri rs fr g.2.2.2.1 g.2.2.2.2.1 0 _).length<=_;unfold Ri;split
     ·rw [List.length_append];show _+1<=_;omega
     ·omega
   unfold cls;split
   ·omega
   ·have:=Y4 rs fr n (jk rs fr g 0 (g.2.2.2.1.getD 0 b0).2.2.2.2.2.1 g.2.2.2.2.2).1;omega
theorem ae2 (b:List Int) (rs:List Ra) (fr now:Int) {l:Jn.Ai} (n:Int) (hl:l.length<=200000) (hb:RBy l):(aa8 b rs fr now l n).1.2.2.2.1.length<=1000000:=by
 unfold aa8;cases tf (Rt.TV rs fr/\0<=now/\now<=1099511627776) with
 | false=>exact Nat.zero_le _
 | true =>
   rw [cond_true];rcases Jg (l:=l) (by omega) hb l.length 0 s0 (by omega) (Nat.zero_le _) inv0 (Nat.zero_le _) with ⟨s,r1,r2,r3,_⟩ | ⟨r1,_⟩
   ·rw [List.drop_zero] at r1;rw [r1];have h256:=r2.2.2.1;show (if now<s.2.2.2 then (zG,9) else cls rs fr s.1.length _:LG×Int).1.2.2.2.1.length<=_;split
    ·exact Nat.zero_le _
    ·refine Nat.le_trans (Y4 _ _ _ _) ?_;show (s.1++s.2.1).length+s.1.length<=1000000;rw [List.length_append];omega
   ·rw [List.drop_zero] at r1;rw [r1];exact Nat.zero_le _
theorem UD (b:List Int) (rs:List Ra) (fr now:Int) (hb:Bytes b) (hl:b.length<=100000):∃r,kE (b,((rs,fr),now))=some r/\gJ (b,((rs,fr),now))=some r/\iT (r.1,r.1)=some true:=by
 obtain ⟨⟨l,n,e⟩,hr⟩:=ah1 b hb (by omega);obtain ⟨o1,o2,o3⟩:=Jn.xJ hr;simp only at o1 o2 o3;exact ⟨_,aa9 b rs fr now hb (by omega) hr,WM b rs fr now hb (by omega) hr,aa6 _ (ae2 b rs fr now n (by omega) (Jh hb hr))⟩
theorem WO (b:List Int) (rs:List Ra) (fr now:Int) (hb:Bytes b):gB (b,((rs,fr),now))=some true:=by
 unfold gB;by_cases h1:((b.length:Nat):Int) > 100000
 ·simp only [↓aN,aQ,h1,if_true,Q9]
 ·simp only [↓aN,aQ,h1,if_false,↓al7];by_cases h2:rs.length<=20
  ·obtain ⟨r,e1,e2,e3⟩:=UD b rs fr now hb (by omega);obtain ⟨q,f1,f2,f3⟩:=UD (b.take (b.length / 2)) rs fr now (hb.take _) (by rw [List.length_take];omega);have hw:IntKind.wrap .i64 (Int.tdiv ((b.length:Nat):Int) 2)=((b.length / 2:Nat):Int):=by
    rw [Int.tdiv_eq_ediv_of_nonneg (by omega),aj (by omega)];omega
   obtain ⟨⟨r1,r2,r3,r4,r5,r6⟩,r7⟩:=r;obtain ⟨⟨q1,q2,q3,q4,q5,q6⟩,q7⟩:=q;simp (disch:=(first | omega | (simp only [bM];omega))) only [↓aN,aQ,h2,if_true,e1,e2,e3,↓hw,Int.toNat_natCast,f1,f2,f3,if_pos,ne_eq,not_true_eq_false,if_false,Q9]
  ·simp only [↓aN,aQ,h2,if_false,Q9]
theorem Nu (a:List Int×((List Ra×Int)×Int)) (h:VY [(.tmp 0 false [(.dat (.list (.int .u8)))]),(.tmp 1 true [(.dat (.list UR)),(.dat (.int .i64))]),(.tmp 2 false [(.dat (.int .i64))])] a):gB a=some true:=WO a.1 a.2.1.1 a.2.1.2 a.2.2 (agj h.1.1)
end Go.Proofs.YtkpijdndakljjaaGreat
