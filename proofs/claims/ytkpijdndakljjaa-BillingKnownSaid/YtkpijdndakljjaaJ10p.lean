import Derived.Test.YtkpijdndakljjaaQ4p
import Derived.Test.YtkpijdndakljjaaU0p
import Derived.Test.YtkpijdndakljjaaZ2p
set_option linter.unusedSimpArgs false
set_option linter.unusedVariables false
set_option maxRecDepth 100000
namespace Go.Proofs.Ytkpijdndakljjaa.Rt
open Go.RowKit
noncomputable def csB (x:Ra) (a2 a4 n:Int):(Int×Int)→Option ((Int×Int) ⊕ (Int ⊕ (Int×Int))) :=
(fun (v15,v16) =>
 bif (decide (v15<n)) then
 bindO (dialtoneref37_Begin ((x.1,(x.2.1,(x.2.2.1,(x.2.2.2.1,x.2.2.2.2)))),(a2,v15))) fun x17 =>
 bindO (dialtoneref37_PriceAt ((x.1,(x.2.1,(x.2.2.1,(x.2.2.2.1,x.2.2.2.2)))),(Go.IntKind.wrap .i64 (a4+(Go.IntKind.wrap .i64 ((1000:Int)*x17)))))) fun (x21,x22) =>
 bif (decide (v15=(0:Int))) then
 bif (decide (((0:Int)≤x21)∧(x21<(((List.length x.2.2.2.2):Nat):Int)))) then
 bindO x.2.2.2.2[(Int.toNat x21)]? fun x23 =>
 some (Sum.inl ((Go.IntKind.wrap .i64 (v15+(1:Int))),(Go.IntKind.wrap .i64 (v16+x23.2.1))))
 else none
 else
 bif (decide (((0:Int)≤x21)∧(x21<(((List.length x.2.2.2.2):Nat):Int)))) then
 bindO x.2.2.2.2[(Int.toNat x21)]? fun x26 =>
 some (Sum.inl ((Go.IntKind.wrap .i64 (v15+(1:Int))),(Go.IntKind.wrap .i64 (v16+x26.2.2))))
 else none
 else
 outO (some (Sum.inl v16)))
theorem costR_eq (a1:List Ra) (a2:Int) (a3:List UInt8) (a4 a5:Int):dialtoneref37_Cost ((a1,a2),(a3,(a4,a5))) =
 bindO (dialtoneref37_Valid (a1,a2)) fun x6 =>
 bif (!x6) then
  some ((0:Int),(2:Int))
 else
  bindO (dialtoneref37_Span (a4,a5)) fun x7 =>
  bif (!x7) then
   some ((0:Int),(3:Int))
  else
   bindO (dialtoneref37_Seconds (a4,a5)) fun x8 =>
   bif (decide (x8 > (1000000:Int))) then
    some ((0:Int),(4:Int))
   else
    bindO (dialtoneref37_Find ((a1,a2),a3)) fun (x10,x11) =>
    bif (!x11) then
     some ((0:Int),(8:Int))
    else
     bif (decide (((0:Int)≤x10)∧(x10<(((List.length a1):Nat):Int)))) then
      bindO a1[(Int.toNat x10)]? fun x12 =>
      bindO (dialtoneref37_Seconds (a4,a5)) fun x13 =>
      bindO (dialtoneref37_Pieces ((x12.1,(x12.2.1,(x12.2.2.1,(x12.2.2.2.1,x12.2.2.2.2)))),(a2,x13))) fun x14 =>
      bif (decide (x14=(0:Int))) then
       some ((0:Int),(0:Int))
      else
       joinO (loopO (csB x12 a2 a4 x14) ((0:Int),x12.2.1)) fun v29 =>
       some (v29,(0:Int))
     else none:=rfl
noncomputable def px (l:List Pr1) (a:Int):Int:=(rating_priceAt (l,a)).getD 0
theorem px_j {l:List Pr1} {a:Int} (h:RVl l) (ha:0≤a∧a≤4000000000000000000):rating_priceAt (l,a)=some (px l a)∧PX l a (px l a):=by
 obtain ⟨x,e,hx⟩:=priceAt_j (l:=l) (a:=a) (by have:=h.1;omega) h.2.1 ha
 have:px l a=x:=by unfold px;rw [e];rfl
 rw [this]
 exact ⟨e,hx⟩
noncomputable def prc (l:List Pr1) (a:Int) (k:Nat):Int:=if k=0 then (l.getD (px l a).toNat p0).2.1 else (l.getD (px l a).toNat p0).2.2
theorem prc_bd {l:List Pr1} {a:Int} (h:RVl l) (ha:0≤a∧a≤4000000000000000000) (k:Nat):0≤prc l a k∧prc l a k≤1000000000:=by
 obtain ⟨i,hi,e⟩:=(px_j h ha).2.pos h
 have hp:=h.2.1 i hi
 unfold prc
 rw [e,Int.toNat_natCast]
 split
 ·exact hp.2.1
 ·exact hp.2.2
noncomputable def CU (l:List Pr1) (rc:Int) (mo:Nat→Int):Nat→Int
 | 0=>rc
 | k+1=>CU l rc mo k+prc l (mo k) k
theorem cs_bd {l:List Pr1} {rc:Int} {mo:Nat→Int} (h:RVl l) (hr:MnOk rc):∀ {n:Nat},(∀k,k<n→0≤mo k∧mo k≤4000000000000000000)→0≤CU l rc mo n∧CU l rc mo n≤1000000000*((n:Int)+1)
 | 0,_=>by unfold CU;omega
 | n+1,hm=>by
   have h1:=cs_bd h hr (n:=n) (fun k hk=>hm k (by omega))
   have h2:=prc_bd h (hm n (by omega)) n
   unfold CU
   omega
theorem sum_j {l:List Pr1} {rc:Int} {mo:Nat→Int} (h:RVl l) (hr:MnOk rc):∀ {n:Nat},n≤1000000→(∀k,k<n→0≤mo k∧mo k≤4000000000000000000)→sumN l rc mo n=some (CU l rc mo n)
 | 0,_,_=>rfl
 | n+1,hn,hm=>by
   have h0:=cs_bd h hr (n:=n) (mo:=mo) (fun k hk=>hm k (by omega))
   have h2:=prc_bd h (hm n (by omega)) n
   obtain ⟨e,hx⟩:=px_j h (hm n (by omega))
   obtain ⟨i,hi,ei⟩:=hx.pos h
   unfold sumN CU
   rw [sum_j h hr (by omega) (fun k hk=>hm k (by omega))]
   simp only [↓SDl,SDr,e]
   have hp:(if (n:Int)=0 then (l.getD (px l (mo n)).toNat ((0,(0,0)),(0,0))).2.1 else (l.getD (px l (mo n)).toNat ((0,(0,0)),(0,0))).2.2)=prc l (mo n) n:=by
    unfold prc
    by_cases k:n=0
    ·rw [if_pos k,if_pos (by omega)]
    ·rw [if_neg k,if_neg (by omega)]
   rw [hp,if_pos (show 0≤px l (mo n)∧px l (mo n)<(l.length:Int) by omega),wrap_i64' (by omega)]
def MO (a f fi st:Int) (k:Nat):Int:=a+1000*BG f fi st k
theorem bg_succ (f fi st:Int) (k:Nat):BG f fi st (k+1)=BG f fi st k+if k=0 then fi else st:=by
 unfold BG
 rw [if_neg (by omega)]
 by_cases h:k=0
 ·subst h
  rw [if_pos rfl,if_pos rfl,show (((0+1:Nat):Int)-1)=0 from rfl,Int.zero_mul];omega
 ·rw [if_neg h,if_neg h,show (((k+1:Nat):Int)-1)=((k:Int)-1)+1 from by omega,Int.add_mul,Int.one_mul];omega
theorem beg_j {a f fi st:Int} (ha:0≤a∧a≤281474976710656) (hf:0≤f∧f≤3600) (hfi:1≤fi∧fi≤3600) (hst:1≤st∧st≤3600):∀ {k:Nat},k≤1000001→begN (IntKind.wrap .i64 (a+IntKind.wrap .i64 (1000*f))) fi st k=MO a f fi st k
 | 0,_=>by
   unfold begN MO BG
   rw [if_pos rfl,wrap_i64' (n:=1000*f) (by omega),wrap_i64' (by omega)]
 | k+1,hk=>by
   have h0:=bg_bd (i:=k) hf hfi hst (by omega)
   have h1:=bg_bd (i:=k+1) hf hfi hst hk
   have hs:=bg_succ f fi st k
   unfold begN
   rw [beg_j ha hf hfi hst (by omega)]
   have hw:∀n:Int,-9223372036854775808≤n∧n<9223372036854775808→wrap64 n=n:=fun n h=>by unfold wrap64;omega
   show wrap64 (MO a f fi st k+wrap64 (1000*(if k=0 then fi else st)))=_
   unfold MO
   rw [hs] at h1 ⊢
   rw [hw (1000*(if k=0 then fi else st)) (by omega),hw _ (by omega)]
   omega
noncomputable def CV (r:Ra) (f a s:Int):Int:=if PN f r.2.2.1 r.2.2.2.1 s=0 then 0 else CU r.2.2.2.2 r.2.1 (MO a f r.2.2.1 r.2.2.2.1) (PN f r.2.2.1 r.2.2.2.1 s).toNat
theorem cs_congr {l:List Pr1} {rc:Int} {mo mo':Nat→Int}:∀ {n:Nat},(∀k,k<n→mo k=mo' k)→CU l rc mo n=CU l rc mo' n
 | 0,_=>rfl
 | n+1,h=>by unfold CU;rw [cs_congr (fun k hk=>h k (by omega)),h n (by omega)]
theorem validP_t {l:List Ra} {f:Int} (hv:TV l f):rating_Valid (l,f)=some true:=by
 rcases validP_j l f with ⟨_,e⟩ | ⟨k,_⟩
 ·exact e
 ·exact (k hv).elim
theorem validP_f {l:List Ra} {f:Int} (hv:¬TV l f):rating_Valid (l,f)=some false:=by
 rcases validP_j l f with ⟨k,_⟩ | ⟨_,e⟩
 ·exact (hv k).elim
 ·exact e
theorem mo_bd {a f fi st:Int} (ha:0≤a∧a≤281474976710656) (hf:0≤f∧f≤3600) (hfi:1≤fi∧fi≤3600) (hst:1≤st∧st≤3600) {k:Nat} (hk:k≤1000001):0≤MO a f fi st k∧MO a f fi st k≤300000000000000:=by
 have:=bg_bd (i:=k) hf hfi hst hk
 unfold MO
 omega
theorem costP_v {l:List Ra} {f a b:Int} {num:List UInt8} (hv:TV l f) (hs:Spn a b) (h1:SE a b≤1000000) {i:Nat} (hi:i<l.length) (hF:rating_Find ((l,f),num)=some ((i:Int),true)):rating_Cost ((l,f),(num,(a,b)))=some (CV (l.getD i r0) f a (SE a b),0):=by
 have hse:=se_nn a b
 have hrv:=(hv.2 i hi).1
 have hf:=hv.1.2
 have hfi:=hrv.1.2.2.1
 have hst:=hrv.1.2.2.2
 have hp:=piecesP_j hrv hf ⟨hse.1,h1⟩
 have hn:=pn_nn (f:=f) (fi:=(l.getD i r0).2.2.1) (s:=SE a b) hst.1
 have hle:=pn_le (st:=(l.getD i r0).2.2.2.1) hst.1 hf.1 hfi.1 hse.1
 have w1:0≤a∧a≤281474976710656:=⟨hs.1,Int.le_trans hs.2.1 hs.2.2⟩
 have w2:a≤b∧b≤281474976710656:=hs.2
 unfold rating_Cost CV
 simp (disch:=omega) only [↓SDl,SDr,validP_t hv,within_b,w1,w2,and_self,decide_true,secondsP_j,if_neg,hF,Int.toNat_natCast]
 have hp':rating_Pieces (l.getD i ([],(0,(0,(0,[])))),(f,SE a b))=some (PN f (l.getD i r0).2.2.1 (l.getD i r0).2.2.2.1 (SE a b)):=hp
 rw [hp']
 simp only [bindO_some]
 by_cases h0:PN f (l.getD i r0).2.2.1 (l.getD i r0).2.2.2.1 (SE a b)=0
 ·simp only [if_pos h0]
 ·simp only [if_neg h0]
  rw [if_pos (show (0:Int)≤PN f (l.getD i r0).2.2.1 (l.getD i r0).2.2.2.1 (SE a b)∧PN f (l.getD i r0).2.2.1 (l.getD i r0).2.2.2.1 (SE a b)≤4000000000000000000 by omega)]
  have hS:sumN (l.getD i r0).2.2.2.2 (l.getD i r0).2.1 (begN (IntKind.wrap .i64 (a+IntKind.wrap .i64 (1000*f))) (l.getD i r0).2.2.1 (l.getD i r0).2.2.2.1) (PN f (l.getD i r0).2.2.1 (l.getD i r0).2.2.2.1 (SE a b)).toNat=some (CU (l.getD i r0).2.2.2.2 (l.getD i r0).2.1 (MO a f (l.getD i r0).2.2.1 (l.getD i r0).2.2.2.1) (PN f (l.getD i r0).2.2.1 (l.getD i r0).2.2.2.1 (SE a b)).toNat):=by
   rw [sum_j hrv.2.2 hrv.1.2.1 (by omega) (fun k hk => ?_),cs_congr (fun k hk=>beg_j w1 hf hfi hst (by omega))]
   rw [beg_j w1 hf hfi hst (by omega)]
   have:=mo_bd w1 hf hfi hst (k:=k) (by omega)
   omega
  rw [hS]
  rfl
theorem priceR_b {β:Type} {r:Ra} {a:Int} (h:RV r) (ha:0≤a∧a≤562949953421312) (k:(Int×Bool)→Option β):bindO (dialtoneref37_PriceAt ((r.1,(r.2.1,(r.2.2.1,(r.2.2.2.1,r.2.2.2.2)))),a)) k=k (px r.2.2.2.2 a,true):=by
 obtain ⟨i,hi,hx,e⟩:=priceR_j h ha
 rw [e,(px_j h.2.2 (by omega)).2.uniq hx];rfl
theorem costR_v {l:List Ra} {f a b:Int} {num:List UInt8} (hv:TV l f) (hs:Spn a b) (h1:SE a b≤1000000) {i:Nat} (hi:i<l.length) (hF:dialtoneref37_Find ((l,f),num)=some ((i:Int),true)):dialtoneref37_Cost ((l,f),(num,(a,b)))=some (CV (l.getD i r0) f a (SE a b),0):=by
 have hse:=se_nn a b
 have hrv:=(hv.2 i hi).1
 obtain ⟨x,hx,hxb⟩:=get_at r0 hi
 rw [hx] at hrv ⊢
 have hf:=hv.1.2
 have hfi:=hrv.1.2.2.1
 have hst:=hrv.1.2.2.2
 have hp:=piecesR_j hrv hf ⟨hse.1,h1⟩
 have hn:=pn_nn (f:=f) (fi:=x.2.2.1) (s:=SE a b) hst.1
 have hle:=pn_le (st:=x.2.2.2.1) hst.1 hf.1 hfi.1 hse.1
 have w1:0≤a∧a≤281474976710656:=⟨hs.1,Int.le_trans hs.2.1 hs.2.2⟩
 rw [costR_eq,valid_same,validP_t hv]
 unfold CV
 simp (disch:=omega) only [↓SDl,SDr,span_b,hs,decide_true,secondsR_j,if_neg,hF]
 simp only [↓hxb,hp,bindO_some]
 by_cases h0:PN f x.2.2.1 x.2.2.2.1 (SE a b)=0
 ·simp only [if_pos h0]
 ·simp only [if_neg h0]
  obtain ⟨n,hn'⟩:∃n:Nat,PN f x.2.2.1 x.2.2.2.1 (SE a b)=(n:Int):=⟨(PN f x.2.2.1 x.2.2.2.1 (SE a b)).toNat,by omega⟩
  rw [hn',Int.toNat_natCast]
  have e:loopO (csB x f a (n:Int)) ((0:Int),x.2.1)=some (.inl (CU x.2.2.2.2 x.2.1 (MO a f x.2.2.1 x.2.2.2.1) n)):=by
   refine loopO_from (fun k=>((k:Int),CU x.2.2.2.2 x.2.1 (MO a f x.2.2.1 x.2.2.2.1) k)) n rfl (fun k hk => ?_) ?_
   ·have hm:∀j,j≤k→0≤MO a f x.2.2.1 x.2.2.2.1 j∧MO a f x.2.2.1 x.2.2.2.1 j≤300000000000000:=fun j hj=>mo_bd w1 hf hfi hst (by omega)
    have hb:=bg_bd (i:=k) hf hfi hst (by omega)
    have hmk:=hm k (Nat.le_refl _)
    have hcs:=cs_bd hrv.2.2 hrv.1.2.1 (n:=k) (mo:=MO a f x.2.2.1 x.2.2.2.1) (fun j hj=>by have:=hm j (by omega);omega)
    have hpr:=prc_bd hrv.2.2 (a:=MO a f x.2.2.1 x.2.2.2.1 k) (by omega) k
    obtain ⟨j,hj,ej⟩:=(px_j hrv.2.2 (a:=MO a f x.2.2.1 x.2.2.2.1 k) (by omega)).2.pos hrv.2.2
    have hn1:((k:Int)+1)=((k+1:Nat):Int):=rfl
    have hMO:a+1000*BG f x.2.2.1 x.2.2.2.1 k=MO a f x.2.2.1 x.2.2.2.1 k:=rfl
    obtain ⟨y,hy,hyb⟩:=get_at p0 hj
    have hprc:prc x.2.2.2.2 (MO a f x.2.2.1 x.2.2.2.1 k) k=if k=0 then y.2.1 else y.2.2:=by unfold prc;rw [ej,Int.toNat_natCast,hy]
    unfold csB
    simp (disch:=omega) only [↓SDl,SDr,if_pos,begin_b x hf hfi hst,wrap_i64',hMO,priceR_b hrv,ej]
    by_cases k0:k=0
    ·rw [if_pos k0] at hprc
     simp (disch:=omega) only [↓SDl,SDr,if_pos,↓hyb,wrap_i64',hn1]
     rw [CU,hprc]
    ·rw [if_neg k0] at hprc
     simp (disch:=omega) only [↓SDl,SDr,if_pos,if_neg,↓hyb,wrap_i64',hn1]
     rw [CU,hprc]
   ·unfold csB
    simp (disch:=omega) only [↓SDl,SDr,if_neg]
  rw [e]
  rfl
theorem cost_same (l:List Ra) (f:Int) (num:List UInt8) (a b:Int):∃r,rating_Cost ((l,f),(num,(a,b)))=some r∧dialtoneref37_Cost ((l,f),(num,(a,b)))=some r:=by
 by_cases hv:TV l f
 ·by_cases hs:Spn a b
  ·by_cases h1:SE a b≤1000000
   ·obtain ⟨r,e1,e2,k1,_⟩:=find_same l f num
    rcases k1 hv with ⟨rfl,_⟩ | ⟨i,hi,rfl,_⟩
    ·have w1:0≤a∧a≤281474976710656:=⟨hs.1,Int.le_trans hs.2.1 hs.2.2⟩
     have w2:a≤b∧b≤281474976710656:=hs.2
     refine ⟨(0,8),?_,?_⟩
     ·unfold rating_Cost
      simp (disch:=omega) only [↓SDl,SDr,validP_t hv,within_b,w1,w2,and_self,decide_true,secondsP_j,if_neg,e1]
     ·rw [costR_eq,valid_same,validP_t hv]
      simp (disch:=omega) only [↓SDl,SDr,span_b,hs,decide_true,secondsR_j,if_neg,e2]
    ·exact ⟨_,costP_v hv hs h1 hi e1,costR_v hv hs h1 hi e2⟩
   ·have w1:0≤a∧a≤281474976710656:=⟨hs.1,Int.le_trans hs.2.1 hs.2.2⟩
    have w2:a≤b∧b≤281474976710656:=hs.2
    refine ⟨(0,4),?_,?_⟩
    ·unfold rating_Cost
     simp (disch:=omega) only [↓SDl,SDr,validP_t hv,within_b,w1,w2,and_self,decide_true,secondsP_j,if_pos]
    ·rw [costR_eq,valid_same,validP_t hv]
     simp (disch:=omega) only [↓SDl,SDr,span_b,hs,decide_true,secondsR_j,if_pos]
  ·refine ⟨(0,3),?_,?_⟩
   ·unfold rating_Cost
    by_cases w1:0≤a∧a≤281474976710656
    ·have w2:¬(a≤b∧b≤281474976710656):=fun k=>hs ⟨w1.1,k⟩
     simp (disch:=omega) only [↓SDl,SDr,validP_t hv,within_b,w1,w2,and_self,decide_true,decide_false]
    ·simp (disch:=omega) only [↓SDl,SDr,validP_t hv,within_b,w1,decide_false]
   ·rw [costR_eq,valid_same,validP_t hv]
    simp (disch:=omega) only [↓SDl,SDr,span_b,hs,decide_false]
 ·refine ⟨(0,2),?_,?_⟩
  ·unfold rating_Cost
   simp only [↓SDl,SDr,validP_f hv]
  ·rw [costR_eq,valid_same,validP_f hv];rfl
end Go.Proofs.Ytkpijdndakljjaa.Rt

namespace Go.Proofs.Ytkpijdndakljjaa.Jn
open Go.RowKit
def crcBit (v:BitVec 32):BitVec 32:=if v.toNat % 2=1 then (v >>> 1) ^^^ 3988292384#32 else v >>> 1
def itB:Nat→BitVec 32→BitVec 32
 | 0,v=>v
 | n+1,v=>crcBit (itB n v)
def crcB (c:BitVec 32) (x:Int):BitVec 32:=itB 8 (c ^^^ BitVec.ofInt 32 x)
def crcV (l:List Int):BitVec 32:=l.foldl crcB 4294967295#32
def crc (l:List Int):Int:=(((crcV l ^^^ 4294967295#32).toNat:Nat):Int)
theorem bvI (v:BitVec 32):BitVec.ofInt 32 ((v.toNat:Nat):Int)=v:=by
 rw [BitVec.ofInt_natCast,BitVec.ofNat_toNat,BitVec.setWidth_eq]
theorem wrBV (v:BitVec 32):IntKind.wrap .u32 ((v.toNat:Nat):Int)=((v.toNat:Nat):Int):=by
 rw [wr_u32]
 have:=v.isLt
 omega
theorem wrHalf (v:BitVec 32):IntKind.wrap .u32 (Int.tdiv ((v.toNat:Nat):Int) 2)=(((v >>> 1).toNat:Nat):Int):=by
 rw [wr_u32,BitVec.toNat_ushiftRight,Nat.shiftRight_eq_div_pow,Int.tdiv_eq_ediv_of_nonneg (by omega)]
 have:=v.isLt
 omega
theorem and1 (v:BitVec 32):(v &&& 1#32).toNat=v.toNat % 2:=by
 rw [BitVec.toNat_and]
 show v.toNat &&& 1=_
 rw [Nat.and_one_is_mod]
theorem foldl_take {α β:Type} (f:β→α→β) (b:β) (l:List α) {i:Nat} (h:i<l.length):(l.take (i+1)).foldl f b=f ((l.take i).foldl f b) l[i]:=by
 rw [List.take_add_one,List.getElem?_eq_getElem h,List.foldl_append];rfl
theorem check_j (l:List Int) (h:Bytes l) (hl:l.length≤9223372036854775806):journal_Check l=some (crc l):=by
 unfold journal_Check
 refine joinO_eq (a:=(((crcV l).toNat:Nat):Int)) (loopO_from (fun i=>((i:Int),((((l.take i).foldl crcB 4294967295#32).toNat:Nat):Int))) l.length rfl ?_ ?_) ?_
 ·intro i hi
  simp only [bindO_some,bindO_none,joinO_inl,joinO_inr,joinO_none,outO_some,outO_none,cond_ite,List.take_length,Nat.le_refl,if_true,Nat.mul_one,Int.mul_one,cond_true,cond_false]
  rw [if_pos (by omega)]
  refine joinO_eq (a:=((((l.take (i+1)).foldl crcB 4294967295#32).toNat:Nat):Int)) ?_ ?_
  ·rw [if_pos (by omega),get_nat hi]
   generalize hc:(l.take i).foldl crcB 4294967295#32=c
   have hx:=h.get hi
   have e0:BitVec.ofInt 32 (IntKind.wrap .u32 l[i])=BitVec.ofInt 32 l[i]:=by
    rw [wr_u32];congr 1;omega
   refine loopO_from (fun j=>((j:Int),(((itB j (c ^^^ BitVec.ofInt 32 l[i])).toNat:Nat):Int))) 8 ?_ ?_ ?_
   ·show ((0:Int),(((c ^^^ BitVec.ofInt 32 l[i]).toNat:Nat):Int))=_
    rw [e0,bvI,wrBV]
   ·intro j hj
    show _=some (Sum.inl (((j+1:Nat):Int),(((crcBit (itB j (c ^^^ BitVec.ofInt 32 l[i]))).toNat:Nat):Int)))
    generalize itB j (c ^^^ BitVec.ofInt 32 l[i])=v at *
    simp only [bindO_some,bindO_none,joinO_inl,joinO_inr,joinO_none,outO_some,outO_none,cond_ite,List.take_length,Nat.le_refl,if_true,Nat.mul_one,Int.mul_one,cond_true,cond_false]
    rw [if_pos (by omega),wrap_i64' (by omega)]
    simp only [wrHalf,bvI,wrBV]
    rw [show BitVec.ofInt 32 1=1#32 from rfl,and1]
    unfold crcBit
    by_cases hb:v.toNat % 2=1
    ·rw [if_pos (by omega),if_pos hb];rfl
    ·rw [if_neg (by omega),if_neg hb];rfl
   ·simp only [bindO_some,bindO_none,joinO_inl,joinO_inr,joinO_none,outO_some,outO_none,cond_ite,List.take_length,Nat.le_refl,if_true,Nat.mul_one,Int.mul_one,cond_true,cond_false]
    rw [if_neg (by omega),foldl_take crcB _ l hi,hc]
    rfl
  ·rw [wrap_i64' (by omega)];rfl
 ·simp only [bindO_some,bindO_none,joinO_inl,joinO_inr,joinO_none,outO_some,outO_none,cond_ite,List.take_length,Nat.le_refl,if_true,Nat.mul_one,Int.mul_one,cond_true,cond_false]
  rw [if_neg (by omega)]
  rfl
 ·simp only [bvI]
  rw [show BitVec.ofInt 32 4294967295=4294967295#32 from rfl,wrBV,BitVec.xor_comm];rfl
theorem crc_bnd (l:List Int):0≤crc l∧crc l<4294967296:=by
 unfold crc
 have:=(crcV l ^^^ 4294967295#32).isLt
 omega
end Go.Proofs.Ytkpijdndakljjaa.Jn

namespace Go.Proofs.Ytkpijdndakljjaa.Jn
open Go.RowKit
def be:Nat→Int→List Int
 | 0,_=>[]
 | k+1,n=>be k (n / 256)++[n % 256]
theorem be_length:∀(k:Nat) (n:Int),(be k n).length=k
 | 0,_=>rfl
 | k+1,n=>by rw [be,List.length_append,be_length k];rfl
theorem be_cons:∀(k:Nat) (n:Int),be (k+1) n=(n / 256 ^ k % 256)::be k n
 | 0,n=>by simp [be]
 | k+1,n=>by
   rw [be,be_cons k,be,List.cons_append]
   congr 2
   rw [Int.pow_succ,Int.mul_comm,←Int.ediv_ediv_of_nonneg (by omega)]
theorem be_bytes:∀(k:Nat) (n:Int),Bytes (be k n)
 | 0,_=>fun x hx=>by cases hx
 | k+1,n=>by
   rw [be]
   refine (be_bytes k _).app fun x hx => ?_
   rw [List.mem_singleton] at hx
   omega
theorem wloop {β:Type} {body:Int×List Int→Option ((Int×List Int) ⊕ β)} (v:Int) (size:Nat) (b:List Int) (fin:List Int→β) {x:Int×List Int} (hx:x=((size:Int)-1,b))
 (h1:∀(i:Nat) (c:List Int),i<size→c.length≤b.length+size→body ((i:Int),c)=some (.inl ((i:Int)-1,c++[v / 256 ^ i % 256]))) (h2:∀c,body (-1,c)=some (.inr (fin c))):loopO body x=some (fin (b++be size v)):=by
 have key:∀(n:Nat) (c:List Int),n≤size→c.length+n=b.length+size→loopO body ((n:Int)-1,c)=some (fin (c++be n v)):=by
  intro n
  induction n with
  | zero=>intro c _ _;rw [loopO_eq,show (((0:Nat):Int)-1) = -1 from rfl,h2];simp [be]
  | succ n ih =>
    intro c hn hc
    rw [loopO_eq,show (((n+1:Nat):Int)-1)=((n:Nat):Int) from by omega,h1 n c (by omega) (by omega)]
    simp only
    rw [ih _ (by omega) (by rw [List.length_append];simp;omega),be_cons,List.append_assoc]
    rfl
 rw [hx]
 exact key size b (Nat.le_refl _) rfl
theorem fdiv256 (v:Int) (i:Nat) (hi:i<4):Int.fdiv v ((2:Int) ^ (Min.min (Int.toNat (8*(i:Int))) 32))=v / 256 ^ i:=by
 rw [Int.fdiv_eq_ediv_of_nonneg _ (Int.pow_nonneg (by omega))]
 rcases (by omega:i=0∨i=1∨i=2∨i=3) with rfl | rfl | rfl | rfl<;>rfl
def flds (fs:List (Int×Int)):List Int:=fs.flatMap fun f=>be f.2.toNat f.1
def headB (n k s:Int):List Int:=[167,k]++(be 4 n++(be 2 s++be 2 (65535-s)))
def preB (n k:Int) (d:List Int):List Int:=headB n k d.length++d
def encB (n k:Int) (d:List Int):List Int:=preB n k d++be 4 (crc (preB n k d))
def encS (n k:Int) (d:List Int):List Int×Int:=if n<0 then ([],3) else if n > 1048575 then ([],3) else if (d.length:Int) > 4096 then ([],4) else (encB n k d,0)
theorem headB_length (n k s:Int):(headB n k s).length=10:=by simp [headB,be_length]
theorem headB_bytes {n k s:Int} (hk:0≤k∧k≤255):Bytes (headB n k s):=by
 refine Bytes.app (fun x hx => ?_) ((be_bytes _ _).app ((be_bytes _ _).app (be_bytes _ _)))
 simp only [List.mem_cons,List.not_mem_nil,or_false] at hx
 omega
theorem preB_bytes {n k:Int} {d:List Int} (hk:0≤k∧k≤255) (hd:Bytes d):Bytes (preB n k d):=(headB_bytes hk).app hd
theorem preB_length (n k:Int) (d:List Int):(preB n k d).length=10+d.length:=by rw [preB,List.length_append,headB_length]
theorem flds5 (n k s:Int) (hk:0≤k∧k≤255):flds [(167,1),(k,1),(n,4),(s,2),(65535-s,2)]=headB n k s:=by
 have h1:be 1 167=[167]:=rfl
 have h2:be 1 k=[k]:=by simp [be];omega
 simp only [flds,List.flatMap_cons,List.flatMap_nil,List.append_nil]
 show be 1 167++(be 1 k++(be 4 n++(be 2 s++be 2 (65535-s))))=_
 rw [h1,h2];rfl
theorem floop {β:Type} {body:Int×List Int→Option ((Int×List Int) ⊕ β)} (fs:List (Int×Int)) (b:List Int) (fin:List Int→β) {x:Int×List Int} (hx:x=(0,b))
 (h1:∀(i:Nat) (c:List Int) (hi:i<fs.length),c.length≤b.length+40→body ((i:Int),c)=some (.inl ((i:Int)+1,c++be fs[i].2.toNat fs[i].1))) (h2:∀c,body ((fs.length:Int),c)=some (.inr (fin c))) (h3:(flds fs).length≤40):loopO body x=some (fin (b++flds fs)):=by
 have hle:∀i,(flds (fs.take i)).length≤(flds fs).length:=fun i=>by
  conv=>rhs;rw [←List.take_append_drop i fs]
  unfold flds
  rw [List.flatMap_append,List.length_append];omega
 refine loopO_from (fun i=>((i:Int),b++flds (fs.take i))) fs.length ?_ ?_ ?_
 ·rw [hx];simp [flds]
 ·intro i hi
  rw [h1 i _ hi (by rw [List.length_append];have:=hle i;omega),List.take_add_one,List.getElem?_eq_getElem hi]
  unfold flds
  rw [List.flatMap_append,←List.append_assoc]
  simp
 ·simp only [List.take_length]
  exact h2 _
end Go.Proofs.Ytkpijdndakljjaa.Jn

namespace Go.Proofs.Ytkpijdndakljjaa.Jn
open Go.RowKit
theorem encode_j (n k:Int) (d:List Int) (hn:n≤9223372036854775807) (hk:0≤k∧k≤255) (hd:Bytes d):journal_Encode (n,(k,d))=some (encS n k d):=by
 unfold journal_Encode encS
 simp only [bindO_some,bindO_none,joinO_inl,joinO_inr,joinO_none,outO_some,outO_none,cond_ite,List.take_length,Nat.le_refl,if_true,Nat.mul_one,Int.mul_one,cond_true,cond_false]
 by_cases h1:n<0
 ·rw [if_pos h1,if_pos h1]
 by_cases h2:n > 1048575
 ·rw [if_neg h1,if_pos (by omega),if_neg h1,if_pos h2]
 by_cases h3:(d.length:Int) > 4096
 ·rw [if_neg h1,if_neg (by omega),if_pos h3,if_neg h1,if_neg h2,if_pos h3]
 rw [if_neg h1,if_neg (by omega),if_neg h3,if_neg h1,if_neg h2,if_neg h3]
 have ws:∀z:Int,0≤z→z≤4294967295→IntKind.wrap .u32 z=z:=fun z a b=>by rw [wr_u32];omega
 rw [ws k (by omega) (by omega),ws n (by omega) (by omega),ws (d.length:Int) (by omega) (by omega),wrap_i64' (n:=65535-(d.length:Int)) (by omega),ws (65535-(d.length:Int)) (by omega) (by omega)]
 refine joinO_eq (a:=headB n k d.length) ?_ ?_
 ·refine joinO_eq (a:=headB n k d.length) ?_ rfl
  rw [←flds5 n k d.length hk]
  obtain ⟨L,hL⟩:∃L:List (Int×Int),L=[(167,1),(k,1),(n,4),((d.length:Int),2),(65535-(d.length:Int),2)]:=⟨_,rfl⟩
  have hlen:L.length=5:=by rw [hL];rfl
  have hsz:∀(i:Nat) (hi:i<L.length),1≤L[i].2∧L[i].2≤4:=fun i hi=>by
   subst hL
   rcases (by omega:i=0∨i=1∨i=2∨i=3∨i=4) with rfl | rfl | rfl | rfl | rfl<;>exact ⟨by simp,by simp⟩
  have hfl:(flds L).length≤40:=by rw [hL,flds5 n k d.length hk,headB_length];omega
  rw [←hL]
  refine floop L [] Sum.inl rfl ?_ ?_ hfl
  ·intro i c hi hc
   have hz:=hsz i hi
   have hc40:c.length≤40:=hc
   simp only [bindO_some,bindO_none,joinO_inl,joinO_inr,joinO_none,outO_some,outO_none,cond_ite,List.take_length,Nat.le_refl,if_true,Nat.mul_one,Int.mul_one,cond_true,cond_false]
   rw [if_pos (by omega)]
   refine joinO_eq (a:=c++be L[i].2.toNat L[i].1) ?_ ?_
   ·rw [if_pos (by omega),get_nat hi]
    refine wloop L[i].1 L[i].2.toNat c Sum.inl ?_ ?_ ?_
    ·rw [wrap_i64' (by omega)]
     congr 1;omega
    ·intro j b hj hb
     simp only [bindO_some,bindO_none,joinO_inl,joinO_inr,joinO_none,outO_some,outO_none,cond_ite,List.take_length,Nat.le_refl,if_true,Nat.mul_one,Int.mul_one,cond_true,cond_false]
     rw [if_pos (by omega),wrap_i64' (n:=8*(j:Int)) (by omega),if_pos (by omega),fdiv256 _ j (by omega),wr_u8,if_pos (by rw [List.length_append];simp;omega),wrap_i64' (by omega)]
    ·intro b
     simp only [bindO_some,bindO_none,joinO_inl,joinO_inr,joinO_none,outO_some,outO_none,cond_ite,List.take_length,Nat.le_refl,if_true,Nat.mul_one,Int.mul_one,cond_true,cond_false]
     rw [if_neg (by omega)]
   ·rw [wrap_i64' (by omega)]
  ·intro c
   simp only [bindO_some,bindO_none,joinO_inl,joinO_inr,joinO_none,outO_some,outO_none,cond_ite,List.take_length,Nat.le_refl,if_true,Nat.mul_one,Int.mul_one,cond_true,cond_false]
   rw [if_neg (by omega)]
 ·rw [show headB n k (d.length:Int)++d=preB n k d from rfl,if_pos (by rw [preB_length];omega)]
  refine bindO_eq (check_j _ (preB_bytes hk hd) (by rw [preB_length];omega)) ?_
  have hcb:=crc_bnd (preB n k d)
  generalize hP:preB n k d=B at *
  have hB:B.length≤5000:=by rw [←hP,preB_length];omega
  refine joinO_eq (a:=B++be 4 (crc B)) ?_ ?_
  ·refine joinO_eq (a:=B++be 4 (crc B)) ?_ rfl
   have e1:flds [(crc B,4)]=be 4 (crc B):=by simp only [flds,List.flatMap_cons,List.flatMap_nil,List.append_nil];rfl
   rw [←e1]
   refine floop [(crc B,4)] B Sum.inl rfl ?_ ?_ ?_
   ·intro i c hi hc
    have hi1:i<1:=hi
    have hi0:i=0:=by omega
    subst hi0
    simp only [bindO_some,bindO_none,joinO_inl,joinO_inr,joinO_none,outO_some,outO_none,cond_ite,List.take_length,Nat.le_refl,if_true,Nat.mul_one,Int.mul_one,cond_true,cond_false]
    rw [if_pos (by omega)]
    refine joinO_eq (a:=c++be 4 (crc B)) ?_ ?_
    ·rw [if_pos (by omega)]
     refine bindO_eq rfl ?_
     refine wloop (crc B) 4 c Sum.inl rfl ?_ ?_
     ·intro j b hj hb
      have hj4:j<4:=hj
      simp only [bindO_some,bindO_none,joinO_inl,joinO_inr,joinO_none,outO_some,outO_none,cond_ite,List.take_length,Nat.le_refl,if_true,Nat.mul_one,Int.mul_one,cond_true,cond_false]
      rw [if_pos (by omega),wrap_i64' (n:=8*(j:Int)) (by omega),if_pos (by omega),fdiv256 _ j (by omega),wr_u8,if_pos (by rw [List.length_append];simp;omega),wrap_i64' (by omega)]
     ·intro b
      simp only [bindO_some,bindO_none,joinO_inl,joinO_inr,joinO_none,outO_some,outO_none,cond_ite,List.take_length,Nat.le_refl,if_true,Nat.mul_one,Int.mul_one,cond_true,cond_false]
      rw [if_neg (by omega)]
    ·rw [wrap_i64' (by omega)];rfl
   ·intro c
    simp only [bindO_some,bindO_none,joinO_inl,joinO_inr,joinO_none,outO_some,outO_none,cond_ite,List.take_length,Nat.le_refl,if_true,Nat.mul_one,Int.mul_one,cond_true,cond_false]
    rw [if_neg (by simp)]
   ·rw [e1,be_length];omega
  ·rw [encB,hP]
end Go.Proofs.Ytkpijdndakljjaa.Jn

namespace Go.Proofs.Ytkpijdndakljjaa.Jn
open Go.RowKit
theorem getD_take {l:List Int} {i n:Nat} (h:i<n):(l.take n).getD i 0=l.getD i 0:=by
 rw [List.getD_eq_getElem?_getD,List.getElem?_take_of_lt h,List.getD_eq_getElem?_getD]
section
variable {b:List Int} {n:Nat}
end
end Go.Proofs.Ytkpijdndakljjaa.Jn

namespace Go.Proofs.Ytkpijdndakljjaa.Jn
open Go.RowKit
theorem joined_j (a b:List Int) (ha:a.length≤1000000) (hb:b.length≤1000000):journal_joined (a,b)=some (a++b):=by
 unfold journal_joined
 simp only [bindO_some,bindO_none,joinO_inl,joinO_inr,joinO_none,outO_some,outO_none,cond_ite,List.take_length,Nat.le_refl,if_true,Nat.mul_one,Int.mul_one,cond_true,cond_false]
 rw [wrap_i64' (by omega),if_pos (by omega)]
 have e:((a.length:Int)+(b.length:Int)).toNat=a.length+b.length:=by omega
 have h1:(List.take (a.length+b.length) a)=a:=List.take_of_length_le (by omega)
 have h2:(List.take (a.length+b.length-a.length) b)=b:=List.take_of_length_le (by omega)
 have h3:layL (List.replicate (a.length+b.length) (0:Int)) 0 a=a++List.replicate b.length 0:=by
  unfold layL
  rw [List.take_zero,List.nil_append,Nat.zero_add,List.drop_replicate,show a.length+b.length-a.length=b.length from by omega]
 have h4:layL (a++List.replicate b.length (0:Int)) a.length b=a++b:=by
  unfold layL
  rw [List.take_left,List.drop_of_length_le (by rw [List.length_append,List.length_replicate];omega),List.append_nil]
 rw [e,Int.toNat_natCast,h1,h2,h3,h4]
 rw [if_pos (by rw [List.length_replicate];omega),if_pos (by omega),if_pos (by rw [List.length_append,List.length_replicate];omega),if_pos (by rw [List.length_append];omega),List.take_of_length_le (by rw [List.length_append];omega)]
end Go.Proofs.Ytkpijdndakljjaa.Jn

namespace Go.Proofs.Ytkpijdndakljjaa.Jn
open Go.RowKit
def RecOk (r:Int×List Int):Prop:=(0≤r.1∧r.1≤255)∧Bytes r.2∧r.2.length≤4096
theorem encB_length (n k:Int) (d:List Int):(encB n k d).length=14+d.length:=by
 rw [encB,List.length_append,be_length,preB_length];omega
end Go.Proofs.Ytkpijdndakljjaa.Jn

namespace Go.Proofs.Ytkpijdndakljjaa.Jn
open Go.RowKit
def Rec2 (r:Int×List Int):Prop:=(0≤r.1∧r.1≤255)∧Bytes r.2∧r.2.length≤200
theorem Rec2.ok {r:Int×List Int} (h:Rec2 r):RecOk r:=⟨h.1,h.2.1,by have:=h.2.2;omega⟩
theorem valid_j (b:List Int) (s c:Int):journal_Valid (b,(s,c))=some (decide (0≤s∧s≤(b.length:Int)∧0≤c∧c≤1048576)):=by
 unfold journal_Valid
 simp only [bindO_some,bindO_none,joinO_inl,joinO_inr,joinO_none,outO_some,outO_none,cond_ite,List.take_length,Nat.le_refl,if_true,Nat.mul_one,Int.mul_one,cond_true,cond_false]
 by_cases h1:s≥0
 ·by_cases h2:s≤(b.length:Int)
  ·by_cases h3:c≥0
   ·rw [if_pos h1,if_pos h2,if_pos h3]
    congr 1
    rw [decide_eq_decide];omega
   ·rw [if_pos h1,if_pos h2,if_neg h3,decide_eq_false (by omega)]
  ·rw [if_pos h1,if_neg h2,decide_eq_false (by omega)]
 ·rw [if_neg h1,decide_eq_false (by omega)]
theorem append_j (b:List Int) (s c k:Int) (d:List Int) (hb:b.length≤900000) (hs:0≤s∧s≤(b.length:Int)) (hc:0≤c∧c<1048576) (hr:RecOk (k,d)):journal_Append ((b,(s,c)),(k,d))=some ((b++encB c k d,(s,c+1)),0):=by
 unfold journal_Append
 refine bindO_eq (valid_j b s c) ?_
 rw [decide_eq_true (by omega)]
 simp only [bindO_some,bindO_none,joinO_inl,joinO_inr,joinO_none,outO_some,outO_none,cond_ite,List.take_length,Nat.le_refl,if_true,Nat.mul_one,Int.mul_one,cond_true,cond_false,Bool.not_true]
 rw [if_neg (by omega)]
 have he:encS c k d=(encB c k d,0):=by
  have:=hr.2.2
  simp only at this
  unfold encS
  rw [if_neg (by omega),if_neg (by omega),if_neg (by omega)]
 refine bindO_eq ((encode_j c k d (by omega) hr.1 hr.2.1).trans (congrArg some he)) ?_
 simp only [ne_eq,not_true_eq_false,if_false]
 have:=hr.2.2
 simp only at this
 refine bindO_eq (joined_j _ _ (by omega) (by rw [encB_length];omega)) ?_
 rw [wrap_i64' (by omega)]
end Go.Proofs.Ytkpijdndakljjaa.Jn

namespace Go.Proofs.Ytkpijdndakljjaa.Jn
open Go.RowKit
theorem sync_j (b:List Int) (s c:Int) (hb:b.length≤900000) (hs:0≤s∧s≤(b.length:Int)) (hc:0≤c∧c≤1048576):journal_Sync (b,(s,c))=some (b,((b.length:Int),c)):=by
 unfold journal_Sync
 refine bindO_eq (valid_j b s c) ?_
 rw [decide_eq_true (by omega)]
 simp only [bindO_some,bindO_none,joinO_inl,joinO_inr,joinO_none,outO_some,outO_none,cond_ite,List.take_length,Nat.le_refl,if_true,Nat.mul_one,Int.mul_one,cond_true,cond_false,Bool.not_true]
 refine bindO_eq (joined_j b [] (by omega) (by simp)) ?_
 rw [List.append_nil]
end Go.Proofs.Ytkpijdndakljjaa.Jn

set_option maxRecDepth 100000
namespace Go.Proofs.Ytkpijdndakljjaa
open Go.RowKit
abbrev Tx:=List UInt8
abbrev BL:=Tx×(Tx×(Tx×(Int×(Int×(Int×(Int×(Int×(Int×Bool))))))))
abbrev LG:=List Int×(Int×(Int×(List BL×(Int×Int))))
def b0:BL:=([],([],([],(0,(0,(0,(0,(0,(0,false)))))))))
noncomputable def ocB {δ:Type} (a1:List BL):(Int)→Option ((Int) ⊕ (Int ⊕ δ)) :=
(fun v2 =>
 bif (decide (v2<(((List.length a1):Nat):Int))) then
 bif (decide (((0:Int)≤v2)∧(v2<(((List.length a1):Nat):Int)))) then
 bindO a1[(Int.toNat v2)]? fun x3 =>
 bif (decide (x3.2.2.2.2.2.2.1=(0:Int))) then
 some (Sum.inl (Go.IntKind.wrap .i64 (v2+(1:Int))))
 else
 outO (some (Sum.inl v2))
 else none
 else
 outO (some (Sum.inl v2)))
theorem oc_eq (a1:List BL):billing_openCount a1 =
 joinO (loopO (ocB a1) (0:Int)) fun v5 =>
 some v5:=rfl
theorem or_eq (g:LG):dialtoneref38_Open g =
 joinO (loopO (ocB g.2.2.2.1) (0:Int)) fun v10 =>
 some v10:=rfl
noncomputable def vaB (g:LG) (x10:Int):(Int×Int)→Option ((Int×Int) ⊕ (Unit ⊕ Bool)) :=
(fun (v11,v12) =>
 bif (decide (v11<(((List.length g.2.2.2.1):Nat):Int))) then
 bif (decide (((0:Int)≤v11)∧(v11<(((List.length g.2.2.2.1):Nat):Int)))) then
 bindO g.2.2.2.1[(Int.toNat v11)]? fun x13 =>
 bindO (billing_validBill (x13,g.2.2.2.2.2)) fun x14 =>
 bif (!x14) then
 outO (outO (some Bool.false))
 else
 bif (decide (v11<x10)) then
 bif (decide (v11 > (0:Int))) then
 bindO (some (Go.IntKind.wrap .i64 (v11-(1:Int)))) fun x15 =>
 bif (decide (((0:Int)≤x15)∧(x15<(((List.length g.2.2.2.1):Nat):Int)))) then
 bindO g.2.2.2.1[(Int.toNat x15)]? fun x16 =>
 bif (!(Go.Op.bytesLess x16.1 x13.1)) then
 outO (outO (some Bool.false))
 else
 some (Sum.inl ((Go.IntKind.wrap .i64 (v11+(1:Int))),v12))
 else none
 else
 some (Sum.inl ((Go.IntKind.wrap .i64 (v11+(1:Int))),v12))
 else
 bindO (billing_within (x13.2.2.2.2.2.2.1,((Go.IntKind.wrap .i64 (v12+(1:Int))),g.2.2.2.2.1))) fun x20 =>
 bif (!x20) then
 outO (outO (some Bool.false))
 else
 some (Sum.inl ((Go.IntKind.wrap .i64 (v11+(1:Int))),x13.2.2.2.2.2.2.1))
 else none
 else
 outO (some (Sum.inl ())))
theorem va_eq (g:LG):billing_Valid g =
 joinO (bindO (journal_Valid (g.1,(g.2.1,g.2.2.1))) fun x7 =>
 bif (!x7) then
 outO (some Bool.false)
 else
 bindO (billing_within (g.2.2.2.2.2,((0:Int),(1099511627776:Int)))) fun x8 =>
 bif (!x8) then
 outO (some Bool.false)
 else
 bindO (billing_within (g.2.2.2.2.1,((0:Int),(1048576:Int)))) fun x9 =>
 bif (!x9) then
 outO (some Bool.false)
 else
 some (Sum.inl ())) fun _ =>
 bindO (billing_openCount g.2.2.2.1) fun x10 =>
 bif (decide (x10 > (256:Int))) then
  some Bool.false
 else
  joinO (loopO (vaB g x10) ((0:Int),(0:Int))) fun _ =>
  some Bool.true:=rfl
noncomputable def vrB (g:LG) (x8:Int):(Int×Int)→Option ((Int×Int) ⊕ (Unit ⊕ Bool)) :=
(fun (v9,v10) =>
 bif (decide (v9<(((List.length g.2.2.2.1):Nat):Int))) then
 bif (decide (((0:Int)≤v9)∧(v9<(((List.length g.2.2.2.1):Nat):Int)))) then
 bindO g.2.2.2.1[(Int.toNat v9)]? fun x11 =>
 bindO (dialtoneref38_bill (x11,g.2.2.2.2.2)) fun x12 =>
 bif (!x12) then
 outO (outO (some Bool.false))
 else
 bif (decide (v9<x8)) then
 bif (decide (v9 > (0:Int))) then
 bindO (some (Go.IntKind.wrap .i64 (v9-(1:Int)))) fun x13 =>
 bif (decide (((0:Int)≤x13)∧(x13<(((List.length g.2.2.2.1):Nat):Int)))) then
 bindO g.2.2.2.1[(Int.toNat x13)]? fun x14 =>
 bif (!(Go.Op.bytesLess x14.1 x11.1)) then
 outO (outO (some Bool.false))
 else
 some (Sum.inl ((Go.IntKind.wrap .i64 (v9+(1:Int))),v10))
 else none
 else
 some (Sum.inl ((Go.IntKind.wrap .i64 (v9+(1:Int))),v10))
 else
 bif (decide (x11.2.2.2.2.2.2.1≤v10)) then
 outO (outO (some Bool.false))
 else
 bif (decide (x11.2.2.2.2.2.2.1 > g.2.2.2.2.1)) then
 outO (outO (some Bool.false))
 else
 some (Sum.inl ((Go.IntKind.wrap .i64 (v9+(1:Int))),x11.2.2.2.2.2.2.1))
 else none
 else
 outO (some (Sum.inl ())))
theorem vr_eq (g:LG):dialtoneref38_Valid g =
 joinO (bindO (dialtoneref20_Valid (g.1,(g.2.1,g.2.2.1))) fun x7 =>
 bif (!x7) then
 outO (some Bool.false)
 else
 bif (decide (g.2.2.2.2.2<(0:Int))) then
 outO (some Bool.false)
 else
 bif (decide (g.2.2.2.2.2 > (1099511627776:Int))) then
 outO (some Bool.false)
 else
 bif (decide (g.2.2.2.2.1<(0:Int))) then
 outO (some Bool.false)
 else
 bif (decide (g.2.2.2.2.1 > (1048576:Int))) then
 outO (some Bool.false)
 else
 some (Sum.inl ())) fun _ =>
 bindO (dialtoneref38_Open g) fun x8 =>
 joinO (loopO (vrB g x8) ((0:Int),(0:Int))) fun _ =>
 some (decide (x8≤(256:Int))):=rfl
noncomputable def plB {δ:Type} (a1:List BL) (a2:Tx):(Int×Int)→Option ((Int×Int) ⊕ (Int ⊕ δ)) :=
(fun (v3,v4) =>
 bif (decide (v4<v3)) then
 bindO (some (Int.fdiv (Go.IntKind.wrap .u64 (Go.IntKind.wrap .i64 (v4+v3))) (2:Int))) fun x7 =>
 bif (decide (((0:Int)≤(Go.IntKind.wrap .i64 x7))∧((Go.IntKind.wrap .i64 x7)<(((List.length a1):Nat):Int)))) then
 bindO a1[(Int.toNat (Go.IntKind.wrap .i64 x7))]? fun x9 =>
 bif (!(!(Go.Op.bytesLess x9.1 a2))) then
 some (Sum.inl (v3,(Go.IntKind.wrap .i64 ((Go.IntKind.wrap .i64 x7)+(1:Int)))))
 else
 some (Sum.inl ((Go.IntKind.wrap .i64 x7),v4))
 else none
 else
 outO (some (Sum.inl v4)))
theorem pl_eq (a1:List BL) (a2:Tx):billing_place (a1,a2) =
 joinO (joinO (loopO (plB a1 a2) ((((List.length a1):Nat):Int),(0:Int))) fun v11 =>
 some (Sum.inl v11)) fun v12 =>
 bif (decide (v12<(((List.length a1):Nat):Int))) then
  bif (decide (((0:Int)≤v12)∧(v12<(((List.length a1):Nat):Int)))) then
   bindO a1[(Int.toNat v12)]? fun x13 =>
   some (v12,(decide (x13.1=a2)))
  else none
 else
  some (v12,Bool.false):=rfl
noncomputable def d8B {δ:Type} (x5:Int):(Int×List Int)→Option ((Int×List Int) ⊕ ((Int×(List Int×Int)) ⊕ δ)) :=
(fun (v6,v7) =>
 bif (decide (v6≥(0:Int))) then
 bif (decide ((0:Int)≤v6)) then
 bindO (some (Int.fdiv (Go.IntKind.wrap .u64 x5) ((2:Int) ^ (Min.min (Int.toNat v6) 64)))) fun x9 =>
 bif (decide ((List.length v7)≤(List.length v7))) then
 bif (decide (((List.length ((List.take (List.length v7) v7)++((Go.IntKind.wrap .u8 x9)::([]:List Int))))*1)≤140737488355328)) then
 bindO (some ((List.take (List.length v7) v7)++((Go.IntKind.wrap .u8 x9)::([]:List Int)))) fun x11 =>
 bif (decide ((List.length x11)≤(List.length x11))) then
 some (Sum.inl ((Go.IntKind.wrap .i64 (v6-(8:Int))),(List.take (List.length x11) x11)))
 else none
 else none
 else none
 else none
 else
 outO (bif (decide ((List.length v7)≤(List.length v7))) then
 some (Sum.inl (v6,((List.take (List.length v7) v7),x5)))
 else none))
noncomputable def dnB {δ:Type} (a1:List Int):(Int×List Int)→Option ((Int×List Int) ⊕ (List Int ⊕ δ)) :=
(fun (v3,v4) =>
 bif (decide (v3<(((List.length a1):Nat):Int))) then
 joinO (bif (decide (((0:Int)≤v3)∧(v3<(((List.length a1):Nat):Int)))) then
 bindO a1[(Int.toNat v3)]? fun x5 =>
 bif (decide ((List.length v4)≤(List.length v4))) then
 loopO (d8B x5) ((56:Int),(List.take (List.length v4) v4))
 else none
 else none) fun (v13,(v14,v15)) =>
 bif (decide ((List.length v14)≤(List.length v14))) then
 some (Sum.inl ((Go.IntKind.wrap .i64 (v3+(1:Int))),(List.take (List.length v14) v14)))
 else none
 else
 outO (bif (decide ((List.length v4)≤(List.length v4))) then
 some (Sum.inl (List.take (List.length v4) v4))
 else none))
noncomputable def dtB {δ:Type} (a2:List Tx):(Int×List Int)→Option ((Int×List Int) ⊕ (List Int ⊕ δ)) :=
(fun (v18,v19) =>
 bif (decide (v18<(((List.length a2):Nat):Int))) then
 bif (decide (((0:Int)≤v18)∧(v18<(((List.length a2):Nat):Int)))) then
 bindO a2[(Int.toNat v18)]? fun x20 =>
 bindO (some (Int.fdiv (((List.length x20):Nat):Int) (256:Int))) fun x21 =>
 bindO (some (Go.IntKind.wrap .u8 (((List.length x20):Nat):Int))) fun x23 =>
 bif (decide ((List.length v19)≤(List.length v19))) then
 bif (decide (((List.length ((List.take (List.length v19) v19)++((Go.IntKind.wrap .u8 x21)::(x23::([]:List Int)))))*1)≤140737488355328)) then
 bindO (some ((List.take (List.length v19) v19)++((Go.IntKind.wrap .u8 x21)::(x23::([]:List Int))))) fun x24 =>
 bif (decide ((List.length x24)≤(List.length x24))) then
 bif (decide (((List.length ((List.take (List.length x24) x24)++(List.map (fun (x25:UInt8)=>(((UInt8.toNat x25):Nat):Int)) x20)))*1)≤140737488355328)) then
 bindO (some ((List.take (List.length x24) x24)++(List.map (fun (x27:UInt8)=>(((UInt8.toNat x27):Nat):Int)) x20))) fun x26 =>
 bif (decide ((List.length x26)≤(List.length x26))) then
 some (Sum.inl ((Go.IntKind.wrap .i64 (v18+(1:Int))),(List.take (List.length x26) x26)))
 else none
 else none
 else none
 else none
 else none
 else none
 else
 outO (bif (decide ((List.length v19)≤(List.length v19))) then
 some (Sum.inl (List.take (List.length v19) v19))
 else none))
theorem da_eq (a1:List Int) (a2:List Tx):billing_data (a1,a2) =
 joinO (loopO (dnB a1) ((0:Int),([]:List Int))) fun v17 =>
 joinO (bif (decide ((List.length v17)≤(List.length v17))) then
 loopO (dtB a2) ((0:Int),(List.take (List.length v17) v17))
 else none) fun v29 =>
 bif (decide ((List.length v29)≤(List.length v29))) then
  some (List.take (List.length v29) v29)
 else none:=rfl
noncomputable def nxB (g:LG):(Int)→Option ((Int) ⊕ (Unit ⊕ (BL×Bool))) :=
(fun v8 =>
 bif (decide (v8<(((List.length g.2.2.2.1):Nat):Int))) then
 bif (decide (((0:Int)≤v8)∧(v8<(((List.length g.2.2.2.1):Nat):Int)))) then
 bindO g.2.2.2.1[(Int.toNat v8)]? fun x9 =>
 bif (decide (x9.2.2.2.2.2.2.1≠(0:Int))) then
 bif (!x9.2.2.2.2.2.2.2.2.2) then
 outO (outO (some (x9,Bool.true)))
 else
 some (Sum.inl (Go.IntKind.wrap .i64 (v8+(1:Int))))
 else
 some (Sum.inl (Go.IntKind.wrap .i64 (v8+(1:Int))))
 else none
 else
 outO (some (Sum.inl ())))
theorem nx_eq (g:LG):billing_Next g =
 bindO (billing_Valid g) fun x7 =>
 bif (!x7) then
  some ((([]:List UInt8),(([]:List UInt8),(([]:List UInt8),((0:Int),((0:Int),((0:Int),((0:Int),((0:Int),((0:Int),Bool.false))))))))),Bool.false)
 else
  bif (decide (g.2.1≠(((List.length g.1):Nat):Int))) then
   some ((([]:List UInt8),(([]:List UInt8),(([]:List UInt8),((0:Int),((0:Int),((0:Int),((0:Int),((0:Int),((0:Int),Bool.false))))))))),Bool.false)
  else
   joinO (loopO (nxB g) (0:Int)) fun _ =>
   some ((([]:List UInt8),(([]:List UInt8),(([]:List UInt8),((0:Int),((0:Int),((0:Int),((0:Int),((0:Int),((0:Int),Bool.false))))))))),Bool.false):=rfl
noncomputable def nrB (g:LG):(Int)→Option ((Int) ⊕ (Unit ⊕ (BL×Bool))) :=
(fun v9 =>
 bif (decide (v9<(((List.length g.2.2.2.1):Nat):Int))) then
 bif (decide (((0:Int)≤v9)∧(v9<(((List.length g.2.2.2.1):Nat):Int)))) then
 bindO g.2.2.2.1[(Int.toNat v9)]? fun x10 =>
 bif (!x10.2.2.2.2.2.2.2.2.2) then
 bif (decide (((0:Int)≤v9)∧(v9<(((List.length g.2.2.2.1):Nat):Int)))) then
 bindO g.2.2.2.1[(Int.toNat v9)]? fun x11 =>
 outO (outO (some (x11,Bool.true)))
 else none
 else
 some (Sum.inl (Go.IntKind.wrap .i64 (v9+(1:Int))))
 else none
 else
 outO (some (Sum.inl ())))
theorem nr_eq (g:LG):dialtoneref38_Next g =
 bindO (dialtoneref38_Valid g) fun x7 =>
 bif (!x7) then
  some ((([]:List UInt8),(([]:List UInt8),(([]:List UInt8),((0:Int),((0:Int),((0:Int),((0:Int),((0:Int),((0:Int),Bool.false))))))))),Bool.false)
 else
  bif (decide (g.2.1≠(((List.length g.1):Nat):Int))) then
   some ((([]:List UInt8),(([]:List UInt8),(([]:List UInt8),((0:Int),((0:Int),((0:Int),((0:Int),((0:Int),((0:Int),Bool.false))))))))),Bool.false)
  else
   joinO (bindO (dialtoneref38_Open g) fun x8 =>
 loopO (nrB g) x8) fun _ =>
   some ((([]:List UInt8),(([]:List UInt8),(([]:List UInt8),((0:Int),((0:Int),((0:Int),((0:Int),((0:Int),((0:Int),Bool.false))))))))),Bool.false):=rfl
theorem fi_eq (g:LG) (a7:Tx):billing_find (g,a7) =
 bindO (billing_openCount g.2.2.2.1) fun x8 =>
 bif (decide (((0:Int)≤x8)∧(x8≤(((List.length g.2.2.2.1):Nat):Int)))) then
  bindO (billing_place ((List.take (Int.toNat x8) g.2.2.2.1),a7)) fun (x11,x12) =>
  some (x11,x12)
 else none:=rfl
theorem bg_eq (g:LG) (b:BL):billing_Begin (g,b) =
 joinO (bindO (billing_Valid g) fun x17 =>
 bif (!x17) then
 outO (some ((([]:List Int),((0:Int),((0:Int),(([]:List BL),((0:Int),(0:Int)))))),(2:Int)))
 else
 bindO (billing_within (b.2.2.2.1,(g.2.2.2.2.2,(1099511627776:Int)))) fun x18 =>
 bif (!x18) then
 outO (some ((([]:List Int),((0:Int),((0:Int),(([]:List BL),((0:Int),(0:Int)))))),(2:Int)))
 else
 bindO (billing_within ((((List.length b.1):Nat):Int),((1:Int),(200:Int)))) fun x19 =>
 bif (!x19) then
 outO (some ((([]:List Int),((0:Int),((0:Int),(([]:List BL),((0:Int),(0:Int)))))),(2:Int)))
 else
 bif (decide ((((List.length b.2.1):Nat):Int) > (200:Int))) then
 outO (some ((([]:List Int),((0:Int),((0:Int),(([]:List BL),((0:Int),(0:Int)))))),(2:Int)))
 else
 bif (decide ((((List.length b.2.2.1):Nat):Int) > (200:Int))) then
 outO (some ((([]:List Int),((0:Int),((0:Int),(([]:List BL),((0:Int),(0:Int)))))),(2:Int)))
 else
 some (Sum.inl ())) fun _ =>
 bindO (billing_find (g,b.1)) fun (x21,x22) =>
 bif x22 then
  some ((([]:List Int),((0:Int),((0:Int),(([]:List BL),((0:Int),(0:Int)))))),(7:Int))
 else
  bindO (billing_openCount g.2.2.2.1) fun x23 =>
  bif (decide (x23≥(256:Int))) then
   some ((([]:List Int),((0:Int),((0:Int),(([]:List BL),((0:Int),(0:Int)))))),(10:Int))
  else
   bindO (billing_data ((b.2.2.2.1::([]:List Int)),(b.1::(b.2.1::(b.2.2.1::([]:List (List UInt8))))))) fun x24 =>
   bindO (billing_write ((g.1,(g.2.1,g.2.2.1)),((1:Int),x24))) fun ((x26,(x27,x28)),x29) =>
   bif (decide (x29≠(0:Int))) then
    some ((([]:List Int),((0:Int),((0:Int),(([]:List BL),((0:Int),(0:Int)))))),x29)
   else
    bindO (cloneG g.2.2.2.1) fun x30 =>
    bindO (billing_begun (b.2.2.2.1,(b.1,(b.2.1,b.2.2.1)))) fun (x32,(x33,(x34,(x35,(x36,(x37,(x38,(x39,(x40,x41))))))))) =>
    bif ((decide ((List.length x30)=(List.length x30)))&&Bool.true) then
     bindO (insG (x30,(x21,((x32,(x33,(x34,(x35,(x36,(x37,(x38,(x39,(x40,x41)))))))))::([]:List BL))))) fun x42 =>
     bif (decide ((List.length x42)≤(List.length x42))) then
      some ((x26,(x27,(x28,((List.take (List.length x42) x42),(g.2.2.2.2.1,b.2.2.2.1))))),(0:Int))
     else none
    else none:=rfl
theorem to_eq (g:LG) (a7:Int) (a8:Tx) (a9:Int):billing_touch (g,(a7,(a8,a9))) =
 bindO (billing_Valid g) fun x10 =>
 bif (!x10) then
  some ((([]:List Int),((0:Int),((0:Int),(([]:List BL),((0:Int),(0:Int)))))),(2:Int))
 else
  bindO (billing_within (a9,(g.2.2.2.2.2,(1099511627776:Int)))) fun x11 =>
  bif (!x11) then
   some ((([]:List Int),((0:Int),((0:Int),(([]:List BL),((0:Int),(0:Int)))))),(2:Int))
  else
   bindO (billing_find (g,a8)) fun (x13,x14) =>
   bif (!x14) then
    some ((([]:List Int),((0:Int),((0:Int),(([]:List BL),((0:Int),(0:Int)))))),(8:Int))
   else
    bif (decide (a7=(2:Int))) then
     bif (decide (((0:Int)≤x13)∧(x13<(((List.length g.2.2.2.1):Nat):Int)))) then
      bindO g.2.2.2.1[(Int.toNat x13)]? fun x15 =>
      bif (decide (x15.2.2.2.2.1≠(-1:Int))) then
       some ((([]:List Int),((0:Int),((0:Int),(([]:List BL),((0:Int),(0:Int)))))),(9:Int))
      else
       bindO (billing_data ((a9::([]:List Int)),(a8::([]:List (List UInt8))))) fun x16 =>
       bindO (billing_write ((g.1,(g.2.1,g.2.2.1)),(a7,x16))) fun ((x18,(x19,x20)),x21) =>
       bif (decide (x21≠(0:Int))) then
        some ((([]:List Int),((0:Int),((0:Int),(([]:List BL),((0:Int),(0:Int)))))),x21)
       else
        bindO (cloneG g.2.2.2.1) fun x22 =>
        bif (decide (((0:Int)≤x13)∧(x13<(((List.length x22):Nat):Int)))) then
         bindO x22[(Int.toNat x13)]? fun x23 =>
         bif (decide (a7=(2:Int))) then
          bif (decide (((0:Int)≤x13)∧(x13<(((List.length x22):Nat):Int)))) then
           bindO (List.set x22 (Int.toNat x13) (x23.1,(x23.2.1,(x23.2.2.1,(x23.2.2.2.1,(x23.2.2.2.2.1,(a9,(x23.2.2.2.2.2.2.1,(x23.2.2.2.2.2.2.2.1,(x23.2.2.2.2.2.2.2.2.1,x23.2.2.2.2.2.2.2.2.2))))))))))[(Int.toNat x13)]? fun x24 =>
           bif (decide ((List.length x22)≤(List.length (List.set (List.set x22 (Int.toNat x13) (x23.1,(x23.2.1,(x23.2.2.1,(x23.2.2.2.1,(x23.2.2.2.2.1,(a9,(x23.2.2.2.2.2.2.1,(x23.2.2.2.2.2.2.2.1,(x23.2.2.2.2.2.2.2.2.1,x23.2.2.2.2.2.2.2.2.2)))))))))) (Int.toNat x13) (x24.1,(x24.2.1,(x24.2.2.1,(x24.2.2.2.1,(a9,(x24.2.2.2.2.2.1,(x24.2.2.2.2.2.2.1,(x24.2.2.2.2.2.2.2.1,(x24.2.2.2.2.2.2.2.2.1,x24.2.2.2.2.2.2.2.2.2))))))))))))) then
            some ((x18,(x19,(x20,((List.take (List.length x22) (List.set (List.set x22 (Int.toNat x13) (x23.1,(x23.2.1,(x23.2.2.1,(x23.2.2.2.1,(x23.2.2.2.2.1,(a9,(x23.2.2.2.2.2.2.1,(x23.2.2.2.2.2.2.2.1,(x23.2.2.2.2.2.2.2.2.1,x23.2.2.2.2.2.2.2.2.2)))))))))) (Int.toNat x13) (x24.1,(x24.2.1,(x24.2.2.1,(x24.2.2.2.1,(a9,(x24.2.2.2.2.2.1,(x24.2.2.2.2.2.2.1,(x24.2.2.2.2.2.2.2.1,(x24.2.2.2.2.2.2.2.2.1,x24.2.2.2.2.2.2.2.2.2))))))))))),(g.2.2.2.2.1,a9))))),(0:Int))
           else none
          else none
         else
          bif (decide ((List.length x22)≤(List.length (List.set x22 (Int.toNat x13) (x23.1,(x23.2.1,(x23.2.2.1,(x23.2.2.2.1,(x23.2.2.2.2.1,(a9,(x23.2.2.2.2.2.2.1,(x23.2.2.2.2.2.2.2.1,(x23.2.2.2.2.2.2.2.2.1,x23.2.2.2.2.2.2.2.2.2))))))))))))) then
           some ((x18,(x19,(x20,((List.take (List.length x22) (List.set x22 (Int.toNat x13) (x23.1,(x23.2.1,(x23.2.2.1,(x23.2.2.2.1,(x23.2.2.2.2.1,(a9,(x23.2.2.2.2.2.2.1,(x23.2.2.2.2.2.2.2.1,(x23.2.2.2.2.2.2.2.2.1,x23.2.2.2.2.2.2.2.2.2))))))))))),(g.2.2.2.2.1,a9))))),(0:Int))
          else none
        else none
     else none
    else
     bindO (billing_data ((a9::([]:List Int)),(a8::([]:List (List UInt8))))) fun x25 =>
     bindO (billing_write ((g.1,(g.2.1,g.2.2.1)),(a7,x25))) fun ((x27,(x28,x29)),x30) =>
     bif (decide (x30≠(0:Int))) then
      some ((([]:List Int),((0:Int),((0:Int),(([]:List BL),((0:Int),(0:Int)))))),x30)
     else
      bindO (cloneG g.2.2.2.1) fun x31 =>
      bif (decide (((0:Int)≤x13)∧(x13<(((List.length x31):Nat):Int)))) then
       bindO x31[(Int.toNat x13)]? fun x32 =>
       bif (decide (a7=(2:Int))) then
        bif (decide (((0:Int)≤x13)∧(x13<(((List.length x31):Nat):Int)))) then
         bindO (List.set x31 (Int.toNat x13) (x32.1,(x32.2.1,(x32.2.2.1,(x32.2.2.2.1,(x32.2.2.2.2.1,(a9,(x32.2.2.2.2.2.2.1,(x32.2.2.2.2.2.2.2.1,(x32.2.2.2.2.2.2.2.2.1,x32.2.2.2.2.2.2.2.2.2))))))))))[(Int.toNat x13)]? fun x33 =>
         bif (decide ((List.length x31)≤(List.length (List.set (List.set x31 (Int.toNat x13) (x32.1,(x32.2.1,(x32.2.2.1,(x32.2.2.2.1,(x32.2.2.2.2.1,(a9,(x32.2.2.2.2.2.2.1,(x32.2.2.2.2.2.2.2.1,(x32.2.2.2.2.2.2.2.2.1,x32.2.2.2.2.2.2.2.2.2)))))))))) (Int.toNat x13) (x33.1,(x33.2.1,(x33.2.2.1,(x33.2.2.2.1,(a9,(x33.2.2.2.2.2.1,(x33.2.2.2.2.2.2.1,(x33.2.2.2.2.2.2.2.1,(x33.2.2.2.2.2.2.2.2.1,x33.2.2.2.2.2.2.2.2.2))))))))))))) then
          some ((x27,(x28,(x29,((List.take (List.length x31) (List.set (List.set x31 (Int.toNat x13) (x32.1,(x32.2.1,(x32.2.2.1,(x32.2.2.2.1,(x32.2.2.2.2.1,(a9,(x32.2.2.2.2.2.2.1,(x32.2.2.2.2.2.2.2.1,(x32.2.2.2.2.2.2.2.2.1,x32.2.2.2.2.2.2.2.2.2)))))))))) (Int.toNat x13) (x33.1,(x33.2.1,(x33.2.2.1,(x33.2.2.2.1,(a9,(x33.2.2.2.2.2.1,(x33.2.2.2.2.2.2.1,(x33.2.2.2.2.2.2.2.1,(x33.2.2.2.2.2.2.2.2.1,x33.2.2.2.2.2.2.2.2.2))))))))))),(g.2.2.2.2.1,a9))))),(0:Int))
         else none
        else none
       else
        bif (decide ((List.length x31)≤(List.length (List.set x31 (Int.toNat x13) (x32.1,(x32.2.1,(x32.2.2.1,(x32.2.2.2.1,(x32.2.2.2.2.1,(a9,(x32.2.2.2.2.2.2.1,(x32.2.2.2.2.2.2.2.1,(x32.2.2.2.2.2.2.2.2.1,x32.2.2.2.2.2.2.2.2.2))))))))))))) then
         some ((x27,(x28,(x29,((List.take (List.length x31) (List.set x31 (Int.toNat x13) (x32.1,(x32.2.1,(x32.2.2.1,(x32.2.2.2.1,(x32.2.2.2.2.1,(a9,(x32.2.2.2.2.2.2.1,(x32.2.2.2.2.2.2.2.1,(x32.2.2.2.2.2.2.2.2.1,x32.2.2.2.2.2.2.2.2.2))))))))))),(g.2.2.2.2.1,a9))))),(0:Int))
        else none
      else none:=rfl
theorem fin_eq (g:LG) (a7:List Ra) (a8 a9 a10:Int):billing_finish (g,((a7,a8),(a9,a10))) =
 bif (decide (((0:Int)≤a9)∧(a9<(((List.length g.2.2.2.1):Nat):Int)))) then
  bindO g.2.2.2.1[(Int.toNat a9)]? fun x11 =>
  bindO (cloneG g.2.2.2.1) fun x12 =>
  bif (decide ((List.length x12)=(List.length x12))) then
   bindO (delG (x12,(a9,(Go.IntKind.wrap .i64 (a9+(1:Int)))))) fun x14 =>
   joinO (bif (decide (x11.2.2.2.2.1≠(-1:Int))) then
 bif (decide (g.2.2.2.2.1≥(1048576:Int))) then
 outO (some ((([]:List Int),((0:Int),((0:Int),(([]:List BL),((0:Int),(0:Int)))))),(10:Int)))
 else
 bindO (some (Go.IntKind.wrap .i64 (g.2.2.2.2.1+(1:Int)))) fun x15 =>
 bindO (rating_Seconds (x11.2.2.2.2.1,a10)) fun x16 =>
 bindO (rating_Cost ((a7,a8),(x11.2.2.1,(x11.2.2.2.2.1,a10)))) fun (x18,x19) =>
 bif (decide (x19=(0:Int))) then
 bif (decide ((List.length x14)≤(List.length x14))) then
 bif (decide (((List.length ((List.take (List.length x14) x14)++((x11.1,(x11.2.1,(x11.2.2.1,(x11.2.2.2.1,(x11.2.2.2.2.1,(a10,(x15,(x16,(x18,x11.2.2.2.2.2.2.2.2.2)))))))))::([]:List BL))))*104)≤140737488355328)) then
 bindO (some ((List.take (List.length x14) x14)++((x11.1,(x11.2.1,(x11.2.2.1,(x11.2.2.2.1,(x11.2.2.2.2.1,(a10,(x15,(x16,(x18,x11.2.2.2.2.2.2.2.2.2)))))))))::([]:List BL)))) fun x20 =>
 bif (decide ((List.length x20)≤(List.length x20))) then
 some (Sum.inl ((List.take (List.length x20) x20),((x11.1,(x11.2.1,(x11.2.2.1,(x11.2.2.2.1,(x11.2.2.2.2.1,(a10,(x15,(x16,(x18,x11.2.2.2.2.2.2.2.2.2))))))))),(g.1,(g.2.1,(g.2.2.1,(g.2.2.2.1,(x15,g.2.2.2.2.2))))))))
 else none
 else none
 else none
 else
 bif (decide ((List.length x14)≤(List.length x14))) then
 bif (decide (((List.length ((List.take (List.length x14) x14)++((x11.1,(x11.2.1,(x11.2.2.1,(x11.2.2.2.1,(x11.2.2.2.2.1,(a10,(x15,(x16,(x11.2.2.2.2.2.2.2.2.1,x11.2.2.2.2.2.2.2.2.2)))))))))::([]:List BL))))*104)≤140737488355328)) then
 bindO (some ((List.take (List.length x14) x14)++((x11.1,(x11.2.1,(x11.2.2.1,(x11.2.2.2.1,(x11.2.2.2.2.1,(a10,(x15,(x16,(x11.2.2.2.2.2.2.2.2.1,x11.2.2.2.2.2.2.2.2.2)))))))))::([]:List BL)))) fun x21 =>
 bif (decide ((List.length x21)≤(List.length x21))) then
 some (Sum.inl ((List.take (List.length x21) x21),((x11.1,(x11.2.1,(x11.2.2.1,(x11.2.2.2.1,(x11.2.2.2.2.1,(a10,(x15,(x16,(x11.2.2.2.2.2.2.2.2.1,x11.2.2.2.2.2.2.2.2.2))))))))),(g.1,(g.2.1,(g.2.2.1,(g.2.2.2.1,(x15,g.2.2.2.2.2))))))))
 else none
 else none
 else none
 else
 bif (decide ((List.length x14)≤(List.length x14))) then
 some (Sum.inl ((List.take (List.length x14) x14),((x11.1,(x11.2.1,(x11.2.2.1,(x11.2.2.2.1,(x11.2.2.2.2.1,(a10,(x11.2.2.2.2.2.2.1,(x11.2.2.2.2.2.2.2.1,(x11.2.2.2.2.2.2.2.2.1,x11.2.2.2.2.2.2.2.2.2))))))))),g)))
 else none) fun (v22,((v23,(v24,(v25,(v26,(v27,(v28,(v29,(v30,(v31,v32))))))))),(v33,(v34,(v35,(v36,(v37,v38))))))) =>
   bindO (billing_data ((a10::(v29::(v30::(v31::([]:List Int))))),(v23::([]:List (List UInt8))))) fun x39 =>
   bindO (billing_write ((v33,(v34,v35)),((4:Int),x39))) fun ((x41,(x42,x43)),x44) =>
   bif (decide (x44≠(0:Int))) then
    some ((([]:List Int),((0:Int),((0:Int),(([]:List BL),((0:Int),(0:Int)))))),x44)
   else
    bif (decide ((List.length v22)≤(List.length v22))) then
     some ((x41,(x42,(x43,((List.take (List.length v22) v22),(v37,v38))))),(0:Int))
    else none
  else none
 else none:=rfl
theorem en_eq (g:LG) (a7:List Ra) (a8:Int) (a9:Tx) (a10:Int):billing_End (g,((a7,a8),(a9,a10))) =
 joinO (bindO (billing_Valid g) fun x11 =>
 bif (!x11) then
 outO (some ((([]:List Int),((0:Int),((0:Int),(([]:List BL),((0:Int),(0:Int)))))),(2:Int)))
 else
 bindO (billing_within (a10,(g.2.2.2.2.2,(1099511627776:Int)))) fun x12 =>
 bif (!x12) then
 outO (some ((([]:List Int),((0:Int),((0:Int),(([]:List BL),((0:Int),(0:Int)))))),(2:Int)))
 else
 bindO (rating_Valid (a7,a8)) fun x13 =>
 bif (!x13) then
 outO (some ((([]:List Int),((0:Int),((0:Int),(([]:List BL),((0:Int),(0:Int)))))),(2:Int)))
 else
 some (Sum.inl ())) fun _ =>
 bindO (billing_find (g,a9)) fun (x15,x16) =>
 bif (!x16) then
  some ((([]:List Int),((0:Int),((0:Int),(([]:List BL),((0:Int),(0:Int)))))),(8:Int))
 else
  bindO (billing_finish (g,((a7,a8),(x15,a10)))) fun ((x18,(x19,(x20,(x21,(x22,x23))))),x24) =>
  bif (decide (x24≠(0:Int))) then
   some ((([]:List Int),((0:Int),((0:Int),(([]:List BL),((0:Int),(0:Int)))))),x24)
  else
   some ((x18,(x19,(x20,(x21,(x22,a10))))),(0:Int)):=rfl
theorem sy_eq (g:LG):billing_Sync g =
 bindO (billing_Valid g) fun x7 =>
 bif (!x7) then
  some (([]:List Int),((0:Int),((0:Int),(([]:List BL),((0:Int),(0:Int))))))
 else
  bindO (journal_Sync (g.1,(g.2.1,g.2.2.1))) fun (x9,(x10,x11)) =>
  bindO (cloneG g.2.2.2.1) fun x12 =>
  bif (decide ((List.length x12)≤(List.length x12))) then
   some (x9,(x10,(x11,((List.take (List.length x12) x12),(g.2.2.2.2.1,g.2.2.2.2.2)))))
  else none:=rfl
noncomputable def tf (p:Prop):Bool:=@decide p (Classical.propDecidable p)
theorem tf_t {p:Prop} (h:p):tf p=true:=by unfold tf;exact @decide_eq_true p (Classical.propDecidable p) h
theorem tf_f {p:Prop} (h:¬p):tf p=false:=by unfold tf;exact @decide_eq_false p (Classical.propDecidable p) h
theorem Is.tf {o:Option Bool} {P:Prop} (h:Is o P):o=Option.some (Go.Proofs.Ytkpijdndakljjaa.tf P):=by
 rcases h with ⟨h,e⟩ | ⟨h,e⟩
 ·rw [e,tf_t h]
 ·rw [e,tf_f h]
theorem Is.b {o:Option Bool} {P:Prop} (h:Is o P) {β:Type} (f:Bool→Option β):bindO o f=f (Go.Proofs.Ytkpijdndakljjaa.tf P):=by rw [h.tf];rfl
theorem Is.ite' {c:Prop} [Decidable c] {a b:Option Bool} {P:Prop} (h1:c→Is a P) (h2:¬c→Is b P):Is (if c then a else b) P:=by
 by_cases h:c
 ·rw [if_pos h];exact h1 h
 ·rw [if_neg h];exact h2 h
def opn:List BL→Nat
 | []=>0
 | b::l=>if b.2.2.2.2.2.2.1=0 then opn l+1 else 0
theorem opn_le:∀l:List BL,opn l≤l.length
 | []=>Nat.le_refl _
 | b::l=>by
   have:=opn_le l
   rw [opn,List.length_cons]
   split<;>omega
theorem opn_in:∀ {l:List BL} {i:Nat},i<opn l→(l.getD i b0).2.2.2.2.2.2.1=0
 | [],i,h=>by simp [opn] at h
 | b::l,i,h=>by
   rw [opn] at h
   split at h
   ·rename_i hb
    cases i with
    | zero=>exact hb
    | succ i =>
      rw [List.getD_cons_succ]
      exact opn_in (by omega)
   ·omega
theorem opn_at:∀ {l:List BL},opn l<l.length→(l.getD (opn l) b0).2.2.2.2.2.2.1≠0
 | [],h=>by simp [opn] at h
 | b::l,h=>by
   rw [opn] at h ⊢
   split at h
   ·rename_i hb
    rw [if_pos hb,List.getD_cons_succ]
    exact opn_at (by simpa using h)
   ·rename_i hb
    rw [if_neg hb]
    exact hb
theorem oc_loop {δ:Type} (l:List BL) (hl:l.length≤1000000):loopO (ocB (δ:=δ) l) (0:Int)=some (.inl ((opn l:Nat):Int)):=by
 have h1:=opn_le l
 refine loopO_from (fun i=>((i:Nat):Int)) (opn l) rfl (fun i hi => ?_) ?_
 ·have hz:=opn_in hi
  obtain ⟨x,hx,hxb⟩:=get_at b0 (show i<l.length by omega)
  rw [hx] at hz
  unfold ocB
  simp (disch:=(first | omega | (simp only [LNl];omega))) only [↓SDl,SDr,if_pos,↓hxb,hz,wrap_i64']
  rfl
 ·unfold ocB
  by_cases h2:opn l<l.length
  ·have hz:=opn_at h2
   obtain ⟨x,hx,hxb⟩:=get_at b0 h2
   rw [hx] at hz
   simp (disch:=(first | omega | (simp only [LNl];omega))) only [↓SDl,SDr,if_pos,if_neg,↓hxb,hz]
  ·simp (disch:=(first | omega | (simp only [LNl];omega))) only [↓SDl,SDr,if_neg]
theorem oc_j (l:List BL) (hl:l.length≤1000000):billing_openCount l=some ((opn l:Nat):Int):=by rw [oc_eq,oc_loop l hl];rfl
theorem or_j (g:LG) (hl:g.2.2.2.1.length≤1000000):dialtoneref38_Open g=some ((opn g.2.2.2.1:Nat):Int):=by rw [or_eq,oc_loop _ hl];rfl
theorem oc_b {β:Type} (l:List BL) (hl:l.length≤1000000) (f:Int→Option β):bindO (billing_openCount l) f=f ((opn l:Nat):Int):=by rw [oc_j l hl];rfl
theorem or_b {β:Type} (g:LG) (hl:g.2.2.2.1.length≤1000000) (f:Int→Option β):bindO (dialtoneref38_Open g) f=f ((opn g.2.2.2.1:Nat):Int):=by rw [or_j g hl];rfl
theorem wit_b {β:Type} (a b c:Int) (f:Bool→Option β):bindO (billing_within (a,(b,c))) f=f (decide (b≤a∧a≤c)):=by
 unfold billing_within
 by_cases h:b≤a
 ·simp only [cond_ite]
  rw [if_pos h,bindO_some]
  congr 1
  rw [decide_eq_decide];omega
 ·simp only [cond_ite]
  rw [if_neg h,bindO_some]
  congr 1
  rw [eq_comm,decide_eq_false_iff_not];omega
def BK (n:Int) (b:BL):Prop :=
 (1≤b.1.length∧b.1.length≤200∧b.2.1.length≤200∧b.2.2.1.length≤200)∧(0≤b.2.2.2.1∧b.2.2.2.1≤n)∧(b.2.2.2.2.1 = -1∨(b.2.2.2.1≤b.2.2.2.2.1∧b.2.2.2.2.1≤b.2.2.2.2.2.1))∧(b.2.2.2.1≤b.2.2.2.2.2.1∧b.2.2.2.2.2.1≤n) ∧
 ((b.2.2.2.2.2.2.1=0∧b.2.2.2.2.2.2.2.1=0∧b.2.2.2.2.2.2.2.2.1=0∧b.2.2.2.2.2.2.2.2.2=false)∨(b.2.2.2.2.2.2.1≠0∧b.2.2.2.2.1 ≠ -1∧0≤b.2.2.2.2.2.2.2.2.1∧b.2.2.2.2.2.2.2.1=Rt.SE b.2.2.2.2.1 b.2.2.2.2.2.1))
theorem sec_b {β:Type} (a b:Int) (f:Int→Option β):bindO (rating_Seconds (a,b)) f=f (Rt.SE a b):=by rw [Rt.secondsP_j];rfl
theorem secR_b {β:Type} (a b:Int) (f:Int→Option β):bindO (dialtoneref37_Seconds (a,b)) f=f (Rt.SE a b):=by rw [Rt.secondsR_j];rfl
set_option maxHeartbeats 4000000 in
theorem vb_j (n:Int) (b:BL):Is (billing_validBill (b,n)) (BK n b):=by
 obtain ⟨a1,a2,a3,a4,a5,a6,a7,a8,a9,a10⟩:=b
 unfold billing_validBill BK
 generalize hs:Rt.SE a5 a6=sv
 cases a10<;>simp only [↓SDl,SDr,wit_b,sec_b,hs,maxA,cond_ite,←decide_not,joinO_ite,outO_ite,bindO_ite,and_true,and_false,true_and,false_and,or_false,false_or,eq_self_iff_true,Bool.not_true,Bool.not_false,reduceCtorEq]<;>repeat' (refine Is.ite' (fun _ => ?_) (fun _ => ?_))
 all_goals first | exact Is.f (by omega) | exact Is.t (by omega) | exact Is.d (by omega)
set_option maxHeartbeats 4000000 in
theorem vbR_j (n:Int) (b:BL):Is (dialtoneref38_bill (b,n)) (BK n b):=by
 obtain ⟨a1,a2,a3,a4,a5,a6,a7,a8,a9,a10⟩:=b
 cases a1 with
 | nil =>
   show Is (some false) _
   exact Is.f (fun h=>by
    have:=h.1.1
    simp at this)
 | cons x a1 =>
 unfold dialtoneref38_bill BK
 generalize hs:Rt.SE a5 a6=sv
 have e0:decide (x::a1=([]:Tx))=false:=decide_eq_false (by simp)
 have hpos:1≤List.length (x::a1):=by simp
 dsimp only
 rw [e0,cond_false]
 clear e0
 generalize (x::a1:Tx)=a1 at *
 cases a10<;>simp only [↓SDl,SDr,secR_b,hs,cond_ite,←decide_not,joinO_ite,outO_ite,bindO_ite,and_true,and_false,true_and,false_and,or_false,false_or,eq_self_iff_true,Bool.not_true,Bool.not_false,reduceCtorEq]<;>repeat' (refine Is.ite' (fun _ => ?_) (fun _ => ?_))
 all_goals first | exact Is.f (by omega) | exact Is.t (by omega) | exact Is.d (by omega)
def pv (l:List BL) (i:Nat):Int:=if i≤opn l then 0 else (l.getD (i-1) b0).2.2.2.2.2.2.1
theorem pv_lo {l:List BL} {i:Nat} (h:i≤opn l):pv l i=0:=if_pos h
theorem pv_hi {l:List BL} {i:Nat} (h:opn l≤i):pv l (i+1)=(l.getD i b0).2.2.2.2.2.2.1:=by
 unfold pv
 rw [if_neg (by omega),Nat.add_sub_cancel]
def OKi (g:LG) (i:Nat):Prop:=BK g.2.2.2.2.2 (g.2.2.2.1.getD i b0)∧((i<opn g.2.2.2.1∧(0<i→Op.bytesLess (g.2.2.2.1.getD (i-1) b0).1 (g.2.2.2.1.getD i b0).1=true))∨(opn g.2.2.2.1≤i∧pv g.2.2.2.1 i+1≤(g.2.2.2.1.getD i b0).2.2.2.2.2.2.1∧(g.2.2.2.1.getD i b0).2.2.2.2.2.2.1≤g.2.2.2.2.1))
theorem pv_nn {g:LG} (h:0≤g.2.2.2.2.1∧g.2.2.2.2.1≤1048576):∀ {i:Nat},(∀j,j<i→OKi g j)→0≤pv g.2.2.2.1 i∧pv g.2.2.2.1 i≤1048576
 | 0,_=>by simp [pv]
 | i+1,hj=>by
   have ih:=pv_nn h (i:=i) (fun j hj'=>hj j (by omega))
   rcases (hj i (by omega)).2 with ⟨h1,_⟩ | ⟨h1,h2,h3⟩
   ·rw [pv_lo (by omega)];omega
   ·rw [pv_hi h1];omega
set_option maxHeartbeats 4000000 in
theorem va_loop (g:LG) (hl:g.2.2.2.1.length≤1000000) (h5:0≤g.2.2.2.2.1∧g.2.2.2.2.1≤1048576) :
 ((∀i,i<g.2.2.2.1.length→OKi g i)∧loopO (vaB g ((opn g.2.2.2.1:Nat):Int)) ((0:Int),(0:Int))=some (.inl ()))∨(¬(∀i,i<g.2.2.2.1.length→OKi g i)∧loopO (vaB g ((opn g.2.2.2.1:Nat):Int)) ((0:Int),(0:Int))=some (.inr false)):=by
 have ho:=opn_le g.2.2.2.1
 refine loop_allI (fun i=>(((i:Nat):Int),pv g.2.2.2.1 i)) _ (OKi g) _ _ (by simp [pv]) (fun i hi hj hok => ?_) (fun i hi hj hno => ?_) (fun _ => ?_)
 ·have hp:=pv_nn h5 hj
  obtain ⟨x,hx,hxb⟩:=get_at b0 hi
  obtain ⟨hb,hok⟩:=hok
  rw [hx] at hb hok
  unfold vaB
  rcases hok with ⟨h1,h2⟩ | ⟨h1,h2,h3⟩
  ·rw [pv_lo (by omega),pv_lo (show i+1≤_ by omega)]
   by_cases h0:0<i
   ·obtain ⟨y,hy,hyb⟩:=get_at b0 (show i-1<g.2.2.2.1.length by omega)
    have hbl:=h2 h0
    rw [hy] at hbl
    have hc:((i:Int)-1)=((i-1:Nat):Int):=by omega
    simp (disch:=(first | omega | (simp only [LNl];omega))) only [↓SDl,SDr,if_pos,if_neg,↓hxb,↓(vb_j g.2.2.2.2.2 x).b,tf_t hb,↓hyb,hc,hbl,wrap_i64',Bool.not_true]
    rfl
   ·simp (disch:=(first | omega | (simp only [LNl];omega))) only [↓SDl,SDr,if_pos,if_neg,↓hxb,↓(vb_j g.2.2.2.2.2 x).b,tf_t hb,wrap_i64',Bool.not_true]
    rfl
  ·rw [pv_hi h1,hx]
   simp (disch:=(first | omega | (simp only [LNl];omega))) only [↓SDl,SDr,if_pos,if_neg,↓hxb,↓(vb_j g.2.2.2.2.2 x).b,tf_t hb,↓wit_b,wrap_i64',Bool.not_true]
   rfl
 ·have hp:=pv_nn h5 hj
  obtain ⟨x,hx,hxb⟩:=get_at b0 hi
  unfold OKi at hno
  rw [hx] at hno
  unfold vaB
  by_cases hb:BK g.2.2.2.2.2 x
  ·by_cases h1:i<opn g.2.2.2.1
   ·by_cases h0:0<i
    ·obtain ⟨y,hy,hyb⟩:=get_at b0 (show i-1<g.2.2.2.1.length by omega)
     rw [hy] at hno
     have hc:((i:Int)-1)=((i-1:Nat):Int):=by omega
     cases hbl:Op.bytesLess y.1 x.1 with
     | true=>exact (hno ⟨hb,.inl ⟨h1,fun _=>hbl⟩⟩).elim
     | false=>simp (disch:=(first | omega | (simp only [LNl];omega))) only [↓SDl,SDr,if_pos,if_neg,↓hxb,↓(vb_j g.2.2.2.2.2 x).b,tf_t hb,↓hyb,hc,hbl,wrap_i64',Bool.not_true,Bool.not_false]
    ·exact (hno ⟨hb,.inl ⟨h1,fun h=>(h0 h).elim⟩⟩).elim
   ·simp (disch:=(first | omega | (simp only [LNl];omega))) only [↓SDl,SDr,if_pos,if_neg,↓hxb,↓(vb_j g.2.2.2.2.2 x).b,tf_t hb,↓wit_b,wrap_i64',Bool.not_true]
    have h4:¬(pv g.2.2.2.1 i+1≤x.2.2.2.2.2.2.1∧x.2.2.2.2.2.2.1≤g.2.2.2.2.1):=fun h=>hno ⟨hb,.inr ⟨by omega,h⟩⟩
    simp (disch:=(first | omega | (simp only [LNl];omega))) only [↓SDl,SDr,if_neg,h4]
  ·simp (disch:=(first | omega | (simp only [LNl];omega))) only [↓SDl,SDr,if_pos,↓hxb,↓(vb_j g.2.2.2.2.2 x).b,tf_f hb,Bool.not_false]
 ·unfold vaB
  simp (disch:=(first | omega | (simp only [LNl];omega))) only [↓SDl,SDr,if_neg]
set_option maxHeartbeats 4000000 in
theorem vr_loop (g:LG) (hl:g.2.2.2.1.length≤1000000) (h5:0≤g.2.2.2.2.1∧g.2.2.2.2.1≤1048576) :
 ((∀i,i<g.2.2.2.1.length→OKi g i)∧loopO (vrB g ((opn g.2.2.2.1:Nat):Int)) ((0:Int),(0:Int))=some (.inl ()))∨(¬(∀i,i<g.2.2.2.1.length→OKi g i)∧loopO (vrB g ((opn g.2.2.2.1:Nat):Int)) ((0:Int),(0:Int))=some (.inr false)):=by
 have ho:=opn_le g.2.2.2.1
 refine loop_allI (fun i=>(((i:Nat):Int),pv g.2.2.2.1 i)) _ (OKi g) _ _ (by simp [pv]) (fun i hi hj hok => ?_) (fun i hi hj hno => ?_) (fun _ => ?_)
 ·have hp:=pv_nn h5 hj
  obtain ⟨x,hx,hxb⟩:=get_at b0 hi
  obtain ⟨hb,hok⟩:=hok
  rw [hx] at hb hok
  unfold vrB
  rcases hok with ⟨h1,h2⟩ | ⟨h1,h2,h3⟩
  ·rw [pv_lo (by omega),pv_lo (show i+1≤_ by omega)]
   by_cases h0:0<i
   ·obtain ⟨y,hy,hyb⟩:=get_at b0 (show i-1<g.2.2.2.1.length by omega)
    have hbl:=h2 h0
    rw [hy] at hbl
    have hc:((i:Int)-1)=((i-1:Nat):Int):=by omega
    simp (disch:=(first | omega | (simp only [LNl];omega))) only [↓SDl,SDr,if_pos,if_neg,↓hxb,↓(vbR_j g.2.2.2.2.2 x).b,tf_t hb,↓hyb,hc,hbl,wrap_i64',Bool.not_true]
    rfl
   ·simp (disch:=(first | omega | (simp only [LNl];omega))) only [↓SDl,SDr,if_pos,if_neg,↓hxb,↓(vbR_j g.2.2.2.2.2 x).b,tf_t hb,wrap_i64',Bool.not_true]
    rfl
  ·rw [pv_hi h1,hx]
   simp (disch:=(first | omega | (simp only [LNl];omega))) only [↓SDl,SDr,if_pos,if_neg,↓hxb,↓(vbR_j g.2.2.2.2.2 x).b,tf_t hb,wrap_i64',Bool.not_true]
   rfl
 ·have hp:=pv_nn h5 hj
  obtain ⟨x,hx,hxb⟩:=get_at b0 hi
  unfold OKi at hno
  rw [hx] at hno
  unfold vrB
  by_cases hb:BK g.2.2.2.2.2 x
  ·by_cases h1:i<opn g.2.2.2.1
   ·by_cases h0:0<i
    ·obtain ⟨y,hy,hyb⟩:=get_at b0 (show i-1<g.2.2.2.1.length by omega)
     rw [hy] at hno
     have hc:((i:Int)-1)=((i-1:Nat):Int):=by omega
     cases hbl:Op.bytesLess y.1 x.1 with
     | true=>exact (hno ⟨hb,.inl ⟨h1,fun _=>hbl⟩⟩).elim
     | false=>simp (disch:=(first | omega | (simp only [LNl];omega))) only [↓SDl,SDr,if_pos,if_neg,↓hxb,↓(vbR_j g.2.2.2.2.2 x).b,tf_t hb,↓hyb,hc,hbl,wrap_i64',Bool.not_true,Bool.not_false]
    ·exact (hno ⟨hb,.inl ⟨h1,fun h=>(h0 h).elim⟩⟩).elim
   ·have h4:¬(pv g.2.2.2.1 i+1≤x.2.2.2.2.2.2.1∧x.2.2.2.2.2.2.1≤g.2.2.2.2.1):=fun h=>hno ⟨hb,.inr ⟨by omega,h⟩⟩
    by_cases h6:x.2.2.2.2.2.2.1≤pv g.2.2.2.1 i
    ·simp (disch:=(first | omega | (simp only [LNl];omega))) only [↓SDl,SDr,if_pos,if_neg,↓hxb,↓(vbR_j g.2.2.2.2.2 x).b,tf_t hb,wrap_i64',Bool.not_true]
    ·simp (disch:=(first | omega | (simp only [LNl];omega))) only [↓SDl,SDr,if_pos,if_neg,↓hxb,↓(vbR_j g.2.2.2.2.2 x).b,tf_t hb,wrap_i64',Bool.not_true]
  ·simp (disch:=(first | omega | (simp only [LNl];omega))) only [↓SDl,SDr,if_pos,↓hxb,↓(vbR_j g.2.2.2.2.2 x).b,tf_f hb,Bool.not_false]
 ·unfold vrB
  simp (disch:=(first | omega | (simp only [LNl];omega))) only [↓SDl,SDr,if_neg]
def VL (g:LG):Prop:=(0≤g.2.1∧g.2.1≤(g.1.length:Int)∧0≤g.2.2.1∧g.2.2.1≤1048576)∧(0≤g.2.2.2.2.2∧g.2.2.2.2.2≤1099511627776)∧(0≤g.2.2.2.2.1∧g.2.2.2.2.1≤1048576)∧opn g.2.2.2.1≤256∧∀i,i<g.2.2.2.1.length→OKi g i
theorem jv_b {β:Type} (b:List Int) (s c:Int) (f:Bool→Option β):bindO (journal_Valid (b,(s,c))) f=f (decide (0≤s∧s≤(b.length:Int)∧0≤c∧c≤1048576)):=by rw [Jn.valid_j];rfl
theorem va_j (g:LG) (hl:g.2.2.2.1.length≤1000000):Is (billing_Valid g) (VL g):=by
 rw [va_eq]
 by_cases h1:0≤g.2.1∧g.2.1≤(g.1.length:Int)∧0≤g.2.2.1∧g.2.2.1≤1048576
 ·skip
  by_cases h2:0≤g.2.2.2.2.2∧g.2.2.2.2.2≤1099511627776
  ·skip
   by_cases h3:0≤g.2.2.2.2.1∧g.2.2.2.2.1≤1048576
   ·skip
    by_cases h4:¬((opn g.2.2.2.1:Nat):Int) > 256
    ·skip
     simp (disch:=(first | omega | (simp only [LNl];omega))) only [↓SDl,SDr,↓jv_b,↓wit_b,↓oc_b _ hl,and_self,decide_true,decide_false,if_neg,h1,h2,h3,h4]
     rcases va_loop g hl h3 with ⟨h,e⟩ | ⟨h,e⟩
     ·rw [e];exact Is.t ⟨h1,h2,h3,by omega,h⟩
     ·rw [e];exact Is.f fun k=>h k.2.2.2.2
    ·(simp (disch:=(first | omega | (simp only [LNl];omega))) only [↓SDl,SDr,↓jv_b,↓wit_b,↓oc_b _ hl,and_self,decide_true,decide_false,if_pos,if_neg,h1,h2,h3,h4];exact Is.f fun k=>by unfold VL at k;omega)
   ·(simp (disch:=(first | omega | (simp only [LNl];omega))) only [↓SDl,SDr,↓jv_b,↓wit_b,↓oc_b _ hl,and_self,decide_true,decide_false,if_pos,if_neg,h1,h2,h3];exact Is.f fun k=>by unfold VL at k;omega)
  ·(simp (disch:=(first | omega | (simp only [LNl];omega))) only [↓SDl,SDr,↓jv_b,↓wit_b,↓oc_b _ hl,and_self,decide_true,decide_false,if_pos,if_neg,h1,h2];exact Is.f fun k=>by unfold VL at k;omega)
 ·(simp (disch:=(first | omega | (simp only [LNl];omega))) only [↓SDl,SDr,↓jv_b,↓wit_b,↓oc_b _ hl,and_self,decide_true,decide_false,if_pos,if_neg,h1];exact Is.f fun k=>by unfold VL at k;omega)
theorem jvR_b {β:Type} (b:List Int) (s c:Int) (f:Bool→Option β):bindO (dialtoneref20_Valid (b,(s,c))) f=f (decide (0≤s∧s≤(b.length:Int)∧0≤c∧c≤1048576)):=by
 have h:Is (dialtoneref20_Valid (b,(s,c))) (0≤s∧s≤(b.length:Int)∧0≤c∧c≤1048576):=by
  unfold dialtoneref20_Valid
  simp only [↓SDl,SDr,cond_ite,←decide_not,joinO_ite,outO_ite,bindO_ite]
  repeat' (refine Is.ite' (fun _ => ?_) (fun _ => ?_))
  all_goals first | exact Is.f (by omega) | exact Is.t (by omega) | exact Is.d (by omega)
 rcases h with ⟨k,e⟩ | ⟨k,e⟩
 ·rw [e,decide_eq_true k];rfl
 ·rw [e,decide_eq_false k];rfl
theorem vr_j (g:LG) (hl:g.2.2.2.1.length≤1000000):Is (dialtoneref38_Valid g) (VL g):=by
 rw [vr_eq]
 by_cases h1:0≤g.2.1∧g.2.1≤(g.1.length:Int)∧0≤g.2.2.1∧g.2.2.1≤1048576
 ·skip
  by_cases h2:¬g.2.2.2.2.2<0
  ·skip
   by_cases h2':¬g.2.2.2.2.2 > 1099511627776
   ·skip
    by_cases h3:¬g.2.2.2.2.1<0
    ·skip
     by_cases h3':¬g.2.2.2.2.1 > 1048576
     ·skip
      simp (disch:=(first | omega | (simp only [LNl];omega))) only [↓SDl,SDr,↓jvR_b,↓or_b _ hl,and_self,decide_true,decide_false,if_neg,h1,h2,h2',h3,h3']
      rcases vr_loop g hl ⟨by omega,by omega⟩ with ⟨h,e⟩ | ⟨h,e⟩
      ·rw [e,joinO_inl];exact Is.d ⟨fun k=>⟨h1,by omega,by omega,by omega,h⟩,fun k=>by unfold VL at k;omega⟩
      ·rw [e];exact Is.f fun k=>h k.2.2.2.2
     ·(simp (disch:=(first | omega | (simp only [LNl];omega))) only [↓SDl,SDr,↓jvR_b,and_self,decide_true,decide_false,if_pos,if_neg,h1,h2,h2',h3,h3'];exact Is.f fun k=>by unfold VL at k;omega)
    ·(simp (disch:=(first | omega | (simp only [LNl];omega))) only [↓SDl,SDr,↓jvR_b,and_self,decide_true,decide_false,if_pos,if_neg,h1,h2,h2',h3];exact Is.f fun k=>by unfold VL at k;omega)
   ·(simp (disch:=(first | omega | (simp only [LNl];omega))) only [↓SDl,SDr,↓jvR_b,and_self,decide_true,decide_false,if_pos,if_neg,h1,h2,h2'];exact Is.f fun k=>by unfold VL at k;omega)
  ·(simp (disch:=(first | omega | (simp only [LNl];omega))) only [↓SDl,SDr,↓jvR_b,and_self,decide_true,decide_false,if_pos,if_neg,h1,h2];exact Is.f fun k=>by unfold VL at k;omega)
 ·(simp (disch:=(first | omega | (simp only [LNl];omega))) only [↓SDl,SDr,↓jvR_b,and_self,decide_true,decide_false,if_pos,if_neg,h1];exact Is.f fun k=>by unfold VL at k;omega)
end Go.Proofs.Ytkpijdndakljjaa

set_option maxRecDepth 100000
namespace Go.Proofs.Ytkpijdndakljjaa
open Go.RowKit
theorem bl_irr:∀a:Tx,Op.bytesLess a a=false
 | []=>rfl
 | x::a=>by rw [Op.bytesLess,bl_irr a];simp
theorem bl_cons {x y:UInt8} {a b:Tx}:Op.bytesLess (x::a) (y::b)=true↔x.toNat<y.toNat∨(x=y∧Op.bytesLess a b=true):=by
 rw [Op.bytesLess]
 simp [UInt8.lt_iff_toNat_lt]
theorem bl_tr:∀ {a b c:Tx},Op.bytesLess a b=true→Op.bytesLess b c=true→Op.bytesLess a c=true
 | _,_,[],_,h=>by cases ‹Tx› <;> simp [Op.bytesLess] at h
 | _,[],_::_,h,_=>by cases ‹Tx› <;> simp [Op.bytesLess] at h
 | [],_::_,_::_,_,_=>rfl
 | x::a,y::b,z::c,h,k=>by
   rw [bl_cons] at h k ⊢
   rcases h with h | ⟨rfl,h⟩<;>rcases k with k | ⟨rfl,k⟩
   ·exact .inl (by omega)
   ·exact .inl h
   ·exact .inl k
   ·exact .inr ⟨rfl,bl_tr h k⟩
def psn (c:Tx):List BL→Nat
 | []=>0
 | b::l=>if b.2.2.2.2.2.2.1=0∧Op.bytesLess b.1 c=true then psn c l+1 else 0
theorem psn_le (c:Tx):∀l:List BL,psn c l≤opn l
 | []=>Nat.le_refl _
 | b::l=>by
   have:=psn_le c l
   rw [psn,opn]
   split
   ·rename_i h
    rw [if_pos h.1];omega
   ·exact Nat.zero_le _
theorem psn_in {c:Tx}:∀ {l:List BL} {i:Nat},i<psn c l→Op.bytesLess (l.getD i b0).1 c=true
 | [],i,h=>by simp [psn] at h
 | b::l,i,h=>by
   rw [psn] at h
   split at h
   ·rename_i hb
    cases i with
    | zero=>exact hb.2
    | succ i=>rw [List.getD_cons_succ];exact psn_in (by omega)
   ·omega
theorem psn_at {c:Tx}:∀ {l:List BL},psn c l<opn l→Op.bytesLess (l.getD (psn c l) b0).1 c=false
 | [],h=>by simp [psn,opn] at h
 | b::l,h=>by
   rw [psn] at h ⊢
   split at h
   ·rename_i hb
    rw [if_pos hb,List.getD_cons_succ]
    rw [opn,if_pos hb.1] at h
    exact psn_at (by omega)
   ·rename_i hb
    rw [if_neg hb]
    rw [opn] at h
    split at h
    ·rename_i h0
     cases hbl:Op.bytesLess b.1 c with
     | true=>exact (hb ⟨h0,hbl⟩).elim
     | false=>exact hbl
    ·omega
def Srt (l:List BL):Prop:=∀i j,i<j→j<opn l→Op.bytesLess (l.getD i b0).1 (l.getD j b0).1=true
theorem VL.srt {g:LG} (h:VL g):Srt g.2.2.2.1:=fun i j hij hj=>by
 have ho:=opn_le g.2.2.2.1
 induction j with
 | zero=>omega
 | succ j ih =>
   have hok:=(h.2.2.2.2 (j+1) (by omega)).2
   rcases hok with ⟨_,h2⟩ | ⟨h1,_⟩
   ·have h3:=h2 (by omega)
    rw [Nat.add_sub_cancel] at h3
    by_cases e:i=j
    ·subst e;exact h3
    ·exact bl_tr (ih (by omega) (by omega)) h3
   ·omega
theorem psn_iff {c:Tx} {l:List BL} (hs:Srt l) {m:Nat} (hm:m<opn l):Op.bytesLess (l.getD m b0).1 c=true↔m<psn c l:=by
 constructor
 ·intro h
  by_cases hp:m<psn c l
  ·exact hp
  ·exfalso
   have h1:=psn_at (c:=c) (l:=l) (by omega)
   by_cases e:m=psn c l
   ·subst e;rw [h1] at h;cases h
   ·have:=bl_tr (hs _ _ (show psn c l<m by omega) hm) h
    rw [h1] at this;cases this
 ·exact psn_in
def Fnd (c:Tx) (l:List BL):Prop:=psn c l<opn l∧(l.getD (psn c l) b0).1=c
theorem place_j (l:List BL) (c:Tx) (hl:l.length≤1000000) {p:Nat} (hp:p≤l.length) (hs:∀m,m<l.length→(Op.bytesLess (l.getD m b0).1 c=true↔m<p)):billing_place (l,c)=some (((p:Nat):Int),decide (p<l.length∧(l.getD p b0).1=c)):=by
 rw [pl_eq]
 have hloop:∀ {δ:Type},∃r:Int ⊕ δ,loopO (plB (δ:=δ) l c) ((((List.length l):Nat):Int),(0:Int))=some r∧r = .inl ((p:Nat):Int):=fun {δ}=>by
  refine loopO_post (fun x=>∃lo hi:Nat,x=(((hi:Nat):Int),((lo:Nat):Int))∧lo≤p∧p≤hi∧hi≤l.length) (fun r=>r=(.inl ((p:Nat):Int):Int ⊕ δ)) (fun x=>(x.1-x.2).toNat) (x:=(((l.length:Nat):Int),(0:Int))) (fun x hx => ?_) ⟨0,l.length,rfl,by omega,hp,Nat.le_refl _⟩
  obtain ⟨lo,hi,rfl,h1,h2,h3⟩:=hx
  by_cases hlt:lo<hi
  ·have hmid:∃m:Nat,Go.IntKind.wrap .i64 (Int.fdiv (Go.IntKind.wrap .u64 (((lo:Nat):Int)+((hi:Nat):Int))) (2:Int))=((m:Nat):Int)∧lo≤m∧m<hi:=by
    refine ⟨(lo+hi) / 2,?_,by omega,by omega⟩
    rw [wr_u64,Int.fdiv_eq_ediv_of_nonneg _ (by omega),wrap_i64' (by omega)]
    omega
   obtain ⟨m,hm,m1,m2⟩:=hmid
   obtain ⟨x,hx,hxb⟩:=get_at b0 (show m<l.length by omega)
   have hsm:=hs m (by omega)
   rw [hx] at hsm
   refine .inr ?_
   unfold plB
   cases hbl:Op.bytesLess x.1 c with
   | true =>
     have hmp:m<p:=hsm.1 hbl
     refine ⟨(((hi:Nat):Int),(((m+1:Nat)):Int)),?_,⟨m+1,hi,rfl,by omega,h2,h3⟩,by simp only;omega⟩
     simp (disch:=(first | omega | (simp only [LNl];omega))) only [↓SDl,SDr,if_pos,hm,↓hxb,hbl,wrap_i64',Bool.not_true,Bool.not_false]
     rfl
   | false =>
     have hmp:¬m<p:=fun h=>by rw [hsm.2 h] at hbl;cases hbl
     refine ⟨(((m:Nat):Int),((lo:Nat):Int)),?_,⟨lo,m,rfl,h1,by omega,by omega⟩,by simp only;omega⟩
     simp (disch:=(first | omega | (simp only [LNl];omega))) only [↓SDl,SDr,if_pos,hm,↓hxb,hbl,wrap_i64',Bool.not_true,Bool.not_false]
  ·refine .inl ⟨_,?_,rfl⟩
   obtain rfl:lo=p:=by omega
   unfold plB
   simp (disch:=(first | omega | (simp only [LNl];omega))) only [↓SDl,SDr,if_neg]
 obtain ⟨r,hr,rfl⟩:=hloop
 rw [hr]
 by_cases hpl:p<l.length
 ·obtain ⟨x,hx,hxb⟩:=get_at b0 hpl
  rw [hx]
  simp (disch:=(first | omega | (simp only [LNl];omega))) only [↓SDl,SDr,if_pos,↓hxb]
  rw [Option.some.injEq,Prod.mk.injEq]
  exact ⟨rfl,by rw [decide_eq_decide];exact ⟨fun h=>⟨hpl,h⟩,fun h=>h.2⟩⟩
 ·simp (disch:=(first | omega | (simp only [LNl];omega))) only [↓SDl,SDr,if_neg]
  rw [decide_eq_false (fun h=>hpl h.1)]
theorem find_j (g:LG) (c:Tx) (hl:g.2.2.2.1.length≤1000000) (hs:Srt g.2.2.2.1):billing_find (g,c)=some (((psn c g.2.2.2.1:Nat):Int),tf (Fnd c g.2.2.2.1)):=by
 have ho:=opn_le g.2.2.2.1
 have hp:=psn_le c g.2.2.2.1
 rw [fi_eq]
 have hlen:(g.2.2.2.1.take (opn g.2.2.2.1)).length=opn g.2.2.2.1:=by rw [List.length_take];omega
 have h:=place_j (g.2.2.2.1.take (opn g.2.2.2.1)) c (by omega) (p:=psn c g.2.2.2.1) (by omega) (fun m hm=>by rw [getD_take _ _ (by omega)];exact psn_iff hs (by omega))
 simp (disch:=(first | omega | (simp only [LNl];omega))) only [↓SDl,SDr,↓oc_b _ hl,if_pos,Int.toNat_natCast]
 rw [h,hlen]
 simp only [↓SDl]
 congr 2
 unfold Fnd
 by_cases hq:psn c g.2.2.2.1<opn g.2.2.2.1
 ·rw [getD_take _ _ hq]
  by_cases hc:(g.2.2.2.1.getD (psn c g.2.2.2.1) b0).1=c
  ·rw [tf_t ⟨hq,hc⟩,decide_eq_true ⟨hq,hc⟩]
  ·rw [tf_f (fun k=>hc k.2),decide_eq_false (fun k=>hc k.2)]
 ·rw [tf_f (fun k=>hq k.1),decide_eq_false (fun k=>hq k.1)]
end Go.Proofs.Ytkpijdndakljjaa

set_option maxRecDepth 100000
namespace Go.Proofs.Ytkpijdndakljjaa
open Go.RowKit
open Jn (be be_length be_cons be_bytes)
def txB (t:Tx):List Int:=t.map fun x=>((x.toNat:Nat):Int)
def tB (t:Tx):List Int:=be 2 ((t.length:Nat):Int)++txB t
def datL (ns:List Int) (ts:List Tx):List Int:=ns.flatMap (be 8)++ts.flatMap tB
theorem be_drop (n:Int):∀(k m:Nat),(be (k+m) n).drop k=be m n
 | 0,m=>by rw [List.drop_zero,Nat.zero_add]
 | k+1,m=>by
   rw [show k+1+m=(k+m)+1 from by omega,be_cons,List.drop_succ_cons]
   exact be_drop n k m
theorem be_take (n:Int) {k:Nat} (h:k<8):(be 8 n).take (k+1)=(be 8 n).take k++[n / 256 ^ (7-k) % 256]:=by
 have h1:=be_drop n k (8-k)
 rw [show k+(8-k)=8 from by omega] at h1
 have h2:be (8-k) n=(n / 256 ^ (7-k) % 256)::be (7-k) n:=by
  rw [show 8-k=(7-k)+1 from by omega,be_cons]
 rw [List.take_add_one]
 congr 1
 have h3:(be 8 n)[k]? = ((be 8 n).drop k)[0]? := by rw [List.getElem?_drop];rfl
 rw [h3,h1,h2]
 rfl
theorem p256 (m:Nat):(2:Int) ^ (8*m)=256 ^ m:=by rw [Int.pow_mul];rfl
theorem d8_loop {δ:Type} (x:Int) (hx:0≤x∧x<9223372036854775808) (L:List Int) (hL:L.length≤1000000):loopO (d8B (δ:=δ) x) ((56:Int),L)=some (.inl ((-8:Int),(L++be 8 x,x))):=by
 refine loopO_from (fun k=>((56:Int)-8*((k:Nat):Int),L++(be 8 x).take k)) 8 (by simp) (fun k hk => ?_) ?_
 ·have hl:((be 8 x).take k).length=k:=by rw [List.length_take,be_length];omega
  have hp:(2:Int) ^ (Min.min (Int.toNat ((56:Int)-8*((k:Nat):Int))) 64)=256 ^ (7-k):=by
   rw [show Min.min (Int.toNat ((56:Int)-8*((k:Nat):Int))) 64=8*(7-k) from by omega,p256]
  have hpos:(0:Int)≤256 ^ (7-k):=Int.pow_nonneg (by decide)
  have hv:Go.IntKind.wrap .u8 (Int.fdiv (Go.IntKind.wrap .u64 x) ((2:Int) ^ (Min.min (Int.toNat ((56:Int)-8*((k:Nat):Int))) 64)))=x / 256 ^ (7-k) % 256:=by
   rw [hp,wr_u64,wr_u8,show x % 18446744073709551616=x from by omega,Int.fdiv_eq_ediv_of_nonneg _ hpos]
  rw [be_take x hk,←List.append_assoc]
  unfold d8B
  simp (disch:=(first | omega | (simp only [LNl];omega))) only [↓SDl,SDr,if_pos,hv,wrap_i64']
  rw [show (56:Int)-8*((k:Nat):Int)-8=56-8*((k+1:Nat):Int) from by omega]
 ·unfold d8B
  rw [List.take_of_length_le (show (be 8 x).length≤8 by rw [be_length];omega)]
  simp (disch:=(first | omega | (simp only [LNl];omega))) only [↓SDl,SDr,if_neg]
  rfl
theorem fm_take {α β:Type} (f:α→List β) (l:List α) (d:α) {i:Nat} (h:i<l.length):(l.take (i+1)).flatMap f=(l.take i).flatMap f++f (l.getD i d):=by
 rw [take_snoc l d h,List.flatMap_append,List.flatMap_singleton]
theorem fm8_len (l:List Int):(l.flatMap (be 8)).length=8*l.length:=by
 induction l with
 | nil=>rfl
 | cons x l ih=>rw [List.flatMap_cons,List.length_append,ih,be_length,List.length_cons];omega
theorem tB_len (t:Tx):(tB t).length=2+t.length:=by rw [tB,List.length_append,be_length,txB,List.length_map]
theorem fmt_len {l:List Tx} (h:∀t∈l,t.length≤1000):(l.flatMap tB).length≤1002*l.length:=by
 induction l with
 | nil=>simp
 | cons x l ih =>
   rw [List.flatMap_cons,List.length_append,tB_len,List.length_cons]
   have:=ih fun t ht=>h t (List.mem_cons_of_mem _ ht)
   have:=h x List.mem_cons_self
   omega
theorem getD_mem {α:Type} {l:List α} {d:α} {i:Nat} (h:i<l.length):l.getD i d∈l:=by
 rw [List.getD_eq_getElem?_getD,List.getElem?_eq_getElem h]
 exact List.getElem_mem h
def DOk (ns:List Int) (ts:List Tx):Prop:=(ns.length≤10∧∀n∈ns,0≤n∧n<9223372036854775808)∧(ts.length≤10∧∀t∈ts,t.length≤1000)
theorem be2 (n:Int):be 2 n=[n / 256 % 256,n % 256]:=by
 rw [be_cons,be_cons]
 simp [be]
theorem data_j {ns:List Int} {ts:List Tx} (h:DOk ns ts):billing_data (ns,ts)=some (datL ns ts):=by
 obtain ⟨⟨h1,h2⟩,h3,h4⟩:=h
 rw [da_eq]
 have hn:∀ {δ:Type},loopO (dnB (δ:=δ) ns) ((0:Int),([]:List Int))=some (.inl (ns.flatMap (be 8))):=fun {δ}=>by
  refine loopO_from (fun i=>(((i:Nat):Int),(ns.take i).flatMap (be 8))) ns.length (by simp) (fun i hi => ?_) ?_
  ·obtain ⟨x,hx,hxb⟩:=get_at (0:Int) hi
   have hm:=h2 _ (getD_mem (d:=(0:Int)) hi)
   rw [fm_take (be 8) ns 0 hi]
   rw [hx] at hm ⊢
   have hl:((ns.take i).flatMap (be 8)).length≤1000:=by rw [fm8_len,List.length_take];omega
   generalize (ns.take i).flatMap (be 8)=L at *
   unfold dnB
   simp (disch:=(first | omega | (simp only [LNl];omega))) only [↓SDl,SDr,if_pos,↓hxb,↓d8_loop x hm L (by omega),wrap_i64']
   rfl
  ·unfold dnB
   simp (disch:=(first | omega | (simp only [LNl];omega))) only [↓SDl,SDr,if_neg]
 have ht:∀ {δ:Type} (L:List Int),L.length≤1000→loopO (dtB (δ:=δ) ts) ((0:Int),L)=some (.inl (L++ts.flatMap tB)):=fun {δ} L hL=>by
  refine loopO_from (fun i=>(((i:Nat):Int),L++(ts.take i).flatMap tB)) ts.length (by simp) (fun i hi => ?_) ?_
  ·obtain ⟨x,hx,hxb⟩:=get_at ([]:Tx) hi
   have hm:=h4 _ (getD_mem (d:=([]:Tx)) hi)
   have hl:=fmt_len (l:=ts.take i) fun t ht=>h4 t (List.mem_of_mem_take ht)
   rw [List.length_take] at hl
   rw [fm_take tB ts [] hi,←List.append_assoc]
   rw [hx] at hm ⊢
   generalize hM:L++(ts.take i).flatMap tB=M
   have hMl:M.length≤20000:=by rw [←hM,List.length_append];omega
   have e1:Go.IntKind.wrap .u8 (Int.fdiv (((List.length x):Nat):Int) (256:Int))=((x.length:Nat):Int) / 256 % 256:=by rw [wr_u8,Int.fdiv_eq_ediv_of_nonneg _ (by decide)]
   have e2:Go.IntKind.wrap .u8 (((List.length x):Nat):Int)=((x.length:Nat):Int) % 256:=by rw [wr_u8]
   rw [tB,be2]
   unfold dtB
   have hl2:∀f:UInt8→Int,(List.map f x).length=x.length:=fun f=>List.length_map ..
   simp (disch:=first | omega | (simp only [List.length_append,List.length_cons,List.length_nil,List.length_map];omega)) only [↓SDl,SDr,if_pos,↓hxb,e1,e2,wrap_i64',List.append_assoc]
   rfl
  ·unfold dtB
   simp (disch:=(first | omega | (simp only [LNl];omega))) only [↓SDl,SDr,if_neg]
 rw [hn]
 simp only [↓SDl,SDr]
 rw [ht _ (by rw [fm8_len];omega)]
 simp only [↓SDl,SDr]
 rfl
end Go.Proofs.Ytkpijdndakljjaa

set_option maxRecDepth 100000
namespace Go.Proofs.Ytkpijdndakljjaa
open Go.RowKit
open Jn (be be_length be_cons be_bytes)
theorem bytes_tx (t:Tx):Bytes (txB t):=fun x hx=>by
 rw [txB,List.mem_map] at hx
 obtain ⟨y,_,rfl⟩:=hx
 have:=y.toNat_lt
 omega
theorem bytes_fm {α:Type} (f:α→List Int) (h:∀a,Bytes (f a)):∀l:List α,Bytes (l.flatMap f)
 | []=>fun x hx=>by cases hx
 | a::l=>by rw [List.flatMap_cons];exact (h a).app (bytes_fm f h l)
theorem datL_bytes (ns:List Int) (ts:List Tx):Bytes (datL ns ts):=(bytes_fm _ (be_bytes 8) ns).app (bytes_fm _ (fun t=>(be_bytes 2 _).app (bytes_tx t)) ts)
theorem datL_length (ns:List Int) (ts:List Tx):(datL ns ts).length=8*ns.length+(ts.flatMap tB).length:=by rw [datL,List.length_append,fm8_len]
def addR (lg:List Int×(Int×Int)) (k:Int) (d:List Int):List Int×(Int×Int):=(lg.1++Jn.encB lg.2.2 k d,(lg.2.1,lg.2.2+1))
def LgOk (lg:List Int×(Int×Int)):Prop:=lg.1.length≤900000∧(0≤lg.2.1∧lg.2.1≤(lg.1.length:Int))∧(0≤lg.2.2∧lg.2.2<1048576)
theorem write_j {lg:List Int×(Int×Int)} {k:Int} {d:List Int} (h:LgOk lg) (hk:0≤k∧k≤255) (hd:Bytes d) (hl:d.length≤4096):billing_write (lg,(k,d))=some (addR lg k d,0):=by
 obtain ⟨B,s,n⟩:=lg
 obtain ⟨h1,h2,h3⟩:=h
 simp only at h1 h2 h3
 unfold billing_write
 simp (disch:=(first | omega | (simp only [LNl];omega))) only [↓SDl,SDr,if_neg,↓Jn.append_j B s n k d h1 h2 h3 ⟨hk,hd,hl⟩]
 rfl
theorem write_full {lg:List Int×(Int×Int)} {k:Int} {d:List Int} (h:lg.2.2≥1048576):billing_write (lg,(k,d))=some (([],(0,0)),10):=by
 obtain ⟨B,s,n⟩:=lg
 unfold billing_write
 simp (disch:=(first | omega | (simp only [LNl];omega))) only [↓SDl,SDr,if_pos]
end Go.Proofs.Ytkpijdndakljjaa

set_option maxRecDepth 100000
set_option maxHeartbeats 4000000
namespace Go.Proofs.Ytkpijdndakljjaa
open Go.RowKit
theorem wr_b {β:Type} {B:List Int} {s n k:Int} {d:List Int} (h:LgOk (B,(s,n))) (hk:0≤k∧k≤255) (hd:Bytes d) (hl:d.length≤4096) (f:(List Int×(Int×Int))×Int→Option β):bindO (billing_write ((B,(s,n)),(k,d))) f=f ((B++Jn.encB n k d,(s,n+1)),0):=by rw [write_j h hk hd hl];rfl
theorem wf_b {β:Type} {B:List Int} {s n k:Int} {d:List Int} (h:n≥1048576) (f:(List Int×(Int×Int))×Int→Option β):bindO (billing_write ((B,(s,n)),(k,d))) f=f (([],(0,0)),10):=by rw [write_full (lg:=(B,(s,n))) h];rfl
theorem data_b {β:Type} {ns:List Int} {ts:List Tx} (h:DOk ns ts) (f:List Int→Option β):bindO (billing_data (ns,ts)) f=f (datL ns ts):=by rw [data_j h];rfl
theorem clone_b {α β:Type} {l:List α} (h:l.length≤1000000) (f:List α→Option β):bindO (cloneG l) f=f l:=by
 unfold cloneG
 rw [decide_eq_true h];rfl
theorem ins_b {α β:Type} {l:List α} {p:Nat} {v:α} (h:l.length≤1000000) (hp:p≤l.length) (f:List α→Option β):bindO (insG (l,(((p:Nat):Int),[v]))) f=f (l.take p++[v]++l.drop p):=by
 unfold insG
 simp only [cond_ite]
 rw [if_pos h,if_pos (by omega),if_pos (show [v].length=1 from rfl),Int.toNat_natCast]
 rfl
theorem del_b {α β:Type} {l:List α} {p:Nat} {j:Int} (h:l.length≤1000000) (hp:p<l.length) (hj:j=((p:Nat):Int)+1) (f:List α→Option β):bindO (delG (l,(((p:Nat):Int),j))) f=f (l.take p++l.drop (p+1)):=by
 unfold delG
 simp only [cond_ite]
 rw [if_pos h,if_pos (by omega),if_pos hj,Int.toNat_natCast]
 rfl
theorem begun_b {β:Type} (t:Int) (a b c:Tx) (f:BL→Option β):bindO (billing_begun (t,(a,(b,c)))) f=f (a,(b,(c,(t,(-1,(t,(0,(0,(0,false))))))))):=rfl
theorem find_b {β:Type} (g:LG) (c:Tx) (hl:g.2.2.2.1.length≤1000000) (hs:Srt g.2.2.2.1) (f:Int×Bool→Option β):bindO (billing_find (g,c)) f=f (((psn c g.2.2.2.1:Nat):Int),tf (Fnd c g.2.2.2.1)):=by rw [find_j g c hl hs];rfl
def Tm (g:LG) (n:Int):Prop:=VL g∧g.2.2.2.2.2≤n∧n≤1099511627776
def zG:LG:=([],(0,(0,([],(0,0)))))
def bgn (b:BL):BL:=(b.1,(b.2.1,(b.2.2.1,(b.2.2.2.1,(-1,(b.2.2.2.1,(0,(0,(0,false)))))))))
def insB (l:List BL) (b:BL):List BL:=l.take (psn b.1 l)++[b]++l.drop (psn b.1 l)
def BA (g:LG) (b:BL):Prop:=Tm g b.2.2.2.1∧(1≤b.1.length∧b.1.length≤200∧b.2.1.length≤200∧b.2.2.1.length≤200)
def dB (b:BL):List Int:=datL [b.2.2.2.1] [b.1,b.2.1,b.2.2.1]
open Classical in
noncomputable def begR (g:LG) (b:BL):LG×Int :=
 if BA g b then (if Fnd b.1 g.2.2.2.1 then (zG,7) else if opn g.2.2.2.1≥256∨g.2.2.1≥1048576 then (zG,10) else
  ((g.1++Jn.encB g.2.2.1 1 (dB b),(g.2.1,(g.2.2.1+1,(insB g.2.2.2.1 (bgn b),(g.2.2.2.2.1,b.2.2.2.1))))),0)) else (zG,2)
theorem VL.lg {g:LG} (h:VL g) (hB:g.1.length≤900000) (hc:g.2.2.1<1048576):LgOk (g.1,(g.2.1,g.2.2.1)):=⟨hB,⟨h.1.1,h.1.2.1⟩,⟨h.1.2.2.1,hc⟩⟩
theorem dB_ok {g:LG} {b:BL} (h:BA g b):DOk [b.2.2.2.1] [b.1,b.2.1,b.2.2.1]∧(dB b).length≤4096:=by
 obtain ⟨⟨hv,h1,h2⟩,h3⟩:=h
 have h0:=hv.2.1
 refine ⟨⟨⟨by simp,fun n hn => ?_⟩,by simp,fun t ht => ?_⟩,?_⟩
 ·rw [List.mem_singleton] at hn;subst hn;omega
 ·simp only [List.mem_cons,List.not_mem_nil,or_false] at ht
  rcases ht with rfl | rfl | rfl<;>omega
 ·rw [dB,datL_length]
  simp only [List.flatMap_cons,List.flatMap_nil,List.length_append,tB_len,List.length_cons,List.length_nil]
  omega
theorem begin_j (g:LG) (b:BL) (hl:g.2.2.2.1.length≤1000000) (hB:g.1.length≤900000):billing_Begin (g,b)=some (begR g b):=by
 have ho:=opn_le g.2.2.2.1
 rw [bg_eq]
 unfold begR
 by_cases h:BA g b
 ·rw [if_pos h]
  have hd:=dB_ok h
  obtain ⟨⟨hv,t1,t2⟩,l1,l2,l3,l4⟩:=h
  have hs:=hv.srt
  have hp:=psn_le b.1 g.2.2.2.1
  by_cases hf:Fnd b.1 g.2.2.2.1
  ·rw [if_pos hf]
   simp (disch:=(first | omega | (simp only [LNl];omega))) only [↓SDl,SDr,↓(va_j g hl).b,tf_t hv,↓wit_b,if_pos,if_neg,↓find_b g b.1 hl hs,tf_t hf]
   rfl
  ·rw [if_neg hf]
   by_cases hfull:opn g.2.2.2.1≥256∨g.2.2.1≥1048576
   ·rw [if_pos hfull]
    by_cases ho6:opn g.2.2.2.1≥256
    ·simp (disch:=(first | omega | (simp only [LNl];omega))) only [↓SDl,SDr,↓(va_j g hl).b,tf_t hv,↓wit_b,if_pos,if_neg,↓find_b g b.1 hl hs,tf_f hf,↓oc_b _ hl]
     rfl
    ·have hc:g.2.2.1≥1048576:=by omega
     simp (disch:=(first | omega | (simp only [LNl];omega))) only [↓SDl,SDr,↓(va_j g hl).b,tf_t hv,↓wit_b,if_pos,if_neg,↓find_b g b.1 hl hs,tf_f hf,↓oc_b _ hl,↓data_b hd.1,↓wf_b hc]
     rfl
   ·rw [if_neg hfull]
    have hlg:=hv.lg hB (by omega)
    simp (disch:=(first | omega | (simp only [LNl];omega))) only [↓SDl,SDr,↓(va_j g hl).b,tf_t hv,↓wit_b,if_pos,if_neg,↓find_b g b.1 hl hs,tf_f hf,↓oc_b _ hl,↓data_b hd.1,↓wr_b hlg (show (0:Int)≤1∧(1:Int)≤255 by omega) (datL_bytes _ _) hd.2,↓clone_b hl,↓begun_b,↓ins_b hl (show psn b.1 g.2.2.2.1≤g.2.2.2.1.length by omega),decide_true,Bool.and_true,Bool.true_and]
    rfl
 ·rw [if_neg h]
  by_cases hv:VL g
  ·have h0:=hv.2.1
   by_cases h1:g.2.2.2.2.2≤b.2.2.2.1∧b.2.2.2.1≤1099511627776
   ·by_cases h2:1≤b.1.length∧b.1.length≤200
    ·by_cases h3:b.2.1.length≤200
     ·by_cases h4:b.2.2.1.length≤200
      ·exact (h ⟨⟨hv,h1⟩,h2.1,h2.2,h3,h4⟩).elim
      ·simp (disch:=(first | omega | (simp only [LNl];omega))) only [↓SDl,SDr,↓(va_j g hl).b,tf_t hv,↓wit_b,if_pos,if_neg]
       rfl
     ·simp (disch:=(first | omega | (simp only [LNl];omega))) only [↓SDl,SDr,↓(va_j g hl).b,tf_t hv,↓wit_b,if_pos,if_neg]
      rfl
    ·simp (disch:=(first | omega | (simp only [LNl];omega))) only [↓SDl,SDr,↓(va_j g hl).b,tf_t hv,↓wit_b,if_pos,if_neg]
     rfl
   ·simp (disch:=(first | omega | (simp only [LNl];omega))) only [↓SDl,SDr,↓(va_j g hl).b,tf_t hv,↓wit_b,if_neg,h1,decide_false]
    rfl
  ·simp only [↓SDl,SDr,↓(va_j g hl).b,tf_f hv]
   rfl
end Go.Proofs.Ytkpijdndakljjaa

set_option maxRecDepth 100000
set_option maxHeartbeats 4000000
namespace Go.Proofs.Ytkpijdndakljjaa
open Go.RowKit
def tch (k t:Int) (x:BL):BL:=(x.1,(x.2.1,(x.2.2.1,(x.2.2.2.1,(if k=2 then t else x.2.2.2.2.1,(t,x.2.2.2.2.2.2))))))
end Go.Proofs.Ytkpijdndakljjaa

set_option maxRecDepth 100000
set_option maxHeartbeats 4000000
namespace Go.Proofs.Ytkpijdndakljjaa
open Go.RowKit
theorem BA.len {g:LG} {b:BL} (h:BA g b):b.1≠[]:=fun e=>by have:=h.2.1;rw [e] at this;simp at this
open Classical in
noncomputable def tchR (g:LG) (k:Int) (c:Tx) (t:Int):LG×Int :=
 if Tm g t then (if Fnd c g.2.2.2.1 then (if k=2∧(g.2.2.2.1.getD (psn c g.2.2.2.1) b0).2.2.2.2.1 ≠ -1 then (zG,9) else if g.2.2.1≥1048576 then (zG,10) else
  ((g.1++Jn.encB g.2.2.1 k (datL [t] [c]),(g.2.1,(g.2.2.1+1,(g.2.2.2.1.set (psn c g.2.2.2.1) (tch k t (g.2.2.2.1.getD (psn c g.2.2.2.1) b0)),(g.2.2.2.2.1,t))))),0)) else (zG,8)) else (zG,2)
theorem VL.at {g:LG} (h:VL g) {i:Nat} (hi:i<g.2.2.2.1.length):BK g.2.2.2.2.2 (g.2.2.2.1.getD i b0):=(h.2.2.2.2 i hi).1
theorem setget_b {β:Type} {l:List BL} {p:Nat} {A:BL} (h:p<l.length) (f:BL→Option β):bindO (List.set l p A)[p]? f=f A:=by
 rw [List.getElem?_set_self h];rfl
theorem dok1 {g:LG} {t:Int} {c:Tx} (h:Tm g t) (hc:c.length≤200):DOk [t] [c]∧(datL [t] [c]).length≤4096:=by
 have h0:=h.1.2.1
 have h1:=h.2
 refine ⟨⟨⟨by simp,fun n hn => ?_⟩,by simp,fun t ht => ?_⟩,?_⟩
 ·rw [List.mem_singleton] at hn;subst hn;omega
 ·rw [List.mem_singleton] at ht;subst ht;omega
 ·rw [datL_length]
  simp only [List.flatMap_cons,List.flatMap_nil,List.length_append,tB_len,List.length_cons,List.length_nil]
  omega
theorem touch_j (g:LG) (k:Int) (c:Tx) (t:Int) (hk:k=2∨k=3) (hl:g.2.2.2.1.length≤1000000) (hB:g.1.length≤900000):billing_touch (g,(k,(c,t)))=some (tchR g k c t):=by
 have ho:=opn_le g.2.2.2.1
 rw [to_eq]
 unfold tchR
 by_cases htm:Tm g t
 ·rw [if_pos htm]
  have hv:=htm.1
  have ht:=htm.2
  have hs:=hv.srt
  by_cases hf:Fnd c g.2.2.2.1
  ·rw [if_pos hf]
   have hlt:psn c g.2.2.2.1<g.2.2.2.1.length:=by have:=hf.1;omega
   have hb:=hv.at hlt
   have hxc:=hf.2
   obtain ⟨x,hx,hxb⟩:=get_at b0 hlt
   rw [hx] at hb hxc ⊢
   rw [Int.toNat_natCast] at hxb
   have hcl:c.length≤200:=by rw [←hxc];exact hb.1.2.1
   have hd:=dok1 htm hcl
   by_cases ha:k=2∧x.2.2.2.2.1 ≠ -1
   ·rw [if_pos ha]
    obtain ⟨rfl,ha⟩:=ha
    simp (disch:=(first | omega | (simp only [LNl];omega))) only [↓SDl,SDr,↓(va_j g hl).b,tf_t hv,↓wit_b,if_pos,if_neg,↓find_b g c hl hs,tf_t hf,Int.toNat_natCast,↓hxb]
    rfl
   ·rw [if_neg ha]
    by_cases hc:g.2.2.1≥1048576
    ·rw [if_pos hc]
     rcases hk with rfl | rfl
     ·have ha':¬x.2.2.2.2.1 ≠ -1:=fun h=>ha ⟨rfl,h⟩
      simp (disch:=(first | omega | (simp only [LNl];omega))) only [↓SDl,SDr,↓(va_j g hl).b,tf_t hv,↓wit_b,if_pos,if_neg,↓find_b g c hl hs,tf_t hf,Int.toNat_natCast,↓hxb,↓data_b hd.1,↓wf_b hc]
      rfl
     ·simp (disch:=(first | omega | (simp only [LNl];omega))) only [↓SDl,SDr,↓(va_j g hl).b,tf_t hv,↓wit_b,if_pos,if_neg,↓find_b g c hl hs,tf_t hf,Int.toNat_natCast,↓hxb,↓data_b hd.1,↓wf_b hc]
      rfl
    ·rw [if_neg hc]
     have hlg:=hv.lg hB (by omega)
     rcases hk with rfl | rfl
     ·have ha':¬x.2.2.2.2.1 ≠ -1:=fun h=>ha ⟨rfl,h⟩
      simp (disch:=first | omega | (simp only [LNl];omega)) only [↓SDl,SDr,↓(va_j g hl).b,tf_t hv,↓wit_b,if_pos,if_neg,↓find_b g c hl hs,tf_t hf,Int.toNat_natCast,↓hxb,↓data_b hd.1,↓wr_b hlg (show (0:Int)≤2∧(2:Int)≤255 by omega) (datL_bytes _ _) hd.2,↓clone_b hl,↓setget_b hlt,List.set_set]
      rw [List.take_of_length_le (by simp)]
      rfl
     ·simp (disch:=first | omega | (simp only [LNl];omega)) only [↓SDl,SDr,↓(va_j g hl).b,tf_t hv,↓wit_b,if_pos,if_neg,↓find_b g c hl hs,tf_t hf,Int.toNat_natCast,↓hxb,↓data_b hd.1,↓wr_b hlg (show (0:Int)≤3∧(3:Int)≤255 by omega) (datL_bytes _ _) hd.2,↓clone_b hl,↓setget_b hlt,List.set_set]
      rw [List.take_of_length_le (by simp)]
      rfl
  ·rw [if_neg hf]
   simp (disch:=(first | omega | (simp only [LNl];omega))) only [↓SDl,SDr,↓(va_j g hl).b,tf_t hv,↓wit_b,if_pos,if_neg,↓find_b g c hl hs,tf_f hf]
   rfl
 ·rw [if_neg htm]
  by_cases hv:VL g
  ·have h1:¬(g.2.2.2.2.2≤t∧t≤1099511627776):=fun h=>htm ⟨hv,h⟩
   simp (disch:=(first | omega | (simp only [LNl];omega))) only [↓SDl,SDr,↓(va_j g hl).b,tf_t hv,↓wit_b,if_neg,h1,decide_false]
   rfl
  ·simp only [↓SDl,SDr,↓(va_j g hl).b,tf_f hv]
   rfl
end Go.Proofs.Ytkpijdndakljjaa

set_option maxRecDepth 100000
set_option maxHeartbeats 4000000
namespace Go.Proofs.Ytkpijdndakljjaa
open Go.RowKit
namespace Rt
theorem cv_bd {r:Ra} {f a s:Int} (h:RV r) (hf:0≤f∧f≤3600) (ha:0≤a∧a≤281474976710656) (hs:0≤s∧s≤1000000):0≤CV r f a s∧CV r f a s≤1000000000*(s+1):=by
 have hfi:=h.1.2.2.1
 have hst:=h.1.2.2.2
 have hn:=pn_nn (f:=f) (fi:=r.2.2.1) (s:=s) hst.1
 have hle:=pn_le (st:=r.2.2.2.1) hst.1 hf.1 hfi.1 hs.1
 unfold CV
 split
 ·omega
 ·have:=cs_bd h.2.2 h.1.2.1 (n:=(PN f r.2.2.1 r.2.2.2.1 s).toNat) (mo:=MO a f r.2.2.1 r.2.2.2.1) (fun k hk=>by have:=mo_bd ha hf hfi hst (k:=k) (by omega);omega)
  omega
theorem cost_bd (l:List Ra) (f:Int) (num:List UInt8) (a b:Int):∃c e,rating_Cost ((l,f),(num,(a,b)))=some (c,e)∧dialtoneref37_Cost ((l,f),(num,(a,b)))=some (c,e)∧(0≤c∧c≤2000000000000000):=by
 obtain ⟨⟨c,e⟩,h1,h2⟩:=cost_same l f num a b
 refine ⟨c,e,h1,h2,?_⟩
 have z:∀q:Int,rating_Cost ((l,f),(num,(a,b)))=some (0,q)→0≤c∧c≤2000000000000000:=fun q hq=>by
  rw [h1] at hq;cases hq;omega
 by_cases hv:TV l f
 ·by_cases hs:Spn a b
  ·by_cases hq:SE a b≤1000000
   ·obtain ⟨r,e1,e2,k1,_⟩:=find_same l f num
    rcases k1 hv with ⟨rfl,_⟩ | ⟨i,hi,rfl,_⟩
    ·have w1:0≤a∧a≤281474976710656:=⟨hs.1,Int.le_trans hs.2.1 hs.2.2⟩
     have w2:a≤b∧b≤281474976710656:=hs.2
     refine z 8 ?_
     unfold rating_Cost
     simp (disch:=omega) only [↓SDl,SDr,validP_t hv,within_b,w1,w2,and_self,decide_true,secondsP_j,if_neg,e1]
    ·have w1:0≤a∧a≤281474976710656:=⟨hs.1,Int.le_trans hs.2.1 hs.2.2⟩
     have hp:=costP_v hv hs hq hi e1
     rw [h1] at hp
     have hb:=cv_bd (hv.2 i hi).1 hv.1.2 w1 ⟨(se_nn a b).1,hq⟩
     simp only [Option.some.injEq,Prod.mk.injEq] at hp
     rw [hp.1]
     omega
   ·have w1:0≤a∧a≤281474976710656:=⟨hs.1,Int.le_trans hs.2.1 hs.2.2⟩
    have w2:a≤b∧b≤281474976710656:=hs.2
    refine z 4 ?_
    unfold rating_Cost
    simp (disch:=omega) only [↓SDl,SDr,validP_t hv,within_b,w1,w2,and_self,decide_true,secondsP_j,if_pos]
  ·refine z 3 ?_
   unfold rating_Cost
   by_cases w1:0≤a∧a≤281474976710656
   ·have w2:¬(a≤b∧b≤281474976710656):=fun k=>hs ⟨w1.1,k⟩
    simp (disch:=omega) only [↓SDl,SDr,validP_t hv,within_b,w1,w2,and_self,decide_true,decide_false]
   ·simp (disch:=omega) only [↓SDl,SDr,validP_t hv,within_b,w1,decide_false]
 ·refine z 2 ?_
  unfold rating_Cost
  simp only [↓SDl,SDr,validP_f hv]
end Rt
noncomputable def coR (rs:List Ra) (fr:Int) (num:Tx) (a b:Int):Int:=match rating_Cost ((rs,fr),(num,(a,b))) with | some (c,e)=>if e=0 then c else 0 | none=>0
theorem co_spec (rs:List Ra) (fr:Int) (num:Tx) (a b:Int):∃c e,rating_Cost ((rs,fr),(num,(a,b)))=some (c,e)∧dialtoneref37_Cost ((rs,fr),(num,(a,b)))=some (c,e)∧coR rs fr num a b=(if e=0 then c else 0)∧(0≤coR rs fr num a b∧coR rs fr num a b≤2000000000000000):=by
 obtain ⟨c,e,h1,h2,h3⟩:=Rt.cost_bd rs fr num a b
 have h4:coR rs fr num a b=(if e=0 then c else 0):=by unfold coR;rw [h1]
 refine ⟨c,e,h1,h2,h4,?_⟩
 rw [h4]
 split<;>omega
def rst (l:List BL) (p:Nat):List BL:=l.take p++l.drop (p+1)
theorem rst_len {l:List BL} {p:Nat} (h:p<l.length):(rst l p).length+1=l.length:=by
 rw [rst,List.length_append,List.length_take,List.length_drop];omega
def rcd (x:BL) (t n s co:Int):BL:=(x.1,(x.2.1,(x.2.2.1,(x.2.2.2.1,(x.2.2.2.2.1,(t,(n,(s,(co,x.2.2.2.2.2.2.2.2.2)))))))))
end Go.Proofs.Ytkpijdndakljjaa

set_option maxRecDepth 100000
set_option maxHeartbeats 4000000
namespace Go.Proofs.Ytkpijdndakljjaa
open Go.RowKit
def Opb (x:BL):Prop:=(x.2.2.2.2.2.2.1=0∧x.2.2.2.2.2.2.2.1=0∧x.2.2.2.2.2.2.2.2.1=0)∧(x.2.2.2.2.1 = -1∨0≤x.2.2.2.2.1)∧x.1.length≤200
noncomputable def nmF (rs:List Ra) (fr:Int) (last:Int) (x:BL) (t:Int):Int×(Int×Int):=if x.2.2.2.2.1 ≠ -1 then (last+1,(Rt.SE x.2.2.2.2.1 t,coR rs fr x.2.2.1 x.2.2.2.2.1 t)) else (0,(0,0))
noncomputable def dE (rs:List Ra) (fr:Int) (last:Int) (x:BL) (t:Int):List Int:=datL [t,(nmF rs fr last x t).1,(nmF rs fr last x t).2.1,(nmF rs fr last x t).2.2] [x.1]
noncomputable def bsF (rs:List Ra) (fr:Int) (l:List BL) (last:Int) (p:Nat) (t:Int):List BL:=if (l.getD p b0).2.2.2.2.1 ≠ -1 then rst l p++[rcd (l.getD p b0) t (last+1) (Rt.SE (l.getD p b0).2.2.2.2.1 t) (coR rs fr (l.getD p b0).2.2.1 (l.getD p b0).2.2.2.2.1 t)] else rst l p
def laF (l:List BL) (last:Int) (p:Nat):Int:=if (l.getD p b0).2.2.2.2.1 ≠ -1 then last+1 else last
open Classical in
noncomputable def finR (rs:List Ra) (fr:Int) (g:LG) (p:Nat) (t now:Int):LG×Int :=
 if ((g.2.2.2.1.getD p b0).2.2.2.2.1 ≠ -1∧g.2.2.2.2.1≥1048576)∨g.2.2.1≥1048576 then (zG,10) else
  ((g.1++Jn.encB g.2.2.1 4 (dE rs fr g.2.2.2.2.1 (g.2.2.2.1.getD p b0) t),(g.2.1,(g.2.2.1+1,(bsF rs fr g.2.2.2.1 g.2.2.2.2.1 p t,(laF g.2.2.2.1 g.2.2.2.2.1 p,now))))),0)
theorem dE_ok (rs:List Ra) (fr:Int) {last:Int} {x:BL} {t:Int} (h5:0≤last∧last≤1048576) (hx:Opb x) (ht:0≤t∧t≤1099511627776):DOk [t,(nmF rs fr last x t).1,(nmF rs fr last x t).2.1,(nmF rs fr last x t).2.2] [x.1]∧(dE rs fr last x t).length≤4096:=by
 obtain ⟨c,e,_,_,_,h6⟩:=co_spec rs fr x.2.2.1 x.2.2.2.2.1 t
 have h7:=Rt.se_nn x.2.2.2.2.1 t
 have h8:=hx.2.2
 refine ⟨⟨⟨by simp,fun n hn => ?_⟩,by simp,fun t ht => ?_⟩,?_⟩
 ·unfold nmF at hn
  simp only [List.mem_cons,List.not_mem_nil,or_false] at hn
  split at hn<;>simp only at hn<;>omega
 ·rw [List.mem_singleton] at ht;subst ht;omega
 ·rw [dE,datL_length]
  simp only [List.flatMap_cons,List.flatMap_nil,List.length_append,tB_len,List.length_cons,List.length_nil]
  omega
theorem fin_j (rs:List Ra) (fr:Int) (g:LG) {p:Nat} (t:Int) (hp:p<g.2.2.2.1.length) (hl:g.2.2.2.1.length≤1000000) (hB:g.1.length≤900000) (h1:0≤g.2.1∧g.2.1≤(g.1.length:Int)) (h2:0≤g.2.2.1) (h5:0≤g.2.2.2.2.1∧g.2.2.2.2.1≤1048576) (hx:Opb (g.2.2.2.1.getD p b0)) (ht:0≤t∧t≤1099511627776) :
 billing_finish (g,((rs,fr),(((p:Nat):Int),t)))=some (finR rs fr g p t g.2.2.2.2.2):=by
 rw [fin_eq]
 unfold finR
 have hd:=dE_ok rs fr h5 hx ht
 have hrl:=rst_len hp
 unfold bsF laF
 obtain ⟨x,hxx,hxb⟩:=get_at b0 hp
 rw [hxx] at hx hd ⊢
 rw [Int.toNat_natCast] at hxb
 obtain ⟨c,e,c1,c2,c3,c4⟩:=co_spec rs fr x.2.2.1 x.2.2.2.2.1 t
 have hC:∀ {β:Type} (f:Int×Int→Option β),bindO (rating_Cost ((rs,fr),(x.2.2.1,(x.2.2.2.2.1,t)))) f=f (c,e):=fun f=>by rw [c1];rfl
 have hD:=fun {β:Type} (f:List BL→Option β)=>del_b (l:=g.2.2.2.1) (p:=p) (j:=((p:Nat):Int)+1) hl hp rfl f
 have hrst:g.2.2.2.1.take p++g.2.2.2.1.drop (p+1)=rst g.2.2.2.1 p:=rfl
 have hlast:Go.IntKind.wrap .i64 (g.2.2.2.2.1+(1:Int))=g.2.2.2.2.1+1:=wrap_i64' (by omega)
 have hpw:Go.IntKind.wrap .i64 (((p:Nat):Int)+(1:Int))=((p:Nat):Int)+1:=wrap_i64' (by omega)
 unfold dE at hd
 unfold dE
 by_cases ha:x.2.2.2.2.1 ≠ -1
 ·have hnm:nmF rs fr g.2.2.2.2.1 x t=(g.2.2.2.2.1+1,(Rt.SE x.2.2.2.2.1 t,coR rs fr x.2.2.1 x.2.2.2.2.1 t)):=if_pos ha
  rw [hnm] at hd ⊢
  simp only at hd
  by_cases hq:g.2.2.2.2.1≥1048576
  ·rw [if_pos (.inl ⟨ha,hq⟩)]
   simp (disch:=(first | omega | (simp only [LNl];omega))) only [↓SDl,SDr,if_pos,Int.toNat_natCast,↓hxb,↓clone_b hl,hpw,↓hD]
   rfl
  ·by_cases hc:g.2.2.1≥1048576
   ·rw [if_pos (.inr hc)]
    by_cases he:e=0
    ·rw [if_pos he] at c3
     rw [c3] at hd
     simp (disch:=(first | omega | (simp only [LNl];omega))) only [↓SDl,SDr,if_pos,if_neg,Int.toNat_natCast,↓hxb,↓clone_b hl,hpw,↓hD,hrst,hlast,↓sec_b,↓hC,he,↓data_b hd.1,↓wf_b hc]
     rfl
    ·rw [if_neg he] at c3
     rw [c3] at hd
     have hz:=hx.1.2.2
     simp (disch:=(first | omega | (simp only [LNl];omega))) only [↓SDl,SDr,if_pos,if_neg,hz,Int.toNat_natCast,↓hxb,↓clone_b hl,hpw,↓hD,hrst,hlast,↓sec_b,↓hC,he,↓data_b hd.1,↓wf_b hc]
     rfl
   ·rw [if_neg (by omega),if_pos ha,if_pos ha]
    have hlg:LgOk (g.1,(g.2.1,g.2.2.1)):=⟨hB,h1,h2,show g.2.2.1<1048576 by omega⟩
    by_cases he:e=0
    ·rw [if_pos he] at c3
     rw [c3] at hd ⊢
     simp (disch:=(first | omega | (simp only [LNl];omega))) only [↓SDl,SDr,if_pos,if_neg,Int.toNat_natCast,↓hxb,↓clone_b hl,hpw,↓hD,hrst,hlast,↓sec_b,↓hC,he,↓data_b hd.1,↓wr_b hlg (show (0:Int)≤4∧(4:Int)≤255 by omega) (datL_bytes _ _) hd.2]
     rfl
    ·rw [if_neg he] at c3
     rw [c3] at hd ⊢
     have hz:=hx.1.2.2
     simp (disch:=(first | omega | (simp only [LNl];omega))) only [↓SDl,SDr,if_pos,if_neg,hz,Int.toNat_natCast,↓hxb,↓clone_b hl,hpw,↓hD,hrst,hlast,↓sec_b,↓hC,he,↓data_b hd.1,↓wr_b hlg (show (0:Int)≤4∧(4:Int)≤255 by omega) (datL_bytes _ _) hd.2]
     rfl
 ·have hnm:nmF rs fr g.2.2.2.2.1 x t=(0,(0,0)):=if_neg ha
  rw [hnm] at hd ⊢
  simp only at hd
  have hz:=hx.1
  by_cases hc:g.2.2.1≥1048576
  ·rw [if_pos (.inr hc)]
   simp (disch:=(first | omega | (simp only [LNl];omega))) only [↓SDl,SDr,if_pos,if_neg,Int.toNat_natCast,↓hxb,↓clone_b hl,hpw,↓hD,hrst,hz.1,hz.2.1,hz.2.2,↓data_b hd.1,↓wf_b hc]
   rfl
  ·rw [if_neg (by omega),if_neg ha,if_neg ha]
   have hlg:LgOk (g.1,(g.2.1,g.2.2.1)):=⟨hB,h1,h2,show g.2.2.1<1048576 by omega⟩
   simp (disch:=(first | omega | (simp only [LNl];omega))) only [↓SDl,SDr,if_pos,if_neg,Int.toNat_natCast,↓hxb,↓clone_b hl,hpw,↓hD,hrst,hz.1,hz.2.1,hz.2.2,↓data_b hd.1,↓wr_b hlg (show (0:Int)≤4∧(4:Int)≤255 by omega) (datL_bytes _ _) hd.2]
end Go.Proofs.Ytkpijdndakljjaa

set_option maxRecDepth 100000
set_option maxHeartbeats 4000000
namespace Go.Proofs.Ytkpijdndakljjaa
open Go.RowKit
theorem VL.opb {g:LG} (h:VL g) {p:Nat} (hp:p<opn g.2.2.2.1):Opb (g.2.2.2.1.getD p b0):=by
 have ho:=opn_le g.2.2.2.1
 have hb:=h.at (i:=p) (by omega)
 have hz:=opn_in hp
 obtain ⟨k1,k2,k3,k4,k5⟩:=hb
 refine ⟨?_,?_,k1.2.1⟩
 ·rcases k5 with k5 | k5
  ·exact ⟨k5.1,k5.2.1,k5.2.2.1⟩
  ·exact (k5.1 hz).elim
 ·have:=k2.1;omega
open Classical in
noncomputable def endR (g:LG) (rs:List Ra) (fr:Int) (c:Tx) (t:Int):LG×Int :=
 if Tm g t∧Rt.TV rs fr then (if Fnd c g.2.2.2.1 then finR rs fr g (psn c g.2.2.2.1) t t else (zG,8)) else (zG,2)
theorem end_j (g:LG) (rs:List Ra) (fr:Int) (c:Tx) (t:Int) (hl:g.2.2.2.1.length≤1000000) (hB:g.1.length≤900000):billing_End (g,((rs,fr),(c,t)))=some (endR g rs fr c t):=by
 have ho:=opn_le g.2.2.2.1
 rw [en_eq]
 unfold endR
 by_cases h:Tm g t∧Rt.TV rs fr
 ·rw [if_pos h]
  obtain ⟨htm,hr⟩:=h
  have hv:=htm.1
  have ht:=htm.2
  have h0:=hv.2.1
  have hs:=hv.srt
  have hR:∀ {β:Type} (f:Bool→Option β),bindO (rating_Valid (rs,fr)) f=f true:=fun f=>by rw [Rt.validP_t hr];rfl
  by_cases hf:Fnd c g.2.2.2.1
  ·rw [if_pos hf]
   have hlt:psn c g.2.2.2.1<g.2.2.2.1.length:=by have:=hf.1;omega
   have hfin:=fin_j rs fr g t hlt hl hB ⟨hv.1.1,hv.1.2.1⟩ hv.1.2.2.1 hv.2.2.1 (hv.opb hf.1) ⟨by omega,ht.2⟩
   have hF:∀ {β:Type} (f:LG×Int→Option β),bindO (billing_finish (g,((rs,fr),(((psn c g.2.2.2.1:Nat):Int),t)))) f=f (finR rs fr g (psn c g.2.2.2.1) t g.2.2.2.2.2):=fun f=>by rw [hfin];rfl
   simp (disch:=(first | omega | (simp only [LNl];omega))) only [↓SDl,SDr,↓(va_j g hl).b,tf_t hv,↓wit_b,if_pos,↓hR,↓find_b g c hl hs,tf_t hf,↓hF]
   unfold finR
   split
   ·rfl
   ·rfl
  ·rw [if_neg hf]
   simp (disch:=(first | omega | (simp only [LNl];omega))) only [↓SDl,SDr,↓(va_j g hl).b,tf_t hv,↓wit_b,if_pos,↓hR,↓find_b g c hl hs,tf_f hf]
   rfl
 ·rw [if_neg h]
  by_cases hv:VL g
  ·by_cases h1:g.2.2.2.2.2≤t∧t≤1099511627776
   ·have hr:¬Rt.TV rs fr:=fun k=>h ⟨⟨hv,h1⟩,k⟩
    have hR:∀ {β:Type} (f:Bool→Option β),bindO (rating_Valid (rs,fr)) f=f false:=fun f=>by rw [Rt.validP_f hr];rfl
    simp (disch:=(first | omega | (simp only [LNl];omega))) only [↓SDl,SDr,↓(va_j g hl).b,tf_t hv,↓wit_b,if_pos,↓hR]
    rfl
   ·simp (disch:=(first | omega | (simp only [LNl];omega))) only [↓SDl,SDr,↓(va_j g hl).b,tf_t hv,↓wit_b,if_neg,h1,decide_false]
    rfl
  ·simp only [↓SDl,SDr,↓(va_j g hl).b,tf_f hv]
   rfl
theorem VL.num {g:LG} (h:VL g) {i:Nat} (hi:i<g.2.2.2.1.length):0≤(g.2.2.2.1.getD i b0).2.2.2.2.2.2.1∧(g.2.2.2.1.getD i b0).2.2.2.2.2.2.1≤1048576∧(opn g.2.2.2.1≤i→1≤(g.2.2.2.1.getD i b0).2.2.2.2.2.2.1):=by
 have hp:=pv_nn h.2.2.1 (i:=i) (fun j hj=>h.2.2.2.2 j (by omega))
 have h3:=h.2.2.1
 rcases (h.2.2.2.2 i hi).2 with ⟨k,_⟩ | ⟨k,k2,k3⟩
 ·rw [opn_in k];omega
 ·omega
end Go.Proofs.Ytkpijdndakljjaa
