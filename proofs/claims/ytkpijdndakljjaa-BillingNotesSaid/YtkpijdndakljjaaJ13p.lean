import Derived.Test.YtkpijdndakljjaaJ6p
import Derived.Test.YtkpijdndakljjaaZrp
import Derived.Test.YtkpijdndakljjaaFp
import Derived.Test.YtkpijdndakljjaaXBp
import Derived.Test.YtkpijdndakljjaaY3p
set_option linter.unusedSimpArgs false
set_option linter.unusedVariables false
set_option maxRecDepth 100000
set_option maxHeartbeats 4000000
namespace Go.Proofs.Ytkpijdndakljjaa
open Go.RowKit
theorem done_b {β:Type} {g:LG} {a:AC} {bs:List BL} {last t k:Int} {d:List Int} (he:dialtoneref38_effect (g,a)=some (atG g bs last t,true)) (hr:actRecord a=some (k,d)) (hlg:LgOk (g.1,(g.2.1,g.2.2.1))) (hk:0≤k∧k≤255) (hd:Bytes d) (hl:d.length≤4096) (f:LG→Option β) :
 bindO (dialtoneref38_done (g,a)) f=f (g.1++Jn.encB g.2.2.1 k d,(g.2.1,(g.2.2.1+1,(bs,(last,maxA g.2.2.2.2.2 t))))):=by
 rw [dn_eq,he,hr]
 unfold atG
 simp only [↓SDl,SDr,↓apR_b hlg hk hd hl]
theorem maxA_r {a b:Int} (h:a≤b):maxA a b=b:=by unfold maxA;split<;>omega
theorem BA.len {g:LG} {b:BL} (h:BA g b):b.1≠[]:=fun e=>by have:=h.2.1;rw [e] at this;simp at this
theorem beginR_j (g:LG) (b:BL) (hl:g.2.2.2.1.length≤1000000) (hB:g.1.length≤900000):dialtoneref38_Begin (g,b)=some (begR g b):=by
 have ho:=opn_le g.2.2.2.1
 rw [bgR_eq]
 unfold begR
 by_cases h:BA g b
 ·rw [if_pos h]
  have hd:=dB_ok h
  have hne:=eq_false h.len
  obtain ⟨⟨hv,t1,t2⟩,l1,l2,l3,l4⟩:=h
  have hs:=hv.srt
  have htm:Tm g b.2.2.2.1:=⟨hv,t1,t2⟩
  by_cases hf:Fnd b.1 g.2.2.2.1
  ·rw [if_pos hf]
   simp (disch:=(first | omega | (simp only [LNl];omega))) only [↓SDl,SDr,↓(timed_j g b.2.2.2.1 hl).b,tf_t htm,hne,if_pos,if_neg,↓fdt_b hl hs hf]
   rfl
  ·rw [if_neg hf]
   by_cases hfull:opn g.2.2.2.1≥256∨g.2.2.1≥1048576
   ·rw [if_pos hfull]
    by_cases ho6:opn g.2.2.2.1≥256
    ·simp (disch:=(first | omega | (simp only [LNl];omega))) only [↓SDl,SDr,↓(timed_j g b.2.2.2.1 hl).b,tf_t htm,hne,if_pos,if_neg,↓fdf_b hl hs hf,↓or_b g hl]
     rfl
    ·simp (disch:=(first | omega | (simp only [LNl];omega))) only [↓SDl,SDr,↓(timed_j g b.2.2.2.1 hl).b,tf_t htm,hne,if_pos,if_neg,↓fdf_b hl hs hf,↓or_b g hl,↓full_b]
     rfl
   ·rw [if_neg hfull]
    have hlg:=hv.lg hB (by omega)
    rcases ef1_j g b.2.2.2.1 0 0 0 b.1 b.2.1 b.2.2.1 hl hs with ⟨_,he⟩ | ⟨hno,_⟩
    ·have hr:actRecord (1,(b.2.2.2.1,(0,(0,(0,(b.1,(b.2.1,b.2.2.1)))))))=some (1,dB b):=by
      rw [ar_eq]
      simp only [↓SDl,SDr,decide_true,↓dataR_b hd.1]
      rfl
     simp (disch:=(first | omega | (simp only [LNl];omega))) only [↓SDl,SDr,↓(timed_j g b.2.2.2.1 hl).b,tf_t htm,hne,if_pos,if_neg,↓fdf_b hl hs hf,↓or_b g hl,↓full_b,↓done_b he hr hlg (show (0:Int)≤1∧(1:Int)≤255 by omega) (datL_bytes _ _) hd.2,maxA_r t1]
     rfl
    ·exact (hno ⟨hf,by omega,l1,l2,l3,l4⟩).elim
 ·rw [if_neg h]
  by_cases htm:Tm g b.2.2.2.1
  ·by_cases h2:b.1=[]
   ·have h2:=eq_true h2
    simp (disch:=(first | omega | (simp only [LNl];omega))) only [↓SDl,SDr,↓(timed_j g b.2.2.2.1 hl).b,tf_t htm,h2,if_pos,if_neg]
    rfl
   ·have h1:1≤b.1.length:=by
     rcases Nat.eq_zero_or_pos b.1.length with e | e
     ·exact (h2 (List.length_eq_zero_iff.1 e)).elim
     ·exact e
    have h2:=eq_false h2
    by_cases h5:b.1.length≤200
    ·by_cases h3:b.2.1.length≤200
     ·by_cases h4:b.2.2.1.length≤200
      ·exact (h ⟨htm,h1,h5,h3,h4⟩).elim
      ·simp (disch:=(first | omega | (simp only [LNl];omega))) only [↓SDl,SDr,↓(timed_j g b.2.2.2.1 hl).b,tf_t htm,h2,if_pos,if_neg]
       rfl
     ·simp (disch:=(first | omega | (simp only [LNl];omega))) only [↓SDl,SDr,↓(timed_j g b.2.2.2.1 hl).b,tf_t htm,h2,if_pos,if_neg]
      rfl
    ·simp (disch:=(first | omega | (simp only [LNl];omega))) only [↓SDl,SDr,↓(timed_j g b.2.2.2.1 hl).b,tf_t htm,h2,if_pos,if_neg]
     rfl
  ·simp only [↓SDl,SDr,↓(timed_j g b.2.2.2.1 hl).b,tf_f htm]
   rfl
open Classical in
noncomputable def tchR (g:LG) (k:Int) (c:Tx) (t:Int):LG×Int :=
 if Tm g t then (if Fnd c g.2.2.2.1 then (if k=2∧(g.2.2.2.1.getD (psn c g.2.2.2.1) b0).2.2.2.2.1 ≠ -1 then (zG,9) else if g.2.2.1≥1048576 then (zG,10) else
  ((g.1++Jn.encB g.2.2.1 k (datL [t] [c]),(g.2.1,(g.2.2.1+1,(g.2.2.2.1.set (psn c g.2.2.2.1) (tch k t (g.2.2.2.1.getD (psn c g.2.2.2.1) b0)),(g.2.2.2.2.1,t))))),0)) else (zG,8)) else (zG,2)
theorem VL.at {g:LG} (h:VL g) {i:Nat} (hi:i<g.2.2.2.1.length):BK g.2.2.2.2.2 (g.2.2.2.1.getD i b0):=(h.2.2.2.2 i hi).1
theorem setget_b {β:Type} {l:List BL} {p:Nat} {A:BL} (h:p<l.length) (f:BL→Option β):bindO (List.set l p A)[p]? f=f A:=by
 rw [List.getElem?_set_self h];rfl
theorem dok1 {g:LG} {t:Int} {c:Tx} (h:Tm g t) (hc:c.length≤200):DOk [t] [c]∧(datL [t] [c]).length≤4096:=by
 have h0:=h.1.2.1
 have h1:=h.2
 refine ⟨⟨⟨by simp,fun n hn => ?_⟩,by simp,fun t ht => ?_⟩,?_⟩
 ·rw [List.mem_singleton] at hn;subst hn;omega
 ·rw [List.mem_singleton] at ht;subst ht;omega
 ·rw [datL_length]
  simp only [List.flatMap_cons,List.flatMap_nil,List.length_append,tB_len,List.length_cons,List.length_nil]
  omega
theorem touch_j (g:LG) (k:Int) (c:Tx) (t:Int) (hk:k=2∨k=3) (hl:g.2.2.2.1.length≤1000000) (hB:g.1.length≤900000):billing_touch (g,(k,(c,t)))=some (tchR g k c t):=by
 have ho:=opn_le g.2.2.2.1
 rw [to_eq]
 unfold tchR
 by_cases htm:Tm g t
 ·rw [if_pos htm]
  have hv:=htm.1
  have ht:=htm.2
  have hs:=hv.srt
  by_cases hf:Fnd c g.2.2.2.1
  ·rw [if_pos hf]
   have hlt:psn c g.2.2.2.1<g.2.2.2.1.length:=by have:=hf.1;omega
   have hb:=hv.at hlt
   have hxc:=hf.2
   obtain ⟨x,hx,hxb⟩:=get_at b0 hlt
   rw [hx] at hb hxc ⊢
   rw [Int.toNat_natCast] at hxb
   have hcl:c.length≤200:=by rw [←hxc];exact hb.1.2.1
   have hd:=dok1 htm hcl
   by_cases ha:k=2∧x.2.2.2.2.1 ≠ -1
   ·rw [if_pos ha]
    obtain ⟨rfl,ha⟩:=ha
    simp (disch:=(first | omega | (simp only [LNl];omega))) only [↓SDl,SDr,↓(va_j g hl).b,tf_t hv,↓wit_b,if_pos,if_neg,↓find_b g c hl hs,tf_t hf,Int.toNat_natCast,↓hxb]
    rfl
   ·rw [if_neg ha]
    by_cases hc:g.2.2.1≥1048576
    ·rw [if_pos hc]
     rcases hk with rfl | rfl
     ·have ha':¬x.2.2.2.2.1 ≠ -1:=fun h=>ha ⟨rfl,h⟩
      simp (disch:=(first | omega | (simp only [LNl];omega))) only [↓SDl,SDr,↓(va_j g hl).b,tf_t hv,↓wit_b,if_pos,if_neg,↓find_b g c hl hs,tf_t hf,Int.toNat_natCast,↓hxb,↓data_b hd.1,↓wf_b hc]
      rfl
     ·simp (disch:=(first | omega | (simp only [LNl];omega))) only [↓SDl,SDr,↓(va_j g hl).b,tf_t hv,↓wit_b,if_pos,if_neg,↓find_b g c hl hs,tf_t hf,Int.toNat_natCast,↓hxb,↓data_b hd.1,↓wf_b hc]
      rfl
    ·rw [if_neg hc]
     have hlg:=hv.lg hB (by omega)
     rcases hk with rfl | rfl
     ·have ha':¬x.2.2.2.2.1 ≠ -1:=fun h=>ha ⟨rfl,h⟩
      simp (disch:=first | omega | (simp only [LNl];omega)) only [↓SDl,SDr,↓(va_j g hl).b,tf_t hv,↓wit_b,if_pos,if_neg,↓find_b g c hl hs,tf_t hf,Int.toNat_natCast,↓hxb,↓data_b hd.1,↓wr_b hlg (show (0:Int)≤2∧(2:Int)≤255 by omega) (datL_bytes _ _) hd.2,↓clone_b hl,↓setget_b hlt,List.set_set]
      rw [List.take_of_length_le (by simp)]
      rfl
     ·simp (disch:=first | omega | (simp only [LNl];omega)) only [↓SDl,SDr,↓(va_j g hl).b,tf_t hv,↓wit_b,if_pos,if_neg,↓find_b g c hl hs,tf_t hf,Int.toNat_natCast,↓hxb,↓data_b hd.1,↓wr_b hlg (show (0:Int)≤3∧(3:Int)≤255 by omega) (datL_bytes _ _) hd.2,↓clone_b hl,↓setget_b hlt,List.set_set]
      rw [List.take_of_length_le (by simp)]
      rfl
  ·rw [if_neg hf]
   simp (disch:=(first | omega | (simp only [LNl];omega))) only [↓SDl,SDr,↓(va_j g hl).b,tf_t hv,↓wit_b,if_pos,if_neg,↓find_b g c hl hs,tf_f hf]
   rfl
 ·rw [if_neg htm]
  by_cases hv:VL g
  ·have h1:¬(g.2.2.2.2.2≤t∧t≤1099511627776):=fun h=>htm ⟨hv,h⟩
   simp (disch:=(first | omega | (simp only [LNl];omega))) only [↓SDl,SDr,↓(va_j g hl).b,tf_t hv,↓wit_b,if_neg,h1,decide_false]
   rfl
  ·simp only [↓SDl,SDr,↓(va_j g hl).b,tf_f hv]
   rfl
theorem touchR_j (g:LG) (k:Int) (c:Tx) (t:Int) (hk:k=2∨k=3) (hl:g.2.2.2.1.length≤1000000) (hB:g.1.length≤900000) :
 (k=2→dialtoneref38_Answer (g,(c,t))=some (tchR g 2 c t))∧(k=3→dialtoneref38_Mark (g,(c,t))=some (tchR g 3 c t)):=by
 have ho:=opn_le g.2.2.2.1
 rw [anR_eq,mkR_eq]
 unfold tchR
 by_cases htm:Tm g t
 ·rw [if_pos htm,if_pos htm]
  have hv:=htm.1
  have ht:=htm.2
  have hs:=hv.srt
  by_cases hf:Fnd c g.2.2.2.1
  ·rw [if_pos hf,if_pos hf]
   have hlt:psn c g.2.2.2.1<g.2.2.2.1.length:=by have:=hf.1;omega
   have hb:=hv.at hlt
   have hxc:=hf.2
   have he2:=ef23_j g 2 t 0 0 0 c [] [] (.inl rfl) hl hs
   have he3:=ef23_j g 3 t 0 0 0 c [] [] (.inr rfl) hl hs
   obtain ⟨x,hx,hxb⟩:=get_at b0 hlt
   rw [hx] at hb hxc he2 he3 ⊢
   rw [Int.toNat_natCast] at hxb
   have hcl:c.length≤200:=by rw [←hxc];exact hb.1.2.1
   have hd:=dok1 htm hcl
   have hr2:actRecord (2,(t,(0,(0,(0,(c,([],[])))))))=some (2,datL [t] [c]):=by
    rw [ar_eq]
    simp (disch:=(first | omega | (simp only [LNl];omega))) only [↓SDl,SDr,if_neg,↓dataR_b hd.1]
   have hr3:actRecord (3,(t,(0,(0,(0,(c,([],[])))))))=some (3,datL [t] [c]):=by
    rw [ar_eq]
    simp (disch:=(first | omega | (simp only [LNl];omega))) only [↓SDl,SDr,if_neg,↓dataR_b hd.1]
   have hE:x.2.2.2.2.2.1≤t:=by have:=hb.2.2.2.1.2;omega
   constructor
   ·intro _
    by_cases ha:x.2.2.2.2.1 = -1
    ·rw [if_neg (fun h=>h.2 ha)]
     by_cases hc:g.2.2.1≥1048576
     ·rw [if_pos hc]
      simp (disch:=(first | omega | (simp only [LNl];omega))) only [↓SDl,SDr,↓(timed_j g t hl).b,tf_t htm,if_pos,if_neg,↓fdt_b hl hs hf,Int.toNat_natCast,↓hxb,↓full_b]
      rfl
     ·rw [if_neg hc]
      have hlg:=hv.lg hB (by omega)
      rcases he2 with ⟨_,he⟩ | ⟨hno,_⟩
      ·simp (disch:=(first | omega | (simp only [LNl];omega))) only [↓SDl,SDr,↓(timed_j g t hl).b,tf_t htm,if_pos,if_neg,↓fdt_b hl hs hf,Int.toNat_natCast,↓hxb,↓full_b,↓done_b he hr2 hlg (show (0:Int)≤2∧(2:Int)≤255 by omega) (datL_bytes _ _) hd.2,maxA_r ht.1]
      ·exact (hno ⟨hf,hE,fun _=>by omega⟩).elim
    ·rw [if_pos ⟨rfl,ha⟩]
     have h3:x.2.2.2.2.1≥0:=by have:=hb.2.2.1;have:=hb.2.1.1;omega
     simp (disch:=(first | omega | (simp only [LNl];omega))) only [↓SDl,SDr,↓(timed_j g t hl).b,tf_t htm,if_pos,if_neg,↓fdt_b hl hs hf,Int.toNat_natCast,↓hxb]
     rfl
   ·intro _
    rw [if_neg (fun h=>by omega)]
    by_cases hc:g.2.2.1≥1048576
    ·rw [if_pos hc]
     simp (disch:=(first | omega | (simp only [LNl];omega))) only [↓SDl,SDr,↓(timed_j g t hl).b,tf_t htm,if_pos,if_neg,↓fdt_b hl hs hf,↓full_b]
     rfl
    ·rw [if_neg hc]
     have hlg:=hv.lg hB (by omega)
     rcases he3 with ⟨_,he⟩ | ⟨hno,_⟩
     ·simp (disch:=(first | omega | (simp only [LNl];omega))) only [↓SDl,SDr,↓(timed_j g t hl).b,tf_t htm,if_pos,if_neg,↓fdt_b hl hs hf,↓full_b,↓done_b he hr3 hlg (show (0:Int)≤3∧(3:Int)≤255 by omega) (datL_bytes _ _) hd.2,maxA_r ht.1]
     ·exact (hno ⟨hf,hE,fun h=>by omega⟩).elim
  ·rw [if_neg hf,if_neg hf]
   constructor
   ·intro _
    simp (disch:=(first | omega | (simp only [LNl];omega))) only [↓SDl,SDr,↓(timed_j g t hl).b,tf_t htm,if_pos,if_neg,↓fdf_b hl hs hf]
    rfl
   ·intro _
    simp (disch:=(first | omega | (simp only [LNl];omega))) only [↓SDl,SDr,↓(timed_j g t hl).b,tf_t htm,if_pos,if_neg,↓fdf_b hl hs hf]
    rfl
 ·rw [if_neg htm,if_neg htm]
  constructor
  ·intro _
   simp only [↓SDl,SDr,↓(timed_j g t hl).b,tf_f htm]
   rfl
  ·intro _
   simp only [↓SDl,SDr,↓(timed_j g t hl).b,tf_f htm]
   rfl
end Go.Proofs.Ytkpijdndakljjaa

set_option maxRecDepth 100000
set_option maxHeartbeats 4000000
namespace Go.Proofs.Ytkpijdndakljjaa
open Go.RowKit
namespace Rt
theorem cv_bd {r:Ra} {f a s:Int} (h:RV r) (hf:0≤f∧f≤3600) (ha:0≤a∧a≤281474976710656) (hs:0≤s∧s≤1000000):0≤CV r f a s∧CV r f a s≤1000000000*(s+1):=by
 have hfi:=h.1.2.2.1
 have hst:=h.1.2.2.2
 have hn:=pn_nn (f:=f) (fi:=r.2.2.1) (s:=s) hst.1
 have hle:=pn_le (st:=r.2.2.2.1) hst.1 hf.1 hfi.1 hs.1
 unfold CV
 split
 ·omega
 ·have:=cs_bd h.2.2 h.1.2.1 (n:=(PN f r.2.2.1 r.2.2.2.1 s).toNat) (mo:=MO a f r.2.2.1 r.2.2.2.1) (fun k hk=>by have:=mo_bd ha hf hfi hst (k:=k) (by omega);omega)
  omega
theorem cost_bd (l:List Ra) (f:Int) (num:List UInt8) (a b:Int):∃c e,rating_Cost ((l,f),(num,(a,b)))=some (c,e)∧dialtoneref37_Cost ((l,f),(num,(a,b)))=some (c,e)∧(0≤c∧c≤2000000000000000):=by
 obtain ⟨⟨c,e⟩,h1,h2⟩:=cost_same l f num a b
 refine ⟨c,e,h1,h2,?_⟩
 have z:∀q:Int,rating_Cost ((l,f),(num,(a,b)))=some (0,q)→0≤c∧c≤2000000000000000:=fun q hq=>by
  rw [h1] at hq;cases hq;omega
 by_cases hv:TV l f
 ·by_cases hs:Spn a b
  ·by_cases hq:SE a b≤1000000
   ·obtain ⟨r,e1,e2,k1,_⟩:=find_same l f num
    rcases k1 hv with ⟨rfl,_⟩ | ⟨i,hi,rfl,_⟩
    ·have w1:0≤a∧a≤281474976710656:=⟨hs.1,Int.le_trans hs.2.1 hs.2.2⟩
     have w2:a≤b∧b≤281474976710656:=hs.2
     refine z 8 ?_
     unfold rating_Cost
     simp (disch:=omega) only [↓SDl,SDr,validP_t hv,within_b,w1,w2,and_self,decide_true,secondsP_j,if_neg,e1]
    ·have w1:0≤a∧a≤281474976710656:=⟨hs.1,Int.le_trans hs.2.1 hs.2.2⟩
     have hp:=costP_v hv hs hq hi e1
     rw [h1] at hp
     have hb:=cv_bd (hv.2 i hi).1 hv.1.2 w1 ⟨(se_nn a b).1,hq⟩
     simp only [Option.some.injEq,Prod.mk.injEq] at hp
     rw [hp.1]
     omega
   ·have w1:0≤a∧a≤281474976710656:=⟨hs.1,Int.le_trans hs.2.1 hs.2.2⟩
    have w2:a≤b∧b≤281474976710656:=hs.2
    refine z 4 ?_
    unfold rating_Cost
    simp (disch:=omega) only [↓SDl,SDr,validP_t hv,within_b,w1,w2,and_self,decide_true,secondsP_j,if_pos]
  ·refine z 3 ?_
   unfold rating_Cost
   by_cases w1:0≤a∧a≤281474976710656
   ·have w2:¬(a≤b∧b≤281474976710656):=fun k=>hs ⟨w1.1,k⟩
    simp (disch:=omega) only [↓SDl,SDr,validP_t hv,within_b,w1,w2,and_self,decide_true,decide_false]
   ·simp (disch:=omega) only [↓SDl,SDr,validP_t hv,within_b,w1,decide_false]
 ·refine z 2 ?_
  unfold rating_Cost
  simp only [↓SDl,SDr,validP_f hv]
end Rt
noncomputable def coR (rs:List Ra) (fr:Int) (num:Tx) (a b:Int):Int:=match rating_Cost ((rs,fr),(num,(a,b))) with | some (c,e)=>if e=0 then c else 0 | none=>0
theorem co_spec (rs:List Ra) (fr:Int) (num:Tx) (a b:Int):∃c e,rating_Cost ((rs,fr),(num,(a,b)))=some (c,e)∧dialtoneref37_Cost ((rs,fr),(num,(a,b)))=some (c,e)∧coR rs fr num a b=(if e=0 then c else 0)∧(0≤coR rs fr num a b∧coR rs fr num a b≤2000000000000000):=by
 obtain ⟨c,e,h1,h2,h3⟩:=Rt.cost_bd rs fr num a b
 have h4:coR rs fr num a b=(if e=0 then c else 0):=by unfold coR;rw [h1]
 refine ⟨c,e,h1,h2,h4,?_⟩
 rw [h4]
 split<;>omega
def rst (l:List BL) (p:Nat):List BL:=l.take p++l.drop (p+1)
theorem rst_len {l:List BL} {p:Nat} (h:p<l.length):(rst l p).length+1=l.length:=by
 rw [rst,List.length_append,List.length_take,List.length_drop];omega
def rcd (x:BL) (t n s co:Int):BL:=(x.1,(x.2.1,(x.2.2.1,(x.2.2.2.1,(x.2.2.2.2.1,(t,(n,(s,(co,x.2.2.2.2.2.2.2.2.2)))))))))
end Go.Proofs.Ytkpijdndakljjaa

set_option maxRecDepth 100000
set_option maxHeartbeats 4000000
namespace Go.Proofs.Ytkpijdndakljjaa
open Go.RowKit
def Opb (x:BL):Prop:=(x.2.2.2.2.2.2.1=0∧x.2.2.2.2.2.2.2.1=0∧x.2.2.2.2.2.2.2.2.1=0)∧(x.2.2.2.2.1 = -1∨0≤x.2.2.2.2.1)∧x.1.length≤200
noncomputable def nmF (rs:List Ra) (fr:Int) (last:Int) (x:BL) (t:Int):Int×(Int×Int):=if x.2.2.2.2.1 ≠ -1 then (last+1,(Rt.SE x.2.2.2.2.1 t,coR rs fr x.2.2.1 x.2.2.2.2.1 t)) else (0,(0,0))
noncomputable def dE (rs:List Ra) (fr:Int) (last:Int) (x:BL) (t:Int):List Int:=datL [t,(nmF rs fr last x t).1,(nmF rs fr last x t).2.1,(nmF rs fr last x t).2.2] [x.1]
noncomputable def bsF (rs:List Ra) (fr:Int) (l:List BL) (last:Int) (p:Nat) (t:Int):List BL:=if (l.getD p b0).2.2.2.2.1 ≠ -1 then rst l p++[rcd (l.getD p b0) t (last+1) (Rt.SE (l.getD p b0).2.2.2.2.1 t) (coR rs fr (l.getD p b0).2.2.1 (l.getD p b0).2.2.2.2.1 t)] else rst l p
def laF (l:List BL) (last:Int) (p:Nat):Int:=if (l.getD p b0).2.2.2.2.1 ≠ -1 then last+1 else last
open Classical in
noncomputable def finR (rs:List Ra) (fr:Int) (g:LG) (p:Nat) (t now:Int):LG×Int :=
 if ((g.2.2.2.1.getD p b0).2.2.2.2.1 ≠ -1∧g.2.2.2.2.1≥1048576)∨g.2.2.1≥1048576 then (zG,10) else
  ((g.1++Jn.encB g.2.2.1 4 (dE rs fr g.2.2.2.2.1 (g.2.2.2.1.getD p b0) t),(g.2.1,(g.2.2.1+1,(bsF rs fr g.2.2.2.1 g.2.2.2.2.1 p t,(laF g.2.2.2.1 g.2.2.2.2.1 p,now))))),0)
theorem dE_ok (rs:List Ra) (fr:Int) {last:Int} {x:BL} {t:Int} (h5:0≤last∧last≤1048576) (hx:Opb x) (ht:0≤t∧t≤1099511627776):DOk [t,(nmF rs fr last x t).1,(nmF rs fr last x t).2.1,(nmF rs fr last x t).2.2] [x.1]∧(dE rs fr last x t).length≤4096:=by
 obtain ⟨c,e,_,_,_,h6⟩:=co_spec rs fr x.2.2.1 x.2.2.2.2.1 t
 have h7:=Rt.se_nn x.2.2.2.2.1 t
 have h8:=hx.2.2
 refine ⟨⟨⟨by simp,fun n hn => ?_⟩,by simp,fun t ht => ?_⟩,?_⟩
 ·unfold nmF at hn
  simp only [List.mem_cons,List.not_mem_nil,or_false] at hn
  split at hn<;>simp only at hn<;>omega
 ·rw [List.mem_singleton] at ht;subst ht;omega
 ·rw [dE,datL_length]
  simp only [List.flatMap_cons,List.flatMap_nil,List.length_append,tB_len,List.length_cons,List.length_nil]
  omega
theorem fin_j (rs:List Ra) (fr:Int) (g:LG) {p:Nat} (t:Int) (hp:p<g.2.2.2.1.length) (hl:g.2.2.2.1.length≤1000000) (hB:g.1.length≤900000) (h1:0≤g.2.1∧g.2.1≤(g.1.length:Int)) (h2:0≤g.2.2.1) (h5:0≤g.2.2.2.2.1∧g.2.2.2.2.1≤1048576) (hx:Opb (g.2.2.2.1.getD p b0)) (ht:0≤t∧t≤1099511627776) :
 billing_finish (g,((rs,fr),(((p:Nat):Int),t)))=some (finR rs fr g p t g.2.2.2.2.2):=by
 rw [fin_eq]
 unfold finR
 have hd:=dE_ok rs fr h5 hx ht
 have hrl:=rst_len hp
 unfold bsF laF
 obtain ⟨x,hxx,hxb⟩:=get_at b0 hp
 rw [hxx] at hx hd ⊢
 rw [Int.toNat_natCast] at hxb
 obtain ⟨c,e,c1,c2,c3,c4⟩:=co_spec rs fr x.2.2.1 x.2.2.2.2.1 t
 have hC:∀ {β:Type} (f:Int×Int→Option β),bindO (rating_Cost ((rs,fr),(x.2.2.1,(x.2.2.2.2.1,t)))) f=f (c,e):=fun f=>by rw [c1];rfl
 have hD:=fun {β:Type} (f:List BL→Option β)=>del_b (l:=g.2.2.2.1) (p:=p) (j:=((p:Nat):Int)+1) hl hp rfl f
 have hrst:g.2.2.2.1.take p++g.2.2.2.1.drop (p+1)=rst g.2.2.2.1 p:=rfl
 have hlast:Go.IntKind.wrap .i64 (g.2.2.2.2.1+(1:Int))=g.2.2.2.2.1+1:=wrap_i64' (by omega)
 have hpw:Go.IntKind.wrap .i64 (((p:Nat):Int)+(1:Int))=((p:Nat):Int)+1:=wrap_i64' (by omega)
 unfold dE at hd
 unfold dE
 by_cases ha:x.2.2.2.2.1 ≠ -1
 ·have hnm:nmF rs fr g.2.2.2.2.1 x t=(g.2.2.2.2.1+1,(Rt.SE x.2.2.2.2.1 t,coR rs fr x.2.2.1 x.2.2.2.2.1 t)):=if_pos ha
  rw [hnm] at hd ⊢
  simp only at hd
  by_cases hq:g.2.2.2.2.1≥1048576
  ·rw [if_pos (.inl ⟨ha,hq⟩)]
   simp (disch:=(first | omega | (simp only [LNl];omega))) only [↓SDl,SDr,if_pos,Int.toNat_natCast,↓hxb,↓clone_b hl,hpw,↓hD]
   rfl
  ·by_cases hc:g.2.2.1≥1048576
   ·rw [if_pos (.inr hc)]
    by_cases he:e=0
    ·rw [if_pos he] at c3
     rw [c3] at hd
     simp (disch:=(first | omega | (simp only [LNl];omega))) only [↓SDl,SDr,if_pos,if_neg,Int.toNat_natCast,↓hxb,↓clone_b hl,hpw,↓hD,hrst,hlast,↓sec_b,↓hC,he,↓data_b hd.1,↓wf_b hc]
     rfl
    ·rw [if_neg he] at c3
     rw [c3] at hd
     have hz:=hx.1.2.2
     simp (disch:=(first | omega | (simp only [LNl];omega))) only [↓SDl,SDr,if_pos,if_neg,hz,Int.toNat_natCast,↓hxb,↓clone_b hl,hpw,↓hD,hrst,hlast,↓sec_b,↓hC,he,↓data_b hd.1,↓wf_b hc]
     rfl
   ·rw [if_neg (by omega),if_pos ha,if_pos ha]
    have hlg:LgOk (g.1,(g.2.1,g.2.2.1)):=⟨hB,h1,h2,show g.2.2.1<1048576 by omega⟩
    by_cases he:e=0
    ·rw [if_pos he] at c3
     rw [c3] at hd ⊢
     simp (disch:=(first | omega | (simp only [LNl];omega))) only [↓SDl,SDr,if_pos,if_neg,Int.toNat_natCast,↓hxb,↓clone_b hl,hpw,↓hD,hrst,hlast,↓sec_b,↓hC,he,↓data_b hd.1,↓wr_b hlg (show (0:Int)≤4∧(4:Int)≤255 by omega) (datL_bytes _ _) hd.2]
     rfl
    ·rw [if_neg he] at c3
     rw [c3] at hd ⊢
     have hz:=hx.1.2.2
     simp (disch:=(first | omega | (simp only [LNl];omega))) only [↓SDl,SDr,if_pos,if_neg,hz,Int.toNat_natCast,↓hxb,↓clone_b hl,hpw,↓hD,hrst,hlast,↓sec_b,↓hC,he,↓data_b hd.1,↓wr_b hlg (show (0:Int)≤4∧(4:Int)≤255 by omega) (datL_bytes _ _) hd.2]
     rfl
 ·have hnm:nmF rs fr g.2.2.2.2.1 x t=(0,(0,0)):=if_neg ha
  rw [hnm] at hd ⊢
  simp only at hd
  have hz:=hx.1
  by_cases hc:g.2.2.1≥1048576
  ·rw [if_pos (.inr hc)]
   simp (disch:=(first | omega | (simp only [LNl];omega))) only [↓SDl,SDr,if_pos,if_neg,Int.toNat_natCast,↓hxb,↓clone_b hl,hpw,↓hD,hrst,hz.1,hz.2.1,hz.2.2,↓data_b hd.1,↓wf_b hc]
   rfl
  ·rw [if_neg (by omega),if_neg ha,if_neg ha]
   have hlg:LgOk (g.1,(g.2.1,g.2.2.1)):=⟨hB,h1,h2,show g.2.2.1<1048576 by omega⟩
   simp (disch:=(first | omega | (simp only [LNl];omega))) only [↓SDl,SDr,if_pos,if_neg,Int.toNat_natCast,↓hxb,↓clone_b hl,hpw,↓hD,hrst,hz.1,hz.2.1,hz.2.2,↓data_b hd.1,↓wr_b hlg (show (0:Int)≤4∧(4:Int)≤255 by omega) (datL_bytes _ _) hd.2]
end Go.Proofs.Ytkpijdndakljjaa

set_option maxRecDepth 100000
set_option maxHeartbeats 4000000
namespace Go.Proofs.Ytkpijdndakljjaa
open Go.RowKit
theorem VL.opb {g:LG} (h:VL g) {p:Nat} (hp:p<opn g.2.2.2.1):Opb (g.2.2.2.1.getD p b0):=by
 have ho:=opn_le g.2.2.2.1
 have hb:=h.at (i:=p) (by omega)
 have hz:=opn_in hp
 obtain ⟨k1,k2,k3,k4,k5⟩:=hb
 refine ⟨?_,?_,k1.2.1⟩
 ·rcases k5 with k5 | k5
  ·exact ⟨k5.1,k5.2.1,k5.2.2.1⟩
  ·exact (k5.1 hz).elim
 ·have:=k2.1;omega
open Classical in
noncomputable def endR (g:LG) (rs:List Ra) (fr:Int) (c:Tx) (t:Int):LG×Int :=
 if Tm g t∧Rt.TV rs fr then (if Fnd c g.2.2.2.1 then finR rs fr g (psn c g.2.2.2.1) t t else (zG,8)) else (zG,2)
theorem end_j (g:LG) (rs:List Ra) (fr:Int) (c:Tx) (t:Int) (hl:g.2.2.2.1.length≤1000000) (hB:g.1.length≤900000):billing_End (g,((rs,fr),(c,t)))=some (endR g rs fr c t):=by
 have ho:=opn_le g.2.2.2.1
 rw [en_eq]
 unfold endR
 by_cases h:Tm g t∧Rt.TV rs fr
 ·rw [if_pos h]
  obtain ⟨htm,hr⟩:=h
  have hv:=htm.1
  have ht:=htm.2
  have h0:=hv.2.1
  have hs:=hv.srt
  have hR:∀ {β:Type} (f:Bool→Option β),bindO (rating_Valid (rs,fr)) f=f true:=fun f=>by rw [Rt.validP_t hr];rfl
  by_cases hf:Fnd c g.2.2.2.1
  ·rw [if_pos hf]
   have hlt:psn c g.2.2.2.1<g.2.2.2.1.length:=by have:=hf.1;omega
   have hfin:=fin_j rs fr g t hlt hl hB ⟨hv.1.1,hv.1.2.1⟩ hv.1.2.2.1 hv.2.2.1 (hv.opb hf.1) ⟨by omega,ht.2⟩
   have hF:∀ {β:Type} (f:LG×Int→Option β),bindO (billing_finish (g,((rs,fr),(((psn c g.2.2.2.1:Nat):Int),t)))) f=f (finR rs fr g (psn c g.2.2.2.1) t g.2.2.2.2.2):=fun f=>by rw [hfin];rfl
   simp (disch:=(first | omega | (simp only [LNl];omega))) only [↓SDl,SDr,↓(va_j g hl).b,tf_t hv,↓wit_b,if_pos,↓hR,↓find_b g c hl hs,tf_t hf,↓hF]
   unfold finR
   split
   ·rfl
   ·rfl
  ·rw [if_neg hf]
   simp (disch:=(first | omega | (simp only [LNl];omega))) only [↓SDl,SDr,↓(va_j g hl).b,tf_t hv,↓wit_b,if_pos,↓hR,↓find_b g c hl hs,tf_f hf]
   rfl
 ·rw [if_neg h]
  by_cases hv:VL g
  ·by_cases h1:g.2.2.2.2.2≤t∧t≤1099511627776
   ·have hr:¬Rt.TV rs fr:=fun k=>h ⟨⟨hv,h1⟩,k⟩
    have hR:∀ {β:Type} (f:Bool→Option β),bindO (rating_Valid (rs,fr)) f=f false:=fun f=>by rw [Rt.validP_f hr];rfl
    simp (disch:=(first | omega | (simp only [LNl];omega))) only [↓SDl,SDr,↓(va_j g hl).b,tf_t hv,↓wit_b,if_pos,↓hR]
    rfl
   ·simp (disch:=(first | omega | (simp only [LNl];omega))) only [↓SDl,SDr,↓(va_j g hl).b,tf_t hv,↓wit_b,if_neg,h1,decide_false]
    rfl
  ·simp only [↓SDl,SDr,↓(va_j g hl).b,tf_f hv]
   rfl
theorem VL.num {g:LG} (h:VL g) {i:Nat} (hi:i<g.2.2.2.1.length):0≤(g.2.2.2.1.getD i b0).2.2.2.2.2.2.1∧(g.2.2.2.1.getD i b0).2.2.2.2.2.2.1≤1048576∧(opn g.2.2.2.1≤i→1≤(g.2.2.2.1.getD i b0).2.2.2.2.2.2.1):=by
 have hp:=pv_nn h.2.2.1 (i:=i) (fun j hj=>h.2.2.2.2 j (by omega))
 have h3:=h.2.2.1
 rcases (h.2.2.2.2 i hi).2 with ⟨k,_⟩ | ⟨k,k2,k3⟩
 ·rw [opn_in k];omega
 ·omega
end Go.Proofs.Ytkpijdndakljjaa

set_option maxRecDepth 100000
set_option maxHeartbeats 4000000
namespace Go.Proofs.Ytkpijdndakljjaa
open Go.RowKit
theorem loop_firstK {β:Type} {body:Int→Option (Int ⊕ β)} {k n:Nat} (hk:k≤n) (p:Nat→Prop) (f:Nat→β) (r0:β) (h1:∀i:Nat,k≤i→i<n→¬p i→body (i:Int)=some (.inl ((i+1:Nat):Int))) (h2:∀i:Nat,k≤i→i<n→p i→body (i:Int)=some (.inr (f i))) (h3:body (n:Int)=some (.inr r0)) :
 (∃i,k≤i∧i<n∧p i∧(∀j,k≤j→j<i→¬p j)∧loopO body (k:Int)=some (f i))∨((∀i,k≤i→i<n→¬p i)∧loopO body (k:Int)=some r0):=by
 by_cases h:∃i,k≤i∧i<n∧p i
 ·obtain ⟨i,⟨q1,q2,q3⟩,q4⟩:=least h
  have q5:∀j,k≤j→j<i→¬p j:=fun j j1 j2 j3=>q4 j j2 ⟨j1,by omega,j3⟩
  refine .inl ⟨i,q1,q2,q3,q5,loopO_from (fun j=>((k+j:Nat):Int)) (i-k) (by simp) (fun j hj => ?_) ?_⟩
  ·exact h1 (k+j) (by omega) (by omega) (q5 _ (by omega) (by omega))
  ·show body ((k+(i-k):Nat):Int)=_
   rw [show k+(i-k)=i from by omega]
   exact h2 i q1 q2 q3
 ·have h':∀i,k≤i→i<n→¬p i:=fun i i1 i2 i3=>h ⟨i,i1,i2,i3⟩
  refine .inr ⟨h',loopO_from (fun j=>((k+j:Nat):Int)) (n-k) (by simp) (fun j hj => ?_) ?_⟩
  ·exact h1 (k+j) (by omega) (by omega) (h' _ (by omega) (by omega))
  ·show body ((k+(n-k):Nat):Int)=_
   rw [show k+(n-k)=n from by omega]
   exact h3
def Due (l:List BL) (i:Nat):Prop:=(l.getD i b0).2.2.2.2.2.2.1≠0∧(l.getD i b0).2.2.2.2.2.2.2.2.2=false
def NX (g:LG):Prop:=VL g∧g.2.1=(g.1.length:Int)
theorem next_j (g:LG) (hl:g.2.2.2.1.length≤1000000):∃r,billing_Next g=some r∧dialtoneref38_Next g=some r ∧
 ((NX g∧∃i,i<g.2.2.2.1.length∧Due g.2.2.2.1 i∧(∀j,j<i→¬Due g.2.2.2.1 j)∧r=(g.2.2.2.1.getD i b0,true))∨(¬(NX g∧∃i,i<g.2.2.2.1.length∧Due g.2.2.2.1 i)∧r=(b0,false))):=by
 have ho:=opn_le g.2.2.2.1
 rw [nx_eq,nr_eq]
 by_cases hv:VL g
 ·by_cases hsy:g.2.1=(g.1.length:Int)
  ·have hP:=loop_first (body:=nxB g) g.2.2.2.1.length (fun i=>Due g.2.2.2.1 i) (fun i => .inr (g.2.2.2.1.getD i b0,true)) (.inl ()) (fun i hi hn=>by
    obtain ⟨x,hx,hxb⟩:=get_at b0 hi
    unfold Due at hn
    rw [hx] at hn
    unfold nxB
    by_cases h0:x.2.2.2.2.2.2.1=0
    ·simp (disch:=(first | omega | (simp only [LNl];omega))) only [↓SDl,SDr,if_pos,if_neg,↓hxb,wrap_i64']
     rfl
    ·have h1:x.2.2.2.2.2.2.2.2.2=true:=by
      cases hg:x.2.2.2.2.2.2.2.2.2 with
      | true=>rfl
      | false=>exact (hn ⟨h0,hg⟩).elim
     simp (disch:=(first | omega | (simp only [LNl];omega))) only [↓SDl,SDr,if_pos,if_neg,↓hxb,h1,wrap_i64']
     rfl) (fun i hi hn=>by
    obtain ⟨x,hx,hxb⟩:=get_at b0 hi
    unfold Due at hn
    rw [hx] at hn ⊢
    have hg:=hn.2
    have h0:=hn.1
    unfold nxB
    simp (disch:=(first | omega | (simp only [LNl];omega))) only [↓SDl,SDr,if_pos,if_neg,↓hxb,hg]) (by
    unfold nxB
    simp (disch:=(first | omega | (simp only [LNl];omega))) only [↓SDl,SDr,if_neg])
   have hR:=loop_firstK (body:=nrB g) ho (fun i=>Due g.2.2.2.1 i) (fun i => .inr (g.2.2.2.1.getD i b0,true)) (.inl ()) (fun i hk hi hn=>by
    obtain ⟨x,hx,hxb⟩:=get_at b0 hi
    have hnum:=(hv.num hi).2.2 hk
    unfold Due at hn
    rw [hx] at hn hnum
    have h1:x.2.2.2.2.2.2.2.2.2=true:=by
     cases hg:x.2.2.2.2.2.2.2.2.2 with
     | true=>rfl
     | false=>exact (hn ⟨by omega,hg⟩).elim
    unfold nrB
    simp (disch:=(first | omega | (simp only [LNl];omega))) only [↓SDl,SDr,if_pos,if_neg,↓hxb,h1,wrap_i64']
    rfl) (fun i hk hi hn=>by
    obtain ⟨x,hx,hxb⟩:=get_at b0 hi
    unfold Due at hn
    rw [hx] at hn ⊢
    have hg:=hn.2
    unfold nrB
    simp (disch:=(first | omega | (simp only [LNl];omega))) only [↓SDl,SDr,if_pos,if_neg,↓hxb,hg]) (by
    unfold nrB
    simp (disch:=(first | omega | (simp only [LNl];omega))) only [↓SDl,SDr,if_neg])
   have hno:∀i,i<opn g.2.2.2.1→¬Due g.2.2.2.1 i:=fun i hi h=>h.1 (opn_in hi)
   rcases hP with ⟨i,k1,k2,k3,e⟩ | ⟨k,e⟩
   ·have hio:opn g.2.2.2.1≤i:=by
     rcases Nat.lt_or_ge i (opn g.2.2.2.1) with h | h
     ·exact (hno i h k2).elim
     ·exact h
    rcases hR with ⟨i',k0',k1',k2',k3',e'⟩ | ⟨k',_⟩
    ·have hii:i'=i:=by
      rcases Nat.lt_trichotomy i' i with h | h | h
      ·exact (k3 _ h k2').elim
      ·exact h
      ·exact (k3' _ hio h k2).elim
     subst hii
     refine ⟨(g.2.2.2.1.getD i' b0,true),?_,?_,.inl ⟨⟨hv,hsy⟩,i',k1,k2,k3,rfl⟩⟩
     ·simp (disch:=(first | omega | (simp only [LNl];omega))) only [↓SDl,SDr,↓(va_j g hl).b,tf_t hv,if_neg,e]
     ·simp (disch:=(first | omega | (simp only [LNl];omega))) only [↓SDl,SDr,↓(vr_j g hl).b,tf_t hv,if_neg,↓or_b g hl,e']
    ·exact (k' i hio k1 k2).elim
   ·rcases hR with ⟨i',_,k1',k2',_,_⟩ | ⟨_,e'⟩
    ·exact (k i' k1' k2').elim
    ·refine ⟨(b0,false),?_,?_,.inr ⟨fun h=>by obtain ⟨i,i1,i2⟩:=h.2;exact k i i1 i2,rfl⟩⟩
     ·simp (disch:=(first | omega | (simp only [LNl];omega))) only [↓SDl,SDr,↓(va_j g hl).b,tf_t hv,if_neg,e]
      rfl
     ·simp (disch:=(first | omega | (simp only [LNl];omega))) only [↓SDl,SDr,↓(vr_j g hl).b,tf_t hv,if_neg,↓or_b g hl,e']
      rfl
  ·refine ⟨(b0,false),?_,?_,.inr ⟨fun h=>hsy h.1.2,rfl⟩⟩
   ·simp (disch:=(first | omega | (simp only [LNl];omega))) only [↓SDl,SDr,↓(va_j g hl).b,tf_t hv,if_pos]
    rfl
   ·simp (disch:=(first | omega | (simp only [LNl];omega))) only [↓SDl,SDr,↓(vr_j g hl).b,tf_t hv,if_pos]
    rfl
 ·refine ⟨(b0,false),?_,?_,.inr ⟨fun h=>hv h.1.1,rfl⟩⟩
  ·simp only [↓SDl,SDr,↓(va_j g hl).b,tf_f hv]
   rfl
  ·simp only [↓SDl,SDr,↓(vr_j g hl).b,tf_f hv]
   rfl
open Classical in
noncomputable def synR (g:LG):LG:=if VL g then (g.1,((g.1.length:Int),(g.2.2.1,(g.2.2.2.1,(g.2.2.2.2.1,g.2.2.2.2.2))))) else zG
theorem sync_j (g:LG) (hl:g.2.2.2.1.length≤1000000) (hB:g.1.length≤900000):billing_Sync g=some (synR g):=by
 rw [sy_eq]
 unfold synR
 by_cases hv:VL g
 ·rw [if_pos hv]
  have hS:∀ {β:Type} (f:List Int×(Int×Int)→Option β),bindO (journal_Sync (g.1,(g.2.1,g.2.2.1))) f=f (g.1,((g.1.length:Int),g.2.2.1)):=fun f=>by rw [Jn.sync_j g.1 g.2.1 g.2.2.1 hB ⟨hv.1.1,hv.1.2.1⟩ ⟨hv.1.2.2.1,hv.1.2.2.2⟩];rfl
  simp (disch:=(first | omega | (simp only [LNl];omega))) only [↓SDl,SDr,↓(va_j g hl).b,tf_t hv,↓hS,↓clone_b hl]
 ·rw [if_neg hv]
  simp only [↓SDl,SDr,↓(va_j g hl).b,tf_f hv]
  rfl
theorem samebills_refl (l:List BL) (hl:l.length≤1000000):dialtoneref38_SameBills (l,l)=some true:=by
 rw [sb_eq]
 have hL:loopO (sbB l l) (0:Int)=some (.inl ()):=by
  refine loopO_from (fun i=>((i:Nat):Int)) l.length rfl (fun i hi => ?_) ?_
  ·obtain ⟨x,hx,hxb⟩:=get_at b0 hi
   unfold sbB
   simp (disch:=(first | omega | (simp only [LNl];omega))) only [↓SDl,SDr,if_pos,↓hxb,wrap_i64',decide_true,Bool.and_true,Bool.true_and,beq_self_eq_true]
   rfl
  ·unfold sbB
   simp (disch:=(first | omega | (simp only [LNl];omega))) only [↓SDl,SDr,if_neg]
 rw [hL]
 simp (disch:=(first | omega | (simp only [LNl];omega))) only [↓SDl,SDr,if_neg]
theorem same_refl (g:LG) (hl:g.2.2.2.1.length≤1000000):dialtoneref38_Same (g,g)=some true:=by
 rw [sm_eq,Jn.samelog_refl,samebills_refl _ hl]
 simp (disch:=(first | omega | (simp only [LNl];omega))) only [↓SDl,SDr,if_pos,decide_true]
end Go.Proofs.Ytkpijdndakljjaa

set_option maxRecDepth 1000000
set_option maxHeartbeats 0
namespace Go.Proofs.Ytkpijdndakljjaa
open Go.RowKit
def plan31:List (Nat×PL):=[]
noncomputable def billing_New:PUnit→Option (LN×(Int×(Int×((List (LU×(LU×(LU×(Int×(Int×(Int×(Int×(Int×(Int×Bool))))))))))×(Int×Int))))):=fun _ =>
 some (([]:List Int),((0:Int),((0:Int),(([]:List (LU×(LU×(LU×(Int×(Int×(Int×(Int×(Int×(Int×Bool)))))))))),((0:Int),(0:Int))))))
noncomputable def cons31:List (Nat×CE):=[]
theorem cons31_ok:ConL Try.prog cons31:=trivial
noncomputable def ce31:CE:=⟨[],[(.tmp 0 true [dY,dI,dI,(.dat (.list (.pair .str (.pair .str (.pair .str (.pair uI6 (.pair uI6 (.pair uI6 (.pair uI6 (.pair uI6 (.pair uI6 .bool))))))))))),dI,dI])],billing_New⟩
theorem con31:ConOk Try.prog 31 ce31 :=
 tree_ok (plan:=planOf plan31) (eg:=egNo) KK tabL_ok (conOf_ok cons31_ok) Try.func31 (by kernel_rfl) (by kernel_rfl) 10000 (fun a r h=>Eq.trans (show _=billing_New a from by kernel_rfl) h)
def plan9:List (Nat×PL):=[]
noncomputable def dialtonelaw38_awake:PUnit→Option Bool:=fun _ =>
 bindO (billing_New ()) fun (x2,(x3,(x4,(x5,(x6,x7))))) =>
 bindO (billing_Begin ((x2,(x3,(x4,(x5,(x6,x7))))),(((99:UInt8)::([]:List UInt8)),(((97:UInt8)::([]:List UInt8)),(((98:UInt8)::([]:List UInt8)),((1000:Int),((0:Int),((0:Int),((0:Int),((0:Int),((0:Int),Bool.false))))))))))) fun ((x9,(x10,(x11,(x12,(x13,x14))))),x15) =>
 bindO (billing_Answer ((x9,(x10,(x11,(x12,(x13,x14))))),(((99:UInt8)::([]:List UInt8)),(2000:Int)))) fun ((x17,(x18,(x19,(x20,(x21,x22))))),x23) =>
 bindO (billing_Sync (x17,(x18,(x19,(x20,(x21,x22)))))) fun (x25,(x26,(x27,(x28,(x29,x30))))) =>
 bindO (billing_Next (x25,(x26,(x27,(x28,(x29,x30)))))) fun ((x32,(x33,(x34,(x35,(x36,(x37,(x38,(x39,(x40,x41))))))))),x42) =>
 bindO (dialtonelaw38_tariff ()) fun (x44,x45) =>
 bindO (billing_End ((x17,(x18,(x19,(x20,(x21,x22))))),((x44,x45),(((99:UInt8)::([]:List UInt8)),(4500:Int))))) fun ((x47,(x48,(x49,(x50,(x51,x52))))),x53) =>
 bindO (billing_Next (x47,(x48,(x49,(x50,(x51,x52)))))) fun ((x55,(x56,(x57,(x58,(x59,(x60,(x61,(x62,(x63,x64))))))))),x65) =>
 bindO (billing_Sync (x47,(x48,(x49,(x50,(x51,x52)))))) fun (x67,(x68,(x69,(x70,(x71,x72))))) =>
 bindO (billing_Next (x67,(x68,(x69,(x70,(x71,x72)))))) fun ((x74,(x75,(x76,(x77,(x78,(x79,(x80,(x81,(x82,x83))))))))),x84) =>
 bif (decide (x15=(0:Int))) then
 bif (decide (x23=(0:Int))) then
 bif (decide (x53=(0:Int))) then
 bif (!x42) then
 bif (!x65) then
 bif x84 then
 some ((decide (x74=((99:UInt8)::([]:List UInt8))))&&((decide (x75=((97:UInt8)::([]:List UInt8))))&&((decide (x76=((98:UInt8)::([]:List UInt8))))&&((decide (x77=(1000:Int)))&&((decide (x78=(2000:Int)))&&((decide (x79=(4500:Int)))&&((decide (x80=(1:Int)))&&((decide (x81=(3:Int)))&&((decide (x82=(3000:Int)))&&(x83==Bool.false))))))))))
 else
 some Bool.false
 else
 some Bool.false
 else
 some Bool.false
 else
 some Bool.false
 else
 some Bool.false
 else
 some Bool.false
noncomputable def cons9:List (Nat×CE):=[(10,ce10),(15,ce15),(20,ce20),(24,ce24),(26,ce26),(28,ce28),(31,ce31)]
theorem cons9_ok:ConL Try.prog cons9:=⟨con10,con15,con20,con24,con26,con28,con31,trivial⟩
noncomputable def ce9:CE:=⟨[],[(.tmp 0 false [dO])],dialtonelaw38_awake⟩
theorem con9:ConOk Try.prog 9 ce9 :=
 tree_ok (plan:=planOf plan9) (eg:=egNo) KK tabL_ok (conOf_ok cons9_ok) Try.func9 (by kernel_rfl) (by kernel_rfl) 10000 (fun a r h=>Eq.trans (show _=dialtonelaw38_awake a from by kernel_rfl) h)
def plan3:List (Nat×PL):=[(35253226045953,(.carry []))]
noncomputable def dialtonelaw38_BillingNotes:((LN×(Int×(Int×((List (LU×(LU×(LU×(Int×(Int×(Int×(Int×(Int×(Int×Bool))))))))))×(Int×Int)))))×(LU×(LU×(LU×(Int×(Int×(Int×(Int×(Int×(Int×Bool))))))))))→Option Bool:=fun ((a1,(a2,(a3,(a4,(a5,a6))))),(a7,(a8,(a9,(a10,(a11,(a12,(a13,(a14,(a15,a16)))))))))) =>
 bindO (dialtonelaw38_light (a1,(a2,(a3,(a4,(a5,a6)))))) fun x17 =>
 bif (!x17) then
 bindO (dialtonelaw38_awake ()) fun x18 =>
 some x18
 else
 bindO (billing_Begin ((a1,(a2,(a3,(a4,(a5,a6))))),(a7,(a8,(a9,(a10,(a11,(a12,(a13,(a14,(a15,a16))))))))))) fun ((x20,(x21,(x22,(x23,(x24,x25))))),x26) =>
 bindO (dialtoneref38_Begin ((a1,(a2,(a3,(a4,(a5,a6))))),(a7,(a8,(a9,(a10,(a11,(a12,(a13,(a14,(a15,a16))))))))))) fun ((x28,(x29,(x30,(x31,(x32,x33))))),x34) =>
 joinO (bindO (billing_Valid (a1,(a2,(a3,(a4,(a5,a6)))))) fun x35 =>
 bindO (dialtoneref38_Valid (a1,(a2,(a3,(a4,(a5,a6)))))) fun x36 =>
 bif (x35 != x36) then
 outO (some Bool.false)
 else
 bindO (dialtoneref38_Same ((x20,(x21,(x22,(x23,(x24,x25))))),(x28,(x29,(x30,(x31,(x32,x33))))))) fun x37 =>
 bif (!x37) then
 outO (some Bool.false)
 else
 bif (decide (x26≠x34)) then
 outO (some Bool.false)
 else
 some (Sum.inl ())) fun _ =>
 bindO (billing_Answer ((a1,(a2,(a3,(a4,(a5,a6))))),(a7,a10))) fun ((x39,(x40,(x41,(x42,(x43,x44))))),x45) =>
 bindO (dialtoneref38_Answer ((a1,(a2,(a3,(a4,(a5,a6))))),(a7,a10))) fun ((x47,(x48,(x49,(x50,(x51,x52))))),x53) =>
 bindO (dialtoneref38_Same ((x39,(x40,(x41,(x42,(x43,x44))))),(x47,(x48,(x49,(x50,(x51,x52))))))) fun x54 =>
 bif (!x54) then
 some Bool.false
 else
 bif (decide (x45≠x53)) then
 some Bool.false
 else
 bindO (billing_Mark ((a1,(a2,(a3,(a4,(a5,a6))))),(a7,a10))) fun ((x56,(x57,(x58,(x59,(x60,x61))))),x62) =>
 bindO (dialtoneref38_Mark ((a1,(a2,(a3,(a4,(a5,a6))))),(a7,a10))) fun ((x64,(x65,(x66,(x67,(x68,x69))))),x70) =>
 bindO (dialtoneref38_Same ((x56,(x57,(x58,(x59,(x60,x61))))),(x64,(x65,(x66,(x67,(x68,x69))))))) fun x71 =>
 bif x71 then
 bif (decide (x62=x70)) then
 bindO (dialtonelaw38_awake ()) fun x72 =>
 some x72
 else
 some Bool.false
 else
 some Bool.false
noncomputable def cons3:List (Nat×CE):=[(12,ce12),(10,ce10),(15,ce15),(17,ce17),(13,ce13),(11,ce11),(16,ce16),(18,ce18),(14,ce14),(8,ce8),(9,ce9)]
theorem cons3_ok:ConL Try.prog cons3:=⟨con12,con10,con15,con17,con13,con11,con16,con18,con14,con8,con9,trivial⟩
noncomputable def ce3:CE:=⟨[(.tmp 0 true [dY,dI,dI,(.dat (.list (.pair .str (.pair .str (.pair .str (.pair uI6 (.pair uI6 (.pair uI6 (.pair uI6 (.pair uI6 (.pair uI6 .bool))))))))))),dI,dI]),(.tmp 1 true [dS,dS,dS,dI,dI,dI,dI,dI,dI,dO])],[(.tmp 0 false [dO])],dialtonelaw38_BillingNotes⟩
theorem con3:ConOk Try.prog 3 ce3 :=
 tree_ok (plan:=planOf plan3) (eg:=egNo) KK tabL_ok (conOf_ok cons3_ok) Try.func3 (by kernel_rfl) (by kernel_rfl) 10000 (fun a r h=>Eq.trans (show _=dialtonelaw38_BillingNotes a from by kernel_rfl) h)
end Go.Proofs.Ytkpijdndakljjaa

set_option maxRecDepth 100000
set_option maxHeartbeats 4000000
namespace Go.Proofs.Ytkpijdndakljjaa
open Go.RowKit
def tr:List Ra:=[([],(0,(1,(1,[((127,(0,1440)),(1000,1000))]))))]
namespace Rt
theorem cs_one {l:List Pr1} {rc:Int} {mo:Nat→Int} (hl:l.length=1) (h:RVl l):∀ {n:Nat},(∀k,k<n+1→0≤mo k∧mo k≤4000000000000000000)→CU l rc mo (n+1)=rc+(l.getD 0 p0).2.1+(n:Int)*(l.getD 0 p0).2.2
 | 0,hm=>by
   obtain ⟨i,hi,e⟩:=(px_j h (hm 0 (by omega))).2.pos h
   obtain rfl:i=0:=by omega
   show rc+prc l (mo 0) 0=_
   unfold prc
   rw [if_pos rfl,e]
   show rc+(l.getD 0 p0).2.1=rc+(l.getD 0 p0).2.1+(0:Int)*_
   rw [Int.zero_mul];omega
 | n+1,hm=>by
   obtain ⟨i,hi,e⟩:=(px_j h (hm (n+1) (by omega))).2.pos h
   obtain rfl:i=0:=by omega
   show CU l rc mo (n+1)+prc l (mo (n+1)) (n+1)=_
   rw [cs_one hl h (fun k hk=>hm k (by omega))]
   unfold prc
   rw [if_neg (by omega),e,show ((n+1:Nat):Int)=(n:Int)+1 from rfl,Int.add_mul,Int.one_mul]
   show _+(l.getD 0 p0).2.2=_
   omega
theorem rv_tr:RV (tr.getD 0 r0):=by
 refine ⟨⟨by decide,by decide,by decide,by decide⟩,fun i hi => ?_,by decide,fun i hi => ?_,by decide⟩
 ·exact absurd hi (by simp [tr])
 ·obtain rfl:i=0:=by have:i<1:=hi;omega
  decide
theorem tv_tr:TV tr 0:=by
 refine ⟨by decide,fun i hi => ?_⟩
 obtain rfl:i=0:=by have:i<1:=hi;omega
 exact ⟨rv_tr,fun k hk=>by omega⟩
theorem find_tr (num:List UInt8):rating_Find ((tr,0),num)=some (0,true):=by
 obtain ⟨r,e1,_,h,_⟩:=find_same tr 0 num
 have k:FX tr num (((0:Nat):Int),true) := .inr ⟨0,by decide,rfl,by show Bg num [];simp [Bg],fun j hj _=>by
  obtain rfl:j=0:=by have:j<1:=hj;omega
  exact Nat.le_refl _⟩
 rw [e1,(h tv_tr).uniq tv_tr k];rfl
theorem cost_tr (num:List UInt8) {a b:Int} (hs:Spn a b) (h1:SE a b≤1000000):rating_Cost ((tr,0),(num,(a,b)))=some (1000*SE a b,0):=by
 rw [costP_v (i:=0) tv_tr hs h1 (by decide) (find_tr num)]
 have h0:=se_nn a b
 have e:CV (tr.getD 0 r0) 0 a (SE a b)=1000*SE a b:=by
  generalize SE a b=s at *
  unfold CV
  have hp:PN 0 (tr.getD 0 r0).2.2.1 (tr.getD 0 r0).2.2.2.1 s=s:=by
   show PN 0 1 1 s=s
   unfold PN
   split
   ·omega
   ·split<;>omega
  rw [hp]
  split
  ·omega
  ·obtain ⟨n,hn⟩:∃n:Nat,s.toNat=n+1:=⟨s.toNat-1,by omega⟩
   rw [hn,cs_one rfl rv_tr.2.2 (fun k hk=>by
    have:=mo_bd (a:=a) (f:=0) (fi:=1) (st:=1) ⟨hs.1,Int.le_trans hs.2.1 hs.2.2⟩ (by omega) (by omega) (by omega) (k:=k) (by omega)
    show 0≤MO a 0 1 1 k∧MO a 0 1 1 k≤4000000000000000000
    omega)]
   show (0:Int)+1000+(n:Int)*1000=1000*s
   omega
 rw [e]
end Rt
theorem tariff_j:dialtonelaw38_tariff ()=some (tr,0):=rfl
theorem VL1 {B:List Int} {s n l now:Int} {b:BL} (h1:0≤s∧s≤(B.length:Int)∧0≤n∧n≤1048576) (h2:0≤now∧now≤1099511627776) (h3:0≤l∧l≤1048576) (h4:BK now b) (h5:b.2.2.2.2.2.2.1=0∨(1≤b.2.2.2.2.2.2.1∧b.2.2.2.2.2.2.1≤l)):VL (B,(s,(n,([b],(l,now))))):=by
 refine ⟨h1,h2,h3,?_,fun i hi => ?_⟩
 ·have:=opn_le [b]
  simp at this
  show opn [b]≤256
  omega
 ·obtain rfl:i=0:=by have:i<1:=hi;omega
  refine ⟨h4,?_⟩
  by_cases hz:b.2.2.2.2.2.2.1=0
  ·exact .inl ⟨by show 0<opn [b];simp [opn,hz],fun h=>by omega⟩
  ·exact .inr ⟨Nat.le_trans (show opn [b]≤0 by simp [opn,hz]) (Nat.le_refl _),by
    rw [pv_lo (Nat.zero_le _)]
    show 0+1≤b.2.2.2.2.2.2.1∧b.2.2.2.2.2.2.1≤l
    omega⟩
theorem VL0:VL zG:=⟨by decide,by decide,by decide,by decide,fun i hi=>absurd hi (by simp [zG])⟩
def wA:BL:=([99],([97],([98],(1000,(0,(0,(0,(0,(0,false)))))))))
def wB:List Int:=[]++Jn.encB 0 1 (dB wA)
def w1:BL:=([99],([97],([98],(1000,(-1,(1000,(0,(0,(0,false)))))))))
def w2:BL:=([99],([97],([98],(1000,(2000,(2000,(0,(0,(0,false)))))))))
def w3:BL:=([99],([97],([98],(1000,(2000,(4500,(1,(3,(3000,false)))))))))
def wC:List Int:=wB++Jn.encB 1 2 (datL [2000] [[99]])
def wD:List Int:=wC++Jn.encB 2 4 (datL [4500,1,3,3000] [[99]])
theorem len1 (t:Int) (c:Tx):(datL [t] [c]).length=10+c.length:=by
 rw [datL_length]
 simp only [List.flatMap_cons,List.flatMap_nil,List.length_append,tB_len,List.length_cons,List.length_nil]
 omega
theorem wB_len:wB.length=31:=by
 unfold wB
 rw [List.nil_append,Jn.encB_length,dB,datL_length]
 simp [tB_len,wA]
theorem wC_len:wC.length=56:=by
 unfold wC
 rw [List.length_append,wB_len,Jn.encB_length,len1];rfl
theorem wD_len:wD.length=105:=by
 unfold wD
 rw [List.length_append,wC_len,Jn.encB_length,datL_length]
 simp [tB_len]
theorem bk1:BK 1000 w1:=⟨by decide,by decide,.inl rfl,by decide,.inl (by decide)⟩
theorem bk2:BK 2000 w2:=⟨by decide,by decide,.inr (by decide),by decide,.inl (by decide)⟩
theorem bk3:BK 4500 w3:=⟨by decide,by decide,.inr (by decide),by decide,.inr ⟨by decide,by decide,by decide,by decide⟩⟩
theorem answer_j (g:LG) (c:Tx) (t:Int) (hl:g.2.2.2.1.length≤1000000) (hB:g.1.length≤900000):billing_Answer (g,(c,t))=some (tchR g 2 c t):=by
 have h:=touch_j g 2 c t (.inl rfl) hl hB
 obtain ⟨a1,a2,a3,a4,a5,a6⟩:=g
 show bindO (billing_touch ((a1,(a2,(a3,(a4,(a5,a6))))),(2,(c,t)))) _=_
 rw [h];rfl
theorem mark_j (g:LG) (c:Tx) (t:Int) (hl:g.2.2.2.1.length≤1000000) (hB:g.1.length≤900000):billing_Mark (g,(c,t))=some (tchR g 3 c t):=by
 have h:=touch_j g 3 c t (.inr rfl) hl hB
 obtain ⟨a1,a2,a3,a4,a5,a6⟩:=g
 show bindO (billing_touch ((a1,(a2,(a3,(a4,(a5,a6))))),(3,(c,t)))) _=_
 rw [h];rfl
theorem wk_1:billing_Begin (zG,wA)=some ((wB,(0,(1,([w1],(0,1000))))),0):=by
 rw [begin_j zG wA (by decide) (by decide)]
 unfold begR
 rw [if_pos ⟨⟨VL0,by decide,by decide⟩,by decide⟩,if_neg (fun h=>absurd h.1 (by decide)),if_neg (by decide)]
 rfl
theorem fnd1 {b:BL} (h:b.2.2.2.2.2.2.1=0):Fnd b.1 [b]∧psn b.1 [b]=0:=by
 have h2:psn b.1 [b]=0:=by simp [psn,bl_irr]
 refine ⟨⟨?_,?_⟩,h2⟩
 ·rw [h2];simp [opn,h]
 ·rw [h2];rfl
theorem wk_2:billing_Answer ((wB,(0,(1,([w1],(0,1000))))),([99],2000))=some ((wC,(0,(2,([w2],(0,2000))))),0):=by
 have hv:VL (wB,(0,(1,([w1],(0,1000))))):=VL1 (by rw [wB_len];decide) (by decide) (by decide) bk1 (.inl rfl)
 rw [answer_j _ _ _ (by decide) (by show wB.length≤_;rw [wB_len];decide)]
 unfold tchR
 have hf:Fnd [99] [w1]∧psn [99] [w1]=0:=fnd1 (b:=w1) rfl
 rw [if_pos ⟨hv,by decide,by decide⟩]
 dsimp only
 rw [if_pos hf.1]
 have e0:psn ([99]:Tx) [w1]=0:=hf.2
 simp only [e0]
 rw [if_neg (fun h=>h.2 rfl),if_neg (by decide)]
 rfl
theorem wk_3:billing_Sync (wC,(0,(2,([w2],(0,2000)))))=some (wC,(56,(2,([w2],(0,2000))))):=by
 have hv:VL (wC,(0,(2,([w2],(0,2000))))):=VL1 (by rw [wC_len];decide) (by decide) (by decide) bk2 (.inl rfl)
 rw [sync_j _ (by decide) (by show wC.length≤_;rw [wC_len];decide)]
 unfold synR
 rw [if_pos hv]
 simp only [wC_len]
 rfl
theorem wk_4:billing_Next (wC,(56,(2,([w2],(0,2000)))))=some (b0,false):=by
 obtain ⟨r,h1,_,h3⟩:=next_j (wC,(56,(2,([w2],(0,2000))))) (by decide)
 rcases h3 with ⟨_,i,hi,hd,_⟩ | ⟨_,rfl⟩
 ·obtain rfl:i=0:=by have:i<1:=hi;omega
  exact (hd.1 rfl).elim
 ·exact h1
theorem co_w:coR tr 0 [98] 2000 4500=3000:=by
 unfold coR
 rw [Rt.cost_tr [98] (by decide) (by decide)]
 rfl
theorem wk_5:billing_End ((wC,(0,(2,([w2],(0,2000))))),((tr,0),([99],4500)))=some ((wD,(0,(3,([w3],(1,4500))))),0):=by
 have hv:VL (wC,(0,(2,([w2],(0,2000))))):=VL1 (by rw [wC_len];decide) (by decide) (by decide) bk2 (.inl rfl)
 rw [end_j _ _ _ _ _ (by decide) (by show wC.length≤_;rw [wC_len];decide)]
 unfold endR
 have hf:Fnd [99] [w2]∧psn [99] [w2]=0:=fnd1 (b:=w2) rfl
 rw [if_pos ⟨⟨hv,by decide,by decide⟩,Rt.tv_tr⟩]
 dsimp only
 rw [if_pos hf.1]
 have e0:psn ([99]:Tx) [w2]=0:=hf.2
 simp only [e0]
 have hse:Rt.SE 2000 4500=3:=by decide
 have hco:coR tr 0 w2.2.2.1 2000 4500=3000:=co_w
 unfold finR bsF laF dE nmF
 have eg:([w2]:List BL).getD 0 b0=w2:=rfl
 simp only [eg]
 rw [if_neg (by decide),if_pos (show w2.2.2.2.2.1 ≠ -1 by decide),if_pos (show w2.2.2.2.2.1 ≠ -1 by decide),if_pos (show w2.2.2.2.2.1 ≠ -1 by decide)]
 have ea:w2.2.2.2.2.1=2000:=rfl
 simp only [ea,hse,hco]
 rfl
theorem wk_6:billing_Next (wD,(0,(3,([w3],(1,4500)))))=some (b0,false):=by
 obtain ⟨r,h1,_,h3⟩:=next_j (wD,(0,(3,([w3],(1,4500))))) (by decide)
 rcases h3 with ⟨h,_⟩ | ⟨_,rfl⟩
 ·have h2:(0:Int)=(wD.length:Int):=h.2
  rw [wD_len] at h2
  omega
 ·exact h1
theorem wk_7:billing_Sync (wD,(0,(3,([w3],(1,4500)))))=some (wD,(105,(3,([w3],(1,4500))))):=by
 have hv:VL (wD,(0,(3,([w3],(1,4500))))):=VL1 (by rw [wD_len];decide) (by decide) (by decide) bk3 (.inr (by decide))
 rw [sync_j _ (by decide) (by show wD.length≤_;rw [wD_len];decide)]
 unfold synR
 rw [if_pos hv]
 simp only [wD_len]
 rfl
theorem wk_8:billing_Next (wD,(105,(3,([w3],(1,4500)))))=some (w3,true):=by
 have hv:VL (wD,(105,(3,([w3],(1,4500))))):=VL1 (by rw [wD_len];decide) (by decide) (by decide) bk3 (.inr (by decide))
 obtain ⟨r,h1,_,h3⟩:=next_j (wD,(105,(3,([w3],(1,4500))))) (by decide)
 rcases h3 with ⟨_,i,hi,_,_,rfl⟩ | ⟨hno,_⟩
 ·obtain rfl:i=0:=by have:i<1:=hi;omega
  exact h1
 ·exact (hno ⟨⟨hv,by show (105:Int)=(wD.length:Int);rw [wD_len];rfl⟩,0,by decide,by decide,rfl⟩).elim
theorem awake_j:dialtonelaw38_awake ()=some true:=by
 unfold dialtonelaw38_awake
 have h0:billing_New ()=some zG:=rfl
 have h1:=wk_1
 unfold zG wA at h1
 rw [h0]
 unfold zG
 simp only [↓SDl,SDr,h1,wk_2,wk_3,wk_4,tariff_j,wk_5,wk_6,wk_7,wk_8]
 rfl
end Go.Proofs.Ytkpijdndakljjaa

set_option maxRecDepth 100000
set_option maxHeartbeats 4000000
namespace Go.Proofs.Ytkpijdndakljjaa
open Go.RowKit
theorem ln_eq (g:LG) (b:BL):dialtonelaw38_BillingNotes (g,b) =
 bindO (dialtonelaw38_light g) fun x17 =>
 bif (!x17) then
  bindO (dialtonelaw38_awake ()) fun x18 =>
  some x18
 else
  bindO (billing_Begin (g,b)) fun ((x20,(x21,(x22,(x23,(x24,x25))))),x26) =>
  bindO (dialtoneref38_Begin (g,b)) fun ((x28,(x29,(x30,(x31,(x32,x33))))),x34) =>
  joinO (bindO (billing_Valid g) fun x35 =>
 bindO (dialtoneref38_Valid g) fun x36 =>
 bif (x35 != x36) then
 outO (some Bool.false)
 else
 bindO (dialtoneref38_Same ((x20,(x21,(x22,(x23,(x24,x25))))),(x28,(x29,(x30,(x31,(x32,x33))))))) fun x37 =>
 bif (!x37) then
 outO (some Bool.false)
 else
 bif (decide (x26≠x34)) then
 outO (some Bool.false)
 else
 some (Sum.inl ())) fun _ =>
  bindO (billing_Answer (g,(b.1,b.2.2.2.1))) fun ((x39,(x40,(x41,(x42,(x43,x44))))),x45) =>
  bindO (dialtoneref38_Answer (g,(b.1,b.2.2.2.1))) fun ((x47,(x48,(x49,(x50,(x51,x52))))),x53) =>
  bindO (dialtoneref38_Same ((x39,(x40,(x41,(x42,(x43,x44))))),(x47,(x48,(x49,(x50,(x51,x52))))))) fun x54 =>
  bif (!x54) then
   some Bool.false
  else
   bif (decide (x45≠x53)) then
    some Bool.false
   else
    bindO (billing_Mark (g,(b.1,b.2.2.2.1))) fun ((x56,(x57,(x58,(x59,(x60,x61))))),x62) =>
    bindO (dialtoneref38_Mark (g,(b.1,b.2.2.2.1))) fun ((x64,(x65,(x66,(x67,(x68,x69))))),x70) =>
    bindO (dialtoneref38_Same ((x56,(x57,(x58,(x59,(x60,x61))))),(x64,(x65,(x66,(x67,(x68,x69))))))) fun x71 =>
    bif x71 then
     bif (decide (x62=x70)) then
      bindO (dialtonelaw38_awake ()) fun x72 =>
      some x72
     else
      some Bool.false
    else
     some Bool.false:=rfl
theorem light_b {β:Type} (g:LG) (f:Bool→Option β):bindO (dialtonelaw38_light g) f=f (decide (g.2.2.2.1.length≤600∧g.1.length≤100000)):=by
 obtain ⟨a1,a2,a3,a4,a5,a6⟩:=g
 unfold dialtonelaw38_light
 by_cases h:a4.length≤600
 ·simp (disch:=(first | omega | (simp only [LNl];omega))) only [↓SDl,SDr,if_pos]
  congr 1
  rw [decide_eq_decide];omega
 ·simp (disch:=(first | omega | (simp only [LNl];omega))) only [↓SDl,SDr,if_neg]
  congr 1
  rw [eq_comm,decide_eq_false_iff_not];omega
theorem insB_len (l:List BL) (b:BL):(insB l b).length≤l.length+1:=by
 unfold insB
 simp only [List.length_append,List.length_take,List.length_drop,List.length_cons,List.length_nil]
 omega
theorem begR_len (g:LG) (b:BL):(begR g b).1.2.2.2.1.length≤g.2.2.2.1.length+1:=by
 unfold begR
 split
 ·split
  ·exact Nat.zero_le _
  ·split
   ·exact Nat.zero_le _
   ·exact insB_len _ _
 ·exact Nat.zero_le _
theorem tchR_len (g:LG) (k:Int) (c:Tx) (t:Int):(tchR g k c t).1.2.2.2.1.length≤g.2.2.2.1.length:=by
 unfold tchR
 split
 ·split
  ·split
   ·exact Nat.zero_le _
   ·split
    ·exact Nat.zero_le _
    ·simp
  ·exact Nat.zero_le _
 ·exact Nat.zero_le _
theorem notes_j (g:LG) (b:BL):dialtonelaw38_BillingNotes (g,b)=some true:=by
 rw [ln_eq]
 by_cases h:g.2.2.2.1.length≤600∧g.1.length≤100000
 ·have hl:g.2.2.2.1.length≤1000000:=by omega
  have hB:g.1.length≤900000:=by omega
  have e1:=begin_j g b hl hB
  have e2:=beginR_j g b hl hB
  have l1:=begR_len g b
  have e3:=answer_j g b.1 b.2.2.2.1 hl hB
  have e4:=(touchR_j g 2 b.1 b.2.2.2.1 (.inl rfl) hl hB).1 rfl
  have l3:=tchR_len g 2 b.1 b.2.2.2.1
  have e5:=mark_j g b.1 b.2.2.2.1 hl hB
  have e6:=(touchR_j g 3 b.1 b.2.2.2.1 (.inr rfl) hl hB).2 rfl
  have l5:=tchR_len g 3 b.1 b.2.2.2.1
  have hv:=(va_j g hl).tf
  have hvR:=(vr_j g hl).tf
  generalize begR g b=r1 at *
  generalize tchR g 2 b.1 b.2.2.2.1=r2 at *
  generalize tchR g 3 b.1 b.2.2.2.1=r3 at *
  obtain ⟨⟨p1,p2,p3,p4,p5,p6⟩,p7⟩:=r1
  obtain ⟨⟨q1,q2,q3,q4,q5,q6⟩,q7⟩:=r2
  obtain ⟨⟨s1,s2,s3,s4,s5,s6⟩,s7⟩:=r3
  simp only at l1 l3 l5
  have m1:=same_refl (p1,(p2,(p3,(p4,(p5,p6))))) (show p4.length≤1000000 by omega)
  have m2:=same_refl (q1,(q2,(q3,(q4,(q5,q6))))) (show q4.length≤1000000 by omega)
  have m3:=same_refl (s1,(s2,(s3,(s4,(s5,s6))))) (show s4.length≤1000000 by omega)
  simp only [↓SDl,SDr,↓light_b,if_pos h,e1,e2,hv,hvR,bne_self_eq_false,m1,ne_eq,not_true_eq_false,decide_false,e3,e4,m2,e5,e6,m3,decide_true,awake_j]
 ·simp only [↓SDl,SDr,↓light_b,if_neg h,awake_j]
theorem notes_main (a:LG×BL) (_:WfIs [(.tmp 0 true [(.dat (.list (.int .u8))),(.dat (.int .i64)),(.dat (.int .i64)),(.dat (.list UBl)),(.dat (.int .i64)),(.dat (.int .i64))]),(.tmp 1 true [(.dat .str),(.dat .str),(.dat .str),(.dat (.int .i64)),(.dat (.int .i64)),(.dat (.int .i64)),(.dat (.int .i64)),(.dat (.int .i64)),(.dat (.int .i64)),(.dat .bool)])] a):dialtonelaw38_BillingNotes a=some true:=notes_j a.1 a.2
end Go.Proofs.Ytkpijdndakljjaa
