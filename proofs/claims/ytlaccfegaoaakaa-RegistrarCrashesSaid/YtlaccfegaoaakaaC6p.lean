import Derived.Test.YtlaccfegaoaakaaC3p
import Derived.Test.YtlaccfegaoaakaaB4p
import Derived.Test.YtlaccfegaoaakaaXBp
import Derived.Test.YtlaccfegaoaakaaLp
set_option linter.unusedSectionVars false
set_option linter.unusedSimpArgs false
set_option linter.unusedVariables false
set_option maxRecDepth 100000
set_option maxHeartbeats 2000000
namespace Go.Proofs.Ytlaccfegaoaakaa
open Go.RowKit
theorem out_len (c:Cf) (l:List Bnd) (now num:Int) (r:Rg9):(OutB c l now num r).length≤l.length+(rCs r).length:=by
 unfold OutB keptB newB
 rw [List.length_append,List.length_map]
 have h1:=List.length_filter_le (fun b=>tf (KeepB r now b)) l
 have h2:=List.length_filter_le (fun x=>decide (expy c r x≠0)) (rCs r)
 omega
theorem out_path {c:Cf} {l:List Bnd} {now num:Int} {r:Rg9} {N:Nat} (hp:∀b∈l,b.2.2.2.2.2.2.2.2.2.length≤N) (hr:r.2.2.2.2.2.2.2.2.length≤N):∀b∈OutB c l now num r,b.2.2.2.2.2.2.2.2.2.length≤N:=fun b hb=>by
 unfold OutB keptB newB at hb
 rcases List.mem_append.1 hb with h | h
 ·exact hp b (List.mem_filter.1 h).1
 ·obtain ⟨x,_,rfl⟩:=List.mem_map.1 h
  exact hr
theorem updP_j (c:Cf) (l:List Bnd) (now num:Int) (r:Rg9) (hl:l.length≤10000) (hp:∀b∈l,b.2.2.2.2.2.2.2.2.2.length≤1000):registrar_Update (c,(l,(now,(num,r))))=some (UPD c l now num r):=by
 rw [up_eq,vc_j c,bindO_some]
 unfold UPD
 by_cases hv:VC c
 ·rw [tf_t hv,Bool.not_true,cond_false,fm_j r,bindO_some]
  by_cases hf:FMr r
  ·rw [tf_t hf,Bool.not_true,cond_false]
   by_cases h1:0≤now
   ·by_cases h2:now≤1099511627776
    ·by_cases h3:0≤num
     ·have hc:=fm_cs hf
      rw [tf_t (show VC c∧FMr r∧0≤now∧now≤1099511627776∧0≤num from ⟨hv,hf,h1,h2,h3⟩)]
      have hA:loopO (upA l now r) (0,(false,[]))=some (.inl (tf (∃j,j<l.length∧StaleB r now (l.getD j dB)),keptB r now l):(Bool×List Bnd) ⊕ (List Bnd×Int)):=upA_j l now r (by omega) (by omega)
      have lK:(keptB r now l).length≤l.length:=List.length_filter_le _ _
      simp (disch:=(first | omega | (simp only [LNl];omega))) only [↓SDl,SDr,if_pos,if_neg,hA]
      by_cases hs:∃j,j<l.length∧StaleB r now (l.getD j dB)
      ·rw [tf_t hs,cond_true,cond_true]
      ·rw [tf_f hs,cond_false,cond_false]
       rcases upB_j c now num r hv hf ⟨h1,h2⟩ (keptB r now l) (by omega) with ⟨g1,g2⟩ | ⟨g1,g2⟩
       ·rw [tf_t (show ∃i,i<(rCs r).length∧0<expy c r ((rCs r).getD i c0)∧expy c r ((rCs r).getD i c0)<c.1 from g1),cond_true]
        simp (disch:=(first | omega | (simp only [LNl];omega))) only [↓SDl,SDr,if_pos,if_neg,g2]
       ·rw [tf_f (show ¬ ∃i,i<(rCs r).length∧0<expy c r ((rCs r).getD i c0)∧expy c r ((rCs r).getD i c0)<c.1 from g1),cond_false]
        have hO:keptB r now l++newB c now num r (rCs r)=OutB c l now num r:=rfl
        rw [hO] at g2
        have lO:=out_len c l now num r
        have pO:=out_path (c:=c) (now:=now) (num:=num) hp (show r.2.2.2.2.2.2.2.2.length≤1000 by omega)
        generalize OutB c l now num r=O at g2 lO pO ⊢
        have hC:loopO (upC O r) (0,0)=some (.inl ((O.filter fun b=>decide (b.1=r.1)).length:Int):Int ⊕ (List Bnd×Int)):=upC_j O r (by omega)
        have hco:=co_j O (by omega) (fun b hb=>by have:=pO b hb;omega)
        generalize ((O.filter fun b=>decide (b.1=r.1)).length:Int)=m at hC ⊢
        simp (disch:=(first | omega | (simp only [LNl];omega))) only [↓SDl,SDr,if_pos,if_neg,g2,hC]
        by_cases hm:c.2.2.2<m
        ·rw [tf_t hm,cond_true,if_pos hm]
        ·rw [tf_f hm,cond_false,if_neg hm]
         simp (disch:=(first | omega | (simp only [LNl];omega))) only [↓SDl,SDr,if_pos,if_neg,hco]
     ·rw [tf_f (show ¬(VC c∧FMr r∧0≤now∧now≤1099511627776∧0≤num) from fun h=>h3 h.2.2.2.2)]
      simp (disch:=(first | omega | (simp only [LNl];omega))) only [↓SDl,SDr,if_pos,if_neg]
    ·rw [tf_f (show ¬(VC c∧FMr r∧0≤now∧now≤1099511627776∧0≤num) from fun h=>h2 h.2.2.2.1)]
     simp (disch:=(first | omega | (simp only [LNl];omega))) only [↓SDl,SDr,if_pos,if_neg]
   ·rw [tf_f (show ¬(VC c∧FMr r∧0≤now∧now≤1099511627776∧0≤num) from fun h=>h1 h.2.2.1)]
    simp (disch:=(first | omega | (simp only [LNl];omega))) only [↓SDl,SDr,if_pos,if_neg]
  ·rw [tf_f (show ¬(VC c∧FMr r∧0≤now∧now≤1099511627776∧0≤num) from fun h=>hf h.2.1),tf_f hf]
   simp (disch:=(first | omega | (simp only [LNl];omega))) only [↓SDl,SDr,if_pos,if_neg]
 ·rw [tf_f (show ¬(VC c∧FMr r∧0≤now∧now≤1099511627776∧0≤num) from fun h=>hv h.1),tf_f hv]
  simp (disch:=(first | omega | (simp only [LNl];omega))) only [↓SDl,SDr,if_pos,if_neg]
section
variable (l:List Bnd) (now:Int) (r:Rg9) (hl:l.length≤100000) (hr:(rCs r).length≤1000)
include hl hr
end
section
variable (c:Cf) (now num:Int) (r:Rg9) (hf:FMr r) (hv:VC c) (hn0:0≤now∧now≤1099511627776)
include hf
include hv hn0
end
end Go.Proofs.Ytlaccfegaoaakaa

set_option maxRecDepth 100000
set_option maxHeartbeats 2000000
namespace Go.Proofs.Ytlaccfegaoaakaa
open Go.RowKit
theorem bl_irr:∀a:Tx,Op.bytesLess a a=false
 | []=>rfl
 | x::a=>by rw [Op.bytesLess,bl_irr a];simp
theorem bl_cons {x y:UInt8} {a b:Tx}:Op.bytesLess (x::a) (y::b)=true↔x.toNat<y.toNat∨(x=y∧Op.bytesLess a b=true):=by
 rw [Op.bytesLess]
 simp [UInt8.lt_iff_toNat_lt]
theorem bl_tr:∀ {a b c:Tx},Op.bytesLess a b=true→Op.bytesLess b c=true→Op.bytesLess a c=true
 | _,_,[],_,h=>by cases ‹Tx› <;> simp [Op.bytesLess] at h
 | _,[],_::_,h,_=>by cases ‹Tx› <;> simp [Op.bytesLess] at h
 | [],_::_,_::_,_,_=>rfl
 | x::a,y::b,z::c,h,k=>by
   rw [bl_cons] at h k ⊢
   rcases h with h | ⟨rfl,h⟩<;>rcases k with k | ⟨rfl,k⟩
   ·exact .inl (by omega)
   ·exact .inl h
   ·exact .inl k
   ·exact .inr ⟨rfl,bl_tr h k⟩
theorem bl_tri:∀(a b:Tx),Op.bytesLess a b=true∨Op.bytesLess b a=true∨a=b
 | [],[] => .inr (.inr rfl)
 | [],_::_ => .inl rfl
 | _::_,[] => .inr (.inl rfl)
 | x::a,y::b=>by
   rw [bl_cons,bl_cons]
   rcases Nat.lt_trichotomy x.toNat y.toNat with h | h | h
   ·exact .inl (.inl h)
   ·have e:x=y:=UInt8.toNat_inj.1 h
    subst e
    rcases bl_tri a b with g | g | g
    ·exact .inl (.inr ⟨rfl,g⟩)
    ·exact .inr (.inl (.inr ⟨rfl,g⟩))
    ·exact .inr (.inr (by rw [g]))
   ·exact .inr (.inl (.inl h))
def cmpI (a b:Int):Int:=if a<b then -1 else if b<a then 1 else 0
theorem cmp_j (a b:Int):cmp_Compare_int (a,b)=some (cmpI a b):=by
 unfold cmp_Compare_int cmpI
 by_cases h1:a<b
 ·simp [h1]
 ·by_cases h2:a > b
  ·have h3:b<a:=h2
   simp [h1,h2,h3]
  ·have h3:¬b<a:=h2
   simp [h1,h2,h3]
def cmpS (a b:Tx):Int:=bif Op.bytesLess a b then -1 else if a=b then 0 else 1
theorem cmpS_j (a b:Tx):cmp_Compare_string (a,b)=some (cmpS a b):=by
 unfold cmp_Compare_string cmpS
 simp only [ne_eq,not_true_eq_false,decide_false,cond_false]
 cases h:Op.bytesLess a b with
 | true=>rfl
 | false =>
   by_cases e:a=b
   ·subst e;simp
   ·simp [e]
theorem or_j {δ:Type} (a b c:Int):(joinO (loopO (k3B (δ:=δ) a b c) (0:Int)) fun _=>(some (Sum.inl (0:Int)):Option (Int ⊕ δ)))=some (.inl (if a≠0 then a else if b≠0 then b else c)):=by
 by_cases h1:a=0
 ·have s0:k3B (δ:=δ) a b c (((0:Nat):Int))=some (.inl (((0+1:Nat):Int))):=by subst h1;rfl
  by_cases h2:b=0
  ·have s1:k3B (δ:=δ) a b c (((1:Nat):Int))=some (.inl (((1+1:Nat):Int))):=by subst h2;rfl
   by_cases h3:c=0
   ·have s2:k3B (δ:=δ) a b c (((2:Nat):Int))=some (.inl (((2+1:Nat):Int))):=by subst h3;rfl
    have hl:loopO (k3B (δ:=δ) a b c) (0:Int)=some (.inl ()):=loopO_from (fun i=>((i:Nat):Int)) 3 rfl (fun i hi=>by
     have:i=0∨i=1∨i=2:=by omega
     rcases this with rfl | rfl | rfl
     ·exact s0
     ·exact s1
     ·exact s2) rfl
    rw [hl,joinO_inl,h1,h2,h3];rfl
   ·have hl:loopO (k3B (δ:=δ) a b c) (0:Int)=some (.inr (.inl c)):=loopO_from (fun i=>((i:Nat):Int)) 2 rfl (fun i hi=>by
     have:i=0∨i=1:=by omega
     rcases this with rfl | rfl
     ·exact s0
     ·exact s1) (by
      have e:k3B (δ:=δ) a b c (((2:Nat):Int))=bif decide (c≠0) then outO (outO (some (.inl c))) else some (.inl 3):=rfl
      rw [e,decide_eq_true h3];rfl)
    rw [hl,joinO_inr,h1,h2];simp
  ·have hl:loopO (k3B (δ:=δ) a b c) (0:Int)=some (.inr (.inl b)):=loopO_from (fun i=>((i:Nat):Int)) 1 rfl (fun i hi=>by
    have:i=0:=by omega
    subst this;exact s0) (by
     have e:k3B (δ:=δ) a b c (((1:Nat):Int))=bif decide (b≠0) then outO (outO (some (.inl b))) else some (.inl 2):=rfl
     rw [e,decide_eq_true h2];rfl)
   rw [hl,joinO_inr,h1];simp [h2]
 ·have hl:loopO (k3B (δ:=δ) a b c) (0:Int)=some (.inr (.inl a)):=loopO_from (fun i=>((i:Nat):Int)) 0 rfl (fun i hi=>absurd hi (by omega)) (by
   have e:k3B (δ:=δ) a b c (((0:Nat):Int))=bif decide (a≠0) then outO (outO (some (.inl a))) else some (.inl 1):=rfl
   rw [e,decide_eq_true h1];rfl)
  rw [hl,joinO_inr];simp [h1]
def bef (a b:Bnd):Prop:=b.2.2.1<a.2.2.1∨(a.2.2.1=b.2.2.1∧(b.2.2.2.2.1<a.2.2.2.2.1∨(a.2.2.2.2.1=b.2.2.2.2.1∧Op.bytesLess a.2.1 b.2.1=true)))
def kb (a b:Bnd):Int:=if cmpI b.2.2.1 a.2.2.1≠0 then cmpI b.2.2.1 a.2.2.1 else if cmpI b.2.2.2.2.1 a.2.2.2.2.1≠0 then cmpI b.2.2.2.2.1 a.2.2.2.2.1 else cmpS a.2.1 b.2.1
theorem kb_lt (a b:Bnd):kb a b<0↔bef a b:=by
 unfold kb bef cmpI cmpS
 cases Op.bytesLess a.2.1 b.2.1<;>(repeat' split)<;>simp at * <;> omega
theorem kb_j (a b:Bnd):registrar_Lookup_1 (a,b)=some (kb a b):=by
 rw [k3_eq,cmp_j,bindO_some,cmp_j,bindO_some,cmpS_j,bindO_some]
 rw [or_j,joinO_inl]
 rfl
theorem bef_asym {a b:Bnd} (h:bef a b):¬bef b a:=by
 unfold bef at *
 rcases h with h | ⟨h1,h | ⟨h2,h3⟩⟩<;>rintro (k | ⟨k1,k | ⟨k2,k3⟩⟩)<;>try omega
 have:=bl_tr h3 k3
 rw [bl_irr] at this
 cases this
theorem bef_trans {a b c:Bnd} (h:bef a b) (k:bef b c):bef a c:=by
 unfold bef at *
 rcases h with h | ⟨h1,h | ⟨h2,h3⟩⟩<;>rcases k with k | ⟨k1,k | ⟨k2,k3⟩⟩
 ·exact .inl (by omega)
 ·exact .inl (by omega)
 ·exact .inl (by omega)
 ·exact .inl (by omega)
 ·exact .inr ⟨by omega,.inl (by omega)⟩
 ·exact .inr ⟨by omega,.inl (by omega)⟩
 ·exact .inl (by omega)
 ·exact .inr ⟨by omega,.inl (by omega)⟩
 ·exact .inr ⟨by omega,.inr ⟨by omega,bl_tr h3 k3⟩⟩
def KeyE (a b:Bnd):Prop:=a.2.2.1=b.2.2.1∧a.2.2.2.2.1=b.2.2.2.2.1∧a.2.1=b.2.1
theorem bef_tri (a b:Bnd):bef a b∨bef b a∨KeyE a b:=by
 unfold bef KeyE
 rcases Int.lt_trichotomy a.2.2.1 b.2.2.1 with h | h | h
 ·exact .inr (.inl (.inl h))
 ·rcases Int.lt_trichotomy a.2.2.2.2.1 b.2.2.2.2.1 with k | k | k
  ·exact .inr (.inl (.inr ⟨h.symm,.inl k⟩))
  ·rcases bl_tri a.2.1 b.2.1 with g | g | g
   ·exact .inl (.inr ⟨h,.inr ⟨k,g⟩⟩)
   ·exact .inr (.inl (.inr ⟨h.symm,.inr ⟨k.symm,g⟩⟩))
   ·exact .inr (.inr ⟨h,k,g⟩)
  ·exact .inl (.inr ⟨h,.inl k⟩)
 ·exact .inl (.inl h)
theorem bef_tr {p q r:Bnd} (h:¬bef q p) (k:¬bef r q):¬bef r p:=fun g=>by
 rcases bef_tri p q with a | a | ⟨a1,a2,a3⟩
 ·exact k (bef_trans g a)
 ·exact h a
 ·refine k ?_
  unfold bef at g ⊢
  rw [←a1,←a2,←a3]
  exact g
def liveB (l:List Bnd) (now:Int) (aor:Tx):List Bnd:=l.filter fun b=>decide (b.1=aor∧now<b.2.2.2.1)
theorem luB_j {δ:Type} (l:List Bnd) (now:Int) (aor:Tx) (hl:l.length≤100000):loopO (luB (δ:=δ) l now aor) (0,[])=some (.inl (liveB l now aor)):=by
 have fin:loopO (luB (δ:=δ) l now aor) (0,liveB (l.take 0) now aor)=some (.inl (liveB l now aor)):=by
  refine loopO_from (fun i=>((i:Int),liveB (l.take i) now aor)) l.length rfl (fun i hi => ?_) ?_
  ·obtain ⟨x,hx,hxb⟩:=get_at dB hi
   have hn:((i:Int)+1)=((i+1:Nat):Int):=rfl
   have e1:liveB (l.take (i+1)) now aor=if decide (x.1=aor∧now<x.2.2.2.1)=true then liveB (l.take i) now aor++[x] else liveB (l.take i) now aor:=by
    unfold liveB;rw [filter_snoc l dB _ hi,hx]
   have lN:(liveB (l.take i) now aor).length≤i:=Nat.le_trans (List.length_filter_le _ _) (by rw [List.length_take];omega)
   rw [e1]
   generalize liveB (l.take i) now aor=N at lN ⊢
   unfold luB
   by_cases a1:x.1=aor
   ·by_cases a2:now<x.2.2.2.1
    ·rw [decide_eq_true (show x.1=aor∧now<x.2.2.2.1 from ⟨a1,a2⟩)]
     simp (disch:=(first | omega | (simp only [LNl];omega))) only [↓SDl,SDr,if_pos,if_neg,↓hxb,a1,wrap_i64',hn]
    ·rw [decide_eq_false (fun h=>a2 h.2)]
     simp (disch:=(first | omega | (simp only [LNl];omega))) only [↓SDl,SDr,if_pos,if_neg,↓hxb,a1,wrap_i64',hn,Bool.false_eq_true]
   ·rw [decide_eq_false (fun h=>a1 h.1)]
    simp (disch:=(first | omega | (simp only [LNl];omega))) only [↓SDl,SDr,if_pos,if_neg,↓hxb,a1,wrap_i64',hn,Bool.false_eq_true]
  ·have lN:(liveB l now aor).length≤l.length:=List.length_filter_le _ _
   simp only [List.take_length]
   unfold luB
   simp (disch:=(first | omega | (simp only [LNl];omega))) only [↓SDl,SDr,if_neg]
 exact fin
theorem live_len (l:List Bnd) (now:Int) (aor:Tx):(liveB l now aor).length≤(l.filter fun b=>decide (b.1=aor)).length:=by
 unfold liveB
 have:l.filter (fun b=>decide (b.1=aor∧now<b.2.2.2.1))=(l.filter fun b=>decide (b.1=aor)).filter fun b=>decide (now<b.2.2.2.1):=by
  rw [List.filter_filter]
  refine List.filter_congr fun b _ => ?_
  simp [Bool.and_comm]
 rw [this]
 exact List.length_filter_le _ _
theorem lookP_j (l:List Bnd) (now:Int) (aor:Tx) (hl:l.length≤10000) (hc:(l.filter fun b=>decide (b.1=aor)).length≤200) (hp:∀b∈l,b.2.2.2.2.2.2.2.2.2.length≤1000) :
 ∃Z,registrar_Lookup (l,(now,aor))=some Z∧Z.Perm (liveB l now aor)∧Srt bef Z:=by
 have lL:=live_len l now aor
 obtain ⟨Z,z1,z2,z3⟩:=sort_spec (V:=fun _=>True) (c:=kb) (fun x y _ _=>kb_j x y)
  ⟨fun x y _ _ h=>by rw [kb_lt] at h ⊢;exact bef_asym h,fun x y z _ _ _ h k=>by rw [kb_lt] at h k ⊢;exact bef_tr h k⟩ (liveB l now aor) (by omega) (fun _ _=>trivial)
 have lZ:Z.length=(liveB l now aor).length:=z2.length_eq
 refine ⟨Z,?_,z2,z3.imp fun {x y} h k=>h ((kb_lt _ _).2 k)⟩
 have hco:=co_j Z (by omega) (fun b hb=>by
  have:=hp b (List.mem_filter.1 (z2.mem_iff.1 hb)).1
  omega)
 have hA:=fun δ=>luB_j (δ:=δ) l now aor (by omega)
 generalize liveB l now aor=L at hA lL z1 lZ
 rw [lu_eq]
 refine joinO_eq (a:=L) (hA _) ?_
 simp (disch:=(first | omega | (simp only [LNl];omega))) only [↓SDl,SDr,if_pos,if_neg,z1]
 rw [show List.take L.length Z=Z from List.take_of_length_le (by omega)]
 simp (disch:=(first | omega | (simp only [LNl];omega))) only [↓SDl,SDr,if_pos,if_neg,hco]
def KeyNe (a b:Bnd):Prop:=a.1=b.1→¬(a.2.2.2.2.1=b.2.2.2.2.1∧a.2.1=b.2.1)
theorem KeyNe.symm {a b:Bnd} (h:KeyNe a b):KeyNe b a:=fun e ⟨h1,h2⟩=>h e.symm ⟨h1.symm,h2.symm⟩
end Go.Proofs.Ytlaccfegaoaakaa

namespace Go.Proofs.Ytlaccfegaoaakaa.Jn
open Go.RowKit
def crcBit (v:BitVec 32):BitVec 32:=if v.toNat % 2=1 then (v >>> 1) ^^^ 3988292384#32 else v >>> 1
def itB:Nat→BitVec 32→BitVec 32
 | 0,v=>v
 | n+1,v=>crcBit (itB n v)
def crcB (c:BitVec 32) (x:Int):BitVec 32:=itB 8 (c ^^^ BitVec.ofInt 32 x)
def crcV (l:List Int):BitVec 32:=l.foldl crcB 4294967295#32
def crc (l:List Int):Int:=(((crcV l ^^^ 4294967295#32).toNat:Nat):Int)
theorem bvI (v:BitVec 32):BitVec.ofInt 32 ((v.toNat:Nat):Int)=v:=by
 rw [BitVec.ofInt_natCast,BitVec.ofNat_toNat,BitVec.setWidth_eq]
theorem wrBV (v:BitVec 32):IntKind.wrap .u32 ((v.toNat:Nat):Int)=((v.toNat:Nat):Int):=by
 rw [wr_u32]
 have:=v.isLt
 omega
theorem wrHalf (v:BitVec 32):IntKind.wrap .u32 (Int.tdiv ((v.toNat:Nat):Int) 2)=(((v >>> 1).toNat:Nat):Int):=by
 rw [wr_u32,BitVec.toNat_ushiftRight,Nat.shiftRight_eq_div_pow,Int.tdiv_eq_ediv_of_nonneg (by omega)]
 have:=v.isLt
 omega
theorem and1 (v:BitVec 32):(v &&& 1#32).toNat=v.toNat % 2:=by
 rw [BitVec.toNat_and]
 show v.toNat &&& 1=_
 rw [Nat.and_one_is_mod]
theorem foldl_take {α β:Type} (f:β→α→β) (b:β) (l:List α) {i:Nat} (h:i<l.length):(l.take (i+1)).foldl f b=f ((l.take i).foldl f b) l[i]:=by
 rw [List.take_add_one,List.getElem?_eq_getElem h,List.foldl_append];rfl
theorem check_j (l:List Int) (h:Bytes l) (hl:l.length≤9223372036854775806):journal_Check l=some (crc l):=by
 unfold journal_Check
 refine joinO_eq (a:=(((crcV l).toNat:Nat):Int)) (loopO_from (fun i=>((i:Int),((((l.take i).foldl crcB 4294967295#32).toNat:Nat):Int))) l.length rfl ?_ ?_) ?_
 ·intro i hi
  simp only [bindO_some,bindO_none,joinO_inl,joinO_inr,joinO_none,outO_some,outO_none,cond_ite,List.take_length,Nat.le_refl,if_true,Nat.mul_one,Int.mul_one,cond_true,cond_false]
  rw [if_pos (by omega)]
  refine joinO_eq (a:=((((l.take (i+1)).foldl crcB 4294967295#32).toNat:Nat):Int)) ?_ ?_
  ·rw [if_pos (by omega),get_nat hi]
   generalize hc:(l.take i).foldl crcB 4294967295#32=c
   have hx:=h.get hi
   have e0:BitVec.ofInt 32 (IntKind.wrap .u32 l[i])=BitVec.ofInt 32 l[i]:=by
    rw [wr_u32];congr 1;omega
   refine loopO_from (fun j=>((j:Int),(((itB j (c ^^^ BitVec.ofInt 32 l[i])).toNat:Nat):Int))) 8 ?_ ?_ ?_
   ·show ((0:Int),(((c ^^^ BitVec.ofInt 32 l[i]).toNat:Nat):Int))=_
    rw [e0,bvI,wrBV]
   ·intro j hj
    show _=some (Sum.inl (((j+1:Nat):Int),(((crcBit (itB j (c ^^^ BitVec.ofInt 32 l[i]))).toNat:Nat):Int)))
    generalize itB j (c ^^^ BitVec.ofInt 32 l[i])=v at *
    simp only [bindO_some,bindO_none,joinO_inl,joinO_inr,joinO_none,outO_some,outO_none,cond_ite,List.take_length,Nat.le_refl,if_true,Nat.mul_one,Int.mul_one,cond_true,cond_false]
    rw [if_pos (by omega),wrap_i64' (by omega)]
    simp only [wrHalf,bvI,wrBV]
    rw [show BitVec.ofInt 32 1=1#32 from rfl,and1]
    unfold crcBit
    by_cases hb:v.toNat % 2=1
    ·rw [if_pos (by omega),if_pos hb];rfl
    ·rw [if_neg (by omega),if_neg hb];rfl
   ·simp only [bindO_some,bindO_none,joinO_inl,joinO_inr,joinO_none,outO_some,outO_none,cond_ite,List.take_length,Nat.le_refl,if_true,Nat.mul_one,Int.mul_one,cond_true,cond_false]
    rw [if_neg (by omega),foldl_take crcB _ l hi,hc]
    rfl
  ·rw [wrap_i64' (by omega)];rfl
 ·simp only [bindO_some,bindO_none,joinO_inl,joinO_inr,joinO_none,outO_some,outO_none,cond_ite,List.take_length,Nat.le_refl,if_true,Nat.mul_one,Int.mul_one,cond_true,cond_false]
  rw [if_neg (by omega)]
  rfl
 ·simp only [bvI]
  rw [show BitVec.ofInt 32 4294967295=4294967295#32 from rfl,wrBV,BitVec.xor_comm];rfl
theorem crc_bnd (l:List Int):0≤crc l∧crc l<4294967296:=by
 unfold crc
 have:=(crcV l ^^^ 4294967295#32).isLt
 omega
end Go.Proofs.Ytlaccfegaoaakaa.Jn

namespace Go.Proofs.Ytlaccfegaoaakaa.Jn
open Go.RowKit
def be:Nat→Int→List Int
 | 0,_=>[]
 | k+1,n=>be k (n / 256)++[n % 256]
theorem be_length:∀(k:Nat) (n:Int),(be k n).length=k
 | 0,_=>rfl
 | k+1,n=>by rw [be,List.length_append,be_length k];rfl
theorem be_cons:∀(k:Nat) (n:Int),be (k+1) n=(n / 256 ^ k % 256)::be k n
 | 0,n=>by simp [be]
 | k+1,n=>by
   rw [be,be_cons k,be,List.cons_append]
   congr 2
   rw [Int.pow_succ,Int.mul_comm,←Int.ediv_ediv_of_nonneg (by omega)]
theorem be_bytes:∀(k:Nat) (n:Int),Bytes (be k n)
 | 0,_=>fun x hx=>by cases hx
 | k+1,n=>by
   rw [be]
   refine (be_bytes k _).app fun x hx => ?_
   rw [List.mem_singleton] at hx
   omega
theorem wloop {β:Type} {body:Int×List Int→Option ((Int×List Int) ⊕ β)} (v:Int) (size:Nat) (b:List Int) (fin:List Int→β) {x:Int×List Int} (hx:x=((size:Int)-1,b))
 (h1:∀(i:Nat) (c:List Int),i<size→c.length≤b.length+size→body ((i:Int),c)=some (.inl ((i:Int)-1,c++[v / 256 ^ i % 256]))) (h2:∀c,body (-1,c)=some (.inr (fin c))):loopO body x=some (fin (b++be size v)):=by
 have key:∀(n:Nat) (c:List Int),n≤size→c.length+n=b.length+size→loopO body ((n:Int)-1,c)=some (fin (c++be n v)):=by
  intro n
  induction n with
  | zero=>intro c _ _;rw [loopO_eq,show (((0:Nat):Int)-1) = -1 from rfl,h2];simp [be]
  | succ n ih =>
    intro c hn hc
    rw [loopO_eq,show (((n+1:Nat):Int)-1)=((n:Nat):Int) from by omega,h1 n c (by omega) (by omega)]
    simp only
    rw [ih _ (by omega) (by rw [List.length_append];simp;omega),be_cons,List.append_assoc]
    rfl
 rw [hx]
 exact key size b (Nat.le_refl _) rfl
theorem fdiv256 (v:Int) (i:Nat) (hi:i<4):Int.fdiv v ((2:Int) ^ (Min.min (Int.toNat (8*(i:Int))) 32))=v / 256 ^ i:=by
 rw [Int.fdiv_eq_ediv_of_nonneg _ (Int.pow_nonneg (by omega))]
 rcases (by omega:i=0∨i=1∨i=2∨i=3) with rfl | rfl | rfl | rfl<;>rfl
def flds (fs:List (Int×Int)):List Int:=fs.flatMap fun f=>be f.2.toNat f.1
def headB (n k s:Int):List Int:=[167,k]++(be 4 n++(be 2 s++be 2 (65535-s)))
def preB (n k:Int) (d:List Int):List Int:=headB n k d.length++d
def encB (n k:Int) (d:List Int):List Int:=preB n k d++be 4 (crc (preB n k d))
def encS (n k:Int) (d:List Int):List Int×Int:=if n<0 then ([],3) else if n > 1048575 then ([],3) else if (d.length:Int) > 4096 then ([],4) else (encB n k d,0)
theorem headB_length (n k s:Int):(headB n k s).length=10:=by simp [headB,be_length]
theorem headB_bytes {n k s:Int} (hk:0≤k∧k≤255):Bytes (headB n k s):=by
 refine Bytes.app (fun x hx => ?_) ((be_bytes _ _).app ((be_bytes _ _).app (be_bytes _ _)))
 simp only [List.mem_cons,List.not_mem_nil,or_false] at hx
 omega
theorem preB_bytes {n k:Int} {d:List Int} (hk:0≤k∧k≤255) (hd:Bytes d):Bytes (preB n k d):=(headB_bytes hk).app hd
theorem preB_length (n k:Int) (d:List Int):(preB n k d).length=10+d.length:=by rw [preB,List.length_append,headB_length]
theorem flds5 (n k s:Int) (hk:0≤k∧k≤255):flds [(167,1),(k,1),(n,4),(s,2),(65535-s,2)]=headB n k s:=by
 have h1:be 1 167=[167]:=rfl
 have h2:be 1 k=[k]:=by simp [be];omega
 simp only [flds,List.flatMap_cons,List.flatMap_nil,List.append_nil]
 show be 1 167++(be 1 k++(be 4 n++(be 2 s++be 2 (65535-s))))=_
 rw [h1,h2];rfl
theorem floop {β:Type} {body:Int×List Int→Option ((Int×List Int) ⊕ β)} (fs:List (Int×Int)) (b:List Int) (fin:List Int→β) {x:Int×List Int} (hx:x=(0,b))
 (h1:∀(i:Nat) (c:List Int) (hi:i<fs.length),c.length≤b.length+40→body ((i:Int),c)=some (.inl ((i:Int)+1,c++be fs[i].2.toNat fs[i].1))) (h2:∀c,body ((fs.length:Int),c)=some (.inr (fin c))) (h3:(flds fs).length≤40):loopO body x=some (fin (b++flds fs)):=by
 have hle:∀i,(flds (fs.take i)).length≤(flds fs).length:=fun i=>by
  conv=>rhs;rw [←List.take_append_drop i fs]
  unfold flds
  rw [List.flatMap_append,List.length_append];omega
 refine loopO_from (fun i=>((i:Int),b++flds (fs.take i))) fs.length ?_ ?_ ?_
 ·rw [hx];simp [flds]
 ·intro i hi
  rw [h1 i _ hi (by rw [List.length_append];have:=hle i;omega),List.take_add_one,List.getElem?_eq_getElem hi]
  unfold flds
  rw [List.flatMap_append,←List.append_assoc]
  simp
 ·simp only [List.take_length]
  exact h2 _
end Go.Proofs.Ytlaccfegaoaakaa.Jn

namespace Go.Proofs.Ytlaccfegaoaakaa.Jn
open Go.RowKit
theorem encode_j (n k:Int) (d:List Int) (hn:n≤9223372036854775807) (hk:0≤k∧k≤255) (hd:Bytes d):journal_Encode (n,(k,d))=some (encS n k d):=by
 unfold journal_Encode encS
 simp only [bindO_some,bindO_none,joinO_inl,joinO_inr,joinO_none,outO_some,outO_none,cond_ite,List.take_length,Nat.le_refl,if_true,Nat.mul_one,Int.mul_one,cond_true,cond_false]
 by_cases h1:n<0
 ·rw [if_pos h1,if_pos h1]
 by_cases h2:n > 1048575
 ·rw [if_neg h1,if_pos (by omega),if_neg h1,if_pos h2]
 by_cases h3:(d.length:Int) > 4096
 ·rw [if_neg h1,if_neg (by omega),if_pos h3,if_neg h1,if_neg h2,if_pos h3]
 rw [if_neg h1,if_neg (by omega),if_neg h3,if_neg h1,if_neg h2,if_neg h3]
 have ws:∀z:Int,0≤z→z≤4294967295→IntKind.wrap .u32 z=z:=fun z a b=>by rw [wr_u32];omega
 rw [ws k (by omega) (by omega),ws n (by omega) (by omega),ws (d.length:Int) (by omega) (by omega),wrap_i64' (n:=65535-(d.length:Int)) (by omega),ws (65535-(d.length:Int)) (by omega) (by omega)]
 refine joinO_eq (a:=headB n k d.length) ?_ ?_
 ·refine joinO_eq (a:=headB n k d.length) ?_ rfl
  rw [←flds5 n k d.length hk]
  obtain ⟨L,hL⟩:∃L:List (Int×Int),L=[(167,1),(k,1),(n,4),((d.length:Int),2),(65535-(d.length:Int),2)]:=⟨_,rfl⟩
  have hlen:L.length=5:=by rw [hL];rfl
  have hsz:∀(i:Nat) (hi:i<L.length),1≤L[i].2∧L[i].2≤4:=fun i hi=>by
   subst hL
   rcases (by omega:i=0∨i=1∨i=2∨i=3∨i=4) with rfl | rfl | rfl | rfl | rfl<;>exact ⟨by simp,by simp⟩
  have hfl:(flds L).length≤40:=by rw [hL,flds5 n k d.length hk,headB_length];omega
  rw [←hL]
  refine floop L [] Sum.inl rfl ?_ ?_ hfl
  ·intro i c hi hc
   have hz:=hsz i hi
   have hc40:c.length≤40:=hc
   simp only [bindO_some,bindO_none,joinO_inl,joinO_inr,joinO_none,outO_some,outO_none,cond_ite,List.take_length,Nat.le_refl,if_true,Nat.mul_one,Int.mul_one,cond_true,cond_false]
   rw [if_pos (by omega)]
   refine joinO_eq (a:=c++be L[i].2.toNat L[i].1) ?_ ?_
   ·rw [if_pos (by omega),get_nat hi]
    refine wloop L[i].1 L[i].2.toNat c Sum.inl ?_ ?_ ?_
    ·rw [wrap_i64' (by omega)]
     congr 1;omega
    ·intro j b hj hb
     simp only [bindO_some,bindO_none,joinO_inl,joinO_inr,joinO_none,outO_some,outO_none,cond_ite,List.take_length,Nat.le_refl,if_true,Nat.mul_one,Int.mul_one,cond_true,cond_false]
     rw [if_pos (by omega),wrap_i64' (n:=8*(j:Int)) (by omega),if_pos (by omega),fdiv256 _ j (by omega),wr_u8,if_pos (by rw [List.length_append];simp;omega),wrap_i64' (by omega)]
    ·intro b
     simp only [bindO_some,bindO_none,joinO_inl,joinO_inr,joinO_none,outO_some,outO_none,cond_ite,List.take_length,Nat.le_refl,if_true,Nat.mul_one,Int.mul_one,cond_true,cond_false]
     rw [if_neg (by omega)]
   ·rw [wrap_i64' (by omega)]
  ·intro c
   simp only [bindO_some,bindO_none,joinO_inl,joinO_inr,joinO_none,outO_some,outO_none,cond_ite,List.take_length,Nat.le_refl,if_true,Nat.mul_one,Int.mul_one,cond_true,cond_false]
   rw [if_neg (by omega)]
 ·rw [show headB n k (d.length:Int)++d=preB n k d from rfl,if_pos (by rw [preB_length];omega)]
  refine bindO_eq (check_j _ (preB_bytes hk hd) (by rw [preB_length];omega)) ?_
  have hcb:=crc_bnd (preB n k d)
  generalize hP:preB n k d=B at *
  have hB:B.length≤5000:=by rw [←hP,preB_length];omega
  refine joinO_eq (a:=B++be 4 (crc B)) ?_ ?_
  ·refine joinO_eq (a:=B++be 4 (crc B)) ?_ rfl
   have e1:flds [(crc B,4)]=be 4 (crc B):=by simp only [flds,List.flatMap_cons,List.flatMap_nil,List.append_nil];rfl
   rw [←e1]
   refine floop [(crc B,4)] B Sum.inl rfl ?_ ?_ ?_
   ·intro i c hi hc
    have hi1:i<1:=hi
    have hi0:i=0:=by omega
    subst hi0
    simp only [bindO_some,bindO_none,joinO_inl,joinO_inr,joinO_none,outO_some,outO_none,cond_ite,List.take_length,Nat.le_refl,if_true,Nat.mul_one,Int.mul_one,cond_true,cond_false]
    rw [if_pos (by omega)]
    refine joinO_eq (a:=c++be 4 (crc B)) ?_ ?_
    ·rw [if_pos (by omega)]
     refine bindO_eq rfl ?_
     refine wloop (crc B) 4 c Sum.inl rfl ?_ ?_
     ·intro j b hj hb
      have hj4:j<4:=hj
      simp only [bindO_some,bindO_none,joinO_inl,joinO_inr,joinO_none,outO_some,outO_none,cond_ite,List.take_length,Nat.le_refl,if_true,Nat.mul_one,Int.mul_one,cond_true,cond_false]
      rw [if_pos (by omega),wrap_i64' (n:=8*(j:Int)) (by omega),if_pos (by omega),fdiv256 _ j (by omega),wr_u8,if_pos (by rw [List.length_append];simp;omega),wrap_i64' (by omega)]
     ·intro b
      simp only [bindO_some,bindO_none,joinO_inl,joinO_inr,joinO_none,outO_some,outO_none,cond_ite,List.take_length,Nat.le_refl,if_true,Nat.mul_one,Int.mul_one,cond_true,cond_false]
      rw [if_neg (by omega)]
    ·rw [wrap_i64' (by omega)];rfl
   ·intro c
    simp only [bindO_some,bindO_none,joinO_inl,joinO_inr,joinO_none,outO_some,outO_none,cond_ite,List.take_length,Nat.le_refl,if_true,Nat.mul_one,Int.mul_one,cond_true,cond_false]
    rw [if_neg (by simp)]
   ·rw [e1,be_length];omega
  ·rw [encB,hP]
end Go.Proofs.Ytlaccfegaoaakaa.Jn

namespace Go.Proofs.Ytlaccfegaoaakaa.Jn
open Go.RowKit
def wantL (n:Int):List Int:=[167,0]++be 4 n
theorem wantL_length (n:Int):(wantL n).length=6:=by simp [wantL,be_length]
def BadAt (b:List Int) (n:Int) (i:Nat):Prop :=
 i<b.length∧((i<6∧i≠1∧b.getD i 0≠(wantL n).getD i 0)∨(i=8∧b.getD 8 0≠255-b.getD 6 0)∨(i=9∧b.getD 9 0≠255-b.getD 7 0))
def Wrong (b:List Int) (n:Int):Prop:=(8≤b.length∧256*b.getD 6 0+b.getD 7 0 > 4096)∨∃i,i<10∧BadAt b n i
end Go.Proofs.Ytlaccfegaoaakaa.Jn

namespace Go.Proofs.Ytlaccfegaoaakaa.Jn
open Go.RowKit
theorem headB_want (n s:Int):headB n 0 s=wantL n++(be 2 s++be 2 (65535-s)):=by simp [headB,wantL]
theorem headB_getD (n s:Int) {i:Nat} (hi:i<6):(headB n 0 s).getD i 0=(wantL n).getD i 0:=by
 rw [headB_want,List.getD_eq_getElem?_getD,List.getElem?_append_left (by rw [wantL_length];exact hi),←List.getD_eq_getElem?_getD]
theorem fields_loop {β:Type} {body:Int×List Int→Option ((Int×List Int) ⊕ (List Int ⊕ β))} (L:List (Int×Int)) (m:Int) (hm:m=(L.length:Int)) (hsz:∀(i:Nat) (hi:i<L.length),1≤L[i].2∧L[i].2≤4) (hfl:(flds L).length≤40) (hL:L.length≤40) (B:List Int) (hB:B.length≤1000000)
 (hbody:∀x,body x=(if x.1<m then joinO (if 0≤x.1∧x.1<m then bindO L[x.1.toNat]? fun f=>loopO (fun y=>if y.1≥0 then if 0≤IntKind.wrap .i64 (8*y.1) then if (y.2++[IntKind.wrap .u8 (Int.fdiv f.1 (2 ^ Min.min (Int.toNat (IntKind.wrap .i64 (8*y.1))) 32))]).length≤140737488355328 then some (Sum.inl (IntKind.wrap .i64 (y.1-1),y.2++[IntKind.wrap .u8 (Int.fdiv f.1 (2 ^ Min.min (Int.toNat (IntKind.wrap .i64 (8*y.1))) 32))])) else none else none else some (Sum.inr (Sum.inl y.2))) (IntKind.wrap .i64 (f.2-1),x.2) else none) (fun v=>some (Sum.inl (IntKind.wrap .i64 (x.1+1),v))) else some (Sum.inr (Sum.inl x.2)))):loopO body (0,B)=some (Sum.inl (B++flds L)):=by
 refine floop L B Sum.inl rfl ?_ ?_ hfl
 ·intro i c hi hc
  have hz:=hsz i hi
  rw [hbody]
  simp only [bindO_some,bindO_none,joinO_inl,joinO_inr,joinO_none,outO_some,outO_none,cond_ite,List.take_length,Nat.le_refl,if_true,Nat.mul_one,Int.mul_one,cond_true,cond_false]
  rw [if_pos (by omega)]
  refine joinO_eq (a:=c++be L[i].2.toNat L[i].1) ?_ ?_
  ·rw [if_pos (by omega),get_nat hi]
   refine wloop L[i].1 L[i].2.toNat c Sum.inl ?_ ?_ ?_
   ·rw [wrap_i64' (by omega)]
    congr 1;omega
   ·intro j b hj hb
    simp only [bindO_some,bindO_none,joinO_inl,joinO_inr,joinO_none,outO_some,outO_none,cond_ite,List.take_length,Nat.le_refl,if_true,Nat.mul_one,Int.mul_one,cond_true,cond_false]
    rw [if_pos (by omega),wrap_i64' (n:=8*(j:Int)) (by omega),if_pos (by omega),fdiv256 _ j (by omega),wr_u8,if_pos (by rw [List.length_append];simp;omega),wrap_i64' (by omega)]
   ·intro b
    simp only [bindO_some,bindO_none,joinO_inl,joinO_inr,joinO_none,outO_some,outO_none,cond_ite,List.take_length,Nat.le_refl,if_true,Nat.mul_one,Int.mul_one,cond_true,cond_false]
    rw [if_neg (by omega)]
  ·rw [wrap_i64' (by omega)]
 ·intro c
  rw [hbody]
  simp only [bindO_some,bindO_none,joinO_inl,joinO_inr,joinO_none,outO_some,outO_none,cond_ite,List.take_length,Nat.le_refl,if_true,Nat.mul_one,Int.mul_one,cond_true,cond_false]
  rw [if_neg (by omega)]
theorem fld5_ok (n k s:Int) (i:Nat) (hi:i<[((167:Int),(1:Int)),(k,1),(n,4),(s,2),(65535-s,2)].length):1≤[((167:Int),(1:Int)),(k,1),(n,4),(s,2),(65535-s,2)][i].2∧[((167:Int),(1:Int)),(k,1),(n,4),(s,2),(65535-s,2)][i].2≤4:=by
 have hi5:i<5:=hi
 rcases (by omega:i=0∨i=1∨i=2∨i=3∨i=4) with rfl | rfl | rfl | rfl | rfl<;>exact ⟨by simp,by simp⟩
set_option maxHeartbeats 4000000 in
theorem begins_j (b:List Int) (n:Int) (hb:Bytes b) (hl:b.length≤9223372036854775806) (hn:0≤n∧n<1048576):∃r,journal_begins (b,n)=some r∧(r=false↔Wrong b n):=by
 unfold journal_begins
 have hx:∀i,0≤b.getD i 0∧b.getD i 0≤255:=fun i=>hb.getD i
 have x6:=hx 6
 have x7:=hx 7
 have g:∀i,i<b.length→b[i]? = some (b.getD i 0):=fun i hi=>get_D' 0 hi
 by_cases hbig:8≤b.length∧256*b.getD 6 0+b.getD 7 0 > 4096
 ·refine ⟨false,joinO_eqr ?_,iff_of_true rfl (.inl hbig)⟩
  obtain ⟨h8,h9⟩:=hbig
  simp (disch:=omega) only [bindO_some,bindO_none,joinO_inl,joinO_inr,joinO_none,outO_some,outO_none,cond_ite,List.take_length,Nat.le_refl,if_true,Nat.mul_one,Int.mul_one,cond_true,cond_false,if_pos,if_neg,g,or_bytes]
 ·obtain ⟨s,hs,h1⟩:∃s:Int,(0≤s∧s≤4096)∧(bif (decide ((((List.length b):Nat):Int)≥(8:Int))) then
 bif (decide (((0:Int)≤(6:Int))∧((6:Int)<(((List.length b):Nat):Int)))) then
 bindO b[6]? fun x3 =>
 bif (decide (((0:Int)≤(7:Int))∧((7:Int)<(((List.length b):Nat):Int)))) then
 bindO b[7]? fun x6 =>
 bindO (some (Go.IntKind.wrap .i64 (((BitVec.toNat ((BitVec.ofInt 64 (Go.IntKind.wrap .i64 ((Go.IntKind.wrap .i64 x3)*(256:Int)))) ||| (BitVec.ofInt 64 (Go.IntKind.wrap .i64 x6)))):Nat):Int))) fun x8 =>
 bif (decide (x8 > (4096:Int))) then
 outO (some Bool.false)
 else
 some (Sum.inl x8)
 else none
 else none
 else
 some (Sum.inl (0:Int)))=some (Sum.inl s):=by
   by_cases h8:8≤b.length
   ·refine ⟨256*b.getD 6 0+b.getD 7 0,by omega,?_⟩
    simp (disch:=omega) only [bindO_some,bindO_none,joinO_inl,joinO_inr,joinO_none,outO_some,outO_none,cond_ite,List.take_length,Nat.le_refl,if_true,Nat.mul_one,Int.mul_one,cond_true,cond_false,if_pos,if_neg,g,or_bytes]
   ·refine ⟨0,by omega,?_⟩
    simp (disch:=omega) only [bindO_some,bindO_none,joinO_inl,joinO_inr,joinO_none,outO_some,outO_none,cond_ite,List.take_length,Nat.le_refl,if_true,Nat.mul_one,Int.mul_one,cond_true,cond_false,if_pos,if_neg]
  suffices hg:∃r,(joinO (some (Sum.inl s)) _:Option Bool)=some r∧(r=false↔Wrong b n) by
   obtain ⟨r,hr,h2⟩:=hg
   exact ⟨r,by rw [←h1] at hr;exact hr,h2⟩
  rw [joinO_inl]
  have ws:∀z:Int,0≤z→z≤4294967295→IntKind.wrap .u32 z=z:=fun z a b=>by rw [wr_u32];omega
  rw [ws n (by omega) (by omega),ws s (by omega) (by omega),wrap_i64' (n:=65535-s) (by omega),ws (65535-s) (by omega) (by omega)]
  have hF:(flds [(167,1),(0,1),(n,4),(s,2),(65535-s,2)])=headB n 0 s:=flds5 n 0 s (by omega)
  simp only [bindO_some,bindO_none,joinO_inl,joinO_inr,joinO_none,outO_some,outO_none,cond_ite,List.take_length,Nat.le_refl,if_true,Nat.mul_one,Int.mul_one,cond_true,cond_false]
  have hloop:=fields_loop (β:=List Int ⊕ Bool) [(167,1),(0,1),(n,4),(s,2),(65535-s,2)] 5 rfl (fld5_ok n 0 s) (by rw [hF,headB_length];omega) (by simp) [] (by simp) (fun _=>rfl)
  rw [hloop]
  simp only [bindO_some,bindO_none,joinO_inl,joinO_inr,joinO_none,outO_some,outO_none,cond_ite,List.take_length,Nat.le_refl,if_true,Nat.mul_one,Int.mul_one,cond_true,cond_false]
  rw [hF]
  simp only [List.nil_append]
  have hbytes:=headB_bytes (n:=n) (k:=0) (s:=s) (by omega)
  have hHl:=headB_length n 0 s
  have hminA:∀z:Int,minA z 10=if 10<z then 10 else z:=fun z=>rfl
  refine loopO_searchJ (fun o:Option Bool=>∃r,o=some r∧(r=false↔Wrong b n)) (fun i=>(i:Int)) (min b.length 10) (BadAt b n) (.inl ()) (.inr false) rfl ?_ ?_ ?_ ?_ ?_
  ·intro i hi hbad
   have hlt:(i:Int)<minA (b.length:Int) 10:=by rw [hminA];split<;>omega
   have hnext:IntKind.wrap .i64 ((i:Int)+1)=((i+1:Nat):Int):=by rw [wrap_i64' (by omega)];omega
   rw [if_pos hlt,hnext]
   by_cases i1:i=1∨i=6∨i=7
   ·rcases i1 with rfl | rfl | rfl<;>rfl
   have e1:(if (i:Int)=1 then (some (Sum.inl true):Option (Bool ⊕ (Int ⊕ (Unit ⊕ Bool)))) else if (i:Int)=6 then some (Sum.inl true) else some (Sum.inl (decide ((i:Int)=7))))=some (Sum.inl false):=by
    rw [if_neg (by omega),if_neg (by omega),decide_eq_false (by omega)]
   have hd:=hx i
   by_cases i8:i=8∨i=9
   ·have hd2:=hx (i-2)
    have hbad':¬(b.getD i 0≠255-b.getD (i-2) 0):=fun h=>hbad ⟨by omega,by rcases i8 with rfl | rfl;exact .inr (.inl ⟨rfl,h⟩);exact .inr (.inr ⟨rfl,h⟩)⟩
    have e2:IntKind.wrap .i64 ((i:Int)-2)=((i-2:Nat):Int):=by rw [wrap_i64' (by omega)];omega
    have e3:(if (i:Int)=8 then (some (Sum.inl true):Option (Bool ⊕ (Int ⊕ (Unit ⊕ Bool)))) else some (Sum.inl (decide ((i:Int)=9))))=some (Sum.inl true):=by rcases i8 with rfl | rfl<;>rfl
    simp (disch:=omega) only [bindO_some,bindO_none,joinO_inl,joinO_inr,joinO_none,outO_some,outO_none,cond_ite,List.take_length,Nat.le_refl,if_true,Nat.mul_one,Int.mul_one,cond_true,cond_false,e1,e2,e3,get_D (0:Int),wr_u8,if_pos]
    rw [if_neg (by omega)]
   ·have e3:(if (i:Int)=8 then (some (Sum.inl true):Option (Bool ⊕ (Int ⊕ (Unit ⊕ Bool)))) else some (Sum.inl (decide ((i:Int)=9))))=some (Sum.inl false):=by
     rw [if_neg (by omega),decide_eq_false (by omega)]
    have hbad':b.getD i 0=(wantL n).getD i 0:=Decidable.not_not.1 fun h=>hbad ⟨by omega,.inl ⟨by omega,by omega,h⟩⟩
    simp (disch:=omega) only [bindO_some,bindO_none,joinO_inl,joinO_inr,joinO_none,outO_some,outO_none,cond_ite,List.take_length,Nat.le_refl,if_true,Nat.mul_one,Int.mul_one,cond_true,cond_false,e1,e3,get_D (0:Int),if_pos,headB_getD n s (show i<6 by omega)]
    rw [if_neg (fun h=>h hbad')]
  ·intro i hi hbad
   have hlt:(i:Int)<minA (b.length:Int) 10:=by rw [hminA];split<;>omega
   have hnext:IntKind.wrap .i64 ((i:Int)+1)=((i+1:Nat):Int):=by rw [wrap_i64' (by omega)];omega
   rw [if_pos hlt,hnext]
   by_cases i1:i=1∨i=6∨i=7
   ·obtain ⟨_,hbd⟩:=hbad
    rcases hbd with ⟨_,_,_⟩ | ⟨_,_⟩ | ⟨_,_⟩<;>omega
   have e1:(if (i:Int)=1 then (some (Sum.inl true):Option (Bool ⊕ (Int ⊕ (Unit ⊕ Bool)))) else if (i:Int)=6 then some (Sum.inl true) else some (Sum.inl (decide ((i:Int)=7))))=some (Sum.inl false):=by
    rw [if_neg (by omega),if_neg (by omega),decide_eq_false (by omega)]
   have hd:=hx i
   obtain ⟨hlb,hbd⟩:=hbad
   by_cases i8:i=8∨i=9
   ·have hd2:=hx (i-2)
    have hbad':b.getD i 0≠255-b.getD (i-2) 0:=by
     rcases hbd with ⟨_,_,_⟩ | ⟨h,h'⟩ | ⟨h,h'⟩
     ·omega
     ·subst h;exact h'
     ·subst h;exact h'
    have e2:IntKind.wrap .i64 ((i:Int)-2)=((i-2:Nat):Int):=by rw [wrap_i64' (by omega)];omega
    have e3:(if (i:Int)=8 then (some (Sum.inl true):Option (Bool ⊕ (Int ⊕ (Unit ⊕ Bool)))) else some (Sum.inl (decide ((i:Int)=9))))=some (Sum.inl true):=by rcases i8 with rfl | rfl<;>rfl
    simp (disch:=omega) only [bindO_some,bindO_none,joinO_inl,joinO_inr,joinO_none,outO_some,outO_none,cond_ite,List.take_length,Nat.le_refl,if_true,Nat.mul_one,Int.mul_one,cond_true,cond_false,e1,e2,e3,get_D (0:Int),wr_u8,if_pos]
   ·have e3:(if (i:Int)=8 then (some (Sum.inl true):Option (Bool ⊕ (Int ⊕ (Unit ⊕ Bool)))) else some (Sum.inl (decide ((i:Int)=9))))=some (Sum.inl false):=by
     rw [if_neg (by omega),decide_eq_false (by omega)]
    have hbad':b.getD i 0≠(wantL n).getD i 0:=by
     rcases hbd with ⟨_,_,h⟩ | ⟨_,_⟩ | ⟨_,_⟩
     ·exact h
     ·omega
     ·omega
    simp (disch:=omega) only [bindO_some,bindO_none,joinO_inl,joinO_inr,joinO_none,outO_some,outO_none,cond_ite,List.take_length,Nat.le_refl,if_true,Nat.mul_one,Int.mul_one,cond_true,cond_false,e1,e3,get_D (0:Int),if_pos,headB_getD n s (show i<6 by omega)]
  ·rw [if_neg (by rw [hminA];split<;>omega)]
  ·rintro ⟨i,h1,h2⟩
   exact ⟨false,rfl,iff_of_true rfl (.inr ⟨i,by omega,h2⟩)⟩
  ·intro hno
   refine ⟨true,rfl,iff_of_false (by simp) ?_⟩
   rintro (h | ⟨i,h1,h2⟩)
   ·exact hbig h
   ·exact hno ⟨i,by have:=h2.1;omega,h2⟩
end Go.Proofs.Ytlaccfegaoaakaa.Jn

namespace Go.Proofs.Ytlaccfegaoaakaa.Jn
open Go.RowKit
def szB (b:List Int):Nat:=(256*b.getD 6 0+b.getD 7 0).toNat
open Classical in
noncomputable def oneS (b:List Int) (n:Nat):(Int×List Int)×(Int×Int) :=
 if n≥1048576∨Wrong b n then ((0,[]),(0,5)) else
 if b.length<14 then ((0,[]),(0,6)) else
 if b.length<14+szB b then ((0,[]),(0,6)) else
 if be 4 (crc (b.take (10+szB b)))=(b.drop (10+szB b)).take 4 then ((b.getD 1 0,(b.drop 10).take (szB b)),(((14+szB b:Nat):Int),0)) else ((0,[]),(0,11))
theorem szB_eq {b:List Int} (hb:Bytes b):((szB b:Nat):Int)=256*b.getD 6 0+b.getD 7 0:=by
 have:=hb.getD 6
 have:=hb.getD 7
 unfold szB;omega
theorem sz_le {b:List Int} {n:Int} (hb:Bytes b) (h:¬Wrong b n) (hl:8≤b.length):szB b≤4096:=by
 have:=szB_eq hb
 by_cases hh:256*b.getD 6 0+b.getD 7 0 > 4096
 ·exact (h (.inl ⟨hl,hh⟩)).elim
 ·omega
theorem getD_take {l:List Int} {i n:Nat} (h:i<n):(l.take n).getD i 0=l.getD i 0:=by
 rw [List.getD_eq_getElem?_getD,List.getElem?_take_of_lt h,List.getD_eq_getElem?_getD]
section
variable {b:List Int} {n:Nat}
theorem oneS_wrong (h:n≥1048576∨Wrong b n):oneS b n=((0,[]),(0,5)):=by unfold oneS;rw [if_pos h]
theorem oneS_short (h:¬(n≥1048576∨Wrong b n)) (k:b.length<14+szB b):oneS b n=((0,[]),(0,6)):=by
 unfold oneS
 rw [if_neg h]
 by_cases h14:b.length<14
 ·rw [if_pos h14]
 ·rw [if_neg h14,if_pos k]
theorem oneS_check (h:¬(n≥1048576∨Wrong b n)) (k:¬b.length<14+szB b) (c:¬be 4 (crc (b.take (10+szB b)))=(b.drop (10+szB b)).take 4):oneS b n=((0,[]),(0,11)):=by
 unfold oneS
 rw [if_neg h,if_neg (by omega),if_neg k,if_neg c]
theorem oneS_ok (h:¬(n≥1048576∨Wrong b n)) (k:¬b.length<14+szB b) (c:be 4 (crc (b.take (10+szB b)))=(b.drop (10+szB b)).take 4):oneS b n=((b.getD 1 0,(b.drop 10).take (szB b)),(((14+szB b:Nat):Int),0)):=by
 unfold oneS
 rw [if_neg h,if_neg (by omega),if_neg k,if_pos c]
end
end Go.Proofs.Ytlaccfegaoaakaa.Jn

namespace Go.Proofs.Ytlaccfegaoaakaa.Jn
open Go.RowKit
abbrev Recs:=List (Int×List Int)
noncomputable def scanB (b:List Int) (x:Recs×Int):Option ((Recs×Int) ⊕ (Recs×(Int×Int))) :=
 if x.2<(b.length:Int) then
 if (oneS (b.drop x.2.toNat) x.1.length).2.2≠0 then some (.inr (x.1,(x.2,(oneS (b.drop x.2.toNat) x.1.length).2.2)))
 else some (.inl (x.1++[(oneS (b.drop x.2.toNat) x.1.length).1],x.2+(oneS (b.drop x.2.toNat) x.1.length).2.1))
 else some (.inr (x.1,(x.2,0)))
def ScanI (b:List Int) (x:Recs×Int):Prop:=0≤x.2∧x.2≤(b.length:Int)∧14*(x.1.length:Int)≤x.2
theorem oneS_cases (b:List Int) (n:Nat):(oneS b n).2.2≠0∧(oneS b n).2.1=0∨((oneS b n).2.2=0∧(oneS b n).2.1=((14+szB b:Nat):Int)∧14+szB b≤b.length∧¬(n≥1048576∨Wrong b n)):=by
 by_cases h:n≥1048576∨Wrong b n
 ·rw [oneS_wrong h];exact .inl ⟨by decide,rfl⟩
 by_cases k:b.length<14+szB b
 ·rw [oneS_short h k];exact .inl ⟨by decide,rfl⟩
 by_cases c:be 4 (crc (b.take (10+szB b)))=(b.drop (10+szB b)).take 4
 ·rw [oneS_ok h k c];exact .inr ⟨rfl,rfl,by omega,h⟩
 ·rw [oneS_check h k c];exact .inl ⟨by decide,rfl⟩
theorem scanI_next {b:List Int} {x:Recs×Int} (h:ScanI b x) (hlt:x.2<(b.length:Int)) (he:(oneS (b.drop x.2.toNat) x.1.length).2.2=0):ScanI b (x.1++[(oneS (b.drop x.2.toNat) x.1.length).1],x.2+(oneS (b.drop x.2.toNat) x.1.length).2.1)∧x.2+14≤x.2+(oneS (b.drop x.2.toNat) x.1.length).2.1:=by
 obtain ⟨h1,h2,h3⟩:=h
 rcases oneS_cases (b.drop x.2.toNat) x.1.length with ⟨q,_⟩ | ⟨_,q2,q3,_⟩
 ·exact (q he).elim
 ·rw [List.length_drop] at q3
  refine ⟨⟨?_,?_,?_⟩,?_⟩
  ·show 0≤x.2+_;omega
  ·show x.2+_≤_;omega
  ·show 14*((x.1++[_]).length:Int)≤x.2+_
   rw [List.length_append,List.length_singleton];omega
  ·omega
theorem scan_out {b:List Int} {r:Recs×(Int×Int)} (hr:loopO (scanB b) ([],0)=some r):0≤r.2.1∧r.2.1≤(b.length:Int)∧14*(r.1.length:Int)≤r.2.1:=by
 have key:∀x r,LoopR (scanB b) x r→ScanI b x→0≤r.2.1∧r.2.1≤(b.length:Int)∧14*(r.1.length:Int)≤r.2.1:=by
  intro x r h
  induction h with
  | done hd =>
    intro hI
    unfold scanB at hd
    split at hd
    ·split at hd
     ·cases hd;exact hI
     ·cases hd
    ·cases hd;exact hI
  | step hd _ ih =>
    intro hI
    refine ih ?_
    unfold scanB at hd
    split at hd
    ·rename_i hlt
     split at hd
     ·cases hd
     ·rename_i he
      cases hd
      exact (scanI_next hI hlt (Decidable.not_not.1 he)).1
    ·cases hd
 exact key _ _ (loopO_iff.1 hr) ⟨by show (0:Int)≤0;omega,by show (0:Int)≤_;omega,by show (14*((0:Nat):Int))≤0;omega⟩
theorem fld1_ok (C:Int) (i:Nat) (hi:i<[(C,(4:Int))].length):1≤[(C,(4:Int))][i].2∧[(C,(4:Int))][i].2≤4:=by
 have h1:i<1:=hi
 have h0:i=0:=by omega
 subst h0
 exact ⟨by simp,by simp⟩
set_option maxHeartbeats 4000000 in
theorem scan_j (b:List Int) (hb:Bytes b) (hl:b.length≤1000000) {r:Recs×(Int×Int)} (hr:loopO (scanB b) ([],0)=some r):journal_Scan b=some r:=by
 unfold journal_Scan
 simp only [bindO_some,bindO_none,joinO_inl,joinO_inr,joinO_none,outO_some,outO_none,cond_ite,List.take_length,Nat.le_refl,if_true,Nat.mul_one,Int.mul_one,cond_true,cond_false,and_dec]
 refine loopO_simG (fun x y=>x=(y.1,(b,y.2))∧ScanI b y) ?_ (x:=([],(b,0))) ⟨rfl,by show (0:Int)≤0;omega,by show (0:Int)≤_;omega,by show (14*((0:Nat):Int))≤0;omega⟩ hr
 rintro x y ⟨rfl,hI⟩
 obtain ⟨i1,i2,i3⟩:=hI
 unfold scanB
 by_cases hlt:y.2<(b.length:Int)
 ·have hrest:List.take ((b.length:Int).toNat-y.2.toNat) (b.drop y.2.toNat)=b.drop y.2.toNat:=by
   rw [List.take_of_length_le];rw [List.length_drop];omega
  simp only
  rw [if_pos hlt,if_pos hlt,if_neg (by omega)]
  rw [hrest]
  have hnext:=scanI_next ⟨i1,i2,i3⟩ hlt
  generalize hB:b.drop y.2.toNat=B at *
  have hBb:Bytes B:=by rw [←hB];exact hb.drop _
  have hBl:(B.length:Int)=(b.length:Int)-y.2:=by rw [←hB,List.length_drop];omega
  refine SimS.join ((oneS B y.1.length).1,((oneS B y.1.length).2.2,(b,y.2+(oneS B y.1.length).2.1))) ?_ ?_
  ·rw [if_pos (by omega)]
   have hn:y.1.length<1048576:=by omega
   generalize hN:y.1.length=n at *
   obtain ⟨r,hr',hrw⟩:=begins_j B n hBb (by omega) (by omega)
   refine bindO_eq hr' ?_
   by_cases hw:Wrong B n
   ·rw [hrw.2 hw,oneS_wrong (.inr hw),Int.add_zero];rfl
   have hrt:r=true:=by cases r with | true=>rfl | false=>exact (hw (hrw.1 rfl)).elim
   have hnw:¬(n≥1048576∨Wrong B n):=by rintro (h | h);omega;exact hw h
   rw [hrt]
   simp only [Bool.not_true,cond_false]
   by_cases h10:B.length<10
   ·rw [if_pos (by omega),oneS_short hnw (by omega),Int.add_zero]
   rw [if_neg (by omega)]
   have hsz:=sz_le hBb hw (by omega)
   have hs:=szB_eq hBb
   have x6:=hBb.getD 6
   have x7:=hBb.getD 7
   have g6:B[6]? = some (B.getD 6 0):=get_D' 0 (by omega)
   have g7:B[7]? = some (B.getD 7 0):=get_D' 0 (by omega)
   have g1:B[1]? = some (B.getD 1 0):=get_D' 0 (by omega)
   rw [if_pos (by omega),g6,bindO_some,if_pos (by omega),g7,bindO_some,or_bytes x6 x7,←hs,wrap_i64' (n:=10+((szB B:Nat):Int)) (by omega),wrap_i64' (n:=10+((szB B:Nat):Int)+4) (by omega)]
   by_cases hlen:B.length<14+szB B
   ·rw [if_pos (by omega),oneS_short hnw hlen,Int.add_zero]
   rw [if_neg (by omega),if_pos (by omega),show (10+((szB B:Nat):Int)).toNat=10+szB B from by omega]
   refine bindO_eq (check_j _ (hBb.take _) (by rw [List.length_take];omega)) ?_
   have hcb:=crc_bnd (B.take (10+szB B))
   generalize hC:crc (B.take (10+szB B))=C at *
   have hf:flds [(C,4)]=be 4 C:=by simp only [flds,List.flatMap_cons,List.flatMap_nil,List.append_nil];rfl
   refine joinO_eq (a:=be 4 C) (joinO_eq (a:=be 4 C) ?_ rfl) ?_
   ·have hloop:=fun β body h=>fields_loop (β:=β) (body:=body) [(C,4)] 1 rfl (fld1_ok C) (by rw [hf,be_length];omega) (by simp) [] (by simp) h
    rw [hf,List.nil_append] at hloop
    exact hloop _ _ (fun _=>rfl)
   have hbl:(bytesU (be 4 C)).length=4:=by rw [bytesU_length,be_length]
   have e1:(10+((szB B:Nat):Int)+4).toNat-(10+szB B)=4:=by omega
   rw [if_pos (by omega),e1]
   by_cases hc:be 4 C=(B.drop (10+szB B)).take 4
   ·rw [oneS_ok hnw hlen (by rw [hC];exact hc)]
    rw [if_neg (fun h=>h (by rw [hc]))]
    rw [if_pos (by omega)]
    have e2:10+szB B-10=szB B:=by omega
    have hdl:((B.drop 10).take (szB B)).length=szB B:=by rw [List.length_take,List.length_drop];omega
    have htt:List.take (szB B) (List.take (szB B) (List.drop 10 B))=List.take (szB B) (List.drop 10 B):=List.take_of_length_le (by omega)
    have hlay:layL (List.replicate (szB B) (0:Int)) 0 (List.take (szB B) (List.drop 10 B))=List.take (szB B) (List.drop 10 B):=layL_all (by rw [hdl,List.length_replicate])
    rw [if_pos (by omega),Int.toNat_natCast,e2,List.length_replicate,if_pos (Nat.le_refl _),if_pos (by omega),g1,bindO_some,htt,hlay,if_pos (by omega),htt,wrap_i64' (by omega)]
    rw [show y.2+(10+((szB B:Nat):Int)+4)=y.2+((14+szB B:Nat):Int) from by omega]
   ·rw [oneS_check hnw hlen (by rw [hC];exact hc),if_pos (fun h=>hc ((bytesU_inj (be_bytes _ _) ((hBb.drop _).take _)).1 h)),Int.add_zero]
  ·obtain ⟨⟨⟨kd,d⟩,⟨sz,e⟩⟩,hO⟩:∃o,o=oneS B y.1.length:=⟨_,rfl⟩
   rw [←hO] at hnext ⊢
   simp only at hnext ⊢
   by_cases he:e≠0
   ·rw [if_pos he,if_pos he]
    have hz:sz=0:=by
     rcases oneS_cases B y.1.length with ⟨_,q⟩ | ⟨q,_⟩
     ·rw [←hO] at q;exact q
     ·rw [←hO] at q;exact (he q).elim
    refine SimS.stop ?_
    rw [hz,Int.add_zero];rfl
   ·rw [if_neg he,if_neg he]
    obtain ⟨k1,k2⟩:=hnext (Decidable.not_not.1 he)
    have k3:=k1.2.1
    have k4:=k1.2.2
    simp only at k3 k4
    rw [if_pos (by omega)]
    exact SimS.next ⟨rfl,k1⟩
 ·simp only
  rw [if_neg hlt,if_neg hlt]
  exact SimS.stop rfl
end Go.Proofs.Ytlaccfegaoaakaa.Jn

namespace Go.Proofs.Ytlaccfegaoaakaa.Jn
open Go.RowKit
theorem joined_j (a b:List Int) (ha:a.length≤1000000) (hb:b.length≤1000000):journal_joined (a,b)=some (a++b):=by
 unfold journal_joined
 simp only [bindO_some,bindO_none,joinO_inl,joinO_inr,joinO_none,outO_some,outO_none,cond_ite,List.take_length,Nat.le_refl,if_true,Nat.mul_one,Int.mul_one,cond_true,cond_false]
 rw [wrap_i64' (by omega),if_pos (by omega)]
 have e:((a.length:Int)+(b.length:Int)).toNat=a.length+b.length:=by omega
 have h1:(List.take (a.length+b.length) a)=a:=List.take_of_length_le (by omega)
 have h2:(List.take (a.length+b.length-a.length) b)=b:=List.take_of_length_le (by omega)
 have h3:layL (List.replicate (a.length+b.length) (0:Int)) 0 a=a++List.replicate b.length 0:=by
  unfold layL
  rw [List.take_zero,List.nil_append,Nat.zero_add,List.drop_replicate,show a.length+b.length-a.length=b.length from by omega]
 have h4:layL (a++List.replicate b.length (0:Int)) a.length b=a++b:=by
  unfold layL
  rw [List.take_left,List.drop_of_length_le (by rw [List.length_append,List.length_replicate];omega),List.append_nil]
 rw [e,Int.toNat_natCast,h1,h2,h3,h4]
 rw [if_pos (by rw [List.length_replicate];omega),if_pos (by omega),if_pos (by rw [List.length_append,List.length_replicate];omega),if_pos (by rw [List.length_append];omega),List.take_of_length_le (by rw [List.length_append];omega)]
theorem recover_j (b:List Int) (hb:Bytes b) (hl:b.length≤1000000) {l:Recs} {n e:Int} (hr:loopO (scanB b) ([],0)=some (l,(n,e))):journal_Recover b=some ((b.take n.toNat,(n,(l.length:Int))),l):=by
 unfold journal_Recover
 obtain ⟨h1,h2,h3⟩:=scan_out hr
 simp only at h1 h2 h3
 refine bindO_eq (scan_j b hb hl hr) ?_
 simp only [bindO_some,bindO_none,joinO_inl,joinO_inr,joinO_none,outO_some,outO_none,cond_ite,List.take_length,Nat.le_refl,if_true,Nat.mul_one,Int.mul_one,cond_true,cond_false,and_dec]
 rw [if_pos (by omega)]
 refine bindO_eq (joined_j _ _ (by rw [List.length_take];omega) (by simp)) ?_
 rw [List.append_nil]
end Go.Proofs.Ytlaccfegaoaakaa.Jn

namespace Go.Proofs.Ytlaccfegaoaakaa.Jn
open Go.RowKit
def encAll:Nat→Recs→List Int
 | _,[]=>[]
 | i,r::l=>encB i r.1 r.2++encAll (i+1) l
def RecOk (r:Int×List Int):Prop:=(0≤r.1∧r.1≤255)∧Bytes r.2∧r.2.length≤4096
theorem encB_length (n k:Int) (d:List Int):(encB n k d).length=14+d.length:=by
 rw [encB,List.length_append,be_length,preB_length];omega
theorem encB_bytes {n k:Int} {d:List Int} (h:RecOk (k,d)):Bytes (encB n k d):=(preB_bytes h.1 h.2.1).app (be_bytes _ _)
theorem encAll_bytes:∀(l:Recs) (i:Nat),(∀r∈l,RecOk r)→Bytes (encAll i l)
 | [],i,_=>fun x hx=>by cases hx
 | r::l,i,h=>(encB_bytes (h r List.mem_cons_self)).app (encAll_bytes l (i+1) fun r' h'=>h r' (List.mem_cons_of_mem _ h'))
theorem getD_app_lt {a b:List Int} {i:Nat} (h:i<a.length):(a++b).getD i 0=a.getD i 0:=by
 rw [List.getD_eq_getElem?_getD,List.getElem?_append_left h,←List.getD_eq_getElem?_getD]
theorem preB_getD {n k:Int} {d:List Int} {i:Nat} (hi:i<10):(preB n k d).getD i 0=(headB n k d.length).getD i 0:=getD_app_lt (by rw [headB_length];exact hi)
theorem encB_getD {n k:Int} {d:List Int} {i:Nat} (hi:i<10):(encB n k d).getD i 0=(headB n k d.length).getD i 0:=by
 rw [encB,getD_app_lt (by rw [preB_length];omega),preB_getD hi]
theorem headB_1 (n k s:Int):(headB n k s).getD 1 0=k:=rfl
theorem headB_w (n k s:Int) {i:Nat} (h:i<6) (h1:i≠1):(headB n k s).getD i 0=(wantL n).getD i 0:=by
 unfold headB wantL
 match i,h,h1 with
 | 0,_,_=>rfl
 | 2,_,_=>rfl
 | 3,_,_=>rfl
 | 4,_,_=>rfl
 | 5,_,_=>rfl
theorem headB_6 (n k s:Int):(headB n k s).getD 6 0=s / 256 % 256:=rfl
theorem headB_7 (n k s:Int):(headB n k s).getD 7 0=s % 256:=rfl
theorem headB_8 (n k s:Int):(headB n k s).getD 8 0=(65535-s) / 256 % 256:=rfl
theorem headB_9 (n k s:Int):(headB n k s).getD 9 0=(65535-s) % 256:=rfl
theorem not_wrong {b:List Int} {n k:Int} {s:Nat} (hs:s≤4096) (h:∀i,i<10→i<b.length→b.getD i 0=(headB n k s).getD i 0):¬Wrong b n:=by
 rintro (⟨h8,h1⟩ | ⟨i,hi,hb⟩)
 ·rw [h 6 (by omega) (by omega),h 7 (by omega) (by omega),headB_6,headB_7] at h1
  omega
 ·obtain ⟨hl,hb⟩:=hb
  rcases hb with ⟨h6,h1,hne⟩ | ⟨rfl,hne⟩ | ⟨rfl,hne⟩
  ·exact hne (by rw [h i hi hl,headB_w n k s h6 h1])
  ·rw [h 8 (by omega) hl,h 6 (by omega) (by omega),headB_8,headB_6] at hne
   omega
  ·rw [h 9 (by omega) hl,h 7 (by omega) (by omega),headB_9,headB_7] at hne
   omega
theorem sz_head {b:List Int} {n k:Int} {s:Nat} (hs:s≤4096) (hl:10≤b.length) (h:∀i,i<10→i<b.length→b.getD i 0=(headB n k s).getD i 0):szB b=s:=by
 unfold szB
 rw [h 6 (by omega) (by omega),h 7 (by omega) (by omega),headB_6,headB_7]
 omega
theorem oneS_enc {n:Nat} {k:Int} {d rest:List Int} (hn:n<1048576) (h:RecOk (k,d)):oneS (encB n k d++rest) n=((k,d),(((14+d.length:Nat):Int),0)):=by
 obtain ⟨hk,hd,hl⟩:=h
 have hg:∀i,i<10→i<(encB n k d++rest).length→(encB n k d++rest).getD i 0=(headB n k d.length).getD i 0:=fun i hi _=>by rw [getD_app_lt (by rw [encB_length];omega),encB_getD hi]
 have hl':d.length≤4096:=hl
 have hlen:(encB n k d++rest).length=14+d.length+rest.length:=by rw [List.length_append,encB_length]
 have hw:=not_wrong hl' hg
 have hs:=sz_head hl' (by omega) hg
 have hnw:¬(n≥1048576∨Wrong (encB n k d++rest) n):=by rintro (h | h);omega;exact hw h
 have e1:(encB n k d++rest).take (10+d.length)=preB n k d:=by
  rw [encB,List.append_assoc,List.take_append_of_le_length (by rw [preB_length];omega),List.take_of_length_le (by rw [preB_length];omega)]
 have e2:((encB n k d++rest).drop (10+d.length)).take 4=be 4 (crc (preB n k d)):=by
  rw [encB,List.append_assoc,List.drop_append_of_le_length (by rw [preB_length];omega),List.drop_of_length_le (by rw [preB_length];omega),List.nil_append,List.take_append_of_le_length (by rw [be_length];omega),List.take_of_length_le (by rw [be_length];omega)]
 have e3:((encB n k d++rest).drop 10).take d.length=d:=by
  rw [encB,preB,List.append_assoc,List.append_assoc,List.drop_append_of_le_length (by rw [headB_length];omega),List.drop_of_length_le (by rw [headB_length];omega),List.nil_append,List.take_append_of_le_length (by omega),List.take_length]
 rw [oneS_ok hnw (by rw [hs];omega) (by rw [hs,e1,e2]),hs,e3,hg 1 (by omega) (by omega),headB_1]
theorem oneS_part {n:Nat} {k:Int} {d:List Int} (hn:n<1048576) (h:RecOk (k,d)) {c:Nat} (hc:c<14+d.length):oneS ((encB n k d).take c) n=((0,[]),(0,6)):=by
 obtain ⟨hk,hd,hl⟩:=h
 have hl':d.length≤4096:=hl
 have hlen:((encB n k d).take c).length=c:=by rw [List.length_take,encB_length];omega
 have hg:∀i,i<10→i<((encB n k d).take c).length→((encB n k d).take c).getD i 0=(headB n k d.length).getD i 0:=fun i hi h=>by rw [getD_take (by omega),encB_getD hi]
 have hw:=not_wrong hl' hg
 have hnw:¬(n≥1048576∨Wrong ((encB n k d).take c) n):=by rintro (h | h);omega;exact hw h
 refine oneS_short hnw ?_
 by_cases h10:10≤c
 ·rw [sz_head hl' (by omega) hg];omega
 ·omega
def cnt:Recs→Nat→Nat
 | [],_=>0
 | r::l,c=>if 14+r.2.length≤c then 1+cnt l (c-(14+r.2.length)) else 0
def endC:Recs→Nat→Nat
 | [],_=>0
 | r::l,c=>if 14+r.2.length≤c then 14+r.2.length+endC l (c-(14+r.2.length)) else 0
theorem cnt_le:∀(l:Recs) (c:Nat),cnt l c≤l.length
 | [],c=>Nat.le_refl 0
 | r::l,c=>by
   rw [cnt]
   split
   ·have:=cnt_le l (c-(14+r.2.length));rw [List.length_cons];omega
   ·omega
theorem endC_le:∀(l:Recs) (c:Nat),endC l c≤c
 | [],c=>Nat.zero_le c
 | r::l,c=>by
   rw [endC]
   split
   ·have:=endC_le l (c-(14+r.2.length));omega
   ·omega
theorem scanB_end {b:List Int} {recs:Recs} {a:Nat} (h:b.length≤a):scanB b (recs,(a:Int))=some (.inr (recs,((a:Int),0))):=by
 unfold scanB
 simp only
 rw [if_neg (by omega)]
theorem scanB_next {b:List Int} {recs:Recs} {a:Nat} {r:Int×List Int} {sz:Int} (h:a<b.length) (ho:oneS (b.drop a) recs.length=(r,(sz,0))):scanB b (recs,(a:Int))=some (.inl (recs++[r],(a:Int)+sz)):=by
 unfold scanB
 simp only [Int.toNat_natCast]
 rw [if_pos (by omega),ho,if_neg (by simp)]
theorem scanB_err {b:List Int} {recs:Recs} {a:Nat} {r:Int×List Int} {sz e:Int} (h:a<b.length) (ho:oneS (b.drop a) recs.length=(r,(sz,e))) (he:e≠0):scanB b (recs,(a:Int))=some (.inr (recs,((a:Int),e))):=by
 unfold scanB
 simp only [Int.toNat_natCast]
 rw [if_pos (by omega),ho,if_pos he]
theorem scan_cut:∀(l:Recs) (b:List Int) (recs:Recs) (at_ c:Nat),(∀r∈l,RecOk r)→b.drop at_=(encAll recs.length l).take c→at_≤b.length→c≤(encAll recs.length l).length→recs.length+l.length≤1048576 →
 loopO (scanB b) (recs,(at_:Int))=some (recs++l.take (cnt l c),(((at_+endC l c:Nat):Int),if endC l c=c then 0 else 6))
 | [],b,recs,at_,c,_,hb,ha,hc,_=>by
   rw [loopO_eq]
   have h0:b.length-at_=0:=by
    have:=congrArg List.length hb
    rw [List.length_drop] at this
    rw [this];simp [encAll]
   have hc0:c=0:=by simpa [encAll] using hc
   subst hc0
   rw [scanB_end (by omega)]
   simp [cnt,endC]
 | r::l,b,recs,at_,c,hok,hb,ha,hc,hn=>by
   obtain ⟨k,d⟩:=r
   have hr:=hok (k,d) List.mem_cons_self
   rw [List.length_cons] at hn
   have hE:encAll recs.length ((k,d)::l)=encB recs.length k d++encAll (recs.length+1) l:=rfl
   have hEl:(encAll recs.length ((k,d)::l)).length=14+d.length+(encAll (recs.length+1) l).length:=by rw [hE,List.length_append,encB_length]
   have hbl:b.length=at_+c:=by
    have:=congrArg List.length hb
    rw [List.length_drop,List.length_take] at this
    omega
   rw [loopO_eq]
   by_cases hc0:c=0
   ·subst hc0
    rw [scanB_end (by omega)]
    rw [cnt,endC,if_neg (by simp only;omega),if_neg (by simp only;omega)]
    simp
   by_cases hfull:14+d.length≤c
   ·have hsplit:(encAll recs.length ((k,d)::l)).take c=encB recs.length k d++(encAll (recs.length+1) l).take (c-(14+d.length)):=by
     rw [hE,List.take_append,encB_length,List.take_of_length_le (by rw [encB_length];omega)]
    rw [scanB_next (by omega) (by rw [hb,hsplit];exact oneS_enc (by omega) hr)]
    simp only
    have ih:=scan_cut l b (recs++[(k,d)]) (at_+(14+d.length)) (c-(14+d.length)) (fun r h=>hok r (List.mem_cons_of_mem _ h)) (by
     rw [←List.drop_drop,hb,hsplit,List.drop_append_of_le_length (by rw [encB_length];omega),List.drop_of_length_le (by rw [encB_length];omega),List.nil_append,List.length_append];rfl) (by omega) (by rw [List.length_append];show _≤(encAll (recs.length+1) l).length;omega) (by rw [List.length_append];show recs.length+1+l.length≤_;omega)
    rw [show ((at_:Int)+((14+d.length:Nat):Int))=((at_+(14+d.length):Nat):Int) from by omega,ih,cnt,endC,if_pos hfull,if_pos hfull]
    rw [Nat.add_comm 1,List.take_succ_cons,List.append_assoc]
    congr 2
    have:(endC l (c-(14+d.length))=c-(14+d.length))↔(14+d.length+endC l (c-(14+d.length))=c):=by omega
    simp only [this]
    rw [show at_+(14+d.length)+endC l (c-(14+d.length))=at_+(14+d.length+endC l (c-(14+d.length))) from by omega]
   ·have hsplit:(encAll recs.length ((k,d)::l)).take c=(encB recs.length k d).take c:=by
     rw [hE,List.take_append_of_le_length (by rw [encB_length];omega)]
    rw [scanB_err (e:=6) (by omega) ((congrArg (fun z=>oneS z recs.length) (hb.trans hsplit)).trans (oneS_part (by omega) hr (by omega))) (by decide)]
    rw [cnt,endC,if_neg hfull,if_neg hfull,if_neg (by omega)]
    simp
end Go.Proofs.Ytlaccfegaoaakaa.Jn

namespace Go.Proofs.Ytlaccfegaoaakaa.Jn
open Go.RowKit
def Rec2 (r:Int×List Int):Prop:=(0≤r.1∧r.1≤255)∧Bytes r.2∧r.2.length≤200
theorem Rec2.ok {r:Int×List Int} (h:Rec2 r):RecOk r:=⟨h.1,h.2.1,by have:=h.2.2;omega⟩
theorem valid_j (b:List Int) (s c:Int):journal_Valid (b,(s,c))=some (decide (0≤s∧s≤(b.length:Int)∧0≤c∧c≤1048576)):=by
 unfold journal_Valid
 simp only [bindO_some,bindO_none,joinO_inl,joinO_inr,joinO_none,outO_some,outO_none,cond_ite,List.take_length,Nat.le_refl,if_true,Nat.mul_one,Int.mul_one,cond_true,cond_false]
 by_cases h1:s≥0
 ·by_cases h2:s≤(b.length:Int)
  ·by_cases h3:c≥0
   ·rw [if_pos h1,if_pos h2,if_pos h3]
    congr 1
    rw [decide_eq_decide];omega
   ·rw [if_pos h1,if_pos h2,if_neg h3,decide_eq_false (by omega)]
  ·rw [if_pos h1,if_neg h2,decide_eq_false (by omega)]
 ·rw [if_neg h1,decide_eq_false (by omega)]
theorem append_j (b:List Int) (s c k:Int) (d:List Int) (hb:b.length≤900000) (hs:0≤s∧s≤(b.length:Int)) (hc:0≤c∧c<1048576) (hr:RecOk (k,d)):journal_Append ((b,(s,c)),(k,d))=some ((b++encB c k d,(s,c+1)),0):=by
 unfold journal_Append
 refine bindO_eq (valid_j b s c) ?_
 rw [decide_eq_true (by omega)]
 simp only [bindO_some,bindO_none,joinO_inl,joinO_inr,joinO_none,outO_some,outO_none,cond_ite,List.take_length,Nat.le_refl,if_true,Nat.mul_one,Int.mul_one,cond_true,cond_false,Bool.not_true]
 rw [if_neg (by omega)]
 have he:encS c k d=(encB c k d,0):=by
  have:=hr.2.2
  simp only at this
  unfold encS
  rw [if_neg (by omega),if_neg (by omega),if_neg (by omega)]
 refine bindO_eq ((encode_j c k d (by omega) hr.1 hr.2.1).trans (congrArg some he)) ?_
 simp only [ne_eq,not_true_eq_false,if_false]
 have:=hr.2.2
 simp only at this
 refine bindO_eq (joined_j _ _ (by omega) (by rw [encB_length];omega)) ?_
 rw [wrap_i64' (by omega)]
def sumL:Recs→Nat
 | []=>0
 | r::l=>14+r.2.length+sumL l
theorem encAll_length:∀(l:Recs) (i:Nat),(encAll i l).length=sumL l
 | [],i=>rfl
 | r::l,i=>by rw [encAll,List.length_append,encB_length,encAll_length l,sumL]
theorem encAll_append:∀(a b:Recs) (i:Nat),encAll i (a++b)=encAll i a++encAll (i+a.length) b
 | [],b,i=>rfl
 | r::a,b,i=>by
   show encB i r.1 r.2++encAll (i+1) (a++b)=encB i r.1 r.2++encAll (i+1) a++encAll (i+(a.length+1)) b
   rw [encAll_append a b (i+1),List.append_assoc,show i+1+a.length=i+(a.length+1) from by omega]
theorem sumL_append:∀(a b:Recs),sumL (a++b)=sumL a+sumL b
 | [],b=>by simp [sumL]
 | r::a,b=>by rw [List.cons_append,sumL,sumL,sumL_append a b];omega
theorem sumL_mono (l:Recs) {i j:Nat} (h:i≤j):sumL (l.take i)≤sumL (l.take j):=by
 have:l.take j=l.take i++(l.drop i).take (j-i):=by rw [←List.take_add];congr 1;omega
 rw [this,sumL_append];omega
theorem cnt_spec:∀(l:Recs) (c:Nat),sumL (l.take (cnt l c))=endC l c∧(cnt l c<l.length→c<sumL (l.take (cnt l c+1)))
 | [],c=>⟨rfl,fun h=>by cases h⟩
 | r::l,c=>by
   obtain ⟨h1,h2⟩:=cnt_spec l (c-(14+r.2.length))
   rw [cnt,endC]
   split
   ·rename_i h
    rw [Nat.add_comm 1,List.take_succ_cons,sumL,h1]
    refine ⟨rfl,fun h3 => ?_⟩
    rw [List.take_succ_cons,sumL]
    have:=h2 (by rw [List.length_cons] at h3;omega)
    omega
   ·rename_i h
    refine ⟨rfl,fun _ => ?_⟩
    rw [List.take_succ_cons,List.take_zero,sumL,sumL];omega
end Go.Proofs.Ytlaccfegaoaakaa.Jn

namespace Go.Proofs.Ytlaccfegaoaakaa.Jn
open Go.RowKit
theorem sync_j (b:List Int) (s c:Int) (hb:b.length≤900000) (hs:0≤s∧s≤(b.length:Int)) (hc:0≤c∧c≤1048576):journal_Sync (b,(s,c))=some (b,((b.length:Int),c)):=by
 unfold journal_Sync
 refine bindO_eq (valid_j b s c) ?_
 rw [decide_eq_true (by omega)]
 simp only [bindO_some,bindO_none,joinO_inl,joinO_inr,joinO_none,outO_some,outO_none,cond_ite,List.take_length,Nat.le_refl,if_true,Nat.mul_one,Int.mul_one,cond_true,cond_false,Bool.not_true]
 refine bindO_eq (joined_j b [] (by omega) (by simp)) ?_
 rw [List.append_nil]
theorem crash_j (b:List Int) (s c k:Int) (hb:b.length≤900000) (hs:0≤s∧s≤(b.length:Int)) (hc:0≤c∧c≤1048576):∃n:Nat,s≤(n:Int)∧n≤b.length∧journal_Crash ((b,(s,c)),k)=some (b.take n):=by
 obtain ⟨n,hn⟩:∃n:Nat,(n:Int)=minA (maxA s k) (b.length:Int):=⟨(minA (maxA s k) (b.length:Int)).toNat,by unfold minA maxA;split<;>split<;>omega⟩
 have h1:s≤(n:Int)∧n≤b.length:=by
  unfold minA maxA at hn
  constructor
  ·split at hn<;>split at hn<;>omega
  ·split at hn<;>split at hn<;>omega
 refine ⟨n,h1.1,h1.2,?_⟩
 unfold journal_Crash
 refine bindO_eq (valid_j b s c) ?_
 rw [decide_eq_true (by omega),←hn]
 simp only [bindO_some,bindO_none,joinO_inl,joinO_inr,joinO_none,outO_some,outO_none,cond_ite,List.take_length,Nat.le_refl,if_true,Nat.mul_one,Int.mul_one,cond_true,cond_false,Bool.not_true,and_dec,Int.toNat_natCast]
 rw [if_pos (by omega)]
 refine bindO_eq (joined_j _ [] (by rw [List.length_take];omega) (by simp)) ?_
 rw [List.append_nil]
theorem cnt_ge {l:Recs} {c j:Nat} (hj:j≤l.length) (h:sumL (l.take j)≤c):j≤cnt l c:=by
 rcases Nat.lt_or_ge (cnt l c) j with hlt | hge
 ·have:=(cnt_spec l c).2 (by omega)
  have:=sumL_mono l (show cnt l c+1≤j by omega)
  omega
 ·exact hge
theorem encAll_take (l:Recs) (j:Nat):(encAll 0 l).take (sumL (l.take j))=encAll 0 (l.take j):=by
 conv=>lhs;rw [←List.take_append_drop j l]
 rw [encAll_append,List.take_append_of_le_length (by rw [encAll_length,List.take_append_drop];exact Nat.le_refl _),List.take_of_length_le (by rw [encAll_length,List.take_append_drop];exact Nat.le_refl _)]
end Go.Proofs.Ytlaccfegaoaakaa.Jn

set_option maxRecDepth 100000
namespace Go.Proofs.Ytlaccfegaoaakaa
open Go.RowKit
abbrev RgS:=Int×(Int×(Int×(Int×(List Bnd×(List Int×(Int×(Int×Int)))))))
def mkS (c:Cf) (L:List Bnd) (B:List Int) (s n last:Int):RgS:=(c.1,(c.2.1,(c.2.2.1,(c.2.2.2,(L,(B,(s,(n,last))))))))
theorem rg_eq (a1:Int) (r:Rg9) (c:Cf) (a15:List Bnd) (a16:List Int) (a17 a18 a19:Int):registrar_Registrar_Register (a1,(r,(c.1,(c.2.1,(c.2.2.1,(c.2.2.2,(a15,(a16,(a17,(a18,a19)))))))))) =
 bindO (registrar_Valid c) fun x20 =>
 bif (!x20) then
  some (([]:List Bnd),((1:Int),(c.1,(c.2.1,(c.2.2.1,(c.2.2.2,(a15,(a16,(a17,(a18,a19))))))))))
 else
  bindO (registrar_EncodeAct (a1,r)) fun (x22,x23) =>
  bif (decide (x23≠(0:Int))) then
   some (([]:List Bnd),(x23,(c.1,(c.2.1,(c.2.2.1,(c.2.2.2,(a15,(a16,(a17,(a18,a19))))))))))
  else
   bif (decide (a1<a19)) then
    some (([]:List Bnd),((9:Int),(c.1,(c.2.1,(c.2.2.1,(c.2.2.2,(a15,(a16,(a17,(a18,a19))))))))))
   else
    bif (!r.2.2.2.1) then
     bif (decide ((((List.length (rCs r)):Nat):Int)=(0:Int))) then
      bindO (registrar_Lookup (a15,(a1,r.1))) fun x24 =>
      some (x24,((0:Int),(c.1,(c.2.1,(c.2.2.1,(c.2.2.2,(a15,(a16,(a17,(a18,a19))))))))))
     else
      bindO (registrar_Update (c,(a15,(a1,(a18,r))))) fun (x26,x27) =>
      bif (decide (x27≠(0:Int))) then
       some (([]:List Bnd),(x27,(c.1,(c.2.1,(c.2.2.1,(c.2.2.2,(a15,(a16,(a17,(a18,a19))))))))))
      else
       bindO (journal_Append ((a16,(a17,a18)),((1:Int),x22))) fun ((x29,(x30,x31)),x32) =>
       bif (decide (x32≠(0:Int))) then
        some (([]:List Bnd),(x32,(c.1,(c.2.1,(c.2.2.1,(c.2.2.2,(a15,(a16,(a17,(a18,a19))))))))))
       else
        bindO (registrar_Lookup (x26,(a1,r.1))) fun x33 =>
        some (x33,((0:Int),(c.1,(c.2.1,(c.2.2.1,(c.2.2.2,(x26,(x29,(x30,(x31,a1))))))))))
    else
     bindO (registrar_Update (c,(a15,(a1,(a18,r))))) fun (x35,x36) =>
     bif (decide (x36≠(0:Int))) then
      some (([]:List Bnd),(x36,(c.1,(c.2.1,(c.2.2.1,(c.2.2.2,(a15,(a16,(a17,(a18,a19))))))))))
     else
      bindO (journal_Append ((a16,(a17,a18)),((1:Int),x22))) fun ((x38,(x39,x40)),x41) =>
      bif (decide (x41≠(0:Int))) then
       some (([]:List Bnd),(x41,(c.1,(c.2.1,(c.2.2.1,(c.2.2.2,(a15,(a16,(a17,(a18,a19))))))))))
      else
       bindO (registrar_Lookup (x35,(a1,r.1))) fun x42 =>
       some (x42,((0:Int),(c.1,(c.2.1,(c.2.2.1,(c.2.2.2,(x35,(x38,(x39,(x40,a1)))))))))):=rfl
theorem al_eq (c:Cf) (a5:List Bnd) (a6:List Int) (a7 a8 a9:Int):registrar_Registrar_All (c.1,(c.2.1,(c.2.2.1,(c.2.2.2,(a5,(a6,(a7,(a8,a9)))))))) =
 bindO (registrar_Valid c) fun x10 =>
 bif (!x10) then
  some ([]:List Bnd)
 else
  bindO (registrar_copyOf a5) fun x11 =>
  some x11:=rfl
theorem lg_eq (c:Cf) (a5:List Bnd) (a6:List Int) (a7 a8 a9:Int):registrar_Registrar_Log (c.1,(c.2.1,(c.2.2.1,(c.2.2.2,(a5,(a6,(a7,(a8,a9)))))))) =
 bindO (registrar_Valid c) fun x10 =>
 bif (!x10) then
  some (([]:List Int),((0:Int),(0:Int)))
 else
  bindO (cloneB a6) fun x11 =>
  bif (decide ((List.length x11)≤(List.length x11))) then
   some ((List.take (List.length x11) x11),(a7,a8))
  else none:=rfl
theorem sy_eq (c:Cf) (a5:List Bnd) (a6:List Int) (a7 a8 a9:Int):syncM (c.1,(c.2.1,(c.2.2.1,(c.2.2.2,(a5,(a6,(a7,(a8,a9)))))))) =
 bindO (registrar_Valid c) fun x10 =>
 bif (!x10) then
  some ((1:Int),(c.1,(c.2.1,(c.2.2.1,(c.2.2.2,(a5,(a6,(a7,(a8,a9)))))))))
 else
  bindO (journal_Sync (a6,(a7,a8))) fun (x12,(x13,x14)) =>
  some ((0:Int),(c.1,(c.2.1,(c.2.2.1,(c.2.2.2,(a5,(x12,(x13,(x14,a9))))))))):=rfl
end Go.Proofs.Ytlaccfegaoaakaa
