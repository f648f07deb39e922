import Derived.Test.YtlaccfegaoaakaaZ2p
import Derived.Test.YtlaccfegaoaakaaB4p
import Derived.Test.YtlaccfegaoaakaaXBp
set_option linter.unusedSectionVars false
set_option linter.unusedSimpArgs false
set_option linter.unusedVariables false
set_option maxRecDepth 100000
set_option maxHeartbeats 4000000
namespace Go.Proofs.Ytlaccfegaoaakaa
open Go.RowKit
noncomputable def ecB {γ:Type} (a6:List Ct):(Int×List Int)→Option ((Int×List Int) ⊕ (List Int ⊕ γ)) :=
(fun (v110,v111) =>
 bif (decide (v110<(((List.length a6):Nat):Int))) then
 bif (decide (((0:Int)≤v110)∧(v110<(((List.length a6):Nat):Int)))) then
 bindO a6[(Int.toNat v110)]? fun x112 =>
 joinO (bif (decide ((List.length v111)≤(List.length v111))) then
 loopO (nmB (Go.IntKind.wrap .u64 (((List.length x112.1):Nat):Int))) ((1:Int),(List.take (List.length v111) v111))
 else none) fun v121 =>
 bif (decide ((List.length v121)≤(List.length v121))) then
 bif (decide (((List.length ((List.take (List.length v121) v121)++(List.map (fun (x122:UInt8)=>(((UInt8.toNat x122):Nat):Int)) x112.1)))*1)≤140737488355328)) then
 bindO (some ((List.take (List.length v121) v121)++(List.map (fun (x124:UInt8)=>(((UInt8.toNat x124):Nat):Int)) x112.1))) fun x123 =>
 joinO (bif (decide ((List.length x123)≤(List.length x123))) then
 loopO (nmB (Go.IntKind.wrap .u64 x112.2.1)) ((1:Int),(List.take (List.length x123) x123))
 else none) fun v133 =>
 joinO (bif (decide ((List.length v133)≤(List.length v133))) then
 loopO (nmB (Go.IntKind.wrap .u64 x112.2.2)) ((3:Int),(List.take (List.length v133) v133))
 else none) fun v142 =>
 bif (decide ((List.length v142)≤(List.length v142))) then
 some (Sum.inl ((Go.IntKind.wrap .i64 (v110+(1:Int))),(List.take (List.length v142) v142)))
 else none
 else none
 else none
 else none
 else
 outO (bif (decide ((List.length v111)≤(List.length v111))) then
 some (Sum.inl (List.take (List.length v111) v111))
 else none))
noncomputable def epB {γ:Type} (a10:List Tx):(Int×List Int)→Option ((Int×List Int) ⊕ (List Int ⊕ γ)) :=
(fun (v154,v155) =>
 bif (decide (v154<(((List.length a10):Nat):Int))) then
 bif (decide (((0:Int)≤v154)∧(v154<(((List.length a10):Nat):Int)))) then
 bindO a10[(Int.toNat v154)]? fun x156 =>
 joinO (bif (decide ((List.length v155)≤(List.length v155))) then
 loopO (nmB (Go.IntKind.wrap .u64 (((List.length x156):Nat):Int))) ((1:Int),(List.take (List.length v155) v155))
 else none) fun v165 =>
 bif (decide ((List.length v165)≤(List.length v165))) then
 bif (decide (((List.length ((List.take (List.length v165) v165)++(List.map (fun (x166:UInt8)=>(((UInt8.toNat x166):Nat):Int)) x156)))*1)≤140737488355328)) then
 bindO (some ((List.take (List.length v165) v165)++(List.map (fun (x168:UInt8)=>(((UInt8.toNat x168):Nat):Int)) x156))) fun x167 =>
 bif (decide ((List.length x167)≤(List.length x167))) then
 some (Sum.inl ((Go.IntKind.wrap .i64 (v154+(1:Int))),(List.take (List.length x167) x167)))
 else none
 else none
 else none
 else none
 else
 outO (bif (decide ((List.length v155)≤(List.length v155))) then
 some (Sum.inl (List.take (List.length v155) v155))
 else none))
theorem encP_eq (a1:Int) (a2 a3:Tx) (a4:Int) (a5:Bool) (a6:List Ct) (a7:Int) (a8:Tx) (a9:Int) (a10:List Tx):registrar_EncodeAct (a1,(a2,(a3,(a4,(a5,(a6,(a7,(a8,(a9,a10))))))))) =
 joinO (bindO (registrar_Formed (a2,(a3,(a4,(a5,(a6,(a7,(a8,(a9,a10))))))))) fun x11 =>
 bif (!x11) then
 outO (some (([]:List Int),(2:Int)))
 else
 bif (decide (a1<(0:Int))) then
 outO (some (([]:List Int),(2:Int)))
 else
 bif (decide (a1 > (1099511627776:Int))) then
 outO (some (([]:List Int),(2:Int)))
 else
 some (Sum.inl ())) fun _ =>
 joinO (loopO (nmB (Go.IntKind.wrap .u64 a1)) ((7:Int),([]:List Int))) fun v20 =>
 joinO (bif (decide ((List.length v20)≤(List.length v20))) then
 loopO (nmB (Go.IntKind.wrap .u64 (((List.length a2):Nat):Int))) ((1:Int),(List.take (List.length v20) v20))
 else none) fun v29 =>
 bif (decide ((List.length v29)≤(List.length v29))) then
  bif (decide (((List.length ((List.take (List.length v29) v29)++(List.map (fun (x30:UInt8)=>(((UInt8.toNat x30):Nat):Int)) a2)))*1)≤140737488355328)) then
   bindO (some ((List.take (List.length v29) v29)++(List.map (fun (x32:UInt8)=>(((UInt8.toNat x32):Nat):Int)) a2))) fun x31 =>
   joinO (bif (decide ((List.length x31)≤(List.length x31))) then
 loopO (nmB (Go.IntKind.wrap .u64 (((List.length a3):Nat):Int))) ((1:Int),(List.take (List.length x31) x31))
 else none) fun v41 =>
   bif (decide ((List.length v41)≤(List.length v41))) then
    bif (decide (((List.length ((List.take (List.length v41) v41)++(List.map (fun (x42:UInt8)=>(((UInt8.toNat x42):Nat):Int)) a3)))*1)≤140737488355328)) then
     bindO (some ((List.take (List.length v41) v41)++(List.map (fun (x44:UInt8)=>(((UInt8.toNat x44):Nat):Int)) a3))) fun x43 =>
     joinO (bif (decide ((List.length x43)≤(List.length x43))) then
 loopO (nmB (Go.IntKind.wrap .u64 a4)) ((3:Int),(List.take (List.length x43) x43))
 else none) fun v53 =>
     joinO (bif a5 then
 joinO (bif (decide ((List.length v53)≤(List.length v53))) then
 loopO (nmB (1:Int)) ((0:Int),(List.take (List.length v53) v53))
 else none) fun v61 =>
 bif (decide ((List.length v61)≤(List.length v61))) then
 some (Sum.inl (List.take (List.length v61) v61))
 else none
 else
 joinO (bif (decide ((List.length v53)≤(List.length v53))) then
 loopO (nmB (0:Int)) ((0:Int),(List.take (List.length v53) v53))
 else none) fun v69 =>
 bif (decide ((List.length v69)≤(List.length v69))) then
 some (Sum.inl (List.take (List.length v69) v69))
 else none) fun v70 =>
     joinO (bif (decide ((List.length v70)≤(List.length v70))) then
 loopO (nmB (Go.IntKind.wrap .u64 a7)) ((3:Int),(List.take (List.length v70) v70))
 else none) fun v79 =>
     joinO (bif (decide ((List.length v79)≤(List.length v79))) then
 loopO (nmB (Go.IntKind.wrap .u64 (((List.length a8):Nat):Int))) ((1:Int),(List.take (List.length v79) v79))
 else none) fun v88 =>
     bif (decide ((List.length v88)≤(List.length v88))) then
      bif (decide (((List.length ((List.take (List.length v88) v88)++(List.map (fun (x89:UInt8)=>(((UInt8.toNat x89):Nat):Int)) a8)))*1)≤140737488355328)) then
       bindO (some ((List.take (List.length v88) v88)++(List.map (fun (x91:UInt8)=>(((UInt8.toNat x91):Nat):Int)) a8))) fun x90 =>
       joinO (bif (decide ((List.length x90)≤(List.length x90))) then
 loopO (nmB (Go.IntKind.wrap .u64 a9)) ((3:Int),(List.take (List.length x90) x90))
 else none) fun v100 =>
       joinO (bif (decide ((List.length v100)≤(List.length v100))) then
 loopO (nmB (Go.IntKind.wrap .u64 (((List.length a6):Nat):Int))) ((0:Int),(List.take (List.length v100) v100))
 else none) fun v109 =>
       joinO (bif (decide ((List.length v109)≤(List.length v109))) then
 loopO (ecB a6) ((0:Int),(List.take (List.length v109) v109))
 else none) fun v144 =>
       joinO (bif (decide ((List.length v144)≤(List.length v144))) then
 loopO (nmB (Go.IntKind.wrap .u64 (((List.length a10):Nat):Int))) ((0:Int),(List.take (List.length v144) v144))
 else none) fun v153 =>
       joinO (bif (decide ((List.length v153)≤(List.length v153))) then
 loopO (epB a10) ((0:Int),(List.take (List.length v153) v153))
 else none) fun v170 =>
       bif (decide ((((List.length v170):Nat):Int) > (4096:Int))) then
        some (([]:List Int),(4:Int))
       else
        bif (decide ((List.length v170)≤(List.length v170))) then
         some ((List.take (List.length v170) v170),(0:Int))
        else none
      else none
     else none
    else none
   else none
  else none
 else none:=rfl
section
variable {β γ:Type} {u:Int} (b:List Int) (f:List Int→Option γ) (hu:0≤u) (hb:b.length≤1000000)
include hu hb
theorem n8_b:joinO (loopO (nmB u) (7,b)) f=f (b++be u 8):=by rw [nm_j (v:=7) b hu (k:=8) rfl (by omega) hb];rfl
theorem n4_b:joinO (loopO (nmB u) (3,b)) f=f (b++be u 4):=by rw [nm_j (v:=3) b hu (k:=4) rfl (by omega) hb];rfl
theorem n2_b:joinO (loopO (nmB u) (1,b)) f=f (b++be u 2):=by rw [nm_j (v:=1) b hu (k:=2) rfl (by omega) hb];rfl
theorem n1_b:joinO (loopO (nmB u) (0,b)) f=f (b++be u 1):=by rw [nm_j (v:=0) b hu (k:=1) rfl (by omega) hb];rfl
end
theorem wu64 (n:Int):0≤IntKind.wrap .u64 n:=by rw [wr_u64];omega
theorem be_mod (u v:Int) (k:Nat) (h:u % 256 ^ k=v % 256 ^ k):be u k=be v k:=by
 refine List.ext_getElem (by rw [be_len,be_len]) fun n h1 h2 => ?_
 rw [be_len] at h1
 have e1:=be_get u k n h1
 have e2:=be_get v k n h1
 rw [getD_get 0 (by rw [be_len];exact h1)] at e1 e2
 rw [e1,e2]
 have key:∀w:Int,w / 256 ^ (k-1-n) % 256=(w % 256 ^ k) / 256 ^ (k-1-n) % 256:=fun w=>by
  obtain ⟨m,hm⟩:∃m,k=(k-1-n)+(1+m):=⟨n,by omega⟩
  have hp:(0:Int)<256 ^ (k-1-n):=Int.pow_pos (by decide)
  generalize k-1-n=q at *
  rw [hm,Int.pow_add,Int.pow_add,Int.pow_one]
  have hd:=Int.emod_emod_of_dvd (w / 256 ^ q) (show (256:Int) ∣ 256*256 ^ m from ⟨256 ^ m,rfl⟩)
  rw [←hd]
  congr 1
  rw [Int.emod_def w,Int.sub_ediv_of_dvd _ ⟨256*256 ^ m*(w / (256 ^ q*(256*256 ^ m))),by rw [Int.mul_assoc]⟩,Int.mul_assoc,Int.mul_ediv_cancel_left _ (by omega),Int.emod_def,Int.ediv_ediv_of_nonneg (by omega)]
 rw [key u,key v,h]
theorem be_wu {a:Int} (h:NO a):be (IntKind.wrap .u64 a) 4=be (u4 a) 4:=by
 apply be_mod
 rw [wr_u64]
 unfold u4
 have:(256:Int) ^ 4=4294967296:=by decide
 rw [this]
 split<;>omega
theorem be_nn {a:Int} (k:Nat) (h:0≤a∧a≤4294967296000):be (IntKind.wrap .u64 a) k=be a k:=by
 rw [wr_u64,Int.emod_eq_of_lt h.1 (by omega)]
theorem be_1 {a:Int} (h:0≤a∧a≤255):be a 1=[a]:=by
 show []++[a % 256]=[a]
 rw [Int.emod_eq_of_lt h.1 (by omega)];rfl
theorem et_len (s:Tx):(et s).length=s.length+2:=by unfold et;rw [List.length_append,be_len,tb_len];omega
theorem ec_len (x:Ct):(ec x).length=x.1.length+8:=by unfold ec;rw [List.length_append,List.length_append,be_len,be_len,et_len]
theorem flat_len {α:Type} (g:α→List Int) (l:List α) (n:Nat) (h:∀x∈l,(g x).length≤n):(l.flatMap g).length≤n*l.length:=by
 induction l with
 | nil=>simp
 | cons x l ih =>
   have h1:=h x List.mem_cons_self
   have h2:=ih fun y hy=>h y (List.mem_cons_of_mem _ hy)
   rw [List.flatMap_cons,List.length_append,List.length_cons,Nat.mul_succ]
   omega
theorem map_tb (s:Tx):List.map (fun (x:UInt8)=>(((UInt8.toNat x):Nat):Int)) s=tb s:=rfl
theorem nots (n:Nat):((n:Int)+1)=((n+1:Nat):Int):=rfl
theorem ecB_j {γ:Type} (l:List Ct) (b:List Int) (hl:l.length≤20) (hc:∀i,i<l.length→CW (l.getD i c0)) (hb:b.length≤100000):loopO (ecB (γ:=γ) l) (0,b)=some (.inl (b++l.flatMap ec)):=by
 refine loopO_from (fun i=>((i:Int),b++(l.take i).flatMap ec)) l.length (by simp) (fun i hi => ?_) ?_
 ·obtain ⟨x,hx,hxb⟩:=get_at c0 hi
  have hcw:=hc i hi
  have ht:=take_snoc l c0 hi
  rw [hx] at hcw ht
  obtain ⟨h1,h2,h3⟩:=hcw
  have hF:((l.take i).flatMap ec).length≤1010*20:=by
   refine Nat.le_trans (flat_len ec _ 1010 fun y hy => ?_) (Nat.mul_le_mul_left _ (by rw [List.length_take];omega))
   obtain ⟨q,hq,rfl⟩:=List.getElem_of_mem hy
   rw [ec_len]
   have hq':q<i∧q<l.length:=by rw [List.length_take] at hq;omega
   have:=(hc q hq'.2).1.2
   rw [getD_get c0 hq'.2] at this
   rw [List.getElem_take]
   omega
  have hfl:(l.take (i+1)).flatMap ec=(l.take i).flatMap ec++ec x:=by rw [ht,List.flatMap_append];simp
  rw [hfl]
  generalize (l.take i).flatMap ec=F at hF ⊢
  have w1:=wu64 (x.1.length:Int)
  have w2:=wu64 x.2.1
  have w3:=wu64 x.2.2
  have hu:x.1.length≤1000:=by have:=h1.2;omega
  unfold ecB
  simp (disch:=(first | omega | (simp only [List.length_append,List.length_cons,List.length_nil,List.length_map,be_len];omega))) only [↓SDl,SDr,if_pos,if_neg,↓hxb,↓n2_b,↓n4_b,wrap_i64',nots]
  unfold ec et
  rw [be_nn 2 (by omega),be_nn 2 (by omega),be_wu h3]
  simp only [List.append_assoc,map_tb]
 ·unfold ecB
  simp (disch:=(first | omega | (simp only [LNl];omega))) only [↓SDl,SDr,if_neg,List.take_length]
theorem epB_j {γ:Type} (l:List Tx) (b:List Int) (hl:l.length≤20) (hc:∀i,i<l.length→POK l i) (hb:b.length≤100000):loopO (epB (γ:=γ) l) (0,b)=some (.inl (b++l.flatMap et)):=by
 refine loopO_from (fun i=>((i:Int),b++(l.take i).flatMap et)) l.length (by simp) (fun i hi => ?_) ?_
 ·obtain ⟨x,hx,hxb⟩:=get_at ([]:Tx) hi
  have hcw:Ln (l.getD i []).length 1000:=hc i hi
  have ht:=take_snoc l [] hi
  rw [hx] at hcw ht
  have hF:((l.take i).flatMap et).length≤1010*20:=by
   refine Nat.le_trans (flat_len et _ 1010 fun y hy => ?_) (Nat.mul_le_mul_left _ (by rw [List.length_take];omega))
   obtain ⟨q,hq,rfl⟩:=List.getElem_of_mem hy
   rw [et_len]
   have hq':q<i∧q<l.length:=by rw [List.length_take] at hq;omega
   have:Ln (l.getD q []).length 1000:=hc q hq'.2
   rw [getD_get [] hq'.2] at this
   rw [List.getElem_take]
   omega
  have hfl:(l.take (i+1)).flatMap et=(l.take i).flatMap et++et x:=by rw [ht,List.flatMap_append];simp
  rw [hfl]
  generalize (l.take i).flatMap et=F at hF ⊢
  have w1:=wu64 (x.length:Int)
  have hu:x.length≤1000:=by have:=hcw.2;omega
  unfold epB
  simp (disch:=(first | omega | (simp only [List.length_append,List.length_cons,List.length_nil,List.length_map,be_len];omega))) only [↓SDl,SDr,if_pos,if_neg,↓hxb,↓n2_b,wrap_i64',nots]
  unfold et
  rw [be_nn 2 (by omega)]
  simp only [List.append_assoc,map_tb]
 ·unfold epB
  simp (disch:=(first | omega | (simp only [LNl];omega))) only [↓SDl,SDr,if_neg,List.take_length]
abbrev EOK (now:Int) (a1 a2:Tx) (a3:Int) (a4:Bool) (a5:List Ct) (a6:Int) (a7:Tx) (a8:Int) (a9:List Tx):Prop:=FM a1 a2 a3 a4 a5 a6 a7 a8 a9∧0≤now∧now≤1099511627776
theorem ecB_b {γ:Type} (l:List Ct) (b:List Int) (f:List Int→Option γ) (hl:l.length≤20) (hc:∀i,i<l.length→CW (l.getD i c0)) (hb:b.length≤100000):joinO (loopO (ecB l) (0,b)) f=f (b++l.flatMap ec):=by rw [ecB_j l b hl hc hb];rfl
theorem epB_b {γ:Type} (l:List Tx) (b:List Int) (f:List Int→Option γ) (hl:l.length≤20) (hc:∀i,i<l.length→POK l i) (hb:b.length≤100000):joinO (loopO (epB l) (0,b)) f=f (b++l.flatMap et):=by rw [epB_j l b hl hc hb];rfl
theorem flat_ec {l:List Ct} (hl:l.length≤20) (hc:∀i,i<l.length→CW (l.getD i c0)):(l.flatMap ec).length≤20200:=by
 refine Nat.le_trans (flat_len ec _ 1010 fun y hy => ?_) (by omega)
 obtain ⟨q,hq,rfl⟩:=List.getElem_of_mem hy
 have:=(hc q hq).1.2
 rw [getD_get c0 hq] at this
 rw [ec_len]
 omega
theorem flat_et {l:List Tx} (hl:l.length≤20) (hc:∀i,i<l.length→POK l i):(l.flatMap et).length≤20200:=by
 refine Nat.le_trans (flat_len et _ 1010 fun y hy => ?_) (by omega)
 obtain ⟨q,hq,rfl⟩:=List.getElem_of_mem hy
 have:Ln (l.getD q []).length 1000:=hc q hq
 rw [getD_get [] hq] at this
 rw [et_len]
 omega
open Classical in
theorem formP_b {β:Type} (a1 a2:Tx) (a3:Int) (a4:Bool) (a5:List Ct) (a6:Int) (a7:Tx) (a8:Int) (a9:List Tx) (k:Bool→Option β):bindO (registrar_Formed (a1,(a2,(a3,(a4,(a5,(a6,(a7,(a8,a9))))))))) k=k (decide (FM a1 a2 a3 a4 a5 a6 a7 a8 a9)):=by
 rcases formedP_j a1 a2 a3 a4 a5 a6 a7 a8 a9 with ⟨h,e⟩ | ⟨h,e⟩
 ·rw [e,decide_eq_true h];rfl
 ·rw [e,decide_eq_false h];rfl
theorem encP_j {now:Int} {a1 a2:Tx} {a3:Int} {a4:Bool} {a5:List Ct} {a6:Int} {a7:Tx} {a8:Int} {a9:List Tx} (h:EOK now a1 a2 a3 a4 a5 a6 a7 a8 a9) :
 registrar_EncodeAct (now,(a1,(a2,(a3,(a4,(a5,(a6,(a7,(a8,a9)))))))))=some (if ((ENC now a1 a2 a3 a4 a5 a6 a7 a8 a9).length:Int) > 4096 then ([],4) else (ENC now a1 a2 a3 a4 a5 a6 a7 a8 a9,0)):=by
 rw [encP_eq]
 obtain ⟨hF,n0,n1⟩:=h
 obtain ⟨⟨f1,f2,f3⟩,⟨f4,f5,f6⟩,f7,f8,f9,f10,f11,f12⟩:=id hF
 have hn0:¬now<0:=by omega
 have hn1:¬now > 1099511627776:=by omega
 have l1:a1.length≤255:=by have:=f1.2;omega
 have l2:a2.length≤255:=by have:=f2.2;omega
 have w0:=wu64 now
 have w1:=wu64 (a1.length:Int)
 have w2:=wu64 (a2.length:Int)
 have w3:=wu64 a3
 have w6:=wu64 a6
 have w7:=wu64 (a7.length:Int)
 have w8:=wu64 a8
 have w5:=wu64 (a5.length:Int)
 have w9:=wu64 (a9.length:Int)
 have g5:=flat_ec f5 (fun i hi=>(f11 i hi).1)
 have g9:=flat_et (l:=a9) (by omega) f12
 have hec:∀i,i<a5.length→CW (a5.getD i c0):=fun i hi=>(f11 i hi).1
 have e0:=be_nn (a:=now) 8 (by omega)
 have e1:=be_nn (a:=(a1.length:Int)) 2 (by omega)
 have e2:=be_nn (a:=(a2.length:Int)) 2 (by omega)
 have e3:=be_nn (a:=a3) 4 (by omega)
 have e6:=be_wu f4
 have e7:=be_nn (a:=(a7.length:Int)) 2 (by omega)
 have e8:=be_nn (a:=a8) 4 (by omega)
 have e5:be (IntKind.wrap .u64 (a5.length:Int)) 1=[(a5.length:Int)]:=by rw [be_nn 1 (by omega),be_1 (by omega)]
 have e9:be (IntKind.wrap .u64 (a9.length:Int)) 1=[(a9.length:Int)]:=by rw [be_nn 1 (by omega),be_1 (by omega)]
 have key:∀(X Y:List Int),X=Y→(if ((X.length:Nat):Int) > 4096 then some (([]:List Int),(4:Int)) else some (X,0))=some (if ((Y.length:Nat):Int) > 4096 then ([],4) else (Y,0)):=fun X Y e=>by
  subst e
  split<;>rfl
 cases a4 with
 | true =>
   simp (disch:=(first | assumption | omega | (simp only [List.length_append,List.length_cons,List.length_nil,List.length_map,be_len];omega))) only [↓SDl,SDr,↓formP_b,hF,hn0,hn1,decide_true,decide_false,if_pos,if_neg,↓n8_b,↓n4_b,↓n2_b,↓n1_b,↓ecB_b,↓epB_b]
   refine key _ _ ?_
   rw [e0,e1,e2,e3,e5,e6,e7,e8,e9,be_1 (by omega)]
   unfold ENC et
   simp only [List.append_assoc,map_tb,List.nil_append,if_true]
 | false =>
   simp (disch:=(first | assumption | omega | (simp only [List.length_append,List.length_cons,List.length_nil,List.length_map,be_len];omega))) only [↓SDl,SDr,↓formP_b,hF,hn0,hn1,decide_true,decide_false,if_pos,if_neg,↓n8_b,↓n4_b,↓n2_b,↓n1_b,↓ecB_b,↓epB_b]
   refine key _ _ ?_
   rw [e0,e1,e2,e3,e5,e6,e7,e8,e9,be_1 (by omega)]
   unfold ENC et
   simp only [List.append_assoc,map_tb,List.nil_append,Bool.false_eq_true,if_false]
theorem encP_no {now:Int} {a1 a2:Tx} {a3:Int} {a4:Bool} {a5:List Ct} {a6:Int} {a7:Tx} {a8:Int} {a9:List Tx} (h:¬EOK now a1 a2 a3 a4 a5 a6 a7 a8 a9) :
 registrar_EncodeAct (now,(a1,(a2,(a3,(a4,(a5,(a6,(a7,(a8,a9)))))))))=some ([],2):=by
 rw [encP_eq]
 by_cases hF:FM a1 a2 a3 a4 a5 a6 a7 a8 a9
 ·by_cases h0:now<0
  ·simp only [↓SDl,SDr,↓formP_b,hF,h0,decide_true]
  ·have h1:now > 1099511627776:=by
    by_cases g:now > 1099511627776
    ·exact g
    ·exact (h ⟨hF,by omega,by omega⟩).elim
   simp only [↓SDl,SDr,↓formP_b,hF,h0,h1,decide_true,decide_false]
 ·simp only [↓SDl,SDr,↓formP_b,hF,decide_false]
end Go.Proofs.Ytlaccfegaoaakaa

set_option maxRecDepth 1000000
set_option maxHeartbeats 0
namespace Go.Proofs.Ytlaccfegaoaakaa
open Go.RowKit
noncomputable def encR:(Int×(LU×(LU×(Int×(Bool×((List (LU×(Int×Int)))×(Int×(LU×(Int×(List LU))))))))))→Option (LN×Int):=fun (a1,(a2,(a3,(a4,(a5,(a6,(a7,(a8,(a9,a10))))))))) =>
 bindO (dialtoneref22_Formed (a2,(a3,(a4,(a5,(a6,(a7,(a8,(a9,a10))))))))) fun x11 =>
 bif (!x11) then
 some (([]:List Int),(2:Int))
 else
 bindO (dialtoneref22_within (a1,(z0,(1099511627776:Int)))) fun x12 =>
 bif (!x12) then
 some (([]:List Int),(2:Int))
 else
 joinO (joinO (bif (decide (a1<z0)) then
 some (Sum.inl (wI (a1+(4294967296:Int))))
 else
 some (Sum.inl a1)) fun v14 =>
 joinO (bindO (some (wI (Int.tdiv v14 (256:Int)))) fun x17 =>
 bindO (some ((Go.IntKind.wrap .u8 (Int.tmod x17 (256:Int)))::((Go.IntKind.wrap .u8 (Int.tmod v14 (256:Int)))::([]:List Int)))) fun x20 =>
 bindO (some (wI (Int.tdiv x17 (256:Int)))) fun x21 =>
 bindO (some (Int.tmod x21 (256:Int))) fun x22 =>
 bif ((lE x20)&&(decide ((1=0)∨((List.length (tA x20))≠0)))) then
 bif (rO (((Go.IntKind.wrap .u8 x22)::([]:List Int))++(tA x20)) 1) then
 bindO (some (((Go.IntKind.wrap .u8 x22)::([]:List Int))++(tA x20))) fun x24 =>
 bindO (some (wI (Int.tdiv x21 (256:Int)))) fun x25 =>
 bindO (some (Int.tmod x25 (256:Int))) fun x26 =>
 bif ((lE x24)&&(decide ((1=0)∨((List.length (tA x24))≠0)))) then
 bif (rO (((Go.IntKind.wrap .u8 x26)::([]:List Int))++(tA x24)) 1) then
 bindO (some (((Go.IntKind.wrap .u8 x26)::([]:List Int))++(tA x24))) fun x28 =>
 bindO (some (wI (Int.tdiv x25 (256:Int)))) fun x29 =>
 bindO (some (Int.tmod x29 (256:Int))) fun x30 =>
 bif ((lE x28)&&(decide ((1=0)∨((List.length (tA x28))≠0)))) then
 bif (rO (((Go.IntKind.wrap .u8 x30)::([]:List Int))++(tA x28)) 1) then
 bindO (some (((Go.IntKind.wrap .u8 x30)::([]:List Int))++(tA x28))) fun x32 =>
 bindO (some (wI (Int.tdiv x29 (256:Int)))) fun x33 =>
 bindO (some (Int.tmod x33 (256:Int))) fun x34 =>
 bif ((lE x32)&&(decide ((1=0)∨((List.length (tA x32))≠0)))) then
 bif (rO (((Go.IntKind.wrap .u8 x34)::([]:List Int))++(tA x32)) 1) then
 bindO (some (((Go.IntKind.wrap .u8 x34)::([]:List Int))++(tA x32))) fun x36 =>
 bindO (some (wI (Int.tdiv x33 (256:Int)))) fun x37 =>
 bindO (some (Int.tmod x37 (256:Int))) fun x38 =>
 bif ((lE x36)&&(decide ((1=0)∨((List.length (tA x36))≠0)))) then
 bif (rO (((Go.IntKind.wrap .u8 x38)::([]:List Int))++(tA x36)) 1) then
 bindO (some (((Go.IntKind.wrap .u8 x38)::([]:List Int))++(tA x36))) fun x40 =>
 bindO (some (wI (Int.tdiv x37 (256:Int)))) fun x41 =>
 bindO (some (Int.tmod x41 (256:Int))) fun x42 =>
 bif ((lE x40)&&(decide ((1=0)∨((List.length (tA x40))≠0)))) then
 bif (rO (((Go.IntKind.wrap .u8 x42)::([]:List Int))++(tA x40)) 1) then
 bindO (some (((Go.IntKind.wrap .u8 x42)::([]:List Int))++(tA x40))) fun x44 =>
 bif (lE x44) then
 some (Sum.inl ((wI (Int.tdiv x41 (256:Int))),(tA x44)))
 else none
 else none
 else none
 else none
 else none
 else none
 else none
 else none
 else none
 else none
 else none
 else none
 else none) fun (v46,v47) =>
 bif (lE v47) then
 some (Sum.inl (tA v47))
 else none) fun v48 =>
 joinO (joinO (bif (decide ((lI a2)<z0)) then
 some (Sum.inl (wI ((lI a2)+(4294967296:Int))))
 else
 some (Sum.inl (lI a2))) fun v50 =>
 joinO (bindO (some (wI (Int.tdiv v50 (256:Int)))) fun x53 =>
 bindO (some ((Go.IntKind.wrap .u8 (Int.tmod x53 (256:Int)))::((Go.IntKind.wrap .u8 (Int.tmod v50 (256:Int)))::([]:List Int)))) fun x56 =>
 bif (lE x56) then
 some (Sum.inl ((wI (Int.tdiv x53 (256:Int))),(tA x56)))
 else none) fun (v58,v59) =>
 bif (lE v59) then
 some (Sum.inl (tA v59))
 else none) fun v60 =>
 bif (lE v60) then
 bif (rO ((tA v60)++(List.map (fun (x61:UInt8)=>(((UInt8.toNat x61):Nat):Int)) a2)) 1) then
 bindO (some ((tA v60)++(List.map (fun (x63:UInt8)=>(((UInt8.toNat x63):Nat):Int)) a2))) fun x62 =>
 bif ((lE x62)&&(lE v48)) then
 bif (rO ((tA v48)++(tA x62)) 1) then
 bindO (some ((tA v48)++(tA x62))) fun x64 =>
 joinO (joinO (bif (decide ((lI a3)<z0)) then
 some (Sum.inl (wI ((lI a3)+(4294967296:Int))))
 else
 some (Sum.inl (lI a3))) fun v66 =>
 joinO (bindO (some (wI (Int.tdiv v66 (256:Int)))) fun x69 =>
 bindO (some ((Go.IntKind.wrap .u8 (Int.tmod x69 (256:Int)))::((Go.IntKind.wrap .u8 (Int.tmod v66 (256:Int)))::([]:List Int)))) fun x72 =>
 bif (lE x72) then
 some (Sum.inl ((wI (Int.tdiv x69 (256:Int))),(tA x72)))
 else none) fun (v74,v75) =>
 bif (lE v75) then
 some (Sum.inl (tA v75))
 else none) fun v76 =>
 bif (lE v76) then
 bif (rO ((tA v76)++(List.map (fun (x77:UInt8)=>(((UInt8.toNat x77):Nat):Int)) a3)) 1) then
 bindO (some ((tA v76)++(List.map (fun (x79:UInt8)=>(((UInt8.toNat x79):Nat):Int)) a3))) fun x78 =>
 bif ((lE x78)&&(lE x64)) then
 bif (rO ((tA x64)++(tA x78)) 1) then
 bindO (some ((tA x64)++(tA x78))) fun x80 =>
 joinO (joinO (bif (decide (a4<z0)) then
 some (Sum.inl (wI (a4+(4294967296:Int))))
 else
 some (Sum.inl a4)) fun v82 =>
 joinO (bindO (some (wI (Int.tdiv v82 (256:Int)))) fun x85 =>
 bindO (some ((Go.IntKind.wrap .u8 (Int.tmod x85 (256:Int)))::((Go.IntKind.wrap .u8 (Int.tmod v82 (256:Int)))::([]:List Int)))) fun x88 =>
 bindO (some (wI (Int.tdiv x85 (256:Int)))) fun x89 =>
 bindO (some (Int.tmod x89 (256:Int))) fun x90 =>
 bif ((lE x88)&&(decide ((1=0)∨((List.length (tA x88))≠0)))) then
 bif (rO (((Go.IntKind.wrap .u8 x90)::([]:List Int))++(tA x88)) 1) then
 bindO (some (((Go.IntKind.wrap .u8 x90)::([]:List Int))++(tA x88))) fun x92 =>
 bindO (some (wI (Int.tdiv x89 (256:Int)))) fun x93 =>
 bindO (some (Int.tmod x93 (256:Int))) fun x94 =>
 bif ((lE x92)&&(decide ((1=0)∨((List.length (tA x92))≠0)))) then
 bif (rO (((Go.IntKind.wrap .u8 x94)::([]:List Int))++(tA x92)) 1) then
 bindO (some (((Go.IntKind.wrap .u8 x94)::([]:List Int))++(tA x92))) fun x96 =>
 bif (lE x96) then
 some (Sum.inl ((wI (Int.tdiv x93 (256:Int))),(tA x96)))
 else none
 else none
 else none
 else none
 else none) fun (v98,v99) =>
 bif (lE v99) then
 some (Sum.inl (tA v99))
 else none) fun v100 =>
 bif ((lE v100)&&(lE x80)) then
 bif (rO ((tA x80)++(tA v100)) 1) then
 bindO (some ((tA x80)++(tA v100))) fun x101 =>
 joinO (bif a5 then
 bif (lE x101) then
 bif (rO ((tA x101)++(z1::([]:List Int))) 1) then
 bindO (some ((tA x101)++(z1::([]:List Int)))) fun x102 =>
 bif (lE x102) then
 some (Sum.inl (tA x102))
 else none
 else none
 else none
 else
 bif (lE x101) then
 bif (rO ((tA x101)++(z0::([]:List Int))) 1) then
 bindO (some ((tA x101)++(z0::([]:List Int)))) fun x103 =>
 bif (lE x103) then
 some (Sum.inl (tA x103))
 else none
 else none
 else none) fun v104 =>
 joinO (joinO (bif (decide (a7<z0)) then
 some (Sum.inl (wI (a7+(4294967296:Int))))
 else
 some (Sum.inl a7)) fun v106 =>
 joinO (bindO (some (wI (Int.tdiv v106 (256:Int)))) fun x109 =>
 bindO (some ((Go.IntKind.wrap .u8 (Int.tmod x109 (256:Int)))::((Go.IntKind.wrap .u8 (Int.tmod v106 (256:Int)))::([]:List Int)))) fun x112 =>
 bindO (some (wI (Int.tdiv x109 (256:Int)))) fun x113 =>
 bindO (some (Int.tmod x113 (256:Int))) fun x114 =>
 bif ((lE x112)&&(decide ((1=0)∨((List.length (tA x112))≠0)))) then
 bif (rO (((Go.IntKind.wrap .u8 x114)::([]:List Int))++(tA x112)) 1) then
 bindO (some (((Go.IntKind.wrap .u8 x114)::([]:List Int))++(tA x112))) fun x116 =>
 bindO (some (wI (Int.tdiv x113 (256:Int)))) fun x117 =>
 bindO (some (Int.tmod x117 (256:Int))) fun x118 =>
 bif ((lE x116)&&(decide ((1=0)∨((List.length (tA x116))≠0)))) then
 bif (rO (((Go.IntKind.wrap .u8 x118)::([]:List Int))++(tA x116)) 1) then
 bindO (some (((Go.IntKind.wrap .u8 x118)::([]:List Int))++(tA x116))) fun x120 =>
 bif (lE x120) then
 some (Sum.inl ((wI (Int.tdiv x117 (256:Int))),(tA x120)))
 else none
 else none
 else none
 else none
 else none) fun (v122,v123) =>
 bif (lE v123) then
 some (Sum.inl (tA v123))
 else none) fun v124 =>
 bif ((lE v124)&&(lE v104)) then
 bif (rO ((tA v104)++(tA v124)) 1) then
 bindO (some ((tA v104)++(tA v124))) fun x125 =>
 joinO (joinO (bif (decide ((lI a8)<z0)) then
 some (Sum.inl (wI ((lI a8)+(4294967296:Int))))
 else
 some (Sum.inl (lI a8))) fun v127 =>
 joinO (bindO (some (wI (Int.tdiv v127 (256:Int)))) fun x130 =>
 bindO (some ((Go.IntKind.wrap .u8 (Int.tmod x130 (256:Int)))::((Go.IntKind.wrap .u8 (Int.tmod v127 (256:Int)))::([]:List Int)))) fun x133 =>
 bif (lE x133) then
 some (Sum.inl ((wI (Int.tdiv x130 (256:Int))),(tA x133)))
 else none) fun (v135,v136) =>
 bif (lE v136) then
 some (Sum.inl (tA v136))
 else none) fun v137 =>
 bif (lE v137) then
 bif (rO ((tA v137)++(List.map (fun (x138:UInt8)=>(((UInt8.toNat x138):Nat):Int)) a8)) 1) then
 bindO (some ((tA v137)++(List.map (fun (x140:UInt8)=>(((UInt8.toNat x140):Nat):Int)) a8))) fun x139 =>
 bif ((lE x139)&&(lE x125)) then
 bif (rO ((tA x125)++(tA x139)) 1) then
 bindO (some ((tA x125)++(tA x139))) fun x141 =>
 joinO (joinO (bif (decide (a9<z0)) then
 some (Sum.inl (wI (a9+(4294967296:Int))))
 else
 some (Sum.inl a9)) fun v143 =>
 joinO (bindO (some (wI (Int.tdiv v143 (256:Int)))) fun x146 =>
 bindO (some ((Go.IntKind.wrap .u8 (Int.tmod x146 (256:Int)))::((Go.IntKind.wrap .u8 (Int.tmod v143 (256:Int)))::([]:List Int)))) fun x149 =>
 bindO (some (wI (Int.tdiv x146 (256:Int)))) fun x150 =>
 bindO (some (Int.tmod x150 (256:Int))) fun x151 =>
 bif ((lE x149)&&(decide ((1=0)∨((List.length (tA x149))≠0)))) then
 bif (rO (((Go.IntKind.wrap .u8 x151)::([]:List Int))++(tA x149)) 1) then
 bindO (some (((Go.IntKind.wrap .u8 x151)::([]:List Int))++(tA x149))) fun x153 =>
 bindO (some (wI (Int.tdiv x150 (256:Int)))) fun x154 =>
 bindO (some (Int.tmod x154 (256:Int))) fun x155 =>
 bif ((lE x153)&&(decide ((1=0)∨((List.length (tA x153))≠0)))) then
 bif (rO (((Go.IntKind.wrap .u8 x155)::([]:List Int))++(tA x153)) 1) then
 bindO (some (((Go.IntKind.wrap .u8 x155)::([]:List Int))++(tA x153))) fun x157 =>
 bif (lE x157) then
 some (Sum.inl ((wI (Int.tdiv x154 (256:Int))),(tA x157)))
 else none
 else none
 else none
 else none
 else none) fun (v159,v160) =>
 bif (lE v160) then
 some (Sum.inl (tA v160))
 else none) fun v161 =>
 bif ((lE v161)&&(lE x141)) then
 bif (rO ((tA x141)++(tA v161)) 1) then
 bindO (some ((tA x141)++(tA v161))) fun x162 =>
 bindO (some (Go.IntKind.wrap .u8 (lI a6))) fun x163 =>
 bif (lE x162) then
 bif (rO ((tA x162)++(x163::([]:List Int))) 1) then
 bindO (some ((tA x162)++(x163::([]:List Int)))) fun x164 =>
 joinO (bif (lE x164) then
 loopO (fun (v165,v166) =>
 bif (decide (v165<(lI a6))) then
 bif (iR v165 a6) then
 bindO a6[(Int.toNat v165)]? fun x167 =>
 joinO (joinO (bif (decide ((lI x167.1)<z0)) then
 some (Sum.inl (wI ((lI x167.1)+(4294967296:Int))))
 else
 some (Sum.inl (lI x167.1))) fun v169 =>
 joinO (bindO (some (wI (Int.tdiv v169 (256:Int)))) fun x172 =>
 bindO (some ((Go.IntKind.wrap .u8 (Int.tmod x172 (256:Int)))::((Go.IntKind.wrap .u8 (Int.tmod v169 (256:Int)))::([]:List Int)))) fun x175 =>
 bif (lE x175) then
 some (Sum.inl ((wI (Int.tdiv x172 (256:Int))),(tA x175)))
 else none) fun (v177,v178) =>
 bif (lE v178) then
 some (Sum.inl (tA v178))
 else none) fun v179 =>
 bif (lE v179) then
 bif (rO ((tA v179)++(List.map (fun (x180:UInt8)=>(((UInt8.toNat x180):Nat):Int)) x167.1)) 1) then
 bindO (some ((tA v179)++(List.map (fun (x182:UInt8)=>(((UInt8.toNat x182):Nat):Int)) x167.1))) fun x181 =>
 bif ((lE x181)&&(lE v166)) then
 bif (rO ((tA v166)++(tA x181)) 1) then
 bindO (some ((tA v166)++(tA x181))) fun x183 =>
 bif (iR v165 a6) then
 bindO a6[(Int.toNat v165)]? fun x184 =>
 joinO (joinO (bif (decide (x184.2.1<z0)) then
 some (Sum.inl (wI (x184.2.1+(4294967296:Int))))
 else
 some (Sum.inl x184.2.1)) fun v186 =>
 joinO (bindO (some (wI (Int.tdiv v186 (256:Int)))) fun x189 =>
 bindO (some ((Go.IntKind.wrap .u8 (Int.tmod x189 (256:Int)))::((Go.IntKind.wrap .u8 (Int.tmod v186 (256:Int)))::([]:List Int)))) fun x192 =>
 bif (lE x192) then
 some (Sum.inl ((wI (Int.tdiv x189 (256:Int))),(tA x192)))
 else none) fun (v194,v195) =>
 bif (lE v195) then
 some (Sum.inl (tA v195))
 else none) fun v196 =>
 bif ((lE v196)&&(lE x183)) then
 bif (rO ((tA x183)++(tA v196)) 1) then
 bindO (some ((tA x183)++(tA v196))) fun x197 =>
 bif (iR v165 a6) then
 bindO a6[(Int.toNat v165)]? fun x198 =>
 joinO (joinO (bif (decide (x198.2.2<z0)) then
 some (Sum.inl (wI (x198.2.2+(4294967296:Int))))
 else
 some (Sum.inl x198.2.2)) fun v200 =>
 joinO (bindO (some (wI (Int.tdiv v200 (256:Int)))) fun x203 =>
 bindO (some ((Go.IntKind.wrap .u8 (Int.tmod x203 (256:Int)))::((Go.IntKind.wrap .u8 (Int.tmod v200 (256:Int)))::([]:List Int)))) fun x206 =>
 bindO (some (wI (Int.tdiv x203 (256:Int)))) fun x207 =>
 bindO (some (Int.tmod x207 (256:Int))) fun x208 =>
 bif ((lE x206)&&(decide ((1=0)∨((List.length (tA x206))≠0)))) then
 bif (rO (((Go.IntKind.wrap .u8 x208)::([]:List Int))++(tA x206)) 1) then
 bindO (some (((Go.IntKind.wrap .u8 x208)::([]:List Int))++(tA x206))) fun x210 =>
 bindO (some (wI (Int.tdiv x207 (256:Int)))) fun x211 =>
 bindO (some (Int.tmod x211 (256:Int))) fun x212 =>
 bif ((lE x210)&&(decide ((1=0)∨((List.length (tA x210))≠0)))) then
 bif (rO (((Go.IntKind.wrap .u8 x212)::([]:List Int))++(tA x210)) 1) then
 bindO (some (((Go.IntKind.wrap .u8 x212)::([]:List Int))++(tA x210))) fun x214 =>
 bif (lE x214) then
 some (Sum.inl ((wI (Int.tdiv x211 (256:Int))),(tA x214)))
 else none
 else none
 else none
 else none
 else none) fun (v216,v217) =>
 bif (lE v217) then
 some (Sum.inl (tA v217))
 else none) fun v218 =>
 bif ((lE v218)&&(lE x197)) then
 bif (rO ((tA x197)++(tA v218)) 1) then
 bindO (some ((tA x197)++(tA v218))) fun x219 =>
 bif (lE x219) then
 some (Sum.inl ((wI (v165+z1)),(tA x219)))
 else none
 else none
 else none
 else none
 else none
 else none
 else none
 else none
 else none
 else none
 else none
 else none
 else
 outO (bif (lE v166) then
 some (Sum.inl (tA v166))
 else none)) (z0,(tA x164))
 else none) fun v221 =>
 bindO (some (Go.IntKind.wrap .u8 (lI a10))) fun x222 =>
 bif (lE v221) then
 bif (rO ((tA v221)++(x222::([]:List Int))) 1) then
 bindO (some ((tA v221)++(x222::([]:List Int)))) fun x223 =>
 joinO (bif (lE x223) then
 loopO (fun (v224,v225) =>
 bif (decide (v224<(lI a10))) then
 bif (iR v224 a10) then
 bindO a10[(Int.toNat v224)]? fun x226 =>
 joinO (joinO (bif (decide ((lI x226)<z0)) then
 some (Sum.inl (wI ((lI x226)+(4294967296:Int))))
 else
 some (Sum.inl (lI x226))) fun v228 =>
 joinO (bindO (some (wI (Int.tdiv v228 (256:Int)))) fun x231 =>
 bindO (some ((Go.IntKind.wrap .u8 (Int.tmod x231 (256:Int)))::((Go.IntKind.wrap .u8 (Int.tmod v228 (256:Int)))::([]:List Int)))) fun x234 =>
 bif (lE x234) then
 some (Sum.inl ((wI (Int.tdiv x231 (256:Int))),(tA x234)))
 else none) fun (v236,v237) =>
 bif (lE v237) then
 some (Sum.inl (tA v237))
 else none) fun v238 =>
 bif (lE v238) then
 bif (rO ((tA v238)++(List.map (fun (x239:UInt8)=>(((UInt8.toNat x239):Nat):Int)) x226)) 1) then
 bindO (some ((tA v238)++(List.map (fun (x241:UInt8)=>(((UInt8.toNat x241):Nat):Int)) x226))) fun x240 =>
 bif ((lE x240)&&(lE v225)) then
 bif (rO ((tA v225)++(tA x240)) 1) then
 bindO (some ((tA v225)++(tA x240))) fun x242 =>
 bif (lE x242) then
 some (Sum.inl ((wI (v224+z1)),(tA x242)))
 else none
 else none
 else none
 else none
 else none
 else none
 else
 outO (bif (lE v225) then
 some (Sum.inl (tA v225))
 else none)) (z0,(tA x223))
 else none) fun v244 =>
 bif (decide ((lI v244) > (4096:Int))) then
 some (([]:List Int),(4:Int))
 else
 bif (lE v244) then
 some ((tA v244),z0)
 else none
 else none
 else none
 else none
 else none
 else none
 else none
 else none
 else none
 else none
 else none
 else none
 else none
 else none
 else none
 else none
 else none
 else none
 else none
 else none
 else none
 else none
 else none
end Go.Proofs.Ytlaccfegaoaakaa

set_option maxRecDepth 100000
set_option maxHeartbeats 4000000
namespace Go.Proofs.Ytlaccfegaoaakaa
open Go.RowKit
noncomputable def rn2 {γ:Type} (N:Int):Option (List Int ⊕ γ) :=
 (joinO (bif (decide (N<(0:Int))) then
 some (Sum.inl (Go.IntKind.wrap .i64 (N+(4294967296:Int))))
 else
 some (Sum.inl N)) fun v50 =>
 joinO (bindO (some (Go.IntKind.wrap .i64 (Int.tdiv v50 (256:Int)))) fun x53 =>
 bindO (some ((Go.IntKind.wrap .u8 (Int.tmod x53 (256:Int)))::((Go.IntKind.wrap .u8 (Int.tmod v50 (256:Int)))::([]:List Int)))) fun x56 =>
 bif (decide ((List.length x56)≤(List.length x56))) then
 some (Sum.inl ((Go.IntKind.wrap .i64 (Int.tdiv x53 (256:Int))),(List.take (List.length x56) x56)))
 else none) fun (v58,v59) =>
 bif (decide ((List.length v59)≤(List.length v59))) then
 some (Sum.inl (List.take (List.length v59) v59))
 else none)
noncomputable def rn4 {γ:Type} (N:Int):Option (List Int ⊕ γ) :=
 (joinO (bif (decide (N<(0:Int))) then
 some (Sum.inl (Go.IntKind.wrap .i64 (N+(4294967296:Int))))
 else
 some (Sum.inl N)) fun v82 =>
 joinO (bindO (some (Go.IntKind.wrap .i64 (Int.tdiv v82 (256:Int)))) fun x85 =>
 bindO (some ((Go.IntKind.wrap .u8 (Int.tmod x85 (256:Int)))::((Go.IntKind.wrap .u8 (Int.tmod v82 (256:Int)))::([]:List Int)))) fun x88 =>
 bindO (some (Go.IntKind.wrap .i64 (Int.tdiv x85 (256:Int)))) fun x89 =>
 bindO (some (Int.tmod x89 (256:Int))) fun x90 =>
 bif ((decide ((List.length x88)≤(List.length x88)))&&(decide ((1=0)∨((List.length (List.take (List.length x88) x88))≠0)))) then
 bif (decide (((List.length (((Go.IntKind.wrap .u8 x90)::([]:List Int))++(List.take (List.length x88) x88)))*1)≤140737488355328)) then
 bindO (some (((Go.IntKind.wrap .u8 x90)::([]:List Int))++(List.take (List.length x88) x88))) fun x92 =>
 bindO (some (Go.IntKind.wrap .i64 (Int.tdiv x89 (256:Int)))) fun x93 =>
 bindO (some (Int.tmod x93 (256:Int))) fun x94 =>
 bif ((decide ((List.length x92)≤(List.length x92)))&&(decide ((1=0)∨((List.length (List.take (List.length x92) x92))≠0)))) then
 bif (decide (((List.length (((Go.IntKind.wrap .u8 x94)::([]:List Int))++(List.take (List.length x92) x92)))*1)≤140737488355328)) then
 bindO (some (((Go.IntKind.wrap .u8 x94)::([]:List Int))++(List.take (List.length x92) x92))) fun x96 =>
 bif (decide ((List.length x96)≤(List.length x96))) then
 some (Sum.inl ((Go.IntKind.wrap .i64 (Int.tdiv x93 (256:Int))),(List.take (List.length x96) x96)))
 else none
 else none
 else none
 else none
 else none) fun (v98,v99) =>
 bif (decide ((List.length v99)≤(List.length v99))) then
 some (Sum.inl (List.take (List.length v99) v99))
 else none)
noncomputable def rn8 {γ:Type} (N:Int):Option (List Int ⊕ γ) :=
 (joinO (bif (decide (N<(0:Int))) then
 some (Sum.inl (Go.IntKind.wrap .i64 (N+(4294967296:Int))))
 else
 some (Sum.inl N)) fun v14 =>
 joinO (bindO (some (Go.IntKind.wrap .i64 (Int.tdiv v14 (256:Int)))) fun x17 =>
 bindO (some ((Go.IntKind.wrap .u8 (Int.tmod x17 (256:Int)))::((Go.IntKind.wrap .u8 (Int.tmod v14 (256:Int)))::([]:List Int)))) fun x20 =>
 bindO (some (Go.IntKind.wrap .i64 (Int.tdiv x17 (256:Int)))) fun x21 =>
 bindO (some (Int.tmod x21 (256:Int))) fun x22 =>
 bif ((decide ((List.length x20)≤(List.length x20)))&&(decide ((1=0)∨((List.length (List.take (List.length x20) x20))≠0)))) then
 bif (decide (((List.length (((Go.IntKind.wrap .u8 x22)::([]:List Int))++(List.take (List.length x20) x20)))*1)≤140737488355328)) then
 bindO (some (((Go.IntKind.wrap .u8 x22)::([]:List Int))++(List.take (List.length x20) x20))) fun x24 =>
 bindO (some (Go.IntKind.wrap .i64 (Int.tdiv x21 (256:Int)))) fun x25 =>
 bindO (some (Int.tmod x25 (256:Int))) fun x26 =>
 bif ((decide ((List.length x24)≤(List.length x24)))&&(decide ((1=0)∨((List.length (List.take (List.length x24) x24))≠0)))) then
 bif (decide (((List.length (((Go.IntKind.wrap .u8 x26)::([]:List Int))++(List.take (List.length x24) x24)))*1)≤140737488355328)) then
 bindO (some (((Go.IntKind.wrap .u8 x26)::([]:List Int))++(List.take (List.length x24) x24))) fun x28 =>
 bindO (some (Go.IntKind.wrap .i64 (Int.tdiv x25 (256:Int)))) fun x29 =>
 bindO (some (Int.tmod x29 (256:Int))) fun x30 =>
 bif ((decide ((List.length x28)≤(List.length x28)))&&(decide ((1=0)∨((List.length (List.take (List.length x28) x28))≠0)))) then
 bif (decide (((List.length (((Go.IntKind.wrap .u8 x30)::([]:List Int))++(List.take (List.length x28) x28)))*1)≤140737488355328)) then
 bindO (some (((Go.IntKind.wrap .u8 x30)::([]:List Int))++(List.take (List.length x28) x28))) fun x32 =>
 bindO (some (Go.IntKind.wrap .i64 (Int.tdiv x29 (256:Int)))) fun x33 =>
 bindO (some (Int.tmod x33 (256:Int))) fun x34 =>
 bif ((decide ((List.length x32)≤(List.length x32)))&&(decide ((1=0)∨((List.length (List.take (List.length x32) x32))≠0)))) then
 bif (decide (((List.length (((Go.IntKind.wrap .u8 x34)::([]:List Int))++(List.take (List.length x32) x32)))*1)≤140737488355328)) then
 bindO (some (((Go.IntKind.wrap .u8 x34)::([]:List Int))++(List.take (List.length x32) x32))) fun x36 =>
 bindO (some (Go.IntKind.wrap .i64 (Int.tdiv x33 (256:Int)))) fun x37 =>
 bindO (some (Int.tmod x37 (256:Int))) fun x38 =>
 bif ((decide ((List.length x36)≤(List.length x36)))&&(decide ((1=0)∨((List.length (List.take (List.length x36) x36))≠0)))) then
 bif (decide (((List.length (((Go.IntKind.wrap .u8 x38)::([]:List Int))++(List.take (List.length x36) x36)))*1)≤140737488355328)) then
 bindO (some (((Go.IntKind.wrap .u8 x38)::([]:List Int))++(List.take (List.length x36) x36))) fun x40 =>
 bindO (some (Go.IntKind.wrap .i64 (Int.tdiv x37 (256:Int)))) fun x41 =>
 bindO (some (Int.tmod x41 (256:Int))) fun x42 =>
 bif ((decide ((List.length x40)≤(List.length x40)))&&(decide ((1=0)∨((List.length (List.take (List.length x40) x40))≠0)))) then
 bif (decide (((List.length (((Go.IntKind.wrap .u8 x42)::([]:List Int))++(List.take (List.length x40) x40)))*1)≤140737488355328)) then
 bindO (some (((Go.IntKind.wrap .u8 x42)::([]:List Int))++(List.take (List.length x40) x40))) fun x44 =>
 bif (decide ((List.length x44)≤(List.length x44))) then
 some (Sum.inl ((Go.IntKind.wrap .i64 (Int.tdiv x41 (256:Int))),(List.take (List.length x44) x44)))
 else none
 else none
 else none
 else none
 else none
 else none
 else none
 else none
 else none
 else none
 else none
 else none
 else none) fun (v46,v47) =>
 bif (decide ((List.length v47)≤(List.length v47))) then
 some (Sum.inl (List.take (List.length v47) v47))
 else none)
noncomputable def rcE {γ:Type} (a6:List Ct):(Int×List Int)→Option ((Int×List Int) ⊕ (List Int ⊕ γ)) :=
(fun (v165,v166) =>
 bif (decide (v165<(((List.length a6):Nat):Int))) then
 bif (decide (((0:Int)≤v165)∧(v165<(((List.length a6):Nat):Int)))) then
 bindO a6[(Int.toNat v165)]? fun x167 =>
 joinO (rn2 (((List.length x167.1):Nat):Int)) fun v179 =>
 bif (decide ((List.length v179)≤(List.length v179))) then
 bif (decide (((List.length ((List.take (List.length v179) v179)++(List.map (fun (x180:UInt8)=>(((UInt8.toNat x180):Nat):Int)) x167.1)))*1)≤140737488355328)) then
 bindO (some ((List.take (List.length v179) v179)++(List.map (fun (x182:UInt8)=>(((UInt8.toNat x182):Nat):Int)) x167.1))) fun x181 =>
 bif ((decide ((List.length x181)≤(List.length x181)))&&(decide ((List.length v166)≤(List.length v166)))) then
 bif (decide (((List.length ((List.take (List.length v166) v166)++(List.take (List.length x181) x181)))*1)≤140737488355328)) then
 bindO (some ((List.take (List.length v166) v166)++(List.take (List.length x181) x181))) fun x183 =>
 bif (decide (((0:Int)≤v165)∧(v165<(((List.length a6):Nat):Int)))) then
 bindO a6[(Int.toNat v165)]? fun x184 =>
 joinO (rn2 x184.2.1) fun v196 =>
 bif ((decide ((List.length v196)≤(List.length v196)))&&(decide ((List.length x183)≤(List.length x183)))) then
 bif (decide (((List.length ((List.take (List.length x183) x183)++(List.take (List.length v196) v196)))*1)≤140737488355328)) then
 bindO (some ((List.take (List.length x183) x183)++(List.take (List.length v196) v196))) fun x197 =>
 bif (decide (((0:Int)≤v165)∧(v165<(((List.length a6):Nat):Int)))) then
 bindO a6[(Int.toNat v165)]? fun x198 =>
 joinO (rn4 x198.2.2) fun v218 =>
 bif ((decide ((List.length v218)≤(List.length v218)))&&(decide ((List.length x197)≤(List.length x197)))) then
 bif (decide (((List.length ((List.take (List.length x197) x197)++(List.take (List.length v218) v218)))*1)≤140737488355328)) then
 bindO (some ((List.take (List.length x197) x197)++(List.take (List.length v218) v218))) fun x219 =>
 bif (decide ((List.length x219)≤(List.length x219))) then
 some (Sum.inl ((Go.IntKind.wrap .i64 (v165+(1:Int))),(List.take (List.length x219) x219)))
 else none
 else none
 else none
 else none
 else none
 else none
 else none
 else none
 else none
 else none
 else none
 else none
 else
 outO (bif (decide ((List.length v166)≤(List.length v166))) then
 some (Sum.inl (List.take (List.length v166) v166))
 else none))
noncomputable def rpE {γ:Type} (a10:List Tx):(Int×List Int)→Option ((Int×List Int) ⊕ (List Int ⊕ γ)) :=
(fun (v224,v225) =>
 bif (decide (v224<(((List.length a10):Nat):Int))) then
 bif (decide (((0:Int)≤v224)∧(v224<(((List.length a10):Nat):Int)))) then
 bindO a10[(Int.toNat v224)]? fun x226 =>
 joinO (rn2 (((List.length x226):Nat):Int)) fun v238 =>
 bif (decide ((List.length v238)≤(List.length v238))) then
 bif (decide (((List.length ((List.take (List.length v238) v238)++(List.map (fun (x239:UInt8)=>(((UInt8.toNat x239):Nat):Int)) x226)))*1)≤140737488355328)) then
 bindO (some ((List.take (List.length v238) v238)++(List.map (fun (x241:UInt8)=>(((UInt8.toNat x241):Nat):Int)) x226))) fun x240 =>
 bif ((decide ((List.length x240)≤(List.length x240)))&&(decide ((List.length v225)≤(List.length v225)))) then
 bif (decide (((List.length ((List.take (List.length v225) v225)++(List.take (List.length x240) x240)))*1)≤140737488355328)) then
 bindO (some ((List.take (List.length v225) v225)++(List.take (List.length x240) x240))) fun x242 =>
 bif (decide ((List.length x242)≤(List.length x242))) then
 some (Sum.inl ((Go.IntKind.wrap .i64 (v224+(1:Int))),(List.take (List.length x242) x242)))
 else none
 else none
 else none
 else none
 else none
 else none
 else
 outO (bif (decide ((List.length v225)≤(List.length v225))) then
 some (Sum.inl (List.take (List.length v225) v225))
 else none))
theorem encR_eq (a1:Int) (a2 a3:Tx) (a4:Int) (a5:Bool) (a6:List Ct) (a7:Int) (a8:Tx) (a9:Int) (a10:List Tx):encR (a1,(a2,(a3,(a4,(a5,(a6,(a7,(a8,(a9,a10))))))))) =
 bindO (dialtoneref22_Formed (a2,(a3,(a4,(a5,(a6,(a7,(a8,(a9,a10))))))))) fun x11 =>
 bif (!x11) then
  some (([]:List Int),(2:Int))
 else
  bindO (dialtoneref22_within (a1,((0:Int),(1099511627776:Int)))) fun x12 =>
  bif (!x12) then
   some (([]:List Int),(2:Int))
  else
   joinO (rn8 a1) fun v48 =>
   joinO (rn2 (((List.length a2):Nat):Int)) fun v60 =>
   bif (decide ((List.length v60)≤(List.length v60))) then
    bif (decide (((List.length ((List.take (List.length v60) v60)++(List.map (fun (x61:UInt8)=>(((UInt8.toNat x61):Nat):Int)) a2)))*1)≤140737488355328)) then
     bindO (some ((List.take (List.length v60) v60)++(List.map (fun (x63:UInt8)=>(((UInt8.toNat x63):Nat):Int)) a2))) fun x62 =>
     bif ((decide ((List.length x62)≤(List.length x62)))&&(decide ((List.length v48)≤(List.length v48)))) then
      bif (decide (((List.length ((List.take (List.length v48) v48)++(List.take (List.length x62) x62)))*1)≤140737488355328)) then
       bindO (some ((List.take (List.length v48) v48)++(List.take (List.length x62) x62))) fun x64 =>
       joinO (rn2 (((List.length a3):Nat):Int)) fun v76 =>
       bif (decide ((List.length v76)≤(List.length v76))) then
        bif (decide (((List.length ((List.take (List.length v76) v76)++(List.map (fun (x77:UInt8)=>(((UInt8.toNat x77):Nat):Int)) a3)))*1)≤140737488355328)) then
         bindO (some ((List.take (List.length v76) v76)++(List.map (fun (x79:UInt8)=>(((UInt8.toNat x79):Nat):Int)) a3))) fun x78 =>
         bif ((decide ((List.length x78)≤(List.length x78)))&&(decide ((List.length x64)≤(List.length x64)))) then
          bif (decide (((List.length ((List.take (List.length x64) x64)++(List.take (List.length x78) x78)))*1)≤140737488355328)) then
           bindO (some ((List.take (List.length x64) x64)++(List.take (List.length x78) x78))) fun x80 =>
           joinO (rn4 a4) fun v100 =>
           bif ((decide ((List.length v100)≤(List.length v100)))&&(decide ((List.length x80)≤(List.length x80)))) then
            bif (decide (((List.length ((List.take (List.length x80) x80)++(List.take (List.length v100) v100)))*1)≤140737488355328)) then
             bindO (some ((List.take (List.length x80) x80)++(List.take (List.length v100) v100))) fun x101 =>
             joinO (bif a5 then
 bif (decide ((List.length x101)≤(List.length x101))) then
 bif (decide (((List.length ((List.take (List.length x101) x101)++((1:Int)::([]:List Int))))*1)≤140737488355328)) then
 bindO (some ((List.take (List.length x101) x101)++((1:Int)::([]:List Int)))) fun x102 =>
 bif (decide ((List.length x102)≤(List.length x102))) then
 some (Sum.inl (List.take (List.length x102) x102))
 else none
 else none
 else none
 else
 bif (decide ((List.length x101)≤(List.length x101))) then
 bif (decide (((List.length ((List.take (List.length x101) x101)++((0:Int)::([]:List Int))))*1)≤140737488355328)) then
 bindO (some ((List.take (List.length x101) x101)++((0:Int)::([]:List Int)))) fun x103 =>
 bif (decide ((List.length x103)≤(List.length x103))) then
 some (Sum.inl (List.take (List.length x103) x103))
 else none
 else none
 else none) fun v104 =>
             joinO (rn4 a7) fun v124 =>
             bif ((decide ((List.length v124)≤(List.length v124)))&&(decide ((List.length v104)≤(List.length v104)))) then
              bif (decide (((List.length ((List.take (List.length v104) v104)++(List.take (List.length v124) v124)))*1)≤140737488355328)) then
               bindO (some ((List.take (List.length v104) v104)++(List.take (List.length v124) v124))) fun x125 =>
               joinO (rn2 (((List.length a8):Nat):Int)) fun v137 =>
               bif (decide ((List.length v137)≤(List.length v137))) then
                bif (decide (((List.length ((List.take (List.length v137) v137)++(List.map (fun (x138:UInt8)=>(((UInt8.toNat x138):Nat):Int)) a8)))*1)≤140737488355328)) then
                 bindO (some ((List.take (List.length v137) v137)++(List.map (fun (x140:UInt8)=>(((UInt8.toNat x140):Nat):Int)) a8))) fun x139 =>
                 bif ((decide ((List.length x139)≤(List.length x139)))&&(decide ((List.length x125)≤(List.length x125)))) then
                  bif (decide (((List.length ((List.take (List.length x125) x125)++(List.take (List.length x139) x139)))*1)≤140737488355328)) then
                   bindO (some ((List.take (List.length x125) x125)++(List.take (List.length x139) x139))) fun x141 =>
                   joinO (rn4 a9) fun v161 =>
                   bif ((decide ((List.length v161)≤(List.length v161)))&&(decide ((List.length x141)≤(List.length x141)))) then
                    bif (decide (((List.length ((List.take (List.length x141) x141)++(List.take (List.length v161) v161)))*1)≤140737488355328)) then
                     bindO (some ((List.take (List.length x141) x141)++(List.take (List.length v161) v161))) fun x162 =>
                     bindO (some (Go.IntKind.wrap .u8 (((List.length a6):Nat):Int))) fun x163 =>
                     bif (decide ((List.length x162)≤(List.length x162))) then
                      bif (decide (((List.length ((List.take (List.length x162) x162)++(x163::([]:List Int))))*1)≤140737488355328)) then
                       bindO (some ((List.take (List.length x162) x162)++(x163::([]:List Int)))) fun x164 =>
                       joinO (bif (decide ((List.length x164)≤(List.length x164))) then
 loopO (rcE a6) ((0:Int),(List.take (List.length x164) x164))
 else none) fun v221 =>
                       bindO (some (Go.IntKind.wrap .u8 (((List.length a10):Nat):Int))) fun x222 =>
                       bif (decide ((List.length v221)≤(List.length v221))) then
                        bif (decide (((List.length ((List.take (List.length v221) v221)++(x222::([]:List Int))))*1)≤140737488355328)) then
                         bindO (some ((List.take (List.length v221) v221)++(x222::([]:List Int)))) fun x223 =>
                         joinO (bif (decide ((List.length x223)≤(List.length x223))) then
 loopO (rpE a10) ((0:Int),(List.take (List.length x223) x223))
 else none) fun v244 =>
                         bif (decide ((((List.length v244):Nat):Int) > (4096:Int))) then
                          some (([]:List Int),(4:Int))
                         else
                          bif (decide ((List.length v244)≤(List.length v244))) then
                           some ((List.take (List.length v244) v244),(0:Int))
                          else none
                        else none
                       else none
                      else none
                     else none
                    else none
                   else none
                  else none
                 else none
                else none
               else none
              else none
             else none
            else none
           else none
          else none
         else none
        else none
       else none
      else none
     else none
    else none
   else none:=rfl
theorem tm_nn {a:Int} (h:0≤a):Int.tmod a 256=a % 256:=Int.tmod_eq_emod_of_nonneg h
theorem td_nn {a:Int} (h:0≤a):Int.tdiv a 256=a / 256:=Int.tdiv_eq_ediv_of_nonneg h
theorem wu8m (a:Int):IntKind.wrap .u8 (a % 256)=a % 256:=by rw [wr_u8];omega
theorem ne0 {α:Type} (x:α) (l:List α):((1=0)∨((x::l).length≠0)) := .inr (by simp)
section
variable {γ:Type} {N:Int} (h : -1≤N∧N≤1099511627776)
include h
theorem u4_nn:0≤u4 N∧u4 N≤1099511627776:=by unfold u4;split<;>omega
theorem u4_if:(bif decide (N<(0:Int)) then (some (Sum.inl (IntKind.wrap .i64 (N+4294967296))):Option (Int ⊕ (List Int ⊕ γ))) else some (Sum.inl N))=some (.inl (u4 N)):=by
 unfold u4
 by_cases g:N<0
 ·rw [decide_eq_true g,cond_true,wrap_i64' (by omega),if_pos g]
 ·rw [decide_eq_false g,cond_false,if_neg g]
theorem rn2_j:rn2 (γ:=γ) N=some (.inl (be (u4 N) 2)):=by
 have hn:=u4_nn h
 unfold rn2
 rw [u4_if h,joinO_inl]
 generalize u4 N=n at hn
 simp (disch:=(first | omega | (simp only [LNl];omega))) only [↓SDl,SDr,tm_nn,td_nn,wrap_i64',wu8m]
 rfl
theorem rn4_j:rn4 (γ:=γ) N=some (.inl (be (u4 N) 4)):=by
 have hn:=u4_nn h
 unfold rn4
 rw [u4_if h,joinO_inl]
 generalize u4 N=n at hn
 simp (disch:=(first | omega | (simp only [LNl];omega))) only [↓SDl,SDr,tm_nn,td_nn,wrap_i64',wu8m,and_dec,if_pos,ne0,and_self,decide_true,Bool.and_self,List.length_cons,List.length_nil,List.cons_append,List.nil_append]
 rfl
theorem rn8_j:rn8 (γ:=γ) N=some (.inl (be (u4 N) 8)):=by
 have hn:=u4_nn h
 unfold rn8
 rw [u4_if h,joinO_inl]
 generalize u4 N=n at hn
 simp (disch:=(first | omega | (simp only [LNl];omega))) only [↓SDl,SDr,tm_nn,td_nn,wrap_i64',wu8m,and_dec,if_pos,ne0,and_self,decide_true,Bool.and_self,List.length_cons,List.length_nil,List.cons_append,List.nil_append]
 rfl
end
section
variable {γ:Type} {N:Int} (f:List Int→Option γ)
theorem rn2_b (h:0≤N∧N≤1099511627776):joinO (rn2 N) f=f (be N 2):=by
 rw [rn2_j ⟨by omega,h.2⟩,show u4 N=N from if_neg (by omega)];rfl
theorem rn8_b (h:0≤N∧N≤1099511627776):joinO (rn8 N) f=f (be N 8):=by
 rw [rn8_j ⟨by omega,h.2⟩,show u4 N=N from if_neg (by omega)];rfl
theorem rn4_b (h : -1≤N∧N≤1099511627776):joinO (rn4 N) f=f (be (u4 N) 4):=by
 rw [rn4_j h];rfl
end
theorem wu8n {a:Int} (h:0≤a∧a≤255):IntKind.wrap .u8 a=a:=by rw [wr_u8];omega
theorem rcE_j {γ:Type} (l:List Ct) (b:List Int) (hl:l.length≤20) (hc:∀i,i<l.length→CW (l.getD i c0)) (hb:b.length≤100000):loopO (rcE (γ:=γ) l) (0,b)=some (.inl (b++l.flatMap ec)):=by
 refine loopO_from (fun i=>((i:Int),b++(l.take i).flatMap ec)) l.length (by simp) (fun i hi => ?_) ?_
 ·obtain ⟨x,hx,hxb⟩:=get_at c0 hi
  have hcw:=hc i hi
  have ht:=take_snoc l c0 hi
  rw [hx] at hcw ht
  obtain ⟨h1,h2,h3⟩:=hcw
  have hF:((l.take i).flatMap ec).length≤1010*20:=by
   refine Nat.le_trans (flat_len ec _ 1010 fun y hy => ?_) (Nat.mul_le_mul_left _ (by rw [List.length_take];omega))
   obtain ⟨q,hq,rfl⟩:=List.getElem_of_mem hy
   rw [ec_len]
   have hq':q<i∧q<l.length:=by rw [List.length_take] at hq;omega
   have:=(hc q hq'.2).1.2
   rw [getD_get c0 hq'.2] at this
   rw [List.getElem_take]
   omega
  have hfl:(l.take (i+1)).flatMap ec=(l.take i).flatMap ec++ec x:=by rw [ht,List.flatMap_append];simp
  rw [hfl]
  generalize (l.take i).flatMap ec=F at hF ⊢
  have hu:x.1.length≤1000:=by have:=h1.2;omega
  unfold rcE
  simp (disch:=(first | omega | (simp only [List.length_append,List.length_cons,List.length_nil,List.length_map,be_len];omega))) only [↓SDl,SDr,if_pos,if_neg,↓hxb,↓rn2_b,↓rn4_b,wrap_i64',nots,and_dec,and_self,decide_true,Bool.and_self]
  unfold ec et
  simp only [List.append_assoc,map_tb]
 ·unfold rcE
  simp (disch:=(first | omega | (simp only [LNl];omega))) only [↓SDl,SDr,if_neg,List.take_length]
theorem rpE_j {γ:Type} (l:List Tx) (b:List Int) (hl:l.length≤20) (hc:∀i,i<l.length→POK l i) (hb:b.length≤100000):loopO (rpE (γ:=γ) l) (0,b)=some (.inl (b++l.flatMap et)):=by
 refine loopO_from (fun i=>((i:Int),b++(l.take i).flatMap et)) l.length (by simp) (fun i hi => ?_) ?_
 ·obtain ⟨x,hx,hxb⟩:=get_at ([]:Tx) hi
  have hcw:Ln (l.getD i []).length 1000:=hc i hi
  have ht:=take_snoc l [] hi
  rw [hx] at hcw ht
  have hF:((l.take i).flatMap et).length≤1010*20:=by
   refine Nat.le_trans (flat_len et _ 1010 fun y hy => ?_) (Nat.mul_le_mul_left _ (by rw [List.length_take];omega))
   obtain ⟨q,hq,rfl⟩:=List.getElem_of_mem hy
   rw [et_len]
   have hq':q<i∧q<l.length:=by rw [List.length_take] at hq;omega
   have:Ln (l.getD q []).length 1000:=hc q hq'.2
   rw [getD_get [] hq'.2] at this
   rw [List.getElem_take]
   omega
  have hfl:(l.take (i+1)).flatMap et=(l.take i).flatMap et++et x:=by rw [ht,List.flatMap_append];simp
  rw [hfl]
  generalize (l.take i).flatMap et=F at hF ⊢
  have hu:x.length≤1000:=by have:=hcw.2;omega
  unfold rpE
  simp (disch:=(first | omega | (simp only [List.length_append,List.length_cons,List.length_nil,List.length_map,be_len];omega))) only [↓SDl,SDr,if_pos,if_neg,↓hxb,↓rn2_b,wrap_i64',nots,and_dec,and_self,decide_true,Bool.and_self]
  unfold et
  simp only [List.append_assoc,map_tb]
 ·unfold rpE
  simp (disch:=(first | omega | (simp only [LNl];omega))) only [↓SDl,SDr,if_neg,List.take_length]
theorem rcE_b {γ:Type} (l:List Ct) (b:List Int) (f:List Int→Option γ) (hl:l.length≤20) (hc:∀i,i<l.length→CW (l.getD i c0)) (hb:b.length≤100000):joinO (loopO (rcE l) (0,b)) f=f (b++l.flatMap ec):=by rw [rcE_j l b hl hc hb];rfl
theorem rpE_b {γ:Type} (l:List Tx) (b:List Int) (f:List Int→Option γ) (hl:l.length≤20) (hc:∀i,i<l.length→POK l i) (hb:b.length≤100000):joinO (loopO (rpE l) (0,b)) f=f (b++l.flatMap et):=by rw [rpE_j l b hl hc hb];rfl
open Classical in
theorem formR_b {β:Type} (a1 a2:Tx) (a3:Int) (a4:Bool) (a5:List Ct) (a6:Int) (a7:Tx) (a8:Int) (a9:List Tx) (k:Bool→Option β):bindO (dialtoneref22_Formed (a1,(a2,(a3,(a4,(a5,(a6,(a7,(a8,a9))))))))) k=k (decide (FM a1 a2 a3 a4 a5 a6 a7 a8 a9)):=by
 rcases formedR_j a1 a2 a3 a4 a5 a6 a7 a8 a9 with ⟨h,e⟩ | ⟨h,e⟩
 ·obtain ⟨⟨q1,q2⟩,⟨⟨⟨q3,q4⟩,q5⟩,q6,q7⟩,⟨q8,q9⟩,q10⟩:=h
  rw [e,decide_eq_true (show FM a1 a2 a3 a4 a5 a6 a7 a8 a9 from ⟨q1,⟨q2,q3,q9⟩,q4,q6,q7,q8,q5,q10⟩)];rfl
 ·rw [e,decide_eq_false (show ¬FM a1 a2 a3 a4 a5 a6 a7 a8 a9 from fun ⟨q1,⟨q2,q3,q9⟩,q4,q6,q7,q8,q5,q10⟩=>h ⟨⟨q1,q2⟩,⟨⟨⟨q3,q4⟩,q5⟩,q6,q7⟩,⟨q8,q9⟩,q10⟩)];rfl
open Classical in
theorem formR_t {β:Type} {a1 a2:Tx} {a3:Int} {a4:Bool} {a5:List Ct} {a6:Int} {a7:Tx} {a8:Int} {a9:List Tx} (k:Bool→Option β) (h:FM a1 a2 a3 a4 a5 a6 a7 a8 a9):bindO (dialtoneref22_Formed (a1,(a2,(a3,(a4,(a5,(a6,(a7,(a8,a9))))))))) k=k true:=by rw [formR_b,decide_eq_true h]
section
variable {γ:Type} (x v:List Int) (F:List Int→Option γ) (hx:x.length≤100000) (hv:v.length≤1000)
include hx
theorem byte_step (c:Int):(bif decide (List.length x≤List.length x) then bif decide ((List.length (List.take (List.length x) x++(c::[])))*1≤140737488355328) then bindO (some (List.take (List.length x) x++(c::[]))) F else none else none)=F (x++[c]):=by
 simp (disch:=(first | omega | (simp only [LNl];omega))) only [↓SDl,SDr,if_pos]
theorem rc_step (l:List Ct) (hl:l.length≤20) (hc:∀i,i<l.length→CW (l.getD i c0)):joinO (bif decide (List.length x≤List.length x) then loopO (rcE l) ((0:Int),List.take (List.length x) x) else none) F=F (x++l.flatMap ec):=by
 simp (disch:=(first | omega | (simp only [LNl];omega))) only [↓SDl,SDr,if_pos]
 exact rcE_b l x F hl hc hx
theorem rp_step (l:List Tx) (hl:l.length≤20) (hc:∀i,i<l.length→POK l i):joinO (bif decide (List.length x≤List.length x) then loopO (rpE l) ((0:Int),List.take (List.length x) x) else none) F=F (x++l.flatMap et):=by
 simp (disch:=(first | omega | (simp only [LNl];omega))) only [↓SDl,SDr,if_pos]
 exact rpE_b l x F hl hc hx
include hv
theorem num_step:(bif (decide (List.length v≤List.length v)&&decide (List.length x≤List.length x)) then bif decide ((List.length (List.take (List.length x) x++List.take (List.length v) v))*1≤140737488355328) then bindO (some (List.take (List.length x) x++List.take (List.length v) v)) F else none else none)=F (x++v):=by
 simp (disch:=(first | omega | (simp only [LNl];omega))) only [↓SDl,SDr,if_pos]
theorem tx_step (s:Tx) (hs:s.length≤1000):(bif decide (List.length v≤List.length v) then bif decide ((List.length (List.take (List.length v) v++List.map (fun (x:UInt8)=>(((UInt8.toNat x):Nat):Int)) s))*1≤140737488355328) then bindO (some (List.take (List.length v) v++List.map (fun (x:UInt8)=>(((UInt8.toNat x):Nat):Int)) s)) (fun y=>bif (decide (List.length y≤List.length y)&&decide (List.length x≤List.length x)) then bif decide ((List.length (List.take (List.length x) x++List.take (List.length y) y))*1≤140737488355328) then bindO (some (List.take (List.length x) x++List.take (List.length y) y)) F else none else none) else none else none)=F (x++(v++tb s)):=by
 simp (disch:=(first | omega | (simp only [List.length_append,List.length_map];omega))) only [↓SDl,SDr,if_pos]
 rfl
end
theorem encR_j {now:Int} {a1 a2:Tx} {a3:Int} {a4:Bool} {a5:List Ct} {a6:Int} {a7:Tx} {a8:Int} {a9:List Tx} (h:EOK now a1 a2 a3 a4 a5 a6 a7 a8 a9) :
 encR (now,(a1,(a2,(a3,(a4,(a5,(a6,(a7,(a8,a9)))))))))=some (if ((ENC now a1 a2 a3 a4 a5 a6 a7 a8 a9).length:Int) > 4096 then ([],4) else (ENC now a1 a2 a3 a4 a5 a6 a7 a8 a9,0)):=by
 rw [encR_eq]
 obtain ⟨hF,n0,n1⟩:=h
 obtain ⟨⟨f1,f2,f3⟩,⟨f4,f5,f6⟩,f7,f8,f9,f10,f11,f12⟩:=id hF
 have hn:0≤now∧now≤1099511627776:=⟨n0,n1⟩
 have l1:a1.length≤255:=by have:=f1.2;omega
 have l2:a2.length≤255:=by have:=f2.2;omega
 have g5:=flat_ec f5 (fun i hi=>(f11 i hi).1)
 have g9:=flat_et (l:=a9) (by omega) f12
 have hec:∀i,i<a5.length→CW (a5.getD i c0):=fun i hi=>(f11 i hi).1
 have e5:IntKind.wrap .u8 (a5.length:Int)=(a5.length:Int):=wu8n (by omega)
 have e9:IntKind.wrap .u8 (a9.length:Int)=(a9.length:Int):=wu8n (by omega)
 have e3:u4 a3=a3:=if_neg (by omega)
 have e8:u4 a8=a8:=if_neg (by omega)
 have key:∀(X Y:List Int),X=Y→(bif decide (((X.length:Nat):Int) > 4096) then some (([]:List Int),(4:Int)) else bif decide (List.length X≤List.length X) then some (List.take (List.length X) X,0) else none)=some (if ((Y.length:Nat):Int) > 4096 then ([],4) else (Y,0)):=fun X Y e=>by
  subst e
  simp only [↓SDl,SDr]
  split<;>rfl
 rw [formR_t _ hF]
 simp only [Bool.not_true,cond_false]
 rw [withinR_b,decide_eq_true hn]
 simp only [Bool.not_true,cond_false]
 rw [rn8_b _ hn]
 obtain ⟨B0,hB0,mB0⟩:∃B,B=be now 8∧B.length≤1000:=⟨_,rfl,by rw [be_len];omega⟩
 rw [←hB0]
 rw [rn2_b _ (by omega)]
 obtain ⟨V1,hV1,kV1⟩:∃B,B=be (a1.length:Int) 2∧B.length≤1000:=⟨_,rfl,by rw [be_len];omega⟩
 rw [←hV1]
 refine (tx_step B0 V1 _ (by omega) kV1 a1 (by omega)).trans ?_
 obtain ⟨B1,hB1,mB1⟩:∃B,B=B0++(V1++tb a1)∧B.length≤3000:=⟨_,rfl,by simp only [List.length_append,tb_len,List.length_cons,List.length_nil];omega⟩
 rw [←hB1]
 rw [rn2_b _ (by omega)]
 obtain ⟨V2,hV2,kV2⟩:∃B,B=be (a2.length:Int) 2∧B.length≤1000:=⟨_,rfl,by rw [be_len];omega⟩
 rw [←hV2]
 refine (tx_step B1 V2 _ (by omega) kV2 a2 (by omega)).trans ?_
 obtain ⟨B2,hB2,mB2⟩:∃B,B=B1++(V2++tb a2)∧B.length≤6000:=⟨_,rfl,by simp only [List.length_append,tb_len,List.length_cons,List.length_nil];omega⟩
 rw [←hB2]
 rw [rn4_b _ (by omega),e3]
 obtain ⟨V3,hV3,kV3⟩:∃B,B=be a3 4∧B.length≤1000:=⟨_,rfl,by rw [be_len];omega⟩
 rw [←hV3]
 refine (num_step B2 V3 _ (by omega) kV3).trans ?_
 obtain ⟨B3,hB3,mB3⟩:∃B,B=B2++V3∧B.length≤7000:=⟨_,rfl,by simp only [List.length_append,tb_len,List.length_cons,List.length_nil];omega⟩
 rw [←hB3]
 have hst:∀ {γ:Type},(bif a4 then (bif decide (List.length B3≤List.length B3) then bif decide ((List.length (List.take (List.length B3) B3++((1:Int)::[])))*1≤140737488355328) then bindO (some (List.take (List.length B3) B3++((1:Int)::[]))) (fun x102=>bif decide (List.length x102≤List.length x102) then some (Sum.inl (List.take (List.length x102) x102)) else none) else none else none) else (bif decide (List.length B3≤List.length B3) then bif decide ((List.length (List.take (List.length B3) B3++((0:Int)::[])))*1≤140737488355328) then bindO (some (List.take (List.length B3) B3++((0:Int)::[]))) (fun x103=>bif decide (List.length x103≤List.length x103) then some (Sum.inl (List.take (List.length x103) x103)) else none) else none else none):Option (List Int ⊕ γ))=some (.inl (B3++[if a4=true then 1 else 0])):=fun {γ}=>by
  cases a4 with
  | true=>rw [cond_true,byte_step B3 _ (by omega)];simp only [↓SDl,SDr]
  | false=>rw [cond_false,byte_step B3 _ (by omega)];simp only [↓SDl,SDr,Bool.false_eq_true]
 refine joinO_eq hst ?_
 obtain ⟨B4,hB4,mB4⟩:∃B,B=B3++[if a4=true then (1:Int) else 0]∧B.length≤8000:=⟨_,rfl,by simp only [List.length_append,tb_len,List.length_cons,List.length_nil];omega⟩
 rw [←hB4]
 rw [rn4_b _ (by omega)]
 obtain ⟨V5,hV5,kV5⟩:∃B,B=be (u4 a6) 4∧B.length≤1000:=⟨_,rfl,by rw [be_len];omega⟩
 rw [←hV5]
 refine (num_step B4 V5 _ (by omega) kV5).trans ?_
 obtain ⟨B5,hB5,mB5⟩:∃B,B=B4++V5∧B.length≤9000:=⟨_,rfl,by simp only [List.length_append,tb_len,List.length_cons,List.length_nil];omega⟩
 rw [←hB5]
 rw [rn2_b _ (by omega)]
 obtain ⟨V6,hV6,kV6⟩:∃B,B=be (a7.length:Int) 2∧B.length≤1000:=⟨_,rfl,by rw [be_len];omega⟩
 rw [←hV6]
 refine (tx_step B5 V6 _ (by omega) kV6 a7 (by omega)).trans ?_
 obtain ⟨B6,hB6,mB6⟩:∃B,B=B5++(V6++tb a7)∧B.length≤12000:=⟨_,rfl,by simp only [List.length_append,tb_len,List.length_cons,List.length_nil];omega⟩
 rw [←hB6]
 rw [rn4_b _ (by omega),e8]
 obtain ⟨V7,hV7,kV7⟩:∃B,B=be a8 4∧B.length≤1000:=⟨_,rfl,by rw [be_len];omega⟩
 rw [←hV7]
 refine (num_step B6 V7 _ (by omega) kV7).trans ?_
 obtain ⟨B7,hB7,mB7⟩:∃B,B=B6++V7∧B.length≤13000:=⟨_,rfl,by simp only [List.length_append,tb_len,List.length_cons,List.length_nil];omega⟩
 rw [←hB7]
 rw [bindO_some,e5]
 refine (byte_step B7 _ (by omega) _).trans ?_
 obtain ⟨B8,hB8,mB8⟩:∃B,B=B7++[(a5.length:Int)]∧B.length≤14000:=⟨_,rfl,by simp only [List.length_append,tb_len,List.length_cons,List.length_nil];omega⟩
 rw [←hB8]
 refine (rc_step B8 _ (by omega) a5 f5 hec).trans ?_
 obtain ⟨B9,hB9,mB9⟩:∃B,B=B8++a5.flatMap ec∧B.length≤40000:=⟨_,rfl,by simp only [List.length_append,tb_len,List.length_cons,List.length_nil];omega⟩
 rw [←hB9]
 rw [bindO_some,e9]
 refine (byte_step B9 _ (by omega) _).trans ?_
 obtain ⟨C0,hC0,mC0⟩:∃B,B=B9++[(a9.length:Int)]∧B.length≤41000:=⟨_,rfl,by simp only [List.length_append,tb_len,List.length_cons,List.length_nil];omega⟩
 rw [←hC0]
 refine (rp_step C0 _ (by omega) a9 (by omega) f12).trans ?_
 refine key _ _ ?_
 subst hC0 hB9 hB8 hB7 hV7 hB6 hV6 hB5 hV5 hB4 hB3 hV3 hB2 hV2 hB1 hV1 hB0
 unfold ENC et
 simp only [List.append_assoc]
theorem encR_no {now:Int} {a1 a2:Tx} {a3:Int} {a4:Bool} {a5:List Ct} {a6:Int} {a7:Tx} {a8:Int} {a9:List Tx} (h:¬EOK now a1 a2 a3 a4 a5 a6 a7 a8 a9) :
 encR (now,(a1,(a2,(a3,(a4,(a5,(a6,(a7,(a8,a9)))))))))=some ([],2):=by
 rw [encR_eq]
 by_cases hF:FM a1 a2 a3 a4 a5 a6 a7 a8 a9
 ·have h0:¬(0≤now∧now≤1099511627776):=fun g=>h ⟨hF,g⟩
  simp only [↓SDl,SDr,↓formR_b,↓withinR_b,hF,h0,decide_true,decide_false]
 ·simp only [↓SDl,SDr,↓formR_b,hF,decide_false]
end Go.Proofs.Ytlaccfegaoaakaa

set_option maxRecDepth 100000
set_option maxHeartbeats 4000000
namespace Go.Proofs.Ytlaccfegaoaakaa
open Go.RowKit
abbrev RS:=List Int×Int
abbrev Rr:=Tx×(Tx×(Int×(Bool×(List Ct×(Int×(Tx×Int))))))
abbrev Rg9:=Tx×(Tx×(Int×(Bool×(List Ct×(Int×(Tx×(Int×List Tx)))))))
noncomputable def vlB {γ:Type} (L R:List Int) (E:Int):(Int×Int)→Option ((Int×Int) ⊕ ((Int×RS) ⊕ γ)) :=
(fun (v92,v93) =>
 bif (decide (v92<(((List.length L):Nat):Int))) then
 bif (decide (((0:Int)≤v92)∧(v92<(((List.length L):Nat):Int)))) then
 bindO L[(Int.toNat v92)]? fun x94 =>
 some (Sum.inl ((Go.IntKind.wrap .i64 (v92+(1:Int))),(Go.IntKind.wrap .u64 (((BitVec.toNat ((BitVec.ofInt 64 (Go.IntKind.wrap .u64 (v93*(256:Int)))) ||| (BitVec.ofInt 64 (Go.IntKind.wrap .u64 x94)))):Nat):Int))))
 else none
 else
 outO (some (Sum.inl (v93,(R,E)))))
noncomputable def dn1 {γ:Type} (R:List Int) (E:Int):Option ((Int×RS) ⊕ γ) :=
 (joinO (joinO (bif (decide (E≠(0:Int))) then
 some (Sum.inl (([]:List Int),(R,(6:Int))))
 else
 bif (decide ((((List.length R):Nat):Int)<(1:Int))) then
 some (Sum.inl (([]:List Int),(R,(6:Int))))
 else
 bif ((decide (((0:Int)≤(1:Int))∧((1:Int)≤(((List.length R):Nat):Int))))&&Bool.true) then
 bif (decide (((0:Int)≤(1:Int))∧((1:Int)≤(((List.length R):Nat):Int)))) then
 some (Sum.inl ((List.take 1 R),((List.drop 1 R),E)))
 else none
 else none) fun (v89,(v90,v91)) =>
 loopO (vlB v89 v90 v91) ((0:Int),(0:Int))) fun (v99,(v100,v101)) =>
 some (Sum.inl (v99,(v100,v101))))
noncomputable def dn2 {γ:Type} (R:List Int) (E:Int):Option ((Int×RS) ⊕ γ) :=
 (joinO (joinO (bif (decide (E≠(0:Int))) then
 some (Sum.inl (([]:List Int),(R,(6:Int))))
 else
 bif (decide ((((List.length R):Nat):Int)<(2:Int))) then
 some (Sum.inl (([]:List Int),(R,(6:Int))))
 else
 bif ((decide (((0:Int)≤(2:Int))∧((2:Int)≤(((List.length R):Nat):Int))))&&Bool.true) then
 bif (decide (((0:Int)≤(2:Int))∧((2:Int)≤(((List.length R):Nat):Int)))) then
 some (Sum.inl ((List.take 2 R),((List.drop 2 R),E)))
 else none
 else none) fun (v22,(v23,v24)) =>
 loopO (vlB v22 v23 v24) ((0:Int),(0:Int))) fun (v32,(v33,v34)) =>
 some (Sum.inl (v32,(v33,v34))))
noncomputable def dn4 {γ:Type} (R:List Int) (E:Int):Option ((Int×RS) ⊕ γ) :=
 (joinO (joinO (bif (decide (E≠(0:Int))) then
 some (Sum.inl (([]:List Int),(R,(6:Int))))
 else
 bif (decide ((((List.length R):Nat):Int)<(4:Int))) then
 some (Sum.inl (([]:List Int),(R,(6:Int))))
 else
 bif ((decide (((0:Int)≤(4:Int))∧((4:Int)≤(((List.length R):Nat):Int))))&&Bool.true) then
 bif (decide (((0:Int)≤(4:Int))∧((4:Int)≤(((List.length R):Nat):Int)))) then
 some (Sum.inl ((List.take 4 R),((List.drop 4 R),E)))
 else none
 else none) fun (v70,(v71,v72)) =>
 loopO (vlB v70 v71 v72) ((0:Int),(0:Int))) fun (v80,(v81,v82)) =>
 some (Sum.inl (v80,(v81,v82))))
noncomputable def dt {γ:Type} (N:Int) (R:List Int) (E:Int):Option ((List Int×RS) ⊕ γ) :=
 (bif (decide (E≠(0:Int))) then
 some (Sum.inl (([]:List Int),(R,(6:Int))))
 else
 bif (decide ((((List.length R):Nat):Int)<(Go.IntKind.wrap .i64 N))) then
 some (Sum.inl (([]:List Int),(R,(6:Int))))
 else
 bif ((decide (((0:Int)≤(Go.IntKind.wrap .i64 N))∧((Go.IntKind.wrap .i64 N)≤(((List.length R):Nat):Int))))&&(decide (((0:Int)≤(Go.IntKind.wrap .i64 N))∧((Go.IntKind.wrap .i64 N)≤(((Int.toNat (Go.IntKind.wrap .i64 N)):Nat):Int))))) then
 bif (decide (((0:Int)≤(Go.IntKind.wrap .i64 N))∧((Go.IntKind.wrap .i64 N)≤(((List.length R):Nat):Int)))) then
 some (Sum.inl ((List.take (Int.toNat (Go.IntKind.wrap .i64 N)) R),((List.drop (Int.toNat (Go.IntKind.wrap .i64 N)) R),E)))
 else none
 else none)
noncomputable def dz8 {γ:Type} (R:List Int):Option ((Int×RS) ⊕ γ) :=
 (joinO (joinO (bif (decide ((((List.length R):Nat):Int)<(8:Int))) then
 some (Sum.inl (([]:List Int),(R,(6:Int))))
 else
 bif ((decide (((0:Int)≤(8:Int))∧((8:Int)≤(((List.length R):Nat):Int))))&&Bool.true) then
 bif (decide (((0:Int)≤(8:Int))∧((8:Int)≤(((List.length R):Nat):Int)))) then
 some (Sum.inl ((List.take 8 R),((List.drop 8 R),(0:Int))))
 else none
 else none) fun (v4,(v5,v6)) =>
 loopO (vlB v4 v5 v6) ((0:Int),(0:Int))) fun (v14,(v15,v16)) =>
 some (Sum.inl (v14,(v15,v16))))
noncomputable def dcB {γ:Type} (v182:Int):(Int×(Rr×RS))→Option ((Int×(Rr×RS)) ⊕ ((Rr×RS) ⊕ γ)) :=
(fun (v185,((v186,(v187,(v188,(v189,(v190,(v191,(v192,v193))))))),(v194,v195))) =>
 bif (decide (v185<v182)) then
 joinO (dn2 v194 v195) fun (v211,(v212,v213)) =>
 joinO (dt v211 v212 v213) fun (v217,(v218,v219)) =>
 joinO (dn2 v218 v219) fun (v235,(v236,v237)) =>
 joinO (dn4 v236 v237) fun (v254,(v255,v256)) =>
 bindO (registrar_signed v254) fun x257 =>
 bif (decide ((List.length v190)≤(List.length v190))) then
 bif (decide (((List.length ((List.take (List.length v190) v190)++(((bytesU v217),((Go.IntKind.wrap .i64 v235),x257))::([]:List ((List UInt8)×(Int×Int))))))*32)≤140737488355328)) then
 bindO (some ((List.take (List.length v190) v190)++(((bytesU v217),((Go.IntKind.wrap .i64 v235),x257))::([]:List ((List UInt8)×(Int×Int)))))) fun x258 =>
 bif (decide ((List.length x258)≤(List.length x258))) then
 some (Sum.inl ((Go.IntKind.wrap .u64 (v185+(1:Int))),((v186,(v187,(v188,(v189,((List.take (List.length x258) x258),(v191,(v192,v193))))))),(v255,v256))))
 else none
 else none
 else none
 else
 outO (bif (decide ((List.length v190)≤(List.length v190))) then
 some (Sum.inl ((v186,(v187,(v188,(v189,((List.take (List.length v190) v190),(v191,(v192,v193))))))),(v194,v195)))
 else none))
noncomputable def dpB {γ:Type} (v285:Int):(Int×(Rg9×RS))→Option ((Int×(Rg9×RS)) ⊕ ((Rg9×RS) ⊕ γ)) :=
(fun (v288,((v289,(v290,(v291,(v292,(v293,(v294,(v295,(v296,v297)))))))),(v298,v299))) =>
 bif (decide (v288<v285)) then
 joinO (dn2 v298 v299) fun (v315,(v316,v317)) =>
 joinO (dt v315 v316 v317) fun (v321,(v322,v323)) =>
 bif (decide ((List.length v297)≤(List.length v297))) then
 bif (decide (((List.length ((List.take (List.length v297) v297)++((bytesU v321)::([]:List (List UInt8)))))*16)≤140737488355328)) then
 bindO (some ((List.take (List.length v297) v297)++((bytesU v321)::([]:List (List UInt8))))) fun x324 =>
 bif ((decide ((List.length v293)≤(List.length v293)))&&(decide ((List.length x324)≤(List.length x324)))) then
 some (Sum.inl ((Go.IntKind.wrap .u64 (v288+(1:Int))),((v289,(v290,(v291,(v292,((List.take (List.length v293) v293),(v294,(v295,(v296,(List.take (List.length x324) x324))))))))),(v322,v323))))
 else none
 else none
 else none
 else
 outO (bif ((decide ((List.length v293)≤(List.length v293)))&&(decide ((List.length v297)≤(List.length v297)))) then
 some (Sum.inl ((v289,(v290,(v291,(v292,((List.take (List.length v293) v293),(v294,(v295,(v296,(List.take (List.length v297) v297))))))))),(v298,v299)))
 else none))
theorem decP_eq (a1:List Int):registrar_DecodeAct a1 =
 joinO (dz8 a1) fun (v17,(v18,v19)) =>
 joinO (dn2 v18 v19) fun (v35,(v36,v37)) =>
 joinO (dt v35 v36 v37) fun (v41,(v42,v43)) =>
 joinO (dn2 v42 v43) fun (v59,(v60,v61)) =>
 joinO (dt v59 v60 v61) fun (v65,(v66,v67)) =>
 joinO (dn4 v66 v67) fun (v83,(v84,v85)) =>
 bindO (registrar_signed v83) fun x86 =>
 joinO (dn1 v84 v85) fun (v102,(v103,v104)) =>
 joinO (dn4 v103 v104) fun (v120,(v121,v122)) =>
 bindO (registrar_signed v120) fun x123 =>
 joinO (dn2 v121 v122) fun (v139,(v140,v141)) =>
 joinO (dt v139 v140 v141) fun (v145,(v146,v147)) =>
 joinO (dn4 v146 v147) fun (v163,(v164,v165)) =>
 bindO (registrar_signed v163) fun x166 =>
 joinO (joinO (dn1 v164 v165) fun (v182,(v183,v184)) =>
 loopO (dcB v182) ((0:Int),(((bytesU v41),((bytesU v65),(x86,((decide (v102=(1:Int))),(([]:List ((List UInt8)×(Int×Int))),(x123,((bytesU v145),x166))))))),(v183,v184)))) fun ((v260,(v261,(v262,(v263,(v264,(v265,(v266,v267))))))),(v268,v269)) =>
 joinO (joinO (dn1 v268 v269) fun (v285,(v286,v287)) =>
 bif (decide ((List.length v264)≤(List.length v264))) then
 loopO (dpB v285) ((0:Int),((v260,(v261,(v262,(v263,((List.take (List.length v264) v264),(v265,(v266,(v267,([]:List (List UInt8)))))))))),(v286,v287)))
 else none) fun ((v326,(v327,(v328,(v329,(v330,(v331,(v332,(v333,v334)))))))),(v335,v336)) =>
 bif (decide (v336≠(0:Int))) then
  some ((0:Int),((([]:List UInt8),(([]:List UInt8),((0:Int),(Bool.false,(([]:List ((List UInt8)×(Int×Int))),((0:Int),(([]:List UInt8),((0:Int),([]:List (List UInt8)))))))))),v336))
 else
  bif (decide ((((List.length v335):Nat):Int) > (0:Int))) then
   some ((0:Int),((([]:List UInt8),(([]:List UInt8),((0:Int),(Bool.false,(([]:List ((List UInt8)×(Int×Int))),((0:Int),(([]:List UInt8),((0:Int),([]:List (List UInt8)))))))))),(5:Int)))
  else
   bif (decide (v102 > (1:Int))) then
    some ((0:Int),((([]:List UInt8),(([]:List UInt8),((0:Int),(Bool.false,(([]:List ((List UInt8)×(Int×Int))),((0:Int),(([]:List UInt8),((0:Int),([]:List (List UInt8)))))))))),(5:Int)))
   else
    bif (decide (v17 > (1099511627776:Int))) then
     some ((0:Int),((([]:List UInt8),(([]:List UInt8),((0:Int),(Bool.false,(([]:List ((List UInt8)×(Int×Int))),((0:Int),(([]:List UInt8),((0:Int),([]:List (List UInt8)))))))))),(5:Int)))
    else
     bif ((decide ((List.length v330)≤(List.length v330)))&&(decide ((List.length v334)≤(List.length v334)))) then
      bindO (registrar_Formed (v326,(v327,(v328,(v329,((List.take (List.length v330) v330),(v331,(v332,(v333,(List.take (List.length v334) v334)))))))))) fun x337 =>
      bif (!x337) then
       some ((0:Int),((([]:List UInt8),(([]:List UInt8),((0:Int),(Bool.false,(([]:List ((List UInt8)×(Int×Int))),((0:Int),(([]:List UInt8),((0:Int),([]:List (List UInt8)))))))))),(5:Int)))
      else
       bif ((decide ((List.length v330)≤(List.length v330)))&&(decide ((List.length v334)≤(List.length v334)))) then
        some ((Go.IntKind.wrap .i64 v17),((v326,(v327,(v328,(v329,((List.take (List.length v330) v330),(v331,(v332,(v333,(List.take (List.length v334) v334))))))))),(0:Int)))
       else none
     else none:=rfl
def num (k:Nat) (r:List Int) (e:Int):Int×RS:=if e≠0∨r.length<k then (0,(r,6)) else (val (r.take k),(r.drop k,e))
def txt (n:Int) (r:List Int) (e:Int):List Int×RS:=if e≠0∨(r.length:Int)<n then ([],(r,6)) else (r.take n.toNat,(r.drop n.toNat,e))
theorem or_byte {x y:Int} (hx:0≤x∧x*256+255<18446744073709551616) (hy:0≤y∧y≤255):IntKind.wrap .u64 (((BitVec.toNat ((BitVec.ofInt 64 (IntKind.wrap .u64 (x*(256:Int)))) ||| (BitVec.ofInt 64 (IntKind.wrap .u64 y)))):Nat):Int)=x*256+y:=by
 obtain ⟨a,rfl⟩:=Int.eq_ofNat_of_zero_le hx.1
 obtain ⟨b,rfl⟩:=Int.eq_ofNat_of_zero_le hy.1
 rw [wr_u64,wr_u64,wr_u64,Int.emod_eq_of_lt (a:=(b:Int)) (by omega) (by omega),Int.emod_eq_of_lt (a:=(a:Int)*256) (by omega) (by omega)]
 rw [BitVec.toNat_or,show ((a:Int)*256)=((a*256:Nat):Int) from by omega,BitVec.ofInt_natCast,BitVec.ofInt_natCast,BitVec.toNat_ofNat,BitVec.toNat_ofNat,Nat.mod_eq_of_lt (by omega),Nat.mod_eq_of_lt (by omega)]
 have:=Nat.shiftLeft_add_eq_or_of_lt (i:=8) (b:=b) (by omega) a
 rw [Nat.shiftLeft_eq] at this
 rw [←this]
 omega
theorem vl_j {γ:Type} (L R:List Int) (E:Int) (hL:By L) (hl:L.length≤8):loopO (vlB (γ:=γ) L R E) (0,0)=some (.inl (val L,(R,E))):=by
 refine loopO_from (fun i=>((i:Int),val (L.take i))) L.length rfl (fun i hi => ?_) ?_
 ·obtain ⟨x,hx,hxb⟩:=get_at (0:Int) hi
  have ht:=take_snoc L 0 hi
  rw [hx] at ht
  have hb:By (L.take i):=fun y hy=>hL y (List.mem_of_mem_take hy)
  have hx8:0≤x∧x≤255:=by rw [←hx,getD_get 0 hi];exact hL _ (List.getElem_mem hi)
  have hr:=val_rng hb
  have hlt:(L.take i).length≤7:=by rw [List.length_take];omega
  have hp:(256:Int) ^ (L.take i).length≤256 ^ 7:=by
   have:=Nat.pow_le_pow_right (show 0<256 by decide) hlt
   exact_mod_cast this
  have h7:(256:Int) ^ 7=72057594037927936:=by decide
  have hv:val (L.take (i+1))=val (L.take i)*256+x:=by rw [ht,val_snoc]
  simp only [hv]
  generalize val (L.take i)=V at hr ⊢
  have ho:=or_byte (x:=V) (y:=x) ⟨by omega,by omega⟩ hx8
  unfold vlB
  simp (disch:=(first | omega | (simp only [LNl];omega))) only [↓SDl,SDr,if_pos,if_neg,↓hxb,wrap_i64',nots,ho]
 ·unfold vlB
  simp (disch:=(first | omega | (simp only [LNl];omega))) only [↓SDl,SDr,if_neg,List.take_length]
section
variable {γ:Type} {R:List Int} {E:Int} (hR:By R) (hl:R.length≤100000)
include hR hl
theorem dn1_j:dn1 (γ:=γ) R E=some (.inl (num 1 R E)):=by
 unfold dn1 num
 by_cases h0:E=0
 ·by_cases h1:R.length<1
  ·rw [if_pos (.inr h1)]
   have hv:∀ δ,loopO (vlB (γ:=δ) [] R 6) (0,0)=some (.inl (0,(R,6))):=fun δ=>vl_j [] R 6 (fun x hx=>by cases hx) (by simp)
   have h1':(R.length:Int)<1:=by omega
   simp (disch:=(first | omega | (simp only [LNl];omega))) only [↓SDl,SDr,h0,ne_eq,not_true_eq_false,decide_false,h1',decide_true,hv]
  ·rw [if_neg (by rintro (h | h);exact h h0;exact h1 h)]
   have hv:∀ δ,loopO (vlB (γ:=δ) (R.take 1) (R.drop 1) E) (0,0)=some (.inl (val (R.take 1),(R.drop 1,E))):=fun δ=>vl_j (R.take 1) (R.drop 1) E (fun x hx=>hR x (List.mem_of_mem_take hx)) (by rw [List.length_take];omega)
   have h1':¬(R.length:Int)<1:=by omega
   simp (disch:=(first | omega | (simp only [LNl];omega))) only [↓SDl,SDr,h0,ne_eq,not_true_eq_false,decide_false,h1',if_pos,decide_true,Bool.and_true]
   rw [h0] at hv
   simp only [hv,↓SDl,SDr]
 ·rw [if_pos (.inl h0)]
  have hv:∀ δ,loopO (vlB (γ:=δ) [] R 6) (0,0)=some (.inl (0,(R,6))):=fun δ=>vl_j [] R 6 (fun x hx=>by cases hx) (by simp)
  simp (disch:=(first | omega | (simp only [LNl];omega))) only [↓SDl,SDr,h0,ne_eq,not_false_iff,decide_true,hv]
theorem dn2_j:dn2 (γ:=γ) R E=some (.inl (num 2 R E)):=by
 unfold dn2 num
 by_cases h0:E=0
 ·by_cases h1:R.length<2
  ·rw [if_pos (.inr h1)]
   have hv:∀ δ,loopO (vlB (γ:=δ) [] R 6) (0,0)=some (.inl (0,(R,6))):=fun δ=>vl_j [] R 6 (fun x hx=>by cases hx) (by simp)
   have h1':(R.length:Int)<2:=by omega
   simp (disch:=(first | omega | (simp only [LNl];omega))) only [↓SDl,SDr,h0,ne_eq,not_true_eq_false,decide_false,h1',decide_true,hv]
  ·rw [if_neg (by rintro (h | h);exact h h0;exact h1 h)]
   have hv:∀ δ,loopO (vlB (γ:=δ) (R.take 2) (R.drop 2) E) (0,0)=some (.inl (val (R.take 2),(R.drop 2,E))):=fun δ=>vl_j (R.take 2) (R.drop 2) E (fun x hx=>hR x (List.mem_of_mem_take hx)) (by rw [List.length_take];omega)
   have h1':¬(R.length:Int)<2:=by omega
   simp (disch:=(first | omega | (simp only [LNl];omega))) only [↓SDl,SDr,h0,ne_eq,not_true_eq_false,decide_false,h1',if_pos,decide_true,Bool.and_true]
   rw [h0] at hv
   simp only [hv,↓SDl,SDr]
 ·rw [if_pos (.inl h0)]
  have hv:∀ δ,loopO (vlB (γ:=δ) [] R 6) (0,0)=some (.inl (0,(R,6))):=fun δ=>vl_j [] R 6 (fun x hx=>by cases hx) (by simp)
  simp (disch:=(first | omega | (simp only [LNl];omega))) only [↓SDl,SDr,h0,ne_eq,not_false_iff,decide_true,hv]
theorem dn4_j:dn4 (γ:=γ) R E=some (.inl (num 4 R E)):=by
 unfold dn4 num
 by_cases h0:E=0
 ·by_cases h1:R.length<4
  ·rw [if_pos (.inr h1)]
   have hv:∀ δ,loopO (vlB (γ:=δ) [] R 6) (0,0)=some (.inl (0,(R,6))):=fun δ=>vl_j [] R 6 (fun x hx=>by cases hx) (by simp)
   have h1':(R.length:Int)<4:=by omega
   simp (disch:=(first | omega | (simp only [LNl];omega))) only [↓SDl,SDr,h0,ne_eq,not_true_eq_false,decide_false,h1',decide_true,hv]
  ·rw [if_neg (by rintro (h | h);exact h h0;exact h1 h)]
   have hv:∀ δ,loopO (vlB (γ:=δ) (R.take 4) (R.drop 4) E) (0,0)=some (.inl (val (R.take 4),(R.drop 4,E))):=fun δ=>vl_j (R.take 4) (R.drop 4) E (fun x hx=>hR x (List.mem_of_mem_take hx)) (by rw [List.length_take];omega)
   have h1':¬(R.length:Int)<4:=by omega
   simp (disch:=(first | omega | (simp only [LNl];omega))) only [↓SDl,SDr,h0,ne_eq,not_true_eq_false,decide_false,h1',if_pos,decide_true,Bool.and_true]
   rw [h0] at hv
   simp only [hv,↓SDl,SDr]
 ·rw [if_pos (.inl h0)]
  have hv:∀ δ,loopO (vlB (γ:=δ) [] R 6) (0,0)=some (.inl (0,(R,6))):=fun δ=>vl_j [] R 6 (fun x hx=>by cases hx) (by simp)
  simp (disch:=(first | omega | (simp only [LNl];omega))) only [↓SDl,SDr,h0,ne_eq,not_false_iff,decide_true,hv]
theorem dz8_j:dz8 (γ:=γ) R=some (.inl (num 8 R 0)):=by
 unfold dz8 num
 by_cases h1:R.length<8
 ·rw [if_pos (.inr h1)]
  have hv:∀ δ,loopO (vlB (γ:=δ) [] R 6) (0,0)=some (.inl (0,(R,6))):=fun δ=>vl_j [] R 6 (fun x hx=>by cases hx) (by simp)
  have h1':(R.length:Int)<8:=by omega
  simp (disch:=(first | omega | (simp only [LNl];omega))) only [↓SDl,SDr,h1',decide_true,hv]
 ·rw [if_neg (by rintro (h | h);exact h rfl;exact h1 h)]
  have hv:∀ δ,loopO (vlB (γ:=δ) (R.take 8) (R.drop 8) 0) (0,0)=some (.inl (val (R.take 8),(R.drop 8,0))):=fun δ=>vl_j (R.take 8) (R.drop 8) 0 (fun x hx=>hR x (List.mem_of_mem_take hx)) (by rw [List.length_take];omega)
  have h1':¬(R.length:Int)<8:=by omega
  simp (disch:=(first | omega | (simp only [LNl];omega))) only [↓SDl,SDr,h1',if_pos,decide_true,decide_false,Bool.and_true]
  simp only [hv,↓SDl,SDr]
end
theorem dt_j {γ:Type} {R:List Int} {N E:Int} (hN:0≤N∧N≤65535) (hl:R.length≤100000):dt (γ:=γ) N R E=some (.inl (txt N R E)):=by
 have hw:IntKind.wrap .i64 N=N:=wrap_i64' (by omega)
 unfold dt txt
 rw [hw]
 by_cases h0:E=0
 ·by_cases h1:(R.length:Int)<N
  ·rw [if_pos (.inr h1)]
   simp (disch:=(first | omega | (simp only [LNl];omega))) only [↓SDl,SDr,h0,ne_eq,not_true_eq_false,decide_false,h1,decide_true]
  ·rw [if_neg (by rintro (h | h);exact h h0;exact h1 h)]
   have hnn:((N.toNat:Nat):Int)=N:=by omega
   simp (disch:=(first | omega | (simp only [LNl];omega))) only [↓SDl,SDr,h0,ne_eq,not_true_eq_false,decide_false,h1,hnn,if_pos,and_dec,decide_true]
 ·rw [if_pos (.inl h0)]
  simp (disch:=(first | omega | (simp only [LNl];omega))) only [↓SDl,SDr,h0,ne_eq,not_false_iff,decide_true]
end Go.Proofs.Ytlaccfegaoaakaa

set_option maxRecDepth 100000
namespace Go.Proofs.Ytlaccfegaoaakaa
open Go.RowKit
def pnum (k:Nat) (r:List Int):Option (Int×List Int):=if r.length<k then none else some (val (r.take k),r.drop k)
def ptxt (r:List Int):Option (List Int×List Int):=(pnum 2 r).bind fun x=>if (x.2.length:Int)<x.1 then none else some (x.2.take x.1.toNat,x.2.drop x.1.toNat)
abbrev RC:=List Int×(Int×Int)
def pct (r:List Int):Option (RC×List Int):=(ptxt r).bind fun t=>(pnum 2 t.2).bind fun q=>(pnum 4 q.2).bind fun e=>some ((t.1,(q.1,e.1)),e.2)
def pmany {α:Type} (p:List Int→Option (α×List Int)):Nat→List Int→Option (List α×List Int)
 | 0,r=>some ([],r)
 | n+1,r=>(pmany p n r).bind fun l=>(p l.2).bind fun a=>some (l.1++[a.1],a.2)
structure AC where
 now:Int
 aor:List Int
 cid:List Int
 sq:Int
 st:Int
 ex:Int
 ins:List Int
 fl:Int
 cs:List RC
 ps:List (List Int)
 rest:List Int
def parse (b:List Int):Option AC :=
 (pnum 8 b).bind fun x0=>(ptxt x0.2).bind fun x1=>(ptxt x1.2).bind fun x2=>(pnum 4 x2.2).bind fun x3=>(pnum 1 x3.2).bind fun x4=>(pnum 4 x4.2).bind fun x5=>(ptxt x5.2).bind fun x6=>(pnum 4 x6.2).bind fun x7=>(pnum 1 x7.2).bind fun x8=>(pmany pct x8.1.toNat x8.2).bind fun x9=>(pnum 1 x9.2).bind fun y0=>(pmany ptxt y0.1.toNat y0.2).bind fun y1 =>
   some ⟨x0.1,x1.1,x2.1,x3.1,x4.1,x5.1,x6.1,x7.1,x9.1,y1.1,y1.2⟩
def rawt (t:List Int):List Int:=be (t.length:Int) 2++t
def rawc (x:RC):List Int:=rawt x.1++(be x.2.1 2++be x.2.2 4)
def raw (a:AC):List Int:=be a.now 8++(rawt a.aor++(rawt a.cid++(be a.sq 4++(be a.st 1++(be a.ex 4++(rawt a.ins++(be a.fl 4++(be (a.cs.length:Int) 1++(a.cs.flatMap rawc++(be (a.ps.length:Int) 1++(a.ps.flatMap rawt++a.rest)))))))))))
theorem pnum_inv {k:Nat} {r r':List Int} {v:Int} (h:pnum k r=some (v,r')) (hb:By r):r=be v k++r'∧(0≤v∧v<256 ^ k)∧By r':=by
 unfold pnum at h
 split at h
 ·cases h
 ·rename_i hk
  cases h
  have hl:(r.take k).length=k:=by rw [List.length_take];omega
  have hb':By (r.take k):=fun x hx=>hb x (List.mem_of_mem_take hx)
  have h1:=be_val hb'
  have h2:=val_rng hb'
  rw [hl] at h1 h2
  exact ⟨by rw [h1,List.take_append_drop],h2,fun x hx=>hb x (List.mem_of_mem_drop hx)⟩
theorem pnum_be {k:Nat} {v:Int} (X:List Int) (h:0≤v∧v<256 ^ k):pnum k (be v k++X)=some (v,X):=by
 have hl:=be_len v k
 unfold pnum
 rw [if_neg (by rw [List.length_append];omega),List.take_append_of_le_length (by omega),List.take_of_length_le (by omega),List.drop_append_of_le_length (by omega),List.drop_of_length_le (by omega),val_be v k h]
 rfl
theorem ptxt_raw {t:List Int} (X:List Int) (h:t.length≤65535):ptxt (rawt t++X)=some (t,X):=by
 unfold ptxt rawt
 have h256:(256:Int) ^ 2=65536:=by decide
 rw [List.append_assoc,pnum_be _ (by omega)]
 simp only [Option.bind_some]
 rw [if_neg (by rw [List.length_append];omega),Int.toNat_natCast,List.take_append_of_le_length (Nat.le_refl _),List.take_length,List.drop_append_of_le_length (Nat.le_refl _),List.drop_length]
 rfl
abbrev RCok (x:RC):Prop:=x.1.length≤65535∧By x.1∧(0≤x.2.1∧x.2.1<65536)∧(0≤x.2.2∧x.2.2<4294967296)
abbrev RTok (t:List Int):Prop:=t.length≤65535∧By t
theorem pct_raw {x:RC} (X:List Int) (h:RCok x):pct (rawc x++X)=some (x,X):=by
 obtain ⟨h1,_,h2,h3⟩:=h
 have e2:(256:Int) ^ 2=65536:=by decide
 have e4:(256:Int) ^ 4=4294967296:=by decide
 unfold pct rawc
 rw [List.append_assoc,ptxt_raw _ h1]
 simp only [Option.bind_some]
 rw [List.append_assoc,pnum_be _ (by omega)]
 simp only [Option.bind_some]
 rw [pnum_be _ (by omega)]
 rfl
theorem pmany_raw {α:Type} {p:List Int→Option (α×List Int)} {enc:α→List Int} {ok:α→Prop} (hp:∀a X,ok a→p (enc a++X)=some (a,X)) (l:List α) (h:∀a∈l,ok a) (X:List Int):pmany p l.length (l.flatMap enc++X)=some (l,X):=by
 suffices hs:∀n,n≤l.length→∀X,pmany p n ((l.take n).flatMap enc++X)=some (l.take n,X) by
  have:=hs l.length (Nat.le_refl _) X
  rwa [List.take_length] at this
 intro n
 induction n with
 | zero=>intro _ X;rfl
 | succ n ih =>
   intro hn X
   have hlt:n<l.length:=by omega
   have ht:l.take (n+1)=l.take n++[l[n]]:=by rw [List.take_add_one,List.getElem?_eq_getElem hlt];rfl
   rw [pmany,ht,List.flatMap_append,List.append_assoc,ih (by omega)]
   simp only [Option.bind_some,List.flatMap_cons,List.flatMap_nil,List.append_nil]
   rw [hp _ _ (h _ (List.getElem_mem hlt))]
   rfl
def ACok (a:AC):Prop:=(0≤a.now∧a.now<18446744073709551616)∧RTok a.aor∧RTok a.cid∧(0≤a.sq∧a.sq<4294967296)∧(0≤a.st∧a.st<256)∧(0≤a.ex∧a.ex<4294967296)∧RTok a.ins∧(0≤a.fl∧a.fl<4294967296)∧a.cs.length≤255∧(∀x∈a.cs,RCok x)∧a.ps.length≤255∧(∀x∈a.ps,RTok x)
theorem pow1:(256:Int) ^ 1=256:=by decide
theorem pow4:(256:Int) ^ 4=4294967296:=by decide
theorem pow8:(256:Int) ^ 8=18446744073709551616:=by decide
theorem parse_raw {a:AC} (h:ACok a):parse (raw a)=some a:=by
 obtain ⟨h0,h1,h2,h3,h4,h5,h6,h7,h8,h9,g0,g1⟩:=h
 unfold parse raw
 rw [pnum_be _ (by rw [pow8];exact h0)]
 simp only [Option.bind_some]
 rw [ptxt_raw _ h1.1]
 simp only [Option.bind_some]
 rw [ptxt_raw _ h2.1]
 simp only [Option.bind_some]
 rw [pnum_be _ (by rw [pow4];exact h3)]
 simp only [Option.bind_some]
 rw [pnum_be _ (by rw [pow1];exact h4)]
 simp only [Option.bind_some]
 rw [pnum_be _ (by rw [pow4];exact h5)]
 simp only [Option.bind_some]
 rw [ptxt_raw _ h6.1]
 simp only [Option.bind_some]
 rw [pnum_be _ (by rw [pow4];exact h7)]
 simp only [Option.bind_some]
 rw [pnum_be _ (by rw [pow1];omega)]
 simp only [Option.bind_some,Int.toNat_natCast]
 rw [pmany_raw (ok:=RCok) (fun x X hx=>pct_raw X hx) _ h9]
 simp only [Option.bind_some]
 rw [pnum_be _ (by rw [pow1];omega)]
 simp only [Option.bind_some,Int.toNat_natCast]
 rw [pmany_raw (ok:=RTok) (fun x X hx=>ptxt_raw X hx.1) _ g1]
 rfl
end Go.Proofs.Ytlaccfegaoaakaa

set_option maxRecDepth 100000
set_option maxHeartbeats 4000000
namespace Go.Proofs.Ytlaccfegaoaakaa
open Go.RowKit
theorem bytesU_bt (l:List Int):bytesU l=bt l:=rfl
def sgP (n:Int):Int:=if n=4294967295 then -1 else n
theorem signed_j {n:Int} (h:0≤n∧n<4294967296):registrar_signed n=some (sgP n):=by
 unfold registrar_signed sgP
 by_cases g:n=4294967295
 ·simp (disch:=(first | omega | (simp only [LNl];omega))) only [↓SDl,SDr,g,decide_true,if_true]
 ·simp (disch:=(first | omega | (simp only [LNl];omega))) only [↓SDl,SDr,g,decide_false,if_false,wrap_i64']
abbrev Rok (r:List Int):Prop:=By r∧r.length≤6000
theorem Rok.drop {r:List Int} (h:Rok r) (n:Nat):Rok (r.drop n):=⟨fun x hx=>h.1 x (List.mem_of_mem_drop hx),by rw [List.length_drop];have:=h.2;omega⟩
theorem num_ok {k:Nat} {R:List Int} {E:Int} (h:Rok R):(0≤(num k R E).1∧(num k R E).1<256 ^ k)∧Rok (num k R E).2.1:=by
 unfold num
 split
 ·exact ⟨⟨Int.le_refl 0,Int.pow_pos (by decide)⟩,h⟩
 ·rename_i g
  have hb:By (R.take k):=fun x hx=>h.1 x (List.mem_of_mem_take hx)
  have:=val_rng hb
  have hl:(R.take k).length=k:=by rw [List.length_take];omega
  rw [hl] at this
  exact ⟨this,h.drop k⟩
theorem txt_ok {n:Int} {R:List Int} {E:Int} (h:Rok R):Rok (txt n R E).2.1:=by
 unfold txt
 split
 ·exact h
 ·exact h.drop _
theorem num_z {k:Nat} {R:List Int}:(∃v R',pnum k R=some (v,R')∧num k R 0=(v,(R',0)))∨(pnum k R=none∧num k R 0=(0,(R,6))):=by
 unfold num pnum
 by_cases g:R.length<k
 ·exact .inr ⟨if_pos g,if_pos (.inr g)⟩
 ·exact .inl ⟨_,_,if_neg g,if_neg (by rintro (q | q);exact q rfl;exact g q)⟩
theorem num_e {k:Nat} {R:List Int} {E:Int} (h:E≠0):num k R E=(0,(R,6)):=if_pos (.inl h)
theorem txt_e {n:Int} {R:List Int} {E:Int} (h:E≠0):txt n R E=([],(R,6)):=if_pos (.inl h)
theorem txt_z {n:Int} {R:List Int}:((R.length:Int)<n∧txt n R 0=([],(R,6)))∨(¬(R.length:Int)<n∧txt n R 0=(R.take n.toNat,(R.drop n.toNat,0))):=by
 unfold txt
 by_cases g:(R.length:Int)<n
 ·exact .inl ⟨g,if_pos (.inr g)⟩
 ·exact .inr ⟨g,if_neg (by rintro (q | q);exact q rfl;exact g q)⟩
def gT (R:List Int) (E:Int):List Int×RS:=txt (num 2 R E).1 (num 2 R E).2.1 (num 2 R E).2.2
theorem gT_e {R:List Int} {E:Int} (h:E≠0):gT R E=([],(R,6)):=by
 unfold gT
 rw [num_e h,txt_e (show (6:Int)≠0 by decide)]
theorem gT_z {R:List Int}:(∃t R',ptxt R=some (t,R')∧gT R 0=(t,(R',0)))∨(ptxt R=none∧∃R',gT R 0=([],(R',6))):=by
 unfold gT ptxt
 rcases num_z (k:=2) (R:=R) with ⟨v,R1,h1,h2⟩ | ⟨h1,h2⟩
 ·rw [h1,h2]
  simp only [Option.bind_some]
  rcases txt_z (n:=v) (R:=R1) with ⟨g1,g2⟩ | ⟨g1,g2⟩
  ·exact .inr ⟨if_pos g1,_,g2⟩
  ·exact .inl ⟨_,_,if_neg g1,g2⟩
 ·rw [h1,h2]
  exact .inr ⟨rfl,_,txt_e (show (6:Int)≠0 by decide)⟩
theorem gT_ok {R:List Int} {E:Int} (h:Rok R):Rok (gT R E).2.1:=txt_ok (num_ok h).2
theorem rcd_j {R:List Int} {E:Int} (h:Rok R) :
 (E=0∧pct R=some (((gT R E).1,((num 2 (gT R E).2.1 (gT R E).2.2).1,(num 4 (num 2 (gT R E).2.1 (gT R E).2.2).2.1 (num 2 (gT R E).2.1 (gT R E).2.2).2.2).1)),(num 4 (num 2 (gT R E).2.1 (gT R E).2.2).2.1 (num 2 (gT R E).2.1 (gT R E).2.2).2.2).2.1)∧(num 4 (num 2 (gT R E).2.1 (gT R E).2.2).2.1 (num 2 (gT R E).2.1 (gT R E).2.2).2.2).2.2=0) ∨
 ((num 4 (num 2 (gT R E).2.1 (gT R E).2.2).2.1 (num 2 (gT R E).2.1 (gT R E).2.2).2.2).2.2=6∧(E=0→pct R=none)):=by
 have h6:(6:Int)≠0:=by decide
 by_cases he:E=0
 ·subst he
  unfold pct
  rcases gT_z (R:=R) with ⟨t,R1,h1,h2⟩ | ⟨h1,R1,h2⟩
  ·rw [h1,h2]
   simp only [Option.bind_some]
   rcases num_z (k:=2) (R:=R1) with ⟨q,R2,h3,h4⟩ | ⟨h3,h4⟩
   ·rw [h3,h4]
    simp only [Option.bind_some]
    rcases num_z (k:=4) (R:=R2) with ⟨e,R3,h5,h7⟩ | ⟨h5,h7⟩
    ·rw [h5,h7];exact .inl ⟨by first | trivial | rfl,rfl,rfl⟩
    ·rw [h5,h7];exact .inr ⟨rfl,fun _=>rfl⟩
   ·rw [h3,h4]
    refine .inr ⟨?_,fun _=>rfl⟩
    rw [num_e h6]
  ·rw [h1,h2]
   refine .inr ⟨?_,fun _=>rfl⟩
   rw [num_e (k:=2) h6,num_e h6]
 ·refine .inr ⟨?_,fun q=>(he q).elim⟩
  rw [gT_e he,num_e (k:=2) h6,num_e h6]
def mc (x:RC):Ct:=(bt x.1,(x.2.1,sgP x.2.2))
theorem dc_step {γ:Type} (n i:Nat) (hn:n≤255) (hi:i<n) (p1 p2:Tx) (p3:Int) (p4:Bool) (l:List Ct) (p6:Int) (p7:Tx) (p8:Int) {R:List Int} {E:Int} (h:Rok R) (hl:l.length≤1000) :
 dcB (γ:=γ) (n:Int) ((i:Int),((p1,(p2,(p3,(p4,(l,(p6,(p7,p8))))))),(R,E)))=some (.inl (((i+1:Nat):Int),((p1,(p2,(p3,(p4,(l++[mc ((gT R E).1,((num 2 (gT R E).2.1 (gT R E).2.2).1,(num 4 (num 2 (gT R E).2.1 (gT R E).2.2).2.1 (num 2 (gT R E).2.1 (gT R E).2.2).2.2).1))],(p6,(p7,p8))))))),(num 4 (num 2 (gT R E).2.1 (gT R E).2.2).2.1 (num 2 (gT R E).2.1 (gT R E).2.2).2.2).2))):=by
 have e2:(256:Int) ^ 2=65536:=by decide
 have a1:=num_ok (k:=2) (E:=E) h
 have a2:=gT_ok (E:=E) h
 have a3:=num_ok (k:=2) (E:=(gT R E).2.2) a2
 have a4:=num_ok (k:=4) (E:=(num 2 (gT R E).2.1 (gT R E).2.2).2.2) a3.2
 rw [e2] at a1 a3
 rw [pow4] at a4
 have hw:IntKind.wrap .u64 ((i:Int)+1)=((i+1:Nat):Int):=by rw [wr_u64];omega
 have hb:∀r:List Int,Rok r→r.length≤100000:=fun r hr=>by have:=hr.2;omega
 unfold dcB
 simp (disch:=(first | omega | (simp only [LNl];omega))) only [↓SDl,SDr,if_pos]
 refine joinO_eq (dn2_j h.1 (hb _ h)) ?_
 refine joinO_eq (dt_j (R:=(num 2 R E).2.1) (N:=(num 2 R E).1) (E:=(num 2 R E).2.2) ⟨a1.1.1,by omega⟩ (hb _ a1.2)) ?_
 refine joinO_eq (dn2_j (R:=(gT R E).2.1) (E:=(gT R E).2.2) a2.1 (hb _ a2)) ?_
 refine joinO_eq (dn4_j (R:=(num 2 (gT R E).2.1 (gT R E).2.2).2.1) (E:=(num 2 (gT R E).2.1 (gT R E).2.2).2.2) a3.2.1 (hb _ a3.2)) ?_
 have hq:IntKind.wrap .i64 (num 2 (gT R E).2.1 (gT R E).2.2).1=(num 2 (gT R E).2.1 (gT R E).2.2).1:=wrap_i64' (by omega)
 show bindO (registrar_signed (num 4 (num 2 (gT R E).2.1 (gT R E).2.2).2.1 (num 2 (gT R E).2.1 (gT R E).2.2).2.2).1) _=_
 rw [signed_j a4.1,bindO_some]
 simp (disch:=(first | omega | (simp only [LNl];omega))) only [↓SDl,SDr,if_pos,hq,hw,bytesU_bt]
 rfl
end Go.Proofs.Ytlaccfegaoaakaa

set_option maxRecDepth 100000
set_option maxHeartbeats 4000000
namespace Go.Proofs.Ytlaccfegaoaakaa
open Go.RowKit
theorem pmany_succ {α:Type} {p:List Int→Option (α×List Int)} {n:Nat} {r R:List Int} {l:List α} (h:pmany p n r=some (l,R)):pmany p (n+1) r=(p R).bind fun a=>some (l++[a.1],a.2):=by
 rw [pmany,h];rfl
theorem dc_j {γ:Type} (n:Nat) (hn:n≤255) (p1 p2:Tx) (p3:Int) (p4:Bool) (p6:Int) (p7:Tx) (p8:Int) {R0:List Int} (h:Rok R0) :
 (∃l R',pmany pct n R0=some (l,R')∧Rok R'∧loopO (dcB (γ:=γ) (n:Int)) (0,((p1,(p2,(p3,(p4,([],(p6,(p7,p8))))))),(R0,0)))=some (.inl ((p1,(p2,(p3,(p4,(l.map mc,(p6,(p7,p8))))))),(R',0)))) ∨
 (pmany pct n R0=none∧∃l R',l.length≤1000∧Rok R'∧loopO (dcB (γ:=γ) (n:Int)) (0,((p1,(p2,(p3,(p4,([],(p6,(p7,p8))))))),(R0,0)))=some (.inl ((p1,(p2,(p3,(p4,(l,(p6,(p7,p8))))))),(R',6)))):=by
 have hp:=loopO_post (body:=dcB (γ:=γ) (n:Int))
  (fun x=>∃(i:Nat) (l:List Ct) (R:List Int) (E:Int),x=((i:Int),((p1,(p2,(p3,(p4,(l,(p6,(p7,p8))))))),(R,E)))∧i≤n∧l.length=i∧Rok R∧((E=0∧∃l',pmany pct i R0=some (l',R)∧l=l'.map mc)∨(E=6∧pmany pct i R0=none)))
  (fun r=>∃(l:List Ct) (R:List Int) (E:Int),r = .inl ((p1,(p2,(p3,(p4,(l,(p6,(p7,p8))))))),(R,E))∧l.length=n∧Rok R∧((E=0∧∃l',pmany pct n R0=some (l',R)∧l=l'.map mc)∨(E=6∧pmany pct n R0=none)))
  (fun x=>((n:Int)-x.1).toNat)
  (fun x hx=>by
    obtain ⟨i,l,R,E,rfl,hi,hl,hR,hE⟩:=hx
    by_cases hin:i<n
    ·refine .inr ⟨_,dc_step n i hn hin p1 p2 p3 p4 l p6 p7 p8 hR (by omega),⟨i+1,_,_,_,rfl,hin,by rw [List.length_append,hl];rfl,(num_ok (num_ok (gT_ok hR)).2).2,?_⟩,?_⟩
     ·rcases rcd_j (E:=E) hR with ⟨e0,q1,q2⟩ | ⟨q1,q2⟩
      ·subst e0
       rcases hE with ⟨_,l',g1,g2⟩ | ⟨g,_⟩
       ·refine .inl ⟨q2,l'++[_],?_,by rw [List.map_append,g2];rfl⟩
        rw [pmany_succ g1,q1];rfl
       ·cases g
      ·refine .inr ⟨q1,?_⟩
       rcases hE with ⟨e0,l',g1,g2⟩ | ⟨_,g⟩
       ·rw [pmany_succ g1,q2 e0];rfl
       ·rw [pmany,g];rfl
     ·show ((n:Int)-((i+1:Nat):Int)).toNat<((n:Int)-(i:Int)).toNat
      omega
    ·have e:i=n:=by omega
     subst e
     refine .inl ⟨.inl ((p1,(p2,(p3,(p4,(l,(p6,(p7,p8))))))),(R,E)),?_,l,R,E,rfl,hl,hR,hE⟩
     unfold dcB
     simp (disch:=(first | omega | (simp only [LNl];omega))) only [↓SDl,SDr,if_neg])
  (x:=(0,((p1,(p2,(p3,(p4,([],(p6,(p7,p8))))))),(R0,0)))) ⟨0,[],R0,0,rfl,by omega,rfl,h,.inl ⟨rfl,[],rfl,rfl⟩⟩
 obtain ⟨r,h1,l,R,E,rfl,hl,hR,hE⟩:=hp
 rcases hE with ⟨rfl,l',g1,g2⟩ | ⟨rfl,g⟩
 ·subst g2;exact .inl ⟨l',R,g1,hR,h1⟩
 ·exact .inr ⟨g,l,R,by omega,hR,h1⟩
theorem dp_step {γ:Type} (n i:Nat) (hn:n≤255) (hi:i<n) (p1 p2:Tx) (p3:Int) (p4:Bool) (p5:List Ct) (p6:Int) (p7:Tx) (p8:Int) (l:List Tx) {R:List Int} {E:Int} (h:Rok R) (hl:l.length≤1000) :
 dpB (γ:=γ) (n:Int) ((i:Int),((p1,(p2,(p3,(p4,(p5,(p6,(p7,(p8,l)))))))),(R,E)))=some (.inl (((i+1:Nat):Int),((p1,(p2,(p3,(p4,(p5,(p6,(p7,(p8,l++[bt (gT R E).1])))))))),(gT R E).2))):=by
 have e2:(256:Int) ^ 2=65536:=by decide
 have a1:=num_ok (k:=2) (E:=E) h
 have a2:=gT_ok (E:=E) h
 rw [e2] at a1
 have hw:IntKind.wrap .u64 ((i:Int)+1)=((i+1:Nat):Int):=by rw [wr_u64];omega
 have hb:∀r:List Int,Rok r→r.length≤100000:=fun r hr=>by have:=hr.2;omega
 unfold dpB
 simp (disch:=(first | omega | (simp only [LNl];omega))) only [↓SDl,SDr,if_pos]
 refine joinO_eq (dn2_j h.1 (hb _ h)) ?_
 refine joinO_eq (dt_j (R:=(num 2 R E).2.1) (N:=(num 2 R E).1) (E:=(num 2 R E).2.2) ⟨a1.1.1,by omega⟩ (hb _ a1.2)) ?_
 simp (disch:=(first | omega | (simp only [LNl];omega))) only [↓SDl,SDr,if_pos,hw,bytesU_bt]
 rfl
theorem dp_j {γ:Type} (n:Nat) (hn:n≤255) (p1 p2:Tx) (p3:Int) (p4:Bool) (p5:List Ct) (p6:Int) (p7:Tx) (p8:Int) {R0:List Int} (h:Rok R0) :
 (∃l R',pmany ptxt n R0=some (l,R')∧Rok R'∧loopO (dpB (γ:=γ) (n:Int)) (0,((p1,(p2,(p3,(p4,(p5,(p6,(p7,(p8,[])))))))),(R0,0)))=some (.inl ((p1,(p2,(p3,(p4,(p5,(p6,(p7,(p8,l.map bt)))))))),(R',0)))) ∨
 (pmany ptxt n R0=none∧∃l R',loopO (dpB (γ:=γ) (n:Int)) (0,((p1,(p2,(p3,(p4,(p5,(p6,(p7,(p8,[])))))))),(R0,0)))=some (.inl ((p1,(p2,(p3,(p4,(p5,(p6,(p7,(p8,l)))))))),(R',6)))):=by
 have hp:=loopO_post (body:=dpB (γ:=γ) (n:Int))
  (fun x=>∃(i:Nat) (l:List Tx) (R:List Int) (E:Int),x=((i:Int),((p1,(p2,(p3,(p4,(p5,(p6,(p7,(p8,l)))))))),(R,E)))∧i≤n∧l.length=i∧Rok R∧((E=0∧∃l',pmany ptxt i R0=some (l',R)∧l=l'.map bt)∨(E=6∧pmany ptxt i R0=none)))
  (fun r=>∃(l:List Tx) (R:List Int) (E:Int),r = .inl ((p1,(p2,(p3,(p4,(p5,(p6,(p7,(p8,l)))))))),(R,E))∧l.length=n∧Rok R∧((E=0∧∃l',pmany ptxt n R0=some (l',R)∧l=l'.map bt)∨(E=6∧pmany ptxt n R0=none)))
  (fun x=>((n:Int)-x.1).toNat)
  (fun x hx=>by
    obtain ⟨i,l,R,E,rfl,hi,hl,hR,hE⟩:=hx
    by_cases hin:i<n
    ·refine .inr ⟨_,dp_step n i hn hin p1 p2 p3 p4 p5 p6 p7 p8 l hR (by omega),⟨i+1,_,_,_,rfl,hin,by rw [List.length_append,hl];rfl,gT_ok hR,?_⟩,?_⟩
     ·rcases hE with ⟨rfl,l',g1,g2⟩ | ⟨rfl,g⟩
      ·rcases gT_z (R:=R) with ⟨t,R1,q1,q2⟩ | ⟨q1,R1,q2⟩
       ·rw [q2]
        refine .inl ⟨rfl,l'++[t],?_,by rw [List.map_append,g2];rfl⟩
        rw [pmany_succ g1,q1];rfl
       ·rw [q2]
        exact .inr ⟨rfl,by rw [pmany_succ g1,q1];rfl⟩
      ·rw [gT_e (show (6:Int)≠0 by decide)]
       exact .inr ⟨rfl,by rw [pmany,g];rfl⟩
     ·show ((n:Int)-((i+1:Nat):Int)).toNat<((n:Int)-(i:Int)).toNat
      omega
    ·have e:i=n:=by omega
     subst e
     refine .inl ⟨.inl ((p1,(p2,(p3,(p4,(p5,(p6,(p7,(p8,l)))))))),(R,E)),?_,l,R,E,rfl,hl,hR,hE⟩
     unfold dpB
     simp (disch:=(first | omega | (simp only [LNl];omega))) only [↓SDl,SDr,if_neg,and_dec,and_self,decide_true,Bool.and_self])
  (x:=(0,((p1,(p2,(p3,(p4,(p5,(p6,(p7,(p8,[])))))))),(R0,0)))) ⟨0,[],R0,0,rfl,by omega,rfl,h,.inl ⟨rfl,[],rfl,rfl⟩⟩
 obtain ⟨r,h1,l,R,E,rfl,hl,hR,hE⟩:=hp
 rcases hE with ⟨rfl,l',g1,g2⟩ | ⟨rfl,g⟩
 ·subst g2;exact .inl ⟨l',R,g1,hR,h1⟩
 ·exact .inr ⟨g,l,R,h1⟩
theorem dc_0 {γ:Type} (x:Rr×RS):loopO (dcB (γ:=γ) 0) (0,x)=some (.inl x):=by
 obtain ⟨⟨p1,p2,p3,p4,p5,p6,p7,p8⟩,R,E⟩:=x
 rw [loopO_eq]
 unfold dcB
 simp (disch:=(first | omega | (simp only [LNl];omega))) only [↓SDl,SDr,if_neg]
theorem dp_0 {γ:Type} (x:Rg9×RS):loopO (dpB (γ:=γ) 0) (0,x)=some (.inl x):=by
 obtain ⟨⟨p1,p2,p3,p4,p5,p6,p7,p8,p9⟩,R,E⟩:=x
 rw [loopO_eq]
 unfold dpB
 simp (disch:=(first | omega | (simp only [LNl];omega))) only [↓SDl,SDr,if_neg,and_dec,and_self,decide_true,Bool.and_self]
end Go.Proofs.Ytlaccfegaoaakaa
