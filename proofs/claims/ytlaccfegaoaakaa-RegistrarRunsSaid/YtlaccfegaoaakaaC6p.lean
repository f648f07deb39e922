import Derived.Test.YtlaccfegaoaakaaB4p
import Derived.Test.YtlaccfegaoaakaaZ11p
import Derived.Test.YtlaccfegaoaakaaXBp
import Derived.Test.YtlaccfegaoaakaaC5p
import Derived.Test.YtlaccfegaoaakaaLp
set_option linter.unusedSimpArgs false
set_option linter.unusedVariables false
namespace Go.Proofs.Ytlaccfegaoaakaa.Jn
open Go.RowKit
def crcBit (v:BitVec 32):BitVec 32:=if v.toNat % 2=1 then (v >>> 1) ^^^ 3988292384#32 else v >>> 1
def itB:Nat→BitVec 32→BitVec 32
 | 0,v=>v
 | n+1,v=>crcBit (itB n v)
def crcB (c:BitVec 32) (x:Int):BitVec 32:=itB 8 (c ^^^ BitVec.ofInt 32 x)
def crcV (l:List Int):BitVec 32:=l.foldl crcB 4294967295#32
def crc (l:List Int):Int:=(((crcV l ^^^ 4294967295#32).toNat:Nat):Int)
theorem bvI (v:BitVec 32):BitVec.ofInt 32 ((v.toNat:Nat):Int)=v:=by
 rw [BitVec.ofInt_natCast,BitVec.ofNat_toNat,BitVec.setWidth_eq]
theorem wrBV (v:BitVec 32):IntKind.wrap .u32 ((v.toNat:Nat):Int)=((v.toNat:Nat):Int):=by
 rw [wr_u32]
 have:=v.isLt
 omega
theorem wrHalf (v:BitVec 32):IntKind.wrap .u32 (Int.tdiv ((v.toNat:Nat):Int) 2)=(((v >>> 1).toNat:Nat):Int):=by
 rw [wr_u32,BitVec.toNat_ushiftRight,Nat.shiftRight_eq_div_pow,Int.tdiv_eq_ediv_of_nonneg (by omega)]
 have:=v.isLt
 omega
theorem and1 (v:BitVec 32):(v &&& 1#32).toNat=v.toNat % 2:=by
 rw [BitVec.toNat_and]
 show v.toNat &&& 1=_
 rw [Nat.and_one_is_mod]
theorem foldl_take {α β:Type} (f:β→α→β) (b:β) (l:List α) {i:Nat} (h:i<l.length):(l.take (i+1)).foldl f b=f ((l.take i).foldl f b) l[i]:=by
 rw [List.take_add_one,List.getElem?_eq_getElem h,List.foldl_append];rfl
theorem check_j (l:List Int) (h:Bytes l) (hl:l.length≤9223372036854775806):journal_Check l=some (crc l):=by
 unfold journal_Check
 refine joinO_eq (a:=(((crcV l).toNat:Nat):Int)) (loopO_from (fun i=>((i:Int),((((l.take i).foldl crcB 4294967295#32).toNat:Nat):Int))) l.length rfl ?_ ?_) ?_
 ·intro i hi
  simp only [bindO_some,bindO_none,joinO_inl,joinO_inr,joinO_none,outO_some,outO_none,cond_ite,List.take_length,Nat.le_refl,if_true,Nat.mul_one,Int.mul_one,cond_true,cond_false]
  rw [if_pos (by omega)]
  refine joinO_eq (a:=((((l.take (i+1)).foldl crcB 4294967295#32).toNat:Nat):Int)) ?_ ?_
  ·rw [if_pos (by omega),get_nat hi]
   generalize hc:(l.take i).foldl crcB 4294967295#32=c
   have hx:=h.get hi
   have e0:BitVec.ofInt 32 (IntKind.wrap .u32 l[i])=BitVec.ofInt 32 l[i]:=by
    rw [wr_u32];congr 1;omega
   refine loopO_from (fun j=>((j:Int),(((itB j (c ^^^ BitVec.ofInt 32 l[i])).toNat:Nat):Int))) 8 ?_ ?_ ?_
   ·show ((0:Int),(((c ^^^ BitVec.ofInt 32 l[i]).toNat:Nat):Int))=_
    rw [e0,bvI,wrBV]
   ·intro j hj
    show _=some (Sum.inl (((j+1:Nat):Int),(((crcBit (itB j (c ^^^ BitVec.ofInt 32 l[i]))).toNat:Nat):Int)))
    generalize itB j (c ^^^ BitVec.ofInt 32 l[i])=v at *
    simp only [bindO_some,bindO_none,joinO_inl,joinO_inr,joinO_none,outO_some,outO_none,cond_ite,List.take_length,Nat.le_refl,if_true,Nat.mul_one,Int.mul_one,cond_true,cond_false]
    rw [if_pos (by omega),wrap_i64' (by omega)]
    simp only [wrHalf,bvI,wrBV]
    rw [show BitVec.ofInt 32 1=1#32 from rfl,and1]
    unfold crcBit
    by_cases hb:v.toNat % 2=1
    ·rw [if_pos (by omega),if_pos hb];rfl
    ·rw [if_neg (by omega),if_neg hb];rfl
   ·simp only [bindO_some,bindO_none,joinO_inl,joinO_inr,joinO_none,outO_some,outO_none,cond_ite,List.take_length,Nat.le_refl,if_true,Nat.mul_one,Int.mul_one,cond_true,cond_false]
    rw [if_neg (by omega),foldl_take crcB _ l hi,hc]
    rfl
  ·rw [wrap_i64' (by omega)];rfl
 ·simp only [bindO_some,bindO_none,joinO_inl,joinO_inr,joinO_none,outO_some,outO_none,cond_ite,List.take_length,Nat.le_refl,if_true,Nat.mul_one,Int.mul_one,cond_true,cond_false]
  rw [if_neg (by omega)]
  rfl
 ·simp only [bvI]
  rw [show BitVec.ofInt 32 4294967295=4294967295#32 from rfl,wrBV,BitVec.xor_comm];rfl
theorem check_r (l:List Int) (h:Bytes l) (hl:l.length≤9223372036854775806):dialtoneref20_Check l=some (crc l):=by
 unfold dialtoneref20_Check
 refine joinO_eq (a:=(((crcV l).toNat:Nat):Int)) (loopO_from (fun i=>((i:Int),((((l.take i).foldl crcB 4294967295#32).toNat:Nat):Int))) l.length rfl ?_ ?_) ?_
 ·intro i hi
  simp only [bindO_some,bindO_none,joinO_inl,joinO_inr,joinO_none,outO_some,outO_none,cond_ite,List.take_length,Nat.le_refl,if_true,Nat.mul_one,Int.mul_one,cond_true,cond_false]
  rw [if_pos (by omega)]
  refine joinO_eq (a:=((((l.take (i+1)).foldl crcB 4294967295#32).toNat:Nat):Int)) ?_ ?_
  ·rw [if_pos (by omega),get_nat hi]
   generalize hc:(l.take i).foldl crcB 4294967295#32=c
   have hx:=h.get hi
   have e0:BitVec.ofInt 32 (IntKind.wrap .u32 l[i])=BitVec.ofInt 32 l[i]:=by
    rw [wr_u32];congr 1;omega
   refine loopO_from (fun j=>((j:Int),(((itB j (c ^^^ BitVec.ofInt 32 l[i])).toNat:Nat):Int))) 8 ?_ ?_ ?_
   ·show ((0:Int),(((c ^^^ BitVec.ofInt 32 l[i]).toNat:Nat):Int))=_
    rw [e0,bvI,wrBV]
   ·intro j hj
    show _=some (Sum.inl (((j+1:Nat):Int),(((crcBit (itB j (c ^^^ BitVec.ofInt 32 l[i]))).toNat:Nat):Int)))
    generalize itB j (c ^^^ BitVec.ofInt 32 l[i])=v at *
    simp only [bindO_some,bindO_none,joinO_inl,joinO_inr,joinO_none,outO_some,outO_none,cond_ite,List.take_length,Nat.le_refl,if_true,Nat.mul_one,Int.mul_one,cond_true,cond_false]
    rw [if_pos (by omega),wrap_i64' (by omega)]
    simp only [wrHalf,bvI,wrBV]
    rw [Int.tmod_eq_emod_of_nonneg (by omega)]
    unfold crcBit
    by_cases hb:v.toNat % 2=1
    ·rw [if_pos (by omega),if_pos hb];rfl
    ·rw [if_neg (by omega),if_neg hb];rfl
   ·simp only [bindO_some,bindO_none,joinO_inl,joinO_inr,joinO_none,outO_some,outO_none,cond_ite,List.take_length,Nat.le_refl,if_true,Nat.mul_one,Int.mul_one,cond_true,cond_false]
    rw [if_neg (by omega),foldl_take crcB _ l hi,hc]
    rfl
  ·rw [wrap_i64' (by omega)];rfl
 ·simp only [bindO_some,bindO_none,joinO_inl,joinO_inr,joinO_none,outO_some,outO_none,cond_ite,List.take_length,Nat.le_refl,if_true,Nat.mul_one,Int.mul_one,cond_true,cond_false]
  rw [if_neg (by omega)]
  rfl
 ·simp only [bvI]
  rw [show BitVec.ofInt 32 4294967295=4294967295#32 from rfl,wrBV];rfl
theorem crc_bnd (l:List Int):0≤crc l∧crc l<4294967296:=by
 unfold crc
 have:=(crcV l ^^^ 4294967295#32).isLt
 omega
end Go.Proofs.Ytlaccfegaoaakaa.Jn

namespace Go.Proofs.Ytlaccfegaoaakaa.Jn
open Go.RowKit
def be:Nat→Int→List Int
 | 0,_=>[]
 | k+1,n=>be k (n / 256)++[n % 256]
theorem be_length:∀(k:Nat) (n:Int),(be k n).length=k
 | 0,_=>rfl
 | k+1,n=>by rw [be,List.length_append,be_length k];rfl
theorem be_cons:∀(k:Nat) (n:Int),be (k+1) n=(n / 256 ^ k % 256)::be k n
 | 0,n=>by simp [be]
 | k+1,n=>by
   rw [be,be_cons k,be,List.cons_append]
   congr 2
   rw [Int.pow_succ,Int.mul_comm,←Int.ediv_ediv_of_nonneg (by omega)]
theorem be_bytes:∀(k:Nat) (n:Int),Bytes (be k n)
 | 0,_=>fun x hx=>by cases hx
 | k+1,n=>by
   rw [be]
   refine (be_bytes k _).app fun x hx => ?_
   rw [List.mem_singleton] at hx
   omega
theorem number_r (n:Int) (k:Nat) (h0:0≤n) (hn:n≤9223372036854775807) (hk:k≤1000):dialtoneref20_number (n,(k:Int))=some (be k n):=by
 unfold dialtoneref20_number
 refine joinO_eq (a:=be k n) (loopO_from (fun i=>((i:Int),(n / 256 ^ i,be i n))) k (by simp [be]) ?_ ?_) rfl
 ·intro i hi
  have hp:0<(256:Int) ^ i:=Int.pow_pos (by omega)
  have hd0:0≤n / 256 ^ i:=Int.ediv_nonneg h0 (by omega)
  have hd1:n / 256 ^ i≤n:=Int.ediv_le_self _ h0
  have hnext:IntKind.wrap .i64 (Int.tdiv (n / 256 ^ i) 256)=n / 256 ^ (i+1):=by
   rw [Int.tdiv_eq_ediv_of_nonneg hd0,Int.pow_succ,←Int.ediv_ediv_of_nonneg (by omega),wrap_i64' (by omega)]
  simp only [bindO_some,bindO_none,joinO_inl,joinO_inr,joinO_none,outO_some,outO_none,cond_ite,List.take_length,Nat.le_refl,if_true,Nat.mul_one,Int.mul_one,cond_true,cond_false,be_cons i n]
  rw [if_pos (by omega),Int.tmod_eq_emod_of_nonneg hd0,wr_u8,Int.emod_emod_of_dvd _ (by omega),hnext,wrap_i64' (by omega),be_length]
  by_cases hi0:i=0
  ·subst hi0
   rw [if_neg (by omega)]
   rfl
  ·rw [if_pos (by omega),if_pos (by rw [List.length_append,be_length];simp;omega)]
   rfl
 ·simp only [bindO_some,bindO_none,joinO_inl,joinO_inr,joinO_none,outO_some,outO_none,cond_ite,List.take_length,Nat.le_refl,if_true,Nat.mul_one,Int.mul_one,cond_true,cond_false]
  rw [if_neg (by omega)]
theorem wloop {β:Type} {body:Int×List Int→Option ((Int×List Int) ⊕ β)} (v:Int) (size:Nat) (b:List Int) (fin:List Int→β) {x:Int×List Int} (hx:x=((size:Int)-1,b))
 (h1:∀(i:Nat) (c:List Int),i<size→c.length≤b.length+size→body ((i:Int),c)=some (.inl ((i:Int)-1,c++[v / 256 ^ i % 256]))) (h2:∀c,body (-1,c)=some (.inr (fin c))):loopO body x=some (fin (b++be size v)):=by
 have key:∀(n:Nat) (c:List Int),n≤size→c.length+n=b.length+size→loopO body ((n:Int)-1,c)=some (fin (c++be n v)):=by
  intro n
  induction n with
  | zero=>intro c _ _;rw [loopO_eq,show (((0:Nat):Int)-1) = -1 from rfl,h2];simp [be]
  | succ n ih =>
    intro c hn hc
    rw [loopO_eq,show (((n+1:Nat):Int)-1)=((n:Nat):Int) from by omega,h1 n c (by omega) (by omega)]
    simp only
    rw [ih _ (by omega) (by rw [List.length_append];simp;omega),be_cons,List.append_assoc]
    rfl
 rw [hx]
 exact key size b (Nat.le_refl _) rfl
theorem fdiv256 (v:Int) (i:Nat) (hi:i<4):Int.fdiv v ((2:Int) ^ (Min.min (Int.toNat (8*(i:Int))) 32))=v / 256 ^ i:=by
 rw [Int.fdiv_eq_ediv_of_nonneg _ (Int.pow_nonneg (by omega))]
 rcases (by omega:i=0∨i=1∨i=2∨i=3) with rfl | rfl | rfl | rfl<;>rfl
def flds (fs:List (Int×Int)):List Int:=fs.flatMap fun f=>be f.2.toNat f.1
def headB (n k s:Int):List Int:=[167,k]++(be 4 n++(be 2 s++be 2 (65535-s)))
def preB (n k:Int) (d:List Int):List Int:=headB n k d.length++d
def encB (n k:Int) (d:List Int):List Int:=preB n k d++be 4 (crc (preB n k d))
def encS (n k:Int) (d:List Int):List Int×Int:=if n<0 then ([],3) else if n > 1048575 then ([],3) else if (d.length:Int) > 4096 then ([],4) else (encB n k d,0)
theorem headB_length (n k s:Int):(headB n k s).length=10:=by simp [headB,be_length]
theorem headB_bytes {n k s:Int} (hk:0≤k∧k≤255):Bytes (headB n k s):=by
 refine Bytes.app (fun x hx => ?_) ((be_bytes _ _).app ((be_bytes _ _).app (be_bytes _ _)))
 simp only [List.mem_cons,List.not_mem_nil,or_false] at hx
 omega
theorem preB_bytes {n k:Int} {d:List Int} (hk:0≤k∧k≤255) (hd:Bytes d):Bytes (preB n k d):=(headB_bytes hk).app hd
theorem preB_length (n k:Int) (d:List Int):(preB n k d).length=10+d.length:=by rw [preB,List.length_append,headB_length]
theorem flds5 (n k s:Int) (hk:0≤k∧k≤255):flds [(167,1),(k,1),(n,4),(s,2),(65535-s,2)]=headB n k s:=by
 have h1:be 1 167=[167]:=rfl
 have h2:be 1 k=[k]:=by simp [be];omega
 simp only [flds,List.flatMap_cons,List.flatMap_nil,List.append_nil]
 show be 1 167++(be 1 k++(be 4 n++(be 2 s++be 2 (65535-s))))=_
 rw [h1,h2];rfl
theorem floop {β:Type} {body:Int×List Int→Option ((Int×List Int) ⊕ β)} (fs:List (Int×Int)) (b:List Int) (fin:List Int→β) {x:Int×List Int} (hx:x=(0,b))
 (h1:∀(i:Nat) (c:List Int) (hi:i<fs.length),c.length≤b.length+40→body ((i:Int),c)=some (.inl ((i:Int)+1,c++be fs[i].2.toNat fs[i].1))) (h2:∀c,body ((fs.length:Int),c)=some (.inr (fin c))) (h3:(flds fs).length≤40):loopO body x=some (fin (b++flds fs)):=by
 have hle:∀i,(flds (fs.take i)).length≤(flds fs).length:=fun i=>by
  conv=>rhs;rw [←List.take_append_drop i fs]
  unfold flds
  rw [List.flatMap_append,List.length_append];omega
 refine loopO_from (fun i=>((i:Int),b++flds (fs.take i))) fs.length ?_ ?_ ?_
 ·rw [hx];simp [flds]
 ·intro i hi
  rw [h1 i _ hi (by rw [List.length_append];have:=hle i;omega),List.take_add_one,List.getElem?_eq_getElem hi]
  unfold flds
  rw [List.flatMap_append,←List.append_assoc]
  simp
 ·simp only [List.take_length]
  exact h2 _
theorem encode_r (n k:Int) (d:List Int) (hn:n≤9223372036854775807) (hk:0≤k∧k≤255) (hd:Bytes d):dialtoneref20_Encode (n,(k,d))=some (encS n k d):=by
 unfold dialtoneref20_Encode encS
 simp only [bindO_some,bindO_none,joinO_inl,joinO_inr,joinO_none,outO_some,outO_none,cond_ite,List.take_length,Nat.le_refl,if_true,Nat.mul_one,Int.mul_one,cond_true,cond_false]
 by_cases h1:n<0
 ·rw [if_pos h1,if_pos h1]
 by_cases h2:n > 1048575
 ·rw [if_neg h1,if_pos (by omega),if_neg h1,if_pos h2]
 by_cases h3:(d.length:Int) > 4096
 ·rw [if_neg h1,if_neg (by omega),if_pos h3,if_neg h1,if_neg h2,if_pos h3]
 rw [if_neg h1,if_neg (by omega),if_neg h3,if_neg h1,if_neg h2,if_neg h3]
 refine bindO_eq (number_r n 4 (by omega) (by omega) (by omega)) ?_
 rw [if_pos (by rw [be_length];omega),if_pos (by simp [be_length])]
 refine bindO_eq (number_r _ 2 (by omega) (by omega) (by omega)) ?_
 rw [if_pos (by simp [be_length])]
 rw [wrap_i64' (by omega)]
 refine bindO_eq (number_r _ 2 (by omega) (by omega) (by omega)) ?_
 rw [if_pos (by simp [be_length]),if_pos (by simp [be_length];omega)]
 have e:[167,k]++be 4 n++be 2 (d.length:Int)++be 2 (65535-(d.length:Int))++d=preB n k d:=by
  simp [preB,headB]
 rw [e]
 refine bindO_eq (check_r _ (preB_bytes hk hd) (by rw [preB_length];omega)) ?_
 have:=crc_bnd (preB n k d)
 rw [wrap_i64' (by omega)]
 refine bindO_eq (number_r _ 4 (by omega) (by omega) (by omega)) ?_
 rw [if_pos (by rw [List.length_append,preB_length,be_length];omega)]
 rfl
end Go.Proofs.Ytlaccfegaoaakaa.Jn

namespace Go.Proofs.Ytlaccfegaoaakaa.Jn
open Go.RowKit
theorem encode_j (n k:Int) (d:List Int) (hn:n≤9223372036854775807) (hk:0≤k∧k≤255) (hd:Bytes d):journal_Encode (n,(k,d))=some (encS n k d):=by
 unfold journal_Encode encS
 simp only [bindO_some,bindO_none,joinO_inl,joinO_inr,joinO_none,outO_some,outO_none,cond_ite,List.take_length,Nat.le_refl,if_true,Nat.mul_one,Int.mul_one,cond_true,cond_false]
 by_cases h1:n<0
 ·rw [if_pos h1,if_pos h1]
 by_cases h2:n > 1048575
 ·rw [if_neg h1,if_pos (by omega),if_neg h1,if_pos h2]
 by_cases h3:(d.length:Int) > 4096
 ·rw [if_neg h1,if_neg (by omega),if_pos h3,if_neg h1,if_neg h2,if_pos h3]
 rw [if_neg h1,if_neg (by omega),if_neg h3,if_neg h1,if_neg h2,if_neg h3]
 have ws:∀z:Int,0≤z→z≤4294967295→IntKind.wrap .u32 z=z:=fun z a b=>by rw [wr_u32];omega
 rw [ws k (by omega) (by omega),ws n (by omega) (by omega),ws (d.length:Int) (by omega) (by omega),wrap_i64' (n:=65535-(d.length:Int)) (by omega),ws (65535-(d.length:Int)) (by omega) (by omega)]
 refine joinO_eq (a:=headB n k d.length) ?_ ?_
 ·refine joinO_eq (a:=headB n k d.length) ?_ rfl
  rw [←flds5 n k d.length hk]
  obtain ⟨L,hL⟩:∃L:List (Int×Int),L=[(167,1),(k,1),(n,4),((d.length:Int),2),(65535-(d.length:Int),2)]:=⟨_,rfl⟩
  have hlen:L.length=5:=by rw [hL];rfl
  have hsz:∀(i:Nat) (hi:i<L.length),1≤L[i].2∧L[i].2≤4:=fun i hi=>by
   subst hL
   rcases (by omega:i=0∨i=1∨i=2∨i=3∨i=4) with rfl | rfl | rfl | rfl | rfl<;>exact ⟨by simp,by simp⟩
  have hfl:(flds L).length≤40:=by rw [hL,flds5 n k d.length hk,headB_length];omega
  rw [←hL]
  refine floop L [] Sum.inl rfl ?_ ?_ hfl
  ·intro i c hi hc
   have hz:=hsz i hi
   have hc40:c.length≤40:=hc
   simp only [bindO_some,bindO_none,joinO_inl,joinO_inr,joinO_none,outO_some,outO_none,cond_ite,List.take_length,Nat.le_refl,if_true,Nat.mul_one,Int.mul_one,cond_true,cond_false]
   rw [if_pos (by omega)]
   refine joinO_eq (a:=c++be L[i].2.toNat L[i].1) ?_ ?_
   ·rw [if_pos (by omega),get_nat hi]
    refine wloop L[i].1 L[i].2.toNat c Sum.inl ?_ ?_ ?_
    ·rw [wrap_i64' (by omega)]
     congr 1;omega
    ·intro j b hj hb
     simp only [bindO_some,bindO_none,joinO_inl,joinO_inr,joinO_none,outO_some,outO_none,cond_ite,List.take_length,Nat.le_refl,if_true,Nat.mul_one,Int.mul_one,cond_true,cond_false]
     rw [if_pos (by omega),wrap_i64' (n:=8*(j:Int)) (by omega),if_pos (by omega),fdiv256 _ j (by omega),wr_u8,if_pos (by rw [List.length_append];simp;omega),wrap_i64' (by omega)]
    ·intro b
     simp only [bindO_some,bindO_none,joinO_inl,joinO_inr,joinO_none,outO_some,outO_none,cond_ite,List.take_length,Nat.le_refl,if_true,Nat.mul_one,Int.mul_one,cond_true,cond_false]
     rw [if_neg (by omega)]
   ·rw [wrap_i64' (by omega)]
  ·intro c
   simp only [bindO_some,bindO_none,joinO_inl,joinO_inr,joinO_none,outO_some,outO_none,cond_ite,List.take_length,Nat.le_refl,if_true,Nat.mul_one,Int.mul_one,cond_true,cond_false]
   rw [if_neg (by omega)]
 ·rw [show headB n k (d.length:Int)++d=preB n k d from rfl,if_pos (by rw [preB_length];omega)]
  refine bindO_eq (check_j _ (preB_bytes hk hd) (by rw [preB_length];omega)) ?_
  have hcb:=crc_bnd (preB n k d)
  generalize hP:preB n k d=B at *
  have hB:B.length≤5000:=by rw [←hP,preB_length];omega
  refine joinO_eq (a:=B++be 4 (crc B)) ?_ ?_
  ·refine joinO_eq (a:=B++be 4 (crc B)) ?_ rfl
   have e1:flds [(crc B,4)]=be 4 (crc B):=by simp only [flds,List.flatMap_cons,List.flatMap_nil,List.append_nil];rfl
   rw [←e1]
   refine floop [(crc B,4)] B Sum.inl rfl ?_ ?_ ?_
   ·intro i c hi hc
    have hi1:i<1:=hi
    have hi0:i=0:=by omega
    subst hi0
    simp only [bindO_some,bindO_none,joinO_inl,joinO_inr,joinO_none,outO_some,outO_none,cond_ite,List.take_length,Nat.le_refl,if_true,Nat.mul_one,Int.mul_one,cond_true,cond_false]
    rw [if_pos (by omega)]
    refine joinO_eq (a:=c++be 4 (crc B)) ?_ ?_
    ·rw [if_pos (by omega)]
     refine bindO_eq rfl ?_
     refine wloop (crc B) 4 c Sum.inl rfl ?_ ?_
     ·intro j b hj hb
      have hj4:j<4:=hj
      simp only [bindO_some,bindO_none,joinO_inl,joinO_inr,joinO_none,outO_some,outO_none,cond_ite,List.take_length,Nat.le_refl,if_true,Nat.mul_one,Int.mul_one,cond_true,cond_false]
      rw [if_pos (by omega),wrap_i64' (n:=8*(j:Int)) (by omega),if_pos (by omega),fdiv256 _ j (by omega),wr_u8,if_pos (by rw [List.length_append];simp;omega),wrap_i64' (by omega)]
     ·intro b
      simp only [bindO_some,bindO_none,joinO_inl,joinO_inr,joinO_none,outO_some,outO_none,cond_ite,List.take_length,Nat.le_refl,if_true,Nat.mul_one,Int.mul_one,cond_true,cond_false]
      rw [if_neg (by omega)]
    ·rw [wrap_i64' (by omega)];rfl
   ·intro c
    simp only [bindO_some,bindO_none,joinO_inl,joinO_inr,joinO_none,outO_some,outO_none,cond_ite,List.take_length,Nat.le_refl,if_true,Nat.mul_one,Int.mul_one,cond_true,cond_false]
    rw [if_neg (by simp)]
   ·rw [e1,be_length];omega
  ·rw [encB,hP]
end Go.Proofs.Ytlaccfegaoaakaa.Jn

namespace Go.Proofs.Ytlaccfegaoaakaa.Jn
open Go.RowKit
abbrev Recs:=List (Int×List Int)
end Go.Proofs.Ytlaccfegaoaakaa.Jn

namespace Go.Proofs.Ytlaccfegaoaakaa.Jn
open Go.RowKit
theorem joined_j (a b:List Int) (ha:a.length≤1000000) (hb:b.length≤1000000):journal_joined (a,b)=some (a++b):=by
 unfold journal_joined
 simp only [bindO_some,bindO_none,joinO_inl,joinO_inr,joinO_none,outO_some,outO_none,cond_ite,List.take_length,Nat.le_refl,if_true,Nat.mul_one,Int.mul_one,cond_true,cond_false]
 rw [wrap_i64' (by omega),if_pos (by omega)]
 have e:((a.length:Int)+(b.length:Int)).toNat=a.length+b.length:=by omega
 have h1:(List.take (a.length+b.length) a)=a:=List.take_of_length_le (by omega)
 have h2:(List.take (a.length+b.length-a.length) b)=b:=List.take_of_length_le (by omega)
 have h3:layL (List.replicate (a.length+b.length) (0:Int)) 0 a=a++List.replicate b.length 0:=by
  unfold layL
  rw [List.take_zero,List.nil_append,Nat.zero_add,List.drop_replicate,show a.length+b.length-a.length=b.length from by omega]
 have h4:layL (a++List.replicate b.length (0:Int)) a.length b=a++b:=by
  unfold layL
  rw [List.take_left,List.drop_of_length_le (by rw [List.length_append,List.length_replicate];omega),List.append_nil]
 rw [e,Int.toNat_natCast,h1,h2,h3,h4]
 rw [if_pos (by rw [List.length_replicate];omega),if_pos (by omega),if_pos (by rw [List.length_append,List.length_replicate];omega),if_pos (by rw [List.length_append];omega),List.take_of_length_le (by rw [List.length_append];omega)]
theorem samelog_refl (a:List Int×(Int×Int)):dialtoneref20_SameLog (a,a)=some true:=by
 unfold dialtoneref20_SameLog
 simp
end Go.Proofs.Ytlaccfegaoaakaa.Jn

namespace Go.Proofs.Ytlaccfegaoaakaa.Jn
open Go.RowKit
def RecOk (r:Int×List Int):Prop:=(0≤r.1∧r.1≤255)∧Bytes r.2∧r.2.length≤4096
theorem encB_length (n k:Int) (d:List Int):(encB n k d).length=14+d.length:=by
 rw [encB,List.length_append,be_length,preB_length];omega
def cnt:Recs→Nat→Nat
 | [],_=>0
 | r::l,c=>if 14+r.2.length≤c then 1+cnt l (c-(14+r.2.length)) else 0
end Go.Proofs.Ytlaccfegaoaakaa.Jn

namespace Go.Proofs.Ytlaccfegaoaakaa.Jn
open Go.RowKit
def Rec2 (r:Int×List Int):Prop:=(0≤r.1∧r.1≤255)∧Bytes r.2∧r.2.length≤200
theorem Rec2.ok {r:Int×List Int} (h:Rec2 r):RecOk r:=⟨h.1,h.2.1,by have:=h.2.2;omega⟩
theorem valid_j (b:List Int) (s c:Int):journal_Valid (b,(s,c))=some (decide (0≤s∧s≤(b.length:Int)∧0≤c∧c≤1048576)):=by
 unfold journal_Valid
 simp only [bindO_some,bindO_none,joinO_inl,joinO_inr,joinO_none,outO_some,outO_none,cond_ite,List.take_length,Nat.le_refl,if_true,Nat.mul_one,Int.mul_one,cond_true,cond_false]
 by_cases h1:s≥0
 ·by_cases h2:s≤(b.length:Int)
  ·by_cases h3:c≥0
   ·rw [if_pos h1,if_pos h2,if_pos h3]
    congr 1
    rw [decide_eq_decide];omega
   ·rw [if_pos h1,if_pos h2,if_neg h3,decide_eq_false (by omega)]
  ·rw [if_pos h1,if_neg h2,decide_eq_false (by omega)]
 ·rw [if_neg h1,decide_eq_false (by omega)]
theorem append_j (b:List Int) (s c k:Int) (d:List Int) (hb:b.length≤900000) (hs:0≤s∧s≤(b.length:Int)) (hc:0≤c∧c<1048576) (hr:RecOk (k,d)):journal_Append ((b,(s,c)),(k,d))=some ((b++encB c k d,(s,c+1)),0):=by
 unfold journal_Append
 refine bindO_eq (valid_j b s c) ?_
 rw [decide_eq_true (by omega)]
 simp only [bindO_some,bindO_none,joinO_inl,joinO_inr,joinO_none,outO_some,outO_none,cond_ite,List.take_length,Nat.le_refl,if_true,Nat.mul_one,Int.mul_one,cond_true,cond_false,Bool.not_true]
 rw [if_neg (by omega)]
 have he:encS c k d=(encB c k d,0):=by
  have:=hr.2.2
  simp only at this
  unfold encS
  rw [if_neg (by omega),if_neg (by omega),if_neg (by omega)]
 refine bindO_eq ((encode_j c k d (by omega) hr.1 hr.2.1).trans (congrArg some he)) ?_
 simp only [ne_eq,not_true_eq_false,if_false]
 have:=hr.2.2
 simp only at this
 refine bindO_eq (joined_j _ _ (by omega) (by rw [encB_length];omega)) ?_
 rw [wrap_i64' (by omega)]
end Go.Proofs.Ytlaccfegaoaakaa.Jn

namespace Go.Proofs.Ytlaccfegaoaakaa.Jn
open Go.RowKit
theorem sync_j (b:List Int) (s c:Int) (hb:b.length≤900000) (hs:0≤s∧s≤(b.length:Int)) (hc:0≤c∧c≤1048576):journal_Sync (b,(s,c))=some (b,((b.length:Int),c)):=by
 unfold journal_Sync
 refine bindO_eq (valid_j b s c) ?_
 rw [decide_eq_true (by omega)]
 simp only [bindO_some,bindO_none,joinO_inl,joinO_inr,joinO_none,outO_some,outO_none,cond_ite,List.take_length,Nat.le_refl,if_true,Nat.mul_one,Int.mul_one,cond_true,cond_false,Bool.not_true]
 refine bindO_eq (joined_j b [] (by omega) (by simp)) ?_
 rw [List.append_nil]
end Go.Proofs.Ytlaccfegaoaakaa.Jn

set_option maxRecDepth 1000000
set_option maxHeartbeats 0
namespace Go.Proofs.Ytlaccfegaoaakaa
open Go.RowKit
def plan4:List (Nat×PL):=[(134479889,.unroll),(9241421688590303745,(.carry [.drop 8,.mix 27 [dI,dI,dI,dI,(.dat (.list UBd)),dY,dI,dI,dI],.mix 17 [dI,dI,dI,dI,(.dat (.list UBd)),dY,dI,dI,dI]])),(1240362622532514091349837830,(.carry [.tmp 9 false [dI],.tmp 8 false [dI],.mix 27 [dI,dI,dI,dI,(.dat (.list UBd)),dY,dI,dI,dI],.mix 17 [dI,dI,dI,dI,(.dat (.list UBd)),dY,dI,dI,dI]])),(11440325928226245933820272473079879995329085953,(.carry [.drop 16,.drop 15,.drop 14,.drop 13,.drop 12,.tmp 8 false [dI],.mix 27 [dI,dI,dI,dI,(.dat (.list UBd)),dY,dI,dI,dI],.mix 17 [dI,dI,dI,dI,(.dat (.list UBd)),dY,dI,dI,dI]]))]
noncomputable def dialtonelaw22_RegistrarRuns:((Int×(Int×(Int×Int)))×(List (Int×(Bool×(LU×(LU×(Int×(Bool×((List (LU×(Int×Int)))×(Int×(LU×(Int×(List LU)))))))))))))→Option Bool:=fun ((a1,(a2,(a3,a4))),a5) =>
 bindO (registrar_Valid (a1,(a2,(a3,a4)))) fun x6 =>
 bif (!x6) then
 bindO (dialtoneref22_Valid (a1,(a2,(a3,a4)))) fun x7 =>
 bif (!x7) then
 some Bool.true
 else
 some Bool.false
 else
 bindO (dialtoneref22_Valid (a1,(a2,(a3,a4)))) fun x9 =>
 bif (!x9) then
 some Bool.false
 else
 joinO (loopO (fun (v10,(v11,((v12,(v13,(v14,(v15,(v16,(v17,(v18,(v19,v20)))))))),(v21,(v22,(v23,(v24,(v25,(v26,(v27,(v28,v29))))))))))) =>
 bif (decide (v10<(lI a5))) then
 bif (decide (v10<(30:Int))) then
 bif (iR v10 a5) then
 bindO a5[(Int.toNat v10)]? fun x30 =>
 bindO (dialtonelaw22_few (x30.2.2.1,(x30.2.2.2.1,(x30.2.2.2.2.1,(x30.2.2.2.2.2.1,(x30.2.2.2.2.2.2.1,(x30.2.2.2.2.2.2.2.1,(x30.2.2.2.2.2.2.2.2.1,(x30.2.2.2.2.2.2.2.2.2.1,x30.2.2.2.2.2.2.2.2.2.2))))))))) fun x31 =>
 bif (!x31) then
 outO (outO (some Bool.true))
 else
 bindO (copyM (v21,(v22,(v23,(v24,(v25,(v26,(v27,(v28,v29))))))))) fun (x34,(x35,(x36,(x37,(x38,(x39,(x40,(x41,x42)))))))) =>
 joinO (bif (iR v10 a5) then
 bindO a5[(Int.toNat v10)]? fun x43 =>
 bif x43.2.1 then
 bindO (syncM (v21,(v22,(v23,(v24,(v25,(v26,(v27,(v28,v29))))))))) fun (x45,(x46,(x47,(x48,(x49,(x50,(x51,(x52,(x53,x54))))))))) =>
 bif (decide (x45≠z0)) then
 outO (outO (outO (some Bool.false)))
 else
 bindO (dialtoneref20_Sync (v17,(v18,v19))) fun (x56,(x57,x58)) =>
 some (Sum.inl (v11,((v12,(v13,(v14,(v15,(v16,(x56,(x57,(x58,v20)))))))),(x46,(x47,(x48,(x49,(x50,(x51,(x52,(x53,x54)))))))))))
 else
 bif (iR v10 a5) then
 bindO a5[(Int.toNat v10)]? fun x59 =>
 bindO (some (wI ((wI (v11+(wI x59.1)))-(300:Int)))) fun x62 =>
 bif (iR v10 a5) then
 bindO a5[(Int.toNat v10)]? fun x63 =>
 bindO (registrar_Registrar_Register (x62,((x63.2.2.1,(x63.2.2.2.1,(x63.2.2.2.2.1,(x63.2.2.2.2.2.1,(x63.2.2.2.2.2.2.1,(x63.2.2.2.2.2.2.2.1,(x63.2.2.2.2.2.2.2.2.1,(x63.2.2.2.2.2.2.2.2.2.1,x63.2.2.2.2.2.2.2.2.2.2)))))))),(v21,(v22,(v23,(v24,(v25,(v26,(v27,(v28,v29))))))))))) fun (x65,(x66,(x67,(x68,(x69,(x70,(x71,(x72,(x73,(x74,x75)))))))))) =>
 bif (iR v10 a5) then
 bindO a5[(Int.toNat v10)]? fun x76 =>
 bindO (dialtoneref22_Register ((v12,(v13,(v14,(v15,(v16,(v17,(v18,(v19,v20)))))))),(x62,(x76.2.2.1,(x76.2.2.2.1,(x76.2.2.2.2.1,(x76.2.2.2.2.2.1,(x76.2.2.2.2.2.2.1,(x76.2.2.2.2.2.2.2.1,(x76.2.2.2.2.2.2.2.2.1,(x76.2.2.2.2.2.2.2.2.2.1,x76.2.2.2.2.2.2.2.2.2.2))))))))))) fun ((x78,(x79,(x80,(x81,(x82,(x83,(x84,(x85,x86)))))))),(x87,x88)) =>
 bif (decide (x66≠x88)) then
 outO (outO (outO (some Bool.false)))
 else
 bindO (dialtoneref22_Same (x65,x87)) fun x89 =>
 bif (!x89) then
 outO (outO (outO (some Bool.false)))
 else
 some (Sum.inl (x62,((x78,(x79,(x80,(x81,(x82,(x83,(x84,(x85,x86)))))))),(x67,(x68,(x69,(x70,(x71,(x72,(x73,(x74,x75)))))))))))
 else none
 else none
 else none
 else none) fun (v90,((v91,(v92,(v93,(v94,(v95,(v96,(v97,(v98,v99)))))))),(v100,(v101,(v102,(v103,(v104,(v105,(v106,(v107,v108)))))))))) =>
 bif (iR v10 a5) then
 bindO a5[(Int.toNat v10)]? fun x109 =>
 bindO (sameM ((v91,(v92,(v93,(v94,(v95,(v96,(v97,(v98,v99)))))))),(v90,(x109.2.2.1,(v100,(v101,(v102,(v103,(v104,(v105,(v106,(v107,v108)))))))))))) fun x110 =>
 bif (!x110) then
 outO (outO (some Bool.false))
 else
 bif (iR v10 a5) then
 bindO a5[(Int.toNat v10)]? fun x111 =>
 bindO (sameM ((v12,(v13,(v14,(v15,(v16,(v17,(v18,(v19,v20)))))))),(v90,(x111.2.2.1,(x34,(x35,(x36,(x37,(x38,(x39,(x40,(x41,x42)))))))))))) fun x112 =>
 bif (!x112) then
 outO (outO (some Bool.false))
 else
 some (Sum.inl ((wI (v10+z1)),((maxA v90 z0),((v91,(v92,(v93,(v94,(v95,(v96,(v97,(v98,v99)))))))),(v100,(v101,(v102,(v103,(v104,(v105,(v106,(v107,v108))))))))))))
 else none
 else none
 else none
 else
 outO (some (Sum.inl ((v12,(v13,(v14,(v15,(v16,(v17,(v18,(v19,v20)))))))),(v21,(v22,(v23,(v24,(v25,(v26,(v27,(v28,v29)))))))))))
 else
 outO (some (Sum.inl ((v12,(v13,(v14,(v15,(v16,(v17,(v18,(v19,v20)))))))),(v21,(v22,(v23,(v24,(v25,(v26,(v27,(v28,v29)))))))))))) (z0,(z0,((a1,(a2,(a3,(a4,(([]:List (LU×(LU×(Int×(Int×(Int×(LU×(Int×(LU×(Int×(List LU))))))))))),(([]:List Int),(z0,(z0,z0)))))))),(a1,(a2,(a3,(a4,(([]:List (LU×(LU×(Int×(Int×(Int×(LU×(Int×(LU×(Int×(List LU))))))))))),(([]:List Int),(z0,(z0,z0)))))))))))) fun ((v114,(v115,(v116,(v117,(v118,(v119,(v120,(v121,v122)))))))),(v123,(v124,(v125,(v126,(v127,(v128,(v129,(v130,v131))))))))) =>
 some Bool.true
noncomputable def cons4:List (Nat×CE):=(9,⟨[],riB,(fun _=>some true)⟩)::(21,⟨[.tmp 0 false [.pt 20000010 0],.tmp 1 true [.dat uI6,.dat uI6,.dat uI6,.dat uI6,.dat (.list UBd),.dat (.list uI8),.dat uI6,.dat uI6,.dat uI6],.tmp 2 false [.dat uI6],.tmp 3 false [.dat .str],.mix 20000010 [.dat uI6,.dat uI6,.dat uI6,.dat uI6,.dat (.list UBd),.dat (.list uI8),.dat uI6,.dat uI6,.dat uI6]],[.tmp 0 false [dO]],sameM⟩)::cons21_sameM
theorem cons4_ok:ConL Try.prog cons4:=⟨con_true (by kernel_rfl) lives_o,⟨con21_sameM,cons21_sameM_ok⟩⟩
theorem con4:ConOk Try.prog 4 ⟨[(.tmp 0 true [dI,dI,dI,dI]),(.tmp 1 false [(.dat (.list (.pair (.int .u16) (.pair .bool (.pair .str (.pair .str (.pair uI6 (.pair .bool (.pair (.list (.pair .str (.pair uI6 uI6))) (.pair uI6 (.pair .str (.pair uI6 (.list .str)))))))))))))])],[(.tmp 0 false [dO])],dialtonelaw22_RegistrarRuns⟩ :=
 tree_ok (plan:=planOf plan4) (eg:=egNo) KK tabL_ok (conOf_ok cons4_ok) Try.func4 (by kernel_rfl) (by kernel_rfl) 10000 (fun a r h=>Eq.trans (show _=dialtonelaw22_RegistrarRuns a from by kernel_rfl) h)
end Go.Proofs.Ytlaccfegaoaakaa

set_option maxRecDepth 100000
namespace Go.Proofs.Ytlaccfegaoaakaa
open Go.RowKit
abbrev RgS:=Int×(Int×(Int×(Int×(List Bnd×(List Int×(Int×(Int×Int)))))))
def mkS (c:Cf) (L:List Bnd) (B:List Int) (s n last:Int):RgS:=(c.1,(c.2.1,(c.2.2.1,(c.2.2.2,(L,(B,(s,(n,last))))))))
theorem rg_eq (a1:Int) (r:Rg9) (c:Cf) (a15:List Bnd) (a16:List Int) (a17 a18 a19:Int):registrar_Registrar_Register (a1,(r,(c.1,(c.2.1,(c.2.2.1,(c.2.2.2,(a15,(a16,(a17,(a18,a19)))))))))) =
 bindO (registrar_Valid c) fun x20 =>
 bif (!x20) then
  some (([]:List Bnd),((1:Int),(c.1,(c.2.1,(c.2.2.1,(c.2.2.2,(a15,(a16,(a17,(a18,a19))))))))))
 else
  bindO (registrar_EncodeAct (a1,r)) fun (x22,x23) =>
  bif (decide (x23≠(0:Int))) then
   some (([]:List Bnd),(x23,(c.1,(c.2.1,(c.2.2.1,(c.2.2.2,(a15,(a16,(a17,(a18,a19))))))))))
  else
   bif (decide (a1<a19)) then
    some (([]:List Bnd),((9:Int),(c.1,(c.2.1,(c.2.2.1,(c.2.2.2,(a15,(a16,(a17,(a18,a19))))))))))
   else
    bif (!r.2.2.2.1) then
     bif (decide ((((List.length (rCs r)):Nat):Int)=(0:Int))) then
      bindO (registrar_Lookup (a15,(a1,r.1))) fun x24 =>
      some (x24,((0:Int),(c.1,(c.2.1,(c.2.2.1,(c.2.2.2,(a15,(a16,(a17,(a18,a19))))))))))
     else
      bindO (registrar_Update (c,(a15,(a1,(a18,r))))) fun (x26,x27) =>
      bif (decide (x27≠(0:Int))) then
       some (([]:List Bnd),(x27,(c.1,(c.2.1,(c.2.2.1,(c.2.2.2,(a15,(a16,(a17,(a18,a19))))))))))
      else
       bindO (journal_Append ((a16,(a17,a18)),((1:Int),x22))) fun ((x29,(x30,x31)),x32) =>
       bif (decide (x32≠(0:Int))) then
        some (([]:List Bnd),(x32,(c.1,(c.2.1,(c.2.2.1,(c.2.2.2,(a15,(a16,(a17,(a18,a19))))))))))
       else
        bindO (registrar_Lookup (x26,(a1,r.1))) fun x33 =>
        some (x33,((0:Int),(c.1,(c.2.1,(c.2.2.1,(c.2.2.2,(x26,(x29,(x30,(x31,a1))))))))))
    else
     bindO (registrar_Update (c,(a15,(a1,(a18,r))))) fun (x35,x36) =>
     bif (decide (x36≠(0:Int))) then
      some (([]:List Bnd),(x36,(c.1,(c.2.1,(c.2.2.1,(c.2.2.2,(a15,(a16,(a17,(a18,a19))))))))))
     else
      bindO (journal_Append ((a16,(a17,a18)),((1:Int),x22))) fun ((x38,(x39,x40)),x41) =>
      bif (decide (x41≠(0:Int))) then
       some (([]:List Bnd),(x41,(c.1,(c.2.1,(c.2.2.1,(c.2.2.2,(a15,(a16,(a17,(a18,a19))))))))))
      else
       bindO (registrar_Lookup (x35,(a1,r.1))) fun x42 =>
       some (x42,((0:Int),(c.1,(c.2.1,(c.2.2.1,(c.2.2.2,(x35,(x38,(x39,(x40,a1)))))))))):=rfl
theorem rr_eq (c:Cf) (a5:List Bnd) (a6:List Int) (a7 a8 a9 a10:Int) (r:Rg9):dialtoneref22_Register ((c.1,(c.2.1,(c.2.2.1,(c.2.2.2,(a5,(a6,(a7,(a8,a9)))))))),(a10,r)) =
 bindO (encR (a10,r)) fun (x21,x22) =>
 bif (decide (x22≠(0:Int))) then
  some ((c.1,(c.2.1,(c.2.2.1,(c.2.2.2,(a5,(a6,(a7,(a8,a9)))))))),(([]:List Bnd),x22))
 else
  bif (decide (a10<a9)) then
   some ((c.1,(c.2.1,(c.2.2.1,(c.2.2.2,(a5,(a6,(a7,(a8,a9)))))))),(([]:List Bnd),(9:Int)))
  else
   bif (!r.2.2.2.1) then
    bif (decide ((((List.length (rCs r)):Nat):Int)=(0:Int))) then
     bindO (dialtoneref22_Lookup (a5,(a10,r.1))) fun x23 =>
     some ((c.1,(c.2.1,(c.2.2.1,(c.2.2.2,(a5,(a6,(a7,(a8,a9)))))))),(x23,(0:Int)))
    else
     bindO (dialtoneref22_Update (c,(a5,(a10,(a8,r))))) fun (x25,x26) =>
     bif (decide (x26≠(0:Int))) then
      some ((c.1,(c.2.1,(c.2.2.1,(c.2.2.2,(a5,(a6,(a7,(a8,a9)))))))),(([]:List Bnd),x26))
     else
      bindO (dialtoneref20_Append ((a6,(a7,a8)),((1:Int),x21))) fun ((x28,(x29,x30)),x31) =>
      bif (decide (x31≠(0:Int))) then
       some ((c.1,(c.2.1,(c.2.2.1,(c.2.2.2,(a5,(a6,(a7,(a8,a9)))))))),(([]:List Bnd),x31))
      else
       bindO (dialtoneref22_Lookup (x25,(a10,r.1))) fun x32 =>
       some ((c.1,(c.2.1,(c.2.2.1,(c.2.2.2,(x25,(x28,(x29,(x30,a10)))))))),(x32,(0:Int)))
   else
    bindO (dialtoneref22_Update (c,(a5,(a10,(a8,r))))) fun (x34,x35) =>
    bif (decide (x35≠(0:Int))) then
     some ((c.1,(c.2.1,(c.2.2.1,(c.2.2.2,(a5,(a6,(a7,(a8,a9)))))))),(([]:List Bnd),x35))
    else
     bindO (dialtoneref20_Append ((a6,(a7,a8)),((1:Int),x21))) fun ((x37,(x38,x39)),x40) =>
     bif (decide (x40≠(0:Int))) then
      some ((c.1,(c.2.1,(c.2.2.1,(c.2.2.2,(a5,(a6,(a7,(a8,a9)))))))),(([]:List Bnd),x40))
     else
      bindO (dialtoneref22_Lookup (x34,(a10,r.1))) fun x41 =>
      some ((c.1,(c.2.1,(c.2.2.1,(c.2.2.2,(x34,(x37,(x38,(x39,a10)))))))),(x41,(0:Int))):=rfl
theorem al_eq (c:Cf) (a5:List Bnd) (a6:List Int) (a7 a8 a9:Int):registrar_Registrar_All (c.1,(c.2.1,(c.2.2.1,(c.2.2.2,(a5,(a6,(a7,(a8,a9)))))))) =
 bindO (registrar_Valid c) fun x10 =>
 bif (!x10) then
  some ([]:List Bnd)
 else
  bindO (registrar_copyOf a5) fun x11 =>
  some x11:=rfl
theorem lg_eq (c:Cf) (a5:List Bnd) (a6:List Int) (a7 a8 a9:Int):registrar_Registrar_Log (c.1,(c.2.1,(c.2.2.1,(c.2.2.2,(a5,(a6,(a7,(a8,a9)))))))) =
 bindO (registrar_Valid c) fun x10 =>
 bif (!x10) then
  some (([]:List Int),((0:Int),(0:Int)))
 else
  bindO (cloneB a6) fun x11 =>
  bif (decide ((List.length x11)≤(List.length x11))) then
   some ((List.take (List.length x11) x11),(a7,a8))
  else none:=rfl
theorem sy_eq (c:Cf) (a5:List Bnd) (a6:List Int) (a7 a8 a9:Int):syncM (c.1,(c.2.1,(c.2.2.1,(c.2.2.2,(a5,(a6,(a7,(a8,a9)))))))) =
 bindO (registrar_Valid c) fun x10 =>
 bif (!x10) then
  some ((1:Int),(c.1,(c.2.1,(c.2.2.1,(c.2.2.2,(a5,(a6,(a7,(a8,a9)))))))))
 else
  bindO (journal_Sync (a6,(a7,a8))) fun (x12,(x13,x14)) =>
  some ((0:Int),(c.1,(c.2.1,(c.2.2.1,(c.2.2.2,(a5,(x12,(x13,(x14,a9))))))))):=rfl
theorem cp_eq (c:Cf) (a5:List Bnd) (a6:List Int) (a7 a8 a9:Int):copyM (c.1,(c.2.1,(c.2.2.1,(c.2.2.2,(a5,(a6,(a7,(a8,a9)))))))) =
 bindO (registrar_Valid c) fun x10 =>
 bif (!x10) then
  none
 else
  bindO (registrar_Registrar_All (c.1,(c.2.1,(c.2.2.1,(c.2.2.2,(a5,(a6,(a7,(a8,a9))))))))) fun x11 =>
  bindO (registrar_Registrar_Log (c.1,(c.2.1,(c.2.2.1,(c.2.2.2,(a5,(a6,(a7,(a8,a9))))))))) fun (x13,(x14,x15)) =>
  bif (decide ((List.length x13)≤(List.length x13))) then
   some (c.1,(c.2.1,(c.2.2.1,(c.2.2.2,(x11,((List.take (List.length x13) x13),(x14,(x15,a9))))))))
  else none:=rfl
theorem lm_eq (a1:Int) (a2:Tx) (c:Cf) (a7:List Bnd) (a8:List Int) (a9 a10 a11:Int):lookupM (a1,(a2,(c.1,(c.2.1,(c.2.2.1,(c.2.2.2,(a7,(a8,(a9,(a10,a11)))))))))) =
 bindO (registrar_Valid c) fun x12 =>
 bif (!x12) then
  some ([]:List Bnd)
 else
  bindO (registrar_Lookup (a7,(a1,a2))) fun x13 =>
  some x13:=rfl
theorem sm_eq2 (a1 a2 a3 a4:Int) (a5:List Bnd) (a6:List Int) (a7 a8 a9 a10:Int) (a11:Tx) (c:Cf) (a16:List Bnd) (a17:List Int) (a18 a19 a20:Int):sameM ((a1,(a2,(a3,(a4,(a5,(a6,(a7,(a8,a9)))))))),(a10,(a11,(c.1,(c.2.1,(c.2.2.1,(c.2.2.2,(a16,(a17,(a18,(a19,a20))))))))))) =
 bindO (registrar_Registrar_All (c.1,(c.2.1,(c.2.2.1,(c.2.2.2,(a16,(a17,(a18,(a19,a20))))))))) fun x21 =>
 bindO (dialtoneref22_Same (x21,a5)) fun x22 =>
 bif x22 then
  bindO (registrar_Registrar_Log (c.1,(c.2.1,(c.2.2.1,(c.2.2.2,(a16,(a17,(a18,(a19,a20))))))))) fun (x24,(x25,x26)) =>
  bif (decide ((List.length x24)≤(List.length x24))) then
   bindO (dialtoneref20_SameLog (((List.take (List.length x24) x24),(x25,x26)),(a6,(a7,a8)))) fun x27 =>
   bif x27 then
    bindO (lookupM (a10,(a11,(c.1,(c.2.1,(c.2.2.1,(c.2.2.2,(a16,(a17,(a18,(a19,a20))))))))))) fun x28 =>
    bindO (dialtoneref22_Lookup (a5,(a10,a11))) fun x29 =>
    bindO (dialtoneref22_Same (x28,x29)) fun x30 =>
    some x30
   else
    some Bool.false
  else none
 else
  some Bool.false:=rfl
end Go.Proofs.Ytlaccfegaoaakaa
