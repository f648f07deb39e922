import Derived.Test.YtigfeinnobfflaaGreatZ2p
import Derived.Test.YtigfeinnobfflaaGreatZ3p
import Derived.Test.YtigfeinnobfflaaGreatXBp
import Derived.Lib.Overlaps
set_option linter.unusedSimpArgs false
set_option linter.unusedVariables false
set_option maxRecDepth 100000
set_option maxHeartbeats 4000000
namespace Go.Proofs.YtigfeinnobfflaaGreat
open Go.RowKit
theorem So.dec' {α:Type} {p:Prop} [Decidable p] {a b:Option α} {P:α->Prop} (h:So a P) (k:So b P):So (bif decide p then a else b) P:=So.dec (fun _=>h) fun _=>k
theorem aag (x:Int):So (lS x) (fun _=>True):=by
 unfold lS;refine So.join (P:=fun _=>True) (So.dec (fun _ => .inl trivial) fun _ => .inl trivial) fun p _ => ?_;refine So.join (P:=fun _=>True) (So.dec (fun _ => .inl trivial) fun _ => .inl trivial) fun p _ => ?_;have h:∀n:Int,0<=IntKind.wrap .u8 n/\IntKind.wrap .u8 n<256:=fun n=>⟨(qO n).1,by have:=(qO n).2;omega⟩
 exact So.dec (fun _=>So.is rfl (So.pos (h _) (.mk trivial))) fun _=>So.pos (h _) (.mk trivial)
theorem Og {l:List Int} (hl:l.length=160):So (nC l) (fun b=>0<=b/\b<=255):=by
 unfold nC;rw [hl];refine So.neg (by omega) (So.join (P:=fun v=>0<=v) (So.loop (fun s=>0<=s.1/\s.1<=160/\0<=s.2) (fun s=>((160:Int)-s.1).toNat) (fun s hs => ?_) ⟨by omega,by omega,by omega⟩) fun v hv => ?_)
 ·obtain ⟨i,v⟩:=s;obtain ⟨h1,h2,h3⟩:=hs;simp only at h1 h2 h3;refine So.dec (fun h=>So.pos ⟨h1,h⟩ (So.get (by omega) fun x _ _ => ?_)) fun h => .out (.inl h3);rw [aj (n:=i+1) (by omega)];exact .inl ⟨⟨by simp only;omega,by simp only;omega,by simp only;rw [GY];omega⟩,by simp only;omega⟩
 ·refine So.is rfl (So.pos (by rw [GY];omega) (So.is rfl (So.dec (fun _ => .mk (by omega)) fun _ => ?_)));exact So.bind (aag _) fun y _ => .mk (qO _)
theorem Q7 {l:List Int} (hl:l.length=160) (a:Int):So (nD (a,l)) (fun r=>0<=r.1/\r.1<=10):=by
 unfold nD;refine So.bind (Og hl) fun b hb=>So.dec (fun _ => .mk ⟨by simp only;omega,by simp only;omega⟩) fun _=>So.is rfl (.mk ?_);have h:0<=eU (bf a 0) 9/\eU (bf a 0) 9<=9:=Z7 a 0 9 (by omega);rw [aj (by omega)];exact ⟨by simp only;omega,by simp only;omega⟩
theorem aah {b:Int} (hb:0<=b/\b<=255) (s:Int):So (pX (b,(s,160))) (fun r=>r.1.length=160/\r.2.2=0):=by
 unfold pX;simp only;refine So.neg (by omega) (So.neg (by omega) (So.is rfl (So.pos (qO _).1 (So.is rfl (So.pos (by omega) ?_)))));have h5:∀k:Nat,0<=Int.fdiv 32767 ((2:Int) ^ k)/\Int.fdiv 32767 ((2:Int) ^ k)<=32767:=fun k=>by
  have hp:(0:Int)<2 ^ k:=Int.pow_pos (by omega);rw [Int.fdiv_eq_ediv_of_nonneg _ (by omega)];exact ⟨Int.ediv_nonneg (by omega) (by omega),Int.ediv_le_self _ (by omega)⟩
 have h5:=h5 (min (Int.toNat (IntKind.wrap .u8 (Int.tdiv b 6))) 64);generalize Int.fdiv 32767 ((2:Int) ^ (min (Int.toNat (IntKind.wrap .u8 (Int.tdiv b 6))) 64))=a at h5 ⊢;refine So.join (P:=fun v=>v.2.length=160) (So.loop (fun s=>0<=s.1/\s.1<=160/\s.2.2.length=160) (fun s=>((160:Int)-s.1).toNat) (fun s hs => ?_) ⟨by omega,by omega,by simp⟩) fun v hv => ?_
 ·obtain ⟨i,t,v⟩:=s;obtain ⟨h1,h2,h3⟩:=hs;simp only at h1 h2 h3;refine So.dec (fun h=>So.is rfl (So.is rfl (So.pos ?_ (So.pos (show 0<=i/\i<((Int.toNat 160:Nat):Int) from ⟨h1,h⟩) (So.get (show i.toNat<v.length by have:i<160:=h;omega) fun x _ _ => ?_))))) fun h => .out (.inl h3)
  ·rw [aj (n:=2*a) (by omega),aj (by omega)];omega
  ·have h:i<160:=h;rw [aj (n:=i+1) (by omega)];exact .inl ⟨⟨by simp only;omega,by simp only;omega,by simp only [List.length_set];exact h3⟩,by simp only;omega⟩
 ·refine So.pos (by rw [hv];omega) (.mk ⟨?_,rfl⟩);simp only [List.length_take,hv];omega
theorem Oh (z:Int) (k:Nat) (hk:k<=62):((BitVec.toNat (BitVec.ofInt 64 z &&& BitVec.ofInt 64 (((2 ^ k-1:Nat):Int))):Nat):Int)=z % (2:Int) ^ k:=by
 have h2:(2:Nat) ^ k<=2 ^ 62:=Nat.pow_le_pow_right (by omega) hk;have h1:1<=(2:Nat) ^ k:=Nat.one_le_two_pow;rw [BitVec.toNat_and,BitVec.ofInt_natCast,BitVec.toNat_ofNat,Nat.mod_eq_of_lt (by omega),Nat.and_two_pow_sub_one_eq_mod,BitVec.toNat_ofInt];have e:(2:Int) ^ k=((2 ^ k:Nat):Int):=by rw [Int.natCast_pow];rfl
 have d:((2 ^ k:Nat):Int) ∣ ((2 ^ 64:Nat):Int):=Int.ofNat_dvd.2 (Nat.pow_dvd_pow 2 (by omega));have n:0<=z % ((2 ^ 64:Nat):Int):=Int.emod_nonneg _ (by omega);rw [e,<-Int.emod_emod_of_dvd z d,Int.natCast_emod,Int.toNat_of_nonneg n]
theorem ahC {a b:Int} (h1:0<=a/\a<=20000) (h2:0<=b/\b<=20000):iZ (a,(b,65536))=some b:=by
 unfold iZ;have e:=Oh (b-a) 16 (by omega);refine So.eq (So.neg (by omega) (So.neg (by omega) (So.is rfl ?_)));rw [aj (n:=b-a) (by omega),aj (n:=65536-1) (by omega),show ((65536:Int)-1)=((2 ^ 16-1:Nat):Int) from rfl,e,show (2:Int) ^ 16=65536 from rfl,show Int.tdiv 65536 2=32768 from rfl,aj (n:=(b-a) % 65536) (by omega),aj (n:=32768) (by omega)];refine So.dec (fun h => .mk ?_) fun h => .mk ?_
 ·rw [aj (n:=(b-a) % 65536-65536) (by omega),aj (by omega)];omega
 ·rw [aj (by omega)];omega
theorem ahD {a b:Int} (h1:0<=a/\a<=20000) (h2:0<=b/\b<=20000):iZ (a,(b,4294967296))=some b:=by
 unfold iZ;have e:=Oh (b-a) 32 (by omega);refine So.eq (So.neg (by omega) (So.neg (by omega) (So.is rfl ?_)));rw [aj (n:=b-a) (by omega),aj (n:=4294967296-1) (by omega),show ((4294967296:Int)-1)=((2 ^ 32-1:Nat):Int) from rfl,e,show (2:Int) ^ 32=4294967296 from rfl,show Int.tdiv 4294967296 2=2147483648 from rfl,aj (n:=(b-a) % 4294967296) (by omega),aj (n:=2147483648) (by omega)];refine So.dec (fun h => .mk ?_) fun h => .mk ?_
 ·rw [aj (n:=(b-a) % 4294967296-4294967296) (by omega),aj (by omega)];omega
 ·rw [aj (by omega)];omega
theorem ahE {a b:Int} (h1:0<=a/\a<=20000) (h2:0<=b/\b<=20000):jq (a,b)=some b:=by
 unfold jq;simp only;rw [aj (by omega),ahD h1 h2];rfl
def KW (n:Int) (t:Bool×(Int×Int)):Prop:=(t.1=false/\t.2.1=0/\t.2.2=0)\/(t.1=true/\0<=t.2.1/\t.2.1<n/\t.2.2 = -1)
theorem WU {n:Int} (hn:n<=100) {t:Bool×(Int×Int)} (h:KW n t) {k:Int} (hk:0<=k/\k<n):So (lH (t,k)) (fun r=>KW n r.1/\r.1.1=true/\r.2.1=k/\r.2.2=true):=by
 obtain ⟨o,a,b⟩:=t;unfold lH;simp only [KW] at h ⊢;have hb : -1<=b/\b<=0/\0<=a/\a<=100:=by omega
 rw [aj (n:=k) (by omega)];refine So.join (P:=fun _=>True) (So.neg (by omega) (So.neg (by omega) (So.neg (by omega) (So.neg (by omega) (.inl trivial))))) fun _ _ => ?_;rcases h with ⟨h1,h2,h3⟩ | ⟨h1,h2,h3,h4⟩
 ·rw [h1];exact .mk ⟨.inr ⟨rfl,by simp only;omega,by simp only;omega,rfl⟩,rfl,rfl,rfl⟩
 ·rw [h1];have e:oM (a,k)=some k:=by
   unfold oM;simp only;rw [aj (by omega),ahC (by omega) (by omega)];rfl
  refine So.is e ?_;rw [aj (n:=a+3000) (by omega),aj (n:=a-100) (by omega)];refine So.join (P:=fun _=>False) (So.join (P:=fun v=>v=true) (So.pos (by omega) (So.pos (by omega) (.inl (by simp;omega)))) fun v hv => ?_) fun _ hf=>hf.elim;rw [hv];refine .out (.mk ⟨.inr ⟨rfl,?_,?_,rfl⟩,rfl,rfl,rfl⟩)
  ·simp only;unfold bf;split<;>omega
  ·simp only;unfold bf;split<;>omega
theorem aj0 (x:Bool×(Int×(Int×(Int×(Int×(Int×(Int×Int))))))):So (pY x) (fun _=>True):=by
 have lp:∀(l:List Int) (n:Int) (f:Int->Option (Int ⊕ (Unit ⊕ (Bool ⊕ Bool)))),n=(l.length:Int)->(∀i:Int,¬i<n->f i=aA (some (.inl ())))->(∀i:Int,0<=i->i<n->So (f i) (Sm (fun y=>y=i+1) (Sm (fun _=>True) (Sm (fun _=>True) fun _=>True))))->So (au (bn f (0:Int)) fun _=>some (Sum.inl true)) (Sm (fun _=>True) fun _=>True):=fun l n f hn h1 h2=>by
  refine So.join (P:=fun _=>True) (So.loop (fun v=>0<=v/\v<=n) (fun v=>(n-v).toNat) (fun v hv => ?_) ⟨by omega,by omega⟩) fun _ _ => .inl trivial;by_cases h:v<n
  ·refine (h2 v hv.1 h).imp fun s hs => ?_;rcases s with y | b
   ·simp only [Sm] at hs ⊢;subst hs;omega
   ·exact hs
  ·rw [h1 v h];exact .out (.inl trivial)
 unfold pY;refine So.join (P:=fun _=>True) (lp [x.2.1,x.2.2.1,x.2.2.2.2.2.2.1] 3 _ rfl (fun i hi => ?_) fun i h0 h1 => ?_) fun v _ => ?_
 ·exact (qN ..).trans (if_neg hi)
 ·refine So.pos h1 (So.pos ⟨h0,h1⟩ (So.get (by simp;omega) fun y _ _=>So.dec' (.out (.out (.mk trivial))) (So.dec' (.out (.out (.mk trivial))) (.inl ?_))));exact aj (by omega)
 cases v with
 | false=>exact .mk trivial
 | true =>
   refine So.dec' ?_ (.mk trivial);refine So.join (P:=fun _=>True) (lp [x.2.2.2.1,x.2.2.2.2.1,x.2.2.2.2.2.1] 3 _ rfl (fun i hi => ?_) fun i h0 h1 => ?_) fun v _ => ?_
   ·exact (qN ..).trans (if_neg hi)
   ·refine So.pos h1 (So.pos ⟨h0,h1⟩ (So.get (by simp;omega) fun y _ _=>So.dec' (.out (.out (.mk trivial))) (So.dec' (.out (.out (.mk trivial))) (.inl ?_))));exact aj (by omega)
   cases v with
   | false=>exact .mk trivial
   | true =>
     refine So.join (P:=fun _=>True) (lp [x.2.2.2.2.2.2.2] 1 _ rfl (fun i hi => ?_) fun i h0 h1 => ?_) fun v _ => .mk trivial
     ·exact (qN ..).trans (if_neg hi)
     ·refine So.pos h1 (So.pos ⟨h0,h1⟩ (So.get (by simp;omega) fun y _ _=>So.dec' (.out (.out (.mk trivial))) (So.dec' (.out (.out (.mk trivial))) (.inl ?_))));exact aj (by omega)
theorem aai (x:Int):So (kY x) (fun _=>True):=by
 unfold kY;exact So.dec' (.mk trivial) (.mk trivial)
theorem WV (x:(Bool×(Int×(Int×(Int×(Int×(Int×(Int×Int)))))))×(Int×(Int×Int))):So (lJ x) (fun _=>True):=by
 unfold lJ;refine So.join (P:=fun _=>True) (So.bind (aj0 _) fun v _=>So.if (fun _ => .out (.mk trivial)) fun _=>So.bind (aai _) fun v _=>So.if (fun _ => .out (.mk trivial)) fun _=>So.bind (aai _) fun v _=>So.if (fun _ => .out (.mk trivial)) fun _=>So.bind (aai _) fun v _=>So.if (fun _ => .out (.mk trivial)) fun _ => .inl trivial) fun _ _ => ?_;refine So.is rfl (So.if (fun _ => .mk trivial) fun _=>So.is rfl (So.join (P:=fun _=>True) (So.dec' (.inl trivial) (.inl trivial)) fun v _ => .mk trivial))
def Dc (x:Int):Nat->List Int
 | 0=>[]
 | k+1=>IntKind.wrap .u8 (Int.fdiv x ((2:Int) ^ (8*k)))::Dc x k
theorem Bh (x:Int):∀n,(Dc x n).length=n
 | 0=>rfl
 | n+1=>by rw [Dc,List.length_cons,Bh x n]
theorem aaj (b:List Int) (x:Int) (n:Nat) (hn:n<=4) (hb:b.length<=100000):jB (b,(x,(n:Int)))=some (b++Dc x n):=by
 unfold jB;refine So.eq (So.join (P:=(· = b++Dc x n)) (So.le (So.loop (fun s=>∃k:Nat,s.2=(k:Int)/\k<=n/\s.1++Dc x k=b++Dc x n/\s.1.length+k=b.length+n) (fun s=>s.2.toNat) (fun s hs => ?_) ⟨n,rfl,Nat.le_refl _,by simp only [List.take_length],by simp only [List.take_length]⟩)) fun v hv => ?_)
 ·obtain ⟨v,i⟩:=s;obtain ⟨k,rfl,h2,h3,h4⟩:=hs;simp only at h3 h4;cases k with
  | zero =>
    refine So.neg (by omega) (.out (So.le (.inl ?_)));rw [List.take_length,<-h3];simp [Dc]
  | succ k =>
    refine So.pos (by omega) ?_;rw [aj (n:=((k+1:Nat):Int)-1) (by omega),show ((k+1:Nat):Int)-1=(k:Int) by omega];refine So.is rfl ?_;rw [aj (n:=8*(k:Int)) (by omega)];refine So.is rfl (So.pos (by omega) (So.is rfl (So.le (So.pos (by simp;omega) (So.is rfl (So.le (.inl ?_)))))));rw [show Int.toNat (8*(k:Int))=8*k by omega,Nat.min_eq_left (by omega)];refine ⟨⟨k,rfl,by omega,?_,by simp;omega⟩,by simp only;omega⟩;simp only [List.take_length];rw [<-h3,Dc];simp
 ·subst hv;refine So.le (.mk ?_);rw [List.take_length]
def Bj (a c:Int):Int:=IntKind.wrap .u32 (((BitVec.toNat ((BitVec.ofInt 32 (IntKind.wrap .u32 (a*(256:Int)))) ||| (BitVec.ofInt 32 (IntKind.wrap .u32 c)))):Nat):Int)
theorem G6 (l:List Int) (hl:l.length<=100):gU l=some (l.foldl Bj 0):=by
 unfold gU;refine So.eq (So.join (P:=(· = l.foldl Bj 0)) (So.loop (fun s=>∃k:Nat,s.1=(k:Int)/\k<=l.length/\(l.drop k).foldl Bj s.2=l.foldl Bj 0) (fun s=>((l.length:Int)-s.1).toNat) (fun s hs => ?_) ⟨0,rfl,by omega,rfl⟩) fun v hv => .mk hv);obtain ⟨i,v⟩:=s;obtain ⟨k,rfl,h2,h3⟩:=hs;simp only at h3;refine So.dec (fun h=>So.pos (by omega) ?_) fun h => .out (.inl ?_)
 ·have hk:k<l.length:=by omega
  refine So.is (ajy 0 hk) (.inl ⟨⟨k+1,?_,by omega,?_⟩,?_⟩)
  ·simp only;rw [aj (by omega)];omega
  ·rw [<-h3,List.drop_eq_getElem_cons hk,List.foldl_cons,NT 0 hk];rfl
  ·simp only;rw [aj (by omega)];omega
 ·have hk:k=l.length:=by omega
  rw [hk,List.drop_length] at h3;exact h3
theorem Df {a c:Int} (ha:0<=a/\a<16777216) (hc:0<=c/\c<256):Bj a c=a*256+c:=by
 obtain ⟨x,rfl⟩:=Int.eq_ofNat_of_zero_le ha.1;obtain ⟨y,rfl⟩:=Int.eq_ofNat_of_zero_le hc.1;unfold Bj;rw [GX ((x:Int)*256),GX (y:Int),Int.emod_eq_of_lt (by omega) (by omega),Int.emod_eq_of_lt (by omega) (by omega)];rw [BitVec.toNat_or,show ((x:Int)*256)=((x*256:Nat):Int) from by omega,BitVec.ofInt_natCast,BitVec.ofInt_natCast,BitVec.toNat_ofNat,BitVec.toNat_ofNat,Nat.mod_eq_of_lt (by omega),Nat.mod_eq_of_lt (by omega)];have:=Nat.shiftLeft_add_eq_or_of_lt (i:=8) (b:=y) (by omega) x;rw [Nat.shiftLeft_eq] at this;rw [<-this,GX,Int.emod_eq_of_lt (by omega) (by omega)];omega
theorem Uc {x:Int} (h:0<=x/\x<65536):Dc x 2=[x / 256,x % 256]:=by
 simp only [Dc];rw [Int.fdiv_eq_ediv_of_nonneg _ (by decide),Int.fdiv_eq_ediv_of_nonneg _ (by decide),Ec,Ec,show (2:Int) ^ (8*1)=256 from rfl,show (2:Int) ^ (8*0)=1 from rfl,Int.ediv_one,Int.emod_eq_of_lt (a:=x / 256) (by omega) (by omega)]
theorem alo {x:Int} (h:0<=x/\x<65536):(Dc x 2).foldl Bj 0=x:=by
 rw [Uc h];simp only [List.foldl];rw [Df (a:=0) (by omega) (by omega),Df (by omega) (by omega)];omega
theorem KX {x:Int} (h:0<=x/\x<4294967296):Dc x 4=[x / 16777216,x / 65536 % 256,x / 256 % 256,x % 256]:=by
 simp only [Dc];rw [Int.fdiv_eq_ediv_of_nonneg _ (by decide),Int.fdiv_eq_ediv_of_nonneg _ (by decide),Int.fdiv_eq_ediv_of_nonneg _ (by decide),Int.fdiv_eq_ediv_of_nonneg _ (by decide),Ec,Ec,Ec,Ec,show (2:Int) ^ (8*3)=16777216 from rfl,show (2:Int) ^ (8*2)=65536 from rfl,show (2:Int) ^ (8*1)=256 from rfl,show (2:Int) ^ (8*0)=1 from rfl,Int.ediv_one,Int.emod_eq_of_lt (a:=x / 16777216) (by omega) (by omega)]
theorem aj1 {x:Int} (h:0<=x/\x<4294967296):(Dc x 4).foldl Bj 0=x:=by
 rw [KX h];simp only [List.foldl];rw [show Bj 0 (x / 16777216)=x / 16777216 by rw [Df (by omega) (by omega)];omega,show Bj (x / 16777216) (x / 65536 % 256)=x / 65536 by rw [Df (by omega) (by omega)];omega,show Bj (x / 65536) (x / 256 % 256)=x / 256 by rw [Df (by omega) (by omega)];omega,Df (by omega) (by omega)];omega
theorem aak (l:List Int) (hl:l.length<=100000):nH l=some l:=by
 unfold nH;refine So.eq (So.dec (fun h => .mk (List.length_eq_zero_iff.1 (by omega)).symm) fun h => ?_);have e:Gm (List.replicate (Int.toNat (l.length:Int)) (0:Int)) 0 (List.take (Int.toNat (l.length:Int)) l)=l:=by
  rw [Int.toNat_natCast,List.take_length];exact NU (by simp)
 refine So.pos (by omega) (So.pos (by simp) ?_);rw [e,Int.toNat_natCast];exact So.le (.mk List.take_length)
def hd2 (mk:Bool) (ty:Int):Int:=bif mk then IntKind.wrap .u8 (((BitVec.toNat ((BitVec.ofInt 8 ty) ||| (BitVec.ofInt 8 (128:Int)))):Nat):Int) else ty
def Dh (mk:Bool) (ty sq tm sr:Int) (pl:List Int):List Int:=[128,hd2 mk ty]++Dc sq 2++Dc tm 4++Dc sr 4++pl
def Ty4 (ty:Int):Prop:=ty=0\/ty=8\/ty=96\/ty=13
theorem aj2 {mk:Bool} {ty sq tm sr:Int} {pl:List Int} (ht:Ty4 ty) (hs:0<=sq/\sq<65536) (hp:pl.length<=1500) :
 oL (mk,(ty,(sq,(tm,(sr,([],(false,(0,([],(pl,0))))))))))=some (Dh mk ty sq tm sr pl,0):=by
 have hc:vG (mk,(ty,(sq,(tm,(sr,([],(false,(0,([],(pl,0))))))))))=some 0:=by
  rcases ht with rfl | rfl | rfl | rfl<;>exact ((qN ((pl.length:Int) > 1500) (some 4) (some 0)).trans (if_neg (by omega)))
 unfold oL;simp only;rw [GX sq,Int.emod_eq_of_lt (by omega) (by omega)];refine So.eq (So.is hc (So.neg (by omega) (So.is rfl (So.join (P:=(· = 128)) (So.neg (by omega) (.inl rfl)) fun v hv => ?_))));subst hv;refine So.join (P:=(· = 128)) (.inl rfl) fun v hv => ?_;subst hv;refine So.join (P:=(· = hd2 mk ty)) (by cases mk<;>exact .inl rfl) fun v hv => ?_;subst hv;have l2:=Bh sq 2;have l4:=Bh tm 4;have m4:=Bh sr 4;refine So.is (aaj _ sq 2 (by omega) (by simp)) (So.pos trivial (So.is (aaj _ tm 4 (by omega) (by simp [l2])) (So.pos trivial (So.is (aaj _ sr 4 (by omega) (by simp [l2,l4])) ?_))));have hw:([128,hd2 mk ty]++Dc sq 2++Dc tm 4++Dc sr 4).length=12:=by simp only [List.length_append,l2,l4,m4];rfl
 show So (au _ _) _;have e:[128,hd2 mk ty]++Dc sq 2++Dc tm 4++Dc sr 4++pl=Dh mk ty sq tm sr pl:=rfl;generalize [128,hd2 mk ty]++Dc sq 2++Dc tm 4++Dc sr 4=w at hw e;refine So.join (P:=(· = w)) (So.le ?_) fun v hv => ?_
 ·rw [List.take_length];refine So.loop (fun s=>s=(0,w)) (fun _=>0) (fun s hs => ?_) rfl;subst hs;exact So.neg (by simp) (.out (So.le (.inl List.take_length)))
 ·subst hv;refine So.join (P:=(· = v)) (So.le (.inl List.take_length)) fun u hu => ?_;subst hu;refine So.le (So.pos (by simp only [List.take_length,List.length_append];omega) (So.is rfl (So.neg (by omega) (So.le (.mk ?_)))));rw [List.take_length,List.take_length,e]
theorem ahF {ty:Int} (ht:Ty4 ty) (mk:Bool):decide (IntKind.wrap .u8 (((BitVec.toNat ((BitVec.ofInt 8 (hd2 mk ty)) &&& (BitVec.ofInt 8 (128:Int)))):Nat):Int)≠0)=mk/\IntKind.wrap .u8 (((BitVec.toNat ((BitVec.ofInt 8 (hd2 mk ty)) &&& (BitVec.ofInt 8 (127:Int)))):Nat):Int)=ty:=by
 rcases ht with rfl | rfl | rfl | rfl<;>cases mk<;>exact ⟨by decide,by decide⟩
theorem aj3 (r:List Int) (h:11<=r.length):kX (128::r)=some (0,0):=by
 unfold kX;have hl:((List.length (128::r):Nat):Int)>=12:=by simp only [List.length_cons];omega
 refine So.eq (So.neg (by omega) (So.pos (by omega) (So.is rfl (So.neg (by decide) ?_))));refine So.pos (by omega) (So.is rfl (So.is rfl ?_));rw [show IntKind.wrap .i64 ((12:Int)+(IntKind.wrap .i64 ((4:Int)*(IntKind.wrap .i64 (IntKind.wrap .u8 (((BitVec.toNat ((BitVec.ofInt 8 (128:Int)) &&& (BitVec.ofInt 8 (15:Int)))):Nat):Int))))))=12 by decide];exact So.neg (by omega) (So.pos (by omega) (So.is rfl (So.pos (by decide) (.mk rfl))))
theorem aj6 {ty:Int} (ht:Ty4 ty) (mk:Bool) {a b c d e f g h i j sq tm sr:Int} {pl:List Int} (hp:pl.length<=1500) (h1:[a,b].foldl Bj 0=sq) (h2:[c,d,e,f].foldl Bj 0=tm) (h3:[g,h,i,j].foldl Bj 0=sr) (hs:0<=sq/\sq<65536) :
 lG (128::hd2 mk ty::a::b::c::d::e::f::g::h::i::j::pl)=some ((mk,(ty,(sq,(tm,(sr,([],(false,(0,([],(pl,0)))))))))),(0,0)):=by
 obtain ⟨e1,e2⟩:=ahF ht mk;unfold lG;refine So.eq (So.is (aj3 _ (by simp)) (So.neg (by omega) (So.if (fun _ => ?_) fun h => ?_)))
 rotate_left
 ·exfalso;revert h;simp;omega
 refine So.is rfl (So.pos (by simp;omega) (So.pos (by simp) (So.is rfl (So.pos (by simp) (So.is rfl (So.pos (by simp) (So.is rfl (So.pos (by simp) (So.is rfl ?_)))))))));refine So.if (fun _=>So.is ((G6 _ (by simp)).trans (congrArg some h1)) ?_) fun h => ?_
 rotate_left
 ·exfalso;revert h;simp
 refine So.if (fun _=>So.is ((G6 _ (by simp)).trans (congrArg some h2)) ?_) fun h => ?_
 rotate_left
 ·exfalso;revert h;simp
 refine So.if (fun _=>So.is ((G6 _ (by simp)).trans (congrArg some h3)) ?_) fun h => ?_
 rotate_left
 ·exfalso;revert h;simp
 ·refine So.join (P:=(· = ((mk,(ty,(sq,(tm,(sr,([],(false,(0,0)))))))),pl))) (So.pos (by simp) (So.is rfl (So.loop (fun s=>s=(0,((mk,(ty,(sq,(tm,(sr,([],(false,(0,0)))))))),pl))) (fun _=>0) (fun s hs => ?_) ?_))) fun v hv => ?_
  ·subst hs;exact So.neg (by decide) (.out (So.le (.inl rfl)))
  ·rw [e1,e2,Zt,Int.emod_eq_of_lt (by omega) (by omega)];rfl
  ·subst hv;refine So.join (P:=(· = ((mk,(ty,(sq,(tm,(sr,([],(false,(0,([],0))))))))),pl))) (So.if (fun h=>by cases h) fun _=>So.le (.inl rfl)) fun v hv => ?_;subst hv;refine So.join (P:=(· = (mk,(ty,(sq,(tm,(sr,([],(false,(0,([],0)))))))))))  (So.neg (by decide) (So.le (.inl rfl))) fun v hv => ?_;subst hv;simp only;rw [aj (n:=(pl.length:Int)-0) (by omega)];refine So.neg (by omega) (So.is rfl (So.if (fun _=>So.pos (by omega) ?_) fun h => ?_))
   ·rw [show Int.toNat ((pl.length:Int)-0)=pl.length by omega,List.take_length];exact So.is (aak pl (by omega)) (So.le (.mk rfl))
   ·exfalso;revert h;simp
theorem WW {mk:Bool} {ty sq tm sr:Int} {pl:List Int} (hs:0<=sq/\sq<65536) (hm:0<=tm/\tm<4294967296) (hr:0<=sr/\sr<4294967296) (ht:Ty4 ty) (hp:pl.length<=1500) :
 lG (Dh mk ty sq tm sr pl)=some ((mk,(ty,(sq,(tm,(sr,([],(false,(0,([],(pl,0)))))))))),(0,0)):=by
 unfold Dh;have n2:=alo hs;have n4:=aj1 hm;have n6:=aj1 hr;rw [Uc hs] at n2 ⊢;rw [KX hm] at n4 ⊢;rw [KX hr] at n6 ⊢;exact aj6 ht mk hp n2 n4 n6 hs
theorem aal {mk:Bool} {ty sq tm sr:Int} {pl:List Int} (hp:pl.length<=1500):(Dh mk ty sq tm sr pl).length<=1600:=by
 unfold Dh;simp only [List.length_append,Bh,List.length_cons,List.length_nil];omega
abbrev WT:=Int×(Int×(Int×(Bool×(Int×List Int))))
abbrev JT:=Int×(Int×(Int×(Bool×(Int×(Int×(Int×(Int×(Int×(Int×(List WT×(Int×(Int×Int))))))))))))
structure Jt where
 le:Int
 mo:Int
 now:Int
 on:Bool
 zero:Int
 first:Int
 high:Int
 done:Int
 spread:Int
 transit:Int
 q:List WT
 late:Int
 twice:Int
 played:Int
def Jt.t (j:Jt):JT:=(j.le,(j.mo,(j.now,(j.on,(j.zero,(j.first,(j.high,(j.done,(j.spread,(j.transit,(j.q,(j.late,(j.twice,j.played)))))))))))))
def ER (a b:WT):Prop:=a.1<b.1\/(a.1=b.1/\a.2.1<b.2.1)
def WOk (now high:Int) (w:WT):Prop:=now<w.1/\w.1<=3000000/\0<=w.2.1/\w.2.1<=high/\0<=w.2.2.1/\w.2.2.1<=20000/\w.2.2.2.2.2.length<=1500
def QV (now high:Int) (q:List WT):Prop:=q.Pairwise ER/\(q.map (·.2.1)).Nodup/\∀w∈q,WOk now high w
def NV (j:Jt):Prop:=(1<=j.le/\j.le<=j.mo/\j.mo<=1000)/\(0<=j.now/\j.now<=1000000)/\(-10000000<=j.zero/\j.zero<=10000000)/\(0<=j.first/\j.first<=20000)/\(-1<=j.high/\j.high<=1000)/\(-1<=j.done/\j.done<=1000)/\(0<=j.spread/\j.spread<=67108864)/\(-2000000<=j.transit/\j.transit<=2000000)/\0<=j.late/\0<=j.twice/\0<=j.played/\j.late+j.twice+j.played+j.q.length<=190
def JV (j:Jt):Prop:=NV j/\(j.on=false->j.q=[]/\j.high = -1/\j.done = -1)/\QV j.now j.high j.q
def Q8 (a b:WT):Int:=if a.1<b.1 then -1 else if a.1 > b.1 then 1 else if a.2.1<b.2.1 then -1 else if a.2.1 > b.2.1 then 1 else 0
theorem KY (a b:WT):jM (a,b)=some (Q8 a b):=by
 unfold jM cmp_Compare_int jY Q8;simp only [ne_eq,not_true,decide_false,cond_false];by_cases h1:a.1<b.1
 ·simp [h1,ah]
 ·by_cases h2:a.1 > b.1
  ·simp [h1,h2,ah]
  ·by_cases h3:a.2.1<b.2.1
   ·simp [h1,h2,h3,ah]
   ·by_cases h4:a.2.1 > b.2.1
    ·simp [h1,h2,h3,h4,ah]
    ·simp [h1,h2,h3,h4,ah]
theorem vH {a b:WT}:Q8 a b<0↔ER a b:=by
 unfold Q8 ER
 repeat' split
 all_goals omega
theorem Oi {k t:Int} {mk:Bool} {ty:Int} {py:List Int} (h1:0<=k/\k<=1000) (h2:0<=t/\t<=20000) (h3:py.length<=1500):jT (k,(t,(mk,(ty,py))))=some true:=by
 unfold jT;exact So.eq (So.pos (by omega) (So.pos (by omega) (So.pos (by omega) (So.pos (by omega) (.mk (decide_eq_true (by omega)))))))
theorem aam {l:List Int} {n x:Int} (h:x∈uz l n):x∈l\/x=n:=by
 unfold uz at h;split at h
 ·exact .inl h
 ·simpa using h
theorem alp {j:Jt} (h:JV j):jo j.t=some true:=by
 obtain ⟨hn,ho,hp,hd,hw⟩:=h;have hl:j.q.length<=190:=by obtain ⟨_,_,_,_,_,_,_,_,h1,h2,h3,h4⟩:=hn;omega
 have hhi:j.high<=1000:=hn.2.2.2.2.1.2;unfold jo;refine So.eq (So.neg (p:=((j.q.length:Nat):Int) > 200) (by omega) (So.join (P:=fun _=>True) (So.loop (fun s=>∃k:Nat,s.1=(k:Int)/\k<=j.q.length/\∀x∈s.2,∃i,i<k/\(j.q.map (·.2.1))[i]? = some x) (fun s=>((j.q.length:Int)-s.1).toNat) (fun s hs => ?_) ⟨0,rfl,by omega,fun x hx=>by cases hx⟩) fun _ _ => .mk rfl));obtain ⟨i,v⟩:=s;obtain ⟨k,rfl,h2,h3⟩:=hs;simp only at h3;refine So.dec (p:=(k:Int)<((j.q.length:Nat):Int)) (fun h=>So.pos (p:=0<=(k:Int)/\(k:Int)<((j.q.length:Nat):Int)) (by omega) ?_) fun h => .out (.inl trivial);have hk:k<j.q.length:=by omega
 refine So.is (iI (l:=j.q) hk) ?_;have hw1:=hw _ (List.getElem_mem hk);have hkm:k<(j.q.map (·.2.1)).length:=by rw [List.length_map];exact hk
 have hs:(j.q.map (·.2.1))[k]? = some j.q[k].2.1:=by rw [List.getElem?_map,List.getElem?_eq_getElem hk];rfl
 obtain ⟨w1,w2,w3,w4,w5,w6,w7⟩:=hw1;have hno:¬j.q[k].2.1∈v:=fun hm=>by
  obtain ⟨i,hi,he⟩:=h3 _ hm;have:=(List.getElem?_inj (by rw [List.length_map];omega) hd).1 (he.trans hs.symm);omega
 have hI:∃k':Nat,((k:Int)+1)=(k':Int)/\k'<=j.q.length/\∀x∈uz v j.q[k].2.1,∃i,i<k'/\(j.q.map (·.2.1))[i]? = some x:=by
  refine ⟨k+1,by omega,by omega,fun x hx => ?_⟩;rcases aam hx with hx | rfl
  ·obtain ⟨i,hi,he⟩:=h3 x hx;exact ⟨i,by omega,he⟩
  ·exact ⟨k,by omega,hs⟩
 refine So.join (P:=fun _=>True) (So.is (Oi (by omega) (by omega) (by omega)) (So.if (fun h=>by cases h) fun _=>So.neg (p:=j.q[k].1<=j.now) (by omega) (So.neg (by omega) (So.neg (p:=j.q[k].2.1 > j.high) (by omega) (So.neg hno (.inl trivial)))))) fun _ _ => ?_;have e1:IntKind.wrap .i64 ((k:Int)+1)=(k:Int)+1:=aj (by omega);refine So.dec (p:=(k:Int) > 0) (fun h0 => ?_) fun h0 => ?_
 ·have e2:IntKind.wrap .i64 ((k:Int)-1)=((k-1:Nat):Int):=by rw [aj (by omega)];omega
  refine So.is rfl ?_;simp only [e1,e2];refine So.pos (p:=0<=((k-1:Nat):Int)/\((k-1:Nat):Int)<((j.q.length:Nat):Int)) (by omega) (So.is (iI (l:=j.q) (by omega)) (So.is (KY j.q[k-1] j.q[k]) (So.neg ?_ (.inl ⟨hI,by simp only;omega⟩))));have:=vH.2 (List.pairwise_iff_getElem.1 hp (k-1) k (by omega) hk (by omega));omega
 ·simp only [e1];exact .inl ⟨hI,by simp only;omega⟩
theorem ES {j:Jt} (h:JV j):iJ j.t=some true:=by
 have hq:=alp h;obtain ⟨⟨hc,hnow,hz,hf,hh,hd,hs,ht,h1,h2,h3,h4⟩,ho,_⟩:=h;unfold iJ;refine So.eq (So.join (P:=fun b=>b=true) (So.pos (p:=j.now>=0) (by omega) (So.pos (p:=j.now<=281474976710656) (by omega) (So.pos (p:=j.zero >= -1125899906842624) (by omega) (So.pos (p:=j.zero<=1125899906842624) (by omega) (So.pos (p:=j.transit >= -1125899906842624) (by omega) (So.pos (p:=j.transit<=1125899906842624) (by omega) (So.pos (p:=j.first >= -281474976710656) (by omega) (So.pos (p:=j.first<=281474976710656) (by omega) (So.pos (p:=j.high >= -1) (by omega) (So.pos (p:=j.high<=281474976710656) (by omega) (So.pos (p:=j.done >= -1) (by omega) (So.pos (p:=j.done<=281474976710656) (by omega) (So.pos (p:=j.spread>=0) (by omega) (.inl (decide_eq_true (by show j.spread<=72057594037927936;omega)))))))))))))))) fun b hb => ?_);subst hb;refine So.if (fun h=>by cases h) fun _ => ?_;have e1:ay (j.le,j.mo)=some true:=by
  unfold ay;exact So.eq (So.pos hc.1 (So.pos hc.2.1 (.mk (decide_eq_true (by show j.mo<=1000;omega)))))
 refine So.is e1 (So.if (fun h=>by cases h) fun _ => ?_);refine So.join (P:=fun _=>True) (So.loop (fun v=>0<=v/\v<=3) (fun v=>(3-v).toNat) (fun v hv => ?_) ⟨by omega,by omega⟩) fun _ _ => ?_
 ·refine So.dec (fun h=>So.pos ⟨hv.1,h⟩ (So.get (by simp;omega) fun x hx _ => ?_)) fun _ => .out (.inl trivial);have hx:x=j.late\/x=j.twice\/x=j.played:=by simpa using hx
  rw [aj (n:=v+1) (by omega)];exact So.neg (by omega) (So.neg (by omega) (.inl ⟨by omega,by omega⟩))
 ·refine So.join (P:=fun _=>True) (So.if (fun hf => ?_) fun _ => .inl trivial) fun _ _=>So.is hq (.mk rfl);have hf:j.on=false:=by simpa using hf
  obtain ⟨o1,o2,o3⟩:=ho hf;exact So.neg (p:=((j.q.length:Nat):Int) > 0) (by rw [o1];decide) (So.neg (p:=j.high ≠ -1) (by omega) (So.neg (p:=j.done ≠ -1) (by omega) (.inl trivial)))
theorem Ud {j:Jt} (h:JV j) {now k t:Int} {mk:Bool} {ty:Int} {py:List Int} (hn:j.now<=now/\now<=1000000) (h1:0<=k/\k<=1000) (h2:0<=t/\t<=20000) (h3:py.length<=1500):kW (j.t,(now,(k,(t,(mk,(ty,py))))))=some 0:=by
 unfold kW;refine So.eq (So.is (ES h) (So.if (fun h=>by cases h) fun _=>So.neg (by omega) (So.is (Oi h1 h2 h3) (So.if (fun h=>by cases h) fun _=>So.neg (p:=now<j.now) (by omega) (.mk rfl)))))
def Jt.at (j:Jt) (t:Int):Int:=j.zero+(t-j.first) / 8
theorem G7 {j:Jt} (h:NV j) {t:Int} (ht:0<=t/\t<=20000):ji (j.t,t)=some (j.at t):=by
 obtain ⟨hc,hnow,hz,hf,_⟩:=h;unfold ji jA;refine So.eq (So.is rfl (.mk ?_));show IntKind.wrap .i64 (j.zero+Int.fdiv (IntKind.wrap .i64 (t-j.first)) 8)=_;rw [aj (n:=t-j.first) (by omega),Int.fdiv_eq_ediv_of_nonneg _ (by omega),aj (by omega)];rfl
theorem Q9 {j:Jt} (h:JV j) {t:Int} (ht:0<=t/\t<=20000):jO (j.t,t)=some (j.at t):=by
 unfold jO;refine So.eq (So.join (P:=fun _=>True) (So.is (ES h) (So.if (fun h=>by cases h) fun _=>So.neg (by omega) (So.neg (by omega) (.inl trivial)))) fun _ _=>So.is (G7 h.1 ht) (.mk rfl))
theorem KZ (m:Int×(Int×(Bool×(Int×List Int)))) (h:m.2.2.2.2.length<=100000):eP m=some m:=by
 obtain ⟨a,b,c,d,l⟩:=m;simp only at h;unfold eP;have e:Gm (List.replicate (Int.toNat (l.length:Int)) (0:Int)) 0 (List.take (Int.toNat (l.length:Int)) l)=l:=by
  rw [Int.toNat_natCast,List.take_length];exact NU (by simp)
 refine So.eq (So.dec (fun h=>So.pos (by omega) (So.pos (by simp) ?_)) fun h => .mk ?_)
 ·rw [e,Int.toNat_natCast];exact So.le (.mk (by rw [List.take_length]))
 ·rw [show l=[] from List.length_eq_zero_iff.1 (by omega)]
theorem Ue (q:List WT) (h:q.length<=1000) (hw:∀w∈q,w.2.2.2.2.2.length<=1500):fM q=some q:=by
 unfold fM;refine So.eq (So.join (P:=(· = q)) (So.loop (fun s=>∃k:Nat,s.1=(k:Int)/\k<=q.length/\s.2=q.take k) (fun s=>((q.length:Int)-s.1).toNat) (fun s hs => ?_) ⟨0,rfl,by omega,rfl⟩) fun v hv => ?_)
 ·obtain ⟨i,v⟩:=s;obtain ⟨k,rfl,h2,rfl⟩:=hs;refine So.dec (fun hk=>So.pos (by omega) ?_) fun hk => .out (So.le (.inl ?_))
  ·have hk:k<q.length:=by omega
   refine So.is (iI hk) (So.is (KZ q[k].2 (by have:=hw _ (List.getElem_mem hk);omega)) (So.le (So.pos (by simp only [List.length_append,List.length_take,List.length_cons,List.length_nil];omega) (So.is rfl (So.le (.inl ⟨⟨k+1,?_,by omega,?_⟩,?_⟩))))))
   ·show IntKind.wrap .i64 ((k:Int)+1)=_;rw [aj (by omega)];omega
   ·simp only [List.take_length];rw [List.take_add_one,List.getElem?_eq_getElem hk];rfl
   ·show ((q.length:Int)-IntKind.wrap .i64 ((k:Int)+1)).toNat<_;rw [aj (by omega)];omega
  ·rw [List.take_length,List.take_of_length_le (by omega)]
 ·subst hv;exact So.le (.mk List.take_length)
theorem aan {P:Program} {GL:Nat->Option (List DV)} {f:FuncId} {args:List AV} {os us us':List (Nat×AO)} {v:AV} (h:fZ P GL f args os v us) (hu:aK us=aK us'):fZ P GL f args os v us':=fun E w vs h1 h2 h3 h4=>by
 refine (h E w vs h1 h2 h3 h4).mono ?_;rintro e w' ⟨u,E',k1,k2,k3,k4⟩;exact ⟨u,E',k1,k2,k3.trans hu,k4⟩
theorem Rf {P:Program} {GL:Nat->Option (List DV)} {f:FuncId} {r1 r3 e s n n':Nat} {args:List AV} {os os':List (Nat×AO)} {cs cs':List DV} (h1:1<=n) (h13:r1≠r3) (ho3:look r3 os'=none)
 (h:∀c,n<=c->c<=maxLen->fZ P GL f (.sl r1 0 n (some c)::args) ((r1,.data e s cs true)::os) (.sl r1 0 n' (some c)) ((r1,.data e s cs' true)::os') \/
   fZ P GL f (.sl r1 0 n (some c)::args) ((r1,.data e s cs true)::os) (.sl r3 0 n' none) ((r3,.data e s cs' true)::(r1,.dead)::os')) :
 fZ P GL f (.sl r1 0 n none::args) ((r1,.data e s cs true)::os) (.sl r3 0 n' none) ((r3,.data e s cs' true)::(r1,.dead)::os'):=fun E w vs hE hw hs hrel=>by
 have ho1:E.hp r1=some (.data e s cs true):=by rw [hE];simp [aK,look]
 rw [aG] at hrel;obtain ⟨u1,vs',e1,hx,hrest⟩:=hrel;have hx0:=hx;rw [Rel,ho1] at hx;rcases hx with ⟨h0,_⟩ | ⟨b,z,c,g1,e2,g3,g4,g5,g6⟩
 ·omega
 have g6':0+c*s=z:=g6;have hrel':aG E (.sl r1 0 n (some c)::args) vs.toList:=by
  rw [aG];refine ⟨u1,vs',e1,?_,hrest⟩;rw [Rel,ho1];exact .inr ⟨b,z,c,g1,e2,g3,g4,g5,rfl⟩
 rcases h c g3 g4 with hA | hB
 ·refine (hA E w vs hE hw hs hrel').mono ?_;rintro ex w' ⟨u,E',rfl,k2,k3,k4,k5,k6,k7⟩;have ho1':E'.hp r1=some (.data e s cs' true):=by rw [k3];simp [aK,look]
  have hn3:E'.hp r3=none:=by rw [k3];simp [aK,look,h13,ho3]
  have hmv:=Ip (w:=w') k2 k4 ho1' hn3;have hm:E'.m r1=E.m r1:=by
   obtain ⟨o',q1,_,q3⟩:=k5.ob r1 _ ho1;rw [ho1'] at q1;cases q1;rcases q3 with q3 | q3
   ·cases q3
   ·exact q3
  refine ⟨u,_,rfl,hmv.h,?_,hmv.sim,k5.trans hmv.ext,k6.trans hmv.fr,?_⟩
  ·rw [hmv.hp,k3];funext q;simp only [dH,aK,look];by_cases q3:r3=q
   ·subst q3;simp
   ·by_cases q1:r1=q
    ·subst q1;simp [q3]
    ·simp [q3,q1]
  ·rw [Rel,ho1'] at k7;rcases k7 with ⟨_,hc,_⟩ | ⟨b',z',c',p1,p2,p3,p4,p5,p6⟩
   ·rcases hc with hc | hc
    ·cases hc
    ·cases hc;omega
   have p6':c'=c:=p6;subst p6';rw [hm,g1] at p1;cases p1;have e2':(kZ E' r1 r3 (.data e s cs' true)).hp r3=some (.data e s cs' true):=by simp [kZ,dH,look]
   have e3':(kZ E' r1 r3 (.data e s cs' true)).m r3=some (b,z):=by simp [kZ,hm,g1]
   rw [Rel,e2'];exact .inr ⟨b,z,c',e3',p2,p3,p4,p5,g6'⟩
 ·exact hB E w vs hE hw hs hrel'
theorem Rh {r2 r1 off2 n2 off1 n1:Nat} {cap2 cap1:Option Nat} {hp:Nat->Option AO} {cs2 cs1:List DV} (h2:hp r2=some (.data 188 6 cs2 true)) (h1:hp r1=some (.data 188 6 cs1 true)) (hne:r2≠r1) (hn2:1<=n2) (hn1:1<=n1) :
 DoesE Tryz.prog (fun _=>none) 121 [.sl r2 off2 n2 cap2,.sl r1 off1 n1 cap1] [r2,r1] (bJ false) [] hp:=fun E w vs hrd hw hs hrel=>by
 rw [<-hrd r2 (by simp)] at h2;rw [<-hrd r1 (by simp)] at h1;obtain ⟨vl⟩:=vs;simp only [aG] at hrel;obtain ⟨u2,vs2,rfl,hx2,u1,vs1,rfl,hx1,rfl⟩:=hrel;obtain ⟨b2,cur2,c2,p1,p2,p3,rfl,p4,p5⟩:=Aa hs hx2 h2 hn2;obtain ⟨b1,cur1,c1,q1,q2,q3,rfl,q4,q5⟩:=Aa hs hx1 h1 hn1;have hb:b2≠b1:=fun e=>by
  subst e;exact hne (hs.inj r2 r1 _ _ b2 _ _ h2 h1 rfl rfl p1 q1)
 have w2:w.heap[b2]? = some (.cells cur2 188 (0,0)):=by rw [hw];exact p2
 have w1:w.heap[b1]? = some (.cells cur1 188 (0,0)):=by rw [hw];exact q2
 refine ⟨.bool false,w,E,?_,Goes.refl hw hs,kC _⟩;have hti:(aO Tryz.prog 188).map (·.size)=some 6:=by rw [KK.hT];kernel_rfl
 have hsz:∀w,(Go.sizeOf 188).run Tryz.prog w = .ok 6 w:=fun w=>by
  obtain ⟨i,hi,h10⟩:=Option.map_eq_some_iff.1 hti;rw [run_sizeOf hi,h10]
 rw [run_callFunc_extern Tryz.func121 (by kernel_rfl) (by kernel_rfl) (by kernel_rfl) (e:=Extern.SlicesOverlaps.overlaps #[39,39] #[4]) (by kernel_rfl),
  Lib.run_overlaps_apart w 39 4 188 (by kernel_rfl) 6 hsz ⟨b2,off2,none⟩ ⟨b1,off1,none⟩ n2 c2 n1 c1 hb 188 188 cur2.size cur1.size (by unfold World.shape?;rw [w2]) (by unfold World.shape?;rw [w1]) (by omega)
   (by unfold World.frozen?;rw [w2];simp) (by unfold World.frozen?;rw [w2];simp)]
 rfl
theorem ac6 {p:Pr} (hp:p=real) {i:Int} {n:Nat} (h:(n:Int)<i):p.ixle i n=none:=by
 rw [hp];show (if 0<=i/\i<=n then some i.toNat else none)=none;rw [if_neg (by omega)]
theorem yN {α:Type}:∀(l:List α) (o:Nat) (new:List α),o<=l.length->splice l o new=l.take o++(new++l.drop (o+new.length))
 | l,0,new,_=>by cases l<;>simp [splice]
 | [],o+1,new,h=>by simp at h
 | x::l,o+1,new,h=>by
   rw [splice,yN l o new (by simpa using h),List.take_succ_cons,List.cons_append,show o+1+new.length=(o+new.length)+1 from by omega,List.drop_succ_cons]
theorem aao {α:Type} {cs vs:List α} {a k:Nat} (hv:vs.length=k) (ha:a+k<=cs.length):splice (cs.take (a+k)++cs.drop a) a vs=cs.take a++vs++cs.drop a:=by
 rw [yN _ _ _ (by simp;omega),hv];have e1:(List.take (a+k) cs++List.drop a cs).take a=cs.take a:=by
  rw [List.take_append_of_le_length (by rw [List.length_take];omega),List.take_take,Nat.min_eq_left (by omega)]
 have e2:(List.take (a+k) cs++List.drop a cs).drop (a+k)=cs.drop a:=by
  rw [List.drop_append_of_le_length (by rw [List.length_take];omega),List.drop_eq_nil_of_le (by rw [List.length_take];omega),List.nil_append]
 rw [e1,e2,List.append_assoc]
theorem WX {α:Type} {cs vs zs:List α} {a k:Nat} (hv:vs.length=k) (ha:a<=cs.length) (hz:zs.length=k+(cs.length-a)):splice (splice (cs.take a++zs) a vs) (a+k) (cs.drop a)=cs.take a++vs++cs.drop a:=by
 have l1:(cs.take a).length=a:=by rw [List.length_take];omega
 have e0:splice (cs.take a++zs) a vs=cs.take a++vs++zs.drop k:=by
  rw [yN _ _ _ (by simp;omega),hv,List.take_append_of_le_length (by omega),List.take_of_length_le (by omega),List.drop_append,l1];rw [List.drop_eq_nil_of_le (by omega),List.nil_append,show a+k-a=k from by omega,List.append_assoc]
 have l2:(cs.take a++vs).length=a+k:=by rw [List.length_append,l1,hv]
 rw [e0,yN _ _ _ (by rw [List.length_append,l2];omega),List.take_append_of_le_length (by omega),List.take_of_length_le (by omega)];have e3:(cs.take a++vs++zs.drop k).drop (a+k+(cs.drop a).length)=[]:=List.drop_eq_nil_of_le (by rw [List.length_append,l2,List.length_drop,List.length_drop];omega);rw [e3,List.append_nil]
theorem ac7 {P:Program} {GL:Nat->Option (List DV)} {N:Nat} {hp0:Nat->Option AO} {C:Cxt} (hC:C=Mc P GL N hp0) {f:FuncId} {args:List AV} {rds:List Nat} {v:AV} {us:List (Nat×AO)} {rd:Nat->Option AO} {X:AV->List (Nat×AO)->List Nat->Prop} (h:DoesE P GL f args rds v us rd) (h1:X v us rds):∃v us rds,C.D f args rds v us rd/\X v us rds:=by
 subst hC;exact ⟨v,us,rds,.inr h,h1⟩
set_option maxHeartbeats 4000000
set_option maxRecDepth 10000
theorem ac8 {cs vs T:List DV} {n N:Nat} (hT:T=cs++vs) (hN:N=n+1) {kz:Int} (hkz:kz=n) (hw:cs.length=n*6) (hv:vs.length=1*6) (h2:n<=1000000):fZ Tryz.prog (fun _=>none) 104 [.sl 20000001 0 n none,.d (.val (.int .i64 kz)),.sl 20000002 0 1 none] [(20000001,.data 188 6 cs true),(20000002,.data 188 6 vs true)] (.sl 20000003 0 N none) [(20000003,.data 188 6 T true),(20000001,.dead),(20000002,.data 188 6 vs true)]:=by
 refine y8 KK (fn:=Tryz.f104) Tryz.func104 rfl (by show 3<=_;decide) ?_;intro C F p hC hF hp
 conv=>cbv
 obtain ⟨j1,hj1,lj1,ej1⟩:=rP (i:=kz) (n:=n) hp (by omega) (by omega);simp only [ej1]
 conv=>cbv
 have ez2:(p.zi 1)=1:=by rw [hp];rfl
 simp only [ez2];clear ez2
 conv=>cbv
 have e4:(p.cmp .eql 1 0)=false:=by rw [qj hp];exact decide_eq_false (by omega)
 simp only [e4];clear e4
 conv=>cbv
 obtain ⟨z5,hz5⟩:∃z:Int,z=((n:Nat):Int):=⟨_,rfl⟩
 have ez5:(p.zi n)=z5:=by rw [hz5];exact abf hp
 simp only [ez5]
 conv=>cbv
 have e6:(p.cmp .eql kz z5)=true:=by rw [qj hp];exact decide_eq_true (by omega)
 simp only [e6];clear e6
 conv=>cbv
 have ez7:(p.nm 1 6)=6:=by rw [hp];rfl
 simp only [ez7];clear ez7
 conv=>cbv
 have ez8:(p.na 0 6)=6:=by rw [hp];rfl
 simp only [ez8];clear ez8
 conv=>cbv
 obtain ⟨z9,hz9⟩:∃z:Nat,z=(vs).length:=⟨_,rfl⟩
 have ez9:(p.len vs)=z9:=by rw [hz9];exact wZ hp
 simp only [ez9]
 conv=>cbv
 have e10:(p.nle 6 z9)=true:=vT hp (by omega);simp only [e10];clear e10
 conv=>cbv
 have e11:(p.neq 0 0)=true:=vS hp (by omega);simp only [e11];clear e11
 conv=>cbv
 obtain ⟨z12,hz12⟩:∃z:Nat,z=n*6:=⟨_,rfl⟩
 have ez12:(p.nm n 6)=z12:=by rw [hz12];exact yQ hp
 simp only [ez12]
 conv=>cbv
 obtain ⟨z13,hz13⟩:∃z:Nat,z=(cs).length:=⟨_,rfl⟩
 have ez13:(p.len cs)=z13:=by rw [hz13];exact wZ hp
 simp only [ez13]
 conv=>cbv
 have e14:(p.neq z12 z13)=true:=vS hp (by omega);simp only [e14];clear e14
 conv=>cbv
 have e15:(p.fit n 1 56)=true:=IW hp (by omega) (by show _<=9223372036854775807;omega);simp only [e15];clear e15
 conv=>cbv
 obtain ⟨z16,hz16⟩:∃z:Nat,z=n+1:=⟨_,rfl⟩
 have ez16:(p.na n 1)=z16:=by rw [hz16];exact wW hp
 simp only [ez16]
 conv=>cbv
 have ez17:(p.cut vs 0 6)=vs:=tK hp (by omega);simp only [ez17]
 conv=>cbv
 obtain ⟨z18,hz18⟩:∃z:List DV,z=cs++vs:=⟨_,rfl⟩
 have ez18:(p.app cs vs)=z18:=by rw [hz18];exact FP hp
 simp only [ez18];have lz18:z18.length=(cs).length+(vs).length:=by rw [hz18];simp only [List.length_append,List.length_cons,List.length_nil]<;>omega
 conv=>cbv
 obtain rfl:T=z18:=by rw [hT,hz18]
 obtain rfl:N=z16:=by omega
 exact qE [(20000003,1702),(20000001,20000001),(20000002,20000002)] rfl rfl ⟨⟨rfl,rfl,rfl⟩,trivial,⟨rfl,rfl,rfl⟩,trivial⟩ rfl rfl
theorem ahH {cs vs T:List DV} {n i c N:Nat} (hT:T=cs.take (i*6)++vs++cs.drop (i*6)) (hN:N=n+1) {kz:Int} (hkz:kz=i) (hw:cs.length=n*6) (hv:vs.length=1*6) (h2:n<=1000000) (hi:i<n) (hc:n+1<=c) (hc2:c<=9223372036854775807):fZ Tryz.prog (fun _=>none) 104 [.sl 20000001 0 n (some c),.d (.val (.int .i64 kz)),.sl 20000002 0 1 none] [(20000001,.data 188 6 cs true),(20000002,.data 188 6 vs true)] (.sl 20000001 0 N (some c)) [(20000001,.data 188 6 T true),(20000002,.data 188 6 vs true)]:=by
 refine y8 KK (fn:=Tryz.f104) Tryz.func104 rfl (by show 3<=_;decide) ?_;intro C F p hC hF hp
 conv=>cbv
 obtain ⟨j19,hj19,lj19,ej19⟩:=rP (i:=kz) (n:=n) hp (by omega) (by omega);simp only [ej19]
 conv=>cbv
 have ez20:(p.zi 1)=1:=by rw [hp];rfl
 simp only [ez20];clear ez20
 conv=>cbv
 have e22:(p.cmp .eql 1 0)=false:=by rw [qj hp];exact decide_eq_false (by omega)
 simp only [e22];clear e22
 conv=>cbv
 obtain ⟨z23,hz23⟩:∃z:Int,z=((n:Nat):Int):=⟨_,rfl⟩
 have ez23:(p.zi n)=z23:=by rw [hz23];exact abf hp
 simp only [ez23]
 conv=>cbv
 have e25:(p.cmp .eql kz z23)=false:=by rw [qj hp];exact decide_eq_false (by omega)
 simp only [e25];clear e25
 conv=>cbv
 obtain ⟨z26,hz26⟩:∃z:Int,z=z23+1:=⟨_,rfl⟩
 have ez26:(p.ar .add .i64 z23 1)=z26:=by rw [hz26];exact RQ hp (by omega) (by omega)
 simp only [ez26]
 conv=>cbv
 obtain ⟨z27,hz27⟩:∃z:Int,z=((c:Nat):Int):=⟨_,rfl⟩
 have ez27:(p.zi c)=z27:=by rw [hz27];exact abf hp
 simp only [ez27]
 conv=>cbv
 have e29:(p.cmp .gtr z26 z27)=false:=by rw [IV hp];exact decide_eq_false (by omega)
 simp only [e29];clear e29
 conv=>cbv
 simp only [ez26]
 conv=>cbv
 have e31:(p.ixle (z26) (n))=none:=ac6 hp (by omega);simp only [e31];clear e31
 conv=>cbv
 obtain ⟨j32,hj32,lj32,ej32⟩:=rP (i:=z26) (n:=c) hp (by omega) (by omega);simp only [ej32]
 conv=>cbv
 obtain ⟨z33,hz33⟩:∃z:Int,z=kz+1:=⟨_,rfl⟩
 have ez33:(p.ar .add .i64 kz 1)=z33:=by rw [hz33];exact RQ hp (by omega) (by omega)
 simp only [ez33]
 conv=>cbv
 have ez34:(p.ns j32 0)=j32:=by rw [Ia hp];omega
 simp only [ez34];clear ez34
 conv=>cbv
 obtain ⟨j35,hj35,lj35,ej35⟩:=rP (i:=z33) (n:=j32) hp (by omega) (by omega);simp only [ej35]
 conv=>cbv
 have ez36:(p.nm 0 6)=0:=by rw [hp];rfl
 simp only [ez36];clear ez36
 conv=>cbv
 have ez37:(p.na 0 0)=0:=by rw [hp];rfl
 simp only [ez37];clear ez37
 conv=>cbv
 obtain ⟨z38,hz38⟩:∃z:Nat,z=j35*6:=⟨_,rfl⟩
 have ez38:(p.nm j35 6)=z38:=by rw [hz38];exact yQ hp
 simp only [ez38]
 conv=>cbv
 have ez39:(p.na 0 z38)=z38:=by rw [wW hp];omega
 simp only [ez39];clear ez39
 conv=>cbv
 obtain ⟨z40,hz40⟩:∃z:Nat,z=j32-j35:=⟨_,rfl⟩
 have ez40:(p.ns j32 j35)=z40:=by rw [hz40];exact Ia hp
 simp only [ez40]
 conv=>cbv
 have ez41:(p.ns c 0)=c:=by rw [Ia hp];omega
 simp only [ez41];clear ez41
 conv=>cbv
 obtain ⟨z42,hz42⟩:∃z:Nat,z=c-j35:=⟨_,rfl⟩
 have ez42:(p.ns c j35)=z42:=by rw [hz42];exact Ia hp
 simp only [ez42]
 conv=>cbv
 refine ac7 hC (Rh rfl rfl (by decide) (by omega) (by omega)) ?_;refine ⟨by decide_cbv,?_⟩
 conv=>cbv
 simp only [ez33]
 conv=>cbv
 simp only [ej35]
 conv=>cbv
 obtain ⟨j44,hj44,lj44,ej44⟩:=rP (i:=kz) (n:=j32) hp (by omega) (by omega);simp only [ej44]
 conv=>cbv
 obtain ⟨z45,hz45⟩:∃z:Nat,z=j44*6:=⟨_,rfl⟩
 have ez45:(p.nm j44 6)=z45:=by rw [hz45];exact yQ hp
 simp only [ez45]
 conv=>cbv
 have ez46:(p.na 0 z45)=z45:=by rw [wW hp];omega
 simp only [ez46];clear ez46
 conv=>cbv
 obtain ⟨z47,hz47⟩:∃z:Nat,z=j32-j44:=⟨_,rfl⟩
 have ez47:(p.ns j32 j44)=z47:=by rw [hz47];exact Ia hp
 simp only [ez47]
 conv=>cbv
 obtain ⟨z48,hz48⟩:∃z:Nat,z=z47*6:=⟨_,rfl⟩
 have ez48:(p.nm z47 6)=z48:=by rw [hz48];exact yQ hp
 simp only [ez48]
 conv=>cbv
 obtain ⟨z49,hz49⟩:∃z:Nat,z=z45+z48:=⟨_,rfl⟩
 have ez49:(p.na z45 z48)=z49:=by rw [hz49];exact wW hp
 simp only [ez49]
 conv=>cbv
 obtain ⟨z50,hz50⟩:∃z:Nat,z=(cs).length:=⟨_,rfl⟩
 have ez50:(p.len cs)=z50:=by rw [hz50];exact wZ hp
 simp only [ez50]
 conv=>cbv
 have e52:(p.nle z49 z50)=false:=Yf hp (by omega);simp only [e52];clear e52
 conv=>cbv
 simp only [ez40]
 conv=>cbv
 have e53:(p.nle 1 z40)=true:=vT hp (by omega);simp only [e53];clear e53
 conv=>cbv
 have e54:(p.nle 1 z47)=true:=vT hp (by omega);simp only [e54];clear e54
 conv=>cbv
 simp only [ez38]
 conv=>cbv
 have ez55:(p.na 0 z38)=z38:=by rw [wW hp];omega
 simp only [ez55];clear ez55
 conv=>cbv
 simp only [ez50]
 conv=>cbv
 have e56:(p.nle z38 z50)=true:=vT hp (by omega);simp only [e56];clear e56
 conv=>cbv
 obtain ⟨z57,hz57⟩:∃z:Nat,z=min z47 z40:=⟨_,rfl⟩
 have ez57:(p.nmin z47 z40)=z57:=by rw [hz57];exact JO hp
 simp only [ez57]
 conv=>cbv
 obtain ⟨z58,hz58⟩:∃z:Nat,z=z57*6:=⟨_,rfl⟩
 have ez58:(p.nm z57 6)=z58:=by rw [hz58];exact yQ hp
 simp only [ez58]
 conv=>cbv
 obtain ⟨z59,hz59⟩:∃z:Nat,z=z45+z58:=⟨_,rfl⟩
 have ez59:(p.na z45 z58)=z59:=by rw [hz59];exact wW hp
 simp only [ez59]
 conv=>cbv
 have e60:(p.nle z59 z50)=true:=vT hp (by omega);simp only [e60];clear e60
 conv=>cbv
 simp only [ej44]
 conv=>cbv
 have ez61:(p.nm 1 6)=6:=by rw [hp];rfl
 simp only [ez61];clear ez61
 conv=>cbv
 have ez62:(p.na 0 6)=6:=by rw [hp];rfl
 simp only [ez62];clear ez62
 conv=>cbv
 obtain ⟨z63,hz63⟩:∃z:Nat,z=(vs).length:=⟨_,rfl⟩
 have ez63:(p.len vs)=z63:=by rw [hz63];exact wZ hp
 simp only [ez63]
 conv=>cbv
 have e64:(p.nle 6 z63)=true:=vT hp (by omega);simp only [e64];clear e64
 conv=>cbv
 simp only [ez45]
 conv=>cbv
 have ez65:(p.na 0 z45)=z45:=by rw [wW hp];omega
 simp only [ez65];clear ez65
 conv=>cbv
 simp only [ez47]
 conv=>cbv
 simp only [ez48]
 conv=>cbv
 simp only [ez49]
 conv=>cbv
 obtain ⟨z66,hz66⟩:∃z:List DV,z=((cs).drop 0).take z38:=⟨_,rfl⟩
 have ez66:(p.cut cs 0 z38)=z66:=by rw [hz66];exact JQ hp
 simp only [ez66];have lz66:z66.length=min z38 ((cs).length-0):=by rw [hz66];simp only [List.length_take,List.length_drop,List.length_cons,List.length_nil]<;>omega
 conv=>cbv
 obtain ⟨z67,hz67⟩:∃z:List DV,z=((cs).drop z45).take z58:=⟨_,rfl⟩
 have ez67:(p.cut cs z45 z58)=z67:=by rw [hz67];exact JQ hp
 simp only [ez67];have lz67:z67.length=min z58 ((cs).length-z45):=by rw [hz67];simp only [List.length_take,List.length_drop,List.length_cons,List.length_nil]<;>omega
 conv=>cbv
 obtain ⟨z68,hz68⟩:∃z:List DV,z=z66++z67:=⟨_,rfl⟩
 have ez68:(p.app z66 z67)=z68:=by rw [hz68];exact FP hp
 simp only [ez68];have lz68:z68.length=(z66).length+(z67).length:=by rw [hz68];simp only [List.length_append,List.length_cons,List.length_nil]<;>omega
 conv=>cbv
 obtain ⟨z69,hz69⟩:∃z:Nat,z=(z68).length:=⟨_,rfl⟩
 have ez69:(p.len z68)=z69:=by rw [hz69];exact wZ hp
 simp only [ez69]
 conv=>cbv
 have e70:(p.nle z49 z69)=true:=vT hp (by omega);simp only [e70];clear e70
 conv=>cbv
 have ez71:(p.cut vs 0 6)=vs:=tK hp (by omega);simp only [ez71]
 conv=>cbv
 obtain ⟨z72,hz72⟩:∃z:Nat,z=min 1 z47:=⟨_,rfl⟩
 have ez72:(p.nmin 1 z47)=z72:=by rw [hz72];exact JO hp
 simp only [ez72]
 conv=>cbv
 obtain ⟨z73,hz73⟩:∃z:Nat,z=z72*6:=⟨_,rfl⟩
 have ez73:(p.nm z72 6)=z73:=by rw [hz73];exact yQ hp
 simp only [ez73]
 conv=>cbv
 have ez74:(p.cut vs 0 z73)=vs:=tK hp (by omega);simp only [ez74]
 conv=>cbv
 obtain ⟨z75,hz75⟩:∃z:List DV,z=splice z68 z45 vs:=⟨_,rfl⟩
 have ez75:(p.spl z68 z45 vs)=z75:=by rw [hz75];exact Ya hp
 simp only [ez75];have lz75:z75.length=(z68).length:=by rw [hz75,uN _ _ _ (by (try simp only [List.length_cons,List.length_nil]);omega)]<;>(try simp only [List.length_cons,List.length_nil])<;>omega
 conv=>cbv
 obtain rfl:T=z75:=by
  have e1:z67=cs.drop (i*6):=by rw [hz67,List.take_of_length_le (by rw [List.length_drop];omega),show z45=i*6 from by omega]
  rw [hz75,hz68,hz66,e1,List.drop_zero,show z38=i*6+6 from by omega,show z45=i*6 from by omega,aao (by omega) (by omega),hT]
 obtain rfl:N=j32:=by omega
 exact qE [(20000001,20000001),(20000002,20000002)] rfl rfl ⟨⟨rfl,rfl,rfl⟩,⟨rfl,rfl,rfl⟩,trivial⟩ rfl rfl
theorem aap {cs vs T:List DV} {n i N:Nat} (hT:T=cs.take (i*6)++vs++cs.drop (i*6)) (hN:N=n+1) {kz:Int} (hkz:kz=i) (hw:cs.length=n*6) (hv:vs.length=1*6) (h2:n<=1000000) (hi:i<n):fZ Tryz.prog (fun _=>none) 104 [.sl 20000001 0 n (some n),.d (.val (.int .i64 kz)),.sl 20000002 0 1 none] [(20000001,.data 188 6 cs true),(20000002,.data 188 6 vs true)] (.sl 20000003 0 N none) [(20000003,.data 188 6 T true),(20000001,.dead),(20000002,.data 188 6 vs true)]:=by
 refine y8 KK (fn:=Tryz.f104) Tryz.func104 rfl (by show 3<=_;decide) ?_;intro C F p hC hF hp
 conv=>cbv
 obtain ⟨j76,hj76,lj76,ej76⟩:=rP (i:=kz) (n:=n) hp (by omega) (by omega);simp only [ej76]
 conv=>cbv
 have ez77:(p.zi 1)=1:=by rw [hp];rfl
 simp only [ez77];clear ez77
 conv=>cbv
 have e79:(p.cmp .eql 1 0)=false:=by rw [qj hp];exact decide_eq_false (by omega)
 simp only [e79];clear e79
 conv=>cbv
 obtain ⟨z80,hz80⟩:∃z:Int,z=((n:Nat):Int):=⟨_,rfl⟩
 have ez80:(p.zi n)=z80:=by rw [hz80];exact abf hp
 simp only [ez80]
 conv=>cbv
 have e82:(p.cmp .eql kz z80)=false:=by rw [qj hp];exact decide_eq_false (by omega)
 simp only [e82];clear e82
 conv=>cbv
 obtain ⟨z83,hz83⟩:∃z:Int,z=z80+1:=⟨_,rfl⟩
 have ez83:(p.ar .add .i64 z80 1)=z83:=by rw [hz83];exact RQ hp (by omega) (by omega)
 simp only [ez83]
 conv=>cbv
 simp only [ez80]
 conv=>cbv
 have e84:(p.cmp .gtr z83 z80)=true:=by rw [IV hp];exact decide_eq_true (by omega)
 simp only [e84];clear e84
 conv=>cbv
 simp only [ej76]
 conv=>cbv
 simp only [ez83]
 conv=>cbv
 obtain ⟨z85,hz85⟩:∃z:Int,z=z83-kz:=⟨_,rfl⟩
 have ez85:(p.ar .sub .i64 z83 kz)=z85:=by rw [hz85];exact aiV hp (by omega) (by omega)
 simp only [ez85]
 conv=>cbv
 have e86:(p.cmp .lss 0 z85)=true:=by rw [U6 hp];exact decide_eq_true (by omega)
 simp only [e86];clear e86
 conv=>cbv
 have e87:(p.cmp .leq z85 140737488355328)=true:=by rw [U7 hp];exact decide_eq_true (by omega)
 simp only [e87];clear e87
 conv=>cbv
 have ez88:(p.ns j76 0)=j76:=by rw [Ia hp];omega
 simp only [ez88];clear ez88
 conv=>cbv
 obtain ⟨z89,hz89⟩:∃z:Nat,z=(z85).toNat:=⟨_,rfl⟩
 have ez89:(p.tn z85)=z89:=by rw [hz89];exact akQ hp
 simp only [ez89]
 conv=>cbv
 obtain ⟨z90,hz90⟩:∃z:Nat,z=j76+z89:=⟨_,rfl⟩
 have ez90:(p.na j76 z89)=z90:=by rw [hz90];exact wW hp
 simp only [ez90]
 conv=>cbv
 have ez91:(p.ns n 0)=n:=by rw [Ia hp];omega
 simp only [ez91];clear ez91
 conv=>cbv
 have e93:(p.nle z90 n)=false:=Yf hp (by omega);simp only [e93];clear e93
 conv=>cbv
 have ez94:(p.nm 0 6)=0:=by rw [hp];rfl
 simp only [ez94];clear ez94
 conv=>cbv
 have ez95:(p.na 0 0)=0:=by rw [hp];rfl
 simp only [ez95];clear ez95
 conv=>cbv
 obtain ⟨z96,hz96⟩:∃z:Nat,z=j76*6:=⟨_,rfl⟩
 have ez96:(p.nm j76 6)=z96:=by rw [hz96];exact yQ hp
 simp only [ez96]
 conv=>cbv
 have ez97:(p.na 0 z96)=z96:=by rw [wW hp];omega
 simp only [ez97];clear ez97
 conv=>cbv
 obtain ⟨z98,hz98⟩:∃z:Nat,z=(cs).length:=⟨_,rfl⟩
 have ez98:(p.len cs)=z98:=by rw [hz98];exact wZ hp
 simp only [ez98]
 conv=>cbv
 have e99:(p.nle z96 z98)=true:=vT hp (by omega);simp only [e99];clear e99
 conv=>cbv
 have e100:(p.fit j76 z89 56)=true:=IW hp (by omega) (by show _<=9223372036854775807;omega);simp only [e100];clear e100
 conv=>cbv
 obtain ⟨j101,hj101,lj101,ej101⟩:=rP (i:=kz) (n:=z90) hp (by omega) (by omega);simp only [ej101]
 conv=>cbv
 have ez102:(p.nm 1 6)=6:=by rw [hp];rfl
 simp only [ez102];clear ez102
 conv=>cbv
 have ez103:(p.na 0 6)=6:=by rw [hp];rfl
 simp only [ez103];clear ez103
 conv=>cbv
 obtain ⟨z104,hz104⟩:∃z:Nat,z=(vs).length:=⟨_,rfl⟩
 have ez104:(p.len vs)=z104:=by rw [hz104];exact wZ hp
 simp only [ez104]
 conv=>cbv
 have e105:(p.nle 6 z104)=true:=vT hp (by omega);simp only [e105];clear e105
 conv=>cbv
 obtain ⟨z106,hz106⟩:∃z:Nat,z=j101*6:=⟨_,rfl⟩
 have ez106:(p.nm j101 6)=z106:=by rw [hz106];exact yQ hp
 simp only [ez106]
 conv=>cbv
 have ez107:(p.na 0 z106)=z106:=by rw [wW hp];omega
 simp only [ez107];clear ez107
 conv=>cbv
 obtain ⟨z108,hz108⟩:∃z:Nat,z=z90-j101:=⟨_,rfl⟩
 have ez108:(p.ns z90 j101)=z108:=by rw [hz108];exact Ia hp
 simp only [ez108]
 conv=>cbv
 obtain ⟨z109,hz109⟩:∃z:Nat,z=z108*6:=⟨_,rfl⟩
 have ez109:(p.nm z108 6)=z109:=by rw [hz109];exact yQ hp
 simp only [ez109]
 conv=>cbv
 obtain ⟨z110,hz110⟩:∃z:Nat,z=z106+z109:=⟨_,rfl⟩
 have ez110:(p.na z106 z109)=z110:=by rw [hz110];exact wW hp
 simp only [ez110]
 conv=>cbv
 obtain ⟨z111,hz111⟩:∃z:List DV,z=((cs).drop 0).take z96:=⟨_,rfl⟩
 have ez111:(p.cut cs 0 z96)=z111:=by rw [hz111];exact JQ hp
 simp only [ez111];have lz111:z111.length=min z96 ((cs).length-0):=by rw [hz111];simp only [List.length_take,List.length_drop,List.length_cons,List.length_nil]<;>omega
 conv=>cbv
 obtain ⟨z112,hz112⟩:∃z:List DV,z=nO z89 ([DV.val (Value.int .i64 0),DV.val (Value.int .i64 0),DV.val (Value.int .i64 0),
  DV.val (Value.bool false),DV.val (Value.int .u8 0),DV.dl [] 0 none]):=⟨_,rfl⟩
 have ez112:(p.rep z89 ([DV.val (Value.int .i64 0),DV.val (Value.int .i64 0),DV.val (Value.int .i64 0),
  DV.val (Value.bool false),DV.val (Value.int .u8 0),DV.dl [] 0 none]))=z112:=by rw [hz112];exact aiX hp
 simp only [ez112];have lz112:z112.length=z89*6:=by rw [hz112,MN]<;>(try simp only [List.length_cons,List.length_nil])<;>omega
 conv=>cbv
 obtain ⟨z113,hz113⟩:∃z:List DV,z=z111++z112:=⟨_,rfl⟩
 have ez113:(p.app z111 z112)=z113:=by rw [hz113];exact FP hp
 simp only [ez113];have lz113:z113.length=(z111).length+(z112).length:=by rw [hz113];simp only [List.length_append,List.length_cons,List.length_nil]<;>omega
 conv=>cbv
 obtain ⟨z114,hz114⟩:∃z:Nat,z=(z113).length:=⟨_,rfl⟩
 have ez114:(p.len z113)=z114:=by rw [hz114];exact wZ hp
 simp only [ez114]
 conv=>cbv
 have e115:(p.nle z110 z114)=true:=vT hp (by omega);simp only [e115];clear e115
 conv=>cbv
 obtain ⟨z116,hz116⟩:∃z:Int,z=kz+1:=⟨_,rfl⟩
 have ez116:(p.ar .add .i64 kz 1)=z116:=by rw [hz116];exact RQ hp (by omega) (by omega)
 simp only [ez116]
 conv=>cbv
 obtain ⟨j117,hj117,lj117,ej117⟩:=rP (i:=z116) (n:=z90) hp (by omega) (by omega);simp only [ej117]
 conv=>cbv
 simp only [ej76]
 conv=>cbv
 simp only [ez96]
 conv=>cbv
 have ez118:(p.na 0 z96)=z96:=by rw [wW hp];omega
 simp only [ez118];clear ez118
 conv=>cbv
 obtain ⟨z119,hz119⟩:∃z:Nat,z=n-j76:=⟨_,rfl⟩
 have ez119:(p.ns n j76)=z119:=by rw [hz119];exact Ia hp
 simp only [ez119]
 conv=>cbv
 obtain ⟨z120,hz120⟩:∃z:Nat,z=z119*6:=⟨_,rfl⟩
 have ez120:(p.nm z119 6)=z120:=by rw [hz120];exact yQ hp
 simp only [ez120]
 conv=>cbv
 obtain ⟨z121,hz121⟩:∃z:Nat,z=z96+z120:=⟨_,rfl⟩
 have ez121:(p.na z96 z120)=z121:=by rw [hz121];exact wW hp
 simp only [ez121]
 conv=>cbv
 simp only [ez98]
 conv=>cbv
 have e122:(p.nle z121 z98)=true:=vT hp (by omega);simp only [e122];clear e122
 conv=>cbv
 obtain ⟨z123,hz123⟩:∃z:Nat,z=j117*6:=⟨_,rfl⟩
 have ez123:(p.nm j117 6)=z123:=by rw [hz123];exact yQ hp
 simp only [ez123]
 conv=>cbv
 have ez124:(p.na 0 z123)=z123:=by rw [wW hp];omega
 simp only [ez124];clear ez124
 conv=>cbv
 obtain ⟨z125,hz125⟩:∃z:Nat,z=z90-j117:=⟨_,rfl⟩
 have ez125:(p.ns z90 j117)=z125:=by rw [hz125];exact Ia hp
 simp only [ez125]
 conv=>cbv
 obtain ⟨z126,hz126⟩:∃z:Nat,z=z125*6:=⟨_,rfl⟩
 have ez126:(p.nm z125 6)=z126:=by rw [hz126];exact yQ hp
 simp only [ez126]
 conv=>cbv
 obtain ⟨z127,hz127⟩:∃z:Nat,z=z123+z126:=⟨_,rfl⟩
 have ez127:(p.na z123 z126)=z127:=by rw [hz127];exact wW hp
 simp only [ez127]
 conv=>cbv
 have ez128:(p.cut vs 0 6)=vs:=tK hp (by omega);simp only [ez128]
 conv=>cbv
 obtain ⟨z129,hz129⟩:∃z:Nat,z=min 1 z108:=⟨_,rfl⟩
 have ez129:(p.nmin 1 z108)=z129:=by rw [hz129];exact JO hp
 simp only [ez129]
 conv=>cbv
 obtain ⟨z130,hz130⟩:∃z:Nat,z=z129*6:=⟨_,rfl⟩
 have ez130:(p.nm z129 6)=z130:=by rw [hz130];exact yQ hp
 simp only [ez130]
 conv=>cbv
 have ez131:(p.cut vs 0 z130)=vs:=tK hp (by omega);simp only [ez131]
 conv=>cbv
 obtain ⟨z132,hz132⟩:∃z:List DV,z=splice z113 z106 vs:=⟨_,rfl⟩
 have ez132:(p.spl z113 z106 vs)=z132:=by rw [hz132];exact Ya hp
 simp only [ez132];have lz132:z132.length=(z113).length:=by rw [hz132,uN _ _ _ (by (try simp only [List.length_cons,List.length_nil]);omega)]<;>(try simp only [List.length_cons,List.length_nil])<;>omega
 conv=>cbv
 obtain ⟨z133,hz133⟩:∃z:Nat,z=(z132).length:=⟨_,rfl⟩
 have ez133:(p.len z132)=z133:=by rw [hz133];exact wZ hp
 simp only [ez133]
 conv=>cbv
 have e134:(p.nle z127 z133)=true:=vT hp (by omega);simp only [e134];clear e134
 conv=>cbv
 obtain ⟨z135,hz135⟩:∃z:List DV,z=((cs).drop z96).take z120:=⟨_,rfl⟩
 have ez135:(p.cut cs z96 z120)=z135:=by rw [hz135];exact JQ hp
 simp only [ez135];have lz135:z135.length=min z120 ((cs).length-z96):=by rw [hz135];simp only [List.length_take,List.length_drop,List.length_cons,List.length_nil]<;>omega
 conv=>cbv
 obtain ⟨z136,hz136⟩:∃z:Nat,z=min z119 z125:=⟨_,rfl⟩
 have ez136:(p.nmin z119 z125)=z136:=by rw [hz136];exact JO hp
 simp only [ez136]
 conv=>cbv
 obtain ⟨z137,hz137⟩:∃z:Nat,z=z136*6:=⟨_,rfl⟩
 have ez137:(p.nm z136 6)=z137:=by rw [hz137];exact yQ hp
 simp only [ez137]
 conv=>cbv
 have ez138:(p.cut z135 0 z137)=z135:=tK hp (by omega);simp only [ez138]
 conv=>cbv
 obtain ⟨z139,hz139⟩:∃z:List DV,z=splice z132 z123 z135:=⟨_,rfl⟩
 have ez139:(p.spl z132 z123 z135)=z139:=by rw [hz139];exact Ya hp
 simp only [ez139];have lz139:z139.length=(z132).length:=by rw [hz139,uN _ _ _ (by (try simp only [List.length_cons,List.length_nil]);omega)]<;>(try simp only [List.length_cons,List.length_nil])<;>omega
 conv=>cbv
 obtain rfl:T=z139:=by
  have e1:z135=cs.drop (i*6):=by rw [hz135,List.take_of_length_le (by rw [List.length_drop];omega),show z96=i*6 from by omega]
  rw [hz139,hz132,hz113,hz111,e1,List.drop_zero,show z96=i*6 from by omega,show z106=i*6 from by omega,show z123=i*6+6 from by omega,WX (by omega) (by omega) (by omega),hT]
 obtain rfl:N=z90:=by omega
 exact qE [(20000003,1908),(20000001,20000001),(20000002,20000002)] rfl rfl ⟨⟨rfl,rfl,rfl⟩,trivial,⟨rfl,rfl,rfl⟩,trivial⟩ rfl rfl
set_option maxHeartbeats 4000000
set_option maxRecDepth 10000
theorem Ri {a b:Nat} {o x:AO} {t:List (Nat×AO)}:aK ((a,o)::(b,.dead)::t)=aK ((a,o)::(b,.dead)::(b,x)::t):=by
 funext q;simp only [aK,look];by_cases h1:a=q
 ·rw [if_pos h1,if_pos h1]
 ·rw [if_neg h1,if_neg h1];by_cases h2:b=q
  ·rw [if_pos h2,if_pos h2]
  ·rw [if_neg h2,if_neg h2,if_neg h2]
def Rj {α:Type}:List α×(Int×List α)->Option (List α):=fun (l,(i,v))=>bif decide (l.length<=1000000) then bif decide (0<=i/\i<=(l.length:Int)) then bif decide (v.length=1) then some (l.take i.toNat++v++l.drop i.toNat) else none else none else none
theorem ac9:aB Tryz.prog 104 ⟨[.tmp 0 false [.own 20000001 188 Bo],.tmp 1 false [.dat (.int .i64)],.tmp 2 false [.own 20000002 188 Bo]],[.tmp 0 false [.own 20000003 188 Bo],.dead 20000001],Rj⟩:=by
 refine ⟨by kernel_rfl,?_⟩;rintro ⟨l,i,v⟩ x hx;show fZ Tryz.prog nJ 104 [.sl 20000001 0 l.length none,dG .i64 i,.sl 20000002 0 v.length none] [(20000001,.data 188 (eH Bo) (aS Bo l) true),(20000002,.data 188 (eH Bo) (aS Bo v) true)] (.sl 20000003 0 x.length none) [(20000003,.data 188 (eH Bo) (aS Bo x) true),(20000001,.dead),(20000001,.data 188 (eH Bo) (aS Bo l) true),(20000002,.data 188 (eH Bo) (aS Bo v) true)];replace hx:Rj (l,(i,v))=some x:=hx;unfold Rj at hx;simp only [qN] at hx;split at hx
 ·rename_i hl;split at hx
  ·rename_i hi;split at hx
   ·rename_i hv;obtain ⟨b,rfl⟩:=List.length_eq_one_iff.1 hv;cases hx;obtain ⟨k,rfl⟩:=Int.eq_ofNat_of_zero_le hi.1;have hk:k<=l.length:=by omega
    have hw:(aS Bo l).length=l.length*6:=bF _ _;have hv':(aS Bo [b]).length=1*6:=bF _ _;have hT:aS Bo (l.take k++[b]++l.drop k)=(aS Bo l).take (k*6)++aS Bo [b]++(aS Bo l).drop (k*6):=by
     rw [jm,jm,<-fJ,<-iO];rfl
    have hN:(l.take k++[b]++l.drop k).length=l.length+1:=by simp;omega
    rw [Int.toNat_natCast];refine aan (us:=[(20000003,.data 188 6 (aS Bo (l.take k++[b]++l.drop k)) true),(20000001,.dead),(20000002,.data 188 6 (aS Bo [b]) true)]) ?_ Ri;by_cases hkl:k=l.length
    ·refine ac8 ?_ hN (by omega) hw hv' hl;rw [hT,hkl,List.take_of_length_le (by omega),List.drop_eq_nil_of_le (by omega),List.append_nil]
    ·refine Rf (os:=[(20000002,.data 188 6 (aS Bo [b]) true)]) (os':=[(20000002,.data 188 6 (aS Bo [b]) true)]) (by omega) (by decide) rfl fun c h1 h2 => ?_;by_cases hc:l.length+1<=c
     ·exact .inl (ahH hT hN rfl hw hv' hl (by omega) hc h2)
     ·obtain rfl:c=l.length:=by omega
      exact .inr (aap hT hN rfl hw hv' hl (by omega))
   ·cases hx
  ·cases hx
 ·cases hx
set_option maxRecDepth 1000000
set_option maxHeartbeats 0
def ahI:List (Nat×PL):=[(68853956626,(.carry [.tmp 0 true [dI,dI,dI,dO,dI,dI,dI,dI,dI,dI,(.own 10000009 188 (.pair ak (.pair ak (.pair ak (.pair .bool (.pair aX (.list aX))))))),dI,dI,dI],.tmp 1 false [(.own 10000007 188 (.pair ak (.pair ak (.pair ak (.pair .bool (.pair aX (.list aX)))))))]])),(9241421622152527891,(.carry [.tmp 0 false [dI]])),(2422583229717552271458817,(.carry [])),(9241421622152528385,(.carry [.tmp 6 false [dI]])),(325153616983591947596441529354246,(.carry [.tmp 8 false [dI]])),(2422583229717552400957461,(.carry [.tmp 0 false [(.own 10000004 188 (.pair ak (.pair ak (.pair ak (.pair .bool (.pair aX (.list aX)))))))]])),(325153616983591964977455440331265,(.carry [.tmp 3 false [(.own 10000002 188 (.pair ak (.pair ak (.pair ak (.pair .bool (.pair aX (.list aX)))))))]])),(1240362613615386829290471444,(.carry [.tmp 0 false [(.own 10000006 188 (.pair ak (.pair ak (.pair ak (.pair .bool (.pair aX (.list aX)))))))]])),(43641379722519926818329640422501821712390,(.carry [.tmp 8 false [dI],.tmp 3 false [(.own 10000001 188 (.pair ak (.pair ak (.pair ak (.pair .bool (.pair aX (.list aX)))))))]])),(166478651895599086068490929262821889,(.carry [.tmp 3 false [(.own 10000005 188 (.pair ak (.pair ak (.pair ak (.pair .bool (.pair aX (.list aX)))))))]])),(22344386417930202530989304914264668676294662,(.carry [.tmp 8 false [dI],.tmp 3 false [(.own 10000003 188 (.pair ak (.pair ak (.pair ak (.pair .bool (.pair aX (.list aX)))))))]])),(635065658171078056596721631745,(.carry [.mix 21 [dI,dI,dI,dO,dI,dI,dI,dI,dI,dI,(.own 10000010 188 (.pair ak (.pair ak (.pair ak (.pair .bool (.pair aX (.list aX))))))),dI,dI,dI],.dead 10000006])),(85237069770546732067067389661132621830,(.carry [.tmp 38 false [dI],.mix 21 [dI,dI,dI,dO,dI,dI,dI,dI,dI,dI,(.own 10000008 188 (.pair ak (.pair ak (.pair ak (.pair .bool (.pair aX (.list aX))))))),dI,dI,dI],.dead 10000006])),(635065662736629305928138883090,(.carry [.tmp 0 false [dI]])),(166478653092430952773226039368745473,(.carry [])),(22344386578566256478097698234511571462391814,(.carry [.tmp 8 false [dI]])),(1240362622532514025046278657,(.carry [.mix 53 [dI,dI,dI,dO,dI,dI,dI,dI,dI,dI,(.own 10000011 188 (.pair ak (.pair ak (.pair ak (.pair .bool (.pair aX (.list aX))))))),dI,dI,dI],.dead 10000009])),(166478653092435638569846616197693441,(.carry [.tmp 49 false [dO]])),(635065662736647214839835656211,(.carry [.tmp 0 false [dI],.tmp 1 false [dO]])),(43641380036263450374825280343055242887681,(.carry [.drop 10,.tmp 9 false [dI]])),(11440325928226245935058198290249873591547987974,(.carry [.tmp 10 false [dI],.tmp 9 false [dI]]))]
noncomputable def aaq (v225 v226 v227 v229 v230 v231 v232 v233 x214:Int) (v235:List (Int×(Int×(Int×(Bool×(Int×LN)))))) (v236 v237 v238:Int) (v101:List (Int×(Int×(Int×(Bool×(Int×LN)))))) (a15 a16 a17:Int) (a18:Bool) (a19:Int) (a20:List Int):Option ((Int×(Int×(Int×(Bool×(Int×(Int×(Int×(Int×(Int×(Int×((List (Int×(Int×(Int×(Bool×(Int×LN))))))×(Int×(Int×Int)))))))))))))×((List (Int×(Int×(Int×(Bool×(Int×LN))))))×(Int×Int))) :=
 bif (decide (v235.length<=v235.length)) then
 ah (ji ((v225,(v226,(v227,(true,(v229,(v230,((bf v231 a16),(v232,(v233,(x214,((v235.take v235.length),(v236,(v237,v238))))))))))))),a17)) fun x294 =>
 bif (decide (x294<=a15)) then
 bif ((decide (v235.length<=v235.length))&&(decide (v101.length<=v101.length))) then
 some ((v225,(v226,(v227,(true,(v229,(v230,((bf v231 a16),(v232,(v233,(x214,((v235.take v235.length),((IntKind.wrap .i64 (v236+(1:Int))),(v237,v238))))))))))))),((v101.take v101.length),((2:Int),(0:Int))))
 else none
 else
 bif (decide (x294 > (IntKind.wrap .i64 (a15+(120000:Int))))) then
 bif ((decide (v235.length<=v235.length))&&(decide (v101.length<=v101.length))) then
 some ((v225,(v226,(v227,(true,(v229,(v230,((bf v231 a16),(v232,(v233,(x214,((v235.take v235.length),(v236,(v237,v238))))))))))))),((v101.take v101.length),((5:Int),(0:Int))))
 else none
 else
 ah (eP (a16,(a17,(a18,(a19,a20))))) fun (x298,(x299,(x300,(x301,x302)))) =>
 au (au (bn (fun (v303,v304) =>
 bif (decide (v304<v303)) then
 ah (some (Int.fdiv (IntKind.wrap .u64 (IntKind.wrap .i64 (v304+v303))) (2:Int))) fun x307 =>
 bif (decide ((0<=(IntKind.wrap .i64 x307))/\((IntKind.wrap .i64 x307)<(v235.length:Int)))) then
 ah v235[(Int.toNat (IntKind.wrap .i64 x307))]? fun x309 =>
 ah (jM ((x309.1,(x309.2.1,(x309.2.2.1,(x309.2.2.2.1,(x309.2.2.2.2.1,x309.2.2.2.2.2))))),(x294,(x298,(x299,(x300,(x301,x302))))))) fun x310 =>
 bif (decide (x310<0)) then
 some (Sum.inl (v303,(IntKind.wrap .i64 ((IntKind.wrap .i64 x307)+(1:Int)))))
 else
 some (Sum.inl ((IntKind.wrap .i64 x307),v304))
 else none
 else
 aA (some (Sum.inl v304))) ((v235.length:Int),(0:Int))) fun v312 =>
 bif (decide (v312<(v235.length:Int))) then
 bif (decide ((0<=v312)/\(v312<(v235.length:Int)))) then
 ah v235[v312.toNat]? fun x313 =>
 ah (jM ((x313.1,(x313.2.1,(x313.2.2.1,(x313.2.2.2.1,(x313.2.2.2.2.1,x313.2.2.2.2.2))))),(x294,(x298,(x299,(x300,(x301,x302))))))) fun x314 =>
 some (Sum.inl (v312,(decide (x314=0))))
 else none
 else
 some (Sum.inl (v312,false))) fun (v315,v316) =>
 bif ((decide (v235.length=v235.length))&&true) then
 ah (Rj (v235,(v315,((x294,(x298,(x299,(x300,(x301,x302)))))::([]:List (Int×(Int×(Int×(Bool×(Int×LN)))))))))) fun x317 =>
 bif ((decide (x317.length<=x317.length))&&(decide (v101.length<=v101.length))) then
 some ((v225,(v226,(v227,(true,(v229,(v230,((bf v231 a16),(v232,(v233,(x214,((x317.take x317.length),(v236,(v237,v238))))))))))))),((v101.take v101.length),((1:Int),(0:Int))))
 else none
 else none
 else none
noncomputable def ada (v87 v88 v89:Int) (v90:Bool) (v91 v92 v93 v94 v95 v96:Int) (v97:List (Int×(Int×(Int×(Bool×(Int×LN)))))) (v98 v99 v100:Int) (v101:List (Int×(Int×(Int×(Bool×(Int×LN)))))) (a15 a16 a17:Int) (a18:Bool) (a19:Int) (a20:List Int):Option ((Int×(Int×(Int×(Bool×(Int×(Int×(Int×(Int×(Int×(Int×((List (Int×(Int×(Int×(Bool×(Int×LN))))))×(Int×(Int×Int)))))))))))))×((List (Int×(Int×(Int×(Bool×(Int×LN))))))×(Int×Int))) :=
 bif (decide ((v97.length:Int)>=200)) then
 bif ((decide (v97.length<=v97.length))&&(decide (v101.length<=v101.length))) then
 some ((v87,(v88,(v89,(v90,(v91,(v92,(v93,(v94,(v95,(v96,((v97.take v97.length),(v98,(v99,v100))))))))))))),((v101.take v101.length),((4:Int),(0:Int))))
 else none
 else
 ah (jA a17) fun x213 =>
 ah (some (IntKind.wrap .i64 (v89-x213))) fun x214 =>
 au (bif v90 then
 ah (some (IntKind.wrap .i64 (x214-v96))) fun x215 =>
 bif (decide (x215<0)) then
 bif (decide (v97.length<=v97.length)) then
 some (Sum.inl (v87,(v88,(v89,(v90,(v91,(v92,(v93,(v94,((IntKind.wrap .i64 (v95+(IntKind.wrap .i64 ((IntKind.wrap .i64 ((0:Int)-x215))-(IntKind.wrap .i64 (Int.tdiv (IntKind.wrap .i64 (v95+(8:Int))) (16:Int))))))),(v96,((v97.take v97.length),(v98,(v99,v100))))))))))))))
 else none
 else
 bif (decide (v97.length<=v97.length)) then
 some (Sum.inl (v87,(v88,(v89,(v90,(v91,(v92,(v93,(v94,((IntKind.wrap .i64 (v95+(IntKind.wrap .i64 (x215-(IntKind.wrap .i64 (Int.tdiv (IntKind.wrap .i64 (v95+(8:Int))) (16:Int))))))),(v96,((v97.take v97.length),(v98,(v99,v100))))))))))))))
 else none
 else
 bif (decide (v97.length<=v97.length)) then
 some (Sum.inl (v87,(v88,(v89,(v90,(v91,(v92,(v93,(v94,(v95,(v96,((v97.take v97.length),(v98,(v99,v100))))))))))))))
 else none) fun (v225,(v226,(v227,(v228,(v229,(v230,(v231,(v232,(v233,(v234,(v235,(v236,(v237,v238))))))))))))) =>
 au (bif (!v228) then
 some (Sum.inl true)
 else
 bif a18 then
 some (Sum.inl (decide (a16 > v231)))
 else
 some (Sum.inl false)) fun v239 =>
 bif v239 then
 ah (some (IntKind.wrap .i64 (v227+(eU (IntKind.wrap .i64 (v225+(IntKind.wrap .i64 (Int.tdiv v233 (4:Int))))) v226)))) fun x242 =>
 bif (decide ((v235.length:Int) > 0)) then
 ah (some (IntKind.wrap .i64 ((v235.length:Int)-(1:Int)))) fun x243 =>
 bif (decide ((0<=x243)/\(x243<(v235.length:Int)))) then
 ah v235[x243.toNat]? fun x244 =>
 ah (some (IntKind.wrap .i64 (x244.1+(1:Int)))) fun x245 =>
 aaq v225 v226 v227 (bf x242 x245) a17 v231 v232 v233 x214 v235 v236 v237 v238 v101 a15 a16 a17 a18 a19 a20
 else none
 else
 aaq v225 v226 v227 x242 a17 v231 v232 v233 x214 v235 v236 v237 v238 v101 a15 a16 a17 a18 a19 a20
 else
 aaq v225 v226 v227 v229 v230 v231 v232 v233 x214 v235 v236 v237 v238 v101 a15 a16 a17 a18 a19 a20
noncomputable def qX:((Int×(Int×(Int×(Bool×(Int×(Int×(Int×(Int×(Int×(Int×((List (Int×(Int×(Int×(Bool×(Int×LN))))))×(Int×(Int×Int)))))))))))))×(Int×(Int×(Int×(Bool×(Int×LN))))))->Option ((Int×(Int×(Int×(Bool×(Int×(Int×(Int×(Int×(Int×(Int×((List (Int×(Int×(Int×(Bool×(Int×LN))))))×(Int×(Int×Int)))))))))))))×((List (Int×(Int×(Int×(Bool×(Int×LN))))))×(Int×Int))):=fun ((a1,(a2,(a3,(a4,(a5,(a6,(a7,(a8,(a9,(a10,(a11,(a12,(a13,a14))))))))))))),(a15,(a16,(a17,(a18,(a19,a20)))))) =>
 ah (kW ((a1,(a2,(a3,(a4,(a5,(a6,(a7,(a8,(a9,(a10,(a11,(a12,(a13,a14))))))))))))),(a15,(a16,(a17,(a18,(a19,a20))))))) fun x21 =>
 bif (decide (x21≠0)) then
 some (((0:Int),((0:Int),((0:Int),(false,((0:Int),((0:Int),((0:Int),((0:Int),((0:Int),((0:Int),(([]:List (Int×(Int×(Int×(Bool×(Int×LN)))))),((0:Int),((0:Int),(0:Int)))))))))))))),(([]:List (Int×(Int×(Int×(Bool×(Int×LN)))))),((0:Int),x21)))
 else
 au (au (au (bn (fun v22 =>
 bif (decide (v22<(a11.length:Int))) then
 bif (decide ((0<=v22)/\(v22<(a11.length:Int)))) then
 ah a11[v22.toNat]? fun x23 =>
 bif (decide (x23.1 > a15)) then
 aA (aA (some (Sum.inl v22)))
 else
 some (Sum.inl (IntKind.wrap .i64 (v22+(1:Int))))
 else none
 else
 aA (some (Sum.inl ()))) (0:Int)) fun _ =>
 some (Sum.inl (-1:Int))) fun v25 =>
 au (bif (decide (v25<0)) then
 some (Sum.inl (a11.length:Int))
 else
 some (Sum.inl v25)) fun v26 =>
 bif ((decide ((0<=v26)/\(v26<=(a11.length:Int))))&&(decide ((0<=v26)/\(v26<=((v26.toNat:Nat):Int))))) then
 ah (some (List.take v26.toNat a11)) fun x27 =>
 au (au (bn (fun (v28,v29) =>
 bif (decide (v28<(x27.length:Int))) then
 bif (decide ((0<=v28)/\(v28<(x27.length:Int)))) then
 ah x27[v28.toNat]? fun x30 =>
 ah (eP (x30.2.1,(x30.2.2.1,(x30.2.2.2.1,(x30.2.2.2.2.1,x30.2.2.2.2.2))))) fun (x32,(x33,(x34,(x35,x36)))) =>
 bif (decide (v29.length<=v29.length)) then
 bif (decide (((List.length ((v29.take v29.length)++((x30.1,(x32,(x33,(x34,(x35,x36)))))::([]:List (Int×(Int×(Int×(Bool×(Int×LN)))))))))*56)<=140737488355328)) then
 ah (some ((v29.take v29.length)++((x30.1,(x32,(x33,(x34,(x35,x36)))))::([]:List (Int×(Int×(Int×(Bool×(Int×LN))))))))) fun x37 =>
 bif (decide (x37.length<=x37.length)) then
 some (Sum.inl ((IntKind.wrap .i64 (v28+(1:Int))),(x37.take x37.length)))
 else none
 else none
 else none
 else none
 else
 aA (bif (decide (v29.length<=v29.length)) then
 some (Sum.inl (v29.take v29.length))
 else none)) ((0:Int),([]:List (Int×(Int×(Int×(Bool×(Int×LN)))))))) fun v39 =>
 bif (decide (v39.length<=v39.length)) then
 some (Sum.inl (v39.take v39.length))
 else none) fun v40 =>
 bif (decide ((0<=v26)/\(v26<=(a11.length:Int)))) then
 ah (some (List.drop v26.toNat a11)) fun x41 =>
 au (au (bn (fun (v42,v43) =>
 bif (decide (v42<(x41.length:Int))) then
 bif (decide ((0<=v42)/\(v42<(x41.length:Int)))) then
 ah x41[v42.toNat]? fun x44 =>
 ah (eP (x44.2.1,(x44.2.2.1,(x44.2.2.2.1,(x44.2.2.2.2.1,x44.2.2.2.2.2))))) fun (x46,(x47,(x48,(x49,x50)))) =>
 bif (decide (v43.length<=v43.length)) then
 bif (decide (((List.length ((v43.take v43.length)++((x44.1,(x46,(x47,(x48,(x49,x50)))))::([]:List (Int×(Int×(Int×(Bool×(Int×LN)))))))))*56)<=140737488355328)) then
 ah (some ((v43.take v43.length)++((x44.1,(x46,(x47,(x48,(x49,x50)))))::([]:List (Int×(Int×(Int×(Bool×(Int×LN))))))))) fun x51 =>
 bif (decide (x51.length<=x51.length)) then
 some (Sum.inl ((IntKind.wrap .i64 (v42+(1:Int))),(x51.take x51.length)))
 else none
 else none
 else none
 else none
 else
 aA (bif (decide (v43.length<=v43.length)) then
 some (Sum.inl (v43.take v43.length))
 else none)) ((0:Int),([]:List (Int×(Int×(Int×(Bool×(Int×LN)))))))) fun v53 =>
 bif (decide (v53.length<=v53.length)) then
 some (Sum.inl (v53.take v53.length))
 else none) fun v54 =>
 au (bif (decide (v54.length<=v54.length)) then
 bn (fun (v56,(v57,(v58,(v59,(v60,(v61,(v62,(v63,(v64,(v65,(v66,(v67,(v68,(v69,v70)))))))))))))) =>
 bif (decide (v56<(v40.length:Int))) then
 bif (decide ((0<=v56)/\(v56<(v40.length:Int)))) then
 ah v40[v56.toNat]? fun x71 =>
 bif (decide (v67.length<=v67.length)) then
 some (Sum.inl ((IntKind.wrap .i64 (v56+(1:Int))),(v57,(v58,(v59,(v60,(v61,(v62,(v63,((bf v64 x71.2.1),(v65,(v66,((v67.take v67.length),(v68,(v69,v70)))))))))))))))
 else none
 else none
 else
 aA (bif (decide (v67.length<=v67.length)) then
 some (Sum.inl (v57,(v58,(v59,(v60,(v61,(v62,(v63,(v64,(v65,(v66,((v67.take v67.length),(v68,(v69,v70))))))))))))))
 else none)) ((0:Int),(a1,(a2,(a3,(a4,(a5,(a6,(a7,(a8,(a9,(a10,((v54.take v54.length),(a12,(a13,(IntKind.wrap .i64 (a14+v26))))))))))))))))
 else none) fun (v73,(v74,(v75,(v76,(v77,(v78,(v79,(v80,(v81,(v82,(v83,(v84,(v85,v86))))))))))))) =>
 bif ((decide (v83.length<=v83.length))&&(decide (v40.length<=v40.length))) then
 some (Sum.inl ((v73,(v74,(a15,(v76,(v77,(v78,(v79,(v80,(v81,(v82,((v83.take v83.length),(v84,(v85,v86))))))))))))),(v40.take v40.length)))
 else none
 else none
 else none) fun ((v87,(v88,(v89,(v90,(v91,(v92,(v93,(v94,(v95,(v96,(v97,(v98,(v99,v100))))))))))))),v101) =>
 au (au (bn (fun v102 =>
 bif (decide (v102<(v97.length:Int))) then
 bif (decide ((0<=v102)/\(v102<(v97.length:Int)))) then
 ah v97[v102.toNat]? fun x103 =>
 bif (decide (x103.2.1=a16)) then
 aA (aA (some (Sum.inl v102)))
 else
 some (Sum.inl (IntKind.wrap .i64 (v102+(1:Int))))
 else none
 else
 aA (some (Sum.inl ()))) (0:Int)) fun _ =>
 some (Sum.inl (-1:Int))) fun v105 =>
 bif (decide (v105>=0)) then
 bif ((decide (v97.length<=v97.length))&&(decide (v101.length<=v101.length))) then
 some ((v87,(v88,(v89,(v90,(v91,(v92,(v93,(v94,(v95,(v96,((v97.take v97.length),(v98,((IntKind.wrap .i64 (v99+(1:Int))),v100))))))))))))),((v101.take v101.length),((3:Int),(0:Int))))
 else none
 else
 bif v90 then
 bif (decide (a16<=v94)) then
 bif ((decide (v97.length<=v97.length))&&(decide (v101.length<=v101.length))) then
 some ((v87,(v88,(v89,(v90,(v91,(v92,(v93,(v94,(v95,(v96,((v97.take v97.length),((IntKind.wrap .i64 (v98+(1:Int))),(v99,v100))))))))))))),((v101.take v101.length),((2:Int),(0:Int))))
 else none
 else
 ada v87 v88 v89 v90 v91 v92 v93 v94 v95 v96 v97 v98 v99 v100 v101 a15 a16 a17 a18 a19 a20
 else
 ada v87 v88 v89 v90 v91 v92 v93 v94 v95 v96 v97 v98 v99 v100 v101 a15 a16 a17 a18 a19 a20
noncomputable def Rk:CE:=⟨[.tmp 0 false [.own 20000001 188 Bo],.tmp 1 false [.dat ak],.tmp 2 false [.own 20000002 188 Bo]],[.tmp 0 false [.own 20000003 188 Bo],.dead 20000001],Rj⟩
noncomputable def ahJ:List (Nat×CE):=[(103,TQ),(108,TS),(77,acF),(101,TU),(96,acK),(104,Rk)]
theorem WY:cu Tryz.prog ahJ:=⟨KR,KT,TT,KU,TV,ac9,trivial⟩
noncomputable def aj7:CE:=⟨[(.tmp 0 true [dI,dI,dI,dO,dI,dI,dI,dI,dI,dI,(.dat (.list (.pair ak (.pair ak (.pair ak (.pair .bool (.pair aX (.list aX)))))))),dI,dI,dI]),(.tmp 1 false [dI]),(.tmp 2 true [dI,dI,dO,fB,dY])],[(.tmp 0 true [dI,dI,dI,dO,dI,dI,dI,dI,dI,dI,(.dat (.list (.pair ak (.pair ak (.pair ak (.pair .bool (.pair aX (.list aX)))))))),dI,dI,dI]),(.tmp 1 false [(.dat (.list (.pair ak (.pair ak (.pair ak (.pair .bool (.pair aX (.list aX))))))))]),(.tmp 2 false [fB]),(.tmp 3 false [fB])],qX⟩
theorem aj8:aB Tryz.prog 74 aj7 :=nK ahI dD WY Tryz.func74
def maxS (d:Int) (p:List WT):Int:=p.foldl (fun d w=>bf d w.2.1) d
def due (n:Int) (q:List WT):List WT:=q.takeWhile fun w=>decide (w.1<=n)
def left (n:Int) (q:List WT):List WT:=q.dropWhile fun w=>decide (w.1<=n)
def Jt.run (j:Jt) (n:Int):Jt:={j with now:=n,done:=maxS j.done (due n j.q),q:=left n j.q,played:=j.played+(due n j.q).length}
theorem jP (n:Int) (q:List WT):due n q++left n q=q:=List.takeWhile_append_dropWhile
theorem Rl {n:Int} {q:List WT} {w:WT} (h:w∈due n q):w.1<=n:=by
 have:=List.all_takeWhile (p:=fun w:WT=>decide (w.1<=n)) (l:=q);rw [List.all_eq_true] at this;simpa using this w h
theorem Uf {n:Int} {q:List WT} {w:WT} {r:List WT} (h:left n q=w::r):n<w.1:=by
 have:=List.head?_dropWhile_not (fun w:WT=>decide (w.1<=n)) q;unfold left at h;rw [h] at this;simpa using this
theorem La {n:Int} {q:List WT} (hp:q.Pairwise ER) {w:WT} (h:w∈left n q):n<w.1:=by
 have hs:(left n q).Pairwise ER:=hp.sublist (List.dropWhile_sublist _);cases e:left n q with
 | nil=>rw [e] at h;cases h
 | cons a r =>
   have ha:=Uf e;rw [e] at h hs;rcases List.mem_cons.1 h with rfl | h
   ·exact ha
   ·have:=(List.pairwise_cons.1 hs).1 w h;unfold ER at this;omega
theorem adb {n:Int} {q:List WT} {k:Nat} (h:k<(due n q).length):∃hk:k<q.length,q[k].1<=n:=by
 have e:=jP n q;generalize hp:due n q=p at e h;have hm:∀w∈p,w.1<=n:=fun w hw=>Rl (by rw [hp];exact hw);generalize left n q=r at e;subst e;refine ⟨by rw [List.length_append];omega,?_⟩;rw [List.getElem_append_left h];exact hm _ (List.getElem_mem h)
theorem ahK {n:Int} {q:List WT} (h:(due n q).length<q.length):n<(q[(due n q).length]).1:=by
 have e:=jP n q;have hh:∀a r,left n q=a::r->n<a.1:=fun a r h=>Uf h;have h1:q[(due n q).length]? = (left n q)[0]? := by
  generalize due n q=p at e;generalize left n q=r at e;subst e;rw [List.getElem?_append_right (Nat.le_refl _),Nat.sub_self]
 rw [List.getElem?_eq_getElem h] at h1;cases hl:left n q with
 | nil=>rw [hl] at h1;cases h1
 | cons a r =>
   rw [hl] at h1;have:=Option.some.inj h1;rw [this];exact hh a r hl
theorem Oj (n:Int) (q:List WT):q.take (due n q).length=due n q:=by
 have e:=jP n q;generalize due n q=p at e ⊢;generalize left n q=r at e;subst e;exact List.take_left' rfl
theorem xW (n:Int) (q:List WT):q.drop (due n q).length=left n q:=by
 have e:=jP n q;generalize due n q=p at e ⊢;generalize left n q=r at e ⊢;subst e;exact List.drop_left' rfl
theorem vI (n:Int) (q:List WT):(due n q).length<=q.length:=by
 have hl:=congrArg List.length (jP n q);rw [List.length_append] at hl;omega
theorem aar {β:Type} {n:Int} {q:List WT} (hq:q.length<=1000) {Q:β->Prop} {f:Int->Option (Int ⊕ (Unit ⊕ (Int ⊕ β)))} (hf:f=fun v16=>bif (decide (v16<(q.length:Int))) then
 bif (decide ((0<=v16)/\(v16<(q.length:Int)))) then
 ah q[v16.toNat]? fun x17 =>
 bif (decide (x17.1 > n)) then
 aA (aA (some (Sum.inl v16)))
 else
 some (Sum.inl (IntKind.wrap .i64 (v16+(1:Int))))
 else none
 else
 aA (some (Sum.inl ()))):So (au (bn f (0:Int)) fun _=>some (Sum.inl (-1:Int))) (Sm (fun v=>(v<0/\(due n q).length=q.length)\/v=((due n q).length:Int)) Q):=by
 have hl:=vI n q;subst hf;refine So.join (P:=fun _=>(due n q).length=q.length) (So.loop (fun v=>∃k:Nat,v=(k:Int)/\k<=(due n q).length) (fun v=>((q.length:Int)-v).toNat) (fun v hv => ?_) ⟨0,rfl,by omega⟩) fun _ h => .inl (.inl ⟨by omega,h⟩);obtain ⟨k,rfl,hk⟩:=hv;refine So.dec (fun h=>So.pos (by omega) ?_) fun h => .out (.inl (by omega));have hkl:k<q.length:=by omega
 refine So.is (iI hkl) (So.dec (fun h1 => .out (.out (.mk ?_))) fun h1 => ?_)
 ·refine .inr ?_;by_cases hlt:k<(due n q).length
  ·have:=(adb hlt).2;omega
  ·omega
 ·rw [aj (n:=(k:Int)+1) (by omega)];refine .inl ⟨⟨k+1,by omega,?_⟩,by omega⟩;by_cases hlt:k<(due n q).length
  ·omega
  ·have e:k=(due n q).length:=by omega
   subst e;have:=ahK hkl;omega
theorem Di (d:Int) (p:List WT) (w:WT):maxS d (p++[w])=bf (maxS d p) w.2.1:=by
 unfold maxS;rw [List.foldl_append];rfl
theorem JV.pay {j:Jt} (h:JV j) {w:WT} (hw:w∈j.q):w.2.2.2.2.2.length<=1500:=(h.2.2.2.2 w hw).2.2.2.2.2.2
theorem JV.len {j:Jt} (h:JV j):j.q.length<=190:=by obtain ⟨⟨_,_,_,_,_,_,_,_,h1,h2,h3,h4⟩,_⟩:=h;omega
theorem sD {n:Int} {q:List WT} {w:WT} (h:w∈due n q):w∈q:=by rw [<-jP n q];exact List.mem_append_left _ h
theorem mem_left {n:Int} {q:List WT} {w:WT} (h:w∈left n q):w∈q:=by rw [<-jP n q];exact List.mem_append_right _ h
theorem aj9 {j:Jt} (h:JV j) (n:Int):qU (j.t,n)=some ((j.run n).t,due n j.q):=by
 have hl:=h.len;have hd:=vI n j.q;have hpl:j.played<=190/\0<=j.played:=by obtain ⟨⟨_,_,_,_,_,_,_,_,h1,h2,h3,h4⟩,_⟩:=h;omega
 unfold qU;refine So.eq (So.join (aar (n:=n) (q:=j.q) (by omega) rfl) fun v hv=>So.join (P:=fun v=>v=((due n j.q).length:Int)) (So.dec (fun h => .inl (by show ((j.q.length:Nat):Int)=_;omega)) fun h => .inl (by omega)) fun v hv => ?_);subst hv;refine So.both (q:=0<=((due n j.q).length:Int)/\((due n j.q).length:Int)<=((Int.toNat ((due n j.q).length:Int):Nat):Int)) (show 0<=((due n j.q).length:Int)/\((due n j.q).length:Int)<=((j.q.length:Nat):Int) by omega) (by omega) ?_;have e1:List.take (Int.toNat ((due n j.q).length:Int)) j.q=due n j.q:=by rw [Int.toNat_natCast,Oj]
 have e2:List.drop (Int.toNat ((due n j.q).length:Int)) j.q=left n j.q:=by rw [Int.toNat_natCast,xW]
 refine So.is ((congrArg fM e1).trans (Ue _ (by omega) fun w hw=>h.pay (sD hw))) ?_;refine So.pos (show 0<=((due n j.q).length:Int)/\((due n j.q).length:Int)<=((j.q.length:Nat):Int) by omega) ?_;have hl2:(left n j.q).length<=j.q.length:=by rw [<-xW,List.length_drop];omega
 refine So.is ((congrArg fM e2).trans (Ue _ (by omega) fun w hw=>h.pay (mem_left hw))) ?_;have e3:IntKind.wrap .i64 (j.played+((due n j.q).length:Int))=j.played+((due n j.q).length:Int):=aj (by omega);have hj:∀d:Int,({j with done:=d,q:=left n j.q,played:=j.played+((due n j.q).length:Int)}:Jt).t=(j.le,(j.mo,(j.now,(j.on,(j.zero,(j.first,(j.high,(d,(j.spread,(j.transit,(left n j.q,(j.late,(j.twice,j.played+((due n j.q).length:Int)))))))))))))):=fun _=>rfl;refine So.join (P:=fun s=>s=({j with done:=maxS j.done (due n j.q),q:=left n j.q,played:=j.played+((due n j.q).length:Int)}:Jt).t) (So.loop (fun s=>∃k:Nat,k<=(due n j.q).length/\s=((k:Int),({j with done:=maxS j.done ((due n j.q).take k),q:=left n j.q,played:=j.played+((due n j.q).length:Int)}:Jt).t)) (fun s=>(((due n j.q).length:Int)-s.1).toNat) (fun s hs => ?_) ⟨0,by omega,?_⟩) fun s hs => ?_
 ·obtain ⟨k,hk,rfl⟩:=hs;refine So.dec (p:=(k:Int)<(((due n j.q).length:Nat):Int)) (fun h1=>So.pos (p:=0<=(k:Int)/\(k:Int)<(((due n j.q).length:Nat):Int)) (by omega) ?_) fun h1 => .out (.inl ?_)
  ·have hk1:k<(due n j.q).length:=by omega
   refine So.is (iI hk1) (.inl ⟨⟨k+1,by omega,?_⟩,?_⟩)
   ·rw [List.take_add_one,List.getElem?_eq_getElem hk1];simp only [Option.toList_some,Di];show (IntKind.wrap .i64 ((k:Int)+1),_)=_;rw [aj (by omega)];rfl
   ·show (((due n j.q).length:Int)-IntKind.wrap .i64 ((k:Int)+1)).toNat<(((due n j.q).length:Int)-(k:Int)).toNat;rw [aj (by omega)];omega
  ·rw [List.take_of_length_le (by omega)];rfl
 ·show (0,_)=_;simp only [e3];rfl
 ·subst hs;exact .mk rfl
theorem akb {j:Jt} (h:JV j) {n:Int} (hn:j.now<=n/\n<=1000000):qV (j.t,n)=some ((j.run n).t,(due n j.q,0)):=by
 unfold qV;exact So.eq (So.is (Ud h hn (by omega) (by omega) (by simp)) (So.neg (by omega) (So.is (aj9 h n) (.mk rfl))))
def Rn (d:Int):Int:=if d<0 then -d else d
def uq (z:Int) (q:List WT):Int:=match q.getLast? with | none=>z | some w=>bf z (w.1+1)
def Jt.spr (r:Jt) (t:Int):Int:=if r.on=true then r.spread+(Rn (r.now-t / 8-r.transit)-(r.spread+8) / 16) else r.spread
def Jt.meas (r:Jt) (k t:Int) (mk:Bool):Jt :=
 if r.on=false\/(mk=true/\k > r.high) then {r with on:=true,spread:=r.spr t,transit:=r.now-t / 8,high:=bf r.high k,first:=t,zero:=uq (r.now+eU (r.le+r.spr t / 4) r.mo) r.q}
 else {r with on:=true,spread:=r.spr t,transit:=r.now-t / 8,high:=bf r.high k}
def aW (w:WT) (a:WT):Bool:=decide (Q8 a w<0)
def rC (w:WT) (q:List WT):List WT:=q.takeWhile (aW w)++w::q.dropWhile (aW w)
def Jt.take (m:Jt) (n k t:Int) (mk:Bool) (ty:Int) (py:List Int):Jt×Int :=
 if m.at t<=n then ({m with late:=m.late+1},2) else if m.at t > n+120000 then (m,5) else ({m with q:=rC (m.at t,(k,(t,(mk,(ty,py))))) m.q},1)
def Jt.put (j:Jt) (n k t:Int) (mk:Bool) (ty:Int) (py:List Int):Jt×Int :=
 if ∃w∈(j.run n).q,w.2.1=k then ({(j.run n) with twice:=(j.run n).twice+1},3)
 else if (j.run n).on=true/\k<=(j.run n).done then ({(j.run n) with late:=(j.run n).late+1},2)
 else if 200<=(j.run n).q.length then (j.run n,4)
 else ((j.run n).meas k t mk).take n k t mk ty py
theorem Dj {a b c:WT} (h:ER a b) (k:ER b c):ER a c:=by unfold ER at *;omega
theorem Lc {w:WT} {q:List WT} (hp:q.Pairwise ER) {i:Nat} (hi:i<q.length):Q8 q[i] w<0↔i<(q.takeWhile (aW w)).length:=by
 induction q generalizing i with
 | nil=>simp at hi
 | cons a q ih =>
   obtain ⟨h1,h2⟩:=List.pairwise_cons.1 hp;by_cases ha:Q8 a w<0
   ·rw [List.takeWhile_cons_of_pos (by simpa [aW] using ha)];cases i with
    | zero=>simpa using ha
    | succ i=>simp only [List.getElem_cons_succ,List.length_cons];rw [ih h2 (by simpa using hi)];omega
   ·rw [List.takeWhile_cons_of_neg (by simpa [aW] using ha)];cases i with
    | zero=>simpa using ha
    | succ i =>
      simp only [List.getElem_cons_succ,List.length_nil,Nat.not_lt_zero,iff_false];intro hb;exact ha (vH.2 (Dj (h1 _ (List.getElem_mem _)) (vH.1 hb)))
theorem ahL {w:WT} {q:List WT} (hq:q.length<=1000):Rj (q,(((q.takeWhile (aW w)).length:Int),[w]))=some (rC w q):=by
 have e:=List.takeWhile_append_dropWhile (p:=aW w) (l:=q);have hl:(q.takeWhile (aW w)).length<=q.length:=by
  have:=congrArg List.length e;rw [List.length_append] at this;omega
 unfold Rj;refine So.eq (So.pos (by omega) (So.pos (by omega) (So.pos rfl (.mk ?_))));rw [Int.toNat_natCast];unfold rC;generalize q.takeWhile (aW w)=a at e;generalize q.dropWhile (aW w)=b at e ⊢;subst e;rw [List.take_left' rfl,List.drop_left' rfl,List.append_assoc];rfl
theorem ade {n:Int} (h:0<=n/\n<18446744073709551616):IntKind.wrap .u64 n=n:=by rw [GY,Int.emod_eq_of_lt h.1 h.2]
theorem ahM {m:Jt} (hm:NV m) (hon:m.on=true) {hh k:Int} (hhi:m.high=bf hh k) (hp:m.q.Pairwise ER) {n t:Int} {mk:Bool} {ty:Int} {py:List Int} (hn:0<=n/\n<=1000000) (ht:0<=t/\t<=20000) (hy:py.length<=1500) (pl:List WT) :
 aaq m.le m.mo m.now m.zero m.first hh m.done m.spread m.transit m.q m.late m.twice m.played pl n k t mk ty py=some ((m.take n k t mk ty py).1.t,(pl,((m.take n k t mk ty py).2,0))):=by
 have hlen:m.q.length<=190/\0<=m.late/\m.late<=190:=by obtain ⟨_,_,_,_,_,_,_,_,h1,h2,h3,h4⟩:=hm;omega
 have hpt:=G7 hm ht;unfold aaq;simp only [List.take_length,<-hhi];have hmt:m.t=(m.le,(m.mo,(m.now,(true,(m.zero,(m.first,(m.high,(m.done,(m.spread,(m.transit,(m.q,(m.late,(m.twice,m.played))))))))))))):=by rw [<-hon];rfl
 rw [hmt] at hpt;unfold Jt.take;have e120:IntKind.wrap .i64 (n+120000)=n+120000:=aj (by omega);refine So.eq (So.le (So.is hpt ?_));rw [e120];refine So.dec (fun h => ?_) fun h=>So.dec (fun h2 => ?_) fun h2 => ?_
 ·rw [if_pos h,aj (n:=m.late+1) (by omega)];refine So.both (Nat.le_refl _) (Nat.le_refl _) (.mk ?_);rw [<-hon];rfl
 ·rw [if_neg h,if_pos h2];refine So.both (Nat.le_refl _) (Nat.le_refl _) (.mk ?_);rw [<-hon];rfl
 ·rw [if_neg h,if_neg h2];refine So.is (KZ (k,(t,(mk,(ty,py)))) (by simp only;omega)) ?_;generalize hw:((m.at t,(k,(t,(mk,(ty,py))))):WT)=w;have hcl:(m.q.takeWhile (aW w)).length<=m.q.length:=(List.takeWhile_sublist _).length_le;refine So.join (P:=fun r=>r.1=((m.q.takeWhile (aW w)).length:Int)) (So.join (P:=fun r=>r=((m.q.takeWhile (aW w)).length:Int)) (So.loop (fun s=>∃a b:Nat,s=((b:Int),(a:Int))/\a<=(m.q.takeWhile (aW w)).length/\(m.q.takeWhile (aW w)).length<=b/\b<=m.q.length) (fun s=>(s.1-s.2).toNat) (fun s hs => ?_) ⟨0,m.q.length,rfl,by omega,hcl,by omega⟩) fun v hv => ?_) fun r hr => ?_
  ·obtain ⟨a,b,rfl,h3,h4,h5⟩:=hs;have e:Int.fdiv (IntKind.wrap .u64 (IntKind.wrap .i64 ((a:Int)+(b:Int)))) 2=(((a+b) / 2:Nat):Int):=by
    rw [aj (by omega),ade (by omega),Int.fdiv_eq_ediv_of_nonneg _ (by omega)];omega
   have e2:IntKind.wrap .i64 (((a+b) / 2:Nat):Int)=(((a+b) / 2:Nat):Int):=aj (by omega);refine So.dec (p:=(a:Int)<(b:Int)) (fun hab=>So.is rfl ?_) fun hab => .out (.inl (by show (a:Int)=_;omega));simp only [e,e2];have hh:(a+b) / 2<m.q.length:=by omega
   refine So.pos (by omega) (So.is (iI hh) (So.is (KY m.q[(a+b) / 2] w) (So.dec (fun h6 => ?_) fun h6 => ?_)))
   ·have:=(Lc hp hh).1 h6;rw [aj (n:=(((a+b) / 2:Nat):Int)+1) (by omega)];exact .inl ⟨⟨(a+b) / 2+1,b,by simp,by omega,by omega,by omega⟩,by simp only;omega⟩
   ·have:=mt (Lc hp hh).2 h6;exact .inl ⟨⟨a,(a+b) / 2,by simp only [e2],by omega,by omega,by omega⟩,by simp only [e2];omega⟩
  ·subst hv;refine So.dec (fun h3=>So.pos (by omega) ?_) fun h3 => .inl rfl;exact So.is (iI (by omega)) (So.is (KY _ _) (.inl rfl))
  ·obtain ⟨r,b⟩:=r;simp only at hr;subst hr;refine So.if (fun _=>So.is (ahL (w:=w) (q:=m.q) (by omega)) (So.both (Nat.le_refl _) (Nat.le_refl _) (.mk ?_))) fun h=>by simp at h
   simp only [List.take_length];rw [<-hon];rfl
theorem aeo {r:Jt} (h:NV r) {t:Int} (ht:0<=t/\t<=20000):0<=r.spr t/\r.spr t<=67108864:=by
 obtain ⟨_,hn,_,_,_,_,hs,htr,_⟩:=h;unfold Jt.spr Rn
 repeat' split
 all_goals omega
theorem adf {z:Int} {q:List WT} (hq:∀w∈q,0<=w.1/\w.1<=3000000) (hz:0<=z/\z<=2000000):0<=uq z q/\uq z q<=3000001:=by
 unfold uq;cases h:q.getLast? with
 | none=>simp only;omega
 | some w =>
   have:=hq w (List.mem_of_getLast? h);simp only;unfold bf;split<;>omega
theorem aas {a b:Int}:eU a b<=b/\(eU a b=a\/eU a b=b):=by unfold eU;split<;>omega
theorem zC {a b:Int}:b<=bf a b/\a<=bf a b/\(bf a b=a\/bf a b=b):=by unfold bf;split<;>omega
theorem Ug {r:Jt} (h:NV r) (hq:∀w∈r.q,0<=w.1/\w.1<=3000000) {k t:Int} (hk:0<=k/\k<=1000) (ht:0<=t/\t<=20000) (mk:Bool):NV (r.meas k t mk):=by
 have hs:=aeo h ht;obtain ⟨h1,h2,h3,h4,h5,h6,h7,h8,h9⟩:=h;have hM:=zC (a:=r.high) (b:=k);have hm:=aas (a:=r.le+r.spr t / 4) (b:=r.mo);have hz:=adf hq (z:=r.now+eU (r.le+r.spr t / 4) r.mo) (by omega);unfold Jt.meas;split
 ·exact ⟨h1,h2,by simp only;omega,ht,by simp only;omega,h6,hs,by simp only;omega,h9⟩
 ·exact ⟨h1,h2,h3,h4,by simp only;omega,h6,hs,by simp only;omega,h9⟩
theorem G8 {r:Jt} {k t:Int} {mk:Bool}:(r.meas k t mk).q=r.q/\(r.meas k t mk).on=true/\(r.meas k t mk).high=bf r.high k/\(r.meas k t mk).now=r.now/\(r.meas k t mk).late=r.late/\(r.meas k t mk).le=r.le/\(r.meas k t mk).mo=r.mo/\(r.meas k t mk).done=r.done/\(r.meas k t mk).twice=r.twice/\(r.meas k t mk).played=r.played:=by
 unfold Jt.meas;split<;>exact ⟨rfl,rfl,rfl,rfl,rfl,rfl,rfl,rfl,rfl,rfl⟩
theorem ahN {r:Jt} (h:NV r) (hp:r.q.Pairwise ER) (hq:∀w∈r.q,0<=w.1/\w.1<=3000000) {n k t:Int} {mk:Bool} {ty:Int} {py:List Int} (hn:0<=n/\n<=1000000) (hk:0<=k/\k<=1000) (ht:0<=t/\t<=20000) (hy:py.length<=1500) (pl:List WT) (hl:r.q.length<200) :
 ada r.le r.mo r.now r.on r.zero r.first r.high r.done r.spread r.transit r.q r.late r.twice r.played pl n k t mk ty py=some (((r.meas k t mk).take n k t mk ty py).1.t,(pl,(((r.meas k t mk).take n k t mk ty py).2,0))):=by
 have hM:=Ug h hq hk ht mk;have hs:=aeo h ht;have hT:=fun (m:Jt) (hm:m=r.meas k t mk)=>ahM (m:=m) (hh:=r.high) (k:=k) (by rw [hm];exact hM) (by rw [hm];exact G8.2.1) (by rw [hm];exact G8.2.2.1) (by rw [hm,G8.1];exact hp) (mk:=mk) (ty:=ty) hn ht hy pl;have hb:=h;obtain ⟨h1,h2,h3,h4,h5,h6,h7,h8,h9⟩:=hb;have hm:=aas (a:=r.le+r.spr t / 4) (b:=r.mo);have e1:IntKind.wrap .i64 (r.now-Int.fdiv t 8)=r.now-t / 8:=by rw [Int.fdiv_eq_ediv_of_nonneg _ (by omega),aj (by omega)]
 unfold ada jA;refine So.eq (So.neg (by omega) (So.is rfl (So.is rfl ?_)));simp only [e1,List.take_length];refine So.join (P:=fun s=>s=({r with spread:=r.spr t}:Jt).t) ?_ fun s hs => ?_
 ·refine So.if (fun hon=>So.is rfl ?_) fun hoff=>So.le (.inl ?_)
  ·have e2:IntKind.wrap .i64 (r.now-t / 8-r.transit)=r.now-t / 8-r.transit:=aj (by omega);have e3:IntKind.wrap .i64 (Int.tdiv (IntKind.wrap .i64 (r.spread+8)) 16)=(r.spread+8) / 16:=by
    rw [aj (n:=r.spread+8) (by omega),Int.tdiv_eq_ediv_of_nonneg (by omega),aj (by omega)]
   simp only [e2,e3];have hsp:r.spr t=r.spread+(Rn (r.now-t / 8-r.transit)-(r.spread+8) / 16):=by unfold Jt.spr;rw [if_pos hon]
   refine So.dec (fun hd=>So.le (.inl ?_)) fun hd=>So.le (.inl ?_)
   ·have e4:IntKind.wrap .i64 (0-(r.now-t / 8-r.transit)) = -(r.now-t / 8-r.transit):=by rw [aj (by omega)];omega
    rw [e4,aj (n := -(r.now-t / 8-r.transit)-(r.spread+8) / 16) (by omega),aj (by omega)];unfold Jt.t;simp only;rw [hsp];unfold Rn;rw [if_pos hd]
   ·rw [aj (n:=(r.now-t / 8-r.transit)-(r.spread+8) / 16) (by omega),aj (by omega)];unfold Jt.t;simp only;rw [hsp];unfold Rn;rw [if_neg hd]
  ·unfold Jt.t Jt.spr;simp only [hoff];rfl
 ·subst hs;refine So.join (P:=fun b=>b=true↔(r.on=false\/(mk=true/\k > r.high))) ?_ fun b hb => ?_
  ·refine So.if (fun hoff => .inl ?_) fun hon=>So.if (fun hmk => .inl ?_) fun hmk => .inl ?_
   ·have:r.on=false:=by simpa [Jt.t] using hoff
    simp [this]
   ·have:r.on=true:=by simpa [Jt.t] using hon
    simp only [decide_eq_true_eq,this,hmk];simp [Jt.t]
   ·have:r.on=true:=by simpa [Jt.t] using hon
    simp [this,hmk]
  ·refine So.if (fun hbt => ?_) fun hbf => ?_
   ·have hc:=hb.1 hbt;have hme:r.meas k t mk={r with on:=true,spread:=r.spr t,transit:=r.now-t / 8,high:=bf r.high k,first:=t,zero:=uq (r.now+eU (r.le+r.spr t / 4) r.mo) r.q}:=by unfold Jt.meas;rw [if_pos hc]
    have e5:IntKind.wrap .i64 (Int.tdiv (r.spr t) 4)=r.spr t / 4:=by rw [Int.tdiv_eq_ediv_of_nonneg hs.1,aj (by omega)]
    have e6:IntKind.wrap .i64 (r.le+r.spr t / 4)=r.le+r.spr t / 4:=aj (by omega);have e7:IntKind.wrap .i64 (r.now+eU (r.le+r.spr t / 4) r.mo)=r.now+eU (r.le+r.spr t / 4) r.mo:=aj (by omega);refine So.is rfl ?_;simp only [Jt.t,e5,e6,e7];refine So.dec (fun hl0 => ?_) fun hl0 => ?_
    ·have hlt:r.q.length-1<r.q.length:=by omega
     have e8:IntKind.wrap .i64 ((r.q.length:Int)-1)=((r.q.length-1:Nat):Int):=by rw [aj (by omega)];omega
     refine So.is rfl ?_;simp only [e8];refine So.pos (by omega) (So.is (iI hlt) (So.is rfl ?_));have hlast:r.q.getLast? = some r.q[r.q.length-1]:=by rw [List.getLast?_eq_getElem?,List.getElem?_eq_getElem hlt]
     have hw:=hq _ (List.getElem_mem hlt);rw [aj (n:=r.q[r.q.length-1].1+1) (by omega)];have hz:bf (r.now+eU (r.le+r.spr t / 4) r.mo) (r.q[r.q.length-1].1+1)=uq (r.now+eU (r.le+r.spr t / 4) r.mo) r.q:=by unfold uq;rw [hlast]
     rw [hz];exact ⟨_,(hT _ hme.symm).trans (by rw [hme]<;>rfl),rfl⟩
    ·have hz:r.now+eU (r.le+r.spr t / 4) r.mo=uq (r.now+eU (r.le+r.spr t / 4) r.mo) r.q:=by
      have:r.q=[]:=List.length_eq_zero_iff.1 (by omega);unfold uq;rw [this];rfl
     rw [hz];exact ⟨_,(hT _ hme.symm).trans (by rw [hme]<;>rfl),rfl⟩
   ·have hc:¬(r.on=false\/(mk=true/\k > r.high)):=fun hc=>by rw [hb.2 hc] at hbf;cases hbf
    have hme:r.meas k t mk={r with on:=true,spread:=r.spr t,transit:=r.now-t / 8,high:=bf r.high k}:=by unfold Jt.meas;rw [if_neg hc]
    exact ⟨_,(hT _ hme.symm).trans (by rw [hme]<;>rfl),rfl⟩
end Go.Proofs.YtigfeinnobfflaaGreat
