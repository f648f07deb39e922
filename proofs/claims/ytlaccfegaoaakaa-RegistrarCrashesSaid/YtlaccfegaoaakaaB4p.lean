import Derived.Test.YtlaccfegaoaakaaXBp
import Derived.Test.YtlaccfegaoaakaaHBp
import Derived.Test.YtlaccfegaoaakaaProg
set_option linter.unusedSectionVars false
set_option linter.unusedSimpArgs false
set_option linter.unusedVariables false
/- Short words for trees. -/
namespace Go.Proofs.Ytlaccfegaoaakaa
open Go.RowKit
abbrev lI {α : Type} (l : List α) : Int := ((l.length : Nat) : Int)
abbrev iR {α : Type} (v : Int) (l : List α) : Bool := decide (((0 : Int) ≤ v) ∧ (v < lI l))
abbrev lE {α : Type} (l : List α) : Bool := decide (l.length ≤ l.length)
abbrev lQ {α β : Type} (a : List α) (b : List β) : Bool := decide (a.length = b.length)
abbrev rO {α : Type} (l : List α) (k : Nat) : Bool := decide ((l.length * k) ≤ 140737488355328)
abbrev tA {α : Type} (l : List α) : List α := List.take l.length l
abbrev wI (n : Int) : Int := Go.IntKind.wrap .i64 n
abbrev z0 : Int := 0
abbrev z1 : Int := 1
abbrev LU := List UInt8
abbrev LN := List Int
abbrev dI : CS := .dat (.int .i64)
abbrev dS : CS := .dat .str
abbrev dO : CS := .dat .bool
abbrev dY : CS := .dat (.list (.int .u8))
abbrev dE : CS := .dat (.int .u8)
abbrev uI6 : U := .int .i64
abbrev uI8 : U := .int .u8
end Go.Proofs.Ytlaccfegaoaakaa

namespace Go.Proofs.Ytlaccfegaoaakaa
open Go.RowKit
theorem bindO_some {α β:Type} (a:α) (f:α→Option β):bindO (some a) f=f a:=rfl
theorem bindO_none {α β:Type} (f:α→Option β):bindO none f=none:=rfl
theorem joinO_inl {α β:Type} (a:α) (f:α→Option β):joinO (some (.inl a)) f=f a:=rfl
theorem joinO_inr {α β:Type} (b:β) (f:α→Option β):joinO (some (.inr b)) f=some b:=rfl
theorem joinO_none {α β:Type} (f:α→Option β):joinO none f=none:=rfl
theorem outO_some {α β:Type} (b:β):(outO (some b):Option (α ⊕ β))=some (.inr b):=rfl
theorem outO_none {α β:Type}:(outO none:Option (α ⊕ β))=none:=rfl
theorem cond_ite {α:Type} (p:Prop) [Decidable p] (a b:α):(bif decide p then a else b)=if p then a else b:=by by_cases h:p<;>simp [h]
theorem cond_and {α:Type} (p q:Bool) (a b:α):(bif (p&&q) then a else b)=bif p then (bif q then a else b) else b:=by cases p<;>rfl
theorem cond_or {α:Type} (p q:Bool) (a b:α):(bif (p||q) then a else b)=bif p then a else (bif q then a else b):=by cases p<;>rfl
theorem cond_not {α:Type} (p:Bool) (a b:α):(bif (!p) then a else b)=bif p then b else a:=by cases p<;>rfl
theorem and_dec (p q:Prop) [Decidable p] [Decidable q]:(decide p&&decide q)=decide (p∧q):=by by_cases h:p<;>by_cases k:q<;>simp [h,k]
theorem bindO_eq {α β:Type} {x:Option α} {f:α→Option β} {a:α} {r:Option β} (h:x=some a) (k:f a=r):bindO x f=r:=by rw [h];exact k
theorem joinO_eq {α β:Type} {x:Option (α ⊕ β)} {f:α→Option β} {a:α} {r:Option β} (h:x=some (.inl a)) (k:f a=r):joinO x f=r:=by rw [h];exact k
theorem joinO_eqr {α β:Type} {x:Option (α ⊕ β)} {f:α→Option β} {b:β} (h:x=some (.inr b)):joinO x f=some b:=by rw [h];rfl
theorem get_nat {α:Type} {l:List α} {i:Nat} (h1:i<l.length):l[((i:Nat):Int).toNat]? = some l[i]:=by rw [Int.toNat_natCast];exact List.getElem?_eq_getElem h1
theorem loopO_steps {υ β:Type} {body:υ→Option (υ ⊕ β)} (st:Nat→υ):∀(n:Nat) {r:β},(∀i,i<n→body (st i)=some (.inl (st (i+1))))→body (st n)=some (.inr r)→loopO body (st 0)=some r:=by
 intro n r h he
 suffices hs:∀k,k≤n→loopO body (st (n-k))=some r by
  have:=hs n (Nat.le_refl n)
  rwa [Nat.sub_self] at this
 intro k
 induction k with
 | zero=>intro _;rw [Nat.sub_zero,loopO_eq,he]
 | succ k ih =>
   intro hk
   rw [loopO_eq,h (n-(k+1)) (by omega)]
   simp only
   rw [show n-(k+1)+1=n-k from by omega]
   exact ih (by omega)
theorem loopO_from {υ β:Type} {body:υ→Option (υ ⊕ β)} {x:υ} (st:Nat→υ) (n:Nat) {r:β} (h0:st 0=x) (h:∀i,i<n→body (st i)=some (.inl (st (i+1)))) (he:body (st n)=some (.inr r)):loopO body x=some r:=by
 rw [←h0];exact loopO_steps st n h he
theorem least {p:Nat→Prop} (h:∃n,p n):∃n,p n∧∀m,m<n→¬p m:=by
 obtain ⟨n,hn⟩:=h
 induction n using Nat.strongRecOn with
 | _ n ih =>
   by_cases hx:∃m,m<n∧p m
   ·obtain ⟨m,h1,h2⟩:=hx
    exact ih m h1 h2
   ·exact ⟨n,hn,fun m hm hp=>hx ⟨m,hm,hp⟩⟩
theorem loopO_search {υ β:Type} {body:υ→Option (υ ⊕ β)} (st:Nat→υ) (m:Nat) (bad:Nat→Prop) {r0 r1:β} {x:υ} (hx:st 0=x) (h1:∀i,i<m→¬bad i→body (st i)=some (.inl (st (i+1)))) (h2:∀i,i<m→bad i→body (st i)=some (.inr r1)) (h3:body (st m)=some (.inr r0)) :
 ((∃i,i<m∧bad i)∧loopO body x=some r1)∨((¬ ∃i,i<m∧bad i)∧loopO body x=some r0):=by
 by_cases h:∃i,i<m∧bad i
 ·left
  refine ⟨h,?_⟩
  obtain ⟨k,⟨k1,k2⟩,k3⟩:=least h
  exact loopO_from st k hx (fun i hi=>h1 i (by omega) fun hb=>k3 i hi ⟨by omega,hb⟩) (h2 k k1 k2)
 ·right
  exact ⟨h,loopO_from st m hx (fun i hi=>h1 i hi fun hb=>h ⟨i,hi,hb⟩) h3⟩
theorem loopO_searchJ {υ α β:Type} {body:υ→Option (υ ⊕ (α ⊕ β))} {f:α→Option β} {x:υ} (Q:Option β→Prop) (st:Nat→υ) (m:Nat) (bad:Nat→Prop) (r0 r1:α ⊕ β) (hx:st 0=x) (h1:∀i,i<m→¬bad i→body (st i)=some (.inl (st (i+1)))) (h2:∀i,i<m→bad i→body (st i)=some (.inr r1)) (h3:body (st m)=some (.inr r0))
 (k1:(∃i,i<m∧bad i)→Q (joinO (some r1) f)) (k0:(¬ ∃i,i<m∧bad i)→Q (joinO (some r0) f)):Q (joinO (loopO body x) f):=by
 rcases loopO_search st m bad hx h1 h2 h3 with ⟨h,e⟩ | ⟨h,e⟩
 ·rw [e];exact k1 h
 ·rw [e];exact k0 h
theorem get_D {α:Type} {l:List α} {i:Nat} (d:α) (h1:i<l.length):l[((i:Nat):Int).toNat]? = some (l.getD i d):=by rw [get_nat h1,List.getD_eq_getElem?_getD,List.getElem?_eq_getElem h1];rfl
theorem get_D' {α:Type} {l:List α} {i:Nat} (d:α) (h1:i<l.length):l[i]? = some (l.getD i d):=by rw [List.getD_eq_getElem?_getD,List.getElem?_eq_getElem h1];rfl
theorem getD_get {α:Type} {l:List α} {i:Nat} (d:α) (h1:i<l.length):l.getD i d=l[i]:=by rw [List.getD_eq_getElem?_getD,List.getElem?_eq_getElem h1];rfl
theorem loopO_sim {υ1 υ2 β1 β2:Type} {b1:υ1→Option (υ1 ⊕ β1)} {b2:υ2→Option (υ2 ⊕ β2)} (R:υ1→υ2→Prop) (S:β1→β2→Prop)
 (h:∀x y,R x y→(∃x' y',b1 x=some (.inl x')∧b2 y=some (.inl y')∧R x' y')∨(∃r s,b1 x=some (.inr r)∧b2 y=some (.inr s)∧S r s)) {x:υ1} {y:υ2} (hxy:R x y) {s:β2} (hs:loopO b2 y=some s):∃r,loopO b1 x=some r∧S r s:=by
 have hr:=loopO_iff.1 hs
 clear hs
 induction hr generalizing x with
 | done hd =>
   rcases h _ _ hxy with ⟨x',y',h1,h2,h3⟩ | ⟨r,s',h1,h2,h3⟩
   ·rw [hd] at h2;cases h2
   ·rw [hd] at h2;cases h2
    exact ⟨r,by rw [loopO_eq,h1],h3⟩
 | step hd _ ih =>
   rcases h _ _ hxy with ⟨x',y',h1,h2,h3⟩ | ⟨r,s',h1,h2,h3⟩
   ·rw [hd] at h2;cases h2
    obtain ⟨r,q1,q2⟩:=ih h3
    exact ⟨r,by rw [loopO_eq,h1];exact q1,q2⟩
   ·rw [hd] at h2;cases h2
def SimS {υ1 υ2 α β:Type} (R:υ1→υ2→Prop) (k:α→Option β) (o1:Option (υ1 ⊕ (α ⊕ β))) (o2:Option (υ2 ⊕ β)):Prop :=
 (∃x y,o1=some (.inl x)∧o2=some (.inl y)∧R x y)∨∃r s,o1=some (.inr r)∧o2=some (.inr s)∧joinO (some r) k=some s
section
variable {υ1 υ2 α β γ:Type} {R:υ1→υ2→Prop} {k:α→Option β} {o2:Option (υ2 ⊕ β)}
theorem SimS.next {x:υ1} {y:υ2} (h:R x y):SimS R k (some (.inl x)) (some (.inl y)) := .inl ⟨x,y,rfl,rfl,h⟩
theorem SimS.stop {r:α ⊕ β} {s:β} (h:joinO (some r) k=some s):SimS R k (some (.inr r)) (some (.inr s)) := .inr ⟨r,s,rfl,rfl,h⟩
theorem SimS.join {x:Option (γ ⊕ (υ1 ⊕ (α ⊕ β)))} {f:γ→Option (υ1 ⊕ (α ⊕ β))} (a:γ) (h:x=some (.inl a)) (hk:SimS R k (f a) o2):SimS R k (joinO x f) o2:=by rw [h];exact hk
theorem SimS.bind {x:Option γ} {f:γ→Option (υ1 ⊕ (α ⊕ β))} (a:γ) (h:x=some a) (hk:SimS R k (f a) o2):SimS R k (bindO x f) o2:=by rw [h];exact hk
end
theorem loopO_simG {υ1 υ2 α β:Type} {b1:υ1→Option (υ1 ⊕ (α ⊕ β))} {b2:υ2→Option (υ2 ⊕ β)} {k:α→Option β} (R:υ1→υ2→Prop)
 (h:∀x y,R x y→SimS R k (b1 x) (b2 y)) {x:υ1} {y:υ2} (hxy:R x y) {s:β} (hs:loopO b2 y=some s):joinO (loopO b1 x) k=some s:=by
 obtain ⟨r,h1,h2⟩:=loopO_sim R (fun r s=>joinO (some r) k=some s) h hxy hs
 rw [h1];exact h2
theorem loopO_post {υ β:Type} {body:υ→Option (υ ⊕ β)} (I:υ→Prop) (Q:β→Prop) (μ:υ→Nat) (h:∀x,I x→(∃b,body x=some (.inr b)∧Q b)∨∃y,body x=some (.inl y)∧I y∧μ y<μ x) {x:υ} (hx:I x):∃r,loopO body x=some r∧Q r:=by
 suffices hs:∀n x,μ x≤n→I x→∃r,loopO body x=some r∧Q r from hs _ x (Nat.le_refl _) hx
 intro n
 induction n with
 | zero =>
   intro x hm hx
   rcases h x hx with ⟨b,h1,h2⟩ | ⟨y,h1,h2,h3⟩
   ·exact ⟨b,by rw [loopO_eq,h1],h2⟩
   ·omega
 | succ n ih =>
   intro x hm hx
   rcases h x hx with ⟨b,h1,h2⟩ | ⟨y,h1,h2,h3⟩
   ·exact ⟨b,by rw [loopO_eq,h1],h2⟩
   ·obtain ⟨r,hr,hq⟩:=ih y (by omega) h2
    exact ⟨r,by rw [loopO_eq,h1];exact hr,hq⟩
def PostS {υ β:Type} (I:υ→Prop) (Q:β→Prop) (μ:υ→Nat) (m:Nat) (o:Option (υ ⊕ β)):Prop:=(∃b,o=some (.inr b)∧Q b)∨∃y,o=some (.inl y)∧I y∧μ y<m
section
variable {υ β γ:Type} {I:υ→Prop} {Q:β→Prop} {μ:υ→Nat} {m:Nat}
theorem PostS.next {y:υ} (h:I y) (k:μ y<m):PostS I Q μ m (some (.inl y)) := .inr ⟨y,rfl,h,k⟩
theorem PostS.stop {b:β} (h:Q b):PostS I Q μ m (some (.inr b)) := .inl ⟨b,rfl,h⟩
theorem PostS.join {x:Option (γ ⊕ (υ ⊕ β))} {f:γ→Option (υ ⊕ β)} (a:γ) (h:x=some (.inl a)) (hk:PostS I Q μ m (f a)):PostS I Q μ m (joinO x f):=by rw [h];exact hk
theorem PostS.bind {x:Option γ} {f:γ→Option (υ ⊕ β)} (a:γ) (h:x=some a) (hk:PostS I Q μ m (f a)):PostS I Q μ m (bindO x f):=by rw [h];exact hk
theorem loopO_postG {α β:Type} {body:υ→Option (υ ⊕ (α ⊕ β))} {k:α→Option β} (I:υ→Prop) (μ:υ→Nat) (P:Option β→Prop) (h:∀x,I x→PostS I (fun r=>P (joinO (some r) k)) μ (μ x) (body x)) {x:υ} (hx:I x):P (joinO (loopO body x) k):=by
 obtain ⟨r,h1,h2⟩:=loopO_post I (fun r=>P (joinO (some r) k)) μ h hx
 rw [h1];exact h2
end
theorem layL_all {α:Type} {f l:List α} (h:l.length=f.length):layL f 0 l=l:=by
 unfold layL
 rw [List.take_zero,List.nil_append,Nat.zero_add,h,List.drop_length,List.append_nil]
theorem wrap_i64' {n:Int} (h : -9223372036854775808≤n∧n≤9223372036854775807):IntKind.wrap .i64 n=n:=wrap_i64 h.1 h.2
theorem wr_u8 (n:Int):IntKind.wrap .u8 n=n % 256:=by
 show (if (false&&decide (n % 256≥128))=true then n % 256-256 else n % 256)=_
 simp
theorem wr_u32 (n:Int):IntKind.wrap .u32 n=n % 4294967296:=by
 show (if (false&&decide (n % 4294967296≥2147483648))=true then n % 4294967296-4294967296 else n % 4294967296)=_
 simp
theorem wr_u64 (n:Int):IntKind.wrap .u64 n=n % 18446744073709551616:=by
 show (if (false&&decide (n % 18446744073709551616≥9223372036854775808))=true then n % 18446744073709551616-18446744073709551616 else n % 18446744073709551616)=_
 simp
def Bytes (l:List Int):Prop:=∀x∈l,0≤x∧x≤255
theorem Bytes.app {a b:List Int} (h:Bytes a) (k:Bytes b):Bytes (a++b):=fun x hx=>by
 rcases List.mem_append.1 hx with e | e
 ·exact h x e
 ·exact k x e
theorem Bytes.take {l:List Int} (h:Bytes l) (n:Nat):Bytes (l.take n):=fun x hx=>h x (List.mem_of_mem_take hx)
theorem Bytes.drop {l:List Int} (h:Bytes l) (n:Nat):Bytes (l.drop n):=fun x hx=>h x (List.mem_of_mem_drop hx)
theorem Bytes.get {l:List Int} (h:Bytes l) {i:Nat} (hi:i<l.length):0≤l[i]∧l[i]≤255:=h _ (List.getElem_mem hi)
theorem Bytes.getD {l:List Int} (h:Bytes l) (i:Nat):0≤l.getD i 0∧l.getD i 0≤255:=by
 rw [List.getD_eq_getElem?_getD]
 cases hi:l[i]? with
 | none=>simp
 | some x=>exact h x (List.mem_of_getElem? hi)
theorem or_bytes {x y:Int} (hx:0≤x∧x≤255) (hy:0≤y∧y≤255):IntKind.wrap .i64 (((BitVec.toNat ((BitVec.ofInt 64 (IntKind.wrap .i64 ((IntKind.wrap .i64 x)*(256:Int)))) ||| (BitVec.ofInt 64 (IntKind.wrap .i64 y)))):Nat):Int)=256*x+y:=by
 obtain ⟨a,rfl⟩:=Int.eq_ofNat_of_zero_le hx.1
 obtain ⟨b,rfl⟩:=Int.eq_ofNat_of_zero_le hy.1
 rw [wrap_i64' (n:=(a:Int)) (by omega),wrap_i64' (n:=(b:Int)) (by omega),wrap_i64' (n:=(a:Int)*256) (by omega)]
 rw [BitVec.toNat_or,show ((a:Int)*256)=((a*256:Nat):Int) from by omega,BitVec.ofInt_natCast,BitVec.ofInt_natCast,BitVec.toNat_ofNat,BitVec.toNat_ofNat,Nat.mod_eq_of_lt (by omega),Nat.mod_eq_of_lt (by omega)]
 have:=Nat.shiftLeft_add_eq_or_of_lt (i:=8) (b:=b) (by omega) a
 rw [Nat.shiftLeft_eq] at this
 rw [←this,wrap_i64' (by omega)]
 omega
theorem bytesU_length (l:List Int):(bytesU l).length=l.length:=by unfold bytesU;rw [List.length_map]
theorem bytesU_inj {a b:List Int} (ha:Bytes a) (hb:Bytes b):bytesU a=bytesU b↔a=b:=by
 constructor
 ·intro h
  have hl:a.length=b.length:=by rw [←bytesU_length a,←bytesU_length b,h]
  refine List.ext_getElem hl fun i h1 h2 => ?_
  have:=congrArg (fun l=>l[i]?) h
  simp only [bytesU,List.getElem?_map,List.getElem?_eq_getElem h1,List.getElem?_eq_getElem h2,Option.map_some,Option.some.injEq] at this
  have e:=congrArg UInt8.toNat this
  rw [UInt8.toNat_ofNat',UInt8.toNat_ofNat'] at e
  have:=ha.get h1
  have:=hb.get h2
  omega
 ·rintro rfl;rfl
end Go.Proofs.Ytlaccfegaoaakaa

namespace Go.Proofs.Ytlaccfegaoaakaa
open Go.RowKit
theorem get_bz {α β:Type} {l:List α} {v:Int} (d:α) (f:α→Option β) (h:0≤v∧v<(l.length:Int)):bindO l[Int.toNat v]? f=f (l.getD v.toNat d):=by rw [get_D' d (by omega)];rfl
theorem get_at {α:Type} {l:List α} {i:Nat} (d:α) (h:i<l.length):∃x,l.getD i d=x∧∀ {β:Type} (f:α→Option β),bindO l[Int.toNat (i:Int)]? f=f x:=⟨_,rfl,fun f=>get_bz d f (by omega)⟩
def Is (o:Option Bool) (P:Prop):Prop:=(P∧o=some true)∨(¬P∧o=some false)
theorem Is.t {P:Prop} (h:P):Is (some true) P := .inl ⟨h,rfl⟩
theorem Is.f {P:Prop} (h:¬P):Is (some false) P := .inr ⟨h,rfl⟩
theorem Is.d {P Q:Prop} [Decidable Q] (h:Q↔P):Is (some (decide Q)) P:=by
 by_cases k:Q
 ·exact .inl ⟨h.1 k,by rw [decide_eq_true k]⟩
 ·exact .inr ⟨fun p=>k (h.2 p),by rw [decide_eq_false k]⟩
theorem Is.iff {o:Option Bool} {P Q:Prop} (h:Is o P) (k:P↔Q):Is o Q:=by
 rcases h with ⟨h,e⟩ | ⟨h,e⟩
 ·exact .inl ⟨k.1 h,e⟩
 ·exact .inr ⟨fun q=>h (k.2 q),e⟩
theorem Is.some {o:Option Bool} {P:Prop} (h:Is o P):∃b,o=Option.some b:=by
 rcases h with ⟨_,e⟩ | ⟨_,e⟩<;>exact ⟨_,e⟩
theorem loop_first {β:Type} {body:Int→Option (Int ⊕ β)} (n:Nat) (p:Nat→Prop) (g:Nat→β) (r0:β) (h1:∀i:Nat,i<n→¬p i→body (i:Int)=some (.inl ((i+1:Nat):Int))) (h2:∀i:Nat,i<n→p i→body (i:Int)=some (.inr (g i))) (h3:body (n:Int)=some (.inr r0)) :
 (∃i,i<n∧p i∧(∀j,j<i→¬p j)∧loopO body (0:Int)=some (g i))∨((∀i,i<n→¬p i)∧loopO body (0:Int)=some r0):=by
 by_cases h:∃i,i<n∧p i
 ·obtain ⟨i,⟨k1,k2⟩,k3⟩:=least h
  exact .inl ⟨i,k1,k2,fun j hj hp=>k3 j hj ⟨by omega,hp⟩,loopO_from (fun i=>(i:Int)) i rfl (fun j hj=>h1 j (by omega) fun hp=>k3 j hj ⟨by omega,hp⟩) (h2 i k1 k2)⟩
 ·exact .inr ⟨fun i hi hp=>h ⟨i,hi,hp⟩,loopO_from (fun i=>(i:Int)) n rfl (fun j hj=>h1 j hj fun hp=>h ⟨j,hj,hp⟩) h3⟩
theorem getD_take {α:Type} (l:List α) (d:α) {i k:Nat} (h:k<i):(l.take i).getD k d=l.getD k d:=by
 rw [List.getD_eq_getElem?_getD,List.getD_eq_getElem?_getD,List.getElem?_take,if_pos h]
theorem take_snoc {α:Type} (l:List α) (d:α) {i:Nat} (h:i<l.length):l.take (i+1)=l.take i++[l.getD i d]:=by
 rw [List.take_add_one,List.getElem?_eq_getElem h,getD_get d h];rfl
theorem drop_cons {α:Type} (l:List α) (d:α) {i:Nat} (h:i<l.length):l.drop i=l.getD i d::l.drop (i+1):=by
 rw [List.drop_eq_getElem_cons h,getD_get d h]
theorem SDl:(∀ {α β:Type} (a:α) (f:α→Option β),bindO (some a) f=f a)∧(∀ {α β:Type} (f:α→Option β),bindO none f=none)∧(∀ {α β:Type} (a:α) (f:α→Option β),joinO (some (.inl a)) f=f a)∧(∀ {α β:Type} (b:β) (f:α→Option β),joinO (some (.inr b)) f=some b)∧(∀ {α β:Type} (f:α→Option β),joinO none f=none)∧(∀ {α β:Type} (b:β),(outO (some b):Option (α ⊕ β))=some (.inr b))∧(∀ {α β:Type},(outO none:Option (α ⊕ β))=none)∧(∀ {α:Type} (a b:α),(bif true then a else b)=a)∧(∀ {α:Type} (a b:α),(bif false then a else b)=b)∧(∀ {α:Type} (p q:Bool) (a b:α),(bif (p&&q) then a else b)=bif p then (bif q then a else b) else b)∧(∀ {α:Type} (p q:Bool) (a b:α),(bif (p||q) then a else b)=bif p then a else (bif q then a else b))∧(∀ {α:Type} (p:Bool) (a b:α),(bif (!p) then a else b)=bif p then b else a)∧(∀ {α:Type} (p:Prop) [Decidable p] (a b:α),(bif decide p then a else b)=if p then a else b)∧(∀ {α:Type} (p:Prop) [Decidable p] (a b:α),p→(if p then a else b)=a)∧(∀ {α:Type} (p:Prop) [Decidable p] (a b:α),¬p→(if p then a else b)=b) :=
 ⟨bindO_some,bindO_none,joinO_inl,joinO_inr,joinO_none,outO_some,outO_none,fun _ _=>rfl,fun _ _=>rfl,cond_and,cond_or,cond_not,cond_ite,fun _ _ _ _ h=>if_pos h,fun _ _ _ _ h=>if_neg h⟩
theorem SDr:(∀ {α:Type} (l:List α),List.take l.length l=l)∧(∀n:Nat,(n≤n)=True)∧(!true)=false∧(!false)=true∧(∀ {α:Type} (a b:α),(if True then a else b)=a)∧(∀ {α:Type} (a b:α),(if False then a else b)=b) :=
 ⟨fun l=>List.take_length,fun n=>eq_true (Nat.le_refl n),rfl,rfl,fun _ _=>if_true ..,fun _ _=>if_false ..⟩
theorem LNl:(∀ {α:Type} (l:List α) (i:Nat) (a:α),(l.set i a).length=l.length)∧(∀ {α:Type} (l m:List α),(l++m).length=l.length+m.length)∧(∀ {α:Type} (a:α) (l:List α),(a::l).length=l.length+1)∧(∀ {α:Type},([]:List α).length=0)∧(∀ {α:Type} (l:List α),[]++l=l)∧(∀ {α:Type} (n:Nat) (l:List α),(l.take n).length=min n l.length)∧(∀ {α:Type} (n:Nat) (l:List α),(l.drop n).length=l.length-n) :=
 ⟨fun _ _ _=>List.length_set,fun _ _=>List.length_append,fun _ _=>rfl,rfl,fun _=>rfl,fun _ _=>List.length_take,fun _ _=>List.length_drop⟩
end Go.Proofs.Ytlaccfegaoaakaa

namespace Go.Proofs.Ytlaccfegaoaakaa
open Go.RowKit
section
variable {α β:Type}
theorem getA (P:List α) (x:α) (Q:List α) {k:Nat} (h:k=P.length):(P++x::Q)[k]? = some x:=by
 subst h;rw [List.getElem?_append_right (Nat.le_refl _),Nat.sub_self];rfl
theorem getAb (P:List α) (x:α) (Q:List α) {k:Int} (f:α→Option β) (h:k=(P.length:Int)):bindO (P++x::Q)[Int.toNat k]? f=f x:=by
 subst h;rw [Int.toNat_natCast,getA P x Q rfl];rfl
theorem setA (P:List α) (x y:α) (Q:List α) {k:Nat} (h:k=P.length):(P++x::Q).set k y=P++y::Q:=by
 subst h;rw [List.set_append_right _ _ (Nat.le_refl _),Nat.sub_self];rfl
theorem sw_get1 (P Q R:List α) (x y:α) {k:Int} (f:α→Option β) (h:k=(P.length:Int)):bindO (P++x::(Q++y::R))[Int.toNat k]? f=f x:=getAb P x _ f h
theorem sw_get2 (P Q R:List α) (x y:α) {k:Int} (f:α→Option β) (h:k=((P.length+1+Q.length:Nat):Int)):bindO (P++x::(Q++y::R))[Int.toNat k]? f=f y:=by
 have e:P++x::(Q++y::R)=(P++x::Q)++y::R:=by simp
 rw [e]
 exact getAb _ y R f (by rw [h];simp;omega)
theorem sw_set1 (P Q R:List α) (x y z:α) {k:Int} (h:k=(P.length:Int)):(P++x::(Q++y::R)).set (Int.toNat k) z=P++z::(Q++y::R):=setA P x z _ (by omega)
theorem sw_set2 (P Q R:List α) (x y z:α) {k:Int} (h:k=((P.length+1+Q.length:Nat):Int)):(P++x::(Q++y::R)).set (Int.toNat k) z=P++x::(Q++z::R):=by
 have e:P++x::(Q++y::R)=(P++x::Q)++y::R:=by simp
 rw [e,setA (P++x::Q) y z R (by simp;omega)]
 simp
theorem ad_get1 (P R:List α) (x y:α) {k:Int} (f:α→Option β) (h:k=(P.length:Int)):bindO (P++x::y::R)[Int.toNat k]? f=f x:=getAb P x _ f h
theorem ad_get2 (P R:List α) (x y:α) {k:Int} (f:α→Option β) (h:k=(P.length:Int)+1):bindO (P++x::y::R)[Int.toNat k]? f=f y:=sw_get2 P [] R x y f (by rw [h];simp)
theorem ad_set1 (P R:List α) (x y z:α) {k:Int} (h:k=(P.length:Int)):(P++x::y::R).set (Int.toNat k) z=P++z::y::R:=setA P x z _ (by omega)
theorem ad_set2 (P R:List α) (x y z:α) {k:Int} (h:k=(P.length:Int)+1):(P++x::y::R).set (Int.toNat k) z=P++x::z::R:=sw_set2 P [] R x y z (by rw [h];simp)
end
theorem bin_search {δ:Type} {body:(Int×Int)→Option ((Int×Int) ⊕ (Int ⊕ δ))} (p:Int→Prop) (lo0 hi0:Int) (h0:0≤lo0) (h1:hi0≤1000000000)
 (hend:∀hi lo,lo0≤lo→hi≤hi0→¬lo<hi→body (hi,lo)=some (.inr (.inl lo)))
 (hyes:∀hi lo,lo0≤lo→hi≤hi0→lo<hi→p ((lo+hi) / 2)→body (hi,lo)=some (.inl (hi,(lo+hi) / 2+1)))
 (hno:∀hi lo,lo0≤lo→hi≤hi0→lo<hi→¬p ((lo+hi) / 2)→body (hi,lo)=some (.inl ((lo+hi) / 2,lo))) :
 ∀(n:Nat) (hi lo:Int),(hi-lo).toNat≤n→lo0≤lo→lo≤hi→hi≤hi0→(lo=lo0∨p (lo-1))→(hi=hi0∨¬p hi) →
  ∃r,loopO body (hi,lo)=some (.inl r)∧lo0≤r∧r≤hi0∧(r=lo0∨p (r-1))∧(r=hi0∨¬p r)
 | n,hi,lo,hn,g1,g2,g3,g4,g5=>by
   by_cases hlt:lo<hi
   ·cases n with
    | zero=>omega
    | succ n =>
      by_cases hp:p ((lo+hi) / 2)
      ·obtain ⟨r,k1,k2⟩:=bin_search p lo0 hi0 h0 h1 hend hyes hno n hi ((lo+hi) / 2+1) (by omega) (by omega) (by omega) g3 (.inr (by rw [show (lo+hi) / 2+1-1=(lo+hi) / 2 by omega];exact hp)) g5
       exact ⟨r,by rw [loopO_eq,hyes hi lo g1 g3 hlt hp];exact k1,k2⟩
      ·obtain ⟨r,k1,k2⟩:=bin_search p lo0 hi0 h0 h1 hend hyes hno n ((lo+hi) / 2) lo (by omega) g1 (by omega) (by omega) g4 (.inr hp)
       exact ⟨r,by rw [loopO_eq,hno hi lo g1 g3 hlt hp];exact k1,k2⟩
   ·refine ⟨lo,by rw [loopO_eq,hend hi lo g1 g3 hlt],g1,by omega,g4,?_⟩
    rw [show lo=hi by omega];exact g5
section
variable {α:Type}
structure Weak (S:α→Prop) (lt:α→α→Prop):Prop where
 asym:∀x y,S x→S y→lt x y→¬lt y x
 tr:∀x y z,S x→S y→S z→¬lt y x→¬lt z y→¬lt z x
abbrev Srt (lt:α→α→Prop) (l:List α):Prop:=l.Pairwise fun x y=>¬lt y x
variable {S:α→Prop} {lt:α→α→Prop}
theorem srt_app {a b:List α} (ha:Srt lt a) (hb:Srt lt b) (h:∀x∈a,∀y∈b,¬lt y x):Srt lt (a++b):=List.pairwise_append.2 ⟨ha,hb,h⟩
theorem srt_last (W:Weak S lt) {a:List α} {z:α} (h:Srt lt (a++[z])) (hS:∀x∈a++[z],S x) {y:α} (hy:S y) (hz:¬lt y z):∀x∈a++[z],¬lt y x:=fun x hx=>by
 rcases List.mem_append.1 hx with g | g
 ·exact W.tr x z y (hS x hx) (hS z (by simp)) hy ((List.pairwise_append.1 h).2.2 x g z (by simp)) hz
 ·rw [List.mem_singleton.1 g];exact hz
theorem srt_first (W:Weak S lt) {a:List α} {z:α} (h:Srt lt (z::a)) (hS:∀x∈z::a,S x) {y:α} (hy:S y) (hz:¬lt z y):∀x∈z::a,¬lt x y:=fun x hx=>by
 rcases List.mem_cons.1 hx with rfl | g
 ·exact hz
 ·exact W.tr y z x hy (hS z (by simp)) (hS x hx) hz ((List.pairwise_cons.1 h).1 x g)
theorem split_at (l:List α) {k:Nat} (h:k≤l.length):∃a b,l=a++b∧a.length=k:=⟨l.take k,l.drop k,(List.take_append_drop k l).symm,by rw [List.length_take];omega⟩
theorem last_of {l:List α} (h:l≠[]):∃a z,l=a++[z]:=⟨l.dropLast,l.getLast h,(List.dropLast_concat_getLast h).symm⟩
theorem merge_parts {X1 X2 Y1 Y2 Z1 Z2:List α} (W:Weak S lt) (hX:Srt lt (X1++X2)) (hY:Srt lt (Y1++Y2)) (hz1:Z1.Perm (X1++Y1)) (hz2:Z2.Perm (X2++Y2)) (s1:Srt lt Z1) (s2:Srt lt Z2)
 (c1:∀x∈X1,∀y∈Y2,¬lt y x) (c2:∀y∈Y1,∀x∈X2,¬lt x y):(Z1++Z2).Perm (X1++X2++(Y1++Y2))∧Srt lt (Z1++Z2):=by
 refine ⟨?_,srt_app s1 s2 fun x hx y hy => ?_⟩
 ·refine (hz1.append hz2).trans ?_
  rw [List.append_assoc,List.append_assoc]
  refine List.Perm.append_left X1 ?_
  rw [←List.append_assoc,←List.append_assoc]
  exact List.Perm.append_right Y2 List.perm_append_comm
 ·have hx:=hz1.mem_iff.1 hx
  have hy:=hz2.mem_iff.1 hy
  rcases List.mem_append.1 hx with g | g<;>rcases List.mem_append.1 hy with k | k
  ·exact (List.pairwise_append.1 hX).2.2 x g y k
  ·exact c1 x g y k
  ·exact c2 x g y k
  ·exact (List.pairwise_append.1 hY).2.2 x g y k
def Ch (lt:α→α→Prop) (s:Nat):List (List α)→Prop
 | []=>True
 | [x]=>0<x.length∧x.length≤s∧Srt lt x
 | x::y::r=>x.length=s∧Srt lt x∧Ch lt s (y::r)
def Full (lt:α→α→Prop) (s:Nat) (L:List (List α)):Prop:=∀x∈L,x.length=s∧Srt lt x
theorem full_ch {s:Nat} (hs:0<s):∀ {L:List (List α)} {x:List α},Full lt s L→0<x.length→x.length≤s→Srt lt x→Ch lt s (L++[x])
 | [],x,h,h1,h2,h3=>⟨h1,h2,h3⟩
 | [y],x,h,h1,h2,h3=>⟨(h y (by simp)).1,(h y (by simp)).2,h1,h2,h3⟩
 | y::z::L,x,h,h1,h2,h3=>⟨(h y (by simp)).1,(h y (by simp)).2,full_ch hs (L:=z::L) (fun w hw=>h w (List.mem_cons_of_mem _ hw)) h1 h2 h3⟩
theorem full_ch0 {s:Nat} (hs:0<s):∀ {L:List (List α)},Full lt s L→Ch lt s L
 | [],h=>trivial
 | [y],h=>⟨by rw [(h y (by simp)).1];exact hs,Nat.le_of_eq (h y (by simp)).1,(h y (by simp)).2⟩
 | y::z::L,h=>⟨(h y (by simp)).1,(h y (by simp)).2,full_ch0 hs (L:=z::L) fun w hw=>h w (List.mem_cons_of_mem _ hw)⟩
theorem ch_one {s:Nat} (hs:0<s):∀ {L:List (List α)},Ch lt s L→L.flatten.length≤s→Srt lt L.flatten
 | [],h,hl=>List.Pairwise.nil
 | [x],h,hl=>by rw [List.flatten_cons,List.flatten_nil,List.append_nil];exact h.2.2
 | x::y::r,h,hl=>by
   exfalso
   have hy:0<y.length:=by
    cases r with
    | nil=>exact h.2.2.1
    | cons z r=>have:=h.2.2.1;have:=h.1;rw [List.flatten_cons,List.flatten_cons] at hl;simp at hl;omega
   have:=h.1
   rw [List.flatten_cons,List.flatten_cons] at hl
   simp at hl
   omega
end
end Go.Proofs.Ytlaccfegaoaakaa

namespace Go.Proofs.Ytlaccfegaoaakaa
open Go.RowKit
def tyRows:List (List (Option TI)):=[
 [none,
 some ⟨1,8,.fn,[.val .nilFunc]⟩,
 some ⟨1,8,.int .i64,[.val (.int .i64 0)]⟩,
 some ⟨1,8,.int .i64,[.val (.int .i64 0)]⟩,
 some ⟨1,1,.bool,[.val (.bool false)]⟩,
 some ⟨1,1,.int .u8,[.val (.int .u8 0)]⟩,
 some ⟨1,1,.int .u8,[.val (.int .u8 0)]⟩,
 some ⟨4,24,.agg [(0,2),(1,3),(2,4),(3,6)],[.val (.int .i64 0),.val (.int .i64 0),.val (.bool false),.val (.int .u8 0)]⟩,
 some ⟨4,24,.agg [(0,2),(1,3),(2,4),(3,6)],[.val (.int .i64 0),.val (.int .i64 0),.val (.bool false),.val (.int .u8 0)]⟩,
 some ⟨1,16,.str,[.val (.string ⟨⟨[]⟩⟩)]⟩,
 some ⟨1,16,.str,[.val (.string ⟨⟨[]⟩⟩)]⟩,
 some ⟨1,16,.str,[.val (.string ⟨⟨[]⟩⟩)]⟩,
 some ⟨1,8,.int .u64,[.val (.int .u64 0)]⟩,
 some ⟨2,24,.agg [(0,9),(1,12)],[.val (.string ⟨⟨[]⟩⟩),.val (.int .u64 0)]⟩,
 some ⟨2,24,.agg [(0,9),(1,12)],[.val (.string ⟨⟨[]⟩⟩),.val (.int .u64 0)]⟩,
 some ⟨1,8,.ptr 150,[.val (.pointer none)]⟩],
 [some ⟨1,8,.ptr 153,[.val (.pointer none)]⟩,
 some ⟨1,8,.ptr 162,[.val (.pointer none)]⟩,
 some ⟨1,8,.agg [(0,17)],[.val (.pointer none)]⟩,
 some ⟨1,8,.agg [(0,17)],[.val (.pointer none)]⟩,
 some ⟨1,16,.iface,[.val .nilIface]⟩,
 some ⟨1,4,.int .i32,[.val (.int .i32 0)]⟩,
 some ⟨4,32,.agg [(0,3),(1,3),(2,3),(3,3)],[.val (.int .i64 0),.val (.int .i64 0),.val (.int .i64 0),.val (.int .i64 0)]⟩,
 some ⟨4,32,.agg [(0,3),(1,3),(2,3),(3,3)],[.val (.int .i64 0),.val (.int .i64 0),.val (.int .i64 0),.val (.int .i64 0)]⟩,
 some ⟨1,24,.slice 65,[.val (.slice none 0 0)]⟩,
 some ⟨1,24,.slice 9,[.val (.slice none 0 0)]⟩,
 some ⟨9,128,.agg [(0,9),(1,9),(2,3),(3,4),(4,24),(5,3),(6,9),(7,3),(8,25)],[.val (.string ⟨⟨[]⟩⟩),.val (.string ⟨⟨[]⟩⟩),.val (.int .i64 0),.val (.bool false),.val (.slice none 0 0),.val (.int .i64 0),.val (.string ⟨⟨[]⟩⟩),.val (.int .i64 0),.val (.slice none 0 0)]⟩,
 some ⟨9,128,.agg [(0,9),(1,9),(2,3),(3,4),(4,24),(5,3),(6,9),(7,3),(8,25)],[.val (.string ⟨⟨[]⟩⟩),.val (.string ⟨⟨[]⟩⟩),.val (.int .i64 0),.val (.bool false),.val (.slice none 0 0),.val (.int .i64 0),.val (.string ⟨⟨[]⟩⟩),.val (.int .i64 0),.val (.slice none 0 0)]⟩,
 some ⟨1,8,.fn,[.val .nilFunc]⟩,
 some ⟨1,8,.fn,[.val .nilFunc]⟩,
 some ⟨1,8,.fn,[.val .nilFunc]⟩,
 some ⟨1,8,.fn,[.val .nilFunc]⟩],
 [some ⟨1,24,.slice 45,[.val (.slice none 0 0)]⟩,
 some ⟨1,8,.ptr 83,[.val (.pointer none)]⟩,
 some ⟨1,1,.int .u8,[.val (.int .u8 0)]⟩,
 none,
 some ⟨1,8,.fn,[.val .nilFunc]⟩,
 some ⟨1,24,.slice 76,[.val (.slice none 0 0)]⟩,
 some ⟨1,24,.slice 5,[.val (.slice none 0 0)]⟩,
 some ⟨3,40,.agg [(0,38),(1,3),(2,3)],[.val (.slice none 0 0),.val (.int .i64 0),.val (.int .i64 0)]⟩,
 some ⟨3,40,.agg [(0,38),(1,3),(2,3)],[.val (.slice none 0 0),.val (.int .i64 0),.val (.int .i64 0)]⟩,
 some ⟨9,104,.agg [(0,23),(4,37),(5,40),(8,3)],[.val (.int .i64 0),.val (.int .i64 0),.val (.int .i64 0),.val (.int .i64 0),.val (.slice none 0 0),.val (.slice none 0 0),.val (.int .i64 0),.val (.int .i64 0),.val (.int .i64 0)]⟩,
 some ⟨9,104,.agg [(0,23),(4,37),(5,40),(8,3)],[.val (.int .i64 0),.val (.int .i64 0),.val (.int .i64 0),.val (.int .i64 0),.val (.slice none 0 0),.val (.slice none 0 0),.val (.int .i64 0),.val (.int .i64 0),.val (.int .i64 0)]⟩,
 some ⟨1,2,.int .u16,[.val (.int .u16 0)]⟩,
 some ⟨11,136,.agg [(0,43),(1,4),(2,27)],[.val (.int .u16 0),.val (.bool false),.val (.string ⟨⟨[]⟩⟩),.val (.string ⟨⟨[]⟩⟩),.val (.int .i64 0),.val (.bool false),.val (.slice none 0 0),.val (.int .i64 0),.val (.string ⟨⟨[]⟩⟩),.val (.int .i64 0),.val (.slice none 0 0)]⟩,
 some ⟨11,136,.agg [(0,43),(1,4),(2,27)],[.val (.int .u16 0),.val (.bool false),.val (.string ⟨⟨[]⟩⟩),.val (.string ⟨⟨[]⟩⟩),.val (.int .i64 0),.val (.bool false),.val (.slice none 0 0),.val (.int .i64 0),.val (.string ⟨⟨[]⟩⟩),.val (.int .i64 0),.val (.slice none 0 0)]⟩,
 some ⟨1,8,.fn,[.val .nilFunc]⟩,
 some ⟨1,8,.fn,[.val .nilFunc]⟩],
 [some ⟨1,8,.fn,[.val .nilFunc]⟩,
 none,
 some ⟨1,8,.fn,[.val .nilFunc]⟩,
 none,
 some ⟨1,8,.fn,[.val .nilFunc]⟩,
 some ⟨1,8,.fn,[.val .nilFunc]⟩,
 some ⟨1,8,.fn,[.val .nilFunc]⟩,
 some ⟨1,8,.fn,[.val .nilFunc]⟩,
 none,
 some ⟨1,8,.fn,[.val .nilFunc]⟩,
 none,
 some ⟨1,8,.fn,[.val .nilFunc]⟩,
 some ⟨1,8,.fn,[.val .nilFunc]⟩,
 some ⟨1,8,.fn,[.val .nilFunc]⟩,
 some ⟨1,8,.fn,[.val .nilFunc]⟩,
 some ⟨1,8,.fn,[.val .nilFunc]⟩],
 [some ⟨3,32,.agg [(0,9),(1,3),(2,3)],[.val (.string ⟨⟨[]⟩⟩),.val (.int .i64 0),.val (.int .i64 0)]⟩,
 some ⟨3,32,.agg [(0,9),(1,3),(2,3)],[.val (.string ⟨⟨[]⟩⟩),.val (.int .i64 0),.val (.int .i64 0)]⟩,
 some ⟨1,8,.fn,[.val .nilFunc]⟩,
 some ⟨1,8,.fn,[.val .nilFunc]⟩,
 some ⟨1,8,.fn,[.val .nilFunc]⟩,
 some ⟨1,24,.slice 72,[.val (.slice none 0 0)]⟩,
 some ⟨1,24,.slice 37,[.val (.slice none 0 0)]⟩,
 some ⟨12,136,.agg [(0,5),(1,43),(2,43),(3,27)],[.val (.int .u8 0),.val (.int .u16 0),.val (.int .u16 0),.val (.string ⟨⟨[]⟩⟩),.val (.string ⟨⟨[]⟩⟩),.val (.int .i64 0),.val (.bool false),.val (.slice none 0 0),.val (.int .i64 0),.val (.string ⟨⟨[]⟩⟩),.val (.int .i64 0),.val (.slice none 0 0)]⟩,
 some ⟨12,136,.agg [(0,5),(1,43),(2,43),(3,27)],[.val (.int .u8 0),.val (.int .u16 0),.val (.int .u16 0),.val (.string ⟨⟨[]⟩⟩),.val (.string ⟨⟨[]⟩⟩),.val (.int .i64 0),.val (.bool false),.val (.slice none 0 0),.val (.int .i64 0),.val (.string ⟨⟨[]⟩⟩),.val (.int .i64 0),.val (.slice none 0 0)]⟩,
 some ⟨1,8,.fn,[.val .nilFunc]⟩,
 some ⟨1,8,.fn,[.val .nilFunc]⟩,
 some ⟨10,128,.agg [(0,9),(1,9),(2,3),(3,3),(4,3),(5,9),(6,3),(7,9),(8,3),(9,25)],[.val (.string ⟨⟨[]⟩⟩),.val (.string ⟨⟨[]⟩⟩),.val (.int .i64 0),.val (.int .i64 0),.val (.int .i64 0),.val (.string ⟨⟨[]⟩⟩),.val (.int .i64 0),.val (.string ⟨⟨[]⟩⟩),.val (.int .i64 0),.val (.slice none 0 0)]⟩,
 some ⟨10,128,.agg [(0,9),(1,9),(2,3),(3,3),(4,3),(5,9),(6,3),(7,9),(8,3),(9,25)],[.val (.string ⟨⟨[]⟩⟩),.val (.string ⟨⟨[]⟩⟩),.val (.int .i64 0),.val (.int .i64 0),.val (.int .i64 0),.val (.string ⟨⟨[]⟩⟩),.val (.int .i64 0),.val (.string ⟨⟨[]⟩⟩),.val (.int .i64 0),.val (.slice none 0 0)]⟩,
 some ⟨1,8,.fn,[.val .nilFunc]⟩,
 some ⟨1,8,.fn,[.val .nilFunc]⟩,
 some ⟨1,8,.fn,[.val .nilFunc]⟩],
 [some ⟨1,8,.fn,[.val .nilFunc]⟩,
 some ⟨1,8,.fn,[.val .nilFunc]⟩,
 some ⟨9,104,.agg [(0,23),(4,37),(5,40),(8,3)],[.val (.int .i64 0),.val (.int .i64 0),.val (.int .i64 0),.val (.int .i64 0),.val (.slice none 0 0),.val (.slice none 0 0),.val (.int .i64 0),.val (.int .i64 0),.val (.int .i64 0)]⟩,
 some ⟨9,104,.agg [(0,23),(4,37),(5,40),(8,3)],[.val (.int .i64 0),.val (.int .i64 0),.val (.int .i64 0),.val (.int .i64 0),.val (.slice none 0 0),.val (.slice none 0 0),.val (.int .i64 0),.val (.int .i64 0),.val (.int .i64 0)]⟩,
 some ⟨1,8,.fn,[.val .nilFunc]⟩,
 some ⟨1,8,.fn,[.val .nilFunc]⟩,
 some ⟨1,8,.fn,[.val .nilFunc]⟩,
 some ⟨1,8,.fn,[.val .nilFunc]⟩,
 none,
 some ⟨1,8,.fn,[.val .nilFunc]⟩,
 some ⟨2,32,.agg [(0,5),(1,38)],[.val (.int .u8 0),.val (.slice none 0 0)]⟩,
 some ⟨2,32,.agg [(0,5),(1,38)],[.val (.int .u8 0),.val (.slice none 0 0)]⟩,
 some ⟨1,8,.fn,[.val .nilFunc]⟩,
 some ⟨1,8,.fn,[.val .nilFunc]⟩,
 some ⟨1,8,.fn,[.val .nilFunc]⟩,
 some ⟨1,8,.int .u64,[.val (.int .u64 0)]⟩],
 [some ⟨1,8,.fn,[.val .nilFunc]⟩,
 some ⟨1,8,.fn,[.val .nilFunc]⟩,
 some ⟨1,8,.fn,[.val .nilFunc]⟩,
 some ⟨1,8,.fn,[.val .nilFunc]⟩,
 some ⟨1,8,.fn,[.val .nilFunc]⟩,
 some ⟨1,8,.int .u64,[.val (.int .u64 0)]⟩,
 some ⟨1,8,.fn,[.val .nilFunc]⟩,
 some ⟨1,8,.fn,[.val .nilFunc]⟩,
 some ⟨1,8,.fn,[.val .nilFunc]⟩,
 some ⟨1,8,.ptr 107,[.val (.pointer none)]⟩,
 some ⟨2,32,.agg [(0,38),(1,4)],[.val (.slice none 0 0),.val (.bool false)]⟩,
 some ⟨2,32,.agg [(0,38),(1,4)],[.val (.slice none 0 0),.val (.bool false)]⟩,
 some ⟨1,8,.fn,[.val .nilFunc]⟩,
 some ⟨1,24,.slice 91,[.val (.slice none 0 0)]⟩,
 none,
 some ⟨1,8,.fn,[.val .nilFunc]⟩],
 [some ⟨1,8,.fn,[.val .nilFunc]⟩,
 some ⟨1,8,.fn,[.val .nilFunc]⟩,
 some ⟨1,8,.fn,[.val .nilFunc]⟩,
 some ⟨1,8,.fn,[.val .nilFunc]⟩,
 some ⟨1,8,.fn,[.val .nilFunc]⟩,
 some ⟨1,8,.fn,[.val .nilFunc]⟩,
 some ⟨1,8,.fn,[.val .nilFunc]⟩,
 some ⟨1,8,.fn,[.val .nilFunc]⟩,
 some ⟨1,8,.fn,[.val .nilFunc]⟩,
 some ⟨1,8,.fn,[.val .nilFunc]⟩,
 some ⟨1,8,.fn,[.val .nilFunc]⟩,
 some ⟨1,8,.fn,[.val .nilFunc]⟩,
 some ⟨1,8,.fn,[.val .nilFunc]⟩,
 some ⟨1,8,.fn,[.val .nilFunc]⟩,
 some ⟨1,8,.fn,[.val .nilFunc]⟩,
 some ⟨1,8,.fn,[.val .nilFunc]⟩],
 [none,
 some ⟨1,8,.fn,[.val .nilFunc]⟩,
 some ⟨1,8,.fn,[.val .nilFunc]⟩,
 some ⟨1,8,.fn,[.val .nilFunc]⟩,
 some ⟨1,24,.slice 3,[.val (.slice none 0 0)]⟩,
 some ⟨1,8,.fn,[.val .nilFunc]⟩,
 some ⟨1,8,.fn,[.val .nilFunc]⟩,
 some ⟨1,8,.fn,[.val .nilFunc]⟩,
 some ⟨1,4,.int .u32,[.val (.int .u32 0)]⟩,
 some ⟨1,8,.fn,[.val .nilFunc]⟩,
 some ⟨2,16,.agg [(0,136),(1,3)],[.val (.int .u32 0),.val (.int .i64 0)]⟩,
 some ⟨2,16,.agg [(0,136),(1,3)],[.val (.int .u32 0),.val (.int .i64 0)]⟩,
 some ⟨2,32,.agg [(0,38),(1,3)],[.val (.slice none 0 0),.val (.int .i64 0)]⟩,
 some ⟨2,32,.agg [(0,38),(1,3)],[.val (.slice none 0 0),.val (.int .i64 0)]⟩,
 none,
 some ⟨1,8,.fn,[.val .nilFunc]⟩],
 [some ⟨1,8,.fn,[.val .nilFunc]⟩,
 some ⟨1,8,.fn,[.val .nilFunc]⟩,
 some ⟨1,24,.slice 139,[.val (.slice none 0 0)]⟩,
 some ⟨1,8,.ptr 141,[.val (.pointer none)]⟩,
 some ⟨1,8,.fn,[.val .nilFunc]⟩,
 some ⟨4,40,.agg [(0,17),(1,17),(2,17),(3,9)],[.val (.pointer none),.val (.pointer none),.val (.pointer none),.val (.string ⟨⟨[]⟩⟩)]⟩,
 some ⟨4,40,.agg [(0,17),(1,17),(2,17),(3,9)],[.val (.pointer none),.val (.pointer none),.val (.pointer none),.val (.string ⟨⟨[]⟩⟩)]⟩,
 some ⟨0,0,.arr 0 16,[]⟩,
 some ⟨0,0,.agg [(0,151)],[]⟩,
 some ⟨0,0,.agg [(0,151)],[]⟩,
 some ⟨1,8,.fn,[.val .nilFunc]⟩,
 some ⟨1,1,.int .u8,[.val (.int .u8 0)]⟩,
 some ⟨1,1,.int .u8,[.val (.int .u8 0)]⟩,
 some ⟨1,8,.fn,[.val .nilFunc]⟩,
 some ⟨1,8,.ptr 5,[.val (.pointer none)]⟩,
 some ⟨1,4,.int .i32,[.val (.int .i32 0)]⟩],
 [some ⟨1,4,.int .i32,[.val (.int .i32 0)]⟩,
 some ⟨11,48,.agg [(0,12),(1,12),(2,136),(3,155),(4,5),(5,5),(6,156),(7,157),(8,158),(9,159),(10,160)],[.val (.int .u64 0),.val (.int .u64 0),.val (.int .u32 0),.val (.int .u8 0),.val (.int .u8 0),.val (.int .u8 0),.val (.int .u8 0),.val .nilFunc,.val (.pointer none),.val (.int .i32 0),.val (.int .i32 0)]⟩,
 some ⟨11,48,.agg [(0,12),(1,12),(2,136),(3,155),(4,5),(5,5),(6,156),(7,157),(8,158),(9,159),(10,160)],[.val (.int .u64 0),.val (.int .u64 0),.val (.int .u32 0),.val (.int .u8 0),.val (.int .u8 0),.val (.int .u8 0),.val (.int .u8 0),.val .nilFunc,.val (.pointer none),.val (.int .i32 0),.val (.int .i32 0)]⟩,
 some ⟨1,8,.other,[.val (.pointer none)]⟩,
 none,
 none,
 none,
 none,
 none,
 none,
 none,
 none,
 none,
 none,
 none,
 none]
 ]
def cmpTypes:List Nat:=[7,8,22,23,64,65,138,139]
theorem KK:Facts Try.prog tyRows cmpTypes:=facts_of (by kernel_rfl) (by kernel_rfl) (by kernel_rfl) (by kernel_rfl)
end Go.Proofs.Ytlaccfegaoaakaa

namespace Go.Proofs.Ytlaccfegaoaakaa
open Go.RowKit
noncomputable def tabL:List (Nat×Func):=[(3,Try.f3),(4,Try.f4),(5,Try.f5),(6,Try.f6),(7,Try.f7),(8,Try.f8),(9,Try.f9),(10,Try.f10),(11,Try.f11),(12,Try.f12),(13,Try.f13),(14,Try.f14),(15,Try.f15),(16,Try.f16),(17,Try.f17),(18,Try.f18),(19,Try.f19),(20,Try.f20),(21,Try.f21),(22,Try.f22),(23,Try.f23),(24,Try.f24),(25,Try.f25),(26,Try.f26),(27,Try.f27),(28,Try.f28),(29,Try.f29),(30,Try.f30),(31,Try.f31),(32,Try.f32),(33,Try.f33),(34,Try.f34),(35,Try.f35),(36,Try.f36),(37,Try.f37),(38,Try.f38),(39,Try.f39),(40,Try.f40),(41,Try.f41),(42,Try.f42),(43,Try.f43),(44,Try.f44),(45,Try.f45),(46,Try.f46),(47,Try.f47),(48,Try.f48),(49,Try.f49),(50,Try.f50),(51,Try.f51),(52,Try.f52),(53,Try.f53),(54,Try.f54),(55,Try.f55),(56,Try.f56),(57,Try.f57),(58,Try.f58),(59,Try.f59),(60,Try.f60),(61,Try.f61),(62,Try.f62),(63,Try.f63),(64,Try.f64),(65,Try.f65),(66,Try.f66),(67,Try.f67),(68,Try.f68),(69,Try.f69),(70,Try.f70),(71,Try.f71),(72,Try.f72),(73,Try.f73),(74,Try.f74),(75,Try.f75),(76,Try.f76),(77,Try.f77),(78,Try.f78),(79,Try.f79),(80,Try.f80),(81,Try.f81),(82,Try.f82),(83,Try.f83),(84,Try.f84),(85,Try.f85),(86,Try.f86),(87,Try.f87),(88,Try.f88),(89,Try.f89),(90,Try.f90),(91,Try.f91),(92,Try.f92),(93,Try.f93),(94,Try.f94),(95,Try.f95),(96,Try.f96),(97,Try.f97),(98,Try.f98),(99,Try.f99),(100,Try.f100),(101,Try.f101),(102,Try.f102)]
theorem tabL_ok:TabOk Try.prog tabL:=⟨Try.func3,by kernel_rfl,Try.func4,by kernel_rfl,Try.func5,by kernel_rfl,Try.func6,by kernel_rfl,Try.func7,by kernel_rfl,Try.func8,by kernel_rfl,Try.func9,by kernel_rfl,Try.func10,by kernel_rfl,Try.func11,by kernel_rfl,Try.func12,by kernel_rfl,Try.func13,by kernel_rfl,Try.func14,by kernel_rfl,Try.func15,by kernel_rfl,Try.func16,by kernel_rfl,Try.func17,by kernel_rfl,Try.func18,by kernel_rfl,Try.func19,by kernel_rfl,Try.func20,by kernel_rfl,Try.func21,by kernel_rfl,Try.func22,by kernel_rfl,Try.func23,by kernel_rfl,Try.func24,by kernel_rfl,Try.func25,by kernel_rfl,Try.func26,by kernel_rfl,Try.func27,by kernel_rfl,Try.func28,by kernel_rfl,Try.func29,by kernel_rfl,Try.func30,by kernel_rfl,Try.func31,by kernel_rfl,Try.func32,by kernel_rfl,Try.func33,by kernel_rfl,Try.func34,by kernel_rfl,Try.func35,by kernel_rfl,Try.func36,by kernel_rfl,Try.func37,by kernel_rfl,Try.func38,by kernel_rfl,Try.func39,by kernel_rfl,Try.func40,by kernel_rfl,Try.func41,by kernel_rfl,Try.func42,by kernel_rfl,Try.func43,by kernel_rfl,Try.func44,by kernel_rfl,Try.func45,by kernel_rfl,Try.func46,by kernel_rfl,Try.func47,by kernel_rfl,Try.func48,by kernel_rfl,Try.func49,by kernel_rfl,Try.func50,by kernel_rfl,Try.func51,by kernel_rfl,Try.func52,by kernel_rfl,Try.func53,by kernel_rfl,Try.func54,by kernel_rfl,Try.func55,by kernel_rfl,Try.func56,by kernel_rfl,Try.func57,by kernel_rfl,Try.func58,by kernel_rfl,Try.func59,by kernel_rfl,Try.func60,by kernel_rfl,Try.func61,by kernel_rfl,Try.func62,by kernel_rfl,Try.func63,by kernel_rfl,Try.func64,by kernel_rfl,Try.func65,by kernel_rfl,Try.func66,by kernel_rfl,Try.func67,by kernel_rfl,Try.func68,by kernel_rfl,Try.func69,by kernel_rfl,Try.func70,by kernel_rfl,Try.func71,by kernel_rfl,Try.func72,by kernel_rfl,Try.func73,by kernel_rfl,Try.func74,by kernel_rfl,Try.func75,by kernel_rfl,Try.func76,by kernel_rfl,Try.func77,by kernel_rfl,Try.func78,by kernel_rfl,Try.func79,by kernel_rfl,Try.func80,by kernel_rfl,Try.func81,by kernel_rfl,Try.func82,by kernel_rfl,Try.func83,by kernel_rfl,Try.func84,by kernel_rfl,Try.func85,by kernel_rfl,Try.func86,by kernel_rfl,Try.func87,by kernel_rfl,Try.func88,by kernel_rfl,Try.func89,by kernel_rfl,Try.func90,by kernel_rfl,Try.func91,by kernel_rfl,Try.func92,by kernel_rfl,Try.func93,by kernel_rfl,Try.func94,by kernel_rfl,Try.func95,by kernel_rfl,Try.func96,by kernel_rfl,Try.func97,by kernel_rfl,Try.func98,by kernel_rfl,Try.func99,by kernel_rfl,Try.func100,by kernel_rfl,Try.func101,by kernel_rfl,Try.func102,by kernel_rfl,trivial⟩
end Go.Proofs.Ytlaccfegaoaakaa

namespace Go.Proofs.Ytlaccfegaoaakaa
open Go.RowKit
abbrev UBd:U := .pair .str (.pair .str (.pair (.int .i64) (.pair (.int .i64) (.pair (.int .i64) (.pair .str (.pair (.int .i64) (.pair .str (.pair (.int .i64) (.list .str)))))))))
end Go.Proofs.Ytlaccfegaoaakaa

set_option maxRecDepth 1000000
set_option maxHeartbeats 0
namespace Go.Proofs.Ytlaccfegaoaakaa
open Go.RowKit
def plan75:List (Nat×PL):=[]
noncomputable def cmp_Compare_int:(Int×Int)→Option Int:=fun (a1,a2) =>
 bif (decide (a1≠a1)) then
 bif (decide (a2≠a2)) then
 some z0
 else
 some (-1:Int)
 else
 bif (decide (a2≠a2)) then
 some z1
 else
 bif (decide (a1<a2)) then
 some (-1:Int)
 else
 bif (decide (a1 > a2)) then
 some z1
 else
 some z0
noncomputable def cons75:List (Nat×CE):=[]
theorem cons75_ok:ConL Try.prog cons75:=trivial
noncomputable def ce75:CE:=⟨[(.tmp 0 false [dI]),(.tmp 1 false [dI])],[(.tmp 0 false [dI])],cmp_Compare_int⟩
theorem con75:ConOk Try.prog 75 ce75 :=
 tree_ok (plan:=planOf plan75) (eg:=egNo) KK tabL_ok (conOf_ok cons75_ok) Try.func75 (by kernel_rfl) (by kernel_rfl) 10000 (fun a r h=>Eq.trans (show _=cmp_Compare_int a from by kernel_rfl) h)
def plan76:List (Nat×PL):=[]
noncomputable def cmp_Compare_string:(LU×LU)→Option Int:=fun (a1,a2) =>
 bif (decide (a1≠a1)) then
 bif (decide (a2≠a2)) then
 some z0
 else
 some (-1:Int)
 else
 bif (decide (a2≠a2)) then
 some z1
 else
 bif (Go.Op.bytesLess a1 a2) then
 some (-1:Int)
 else
 bif (!((Go.Op.bytesLess a1 a2)||(decide (a1=a2)))) then
 some z1
 else
 some z0
noncomputable def cons76:List (Nat×CE):=[]
theorem cons76_ok:ConL Try.prog cons76:=trivial
noncomputable def ce76:CE:=⟨[(.tmp 0 false [dS]),(.tmp 1 false [dS])],[(.tmp 0 false [dI])],cmp_Compare_string⟩
theorem con76:ConOk Try.prog 76 ce76 :=
 tree_ok (plan:=planOf plan76) (eg:=egNo) KK tabL_ok (conOf_ok cons76_ok) Try.func76 (by kernel_rfl) (by kernel_rfl) 10000 (fun a r h=>Eq.trans (show _=cmp_Compare_string a from by kernel_rfl) h)
def plan73:List (Nat×PL):=[(134479904,(.carry [.tmp 0 false [dI]])),(18049587176800769,(.carry [])),(2422574582208133389879302,(.carry [.tmp 8 false [dI]]))]
noncomputable def registrar_Lookup_1:((LU×(LU×(Int×(Int×(Int×(LU×(Int×(LU×(Int×(List LU))))))))))×(LU×(LU×(Int×(Int×(Int×(LU×(Int×(LU×(Int×(List LU)))))))))))→Option Int:=fun ((a1,(a2,(a3,(a4,(a5,(a6,(a7,(a8,(a9,a10))))))))),(a11,(a12,(a13,(a14,(a15,(a16,(a17,(a18,(a19,a20)))))))))) =>
 bindO (cmp_Compare_int (a13,a3)) fun x21 =>
 bindO (cmp_Compare_int (a15,a5)) fun x22 =>
 bindO (cmp_Compare_string (a2,a12)) fun x23 =>
 joinO (joinO (loopO (fun v24 =>
 bif (decide (v24<(3:Int))) then
 bif (decide ((z0≤v24)∧(v24<(3:Int)))) then
 bindO (x21::(x22::(x23::([]:List Int))))[(Int.toNat v24)]? fun x25 =>
 bif (decide (x25≠z0)) then
 outO (outO (some (Sum.inl x25)))
 else
 some (Sum.inl (wI (v24+z1)))
 else none
 else
 outO (some (Sum.inl ()))) z0) fun _ =>
 some (Sum.inl z0)) fun v27 =>
 some v27
noncomputable def cons73:List (Nat×CE):=[(76,ce76),(75,ce75)]
theorem cons73_ok:ConL Try.prog cons73:=⟨con76,con75,trivial⟩
noncomputable def ce73:CE:=⟨[(.tmp 0 true [dS,dS,dI,dI,dI,dS,dI,dS,dI,(.dat (.list .str))]),(.tmp 1 true [dS,dS,dI,dI,dI,dS,dI,dS,dI,(.dat (.list .str))])],[(.tmp 0 false [dI])],registrar_Lookup_1⟩
theorem con73:ConOk Try.prog 73 ce73 :=
 tree_ok (plan:=planOf plan73) (eg:=egNo) KK tabL_ok (conOf_ok cons73_ok) Try.func73 (by kernel_rfl) (by kernel_rfl) 10000 (fun a r h=>Eq.trans (show _=registrar_Lookup_1 a from by kernel_rfl) h)
def plan98:List (Nat×PL):=[(134481926,(.carry [.tmp 8 false [dI],.row 20000003 76 UBd])),(35253630009857,(.carry [.tmp 9 false [dI],.row 20000003 76 UBd])),(2422611007321851379845126,(.carry [.tmp 9 false [dI],.row 20000003 76 UBd]))]
noncomputable def slices_insertionSortCmpFunc_api_Binding:((List (LU×(LU×(Int×(Int×(Int×(LU×(Int×(LU×(Int×(List LU)))))))))))×(Int×Int))→Option (List (LU×(LU×(Int×(Int×(Int×(LU×(Int×(LU×(Int×(List LU))))))))))):=fun (a1,(a2,a3)) =>
 loopO (fun (v5,v6) =>
 bif (decide (v5<a3)) then
 joinO (loopO (fun (v7,v8) =>
 bif (decide (v7 > a2)) then
 bif (iR v7 a1) then
 bindO v8[(Int.toNat v7)]? fun x9 =>
 bindO (some (wI (v7-z1))) fun x10 =>
 bif (iR x10 a1) then
 bindO v8[(Int.toNat x10)]? fun x11 =>
 bindO (registrar_Lookup_1 ((x9.1,(x9.2.1,(x9.2.2.1,(x9.2.2.2.1,(x9.2.2.2.2.1,(x9.2.2.2.2.2.1,(x9.2.2.2.2.2.2.1,(x9.2.2.2.2.2.2.2.1,(x9.2.2.2.2.2.2.2.2.1,x9.2.2.2.2.2.2.2.2.2))))))))),(x11.1,(x11.2.1,(x11.2.2.1,(x11.2.2.2.1,(x11.2.2.2.2.1,(x11.2.2.2.2.2.1,(x11.2.2.2.2.2.2.1,(x11.2.2.2.2.2.2.2.1,(x11.2.2.2.2.2.2.2.2.1,x11.2.2.2.2.2.2.2.2.2))))))))))) fun x12 =>
 bif (decide (x12<z0)) then
 bindO (some (wI (v7-z1))) fun x13 =>
 bindO (some (wI (v7-z1))) fun x14 =>
 bif (iR x14 a1) then
 bindO v8[(Int.toNat x14)]? fun x15 =>
 bif (iR v7 a1) then
 bindO v8[(Int.toNat v7)]? fun x16 =>
 bif (iR v7 a1) then
 bindO v8[(Int.toNat v7)]? fun x17 =>
 bif (iR x13 a1) then
 bindO (List.set v8 (Int.toNat v7) (x15.1,(x15.2.1,(x15.2.2.1,(x15.2.2.2.1,(x15.2.2.2.2.1,(x15.2.2.2.2.2.1,(x15.2.2.2.2.2.2.1,(x15.2.2.2.2.2.2.2.1,(x15.2.2.2.2.2.2.2.2.1,x15.2.2.2.2.2.2.2.2.2))))))))))[(Int.toNat x13)]? fun x18 =>
 some (Sum.inl ((wI (v7-z1)),(List.set (List.set v8 (Int.toNat v7) (x15.1,(x15.2.1,(x15.2.2.1,(x15.2.2.2.1,(x15.2.2.2.2.1,(x15.2.2.2.2.2.1,(x15.2.2.2.2.2.2.1,(x15.2.2.2.2.2.2.2.1,(x15.2.2.2.2.2.2.2.2.1,x15.2.2.2.2.2.2.2.2.2)))))))))) (Int.toNat x13) (x16.1,(x16.2.1,(x16.2.2.1,(x16.2.2.2.1,(x16.2.2.2.2.1,(x16.2.2.2.2.2.1,(x16.2.2.2.2.2.2.1,(x16.2.2.2.2.2.2.2.1,(x16.2.2.2.2.2.2.2.2.1,x16.2.2.2.2.2.2.2.2.2))))))))))))
 else none
 else none
 else none
 else none
 else
 outO (some (Sum.inl (v7,v8)))
 else none
 else none
 else
 outO (some (Sum.inl (v7,v8)))) (v5,v6)) fun (v20,v21) =>
 some (Sum.inl ((wI (v5+z1)),v21))
 else
 outO (some v6)) ((wI (a2+z1)),a1)
noncomputable def cons98:List (Nat×CE):=[(73,ce73)]
theorem cons98_ok:ConL Try.prog cons98:=⟨con73,trivial⟩
noncomputable def ce98:CE:=⟨[.tmp 0 false [.own 20000003 76 UBd],.tmp 1 false [.dat uI6],.tmp 2 false [.dat uI6],.tmp 3 false [.cl 73 []]],[.row 20000003 76 UBd],slices_insertionSortCmpFunc_api_Binding⟩
theorem con98:ConOk Try.prog 98 ce98 :=
 conS_ok (tree_okS (plan:=planOf plan98) (eg:=egNo) KK tabL_ok (conOf_ok cons98_ok) Try.func98 (by kernel_rfl) (by kernel_rfl) 10000 (fun a r h=>Eq.trans (show _=slices_insertionSortCmpFunc_api_Binding a from by kernel_rfl) h)) (by rfl)
def plan102:List (Nat×PL):=[(134481926,(.carry [.tmp 10 false [dI],.row 20000003 76 UBd]))]
noncomputable def slices_swapRangeCmpFunc_api_Binding:((List (LU×(LU×(Int×(Int×(Int×(LU×(Int×(LU×(Int×(List LU)))))))))))×(Int×(Int×Int)))→Option (List (LU×(LU×(Int×(Int×(Int×(LU×(Int×(LU×(Int×(List LU))))))))))):=fun (a1,(a2,(a3,a4))) =>
 loopO (fun (v5,v6) =>
 bif (decide (v5<a4)) then
 bindO (some (wI (a2+v5))) fun x7 =>
 bindO (some (wI (a3+v5))) fun x8 =>
 bindO (some (wI (a3+v5))) fun x9 =>
 bif (iR x9 a1) then
 bindO v6[(Int.toNat x9)]? fun x10 =>
 bindO (some (wI (a2+v5))) fun x11 =>
 bif (iR x11 a1) then
 bindO v6[(Int.toNat x11)]? fun x12 =>
 bif (iR x7 a1) then
 bindO v6[(Int.toNat x7)]? fun x13 =>
 bif (iR x8 a1) then
 bindO (List.set v6 (Int.toNat x7) (x10.1,(x10.2.1,(x10.2.2.1,(x10.2.2.2.1,(x10.2.2.2.2.1,(x10.2.2.2.2.2.1,(x10.2.2.2.2.2.2.1,(x10.2.2.2.2.2.2.2.1,(x10.2.2.2.2.2.2.2.2.1,x10.2.2.2.2.2.2.2.2.2))))))))))[(Int.toNat x8)]? fun x14 =>
 some (Sum.inl ((wI (v5+z1)),(List.set (List.set v6 (Int.toNat x7) (x10.1,(x10.2.1,(x10.2.2.1,(x10.2.2.2.1,(x10.2.2.2.2.1,(x10.2.2.2.2.2.1,(x10.2.2.2.2.2.2.1,(x10.2.2.2.2.2.2.2.1,(x10.2.2.2.2.2.2.2.2.1,x10.2.2.2.2.2.2.2.2.2)))))))))) (Int.toNat x8) (x12.1,(x12.2.1,(x12.2.2.1,(x12.2.2.2.1,(x12.2.2.2.2.1,(x12.2.2.2.2.2.1,(x12.2.2.2.2.2.2.1,(x12.2.2.2.2.2.2.2.1,(x12.2.2.2.2.2.2.2.2.1,x12.2.2.2.2.2.2.2.2.2))))))))))))
 else none
 else none
 else none
 else none
 else
 outO (some v6)) (z0,a1)
noncomputable def cons102:List (Nat×CE):=[]
theorem cons102_ok:ConL Try.prog cons102:=trivial
noncomputable def ce102:CE:=⟨[.tmp 0 false [.own 20000003 76 UBd],.tmp 1 false [.dat uI6],.tmp 2 false [.dat uI6],.tmp 3 false [.dat uI6],.tmp 4 false [.cl 73 []]],[.row 20000003 76 UBd],slices_swapRangeCmpFunc_api_Binding⟩
theorem con102:ConOk Try.prog 102 ce102 :=
 conS_ok (tree_okS (plan:=planOf plan102) (eg:=egNo) KK tabL_ok (conOf_ok cons102_ok) Try.func102 (by kernel_rfl) (by kernel_rfl) 10000 (fun a r h=>Eq.trans (show _=slices_swapRangeCmpFunc_api_Binding a from by kernel_rfl) h)) (by rfl)
def plan101:List (Nat×PL):=[(134480385,(.carry [.drop 11,.tmp 10 false [dI],.row 20000003 76 UBd])),(35253225785350,(.carry [.tmp 11 false [dI],.tmp 10 false [dI],.row 20000003 76 UBd]))]
noncomputable def slices_rotateCmpFunc_api_Binding:((List (LU×(LU×(Int×(Int×(Int×(LU×(Int×(LU×(Int×(List LU)))))))))))×(Int×(Int×Int)))→Option (List (LU×(LU×(Int×(Int×(Int×(LU×(Int×(LU×(Int×(List LU))))))))))):=fun (a1,(a2,(a3,a4))) =>
 joinO (loopO (fun (v7,(v8,v9)) =>
 bif (decide (v8≠v7)) then
 bif (decide (v8 > v7)) then
 bif (lQ a1 v9) then
 bindO (slices_swapRangeCmpFunc_api_Binding (v9,((wI (a3-v8)),(a3,v7)))) fun x11 =>
 some (Sum.inl (v7,((wI (v8-v7)),x11)))
 else none
 else
 bif (lQ a1 v9) then
 bindO (slices_swapRangeCmpFunc_api_Binding (v9,((wI (a3-v8)),((wI ((wI (a3+v7))-v8)),v8)))) fun x16 =>
 some (Sum.inl ((wI (v7-v8)),(v8,x16)))
 else none
 else
 outO (some (Sum.inl (v8,v9)))) ((wI (a4-a3)),((wI (a3-a2)),a1))) fun (v18,v19) =>
 bif (lQ a1 v19) then
 bindO (slices_swapRangeCmpFunc_api_Binding (v19,((wI (a3-v18)),(a3,v18)))) fun x21 =>
 some x21
 else none
noncomputable def cons101:List (Nat×CE):=[(102,ce102)]
theorem cons101_ok:ConL Try.prog cons101:=⟨con102,trivial⟩
noncomputable def ce101:CE:=⟨[.tmp 0 false [.own 20000003 76 UBd],.tmp 1 false [.dat uI6],.tmp 2 false [.dat uI6],.tmp 3 false [.dat uI6],.tmp 4 false [.cl 73 []]],[.row 20000003 76 UBd],slices_rotateCmpFunc_api_Binding⟩
theorem con101:ConOk Try.prog 101 ce101 :=
 conS_ok (tree_okS (plan:=planOf plan101) (eg:=egNo) KK tabL_ok (conOf_ok cons101_ok) Try.func101 (by kernel_rfl) (by kernel_rfl) 10000 (fun a r h=>Eq.trans (show _=slices_rotateCmpFunc_api_Binding a from by kernel_rfl) h)) (by rfl)
def plan99:List (Nat×PL):=[(513,(.carry [])),(18014467497656833,(.carry [.drop 11,.tmp 10 false [dI]])),(262657,(.carry [])),(4722384567705752569862,(.carry [.tmp 11 false [dI],.tmp 10 false [dI]])),(1237944780116656869855201286,(.carry [.tmp 13 false [dI],.row 20000003 76 UBd])),(9241386504352432641,(.carry [.drop 15,.tmp 14 false [dI]])),(18049651735527937,(.carry [.tmp 21 false [dI],.tmp 20 false [dI]])),(2422574023796964101982214,(.carry [.tmp 15 false [dI],.tmp 14 false [dI]])),(635063244894231357618206803974,(.carry [.tmp 17 false [dI],.row 20000003 76 UBd])),(4731607904558235517441,(.carry [.drop 21,.tmp 20 false [dI]])),(1240362622532514091483793414,(.carry [.tmp 21 false [dI],.tmp 20 false [dI]])),(1240362622532514091484054017,(.carry [.row 20000003 76 UBd])),(635065662736647214839835656705,(.carry [.row 20000003 76 UBd]))]
noncomputable def slices_symMergeCmpFunc_api_Binding_B (slices_symMergeCmpFunc_api_Binding_h:((List (LU×(LU×(Int×(Int×(Int×(LU×(Int×(LU×(Int×(List LU)))))))))))×(Int×(Int×Int)))→Option (List (LU×(LU×(Int×(Int×(Int×(LU×(Int×(LU×(Int×(List LU)))))))))))):((List (LU×(LU×(Int×(Int×(Int×(LU×(Int×(LU×(Int×(List LU)))))))))))×(Int×(Int×Int)))→Option (List (LU×(LU×(Int×(Int×(Int×(LU×(Int×(LU×(Int×(List LU))))))))))):=fun (a1,(a2,(a3,a4))) =>
 joinO (bif (decide ((wI (a3-a2))=z1)) then
 joinO (loopO (fun (v6,v7) =>
 bif (decide (v7<v6)) then
 bindO (some (Int.fdiv (Go.IntKind.wrap .u64 (wI (v7+v6))) (2:Int))) fun x10 =>
 bif (decide ((z0≤(wI x10))∧((wI x10)<(lI a1)))) then
 bindO a1[(Int.toNat (wI x10))]? fun x12 =>
 bif (iR a2 a1) then
 bindO a1[(Int.toNat a2)]? fun x13 =>
 bindO (registrar_Lookup_1 ((x12.1,(x12.2.1,(x12.2.2.1,(x12.2.2.2.1,(x12.2.2.2.2.1,(x12.2.2.2.2.2.1,(x12.2.2.2.2.2.2.1,(x12.2.2.2.2.2.2.2.1,(x12.2.2.2.2.2.2.2.2.1,x12.2.2.2.2.2.2.2.2.2))))))))),(x13.1,(x13.2.1,(x13.2.2.1,(x13.2.2.2.1,(x13.2.2.2.2.1,(x13.2.2.2.2.2.1,(x13.2.2.2.2.2.2.1,(x13.2.2.2.2.2.2.2.1,(x13.2.2.2.2.2.2.2.2.1,x13.2.2.2.2.2.2.2.2.2))))))))))) fun x14 =>
 bif (decide (x14<z0)) then
 some (Sum.inl (v6,(wI ((wI x10)+z1))))
 else
 some (Sum.inl ((wI x10),v7))
 else none
 else none
 else
 outO (some (Sum.inl v7))) (a4,a3)) fun v16 =>
 loopO (fun (v17,v18) =>
 bif (decide (v17<(wI (v16-z1)))) then
 bindO (some (wI (v17+z1))) fun x20 =>
 bindO (some (wI (v17+z1))) fun x21 =>
 bif (iR x21 a1) then
 bindO v18[(Int.toNat x21)]? fun x22 =>
 bif (iR v17 a1) then
 bindO v18[(Int.toNat v17)]? fun x23 =>
 bif (iR v17 a1) then
 bindO v18[(Int.toNat v17)]? fun x24 =>
 bif (iR x20 a1) then
 bindO (List.set v18 (Int.toNat v17) (x22.1,(x22.2.1,(x22.2.2.1,(x22.2.2.2.1,(x22.2.2.2.2.1,(x22.2.2.2.2.2.1,(x22.2.2.2.2.2.2.1,(x22.2.2.2.2.2.2.2.1,(x22.2.2.2.2.2.2.2.2.1,x22.2.2.2.2.2.2.2.2.2))))))))))[(Int.toNat x20)]? fun x25 =>
 some (Sum.inl ((wI (v17+z1)),(List.set (List.set v18 (Int.toNat v17) (x22.1,(x22.2.1,(x22.2.2.1,(x22.2.2.2.1,(x22.2.2.2.2.1,(x22.2.2.2.2.2.1,(x22.2.2.2.2.2.2.1,(x22.2.2.2.2.2.2.2.1,(x22.2.2.2.2.2.2.2.2.1,x22.2.2.2.2.2.2.2.2.2)))))))))) (Int.toNat x20) (x23.1,(x23.2.1,(x23.2.2.1,(x23.2.2.2.1,(x23.2.2.2.2.1,(x23.2.2.2.2.2.1,(x23.2.2.2.2.2.2.1,(x23.2.2.2.2.2.2.2.1,(x23.2.2.2.2.2.2.2.2.1,x23.2.2.2.2.2.2.2.2.2))))))))))))
 else none
 else none
 else none
 else none
 else
 outO (outO (some v18))) (a2,a1)
 else
 some (Sum.inl ())) fun _ =>
 joinO (bif (decide ((wI (a4-a3))=z1)) then
 joinO (loopO (fun (v28,v29) =>
 bif (decide (v29<v28)) then
 bindO (some (Int.fdiv (Go.IntKind.wrap .u64 (wI (v29+v28))) (2:Int))) fun x32 =>
 bif (iR a3 a1) then
 bindO a1[(Int.toNat a3)]? fun x34 =>
 bif (decide ((z0≤(wI x32))∧((wI x32)<(lI a1)))) then
 bindO a1[(Int.toNat (wI x32))]? fun x35 =>
 bindO (registrar_Lookup_1 ((x34.1,(x34.2.1,(x34.2.2.1,(x34.2.2.2.1,(x34.2.2.2.2.1,(x34.2.2.2.2.2.1,(x34.2.2.2.2.2.2.1,(x34.2.2.2.2.2.2.2.1,(x34.2.2.2.2.2.2.2.2.1,x34.2.2.2.2.2.2.2.2.2))))))))),(x35.1,(x35.2.1,(x35.2.2.1,(x35.2.2.2.1,(x35.2.2.2.2.1,(x35.2.2.2.2.2.1,(x35.2.2.2.2.2.2.1,(x35.2.2.2.2.2.2.2.1,(x35.2.2.2.2.2.2.2.2.1,x35.2.2.2.2.2.2.2.2.2))))))))))) fun x36 =>
 bif (!(decide (x36<z0))) then
 some (Sum.inl (v28,(wI ((wI x32)+z1))))
 else
 some (Sum.inl ((wI x32),v29))
 else none
 else none
 else
 outO (some (Sum.inl v29))) (a3,a2)) fun v38 =>
 loopO (fun (v39,v40) =>
 bif (decide (v39 > v38)) then
 bindO (some (wI (v39-z1))) fun x41 =>
 bindO (some (wI (v39-z1))) fun x42 =>
 bif (iR x42 a1) then
 bindO v40[(Int.toNat x42)]? fun x43 =>
 bif (iR v39 a1) then
 bindO v40[(Int.toNat v39)]? fun x44 =>
 bif (iR v39 a1) then
 bindO v40[(Int.toNat v39)]? fun x45 =>
 bif (iR x41 a1) then
 bindO (List.set v40 (Int.toNat v39) (x43.1,(x43.2.1,(x43.2.2.1,(x43.2.2.2.1,(x43.2.2.2.2.1,(x43.2.2.2.2.2.1,(x43.2.2.2.2.2.2.1,(x43.2.2.2.2.2.2.2.1,(x43.2.2.2.2.2.2.2.2.1,x43.2.2.2.2.2.2.2.2.2))))))))))[(Int.toNat x41)]? fun x46 =>
 some (Sum.inl ((wI (v39-z1)),(List.set (List.set v40 (Int.toNat v39) (x43.1,(x43.2.1,(x43.2.2.1,(x43.2.2.2.1,(x43.2.2.2.2.1,(x43.2.2.2.2.2.1,(x43.2.2.2.2.2.2.1,(x43.2.2.2.2.2.2.2.1,(x43.2.2.2.2.2.2.2.2.1,x43.2.2.2.2.2.2.2.2.2)))))))))) (Int.toNat x41) (x44.1,(x44.2.1,(x44.2.2.1,(x44.2.2.2.1,(x44.2.2.2.2.1,(x44.2.2.2.2.2.1,(x44.2.2.2.2.2.2.1,(x44.2.2.2.2.2.2.2.1,(x44.2.2.2.2.2.2.2.2.1,x44.2.2.2.2.2.2.2.2.2))))))))))))
 else none
 else none
 else none
 else none
 else
 outO (outO (some v40))) (a3,a1)
 else
 some (Sum.inl ())) fun _ =>
 bindO (some (Int.fdiv (Go.IntKind.wrap .u64 (wI (a2+a4))) (2:Int))) fun x50 =>
 bindO (some (wI ((wI x50)+a3))) fun x52 =>
 joinO (bif (decide (a3 > (wI x50))) then
 some (Sum.inl ((wI x50),(wI (x52-a4))))
 else
 some (Sum.inl (a3,a2))) fun (v54,v55) =>
 joinO (loopO (fun (v57,v58) =>
 bif (decide (v58<v57)) then
 bindO (some (Int.fdiv (Go.IntKind.wrap .u64 (wI (v58+v57))) (2:Int))) fun x61 =>
 bindO (some (wI ((wI (x52-z1))-(wI x61)))) fun x63 =>
 bif (iR x63 a1) then
 bindO a1[(Int.toNat x63)]? fun x64 =>
 bif (decide ((z0≤(wI x61))∧((wI x61)<(lI a1)))) then
 bindO a1[(Int.toNat (wI x61))]? fun x65 =>
 bindO (registrar_Lookup_1 ((x64.1,(x64.2.1,(x64.2.2.1,(x64.2.2.2.1,(x64.2.2.2.2.1,(x64.2.2.2.2.2.1,(x64.2.2.2.2.2.2.1,(x64.2.2.2.2.2.2.2.1,(x64.2.2.2.2.2.2.2.2.1,x64.2.2.2.2.2.2.2.2.2))))))))),(x65.1,(x65.2.1,(x65.2.2.1,(x65.2.2.2.1,(x65.2.2.2.2.1,(x65.2.2.2.2.2.1,(x65.2.2.2.2.2.2.1,(x65.2.2.2.2.2.2.2.1,(x65.2.2.2.2.2.2.2.2.1,x65.2.2.2.2.2.2.2.2.2))))))))))) fun x66 =>
 bif (!(decide (x66<z0))) then
 some (Sum.inl (v57,(wI ((wI x61)+z1))))
 else
 some (Sum.inl ((wI x61),v58))
 else none
 else none
 else
 outO (some (Sum.inl v58))) (v54,v55)) fun v68 =>
 bindO (some (wI (x52-v68))) fun x69 =>
 joinO (bif (decide (v68<a3)) then
 bif (decide (a3<x69)) then
 bif (lQ a1 a1) then
 bindO (slices_rotateCmpFunc_api_Binding (a1,(v68,(a3,x69)))) fun x70 =>
 some (Sum.inl x70)
 else none
 else
 some (Sum.inl a1)
 else
 some (Sum.inl a1)) fun v71 =>
 joinO (bif (decide (a2<v68)) then
 bif (decide (v68<(wI x50))) then
 bif (lQ a1 v71) then
 bindO (slices_symMergeCmpFunc_api_Binding_h (v71,(a2,(v68,(wI x50))))) fun x72 =>
 some (Sum.inl x72)
 else none
 else
 some (Sum.inl v71)
 else
 some (Sum.inl v71)) fun v73 =>
 bif (decide ((wI x50)<x69)) then
 bif (decide (x69<a4)) then
 bif (lQ a1 v73) then
 bindO (slices_symMergeCmpFunc_api_Binding_h (v73,((wI x50),(x69,a4)))) fun x74 =>
 some x74
 else none
 else
 some v73
 else
 some v73
noncomputable def cons99 (slices_symMergeCmpFunc_api_Binding_h:((List (LU×(LU×(Int×(Int×(Int×(LU×(Int×(LU×(Int×(List LU)))))))))))×(Int×(Int×Int)))→Option (List (LU×(LU×(Int×(Int×(Int×(LU×(Int×(LU×(Int×(List LU)))))))))))):List (Nat×CE):=[(99,⟨[.tmp 0 false [.own 20000003 76 UBd],.tmp 1 false [.dat uI6],.tmp 2 false [.dat uI6],.tmp 3 false [.dat uI6],.tmp 4 false [.cl 73 []]],[.row 20000003 76 UBd],slices_symMergeCmpFunc_api_Binding_h⟩),(75,⟨[(.tmp 0 false [dI]),(.tmp 1 false [dI])],[(.tmp 0 false [dI])],cmp_Compare_int⟩),(76,⟨[(.tmp 0 false [dS]),(.tmp 1 false [dS])],[(.tmp 0 false [dI])],cmp_Compare_string⟩),(73,⟨[(.tmp 0 true [dS,dS,dI,dI,dI,dS,dI,dS,dI,(.dat (.list .str))]),(.tmp 1 true [dS,dS,dI,dI,dI,dS,dI,dS,dI,(.dat (.list .str))])],[(.tmp 0 false [dI])],registrar_Lookup_1⟩),(98,⟨[.tmp 0 false [.own 20000003 76 UBd],.tmp 1 false [.dat uI6],.tmp 2 false [.dat uI6],.tmp 3 false [.cl 73 []]],[.row 20000003 76 UBd],slices_insertionSortCmpFunc_api_Binding⟩),(102,⟨[.tmp 0 false [.own 20000003 76 UBd],.tmp 1 false [.dat uI6],.tmp 2 false [.dat uI6],.tmp 3 false [.dat uI6],.tmp 4 false [.cl 73 []]],[.row 20000003 76 UBd],slices_swapRangeCmpFunc_api_Binding⟩),(101,⟨[.tmp 0 false [.own 20000003 76 UBd],.tmp 1 false [.dat uI6],.tmp 2 false [.dat uI6],.tmp 3 false [.dat uI6],.tmp 4 false [.cl 73 []]],[.row 20000003 76 UBd],slices_rotateCmpFunc_api_Binding⟩)]
theorem cons99_ok (slices_symMergeCmpFunc_api_Binding_h:((List (LU×(LU×(Int×(Int×(Int×(LU×(Int×(LU×(Int×(List LU)))))))))))×(Int×(Int×Int)))→Option (List (LU×(LU×(Int×(Int×(Int×(LU×(Int×(LU×(Int×(List LU)))))))))))) (hh:ConOk Try.prog 99 ⟨[.tmp 0 false [.own 20000003 76 UBd],.tmp 1 false [.dat uI6],.tmp 2 false [.dat uI6],.tmp 3 false [.dat uI6],.tmp 4 false [.cl 73 []]],[.row 20000003 76 UBd],slices_symMergeCmpFunc_api_Binding_h⟩):ConL Try.prog (cons99 slices_symMergeCmpFunc_api_Binding_h):=⟨hh,con75,con76,con73,con98,con102,con101,trivial⟩
theorem conB99 (slices_symMergeCmpFunc_api_Binding_h:((List (LU×(LU×(Int×(Int×(Int×(LU×(Int×(LU×(Int×(List LU)))))))))))×(Int×(Int×Int)))→Option (List (LU×(LU×(Int×(Int×(Int×(LU×(Int×(LU×(Int×(List LU)))))))))))) (hh:ConOk Try.prog 99 ⟨[.tmp 0 false [.own 20000003 76 UBd],.tmp 1 false [.dat uI6],.tmp 2 false [.dat uI6],.tmp 3 false [.dat uI6],.tmp 4 false [.cl 73 []]],[.row 20000003 76 UBd],slices_symMergeCmpFunc_api_Binding_h⟩):ConOk Try.prog 99 ⟨[.tmp 0 false [.own 20000003 76 UBd],.tmp 1 false [.dat uI6],.tmp 2 false [.dat uI6],.tmp 3 false [.dat uI6],.tmp 4 false [.cl 73 []]],[.row 20000003 76 UBd],slices_symMergeCmpFunc_api_Binding_B slices_symMergeCmpFunc_api_Binding_h⟩ :=
 conS_ok (tree_okS (plan:=planOf plan99) (eg:=egNo) KK tabL_ok (conOf_ok (cons99_ok slices_symMergeCmpFunc_api_Binding_h hh)) Try.func99 (by kernel_rfl) (by kernel_rfl) 10000 (fun a r h=>Eq.trans (show _=slices_symMergeCmpFunc_api_Binding_B slices_symMergeCmpFunc_api_Binding_h a from by kernel_rfl) h)) (by rfl)
noncomputable def slices_symMergeCmpFunc_api_Binding_N:Nat→((List (LU×(LU×(Int×(Int×(Int×(LU×(Int×(LU×(Int×(List LU)))))))))))×(Int×(Int×Int)))→Option (List (LU×(LU×(Int×(Int×(Int×(LU×(Int×(LU×(Int×(List LU)))))))))))
 | 0=>fun _=>none
 | k+1=>slices_symMergeCmpFunc_api_Binding_B (slices_symMergeCmpFunc_api_Binding_N k)
theorem conN99:∀k,ConOk Try.prog 99 ⟨[.tmp 0 false [.own 20000003 76 UBd],.tmp 1 false [.dat uI6],.tmp 2 false [.dat uI6],.tmp 3 false [.dat uI6],.tmp 4 false [.cl 73 []]],[.row 20000003 76 UBd],slices_symMergeCmpFunc_api_Binding_N k⟩
 | 0=>conS_ok ⟨by kernel_rfl,fun a r h=>by cases h⟩ (by rfl)
 | k+1=>conB99 _ (conN99 k)
noncomputable def slices_symMergeCmpFunc_api_Binding:((List (LU×(LU×(Int×(Int×(Int×(LU×(Int×(LU×(Int×(List LU)))))))))))×(Int×(Int×Int)))→Option (List (LU×(LU×(Int×(Int×(Int×(LU×(Int×(LU×(Int×(List LU))))))))))):=slices_symMergeCmpFunc_api_Binding_N 200
noncomputable def ce99:CE:=⟨[.tmp 0 false [.own 20000003 76 UBd],.tmp 1 false [.dat uI6],.tmp 2 false [.dat uI6],.tmp 3 false [.dat uI6],.tmp 4 false [.cl 73 []]],[.row 20000003 76 UBd],slices_symMergeCmpFunc_api_Binding⟩
theorem con99:ConOk Try.prog 99 ce99:=conN99 200
def plan88:List (Nat×PL):=[(134480385,(.carry [.tmp 8 false [dI],.tmp 7 false [dI],.row 20000003 76 UBd])),(35253225785350,(.carry [.tmp 8 false [dI],.tmp 7 false [dI],.row 20000003 76 UBd])),(18049651735529478,(.carry [.tmp 6 false [dI],.tmp 8 false [dI],.tmp 7 false [dI],.row 20000003 76 UBd])),(1240362622532619988198490625,(.carry [.tmp 8 false [dI],.tmp 7 false [dI],.row 20000003 76 UBd])),(325153619321191134186305126139910,(.carry [.tmp 8 false [dI],.tmp 7 false [dI],.row 20000003 76 UBd]))]
noncomputable def slices_stableCmpFunc_api_Binding:((List (LU×(LU×(Int×(Int×(Int×(LU×(Int×(LU×(Int×(List LU)))))))))))×Int)→Option (List (LU×(LU×(Int×(Int×(Int×(LU×(Int×(LU×(Int×(List LU))))))))))):=fun (a1,a2) =>
 joinO (loopO (fun (v3,(v4,v5)) =>
 bif (decide (v3≤a2)) then
 bif (lQ a1 v5) then
 bindO (slices_insertionSortCmpFunc_api_Binding (v5,(v4,v3))) fun x6 =>
 some (Sum.inl ((wI (v3+(20:Int))),(v3,x6)))
 else none
 else
 outO (some (Sum.inl (v3,(v4,v5))))) ((20:Int),(z0,a1))) fun (v8,(v9,v10)) =>
 bif (lQ a1 v10) then
 bindO (slices_insertionSortCmpFunc_api_Binding (v10,(v9,a2))) fun x11 =>
 loopO (fun (v12,(v13,(v14,v15))) =>
 bif (decide (v12<a2)) then
 joinO (loopO (fun (v17,(v18,v19)) =>
 bif (decide (v17≤a2)) then
 bif (lQ a1 v19) then
 bindO (slices_symMergeCmpFunc_api_Binding (v19,(v18,((wI (v18+v12)),v17)))) fun x21 =>
 some (Sum.inl ((wI (v17+(wI ((2:Int)*v12)))),(v17,x21)))
 else none
 else
 outO (some (Sum.inl (v17,(v18,v19))))) ((wI ((2:Int)*v12)),(z0,v15))) fun (v24,(v25,v26)) =>
 bindO (some (wI (v25+v12))) fun x27 =>
 bif (decide (x27<a2)) then
 bif (lQ a1 v26) then
 bindO (slices_symMergeCmpFunc_api_Binding (v26,(v25,(x27,a2)))) fun x28 =>
 some (Sum.inl ((wI (v12*(2:Int))),(v24,(v25,x28))))
 else none
 else
 some (Sum.inl ((wI (v12*(2:Int))),(v24,(v25,v26))))
 else
 outO (some v15)) ((20:Int),(v8,(v9,x11)))
 else none
noncomputable def cons88:List (Nat×CE):=[(99,ce99),(98,ce98)]
theorem cons88_ok:ConL Try.prog cons88:=⟨con99,con98,trivial⟩
noncomputable def ce88:CE:=⟨[.tmp 0 false [.own 20000003 76 UBd],.tmp 1 false [.dat uI6],.tmp 2 false [.cl 73 []]],[.row 20000003 76 UBd],slices_stableCmpFunc_api_Binding⟩
theorem con88:ConOk Try.prog 88 ce88 :=
 conS_ok (tree_okS (plan:=planOf plan88) (eg:=egNo) KK tabL_ok (conOf_ok cons88_ok) Try.func88 (by kernel_rfl) (by kernel_rfl) 10000 (fun a r h=>Eq.trans (show _=slices_stableCmpFunc_api_Binding a from by kernel_rfl) h)) (by rfl)
def plan72:List (Nat×PL):=[]
noncomputable def slices_SortStableFunc___api_Binding_api_Binding:(List (LU×(LU×(Int×(Int×(Int×(LU×(Int×(LU×(Int×(List LU)))))))))))→Option (List (LU×(LU×(Int×(Int×(Int×(LU×(Int×(LU×(Int×(List LU))))))))))):=fun a1 =>
 bif (lQ a1 a1) then
 bindO (slices_stableCmpFunc_api_Binding (a1,(lI a1))) fun x2 =>
 some x2
 else none
noncomputable def cons72:List (Nat×CE):=[(88,ce88)]
theorem cons72_ok:ConL Try.prog cons72:=⟨con88,trivial⟩
noncomputable def ce72:CE:=⟨[.tmp 0 false [.own 20000003 76 UBd],.tmp 1 false [.cl 73 []]],[.row 20000003 76 UBd],slices_SortStableFunc___api_Binding_api_Binding⟩
theorem con72:ConOk Try.prog 72 ce72 :=
 conS_ok (tree_okS (plan:=planOf plan72) (eg:=egNo) KK tabL_ok (conOf_ok cons72_ok) Try.func72 (by kernel_rfl) (by kernel_rfl) 10000 (fun a r h=>Eq.trans (show _=slices_SortStableFunc___api_Binding_api_Binding a from by kernel_rfl) h)) (by rfl)
end Go.Proofs.Ytlaccfegaoaakaa

set_option maxRecDepth 100000
set_option maxHeartbeats 2000000
namespace Go.Proofs.Ytlaccfegaoaakaa
open Go.RowKit
abbrev Bnd:=List UInt8×(List UInt8×(Int×(Int×(Int×(List UInt8×(Int×(List UInt8×(Int×List (List UInt8)))))))))
abbrev dB:Bnd:=([],([],(0,(0,(0,([],(0,([],(0,[])))))))))
noncomputable def swB (a1:List Bnd) (a2 a3 a4:Int):(Int×List Bnd)→Option ((Int×List Bnd) ⊕ List Bnd) :=
(fun (v5,v6) =>
 bif (decide (v5<a4)) then
 bindO (some (Go.IntKind.wrap .i64 (a2+v5))) fun x7 =>
 bindO (some (Go.IntKind.wrap .i64 (a3+v5))) fun x8 =>
 bindO (some (Go.IntKind.wrap .i64 (a3+v5))) fun x9 =>
 bif (decide (((0:Int)≤x9)∧(x9<(((List.length a1):Nat):Int)))) then
 bindO v6[(Int.toNat x9)]? fun x10 =>
 bindO (some (Go.IntKind.wrap .i64 (a2+v5))) fun x11 =>
 bif (decide (((0:Int)≤x11)∧(x11<(((List.length a1):Nat):Int)))) then
 bindO v6[(Int.toNat x11)]? fun x12 =>
 bif (decide (((0:Int)≤x7)∧(x7<(((List.length a1):Nat):Int)))) then
 bindO v6[(Int.toNat x7)]? fun x13 =>
 bif (decide (((0:Int)≤x8)∧(x8<(((List.length a1):Nat):Int)))) then
 bindO (List.set v6 (Int.toNat x7) x10)[(Int.toNat x8)]? fun x14 =>
 some (Sum.inl ((Go.IntKind.wrap .i64 (v5+(1:Int))),(List.set (List.set v6 (Int.toNat x7) x10) (Int.toNat x8) x12)))
 else none
 else none
 else none
 else none
 else
 outO (some v6))
theorem sw_eq (a1:List Bnd) (a2 a3 a4:Int):slices_swapRangeCmpFunc_api_Binding (a1,(a2,(a3,a4)))=loopO (swB a1 a2 a3 a4) ((0:Int),a1):=rfl
theorem swap_spec (A X M Y B:List Bnd) (h:X.length=Y.length) (hl:(A++X++M++Y++B).length≤1000000) {a b n:Int} (ha:a=(A.length:Int)) (hb:b=((A.length+X.length+M.length:Nat):Int)) (hn:n=(X.length:Int)) :
 slices_swapRangeCmpFunc_api_Binding (A++X++M++Y++B,(a,(b,n)))=some (A++Y++M++X++B):=by
 subst ha hb hn
 have hlen:=hl
 simp only [List.length_append] at hlen
 rw [sw_eq]
 refine loopO_from (fun i=>((i:Int),A++(Y.take i++X.drop i)++M++(X.take i++Y.drop i)++B)) X.length (by simp) (fun i hi => ?_) ?_
 ·have e1:=drop_cons X dB hi
  have e2:=drop_cons Y dB (show i<Y.length by omega)
  have t1:=take_snoc X dB hi
  have t2:=take_snoc Y dB (show i<Y.length by omega)
  obtain ⟨x,hx⟩:∃x,X.getD i dB=x:=⟨_,rfl⟩
  obtain ⟨y,hy⟩:∃y,Y.getD i dB=y:=⟨_,rfl⟩
  rw [hx] at e1 t1
  rw [hy] at e2 t2
  obtain ⟨P,hP⟩:∃P,P=A++Y.take i:=⟨_,rfl⟩
  obtain ⟨Q,hQ⟩:∃Q,Q=X.drop (i+1)++M++X.take i:=⟨_,rfl⟩
  obtain ⟨R,hR⟩:∃R,R=Y.drop (i+1)++B:=⟨_,rfl⟩
  have hL:A++(Y.take i++X.drop i)++M++(X.take i++Y.drop i)++B=P++x::(Q++y::R):=by rw [hP,hQ,hR,e1,e2];simp
  have hL':A++(Y.take (i+1)++X.drop (i+1))++M++(X.take (i+1)++Y.drop (i+1))++B=P++y::(Q++x::R):=by rw [hP,hQ,hR,t1,t2];simp
  have lP:P.length=A.length+i:=by rw [hP,List.length_append,List.length_take];omega
  have lQ:P.length+1+Q.length=A.length+X.length+M.length+i:=by rw [lP,hQ,List.length_append,List.length_append,List.length_take,List.length_drop];omega
  have hn:((i:Int)+1)=((i+1:Nat):Int):=rfl
  rw [hL,hL']
  unfold swB
  simp (disch:=(first | omega | (simp only [LNl];omega))) only [↓SDl,SDr,if_pos,if_neg,wrap_i64',↓sw_get1,↓sw_get2,sw_get1,sw_get2,sw_set1,sw_set2,hn]
 ·unfold swB
  simp (disch:=(first | omega | (simp only [LNl];omega))) only [↓SDl,SDr,if_neg,List.take_length,List.drop_length,List.append_nil]
  rw [show List.take X.length Y=Y by rw [h,List.take_length],show List.drop X.length Y=[] by rw [h,List.drop_length],List.append_nil]
end Go.Proofs.Ytlaccfegaoaakaa

set_option maxRecDepth 100000
namespace Go.Proofs.Ytlaccfegaoaakaa
open Go.RowKit
noncomputable def roB {δ:Type} (a1:List Bnd) (a3:Int):(Int×(Int×List Bnd))→Option ((Int×(Int×List Bnd)) ⊕ ((Int×List Bnd) ⊕ δ)) :=
(fun (v7,(v8,v9)) =>
 bif (decide (v8≠v7)) then
 bif (decide (v8 > v7)) then
 bif (decide ((List.length a1)=(List.length v9))) then
 bindO (slices_swapRangeCmpFunc_api_Binding (v9,((Go.IntKind.wrap .i64 (a3-v8)),(a3,v7)))) fun x11 =>
 some (Sum.inl (v7,((Go.IntKind.wrap .i64 (v8-v7)),x11)))
 else none
 else
 bif (decide ((List.length a1)=(List.length v9))) then
 bindO (slices_swapRangeCmpFunc_api_Binding (v9,((Go.IntKind.wrap .i64 (a3-v8)),((Go.IntKind.wrap .i64 ((Go.IntKind.wrap .i64 (a3+v7))-v8)),v8)))) fun x16 =>
 some (Sum.inl ((Go.IntKind.wrap .i64 (v7-v8)),(v8,x16)))
 else none
 else
 outO (some (Sum.inl (v8,v9))))
theorem ro_eq (a1:List Bnd) (a2 a3 a4:Int):slices_rotateCmpFunc_api_Binding (a1,(a2,(a3,a4))) =
 joinO (loopO (roB a1 a3) ((Go.IntKind.wrap .i64 (a4-a3)),((Go.IntKind.wrap .i64 (a3-a2)),a1))) fun (v18,v19) =>
 bif (decide ((List.length a1)=(List.length v19))) then
  bindO (slices_swapRangeCmpFunc_api_Binding (v19,((Go.IntKind.wrap .i64 (a3-v18)),(a3,v18)))) fun x21 =>
  some x21
 else none:=rfl
noncomputable def isI {δ:Type} (a1:List Bnd) (a2:Int):(Int×List Bnd)→Option ((Int×List Bnd) ⊕ ((Int×List Bnd) ⊕ δ)) :=
(fun (v7,v8) =>
 bif (decide (v7 > a2)) then
 bif (decide (((0:Int)≤v7)∧(v7<(((List.length a1):Nat):Int)))) then
 bindO v8[(Int.toNat v7)]? fun x9 =>
 bindO (some (Go.IntKind.wrap .i64 (v7-(1:Int)))) fun x10 =>
 bif (decide (((0:Int)≤x10)∧(x10<(((List.length a1):Nat):Int)))) then
 bindO v8[(Int.toNat x10)]? fun x11 =>
 bindO (registrar_Lookup_1 (x9,x11)) fun x12 =>
 bif (decide (x12<(0:Int))) then
 bindO (some (Go.IntKind.wrap .i64 (v7-(1:Int)))) fun x13 =>
 bindO (some (Go.IntKind.wrap .i64 (v7-(1:Int)))) fun x14 =>
 bif (decide (((0:Int)≤x14)∧(x14<(((List.length a1):Nat):Int)))) then
 bindO v8[(Int.toNat x14)]? fun x15 =>
 bif (decide (((0:Int)≤v7)∧(v7<(((List.length a1):Nat):Int)))) then
 bindO v8[(Int.toNat v7)]? fun x16 =>
 bif (decide (((0:Int)≤v7)∧(v7<(((List.length a1):Nat):Int)))) then
 bindO v8[(Int.toNat v7)]? fun x17 =>
 bif (decide (((0:Int)≤x13)∧(x13<(((List.length a1):Nat):Int)))) then
 bindO (List.set v8 (Int.toNat v7) x15)[(Int.toNat x13)]? fun x18 =>
 some (Sum.inl ((Go.IntKind.wrap .i64 (v7-(1:Int))),(List.set (List.set v8 (Int.toNat v7) x15) (Int.toNat x13) x16)))
 else none
 else none
 else none
 else none
 else
 outO (some (Sum.inl (v7,v8)))
 else none
 else none
 else
 outO (some (Sum.inl (v7,v8))))
noncomputable def isO (a1:List Bnd) (a2 a3:Int):(Int×List Bnd)→Option ((Int×List Bnd) ⊕ List Bnd) :=
(fun (v5,v6) =>
 bif (decide (v5<a3)) then
 joinO (loopO (isI a1 a2) (v5,v6)) fun (v20,v21) =>
 some (Sum.inl ((Go.IntKind.wrap .i64 (v5+(1:Int))),v21))
 else
 outO (some v6))
theorem is_eq (a1:List Bnd) (a2 a3:Int):slices_insertionSortCmpFunc_api_Binding (a1,(a2,a3)) =
 loopO (isO a1 a2 a3) ((Go.IntKind.wrap .i64 (a2+(1:Int))),a1):=rfl
noncomputable def smA {δ:Type} (a1:List Bnd) (a2:Int):(Int×Int)→Option ((Int×Int) ⊕ (Int ⊕ δ)) :=
(fun (v6,v7) =>
 bif (decide (v7<v6)) then
 bindO (some (Int.fdiv (Go.IntKind.wrap .u64 (Go.IntKind.wrap .i64 (v7+v6))) (2:Int))) fun x10 =>
 bif (decide (((0:Int)≤(Go.IntKind.wrap .i64 x10))∧((Go.IntKind.wrap .i64 x10)<(((List.length a1):Nat):Int)))) then
 bindO a1[(Int.toNat (Go.IntKind.wrap .i64 x10))]? fun x12 =>
 bif (decide (((0:Int)≤a2)∧(a2<(((List.length a1):Nat):Int)))) then
 bindO a1[(Int.toNat a2)]? fun x13 =>
 bindO (registrar_Lookup_1 (x12,x13)) fun x14 =>
 bif (decide (x14<(0:Int))) then
 some (Sum.inl (v6,(Go.IntKind.wrap .i64 ((Go.IntKind.wrap .i64 x10)+(1:Int)))))
 else
 some (Sum.inl ((Go.IntKind.wrap .i64 x10),v7))
 else none
 else none
 else
 outO (some (Sum.inl v7)))
noncomputable def smC (a1:List Bnd) (v16:Int):(Int×List Bnd)→Option ((Int×List Bnd) ⊕ (Unit ⊕ List Bnd)) :=
(fun (v17,v18) =>
 bif (decide (v17<(Go.IntKind.wrap .i64 (v16-(1:Int))))) then
 bindO (some (Go.IntKind.wrap .i64 (v17+(1:Int)))) fun x20 =>
 bindO (some (Go.IntKind.wrap .i64 (v17+(1:Int)))) fun x21 =>
 bif (decide (((0:Int)≤x21)∧(x21<(((List.length a1):Nat):Int)))) then
 bindO v18[(Int.toNat x21)]? fun x22 =>
 bif (decide (((0:Int)≤v17)∧(v17<(((List.length a1):Nat):Int)))) then
 bindO v18[(Int.toNat v17)]? fun x23 =>
 bif (decide (((0:Int)≤v17)∧(v17<(((List.length a1):Nat):Int)))) then
 bindO v18[(Int.toNat v17)]? fun x24 =>
 bif (decide (((0:Int)≤x20)∧(x20<(((List.length a1):Nat):Int)))) then
 bindO (List.set v18 (Int.toNat v17) x22)[(Int.toNat x20)]? fun x25 =>
 some (Sum.inl ((Go.IntKind.wrap .i64 (v17+(1:Int))),(List.set (List.set v18 (Int.toNat v17) x22) (Int.toNat x20) x23)))
 else none
 else none
 else none
 else none
 else
 outO (outO (some v18)))
noncomputable def smD {δ:Type} (a1:List Bnd) (a3:Int):(Int×Int)→Option ((Int×Int) ⊕ (Int ⊕ δ)) :=
(fun (v28,v29) =>
 bif (decide (v29<v28)) then
 bindO (some (Int.fdiv (Go.IntKind.wrap .u64 (Go.IntKind.wrap .i64 (v29+v28))) (2:Int))) fun x32 =>
 bif (decide (((0:Int)≤a3)∧(a3<(((List.length a1):Nat):Int)))) then
 bindO a1[(Int.toNat a3)]? fun x34 =>
 bif (decide (((0:Int)≤(Go.IntKind.wrap .i64 x32))∧((Go.IntKind.wrap .i64 x32)<(((List.length a1):Nat):Int)))) then
 bindO a1[(Int.toNat (Go.IntKind.wrap .i64 x32))]? fun x35 =>
 bindO (registrar_Lookup_1 (x34,x35)) fun x36 =>
 bif (!(decide (x36<(0:Int)))) then
 some (Sum.inl (v28,(Go.IntKind.wrap .i64 ((Go.IntKind.wrap .i64 x32)+(1:Int)))))
 else
 some (Sum.inl ((Go.IntKind.wrap .i64 x32),v29))
 else none
 else none
 else
 outO (some (Sum.inl v29)))
noncomputable def smE (a1:List Bnd) (v38:Int):(Int×List Bnd)→Option ((Int×List Bnd) ⊕ (Unit ⊕ List Bnd)) :=
(fun (v39,v40) =>
 bif (decide (v39 > v38)) then
 bindO (some (Go.IntKind.wrap .i64 (v39-(1:Int)))) fun x41 =>
 bindO (some (Go.IntKind.wrap .i64 (v39-(1:Int)))) fun x42 =>
 bif (decide (((0:Int)≤x42)∧(x42<(((List.length a1):Nat):Int)))) then
 bindO v40[(Int.toNat x42)]? fun x43 =>
 bif (decide (((0:Int)≤v39)∧(v39<(((List.length a1):Nat):Int)))) then
 bindO v40[(Int.toNat v39)]? fun x44 =>
 bif (decide (((0:Int)≤v39)∧(v39<(((List.length a1):Nat):Int)))) then
 bindO v40[(Int.toNat v39)]? fun x45 =>
 bif (decide (((0:Int)≤x41)∧(x41<(((List.length a1):Nat):Int)))) then
 bindO (List.set v40 (Int.toNat v39) x43)[(Int.toNat x41)]? fun x46 =>
 some (Sum.inl ((Go.IntKind.wrap .i64 (v39-(1:Int))),(List.set (List.set v40 (Int.toNat v39) x43) (Int.toNat x41) x44)))
 else none
 else none
 else none
 else none
 else
 outO (outO (some v40)))
noncomputable def smF {δ:Type} (a1:List Bnd) (x52:Int):(Int×Int)→Option ((Int×Int) ⊕ (Int ⊕ δ)) :=
(fun (v57,v58) =>
 bif (decide (v58<v57)) then
 bindO (some (Int.fdiv (Go.IntKind.wrap .u64 (Go.IntKind.wrap .i64 (v58+v57))) (2:Int))) fun x61 =>
 bindO (some (Go.IntKind.wrap .i64 ((Go.IntKind.wrap .i64 (x52-(1:Int)))-(Go.IntKind.wrap .i64 x61)))) fun x63 =>
 bif (decide (((0:Int)≤x63)∧(x63<(((List.length a1):Nat):Int)))) then
 bindO a1[(Int.toNat x63)]? fun x64 =>
 bif (decide (((0:Int)≤(Go.IntKind.wrap .i64 x61))∧((Go.IntKind.wrap .i64 x61)<(((List.length a1):Nat):Int)))) then
 bindO a1[(Int.toNat (Go.IntKind.wrap .i64 x61))]? fun x65 =>
 bindO (registrar_Lookup_1 (x64,x65)) fun x66 =>
 bif (!(decide (x66<(0:Int)))) then
 some (Sum.inl (v57,(Go.IntKind.wrap .i64 ((Go.IntKind.wrap .i64 x61)+(1:Int)))))
 else
 some (Sum.inl ((Go.IntKind.wrap .i64 x61),v58))
 else none
 else none
 else
 outO (some (Sum.inl v58)))
theorem sm_eq (slices_symMergeCmpFunc_api_Binding_h:((List Bnd)×(Int×(Int×Int)))→Option (List Bnd)) (a1:List Bnd) (a2 a3 a4:Int):slices_symMergeCmpFunc_api_Binding_B slices_symMergeCmpFunc_api_Binding_h (a1,(a2,(a3,a4))) =
 joinO (bif (decide ((Go.IntKind.wrap .i64 (a3-a2))=(1:Int))) then
 joinO (loopO (smA a1 a2) (a4,a3)) fun v16 =>
 loopO (smC a1 v16) (a2,a1)
 else
 some (Sum.inl ())) fun _ =>
 joinO (bif (decide ((Go.IntKind.wrap .i64 (a4-a3))=(1:Int))) then
 joinO (loopO (smD a1 a3) (a3,a2)) fun v38 =>
 loopO (smE a1 v38) (a3,a1)
 else
 some (Sum.inl ())) fun _ =>
 bindO (some (Int.fdiv (Go.IntKind.wrap .u64 (Go.IntKind.wrap .i64 (a2+a4))) (2:Int))) fun x50 =>
 bindO (some (Go.IntKind.wrap .i64 ((Go.IntKind.wrap .i64 x50)+a3))) fun x52 =>
 joinO (bif (decide (a3 > (Go.IntKind.wrap .i64 x50))) then
 some (Sum.inl ((Go.IntKind.wrap .i64 x50),(Go.IntKind.wrap .i64 (x52-a4))))
 else
 some (Sum.inl (a3,a2))) fun (v54,v55) =>
 joinO (loopO (smF a1 x52) (v54,v55)) fun v68 =>
 bindO (some (Go.IntKind.wrap .i64 (x52-v68))) fun x69 =>
 joinO (bif (decide (v68<a3)) then
 bif (decide (a3<x69)) then
 bif (decide ((List.length a1)=(List.length a1))) then
 bindO (slices_rotateCmpFunc_api_Binding (a1,(v68,(a3,x69)))) fun x70 =>
 some (Sum.inl x70)
 else none
 else
 some (Sum.inl a1)
 else
 some (Sum.inl a1)) fun v71 =>
 joinO (bif (decide (a2<v68)) then
 bif (decide (v68<(Go.IntKind.wrap .i64 x50))) then
 bif (decide ((List.length a1)=(List.length v71))) then
 bindO (slices_symMergeCmpFunc_api_Binding_h (v71,(a2,(v68,(Go.IntKind.wrap .i64 x50))))) fun x72 =>
 some (Sum.inl x72)
 else none
 else
 some (Sum.inl v71)
 else
 some (Sum.inl v71)) fun v73 =>
 bif (decide ((Go.IntKind.wrap .i64 x50)<x69)) then
  bif (decide (x69<a4)) then
   bif (decide ((List.length a1)=(List.length v73))) then
    bindO (slices_symMergeCmpFunc_api_Binding_h (v73,((Go.IntKind.wrap .i64 x50),(x69,a4)))) fun x74 =>
    some x74
   else none
  else
   some v73
 else
  some v73:=rfl
noncomputable def stA {δ:Type} (a1:List Bnd) (a2:Int):(Int×(Int×List Bnd))→Option ((Int×(Int×List Bnd)) ⊕ ((Int×(Int×List Bnd)) ⊕ δ)) :=
(fun (v3,(v4,v5)) =>
 bif (decide (v3≤a2)) then
 bif (decide ((List.length a1)=(List.length v5))) then
 bindO (slices_insertionSortCmpFunc_api_Binding (v5,(v4,v3))) fun x6 =>
 some (Sum.inl ((Go.IntKind.wrap .i64 (v3+(20:Int))),(v3,x6)))
 else none
 else
 outO (some (Sum.inl (v3,(v4,v5)))))
noncomputable def stB {δ:Type} (a1:List Bnd) (a2:Int) (v12:Int):(Int×(Int×List Bnd))→Option ((Int×(Int×List Bnd)) ⊕ ((Int×(Int×List Bnd)) ⊕ δ)) :=
(fun (v17,(v18,v19)) =>
 bif (decide (v17≤a2)) then
 bif (decide ((List.length a1)=(List.length v19))) then
 bindO (slices_symMergeCmpFunc_api_Binding (v19,(v18,((Go.IntKind.wrap .i64 (v18+v12)),v17)))) fun x21 =>
 some (Sum.inl ((Go.IntKind.wrap .i64 (v17+(Go.IntKind.wrap .i64 ((2:Int)*v12)))),(v17,x21)))
 else none
 else
 outO (some (Sum.inl (v17,(v18,v19)))))
noncomputable def stC (a1:List Bnd) (a2:Int):(Int×(Int×(Int×List Bnd)))→Option ((Int×(Int×(Int×List Bnd))) ⊕ List Bnd) :=
(fun (v12,(v13,(v14,v15))) =>
 bif (decide (v12<a2)) then
 joinO (loopO (stB a1 a2 v12) ((Go.IntKind.wrap .i64 ((2:Int)*v12)),((0:Int),v15))) fun (v24,(v25,v26)) =>
 bindO (some (Go.IntKind.wrap .i64 (v25+v12))) fun x27 =>
 bif (decide (x27<a2)) then
 bif (decide ((List.length a1)=(List.length v26))) then
 bindO (slices_symMergeCmpFunc_api_Binding (v26,(v25,(x27,a2)))) fun x28 =>
 some (Sum.inl ((Go.IntKind.wrap .i64 (v12*(2:Int))),(v24,(v25,x28))))
 else none
 else
 some (Sum.inl ((Go.IntKind.wrap .i64 (v12*(2:Int))),(v24,(v25,v26))))
 else
 outO (some v15))
theorem st_eq (a1:List Bnd) (a2:Int):slices_stableCmpFunc_api_Binding (a1,a2) =
 joinO (loopO (stA a1 a2) ((20:Int),((0:Int),a1))) fun (v8,(v9,v10)) =>
 bif (decide ((List.length a1)=(List.length v10))) then
  bindO (slices_insertionSortCmpFunc_api_Binding (v10,(v9,a2))) fun x11 =>
  loopO (stC a1 a2) ((20:Int),(v8,(v9,x11)))
 else none:=rfl
end Go.Proofs.Ytlaccfegaoaakaa

set_option maxRecDepth 100000
set_option maxHeartbeats 2000000
namespace Go.Proofs.Ytlaccfegaoaakaa
open Go.RowKit
theorem ro_loop {δ:Type} (L0:List Bnd) (m:Int) (hL0:L0.length≤1000000):∀(k:Nat) (A X Y B:List Bnd),X.length+Y.length≤k→X≠[]→Y≠[]→(A++X++Y++B).length=L0.length→m=((A.length+X.length:Nat):Int) →
 ∃A1 X1 Y1 B1:List Bnd,X1.length=Y1.length∧m=((A1.length+X1.length:Nat):Int)∧loopO (roB (δ:=δ) L0 m) ((Y.length:Int),((X.length:Int),A++X++Y++B))=some (.inl ((X1.length:Int),A1++X1++Y1++B1))∧A1++Y1++X1++B1=A++Y++X++B
 | 0,A,X,Y,B,hk,hX,hY,hl,hm=>by cases X with | nil=>exact (hX rfl).elim | cons _ _=>simp at hk
 | k+1,A,X,Y,B,hk,hX,hY,hl,hm=>by
   have hx0:0<X.length:=List.length_pos_iff.2 hX
   have hy0:0<Y.length:=List.length_pos_iff.2 hY
   have hlen:=hl
   simp only [List.length_append] at hlen
   rcases Nat.lt_trichotomy X.length Y.length with g | g | g
   ·obtain ⟨Ya,Yb,hYY,la⟩:=split_at Y (k:=Y.length-X.length) (by omega)
    have lb:Yb.length=X.length:=by have:=congrArg List.length hYY;rw [List.length_append] at this;omega
    have hd:A++X++Y++B=A++X++Ya++Yb++B:=by rw [hYY];simp
    have hs:=swap_spec A X Ya Yb B lb.symm (by rw [←hd,hl];omega) (a:=m-(X.length:Int)) (b:=m+(Y.length:Int)-(X.length:Int)) (n:=(X.length:Int)) (by omega) (by omega) rfl
    rw [←hd] at hs
    have hstep:roB (δ:=δ) L0 m ((Y.length:Int),((X.length:Int),A++X++Y++B))=some (.inl ((Ya.length:Int),((Yb.length:Int),A++Yb++Ya++(X++B)))):=by
     unfold roB
     have e1:(Y.length:Int)-(X.length:Int)=(Ya.length:Int):=by omega
     have e2:(Yb.length:Int)=(X.length:Int):=by omega
     have e3:A++Yb++Ya++(X++B)=A++Yb++Ya++X++B:=by simp
     rw [e2,e3]
     simp (disch:=(first | omega | (simp only [LNl];omega))) only [↓SDl,SDr,if_pos,if_neg,wrap_i64',hs,e1]
    obtain ⟨A1,X1,Y1,B1,q1,q2,q3,q4⟩:=ro_loop L0 m hL0 k A Yb Ya (X++B) (by omega) (by rintro rfl;simp at lb;omega) (by rintro rfl;simp at la;omega) (by simp only [List.length_append];omega) (by omega)
    refine ⟨A1,X1,Y1,B1,q1,q2,by rw [loopO_eq,hstep];exact q3,?_⟩
    rw [q4,hYY];simp
   ·refine ⟨A,X,Y,B,g,hm,?_,rfl⟩
    rw [loopO_eq]
    have hstep:roB (δ:=δ) L0 m ((Y.length:Int),((X.length:Int),A++X++Y++B))=some (.inr (.inl ((X.length:Int),A++X++Y++B))):=by
     unfold roB
     simp (disch:=(first | omega | (simp only [LNl];omega))) only [↓SDl,SDr,if_pos,if_neg]
    rw [hstep]
   ·obtain ⟨Xa,Xb,hXX,la⟩:=split_at X (k:=Y.length) (by omega)
    have lb:Xb.length=X.length-Y.length:=by have:=congrArg List.length hXX;rw [List.length_append] at this;omega
    have hd:A++X++Y++B=A++Xa++Xb++Y++B:=by rw [hXX];simp
    have hs:=swap_spec A Xa Xb Y B la (by rw [←hd,hl];omega) (a:=m-(X.length:Int)) (b:=m) (n:=(Y.length:Int)) (by omega) (by omega) (by omega)
    rw [←hd] at hs
    have hstep:roB (δ:=δ) L0 m ((Y.length:Int),((X.length:Int),A++X++Y++B))=some (.inl ((Xa.length:Int),((Xb.length:Int),(A++Y)++Xb++Xa++B))):=by
     unfold roB
     have e1:(X.length:Int)-(Y.length:Int)=(Xb.length:Int):=by omega
     have e2:(Xa.length:Int)=(Y.length:Int):=by omega
     rw [e2]
     simp (disch:=(first | omega | (simp only [LNl];omega))) only [↓SDl,SDr,if_pos,if_neg,wrap_i64',hs,e1]
    obtain ⟨A1,X1,Y1,B1,q1,q2,q3,q4⟩:=ro_loop L0 m hL0 k (A++Y) Xb Xa B (by omega) (by rintro rfl;simp at lb;omega) (by rintro rfl;simp at la;omega) (by simp only [List.length_append];omega) (by rw [List.length_append];omega)
    refine ⟨A1,X1,Y1,B1,q1,q2,by rw [loopO_eq,hstep];exact q3,?_⟩
    rw [q4,hXX];simp
theorem rot_spec (A X Y B:List Bnd) (hX:X≠[]) (hY:Y≠[]) (hl:(A++X++Y++B).length≤1000000) {a m b:Int} (ha:a=(A.length:Int)) (hm:m=((A.length+X.length:Nat):Int)) (hb:b=((A.length+X.length+Y.length:Nat):Int)) :
 slices_rotateCmpFunc_api_Binding (A++X++Y++B,(a,(m,b)))=some (A++Y++X++B):=by
 have hlen:=hl
 simp only [List.length_append] at hlen
 rw [ro_eq]
 obtain ⟨A1,X1,Y1,B1,q1,q2,q3,q4⟩:=ro_loop (δ:=List Bnd) (A++X++Y++B) m hl (X.length+Y.length) A X Y B (Nat.le_refl _) hX hY rfl hm
 have e1:IntKind.wrap .i64 (b-m)=(Y.length:Int):=by rw [wrap_i64' (by omega)];omega
 have e2:IntKind.wrap .i64 (m-a)=(X.length:Int):=by rw [wrap_i64' (by omega)];omega
 rw [e1,e2]
 refine joinO_eq q3 ?_
 have hll:(A1++Y1++X1++B1).length=(A++Y++X++B).length:=by rw [q4]
 simp only [List.length_append] at hll
 have hs:=swap_spec A1 X1 [] Y1 B1 q1 (by simp only [List.length_append,List.length_nil];omega) (a:=m-(X1.length:Int)) (b:=m) (n:=(X1.length:Int)) (by omega) (by simp;omega) rfl
 rw [List.append_nil,List.append_nil] at hs
 simp (disch:=(first | omega | (simp only [LNl];omega))) only [↓SDl,SDr,if_pos,if_neg,wrap_i64',hs,q4]
section
variable {V:Bnd→Prop} {c:Bnd→Bnd→Int} (hc:∀x y,V x→V y→registrar_Lookup_1 (x,y)=some (c x y)) (W:Weak V (fun x y=>c x y<0))
include hc W
theorem is_inner {δ:Type} (L0:List Bnd) (hL0:L0.length≤1000000) (A:List Bnd) (x:Bnd) (R:List Bnd) (hx:V x) {a:Int} (ha:a=(A.length:Int)):∀(k:Nat) (S1 S2:List Bnd),S1.length=k→(A++S1++x::(S2++R)).length=L0.length→(∀y∈S1++S2,V y)→Srt (fun x y=>c x y<0) (S1++S2)→(∀y∈S2,c x y<0) →
 ∃j S',loopO (isI (δ:=δ) L0 a) (((A.length+S1.length:Nat):Int),A++S1++x::(S2++R))=some (.inl (j,A++S'++R))∧S'.Perm (x::(S1++S2))∧Srt (fun x y=>c x y<0) S'
 | 0,S1,S2,hk,hl,hV,hS,h2=>by
   obtain rfl:=List.length_eq_zero_iff.1 hk
   refine ⟨((A.length+([]:List Bnd).length:Nat):Int),x::S2,?_,List.Perm.refl _,List.pairwise_cons.2 ⟨fun y hy=>W.asym x y hx (hV y (by simpa using hy)) (h2 y hy),hS⟩⟩
   rw [loopO_eq]
   have hstep:isI (δ:=δ) L0 a (((A.length+([]:List Bnd).length:Nat):Int),A++[]++x::(S2++R))=some (.inr (.inl (((A.length+([]:List Bnd).length:Nat):Int),A++[]++x::(S2++R)))):=by
    unfold isI
    simp (disch:=(first | omega | (simp only [LNl];omega))) only [↓SDl,SDr,if_pos,if_neg]
   rw [hstep]
   simp
 | k+1,S1,S2,hk,hl,hV,hS,h2=>by
   obtain ⟨S,z,rfl⟩:=last_of (l:=S1) (by rintro rfl;simp at hk)
   have lS:S.length=k:=by rw [List.length_append,List.length_singleton] at hk;omega
   have hz:V z:=hV z (by simp)
   have hlen:=hl
   simp only [List.length_append,List.length_cons,List.length_nil] at hlen
   obtain ⟨P,hP⟩:∃P,P=A++S:=⟨_,rfl⟩
   have lP:P.length=A.length+k:=by rw [hP,List.length_append,lS]
   have hd:A++(S++[z])++x::(S2++R)=P++z::x::(S2++R):=by rw [hP];simp
   have hj:((A.length+(S++[z]).length:Nat):Int)=((P.length+1:Nat):Int):=by rw [List.length_append,List.length_singleton];omega
   have hcmp:=hc x z hx hz
   rw [hj,hd,loopO_eq]
   by_cases hlt:c x z<0
   ·have hstep:isI (δ:=δ) L0 a (((P.length+1:Nat):Int),P++z::x::(S2++R))=some (.inl (((A.length+S.length:Nat):Int),A++S++x::((z::S2)++R))):=by
     have e1:((P.length+1:Nat):Int)-1=(P.length:Int):=by omega
     have e2:((A.length+S.length:Nat):Int)=(P.length:Int):=by omega
     have e3:A++S++x::((z::S2)++R)=P++x::z::(S2++R):=by rw [hP];simp
     rw [e2,e3]
     unfold isI
     simp (disch:=(first | omega | (simp only [LNl];omega))) only [↓SDl,SDr,if_pos,if_neg,wrap_i64',e1,↓ad_get1,↓ad_get2,ad_set1,ad_set2,hcmp,hlt,decide_true]
    rw [hstep]
    obtain ⟨j,S',q1,q2,q3⟩:=is_inner L0 hL0 A x R hx ha k S (z::S2) lS (by simp only [List.length_append,List.length_cons];omega) (fun y hy=>hV y (by simp at hy ⊢;rcases hy with h | h | h<;>simp [h])) (by simpa using hS) (fun y hy=>by
     rcases List.mem_cons.1 hy with rfl | h
     ·exact hlt
     ·exact h2 y h)
    exact ⟨j,S',q1,q2.trans (by simp),q3⟩
   ·have hstep:isI (δ:=δ) L0 a (((P.length+1:Nat):Int),P++z::x::(S2++R))=some (.inr (.inl (((P.length+1:Nat):Int),P++z::x::(S2++R)))):=by
     have e1:((P.length+1:Nat):Int)-1=(P.length:Int):=by omega
     unfold isI
     simp (disch:=(first | omega | (simp only [LNl];omega))) only [↓SDl,SDr,if_pos,if_neg,wrap_i64',e1,↓ad_get1,↓ad_get2,ad_set1,ad_set2,hcmp,hlt,decide_false]
    rw [hstep]
    have hS1:=(List.pairwise_append.1 hS).1
    refine ⟨((P.length+1:Nat):Int),(S++[z])++x::S2,by rw [hP];simp,?_,?_⟩
    ·exact List.perm_middle
    ·refine srt_app hS1 (List.pairwise_cons.2 ⟨fun y hy=>W.asym x y hx (hV y (by simp [hy])) (h2 y hy),(List.pairwise_append.1 hS).2.1⟩) fun y hy w hw => ?_
     rcases List.mem_cons.1 hw with rfl | hw
     ·exact srt_last W hS1 (fun q hq=>hV q (List.mem_append_left _ hq)) hx hlt y hy
     ·exact (List.pairwise_append.1 hS).2.2 y hy w hw
theorem is_outer (L0:List Bnd) (hL0:L0.length≤1000000) (A B:List Bnd) {a b:Int} (ha:a=(A.length:Int)) (hV:∀y∈L0,V y):∀(k:Nat) (S T:List Bnd),T.length=k→0<S.length→(A++S++T++B).Perm L0→b=((A.length+S.length+T.length:Nat):Int)→Srt (fun x y=>c x y<0) S →
 ∃S',loopO (isO L0 a b) (((A.length+S.length:Nat):Int),A++S++T++B)=some (A++S'++B)∧S'.Perm (S++T)∧Srt (fun x y=>c x y<0) S'
 | 0,S,T,hk,h0,hp,hb,hS=>by
   obtain rfl:=List.length_eq_zero_iff.1 hk
   refine ⟨S,?_,by simp,hS⟩
   rw [loopO_eq]
   have hstep:isO L0 a b (((A.length+S.length:Nat):Int),A++S++[]++B)=some (.inr (A++S++[]++B)):=by
    have hb':¬((A.length+S.length:Nat):Int)<b:=by rw [hb];simp
    unfold isO
    simp (disch:=(first | omega | (simp only [LNl];omega))) only [↓SDl,SDr,if_pos,if_neg,hb']
   rw [hstep];simp
 | k+1,S,T,hk,h0,hp,hb,hS=>by
   cases T with
   | nil=>simp at hk
   | cons x T =>
     have hl:=hp.length_eq
     have hlen:=hl
     simp only [List.length_append,List.length_cons] at hlen
     have hmem:∀y∈A++S++(x::T)++B,V y:=fun y hy=>hV y (hp.mem_iff.1 hy)
     have hx:V x:=hmem x (by simp)
     obtain ⟨j,S',q1,q2,q3⟩:=is_inner hc W (δ:=(Int×List Bnd) ⊕ List Bnd) L0 hL0 A x (T++B) hx ha S.length S [] rfl (by simp only [List.length_append,List.length_cons,List.length_nil];omega) (fun y hy=>hmem y (by simp at hy ⊢;simp [hy])) (by simpa using hS) (fun y hy=>by cases hy)
     have lS':S'.length=S.length+1:=by rw [q2.length_eq];simp
     have q2':S'.Perm (x::S):=by simpa using q2
     have hd:A++S++(x::T)++B=A++S++x::([]++(T++B)):=by simp
     have hstep:isO L0 a b (((A.length+S.length:Nat):Int),A++S++(x::T)++B)=some (.inl (((A.length+S'.length:Nat):Int),A++S'++T++B)):=by
      have hb':((A.length+S.length:Nat):Int)<b:=by rw [hb];simp only [List.length_cons];omega
      have e1:((A.length+S.length:Nat):Int)+1=((A.length+S'.length:Nat):Int):=by omega
      have e2:A++S'++T++B=A++S'++(T++B):=by simp
      rw [hd,e2]
      unfold isO
      simp (disch:=(first | omega | (simp only [LNl];omega))) only [↓SDl,SDr,if_pos,if_neg,hb']
      refine joinO_eq q1 ?_
      simp (disch:=(first | omega | (simp only [LNl];omega))) only [↓SDl,SDr,if_pos,if_neg,wrap_i64',e1]
     rw [loopO_eq,hstep]
     obtain ⟨S2,r1,r2,r3⟩:=is_outer (b:=b) L0 hL0 A B ha hV k S' T (by simpa using hk) (by omega) (by
      refine List.Perm.trans ?_ hp
      refine List.Perm.append_right B ?_
      rw [List.append_assoc,List.append_assoc]
      refine List.Perm.append_left A ((q2'.append_right T).trans ?_)
      exact List.perm_middle.symm) (by rw [hb,lS'];simp only [List.length_cons];omega) q3
     exact ⟨S2,r1,r2.trans ((q2'.append_right T).trans List.perm_middle.symm),r3⟩
theorem ins_spec (A X B:List Bnd) (hX:X≠[]) (hl:(A++X++B).length≤1000000) (hV:∀y∈A++X++B,V y) {a b:Int} (ha:a=(A.length:Int)) (hb:b=((A.length+X.length:Nat):Int)) :
 ∃Z,slices_insertionSortCmpFunc_api_Binding (A++X++B,(a,b))=some (A++Z++B)∧Z.Perm X∧Srt (fun x y=>c x y<0) Z:=by
 cases X with
 | nil=>exact (hX rfl).elim
 | cons x T =>
   have hlen:=hl
   simp only [List.length_append,List.length_cons] at hlen
   obtain ⟨Z,q1,q2,q3⟩:=is_outer hc W (A++(x::T)++B) hl A B ha hV T.length [x] T rfl (by simp) (by simp) (b:=b) (by rw [hb];simp;omega) (List.pairwise_singleton _ _)
   refine ⟨Z,?_,by simpa using q2,q3⟩
   rw [is_eq]
   have e1:IntKind.wrap .i64 (a+1)=((A.length+[x].length:Nat):Int):=by rw [wrap_i64' (by omega),ha];simp
   have e2:A++(x::T)++B=A++[x]++T++B:=by simp
   rw [e1]
   rw [e2] at q1 ⊢
   exact q1
end
end Go.Proofs.Ytlaccfegaoaakaa

set_option maxRecDepth 100000
set_option maxHeartbeats 4000000
namespace Go.Proofs.Ytlaccfegaoaakaa
open Go.RowKit
theorem gA (P:List Bnd) (z:Bnd) (Q:List Bnd) {k:Nat} (h:k=P.length):(P++z::Q).getD k dB=z:=by
 rw [List.getD_eq_getElem?_getD,getA P z Q h];rfl
theorem half_e {i j:Int} (hi:0≤i∧i≤1000000000) (hj:0≤j∧j≤1000000000):Int.fdiv (IntKind.wrap .u64 (i+j)) 2=(i+j) / 2:=by
 have e:IntKind.wrap .u64 (i+j)=i+j:=by
  show (i+j) % _=i+j
  exact Int.emod_eq_of_lt (by omega) (by show i+j<18446744073709551616;omega)
 rw [e,Int.fdiv_eq_ediv_of_nonneg _ (by omega)]
section
variable {V:Bnd→Prop} {c:Bnd→Bnd→Int} (hc:∀x y,V x→V y→registrar_Lookup_1 (x,y)=some (c x y)) (W:Weak V (fun x y=>c x y<0))
include hc
theorem smA_s {δ:Type} (L:List Bnd) (hL:L.length≤1000000) (hV:∀y∈L,V y) {a m b:Int} (h1:0≤a) (h2:a<L.length) (h3:0≤m) (h4:m≤b) (h5:b≤L.length) :
 ∃r,loopO (smA (δ:=δ) L a) (b,m)=some (.inl r)∧m≤r∧r≤b∧(r=m∨c (L.getD (r-1).toNat dB) (L.getD a.toNat dB)<0)∧(r=b∨¬c (L.getD r.toNat dB) (L.getD a.toNat dB)<0):=by
 have hg:∀h:Int,0≤h→h<L.length→V (L.getD h.toNat dB):=fun h k1 k2=>hV _ (by rw [getD_get _ (show h.toNat<L.length by omega)];exact List.getElem_mem _)
 have hb:∀(h:Int) {β:Type} (f:Bnd→Option β),0≤h→h<L.length→bindO L[Int.toNat h]? f=f (L.getD h.toNat dB):=fun h β f k1 k2=>get_bz dB f ⟨k1,k2⟩
 refine bin_search (fun h=>c (L.getD h.toNat dB) (L.getD a.toNat dB)<0) m b h3 (by omega) (fun hi lo g1 g2 g3 => ?_) (fun hi lo g1 g2 g3 hp => ?_) (fun hi lo g1 g2 g3 hp => ?_) (b-m).toNat b m (Nat.le_refl _) (Int.le_refl _) h4 (Int.le_refl _) (.inl rfl) (.inl rfl)
 ·unfold smA
  simp (disch:=(first | omega | (simp only [LNl];omega))) only [↓SDl,SDr,if_neg]
 ·have hm:=half_e (i:=lo) (j:=hi) (by omega) (by omega)
  have hcc:=hc _ _ (hg ((lo+hi) / 2) (by omega) (by omega)) (hg a h1 h2)
  unfold smA
  simp (disch:=(first | omega | (simp only [LNl];omega))) only [↓SDl,SDr,if_pos,if_neg,hm,wrap_i64',↓hb,hcc,hp]
 ·have hm:=half_e (i:=lo) (j:=hi) (by omega) (by omega)
  have hcc:=hc _ _ (hg ((lo+hi) / 2) (by omega) (by omega)) (hg a h1 h2)
  unfold smA
  simp (disch:=(first | omega | (simp only [LNl];omega))) only [↓SDl,SDr,if_pos,if_neg,hm,wrap_i64',↓hb,hcc,hp]
theorem smD_s {δ:Type} (L:List Bnd) (hL:L.length≤1000000) (hV:∀y∈L,V y) {a m:Int} (h1:0≤a) (h4:a≤m) (h5:m<L.length) :
 ∃r,loopO (smD (δ:=δ) L m) (m,a)=some (.inl r)∧a≤r∧r≤m∧(r=a∨¬c (L.getD m.toNat dB) (L.getD (r-1).toNat dB)<0)∧(r=m∨¬ ¬c (L.getD m.toNat dB) (L.getD r.toNat dB)<0):=by
 have hg:∀h:Int,0≤h→h<L.length→V (L.getD h.toNat dB):=fun h k1 k2=>hV _ (by rw [getD_get _ (show h.toNat<L.length by omega)];exact List.getElem_mem _)
 have hb:∀(h:Int) {β:Type} (f:Bnd→Option β),0≤h→h<L.length→bindO L[Int.toNat h]? f=f (L.getD h.toNat dB):=fun h β f k1 k2=>get_bz dB f ⟨k1,k2⟩
 refine bin_search (fun h=>¬c (L.getD m.toNat dB) (L.getD h.toNat dB)<0) a m h1 (by omega) (fun hi lo g1 g2 g3 => ?_) (fun hi lo g1 g2 g3 hp => ?_) (fun hi lo g1 g2 g3 hp => ?_) (m-a).toNat m a (Nat.le_refl _) (Int.le_refl _) h4 (Int.le_refl _) (.inl rfl) (.inl rfl)
 ·unfold smD
  simp (disch:=(first | omega | (simp only [LNl];omega))) only [↓SDl,SDr,if_neg]
 ·have hm:=half_e (i:=lo) (j:=hi) (by omega) (by omega)
  have hcc:=hc _ _ (hg m (by omega) h5) (hg ((lo+hi) / 2) (by omega) (by omega))
  unfold smD
  simp (disch:=(first | omega | (simp only [LNl];omega))) only [↓SDl,SDr,if_pos,if_neg,hm,wrap_i64',↓hb,hcc,hp]
 ·have hm:=half_e (i:=lo) (j:=hi) (by omega) (by omega)
  have hcc:=hc _ _ (hg m (by omega) h5) (hg ((lo+hi) / 2) (by omega) (by omega))
  have hp:=Classical.not_not.1 hp
  unfold smD
  simp (disch:=(first | omega | (simp only [LNl];omega))) only [↓SDl,SDr,if_pos,if_neg,hm,wrap_i64',↓hb,hcc,hp]
theorem smF_s {δ:Type} (L:List Bnd) (hL:L.length≤1000000) (hV:∀y∈L,V y) {n lo0 hi0:Int} (h1:0≤lo0) (h4:lo0≤hi0) (h5:hi0≤L.length) (h6:n-lo0≤L.length) (h7:hi0≤n) (h8:n≤3000000) :
 ∃r,loopO (smF (δ:=δ) L n) (hi0,lo0)=some (.inl r)∧lo0≤r∧r≤hi0∧(r=lo0∨¬c (L.getD (n-1-(r-1)).toNat dB) (L.getD (r-1).toNat dB)<0)∧(r=hi0∨¬ ¬c (L.getD (n-1-r).toNat dB) (L.getD r.toNat dB)<0):=by
 have hg:∀h:Int,0≤h→h<L.length→V (L.getD h.toNat dB):=fun h k1 k2=>hV _ (by rw [getD_get _ (show h.toNat<L.length by omega)];exact List.getElem_mem _)
 have hb:∀(h:Int) {β:Type} (f:Bnd→Option β),0≤h→h<L.length→bindO L[Int.toNat h]? f=f (L.getD h.toNat dB):=fun h β f k1 k2=>get_bz dB f ⟨k1,k2⟩
 refine bin_search (fun h=>¬c (L.getD (n-1-h).toNat dB) (L.getD h.toNat dB)<0) lo0 hi0 h1 (by omega) (fun hi lo g1 g2 g3 => ?_) (fun hi lo g1 g2 g3 hp => ?_) (fun hi lo g1 g2 g3 hp => ?_) (hi0-lo0).toNat hi0 lo0 (Nat.le_refl _) (Int.le_refl _) h4 (Int.le_refl _) (.inl rfl) (.inl rfl)
 ·unfold smF
  simp (disch:=(first | omega | (simp only [LNl];omega))) only [↓SDl,SDr,if_neg]
 ·have hm:=half_e (i:=lo) (j:=hi) (by omega) (by omega)
  have hcc:=hc _ _ (hg (n-1-(lo+hi) / 2) (by omega) (by omega)) (hg ((lo+hi) / 2) (by omega) (by omega))
  unfold smF
  simp (disch:=(first | omega | (simp only [LNl];omega))) only [↓SDl,SDr,if_pos,if_neg,hm,wrap_i64',↓hb,hcc,hp]
 ·have hm:=half_e (i:=lo) (j:=hi) (by omega) (by omega)
  have hcc:=hc _ _ (hg (n-1-(lo+hi) / 2) (by omega) (by omega)) (hg ((lo+hi) / 2) (by omega) (by omega))
  have hp:=Classical.not_not.1 hp
  unfold smF
  simp (disch:=(first | omega | (simp only [LNl];omega))) only [↓SDl,SDr,if_pos,if_neg,hm,wrap_i64',↓hb,hcc,hp]
end
theorem smC_s (L0 A Y R:List Bnd) (x:Bnd) (hl:(A++x::(Y++R)).length=L0.length) (hL:L0.length≤1000000) {a r:Int} (ha:a=(A.length:Int)) (hr:r=((A.length+1+Y.length:Nat):Int)):loopO (smC L0 r) (a,A++x::(Y++R))=some (.inr (A++(Y++x::R))):=by
 subst ha hr
 have hlen:=hl
 simp only [List.length_append,List.length_cons] at hlen
 refine loopO_from (fun j=>(((A.length+j:Nat):Int),A++(Y.take j++x::(Y.drop j++R)))) Y.length (by simp) (fun j hj => ?_) ?_
 ·have e1:=drop_cons Y dB hj
  have t1:=take_snoc Y dB hj
  obtain ⟨y,hy⟩:∃y,Y.getD j dB=y:=⟨_,rfl⟩
  rw [hy] at e1 t1
  obtain ⟨P,hP⟩:∃P,P=A++Y.take j:=⟨_,rfl⟩
  obtain ⟨R',hR'⟩:∃R',R'=Y.drop (j+1)++R:=⟨_,rfl⟩
  have lP:P.length=A.length+j:=by rw [hP,List.length_append,List.length_take];omega
  have lR:P.length+2+R'.length=L0.length:=by rw [lP,hR',List.length_append,List.length_drop];omega
  have hL1:A++(Y.take j++x::(Y.drop j++R))=P++x::y::R':=by rw [hP,hR',e1];simp
  have hL2:A++(Y.take (j+1)++x::(Y.drop (j+1)++R))=P++y::x::R':=by rw [hP,hR',t1];simp
  have e3:((A.length+(j+1):Nat):Int)=(P.length:Int)+1:=by omega
  have e4:((A.length+j:Nat):Int)=(P.length:Int):=by omega
  have e5:((A.length+1+Y.length:Nat):Int)-1=((A.length+Y.length:Nat):Int):=by omega
  rw [hL1,hL2,e3,e4]
  unfold smC
  simp (disch:=(first | omega | (simp only [LNl];omega))) only [↓SDl,SDr,if_pos,if_neg,wrap_i64',e5,↓ad_get1,↓ad_get2,ad_set1,ad_set2]
 ·have e5:((A.length+1+Y.length:Nat):Int)-1=((A.length+Y.length:Nat):Int):=by omega
  unfold smC
  simp (disch:=(first | omega | (simp only [LNl];omega))) only [↓SDl,SDr,if_neg,wrap_i64',e5,List.take_length,List.drop_length,List.nil_append]
theorem smE_s (L0 P0 X R:List Bnd) (y:Bnd) (hl:(P0++X++y::R).length=L0.length) (hL:L0.length≤1000000) {m r:Int} (hm:m=((P0.length+X.length:Nat):Int)) (hr:r=(P0.length:Int)):loopO (smE L0 r) (m,P0++X++y::R)=some (.inr (P0++(y::X++R))):=by
 subst hm hr
 have hlen:=hl
 simp only [List.length_append,List.length_cons] at hlen
 refine loopO_from (fun j=>(((P0.length+(X.length-j):Nat):Int),P0++X.take (X.length-j)++y::(X.drop (X.length-j)++R))) X.length (by simp) (fun j hj => ?_) ?_
 ·obtain ⟨k,hk⟩:∃k,X.length-j=k+1:=⟨X.length-j-1,by omega⟩
  have hk1:X.length-(j+1)=k:=by omega
  have hkx:k<X.length:=by omega
  have e1:=drop_cons X dB hkx
  have t1:=take_snoc X dB hkx
  obtain ⟨x,hx⟩:∃x,X.getD k dB=x:=⟨_,rfl⟩
  rw [hx] at e1 t1
  obtain ⟨P,hP⟩:∃P,P=P0++X.take k:=⟨_,rfl⟩
  obtain ⟨R',hR'⟩:∃R',R'=X.drop (k+1)++R:=⟨_,rfl⟩
  have lP:P.length=P0.length+k:=by rw [hP,List.length_append,List.length_take];omega
  have lR:P.length+2+R'.length=L0.length:=by rw [lP,hR',List.length_append,List.length_drop];omega
  have hL1:P0++X.take (X.length-j)++y::(X.drop (X.length-j)++R)=P++x::y::R':=by rw [hk,hP,hR',t1];simp
  have hL2:P0++X.take (X.length-(j+1))++y::(X.drop (X.length-(j+1))++R)=P++y::x::R':=by rw [hk1,hP,hR',e1];simp
  have e3:((P0.length+(X.length-(j+1)):Nat):Int)=(P.length:Int):=by omega
  have e4:((P0.length+(X.length-j):Nat):Int)=(P.length:Int)+1:=by omega
  have e5:(P.length:Int)+1-1=(P.length:Int):=by omega
  rw [hL1,hL2,e3,e4]
  unfold smE
  simp (disch:=(first | omega | (simp only [LNl];omega))) only [↓SDl,SDr,if_pos,if_neg,wrap_i64',e5,↓ad_get1,↓ad_get2,ad_set1,ad_set2]
 ·rw [Nat.sub_self]
  unfold smE
  simp (disch:=(first | omega | (simp only [LNl];omega))) only [↓SDl,SDr,if_neg,wrap_i64',List.take_zero,List.drop_zero,List.append_nil,Nat.add_zero,List.cons_append]
end Go.Proofs.Ytlaccfegaoaakaa
