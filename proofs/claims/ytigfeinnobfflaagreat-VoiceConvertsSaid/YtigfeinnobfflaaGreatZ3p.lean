import Derived.Test.YtigfeinnobfflaaGreatXBp
import Derived.Test.YtigfeinnobfflaaGreatHBp
import Derived.Test.YtigfeinnobfflaaGreatProg
set_option linter.unusedSimpArgs false
set_option linter.unusedVariables false
namespace Go.Proofs.YtigfeinnobfflaaGreat
open Go.RowKit
theorem qN {α:Type} (p:Prop) [Decidable p] (a b:α):(bif decide p then a else b)=if p then a else b:=by by_cases h:p<;>simp [h]
theorem iI {α:Type} {l:List α} {i:Nat} (h1:i<l.length):l[((i:Nat):Int).toNat]? = some l[i]:=by rw [Int.toNat_natCast];exact List.getElem?_eq_getElem h1
theorem least {p:Nat->Prop} (h:∃n,p n):∃n,p n/\∀m,m<n->¬p m:=by
 obtain ⟨n,hn⟩:=h
 induction n using Nat.strongRecOn with
 | _ n ih =>
   by_cases hx:∃m,m<n/\p m
   ·obtain ⟨m,h1,h2⟩:=hx;exact ih m h1 h2
   ·exact ⟨n,hn,fun m hm hp=>hx ⟨m,hm,hp⟩⟩
theorem ajy {α:Type} {l:List α} {i:Nat} (d:α) (h1:i<l.length):l[((i:Nat):Int).toNat]? = some (l.getD i d):=by rw [iI h1,List.getD_eq_getElem?_getD,List.getElem?_eq_getElem h1];rfl
theorem Zr {α:Type} {l:List α} {i:Nat} (d:α) (h1:i<l.length):l[i]? = some (l.getD i d):=by rw [List.getD_eq_getElem?_getD,List.getElem?_eq_getElem h1];rfl
theorem NT {α:Type} {l:List α} {i:Nat} (d:α) (h1:i<l.length):l.getD i d=l[i]:=by rw [List.getD_eq_getElem?_getD,List.getElem?_eq_getElem h1];rfl
def Ic {υ1 υ2 α β:Type} (R:υ1->υ2->Prop) (k:α->Option β) (o1:Option (υ1 ⊕ (α ⊕ β))) (o2:Option (υ2 ⊕ β)):Prop :=
 (∃x y,o1=some (.inl x)/\o2=some (.inl y)/\R x y)\/∃r s,o1=some (.inr r)/\o2=some (.inr s)/\au (some r) k=some s
section
variable {υ1 υ2 α β γ:Type} {R:υ1->υ2->Prop} {k:α->Option β} {o2:Option (υ2 ⊕ β)}
theorem Ic.next {x:υ1} {y:υ2} (h:R x y):Ic R k (some (.inl x)) (some (.inl y)) := .inl ⟨x,y,rfl,rfl,h⟩
theorem Ic.stop {r:α ⊕ β} {s:β} (h:au (some r) k=some s):Ic R k (some (.inr r)) (some (.inr s)) := .inr ⟨r,s,rfl,rfl,h⟩
theorem Ic.join {x:Option (γ ⊕ (υ1 ⊕ (α ⊕ β)))} {f:γ->Option (υ1 ⊕ (α ⊕ β))} (a:γ) (h:x=some (.inl a)) (hk:Ic R k (f a) o2):Ic R k (au x f) o2:=by rw [h];exact hk
theorem Ic.bind {x:Option γ} {f:γ->Option (υ1 ⊕ (α ⊕ β))} (a:γ) (h:x=some a) (hk:Ic R k (f a) o2):Ic R k (ah x f) o2:=by rw [h];exact hk
end
theorem QA {υ β:Type} {body:υ->Option (υ ⊕ β)} (I:υ->Prop) (Q:β->Prop) (μ:υ->Nat) (h:∀x,I x->(∃b,body x=some (.inr b)/\Q b)\/∃y,body x=some (.inl y)/\I y/\μ y<μ x) {x:υ} (hx:I x):∃r,bn body x=some r/\Q r:=by
 suffices hs:∀n x,μ x<=n->I x->∃r,bn body x=some r/\Q r from hs _ x (Nat.le_refl _) hx
 intro n
 induction n with
 | zero =>
   intro x hm hx;rcases h x hx with ⟨b,h1,h2⟩ | ⟨y,h1,h2,h3⟩
   ·exact ⟨b,by rw [Gp,h1],h2⟩
   ·omega
 | succ n ih =>
   intro x hm hx;rcases h x hx with ⟨b,h1,h2⟩ | ⟨y,h1,h2,h3⟩
   ·exact ⟨b,by rw [Gp,h1],h2⟩
   ·obtain ⟨r,hr,hq⟩:=ih y (by omega) h2;exact ⟨r,by rw [Gp,h1];exact hr,hq⟩
def yY {υ β:Type} (I:υ->Prop) (Q:β->Prop) (μ:υ->Nat) (m:Nat) (o:Option (υ ⊕ β)):Prop:=(∃b,o=some (.inr b)/\Q b)\/∃y,o=some (.inl y)/\I y/\μ y<m
section
variable {υ β γ:Type} {I:υ->Prop} {Q:β->Prop} {μ:υ->Nat} {m:Nat}
theorem yY.next {y:υ} (h:I y) (k:μ y<m):yY I Q μ m (some (.inl y)) := .inr ⟨y,rfl,h,k⟩
theorem yY.stop {b:β} (h:Q b):yY I Q μ m (some (.inr b)) := .inl ⟨b,rfl,h⟩
theorem yY.join {x:Option (γ ⊕ (υ ⊕ β))} {f:γ->Option (υ ⊕ β)} (a:γ) (h:x=some (.inl a)) (hk:yY I Q μ m (f a)):yY I Q μ m (au x f):=by rw [h];exact hk
theorem yY.bind {x:Option γ} {f:γ->Option (υ ⊕ β)} (a:γ) (h:x=some a) (hk:yY I Q μ m (f a)):yY I Q μ m (ah x f):=by rw [h];exact hk
end
theorem NU {α:Type} {f l:List α} (h:l.length=f.length):Gm f 0 l=l:=by
 unfold Gm;rw [List.take_zero,List.nil_append,Nat.zero_add,h,List.drop_length,List.append_nil]
theorem aj {n:Int} (h : -9223372036854775808<=n/\n<=9223372036854775807):IntKind.wrap .i64 n=n:=wrap_i64 h.1 h.2
theorem Ec (n:Int):IntKind.wrap .u8 n=n % 256:=by
 show (if (false&&decide (n % 256>=128))=true then n % 256-256 else n % 256)=_;simp
theorem Zt (n:Int):IntKind.wrap .u16 n=n % 65536:=by
 show (if (false&&decide (n % 65536>=32768))=true then n % 65536-65536 else n % 65536)=_;simp
theorem GX (n:Int):IntKind.wrap .u32 n=n % 4294967296:=by
 show (if (false&&decide (n % 4294967296>=2147483648))=true then n % 4294967296-4294967296 else n % 4294967296)=_;simp
theorem GY (n:Int):IntKind.wrap .u64 n=n % 18446744073709551616:=by
 show (if (false&&decide (n % 18446744073709551616>=9223372036854775808))=true then n % 18446744073709551616-18446744073709551616 else n % 18446744073709551616)=_;simp
theorem ajz {n:Int} (h:Xx (.int .u8) n):0<=n/\n<=255:=wf_u8 h
def Bytes (l:List Int):Prop:=∀x∈l,0<=x/\x<=255
theorem Bytes.app {a b:List Int} (h:Bytes a) (k:Bytes b):Bytes (a++b):=fun x hx=>by
 rcases List.mem_append.1 hx with e | e
 ·exact h x e
 ·exact k x e
theorem Bytes.take {l:List Int} (h:Bytes l) (n:Nat):Bytes (l.take n):=fun x hx=>h x (List.mem_of_mem_take hx)
theorem Bytes.drop {l:List Int} (h:Bytes l) (n:Nat):Bytes (l.drop n):=fun x hx=>h x (List.mem_of_mem_drop hx)
theorem Bytes.get {l:List Int} (h:Bytes l) {i:Nat} (hi:i<l.length):0<=l[i]/\l[i]<=255:=h _ (List.getElem_mem hi)
theorem Bytes.getD {l:List Int} (h:Bytes l) (i:Nat):0<=l.getD i 0/\l.getD i 0<=255:=by
 rw [List.getD_eq_getElem?_getD];cases hi:l[i]? with
 | none=>simp
 | some x=>exact h x (List.mem_of_getElem? hi)
def So {α:Type} (o:Option α) (P:α->Prop):Prop:=∃a,o=some a/\P a
def Sm {α β:Type} (P:α->Prop) (Q:β->Prop):α ⊕ β->Prop
 | .inl a=>P a
 | .inr b=>Q b
section
variable {α β γ:Type} {P:α->Prop} {Q:β->Prop}
theorem So.mk {a:α} (h:P a):So (some a) P:=⟨a,rfl,h⟩
theorem So.imp {o:Option α} {P':α->Prop} (h:So o P) (k:∀a,P a->P' a):So o P':=by
 obtain ⟨a,e,p⟩:=h;exact ⟨a,e,k a p⟩
theorem So.bind {o:Option α} {f:α->Option β} (h:So o P) (k:∀a,P a->So (f a) Q):So (ah o f) Q:=by
 obtain ⟨a,e,p⟩:=h;rw [e];exact k a p
theorem So.is {o:Option α} {f:α->Option β} {a:α} (h:o=some a) (k:So (f a) Q):So (ah o f) Q:=by
 rw [h];exact k
theorem So.get {l:List α} {i:Nat} {f:α->Option β} (h:i<l.length) (k:∀x,x∈l->l[i]? = some x->So (f x) Q):So (ah l[i]? f) Q:=by
 rw [List.getElem?_eq_getElem h];exact k _ (List.getElem_mem h) (List.getElem?_eq_getElem h)
theorem So.join {o:Option (α ⊕ β)} {f:α->Option β} (h:So o (Sm P Q)) (k:∀a,P a->So (f a) Q):So (au o f) Q:=by
 obtain ⟨a,e,p⟩:=h;cases a with
 | inl a=>rw [e];exact k a p
 | inr b=>rw [e];exact ⟨b,rfl,p⟩
theorem So.inl {a:α} (h:P a):So (some (.inl a)) (Sm P Q):=⟨_,rfl,h⟩
theorem So.inr {b:β} (h:Q b):So (some (.inr b)) (Sm P Q):=⟨_,rfl,h⟩
theorem So.out {o:Option β} (h:So o Q):So (aA o) (Sm P Q):=by
 obtain ⟨b,e,p⟩:=h;rw [e];exact ⟨_,rfl,p⟩
theorem So.if {c:Bool} {a b:Option α} (h:c=true->So a P) (k:c=false->So b P):So (bif c then a else b) P:=by
 cases c with
 | true=>exact h rfl
 | false=>exact k rfl
theorem So.dec {p:Prop} [Decidable p] {a b:Option α} (h:p->So a P) (k:¬p->So b P):So (bif decide p then a else b) P:=by
 by_cases e:p
 ·rw [decide_eq_true e];exact h e
 ·rw [decide_eq_false e];exact k e
theorem So.pos {p:Prop} [Decidable p] {a b:Option α} (e:p) (h:So a P):So (bif decide p then a else b) P:=by
 rw [decide_eq_true e];exact h
theorem So.neg {p:Prop} [Decidable p] {a b:Option α} (e:¬p) (h:So b P):So (bif decide p then a else b) P:=by
 rw [decide_eq_false e];exact h
theorem So.loop {body:α->Option (α ⊕ β)} (I:α->Prop) (μ:α->Nat) (h:∀x,I x->So (body x) (Sm (fun y=>I y/\μ y<μ x) Q)) {x:α} (hx:I x):So (bn body x) Q:=by
 refine QA I Q μ (fun x hx => ?_) hx;obtain ⟨a,e,p⟩:=h x hx;cases a with
 | inl a=>exact .inr ⟨a,e,p⟩
 | inr b=>exact .inl ⟨b,e,p⟩
theorem So.eq {o:Option α} {a:α} (h:So o (· = a)):o=some a:=by
 obtain ⟨_,e,rfl⟩:=h;exact e
theorem So.and {o:Option α} {P':α->Prop} (h:So o P) (k:So o P'):So o (fun a=>P a/\P' a):=by
 obtain ⟨a,e,p⟩:=h;obtain ⟨b,e',q⟩:=k;rw [e] at e';cases e';exact ⟨a,e,p,q⟩
end
theorem So.both {α:Type} {p q:Prop} [Decidable p] [Decidable q] {a b:Option α} {P:α->Prop} (h1:p) (h2:q) (h:So a P):So (bif (decide p&&decide q) then a else b) P:=by
 rw [decide_eq_true h1,decide_eq_true h2];exact h
theorem So.le {α:Type} {n:Nat} {a b:Option α} {P:α->Prop} (h:So a P):So (bif decide (n<=n) then a else b) P:=So.pos (Nat.le_refl _) h
theorem vk (n:Int) : -32768<=IntKind.wrap .i16 n/\IntKind.wrap .i16 n<=32767:=by
 show -32768<=(if (true&&decide (n % 65536>=32768))=true then n % 65536-65536 else n % 65536)/\(if (true&&decide (n % 65536>=32768))=true then n % 65536-65536 else n % 65536)<=32767;split
 ·rename_i h;simp only [Bool.true_and,decide_eq_true_eq] at h;omega
 ·rename_i h;simp only [Bool.true_and,decide_eq_true_eq] at h;omega
theorem qO (n:Int):0<=IntKind.wrap .u8 n/\IntKind.wrap .u8 n<=255:=by rw [Ec];omega
def KJ:List (List (Option TI)):=[
 [none,
 some ⟨1,8,.fn,[.val .nilFunc]⟩,
 some ⟨1,8,.int .i64,[.val (.int .i64 0)]⟩,
 some ⟨1,8,.int .i64,[.val (.int .i64 0)]⟩,
 some ⟨1,1,.bool,[.val (.bool false)]⟩,
 some ⟨1,1,.int .u8,[.val (.int .u8 0)]⟩,
 some ⟨1,1,.int .u8,[.val (.int .u8 0)]⟩,
 some ⟨4,24,.agg [(0,2),(1,3),(2,4),(3,6)],[.val (.int .i64 0),.val (.int .i64 0),.val (.bool false),.val (.int .u8 0)]⟩,
 some ⟨4,24,.agg [(0,2),(1,3),(2,4),(3,6)],[.val (.int .i64 0),.val (.int .i64 0),.val (.bool false),.val (.int .u8 0)]⟩,
 some ⟨1,16,.str,[.val (.string ⟨⟨[]⟩⟩)]⟩,
 some ⟨1,16,.str,[.val (.string ⟨⟨[]⟩⟩)]⟩,
 some ⟨1,16,.str,[.val (.string ⟨⟨[]⟩⟩)]⟩,
 some ⟨1,8,.int .u64,[.val (.int .u64 0)]⟩,
 some ⟨2,24,.agg [(0,9),(1,12)],[.val (.string ⟨⟨[]⟩⟩),.val (.int .u64 0)]⟩,
 some ⟨2,24,.agg [(0,9),(1,12)],[.val (.string ⟨⟨[]⟩⟩),.val (.int .u64 0)]⟩,
 some ⟨1,8,.ptr 249,[.val (.pointer none)]⟩],
 [some ⟨1,8,.ptr 252,[.val (.pointer none)]⟩,
 some ⟨1,8,.ptr 260,[.val (.pointer none)]⟩,
 some ⟨1,8,.agg [(0,17)],[.val (.pointer none)]⟩,
 some ⟨1,8,.agg [(0,17)],[.val (.pointer none)]⟩,
 some ⟨1,16,.iface,[.val .nilIface]⟩,
 some ⟨1,4,.int .i32,[.val (.int .i32 0)]⟩,
 some ⟨2,16,.agg [(0,3),(1,3)],[.val (.int .i64 0),.val (.int .i64 0)]⟩,
 some ⟨2,16,.agg [(0,3),(1,3)],[.val (.int .i64 0),.val (.int .i64 0)]⟩,
 some ⟨1,24,.slice 67,[.val (.slice none 0 0)]⟩,
 some ⟨5,48,.agg [(0,5),(1,5),(2,23),(4,24)],[.val (.int .u8 0),.val (.int .u8 0),.val (.int .i64 0),.val (.int .i64 0),.val (.slice none 0 0)]⟩,
 some ⟨5,48,.agg [(0,5),(1,5),(2,23),(4,24)],[.val (.int .u8 0),.val (.int .u8 0),.val (.int .i64 0),.val (.int .i64 0),.val (.slice none 0 0)]⟩,
 some ⟨1,24,.slice 32,[.val (.slice none 0 0)]⟩,
 some ⟨1,8,.ptr 56,[.val (.pointer none)]⟩,
 none,
 some ⟨1,8,.fn,[.val .nilFunc]⟩,
 some ⟨1,4,.int .u32,[.val (.int .u32 0)]⟩],
 [some ⟨1,2,.int .u16,[.val (.int .u16 0)]⟩,
 some ⟨1,8,.agg [(0,3)],[.val (.int .i64 0)]⟩,
 some ⟨1,8,.agg [(0,3)],[.val (.int .i64 0)]⟩,
 some ⟨2,16,.agg [(0,3),(1,3)],[.val (.int .i64 0),.val (.int .i64 0)]⟩,
 some ⟨2,16,.agg [(0,3),(1,3)],[.val (.int .i64 0),.val (.int .i64 0)]⟩,
 some ⟨6,24,.agg [(0,4),(1,5),(2,5),(3,31),(4,3),(5,3)],[.val (.bool false),.val (.int .u8 0),.val (.int .u8 0),.val (.int .u32 0),.val (.int .i64 0),.val (.int .i64 0)]⟩,
 some ⟨6,24,.agg [(0,4),(1,5),(2,5),(3,31),(4,3),(5,3)],[.val (.bool false),.val (.int .u8 0),.val (.int .u8 0),.val (.int .u32 0),.val (.int .i64 0),.val (.int .i64 0)]⟩,
 some ⟨1,24,.slice 188,[.val (.slice none 0 0)]⟩,
 some ⟨14,128,.agg [(0,23),(2,3),(3,4),(4,3),(5,2),(6,2),(7,2),(8,3),(9,3),(10,39),(11,3),(12,3),(13,3)],[.val (.int .i64 0),.val (.int .i64 0),.val (.int .i64 0),.val (.bool false),.val (.int .i64 0),.val (.int .i64 0),.val (.int .i64 0),.val (.int .i64 0),.val (.int .i64 0),.val (.int .i64 0),.val (.slice none 0 0),.val (.int .i64 0),.val (.int .i64 0),.val (.int .i64 0)]⟩,
 some ⟨14,128,.agg [(0,23),(2,3),(3,4),(4,3),(5,2),(6,2),(7,2),(8,3),(9,3),(10,39),(11,3),(12,3),(13,3)],[.val (.int .i64 0),.val (.int .i64 0),.val (.int .i64 0),.val (.bool false),.val (.int .i64 0),.val (.int .i64 0),.val (.int .i64 0),.val (.int .i64 0),.val (.int .i64 0),.val (.int .i64 0),.val (.slice none 0 0),.val (.int .i64 0),.val (.int .i64 0),.val (.int .i64 0)]⟩,
 some ⟨3,24,.agg [(0,4),(1,2),(2,3)],[.val (.bool false),.val (.int .i64 0),.val (.int .i64 0)]⟩,
 some ⟨3,24,.agg [(0,4),(1,2),(2,3)],[.val (.bool false),.val (.int .i64 0),.val (.int .i64 0)]⟩,
 some ⟨8,64,.agg [(0,4),(1,2),(2,2),(3,2),(4,2),(5,2),(6,2),(7,2)],[.val (.bool false),.val (.int .i64 0),.val (.int .i64 0),.val (.int .i64 0),.val (.int .i64 0),.val (.int .i64 0),.val (.int .i64 0),.val (.int .i64 0)]⟩,
 some ⟨8,64,.agg [(0,4),(1,2),(2,2),(3,2),(4,2),(5,2),(6,2),(7,2)],[.val (.bool false),.val (.int .i64 0),.val (.int .i64 0),.val (.int .i64 0),.val (.int .i64 0),.val (.int .i64 0),.val (.int .i64 0),.val (.int .i64 0)]⟩,
 some ⟨5,32,.agg [(0,4),(1,31),(2,5),(3,3),(4,4)],[.val (.bool false),.val (.int .u32 0),.val (.int .u8 0),.val (.int .i64 0),.val (.bool false)]⟩,
 some ⟨5,32,.agg [(0,4),(1,31),(2,5),(3,3),(4,4)],[.val (.bool false),.val (.int .u32 0),.val (.int .u8 0),.val (.int .i64 0),.val (.bool false)]⟩],
 [some ⟨48,344,.agg [(0,5),(1,31),(2,32),(3,31),(4,4),(5,34),(6,36),(8,38),(14,41),(28,43),(31,2),(32,45),(40,47),(45,31),(46,31),(47,31)],[.val (.int .u8 0),.val (.int .u32 0),.val (.int .u16 0),.val (.int .u32 0),.val (.bool false),.val (.int .i64 0),.val (.int .i64 0),.val (.int .i64 0),.val (.bool false),.val (.int .u8 0),.val (.int .u8 0),.val (.int .u32 0),.val (.int .i64 0),.val (.int .i64 0),.val (.int .i64 0),.val (.int .i64 0),.val (.int .i64 0),.val (.bool false),.val (.int .i64 0),.val (.int .i64 0),.val (.int .i64 0),.val (.int .i64 0),.val (.int .i64 0),.val (.int .i64 0),.val (.slice none 0 0),.val (.int .i64 0),.val (.int .i64 0),.val (.int .i64 0),.val (.bool false),.val (.int .i64 0),.val (.int .i64 0),.val (.int .i64 0),.val (.bool false),.val (.int .i64 0),.val (.int .i64 0),.val (.int .i64 0),.val (.int .i64 0),.val (.int .i64 0),.val (.int .i64 0),.val (.int .i64 0),.val (.bool false),.val (.int .u32 0),.val (.int .u8 0),.val (.int .i64 0),.val (.bool false),.val (.int .u32 0),.val (.int .u32 0),.val (.int .u32 0)]⟩,
 some ⟨48,344,.agg [(0,5),(1,31),(2,32),(3,31),(4,4),(5,34),(6,36),(8,38),(14,41),(28,43),(31,2),(32,45),(40,47),(45,31),(46,31),(47,31)],[.val (.int .u8 0),.val (.int .u32 0),.val (.int .u16 0),.val (.int .u32 0),.val (.bool false),.val (.int .i64 0),.val (.int .i64 0),.val (.int .i64 0),.val (.bool false),.val (.int .u8 0),.val (.int .u8 0),.val (.int .u32 0),.val (.int .i64 0),.val (.int .i64 0),.val (.int .i64 0),.val (.int .i64 0),.val (.int .i64 0),.val (.bool false),.val (.int .i64 0),.val (.int .i64 0),.val (.int .i64 0),.val (.int .i64 0),.val (.int .i64 0),.val (.int .i64 0),.val (.slice none 0 0),.val (.int .i64 0),.val (.int .i64 0),.val (.int .i64 0),.val (.bool false),.val (.int .i64 0),.val (.int .i64 0),.val (.int .i64 0),.val (.bool false),.val (.int .i64 0),.val (.int .i64 0),.val (.int .i64 0),.val (.int .i64 0),.val (.int .i64 0),.val (.int .i64 0),.val (.int .i64 0),.val (.bool false),.val (.int .u32 0),.val (.int .u8 0),.val (.int .i64 0),.val (.bool false),.val (.int .u32 0),.val (.int .u32 0),.val (.int .u32 0)]⟩,
 some ⟨1,8,.ptr 110,[.val (.pointer none)]⟩,
 some ⟨1,24,.slice 62,[.val (.slice none 0 0)]⟩,
 some ⟨1,24,.slice 65,[.val (.slice none 0 0)]⟩,
 some ⟨1,24,.slice 234,[.val (.slice none 0 0)]⟩,
 some ⟨1,24,.slice 31,[.val (.slice none 0 0)]⟩,
 some ⟨111,872,.agg [(0,49),(48,49),(96,50),(97,3),(98,3),(99,51),(100,52),(101,53),(102,54),(103,3),(104,3),(105,3),(106,36),(108,36),(110,4)],[.val (.int .u8 0),.val (.int .u32 0),.val (.int .u16 0),.val (.int .u32 0),.val (.bool false),.val (.int .i64 0),.val (.int .i64 0),.val (.int .i64 0),.val (.bool false),.val (.int .u8 0),.val (.int .u8 0),.val (.int .u32 0),.val (.int .i64 0),.val (.int .i64 0),.val (.int .i64 0),.val (.int .i64 0),.val (.int .i64 0),.val (.bool false),.val (.int .i64 0),.val (.int .i64 0),.val (.int .i64 0),.val (.int .i64 0),.val (.int .i64 0),.val (.int .i64 0),.val (.slice none 0 0),.val (.int .i64 0),.val (.int .i64 0),.val (.int .i64 0),.val (.bool false),.val (.int .i64 0),.val (.int .i64 0),.val (.int .i64 0),.val (.bool false),.val (.int .i64 0),.val (.int .i64 0),.val (.int .i64 0),.val (.int .i64 0),.val (.int .i64 0),.val (.int .i64 0),.val (.int .i64 0),.val (.bool false),.val (.int .u32 0),.val (.int .u8 0),.val (.int .i64 0),.val (.bool false),.val (.int .u32 0),.val (.int .u32 0),.val (.int .u32 0),.val (.int .u8 0),.val (.int .u32 0),.val (.int .u16 0),.val (.int .u32 0),.val (.bool false),.val (.int .i64 0),.val (.int .i64 0),.val (.int .i64 0),.val (.bool false),.val (.int .u8 0),.val (.int .u8 0),.val (.int .u32 0),.val (.int .i64 0),.val (.int .i64 0),.val (.int .i64 0),.val (.int .i64 0),.val (.int .i64 0),.val (.bool false),.val (.int .i64 0),.val (.int .i64 0),.val (.int .i64 0),.val (.int .i64 0),.val (.int .i64 0),.val (.int .i64 0),.val (.slice none 0 0),.val (.int .i64 0),.val (.int .i64 0),.val (.int .i64 0),.val (.bool false),.val (.int .i64 0),.val (.int .i64 0),.val (.int .i64 0),.val (.bool false),.val (.int .i64 0),.val (.int .i64 0),.val (.int .i64 0),.val (.int .i64 0),.val (.int .i64 0),.val (.int .i64 0),.val (.int .i64 0),.val (.bool false),.val (.int .u32 0),.val (.int .u8 0),.val (.int .i64 0),.val (.bool false),.val (.int .u32 0),.val (.int .u32 0),.val (.int .u32 0),.val (.pointer none),.val (.int .i64 0),.val (.int .i64 0),.val (.slice none 0 0),.val (.slice none 0 0),.val (.slice none 0 0),.val (.slice none 0 0),.val (.int .i64 0),.val (.int .i64 0),.val (.int .i64 0),.val (.int .i64 0),.val (.int .i64 0),.val (.int .i64 0),.val (.int .i64 0),.val (.bool false)]⟩,
 some ⟨111,872,.agg [(0,49),(48,49),(96,50),(97,3),(98,3),(99,51),(100,52),(101,53),(102,54),(103,3),(104,3),(105,3),(106,36),(108,36),(110,4)],[.val (.int .u8 0),.val (.int .u32 0),.val (.int .u16 0),.val (.int .u32 0),.val (.bool false),.val (.int .i64 0),.val (.int .i64 0),.val (.int .i64 0),.val (.bool false),.val (.int .u8 0),.val (.int .u8 0),.val (.int .u32 0),.val (.int .i64 0),.val (.int .i64 0),.val (.int .i64 0),.val (.int .i64 0),.val (.int .i64 0),.val (.bool false),.val (.int .i64 0),.val (.int .i64 0),.val (.int .i64 0),.val (.int .i64 0),.val (.int .i64 0),.val (.int .i64 0),.val (.slice none 0 0),.val (.int .i64 0),.val (.int .i64 0),.val (.int .i64 0),.val (.bool false),.val (.int .i64 0),.val (.int .i64 0),.val (.int .i64 0),.val (.bool false),.val (.int .i64 0),.val (.int .i64 0),.val (.int .i64 0),.val (.int .i64 0),.val (.int .i64 0),.val (.int .i64 0),.val (.int .i64 0),.val (.bool false),.val (.int .u32 0),.val (.int .u8 0),.val (.int .i64 0),.val (.bool false),.val (.int .u32 0),.val (.int .u32 0),.val (.int .u32 0),.val (.int .u8 0),.val (.int .u32 0),.val (.int .u16 0),.val (.int .u32 0),.val (.bool false),.val (.int .i64 0),.val (.int .i64 0),.val (.int .i64 0),.val (.bool false),.val (.int .u8 0),.val (.int .u8 0),.val (.int .u32 0),.val (.int .i64 0),.val (.int .i64 0),.val (.int .i64 0),.val (.int .i64 0),.val (.int .i64 0),.val (.bool false),.val (.int .i64 0),.val (.int .i64 0),.val (.int .i64 0),.val (.int .i64 0),.val (.int .i64 0),.val (.int .i64 0),.val (.slice none 0 0),.val (.int .i64 0),.val (.int .i64 0),.val (.int .i64 0),.val (.bool false),.val (.int .i64 0),.val (.int .i64 0),.val (.int .i64 0),.val (.bool false),.val (.int .i64 0),.val (.int .i64 0),.val (.int .i64 0),.val (.int .i64 0),.val (.int .i64 0),.val (.int .i64 0),.val (.int .i64 0),.val (.bool false),.val (.int .u32 0),.val (.int .u8 0),.val (.int .i64 0),.val (.bool false),.val (.int .u32 0),.val (.int .u32 0),.val (.int .u32 0),.val (.pointer none),.val (.int .i64 0),.val (.int .i64 0),.val (.slice none 0 0),.val (.slice none 0 0),.val (.slice none 0 0),.val (.slice none 0 0),.val (.int .i64 0),.val (.int .i64 0),.val (.int .i64 0),.val (.int .i64 0),.val (.int .i64 0),.val (.int .i64 0),.val (.int .i64 0),.val (.bool false)]⟩,
 some ⟨1,8,.fn,[.val .nilFunc]⟩,
 some ⟨1,8,.fn,[.val .nilFunc]⟩,
 some ⟨1,8,.fn,[.val .nilFunc]⟩,
 some ⟨1,8,.fn,[.val .nilFunc]⟩,
 some ⟨1,8,.fn,[.val .nilFunc]⟩,
 some ⟨1,24,.slice 98,[.val (.slice none 0 0)]⟩,
 some ⟨1,8,.fn,[.val .nilFunc]⟩],
 [some ⟨2,16,.agg [(0,3),(1,3)],[.val (.int .i64 0),.val (.int .i64 0)]⟩,
 some ⟨2,16,.agg [(0,3),(1,3)],[.val (.int .i64 0),.val (.int .i64 0)]⟩,
 some ⟨4,32,.agg [(0,4),(1,3),(2,4),(3,3)],[.val (.bool false),.val (.int .i64 0),.val (.bool false),.val (.int .i64 0)]⟩,
 some ⟨4,32,.agg [(0,4),(1,3),(2,4),(3,3)],[.val (.bool false),.val (.int .i64 0),.val (.bool false),.val (.int .i64 0)]⟩,
 some ⟨1,8,.int .u64,[.val (.int .u64 0)]⟩,
 some ⟨1,1,.int .u8,[.val (.int .u8 0)]⟩,
 none,
 some ⟨1,8,.fn,[.val .nilFunc]⟩,
 some ⟨1,8,.fn,[.val .nilFunc]⟩,
 none,
 some ⟨1,8,.fn,[.val .nilFunc]⟩,
 none,
 some ⟨1,8,.fn,[.val .nilFunc]⟩,
 some ⟨1,24,.slice 83,[.val (.slice none 0 0)]⟩,
 none,
 some ⟨1,8,.fn,[.val .nilFunc]⟩],
 [some ⟨1,8,.fn,[.val .nilFunc]⟩,
 some ⟨1,24,.slice 5,[.val (.slice none 0 0)]⟩,
 some ⟨5,72,.agg [(0,3),(1,9),(2,9),(3,3),(4,81)],[.val (.int .i64 0),.val (.string ⟨⟨[]⟩⟩),.val (.string ⟨⟨[]⟩⟩),.val (.int .i64 0),.val (.slice none 0 0)]⟩,
 some ⟨5,72,.agg [(0,3),(1,9),(2,9),(3,3),(4,81)],[.val (.int .i64 0),.val (.string ⟨⟨[]⟩⟩),.val (.string ⟨⟨[]⟩⟩),.val (.int .i64 0),.val (.slice none 0 0)]⟩,
 some ⟨1,24,.slice 88,[.val (.slice none 0 0)]⟩,
 none,
 some ⟨1,8,.fn,[.val .nilFunc]⟩,
 some ⟨11,104,.agg [(0,4),(1,5),(2,32),(3,31),(4,31),(5,54),(6,4),(7,32),(8,81),(9,81),(10,3)],[.val (.bool false),.val (.int .u8 0),.val (.int .u16 0),.val (.int .u32 0),.val (.int .u32 0),.val (.slice none 0 0),.val (.bool false),.val (.int .u16 0),.val (.slice none 0 0),.val (.slice none 0 0),.val (.int .i64 0)]⟩,
 some ⟨11,104,.agg [(0,4),(1,5),(2,32),(3,31),(4,31),(5,54),(6,4),(7,32),(8,81),(9,81),(10,3)],[.val (.bool false),.val (.int .u8 0),.val (.int .u16 0),.val (.int .u32 0),.val (.int .u32 0),.val (.slice none 0 0),.val (.bool false),.val (.int .u16 0),.val (.slice none 0 0),.val (.slice none 0 0),.val (.int .i64 0)]⟩,
 none,
 some ⟨1,8,.fn,[.val .nilFunc]⟩,
 none,
 some ⟨1,8,.fn,[.val .nilFunc]⟩,
 some ⟨1,8,.fn,[.val .nilFunc]⟩,
 none,
 some ⟨1,8,.fn,[.val .nilFunc]⟩],
 [none,
 some ⟨1,8,.fn,[.val .nilFunc]⟩,
 some ⟨1,2,.int .i16,[.val (.int .i16 0)]⟩,
 some ⟨1,24,.slice 160,[.val (.slice none 0 0)]⟩,
 none,
 some ⟨1,8,.fn,[.val .nilFunc]⟩,
 some ⟨1,8,.fn,[.val .nilFunc]⟩,
 some ⟨1,8,.fn,[.val .nilFunc]⟩,
 none,
 some ⟨1,8,.fn,[.val .nilFunc]⟩,
 some ⟨3,3,.arr 3 5,[.val (.int .u8 0),.val (.int .u8 0),.val (.int .u8 0)]⟩,
 some ⟨1,8,.fn,[.val .nilFunc]⟩,
 some ⟨1,24,.slice 112,[.val (.slice none 0 0)]⟩,
 some ⟨6,80,.agg [(0,4),(1,24),(2,108),(3,3),(4,3),(5,3)],[.val (.bool false),.val (.slice none 0 0),.val (.slice none 0 0),.val (.int .i64 0),.val (.int .i64 0),.val (.int .i64 0)]⟩,
 some ⟨6,80,.agg [(0,4),(1,24),(2,108),(3,3),(4,3),(5,3)],[.val (.bool false),.val (.slice none 0 0),.val (.slice none 0 0),.val (.int .i64 0),.val (.int .i64 0),.val (.int .i64 0)]⟩,
 some ⟨10,112,.agg [(0,67),(4,3),(5,9),(6,9),(7,3),(8,4),(9,81)],[.val (.bool false),.val (.int .i64 0),.val (.bool false),.val (.int .i64 0),.val (.int .i64 0),.val (.string ⟨⟨[]⟩⟩),.val (.string ⟨⟨[]⟩⟩),.val (.int .i64 0),.val (.bool false),.val (.slice none 0 0)]⟩],
 [some ⟨10,112,.agg [(0,67),(4,3),(5,9),(6,9),(7,3),(8,4),(9,81)],[.val (.bool false),.val (.int .i64 0),.val (.bool false),.val (.int .i64 0),.val (.int .i64 0),.val (.string ⟨⟨[]⟩⟩),.val (.string ⟨⟨[]⟩⟩),.val (.int .i64 0),.val (.bool false),.val (.slice none 0 0)]⟩,
 some ⟨1,8,.fn,[.val .nilFunc]⟩,
 none,
 some ⟨1,8,.fn,[.val .nilFunc]⟩,
 some ⟨1,8,.fn,[.val .nilFunc]⟩,
 some ⟨1,8,.fn,[.val .nilFunc]⟩,
 some ⟨1,8,.fn,[.val .nilFunc]⟩,
 some ⟨1,8,.fn,[.val .nilFunc]⟩,
 some ⟨1,8,.fn,[.val .nilFunc]⟩,
 some ⟨1,8,.fn,[.val .nilFunc]⟩,
 none,
 some ⟨1,8,.fn,[.val .nilFunc]⟩,
 some ⟨1,1,.int .u8,[.val (.int .u8 0)]⟩,
 none,
 some ⟨1,8,.fn,[.val .nilFunc]⟩,
 some ⟨1,8,.fn,[.val .nilFunc]⟩],
 [some ⟨1,8,.fn,[.val .nilFunc]⟩,
 some ⟨1,8,.fn,[.val .nilFunc]⟩,
 some ⟨1,8,.fn,[.val .nilFunc]⟩,
 some ⟨1,8,.fn,[.val .nilFunc]⟩,
 some ⟨1,8,.fn,[.val .nilFunc]⟩,
 none,
 some ⟨1,8,.fn,[.val .nilFunc]⟩,
 some ⟨4,6,.agg [(0,5),(1,4),(2,5),(3,32)],[.val (.int .u8 0),.val (.bool false),.val (.int .u8 0),.val (.int .u16 0)]⟩,
 some ⟨4,6,.agg [(0,5),(1,4),(2,5),(3,32)],[.val (.int .u8 0),.val (.bool false),.val (.int .u8 0),.val (.int .u16 0)]⟩,
 some ⟨6,12,.agg [(0,31),(1,4),(2,136)],[.val (.int .u32 0),.val (.bool false),.val (.int .u8 0),.val (.bool false),.val (.int .u8 0),.val (.int .u16 0)]⟩,
 some ⟨6,12,.agg [(0,31),(1,4),(2,136)],[.val (.int .u32 0),.val (.bool false),.val (.int .u8 0),.val (.bool false),.val (.int .u8 0),.val (.int .u16 0)]⟩,
 none,
 some ⟨1,8,.fn,[.val .nilFunc]⟩,
 some ⟨1,8,.fn,[.val .nilFunc]⟩,
 some ⟨1,8,.fn,[.val .nilFunc]⟩,
 some ⟨1,8,.fn,[.val .nilFunc]⟩],
 [some ⟨1,8,.fn,[.val .nilFunc]⟩,
 some ⟨2,16,.agg [(0,143),(1,144)],[.val .nilFunc,.val .nilFunc]⟩,
 some ⟨2,16,.agg [(0,143),(1,144)],[.val .nilFunc,.val .nilFunc]⟩,
 some ⟨1,8,.map 5 146,[.val (.map none)]⟩,
 some ⟨1,8,.fn,[.val .nilFunc]⟩,
 none,
 none,
 some ⟨1,8,.fn,[.val .nilFunc]⟩,
 some ⟨1,8,.fn,[.val .nilFunc]⟩,
 none,
 some ⟨1,8,.fn,[.val .nilFunc]⟩,
 some ⟨1,8,.fn,[.val .nilFunc]⟩,
 some ⟨1,8,.fn,[.val .nilFunc]⟩,
 some ⟨1,8,.fn,[.val .nilFunc]⟩,
 some ⟨1,8,.fn,[.val .nilFunc]⟩,
 some ⟨3,56,.agg [(0,3),(1,62),(2,53)],[.val (.int .i64 0),.val (.slice none 0 0),.val (.slice none 0 0)]⟩],
 [some ⟨3,56,.agg [(0,3),(1,62),(2,53)],[.val (.int .i64 0),.val (.slice none 0 0),.val (.slice none 0 0)]⟩,
 some ⟨1,8,.fn,[.val .nilFunc]⟩,
 some ⟨1,8,.fn,[.val .nilFunc]⟩,
 some ⟨1,24,.slice 3,[.val (.slice none 0 0)]⟩,
 some ⟨1,8,.fn,[.val .nilFunc]⟩,
 some ⟨1,8,.fn,[.val .nilFunc]⟩,
 some ⟨1,8,.fn,[.val .nilFunc]⟩,
 some ⟨1,8,.fn,[.val .nilFunc]⟩,
 none,
 some ⟨1,8,.fn,[.val .nilFunc]⟩,
 none,
 some ⟨1,8,.fn,[.val .nilFunc]⟩,
 none,
 some ⟨1,8,.fn,[.val .nilFunc]⟩,
 some ⟨1,8,.fn,[.val .nilFunc]⟩,
 some ⟨1,8,.fn,[.val .nilFunc]⟩],
 [some ⟨1,8,.fn,[.val .nilFunc]⟩,
 some ⟨5,48,.agg [(0,2),(1,2),(2,4),(3,5),(4,81)],[.val (.int .i64 0),.val (.int .i64 0),.val (.bool false),.val (.int .u8 0),.val (.slice none 0 0)]⟩,
 some ⟨5,48,.agg [(0,2),(1,2),(2,4),(3,5),(4,81)],[.val (.int .i64 0),.val (.int .i64 0),.val (.bool false),.val (.int .u8 0),.val (.slice none 0 0)]⟩,
 none,
 some ⟨1,8,.fn,[.val .nilFunc]⟩,
 none,
 some ⟨1,8,.fn,[.val .nilFunc]⟩,
 some ⟨1,8,.fn,[.val .nilFunc]⟩,
 some ⟨1,8,.fn,[.val .nilFunc]⟩,
 none,
 some ⟨1,8,.fn,[.val .nilFunc]⟩,
 some ⟨6,56,.agg [(0,3),(1,178)],[.val (.int .i64 0),.val (.int .i64 0),.val (.int .i64 0),.val (.bool false),.val (.int .u8 0),.val (.slice none 0 0)]⟩,
 some ⟨6,56,.agg [(0,3),(1,178)],[.val (.int .i64 0),.val (.int .i64 0),.val (.int .i64 0),.val (.bool false),.val (.int .u8 0),.val (.slice none 0 0)]⟩,
 some ⟨1,8,.fn,[.val .nilFunc]⟩,
 some ⟨1,8,.int .u64,[.val (.int .u64 0)]⟩,
 some ⟨1,8,.fn,[.val .nilFunc]⟩],
 [some ⟨1,8,.fn,[.val .nilFunc]⟩,
 some ⟨1,16,.iface,[.val .nilIface]⟩,
 some ⟨1,16,.iface,[.val .nilIface]⟩,
 none,
 some ⟨1,8,.fn,[.val .nilFunc]⟩,
 some ⟨1,8,.fn,[.val .nilFunc]⟩,
 some ⟨1,8,.fn,[.val .nilFunc]⟩,
 none,
 some ⟨1,8,.fn,[.val .nilFunc]⟩,
 some ⟨1,8,.fn,[.val .nilFunc]⟩,
 some ⟨1,8,.ptr 199,[.val (.pointer none)]⟩,
 some ⟨1,8,.fn,[.val .nilFunc]⟩,
 some ⟨1,8,.fn,[.val .nilFunc]⟩,
 none,
 some ⟨1,8,.fn,[.val .nilFunc]⟩,
 some ⟨1,8,.fn,[.val .nilFunc]⟩],
 [some ⟨1,8,.fn,[.val .nilFunc]⟩,
 none,
 some ⟨1,8,.fn,[.val .nilFunc]⟩,
 some ⟨1,8,.fn,[.val .nilFunc]⟩,
 some ⟨1,8,.fn,[.val .nilFunc]⟩,
 some ⟨1,8,.fn,[.val .nilFunc]⟩,
 some ⟨1,8,.fn,[.val .nilFunc]⟩,
 none,
 some ⟨1,8,.fn,[.val .nilFunc]⟩,
 some ⟨1,8,.fn,[.val .nilFunc]⟩,
 some ⟨1,8,.fn,[.val .nilFunc]⟩,
 some ⟨1,8,.fn,[.val .nilFunc]⟩,
 some ⟨1,8,.fn,[.val .nilFunc]⟩,
 some ⟨1,8,.fn,[.val .nilFunc]⟩,
 some ⟨1,8,.fn,[.val .nilFunc]⟩,
 some ⟨1,8,.fn,[.val .nilFunc]⟩],
 [some ⟨1,8,.fn,[.val .nilFunc]⟩,
 none,
 some ⟨1,8,.fn,[.val .nilFunc]⟩,
 some ⟨1,8,.fn,[.val .nilFunc]⟩,
 some ⟨0,0,.agg [],[]⟩,
 some ⟨0,0,.agg [],[]⟩,
 some ⟨0,0,.agg [],[]⟩,
 some ⟨1,8,.fn,[.val .nilFunc]⟩,
 some ⟨1,8,.fn,[.val .nilFunc]⟩,
 some ⟨4,16,.agg [(0,5),(1,4),(2,31),(3,3)],[.val (.int .u8 0),.val (.bool false),.val (.int .u32 0),.val (.int .i64 0)]⟩,
 some ⟨4,16,.agg [(0,5),(1,4),(2,31),(3,3)],[.val (.int .u8 0),.val (.bool false),.val (.int .u32 0),.val (.int .i64 0)]⟩,
 some ⟨1,24,.slice 2,[.val (.slice none 0 0)]⟩,
 some ⟨1,8,.fn,[.val .nilFunc]⟩,
 some ⟨1,8,.fn,[.val .nilFunc]⟩,
 some ⟨1,8,.fn,[.val .nilFunc]⟩,
 some ⟨1,8,.fn,[.val .nilFunc]⟩],
 [some ⟨1,8,.fn,[.val .nilFunc]⟩,
 some ⟨1,8,.fn,[.val .nilFunc]⟩,
 some ⟨1,8,.fn,[.val .nilFunc]⟩,
 none,
 some ⟨1,8,.fn,[.val .nilFunc]⟩,
 some ⟨1,8,.map 2 4,[.val (.map none)]⟩,
 some ⟨1,8,.fn,[.val .nilFunc]⟩,
 some ⟨1,8,.fn,[.val .nilFunc]⟩,
 some ⟨4,40,.agg [(0,17),(1,17),(2,17),(3,9)],[.val (.pointer none),.val (.pointer none),.val (.pointer none),.val (.string ⟨⟨[]⟩⟩)]⟩,
 some ⟨4,40,.agg [(0,17),(1,17),(2,17),(3,9)],[.val (.pointer none),.val (.pointer none),.val (.pointer none),.val (.string ⟨⟨[]⟩⟩)]⟩,
 some ⟨0,0,.arr 0 16,[]⟩,
 some ⟨0,0,.agg [(0,250)],[]⟩,
 some ⟨0,0,.agg [(0,250)],[]⟩,
 some ⟨1,1,.int .u8,[.val (.int .u8 0)]⟩,
 some ⟨1,1,.int .u8,[.val (.int .u8 0)]⟩,
 some ⟨1,8,.fn,[.val .nilFunc]⟩],
 [some ⟨1,8,.ptr 5,[.val (.pointer none)]⟩,
 some ⟨1,4,.int .i32,[.val (.int .i32 0)]⟩,
 some ⟨1,4,.int .i32,[.val (.int .i32 0)]⟩,
 some ⟨11,48,.agg [(0,12),(1,12),(2,31),(3,253),(4,5),(5,5),(6,254),(7,255),(8,256),(9,257),(10,258)],[.val (.int .u64 0),.val (.int .u64 0),.val (.int .u32 0),.val (.int .u8 0),.val (.int .u8 0),.val (.int .u8 0),.val (.int .u8 0),.val .nilFunc,.val (.pointer none),.val (.int .i32 0),.val (.int .i32 0)]⟩,
 some ⟨11,48,.agg [(0,12),(1,12),(2,31),(3,253),(4,5),(5,5),(6,254),(7,255),(8,256),(9,257),(10,258)],[.val (.int .u64 0),.val (.int .u64 0),.val (.int .u32 0),.val (.int .u8 0),.val (.int .u8 0),.val (.int .u8 0),.val (.int .u8 0),.val .nilFunc,.val (.pointer none),.val (.int .i32 0),.val (.int .i32 0)]⟩,
 some ⟨1,8,.other,[.val (.pointer none)]⟩,
 none,
 none,
 none,
 none,
 none,
 none,
 none,
 none,
 none,
 none]
 ]
def NW:List Nat:=[7,8,22,23,33,34,35,36,37,38,42,43,44,45,46,47,64,65,66,67,135,136,137,138,233,234]
theorem KK:Facts Tryz.prog KJ NW:=XR (by kernel_rfl) (by kernel_rfl) (by kernel_rfl) (by kernel_rfl)
set_option maxRecDepth 100000
noncomputable def ajA:List (Nat×Func):=[(3,Tryz.f3),(4,Tryz.f4),(5,Tryz.f5),(6,Tryz.f6),(7,Tryz.f7),(8,Tryz.f8),(9,Tryz.f9),(10,Tryz.f10),(11,Tryz.f11),(12,Tryz.f12),(13,Tryz.f13),(14,Tryz.f14),(15,Tryz.f15),(16,Tryz.f16),(17,Tryz.f17),(18,Tryz.f18),(19,Tryz.f19),(20,Tryz.f20),(21,Tryz.f21),(22,Tryz.f22),(23,Tryz.f23),(24,Tryz.f24),(25,Tryz.f25),(26,Tryz.f26),(27,Tryz.f27),(28,Tryz.f28),(29,Tryz.f29),(30,Tryz.f30),(31,Tryz.f31),(32,Tryz.f32),(33,Tryz.f33),(34,Tryz.f34),(35,Tryz.f35),(36,Tryz.f36),(37,Tryz.f37),(38,Tryz.f38),(39,Tryz.f39),(40,Tryz.f40),(41,Tryz.f41),(42,Tryz.f42),(43,Tryz.f43),(44,Tryz.f44),(45,Tryz.f45),(46,Tryz.f46),(47,Tryz.f47),(48,Tryz.f48),(49,Tryz.f49),(50,Tryz.f50),(51,Tryz.f51),(52,Tryz.f52),(53,Tryz.f53),(54,Tryz.f54),(55,Tryz.f55),(56,Tryz.f56),(57,Tryz.f57),(58,Tryz.f58),(59,Tryz.f59),(60,Tryz.f60),(61,Tryz.f61),(62,Tryz.f62),(63,Tryz.f63),(64,Tryz.f64),(65,Tryz.f65),(66,Tryz.f66),(67,Tryz.f67),(68,Tryz.f68),(69,Tryz.f69),(70,Tryz.f70),(71,Tryz.f71),(72,Tryz.f72),(73,Tryz.f73),(74,Tryz.f74),(75,Tryz.f75),(76,Tryz.f76),(77,Tryz.f77),(78,Tryz.f78),(79,Tryz.f79),(80,Tryz.f80),(81,Tryz.f81),(82,Tryz.f82),(83,Tryz.f83),(84,Tryz.f84),(85,Tryz.f85),(86,Tryz.f86),(87,Tryz.f87),(88,Tryz.f88),(89,Tryz.f89),(90,Tryz.f90),(91,Tryz.f91),(92,Tryz.f92),(93,Tryz.f93),(94,Tryz.f94),(95,Tryz.f95),(96,Tryz.f96),(97,Tryz.f97),(98,Tryz.f98),(99,Tryz.f99),(100,Tryz.f100),(101,Tryz.f101),(102,Tryz.f102),(103,Tryz.f103),(104,Tryz.f104),(105,Tryz.f105),(106,Tryz.f106),(107,Tryz.f107),(108,Tryz.f108),(109,Tryz.f109),(110,Tryz.f110),(111,Tryz.f111),(112,Tryz.f112),(113,Tryz.f113),(114,Tryz.f114),(115,Tryz.f115),(116,Tryz.f116),(117,Tryz.f117),(118,Tryz.f118),(119,Tryz.f119),(120,Tryz.f120),(122,Tryz.f122),(123,Tryz.f123),(124,Tryz.f124),(125,Tryz.f125),(126,Tryz.f126),(127,Tryz.f127),(128,Tryz.f128),(145,Tryz.f145),(146,Tryz.f146),(147,Tryz.f147),(148,Tryz.f148),(149,Tryz.f149),(150,Tryz.f150),(151,Tryz.f151),(152,Tryz.f152),(153,Tryz.f153)]
theorem dM:IY Tryz.prog ajA:=⟨Tryz.func3,by kernel_rfl,Tryz.func4,by kernel_rfl,Tryz.func5,by kernel_rfl,Tryz.func6,by kernel_rfl,Tryz.func7,by kernel_rfl,Tryz.func8,by kernel_rfl,Tryz.func9,by kernel_rfl,Tryz.func10,by kernel_rfl,Tryz.func11,by kernel_rfl,Tryz.func12,by kernel_rfl,Tryz.func13,by kernel_rfl,Tryz.func14,by kernel_rfl,Tryz.func15,by kernel_rfl,Tryz.func16,by kernel_rfl,Tryz.func17,by kernel_rfl,Tryz.func18,by kernel_rfl,Tryz.func19,by kernel_rfl,Tryz.func20,by kernel_rfl,Tryz.func21,by kernel_rfl,Tryz.func22,by kernel_rfl,Tryz.func23,by kernel_rfl,Tryz.func24,by kernel_rfl,Tryz.func25,by kernel_rfl,Tryz.func26,by kernel_rfl,Tryz.func27,by kernel_rfl,Tryz.func28,by kernel_rfl,Tryz.func29,by kernel_rfl,Tryz.func30,by kernel_rfl,Tryz.func31,by kernel_rfl,Tryz.func32,by kernel_rfl,Tryz.func33,by kernel_rfl,Tryz.func34,by kernel_rfl,Tryz.func35,by kernel_rfl,Tryz.func36,by kernel_rfl,Tryz.func37,by kernel_rfl,Tryz.func38,by kernel_rfl,Tryz.func39,by kernel_rfl,Tryz.func40,by kernel_rfl,Tryz.func41,by kernel_rfl,Tryz.func42,by kernel_rfl,Tryz.func43,by kernel_rfl,Tryz.func44,by kernel_rfl,Tryz.func45,by kernel_rfl,Tryz.func46,by kernel_rfl,Tryz.func47,by kernel_rfl,Tryz.func48,by kernel_rfl,Tryz.func49,by kernel_rfl,Tryz.func50,by kernel_rfl,Tryz.func51,by kernel_rfl,Tryz.func52,by kernel_rfl,Tryz.func53,by kernel_rfl,Tryz.func54,by kernel_rfl,Tryz.func55,by kernel_rfl,Tryz.func56,by kernel_rfl,Tryz.func57,by kernel_rfl,Tryz.func58,by kernel_rfl,Tryz.func59,by kernel_rfl,Tryz.func60,by kernel_rfl,Tryz.func61,by kernel_rfl,Tryz.func62,by kernel_rfl,Tryz.func63,by kernel_rfl,Tryz.func64,by kernel_rfl,Tryz.func65,by kernel_rfl,Tryz.func66,by kernel_rfl,Tryz.func67,by kernel_rfl,Tryz.func68,by kernel_rfl,Tryz.func69,by kernel_rfl,Tryz.func70,by kernel_rfl,Tryz.func71,by kernel_rfl,Tryz.func72,by kernel_rfl,Tryz.func73,by kernel_rfl,Tryz.func74,by kernel_rfl,Tryz.func75,by kernel_rfl,Tryz.func76,by kernel_rfl,Tryz.func77,by kernel_rfl,Tryz.func78,by kernel_rfl,Tryz.func79,by kernel_rfl,Tryz.func80,by kernel_rfl,Tryz.func81,by kernel_rfl,Tryz.func82,by kernel_rfl,Tryz.func83,by kernel_rfl,Tryz.func84,by kernel_rfl,Tryz.func85,by kernel_rfl,Tryz.func86,by kernel_rfl,Tryz.func87,by kernel_rfl,Tryz.func88,by kernel_rfl,Tryz.func89,by kernel_rfl,Tryz.func90,by kernel_rfl,Tryz.func91,by kernel_rfl,Tryz.func92,by kernel_rfl,Tryz.func93,by kernel_rfl,Tryz.func94,by kernel_rfl,Tryz.func95,by kernel_rfl,Tryz.func96,by kernel_rfl,Tryz.func97,by kernel_rfl,Tryz.func98,by kernel_rfl,Tryz.func99,by kernel_rfl,Tryz.func100,by kernel_rfl,Tryz.func101,by kernel_rfl,Tryz.func102,by kernel_rfl,Tryz.func103,by kernel_rfl,Tryz.func104,by kernel_rfl,Tryz.func105,by kernel_rfl,Tryz.func106,by kernel_rfl,Tryz.func107,by kernel_rfl,Tryz.func108,by kernel_rfl,Tryz.func109,by kernel_rfl,Tryz.func110,by kernel_rfl,Tryz.func111,by kernel_rfl,Tryz.func112,by kernel_rfl,Tryz.func113,by kernel_rfl,Tryz.func114,by kernel_rfl,Tryz.func115,by kernel_rfl,Tryz.func116,by kernel_rfl,Tryz.func117,by kernel_rfl,Tryz.func118,by kernel_rfl,Tryz.func119,by kernel_rfl,Tryz.func120,by kernel_rfl,Tryz.func122,by kernel_rfl,Tryz.func123,by kernel_rfl,Tryz.func124,by kernel_rfl,Tryz.func125,by kernel_rfl,Tryz.func126,by kernel_rfl,Tryz.func127,by kernel_rfl,Tryz.func128,by kernel_rfl,Tryz.func145,by kernel_rfl,Tryz.func146,by kernel_rfl,Tryz.func147,by kernel_rfl,Tryz.func148,by kernel_rfl,Tryz.func149,by kernel_rfl,Tryz.func150,by kernel_rfl,Tryz.func151,by kernel_rfl,Tryz.func152,by kernel_rfl,Tryz.func153,by kernel_rfl,trivial⟩
def noC:Vb:=fun _ _ _=>none
theorem afJ:∀f args rd v us rds,noC f args rd=some (v,us,rds)->qA Tryz.prog f=true/\Does Tryz.prog (fun _=>none) f args rds v us rd:=fun _ _ _ _ _ _ h=>by cases h
end Go.Proofs.YtigfeinnobfflaaGreat

/- Short words for trees. -/
namespace Go.Proofs.YtigfeinnobfflaaGreat
open Go.RowKit
abbrev lI {α : Type} (l : List α) : Int := ((l.length : Nat) : Int)
abbrev iR {α : Type} (v : Int) (l : List α) : Bool := decide (((0 : Int) <= v) /\ (v < lI l))
abbrev lE {α : Type} (l : List α) : Bool := decide (l.length <= l.length)
abbrev lQ {α β : Type} (a : List α) (b : List β) : Bool := decide (a.length = b.length)
abbrev rO {α : Type} (l : List α) (k : Nat) : Bool := decide ((l.length * k) <= 140737488355328)
abbrev tA {α : Type} (l : List α) : List α := List.take l.length l
abbrev wI (n : Int) : Int := IntKind.wrap .i64 n
abbrev z0 : Int := 0
abbrev z1 : Int := 1
abbrev LU := List UInt8
abbrev LN := List Int
abbrev dI : CS := .dat (.int .i64)
abbrev dS : CS := .dat .str
abbrev dO : CS := .dat .bool
abbrev dY : CS := .dat (.list (.int .u8))
abbrev fB : CS := .dat (.int .u8)
abbrev ak : U := .int .i64
abbrev aX : U := .int .u8
abbrev tyB:=List UInt8×(List UInt8×(List UInt8×(Int×(Int×(Int×(Int×(Int×(Int×Bool))))))))
abbrev tyU:U:=.pair .str (.pair .str (.pair .str (.pair (.int .i64) (.pair (.int .i64) (.pair (.int .i64) (.pair (.int .i64) (.pair (.int .i64) (.pair (.int .i64) .bool))))))))
abbrev tyL:=List Int×(Int×(Int×(List tyB×(Int×Int))))
theorem nK (pl:List (Nat×PL)) (eg:Nat->Bool) {cons:List (Nat×CE)} (hc:cu Tryz.prog cons) {f:Nat} {fn:Func} (hf:Tryz.prog.funcs[f]? = some fn) {ai ri:List IT} {G:(bQ ai).T->Option (bQ ri).T} (hfn:qA Tryz.prog f=true:=by kernel_rfl) (hsh:Qy fn ai ri=true:=by kernel_rfl) (hG:∀a,(Ze (yP (aO Tryz.prog) KJ) (qOf NW) (IZ ajA) (Zq cons) (fA pl) eg 10000 f fn ai ri).run a=G a:=by intro a;kernel_rfl):aB Tryz.prog f ⟨ai,ri,G⟩:=
 acd KK dM (bM hc) hf hfn hsh 10000 fun a r h=>(hG a).trans h
abbrev UMd:U := .pair (.int .i64) (.pair (.int .i64) (.pair .bool (.pair (.int .u8) (.list (.int .u8)))))
abbrev Bo:U := .pair (.int .i64) UMd
abbrev UFt:U := .pair .bool (.pair (.int .i64) (.pair .bool (.int .i64)))
abbrev LC:U := .pair UFt (.pair (.int .i64) (.pair .str (.pair .str (.pair (.int .i64) (.pair .bool (.list (.int .u8)))))))
abbrev UPk:U := .pair .bool (.pair (.int .u8) (.pair (.int .u16) (.pair (.int .u32) (.pair (.int .u32) (.pair (.list (.int .u32)) (.pair .bool (.pair (.int .u16) (.pair (.list (.int .u8)) (.pair (.list (.int .u8)) (.int .i64))))))))))
abbrev USd:U := .pair (.int .i64) (.pair (.list (.int .i16)) (.list (.pair (.int .u8) (.pair .bool (.pair (.int .u32) (.int .i64))))))
def adW:List CS:=[.kb false,.ki .u8 0,.ki .u8 0,.ki .u32 0,.ki .i64 0,.ki .i64 0]
def Zu:List CS:=[.kb false,.ki .u32 0,.ki .u8 0,.ki .i64 0,.kb false]
def Zv:List CS:=[.dat (.int .u8),.ki .u32 7,.dat (.int .u16),.dat (.int .u32),.dat .bool,.dat (.int .i64),.dat (.int .i64),.dat (.int .i64)]++adW ++
 [.ki .i64 1,.ki .i64 1,.ki .i64 0,.kb false,.ki .i64 0,.ki .i64 0,.ki .i64 (-1),.ki .i64 (-1),.ki .i64 0,.ki .i64 0,.nil,.ki .i64 0,.ki .i64 0,.ki .i64 0,
  .kb false,.ki .i64 0,.ki .i64 0,.ki .i64 0,.kb false,.ki .i64 0,.ki .i64 0,.ki .i64 0,.ki .i64 0,.ki .i64 0,.ki .i64 0,.ki .i64 0]++Zu++[.ki .u32 7,.dat (.int .u32),.dat (.int .u32)]
def alj:List CS:=[.dat (.int .i64),.dat (.int .i64),.dat (.int .i64),.dat .bool,.dat (.int .i64),.dat (.int .i64),.dat (.int .i64),.dat (.int .i64),.dat (.int .i64),.dat (.int .i64),.dat (.list Bo),.dat (.int .i64),.dat (.int .i64),.dat (.int .i64)]
def TK:List CS:=[.dat (.int .u8),.ki .u32 8,.ki .u16 0,.ki .u32 0,.kb true,.ki .i64 0,.ki .i64 0,.ki .i64 0]++adW++alj ++
 [.dat .bool,.dat (.int .i64),.dat (.int .i64),.dat (.int .i64),.dat .bool,.dat (.int .i64),.dat (.int .i64),.dat (.int .i64),.dat (.int .i64),.dat (.int .i64),.dat (.int .i64),.dat (.int .i64)]++Zu++[.dat (.int .u32),.ki .u32 0,.ki .u32 0]
def Ie:List CS:=[.kb true,.dat (.list UFt),.own 20000011 112 LC,.dat (.int .i64),.dat (.int .i64),.dat (.int .i64)]
set_option maxRecDepth 1000000
def szL:List Int:=[7,8,9,10,11,12,13,14,15,17,19,21,23,25,28,31,34,37,41,45,50,55,61,67,74,81,89,98,108,119,131,144,158,174,191,210,231,254,279,307,338,372,409,450,495,545,600,660,726,799,879,967,1064,1170,1287,1416,1558,1714,1885,2074,2281,2509,2760,3036,3340,3674,4041,4445,4890,5379,5917,6509,7160,7876,8664,9530,10483,11531,12684,13952,15347,16882,18570,20427,22470,24717,27189,29908,32767]
def szK:List CS:=szL.map fun n => .ki .i64 n
def szG:(bQ []).T->Option (bQ [.tmp 0 true szK]).T:=fun _=>some (by exact ())
theorem Js:aB Tryz.prog 86 ⟨[],[.tmp 0 true szK],szG⟩ :=
 dF ⟨by kernel_rfl,fun a r h=>Vg KK dM afJ Tryz.func86 rfl 10000 (v := .agg (szL.map fun n => .d (.val (.int .i64 n)))) (fun R=>by kernel_rfl)⟩ (by rfl)
set_option maxHeartbeats 0
def ace:List (Nat×PL):=[(262657,(.carry [])),(35253091829766,(.carry [.tmp 4 false [dI]]))]
noncomputable def jF:Int->Option Int:=fun a1 =>
 au (bn (fun v2 =>
 bif (decide (v2<7)) then
 ah (some (IntKind.wrap .i64 (v2+(8:Int)))) fun x3 =>
 bif (decide (0<=x3)) then
 bif (decide (a1<(IntKind.wrap .i64 ((1:Int)*((2:Int) ^ (Min.min x3.toNat 64)))))) then
 aA (aA (some v2))
 else
 some (Sum.inl (IntKind.wrap .i64 (v2+(1:Int))))
 else none
 else
 aA (some (Sum.inl ()))) (0:Int)) fun _ =>
 some (7:Int)
noncomputable def acf:List (Nat×CE):=[]
theorem QB:cu Tryz.prog acf:=trivial
noncomputable def Zw:CE:=⟨[(.tmp 0 false [dI])],[(.tmp 0 false [dI])],jF⟩
theorem Zx:aB Tryz.prog 149 Zw :=nK ace dD QB Tryz.func149
def acg:List (Nat×PL):=[(68853957121,(.carry [.tmp 4 false [dI],.tmp 3 false [dI]]))]
noncomputable def qP:Int->Option Int:=fun a1 =>
 au (bif (decide ((IntKind.wrap .i64 a1)<0)) then
 some (Sum.inl ((127:Int),(IntKind.wrap .i64 ((0:Int)-(IntKind.wrap .i64 a1)))))
 else
 some (Sum.inl ((255:Int),(IntKind.wrap .i64 a1)))) fun (v4,v5) =>
 ah (some (IntKind.wrap .i64 ((eU v5 (32635:Int))+(132:Int)))) fun x6 =>
 ah (jF x6) fun x7 =>
 ah (some (IntKind.wrap .i64 (x7+(3:Int)))) fun x8 =>
 bif (decide (0<=x8)) then
 some (IntKind.wrap .u8 (IntKind.wrap .i64 ((IntKind.wrap .i64 (v4-(IntKind.wrap .i64 ((16:Int)*x7))))-(Int.tmod (Int.fdiv x6 ((2:Int) ^ (Min.min x8.toNat 64))) (16:Int)))))
 else none
noncomputable def ach:List (Nat×CE):=[(149,Zw)]
theorem QC:cu Tryz.prog ach:=⟨Zx,trivial⟩
noncomputable def Zy:CE:=⟨[(.tmp 0 false [(.dat (.int .i16))])],[(.tmp 0 false [fB])],qP⟩
theorem Zz:aB Tryz.prog 147 Zy :=nK acg dD QC Tryz.func147
def aci:List (Nat×PL):=[]
noncomputable def kQ:Int->Option Int:=fun a1 =>
 ah (some (IntKind.wrap .i64 ((255:Int)-(IntKind.wrap .i64 a1)))) fun x3 =>
 ah (some (Int.tmod (IntKind.wrap .i64 (Int.tdiv x3 (16:Int))) (8:Int))) fun x5 =>
 bif (decide (0<=x5)) then
 ah (some (IntKind.wrap .i64 ((IntKind.wrap .i64 ((IntKind.wrap .i64 ((IntKind.wrap .i64 ((8:Int)*(Int.tmod x3 (16:Int))))+(132:Int)))*((2:Int) ^ (Min.min x5.toNat 64))))-(132:Int)))) fun x10 =>
 bif (decide (x3>=128)) then
 some (IntKind.wrap .i16 (IntKind.wrap .i64 ((0:Int)-x10)))
 else
 some (IntKind.wrap .i16 x10)
 else none
noncomputable def acj:List (Nat×CE):=[(147,Zy)]
theorem QD:cu Tryz.prog acj:=⟨Zz,trivial⟩
noncomputable def ZA:CE:=⟨[(.tmp 0 false [fB])],[(.tmp 0 false [(.dat (.int .i16))])],kQ⟩
theorem ZB:aB Tryz.prog 148 ZA :=nK aci dD QD Tryz.func148
def acn:List (Nat×PL):=[(68853957121,(.carry [.tmp 4 false [dI],.tmp 3 false [dI]])),(9241421688590303745,(.carry [.tmp 6 false [dI]]))]
noncomputable def uh:Int->Option Int:=fun a1 =>
 au (bif (decide ((IntKind.wrap .i64 a1)<0)) then
 some (Sum.inl ((0:Int),(IntKind.wrap .i64 ((IntKind.wrap .i64 ((0:Int)-(IntKind.wrap .i64 a1)))-(1:Int)))))
 else
 some (Sum.inl ((128:Int),(IntKind.wrap .i64 a1)))) fun (v5,v6) =>
 ah (jF v6) fun x7 =>
 au (bif (decide (x7=0)) then
 some (Sum.inl (4:Int))
 else
 some (Sum.inl (IntKind.wrap .i64 (x7+(3:Int))))) fun v9 =>
 bif (decide (0<=v9)) then
 some (IntKind.wrap .u8 (((BitVec.toNat ((BitVec.ofInt 8 (IntKind.wrap .u8 (IntKind.wrap .i64 ((IntKind.wrap .i64 (v5+(IntKind.wrap .i64 ((16:Int)*x7))))+(Int.tmod (Int.fdiv v6 ((2:Int) ^ (Min.min v9.toNat 64))) (16:Int)))))) ^^^ (BitVec.ofInt 8 (85:Int)))):Nat):Int))
 else none
noncomputable def aco:List (Nat×CE):=[(149,Zw),(148,ZA)]
theorem QE:cu Tryz.prog aco:=⟨Zx,ZB,trivial⟩
noncomputable def ZC:CE:=⟨[(.tmp 0 false [(.dat (.int .i16))])],[(.tmp 0 false [fB])],uh⟩
theorem ZE:aB Tryz.prog 152 ZC :=nK acn dD QE Tryz.func152
def acp:List (Nat×PL):=[]
noncomputable def lD:Int->Option Int:=fun a1 =>
 ah (some (IntKind.wrap .u8 (((BitVec.toNat ((BitVec.ofInt 8 a1) ^^^ (BitVec.ofInt 8 (85:Int)))):Nat):Int))) fun x2 =>
 ah (some (Int.tmod (IntKind.wrap .i64 (Int.tdiv (IntKind.wrap .i64 x2) (16:Int))) (8:Int))) fun x5 =>
 ah (some (Int.tmod (IntKind.wrap .i64 x2) (16:Int))) fun x6 =>
 ah (some (IntKind.wrap .i64 ((IntKind.wrap .i64 ((16:Int)*x6))+(8:Int)))) fun x8 =>
 bif (decide (x5 > 0)) then
 ah (some (IntKind.wrap .i64 (x5-(1:Int)))) fun x11 =>
 bif (decide (0<=x11)) then
 ah (some (IntKind.wrap .i64 ((IntKind.wrap .i64 ((IntKind.wrap .i64 ((16:Int)*x6))+(264:Int)))*((2:Int) ^ (Min.min x11.toNat 64))))) fun x12 =>
 bif (decide ((IntKind.wrap .i64 x2)<128)) then
 some (IntKind.wrap .i16 (IntKind.wrap .i64 ((0:Int)-x12)))
 else
 some (IntKind.wrap .i16 x12)
 else none
 else
 bif (decide ((IntKind.wrap .i64 x2)<128)) then
 some (IntKind.wrap .i16 (IntKind.wrap .i64 ((0:Int)-x8)))
 else
 some (IntKind.wrap .i16 x8)
noncomputable def acr:List (Nat×CE):=[(152,ZC)]
theorem QF:cu Tryz.prog acr:=⟨ZE,trivial⟩
noncomputable def ZF:CE:=⟨[(.tmp 0 false [fB])],[(.tmp 0 false [(.dat (.int .i16))])],lD⟩
theorem ZG:aB Tryz.prog 153 ZF :=nK acp dD QF Tryz.func153
def Ig:List (Nat×PL):=[(134479889,.unroll),(18049651735527937,(.carry [.row 25 5 aX])),(2422583247133816450713606,(.carry [.tmp 25 false [dI],.row 25 5 aX]))]
noncomputable def oq:LN->Option (LN×Int):=fun a1 =>
 bif (decide ((a1.length:Int) > 8000)) then
 some (([]:List Int),(4:Int))
 else
 bif (decide ((0<=(a1.length:Int))/\(((a1.length:Int)<=(a1.length:Int))/\((((a1.length:Int)*(1:Int))<=140737488355328)/\((a1.length:Int)<=9223372036854775807))))) then
 au (bn (fun (v2,v3) =>
 bif (decide (v2<(a1.length:Int))) then
 bif (decide ((0<=v2)/\(v2<(a1.length:Int)))) then
 ah a1[v2.toNat]? fun x4 =>
 ah (qP x4) fun x5 =>
 bif (decide ((0<=v2)/\(v2<(((Int.toNat (a1.length:Int)):Nat):Int)))) then
 ah v3[v2.toNat]? fun x6 =>
 some (Sum.inl ((IntKind.wrap .i64 (v2+(1:Int))),(List.set v3 v2.toNat x5)))
 else none
 else none
 else
 aA (some (Sum.inl v3))) ((0:Int),(List.replicate (Int.toNat (a1.length:Int)) (0:Int)))) fun v8 =>
 bif (decide ((Int.toNat (a1.length:Int))<=v8.length)) then
 some ((List.take (Int.toNat (a1.length:Int)) v8),(0:Int))
 else none
 else none
noncomputable def Ih:List (Nat×CE):=[(147,Zy),(153,ZF)]
theorem CY:cu Tryz.prog Ih:=⟨Zz,ZG,trivial⟩
noncomputable def o9:CE:=⟨[.tmp 0 false [.ki .u8 1],.tmp 1 false [.dat (.list (.int .i16))]],[.tmp 0 false [dY],.tmp 1 false [fB]],oq⟩
theorem pW:aB Tryz.prog 52 o9 :=
 dF (bV (plan:=fA Ig) (eg:=dD) KK dM (bM CY) Tryz.func52 (by kernel_rfl) (by kernel_rfl) 10000 (fun a r h=>Eq.trans (show _=oq a from by kernel_rfl) h)) (by rfl)
def KL:List (Nat×PL):=[(134479889,.unroll),(18049651735527937,(.carry [.row 27 5 aX])),(2422583247133816450713606,(.carry [.tmp 25 false [dI],.row 27 5 aX]))]
noncomputable def uj:LN->Option (LN×Int):=fun a1 =>
 bif (decide ((a1.length:Int) > 8000)) then
 some (([]:List Int),(4:Int))
 else
 bif (decide ((0<=(a1.length:Int))/\(((a1.length:Int)<=(a1.length:Int))/\((((a1.length:Int)*(1:Int))<=140737488355328)/\((a1.length:Int)<=9223372036854775807))))) then
 au (bn (fun (v2,v3) =>
 bif (decide (v2<(a1.length:Int))) then
 bif (decide ((0<=v2)/\(v2<(a1.length:Int)))) then
 ah a1[v2.toNat]? fun x4 =>
 ah (uh x4) fun x5 =>
 bif (decide ((0<=v2)/\(v2<(((Int.toNat (a1.length:Int)):Nat):Int)))) then
 ah v3[v2.toNat]? fun x6 =>
 some (Sum.inl ((IntKind.wrap .i64 (v2+(1:Int))),(List.set v3 v2.toNat x5)))
 else none
 else none
 else
 aA (some (Sum.inl v3))) ((0:Int),(List.replicate (Int.toNat (a1.length:Int)) (0:Int)))) fun v8 =>
 bif (decide ((Int.toNat (a1.length:Int))<=v8.length)) then
 some ((List.take (Int.toNat (a1.length:Int)) v8),(0:Int))
 else none
 else none
noncomputable def KN:List (Nat×CE):=[(152,ZC),(3000000052,o9)]
theorem Ey:cu Tryz.prog KN:=⟨ZE,pW,trivial⟩
noncomputable def qQ:CE:=⟨[.tmp 0 false [.ki .u8 2],.tmp 1 false [.dat (.list (.int .i16))]],[.tmp 0 false [dY],.tmp 1 false [fB]],uj⟩
theorem rY:aB Tryz.prog 52 qQ :=
 dF (bV (plan:=fA KL) (eg:=dD) KK dM (bM Ey) Tryz.func52 (by kernel_rfl) (by kernel_rfl) 10000 (fun a r h=>Eq.trans (show _=uj a from by kernel_rfl) h)) (by rfl)
def KO:List (Nat×PL):=[(134479889,.unroll),(18049651735527937,(.carry [.row 25 98 (.int .i16)])),(2422583247133816450713606,(.carry [.tmp 25 false [dI],.row 25 98 (.int .i16)]))]
noncomputable def um:LN->Option (LN×Int):=fun a1 =>
 bif (decide ((a1.length:Int) > 8000)) then
 some (([]:List Int),(4:Int))
 else
 bif (decide ((0<=(a1.length:Int))/\(((a1.length:Int)<=(a1.length:Int))/\((((a1.length:Int)*(2:Int))<=140737488355328)/\((a1.length:Int)<=9223372036854775807))))) then
 au (bn (fun (v2,v3) =>
 bif (decide (v2<(a1.length:Int))) then
 bif (decide ((0<=v2)/\(v2<(a1.length:Int)))) then
 ah a1[v2.toNat]? fun x4 =>
 ah (kQ x4) fun x5 =>
 bif (decide ((0<=v2)/\(v2<(((Int.toNat (a1.length:Int)):Nat):Int)))) then
 ah v3[v2.toNat]? fun x6 =>
 some (Sum.inl ((IntKind.wrap .i64 (v2+(1:Int))),(List.set v3 v2.toNat x5)))
 else none
 else none
 else
 aA (some (Sum.inl v3))) ((0:Int),(List.replicate (Int.toNat (a1.length:Int)) (0:Int)))) fun v8 =>
 bif (decide ((Int.toNat (a1.length:Int))<=v8.length)) then
 some ((List.take (Int.toNat (a1.length:Int)) v8),(0:Int))
 else none
 else none
noncomputable def KP:List (Nat×CE):=[(148,ZA),(4000000052,qQ)]
theorem Ez:cu Tryz.prog KP:=⟨ZB,rY,trivial⟩
noncomputable def qR:CE:=⟨[.tmp 0 false [.ki .u8 1],.tmp 1 false [.dat (.list aX)]],[.tmp 0 false [(.dat (.list (.int .i16)))],.tmp 1 false [fB]],um⟩
theorem rZ:aB Tryz.prog 54 qR :=
 dF (bV (plan:=fA KO) (eg:=dD) KK dM (bM Ez) Tryz.func54 (by kernel_rfl) (by kernel_rfl) 10000 (fun a r h=>Eq.trans (show _=um a from by kernel_rfl) h)) (by rfl)
def NY:List (Nat×PL):=[(134479889,.unroll),(18049651735527937,(.carry [.row 27 98 (.int .i16)])),(2422583247133816450713606,(.carry [.tmp 25 false [dI],.row 27 98 (.int .i16)]))]
noncomputable def CZ:LN->Option (LN×Int):=fun a1 =>
 bif (decide ((a1.length:Int) > 8000)) then
 some (([]:List Int),(4:Int))
 else
 bif (decide ((0<=(a1.length:Int))/\(((a1.length:Int)<=(a1.length:Int))/\((((a1.length:Int)*(2:Int))<=140737488355328)/\((a1.length:Int)<=9223372036854775807))))) then
 au (bn (fun (v2,v3) =>
 bif (decide (v2<(a1.length:Int))) then
 bif (decide ((0<=v2)/\(v2<(a1.length:Int)))) then
 ah a1[v2.toNat]? fun x4 =>
 ah (lD x4) fun x5 =>
 bif (decide ((0<=v2)/\(v2<(((Int.toNat (a1.length:Int)):Nat):Int)))) then
 ah v3[v2.toNat]? fun x6 =>
 some (Sum.inl ((IntKind.wrap .i64 (v2+(1:Int))),(List.set v3 v2.toNat x5)))
 else none
 else none
 else
 aA (some (Sum.inl v3))) ((0:Int),(List.replicate (Int.toNat (a1.length:Int)) (0:Int)))) fun v8 =>
 bif (decide ((Int.toNat (a1.length:Int))<=v8.length)) then
 some ((List.take (Int.toNat (a1.length:Int)) v8),(0:Int))
 else none
 else none
noncomputable def NZ:List (Nat×CE):=[(153,ZF),(3000000054,qR)]
theorem GZ:cu Tryz.prog NZ:=⟨ZG,rZ,trivial⟩
noncomputable def uo:CE:=⟨[.tmp 0 false [.ki .u8 2],.tmp 1 false [.dat (.list aX)]],[.tmp 0 false [(.dat (.list (.int .i16)))],.tmp 1 false [fB]],CZ⟩
theorem vw:aB Tryz.prog 54 uo :=
 dF (bV (plan:=fA NY) (eg:=dD) KK dM (bM GZ) Tryz.func54 (by kernel_rfl) (by kernel_rfl) 10000 (fun a r h=>Eq.trans (show _=CZ a from by kernel_rfl) h)) (by rfl)
def afL:List (Nat×PL):=[]
noncomputable def kR:(Int×Int)->Option Bool:=fun (a1,a2) =>
 bif (decide (a1>=(-32768:Int))) then
 bif (decide (a1<=32767)) then
 bif (decide (a2>=0)) then
 some (decide (a2<89))
 else
 some false
 else
 some false
 else
 some false
noncomputable def afM:List (Nat×CE):=[(4000000054,uo)]
theorem VA:cu Tryz.prog afM:=⟨vw,trivial⟩
noncomputable def ZH:CE:=⟨[(.tmp 0 true [dI,dI])],[(.tmp 0 false [dO])],kR⟩
theorem TL:aB Tryz.prog 78 ZH :=nK afL dD VA Tryz.func78
def afN:List (Nat×PL):=[]
noncomputable def jh:Int->Option Int:=fun a1 =>
 some (IntKind.wrap .i64 ((4:Int)+(IntKind.wrap .i64 (Int.tdiv (IntKind.wrap .i64 (a1+(1:Int))) (2:Int)))))
noncomputable def afO:List (Nat×CE):=[(78,ZH)]
theorem VB:cu Tryz.prog afO:=⟨TL,trivial⟩
noncomputable def acs:CE:=⟨[(.tmp 0 false [dI])],[(.tmp 0 false [dI])],jh⟩
theorem ZI:aB Tryz.prog 85 acs :=nK afN dD VB Tryz.func85
def afP:List (Nat×PL):=[(68853957121,(.carry [.tmp 8 false [dI],.tmp 7 false [dI]]))]
noncomputable def ny:((Int×Int)×Int)->Option Int:=fun ((a1,a2),a3) =>
 ah (some (IntKind.wrap .i64 (a3-a1))) fun x4 =>
 au (bif (decide (x4<0)) then
 some (Sum.inl ((8:Int),(IntKind.wrap .i64 ((0:Int)-x4))))
 else
 some (Sum.inl ((0:Int),x4))) fun (v6,v7) =>
 bif (decide ((0<=a2)/\(a2<89))) then
 ah szL[a2.toNat]? fun x9 =>
 bif (decide (x9≠0)) then
 some (IntKind.wrap .i64 (v6+(eU (IntKind.wrap .i64 (Int.tdiv (IntKind.wrap .i64 ((4:Int)*v7)) x9)) (7:Int))))
 else none
 else none
noncomputable def afQ:List (Nat×CE):=[(85,acs)]
theorem VD:cu Tryz.prog afQ:=⟨ZI,trivial⟩
noncomputable def afR:CE:=⟨[.tmp 0 false [.pt 20000001 0],.tmp 1 true [.dat ak,.dat ak],.tmp 2 false [.dat ak],.mix 20000001 szK],[.tmp 0 false [dI]],ny⟩
theorem adX:aB Tryz.prog 87 afR :=
 dF (bV (plan:=fA afP) (eg:=dD) KK dM (bM VD) Tryz.func87 (by kernel_rfl) (by kernel_rfl) 10000 (fun a r h=>Eq.trans (show _=ny a from by kernel_rfl) h)) (by rfl)
def afS:List (Nat×PL):=[(68853957121,(.carry [.tmp 8 false [dI]]))]
noncomputable def kV:((Int×Int)×Int)->Option (Int×Int):=fun ((a1,a2),a3) =>
 ah (some (Int.tmod a3 (8:Int))) fun x4 =>
 bif (decide ((0<=a2)/\(a2<89))) then
 ah szL[a2.toNat]? fun x7 =>
 ah (some (IntKind.wrap .i64 (Int.tdiv (IntKind.wrap .i64 ((IntKind.wrap .i64 ((IntKind.wrap .i64 ((2:Int)*x4))+(1:Int)))*x7)) (8:Int)))) fun x9 =>
 au (bif (decide (a3>=8)) then
 some (Sum.inl (IntKind.wrap .i64 ((0:Int)-x9)))
 else
 some (Sum.inl x9)) fun v11 =>
 ah (some (IntKind.wrap .i64 (a1+v11))) fun x12 =>
 bif (decide (x4<4)) then
 some ((eU (bf x12 (-32768:Int)) (32767:Int)),(eU (bf (IntKind.wrap .i64 (a2-(1:Int))) (0:Int)) (88:Int)))
 else
 some ((eU (bf x12 (-32768:Int)) (32767:Int)),(eU (bf (IntKind.wrap .i64 (a2+(IntKind.wrap .i64 ((2:Int)*(IntKind.wrap .i64 (x4-(3:Int))))))) (0:Int)) (88:Int)))
 else none
noncomputable def afT:List (Nat×CE):=[(87,afR)]
theorem VE:cu Tryz.prog afT:=⟨adX,trivial⟩
noncomputable def afU:CE:=⟨[.tmp 0 false [.pt 20000001 0],.tmp 1 true [.dat ak,.dat ak],.tmp 2 false [.dat ak],.mix 20000001 szK],[.tmp 0 true [dI,dI]],kV⟩
theorem adY:aB Tryz.prog 88 afU :=
 dF (bV (plan:=fA afS) (eg:=dD) KK dM (bM VE) Tryz.func88 (by kernel_rfl) (by kernel_rfl) 10000 (fun a r h=>Eq.trans (show _=kV a from by kernel_rfl) h)) (by rfl)
def afV:List (Nat×PL):=[(2422583247133816584929793,(.carry [.row 13 5 aX,.mix 0 [dI,dI]])),(325153619321163373997995722016774,(.carry [.tmp 51 false [dI],.row 13 5 aX,.mix 0 [dI,dI]]))]
noncomputable def iC:((Int×Int)×LN)->Option (LN×((Int×Int)×Int)):=fun ((a1,a2),a3) =>
 ah (kR (a1,a2)) fun x4 =>
 bif (!x4) then
 some (([]:List Int),(((0:Int),(0:Int)),(2:Int)))
 else
 bif (decide ((a3.length:Int) > 8000)) then
 some (([]:List Int),(((0:Int),(0:Int)),(4:Int)))
 else
 ah (jh (a3.length:Int)) fun x5 =>
 bif (decide ((0<=x5)/\((x5<=x5)/\(((x5*(1:Int))<=140737488355328)/\(x5<=9223372036854775807))))) then
 ah (some (Int.fdiv (IntKind.wrap .u16 a1) (256:Int))) fun x7 =>
 ah (some (IntKind.wrap .u8 (IntKind.wrap .u16 a1))) fun x9 =>
 bif (decide (((0:Int)<=0)/\(0<((x5.toNat:Nat):Int)))) then
 ah (List.replicate x5.toNat (0:Int))[0]? fun x11 =>
 bif (decide (((0:Int)<=1)/\(1<((x5.toNat:Nat):Int)))) then
 ah (List.set (List.replicate x5.toNat (0:Int)) 0 (IntKind.wrap .u8 x7))[1]? fun x12 =>
 bif (decide (((0:Int)<=2)/\(2<((x5.toNat:Nat):Int)))) then
 ah (List.set (List.set (List.replicate x5.toNat (0:Int)) 0 (IntKind.wrap .u8 x7)) 1 x9)[2]? fun x13 =>
 bif ((decide ((0<=((x5.toNat:Nat):Int))/\(((x5.toNat:Nat):Int)<=((x5.toNat:Nat):Int))))&&((decide ((0<=((x5.toNat:Nat):Int))/\(((x5.toNat:Nat):Int)<=(((Int.toNat ((x5.toNat:Nat):Int)):Nat):Int))))&&(decide (((0:Int)<=4)/\(4<=(((Int.toNat ((x5.toNat:Nat):Int)):Nat):Int)))))) then
 ah (szG ()) fun _ =>
 au (bn (fun (v15,(v16,(v17,v18))) =>
 bif (decide (v15<(a3.length:Int))) then
 bif (decide ((0<=v15)/\(v15<(a3.length:Int)))) then
 ah a3[v15.toNat]? fun x19 =>
 ah (ny ((v17,v18),(IntKind.wrap .i64 x19))) fun x21 =>
 ah (kV ((v17,v18),x21)) fun (x23,x24) =>
 bif (decide ((Int.tmod v15 (2:Int))=0)) then
 ah (some (IntKind.wrap .i64 (Int.tdiv v15 (2:Int)))) fun x27 =>
 bif (decide ((0<=x27)/\(x27<((((Int.toNat ((x5.toNat:Nat):Int))-4):Nat):Int)))) then
 ah v16[(4+x27.toNat)]? fun x28 =>
 bif (decide ((0<=x27)/\(x27<((((Int.toNat ((x5.toNat:Nat):Int))-4):Nat):Int)))) then
 ah v16[(4+x27.toNat)]? fun x31 =>
 some (Sum.inl ((IntKind.wrap .i64 (v15+(1:Int))),((List.set v16 (4+x27.toNat) (IntKind.wrap .u8 (x28+(IntKind.wrap .u8 (IntKind.wrap .i64 (x21*(16:Int))))))),(x23,x24))))
 else none
 else none
 else
 ah (some (IntKind.wrap .i64 (Int.tdiv v15 (2:Int)))) fun x33 =>
 bif (decide ((0<=x33)/\(x33<((((Int.toNat ((x5.toNat:Nat):Int))-4):Nat):Int)))) then
 ah v16[(4+x33.toNat)]? fun x34 =>
 bif (decide ((0<=x33)/\(x33<((((Int.toNat ((x5.toNat:Nat):Int))-4):Nat):Int)))) then
 ah v16[(4+x33.toNat)]? fun x37 =>
 some (Sum.inl ((IntKind.wrap .i64 (v15+(1:Int))),((List.set v16 (4+x33.toNat) (IntKind.wrap .u8 (x34+(IntKind.wrap .u8 x21)))),(x23,x24))))
 else none
 else none
 else none
 else
 aA (some (Sum.inl (v16,(v17,v18))))) ((0:Int),((List.set (List.set (List.set (List.replicate x5.toNat (0:Int)) 0 (IntKind.wrap .u8 x7)) 1 x9) 2 (IntKind.wrap .u8 a2)),(a1,a2)))) fun (v39,(v40,v41)) =>
 bif (decide (x5.toNat<=v39.length)) then
 some ((List.take x5.toNat v39),((v40,v41),(0:Int)))
 else none
 else none
 else none
 else none
 else none
 else none
noncomputable def N7:CE:=⟨[],[.tmp 0 true szK],szG⟩
noncomputable def afW:List (Nat×CE):=[(86,N7),(78,ZH),(85,acs),(87,afR),(88,afU)]
theorem VF:cu Tryz.prog afW:=⟨Js,TL,ZI,adX,adY,trivial⟩
noncomputable def ZJ:CE:=⟨[(.tmp 0 true [dI,dI]),(.tmp 1 false [(.dat (.list (.int .i16)))])],[(.tmp 0 false [dY]),(.tmp 1 true [dI,dI]),(.tmp 2 false [fB])],iC⟩
theorem TM:aB Tryz.prog 53 ZJ :=nK afV dD VF Tryz.func53
def afX:List (Nat×PL):=[(68853957121,(.carry [])),(2422583247133816584929793,(.carry [.row 44 98 (.int .i16),.mix 31 [dI,dI]])),(325153619321163373997995722016774,(.carry [.tmp 86 false [dI],.row 44 98 (.int .i16),.mix 31 [dI,dI]])),(2999012800128941014399895097006285836248878804107777,(.carry [.tmp 12 false [dI]]))]
noncomputable def fC:(LN×Int)->Option (LN×((Int×Int)×Int)):=fun (a1,a2) =>
 bif (decide (a2<0)) then
 some (([]:List Int),(((0:Int),(0:Int)),(3:Int)))
 else
 bif (decide (a2 > 8000)) then
 some (([]:List Int),(((0:Int),(0:Int)),(3:Int)))
 else
 ah (jh a2) fun x3 =>
 bif (decide ((a1.length:Int)<x3)) then
 some (([]:List Int),(((0:Int),(0:Int)),(6:Int)))
 else
 au (ah (jh a2) fun x4 =>
 bif (decide ((a1.length:Int) > x4)) then
 aA (some (([]:List Int),(((0:Int),(0:Int)),(5:Int))))
 else
 bif (decide (((0:Int)<=2)/\(2<(a1.length:Int)))) then
 ah a1[2]? fun x5 =>
 bif (decide (x5>=89)) then
 aA (some (([]:List Int),(((0:Int),(0:Int)),(5:Int))))
 else
 bif (decide (((0:Int)<=3)/\(3<(a1.length:Int)))) then
 ah a1[3]? fun x6 =>
 bif (decide (x6≠0)) then
 aA (some (([]:List Int),(((0:Int),(0:Int)),(5:Int))))
 else
 bif (decide ((Int.tmod a2 (2:Int))=1)) then
 ah (some (IntKind.wrap .i64 ((a1.length:Int)-(1:Int)))) fun x8 =>
 bif (decide ((0<=x8)/\(x8<(a1.length:Int)))) then
 ah a1[x8.toNat]? fun x9 =>
 bif (decide ((Int.tmod x9 (16:Int))≠0)) then
 aA (some (([]:List Int),(((0:Int),(0:Int)),(5:Int))))
 else
 some (Sum.inl ())
 else none
 else
 some (Sum.inl ())
 else none
 else none) fun _ =>
 bif (decide (((0:Int)<=0)/\(0<(a1.length:Int)))) then
 ah a1[0]? fun x11 =>
 bif (decide (((0:Int)<=1)/\(1<(a1.length:Int)))) then
 ah a1[1]? fun x14 =>
 bif (decide (((0:Int)<=2)/\(2<(a1.length:Int)))) then
 ah a1[2]? fun x19 =>
 bif ((decide ((0<=(a1.length:Int))/\((a1.length:Int)<=(a1.length:Int))))&&((decide ((0<=(a1.length:Int))/\((a1.length:Int)<=(((Int.toNat (a1.length:Int)):Nat):Int))))&&(decide (((0:Int)<=4)/\(4<=(((Int.toNat (a1.length:Int)):Nat):Int)))))) then
 ah (some (List.take ((Int.toNat (a1.length:Int))-4) (a1.drop 4))) fun x21 =>
 ah (szG ()) fun _ =>
 bif (decide ((0<=a2)/\((a2<=a2)/\(((a2*(2:Int))<=140737488355328)/\(a2<=9223372036854775807))))) then
 au (bn (fun (v23,(v24,(v25,v26))) =>
 bif (decide (v23<a2)) then
 ah (some (IntKind.wrap .i64 (Int.tdiv v23 (2:Int)))) fun x27 =>
 bif (decide ((0<=x27)/\(x27<(x21.length:Int)))) then
 ah x21[x27.toNat]? fun x28 =>
 au (bif (decide ((Int.tmod v23 (2:Int))=0)) then
 some (Sum.inl (IntKind.wrap .i64 (Int.tdiv (IntKind.wrap .i64 x28) (16:Int))))
 else
 some (Sum.inl (IntKind.wrap .i64 x28))) fun v32 =>
 ah (kV ((v25,v26),(Int.tmod v32 (16:Int)))) fun (x35,x36) =>
 bif (decide ((0<=v23)/\(v23<((a2.toNat:Nat):Int)))) then
 ah v24[v23.toNat]? fun x38 =>
 some (Sum.inl ((IntKind.wrap .i64 (v23+(1:Int))),((List.set v24 v23.toNat (IntKind.wrap .i16 x35)),(x35,x36))))
 else none
 else none
 else
 aA (some (Sum.inl (v24,(v25,v26))))) ((0:Int),((List.replicate a2.toNat (0:Int)),((IntKind.wrap .i64 (IntKind.wrap .i16 (IntKind.wrap .u16 (((BitVec.toNat ((BitVec.ofInt 16 (IntKind.wrap .u16 ((IntKind.wrap .u16 x11)*(256:Int)))) ||| (BitVec.ofInt 16 (IntKind.wrap .u16 x14)))):Nat):Int)))),(IntKind.wrap .i64 x19))))) fun (v40,(v41,v42)) =>
 bif (decide (a2.toNat<=v40.length)) then
 some ((List.take a2.toNat v40),((v41,v42),(0:Int)))
 else none
 else none
 else none
 else none
 else none
 else none
noncomputable def afY:List (Nat×CE):=[(86,N7),(85,acs),(88,afU),(53,ZJ)]
theorem VG:cu Tryz.prog afY:=⟨Js,ZI,adY,TM,trivial⟩
noncomputable def acu:CE:=⟨[(.tmp 0 false [dY]),(.tmp 1 false [dI])],[(.tmp 0 false [(.dat (.list (.int .i16)))]),(.tmp 1 true [dI,dI]),(.tmp 2 false [fB])],fC⟩
theorem ZK:aB Tryz.prog 55 acu :=nK afX dD VG Tryz.func55
def afZ:List (Nat×PL):=[]
noncomputable def ay:(Int×Int)->Option Bool:=fun (a1,a2) =>
 bif (decide (1<=a1)) then
 bif (decide (a1<=a2)) then
 some (decide (a2<=1000))
 else
 some false
 else
 some false
noncomputable def af0:List (Nat×CE):=[]
theorem VH:cu Tryz.prog af0:=trivial
noncomputable def VJ:CE:=⟨[(.tmp 0 true [dI,dI])],[(.tmp 0 false [dO])],ay⟩
theorem Ju:aB Tryz.prog 61 VJ :=nK afZ dD VH Tryz.func61
def acv:List (Nat×PL):=[]
noncomputable def jT:(Int×(Int×(Bool×(Int×LN))))->Option Bool:=fun (a1,(a2,(a3,(a4,a5)))) =>
 bif (decide (a1>=0)) then
 bif (decide (a1<=281474976710656)) then
 bif (decide (a2>=(-281474976710656:Int))) then
 bif (decide (a2<=281474976710656)) then
 some (decide ((a5.length:Int)<=1500))
 else
 some false
 else
 some false
 else
 some false
 else
 some false
noncomputable def acw:List (Nat×CE):=[(61,VJ)]
theorem QG:cu Tryz.prog acw:=⟨Ju,trivial⟩
noncomputable def TN:CE:=⟨[(.tmp 0 true [dI,dI,dO,fB,dY])],[(.tmp 0 false [dO])],jT⟩
theorem KQ:aB Tryz.prog 116 TN :=nK acv dD QG Tryz.func116
def af2:List (Nat×PL):=[]
noncomputable def cmp_Compare_int:(Int×Int)->Option Int:=fun (a1,a2) =>
 bif (decide (a1≠a1)) then
 bif (decide (a2≠a2)) then
 some (0:Int)
 else
 some (-1:Int)
 else
 bif (decide (a2≠a2)) then
 some (1:Int)
 else
 bif (decide (a1<a2)) then
 some (-1:Int)
 else
 bif (decide (a1 > a2)) then
 some (1:Int)
 else
 some (0:Int)
noncomputable def af4:List (Nat×CE):=[(116,TN)]
theorem VK:cu Tryz.prog af4:=⟨KQ,trivial⟩
noncomputable def acy:CE:=⟨[(.tmp 0 false [dI]),(.tmp 1 false [dI])],[(.tmp 0 false [dI])],cmp_Compare_int⟩
theorem TP:aB Tryz.prog 36 acy :=nK af2 dD VK Tryz.func36
def acz:List (Nat×PL):=[]
noncomputable def jY:(Int×Int)->Option Int:=fun (a1,a2) =>
 bif (decide (a1≠a1)) then
 bif (decide (a2≠a2)) then
 some (0:Int)
 else
 some (-1:Int)
 else
 bif (decide (a2≠a2)) then
 some (1:Int)
 else
 bif (decide (a1<a2)) then
 some (-1:Int)
 else
 bif (decide (a1 > a2)) then
 some (1:Int)
 else
 some (0:Int)
noncomputable def acA:List (Nat×CE):=[(36,acy)]
theorem QH:cu Tryz.prog acA:=⟨TP,trivial⟩
noncomputable def adZ:CE:=⟨[(.tmp 0 false [dI]),(.tmp 1 false [dI])],[(.tmp 0 false [dI])],jY⟩
theorem ZL:aB Tryz.prog 120 adZ :=nK acz dD QH Tryz.func120
def acB:List (Nat×PL):=[]
noncomputable def jM:((Int×(Int×(Int×(Bool×(Int×LN)))))×(Int×(Int×(Int×(Bool×(Int×LN))))))->Option Int:=fun ((a1,(a2,(a3,(a4,(a5,a6))))),(a7,(a8,(a9,(a10,(a11,a12)))))) =>
 ah (cmp_Compare_int (a1,a7)) fun x13 =>
 bif (decide (x13≠0)) then
 some x13
 else
 ah (jY (a2,a8)) fun x14 =>
 some x14
noncomputable def acC:List (Nat×CE):=[(36,acy),(120,adZ)]
theorem QI:cu Tryz.prog acC:=⟨TP,ZL,trivial⟩
noncomputable def TQ:CE:=⟨[(.tmp 0 true [dI,dI,dI,dO,fB,dY]),(.tmp 1 true [dI,dI,dI,dO,fB,dY])],[(.tmp 0 false [dI])],jM⟩
theorem KR:aB Tryz.prog 103 TQ :=nK acB dD QI Tryz.func103
def acD:List (Nat×PL):=[]
noncomputable def jA:Int->Option Int:=fun a1 =>
 some (Int.fdiv a1 (8:Int))
noncomputable def acE:List (Nat×CE):=[(103,TQ)]
theorem QJ:cu Tryz.prog acE:=⟨KR,trivial⟩
noncomputable def TS:CE:=⟨[(.tmp 0 false [dI])],[(.tmp 0 false [dI])],jA⟩
theorem KT:aB Tryz.prog 108 TS :=nK acD dD QJ Tryz.func108
def af5:List (Nat×PL):=[]
noncomputable def ji:((Int×(Int×(Int×(Bool×(Int×(Int×(Int×(Int×(Int×(Int×((List (Int×(Int×(Int×(Bool×(Int×LN))))))×(Int×(Int×Int)))))))))))))×Int)->Option Int:=fun ((a1,(a2,(a3,(a4,(a5,(a6,(a7,(a8,(a9,(a10,(a11,(a12,(a13,a14))))))))))))),a15) =>
 ah (jA (IntKind.wrap .i64 (a15-a6))) fun x17 =>
 some (IntKind.wrap .i64 (a5+x17))
noncomputable def af6:List (Nat×CE):=[(108,TS)]
theorem VL:cu Tryz.prog af6:=⟨KT,trivial⟩
noncomputable def acF:CE:=⟨[(.tmp 0 true [dI,dI,dI,dO,dI,dI,dI,dI,dI,dI,(.dat (.list (.pair ak (.pair ak (.pair ak (.pair .bool (.pair aX (.list aX)))))))),dI,dI,dI]),(.tmp 1 false [dI])],[(.tmp 0 false [dI])],ji⟩
theorem TT:aB Tryz.prog 77 acF :=nK af5 dD VL Tryz.func77
def acG:List (Nat×PL):=[]
noncomputable def eP:(Int×(Int×(Bool×(Int×LN))))->Option (Int×(Int×(Bool×(Int×LN)))):=fun (a1,(a2,(a3,(a4,a5)))) =>
 bif (decide ((a5.length:Int) > 0)) then
 bif (decide ((0<=(a5.length:Int))/\(((a5.length:Int)<=(a5.length:Int))/\((((a5.length:Int)*(1:Int))<=140737488355328)/\((a5.length:Int)<=9223372036854775807))))) then
 bif (decide ((Int.toNat (a5.length:Int))<=(List.length (List.replicate (Int.toNat (a5.length:Int)) (0:Int))))) then
 bif (decide ((Int.toNat (a5.length:Int))<=(List.length (Gm (List.replicate (Int.toNat (a5.length:Int)) (0:Int)) 0 (List.take (Int.toNat (a5.length:Int)) a5))))) then
 some (a1,(a2,(a3,(a4,(List.take (Int.toNat (a5.length:Int)) (Gm (List.replicate (Int.toNat (a5.length:Int)) (0:Int)) 0 (List.take (Int.toNat (a5.length:Int)) a5)))))))
 else none
 else none
 else none
 else
 some (a1,(a2,(a3,(a4,([]:List Int)))))
noncomputable def acH:List (Nat×CE):=[(77,acF)]
theorem QL:cu Tryz.prog acH:=⟨TT,trivial⟩
noncomputable def TU:CE:=⟨[(.tmp 0 true [dI,dI,dO,fB,dY])],[(.tmp 0 true [dI,dI,dO,fB,dY])],eP⟩
theorem KU:aB Tryz.prog 101 TU :=nK acG dD QL Tryz.func101
def acI:List (Nat×PL):=[(68853957121,(.carry [.mp 6])),(9241421688456087558,(.carry [.tmp 14 false [dI],.mp 6])),(166478653090017823607932723020169729,(.carry []))]
noncomputable def jo:(Int×(Int×(Int×(Bool×(Int×(Int×(Int×(Int×(Int×(Int×((List (Int×(Int×(Int×(Bool×(Int×LN))))))×(Int×(Int×Int)))))))))))))->Option Bool:=fun (a1,(a2,(a3,(a4,(a5,(a6,(a7,(a8,(a9,(a10,(a11,(a12,(a13,a14))))))))))))) =>
 bif (decide ((a11.length:Int) > 200)) then
 some false
 else
 au (bn (fun (v15,v16) =>
 bif (decide (v15<(a11.length:Int))) then
 bif (decide ((0<=v15)/\(v15<(a11.length:Int)))) then
 ah a11[v15.toNat]? fun x17 =>
 au (ah (jT (x17.2.1,(x17.2.2.1,(x17.2.2.2.1,(x17.2.2.2.2.1,x17.2.2.2.2.2))))) fun x18 =>
 bif (!x18) then
 aA (aA (aA (some false)))
 else
 bif (decide (x17.1<=a3)) then
 aA (aA (aA (some false)))
 else
 bif (decide (x17.1 > 562949953421312)) then
 aA (aA (aA (some false)))
 else
 bif (decide (x17.2.1 > a7)) then
 aA (aA (aA (some false)))
 else
 bif (decide (Membership.mem v16 x17.2.1)) then
 aA (aA (aA (some false)))
 else
 some (Sum.inl ())) fun _ =>
 bif (decide (v15 > 0)) then
 ah (some (IntKind.wrap .i64 (v15-(1:Int)))) fun x19 =>
 bif (decide ((0<=x19)/\(x19<(a11.length:Int)))) then
 ah a11[x19.toNat]? fun x20 =>
 ah (jM ((x20.1,(x20.2.1,(x20.2.2.1,(x20.2.2.2.1,(x20.2.2.2.2.1,x20.2.2.2.2.2))))),(x17.1,(x17.2.1,(x17.2.2.1,(x17.2.2.2.1,(x17.2.2.2.2.1,x17.2.2.2.2.2))))))) fun x21 =>
 bif (decide (x21 > 0)) then
 aA (aA (some false))
 else
 some (Sum.inl ((IntKind.wrap .i64 (v15+(1:Int))),(uz v16 x17.2.1)))
 else none
 else
 some (Sum.inl ((IntKind.wrap .i64 (v15+(1:Int))),(uz v16 x17.2.1)))
 else none
 else
 aA (some (Sum.inl v16))) ((0:Int),([]:List Int))) fun v24 =>
 some true
noncomputable def acJ:List (Nat×CE):=[(116,TN),(103,TQ),(101,TU)]
theorem QM:cu Tryz.prog acJ:=⟨KQ,KR,KU,trivial⟩
noncomputable def ad1:CE:=⟨[(.tmp 0 true [dI,dI,dI,dO,dI,dI,dI,dI,dI,dI,(.dat (.list (.pair ak (.pair ak (.pair ak (.pair .bool (.pair aX (.list aX)))))))),dI,dI,dI])],[(.tmp 0 false [dO])],jo⟩
theorem ZM:aB Tryz.prog 107 ad1 :=nK acI dD QM Tryz.func107
def af7:List (Nat×PL):=[(262657,(.carry [.tmp 3 false [dO]])),(68853957121,(.carry [])),(9241421688456087558,(.carry [.tmp 90 false [dI]])),(35253226045953,(.carry []))]
noncomputable def iJ:(Int×(Int×(Int×(Bool×(Int×(Int×(Int×(Int×(Int×(Int×((List (Int×(Int×(Int×(Bool×(Int×LN))))))×(Int×(Int×Int)))))))))))))->Option Bool:=fun (a1,(a2,(a3,(a4,(a5,(a6,(a7,(a8,(a9,(a10,(a11,(a12,(a13,a14))))))))))))) =>
 au (bif (decide (a3>=0)) then
 bif (decide (a3<=281474976710656)) then
 bif (decide (a5>=(-1125899906842624:Int))) then
 bif (decide (a5<=1125899906842624)) then
 bif (decide (a10>=(-1125899906842624:Int))) then
 bif (decide (a10<=1125899906842624)) then
 bif (decide (a6>=(-281474976710656:Int))) then
 bif (decide (a6<=281474976710656)) then
 bif (decide (a7>=(-1:Int))) then
 bif (decide (a7<=281474976710656)) then
 bif (decide (a8>=(-1:Int))) then
 bif (decide (a8<=281474976710656)) then
 bif (decide (a9>=0)) then
 some (Sum.inl (decide (a9<=72057594037927936)))
 else
 some (Sum.inl false)
 else
 some (Sum.inl false)
 else
 some (Sum.inl false)
 else
 some (Sum.inl false)
 else
 some (Sum.inl false)
 else
 some (Sum.inl false)
 else
 some (Sum.inl false)
 else
 some (Sum.inl false)
 else
 some (Sum.inl false)
 else
 some (Sum.inl false)
 else
 some (Sum.inl false)
 else
 some (Sum.inl false)
 else
 some (Sum.inl false)) fun v15 =>
 bif (!v15) then
 some false
 else
 ah (ay (a1,a2)) fun x16 =>
 bif (!x16) then
 some false
 else
 au (bn (fun v17 =>
 bif (decide (v17<3)) then
 bif (decide ((0<=v17)/\(v17<3))) then
 ah (a12::(a13::(a14::([]:List Int))))[v17.toNat]? fun x18 =>
 bif (decide (x18<0)) then
 aA (aA (some false))
 else
 bif (decide (x18 > 281474976710656)) then
 aA (aA (some false))
 else
 some (Sum.inl (IntKind.wrap .i64 (v17+(1:Int))))
 else none
 else
 aA (some (Sum.inl ()))) (0:Int)) fun _ =>
 au (bif (!a4) then
 bif (decide ((a11.length:Int) > 0)) then
 aA (some false)
 else
 bif (decide (a7≠(-1:Int))) then
 aA (some false)
 else
 bif (decide (a8≠(-1:Int))) then
 aA (some false)
 else
 some (Sum.inl ())
 else
 some (Sum.inl ())) fun _ =>
 ah (jo (a1,(a2,(a3,(a4,(a5,(a6,(a7,(a8,(a9,(a10,(a11,(a12,(a13,a14)))))))))))))) fun x20 =>
 some x20
noncomputable def af8:List (Nat×CE):=[(61,VJ),(107,ad1)]
theorem VN:cu Tryz.prog af8:=⟨Ju,ZM,trivial⟩
noncomputable def ZN:CE:=⟨[(.tmp 0 true [dI,dI,dI,dO,dI,dI,dI,dI,dI,dI,(.dat (.list (.pair ak (.pair ak (.pair ak (.pair .bool (.pair aX (.list aX)))))))),dI,dI,dI])],[(.tmp 0 false [dO])],iJ⟩
theorem N8:aB Tryz.prog 76 ZN :=nK af7 dD VN Tryz.func76
def af9:List (Nat×PL):=[(262657,(.carry []))]
noncomputable def jO:((Int×(Int×(Int×(Bool×(Int×(Int×(Int×(Int×(Int×(Int×((List (Int×(Int×(Int×(Bool×(Int×LN))))))×(Int×(Int×Int)))))))))))))×Int)->Option Int:=fun ((a1,(a2,(a3,(a4,(a5,(a6,(a7,(a8,(a9,(a10,(a11,(a12,(a13,a14))))))))))))),a15) =>
 au (ah (iJ (a1,(a2,(a3,(a4,(a5,(a6,(a7,(a8,(a9,(a10,(a11,(a12,(a13,a14)))))))))))))) fun x16 =>
 bif (!x16) then
 aA (some (0:Int))
 else
 bif (decide (a15<(-281474976710656:Int))) then
 aA (some (0:Int))
 else
 bif (decide (a15 > 281474976710656)) then
 aA (some (0:Int))
 else
 some (Sum.inl ())) fun _ =>
 ah (ji ((a1,(a2,(a3,(a4,(a5,(a6,(a7,(a8,(a9,(a10,(a11,(a12,(a13,a14))))))))))))),a15)) fun x17 =>
 some x17
noncomputable def aga:List (Nat×CE):=[(77,acF),(76,ZN)]
theorem VO:cu Tryz.prog aga:=⟨TT,N8,trivial⟩
noncomputable def agb:CE:=⟨[(.tmp 0 true [dI,dI,dI,dO,dI,dI,dI,dI,dI,dI,(.dat (.list (.pair ak (.pair ak (.pair ak (.pair .bool (.pair aX (.list aX)))))))),dI,dI,dI]),(.tmp 1 false [dI])],[(.tmp 0 false [dI])],jO⟩
theorem ZO:aB Tryz.prog 41 agb :=nK af9 dD VO Tryz.func41
def agc:List (Nat×PL):=[]
noncomputable def kW:((Int×(Int×(Int×(Bool×(Int×(Int×(Int×(Int×(Int×(Int×((List (Int×(Int×(Int×(Bool×(Int×LN))))))×(Int×(Int×Int)))))))))))))×(Int×(Int×(Int×(Bool×(Int×LN))))))->Option Int:=fun ((a1,(a2,(a3,(a4,(a5,(a6,(a7,(a8,(a9,(a10,(a11,(a12,(a13,a14))))))))))))),(a15,(a16,(a17,(a18,(a19,a20)))))) =>
 ah (iJ (a1,(a2,(a3,(a4,(a5,(a6,(a7,(a8,(a9,(a10,(a11,(a12,(a13,a14)))))))))))))) fun x21 =>
 bif (!x21) then
 some (2:Int)
 else
 bif (decide (a15 > 281474976710656)) then
 some (2:Int)
 else
 ah (jT (a16,(a17,(a18,(a19,a20))))) fun x22 =>
 bif (!x22) then
 some (2:Int)
 else
 bif (decide (a15<a3)) then
 some (9:Int)
 else
 some (0:Int)
noncomputable def agd:List (Nat×CE):=[(116,TN),(76,ZN),(41,agb)]
theorem VP:cu Tryz.prog agd:=⟨KQ,N8,ZO,trivial⟩
noncomputable def acK:CE:=⟨[(.tmp 0 true [dI,dI,dI,dO,dI,dI,dI,dI,dI,dI,(.dat (.list (.pair ak (.pair ak (.pair ak (.pair .bool (.pair aX (.list aX)))))))),dI,dI,dI]),(.tmp 1 false [dI]),(.tmp 2 true [dI,dI,dO,fB,dY])],[(.tmp 0 false [fB])],kW⟩
theorem TV:aB Tryz.prog 96 acK :=nK agc dD VP Tryz.func96
def acL:List (Nat×PL):=[(134480385,(.carry [.tmp 3 false [(.own 10000002 188 (.pair ak (.pair ak (.pair ak (.pair .bool (.pair aX (.list aX)))))))]])),(18049651601311750,(.carry [.tmp 8 false [dI],.tmp 3 false [(.own 10000001 188 (.pair ak (.pair ak (.pair ak (.pair .bool (.pair aX (.list aX)))))))]]))]
noncomputable def fM:(List (Int×(Int×(Int×(Bool×(Int×LN))))))->Option (List (Int×(Int×(Int×(Bool×(Int×LN)))))):=fun a1 =>
 au (bn (fun (v2,v3) =>
 bif (decide (v2<(a1.length:Int))) then
 bif (decide ((0<=v2)/\(v2<(a1.length:Int)))) then
 ah a1[v2.toNat]? fun x4 =>
 ah (eP (x4.2.1,(x4.2.2.1,(x4.2.2.2.1,(x4.2.2.2.2.1,x4.2.2.2.2.2))))) fun (x6,(x7,(x8,(x9,x10)))) =>
 bif (decide (v3.length<=v3.length)) then
 bif (decide (((List.length ((v3.take v3.length)++((x4.1,(x6,(x7,(x8,(x9,x10)))))::([]:List (Int×(Int×(Int×(Bool×(Int×LN)))))))))*56)<=140737488355328)) then
 ah (some ((v3.take v3.length)++((x4.1,(x6,(x7,(x8,(x9,x10)))))::([]:List (Int×(Int×(Int×(Bool×(Int×LN))))))))) fun x11 =>
 bif (decide (x11.length<=x11.length)) then
 some (Sum.inl ((IntKind.wrap .i64 (v2+(1:Int))),(x11.take x11.length)))
 else none
 else none
 else none
 else none
 else
 aA (bif (decide (v3.length<=v3.length)) then
 some (Sum.inl (v3.take v3.length))
 else none)) ((0:Int),([]:List (Int×(Int×(Int×(Bool×(Int×LN)))))))) fun v13 =>
 bif (decide (v13.length<=v13.length)) then
 some (v13.take v13.length)
 else none
noncomputable def acM:List (Nat×CE):=[(101,TU),(96,acK)]
theorem QN:cu Tryz.prog acM:=⟨KU,TV,trivial⟩
noncomputable def ad2:CE:=⟨[(.tmp 0 false [(.dat (.list (.pair ak (.pair ak (.pair ak (.pair .bool (.pair aX (.list aX))))))))])],[(.tmp 0 false [(.dat (.list (.pair ak (.pair ak (.pair ak (.pair .bool (.pair aX (.list aX))))))))])],fM⟩
theorem ZP:aB Tryz.prog 119 ad2 :=nK acL dD QN Tryz.func119
def agf:List (Nat×PL):=[(134479891,(.carry [.tmp 0 false [dI]])),(35253096546817,(.carry [])),(134480385,(.carry [.tmp 6 false [dI]])),(4731590523478289418246,(.carry [.tmp 8 false [dI]])),(9241421688590303745,(.carry [.mix 0 [dI,dI,dI,dO,dI,dI,dI,dI,dI,dI,(.dat (.list (.pair ak (.pair ak (.pair ak (.pair .bool (.pair aX (.list aX)))))))),dI,dI,dI]])),(1240362622532514091349837830,(.carry [.tmp 38 false [dI],.mix 0 [dI,dI,dI,dO,dI,dI,dI,dI,dI,dI,(.dat (.list (.pair ak (.pair ak (.pair ak (.pair .bool (.pair aX (.list aX)))))))),dI,dI,dI]]))]
noncomputable def qU:((Int×(Int×(Int×(Bool×(Int×(Int×(Int×(Int×(Int×(Int×((List (Int×(Int×(Int×(Bool×(Int×LN))))))×(Int×(Int×Int)))))))))))))×Int)->Option ((Int×(Int×(Int×(Bool×(Int×(Int×(Int×(Int×(Int×(Int×((List (Int×(Int×(Int×(Bool×(Int×LN))))))×(Int×(Int×Int)))))))))))))×(List (Int×(Int×(Int×(Bool×(Int×LN))))))):=fun ((a1,(a2,(a3,(a4,(a5,(a6,(a7,(a8,(a9,(a10,(a11,(a12,(a13,a14))))))))))))),a15) =>
 au (au (bn (fun v16 =>
 bif (decide (v16<(a11.length:Int))) then
 bif (decide ((0<=v16)/\(v16<(a11.length:Int)))) then
 ah a11[v16.toNat]? fun x17 =>
 bif (decide (x17.1 > a15)) then
 aA (aA (some (Sum.inl v16)))
 else
 some (Sum.inl (IntKind.wrap .i64 (v16+(1:Int))))
 else none
 else
 aA (some (Sum.inl ()))) (0:Int)) fun _ =>
 some (Sum.inl (-1:Int))) fun v19 =>
 au (bif (decide (v19<0)) then
 some (Sum.inl (a11.length:Int))
 else
 some (Sum.inl v19)) fun v20 =>
 bif ((decide ((0<=v20)/\(v20<=(a11.length:Int))))&&(decide ((0<=v20)/\(v20<=((v20.toNat:Nat):Int))))) then
 ah (fM (List.take v20.toNat a11)) fun x22 =>
 bif (decide ((0<=v20)/\(v20<=(a11.length:Int)))) then
 ah (fM (List.drop v20.toNat a11)) fun x24 =>
 au (bn (fun (v26,(v27,(v28,(v29,(v30,(v31,(v32,(v33,(v34,(v35,(v36,(v37,(v38,(v39,v40)))))))))))))) =>
 bif (decide (v26<(x22.length:Int))) then
 bif (decide ((0<=v26)/\(v26<(x22.length:Int)))) then
 ah x22[v26.toNat]? fun x41 =>
 some (Sum.inl ((IntKind.wrap .i64 (v26+(1:Int))),(v27,(v28,(v29,(v30,(v31,(v32,(v33,((bf v34 x41.2.1),(v35,(v36,(v37,(v38,(v39,v40)))))))))))))))
 else none
 else
 aA (some (Sum.inl (v27,(v28,(v29,(v30,(v31,(v32,(v33,(v34,(v35,(v36,(v37,(v38,(v39,v40)))))))))))))))) ((0:Int),(a1,(a2,(a3,(a4,(a5,(a6,(a7,(a8,(a9,(a10,(x24,(a12,(a13,(IntKind.wrap .i64 (a14+v20))))))))))))))))) fun (v43,(v44,(v45,(v46,(v47,(v48,(v49,(v50,(v51,(v52,(v53,(v54,(v55,v56))))))))))))) =>
 some ((v43,(v44,(a15,(v46,(v47,(v48,(v49,(v50,(v51,(v52,(v53,(v54,(v55,v56))))))))))))),x22)
 else none
 else none
noncomputable def agh:List (Nat×CE):=[(119,ad2)]
theorem VQ:cu Tryz.prog agh:=⟨ZP,trivial⟩
noncomputable def ajC:CE:=⟨[(.tmp 0 true [dI,dI,dI,dO,dI,dI,dI,dI,dI,dI,(.dat (.list (.pair ak (.pair ak (.pair ak (.pair .bool (.pair aX (.list aX)))))))),dI,dI,dI]),(.tmp 1 false [dI])],[(.tmp 0 true [dI,dI,dI,dO,dI,dI,dI,dI,dI,dI,(.dat (.list (.pair ak (.pair ak (.pair ak (.pair .bool (.pair aX (.list aX)))))))),dI,dI,dI]),(.tmp 1 false [(.dat (.list (.pair ak (.pair ak (.pair ak (.pair .bool (.pair aX (.list aX))))))))])],qU⟩
theorem ad3:aB Tryz.prog 97 ajC :=nK agf dD VQ Tryz.func97
def agi:List (Nat×PL):=[]
noncomputable def qV:((Int×(Int×(Int×(Bool×(Int×(Int×(Int×(Int×(Int×(Int×((List (Int×(Int×(Int×(Bool×(Int×LN))))))×(Int×(Int×Int)))))))))))))×Int)->Option ((Int×(Int×(Int×(Bool×(Int×(Int×(Int×(Int×(Int×(Int×((List (Int×(Int×(Int×(Bool×(Int×LN))))))×(Int×(Int×Int)))))))))))))×((List (Int×(Int×(Int×(Bool×(Int×LN))))))×Int)):=fun ((a1,(a2,(a3,(a4,(a5,(a6,(a7,(a8,(a9,(a10,(a11,(a12,(a13,a14))))))))))))),a15) =>
 ah (kW ((a1,(a2,(a3,(a4,(a5,(a6,(a7,(a8,(a9,(a10,(a11,(a12,(a13,a14))))))))))))),(a15,((0:Int),((0:Int),(false,((0:Int),([]:List Int)))))))) fun x16 =>
 bif (decide (x16≠0)) then
 some (((0:Int),((0:Int),((0:Int),(false,((0:Int),((0:Int),((0:Int),((0:Int),((0:Int),((0:Int),(([]:List (Int×(Int×(Int×(Bool×(Int×LN)))))),((0:Int),((0:Int),(0:Int)))))))))))))),(([]:List (Int×(Int×(Int×(Bool×(Int×LN)))))),x16))
 else
 ah (qU ((a1,(a2,(a3,(a4,(a5,(a6,(a7,(a8,(a9,(a10,(a11,(a12,(a13,a14))))))))))))),a15)) fun ((x18,(x19,(x20,(x21,(x22,(x23,(x24,(x25,(x26,(x27,(x28,(x29,(x30,x31))))))))))))),x32) =>
 some ((x18,(x19,(x20,(x21,(x22,(x23,(x24,(x25,(x26,(x27,(x28,(x29,(x30,x31))))))))))))),(x32,(0:Int)))
noncomputable def agj:List (Nat×CE):=[(96,acK),(97,ajC)]
theorem VR:cu Tryz.prog agj:=⟨TV,ad3,trivial⟩
noncomputable def agk:CE:=⟨[(.tmp 0 true [dI,dI,dI,dO,dI,dI,dI,dI,dI,dI,(.dat (.list (.pair ak (.pair ak (.pair ak (.pair .bool (.pair aX (.list aX)))))))),dI,dI,dI]),(.tmp 1 false [dI])],[(.tmp 0 true [dI,dI,dI,dO,dI,dI,dI,dI,dI,dI,(.dat (.list (.pair ak (.pair ak (.pair ak (.pair .bool (.pair aX (.list aX)))))))),dI,dI,dI]),(.tmp 1 false [(.dat (.list (.pair ak (.pair ak (.pair ak (.pair .bool (.pair aX (.list aX))))))))]),(.tmp 2 false [fB])],qV⟩
theorem ZQ:aB Tryz.prog 89 agk :=nK agi dD VR Tryz.func89
def acN:List (Nat×PL):=[(134480385,(.carry [.mix 0 [dI,dI,dI,dO,dI,dI,dI,dI,dI,dI,(.dat (.list (.pair ak (.pair ak (.pair ak (.pair .bool (.pair aX (.list aX)))))))),dI,dI,dI]])),(18049651735527425,(.carry [.tmp 49 false [dO]]))]
noncomputable def xP:((Int×(Int×(Int×(Bool×(Int×(Int×(Int×(Int×(Int×(Int×((List (Int×(Int×(Int×(Bool×(Int×LN))))))×(Int×(Int×Int)))))))))))))×(Int×(Int×(Bool×(Int×LN)))))->Option (Int×(Int×(Int×(Bool×(Int×(Int×(Int×(Int×(Int×(Int×((List (Int×(Int×(Int×(Bool×(Int×LN))))))×(Int×(Int×Int))))))))))))):=fun ((a1,(a2,(a3,(a4,(a5,(a6,(a7,(a8,(a9,(a10,(a11,(a12,(a13,a14))))))))))))),(a15,(a16,(a17,(a18,a19))))) =>
 ah (jA a16) fun x20 =>
 ah (some (IntKind.wrap .i64 (a3-x20))) fun x21 =>
 au (bif a4 then
 ah (some (IntKind.wrap .i64 (x21-a10))) fun x22 =>
 bif (decide (x22<0)) then
 some (Sum.inl (a1,(a2,(a3,(a4,(a5,(a6,(a7,(a8,((IntKind.wrap .i64 (a9+(IntKind.wrap .i64 ((IntKind.wrap .i64 ((0:Int)-x22))-(IntKind.wrap .i64 (Int.tdiv (IntKind.wrap .i64 (a9+(8:Int))) (16:Int))))))),(a10,(a11,(a12,(a13,a14))))))))))))))
 else
 some (Sum.inl (a1,(a2,(a3,(a4,(a5,(a6,(a7,(a8,((IntKind.wrap .i64 (a9+(IntKind.wrap .i64 (x22-(IntKind.wrap .i64 (Int.tdiv (IntKind.wrap .i64 (a9+(8:Int))) (16:Int))))))),(a10,(a11,(a12,(a13,a14))))))))))))))
 else
 some (Sum.inl (a1,(a2,(a3,(a4,(a5,(a6,(a7,(a8,(a9,(a10,(a11,(a12,(a13,a14))))))))))))))) fun (v32,(v33,(v34,(v35,(v36,(v37,(v38,(v39,(v40,(v41,(v42,(v43,(v44,v45))))))))))))) =>
 au (bif (!v35) then
 some (Sum.inl true)
 else
 bif a17 then
 some (Sum.inl (decide (a15 > v38)))
 else
 some (Sum.inl false)) fun v46 =>
 bif v46 then
 ah (some (IntKind.wrap .i64 (v34+(eU (IntKind.wrap .i64 (v32+(IntKind.wrap .i64 (Int.tdiv v40 (4:Int))))) v33)))) fun x49 =>
 bif (decide ((v42.length:Int) > 0)) then
 ah (some (IntKind.wrap .i64 ((v42.length:Int)-(1:Int)))) fun x50 =>
 bif (decide ((0<=x50)/\(x50<(v42.length:Int)))) then
 ah v42[x50.toNat]? fun x51 =>
 some (v32,(v33,(v34,(true,((bf x49 (IntKind.wrap .i64 (x51.1+(1:Int)))),(a16,((bf v38 a15),(v39,(v40,(x21,(v42,(v43,(v44,v45)))))))))))))
 else none
 else
 some (v32,(v33,(v34,(true,(x49,(a16,((bf v38 a15),(v39,(v40,(x21,(v42,(v43,(v44,v45)))))))))))))
 else
 some (v32,(v33,(v34,(true,(v36,(v37,((bf v38 a15),(v39,(v40,(x21,(v42,(v43,(v44,v45)))))))))))))
noncomputable def acO:List (Nat×CE):=[(108,TS),(89,agk)]
theorem QO:cu Tryz.prog acO:=⟨KT,ZQ,trivial⟩
noncomputable def ajD:CE:=⟨[(.tmp 0 true [dI,dI,dI,dO,dI,dI,dI,dI,dI,dI,(.dat (.list (.pair ak (.pair ak (.pair ak (.pair .bool (.pair aX (.list aX)))))))),dI,dI,dI]),(.tmp 1 true [dI,dI,dO,fB,dY])],[(.tmp 0 true [dI,dI,dI,dO,dI,dI,dI,dI,dI,dI,(.dat (.list (.pair ak (.pair ak (.pair ak (.pair .bool (.pair aX (.list aX)))))))),dI,dI,dI])],xP⟩
theorem agl:aB Tryz.prog 100 ajD :=nK acN dD QO Tryz.func100
end Go.Proofs.YtigfeinnobfflaaGreat
