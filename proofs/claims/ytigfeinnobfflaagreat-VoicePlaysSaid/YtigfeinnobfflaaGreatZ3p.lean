import Derived.Test.YtigfeinnobfflaaGreatXBp
import Derived.Test.YtigfeinnobfflaaGreatHBp
import Derived.Test.YtigfeinnobfflaaGreatProg
set_option linter.unusedSimpArgs false
set_option linter.unusedVariables false
namespace Go.Proofs.YtigfeinnobfflaaGreat
open Go.RowKit
theorem qL {α:Type} (p:Prop) [Decidable p] (a b:α):(bif decide p then a else b)=if p then a else b:=by by_cases h:p<;>simp [h]
theorem iF {α:Type} {l:List α} {i:Nat} (h1:i<l.length):l[((i:Nat):Int).toNat]? = some l[i]:=by rw [Int.toNat_natCast];exact List.getElem?_eq_getElem h1
theorem least {p:Nat->Prop} (h:∃n,p n):∃n,p n/\∀m,m<n->¬p m:=by
 obtain ⟨n,hn⟩:=h
 induction n using Nat.strongRecOn with
 | _ n ih =>
   by_cases hx:∃m,m<n/\p m
   ·obtain ⟨m,h1,h2⟩:=hx;exact ih m h1 h2
   ·exact ⟨n,hn,fun m hm hp=>hx ⟨m,hm,hp⟩⟩
theorem ajo {α:Type} {l:List α} {i:Nat} (d:α) (h1:i<l.length):l[((i:Nat):Int).toNat]? = some (l.getD i d):=by rw [iF h1,List.getD_eq_getElem?_getD,List.getElem?_eq_getElem h1];rfl
theorem Zm {α:Type} {l:List α} {i:Nat} (d:α) (h1:i<l.length):l[i]? = some (l.getD i d):=by rw [List.getD_eq_getElem?_getD,List.getElem?_eq_getElem h1];rfl
theorem NC {α:Type} {l:List α} {i:Nat} (d:α) (h1:i<l.length):l.getD i d=l[i]:=by rw [List.getD_eq_getElem?_getD,List.getElem?_eq_getElem h1];rfl
def ND {υ1 υ2 α β:Type} (R:υ1->υ2->Prop) (k:α->Option β) (o1:Option (υ1 ⊕ (α ⊕ β))) (o2:Option (υ2 ⊕ β)):Prop :=
 (∃x y,o1=some (.inl x)/\o2=some (.inl y)/\R x y)\/∃r s,o1=some (.inr r)/\o2=some (.inr s)/\au (some r) k=some s
section
variable {υ1 υ2 α β γ:Type} {R:υ1->υ2->Prop} {k:α->Option β} {o2:Option (υ2 ⊕ β)}
theorem ND.stop {r:α ⊕ β} {s:β} (h:au (some r) k=some s):ND R k (some (.inr r)) (some (.inr s)) := .inr ⟨r,s,rfl,rfl,h⟩
theorem ND.join {x:Option (γ ⊕ (υ1 ⊕ (α ⊕ β)))} {f:γ->Option (υ1 ⊕ (α ⊕ β))} (a:γ) (h:x=some (.inl a)) (hk:ND R k (f a) o2):ND R k (au x f) o2:=by rw [h];exact hk
theorem ND.bind {x:Option γ} {f:γ->Option (υ1 ⊕ (α ⊕ β))} (a:γ) (h:x=some a) (hk:ND R k (f a) o2):ND R k (ah x f) o2:=by rw [h];exact hk
end
theorem Qr {υ β:Type} {body:υ->Option (υ ⊕ β)} (I:υ->Prop) (Q:β->Prop) (μ:υ->Nat) (h:∀x,I x->(∃b,body x=some (.inr b)/\Q b)\/∃y,body x=some (.inl y)/\I y/\μ y<μ x) {x:υ} (hx:I x):∃r,bf body x=some r/\Q r:=by
 suffices hs:∀n x,μ x<=n->I x->∃r,bf body x=some r/\Q r from hs _ x (Nat.le_refl _) hx
 intro n
 induction n with
 | zero =>
   intro x hm hx;rcases h x hx with ⟨b,h1,h2⟩ | ⟨y,h1,h2,h3⟩
   ·exact ⟨b,by rw [Gl,h1],h2⟩
   ·omega
 | succ n ih =>
   intro x hm hx;rcases h x hx with ⟨b,h1,h2⟩ | ⟨y,h1,h2,h3⟩
   ·exact ⟨b,by rw [Gl,h1],h2⟩
   ·obtain ⟨r,hr,hq⟩:=ih y (by omega) h2;exact ⟨r,by rw [Gl,h1];exact hr,hq⟩
def D8 {υ β:Type} (I:υ->Prop) (Q:β->Prop) (μ:υ->Nat) (m:Nat) (o:Option (υ ⊕ β)):Prop:=(∃b,o=some (.inr b)/\Q b)\/∃y,o=some (.inl y)/\I y/\μ y<m
section
variable {υ β γ:Type} {I:υ->Prop} {Q:β->Prop} {μ:υ->Nat} {m:Nat}
theorem D8.stop {b:β} (h:Q b):D8 I Q μ m (some (.inr b)) := .inl ⟨b,rfl,h⟩
theorem D8.join {x:Option (γ ⊕ (υ ⊕ β))} {f:γ->Option (υ ⊕ β)} (a:γ) (h:x=some (.inl a)) (hk:D8 I Q μ m (f a)):D8 I Q μ m (au x f):=by rw [h];exact hk
theorem D8.bind {x:Option γ} {f:γ->Option (υ ⊕ β)} (a:γ) (h:x=some a) (hk:D8 I Q μ m (f a)):D8 I Q μ m (ah x f):=by rw [h];exact hk
end
theorem NG {α:Type} {f l:List α} (h:l.length=f.length):Gi f 0 l=l:=by
 unfold Gi;rw [List.take_zero,List.nil_append,Nat.zero_add,h,List.drop_length,List.append_nil]
theorem aj {n:Int} (h : -9223372036854775808<=n/\n<=9223372036854775807):IntKind.wrap .i64 n=n:=wrap_i64 h.1 h.2
theorem D9 (n:Int):IntKind.wrap .u8 n=n % 256:=by
 show (if (false&&decide (n % 256>=128))=true then n % 256-256 else n % 256)=_;simp
theorem Zn (n:Int):IntKind.wrap .u16 n=n % 65536:=by
 show (if (false&&decide (n % 65536>=32768))=true then n % 65536-65536 else n % 65536)=_;simp
theorem GR (n:Int):IntKind.wrap .u32 n=n % 4294967296:=by
 show (if (false&&decide (n % 4294967296>=2147483648))=true then n % 4294967296-4294967296 else n % 4294967296)=_;simp
theorem GU (n:Int):IntKind.wrap .u64 n=n % 18446744073709551616:=by
 show (if (false&&decide (n % 18446744073709551616>=9223372036854775808))=true then n % 18446744073709551616-18446744073709551616 else n % 18446744073709551616)=_;simp
theorem ak9 {n:Int} (h:Xr (.int .u8) n):0<=n/\n<=255:=wf_u8 h
def Bytes (l:List Int):Prop:=∀x∈l,0<=x/\x<=255
theorem Bytes.app {a b:List Int} (h:Bytes a) (k:Bytes b):Bytes (a++b):=fun x hx=>by
 rcases List.mem_append.1 hx with e | e
 ·exact h x e
 ·exact k x e
theorem Bytes.take {l:List Int} (h:Bytes l) (n:Nat):Bytes (l.take n):=fun x hx=>h x (List.mem_of_mem_take hx)
theorem Bytes.drop {l:List Int} (h:Bytes l) (n:Nat):Bytes (l.drop n):=fun x hx=>h x (List.mem_of_mem_drop hx)
theorem Bytes.get {l:List Int} (h:Bytes l) {i:Nat} (hi:i<l.length):0<=l[i]/\l[i]<=255:=h _ (List.getElem_mem hi)
theorem Bytes.getD {l:List Int} (h:Bytes l) (i:Nat):0<=l.getD i 0/\l.getD i 0<=255:=by
 rw [List.getD_eq_getElem?_getD];cases hi:l[i]? with
 | none=>simp
 | some x=>exact h x (List.mem_of_getElem? hi)
def So {α:Type} (o:Option α) (P:α->Prop):Prop:=∃a,o=some a/\P a
def Sm {α β:Type} (P:α->Prop) (Q:β->Prop):α ⊕ β->Prop
 | .inl a=>P a
 | .inr b=>Q b
section
variable {α β γ:Type} {P:α->Prop} {Q:β->Prop}
theorem So.mk {a:α} (h:P a):So (some a) P:=⟨a,rfl,h⟩
theorem So.imp {o:Option α} {P':α->Prop} (h:So o P) (k:∀a,P a->P' a):So o P':=by
 obtain ⟨a,e,p⟩:=h;exact ⟨a,e,k a p⟩
theorem So.bind {o:Option α} {f:α->Option β} (h:So o P) (k:∀a,P a->So (f a) Q):So (ah o f) Q:=by
 obtain ⟨a,e,p⟩:=h;rw [e];exact k a p
theorem So.is {o:Option α} {f:α->Option β} {a:α} (h:o=some a) (k:So (f a) Q):So (ah o f) Q:=by
 rw [h];exact k
theorem So.get {l:List α} {i:Nat} {f:α->Option β} (h:i<l.length) (k:∀x,x∈l->l[i]? = some x->So (f x) Q):So (ah l[i]? f) Q:=by
 rw [List.getElem?_eq_getElem h];exact k _ (List.getElem_mem h) (List.getElem?_eq_getElem h)
theorem So.join {o:Option (α ⊕ β)} {f:α->Option β} (h:So o (Sm P Q)) (k:∀a,P a->So (f a) Q):So (au o f) Q:=by
 obtain ⟨a,e,p⟩:=h;cases a with
 | inl a=>rw [e];exact k a p
 | inr b=>rw [e];exact ⟨b,rfl,p⟩
theorem So.inl {a:α} (h:P a):So (some (.inl a)) (Sm P Q):=⟨_,rfl,h⟩
theorem So.inr {b:β} (h:Q b):So (some (.inr b)) (Sm P Q):=⟨_,rfl,h⟩
theorem So.out {o:Option β} (h:So o Q):So (aB o) (Sm P Q):=by
 obtain ⟨b,e,p⟩:=h;rw [e];exact ⟨_,rfl,p⟩
theorem So.if {c:Bool} {a b:Option α} (h:c=true->So a P) (k:c=false->So b P):So (bif c then a else b) P:=by
 cases c with
 | true=>exact h rfl
 | false=>exact k rfl
theorem So.dec {p:Prop} [Decidable p] {a b:Option α} (h:p->So a P) (k:¬p->So b P):So (bif decide p then a else b) P:=by
 by_cases e:p
 ·rw [decide_eq_true e];exact h e
 ·rw [decide_eq_false e];exact k e
theorem So.pos {p:Prop} [Decidable p] {a b:Option α} (e:p) (h:So a P):So (bif decide p then a else b) P:=by
 rw [decide_eq_true e];exact h
theorem So.neg {p:Prop} [Decidable p] {a b:Option α} (e:¬p) (h:So b P):So (bif decide p then a else b) P:=by
 rw [decide_eq_false e];exact h
theorem So.loop {body:α->Option (α ⊕ β)} (I:α->Prop) (μ:α->Nat) (h:∀x,I x->So (body x) (Sm (fun y=>I y/\μ y<μ x) Q)) {x:α} (hx:I x):So (bf body x) Q:=by
 refine Qr I Q μ (fun x hx => ?_) hx;obtain ⟨a,e,p⟩:=h x hx;cases a with
 | inl a=>exact .inr ⟨a,e,p⟩
 | inr b=>exact .inl ⟨b,e,p⟩
theorem So.eq {o:Option α} {a:α} (h:So o (· = a)):o=some a:=by
 obtain ⟨_,e,rfl⟩:=h;exact e
theorem So.and {o:Option α} {P':α->Prop} (h:So o P) (k:So o P'):So o (fun a=>P a/\P' a):=by
 obtain ⟨a,e,p⟩:=h;obtain ⟨b,e',q⟩:=k;rw [e] at e';cases e';exact ⟨a,e,p,q⟩
end
theorem So.both {α:Type} {p q:Prop} [Decidable p] [Decidable q] {a b:Option α} {P:α->Prop} (h1:p) (h2:q) (h:So a P):So (bif (decide p&&decide q) then a else b) P:=by
 rw [decide_eq_true h1,decide_eq_true h2];exact h
theorem So.le {α:Type} {n:Nat} {a b:Option α} {P:α->Prop} (h:So a P):So (bif decide (n<=n) then a else b) P:=So.pos (Nat.le_refl _) h
theorem uY (n:Int) : -32768<=IntKind.wrap .i16 n/\IntKind.wrap .i16 n<=32767:=by
 show -32768<=(if (true&&decide (n % 65536>=32768))=true then n % 65536-65536 else n % 65536)/\(if (true&&decide (n % 65536>=32768))=true then n % 65536-65536 else n % 65536)<=32767;split
 ·rename_i h;simp only [Bool.true_and,decide_eq_true_eq] at h;omega
 ·rename_i h;simp only [Bool.true_and,decide_eq_true_eq] at h;omega
theorem qM (n:Int):0<=IntKind.wrap .u8 n/\IntKind.wrap .u8 n<=255:=by rw [D9];omega
def KD:List (List (Option TI)):=[
 [none,
 some ⟨1,8,.fn,[.val .nilFunc]⟩,
 some ⟨1,8,.int .i64,[.val (.int .i64 0)]⟩,
 some ⟨1,8,.int .i64,[.val (.int .i64 0)]⟩,
 some ⟨1,1,.bool,[.val (.bool false)]⟩,
 some ⟨1,1,.int .u8,[.val (.int .u8 0)]⟩,
 some ⟨1,1,.int .u8,[.val (.int .u8 0)]⟩,
 some ⟨4,24,.agg [(0,2),(1,3),(2,4),(3,6)],[.val (.int .i64 0),.val (.int .i64 0),.val (.bool false),.val (.int .u8 0)]⟩,
 some ⟨4,24,.agg [(0,2),(1,3),(2,4),(3,6)],[.val (.int .i64 0),.val (.int .i64 0),.val (.bool false),.val (.int .u8 0)]⟩,
 some ⟨1,16,.str,[.val (.string ⟨⟨[]⟩⟩)]⟩,
 some ⟨1,16,.str,[.val (.string ⟨⟨[]⟩⟩)]⟩,
 some ⟨1,16,.str,[.val (.string ⟨⟨[]⟩⟩)]⟩,
 some ⟨1,8,.int .u64,[.val (.int .u64 0)]⟩,
 some ⟨2,24,.agg [(0,9),(1,12)],[.val (.string ⟨⟨[]⟩⟩),.val (.int .u64 0)]⟩,
 some ⟨2,24,.agg [(0,9),(1,12)],[.val (.string ⟨⟨[]⟩⟩),.val (.int .u64 0)]⟩,
 some ⟨1,8,.ptr 249,[.val (.pointer none)]⟩],
 [some ⟨1,8,.ptr 252,[.val (.pointer none)]⟩,
 some ⟨1,8,.ptr 260,[.val (.pointer none)]⟩,
 some ⟨1,8,.agg [(0,17)],[.val (.pointer none)]⟩,
 some ⟨1,8,.agg [(0,17)],[.val (.pointer none)]⟩,
 some ⟨1,16,.iface,[.val .nilIface]⟩,
 some ⟨1,4,.int .i32,[.val (.int .i32 0)]⟩,
 some ⟨2,16,.agg [(0,3),(1,3)],[.val (.int .i64 0),.val (.int .i64 0)]⟩,
 some ⟨2,16,.agg [(0,3),(1,3)],[.val (.int .i64 0),.val (.int .i64 0)]⟩,
 some ⟨1,24,.slice 67,[.val (.slice none 0 0)]⟩,
 some ⟨5,48,.agg [(0,5),(1,5),(2,23),(4,24)],[.val (.int .u8 0),.val (.int .u8 0),.val (.int .i64 0),.val (.int .i64 0),.val (.slice none 0 0)]⟩,
 some ⟨5,48,.agg [(0,5),(1,5),(2,23),(4,24)],[.val (.int .u8 0),.val (.int .u8 0),.val (.int .i64 0),.val (.int .i64 0),.val (.slice none 0 0)]⟩,
 some ⟨1,24,.slice 32,[.val (.slice none 0 0)]⟩,
 some ⟨1,8,.ptr 56,[.val (.pointer none)]⟩,
 none,
 some ⟨1,8,.fn,[.val .nilFunc]⟩,
 some ⟨1,4,.int .u32,[.val (.int .u32 0)]⟩],
 [some ⟨1,2,.int .u16,[.val (.int .u16 0)]⟩,
 some ⟨1,8,.agg [(0,3)],[.val (.int .i64 0)]⟩,
 some ⟨1,8,.agg [(0,3)],[.val (.int .i64 0)]⟩,
 some ⟨2,16,.agg [(0,3),(1,3)],[.val (.int .i64 0),.val (.int .i64 0)]⟩,
 some ⟨2,16,.agg [(0,3),(1,3)],[.val (.int .i64 0),.val (.int .i64 0)]⟩,
 some ⟨6,24,.agg [(0,4),(1,5),(2,5),(3,31),(4,3),(5,3)],[.val (.bool false),.val (.int .u8 0),.val (.int .u8 0),.val (.int .u32 0),.val (.int .i64 0),.val (.int .i64 0)]⟩,
 some ⟨6,24,.agg [(0,4),(1,5),(2,5),(3,31),(4,3),(5,3)],[.val (.bool false),.val (.int .u8 0),.val (.int .u8 0),.val (.int .u32 0),.val (.int .i64 0),.val (.int .i64 0)]⟩,
 some ⟨1,24,.slice 188,[.val (.slice none 0 0)]⟩,
 some ⟨14,128,.agg [(0,23),(2,3),(3,4),(4,3),(5,2),(6,2),(7,2),(8,3),(9,3),(10,39),(11,3),(12,3),(13,3)],[.val (.int .i64 0),.val (.int .i64 0),.val (.int .i64 0),.val (.bool false),.val (.int .i64 0),.val (.int .i64 0),.val (.int .i64 0),.val (.int .i64 0),.val (.int .i64 0),.val (.int .i64 0),.val (.slice none 0 0),.val (.int .i64 0),.val (.int .i64 0),.val (.int .i64 0)]⟩,
 some ⟨14,128,.agg [(0,23),(2,3),(3,4),(4,3),(5,2),(6,2),(7,2),(8,3),(9,3),(10,39),(11,3),(12,3),(13,3)],[.val (.int .i64 0),.val (.int .i64 0),.val (.int .i64 0),.val (.bool false),.val (.int .i64 0),.val (.int .i64 0),.val (.int .i64 0),.val (.int .i64 0),.val (.int .i64 0),.val (.int .i64 0),.val (.slice none 0 0),.val (.int .i64 0),.val (.int .i64 0),.val (.int .i64 0)]⟩,
 some ⟨3,24,.agg [(0,4),(1,2),(2,3)],[.val (.bool false),.val (.int .i64 0),.val (.int .i64 0)]⟩,
 some ⟨3,24,.agg [(0,4),(1,2),(2,3)],[.val (.bool false),.val (.int .i64 0),.val (.int .i64 0)]⟩,
 some ⟨8,64,.agg [(0,4),(1,2),(2,2),(3,2),(4,2),(5,2),(6,2),(7,2)],[.val (.bool false),.val (.int .i64 0),.val (.int .i64 0),.val (.int .i64 0),.val (.int .i64 0),.val (.int .i64 0),.val (.int .i64 0),.val (.int .i64 0)]⟩,
 some ⟨8,64,.agg [(0,4),(1,2),(2,2),(3,2),(4,2),(5,2),(6,2),(7,2)],[.val (.bool false),.val (.int .i64 0),.val (.int .i64 0),.val (.int .i64 0),.val (.int .i64 0),.val (.int .i64 0),.val (.int .i64 0),.val (.int .i64 0)]⟩,
 some ⟨5,32,.agg [(0,4),(1,31),(2,5),(3,3),(4,4)],[.val (.bool false),.val (.int .u32 0),.val (.int .u8 0),.val (.int .i64 0),.val (.bool false)]⟩,
 some ⟨5,32,.agg [(0,4),(1,31),(2,5),(3,3),(4,4)],[.val (.bool false),.val (.int .u32 0),.val (.int .u8 0),.val (.int .i64 0),.val (.bool false)]⟩],
 [some ⟨48,344,.agg [(0,5),(1,31),(2,32),(3,31),(4,4),(5,34),(6,36),(8,38),(14,41),(28,43),(31,2),(32,45),(40,47),(45,31),(46,31),(47,31)],[.val (.int .u8 0),.val (.int .u32 0),.val (.int .u16 0),.val (.int .u32 0),.val (.bool false),.val (.int .i64 0),.val (.int .i64 0),.val (.int .i64 0),.val (.bool false),.val (.int .u8 0),.val (.int .u8 0),.val (.int .u32 0),.val (.int .i64 0),.val (.int .i64 0),.val (.int .i64 0),.val (.int .i64 0),.val (.int .i64 0),.val (.bool false),.val (.int .i64 0),.val (.int .i64 0),.val (.int .i64 0),.val (.int .i64 0),.val (.int .i64 0),.val (.int .i64 0),.val (.slice none 0 0),.val (.int .i64 0),.val (.int .i64 0),.val (.int .i64 0),.val (.bool false),.val (.int .i64 0),.val (.int .i64 0),.val (.int .i64 0),.val (.bool false),.val (.int .i64 0),.val (.int .i64 0),.val (.int .i64 0),.val (.int .i64 0),.val (.int .i64 0),.val (.int .i64 0),.val (.int .i64 0),.val (.bool false),.val (.int .u32 0),.val (.int .u8 0),.val (.int .i64 0),.val (.bool false),.val (.int .u32 0),.val (.int .u32 0),.val (.int .u32 0)]⟩,
 some ⟨48,344,.agg [(0,5),(1,31),(2,32),(3,31),(4,4),(5,34),(6,36),(8,38),(14,41),(28,43),(31,2),(32,45),(40,47),(45,31),(46,31),(47,31)],[.val (.int .u8 0),.val (.int .u32 0),.val (.int .u16 0),.val (.int .u32 0),.val (.bool false),.val (.int .i64 0),.val (.int .i64 0),.val (.int .i64 0),.val (.bool false),.val (.int .u8 0),.val (.int .u8 0),.val (.int .u32 0),.val (.int .i64 0),.val (.int .i64 0),.val (.int .i64 0),.val (.int .i64 0),.val (.int .i64 0),.val (.bool false),.val (.int .i64 0),.val (.int .i64 0),.val (.int .i64 0),.val (.int .i64 0),.val (.int .i64 0),.val (.int .i64 0),.val (.slice none 0 0),.val (.int .i64 0),.val (.int .i64 0),.val (.int .i64 0),.val (.bool false),.val (.int .i64 0),.val (.int .i64 0),.val (.int .i64 0),.val (.bool false),.val (.int .i64 0),.val (.int .i64 0),.val (.int .i64 0),.val (.int .i64 0),.val (.int .i64 0),.val (.int .i64 0),.val (.int .i64 0),.val (.bool false),.val (.int .u32 0),.val (.int .u8 0),.val (.int .i64 0),.val (.bool false),.val (.int .u32 0),.val (.int .u32 0),.val (.int .u32 0)]⟩,
 some ⟨1,8,.ptr 110,[.val (.pointer none)]⟩,
 some ⟨1,24,.slice 62,[.val (.slice none 0 0)]⟩,
 some ⟨1,24,.slice 65,[.val (.slice none 0 0)]⟩,
 some ⟨1,24,.slice 234,[.val (.slice none 0 0)]⟩,
 some ⟨1,24,.slice 31,[.val (.slice none 0 0)]⟩,
 some ⟨111,872,.agg [(0,49),(48,49),(96,50),(97,3),(98,3),(99,51),(100,52),(101,53),(102,54),(103,3),(104,3),(105,3),(106,36),(108,36),(110,4)],[.val (.int .u8 0),.val (.int .u32 0),.val (.int .u16 0),.val (.int .u32 0),.val (.bool false),.val (.int .i64 0),.val (.int .i64 0),.val (.int .i64 0),.val (.bool false),.val (.int .u8 0),.val (.int .u8 0),.val (.int .u32 0),.val (.int .i64 0),.val (.int .i64 0),.val (.int .i64 0),.val (.int .i64 0),.val (.int .i64 0),.val (.bool false),.val (.int .i64 0),.val (.int .i64 0),.val (.int .i64 0),.val (.int .i64 0),.val (.int .i64 0),.val (.int .i64 0),.val (.slice none 0 0),.val (.int .i64 0),.val (.int .i64 0),.val (.int .i64 0),.val (.bool false),.val (.int .i64 0),.val (.int .i64 0),.val (.int .i64 0),.val (.bool false),.val (.int .i64 0),.val (.int .i64 0),.val (.int .i64 0),.val (.int .i64 0),.val (.int .i64 0),.val (.int .i64 0),.val (.int .i64 0),.val (.bool false),.val (.int .u32 0),.val (.int .u8 0),.val (.int .i64 0),.val (.bool false),.val (.int .u32 0),.val (.int .u32 0),.val (.int .u32 0),.val (.int .u8 0),.val (.int .u32 0),.val (.int .u16 0),.val (.int .u32 0),.val (.bool false),.val (.int .i64 0),.val (.int .i64 0),.val (.int .i64 0),.val (.bool false),.val (.int .u8 0),.val (.int .u8 0),.val (.int .u32 0),.val (.int .i64 0),.val (.int .i64 0),.val (.int .i64 0),.val (.int .i64 0),.val (.int .i64 0),.val (.bool false),.val (.int .i64 0),.val (.int .i64 0),.val (.int .i64 0),.val (.int .i64 0),.val (.int .i64 0),.val (.int .i64 0),.val (.slice none 0 0),.val (.int .i64 0),.val (.int .i64 0),.val (.int .i64 0),.val (.bool false),.val (.int .i64 0),.val (.int .i64 0),.val (.int .i64 0),.val (.bool false),.val (.int .i64 0),.val (.int .i64 0),.val (.int .i64 0),.val (.int .i64 0),.val (.int .i64 0),.val (.int .i64 0),.val (.int .i64 0),.val (.bool false),.val (.int .u32 0),.val (.int .u8 0),.val (.int .i64 0),.val (.bool false),.val (.int .u32 0),.val (.int .u32 0),.val (.int .u32 0),.val (.pointer none),.val (.int .i64 0),.val (.int .i64 0),.val (.slice none 0 0),.val (.slice none 0 0),.val (.slice none 0 0),.val (.slice none 0 0),.val (.int .i64 0),.val (.int .i64 0),.val (.int .i64 0),.val (.int .i64 0),.val (.int .i64 0),.val (.int .i64 0),.val (.int .i64 0),.val (.bool false)]⟩,
 some ⟨111,872,.agg [(0,49),(48,49),(96,50),(97,3),(98,3),(99,51),(100,52),(101,53),(102,54),(103,3),(104,3),(105,3),(106,36),(108,36),(110,4)],[.val (.int .u8 0),.val (.int .u32 0),.val (.int .u16 0),.val (.int .u32 0),.val (.bool false),.val (.int .i64 0),.val (.int .i64 0),.val (.int .i64 0),.val (.bool false),.val (.int .u8 0),.val (.int .u8 0),.val (.int .u32 0),.val (.int .i64 0),.val (.int .i64 0),.val (.int .i64 0),.val (.int .i64 0),.val (.int .i64 0),.val (.bool false),.val (.int .i64 0),.val (.int .i64 0),.val (.int .i64 0),.val (.int .i64 0),.val (.int .i64 0),.val (.int .i64 0),.val (.slice none 0 0),.val (.int .i64 0),.val (.int .i64 0),.val (.int .i64 0),.val (.bool false),.val (.int .i64 0),.val (.int .i64 0),.val (.int .i64 0),.val (.bool false),.val (.int .i64 0),.val (.int .i64 0),.val (.int .i64 0),.val (.int .i64 0),.val (.int .i64 0),.val (.int .i64 0),.val (.int .i64 0),.val (.bool false),.val (.int .u32 0),.val (.int .u8 0),.val (.int .i64 0),.val (.bool false),.val (.int .u32 0),.val (.int .u32 0),.val (.int .u32 0),.val (.int .u8 0),.val (.int .u32 0),.val (.int .u16 0),.val (.int .u32 0),.val (.bool false),.val (.int .i64 0),.val (.int .i64 0),.val (.int .i64 0),.val (.bool false),.val (.int .u8 0),.val (.int .u8 0),.val (.int .u32 0),.val (.int .i64 0),.val (.int .i64 0),.val (.int .i64 0),.val (.int .i64 0),.val (.int .i64 0),.val (.bool false),.val (.int .i64 0),.val (.int .i64 0),.val (.int .i64 0),.val (.int .i64 0),.val (.int .i64 0),.val (.int .i64 0),.val (.slice none 0 0),.val (.int .i64 0),.val (.int .i64 0),.val (.int .i64 0),.val (.bool false),.val (.int .i64 0),.val (.int .i64 0),.val (.int .i64 0),.val (.bool false),.val (.int .i64 0),.val (.int .i64 0),.val (.int .i64 0),.val (.int .i64 0),.val (.int .i64 0),.val (.int .i64 0),.val (.int .i64 0),.val (.bool false),.val (.int .u32 0),.val (.int .u8 0),.val (.int .i64 0),.val (.bool false),.val (.int .u32 0),.val (.int .u32 0),.val (.int .u32 0),.val (.pointer none),.val (.int .i64 0),.val (.int .i64 0),.val (.slice none 0 0),.val (.slice none 0 0),.val (.slice none 0 0),.val (.slice none 0 0),.val (.int .i64 0),.val (.int .i64 0),.val (.int .i64 0),.val (.int .i64 0),.val (.int .i64 0),.val (.int .i64 0),.val (.int .i64 0),.val (.bool false)]⟩,
 some ⟨1,8,.fn,[.val .nilFunc]⟩,
 some ⟨1,8,.fn,[.val .nilFunc]⟩,
 some ⟨1,8,.fn,[.val .nilFunc]⟩,
 some ⟨1,8,.fn,[.val .nilFunc]⟩,
 some ⟨1,8,.fn,[.val .nilFunc]⟩,
 some ⟨1,24,.slice 98,[.val (.slice none 0 0)]⟩,
 some ⟨1,8,.fn,[.val .nilFunc]⟩],
 [some ⟨2,16,.agg [(0,3),(1,3)],[.val (.int .i64 0),.val (.int .i64 0)]⟩,
 some ⟨2,16,.agg [(0,3),(1,3)],[.val (.int .i64 0),.val (.int .i64 0)]⟩,
 some ⟨4,32,.agg [(0,4),(1,3),(2,4),(3,3)],[.val (.bool false),.val (.int .i64 0),.val (.bool false),.val (.int .i64 0)]⟩,
 some ⟨4,32,.agg [(0,4),(1,3),(2,4),(3,3)],[.val (.bool false),.val (.int .i64 0),.val (.bool false),.val (.int .i64 0)]⟩,
 some ⟨1,8,.int .u64,[.val (.int .u64 0)]⟩,
 some ⟨1,1,.int .u8,[.val (.int .u8 0)]⟩,
 none,
 some ⟨1,8,.fn,[.val .nilFunc]⟩,
 some ⟨1,8,.fn,[.val .nilFunc]⟩,
 none,
 some ⟨1,8,.fn,[.val .nilFunc]⟩,
 none,
 some ⟨1,8,.fn,[.val .nilFunc]⟩,
 some ⟨1,24,.slice 83,[.val (.slice none 0 0)]⟩,
 none,
 some ⟨1,8,.fn,[.val .nilFunc]⟩],
 [some ⟨1,8,.fn,[.val .nilFunc]⟩,
 some ⟨1,24,.slice 5,[.val (.slice none 0 0)]⟩,
 some ⟨5,72,.agg [(0,3),(1,9),(2,9),(3,3),(4,81)],[.val (.int .i64 0),.val (.string ⟨⟨[]⟩⟩),.val (.string ⟨⟨[]⟩⟩),.val (.int .i64 0),.val (.slice none 0 0)]⟩,
 some ⟨5,72,.agg [(0,3),(1,9),(2,9),(3,3),(4,81)],[.val (.int .i64 0),.val (.string ⟨⟨[]⟩⟩),.val (.string ⟨⟨[]⟩⟩),.val (.int .i64 0),.val (.slice none 0 0)]⟩,
 some ⟨1,24,.slice 88,[.val (.slice none 0 0)]⟩,
 none,
 some ⟨1,8,.fn,[.val .nilFunc]⟩,
 some ⟨11,104,.agg [(0,4),(1,5),(2,32),(3,31),(4,31),(5,54),(6,4),(7,32),(8,81),(9,81),(10,3)],[.val (.bool false),.val (.int .u8 0),.val (.int .u16 0),.val (.int .u32 0),.val (.int .u32 0),.val (.slice none 0 0),.val (.bool false),.val (.int .u16 0),.val (.slice none 0 0),.val (.slice none 0 0),.val (.int .i64 0)]⟩,
 some ⟨11,104,.agg [(0,4),(1,5),(2,32),(3,31),(4,31),(5,54),(6,4),(7,32),(8,81),(9,81),(10,3)],[.val (.bool false),.val (.int .u8 0),.val (.int .u16 0),.val (.int .u32 0),.val (.int .u32 0),.val (.slice none 0 0),.val (.bool false),.val (.int .u16 0),.val (.slice none 0 0),.val (.slice none 0 0),.val (.int .i64 0)]⟩,
 none,
 some ⟨1,8,.fn,[.val .nilFunc]⟩,
 none,
 some ⟨1,8,.fn,[.val .nilFunc]⟩,
 some ⟨1,8,.fn,[.val .nilFunc]⟩,
 none,
 some ⟨1,8,.fn,[.val .nilFunc]⟩],
 [none,
 some ⟨1,8,.fn,[.val .nilFunc]⟩,
 some ⟨1,2,.int .i16,[.val (.int .i16 0)]⟩,
 some ⟨1,24,.slice 160,[.val (.slice none 0 0)]⟩,
 none,
 some ⟨1,8,.fn,[.val .nilFunc]⟩,
 some ⟨1,8,.fn,[.val .nilFunc]⟩,
 some ⟨1,8,.fn,[.val .nilFunc]⟩,
 none,
 some ⟨1,8,.fn,[.val .nilFunc]⟩,
 some ⟨3,3,.arr 3 5,[.val (.int .u8 0),.val (.int .u8 0),.val (.int .u8 0)]⟩,
 some ⟨1,8,.fn,[.val .nilFunc]⟩,
 some ⟨1,24,.slice 112,[.val (.slice none 0 0)]⟩,
 some ⟨6,80,.agg [(0,4),(1,24),(2,108),(3,3),(4,3),(5,3)],[.val (.bool false),.val (.slice none 0 0),.val (.slice none 0 0),.val (.int .i64 0),.val (.int .i64 0),.val (.int .i64 0)]⟩,
 some ⟨6,80,.agg [(0,4),(1,24),(2,108),(3,3),(4,3),(5,3)],[.val (.bool false),.val (.slice none 0 0),.val (.slice none 0 0),.val (.int .i64 0),.val (.int .i64 0),.val (.int .i64 0)]⟩,
 some ⟨10,112,.agg [(0,67),(4,3),(5,9),(6,9),(7,3),(8,4),(9,81)],[.val (.bool false),.val (.int .i64 0),.val (.bool false),.val (.int .i64 0),.val (.int .i64 0),.val (.string ⟨⟨[]⟩⟩),.val (.string ⟨⟨[]⟩⟩),.val (.int .i64 0),.val (.bool false),.val (.slice none 0 0)]⟩],
 [some ⟨10,112,.agg [(0,67),(4,3),(5,9),(6,9),(7,3),(8,4),(9,81)],[.val (.bool false),.val (.int .i64 0),.val (.bool false),.val (.int .i64 0),.val (.int .i64 0),.val (.string ⟨⟨[]⟩⟩),.val (.string ⟨⟨[]⟩⟩),.val (.int .i64 0),.val (.bool false),.val (.slice none 0 0)]⟩,
 some ⟨1,8,.fn,[.val .nilFunc]⟩,
 none,
 some ⟨1,8,.fn,[.val .nilFunc]⟩,
 some ⟨1,8,.fn,[.val .nilFunc]⟩,
 some ⟨1,8,.fn,[.val .nilFunc]⟩,
 some ⟨1,8,.fn,[.val .nilFunc]⟩,
 some ⟨1,8,.fn,[.val .nilFunc]⟩,
 some ⟨1,8,.fn,[.val .nilFunc]⟩,
 some ⟨1,8,.fn,[.val .nilFunc]⟩,
 none,
 some ⟨1,8,.fn,[.val .nilFunc]⟩,
 some ⟨1,1,.int .u8,[.val (.int .u8 0)]⟩,
 none,
 some ⟨1,8,.fn,[.val .nilFunc]⟩,
 some ⟨1,8,.fn,[.val .nilFunc]⟩],
 [some ⟨1,8,.fn,[.val .nilFunc]⟩,
 some ⟨1,8,.fn,[.val .nilFunc]⟩,
 some ⟨1,8,.fn,[.val .nilFunc]⟩,
 some ⟨1,8,.fn,[.val .nilFunc]⟩,
 some ⟨1,8,.fn,[.val .nilFunc]⟩,
 none,
 some ⟨1,8,.fn,[.val .nilFunc]⟩,
 some ⟨4,6,.agg [(0,5),(1,4),(2,5),(3,32)],[.val (.int .u8 0),.val (.bool false),.val (.int .u8 0),.val (.int .u16 0)]⟩,
 some ⟨4,6,.agg [(0,5),(1,4),(2,5),(3,32)],[.val (.int .u8 0),.val (.bool false),.val (.int .u8 0),.val (.int .u16 0)]⟩,
 some ⟨6,12,.agg [(0,31),(1,4),(2,136)],[.val (.int .u32 0),.val (.bool false),.val (.int .u8 0),.val (.bool false),.val (.int .u8 0),.val (.int .u16 0)]⟩,
 some ⟨6,12,.agg [(0,31),(1,4),(2,136)],[.val (.int .u32 0),.val (.bool false),.val (.int .u8 0),.val (.bool false),.val (.int .u8 0),.val (.int .u16 0)]⟩,
 none,
 some ⟨1,8,.fn,[.val .nilFunc]⟩,
 some ⟨1,8,.fn,[.val .nilFunc]⟩,
 some ⟨1,8,.fn,[.val .nilFunc]⟩,
 some ⟨1,8,.fn,[.val .nilFunc]⟩],
 [some ⟨1,8,.fn,[.val .nilFunc]⟩,
 some ⟨2,16,.agg [(0,143),(1,144)],[.val .nilFunc,.val .nilFunc]⟩,
 some ⟨2,16,.agg [(0,143),(1,144)],[.val .nilFunc,.val .nilFunc]⟩,
 some ⟨1,8,.map 5 146,[.val (.map none)]⟩,
 some ⟨1,8,.fn,[.val .nilFunc]⟩,
 none,
 none,
 some ⟨1,8,.fn,[.val .nilFunc]⟩,
 some ⟨1,8,.fn,[.val .nilFunc]⟩,
 none,
 some ⟨1,8,.fn,[.val .nilFunc]⟩,
 some ⟨1,8,.fn,[.val .nilFunc]⟩,
 some ⟨1,8,.fn,[.val .nilFunc]⟩,
 some ⟨1,8,.fn,[.val .nilFunc]⟩,
 some ⟨1,8,.fn,[.val .nilFunc]⟩,
 some ⟨3,56,.agg [(0,3),(1,62),(2,53)],[.val (.int .i64 0),.val (.slice none 0 0),.val (.slice none 0 0)]⟩],
 [some ⟨3,56,.agg [(0,3),(1,62),(2,53)],[.val (.int .i64 0),.val (.slice none 0 0),.val (.slice none 0 0)]⟩,
 some ⟨1,8,.fn,[.val .nilFunc]⟩,
 some ⟨1,8,.fn,[.val .nilFunc]⟩,
 some ⟨1,24,.slice 3,[.val (.slice none 0 0)]⟩,
 some ⟨1,8,.fn,[.val .nilFunc]⟩,
 some ⟨1,8,.fn,[.val .nilFunc]⟩,
 some ⟨1,8,.fn,[.val .nilFunc]⟩,
 some ⟨1,8,.fn,[.val .nilFunc]⟩,
 none,
 some ⟨1,8,.fn,[.val .nilFunc]⟩,
 none,
 some ⟨1,8,.fn,[.val .nilFunc]⟩,
 none,
 some ⟨1,8,.fn,[.val .nilFunc]⟩,
 some ⟨1,8,.fn,[.val .nilFunc]⟩,
 some ⟨1,8,.fn,[.val .nilFunc]⟩],
 [some ⟨1,8,.fn,[.val .nilFunc]⟩,
 some ⟨5,48,.agg [(0,2),(1,2),(2,4),(3,5),(4,81)],[.val (.int .i64 0),.val (.int .i64 0),.val (.bool false),.val (.int .u8 0),.val (.slice none 0 0)]⟩,
 some ⟨5,48,.agg [(0,2),(1,2),(2,4),(3,5),(4,81)],[.val (.int .i64 0),.val (.int .i64 0),.val (.bool false),.val (.int .u8 0),.val (.slice none 0 0)]⟩,
 none,
 some ⟨1,8,.fn,[.val .nilFunc]⟩,
 none,
 some ⟨1,8,.fn,[.val .nilFunc]⟩,
 some ⟨1,8,.fn,[.val .nilFunc]⟩,
 some ⟨1,8,.fn,[.val .nilFunc]⟩,
 none,
 some ⟨1,8,.fn,[.val .nilFunc]⟩,
 some ⟨6,56,.agg [(0,3),(1,178)],[.val (.int .i64 0),.val (.int .i64 0),.val (.int .i64 0),.val (.bool false),.val (.int .u8 0),.val (.slice none 0 0)]⟩,
 some ⟨6,56,.agg [(0,3),(1,178)],[.val (.int .i64 0),.val (.int .i64 0),.val (.int .i64 0),.val (.bool false),.val (.int .u8 0),.val (.slice none 0 0)]⟩,
 some ⟨1,8,.fn,[.val .nilFunc]⟩,
 some ⟨1,8,.int .u64,[.val (.int .u64 0)]⟩,
 some ⟨1,8,.fn,[.val .nilFunc]⟩],
 [some ⟨1,8,.fn,[.val .nilFunc]⟩,
 some ⟨1,16,.iface,[.val .nilIface]⟩,
 some ⟨1,16,.iface,[.val .nilIface]⟩,
 none,
 some ⟨1,8,.fn,[.val .nilFunc]⟩,
 some ⟨1,8,.fn,[.val .nilFunc]⟩,
 some ⟨1,8,.fn,[.val .nilFunc]⟩,
 none,
 some ⟨1,8,.fn,[.val .nilFunc]⟩,
 some ⟨1,8,.fn,[.val .nilFunc]⟩,
 some ⟨1,8,.ptr 199,[.val (.pointer none)]⟩,
 some ⟨1,8,.fn,[.val .nilFunc]⟩,
 some ⟨1,8,.fn,[.val .nilFunc]⟩,
 none,
 some ⟨1,8,.fn,[.val .nilFunc]⟩,
 some ⟨1,8,.fn,[.val .nilFunc]⟩],
 [some ⟨1,8,.fn,[.val .nilFunc]⟩,
 none,
 some ⟨1,8,.fn,[.val .nilFunc]⟩,
 some ⟨1,8,.fn,[.val .nilFunc]⟩,
 some ⟨1,8,.fn,[.val .nilFunc]⟩,
 some ⟨1,8,.fn,[.val .nilFunc]⟩,
 some ⟨1,8,.fn,[.val .nilFunc]⟩,
 none,
 some ⟨1,8,.fn,[.val .nilFunc]⟩,
 some ⟨1,8,.fn,[.val .nilFunc]⟩,
 some ⟨1,8,.fn,[.val .nilFunc]⟩,
 some ⟨1,8,.fn,[.val .nilFunc]⟩,
 some ⟨1,8,.fn,[.val .nilFunc]⟩,
 some ⟨1,8,.fn,[.val .nilFunc]⟩,
 some ⟨1,8,.fn,[.val .nilFunc]⟩,
 some ⟨1,8,.fn,[.val .nilFunc]⟩],
 [some ⟨1,8,.fn,[.val .nilFunc]⟩,
 none,
 some ⟨1,8,.fn,[.val .nilFunc]⟩,
 some ⟨1,8,.fn,[.val .nilFunc]⟩,
 some ⟨0,0,.agg [],[]⟩,
 some ⟨0,0,.agg [],[]⟩,
 some ⟨0,0,.agg [],[]⟩,
 some ⟨1,8,.fn,[.val .nilFunc]⟩,
 some ⟨1,8,.fn,[.val .nilFunc]⟩,
 some ⟨4,16,.agg [(0,5),(1,4),(2,31),(3,3)],[.val (.int .u8 0),.val (.bool false),.val (.int .u32 0),.val (.int .i64 0)]⟩,
 some ⟨4,16,.agg [(0,5),(1,4),(2,31),(3,3)],[.val (.int .u8 0),.val (.bool false),.val (.int .u32 0),.val (.int .i64 0)]⟩,
 some ⟨1,24,.slice 2,[.val (.slice none 0 0)]⟩,
 some ⟨1,8,.fn,[.val .nilFunc]⟩,
 some ⟨1,8,.fn,[.val .nilFunc]⟩,
 some ⟨1,8,.fn,[.val .nilFunc]⟩,
 some ⟨1,8,.fn,[.val .nilFunc]⟩],
 [some ⟨1,8,.fn,[.val .nilFunc]⟩,
 some ⟨1,8,.fn,[.val .nilFunc]⟩,
 some ⟨1,8,.fn,[.val .nilFunc]⟩,
 none,
 some ⟨1,8,.fn,[.val .nilFunc]⟩,
 some ⟨1,8,.map 2 4,[.val (.map none)]⟩,
 some ⟨1,8,.fn,[.val .nilFunc]⟩,
 some ⟨1,8,.fn,[.val .nilFunc]⟩,
 some ⟨4,40,.agg [(0,17),(1,17),(2,17),(3,9)],[.val (.pointer none),.val (.pointer none),.val (.pointer none),.val (.string ⟨⟨[]⟩⟩)]⟩,
 some ⟨4,40,.agg [(0,17),(1,17),(2,17),(3,9)],[.val (.pointer none),.val (.pointer none),.val (.pointer none),.val (.string ⟨⟨[]⟩⟩)]⟩,
 some ⟨0,0,.arr 0 16,[]⟩,
 some ⟨0,0,.agg [(0,250)],[]⟩,
 some ⟨0,0,.agg [(0,250)],[]⟩,
 some ⟨1,1,.int .u8,[.val (.int .u8 0)]⟩,
 some ⟨1,1,.int .u8,[.val (.int .u8 0)]⟩,
 some ⟨1,8,.fn,[.val .nilFunc]⟩],
 [some ⟨1,8,.ptr 5,[.val (.pointer none)]⟩,
 some ⟨1,4,.int .i32,[.val (.int .i32 0)]⟩,
 some ⟨1,4,.int .i32,[.val (.int .i32 0)]⟩,
 some ⟨11,48,.agg [(0,12),(1,12),(2,31),(3,253),(4,5),(5,5),(6,254),(7,255),(8,256),(9,257),(10,258)],[.val (.int .u64 0),.val (.int .u64 0),.val (.int .u32 0),.val (.int .u8 0),.val (.int .u8 0),.val (.int .u8 0),.val (.int .u8 0),.val .nilFunc,.val (.pointer none),.val (.int .i32 0),.val (.int .i32 0)]⟩,
 some ⟨11,48,.agg [(0,12),(1,12),(2,31),(3,253),(4,5),(5,5),(6,254),(7,255),(8,256),(9,257),(10,258)],[.val (.int .u64 0),.val (.int .u64 0),.val (.int .u32 0),.val (.int .u8 0),.val (.int .u8 0),.val (.int .u8 0),.val (.int .u8 0),.val .nilFunc,.val (.pointer none),.val (.int .i32 0),.val (.int .i32 0)]⟩,
 some ⟨1,8,.other,[.val (.pointer none)]⟩,
 none,
 none,
 none,
 none,
 none,
 none,
 none,
 none,
 none,
 none]
 ]
def NH:List Nat:=[7,8,22,23,33,34,35,36,37,38,42,43,44,45,46,47,64,65,66,67,135,136,137,138,233,234]
theorem KK:Facts Tryz.prog KD NH:=XL (by kernel_rfl) (by kernel_rfl) (by kernel_rfl) (by kernel_rfl)
set_option maxRecDepth 100000
noncomputable def ajp:List (Nat×Func):=[(3,Tryz.f3),(4,Tryz.f4),(5,Tryz.f5),(6,Tryz.f6),(7,Tryz.f7),(8,Tryz.f8),(9,Tryz.f9),(10,Tryz.f10),(11,Tryz.f11),(12,Tryz.f12),(13,Tryz.f13),(14,Tryz.f14),(15,Tryz.f15),(16,Tryz.f16),(17,Tryz.f17),(18,Tryz.f18),(19,Tryz.f19),(20,Tryz.f20),(21,Tryz.f21),(22,Tryz.f22),(23,Tryz.f23),(24,Tryz.f24),(25,Tryz.f25),(26,Tryz.f26),(27,Tryz.f27),(28,Tryz.f28),(29,Tryz.f29),(30,Tryz.f30),(31,Tryz.f31),(32,Tryz.f32),(33,Tryz.f33),(34,Tryz.f34),(35,Tryz.f35),(36,Tryz.f36),(37,Tryz.f37),(38,Tryz.f38),(39,Tryz.f39),(40,Tryz.f40),(41,Tryz.f41),(42,Tryz.f42),(43,Tryz.f43),(44,Tryz.f44),(45,Tryz.f45),(46,Tryz.f46),(47,Tryz.f47),(48,Tryz.f48),(49,Tryz.f49),(50,Tryz.f50),(51,Tryz.f51),(52,Tryz.f52),(53,Tryz.f53),(54,Tryz.f54),(55,Tryz.f55),(56,Tryz.f56),(57,Tryz.f57),(58,Tryz.f58),(59,Tryz.f59),(60,Tryz.f60),(61,Tryz.f61),(62,Tryz.f62),(63,Tryz.f63),(64,Tryz.f64),(65,Tryz.f65),(66,Tryz.f66),(67,Tryz.f67),(68,Tryz.f68),(69,Tryz.f69),(70,Tryz.f70),(71,Tryz.f71),(72,Tryz.f72),(73,Tryz.f73),(74,Tryz.f74),(75,Tryz.f75),(76,Tryz.f76),(77,Tryz.f77),(78,Tryz.f78),(79,Tryz.f79),(80,Tryz.f80),(81,Tryz.f81),(82,Tryz.f82),(83,Tryz.f83),(84,Tryz.f84),(85,Tryz.f85),(86,Tryz.f86),(87,Tryz.f87),(88,Tryz.f88),(89,Tryz.f89),(90,Tryz.f90),(91,Tryz.f91),(92,Tryz.f92),(93,Tryz.f93),(94,Tryz.f94),(95,Tryz.f95),(96,Tryz.f96),(97,Tryz.f97),(98,Tryz.f98),(99,Tryz.f99),(100,Tryz.f100),(101,Tryz.f101),(102,Tryz.f102),(103,Tryz.f103),(104,Tryz.f104),(105,Tryz.f105),(106,Tryz.f106),(107,Tryz.f107),(108,Tryz.f108),(109,Tryz.f109),(110,Tryz.f110),(111,Tryz.f111),(112,Tryz.f112),(113,Tryz.f113),(114,Tryz.f114),(115,Tryz.f115),(116,Tryz.f116),(117,Tryz.f117),(118,Tryz.f118),(119,Tryz.f119),(120,Tryz.f120),(122,Tryz.f122),(123,Tryz.f123),(124,Tryz.f124),(125,Tryz.f125),(126,Tryz.f126),(127,Tryz.f127),(128,Tryz.f128),(145,Tryz.f145),(146,Tryz.f146),(147,Tryz.f147),(148,Tryz.f148),(149,Tryz.f149),(150,Tryz.f150),(151,Tryz.f151),(152,Tryz.f152),(153,Tryz.f153)]
theorem dN:IL Tryz.prog ajp:=⟨Tryz.func3,by kernel_rfl,Tryz.func4,by kernel_rfl,Tryz.func5,by kernel_rfl,Tryz.func6,by kernel_rfl,Tryz.func7,by kernel_rfl,Tryz.func8,by kernel_rfl,Tryz.func9,by kernel_rfl,Tryz.func10,by kernel_rfl,Tryz.func11,by kernel_rfl,Tryz.func12,by kernel_rfl,Tryz.func13,by kernel_rfl,Tryz.func14,by kernel_rfl,Tryz.func15,by kernel_rfl,Tryz.func16,by kernel_rfl,Tryz.func17,by kernel_rfl,Tryz.func18,by kernel_rfl,Tryz.func19,by kernel_rfl,Tryz.func20,by kernel_rfl,Tryz.func21,by kernel_rfl,Tryz.func22,by kernel_rfl,Tryz.func23,by kernel_rfl,Tryz.func24,by kernel_rfl,Tryz.func25,by kernel_rfl,Tryz.func26,by kernel_rfl,Tryz.func27,by kernel_rfl,Tryz.func28,by kernel_rfl,Tryz.func29,by kernel_rfl,Tryz.func30,by kernel_rfl,Tryz.func31,by kernel_rfl,Tryz.func32,by kernel_rfl,Tryz.func33,by kernel_rfl,Tryz.func34,by kernel_rfl,Tryz.func35,by kernel_rfl,Tryz.func36,by kernel_rfl,Tryz.func37,by kernel_rfl,Tryz.func38,by kernel_rfl,Tryz.func39,by kernel_rfl,Tryz.func40,by kernel_rfl,Tryz.func41,by kernel_rfl,Tryz.func42,by kernel_rfl,Tryz.func43,by kernel_rfl,Tryz.func44,by kernel_rfl,Tryz.func45,by kernel_rfl,Tryz.func46,by kernel_rfl,Tryz.func47,by kernel_rfl,Tryz.func48,by kernel_rfl,Tryz.func49,by kernel_rfl,Tryz.func50,by kernel_rfl,Tryz.func51,by kernel_rfl,Tryz.func52,by kernel_rfl,Tryz.func53,by kernel_rfl,Tryz.func54,by kernel_rfl,Tryz.func55,by kernel_rfl,Tryz.func56,by kernel_rfl,Tryz.func57,by kernel_rfl,Tryz.func58,by kernel_rfl,Tryz.func59,by kernel_rfl,Tryz.func60,by kernel_rfl,Tryz.func61,by kernel_rfl,Tryz.func62,by kernel_rfl,Tryz.func63,by kernel_rfl,Tryz.func64,by kernel_rfl,Tryz.func65,by kernel_rfl,Tryz.func66,by kernel_rfl,Tryz.func67,by kernel_rfl,Tryz.func68,by kernel_rfl,Tryz.func69,by kernel_rfl,Tryz.func70,by kernel_rfl,Tryz.func71,by kernel_rfl,Tryz.func72,by kernel_rfl,Tryz.func73,by kernel_rfl,Tryz.func74,by kernel_rfl,Tryz.func75,by kernel_rfl,Tryz.func76,by kernel_rfl,Tryz.func77,by kernel_rfl,Tryz.func78,by kernel_rfl,Tryz.func79,by kernel_rfl,Tryz.func80,by kernel_rfl,Tryz.func81,by kernel_rfl,Tryz.func82,by kernel_rfl,Tryz.func83,by kernel_rfl,Tryz.func84,by kernel_rfl,Tryz.func85,by kernel_rfl,Tryz.func86,by kernel_rfl,Tryz.func87,by kernel_rfl,Tryz.func88,by kernel_rfl,Tryz.func89,by kernel_rfl,Tryz.func90,by kernel_rfl,Tryz.func91,by kernel_rfl,Tryz.func92,by kernel_rfl,Tryz.func93,by kernel_rfl,Tryz.func94,by kernel_rfl,Tryz.func95,by kernel_rfl,Tryz.func96,by kernel_rfl,Tryz.func97,by kernel_rfl,Tryz.func98,by kernel_rfl,Tryz.func99,by kernel_rfl,Tryz.func100,by kernel_rfl,Tryz.func101,by kernel_rfl,Tryz.func102,by kernel_rfl,Tryz.func103,by kernel_rfl,Tryz.func104,by kernel_rfl,Tryz.func105,by kernel_rfl,Tryz.func106,by kernel_rfl,Tryz.func107,by kernel_rfl,Tryz.func108,by kernel_rfl,Tryz.func109,by kernel_rfl,Tryz.func110,by kernel_rfl,Tryz.func111,by kernel_rfl,Tryz.func112,by kernel_rfl,Tryz.func113,by kernel_rfl,Tryz.func114,by kernel_rfl,Tryz.func115,by kernel_rfl,Tryz.func116,by kernel_rfl,Tryz.func117,by kernel_rfl,Tryz.func118,by kernel_rfl,Tryz.func119,by kernel_rfl,Tryz.func120,by kernel_rfl,Tryz.func122,by kernel_rfl,Tryz.func123,by kernel_rfl,Tryz.func124,by kernel_rfl,Tryz.func125,by kernel_rfl,Tryz.func126,by kernel_rfl,Tryz.func127,by kernel_rfl,Tryz.func128,by kernel_rfl,Tryz.func145,by kernel_rfl,Tryz.func146,by kernel_rfl,Tryz.func147,by kernel_rfl,Tryz.func148,by kernel_rfl,Tryz.func149,by kernel_rfl,Tryz.func150,by kernel_rfl,Tryz.func151,by kernel_rfl,Tryz.func152,by kernel_rfl,Tryz.func153,by kernel_rfl,trivial⟩
def noC:U5:=fun _ _ _=>none
theorem afA:∀f args rd v us rds,noC f args rd=some (v,us,rds)->qx Tryz.prog f=true/\Does Tryz.prog (fun _=>none) f args rds v us rd:=fun _ _ _ _ _ _ h=>by cases h
end Go.Proofs.YtigfeinnobfflaaGreat

/- Short words for trees. -/
namespace Go.Proofs.YtigfeinnobfflaaGreat
open Go.RowKit
abbrev lI {α : Type} (l : List α) : Int := ((l.length : Nat) : Int)
abbrev iR {α : Type} (v : Int) (l : List α) : Bool := decide (((0 : Int) <= v) /\ (v < lI l))
abbrev lE {α : Type} (l : List α) : Bool := decide (l.length <= l.length)
abbrev lQ {α β : Type} (a : List α) (b : List β) : Bool := decide (a.length = b.length)
abbrev rO {α : Type} (l : List α) (k : Nat) : Bool := decide ((l.length * k) <= 140737488355328)
abbrev tA {α : Type} (l : List α) : List α := List.take l.length l
abbrev wI (n : Int) : Int := IntKind.wrap .i64 n
abbrev z0 : Int := 0
abbrev z1 : Int := 1
abbrev LU := List UInt8
abbrev LN := List Int
abbrev dI : CS := .dat (.int .i64)
abbrev dS : CS := .dat .str
abbrev dO : CS := .dat .bool
abbrev dY : CS := .dat (.list (.int .u8))
abbrev fP : CS := .dat (.int .u8)
abbrev ak : U := .int .i64
abbrev aZ : U := .int .u8
abbrev tyB:=List UInt8×(List UInt8×(List UInt8×(Int×(Int×(Int×(Int×(Int×(Int×Bool))))))))
abbrev tyU:U:=.pair .str (.pair .str (.pair .str (.pair (.int .i64) (.pair (.int .i64) (.pair (.int .i64) (.pair (.int .i64) (.pair (.int .i64) (.pair (.int .i64) .bool))))))))
abbrev tyL:=List Int×(Int×(Int×(List tyB×(Int×Int))))
theorem nH (pl:List (Nat×PL)) (eg:Nat->Bool) {cons:List (Nat×CE)} (hc:cu Tryz.prog cons) {f:Nat} {fn:Func} (hf:Tryz.prog.funcs[f]? = some fn) {ai ri:List IT} {G:(bQ ai).T->Option (bQ ri).T} (hfn:qx Tryz.prog f=true:=by kernel_rfl) (hsh:Qp fn ai ri=true:=by kernel_rfl) (hG:∀a,(Y9 (yK (aJ Tryz.prog) KD) (qOf NH) (IQ ajp) (Zl cons) (eY pl) eg 10000 f fn ai ri).run a=G a:=by intro a;kernel_rfl):ay Tryz.prog f ⟨ai,ri,G⟩:=
 ab6 KK dN (bM hc) hf hfn hsh 10000 fun a r h=>(hG a).trans h
abbrev UMd:U := .pair (.int .i64) (.pair (.int .i64) (.pair .bool (.pair (.int .u8) (.list (.int .u8)))))
abbrev Bc:U := .pair (.int .i64) UMd
abbrev UFt:U := .pair .bool (.pair (.int .i64) (.pair .bool (.int .i64)))
abbrev Lc:U := .pair UFt (.pair (.int .i64) (.pair .str (.pair .str (.pair (.int .i64) (.pair .bool (.list (.int .u8)))))))
abbrev UPk:U := .pair .bool (.pair (.int .u8) (.pair (.int .u16) (.pair (.int .u32) (.pair (.int .u32) (.pair (.list (.int .u32)) (.pair .bool (.pair (.int .u16) (.pair (.list (.int .u8)) (.pair (.list (.int .u8)) (.int .i64))))))))))
abbrev USd:U := .pair (.int .i64) (.pair (.list (.int .i16)) (.list (.pair (.int .u8) (.pair .bool (.pair (.int .u32) (.int .i64))))))
def adQ:List CS:=[.kb false,.ki .u8 0,.ki .u8 0,.ki .u32 0,.ki .i64 0,.ki .i64 0]
def Zo:List CS:=[.kb false,.ki .u32 0,.ki .u8 0,.ki .i64 0,.kb false]
def Zp:List CS:=[.dat (.int .u8),.ki .u32 7,.dat (.int .u16),.dat (.int .u32),.dat .bool,.dat (.int .i64),.dat (.int .i64),.dat (.int .i64)]++adQ ++
 [.ki .i64 1,.ki .i64 1,.ki .i64 0,.kb false,.ki .i64 0,.ki .i64 0,.ki .i64 (-1),.ki .i64 (-1),.ki .i64 0,.ki .i64 0,.nil,.ki .i64 0,.ki .i64 0,.ki .i64 0,
  .kb false,.ki .i64 0,.ki .i64 0,.ki .i64 0,.kb false,.ki .i64 0,.ki .i64 0,.ki .i64 0,.ki .i64 0,.ki .i64 0,.ki .i64 0,.ki .i64 0]++Zo++[.ki .u32 7,.dat (.int .u32),.dat (.int .u32)]
def ala:List CS:=[.dat (.int .i64),.dat (.int .i64),.dat (.int .i64),.dat .bool,.dat (.int .i64),.dat (.int .i64),.dat (.int .i64),.dat (.int .i64),.dat (.int .i64),.dat (.int .i64),.dat (.list Bc),.dat (.int .i64),.dat (.int .i64),.dat (.int .i64)]
def Tv:List CS:=[.dat (.int .u8),.ki .u32 8,.ki .u16 0,.ki .u32 0,.kb true,.ki .i64 0,.ki .i64 0,.ki .i64 0]++adQ++ala ++
 [.dat .bool,.dat (.int .i64),.dat (.int .i64),.dat (.int .i64),.dat .bool,.dat (.int .i64),.dat (.int .i64),.dat (.int .i64),.dat (.int .i64),.dat (.int .i64),.dat (.int .i64),.dat (.int .i64)]++Zo++[.dat (.int .u32),.ki .u32 0,.ki .u32 0]
def H8:List CS:=[.kb true,.dat (.list UFt),.own 20000011 112 Lc,.dat (.int .i64),.dat (.int .i64),.dat (.int .i64)]
set_option maxRecDepth 1000000
def szL:List Int:=[7,8,9,10,11,12,13,14,15,17,19,21,23,25,28,31,34,37,41,45,50,55,61,67,74,81,89,98,108,119,131,144,158,174,191,210,231,254,279,307,338,372,409,450,495,545,600,660,726,799,879,967,1064,1170,1287,1416,1558,1714,1885,2074,2281,2509,2760,3036,3340,3674,4041,4445,4890,5379,5917,6509,7160,7876,8664,9530,10483,11531,12684,13952,15347,16882,18570,20427,22470,24717,27189,29908,32767]
def szK:List CS:=szL.map fun n => .ki .i64 n
def szG:(bQ []).T->Option (bQ [.tmp 0 true szK]).T:=fun _=>some (by exact ())
theorem Jl:ay Tryz.prog 86 ⟨[],[.tmp 0 true szK],szG⟩ :=
 dG ⟨by kernel_rfl,fun a r h=>U9 KK dN afA Tryz.func86 rfl 10000 (v := .agg (szL.map fun n => .d (.val (.int .i64 n)))) (fun R=>by kernel_rfl)⟩ (by rfl)
set_option maxHeartbeats 0
def ab7:List (Nat×PL):=[(262657,(.carry [])),(35253091829766,(.carry [.tmp 4 false [dI]]))]
noncomputable def jF:Int->Option Int:=fun a1 =>
 au (bf (fun v2 =>
 bif (decide (v2<7)) then
 ah (some (IntKind.wrap .i64 (v2+(8:Int)))) fun x3 =>
 bif (decide (0<=x3)) then
 bif (decide (a1<(IntKind.wrap .i64 ((1:Int)*((2:Int) ^ (Min.min x3.toNat 64)))))) then
 aB (aB (some v2))
 else
 some (Sum.inl (IntKind.wrap .i64 (v2+(1:Int))))
 else none
 else
 aB (some (Sum.inl ()))) (0:Int)) fun _ =>
 some (7:Int)
noncomputable def ab8:List (Nat×CE):=[]
theorem Qs:cu Tryz.prog ab8:=trivial
noncomputable def Zq:CE:=⟨[(.tmp 0 false [dI])],[(.tmp 0 false [dI])],jF⟩
theorem Zr:ay Tryz.prog 149 Zq :=nH ab7 dF Qs Tryz.func149
def ab9:List (Nat×PL):=[(68853957121,(.carry [.tmp 4 false [dI],.tmp 3 false [dI]]))]
noncomputable def qN:Int->Option Int:=fun a1 =>
 au (bif (decide ((IntKind.wrap .i64 a1)<0)) then
 some (Sum.inl ((127:Int),(IntKind.wrap .i64 ((0:Int)-(IntKind.wrap .i64 a1)))))
 else
 some (Sum.inl ((255:Int),(IntKind.wrap .i64 a1)))) fun (v4,v5) =>
 ah (some (IntKind.wrap .i64 ((fA v5 (32635:Int))+(132:Int)))) fun x6 =>
 ah (jF x6) fun x7 =>
 ah (some (IntKind.wrap .i64 (x7+(3:Int)))) fun x8 =>
 bif (decide (0<=x8)) then
 some (IntKind.wrap .u8 (IntKind.wrap .i64 ((IntKind.wrap .i64 (v4-(IntKind.wrap .i64 ((16:Int)*x7))))-(Int.tmod (Int.fdiv x6 ((2:Int) ^ (Min.min x8.toNat 64))) (16:Int)))))
 else none
noncomputable def acd:List (Nat×CE):=[(149,Zq)]
theorem Qu:cu Tryz.prog acd:=⟨Zr,trivial⟩
noncomputable def Zt:CE:=⟨[(.tmp 0 false [(.dat (.int .i16))])],[(.tmp 0 false [fP])],qN⟩
theorem Zu:ay Tryz.prog 147 Zt :=nH ab9 dF Qu Tryz.func147
def ace:List (Nat×PL):=[]
noncomputable def kP:Int->Option Int:=fun a1 =>
 ah (some (IntKind.wrap .i64 ((255:Int)-(IntKind.wrap .i64 a1)))) fun x3 =>
 ah (some (Int.tmod (IntKind.wrap .i64 (Int.tdiv x3 (16:Int))) (8:Int))) fun x5 =>
 bif (decide (0<=x5)) then
 ah (some (IntKind.wrap .i64 ((IntKind.wrap .i64 ((IntKind.wrap .i64 ((IntKind.wrap .i64 ((8:Int)*(Int.tmod x3 (16:Int))))+(132:Int)))*((2:Int) ^ (Min.min x5.toNat 64))))-(132:Int)))) fun x10 =>
 bif (decide (x3>=128)) then
 some (IntKind.wrap .i16 (IntKind.wrap .i64 ((0:Int)-x10)))
 else
 some (IntKind.wrap .i16 x10)
 else none
noncomputable def acf:List (Nat×CE):=[(147,Zt)]
theorem Qv:cu Tryz.prog acf:=⟨Zu,trivial⟩
noncomputable def Zv:CE:=⟨[(.tmp 0 false [fP])],[(.tmp 0 false [(.dat (.int .i16))])],kP⟩
theorem Zw:ay Tryz.prog 148 Zv :=nH ace dF Qv Tryz.func148
def acg:List (Nat×PL):=[(68853957121,(.carry [.tmp 4 false [dI],.tmp 3 false [dI]])),(9241421688590303745,(.carry [.tmp 6 false [dI]]))]
noncomputable def tZ:Int->Option Int:=fun a1 =>
 au (bif (decide ((IntKind.wrap .i64 a1)<0)) then
 some (Sum.inl ((0:Int),(IntKind.wrap .i64 ((IntKind.wrap .i64 ((0:Int)-(IntKind.wrap .i64 a1)))-(1:Int)))))
 else
 some (Sum.inl ((128:Int),(IntKind.wrap .i64 a1)))) fun (v5,v6) =>
 ah (jF v6) fun x7 =>
 au (bif (decide (x7=0)) then
 some (Sum.inl (4:Int))
 else
 some (Sum.inl (IntKind.wrap .i64 (x7+(3:Int))))) fun v9 =>
 bif (decide (0<=v9)) then
 some (IntKind.wrap .u8 (((BitVec.toNat ((BitVec.ofInt 8 (IntKind.wrap .u8 (IntKind.wrap .i64 ((IntKind.wrap .i64 (v5+(IntKind.wrap .i64 ((16:Int)*x7))))+(Int.tmod (Int.fdiv v6 ((2:Int) ^ (Min.min v9.toNat 64))) (16:Int)))))) ^^^ (BitVec.ofInt 8 (85:Int)))):Nat):Int))
 else none
noncomputable def ach:List (Nat×CE):=[(149,Zq),(148,Zv)]
theorem Qw:cu Tryz.prog ach:=⟨Zr,Zw,trivial⟩
noncomputable def Zx:CE:=⟨[(.tmp 0 false [(.dat (.int .i16))])],[(.tmp 0 false [fP])],tZ⟩
theorem Zy:ay Tryz.prog 152 Zx :=nH acg dF Qw Tryz.func152
def aci:List (Nat×PL):=[]
noncomputable def lD:Int->Option Int:=fun a1 =>
 ah (some (IntKind.wrap .u8 (((BitVec.toNat ((BitVec.ofInt 8 a1) ^^^ (BitVec.ofInt 8 (85:Int)))):Nat):Int))) fun x2 =>
 ah (some (Int.tmod (IntKind.wrap .i64 (Int.tdiv (IntKind.wrap .i64 x2) (16:Int))) (8:Int))) fun x5 =>
 ah (some (Int.tmod (IntKind.wrap .i64 x2) (16:Int))) fun x6 =>
 ah (some (IntKind.wrap .i64 ((IntKind.wrap .i64 ((16:Int)*x6))+(8:Int)))) fun x8 =>
 bif (decide (x5 > 0)) then
 ah (some (IntKind.wrap .i64 (x5-(1:Int)))) fun x11 =>
 bif (decide (0<=x11)) then
 ah (some (IntKind.wrap .i64 ((IntKind.wrap .i64 ((IntKind.wrap .i64 ((16:Int)*x6))+(264:Int)))*((2:Int) ^ (Min.min x11.toNat 64))))) fun x12 =>
 bif (decide ((IntKind.wrap .i64 x2)<128)) then
 some (IntKind.wrap .i16 (IntKind.wrap .i64 ((0:Int)-x12)))
 else
 some (IntKind.wrap .i16 x12)
 else none
 else
 bif (decide ((IntKind.wrap .i64 x2)<128)) then
 some (IntKind.wrap .i16 (IntKind.wrap .i64 ((0:Int)-x8)))
 else
 some (IntKind.wrap .i16 x8)
noncomputable def acj:List (Nat×CE):=[(152,Zx)]
theorem Qx:cu Tryz.prog acj:=⟨Zy,trivial⟩
noncomputable def Zz:CE:=⟨[(.tmp 0 false [fP])],[(.tmp 0 false [(.dat (.int .i16))])],lD⟩
theorem ZA:ay Tryz.prog 153 Zz :=nH aci dF Qx Tryz.func153
def H9:List (Nat×PL):=[(134479889,.unroll),(18049651735527937,(.carry [.row 25 5 aZ])),(2422583247133816450713606,(.carry [.tmp 25 false [dI],.row 25 5 aZ]))]
noncomputable def nZ:LN->Option (LN×Int):=fun a1 =>
 bif (decide ((a1.length:Int) > 8000)) then
 some (([]:List Int),(4:Int))
 else
 bif (decide ((0<=(a1.length:Int))/\(((a1.length:Int)<=(a1.length:Int))/\((((a1.length:Int)*(1:Int))<=140737488355328)/\((a1.length:Int)<=9223372036854775807))))) then
 au (bf (fun (v2,v3) =>
 bif (decide (v2<(a1.length:Int))) then
 bif (decide ((0<=v2)/\(v2<(a1.length:Int)))) then
 ah a1[v2.toNat]? fun x4 =>
 ah (qN x4) fun x5 =>
 bif (decide ((0<=v2)/\(v2<(((Int.toNat (a1.length:Int)):Nat):Int)))) then
 ah v3[v2.toNat]? fun x6 =>
 some (Sum.inl ((IntKind.wrap .i64 (v2+(1:Int))),(List.set v3 v2.toNat x5)))
 else none
 else none
 else
 aB (some (Sum.inl v3))) ((0:Int),(List.replicate (Int.toNat (a1.length:Int)) (0:Int)))) fun v8 =>
 bif (decide ((Int.toNat (a1.length:Int))<=v8.length)) then
 some ((List.take (Int.toNat (a1.length:Int)) v8),(0:Int))
 else none
 else none
noncomputable def Ia:List (Nat×CE):=[(147,Zt),(153,Zz)]
theorem CP:cu Tryz.prog Ia:=⟨Zu,ZA,trivial⟩
noncomputable def oZ:CE:=⟨[.tmp 0 false [.ki .u8 1],.tmp 1 false [.dat (.list (.int .i16))]],[.tmp 0 false [dY],.tmp 1 false [fP]],nZ⟩
theorem pU:ay Tryz.prog 52 oZ :=
 dG (bV (plan:=eY H9) (eg:=dF) KK dN (bM CP) Tryz.func52 (by kernel_rfl) (by kernel_rfl) 10000 (fun a r h=>Eq.trans (show _=nZ a from by kernel_rfl) h)) (by rfl)
def KE:List (Nat×PL):=[(134479889,.unroll),(18049651735527937,(.carry [.row 27 5 aZ])),(2422583247133816450713606,(.carry [.tmp 25 false [dI],.row 27 5 aZ]))]
noncomputable def uf:LN->Option (LN×Int):=fun a1 =>
 bif (decide ((a1.length:Int) > 8000)) then
 some (([]:List Int),(4:Int))
 else
 bif (decide ((0<=(a1.length:Int))/\(((a1.length:Int)<=(a1.length:Int))/\((((a1.length:Int)*(1:Int))<=140737488355328)/\((a1.length:Int)<=9223372036854775807))))) then
 au (bf (fun (v2,v3) =>
 bif (decide (v2<(a1.length:Int))) then
 bif (decide ((0<=v2)/\(v2<(a1.length:Int)))) then
 ah a1[v2.toNat]? fun x4 =>
 ah (tZ x4) fun x5 =>
 bif (decide ((0<=v2)/\(v2<(((Int.toNat (a1.length:Int)):Nat):Int)))) then
 ah v3[v2.toNat]? fun x6 =>
 some (Sum.inl ((IntKind.wrap .i64 (v2+(1:Int))),(List.set v3 v2.toNat x5)))
 else none
 else none
 else
 aB (some (Sum.inl v3))) ((0:Int),(List.replicate (Int.toNat (a1.length:Int)) (0:Int)))) fun v8 =>
 bif (decide ((Int.toNat (a1.length:Int))<=v8.length)) then
 some ((List.take (Int.toNat (a1.length:Int)) v8),(0:Int))
 else none
 else none
noncomputable def KF:List (Nat×CE):=[(152,Zx),(3000000052,oZ)]
theorem Et:cu Tryz.prog KF:=⟨Zy,pU,trivial⟩
noncomputable def qO:CE:=⟨[.tmp 0 false [.ki .u8 2],.tmp 1 false [.dat (.list (.int .i16))]],[.tmp 0 false [dY],.tmp 1 false [fP]],uf⟩
theorem rV:ay Tryz.prog 52 qO :=
 dG (bV (plan:=eY KE) (eg:=dF) KK dN (bM Et) Tryz.func52 (by kernel_rfl) (by kernel_rfl) 10000 (fun a r h=>Eq.trans (show _=uf a from by kernel_rfl) h)) (by rfl)
def KG:List (Nat×PL):=[(134479889,.unroll),(18049651735527937,(.carry [.row 25 98 (.int .i16)])),(2422583247133816450713606,(.carry [.tmp 25 false [dI],.row 25 98 (.int .i16)]))]
noncomputable def ug:LN->Option (LN×Int):=fun a1 =>
 bif (decide ((a1.length:Int) > 8000)) then
 some (([]:List Int),(4:Int))
 else
 bif (decide ((0<=(a1.length:Int))/\(((a1.length:Int)<=(a1.length:Int))/\((((a1.length:Int)*(2:Int))<=140737488355328)/\((a1.length:Int)<=9223372036854775807))))) then
 au (bf (fun (v2,v3) =>
 bif (decide (v2<(a1.length:Int))) then
 bif (decide ((0<=v2)/\(v2<(a1.length:Int)))) then
 ah a1[v2.toNat]? fun x4 =>
 ah (kP x4) fun x5 =>
 bif (decide ((0<=v2)/\(v2<(((Int.toNat (a1.length:Int)):Nat):Int)))) then
 ah v3[v2.toNat]? fun x6 =>
 some (Sum.inl ((IntKind.wrap .i64 (v2+(1:Int))),(List.set v3 v2.toNat x5)))
 else none
 else none
 else
 aB (some (Sum.inl v3))) ((0:Int),(List.replicate (Int.toNat (a1.length:Int)) (0:Int)))) fun v8 =>
 bif (decide ((Int.toNat (a1.length:Int))<=v8.length)) then
 some ((List.take (Int.toNat (a1.length:Int)) v8),(0:Int))
 else none
 else none
noncomputable def KH:List (Nat×CE):=[(148,Zv),(4000000052,qO)]
theorem Eu:cu Tryz.prog KH:=⟨Zw,rV,trivial⟩
noncomputable def qP:CE:=⟨[.tmp 0 false [.ki .u8 1],.tmp 1 false [.dat (.list aZ)]],[.tmp 0 false [(.dat (.list (.int .i16)))],.tmp 1 false [fP]],ug⟩
theorem rW:ay Tryz.prog 54 qP :=
 dG (bV (plan:=eY KG) (eg:=dF) KK dN (bM Eu) Tryz.func54 (by kernel_rfl) (by kernel_rfl) 10000 (fun a r h=>Eq.trans (show _=ug a from by kernel_rfl) h)) (by rfl)
def NJ:List (Nat×PL):=[(134479889,.unroll),(18049651735527937,(.carry [.row 27 98 (.int .i16)])),(2422583247133816450713606,(.carry [.tmp 25 false [dI],.row 27 98 (.int .i16)]))]
noncomputable def CQ:LN->Option (LN×Int):=fun a1 =>
 bif (decide ((a1.length:Int) > 8000)) then
 some (([]:List Int),(4:Int))
 else
 bif (decide ((0<=(a1.length:Int))/\(((a1.length:Int)<=(a1.length:Int))/\((((a1.length:Int)*(2:Int))<=140737488355328)/\((a1.length:Int)<=9223372036854775807))))) then
 au (bf (fun (v2,v3) =>
 bif (decide (v2<(a1.length:Int))) then
 bif (decide ((0<=v2)/\(v2<(a1.length:Int)))) then
 ah a1[v2.toNat]? fun x4 =>
 ah (lD x4) fun x5 =>
 bif (decide ((0<=v2)/\(v2<(((Int.toNat (a1.length:Int)):Nat):Int)))) then
 ah v3[v2.toNat]? fun x6 =>
 some (Sum.inl ((IntKind.wrap .i64 (v2+(1:Int))),(List.set v3 v2.toNat x5)))
 else none
 else none
 else
 aB (some (Sum.inl v3))) ((0:Int),(List.replicate (Int.toNat (a1.length:Int)) (0:Int)))) fun v8 =>
 bif (decide ((Int.toNat (a1.length:Int))<=v8.length)) then
 some ((List.take (Int.toNat (a1.length:Int)) v8),(0:Int))
 else none
 else none
noncomputable def NK:List (Nat×CE):=[(153,Zz),(3000000054,qP)]
theorem GV:cu Tryz.prog NK:=⟨ZA,rW,trivial⟩
noncomputable def uh:CE:=⟨[.tmp 0 false [.ki .u8 2],.tmp 1 false [.dat (.list aZ)]],[.tmp 0 false [(.dat (.list (.int .i16)))],.tmp 1 false [fP]],CQ⟩
theorem uZ:ay Tryz.prog 54 uh :=
 dG (bV (plan:=eY NJ) (eg:=dF) KK dN (bM GV) Tryz.func54 (by kernel_rfl) (by kernel_rfl) 10000 (fun a r h=>Eq.trans (show _=CQ a from by kernel_rfl) h)) (by rfl)
def afC:List (Nat×PL):=[]
noncomputable def kQ:(Int×Int)->Option Bool:=fun (a1,a2) =>
 bif (decide (a1>=(-32768:Int))) then
 bif (decide (a1<=32767)) then
 bif (decide (a2>=0)) then
 some (decide (a2<89))
 else
 some false
 else
 some false
 else
 some false
noncomputable def afD:List (Nat×CE):=[(4000000054,uh)]
theorem Vt:cu Tryz.prog afD:=⟨uZ,trivial⟩
noncomputable def ZB:CE:=⟨[(.tmp 0 true [dI,dI])],[(.tmp 0 false [dO])],kQ⟩
theorem Tz:ay Tryz.prog 78 ZB :=nH afC dF Vt Tryz.func78
def afE:List (Nat×PL):=[]
noncomputable def jh:Int->Option Int:=fun a1 =>
 some (IntKind.wrap .i64 ((4:Int)+(IntKind.wrap .i64 (Int.tdiv (IntKind.wrap .i64 (a1+(1:Int))) (2:Int)))))
noncomputable def afF:List (Nat×CE):=[(78,ZB)]
theorem Vu:cu Tryz.prog afF:=⟨Tz,trivial⟩
noncomputable def acn:CE:=⟨[(.tmp 0 false [dI])],[(.tmp 0 false [dI])],jh⟩
theorem ZC:ay Tryz.prog 85 acn :=nH afE dF Vu Tryz.func85
def afG:List (Nat×PL):=[(68853957121,(.carry [.tmp 8 false [dI],.tmp 7 false [dI]]))]
noncomputable def ng:((Int×Int)×Int)->Option Int:=fun ((a1,a2),a3) =>
 ah (some (IntKind.wrap .i64 (a3-a1))) fun x4 =>
 au (bif (decide (x4<0)) then
 some (Sum.inl ((8:Int),(IntKind.wrap .i64 ((0:Int)-x4))))
 else
 some (Sum.inl ((0:Int),x4))) fun (v6,v7) =>
 bif (decide ((0<=a2)/\(a2<89))) then
 ah szL[a2.toNat]? fun x9 =>
 bif (decide (x9≠0)) then
 some (IntKind.wrap .i64 (v6+(fA (IntKind.wrap .i64 (Int.tdiv (IntKind.wrap .i64 ((4:Int)*v7)) x9)) (7:Int))))
 else none
 else none
noncomputable def afH:List (Nat×CE):=[(85,acn)]
theorem Vw:cu Tryz.prog afH:=⟨ZC,trivial⟩
noncomputable def afI:CE:=⟨[.tmp 0 false [.pt 20000001 0],.tmp 1 true [.dat ak,.dat ak],.tmp 2 false [.dat ak],.mix 20000001 szK],[.tmp 0 false [dI]],ng⟩
theorem adR:ay Tryz.prog 87 afI :=
 dG (bV (plan:=eY afG) (eg:=dF) KK dN (bM Vw) Tryz.func87 (by kernel_rfl) (by kernel_rfl) 10000 (fun a r h=>Eq.trans (show _=ng a from by kernel_rfl) h)) (by rfl)
def afJ:List (Nat×PL):=[(68853957121,(.carry [.tmp 8 false [dI]]))]
noncomputable def kV:((Int×Int)×Int)->Option (Int×Int):=fun ((a1,a2),a3) =>
 ah (some (Int.tmod a3 (8:Int))) fun x4 =>
 bif (decide ((0<=a2)/\(a2<89))) then
 ah szL[a2.toNat]? fun x7 =>
 ah (some (IntKind.wrap .i64 (Int.tdiv (IntKind.wrap .i64 ((IntKind.wrap .i64 ((IntKind.wrap .i64 ((2:Int)*x4))+(1:Int)))*x7)) (8:Int)))) fun x9 =>
 au (bif (decide (a3>=8)) then
 some (Sum.inl (IntKind.wrap .i64 ((0:Int)-x9)))
 else
 some (Sum.inl x9)) fun v11 =>
 ah (some (IntKind.wrap .i64 (a1+v11))) fun x12 =>
 bif (decide (x4<4)) then
 some ((fA (bD x12 (-32768:Int)) (32767:Int)),(fA (bD (IntKind.wrap .i64 (a2-(1:Int))) (0:Int)) (88:Int)))
 else
 some ((fA (bD x12 (-32768:Int)) (32767:Int)),(fA (bD (IntKind.wrap .i64 (a2+(IntKind.wrap .i64 ((2:Int)*(IntKind.wrap .i64 (x4-(3:Int))))))) (0:Int)) (88:Int)))
 else none
noncomputable def afK:List (Nat×CE):=[(87,afI)]
theorem Vx:cu Tryz.prog afK:=⟨adR,trivial⟩
noncomputable def afL:CE:=⟨[.tmp 0 false [.pt 20000001 0],.tmp 1 true [.dat ak,.dat ak],.tmp 2 false [.dat ak],.mix 20000001 szK],[.tmp 0 true [dI,dI]],kV⟩
theorem adS:ay Tryz.prog 88 afL :=
 dG (bV (plan:=eY afJ) (eg:=dF) KK dN (bM Vx) Tryz.func88 (by kernel_rfl) (by kernel_rfl) 10000 (fun a r h=>Eq.trans (show _=kV a from by kernel_rfl) h)) (by rfl)
def afM:List (Nat×PL):=[(2422583247133816584929793,(.carry [.row 13 5 aZ,.mix 0 [dI,dI]])),(325153619321163373997995722016774,(.carry [.tmp 51 false [dI],.row 13 5 aZ,.mix 0 [dI,dI]]))]
noncomputable def iw:((Int×Int)×LN)->Option (LN×((Int×Int)×Int)):=fun ((a1,a2),a3) =>
 ah (kQ (a1,a2)) fun x4 =>
 bif (!x4) then
 some (([]:List Int),(((0:Int),(0:Int)),(2:Int)))
 else
 bif (decide ((a3.length:Int) > 8000)) then
 some (([]:List Int),(((0:Int),(0:Int)),(4:Int)))
 else
 ah (jh (a3.length:Int)) fun x5 =>
 bif (decide ((0<=x5)/\((x5<=x5)/\(((x5*(1:Int))<=140737488355328)/\(x5<=9223372036854775807))))) then
 ah (some (Int.fdiv (IntKind.wrap .u16 a1) (256:Int))) fun x7 =>
 ah (some (IntKind.wrap .u8 (IntKind.wrap .u16 a1))) fun x9 =>
 bif (decide (((0:Int)<=0)/\(0<((x5.toNat:Nat):Int)))) then
 ah (List.replicate x5.toNat (0:Int))[0]? fun x11 =>
 bif (decide (((0:Int)<=1)/\(1<((x5.toNat:Nat):Int)))) then
 ah (List.set (List.replicate x5.toNat (0:Int)) 0 (IntKind.wrap .u8 x7))[1]? fun x12 =>
 bif (decide (((0:Int)<=2)/\(2<((x5.toNat:Nat):Int)))) then
 ah (List.set (List.set (List.replicate x5.toNat (0:Int)) 0 (IntKind.wrap .u8 x7)) 1 x9)[2]? fun x13 =>
 bif ((decide ((0<=((x5.toNat:Nat):Int))/\(((x5.toNat:Nat):Int)<=((x5.toNat:Nat):Int))))&&((decide ((0<=((x5.toNat:Nat):Int))/\(((x5.toNat:Nat):Int)<=(((Int.toNat ((x5.toNat:Nat):Int)):Nat):Int))))&&(decide (((0:Int)<=4)/\(4<=(((Int.toNat ((x5.toNat:Nat):Int)):Nat):Int)))))) then
 ah (szG ()) fun _ =>
 au (bf (fun (v15,(v16,(v17,v18))) =>
 bif (decide (v15<(a3.length:Int))) then
 bif (decide ((0<=v15)/\(v15<(a3.length:Int)))) then
 ah a3[v15.toNat]? fun x19 =>
 ah (ng ((v17,v18),(IntKind.wrap .i64 x19))) fun x21 =>
 ah (kV ((v17,v18),x21)) fun (x23,x24) =>
 bif (decide ((Int.tmod v15 (2:Int))=0)) then
 ah (some (IntKind.wrap .i64 (Int.tdiv v15 (2:Int)))) fun x27 =>
 bif (decide ((0<=x27)/\(x27<((((Int.toNat ((x5.toNat:Nat):Int))-4):Nat):Int)))) then
 ah v16[(4+x27.toNat)]? fun x28 =>
 bif (decide ((0<=x27)/\(x27<((((Int.toNat ((x5.toNat:Nat):Int))-4):Nat):Int)))) then
 ah v16[(4+x27.toNat)]? fun x31 =>
 some (Sum.inl ((IntKind.wrap .i64 (v15+(1:Int))),((List.set v16 (4+x27.toNat) (IntKind.wrap .u8 (x28+(IntKind.wrap .u8 (IntKind.wrap .i64 (x21*(16:Int))))))),(x23,x24))))
 else none
 else none
 else
 ah (some (IntKind.wrap .i64 (Int.tdiv v15 (2:Int)))) fun x33 =>
 bif (decide ((0<=x33)/\(x33<((((Int.toNat ((x5.toNat:Nat):Int))-4):Nat):Int)))) then
 ah v16[(4+x33.toNat)]? fun x34 =>
 bif (decide ((0<=x33)/\(x33<((((Int.toNat ((x5.toNat:Nat):Int))-4):Nat):Int)))) then
 ah v16[(4+x33.toNat)]? fun x37 =>
 some (Sum.inl ((IntKind.wrap .i64 (v15+(1:Int))),((List.set v16 (4+x33.toNat) (IntKind.wrap .u8 (x34+(IntKind.wrap .u8 x21)))),(x23,x24))))
 else none
 else none
 else none
 else
 aB (some (Sum.inl (v16,(v17,v18))))) ((0:Int),((List.set (List.set (List.set (List.replicate x5.toNat (0:Int)) 0 (IntKind.wrap .u8 x7)) 1 x9) 2 (IntKind.wrap .u8 a2)),(a1,a2)))) fun (v39,(v40,v41)) =>
 bif (decide (x5.toNat<=v39.length)) then
 some ((List.take x5.toNat v39),((v40,v41),(0:Int)))
 else none
 else none
 else none
 else none
 else none
 else none
noncomputable def NM:CE:=⟨[],[.tmp 0 true szK],szG⟩
noncomputable def afN:List (Nat×CE):=[(86,NM),(78,ZB),(85,acn),(87,afI),(88,afL)]
theorem Vy:cu Tryz.prog afN:=⟨Jl,Tz,ZC,adR,adS,trivial⟩
noncomputable def ZE:CE:=⟨[(.tmp 0 true [dI,dI]),(.tmp 1 false [(.dat (.list (.int .i16)))])],[(.tmp 0 false [dY]),(.tmp 1 true [dI,dI]),(.tmp 2 false [fP])],iw⟩
theorem TA:ay Tryz.prog 53 ZE :=nH afM dF Vy Tryz.func53
def afO:List (Nat×PL):=[(68853957121,(.carry [])),(2422583247133816584929793,(.carry [.row 44 98 (.int .i16),.mix 31 [dI,dI]])),(325153619321163373997995722016774,(.carry [.tmp 86 false [dI],.row 44 98 (.int .i16),.mix 31 [dI,dI]])),(2999012800128941014399895097006285836248878804107777,(.carry [.tmp 12 false [dI]]))]
noncomputable def fB:(LN×Int)->Option (LN×((Int×Int)×Int)):=fun (a1,a2) =>
 bif (decide (a2<0)) then
 some (([]:List Int),(((0:Int),(0:Int)),(3:Int)))
 else
 bif (decide (a2 > 8000)) then
 some (([]:List Int),(((0:Int),(0:Int)),(3:Int)))
 else
 ah (jh a2) fun x3 =>
 bif (decide ((a1.length:Int)<x3)) then
 some (([]:List Int),(((0:Int),(0:Int)),(6:Int)))
 else
 au (ah (jh a2) fun x4 =>
 bif (decide ((a1.length:Int) > x4)) then
 aB (some (([]:List Int),(((0:Int),(0:Int)),(5:Int))))
 else
 bif (decide (((0:Int)<=2)/\(2<(a1.length:Int)))) then
 ah a1[2]? fun x5 =>
 bif (decide (x5>=89)) then
 aB (some (([]:List Int),(((0:Int),(0:Int)),(5:Int))))
 else
 bif (decide (((0:Int)<=3)/\(3<(a1.length:Int)))) then
 ah a1[3]? fun x6 =>
 bif (decide (x6≠0)) then
 aB (some (([]:List Int),(((0:Int),(0:Int)),(5:Int))))
 else
 bif (decide ((Int.tmod a2 (2:Int))=1)) then
 ah (some (IntKind.wrap .i64 ((a1.length:Int)-(1:Int)))) fun x8 =>
 bif (decide ((0<=x8)/\(x8<(a1.length:Int)))) then
 ah a1[x8.toNat]? fun x9 =>
 bif (decide ((Int.tmod x9 (16:Int))≠0)) then
 aB (some (([]:List Int),(((0:Int),(0:Int)),(5:Int))))
 else
 some (Sum.inl ())
 else none
 else
 some (Sum.inl ())
 else none
 else none) fun _ =>
 bif (decide (((0:Int)<=0)/\(0<(a1.length:Int)))) then
 ah a1[0]? fun x11 =>
 bif (decide (((0:Int)<=1)/\(1<(a1.length:Int)))) then
 ah a1[1]? fun x14 =>
 bif (decide (((0:Int)<=2)/\(2<(a1.length:Int)))) then
 ah a1[2]? fun x19 =>
 bif ((decide ((0<=(a1.length:Int))/\((a1.length:Int)<=(a1.length:Int))))&&((decide ((0<=(a1.length:Int))/\((a1.length:Int)<=(((Int.toNat (a1.length:Int)):Nat):Int))))&&(decide (((0:Int)<=4)/\(4<=(((Int.toNat (a1.length:Int)):Nat):Int)))))) then
 ah (some (List.take ((Int.toNat (a1.length:Int))-4) (a1.drop 4))) fun x21 =>
 ah (szG ()) fun _ =>
 bif (decide ((0<=a2)/\((a2<=a2)/\(((a2*(2:Int))<=140737488355328)/\(a2<=9223372036854775807))))) then
 au (bf (fun (v23,(v24,(v25,v26))) =>
 bif (decide (v23<a2)) then
 ah (some (IntKind.wrap .i64 (Int.tdiv v23 (2:Int)))) fun x27 =>
 bif (decide ((0<=x27)/\(x27<(x21.length:Int)))) then
 ah x21[x27.toNat]? fun x28 =>
 au (bif (decide ((Int.tmod v23 (2:Int))=0)) then
 some (Sum.inl (IntKind.wrap .i64 (Int.tdiv (IntKind.wrap .i64 x28) (16:Int))))
 else
 some (Sum.inl (IntKind.wrap .i64 x28))) fun v32 =>
 ah (kV ((v25,v26),(Int.tmod v32 (16:Int)))) fun (x35,x36) =>
 bif (decide ((0<=v23)/\(v23<((a2.toNat:Nat):Int)))) then
 ah v24[v23.toNat]? fun x38 =>
 some (Sum.inl ((IntKind.wrap .i64 (v23+(1:Int))),((List.set v24 v23.toNat (IntKind.wrap .i16 x35)),(x35,x36))))
 else none
 else none
 else
 aB (some (Sum.inl (v24,(v25,v26))))) ((0:Int),((List.replicate a2.toNat (0:Int)),((IntKind.wrap .i64 (IntKind.wrap .i16 (IntKind.wrap .u16 (((BitVec.toNat ((BitVec.ofInt 16 (IntKind.wrap .u16 ((IntKind.wrap .u16 x11)*(256:Int)))) ||| (BitVec.ofInt 16 (IntKind.wrap .u16 x14)))):Nat):Int)))),(IntKind.wrap .i64 x19))))) fun (v40,(v41,v42)) =>
 bif (decide (a2.toNat<=v40.length)) then
 some ((List.take a2.toNat v40),((v41,v42),(0:Int)))
 else none
 else none
 else none
 else none
 else none
 else none
noncomputable def afP:List (Nat×CE):=[(86,NM),(85,acn),(88,afL),(53,ZE)]
theorem Vz:cu Tryz.prog afP:=⟨Jl,ZC,adS,TA,trivial⟩
noncomputable def aco:CE:=⟨[(.tmp 0 false [dY]),(.tmp 1 false [dI])],[(.tmp 0 false [(.dat (.list (.int .i16)))]),(.tmp 1 true [dI,dI]),(.tmp 2 false [fP])],fB⟩
theorem ZF:ay Tryz.prog 55 aco :=nH afO dF Vz Tryz.func55
def afQ:List (Nat×PL):=[]
noncomputable def aF:(Int×Int)->Option Bool:=fun (a1,a2) =>
 bif (decide (1<=a1)) then
 bif (decide (a1<=a2)) then
 some (decide (a2<=1000))
 else
 some false
 else
 some false
noncomputable def afR:List (Nat×CE):=[]
theorem VA:cu Tryz.prog afR:=trivial
noncomputable def VB:CE:=⟨[(.tmp 0 true [dI,dI])],[(.tmp 0 false [dO])],aF⟩
theorem Jm:ay Tryz.prog 61 VB :=nH afQ dF VA Tryz.func61
def acp:List (Nat×PL):=[]
noncomputable def jS:(Int×(Int×(Bool×(Int×LN))))->Option Bool:=fun (a1,(a2,(a3,(a4,a5)))) =>
 bif (decide (a1>=0)) then
 bif (decide (a1<=281474976710656)) then
 bif (decide (a2>=(-281474976710656:Int))) then
 bif (decide (a2<=281474976710656)) then
 some (decide ((a5.length:Int)<=1500))
 else
 some false
 else
 some false
 else
 some false
 else
 some false
noncomputable def acr:List (Nat×CE):=[(61,VB)]
theorem Qy:cu Tryz.prog acr:=⟨Jm,trivial⟩
noncomputable def TB:CE:=⟨[(.tmp 0 true [dI,dI,dO,fP,dY])],[(.tmp 0 false [dO])],jS⟩
theorem KI:ay Tryz.prog 116 TB :=nH acp dF Qy Tryz.func116
def afS:List (Nat×PL):=[]
noncomputable def cmp_Compare_int:(Int×Int)->Option Int:=fun (a1,a2) =>
 bif (decide (a1≠a1)) then
 bif (decide (a2≠a2)) then
 some (0:Int)
 else
 some (-1:Int)
 else
 bif (decide (a2≠a2)) then
 some (1:Int)
 else
 bif (decide (a1<a2)) then
 some (-1:Int)
 else
 bif (decide (a1 > a2)) then
 some (1:Int)
 else
 some (0:Int)
noncomputable def afT:List (Nat×CE):=[(116,TB)]
theorem VD:cu Tryz.prog afT:=⟨KI,trivial⟩
noncomputable def acs:CE:=⟨[(.tmp 0 false [dI]),(.tmp 1 false [dI])],[(.tmp 0 false [dI])],cmp_Compare_int⟩
theorem TD:ay Tryz.prog 36 acs :=nH afS dF VD Tryz.func36
def acu:List (Nat×PL):=[]
noncomputable def jX:(Int×Int)->Option Int:=fun (a1,a2) =>
 bif (decide (a1≠a1)) then
 bif (decide (a2≠a2)) then
 some (0:Int)
 else
 some (-1:Int)
 else
 bif (decide (a2≠a2)) then
 some (1:Int)
 else
 bif (decide (a1<a2)) then
 some (-1:Int)
 else
 bif (decide (a1 > a2)) then
 some (1:Int)
 else
 some (0:Int)
noncomputable def acv:List (Nat×CE):=[(36,acs)]
theorem Qz:cu Tryz.prog acv:=⟨TD,trivial⟩
noncomputable def adT:CE:=⟨[(.tmp 0 false [dI]),(.tmp 1 false [dI])],[(.tmp 0 false [dI])],jX⟩
theorem ZG:ay Tryz.prog 120 adT :=nH acu dF Qz Tryz.func120
def acw:List (Nat×PL):=[]
noncomputable def jM:((Int×(Int×(Int×(Bool×(Int×LN)))))×(Int×(Int×(Int×(Bool×(Int×LN))))))->Option Int:=fun ((a1,(a2,(a3,(a4,(a5,a6))))),(a7,(a8,(a9,(a10,(a11,a12)))))) =>
 ah (cmp_Compare_int (a1,a7)) fun x13 =>
 bif (decide (x13≠0)) then
 some x13
 else
 ah (jX (a2,a8)) fun x14 =>
 some x14
noncomputable def acy:List (Nat×CE):=[(36,acs),(120,adT)]
theorem QA:cu Tryz.prog acy:=⟨TD,ZG,trivial⟩
noncomputable def TF:CE:=⟨[(.tmp 0 true [dI,dI,dI,dO,fP,dY]),(.tmp 1 true [dI,dI,dI,dO,fP,dY])],[(.tmp 0 false [dI])],jM⟩
theorem KJ:ay Tryz.prog 103 TF :=nH acw dF QA Tryz.func103
def acz:List (Nat×PL):=[]
noncomputable def jy:Int->Option Int:=fun a1 =>
 some (Int.fdiv a1 (8:Int))
noncomputable def acA:List (Nat×CE):=[(103,TF)]
theorem QB:cu Tryz.prog acA:=⟨KJ,trivial⟩
noncomputable def TG:CE:=⟨[(.tmp 0 false [dI])],[(.tmp 0 false [dI])],jy⟩
theorem KL:ay Tryz.prog 108 TG :=nH acz dF QB Tryz.func108
def afU:List (Nat×PL):=[]
noncomputable def ji:((Int×(Int×(Int×(Bool×(Int×(Int×(Int×(Int×(Int×(Int×((List (Int×(Int×(Int×(Bool×(Int×LN))))))×(Int×(Int×Int)))))))))))))×Int)->Option Int:=fun ((a1,(a2,(a3,(a4,(a5,(a6,(a7,(a8,(a9,(a10,(a11,(a12,(a13,a14))))))))))))),a15) =>
 ah (jy (IntKind.wrap .i64 (a15-a6))) fun x17 =>
 some (IntKind.wrap .i64 (a5+x17))
noncomputable def afV:List (Nat×CE):=[(108,TG)]
theorem VE:cu Tryz.prog afV:=⟨KL,trivial⟩
noncomputable def acB:CE:=⟨[(.tmp 0 true [dI,dI,dI,dO,dI,dI,dI,dI,dI,dI,(.dat (.list (.pair ak (.pair ak (.pair ak (.pair .bool (.pair aZ (.list aZ)))))))),dI,dI,dI]),(.tmp 1 false [dI])],[(.tmp 0 false [dI])],ji⟩
theorem TJ:ay Tryz.prog 77 acB :=nH afU dF VE Tryz.func77
def acC:List (Nat×PL):=[]
noncomputable def eP:(Int×(Int×(Bool×(Int×LN))))->Option (Int×(Int×(Bool×(Int×LN)))):=fun (a1,(a2,(a3,(a4,a5)))) =>
 bif (decide ((a5.length:Int) > 0)) then
 bif (decide ((0<=(a5.length:Int))/\(((a5.length:Int)<=(a5.length:Int))/\((((a5.length:Int)*(1:Int))<=140737488355328)/\((a5.length:Int)<=9223372036854775807))))) then
 bif (decide ((Int.toNat (a5.length:Int))<=(List.length (List.replicate (Int.toNat (a5.length:Int)) (0:Int))))) then
 bif (decide ((Int.toNat (a5.length:Int))<=(List.length (Gi (List.replicate (Int.toNat (a5.length:Int)) (0:Int)) 0 (List.take (Int.toNat (a5.length:Int)) a5))))) then
 some (a1,(a2,(a3,(a4,(List.take (Int.toNat (a5.length:Int)) (Gi (List.replicate (Int.toNat (a5.length:Int)) (0:Int)) 0 (List.take (Int.toNat (a5.length:Int)) a5)))))))
 else none
 else none
 else none
 else
 some (a1,(a2,(a3,(a4,([]:List Int)))))
noncomputable def acD:List (Nat×CE):=[(77,acB)]
theorem QC:cu Tryz.prog acD:=⟨TJ,trivial⟩
noncomputable def TK:CE:=⟨[(.tmp 0 true [dI,dI,dO,fP,dY])],[(.tmp 0 true [dI,dI,dO,fP,dY])],eP⟩
theorem KN:ay Tryz.prog 101 TK :=nH acC dF QC Tryz.func101
def acE:List (Nat×PL):=[(68853957121,(.carry [.mp 6])),(9241421688456087558,(.carry [.tmp 14 false [dI],.mp 6])),(166478653090017823607932723020169729,(.carry []))]
noncomputable def jo:(Int×(Int×(Int×(Bool×(Int×(Int×(Int×(Int×(Int×(Int×((List (Int×(Int×(Int×(Bool×(Int×LN))))))×(Int×(Int×Int)))))))))))))->Option Bool:=fun (a1,(a2,(a3,(a4,(a5,(a6,(a7,(a8,(a9,(a10,(a11,(a12,(a13,a14))))))))))))) =>
 bif (decide ((a11.length:Int) > 200)) then
 some false
 else
 au (bf (fun (v15,v16) =>
 bif (decide (v15<(a11.length:Int))) then
 bif (decide ((0<=v15)/\(v15<(a11.length:Int)))) then
 ah a11[v15.toNat]? fun x17 =>
 au (ah (jS (x17.2.1,(x17.2.2.1,(x17.2.2.2.1,(x17.2.2.2.2.1,x17.2.2.2.2.2))))) fun x18 =>
 bif (!x18) then
 aB (aB (aB (some false)))
 else
 bif (decide (x17.1<=a3)) then
 aB (aB (aB (some false)))
 else
 bif (decide (x17.1 > 562949953421312)) then
 aB (aB (aB (some false)))
 else
 bif (decide (x17.2.1 > a7)) then
 aB (aB (aB (some false)))
 else
 bif (decide (Membership.mem v16 x17.2.1)) then
 aB (aB (aB (some false)))
 else
 some (Sum.inl ())) fun _ =>
 bif (decide (v15 > 0)) then
 ah (some (IntKind.wrap .i64 (v15-(1:Int)))) fun x19 =>
 bif (decide ((0<=x19)/\(x19<(a11.length:Int)))) then
 ah a11[x19.toNat]? fun x20 =>
 ah (jM ((x20.1,(x20.2.1,(x20.2.2.1,(x20.2.2.2.1,(x20.2.2.2.2.1,x20.2.2.2.2.2))))),(x17.1,(x17.2.1,(x17.2.2.1,(x17.2.2.2.1,(x17.2.2.2.2.1,x17.2.2.2.2.2))))))) fun x21 =>
 bif (decide (x21 > 0)) then
 aB (aB (some false))
 else
 some (Sum.inl ((IntKind.wrap .i64 (v15+(1:Int))),(uq v16 x17.2.1)))
 else none
 else
 some (Sum.inl ((IntKind.wrap .i64 (v15+(1:Int))),(uq v16 x17.2.1)))
 else none
 else
 aB (some (Sum.inl v16))) ((0:Int),([]:List Int))) fun v24 =>
 some true
noncomputable def acF:List (Nat×CE):=[(116,TB),(103,TF),(101,TK)]
theorem QD:cu Tryz.prog acF:=⟨KI,KJ,KN,trivial⟩
noncomputable def adU:CE:=⟨[(.tmp 0 true [dI,dI,dI,dO,dI,dI,dI,dI,dI,dI,(.dat (.list (.pair ak (.pair ak (.pair ak (.pair .bool (.pair aZ (.list aZ)))))))),dI,dI,dI])],[(.tmp 0 false [dO])],jo⟩
theorem ZH:ay Tryz.prog 107 adU :=nH acE dF QD Tryz.func107
def afW:List (Nat×PL):=[(262657,(.carry [.tmp 3 false [dO]])),(68853957121,(.carry [])),(9241421688456087558,(.carry [.tmp 90 false [dI]])),(35253226045953,(.carry []))]
noncomputable def iG:(Int×(Int×(Int×(Bool×(Int×(Int×(Int×(Int×(Int×(Int×((List (Int×(Int×(Int×(Bool×(Int×LN))))))×(Int×(Int×Int)))))))))))))->Option Bool:=fun (a1,(a2,(a3,(a4,(a5,(a6,(a7,(a8,(a9,(a10,(a11,(a12,(a13,a14))))))))))))) =>
 au (bif (decide (a3>=0)) then
 bif (decide (a3<=281474976710656)) then
 bif (decide (a5>=(-1125899906842624:Int))) then
 bif (decide (a5<=1125899906842624)) then
 bif (decide (a10>=(-1125899906842624:Int))) then
 bif (decide (a10<=1125899906842624)) then
 bif (decide (a6>=(-281474976710656:Int))) then
 bif (decide (a6<=281474976710656)) then
 bif (decide (a7>=(-1:Int))) then
 bif (decide (a7<=281474976710656)) then
 bif (decide (a8>=(-1:Int))) then
 bif (decide (a8<=281474976710656)) then
 bif (decide (a9>=0)) then
 some (Sum.inl (decide (a9<=72057594037927936)))
 else
 some (Sum.inl false)
 else
 some (Sum.inl false)
 else
 some (Sum.inl false)
 else
 some (Sum.inl false)
 else
 some (Sum.inl false)
 else
 some (Sum.inl false)
 else
 some (Sum.inl false)
 else
 some (Sum.inl false)
 else
 some (Sum.inl false)
 else
 some (Sum.inl false)
 else
 some (Sum.inl false)
 else
 some (Sum.inl false)
 else
 some (Sum.inl false)) fun v15 =>
 bif (!v15) then
 some false
 else
 ah (aF (a1,a2)) fun x16 =>
 bif (!x16) then
 some false
 else
 au (bf (fun v17 =>
 bif (decide (v17<3)) then
 bif (decide ((0<=v17)/\(v17<3))) then
 ah (a12::(a13::(a14::([]:List Int))))[v17.toNat]? fun x18 =>
 bif (decide (x18<0)) then
 aB (aB (some false))
 else
 bif (decide (x18 > 281474976710656)) then
 aB (aB (some false))
 else
 some (Sum.inl (IntKind.wrap .i64 (v17+(1:Int))))
 else none
 else
 aB (some (Sum.inl ()))) (0:Int)) fun _ =>
 au (bif (!a4) then
 bif (decide ((a11.length:Int) > 0)) then
 aB (some false)
 else
 bif (decide (a7≠(-1:Int))) then
 aB (some false)
 else
 bif (decide (a8≠(-1:Int))) then
 aB (some false)
 else
 some (Sum.inl ())
 else
 some (Sum.inl ())) fun _ =>
 ah (jo (a1,(a2,(a3,(a4,(a5,(a6,(a7,(a8,(a9,(a10,(a11,(a12,(a13,a14)))))))))))))) fun x20 =>
 some x20
noncomputable def afX:List (Nat×CE):=[(61,VB),(107,adU)]
theorem VF:cu Tryz.prog afX:=⟨Jm,ZH,trivial⟩
noncomputable def ZI:CE:=⟨[(.tmp 0 true [dI,dI,dI,dO,dI,dI,dI,dI,dI,dI,(.dat (.list (.pair ak (.pair ak (.pair ak (.pair .bool (.pair aZ (.list aZ)))))))),dI,dI,dI])],[(.tmp 0 false [dO])],iG⟩
theorem NP:ay Tryz.prog 76 ZI :=nH afW dF VF Tryz.func76
def afY:List (Nat×PL):=[(262657,(.carry []))]
noncomputable def jO:((Int×(Int×(Int×(Bool×(Int×(Int×(Int×(Int×(Int×(Int×((List (Int×(Int×(Int×(Bool×(Int×LN))))))×(Int×(Int×Int)))))))))))))×Int)->Option Int:=fun ((a1,(a2,(a3,(a4,(a5,(a6,(a7,(a8,(a9,(a10,(a11,(a12,(a13,a14))))))))))))),a15) =>
 au (ah (iG (a1,(a2,(a3,(a4,(a5,(a6,(a7,(a8,(a9,(a10,(a11,(a12,(a13,a14)))))))))))))) fun x16 =>
 bif (!x16) then
 aB (some (0:Int))
 else
 bif (decide (a15<(-281474976710656:Int))) then
 aB (some (0:Int))
 else
 bif (decide (a15 > 281474976710656)) then
 aB (some (0:Int))
 else
 some (Sum.inl ())) fun _ =>
 ah (ji ((a1,(a2,(a3,(a4,(a5,(a6,(a7,(a8,(a9,(a10,(a11,(a12,(a13,a14))))))))))))),a15)) fun x17 =>
 some x17
noncomputable def afZ:List (Nat×CE):=[(77,acB),(76,ZI)]
theorem VG:cu Tryz.prog afZ:=⟨TJ,NP,trivial⟩
noncomputable def af0:CE:=⟨[(.tmp 0 true [dI,dI,dI,dO,dI,dI,dI,dI,dI,dI,(.dat (.list (.pair ak (.pair ak (.pair ak (.pair .bool (.pair aZ (.list aZ)))))))),dI,dI,dI]),(.tmp 1 false [dI])],[(.tmp 0 false [dI])],jO⟩
theorem ZJ:ay Tryz.prog 41 af0 :=nH afY dF VG Tryz.func41
def af2:List (Nat×PL):=[]
noncomputable def kW:((Int×(Int×(Int×(Bool×(Int×(Int×(Int×(Int×(Int×(Int×((List (Int×(Int×(Int×(Bool×(Int×LN))))))×(Int×(Int×Int)))))))))))))×(Int×(Int×(Int×(Bool×(Int×LN))))))->Option Int:=fun ((a1,(a2,(a3,(a4,(a5,(a6,(a7,(a8,(a9,(a10,(a11,(a12,(a13,a14))))))))))))),(a15,(a16,(a17,(a18,(a19,a20)))))) =>
 ah (iG (a1,(a2,(a3,(a4,(a5,(a6,(a7,(a8,(a9,(a10,(a11,(a12,(a13,a14)))))))))))))) fun x21 =>
 bif (!x21) then
 some (2:Int)
 else
 bif (decide (a15 > 281474976710656)) then
 some (2:Int)
 else
 ah (jS (a16,(a17,(a18,(a19,a20))))) fun x22 =>
 bif (!x22) then
 some (2:Int)
 else
 bif (decide (a15<a3)) then
 some (9:Int)
 else
 some (0:Int)
noncomputable def af4:List (Nat×CE):=[(116,TB),(76,ZI),(41,af0)]
theorem VH:cu Tryz.prog af4:=⟨KI,NP,ZJ,trivial⟩
noncomputable def acG:CE:=⟨[(.tmp 0 true [dI,dI,dI,dO,dI,dI,dI,dI,dI,dI,(.dat (.list (.pair ak (.pair ak (.pair ak (.pair .bool (.pair aZ (.list aZ)))))))),dI,dI,dI]),(.tmp 1 false [dI]),(.tmp 2 true [dI,dI,dO,fP,dY])],[(.tmp 0 false [fP])],kW⟩
theorem TL:ay Tryz.prog 96 acG :=nH af2 dF VH Tryz.func96
def acH:List (Nat×PL):=[(134480385,(.carry [.tmp 3 false [(.own 10000002 188 (.pair ak (.pair ak (.pair ak (.pair .bool (.pair aZ (.list aZ)))))))]])),(18049651601311750,(.carry [.tmp 8 false [dI],.tmp 3 false [(.own 10000001 188 (.pair ak (.pair ak (.pair ak (.pair .bool (.pair aZ (.list aZ)))))))]]))]
noncomputable def fK:(List (Int×(Int×(Int×(Bool×(Int×LN))))))->Option (List (Int×(Int×(Int×(Bool×(Int×LN)))))):=fun a1 =>
 au (bf (fun (v2,v3) =>
 bif (decide (v2<(a1.length:Int))) then
 bif (decide ((0<=v2)/\(v2<(a1.length:Int)))) then
 ah a1[v2.toNat]? fun x4 =>
 ah (eP (x4.2.1,(x4.2.2.1,(x4.2.2.2.1,(x4.2.2.2.2.1,x4.2.2.2.2.2))))) fun (x6,(x7,(x8,(x9,x10)))) =>
 bif (decide (v3.length<=v3.length)) then
 bif (decide (((List.length ((v3.take v3.length)++((x4.1,(x6,(x7,(x8,(x9,x10)))))::([]:List (Int×(Int×(Int×(Bool×(Int×LN)))))))))*56)<=140737488355328)) then
 ah (some ((v3.take v3.length)++((x4.1,(x6,(x7,(x8,(x9,x10)))))::([]:List (Int×(Int×(Int×(Bool×(Int×LN))))))))) fun x11 =>
 bif (decide (x11.length<=x11.length)) then
 some (Sum.inl ((IntKind.wrap .i64 (v2+(1:Int))),(x11.take x11.length)))
 else none
 else none
 else none
 else none
 else
 aB (bif (decide (v3.length<=v3.length)) then
 some (Sum.inl (v3.take v3.length))
 else none)) ((0:Int),([]:List (Int×(Int×(Int×(Bool×(Int×LN)))))))) fun v13 =>
 bif (decide (v13.length<=v13.length)) then
 some (v13.take v13.length)
 else none
noncomputable def acI:List (Nat×CE):=[(101,TK),(96,acG)]
theorem QE:cu Tryz.prog acI:=⟨KN,TL,trivial⟩
noncomputable def adV:CE:=⟨[(.tmp 0 false [(.dat (.list (.pair ak (.pair ak (.pair ak (.pair .bool (.pair aZ (.list aZ))))))))])],[(.tmp 0 false [(.dat (.list (.pair ak (.pair ak (.pair ak (.pair .bool (.pair aZ (.list aZ))))))))])],fK⟩
theorem ZK:ay Tryz.prog 119 adV :=nH acH dF QE Tryz.func119
def af5:List (Nat×PL):=[(134479891,(.carry [.tmp 0 false [dI]])),(35253096546817,(.carry [])),(134480385,(.carry [.tmp 6 false [dI]])),(4731590523478289418246,(.carry [.tmp 8 false [dI]])),(9241421688590303745,(.carry [.mix 0 [dI,dI,dI,dO,dI,dI,dI,dI,dI,dI,(.dat (.list (.pair ak (.pair ak (.pair ak (.pair .bool (.pair aZ (.list aZ)))))))),dI,dI,dI]])),(1240362622532514091349837830,(.carry [.tmp 38 false [dI],.mix 0 [dI,dI,dI,dO,dI,dI,dI,dI,dI,dI,(.dat (.list (.pair ak (.pair ak (.pair ak (.pair .bool (.pair aZ (.list aZ)))))))),dI,dI,dI]]))]
noncomputable def qQ:((Int×(Int×(Int×(Bool×(Int×(Int×(Int×(Int×(Int×(Int×((List (Int×(Int×(Int×(Bool×(Int×LN))))))×(Int×(Int×Int)))))))))))))×Int)->Option ((Int×(Int×(Int×(Bool×(Int×(Int×(Int×(Int×(Int×(Int×((List (Int×(Int×(Int×(Bool×(Int×LN))))))×(Int×(Int×Int)))))))))))))×(List (Int×(Int×(Int×(Bool×(Int×LN))))))):=fun ((a1,(a2,(a3,(a4,(a5,(a6,(a7,(a8,(a9,(a10,(a11,(a12,(a13,a14))))))))))))),a15) =>
 au (au (bf (fun v16 =>
 bif (decide (v16<(a11.length:Int))) then
 bif (decide ((0<=v16)/\(v16<(a11.length:Int)))) then
 ah a11[v16.toNat]? fun x17 =>
 bif (decide (x17.1 > a15)) then
 aB (aB (some (Sum.inl v16)))
 else
 some (Sum.inl (IntKind.wrap .i64 (v16+(1:Int))))
 else none
 else
 aB (some (Sum.inl ()))) (0:Int)) fun _ =>
 some (Sum.inl (-1:Int))) fun v19 =>
 au (bif (decide (v19<0)) then
 some (Sum.inl (a11.length:Int))
 else
 some (Sum.inl v19)) fun v20 =>
 bif ((decide ((0<=v20)/\(v20<=(a11.length:Int))))&&(decide ((0<=v20)/\(v20<=((v20.toNat:Nat):Int))))) then
 ah (fK (List.take v20.toNat a11)) fun x22 =>
 bif (decide ((0<=v20)/\(v20<=(a11.length:Int)))) then
 ah (fK (List.drop v20.toNat a11)) fun x24 =>
 au (bf (fun (v26,(v27,(v28,(v29,(v30,(v31,(v32,(v33,(v34,(v35,(v36,(v37,(v38,(v39,v40)))))))))))))) =>
 bif (decide (v26<(x22.length:Int))) then
 bif (decide ((0<=v26)/\(v26<(x22.length:Int)))) then
 ah x22[v26.toNat]? fun x41 =>
 some (Sum.inl ((IntKind.wrap .i64 (v26+(1:Int))),(v27,(v28,(v29,(v30,(v31,(v32,(v33,((bD v34 x41.2.1),(v35,(v36,(v37,(v38,(v39,v40)))))))))))))))
 else none
 else
 aB (some (Sum.inl (v27,(v28,(v29,(v30,(v31,(v32,(v33,(v34,(v35,(v36,(v37,(v38,(v39,v40)))))))))))))))) ((0:Int),(a1,(a2,(a3,(a4,(a5,(a6,(a7,(a8,(a9,(a10,(x24,(a12,(a13,(IntKind.wrap .i64 (a14+v20))))))))))))))))) fun (v43,(v44,(v45,(v46,(v47,(v48,(v49,(v50,(v51,(v52,(v53,(v54,(v55,v56))))))))))))) =>
 some ((v43,(v44,(a15,(v46,(v47,(v48,(v49,(v50,(v51,(v52,(v53,(v54,(v55,v56))))))))))))),x22)
 else none
 else none
noncomputable def af6:List (Nat×CE):=[(119,adV)]
theorem VJ:cu Tryz.prog af6:=⟨ZK,trivial⟩
noncomputable def ajr:CE:=⟨[(.tmp 0 true [dI,dI,dI,dO,dI,dI,dI,dI,dI,dI,(.dat (.list (.pair ak (.pair ak (.pair ak (.pair .bool (.pair aZ (.list aZ)))))))),dI,dI,dI]),(.tmp 1 false [dI])],[(.tmp 0 true [dI,dI,dI,dO,dI,dI,dI,dI,dI,dI,(.dat (.list (.pair ak (.pair ak (.pair ak (.pair .bool (.pair aZ (.list aZ)))))))),dI,dI,dI]),(.tmp 1 false [(.dat (.list (.pair ak (.pair ak (.pair ak (.pair .bool (.pair aZ (.list aZ))))))))])],qQ⟩
theorem adW:ay Tryz.prog 97 ajr :=nH af5 dF VJ Tryz.func97
def af7:List (Nat×PL):=[]
noncomputable def qR:((Int×(Int×(Int×(Bool×(Int×(Int×(Int×(Int×(Int×(Int×((List (Int×(Int×(Int×(Bool×(Int×LN))))))×(Int×(Int×Int)))))))))))))×Int)->Option ((Int×(Int×(Int×(Bool×(Int×(Int×(Int×(Int×(Int×(Int×((List (Int×(Int×(Int×(Bool×(Int×LN))))))×(Int×(Int×Int)))))))))))))×((List (Int×(Int×(Int×(Bool×(Int×LN))))))×Int)):=fun ((a1,(a2,(a3,(a4,(a5,(a6,(a7,(a8,(a9,(a10,(a11,(a12,(a13,a14))))))))))))),a15) =>
 ah (kW ((a1,(a2,(a3,(a4,(a5,(a6,(a7,(a8,(a9,(a10,(a11,(a12,(a13,a14))))))))))))),(a15,((0:Int),((0:Int),(false,((0:Int),([]:List Int)))))))) fun x16 =>
 bif (decide (x16≠0)) then
 some (((0:Int),((0:Int),((0:Int),(false,((0:Int),((0:Int),((0:Int),((0:Int),((0:Int),((0:Int),(([]:List (Int×(Int×(Int×(Bool×(Int×LN)))))),((0:Int),((0:Int),(0:Int)))))))))))))),(([]:List (Int×(Int×(Int×(Bool×(Int×LN)))))),x16))
 else
 ah (qQ ((a1,(a2,(a3,(a4,(a5,(a6,(a7,(a8,(a9,(a10,(a11,(a12,(a13,a14))))))))))))),a15)) fun ((x18,(x19,(x20,(x21,(x22,(x23,(x24,(x25,(x26,(x27,(x28,(x29,(x30,x31))))))))))))),x32) =>
 some ((x18,(x19,(x20,(x21,(x22,(x23,(x24,(x25,(x26,(x27,(x28,(x29,(x30,x31))))))))))))),(x32,(0:Int)))
noncomputable def af8:List (Nat×CE):=[(96,acG),(97,ajr)]
theorem VK:cu Tryz.prog af8:=⟨TL,adW,trivial⟩
noncomputable def af9:CE:=⟨[(.tmp 0 true [dI,dI,dI,dO,dI,dI,dI,dI,dI,dI,(.dat (.list (.pair ak (.pair ak (.pair ak (.pair .bool (.pair aZ (.list aZ)))))))),dI,dI,dI]),(.tmp 1 false [dI])],[(.tmp 0 true [dI,dI,dI,dO,dI,dI,dI,dI,dI,dI,(.dat (.list (.pair ak (.pair ak (.pair ak (.pair .bool (.pair aZ (.list aZ)))))))),dI,dI,dI]),(.tmp 1 false [(.dat (.list (.pair ak (.pair ak (.pair ak (.pair .bool (.pair aZ (.list aZ))))))))]),(.tmp 2 false [fP])],qR⟩
theorem ZL:ay Tryz.prog 89 af9 :=nH af7 dF VK Tryz.func89
def acJ:List (Nat×PL):=[(134480385,(.carry [.mix 0 [dI,dI,dI,dO,dI,dI,dI,dI,dI,dI,(.dat (.list (.pair ak (.pair ak (.pair ak (.pair .bool (.pair aZ (.list aZ)))))))),dI,dI,dI]])),(18049651735527425,(.carry [.tmp 49 false [dO]]))]
noncomputable def xK:((Int×(Int×(Int×(Bool×(Int×(Int×(Int×(Int×(Int×(Int×((List (Int×(Int×(Int×(Bool×(Int×LN))))))×(Int×(Int×Int)))))))))))))×(Int×(Int×(Bool×(Int×LN)))))->Option (Int×(Int×(Int×(Bool×(Int×(Int×(Int×(Int×(Int×(Int×((List (Int×(Int×(Int×(Bool×(Int×LN))))))×(Int×(Int×Int))))))))))))):=fun ((a1,(a2,(a3,(a4,(a5,(a6,(a7,(a8,(a9,(a10,(a11,(a12,(a13,a14))))))))))))),(a15,(a16,(a17,(a18,a19))))) =>
 ah (jy a16) fun x20 =>
 ah (some (IntKind.wrap .i64 (a3-x20))) fun x21 =>
 au (bif a4 then
 ah (some (IntKind.wrap .i64 (x21-a10))) fun x22 =>
 bif (decide (x22<0)) then
 some (Sum.inl (a1,(a2,(a3,(a4,(a5,(a6,(a7,(a8,((IntKind.wrap .i64 (a9+(IntKind.wrap .i64 ((IntKind.wrap .i64 ((0:Int)-x22))-(IntKind.wrap .i64 (Int.tdiv (IntKind.wrap .i64 (a9+(8:Int))) (16:Int))))))),(a10,(a11,(a12,(a13,a14))))))))))))))
 else
 some (Sum.inl (a1,(a2,(a3,(a4,(a5,(a6,(a7,(a8,((IntKind.wrap .i64 (a9+(IntKind.wrap .i64 (x22-(IntKind.wrap .i64 (Int.tdiv (IntKind.wrap .i64 (a9+(8:Int))) (16:Int))))))),(a10,(a11,(a12,(a13,a14))))))))))))))
 else
 some (Sum.inl (a1,(a2,(a3,(a4,(a5,(a6,(a7,(a8,(a9,(a10,(a11,(a12,(a13,a14))))))))))))))) fun (v32,(v33,(v34,(v35,(v36,(v37,(v38,(v39,(v40,(v41,(v42,(v43,(v44,v45))))))))))))) =>
 au (bif (!v35) then
 some (Sum.inl true)
 else
 bif a17 then
 some (Sum.inl (decide (a15 > v38)))
 else
 some (Sum.inl false)) fun v46 =>
 bif v46 then
 ah (some (IntKind.wrap .i64 (v34+(fA (IntKind.wrap .i64 (v32+(IntKind.wrap .i64 (Int.tdiv v40 (4:Int))))) v33)))) fun x49 =>
 bif (decide ((v42.length:Int) > 0)) then
 ah (some (IntKind.wrap .i64 ((v42.length:Int)-(1:Int)))) fun x50 =>
 bif (decide ((0<=x50)/\(x50<(v42.length:Int)))) then
 ah v42[x50.toNat]? fun x51 =>
 some (v32,(v33,(v34,(true,((bD x49 (IntKind.wrap .i64 (x51.1+(1:Int)))),(a16,((bD v38 a15),(v39,(v40,(x21,(v42,(v43,(v44,v45)))))))))))))
 else none
 else
 some (v32,(v33,(v34,(true,(x49,(a16,((bD v38 a15),(v39,(v40,(x21,(v42,(v43,(v44,v45)))))))))))))
 else
 some (v32,(v33,(v34,(true,(v36,(v37,((bD v38 a15),(v39,(v40,(x21,(v42,(v43,(v44,v45)))))))))))))
noncomputable def acK:List (Nat×CE):=[(108,TG),(89,af9)]
theorem QF:cu Tryz.prog acK:=⟨KL,ZL,trivial⟩
noncomputable def ajs:CE:=⟨[(.tmp 0 true [dI,dI,dI,dO,dI,dI,dI,dI,dI,dI,(.dat (.list (.pair ak (.pair ak (.pair ak (.pair .bool (.pair aZ (.list aZ)))))))),dI,dI,dI]),(.tmp 1 true [dI,dI,dO,fP,dY])],[(.tmp 0 true [dI,dI,dI,dO,dI,dI,dI,dI,dI,dI,(.dat (.list (.pair ak (.pair ak (.pair ak (.pair .bool (.pair aZ (.list aZ)))))))),dI,dI,dI])],xK⟩
theorem aga:ay Tryz.prog 100 ajs :=nH acJ dF QF Tryz.func100
end Go.Proofs.YtigfeinnobfflaaGreat
