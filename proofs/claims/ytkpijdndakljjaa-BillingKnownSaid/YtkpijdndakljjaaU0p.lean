import Derived.Test.YtkpijdndakljjaaXBp
import Derived.Test.YtkpijdndakljjaaHBp
import Derived.Test.YtkpijdndakljjaaProg
set_option linter.unusedSimpArgs false
set_option linter.unusedVariables false
/- Short words for trees. -/
namespace Go.Proofs.Ytkpijdndakljjaa
open Go.RowKit
abbrev lI {α : Type} (l : List α) : Int := ((l.length : Nat) : Int)
abbrev iR {α : Type} (v : Int) (l : List α) : Bool := decide (((0 : Int) ≤ v) ∧ (v < lI l))
abbrev lE {α : Type} (l : List α) : Bool := decide (l.length ≤ l.length)
abbrev lQ {α β : Type} (a : List α) (b : List β) : Bool := decide (a.length = b.length)
abbrev rO {α : Type} (l : List α) (k : Nat) : Bool := decide ((l.length * k) ≤ 140737488355328)
abbrev tA {α : Type} (l : List α) : List α := List.take l.length l
abbrev wI (n : Int) : Int := Go.IntKind.wrap .i64 n
abbrev z0 : Int := 0
abbrev z1 : Int := 1
abbrev LU := List UInt8
abbrev LN := List Int
abbrev dI : CS := .dat (.int .i64)
abbrev dS : CS := .dat .str
abbrev dO : CS := .dat .bool
abbrev dY : CS := .dat (.list (.int .u8))
abbrev dE8 : CS := .dat (.int .u8)
abbrev uI6 : U := .int .i64
abbrev uI8 : U := .int .u8
end Go.Proofs.Ytkpijdndakljjaa

namespace Go.Proofs.Ytkpijdndakljjaa
open Go.RowKit
theorem bindO_some {α β:Type} (a:α) (f:α→Option β):bindO (some a) f=f a:=rfl
theorem bindO_none {α β:Type} (f:α→Option β):bindO none f=none:=rfl
theorem joinO_inl {α β:Type} (a:α) (f:α→Option β):joinO (some (.inl a)) f=f a:=rfl
theorem joinO_inr {α β:Type} (b:β) (f:α→Option β):joinO (some (.inr b)) f=some b:=rfl
theorem joinO_none {α β:Type} (f:α→Option β):joinO none f=none:=rfl
theorem outO_some {α β:Type} (b:β):(outO (some b):Option (α ⊕ β))=some (.inr b):=rfl
theorem outO_none {α β:Type}:(outO none:Option (α ⊕ β))=none:=rfl
theorem cond_ite {α:Type} (p:Prop) [Decidable p] (a b:α):(bif decide p then a else b)=if p then a else b:=by by_cases h:p<;>simp [h]
theorem cond_and {α:Type} (p q:Bool) (a b:α):(bif (p&&q) then a else b)=bif p then (bif q then a else b) else b:=by cases p<;>rfl
theorem cond_or {α:Type} (p q:Bool) (a b:α):(bif (p||q) then a else b)=bif p then a else (bif q then a else b):=by cases p<;>rfl
theorem cond_not {α:Type} (p:Bool) (a b:α):(bif (!p) then a else b)=bif p then b else a:=by cases p<;>rfl
theorem and_dec (p q:Prop) [Decidable p] [Decidable q]:(decide p&&decide q)=decide (p∧q):=by by_cases h:p<;>by_cases k:q<;>simp [h,k]
theorem bindO_ite {α β:Type} (p:Prop) [Decidable p] (a b:Option α) (f:α→Option β):bindO (if p then a else b) f=if p then bindO a f else bindO b f:=by split<;>rfl
theorem joinO_ite {α β:Type} (p:Prop) [Decidable p] (a b:Option (α ⊕ β)) (f:α→Option β):joinO (if p then a else b) f=if p then joinO a f else joinO b f:=by split<;>rfl
theorem outO_ite {α β:Type} (p:Prop) [Decidable p] (a b:Option β):(outO (if p then a else b):Option (α ⊕ β))=if p then outO a else outO b:=by split<;>rfl
theorem bindO_eq {α β:Type} {x:Option α} {f:α→Option β} {a:α} {r:Option β} (h:x=some a) (k:f a=r):bindO x f=r:=by rw [h];exact k
theorem joinO_eq {α β:Type} {x:Option (α ⊕ β)} {f:α→Option β} {a:α} {r:Option β} (h:x=some (.inl a)) (k:f a=r):joinO x f=r:=by rw [h];exact k
theorem get_nat {α:Type} {l:List α} {i:Nat} (h1:i<l.length):l[((i:Nat):Int).toNat]? = some l[i]:=by rw [Int.toNat_natCast];exact List.getElem?_eq_getElem h1
theorem loopO_steps {υ β:Type} {body:υ→Option (υ ⊕ β)} (st:Nat→υ):∀(n:Nat) {r:β},(∀i,i<n→body (st i)=some (.inl (st (i+1))))→body (st n)=some (.inr r)→loopO body (st 0)=some r:=by
 intro n r h he
 suffices hs:∀k,k≤n→loopO body (st (n-k))=some r by
  have:=hs n (Nat.le_refl n)
  rwa [Nat.sub_self] at this
 intro k
 induction k with
 | zero=>intro _;rw [Nat.sub_zero,loopO_eq,he]
 | succ k ih =>
   intro hk
   rw [loopO_eq,h (n-(k+1)) (by omega)]
   simp only
   rw [show n-(k+1)+1=n-k from by omega]
   exact ih (by omega)
theorem loopO_from {υ β:Type} {body:υ→Option (υ ⊕ β)} {x:υ} (st:Nat→υ) (n:Nat) {r:β} (h0:st 0=x) (h:∀i,i<n→body (st i)=some (.inl (st (i+1)))) (he:body (st n)=some (.inr r)):loopO body x=some r:=by
 rw [←h0];exact loopO_steps st n h he
theorem least {p:Nat→Prop} (h:∃n,p n):∃n,p n∧∀m,m<n→¬p m:=by
 obtain ⟨n,hn⟩:=h
 induction n using Nat.strongRecOn with
 | _ n ih =>
   by_cases hx:∃m,m<n∧p m
   ·obtain ⟨m,h1,h2⟩:=hx
    exact ih m h1 h2
   ·exact ⟨n,hn,fun m hm hp=>hx ⟨m,hm,hp⟩⟩
theorem loopO_search {υ β:Type} {body:υ→Option (υ ⊕ β)} (st:Nat→υ) (m:Nat) (bad:Nat→Prop) {r0 r1:β} {x:υ} (hx:st 0=x) (h1:∀i,i<m→¬bad i→body (st i)=some (.inl (st (i+1)))) (h2:∀i,i<m→bad i→body (st i)=some (.inr r1)) (h3:body (st m)=some (.inr r0)) :
 ((∃i,i<m∧bad i)∧loopO body x=some r1)∨((¬ ∃i,i<m∧bad i)∧loopO body x=some r0):=by
 by_cases h:∃i,i<m∧bad i
 ·left
  refine ⟨h,?_⟩
  obtain ⟨k,⟨k1,k2⟩,k3⟩:=least h
  exact loopO_from st k hx (fun i hi=>h1 i (by omega) fun hb=>k3 i hi ⟨by omega,hb⟩) (h2 k k1 k2)
 ·right
  exact ⟨h,loopO_from st m hx (fun i hi=>h1 i hi fun hb=>h ⟨i,hi,hb⟩) h3⟩
theorem get_D' {α:Type} {l:List α} {i:Nat} (d:α) (h1:i<l.length):l[i]? = some (l.getD i d):=by rw [List.getD_eq_getElem?_getD,List.getElem?_eq_getElem h1];rfl
theorem getD_get {α:Type} {l:List α} {i:Nat} (d:α) (h1:i<l.length):l.getD i d=l[i]:=by rw [List.getD_eq_getElem?_getD,List.getElem?_eq_getElem h1];rfl
def SimS {υ1 υ2 α β:Type} (R:υ1→υ2→Prop) (k:α→Option β) (o1:Option (υ1 ⊕ (α ⊕ β))) (o2:Option (υ2 ⊕ β)):Prop :=
 (∃x y,o1=some (.inl x)∧o2=some (.inl y)∧R x y)∨∃r s,o1=some (.inr r)∧o2=some (.inr s)∧joinO (some r) k=some s
section
variable {υ1 υ2 α β γ:Type} {R:υ1→υ2→Prop} {k:α→Option β} {o2:Option (υ2 ⊕ β)}
theorem SimS.next {x:υ1} {y:υ2} (h:R x y):SimS R k (some (.inl x)) (some (.inl y)) := .inl ⟨x,y,rfl,rfl,h⟩
theorem SimS.stop {r:α ⊕ β} {s:β} (h:joinO (some r) k=some s):SimS R k (some (.inr r)) (some (.inr s)) := .inr ⟨r,s,rfl,rfl,h⟩
theorem SimS.join {x:Option (γ ⊕ (υ1 ⊕ (α ⊕ β)))} {f:γ→Option (υ1 ⊕ (α ⊕ β))} (a:γ) (h:x=some (.inl a)) (hk:SimS R k (f a) o2):SimS R k (joinO x f) o2:=by rw [h];exact hk
theorem SimS.bind {x:Option γ} {f:γ→Option (υ1 ⊕ (α ⊕ β))} (a:γ) (h:x=some a) (hk:SimS R k (f a) o2):SimS R k (bindO x f) o2:=by rw [h];exact hk
end
theorem loopO_post {υ β:Type} {body:υ→Option (υ ⊕ β)} (I:υ→Prop) (Q:β→Prop) (μ:υ→Nat) (h:∀x,I x→(∃b,body x=some (.inr b)∧Q b)∨∃y,body x=some (.inl y)∧I y∧μ y<μ x) {x:υ} (hx:I x):∃r,loopO body x=some r∧Q r:=by
 suffices hs:∀n x,μ x≤n→I x→∃r,loopO body x=some r∧Q r from hs _ x (Nat.le_refl _) hx
 intro n
 induction n with
 | zero =>
   intro x hm hx
   rcases h x hx with ⟨b,h1,h2⟩ | ⟨y,h1,h2,h3⟩
   ·exact ⟨b,by rw [loopO_eq,h1],h2⟩
   ·omega
 | succ n ih =>
   intro x hm hx
   rcases h x hx with ⟨b,h1,h2⟩ | ⟨y,h1,h2,h3⟩
   ·exact ⟨b,by rw [loopO_eq,h1],h2⟩
   ·obtain ⟨r,hr,hq⟩:=ih y (by omega) h2
    exact ⟨r,by rw [loopO_eq,h1];exact hr,hq⟩
def PostS {υ β:Type} (I:υ→Prop) (Q:β→Prop) (μ:υ→Nat) (m:Nat) (o:Option (υ ⊕ β)):Prop:=(∃b,o=some (.inr b)∧Q b)∨∃y,o=some (.inl y)∧I y∧μ y<m
section
variable {υ β γ:Type} {I:υ→Prop} {Q:β→Prop} {μ:υ→Nat} {m:Nat}
theorem PostS.next {y:υ} (h:I y) (k:μ y<m):PostS I Q μ m (some (.inl y)) := .inr ⟨y,rfl,h,k⟩
theorem PostS.stop {b:β} (h:Q b):PostS I Q μ m (some (.inr b)) := .inl ⟨b,rfl,h⟩
theorem PostS.join {x:Option (γ ⊕ (υ ⊕ β))} {f:γ→Option (υ ⊕ β)} (a:γ) (h:x=some (.inl a)) (hk:PostS I Q μ m (f a)):PostS I Q μ m (joinO x f):=by rw [h];exact hk
theorem PostS.bind {x:Option γ} {f:γ→Option (υ ⊕ β)} (a:γ) (h:x=some a) (hk:PostS I Q μ m (f a)):PostS I Q μ m (bindO x f):=by rw [h];exact hk
theorem loopO_postG {α β:Type} {body:υ→Option (υ ⊕ (α ⊕ β))} {k:α→Option β} (I:υ→Prop) (μ:υ→Nat) (P:Option β→Prop) (h:∀x,I x→PostS I (fun r=>P (joinO (some r) k)) μ (μ x) (body x)) {x:υ} (hx:I x):P (joinO (loopO body x) k):=by
 obtain ⟨r,h1,h2⟩:=loopO_post I (fun r=>P (joinO (some r) k)) μ h hx
 rw [h1];exact h2
end
theorem wrap_i64' {n:Int} (h : -9223372036854775808≤n∧n≤9223372036854775807):IntKind.wrap .i64 n=n:=wrap_i64 h.1 h.2
theorem wr_u8 (n:Int):IntKind.wrap .u8 n=n % 256:=by
 show (if (false&&decide (n % 256≥128))=true then n % 256-256 else n % 256)=_
 simp
theorem wr_u32 (n:Int):IntKind.wrap .u32 n=n % 4294967296:=by
 show (if (false&&decide (n % 4294967296≥2147483648))=true then n % 4294967296-4294967296 else n % 4294967296)=_
 simp
theorem wr_u64 (n:Int):IntKind.wrap .u64 n=n % 18446744073709551616:=by
 show (if (false&&decide (n % 18446744073709551616≥9223372036854775808))=true then n % 18446744073709551616-18446744073709551616 else n % 18446744073709551616)=_
 simp
def Bytes (l:List Int):Prop:=∀x∈l,0≤x∧x≤255
theorem Bytes.app {a b:List Int} (h:Bytes a) (k:Bytes b):Bytes (a++b):=fun x hx=>by
 rcases List.mem_append.1 hx with e | e
 ·exact h x e
 ·exact k x e
theorem Bytes.take {l:List Int} (h:Bytes l) (n:Nat):Bytes (l.take n):=fun x hx=>h x (List.mem_of_mem_take hx)
theorem Bytes.drop {l:List Int} (h:Bytes l) (n:Nat):Bytes (l.drop n):=fun x hx=>h x (List.mem_of_mem_drop hx)
theorem Bytes.get {l:List Int} (h:Bytes l) {i:Nat} (hi:i<l.length):0≤l[i]∧l[i]≤255:=h _ (List.getElem_mem hi)
theorem Bytes.getD {l:List Int} (h:Bytes l) (i:Nat):0≤l.getD i 0∧l.getD i 0≤255:=by
 rw [List.getD_eq_getElem?_getD]
 cases hi:l[i]? with
 | none=>simp
 | some x=>exact h x (List.mem_of_getElem? hi)
end Go.Proofs.Ytkpijdndakljjaa

namespace Go.Proofs.Ytkpijdndakljjaa
open Go.RowKit
def loopF {υ β:Type} (body:υ→Option (υ ⊕ β)) (n:Nat):υ→Option β :=
 Nat.rec (motive:=fun _=>υ→Option β) (fun _=>none) (fun _ ih x=>match body x with | some (.inl y)=>ih y | some (.inr b)=>some b | none=>none) n
def LeO {β:Type} (x y:Option β):Prop:=∀r,x=some r→y=some r
theorem LeO.refl {β:Type} (x:Option β):LeO x x:=fun _ h=>h
theorem LeO.bind {α β:Type} {x y:Option α} {f g:α→Option β} (h:LeO x y) (k:∀a,LeO (f a) (g a)):LeO (bindO x f) (bindO y g):=by
 intro r hr
 cases hx:x with
 | none=>rw [hx] at hr;cases hr
 | some a=>rw [hx] at hr;rw [h a hx];exact k a r hr
theorem LeO.join {α β:Type} {x y:Option (α ⊕ β)} {f g:α→Option β} (h:LeO x y) (k:∀a,LeO (f a) (g a)):LeO (joinO x f) (joinO y g):=by
 intro r hr
 cases hx:x with
 | none=>rw [hx] at hr;cases hr
 | some a =>
   rw [hx] at hr;rw [h a hx]
   cases a with
   | inl a=>exact k a r hr
   | inr a=>exact hr
theorem LeO.out {α β:Type} {x y:Option β} (h:LeO x y):LeO (outO x:Option (α ⊕ β)) (outO y):=by
 intro r hr
 cases hx:x with
 | none=>rw [hx] at hr;cases hr
 | some a=>rw [hx] at hr;rw [h a hx];exact hr
theorem LeO.cond {β:Type} {c:Bool} {x y x' y':Option β} (h:LeO x x') (k:LeO y y'):LeO (bif c then x else y) (bif c then x' else y'):=by
 cases c<;>assumption
theorem LeO.loop {υ β:Type} {f g:υ→Option (υ ⊕ β)} (n:Nat) (x:υ) (h:∀s,LeO (f s) (g s)):LeO (loopF f n x) (loopO g x):=by
 intro r hr
 suffices hs:∃(st:Nat→υ) (m:Nat),st 0=x∧(∀i,i<m→g (st i)=some (.inl (st (i+1))))∧g (st m)=some (.inr r) by
  obtain ⟨st,m,h0,h1,h2⟩:=hs
  exact loopO_from st m h0 h1 h2
 induction n generalizing x with
 | zero=>cases hr
 | succ n ih =>
   cases hf:f x with
   | none=>simp only [loopF,hf] at hr;cases hr
   | some a =>
     cases a with
     | inr b =>
       simp only [loopF,hf] at hr;cases hr
       exact ⟨fun _=>x,0,rfl,fun i hi=>absurd hi (by omega),h x _ hf⟩
     | inl y =>
       simp only [loopF,hf] at hr
       obtain ⟨st,m,h0,h1,h2⟩:=ih y hr
       refine ⟨fun i=>match i with | 0=>x | i+1=>st i,m+1,rfl,?_,h2⟩
       intro i hi
       cases i with
       | zero=>show g x=some (.inl (st 0));rw [h0];exact h x _ hf
       | succ i=>exact h1 i (by omega)
end Go.Proofs.Ytkpijdndakljjaa

namespace Go.Proofs.Ytkpijdndakljjaa
open Go.RowKit
def tyRows:List (List (Option TI)):=[
 [none,
 some ⟨1,8,.fn,[.val .nilFunc]⟩,
 some ⟨1,8,.int .i64,[.val (.int .i64 0)]⟩,
 some ⟨1,8,.int .i64,[.val (.int .i64 0)]⟩,
 some ⟨1,1,.bool,[.val (.bool false)]⟩,
 some ⟨1,1,.int .u8,[.val (.int .u8 0)]⟩,
 some ⟨1,1,.int .u8,[.val (.int .u8 0)]⟩,
 some ⟨4,24,.agg [(0,2),(1,3),(2,4),(3,6)],[.val (.int .i64 0),.val (.int .i64 0),.val (.bool false),.val (.int .u8 0)]⟩,
 some ⟨4,24,.agg [(0,2),(1,3),(2,4),(3,6)],[.val (.int .i64 0),.val (.int .i64 0),.val (.bool false),.val (.int .u8 0)]⟩,
 some ⟨1,16,.str,[.val (.string ⟨⟨[]⟩⟩)]⟩,
 some ⟨1,16,.str,[.val (.string ⟨⟨[]⟩⟩)]⟩,
 some ⟨1,16,.str,[.val (.string ⟨⟨[]⟩⟩)]⟩,
 some ⟨1,8,.int .u64,[.val (.int .u64 0)]⟩,
 some ⟨2,24,.agg [(0,9),(1,12)],[.val (.string ⟨⟨[]⟩⟩),.val (.int .u64 0)]⟩,
 some ⟨2,24,.agg [(0,9),(1,12)],[.val (.string ⟨⟨[]⟩⟩),.val (.int .u64 0)]⟩,
 some ⟨1,8,.ptr 181,[.val (.pointer none)]⟩],
 [some ⟨1,8,.ptr 184,[.val (.pointer none)]⟩,
 some ⟨1,8,.ptr 193,[.val (.pointer none)]⟩,
 some ⟨1,8,.agg [(0,17)],[.val (.pointer none)]⟩,
 some ⟨1,8,.agg [(0,17)],[.val (.pointer none)]⟩,
 some ⟨1,16,.iface,[.val .nilIface]⟩,
 some ⟨1,4,.int .i32,[.val (.int .i32 0)]⟩,
 some ⟨1,24,.slice 5,[.val (.slice none 0 0)]⟩,
 some ⟨3,40,.agg [(0,22),(1,3),(2,3)],[.val (.slice none 0 0),.val (.int .i64 0),.val (.int .i64 0)]⟩,
 some ⟨3,40,.agg [(0,22),(1,3),(2,3)],[.val (.slice none 0 0),.val (.int .i64 0),.val (.int .i64 0)]⟩,
 some ⟨1,24,.slice 29,[.val (.slice none 0 0)]⟩,
 some ⟨6,80,.agg [(0,24),(3,25),(4,3),(5,3)],[.val (.slice none 0 0),.val (.int .i64 0),.val (.int .i64 0),.val (.slice none 0 0),.val (.int .i64 0),.val (.int .i64 0)]⟩,
 some ⟨6,80,.agg [(0,24),(3,25),(4,3),(5,3)],[.val (.slice none 0 0),.val (.int .i64 0),.val (.int .i64 0),.val (.slice none 0 0),.val (.int .i64 0),.val (.int .i64 0)]⟩,
 some ⟨10,104,.agg [(0,9),(1,9),(2,9),(3,3),(4,3),(5,3),(6,3),(7,3),(8,2),(9,4)],[.val (.string ⟨⟨[]⟩⟩),.val (.string ⟨⟨[]⟩⟩),.val (.string ⟨⟨[]⟩⟩),.val (.int .i64 0),.val (.int .i64 0),.val (.int .i64 0),.val (.int .i64 0),.val (.int .i64 0),.val (.int .i64 0),.val (.bool false)]⟩,
 some ⟨10,104,.agg [(0,9),(1,9),(2,9),(3,3),(4,3),(5,3),(6,3),(7,3),(8,2),(9,4)],[.val (.string ⟨⟨[]⟩⟩),.val (.string ⟨⟨[]⟩⟩),.val (.string ⟨⟨[]⟩⟩),.val (.int .i64 0),.val (.int .i64 0),.val (.int .i64 0),.val (.int .i64 0),.val (.int .i64 0),.val (.int .i64 0),.val (.bool false)]⟩,
 some ⟨1,8,.fn,[.val .nilFunc]⟩,
 some ⟨1,8,.fn,[.val .nilFunc]⟩],
 [some ⟨1,1,.int .u8,[.val (.int .u8 0)]⟩,
 none,
 some ⟨1,8,.fn,[.val .nilFunc]⟩,
 some ⟨1,8,.fn,[.val .nilFunc]⟩,
 some ⟨1,8,.fn,[.val .nilFunc]⟩,
 some ⟨1,8,.fn,[.val .nilFunc]⟩,
 some ⟨1,24,.slice 106,[.val (.slice none 0 0)]⟩,
 some ⟨2,32,.agg [(0,38),(1,3)],[.val (.slice none 0 0),.val (.int .i64 0)]⟩,
 some ⟨2,32,.agg [(0,38),(1,3)],[.val (.slice none 0 0),.val (.int .i64 0)]⟩,
 some ⟨1,8,.fn,[.val .nilFunc]⟩,
 some ⟨1,8,.fn,[.val .nilFunc]⟩,
 some ⟨1,8,.fn,[.val .nilFunc]⟩,
 none,
 some ⟨1,8,.fn,[.val .nilFunc]⟩,
 some ⟨1,8,.fn,[.val .nilFunc]⟩,
 some ⟨1,8,.fn,[.val .nilFunc]⟩],
 [some ⟨1,8,.fn,[.val .nilFunc]⟩,
 some ⟨1,8,.fn,[.val .nilFunc]⟩,
 none,
 some ⟨1,8,.fn,[.val .nilFunc]⟩,
 some ⟨2,32,.agg [(0,5),(1,22)],[.val (.int .u8 0),.val (.slice none 0 0)]⟩,
 some ⟨2,32,.agg [(0,5),(1,22)],[.val (.int .u8 0),.val (.slice none 0 0)]⟩,
 some ⟨1,24,.slice 61,[.val (.slice none 0 0)]⟩,
 some ⟨1,2,.int .u16,[.val (.int .u16 0)]⟩,
 some ⟨1,8,.fn,[.val .nilFunc]⟩,
 some ⟨1,24,.slice 27,[.val (.slice none 0 0)]⟩,
 none,
 some ⟨1,8,.fn,[.val .nilFunc]⟩,
 some ⟨4,6,.agg [(0,5),(1,5),(2,55),(3,55)],[.val (.int .u8 0),.val (.int .u8 0),.val (.int .u16 0),.val (.int .u16 0)]⟩,
 some ⟨4,6,.agg [(0,5),(1,5),(2,55),(3,55)],[.val (.int .u8 0),.val (.int .u8 0),.val (.int .u16 0),.val (.int .u16 0)]⟩,
 some ⟨1,8,.fn,[.val .nilFunc]⟩,
 some ⟨1,24,.slice 53,[.val (.slice none 0 0)]⟩],
 [none,
 some ⟨1,8,.fn,[.val .nilFunc]⟩,
 some ⟨1,8,.fn,[.val .nilFunc]⟩,
 some ⟨1,8,.fn,[.val .nilFunc]⟩,
 some ⟨1,24,.agg [(0,25)],[.val (.slice none 0 0)]⟩,
 some ⟨1,24,.agg [(0,25)],[.val (.slice none 0 0)]⟩,
 some ⟨1,8,.fn,[.val .nilFunc]⟩,
 some ⟨1,8,.fn,[.val .nilFunc]⟩,
 some ⟨1,8,.fn,[.val .nilFunc]⟩,
 some ⟨1,8,.fn,[.val .nilFunc]⟩,
 some ⟨1,8,.fn,[.val .nilFunc]⟩,
 some ⟨1,8,.fn,[.val .nilFunc]⟩,
 some ⟨1,8,.fn,[.val .nilFunc]⟩,
 none,
 some ⟨1,8,.fn,[.val .nilFunc]⟩,
 some ⟨1,8,.fn,[.val .nilFunc]⟩],
 [some ⟨1,8,.fn,[.val .nilFunc]⟩,
 some ⟨1,8,.fn,[.val .nilFunc]⟩,
 some ⟨1,24,.slice 2,[.val (.slice none 0 0)]⟩,
 some ⟨1,8,.fn,[.val .nilFunc]⟩,
 some ⟨1,8,.fn,[.val .nilFunc]⟩,
 some ⟨1,8,.fn,[.val .nilFunc]⟩,
 some ⟨1,8,.fn,[.val .nilFunc]⟩,
 some ⟨1,8,.fn,[.val .nilFunc]⟩,
 some ⟨1,8,.fn,[.val .nilFunc]⟩,
 some ⟨1,8,.fn,[.val .nilFunc]⟩,
 some ⟨8,88,.agg [(0,5),(1,3),(2,3),(3,3),(4,2),(5,9),(6,9),(7,9)],[.val (.int .u8 0),.val (.int .i64 0),.val (.int .i64 0),.val (.int .i64 0),.val (.int .i64 0),.val (.string ⟨⟨[]⟩⟩),.val (.string ⟨⟨[]⟩⟩),.val (.string ⟨⟨[]⟩⟩)]⟩,
 some ⟨8,88,.agg [(0,5),(1,3),(2,3),(3,3),(4,2),(5,9),(6,9),(7,9)],[.val (.int .u8 0),.val (.int .i64 0),.val (.int .i64 0),.val (.int .i64 0),.val (.int .i64 0),.val (.string ⟨⟨[]⟩⟩),.val (.string ⟨⟨[]⟩⟩),.val (.string ⟨⟨[]⟩⟩)]⟩,
 some ⟨1,8,.fn,[.val .nilFunc]⟩,
 some ⟨1,8,.fn,[.val .nilFunc]⟩,
 some ⟨1,8,.fn,[.val .nilFunc]⟩,
 some ⟨1,8,.fn,[.val .nilFunc]⟩],
 [some ⟨1,8,.fn,[.val .nilFunc]⟩,
 some ⟨1,8,.fn,[.val .nilFunc]⟩,
 some ⟨1,8,.fn,[.val .nilFunc]⟩,
 some ⟨1,8,.fn,[.val .nilFunc]⟩,
 some ⟨3,24,.agg [(0,5),(1,3),(2,3)],[.val (.int .u8 0),.val (.int .i64 0),.val (.int .i64 0)]⟩,
 some ⟨3,24,.agg [(0,5),(1,3),(2,3)],[.val (.int .u8 0),.val (.int .i64 0),.val (.int .i64 0)]⟩,
 some ⟨5,40,.agg [(0,101),(3,2),(4,2)],[.val (.int .u8 0),.val (.int .i64 0),.val (.int .i64 0),.val (.int .i64 0),.val (.int .i64 0)]⟩,
 some ⟨5,40,.agg [(0,101),(3,2),(4,2)],[.val (.int .u8 0),.val (.int .i64 0),.val (.int .i64 0),.val (.int .i64 0),.val (.int .i64 0)]⟩,
 some ⟨1,24,.slice 103,[.val (.slice none 0 0)]⟩,
 some ⟨5,64,.agg [(0,9),(1,2),(2,3),(3,3),(4,104)],[.val (.string ⟨⟨[]⟩⟩),.val (.int .i64 0),.val (.int .i64 0),.val (.int .i64 0),.val (.slice none 0 0)]⟩,
 some ⟨5,64,.agg [(0,9),(1,2),(2,3),(3,3),(4,104)],[.val (.string ⟨⟨[]⟩⟩),.val (.int .i64 0),.val (.int .i64 0),.val (.int .i64 0),.val (.slice none 0 0)]⟩,
 none,
 some ⟨1,8,.fn,[.val .nilFunc]⟩,
 some ⟨1,8,.ptr 111,[.val (.pointer none)]⟩,
 some ⟨4,64,.agg [(0,25),(1,25),(2,3),(3,3)],[.val (.slice none 0 0),.val (.slice none 0 0),.val (.int .i64 0),.val (.int .i64 0)]⟩,
 some ⟨4,64,.agg [(0,25),(1,25),(2,3),(3,3)],[.val (.slice none 0 0),.val (.slice none 0 0),.val (.int .i64 0),.val (.int .i64 0)]⟩],
 [some ⟨1,8,.fn,[.val .nilFunc]⟩,
 some ⟨1,8,.fn,[.val .nilFunc]⟩,
 none,
 some ⟨1,8,.fn,[.val .nilFunc]⟩,
 some ⟨1,8,.fn,[.val .nilFunc]⟩,
 some ⟨2,32,.agg [(0,22),(1,3)],[.val (.slice none 0 0),.val (.int .i64 0)]⟩,
 some ⟨2,32,.agg [(0,22),(1,3)],[.val (.slice none 0 0),.val (.int .i64 0)]⟩,
 none,
 some ⟨1,8,.fn,[.val .nilFunc]⟩,
 some ⟨1,8,.fn,[.val .nilFunc]⟩,
 none,
 some ⟨1,8,.fn,[.val .nilFunc]⟩,
 some ⟨1,8,.ptr 69,[.val (.pointer none)]⟩,
 some ⟨1,8,.fn,[.val .nilFunc]⟩,
 some ⟨1,8,.fn,[.val .nilFunc]⟩,
 some ⟨1,24,.slice 9,[.val (.slice none 0 0)]⟩],
 [some ⟨1,8,.int .u64,[.val (.int .u64 0)]⟩,
 some ⟨1,8,.int .u64,[.val (.int .u64 0)]⟩,
 some ⟨1,8,.fn,[.val .nilFunc]⟩,
 some ⟨1,8,.fn,[.val .nilFunc]⟩,
 some ⟨1,8,.fn,[.val .nilFunc]⟩,
 some ⟨1,8,.map 9 4,[.val (.map none)]⟩,
 some ⟨1,8,.fn,[.val .nilFunc]⟩,
 some ⟨1,8,.fn,[.val .nilFunc]⟩,
 some ⟨1,8,.fn,[.val .nilFunc]⟩,
 some ⟨1,8,.ptr 139,[.val (.pointer none)]⟩,
 some ⟨2,32,.agg [(0,22),(1,4)],[.val (.slice none 0 0),.val (.bool false)]⟩,
 some ⟨2,32,.agg [(0,22),(1,4)],[.val (.slice none 0 0),.val (.bool false)]⟩,
 some ⟨1,8,.fn,[.val .nilFunc]⟩,
 some ⟨1,8,.fn,[.val .nilFunc]⟩,
 some ⟨1,8,.fn,[.val .nilFunc]⟩,
 some ⟨1,8,.fn,[.val .nilFunc]⟩],
 [some ⟨1,8,.fn,[.val .nilFunc]⟩,
 some ⟨1,8,.fn,[.val .nilFunc]⟩,
 some ⟨1,24,.slice 25,[.val (.slice none 0 0)]⟩,
 some ⟨1,8,.fn,[.val .nilFunc]⟩,
 some ⟨1,8,.fn,[.val .nilFunc]⟩,
 some ⟨1,8,.fn,[.val .nilFunc]⟩,
 some ⟨1,4,.int .u32,[.val (.int .u32 0)]⟩,
 some ⟨1,8,.fn,[.val .nilFunc]⟩,
 some ⟨2,16,.agg [(0,150),(1,3)],[.val (.int .u32 0),.val (.int .i64 0)]⟩,
 some ⟨2,16,.agg [(0,150),(1,3)],[.val (.int .u32 0),.val (.int .i64 0)]⟩,
 some ⟨1,8,.ptr 118,[.val (.pointer none)]⟩,
 some ⟨1,8,.fn,[.val .nilFunc]⟩,
 some ⟨1,8,.fn,[.val .nilFunc]⟩,
 some ⟨1,8,.fn,[.val .nilFunc]⟩,
 some ⟨1,8,.fn,[.val .nilFunc]⟩,
 some ⟨1,8,.fn,[.val .nilFunc]⟩],
 [some ⟨1,8,.fn,[.val .nilFunc]⟩,
 some ⟨1,8,.fn,[.val .nilFunc]⟩,
 some ⟨1,8,.fn,[.val .nilFunc]⟩,
 some ⟨1,8,.fn,[.val .nilFunc]⟩,
 some ⟨1,8,.fn,[.val .nilFunc]⟩,
 some ⟨1,8,.fn,[.val .nilFunc]⟩,
 some ⟨1,8,.fn,[.val .nilFunc]⟩,
 some ⟨1,8,.fn,[.val .nilFunc]⟩,
 some ⟨1,8,.fn,[.val .nilFunc]⟩,
 some ⟨1,8,.fn,[.val .nilFunc]⟩,
 some ⟨1,8,.fn,[.val .nilFunc]⟩,
 some ⟨1,8,.fn,[.val .nilFunc]⟩,
 some ⟨1,24,.slice 153,[.val (.slice none 0 0)]⟩,
 some ⟨1,8,.fn,[.val .nilFunc]⟩,
 some ⟨1,8,.fn,[.val .nilFunc]⟩,
 some ⟨1,8,.fn,[.val .nilFunc]⟩],
 [some ⟨1,8,.fn,[.val .nilFunc]⟩,
 some ⟨1,8,.fn,[.val .nilFunc]⟩,
 some ⟨1,8,.fn,[.val .nilFunc]⟩,
 some ⟨1,8,.fn,[.val .nilFunc]⟩,
 some ⟨4,40,.agg [(0,17),(1,17),(2,17),(3,9)],[.val (.pointer none),.val (.pointer none),.val (.pointer none),.val (.string ⟨⟨[]⟩⟩)]⟩,
 some ⟨4,40,.agg [(0,17),(1,17),(2,17),(3,9)],[.val (.pointer none),.val (.pointer none),.val (.pointer none),.val (.string ⟨⟨[]⟩⟩)]⟩,
 some ⟨0,0,.arr 0 16,[]⟩,
 some ⟨0,0,.agg [(0,182)],[]⟩,
 some ⟨0,0,.agg [(0,182)],[]⟩,
 some ⟨1,8,.fn,[.val .nilFunc]⟩,
 some ⟨1,1,.int .u8,[.val (.int .u8 0)]⟩,
 some ⟨1,1,.int .u8,[.val (.int .u8 0)]⟩,
 some ⟨1,8,.fn,[.val .nilFunc]⟩,
 some ⟨1,8,.ptr 5,[.val (.pointer none)]⟩,
 some ⟨1,4,.int .i32,[.val (.int .i32 0)]⟩,
 some ⟨1,4,.int .i32,[.val (.int .i32 0)]⟩],
 [some ⟨11,48,.agg [(0,12),(1,12),(2,150),(3,186),(4,5),(5,5),(6,187),(7,188),(8,189),(9,190),(10,191)],[.val (.int .u64 0),.val (.int .u64 0),.val (.int .u32 0),.val (.int .u8 0),.val (.int .u8 0),.val (.int .u8 0),.val (.int .u8 0),.val .nilFunc,.val (.pointer none),.val (.int .i32 0),.val (.int .i32 0)]⟩,
 some ⟨11,48,.agg [(0,12),(1,12),(2,150),(3,186),(4,5),(5,5),(6,187),(7,188),(8,189),(9,190),(10,191)],[.val (.int .u64 0),.val (.int .u64 0),.val (.int .u32 0),.val (.int .u8 0),.val (.int .u8 0),.val (.int .u8 0),.val (.int .u8 0),.val .nilFunc,.val (.pointer none),.val (.int .i32 0),.val (.int .i32 0)]⟩,
 some ⟨1,8,.other,[.val (.pointer none)]⟩,
 none,
 none,
 none,
 none,
 none,
 none,
 none,
 none,
 none,
 none,
 none,
 none,
 none]
 ]
def cmpTypes:List Nat:=[7,8,28,29,60,61,90,91,100,101,102,103,152,153]
theorem KK:Facts Try.prog tyRows cmpTypes:=facts_of (by kernel_rfl) (by kernel_rfl) (by kernel_rfl) (by kernel_rfl)
end Go.Proofs.Ytkpijdndakljjaa

set_option maxRecDepth 100000
namespace Go.Proofs.Ytkpijdndakljjaa
open Go.RowKit
noncomputable def tabL:List (Nat×Func):=[(3,Try.f3),(4,Try.f4),(5,Try.f5),(6,Try.f6),(7,Try.f7),(8,Try.f8),(9,Try.f9),(10,Try.f10),(11,Try.f11),(12,Try.f12),(13,Try.f13),(14,Try.f14),(15,Try.f15),(16,Try.f16),(17,Try.f17),(18,Try.f18),(19,Try.f19),(20,Try.f20),(21,Try.f21),(22,Try.f22),(23,Try.f23),(24,Try.f24),(25,Try.f25),(26,Try.f26),(27,Try.f27),(28,Try.f28),(29,Try.f29),(30,Try.f30),(31,Try.f31),(32,Try.f32),(33,Try.f33),(34,Try.f34),(35,Try.f35),(36,Try.f36),(37,Try.f37),(38,Try.f38),(39,Try.f39),(40,Try.f40),(41,Try.f41),(42,Try.f42),(43,Try.f43),(44,Try.f44),(45,Try.f45),(46,Try.f46),(47,Try.f47),(48,Try.f48),(49,Try.f49),(50,Try.f50),(51,Try.f51),(52,Try.f52),(53,Try.f53),(54,Try.f54),(55,Try.f55),(56,Try.f56),(57,Try.f57),(58,Try.f58),(59,Try.f59),(60,Try.f60),(61,Try.f61),(62,Try.f62),(63,Try.f63),(64,Try.f64),(65,Try.f65),(66,Try.f66),(67,Try.f67),(68,Try.f68),(69,Try.f69),(70,Try.f70),(71,Try.f71),(72,Try.f72),(73,Try.f73),(74,Try.f74),(75,Try.f75),(76,Try.f76),(77,Try.f77),(78,Try.f78),(79,Try.f79),(81,Try.f81),(82,Try.f82),(83,Try.f83),(84,Try.f84),(85,Try.f85),(86,Try.f86),(87,Try.f87),(88,Try.f88),(89,Try.f89),(90,Try.f90),(91,Try.f91),(92,Try.f92),(93,Try.f93),(94,Try.f94),(95,Try.f95),(96,Try.f96),(97,Try.f97),(98,Try.f98),(99,Try.f99),(100,Try.f100),(101,Try.f101),(102,Try.f102),(103,Try.f103),(104,Try.f104),(105,Try.f105),(106,Try.f106),(107,Try.f107),(108,Try.f108),(109,Try.f109),(110,Try.f110),(111,Try.f111),(112,Try.f112),(113,Try.f113),(114,Try.f114),(115,Try.f115),(116,Try.f116),(117,Try.f117),(118,Try.f118),(119,Try.f119),(120,Try.f120),(121,Try.f121),(122,Try.f122),(123,Try.f123),(124,Try.f124),(125,Try.f125),(126,Try.f126),(127,Try.f127),(128,Try.f128),(129,Try.f129),(130,Try.f130),(131,Try.f131),(132,Try.f132),(133,Try.f133),(134,Try.f134),(135,Try.f135)]
theorem tabL_ok:TabOk Try.prog tabL:=⟨Try.func3,by kernel_rfl,Try.func4,by kernel_rfl,Try.func5,by kernel_rfl,Try.func6,by kernel_rfl,Try.func7,by kernel_rfl,Try.func8,by kernel_rfl,Try.func9,by kernel_rfl,Try.func10,by kernel_rfl,Try.func11,by kernel_rfl,Try.func12,by kernel_rfl,Try.func13,by kernel_rfl,Try.func14,by kernel_rfl,Try.func15,by kernel_rfl,Try.func16,by kernel_rfl,Try.func17,by kernel_rfl,Try.func18,by kernel_rfl,Try.func19,by kernel_rfl,Try.func20,by kernel_rfl,Try.func21,by kernel_rfl,Try.func22,by kernel_rfl,Try.func23,by kernel_rfl,Try.func24,by kernel_rfl,Try.func25,by kernel_rfl,Try.func26,by kernel_rfl,Try.func27,by kernel_rfl,Try.func28,by kernel_rfl,Try.func29,by kernel_rfl,Try.func30,by kernel_rfl,Try.func31,by kernel_rfl,Try.func32,by kernel_rfl,Try.func33,by kernel_rfl,Try.func34,by kernel_rfl,Try.func35,by kernel_rfl,Try.func36,by kernel_rfl,Try.func37,by kernel_rfl,Try.func38,by kernel_rfl,Try.func39,by kernel_rfl,Try.func40,by kernel_rfl,Try.func41,by kernel_rfl,Try.func42,by kernel_rfl,Try.func43,by kernel_rfl,Try.func44,by kernel_rfl,Try.func45,by kernel_rfl,Try.func46,by kernel_rfl,Try.func47,by kernel_rfl,Try.func48,by kernel_rfl,Try.func49,by kernel_rfl,Try.func50,by kernel_rfl,Try.func51,by kernel_rfl,Try.func52,by kernel_rfl,Try.func53,by kernel_rfl,Try.func54,by kernel_rfl,Try.func55,by kernel_rfl,Try.func56,by kernel_rfl,Try.func57,by kernel_rfl,Try.func58,by kernel_rfl,Try.func59,by kernel_rfl,Try.func60,by kernel_rfl,Try.func61,by kernel_rfl,Try.func62,by kernel_rfl,Try.func63,by kernel_rfl,Try.func64,by kernel_rfl,Try.func65,by kernel_rfl,Try.func66,by kernel_rfl,Try.func67,by kernel_rfl,Try.func68,by kernel_rfl,Try.func69,by kernel_rfl,Try.func70,by kernel_rfl,Try.func71,by kernel_rfl,Try.func72,by kernel_rfl,Try.func73,by kernel_rfl,Try.func74,by kernel_rfl,Try.func75,by kernel_rfl,Try.func76,by kernel_rfl,Try.func77,by kernel_rfl,Try.func78,by kernel_rfl,Try.func79,by kernel_rfl,Try.func81,by kernel_rfl,Try.func82,by kernel_rfl,Try.func83,by kernel_rfl,Try.func84,by kernel_rfl,Try.func85,by kernel_rfl,Try.func86,by kernel_rfl,Try.func87,by kernel_rfl,Try.func88,by kernel_rfl,Try.func89,by kernel_rfl,Try.func90,by kernel_rfl,Try.func91,by kernel_rfl,Try.func92,by kernel_rfl,Try.func93,by kernel_rfl,Try.func94,by kernel_rfl,Try.func95,by kernel_rfl,Try.func96,by kernel_rfl,Try.func97,by kernel_rfl,Try.func98,by kernel_rfl,Try.func99,by kernel_rfl,Try.func100,by kernel_rfl,Try.func101,by kernel_rfl,Try.func102,by kernel_rfl,Try.func103,by kernel_rfl,Try.func104,by kernel_rfl,Try.func105,by kernel_rfl,Try.func106,by kernel_rfl,Try.func107,by kernel_rfl,Try.func108,by kernel_rfl,Try.func109,by kernel_rfl,Try.func110,by kernel_rfl,Try.func111,by kernel_rfl,Try.func112,by kernel_rfl,Try.func113,by kernel_rfl,Try.func114,by kernel_rfl,Try.func115,by kernel_rfl,Try.func116,by kernel_rfl,Try.func117,by kernel_rfl,Try.func118,by kernel_rfl,Try.func119,by kernel_rfl,Try.func120,by kernel_rfl,Try.func121,by kernel_rfl,Try.func122,by kernel_rfl,Try.func123,by kernel_rfl,Try.func124,by kernel_rfl,Try.func125,by kernel_rfl,Try.func126,by kernel_rfl,Try.func127,by kernel_rfl,Try.func128,by kernel_rfl,Try.func129,by kernel_rfl,Try.func130,by kernel_rfl,Try.func131,by kernel_rfl,Try.func132,by kernel_rfl,Try.func133,by kernel_rfl,Try.func134,by kernel_rfl,Try.func135,by kernel_rfl,trivial⟩
end Go.Proofs.Ytkpijdndakljjaa

set_option maxRecDepth 1000000
set_option maxHeartbeats 0
namespace Go.Proofs.Ytkpijdndakljjaa
open Go.RowKit
def plan118:List (Nat×PL):=[]
noncomputable def dialtoneref37_Band:(Int×(Int×Int))→Option Bool:=fun (a1,(a2,a3)) =>
 bif (decide (a1≥(1:Int))) then
 bif (decide (a1≤(127:Int))) then
 bif (decide ((0:Int)≤a2)) then
 bif (decide (a2<a3)) then
 some (decide (a3≤(1440:Int)))
 else
 some Bool.false
 else
 some Bool.false
 else
 some Bool.false
 else
 some Bool.false
noncomputable def cons118:List (Nat×CE):=[]
theorem cons118_ok:ConL Try.prog cons118:=trivial
theorem con118:ConOk Try.prog 118 ⟨[(.tmp 0 true [dE8,dI,dI])],[(.tmp 0 false [dO])],dialtoneref37_Band⟩ :=
 tree_ok (plan:=planOf plan118) (eg:=egNo) KK tabL_ok (conOf_ok cons118_ok) Try.func118 (by kernel_rfl) (by kernel_rfl) 10000 (fun a r h=>Eq.trans (show _=dialtoneref37_Band a from by kernel_rfl) h)
def plan117:List (Nat×PL):=[]
noncomputable def dialtoneref37_money:Int→Option Bool:=fun a1 =>
 bif (decide (a1≥(0:Int))) then
 some (decide (a1≤(1000000000:Int)))
 else
 some Bool.false
noncomputable def cons117:List (Nat×CE):=(118,⟨[(.tmp 0 true [dE8,dI,dI])],[(.tmp 0 false [dO])],dialtoneref37_Band⟩)::cons118
theorem cons117_ok:ConL Try.prog cons117:=⟨con118,cons118_ok⟩
theorem con117:ConOk Try.prog 117 ⟨[(.tmp 0 false [dI])],[(.tmp 0 false [dO])],dialtoneref37_money⟩ :=
 tree_ok (plan:=planOf plan117) (eg:=egNo) KK tabL_ok (conOf_ok cons117_ok) Try.func117 (by kernel_rfl) (by kernel_rfl) 10000 (fun a r h=>Eq.trans (show _=dialtoneref37_money a from by kernel_rfl) h)
def plan89:List (Nat×PL):=[(262657,(.carry [])),(134480385,(.carry [])),(18049651601311750,(.carry [.tmp 3 false [dI]])),(35253226045953,(.carry [])),(4731607904558101301254,(.carry [.tmp 4 false [dI]]))]
noncomputable def dialtoneref37_Rate:(LU×(Int×(Int×(Int×(List ((Int×(Int×Int))×(Int×Int)))))))→Option Bool:=fun (a1,(a2,(a3,(a4,a5)))) =>
 joinO (bif (decide ((((List.length a1):Nat):Int) > (20:Int))) then
 outO (some Bool.false)
 else
 bindO (dialtoneref37_money a2) fun x6 =>
 bif (!x6) then
 outO (some Bool.false)
 else
 bif (decide (a3<(1:Int))) then
 outO (some Bool.false)
 else
 bif (decide (a3 > (3600:Int))) then
 outO (some Bool.false)
 else
 bif (decide (a4<(1:Int))) then
 outO (some Bool.false)
 else
 bif (decide (a4 > (3600:Int))) then
 outO (some Bool.false)
 else
 some (Sum.inl ())) fun _ =>
 joinO (loopO (fun v7 =>
 bif (decide (v7<(((List.length a1):Nat):Int))) then
 bif (decide (((0:Int)≤v7)∧(v7<(((List.length a1):Nat):Int)))) then
 bif (decide ((((UInt8.toNat (List.getD a1 (Int.toNat v7) (0:UInt8))):Nat):Int)<(48:Int))) then
 outO (outO (some Bool.false))
 else
 bif (decide (((0:Int)≤v7)∧(v7<(((List.length a1):Nat):Int)))) then
 bif (decide ((((UInt8.toNat (List.getD a1 (Int.toNat v7) (0:UInt8))):Nat):Int) > (57:Int))) then
 outO (outO (some Bool.false))
 else
 some (Sum.inl (Go.IntKind.wrap .i64 (v7+(1:Int))))
 else none
 else none
 else
 outO (some (Sum.inl ()))) (0:Int)) fun _ =>
 bif (decide ((((List.length a5):Nat):Int)<(1:Int))) then
 some Bool.false
 else
 bif (decide ((((List.length a5):Nat):Int) > (20:Int))) then
 some Bool.false
 else
 joinO (loopO (fun v9 =>
 bif (decide (v9<(((List.length a5):Nat):Int))) then
 bif (decide (((0:Int)≤v9)∧(v9<(((List.length a5):Nat):Int)))) then
 bindO a5[(Int.toNat v9)]? fun x10 =>
 bindO (dialtoneref37_Band (x10.1.1,(x10.1.2.1,x10.1.2.2))) fun x11 =>
 bif (!x11) then
 outO (outO (some Bool.false))
 else
 bindO (dialtoneref37_money x10.2.1) fun x12 =>
 bif (!x12) then
 outO (outO (some Bool.false))
 else
 bindO (dialtoneref37_money x10.2.2) fun x13 =>
 bif (!x13) then
 outO (outO (some Bool.false))
 else
 some (Sum.inl (Go.IntKind.wrap .i64 (v9+(1:Int))))
 else none
 else
 outO (some (Sum.inl ()))) (0:Int)) fun _ =>
 bindO (some (Go.IntKind.wrap .i64 ((((List.length a5):Nat):Int)-(1:Int)))) fun x15 =>
 bif (decide (((0:Int)≤x15)∧(x15<(((List.length a5):Nat):Int)))) then
 bindO a5[(Int.toNat x15)]? fun x16 =>
 bif (decide (x16.1.1=(127:Int))) then
 bif (decide (x16.1.2.1=(0:Int))) then
 some (decide (x16.1.2.2=(1440:Int)))
 else
 some Bool.false
 else
 some Bool.false
 else none
noncomputable def cons89:List (Nat×CE):=(117,⟨[(.tmp 0 false [dI])],[(.tmp 0 false [dO])],dialtoneref37_money⟩)::cons117
theorem cons89_ok:ConL Try.prog cons89:=⟨con117,cons117_ok⟩
theorem con89:ConOk Try.prog 89 ⟨[(.tmp 0 true [dS,dI,dI,dI,(.dat (.list (.pair (.pair uI8 (.pair uI6 uI6)) (.pair uI6 uI6))))])],[(.tmp 0 false [dO])],dialtoneref37_Rate⟩ :=
 tree_ok (plan:=planOf plan89) (eg:=egNo) KK tabL_ok (conOf_ok cons89_ok) Try.func89 (by kernel_rfl) (by kernel_rfl) 10000 (fun a r h=>Eq.trans (show _=dialtoneref37_Rate a from by kernel_rfl) h)
def plan63:List (Nat×PL):=[(262657,(.carry [])),(134480385,(.carry [])),(18049651601311750,(.carry [.tmp 3 false [dI]])),(4731607869374267392513,(.carry [.tmp 4 false [dI]])),(166478651854509821417867418488014854,(.carry [.tmp 4 false [dI]]))]
noncomputable def dialtoneref37_Valid:((List (LU×(Int×(Int×(Int×(List ((Int×(Int×Int))×(Int×Int))))))))×Int)→Option Bool:=fun (a1,a2) =>
 joinO (bif (decide ((((List.length a1):Nat):Int) > (1000:Int))) then
 outO (some Bool.false)
 else
 bif (decide (a2<(0:Int))) then
 outO (some Bool.false)
 else
 bif (decide (a2 > (3600:Int))) then
 outO (some Bool.false)
 else
 some (Sum.inl ())) fun _ =>
 joinO (loopO (fun v3 =>
 bif (decide (v3<(((List.length a1):Nat):Int))) then
 joinO (bif (decide (((0:Int)≤v3)∧(v3<(((List.length a1):Nat):Int)))) then
 bindO a1[(Int.toNat v3)]? fun x4 =>
 bindO (dialtoneref37_Rate (x4.1,(x4.2.1,(x4.2.2.1,(x4.2.2.2.1,x4.2.2.2.2))))) fun x5 =>
 bif (!x5) then
 outO (outO (outO (some Bool.false)))
 else
 loopO (fun v6 =>
 bif (decide (v6<v3)) then
 bif (decide (((0:Int)≤v6)∧(v6<(((List.length a1):Nat):Int)))) then
 bindO a1[(Int.toNat v6)]? fun x7 =>
 bif (decide (((0:Int)≤v3)∧(v3<(((List.length a1):Nat):Int)))) then
 bindO a1[(Int.toNat v3)]? fun x8 =>
 bif (decide (x7.1=x8.1)) then
 outO (outO (outO (outO (some Bool.false))))
 else
 some (Sum.inl (Go.IntKind.wrap .i64 (v6+(1:Int))))
 else none
 else none
 else
 outO (some (Sum.inl v6))) (0:Int)
 else none) fun v10 =>
 some (Sum.inl (Go.IntKind.wrap .i64 (v3+(1:Int))))
 else
 outO (some (Sum.inl ()))) (0:Int)) fun _ =>
 some Bool.true
noncomputable def cons63:List (Nat×CE):=(89,⟨[(.tmp 0 true [dS,dI,dI,dI,(.dat (.list (.pair (.pair uI8 (.pair uI6 uI6)) (.pair uI6 uI6))))])],[(.tmp 0 false [dO])],dialtoneref37_Rate⟩)::cons89
theorem cons63_ok:ConL Try.prog cons63:=⟨con89,cons89_ok⟩
theorem con63:ConOk Try.prog 63 ⟨[(.tmp 0 true [(.dat (.list (.pair .str (.pair uI6 (.pair uI6 (.pair uI6 (.list (.pair (.pair uI8 (.pair uI6 uI6)) (.pair uI6 uI6))))))))),dI])],[(.tmp 0 false [dO])],dialtoneref37_Valid⟩ :=
 tree_ok (plan:=planOf plan63) (eg:=egNo) KK tabL_ok (conOf_ok cons63_ok) Try.func63 (by kernel_rfl) (by kernel_rfl) 10000 (fun a r h=>Eq.trans (show _=dialtoneref37_Valid a from by kernel_rfl) h)
def plan132:List (Nat×PL):=[]
noncomputable def dialtoneref37_Begins:(LU×LU)→Option Bool:=fun (a1,a2) =>
 bif (decide ((((List.length a1):Nat):Int)≥(((List.length a2):Nat):Int))) then
 bif (decide (((0:Int)≤(((List.length a2):Nat):Int))∧((((List.length a2):Nat):Int)≤(((List.length a1):Nat):Int)))) then
 some (decide ((List.take (Int.toNat (((List.length a2):Nat):Int)) a1)=a2))
 else none
 else
 some Bool.false
noncomputable def cons132:List (Nat×CE):=(63,⟨[(.tmp 0 true [(.dat (.list (.pair .str (.pair uI6 (.pair uI6 (.pair uI6 (.list (.pair (.pair uI8 (.pair uI6 uI6)) (.pair uI6 uI6))))))))),dI])],[(.tmp 0 false [dO])],dialtoneref37_Valid⟩)::cons63
theorem cons132_ok:ConL Try.prog cons132:=⟨con63,cons63_ok⟩
theorem con132:ConOk Try.prog 132 ⟨[(.tmp 0 false [dS]),(.tmp 1 false [dS])],[(.tmp 0 false [dO])],dialtoneref37_Begins⟩ :=
 tree_ok (plan:=planOf plan132) (eg:=egNo) KK tabL_ok (conOf_ok cons132_ok) Try.func132 (by kernel_rfl) (by kernel_rfl) 10000 (fun a r h=>Eq.trans (show _=dialtoneref37_Begins a from by kernel_rfl) h)
def plan119:List (Nat×PL):=[(134480385,(.carry [])),(18049651601311750,(.carry [.tmp 6 false [dI]])),(4731607869374267392513,(.carry [.tmp 7 false [dI]])),(325153616903339494956772301735942,(.carry [.tmp 7 false [dI]]))]
noncomputable def dialtoneref37_Find:(((List (LU×(Int×(Int×(Int×(List ((Int×(Int×Int))×(Int×Int))))))))×Int)×LU)→Option (Int×Bool):=fun ((a1,a2),a3) =>
 bindO (dialtoneref37_Valid (a1,a2)) fun x4 =>
 bif (!x4) then
 some ((0:Int),Bool.false)
 else
 joinO (loopO (fun v5 =>
 bif (decide (v5≥(0:Int))) then
 joinO (loopO (fun v6 =>
 bif (decide (v6<(((List.length a1):Nat):Int))) then
 bif (decide (((0:Int)≤v6)∧(v6<(((List.length a1):Nat):Int)))) then
 bindO a1[(Int.toNat v6)]? fun x7 =>
 bif (decide ((((List.length x7.1):Nat):Int)=v5)) then
 bif (decide (((0:Int)≤v6)∧(v6<(((List.length a1):Nat):Int)))) then
 bindO a1[(Int.toNat v6)]? fun x8 =>
 bindO (dialtoneref37_Begins (a3,x8.1)) fun x9 =>
 bif x9 then
 outO (outO (outO (outO (some (v6,Bool.true)))))
 else
 some (Sum.inl (Go.IntKind.wrap .i64 (v6+(1:Int))))
 else none
 else
 some (Sum.inl (Go.IntKind.wrap .i64 (v6+(1:Int))))
 else none
 else
 outO (some (Sum.inl v6))) (0:Int)) fun v12 =>
 some (Sum.inl (Go.IntKind.wrap .i64 (v5-(1:Int))))
 else
 outO (some (Sum.inl ()))) (20:Int)) fun _ =>
 some ((0:Int),Bool.false)
noncomputable def cons119:List (Nat×CE):=(132,⟨[(.tmp 0 false [dS]),(.tmp 1 false [dS])],[(.tmp 0 false [dO])],dialtoneref37_Begins⟩)::cons132
theorem cons119_ok:ConL Try.prog cons119:=⟨con132,cons132_ok⟩
theorem con119:ConOk Try.prog 119 ⟨[(.tmp 0 true [(.dat (.list (.pair .str (.pair uI6 (.pair uI6 (.pair uI6 (.list (.pair (.pair uI8 (.pair uI6 uI6)) (.pair uI6 uI6))))))))),dI]),(.tmp 1 false [dS])],[(.tmp 0 false [dI]),(.tmp 1 false [dO])],dialtoneref37_Find⟩ :=
 tree_ok (plan:=planOf plan119) (eg:=egNo) KK tabL_ok (conOf_ok cons119_ok) Try.func119 (by kernel_rfl) (by kernel_rfl) 10000 (fun a r h=>Eq.trans (show _=dialtoneref37_Find a from by kernel_rfl) h)
def plan115:List (Nat×PL):=[]
noncomputable def dialtoneref37_Span:(Int×Int)→Option Bool:=fun (a1,a2) =>
 bif (decide (a1≥(0:Int))) then
 bif (decide (a2≥(0:Int))) then
 bif (decide (a1≤(281474976710656:Int))) then
 bif (decide (a2≤(281474976710656:Int))) then
 some (decide (a1≤a2))
 else
 some Bool.false
 else
 some Bool.false
 else
 some Bool.false
 else
 some Bool.false
noncomputable def cons115:List (Nat×CE):=(119,⟨[(.tmp 0 true [(.dat (.list (.pair .str (.pair uI6 (.pair uI6 (.pair uI6 (.list (.pair (.pair uI8 (.pair uI6 uI6)) (.pair uI6 uI6))))))))),dI]),(.tmp 1 false [dS])],[(.tmp 0 false [dI]),(.tmp 1 false [dO])],dialtoneref37_Find⟩)::cons119
theorem cons115_ok:ConL Try.prog cons115:=⟨con119,cons119_ok⟩
theorem con115:ConOk Try.prog 115 ⟨[(.tmp 0 false [dI]),(.tmp 1 false [dI])],[(.tmp 0 false [dO])],dialtoneref37_Span⟩ :=
 tree_ok (plan:=planOf plan115) (eg:=egNo) KK tabL_ok (conOf_ok cons115_ok) Try.func115 (by kernel_rfl) (by kernel_rfl) 10000 (fun a r h=>Eq.trans (show _=dialtoneref37_Span a from by kernel_rfl) h)
def plan85:List (Nat×PL):=[]
noncomputable def dialtoneref37_Seconds:(Int×Int)→Option Int:=fun (a1,a2) =>
 bindO (dialtoneref37_Span (a1,a2)) fun x3 =>
 bif (!x3) then
 some (0:Int)
 else
 bindO (some (Go.IntKind.wrap .i64 (Int.tdiv (Go.IntKind.wrap .i64 (a2-a1)) (1000:Int)))) fun x5 =>
 bif (decide ((Int.tmod (Go.IntKind.wrap .i64 (a2-a1)) (1000:Int)) > (0:Int))) then
 some (Go.IntKind.wrap .i64 (x5+(1:Int)))
 else
 some x5
noncomputable def cons85:List (Nat×CE):=(115,⟨[(.tmp 0 false [dI]),(.tmp 1 false [dI])],[(.tmp 0 false [dO])],dialtoneref37_Span⟩)::cons115
theorem cons85_ok:ConL Try.prog cons85:=⟨con115,cons115_ok⟩
theorem con85:ConOk Try.prog 85 ⟨[(.tmp 0 false [dI]),(.tmp 1 false [dI])],[(.tmp 0 false [dI])],dialtoneref37_Seconds⟩ :=
 tree_ok (plan:=planOf plan85) (eg:=egNo) KK tabL_ok (conOf_ok cons85_ok) Try.func85 (by kernel_rfl) (by kernel_rfl) 10000 (fun a r h=>Eq.trans (show _=dialtoneref37_Seconds a from by kernel_rfl) h)
def plan135:List (Nat×PL):=[(134480385,(.carry [.tmp 3 false [dI]])),(18049651601311750,(.carry [.tmp 4 false [dI],.tmp 3 false [dI]]))]
noncomputable def dialtoneref37_bit:Int→Option Int:=fun a1 =>
 joinO (loopO (fun (v2,v3) =>
 bif (decide (v2<a1)) then
 some (Sum.inl ((Go.IntKind.wrap .i64 (v2+(1:Int))),(Go.IntKind.wrap .i64 ((2:Int)*v3))))
 else
 outO (some (Sum.inl v3))) ((0:Int),(1:Int))) fun v6 =>
 some v6
noncomputable def cons135:List (Nat×CE):=(85,⟨[(.tmp 0 false [dI]),(.tmp 1 false [dI])],[(.tmp 0 false [dI])],dialtoneref37_Seconds⟩)::cons85
theorem cons135_ok:ConL Try.prog cons135:=⟨con85,cons85_ok⟩
theorem con135:ConOk Try.prog 135 ⟨[(.tmp 0 false [dI])],[(.tmp 0 false [dI])],dialtoneref37_bit⟩ :=
 tree_ok (plan:=planOf plan135) (eg:=egNo) KK tabL_ok (conOf_ok cons135_ok) Try.func135 (by kernel_rfl) (by kernel_rfl) 10000 (fun a r h=>Eq.trans (show _=dialtoneref37_bit a from by kernel_rfl) h)
def plan133:List (Nat×PL):=[]
noncomputable def dialtoneref37_Contains:((Int×(Int×Int))×Int)→Option Bool:=fun ((a1,(a2,a3)),a4) =>
 bindO (some (Int.tmod (Go.IntKind.wrap .i64 (Int.tdiv a4 (60000:Int))) (1440:Int))) fun x8 =>
 bindO (dialtoneref37_bit (Int.tmod (Go.IntKind.wrap .i64 (Int.tdiv a4 (86400000:Int))) (7:Int))) fun x10 =>
 bif (decide (x10≠(0:Int))) then
 bif (decide ((Int.tmod (Go.IntKind.wrap .i64 (Int.tdiv (Go.IntKind.wrap .i64 a1) x10)) (2:Int))=(1:Int))) then
 bif (decide (a2≤x8)) then
 some (decide (x8<a3))
 else
 some Bool.false
 else
 some Bool.false
 else none
noncomputable def cons133:List (Nat×CE):=(135,⟨[(.tmp 0 false [dI])],[(.tmp 0 false [dI])],dialtoneref37_bit⟩)::cons135
theorem cons133_ok:ConL Try.prog cons133:=⟨con135,cons135_ok⟩
theorem con133:ConOk Try.prog 133 ⟨[(.tmp 0 true [dE8,dI,dI]),(.tmp 1 false [dI])],[(.tmp 0 false [dO])],dialtoneref37_Contains⟩ :=
 tree_ok (plan:=planOf plan133) (eg:=egNo) KK tabL_ok (conOf_ok cons133_ok) Try.func133 (by kernel_rfl) (by kernel_rfl) 10000 (fun a r h=>Eq.trans (show _=dialtoneref37_Contains a from by kernel_rfl) h)
def plan121:List (Nat×PL):=[(262657,(.carry [])),(134480385,(.carry [])),(18049651601311750,(.carry [.tmp 6 false [dI]]))]
noncomputable def dialtoneref37_PriceAt:((LU×(Int×(Int×(Int×(List ((Int×(Int×Int))×(Int×Int)))))))×Int)→Option (Int×Bool):=fun ((a1,(a2,(a3,(a4,a5)))),a6) =>
 joinO (bindO (dialtoneref37_Rate (a1,(a2,(a3,(a4,a5))))) fun x7 =>
 bif (!x7) then
 outO (some ((0:Int),Bool.false))
 else
 bif (decide (a6<(0:Int))) then
 outO (some ((0:Int),Bool.false))
 else
 bif (decide (a6 > (562949953421312:Int))) then
 outO (some ((0:Int),Bool.false))
 else
 some (Sum.inl ())) fun _ =>
 joinO (loopO (fun v8 =>
 bif (decide (v8<(((List.length a5):Nat):Int))) then
 bif (decide (((0:Int)≤v8)∧(v8<(((List.length a5):Nat):Int)))) then
 bindO a5[(Int.toNat v8)]? fun x9 =>
 bindO (dialtoneref37_Contains ((x9.1.1,(x9.1.2.1,x9.1.2.2)),a6)) fun x10 =>
 bif x10 then
 outO (outO (some (v8,Bool.true)))
 else
 some (Sum.inl (Go.IntKind.wrap .i64 (v8+(1:Int))))
 else none
 else
 outO (some (Sum.inl ()))) (0:Int)) fun _ =>
 some ((0:Int),Bool.false)
noncomputable def cons121:List (Nat×CE):=(133,⟨[(.tmp 0 true [dE8,dI,dI]),(.tmp 1 false [dI])],[(.tmp 0 false [dO])],dialtoneref37_Contains⟩)::cons133
theorem cons121_ok:ConL Try.prog cons121:=⟨con133,cons133_ok⟩
theorem con121:ConOk Try.prog 121 ⟨[(.tmp 0 true [dS,dI,dI,dI,(.dat (.list (.pair (.pair uI8 (.pair uI6 uI6)) (.pair uI6 uI6))))]),(.tmp 1 false [dI])],[(.tmp 0 false [dI]),(.tmp 1 false [dO])],dialtoneref37_PriceAt⟩ :=
 tree_ok (plan:=planOf plan121) (eg:=egNo) KK tabL_ok (conOf_ok cons121_ok) Try.func121 (by kernel_rfl) (by kernel_rfl) 10000 (fun a r h=>Eq.trans (show _=dialtoneref37_PriceAt a from by kernel_rfl) h)
def plan122:List (Nat×PL):=[]
noncomputable def dialtoneref37_Begin:((LU×(Int×(Int×(Int×(List ((Int×(Int×Int))×(Int×Int)))))))×(Int×Int))→Option Int:=fun ((a1,(a2,(a3,(a4,a5)))),(a6,a7)) =>
 bif (decide (a7=(0:Int))) then
 some a6
 else
 some (Go.IntKind.wrap .i64 ((Go.IntKind.wrap .i64 (a6+a3))+(Go.IntKind.wrap .i64 ((Go.IntKind.wrap .i64 (a7-(1:Int)))*a4))))
noncomputable def cons122:List (Nat×CE):=(121,⟨[(.tmp 0 true [dS,dI,dI,dI,(.dat (.list (.pair (.pair uI8 (.pair uI6 uI6)) (.pair uI6 uI6))))]),(.tmp 1 false [dI])],[(.tmp 0 false [dI]),(.tmp 1 false [dO])],dialtoneref37_PriceAt⟩)::cons121
theorem cons122_ok:ConL Try.prog cons122:=⟨con121,cons121_ok⟩
theorem con122:ConOk Try.prog 122 ⟨[(.tmp 0 true [dS,dI,dI,dI,(.dat (.list (.pair (.pair uI8 (.pair uI6 uI6)) (.pair uI6 uI6))))]),(.tmp 1 false [dI]),(.tmp 2 false [dI])],[(.tmp 0 false [dI])],dialtoneref37_Begin⟩ :=
 tree_ok (plan:=planOf plan122) (eg:=egNo) KK tabL_ok (conOf_ok cons122_ok) Try.func122 (by kernel_rfl) (by kernel_rfl) 10000 (fun a r h=>Eq.trans (show _=dialtoneref37_Begin a from by kernel_rfl) h)
def plan120:List (Nat×PL):=[(262657,(.carry [])),(68853957121,(.carry [.tmp 7 false [dI]])),(18049651735267334,(.carry [.tmp 7 false [dI]]))]
noncomputable def dialtoneref37_Pieces:((LU×(Int×(Int×(Int×(List ((Int×(Int×Int))×(Int×Int)))))))×(Int×Int))→Option Int:=fun ((a1,(a2,(a3,(a4,a5)))),(a6,a7)) =>
 joinO (bindO (dialtoneref37_Rate (a1,(a2,(a3,(a4,a5))))) fun x8 =>
 bif (!x8) then
 outO (some (0:Int))
 else
 bif (decide (a6<(0:Int))) then
 outO (some (0:Int))
 else
 bif (decide (a6 > (3600:Int))) then
 outO (some (0:Int))
 else
 bif (decide (a7<(0:Int))) then
 outO (some (0:Int))
 else
 bif (decide (a7 > (1000000:Int))) then
 outO (some (0:Int))
 else
 some (Sum.inl ())) fun _ =>
 joinO (loopO (fun v9 =>
 bindO (dialtoneref37_Begin ((a1,(a2,(a3,(a4,a5)))),(a6,v9))) fun x10 =>
 bif (decide (x10<a7)) then
 some (Sum.inl (Go.IntKind.wrap .i64 (v9+(1:Int))))
 else
 outO (some (Sum.inl v9))) (0:Int)) fun v12 =>
 some v12
noncomputable def cons120:List (Nat×CE):=(122,⟨[(.tmp 0 true [dS,dI,dI,dI,(.dat (.list (.pair (.pair uI8 (.pair uI6 uI6)) (.pair uI6 uI6))))]),(.tmp 1 false [dI]),(.tmp 2 false [dI])],[(.tmp 0 false [dI])],dialtoneref37_Begin⟩)::cons122
theorem cons120_ok:ConL Try.prog cons120:=⟨con122,cons122_ok⟩
theorem con120:ConOk Try.prog 120 ⟨[(.tmp 0 true [dS,dI,dI,dI,(.dat (.list (.pair (.pair uI8 (.pair uI6 uI6)) (.pair uI6 uI6))))]),(.tmp 1 false [dI]),(.tmp 2 false [dI])],[(.tmp 0 false [dI])],dialtoneref37_Pieces⟩ :=
 tree_ok (plan:=planOf plan120) (eg:=egNo) KK tabL_ok (conOf_ok cons120_ok) Try.func120 (by kernel_rfl) (by kernel_rfl) 10000 (fun a r h=>Eq.trans (show _=dialtoneref37_Pieces a from by kernel_rfl) h)
def plan90:List (Nat×PL):=[(635065662736647214839835656705,(.carry [.tmp 14 false [dI]])),(85237070383327051513330625736199112710,(.carry [.tmp 15 false [dI],.tmp 14 false [dI]]))]
noncomputable def dialtoneref37_Cost:(((List (LU×(Int×(Int×(Int×(List ((Int×(Int×Int))×(Int×Int))))))))×Int)×(LU×(Int×Int)))→Option (Int×Int):=fun ((a1,a2),(a3,(a4,a5))) =>
 bindO (dialtoneref37_Valid (a1,a2)) fun x6 =>
 bif (!x6) then
 some ((0:Int),(2:Int))
 else
 bindO (dialtoneref37_Span (a4,a5)) fun x7 =>
 bif (!x7) then
 some ((0:Int),(3:Int))
 else
 bindO (dialtoneref37_Seconds (a4,a5)) fun x8 =>
 bif (decide (x8 > (1000000:Int))) then
 some ((0:Int),(4:Int))
 else
 bindO (dialtoneref37_Find ((a1,a2),a3)) fun (x10,x11) =>
 bif (!x11) then
 some ((0:Int),(8:Int))
 else
 bif (decide (((0:Int)≤x10)∧(x10<(((List.length a1):Nat):Int)))) then
 bindO a1[(Int.toNat x10)]? fun x12 =>
 bindO (dialtoneref37_Seconds (a4,a5)) fun x13 =>
 bindO (dialtoneref37_Pieces ((x12.1,(x12.2.1,(x12.2.2.1,(x12.2.2.2.1,x12.2.2.2.2)))),(a2,x13))) fun x14 =>
 bif (decide (x14=(0:Int))) then
 some ((0:Int),(0:Int))
 else
 joinO (loopO (fun (v15,v16) =>
 bif (decide (v15<x14)) then
 bindO (dialtoneref37_Begin ((x12.1,(x12.2.1,(x12.2.2.1,(x12.2.2.2.1,x12.2.2.2.2)))),(a2,v15))) fun x17 =>
 bindO (dialtoneref37_PriceAt ((x12.1,(x12.2.1,(x12.2.2.1,(x12.2.2.2.1,x12.2.2.2.2)))),(Go.IntKind.wrap .i64 (a4+(Go.IntKind.wrap .i64 ((1000:Int)*x17)))))) fun (x21,x22) =>
 bif (decide (v15=(0:Int))) then
 bif (decide (((0:Int)≤x21)∧(x21<(((List.length x12.2.2.2.2):Nat):Int)))) then
 bindO x12.2.2.2.2[(Int.toNat x21)]? fun x23 =>
 some (Sum.inl ((Go.IntKind.wrap .i64 (v15+(1:Int))),(Go.IntKind.wrap .i64 (v16+x23.2.1))))
 else none
 else
 bif (decide (((0:Int)≤x21)∧(x21<(((List.length x12.2.2.2.2):Nat):Int)))) then
 bindO x12.2.2.2.2[(Int.toNat x21)]? fun x26 =>
 some (Sum.inl ((Go.IntKind.wrap .i64 (v15+(1:Int))),(Go.IntKind.wrap .i64 (v16+x26.2.2))))
 else none
 else
 outO (some (Sum.inl v16))) ((0:Int),x12.2.1)) fun v29 =>
 some (v29,(0:Int))
 else none
noncomputable def cons90:List (Nat×CE):=(120,⟨[(.tmp 0 true [dS,dI,dI,dI,(.dat (.list (.pair (.pair uI8 (.pair uI6 uI6)) (.pair uI6 uI6))))]),(.tmp 1 false [dI]),(.tmp 2 false [dI])],[(.tmp 0 false [dI])],dialtoneref37_Pieces⟩)::cons120
theorem cons90_ok:ConL Try.prog cons90:=⟨con120,cons120_ok⟩
theorem con90:ConOk Try.prog 90 ⟨[(.tmp 0 true [(.dat (.list (.pair .str (.pair uI6 (.pair uI6 (.pair uI6 (.list (.pair (.pair uI8 (.pair uI6 uI6)) (.pair uI6 uI6))))))))),dI]),(.tmp 1 false [dS]),(.tmp 2 false [dI]),(.tmp 3 false [dI])],[(.tmp 0 false [dI]),(.tmp 1 false [dE8])],dialtoneref37_Cost⟩ :=
 tree_ok (plan:=planOf plan90) (eg:=egNo) KK tabL_ok (conOf_ok cons90_ok) Try.func90 (by kernel_rfl) (by kernel_rfl) 10000 (fun a r h=>Eq.trans (show _=dialtoneref37_Cost a from by kernel_rfl) h)
def plan86:List (Nat×PL):=[]
noncomputable def rating_within:(Int×(Int×Int))→Option Bool:=fun (a1,(a2,a3)) =>
 bif (decide (a1≥a2)) then
 some (decide (a1≤a3))
 else
 some Bool.false
noncomputable def cons86:List (Nat×CE):=(90,⟨[(.tmp 0 true [(.dat (.list (.pair .str (.pair uI6 (.pair uI6 (.pair uI6 (.list (.pair (.pair uI8 (.pair uI6 uI6)) (.pair uI6 uI6))))))))),dI]),(.tmp 1 false [dS]),(.tmp 2 false [dI]),(.tmp 3 false [dI])],[(.tmp 0 false [dI]),(.tmp 1 false [dE8])],dialtoneref37_Cost⟩)::cons90
theorem cons86_ok:ConL Try.prog cons86:=⟨con90,cons90_ok⟩
theorem con86:ConOk Try.prog 86 ⟨[(.tmp 0 false [dI]),(.tmp 1 false [dI]),(.tmp 2 false [dI])],[(.tmp 0 false [dO])],rating_within⟩ :=
 tree_ok (plan:=planOf plan86) (eg:=egNo) KK tabL_ok (conOf_ok cons86_ok) Try.func86 (by kernel_rfl) (by kernel_rfl) 10000 (fun a r h=>Eq.trans (show _=rating_within a from by kernel_rfl) h)
def plan131:List (Nat×PL):=[]
noncomputable def rating_validBand:(Int×(Int×Int))→Option Bool:=fun (a1,(a2,a3)) =>
 bif (decide (a1≥(1:Int))) then
 bif (decide (a1≤(127:Int))) then
 bif (decide (a2≥(0:Int))) then
 bif (decide (a2<a3)) then
 some (decide (a3≤(1440:Int)))
 else
 some Bool.false
 else
 some Bool.false
 else
 some Bool.false
 else
 some Bool.false
noncomputable def cons131:List (Nat×CE):=(86,⟨[(.tmp 0 false [dI]),(.tmp 1 false [dI]),(.tmp 2 false [dI])],[(.tmp 0 false [dO])],rating_within⟩)::cons86
theorem cons131_ok:ConL Try.prog cons131:=⟨con86,cons86_ok⟩
theorem con131:ConOk Try.prog 131 ⟨[(.tmp 0 true [dE8,dI,dI])],[(.tmp 0 false [dO])],rating_validBand⟩ :=
 tree_ok (plan:=planOf plan131) (eg:=egNo) KK tabL_ok (conOf_ok cons131_ok) Try.func131 (by kernel_rfl) (by kernel_rfl) 10000 (fun a r h=>Eq.trans (show _=rating_validBand a from by kernel_rfl) h)
def plan116:List (Nat×PL):=[]
noncomputable def rating_validPrice:(Int×(Int×(Int×(Int×Int))))→Option Bool:=fun (a1,(a2,(a3,(a4,a5)))) =>
 bindO (rating_validBand (a1,(a2,a3))) fun x6 =>
 bif x6 then
 bif (decide (a4≥(0:Int))) then
 bif (decide (a4≤(1000000000:Int))) then
 bif (decide (a5≥(0:Int))) then
 some (decide (a5≤(1000000000:Int)))
 else
 some Bool.false
 else
 some Bool.false
 else
 some Bool.false
 else
 some Bool.false
noncomputable def cons116:List (Nat×CE):=(131,⟨[(.tmp 0 true [dE8,dI,dI])],[(.tmp 0 false [dO])],rating_validBand⟩)::cons131
theorem cons116_ok:ConL Try.prog cons116:=⟨con131,cons131_ok⟩
theorem con116:ConOk Try.prog 116 ⟨[(.tmp 0 true [dE8,dI,dI,dI,dI])],[(.tmp 0 false [dO])],rating_validPrice⟩ :=
 tree_ok (plan:=planOf plan116) (eg:=egNo) KK tabL_ok (conOf_ok cons116_ok) Try.func116 (by kernel_rfl) (by kernel_rfl) 10000 (fun a r h=>Eq.trans (show _=rating_validPrice a from by kernel_rfl) h)
def plan87:List (Nat×PL):=[(262657,(.carry [])),(134480385,(.carry [])),(18049651601311750,(.carry [.tmp 3 false [dI]])),(18049651735527937,(.carry [])),(2422583247133816450713606,(.carry [.tmp 64 false [dI]]))]
noncomputable def rating_validRate:(LU×(Int×(Int×(Int×(List ((Int×(Int×Int))×(Int×Int)))))))→Option Bool:=fun (a1,(a2,(a3,(a4,a5)))) =>
 joinO (bif (decide ((((List.length a1):Nat):Int) > (20:Int))) then
 outO (some Bool.false)
 else
 bif (decide (a2<(0:Int))) then
 outO (some Bool.false)
 else
 bif (decide (a2 > (1000000000:Int))) then
 outO (some Bool.false)
 else
 bindO (rating_within (a3,((1:Int),(3600:Int)))) fun x6 =>
 bif (!x6) then
 outO (some Bool.false)
 else
 bindO (rating_within (a4,((1:Int),(3600:Int)))) fun x7 =>
 bif (!x7) then
 outO (some Bool.false)
 else
 some (Sum.inl ())) fun _ =>
 joinO (loopO (fun v8 =>
 bif (decide (v8<(((List.length a1):Nat):Int))) then
 bif (decide (((0:Int)≤v8)∧(v8<(((List.length a1):Nat):Int)))) then
 bif (decide ((((UInt8.toNat (List.getD a1 (Int.toNat v8) (0:UInt8))):Nat):Int)<(48:Int))) then
 outO (outO (some Bool.false))
 else
 bif (decide (((0:Int)≤v8)∧(v8<(((List.length a1):Nat):Int)))) then
 bif (decide ((((UInt8.toNat (List.getD a1 (Int.toNat v8) (0:UInt8))):Nat):Int) > (57:Int))) then
 outO (outO (some Bool.false))
 else
 some (Sum.inl (Go.IntKind.wrap .i64 (v8+(1:Int))))
 else none
 else none
 else
 outO (some (Sum.inl ()))) (0:Int)) fun _ =>
 bif (decide ((((List.length a5):Nat):Int)<(1:Int))) then
 some Bool.false
 else
 bif (decide ((((List.length a5):Nat):Int) > (20:Int))) then
 some Bool.false
 else
 joinO (loopO (fun v10 =>
 bif (decide (v10<(((List.length a5):Nat):Int))) then
 bif (decide (((0:Int)≤v10)∧(v10<(((List.length a5):Nat):Int)))) then
 bindO a5[(Int.toNat v10)]? fun x11 =>
 bindO (rating_validPrice (x11.1.1,(x11.1.2.1,(x11.1.2.2,(x11.2.1,x11.2.2))))) fun x12 =>
 bif (!x12) then
 outO (outO (some Bool.false))
 else
 some (Sum.inl (Go.IntKind.wrap .i64 (v10+(1:Int))))
 else none
 else
 outO (some (Sum.inl ()))) (0:Int)) fun _ =>
 bindO (some (Go.IntKind.wrap .i64 ((((List.length a5):Nat):Int)-(1:Int)))) fun x14 =>
 bif (decide (((0:Int)≤x14)∧(x14<(((List.length a5):Nat):Int)))) then
 bindO a5[(Int.toNat x14)]? fun x15 =>
 some ((decide (x15.1.1=(127:Int)))&&((decide (x15.1.2.1=(0:Int)))&&(decide (x15.1.2.2=(1440:Int)))))
 else none
noncomputable def cons87:List (Nat×CE):=(116,⟨[(.tmp 0 true [dE8,dI,dI,dI,dI])],[(.tmp 0 false [dO])],rating_validPrice⟩)::cons116
theorem cons87_ok:ConL Try.prog cons87:=⟨con116,cons116_ok⟩
theorem con87:ConOk Try.prog 87 ⟨[(.tmp 0 true [dS,dI,dI,dI,(.dat (.list (.pair (.pair uI8 (.pair uI6 uI6)) (.pair uI6 uI6))))])],[(.tmp 0 false [dO])],rating_validRate⟩ :=
 tree_ok (plan:=planOf plan87) (eg:=egNo) KK tabL_ok (conOf_ok cons87_ok) Try.func87 (by kernel_rfl) (by kernel_rfl) 10000 (fun a r h=>Eq.trans (show _=rating_validRate a from by kernel_rfl) h)
def plan61:List (Nat×PL):=[(68853957121,(.carry [.mp 12])),(9241421688456087558,(.carry [.tmp 20 false [dI],.mp 12]))]
noncomputable def rating_Valid:((List (LU×(Int×(Int×(Int×(List ((Int×(Int×Int))×(Int×Int))))))))×Int)→Option Bool:=fun (a1,a2) =>
 bif (decide ((((List.length a1):Nat):Int) > (1000:Int))) then
 some Bool.false
 else
 bindO (rating_within (a2,((0:Int),(3600:Int)))) fun x3 =>
 bif (!x3) then
 some Bool.false
 else
 joinO (loopO (fun (v4,v5) =>
 bif (decide (v4<(((List.length a1):Nat):Int))) then
 bif (decide (((0:Int)≤v4)∧(v4<(((List.length a1):Nat):Int)))) then
 bindO a1[(Int.toNat v4)]? fun x6 =>
 bif (decide (Membership.mem v5 x6.1)) then
 outO (outO (some Bool.false))
 else
 bindO (rating_validRate (x6.1,(x6.2.1,(x6.2.2.1,(x6.2.2.2.1,x6.2.2.2.2))))) fun x7 =>
 bif (!x7) then
 outO (outO (some Bool.false))
 else
 some (Sum.inl ((Go.IntKind.wrap .i64 (v4+(1:Int))),(addK v5 x6.1)))
 else none
 else
 outO (some (Sum.inl v5))) ((0:Int),([]:List LU))) fun v9 =>
 some Bool.true
noncomputable def cons61:List (Nat×CE):=(87,⟨[(.tmp 0 true [dS,dI,dI,dI,(.dat (.list (.pair (.pair uI8 (.pair uI6 uI6)) (.pair uI6 uI6))))])],[(.tmp 0 false [dO])],rating_validRate⟩)::cons87
theorem cons61_ok:ConL Try.prog cons61:=⟨con87,cons87_ok⟩
theorem con61:ConOk Try.prog 61 ⟨[(.tmp 0 true [(.dat (.list (.pair .str (.pair uI6 (.pair uI6 (.pair uI6 (.list (.pair (.pair uI8 (.pair uI6 uI6)) (.pair uI6 uI6))))))))),dI])],[(.tmp 0 false [dO])],rating_Valid⟩ :=
 tree_ok (plan:=planOf plan61) (eg:=egNo) KK tabL_ok (conOf_ok cons61_ok) Try.func61 (by kernel_rfl) (by kernel_rfl) 10000 (fun a r h=>Eq.trans (show _=rating_Valid a from by kernel_rfl) h)
def plan125:List (Nat×PL):=[]
noncomputable def strings_HasPrefix:(LU×LU)→Option Bool:=fun (a1,a2) =>
 bif (decide ((((List.length a1):Nat):Int)≥(((List.length a2):Nat):Int))) then
 bif (decide (((0:Int)≤(((List.length a2):Nat):Int))∧((((List.length a2):Nat):Int)≤(((List.length a1):Nat):Int)))) then
 some (decide ((List.take (Int.toNat (((List.length a2):Nat):Int)) a1)=a2))
 else none
 else
 some Bool.false
noncomputable def cons125:List (Nat×CE):=(61,⟨[(.tmp 0 true [(.dat (.list (.pair .str (.pair uI6 (.pair uI6 (.pair uI6 (.list (.pair (.pair uI8 (.pair uI6 uI6)) (.pair uI6 uI6))))))))),dI])],[(.tmp 0 false [dO])],rating_Valid⟩)::cons61
theorem cons125_ok:ConL Try.prog cons125:=⟨con61,cons61_ok⟩
theorem con125:ConOk Try.prog 125 ⟨[(.tmp 0 false [dS]),(.tmp 1 false [dS])],[(.tmp 0 false [dO])],strings_HasPrefix⟩ :=
 tree_ok (plan:=planOf plan125) (eg:=egNo) KK tabL_ok (conOf_ok cons125_ok) Try.func125 (by kernel_rfl) (by kernel_rfl) 10000 (fun a r h=>Eq.trans (show _=strings_HasPrefix a from by kernel_rfl) h)
def plan104:List (Nat×PL):=[(35253226045953,(.carry [.tmp 7 false [dI]])),(4731607904558101301254,(.carry [.tmp 17 false [dI],.tmp 7 false [dI]]))]
noncomputable def rating_Find:(((List (LU×(Int×(Int×(Int×(List ((Int×(Int×Int))×(Int×Int))))))))×Int)×LU)→Option (Int×Bool):=fun ((a1,a2),a3) =>
 bindO (rating_Valid (a1,a2)) fun x4 =>
 bif (!x4) then
 some ((0:Int),Bool.false)
 else
 joinO (loopO (fun (v5,v6) =>
 bif (decide (v5<(((List.length a1):Nat):Int))) then
 bif (decide (((0:Int)≤v5)∧(v5<(((List.length a1):Nat):Int)))) then
 bindO a1[(Int.toNat v5)]? fun x7 =>
 bindO (strings_HasPrefix (a3,x7.1)) fun x8 =>
 bif x8 then
 bif (decide (v6<(0:Int))) then
 some (Sum.inl ((Go.IntKind.wrap .i64 (v5+(1:Int))),v5))
 else
 bif (decide (((0:Int)≤v6)∧(v6<(((List.length a1):Nat):Int)))) then
 bindO a1[(Int.toNat v6)]? fun x10 =>
 bif (decide ((((List.length x7.1):Nat):Int) > (((List.length x10.1):Nat):Int))) then
 some (Sum.inl ((Go.IntKind.wrap .i64 (v5+(1:Int))),v5))
 else
 some (Sum.inl ((Go.IntKind.wrap .i64 (v5+(1:Int))),v6))
 else none
 else
 some (Sum.inl ((Go.IntKind.wrap .i64 (v5+(1:Int))),v6))
 else none
 else
 outO (some (Sum.inl v6))) ((0:Int),(-1:Int))) fun v14 =>
 bif (decide (v14<(0:Int))) then
 some ((0:Int),Bool.false)
 else
 some (v14,Bool.true)
noncomputable def cons104:List (Nat×CE):=(125,⟨[(.tmp 0 false [dS]),(.tmp 1 false [dS])],[(.tmp 0 false [dO])],strings_HasPrefix⟩)::cons125
theorem cons104_ok:ConL Try.prog cons104:=⟨con125,cons125_ok⟩
theorem con104:ConOk Try.prog 104 ⟨[(.tmp 0 true [(.dat (.list (.pair .str (.pair uI6 (.pair uI6 (.pair uI6 (.list (.pair (.pair uI8 (.pair uI6 uI6)) (.pair uI6 uI6))))))))),dI]),(.tmp 1 false [dS])],[(.tmp 0 false [dI]),(.tmp 1 false [dO])],rating_Find⟩ :=
 tree_ok (plan:=planOf plan104) (eg:=egNo) KK tabL_ok (conOf_ok cons104_ok) Try.func104 (by kernel_rfl) (by kernel_rfl) 10000 (fun a r h=>Eq.trans (show _=rating_Find a from by kernel_rfl) h)
def plan76:List (Nat×PL):=[]
noncomputable def rating_Seconds:(Int×Int)→Option Int:=fun (a1,a2) =>
 bindO (rating_within (a1,((0:Int),(281474976710656:Int)))) fun x3 =>
 bif (!x3) then
 some (0:Int)
 else
 bindO (rating_within (a2,(a1,(281474976710656:Int)))) fun x4 =>
 bif (!x4) then
 some (0:Int)
 else
 some (Go.IntKind.wrap .i64 (Int.tdiv (Go.IntKind.wrap .i64 ((Go.IntKind.wrap .i64 (a2-a1))+(999:Int))) (1000:Int)))
noncomputable def cons76:List (Nat×CE):=(104,⟨[(.tmp 0 true [(.dat (.list (.pair .str (.pair uI6 (.pair uI6 (.pair uI6 (.list (.pair (.pair uI8 (.pair uI6 uI6)) (.pair uI6 uI6))))))))),dI]),(.tmp 1 false [dS])],[(.tmp 0 false [dI]),(.tmp 1 false [dO])],rating_Find⟩)::cons104
theorem cons76_ok:ConL Try.prog cons76:=⟨con104,cons104_ok⟩
theorem con76:ConOk Try.prog 76 ⟨[(.tmp 0 false [dI]),(.tmp 1 false [dI])],[(.tmp 0 false [dI])],rating_Seconds⟩ :=
 tree_ok (plan:=planOf plan76) (eg:=egNo) KK tabL_ok (conOf_ok cons76_ok) Try.func76 (by kernel_rfl) (by kernel_rfl) 10000 (fun a r h=>Eq.trans (show _=rating_Seconds a from by kernel_rfl) h)
def plan107:List (Nat×PL):=[(134480385,(.carry [])),(18049651601311750,(.carry [.tmp 17 false [dI]]))]
noncomputable def rating_priceAt:((List ((Int×(Int×Int))×(Int×Int)))×Int)→Option Int:=fun (a1,a2) =>
 bindO (some (Int.tmod (Go.IntKind.wrap .i64 (Int.tdiv a2 (86400000:Int))) (7:Int))) fun x4 =>
 bindO (some (Int.tmod (Go.IntKind.wrap .i64 (Int.tdiv a2 (60000:Int))) (1440:Int))) fun x6 =>
 joinO (loopO (fun v7 =>
 bif (decide (v7<(((List.length a1):Nat):Int))) then
 bif (decide (((0:Int)≤v7)∧(v7<(((List.length a1):Nat):Int)))) then
 bindO a1[(Int.toNat v7)]? fun x8 =>
 bif (decide ((0:Int)≤x4)) then
 bif (decide ((Go.IntKind.wrap .u8 (((BitVec.toNat ((BitVec.ofInt 8 (Int.fdiv x8.1.1 ((2:Int) ^ (Min.min (Int.toNat x4) 8)))) &&& (BitVec.ofInt 8 (1:Int)))):Nat):Int))=(1:Int))) then
 bif (decide (x6≥x8.1.2.1)) then
 bif (decide (x6<x8.1.2.2)) then
 outO (outO (some v7))
 else
 some (Sum.inl (Go.IntKind.wrap .i64 (v7+(1:Int))))
 else
 some (Sum.inl (Go.IntKind.wrap .i64 (v7+(1:Int))))
 else
 some (Sum.inl (Go.IntKind.wrap .i64 (v7+(1:Int))))
 else none
 else none
 else
 outO (some (Sum.inl ()))) (0:Int)) fun _ =>
 some (-1:Int)
noncomputable def cons107:List (Nat×CE):=(76,⟨[(.tmp 0 false [dI]),(.tmp 1 false [dI])],[(.tmp 0 false [dI])],rating_Seconds⟩)::cons76
theorem cons107_ok:ConL Try.prog cons107:=⟨con76,cons76_ok⟩
theorem con107:ConOk Try.prog 107 ⟨[(.tmp 0 false [(.dat (.list (.pair (.pair uI8 (.pair uI6 uI6)) (.pair uI6 uI6))))]),(.tmp 1 false [dI])],[(.tmp 0 false [dI])],rating_priceAt⟩ :=
 tree_ok (plan:=planOf plan107) (eg:=egNo) KK tabL_ok (conOf_ok cons107_ok) Try.func107 (by kernel_rfl) (by kernel_rfl) 10000 (fun a r h=>Eq.trans (show _=rating_priceAt a from by kernel_rfl) h)
def plan105:List (Nat×PL):=[(262657,(.carry []))]
noncomputable def rating_Pieces:((LU×(Int×(Int×(Int×(List ((Int×(Int×Int))×(Int×Int)))))))×(Int×Int))→Option Int:=fun ((a1,(a2,(a3,(a4,a5)))),(a6,a7)) =>
 joinO (bindO (rating_validRate (a1,(a2,(a3,(a4,a5))))) fun x8 =>
 bif (!x8) then
 outO (some (0:Int))
 else
 bindO (rating_within (a6,((0:Int),(3600:Int)))) fun x9 =>
 bif (!x9) then
 outO (some (0:Int))
 else
 bindO (rating_within (a7,((0:Int),(1000000:Int)))) fun x10 =>
 bif (!x10) then
 outO (some (0:Int))
 else
 bif (decide (a7≤a6)) then
 outO (some (0:Int))
 else
 some (Sum.inl ())) fun _ =>
 bindO (some (Go.IntKind.wrap .i64 ((Go.IntKind.wrap .i64 (a7-a6))-a3))) fun x12 =>
 bif (decide (x12≤(0:Int))) then
 some (1:Int)
 else
 bif (decide (a4≠(0:Int))) then
 some (Go.IntKind.wrap .i64 ((1:Int)+(Go.IntKind.wrap .i64 (Int.tdiv (Go.IntKind.wrap .i64 ((Go.IntKind.wrap .i64 (x12+a4))-(1:Int))) a4))))
 else none
noncomputable def cons105:List (Nat×CE):=(107,⟨[(.tmp 0 false [(.dat (.list (.pair (.pair uI8 (.pair uI6 uI6)) (.pair uI6 uI6))))]),(.tmp 1 false [dI])],[(.tmp 0 false [dI])],rating_priceAt⟩)::cons107
theorem cons105_ok:ConL Try.prog cons105:=⟨con107,cons107_ok⟩
theorem con105:ConOk Try.prog 105 ⟨[(.tmp 0 true [dS,dI,dI,dI,(.dat (.list (.pair (.pair uI8 (.pair uI6 uI6)) (.pair uI6 uI6))))]),(.tmp 1 false [dI]),(.tmp 2 false [dI])],[(.tmp 0 false [dI])],rating_Pieces⟩ :=
 tree_ok (plan:=planOf plan105) (eg:=egNo) KK tabL_ok (conOf_ok cons105_ok) Try.func105 (by kernel_rfl) (by kernel_rfl) 10000 (fun a r h=>Eq.trans (show _=rating_Pieces a from by kernel_rfl) h)
end Go.Proofs.Ytkpijdndakljjaa

set_option maxRecDepth 1000000
set_option maxHeartbeats 0
namespace Go.Proofs.Ytkpijdndakljjaa
open Go.RowKit
def planj102:List (Nat×PL):=[(134480385,(.carry [.tmp 3 false [(.dat (.int .u32))]])),(18049651601311750,(.carry [.tmp 9 false [(.dat (.int .i64))],.tmp 3 false [(.dat (.int .u32))]])),(2422583229119624904966657,(.carry [.tmp 3 false [(.dat (.int .u32))]])),(43641379711748622625774587972117695039494,(.carry [.tmp 17 false [(.dat (.int .i64))],.tmp 3 false [(.dat (.int .u32))]]))]
noncomputable def journal_Check:(List Int)→Option Int:=fun a1 =>
 joinO (loopO (fun (v2,v3) =>
 bif (decide (v2<(((List.length a1):Nat):Int))) then
 joinO (bif (decide (((0:Int)≤v2)∧(v2<(((List.length a1):Nat):Int)))) then
 bindO a1[(Int.toNat v2)]? fun x4 =>
 loopO (fun (v7,v8) =>
 bif (decide (v7<(8:Int))) then
 bindO (some (Go.IntKind.wrap .u32 (Int.tdiv v8 (2:Int)))) fun x10 =>
 bif (decide ((Go.IntKind.wrap .u32 (((BitVec.toNat ((BitVec.ofInt 32 v8) &&& (BitVec.ofInt 32 (1:Int)))):Nat):Int))=(1:Int))) then
 some (Sum.inl ((Go.IntKind.wrap .i64 (v7+(1:Int))),(Go.IntKind.wrap .u32 (((BitVec.toNat ((BitVec.ofInt 32 x10) ^^^ (BitVec.ofInt 32 (3988292384:Int)))):Nat):Int))))
 else
 some (Sum.inl ((Go.IntKind.wrap .i64 (v7+(1:Int))),x10))
 else
 outO (some (Sum.inl v8))) ((0:Int),(Go.IntKind.wrap .u32 (((BitVec.toNat ((BitVec.ofInt 32 v3) ^^^ (BitVec.ofInt 32 (Go.IntKind.wrap .u32 x4)))):Nat):Int)))
 else none) fun v14 =>
 some (Sum.inl ((Go.IntKind.wrap .i64 (v2+(1:Int))),v14))
 else
 outO (some (Sum.inl v3))) ((0:Int),(4294967295:Int))) fun v16 =>
 some (Go.IntKind.wrap .u32 (((BitVec.toNat ((BitVec.ofInt 32 (4294967295:Int)) ^^^ (BitVec.ofInt 32 v16))):Nat):Int))
noncomputable def consj102:List (Nat×CE):=[]
theorem consj102_ok:ConL Try.prog consj102:=trivial
theorem conj102:ConOk Try.prog 102 ⟨[(.tmp 0 false [(.dat (.list (.int .u8)))])],[(.tmp 0 false [(.dat (.int .u32))])],journal_Check⟩ :=
 tree_ok (plan:=planOf planj102) (eg:=egNo) KK tabL_ok (conOf_ok consj102_ok) Try.func102 (by kernel_rfl) (by kernel_rfl) 10000 (fun a r h=>Eq.trans (show _=journal_Check a from by kernel_rfl) h)
def planj129:List (Nat×PL):=[(134480385,(.carry [.tmp 3 false [(.dat (.int .u32))]])),(18049651601311750,(.carry [.tmp 4 false [(.dat (.int .i64))],.tmp 3 false [(.dat (.int .u32))]])),(4731607869374267392513,(.carry [.tmp 3 false [(.dat (.int .u32))]])),(166478651854509821417867418488014854,(.carry [.tmp 5 false [(.dat (.int .i64))],.tmp 3 false [(.dat (.int .u32))]]))]
noncomputable def dialtoneref20_Check:(List Int)→Option Int:=fun a1 =>
 joinO (loopO (fun (v2,v3) =>
 bif (decide (v2<(((List.length a1):Nat):Int))) then
 joinO (bif (decide (((0:Int)≤v2)∧(v2<(((List.length a1):Nat):Int)))) then
 bindO a1[(Int.toNat v2)]? fun x4 =>
 loopO (fun (v7,v8) =>
 bif (decide (v7<(8:Int))) then
 bif (decide ((Int.tmod v8 (2:Int))=(1:Int))) then
 some (Sum.inl ((Go.IntKind.wrap .i64 (v7+(1:Int))),(Go.IntKind.wrap .u32 (((BitVec.toNat ((BitVec.ofInt 32 (Go.IntKind.wrap .u32 (Int.tdiv v8 (2:Int)))) ^^^ (BitVec.ofInt 32 (3988292384:Int)))):Nat):Int))))
 else
 some (Sum.inl ((Go.IntKind.wrap .i64 (v7+(1:Int))),(Go.IntKind.wrap .u32 (Int.tdiv v8 (2:Int)))))
 else
 outO (some (Sum.inl v8))) ((0:Int),(Go.IntKind.wrap .u32 (((BitVec.toNat ((BitVec.ofInt 32 v3) ^^^ (BitVec.ofInt 32 (Go.IntKind.wrap .u32 x4)))):Nat):Int)))
 else none) fun v15 =>
 some (Sum.inl ((Go.IntKind.wrap .i64 (v2+(1:Int))),v15))
 else
 outO (some (Sum.inl v3))) ((0:Int),(4294967295:Int))) fun v17 =>
 some (Go.IntKind.wrap .u32 (((BitVec.toNat ((BitVec.ofInt 32 v17) ^^^ (BitVec.ofInt 32 (4294967295:Int)))):Nat):Int))
noncomputable def consj129:List (Nat×CE):=(102,⟨[(.tmp 0 false [(.dat (.list (.int .u8)))])],[(.tmp 0 false [(.dat (.int .u32))])],journal_Check⟩)::consj102
theorem consj129_ok:ConL Try.prog consj129:=⟨conj102,consj102_ok⟩
theorem conj129:ConOk Try.prog 129 ⟨[(.tmp 0 false [(.dat (.list (.int .u8)))])],[(.tmp 0 false [(.dat (.int .u32))])],dialtoneref20_Check⟩ :=
 tree_ok (plan:=planOf planj129) (eg:=egNo) KK tabL_ok (conOf_ok consj129_ok) Try.func129 (by kernel_rfl) (by kernel_rfl) 10000 (fun a r h=>Eq.trans (show _=dialtoneref20_Check a from by kernel_rfl) h)
def planj128:List (Nat×PL):=[(134480385,(.carry [.drop 0,.tmp 5 false [(.dat (.list (.int .u8)))]])),(18049651601311750,(.carry [.tmp 6 false [(.dat (.int .i64))],.tmp 0 false [(.dat (.int .i64))],.tmp 5 false [(.dat (.list (.int .u8)))]]))]
noncomputable def dialtoneref20_number:(Int×Int)→Option (List Int):=fun (a1,a2) =>
 joinO (loopO (fun (v3,(v4,v5)) =>
 bif (decide (v3<a2)) then
 bindO (some (Int.tmod v4 (256:Int))) fun x6 =>
 bif (decide ((1=0)∨((List.length v5)≠0))) then
 bif (decide (((List.length (((Go.IntKind.wrap .u8 x6)::([]:List Int))++v5))*1)≤140737488355328)) then
 bindO (some (((Go.IntKind.wrap .u8 x6)::([]:List Int))++v5)) fun x8 =>
 bif (decide ((List.length x8)≤(List.length x8))) then
 some (Sum.inl ((Go.IntKind.wrap .i64 (v3+(1:Int))),((Go.IntKind.wrap .i64 (Int.tdiv v4 (256:Int))),(List.take (List.length x8) x8))))
 else none
 else none
 else
 some (Sum.inl ((Go.IntKind.wrap .i64 (v3+(1:Int))),((Go.IntKind.wrap .i64 (Int.tdiv v4 (256:Int))),((Go.IntKind.wrap .u8 x6)::([]:List Int)))))
 else
 outO (some (Sum.inl v5))) ((0:Int),(a1,([]:List Int)))) fun v13 =>
 some v13
noncomputable def consj128:List (Nat×CE):=(129,⟨[(.tmp 0 false [(.dat (.list (.int .u8)))])],[(.tmp 0 false [(.dat (.int .u32))])],dialtoneref20_Check⟩)::consj129
theorem consj128_ok:ConL Try.prog consj128:=⟨conj129,consj129_ok⟩
theorem conj128:ConOk Try.prog 128 ⟨[(.tmp 0 false [(.dat (.int .i64))]),(.tmp 1 false [(.dat (.int .i64))])],[(.tmp 0 false [(.dat (.list (.int .u8)))])],dialtoneref20_number⟩ :=
 tree_ok (plan:=planOf planj128) (eg:=egAll) KK tabL_ok (conOf_ok consj128_ok) Try.func128 (by kernel_rfl) (by kernel_rfl) 10000 (fun a r h=>Eq.trans (show _=dialtoneref20_number a from by kernel_rfl) h)
def planj73:List (Nat×PL):=[(4731607904492334612511,(.carry [.tmp 0 false [(.own 10000005 5 (.int .u8))]])),(1240362622515238564662084097,(.carry [.tmp 0 false [(.own 10000004 5 (.int .u8))]])),(166478653090116965526926015110318086,(.carry [.tmp 10 false [(.dat (.int .i64))],.tmp 0 false [(.own 10000003 5 (.int .u8))]])),(22344386578255678367278332572200562860491265,(.carry [.tmp 0 false [(.own 10000002 5 (.int .u8))],.dead 10000003])),(786173211466051447306281901482090301346629135624380352518,(.carry [.tmp 7 false [(.dat (.int .i64))],.tmp 0 false [(.own 10000001 5 (.int .u8))],.dead 10000003])),(18049651735527445,(.carry [.tmp 0 false [(.own 10000006 5 (.int .u8))],.dead 22])),(4731607904558106542593,(.carry [.tmp 0 false [(.own 10000010 5 (.int .u8))],.dead 22])),(635065662736629904128633735174,(.carry [.tmp 10 false [(.dat (.int .i64))],.tmp 0 false [(.own 10000009 5 (.int .u8))],.dead 22])),(85237070383324728109003039679208227329,(.carry [.tmp 0 false [(.own 10000008 5 (.int .u8))],.dead 22,.dead 10000009])),(2999012800128859266877521744582980956552618278389766,(.carry [.tmp 7 false [(.dat (.int .i64))],.tmp 0 false [(.own 10000007 5 (.int .u8))],.dead 22,.dead 10000009]))]
noncomputable def journal_Encode:(Int×(Int×(List Int)))→Option ((List Int)×Int):=fun (a1,(a2,a3)) =>
 bif (decide (a1<(0:Int))) then
 some (([]:List Int),(3:Int))
 else
 bif (decide (a1 > (1048575:Int))) then
 some (([]:List Int),(3:Int))
 else
 bif (decide ((((List.length a3):Nat):Int) > (4096:Int))) then
 some (([]:List Int),(4:Int))
 else
 joinO (joinO (loopO (fun (v9,v10) =>
 bif (decide (v9<(5:Int))) then
 joinO (bif (decide (((0:Int)≤v9)∧(v9<(5:Int)))) then
 bindO (((167:Int),(1:Int))::(((Go.IntKind.wrap .u32 a2),(1:Int))::(((Go.IntKind.wrap .u32 a1),(4:Int))::(((Go.IntKind.wrap .u32 (((List.length a3):Nat):Int)),(2:Int))::(((Go.IntKind.wrap .u32 (Go.IntKind.wrap .i64 ((65535:Int)-(((List.length a3):Nat):Int)))),(2:Int))::([]:List (Int×Int)))))))[(Int.toNat v9)]? fun x11 =>
 bif (decide ((List.length v10)≤(List.length v10))) then
 loopO (fun (v13,v14) =>
 bif (decide (v13≥(0:Int))) then
 bindO (some (Go.IntKind.wrap .i64 ((8:Int)*v13))) fun x15 =>
 bif (decide ((0:Int)≤x15)) then
 bindO (some (Int.fdiv x11.1 ((2:Int) ^ (Min.min (Int.toNat x15) 32)))) fun x16 =>
 bif (decide ((List.length v14)≤(List.length v14))) then
 bif (decide (((List.length ((List.take (List.length v14) v14)++((Go.IntKind.wrap .u8 x16)::([]:List Int))))*1)≤140737488355328)) then
 bindO (some ((List.take (List.length v14) v14)++((Go.IntKind.wrap .u8 x16)::([]:List Int)))) fun x18 =>
 bif (decide ((List.length x18)≤(List.length x18))) then
 some (Sum.inl ((Go.IntKind.wrap .i64 (v13-(1:Int))),(List.take (List.length x18) x18)))
 else none
 else none
 else none
 else none
 else
 outO (bif (decide ((List.length v14)≤(List.length v14))) then
 some (Sum.inl (List.take (List.length v14) v14))
 else none)) ((Go.IntKind.wrap .i64 (x11.2-(1:Int))),(List.take (List.length v10) v10))
 else none
 else none) fun v20 =>
 bif (decide ((List.length v20)≤(List.length v20))) then
 some (Sum.inl ((Go.IntKind.wrap .i64 (v9+(1:Int))),(List.take (List.length v20) v20)))
 else none
 else
 outO (bif (decide ((List.length v10)≤(List.length v10))) then
 some (Sum.inl (List.take (List.length v10) v10))
 else none)) ((0:Int),([]:List Int))) fun v22 =>
 bif (decide ((List.length v22)≤(List.length v22))) then
 some (Sum.inl (List.take (List.length v22) v22))
 else none) fun v23 =>
 bif (decide ((List.length v23)≤(List.length v23))) then
 bif (decide (((List.length ((List.take (List.length v23) v23)++a3))*1)≤140737488355328)) then
 bindO (some ((List.take (List.length v23) v23)++a3)) fun x24 =>
 bif (decide ((List.length x24)≤(List.length x24))) then
 bindO (journal_Check (List.take (List.length x24) x24)) fun x25 =>
 joinO (joinO (bif (decide ((List.length x24)≤(List.length x24))) then
 loopO (fun (v26,v27) =>
 bif (decide (v26<(1:Int))) then
 joinO (bif (decide (((0:Int)≤v26)∧(v26<(1:Int)))) then
 bindO ((x25,(4:Int))::([]:List (Int×Int)))[(Int.toNat v26)]? fun x28 =>
 bif (decide ((List.length v27)≤(List.length v27))) then
 loopO (fun (v30,v31) =>
 bif (decide (v30≥(0:Int))) then
 bindO (some (Go.IntKind.wrap .i64 ((8:Int)*v30))) fun x32 =>
 bif (decide ((0:Int)≤x32)) then
 bindO (some (Int.fdiv x28.1 ((2:Int) ^ (Min.min (Int.toNat x32) 32)))) fun x33 =>
 bif (decide ((List.length v31)≤(List.length v31))) then
 bif (decide (((List.length ((List.take (List.length v31) v31)++((Go.IntKind.wrap .u8 x33)::([]:List Int))))*1)≤140737488355328)) then
 bindO (some ((List.take (List.length v31) v31)++((Go.IntKind.wrap .u8 x33)::([]:List Int)))) fun x35 =>
 bif (decide ((List.length x35)≤(List.length x35))) then
 some (Sum.inl ((Go.IntKind.wrap .i64 (v30-(1:Int))),(List.take (List.length x35) x35)))
 else none
 else none
 else none
 else none
 else
 outO (bif (decide ((List.length v31)≤(List.length v31))) then
 some (Sum.inl (List.take (List.length v31) v31))
 else none)) ((Go.IntKind.wrap .i64 (x28.2-(1:Int))),(List.take (List.length v27) v27))
 else none
 else none) fun v37 =>
 bif (decide ((List.length v37)≤(List.length v37))) then
 some (Sum.inl ((Go.IntKind.wrap .i64 (v26+(1:Int))),(List.take (List.length v37) v37)))
 else none
 else
 outO (bif (decide ((List.length v27)≤(List.length v27))) then
 some (Sum.inl (List.take (List.length v27) v27))
 else none)) ((0:Int),(List.take (List.length x24) x24))
 else none) fun v39 =>
 bif (decide ((List.length v39)≤(List.length v39))) then
 some (Sum.inl (List.take (List.length v39) v39))
 else none) fun v40 =>
 bif (decide ((List.length v40)≤(List.length v40))) then
 some ((List.take (List.length v40) v40),(0:Int))
 else none
 else none
 else none
 else none
noncomputable def consj73:List (Nat×CE):=(128,⟨[(.tmp 0 false [(.dat (.int .i64))]),(.tmp 1 false [(.dat (.int .i64))])],[(.tmp 0 false [(.dat (.list (.int .u8)))])],dialtoneref20_number⟩)::consj128
theorem consj73_ok:ConL Try.prog consj73:=⟨conj128,consj128_ok⟩
theorem conj73:ConOk Try.prog 73 ⟨[(.tmp 0 false [(.dat (.int .i64))]),(.tmp 1 true [(.dat (.int .u8)),(.dat (.list (.int .u8)))])],[(.tmp 0 false [(.dat (.list (.int .u8)))]),(.tmp 1 false [(.dat (.int .u8))])],journal_Encode⟩ :=
 tree_ok (plan:=planOf planj73) (eg:=egNo) KK tabL_ok (conOf_ok consj73_ok) Try.func73 (by kernel_rfl) (by kernel_rfl) 10000 (fun a r h=>Eq.trans (show _=journal_Encode a from by kernel_rfl) h)
def planj113:List (Nat×PL):=[]
noncomputable def dialtoneref20_Encode:(Int×(Int×(List Int)))→Option ((List Int)×Int):=fun (a1,(a2,a3)) =>
 bif (decide (a1<(0:Int))) then
 some (([]:List Int),(3:Int))
 else
 bif (decide (a1≥(1048576:Int))) then
 some (([]:List Int),(3:Int))
 else
 bif (decide ((((List.length a3):Nat):Int) > (4096:Int))) then
 some (([]:List Int),(4:Int))
 else
 bindO (dialtoneref20_number (a1,(4:Int))) fun x4 =>
 bif (decide ((2=0)∨((List.length x4)≠0))) then
 bif (decide (((List.length (((167:Int)::(a2::([]:List Int)))++x4))*1)≤140737488355328)) then
 bindO (some (((167:Int)::(a2::([]:List Int)))++x4)) fun x5 =>
 bindO (dialtoneref20_number ((((List.length a3):Nat):Int),(2:Int))) fun x6 =>
 bif (decide ((List.length x5)≤(List.length x5))) then
 bif (decide (((List.length ((List.take (List.length x5) x5)++x6))*1)≤140737488355328)) then
 bindO (some ((List.take (List.length x5) x5)++x6)) fun x7 =>
 bindO (dialtoneref20_number ((Go.IntKind.wrap .i64 ((65535:Int)-(((List.length a3):Nat):Int))),(2:Int))) fun x9 =>
 bif (decide ((List.length x7)≤(List.length x7))) then
 bif (decide (((List.length ((List.take (List.length x7) x7)++x9))*1)≤140737488355328)) then
 bindO (some ((List.take (List.length x7) x7)++x9)) fun x10 =>
 bif (decide ((List.length x10)≤(List.length x10))) then
 bif (decide (((List.length ((List.take (List.length x10) x10)++a3))*1)≤140737488355328)) then
 bindO (some ((List.take (List.length x10) x10)++a3)) fun x11 =>
 bif (decide ((List.length x11)≤(List.length x11))) then
 bindO (dialtoneref20_Check (List.take (List.length x11) x11)) fun x12 =>
 bindO (dialtoneref20_number ((Go.IntKind.wrap .i64 x12),(4:Int))) fun x14 =>
 bif (decide ((List.length x11)≤(List.length x11))) then
 bif (decide (((List.length ((List.take (List.length x11) x11)++x14))*1)≤140737488355328)) then
 bindO (some ((List.take (List.length x11) x11)++x14)) fun x15 =>
 bif (decide ((List.length x15)≤(List.length x15))) then
 some ((List.take (List.length x15) x15),(0:Int))
 else none
 else none
 else none
 else none
 else none
 else none
 else none
 else none
 else none
 else none
 else none
 else none
noncomputable def consj113:List (Nat×CE):=(73,⟨[(.tmp 0 false [(.dat (.int .i64))]),(.tmp 1 true [(.dat (.int .u8)),(.dat (.list (.int .u8)))])],[(.tmp 0 false [(.dat (.list (.int .u8)))]),(.tmp 1 false [(.dat (.int .u8))])],journal_Encode⟩)::consj73
theorem consj113_ok:ConL Try.prog consj113:=⟨conj73,consj73_ok⟩
theorem conj113:ConOk Try.prog 113 ⟨[(.tmp 0 false [(.dat (.int .i64))]),(.tmp 1 true [(.dat (.int .u8)),(.dat (.list (.int .u8)))])],[(.tmp 0 false [(.dat (.list (.int .u8)))]),(.tmp 1 false [(.dat (.int .u8))])],dialtoneref20_Encode⟩ :=
 tree_ok (plan:=planOf planj113) (eg:=egNo) KK tabL_ok (conOf_ok consj113_ok) Try.func113 (by kernel_rfl) (by kernel_rfl) 10000 (fun a r h=>Eq.trans (show _=dialtoneref20_Encode a from by kernel_rfl) h)
def planj74:List (Nat×PL):=[]
noncomputable def journal_joined:((List Int)×(List Int))→Option (List Int):=fun (a1,a2) =>
 bindO (some (Go.IntKind.wrap .i64 ((((List.length a1):Nat):Int)+(((List.length a2):Nat):Int)))) fun x3 =>
 bif (decide (((0:Int)≤x3)∧((x3≤x3)∧(((x3*(1:Int))≤(140737488355328:Int))∧(x3≤(9223372036854775807:Int)))))) then
 bif (decide ((Int.toNat x3)≤(List.length (List.replicate (Int.toNat x3) (0:Int))))) then
 bif (decide (((0:Int)≤(((List.length a1):Nat):Int))∧((((List.length a1):Nat):Int)≤(((Int.toNat x3):Nat):Int)))) then
 bif (decide (((Int.toNat (((List.length a1):Nat):Int))+((Int.toNat x3)-(Int.toNat (((List.length a1):Nat):Int))))≤(List.length (layL (List.replicate (Int.toNat x3) (0:Int)) 0 (List.take (Int.toNat x3) a1))))) then
 bif (decide ((Int.toNat x3)≤(List.length (layL (layL (List.replicate (Int.toNat x3) (0:Int)) 0 (List.take (Int.toNat x3) a1)) (Int.toNat (((List.length a1):Nat):Int)) (List.take ((Int.toNat x3)-(Int.toNat (((List.length a1):Nat):Int))) a2))))) then
 some (List.take (Int.toNat x3) (layL (layL (List.replicate (Int.toNat x3) (0:Int)) 0 (List.take (Int.toNat x3) a1)) (Int.toNat (((List.length a1):Nat):Int)) (List.take ((Int.toNat x3)-(Int.toNat (((List.length a1):Nat):Int))) a2)))
 else none
 else none
 else none
 else none
 else none
noncomputable def consj74:List (Nat×CE):=(113,⟨[(.tmp 0 false [(.dat (.int .i64))]),(.tmp 1 true [(.dat (.int .u8)),(.dat (.list (.int .u8)))])],[(.tmp 0 false [(.dat (.list (.int .u8)))]),(.tmp 1 false [(.dat (.int .u8))])],dialtoneref20_Encode⟩)::consj113
theorem consj74_ok:ConL Try.prog consj74:=⟨conj113,consj113_ok⟩
theorem conj74:ConOk Try.prog 74 ⟨[(.tmp 0 false [(.dat (.list (.int .u8)))]),(.tmp 1 false [(.dat (.list (.int .u8)))])],[(.tmp 0 false [(.dat (.list (.int .u8)))])],journal_joined⟩ :=
 tree_ok (plan:=planOf planj74) (eg:=egNo) KK tabL_ok (conOf_ok consj74_ok) Try.func74 (by kernel_rfl) (by kernel_rfl) 10000 (fun a r h=>Eq.trans (show _=journal_joined a from by kernel_rfl) h)
def planj91:List (Nat×PL):=[]
noncomputable def dialtoneref20_copied:(List Int)→Option (List Int):=fun a1 =>
 bif (decide (((List.length a1)*1)≤140737488355328)) then
 bif (decide ((List.length a1)≤(List.length a1))) then
 some (List.take (List.length a1) a1)
 else none
 else none
noncomputable def consj91:List (Nat×CE):=(74,⟨[(.tmp 0 false [(.dat (.list (.int .u8)))]),(.tmp 1 false [(.dat (.list (.int .u8)))])],[(.tmp 0 false [(.dat (.list (.int .u8)))])],journal_joined⟩)::consj74
theorem consj91_ok:ConL Try.prog consj91:=⟨conj74,consj74_ok⟩
theorem conj91:ConOk Try.prog 91 ⟨[(.tmp 0 false [(.dat (.list (.int .u8)))])],[(.tmp 0 false [(.dat (.list (.int .u8)))])],dialtoneref20_copied⟩ :=
 tree_ok (plan:=planOf planj91) (eg:=egNo) KK tabL_ok (conOf_ok consj91_ok) Try.func91 (by kernel_rfl) (by kernel_rfl) 10000 (fun a r h=>Eq.trans (show _=dialtoneref20_copied a from by kernel_rfl) h)
def planj54:List (Nat×PL):=[]
noncomputable def journal_Valid:((List Int)×(Int×Int))→Option Bool:=fun (a1,(a2,a3)) =>
 bif (decide (a2≥(0:Int))) then
 bif (decide (a2≤(((List.length a1):Nat):Int))) then
 bif (decide (a3≥(0:Int))) then
 some (decide (a3≤(1048576:Int)))
 else
 some Bool.false
 else
 some Bool.false
 else
 some Bool.false
noncomputable def consj54:List (Nat×CE):=(91,⟨[(.tmp 0 false [(.dat (.list (.int .u8)))])],[(.tmp 0 false [(.dat (.list (.int .u8)))])],dialtoneref20_copied⟩)::consj91
theorem consj54_ok:ConL Try.prog consj54:=⟨conj91,consj91_ok⟩
theorem conj54:ConOk Try.prog 54 ⟨[(.tmp 0 true [(.dat (.list (.int .u8))),(.dat (.int .i64)),(.dat (.int .i64))])],[(.tmp 0 false [(.dat .bool)])],journal_Valid⟩ :=
 tree_ok (plan:=planOf planj54) (eg:=egNo) KK tabL_ok (conOf_ok consj54_ok) Try.func54 (by kernel_rfl) (by kernel_rfl) 10000 (fun a r h=>Eq.trans (show _=journal_Valid a from by kernel_rfl) h)
def planj56:List (Nat×PL):=[]
noncomputable def dialtoneref20_Valid:((List Int)×(Int×Int))→Option Bool:=fun (a1,(a2,a3)) =>
 bif (decide (a2≥(0:Int))) then
 bif (decide (a2≤(((List.length a1):Nat):Int))) then
 bif (decide (a3≥(0:Int))) then
 some (decide (a3≤(1048576:Int)))
 else
 some Bool.false
 else
 some Bool.false
 else
 some Bool.false
noncomputable def consj56:List (Nat×CE):=(54,⟨[(.tmp 0 true [(.dat (.list (.int .u8))),(.dat (.int .i64)),(.dat (.int .i64))])],[(.tmp 0 false [(.dat .bool)])],journal_Valid⟩)::consj54
theorem consj56_ok:ConL Try.prog consj56:=⟨conj54,consj54_ok⟩
theorem conj56:ConOk Try.prog 56 ⟨[(.tmp 0 true [(.dat (.list (.int .u8))),(.dat (.int .i64)),(.dat (.int .i64))])],[(.tmp 0 false [(.dat .bool)])],dialtoneref20_Valid⟩ :=
 tree_ok (plan:=planOf planj56) (eg:=egNo) KK tabL_ok (conOf_ok consj56_ok) Try.func56 (by kernel_rfl) (by kernel_rfl) 10000 (fun a r h=>Eq.trans (show _=dialtoneref20_Valid a from by kernel_rfl) h)
def planj58:List (Nat×PL):=[]
noncomputable def dialtoneref20_SameLog:(((List Int)×(Int×Int))×((List Int)×(Int×Int)))→Option Bool:=fun ((a1,(a2,a3)),(a4,(a5,a6))) =>
 bif (decide ((bytesU a1)=(bytesU a4))) then
 bif (decide (a2=a5)) then
 some (decide (a3=a6))
 else
 some Bool.false
 else
 some Bool.false
noncomputable def consj58:List (Nat×CE):=(56,⟨[(.tmp 0 true [(.dat (.list (.int .u8))),(.dat (.int .i64)),(.dat (.int .i64))])],[(.tmp 0 false [(.dat .bool)])],dialtoneref20_Valid⟩)::consj56
theorem consj58_ok:ConL Try.prog consj58:=⟨conj56,consj56_ok⟩
theorem conj58:ConOk Try.prog 58 ⟨[(.tmp 0 true [(.dat (.list (.int .u8))),(.dat (.int .i64)),(.dat (.int .i64))]),(.tmp 1 true [(.dat (.list (.int .u8))),(.dat (.int .i64)),(.dat (.int .i64))])],[(.tmp 0 false [(.dat .bool)])],dialtoneref20_SameLog⟩ :=
 tree_ok (plan:=planOf planj58) (eg:=egNo) KK tabL_ok (conOf_ok consj58_ok) Try.func58 (by kernel_rfl) (by kernel_rfl) 10000 (fun a r h=>Eq.trans (show _=dialtoneref20_SameLog a from by kernel_rfl) h)
def planj30:List (Nat×PL):=[]
noncomputable def journal_Append:(((List Int)×(Int×Int))×(Int×(List Int)))→Option (((List Int)×(Int×Int))×Int):=fun ((a1,(a2,a3)),(a4,a5)) =>
 bindO (journal_Valid (a1,(a2,a3))) fun x6 =>
 bif (!x6) then
 some ((([]:List Int),((0:Int),(0:Int))),(2:Int))
 else
 bif (decide (a3≥(1048576:Int))) then
 some ((([]:List Int),((0:Int),(0:Int))),(10:Int))
 else
 bindO (journal_Encode (a3,(a4,a5))) fun (x8,x9) =>
 bif (decide (x9≠(0:Int))) then
 some ((([]:List Int),((0:Int),(0:Int))),x9)
 else
 bindO (journal_joined (a1,x8)) fun x10 =>
 some ((x10,(a2,(Go.IntKind.wrap .i64 (a3+(1:Int))))),(0:Int))
noncomputable def consj30:List (Nat×CE):=(58,⟨[(.tmp 0 true [(.dat (.list (.int .u8))),(.dat (.int .i64)),(.dat (.int .i64))]),(.tmp 1 true [(.dat (.list (.int .u8))),(.dat (.int .i64)),(.dat (.int .i64))])],[(.tmp 0 false [(.dat .bool)])],dialtoneref20_SameLog⟩)::consj58
theorem consj30_ok:ConL Try.prog consj30:=⟨conj58,consj58_ok⟩
theorem conj30:ConOk Try.prog 30 ⟨[(.tmp 0 true [(.dat (.list (.int .u8))),(.dat (.int .i64)),(.dat (.int .i64))]),(.tmp 1 true [(.dat (.int .u8)),(.dat (.list (.int .u8)))])],[(.tmp 0 true [(.dat (.list (.int .u8))),(.dat (.int .i64)),(.dat (.int .i64))]),(.tmp 1 false [(.dat (.int .u8))])],journal_Append⟩ :=
 tree_ok (plan:=planOf planj30) (eg:=egNo) KK tabL_ok (conOf_ok consj30_ok) Try.func30 (by kernel_rfl) (by kernel_rfl) 10000 (fun a r h=>Eq.trans (show _=journal_Append a from by kernel_rfl) h)
def planj68:List (Nat×PL):=[]
noncomputable def journal_Sync:((List Int)×(Int×Int))→Option ((List Int)×(Int×Int)):=fun (a1,(a2,a3)) =>
 bindO (journal_Valid (a1,(a2,a3))) fun x4 =>
 bif (!x4) then
 some (([]:List Int),((0:Int),(0:Int)))
 else
 bindO (journal_joined (a1,([]:List Int))) fun x5 =>
 some (x5,((((List.length a1):Nat):Int),a3))
noncomputable def consj68:List (Nat×CE):=(30,⟨[(.tmp 0 true [(.dat (.list (.int .u8))),(.dat (.int .i64)),(.dat (.int .i64))]),(.tmp 1 true [(.dat (.int .u8)),(.dat (.list (.int .u8)))])],[(.tmp 0 true [(.dat (.list (.int .u8))),(.dat (.int .i64)),(.dat (.int .i64))]),(.tmp 1 false [(.dat (.int .u8))])],journal_Append⟩)::consj30
theorem consj68_ok:ConL Try.prog consj68:=⟨conj30,consj30_ok⟩
theorem conj68:ConOk Try.prog 68 ⟨[(.tmp 0 true [(.dat (.list (.int .u8))),(.dat (.int .i64)),(.dat (.int .i64))])],[(.tmp 0 true [(.dat (.list (.int .u8))),(.dat (.int .i64)),(.dat (.int .i64))])],journal_Sync⟩ :=
 tree_ok (plan:=planOf planj68) (eg:=egNo) KK tabL_ok (conOf_ok consj68_ok) Try.func68 (by kernel_rfl) (by kernel_rfl) 10000 (fun a r h=>Eq.trans (show _=journal_Sync a from by kernel_rfl) h)
def planj33:List (Nat×PL):=[]
noncomputable def journal_Crash:(((List Int)×(Int×Int))×Int)→Option (List Int):=fun ((a1,(a2,a3)),a4) =>
 bindO (journal_Valid (a1,(a2,a3))) fun x5 =>
 bif (!x5) then
 some ([]:List Int)
 else
 bif ((decide (((0:Int)≤(minA (maxA a2 a4) (((List.length a1):Nat):Int)))∧((minA (maxA a2 a4) (((List.length a1):Nat):Int))≤(((List.length a1):Nat):Int))))&&(decide (((0:Int)≤(minA (maxA a2 a4) (((List.length a1):Nat):Int)))∧((minA (maxA a2 a4) (((List.length a1):Nat):Int))≤(((Int.toNat (minA (maxA a2 a4) (((List.length a1):Nat):Int))):Nat):Int))))) then
 bindO (journal_joined ((List.take (Int.toNat (minA (maxA a2 a4) (((List.length a1):Nat):Int))) a1),([]:List Int))) fun x7 =>
 some x7
 else none
noncomputable def consj33:List (Nat×CE):=(68,⟨[(.tmp 0 true [(.dat (.list (.int .u8))),(.dat (.int .i64)),(.dat (.int .i64))])],[(.tmp 0 true [(.dat (.list (.int .u8))),(.dat (.int .i64)),(.dat (.int .i64))])],journal_Sync⟩)::consj68
theorem consj33_ok:ConL Try.prog consj33:=⟨conj68,consj68_ok⟩
theorem conj33:ConOk Try.prog 33 ⟨[(.tmp 0 true [(.dat (.list (.int .u8))),(.dat (.int .i64)),(.dat (.int .i64))]),(.tmp 1 false [(.dat (.int .i64))])],[(.tmp 0 false [(.dat (.list (.int .u8)))])],journal_Crash⟩ :=
 tree_ok (plan:=planOf planj33) (eg:=egNo) KK tabL_ok (conOf_ok consj33_ok) Try.func33 (by kernel_rfl) (by kernel_rfl) 10000 (fun a r h=>Eq.trans (show _=journal_Crash a from by kernel_rfl) h)
def planj103:List (Nat×PL):=[(134480385,(.carry [.tmp 5 false [(.dat (.int .i64))]])),(4731607904491797741599,(.carry [.tmp 0 false [(.own 10000005 5 (.int .u8))]])),(1240362622515097827173728769,(.carry [.tmp 0 false [(.own 10000004 5 (.int .u8))]])),(35253226045953,(.carry [])),(166478653090098076060994536529463302,(.carry [.tmp 10 false [(.dat (.int .i64))],.tmp 0 false [(.own 10000003 5 (.int .u8))]])),(4731607904558101301254,(.carry [.tmp 29 false [(.dat (.int .i64))]])),(22344386578253143066077876113397569454080513,(.carry [.tmp 0 false [(.own 10000002 5 (.int .u8))],.dead 10000003])),(22344386578566252773887596188391760879421441,(.carry [.tmp 42 false [(.dat .bool)]])),(786173211465962244325487778989524158473538542178356430854,(.carry [.tmp 7 false [(.dat (.int .i64))],.tmp 0 false [(.own 10000001 5 (.int .u8))],.dead 10000003])),(5857446875251671767157990015209769763975054231041,(.carry [.tmp 46 false [(.dat .bool)]]))]
noncomputable def journal_begins:((List Int)×Int)→Option Bool:=fun (a1,a2) =>
 joinO (bif (decide ((((List.length a1):Nat):Int)≥(8:Int))) then
 bif (decide (((0:Int)≤(6:Int))∧((6:Int)<(((List.length a1):Nat):Int)))) then
 bindO a1[6]? fun x3 =>
 bif (decide (((0:Int)≤(7:Int))∧((7:Int)<(((List.length a1):Nat):Int)))) then
 bindO a1[7]? fun x6 =>
 bindO (some (Go.IntKind.wrap .i64 (((BitVec.toNat ((BitVec.ofInt 64 (Go.IntKind.wrap .i64 ((Go.IntKind.wrap .i64 x3)*(256:Int)))) ||| (BitVec.ofInt 64 (Go.IntKind.wrap .i64 x6)))):Nat):Int))) fun x8 =>
 bif (decide (x8 > (4096:Int))) then
 outO (some Bool.false)
 else
 some (Sum.inl x8)
 else none
 else none
 else
 some (Sum.inl (0:Int))) fun v9 =>
 joinO (joinO (loopO (fun (v14,v15) =>
 bif (decide (v14<(5:Int))) then
 joinO (bif (decide (((0:Int)≤v14)∧(v14<(5:Int)))) then
 bindO (((167:Int),(1:Int))::(((0:Int),(1:Int))::(((Go.IntKind.wrap .u32 a2),(4:Int))::(((Go.IntKind.wrap .u32 v9),(2:Int))::(((Go.IntKind.wrap .u32 (Go.IntKind.wrap .i64 ((65535:Int)-v9))),(2:Int))::([]:List (Int×Int)))))))[(Int.toNat v14)]? fun x16 =>
 bif (decide ((List.length v15)≤(List.length v15))) then
 loopO (fun (v18,v19) =>
 bif (decide (v18≥(0:Int))) then
 bindO (some (Go.IntKind.wrap .i64 ((8:Int)*v18))) fun x20 =>
 bif (decide ((0:Int)≤x20)) then
 bindO (some (Int.fdiv x16.1 ((2:Int) ^ (Min.min (Int.toNat x20) 32)))) fun x21 =>
 bif (decide ((List.length v19)≤(List.length v19))) then
 bif (decide (((List.length ((List.take (List.length v19) v19)++((Go.IntKind.wrap .u8 x21)::([]:List Int))))*1)≤140737488355328)) then
 bindO (some ((List.take (List.length v19) v19)++((Go.IntKind.wrap .u8 x21)::([]:List Int)))) fun x23 =>
 bif (decide ((List.length x23)≤(List.length x23))) then
 some (Sum.inl ((Go.IntKind.wrap .i64 (v18-(1:Int))),(List.take (List.length x23) x23)))
 else none
 else none
 else none
 else none
 else
 outO (bif (decide ((List.length v19)≤(List.length v19))) then
 some (Sum.inl (List.take (List.length v19) v19))
 else none)) ((Go.IntKind.wrap .i64 (x16.2-(1:Int))),(List.take (List.length v15) v15))
 else none
 else none) fun v25 =>
 bif (decide ((List.length v25)≤(List.length v25))) then
 some (Sum.inl ((Go.IntKind.wrap .i64 (v14+(1:Int))),(List.take (List.length v25) v25)))
 else none
 else
 outO (bif (decide ((List.length v15)≤(List.length v15))) then
 some (Sum.inl (List.take (List.length v15) v15))
 else none)) ((0:Int),([]:List Int))) fun v27 =>
 bif (decide ((List.length v27)≤(List.length v27))) then
 some (Sum.inl (List.take (List.length v27) v27))
 else none) fun v28 =>
 joinO (loopO (fun v29 =>
 bif (decide (v29<(minA (((List.length a1):Nat):Int) (10:Int)))) then
 joinO (bif (decide (v29=(1:Int))) then
 some (Sum.inl Bool.true)
 else
 bif (decide (v29=(6:Int))) then
 some (Sum.inl Bool.true)
 else
 some (Sum.inl (decide (v29=(7:Int))))) fun v30 =>
 bif v30 then
 some (Sum.inl (Go.IntKind.wrap .i64 (v29+(1:Int))))
 else
 joinO (bif (decide (v29=(8:Int))) then
 some (Sum.inl Bool.true)
 else
 some (Sum.inl (decide (v29=(9:Int))))) fun v32 =>
 bif v32 then
 bif (decide (((0:Int)≤v29)∧(v29<(((List.length a1):Nat):Int)))) then
 bindO a1[(Int.toNat v29)]? fun x33 =>
 bindO (some (Go.IntKind.wrap .i64 (v29-(2:Int)))) fun x34 =>
 bif (decide (((0:Int)≤x34)∧(x34<(((List.length a1):Nat):Int)))) then
 bindO a1[(Int.toNat x34)]? fun x35 =>
 bif (decide (x33≠(Go.IntKind.wrap .u8 ((255:Int)-x35)))) then
 outO (outO (some Bool.false))
 else
 some (Sum.inl (Go.IntKind.wrap .i64 (v29+(1:Int))))
 else none
 else none
 else
 bif (decide (((0:Int)≤v29)∧(v29<(((List.length a1):Nat):Int)))) then
 bindO a1[(Int.toNat v29)]? fun x38 =>
 bif (decide (((0:Int)≤v29)∧(v29<(((List.length v28):Nat):Int)))) then
 bindO v28[(Int.toNat v29)]? fun x39 =>
 bif (decide (x38≠x39)) then
 outO (outO (some Bool.false))
 else
 some (Sum.inl (Go.IntKind.wrap .i64 (v29+(1:Int))))
 else none
 else none
 else
 outO (some (Sum.inl ()))) (0:Int)) fun _ =>
 some Bool.true
noncomputable def consj103:List (Nat×CE):=(33,⟨[(.tmp 0 true [(.dat (.list (.int .u8))),(.dat (.int .i64)),(.dat (.int .i64))]),(.tmp 1 false [(.dat (.int .i64))])],[(.tmp 0 false [(.dat (.list (.int .u8)))])],journal_Crash⟩)::consj33
theorem consj103_ok:ConL Try.prog consj103:=⟨conj33,consj33_ok⟩
theorem conj103:ConOk Try.prog 103 ⟨[(.tmp 0 false [(.dat (.list (.int .u8)))]),(.tmp 1 false [(.dat (.int .i64))])],[(.tmp 0 false [(.dat .bool)])],journal_begins⟩ :=
 tree_ok (plan:=planOf planj103) (eg:=egNo) KK tabL_ok (conOf_ok consj103_ok) Try.func103 (by kernel_rfl) (by kernel_rfl) 10000 (fun a r h=>Eq.trans (show _=journal_begins a from by kernel_rfl) h)
def planj34:List (Nat×PL):=[(68853957121,(.carry [.tmp 6 false [(.own 10000002 53 (.pair (.int .u8) (.list (.int .u8))))],.mix 5 [(.dat (.list (.int .u8))),(.dat (.int .i64))]])),(18049651735267334,(.carry [.tmp 6 false [(.own 10000001 53 (.pair (.int .u8) (.list (.int .u8))))],.mix 5 [(.dat (.list (.int .u8))),(.dat (.int .i64))]])),(635065662727478061920772423698,(.carry [.tmp 0 true [(.dat (.int .u8)),(.dat (.list (.int .u8)))],.tmp 1 false [(.dat (.int .u8))],.mix 5 [(.dat (.list (.int .u8))),(.dat (.int .i64))]])),(1535494553643848147957046146350893561080790863294234647,(.carry [.tmp 0 false [(.own 10000007 5 (.int .u8))]])),(402520684270412928898051904989008641675962840067403847303681,(.carry [.tmp 0 false [(.own 10000006 5 (.int .u8))]])),(54025411715780160938522070313696604858113844606274311243558855903238,(.carry [.tmp 10 false [(.dat (.int .i64))],.tmp 0 false [(.own 10000005 5 (.int .u8))]])),(7251168014756594948642779955360605585369802588399192599875324273611992465921,(.carry [.tmp 0 false [(.own 10000004 5 (.int .u8))],.dead 10000005])),(255127793509833283213226307541386370055522207196370380466337639895518932455627391984994310,(.carry [.tmp 7 false [(.dat (.int .i64))],.tmp 0 false [(.own 10000003 5 (.int .u8))],.dead 10000005]))]
noncomputable def journal_Scan:(List Int)→Option ((List (Int×(List Int)))×(Int×Int)):=fun a1 =>
 joinO (loopO (fun (v2,(v3,v4)) =>
 bif (decide (v4<(((List.length a1):Nat):Int))) then
 bif (decide ((((List.length v2):Nat):Int)≥(1048576:Int))) then
 outO (outO (bif (decide ((List.length v2)≤(List.length v2))) then
 some ((List.take (List.length v2) v2),(v4,(5:Int)))
 else none))
 else
 joinO (bif ((decide (((0:Int)≤(((List.length v3):Nat):Int))∧((((List.length v3):Nat):Int)≤(((List.length v3):Nat):Int))))&&((decide (((0:Int)≤(((List.length v3):Nat):Int))∧((((List.length v3):Nat):Int)≤(((Int.toNat (((List.length v3):Nat):Int)):Nat):Int))))&&(decide (((0:Int)≤v4)∧(v4≤(((Int.toNat (((List.length v3):Nat):Int)):Nat):Int)))))) then
 bindO (some (List.take ((Int.toNat (((List.length v3):Nat):Int))-(Int.toNat v4)) (List.drop (Int.toNat v4) v3))) fun x5 =>
 bindO (journal_begins (x5,(((List.length v2):Nat):Int))) fun x6 =>
 bif (!x6) then
 some (Sum.inl (((0:Int),([]:List Int)),((5:Int),(v3,v4))))
 else
 bif (decide ((((List.length x5):Nat):Int)<(10:Int))) then
 some (Sum.inl (((0:Int),([]:List Int)),((6:Int),(v3,v4))))
 else
 bif (decide (((0:Int)≤(6:Int))∧((6:Int)<(((List.length x5):Nat):Int)))) then
 bindO x5[6]? fun x7 =>
 bif (decide (((0:Int)≤(7:Int))∧((7:Int)<(((List.length x5):Nat):Int)))) then
 bindO x5[7]? fun x10 =>
 bindO (some (Go.IntKind.wrap .i64 (((BitVec.toNat ((BitVec.ofInt 64 (Go.IntKind.wrap .i64 ((Go.IntKind.wrap .i64 x7)*(256:Int)))) ||| (BitVec.ofInt 64 (Go.IntKind.wrap .i64 x10)))):Nat):Int))) fun x12 =>
 bindO (some (Go.IntKind.wrap .i64 ((10:Int)+x12))) fun x13 =>
 bif (decide ((((List.length x5):Nat):Int)<(Go.IntKind.wrap .i64 (x13+(4:Int))))) then
 some (Sum.inl (((0:Int),([]:List Int)),((6:Int),(v3,v4))))
 else
 bif ((decide (((0:Int)≤x13)∧(x13≤(((List.length x5):Nat):Int))))&&(decide (((0:Int)≤x13)∧(x13≤(((Int.toNat x13):Nat):Int))))) then
 bindO (journal_Check (List.take (Int.toNat x13) x5)) fun x16 =>
 joinO (joinO (loopO (fun (v17,v18) =>
 bif (decide (v17<(1:Int))) then
 joinO (bif (decide (((0:Int)≤v17)∧(v17<(1:Int)))) then
 bindO ((x16,(4:Int))::([]:List (Int×Int)))[(Int.toNat v17)]? fun x19 =>
 bif (decide ((List.length v18)≤(List.length v18))) then
 loopO (fun (v21,v22) =>
 bif (decide (v21≥(0:Int))) then
 bindO (some (Go.IntKind.wrap .i64 ((8:Int)*v21))) fun x23 =>
 bif (decide ((0:Int)≤x23)) then
 bindO (some (Int.fdiv x19.1 ((2:Int) ^ (Min.min (Int.toNat x23) 32)))) fun x24 =>
 bif (decide ((List.length v22)≤(List.length v22))) then
 bif (decide (((List.length ((List.take (List.length v22) v22)++((Go.IntKind.wrap .u8 x24)::([]:List Int))))*1)≤140737488355328)) then
 bindO (some ((List.take (List.length v22) v22)++((Go.IntKind.wrap .u8 x24)::([]:List Int)))) fun x26 =>
 bif (decide ((List.length x26)≤(List.length x26))) then
 some (Sum.inl ((Go.IntKind.wrap .i64 (v21-(1:Int))),(List.take (List.length x26) x26)))
 else none
 else none
 else none
 else none
 else
 outO (bif (decide ((List.length v22)≤(List.length v22))) then
 some (Sum.inl (List.take (List.length v22) v22))
 else none)) ((Go.IntKind.wrap .i64 (x19.2-(1:Int))),(List.take (List.length v18) v18))
 else none
 else none) fun v28 =>
 bif (decide ((List.length v28)≤(List.length v28))) then
 some (Sum.inl ((Go.IntKind.wrap .i64 (v17+(1:Int))),(List.take (List.length v28) v28)))
 else none
 else
 outO (bif (decide ((List.length v18)≤(List.length v18))) then
 some (Sum.inl (List.take (List.length v18) v18))
 else none)) ((0:Int),([]:List Int))) fun v30 =>
 bif (decide ((List.length v30)≤(List.length v30))) then
 some (Sum.inl (List.take (List.length v30) v30))
 else none) fun v31 =>
 bif (decide ((List.length v31)≤(List.length v31))) then
 bindO (some (Go.IntKind.wrap .i64 (x13+(4:Int)))) fun x32 =>
 bindO (some (Go.IntKind.wrap .i64 (x13+(4:Int)))) fun x33 =>
 bif ((decide (((0:Int)≤x33)∧(x33≤(((List.length x5):Nat):Int))))&&((decide (((0:Int)≤x32)∧(x32≤(((Int.toNat x33):Nat):Int))))&&(decide (((0:Int)≤x13)∧(x13≤(((Int.toNat x32):Nat):Int)))))) then
 bif (decide ((bytesU (List.take (List.length v31) v31))≠(bytesU (List.take ((Int.toNat x32)-(Int.toNat x13)) (List.drop (Int.toNat x13) x5))))) then
 some (Sum.inl (((0:Int),([]:List Int)),((11:Int),(v3,v4))))
 else
 bif (decide (((0:Int)≤x12)∧((x12≤x12)∧(((x12*(1:Int))≤(140737488355328:Int))∧(x12≤(9223372036854775807:Int)))))) then
 bif ((decide (((0:Int)≤x13)∧(x13≤(((List.length x5):Nat):Int))))&&((decide (((0:Int)≤x13)∧(x13≤(((Int.toNat x13):Nat):Int))))&&(decide (((0:Int)≤(10:Int))∧((10:Int)≤(((Int.toNat x13):Nat):Int)))))) then
 bindO (some (List.take ((Int.toNat x13)-10) (List.drop 10 x5))) fun x35 =>
 bif (decide ((Int.toNat x12)≤(List.length (List.replicate (Int.toNat x12) (0:Int))))) then
 bif (decide (((0:Int)≤(1:Int))∧((1:Int)<(((List.length x5):Nat):Int)))) then
 bindO x5[1]? fun x38 =>
 bif (decide ((Int.toNat x12)≤(List.length (layL (List.replicate (Int.toNat x12) (0:Int)) 0 (List.take (Int.toNat x12) x35))))) then
 some (Sum.inl ((x38,(List.take (Int.toNat x12) (layL (List.replicate (Int.toNat x12) (0:Int)) 0 (List.take (Int.toNat x12) x35)))),((0:Int),(v3,(Go.IntKind.wrap .i64 (v4+(Go.IntKind.wrap .i64 (x13+(4:Int)))))))))
 else none
 else none
 else none
 else none
 else none
 else none
 else none
 else none
 else none
 else none
 else none) fun ((v39,v40),(v41,(v42,v43))) =>
 bif (decide (v41≠(0:Int))) then
 outO (outO (bif (decide ((List.length v2)≤(List.length v2))) then
 some ((List.take (List.length v2) v2),(v43,v41))
 else none))
 else
 bif (decide ((List.length v2)≤(List.length v2))) then
 bif (decide (((List.length ((List.take (List.length v2) v2)++((v39,v40)::([]:List (Int×(List Int))))))*32)≤140737488355328)) then
 bindO (some ((List.take (List.length v2) v2)++((v39,v40)::([]:List (Int×(List Int)))))) fun x44 =>
 bif (decide ((List.length x44)≤(List.length x44))) then
 some (Sum.inl ((List.take (List.length x44) x44),(v42,v43)))
 else none
 else none
 else none
 else
 outO (bif (decide ((List.length v2)≤(List.length v2))) then
 some (Sum.inl ((List.take (List.length v2) v2),(v3,v4)))
 else none)) (([]:List (Int×(List Int))),(a1,(0:Int)))) fun (v45,(v46,v47)) =>
 bif (decide ((List.length v45)≤(List.length v45))) then
 some ((List.take (List.length v45) v45),(v47,(0:Int)))
 else none
noncomputable def consj34:List (Nat×CE):=(103,⟨[(.tmp 0 false [(.dat (.list (.int .u8)))]),(.tmp 1 false [(.dat (.int .i64))])],[(.tmp 0 false [(.dat .bool)])],journal_begins⟩)::consj103
theorem consj34_ok:ConL Try.prog consj34:=⟨conj103,consj103_ok⟩
theorem conj34:ConOk Try.prog 34 ⟨[(.tmp 0 false [(.dat (.list (.int .u8)))])],[(.tmp 0 false [(.dat (.list (.pair (.int .u8) (.list (.int .u8)))))]),(.tmp 1 false [(.dat (.int .i64))]),(.tmp 2 false [(.dat (.int .u8))])],journal_Scan⟩ :=
 tree_ok (plan:=planOf planj34) (eg:=egNo) KK tabL_ok (conOf_ok consj34_ok) Try.func34 (by kernel_rfl) (by kernel_rfl) 10000 (fun a r h=>Eq.trans (show _=journal_Scan a from by kernel_rfl) h)
def planj70:List (Nat×PL):=[]
noncomputable def journal_Recover:(List Int)→Option (((List Int)×(Int×Int))×(List (Int×(List Int)))):=fun a1 =>
 bindO (journal_Scan a1) fun (x3,(x4,x5)) =>
 bif ((decide (((0:Int)≤x4)∧(x4≤(((List.length a1):Nat):Int))))&&(decide (((0:Int)≤x4)∧(x4≤(((Int.toNat x4):Nat):Int))))) then
 bindO (journal_joined ((List.take (Int.toNat x4) a1),([]:List Int))) fun x7 =>
 some ((x7,(x4,(((List.length x3):Nat):Int))),x3)
 else none
noncomputable def consj70:List (Nat×CE):=(34,⟨[(.tmp 0 false [(.dat (.list (.int .u8)))])],[(.tmp 0 false [(.dat (.list (.pair (.int .u8) (.list (.int .u8)))))]),(.tmp 1 false [(.dat (.int .i64))]),(.tmp 2 false [(.dat (.int .u8))])],journal_Scan⟩)::consj34
theorem consj70_ok:ConL Try.prog consj70:=⟨conj34,consj34_ok⟩
theorem conj70:ConOk Try.prog 70 ⟨[(.tmp 0 false [(.dat (.list (.int .u8)))])],[(.tmp 0 true [(.dat (.list (.int .u8))),(.dat (.int .i64)),(.dat (.int .i64))]),(.tmp 1 false [(.dat (.list (.pair (.int .u8) (.list (.int .u8)))))])],journal_Recover⟩ :=
 tree_ok (plan:=planOf planj70) (eg:=egNo) KK tabL_ok (conOf_ok consj70_ok) Try.func70 (by kernel_rfl) (by kernel_rfl) 10000 (fun a r h=>Eq.trans (show _=journal_Recover a from by kernel_rfl) h)
end Go.Proofs.Ytkpijdndakljjaa

namespace Go.Proofs.Ytkpijdndakljjaa
open Go.RowKit
abbrev UBl:U := .pair .str (.pair .str (.pair .str (.pair (.int .i64) (.pair (.int .i64) (.pair (.int .i64) (.pair (.int .i64) (.pair (.int .i64) (.pair (.int .i64) .bool))))))))
end Go.Proofs.Ytkpijdndakljjaa
