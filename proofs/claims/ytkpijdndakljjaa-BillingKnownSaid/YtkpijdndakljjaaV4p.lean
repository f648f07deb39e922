import Derived.Test.YtkpijdndakljjaaXBp
import Derived.Test.YtkpijdndakljjaaU0p
import Derived.Lib.Overlaps
import Derived.Test.YtkpijdndakljjaaXAp
import Derived.OrdersIn
import Derived.ControlIn
import Derived.RangeFuncLeaves
import Derived.RangeFuncCalls
import Derived.RangeFuncRecord
import Derived.RangeFuncKeeps
import Derived.Shelf.Abstract
import Derived.WalkKit
import Derived.OwnWalkIn
import Derived.TacticsInMore
import Derived.LoopNIn
import Derived.LoopIn
import Derived.Test.YtkpijdndakljjaaProg
set_option linter.unusedSimpArgs false
set_option linter.unusedVariables false
set_option maxRecDepth 100000
namespace Go.Proofs.Ytkpijdndakljjaa
open Go.RowKit
theorem doesO_us {P:Program} {GL:Nat→Option (List DV)} {f:FuncId} {args:List AV} {os us us':List (Nat×AO)} {v:AV} (h:DoesO P GL f args os v us) (hu:lookF us=lookF us'):DoesO P GL f args os v us':=fun E w vs h1 h2 h3 h4=>by
 refine (h E w vs h1 h2 h3 h4).mono ?_
 rintro e w' ⟨u,E',k1,k2,k3,k4⟩
 exact ⟨u,E',k1,k2,k3.trans hu,k4⟩
theorem doesO_room {P:Program} {GL:Nat→Option (List DV)} {f:FuncId} {r1 r3 e s n n':Nat} {args:List AV} {os os':List (Nat×AO)} {cs cs':List DV} (h1:1≤n) (h13:r1≠r3) (ho3:look r3 os'=none)
 (h:∀c,n≤c→c≤maxLen→DoesO P GL f (.sl r1 0 n (some c)::args) ((r1,.data e s cs true)::os) (.sl r1 0 n' (some c)) ((r1,.data e s cs' true)::os') ∨
   DoesO P GL f (.sl r1 0 n (some c)::args) ((r1,.data e s cs true)::os) (.sl r3 0 n' none) ((r3,.data e s cs' true)::(r1,.dead)::os')) :
 DoesO P GL f (.sl r1 0 n none::args) ((r1,.data e s cs true)::os) (.sl r3 0 n' none) ((r3,.data e s cs' true)::(r1,.dead)::os'):=fun E w vs hE hw hs hrel=>by
 have ho1:E.hp r1=some (.data e s cs true):=by rw [hE];simp [lookF,look]
 rw [RelL] at hrel
 obtain ⟨u1,vs',e1,hx,hrest⟩:=hrel
 have hx0:=hx
 rw [Rel,ho1] at hx
 rcases hx with ⟨h0,_⟩ | ⟨b,z,c,g1,e2,g3,g4,g5,g6⟩
 ·omega
 have g6':0+c*s=z:=g6
 have hrel':RelL E (.sl r1 0 n (some c)::args) vs.toList:=by
  rw [RelL]
  refine ⟨u1,vs',e1,?_,hrest⟩
  rw [Rel,ho1]
  exact .inr ⟨b,z,c,g1,e2,g3,g4,g5,rfl⟩
 rcases h c g3 g4 with hA | hB
 ·refine (hA E w vs hE hw hs hrel').mono ?_
  rintro ex w' ⟨u,E',rfl,k2,k3,k4,k5,k6,k7⟩
  have ho1':E'.hp r1=some (.data e s cs' true):=by rw [k3];simp [lookF,look]
  have hn3:E'.hp r3=none:=by rw [k3];simp [lookF,look,h13,ho3]
  have hmv:=move_goes (w:=w') k2 k4 ho1' hn3
  have hm:E'.m r1=E.m r1:=by
   obtain ⟨o',q1,_,q3⟩:=k5.ob r1 _ ho1
   rw [ho1'] at q1
   cases q1
   rcases q3 with q3 | q3
   ·cases q3
   ·exact q3
  refine ⟨u,_,rfl,hmv.h,?_,hmv.sim,k5.trans hmv.ext,k6.trans hmv.fr,?_⟩
  ·rw [hmv.hp,k3]
   funext q
   simp only [updF,lookF,look]
   by_cases q3:r3=q
   ·subst q3;simp
   ·by_cases q1:r1=q
    ·subst q1;simp [q3]
    ·simp [q3,q1]
  ·rw [Rel,ho1'] at k7
   rcases k7 with ⟨_,hc,_⟩ | ⟨b',z',c',p1,p2,p3,p4,p5,p6⟩
   ·rcases hc with hc | hc
    ·cases hc
    ·cases hc;omega
   have p6':c'=c:=p6
   subst p6'
   rw [hm,g1] at p1
   cases p1
   have e2':(moveE E' r1 r3 (.data e s cs' true)).hp r3=some (.data e s cs' true):=by simp [moveE,updF,look]
   have e3':(moveE E' r1 r3 (.data e s cs' true)).m r3=some (b,z):=by simp [moveE,hm,g1]
   rw [Rel,e2']
   exact .inr ⟨b,z,c',e3',p2,p3,p4,p5,g6'⟩
 ·exact hB E w vs hE hw hs hrel'
theorem overlaps_E {r2 r1 off2 n2 off1 n1:Nat} {cap2 cap1:Option Nat} {hp:Nat→Option AO} {cs2 cs1:List DV} (h2:hp r2=some (.data 29 10 cs2 true)) (h1:hp r1=some (.data 29 10 cs1 true)) (hne:r2≠r1) (hn2:1≤n2) (hn1:1≤n1) :
 DoesE Try.prog (fun _=>none) 80 [.sl r2 off2 n2 cap2,.sl r1 off1 n1 cap1] [r2,r1] (aBool false) [] hp:=fun E w vs hrd hw hs hrel=>by
 rw [←hrd r2 (by simp)] at h2
 rw [←hrd r1 (by simp)] at h1
 obtain ⟨vl⟩:=vs
 simp only [RelL] at hrel
 obtain ⟨u2,vs2,rfl,hx2,u1,vs1,rfl,hx1,rfl⟩:=hrel
 obtain ⟨b2,cur2,c2,p1,p2,p3,rfl,p4,p5⟩:=sl_real hs hx2 h2 hn2
 obtain ⟨b1,cur1,c1,q1,q2,q3,rfl,q4,q5⟩:=sl_real hs hx1 h1 hn1
 have hb:b2≠b1:=fun e=>by
  subst e
  exact hne (hs.inj r2 r1 _ _ b2 _ _ h2 h1 rfl rfl p1 q1)
 have w2:w.heap[b2]? = some (.cells cur2 29 (0,0)):=by rw [hw];exact p2
 have w1:w.heap[b1]? = some (.cells cur1 29 (0,0)):=by rw [hw];exact q2
 refine ⟨.bool false,w,E,?_,Goes.refl hw hs,rel_bool _⟩
 have hti:(tiOf Try.prog 29).map (·.size)=some 10:=by rw [KK.hT];kernel_rfl
 have hsz:∀w,(Go.sizeOf 29).run Try.prog w = .ok 10 w:=fun w=>by
  obtain ⟨i,hi,h10⟩:=Option.map_eq_some_iff.1 hti
  rw [run_sizeOf hi,h10]
 rw [run_callFunc_extern Try.func80 (by kernel_rfl) (by kernel_rfl) (by kernel_rfl) (e:=Extern.SlicesOverlaps.overlaps #[25,25] #[4]) (by kernel_rfl),
  Lib.run_overlaps_apart w 25 4 29 (by kernel_rfl) 10 hsz ⟨b2,off2,none⟩ ⟨b1,off1,none⟩ n2 c2 n1 c1 hb 29 29 cur2.size cur1.size (by unfold World.shape?;rw [w2]) (by unfold World.shape?;rw [w1]) (by omega)
   (by unfold World.frozen?;rw [w2];simp) (by unfold World.frozen?;rw [w2];simp)]
 rfl
theorem p_ixleN {p:Pr} (hp:p=real) {i:Int} {n:Nat} (h:(n:Int)<i):p.ixle i n=none:=by
 rw [hp]
 show (if 0≤i∧i≤n then some i.toNat else none)=none
 rw [if_neg (by omega)]
theorem splice_td {α:Type}:∀(l:List α) (o:Nat) (new:List α),o≤l.length→splice l o new=l.take o++(new++l.drop (o+new.length))
 | l,0,new,_=>by cases l<;>simp [splice]
 | [],o+1,new,h=>by simp at h
 | x::l,o+1,new,h=>by
   rw [splice,splice_td l o new (by simpa using h),List.take_succ_cons,List.cons_append,show o+1+new.length=(o+new.length)+1 from by omega,List.drop_succ_cons]
theorem ins_list {α:Type} {cs vs:List α} {a k:Nat} (hv:vs.length=k) (ha:a+k≤cs.length):splice (cs.take (a+k)++cs.drop a) a vs=cs.take a++vs++cs.drop a:=by
 rw [splice_td _ _ _ (by simp;omega),hv]
 have e1:(List.take (a+k) cs++List.drop a cs).take a=cs.take a:=by
  rw [List.take_append_of_le_length (by rw [List.length_take];omega),List.take_take,Nat.min_eq_left (by omega)]
 have e2:(List.take (a+k) cs++List.drop a cs).drop (a+k)=cs.drop a:=by
  rw [List.drop_append_of_le_length (by rw [List.length_take];omega),List.drop_eq_nil_of_le (by rw [List.length_take];omega),List.nil_append]
 rw [e1,e2,List.append_assoc]
theorem ins_list2 {α:Type} {cs vs zs:List α} {a k:Nat} (hv:vs.length=k) (ha:a≤cs.length) (hz:zs.length=k+(cs.length-a)):splice (splice (cs.take a++zs) a vs) (a+k) (cs.drop a)=cs.take a++vs++cs.drop a:=by
 have l1:(cs.take a).length=a:=by rw [List.length_take];omega
 have e0:splice (cs.take a++zs) a vs=cs.take a++vs++zs.drop k:=by
  rw [splice_td _ _ _ (by simp;omega),hv,List.take_append_of_le_length (by omega),List.take_of_length_le (by omega),List.drop_append,l1]
  rw [List.drop_eq_nil_of_le (by omega),List.nil_append,show a+k-a=k from by omega,List.append_assoc]
 have l2:(cs.take a++vs).length=a+k:=by rw [List.length_append,l1,hv]
 rw [e0,splice_td _ _ _ (by rw [List.length_append,l2];omega),List.take_append_of_le_length (by omega),List.take_of_length_le (by omega)]
 have e3:(cs.take a++vs++zs.drop k).drop (a+k+(cs.drop a).length)=[]:=List.drop_eq_nil_of_le (by rw [List.length_append,l2,List.length_drop,List.length_drop];omega)
 rw [e3,List.append_nil]
theorem del_list {α:Type} {cs:List α} {a b:Nat} (hab:a≤b) (hb:b≤cs.length):(splice cs a (cs.drop b)).take (a+(cs.length-b))=cs.take a++cs.drop b:=by
 rw [splice_td _ _ _ (by omega),←List.append_assoc,List.take_append_of_le_length (by rw [List.length_append,List.length_take,List.length_drop];omega),List.take_of_length_le (by rw [List.length_append,List.length_take,List.length_drop];omega)]
theorem call_pE {P:Program} {GL:Nat→Option (List DV)} {N:Nat} {hp0:Nat→Option AO} {C:Cxt} (hC:C=cxtOf P GL N hp0) {f:FuncId} {args:List AV} {rds:List Nat} {v:AV} {us:List (Nat×AO)} {rd:Nat→Option AO} {X:AV→List (Nat×AO)→List Nat→Prop} (h:DoesE P GL f args rds v us rd) (h1:X v us rds):∃v us rds,C.D f args rds v us rd∧X v us rds:=by
 subst hC
 exact ⟨v,us,rds,.inr h,h1⟩
end Go.Proofs.Ytkpijdndakljjaa

namespace Go.Proofs.Ytkpijdndakljjaa
open Go.RowKit
set_option maxHeartbeats 4000000
set_option maxRecDepth 10000
theorem ins_end {cs vs T:List DV} {n N:Nat} (hT:T=cs++vs) (hN:N=n+1) {kz:Int} (hkz:kz=n) (hw:cs.length=n*10) (hv:vs.length=1*10) (h2:n≤1000000):DoesO Try.prog (fun _=>none) 46 [.sl 20000001 0 n none,.d (.val (.int .i64 kz)),.sl 20000002 0 1 none] [(20000001,.data 29 10 cs true),(20000002,.data 29 10 vs true)] (.sl 20000003 0 N none) [(20000003,.data 29 10 T true),(20000001,.dead),(20000002,.data 29 10 vs true)]:=by
 refine does_p KK (fn:=Try.f46) Try.func46 rfl (by show 3≤_;decide) ?_
 intro C F p hC hF hp
 conv=>cbv
 obtain ⟨j1,hj1,lj1,ej1⟩:=p_ixleE (i:=kz) (n:=n) hp (by omega) (by omega)
 simp only [ej1]
 conv=>cbv
 have ez2:(p.zi 1)=1:=by rw [hp];rfl
 simp only [ez2];clear ez2
 conv=>cbv
 have e4:(p.cmp .eql 1 0)=false:=by rw [p_cmp_eql hp];exact decide_eq_false (by omega)
 simp only [e4];clear e4
 conv=>cbv
 obtain ⟨z5,hz5⟩:∃z:Int,z=((n:Nat):Int):=⟨_,rfl⟩
 have ez5:(p.zi n)=z5:=by rw [hz5];exact p_zi hp
 simp only [ez5]
 conv=>cbv
 have e6:(p.cmp .eql kz z5)=true:=by rw [p_cmp_eql hp];exact decide_eq_true (by omega)
 simp only [e6];clear e6
 conv=>cbv
 have ez7:(p.nm 1 10)=10:=by rw [hp];rfl
 simp only [ez7];clear ez7
 conv=>cbv
 have ez8:(p.na 0 10)=10:=by rw [hp];rfl
 simp only [ez8];clear ez8
 conv=>cbv
 obtain ⟨z9,hz9⟩:∃z:Nat,z=(vs).length:=⟨_,rfl⟩
 have ez9:(p.len vs)=z9:=by rw [hz9];exact p_len hp
 simp only [ez9]
 conv=>cbv
 have e10:(p.nle 10 z9)=true:=p_nle hp (by omega)
 simp only [e10];clear e10
 conv=>cbv
 have e11:(p.neq 0 0)=true:=p_neq hp (by omega)
 simp only [e11];clear e11
 conv=>cbv
 obtain ⟨z12,hz12⟩:∃z:Nat,z=n*10:=⟨_,rfl⟩
 have ez12:(p.nm n 10)=z12:=by rw [hz12];exact p_nm hp
 simp only [ez12]
 conv=>cbv
 obtain ⟨z13,hz13⟩:∃z:Nat,z=(cs).length:=⟨_,rfl⟩
 have ez13:(p.len cs)=z13:=by rw [hz13];exact p_len hp
 simp only [ez13]
 conv=>cbv
 have e14:(p.neq z12 z13)=true:=p_neq hp (by omega)
 simp only [e14];clear e14
 conv=>cbv
 have e15:(p.fit n 1 104)=true:=p_fit hp (by omega) (by show _≤9223372036854775807;omega)
 simp only [e15];clear e15
 conv=>cbv
 obtain ⟨z16,hz16⟩:∃z:Nat,z=n+1:=⟨_,rfl⟩
 have ez16:(p.na n 1)=z16:=by rw [hz16];exact p_na hp
 simp only [ez16]
 conv=>cbv
 have ez17:(p.cut vs 0 10)=vs:=p_cutAll hp (by omega)
 simp only [ez17]
 conv=>cbv
 obtain ⟨z18,hz18⟩:∃z:List DV,z=cs++vs:=⟨_,rfl⟩
 have ez18:(p.app cs vs)=z18:=by rw [hz18];exact p_app hp
 simp only [ez18]
 have lz18:z18.length=(cs).length+(vs).length:=by rw [hz18];simp only [List.length_append,List.length_cons,List.length_nil]<;>omega
 conv=>cbv
 obtain rfl:T=z18:=by rw [hT,hz18]
 obtain rfl:N=z16:=by omega
 exact back_obj [(20000003,1702),(20000001,20000001),(20000002,20000002)] rfl rfl ⟨⟨rfl,rfl,rfl⟩,trivial,⟨rfl,rfl,rfl⟩,trivial⟩ rfl rfl
theorem ins_in {cs vs T:List DV} {n i c N:Nat} (hT:T=cs.take (i*10)++vs++cs.drop (i*10)) (hN:N=n+1) {kz:Int} (hkz:kz=i) (hw:cs.length=n*10) (hv:vs.length=1*10) (h2:n≤1000000) (hi:i<n) (hc:n+1≤c) (hc2:c≤9223372036854775807):DoesO Try.prog (fun _=>none) 46 [.sl 20000001 0 n (some c),.d (.val (.int .i64 kz)),.sl 20000002 0 1 none] [(20000001,.data 29 10 cs true),(20000002,.data 29 10 vs true)] (.sl 20000001 0 N (some c)) [(20000001,.data 29 10 T true),(20000002,.data 29 10 vs true)]:=by
 refine does_p KK (fn:=Try.f46) Try.func46 rfl (by show 3≤_;decide) ?_
 intro C F p hC hF hp
 conv=>cbv
 obtain ⟨j19,hj19,lj19,ej19⟩:=p_ixleE (i:=kz) (n:=n) hp (by omega) (by omega)
 simp only [ej19]
 conv=>cbv
 have ez20:(p.zi 1)=1:=by rw [hp];rfl
 simp only [ez20];clear ez20
 conv=>cbv
 have e22:(p.cmp .eql 1 0)=false:=by rw [p_cmp_eql hp];exact decide_eq_false (by omega)
 simp only [e22];clear e22
 conv=>cbv
 obtain ⟨z23,hz23⟩:∃z:Int,z=((n:Nat):Int):=⟨_,rfl⟩
 have ez23:(p.zi n)=z23:=by rw [hz23];exact p_zi hp
 simp only [ez23]
 conv=>cbv
 have e25:(p.cmp .eql kz z23)=false:=by rw [p_cmp_eql hp];exact decide_eq_false (by omega)
 simp only [e25];clear e25
 conv=>cbv
 obtain ⟨z26,hz26⟩:∃z:Int,z=z23+1:=⟨_,rfl⟩
 have ez26:(p.ar .add .i64 z23 1)=z26:=by rw [hz26];exact p_add hp (by omega) (by omega)
 simp only [ez26]
 conv=>cbv
 obtain ⟨z27,hz27⟩:∃z:Int,z=((c:Nat):Int):=⟨_,rfl⟩
 have ez27:(p.zi c)=z27:=by rw [hz27];exact p_zi hp
 simp only [ez27]
 conv=>cbv
 have e29:(p.cmp .gtr z26 z27)=false:=by rw [p_cmp_gtr hp];exact decide_eq_false (by omega)
 simp only [e29];clear e29
 conv=>cbv
 simp only [ez26]
 conv=>cbv
 have e31:(p.ixle (z26) (n))=none:=p_ixleN hp (by omega)
 simp only [e31];clear e31
 conv=>cbv
 obtain ⟨j32,hj32,lj32,ej32⟩:=p_ixleE (i:=z26) (n:=c) hp (by omega) (by omega)
 simp only [ej32]
 conv=>cbv
 obtain ⟨z33,hz33⟩:∃z:Int,z=kz+1:=⟨_,rfl⟩
 have ez33:(p.ar .add .i64 kz 1)=z33:=by rw [hz33];exact p_add hp (by omega) (by omega)
 simp only [ez33]
 conv=>cbv
 have ez34:(p.ns j32 0)=j32:=by rw [p_ns hp];omega
 simp only [ez34];clear ez34
 conv=>cbv
 obtain ⟨j35,hj35,lj35,ej35⟩:=p_ixleE (i:=z33) (n:=j32) hp (by omega) (by omega)
 simp only [ej35]
 conv=>cbv
 have ez36:(p.nm 0 10)=0:=by rw [hp];rfl
 simp only [ez36];clear ez36
 conv=>cbv
 have ez37:(p.na 0 0)=0:=by rw [hp];rfl
 simp only [ez37];clear ez37
 conv=>cbv
 obtain ⟨z38,hz38⟩:∃z:Nat,z=j35*10:=⟨_,rfl⟩
 have ez38:(p.nm j35 10)=z38:=by rw [hz38];exact p_nm hp
 simp only [ez38]
 conv=>cbv
 have ez39:(p.na 0 z38)=z38:=by rw [p_na hp];omega
 simp only [ez39];clear ez39
 conv=>cbv
 obtain ⟨z40,hz40⟩:∃z:Nat,z=j32-j35:=⟨_,rfl⟩
 have ez40:(p.ns j32 j35)=z40:=by rw [hz40];exact p_ns hp
 simp only [ez40]
 conv=>cbv
 have ez41:(p.ns c 0)=c:=by rw [p_ns hp];omega
 simp only [ez41];clear ez41
 conv=>cbv
 obtain ⟨z42,hz42⟩:∃z:Nat,z=c-j35:=⟨_,rfl⟩
 have ez42:(p.ns c j35)=z42:=by rw [hz42];exact p_ns hp
 simp only [ez42]
 conv=>cbv
 refine call_pE hC (overlaps_E rfl rfl (by decide) (by omega) (by omega)) ?_;refine ⟨by decide_cbv,?_⟩
 conv=>cbv
 simp only [ez33]
 conv=>cbv
 simp only [ej35]
 conv=>cbv
 obtain ⟨j44,hj44,lj44,ej44⟩:=p_ixleE (i:=kz) (n:=j32) hp (by omega) (by omega)
 simp only [ej44]
 conv=>cbv
 obtain ⟨z45,hz45⟩:∃z:Nat,z=j44*10:=⟨_,rfl⟩
 have ez45:(p.nm j44 10)=z45:=by rw [hz45];exact p_nm hp
 simp only [ez45]
 conv=>cbv
 have ez46:(p.na 0 z45)=z45:=by rw [p_na hp];omega
 simp only [ez46];clear ez46
 conv=>cbv
 obtain ⟨z47,hz47⟩:∃z:Nat,z=j32-j44:=⟨_,rfl⟩
 have ez47:(p.ns j32 j44)=z47:=by rw [hz47];exact p_ns hp
 simp only [ez47]
 conv=>cbv
 obtain ⟨z48,hz48⟩:∃z:Nat,z=z47*10:=⟨_,rfl⟩
 have ez48:(p.nm z47 10)=z48:=by rw [hz48];exact p_nm hp
 simp only [ez48]
 conv=>cbv
 obtain ⟨z49,hz49⟩:∃z:Nat,z=z45+z48:=⟨_,rfl⟩
 have ez49:(p.na z45 z48)=z49:=by rw [hz49];exact p_na hp
 simp only [ez49]
 conv=>cbv
 obtain ⟨z50,hz50⟩:∃z:Nat,z=(cs).length:=⟨_,rfl⟩
 have ez50:(p.len cs)=z50:=by rw [hz50];exact p_len hp
 simp only [ez50]
 conv=>cbv
 have e52:(p.nle z49 z50)=false:=p_nleF hp (by omega)
 simp only [e52];clear e52
 conv=>cbv
 simp only [ez40]
 conv=>cbv
 have e53:(p.nle 1 z40)=true:=p_nle hp (by omega)
 simp only [e53];clear e53
 conv=>cbv
 have e54:(p.nle 1 z47)=true:=p_nle hp (by omega)
 simp only [e54];clear e54
 conv=>cbv
 simp only [ez38]
 conv=>cbv
 have ez55:(p.na 0 z38)=z38:=by rw [p_na hp];omega
 simp only [ez55];clear ez55
 conv=>cbv
 simp only [ez50]
 conv=>cbv
 have e56:(p.nle z38 z50)=true:=p_nle hp (by omega)
 simp only [e56];clear e56
 conv=>cbv
 obtain ⟨z57,hz57⟩:∃z:Nat,z=min z47 z40:=⟨_,rfl⟩
 have ez57:(p.nmin z47 z40)=z57:=by rw [hz57];exact p_nmin hp
 simp only [ez57]
 conv=>cbv
 obtain ⟨z58,hz58⟩:∃z:Nat,z=z57*10:=⟨_,rfl⟩
 have ez58:(p.nm z57 10)=z58:=by rw [hz58];exact p_nm hp
 simp only [ez58]
 conv=>cbv
 obtain ⟨z59,hz59⟩:∃z:Nat,z=z45+z58:=⟨_,rfl⟩
 have ez59:(p.na z45 z58)=z59:=by rw [hz59];exact p_na hp
 simp only [ez59]
 conv=>cbv
 have e60:(p.nle z59 z50)=true:=p_nle hp (by omega)
 simp only [e60];clear e60
 conv=>cbv
 simp only [ej44]
 conv=>cbv
 have ez61:(p.nm 1 10)=10:=by rw [hp];rfl
 simp only [ez61];clear ez61
 conv=>cbv
 have ez62:(p.na 0 10)=10:=by rw [hp];rfl
 simp only [ez62];clear ez62
 conv=>cbv
 obtain ⟨z63,hz63⟩:∃z:Nat,z=(vs).length:=⟨_,rfl⟩
 have ez63:(p.len vs)=z63:=by rw [hz63];exact p_len hp
 simp only [ez63]
 conv=>cbv
 have e64:(p.nle 10 z63)=true:=p_nle hp (by omega)
 simp only [e64];clear e64
 conv=>cbv
 simp only [ez45]
 conv=>cbv
 have ez65:(p.na 0 z45)=z45:=by rw [p_na hp];omega
 simp only [ez65];clear ez65
 conv=>cbv
 simp only [ez47]
 conv=>cbv
 simp only [ez48]
 conv=>cbv
 simp only [ez49]
 conv=>cbv
 obtain ⟨z66,hz66⟩:∃z:List DV,z=((cs).drop 0).take z38:=⟨_,rfl⟩
 have ez66:(p.cut cs 0 z38)=z66:=by rw [hz66];exact p_cutE hp
 simp only [ez66]
 have lz66:z66.length=min z38 ((cs).length-0):=by rw [hz66];simp only [List.length_take,List.length_drop,List.length_cons,List.length_nil]<;>omega
 conv=>cbv
 obtain ⟨z67,hz67⟩:∃z:List DV,z=((cs).drop z45).take z58:=⟨_,rfl⟩
 have ez67:(p.cut cs z45 z58)=z67:=by rw [hz67];exact p_cutE hp
 simp only [ez67]
 have lz67:z67.length=min z58 ((cs).length-z45):=by rw [hz67];simp only [List.length_take,List.length_drop,List.length_cons,List.length_nil]<;>omega
 conv=>cbv
 obtain ⟨z68,hz68⟩:∃z:List DV,z=z66++z67:=⟨_,rfl⟩
 have ez68:(p.app z66 z67)=z68:=by rw [hz68];exact p_app hp
 simp only [ez68]
 have lz68:z68.length=(z66).length+(z67).length:=by rw [hz68];simp only [List.length_append,List.length_cons,List.length_nil]<;>omega
 conv=>cbv
 obtain ⟨z69,hz69⟩:∃z:Nat,z=(z68).length:=⟨_,rfl⟩
 have ez69:(p.len z68)=z69:=by rw [hz69];exact p_len hp
 simp only [ez69]
 conv=>cbv
 have e70:(p.nle z49 z69)=true:=p_nle hp (by omega)
 simp only [e70];clear e70
 conv=>cbv
 have ez71:(p.cut vs 0 10)=vs:=p_cutAll hp (by omega)
 simp only [ez71]
 conv=>cbv
 obtain ⟨z72,hz72⟩:∃z:Nat,z=min 1 z47:=⟨_,rfl⟩
 have ez72:(p.nmin 1 z47)=z72:=by rw [hz72];exact p_nmin hp
 simp only [ez72]
 conv=>cbv
 obtain ⟨z73,hz73⟩:∃z:Nat,z=z72*10:=⟨_,rfl⟩
 have ez73:(p.nm z72 10)=z73:=by rw [hz73];exact p_nm hp
 simp only [ez73]
 conv=>cbv
 have ez74:(p.cut vs 0 z73)=vs:=p_cutAll hp (by omega)
 simp only [ez74]
 conv=>cbv
 obtain ⟨z75,hz75⟩:∃z:List DV,z=splice z68 z45 vs:=⟨_,rfl⟩
 have ez75:(p.spl z68 z45 vs)=z75:=by rw [hz75];exact p_spl hp
 simp only [ez75]
 have lz75:z75.length=(z68).length:=by rw [hz75,splice_len _ _ _ (by (try simp only [List.length_cons,List.length_nil]);omega)]<;>(try simp only [List.length_cons,List.length_nil])<;>omega
 conv=>cbv
 obtain rfl:T=z75:=by
  have e1:z67=cs.drop (i*10):=by rw [hz67,List.take_of_length_le (by rw [List.length_drop];omega),show z45=i*10 from by omega]
  rw [hz75,hz68,hz66,e1,List.drop_zero,show z38=i*10+10 from by omega,show z45=i*10 from by omega,ins_list (by omega) (by omega),hT]
 obtain rfl:N=j32:=by omega
 exact back_obj [(20000001,20000001),(20000002,20000002)] rfl rfl ⟨⟨rfl,rfl,rfl⟩,⟨rfl,rfl,rfl⟩,trivial⟩ rfl rfl
theorem ins_grow {cs vs T:List DV} {n i N:Nat} (hT:T=cs.take (i*10)++vs++cs.drop (i*10)) (hN:N=n+1) {kz:Int} (hkz:kz=i) (hw:cs.length=n*10) (hv:vs.length=1*10) (h2:n≤1000000) (hi:i<n):DoesO Try.prog (fun _=>none) 46 [.sl 20000001 0 n (some n),.d (.val (.int .i64 kz)),.sl 20000002 0 1 none] [(20000001,.data 29 10 cs true),(20000002,.data 29 10 vs true)] (.sl 20000003 0 N none) [(20000003,.data 29 10 T true),(20000001,.dead),(20000002,.data 29 10 vs true)]:=by
 refine does_p KK (fn:=Try.f46) Try.func46 rfl (by show 3≤_;decide) ?_
 intro C F p hC hF hp
 conv=>cbv
 obtain ⟨j76,hj76,lj76,ej76⟩:=p_ixleE (i:=kz) (n:=n) hp (by omega) (by omega)
 simp only [ej76]
 conv=>cbv
 have ez77:(p.zi 1)=1:=by rw [hp];rfl
 simp only [ez77];clear ez77
 conv=>cbv
 have e79:(p.cmp .eql 1 0)=false:=by rw [p_cmp_eql hp];exact decide_eq_false (by omega)
 simp only [e79];clear e79
 conv=>cbv
 obtain ⟨z80,hz80⟩:∃z:Int,z=((n:Nat):Int):=⟨_,rfl⟩
 have ez80:(p.zi n)=z80:=by rw [hz80];exact p_zi hp
 simp only [ez80]
 conv=>cbv
 have e82:(p.cmp .eql kz z80)=false:=by rw [p_cmp_eql hp];exact decide_eq_false (by omega)
 simp only [e82];clear e82
 conv=>cbv
 obtain ⟨z83,hz83⟩:∃z:Int,z=z80+1:=⟨_,rfl⟩
 have ez83:(p.ar .add .i64 z80 1)=z83:=by rw [hz83];exact p_add hp (by omega) (by omega)
 simp only [ez83]
 conv=>cbv
 simp only [ez80]
 conv=>cbv
 have e84:(p.cmp .gtr z83 z80)=true:=by rw [p_cmp_gtr hp];exact decide_eq_true (by omega)
 simp only [e84];clear e84
 conv=>cbv
 simp only [ej76]
 conv=>cbv
 simp only [ez83]
 conv=>cbv
 obtain ⟨z85,hz85⟩:∃z:Int,z=z83-kz:=⟨_,rfl⟩
 have ez85:(p.ar .sub .i64 z83 kz)=z85:=by rw [hz85];exact p_sub hp (by omega) (by omega)
 simp only [ez85]
 conv=>cbv
 have e86:(p.cmp .lss 0 z85)=true:=by rw [p_cmp_lss hp];exact decide_eq_true (by omega)
 simp only [e86];clear e86
 conv=>cbv
 have e87:(p.cmp .leq z85 140737488355328)=true:=by rw [p_cmp_leq hp];exact decide_eq_true (by omega)
 simp only [e87];clear e87
 conv=>cbv
 have ez88:(p.ns j76 0)=j76:=by rw [p_ns hp];omega
 simp only [ez88];clear ez88
 conv=>cbv
 obtain ⟨z89,hz89⟩:∃z:Nat,z=(z85).toNat:=⟨_,rfl⟩
 have ez89:(p.tn z85)=z89:=by rw [hz89];exact p_tn hp
 simp only [ez89]
 conv=>cbv
 obtain ⟨z90,hz90⟩:∃z:Nat,z=j76+z89:=⟨_,rfl⟩
 have ez90:(p.na j76 z89)=z90:=by rw [hz90];exact p_na hp
 simp only [ez90]
 conv=>cbv
 have ez91:(p.ns n 0)=n:=by rw [p_ns hp];omega
 simp only [ez91];clear ez91
 conv=>cbv
 have e93:(p.nle z90 n)=false:=p_nleF hp (by omega)
 simp only [e93];clear e93
 conv=>cbv
 have ez94:(p.nm 0 10)=0:=by rw [hp];rfl
 simp only [ez94];clear ez94
 conv=>cbv
 have ez95:(p.na 0 0)=0:=by rw [hp];rfl
 simp only [ez95];clear ez95
 conv=>cbv
 obtain ⟨z96,hz96⟩:∃z:Nat,z=j76*10:=⟨_,rfl⟩
 have ez96:(p.nm j76 10)=z96:=by rw [hz96];exact p_nm hp
 simp only [ez96]
 conv=>cbv
 have ez97:(p.na 0 z96)=z96:=by rw [p_na hp];omega
 simp only [ez97];clear ez97
 conv=>cbv
 obtain ⟨z98,hz98⟩:∃z:Nat,z=(cs).length:=⟨_,rfl⟩
 have ez98:(p.len cs)=z98:=by rw [hz98];exact p_len hp
 simp only [ez98]
 conv=>cbv
 have e99:(p.nle z96 z98)=true:=p_nle hp (by omega)
 simp only [e99];clear e99
 conv=>cbv
 have e100:(p.fit j76 z89 104)=true:=p_fit hp (by omega) (by show _≤9223372036854775807;omega)
 simp only [e100];clear e100
 conv=>cbv
 obtain ⟨j101,hj101,lj101,ej101⟩:=p_ixleE (i:=kz) (n:=z90) hp (by omega) (by omega)
 simp only [ej101]
 conv=>cbv
 have ez102:(p.nm 1 10)=10:=by rw [hp];rfl
 simp only [ez102];clear ez102
 conv=>cbv
 have ez103:(p.na 0 10)=10:=by rw [hp];rfl
 simp only [ez103];clear ez103
 conv=>cbv
 obtain ⟨z104,hz104⟩:∃z:Nat,z=(vs).length:=⟨_,rfl⟩
 have ez104:(p.len vs)=z104:=by rw [hz104];exact p_len hp
 simp only [ez104]
 conv=>cbv
 have e105:(p.nle 10 z104)=true:=p_nle hp (by omega)
 simp only [e105];clear e105
 conv=>cbv
 obtain ⟨z106,hz106⟩:∃z:Nat,z=j101*10:=⟨_,rfl⟩
 have ez106:(p.nm j101 10)=z106:=by rw [hz106];exact p_nm hp
 simp only [ez106]
 conv=>cbv
 have ez107:(p.na 0 z106)=z106:=by rw [p_na hp];omega
 simp only [ez107];clear ez107
 conv=>cbv
 obtain ⟨z108,hz108⟩:∃z:Nat,z=z90-j101:=⟨_,rfl⟩
 have ez108:(p.ns z90 j101)=z108:=by rw [hz108];exact p_ns hp
 simp only [ez108]
 conv=>cbv
 obtain ⟨z109,hz109⟩:∃z:Nat,z=z108*10:=⟨_,rfl⟩
 have ez109:(p.nm z108 10)=z109:=by rw [hz109];exact p_nm hp
 simp only [ez109]
 conv=>cbv
 obtain ⟨z110,hz110⟩:∃z:Nat,z=z106+z109:=⟨_,rfl⟩
 have ez110:(p.na z106 z109)=z110:=by rw [hz110];exact p_na hp
 simp only [ez110]
 conv=>cbv
 obtain ⟨z111,hz111⟩:∃z:List DV,z=((cs).drop 0).take z96:=⟨_,rfl⟩
 have ez111:(p.cut cs 0 z96)=z111:=by rw [hz111];exact p_cutE hp
 simp only [ez111]
 have lz111:z111.length=min z96 ((cs).length-0):=by rw [hz111];simp only [List.length_take,List.length_drop,List.length_cons,List.length_nil]<;>omega
 conv=>cbv
 obtain ⟨z112,hz112⟩:∃z:List DV,z=repD z89 ([DV.val (Value.string {data:={toList:=[]}}),DV.val (Value.string {data:={toList:=[]}}),
  DV.val (Value.string {data:={toList:=[]}}),DV.val (Value.int .i64 0),
  DV.val (Value.int .i64 0),DV.val (Value.int .i64 0),DV.val (Value.int .i64 0),
  DV.val (Value.int .i64 0),DV.val (Value.int .i64 0),DV.val (Value.bool false)]):=⟨_,rfl⟩
 have ez112:(p.rep z89 ([DV.val (Value.string {data:={toList:=[]}}),DV.val (Value.string {data:={toList:=[]}}),
  DV.val (Value.string {data:={toList:=[]}}),DV.val (Value.int .i64 0),
  DV.val (Value.int .i64 0),DV.val (Value.int .i64 0),DV.val (Value.int .i64 0),
  DV.val (Value.int .i64 0),DV.val (Value.int .i64 0),DV.val (Value.bool false)]))=z112:=by rw [hz112];exact p_rep hp
 simp only [ez112]
 have lz112:z112.length=z89*10:=by rw [hz112,repD_len]<;>(try simp only [List.length_cons,List.length_nil])<;>omega
 conv=>cbv
 obtain ⟨z113,hz113⟩:∃z:List DV,z=z111++z112:=⟨_,rfl⟩
 have ez113:(p.app z111 z112)=z113:=by rw [hz113];exact p_app hp
 simp only [ez113]
 have lz113:z113.length=(z111).length+(z112).length:=by rw [hz113];simp only [List.length_append,List.length_cons,List.length_nil]<;>omega
 conv=>cbv
 obtain ⟨z114,hz114⟩:∃z:Nat,z=(z113).length:=⟨_,rfl⟩
 have ez114:(p.len z113)=z114:=by rw [hz114];exact p_len hp
 simp only [ez114]
 conv=>cbv
 have e115:(p.nle z110 z114)=true:=p_nle hp (by omega)
 simp only [e115];clear e115
 conv=>cbv
 obtain ⟨z116,hz116⟩:∃z:Int,z=kz+1:=⟨_,rfl⟩
 have ez116:(p.ar .add .i64 kz 1)=z116:=by rw [hz116];exact p_add hp (by omega) (by omega)
 simp only [ez116]
 conv=>cbv
 obtain ⟨j117,hj117,lj117,ej117⟩:=p_ixleE (i:=z116) (n:=z90) hp (by omega) (by omega)
 simp only [ej117]
 conv=>cbv
 simp only [ej76]
 conv=>cbv
 simp only [ez96]
 conv=>cbv
 have ez118:(p.na 0 z96)=z96:=by rw [p_na hp];omega
 simp only [ez118];clear ez118
 conv=>cbv
 obtain ⟨z119,hz119⟩:∃z:Nat,z=n-j76:=⟨_,rfl⟩
 have ez119:(p.ns n j76)=z119:=by rw [hz119];exact p_ns hp
 simp only [ez119]
 conv=>cbv
 obtain ⟨z120,hz120⟩:∃z:Nat,z=z119*10:=⟨_,rfl⟩
 have ez120:(p.nm z119 10)=z120:=by rw [hz120];exact p_nm hp
 simp only [ez120]
 conv=>cbv
 obtain ⟨z121,hz121⟩:∃z:Nat,z=z96+z120:=⟨_,rfl⟩
 have ez121:(p.na z96 z120)=z121:=by rw [hz121];exact p_na hp
 simp only [ez121]
 conv=>cbv
 simp only [ez98]
 conv=>cbv
 have e122:(p.nle z121 z98)=true:=p_nle hp (by omega)
 simp only [e122];clear e122
 conv=>cbv
 obtain ⟨z123,hz123⟩:∃z:Nat,z=j117*10:=⟨_,rfl⟩
 have ez123:(p.nm j117 10)=z123:=by rw [hz123];exact p_nm hp
 simp only [ez123]
 conv=>cbv
 have ez124:(p.na 0 z123)=z123:=by rw [p_na hp];omega
 simp only [ez124];clear ez124
 conv=>cbv
 obtain ⟨z125,hz125⟩:∃z:Nat,z=z90-j117:=⟨_,rfl⟩
 have ez125:(p.ns z90 j117)=z125:=by rw [hz125];exact p_ns hp
 simp only [ez125]
 conv=>cbv
 obtain ⟨z126,hz126⟩:∃z:Nat,z=z125*10:=⟨_,rfl⟩
 have ez126:(p.nm z125 10)=z126:=by rw [hz126];exact p_nm hp
 simp only [ez126]
 conv=>cbv
 obtain ⟨z127,hz127⟩:∃z:Nat,z=z123+z126:=⟨_,rfl⟩
 have ez127:(p.na z123 z126)=z127:=by rw [hz127];exact p_na hp
 simp only [ez127]
 conv=>cbv
 have ez128:(p.cut vs 0 10)=vs:=p_cutAll hp (by omega)
 simp only [ez128]
 conv=>cbv
 obtain ⟨z129,hz129⟩:∃z:Nat,z=min 1 z108:=⟨_,rfl⟩
 have ez129:(p.nmin 1 z108)=z129:=by rw [hz129];exact p_nmin hp
 simp only [ez129]
 conv=>cbv
 obtain ⟨z130,hz130⟩:∃z:Nat,z=z129*10:=⟨_,rfl⟩
 have ez130:(p.nm z129 10)=z130:=by rw [hz130];exact p_nm hp
 simp only [ez130]
 conv=>cbv
 have ez131:(p.cut vs 0 z130)=vs:=p_cutAll hp (by omega)
 simp only [ez131]
 conv=>cbv
 obtain ⟨z132,hz132⟩:∃z:List DV,z=splice z113 z106 vs:=⟨_,rfl⟩
 have ez132:(p.spl z113 z106 vs)=z132:=by rw [hz132];exact p_spl hp
 simp only [ez132]
 have lz132:z132.length=(z113).length:=by rw [hz132,splice_len _ _ _ (by (try simp only [List.length_cons,List.length_nil]);omega)]<;>(try simp only [List.length_cons,List.length_nil])<;>omega
 conv=>cbv
 obtain ⟨z133,hz133⟩:∃z:Nat,z=(z132).length:=⟨_,rfl⟩
 have ez133:(p.len z132)=z133:=by rw [hz133];exact p_len hp
 simp only [ez133]
 conv=>cbv
 have e134:(p.nle z127 z133)=true:=p_nle hp (by omega)
 simp only [e134];clear e134
 conv=>cbv
 obtain ⟨z135,hz135⟩:∃z:List DV,z=((cs).drop z96).take z120:=⟨_,rfl⟩
 have ez135:(p.cut cs z96 z120)=z135:=by rw [hz135];exact p_cutE hp
 simp only [ez135]
 have lz135:z135.length=min z120 ((cs).length-z96):=by rw [hz135];simp only [List.length_take,List.length_drop,List.length_cons,List.length_nil]<;>omega
 conv=>cbv
 obtain ⟨z136,hz136⟩:∃z:Nat,z=min z119 z125:=⟨_,rfl⟩
 have ez136:(p.nmin z119 z125)=z136:=by rw [hz136];exact p_nmin hp
 simp only [ez136]
 conv=>cbv
 obtain ⟨z137,hz137⟩:∃z:Nat,z=z136*10:=⟨_,rfl⟩
 have ez137:(p.nm z136 10)=z137:=by rw [hz137];exact p_nm hp
 simp only [ez137]
 conv=>cbv
 have ez138:(p.cut z135 0 z137)=z135:=p_cutAll hp (by omega)
 simp only [ez138]
 conv=>cbv
 obtain ⟨z139,hz139⟩:∃z:List DV,z=splice z132 z123 z135:=⟨_,rfl⟩
 have ez139:(p.spl z132 z123 z135)=z139:=by rw [hz139];exact p_spl hp
 simp only [ez139]
 have lz139:z139.length=(z132).length:=by rw [hz139,splice_len _ _ _ (by (try simp only [List.length_cons,List.length_nil]);omega)]<;>(try simp only [List.length_cons,List.length_nil])<;>omega
 conv=>cbv
 obtain rfl:T=z139:=by
  have e1:z135=cs.drop (i*10):=by rw [hz135,List.take_of_length_le (by rw [List.length_drop];omega),show z96=i*10 from by omega]
  rw [hz139,hz132,hz113,hz111,e1,List.drop_zero,show z96=i*10 from by omega,show z106=i*10 from by omega,show z123=i*10+10 from by omega,ins_list2 (by omega) (by omega) (by omega),hT]
 obtain rfl:N=z90:=by omega
 exact back_obj [(20000003,1908),(20000001,20000001),(20000002,20000002)] rfl rfl ⟨⟨rfl,rfl,rfl⟩,trivial,⟨rfl,rfl,rfl⟩,trivial⟩ rfl rfl
theorem del_in {cs T:List DV} {n i c N:Nat} (hT:T=cs.take (i*10)++cs.drop ((i+1)*10)) (hN:N+1=n) {kz kj:Int} (hkz:kz=i) (hkj:kj=i+1) (hw:cs.length=n*10) (h2:n≤1000000) (hi:i<n) (hc:n≤c) (hc2:c≤9223372036854775807):DoesO Try.prog (fun _=>none) 88 [.sl 20000001 0 n (some c),.d (.val (.int .i64 kz)),.d (.val (.int .i64 kj))] [(20000001,.data 29 10 cs true)] (.sl 20000001 0 N (some c)) [(20000001,.data 29 10 T true)]:=by
 refine does_p KK (fn:=Try.f88) Try.func88 rfl (by show 3≤_;decide) ?_
 intro C F p hC hF hp
 conv=>cbv
 obtain ⟨z140,hz140⟩:∃z:Int,z=((n:Nat):Int):=⟨_,rfl⟩
 have ez140:(p.zi n)=z140:=by rw [hz140];exact p_zi hp
 simp only [ez140]
 conv=>cbv
 obtain ⟨j141,hj141,lj141,ej141⟩:=p_ixleE (i:=z140) (n:=n) hp (by omega) (by omega)
 simp only [ej141]
 conv=>cbv
 obtain ⟨j142,hj142,lj142,ej142⟩:=p_ixleE (i:=kj) (n:=j141) hp (by omega) (by omega)
 simp only [ej142]
 conv=>cbv
 obtain ⟨j143,hj143,lj143,ej143⟩:=p_ixleE (i:=kz) (n:=j142) hp (by omega) (by omega)
 simp only [ej143]
 conv=>cbv
 have e145:(p.cmp .eql kz kj)=false:=by rw [p_cmp_eql hp];exact decide_eq_false (by omega)
 simp only [e145];clear e145
 conv=>cbv
 obtain ⟨j146,hj146,lj146,ej146⟩:=p_ixleE (i:=kz) (n:=n) hp (by omega) (by omega)
 simp only [ej146]
 conv=>cbv
 obtain ⟨j147,hj147,lj147,ej147⟩:=p_ixleE (i:=kj) (n:=n) hp (by omega) (by omega)
 simp only [ej147]
 conv=>cbv
 obtain ⟨z148,hz148⟩:∃z:Nat,z=j147*10:=⟨_,rfl⟩
 have ez148:(p.nm j147 10)=z148:=by rw [hz148];exact p_nm hp
 simp only [ez148]
 conv=>cbv
 have ez149:(p.na 0 z148)=z148:=by rw [p_na hp];omega
 simp only [ez149];clear ez149
 conv=>cbv
 obtain ⟨z150,hz150⟩:∃z:Nat,z=n-j147:=⟨_,rfl⟩
 have ez150:(p.ns n j147)=z150:=by rw [hz150];exact p_ns hp
 simp only [ez150]
 conv=>cbv
 obtain ⟨z151,hz151⟩:∃z:Nat,z=z150*10:=⟨_,rfl⟩
 have ez151:(p.nm z150 10)=z151:=by rw [hz151];exact p_nm hp
 simp only [ez151]
 conv=>cbv
 obtain ⟨z152,hz152⟩:∃z:Nat,z=z148+z151:=⟨_,rfl⟩
 have ez152:(p.na z148 z151)=z152:=by rw [hz152];exact p_na hp
 simp only [ez152]
 conv=>cbv
 obtain ⟨z153,hz153⟩:∃z:Nat,z=(cs).length:=⟨_,rfl⟩
 have ez153:(p.len cs)=z153:=by rw [hz153];exact p_len hp
 simp only [ez153]
 conv=>cbv
 have e154:(p.nle z152 z153)=true:=p_nle hp (by omega)
 simp only [e154];clear e154
 conv=>cbv
 have ez155:(p.ns c 0)=c:=by rw [p_ns hp];omega
 simp only [ez155];clear ez155
 conv=>cbv
 have ez156:(p.ns j146 0)=j146:=by rw [p_ns hp];omega
 simp only [ez156];clear ez156
 conv=>cbv
 have e158:(p.neq c j146)=false:=p_neqf hp (by omega)
 simp only [e158];clear e158
 conv=>cbv
 have ez159:(p.nm 0 10)=0:=by rw [hp];rfl
 simp only [ez159];clear ez159
 conv=>cbv
 have ez160:(p.na 0 0)=0:=by rw [hp];rfl
 simp only [ez160];clear ez160
 conv=>cbv
 have e161:(p.neq 0 0)=true:=p_neq hp (by omega)
 simp only [e161];clear e161
 conv=>cbv
 obtain ⟨z162,hz162⟩:∃z:Nat,z=j146+z150:=⟨_,rfl⟩
 have ez162:(p.na j146 z150)=z162:=by rw [hz162];exact p_na hp
 simp only [ez162]
 conv=>cbv
 have e163:(p.nle z162 c)=true:=p_nle hp (by omega)
 simp only [e163];clear e163
 conv=>cbv
 obtain ⟨z164,hz164⟩:∃z:Nat,z=z162*10:=⟨_,rfl⟩
 have ez164:(p.nm z162 10)=z164:=by rw [hz164];exact p_nm hp
 simp only [ez164]
 conv=>cbv
 simp only [ez153]
 conv=>cbv
 have e165:(p.nle z164 z153)=true:=p_nle hp (by omega)
 simp only [e165];clear e165
 conv=>cbv
 simp only [ez140]
 conv=>cbv
 have e167:(p.ixle (z140) (z162))=none:=p_ixleN hp (by omega)
 simp only [e167];clear e167
 conv=>cbv
 obtain ⟨j168,hj168,lj168,ej168⟩:=p_ixleE (i:=z140) (n:=c) hp (by omega) (by omega)
 simp only [ej168]
 conv=>cbv
 obtain ⟨z169,hz169⟩:∃z:Int,z=((z162:Nat):Int):=⟨_,rfl⟩
 have ez169:(p.zi z162)=z169:=by rw [hz169];exact p_zi hp
 simp only [ez169]
 conv=>cbv
 obtain ⟨j170,hj170,lj170,ej170⟩:=p_ixleE (i:=z169) (n:=j168) hp (by omega) (by omega)
 simp only [ej170]
 conv=>cbv
 obtain ⟨z171,hz171⟩:∃z:Nat,z=j168-j170:=⟨_,rfl⟩
 have ez171:(p.ns j168 j170)=z171:=by rw [hz171];exact p_ns hp
 simp only [ez171]
 conv=>cbv
 have e172:(p.nle 1 z171)=true:=p_nle hp (by omega)
 simp only [e172];clear e172
 conv=>cbv
 obtain ⟨z173,hz173⟩:∃z:Nat,z=j170*10:=⟨_,rfl⟩
 have ez173:(p.nm j170 10)=z173:=by rw [hz173];exact p_nm hp
 simp only [ez173]
 conv=>cbv
 have ez174:(p.na 0 z173)=z173:=by rw [p_na hp];omega
 simp only [ez174];clear ez174
 conv=>cbv
 obtain ⟨z175,hz175⟩:∃z:Nat,z=j146*10:=⟨_,rfl⟩
 have ez175:(p.nm j146 10)=z175:=by rw [hz175];exact p_nm hp
 simp only [ez175]
 conv=>cbv
 obtain ⟨z176,hz176⟩:∃z:List DV,z=((cs).drop z148).take z151:=⟨_,rfl⟩
 have ez176:(p.cut cs z148 z151)=z176:=by rw [hz176];exact p_cutE hp
 simp only [ez176]
 have lz176:z176.length=min z151 ((cs).length-z148):=by rw [hz176];simp only [List.length_take,List.length_drop,List.length_cons,List.length_nil]<;>omega
 conv=>cbv
 obtain ⟨z177,hz177⟩:∃z:List DV,z=splice cs z175 z176:=⟨_,rfl⟩
 have ez177:(p.spl cs z175 z176)=z177:=by rw [hz177];exact p_spl hp
 simp only [ez177]
 have lz177:z177.length=(cs).length:=by rw [hz177,splice_len _ _ _ (by (try simp only [List.length_cons,List.length_nil]);omega)]<;>(try simp only [List.length_cons,List.length_nil])<;>omega
 conv=>cbv
 obtain ⟨z178,hz178⟩:∃z:Nat,z=(z177).length:=⟨_,rfl⟩
 have ez178:(p.len z177)=z178:=by rw [hz178];exact p_len hp
 simp only [ez178]
 conv=>cbv
 have e179:(p.nle z173 z178)=true:=p_nle hp (by omega)
 simp only [e179];clear e179
 conv=>cbv
 obtain ⟨z180,hz180⟩:∃z:List DV,z=((z177).drop 0).take z173:=⟨_,rfl⟩
 have ez180:(p.cut z177 0 z173)=z180:=by rw [hz180];exact p_cutE hp
 simp only [ez180]
 have lz180:z180.length=min z173 ((z177).length-0):=by rw [hz180];simp only [List.length_take,List.length_drop,List.length_cons,List.length_nil]<;>omega
 conv=>cbv
 obtain rfl:T=z180:=by
  have e1:z176=cs.drop ((i+1)*10):=by rw [hz176,List.take_of_length_le (by rw [List.length_drop];omega),show z148=(i+1)*10 from by omega]
  rw [hz180,hz177,e1,List.drop_zero,show z175=i*10 from by omega,show z173=i*10+(cs.length-(i+1)*10) from by omega,del_list (by omega) (by omega),hT]
 obtain rfl:N=z162:=by omega
 exact back_obj [(20000001,20000001)] rfl rfl ⟨⟨rfl,rfl,rfl⟩,trivial⟩ rfl rfl
end Go.Proofs.Ytkpijdndakljjaa

namespace Go.Proofs.Ytkpijdndakljjaa
open Go.RowKit
set_option maxHeartbeats 4000000
set_option maxRecDepth 10000
theorem grow_back {e z q:Nat} {cs:List DV} {hp:List (Nat×AO)} (h:look q hp=some (.data e z cs true)):Back [] hp [(20000003,.data e z [] true)] (.sl 20000003 0 0 none) (.sl q 0 0 none):=by
 refine ⟨fun r=>if r=20000003 then some q else none,fun r o h=>(by cases h),⟨fun r' o ho => ?_,fun r' r'' o' o'' r h1 h2 h3 h4 h5 h6 => ?_⟩,?_⟩
 ·unfold lookF at ho
  rw [look] at ho
  split at ho
  ·rename_i hk;subst hk;cases ho
   show ∃wr1 cs1,_
   exact ⟨true,cs,h,.inr (.inr ⟨0,by simp⟩),fun h=>h,fun h=>by cases h⟩
  ·cases ho
 ·split at h5
  ·split at h6
   ·rename_i a b;rw [a,b]
   ·cases h6
  ·cases h5
 ·rw [WkV]
  exact ⟨rfl,.inl ⟨q,if_pos rfl,rfl⟩⟩
theorem grow_back0 {e z:Nat} {hp:List (Nat×AO)}:Back [] hp [(20000003,.data e z [] true)] (.sl 20000003 0 0 none) (.d (.val (.slice none 0 0))):=by
 refine ⟨fun r=>none,fun r o h=>(by cases h),⟨fun r' o ho => ?_,fun r' r'' o' o'' r h1 h2 h3 h4 h5 h6=>(by cases h5)⟩,?_⟩
 ·unfold lookF at ho
  rw [look] at ho
  split at ho
  ·rename_i hk;subst hk;cases ho;rfl
  ·cases ho
 ·rw [WkV]
  exact ⟨rfl,.inr (.inl ⟨rfl,rfl,rfl,rfl,rfl⟩)⟩
theorem grow1 {n:Int} (h1:1≤n) (h2:n≤1000000):DoesO Try.prog (fun _=>none) 99 [.d (.val (.slice none 0 0)),.d (.val (.int .i64 n))] [] (.sl 20000003 0 0 none) [(20000003,.data 29 10 [] true)]:=by
 refine does_p KK (fn:=Try.f99) Try.func99 rfl (by show 2≤_;decide) ?_
 intro C F p hC hF hp
 conv=>cbv
 have e2:(p.cmp .lss n 0)=false:=by rw [p_cmp_lss hp];exact decide_eq_false (by omega)
 simp only [e2];clear e2
 conv=>cbv
 have ez3:(p.ar .sub .i64 0 0)=(0):=by rw [hp];rfl
 simp only [ez3];clear ez3
 conv=>cbv
 obtain ⟨z4,hz4⟩:∃z:Int,z=n-0:=⟨_,rfl⟩
 have ez4:(p.ar .sub .i64 n 0)=z4:=by rw [hz4];exact p_sub hp (by omega) (by omega)
 simp only [ez4]
 conv=>cbv
 have e5:(p.cmp .gtr z4 0)=true:=by rw [p_cmp_gtr hp];exact decide_eq_true (by omega)
 simp only [e5];clear e5
 conv=>cbv
 obtain ⟨j6,hj6,lj6,ej6⟩:=p_ixleE (i:=0) (n:=0) hp (by omega) (by omega)
 simp only [ej6]
 conv=>cbv
 have e7:(p.cmp .lss 0 z4)=true:=by rw [p_cmp_lss hp];exact decide_eq_true (by omega)
 simp only [e7];clear e7
 conv=>cbv
 have e8:(p.cmp .leq z4 140737488355328)=true:=by rw [p_cmp_leq hp];exact decide_eq_true (by omega)
 simp only [e8];clear e8
 conv=>cbv
 obtain ⟨z9,hz9⟩:∃z:Nat,z=(z4).toNat:=⟨_,rfl⟩
 have ez9:(p.tn z4)=z9:=by rw [hz9];exact p_tn hp
 simp only [ez9]
 conv=>cbv
 have e10:(p.nle 1 z9)=true:=p_nle hp (by omega)
 simp only [e10];clear e10
 conv=>cbv
 have e11:(p.fit 0 z9 104)=true:=p_fit hp (by omega) (by show _≤9223372036854775807;omega)
 simp only [e11];clear e11
 conv=>cbv
 have ez12:(p.na 0 z9)=z9:=by rw [p_na hp];omega
 simp only [ez12];clear ez12
 conv=>cbv
 obtain ⟨j13,hj13,lj13,ej13⟩:=p_ixleE (i:=0) (n:=z9) hp (by omega) (by omega)
 simp only [ej13]
 conv=>cbv
 have ez14:(p.nm 0 10)=0:=by rw [hp];rfl
 simp only [ez14];clear ez14
 conv=>cbv
 have ez15:(p.na 0 0)=0:=by rw [hp];rfl
 simp only [ez15];clear ez15
 conv=>cbv
 have ez16:(p.ns j13 0)=j13:=by rw [p_ns hp];omega
 simp only [ez16];clear ez16
 conv=>cbv
 obtain ⟨z17,hz17⟩:∃z:List DV,z=repD z9 ([DV.val (Value.string {data:={toList:=[]}}),DV.val (Value.string {data:={toList:=[]}}),
  DV.val (Value.string {data:={toList:=[]}}),DV.val (Value.int .i64 0),
  DV.val (Value.int .i64 0),DV.val (Value.int .i64 0),DV.val (Value.int .i64 0),
  DV.val (Value.int .i64 0),DV.val (Value.int .i64 0),DV.val (Value.bool false)]):=⟨_,rfl⟩
 have ez17:(p.rep z9 ([DV.val (Value.string {data:={toList:=[]}}),DV.val (Value.string {data:={toList:=[]}}),
  DV.val (Value.string {data:={toList:=[]}}),DV.val (Value.int .i64 0),
  DV.val (Value.int .i64 0),DV.val (Value.int .i64 0),DV.val (Value.int .i64 0),
  DV.val (Value.int .i64 0),DV.val (Value.int .i64 0),DV.val (Value.bool false)]))=z17:=by rw [hz17];exact p_rep hp
 simp only [ez17]
 have lz17:z17.length=z9*10:=by rw [hz17,repD_len]<;>(try simp only [List.length_cons,List.length_nil])<;>omega
 conv=>cbv
 have ez18:(p.app [] z17)=z17:=by rw [p_app hp];rfl
 simp only [ez18];clear ez18
 conv=>cbv
 obtain rfl:j13=0:=by omega
 exact grow_back rfl
theorem grow0:DoesO Try.prog (fun _=>none) 99 [.d (.val (.slice none 0 0)),.d (.val (.int .i64 0))] [] (.sl 20000003 0 0 none) [(20000003,.data 29 10 [] true)]:=by
 refine does_p KK (fn:=Try.f99) Try.func99 rfl (by show 2≤_;decide) ?_
 intro C F p hC hF hp
 conv=>cbv
 have e20:(p.cmp .lss 0 0)=false:=by rw [p_cmp_lss hp];exact decide_eq_false (by omega)
 simp only [e20];clear e20
 conv=>cbv
 have ez21:(p.ar .sub .i64 0 0)=(0):=by rw [hp];rfl
 simp only [ez21];clear ez21
 conv=>cbv
 have e23:(p.cmp .gtr 0 0)=false:=by rw [p_cmp_gtr hp];exact decide_eq_false (by omega)
 simp only [e23];clear e23
 conv=>cbv
 exact grow_back0
theorem lookF_skip {a b:Nat} {o x:AO} {t:List (Nat×AO)}:lookF ((a,o)::(b,.dead)::t)=lookF ((a,o)::(b,.dead)::(b,x)::t):=by
 funext q
 simp only [lookF,look]
 by_cases h1:a=q
 ·rw [if_pos h1,if_pos h1]
 ·rw [if_neg h1,if_neg h1]
  by_cases h2:b=q
  ·rw [if_pos h2,if_pos h2]
  ·rw [if_neg h2,if_neg h2,if_neg h2]
def insG {α:Type}:List α×(Int×List α)→Option (List α):=fun (l,(i,v))=>bif decide (l.length≤1000000) then bif decide (0≤i∧i≤(l.length:Int)) then bif decide (v.length=1) then some (l.take i.toNat++v++l.drop i.toNat) else none else none else none
def delG {α:Type}:List α×(Int×Int)→Option (List α):=fun (l,(i,j))=>bif decide (l.length≤1000000) then bif decide (0≤i∧i<(l.length:Int)) then bif decide (j=i+1) then some (l.take i.toNat++l.drop (i.toNat+1)) else none else none else none
def growG {α:Type}:Int→Option (List α):=fun n=>bif decide (0≤n∧n≤1000000) then some [] else none
theorem ins_con:ConOk Try.prog 46 ⟨[.tmp 0 false [.own 20000001 29 UBl],.tmp 1 false [.dat (.int .i64)],.tmp 2 false [.own 20000002 29 UBl]],[.tmp 0 false [.own 20000003 29 UBl],.dead 20000001],insG⟩:=by
 refine ⟨by kernel_rfl,?_⟩
 rintro ⟨l,i,v⟩ x hx
 show DoesO Try.prog noG 46 [.sl 20000001 0 l.length none,aInt .i64 i,.sl 20000002 0 v.length none] [(20000001,.data 29 (szU UBl) (encL UBl l) true),(20000002,.data 29 (szU UBl) (encL UBl v) true)] (.sl 20000003 0 x.length none) [(20000003,.data 29 (szU UBl) (encL UBl x) true),(20000001,.dead),(20000001,.data 29 (szU UBl) (encL UBl l) true),(20000002,.data 29 (szU UBl) (encL UBl v) true)]
 replace hx:insG (l,(i,v))=some x:=hx
 unfold insG at hx
 simp only [cond_ite] at hx
 split at hx
 ·rename_i hl
  split at hx
  ·rename_i hi
   split at hx
   ·rename_i hv
    obtain ⟨b,rfl⟩:=List.length_eq_one_iff.1 hv
    cases hx
    obtain ⟨k,rfl⟩:=Int.eq_ofNat_of_zero_le hi.1
    have hk:k≤l.length:=by omega
    have hw:(encL UBl l).length=l.length*10:=encL_length _ _
    have hv':(encL UBl [b]).length=1*10:=encL_length _ _
    have hT:encL UBl (l.take k++[b]++l.drop k)=(encL UBl l).take (k*10)++encL UBl [b]++(encL UBl l).drop (k*10):=by
     rw [encL_append,encL_append,←encL_take,←encL_drop];rfl
    have hN:(l.take k++[b]++l.drop k).length=l.length+1:=by simp;omega
    rw [Int.toNat_natCast]
    refine doesO_us (us:=[(20000003,.data 29 10 (encL UBl (l.take k++[b]++l.drop k)) true),(20000001,.dead),(20000002,.data 29 10 (encL UBl [b]) true)]) ?_ lookF_skip
    by_cases hkl:k=l.length
    ·refine ins_end ?_ hN (by omega) hw hv' hl
     rw [hT,hkl,List.take_of_length_le (by omega),List.drop_eq_nil_of_le (by omega),List.append_nil]
    ·refine doesO_room (os:=[(20000002,.data 29 10 (encL UBl [b]) true)]) (os':=[(20000002,.data 29 10 (encL UBl [b]) true)]) (by omega) (by decide) rfl fun c h1 h2 => ?_
     by_cases hc:l.length+1≤c
     ·exact .inl (ins_in hT hN rfl hw hv' hl (by omega) hc h2)
     ·obtain rfl:c=l.length:=by omega
      exact .inr (ins_grow hT hN rfl hw hv' hl (by omega))
   ·cases hx
  ·cases hx
 ·cases hx
theorem del_con:ConOk Try.prog 88 ⟨[.tmp 0 false [.own 20000001 29 UBl],.tmp 1 false [.dat (.int .i64)],.tmp 2 false [.dat (.int .i64)]],[.tmp 0 false [.own 20000003 29 UBl],.dead 20000001],delG⟩:=by
 refine ⟨by kernel_rfl,?_⟩
 rintro ⟨l,i,j⟩ x hx
 show DoesO Try.prog noG 88 [.sl 20000001 0 l.length none,aInt .i64 i,aInt .i64 j] [(20000001,.data 29 (szU UBl) (encL UBl l) true)] (.sl 20000003 0 x.length none) [(20000003,.data 29 (szU UBl) (encL UBl x) true),(20000001,.dead),(20000001,.data 29 (szU UBl) (encL UBl l) true)]
 replace hx:delG (l,(i,j))=some x:=hx
 unfold delG at hx
 simp only [cond_ite] at hx
 split at hx
 ·rename_i hl
  split at hx
  ·rename_i hi
   split at hx
   ·rename_i hv
    cases hx
    obtain ⟨k,rfl⟩:=Int.eq_ofNat_of_zero_le hi.1
    have hk:k<l.length:=by omega
    have hw:(encL UBl l).length=l.length*10:=encL_length _ _
    have hT:encL UBl (l.take k++l.drop (k+1))=(encL UBl l).take (k*10)++(encL UBl l).drop ((k+1)*10):=by
     rw [encL_append,←encL_take,←encL_drop];rfl
    have hN:(l.take k++l.drop (k+1)).length+1=l.length:=by simp;omega
    rw [Int.toNat_natCast]
    refine doesO_us (us:=[(20000003,.data 29 10 (encL UBl (l.take k++l.drop (k+1))) true),(20000001,.dead)]) ?_ lookF_skip
    refine doesO_room (os:=[]) (os':=[]) (by omega) (by decide) rfl fun c h1 h2 => ?_
    exact .inl (del_in hT hN rfl hv hw hl hk h1 h2)
   ·cases hx
  ·cases hx
 ·cases hx
theorem grow_con:ConOk Try.prog 99 ⟨[.tmp 0 false [.nil],.tmp 1 false [.dat (.int .i64)]],[.tmp 0 false [.own 20000003 29 UBl]],growG⟩:=by
 refine ⟨by kernel_rfl,?_⟩
 intro (n:Int) x hx
 show DoesO Try.prog noG 99 [.d (.val (.slice none 0 0)),aInt .i64 n] [] (.sl 20000003 0 x.length none) [(20000003,.data 29 (szU UBl) (encL UBl x) true)]
 replace hx:growG n=some x:=hx
 unfold growG at hx
 simp only [cond_ite] at hx
 split at hx
 ·rename_i h
  cases hx
  by_cases h0:n=0
  ·subst h0;exact grow0
  ·exact grow1 (by omega) h.2
 ·cases hx
end Go.Proofs.Ytkpijdndakljjaa

namespace Go.Proofs.Ytkpijdndakljjaa
open Go.RowKit
set_option maxHeartbeats 4000000
set_option maxRecDepth 10000
theorem clone0_47:DoesO Try.prog (fun _=>none) 47 [.d (.dl [] 0 none)] [] (.sl 1 0 0 none) [(1,.data 29 10 [] true)]:=by
 refine does_p KK (fn:=Try.f47) Try.func47 rfl (by show 1≤_;decide) ?_
 intro C F p hC hF hp
 have e1:p.emp []=true:=by rw [hp];rfl
 conv=>cbv
 simp only [e1]
 conv=>cbv
 refine ⟨back_nilrow,?_⟩
 conv=>cbv
 have ez1:(p.len [])=0:=by rw [hp];rfl
 simp only [ez1];clear ez1
 conv=>cbv
 have ez2:(p.nm 0 10)=0:=by rw [hp];rfl
 simp only [ez2];clear ez2
 conv=>cbv
 have e3:(p.neq 0 0)=true:=p_neq hp (by omega)
 simp only [e3];clear e3
 conv=>cbv
 have e4:(p.neq 0 0)=true:=p_neq hp (by omega)
 simp only [e4];clear e4
 conv=>cbv
 have ez5:(p.nm 0 10)=0:=by rw [hp];rfl
 simp only [ez5];clear ez5
 conv=>cbv
 have ez6:(p.len [])=0:=by rw [hp];rfl
 simp only [ez6];clear ez6
 conv=>cbv
 have e7:(p.neq 0 0)=true:=p_neq hp (by omega)
 simp only [e7];clear e7
 conv=>cbv
 have e8:(p.fit 0 0 104)=true:=p_fit hp (by omega) (by show _≤9223372036854775807;omega)
 simp only [e8];clear e8
 conv=>cbv
 have ez9:(p.na 0 0)=0:=by rw [hp];rfl
 simp only [ez9];clear ez9
 conv=>cbv
 have ez10:(p.app [] [])=[]:=by rw [p_app hp];rfl
 simp only [ez10];clear ez10
 conv=>cbv
 exact back_obj [(1,1302)] rfl rfl ⟨⟨rfl,rfl,rfl⟩,trivial⟩ rfl rfl
end Go.Proofs.Ytkpijdndakljjaa

namespace Go.Proofs.Ytkpijdndakljjaa
open Go.RowKit
set_option maxHeartbeats 4000000
set_option maxRecDepth 10000
def cloneG {α:Type} (l:List α):Option (List α):=bif decide (l.length≤1000000) then some l else none
theorem clone1_47 {cs:List DV} {n:Nat} (hw:cs.length=n*10) (h1:1≤n) (h2:n≤1000000):DoesO Try.prog (fun _=>none) 47 [.d (.dl cs n none)] [] (.sl 1 0 n none) [(1,.data 29 10 cs true)]:=by
 refine does_p KK (fn:=Try.f47) Try.func47 rfl (by show 1≤_;decide) ?_
 intro C F p hC hF hp
 conv=>cbv
 have e1:(p.emp cs)=false:=p_empL hp (by omega)
 simp only [e1];clear e1
 conv=>cbv
 obtain ⟨z2,hz2⟩:∃z:Nat,z=(cs).length:=⟨_,rfl⟩
 have ez2:(p.len cs)=z2:=by rw [hz2];exact p_len hp
 simp only [ez2]
 conv=>cbv
 obtain ⟨z3,hz3⟩:∃z:Nat,z=n*10:=⟨_,rfl⟩
 have ez3:(p.nm n 10)=z3:=by rw [hz3];exact p_nm hp
 simp only [ez3]
 conv=>cbv
 have e4:(p.neq z2 z3)=true:=p_neq hp (by omega)
 simp only [e4];clear e4
 conv=>cbv
 have e5:(p.neq 0 0)=true:=p_neq hp (by omega)
 simp only [e5];clear e5
 conv=>cbv
 have ez6:(p.nm 0 10)=0:=by rw [hp];rfl
 simp only [ez6];clear ez6
 conv=>cbv
 have ez7:(p.len [])=0:=by rw [hp];rfl
 simp only [ez7];clear ez7
 conv=>cbv
 have e8:(p.neq 0 0)=true:=p_neq hp (by omega)
 simp only [e8];clear e8
 conv=>cbv
 have e9:(p.fit 0 n 104)=true:=p_fit hp (by omega) (by show _≤9223372036854775807;omega)
 simp only [e9];clear e9
 conv=>cbv
 have ez10:(p.na 0 n)=n:=by rw [p_na hp];omega
 simp only [ez10];clear ez10
 conv=>cbv
 have ez11:(p.app [] cs)=cs:=by rw [p_app hp];rfl
 simp only [ez11];clear ez11
 conv=>cbv
 exact back_obj [(1,1302)] rfl rfl ⟨⟨rfl,rfl,rfl⟩,trivial⟩ rfl rfl
theorem clone_con47:ConOk Try.prog 47 ⟨[.tmp 0 false [.dat (.list (.pair .str (.pair .str (.pair .str (.pair (.int .i64) (.pair (.int .i64) (.pair (.int .i64) (.pair (.int .i64) (.pair (.int .i64) (.pair (.int .i64) .bool))))))))))]],[.tmp 0 false [.own 1 29 (.pair .str (.pair .str (.pair .str (.pair (.int .i64) (.pair (.int .i64) (.pair (.int .i64) (.pair (.int .i64) (.pair (.int .i64) (.pair (.int .i64) .bool)))))))))]],cloneG⟩:=by
 refine ⟨by kernel_rfl,?_⟩
 show ∀(a x:List ((List UInt8)×((List UInt8)×((List UInt8)×((Int)×((Int)×((Int)×((Int)×((Int)×((Int)×(Bool))))))))))),cloneG a=some x→DoesO Try.prog noG 47 [.d (.dl (encL (.pair .str (.pair .str (.pair .str (.pair (.int .i64) (.pair (.int .i64) (.pair (.int .i64) (.pair (.int .i64) (.pair (.int .i64) (.pair (.int .i64) .bool))))))))) a) a.length none)] [] (.sl 1 0 x.length none) [(1,.data 29 (szU (.pair .str (.pair .str (.pair .str (.pair (.int .i64) (.pair (.int .i64) (.pair (.int .i64) (.pair (.int .i64) (.pair (.int .i64) (.pair (.int .i64) .bool)))))))))) (encL (.pair .str (.pair .str (.pair .str (.pair (.int .i64) (.pair (.int .i64) (.pair (.int .i64) (.pair (.int .i64) (.pair (.int .i64) (.pair (.int .i64) .bool))))))))) x) true)]
 intro a x hx
 unfold cloneG at hx
 rw [cond_ite] at hx
 split at hx
 ·cases hx
  by_cases h0:a=[]
  ·subst h0;exact clone0_47
  ·refine clone1_47 ?_ (by cases a with | nil=>exact absurd rfl h0 | cons _ _=>simp) (by assumption)
   exact encL_length _ _
 ·cases hx
end Go.Proofs.Ytkpijdndakljjaa

namespace Go.Proofs.Ytkpijdndakljjaa
open Go.RowKit
set_option maxHeartbeats 4000000
set_option maxRecDepth 10000
theorem clone_back {e z:Nat}:Back [(20000001,.data e z [] true)] [(20000001,.data e z [] true)] [(20000002,.data e z [] true),(20000001,.data e z [] true)] (.sl 20000002 0 0 none) (.d (.val (.slice none 0 0))):=by
 refine ⟨fun r=>if r=20000001 then some 20000001 else none,fun r o h => ?_,⟨fun r' o ho => ?_,fun r' r'' o' o'' r h1 h2 h3 h4 h5 h6 => ?_⟩,?_⟩
 ·rw [look] at h
  split at h
  ·rename_i hk;subst hk;exact ⟨if_pos rfl,rfl⟩
  ·cases h
 ·unfold lookF at ho
  rw [look] at ho
  unfold WkO
  split at ho
  ·rename_i hk;subst hk;cases ho
   exact rfl
  ·rw [look] at ho
   split at ho
   ·rename_i hk;subst hk;cases ho
    show ∃wr1 cs1,_
    exact ⟨true,[],rfl,.inl rfl,fun h=>h,fun h=>by cases h⟩
   ·cases ho
 ·split at h5
  ·split at h6
   ·rename_i a b;rw [a,b]
   ·cases h6
  ·cases h5
 ·rw [WkV]
  exact ⟨rfl,.inr (.inl ⟨by rw [if_neg (by decide)],rfl,rfl,rfl,rfl⟩)⟩
theorem clone3_47:DoesO Try.prog (fun _=>none) 47 [.sl 20000001 0 0 none] [(20000001,.data 29 10 [] true)] (.sl 20000002 0 0 none) [(20000002,.data 29 10 [] true),(20000001,.data 29 10 [] true)]:=by
 refine does_p KK (fn:=Try.f47) Try.func47 rfl (by show 1≤_;decide) ?_
 intro C F p hC hF hp
 conv=>cbv
 have e1:(p.neq 0 0)=true:=p_neq hp (by omega)
 simp only [e1];clear e1
 conv=>cbv
 refine ⟨clone_back,?_⟩
 conv=>cbv
 have ez2:(p.nm 0 10)=0:=by rw [hp];rfl
 simp only [ez2];clear ez2
 conv=>cbv
 have ez3:(p.na 0 0)=0:=by rw [hp];rfl
 simp only [ez3];clear ez3
 conv=>cbv
 have ez4:(p.len [])=0:=by rw [hp];rfl
 simp only [ez4];clear ez4
 conv=>cbv
 have e5:(p.nle 0 0)=true:=p_nle hp (by omega)
 simp only [e5];clear e5
 conv=>cbv
 have e6:(p.neq 0 0)=true:=p_neq hp (by omega)
 simp only [e6];clear e6
 conv=>cbv
 have ez7:(p.nm 0 10)=0:=by rw [hp];rfl
 simp only [ez7];clear ez7
 conv=>cbv
 have ez8:(p.len [])=0:=by rw [hp];rfl
 simp only [ez8];clear ez8
 conv=>cbv
 have e9:(p.neq 0 0)=true:=p_neq hp (by omega)
 simp only [e9];clear e9
 conv=>cbv
 have e10:(p.fit 0 0 104)=true:=p_fit hp (by omega) (by show _≤9223372036854775807;omega)
 simp only [e10];clear e10
 conv=>cbv
 have ez11:(p.na 0 0)=0:=by rw [hp];rfl
 simp only [ez11];clear ez11
 conv=>cbv
 have ez12:(p.cut [] 0 0)=[]:=by rw [hp];rfl
 simp only [ez12];clear ez12
 conv=>cbv
 have ez13:(p.app [] [])=[]:=by rw [p_app hp];rfl
 simp only [ez13];clear ez13
 conv=>cbv
 exact back_obj [(20000002,1302),(20000001,20000001)] rfl rfl ⟨⟨rfl,rfl,rfl⟩,⟨rfl,rfl,rfl⟩,trivial⟩ rfl rfl
theorem clone2_47 {cs:List DV} {n:Nat} (hw:cs.length=n*10) (h1:1≤n) (h2:n≤1000000):DoesO Try.prog (fun _=>none) 47 [.sl 20000001 0 n none] [(20000001,.data 29 10 cs true)] (.sl 20000002 0 n none) [(20000002,.data 29 10 cs true),(20000001,.data 29 10 cs true)]:=by
 refine does_p KK (fn:=Try.f47) Try.func47 rfl (by show 1≤_;decide) ?_
 intro C F p hC hF hp
 conv=>cbv
 have e15:(p.neq n 0)=false:=p_neqf hp (by omega)
 simp only [e15];clear e15
 conv=>cbv
 obtain ⟨z16,hz16⟩:∃z:Nat,z=n*10:=⟨_,rfl⟩
 have ez16:(p.nm n 10)=z16:=by rw [hz16];exact p_nm hp
 simp only [ez16]
 conv=>cbv
 have ez17:(p.na 0 z16)=z16:=by rw [p_na hp];omega
 simp only [ez17];clear ez17
 conv=>cbv
 obtain ⟨z18,hz18⟩:∃z:Nat,z=(cs).length:=⟨_,rfl⟩
 have ez18:(p.len cs)=z18:=by rw [hz18];exact p_len hp
 simp only [ez18]
 conv=>cbv
 have e19:(p.nle z16 z18)=true:=p_nle hp (by omega)
 simp only [e19];clear e19
 conv=>cbv
 have e20:(p.neq 0 0)=true:=p_neq hp (by omega)
 simp only [e20];clear e20
 conv=>cbv
 have ez21:(p.nm 0 10)=0:=by rw [hp];rfl
 simp only [ez21];clear ez21
 conv=>cbv
 have ez22:(p.len [])=0:=by rw [hp];rfl
 simp only [ez22];clear ez22
 conv=>cbv
 have e23:(p.neq 0 0)=true:=p_neq hp (by omega)
 simp only [e23];clear e23
 conv=>cbv
 have e24:(p.fit 0 n 104)=true:=p_fit hp (by omega) (by show _≤9223372036854775807;omega)
 simp only [e24];clear e24
 conv=>cbv
 have ez25:(p.na 0 n)=n:=by rw [p_na hp];omega
 simp only [ez25];clear ez25
 conv=>cbv
 have ez26:(p.cut cs 0 z16)=cs:=p_cutAll hp (by omega)
 simp only [ez26]
 conv=>cbv
 have ez27:(p.app [] cs)=cs:=by rw [p_app hp];rfl
 simp only [ez27];clear ez27
 conv=>cbv
 exact back_obj [(20000002,1302),(20000001,20000001)] rfl rfl ⟨⟨rfl,rfl,rfl⟩,⟨rfl,rfl,rfl⟩,trivial⟩ rfl rfl
theorem clone_conm47:ConOk Try.prog 47 ⟨[.tmp 0 false [.own 20000001 29 (.pair .str (.pair .str (.pair .str (.pair (.int .i64) (.pair (.int .i64) (.pair (.int .i64) (.pair (.int .i64) (.pair (.int .i64) (.pair (.int .i64) .bool)))))))))]],[.tmp 0 false [.own 20000002 29 (.pair .str (.pair .str (.pair .str (.pair (.int .i64) (.pair (.int .i64) (.pair (.int .i64) (.pair (.int .i64) (.pair (.int .i64) (.pair (.int .i64) .bool)))))))))]],cloneG⟩:=by
 refine ⟨by kernel_rfl,?_⟩
 show ∀(a x:List ((List UInt8)×((List UInt8)×((List UInt8)×((Int)×((Int)×((Int)×((Int)×((Int)×((Int)×(Bool))))))))))),cloneG a=some x→DoesO Try.prog noG 47 [.sl 20000001 0 a.length none] [(20000001,.data 29 (szU (.pair .str (.pair .str (.pair .str (.pair (.int .i64) (.pair (.int .i64) (.pair (.int .i64) (.pair (.int .i64) (.pair (.int .i64) (.pair (.int .i64) .bool)))))))))) (encL (.pair .str (.pair .str (.pair .str (.pair (.int .i64) (.pair (.int .i64) (.pair (.int .i64) (.pair (.int .i64) (.pair (.int .i64) (.pair (.int .i64) .bool))))))))) a) true)] (.sl 20000002 0 x.length none) [(20000002,.data 29 (szU (.pair .str (.pair .str (.pair .str (.pair (.int .i64) (.pair (.int .i64) (.pair (.int .i64) (.pair (.int .i64) (.pair (.int .i64) (.pair (.int .i64) .bool)))))))))) (encL (.pair .str (.pair .str (.pair .str (.pair (.int .i64) (.pair (.int .i64) (.pair (.int .i64) (.pair (.int .i64) (.pair (.int .i64) (.pair (.int .i64) .bool))))))))) x) true),(20000001,.data 29 (szU (.pair .str (.pair .str (.pair .str (.pair (.int .i64) (.pair (.int .i64) (.pair (.int .i64) (.pair (.int .i64) (.pair (.int .i64) (.pair (.int .i64) .bool)))))))))) (encL (.pair .str (.pair .str (.pair .str (.pair (.int .i64) (.pair (.int .i64) (.pair (.int .i64) (.pair (.int .i64) (.pair (.int .i64) (.pair (.int .i64) .bool))))))))) a) true)]
 intro a x hx
 unfold cloneG at hx
 rw [cond_ite] at hx
 split at hx
 ·cases hx
  by_cases h0:a=[]
  ·subst h0;exact clone3_47
  ·refine clone2_47 ?_ (by cases a with | nil=>exact absurd rfl h0 | cons _ _=>simp) (by assumption)
   exact encL_length _ _
 ·cases hx
end Go.Proofs.Ytkpijdndakljjaa

namespace Go.Proofs.Ytkpijdndakljjaa
open Go.RowKit
section
variable {P:Program} {GL:Nat→Option (List DV)} {q:Nat→Bool} {N:Nat} {E:En} {a:Act} {w:World} {s:S}
theorem eff_nodefer {T:Ty} {rd:Nat→Option AO} {slot:Nat} {o:Oper} {ρ:Operand→AV} {f:Eff} (hf:eff T q rd slot o ρ=some f):∀c,o.op ≠ .defer c:=fun c h=>by
 unfold eff at hf
 simp only [effQ,effH,effN,h] at hf
 revert hf
 repeat' split
 all_goals simp_all
end
structure WideF (P:Program) (F:Fence):Prop where
 fn:∀f,F.fn f
 dep:F.depth=none
 calls:∀ {n:Nat} {f:FuncId} {args:Array Value} {w:World} {R:Ending→World→Prop},Calls P f args w R→CallsIn F n P f args w R
theorem wideF (P:Program):WideF P Fence.wide:=⟨fun _=>trivial,rfl,fun h=>callsIn_wide.2 h⟩
theorem wideR (P:Program) (l:Nat):WideF P (Fence.wide.inRound l):=⟨fun _=>trivial,rfl,fun h=>CallsIn.inRound l (callsIn_wide.2 h)⟩
structure SimD (df:List Deferred) (GL:Nat→Option (List DV)) (N:Nat) (E:En) (a:Act) (w:World) (s:S):Prop where
 sm:Sim GL N E ⟨a.tmps,[]⟩ w s
 dq:a.defers=df
theorem put_tm (a:Act) (d:Option Nat) (v:Value):(⟨(a.put d v).tmps,[]⟩:Act)=(⟨a.tmps,[]⟩:Act).put d v:=by cases d<;>rfl
theorem put_df (a:Act) (d:Option Nat) (v:Value):(a.put d v).defers=a.defers:=by cases d<;>rfl
section
variable {df:List Deferred} {GL:Nat→Option (List DV)} {N:Nat} {E:En} {a:Act} {w:World} {s:S}
theorem SimD.h (h:SimD df GL N E a w s):w.heap=E.h:=h.sm.h
theorem SimD.hp (h:SimD df GL N E a w s):E.hp=s.hp:=h.sm.hp
theorem SimD.sim (h:SimD df GL N E a w s):SimH GL E:=h.sm.sim
theorem SimD.ev (h:SimD df GL N E a w s) (x:Operand):Rel E (s.ev GL x) (a.eval x):=h.sm.ev x
theorem SimD.drew (h:SimD df GL N E a w s):SimD df GL N E a {w with drawn:=w.drawn+1} s:=⟨h.sm.drew,h.dq⟩
theorem SimD.put (h:SimD df GL N E a w s) {E':En} {w':World} {us:List (Nat×AO)} (hg:Goes GL E w us E' w') {d:Option Nat} (hd:∀t,d=some t→t<N) {v:AV} {u:Value} (hr:Rel E' v u) :
 SimD df GL N E' (a.put d u) w' {(s.put d v) with hp:=updF s.hp us}:=⟨by rw [put_tm];exact h.sm.put hg hd hr,by rw [put_df];exact h.dq⟩
theorem wanted_simD {ops:Array Oper} (h:SimD df GL N E a w s) {o:Oper} {b:Bool} (hw:wantedS ops s o=some b):Region.wanted o (yielded ops a.tmps)=b:=wanted_sim h.sm hw
end
section
variable {df:List Deferred} {F:Fence} {P:Program} {GL:Nat→Option (List DV)} {q:Nat→Bool} {N:Nat} {E:En} {a:Act} {w:World} {s:S}
theorem op_simI (hF:WideF P F) (n:Nat) (hq:QOk P q) (hdp:30≤P.depth) (h:SimD df GL N E a w s) {slot:Nat} {o:Oper} {e:Ef} (he:EfR P GL q slot o s e) (hd:∀t,o.dst=some t→t<N) {K:Act→World→Prop} {Q:Exit→Act→World→Prop}
 (hK:∀a' w' E',Goes GL E w e.upd E' w'→SimD df GL N E' a' w' (s.app o.dst e)→K a' w'):o.wpIn F n P a w K Q:=by
 obtain ⟨_,he⟩:=he
 refine ⟨fun f _=>hF.fn f,?_⟩
 split at he
 ·rename_i f args hc
  obtain ⟨_,hdo⟩:=he
  obtain ⟨vs,hrun,hrel⟩:=call_exec0 (P:=P) h.sm hc
  rw [show (⟨a.tmps,[]⟩:Act).eval=a.eval from rfl] at hrun
  rw [Oper.semAt_eq _ _ _ (fun c hcd=>by unfold callA at hc;rw [hcd] at hc;cases hc),hrun]
  rcases hdo with ⟨hf,hdo⟩ | hdo
  ·rw [call_enter hf]
   refine ⟨fun g=>(by rw [hF.dep] at g;cases g),hF.calls ((hdo E w vs (fun r _=>by rw [h.hp]) h.h h.sim hrel).mono ?_)⟩
   rintro en w' ⟨u,E',rfl,hg,hr⟩
   exact hK _ _ E' hg (h.put hg hd hr)
  ·obtain ⟨u,w',E',hrun2,hg,hr⟩:=hdo E w vs (fun r _=>by rw [h.hp]) h.h h.sim hrel
   rw [hrun2]
   exact hK _ _ E' hg (h.put hg hd hr)
 ·rename_i hc
  obtain ⟨f,hf,e1,e2,_,_⟩:=he
  obtain ⟨n',w',E',u,hrun,hn,hg,hr⟩:=eff_sim hq hdp h.sm hf
  rw [show (⟨a.tmps,[]⟩:Act).eval=a.eval from rfl] at hrun
  rw [Oper.semAt_eq _ _ _ (eff_nodefer hf),hrun]
  rw [←e2] at hg
  rw [←e1] at hr
  rcases hn with rfl | ⟨rfl,rfl⟩
  ·exact hK _ _ E' hg (h.put hg hd hr)
  ·exact hK _ _ E' hg (h.put hg hd hr)
end
section
variable {df:List Deferred} {F:Fence} {P:Program} {GL:Nat→Option (List DV)} {q:Nat→Bool} {N base:Nat} {ops:Array Oper}
theorem step_wpI (hF:WideF P F) (n:Nat) (hq:QOk P q) (hdp:30≤P.depth) {E0:En} {w0:World} {E:En} {a:Act} {w:World} {s:S} (hS:SimD df GL N E a w s) (hA:Along E0 w0 E w) {i:Nat} {e:Ef} (h:StepR P GL q N base ops i s e) {Q:Exit→Act→World→Prop} {K:Act→World→Prop}
 (hK:∀E' a' w',SimD df GL N E' a' w' (s.app (dstOf ops i) e)→Along E0 w0 E' w'→K a' w'):wpOpIn F n P ops Q i K a w:=by
 unfold StepR at h
 unfold wpOpIn
 split at h
 ·exact h.elim
 ·rename_i o ho
  rw [ho]
  simp only
  have hdi:dstOf ops i=o.dst:=by simp [dstOf,ho]
  rw [hdi] at hK
  obtain ⟨hd,⟨hw,he⟩ | ⟨hw,rfl⟩⟩:=h
  ·rw [wanted_simD hS hw,if_pos rfl]
   exact op_simI hF n hq hdp hS he hd fun a' w' E' hg hs=>hK E' a' w' hs (hA.goes hg)
  ·rw [wanted_simD hS hw,if_neg (by simp)]
   have:=hS.put (Goes.refl hS.h hS.sim) hd (v := .undef) (u:=undef) (by rw [Rel])
   exact ⟨fun f _=>hF.fn f,hK E _ w this hA⟩
theorem run_wpI (hF:WideF P F) (n:Nat) (hq:QOk P q) (hdp:30≤P.depth) {E0:En} {w0:World} {Q:Exit→Act→World→Prop} {s':S} (hQ:∀E' a' w',SimD df GL N E' a' w' s'→Along E0 w0 E' w'→Q .normal a' w'):∀(L:List (Nat×Ef)) (E:En) (a:Act) (w:World) (s:S),Run P GL q N base ops L s s'→SimD df GL N E a w s→Along E0 w0 E w→wpOpsIn F n P ops Q (L.map (·.1)) a w
 | [],E,a,w,s,hR,hS,hA=>by
   have:s=s':=hR
   subst this
   exact hQ E a w hS hA
 | (i,e)::L,E,a,w,s,hR,hS,hA=>by
   rw [List.map_cons,wpOpsIn_cons]
   exact step_wpI hF n hq hdp hS hA hR.1 fun E' a' w' hs ha=>run_wpI hF n hq hdp hQ L E' a' w' _ hR.2 hs ha
theorem any_wpI (hF:WideF P F) (fn:Nat) (hq:QOk P q) (hdp:30≤P.depth) (hback:backB ops=true) {E0:En} {w0:World} {Q:Exit→Act→World→Prop} {s':S} (hQ:∀E' a' w',SimD df GL N E' a' w' s'→Along E0 w0 E' w'→Q .normal a' w'):∀(n:Nat) (L:List (Nat×Ef)) (listed:Array Bool) (E:En) (a:Act) (w:World) (s:S),L.length=n →
 ClosedA ops listed→(∀i,listed.getD i true=false∧i<ops.size↔i∈L.map (·.1))→(L.map (·.1)).Pairwise (· < ·) →
 L.Pairwise (fun x y=>x.1∈(ancT ops ops.size).getD y.1 []∨∃ox oy,ops[x.1]? = some ox∧ops[y.1]? = some oy∧ox.apart ops oy=true∧ncB x.2 y.2=true) →
 Run P GL q N base ops L s s'→SimD df GL N E a w s→Along E0 w0 E w→wpAnyIn F fn P .any ops Q n listed a w
 | 0,L,listed,E,a,w,s,hn,hC,hL,hsort,hchk,hR,hS,hA=>by
   have:L=[]:=List.eq_nil_of_length_eq_zero hn
   subst this
   have hs:s=s':=hR
   subst hs
   refine ⟨?_,hQ E a w hS hA⟩
   cases hr:Region.ready .any ops listed with
   | nil=>rfl
   | cons i l =>
     have hi:i∈Region.ready .any ops listed:=by rw [hr];exact List.mem_cons_self
     obtain ⟨h1,o,h2,_⟩:=mem_ready.1 hi
     have:=(hL i).1 ⟨h1,(Array.getElem?_eq_some_iff.1 h2).1⟩
     simp at this
 | n+1,L,listed,E,a,w,s,hn,hC,hL,hsort,hchk,hR,hS,hA=>by
   have hready:∀i,i∈Region.ready .any ops listed→i∈L.map (·.1):=fun i hi=>by
    obtain ⟨h1,o,h2,_⟩:=mem_ready.1 hi
    exact (hL i).1 ⟨h1,(Array.getElem?_eq_some_iff.1 h2).1⟩
   refine ⟨fun h0 => ?_,fun i hi => ?_⟩
   ·exfalso
    cases L with
    | nil=>simp at hn
    | cons x L =>
      obtain ⟨i,e⟩:=x
      obtain ⟨hun,hlt⟩:=(hL i).2 (by simp)
      have hrd:i∈Region.ready .any ops listed:=by
       refine mem_ready.2 ⟨hun,ops[i],Array.getElem?_eq_getElem hlt,fun ed hed hb => ?_⟩
       have hp:ed.on∈parentsA ops i:=by
        unfold parentsA
        rw [Array.getElem?_eq_getElem hlt]
        exact List.mem_map.2 ⟨ed,List.mem_filter.2 ⟨by simpa using hed,hb⟩,rfl⟩
       have hlt2:ed.on<i:=by
        have:=List.all_eq_true.1 hback i (List.mem_range.2 hlt)
        have:=List.all_eq_true.1 this _ hp
        simpa using this
       cases hg:listed.getD ed.on false with
       | true=>rfl
       | false =>
         have hnot:ed.on∉List.map (·.1) ((i,e)::L):=fun hm=>by
          rcases List.mem_cons.1 hm with h | h
          ·simp at h;omega
          ·have:=(List.pairwise_cons.1 hsort).1 _ h
           simp at this
           omega
         have h6:¬(listed.getD ed.on true=false∧ed.on<ops.size):=fun h=>hnot ((hL ed.on).1 h)
         have:listed.getD ed.on true=true:=by
          cases h7:listed.getD ed.on true with
          | true=>rfl
          | false=>exact (h6 ⟨h7,by omega⟩).elim
         have hsz:ed.on<listed.size:=by
          have h8:i<listed.size:=by
           rcases Nat.lt_or_ge i listed.size with h | h
           ·exact h
           ·rw [Array.getD_eq_getD_getElem?,Array.getElem?_eq_none h] at hun;simp at hun
          omega
         rw [Array.getD_eq_getD_getElem?,Array.getElem?_eq_getElem hsz] at this hg
         simp at this hg
         rw [this] at hg
         cases hg
      rw [h0] at hrd
      cases hrd
   ·obtain ⟨⟨i',e⟩,hmem,rfl⟩:=List.mem_map.1 (hready i hi)
    simp only at hi ⊢
    obtain ⟨l1,l2,rfl⟩:=List.append_of_mem hmem
    obtain ⟨_,oi,hoi,_⟩:=mem_ready.1 hi
    have hun:∀j,j∈(l1++(i',e)::l2).map (·.1)→listed.getD j false=false:=fun j hj=>by
     obtain ⟨h1,h2⟩:=(hL j).2 hj
     rcases Nat.lt_or_ge j listed.size with h | h
     ·rw [Array.getD_eq_getD_getElem?,Array.getElem?_eq_getElem h] at h1 ⊢
      simpa using h1
     ·rw [Array.getD_eq_getD_getElem?,Array.getElem?_eq_none h] at h1;simp at h1
    have hall:∀j ej,(j,ej)∈l1→∃oj,ops[j]? = some oj∧oj.apart ops oi=true∧ncB ej e=true:=fun j ej hj=>by
     have hpw:=(List.pairwise_append.1 hchk).2.2 (j,ej) hj (i',e) List.mem_cons_self
     rcases hpw with hanc | ⟨ox,oy,h1,h2,h3,h4⟩
     ·have:=ancT_listed hC _ _ _ (ready_parentsA hi) hanc
      rw [hun j (List.mem_map.2 ⟨_,List.mem_append_left _ hj,rfl⟩)] at this
      cases this
     ·simp only at h1 h2
      rw [hoi] at h2
      cases h2
      exact ⟨ox,h1,h3,h4⟩
    obtain ⟨g1,g2⟩:=bubble hoi l1 l2 s s' hall hR
    refine step_wpI hF fn hq hdp hS hA g1 fun E' a' w' hs ha => ?_
    refine any_wpI hF fn hq hdp hback hQ n (l1++l2) _ E' a' w' _ (by simp at hn ⊢;omega) (hC.set hi) (fun j => ?_) ?_ ?_ g2 hs ha
    ·have hnd:∀k,k∈(l1++l2).map (·.1)→k≠i':=fun k hk e0=>by
      subst e0
      rw [List.map_append,List.map_cons] at hsort
      rw [List.map_append] at hk
      rcases List.mem_append.1 hk with hk | hk
      ·have:=(List.pairwise_append.1 hsort).2.2 k hk k List.mem_cons_self
       omega
      ·have:=(List.pairwise_cons.1 (List.pairwise_append.1 hsort).2.1).1 k hk
       omega
     by_cases hji:i'=j
     ·subst hji
      constructor
      ·rintro ⟨h1,h2⟩
       have hsz:i'<listed.size:=by
        rcases Nat.lt_or_ge i' listed.size with h | h
        ·exact h
        ·have:=(mem_ready.1 hi).1
         rw [Array.getD_eq_getD_getElem?,Array.getElem?_eq_none h] at this;simp at this
       rw [Array.getD_eq_getD_getElem?,Array.getElem?_setIfInBounds_self_of_lt hsz] at h1
       simp at h1
      ·intro h;exact (hnd _ h rfl).elim
     ·rw [getD_set_ne true hji]
      rw [hL j]
      simp only [List.map_append,List.map_cons,List.mem_append,List.mem_cons]
      constructor
      ·rintro (h | h | h)
       ·exact .inl h
       ·exact (hji h.symm).elim
       ·exact .inr h
      ·rintro (h | h)
       ·exact .inl h
       ·exact .inr (.inr h)
    ·rw [List.map_append] at hsort ⊢
     rw [List.map_cons] at hsort
     obtain ⟨p1,p2,p3⟩:=List.pairwise_append.1 hsort
     exact List.pairwise_append.2 ⟨p1,(List.pairwise_cons.1 p2).2,fun x hx y hy=>p3 x hx y (List.mem_cons_of_mem _ hy)⟩
    ·obtain ⟨p1,p2,p3⟩:=List.pairwise_append.1 hchk
     exact List.pairwise_append.2 ⟨p1,(List.pairwise_cons.1 p2).2,fun x hx y hy=>p3 x hx y (List.mem_cons_of_mem _ hy)⟩
end
def AWI (df:List Deferred) (F:Fence) (n:Nat) (P:Program) (GL:Nat→Option (List DV)) (N:Nat) (hp0:Nat→Option AO) (c:Code) (Q:Exit→S→Prop) (s:S):Prop :=
 ∀(E0:En) (w0:World) (E:En) (a:Act) (w:World),E0.hp=hp0→SimD df GL N E a w s→Along E0 w0 E w→c.wpIn F n P (fun x a' w'=>∃s' E',Q x s'∧SimD df GL N E' a' w' s'∧Along E0 w0 E' w') a w
section
variable {df:List Deferred} {F:Fence} {n:Nat} {P:Program} {GL:Nat→Option (List DV)} {q:Nat→Bool} {N:Nat} {hp0:Nat→Option AO} {Q Q':Exit→S→Prop} {s:S}
theorem AWI.mono {c:Code} (h:AWI df F n P GL N hp0 c Q s) (hq:∀e s,Q e s→Q' e s):AWI df F n P GL N hp0 c Q' s :=
 fun E0 w0 E a w h0 hS hA=>wpIn_mono (h E0 w0 E a w h0 hS hA) fun e a w ⟨s',E',h1,h2⟩=>⟨s',E',hq _ _ h1,h2⟩
theorem aw_skipI (h:Q .normal s):AWI df F n P GL N hp0 .skip Q s:=fun E0 w0 E a w h0 hS hA=>wpIn_skip ⟨s,E,h,hS,hA⟩
theorem aw_exitI {id:Nat} (h:Q (.exit id) s):AWI df F n P GL N hp0 (.exit id) Q s:=fun E0 w0 E a w h0 hS hA=>wpIn_exit ⟨s,E,h,hS,hA⟩
theorem aw_retI (h:Q .ret s):AWI df F n P GL N hp0 .ret Q s:=fun E0 w0 E a w h0 hS hA=>wpIn_ret ⟨s,E,h,hS,hA⟩
theorem aw_seqI {x y:Code} (h:AWI df F n P GL N hp0 x (seqQ (AWI df F n P GL N hp0 y Q) Q) s):AWI df F n P GL N hp0 (.seq x y) Q s:=fun E0 w0 E a w h0 hS hA=>by
 refine wpIn_seq (wpIn_mono (h E0 w0 E a w h0 hS hA) fun e a' w' ⟨s',E',h1,h2,h3⟩ => ?_)
 cases e<;>first | exact h1 E0 w0 E' a' w' h0 h2 h3 | exact ⟨s',E',h1,h2,h3⟩
theorem aw_condI {c:Operand} {x y:Code} {b:Bool} (hc:s.ev GL c = .d (.val (.bool b))) (h1:b=true→AWI df F n P GL N hp0 x Q s) (h2:b=false→AWI df F n P GL N hp0 y Q s):AWI df F n P GL N hp0 (.cond c x y) Q s:=fun E0 w0 E a w h0 hS hA=>by
 have hr:=hS.ev c
 rw [hc] at hr
 refine wpIn_cond (rel_val hr) ?_
 cases b with
 | true=>exact h1 rfl E0 w0 E a w h0 hS hA
 | false=>exact h2 rfl E0 w0 E a w h0 hS hA
theorem aw_anyI {c:Operand} {x y:Code} (hc:s.ev GL c = .ab) (h1:AWI df F n P GL N hp0 x Q s) (h2:AWI df F n P GL N hp0 y Q s):AWI df F n P GL N hp0 (.cond c x y) Q s:=fun E0 w0 E a w h0 hS hA=>by
 have hr:=hS.ev c
 rw [hc,Rel] at hr
 obtain ⟨b,hb⟩:=hr
 refine wpIn_cond hb ?_
 cases b with
 | true=>exact h1 E0 w0 E a w h0 hS hA
 | false=>exact h2 E0 w0 E a w h0 hS hA
theorem aw_blockI {id:Nat} {c:Code} (h:AWI df F n P GL N hp0 c (blkQ id Q) s):AWI df F n P GL N hp0 (.block id c) Q s:=fun E0 w0 E a w h0 hS hA=>by
 refine wpIn_block (wpIn_mono (h E0 w0 E a w h0 hS hA) fun e a' w' ⟨s',E',h1,h2,h3⟩ => ?_)
 cases e with
 | exit i =>
   simp only [blkQ,Exit.inBlock] at h1 ⊢
   by_cases hi:i=id
   ·rw [if_pos hi] at h1 ⊢;exact ⟨s',E',h1,h2,h3⟩
   ·rw [if_neg hi] at h1 ⊢;exact ⟨s',E',h1,h2,h3⟩
 | _=>exact ⟨s',E',h1,h2,h3⟩
end
section
variable {df:List Deferred} {F:Fence} {n:Nat} {P:Program} {GL:Nat→Option (List DV)} {q:Nat→Bool} {N:Nat} {ops:Array Oper} {draw:Bool} {anc:List (List Nat)} {hp0:Nat→Option AO}
theorem aw_regionI (hF:WideF P F) (hq:QOk P q) (hdp:30≤P.depth) (hm:P.follows .mixedOrders=true) {id:Nat} {Q:Exit→S→Prop} {s:SL} (hback:draw=true→backB ops=true) (hanc:draw=true→anc=ancT ops ops.size) {C:Cxt} (hC:∀f args rds v us hp,C.D f args rds v us hp→DX P GL f args rds v us hp) {K:SL→Prop} (hK:∀s',K s'→Q .normal s'.S)
 (h:aops C (tiOf P) GL q N (slotBase id) ops draw anc K (List.range ops.size) s []):AWI df F n P GL N hp0 (.region id ops draw) Q s.S:=fun E0 w0 E a w h0 hS hA=>by
 obtain ⟨L,s',g1,g2,g3,g4,g5⟩:=aops_run hanc hC _ _ _ h
 have hQ:∀E' a' w',SimD df GL N E' a' w' s'.S→Along E0 w0 E' w'→(fun (x:Exit) (a':Act) (w':World)=>∃s' E',Q x s'∧SimD df GL N E' a' w' s'∧Along E0 w0 E' w') .normal a' w':=fun E' a' w' h1 h2=>⟨s'.S,E',hK _ g3,h1,h2⟩
 cases draw with
 | false =>
   refine wpIn_region ?_
   rw [←g1]
   exact run_wpI hF n (P:=P) (Q:=fun (x:Exit) (a':Act) (w':World)=>∃s' E',Q x s'∧SimD df GL N E' a' w' s'∧Along E0 w0 E' w') hq hdp hQ L E a w s.S g2 hS hA
 | true =>
   refine wpIn_region_any hm ?_
   have hlen:L.length=ops.size:=by
    have:=congrArg List.length g1
    simpa using this
   have:=any_wpI hF n (P:=P) (Q:=fun (x:Exit) (a':Act) (w':World)=>∃s' E',Q x s'∧SimD df GL N E' a' w' s'∧Along E0 w0 E' w') hq hdp (hback rfl) hQ ops.size L (Array.replicate ops.size false) E a {w with drawn:=w.drawn+1} s.S hlen
    (fun j hj=>by
      exfalso
      rw [Array.getD_eq_getD_getElem?] at hj
      rcases Nat.lt_or_ge j ops.size with hlt | hge
      ·rw [Array.getElem?_replicate,if_pos hlt] at hj;simp at hj
      ·rw [Array.getElem?_replicate,if_neg (by omega)] at hj;simp at hj)
    (fun i=>by
      rw [g1,List.mem_range]
      constructor
      ·exact fun h=>h.2
      ·intro hi
       refine ⟨?_,hi⟩
       rw [Array.getD_eq_getD_getElem?,Array.getElem?_replicate,if_pos hi]
       rfl)
    (by rw [g1];exact List.pairwise_lt_range) (g5 rfl) g2 hS.drew hA.drew
   exact this
def nsB:Code→Bool
 | .seq a b=>nsB a&&nsB b
 | .cond _ t e=>nsB t&&nsB e
 | .block _ c=>nsB c
 | .skip=>true
 | .region _ _ _=>true
 | .exit _=>true
 | .ret=>true
 | _=>false
end
section
variable {df:List Deferred} {F:Fence} {P:Program} {T:Ty} {GL:Nat→Option (List DV)} {q:Nat→Bool} {N:Nat} {hp0:Nat→Option AO}
theorem acode_soundI (hF:WideF P F) (n:Nat) (hq:QOk P q) (hdp:30≤P.depth) (hm:P.follows .mixedOrders=true) (hT:tiOf P=T):∀(c:Code) (Q:Exit→SL→Prop) (s:SL),nsB c=true→acode (cxtOf P GL N hp0) T GL q N c Q s→AWI df F n P GL N hp0 c (LQ Q) s.S
 | .skip,Q,s,_,h=>aw_skipI ⟨s,rfl,h⟩
 | .region id ops draw,Q,s,_,h=>by
   rw [acode] at h
   subst hT
   split at h
   ·rename_i hb
    exact aw_regionI hF hq hdp hm (draw_or hb) (fun hd=>by rw [hd];rfl) (fun f args rds v us hp h=>h) (fun s' hs=>⟨s',rfl,hs⟩) h
   ·exact h.elim
 | .seq a b,Q,s,hn,h=>by
   rw [acode] at h
   rw [nsB,Bool.and_eq_true] at hn
   refine aw_seqI (AWI.mono (acode_soundI hF n hq hdp hm hT a _ s hn.1 h) fun e s' ⟨sl,h1,h2⟩ => ?_)
   subst h1
   cases e with
   | normal=>exact acode_soundI hF n hq hdp hm hT b Q sl hn.2 h2
   | _=>exact ⟨sl,rfl,h2⟩
 | .cond c t e,Q,s,hn,h=>by
   rw [acode] at h
   rw [nsB,Bool.and_eq_true] at hn
   split at h
   ·rename_i b hb
    refine aw_condI (by rw [SL.ev_S];exact hb) (fun hb => ?_) (fun hb => ?_)
    ·subst hb;exact acode_soundI hF n hq hdp hm hT t Q s hn.1 h
    ·subst hb;exact acode_soundI hF n hq hdp hm hT e Q s hn.2 h
   ·rename_i hb
    exact aw_anyI (by rw [SL.ev_S];exact hb) (acode_soundI hF n hq hdp hm hT t Q s hn.1 h.1) (acode_soundI hF n hq hdp hm hT e Q s hn.2 h.2)
   ·exact h.elim
 | .block id c,Q,s,hn,h=>by
   rw [acode] at h
   refine aw_blockI (AWI.mono (acode_soundI hF n hq hdp hm hT c _ s hn h) fun e s' ⟨sl,h1,h2⟩ => ?_)
   subst h1
   cases e with
   | exit i =>
     simp only [blkQ] at h2 ⊢
     by_cases hi:i=id
     ·rw [if_pos hi] at h2 ⊢;exact ⟨sl,rfl,h2⟩
     ·rw [if_neg hi] at h2 ⊢;exact ⟨sl,rfl,h2⟩
   | _=>exact ⟨sl,rfl,h2⟩
 | .exit id,Q,s,_,h=>aw_exitI ⟨s,rfl,h⟩
 | .ret,Q,s,_,h=>aw_retI ⟨s,rfl,h⟩
 | .label l,Q,s,hn,h=>by cases hn
 | .loop c,Q,s,hn,h=>by cases hn
 | .rangeFunc _ _ _ _,Q,s,_,h=>h.elim
 | .scope c,Q,s,hn,h=>by cases hn
 | .goto _,Q,s,_,h=>h.elim
 | .refuse _,Q,s,_,h=>h.elim
end
end Go.Proofs.Ytkpijdndakljjaa

namespace Go.Proofs.Ytkpijdndakljjaa
open Go.RowKit Go.Shelf
attribute [local go_sem] Oper.semAt_some
def begN (at0 first step:Int):Nat→Int
 | 0=>at0
 | k+1=>wrap64 (begN at0 first step k+wrap64 (1000*(if k=0 then first else step)))
set_option maxRecDepth 100000 in
set_option maxHeartbeats 1000000 in
theorem iter_in (m l ba bn br:Nat) (at0 first step:Int) (n:Nat) (hn:(n:Int)≤4000000000000000000) (I:Nat→World→Prop)
 (hc:∀k W,I k W→W.cell? ⟨ba,0,none⟩=some (.int .i64 at0)∧W.cell? ⟨bn,0,none⟩=some (.int .i64 n)∧W.cell? ⟨br,2,none⟩=some (.int .i64 first)∧W.cell? ⟨br,3,none⟩=some (.int .i64 step))
 (hY:∀k W,k<n→I k W→YieldAt Fence.wide (m-1) Try.prog l #[.int .i64 k,.int .i64 (begN at0 first step k)] W fun e W'=>e = .returned (.bool true)∧I (k+1) W')
 (W:World) (h0:I 0 W):CallsIn Fence.wide m Try.prog 126 #[.func (.yield l) #[] #[],.pointer (some ⟨ba,0,none⟩),.pointer (some ⟨bn,0,none⟩),.pointer (some ⟨br,0,none⟩)] W fun e W'=>(∃v,e = .returned v)∧I n W':=by
 refine callsIn_of_wp Try.func126 rfl trivial ?_ rfl
 simp only [Try.ntmps126,List.size_toArray,List.length_cons,List.length_nil,Nat.reduceAdd,Nat.reduceSub,Array.replicate_succ,Array.replicate_zero,List.push_toArray,List.append_toArray,List.nil_append,List.cons_append]
 obtain ⟨c1,c2,c3,c4⟩:=hc 0 W h0
 gi_wp2
 gi_loopw [5,9] (fun p5 p9 wr=>∃k:Nat,p5 = .int .i64 (begN at0 first step k)∧p9 = .int .i64 k∧k≤n∧I k wr)
  (fun p5 p9 wr=>n-(intOf p9).toNat)
 case atStart =>
  exact ⟨0,rfl,rfl,Nat.zero_le _,h0⟩
 case round =>
  obtain ⟨k,rfl,rfl,hk,hI⟩:=hrel
  obtain ⟨c1,c2,c3,c4⟩:=hc k wr hI
  by_cases hlt:k<n
  ·have hlt':(k:Int)<(n:Int):=by omega
   obtain ⟨fn,tmps,assign,body,hy,hR⟩:=hY k wr hlt hI
   gi_wp2
   refine ⟨fun g=>(by cases g),hR.mono ?_⟩
   rintro e W3 ⟨rfl,hI3⟩
   obtain ⟨d1,d2,d3,d4⟩:=hc (k+1) W3 hI3
   gi_wp2
   ·rename_i hb
    have hk0:k=0:=by simpa using hb
    exact ⟨⟨k+1,by rw [begN,if_pos hk0],rfl,by omega,hI3⟩,by simp only [intOf];omega⟩
   ·rename_i hb
    have hk0:¬k=0:=by simpa using hb
    exact ⟨⟨k+1,by rw [begN,if_neg hk0],rfl,by omega,hI3⟩,by simp only [intOf];omega⟩
  ·have hge:(n:Int)≤(k:Int):=by omega
   gi_wp2
   go_end0
   exact ⟨⟨_,rfl⟩,by rw [show n=k from by omega];exact hI⟩
end Go.Proofs.Ytkpijdndakljjaa

namespace Go.Proofs.Ytkpijdndakljjaa
open Go.RowKit
set_option maxHeartbeats 4000000
set_option maxRecDepth 10000
def nest:List Code→Code→Code
 | [],c=>c
 | x::xs,c => .seq x (nest xs c)
def spine:Nat→Code→List Code×Code
 | n+1,.seq a b=>(a::(spine n b).1,(spine n b).2)
 | _,c=>([],c)
theorem spine_nest:∀(n:Nat) (c:Code),nest (spine n c).1 (spine n c).2=c
 | 0,c=>by cases c<;>rfl
 | n+1,.seq a b=>by
   show Code.seq a (nest (spine n b).1 (spine n b).2)=_
   rw [spine_nest n b]
 | _+1,.skip=>rfl
 | _+1,.region _ _ _=>rfl
 | _+1,.cond _ _ _=>rfl
 | _+1,.block _ _=>rfl
 | _+1,.loop _=>rfl
 | _+1,.exit _=>rfl
 | _+1,.ret=>rfl
 | _+1,.label _=>rfl
 | _+1,.goto _=>rfl
 | _+1,.scope _=>rfl
 | _+1,.refuse _=>rfl
 | _+1,.rangeFunc _ _ _ _=>rfl
def preC (n:Nat) (c:Code):List Code:=(spine n c).1++(match (spine n c).2 with | .seq (.seq y _) _=>[y] | _=>[])
section
variable (p:Pr) (C:Cxt) (T:Ty) (GL:Nat→Option (List DV)) (q:Nat→Bool) (N:Nat) (Z:SL→Prop)
def acodeNP:List Code→(Exit→SL→Prop)→SL→Prop
 | [],_,s=>Z s
 | x::xs,Q,s=>acodeP p C T GL q N x (seqQ (fun s'=>acodeNP xs Q s') Q) s
end
section
variable {P:Program} {L:List (List (Option TI))} {cs:List Nat} {N:Nat} {hp0:Nat→Option AO}
theorem acodeN_sound (K:Facts P L cs) {Z:SL→Prop} {Q:Exit→SL→Prop} {E0:En} {w0:World} (h0:E0.hp=hp0) {Qc:Exit→Act→World→Prop} {rest:Code}
 (hZ:∀s' E a w,Z s'→Sim noG N E a w s'.S→Along E0 w0 E w→rest.wp P Qc a w) (hQ:∀e s' E a w,e ≠ .normal→Q e s'→Sim noG N E a w s'.S→Along E0 w0 E w→Qc e a w) :
 ∀(xs:List Code) (s:SL),acodeNP real (cxtOf P noG N hp0) (tabF (tiOf P) L) noG (qOf cs) N Z xs Q s→∀E a w,Sim noG N E a w s.S→Along E0 w0 E w→(nest xs rest).wp P Qc a w
 | [],s,h,E,a,w,hS,hA=>hZ s E a w h hS hA
 | x::xs,s,h,E,a,w,hS,hA=>by
   unfold acodeNP at h
   rw [acodeP_real] at h
   refine wp_seq (wp_mono (acode_sound K.hq K.hdp K.hm K.hT x _ s h E0 w0 E a w h0 hS hA) fun e a' w' ⟨s',E',⟨sl,h1,h2⟩,h3,h4⟩ => ?_)
   subst h1
   cases e with
   | normal=>exact acodeN_sound K h0 hZ hQ xs sl h2 E' a' w' h3 h4
   | _=>exact hQ _ sl E' a' w' (by simp) h2 h3 h4
end
abbrev UP:U := .pair (.pair (.int .u8) (.pair (.int .i64) (.int .i64))) (.pair (.int .i64) (.int .i64))
abbrev UR:U := .pair .str (.pair (.int .i64) (.pair (.int .i64) (.pair (.int .i64) (.list UP))))
abbrev Pr1:=(Int×(Int×Int))×(Int×Int)
abbrev Ra:=List UInt8×(Int×(Int×(Int×List Pr1)))
section
variable {rd:Nat→Option AO}
theorem valid_v {rs:List Ra} {fr:Int} {x:Bool} {cells:List DV} {n:Nat} (h:rating_Valid (rs,fr)=some x) (hc:encL UR rs=cells) (hn:rs.length=n):∃c:Unit,True∧Does Try.prog noG 61 [.agg [.d (.dl cells n none),.d (.val (.int .i64 fr))]] [] (.d (.val (.bool x))) [] rd:=by
 subst hc hn
 exact ⟨(),trivial,does_data (con61.2 (rs,fr) x h) rfl⟩
theorem within_v {a b c:Int} {x:Bool} (h:rating_within (a,(b,c))=some x):∃c':Unit,True∧Does Try.prog noG 86 [.d (.val (.int .i64 a)),.d (.val (.int .i64 b)),.d (.val (.int .i64 c))] [] (.d (.val (.bool x))) [] rd :=
 ⟨(),trivial,does_data (con86.2 (a,(b,c)) x h) rfl⟩
theorem seconds_v {a b x:Int} (h:rating_Seconds (a,b)=some x):∃c':Unit,True∧Does Try.prog noG 76 [.d (.val (.int .i64 a)),.d (.val (.int .i64 b))] [] (.d (.val (.int .i64 x))) [] rd :=
 ⟨(),trivial,does_data (con76.2 (a,b) x h) rfl⟩
theorem find_v {rs:List Ra} {fr:Int} {num:List UInt8} {x:Int×Bool} {cells:List DV} {n:Nat} {nb:ByteArray} (h:rating_Find ((rs,fr),num)=some x) (hc:encL UR rs=cells) (hn:rs.length=n) (hb:(⟨num.toArray⟩:ByteArray)=nb):∃c:Unit,True∧Does Try.prog noG 104 [.agg [.d (.dl cells n none),.d (.val (.int .i64 fr))],.d (.val (.string nb))] [] (.tup [.d (.val (.int .i64 x.1)),.d (.val (.bool x.2))]) [] rd:=by
 subst hc hn hb
 exact ⟨(),trivial,does_data (con104.2 ((rs,fr),num) x h) rfl⟩
theorem pieces_v {R:Ra} {fr se x rc rf rst:Int} {rb:ByteArray} {cells:List DV} {n:Nat} (h:rating_Pieces (R,(fr,se))=some x) (hrb:(⟨R.1.toArray⟩:ByteArray)=rb) (hrc:R.2.1=rc) (hrf:R.2.2.1=rf) (hrst:R.2.2.2.1=rst) (hc:encL UP R.2.2.2.2=cells) (hn:R.2.2.2.2.length=n):∃c:Unit,True∧Does Try.prog noG 105 [.agg [.d (.val (.string rb)),.d (.val (.int .i64 rc)),.d (.val (.int .i64 rf)),.d (.val (.int .i64 rst)),.d (.dl cells n none)],.d (.val (.int .i64 fr)),.d (.val (.int .i64 se))] [] (.d (.val (.int .i64 x))) [] rd:=by
 subst hrb hrc hrf hrst hc hn
 exact ⟨(),trivial,does_data (con105.2 (R,(fr,se)) x h) rfl⟩
theorem priceAt_v {l:List Pr1} {a x:Int} {cells:List DV} {n:Nat} (h:rating_priceAt (l,a)=some x) (hc:encL UP l=cells) (hn:l.length=n):∃c:Unit,True∧Does Try.prog noG 107 [.d (.dl cells n none),.d (.val (.int .i64 a))] [] (.d (.val (.int .i64 x))) [] rd:=by
 subst hc hn
 exact ⟨(),trivial,does_data (con107.2 (l,a) x h) rfl⟩
end
theorem getDd {α:Type} {l:List α} {i:Nat} (d:α) (h1:i<l.length):l.getD i d=l[i]:=by rw [List.getD_eq_getElem?_getD,List.getElem?_eq_getElem h1];rfl
theorem beg_o {rb:ByteArray} {rc rf rst at0 np:Int} {pcells:List DV} {pn:Nat}:DoesO Try.prog noG 106 [.agg [.d (.val (.string rb)),.d (.val (.int .i64 rc)),.d (.val (.int .i64 rf)),.d (.val (.int .i64 rst)),.d (.dl pcells pn none)],.d (.val (.int .i64 at0)),.d (.val (.int .i64 np))] []
 (.clo 126 [.ptr 7 0,.ptr 8 0,.ptr 9 0]) [(7,.mix [.d (.val (.int .i64 at0))]),(8,.mix [.d (.val (.int .i64 np))]),(9,.mix [.d (.val (.string rb)),.d (.val (.int .i64 rc)),.d (.val (.int .i64 rf)),.d (.val (.int .i64 rst)),.d (.dl pcells pn none)])]:=by
 refine does_p KK (fn:=Try.f106) Try.func106 rfl (by show 3≤_;decide) ?_
 intro C F p hC hF hp
 conv=>cbv
 exact back_obj [(7,1001),(8,1002),(9,1000)] rfl rfl ⟨⟨rfl,rfl,rfl⟩,⟨rfl,rfl,rfl⟩,⟨rfl,rfl,rfl⟩,trivial⟩ rfl rfl
theorem beg_v {rb:ByteArray} {rc rf rst at0 np:Int} {pcells:List DV} {pn:Nat} {rd:Nat→Option AO} (h7:rd 7=none) (h8:rd 8=none) (h9:rd 9=none):∃c:Unit,True∧Does Try.prog noG 106 [.agg [.d (.val (.string rb)),.d (.val (.int .i64 rc)),.d (.val (.int .i64 rf)),.d (.val (.int .i64 rst)),.d (.dl pcells pn none)],.d (.val (.int .i64 at0)),.d (.val (.int .i64 np))] [7,8,9]
 (.clo 126 [.ptr 7 0,.ptr 8 0,.ptr 9 0]) [(7,.mix [.d (.val (.int .i64 at0))]),(8,.mix [.d (.val (.int .i64 np))]),(9,.mix [.d (.val (.string rb)),.d (.val (.int .i64 rc)),.d (.val (.int .i64 rf)),.d (.val (.int .i64 rst)),.d (.dl pcells pn none)])] rd :=
 ⟨(),trivial,does_of_O beg_o (fun x hx=>by cases hx) rfl rfl (fun x hx=>by
   rcases List.mem_cons.1 hx with rfl | hx
   ·exact ⟨by simp,.inl h7⟩
   ·rcases List.mem_cons.1 hx with rfl | hx
    ·exact ⟨by simp,.inl h8⟩
    ·rcases List.mem_cons.1 hx with rfl | hx
     ·exact ⟨by simp,.inl h9⟩
     ·cases hx) rfl⟩
def stR (rb:ByteArray) (rc rf rst at0 np:Int) (pcells:List DV) (pn:Nat) (sum:Int):SL :=
 ⟨87,[(13,.ptr 5 0),(15,.ptr 6 0),(65,.clo 126 [.ptr 7 0,.ptr 8 0,.ptr 9 0])],
   [(5,.mix [.d (.val (.string rb)),.d (.val (.int .i64 rc)),.d (.val (.int .i64 rf)),.d (.val (.int .i64 rst)),.d (.dl pcells pn none)]),(6,.mix [.d (.val (.int .i64 sum))]),(7,.mix [.d (.val (.int .i64 at0))]),(8,.mix [.d (.val (.int .i64 np))]),(9,.mix [.d (.val (.string rb)),.d (.val (.int .i64 rc)),.d (.val (.int .i64 rf)),.d (.val (.int .i64 rst)),.d (.dl pcells pn none)])]⟩
theorem pre_ok {rs:List Ra} {fr:Int} {num:List UInt8} {a b:Int} {cells:List DV} {n:Nat} {nb:ByteArray} (hcr:encL UR rs=cells) (hnr:rs.length=n) (hnb:(⟨num.toArray⟩:ByteArray)=nb) (hV:rating_Valid (rs,fr)=some true)
 (h1:rating_within (a,(0,281474976710656))=some true) (h2:rating_within (b,(a,281474976710656))=some true) {se:Int} (h3:rating_Seconds (a,b)=some se) (h4:se≤1000000) {ix:Int} (hF:rating_Find ((rs,fr),num)=some (ix,true)) {i:Nat} (hix:ix=(i:Int)) (hin:i<n) {R:Ra} (hR:rs.getD i ([],(0,(0,(0,[]))))=R) {rb:ByteArray} {rc rf rst:Int} {pl:List Pr1} {pcells:List DV} {pn:Nat} (hrb:(⟨R.1.toArray⟩:ByteArray)=rb) (hrc:R.2.1=rc) (hrf:R.2.2.1=rf) (hrst:R.2.2.2.1=rst) (hcp:encL UP R.2.2.2.2=pcells) (hnp:R.2.2.2.2.length=pn)
 {np:Int} (hPi:rating_Pieces (R,(fr,se))=some np) (hnp0:np≠0) {at0:Int} (hat:at0=IntKind.wrap .i64 (a+IntKind.wrap .i64 (1000*fr)))
 {C:Cxt} {F:Ty} {p:Pr} (hC:C=cxtOf Try.prog noG 87 (lookF [])) (hF':F=tiOf Try.prog) (hp:p=real) :
 acodeNP p C (tabF F tyRows) noG (qOf cmpTypes) 87 (fun s=>Tells noG 87 (lookF []) s.S (stR rb rc rf rst at0 np pcells pn rc).S) (preC 11 (Try.f77.body.getD .skip)) (fun _ _=>False) ⟨87,argTm 0 [.agg [.d (.dl cells n none),.d (.val (.int .i64 fr))],.d (.val (.string nb)),.d (.val (.int .i64 a)),.d (.val (.int .i64 b))],[]⟩:=by
 have hemp:p.emp cells=false:=p_empL hp (by rw [←hcr,encL_length,hnr];show 0<n*5;omega)
 have hrow:p.cells cells (p.nm i 5) 5=some [.d (.val (.string rb)),.d (.val (.int .i64 rc)),.d (.val (.int .i64 rf)),.d (.val (.int .i64 rst)),.d (.dl pcells pn none)]:=by
  have hi:i<rs.length:=by omega
  rw [p_cellsF hp (f:=encU UR) (s:=5) (fun x=>encU_length UR x) hi hcr,←getDd ([],(0,(0,(0,[])))) hi,hR,←hrb,←hrc,←hrf,←hrst,←hcp,←hnp]
  rfl
 have eat:p.ar .add .i64 a (p.ar .mul .i64 1000 fr)=at0:=by rw [hp];exact hat.symm
 conv=>cbv
 refine call_E hC (by kernel_rfl) (valid_v hV hcr hnr) ?_;rintro _ _;refine ⟨by decide_cbv,?_⟩
 conv=>cbv
 refine call_E hC (by kernel_rfl) (within_v (by assumption)) ?_;rintro _ _;refine ⟨by decide_cbv,?_⟩
 conv=>cbv
 refine call_E hC (by kernel_rfl) (within_v (by assumption)) ?_;rintro _ _;refine ⟨by decide_cbv,?_⟩
 conv=>cbv
 refine call_E hC (by kernel_rfl) (seconds_v (by assumption)) ?_;rintro _ _;refine ⟨by decide_cbv,?_⟩
 conv=>cbv
 have e6:(p.cmp .gtr se 1000000)=false:=by rw [p_cmp_gtr hp];exact decide_eq_false (by omega)
 simp only [e6];clear e6
 conv=>cbv
 refine call_E hC (by kernel_rfl) (find_v hF hcr hnr hnb) ?_;rintro _ _;refine ⟨by decide_cbv,?_⟩
 conv=>cbv
 obtain ⟨j8,hj8,lj8,ej8⟩:=p_ixE (i:=ix) (n:=n) hp (by omega) (by omega)
 simp only [ej8]
 conv=>cbv
 simp only [hemp]
 conv=>cbv
 simp only [hemp]
 conv=>cbv
 obtain rfl:j8=i:=by omega
 simp only [hemp,hrow]
 conv=>cbv
 refine call_E hC (by kernel_rfl) (pieces_v hPi hrb hrc hrf hrst hcp hnp) ?_;rintro _ _;refine ⟨by decide_cbv,?_⟩
 conv=>cbv
 have e11:(p.cmp .eql np 0)=false:=by rw [p_cmp_eql hp];exact decide_eq_false (by omega)
 simp only [e11];clear e11
 conv=>cbv
 obtain ⟨z12,ez12⟩:∃z,(p.ar .mul .i64 1000 fr)=z:=⟨_,rfl⟩
 simp only [ez12]
 conv=>cbv
 obtain ⟨z13,ez13⟩:∃z,(p.ar .add .i64 a z12)=z:=⟨_,rfl⟩
 simp only [ez13]
 conv=>cbv
 refine call_E hC (by kernel_rfl) (beg_v rfl rfl rfl) ?_;rintro _ _;refine ⟨by decide_cbv,?_⟩
 conv=>cbv
 obtain rfl:z13=at0:=by rw [hat,←ez13,←ez12,hp];rfl
 exact tells_obj (tm:=(stR rb rc rf rst z13 np pcells pn rc).tm) (hp2:=(stR rb rc rf rst z13 np pcells pn rc).hp) [(5,2105),(6,2502),(7,7),(8,8),(9,9)] rfl rfl ⟨⟨rfl,rfl,rfl⟩,⟨rfl,rfl,rfl⟩,⟨rfl,rfl,rfl⟩,⟨rfl,rfl,rfl⟩,⟨rfl,rfl,rfl⟩,trivial⟩ ⟨rfl,rfl,rfl,rfl,rfl,rfl,trivial⟩
end Go.Proofs.Ytkpijdndakljjaa

namespace Go.Proofs.Ytkpijdndakljjaa
open Go.RowKit
set_option maxHeartbeats 4000000
set_option maxRecDepth 10000
def rfG:Code→Operand×Array Tmp×Code×Code
 | .seq (.seq _ (.block _ (.rangeFunc g ps a b))) _=>(g,ps,a,b)
 | _=>(.tmp 0,#[],.skip,.skip)
noncomputable abbrev costC:Code:=Try.f77.body.getD .skip
noncomputable abbrev asgC:Code:=(rfG (spine 11 costC).2).2.2.1
noncomputable abbrev bodC:Code:=(rfG (spine 11 costC).2).2.2.2
def stA (rb:ByteArray) (rc rf rst at0 np:Int) (pcells:List DV) (pn:Nat) (sum k ak:Int):SL :=
 {stR rb rc rf rst at0 np pcells pn sum with tm:=(67,.d (.val (.int .i64 ak)))::(66,.d (.val (.int .i64 k)))::(stR rb rc rf rst at0 np pcells pn sum).tm}
def stB (rb:ByteArray) (rc rf rst at0 np:Int) (pcells:List DV) (pn:Nat) (sum k ak:Int):SL :=
 {stR rb rc rf rst at0 np pcells pn sum with tm:=(17,.d (.val (.int .i64 ak)))::(16,.d (.val (.int .i64 k)))::(stA rb rc rf rst at0 np pcells pn sum k ak).tm}
theorem asg_ok {rb:ByteArray} {rc rf rst at0 np:Int} {pcells:List DV} {pn:Nat} {sum k ak:Int} {C:Cxt} {F:Ty} {p:Pr} :
 acodeP p C (tabF F tyRows) noG (qOf cmpTypes) 87 asgC (fun e s=>e = .normal∧s=stB rb rc rf rst at0 np pcells pn sum k ak) (stA rb rc rf rst at0 np pcells pn sum k ak):=by
 conv=>cbv
 trivial
theorem bod_ok {rb:ByteArray} {rc rf rst at0 np:Int} {pl:List Pr1} {pcells:List DV} {pn:Nat} {sum k ak:Int} (hcp:encL UP pl=pcells) (hnp:pl.length=pn) {j:Int} (hPa:rating_priceAt (pl,ak)=some j) {i:Nat} (hj:j=(i:Int)) (hi:i<pn)
 {d1 d2 d3 d4 d5:Int} (hrow:pl.getD i ((0,(0,0)),(0,0))=((d1,(d2,d3)),(d4,d5))) (hk:0≤k) {hp0:Nat→Option AO} {sum':Int} (hs:sum'=IntKind.wrap .i64 (sum+(if k=0 then d4 else d5)))
 {C:Cxt} {F:Ty} {p:Pr} (hC:C=cxtOf Try.prog noG 87 hp0) (hF':F=tiOf Try.prog) (hp:p=real) :
 acodeP p C (tabF F tyRows) noG (qOf cmpTypes) 87 bodC (fun e s=>e = .normal∧Tells noG 87 (lookF []) ({s with tm:=(stR rb rc rf rst at0 np pcells pn sum).tm}:SL).S (stR rb rc rf rst at0 np pcells pn sum').S) (stB rb rc rf rst at0 np pcells pn sum k ak):=by
 have hemp:p.emp pcells=false:=p_empL hp (by rw [←hcp,encL_length,hnp];show 0<pn*5;omega)
 have hrw:p.cells pcells (p.nm i 5) 5=some [.d (.val (.int .u8 d1)),.d (.val (.int .i64 d2)),.d (.val (.int .i64 d3)),.d (.val (.int .i64 d4)),.d (.val (.int .i64 d5))]:=by
  have hi':i<pl.length:=by omega
  rw [p_cellsF hp (f:=encU UP) (s:=5) (fun x=>encU_length UP x) hi' hcp,←getDd ((0,(0,0)),(0,0)) hi',hrow]
  rfl
 by_cases hk0:k=0
 ·rw [if_pos hk0] at hs
  have ead:p.ar .add .i64 sum d4=sum':=by rw [hp];exact hs.symm
  conv=>cbv
  refine call_E hC (by kernel_rfl) (priceAt_v hPa hcp hnp) ?_;rintro _ _;refine ⟨by decide_cbv,?_⟩
  conv=>cbv
  obtain ⟨j2,hj2,lj2,ej2⟩:=p_ixE (i:=j) (n:=pn) hp (by omega) (by omega)
  simp only [ej2]
  conv=>cbv
  simp only [hemp]
  conv=>cbv
  simp only [hemp]
  conv=>cbv
  obtain rfl:i=j2:=by omega
  simp only [hrw]
  conv=>cbv
  have e3:(p.cmp .eql k 0)=true:=by rw [p_cmp_eql hp];exact decide_eq_true (by omega)
  simp only [e3];clear e3
  conv=>cbv
  simp only [ead]
  exact tells_obj (tm:=(stR rb rc rf rst at0 np pcells pn sum').tm) (hp2:=(stR rb rc rf rst at0 np pcells pn sum').hp) [(5,5),(6,6),(7,7),(8,8),(9,9)] rfl rfl ⟨⟨rfl,rfl,rfl⟩,⟨rfl,rfl,rfl⟩,⟨rfl,rfl,rfl⟩,⟨rfl,rfl,rfl⟩,⟨rfl,rfl,rfl⟩,trivial⟩ ⟨rfl,rfl,rfl,rfl,rfl,rfl,trivial⟩
 ·rw [if_neg hk0] at hs
  have ead:p.ar .add .i64 sum d5=sum':=by rw [hp];exact hs.symm
  conv=>cbv
  refine call_E hC (by kernel_rfl) (priceAt_v hPa hcp hnp) ?_;rintro _ _;refine ⟨by decide_cbv,?_⟩
  conv=>cbv
  obtain ⟨j5,hj5,lj5,ej5⟩:=p_ixE (i:=j) (n:=pn) hp (by omega) (by omega)
  simp only [ej5]
  conv=>cbv
  simp only [hemp]
  conv=>cbv
  simp only [hemp]
  conv=>cbv
  obtain rfl:i=j5:=by omega
  simp only [hrw]
  conv=>cbv
  have e7:(p.cmp .eql k 0)=false:=by rw [p_cmp_eql hp];exact decide_eq_false (by omega)
  simp only [e7];clear e7
  conv=>cbv
  simp only [ead]
  exact tells_obj (tm:=(stR rb rc rf rst at0 np pcells pn sum').tm) (hp2:=(stR rb rc rf rst at0 np pcells pn sum').hp) [(5,5),(6,6),(7,7),(8,8),(9,9)] rfl rfl ⟨⟨rfl,rfl,rfl⟩,⟨rfl,rfl,rfl⟩,⟨rfl,rfl,rfl⟩,⟨rfl,rfl,rfl⟩,⟨rfl,rfl,rfl⟩,trivial⟩ ⟨rfl,rfl,rfl,rfl,rfl,rfl,trivial⟩
noncomputable abbrev posC:Code:=match (spine 11 costC).2 with | .seq _ c=>c | _ => .skip
theorem post_ok {rb:ByteArray} {rc rf rst at0 np:Int} {pcells:List DV} {pn:Nat} {sum:Int} {C:Cxt} {F:Ty} {p:Pr} :
 acodeP p C (tabF F tyRows) noG (qOf cmpTypes) 87 posC (retQ (tabF F tyRows) Try.f77 [] (.tup [.d (.val (.int .i64 sum)),.d (.val (.int .u8 0))]) []) (stR rb rc rf rst at0 np pcells pn sum):=by
 conv=>cbv
 exact back_same rfl
theorem cost_e1 {rs:List Ra} {fr:Int} {num:List UInt8} {a b:Int} {cells:List DV} {n:Nat} {nb:ByteArray} (hcr:encL UR rs=cells) (hnr:rs.length=n) (hnb:(⟨num.toArray⟩:ByteArray)=nb) (hV:rating_Valid (rs,fr)=some false):DoesO Try.prog noG 77 [.agg [.d (.dl cells n none),.d (.val (.int .i64 fr))],.d (.val (.string nb)),.d (.val (.int .i64 a)),.d (.val (.int .i64 b))] [] (.tup [.d (.val (.int .i64 0)),.d (.val (.int .u8 2))]) []:=by
 refine does_p KK (fn:=Try.f77) Try.func77 rfl (by show 4≤_;decide) ?_
 intro C F p hC hF' hp
 conv=>cbv
 refine call_E hC (by kernel_rfl) (valid_v hV hcr hnr) ?_;rintro _ _;refine ⟨by decide_cbv,?_⟩
 conv=>cbv
 exact back_same rfl
theorem cost_e2 {rs:List Ra} {fr:Int} {num:List UInt8} {a b:Int} {cells:List DV} {n:Nat} {nb:ByteArray} (hcr:encL UR rs=cells) (hnr:rs.length=n) (hnb:(⟨num.toArray⟩:ByteArray)=nb) (hV:rating_Valid (rs,fr)=some true) (h1:rating_within (a,(0,281474976710656))=some false):DoesO Try.prog noG 77 [.agg [.d (.dl cells n none),.d (.val (.int .i64 fr))],.d (.val (.string nb)),.d (.val (.int .i64 a)),.d (.val (.int .i64 b))] [] (.tup [.d (.val (.int .i64 0)),.d (.val (.int .u8 3))]) []:=by
 refine does_p KK (fn:=Try.f77) Try.func77 rfl (by show 4≤_;decide) ?_
 intro C F p hC hF' hp
 conv=>cbv
 refine call_E hC (by kernel_rfl) (valid_v hV hcr hnr) ?_;rintro _ _;refine ⟨by decide_cbv,?_⟩
 conv=>cbv
 refine call_E hC (by kernel_rfl) (within_v (by assumption)) ?_;rintro _ _;refine ⟨by decide_cbv,?_⟩
 conv=>cbv
 exact back_same rfl
theorem cost_e3 {rs:List Ra} {fr:Int} {num:List UInt8} {a b:Int} {cells:List DV} {n:Nat} {nb:ByteArray} (hcr:encL UR rs=cells) (hnr:rs.length=n) (hnb:(⟨num.toArray⟩:ByteArray)=nb) (hV:rating_Valid (rs,fr)=some true) (h1:rating_within (a,(0,281474976710656))=some true) (h2:rating_within (b,(a,281474976710656))=some false):DoesO Try.prog noG 77 [.agg [.d (.dl cells n none),.d (.val (.int .i64 fr))],.d (.val (.string nb)),.d (.val (.int .i64 a)),.d (.val (.int .i64 b))] [] (.tup [.d (.val (.int .i64 0)),.d (.val (.int .u8 3))]) []:=by
 refine does_p KK (fn:=Try.f77) Try.func77 rfl (by show 4≤_;decide) ?_
 intro C F p hC hF' hp
 conv=>cbv
 refine call_E hC (by kernel_rfl) (valid_v hV hcr hnr) ?_;rintro _ _;refine ⟨by decide_cbv,?_⟩
 conv=>cbv
 refine call_E hC (by kernel_rfl) (within_v (by assumption)) ?_;rintro _ _;refine ⟨by decide_cbv,?_⟩
 conv=>cbv
 refine call_E hC (by kernel_rfl) (within_v (by assumption)) ?_;rintro _ _;refine ⟨by decide_cbv,?_⟩
 conv=>cbv
 exact back_same rfl
theorem cost_e4 {rs:List Ra} {fr:Int} {num:List UInt8} {a b:Int} {cells:List DV} {n:Nat} {nb:ByteArray} (hcr:encL UR rs=cells) (hnr:rs.length=n) (hnb:(⟨num.toArray⟩:ByteArray)=nb) (hV:rating_Valid (rs,fr)=some true) (h1:rating_within (a,(0,281474976710656))=some true) (h2:rating_within (b,(a,281474976710656))=some true) {se:Int} (h3:rating_Seconds (a,b)=some se) (h4:se > 1000000):DoesO Try.prog noG 77 [.agg [.d (.dl cells n none),.d (.val (.int .i64 fr))],.d (.val (.string nb)),.d (.val (.int .i64 a)),.d (.val (.int .i64 b))] [] (.tup [.d (.val (.int .i64 0)),.d (.val (.int .u8 4))]) []:=by
 refine does_p KK (fn:=Try.f77) Try.func77 rfl (by show 4≤_;decide) ?_
 intro C F p hC hF' hp
 conv=>cbv
 refine call_E hC (by kernel_rfl) (valid_v hV hcr hnr) ?_;rintro _ _;refine ⟨by decide_cbv,?_⟩
 conv=>cbv
 refine call_E hC (by kernel_rfl) (within_v (by assumption)) ?_;rintro _ _;refine ⟨by decide_cbv,?_⟩
 conv=>cbv
 refine call_E hC (by kernel_rfl) (within_v (by assumption)) ?_;rintro _ _;refine ⟨by decide_cbv,?_⟩
 conv=>cbv
 refine call_E hC (by kernel_rfl) (seconds_v (by assumption)) ?_;rintro _ _;refine ⟨by decide_cbv,?_⟩
 conv=>cbv
 have e18:(p.cmp .gtr se 1000000)=true:=by rw [p_cmp_gtr hp];exact decide_eq_true (by omega)
 simp only [e18];clear e18
 conv=>cbv
 exact back_same rfl
theorem cost_e5 {rs:List Ra} {fr:Int} {num:List UInt8} {a b:Int} {cells:List DV} {n:Nat} {nb:ByteArray} (hcr:encL UR rs=cells) (hnr:rs.length=n) (hnb:(⟨num.toArray⟩:ByteArray)=nb) (hV:rating_Valid (rs,fr)=some true) (h1:rating_within (a,(0,281474976710656))=some true) (h2:rating_within (b,(a,281474976710656))=some true) {se:Int} (h3:rating_Seconds (a,b)=some se) (h4:se≤1000000) {ix:Int} (hF:rating_Find ((rs,fr),num)=some (ix,false)):DoesO Try.prog noG 77 [.agg [.d (.dl cells n none),.d (.val (.int .i64 fr))],.d (.val (.string nb)),.d (.val (.int .i64 a)),.d (.val (.int .i64 b))] [] (.tup [.d (.val (.int .i64 0)),.d (.val (.int .u8 8))]) []:=by
 refine does_p KK (fn:=Try.f77) Try.func77 rfl (by show 4≤_;decide) ?_
 intro C F p hC hF' hp
 conv=>cbv
 refine call_E hC (by kernel_rfl) (valid_v hV hcr hnr) ?_;rintro _ _;refine ⟨by decide_cbv,?_⟩
 conv=>cbv
 refine call_E hC (by kernel_rfl) (within_v (by assumption)) ?_;rintro _ _;refine ⟨by decide_cbv,?_⟩
 conv=>cbv
 refine call_E hC (by kernel_rfl) (within_v (by assumption)) ?_;rintro _ _;refine ⟨by decide_cbv,?_⟩
 conv=>cbv
 refine call_E hC (by kernel_rfl) (seconds_v (by assumption)) ?_;rintro _ _;refine ⟨by decide_cbv,?_⟩
 conv=>cbv
 have e24:(p.cmp .gtr se 1000000)=false:=by rw [p_cmp_gtr hp];exact decide_eq_false (by omega)
 simp only [e24];clear e24
 conv=>cbv
 refine call_E hC (by kernel_rfl) (find_v hF hcr hnr hnb) ?_;rintro _ _;refine ⟨by decide_cbv,?_⟩
 conv=>cbv
 exact back_same rfl
theorem cost_e6 {rs:List Ra} {fr:Int} {num:List UInt8} {a b:Int} {cells:List DV} {n:Nat} {nb:ByteArray} (hcr:encL UR rs=cells) (hnr:rs.length=n) (hnb:(⟨num.toArray⟩:ByteArray)=nb) (hV:rating_Valid (rs,fr)=some true) (h1:rating_within (a,(0,281474976710656))=some true) (h2:rating_within (b,(a,281474976710656))=some true) {se:Int} (h3:rating_Seconds (a,b)=some se) (h4:se≤1000000) {ix:Int} (hF:rating_Find ((rs,fr),num)=some (ix,true)) {i:Nat} (hix:ix=(i:Int)) (hin:i<n) {R:Ra} (hR:rs.getD i ([],(0,(0,(0,[]))))=R) {rb:ByteArray} {rc rf rst:Int} {pcells:List DV} {pn:Nat} (hrb:(⟨R.1.toArray⟩:ByteArray)=rb) (hrc:R.2.1=rc) (hrf:R.2.2.1=rf) (hrst:R.2.2.2.1=rst) (hcp:encL UP R.2.2.2.2=pcells) (hnp:R.2.2.2.2.length=pn)
 {np:Int} (hPi:rating_Pieces (R,(fr,se))=some np) (hnp0:np=0):DoesO Try.prog noG 77 [.agg [.d (.dl cells n none),.d (.val (.int .i64 fr))],.d (.val (.string nb)),.d (.val (.int .i64 a)),.d (.val (.int .i64 b))] [] (.tup [.d (.val (.int .i64 0)),.d (.val (.int .u8 0))]) []:=by
 refine does_p KK (fn:=Try.f77) Try.func77 rfl (by show 4≤_;decide) ?_
 intro C F p hC hF' hp
 have hemp:p.emp cells=false:=p_empL hp (by rw [←hcr,encL_length,hnr];show 0<n*5;omega)
 have hrow:p.cells cells (p.nm i 5) 5=some [.d (.val (.string rb)),.d (.val (.int .i64 rc)),.d (.val (.int .i64 rf)),.d (.val (.int .i64 rst)),.d (.dl pcells pn none)]:=by
  have hi:i<rs.length:=by omega
  rw [p_cellsF hp (f:=encU UR) (s:=5) (fun x=>encU_length UR x) hi hcr,←getDd ([],(0,(0,(0,[])))) hi,hR,←hrb,←hrc,←hrf,←hrst,←hcp,←hnp]
  rfl
 conv=>cbv
 refine call_E hC (by kernel_rfl) (valid_v hV hcr hnr) ?_;rintro _ _;refine ⟨by decide_cbv,?_⟩
 conv=>cbv
 refine call_E hC (by kernel_rfl) (within_v (by assumption)) ?_;rintro _ _;refine ⟨by decide_cbv,?_⟩
 conv=>cbv
 refine call_E hC (by kernel_rfl) (within_v (by assumption)) ?_;rintro _ _;refine ⟨by decide_cbv,?_⟩
 conv=>cbv
 refine call_E hC (by kernel_rfl) (seconds_v (by assumption)) ?_;rintro _ _;refine ⟨by decide_cbv,?_⟩
 conv=>cbv
 have e31:(p.cmp .gtr se 1000000)=false:=by rw [p_cmp_gtr hp];exact decide_eq_false (by omega)
 simp only [e31];clear e31
 conv=>cbv
 refine call_E hC (by kernel_rfl) (find_v hF hcr hnr hnb) ?_;rintro _ _;refine ⟨by decide_cbv,?_⟩
 conv=>cbv
 obtain ⟨j33,hj33,lj33,ej33⟩:=p_ixE (i:=ix) (n:=n) hp (by omega) (by omega)
 simp only [ej33]
 conv=>cbv
 simp only [hemp]
 conv=>cbv
 simp only [hemp]
 conv=>cbv
 obtain rfl:j33=i:=by omega
 simp only [hemp,hrow]
 conv=>cbv
 refine call_E hC (by kernel_rfl) (pieces_v hPi hrb hrc hrf hrst hcp hnp) ?_;rintro _ _;refine ⟨by decide_cbv,?_⟩
 conv=>cbv
 have e35:(p.cmp .eql np 0)=true:=by rw [p_cmp_eql hp];exact decide_eq_true (by omega)
 simp only [e35];clear e35
 conv=>cbv
 exact back_same rfl
end Go.Proofs.Ytkpijdndakljjaa
