import Derived.Test.YtigfeinnobfflaaGreatJ14p
set_option linter.unusedSimpArgs false
set_option linter.unusedVariables false
set_option maxRecDepth 100000
set_option maxHeartbeats 4000000
namespace Go.Proofs.YtigfeinnobfflaaGreat
open Go.RowKit
section
variable {due:List Jv} {L:List Int}
theorem acY {l:List Int} (h:Pm due L l) (hl:l.length<=200):So (dJ (l,due)) (Pm due L):=by
 unfold dJ;refine So.both rfl rfl (So.bind (P:=Pm due L) ?_ fun w hw => .mk hw);unfold gQ;have ln:∀ {w:List Int},Pm due L w->l.length=w.length:=fun hw=>h.pm.length_eq.trans hw.pm.length_eq.symm;refine So.join (P:=fun s=>0<=s.2.1/\s.2.1<=(l.length:Int)/\Pm due L s.2.2) (So.loop (fun s=>s.1=s.2.1+20/\0<=s.2.1/\s.2.1<=(l.length:Int)/\Pm due L s.2.2) (fun s=>(1000-s.1).toNat) (fun s hs => ?_) ⟨rfl,by simp only;omega,by simp only;omega,h⟩) fun s hs => ?_
 ·obtain ⟨b,a,w⟩:=s;obtain ⟨h1,h2,h3,h4⟩:=hs;simp only at h1 h2 h3 h4;refine So.dec (fun hb => ?_) fun _ => .out (.inl ⟨h2,h3,h4⟩);have hb:b<=(l.length:Int):=hb;have:=ln h4;simp only [aj (n:=b+20) (by omega)];exact So.both this trivial (So.bind (ZV h4 (a:=a) (b:=b) (by omega) (by omega)) fun u hu => .inl ⟨⟨rfl,by simp only;omega,hb,hu⟩,by simp only;omega⟩)
 ·obtain ⟨b,a,w⟩:=s;obtain ⟨h2,h3,h4⟩:=hs;simp only at h2 h3 h4;refine So.both (ln h4) rfl (So.bind (ZV h4 (a:=a) (by omega) (by have:=ln h4;omega)) fun w hw => ?_);refine So.loop (fun s=>20<=s.1/\Pm due L s.2.2.2) (fun s=>(1000-s.1).toNat) (fun s hs => ?_) ⟨by simp only;omega,hw⟩;obtain ⟨n,x,y,u⟩:=s;obtain ⟨g1,g2⟩:=hs;simp only at g1 g2;refine So.dec (fun hn => ?_) fun _ => .out (.mk g2);have hn:n<(l.length:Int):=hn;simp only [aj (n:=2*n) (by omega),aj (n:=n*2) (by omega)];refine So.join (P:=fun s=>0<=s.2.1/\s.2.1<=(l.length:Int)/\Pm due L s.2.2) (So.loop (fun s=>s.1=s.2.1+2*n/\0<=s.2.1/\s.2.1<=(l.length:Int)/\Pm due L s.2.2) (fun s=>(1000-s.1).toNat) (fun s hs => ?_) ⟨by simp only;omega,by simp only;omega,by simp only;omega,g2⟩) fun s hs => ?_
  ·obtain ⟨b,a,w⟩:=s;obtain ⟨h1,h2,h3,h4⟩:=hs;simp only at h1 h2 h3 h4;refine So.dec (fun hb => ?_) fun _ => .out (.inl ⟨h2,h3,h4⟩);have hb:b<=(l.length:Int):=hb;have hlw:=ln h4;simp only [aj (n:=a+n) (by omega),aj (n:=b+2*n) (by omega)];exact So.both hlw trivial (So.bind (QY 200 h4 (a:=a) (m:=a+n) (b:=b) (by omega) (by omega) (by omega) (by omega) (by omega)) fun u hu => .inl ⟨⟨rfl,by simp only;omega,hb,hu⟩,by simp only;omega⟩)
  ·obtain ⟨b,a,w⟩:=s;obtain ⟨h2,h3,h4⟩:=hs;simp only at h2 h3 h4;have hlw:=ln h4;simp only [aj (n:=a+n) (by omega)];refine So.is rfl (So.dec (fun hm => ?_) fun _ => .inl ⟨⟨by simp only;omega,h4⟩,by simp only;omega⟩);have hm:a+n<(l.length:Int):=hm;exact So.both hlw trivial (So.bind (QY 200 h4 (a:=a) (m:=a+n) (b:=(l.length:Int)) (by omega) (by omega) (by omega) (by omega) (by omega)) fun u hu => .inl ⟨⟨by simp only;omega,hu⟩,by simp only;omega⟩)
end
end Go.Proofs.YtigfeinnobfflaaGreat
