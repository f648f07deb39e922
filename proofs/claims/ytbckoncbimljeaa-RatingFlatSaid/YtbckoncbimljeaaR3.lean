/- rating.Cost: up to its loop. -/
import Derived.Test.YtbckoncbimljeaaR2
import Derived.Test.YtbckoncbimljeaaZ1
set_option linter.unusedVariables false
set_option linter.unusedSimpArgs false
namespace Go.Proofs.Ytbckoncbimljeaa
open Go.RowKit
set_option maxHeartbeats 4000000
set_option maxRecDepth 10000

def nest : List Code → Code → Code
  | [], c => c
  | x :: xs, c => .seq x (nest xs c)
def spine : Nat → Code → List Code × Code
  | n + 1, .seq a b => (a :: (spine n b).1, (spine n b).2)
  | _, c => ([], c)
theorem spine_nest : ∀ (n : Nat) (c : Code), nest (spine n c).1 (spine n c).2 = c
  | 0, c => by cases c <;> rfl
  | n + 1, .seq a b => by
    show Code.seq a (nest (spine n b).1 (spine n b).2) = _
    rw [spine_nest n b]
  | _ + 1, .skip => rfl
  | _ + 1, .region _ _ _ => rfl
  | _ + 1, .cond _ _ _ => rfl
  | _ + 1, .block _ _ => rfl
  | _ + 1, .loop _ => rfl
  | _ + 1, .exit _ => rfl
  | _ + 1, .ret => rfl
  | _ + 1, .label _ => rfl
  | _ + 1, .goto _ => rfl
  | _ + 1, .scope _ => rfl
  | _ + 1, .refuse _ => rfl
  | _ + 1, .rangeFunc _ _ _ _ => rfl
/-- The codes up to a loop that stands behind the region y. -/
def preC (n : Nat) (c : Code) : List Code := (spine n c).1 ++ (match (spine n c).2 with | .seq (.seq y _) _ => [y] | _ => [])
section
variable (p : Pr) (C : Cxt) (T : Ty) (GL : Nat → Option (List DV)) (q : Nat → Bool) (N : Nat) (Z : SL → Prop)
def acodeNP : List Code → (Exit → SL → Prop) → SL → Prop
  | [], _, s => Z s
  | x :: xs, Q, s => acodeP p C T GL q N x (seqQ (fun s' => acodeNP xs Q s') Q) s
end
theorem seqQ_then {α : Type} {K : α → Prop} {Q : Exit → α → Prop} {e : Exit} {s : α} (h : e ≠ .normal) : seqQ K Q e s = Q e s := by
  cases e <;> first | rfl | exact (h rfl).elim
section
variable {P : Program} {L : List (List (Option TI))} {cs : List Nat} {N : Nat} {hp0 : Nat → Option AO}
/-- Codes in a row, walked; then what is left. -/
theorem acodeN_sound (K : Facts P L cs) {Z : SL → Prop} {Q : Exit → SL → Prop} {E0 : En} {w0 : World} (h0 : E0.hp = hp0) {Qc : Exit → Act → World → Prop} {rest : Code}
    (hZ : ∀ s' E a w, Z s' → Sim noG N E a w s'.S → Along E0 w0 E w → rest.wp P Qc a w) (hQ : ∀ e s' E a w, e ≠ .normal → Q e s' → Sim noG N E a w s'.S → Along E0 w0 E w → Qc e a w) :
    ∀ (xs : List Code) (s : SL), acodeNP real (cxtOf P noG N hp0) (tabF (tiOf P) L) noG (qOf cs) N Z xs Q s → ∀ E a w, Sim noG N E a w s.S → Along E0 w0 E w → (nest xs rest).wp P Qc a w
  | [], s, h, E, a, w, hS, hA => hZ s E a w h hS hA
  | x :: xs, s, h, E, a, w, hS, hA => by
    unfold acodeNP at h
    rw [acodeP_real] at h
    refine wp_seq (wp_mono (acode_sound K.hq K.hdp K.hm K.hT x _ s h E0 w0 E a w h0 hS hA) fun e a' w' ⟨s', E', ⟨sl, h1, h2⟩, h3, h4⟩ => ?_)
    subst h1
    cases e with
    | normal => exact acodeN_sound K h0 hZ hQ xs sl h2 E' a' w' h3 h4
    | _ => exact hQ _ sl E' a' w' (by simp) h2 h3 h4
end
abbrev UP : U := .pair (.pair (.int .u8) (.pair (.int .i64) (.int .i64))) (.pair (.int .i64) (.int .i64))
abbrev UR : U := .pair .str (.pair (.int .i64) (.pair (.int .i64) (.pair (.int .i64) (.list UP))))
abbrev Pr1 := (Int × (Int × Int)) × (Int × Int)
abbrev Ra := List UInt8 × (Int × (Int × (Int × List Pr1)))
section
variable {rd : Nat → Option AO}
theorem valid_v {rs : List Ra} {fr : Int} {x : Bool} {cells : List DV} {n : Nat} (h : rating_Valid (rs, fr) = some x) (hc : encL UR rs = cells) (hn : rs.length = n) : ∃ c : Unit, True ∧ Does Try.prog noG 14 [.agg [.d (.dl cells n none), .d (.val (.int .i64 fr))]] [] (.d (.val (.bool x))) [] rd := by
  subst hc hn
  exact ⟨(), trivial, does_data (con14.2 (rs, fr) x h) rfl⟩
theorem within_v {a b c : Int} {x : Bool} (h : rating_within (a, (b, c)) = some x) : ∃ c' : Unit, True ∧ Does Try.prog noG 28 [.d (.val (.int .i64 a)), .d (.val (.int .i64 b)), .d (.val (.int .i64 c))] [] (.d (.val (.bool x))) [] rd :=
  ⟨(), trivial, does_data (con28.2 (a, (b, c)) x h) rfl⟩
theorem seconds_v {a b x : Int} (h : rating_Seconds (a, b) = some x) : ∃ c' : Unit, True ∧ Does Try.prog noG 22 [.d (.val (.int .i64 a)), .d (.val (.int .i64 b))] [] (.d (.val (.int .i64 x))) [] rd :=
  ⟨(), trivial, does_data (con22.2 (a, b) x h) rfl⟩
theorem find_v {rs : List Ra} {fr : Int} {num : List UInt8} {x : Int × Bool} {cells : List DV} {n : Nat} {nb : ByteArray} (h : rating_Find ((rs, fr), num) = some x) (hc : encL UR rs = cells) (hn : rs.length = n) (hb : (⟨num.toArray⟩ : ByteArray) = nb) : ∃ c : Unit, True ∧ Does Try.prog noG 12 [.agg [.d (.dl cells n none), .d (.val (.int .i64 fr))], .d (.val (.string nb))] [] (.tup [.d (.val (.int .i64 x.1)), .d (.val (.bool x.2))]) [] rd := by
  subst hc hn hb
  exact ⟨(), trivial, does_data (con12.2 ((rs, fr), num) x h) rfl⟩
theorem pieces_v {R : Ra} {fr se x rc rf rst : Int} {rb : ByteArray} {cells : List DV} {n : Nat} (h : rating_Pieces (R, (fr, se)) = some x) (hrb : (⟨R.1.toArray⟩ : ByteArray) = rb) (hrc : R.2.1 = rc) (hrf : R.2.2.1 = rf) (hrst : R.2.2.2.1 = rst) (hc : encL UP R.2.2.2.2 = cells) (hn : R.2.2.2.2.length = n) : ∃ c : Unit, True ∧ Does Try.prog noG 16 [.agg [.d (.val (.string rb)), .d (.val (.int .i64 rc)), .d (.val (.int .i64 rf)), .d (.val (.int .i64 rst)), .d (.dl cells n none)], .d (.val (.int .i64 fr)), .d (.val (.int .i64 se))] [] (.d (.val (.int .i64 x))) [] rd := by
  subst hrb hrc hrf hrst hc hn
  exact ⟨(), trivial, does_data (con16.2 (R, (fr, se)) x h) rfl⟩
theorem priceAt_v {l : List Pr1} {a x : Int} {cells : List DV} {n : Nat} (h : rating_priceAt (l, a) = some x) (hc : encL UP l = cells) (hn : l.length = n) : ∃ c : Unit, True ∧ Does Try.prog noG 33 [.d (.dl cells n none), .d (.val (.int .i64 a))] [] (.d (.val (.int .i64 x))) [] rd := by
  subst hc hn
  exact ⟨(), trivial, does_data (con33.2 (l, a) x h) rfl⟩
end
theorem getDd {α : Type} {l : List α} {i : Nat} (d : α) (h1 : i < l.length) : l.getD i d = l[i] := by rw [List.getD_eq_getElem?_getD, List.getElem?_eq_getElem h1]; rfl
theorem beg_o {rb : ByteArray} {rc rf rst at0 np : Int} {pcells : List DV} {pn : Nat} : DoesO Try.prog noG 32 [.agg [.d (.val (.string rb)), .d (.val (.int .i64 rc)), .d (.val (.int .i64 rf)), .d (.val (.int .i64 rst)), .d (.dl pcells pn none)], .d (.val (.int .i64 at0)), .d (.val (.int .i64 np))] []
    (.clo 40 [.ptr 7 0, .ptr 8 0, .ptr 9 0]) [(7, .mix [.d (.val (.int .i64 at0))]), (8, .mix [.d (.val (.int .i64 np))]), (9, .mix [.d (.val (.string rb)), .d (.val (.int .i64 rc)), .d (.val (.int .i64 rf)), .d (.val (.int .i64 rst)), .d (.dl pcells pn none)])] := by
  refine does_p KK (fn := Try.f32) Try.func32 rfl (by show 3 ≤ _; decide) ?_
  intro C F p hC hF hp
  conv => cbv
  exact back_obj [(7, 1001), (8, 1002), (9, 1000)] rfl rfl ⟨⟨rfl, rfl, rfl⟩, ⟨rfl, rfl, rfl⟩, ⟨rfl, rfl, rfl⟩, trivial⟩ rfl rfl
theorem beg_v {rb : ByteArray} {rc rf rst at0 np : Int} {pcells : List DV} {pn : Nat} {rd : Nat → Option AO} (h7 : rd 7 = none) (h8 : rd 8 = none) (h9 : rd 9 = none) : ∃ c : Unit, True ∧ Does Try.prog noG 32 [.agg [.d (.val (.string rb)), .d (.val (.int .i64 rc)), .d (.val (.int .i64 rf)), .d (.val (.int .i64 rst)), .d (.dl pcells pn none)], .d (.val (.int .i64 at0)), .d (.val (.int .i64 np))] [7, 8, 9]
    (.clo 40 [.ptr 7 0, .ptr 8 0, .ptr 9 0]) [(7, .mix [.d (.val (.int .i64 at0))]), (8, .mix [.d (.val (.int .i64 np))]), (9, .mix [.d (.val (.string rb)), .d (.val (.int .i64 rc)), .d (.val (.int .i64 rf)), .d (.val (.int .i64 rst)), .d (.dl pcells pn none)])] rd :=
  ⟨(), trivial, does_of_O beg_o (fun x hx => by cases hx) rfl rfl (fun x hx => by
    rcases List.mem_cons.1 hx with rfl | hx
    · exact ⟨by simp, .inl h7⟩
    · rcases List.mem_cons.1 hx with rfl | hx
      · exact ⟨by simp, .inl h8⟩
      · rcases List.mem_cons.1 hx with rfl | hx
        · exact ⟨by simp, .inl h9⟩
        · cases hx) rfl⟩
/-- The state at the loop, between two rounds: sum so far. -/
def stR (rb : ByteArray) (rc rf rst at0 np : Int) (pcells : List DV) (pn : Nat) (sum : Int) : SL :=
  ⟨87, [(13, .ptr 5 0), (15, .ptr 6 0), (65, .clo 40 [.ptr 7 0, .ptr 8 0, .ptr 9 0])],
    [(5, .mix [.d (.val (.string rb)), .d (.val (.int .i64 rc)), .d (.val (.int .i64 rf)), .d (.val (.int .i64 rst)), .d (.dl pcells pn none)]), (6, .mix [.d (.val (.int .i64 sum))]), (7, .mix [.d (.val (.int .i64 at0))]), (8, .mix [.d (.val (.int .i64 np))]), (9, .mix [.d (.val (.string rb)), .d (.val (.int .i64 rc)), .d (.val (.int .i64 rf)), .d (.val (.int .i64 rst)), .d (.dl pcells pn none)])]⟩
theorem pre_ok {rs : List Ra} {fr : Int} {num : List UInt8} {a b : Int} {cells : List DV} {n : Nat} {nb : ByteArray} (hcr : encL UR rs = cells) (hnr : rs.length = n) (hnb : (⟨num.toArray⟩ : ByteArray) = nb) (hV : rating_Valid (rs, fr) = some true)
    (h1 : rating_within (a, (0, 281474976710656)) = some true) (h2 : rating_within (b, (a, 281474976710656)) = some true) {se : Int} (h3 : rating_Seconds (a, b) = some se) (h4 : se ≤ 1000000) {ix : Int} (hF : rating_Find ((rs, fr), num) = some (ix, true)) {i : Nat} (hix : ix = (i : Int)) (hin : i < n) {R : Ra} (hR : rs.getD i ([], (0, (0, (0, [])))) = R) {rb : ByteArray} {rc rf rst : Int} {pl : List Pr1} {pcells : List DV} {pn : Nat} (hrb : (⟨R.1.toArray⟩ : ByteArray) = rb) (hrc : R.2.1 = rc) (hrf : R.2.2.1 = rf) (hrst : R.2.2.2.1 = rst) (hcp : encL UP R.2.2.2.2 = pcells) (hnp : R.2.2.2.2.length = pn)
    {np : Int} (hPi : rating_Pieces (R, (fr, se)) = some np) (hnp0 : np ≠ 0) {at0 : Int} (hat : at0 = IntKind.wrap .i64 (a + IntKind.wrap .i64 (1000 * fr)))
    {C : Cxt} {F : Ty} {p : Pr} (hC : C = cxtOf Try.prog noG 87 (lookF [])) (hF' : F = tiOf Try.prog) (hp : p = real) :
    acodeNP p C (tabF F tyRows) noG (qOf cmpTypes) 87 (fun s => Tells noG 87 (lookF []) s.S (stR rb rc rf rst at0 np pcells pn rc).S) (preC 11 (Try.f18.body.getD .skip)) (fun _ _ => False) ⟨87, argTm 0 [.agg [.d (.dl cells n none), .d (.val (.int .i64 fr))], .d (.val (.string nb)), .d (.val (.int .i64 a)), .d (.val (.int .i64 b))], []⟩ := by
  have hemp : p.emp cells = false := p_empL hp (by rw [← hcr, encL_length, hnr]; show 0 < n * 5; omega)
  have hrow : p.cells cells (p.nm i 5) 5 = some [.d (.val (.string rb)), .d (.val (.int .i64 rc)), .d (.val (.int .i64 rf)), .d (.val (.int .i64 rst)), .d (.dl pcells pn none)] := by
    have hi : i < rs.length := by omega
    rw [p_cellsF hp (f := encU UR) (s := 5) (fun x => encU_length UR x) hi hcr, ← getDd ([], (0, (0, (0, [])))) hi, hR, ← hrb, ← hrc, ← hrf, ← hrst, ← hcp, ← hnp]
    rfl
  have eat : p.ar .add .i64 a (p.ar .mul .i64 1000 fr) = at0 := by rw [hp]; exact hat.symm
  conv => cbv
  refine call_E hC (by kernel_rfl) (valid_v hV hcr hnr) ?_; rintro _ _; refine ⟨by decide_cbv, ?_⟩
  conv => cbv
  refine call_E hC (by kernel_rfl) (within_v (by assumption)) ?_; rintro _ _; refine ⟨by decide_cbv, ?_⟩
  conv => cbv
  refine call_E hC (by kernel_rfl) (within_v (by assumption)) ?_; rintro _ _; refine ⟨by decide_cbv, ?_⟩
  conv => cbv
  refine call_E hC (by kernel_rfl) (seconds_v (by assumption)) ?_; rintro _ _; refine ⟨by decide_cbv, ?_⟩
  conv => cbv
  have e6 : (p.cmp .gtr se 1000000) = false := by rw [p_cmp_gtr hp]; exact decide_eq_false (by omega)
  simp only [e6]; clear e6
  conv => cbv
  refine call_E hC (by kernel_rfl) (find_v hF hcr hnr hnb) ?_; rintro _ _; refine ⟨by decide_cbv, ?_⟩
  conv => cbv
  obtain ⟨j8, hj8, lj8, ej8⟩ := p_ixE (i := ix) (n := n) hp (by omega) (by omega)
  simp only [ej8]
  conv => cbv
  simp only [hemp]
  conv => cbv
  simp only [hemp]
  conv => cbv
  obtain rfl : j8 = i := by omega
  simp only [hemp, hrow]
  conv => cbv
  refine call_E hC (by kernel_rfl) (pieces_v hPi hrb hrc hrf hrst hcp hnp) ?_; rintro _ _; refine ⟨by decide_cbv, ?_⟩
  conv => cbv
  have e11 : (p.cmp .eql np 0) = false := by rw [p_cmp_eql hp]; exact decide_eq_false (by omega)
  simp only [e11]; clear e11
  conv => cbv
  obtain ⟨z12, ez12⟩ : ∃ z, (p.ar .mul .i64 1000 fr) = z := ⟨_, rfl⟩
  simp only [ez12]
  conv => cbv
  obtain ⟨z13, ez13⟩ : ∃ z, (p.ar .add .i64 a z12) = z := ⟨_, rfl⟩
  simp only [ez13]
  conv => cbv
  refine call_E hC (by kernel_rfl) (beg_v rfl rfl rfl) ?_; rintro _ _; refine ⟨by decide_cbv, ?_⟩
  conv => cbv
  obtain rfl : z13 = at0 := by rw [hat, ← ez13, ← ez12, hp]; rfl
  exact tells_obj (tm := (stR rb rc rf rst z13 np pcells pn rc).tm) (hp2 := (stR rb rc rf rst z13 np pcells pn rc).hp) [(5, 2105), (6, 2502), (7, 7), (8, 8), (9, 9)] rfl rfl ⟨⟨rfl, rfl, rfl⟩, ⟨rfl, rfl, rfl⟩, ⟨rfl, rfl, rfl⟩, ⟨rfl, rfl, rfl⟩, ⟨rfl, rfl, rfl⟩, trivial⟩ ⟨rfl, rfl, rfl, rfl, rfl, rfl, trivial⟩
end Go.Proofs.Ytbckoncbimljeaa
