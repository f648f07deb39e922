/- Chapter 15: the rows of the table. -/
import Derived.Test.YtpbanfkjeiihbaaDoorE1
set_option linter.unusedVariables false
set_option linter.unusedSimpArgs false
namespace Go.Proofs.YtpbanfkjeiihbaaDoor
open Go.RowKit

structure Rw where
  st : Int
  kind : Int
  least : Int
  most : Int
  timer : Int
  next : Int
  o0 : Int
  o1 : Int
abbrev Rw.val (r : Rw) : Value := .agg #[.int .u8 r.st, .int .u8 r.kind, .int .i64 r.least, .int .i64 r.most, .int .u8 r.timer, .int .u8 r.next, .int .u8 r.o0, .int .u8 r.o1]
def namesB (r : Rw) (st : Int) (i : Tin) : Bool := if r.st ≠ st ∨ r.kind ≠ i.kind then false else if i.kind = 4 then decide (r.least ≤ i.code) && decide (i.code ≤ r.most) else if i.kind = 5 then i.timer == r.timer else true
set_option maxHeartbeats 1000000 in
theorem names_any (w : World) (r : Rw) (st : Int) (i : Tin) : Calls Tryd.prog 27 #[r.val, .int .u8 st, i.val] w fun e w' => e = .returned (.bool (namesB r st i)) ∧ Below w.heap.size w w' := by
  have HE : Hid (namesB r st i = if r.st ≠ st ∨ r.kind ≠ i.kind then false else if i.kind = 4 then decide (r.least ≤ i.code) && decide (i.code ≤ r.most) else if i.kind = 5 then i.timer == r.timer else true) := rfl
  go_enter Tryd.func27, Tryd.ntmps27
  go_wp2
  all_goals go_ret
  all_goals exact ⟨ret_bool (by rw [HE.out]; grind), ((Below.refl _ _).alloc (Nat.le_refl _) _).alloc (by simp) _⟩

def outK (k c : Int) : List Tout := if k = 0 then [] else if k = 1 then [⟨k, c, 0, 0⟩] else if k = 4 then [⟨k, 0, 10, 32000⟩] else [⟨k, 0, 0, 0⟩]
theorem outK_len (k c : Int) : (outK k c).length ≤ 1 := by
  unfold outK
  (repeat' split) <;> simp
theorem blk_new {w : World} {n : Nat} (h : w.heap.size = n) (t : TypeId) (cs cs' : Array Value) (hc : cs = cs') : Blk (w.alloc (.cells cs t)) n t cs' := by
  subst h; subst hc; exact Blk.new w t cs
def applyM (r : Rw) (m : Mc) (i : Tin) : Mc := ⟨if r.next ≠ 0 then r.next else m.st, m.wait, if r.kind = 4 then i.code else m.code⟩
def applyS (r : Rw) (m : Mc) (i : Tin) : Mc × List Tout := (applyM r m i, outK r.o0 (applyM r m i).code ++ outK r.o1 (applyM r m i).code)
def someK (r : Rw) (c : Int) : Nat → List Tout
  | 0 => []
  | 1 => outK r.o0 c
  | _ => outK r.o0 c ++ outK r.o1 c
theorem someK_len (r : Rw) (c : Int) (k : Nat) : (someK r c k).length ≤ 2 := by
  have h1 := outK_len r.o0 c
  have h2 := outK_len r.o1 c
  unfold someK; split <;> simp <;> omega
set_option maxRecDepth 100000 in
set_option maxHeartbeats 4000000 in
theorem apply_any (w : World) (r : Rw) (m : Mc) (i : Tin) : Calls Tryd.prog 28 #[r.val, m.val, i.val] w fun e w' =>
    ∃ v, e = .returned (.tuple #[(applyS r m i).1.val, v]) ∧ OwnO w' w.heap.size v (applyS r m i).2 ∧ Below w.heap.size w w' := by
  obtain ⟨m', hm'⟩ : ∃ m', m' = applyM r m i := ⟨_, rfl⟩
  have HE : Hid (applyS r m i = (m', someK r m'.code 2)) := by show _ = _; rw [hm']; rfl
  have HM := Lib.hid hm'; clear hm'
  go_enter Tryd.func28, Tryd.ntmps28
  go_upto_if 13 with fail
  go_cut [] (fun wx => Blk wx w.heap.size 66 #[.int .u8 r.st, .int .u8 r.kind, .int .i64 r.least, .int .i64 r.most, .int .u8 r.timer, .int .u8 r.next, .int .u8 r.o0, .int .u8 r.o1] ∧ Blk wx (w.heap.size + 1) 24 #[.int .u8 m'.st, .int .i64 m.wait, .int .i64 m.code] ∧ Blk wx (w.heap.size + 2) 28 #[.int .u8 i.kind, .int .i64 i.code, .int .u8 i.timer] ∧ Blk wx (w.heap.size + 3) 24 #[.int .u8 0, .int .i64 0, .int .i64 0] ∧ wx.heap.size = w.heap.size + 4 ∧ Below w.heap.size w wx)
  case first =>
    have hb : ∀ (a b c d : Obj), Below w.heap.size w ((((w.alloc a).alloc b).alloc c).alloc d) := fun a b c d => ((((Below.refl _ _).alloc (Nat.le_refl _) _).alloc (by simp) _).alloc (by simp; omega) _).alloc (by simp; omega) _
    by_cases hn : r.next = 0
    · have e : (r.next != 0) = false := by simpa using hn
      have hs : Hid (m'.st = m.st) := by show _ = _; rw [HM.out]; simp [applyM, hn]
      clear hn
      go_wp2
      go_meet
      refine ⟨?_, ?_, ?_, ?_, by simp, hb _ _ _ _⟩
      all_goals (repeat (first | (refine blk_new ?_ _ _ _ ?_; · (simp; done)) | refine Blk.alloc ?_ _))
      all_goals first | rfl | rw [hs.out]
    · have e : (r.next != 0) = true := by simpa using hn
      have hs : Hid (m'.st = r.next) := by show _ = _; rw [HM.out]; simp [applyM, hn]
      clear hn
      go_wp2
      go_meet
      refine ⟨?_, ?_, ?_, ?_, by simp, hb _ _ _ _⟩
      all_goals (repeat (first | (refine blk_new ?_ _ _ _ ?_; · (simp; done)) | refine Blk.alloc ?_ _))
      all_goals first | rfl | rw [hs.out]
  case rest =>
    obtain ⟨B3, B4, B5, B6, hz, hbw⟩ := hcut
    obtain ⟨N, hN⟩ : ∃ N, N = w.heap.size := ⟨_, rfl⟩
    rw [← hN] at B3 B4 B5 B6 hz hbw ⊢
    have HN := Lib.hid hN; clear hN
    have f4 := B4.frozen
    have c3 := B3.cell
    have c4 := B4.cell
    have c5 := B5.cell
    have HZ := Lib.hid hz; clear hz
    go_upto_if 19 with fail
    go_cut [] (fun wx => Blk wx N 66 #[.int .u8 r.st, .int .u8 r.kind, .int .i64 r.least, .int .i64 r.most, .int .u8 r.timer, .int .u8 r.next, .int .u8 r.o0, .int .u8 r.o1] ∧ Blk wx (N + 1) 24 #[.int .u8 m'.st, .int .i64 m'.wait, .int .i64 m'.code] ∧ Blk wx (N + 3) 24 #[.int .u8 0, .int .i64 0, .int .i64 0] ∧ wx.heap.size = N + 4 ∧ Below N w wx)
    case first =>
      have hwt : Hid (m'.wait = m.wait) := by show _ = _; rw [HM.out]; rfl
      by_cases hn : r.kind = 4
      · have e : (r.kind == 4) = true := by simpa using hn
        have hs : Hid (m'.code = i.code) := by show _ = _; rw [HM.out]; simp [applyM, hn]
        clear hn
        go_wp2
        go_meet
        refine ⟨B3.far (by simp) _, ?_, B6.far (by simp) _, by simp [World.setCell]; exact HZ.out, hbw.setCell (by simp) _⟩
        have := B4.set_ 2 (.int .i64 i.code)
        rw [hwt.out, hs.out]
        exact this
      · have e : (r.kind == 4) = false := by simpa using hn
        have hs : Hid (m'.code = m.code) := by show _ = _; rw [HM.out]; simp [applyM, hn]
        clear hn
        go_wp2
        go_meet
        refine ⟨B3, ?_, B6, HZ.out, hbw⟩
        rw [hwt.out, hs.out]
        exact B4
    case rest =>
      clear B3 B4 B5 B6 f4 c3 c4 c5 HZ hbw
      obtain ⟨B3, B4, B6, hz, hbw⟩ := hcut
      have c3 := B3.cell
      have HZ := Lib.hid hz; clear hz
      go_wp2_with fail
      clear c3 B3
      go_loopw [8, 25] (fun v j wr => ∃ k : Nat, k ≤ 2 ∧ j = .int .i64 k ∧ OwnO wr (N + 4) v (someK r m'.code k) ∧ Blk wr (N + 1) 24 #[.int .u8 m'.st, .int .i64 m'.wait, .int .i64 m'.code] ∧ Blk wr (N + 3) 24 #[.int .u8 0, .int .i64 0, .int .i64 0] ∧ N + 4 ≤ wr.heap.size ∧ Below N w wr) (fun _ j _ => 2 - (intOf j).toNat)
      case atStart => exact ⟨0, by omega, rfl, OwnL.nil _ _, B4, B6, by have := HZ.out; omega, hbw⟩
      case round =>
        clear B4 B6 HZ hbw
        obtain ⟨k, hk, rfl, hown, B4, B6, hz, hbw⟩ := hrel
        have c4 := B4.cell
        have f6 := B6.frozen
        have c6 := B6.cell
        have ix0 : ∀ w, (Instr.index 64 (.agg #[.int .u8 r.o0, .int .u8 r.o1]) (.int .i64 0)).run Tryd.prog w = .ok (.int .u8 r.o0) w := fun _ => by kernel_rfl
        have ix1 : ∀ w, (Instr.index 64 (.agg #[.int .u8 r.o0, .int .u8 r.o1]) (.int .i64 1)).run Tryd.prog w = .ok (.int .u8 r.o1) w := fun _ => by kernel_rfl
        have hk3 : k = 0 ∨ k = 1 ∨ k = 2 := by omega
        rcases hk3 with rfl | rfl | rfl
        · have hlen := someK_len r m'.code 0
          have HS : Hid (someK r m'.code 1 = someK r m'.code 0 ++ outK r.o0 m'.code) := by show _ = _; simp [someK]
          have HLN := Lib.hid hlen; clear hlen
          have keep : ∀ w6, Below (N + 4) wr w6 → Blk w6 (N + 1) 24 #[.int .u8 m'.st, .int .i64 m'.wait, .int .i64 m'.code] ∧ Blk w6 (N + 3) 24 #[.int .u8 0, .int .i64 0, .int .i64 0] ∧ N + 4 ≤ w6.heap.size ∧ Below N w w6 := fun w6 hb => ⟨B4.below hb (by omega), B6.below hb (by omega), Nat.le_trans hz hb.size, hbw.trans (hb.mono (by omega))⟩
          by_cases h0 : r.o0 = 0
          · have e0 : (r.o0 == 0) = true := by simpa using h0
            have hO : Hid (outK r.o0 m'.code = []) := by show _ = _; simp [outK, h0]
            clear h0
            go_wp2
            go_roundw
            case rel =>
              refine ⟨1, by omega, by go_num, ?_, keep _ (Below.refl _ _)⟩
              rw [HS.out, hO.out, List.append_nil]
              exact hown
            case measure => simp [intOf]
          · have e0 : (r.o0 == 0) = false := by simpa using h0
            by_cases h1 : r.o0 = 1
            · have e1 : (r.o0 == 1) = true := by simpa using h1
              have hO : Hid (outK r.o0 m'.code = [⟨r.o0, m'.code, 0, 0⟩]) := by show _ = _; simp [outK, h1]
              clear h0 h1
              go_wp2_with (at_builtin; refine wpList_app1 ETo Tout.enc wr rfl (.tmp 38) (.tmp 43) rfl (N + 4) u8 _ rfl hown ⟨r.o0, m'.code, 0, 0⟩ _ _ rfl rfl rfl (Tout.enc_one _) (by have := HLN.out; omega) (by simp only [maxLen]; have := HLN.out; omega) hz ?_; intro v3 w6 hown3 hb6 hg6)
              go_roundw
              case rel =>
                refine ⟨1, by omega, by go_num, ?_, keep _ hb6⟩
                rw [HS.out, hO.out]
                exact hown3
              case measure => simp [intOf]
            · have e1 : (r.o0 == 1) = false := by simpa using h1
              by_cases h4 : r.o0 = 4
              · have e4 : (r.o0 == 4) = true := by simpa using h4
                have hO : Hid (outK r.o0 m'.code = [⟨r.o0, 0, 10, 32000⟩]) := by show _ = _; simp [outK, h4]
                clear h0 h1 h4
                go_wp2_with (at_builtin; refine wpList_app1 ETo Tout.enc wr rfl (.tmp 47) (.tmp 50) rfl (N + 4) u8 _ rfl hown ⟨r.o0, 0, 10, 32000⟩ _ _ rfl rfl rfl (Tout.enc_one _) (by have := HLN.out; omega) (by simp only [maxLen]; have := HLN.out; omega) hz ?_; intro v3 w6 hown3 hb6 hg6)
                go_roundw
                case rel =>
                  refine ⟨1, by omega, by go_num, ?_, keep _ hb6⟩
                  rw [HS.out, hO.out]
                  exact hown3
                case measure => simp [intOf]
              · have e4 : (r.o0 == 4) = false := by simpa using h4
                have hO : Hid (outK r.o0 m'.code = [⟨r.o0, 0, 0, 0⟩]) := by show _ = _; simp [outK, h0, h1, h4]
                clear h0 h1 h4
                go_wp2_with (at_builtin; refine wpList_app1 ETo Tout.enc wr rfl (.tmp 29) (.tmp 32) rfl (N + 4) u8 _ rfl hown ⟨r.o0, 0, 0, 0⟩ _ _ rfl rfl rfl (Tout.enc_one _) (by have := HLN.out; omega) (by simp only [maxLen]; have := HLN.out; omega) hz ?_; intro v3 w6 hown3 hb6 hg6)
                go_roundw
                case rel =>
                  refine ⟨1, by omega, by go_num, ?_, keep _ hb6⟩
                  rw [HS.out, hO.out]
                  exact hown3
                case measure => simp [intOf]
        · have hlen := someK_len r m'.code 1
          have HS : Hid (someK r m'.code 2 = someK r m'.code 1 ++ outK r.o1 m'.code) := by show _ = _; simp [someK]
          have HLN := Lib.hid hlen; clear hlen
          have keep : ∀ w6, Below (N + 4) wr w6 → Blk w6 (N + 1) 24 #[.int .u8 m'.st, .int .i64 m'.wait, .int .i64 m'.code] ∧ Blk w6 (N + 3) 24 #[.int .u8 0, .int .i64 0, .int .i64 0] ∧ N + 4 ≤ w6.heap.size ∧ Below N w w6 := fun w6 hb => ⟨B4.below hb (by omega), B6.below hb (by omega), Nat.le_trans hz hb.size, hbw.trans (hb.mono (by omega))⟩
          by_cases h0 : r.o1 = 0
          · have e0 : (r.o1 == 0) = true := by simpa using h0
            have hO : Hid (outK r.o1 m'.code = []) := by show _ = _; simp [outK, h0]
            clear h0
            go_wp2
            go_roundw
            case rel =>
              refine ⟨2, by omega, by go_num, ?_, keep _ (Below.refl _ _)⟩
              rw [HS.out, hO.out, List.append_nil]
              exact hown
            case measure => simp [intOf]
          · have e0 : (r.o1 == 0) = false := by simpa using h0
            by_cases h1 : r.o1 = 1
            · have e1 : (r.o1 == 1) = true := by simpa using h1
              have hO : Hid (outK r.o1 m'.code = [⟨r.o1, m'.code, 0, 0⟩]) := by show _ = _; simp [outK, h1]
              clear h0 h1
              go_wp2_with (at_builtin; refine wpList_app1 ETo Tout.enc wr rfl (.tmp 38) (.tmp 43) rfl (N + 4) u8 _ rfl hown ⟨r.o1, m'.code, 0, 0⟩ _ _ rfl rfl rfl (Tout.enc_one _) (by have := HLN.out; omega) (by simp only [maxLen]; have := HLN.out; omega) hz ?_; intro v3 w6 hown3 hb6 hg6)
              go_roundw
              case rel =>
                refine ⟨2, by omega, by go_num, ?_, keep _ hb6⟩
                rw [HS.out, hO.out]
                exact hown3
              case measure => simp [intOf]
            · have e1 : (r.o1 == 1) = false := by simpa using h1
              by_cases h4 : r.o1 = 4
              · have e4 : (r.o1 == 4) = true := by simpa using h4
                have hO : Hid (outK r.o1 m'.code = [⟨r.o1, 0, 10, 32000⟩]) := by show _ = _; simp [outK, h4]
                clear h0 h1 h4
                go_wp2_with (at_builtin; refine wpList_app1 ETo Tout.enc wr rfl (.tmp 47) (.tmp 50) rfl (N + 4) u8 _ rfl hown ⟨r.o1, 0, 10, 32000⟩ _ _ rfl rfl rfl (Tout.enc_one _) (by have := HLN.out; omega) (by simp only [maxLen]; have := HLN.out; omega) hz ?_; intro v3 w6 hown3 hb6 hg6)
                go_roundw
                case rel =>
                  refine ⟨2, by omega, by go_num, ?_, keep _ hb6⟩
                  rw [HS.out, hO.out]
                  exact hown3
                case measure => simp [intOf]
              · have e4 : (r.o1 == 4) = false := by simpa using h4
                have hO : Hid (outK r.o1 m'.code = [⟨r.o1, 0, 0, 0⟩]) := by show _ = _; simp [outK, h0, h1, h4]
                clear h0 h1 h4
                go_wp2_with (at_builtin; refine wpList_app1 ETo Tout.enc wr rfl (.tmp 29) (.tmp 32) rfl (N + 4) u8 _ rfl hown ⟨r.o1, 0, 0, 0⟩ _ _ rfl rfl rfl (Tout.enc_one _) (by have := HLN.out; omega) (by simp only [maxLen]; have := HLN.out; omega) hz ?_; intro v3 w6 hown3 hb6 hg6)
                go_roundw
                case rel =>
                  refine ⟨2, by omega, by go_num, ?_, keep _ hb6⟩
                  rw [HS.out, hO.out]
                  exact hown3
                case measure => simp [intOf]
        · go_wp2
          have B9 : Blk (((wr.setCell ⟨N + 1 + 1 + 1, 0, none⟩ (.int .u8 m'.st)).setCell ⟨N + 1 + 1 + 1, 1, none⟩ (.int .i64 m'.wait)).setCell ⟨N + 1 + 1 + 1, 2, none⟩ (.int .i64 m'.code)) (N + 1 + 1 + 1) 24 #[.int .u8 m'.st, .int .i64 m'.wait, .int .i64 m'.code] :=
            ((Blk.set_ B6 0 (.int .u8 m'.st)).set_ 1 (.int .i64 m'.wait)).set_ 2 (.int .i64 m'.code)
          have c9 := B9.cell
          refine bodyPost_ret (v := .tuple #[m'.val, u8]) (by simp [results, Tryd.results28, go_sem, c9]) rfl ⟨u8, ?_, ?_, ?_⟩
          · rw [HE.out]
          · rw [HE.out]
            exact (((hown.setFar (by omega) 0 _).setFar (by omega) 1 _).setFar (by omega) 2 _).base_le (by have := HN.out; omega)
          · rw [← HN.out]
            exact ((hbw.setCell (by simp; omega) _).setCell (by simp; omega) _).setCell (by simp; omega) _
end Go.Proofs.YtpbanfkjeiihbaaDoor
