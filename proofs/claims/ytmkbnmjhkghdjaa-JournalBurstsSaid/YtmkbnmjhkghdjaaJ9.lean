/- Chapter 20, plain: a journal, cut. -/
import Derived.Test.YtmkbnmjhkghdjaaJ8
set_option linter.unusedVariables false
set_option linter.unusedSimpArgs false
namespace Go.Proofs.Ytmkbnmjhkghdjaa
open Go.RowKit

/-- The bytes of records, numbered from i on. -/
def encAll : Nat → Recs → List Int
  | _, [] => []
  | i, r :: l => encB i r.1 r.2 ++ encAll (i + 1) l
/-- Records as they can be written. -/
def RecOk (r : Int × List Int) : Prop := (0 ≤ r.1 ∧ r.1 ≤ 255) ∧ Bytes r.2 ∧ r.2.length ≤ 4096
theorem encB_length (n k : Int) (d : List Int) : (encB n k d).length = 14 + d.length := by
  rw [encB, List.length_append, be_length, preB_length]; omega
theorem encB_bytes {n k : Int} {d : List Int} (h : RecOk (k, d)) : Bytes (encB n k d) := (preB_bytes h.1 h.2.1).app (be_bytes _ _)
theorem encAll_bytes : ∀ (l : Recs) (i : Nat), (∀ r ∈ l, RecOk r) → Bytes (encAll i l)
  | [], i, _ => fun x hx => by cases hx
  | r :: l, i, h => (encB_bytes (h r List.mem_cons_self)).app (encAll_bytes l (i + 1) fun r' h' => h r' (List.mem_cons_of_mem _ h'))
theorem getD_app_lt {a b : List Int} {i : Nat} (h : i < a.length) : (a ++ b).getD i 0 = a.getD i 0 := by
  rw [List.getD_eq_getElem?_getD, List.getElem?_append_left h, ← List.getD_eq_getElem?_getD]
theorem preB_getD {n k : Int} {d : List Int} {i : Nat} (hi : i < 10) : (preB n k d).getD i 0 = (headB n k d.length).getD i 0 := getD_app_lt (by rw [headB_length]; exact hi)
theorem encB_getD {n k : Int} {d : List Int} {i : Nat} (hi : i < 10) : (encB n k d).getD i 0 = (headB n k d.length).getD i 0 := by
  rw [encB, getD_app_lt (by rw [preB_length]; omega), preB_getD hi]
theorem headB_1 (n k s : Int) : (headB n k s).getD 1 0 = k := rfl
theorem headB_w (n k s : Int) {i : Nat} (h : i < 6) (h1 : i ≠ 1) : (headB n k s).getD i 0 = (wantL n).getD i 0 := by
  unfold headB wantL
  match i, h, h1 with
  | 0, _, _ => rfl
  | 2, _, _ => rfl
  | 3, _, _ => rfl
  | 4, _, _ => rfl
  | 5, _, _ => rfl
theorem headB_6 (n k s : Int) : (headB n k s).getD 6 0 = s / 256 % 256 := rfl
theorem headB_7 (n k s : Int) : (headB n k s).getD 7 0 = s % 256 := rfl
theorem headB_8 (n k s : Int) : (headB n k s).getD 8 0 = (65535 - s) / 256 % 256 := rfl
theorem headB_9 (n k s : Int) : (headB n k s).getD 9 0 = (65535 - s) % 256 := rfl
/-- Bytes that begin as a record does are not wrong. -/
theorem not_wrong {b : List Int} {n k : Int} {s : Nat} (hs : s ≤ 4096) (h : ∀ i, i < 10 → i < b.length → b.getD i 0 = (headB n k s).getD i 0) : ¬ Wrong b n := by
  rintro (⟨h8, h1⟩ | ⟨i, hi, hb⟩)
  · rw [h 6 (by omega) (by omega), h 7 (by omega) (by omega), headB_6, headB_7] at h1
    omega
  · obtain ⟨hl, hb⟩ := hb
    rcases hb with ⟨h6, h1, hne⟩ | ⟨rfl, hne⟩ | ⟨rfl, hne⟩
    · exact hne (by rw [h i hi hl, headB_w n k s h6 h1])
    · rw [h 8 (by omega) hl, h 6 (by omega) (by omega), headB_8, headB_6] at hne
      omega
    · rw [h 9 (by omega) hl, h 7 (by omega) (by omega), headB_9, headB_7] at hne
      omega
theorem sz_head {b : List Int} {n k : Int} {s : Nat} (hs : s ≤ 4096) (hl : 10 ≤ b.length) (h : ∀ i, i < 10 → i < b.length → b.getD i 0 = (headB n k s).getD i 0) : szB b = s := by
  unfold szB
  rw [h 6 (by omega) (by omega), h 7 (by omega) (by omega), headB_6, headB_7]
  omega
/-- **A record at the front is read.** -/
theorem oneS_enc {n : Nat} {k : Int} {d rest : List Int} (hn : n < 1048576) (h : RecOk (k, d)) : oneS (encB n k d ++ rest) n = ((k, d), (((14 + d.length : Nat) : Int), 0)) := by
  obtain ⟨hk, hd, hl⟩ := h
  have hg : ∀ i, i < 10 → i < (encB n k d ++ rest).length → (encB n k d ++ rest).getD i 0 = (headB n k d.length).getD i 0 := fun i hi _ => by rw [getD_app_lt (by rw [encB_length]; omega), encB_getD hi]
  have hl' : d.length ≤ 4096 := hl
  have hlen : (encB n k d ++ rest).length = 14 + d.length + rest.length := by rw [List.length_append, encB_length]
  have hw := not_wrong hl' hg
  have hs := sz_head hl' (by omega) hg
  have hnw : ¬ (n ≥ 1048576 ∨ Wrong (encB n k d ++ rest) n) := by rintro (h | h); omega; exact hw h
  have e1 : (encB n k d ++ rest).take (10 + d.length) = preB n k d := by
    rw [encB, List.append_assoc, List.take_append_of_le_length (by rw [preB_length]; omega), List.take_of_length_le (by rw [preB_length]; omega)]
  have e2 : ((encB n k d ++ rest).drop (10 + d.length)).take 4 = be 4 (crc (preB n k d)) := by
    rw [encB, List.append_assoc, List.drop_append_of_le_length (by rw [preB_length]; omega), List.drop_of_length_le (by rw [preB_length]; omega), List.nil_append, List.take_append_of_le_length (by rw [be_length]; omega), List.take_of_length_le (by rw [be_length]; omega)]
  have e3 : ((encB n k d ++ rest).drop 10).take d.length = d := by
    rw [encB, preB, List.append_assoc, List.append_assoc, List.drop_append_of_le_length (by rw [headB_length]; omega), List.drop_of_length_le (by rw [headB_length]; omega), List.nil_append, List.take_append_of_le_length (by omega), List.take_length]
  rw [oneS_ok hnw (by rw [hs]; omega) (by rw [hs, e1, e2]), hs, e3, hg 1 (by omega) (by omega), headB_1]
/-- **Less than a record at the front is too short.** -/
theorem oneS_part {n : Nat} {k : Int} {d : List Int} (hn : n < 1048576) (h : RecOk (k, d)) {c : Nat} (hc : c < 14 + d.length) : oneS ((encB n k d).take c) n = ((0, []), (0, 6)) := by
  obtain ⟨hk, hd, hl⟩ := h
  have hl' : d.length ≤ 4096 := hl
  have hlen : ((encB n k d).take c).length = c := by rw [List.length_take, encB_length]; omega
  have hg : ∀ i, i < 10 → i < ((encB n k d).take c).length → ((encB n k d).take c).getD i 0 = (headB n k d.length).getD i 0 := fun i hi h => by rw [getD_take (by omega), encB_getD hi]
  have hw := not_wrong hl' hg
  have hnw : ¬ (n ≥ 1048576 ∨ Wrong ((encB n k d).take c) n) := by rintro (h | h); omega; exact hw h
  refine oneS_short hnw ?_
  by_cases h10 : 10 ≤ c
  · rw [sz_head hl' (by omega) hg]; omega
  · omega
/-- How many records lie wholly in so many bytes, and their end. -/
def cnt : Recs → Nat → Nat
  | [], _ => 0
  | r :: l, c => if 14 + r.2.length ≤ c then 1 + cnt l (c - (14 + r.2.length)) else 0
def endC : Recs → Nat → Nat
  | [], _ => 0
  | r :: l, c => if 14 + r.2.length ≤ c then 14 + r.2.length + endC l (c - (14 + r.2.length)) else 0
theorem cnt_le : ∀ (l : Recs) (c : Nat), cnt l c ≤ l.length
  | [], c => Nat.le_refl 0
  | r :: l, c => by
    rw [cnt]
    split
    · have := cnt_le l (c - (14 + r.2.length)); rw [List.length_cons]; omega
    · omega
theorem endC_le : ∀ (l : Recs) (c : Nat), endC l c ≤ c
  | [], c => Nat.zero_le c
  | r :: l, c => by
    rw [endC]
    split
    · have := endC_le l (c - (14 + r.2.length)); omega
    · omega
theorem scanB_end {b : List Int} {recs : Recs} {a : Nat} (h : b.length ≤ a) : scanB b (recs, (a : Int)) = some (.inr (recs, ((a : Int), 0))) := by
  unfold scanB
  simp only
  rw [if_neg (by omega)]
theorem scanB_next {b : List Int} {recs : Recs} {a : Nat} {r : Int × List Int} {sz : Int} (h : a < b.length) (ho : oneS (b.drop a) recs.length = (r, (sz, 0))) : scanB b (recs, (a : Int)) = some (.inl (recs ++ [r], (a : Int) + sz)) := by
  unfold scanB
  simp only [Int.toNat_natCast]
  rw [if_pos (by omega), ho, if_neg (by simp)]
theorem scanB_err {b : List Int} {recs : Recs} {a : Nat} {r : Int × List Int} {sz e : Int} (h : a < b.length) (ho : oneS (b.drop a) recs.length = (r, (sz, e))) (he : e ≠ 0) : scanB b (recs, (a : Int)) = some (.inr (recs, ((a : Int), e))) := by
  unfold scanB
  simp only [Int.toNat_natCast]
  rw [if_pos (by omega), ho, if_pos he]
/-- **What is scanned of a journal that is cut.** -/
theorem scan_cut : ∀ (l : Recs) (b : List Int) (recs : Recs) (at_ c : Nat), (∀ r ∈ l, RecOk r) → b.drop at_ = (encAll recs.length l).take c → at_ ≤ b.length → c ≤ (encAll recs.length l).length → recs.length + l.length ≤ 1048576 →
    loopO (scanB b) (recs, (at_ : Int)) = some (recs ++ l.take (cnt l c), (((at_ + endC l c : Nat) : Int), if endC l c = c then 0 else 6))
  | [], b, recs, at_, c, _, hb, ha, hc, _ => by
    rw [loopO_eq]
    have h0 : b.length - at_ = 0 := by
      have := congrArg List.length hb
      rw [List.length_drop] at this
      rw [this]; simp [encAll]
    have hc0 : c = 0 := by simpa [encAll] using hc
    subst hc0
    rw [scanB_end (by omega)]
    simp [cnt, endC]
  | r :: l, b, recs, at_, c, hok, hb, ha, hc, hn => by
    obtain ⟨k, d⟩ := r
    have hr := hok (k, d) List.mem_cons_self
    rw [List.length_cons] at hn
    have hE : encAll recs.length ((k, d) :: l) = encB recs.length k d ++ encAll (recs.length + 1) l := rfl
    have hEl : (encAll recs.length ((k, d) :: l)).length = 14 + d.length + (encAll (recs.length + 1) l).length := by rw [hE, List.length_append, encB_length]
    have hbl : b.length = at_ + c := by
      have := congrArg List.length hb
      rw [List.length_drop, List.length_take] at this
      omega
    rw [loopO_eq]
    by_cases hc0 : c = 0
    · subst hc0
      rw [scanB_end (by omega)]
      rw [cnt, endC, if_neg (by simp only; omega), if_neg (by simp only; omega)]
      simp
    by_cases hfull : 14 + d.length ≤ c
    · have hsplit : (encAll recs.length ((k, d) :: l)).take c = encB recs.length k d ++ (encAll (recs.length + 1) l).take (c - (14 + d.length)) := by
        rw [hE, List.take_append, encB_length, List.take_of_length_le (by rw [encB_length]; omega)]
      rw [scanB_next (by omega) (by rw [hb, hsplit]; exact oneS_enc (by omega) hr)]
      simp only
      have ih := scan_cut l b (recs ++ [(k, d)]) (at_ + (14 + d.length)) (c - (14 + d.length)) (fun r h => hok r (List.mem_cons_of_mem _ h)) (by
        rw [← List.drop_drop, hb, hsplit, List.drop_append_of_le_length (by rw [encB_length]; omega), List.drop_of_length_le (by rw [encB_length]; omega), List.nil_append, List.length_append]; rfl) (by omega) (by rw [List.length_append]; show _ ≤ (encAll (recs.length + 1) l).length; omega) (by rw [List.length_append]; show recs.length + 1 + l.length ≤ _; omega)
      rw [show ((at_ : Int) + ((14 + d.length : Nat) : Int)) = ((at_ + (14 + d.length) : Nat) : Int) from by omega, ih, cnt, endC, if_pos hfull, if_pos hfull]
      rw [Nat.add_comm 1, List.take_succ_cons, List.append_assoc]
      congr 2
      have : (endC l (c - (14 + d.length)) = c - (14 + d.length)) ↔ (14 + d.length + endC l (c - (14 + d.length)) = c) := by omega
      simp only [this]
      rw [show at_ + (14 + d.length) + endC l (c - (14 + d.length)) = at_ + (14 + d.length + endC l (c - (14 + d.length))) from by omega]
    · have hsplit : (encAll recs.length ((k, d) :: l)).take c = (encB recs.length k d).take c := by
        rw [hE, List.take_append_of_le_length (by rw [encB_length]; omega)]
      rw [scanB_err (e := 6) (by omega) ((congrArg (fun z => oneS z recs.length) (hb.trans hsplit)).trans (oneS_part (by omega) hr (by omega))) (by decide)]
      rw [cnt, endC, if_neg hfull, if_neg hfull, if_neg (by omega)]
      simp
end Go.Proofs.Ytmkbnmjhkghdjaa
