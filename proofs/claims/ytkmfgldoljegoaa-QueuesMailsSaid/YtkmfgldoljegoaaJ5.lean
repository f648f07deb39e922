/- Chapter 36, plain: the law of boxes. -/
import Derived.Test.YtkmfgldoljegoaaJ4
set_option linter.unusedVariables false
set_option linter.unusedSimpArgs false
set_option maxRecDepth 100000
set_option maxHeartbeats 2000000
namespace Go.Proofs.Ytkmfgldoljegoaa
open Go.RowKit
theorem mails_j (o : List UInt8) (a b c : Int) (l : List Ml) (fr : List UInt8) (n sec now : Int) (hl : l.length ≤ 9223372036854775807) : dialtonelaw36_QueuesMails ((o, (a, (b, (c, l)))), (fr, (n, (sec, now)))) = some true := by
  have hk : (l.take 120).length ≤ 120 := by rw [List.length_take]; omega
  have h2 : dialtonelaw36_box (o, (a, (b, (c, l.take 120)))) = some (o, (a, (b, (c, l.take 120)))) := by
    rw [box_j o a b c _ (by omega), List.take_take]; rfl
  unfold dialtonelaw36_QueuesMails
  simp only [box_j o a b c l hl, bindO_some, h2]
  generalize l.take 120 = L at hk
  obtain ⟨r1, e1, e2, r1l⟩ := newB_j fr a b
  obtain ⟨v, eb⟩ := (mbP_j o a b c L (by omega)).some
  have eb2 : dialtoneref36_MayBox (o, (a, (b, (c, L)))) = some v := by rw [← (mbP_j o a b c L (by omega)).eq (mbR_j o a b c L (by omega))]; exact eb
  obtain ⟨r0, e9, e10⟩ := count_j o a b c L (by omega)
  obtain ⟨r2, e3, e4, r2l⟩ := deposit_j o a b c L fr sec now (by omega)
  obtain ⟨r3, e5, e6, r3l⟩ := hear_j o a b c L n (by omega)
  obtain ⟨r4, e7, e8, r4l⟩ := delete_j o a b c L n (by omega)
  obtain ⟨⟨x1, x2, x3, x4, x5⟩, x6⟩ := r1
  obtain ⟨⟨y1, y2, y3, y4, y5⟩, y6, y7⟩ := r2
  obtain ⟨⟨z1, z2, z3, z4, z5⟩, ⟨z6, z7, z8, z9, z10⟩, z11⟩ := r3
  obtain ⟨⟨w1, w2, w3, w4, w5⟩, w6⟩ := r4
  obtain ⟨c1, c2⟩ := r0
  have s1 := sameB_j (x1, (x2, (x3, (x4, x5)))) r1l
  have s2 := sameB_j (y1, (y2, (y3, (y4, y5)))) r2l
  have s3 := sameB_j (z1, (z2, (z3, (z4, z5)))) r3l
  have s4 := sameB_j (w1, (w2, (w3, (w4, w5)))) r4l
  have s5 := sameB_j (o, (a, (b, (c, L)))) (by show L.length ≤ _; omega)
  simp only [e1, e2, e3, e4, e5, e6, e7, e8, e9, e10, eb, eb2, ↓bindO_some, ↓bindO_none, ↓joinO_inl, ↓joinO_inr, ↓joinO_none, ↓outO_some, ↓outO_none, ↓cond_true, ↓cond_false, ↓cond_and, ↓cond_or, ↓cond_not, ↓cond_ite, ↓if_pos, ↓if_neg, ↓if_true, ↓if_false, List.take_length, Nat.le_refl, Bool.not_true, Bool.not_false, s1, s2, s3, s4, s5, ne_eq, not_true_eq_false, decide_false, bne_self_eq_false, decide_true, Bool.and_self, beq_self_eq_true]
theorem mails_main (a : Bx × (List UInt8 × (Int × (Int × Int)))) (h : WfIs [(.tmp 0 true [(.dat .str), (.dat (.int .i64)), (.dat (.int .i64)), (.dat (.int .i64)), (.dat (.list (.pair (.int .i64) (.pair .str (.pair (.int .i64) (.pair (.int .i64) .bool))))))]), (.tmp 1 false [(.dat .str)]), (.tmp 2 true [(.dat (.int .i64)), (.dat (.int .i64)), (.dat (.int .i64))])] a) : dialtonelaw36_QueuesMails a = some true :=
  mails_j a.1.1 a.1.2.1 a.1.2.2.1 a.1.2.2.2.1 a.1.2.2.2.2 a.2.1 a.2.2.1 a.2.2.2.1 a.2.2.2.2 h.1.2.2.2.2.1.1
end Go.Proofs.Ytkmfgldoljegoaa
