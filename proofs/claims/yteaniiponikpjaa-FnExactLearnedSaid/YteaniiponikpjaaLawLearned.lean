/-
  The law FnExactLearned returns true for every input. No condition.
-/
import Derived.Test.YteaniiponikpjaaSlr
import Derived.Test.YteaniiponikpjaaLks
import Derived.Test.YteaniiponikpjaaOpnEntry
namespace Go.Proofs.Yteaniiponikpjaa
set_option maxRecDepth 100000
open Go.ChangeShapes Go.WideShapes Go.ChangeAt Go.RowKit

theorem learnedR_len (l : List REntry) (ip hw : Int) (h : l.length ≤ 1048576) : (learnedR l ip hw).length ≤ 1048576 := by
  unfold learnedR
  split
  · rename_i hc
    have h4 : l.length ≤ 4 := by
      simp only [cacheB, Bool.and_eq_true, decide_eq_true_eq] at hc
      exact hc.1.1
    have hr : (roomR l).length ≤ 4 := by
      unfold roomR
      split
      · rw [List.length_append, List.length_take, List.length_drop]; omega
      · exact h4
    split
    · rw [List.length_append, List.length_singleton]; omega
    · rw [List.length_set]; exact h
  · exact h
set_option maxHeartbeats 4000000 in
theorem FnExactLearned_walk (x1 : List REntry) (v11 : Value) (ip hw : Int) (w : World) (h11 : RdEntry w v11 x1) (f11 : FitEntry x1) (n11 : x1.length ≤ maxLen) :
    Calls Try.prog 8 #[ vSl x1 v11, .int .i64 ip, .int .i64 hw] w fun e w' => e = .returned (.bool true) ∧ Below w.heap.size w w' := by
  obtain ⟨r, hR⟩ : ∃ R, learnedR x1 ip hw = R := ⟨_, rfl⟩
  have HR := Lib.hid hR
  clear hR
  obtain ⟨A11, c11, rfl, -⟩ := id h11
  have H11 := Lib.hid h11
  have F11 := Lib.hid f11
  have N11 := Lib.hid n11
  clear h11 f11 n11
  go_enter Try.func8, Try.ntmps8
  go_wp2_with fail
  refine (szEntryL_any x1 _ F11.out N11.out 1048576 (by omega) (by omega) _ (H11.out.below (by repeat (first | with_reducible exact Below.refl _ _ | with_reducible assumption | with_reducible refine Below.drew ?_ | with_reducible refine Below.alloc ?_ (by first | exact Nat.le_refl _ | omega | (simp; done) | (simp; omega)) _ | with_reducible refine Below.setCell ?_ (by first | exact Nat.le_refl _ | omega | (simp; done) | (simp; omega)) _ | (with_reducible refine ext_trans ?_ (by with_reducible assumption)))))).mono ?_
  rintro e w1 ⟨y1, rfl, ⟨hy1a, hy1b⟩, hs1, hb1⟩
  have hz1 := hb1.size
  (try simp at hz1)
  have hw1 : Below w.heap.size w w1 := (by repeat (first | with_reducible exact Below.refl _ _ | with_reducible assumption | with_reducible refine Below.drew ?_ | with_reducible refine Below.alloc ?_ (by first | exact Nat.le_refl _ | omega | (simp; done) | (simp; omega)) _ | with_reducible refine Below.setCell ?_ (by first | exact Nat.le_refl _ | omega | (simp; done) | (simp; omega)) _ | (with_reducible refine ext_trans ?_ (by with_reducible assumption))))
  by_cases hx1 : y1 < 0
  · go_wp2_with fail
    go_ret
    exact ⟨rfl, (by repeat (first | with_reducible exact Below.refl _ _ | with_reducible assumption | with_reducible refine Below.drew ?_ | with_reducible refine Below.alloc ?_ (by first | exact Nat.le_refl _ | omega | (simp; done) | (simp; omega)) _ | with_reducible refine Below.setCell ?_ (by first | exact Nat.le_refl _ | omega | (simp; done) | (simp; omega)) _ | (with_reducible refine ext_trans ?_ (by with_reducible assumption))))⟩
  have M11 : Hid (x1.length ≤ 1048576) := (by have := hs1.out (by omega); omega : x1.length ≤ 1048576)
  have MR : Hid (r.length ≤ 1048576) := (by rw [← HR.out]; exact learnedR_len _ _ _ M11.out : r.length ≤ 1048576)
  have NR : Hid (r.length ≤ maxLen) := (by have := MR.out; unfold maxLen; omega : r.length ≤ maxLen)
  have HS : Hid (∀ W v, RdEntry W v x1 → Calls Try.prog 33 #[v, .int .i64 ip, .int .i64 hw] W fun e w' => ∃ v, e = .returned v ∧ OwnEntry w' W.heap.size v r ∧ Below W.heap.size W w') := fun W v h => by
    have hh := sLearned_any v x1 ip hw M11.out W h
    rw [HR.out] at hh
    exact hh
  have HI : Hid (∀ W v, RdEntry W v x1 → Calls Try.prog 34 #[v, .int .i64 ip, .int .i64 hw] W fun e w' => ∃ v, e = .returned v ∧ OwnEntry w' W.heap.size v r ∧ Below W.heap.size W w') := fun W v h => by
    have hh := Learned_any v x1 ip hw M11.out W h
    rw [HR.out] at hh
    exact hh
  clear HR
  go_wp2_with fail
  refine (toEntryL_any x1 _ M11.out _ (H11.out.below (by repeat (first | with_reducible exact Below.refl _ _ | with_reducible assumption | with_reducible refine Below.drew ?_ | with_reducible refine Below.alloc ?_ (by first | exact Nat.le_refl _ | omega | (simp; done) | (simp; omega)) _ | with_reducible refine Below.setCell ?_ (by first | exact Nat.le_refl _ | omega | (simp; done) | (simp; omega)) _ | (with_reducible refine ext_trans ?_ (by with_reducible assumption)))))).mono ?_
  rintro e w2 ⟨u21, rfl, hO21, hb2⟩
  obtain ⟨A21, c21, rfl⟩ := hO21.form
  have Op1_2 := Lib.hid (OwnE.mono (base' := w1.heap.size) hO21 (by first | exact Nat.le_refl _ | (simp; done)))
  have Bp1 := Op1_2
  have hz2 := hb2.size
  (try simp at hz2)
  have hw2 : Below w.heap.size w w2 := (by repeat (first | with_reducible exact Below.refl _ _ | with_reducible assumption | with_reducible refine Below.drew ?_ | with_reducible refine Below.alloc ?_ (by first | exact Nat.le_refl _ | omega | (simp; done) | (simp; omega)) _ | with_reducible refine Below.setCell ?_ (by first | exact Nat.le_refl _ | omega | (simp; done) | (simp; omega)) _ | (with_reducible refine ext_trans ?_ (by with_reducible assumption))))
  go_wp2_with fail
  refine (HS.out _ _ Op1_2.out.rd).mono ?_
  rintro e w3 ⟨v3, rfl, hO31, hb3⟩
  obtain ⟨A3, c3, rfl⟩ := hO31.form
  have Ob1_3 := Lib.hid (OwnE.mono (base' := w2.heap.size) hO31 (by first | exact Nat.le_refl _ | (simp; done)))
  have Bb1 := Ob1_3
  have hz3 := hb3.size
  (try simp at hz3)
  have Op1_3 := Lib.hid (Op1_2.out.below (w' := w3) (by repeat (first | with_reducible exact Below.refl _ _ | with_reducible assumption | with_reducible refine Below.drew ?_ | with_reducible refine Below.alloc ?_ (by first | exact Nat.le_refl _ | omega | (simp; done) | (simp; omega)) _ | with_reducible refine Below.setCell ?_ (by first | exact Nat.le_refl _ | omega | (simp; done) | (simp; omega)) _ | (with_reducible refine ext_trans ?_ (by with_reducible assumption)))))
  have hw3 : Below w.heap.size w w3 := (by repeat (first | with_reducible exact Below.refl _ _ | with_reducible assumption | with_reducible refine Below.drew ?_ | with_reducible refine Below.alloc ?_ (by first | exact Nat.le_refl _ | omega | (simp; done) | (simp; omega)) _ | with_reducible refine Below.setCell ?_ (by first | exact Nat.le_refl _ | omega | (simp; done) | (simp; omega)) _ | (with_reducible refine ext_trans ?_ (by with_reducible assumption))))
  go_wp2_with fail
  refine (toEntryL_any x1 _ M11.out _ (H11.out.below (by repeat (first | with_reducible exact Below.refl _ _ | with_reducible assumption | with_reducible refine Below.drew ?_ | with_reducible refine Below.alloc ?_ (by first | exact Nat.le_refl _ | omega | (simp; done) | (simp; omega)) _ | with_reducible refine Below.setCell ?_ (by first | exact Nat.le_refl _ | omega | (simp; done) | (simp; omega)) _ | (with_reducible refine ext_trans ?_ (by with_reducible assumption)))))).mono ?_
  rintro e w4 ⟨u41, rfl, hO41, hb4⟩
  obtain ⟨A41, c41, rfl⟩ := hO41.form
  have Oq1_4 := Lib.hid (OwnE.mono (base' := w3.heap.size) hO41 (by first | exact Nat.le_refl _ | (simp; done)))
  have Bq1 := Oq1_4
  have hz4 := hb4.size
  (try simp at hz4)
  have Ob1_4 := Lib.hid (Ob1_3.out.below (w' := w4) (by repeat (first | with_reducible exact Below.refl _ _ | with_reducible assumption | with_reducible refine Below.drew ?_ | with_reducible refine Below.alloc ?_ (by first | exact Nat.le_refl _ | omega | (simp; done) | (simp; omega)) _ | with_reducible refine Below.setCell ?_ (by first | exact Nat.le_refl _ | omega | (simp; done) | (simp; omega)) _ | (with_reducible refine ext_trans ?_ (by with_reducible assumption)))))
  have hw4 : Below w.heap.size w w4 := (by repeat (first | with_reducible exact Below.refl _ _ | with_reducible assumption | with_reducible refine Below.drew ?_ | with_reducible refine Below.alloc ?_ (by first | exact Nat.le_refl _ | omega | (simp; done) | (simp; omega)) _ | with_reducible refine Below.setCell ?_ (by first | exact Nat.le_refl _ | omega | (simp; done) | (simp; omega)) _ | (with_reducible refine ext_trans ?_ (by with_reducible assumption))))
  go_wp2_with fail
  refine (HI.out _ _ Oq1_4.out.rd).mono ?_
  rintro e w5 ⟨v5, rfl, hO51, hb5⟩
  obtain ⟨A5, c5, rfl⟩ := hO51.form
  have Og1_5 := Lib.hid (OwnE.mono (base' := w4.heap.size) hO51 (by first | exact Nat.le_refl _ | (simp; done)))
  have Bg1 := Og1_5
  have hz5 := hb5.size
  (try simp at hz5)
  have Ob1_5 := Lib.hid (Ob1_4.out.below (w' := w5) (by repeat (first | with_reducible exact Below.refl _ _ | with_reducible assumption | with_reducible refine Below.drew ?_ | with_reducible refine Below.alloc ?_ (by first | exact Nat.le_refl _ | omega | (simp; done) | (simp; omega)) _ | with_reducible refine Below.setCell ?_ (by first | exact Nat.le_refl _ | omega | (simp; done) | (simp; omega)) _ | (with_reducible refine ext_trans ?_ (by with_reducible assumption)))))
  have Oq1_5 := Lib.hid (Oq1_4.out.below (w' := w5) (by repeat (first | with_reducible exact Below.refl _ _ | with_reducible assumption | with_reducible refine Below.drew ?_ | with_reducible refine Below.alloc ?_ (by first | exact Nat.le_refl _ | omega | (simp; done) | (simp; omega)) _ | with_reducible refine Below.setCell ?_ (by first | exact Nat.le_refl _ | omega | (simp; done) | (simp; omega)) _ | (with_reducible refine ext_trans ?_ (by with_reducible assumption)))))
  have hw5 : Below w.heap.size w w5 := (by repeat (first | with_reducible exact Below.refl _ _ | with_reducible assumption | with_reducible refine Below.drew ?_ | with_reducible refine Below.alloc ?_ (by first | exact Nat.le_refl _ | omega | (simp; done) | (simp; omega)) _ | with_reducible refine Below.setCell ?_ (by first | exact Nat.le_refl _ | omega | (simp; done) | (simp; omega)) _ | (with_reducible refine ext_trans ?_ (by with_reducible assumption))))
  go_wp2_with fail
  refine (eqEntryS_same _ _ r NR.out _ Og1_5.out.rd Ob1_5.out.rd).mono ?_
  rintro e w6 ⟨rfl, hb6⟩
  have hz6 := hb6.size
  (try simp at hz6)
  have Ob1_6 := Lib.hid (Ob1_5.out.below (w' := w6) (by repeat (first | with_reducible exact Below.refl _ _ | with_reducible assumption | with_reducible refine Below.drew ?_ | with_reducible refine Below.alloc ?_ (by first | exact Nat.le_refl _ | omega | (simp; done) | (simp; omega)) _ | with_reducible refine Below.setCell ?_ (by first | exact Nat.le_refl _ | omega | (simp; done) | (simp; omega)) _ | (with_reducible refine ext_trans ?_ (by with_reducible assumption)))))
  have Oq1_6 := Lib.hid (Oq1_5.out.below (w' := w6) (by repeat (first | with_reducible exact Below.refl _ _ | with_reducible assumption | with_reducible refine Below.drew ?_ | with_reducible refine Below.alloc ?_ (by first | exact Nat.le_refl _ | omega | (simp; done) | (simp; omega)) _ | with_reducible refine Below.setCell ?_ (by first | exact Nat.le_refl _ | omega | (simp; done) | (simp; omega)) _ | (with_reducible refine ext_trans ?_ (by with_reducible assumption)))))
  have Og1_6 := Lib.hid (Og1_5.out.below (w' := w6) (by repeat (first | with_reducible exact Below.refl _ _ | with_reducible assumption | with_reducible refine Below.drew ?_ | with_reducible refine Below.alloc ?_ (by first | exact Nat.le_refl _ | omega | (simp; done) | (simp; omega)) _ | with_reducible refine Below.setCell ?_ (by first | exact Nat.le_refl _ | omega | (simp; done) | (simp; omega)) _ | (with_reducible refine ext_trans ?_ (by with_reducible assumption)))))
  have hw6 : Below w.heap.size w w6 := (by repeat (first | with_reducible exact Below.refl _ _ | with_reducible assumption | with_reducible refine Below.drew ?_ | with_reducible refine Below.alloc ?_ (by first | exact Nat.le_refl _ | omega | (simp; done) | (simp; omega)) _ | with_reducible refine Below.setCell ?_ (by first | exact Nat.le_refl _ | omega | (simp; done) | (simp; omega)) _ | (with_reducible refine ext_trans ?_ (by with_reducible assumption))))
  go_wp2_with fail
  refine (toEntryL_any x1 _ M11.out _ (H11.out.below (by repeat (first | with_reducible exact Below.refl _ _ | with_reducible assumption | with_reducible refine Below.drew ?_ | with_reducible refine Below.alloc ?_ (by first | exact Nat.le_refl _ | omega | (simp; done) | (simp; omega)) _ | with_reducible refine Below.setCell ?_ (by first | exact Nat.le_refl _ | omega | (simp; done) | (simp; omega)) _ | (with_reducible refine ext_trans ?_ (by with_reducible assumption)))))).mono ?_
  rintro e w7 ⟨u71, rfl, hO71, hb7⟩
  obtain ⟨A71, c71, rfl⟩ := hO71.form
  have Oz1_7 := Lib.hid (OwnE.mono (base' := w6.heap.size) hO71 (by first | exact Nat.le_refl _ | (simp; done)))
  have Bz1 := Oz1_7
  have hz7 := hb7.size
  (try simp at hz7)
  have Ob1_7 := Lib.hid (Ob1_6.out.below (w' := w7) (by repeat (first | with_reducible exact Below.refl _ _ | with_reducible assumption | with_reducible refine Below.drew ?_ | with_reducible refine Below.alloc ?_ (by first | exact Nat.le_refl _ | omega | (simp; done) | (simp; omega)) _ | with_reducible refine Below.setCell ?_ (by first | exact Nat.le_refl _ | omega | (simp; done) | (simp; omega)) _ | (with_reducible refine ext_trans ?_ (by with_reducible assumption)))))
  have Oq1_7 := Lib.hid (Oq1_6.out.below (w' := w7) (by repeat (first | with_reducible exact Below.refl _ _ | with_reducible assumption | with_reducible refine Below.drew ?_ | with_reducible refine Below.alloc ?_ (by first | exact Nat.le_refl _ | omega | (simp; done) | (simp; omega)) _ | with_reducible refine Below.setCell ?_ (by first | exact Nat.le_refl _ | omega | (simp; done) | (simp; omega)) _ | (with_reducible refine ext_trans ?_ (by with_reducible assumption)))))
  have Og1_7 := Lib.hid (Og1_6.out.below (w' := w7) (by repeat (first | with_reducible exact Below.refl _ _ | with_reducible assumption | with_reducible refine Below.drew ?_ | with_reducible refine Below.alloc ?_ (by first | exact Nat.le_refl _ | omega | (simp; done) | (simp; omega)) _ | with_reducible refine Below.setCell ?_ (by first | exact Nat.le_refl _ | omega | (simp; done) | (simp; omega)) _ | (with_reducible refine ext_trans ?_ (by with_reducible assumption)))))
  have hw7 : Below w.heap.size w w7 := (by repeat (first | with_reducible exact Below.refl _ _ | with_reducible assumption | with_reducible refine Below.drew ?_ | with_reducible refine Below.alloc ?_ (by first | exact Nat.le_refl _ | omega | (simp; done) | (simp; omega)) _ | with_reducible refine Below.setCell ?_ (by first | exact Nat.le_refl _ | omega | (simp; done) | (simp; omega)) _ | (with_reducible refine ext_trans ?_ (by with_reducible assumption))))
  go_wp2_with fail
  refine (eqEntryS_same _ _ x1 N11.out _ Oq1_7.out.rd Oz1_7.out.rd).mono ?_
  rintro e w8 ⟨rfl, hb8⟩
  have hz8 := hb8.size
  (try simp at hz8)
  have Ob1_8 := Lib.hid (Ob1_7.out.below (w' := w8) (by repeat (first | with_reducible exact Below.refl _ _ | with_reducible assumption | with_reducible refine Below.drew ?_ | with_reducible refine Below.alloc ?_ (by first | exact Nat.le_refl _ | omega | (simp; done) | (simp; omega)) _ | with_reducible refine Below.setCell ?_ (by first | exact Nat.le_refl _ | omega | (simp; done) | (simp; omega)) _ | (with_reducible refine ext_trans ?_ (by with_reducible assumption)))))
  have Oq1_8 := Lib.hid (Oq1_7.out.below (w' := w8) (by repeat (first | with_reducible exact Below.refl _ _ | with_reducible assumption | with_reducible refine Below.drew ?_ | with_reducible refine Below.alloc ?_ (by first | exact Nat.le_refl _ | omega | (simp; done) | (simp; omega)) _ | with_reducible refine Below.setCell ?_ (by first | exact Nat.le_refl _ | omega | (simp; done) | (simp; omega)) _ | (with_reducible refine ext_trans ?_ (by with_reducible assumption)))))
  have Og1_8 := Lib.hid (Og1_7.out.below (w' := w8) (by repeat (first | with_reducible exact Below.refl _ _ | with_reducible assumption | with_reducible refine Below.drew ?_ | with_reducible refine Below.alloc ?_ (by first | exact Nat.le_refl _ | omega | (simp; done) | (simp; omega)) _ | with_reducible refine Below.setCell ?_ (by first | exact Nat.le_refl _ | omega | (simp; done) | (simp; omega)) _ | (with_reducible refine ext_trans ?_ (by with_reducible assumption)))))
  have Oz1_8 := Lib.hid (Oz1_7.out.below (w' := w8) (by repeat (first | with_reducible exact Below.refl _ _ | with_reducible assumption | with_reducible refine Below.drew ?_ | with_reducible refine Below.alloc ?_ (by first | exact Nat.le_refl _ | omega | (simp; done) | (simp; omega)) _ | with_reducible refine Below.setCell ?_ (by first | exact Nat.le_refl _ | omega | (simp; done) | (simp; omega)) _ | (with_reducible refine ext_trans ?_ (by with_reducible assumption)))))
  have hw8 : Below w.heap.size w w8 := (by repeat (first | with_reducible exact Below.refl _ _ | with_reducible assumption | with_reducible refine Below.drew ?_ | with_reducible refine Below.alloc ?_ (by first | exact Nat.le_refl _ | omega | (simp; done) | (simp; omega)) _ | with_reducible refine Below.setCell ?_ (by first | exact Nat.le_refl _ | omega | (simp; done) | (simp; omega)) _ | (with_reducible refine ext_trans ?_ (by with_reducible assumption))))
  go_wp2_with fail
  refine (markEntryS_any _ x1 M11.out 1 (by omega) (by omega) _ _ Oq1_8.out).mono ?_
  rintro e w9 ⟨rfl, hO91, hg91⟩
  have hz91 := hg91.size
  have hz9 : w8.heap.size ≤ w9.heap.size := by omega
  have hw9 : Below w.heap.size w w9 := Below.grown hw8 hg91 hw8.size (fun k hk => by have := chg_ge Bq1.out (marksEntry_len _ _) k hk; omega)
  have Ob1_9 := Lib.hid (OwnE.apart Ob1_8.out hg91 (fun h h' => (own_ne Bb1.out Bq1.out (by first | omega | (simp; omega)) h (marks_neEntry h'))))
  have Og1_9 := Lib.hid (OwnE.apart Og1_8.out hg91 (fun h h' => (own_ne Bq1.out Bg1.out (by first | omega | (simp; omega)) (marks_neEntry h') h).symm))
  have Oq1_9 := Lib.hid hO91
  clear hO91 hg91
  have hk9 : ¬ (((1 + 3 * x1.length : Nat) : Int) < 0) := by omega
  go_wp2_with fail
  refine (eqEntryS_same _ _ r NR.out _ Og1_9.out.rd Ob1_9.out.rd).mono ?_
  rintro e w10 ⟨rfl, hb10⟩
  have hz10 := hb10.size
  (try simp at hz10)
  have Ob1_10 := Lib.hid (Ob1_9.out.below (w' := w10) (by repeat (first | with_reducible exact Below.refl _ _ | with_reducible assumption | with_reducible refine Below.drew ?_ | with_reducible refine Below.alloc ?_ (by first | exact Nat.le_refl _ | omega | (simp; done) | (simp; omega)) _ | with_reducible refine Below.setCell ?_ (by first | exact Nat.le_refl _ | omega | (simp; done) | (simp; omega)) _ | (with_reducible refine ext_trans ?_ (by with_reducible assumption)))))
  have Og1_10 := Lib.hid (Og1_9.out.below (w' := w10) (by repeat (first | with_reducible exact Below.refl _ _ | with_reducible assumption | with_reducible refine Below.drew ?_ | with_reducible refine Below.alloc ?_ (by first | exact Nat.le_refl _ | omega | (simp; done) | (simp; omega)) _ | with_reducible refine Below.setCell ?_ (by first | exact Nat.le_refl _ | omega | (simp; done) | (simp; omega)) _ | (with_reducible refine ext_trans ?_ (by with_reducible assumption)))))
  have hw10 : Below w.heap.size w w10 := (by repeat (first | with_reducible exact Below.refl _ _ | with_reducible assumption | with_reducible refine Below.drew ?_ | with_reducible refine Below.alloc ?_ (by first | exact Nat.le_refl _ | omega | (simp; done) | (simp; omega)) _ | with_reducible refine Below.setCell ?_ (by first | exact Nat.le_refl _ | omega | (simp; done) | (simp; omega)) _ | (with_reducible refine ext_trans ?_ (by with_reducible assumption))))
  go_wp2_with fail
  refine (markEntryS_any _ r MR.out 1 (by omega) (by omega) _ _ Og1_10.out).mono ?_
  rintro e w11 ⟨rfl, hO111, hg111⟩
  have hz111 := hg111.size
  have hz11 : w10.heap.size ≤ w11.heap.size := by omega
  have hw11 : Below w.heap.size w w11 := Below.grown hw10 hg111 hw10.size (fun k hk => by have := chg_ge Bg1.out (marksEntry_len _ _) k hk; omega)
  have Ob1_11 := Lib.hid (OwnE.apart Ob1_10.out hg111 (fun h h' => (own_ne Bb1.out Bg1.out (by first | omega | (simp; omega)) h (marks_neEntry h'))))
  have Og1_11 := Lib.hid hO111
  clear hO111 hg111
  go_wp2_with fail
  refine (heldEntryS_any _ r.length MR.out 1 (by omega) (by omega) _ (marked_rdEntry Og1_11.out)).mono ?_
  rintro e w12 ⟨rfl, hb12⟩
  have hz12 := hb12.size
  (try simp at hz12)
  have Ob1_12 := Lib.hid (Ob1_11.out.below (w' := w12) (by repeat (first | with_reducible exact Below.refl _ _ | with_reducible assumption | with_reducible refine Below.drew ?_ | with_reducible refine Below.alloc ?_ (by first | exact Nat.le_refl _ | omega | (simp; done) | (simp; omega)) _ | with_reducible refine Below.setCell ?_ (by first | exact Nat.le_refl _ | omega | (simp; done) | (simp; omega)) _ | (with_reducible refine ext_trans ?_ (by with_reducible assumption)))))
  have Og1_12 := Lib.hid (Og1_11.out.below (w' := w12) (by repeat (first | with_reducible exact Below.refl _ _ | with_reducible assumption | with_reducible refine Below.drew ?_ | with_reducible refine Below.alloc ?_ (by first | exact Nat.le_refl _ | omega | (simp; done) | (simp; omega)) _ | with_reducible refine Below.setCell ?_ (by first | exact Nat.le_refl _ | omega | (simp; done) | (simp; omega)) _ | (with_reducible refine ext_trans ?_ (by with_reducible assumption)))))
  have hw12 : Below w.heap.size w w12 := (by repeat (first | with_reducible exact Below.refl _ _ | with_reducible assumption | with_reducible refine Below.drew ?_ | with_reducible refine Below.alloc ?_ (by first | exact Nat.le_refl _ | omega | (simp; done) | (simp; omega)) _ | with_reducible refine Below.setCell ?_ (by first | exact Nat.le_refl _ | omega | (simp; done) | (simp; omega)) _ | (with_reducible refine ext_trans ?_ (by with_reducible assumption))))
  have hk12 : ¬ (((1 + 3 * r.length : Nat) : Int) < 0) := by omega
  go_wp2_with fail
  refine (toEntryL_any x1 _ M11.out _ (H11.out.below (by repeat (first | with_reducible exact Below.refl _ _ | with_reducible assumption | with_reducible refine Below.drew ?_ | with_reducible refine Below.alloc ?_ (by first | exact Nat.le_refl _ | omega | (simp; done) | (simp; omega)) _ | with_reducible refine Below.setCell ?_ (by first | exact Nat.le_refl _ | omega | (simp; done) | (simp; omega)) _ | (with_reducible refine ext_trans ?_ (by with_reducible assumption)))))).mono ?_
  rintro e w13 ⟨u131, rfl, hO131, hb13⟩
  obtain ⟨A131, c131, rfl⟩ := hO131.form
  have Op1_13 := Lib.hid (OwnE.mono (base' := w12.heap.size) hO131 (by first | exact Nat.le_refl _ | (simp; done)))
  have Bp1 := Op1_13
  have hz13 := hb13.size
  (try simp at hz13)
  have Ob1_13 := Lib.hid (Ob1_12.out.below (w' := w13) (by repeat (first | with_reducible exact Below.refl _ _ | with_reducible assumption | with_reducible refine Below.drew ?_ | with_reducible refine Below.alloc ?_ (by first | exact Nat.le_refl _ | omega | (simp; done) | (simp; omega)) _ | with_reducible refine Below.setCell ?_ (by first | exact Nat.le_refl _ | omega | (simp; done) | (simp; omega)) _ | (with_reducible refine ext_trans ?_ (by with_reducible assumption)))))
  have Og1_13 := Lib.hid (Og1_12.out.below (w' := w13) (by repeat (first | with_reducible exact Below.refl _ _ | with_reducible assumption | with_reducible refine Below.drew ?_ | with_reducible refine Below.alloc ?_ (by first | exact Nat.le_refl _ | omega | (simp; done) | (simp; omega)) _ | with_reducible refine Below.setCell ?_ (by first | exact Nat.le_refl _ | omega | (simp; done) | (simp; omega)) _ | (with_reducible refine ext_trans ?_ (by with_reducible assumption)))))
  have hw13 : Below w.heap.size w w13 := (by repeat (first | with_reducible exact Below.refl _ _ | with_reducible assumption | with_reducible refine Below.drew ?_ | with_reducible refine Below.alloc ?_ (by first | exact Nat.le_refl _ | omega | (simp; done) | (simp; omega)) _ | with_reducible refine Below.setCell ?_ (by first | exact Nat.le_refl _ | omega | (simp; done) | (simp; omega)) _ | (with_reducible refine ext_trans ?_ (by with_reducible assumption))))
  go_wp2_with fail
  refine (HI.out _ _ Op1_13.out.rd).mono ?_
  rintro e w14 ⟨v14, rfl, hO141, hb14⟩
  obtain ⟨A14, c14, rfl⟩ := hO141.form
  have Oh1_14 := Lib.hid (OwnE.mono (base' := w13.heap.size) hO141 (by first | exact Nat.le_refl _ | (simp; done)))
  have Bh1 := Oh1_14
  have hz14 := hb14.size
  (try simp at hz14)
  have Ob1_14 := Lib.hid (Ob1_13.out.below (w' := w14) (by repeat (first | with_reducible exact Below.refl _ _ | with_reducible assumption | with_reducible refine Below.drew ?_ | with_reducible refine Below.alloc ?_ (by first | exact Nat.le_refl _ | omega | (simp; done) | (simp; omega)) _ | with_reducible refine Below.setCell ?_ (by first | exact Nat.le_refl _ | omega | (simp; done) | (simp; omega)) _ | (with_reducible refine ext_trans ?_ (by with_reducible assumption)))))
  have Og1_14 := Lib.hid (Og1_13.out.below (w' := w14) (by repeat (first | with_reducible exact Below.refl _ _ | with_reducible assumption | with_reducible refine Below.drew ?_ | with_reducible refine Below.alloc ?_ (by first | exact Nat.le_refl _ | omega | (simp; done) | (simp; omega)) _ | with_reducible refine Below.setCell ?_ (by first | exact Nat.le_refl _ | omega | (simp; done) | (simp; omega)) _ | (with_reducible refine ext_trans ?_ (by with_reducible assumption)))))
  have Op1_14 := Lib.hid (Op1_13.out.below (w' := w14) (by repeat (first | with_reducible exact Below.refl _ _ | with_reducible assumption | with_reducible refine Below.drew ?_ | with_reducible refine Below.alloc ?_ (by first | exact Nat.le_refl _ | omega | (simp; done) | (simp; omega)) _ | with_reducible refine Below.setCell ?_ (by first | exact Nat.le_refl _ | omega | (simp; done) | (simp; omega)) _ | (with_reducible refine ext_trans ?_ (by with_reducible assumption)))))
  have hw14 : Below w.heap.size w w14 := (by repeat (first | with_reducible exact Below.refl _ _ | with_reducible assumption | with_reducible refine Below.drew ?_ | with_reducible refine Below.alloc ?_ (by first | exact Nat.le_refl _ | omega | (simp; done) | (simp; omega)) _ | with_reducible refine Below.setCell ?_ (by first | exact Nat.le_refl _ | omega | (simp; done) | (simp; omega)) _ | (with_reducible refine ext_trans ?_ (by with_reducible assumption))))
  go_wp2_with fail
  refine (eqEntryS_same _ _ r NR.out _ Oh1_14.out.rd Ob1_14.out.rd).mono ?_
  rintro e w15 ⟨rfl, hb15⟩
  have hz15 := hb15.size
  (try simp at hz15)
  have Ob1_15 := Lib.hid (Ob1_14.out.below (w' := w15) (by repeat (first | with_reducible exact Below.refl _ _ | with_reducible assumption | with_reducible refine Below.drew ?_ | with_reducible refine Below.alloc ?_ (by first | exact Nat.le_refl _ | omega | (simp; done) | (simp; omega)) _ | with_reducible refine Below.setCell ?_ (by first | exact Nat.le_refl _ | omega | (simp; done) | (simp; omega)) _ | (with_reducible refine ext_trans ?_ (by with_reducible assumption)))))
  have Og1_15 := Lib.hid (Og1_14.out.below (w' := w15) (by repeat (first | with_reducible exact Below.refl _ _ | with_reducible assumption | with_reducible refine Below.drew ?_ | with_reducible refine Below.alloc ?_ (by first | exact Nat.le_refl _ | omega | (simp; done) | (simp; omega)) _ | with_reducible refine Below.setCell ?_ (by first | exact Nat.le_refl _ | omega | (simp; done) | (simp; omega)) _ | (with_reducible refine ext_trans ?_ (by with_reducible assumption)))))
  have Oh1_15 := Lib.hid (Oh1_14.out.below (w' := w15) (by repeat (first | with_reducible exact Below.refl _ _ | with_reducible assumption | with_reducible refine Below.drew ?_ | with_reducible refine Below.alloc ?_ (by first | exact Nat.le_refl _ | omega | (simp; done) | (simp; omega)) _ | with_reducible refine Below.setCell ?_ (by first | exact Nat.le_refl _ | omega | (simp; done) | (simp; omega)) _ | (with_reducible refine ext_trans ?_ (by with_reducible assumption)))))
  have hw15 : Below w.heap.size w w15 := (by repeat (first | with_reducible exact Below.refl _ _ | with_reducible assumption | with_reducible refine Below.drew ?_ | with_reducible refine Below.alloc ?_ (by first | exact Nat.le_refl _ | omega | (simp; done) | (simp; omega)) _ | with_reducible refine Below.setCell ?_ (by first | exact Nat.le_refl _ | omega | (simp; done) | (simp; omega)) _ | (with_reducible refine ext_trans ?_ (by with_reducible assumption))))
  go_wp2_with fail
  refine (heldEntryS_any _ r.length MR.out 1 (by omega) (by omega) _ (marked_rdEntry Og1_15.out)).mono ?_
  rintro e w16 ⟨rfl, hb16⟩
  have hz16 := hb16.size
  (try simp at hz16)
  have Og1_16 := Lib.hid (Og1_15.out.below (w' := w16) (by repeat (first | with_reducible exact Below.refl _ _ | with_reducible assumption | with_reducible refine Below.drew ?_ | with_reducible refine Below.alloc ?_ (by first | exact Nat.le_refl _ | omega | (simp; done) | (simp; omega)) _ | with_reducible refine Below.setCell ?_ (by first | exact Nat.le_refl _ | omega | (simp; done) | (simp; omega)) _ | (with_reducible refine ext_trans ?_ (by with_reducible assumption)))))
  have hw16 : Below w.heap.size w w16 := (by repeat (first | with_reducible exact Below.refl _ _ | with_reducible assumption | with_reducible refine Below.drew ?_ | with_reducible refine Below.alloc ?_ (by first | exact Nat.le_refl _ | omega | (simp; done) | (simp; omega)) _ | with_reducible refine Below.setCell ?_ (by first | exact Nat.le_refl _ | omega | (simp; done) | (simp; omega)) _ | (with_reducible refine ext_trans ?_ (by with_reducible assumption))))
  go_wp2_with fail
  go_ret
  exact ⟨rfl, hw16⟩

set_option maxRecDepth 100000 in
theorem FnExactLearned_lifted (os : Os) (started : os.Started) (H : Type) (enc : TypeId × Value → H) :
    ReturnsInHanded {} Try.checked os 8 .any (Rows.fnExactLearnedSpec.pre6 enc Try.prog Try.f8 Rows.fnExactLearnedRow.domain false) (Rows.fnExactLearnedSpec.post enc Try.prog Try.f8 false true false false) := by
  refine law_lifted (C := Try.checked) own_ started (by kernel_rfl) Try.func8 laid_ rfl ?_ ?_ rfl Try.underlying4
    (ChangeSpec.witness6 (enc := enc) (C := Try.checked) false ⟨#[], #[.slice none 0 0, .int .i64 0, .int .i64 0], []⟩ 8 (by kernel_rfl) (by kernel_rfl) (by kernel_rfl) (by kernel_rfl)) ?_
  · intro ds h
    match ds, h with
    | [_, _, _], _ => rfl
  · intro t ht
    rw [Try.params8] at ht
    simp at ht
    rcases ht with rfl | rfl
    all_goals exact ⟨by kernel_rfl, of_decide_eq_true (by kernel_rfl)⟩
  · intro W base args ds p hval hA hlt
    have hval : ∀ (j : Nat) t v, Try.f8.params[j]? = some t → args[j]? = some v → Value.okWide Try.prog W .any base t v := hval
    have hA : DataW.TrodAll enc Try.prog W 0 (fun _ => true) true Try.f8.params.toList args.toList ds p := hA
    rw [Try.params8] at hA hval
    obtain ⟨v0, v1, v2, d0, d1, d2, p0, p1, p2, rfl, rfl, rfl, h0, h1, h2⟩ := trodAll_three hA
    obtain ⟨la, ra, fa, na⟩ := open_argEntry (hval 0 22 v0 rfl rfl) h0
    obtain ⟨b, rfl, rfl, rfl, wb⟩ := open_int Try.underlying3 (hval 1 3 v1 rfl rfl) h1
    obtain ⟨c, rfl, rfl, rfl, wc⟩ := open_int Try.underlying3 (hval 2 3 v2 rfl rfl) h2
    exact (FnExactLearned_walk la _ b c W ra fa.fit na)

theorem FnExactLearned_holds : Rows.FnExactLearnedSaid :=
  OpenClaim.holds_of_wide 8 Try.f8 rfl rfl rfl rfl rfl rfl rfl ⟨rfl, rfl, rfl, rfl, rfl⟩ rfl rfl rfl rfl rfl (by kernel_rfl) Try.func8 (by kernel_rfl)
    (of_decide_eq_true (by kernel_rfl)) (by have hw := wrap_ (P := Try.prog) (fn := Try.f8) (by kernel_rfl); exact hw)
    (fun os started H enc _ => FnExactLearned_lifted os started H enc)
end Go.Proofs.Yteaniiponikpjaa
