/-
  The law FnExactTakenIn returns true for every input. No condition.
-/
import Derived.Test.YtgejnppfodpiiaaTak
import Derived.Test.YtgejnppfodpiiaaOpnPiece
namespace Go.Proofs.Ytgejnppfodpiiaa
set_option maxRecDepth 100000
open Go.ChangeShapes Go.WideShapes Go.ChangeAt Go.RowKit

theorem take_hs (x : RRcv) (n : Int) : (x.take n).1.hs = x.hs := by
  unfold RRcv.take
  split <;> rfl
set_option maxHeartbeats 4000000 in
theorem FnExactTakenIn_walk (x1 : RRcv) (v11 : Value) (n : Int) (hn1 : -9223372036854775808 ≤ n) (hn2 : n ≤ 9223372036854775807) (w : World) (h11 : RdPiece w v11 x1.hs) (f11 : FitRRcv x1) (n11 : x1.hs.length ≤ maxLen) (g1 : ∀ p ∈ x1.hs, -9223372036854775808 ≤ p.1 ∧ p.1 ≤ 9223372036854775807) :
    Calls Try.prog 7 #[vR x1 v11, .int .i64 n] w fun e w' => e = .returned (.bool true) ∧ Below w.heap.size w w' := by
  have G1 := Lib.hid g1
  clear g1
  obtain ⟨A11, c11, rfl, -⟩ := id h11
  have H11 := Lib.hid h11
  have F11 := Lib.hid f11
  have N11 := Lib.hid n11
  clear h11 f11 n11
  obtain ⟨⟨r, t⟩, hR⟩ : ∃ R, x1.take n = R := ⟨_, rfl⟩
  have hrs : r.hs = x1.hs := (congrArg (fun z => z.1.hs) hR).symm.trans (take_hs x1 n)
  have NR : Hid (r.hs.length ≤ maxLen) := (by rw [hrs]; exact N11.out : r.hs.length ≤ maxLen)
  have HRS := Lib.hid hrs
  have HR := Lib.hid hR
  clear hrs hR
  go_enter Try.func7, Try.ntmps7
  go_wp2_with fail
  refine (szReceiver_any x1 _ F11.out N11.out 1048576 (by omega) (by omega) _ (H11.out.below (by repeat (first | with_reducible exact Below.refl _ _ | with_reducible assumption | with_reducible refine Below.drew ?_ | with_reducible refine Below.alloc ?_ (by first | exact Nat.le_refl _ | omega | (simp; done) | (simp; omega)) _ | with_reducible refine Below.setCell ?_ (by first | exact Nat.le_refl _ | omega | (simp; done) | (simp; omega)) _ | (with_reducible refine ext_trans ?_ (by with_reducible assumption)))))).mono ?_
  rintro e w1 ⟨y1, rfl, ⟨hy1a, hy1b⟩, hs1, hb1⟩
  have hz1 := hb1.size
  (try simp at hz1)
  have ra1_1 : w1.heap[w.heap.size]? = some (.cells #[.int .i64 x1.nx, .string x1.d, .slice A11 x1.hs.length c11, .int .i64 x1.fin, .bool x1.dn] 31 (0, 0)) := (hb1.block _ (by first | (simp; done) | (simp; omega))).trans (by repeat (first | exact heap_new _ _ _ (by first | rfl | (simp; done) | (simp; omega)) | refine (Below.heap_alloc _ _ _ (by first | omega | (simp; done) | (simp; omega))).trans ?_))
  have hw1 : Below w.heap.size w w1 := (by repeat (first | with_reducible exact Below.refl _ _ | with_reducible assumption | with_reducible refine Below.drew ?_ | with_reducible refine Below.alloc ?_ (by first | exact Nat.le_refl _ | omega | (simp; done) | (simp; omega)) _ | with_reducible refine Below.setCell ?_ (by first | exact Nat.le_refl _ | omega | (simp; done) | (simp; omega)) _ | (with_reducible refine ext_trans ?_ (by with_reducible assumption))))
  have lRa1_1 : w.heap.size < w1.heap.size := by omega
  have Ra1_1 := Lib.hid ra1_1
  have r0_ra1_1 := cell_of_row _ _ 0 _ _ _ ra1_1
  have r1_ra1_1 := cell_of_row _ _ 1 _ _ _ ra1_1
  have r2_ra1_1 := cell_of_row _ _ 2 _ _ _ ra1_1
  have r3_ra1_1 := cell_of_row _ _ 3 _ _ _ ra1_1
  have r4_ra1_1 := cell_of_row _ _ 4 _ _ _ ra1_1
  have f0_ra1_1 := frozen_of_row _ _ 0 _ _ ra1_1
  have f1_ra1_1 := frozen_of_row _ _ 1 _ _ ra1_1
  have f2_ra1_1 := frozen_of_row _ _ 2 _ _ ra1_1
  have f3_ra1_1 := frozen_of_row _ _ 3 _ _ ra1_1
  have f4_ra1_1 := frozen_of_row _ _ 4 _ _ ra1_1
  simp at r0_ra1_1 r1_ra1_1 r2_ra1_1 r3_ra1_1 r4_ra1_1
  clear ra1_1
  by_cases hx1 : y1 < 0
  · go_wp2_with fail
    go_ret
    exact ⟨rfl, (by repeat (first | with_reducible exact Below.refl _ _ | with_reducible assumption | with_reducible refine Below.drew ?_ | with_reducible refine Below.alloc ?_ (by first | exact Nat.le_refl _ | omega | (simp; done) | (simp; omega)) _ | with_reducible refine Below.setCell ?_ (by first | exact Nat.le_refl _ | omega | (simp; done) | (simp; omega)) _ | (with_reducible refine ext_trans ?_ (by with_reducible assumption))))⟩
  have M11 : Hid (x1.hs.length ≤ 1048576) := (by have := hs1.out (by omega); omega : x1.hs.length ≤ 1048576)
  have P11 : Hid (x1.hs.length ≤ 1048600) := (by have := hs1.out (by omega); omega : x1.hs.length ≤ 1048600)
  have FTS : Hid x1.fits := (⟨F11.out.2, N11.out, fun p hp => ⟨(hs1.out (by omega)).2 p hp, G1.out p hp⟩⟩ : x1.fits)
  have MR : Hid (r.hs.length ≤ 1048576) := (by rw [HRS.out]; exact M11.out : r.hs.length ≤ 1048576)
  have HS : Hid (∀ W v, RdPiece W v x1.hs → Calls Try.prog 21 #[vR x1 v, .int .i64 n] W fun e w' => ∃ v, e = .returned (.tuple #[vR r v, .string t]) ∧ OwnPiece w' W.heap.size v r.hs ∧ Below W.heap.size W w') := fun W v h => by
    have hh := sTakenIn_any x1 v n FTS.out P11.out hn1 hn2 W h
    rw [HR.out] at hh
    exact hh
  have HI : Hid (∀ W v, RdPiece W v x1.hs → Calls Try.prog 22 #[vR x1 v, .int .i64 n] W fun e w' => ∃ v, e = .returned (.tuple #[vR r v, .string t]) ∧ OwnPiece w' W.heap.size v r.hs ∧ Below W.heap.size W w') := fun W v h => by
    have hh := TakenIn_any x1 v n FTS.out P11.out hn1 hn2 W h
    rw [HR.out] at hh
    exact hh
  clear HRS HR
  go_wp2_with fail
  refine (toReceiver_any x1 _ M11.out _ (H11.out.below (by repeat (first | with_reducible exact Below.refl _ _ | with_reducible assumption | with_reducible refine Below.drew ?_ | with_reducible refine Below.alloc ?_ (by first | exact Nat.le_refl _ | omega | (simp; done) | (simp; omega)) _ | with_reducible refine Below.setCell ?_ (by first | exact Nat.le_refl _ | omega | (simp; done) | (simp; omega)) _ | (with_reducible refine ext_trans ?_ (by with_reducible assumption)))))).mono ?_
  rintro e w2 ⟨u21, rfl, hO21, hb2⟩
  obtain ⟨A21, c21, rfl⟩ := hO21.form
  have Op1_2 := Lib.hid (OwnE.mono (base' := w1.heap.size) hO21 (by first | exact Nat.le_refl _ | (simp; done)))
  have Bp1 := Op1_2
  have hz2 := hb2.size
  (try simp at hz2)
  have ra1_2 := (hb2.block _ (by first | omega | (simp; done) | (simp; omega))).trans Ra1_1.out
  have hw2 : Below w.heap.size w w2 := (by repeat (first | with_reducible exact Below.refl _ _ | with_reducible assumption | with_reducible refine Below.drew ?_ | with_reducible refine Below.alloc ?_ (by first | exact Nat.le_refl _ | omega | (simp; done) | (simp; omega)) _ | with_reducible refine Below.setCell ?_ (by first | exact Nat.le_refl _ | omega | (simp; done) | (simp; omega)) _ | (with_reducible refine ext_trans ?_ (by with_reducible assumption))))
  have lRa1_2 : w.heap.size < w2.heap.size := by omega
  have Ra1_2 := Lib.hid ra1_2
  have r0_ra1_2 := cell_of_row _ _ 0 _ _ _ ra1_2
  have r1_ra1_2 := cell_of_row _ _ 1 _ _ _ ra1_2
  have r2_ra1_2 := cell_of_row _ _ 2 _ _ _ ra1_2
  have r3_ra1_2 := cell_of_row _ _ 3 _ _ _ ra1_2
  have r4_ra1_2 := cell_of_row _ _ 4 _ _ _ ra1_2
  have f0_ra1_2 := frozen_of_row _ _ 0 _ _ ra1_2
  have f1_ra1_2 := frozen_of_row _ _ 1 _ _ ra1_2
  have f2_ra1_2 := frozen_of_row _ _ 2 _ _ ra1_2
  have f3_ra1_2 := frozen_of_row _ _ 3 _ _ ra1_2
  have f4_ra1_2 := frozen_of_row _ _ 4 _ _ ra1_2
  simp at r0_ra1_2 r1_ra1_2 r2_ra1_2 r3_ra1_2 r4_ra1_2
  clear ra1_2
  clear r0_ra1_1 f0_ra1_1 r1_ra1_1 f1_ra1_1 r2_ra1_1 f2_ra1_1 r3_ra1_1 f3_ra1_1 r4_ra1_1 f4_ra1_1
  go_wp2_with fail
  refine (HS.out _ _ Op1_2.out.rd).mono ?_
  rintro e w3 ⟨v3, rfl, hO31, hb3⟩
  obtain ⟨A3, c3, rfl⟩ := hO31.form
  have Ob1_3 := Lib.hid (OwnE.mono (base' := w2.heap.size) hO31 (by first | exact Nat.le_refl _ | (simp; done)))
  have Bb1 := Ob1_3
  have hz3 := hb3.size
  (try simp at hz3)
  have ra1_3 := (hb3.block _ (by first | omega | (simp; done) | (simp; omega))).trans Ra1_2.out
  have Op1_3 := Lib.hid (Op1_2.out.below (w' := w3) (by repeat (first | with_reducible exact Below.refl _ _ | with_reducible assumption | with_reducible refine Below.drew ?_ | with_reducible refine Below.alloc ?_ (by first | exact Nat.le_refl _ | omega | (simp; done) | (simp; omega)) _ | with_reducible refine Below.setCell ?_ (by first | exact Nat.le_refl _ | omega | (simp; done) | (simp; omega)) _ | (with_reducible refine ext_trans ?_ (by with_reducible assumption)))))
  have hw3 : Below w.heap.size w w3 := (by repeat (first | with_reducible exact Below.refl _ _ | with_reducible assumption | with_reducible refine Below.drew ?_ | with_reducible refine Below.alloc ?_ (by first | exact Nat.le_refl _ | omega | (simp; done) | (simp; omega)) _ | with_reducible refine Below.setCell ?_ (by first | exact Nat.le_refl _ | omega | (simp; done) | (simp; omega)) _ | (with_reducible refine ext_trans ?_ (by with_reducible assumption))))
  have lRa1_3 : w.heap.size < w3.heap.size := by omega
  have Ra1_3 := Lib.hid ra1_3
  have r0_ra1_3 := cell_of_row _ _ 0 _ _ _ ra1_3
  have r1_ra1_3 := cell_of_row _ _ 1 _ _ _ ra1_3
  have r2_ra1_3 := cell_of_row _ _ 2 _ _ _ ra1_3
  have r3_ra1_3 := cell_of_row _ _ 3 _ _ _ ra1_3
  have r4_ra1_3 := cell_of_row _ _ 4 _ _ _ ra1_3
  have f0_ra1_3 := frozen_of_row _ _ 0 _ _ ra1_3
  have f1_ra1_3 := frozen_of_row _ _ 1 _ _ ra1_3
  have f2_ra1_3 := frozen_of_row _ _ 2 _ _ ra1_3
  have f3_ra1_3 := frozen_of_row _ _ 3 _ _ ra1_3
  have f4_ra1_3 := frozen_of_row _ _ 4 _ _ ra1_3
  simp at r0_ra1_3 r1_ra1_3 r2_ra1_3 r3_ra1_3 r4_ra1_3
  clear ra1_3
  clear r0_ra1_2 f0_ra1_2 r1_ra1_2 f1_ra1_2 r2_ra1_2 f2_ra1_2 r3_ra1_2 f3_ra1_2 r4_ra1_2 f4_ra1_2
  go_wp2_with fail
  refine (toReceiver_any x1 _ M11.out _ (H11.out.below (by repeat (first | with_reducible exact Below.refl _ _ | with_reducible assumption | with_reducible refine Below.drew ?_ | with_reducible refine Below.alloc ?_ (by first | exact Nat.le_refl _ | omega | (simp; done) | (simp; omega)) _ | with_reducible refine Below.setCell ?_ (by first | exact Nat.le_refl _ | omega | (simp; done) | (simp; omega)) _ | (with_reducible refine ext_trans ?_ (by with_reducible assumption)))))).mono ?_
  rintro e w4 ⟨u41, rfl, hO41, hb4⟩
  obtain ⟨A41, c41, rfl⟩ := hO41.form
  have Oq1_4 := Lib.hid (OwnE.mono (base' := w3.heap.size + 1) hO41 (by first | exact Nat.le_refl _ | (simp; done)))
  have Bq1 := Oq1_4
  have hz4 := hb4.size
  (try simp at hz4)
  have ra1_4 := (hb4.block _ (by first | omega | (simp; done) | (simp; omega))).trans ((Below.heap_alloc _ _ _ (by first | exact lRa1_3 | (simp; omega))).trans Ra1_3.out)
  have rb_4 : w4.heap[w3.heap.size]? = some (.cells #[.int .i64 r.nx, .string r.d, .slice A3 r.hs.length c3, .int .i64 r.fin, .bool r.dn] 24 (0, 0)) := (hb4.block _ (by first | (simp; done) | (simp; omega))).trans (by repeat (first | exact heap_new _ _ _ (by first | rfl | (simp; done) | (simp; omega)) | refine (Below.heap_alloc _ _ _ (by first | omega | (simp; done) | (simp; omega))).trans ?_))
  have Ob1_4 := Lib.hid (Ob1_3.out.below (w' := w4) (by repeat (first | with_reducible exact Below.refl _ _ | with_reducible assumption | with_reducible refine Below.drew ?_ | with_reducible refine Below.alloc ?_ (by first | exact Nat.le_refl _ | omega | (simp; done) | (simp; omega)) _ | with_reducible refine Below.setCell ?_ (by first | exact Nat.le_refl _ | omega | (simp; done) | (simp; omega)) _ | (with_reducible refine ext_trans ?_ (by with_reducible assumption)))))
  have hw4 : Below w.heap.size w w4 := (by repeat (first | with_reducible exact Below.refl _ _ | with_reducible assumption | with_reducible refine Below.drew ?_ | with_reducible refine Below.alloc ?_ (by first | exact Nat.le_refl _ | omega | (simp; done) | (simp; omega)) _ | with_reducible refine Below.setCell ?_ (by first | exact Nat.le_refl _ | omega | (simp; done) | (simp; omega)) _ | (with_reducible refine ext_trans ?_ (by with_reducible assumption))))
  have lRa1_4 : w.heap.size < w4.heap.size := by omega
  have lRb_4 : w3.heap.size < w4.heap.size := by omega
  have Ra1_4 := Lib.hid ra1_4
  have r0_ra1_4 := cell_of_row _ _ 0 _ _ _ ra1_4
  have r1_ra1_4 := cell_of_row _ _ 1 _ _ _ ra1_4
  have r2_ra1_4 := cell_of_row _ _ 2 _ _ _ ra1_4
  have r3_ra1_4 := cell_of_row _ _ 3 _ _ _ ra1_4
  have r4_ra1_4 := cell_of_row _ _ 4 _ _ _ ra1_4
  have f0_ra1_4 := frozen_of_row _ _ 0 _ _ ra1_4
  have f1_ra1_4 := frozen_of_row _ _ 1 _ _ ra1_4
  have f2_ra1_4 := frozen_of_row _ _ 2 _ _ ra1_4
  have f3_ra1_4 := frozen_of_row _ _ 3 _ _ ra1_4
  have f4_ra1_4 := frozen_of_row _ _ 4 _ _ ra1_4
  simp at r0_ra1_4 r1_ra1_4 r2_ra1_4 r3_ra1_4 r4_ra1_4
  clear ra1_4
  have Rb_4 := Lib.hid rb_4
  have r0_rb_4 := cell_of_row _ _ 0 _ _ _ rb_4
  have r1_rb_4 := cell_of_row _ _ 1 _ _ _ rb_4
  have r2_rb_4 := cell_of_row _ _ 2 _ _ _ rb_4
  have r3_rb_4 := cell_of_row _ _ 3 _ _ _ rb_4
  have r4_rb_4 := cell_of_row _ _ 4 _ _ _ rb_4
  have f0_rb_4 := frozen_of_row _ _ 0 _ _ rb_4
  have f1_rb_4 := frozen_of_row _ _ 1 _ _ rb_4
  have f2_rb_4 := frozen_of_row _ _ 2 _ _ rb_4
  have f3_rb_4 := frozen_of_row _ _ 3 _ _ rb_4
  have f4_rb_4 := frozen_of_row _ _ 4 _ _ rb_4
  simp at r0_rb_4 r1_rb_4 r2_rb_4 r3_rb_4 r4_rb_4
  clear rb_4
  clear r0_ra1_3 f0_ra1_3 r1_ra1_3 f1_ra1_3 r2_ra1_3 f2_ra1_3 r3_ra1_3 f3_ra1_3 r4_ra1_3 f4_ra1_3
  go_wp2_with fail
  refine (HI.out _ _ (Oq1_4.out.below (by repeat (first | with_reducible exact Below.refl _ _ | with_reducible assumption | with_reducible refine Below.drew ?_ | with_reducible refine Below.alloc ?_ (by first | exact Nat.le_refl _ | omega | (simp; done) | (simp; omega)) _ | with_reducible refine Below.setCell ?_ (by first | exact Nat.le_refl _ | omega | (simp; done) | (simp; omega)) _ | (with_reducible refine ext_trans ?_ (by with_reducible assumption))))).rd).mono ?_
  rintro e w5 ⟨v5, rfl, hO51, hb5⟩
  obtain ⟨A5, c5, rfl⟩ := hO51.form
  have Og1_5 := Lib.hid (OwnE.mono (base' := w4.heap.size + 1) hO51 (by first | exact Nat.le_refl _ | (simp; done)))
  have Bg1 := Og1_5
  have hz5 := hb5.size
  (try simp at hz5)
  have ra1_5 := (hb5.block _ (by first | omega | (simp; done) | (simp; omega))).trans ((Below.heap_alloc _ _ _ (by first | exact lRa1_4 | (simp; omega))).trans Ra1_4.out)
  have rb_5 := (hb5.block _ (by first | omega | (simp; done) | (simp; omega))).trans ((Below.heap_alloc _ _ _ (by first | exact lRb_4 | (simp; omega))).trans Rb_4.out)
  have rq_5 : w5.heap[w4.heap.size]? = some (.cells #[.int .i64 x1.nx, .string x1.d, .slice A41 x1.hs.length c41, .int .i64 x1.fin, .bool x1.dn] 24 (0, 0)) := (hb5.block _ (by first | (simp; done) | (simp; omega))).trans (by repeat (first | exact heap_new _ _ _ (by first | rfl | (simp; done) | (simp; omega)) | refine (Below.heap_alloc _ _ _ (by first | omega | (simp; done) | (simp; omega))).trans ?_))
  have Ob1_5 := Lib.hid (Ob1_4.out.below (w' := w5) (by repeat (first | with_reducible exact Below.refl _ _ | with_reducible assumption | with_reducible refine Below.drew ?_ | with_reducible refine Below.alloc ?_ (by first | exact Nat.le_refl _ | omega | (simp; done) | (simp; omega)) _ | with_reducible refine Below.setCell ?_ (by first | exact Nat.le_refl _ | omega | (simp; done) | (simp; omega)) _ | (with_reducible refine ext_trans ?_ (by with_reducible assumption)))))
  have Oq1_5 := Lib.hid (Oq1_4.out.below (w' := w5) (by repeat (first | with_reducible exact Below.refl _ _ | with_reducible assumption | with_reducible refine Below.drew ?_ | with_reducible refine Below.alloc ?_ (by first | exact Nat.le_refl _ | omega | (simp; done) | (simp; omega)) _ | with_reducible refine Below.setCell ?_ (by first | exact Nat.le_refl _ | omega | (simp; done) | (simp; omega)) _ | (with_reducible refine ext_trans ?_ (by with_reducible assumption)))))
  have hw5 : Below w.heap.size w w5 := (by repeat (first | with_reducible exact Below.refl _ _ | with_reducible assumption | with_reducible refine Below.drew ?_ | with_reducible refine Below.alloc ?_ (by first | exact Nat.le_refl _ | omega | (simp; done) | (simp; omega)) _ | with_reducible refine Below.setCell ?_ (by first | exact Nat.le_refl _ | omega | (simp; done) | (simp; omega)) _ | (with_reducible refine ext_trans ?_ (by with_reducible assumption))))
  have lRa1_5 : w.heap.size < w5.heap.size := by omega
  have lRb_5 : w3.heap.size < w5.heap.size := by omega
  have lRq_5 : w4.heap.size < w5.heap.size := by omega
  have Ra1_5 := Lib.hid ra1_5
  have r0_ra1_5 := cell_of_row _ _ 0 _ _ _ ra1_5
  have r1_ra1_5 := cell_of_row _ _ 1 _ _ _ ra1_5
  have r2_ra1_5 := cell_of_row _ _ 2 _ _ _ ra1_5
  have r3_ra1_5 := cell_of_row _ _ 3 _ _ _ ra1_5
  have r4_ra1_5 := cell_of_row _ _ 4 _ _ _ ra1_5
  have f0_ra1_5 := frozen_of_row _ _ 0 _ _ ra1_5
  have f1_ra1_5 := frozen_of_row _ _ 1 _ _ ra1_5
  have f2_ra1_5 := frozen_of_row _ _ 2 _ _ ra1_5
  have f3_ra1_5 := frozen_of_row _ _ 3 _ _ ra1_5
  have f4_ra1_5 := frozen_of_row _ _ 4 _ _ ra1_5
  simp at r0_ra1_5 r1_ra1_5 r2_ra1_5 r3_ra1_5 r4_ra1_5
  clear ra1_5
  have Rb_5 := Lib.hid rb_5
  have r0_rb_5 := cell_of_row _ _ 0 _ _ _ rb_5
  have r1_rb_5 := cell_of_row _ _ 1 _ _ _ rb_5
  have r2_rb_5 := cell_of_row _ _ 2 _ _ _ rb_5
  have r3_rb_5 := cell_of_row _ _ 3 _ _ _ rb_5
  have r4_rb_5 := cell_of_row _ _ 4 _ _ _ rb_5
  have f0_rb_5 := frozen_of_row _ _ 0 _ _ rb_5
  have f1_rb_5 := frozen_of_row _ _ 1 _ _ rb_5
  have f2_rb_5 := frozen_of_row _ _ 2 _ _ rb_5
  have f3_rb_5 := frozen_of_row _ _ 3 _ _ rb_5
  have f4_rb_5 := frozen_of_row _ _ 4 _ _ rb_5
  simp at r0_rb_5 r1_rb_5 r2_rb_5 r3_rb_5 r4_rb_5
  clear rb_5
  have Rq_5 := Lib.hid rq_5
  have r0_rq_5 := cell_of_row _ _ 0 _ _ _ rq_5
  have r1_rq_5 := cell_of_row _ _ 1 _ _ _ rq_5
  have r2_rq_5 := cell_of_row _ _ 2 _ _ _ rq_5
  have r3_rq_5 := cell_of_row _ _ 3 _ _ _ rq_5
  have r4_rq_5 := cell_of_row _ _ 4 _ _ _ rq_5
  have f0_rq_5 := frozen_of_row _ _ 0 _ _ rq_5
  have f1_rq_5 := frozen_of_row _ _ 1 _ _ rq_5
  have f2_rq_5 := frozen_of_row _ _ 2 _ _ rq_5
  have f3_rq_5 := frozen_of_row _ _ 3 _ _ rq_5
  have f4_rq_5 := frozen_of_row _ _ 4 _ _ rq_5
  simp at r0_rq_5 r1_rq_5 r2_rq_5 r3_rq_5 r4_rq_5
  clear rq_5
  clear r0_ra1_4 f0_ra1_4 r1_ra1_4 f1_ra1_4 r2_ra1_4 f2_ra1_4 r3_ra1_4 f3_ra1_4 r4_ra1_4 f4_ra1_4
  clear r0_rb_4 f0_rb_4 r1_rb_4 f1_rb_4 r2_rb_4 f2_rb_4 r3_rb_4 f3_rb_4 r4_rb_4 f4_rb_4
  go_wp2_with fail
  refine (eqReceiver_same r _ _ NR.out _ (Og1_5.out.below (by repeat (first | with_reducible exact Below.refl _ _ | with_reducible assumption | with_reducible refine Below.drew ?_ | with_reducible refine Below.alloc ?_ (by first | exact Nat.le_refl _ | omega | (simp; done) | (simp; omega)) _ | with_reducible refine Below.setCell ?_ (by first | exact Nat.le_refl _ | omega | (simp; done) | (simp; omega)) _ | (with_reducible refine ext_trans ?_ (by with_reducible assumption))))).rd (Ob1_5.out.below (by repeat (first | with_reducible exact Below.refl _ _ | with_reducible assumption | with_reducible refine Below.drew ?_ | with_reducible refine Below.alloc ?_ (by first | exact Nat.le_refl _ | omega | (simp; done) | (simp; omega)) _ | with_reducible refine Below.setCell ?_ (by first | exact Nat.le_refl _ | omega | (simp; done) | (simp; omega)) _ | (with_reducible refine ext_trans ?_ (by with_reducible assumption))))).rd).mono ?_
  rintro e w6 ⟨rfl, hb6⟩
  have hz6 := hb6.size
  (try simp at hz6)
  have ra1_6 := (hb6.block _ (by first | omega | (simp; done) | (simp; omega))).trans ((Below.heap_alloc _ _ _ (by first | exact lRa1_5 | (simp; omega))).trans Ra1_5.out)
  have rb_6 := (hb6.block _ (by first | omega | (simp; done) | (simp; omega))).trans ((Below.heap_alloc _ _ _ (by first | exact lRb_5 | (simp; omega))).trans Rb_5.out)
  have rq_6 := (hb6.block _ (by first | omega | (simp; done) | (simp; omega))).trans ((Below.heap_alloc _ _ _ (by first | exact lRq_5 | (simp; omega))).trans Rq_5.out)
  have rg_6 : w6.heap[w5.heap.size]? = some (.cells #[.int .i64 r.nx, .string r.d, .slice A5 r.hs.length c5, .int .i64 r.fin, .bool r.dn] 24 (0, 0)) := (hb6.block _ (by first | (simp; done) | (simp; omega))).trans (by repeat (first | exact heap_new _ _ _ (by first | rfl | (simp; done) | (simp; omega)) | refine (Below.heap_alloc _ _ _ (by first | omega | (simp; done) | (simp; omega))).trans ?_))
  have Ob1_6 := Lib.hid (Ob1_5.out.below (w' := w6) (by repeat (first | with_reducible exact Below.refl _ _ | with_reducible assumption | with_reducible refine Below.drew ?_ | with_reducible refine Below.alloc ?_ (by first | exact Nat.le_refl _ | omega | (simp; done) | (simp; omega)) _ | with_reducible refine Below.setCell ?_ (by first | exact Nat.le_refl _ | omega | (simp; done) | (simp; omega)) _ | (with_reducible refine ext_trans ?_ (by with_reducible assumption)))))
  have Oq1_6 := Lib.hid (Oq1_5.out.below (w' := w6) (by repeat (first | with_reducible exact Below.refl _ _ | with_reducible assumption | with_reducible refine Below.drew ?_ | with_reducible refine Below.alloc ?_ (by first | exact Nat.le_refl _ | omega | (simp; done) | (simp; omega)) _ | with_reducible refine Below.setCell ?_ (by first | exact Nat.le_refl _ | omega | (simp; done) | (simp; omega)) _ | (with_reducible refine ext_trans ?_ (by with_reducible assumption)))))
  have Og1_6 := Lib.hid (Og1_5.out.below (w' := w6) (by repeat (first | with_reducible exact Below.refl _ _ | with_reducible assumption | with_reducible refine Below.drew ?_ | with_reducible refine Below.alloc ?_ (by first | exact Nat.le_refl _ | omega | (simp; done) | (simp; omega)) _ | with_reducible refine Below.setCell ?_ (by first | exact Nat.le_refl _ | omega | (simp; done) | (simp; omega)) _ | (with_reducible refine ext_trans ?_ (by with_reducible assumption)))))
  have hw6 : Below w.heap.size w w6 := (by repeat (first | with_reducible exact Below.refl _ _ | with_reducible assumption | with_reducible refine Below.drew ?_ | with_reducible refine Below.alloc ?_ (by first | exact Nat.le_refl _ | omega | (simp; done) | (simp; omega)) _ | with_reducible refine Below.setCell ?_ (by first | exact Nat.le_refl _ | omega | (simp; done) | (simp; omega)) _ | (with_reducible refine ext_trans ?_ (by with_reducible assumption))))
  have lRa1_6 : w.heap.size < w6.heap.size := by omega
  have lRb_6 : w3.heap.size < w6.heap.size := by omega
  have lRq_6 : w4.heap.size < w6.heap.size := by omega
  have lRg_6 : w5.heap.size < w6.heap.size := by omega
  have Ra1_6 := Lib.hid ra1_6
  have r0_ra1_6 := cell_of_row _ _ 0 _ _ _ ra1_6
  have r1_ra1_6 := cell_of_row _ _ 1 _ _ _ ra1_6
  have r2_ra1_6 := cell_of_row _ _ 2 _ _ _ ra1_6
  have r3_ra1_6 := cell_of_row _ _ 3 _ _ _ ra1_6
  have r4_ra1_6 := cell_of_row _ _ 4 _ _ _ ra1_6
  have f0_ra1_6 := frozen_of_row _ _ 0 _ _ ra1_6
  have f1_ra1_6 := frozen_of_row _ _ 1 _ _ ra1_6
  have f2_ra1_6 := frozen_of_row _ _ 2 _ _ ra1_6
  have f3_ra1_6 := frozen_of_row _ _ 3 _ _ ra1_6
  have f4_ra1_6 := frozen_of_row _ _ 4 _ _ ra1_6
  simp at r0_ra1_6 r1_ra1_6 r2_ra1_6 r3_ra1_6 r4_ra1_6
  clear ra1_6
  have Rb_6 := Lib.hid rb_6
  have r0_rb_6 := cell_of_row _ _ 0 _ _ _ rb_6
  have r1_rb_6 := cell_of_row _ _ 1 _ _ _ rb_6
  have r2_rb_6 := cell_of_row _ _ 2 _ _ _ rb_6
  have r3_rb_6 := cell_of_row _ _ 3 _ _ _ rb_6
  have r4_rb_6 := cell_of_row _ _ 4 _ _ _ rb_6
  have f0_rb_6 := frozen_of_row _ _ 0 _ _ rb_6
  have f1_rb_6 := frozen_of_row _ _ 1 _ _ rb_6
  have f2_rb_6 := frozen_of_row _ _ 2 _ _ rb_6
  have f3_rb_6 := frozen_of_row _ _ 3 _ _ rb_6
  have f4_rb_6 := frozen_of_row _ _ 4 _ _ rb_6
  simp at r0_rb_6 r1_rb_6 r2_rb_6 r3_rb_6 r4_rb_6
  clear rb_6
  have Rq_6 := Lib.hid rq_6
  have r0_rq_6 := cell_of_row _ _ 0 _ _ _ rq_6
  have r1_rq_6 := cell_of_row _ _ 1 _ _ _ rq_6
  have r2_rq_6 := cell_of_row _ _ 2 _ _ _ rq_6
  have r3_rq_6 := cell_of_row _ _ 3 _ _ _ rq_6
  have r4_rq_6 := cell_of_row _ _ 4 _ _ _ rq_6
  have f0_rq_6 := frozen_of_row _ _ 0 _ _ rq_6
  have f1_rq_6 := frozen_of_row _ _ 1 _ _ rq_6
  have f2_rq_6 := frozen_of_row _ _ 2 _ _ rq_6
  have f3_rq_6 := frozen_of_row _ _ 3 _ _ rq_6
  have f4_rq_6 := frozen_of_row _ _ 4 _ _ rq_6
  simp at r0_rq_6 r1_rq_6 r2_rq_6 r3_rq_6 r4_rq_6
  clear rq_6
  have Rg_6 := Lib.hid rg_6
  have r0_rg_6 := cell_of_row _ _ 0 _ _ _ rg_6
  have r1_rg_6 := cell_of_row _ _ 1 _ _ _ rg_6
  have r2_rg_6 := cell_of_row _ _ 2 _ _ _ rg_6
  have r3_rg_6 := cell_of_row _ _ 3 _ _ _ rg_6
  have r4_rg_6 := cell_of_row _ _ 4 _ _ _ rg_6
  have f0_rg_6 := frozen_of_row _ _ 0 _ _ rg_6
  have f1_rg_6 := frozen_of_row _ _ 1 _ _ rg_6
  have f2_rg_6 := frozen_of_row _ _ 2 _ _ rg_6
  have f3_rg_6 := frozen_of_row _ _ 3 _ _ rg_6
  have f4_rg_6 := frozen_of_row _ _ 4 _ _ rg_6
  simp at r0_rg_6 r1_rg_6 r2_rg_6 r3_rg_6 r4_rg_6
  clear rg_6
  clear r0_ra1_5 f0_ra1_5 r1_ra1_5 f1_ra1_5 r2_ra1_5 f2_ra1_5 r3_ra1_5 f3_ra1_5 r4_ra1_5 f4_ra1_5
  clear r0_rb_5 f0_rb_5 r1_rb_5 f1_rb_5 r2_rb_5 f2_rb_5 r3_rb_5 f3_rb_5 r4_rb_5 f4_rb_5
  clear r0_rq_5 f0_rq_5 r1_rq_5 f1_rq_5 r2_rq_5 f2_rq_5 r3_rq_5 f3_rq_5 r4_rq_5 f4_rq_5
  go_wp2_with fail
  go_cut [49] (fun z wx => z = .bool false ∧ Below w6.heap.size w6 wx)
  case first =>
    first | go_region_held3 (fun w' => (∀ b' o, b' < (w6).heap.size → w'.cell? ⟨b', o, none⟩ = (w6).cell? ⟨b', o, none⟩) ∧ Below (w6).heap.size (w6) w') (first | with_reducible assumption | (with_reducible apply rg_keep; rotate_left; with_reducible assumption; with_reducible assumption) | with_reducible exact rg_start _ | with_reducible exact rg_alloc (KeptS.out (by with_reducible assumption)) _ | with_reducible exact rg_alloc (by with_reducible assumption) _ | with_reducible exact rg_start_alloc _ _ | ((repeat (with_reducible refine rg_set ?_ _ (by first | exact Nat.le_refl _ | omega | (simp; done) | (simp; omega)) _)); first | with_reducible exact KeptS.out (by with_reducible assumption) | with_reducible assumption | with_reducible exact rg_alloc (KeptS.out (by with_reducible assumption)) _)) (first | (go_at_call 15; ((with_reducible refine (toReceiver_any x1 _ M11.out _ (H11.out.below (ext_trans hw6 (rgBPiece (by first | with_reducible assumption | exact KeptS.out (by with_reducible assumption)))))).mono ?_); (rintro e wA ⟨vA1, rfl, hOA1, hbA⟩; obtain ⟨AA1, cA1, rfl⟩ := hOA1.form; have hSA := rg_keepK (by first | with_reducible assumption | exact KeptS.out (by with_reducible assumption)) hbA; have hLA := hSA.size; have HOA1 := Lib.hid hOA1; clear hOA1))) | (go_at_call 10; ((with_reducible refine (eqReceiver_same x1 _ _ N11.out _ (Oq1_6.out.below (rgBPiece (by first | with_reducible assumption | exact KeptS.out (by with_reducible assumption)))).rd HOA1.out.rd).mono ?_); (rintro e wC ⟨rfl, hbC⟩; have hSC := rg_keepK (by first | with_reducible assumption | exact KeptS.out (by with_reducible assumption)) hbC)))) | fail
    all_goals (go_wp2_with fail; go_meet; exact ⟨rfl, (by assumption : _ ∧ Below w6.heap.size w6 wC).2⟩)
  case rest =>
  obtain ⟨rfl, hb7⟩ := hcut
  rename World => w7
  have hz7 := hb7.size
  (try simp at hz7)
  have ra1_7 := (hb7.block _ (by first | omega | (simp; done) | (simp; omega))).trans Ra1_6.out
  have rb_7 := (hb7.block _ (by first | omega | (simp; done) | (simp; omega))).trans Rb_6.out
  have rq_7 := (hb7.block _ (by first | omega | (simp; done) | (simp; omega))).trans Rq_6.out
  have rg_7 := (hb7.block _ (by first | omega | (simp; done) | (simp; omega))).trans Rg_6.out
  have Ob1_7 := Lib.hid (Ob1_6.out.below (w' := w7) (by repeat (first | with_reducible exact Below.refl _ _ | with_reducible assumption | with_reducible refine Below.drew ?_ | with_reducible refine Below.alloc ?_ (by first | exact Nat.le_refl _ | omega | (simp; done) | (simp; omega)) _ | with_reducible refine Below.setCell ?_ (by first | exact Nat.le_refl _ | omega | (simp; done) | (simp; omega)) _ | (with_reducible refine ext_trans ?_ (by with_reducible assumption)))))
  have Oq1_7 := Lib.hid (Oq1_6.out.below (w' := w7) (by repeat (first | with_reducible exact Below.refl _ _ | with_reducible assumption | with_reducible refine Below.drew ?_ | with_reducible refine Below.alloc ?_ (by first | exact Nat.le_refl _ | omega | (simp; done) | (simp; omega)) _ | with_reducible refine Below.setCell ?_ (by first | exact Nat.le_refl _ | omega | (simp; done) | (simp; omega)) _ | (with_reducible refine ext_trans ?_ (by with_reducible assumption)))))
  have Og1_7 := Lib.hid (Og1_6.out.below (w' := w7) (by repeat (first | with_reducible exact Below.refl _ _ | with_reducible assumption | with_reducible refine Below.drew ?_ | with_reducible refine Below.alloc ?_ (by first | exact Nat.le_refl _ | omega | (simp; done) | (simp; omega)) _ | with_reducible refine Below.setCell ?_ (by first | exact Nat.le_refl _ | omega | (simp; done) | (simp; omega)) _ | (with_reducible refine ext_trans ?_ (by with_reducible assumption)))))
  have hw7 : Below w.heap.size w w7 := (by repeat (first | with_reducible exact Below.refl _ _ | with_reducible assumption | with_reducible refine Below.drew ?_ | with_reducible refine Below.alloc ?_ (by first | exact Nat.le_refl _ | omega | (simp; done) | (simp; omega)) _ | with_reducible refine Below.setCell ?_ (by first | exact Nat.le_refl _ | omega | (simp; done) | (simp; omega)) _ | (with_reducible refine ext_trans ?_ (by with_reducible assumption))))
  have lRa1_7 : w.heap.size < w7.heap.size := by omega
  have lRb_7 : w3.heap.size < w7.heap.size := by omega
  have lRq_7 : w4.heap.size < w7.heap.size := by omega
  have lRg_7 : w5.heap.size < w7.heap.size := by omega
  have Ra1_7 := Lib.hid ra1_7
  have r0_ra1_7 := cell_of_row _ _ 0 _ _ _ ra1_7
  have r1_ra1_7 := cell_of_row _ _ 1 _ _ _ ra1_7
  have r2_ra1_7 := cell_of_row _ _ 2 _ _ _ ra1_7
  have r3_ra1_7 := cell_of_row _ _ 3 _ _ _ ra1_7
  have r4_ra1_7 := cell_of_row _ _ 4 _ _ _ ra1_7
  have f0_ra1_7 := frozen_of_row _ _ 0 _ _ ra1_7
  have f1_ra1_7 := frozen_of_row _ _ 1 _ _ ra1_7
  have f2_ra1_7 := frozen_of_row _ _ 2 _ _ ra1_7
  have f3_ra1_7 := frozen_of_row _ _ 3 _ _ ra1_7
  have f4_ra1_7 := frozen_of_row _ _ 4 _ _ ra1_7
  simp at r0_ra1_7 r1_ra1_7 r2_ra1_7 r3_ra1_7 r4_ra1_7
  clear ra1_7
  have Rb_7 := Lib.hid rb_7
  have r0_rb_7 := cell_of_row _ _ 0 _ _ _ rb_7
  have r1_rb_7 := cell_of_row _ _ 1 _ _ _ rb_7
  have r2_rb_7 := cell_of_row _ _ 2 _ _ _ rb_7
  have r3_rb_7 := cell_of_row _ _ 3 _ _ _ rb_7
  have r4_rb_7 := cell_of_row _ _ 4 _ _ _ rb_7
  have f0_rb_7 := frozen_of_row _ _ 0 _ _ rb_7
  have f1_rb_7 := frozen_of_row _ _ 1 _ _ rb_7
  have f2_rb_7 := frozen_of_row _ _ 2 _ _ rb_7
  have f3_rb_7 := frozen_of_row _ _ 3 _ _ rb_7
  have f4_rb_7 := frozen_of_row _ _ 4 _ _ rb_7
  simp at r0_rb_7 r1_rb_7 r2_rb_7 r3_rb_7 r4_rb_7
  clear rb_7
  have Rq_7 := Lib.hid rq_7
  have r0_rq_7 := cell_of_row _ _ 0 _ _ _ rq_7
  have r1_rq_7 := cell_of_row _ _ 1 _ _ _ rq_7
  have r2_rq_7 := cell_of_row _ _ 2 _ _ _ rq_7
  have r3_rq_7 := cell_of_row _ _ 3 _ _ _ rq_7
  have r4_rq_7 := cell_of_row _ _ 4 _ _ _ rq_7
  have f0_rq_7 := frozen_of_row _ _ 0 _ _ rq_7
  have f1_rq_7 := frozen_of_row _ _ 1 _ _ rq_7
  have f2_rq_7 := frozen_of_row _ _ 2 _ _ rq_7
  have f3_rq_7 := frozen_of_row _ _ 3 _ _ rq_7
  have f4_rq_7 := frozen_of_row _ _ 4 _ _ rq_7
  simp at r0_rq_7 r1_rq_7 r2_rq_7 r3_rq_7 r4_rq_7
  clear rq_7
  have Rg_7 := Lib.hid rg_7
  have r0_rg_7 := cell_of_row _ _ 0 _ _ _ rg_7
  have r1_rg_7 := cell_of_row _ _ 1 _ _ _ rg_7
  have r2_rg_7 := cell_of_row _ _ 2 _ _ _ rg_7
  have r3_rg_7 := cell_of_row _ _ 3 _ _ _ rg_7
  have r4_rg_7 := cell_of_row _ _ 4 _ _ _ rg_7
  have f0_rg_7 := frozen_of_row _ _ 0 _ _ rg_7
  have f1_rg_7 := frozen_of_row _ _ 1 _ _ rg_7
  have f2_rg_7 := frozen_of_row _ _ 2 _ _ rg_7
  have f3_rg_7 := frozen_of_row _ _ 3 _ _ rg_7
  have f4_rg_7 := frozen_of_row _ _ 4 _ _ rg_7
  simp at r0_rg_7 r1_rg_7 r2_rg_7 r3_rg_7 r4_rg_7
  clear rg_7
  clear r0_ra1_6 f0_ra1_6 r1_ra1_6 f1_ra1_6 r2_ra1_6 f2_ra1_6 r3_ra1_6 f3_ra1_6 r4_ra1_6 f4_ra1_6
  clear r0_rb_6 f0_rb_6 r1_rb_6 f1_rb_6 r2_rb_6 f2_rb_6 r3_rb_6 f3_rb_6 r4_rb_6 f4_rb_6
  clear r0_rq_6 f0_rq_6 r1_rq_6 f1_rq_6 r2_rq_6 f2_rq_6 r3_rq_6 f3_rq_6 r4_rq_6 f4_rq_6
  clear r0_rg_6 f0_rg_6 r1_rg_6 f1_rg_6 r2_rg_6 f2_rg_6 r3_rg_6 f3_rg_6 r4_rg_6 f4_rg_6
  go_wp2_with fail
  refine (markReceiver_any x1 _ M11.out 1 (by omega) (by omega) _ _ Oq1_7.out).mono ?_
  rintro e w8 ⟨rfl, hO81, hg81⟩
  have hz81 := hg81.size
  have hz8 : w7.heap.size ≤ w8.heap.size := by omega
  have ra1_8 := (box_kept (bx := w.heap.size) Bq1.out (marksPiece_len _ _) hg81 (by omega) (by omega)).trans (Ra1_7.out)
  have rb_8 := (box_kept (bx := w3.heap.size) Bq1.out (marksPiece_len _ _) hg81 (by omega) (by omega)).trans (Rb_7.out)
  have rq_8 := (box_kept (bx := w4.heap.size) Bq1.out (marksPiece_len _ _) hg81 (by omega) (by omega)).trans (Rq_7.out)
  have rg_8 := (box_kept (bx := w5.heap.size) Bq1.out (marksPiece_len _ _) hg81 (by omega) (by omega)).trans (Rg_7.out)
  have hw8 : Below w.heap.size w w8 := Below.grown hw7 hg81 hw7.size (fun k hk => by have := chg_ge Bq1.out (marksPiece_len _ _) k hk; omega)
  have Ob1_8 := Lib.hid (OwnE.apart Ob1_7.out hg81 (fun h h' => (own_ne Bb1.out Bq1.out (by first | omega | (simp; omega)) h (marks_nePiece h'))))
  have Og1_8 := Lib.hid (OwnE.apart Og1_7.out hg81 (fun h h' => (own_ne Bq1.out Bg1.out (by first | omega | (simp; omega)) (marks_nePiece h') h).symm))
  have Oq1_8 := Lib.hid hO81
  have lRa1_8 : w.heap.size < w8.heap.size := by omega
  have lRb_8 : w3.heap.size < w8.heap.size := by omega
  have lRq_8 : w4.heap.size < w8.heap.size := by omega
  have lRg_8 : w5.heap.size < w8.heap.size := by omega
  have Ra1_8 := Lib.hid ra1_8
  have r0_ra1_8 := cell_of_row _ _ 0 _ _ _ ra1_8
  have r1_ra1_8 := cell_of_row _ _ 1 _ _ _ ra1_8
  have r2_ra1_8 := cell_of_row _ _ 2 _ _ _ ra1_8
  have r3_ra1_8 := cell_of_row _ _ 3 _ _ _ ra1_8
  have r4_ra1_8 := cell_of_row _ _ 4 _ _ _ ra1_8
  have f0_ra1_8 := frozen_of_row _ _ 0 _ _ ra1_8
  have f1_ra1_8 := frozen_of_row _ _ 1 _ _ ra1_8
  have f2_ra1_8 := frozen_of_row _ _ 2 _ _ ra1_8
  have f3_ra1_8 := frozen_of_row _ _ 3 _ _ ra1_8
  have f4_ra1_8 := frozen_of_row _ _ 4 _ _ ra1_8
  simp at r0_ra1_8 r1_ra1_8 r2_ra1_8 r3_ra1_8 r4_ra1_8
  clear ra1_8
  have Rb_8 := Lib.hid rb_8
  have r0_rb_8 := cell_of_row _ _ 0 _ _ _ rb_8
  have r1_rb_8 := cell_of_row _ _ 1 _ _ _ rb_8
  have r2_rb_8 := cell_of_row _ _ 2 _ _ _ rb_8
  have r3_rb_8 := cell_of_row _ _ 3 _ _ _ rb_8
  have r4_rb_8 := cell_of_row _ _ 4 _ _ _ rb_8
  have f0_rb_8 := frozen_of_row _ _ 0 _ _ rb_8
  have f1_rb_8 := frozen_of_row _ _ 1 _ _ rb_8
  have f2_rb_8 := frozen_of_row _ _ 2 _ _ rb_8
  have f3_rb_8 := frozen_of_row _ _ 3 _ _ rb_8
  have f4_rb_8 := frozen_of_row _ _ 4 _ _ rb_8
  simp at r0_rb_8 r1_rb_8 r2_rb_8 r3_rb_8 r4_rb_8
  clear rb_8
  have Rq_8 := Lib.hid rq_8
  have r0_rq_8 := cell_of_row _ _ 0 _ _ _ rq_8
  have r1_rq_8 := cell_of_row _ _ 1 _ _ _ rq_8
  have r2_rq_8 := cell_of_row _ _ 2 _ _ _ rq_8
  have r3_rq_8 := cell_of_row _ _ 3 _ _ _ rq_8
  have r4_rq_8 := cell_of_row _ _ 4 _ _ _ rq_8
  have f0_rq_8 := frozen_of_row _ _ 0 _ _ rq_8
  have f1_rq_8 := frozen_of_row _ _ 1 _ _ rq_8
  have f2_rq_8 := frozen_of_row _ _ 2 _ _ rq_8
  have f3_rq_8 := frozen_of_row _ _ 3 _ _ rq_8
  have f4_rq_8 := frozen_of_row _ _ 4 _ _ rq_8
  simp at r0_rq_8 r1_rq_8 r2_rq_8 r3_rq_8 r4_rq_8
  clear rq_8
  have Rg_8 := Lib.hid rg_8
  have r0_rg_8 := cell_of_row _ _ 0 _ _ _ rg_8
  have r1_rg_8 := cell_of_row _ _ 1 _ _ _ rg_8
  have r2_rg_8 := cell_of_row _ _ 2 _ _ _ rg_8
  have r3_rg_8 := cell_of_row _ _ 3 _ _ _ rg_8
  have r4_rg_8 := cell_of_row _ _ 4 _ _ _ rg_8
  have f0_rg_8 := frozen_of_row _ _ 0 _ _ rg_8
  have f1_rg_8 := frozen_of_row _ _ 1 _ _ rg_8
  have f2_rg_8 := frozen_of_row _ _ 2 _ _ rg_8
  have f3_rg_8 := frozen_of_row _ _ 3 _ _ rg_8
  have f4_rg_8 := frozen_of_row _ _ 4 _ _ rg_8
  simp at r0_rg_8 r1_rg_8 r2_rg_8 r3_rg_8 r4_rg_8
  clear rg_8
  clear r0_ra1_7 f0_ra1_7 r1_ra1_7 f1_ra1_7 r2_ra1_7 f2_ra1_7 r3_ra1_7 f3_ra1_7 r4_ra1_7 f4_ra1_7
  clear r0_rb_7 f0_rb_7 r1_rb_7 f1_rb_7 r2_rb_7 f2_rb_7 r3_rb_7 f3_rb_7 r4_rb_7 f4_rb_7
  clear r0_rq_7 f0_rq_7 r1_rq_7 f1_rq_7 r2_rq_7 f2_rq_7 r3_rq_7 f3_rq_7 r4_rq_7 f4_rq_7
  clear r0_rg_7 f0_rg_7 r1_rg_7 f1_rg_7 r2_rg_7 f2_rg_7 r3_rg_7 f3_rg_7 r4_rg_7 f4_rg_7
  clear hO81 hg81
  have hk8 : ¬ (((1 + 2 * x1.hs.length : Nat) : Int) < 0) := by omega
  go_wp2_with fail
  refine (eqReceiver_same r _ _ NR.out _ Og1_8.out.rd Ob1_8.out.rd).mono ?_
  rintro e w9 ⟨rfl, hb9⟩
  have hz9 := hb9.size
  (try simp at hz9)
  have ra1_9 := (hb9.block _ (by first | omega | (simp; done) | (simp; omega))).trans Ra1_8.out
  have rb_9 := (hb9.block _ (by first | omega | (simp; done) | (simp; omega))).trans Rb_8.out
  have rq_9 := (hb9.block _ (by first | omega | (simp; done) | (simp; omega))).trans Rq_8.out
  have rg_9 := (hb9.block _ (by first | omega | (simp; done) | (simp; omega))).trans Rg_8.out
  have Ob1_9 := Lib.hid (Ob1_8.out.below (w' := w9) (by repeat (first | with_reducible exact Below.refl _ _ | with_reducible assumption | with_reducible refine Below.drew ?_ | with_reducible refine Below.alloc ?_ (by first | exact Nat.le_refl _ | omega | (simp; done) | (simp; omega)) _ | with_reducible refine Below.setCell ?_ (by first | exact Nat.le_refl _ | omega | (simp; done) | (simp; omega)) _ | (with_reducible refine ext_trans ?_ (by with_reducible assumption)))))
  have Og1_9 := Lib.hid (Og1_8.out.below (w' := w9) (by repeat (first | with_reducible exact Below.refl _ _ | with_reducible assumption | with_reducible refine Below.drew ?_ | with_reducible refine Below.alloc ?_ (by first | exact Nat.le_refl _ | omega | (simp; done) | (simp; omega)) _ | with_reducible refine Below.setCell ?_ (by first | exact Nat.le_refl _ | omega | (simp; done) | (simp; omega)) _ | (with_reducible refine ext_trans ?_ (by with_reducible assumption)))))
  have hw9 : Below w.heap.size w w9 := (by repeat (first | with_reducible exact Below.refl _ _ | with_reducible assumption | with_reducible refine Below.drew ?_ | with_reducible refine Below.alloc ?_ (by first | exact Nat.le_refl _ | omega | (simp; done) | (simp; omega)) _ | with_reducible refine Below.setCell ?_ (by first | exact Nat.le_refl _ | omega | (simp; done) | (simp; omega)) _ | (with_reducible refine ext_trans ?_ (by with_reducible assumption))))
  have lRa1_9 : w.heap.size < w9.heap.size := by omega
  have lRb_9 : w3.heap.size < w9.heap.size := by omega
  have lRq_9 : w4.heap.size < w9.heap.size := by omega
  have lRg_9 : w5.heap.size < w9.heap.size := by omega
  have Ra1_9 := Lib.hid ra1_9
  have r0_ra1_9 := cell_of_row _ _ 0 _ _ _ ra1_9
  have r1_ra1_9 := cell_of_row _ _ 1 _ _ _ ra1_9
  have r2_ra1_9 := cell_of_row _ _ 2 _ _ _ ra1_9
  have r3_ra1_9 := cell_of_row _ _ 3 _ _ _ ra1_9
  have r4_ra1_9 := cell_of_row _ _ 4 _ _ _ ra1_9
  have f0_ra1_9 := frozen_of_row _ _ 0 _ _ ra1_9
  have f1_ra1_9 := frozen_of_row _ _ 1 _ _ ra1_9
  have f2_ra1_9 := frozen_of_row _ _ 2 _ _ ra1_9
  have f3_ra1_9 := frozen_of_row _ _ 3 _ _ ra1_9
  have f4_ra1_9 := frozen_of_row _ _ 4 _ _ ra1_9
  simp at r0_ra1_9 r1_ra1_9 r2_ra1_9 r3_ra1_9 r4_ra1_9
  clear ra1_9
  have Rb_9 := Lib.hid rb_9
  have r0_rb_9 := cell_of_row _ _ 0 _ _ _ rb_9
  have r1_rb_9 := cell_of_row _ _ 1 _ _ _ rb_9
  have r2_rb_9 := cell_of_row _ _ 2 _ _ _ rb_9
  have r3_rb_9 := cell_of_row _ _ 3 _ _ _ rb_9
  have r4_rb_9 := cell_of_row _ _ 4 _ _ _ rb_9
  have f0_rb_9 := frozen_of_row _ _ 0 _ _ rb_9
  have f1_rb_9 := frozen_of_row _ _ 1 _ _ rb_9
  have f2_rb_9 := frozen_of_row _ _ 2 _ _ rb_9
  have f3_rb_9 := frozen_of_row _ _ 3 _ _ rb_9
  have f4_rb_9 := frozen_of_row _ _ 4 _ _ rb_9
  simp at r0_rb_9 r1_rb_9 r2_rb_9 r3_rb_9 r4_rb_9
  clear rb_9
  have Rq_9 := Lib.hid rq_9
  have r0_rq_9 := cell_of_row _ _ 0 _ _ _ rq_9
  have r1_rq_9 := cell_of_row _ _ 1 _ _ _ rq_9
  have r2_rq_9 := cell_of_row _ _ 2 _ _ _ rq_9
  have r3_rq_9 := cell_of_row _ _ 3 _ _ _ rq_9
  have r4_rq_9 := cell_of_row _ _ 4 _ _ _ rq_9
  have f0_rq_9 := frozen_of_row _ _ 0 _ _ rq_9
  have f1_rq_9 := frozen_of_row _ _ 1 _ _ rq_9
  have f2_rq_9 := frozen_of_row _ _ 2 _ _ rq_9
  have f3_rq_9 := frozen_of_row _ _ 3 _ _ rq_9
  have f4_rq_9 := frozen_of_row _ _ 4 _ _ rq_9
  simp at r0_rq_9 r1_rq_9 r2_rq_9 r3_rq_9 r4_rq_9
  clear rq_9
  have Rg_9 := Lib.hid rg_9
  have r0_rg_9 := cell_of_row _ _ 0 _ _ _ rg_9
  have r1_rg_9 := cell_of_row _ _ 1 _ _ _ rg_9
  have r2_rg_9 := cell_of_row _ _ 2 _ _ _ rg_9
  have r3_rg_9 := cell_of_row _ _ 3 _ _ _ rg_9
  have r4_rg_9 := cell_of_row _ _ 4 _ _ _ rg_9
  have f0_rg_9 := frozen_of_row _ _ 0 _ _ rg_9
  have f1_rg_9 := frozen_of_row _ _ 1 _ _ rg_9
  have f2_rg_9 := frozen_of_row _ _ 2 _ _ rg_9
  have f3_rg_9 := frozen_of_row _ _ 3 _ _ rg_9
  have f4_rg_9 := frozen_of_row _ _ 4 _ _ rg_9
  simp at r0_rg_9 r1_rg_9 r2_rg_9 r3_rg_9 r4_rg_9
  clear rg_9
  clear r0_ra1_8 f0_ra1_8 r1_ra1_8 f1_ra1_8 r2_ra1_8 f2_ra1_8 r3_ra1_8 f3_ra1_8 r4_ra1_8 f4_ra1_8
  clear r0_rb_8 f0_rb_8 r1_rb_8 f1_rb_8 r2_rb_8 f2_rb_8 r3_rb_8 f3_rb_8 r4_rb_8 f4_rb_8
  clear r0_rq_8 f0_rq_8 r1_rq_8 f1_rq_8 r2_rq_8 f2_rq_8 r3_rq_8 f3_rq_8 r4_rq_8 f4_rq_8
  clear r0_rg_8 f0_rg_8 r1_rg_8 f1_rg_8 r2_rg_8 f2_rg_8 r3_rg_8 f3_rg_8 r4_rg_8 f4_rg_8
  go_wp2_with fail
  refine (markReceiver_any r _ MR.out 1 (by omega) (by omega) _ _ Og1_9.out).mono ?_
  rintro e w10 ⟨rfl, hO101, hg101⟩
  have hz101 := hg101.size
  have hz10 : w9.heap.size ≤ w10.heap.size := by omega
  have ra1_10 := (box_kept (bx := w.heap.size) Bg1.out (marksPiece_len _ _) hg101 (by omega) (by omega)).trans (Ra1_9.out)
  have rb_10 := (box_kept (bx := w3.heap.size) Bg1.out (marksPiece_len _ _) hg101 (by omega) (by omega)).trans (Rb_9.out)
  have rq_10 := (box_kept (bx := w4.heap.size) Bg1.out (marksPiece_len _ _) hg101 (by omega) (by omega)).trans (Rq_9.out)
  have rg_10 := (box_kept (bx := w5.heap.size) Bg1.out (marksPiece_len _ _) hg101 (by omega) (by omega)).trans (Rg_9.out)
  have hw10 : Below w.heap.size w w10 := Below.grown hw9 hg101 hw9.size (fun k hk => by have := chg_ge Bg1.out (marksPiece_len _ _) k hk; omega)
  have Ob1_10 := Lib.hid (OwnE.apart Ob1_9.out hg101 (fun h h' => (own_ne Bb1.out Bg1.out (by first | omega | (simp; omega)) h (marks_nePiece h'))))
  have Og1_10 := Lib.hid hO101
  have lRa1_10 : w.heap.size < w10.heap.size := by omega
  have lRb_10 : w3.heap.size < w10.heap.size := by omega
  have lRq_10 : w4.heap.size < w10.heap.size := by omega
  have lRg_10 : w5.heap.size < w10.heap.size := by omega
  have Ra1_10 := Lib.hid ra1_10
  have r0_ra1_10 := cell_of_row _ _ 0 _ _ _ ra1_10
  have r1_ra1_10 := cell_of_row _ _ 1 _ _ _ ra1_10
  have r2_ra1_10 := cell_of_row _ _ 2 _ _ _ ra1_10
  have r3_ra1_10 := cell_of_row _ _ 3 _ _ _ ra1_10
  have r4_ra1_10 := cell_of_row _ _ 4 _ _ _ ra1_10
  have f0_ra1_10 := frozen_of_row _ _ 0 _ _ ra1_10
  have f1_ra1_10 := frozen_of_row _ _ 1 _ _ ra1_10
  have f2_ra1_10 := frozen_of_row _ _ 2 _ _ ra1_10
  have f3_ra1_10 := frozen_of_row _ _ 3 _ _ ra1_10
  have f4_ra1_10 := frozen_of_row _ _ 4 _ _ ra1_10
  simp at r0_ra1_10 r1_ra1_10 r2_ra1_10 r3_ra1_10 r4_ra1_10
  clear ra1_10
  have Rb_10 := Lib.hid rb_10
  have r0_rb_10 := cell_of_row _ _ 0 _ _ _ rb_10
  have r1_rb_10 := cell_of_row _ _ 1 _ _ _ rb_10
  have r2_rb_10 := cell_of_row _ _ 2 _ _ _ rb_10
  have r3_rb_10 := cell_of_row _ _ 3 _ _ _ rb_10
  have r4_rb_10 := cell_of_row _ _ 4 _ _ _ rb_10
  have f0_rb_10 := frozen_of_row _ _ 0 _ _ rb_10
  have f1_rb_10 := frozen_of_row _ _ 1 _ _ rb_10
  have f2_rb_10 := frozen_of_row _ _ 2 _ _ rb_10
  have f3_rb_10 := frozen_of_row _ _ 3 _ _ rb_10
  have f4_rb_10 := frozen_of_row _ _ 4 _ _ rb_10
  simp at r0_rb_10 r1_rb_10 r2_rb_10 r3_rb_10 r4_rb_10
  clear rb_10
  have Rq_10 := Lib.hid rq_10
  have r0_rq_10 := cell_of_row _ _ 0 _ _ _ rq_10
  have r1_rq_10 := cell_of_row _ _ 1 _ _ _ rq_10
  have r2_rq_10 := cell_of_row _ _ 2 _ _ _ rq_10
  have r3_rq_10 := cell_of_row _ _ 3 _ _ _ rq_10
  have r4_rq_10 := cell_of_row _ _ 4 _ _ _ rq_10
  have f0_rq_10 := frozen_of_row _ _ 0 _ _ rq_10
  have f1_rq_10 := frozen_of_row _ _ 1 _ _ rq_10
  have f2_rq_10 := frozen_of_row _ _ 2 _ _ rq_10
  have f3_rq_10 := frozen_of_row _ _ 3 _ _ rq_10
  have f4_rq_10 := frozen_of_row _ _ 4 _ _ rq_10
  simp at r0_rq_10 r1_rq_10 r2_rq_10 r3_rq_10 r4_rq_10
  clear rq_10
  have Rg_10 := Lib.hid rg_10
  have r0_rg_10 := cell_of_row _ _ 0 _ _ _ rg_10
  have r1_rg_10 := cell_of_row _ _ 1 _ _ _ rg_10
  have r2_rg_10 := cell_of_row _ _ 2 _ _ _ rg_10
  have r3_rg_10 := cell_of_row _ _ 3 _ _ _ rg_10
  have r4_rg_10 := cell_of_row _ _ 4 _ _ _ rg_10
  have f0_rg_10 := frozen_of_row _ _ 0 _ _ rg_10
  have f1_rg_10 := frozen_of_row _ _ 1 _ _ rg_10
  have f2_rg_10 := frozen_of_row _ _ 2 _ _ rg_10
  have f3_rg_10 := frozen_of_row _ _ 3 _ _ rg_10
  have f4_rg_10 := frozen_of_row _ _ 4 _ _ rg_10
  simp at r0_rg_10 r1_rg_10 r2_rg_10 r3_rg_10 r4_rg_10
  clear rg_10
  clear r0_ra1_9 f0_ra1_9 r1_ra1_9 f1_ra1_9 r2_ra1_9 f2_ra1_9 r3_ra1_9 f3_ra1_9 r4_ra1_9 f4_ra1_9
  clear r0_rb_9 f0_rb_9 r1_rb_9 f1_rb_9 r2_rb_9 f2_rb_9 r3_rb_9 f3_rb_9 r4_rb_9 f4_rb_9
  clear r0_rq_9 f0_rq_9 r1_rq_9 f1_rq_9 r2_rq_9 f2_rq_9 r3_rq_9 f3_rq_9 r4_rq_9 f4_rq_9
  clear r0_rg_9 f0_rg_9 r1_rg_9 f1_rg_9 r2_rg_9 f2_rg_9 r3_rg_9 f3_rg_9 r4_rg_9 f4_rg_9
  clear hO101 hg101
  go_wp2_with fail
  refine (heldReceiver_any r _ r.hs.length MR.out 1 (by omega) (by omega) _ (marked_rdPiece Og1_10.out)).mono ?_
  rintro e w11 ⟨rfl, hb11⟩
  have hz11 := hb11.size
  (try simp at hz11)
  have ra1_11 := (hb11.block _ (by first | omega | (simp; done) | (simp; omega))).trans Ra1_10.out
  have rb_11 := (hb11.block _ (by first | omega | (simp; done) | (simp; omega))).trans Rb_10.out
  have rq_11 := (hb11.block _ (by first | omega | (simp; done) | (simp; omega))).trans Rq_10.out
  have rg_11 := (hb11.block _ (by first | omega | (simp; done) | (simp; omega))).trans Rg_10.out
  have Ob1_11 := Lib.hid (Ob1_10.out.below (w' := w11) (by repeat (first | with_reducible exact Below.refl _ _ | with_reducible assumption | with_reducible refine Below.drew ?_ | with_reducible refine Below.alloc ?_ (by first | exact Nat.le_refl _ | omega | (simp; done) | (simp; omega)) _ | with_reducible refine Below.setCell ?_ (by first | exact Nat.le_refl _ | omega | (simp; done) | (simp; omega)) _ | (with_reducible refine ext_trans ?_ (by with_reducible assumption)))))
  have Og1_11 := Lib.hid (Og1_10.out.below (w' := w11) (by repeat (first | with_reducible exact Below.refl _ _ | with_reducible assumption | with_reducible refine Below.drew ?_ | with_reducible refine Below.alloc ?_ (by first | exact Nat.le_refl _ | omega | (simp; done) | (simp; omega)) _ | with_reducible refine Below.setCell ?_ (by first | exact Nat.le_refl _ | omega | (simp; done) | (simp; omega)) _ | (with_reducible refine ext_trans ?_ (by with_reducible assumption)))))
  have hw11 : Below w.heap.size w w11 := (by repeat (first | with_reducible exact Below.refl _ _ | with_reducible assumption | with_reducible refine Below.drew ?_ | with_reducible refine Below.alloc ?_ (by first | exact Nat.le_refl _ | omega | (simp; done) | (simp; omega)) _ | with_reducible refine Below.setCell ?_ (by first | exact Nat.le_refl _ | omega | (simp; done) | (simp; omega)) _ | (with_reducible refine ext_trans ?_ (by with_reducible assumption))))
  have lRa1_11 : w.heap.size < w11.heap.size := by omega
  have lRb_11 : w3.heap.size < w11.heap.size := by omega
  have lRq_11 : w4.heap.size < w11.heap.size := by omega
  have lRg_11 : w5.heap.size < w11.heap.size := by omega
  have Ra1_11 := Lib.hid ra1_11
  have r0_ra1_11 := cell_of_row _ _ 0 _ _ _ ra1_11
  have r1_ra1_11 := cell_of_row _ _ 1 _ _ _ ra1_11
  have r2_ra1_11 := cell_of_row _ _ 2 _ _ _ ra1_11
  have r3_ra1_11 := cell_of_row _ _ 3 _ _ _ ra1_11
  have r4_ra1_11 := cell_of_row _ _ 4 _ _ _ ra1_11
  have f0_ra1_11 := frozen_of_row _ _ 0 _ _ ra1_11
  have f1_ra1_11 := frozen_of_row _ _ 1 _ _ ra1_11
  have f2_ra1_11 := frozen_of_row _ _ 2 _ _ ra1_11
  have f3_ra1_11 := frozen_of_row _ _ 3 _ _ ra1_11
  have f4_ra1_11 := frozen_of_row _ _ 4 _ _ ra1_11
  simp at r0_ra1_11 r1_ra1_11 r2_ra1_11 r3_ra1_11 r4_ra1_11
  clear ra1_11
  have Rb_11 := Lib.hid rb_11
  have r0_rb_11 := cell_of_row _ _ 0 _ _ _ rb_11
  have r1_rb_11 := cell_of_row _ _ 1 _ _ _ rb_11
  have r2_rb_11 := cell_of_row _ _ 2 _ _ _ rb_11
  have r3_rb_11 := cell_of_row _ _ 3 _ _ _ rb_11
  have r4_rb_11 := cell_of_row _ _ 4 _ _ _ rb_11
  have f0_rb_11 := frozen_of_row _ _ 0 _ _ rb_11
  have f1_rb_11 := frozen_of_row _ _ 1 _ _ rb_11
  have f2_rb_11 := frozen_of_row _ _ 2 _ _ rb_11
  have f3_rb_11 := frozen_of_row _ _ 3 _ _ rb_11
  have f4_rb_11 := frozen_of_row _ _ 4 _ _ rb_11
  simp at r0_rb_11 r1_rb_11 r2_rb_11 r3_rb_11 r4_rb_11
  clear rb_11
  have Rq_11 := Lib.hid rq_11
  have r0_rq_11 := cell_of_row _ _ 0 _ _ _ rq_11
  have r1_rq_11 := cell_of_row _ _ 1 _ _ _ rq_11
  have r2_rq_11 := cell_of_row _ _ 2 _ _ _ rq_11
  have r3_rq_11 := cell_of_row _ _ 3 _ _ _ rq_11
  have r4_rq_11 := cell_of_row _ _ 4 _ _ _ rq_11
  have f0_rq_11 := frozen_of_row _ _ 0 _ _ rq_11
  have f1_rq_11 := frozen_of_row _ _ 1 _ _ rq_11
  have f2_rq_11 := frozen_of_row _ _ 2 _ _ rq_11
  have f3_rq_11 := frozen_of_row _ _ 3 _ _ rq_11
  have f4_rq_11 := frozen_of_row _ _ 4 _ _ rq_11
  simp at r0_rq_11 r1_rq_11 r2_rq_11 r3_rq_11 r4_rq_11
  clear rq_11
  have Rg_11 := Lib.hid rg_11
  have r0_rg_11 := cell_of_row _ _ 0 _ _ _ rg_11
  have r1_rg_11 := cell_of_row _ _ 1 _ _ _ rg_11
  have r2_rg_11 := cell_of_row _ _ 2 _ _ _ rg_11
  have r3_rg_11 := cell_of_row _ _ 3 _ _ _ rg_11
  have r4_rg_11 := cell_of_row _ _ 4 _ _ _ rg_11
  have f0_rg_11 := frozen_of_row _ _ 0 _ _ rg_11
  have f1_rg_11 := frozen_of_row _ _ 1 _ _ rg_11
  have f2_rg_11 := frozen_of_row _ _ 2 _ _ rg_11
  have f3_rg_11 := frozen_of_row _ _ 3 _ _ rg_11
  have f4_rg_11 := frozen_of_row _ _ 4 _ _ rg_11
  simp at r0_rg_11 r1_rg_11 r2_rg_11 r3_rg_11 r4_rg_11
  clear rg_11
  clear r0_ra1_10 f0_ra1_10 r1_ra1_10 f1_ra1_10 r2_ra1_10 f2_ra1_10 r3_ra1_10 f3_ra1_10 r4_ra1_10 f4_ra1_10
  clear r0_rb_10 f0_rb_10 r1_rb_10 f1_rb_10 r2_rb_10 f2_rb_10 r3_rb_10 f3_rb_10 r4_rb_10 f4_rb_10
  clear r0_rq_10 f0_rq_10 r1_rq_10 f1_rq_10 r2_rq_10 f2_rq_10 r3_rq_10 f3_rq_10 r4_rq_10 f4_rq_10
  clear r0_rg_10 f0_rg_10 r1_rg_10 f1_rg_10 r2_rg_10 f2_rg_10 r3_rg_10 f3_rg_10 r4_rg_10 f4_rg_10
  have hk11 : ¬ (((1 + 2 * r.hs.length : Nat) : Int) < 0) := by omega
  go_wp2_with fail
  refine (toReceiver_any x1 _ M11.out _ (H11.out.below (by repeat (first | with_reducible exact Below.refl _ _ | with_reducible assumption | with_reducible refine Below.drew ?_ | with_reducible refine Below.alloc ?_ (by first | exact Nat.le_refl _ | omega | (simp; done) | (simp; omega)) _ | with_reducible refine Below.setCell ?_ (by first | exact Nat.le_refl _ | omega | (simp; done) | (simp; omega)) _ | (with_reducible refine ext_trans ?_ (by with_reducible assumption)))))).mono ?_
  rintro e w12 ⟨u121, rfl, hO121, hb12⟩
  obtain ⟨A121, c121, rfl⟩ := hO121.form
  have Op1_12 := Lib.hid (OwnE.mono (base' := w11.heap.size) hO121 (by first | exact Nat.le_refl _ | (simp; done)))
  have Bp1 := Op1_12
  have hz12 := hb12.size
  (try simp at hz12)
  have ra1_12 := (hb12.block _ (by first | omega | (simp; done) | (simp; omega))).trans Ra1_11.out
  have rb_12 := (hb12.block _ (by first | omega | (simp; done) | (simp; omega))).trans Rb_11.out
  have rq_12 := (hb12.block _ (by first | omega | (simp; done) | (simp; omega))).trans Rq_11.out
  have rg_12 := (hb12.block _ (by first | omega | (simp; done) | (simp; omega))).trans Rg_11.out
  have Ob1_12 := Lib.hid (Ob1_11.out.below (w' := w12) (by repeat (first | with_reducible exact Below.refl _ _ | with_reducible assumption | with_reducible refine Below.drew ?_ | with_reducible refine Below.alloc ?_ (by first | exact Nat.le_refl _ | omega | (simp; done) | (simp; omega)) _ | with_reducible refine Below.setCell ?_ (by first | exact Nat.le_refl _ | omega | (simp; done) | (simp; omega)) _ | (with_reducible refine ext_trans ?_ (by with_reducible assumption)))))
  have Og1_12 := Lib.hid (Og1_11.out.below (w' := w12) (by repeat (first | with_reducible exact Below.refl _ _ | with_reducible assumption | with_reducible refine Below.drew ?_ | with_reducible refine Below.alloc ?_ (by first | exact Nat.le_refl _ | omega | (simp; done) | (simp; omega)) _ | with_reducible refine Below.setCell ?_ (by first | exact Nat.le_refl _ | omega | (simp; done) | (simp; omega)) _ | (with_reducible refine ext_trans ?_ (by with_reducible assumption)))))
  have hw12 : Below w.heap.size w w12 := (by repeat (first | with_reducible exact Below.refl _ _ | with_reducible assumption | with_reducible refine Below.drew ?_ | with_reducible refine Below.alloc ?_ (by first | exact Nat.le_refl _ | omega | (simp; done) | (simp; omega)) _ | with_reducible refine Below.setCell ?_ (by first | exact Nat.le_refl _ | omega | (simp; done) | (simp; omega)) _ | (with_reducible refine ext_trans ?_ (by with_reducible assumption))))
  have lRa1_12 : w.heap.size < w12.heap.size := by omega
  have lRb_12 : w3.heap.size < w12.heap.size := by omega
  have lRq_12 : w4.heap.size < w12.heap.size := by omega
  have lRg_12 : w5.heap.size < w12.heap.size := by omega
  have Ra1_12 := Lib.hid ra1_12
  have r0_ra1_12 := cell_of_row _ _ 0 _ _ _ ra1_12
  have r1_ra1_12 := cell_of_row _ _ 1 _ _ _ ra1_12
  have r2_ra1_12 := cell_of_row _ _ 2 _ _ _ ra1_12
  have r3_ra1_12 := cell_of_row _ _ 3 _ _ _ ra1_12
  have r4_ra1_12 := cell_of_row _ _ 4 _ _ _ ra1_12
  have f0_ra1_12 := frozen_of_row _ _ 0 _ _ ra1_12
  have f1_ra1_12 := frozen_of_row _ _ 1 _ _ ra1_12
  have f2_ra1_12 := frozen_of_row _ _ 2 _ _ ra1_12
  have f3_ra1_12 := frozen_of_row _ _ 3 _ _ ra1_12
  have f4_ra1_12 := frozen_of_row _ _ 4 _ _ ra1_12
  simp at r0_ra1_12 r1_ra1_12 r2_ra1_12 r3_ra1_12 r4_ra1_12
  clear ra1_12
  have Rb_12 := Lib.hid rb_12
  have r0_rb_12 := cell_of_row _ _ 0 _ _ _ rb_12
  have r1_rb_12 := cell_of_row _ _ 1 _ _ _ rb_12
  have r2_rb_12 := cell_of_row _ _ 2 _ _ _ rb_12
  have r3_rb_12 := cell_of_row _ _ 3 _ _ _ rb_12
  have r4_rb_12 := cell_of_row _ _ 4 _ _ _ rb_12
  have f0_rb_12 := frozen_of_row _ _ 0 _ _ rb_12
  have f1_rb_12 := frozen_of_row _ _ 1 _ _ rb_12
  have f2_rb_12 := frozen_of_row _ _ 2 _ _ rb_12
  have f3_rb_12 := frozen_of_row _ _ 3 _ _ rb_12
  have f4_rb_12 := frozen_of_row _ _ 4 _ _ rb_12
  simp at r0_rb_12 r1_rb_12 r2_rb_12 r3_rb_12 r4_rb_12
  clear rb_12
  have Rq_12 := Lib.hid rq_12
  have r0_rq_12 := cell_of_row _ _ 0 _ _ _ rq_12
  have r1_rq_12 := cell_of_row _ _ 1 _ _ _ rq_12
  have r2_rq_12 := cell_of_row _ _ 2 _ _ _ rq_12
  have r3_rq_12 := cell_of_row _ _ 3 _ _ _ rq_12
  have r4_rq_12 := cell_of_row _ _ 4 _ _ _ rq_12
  have f0_rq_12 := frozen_of_row _ _ 0 _ _ rq_12
  have f1_rq_12 := frozen_of_row _ _ 1 _ _ rq_12
  have f2_rq_12 := frozen_of_row _ _ 2 _ _ rq_12
  have f3_rq_12 := frozen_of_row _ _ 3 _ _ rq_12
  have f4_rq_12 := frozen_of_row _ _ 4 _ _ rq_12
  simp at r0_rq_12 r1_rq_12 r2_rq_12 r3_rq_12 r4_rq_12
  clear rq_12
  have Rg_12 := Lib.hid rg_12
  have r0_rg_12 := cell_of_row _ _ 0 _ _ _ rg_12
  have r1_rg_12 := cell_of_row _ _ 1 _ _ _ rg_12
  have r2_rg_12 := cell_of_row _ _ 2 _ _ _ rg_12
  have r3_rg_12 := cell_of_row _ _ 3 _ _ _ rg_12
  have r4_rg_12 := cell_of_row _ _ 4 _ _ _ rg_12
  have f0_rg_12 := frozen_of_row _ _ 0 _ _ rg_12
  have f1_rg_12 := frozen_of_row _ _ 1 _ _ rg_12
  have f2_rg_12 := frozen_of_row _ _ 2 _ _ rg_12
  have f3_rg_12 := frozen_of_row _ _ 3 _ _ rg_12
  have f4_rg_12 := frozen_of_row _ _ 4 _ _ rg_12
  simp at r0_rg_12 r1_rg_12 r2_rg_12 r3_rg_12 r4_rg_12
  clear rg_12
  clear r0_ra1_11 f0_ra1_11 r1_ra1_11 f1_ra1_11 r2_ra1_11 f2_ra1_11 r3_ra1_11 f3_ra1_11 r4_ra1_11 f4_ra1_11
  clear r0_rb_11 f0_rb_11 r1_rb_11 f1_rb_11 r2_rb_11 f2_rb_11 r3_rb_11 f3_rb_11 r4_rb_11 f4_rb_11
  clear r0_rq_11 f0_rq_11 r1_rq_11 f1_rq_11 r2_rq_11 f2_rq_11 r3_rq_11 f3_rq_11 r4_rq_11 f4_rq_11
  clear r0_rg_11 f0_rg_11 r1_rg_11 f1_rg_11 r2_rg_11 f2_rg_11 r3_rg_11 f3_rg_11 r4_rg_11 f4_rg_11
  go_wp2_with fail
  refine (HI.out _ _ Op1_12.out.rd).mono ?_
  rintro e w13 ⟨v13, rfl, hO131, hb13⟩
  obtain ⟨A13, c13, rfl⟩ := hO131.form
  have Oh1_13 := Lib.hid (OwnE.mono (base' := w12.heap.size) hO131 (by first | exact Nat.le_refl _ | (simp; done)))
  have Bh1 := Oh1_13
  have hz13 := hb13.size
  (try simp at hz13)
  have ra1_13 := (hb13.block _ (by first | omega | (simp; done) | (simp; omega))).trans Ra1_12.out
  have rb_13 := (hb13.block _ (by first | omega | (simp; done) | (simp; omega))).trans Rb_12.out
  have rq_13 := (hb13.block _ (by first | omega | (simp; done) | (simp; omega))).trans Rq_12.out
  have rg_13 := (hb13.block _ (by first | omega | (simp; done) | (simp; omega))).trans Rg_12.out
  have Ob1_13 := Lib.hid (Ob1_12.out.below (w' := w13) (by repeat (first | with_reducible exact Below.refl _ _ | with_reducible assumption | with_reducible refine Below.drew ?_ | with_reducible refine Below.alloc ?_ (by first | exact Nat.le_refl _ | omega | (simp; done) | (simp; omega)) _ | with_reducible refine Below.setCell ?_ (by first | exact Nat.le_refl _ | omega | (simp; done) | (simp; omega)) _ | (with_reducible refine ext_trans ?_ (by with_reducible assumption)))))
  have Og1_13 := Lib.hid (Og1_12.out.below (w' := w13) (by repeat (first | with_reducible exact Below.refl _ _ | with_reducible assumption | with_reducible refine Below.drew ?_ | with_reducible refine Below.alloc ?_ (by first | exact Nat.le_refl _ | omega | (simp; done) | (simp; omega)) _ | with_reducible refine Below.setCell ?_ (by first | exact Nat.le_refl _ | omega | (simp; done) | (simp; omega)) _ | (with_reducible refine ext_trans ?_ (by with_reducible assumption)))))
  have Op1_13 := Lib.hid (Op1_12.out.below (w' := w13) (by repeat (first | with_reducible exact Below.refl _ _ | with_reducible assumption | with_reducible refine Below.drew ?_ | with_reducible refine Below.alloc ?_ (by first | exact Nat.le_refl _ | omega | (simp; done) | (simp; omega)) _ | with_reducible refine Below.setCell ?_ (by first | exact Nat.le_refl _ | omega | (simp; done) | (simp; omega)) _ | (with_reducible refine ext_trans ?_ (by with_reducible assumption)))))
  have hw13 : Below w.heap.size w w13 := (by repeat (first | with_reducible exact Below.refl _ _ | with_reducible assumption | with_reducible refine Below.drew ?_ | with_reducible refine Below.alloc ?_ (by first | exact Nat.le_refl _ | omega | (simp; done) | (simp; omega)) _ | with_reducible refine Below.setCell ?_ (by first | exact Nat.le_refl _ | omega | (simp; done) | (simp; omega)) _ | (with_reducible refine ext_trans ?_ (by with_reducible assumption))))
  have lRa1_13 : w.heap.size < w13.heap.size := by omega
  have lRb_13 : w3.heap.size < w13.heap.size := by omega
  have lRq_13 : w4.heap.size < w13.heap.size := by omega
  have lRg_13 : w5.heap.size < w13.heap.size := by omega
  have Ra1_13 := Lib.hid ra1_13
  have r0_ra1_13 := cell_of_row _ _ 0 _ _ _ ra1_13
  have r1_ra1_13 := cell_of_row _ _ 1 _ _ _ ra1_13
  have r2_ra1_13 := cell_of_row _ _ 2 _ _ _ ra1_13
  have r3_ra1_13 := cell_of_row _ _ 3 _ _ _ ra1_13
  have r4_ra1_13 := cell_of_row _ _ 4 _ _ _ ra1_13
  have f0_ra1_13 := frozen_of_row _ _ 0 _ _ ra1_13
  have f1_ra1_13 := frozen_of_row _ _ 1 _ _ ra1_13
  have f2_ra1_13 := frozen_of_row _ _ 2 _ _ ra1_13
  have f3_ra1_13 := frozen_of_row _ _ 3 _ _ ra1_13
  have f4_ra1_13 := frozen_of_row _ _ 4 _ _ ra1_13
  simp at r0_ra1_13 r1_ra1_13 r2_ra1_13 r3_ra1_13 r4_ra1_13
  clear ra1_13
  have Rb_13 := Lib.hid rb_13
  have r0_rb_13 := cell_of_row _ _ 0 _ _ _ rb_13
  have r1_rb_13 := cell_of_row _ _ 1 _ _ _ rb_13
  have r2_rb_13 := cell_of_row _ _ 2 _ _ _ rb_13
  have r3_rb_13 := cell_of_row _ _ 3 _ _ _ rb_13
  have r4_rb_13 := cell_of_row _ _ 4 _ _ _ rb_13
  have f0_rb_13 := frozen_of_row _ _ 0 _ _ rb_13
  have f1_rb_13 := frozen_of_row _ _ 1 _ _ rb_13
  have f2_rb_13 := frozen_of_row _ _ 2 _ _ rb_13
  have f3_rb_13 := frozen_of_row _ _ 3 _ _ rb_13
  have f4_rb_13 := frozen_of_row _ _ 4 _ _ rb_13
  simp at r0_rb_13 r1_rb_13 r2_rb_13 r3_rb_13 r4_rb_13
  clear rb_13
  have Rq_13 := Lib.hid rq_13
  have r0_rq_13 := cell_of_row _ _ 0 _ _ _ rq_13
  have r1_rq_13 := cell_of_row _ _ 1 _ _ _ rq_13
  have r2_rq_13 := cell_of_row _ _ 2 _ _ _ rq_13
  have r3_rq_13 := cell_of_row _ _ 3 _ _ _ rq_13
  have r4_rq_13 := cell_of_row _ _ 4 _ _ _ rq_13
  have f0_rq_13 := frozen_of_row _ _ 0 _ _ rq_13
  have f1_rq_13 := frozen_of_row _ _ 1 _ _ rq_13
  have f2_rq_13 := frozen_of_row _ _ 2 _ _ rq_13
  have f3_rq_13 := frozen_of_row _ _ 3 _ _ rq_13
  have f4_rq_13 := frozen_of_row _ _ 4 _ _ rq_13
  simp at r0_rq_13 r1_rq_13 r2_rq_13 r3_rq_13 r4_rq_13
  clear rq_13
  have Rg_13 := Lib.hid rg_13
  have r0_rg_13 := cell_of_row _ _ 0 _ _ _ rg_13
  have r1_rg_13 := cell_of_row _ _ 1 _ _ _ rg_13
  have r2_rg_13 := cell_of_row _ _ 2 _ _ _ rg_13
  have r3_rg_13 := cell_of_row _ _ 3 _ _ _ rg_13
  have r4_rg_13 := cell_of_row _ _ 4 _ _ _ rg_13
  have f0_rg_13 := frozen_of_row _ _ 0 _ _ rg_13
  have f1_rg_13 := frozen_of_row _ _ 1 _ _ rg_13
  have f2_rg_13 := frozen_of_row _ _ 2 _ _ rg_13
  have f3_rg_13 := frozen_of_row _ _ 3 _ _ rg_13
  have f4_rg_13 := frozen_of_row _ _ 4 _ _ rg_13
  simp at r0_rg_13 r1_rg_13 r2_rg_13 r3_rg_13 r4_rg_13
  clear rg_13
  clear r0_ra1_12 f0_ra1_12 r1_ra1_12 f1_ra1_12 r2_ra1_12 f2_ra1_12 r3_ra1_12 f3_ra1_12 r4_ra1_12 f4_ra1_12
  clear r0_rb_12 f0_rb_12 r1_rb_12 f1_rb_12 r2_rb_12 f2_rb_12 r3_rb_12 f3_rb_12 r4_rb_12 f4_rb_12
  clear r0_rq_12 f0_rq_12 r1_rq_12 f1_rq_12 r2_rq_12 f2_rq_12 r3_rq_12 f3_rq_12 r4_rq_12 f4_rq_12
  clear r0_rg_12 f0_rg_12 r1_rg_12 f1_rg_12 r2_rg_12 f2_rg_12 r3_rg_12 f3_rg_12 r4_rg_12 f4_rg_12
  go_wp2_with fail
  refine (eqReceiver_same r _ _ NR.out _ (Oh1_13.out.below (by repeat (first | with_reducible exact Below.refl _ _ | with_reducible assumption | with_reducible refine Below.drew ?_ | with_reducible refine Below.alloc ?_ (by first | exact Nat.le_refl _ | omega | (simp; done) | (simp; omega)) _ | with_reducible refine Below.setCell ?_ (by first | exact Nat.le_refl _ | omega | (simp; done) | (simp; omega)) _ | (with_reducible refine ext_trans ?_ (by with_reducible assumption))))).rd (Ob1_13.out.below (by repeat (first | with_reducible exact Below.refl _ _ | with_reducible assumption | with_reducible refine Below.drew ?_ | with_reducible refine Below.alloc ?_ (by first | exact Nat.le_refl _ | omega | (simp; done) | (simp; omega)) _ | with_reducible refine Below.setCell ?_ (by first | exact Nat.le_refl _ | omega | (simp; done) | (simp; omega)) _ | (with_reducible refine ext_trans ?_ (by with_reducible assumption))))).rd).mono ?_
  rintro e w14 ⟨rfl, hb14⟩
  have hz14 := hb14.size
  (try simp at hz14)
  have ra1_14 := (hb14.block _ (by first | omega | (simp; done) | (simp; omega))).trans ((Below.heap_alloc _ _ _ (by first | exact lRa1_13 | (simp; omega))).trans Ra1_13.out)
  have rb_14 := (hb14.block _ (by first | omega | (simp; done) | (simp; omega))).trans ((Below.heap_alloc _ _ _ (by first | exact lRb_13 | (simp; omega))).trans Rb_13.out)
  have rq_14 := (hb14.block _ (by first | omega | (simp; done) | (simp; omega))).trans ((Below.heap_alloc _ _ _ (by first | exact lRq_13 | (simp; omega))).trans Rq_13.out)
  have rg_14 := (hb14.block _ (by first | omega | (simp; done) | (simp; omega))).trans ((Below.heap_alloc _ _ _ (by first | exact lRg_13 | (simp; omega))).trans Rg_13.out)
  have rh_14 : w14.heap[w13.heap.size]? = some (.cells #[.int .i64 r.nx, .string r.d, .slice A13 r.hs.length c13, .int .i64 r.fin, .bool r.dn] 24 (0, 0)) := (hb14.block _ (by first | (simp; done) | (simp; omega))).trans (by repeat (first | exact heap_new _ _ _ (by first | rfl | (simp; done) | (simp; omega)) | refine (Below.heap_alloc _ _ _ (by first | omega | (simp; done) | (simp; omega))).trans ?_))
  have Ob1_14 := Lib.hid (Ob1_13.out.below (w' := w14) (by repeat (first | with_reducible exact Below.refl _ _ | with_reducible assumption | with_reducible refine Below.drew ?_ | with_reducible refine Below.alloc ?_ (by first | exact Nat.le_refl _ | omega | (simp; done) | (simp; omega)) _ | with_reducible refine Below.setCell ?_ (by first | exact Nat.le_refl _ | omega | (simp; done) | (simp; omega)) _ | (with_reducible refine ext_trans ?_ (by with_reducible assumption)))))
  have Og1_14 := Lib.hid (Og1_13.out.below (w' := w14) (by repeat (first | with_reducible exact Below.refl _ _ | with_reducible assumption | with_reducible refine Below.drew ?_ | with_reducible refine Below.alloc ?_ (by first | exact Nat.le_refl _ | omega | (simp; done) | (simp; omega)) _ | with_reducible refine Below.setCell ?_ (by first | exact Nat.le_refl _ | omega | (simp; done) | (simp; omega)) _ | (with_reducible refine ext_trans ?_ (by with_reducible assumption)))))
  have Oh1_14 := Lib.hid (Oh1_13.out.below (w' := w14) (by repeat (first | with_reducible exact Below.refl _ _ | with_reducible assumption | with_reducible refine Below.drew ?_ | with_reducible refine Below.alloc ?_ (by first | exact Nat.le_refl _ | omega | (simp; done) | (simp; omega)) _ | with_reducible refine Below.setCell ?_ (by first | exact Nat.le_refl _ | omega | (simp; done) | (simp; omega)) _ | (with_reducible refine ext_trans ?_ (by with_reducible assumption)))))
  have hw14 : Below w.heap.size w w14 := (by repeat (first | with_reducible exact Below.refl _ _ | with_reducible assumption | with_reducible refine Below.drew ?_ | with_reducible refine Below.alloc ?_ (by first | exact Nat.le_refl _ | omega | (simp; done) | (simp; omega)) _ | with_reducible refine Below.setCell ?_ (by first | exact Nat.le_refl _ | omega | (simp; done) | (simp; omega)) _ | (with_reducible refine ext_trans ?_ (by with_reducible assumption))))
  have lRa1_14 : w.heap.size < w14.heap.size := by omega
  have lRb_14 : w3.heap.size < w14.heap.size := by omega
  have lRq_14 : w4.heap.size < w14.heap.size := by omega
  have lRg_14 : w5.heap.size < w14.heap.size := by omega
  have lRh_14 : w13.heap.size < w14.heap.size := by omega
  have Ra1_14 := Lib.hid ra1_14
  have r0_ra1_14 := cell_of_row _ _ 0 _ _ _ ra1_14
  have r1_ra1_14 := cell_of_row _ _ 1 _ _ _ ra1_14
  have r2_ra1_14 := cell_of_row _ _ 2 _ _ _ ra1_14
  have r3_ra1_14 := cell_of_row _ _ 3 _ _ _ ra1_14
  have r4_ra1_14 := cell_of_row _ _ 4 _ _ _ ra1_14
  have f0_ra1_14 := frozen_of_row _ _ 0 _ _ ra1_14
  have f1_ra1_14 := frozen_of_row _ _ 1 _ _ ra1_14
  have f2_ra1_14 := frozen_of_row _ _ 2 _ _ ra1_14
  have f3_ra1_14 := frozen_of_row _ _ 3 _ _ ra1_14
  have f4_ra1_14 := frozen_of_row _ _ 4 _ _ ra1_14
  simp at r0_ra1_14 r1_ra1_14 r2_ra1_14 r3_ra1_14 r4_ra1_14
  clear ra1_14
  have Rb_14 := Lib.hid rb_14
  have r0_rb_14 := cell_of_row _ _ 0 _ _ _ rb_14
  have r1_rb_14 := cell_of_row _ _ 1 _ _ _ rb_14
  have r2_rb_14 := cell_of_row _ _ 2 _ _ _ rb_14
  have r3_rb_14 := cell_of_row _ _ 3 _ _ _ rb_14
  have r4_rb_14 := cell_of_row _ _ 4 _ _ _ rb_14
  have f0_rb_14 := frozen_of_row _ _ 0 _ _ rb_14
  have f1_rb_14 := frozen_of_row _ _ 1 _ _ rb_14
  have f2_rb_14 := frozen_of_row _ _ 2 _ _ rb_14
  have f3_rb_14 := frozen_of_row _ _ 3 _ _ rb_14
  have f4_rb_14 := frozen_of_row _ _ 4 _ _ rb_14
  simp at r0_rb_14 r1_rb_14 r2_rb_14 r3_rb_14 r4_rb_14
  clear rb_14
  have Rq_14 := Lib.hid rq_14
  have r0_rq_14 := cell_of_row _ _ 0 _ _ _ rq_14
  have r1_rq_14 := cell_of_row _ _ 1 _ _ _ rq_14
  have r2_rq_14 := cell_of_row _ _ 2 _ _ _ rq_14
  have r3_rq_14 := cell_of_row _ _ 3 _ _ _ rq_14
  have r4_rq_14 := cell_of_row _ _ 4 _ _ _ rq_14
  have f0_rq_14 := frozen_of_row _ _ 0 _ _ rq_14
  have f1_rq_14 := frozen_of_row _ _ 1 _ _ rq_14
  have f2_rq_14 := frozen_of_row _ _ 2 _ _ rq_14
  have f3_rq_14 := frozen_of_row _ _ 3 _ _ rq_14
  have f4_rq_14 := frozen_of_row _ _ 4 _ _ rq_14
  simp at r0_rq_14 r1_rq_14 r2_rq_14 r3_rq_14 r4_rq_14
  clear rq_14
  have Rg_14 := Lib.hid rg_14
  have r0_rg_14 := cell_of_row _ _ 0 _ _ _ rg_14
  have r1_rg_14 := cell_of_row _ _ 1 _ _ _ rg_14
  have r2_rg_14 := cell_of_row _ _ 2 _ _ _ rg_14
  have r3_rg_14 := cell_of_row _ _ 3 _ _ _ rg_14
  have r4_rg_14 := cell_of_row _ _ 4 _ _ _ rg_14
  have f0_rg_14 := frozen_of_row _ _ 0 _ _ rg_14
  have f1_rg_14 := frozen_of_row _ _ 1 _ _ rg_14
  have f2_rg_14 := frozen_of_row _ _ 2 _ _ rg_14
  have f3_rg_14 := frozen_of_row _ _ 3 _ _ rg_14
  have f4_rg_14 := frozen_of_row _ _ 4 _ _ rg_14
  simp at r0_rg_14 r1_rg_14 r2_rg_14 r3_rg_14 r4_rg_14
  clear rg_14
  have Rh_14 := Lib.hid rh_14
  have r0_rh_14 := cell_of_row _ _ 0 _ _ _ rh_14
  have r1_rh_14 := cell_of_row _ _ 1 _ _ _ rh_14
  have r2_rh_14 := cell_of_row _ _ 2 _ _ _ rh_14
  have r3_rh_14 := cell_of_row _ _ 3 _ _ _ rh_14
  have r4_rh_14 := cell_of_row _ _ 4 _ _ _ rh_14
  have f0_rh_14 := frozen_of_row _ _ 0 _ _ rh_14
  have f1_rh_14 := frozen_of_row _ _ 1 _ _ rh_14
  have f2_rh_14 := frozen_of_row _ _ 2 _ _ rh_14
  have f3_rh_14 := frozen_of_row _ _ 3 _ _ rh_14
  have f4_rh_14 := frozen_of_row _ _ 4 _ _ rh_14
  simp at r0_rh_14 r1_rh_14 r2_rh_14 r3_rh_14 r4_rh_14
  clear rh_14
  clear r0_ra1_13 f0_ra1_13 r1_ra1_13 f1_ra1_13 r2_ra1_13 f2_ra1_13 r3_ra1_13 f3_ra1_13 r4_ra1_13 f4_ra1_13
  clear r0_rb_13 f0_rb_13 r1_rb_13 f1_rb_13 r2_rb_13 f2_rb_13 r3_rb_13 f3_rb_13 r4_rb_13 f4_rb_13
  clear r0_rq_13 f0_rq_13 r1_rq_13 f1_rq_13 r2_rq_13 f2_rq_13 r3_rq_13 f3_rq_13 r4_rq_13 f4_rq_13
  clear r0_rg_13 f0_rg_13 r1_rg_13 f1_rg_13 r2_rg_13 f2_rg_13 r3_rg_13 f3_rg_13 r4_rg_13 f4_rg_13
  go_wp2_with fail
  refine (heldReceiver_any r _ r.hs.length MR.out 1 (by omega) (by omega) _ (marked_rdPiece Og1_14.out)).mono ?_
  rintro e w15 ⟨rfl, hb15⟩
  have hz15 := hb15.size
  (try simp at hz15)
  have ra1_15 := (hb15.block _ (by first | omega | (simp; done) | (simp; omega))).trans Ra1_14.out
  have rb_15 := (hb15.block _ (by first | omega | (simp; done) | (simp; omega))).trans Rb_14.out
  have rq_15 := (hb15.block _ (by first | omega | (simp; done) | (simp; omega))).trans Rq_14.out
  have rg_15 := (hb15.block _ (by first | omega | (simp; done) | (simp; omega))).trans Rg_14.out
  have rh_15 := (hb15.block _ (by first | omega | (simp; done) | (simp; omega))).trans Rh_14.out
  have Og1_15 := Lib.hid (Og1_14.out.below (w' := w15) (by repeat (first | with_reducible exact Below.refl _ _ | with_reducible assumption | with_reducible refine Below.drew ?_ | with_reducible refine Below.alloc ?_ (by first | exact Nat.le_refl _ | omega | (simp; done) | (simp; omega)) _ | with_reducible refine Below.setCell ?_ (by first | exact Nat.le_refl _ | omega | (simp; done) | (simp; omega)) _ | (with_reducible refine ext_trans ?_ (by with_reducible assumption)))))
  have hw15 : Below w.heap.size w w15 := (by repeat (first | with_reducible exact Below.refl _ _ | with_reducible assumption | with_reducible refine Below.drew ?_ | with_reducible refine Below.alloc ?_ (by first | exact Nat.le_refl _ | omega | (simp; done) | (simp; omega)) _ | with_reducible refine Below.setCell ?_ (by first | exact Nat.le_refl _ | omega | (simp; done) | (simp; omega)) _ | (with_reducible refine ext_trans ?_ (by with_reducible assumption))))
  have lRa1_15 : w.heap.size < w15.heap.size := by omega
  have lRb_15 : w3.heap.size < w15.heap.size := by omega
  have lRq_15 : w4.heap.size < w15.heap.size := by omega
  have lRg_15 : w5.heap.size < w15.heap.size := by omega
  have lRh_15 : w13.heap.size < w15.heap.size := by omega
  have Ra1_15 := Lib.hid ra1_15
  have r0_ra1_15 := cell_of_row _ _ 0 _ _ _ ra1_15
  have r1_ra1_15 := cell_of_row _ _ 1 _ _ _ ra1_15
  have r2_ra1_15 := cell_of_row _ _ 2 _ _ _ ra1_15
  have r3_ra1_15 := cell_of_row _ _ 3 _ _ _ ra1_15
  have r4_ra1_15 := cell_of_row _ _ 4 _ _ _ ra1_15
  have f0_ra1_15 := frozen_of_row _ _ 0 _ _ ra1_15
  have f1_ra1_15 := frozen_of_row _ _ 1 _ _ ra1_15
  have f2_ra1_15 := frozen_of_row _ _ 2 _ _ ra1_15
  have f3_ra1_15 := frozen_of_row _ _ 3 _ _ ra1_15
  have f4_ra1_15 := frozen_of_row _ _ 4 _ _ ra1_15
  simp at r0_ra1_15 r1_ra1_15 r2_ra1_15 r3_ra1_15 r4_ra1_15
  clear ra1_15
  have Rb_15 := Lib.hid rb_15
  have r0_rb_15 := cell_of_row _ _ 0 _ _ _ rb_15
  have r1_rb_15 := cell_of_row _ _ 1 _ _ _ rb_15
  have r2_rb_15 := cell_of_row _ _ 2 _ _ _ rb_15
  have r3_rb_15 := cell_of_row _ _ 3 _ _ _ rb_15
  have r4_rb_15 := cell_of_row _ _ 4 _ _ _ rb_15
  have f0_rb_15 := frozen_of_row _ _ 0 _ _ rb_15
  have f1_rb_15 := frozen_of_row _ _ 1 _ _ rb_15
  have f2_rb_15 := frozen_of_row _ _ 2 _ _ rb_15
  have f3_rb_15 := frozen_of_row _ _ 3 _ _ rb_15
  have f4_rb_15 := frozen_of_row _ _ 4 _ _ rb_15
  simp at r0_rb_15 r1_rb_15 r2_rb_15 r3_rb_15 r4_rb_15
  clear rb_15
  have Rq_15 := Lib.hid rq_15
  have r0_rq_15 := cell_of_row _ _ 0 _ _ _ rq_15
  have r1_rq_15 := cell_of_row _ _ 1 _ _ _ rq_15
  have r2_rq_15 := cell_of_row _ _ 2 _ _ _ rq_15
  have r3_rq_15 := cell_of_row _ _ 3 _ _ _ rq_15
  have r4_rq_15 := cell_of_row _ _ 4 _ _ _ rq_15
  have f0_rq_15 := frozen_of_row _ _ 0 _ _ rq_15
  have f1_rq_15 := frozen_of_row _ _ 1 _ _ rq_15
  have f2_rq_15 := frozen_of_row _ _ 2 _ _ rq_15
  have f3_rq_15 := frozen_of_row _ _ 3 _ _ rq_15
  have f4_rq_15 := frozen_of_row _ _ 4 _ _ rq_15
  simp at r0_rq_15 r1_rq_15 r2_rq_15 r3_rq_15 r4_rq_15
  clear rq_15
  have Rg_15 := Lib.hid rg_15
  have r0_rg_15 := cell_of_row _ _ 0 _ _ _ rg_15
  have r1_rg_15 := cell_of_row _ _ 1 _ _ _ rg_15
  have r2_rg_15 := cell_of_row _ _ 2 _ _ _ rg_15
  have r3_rg_15 := cell_of_row _ _ 3 _ _ _ rg_15
  have r4_rg_15 := cell_of_row _ _ 4 _ _ _ rg_15
  have f0_rg_15 := frozen_of_row _ _ 0 _ _ rg_15
  have f1_rg_15 := frozen_of_row _ _ 1 _ _ rg_15
  have f2_rg_15 := frozen_of_row _ _ 2 _ _ rg_15
  have f3_rg_15 := frozen_of_row _ _ 3 _ _ rg_15
  have f4_rg_15 := frozen_of_row _ _ 4 _ _ rg_15
  simp at r0_rg_15 r1_rg_15 r2_rg_15 r3_rg_15 r4_rg_15
  clear rg_15
  have Rh_15 := Lib.hid rh_15
  have r0_rh_15 := cell_of_row _ _ 0 _ _ _ rh_15
  have r1_rh_15 := cell_of_row _ _ 1 _ _ _ rh_15
  have r2_rh_15 := cell_of_row _ _ 2 _ _ _ rh_15
  have r3_rh_15 := cell_of_row _ _ 3 _ _ _ rh_15
  have r4_rh_15 := cell_of_row _ _ 4 _ _ _ rh_15
  have f0_rh_15 := frozen_of_row _ _ 0 _ _ rh_15
  have f1_rh_15 := frozen_of_row _ _ 1 _ _ rh_15
  have f2_rh_15 := frozen_of_row _ _ 2 _ _ rh_15
  have f3_rh_15 := frozen_of_row _ _ 3 _ _ rh_15
  have f4_rh_15 := frozen_of_row _ _ 4 _ _ rh_15
  simp at r0_rh_15 r1_rh_15 r2_rh_15 r3_rh_15 r4_rh_15
  clear rh_15
  clear r0_ra1_14 f0_ra1_14 r1_ra1_14 f1_ra1_14 r2_ra1_14 f2_ra1_14 r3_ra1_14 f3_ra1_14 r4_ra1_14 f4_ra1_14
  clear r0_rb_14 f0_rb_14 r1_rb_14 f1_rb_14 r2_rb_14 f2_rb_14 r3_rb_14 f3_rb_14 r4_rb_14 f4_rb_14
  clear r0_rq_14 f0_rq_14 r1_rq_14 f1_rq_14 r2_rq_14 f2_rq_14 r3_rq_14 f3_rq_14 r4_rq_14 f4_rq_14
  clear r0_rg_14 f0_rg_14 r1_rg_14 f1_rg_14 r2_rg_14 f2_rg_14 r3_rg_14 f3_rg_14 r4_rg_14 f4_rg_14
  clear r0_rh_14 f0_rh_14 r1_rh_14 f1_rh_14 r2_rh_14 f2_rh_14 r3_rh_14 f3_rh_14 r4_rh_14 f4_rh_14
  go_wp2_with fail
  go_ret
  exact ⟨rfl, hw15⟩

set_option maxRecDepth 100000 in
theorem FnExactTakenIn_lifted (os : Os) (started : os.Started) (H : Type) (enc : TypeId × Value → H) :
    ReturnsInHanded {} Try.checked os 7 .any (Rows.fnExactTakenInSpec.pre6 enc Try.prog Try.f7 Rows.fnExactTakenInRow.domain false) (Rows.fnExactTakenInSpec.post enc Try.prog Try.f7 false true false false) := by
  refine law_lifted (C := Try.checked) own_ started (by kernel_rfl) Try.func7 laid_ rfl ?_ ?_ rfl Try.underlying4
    (ChangeSpec.witness6 (enc := enc) (C := Try.checked) false ⟨#[], #[.agg #[.int .i64 0, .string ⟨#[]⟩, .slice none 0 0, .int .i64 0, .bool false], .int .i64 0], []⟩ 8 (by kernel_rfl) (by kernel_rfl) (by kernel_rfl) (by kernel_rfl)) ?_
  · intro ds h
    match ds, h with
    | [_, _], _ => rfl
  · intro t ht
    rw [Try.params7] at ht
    simp at ht
    rcases ht with rfl | rfl
    all_goals exact ⟨by kernel_rfl, of_decide_eq_true (by kernel_rfl)⟩
  · intro W base args ds p hval hA hlt
    have hval : ∀ (j : Nat) t v, Try.f7.params[j]? = some t → args[j]? = some v → Value.okWide Try.prog W .any base t v := hval
    have hA : DataW.TrodAll enc Try.prog W 0 (fun _ => true) true Try.f7.params.toList args.toList ds p := hA
    rw [Try.params7] at hA hval
    obtain ⟨v0, v1, d0, d1, p0, p1, rfl, rfl, rfl, h0, h1⟩ := trodAll_two hA
    obtain ⟨a0, a1, a2, a3, a4, rfl, wa0, wa1, ⟨ka, ya, ta⟩, wa3⟩ := open_Receiver (hval 0 31 v0 rfl rfl) h0
    obtain ⟨la, ra, fa, na⟩ := open_rowsPiece ta
    obtain ⟨n, rfl, rfl, rfl, wn⟩ := open_int Try.underlying3 (hval 1 3 v1 rfl rfl) h1
    exact (FnExactTakenIn_walk ⟨a0, a1, la, a3, a4⟩ a2 n (bd_i64 wn).1 (bd_i64 wn).2 W ra ⟨fa.fit, wa1⟩ na (fun p hp => bd_i64 (fa p hp).1))

theorem FnExactTakenIn_holds : Rows.FnExactTakenInSaid :=
  OpenClaim.holds_of_wide 7 Try.f7 rfl rfl rfl rfl rfl rfl rfl ⟨rfl, rfl, rfl, rfl, rfl⟩ rfl rfl rfl rfl rfl (by kernel_rfl) Try.func7 (by kernel_rfl)
    (of_decide_eq_true (by kernel_rfl)) (by have hw := wrap_ (P := Try.prog) (fn := Try.f7) (by kernel_rfl); exact hw)
    (fun os started H enc _ => FnExactTakenIn_lifted os started H enc)
end Go.Proofs.Ytgejnppfodpiiaa
