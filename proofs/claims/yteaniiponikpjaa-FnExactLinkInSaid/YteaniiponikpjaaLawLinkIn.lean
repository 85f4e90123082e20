/-
  The law FnExactLinkIn returns true for every input. No condition.
-/
import Derived.Test.YteaniiponikpjaaLnf
import Derived.Test.YteaniiponikpjaaOpnEntry
namespace Go.Proofs.Yteaniiponikpjaa
set_option maxRecDepth 100000
open Go.ChangeShapes Go.WideShapes Go.ChangeAt Go.RowKit

set_option maxHeartbeats 4000000 in
theorem FnExactLinkIn_walk (x1 : RLnk) (v11 : Value) (s : ByteArray) (hbody : s.size ≤ maxLen) (w : World) (h11 : RdEntry w v11 x1.ca) (f11 : FitRLnk x1) (n11 : x1.ca.length ≤ maxLen) :
    Calls Try.prog 12 #[vL x1 v11, .string s] w fun e w' => e = .returned (.bool true) ∧ Below w.heap.size w w' := by
  obtain ⟨A11, c11, rfl, -⟩ := id h11
  have H11 := Lib.hid h11
  have F11 := Lib.hid f11
  have N11 := Lib.hid n11
  clear h11 f11 n11
  have hbody2 := hbody
  unfold maxLen at hbody2
  by_cases hbig : (1048576 : Int) < (s.size : Int)
  case pos =>
    go_enter Try.func12, Try.ntmps12
    go_wp2_with fail
    go_ret
    exact ⟨rfl, (by repeat (first | with_reducible exact Below.refl _ _ | with_reducible assumption | with_reducible refine Below.drew ?_ | with_reducible refine Below.alloc ?_ (by first | exact Nat.le_refl _ | omega | (simp; done) | (simp; omega)) _ | with_reducible refine Below.setCell ?_ (by first | exact Nat.le_refl _ | omega | (simp; done) | (simp; omega)) _ | (with_reducible refine ext_trans ?_ (by with_reducible assumption))))⟩
  have hz : s.size ≤ 1048576 := by omega
  go_enter Try.func12, Try.ntmps12
  go_wp2_with fail
  refine (szLink_any x1 _ F11.out N11.out 1048576 (by omega) (by omega) _ (H11.out.below (by repeat (first | with_reducible exact Below.refl _ _ | with_reducible assumption | with_reducible refine Below.drew ?_ | with_reducible refine Below.alloc ?_ (by first | exact Nat.le_refl _ | omega | (simp; done) | (simp; omega)) _ | with_reducible refine Below.setCell ?_ (by first | exact Nat.le_refl _ | omega | (simp; done) | (simp; omega)) _ | (with_reducible refine ext_trans ?_ (by with_reducible assumption)))))).mono ?_
  rintro e w1 ⟨y1, rfl, ⟨hy1a, hy1b⟩, hs1, hb1⟩
  have hz1 := hb1.size
  (try simp at hz1)
  have ra1_1 : w1.heap[w.heap.size]? = some (.cells #[.int .i64 x1.mac, .int .i64 x1.ip, .slice A11 x1.ca.length c11] 33 (0, 0)) := (hb1.block _ (by first | (simp; done) | (simp; omega))).trans (by repeat (first | exact heap_new _ _ _ (by first | rfl | (simp; done) | (simp; omega)) | refine (Below.heap_alloc _ _ _ (by first | omega | (simp; done) | (simp; omega))).trans ?_))
  have hw1 : Below w.heap.size w w1 := (by repeat (first | with_reducible exact Below.refl _ _ | with_reducible assumption | with_reducible refine Below.drew ?_ | with_reducible refine Below.alloc ?_ (by first | exact Nat.le_refl _ | omega | (simp; done) | (simp; omega)) _ | with_reducible refine Below.setCell ?_ (by first | exact Nat.le_refl _ | omega | (simp; done) | (simp; omega)) _ | (with_reducible refine ext_trans ?_ (by with_reducible assumption))))
  have lRa1_1 : w.heap.size < w1.heap.size := by omega
  have Ra1_1 := Lib.hid ra1_1
  have r0_ra1_1 := cell_of_row _ _ 0 _ _ _ ra1_1
  have r1_ra1_1 := cell_of_row _ _ 1 _ _ _ ra1_1
  have r2_ra1_1 := cell_of_row _ _ 2 _ _ _ ra1_1
  have f0_ra1_1 := frozen_of_row _ _ 0 _ _ ra1_1
  have f1_ra1_1 := frozen_of_row _ _ 1 _ _ ra1_1
  have f2_ra1_1 := frozen_of_row _ _ 2 _ _ ra1_1
  simp at r0_ra1_1 r1_ra1_1 r2_ra1_1
  clear ra1_1
  by_cases hx1 : y1 < 0
  · go_wp2_with fail
    go_ret
    exact ⟨rfl, (by repeat (first | with_reducible exact Below.refl _ _ | with_reducible assumption | with_reducible refine Below.drew ?_ | with_reducible refine Below.alloc ?_ (by first | exact Nat.le_refl _ | omega | (simp; done) | (simp; omega)) _ | with_reducible refine Below.setCell ?_ (by first | exact Nat.le_refl _ | omega | (simp; done) | (simp; omega)) _ | (with_reducible refine ext_trans ?_ (by with_reducible assumption))))⟩
  have M11 : Hid (x1.ca.length ≤ 1048576) := (by have := hs1.out (by omega); omega : x1.ca.length ≤ 1048576)
  obtain ⟨f1, f2, f3, f4, hf, h4z⟩ := frR_form s hz
  obtain ⟨k1, k2, k3, k4, k5, hk⟩ := arR_form f4
  obtain ⟨p1, p2, p3, p4, p5, p6, hp⟩ := pkR_form f4
  have hss := fun W v h => sLinkIn_any x1 v s hz M11.out W h f1 f2 f3 f4 _ hf rfl h4z k1 k2 k3 k4 k5 _ hk rfl p1 p2 p3 p4 p5 p6 _ hp rfl
  have hii := fun W v h => LinkIn_any x1 v s hz M11.out W h f1 f2 f3 f4 _ hf rfl h4z k1 k2 k3 k4 k5 _ hk rfl p1 p2 p3 p4 p5 p6 _ hp rfl
  have hlen := linkRF_len (x := x1) (B := okFr s) (BA := okAr f4) (f1 := f1) (f2 := f2) (f3 := f3) (k1 := k1) (k2 := k2) (k3 := k3) (k5 := k5) (pc := pkC f4) (p1 := p1) (p2 := p2) (p4 := p4) (pk := .agg #[.int .i64 p1, .int .i64 p2, .int .i64 p3, .int .i64 p4, .int .i64 p5, .string p6]) M11.out
  have hpk := linkRF_pk (x := x1) (B := okFr s) (BA := okAr f4) (f1 := f1) (f2 := f2) (f3 := f3) (k1 := k1) (k2 := k2) (k3 := k3) (k5 := k5) (pc := pkC f4) (p1 := p1) (p2 := p2) (p4 := p4) (pk := .agg #[.int .i64 p1, .int .i64 p2, .int .i64 p3, .int .i64 p4, .int .i64 p5, .string p6]) ⟨_, _, _, _, _, _, rfl⟩
  obtain ⟨R, hR⟩ : ∃ R, linkRF x1 (okFr s) f1 f2 f3 (okAr f4) k1 k2 k3 k5 (pkC f4) p1 p2 p4 (.agg #[.int .i64 p1, .int .i64 p2, .int .i64 p3, .int .i64 p4, .int .i64 p5, .string p6]) = R := ⟨_, rfl⟩
  rw [hR] at hss hii hlen hpk
  clear hR hf hk hp h4z
  obtain ⟨r, kd, pk, tx⟩ := R
  dsimp only at hlen hpk
  obtain ⟨b1, b2, b3, b4, b5, b6, rfl⟩ := hpk
  have MR := Lib.hid hlen
  have NR : Hid (r.length ≤ maxLen) := (by unfold maxLen; omega : r.length ≤ maxLen)
  have HS : Hid (∀ W v, RdEntry W v x1.ca → Calls Try.prog 43 #[vL x1 v, .string s] W fun e w' => ∃ v, e = .returned (.tuple #[.agg #[.int .i64 x1.mac, .int .i64 x1.ip, v], .int .i64 kd, .agg #[.int .i64 b1, .int .i64 b2, .int .i64 b3, .int .i64 b4, .int .i64 b5, .string b6], .string tx]) ∧ OwnEntry w' W.heap.size v r ∧ Below W.heap.size W w') := hss
  have HI : Hid (∀ W v, RdEntry W v x1.ca → Calls Try.prog 42 #[vL x1 v, .string s] W fun e w' => ∃ v, e = .returned (.tuple #[.agg #[.int .i64 x1.mac, .int .i64 x1.ip, v], .int .i64 kd, .agg #[.int .i64 b1, .int .i64 b2, .int .i64 b3, .int .i64 b4, .int .i64 b5, .string b6], .string tx]) ∧ OwnEntry w' W.heap.size v r ∧ Below W.heap.size W w') := hii
  clear hss hii hlen
  go_wp2_with fail
  refine (toLink_any x1 _ M11.out _ (H11.out.below (by repeat (first | with_reducible exact Below.refl _ _ | with_reducible assumption | with_reducible refine Below.drew ?_ | with_reducible refine Below.alloc ?_ (by first | exact Nat.le_refl _ | omega | (simp; done) | (simp; omega)) _ | with_reducible refine Below.setCell ?_ (by first | exact Nat.le_refl _ | omega | (simp; done) | (simp; omega)) _ | (with_reducible refine ext_trans ?_ (by with_reducible assumption)))))).mono ?_
  rintro e w2 ⟨u21, rfl, hO21, hb2⟩
  obtain ⟨A21, c21, rfl⟩ := hO21.form
  have Op1_2 := Lib.hid (OwnE.mono (base' := w1.heap.size) hO21 (by first | exact Nat.le_refl _ | (simp; done) | (simp; omega)))
  have Bp1 := Op1_2
  have hz2 := hb2.size
  (try simp at hz2)
  have ra1_2 := (hb2.block _ (by first | omega | (simp; done) | (simp; omega))).trans Ra1_1.out
  have hw2 : Below w.heap.size w w2 := (by repeat (first | with_reducible exact Below.refl _ _ | with_reducible assumption | with_reducible refine Below.drew ?_ | with_reducible refine Below.alloc ?_ (by first | exact Nat.le_refl _ | omega | (simp; done) | (simp; omega)) _ | with_reducible refine Below.setCell ?_ (by first | exact Nat.le_refl _ | omega | (simp; done) | (simp; omega)) _ | (with_reducible refine ext_trans ?_ (by with_reducible assumption))))
  have lRa1_2 : w.heap.size < w2.heap.size := by omega
  have Ra1_2 := Lib.hid ra1_2
  have r0_ra1_2 := cell_of_row _ _ 0 _ _ _ ra1_2
  have r1_ra1_2 := cell_of_row _ _ 1 _ _ _ ra1_2
  have r2_ra1_2 := cell_of_row _ _ 2 _ _ _ ra1_2
  have f0_ra1_2 := frozen_of_row _ _ 0 _ _ ra1_2
  have f1_ra1_2 := frozen_of_row _ _ 1 _ _ ra1_2
  have f2_ra1_2 := frozen_of_row _ _ 2 _ _ ra1_2
  simp at r0_ra1_2 r1_ra1_2 r2_ra1_2
  clear ra1_2
  clear r0_ra1_1 f0_ra1_1 r1_ra1_1 f1_ra1_1 r2_ra1_1 f2_ra1_1
  go_wp2_with fail
  refine (HS.out _ _ Op1_2.out.rd).mono ?_
  rintro e w3 ⟨v3, rfl, hO31, hb3⟩
  obtain ⟨A3, c3, rfl⟩ := hO31.form
  have Ob1_3 := Lib.hid (OwnE.mono (base' := w2.heap.size) hO31 (by first | exact Nat.le_refl _ | (simp; done) | (simp; omega)))
  have Bb1 := Ob1_3
  have hz3 := hb3.size
  (try simp at hz3)
  have ra1_3 := (hb3.block _ (by first | omega | (simp; done) | (simp; omega))).trans Ra1_2.out
  have Op1_3 := Lib.hid (Op1_2.out.below (w' := w3) (by repeat (first | with_reducible exact Below.refl _ _ | with_reducible assumption | with_reducible refine Below.drew ?_ | with_reducible refine Below.alloc ?_ (by first | exact Nat.le_refl _ | omega | (simp; done) | (simp; omega)) _ | with_reducible refine Below.setCell ?_ (by first | exact Nat.le_refl _ | omega | (simp; done) | (simp; omega)) _ | (with_reducible refine ext_trans ?_ (by with_reducible assumption)))))
  have hw3 : Below w.heap.size w w3 := (by repeat (first | with_reducible exact Below.refl _ _ | with_reducible assumption | with_reducible refine Below.drew ?_ | with_reducible refine Below.alloc ?_ (by first | exact Nat.le_refl _ | omega | (simp; done) | (simp; omega)) _ | with_reducible refine Below.setCell ?_ (by first | exact Nat.le_refl _ | omega | (simp; done) | (simp; omega)) _ | (with_reducible refine ext_trans ?_ (by with_reducible assumption))))
  have lRa1_3 : w.heap.size < w3.heap.size := by omega
  have Ra1_3 := Lib.hid ra1_3
  have r0_ra1_3 := cell_of_row _ _ 0 _ _ _ ra1_3
  have r1_ra1_3 := cell_of_row _ _ 1 _ _ _ ra1_3
  have r2_ra1_3 := cell_of_row _ _ 2 _ _ _ ra1_3
  have f0_ra1_3 := frozen_of_row _ _ 0 _ _ ra1_3
  have f1_ra1_3 := frozen_of_row _ _ 1 _ _ ra1_3
  have f2_ra1_3 := frozen_of_row _ _ 2 _ _ ra1_3
  simp at r0_ra1_3 r1_ra1_3 r2_ra1_3
  clear ra1_3
  clear r0_ra1_2 f0_ra1_2 r1_ra1_2 f1_ra1_2 r2_ra1_2 f2_ra1_2
  go_wp2_with fail
  refine (toLink_any x1 _ M11.out _ (H11.out.below (by repeat (first | with_reducible exact Below.refl _ _ | with_reducible assumption | with_reducible refine Below.drew ?_ | with_reducible refine Below.alloc ?_ (by first | exact Nat.le_refl _ | omega | (simp; done) | (simp; omega)) _ | with_reducible refine Below.setCell ?_ (by first | exact Nat.le_refl _ | omega | (simp; done) | (simp; omega)) _ | (with_reducible refine ext_trans ?_ (by with_reducible assumption)))))).mono ?_
  rintro e w4 ⟨u41, rfl, hO41, hb4⟩
  obtain ⟨A41, c41, rfl⟩ := hO41.form
  have Oq1_4 := Lib.hid (OwnE.mono (base' := w3.heap.size + 2) hO41 (by first | exact Nat.le_refl _ | (simp; done) | (simp; omega)))
  have Bq1 := Oq1_4
  have hz4 := hb4.size
  (try simp at hz4)
  have ra1_4 := (hb4.block _ (by first | omega | (simp; done) | (simp; omega))).trans ((Below.heap_alloc _ _ _ (by first | exact lRa1_3 | (simp; omega))).trans ((Below.heap_alloc _ _ _ (by first | exact lRa1_3 | (simp; omega))).trans Ra1_3.out))
  have rb_4 : w4.heap[w3.heap.size]? = some (.cells #[.int .i64 x1.mac, .int .i64 x1.ip, .slice A3 r.length c3] 37 (0, 0)) := (hb4.block _ (by first | (simp; done) | (simp; omega))).trans (by repeat (first | exact heap_new _ _ _ (by first | rfl | (simp; done) | (simp; omega)) | refine (Below.heap_alloc _ _ _ (by first | omega | (simp; done) | (simp; omega))).trans ?_))
  have rbk_4 : w4.heap[w3.heap.size + 1]? = some (.cells #[.int .i64 b1, .int .i64 b2, .int .i64 b3, .int .i64 b4, .int .i64 b5, .string b6] 58 (0, 0)) := (hb4.block _ (by first | (simp; done) | (simp; omega))).trans (by repeat (first | exact heap_new _ _ _ (by first | rfl | (simp; done) | (simp; omega)) | refine (Below.heap_alloc _ _ _ (by first | omega | (simp; done) | (simp; omega))).trans ?_))
  have Ob1_4 := Lib.hid (Ob1_3.out.below (w' := w4) (by repeat (first | with_reducible exact Below.refl _ _ | with_reducible assumption | with_reducible refine Below.drew ?_ | with_reducible refine Below.alloc ?_ (by first | exact Nat.le_refl _ | omega | (simp; done) | (simp; omega)) _ | with_reducible refine Below.setCell ?_ (by first | exact Nat.le_refl _ | omega | (simp; done) | (simp; omega)) _ | (with_reducible refine ext_trans ?_ (by with_reducible assumption)))))
  have hw4 : Below w.heap.size w w4 := (by repeat (first | with_reducible exact Below.refl _ _ | with_reducible assumption | with_reducible refine Below.drew ?_ | with_reducible refine Below.alloc ?_ (by first | exact Nat.le_refl _ | omega | (simp; done) | (simp; omega)) _ | with_reducible refine Below.setCell ?_ (by first | exact Nat.le_refl _ | omega | (simp; done) | (simp; omega)) _ | (with_reducible refine ext_trans ?_ (by with_reducible assumption))))
  have lRa1_4 : w.heap.size < w4.heap.size := by omega
  have lRb_4 : w3.heap.size < w4.heap.size := by omega
  have lRbk_4 : w3.heap.size + 1 < w4.heap.size := by omega
  have Ra1_4 := Lib.hid ra1_4
  have r0_ra1_4 := cell_of_row _ _ 0 _ _ _ ra1_4
  have r1_ra1_4 := cell_of_row _ _ 1 _ _ _ ra1_4
  have r2_ra1_4 := cell_of_row _ _ 2 _ _ _ ra1_4
  have f0_ra1_4 := frozen_of_row _ _ 0 _ _ ra1_4
  have f1_ra1_4 := frozen_of_row _ _ 1 _ _ ra1_4
  have f2_ra1_4 := frozen_of_row _ _ 2 _ _ ra1_4
  simp at r0_ra1_4 r1_ra1_4 r2_ra1_4
  clear ra1_4
  have Rb_4 := Lib.hid rb_4
  have r0_rb_4 := cell_of_row _ _ 0 _ _ _ rb_4
  have r1_rb_4 := cell_of_row _ _ 1 _ _ _ rb_4
  have r2_rb_4 := cell_of_row _ _ 2 _ _ _ rb_4
  have f0_rb_4 := frozen_of_row _ _ 0 _ _ rb_4
  have f1_rb_4 := frozen_of_row _ _ 1 _ _ rb_4
  have f2_rb_4 := frozen_of_row _ _ 2 _ _ rb_4
  simp at r0_rb_4 r1_rb_4 r2_rb_4
  clear rb_4
  have Rbk_4 := Lib.hid rbk_4
  have r0_rbk_4 := cell_of_row _ _ 0 _ _ _ rbk_4
  have r1_rbk_4 := cell_of_row _ _ 1 _ _ _ rbk_4
  have r2_rbk_4 := cell_of_row _ _ 2 _ _ _ rbk_4
  have r3_rbk_4 := cell_of_row _ _ 3 _ _ _ rbk_4
  have r4_rbk_4 := cell_of_row _ _ 4 _ _ _ rbk_4
  have r5_rbk_4 := cell_of_row _ _ 5 _ _ _ rbk_4
  have f0_rbk_4 := frozen_of_row _ _ 0 _ _ rbk_4
  have f1_rbk_4 := frozen_of_row _ _ 1 _ _ rbk_4
  have f2_rbk_4 := frozen_of_row _ _ 2 _ _ rbk_4
  have f3_rbk_4 := frozen_of_row _ _ 3 _ _ rbk_4
  have f4_rbk_4 := frozen_of_row _ _ 4 _ _ rbk_4
  have f5_rbk_4 := frozen_of_row _ _ 5 _ _ rbk_4
  simp at r0_rbk_4 r1_rbk_4 r2_rbk_4 r3_rbk_4 r4_rbk_4 r5_rbk_4
  clear rbk_4
  clear r0_ra1_3 f0_ra1_3 r1_ra1_3 f1_ra1_3 r2_ra1_3 f2_ra1_3
  go_wp2_with fail
  refine (HI.out _ _ (Oq1_4.out.below (by repeat (first | with_reducible exact Below.refl _ _ | with_reducible assumption | with_reducible refine Below.drew ?_ | with_reducible refine Below.alloc ?_ (by first | exact Nat.le_refl _ | omega | (simp; done) | (simp; omega)) _ | with_reducible refine Below.setCell ?_ (by first | exact Nat.le_refl _ | omega | (simp; done) | (simp; omega)) _ | (with_reducible refine ext_trans ?_ (by with_reducible assumption))))).rd).mono ?_
  rintro e w5 ⟨v5, rfl, hO51, hb5⟩
  obtain ⟨A5, c5, rfl⟩ := hO51.form
  have Og1_5 := Lib.hid (OwnE.mono (base' := w4.heap.size + 1) hO51 (by first | exact Nat.le_refl _ | (simp; done) | (simp; omega)))
  have Bg1 := Og1_5
  have hz5 := hb5.size
  (try simp at hz5)
  have ra1_5 := (hb5.block _ (by first | omega | (simp; done) | (simp; omega))).trans ((Below.heap_alloc _ _ _ (by first | exact lRa1_4 | (simp; omega))).trans Ra1_4.out)
  have rb_5 := (hb5.block _ (by first | omega | (simp; done) | (simp; omega))).trans ((Below.heap_alloc _ _ _ (by first | exact lRb_4 | (simp; omega))).trans Rb_4.out)
  have rbk_5 := (hb5.block _ (by first | omega | (simp; done) | (simp; omega))).trans ((Below.heap_alloc _ _ _ (by first | exact lRbk_4 | (simp; omega))).trans Rbk_4.out)
  have rq_5 : w5.heap[w4.heap.size]? = some (.cells #[.int .i64 x1.mac, .int .i64 x1.ip, .slice A41 x1.ca.length c41] 37 (0, 0)) := (hb5.block _ (by first | (simp; done) | (simp; omega))).trans (by repeat (first | exact heap_new _ _ _ (by first | rfl | (simp; done) | (simp; omega)) | refine (Below.heap_alloc _ _ _ (by first | omega | (simp; done) | (simp; omega))).trans ?_))
  have Ob1_5 := Lib.hid (Ob1_4.out.below (w' := w5) (by repeat (first | with_reducible exact Below.refl _ _ | with_reducible assumption | with_reducible refine Below.drew ?_ | with_reducible refine Below.alloc ?_ (by first | exact Nat.le_refl _ | omega | (simp; done) | (simp; omega)) _ | with_reducible refine Below.setCell ?_ (by first | exact Nat.le_refl _ | omega | (simp; done) | (simp; omega)) _ | (with_reducible refine ext_trans ?_ (by with_reducible assumption)))))
  have Oq1_5 := Lib.hid (Oq1_4.out.below (w' := w5) (by repeat (first | with_reducible exact Below.refl _ _ | with_reducible assumption | with_reducible refine Below.drew ?_ | with_reducible refine Below.alloc ?_ (by first | exact Nat.le_refl _ | omega | (simp; done) | (simp; omega)) _ | with_reducible refine Below.setCell ?_ (by first | exact Nat.le_refl _ | omega | (simp; done) | (simp; omega)) _ | (with_reducible refine ext_trans ?_ (by with_reducible assumption)))))
  have hw5 : Below w.heap.size w w5 := (by repeat (first | with_reducible exact Below.refl _ _ | with_reducible assumption | with_reducible refine Below.drew ?_ | with_reducible refine Below.alloc ?_ (by first | exact Nat.le_refl _ | omega | (simp; done) | (simp; omega)) _ | with_reducible refine Below.setCell ?_ (by first | exact Nat.le_refl _ | omega | (simp; done) | (simp; omega)) _ | (with_reducible refine ext_trans ?_ (by with_reducible assumption))))
  have lRa1_5 : w.heap.size < w5.heap.size := by omega
  have lRb_5 : w3.heap.size < w5.heap.size := by omega
  have lRbk_5 : w3.heap.size + 1 < w5.heap.size := by omega
  have lRq_5 : w4.heap.size < w5.heap.size := by omega
  have Ra1_5 := Lib.hid ra1_5
  have r0_ra1_5 := cell_of_row _ _ 0 _ _ _ ra1_5
  have r1_ra1_5 := cell_of_row _ _ 1 _ _ _ ra1_5
  have r2_ra1_5 := cell_of_row _ _ 2 _ _ _ ra1_5
  have f0_ra1_5 := frozen_of_row _ _ 0 _ _ ra1_5
  have f1_ra1_5 := frozen_of_row _ _ 1 _ _ ra1_5
  have f2_ra1_5 := frozen_of_row _ _ 2 _ _ ra1_5
  simp at r0_ra1_5 r1_ra1_5 r2_ra1_5
  clear ra1_5
  have Rb_5 := Lib.hid rb_5
  have r0_rb_5 := cell_of_row _ _ 0 _ _ _ rb_5
  have r1_rb_5 := cell_of_row _ _ 1 _ _ _ rb_5
  have r2_rb_5 := cell_of_row _ _ 2 _ _ _ rb_5
  have f0_rb_5 := frozen_of_row _ _ 0 _ _ rb_5
  have f1_rb_5 := frozen_of_row _ _ 1 _ _ rb_5
  have f2_rb_5 := frozen_of_row _ _ 2 _ _ rb_5
  simp at r0_rb_5 r1_rb_5 r2_rb_5
  clear rb_5
  have Rbk_5 := Lib.hid rbk_5
  have r0_rbk_5 := cell_of_row _ _ 0 _ _ _ rbk_5
  have r1_rbk_5 := cell_of_row _ _ 1 _ _ _ rbk_5
  have r2_rbk_5 := cell_of_row _ _ 2 _ _ _ rbk_5
  have r3_rbk_5 := cell_of_row _ _ 3 _ _ _ rbk_5
  have r4_rbk_5 := cell_of_row _ _ 4 _ _ _ rbk_5
  have r5_rbk_5 := cell_of_row _ _ 5 _ _ _ rbk_5
  have f0_rbk_5 := frozen_of_row _ _ 0 _ _ rbk_5
  have f1_rbk_5 := frozen_of_row _ _ 1 _ _ rbk_5
  have f2_rbk_5 := frozen_of_row _ _ 2 _ _ rbk_5
  have f3_rbk_5 := frozen_of_row _ _ 3 _ _ rbk_5
  have f4_rbk_5 := frozen_of_row _ _ 4 _ _ rbk_5
  have f5_rbk_5 := frozen_of_row _ _ 5 _ _ rbk_5
  simp at r0_rbk_5 r1_rbk_5 r2_rbk_5 r3_rbk_5 r4_rbk_5 r5_rbk_5
  clear rbk_5
  have Rq_5 := Lib.hid rq_5
  have r0_rq_5 := cell_of_row _ _ 0 _ _ _ rq_5
  have r1_rq_5 := cell_of_row _ _ 1 _ _ _ rq_5
  have r2_rq_5 := cell_of_row _ _ 2 _ _ _ rq_5
  have f0_rq_5 := frozen_of_row _ _ 0 _ _ rq_5
  have f1_rq_5 := frozen_of_row _ _ 1 _ _ rq_5
  have f2_rq_5 := frozen_of_row _ _ 2 _ _ rq_5
  simp at r0_rq_5 r1_rq_5 r2_rq_5
  clear rq_5
  clear r0_ra1_4 f0_ra1_4 r1_ra1_4 f1_ra1_4 r2_ra1_4 f2_ra1_4
  clear r0_rb_4 f0_rb_4 r1_rb_4 f1_rb_4 r2_rb_4 f2_rb_4
  clear r0_rbk_4 f0_rbk_4 r1_rbk_4 f1_rbk_4 r2_rbk_4 f2_rbk_4 r3_rbk_4 f3_rbk_4 r4_rbk_4 f4_rbk_4 r5_rbk_4 f5_rbk_4
  go_wp2_with fail
  refine (eqLink_same ⟨x1.mac, x1.ip, r⟩ _ _ NR.out _ (Og1_5.out.below (by repeat (first | with_reducible exact Below.refl _ _ | with_reducible assumption | with_reducible refine Below.drew ?_ | with_reducible refine Below.alloc ?_ (by first | exact Nat.le_refl _ | omega | (simp; done) | (simp; omega)) _ | with_reducible refine Below.setCell ?_ (by first | exact Nat.le_refl _ | omega | (simp; done) | (simp; omega)) _ | (with_reducible refine ext_trans ?_ (by with_reducible assumption))))).rd (Ob1_5.out.below (by repeat (first | with_reducible exact Below.refl _ _ | with_reducible assumption | with_reducible refine Below.drew ?_ | with_reducible refine Below.alloc ?_ (by first | exact Nat.le_refl _ | omega | (simp; done) | (simp; omega)) _ | with_reducible refine Below.setCell ?_ (by first | exact Nat.le_refl _ | omega | (simp; done) | (simp; omega)) _ | (with_reducible refine ext_trans ?_ (by with_reducible assumption))))).rd).mono ?_
  rintro e w6 ⟨rfl, hb6⟩
  have hz6 := hb6.size
  (try simp at hz6)
  have ra1_6 := (hb6.block _ (by first | omega | (simp; done) | (simp; omega))).trans ((Below.heap_alloc _ _ _ (by first | exact lRa1_5 | (simp; omega))).trans ((Below.heap_alloc _ _ _ (by first | exact lRa1_5 | (simp; omega))).trans Ra1_5.out))
  have rb_6 := (hb6.block _ (by first | omega | (simp; done) | (simp; omega))).trans ((Below.heap_alloc _ _ _ (by first | exact lRb_5 | (simp; omega))).trans ((Below.heap_alloc _ _ _ (by first | exact lRb_5 | (simp; omega))).trans Rb_5.out))
  have rbk_6 := (hb6.block _ (by first | omega | (simp; done) | (simp; omega))).trans ((Below.heap_alloc _ _ _ (by first | exact lRbk_5 | (simp; omega))).trans ((Below.heap_alloc _ _ _ (by first | exact lRbk_5 | (simp; omega))).trans Rbk_5.out))
  have rq_6 := (hb6.block _ (by first | omega | (simp; done) | (simp; omega))).trans ((Below.heap_alloc _ _ _ (by first | exact lRq_5 | (simp; omega))).trans ((Below.heap_alloc _ _ _ (by first | exact lRq_5 | (simp; omega))).trans Rq_5.out))
  have rg_6 : w6.heap[w5.heap.size]? = some (.cells #[.int .i64 x1.mac, .int .i64 x1.ip, .slice A5 r.length c5] 37 (0, 0)) := (hb6.block _ (by first | (simp; done) | (simp; omega))).trans (by repeat (first | exact heap_new _ _ _ (by first | rfl | (simp; done) | (simp; omega)) | refine (Below.heap_alloc _ _ _ (by first | omega | (simp; done) | (simp; omega))).trans ?_))
  have rgk_6 : w6.heap[w5.heap.size + 1]? = some (.cells #[.int .i64 b1, .int .i64 b2, .int .i64 b3, .int .i64 b4, .int .i64 b5, .string b6] 58 (0, 0)) := (hb6.block _ (by first | (simp; done) | (simp; omega))).trans (by repeat (first | exact heap_new _ _ _ (by first | rfl | (simp; done) | (simp; omega)) | refine (Below.heap_alloc _ _ _ (by first | omega | (simp; done) | (simp; omega))).trans ?_))
  have Ob1_6 := Lib.hid (Ob1_5.out.below (w' := w6) (by repeat (first | with_reducible exact Below.refl _ _ | with_reducible assumption | with_reducible refine Below.drew ?_ | with_reducible refine Below.alloc ?_ (by first | exact Nat.le_refl _ | omega | (simp; done) | (simp; omega)) _ | with_reducible refine Below.setCell ?_ (by first | exact Nat.le_refl _ | omega | (simp; done) | (simp; omega)) _ | (with_reducible refine ext_trans ?_ (by with_reducible assumption)))))
  have Oq1_6 := Lib.hid (Oq1_5.out.below (w' := w6) (by repeat (first | with_reducible exact Below.refl _ _ | with_reducible assumption | with_reducible refine Below.drew ?_ | with_reducible refine Below.alloc ?_ (by first | exact Nat.le_refl _ | omega | (simp; done) | (simp; omega)) _ | with_reducible refine Below.setCell ?_ (by first | exact Nat.le_refl _ | omega | (simp; done) | (simp; omega)) _ | (with_reducible refine ext_trans ?_ (by with_reducible assumption)))))
  have Og1_6 := Lib.hid (Og1_5.out.below (w' := w6) (by repeat (first | with_reducible exact Below.refl _ _ | with_reducible assumption | with_reducible refine Below.drew ?_ | with_reducible refine Below.alloc ?_ (by first | exact Nat.le_refl _ | omega | (simp; done) | (simp; omega)) _ | with_reducible refine Below.setCell ?_ (by first | exact Nat.le_refl _ | omega | (simp; done) | (simp; omega)) _ | (with_reducible refine ext_trans ?_ (by with_reducible assumption)))))
  have hw6 : Below w.heap.size w w6 := (by repeat (first | with_reducible exact Below.refl _ _ | with_reducible assumption | with_reducible refine Below.drew ?_ | with_reducible refine Below.alloc ?_ (by first | exact Nat.le_refl _ | omega | (simp; done) | (simp; omega)) _ | with_reducible refine Below.setCell ?_ (by first | exact Nat.le_refl _ | omega | (simp; done) | (simp; omega)) _ | (with_reducible refine ext_trans ?_ (by with_reducible assumption))))
  have lRa1_6 : w.heap.size < w6.heap.size := by omega
  have lRb_6 : w3.heap.size < w6.heap.size := by omega
  have lRbk_6 : w3.heap.size + 1 < w6.heap.size := by omega
  have lRq_6 : w4.heap.size < w6.heap.size := by omega
  have lRg_6 : w5.heap.size < w6.heap.size := by omega
  have lRgk_6 : w5.heap.size + 1 < w6.heap.size := by omega
  have Ra1_6 := Lib.hid ra1_6
  have r0_ra1_6 := cell_of_row _ _ 0 _ _ _ ra1_6
  have r1_ra1_6 := cell_of_row _ _ 1 _ _ _ ra1_6
  have r2_ra1_6 := cell_of_row _ _ 2 _ _ _ ra1_6
  have f0_ra1_6 := frozen_of_row _ _ 0 _ _ ra1_6
  have f1_ra1_6 := frozen_of_row _ _ 1 _ _ ra1_6
  have f2_ra1_6 := frozen_of_row _ _ 2 _ _ ra1_6
  simp at r0_ra1_6 r1_ra1_6 r2_ra1_6
  clear ra1_6
  have Rb_6 := Lib.hid rb_6
  have r0_rb_6 := cell_of_row _ _ 0 _ _ _ rb_6
  have r1_rb_6 := cell_of_row _ _ 1 _ _ _ rb_6
  have r2_rb_6 := cell_of_row _ _ 2 _ _ _ rb_6
  have f0_rb_6 := frozen_of_row _ _ 0 _ _ rb_6
  have f1_rb_6 := frozen_of_row _ _ 1 _ _ rb_6
  have f2_rb_6 := frozen_of_row _ _ 2 _ _ rb_6
  simp at r0_rb_6 r1_rb_6 r2_rb_6
  clear rb_6
  have Rbk_6 := Lib.hid rbk_6
  have r0_rbk_6 := cell_of_row _ _ 0 _ _ _ rbk_6
  have r1_rbk_6 := cell_of_row _ _ 1 _ _ _ rbk_6
  have r2_rbk_6 := cell_of_row _ _ 2 _ _ _ rbk_6
  have r3_rbk_6 := cell_of_row _ _ 3 _ _ _ rbk_6
  have r4_rbk_6 := cell_of_row _ _ 4 _ _ _ rbk_6
  have r5_rbk_6 := cell_of_row _ _ 5 _ _ _ rbk_6
  have f0_rbk_6 := frozen_of_row _ _ 0 _ _ rbk_6
  have f1_rbk_6 := frozen_of_row _ _ 1 _ _ rbk_6
  have f2_rbk_6 := frozen_of_row _ _ 2 _ _ rbk_6
  have f3_rbk_6 := frozen_of_row _ _ 3 _ _ rbk_6
  have f4_rbk_6 := frozen_of_row _ _ 4 _ _ rbk_6
  have f5_rbk_6 := frozen_of_row _ _ 5 _ _ rbk_6
  simp at r0_rbk_6 r1_rbk_6 r2_rbk_6 r3_rbk_6 r4_rbk_6 r5_rbk_6
  clear rbk_6
  have Rq_6 := Lib.hid rq_6
  have r0_rq_6 := cell_of_row _ _ 0 _ _ _ rq_6
  have r1_rq_6 := cell_of_row _ _ 1 _ _ _ rq_6
  have r2_rq_6 := cell_of_row _ _ 2 _ _ _ rq_6
  have f0_rq_6 := frozen_of_row _ _ 0 _ _ rq_6
  have f1_rq_6 := frozen_of_row _ _ 1 _ _ rq_6
  have f2_rq_6 := frozen_of_row _ _ 2 _ _ rq_6
  simp at r0_rq_6 r1_rq_6 r2_rq_6
  clear rq_6
  have Rg_6 := Lib.hid rg_6
  have r0_rg_6 := cell_of_row _ _ 0 _ _ _ rg_6
  have r1_rg_6 := cell_of_row _ _ 1 _ _ _ rg_6
  have r2_rg_6 := cell_of_row _ _ 2 _ _ _ rg_6
  have f0_rg_6 := frozen_of_row _ _ 0 _ _ rg_6
  have f1_rg_6 := frozen_of_row _ _ 1 _ _ rg_6
  have f2_rg_6 := frozen_of_row _ _ 2 _ _ rg_6
  simp at r0_rg_6 r1_rg_6 r2_rg_6
  clear rg_6
  have Rgk_6 := Lib.hid rgk_6
  have r0_rgk_6 := cell_of_row _ _ 0 _ _ _ rgk_6
  have r1_rgk_6 := cell_of_row _ _ 1 _ _ _ rgk_6
  have r2_rgk_6 := cell_of_row _ _ 2 _ _ _ rgk_6
  have r3_rgk_6 := cell_of_row _ _ 3 _ _ _ rgk_6
  have r4_rgk_6 := cell_of_row _ _ 4 _ _ _ rgk_6
  have r5_rgk_6 := cell_of_row _ _ 5 _ _ _ rgk_6
  have f0_rgk_6 := frozen_of_row _ _ 0 _ _ rgk_6
  have f1_rgk_6 := frozen_of_row _ _ 1 _ _ rgk_6
  have f2_rgk_6 := frozen_of_row _ _ 2 _ _ rgk_6
  have f3_rgk_6 := frozen_of_row _ _ 3 _ _ rgk_6
  have f4_rgk_6 := frozen_of_row _ _ 4 _ _ rgk_6
  have f5_rgk_6 := frozen_of_row _ _ 5 _ _ rgk_6
  simp at r0_rgk_6 r1_rgk_6 r2_rgk_6 r3_rgk_6 r4_rgk_6 r5_rgk_6
  clear rgk_6
  clear r0_ra1_5 f0_ra1_5 r1_ra1_5 f1_ra1_5 r2_ra1_5 f2_ra1_5
  clear r0_rb_5 f0_rb_5 r1_rb_5 f1_rb_5 r2_rb_5 f2_rb_5
  clear r0_rbk_5 f0_rbk_5 r1_rbk_5 f1_rbk_5 r2_rbk_5 f2_rbk_5 r3_rbk_5 f3_rbk_5 r4_rbk_5 f4_rbk_5 r5_rbk_5 f5_rbk_5
  clear r0_rq_5 f0_rq_5 r1_rq_5 f1_rq_5 r2_rq_5 f2_rq_5
  go_wp2_with fail
  refine (eqPacket_same b1 b2 b3 b4 b5 b6 _).mono ?_
  rintro e w7 ⟨rfl, hb7⟩
  have hz7 := hb7.size
  (try simp at hz7)
  have ra1_7 := (hb7.block _ (by first | omega | (simp; done) | (simp; omega))).trans Ra1_6.out
  have rb_7 := (hb7.block _ (by first | omega | (simp; done) | (simp; omega))).trans Rb_6.out
  have rbk_7 := (hb7.block _ (by first | omega | (simp; done) | (simp; omega))).trans Rbk_6.out
  have rq_7 := (hb7.block _ (by first | omega | (simp; done) | (simp; omega))).trans Rq_6.out
  have rg_7 := (hb7.block _ (by first | omega | (simp; done) | (simp; omega))).trans Rg_6.out
  have rgk_7 := (hb7.block _ (by first | omega | (simp; done) | (simp; omega))).trans Rgk_6.out
  have Ob1_7 := Lib.hid (Ob1_6.out.below (w' := w7) (by repeat (first | with_reducible exact Below.refl _ _ | with_reducible assumption | with_reducible refine Below.drew ?_ | with_reducible refine Below.alloc ?_ (by first | exact Nat.le_refl _ | omega | (simp; done) | (simp; omega)) _ | with_reducible refine Below.setCell ?_ (by first | exact Nat.le_refl _ | omega | (simp; done) | (simp; omega)) _ | (with_reducible refine ext_trans ?_ (by with_reducible assumption)))))
  have Oq1_7 := Lib.hid (Oq1_6.out.below (w' := w7) (by repeat (first | with_reducible exact Below.refl _ _ | with_reducible assumption | with_reducible refine Below.drew ?_ | with_reducible refine Below.alloc ?_ (by first | exact Nat.le_refl _ | omega | (simp; done) | (simp; omega)) _ | with_reducible refine Below.setCell ?_ (by first | exact Nat.le_refl _ | omega | (simp; done) | (simp; omega)) _ | (with_reducible refine ext_trans ?_ (by with_reducible assumption)))))
  have Og1_7 := Lib.hid (Og1_6.out.below (w' := w7) (by repeat (first | with_reducible exact Below.refl _ _ | with_reducible assumption | with_reducible refine Below.drew ?_ | with_reducible refine Below.alloc ?_ (by first | exact Nat.le_refl _ | omega | (simp; done) | (simp; omega)) _ | with_reducible refine Below.setCell ?_ (by first | exact Nat.le_refl _ | omega | (simp; done) | (simp; omega)) _ | (with_reducible refine ext_trans ?_ (by with_reducible assumption)))))
  have hw7 : Below w.heap.size w w7 := (by repeat (first | with_reducible exact Below.refl _ _ | with_reducible assumption | with_reducible refine Below.drew ?_ | with_reducible refine Below.alloc ?_ (by first | exact Nat.le_refl _ | omega | (simp; done) | (simp; omega)) _ | with_reducible refine Below.setCell ?_ (by first | exact Nat.le_refl _ | omega | (simp; done) | (simp; omega)) _ | (with_reducible refine ext_trans ?_ (by with_reducible assumption))))
  have lRa1_7 : w.heap.size < w7.heap.size := by omega
  have lRb_7 : w3.heap.size < w7.heap.size := by omega
  have lRbk_7 : w3.heap.size + 1 < w7.heap.size := by omega
  have lRq_7 : w4.heap.size < w7.heap.size := by omega
  have lRg_7 : w5.heap.size < w7.heap.size := by omega
  have lRgk_7 : w5.heap.size + 1 < w7.heap.size := by omega
  have Ra1_7 := Lib.hid ra1_7
  have r0_ra1_7 := cell_of_row _ _ 0 _ _ _ ra1_7
  have r1_ra1_7 := cell_of_row _ _ 1 _ _ _ ra1_7
  have r2_ra1_7 := cell_of_row _ _ 2 _ _ _ ra1_7
  have f0_ra1_7 := frozen_of_row _ _ 0 _ _ ra1_7
  have f1_ra1_7 := frozen_of_row _ _ 1 _ _ ra1_7
  have f2_ra1_7 := frozen_of_row _ _ 2 _ _ ra1_7
  simp at r0_ra1_7 r1_ra1_7 r2_ra1_7
  clear ra1_7
  have Rb_7 := Lib.hid rb_7
  have r0_rb_7 := cell_of_row _ _ 0 _ _ _ rb_7
  have r1_rb_7 := cell_of_row _ _ 1 _ _ _ rb_7
  have r2_rb_7 := cell_of_row _ _ 2 _ _ _ rb_7
  have f0_rb_7 := frozen_of_row _ _ 0 _ _ rb_7
  have f1_rb_7 := frozen_of_row _ _ 1 _ _ rb_7
  have f2_rb_7 := frozen_of_row _ _ 2 _ _ rb_7
  simp at r0_rb_7 r1_rb_7 r2_rb_7
  clear rb_7
  have Rbk_7 := Lib.hid rbk_7
  have r0_rbk_7 := cell_of_row _ _ 0 _ _ _ rbk_7
  have r1_rbk_7 := cell_of_row _ _ 1 _ _ _ rbk_7
  have r2_rbk_7 := cell_of_row _ _ 2 _ _ _ rbk_7
  have r3_rbk_7 := cell_of_row _ _ 3 _ _ _ rbk_7
  have r4_rbk_7 := cell_of_row _ _ 4 _ _ _ rbk_7
  have r5_rbk_7 := cell_of_row _ _ 5 _ _ _ rbk_7
  have f0_rbk_7 := frozen_of_row _ _ 0 _ _ rbk_7
  have f1_rbk_7 := frozen_of_row _ _ 1 _ _ rbk_7
  have f2_rbk_7 := frozen_of_row _ _ 2 _ _ rbk_7
  have f3_rbk_7 := frozen_of_row _ _ 3 _ _ rbk_7
  have f4_rbk_7 := frozen_of_row _ _ 4 _ _ rbk_7
  have f5_rbk_7 := frozen_of_row _ _ 5 _ _ rbk_7
  simp at r0_rbk_7 r1_rbk_7 r2_rbk_7 r3_rbk_7 r4_rbk_7 r5_rbk_7
  clear rbk_7
  have Rq_7 := Lib.hid rq_7
  have r0_rq_7 := cell_of_row _ _ 0 _ _ _ rq_7
  have r1_rq_7 := cell_of_row _ _ 1 _ _ _ rq_7
  have r2_rq_7 := cell_of_row _ _ 2 _ _ _ rq_7
  have f0_rq_7 := frozen_of_row _ _ 0 _ _ rq_7
  have f1_rq_7 := frozen_of_row _ _ 1 _ _ rq_7
  have f2_rq_7 := frozen_of_row _ _ 2 _ _ rq_7
  simp at r0_rq_7 r1_rq_7 r2_rq_7
  clear rq_7
  have Rg_7 := Lib.hid rg_7
  have r0_rg_7 := cell_of_row _ _ 0 _ _ _ rg_7
  have r1_rg_7 := cell_of_row _ _ 1 _ _ _ rg_7
  have r2_rg_7 := cell_of_row _ _ 2 _ _ _ rg_7
  have f0_rg_7 := frozen_of_row _ _ 0 _ _ rg_7
  have f1_rg_7 := frozen_of_row _ _ 1 _ _ rg_7
  have f2_rg_7 := frozen_of_row _ _ 2 _ _ rg_7
  simp at r0_rg_7 r1_rg_7 r2_rg_7
  clear rg_7
  have Rgk_7 := Lib.hid rgk_7
  have r0_rgk_7 := cell_of_row _ _ 0 _ _ _ rgk_7
  have r1_rgk_7 := cell_of_row _ _ 1 _ _ _ rgk_7
  have r2_rgk_7 := cell_of_row _ _ 2 _ _ _ rgk_7
  have r3_rgk_7 := cell_of_row _ _ 3 _ _ _ rgk_7
  have r4_rgk_7 := cell_of_row _ _ 4 _ _ _ rgk_7
  have r5_rgk_7 := cell_of_row _ _ 5 _ _ _ rgk_7
  have f0_rgk_7 := frozen_of_row _ _ 0 _ _ rgk_7
  have f1_rgk_7 := frozen_of_row _ _ 1 _ _ rgk_7
  have f2_rgk_7 := frozen_of_row _ _ 2 _ _ rgk_7
  have f3_rgk_7 := frozen_of_row _ _ 3 _ _ rgk_7
  have f4_rgk_7 := frozen_of_row _ _ 4 _ _ rgk_7
  have f5_rgk_7 := frozen_of_row _ _ 5 _ _ rgk_7
  simp at r0_rgk_7 r1_rgk_7 r2_rgk_7 r3_rgk_7 r4_rgk_7 r5_rgk_7
  clear rgk_7
  clear r0_ra1_6 f0_ra1_6 r1_ra1_6 f1_ra1_6 r2_ra1_6 f2_ra1_6
  clear r0_rb_6 f0_rb_6 r1_rb_6 f1_rb_6 r2_rb_6 f2_rb_6
  clear r0_rbk_6 f0_rbk_6 r1_rbk_6 f1_rbk_6 r2_rbk_6 f2_rbk_6 r3_rbk_6 f3_rbk_6 r4_rbk_6 f4_rbk_6 r5_rbk_6 f5_rbk_6
  clear r0_rq_6 f0_rq_6 r1_rq_6 f1_rq_6 r2_rq_6 f2_rq_6
  clear r0_rg_6 f0_rg_6 r1_rg_6 f1_rg_6 r2_rg_6 f2_rg_6
  clear r0_rgk_6 f0_rgk_6 r1_rgk_6 f1_rgk_6 r2_rgk_6 f2_rgk_6 r3_rgk_6 f3_rgk_6 r4_rgk_6 f4_rgk_6 r5_rgk_6 f5_rgk_6
  go_wp2_with fail
  go_cut [73] (fun z wx => z = .bool false ∧ Below w7.heap.size w7 wx)
  case first =>
    first | go_region_held3 (fun w' => (∀ b' o, b' < (w7).heap.size → w'.cell? ⟨b', o, none⟩ = (w7).cell? ⟨b', o, none⟩) ∧ Below (w7).heap.size (w7) w') (first | with_reducible assumption | (with_reducible apply rg_keep; rotate_left; with_reducible assumption; with_reducible assumption) | with_reducible exact rg_start _ | with_reducible exact rg_alloc (KeptS.out (by with_reducible assumption)) _ | with_reducible exact rg_alloc (by with_reducible assumption) _ | with_reducible exact rg_start_alloc _ _ | ((repeat (with_reducible refine rg_set ?_ _ (by first | exact Nat.le_refl _ | omega | (simp; done) | (simp; omega)) _)); first | with_reducible exact KeptS.out (by with_reducible assumption) | with_reducible assumption | with_reducible exact rg_alloc (KeptS.out (by with_reducible assumption)) _)) (first | (go_at_call 23; ((with_reducible refine (toLink_any x1 _ M11.out _ (H11.out.below (ext_trans hw7 (rgBEntry (by first | with_reducible assumption | exact KeptS.out (by with_reducible assumption)))))).mono ?_); (rintro e wA ⟨vA1, rfl, hOA1, hbA⟩; obtain ⟨AA1, cA1, rfl⟩ := hOA1.form; have hSA := rg_keepK (by first | with_reducible assumption | exact KeptS.out (by with_reducible assumption)) hbA; have hLA := hSA.size; have HOA1 := Lib.hid hOA1; clear hOA1))) | (go_at_call 25; ((with_reducible refine (eqLink_same x1 _ _ N11.out _ (Oq1_7.out.below (rgBEntry (by first | with_reducible assumption | exact KeptS.out (by with_reducible assumption)))).rd HOA1.out.rd).mono ?_); (rintro e wC ⟨rfl, hbC⟩; have hSC := rg_keepK (by first | with_reducible assumption | exact KeptS.out (by with_reducible assumption)) hbC)))) | fail
    all_goals (go_wp2_with fail; go_meet; exact ⟨rfl, (by assumption : _ ∧ Below w7.heap.size w7 wC).2⟩)
  case rest =>
  obtain ⟨rfl, hb8⟩ := hcut
  rename World => w8
  have hz8 := hb8.size
  (try simp at hz8)
  have ra1_8 := (hb8.block _ (by first | omega | (simp; done) | (simp; omega))).trans Ra1_7.out
  have rb_8 := (hb8.block _ (by first | omega | (simp; done) | (simp; omega))).trans Rb_7.out
  have rbk_8 := (hb8.block _ (by first | omega | (simp; done) | (simp; omega))).trans Rbk_7.out
  have rq_8 := (hb8.block _ (by first | omega | (simp; done) | (simp; omega))).trans Rq_7.out
  have rg_8 := (hb8.block _ (by first | omega | (simp; done) | (simp; omega))).trans Rg_7.out
  have rgk_8 := (hb8.block _ (by first | omega | (simp; done) | (simp; omega))).trans Rgk_7.out
  have Ob1_8 := Lib.hid (Ob1_7.out.below (w' := w8) (by repeat (first | with_reducible exact Below.refl _ _ | with_reducible assumption | with_reducible refine Below.drew ?_ | with_reducible refine Below.alloc ?_ (by first | exact Nat.le_refl _ | omega | (simp; done) | (simp; omega)) _ | with_reducible refine Below.setCell ?_ (by first | exact Nat.le_refl _ | omega | (simp; done) | (simp; omega)) _ | (with_reducible refine ext_trans ?_ (by with_reducible assumption)))))
  have Oq1_8 := Lib.hid (Oq1_7.out.below (w' := w8) (by repeat (first | with_reducible exact Below.refl _ _ | with_reducible assumption | with_reducible refine Below.drew ?_ | with_reducible refine Below.alloc ?_ (by first | exact Nat.le_refl _ | omega | (simp; done) | (simp; omega)) _ | with_reducible refine Below.setCell ?_ (by first | exact Nat.le_refl _ | omega | (simp; done) | (simp; omega)) _ | (with_reducible refine ext_trans ?_ (by with_reducible assumption)))))
  have Og1_8 := Lib.hid (Og1_7.out.below (w' := w8) (by repeat (first | with_reducible exact Below.refl _ _ | with_reducible assumption | with_reducible refine Below.drew ?_ | with_reducible refine Below.alloc ?_ (by first | exact Nat.le_refl _ | omega | (simp; done) | (simp; omega)) _ | with_reducible refine Below.setCell ?_ (by first | exact Nat.le_refl _ | omega | (simp; done) | (simp; omega)) _ | (with_reducible refine ext_trans ?_ (by with_reducible assumption)))))
  have hw8 : Below w.heap.size w w8 := (by repeat (first | with_reducible exact Below.refl _ _ | with_reducible assumption | with_reducible refine Below.drew ?_ | with_reducible refine Below.alloc ?_ (by first | exact Nat.le_refl _ | omega | (simp; done) | (simp; omega)) _ | with_reducible refine Below.setCell ?_ (by first | exact Nat.le_refl _ | omega | (simp; done) | (simp; omega)) _ | (with_reducible refine ext_trans ?_ (by with_reducible assumption))))
  have lRa1_8 : w.heap.size < w8.heap.size := by omega
  have lRb_8 : w3.heap.size < w8.heap.size := by omega
  have lRbk_8 : w3.heap.size + 1 < w8.heap.size := by omega
  have lRq_8 : w4.heap.size < w8.heap.size := by omega
  have lRg_8 : w5.heap.size < w8.heap.size := by omega
  have lRgk_8 : w5.heap.size + 1 < w8.heap.size := by omega
  have Ra1_8 := Lib.hid ra1_8
  have r0_ra1_8 := cell_of_row _ _ 0 _ _ _ ra1_8
  have r1_ra1_8 := cell_of_row _ _ 1 _ _ _ ra1_8
  have r2_ra1_8 := cell_of_row _ _ 2 _ _ _ ra1_8
  have f0_ra1_8 := frozen_of_row _ _ 0 _ _ ra1_8
  have f1_ra1_8 := frozen_of_row _ _ 1 _ _ ra1_8
  have f2_ra1_8 := frozen_of_row _ _ 2 _ _ ra1_8
  simp at r0_ra1_8 r1_ra1_8 r2_ra1_8
  clear ra1_8
  have Rb_8 := Lib.hid rb_8
  have r0_rb_8 := cell_of_row _ _ 0 _ _ _ rb_8
  have r1_rb_8 := cell_of_row _ _ 1 _ _ _ rb_8
  have r2_rb_8 := cell_of_row _ _ 2 _ _ _ rb_8
  have f0_rb_8 := frozen_of_row _ _ 0 _ _ rb_8
  have f1_rb_8 := frozen_of_row _ _ 1 _ _ rb_8
  have f2_rb_8 := frozen_of_row _ _ 2 _ _ rb_8
  simp at r0_rb_8 r1_rb_8 r2_rb_8
  clear rb_8
  have Rbk_8 := Lib.hid rbk_8
  have r0_rbk_8 := cell_of_row _ _ 0 _ _ _ rbk_8
  have r1_rbk_8 := cell_of_row _ _ 1 _ _ _ rbk_8
  have r2_rbk_8 := cell_of_row _ _ 2 _ _ _ rbk_8
  have r3_rbk_8 := cell_of_row _ _ 3 _ _ _ rbk_8
  have r4_rbk_8 := cell_of_row _ _ 4 _ _ _ rbk_8
  have r5_rbk_8 := cell_of_row _ _ 5 _ _ _ rbk_8
  have f0_rbk_8 := frozen_of_row _ _ 0 _ _ rbk_8
  have f1_rbk_8 := frozen_of_row _ _ 1 _ _ rbk_8
  have f2_rbk_8 := frozen_of_row _ _ 2 _ _ rbk_8
  have f3_rbk_8 := frozen_of_row _ _ 3 _ _ rbk_8
  have f4_rbk_8 := frozen_of_row _ _ 4 _ _ rbk_8
  have f5_rbk_8 := frozen_of_row _ _ 5 _ _ rbk_8
  simp at r0_rbk_8 r1_rbk_8 r2_rbk_8 r3_rbk_8 r4_rbk_8 r5_rbk_8
  clear rbk_8
  have Rq_8 := Lib.hid rq_8
  have r0_rq_8 := cell_of_row _ _ 0 _ _ _ rq_8
  have r1_rq_8 := cell_of_row _ _ 1 _ _ _ rq_8
  have r2_rq_8 := cell_of_row _ _ 2 _ _ _ rq_8
  have f0_rq_8 := frozen_of_row _ _ 0 _ _ rq_8
  have f1_rq_8 := frozen_of_row _ _ 1 _ _ rq_8
  have f2_rq_8 := frozen_of_row _ _ 2 _ _ rq_8
  simp at r0_rq_8 r1_rq_8 r2_rq_8
  clear rq_8
  have Rg_8 := Lib.hid rg_8
  have r0_rg_8 := cell_of_row _ _ 0 _ _ _ rg_8
  have r1_rg_8 := cell_of_row _ _ 1 _ _ _ rg_8
  have r2_rg_8 := cell_of_row _ _ 2 _ _ _ rg_8
  have f0_rg_8 := frozen_of_row _ _ 0 _ _ rg_8
  have f1_rg_8 := frozen_of_row _ _ 1 _ _ rg_8
  have f2_rg_8 := frozen_of_row _ _ 2 _ _ rg_8
  simp at r0_rg_8 r1_rg_8 r2_rg_8
  clear rg_8
  have Rgk_8 := Lib.hid rgk_8
  have r0_rgk_8 := cell_of_row _ _ 0 _ _ _ rgk_8
  have r1_rgk_8 := cell_of_row _ _ 1 _ _ _ rgk_8
  have r2_rgk_8 := cell_of_row _ _ 2 _ _ _ rgk_8
  have r3_rgk_8 := cell_of_row _ _ 3 _ _ _ rgk_8
  have r4_rgk_8 := cell_of_row _ _ 4 _ _ _ rgk_8
  have r5_rgk_8 := cell_of_row _ _ 5 _ _ _ rgk_8
  have f0_rgk_8 := frozen_of_row _ _ 0 _ _ rgk_8
  have f1_rgk_8 := frozen_of_row _ _ 1 _ _ rgk_8
  have f2_rgk_8 := frozen_of_row _ _ 2 _ _ rgk_8
  have f3_rgk_8 := frozen_of_row _ _ 3 _ _ rgk_8
  have f4_rgk_8 := frozen_of_row _ _ 4 _ _ rgk_8
  have f5_rgk_8 := frozen_of_row _ _ 5 _ _ rgk_8
  simp at r0_rgk_8 r1_rgk_8 r2_rgk_8 r3_rgk_8 r4_rgk_8 r5_rgk_8
  clear rgk_8
  clear r0_ra1_7 f0_ra1_7 r1_ra1_7 f1_ra1_7 r2_ra1_7 f2_ra1_7
  clear r0_rb_7 f0_rb_7 r1_rb_7 f1_rb_7 r2_rb_7 f2_rb_7
  clear r0_rbk_7 f0_rbk_7 r1_rbk_7 f1_rbk_7 r2_rbk_7 f2_rbk_7 r3_rbk_7 f3_rbk_7 r4_rbk_7 f4_rbk_7 r5_rbk_7 f5_rbk_7
  clear r0_rq_7 f0_rq_7 r1_rq_7 f1_rq_7 r2_rq_7 f2_rq_7
  clear r0_rg_7 f0_rg_7 r1_rg_7 f1_rg_7 r2_rg_7 f2_rg_7
  clear r0_rgk_7 f0_rgk_7 r1_rgk_7 f1_rgk_7 r2_rgk_7 f2_rgk_7 r3_rgk_7 f3_rgk_7 r4_rgk_7 f4_rgk_7 r5_rgk_7 f5_rgk_7
  go_wp2_with fail
  refine (markLink_any x1 _ M11.out 1 (by omega) (by omega) _ _ Oq1_8.out).mono ?_
  rintro e w9 ⟨rfl, hO91, hg91⟩
  have hz91 := hg91.size
  have hz9 : w8.heap.size ≤ w9.heap.size := by omega
  have ra1_9 := (box_kept (bx := w.heap.size) Bq1.out (marksEntry_len _ _) hg91 (by omega) (by omega)).trans (Ra1_8.out)
  have rb_9 := (box_kept (bx := w3.heap.size) Bq1.out (marksEntry_len _ _) hg91 (by omega) (by omega)).trans (Rb_8.out)
  have rbk_9 := (box_kept (bx := w3.heap.size + 1) Bq1.out (marksEntry_len _ _) hg91 (by omega) (by omega)).trans (Rbk_8.out)
  have rq_9 := (box_kept (bx := w4.heap.size) Bq1.out (marksEntry_len _ _) hg91 (by omega) (by omega)).trans (Rq_8.out)
  have rg_9 := (box_kept (bx := w5.heap.size) Bq1.out (marksEntry_len _ _) hg91 (by omega) (by omega)).trans (Rg_8.out)
  have rgk_9 := (box_kept (bx := w5.heap.size + 1) Bq1.out (marksEntry_len _ _) hg91 (by omega) (by omega)).trans (Rgk_8.out)
  have hw9 : Below w.heap.size w w9 := Below.grown hw8 hg91 hw8.size (fun k hk => by have := chg_ge Bq1.out (marksEntry_len _ _) k hk; omega)
  have Ob1_9 := Lib.hid (OwnE.apart Ob1_8.out hg91 (fun h h' => (own_ne Bb1.out Bq1.out (by first | omega | (simp; omega)) h (marks_neEntry h'))))
  have Og1_9 := Lib.hid (OwnE.apart Og1_8.out hg91 (fun h h' => (own_ne Bq1.out Bg1.out (by first | omega | (simp; omega)) (marks_neEntry h') h).symm))
  have Oq1_9 := Lib.hid hO91
  have lRa1_9 : w.heap.size < w9.heap.size := by omega
  have lRb_9 : w3.heap.size < w9.heap.size := by omega
  have lRbk_9 : w3.heap.size + 1 < w9.heap.size := by omega
  have lRq_9 : w4.heap.size < w9.heap.size := by omega
  have lRg_9 : w5.heap.size < w9.heap.size := by omega
  have lRgk_9 : w5.heap.size + 1 < w9.heap.size := by omega
  have Ra1_9 := Lib.hid ra1_9
  have r0_ra1_9 := cell_of_row _ _ 0 _ _ _ ra1_9
  have r1_ra1_9 := cell_of_row _ _ 1 _ _ _ ra1_9
  have r2_ra1_9 := cell_of_row _ _ 2 _ _ _ ra1_9
  have f0_ra1_9 := frozen_of_row _ _ 0 _ _ ra1_9
  have f1_ra1_9 := frozen_of_row _ _ 1 _ _ ra1_9
  have f2_ra1_9 := frozen_of_row _ _ 2 _ _ ra1_9
  simp at r0_ra1_9 r1_ra1_9 r2_ra1_9
  clear ra1_9
  have Rb_9 := Lib.hid rb_9
  have r0_rb_9 := cell_of_row _ _ 0 _ _ _ rb_9
  have r1_rb_9 := cell_of_row _ _ 1 _ _ _ rb_9
  have r2_rb_9 := cell_of_row _ _ 2 _ _ _ rb_9
  have f0_rb_9 := frozen_of_row _ _ 0 _ _ rb_9
  have f1_rb_9 := frozen_of_row _ _ 1 _ _ rb_9
  have f2_rb_9 := frozen_of_row _ _ 2 _ _ rb_9
  simp at r0_rb_9 r1_rb_9 r2_rb_9
  clear rb_9
  have Rbk_9 := Lib.hid rbk_9
  have r0_rbk_9 := cell_of_row _ _ 0 _ _ _ rbk_9
  have r1_rbk_9 := cell_of_row _ _ 1 _ _ _ rbk_9
  have r2_rbk_9 := cell_of_row _ _ 2 _ _ _ rbk_9
  have r3_rbk_9 := cell_of_row _ _ 3 _ _ _ rbk_9
  have r4_rbk_9 := cell_of_row _ _ 4 _ _ _ rbk_9
  have r5_rbk_9 := cell_of_row _ _ 5 _ _ _ rbk_9
  have f0_rbk_9 := frozen_of_row _ _ 0 _ _ rbk_9
  have f1_rbk_9 := frozen_of_row _ _ 1 _ _ rbk_9
  have f2_rbk_9 := frozen_of_row _ _ 2 _ _ rbk_9
  have f3_rbk_9 := frozen_of_row _ _ 3 _ _ rbk_9
  have f4_rbk_9 := frozen_of_row _ _ 4 _ _ rbk_9
  have f5_rbk_9 := frozen_of_row _ _ 5 _ _ rbk_9
  simp at r0_rbk_9 r1_rbk_9 r2_rbk_9 r3_rbk_9 r4_rbk_9 r5_rbk_9
  clear rbk_9
  have Rq_9 := Lib.hid rq_9
  have r0_rq_9 := cell_of_row _ _ 0 _ _ _ rq_9
  have r1_rq_9 := cell_of_row _ _ 1 _ _ _ rq_9
  have r2_rq_9 := cell_of_row _ _ 2 _ _ _ rq_9
  have f0_rq_9 := frozen_of_row _ _ 0 _ _ rq_9
  have f1_rq_9 := frozen_of_row _ _ 1 _ _ rq_9
  have f2_rq_9 := frozen_of_row _ _ 2 _ _ rq_9
  simp at r0_rq_9 r1_rq_9 r2_rq_9
  clear rq_9
  have Rg_9 := Lib.hid rg_9
  have r0_rg_9 := cell_of_row _ _ 0 _ _ _ rg_9
  have r1_rg_9 := cell_of_row _ _ 1 _ _ _ rg_9
  have r2_rg_9 := cell_of_row _ _ 2 _ _ _ rg_9
  have f0_rg_9 := frozen_of_row _ _ 0 _ _ rg_9
  have f1_rg_9 := frozen_of_row _ _ 1 _ _ rg_9
  have f2_rg_9 := frozen_of_row _ _ 2 _ _ rg_9
  simp at r0_rg_9 r1_rg_9 r2_rg_9
  clear rg_9
  have Rgk_9 := Lib.hid rgk_9
  have r0_rgk_9 := cell_of_row _ _ 0 _ _ _ rgk_9
  have r1_rgk_9 := cell_of_row _ _ 1 _ _ _ rgk_9
  have r2_rgk_9 := cell_of_row _ _ 2 _ _ _ rgk_9
  have r3_rgk_9 := cell_of_row _ _ 3 _ _ _ rgk_9
  have r4_rgk_9 := cell_of_row _ _ 4 _ _ _ rgk_9
  have r5_rgk_9 := cell_of_row _ _ 5 _ _ _ rgk_9
  have f0_rgk_9 := frozen_of_row _ _ 0 _ _ rgk_9
  have f1_rgk_9 := frozen_of_row _ _ 1 _ _ rgk_9
  have f2_rgk_9 := frozen_of_row _ _ 2 _ _ rgk_9
  have f3_rgk_9 := frozen_of_row _ _ 3 _ _ rgk_9
  have f4_rgk_9 := frozen_of_row _ _ 4 _ _ rgk_9
  have f5_rgk_9 := frozen_of_row _ _ 5 _ _ rgk_9
  simp at r0_rgk_9 r1_rgk_9 r2_rgk_9 r3_rgk_9 r4_rgk_9 r5_rgk_9
  clear rgk_9
  clear r0_ra1_8 f0_ra1_8 r1_ra1_8 f1_ra1_8 r2_ra1_8 f2_ra1_8
  clear r0_rb_8 f0_rb_8 r1_rb_8 f1_rb_8 r2_rb_8 f2_rb_8
  clear r0_rbk_8 f0_rbk_8 r1_rbk_8 f1_rbk_8 r2_rbk_8 f2_rbk_8 r3_rbk_8 f3_rbk_8 r4_rbk_8 f4_rbk_8 r5_rbk_8 f5_rbk_8
  clear r0_rq_8 f0_rq_8 r1_rq_8 f1_rq_8 r2_rq_8 f2_rq_8
  clear r0_rg_8 f0_rg_8 r1_rg_8 f1_rg_8 r2_rg_8 f2_rg_8
  clear r0_rgk_8 f0_rgk_8 r1_rgk_8 f1_rgk_8 r2_rgk_8 f2_rgk_8 r3_rgk_8 f3_rgk_8 r4_rgk_8 f4_rgk_8 r5_rgk_8 f5_rgk_8
  clear hO91 hg91
  have hk9 : ¬ (((1 + 3 * x1.ca.length : Nat) : Int) < 0) := by omega
  go_wp2_with fail
  refine (eqLink_same ⟨x1.mac, x1.ip, r⟩ _ _ NR.out _ Og1_9.out.rd Ob1_9.out.rd).mono ?_
  rintro e w10 ⟨rfl, hb10⟩
  have hz10 := hb10.size
  (try simp at hz10)
  have ra1_10 := (hb10.block _ (by first | omega | (simp; done) | (simp; omega))).trans Ra1_9.out
  have rb_10 := (hb10.block _ (by first | omega | (simp; done) | (simp; omega))).trans Rb_9.out
  have rbk_10 := (hb10.block _ (by first | omega | (simp; done) | (simp; omega))).trans Rbk_9.out
  have rq_10 := (hb10.block _ (by first | omega | (simp; done) | (simp; omega))).trans Rq_9.out
  have rg_10 := (hb10.block _ (by first | omega | (simp; done) | (simp; omega))).trans Rg_9.out
  have rgk_10 := (hb10.block _ (by first | omega | (simp; done) | (simp; omega))).trans Rgk_9.out
  have Ob1_10 := Lib.hid (Ob1_9.out.below (w' := w10) (by repeat (first | with_reducible exact Below.refl _ _ | with_reducible assumption | with_reducible refine Below.drew ?_ | with_reducible refine Below.alloc ?_ (by first | exact Nat.le_refl _ | omega | (simp; done) | (simp; omega)) _ | with_reducible refine Below.setCell ?_ (by first | exact Nat.le_refl _ | omega | (simp; done) | (simp; omega)) _ | (with_reducible refine ext_trans ?_ (by with_reducible assumption)))))
  have Og1_10 := Lib.hid (Og1_9.out.below (w' := w10) (by repeat (first | with_reducible exact Below.refl _ _ | with_reducible assumption | with_reducible refine Below.drew ?_ | with_reducible refine Below.alloc ?_ (by first | exact Nat.le_refl _ | omega | (simp; done) | (simp; omega)) _ | with_reducible refine Below.setCell ?_ (by first | exact Nat.le_refl _ | omega | (simp; done) | (simp; omega)) _ | (with_reducible refine ext_trans ?_ (by with_reducible assumption)))))
  have hw10 : Below w.heap.size w w10 := (by repeat (first | with_reducible exact Below.refl _ _ | with_reducible assumption | with_reducible refine Below.drew ?_ | with_reducible refine Below.alloc ?_ (by first | exact Nat.le_refl _ | omega | (simp; done) | (simp; omega)) _ | with_reducible refine Below.setCell ?_ (by first | exact Nat.le_refl _ | omega | (simp; done) | (simp; omega)) _ | (with_reducible refine ext_trans ?_ (by with_reducible assumption))))
  have lRa1_10 : w.heap.size < w10.heap.size := by omega
  have lRb_10 : w3.heap.size < w10.heap.size := by omega
  have lRbk_10 : w3.heap.size + 1 < w10.heap.size := by omega
  have lRq_10 : w4.heap.size < w10.heap.size := by omega
  have lRg_10 : w5.heap.size < w10.heap.size := by omega
  have lRgk_10 : w5.heap.size + 1 < w10.heap.size := by omega
  have Ra1_10 := Lib.hid ra1_10
  have r0_ra1_10 := cell_of_row _ _ 0 _ _ _ ra1_10
  have r1_ra1_10 := cell_of_row _ _ 1 _ _ _ ra1_10
  have r2_ra1_10 := cell_of_row _ _ 2 _ _ _ ra1_10
  have f0_ra1_10 := frozen_of_row _ _ 0 _ _ ra1_10
  have f1_ra1_10 := frozen_of_row _ _ 1 _ _ ra1_10
  have f2_ra1_10 := frozen_of_row _ _ 2 _ _ ra1_10
  simp at r0_ra1_10 r1_ra1_10 r2_ra1_10
  clear ra1_10
  have Rb_10 := Lib.hid rb_10
  have r0_rb_10 := cell_of_row _ _ 0 _ _ _ rb_10
  have r1_rb_10 := cell_of_row _ _ 1 _ _ _ rb_10
  have r2_rb_10 := cell_of_row _ _ 2 _ _ _ rb_10
  have f0_rb_10 := frozen_of_row _ _ 0 _ _ rb_10
  have f1_rb_10 := frozen_of_row _ _ 1 _ _ rb_10
  have f2_rb_10 := frozen_of_row _ _ 2 _ _ rb_10
  simp at r0_rb_10 r1_rb_10 r2_rb_10
  clear rb_10
  have Rbk_10 := Lib.hid rbk_10
  have r0_rbk_10 := cell_of_row _ _ 0 _ _ _ rbk_10
  have r1_rbk_10 := cell_of_row _ _ 1 _ _ _ rbk_10
  have r2_rbk_10 := cell_of_row _ _ 2 _ _ _ rbk_10
  have r3_rbk_10 := cell_of_row _ _ 3 _ _ _ rbk_10
  have r4_rbk_10 := cell_of_row _ _ 4 _ _ _ rbk_10
  have r5_rbk_10 := cell_of_row _ _ 5 _ _ _ rbk_10
  have f0_rbk_10 := frozen_of_row _ _ 0 _ _ rbk_10
  have f1_rbk_10 := frozen_of_row _ _ 1 _ _ rbk_10
  have f2_rbk_10 := frozen_of_row _ _ 2 _ _ rbk_10
  have f3_rbk_10 := frozen_of_row _ _ 3 _ _ rbk_10
  have f4_rbk_10 := frozen_of_row _ _ 4 _ _ rbk_10
  have f5_rbk_10 := frozen_of_row _ _ 5 _ _ rbk_10
  simp at r0_rbk_10 r1_rbk_10 r2_rbk_10 r3_rbk_10 r4_rbk_10 r5_rbk_10
  clear rbk_10
  have Rq_10 := Lib.hid rq_10
  have r0_rq_10 := cell_of_row _ _ 0 _ _ _ rq_10
  have r1_rq_10 := cell_of_row _ _ 1 _ _ _ rq_10
  have r2_rq_10 := cell_of_row _ _ 2 _ _ _ rq_10
  have f0_rq_10 := frozen_of_row _ _ 0 _ _ rq_10
  have f1_rq_10 := frozen_of_row _ _ 1 _ _ rq_10
  have f2_rq_10 := frozen_of_row _ _ 2 _ _ rq_10
  simp at r0_rq_10 r1_rq_10 r2_rq_10
  clear rq_10
  have Rg_10 := Lib.hid rg_10
  have r0_rg_10 := cell_of_row _ _ 0 _ _ _ rg_10
  have r1_rg_10 := cell_of_row _ _ 1 _ _ _ rg_10
  have r2_rg_10 := cell_of_row _ _ 2 _ _ _ rg_10
  have f0_rg_10 := frozen_of_row _ _ 0 _ _ rg_10
  have f1_rg_10 := frozen_of_row _ _ 1 _ _ rg_10
  have f2_rg_10 := frozen_of_row _ _ 2 _ _ rg_10
  simp at r0_rg_10 r1_rg_10 r2_rg_10
  clear rg_10
  have Rgk_10 := Lib.hid rgk_10
  have r0_rgk_10 := cell_of_row _ _ 0 _ _ _ rgk_10
  have r1_rgk_10 := cell_of_row _ _ 1 _ _ _ rgk_10
  have r2_rgk_10 := cell_of_row _ _ 2 _ _ _ rgk_10
  have r3_rgk_10 := cell_of_row _ _ 3 _ _ _ rgk_10
  have r4_rgk_10 := cell_of_row _ _ 4 _ _ _ rgk_10
  have r5_rgk_10 := cell_of_row _ _ 5 _ _ _ rgk_10
  have f0_rgk_10 := frozen_of_row _ _ 0 _ _ rgk_10
  have f1_rgk_10 := frozen_of_row _ _ 1 _ _ rgk_10
  have f2_rgk_10 := frozen_of_row _ _ 2 _ _ rgk_10
  have f3_rgk_10 := frozen_of_row _ _ 3 _ _ rgk_10
  have f4_rgk_10 := frozen_of_row _ _ 4 _ _ rgk_10
  have f5_rgk_10 := frozen_of_row _ _ 5 _ _ rgk_10
  simp at r0_rgk_10 r1_rgk_10 r2_rgk_10 r3_rgk_10 r4_rgk_10 r5_rgk_10
  clear rgk_10
  clear r0_ra1_9 f0_ra1_9 r1_ra1_9 f1_ra1_9 r2_ra1_9 f2_ra1_9
  clear r0_rb_9 f0_rb_9 r1_rb_9 f1_rb_9 r2_rb_9 f2_rb_9
  clear r0_rbk_9 f0_rbk_9 r1_rbk_9 f1_rbk_9 r2_rbk_9 f2_rbk_9 r3_rbk_9 f3_rbk_9 r4_rbk_9 f4_rbk_9 r5_rbk_9 f5_rbk_9
  clear r0_rq_9 f0_rq_9 r1_rq_9 f1_rq_9 r2_rq_9 f2_rq_9
  clear r0_rg_9 f0_rg_9 r1_rg_9 f1_rg_9 r2_rg_9 f2_rg_9
  clear r0_rgk_9 f0_rgk_9 r1_rgk_9 f1_rgk_9 r2_rgk_9 f2_rgk_9 r3_rgk_9 f3_rgk_9 r4_rgk_9 f4_rgk_9 r5_rgk_9 f5_rgk_9
  go_wp2_with fail
  refine (eqPacket_same b1 b2 b3 b4 b5 b6 _).mono ?_
  rintro e w11 ⟨rfl, hb11⟩
  have hz11 := hb11.size
  (try simp at hz11)
  have ra1_11 := (hb11.block _ (by first | omega | (simp; done) | (simp; omega))).trans Ra1_10.out
  have rb_11 := (hb11.block _ (by first | omega | (simp; done) | (simp; omega))).trans Rb_10.out
  have rbk_11 := (hb11.block _ (by first | omega | (simp; done) | (simp; omega))).trans Rbk_10.out
  have rq_11 := (hb11.block _ (by first | omega | (simp; done) | (simp; omega))).trans Rq_10.out
  have rg_11 := (hb11.block _ (by first | omega | (simp; done) | (simp; omega))).trans Rg_10.out
  have rgk_11 := (hb11.block _ (by first | omega | (simp; done) | (simp; omega))).trans Rgk_10.out
  have Ob1_11 := Lib.hid (Ob1_10.out.below (w' := w11) (by repeat (first | with_reducible exact Below.refl _ _ | with_reducible assumption | with_reducible refine Below.drew ?_ | with_reducible refine Below.alloc ?_ (by first | exact Nat.le_refl _ | omega | (simp; done) | (simp; omega)) _ | with_reducible refine Below.setCell ?_ (by first | exact Nat.le_refl _ | omega | (simp; done) | (simp; omega)) _ | (with_reducible refine ext_trans ?_ (by with_reducible assumption)))))
  have Og1_11 := Lib.hid (Og1_10.out.below (w' := w11) (by repeat (first | with_reducible exact Below.refl _ _ | with_reducible assumption | with_reducible refine Below.drew ?_ | with_reducible refine Below.alloc ?_ (by first | exact Nat.le_refl _ | omega | (simp; done) | (simp; omega)) _ | with_reducible refine Below.setCell ?_ (by first | exact Nat.le_refl _ | omega | (simp; done) | (simp; omega)) _ | (with_reducible refine ext_trans ?_ (by with_reducible assumption)))))
  have hw11 : Below w.heap.size w w11 := (by repeat (first | with_reducible exact Below.refl _ _ | with_reducible assumption | with_reducible refine Below.drew ?_ | with_reducible refine Below.alloc ?_ (by first | exact Nat.le_refl _ | omega | (simp; done) | (simp; omega)) _ | with_reducible refine Below.setCell ?_ (by first | exact Nat.le_refl _ | omega | (simp; done) | (simp; omega)) _ | (with_reducible refine ext_trans ?_ (by with_reducible assumption))))
  have lRa1_11 : w.heap.size < w11.heap.size := by omega
  have lRb_11 : w3.heap.size < w11.heap.size := by omega
  have lRbk_11 : w3.heap.size + 1 < w11.heap.size := by omega
  have lRq_11 : w4.heap.size < w11.heap.size := by omega
  have lRg_11 : w5.heap.size < w11.heap.size := by omega
  have lRgk_11 : w5.heap.size + 1 < w11.heap.size := by omega
  have Ra1_11 := Lib.hid ra1_11
  have r0_ra1_11 := cell_of_row _ _ 0 _ _ _ ra1_11
  have r1_ra1_11 := cell_of_row _ _ 1 _ _ _ ra1_11
  have r2_ra1_11 := cell_of_row _ _ 2 _ _ _ ra1_11
  have f0_ra1_11 := frozen_of_row _ _ 0 _ _ ra1_11
  have f1_ra1_11 := frozen_of_row _ _ 1 _ _ ra1_11
  have f2_ra1_11 := frozen_of_row _ _ 2 _ _ ra1_11
  simp at r0_ra1_11 r1_ra1_11 r2_ra1_11
  clear ra1_11
  have Rb_11 := Lib.hid rb_11
  have r0_rb_11 := cell_of_row _ _ 0 _ _ _ rb_11
  have r1_rb_11 := cell_of_row _ _ 1 _ _ _ rb_11
  have r2_rb_11 := cell_of_row _ _ 2 _ _ _ rb_11
  have f0_rb_11 := frozen_of_row _ _ 0 _ _ rb_11
  have f1_rb_11 := frozen_of_row _ _ 1 _ _ rb_11
  have f2_rb_11 := frozen_of_row _ _ 2 _ _ rb_11
  simp at r0_rb_11 r1_rb_11 r2_rb_11
  clear rb_11
  have Rbk_11 := Lib.hid rbk_11
  have r0_rbk_11 := cell_of_row _ _ 0 _ _ _ rbk_11
  have r1_rbk_11 := cell_of_row _ _ 1 _ _ _ rbk_11
  have r2_rbk_11 := cell_of_row _ _ 2 _ _ _ rbk_11
  have r3_rbk_11 := cell_of_row _ _ 3 _ _ _ rbk_11
  have r4_rbk_11 := cell_of_row _ _ 4 _ _ _ rbk_11
  have r5_rbk_11 := cell_of_row _ _ 5 _ _ _ rbk_11
  have f0_rbk_11 := frozen_of_row _ _ 0 _ _ rbk_11
  have f1_rbk_11 := frozen_of_row _ _ 1 _ _ rbk_11
  have f2_rbk_11 := frozen_of_row _ _ 2 _ _ rbk_11
  have f3_rbk_11 := frozen_of_row _ _ 3 _ _ rbk_11
  have f4_rbk_11 := frozen_of_row _ _ 4 _ _ rbk_11
  have f5_rbk_11 := frozen_of_row _ _ 5 _ _ rbk_11
  simp at r0_rbk_11 r1_rbk_11 r2_rbk_11 r3_rbk_11 r4_rbk_11 r5_rbk_11
  clear rbk_11
  have Rq_11 := Lib.hid rq_11
  have r0_rq_11 := cell_of_row _ _ 0 _ _ _ rq_11
  have r1_rq_11 := cell_of_row _ _ 1 _ _ _ rq_11
  have r2_rq_11 := cell_of_row _ _ 2 _ _ _ rq_11
  have f0_rq_11 := frozen_of_row _ _ 0 _ _ rq_11
  have f1_rq_11 := frozen_of_row _ _ 1 _ _ rq_11
  have f2_rq_11 := frozen_of_row _ _ 2 _ _ rq_11
  simp at r0_rq_11 r1_rq_11 r2_rq_11
  clear rq_11
  have Rg_11 := Lib.hid rg_11
  have r0_rg_11 := cell_of_row _ _ 0 _ _ _ rg_11
  have r1_rg_11 := cell_of_row _ _ 1 _ _ _ rg_11
  have r2_rg_11 := cell_of_row _ _ 2 _ _ _ rg_11
  have f0_rg_11 := frozen_of_row _ _ 0 _ _ rg_11
  have f1_rg_11 := frozen_of_row _ _ 1 _ _ rg_11
  have f2_rg_11 := frozen_of_row _ _ 2 _ _ rg_11
  simp at r0_rg_11 r1_rg_11 r2_rg_11
  clear rg_11
  have Rgk_11 := Lib.hid rgk_11
  have r0_rgk_11 := cell_of_row _ _ 0 _ _ _ rgk_11
  have r1_rgk_11 := cell_of_row _ _ 1 _ _ _ rgk_11
  have r2_rgk_11 := cell_of_row _ _ 2 _ _ _ rgk_11
  have r3_rgk_11 := cell_of_row _ _ 3 _ _ _ rgk_11
  have r4_rgk_11 := cell_of_row _ _ 4 _ _ _ rgk_11
  have r5_rgk_11 := cell_of_row _ _ 5 _ _ _ rgk_11
  have f0_rgk_11 := frozen_of_row _ _ 0 _ _ rgk_11
  have f1_rgk_11 := frozen_of_row _ _ 1 _ _ rgk_11
  have f2_rgk_11 := frozen_of_row _ _ 2 _ _ rgk_11
  have f3_rgk_11 := frozen_of_row _ _ 3 _ _ rgk_11
  have f4_rgk_11 := frozen_of_row _ _ 4 _ _ rgk_11
  have f5_rgk_11 := frozen_of_row _ _ 5 _ _ rgk_11
  simp at r0_rgk_11 r1_rgk_11 r2_rgk_11 r3_rgk_11 r4_rgk_11 r5_rgk_11
  clear rgk_11
  clear r0_ra1_10 f0_ra1_10 r1_ra1_10 f1_ra1_10 r2_ra1_10 f2_ra1_10
  clear r0_rb_10 f0_rb_10 r1_rb_10 f1_rb_10 r2_rb_10 f2_rb_10
  clear r0_rbk_10 f0_rbk_10 r1_rbk_10 f1_rbk_10 r2_rbk_10 f2_rbk_10 r3_rbk_10 f3_rbk_10 r4_rbk_10 f4_rbk_10 r5_rbk_10 f5_rbk_10
  clear r0_rq_10 f0_rq_10 r1_rq_10 f1_rq_10 r2_rq_10 f2_rq_10
  clear r0_rg_10 f0_rg_10 r1_rg_10 f1_rg_10 r2_rg_10 f2_rg_10
  clear r0_rgk_10 f0_rgk_10 r1_rgk_10 f1_rgk_10 r2_rgk_10 f2_rgk_10 r3_rgk_10 f3_rgk_10 r4_rgk_10 f4_rgk_10 r5_rgk_10 f5_rgk_10
  go_wp2_with fail
  refine (markLink_any ⟨x1.mac, x1.ip, r⟩ _ MR.out 1 (by omega) (by omega) _ _ Og1_11.out).mono ?_
  rintro e w12 ⟨rfl, hO121, hg121⟩
  have hz121 := hg121.size
  have hz12 : w11.heap.size ≤ w12.heap.size := by omega
  have ra1_12 := (box_kept (bx := w.heap.size) Bg1.out (marksEntry_len _ _) hg121 (by omega) (by omega)).trans (Ra1_11.out)
  have rb_12 := (box_kept (bx := w3.heap.size) Bg1.out (marksEntry_len _ _) hg121 (by omega) (by omega)).trans (Rb_11.out)
  have rbk_12 := (box_kept (bx := w3.heap.size + 1) Bg1.out (marksEntry_len _ _) hg121 (by omega) (by omega)).trans (Rbk_11.out)
  have rq_12 := (box_kept (bx := w4.heap.size) Bg1.out (marksEntry_len _ _) hg121 (by omega) (by omega)).trans (Rq_11.out)
  have rg_12 := (box_kept (bx := w5.heap.size) Bg1.out (marksEntry_len _ _) hg121 (by omega) (by omega)).trans (Rg_11.out)
  have rgk_12 := (box_kept (bx := w5.heap.size + 1) Bg1.out (marksEntry_len _ _) hg121 (by omega) (by omega)).trans (Rgk_11.out)
  have hw12 : Below w.heap.size w w12 := Below.grown hw11 hg121 hw11.size (fun k hk => by have := chg_ge Bg1.out (marksEntry_len _ _) k hk; omega)
  have Ob1_12 := Lib.hid (OwnE.apart Ob1_11.out hg121 (fun h h' => (own_ne Bb1.out Bg1.out (by first | omega | (simp; omega)) h (marks_neEntry h'))))
  have Og1_12 := Lib.hid hO121
  have lRa1_12 : w.heap.size < w12.heap.size := by omega
  have lRb_12 : w3.heap.size < w12.heap.size := by omega
  have lRbk_12 : w3.heap.size + 1 < w12.heap.size := by omega
  have lRq_12 : w4.heap.size < w12.heap.size := by omega
  have lRg_12 : w5.heap.size < w12.heap.size := by omega
  have lRgk_12 : w5.heap.size + 1 < w12.heap.size := by omega
  have Ra1_12 := Lib.hid ra1_12
  have r0_ra1_12 := cell_of_row _ _ 0 _ _ _ ra1_12
  have r1_ra1_12 := cell_of_row _ _ 1 _ _ _ ra1_12
  have r2_ra1_12 := cell_of_row _ _ 2 _ _ _ ra1_12
  have f0_ra1_12 := frozen_of_row _ _ 0 _ _ ra1_12
  have f1_ra1_12 := frozen_of_row _ _ 1 _ _ ra1_12
  have f2_ra1_12 := frozen_of_row _ _ 2 _ _ ra1_12
  simp at r0_ra1_12 r1_ra1_12 r2_ra1_12
  clear ra1_12
  have Rb_12 := Lib.hid rb_12
  have r0_rb_12 := cell_of_row _ _ 0 _ _ _ rb_12
  have r1_rb_12 := cell_of_row _ _ 1 _ _ _ rb_12
  have r2_rb_12 := cell_of_row _ _ 2 _ _ _ rb_12
  have f0_rb_12 := frozen_of_row _ _ 0 _ _ rb_12
  have f1_rb_12 := frozen_of_row _ _ 1 _ _ rb_12
  have f2_rb_12 := frozen_of_row _ _ 2 _ _ rb_12
  simp at r0_rb_12 r1_rb_12 r2_rb_12
  clear rb_12
  have Rbk_12 := Lib.hid rbk_12
  have r0_rbk_12 := cell_of_row _ _ 0 _ _ _ rbk_12
  have r1_rbk_12 := cell_of_row _ _ 1 _ _ _ rbk_12
  have r2_rbk_12 := cell_of_row _ _ 2 _ _ _ rbk_12
  have r3_rbk_12 := cell_of_row _ _ 3 _ _ _ rbk_12
  have r4_rbk_12 := cell_of_row _ _ 4 _ _ _ rbk_12
  have r5_rbk_12 := cell_of_row _ _ 5 _ _ _ rbk_12
  have f0_rbk_12 := frozen_of_row _ _ 0 _ _ rbk_12
  have f1_rbk_12 := frozen_of_row _ _ 1 _ _ rbk_12
  have f2_rbk_12 := frozen_of_row _ _ 2 _ _ rbk_12
  have f3_rbk_12 := frozen_of_row _ _ 3 _ _ rbk_12
  have f4_rbk_12 := frozen_of_row _ _ 4 _ _ rbk_12
  have f5_rbk_12 := frozen_of_row _ _ 5 _ _ rbk_12
  simp at r0_rbk_12 r1_rbk_12 r2_rbk_12 r3_rbk_12 r4_rbk_12 r5_rbk_12
  clear rbk_12
  have Rq_12 := Lib.hid rq_12
  have r0_rq_12 := cell_of_row _ _ 0 _ _ _ rq_12
  have r1_rq_12 := cell_of_row _ _ 1 _ _ _ rq_12
  have r2_rq_12 := cell_of_row _ _ 2 _ _ _ rq_12
  have f0_rq_12 := frozen_of_row _ _ 0 _ _ rq_12
  have f1_rq_12 := frozen_of_row _ _ 1 _ _ rq_12
  have f2_rq_12 := frozen_of_row _ _ 2 _ _ rq_12
  simp at r0_rq_12 r1_rq_12 r2_rq_12
  clear rq_12
  have Rg_12 := Lib.hid rg_12
  have r0_rg_12 := cell_of_row _ _ 0 _ _ _ rg_12
  have r1_rg_12 := cell_of_row _ _ 1 _ _ _ rg_12
  have r2_rg_12 := cell_of_row _ _ 2 _ _ _ rg_12
  have f0_rg_12 := frozen_of_row _ _ 0 _ _ rg_12
  have f1_rg_12 := frozen_of_row _ _ 1 _ _ rg_12
  have f2_rg_12 := frozen_of_row _ _ 2 _ _ rg_12
  simp at r0_rg_12 r1_rg_12 r2_rg_12
  clear rg_12
  have Rgk_12 := Lib.hid rgk_12
  have r0_rgk_12 := cell_of_row _ _ 0 _ _ _ rgk_12
  have r1_rgk_12 := cell_of_row _ _ 1 _ _ _ rgk_12
  have r2_rgk_12 := cell_of_row _ _ 2 _ _ _ rgk_12
  have r3_rgk_12 := cell_of_row _ _ 3 _ _ _ rgk_12
  have r4_rgk_12 := cell_of_row _ _ 4 _ _ _ rgk_12
  have r5_rgk_12 := cell_of_row _ _ 5 _ _ _ rgk_12
  have f0_rgk_12 := frozen_of_row _ _ 0 _ _ rgk_12
  have f1_rgk_12 := frozen_of_row _ _ 1 _ _ rgk_12
  have f2_rgk_12 := frozen_of_row _ _ 2 _ _ rgk_12
  have f3_rgk_12 := frozen_of_row _ _ 3 _ _ rgk_12
  have f4_rgk_12 := frozen_of_row _ _ 4 _ _ rgk_12
  have f5_rgk_12 := frozen_of_row _ _ 5 _ _ rgk_12
  simp at r0_rgk_12 r1_rgk_12 r2_rgk_12 r3_rgk_12 r4_rgk_12 r5_rgk_12
  clear rgk_12
  clear r0_ra1_11 f0_ra1_11 r1_ra1_11 f1_ra1_11 r2_ra1_11 f2_ra1_11
  clear r0_rb_11 f0_rb_11 r1_rb_11 f1_rb_11 r2_rb_11 f2_rb_11
  clear r0_rbk_11 f0_rbk_11 r1_rbk_11 f1_rbk_11 r2_rbk_11 f2_rbk_11 r3_rbk_11 f3_rbk_11 r4_rbk_11 f4_rbk_11 r5_rbk_11 f5_rbk_11
  clear r0_rq_11 f0_rq_11 r1_rq_11 f1_rq_11 r2_rq_11 f2_rq_11
  clear r0_rg_11 f0_rg_11 r1_rg_11 f1_rg_11 r2_rg_11 f2_rg_11
  clear r0_rgk_11 f0_rgk_11 r1_rgk_11 f1_rgk_11 r2_rgk_11 f2_rgk_11 r3_rgk_11 f3_rgk_11 r4_rgk_11 f4_rgk_11 r5_rgk_11 f5_rgk_11
  clear hO121 hg121
  go_wp2_with fail
  refine (heldLink_any ⟨x1.mac, x1.ip, r⟩ _ r.length MR.out 1 (by omega) (by omega) _ (marked_rdEntry Og1_12.out)).mono ?_
  rintro e w13 ⟨rfl, hb13⟩
  have hz13 := hb13.size
  (try simp at hz13)
  have ra1_13 := (hb13.block _ (by first | omega | (simp; done) | (simp; omega))).trans Ra1_12.out
  have rb_13 := (hb13.block _ (by first | omega | (simp; done) | (simp; omega))).trans Rb_12.out
  have rbk_13 := (hb13.block _ (by first | omega | (simp; done) | (simp; omega))).trans Rbk_12.out
  have rq_13 := (hb13.block _ (by first | omega | (simp; done) | (simp; omega))).trans Rq_12.out
  have rg_13 := (hb13.block _ (by first | omega | (simp; done) | (simp; omega))).trans Rg_12.out
  have rgk_13 := (hb13.block _ (by first | omega | (simp; done) | (simp; omega))).trans Rgk_12.out
  have Ob1_13 := Lib.hid (Ob1_12.out.below (w' := w13) (by repeat (first | with_reducible exact Below.refl _ _ | with_reducible assumption | with_reducible refine Below.drew ?_ | with_reducible refine Below.alloc ?_ (by first | exact Nat.le_refl _ | omega | (simp; done) | (simp; omega)) _ | with_reducible refine Below.setCell ?_ (by first | exact Nat.le_refl _ | omega | (simp; done) | (simp; omega)) _ | (with_reducible refine ext_trans ?_ (by with_reducible assumption)))))
  have Og1_13 := Lib.hid (Og1_12.out.below (w' := w13) (by repeat (first | with_reducible exact Below.refl _ _ | with_reducible assumption | with_reducible refine Below.drew ?_ | with_reducible refine Below.alloc ?_ (by first | exact Nat.le_refl _ | omega | (simp; done) | (simp; omega)) _ | with_reducible refine Below.setCell ?_ (by first | exact Nat.le_refl _ | omega | (simp; done) | (simp; omega)) _ | (with_reducible refine ext_trans ?_ (by with_reducible assumption)))))
  have hw13 : Below w.heap.size w w13 := (by repeat (first | with_reducible exact Below.refl _ _ | with_reducible assumption | with_reducible refine Below.drew ?_ | with_reducible refine Below.alloc ?_ (by first | exact Nat.le_refl _ | omega | (simp; done) | (simp; omega)) _ | with_reducible refine Below.setCell ?_ (by first | exact Nat.le_refl _ | omega | (simp; done) | (simp; omega)) _ | (with_reducible refine ext_trans ?_ (by with_reducible assumption))))
  have lRa1_13 : w.heap.size < w13.heap.size := by omega
  have lRb_13 : w3.heap.size < w13.heap.size := by omega
  have lRbk_13 : w3.heap.size + 1 < w13.heap.size := by omega
  have lRq_13 : w4.heap.size < w13.heap.size := by omega
  have lRg_13 : w5.heap.size < w13.heap.size := by omega
  have lRgk_13 : w5.heap.size + 1 < w13.heap.size := by omega
  have Ra1_13 := Lib.hid ra1_13
  have r0_ra1_13 := cell_of_row _ _ 0 _ _ _ ra1_13
  have r1_ra1_13 := cell_of_row _ _ 1 _ _ _ ra1_13
  have r2_ra1_13 := cell_of_row _ _ 2 _ _ _ ra1_13
  have f0_ra1_13 := frozen_of_row _ _ 0 _ _ ra1_13
  have f1_ra1_13 := frozen_of_row _ _ 1 _ _ ra1_13
  have f2_ra1_13 := frozen_of_row _ _ 2 _ _ ra1_13
  simp at r0_ra1_13 r1_ra1_13 r2_ra1_13
  clear ra1_13
  have Rb_13 := Lib.hid rb_13
  have r0_rb_13 := cell_of_row _ _ 0 _ _ _ rb_13
  have r1_rb_13 := cell_of_row _ _ 1 _ _ _ rb_13
  have r2_rb_13 := cell_of_row _ _ 2 _ _ _ rb_13
  have f0_rb_13 := frozen_of_row _ _ 0 _ _ rb_13
  have f1_rb_13 := frozen_of_row _ _ 1 _ _ rb_13
  have f2_rb_13 := frozen_of_row _ _ 2 _ _ rb_13
  simp at r0_rb_13 r1_rb_13 r2_rb_13
  clear rb_13
  have Rbk_13 := Lib.hid rbk_13
  have r0_rbk_13 := cell_of_row _ _ 0 _ _ _ rbk_13
  have r1_rbk_13 := cell_of_row _ _ 1 _ _ _ rbk_13
  have r2_rbk_13 := cell_of_row _ _ 2 _ _ _ rbk_13
  have r3_rbk_13 := cell_of_row _ _ 3 _ _ _ rbk_13
  have r4_rbk_13 := cell_of_row _ _ 4 _ _ _ rbk_13
  have r5_rbk_13 := cell_of_row _ _ 5 _ _ _ rbk_13
  have f0_rbk_13 := frozen_of_row _ _ 0 _ _ rbk_13
  have f1_rbk_13 := frozen_of_row _ _ 1 _ _ rbk_13
  have f2_rbk_13 := frozen_of_row _ _ 2 _ _ rbk_13
  have f3_rbk_13 := frozen_of_row _ _ 3 _ _ rbk_13
  have f4_rbk_13 := frozen_of_row _ _ 4 _ _ rbk_13
  have f5_rbk_13 := frozen_of_row _ _ 5 _ _ rbk_13
  simp at r0_rbk_13 r1_rbk_13 r2_rbk_13 r3_rbk_13 r4_rbk_13 r5_rbk_13
  clear rbk_13
  have Rq_13 := Lib.hid rq_13
  have r0_rq_13 := cell_of_row _ _ 0 _ _ _ rq_13
  have r1_rq_13 := cell_of_row _ _ 1 _ _ _ rq_13
  have r2_rq_13 := cell_of_row _ _ 2 _ _ _ rq_13
  have f0_rq_13 := frozen_of_row _ _ 0 _ _ rq_13
  have f1_rq_13 := frozen_of_row _ _ 1 _ _ rq_13
  have f2_rq_13 := frozen_of_row _ _ 2 _ _ rq_13
  simp at r0_rq_13 r1_rq_13 r2_rq_13
  clear rq_13
  have Rg_13 := Lib.hid rg_13
  have r0_rg_13 := cell_of_row _ _ 0 _ _ _ rg_13
  have r1_rg_13 := cell_of_row _ _ 1 _ _ _ rg_13
  have r2_rg_13 := cell_of_row _ _ 2 _ _ _ rg_13
  have f0_rg_13 := frozen_of_row _ _ 0 _ _ rg_13
  have f1_rg_13 := frozen_of_row _ _ 1 _ _ rg_13
  have f2_rg_13 := frozen_of_row _ _ 2 _ _ rg_13
  simp at r0_rg_13 r1_rg_13 r2_rg_13
  clear rg_13
  have Rgk_13 := Lib.hid rgk_13
  have r0_rgk_13 := cell_of_row _ _ 0 _ _ _ rgk_13
  have r1_rgk_13 := cell_of_row _ _ 1 _ _ _ rgk_13
  have r2_rgk_13 := cell_of_row _ _ 2 _ _ _ rgk_13
  have r3_rgk_13 := cell_of_row _ _ 3 _ _ _ rgk_13
  have r4_rgk_13 := cell_of_row _ _ 4 _ _ _ rgk_13
  have r5_rgk_13 := cell_of_row _ _ 5 _ _ _ rgk_13
  have f0_rgk_13 := frozen_of_row _ _ 0 _ _ rgk_13
  have f1_rgk_13 := frozen_of_row _ _ 1 _ _ rgk_13
  have f2_rgk_13 := frozen_of_row _ _ 2 _ _ rgk_13
  have f3_rgk_13 := frozen_of_row _ _ 3 _ _ rgk_13
  have f4_rgk_13 := frozen_of_row _ _ 4 _ _ rgk_13
  have f5_rgk_13 := frozen_of_row _ _ 5 _ _ rgk_13
  simp at r0_rgk_13 r1_rgk_13 r2_rgk_13 r3_rgk_13 r4_rgk_13 r5_rgk_13
  clear rgk_13
  clear r0_ra1_12 f0_ra1_12 r1_ra1_12 f1_ra1_12 r2_ra1_12 f2_ra1_12
  clear r0_rb_12 f0_rb_12 r1_rb_12 f1_rb_12 r2_rb_12 f2_rb_12
  clear r0_rbk_12 f0_rbk_12 r1_rbk_12 f1_rbk_12 r2_rbk_12 f2_rbk_12 r3_rbk_12 f3_rbk_12 r4_rbk_12 f4_rbk_12 r5_rbk_12 f5_rbk_12
  clear r0_rq_12 f0_rq_12 r1_rq_12 f1_rq_12 r2_rq_12 f2_rq_12
  clear r0_rg_12 f0_rg_12 r1_rg_12 f1_rg_12 r2_rg_12 f2_rg_12
  clear r0_rgk_12 f0_rgk_12 r1_rgk_12 f1_rgk_12 r2_rgk_12 f2_rgk_12 r3_rgk_12 f3_rgk_12 r4_rgk_12 f4_rgk_12 r5_rgk_12 f5_rgk_12
  have hk13 : ¬ (((1 + 3 * r.length : Nat) : Int) < 0) := by omega
  go_wp2_with fail
  refine (toLink_any x1 _ M11.out _ (H11.out.below (by repeat (first | with_reducible exact Below.refl _ _ | with_reducible assumption | with_reducible refine Below.drew ?_ | with_reducible refine Below.alloc ?_ (by first | exact Nat.le_refl _ | omega | (simp; done) | (simp; omega)) _ | with_reducible refine Below.setCell ?_ (by first | exact Nat.le_refl _ | omega | (simp; done) | (simp; omega)) _ | (with_reducible refine ext_trans ?_ (by with_reducible assumption)))))).mono ?_
  rintro e w14 ⟨u141, rfl, hO141, hb14⟩
  obtain ⟨A141, c141, rfl⟩ := hO141.form
  have Op1_14 := Lib.hid (OwnE.mono (base' := w13.heap.size) hO141 (by first | exact Nat.le_refl _ | (simp; done) | (simp; omega)))
  have Bp1 := Op1_14
  have hz14 := hb14.size
  (try simp at hz14)
  have ra1_14 := (hb14.block _ (by first | omega | (simp; done) | (simp; omega))).trans Ra1_13.out
  have rb_14 := (hb14.block _ (by first | omega | (simp; done) | (simp; omega))).trans Rb_13.out
  have rbk_14 := (hb14.block _ (by first | omega | (simp; done) | (simp; omega))).trans Rbk_13.out
  have rq_14 := (hb14.block _ (by first | omega | (simp; done) | (simp; omega))).trans Rq_13.out
  have rg_14 := (hb14.block _ (by first | omega | (simp; done) | (simp; omega))).trans Rg_13.out
  have rgk_14 := (hb14.block _ (by first | omega | (simp; done) | (simp; omega))).trans Rgk_13.out
  have Ob1_14 := Lib.hid (Ob1_13.out.below (w' := w14) (by repeat (first | with_reducible exact Below.refl _ _ | with_reducible assumption | with_reducible refine Below.drew ?_ | with_reducible refine Below.alloc ?_ (by first | exact Nat.le_refl _ | omega | (simp; done) | (simp; omega)) _ | with_reducible refine Below.setCell ?_ (by first | exact Nat.le_refl _ | omega | (simp; done) | (simp; omega)) _ | (with_reducible refine ext_trans ?_ (by with_reducible assumption)))))
  have Og1_14 := Lib.hid (Og1_13.out.below (w' := w14) (by repeat (first | with_reducible exact Below.refl _ _ | with_reducible assumption | with_reducible refine Below.drew ?_ | with_reducible refine Below.alloc ?_ (by first | exact Nat.le_refl _ | omega | (simp; done) | (simp; omega)) _ | with_reducible refine Below.setCell ?_ (by first | exact Nat.le_refl _ | omega | (simp; done) | (simp; omega)) _ | (with_reducible refine ext_trans ?_ (by with_reducible assumption)))))
  have hw14 : Below w.heap.size w w14 := (by repeat (first | with_reducible exact Below.refl _ _ | with_reducible assumption | with_reducible refine Below.drew ?_ | with_reducible refine Below.alloc ?_ (by first | exact Nat.le_refl _ | omega | (simp; done) | (simp; omega)) _ | with_reducible refine Below.setCell ?_ (by first | exact Nat.le_refl _ | omega | (simp; done) | (simp; omega)) _ | (with_reducible refine ext_trans ?_ (by with_reducible assumption))))
  have lRa1_14 : w.heap.size < w14.heap.size := by omega
  have lRb_14 : w3.heap.size < w14.heap.size := by omega
  have lRbk_14 : w3.heap.size + 1 < w14.heap.size := by omega
  have lRq_14 : w4.heap.size < w14.heap.size := by omega
  have lRg_14 : w5.heap.size < w14.heap.size := by omega
  have lRgk_14 : w5.heap.size + 1 < w14.heap.size := by omega
  have Ra1_14 := Lib.hid ra1_14
  have r0_ra1_14 := cell_of_row _ _ 0 _ _ _ ra1_14
  have r1_ra1_14 := cell_of_row _ _ 1 _ _ _ ra1_14
  have r2_ra1_14 := cell_of_row _ _ 2 _ _ _ ra1_14
  have f0_ra1_14 := frozen_of_row _ _ 0 _ _ ra1_14
  have f1_ra1_14 := frozen_of_row _ _ 1 _ _ ra1_14
  have f2_ra1_14 := frozen_of_row _ _ 2 _ _ ra1_14
  simp at r0_ra1_14 r1_ra1_14 r2_ra1_14
  clear ra1_14
  have Rb_14 := Lib.hid rb_14
  have r0_rb_14 := cell_of_row _ _ 0 _ _ _ rb_14
  have r1_rb_14 := cell_of_row _ _ 1 _ _ _ rb_14
  have r2_rb_14 := cell_of_row _ _ 2 _ _ _ rb_14
  have f0_rb_14 := frozen_of_row _ _ 0 _ _ rb_14
  have f1_rb_14 := frozen_of_row _ _ 1 _ _ rb_14
  have f2_rb_14 := frozen_of_row _ _ 2 _ _ rb_14
  simp at r0_rb_14 r1_rb_14 r2_rb_14
  clear rb_14
  have Rbk_14 := Lib.hid rbk_14
  have r0_rbk_14 := cell_of_row _ _ 0 _ _ _ rbk_14
  have r1_rbk_14 := cell_of_row _ _ 1 _ _ _ rbk_14
  have r2_rbk_14 := cell_of_row _ _ 2 _ _ _ rbk_14
  have r3_rbk_14 := cell_of_row _ _ 3 _ _ _ rbk_14
  have r4_rbk_14 := cell_of_row _ _ 4 _ _ _ rbk_14
  have r5_rbk_14 := cell_of_row _ _ 5 _ _ _ rbk_14
  have f0_rbk_14 := frozen_of_row _ _ 0 _ _ rbk_14
  have f1_rbk_14 := frozen_of_row _ _ 1 _ _ rbk_14
  have f2_rbk_14 := frozen_of_row _ _ 2 _ _ rbk_14
  have f3_rbk_14 := frozen_of_row _ _ 3 _ _ rbk_14
  have f4_rbk_14 := frozen_of_row _ _ 4 _ _ rbk_14
  have f5_rbk_14 := frozen_of_row _ _ 5 _ _ rbk_14
  simp at r0_rbk_14 r1_rbk_14 r2_rbk_14 r3_rbk_14 r4_rbk_14 r5_rbk_14
  clear rbk_14
  have Rq_14 := Lib.hid rq_14
  have r0_rq_14 := cell_of_row _ _ 0 _ _ _ rq_14
  have r1_rq_14 := cell_of_row _ _ 1 _ _ _ rq_14
  have r2_rq_14 := cell_of_row _ _ 2 _ _ _ rq_14
  have f0_rq_14 := frozen_of_row _ _ 0 _ _ rq_14
  have f1_rq_14 := frozen_of_row _ _ 1 _ _ rq_14
  have f2_rq_14 := frozen_of_row _ _ 2 _ _ rq_14
  simp at r0_rq_14 r1_rq_14 r2_rq_14
  clear rq_14
  have Rg_14 := Lib.hid rg_14
  have r0_rg_14 := cell_of_row _ _ 0 _ _ _ rg_14
  have r1_rg_14 := cell_of_row _ _ 1 _ _ _ rg_14
  have r2_rg_14 := cell_of_row _ _ 2 _ _ _ rg_14
  have f0_rg_14 := frozen_of_row _ _ 0 _ _ rg_14
  have f1_rg_14 := frozen_of_row _ _ 1 _ _ rg_14
  have f2_rg_14 := frozen_of_row _ _ 2 _ _ rg_14
  simp at r0_rg_14 r1_rg_14 r2_rg_14
  clear rg_14
  have Rgk_14 := Lib.hid rgk_14
  have r0_rgk_14 := cell_of_row _ _ 0 _ _ _ rgk_14
  have r1_rgk_14 := cell_of_row _ _ 1 _ _ _ rgk_14
  have r2_rgk_14 := cell_of_row _ _ 2 _ _ _ rgk_14
  have r3_rgk_14 := cell_of_row _ _ 3 _ _ _ rgk_14
  have r4_rgk_14 := cell_of_row _ _ 4 _ _ _ rgk_14
  have r5_rgk_14 := cell_of_row _ _ 5 _ _ _ rgk_14
  have f0_rgk_14 := frozen_of_row _ _ 0 _ _ rgk_14
  have f1_rgk_14 := frozen_of_row _ _ 1 _ _ rgk_14
  have f2_rgk_14 := frozen_of_row _ _ 2 _ _ rgk_14
  have f3_rgk_14 := frozen_of_row _ _ 3 _ _ rgk_14
  have f4_rgk_14 := frozen_of_row _ _ 4 _ _ rgk_14
  have f5_rgk_14 := frozen_of_row _ _ 5 _ _ rgk_14
  simp at r0_rgk_14 r1_rgk_14 r2_rgk_14 r3_rgk_14 r4_rgk_14 r5_rgk_14
  clear rgk_14
  clear r0_ra1_13 f0_ra1_13 r1_ra1_13 f1_ra1_13 r2_ra1_13 f2_ra1_13
  clear r0_rb_13 f0_rb_13 r1_rb_13 f1_rb_13 r2_rb_13 f2_rb_13
  clear r0_rbk_13 f0_rbk_13 r1_rbk_13 f1_rbk_13 r2_rbk_13 f2_rbk_13 r3_rbk_13 f3_rbk_13 r4_rbk_13 f4_rbk_13 r5_rbk_13 f5_rbk_13
  clear r0_rq_13 f0_rq_13 r1_rq_13 f1_rq_13 r2_rq_13 f2_rq_13
  clear r0_rg_13 f0_rg_13 r1_rg_13 f1_rg_13 r2_rg_13 f2_rg_13
  clear r0_rgk_13 f0_rgk_13 r1_rgk_13 f1_rgk_13 r2_rgk_13 f2_rgk_13 r3_rgk_13 f3_rgk_13 r4_rgk_13 f4_rgk_13 r5_rgk_13 f5_rgk_13
  go_wp2_with fail
  refine (HI.out _ _ Op1_14.out.rd).mono ?_
  rintro e w15 ⟨v15, rfl, hO151, hb15⟩
  obtain ⟨A15, c15, rfl⟩ := hO151.form
  have Oh1_15 := Lib.hid (OwnE.mono (base' := w14.heap.size) hO151 (by first | exact Nat.le_refl _ | (simp; done) | (simp; omega)))
  have Bh1 := Oh1_15
  have hz15 := hb15.size
  (try simp at hz15)
  have ra1_15 := (hb15.block _ (by first | omega | (simp; done) | (simp; omega))).trans Ra1_14.out
  have rb_15 := (hb15.block _ (by first | omega | (simp; done) | (simp; omega))).trans Rb_14.out
  have rbk_15 := (hb15.block _ (by first | omega | (simp; done) | (simp; omega))).trans Rbk_14.out
  have rq_15 := (hb15.block _ (by first | omega | (simp; done) | (simp; omega))).trans Rq_14.out
  have rg_15 := (hb15.block _ (by first | omega | (simp; done) | (simp; omega))).trans Rg_14.out
  have rgk_15 := (hb15.block _ (by first | omega | (simp; done) | (simp; omega))).trans Rgk_14.out
  have Ob1_15 := Lib.hid (Ob1_14.out.below (w' := w15) (by repeat (first | with_reducible exact Below.refl _ _ | with_reducible assumption | with_reducible refine Below.drew ?_ | with_reducible refine Below.alloc ?_ (by first | exact Nat.le_refl _ | omega | (simp; done) | (simp; omega)) _ | with_reducible refine Below.setCell ?_ (by first | exact Nat.le_refl _ | omega | (simp; done) | (simp; omega)) _ | (with_reducible refine ext_trans ?_ (by with_reducible assumption)))))
  have Og1_15 := Lib.hid (Og1_14.out.below (w' := w15) (by repeat (first | with_reducible exact Below.refl _ _ | with_reducible assumption | with_reducible refine Below.drew ?_ | with_reducible refine Below.alloc ?_ (by first | exact Nat.le_refl _ | omega | (simp; done) | (simp; omega)) _ | with_reducible refine Below.setCell ?_ (by first | exact Nat.le_refl _ | omega | (simp; done) | (simp; omega)) _ | (with_reducible refine ext_trans ?_ (by with_reducible assumption)))))
  have Op1_15 := Lib.hid (Op1_14.out.below (w' := w15) (by repeat (first | with_reducible exact Below.refl _ _ | with_reducible assumption | with_reducible refine Below.drew ?_ | with_reducible refine Below.alloc ?_ (by first | exact Nat.le_refl _ | omega | (simp; done) | (simp; omega)) _ | with_reducible refine Below.setCell ?_ (by first | exact Nat.le_refl _ | omega | (simp; done) | (simp; omega)) _ | (with_reducible refine ext_trans ?_ (by with_reducible assumption)))))
  have hw15 : Below w.heap.size w w15 := (by repeat (first | with_reducible exact Below.refl _ _ | with_reducible assumption | with_reducible refine Below.drew ?_ | with_reducible refine Below.alloc ?_ (by first | exact Nat.le_refl _ | omega | (simp; done) | (simp; omega)) _ | with_reducible refine Below.setCell ?_ (by first | exact Nat.le_refl _ | omega | (simp; done) | (simp; omega)) _ | (with_reducible refine ext_trans ?_ (by with_reducible assumption))))
  have lRa1_15 : w.heap.size < w15.heap.size := by omega
  have lRb_15 : w3.heap.size < w15.heap.size := by omega
  have lRbk_15 : w3.heap.size + 1 < w15.heap.size := by omega
  have lRq_15 : w4.heap.size < w15.heap.size := by omega
  have lRg_15 : w5.heap.size < w15.heap.size := by omega
  have lRgk_15 : w5.heap.size + 1 < w15.heap.size := by omega
  have Ra1_15 := Lib.hid ra1_15
  have r0_ra1_15 := cell_of_row _ _ 0 _ _ _ ra1_15
  have r1_ra1_15 := cell_of_row _ _ 1 _ _ _ ra1_15
  have r2_ra1_15 := cell_of_row _ _ 2 _ _ _ ra1_15
  have f0_ra1_15 := frozen_of_row _ _ 0 _ _ ra1_15
  have f1_ra1_15 := frozen_of_row _ _ 1 _ _ ra1_15
  have f2_ra1_15 := frozen_of_row _ _ 2 _ _ ra1_15
  simp at r0_ra1_15 r1_ra1_15 r2_ra1_15
  clear ra1_15
  have Rb_15 := Lib.hid rb_15
  have r0_rb_15 := cell_of_row _ _ 0 _ _ _ rb_15
  have r1_rb_15 := cell_of_row _ _ 1 _ _ _ rb_15
  have r2_rb_15 := cell_of_row _ _ 2 _ _ _ rb_15
  have f0_rb_15 := frozen_of_row _ _ 0 _ _ rb_15
  have f1_rb_15 := frozen_of_row _ _ 1 _ _ rb_15
  have f2_rb_15 := frozen_of_row _ _ 2 _ _ rb_15
  simp at r0_rb_15 r1_rb_15 r2_rb_15
  clear rb_15
  have Rbk_15 := Lib.hid rbk_15
  have r0_rbk_15 := cell_of_row _ _ 0 _ _ _ rbk_15
  have r1_rbk_15 := cell_of_row _ _ 1 _ _ _ rbk_15
  have r2_rbk_15 := cell_of_row _ _ 2 _ _ _ rbk_15
  have r3_rbk_15 := cell_of_row _ _ 3 _ _ _ rbk_15
  have r4_rbk_15 := cell_of_row _ _ 4 _ _ _ rbk_15
  have r5_rbk_15 := cell_of_row _ _ 5 _ _ _ rbk_15
  have f0_rbk_15 := frozen_of_row _ _ 0 _ _ rbk_15
  have f1_rbk_15 := frozen_of_row _ _ 1 _ _ rbk_15
  have f2_rbk_15 := frozen_of_row _ _ 2 _ _ rbk_15
  have f3_rbk_15 := frozen_of_row _ _ 3 _ _ rbk_15
  have f4_rbk_15 := frozen_of_row _ _ 4 _ _ rbk_15
  have f5_rbk_15 := frozen_of_row _ _ 5 _ _ rbk_15
  simp at r0_rbk_15 r1_rbk_15 r2_rbk_15 r3_rbk_15 r4_rbk_15 r5_rbk_15
  clear rbk_15
  have Rq_15 := Lib.hid rq_15
  have r0_rq_15 := cell_of_row _ _ 0 _ _ _ rq_15
  have r1_rq_15 := cell_of_row _ _ 1 _ _ _ rq_15
  have r2_rq_15 := cell_of_row _ _ 2 _ _ _ rq_15
  have f0_rq_15 := frozen_of_row _ _ 0 _ _ rq_15
  have f1_rq_15 := frozen_of_row _ _ 1 _ _ rq_15
  have f2_rq_15 := frozen_of_row _ _ 2 _ _ rq_15
  simp at r0_rq_15 r1_rq_15 r2_rq_15
  clear rq_15
  have Rg_15 := Lib.hid rg_15
  have r0_rg_15 := cell_of_row _ _ 0 _ _ _ rg_15
  have r1_rg_15 := cell_of_row _ _ 1 _ _ _ rg_15
  have r2_rg_15 := cell_of_row _ _ 2 _ _ _ rg_15
  have f0_rg_15 := frozen_of_row _ _ 0 _ _ rg_15
  have f1_rg_15 := frozen_of_row _ _ 1 _ _ rg_15
  have f2_rg_15 := frozen_of_row _ _ 2 _ _ rg_15
  simp at r0_rg_15 r1_rg_15 r2_rg_15
  clear rg_15
  have Rgk_15 := Lib.hid rgk_15
  have r0_rgk_15 := cell_of_row _ _ 0 _ _ _ rgk_15
  have r1_rgk_15 := cell_of_row _ _ 1 _ _ _ rgk_15
  have r2_rgk_15 := cell_of_row _ _ 2 _ _ _ rgk_15
  have r3_rgk_15 := cell_of_row _ _ 3 _ _ _ rgk_15
  have r4_rgk_15 := cell_of_row _ _ 4 _ _ _ rgk_15
  have r5_rgk_15 := cell_of_row _ _ 5 _ _ _ rgk_15
  have f0_rgk_15 := frozen_of_row _ _ 0 _ _ rgk_15
  have f1_rgk_15 := frozen_of_row _ _ 1 _ _ rgk_15
  have f2_rgk_15 := frozen_of_row _ _ 2 _ _ rgk_15
  have f3_rgk_15 := frozen_of_row _ _ 3 _ _ rgk_15
  have f4_rgk_15 := frozen_of_row _ _ 4 _ _ rgk_15
  have f5_rgk_15 := frozen_of_row _ _ 5 _ _ rgk_15
  simp at r0_rgk_15 r1_rgk_15 r2_rgk_15 r3_rgk_15 r4_rgk_15 r5_rgk_15
  clear rgk_15
  clear r0_ra1_14 f0_ra1_14 r1_ra1_14 f1_ra1_14 r2_ra1_14 f2_ra1_14
  clear r0_rb_14 f0_rb_14 r1_rb_14 f1_rb_14 r2_rb_14 f2_rb_14
  clear r0_rbk_14 f0_rbk_14 r1_rbk_14 f1_rbk_14 r2_rbk_14 f2_rbk_14 r3_rbk_14 f3_rbk_14 r4_rbk_14 f4_rbk_14 r5_rbk_14 f5_rbk_14
  clear r0_rq_14 f0_rq_14 r1_rq_14 f1_rq_14 r2_rq_14 f2_rq_14
  clear r0_rg_14 f0_rg_14 r1_rg_14 f1_rg_14 r2_rg_14 f2_rg_14
  clear r0_rgk_14 f0_rgk_14 r1_rgk_14 f1_rgk_14 r2_rgk_14 f2_rgk_14 r3_rgk_14 f3_rgk_14 r4_rgk_14 f4_rgk_14 r5_rgk_14 f5_rgk_14
  go_wp2_with fail
  refine (eqLink_same ⟨x1.mac, x1.ip, r⟩ _ _ NR.out _ (Oh1_15.out.below (by repeat (first | with_reducible exact Below.refl _ _ | with_reducible assumption | with_reducible refine Below.drew ?_ | with_reducible refine Below.alloc ?_ (by first | exact Nat.le_refl _ | omega | (simp; done) | (simp; omega)) _ | with_reducible refine Below.setCell ?_ (by first | exact Nat.le_refl _ | omega | (simp; done) | (simp; omega)) _ | (with_reducible refine ext_trans ?_ (by with_reducible assumption))))).rd (Ob1_15.out.below (by repeat (first | with_reducible exact Below.refl _ _ | with_reducible assumption | with_reducible refine Below.drew ?_ | with_reducible refine Below.alloc ?_ (by first | exact Nat.le_refl _ | omega | (simp; done) | (simp; omega)) _ | with_reducible refine Below.setCell ?_ (by first | exact Nat.le_refl _ | omega | (simp; done) | (simp; omega)) _ | (with_reducible refine ext_trans ?_ (by with_reducible assumption))))).rd).mono ?_
  rintro e w16 ⟨rfl, hb16⟩
  have hz16 := hb16.size
  (try simp at hz16)
  have ra1_16 := (hb16.block _ (by first | omega | (simp; done) | (simp; omega))).trans ((Below.heap_alloc _ _ _ (by first | exact lRa1_15 | (simp; omega))).trans ((Below.heap_alloc _ _ _ (by first | exact lRa1_15 | (simp; omega))).trans Ra1_15.out))
  have rb_16 := (hb16.block _ (by first | omega | (simp; done) | (simp; omega))).trans ((Below.heap_alloc _ _ _ (by first | exact lRb_15 | (simp; omega))).trans ((Below.heap_alloc _ _ _ (by first | exact lRb_15 | (simp; omega))).trans Rb_15.out))
  have rbk_16 := (hb16.block _ (by first | omega | (simp; done) | (simp; omega))).trans ((Below.heap_alloc _ _ _ (by first | exact lRbk_15 | (simp; omega))).trans ((Below.heap_alloc _ _ _ (by first | exact lRbk_15 | (simp; omega))).trans Rbk_15.out))
  have rq_16 := (hb16.block _ (by first | omega | (simp; done) | (simp; omega))).trans ((Below.heap_alloc _ _ _ (by first | exact lRq_15 | (simp; omega))).trans ((Below.heap_alloc _ _ _ (by first | exact lRq_15 | (simp; omega))).trans Rq_15.out))
  have rg_16 := (hb16.block _ (by first | omega | (simp; done) | (simp; omega))).trans ((Below.heap_alloc _ _ _ (by first | exact lRg_15 | (simp; omega))).trans ((Below.heap_alloc _ _ _ (by first | exact lRg_15 | (simp; omega))).trans Rg_15.out))
  have rgk_16 := (hb16.block _ (by first | omega | (simp; done) | (simp; omega))).trans ((Below.heap_alloc _ _ _ (by first | exact lRgk_15 | (simp; omega))).trans ((Below.heap_alloc _ _ _ (by first | exact lRgk_15 | (simp; omega))).trans Rgk_15.out))
  have rh_16 : w16.heap[w15.heap.size]? = some (.cells #[.int .i64 x1.mac, .int .i64 x1.ip, .slice A15 r.length c15] 37 (0, 0)) := (hb16.block _ (by first | (simp; done) | (simp; omega))).trans (by repeat (first | exact heap_new _ _ _ (by first | rfl | (simp; done) | (simp; omega)) | refine (Below.heap_alloc _ _ _ (by first | omega | (simp; done) | (simp; omega))).trans ?_))
  have rhk_16 : w16.heap[w15.heap.size + 1]? = some (.cells #[.int .i64 b1, .int .i64 b2, .int .i64 b3, .int .i64 b4, .int .i64 b5, .string b6] 58 (0, 0)) := (hb16.block _ (by first | (simp; done) | (simp; omega))).trans (by repeat (first | exact heap_new _ _ _ (by first | rfl | (simp; done) | (simp; omega)) | refine (Below.heap_alloc _ _ _ (by first | omega | (simp; done) | (simp; omega))).trans ?_))
  have Ob1_16 := Lib.hid (Ob1_15.out.below (w' := w16) (by repeat (first | with_reducible exact Below.refl _ _ | with_reducible assumption | with_reducible refine Below.drew ?_ | with_reducible refine Below.alloc ?_ (by first | exact Nat.le_refl _ | omega | (simp; done) | (simp; omega)) _ | with_reducible refine Below.setCell ?_ (by first | exact Nat.le_refl _ | omega | (simp; done) | (simp; omega)) _ | (with_reducible refine ext_trans ?_ (by with_reducible assumption)))))
  have Og1_16 := Lib.hid (Og1_15.out.below (w' := w16) (by repeat (first | with_reducible exact Below.refl _ _ | with_reducible assumption | with_reducible refine Below.drew ?_ | with_reducible refine Below.alloc ?_ (by first | exact Nat.le_refl _ | omega | (simp; done) | (simp; omega)) _ | with_reducible refine Below.setCell ?_ (by first | exact Nat.le_refl _ | omega | (simp; done) | (simp; omega)) _ | (with_reducible refine ext_trans ?_ (by with_reducible assumption)))))
  have Oh1_16 := Lib.hid (Oh1_15.out.below (w' := w16) (by repeat (first | with_reducible exact Below.refl _ _ | with_reducible assumption | with_reducible refine Below.drew ?_ | with_reducible refine Below.alloc ?_ (by first | exact Nat.le_refl _ | omega | (simp; done) | (simp; omega)) _ | with_reducible refine Below.setCell ?_ (by first | exact Nat.le_refl _ | omega | (simp; done) | (simp; omega)) _ | (with_reducible refine ext_trans ?_ (by with_reducible assumption)))))
  have hw16 : Below w.heap.size w w16 := (by repeat (first | with_reducible exact Below.refl _ _ | with_reducible assumption | with_reducible refine Below.drew ?_ | with_reducible refine Below.alloc ?_ (by first | exact Nat.le_refl _ | omega | (simp; done) | (simp; omega)) _ | with_reducible refine Below.setCell ?_ (by first | exact Nat.le_refl _ | omega | (simp; done) | (simp; omega)) _ | (with_reducible refine ext_trans ?_ (by with_reducible assumption))))
  have lRa1_16 : w.heap.size < w16.heap.size := by omega
  have lRb_16 : w3.heap.size < w16.heap.size := by omega
  have lRbk_16 : w3.heap.size + 1 < w16.heap.size := by omega
  have lRq_16 : w4.heap.size < w16.heap.size := by omega
  have lRg_16 : w5.heap.size < w16.heap.size := by omega
  have lRgk_16 : w5.heap.size + 1 < w16.heap.size := by omega
  have lRh_16 : w15.heap.size < w16.heap.size := by omega
  have lRhk_16 : w15.heap.size + 1 < w16.heap.size := by omega
  have Ra1_16 := Lib.hid ra1_16
  have r0_ra1_16 := cell_of_row _ _ 0 _ _ _ ra1_16
  have r1_ra1_16 := cell_of_row _ _ 1 _ _ _ ra1_16
  have r2_ra1_16 := cell_of_row _ _ 2 _ _ _ ra1_16
  have f0_ra1_16 := frozen_of_row _ _ 0 _ _ ra1_16
  have f1_ra1_16 := frozen_of_row _ _ 1 _ _ ra1_16
  have f2_ra1_16 := frozen_of_row _ _ 2 _ _ ra1_16
  simp at r0_ra1_16 r1_ra1_16 r2_ra1_16
  clear ra1_16
  have Rb_16 := Lib.hid rb_16
  have r0_rb_16 := cell_of_row _ _ 0 _ _ _ rb_16
  have r1_rb_16 := cell_of_row _ _ 1 _ _ _ rb_16
  have r2_rb_16 := cell_of_row _ _ 2 _ _ _ rb_16
  have f0_rb_16 := frozen_of_row _ _ 0 _ _ rb_16
  have f1_rb_16 := frozen_of_row _ _ 1 _ _ rb_16
  have f2_rb_16 := frozen_of_row _ _ 2 _ _ rb_16
  simp at r0_rb_16 r1_rb_16 r2_rb_16
  clear rb_16
  have Rbk_16 := Lib.hid rbk_16
  have r0_rbk_16 := cell_of_row _ _ 0 _ _ _ rbk_16
  have r1_rbk_16 := cell_of_row _ _ 1 _ _ _ rbk_16
  have r2_rbk_16 := cell_of_row _ _ 2 _ _ _ rbk_16
  have r3_rbk_16 := cell_of_row _ _ 3 _ _ _ rbk_16
  have r4_rbk_16 := cell_of_row _ _ 4 _ _ _ rbk_16
  have r5_rbk_16 := cell_of_row _ _ 5 _ _ _ rbk_16
  have f0_rbk_16 := frozen_of_row _ _ 0 _ _ rbk_16
  have f1_rbk_16 := frozen_of_row _ _ 1 _ _ rbk_16
  have f2_rbk_16 := frozen_of_row _ _ 2 _ _ rbk_16
  have f3_rbk_16 := frozen_of_row _ _ 3 _ _ rbk_16
  have f4_rbk_16 := frozen_of_row _ _ 4 _ _ rbk_16
  have f5_rbk_16 := frozen_of_row _ _ 5 _ _ rbk_16
  simp at r0_rbk_16 r1_rbk_16 r2_rbk_16 r3_rbk_16 r4_rbk_16 r5_rbk_16
  clear rbk_16
  have Rq_16 := Lib.hid rq_16
  have r0_rq_16 := cell_of_row _ _ 0 _ _ _ rq_16
  have r1_rq_16 := cell_of_row _ _ 1 _ _ _ rq_16
  have r2_rq_16 := cell_of_row _ _ 2 _ _ _ rq_16
  have f0_rq_16 := frozen_of_row _ _ 0 _ _ rq_16
  have f1_rq_16 := frozen_of_row _ _ 1 _ _ rq_16
  have f2_rq_16 := frozen_of_row _ _ 2 _ _ rq_16
  simp at r0_rq_16 r1_rq_16 r2_rq_16
  clear rq_16
  have Rg_16 := Lib.hid rg_16
  have r0_rg_16 := cell_of_row _ _ 0 _ _ _ rg_16
  have r1_rg_16 := cell_of_row _ _ 1 _ _ _ rg_16
  have r2_rg_16 := cell_of_row _ _ 2 _ _ _ rg_16
  have f0_rg_16 := frozen_of_row _ _ 0 _ _ rg_16
  have f1_rg_16 := frozen_of_row _ _ 1 _ _ rg_16
  have f2_rg_16 := frozen_of_row _ _ 2 _ _ rg_16
  simp at r0_rg_16 r1_rg_16 r2_rg_16
  clear rg_16
  have Rgk_16 := Lib.hid rgk_16
  have r0_rgk_16 := cell_of_row _ _ 0 _ _ _ rgk_16
  have r1_rgk_16 := cell_of_row _ _ 1 _ _ _ rgk_16
  have r2_rgk_16 := cell_of_row _ _ 2 _ _ _ rgk_16
  have r3_rgk_16 := cell_of_row _ _ 3 _ _ _ rgk_16
  have r4_rgk_16 := cell_of_row _ _ 4 _ _ _ rgk_16
  have r5_rgk_16 := cell_of_row _ _ 5 _ _ _ rgk_16
  have f0_rgk_16 := frozen_of_row _ _ 0 _ _ rgk_16
  have f1_rgk_16 := frozen_of_row _ _ 1 _ _ rgk_16
  have f2_rgk_16 := frozen_of_row _ _ 2 _ _ rgk_16
  have f3_rgk_16 := frozen_of_row _ _ 3 _ _ rgk_16
  have f4_rgk_16 := frozen_of_row _ _ 4 _ _ rgk_16
  have f5_rgk_16 := frozen_of_row _ _ 5 _ _ rgk_16
  simp at r0_rgk_16 r1_rgk_16 r2_rgk_16 r3_rgk_16 r4_rgk_16 r5_rgk_16
  clear rgk_16
  have Rh_16 := Lib.hid rh_16
  have r0_rh_16 := cell_of_row _ _ 0 _ _ _ rh_16
  have r1_rh_16 := cell_of_row _ _ 1 _ _ _ rh_16
  have r2_rh_16 := cell_of_row _ _ 2 _ _ _ rh_16
  have f0_rh_16 := frozen_of_row _ _ 0 _ _ rh_16
  have f1_rh_16 := frozen_of_row _ _ 1 _ _ rh_16
  have f2_rh_16 := frozen_of_row _ _ 2 _ _ rh_16
  simp at r0_rh_16 r1_rh_16 r2_rh_16
  clear rh_16
  have Rhk_16 := Lib.hid rhk_16
  have r0_rhk_16 := cell_of_row _ _ 0 _ _ _ rhk_16
  have r1_rhk_16 := cell_of_row _ _ 1 _ _ _ rhk_16
  have r2_rhk_16 := cell_of_row _ _ 2 _ _ _ rhk_16
  have r3_rhk_16 := cell_of_row _ _ 3 _ _ _ rhk_16
  have r4_rhk_16 := cell_of_row _ _ 4 _ _ _ rhk_16
  have r5_rhk_16 := cell_of_row _ _ 5 _ _ _ rhk_16
  have f0_rhk_16 := frozen_of_row _ _ 0 _ _ rhk_16
  have f1_rhk_16 := frozen_of_row _ _ 1 _ _ rhk_16
  have f2_rhk_16 := frozen_of_row _ _ 2 _ _ rhk_16
  have f3_rhk_16 := frozen_of_row _ _ 3 _ _ rhk_16
  have f4_rhk_16 := frozen_of_row _ _ 4 _ _ rhk_16
  have f5_rhk_16 := frozen_of_row _ _ 5 _ _ rhk_16
  simp at r0_rhk_16 r1_rhk_16 r2_rhk_16 r3_rhk_16 r4_rhk_16 r5_rhk_16
  clear rhk_16
  clear r0_ra1_15 f0_ra1_15 r1_ra1_15 f1_ra1_15 r2_ra1_15 f2_ra1_15
  clear r0_rb_15 f0_rb_15 r1_rb_15 f1_rb_15 r2_rb_15 f2_rb_15
  clear r0_rbk_15 f0_rbk_15 r1_rbk_15 f1_rbk_15 r2_rbk_15 f2_rbk_15 r3_rbk_15 f3_rbk_15 r4_rbk_15 f4_rbk_15 r5_rbk_15 f5_rbk_15
  clear r0_rq_15 f0_rq_15 r1_rq_15 f1_rq_15 r2_rq_15 f2_rq_15
  clear r0_rg_15 f0_rg_15 r1_rg_15 f1_rg_15 r2_rg_15 f2_rg_15
  clear r0_rgk_15 f0_rgk_15 r1_rgk_15 f1_rgk_15 r2_rgk_15 f2_rgk_15 r3_rgk_15 f3_rgk_15 r4_rgk_15 f4_rgk_15 r5_rgk_15 f5_rgk_15
  go_wp2_with fail
  refine (eqPacket_same b1 b2 b3 b4 b5 b6 _).mono ?_
  rintro e w17 ⟨rfl, hb17⟩
  have hz17 := hb17.size
  (try simp at hz17)
  have ra1_17 := (hb17.block _ (by first | omega | (simp; done) | (simp; omega))).trans Ra1_16.out
  have rb_17 := (hb17.block _ (by first | omega | (simp; done) | (simp; omega))).trans Rb_16.out
  have rbk_17 := (hb17.block _ (by first | omega | (simp; done) | (simp; omega))).trans Rbk_16.out
  have rq_17 := (hb17.block _ (by first | omega | (simp; done) | (simp; omega))).trans Rq_16.out
  have rg_17 := (hb17.block _ (by first | omega | (simp; done) | (simp; omega))).trans Rg_16.out
  have rgk_17 := (hb17.block _ (by first | omega | (simp; done) | (simp; omega))).trans Rgk_16.out
  have rh_17 := (hb17.block _ (by first | omega | (simp; done) | (simp; omega))).trans Rh_16.out
  have rhk_17 := (hb17.block _ (by first | omega | (simp; done) | (simp; omega))).trans Rhk_16.out
  have Ob1_17 := Lib.hid (Ob1_16.out.below (w' := w17) (by repeat (first | with_reducible exact Below.refl _ _ | with_reducible assumption | with_reducible refine Below.drew ?_ | with_reducible refine Below.alloc ?_ (by first | exact Nat.le_refl _ | omega | (simp; done) | (simp; omega)) _ | with_reducible refine Below.setCell ?_ (by first | exact Nat.le_refl _ | omega | (simp; done) | (simp; omega)) _ | (with_reducible refine ext_trans ?_ (by with_reducible assumption)))))
  have Og1_17 := Lib.hid (Og1_16.out.below (w' := w17) (by repeat (first | with_reducible exact Below.refl _ _ | with_reducible assumption | with_reducible refine Below.drew ?_ | with_reducible refine Below.alloc ?_ (by first | exact Nat.le_refl _ | omega | (simp; done) | (simp; omega)) _ | with_reducible refine Below.setCell ?_ (by first | exact Nat.le_refl _ | omega | (simp; done) | (simp; omega)) _ | (with_reducible refine ext_trans ?_ (by with_reducible assumption)))))
  have Oh1_17 := Lib.hid (Oh1_16.out.below (w' := w17) (by repeat (first | with_reducible exact Below.refl _ _ | with_reducible assumption | with_reducible refine Below.drew ?_ | with_reducible refine Below.alloc ?_ (by first | exact Nat.le_refl _ | omega | (simp; done) | (simp; omega)) _ | with_reducible refine Below.setCell ?_ (by first | exact Nat.le_refl _ | omega | (simp; done) | (simp; omega)) _ | (with_reducible refine ext_trans ?_ (by with_reducible assumption)))))
  have hw17 : Below w.heap.size w w17 := (by repeat (first | with_reducible exact Below.refl _ _ | with_reducible assumption | with_reducible refine Below.drew ?_ | with_reducible refine Below.alloc ?_ (by first | exact Nat.le_refl _ | omega | (simp; done) | (simp; omega)) _ | with_reducible refine Below.setCell ?_ (by first | exact Nat.le_refl _ | omega | (simp; done) | (simp; omega)) _ | (with_reducible refine ext_trans ?_ (by with_reducible assumption))))
  have lRa1_17 : w.heap.size < w17.heap.size := by omega
  have lRb_17 : w3.heap.size < w17.heap.size := by omega
  have lRbk_17 : w3.heap.size + 1 < w17.heap.size := by omega
  have lRq_17 : w4.heap.size < w17.heap.size := by omega
  have lRg_17 : w5.heap.size < w17.heap.size := by omega
  have lRgk_17 : w5.heap.size + 1 < w17.heap.size := by omega
  have lRh_17 : w15.heap.size < w17.heap.size := by omega
  have lRhk_17 : w15.heap.size + 1 < w17.heap.size := by omega
  have Ra1_17 := Lib.hid ra1_17
  have r0_ra1_17 := cell_of_row _ _ 0 _ _ _ ra1_17
  have r1_ra1_17 := cell_of_row _ _ 1 _ _ _ ra1_17
  have r2_ra1_17 := cell_of_row _ _ 2 _ _ _ ra1_17
  have f0_ra1_17 := frozen_of_row _ _ 0 _ _ ra1_17
  have f1_ra1_17 := frozen_of_row _ _ 1 _ _ ra1_17
  have f2_ra1_17 := frozen_of_row _ _ 2 _ _ ra1_17
  simp at r0_ra1_17 r1_ra1_17 r2_ra1_17
  clear ra1_17
  have Rb_17 := Lib.hid rb_17
  have r0_rb_17 := cell_of_row _ _ 0 _ _ _ rb_17
  have r1_rb_17 := cell_of_row _ _ 1 _ _ _ rb_17
  have r2_rb_17 := cell_of_row _ _ 2 _ _ _ rb_17
  have f0_rb_17 := frozen_of_row _ _ 0 _ _ rb_17
  have f1_rb_17 := frozen_of_row _ _ 1 _ _ rb_17
  have f2_rb_17 := frozen_of_row _ _ 2 _ _ rb_17
  simp at r0_rb_17 r1_rb_17 r2_rb_17
  clear rb_17
  have Rbk_17 := Lib.hid rbk_17
  have r0_rbk_17 := cell_of_row _ _ 0 _ _ _ rbk_17
  have r1_rbk_17 := cell_of_row _ _ 1 _ _ _ rbk_17
  have r2_rbk_17 := cell_of_row _ _ 2 _ _ _ rbk_17
  have r3_rbk_17 := cell_of_row _ _ 3 _ _ _ rbk_17
  have r4_rbk_17 := cell_of_row _ _ 4 _ _ _ rbk_17
  have r5_rbk_17 := cell_of_row _ _ 5 _ _ _ rbk_17
  have f0_rbk_17 := frozen_of_row _ _ 0 _ _ rbk_17
  have f1_rbk_17 := frozen_of_row _ _ 1 _ _ rbk_17
  have f2_rbk_17 := frozen_of_row _ _ 2 _ _ rbk_17
  have f3_rbk_17 := frozen_of_row _ _ 3 _ _ rbk_17
  have f4_rbk_17 := frozen_of_row _ _ 4 _ _ rbk_17
  have f5_rbk_17 := frozen_of_row _ _ 5 _ _ rbk_17
  simp at r0_rbk_17 r1_rbk_17 r2_rbk_17 r3_rbk_17 r4_rbk_17 r5_rbk_17
  clear rbk_17
  have Rq_17 := Lib.hid rq_17
  have r0_rq_17 := cell_of_row _ _ 0 _ _ _ rq_17
  have r1_rq_17 := cell_of_row _ _ 1 _ _ _ rq_17
  have r2_rq_17 := cell_of_row _ _ 2 _ _ _ rq_17
  have f0_rq_17 := frozen_of_row _ _ 0 _ _ rq_17
  have f1_rq_17 := frozen_of_row _ _ 1 _ _ rq_17
  have f2_rq_17 := frozen_of_row _ _ 2 _ _ rq_17
  simp at r0_rq_17 r1_rq_17 r2_rq_17
  clear rq_17
  have Rg_17 := Lib.hid rg_17
  have r0_rg_17 := cell_of_row _ _ 0 _ _ _ rg_17
  have r1_rg_17 := cell_of_row _ _ 1 _ _ _ rg_17
  have r2_rg_17 := cell_of_row _ _ 2 _ _ _ rg_17
  have f0_rg_17 := frozen_of_row _ _ 0 _ _ rg_17
  have f1_rg_17 := frozen_of_row _ _ 1 _ _ rg_17
  have f2_rg_17 := frozen_of_row _ _ 2 _ _ rg_17
  simp at r0_rg_17 r1_rg_17 r2_rg_17
  clear rg_17
  have Rgk_17 := Lib.hid rgk_17
  have r0_rgk_17 := cell_of_row _ _ 0 _ _ _ rgk_17
  have r1_rgk_17 := cell_of_row _ _ 1 _ _ _ rgk_17
  have r2_rgk_17 := cell_of_row _ _ 2 _ _ _ rgk_17
  have r3_rgk_17 := cell_of_row _ _ 3 _ _ _ rgk_17
  have r4_rgk_17 := cell_of_row _ _ 4 _ _ _ rgk_17
  have r5_rgk_17 := cell_of_row _ _ 5 _ _ _ rgk_17
  have f0_rgk_17 := frozen_of_row _ _ 0 _ _ rgk_17
  have f1_rgk_17 := frozen_of_row _ _ 1 _ _ rgk_17
  have f2_rgk_17 := frozen_of_row _ _ 2 _ _ rgk_17
  have f3_rgk_17 := frozen_of_row _ _ 3 _ _ rgk_17
  have f4_rgk_17 := frozen_of_row _ _ 4 _ _ rgk_17
  have f5_rgk_17 := frozen_of_row _ _ 5 _ _ rgk_17
  simp at r0_rgk_17 r1_rgk_17 r2_rgk_17 r3_rgk_17 r4_rgk_17 r5_rgk_17
  clear rgk_17
  have Rh_17 := Lib.hid rh_17
  have r0_rh_17 := cell_of_row _ _ 0 _ _ _ rh_17
  have r1_rh_17 := cell_of_row _ _ 1 _ _ _ rh_17
  have r2_rh_17 := cell_of_row _ _ 2 _ _ _ rh_17
  have f0_rh_17 := frozen_of_row _ _ 0 _ _ rh_17
  have f1_rh_17 := frozen_of_row _ _ 1 _ _ rh_17
  have f2_rh_17 := frozen_of_row _ _ 2 _ _ rh_17
  simp at r0_rh_17 r1_rh_17 r2_rh_17
  clear rh_17
  have Rhk_17 := Lib.hid rhk_17
  have r0_rhk_17 := cell_of_row _ _ 0 _ _ _ rhk_17
  have r1_rhk_17 := cell_of_row _ _ 1 _ _ _ rhk_17
  have r2_rhk_17 := cell_of_row _ _ 2 _ _ _ rhk_17
  have r3_rhk_17 := cell_of_row _ _ 3 _ _ _ rhk_17
  have r4_rhk_17 := cell_of_row _ _ 4 _ _ _ rhk_17
  have r5_rhk_17 := cell_of_row _ _ 5 _ _ _ rhk_17
  have f0_rhk_17 := frozen_of_row _ _ 0 _ _ rhk_17
  have f1_rhk_17 := frozen_of_row _ _ 1 _ _ rhk_17
  have f2_rhk_17 := frozen_of_row _ _ 2 _ _ rhk_17
  have f3_rhk_17 := frozen_of_row _ _ 3 _ _ rhk_17
  have f4_rhk_17 := frozen_of_row _ _ 4 _ _ rhk_17
  have f5_rhk_17 := frozen_of_row _ _ 5 _ _ rhk_17
  simp at r0_rhk_17 r1_rhk_17 r2_rhk_17 r3_rhk_17 r4_rhk_17 r5_rhk_17
  clear rhk_17
  clear r0_ra1_16 f0_ra1_16 r1_ra1_16 f1_ra1_16 r2_ra1_16 f2_ra1_16
  clear r0_rb_16 f0_rb_16 r1_rb_16 f1_rb_16 r2_rb_16 f2_rb_16
  clear r0_rbk_16 f0_rbk_16 r1_rbk_16 f1_rbk_16 r2_rbk_16 f2_rbk_16 r3_rbk_16 f3_rbk_16 r4_rbk_16 f4_rbk_16 r5_rbk_16 f5_rbk_16
  clear r0_rq_16 f0_rq_16 r1_rq_16 f1_rq_16 r2_rq_16 f2_rq_16
  clear r0_rg_16 f0_rg_16 r1_rg_16 f1_rg_16 r2_rg_16 f2_rg_16
  clear r0_rgk_16 f0_rgk_16 r1_rgk_16 f1_rgk_16 r2_rgk_16 f2_rgk_16 r3_rgk_16 f3_rgk_16 r4_rgk_16 f4_rgk_16 r5_rgk_16 f5_rgk_16
  clear r0_rh_16 f0_rh_16 r1_rh_16 f1_rh_16 r2_rh_16 f2_rh_16
  clear r0_rhk_16 f0_rhk_16 r1_rhk_16 f1_rhk_16 r2_rhk_16 f2_rhk_16 r3_rhk_16 f3_rhk_16 r4_rhk_16 f4_rhk_16 r5_rhk_16 f5_rhk_16
  go_wp2_with fail
  refine (heldLink_any ⟨x1.mac, x1.ip, r⟩ _ r.length MR.out 1 (by omega) (by omega) _ (marked_rdEntry Og1_17.out)).mono ?_
  rintro e w18 ⟨rfl, hb18⟩
  have hz18 := hb18.size
  (try simp at hz18)
  have ra1_18 := (hb18.block _ (by first | omega | (simp; done) | (simp; omega))).trans Ra1_17.out
  have rb_18 := (hb18.block _ (by first | omega | (simp; done) | (simp; omega))).trans Rb_17.out
  have rbk_18 := (hb18.block _ (by first | omega | (simp; done) | (simp; omega))).trans Rbk_17.out
  have rq_18 := (hb18.block _ (by first | omega | (simp; done) | (simp; omega))).trans Rq_17.out
  have rg_18 := (hb18.block _ (by first | omega | (simp; done) | (simp; omega))).trans Rg_17.out
  have rgk_18 := (hb18.block _ (by first | omega | (simp; done) | (simp; omega))).trans Rgk_17.out
  have rh_18 := (hb18.block _ (by first | omega | (simp; done) | (simp; omega))).trans Rh_17.out
  have rhk_18 := (hb18.block _ (by first | omega | (simp; done) | (simp; omega))).trans Rhk_17.out
  have Og1_18 := Lib.hid (Og1_17.out.below (w' := w18) (by repeat (first | with_reducible exact Below.refl _ _ | with_reducible assumption | with_reducible refine Below.drew ?_ | with_reducible refine Below.alloc ?_ (by first | exact Nat.le_refl _ | omega | (simp; done) | (simp; omega)) _ | with_reducible refine Below.setCell ?_ (by first | exact Nat.le_refl _ | omega | (simp; done) | (simp; omega)) _ | (with_reducible refine ext_trans ?_ (by with_reducible assumption)))))
  have hw18 : Below w.heap.size w w18 := (by repeat (first | with_reducible exact Below.refl _ _ | with_reducible assumption | with_reducible refine Below.drew ?_ | with_reducible refine Below.alloc ?_ (by first | exact Nat.le_refl _ | omega | (simp; done) | (simp; omega)) _ | with_reducible refine Below.setCell ?_ (by first | exact Nat.le_refl _ | omega | (simp; done) | (simp; omega)) _ | (with_reducible refine ext_trans ?_ (by with_reducible assumption))))
  have lRa1_18 : w.heap.size < w18.heap.size := by omega
  have lRb_18 : w3.heap.size < w18.heap.size := by omega
  have lRbk_18 : w3.heap.size + 1 < w18.heap.size := by omega
  have lRq_18 : w4.heap.size < w18.heap.size := by omega
  have lRg_18 : w5.heap.size < w18.heap.size := by omega
  have lRgk_18 : w5.heap.size + 1 < w18.heap.size := by omega
  have lRh_18 : w15.heap.size < w18.heap.size := by omega
  have lRhk_18 : w15.heap.size + 1 < w18.heap.size := by omega
  have Ra1_18 := Lib.hid ra1_18
  have r0_ra1_18 := cell_of_row _ _ 0 _ _ _ ra1_18
  have r1_ra1_18 := cell_of_row _ _ 1 _ _ _ ra1_18
  have r2_ra1_18 := cell_of_row _ _ 2 _ _ _ ra1_18
  have f0_ra1_18 := frozen_of_row _ _ 0 _ _ ra1_18
  have f1_ra1_18 := frozen_of_row _ _ 1 _ _ ra1_18
  have f2_ra1_18 := frozen_of_row _ _ 2 _ _ ra1_18
  simp at r0_ra1_18 r1_ra1_18 r2_ra1_18
  clear ra1_18
  have Rb_18 := Lib.hid rb_18
  have r0_rb_18 := cell_of_row _ _ 0 _ _ _ rb_18
  have r1_rb_18 := cell_of_row _ _ 1 _ _ _ rb_18
  have r2_rb_18 := cell_of_row _ _ 2 _ _ _ rb_18
  have f0_rb_18 := frozen_of_row _ _ 0 _ _ rb_18
  have f1_rb_18 := frozen_of_row _ _ 1 _ _ rb_18
  have f2_rb_18 := frozen_of_row _ _ 2 _ _ rb_18
  simp at r0_rb_18 r1_rb_18 r2_rb_18
  clear rb_18
  have Rbk_18 := Lib.hid rbk_18
  have r0_rbk_18 := cell_of_row _ _ 0 _ _ _ rbk_18
  have r1_rbk_18 := cell_of_row _ _ 1 _ _ _ rbk_18
  have r2_rbk_18 := cell_of_row _ _ 2 _ _ _ rbk_18
  have r3_rbk_18 := cell_of_row _ _ 3 _ _ _ rbk_18
  have r4_rbk_18 := cell_of_row _ _ 4 _ _ _ rbk_18
  have r5_rbk_18 := cell_of_row _ _ 5 _ _ _ rbk_18
  have f0_rbk_18 := frozen_of_row _ _ 0 _ _ rbk_18
  have f1_rbk_18 := frozen_of_row _ _ 1 _ _ rbk_18
  have f2_rbk_18 := frozen_of_row _ _ 2 _ _ rbk_18
  have f3_rbk_18 := frozen_of_row _ _ 3 _ _ rbk_18
  have f4_rbk_18 := frozen_of_row _ _ 4 _ _ rbk_18
  have f5_rbk_18 := frozen_of_row _ _ 5 _ _ rbk_18
  simp at r0_rbk_18 r1_rbk_18 r2_rbk_18 r3_rbk_18 r4_rbk_18 r5_rbk_18
  clear rbk_18
  have Rq_18 := Lib.hid rq_18
  have r0_rq_18 := cell_of_row _ _ 0 _ _ _ rq_18
  have r1_rq_18 := cell_of_row _ _ 1 _ _ _ rq_18
  have r2_rq_18 := cell_of_row _ _ 2 _ _ _ rq_18
  have f0_rq_18 := frozen_of_row _ _ 0 _ _ rq_18
  have f1_rq_18 := frozen_of_row _ _ 1 _ _ rq_18
  have f2_rq_18 := frozen_of_row _ _ 2 _ _ rq_18
  simp at r0_rq_18 r1_rq_18 r2_rq_18
  clear rq_18
  have Rg_18 := Lib.hid rg_18
  have r0_rg_18 := cell_of_row _ _ 0 _ _ _ rg_18
  have r1_rg_18 := cell_of_row _ _ 1 _ _ _ rg_18
  have r2_rg_18 := cell_of_row _ _ 2 _ _ _ rg_18
  have f0_rg_18 := frozen_of_row _ _ 0 _ _ rg_18
  have f1_rg_18 := frozen_of_row _ _ 1 _ _ rg_18
  have f2_rg_18 := frozen_of_row _ _ 2 _ _ rg_18
  simp at r0_rg_18 r1_rg_18 r2_rg_18
  clear rg_18
  have Rgk_18 := Lib.hid rgk_18
  have r0_rgk_18 := cell_of_row _ _ 0 _ _ _ rgk_18
  have r1_rgk_18 := cell_of_row _ _ 1 _ _ _ rgk_18
  have r2_rgk_18 := cell_of_row _ _ 2 _ _ _ rgk_18
  have r3_rgk_18 := cell_of_row _ _ 3 _ _ _ rgk_18
  have r4_rgk_18 := cell_of_row _ _ 4 _ _ _ rgk_18
  have r5_rgk_18 := cell_of_row _ _ 5 _ _ _ rgk_18
  have f0_rgk_18 := frozen_of_row _ _ 0 _ _ rgk_18
  have f1_rgk_18 := frozen_of_row _ _ 1 _ _ rgk_18
  have f2_rgk_18 := frozen_of_row _ _ 2 _ _ rgk_18
  have f3_rgk_18 := frozen_of_row _ _ 3 _ _ rgk_18
  have f4_rgk_18 := frozen_of_row _ _ 4 _ _ rgk_18
  have f5_rgk_18 := frozen_of_row _ _ 5 _ _ rgk_18
  simp at r0_rgk_18 r1_rgk_18 r2_rgk_18 r3_rgk_18 r4_rgk_18 r5_rgk_18
  clear rgk_18
  have Rh_18 := Lib.hid rh_18
  have r0_rh_18 := cell_of_row _ _ 0 _ _ _ rh_18
  have r1_rh_18 := cell_of_row _ _ 1 _ _ _ rh_18
  have r2_rh_18 := cell_of_row _ _ 2 _ _ _ rh_18
  have f0_rh_18 := frozen_of_row _ _ 0 _ _ rh_18
  have f1_rh_18 := frozen_of_row _ _ 1 _ _ rh_18
  have f2_rh_18 := frozen_of_row _ _ 2 _ _ rh_18
  simp at r0_rh_18 r1_rh_18 r2_rh_18
  clear rh_18
  have Rhk_18 := Lib.hid rhk_18
  have r0_rhk_18 := cell_of_row _ _ 0 _ _ _ rhk_18
  have r1_rhk_18 := cell_of_row _ _ 1 _ _ _ rhk_18
  have r2_rhk_18 := cell_of_row _ _ 2 _ _ _ rhk_18
  have r3_rhk_18 := cell_of_row _ _ 3 _ _ _ rhk_18
  have r4_rhk_18 := cell_of_row _ _ 4 _ _ _ rhk_18
  have r5_rhk_18 := cell_of_row _ _ 5 _ _ _ rhk_18
  have f0_rhk_18 := frozen_of_row _ _ 0 _ _ rhk_18
  have f1_rhk_18 := frozen_of_row _ _ 1 _ _ rhk_18
  have f2_rhk_18 := frozen_of_row _ _ 2 _ _ rhk_18
  have f3_rhk_18 := frozen_of_row _ _ 3 _ _ rhk_18
  have f4_rhk_18 := frozen_of_row _ _ 4 _ _ rhk_18
  have f5_rhk_18 := frozen_of_row _ _ 5 _ _ rhk_18
  simp at r0_rhk_18 r1_rhk_18 r2_rhk_18 r3_rhk_18 r4_rhk_18 r5_rhk_18
  clear rhk_18
  clear r0_ra1_17 f0_ra1_17 r1_ra1_17 f1_ra1_17 r2_ra1_17 f2_ra1_17
  clear r0_rb_17 f0_rb_17 r1_rb_17 f1_rb_17 r2_rb_17 f2_rb_17
  clear r0_rbk_17 f0_rbk_17 r1_rbk_17 f1_rbk_17 r2_rbk_17 f2_rbk_17 r3_rbk_17 f3_rbk_17 r4_rbk_17 f4_rbk_17 r5_rbk_17 f5_rbk_17
  clear r0_rq_17 f0_rq_17 r1_rq_17 f1_rq_17 r2_rq_17 f2_rq_17
  clear r0_rg_17 f0_rg_17 r1_rg_17 f1_rg_17 r2_rg_17 f2_rg_17
  clear r0_rgk_17 f0_rgk_17 r1_rgk_17 f1_rgk_17 r2_rgk_17 f2_rgk_17 r3_rgk_17 f3_rgk_17 r4_rgk_17 f4_rgk_17 r5_rgk_17 f5_rgk_17
  clear r0_rh_17 f0_rh_17 r1_rh_17 f1_rh_17 r2_rh_17 f2_rh_17
  clear r0_rhk_17 f0_rhk_17 r1_rhk_17 f1_rhk_17 r2_rhk_17 f2_rhk_17 r3_rhk_17 f3_rhk_17 r4_rhk_17 f4_rhk_17 r5_rhk_17 f5_rhk_17
  go_wp2_with fail
  go_ret
  exact ⟨rfl, hw18⟩

set_option maxRecDepth 100000 in
theorem FnExactLinkIn_lifted (os : Os) (started : os.Started) (H : Type) (enc : TypeId × Value → H) :
    ReturnsInHanded {} Try.checked os 12 .any (Rows.fnExactLinkInSpec.pre6 enc Try.prog Try.f12 Rows.fnExactLinkInRow.domain false) (Rows.fnExactLinkInSpec.post enc Try.prog Try.f12 false true false false) := by
  refine law_lifted (C := Try.checked) own_ started (by kernel_rfl) Try.func12 laid_ rfl ?_ ?_ rfl Try.underlying4
    (ChangeSpec.witness6 (enc := enc) (C := Try.checked) false ⟨#[], #[.agg #[.int .i64 0, .int .i64 0, .slice none 0 0], .string ⟨#[]⟩], []⟩ 8 (by kernel_rfl) (by kernel_rfl) (by kernel_rfl) (by kernel_rfl)) ?_
  · intro ds h
    match ds, h with
    | [_, _], _ => rfl
  · intro t ht
    rw [Try.params12] at ht
    simp at ht
    rcases ht with rfl | rfl
    all_goals exact ⟨by kernel_rfl, of_decide_eq_true (by kernel_rfl)⟩
  · intro W base args ds p hval hA hlt
    have hval : ∀ (j : Nat) t v, Try.f12.params[j]? = some t → args[j]? = some v → Value.okWide Try.prog W .any base t v := hval
    have hA : DataW.TrodAll enc Try.prog W 0 (fun _ => true) true Try.f12.params.toList args.toList ds p := hA
    rw [Try.params12] at hA hval
    obtain ⟨v0, v1, d0, d1, p0, p1, rfl, rfl, rfl, h0, h1⟩ := trodAll_two hA
    obtain ⟨a0, a1, a2, rfl, wa0, wa1, ⟨ka, ya, ta⟩⟩ := open_Link (hval 0 33 v0 rfl rfl) h0
    obtain ⟨la, ra, fa, na⟩ := open_rowsEntry ta
    obtain ⟨b, rfl, rfl, rfl, wb⟩ := Go.ChangeMaps.open_string Try.underlying9 (hval 1 9 v1 rfl rfl) h1
    exact (FnExactLinkIn_walk ⟨a0, a1, la⟩ a2 b wb W ra fa.fit na)

theorem FnExactLinkIn_holds : Rows.FnExactLinkInSaid :=
  OpenClaim.holds_of_wide 12 Try.f12 rfl rfl rfl rfl rfl rfl rfl ⟨rfl, rfl, rfl, rfl, rfl⟩ rfl rfl rfl rfl rfl (by kernel_rfl) Try.func12 (by kernel_rfl)
    (of_decide_eq_true (by kernel_rfl)) (by have hw := wrap_ (P := Try.prog) (fn := Try.f12) (by kernel_rfl); exact hw)
    (fun os started H enc _ => FnExactLinkIn_lifted os started H enc)
end Go.Proofs.Yteaniiponikpjaa
