/-
  The law FnExactTableMac returns true for every input. No condition.
-/
import Derived.Test.YtondhgmlemgoaaaMcp
import Derived.Test.YtondhgmlemgoaaaOpnMacRow
namespace Go.Proofs.Ytondhgmlemgoaaa
open Go.ChangeShapes Go.WideShapes Go.ChangeAt Go.RowKit


set_option maxHeartbeats 4000000 in
theorem FnExactTableMac_walk (v : Value) (rs : List RMacRow) (w : World) (h : RdMacRow w v rs) (f : FitMacRow rs) (n : rs.length ≤ maxLen) :
    Calls Try.prog 10 #[v] w fun e w' => e = .returned (.bool true) ∧ Below w.heap.size w w' := by
  obtain ⟨A, c, rfl, -⟩ := id h
  have H := Lib.hid h
  have F := Lib.hid f
  have N := Lib.hid n
  clear h f n
  go_enter Try.func10, Try.ntmps10
  go_wp2_with fail
  refine (szMacRowS_any _ rs F.out N.out 1048576 (by omega) (by omega) _ H.out).mono ?_
  rintro e w1 ⟨x, rfl, ⟨hx1, hx2⟩, hx3, hb1⟩
  by_cases hx : x < 0
  · go_wp2_with fail
    go_ret
    exact ⟨rfl, hb1⟩
  have m : rs.length ≤ 1048576 := by have := hx3.out (by omega); omega
  have M := Lib.hid m
  have M2 : Hid (rs.length ≤ 1048600) := (by omega : rs.length ≤ 1048600)
  have hw1 : Below w.heap.size w w1 := hb1
  have hz1 := hb1.size
  clear hx3 hb1
  go_wp2_with fail
  refine (toMacRowS_any _ rs M.out _ (H.out.below hw1)).mono ?_
  rintro e w2 ⟨v2, rfl, hO2, hb2⟩
  obtain ⟨A2, c2, rfl⟩ := hO2.form
  have Oa_2 := Lib.hid hO2
  have hz2 := hb2.size
  (try simp at hz2)
  have hw2 : Below w.heap.size w w2 := (by repeat (first | with_reducible exact Below.refl _ _ | with_reducible assumption | with_reducible refine Below.drew ?_ | with_reducible refine Below.alloc ?_ (by first | exact Nat.le_refl _ | omega | (simp; done) | (simp; omega)) _ | with_reducible refine Below.setCell ?_ (by first | exact Nat.le_refl _ | omega | (simp; done) | (simp; omega)) _ | (with_reducible refine ext_trans ?_ (by with_reducible assumption))))
  go_wp2_with fail
  refine (sTableMac_any _ rs M2.out _ Oa_2.out.rd).mono ?_
  rintro e w3 ⟨v3, rfl, hO3, hb3⟩
  obtain ⟨A3, c3, rfl⟩ := hO3.form
  have Ob_3 := Lib.hid hO3
  have hz3 := hb3.size
  (try simp at hz3)
  have Oa_3 := Lib.hid (Oa_2.out.below (w' := w3) (by repeat (first | with_reducible exact Below.refl _ _ | with_reducible assumption | with_reducible refine Below.drew ?_ | with_reducible refine Below.alloc ?_ (by first | exact Nat.le_refl _ | omega | (simp; done) | (simp; omega)) _ | with_reducible refine Below.setCell ?_ (by first | exact Nat.le_refl _ | omega | (simp; done) | (simp; omega)) _ | (with_reducible refine ext_trans ?_ (by with_reducible assumption)))))
  have hw3 : Below w.heap.size w w3 := (by repeat (first | with_reducible exact Below.refl _ _ | with_reducible assumption | with_reducible refine Below.drew ?_ | with_reducible refine Below.alloc ?_ (by first | exact Nat.le_refl _ | omega | (simp; done) | (simp; omega)) _ | with_reducible refine Below.setCell ?_ (by first | exact Nat.le_refl _ | omega | (simp; done) | (simp; omega)) _ | (with_reducible refine ext_trans ?_ (by with_reducible assumption))))
  have BORNb := Lib.hid hO3
  go_wp2_with fail
  refine (toMacRowS_any _ rs M.out _ (H.out.below (by repeat (first | with_reducible exact Below.refl _ _ | with_reducible assumption | with_reducible refine Below.drew ?_ | with_reducible refine Below.alloc ?_ (by first | exact Nat.le_refl _ | omega | (simp; done) | (simp; omega)) _ | with_reducible refine Below.setCell ?_ (by first | exact Nat.le_refl _ | omega | (simp; done) | (simp; omega)) _ | (with_reducible refine ext_trans ?_ (by with_reducible assumption)))))).mono ?_
  rintro e w4 ⟨v4, rfl, hO4, hb4⟩
  obtain ⟨A4, c4, rfl⟩ := hO4.form
  have Ox_4 := Lib.hid hO4
  have hz4 := hb4.size
  (try simp at hz4)
  have rw_4 : w4.heap[w3.heap.size]? = some (.cells #[.bool true, .int .u64 0, .int .u64 0, .slice A3 rs.length c3] 35 (0, 0)) := (hb4.block _ (by first | (simp; done) | (simp; omega))).trans (by repeat (first | exact heap_new _ _ _ (by first | rfl | (simp; done) | (simp; omega)) | refine (Below.heap_alloc _ _ _ (by first | omega | (simp; done) | (simp; omega))).trans ?_))
  have Oa_4 := Lib.hid (Oa_3.out.below (w' := w4) (by repeat (first | with_reducible exact Below.refl _ _ | with_reducible assumption | with_reducible refine Below.drew ?_ | with_reducible refine Below.alloc ?_ (by first | exact Nat.le_refl _ | omega | (simp; done) | (simp; omega)) _ | with_reducible refine Below.setCell ?_ (by first | exact Nat.le_refl _ | omega | (simp; done) | (simp; omega)) _ | (with_reducible refine ext_trans ?_ (by with_reducible assumption)))))
  have Ob_4 := Lib.hid (Ob_3.out.below (w' := w4) (by repeat (first | with_reducible exact Below.refl _ _ | with_reducible assumption | with_reducible refine Below.drew ?_ | with_reducible refine Below.alloc ?_ (by first | exact Nat.le_refl _ | omega | (simp; done) | (simp; omega)) _ | with_reducible refine Below.setCell ?_ (by first | exact Nat.le_refl _ | omega | (simp; done) | (simp; omega)) _ | (with_reducible refine ext_trans ?_ (by with_reducible assumption)))))
  have hw4 : Below w.heap.size w w4 := (by repeat (first | with_reducible exact Below.refl _ _ | with_reducible assumption | with_reducible refine Below.drew ?_ | with_reducible refine Below.alloc ?_ (by first | exact Nat.le_refl _ | omega | (simp; done) | (simp; omega)) _ | with_reducible refine Below.setCell ?_ (by first | exact Nat.le_refl _ | omega | (simp; done) | (simp; omega)) _ | (with_reducible refine ext_trans ?_ (by with_reducible assumption))))
  have lRw_4 : w3.heap.size < w4.heap.size := by omega
  have Rw_4 := Lib.hid rw_4
  have r0_rw_4 := cell_of_row _ _ 0 _ _ _ rw_4
  have r1_rw_4 := cell_of_row _ _ 1 _ _ _ rw_4
  have r2_rw_4 := cell_of_row _ _ 2 _ _ _ rw_4
  have r3_rw_4 := cell_of_row _ _ 3 _ _ _ rw_4
  have f0_rw_4 := frozen_of_row _ _ 0 _ _ rw_4
  have f1_rw_4 := frozen_of_row _ _ 1 _ _ rw_4
  have f2_rw_4 := frozen_of_row _ _ 2 _ _ rw_4
  have f3_rw_4 := frozen_of_row _ _ 3 _ _ rw_4
  simp at r0_rw_4 r1_rw_4 r2_rw_4 r3_rw_4
  clear rw_4
  have BORNx : Hid (OwnMacRow w4 (w3.heap.size + 1) (.slice A4 rs.length c4) rs) := hO4.mono (by simp)
  go_wp2_with fail
  refine (TableMac_any _ rs M2.out _ Ox_4.out.rd).mono ?_
  rintro e w5 ⟨v5, rfl, hO5, hb5⟩
  obtain ⟨A5, c5, rfl⟩ := hO5.form
  have Og_5 := Lib.hid hO5
  have hz5 := hb5.size
  (try simp at hz5)
  have rw_5 := (hb5.block _ (by first | omega | (simp; done) | (simp; omega))).trans Rw_4.out
  have Oa_5 := Lib.hid (Oa_4.out.below (w' := w5) (by repeat (first | with_reducible exact Below.refl _ _ | with_reducible assumption | with_reducible refine Below.drew ?_ | with_reducible refine Below.alloc ?_ (by first | exact Nat.le_refl _ | omega | (simp; done) | (simp; omega)) _ | with_reducible refine Below.setCell ?_ (by first | exact Nat.le_refl _ | omega | (simp; done) | (simp; omega)) _ | (with_reducible refine ext_trans ?_ (by with_reducible assumption)))))
  have Ob_5 := Lib.hid (Ob_4.out.below (w' := w5) (by repeat (first | with_reducible exact Below.refl _ _ | with_reducible assumption | with_reducible refine Below.drew ?_ | with_reducible refine Below.alloc ?_ (by first | exact Nat.le_refl _ | omega | (simp; done) | (simp; omega)) _ | with_reducible refine Below.setCell ?_ (by first | exact Nat.le_refl _ | omega | (simp; done) | (simp; omega)) _ | (with_reducible refine ext_trans ?_ (by with_reducible assumption)))))
  have Ox_5 := Lib.hid (Ox_4.out.below (w' := w5) (by repeat (first | with_reducible exact Below.refl _ _ | with_reducible assumption | with_reducible refine Below.drew ?_ | with_reducible refine Below.alloc ?_ (by first | exact Nat.le_refl _ | omega | (simp; done) | (simp; omega)) _ | with_reducible refine Below.setCell ?_ (by first | exact Nat.le_refl _ | omega | (simp; done) | (simp; omega)) _ | (with_reducible refine ext_trans ?_ (by with_reducible assumption)))))
  have hw5 : Below w.heap.size w w5 := (by repeat (first | with_reducible exact Below.refl _ _ | with_reducible assumption | with_reducible refine Below.drew ?_ | with_reducible refine Below.alloc ?_ (by first | exact Nat.le_refl _ | omega | (simp; done) | (simp; omega)) _ | with_reducible refine Below.setCell ?_ (by first | exact Nat.le_refl _ | omega | (simp; done) | (simp; omega)) _ | (with_reducible refine ext_trans ?_ (by with_reducible assumption))))
  have lRw_5 : w3.heap.size < w5.heap.size := by omega
  have Rw_5 := Lib.hid rw_5
  have r0_rw_5 := cell_of_row _ _ 0 _ _ _ rw_5
  have r1_rw_5 := cell_of_row _ _ 1 _ _ _ rw_5
  have r2_rw_5 := cell_of_row _ _ 2 _ _ _ rw_5
  have r3_rw_5 := cell_of_row _ _ 3 _ _ _ rw_5
  have f0_rw_5 := frozen_of_row _ _ 0 _ _ rw_5
  have f1_rw_5 := frozen_of_row _ _ 1 _ _ rw_5
  have f2_rw_5 := frozen_of_row _ _ 2 _ _ rw_5
  have f3_rw_5 := frozen_of_row _ _ 3 _ _ rw_5
  simp at r0_rw_5 r1_rw_5 r2_rw_5 r3_rw_5
  clear rw_5
  clear r0_rw_4 f0_rw_4 r1_rw_4 f1_rw_4 r2_rw_4 f2_rw_4 r3_rw_4 f3_rw_4
  have BORNg := Lib.hid hO5
  go_wp2_with fail
  refine (eqMac_same true 0 0 _ _ rs N.out _ (Og_5.out.below (by repeat (first | with_reducible exact Below.refl _ _ | with_reducible assumption | with_reducible refine Below.drew ?_ | with_reducible refine Below.alloc ?_ (by first | exact Nat.le_refl _ | omega | (simp; done) | (simp; omega)) _ | with_reducible refine Below.setCell ?_ (by first | exact Nat.le_refl _ | omega | (simp; done) | (simp; omega)) _ | (with_reducible refine ext_trans ?_ (by with_reducible assumption))))).rd (Ob_5.out.below (by repeat (first | with_reducible exact Below.refl _ _ | with_reducible assumption | with_reducible refine Below.drew ?_ | with_reducible refine Below.alloc ?_ (by first | exact Nat.le_refl _ | omega | (simp; done) | (simp; omega)) _ | with_reducible refine Below.setCell ?_ (by first | exact Nat.le_refl _ | omega | (simp; done) | (simp; omega)) _ | (with_reducible refine ext_trans ?_ (by with_reducible assumption))))).rd).mono ?_
  rintro e w6 ⟨rfl, hb6⟩
  have hz6 := hb6.size
  (try simp at hz6)
  have rw_6 := (hb6.block _ (by first | omega | (simp; done) | (simp; omega))).trans ((Below.heap_alloc _ _ _ lRw_5).trans Rw_5.out)
  have rg_6 : w6.heap[w5.heap.size]? = some (.cells #[.bool true, .int .u64 0, .int .u64 0, .slice A5 rs.length c5] 35 (0, 0)) := (hb6.block _ (by first | (simp; done) | (simp; omega))).trans (by repeat (first | exact heap_new _ _ _ (by first | rfl | (simp; done) | (simp; omega)) | refine (Below.heap_alloc _ _ _ (by first | omega | (simp; done) | (simp; omega))).trans ?_))
  have Oa_6 := Lib.hid (Oa_5.out.below (w' := w6) (by repeat (first | with_reducible exact Below.refl _ _ | with_reducible assumption | with_reducible refine Below.drew ?_ | with_reducible refine Below.alloc ?_ (by first | exact Nat.le_refl _ | omega | (simp; done) | (simp; omega)) _ | with_reducible refine Below.setCell ?_ (by first | exact Nat.le_refl _ | omega | (simp; done) | (simp; omega)) _ | (with_reducible refine ext_trans ?_ (by with_reducible assumption)))))
  have Ob_6 := Lib.hid (Ob_5.out.below (w' := w6) (by repeat (first | with_reducible exact Below.refl _ _ | with_reducible assumption | with_reducible refine Below.drew ?_ | with_reducible refine Below.alloc ?_ (by first | exact Nat.le_refl _ | omega | (simp; done) | (simp; omega)) _ | with_reducible refine Below.setCell ?_ (by first | exact Nat.le_refl _ | omega | (simp; done) | (simp; omega)) _ | (with_reducible refine ext_trans ?_ (by with_reducible assumption)))))
  have Ox_6 := Lib.hid (Ox_5.out.below (w' := w6) (by repeat (first | with_reducible exact Below.refl _ _ | with_reducible assumption | with_reducible refine Below.drew ?_ | with_reducible refine Below.alloc ?_ (by first | exact Nat.le_refl _ | omega | (simp; done) | (simp; omega)) _ | with_reducible refine Below.setCell ?_ (by first | exact Nat.le_refl _ | omega | (simp; done) | (simp; omega)) _ | (with_reducible refine ext_trans ?_ (by with_reducible assumption)))))
  have Og_6 := Lib.hid (Og_5.out.below (w' := w6) (by repeat (first | with_reducible exact Below.refl _ _ | with_reducible assumption | with_reducible refine Below.drew ?_ | with_reducible refine Below.alloc ?_ (by first | exact Nat.le_refl _ | omega | (simp; done) | (simp; omega)) _ | with_reducible refine Below.setCell ?_ (by first | exact Nat.le_refl _ | omega | (simp; done) | (simp; omega)) _ | (with_reducible refine ext_trans ?_ (by with_reducible assumption)))))
  have hw6 : Below w.heap.size w w6 := (by repeat (first | with_reducible exact Below.refl _ _ | with_reducible assumption | with_reducible refine Below.drew ?_ | with_reducible refine Below.alloc ?_ (by first | exact Nat.le_refl _ | omega | (simp; done) | (simp; omega)) _ | with_reducible refine Below.setCell ?_ (by first | exact Nat.le_refl _ | omega | (simp; done) | (simp; omega)) _ | (with_reducible refine ext_trans ?_ (by with_reducible assumption))))
  have lRw_6 : w3.heap.size < w6.heap.size := by omega
  have lRg_6 : w5.heap.size < w6.heap.size := by omega
  have Rw_6 := Lib.hid rw_6
  have r0_rw_6 := cell_of_row _ _ 0 _ _ _ rw_6
  have r1_rw_6 := cell_of_row _ _ 1 _ _ _ rw_6
  have r2_rw_6 := cell_of_row _ _ 2 _ _ _ rw_6
  have r3_rw_6 := cell_of_row _ _ 3 _ _ _ rw_6
  have f0_rw_6 := frozen_of_row _ _ 0 _ _ rw_6
  have f1_rw_6 := frozen_of_row _ _ 1 _ _ rw_6
  have f2_rw_6 := frozen_of_row _ _ 2 _ _ rw_6
  have f3_rw_6 := frozen_of_row _ _ 3 _ _ rw_6
  simp at r0_rw_6 r1_rw_6 r2_rw_6 r3_rw_6
  clear rw_6
  have Rg_6 := Lib.hid rg_6
  have r0_rg_6 := cell_of_row _ _ 0 _ _ _ rg_6
  have r1_rg_6 := cell_of_row _ _ 1 _ _ _ rg_6
  have r2_rg_6 := cell_of_row _ _ 2 _ _ _ rg_6
  have r3_rg_6 := cell_of_row _ _ 3 _ _ _ rg_6
  have f0_rg_6 := frozen_of_row _ _ 0 _ _ rg_6
  have f1_rg_6 := frozen_of_row _ _ 1 _ _ rg_6
  have f2_rg_6 := frozen_of_row _ _ 2 _ _ rg_6
  have f3_rg_6 := frozen_of_row _ _ 3 _ _ rg_6
  simp at r0_rg_6 r1_rg_6 r2_rg_6 r3_rg_6
  clear rg_6
  clear r0_rw_5 f0_rw_5 r1_rw_5 f1_rw_5 r2_rw_5 f2_rw_5 r3_rw_5 f3_rw_5
  go_wp2_with fail
  refine (toMacRowS_any _ rs M.out _ (H.out.below hw6)).mono ?_
  rintro e w7 ⟨v7, rfl, hO7, hb7⟩
  obtain ⟨A7, c7, rfl⟩ := hO7.form
  have Oy_7 := Lib.hid hO7
  have hz7 := hb7.size
  (try simp at hz7)
  have rw_7 := (hb7.block _ (by first | omega | (simp; done) | (simp; omega))).trans Rw_6.out
  have rg_7 := (hb7.block _ (by first | omega | (simp; done) | (simp; omega))).trans Rg_6.out
  have Oa_7 := Lib.hid (Oa_6.out.below (w' := w7) (by repeat (first | with_reducible exact Below.refl _ _ | with_reducible assumption | with_reducible refine Below.drew ?_ | with_reducible refine Below.alloc ?_ (by first | exact Nat.le_refl _ | omega | (simp; done) | (simp; omega)) _ | with_reducible refine Below.setCell ?_ (by first | exact Nat.le_refl _ | omega | (simp; done) | (simp; omega)) _ | (with_reducible refine ext_trans ?_ (by with_reducible assumption)))))
  have Ob_7 := Lib.hid (Ob_6.out.below (w' := w7) (by repeat (first | with_reducible exact Below.refl _ _ | with_reducible assumption | with_reducible refine Below.drew ?_ | with_reducible refine Below.alloc ?_ (by first | exact Nat.le_refl _ | omega | (simp; done) | (simp; omega)) _ | with_reducible refine Below.setCell ?_ (by first | exact Nat.le_refl _ | omega | (simp; done) | (simp; omega)) _ | (with_reducible refine ext_trans ?_ (by with_reducible assumption)))))
  have Ox_7 := Lib.hid (Ox_6.out.below (w' := w7) (by repeat (first | with_reducible exact Below.refl _ _ | with_reducible assumption | with_reducible refine Below.drew ?_ | with_reducible refine Below.alloc ?_ (by first | exact Nat.le_refl _ | omega | (simp; done) | (simp; omega)) _ | with_reducible refine Below.setCell ?_ (by first | exact Nat.le_refl _ | omega | (simp; done) | (simp; omega)) _ | (with_reducible refine ext_trans ?_ (by with_reducible assumption)))))
  have Og_7 := Lib.hid (Og_6.out.below (w' := w7) (by repeat (first | with_reducible exact Below.refl _ _ | with_reducible assumption | with_reducible refine Below.drew ?_ | with_reducible refine Below.alloc ?_ (by first | exact Nat.le_refl _ | omega | (simp; done) | (simp; omega)) _ | with_reducible refine Below.setCell ?_ (by first | exact Nat.le_refl _ | omega | (simp; done) | (simp; omega)) _ | (with_reducible refine ext_trans ?_ (by with_reducible assumption)))))
  have hw7 : Below w.heap.size w w7 := (by repeat (first | with_reducible exact Below.refl _ _ | with_reducible assumption | with_reducible refine Below.drew ?_ | with_reducible refine Below.alloc ?_ (by first | exact Nat.le_refl _ | omega | (simp; done) | (simp; omega)) _ | with_reducible refine Below.setCell ?_ (by first | exact Nat.le_refl _ | omega | (simp; done) | (simp; omega)) _ | (with_reducible refine ext_trans ?_ (by with_reducible assumption))))
  have lRw_7 : w3.heap.size < w7.heap.size := by omega
  have lRg_7 : w5.heap.size < w7.heap.size := by omega
  have Rw_7 := Lib.hid rw_7
  have r0_rw_7 := cell_of_row _ _ 0 _ _ _ rw_7
  have r1_rw_7 := cell_of_row _ _ 1 _ _ _ rw_7
  have r2_rw_7 := cell_of_row _ _ 2 _ _ _ rw_7
  have r3_rw_7 := cell_of_row _ _ 3 _ _ _ rw_7
  have f0_rw_7 := frozen_of_row _ _ 0 _ _ rw_7
  have f1_rw_7 := frozen_of_row _ _ 1 _ _ rw_7
  have f2_rw_7 := frozen_of_row _ _ 2 _ _ rw_7
  have f3_rw_7 := frozen_of_row _ _ 3 _ _ rw_7
  simp at r0_rw_7 r1_rw_7 r2_rw_7 r3_rw_7
  clear rw_7
  have Rg_7 := Lib.hid rg_7
  have r0_rg_7 := cell_of_row _ _ 0 _ _ _ rg_7
  have r1_rg_7 := cell_of_row _ _ 1 _ _ _ rg_7
  have r2_rg_7 := cell_of_row _ _ 2 _ _ _ rg_7
  have r3_rg_7 := cell_of_row _ _ 3 _ _ _ rg_7
  have f0_rg_7 := frozen_of_row _ _ 0 _ _ rg_7
  have f1_rg_7 := frozen_of_row _ _ 1 _ _ rg_7
  have f2_rg_7 := frozen_of_row _ _ 2 _ _ rg_7
  have f3_rg_7 := frozen_of_row _ _ 3 _ _ rg_7
  simp at r0_rg_7 r1_rg_7 r2_rg_7 r3_rg_7
  clear rg_7
  clear r0_rw_6 f0_rw_6 r1_rw_6 f1_rw_6 r2_rw_6 f2_rw_6 r3_rw_6 f3_rw_6
  clear r0_rg_6 f0_rg_6 r1_rg_6 f1_rg_6 r2_rg_6 f2_rg_6 r3_rg_6 f3_rg_6
  go_wp2_with fail
  refine (eqMacRowS_same _ _ rs N.out _ Ox_7.out.rd Oy_7.out.rd).mono ?_
  rintro e w8 ⟨rfl, hb8⟩
  have hz8 := hb8.size
  (try simp at hz8)
  have rw_8 := (hb8.block _ (by first | omega | (simp; done) | (simp; omega))).trans Rw_7.out
  have rg_8 := (hb8.block _ (by first | omega | (simp; done) | (simp; omega))).trans Rg_7.out
  have Oa_8 := Lib.hid (Oa_7.out.below (w' := w8) (by repeat (first | with_reducible exact Below.refl _ _ | with_reducible assumption | with_reducible refine Below.drew ?_ | with_reducible refine Below.alloc ?_ (by first | exact Nat.le_refl _ | omega | (simp; done) | (simp; omega)) _ | with_reducible refine Below.setCell ?_ (by first | exact Nat.le_refl _ | omega | (simp; done) | (simp; omega)) _ | (with_reducible refine ext_trans ?_ (by with_reducible assumption)))))
  have Ob_8 := Lib.hid (Ob_7.out.below (w' := w8) (by repeat (first | with_reducible exact Below.refl _ _ | with_reducible assumption | with_reducible refine Below.drew ?_ | with_reducible refine Below.alloc ?_ (by first | exact Nat.le_refl _ | omega | (simp; done) | (simp; omega)) _ | with_reducible refine Below.setCell ?_ (by first | exact Nat.le_refl _ | omega | (simp; done) | (simp; omega)) _ | (with_reducible refine ext_trans ?_ (by with_reducible assumption)))))
  have Ox_8 := Lib.hid (Ox_7.out.below (w' := w8) (by repeat (first | with_reducible exact Below.refl _ _ | with_reducible assumption | with_reducible refine Below.drew ?_ | with_reducible refine Below.alloc ?_ (by first | exact Nat.le_refl _ | omega | (simp; done) | (simp; omega)) _ | with_reducible refine Below.setCell ?_ (by first | exact Nat.le_refl _ | omega | (simp; done) | (simp; omega)) _ | (with_reducible refine ext_trans ?_ (by with_reducible assumption)))))
  have Og_8 := Lib.hid (Og_7.out.below (w' := w8) (by repeat (first | with_reducible exact Below.refl _ _ | with_reducible assumption | with_reducible refine Below.drew ?_ | with_reducible refine Below.alloc ?_ (by first | exact Nat.le_refl _ | omega | (simp; done) | (simp; omega)) _ | with_reducible refine Below.setCell ?_ (by first | exact Nat.le_refl _ | omega | (simp; done) | (simp; omega)) _ | (with_reducible refine ext_trans ?_ (by with_reducible assumption)))))
  have Oy_8 := Lib.hid (Oy_7.out.below (w' := w8) (by repeat (first | with_reducible exact Below.refl _ _ | with_reducible assumption | with_reducible refine Below.drew ?_ | with_reducible refine Below.alloc ?_ (by first | exact Nat.le_refl _ | omega | (simp; done) | (simp; omega)) _ | with_reducible refine Below.setCell ?_ (by first | exact Nat.le_refl _ | omega | (simp; done) | (simp; omega)) _ | (with_reducible refine ext_trans ?_ (by with_reducible assumption)))))
  have hw8 : Below w.heap.size w w8 := (by repeat (first | with_reducible exact Below.refl _ _ | with_reducible assumption | with_reducible refine Below.drew ?_ | with_reducible refine Below.alloc ?_ (by first | exact Nat.le_refl _ | omega | (simp; done) | (simp; omega)) _ | with_reducible refine Below.setCell ?_ (by first | exact Nat.le_refl _ | omega | (simp; done) | (simp; omega)) _ | (with_reducible refine ext_trans ?_ (by with_reducible assumption))))
  have lRw_8 : w3.heap.size < w8.heap.size := by omega
  have lRg_8 : w5.heap.size < w8.heap.size := by omega
  have Rw_8 := Lib.hid rw_8
  have r0_rw_8 := cell_of_row _ _ 0 _ _ _ rw_8
  have r1_rw_8 := cell_of_row _ _ 1 _ _ _ rw_8
  have r2_rw_8 := cell_of_row _ _ 2 _ _ _ rw_8
  have r3_rw_8 := cell_of_row _ _ 3 _ _ _ rw_8
  have f0_rw_8 := frozen_of_row _ _ 0 _ _ rw_8
  have f1_rw_8 := frozen_of_row _ _ 1 _ _ rw_8
  have f2_rw_8 := frozen_of_row _ _ 2 _ _ rw_8
  have f3_rw_8 := frozen_of_row _ _ 3 _ _ rw_8
  simp at r0_rw_8 r1_rw_8 r2_rw_8 r3_rw_8
  clear rw_8
  have Rg_8 := Lib.hid rg_8
  have r0_rg_8 := cell_of_row _ _ 0 _ _ _ rg_8
  have r1_rg_8 := cell_of_row _ _ 1 _ _ _ rg_8
  have r2_rg_8 := cell_of_row _ _ 2 _ _ _ rg_8
  have r3_rg_8 := cell_of_row _ _ 3 _ _ _ rg_8
  have f0_rg_8 := frozen_of_row _ _ 0 _ _ rg_8
  have f1_rg_8 := frozen_of_row _ _ 1 _ _ rg_8
  have f2_rg_8 := frozen_of_row _ _ 2 _ _ rg_8
  have f3_rg_8 := frozen_of_row _ _ 3 _ _ rg_8
  simp at r0_rg_8 r1_rg_8 r2_rg_8 r3_rg_8
  clear rg_8
  clear r0_rw_7 f0_rw_7 r1_rw_7 f1_rw_7 r2_rw_7 f2_rw_7 r3_rw_7 f3_rw_7
  clear r0_rg_7 f0_rg_7 r1_rg_7 f1_rg_7 r2_rg_7 f2_rg_7 r3_rg_7 f3_rg_7
  go_wp2_with fail
  refine (markMacRowS_any _ rs M.out 1 (by omega) (by omega) _ _ Ox_8.out).mono ?_
  rintro e w9 ⟨rfl, hO9, hg9⟩
  have hz9 := hg9.size
  have hlen9 : (marksMacRow rs.length 1).length = rs.length := marksMacRow_len _ _
  have rw_9 := (box_kept BORNx.out hlen9 hg9 (by omega) lRw_8).trans Rw_8.out
  have rg_9 := (box_kept BORNx.out hlen9 hg9 (by omega) lRg_8).trans Rg_8.out
  have hw9 : Below w.heap.size w w9 := Below.grown hw8 hg9 hw8.size (fun k hk => by have := chg_ge BORNx.out hlen9 k hk; omega)
  have Ob_9 := Lib.hid (Ob_8.out.apart hg9 (fun h _ => own_ne BORNb.out Ox_8.out (by first | omega | (simp; done) | (simp; omega)) h h))
  have Og_9 := Lib.hid (Og_8.out.apart hg9 (fun h _ => (own_ne BORNx.out Og_8.out (by first | omega | (simp; done) | (simp; omega)) h h).symm))
  have Ox_9 := Lib.hid hO9
  have lRw_9 : w3.heap.size < w9.heap.size := by omega
  have lRg_9 : w5.heap.size < w9.heap.size := by omega
  have Rw_9 := Lib.hid rw_9
  have r0_rw_9 := cell_of_row _ _ 0 _ _ _ rw_9
  have r1_rw_9 := cell_of_row _ _ 1 _ _ _ rw_9
  have r2_rw_9 := cell_of_row _ _ 2 _ _ _ rw_9
  have r3_rw_9 := cell_of_row _ _ 3 _ _ _ rw_9
  have f0_rw_9 := frozen_of_row _ _ 0 _ _ rw_9
  have f1_rw_9 := frozen_of_row _ _ 1 _ _ rw_9
  have f2_rw_9 := frozen_of_row _ _ 2 _ _ rw_9
  have f3_rw_9 := frozen_of_row _ _ 3 _ _ rw_9
  simp at r0_rw_9 r1_rw_9 r2_rw_9 r3_rw_9
  clear rw_9
  have Rg_9 := Lib.hid rg_9
  have r0_rg_9 := cell_of_row _ _ 0 _ _ _ rg_9
  have r1_rg_9 := cell_of_row _ _ 1 _ _ _ rg_9
  have r2_rg_9 := cell_of_row _ _ 2 _ _ _ rg_9
  have r3_rg_9 := cell_of_row _ _ 3 _ _ _ rg_9
  have f0_rg_9 := frozen_of_row _ _ 0 _ _ rg_9
  have f1_rg_9 := frozen_of_row _ _ 1 _ _ rg_9
  have f2_rg_9 := frozen_of_row _ _ 2 _ _ rg_9
  have f3_rg_9 := frozen_of_row _ _ 3 _ _ rg_9
  simp at r0_rg_9 r1_rg_9 r2_rg_9 r3_rg_9
  clear rg_9
  clear r0_rw_8 f0_rw_8 r1_rw_8 f1_rw_8 r2_rw_8 f2_rw_8 r3_rw_8 f3_rw_8
  clear r0_rg_8 f0_rg_8 r1_rg_8 f1_rg_8 r2_rg_8 f2_rg_8 r3_rg_8 f3_rg_8
  clear hO9 hg9
  have hk9 : ¬ (((1 + 2 * rs.length : Nat) : Int) < 0) := by omega
  go_wp2_with fail
  refine (eqMac_same true 0 0 _ _ rs N.out _ Og_9.out.rd Ob_9.out.rd).mono ?_
  rintro e w10 ⟨rfl, hb10⟩
  have hz10 := hb10.size
  (try simp at hz10)
  have rw_10 := (hb10.block _ (by first | omega | (simp; done) | (simp; omega))).trans Rw_9.out
  have rg_10 := (hb10.block _ (by first | omega | (simp; done) | (simp; omega))).trans Rg_9.out
  have Ob_10 := Lib.hid (Ob_9.out.below (w' := w10) (by repeat (first | with_reducible exact Below.refl _ _ | with_reducible assumption | with_reducible refine Below.drew ?_ | with_reducible refine Below.alloc ?_ (by first | exact Nat.le_refl _ | omega | (simp; done) | (simp; omega)) _ | with_reducible refine Below.setCell ?_ (by first | exact Nat.le_refl _ | omega | (simp; done) | (simp; omega)) _ | (with_reducible refine ext_trans ?_ (by with_reducible assumption)))))
  have Ox_10 := Lib.hid (Ox_9.out.below (w' := w10) (by repeat (first | with_reducible exact Below.refl _ _ | with_reducible assumption | with_reducible refine Below.drew ?_ | with_reducible refine Below.alloc ?_ (by first | exact Nat.le_refl _ | omega | (simp; done) | (simp; omega)) _ | with_reducible refine Below.setCell ?_ (by first | exact Nat.le_refl _ | omega | (simp; done) | (simp; omega)) _ | (with_reducible refine ext_trans ?_ (by with_reducible assumption)))))
  have Og_10 := Lib.hid (Og_9.out.below (w' := w10) (by repeat (first | with_reducible exact Below.refl _ _ | with_reducible assumption | with_reducible refine Below.drew ?_ | with_reducible refine Below.alloc ?_ (by first | exact Nat.le_refl _ | omega | (simp; done) | (simp; omega)) _ | with_reducible refine Below.setCell ?_ (by first | exact Nat.le_refl _ | omega | (simp; done) | (simp; omega)) _ | (with_reducible refine ext_trans ?_ (by with_reducible assumption)))))
  have hw10 : Below w.heap.size w w10 := (by repeat (first | with_reducible exact Below.refl _ _ | with_reducible assumption | with_reducible refine Below.drew ?_ | with_reducible refine Below.alloc ?_ (by first | exact Nat.le_refl _ | omega | (simp; done) | (simp; omega)) _ | with_reducible refine Below.setCell ?_ (by first | exact Nat.le_refl _ | omega | (simp; done) | (simp; omega)) _ | (with_reducible refine ext_trans ?_ (by with_reducible assumption))))
  have lRw_10 : w3.heap.size < w10.heap.size := by omega
  have lRg_10 : w5.heap.size < w10.heap.size := by omega
  have Rw_10 := Lib.hid rw_10
  have r0_rw_10 := cell_of_row _ _ 0 _ _ _ rw_10
  have r1_rw_10 := cell_of_row _ _ 1 _ _ _ rw_10
  have r2_rw_10 := cell_of_row _ _ 2 _ _ _ rw_10
  have r3_rw_10 := cell_of_row _ _ 3 _ _ _ rw_10
  have f0_rw_10 := frozen_of_row _ _ 0 _ _ rw_10
  have f1_rw_10 := frozen_of_row _ _ 1 _ _ rw_10
  have f2_rw_10 := frozen_of_row _ _ 2 _ _ rw_10
  have f3_rw_10 := frozen_of_row _ _ 3 _ _ rw_10
  simp at r0_rw_10 r1_rw_10 r2_rw_10 r3_rw_10
  clear rw_10
  have Rg_10 := Lib.hid rg_10
  have r0_rg_10 := cell_of_row _ _ 0 _ _ _ rg_10
  have r1_rg_10 := cell_of_row _ _ 1 _ _ _ rg_10
  have r2_rg_10 := cell_of_row _ _ 2 _ _ _ rg_10
  have r3_rg_10 := cell_of_row _ _ 3 _ _ _ rg_10
  have f0_rg_10 := frozen_of_row _ _ 0 _ _ rg_10
  have f1_rg_10 := frozen_of_row _ _ 1 _ _ rg_10
  have f2_rg_10 := frozen_of_row _ _ 2 _ _ rg_10
  have f3_rg_10 := frozen_of_row _ _ 3 _ _ rg_10
  simp at r0_rg_10 r1_rg_10 r2_rg_10 r3_rg_10
  clear rg_10
  clear r0_rw_9 f0_rw_9 r1_rw_9 f1_rw_9 r2_rw_9 f2_rw_9 r3_rw_9 f3_rw_9
  clear r0_rg_9 f0_rg_9 r1_rg_9 f1_rg_9 r2_rg_9 f2_rg_9 r3_rg_9 f3_rg_9
  go_wp2_with fail
  refine (markMac_any true 0 0 _ rs M.out 1 (by omega) (by omega) _ _ Og_10.out).mono ?_
  rintro e w11 ⟨rfl, hO11, hg11⟩
  have hz11 := hg11.size
  have hlen11 : (marksMacRow rs.length 1).length = rs.length := marksMacRow_len _ _
  have rw_11 := (box_kept BORNg.out hlen11 hg11 (by omega) lRw_10).trans Rw_10.out
  have rg_11 := (box_kept BORNg.out hlen11 hg11 (by omega) lRg_10).trans Rg_10.out
  have hw11 : Below w.heap.size w w11 := Below.grown hw10 hg11 hw10.size (fun k hk => by have := chg_ge BORNg.out hlen11 k hk; omega)
  have Ob_11 := Lib.hid (Ob_10.out.apart hg11 (fun h _ => own_ne BORNb.out Og_10.out (by first | omega | (simp; done) | (simp; omega)) h h))
  have Og_11 := Lib.hid hO11
  have lRw_11 : w3.heap.size < w11.heap.size := by omega
  have lRg_11 : w5.heap.size < w11.heap.size := by omega
  have Rw_11 := Lib.hid rw_11
  have r0_rw_11 := cell_of_row _ _ 0 _ _ _ rw_11
  have r1_rw_11 := cell_of_row _ _ 1 _ _ _ rw_11
  have r2_rw_11 := cell_of_row _ _ 2 _ _ _ rw_11
  have r3_rw_11 := cell_of_row _ _ 3 _ _ _ rw_11
  have f0_rw_11 := frozen_of_row _ _ 0 _ _ rw_11
  have f1_rw_11 := frozen_of_row _ _ 1 _ _ rw_11
  have f2_rw_11 := frozen_of_row _ _ 2 _ _ rw_11
  have f3_rw_11 := frozen_of_row _ _ 3 _ _ rw_11
  simp at r0_rw_11 r1_rw_11 r2_rw_11 r3_rw_11
  clear rw_11
  have Rg_11 := Lib.hid rg_11
  have r0_rg_11 := cell_of_row _ _ 0 _ _ _ rg_11
  have r1_rg_11 := cell_of_row _ _ 1 _ _ _ rg_11
  have r2_rg_11 := cell_of_row _ _ 2 _ _ _ rg_11
  have r3_rg_11 := cell_of_row _ _ 3 _ _ _ rg_11
  have f0_rg_11 := frozen_of_row _ _ 0 _ _ rg_11
  have f1_rg_11 := frozen_of_row _ _ 1 _ _ rg_11
  have f2_rg_11 := frozen_of_row _ _ 2 _ _ rg_11
  have f3_rg_11 := frozen_of_row _ _ 3 _ _ rg_11
  simp at r0_rg_11 r1_rg_11 r2_rg_11 r3_rg_11
  clear rg_11
  clear r0_rw_10 f0_rw_10 r1_rw_10 f1_rw_10 r2_rw_10 f2_rw_10 r3_rw_10 f3_rw_10
  clear r0_rg_10 f0_rg_10 r1_rg_10 f1_rg_10 r2_rg_10 f2_rg_10 r3_rg_10 f3_rg_10
  clear hO11 hg11
  go_wp2_with fail
  refine (heldMac_any true 0 0 _ rs.length M.out 1 (by omega) (by omega) _ (marked_rdMacRow Og_11.out)).mono ?_
  rintro e w12 ⟨rfl, hb12⟩
  have hz12 := hb12.size
  (try simp at hz12)
  have rw_12 := (hb12.block _ (by first | omega | (simp; done) | (simp; omega))).trans Rw_11.out
  have rg_12 := (hb12.block _ (by first | omega | (simp; done) | (simp; omega))).trans Rg_11.out
  have Ob_12 := Lib.hid (Ob_11.out.below (w' := w12) (by repeat (first | with_reducible exact Below.refl _ _ | with_reducible assumption | with_reducible refine Below.drew ?_ | with_reducible refine Below.alloc ?_ (by first | exact Nat.le_refl _ | omega | (simp; done) | (simp; omega)) _ | with_reducible refine Below.setCell ?_ (by first | exact Nat.le_refl _ | omega | (simp; done) | (simp; omega)) _ | (with_reducible refine ext_trans ?_ (by with_reducible assumption)))))
  have Og_12 := Lib.hid (Og_11.out.below (w' := w12) (by repeat (first | with_reducible exact Below.refl _ _ | with_reducible assumption | with_reducible refine Below.drew ?_ | with_reducible refine Below.alloc ?_ (by first | exact Nat.le_refl _ | omega | (simp; done) | (simp; omega)) _ | with_reducible refine Below.setCell ?_ (by first | exact Nat.le_refl _ | omega | (simp; done) | (simp; omega)) _ | (with_reducible refine ext_trans ?_ (by with_reducible assumption)))))
  have hw12 : Below w.heap.size w w12 := (by repeat (first | with_reducible exact Below.refl _ _ | with_reducible assumption | with_reducible refine Below.drew ?_ | with_reducible refine Below.alloc ?_ (by first | exact Nat.le_refl _ | omega | (simp; done) | (simp; omega)) _ | with_reducible refine Below.setCell ?_ (by first | exact Nat.le_refl _ | omega | (simp; done) | (simp; omega)) _ | (with_reducible refine ext_trans ?_ (by with_reducible assumption))))
  have lRw_12 : w3.heap.size < w12.heap.size := by omega
  have lRg_12 : w5.heap.size < w12.heap.size := by omega
  have Rw_12 := Lib.hid rw_12
  have r0_rw_12 := cell_of_row _ _ 0 _ _ _ rw_12
  have r1_rw_12 := cell_of_row _ _ 1 _ _ _ rw_12
  have r2_rw_12 := cell_of_row _ _ 2 _ _ _ rw_12
  have r3_rw_12 := cell_of_row _ _ 3 _ _ _ rw_12
  have f0_rw_12 := frozen_of_row _ _ 0 _ _ rw_12
  have f1_rw_12 := frozen_of_row _ _ 1 _ _ rw_12
  have f2_rw_12 := frozen_of_row _ _ 2 _ _ rw_12
  have f3_rw_12 := frozen_of_row _ _ 3 _ _ rw_12
  simp at r0_rw_12 r1_rw_12 r2_rw_12 r3_rw_12
  clear rw_12
  have Rg_12 := Lib.hid rg_12
  have r0_rg_12 := cell_of_row _ _ 0 _ _ _ rg_12
  have r1_rg_12 := cell_of_row _ _ 1 _ _ _ rg_12
  have r2_rg_12 := cell_of_row _ _ 2 _ _ _ rg_12
  have r3_rg_12 := cell_of_row _ _ 3 _ _ _ rg_12
  have f0_rg_12 := frozen_of_row _ _ 0 _ _ rg_12
  have f1_rg_12 := frozen_of_row _ _ 1 _ _ rg_12
  have f2_rg_12 := frozen_of_row _ _ 2 _ _ rg_12
  have f3_rg_12 := frozen_of_row _ _ 3 _ _ rg_12
  simp at r0_rg_12 r1_rg_12 r2_rg_12 r3_rg_12
  clear rg_12
  clear r0_rw_11 f0_rw_11 r1_rw_11 f1_rw_11 r2_rw_11 f2_rw_11 r3_rw_11 f3_rw_11
  clear r0_rg_11 f0_rg_11 r1_rg_11 f1_rg_11 r2_rg_11 f2_rg_11 r3_rg_11 f3_rg_11
  have hk12 : ¬ (((1 + 2 * rs.length : Nat) : Int) < 0) := by omega
  go_wp2_with fail
  refine (toMacRowS_any _ rs M.out _ (H.out.below hw12)).mono ?_
  rintro e w13 ⟨v13, rfl, hO13, hb13⟩
  obtain ⟨A13, c13, rfl⟩ := hO13.form
  have Oy_13 := Lib.hid hO13
  have hz13 := hb13.size
  (try simp at hz13)
  have rw_13 := (hb13.block _ (by first | omega | (simp; done) | (simp; omega))).trans Rw_12.out
  have rg_13 := (hb13.block _ (by first | omega | (simp; done) | (simp; omega))).trans Rg_12.out
  have Ob_13 := Lib.hid (Ob_12.out.below (w' := w13) (by repeat (first | with_reducible exact Below.refl _ _ | with_reducible assumption | with_reducible refine Below.drew ?_ | with_reducible refine Below.alloc ?_ (by first | exact Nat.le_refl _ | omega | (simp; done) | (simp; omega)) _ | with_reducible refine Below.setCell ?_ (by first | exact Nat.le_refl _ | omega | (simp; done) | (simp; omega)) _ | (with_reducible refine ext_trans ?_ (by with_reducible assumption)))))
  have Og_13 := Lib.hid (Og_12.out.below (w' := w13) (by repeat (first | with_reducible exact Below.refl _ _ | with_reducible assumption | with_reducible refine Below.drew ?_ | with_reducible refine Below.alloc ?_ (by first | exact Nat.le_refl _ | omega | (simp; done) | (simp; omega)) _ | with_reducible refine Below.setCell ?_ (by first | exact Nat.le_refl _ | omega | (simp; done) | (simp; omega)) _ | (with_reducible refine ext_trans ?_ (by with_reducible assumption)))))
  have hw13 : Below w.heap.size w w13 := (by repeat (first | with_reducible exact Below.refl _ _ | with_reducible assumption | with_reducible refine Below.drew ?_ | with_reducible refine Below.alloc ?_ (by first | exact Nat.le_refl _ | omega | (simp; done) | (simp; omega)) _ | with_reducible refine Below.setCell ?_ (by first | exact Nat.le_refl _ | omega | (simp; done) | (simp; omega)) _ | (with_reducible refine ext_trans ?_ (by with_reducible assumption))))
  have lRw_13 : w3.heap.size < w13.heap.size := by omega
  have lRg_13 : w5.heap.size < w13.heap.size := by omega
  have Rw_13 := Lib.hid rw_13
  have r0_rw_13 := cell_of_row _ _ 0 _ _ _ rw_13
  have r1_rw_13 := cell_of_row _ _ 1 _ _ _ rw_13
  have r2_rw_13 := cell_of_row _ _ 2 _ _ _ rw_13
  have r3_rw_13 := cell_of_row _ _ 3 _ _ _ rw_13
  have f0_rw_13 := frozen_of_row _ _ 0 _ _ rw_13
  have f1_rw_13 := frozen_of_row _ _ 1 _ _ rw_13
  have f2_rw_13 := frozen_of_row _ _ 2 _ _ rw_13
  have f3_rw_13 := frozen_of_row _ _ 3 _ _ rw_13
  simp at r0_rw_13 r1_rw_13 r2_rw_13 r3_rw_13
  clear rw_13
  have Rg_13 := Lib.hid rg_13
  have r0_rg_13 := cell_of_row _ _ 0 _ _ _ rg_13
  have r1_rg_13 := cell_of_row _ _ 1 _ _ _ rg_13
  have r2_rg_13 := cell_of_row _ _ 2 _ _ _ rg_13
  have r3_rg_13 := cell_of_row _ _ 3 _ _ _ rg_13
  have f0_rg_13 := frozen_of_row _ _ 0 _ _ rg_13
  have f1_rg_13 := frozen_of_row _ _ 1 _ _ rg_13
  have f2_rg_13 := frozen_of_row _ _ 2 _ _ rg_13
  have f3_rg_13 := frozen_of_row _ _ 3 _ _ rg_13
  simp at r0_rg_13 r1_rg_13 r2_rg_13 r3_rg_13
  clear rg_13
  clear r0_rw_12 f0_rw_12 r1_rw_12 f1_rw_12 r2_rw_12 f2_rw_12 r3_rw_12 f3_rw_12
  clear r0_rg_12 f0_rg_12 r1_rg_12 f1_rg_12 r2_rg_12 f2_rg_12 r3_rg_12 f3_rg_12
  go_wp2_with fail
  refine (TableMac_any _ rs M2.out _ Oy_13.out.rd).mono ?_
  rintro e w14 ⟨v14, rfl, hO14, hb14⟩
  obtain ⟨A14, c14, rfl⟩ := hO14.form
  have Oh_14 := Lib.hid hO14
  have hz14 := hb14.size
  (try simp at hz14)
  have rw_14 := (hb14.block _ (by first | omega | (simp; done) | (simp; omega))).trans Rw_13.out
  have rg_14 := (hb14.block _ (by first | omega | (simp; done) | (simp; omega))).trans Rg_13.out
  have Ob_14 := Lib.hid (Ob_13.out.below (w' := w14) (by repeat (first | with_reducible exact Below.refl _ _ | with_reducible assumption | with_reducible refine Below.drew ?_ | with_reducible refine Below.alloc ?_ (by first | exact Nat.le_refl _ | omega | (simp; done) | (simp; omega)) _ | with_reducible refine Below.setCell ?_ (by first | exact Nat.le_refl _ | omega | (simp; done) | (simp; omega)) _ | (with_reducible refine ext_trans ?_ (by with_reducible assumption)))))
  have Og_14 := Lib.hid (Og_13.out.below (w' := w14) (by repeat (first | with_reducible exact Below.refl _ _ | with_reducible assumption | with_reducible refine Below.drew ?_ | with_reducible refine Below.alloc ?_ (by first | exact Nat.le_refl _ | omega | (simp; done) | (simp; omega)) _ | with_reducible refine Below.setCell ?_ (by first | exact Nat.le_refl _ | omega | (simp; done) | (simp; omega)) _ | (with_reducible refine ext_trans ?_ (by with_reducible assumption)))))
  have Oy_14 := Lib.hid (Oy_13.out.below (w' := w14) (by repeat (first | with_reducible exact Below.refl _ _ | with_reducible assumption | with_reducible refine Below.drew ?_ | with_reducible refine Below.alloc ?_ (by first | exact Nat.le_refl _ | omega | (simp; done) | (simp; omega)) _ | with_reducible refine Below.setCell ?_ (by first | exact Nat.le_refl _ | omega | (simp; done) | (simp; omega)) _ | (with_reducible refine ext_trans ?_ (by with_reducible assumption)))))
  have hw14 : Below w.heap.size w w14 := (by repeat (first | with_reducible exact Below.refl _ _ | with_reducible assumption | with_reducible refine Below.drew ?_ | with_reducible refine Below.alloc ?_ (by first | exact Nat.le_refl _ | omega | (simp; done) | (simp; omega)) _ | with_reducible refine Below.setCell ?_ (by first | exact Nat.le_refl _ | omega | (simp; done) | (simp; omega)) _ | (with_reducible refine ext_trans ?_ (by with_reducible assumption))))
  have lRw_14 : w3.heap.size < w14.heap.size := by omega
  have lRg_14 : w5.heap.size < w14.heap.size := by omega
  have Rw_14 := Lib.hid rw_14
  have r0_rw_14 := cell_of_row _ _ 0 _ _ _ rw_14
  have r1_rw_14 := cell_of_row _ _ 1 _ _ _ rw_14
  have r2_rw_14 := cell_of_row _ _ 2 _ _ _ rw_14
  have r3_rw_14 := cell_of_row _ _ 3 _ _ _ rw_14
  have f0_rw_14 := frozen_of_row _ _ 0 _ _ rw_14
  have f1_rw_14 := frozen_of_row _ _ 1 _ _ rw_14
  have f2_rw_14 := frozen_of_row _ _ 2 _ _ rw_14
  have f3_rw_14 := frozen_of_row _ _ 3 _ _ rw_14
  simp at r0_rw_14 r1_rw_14 r2_rw_14 r3_rw_14
  clear rw_14
  have Rg_14 := Lib.hid rg_14
  have r0_rg_14 := cell_of_row _ _ 0 _ _ _ rg_14
  have r1_rg_14 := cell_of_row _ _ 1 _ _ _ rg_14
  have r2_rg_14 := cell_of_row _ _ 2 _ _ _ rg_14
  have r3_rg_14 := cell_of_row _ _ 3 _ _ _ rg_14
  have f0_rg_14 := frozen_of_row _ _ 0 _ _ rg_14
  have f1_rg_14 := frozen_of_row _ _ 1 _ _ rg_14
  have f2_rg_14 := frozen_of_row _ _ 2 _ _ rg_14
  have f3_rg_14 := frozen_of_row _ _ 3 _ _ rg_14
  simp at r0_rg_14 r1_rg_14 r2_rg_14 r3_rg_14
  clear rg_14
  clear r0_rw_13 f0_rw_13 r1_rw_13 f1_rw_13 r2_rw_13 f2_rw_13 r3_rw_13 f3_rw_13
  clear r0_rg_13 f0_rg_13 r1_rg_13 f1_rg_13 r2_rg_13 f2_rg_13 r3_rg_13 f3_rg_13
  go_wp2_with fail
  refine (eqMac_same true 0 0 _ _ rs N.out _ (Oh_14.out.below (by repeat (first | with_reducible exact Below.refl _ _ | with_reducible assumption | with_reducible refine Below.drew ?_ | with_reducible refine Below.alloc ?_ (by first | exact Nat.le_refl _ | omega | (simp; done) | (simp; omega)) _ | with_reducible refine Below.setCell ?_ (by first | exact Nat.le_refl _ | omega | (simp; done) | (simp; omega)) _ | (with_reducible refine ext_trans ?_ (by with_reducible assumption))))).rd (Ob_14.out.below (by repeat (first | with_reducible exact Below.refl _ _ | with_reducible assumption | with_reducible refine Below.drew ?_ | with_reducible refine Below.alloc ?_ (by first | exact Nat.le_refl _ | omega | (simp; done) | (simp; omega)) _ | with_reducible refine Below.setCell ?_ (by first | exact Nat.le_refl _ | omega | (simp; done) | (simp; omega)) _ | (with_reducible refine ext_trans ?_ (by with_reducible assumption))))).rd).mono ?_
  rintro e w15 ⟨rfl, hb15⟩
  have hz15 := hb15.size
  (try simp at hz15)
  have rw_15 := (hb15.block _ (by first | omega | (simp; done) | (simp; omega))).trans ((Below.heap_alloc _ _ _ lRw_14).trans Rw_14.out)
  have rg_15 := (hb15.block _ (by first | omega | (simp; done) | (simp; omega))).trans ((Below.heap_alloc _ _ _ lRg_14).trans Rg_14.out)
  have rh_15 : w15.heap[w14.heap.size]? = some (.cells #[.bool true, .int .u64 0, .int .u64 0, .slice A14 rs.length c14] 35 (0, 0)) := (hb15.block _ (by first | (simp; done) | (simp; omega))).trans (by repeat (first | exact heap_new _ _ _ (by first | rfl | (simp; done) | (simp; omega)) | refine (Below.heap_alloc _ _ _ (by first | omega | (simp; done) | (simp; omega))).trans ?_))
  have Ob_15 := Lib.hid (Ob_14.out.below (w' := w15) (by repeat (first | with_reducible exact Below.refl _ _ | with_reducible assumption | with_reducible refine Below.drew ?_ | with_reducible refine Below.alloc ?_ (by first | exact Nat.le_refl _ | omega | (simp; done) | (simp; omega)) _ | with_reducible refine Below.setCell ?_ (by first | exact Nat.le_refl _ | omega | (simp; done) | (simp; omega)) _ | (with_reducible refine ext_trans ?_ (by with_reducible assumption)))))
  have Og_15 := Lib.hid (Og_14.out.below (w' := w15) (by repeat (first | with_reducible exact Below.refl _ _ | with_reducible assumption | with_reducible refine Below.drew ?_ | with_reducible refine Below.alloc ?_ (by first | exact Nat.le_refl _ | omega | (simp; done) | (simp; omega)) _ | with_reducible refine Below.setCell ?_ (by first | exact Nat.le_refl _ | omega | (simp; done) | (simp; omega)) _ | (with_reducible refine ext_trans ?_ (by with_reducible assumption)))))
  have Oh_15 := Lib.hid (Oh_14.out.below (w' := w15) (by repeat (first | with_reducible exact Below.refl _ _ | with_reducible assumption | with_reducible refine Below.drew ?_ | with_reducible refine Below.alloc ?_ (by first | exact Nat.le_refl _ | omega | (simp; done) | (simp; omega)) _ | with_reducible refine Below.setCell ?_ (by first | exact Nat.le_refl _ | omega | (simp; done) | (simp; omega)) _ | (with_reducible refine ext_trans ?_ (by with_reducible assumption)))))
  have hw15 : Below w.heap.size w w15 := (by repeat (first | with_reducible exact Below.refl _ _ | with_reducible assumption | with_reducible refine Below.drew ?_ | with_reducible refine Below.alloc ?_ (by first | exact Nat.le_refl _ | omega | (simp; done) | (simp; omega)) _ | with_reducible refine Below.setCell ?_ (by first | exact Nat.le_refl _ | omega | (simp; done) | (simp; omega)) _ | (with_reducible refine ext_trans ?_ (by with_reducible assumption))))
  have lRw_15 : w3.heap.size < w15.heap.size := by omega
  have lRg_15 : w5.heap.size < w15.heap.size := by omega
  have lRh_15 : w14.heap.size < w15.heap.size := by omega
  have Rw_15 := Lib.hid rw_15
  have r0_rw_15 := cell_of_row _ _ 0 _ _ _ rw_15
  have r1_rw_15 := cell_of_row _ _ 1 _ _ _ rw_15
  have r2_rw_15 := cell_of_row _ _ 2 _ _ _ rw_15
  have r3_rw_15 := cell_of_row _ _ 3 _ _ _ rw_15
  have f0_rw_15 := frozen_of_row _ _ 0 _ _ rw_15
  have f1_rw_15 := frozen_of_row _ _ 1 _ _ rw_15
  have f2_rw_15 := frozen_of_row _ _ 2 _ _ rw_15
  have f3_rw_15 := frozen_of_row _ _ 3 _ _ rw_15
  simp at r0_rw_15 r1_rw_15 r2_rw_15 r3_rw_15
  clear rw_15
  have Rg_15 := Lib.hid rg_15
  have r0_rg_15 := cell_of_row _ _ 0 _ _ _ rg_15
  have r1_rg_15 := cell_of_row _ _ 1 _ _ _ rg_15
  have r2_rg_15 := cell_of_row _ _ 2 _ _ _ rg_15
  have r3_rg_15 := cell_of_row _ _ 3 _ _ _ rg_15
  have f0_rg_15 := frozen_of_row _ _ 0 _ _ rg_15
  have f1_rg_15 := frozen_of_row _ _ 1 _ _ rg_15
  have f2_rg_15 := frozen_of_row _ _ 2 _ _ rg_15
  have f3_rg_15 := frozen_of_row _ _ 3 _ _ rg_15
  simp at r0_rg_15 r1_rg_15 r2_rg_15 r3_rg_15
  clear rg_15
  have Rh_15 := Lib.hid rh_15
  have r0_rh_15 := cell_of_row _ _ 0 _ _ _ rh_15
  have r1_rh_15 := cell_of_row _ _ 1 _ _ _ rh_15
  have r2_rh_15 := cell_of_row _ _ 2 _ _ _ rh_15
  have r3_rh_15 := cell_of_row _ _ 3 _ _ _ rh_15
  have f0_rh_15 := frozen_of_row _ _ 0 _ _ rh_15
  have f1_rh_15 := frozen_of_row _ _ 1 _ _ rh_15
  have f2_rh_15 := frozen_of_row _ _ 2 _ _ rh_15
  have f3_rh_15 := frozen_of_row _ _ 3 _ _ rh_15
  simp at r0_rh_15 r1_rh_15 r2_rh_15 r3_rh_15
  clear rh_15
  clear r0_rw_14 f0_rw_14 r1_rw_14 f1_rw_14 r2_rw_14 f2_rw_14 r3_rw_14 f3_rw_14
  clear r0_rg_14 f0_rg_14 r1_rg_14 f1_rg_14 r2_rg_14 f2_rg_14 r3_rg_14 f3_rg_14
  go_wp2_with fail
  refine (heldMac_any true 0 0 _ rs.length M.out 1 (by omega) (by omega) _ (marked_rdMacRow Og_15.out)).mono ?_
  rintro e w16 ⟨rfl, hb16⟩
  have hz16 := hb16.size
  (try simp at hz16)
  have rw_16 := (hb16.block _ (by first | omega | (simp; done) | (simp; omega))).trans Rw_15.out
  have rg_16 := (hb16.block _ (by first | omega | (simp; done) | (simp; omega))).trans Rg_15.out
  have rh_16 := (hb16.block _ (by first | omega | (simp; done) | (simp; omega))).trans Rh_15.out
  have Ob_16 := Lib.hid (Ob_15.out.below (w' := w16) (by repeat (first | with_reducible exact Below.refl _ _ | with_reducible assumption | with_reducible refine Below.drew ?_ | with_reducible refine Below.alloc ?_ (by first | exact Nat.le_refl _ | omega | (simp; done) | (simp; omega)) _ | with_reducible refine Below.setCell ?_ (by first | exact Nat.le_refl _ | omega | (simp; done) | (simp; omega)) _ | (with_reducible refine ext_trans ?_ (by with_reducible assumption)))))
  have Og_16 := Lib.hid (Og_15.out.below (w' := w16) (by repeat (first | with_reducible exact Below.refl _ _ | with_reducible assumption | with_reducible refine Below.drew ?_ | with_reducible refine Below.alloc ?_ (by first | exact Nat.le_refl _ | omega | (simp; done) | (simp; omega)) _ | with_reducible refine Below.setCell ?_ (by first | exact Nat.le_refl _ | omega | (simp; done) | (simp; omega)) _ | (with_reducible refine ext_trans ?_ (by with_reducible assumption)))))
  have Oh_16 := Lib.hid (Oh_15.out.below (w' := w16) (by repeat (first | with_reducible exact Below.refl _ _ | with_reducible assumption | with_reducible refine Below.drew ?_ | with_reducible refine Below.alloc ?_ (by first | exact Nat.le_refl _ | omega | (simp; done) | (simp; omega)) _ | with_reducible refine Below.setCell ?_ (by first | exact Nat.le_refl _ | omega | (simp; done) | (simp; omega)) _ | (with_reducible refine ext_trans ?_ (by with_reducible assumption)))))
  have hw16 : Below w.heap.size w w16 := (by repeat (first | with_reducible exact Below.refl _ _ | with_reducible assumption | with_reducible refine Below.drew ?_ | with_reducible refine Below.alloc ?_ (by first | exact Nat.le_refl _ | omega | (simp; done) | (simp; omega)) _ | with_reducible refine Below.setCell ?_ (by first | exact Nat.le_refl _ | omega | (simp; done) | (simp; omega)) _ | (with_reducible refine ext_trans ?_ (by with_reducible assumption))))
  have lRw_16 : w3.heap.size < w16.heap.size := by omega
  have lRg_16 : w5.heap.size < w16.heap.size := by omega
  have lRh_16 : w14.heap.size < w16.heap.size := by omega
  have Rw_16 := Lib.hid rw_16
  have r0_rw_16 := cell_of_row _ _ 0 _ _ _ rw_16
  have r1_rw_16 := cell_of_row _ _ 1 _ _ _ rw_16
  have r2_rw_16 := cell_of_row _ _ 2 _ _ _ rw_16
  have r3_rw_16 := cell_of_row _ _ 3 _ _ _ rw_16
  have f0_rw_16 := frozen_of_row _ _ 0 _ _ rw_16
  have f1_rw_16 := frozen_of_row _ _ 1 _ _ rw_16
  have f2_rw_16 := frozen_of_row _ _ 2 _ _ rw_16
  have f3_rw_16 := frozen_of_row _ _ 3 _ _ rw_16
  simp at r0_rw_16 r1_rw_16 r2_rw_16 r3_rw_16
  clear rw_16
  have Rg_16 := Lib.hid rg_16
  have r0_rg_16 := cell_of_row _ _ 0 _ _ _ rg_16
  have r1_rg_16 := cell_of_row _ _ 1 _ _ _ rg_16
  have r2_rg_16 := cell_of_row _ _ 2 _ _ _ rg_16
  have r3_rg_16 := cell_of_row _ _ 3 _ _ _ rg_16
  have f0_rg_16 := frozen_of_row _ _ 0 _ _ rg_16
  have f1_rg_16 := frozen_of_row _ _ 1 _ _ rg_16
  have f2_rg_16 := frozen_of_row _ _ 2 _ _ rg_16
  have f3_rg_16 := frozen_of_row _ _ 3 _ _ rg_16
  simp at r0_rg_16 r1_rg_16 r2_rg_16 r3_rg_16
  clear rg_16
  have Rh_16 := Lib.hid rh_16
  have r0_rh_16 := cell_of_row _ _ 0 _ _ _ rh_16
  have r1_rh_16 := cell_of_row _ _ 1 _ _ _ rh_16
  have r2_rh_16 := cell_of_row _ _ 2 _ _ _ rh_16
  have r3_rh_16 := cell_of_row _ _ 3 _ _ _ rh_16
  have f0_rh_16 := frozen_of_row _ _ 0 _ _ rh_16
  have f1_rh_16 := frozen_of_row _ _ 1 _ _ rh_16
  have f2_rh_16 := frozen_of_row _ _ 2 _ _ rh_16
  have f3_rh_16 := frozen_of_row _ _ 3 _ _ rh_16
  simp at r0_rh_16 r1_rh_16 r2_rh_16 r3_rh_16
  clear rh_16
  clear r0_rw_15 f0_rw_15 r1_rw_15 f1_rw_15 r2_rw_15 f2_rw_15 r3_rw_15 f3_rw_15
  clear r0_rg_15 f0_rg_15 r1_rg_15 f1_rg_15 r2_rg_15 f2_rg_15 r3_rg_15 f3_rg_15
  clear r0_rh_15 f0_rh_15 r1_rh_15 f1_rh_15 r2_rh_15 f2_rh_15 r3_rh_15 f3_rh_15
  go_wp2_with fail
  go_ret
  exact ⟨rfl, hw16⟩

set_option maxRecDepth 100000 in
theorem FnExactTableMac_lifted (os : Os) (started : os.Started) (H : Type) (enc : TypeId × Value → H) :
    ReturnsInHanded {} Try.checked os 10 .any (Rows.fnExactTableMacSpec.pre6 enc Try.prog Try.f10 Rows.fnExactTableMacRow.domain false) (Rows.fnExactTableMacSpec.post enc Try.prog Try.f10 false true false false) := by
  refine law_lifted (C := Try.checked) own_ started (by kernel_rfl) Try.func10 laid_ rfl ?_ ?_ rfl Try.underlying4
    (ChangeSpec.witness6 (enc := enc) (C := Try.checked) false ⟨#[], #[.slice none 0 0], []⟩ 8 (by kernel_rfl) (by kernel_rfl) (by kernel_rfl) (by kernel_rfl)) ?_
  · intro ds h
    match ds, h with
    | [_], _ => rfl
  · intro t ht
    rw [Try.params10] at ht
    simp at ht
    subst ht
    exact ⟨by kernel_rfl, of_decide_eq_true (by kernel_rfl)⟩
  · intro W base args ds p hval hA hlt
    have hval : ∀ (j : Nat) t v, Try.f10.params[j]? = some t → args[j]? = some v → Value.okWide Try.prog W .any base t v := hval
    have hA : DataW.TrodAll enc Try.prog W 0 (fun _ => true) true Try.f10.params.toList args.toList ds p := hA
    rw [Try.params10] at hA hval
    obtain ⟨v0, d0, rfl, rfl, h0⟩ := trodAll_one hA
    obtain ⟨la, ra, fa, na⟩ := open_argMacRow (hval 0 42 v0 rfl rfl) h0
    exact FnExactTableMac_walk _ la W ra fa.fit na

theorem FnExactTableMac_holds : Rows.FnExactTableMacSaid :=
  OpenClaim.holds_of_wide 10 Try.f10 rfl rfl rfl rfl rfl rfl rfl ⟨rfl, rfl, rfl, rfl, rfl⟩ rfl rfl rfl rfl rfl (by kernel_rfl) Try.func10 (by kernel_rfl)
    (of_decide_eq_true (by kernel_rfl)) (by have hw := wrap_ (P := Try.prog) (fn := Try.f10) (by kernel_rfl); exact hw)
    (fun os started H enc _ => FnExactTableMac_lifted os started H enc)
end Go.Proofs.Ytondhgmlemgoaaa
