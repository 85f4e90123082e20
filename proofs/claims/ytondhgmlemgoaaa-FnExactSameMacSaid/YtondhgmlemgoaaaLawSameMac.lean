/-
  The law FnExactSameMac returns true for every input. No condition.
-/
import Derived.Test.YtondhgmlemgoaaaMcp
import Derived.Test.YtondhgmlemgoaaaOpnMacRow
namespace Go.Proofs.Ytondhgmlemgoaaa
open Go.ChangeShapes Go.WideShapes Go.ChangeAt Go.RowKit


set_option maxHeartbeats 4000000 in
theorem FnExactSameMac_walk (u1 : Bool) (k1 l1 : Int) (v1 : Value) (r1 : List RMacRow) (u2 : Bool) (k2 l2 : Int) (v2 : Value) (r2 : List RMacRow) (w : World) (h1 : RdMacRow w v1 r1) (h2 : RdMacRow w v2 r2) (f1 : FitMacRow r1) (f2 : FitMacRow r2) (n1 : r1.length ≤ maxLen) (n2 : r2.length ≤ maxLen) :
    Calls Try.prog 8 #[vM u1 k1 l1 v1, vM u2 k2 l2 v2] w fun e w' => e = .returned (.bool true) ∧ Below w.heap.size w w' := by
  obtain ⟨A1, c1, rfl, -⟩ := id h1
  obtain ⟨A2, c2, rfl, -⟩ := id h2
  have H1 := Lib.hid h1
  have H2 := Lib.hid h2
  have F1 := Lib.hid f1
  have F2 := Lib.hid f2
  have N1 := Lib.hid n1
  have N2 := Lib.hid n2
  clear h1 h2 f1 f2 n1 n2
  go_enter Try.func8, Try.ntmps8
  go_wp2_with fail
  refine (szMac_any u1 k1 l1 _ r1 F1.out N1.out 1048576 (by omega) (by omega) _ (H1.out.below (by repeat (first | with_reducible exact Below.refl _ _ | with_reducible assumption | with_reducible refine Below.drew ?_ | with_reducible refine Below.alloc ?_ (by first | exact Nat.le_refl _ | omega | (simp; done) | (simp; omega)) _ | with_reducible refine Below.setCell ?_ (by first | exact Nat.le_refl _ | omega | (simp; done) | (simp; omega)) _ | (with_reducible refine ext_trans ?_ (by with_reducible assumption)))))).mono ?_
  rintro e w1 ⟨x, rfl, ⟨hx1, hx2⟩, hx3, hb1⟩
  obtain ⟨hc1, hf1⟩ := bcell hb1
  have hz1 := hb1.size
  simp at hz1
  have hy1_0 : w.heap.size < w1.heap.size := by omega
  have hy1_1 : w.heap.size + 1 < w1.heap.size := by omega
  by_cases hx : x < 0
  · go_wp2_with fail
    go_ret
    exact ⟨rfl, (by repeat (first | with_reducible exact Below.refl _ _ | with_reducible assumption | with_reducible refine Below.drew ?_ | with_reducible refine Below.alloc ?_ (by first | exact Nat.le_refl _ | omega | (simp; done) | (simp; omega)) _ | with_reducible refine Below.setCell ?_ (by first | exact Nat.le_refl _ | omega | (simp; done) | (simp; omega)) _ | (with_reducible refine ext_trans ?_ (by with_reducible assumption))))⟩
  go_wp2_with fail
  refine (szMac_any u2 k2 l2 _ r2 F2.out N2.out x (by omega) (by omega) _ (H2.out.below (by repeat (first | with_reducible exact Below.refl _ _ | with_reducible assumption | with_reducible refine Below.drew ?_ | with_reducible refine Below.alloc ?_ (by first | exact Nat.le_refl _ | omega | (simp; done) | (simp; omega)) _ | with_reducible refine Below.setCell ?_ (by first | exact Nat.le_refl _ | omega | (simp; done) | (simp; omega)) _ | (with_reducible refine ext_trans ?_ (by with_reducible assumption)))))).mono ?_
  rintro e w2 ⟨y, rfl, ⟨hy1, hy2⟩, hy3, hb2⟩
  have hz2 := hb2.size
  have hs2 : w2.heap[w.heap.size]? = some (.cells #[.bool u1, .int .u64 k1, .int .u64 l1, .slice A1 r1.length c1] 44 (0, 0)) := (hb2.block _ (by omega)).trans ((hb1.block _ (by first | (simp; done) | (simp; omega))).trans (by repeat (first | exact heap_new _ _ _ (by first | rfl | (simp; done) | (simp; omega)) | refine (Below.heap_alloc _ _ _ (by first | omega | (simp; done) | (simp; omega))).trans ?_)))
  have ht2 : w2.heap[w.heap.size + 1]? = some (.cells #[.bool u2, .int .u64 k2, .int .u64 l2, .slice A2 r2.length c2] 44 (0, 0)) := (hb2.block _ (by omega)).trans ((hb1.block _ (by first | (simp; done) | (simp; omega))).trans (by repeat (first | exact heap_new _ _ _ (by first | rfl | (simp; done) | (simp; omega)) | refine (Below.heap_alloc _ _ _ (by first | omega | (simp; done) | (simp; omega))).trans ?_)))
  have hbw : Below w.heap.size w w2 := (by repeat (first | with_reducible exact Below.refl _ _ | with_reducible assumption | with_reducible refine Below.drew ?_ | with_reducible refine Below.alloc ?_ (by first | exact Nat.le_refl _ | omega | (simp; done) | (simp; omega)) _ | with_reducible refine Below.setCell ?_ (by first | exact Nat.le_refl _ | omega | (simp; done) | (simp; omega)) _ | (with_reducible refine ext_trans ?_ (by with_reducible assumption))))
  clear hc1 hf1
  by_cases hy : y < 0
  · go_wp2_with fail
    go_ret
    exact ⟨rfl, (by repeat (first | with_reducible exact Below.refl _ _ | with_reducible assumption | with_reducible refine Below.drew ?_ | with_reducible refine Below.alloc ?_ (by first | exact Nat.le_refl _ | omega | (simp; done) | (simp; omega)) _ | with_reducible refine Below.setCell ?_ (by first | exact Nat.le_refl _ | omega | (simp; done) | (simp; omega)) _ | (with_reducible refine ext_trans ?_ (by with_reducible assumption))))⟩
  have m1 : r1.length ≤ 1048576 := by have := hx3.out (by omega); omega
  have m2 : r2.length ≤ 1048576 := by have := hy3.out (by omega); omega
  have M1 := Lib.hid m1
  have M2 := Lib.hid m2
  clear m1 m2 hx3 hy3 hb1 hb2
  have hl2 : w.heap.size < w2.heap.size := by omega
  have hl2' : w.heap.size + 1 < w2.heap.size := by omega
  have r0_hs2 := cell_of_row _ _ 0 _ _ _ hs2
  have r1_hs2 := cell_of_row _ _ 1 _ _ _ hs2
  have r2_hs2 := cell_of_row _ _ 2 _ _ _ hs2
  have r3_hs2 := cell_of_row _ _ 3 _ _ _ hs2
  have f0_hs2 := frozen_of_row _ _ 0 _ _ hs2
  have f1_hs2 := frozen_of_row _ _ 1 _ _ hs2
  have f2_hs2 := frozen_of_row _ _ 2 _ _ hs2
  have f3_hs2 := frozen_of_row _ _ 3 _ _ hs2
  simp at r0_hs2 r1_hs2 r2_hs2 r3_hs2
  have r0_ht2 := cell_of_row _ _ 0 _ _ _ ht2
  have r1_ht2 := cell_of_row _ _ 1 _ _ _ ht2
  have r2_ht2 := cell_of_row _ _ 2 _ _ _ ht2
  have r3_ht2 := cell_of_row _ _ 3 _ _ _ ht2
  have f0_ht2 := frozen_of_row _ _ 0 _ _ ht2
  have f1_ht2 := frozen_of_row _ _ 1 _ _ ht2
  have f2_ht2 := frozen_of_row _ _ 2 _ _ ht2
  have f3_ht2 := frozen_of_row _ _ 3 _ _ ht2
  simp at r0_ht2 r1_ht2 r2_ht2 r3_ht2
  have HS2 := Lib.hid hs2
  have HT2 := Lib.hid ht2
  clear hs2 ht2
  go_wp2_with fail
  go_cut [6] (fun z wx => z = .bool (sameB u1 k1 l1 r1 u2 k2 l2 r2) ∧ Below w2.heap.size w2 wx)
  case first =>
    first | go_region_held3 (fun w' => (∀ b' o, b' < (w2).heap.size → w'.cell? ⟨b', o, none⟩ = (w2).cell? ⟨b', o, none⟩) ∧ Below (w2).heap.size (w2) w') (first | with_reducible assumption | (with_reducible apply rg_keep; rotate_left; with_reducible assumption; with_reducible assumption) | with_reducible exact rg_start _ | with_reducible exact rg_alloc (KeptS.out (by with_reducible assumption)) _ | with_reducible exact rg_alloc (by with_reducible assumption) _ | with_reducible exact rg_start_alloc _ _ | ((repeat (with_reducible refine rg_set ?_ _ (by first | exact Nat.le_refl _ | omega | (simp; done) | (simp; omega)) _)); first | with_reducible exact KeptS.out (by with_reducible assumption) | with_reducible assumption | with_reducible exact rg_alloc (KeptS.out (by with_reducible assumption)) _)) (first | (go_at_call 32; ((with_reducible refine (toMac_any u1 k1 l1 _ r1 M1.out _ (H1.out.below (ext_trans hbw (rgBMacRow (by first | with_reducible assumption | exact KeptS.out (by with_reducible assumption)))))).mono ?_); (rintro e wA ⟨vA, rfl, hOA, hbA⟩; obtain ⟨AA, cA, rfl⟩ := hOA.form; have hSA := rg_keepK (by first | with_reducible assumption | exact KeptS.out (by with_reducible assumption)) hbA; have hLA := hSA.size; have HOA := Lib.hid hOA; clear hOA))) | (go_at_call 32; ((with_reducible refine (toMac_any u2 k2 l2 _ r2 M2.out _ (H2.out.below (ext_trans hbw (rgBMacRow (by first | with_reducible assumption | exact KeptS.out (by with_reducible assumption)))))).mono ?_); (rintro e wB ⟨vB, rfl, hOB, hbB⟩; obtain ⟨AB, cB, rfl⟩ := hOB.form; have hSB := rg_keepK (by first | with_reducible assumption | exact KeptS.out (by with_reducible assumption)) hbB; have hLB := hSB.size; have HOB := Lib.hid hOB; have HOA2 := Lib.hid (HOA.out.below hbB); clear hOB))) | (go_at_call 31; ((with_reducible refine (sSameMac_any u1 k1 l1 _ r1 u2 k2 l2 _ r2 N1.out N2.out _ HOA2.out.rd HOB.out.rd).mono ?_); (rintro e wC ⟨rfl, hbC⟩; have hSC := rg_keepK (by first | with_reducible assumption | exact KeptS.out (by with_reducible assumption)) hbC)))) | fail
    all_goals (go_wp2_with fail; go_meet; exact ⟨rfl, (by assumption : _ ∧ Below w2.heap.size w2 wC).2⟩)
  case rest =>
  obtain ⟨rfl, hb3⟩ := hcut
  rename World => w3
  have hw3 : Below w.heap.size w w3 := ext_trans hbw hb3
  have hz3 := hb3.size
  have hs3 := (hb3.block _ hl2).trans HS2.out
  have ht3 := (hb3.block _ hl2').trans HT2.out
  have hl3 : w.heap.size < w3.heap.size := by omega
  have hl3' : w.heap.size + 1 < w3.heap.size := by omega
  have r0_hs3 := cell_of_row _ _ 0 _ _ _ hs3
  have r1_hs3 := cell_of_row _ _ 1 _ _ _ hs3
  have r2_hs3 := cell_of_row _ _ 2 _ _ _ hs3
  have r3_hs3 := cell_of_row _ _ 3 _ _ _ hs3
  have f0_hs3 := frozen_of_row _ _ 0 _ _ hs3
  have f1_hs3 := frozen_of_row _ _ 1 _ _ hs3
  have f2_hs3 := frozen_of_row _ _ 2 _ _ hs3
  have f3_hs3 := frozen_of_row _ _ 3 _ _ hs3
  simp at r0_hs3 r1_hs3 r2_hs3 r3_hs3
  have r0_ht3 := cell_of_row _ _ 0 _ _ _ ht3
  have r1_ht3 := cell_of_row _ _ 1 _ _ _ ht3
  have r2_ht3 := cell_of_row _ _ 2 _ _ _ ht3
  have r3_ht3 := cell_of_row _ _ 3 _ _ _ ht3
  have f0_ht3 := frozen_of_row _ _ 0 _ _ ht3
  have f1_ht3 := frozen_of_row _ _ 1 _ _ ht3
  have f2_ht3 := frozen_of_row _ _ 2 _ _ ht3
  have f3_ht3 := frozen_of_row _ _ 3 _ _ ht3
  simp at r0_ht3 r1_ht3 r2_ht3 r3_ht3
  have HS3 := Lib.hid hs3
  have HT3 := Lib.hid ht3
  clear hs3 ht3 HS2 HT2
  go_wp2_with fail
  refine (toMac_any u1 k1 l1 _ r1 M1.out _ (H1.out.below hw3)).mono ?_
  rintro e w4 ⟨v4, rfl, hO4, hb4⟩
  obtain ⟨A4, c4, rfl⟩ := hO4.form
  have HO4 := Lib.hid hO4
  have hz4 := hb4.size
  have hl4 : w.heap.size < w4.heap.size := by omega
  have hl4' : w.heap.size + 1 < w4.heap.size := by omega
  have hs4 := (hb4.block _ hl3).trans HS3.out
  have ht4 := (hb4.block _ hl3').trans HT3.out
  have r0_hs4 := cell_of_row _ _ 0 _ _ _ hs4
  have r1_hs4 := cell_of_row _ _ 1 _ _ _ hs4
  have r2_hs4 := cell_of_row _ _ 2 _ _ _ hs4
  have r3_hs4 := cell_of_row _ _ 3 _ _ _ hs4
  have f0_hs4 := frozen_of_row _ _ 0 _ _ hs4
  have f1_hs4 := frozen_of_row _ _ 1 _ _ hs4
  have f2_hs4 := frozen_of_row _ _ 2 _ _ hs4
  have f3_hs4 := frozen_of_row _ _ 3 _ _ hs4
  simp at r0_hs4 r1_hs4 r2_hs4 r3_hs4
  have r0_ht4 := cell_of_row _ _ 0 _ _ _ ht4
  have r1_ht4 := cell_of_row _ _ 1 _ _ _ ht4
  have r2_ht4 := cell_of_row _ _ 2 _ _ _ ht4
  have r3_ht4 := cell_of_row _ _ 3 _ _ _ ht4
  have f0_ht4 := frozen_of_row _ _ 0 _ _ ht4
  have f1_ht4 := frozen_of_row _ _ 1 _ _ ht4
  have f2_ht4 := frozen_of_row _ _ 2 _ _ ht4
  have f3_ht4 := frozen_of_row _ _ 3 _ _ ht4
  simp at r0_ht4 r1_ht4 r2_ht4 r3_ht4
  have HS4 := Lib.hid hs4
  have HT4 := Lib.hid ht4
  clear hs4 ht4 HS3 HT3 hO4
  go_wp2_with fail
  refine (toMac_any u2 k2 l2 _ r2 M2.out _ (H2.out.below (by repeat (first | with_reducible exact Below.refl _ _ | with_reducible assumption | with_reducible refine Below.drew ?_ | with_reducible refine Below.alloc ?_ (by first | exact Nat.le_refl _ | omega | (simp; done) | (simp; omega)) _ | with_reducible refine Below.setCell ?_ (by first | exact Nat.le_refl _ | omega | (simp; done) | (simp; omega)) _ | (with_reducible refine ext_trans ?_ (by with_reducible assumption)))))).mono ?_
  rintro e w5 ⟨v5, rfl, hO5, hb5⟩
  obtain ⟨A5, c5, rfl⟩ := hO5.form
  have HO5 := Lib.hid hO5
  have hz5 := hb5.size
  simp at hz5
  have hx5 : w5.heap[w4.heap.size]? = some (.cells #[.bool u1, .int .u64 k1, .int .u64 l1, .slice A4 r1.length c4] 35 (0, 0)) := (hb5.block _ (by simp)).trans (by repeat (first | exact heap_new _ _ _ (by first | rfl | (simp; done) | (simp; omega)) | refine (Below.heap_alloc _ _ _ (by first | omega | (simp; done) | (simp; omega))).trans ?_))
  have HX5 := Lib.hid hx5
  have hs5 := (hb5.block _ (by simp; omega)).trans ((Below.heap_alloc _ _ _ hl4).trans HS4.out)
  have ht5 := (hb5.block _ (by simp; omega)).trans ((Below.heap_alloc _ _ _ hl4').trans HT4.out)
  have HO4' := Lib.hid (HO4.out.below (w' := w5) (by repeat (first | with_reducible exact Below.refl _ _ | with_reducible assumption | with_reducible refine Below.drew ?_ | with_reducible refine Below.alloc ?_ (by first | exact Nat.le_refl _ | omega | (simp; done) | (simp; omega)) _ | with_reducible refine Below.setCell ?_ (by first | exact Nat.le_refl _ | omega | (simp; done) | (simp; omega)) _ | (with_reducible refine ext_trans ?_ (by with_reducible assumption)))))
  have hw5 : Below w.heap.size w w5 := (by repeat (first | with_reducible exact Below.refl _ _ | with_reducible assumption | with_reducible refine Below.drew ?_ | with_reducible refine Below.alloc ?_ (by first | exact Nat.le_refl _ | omega | (simp; done) | (simp; omega)) _ | with_reducible refine Below.setCell ?_ (by first | exact Nat.le_refl _ | omega | (simp; done) | (simp; omega)) _ | (with_reducible refine ext_trans ?_ (by with_reducible assumption))))
  have hl5 : w.heap.size < w5.heap.size := by omega
  have hl5' : w.heap.size + 1 < w5.heap.size := by omega
  have hl5x : w4.heap.size < w5.heap.size := by omega
  have HS5 := Lib.hid hs5
  have HT5 := Lib.hid ht5
  have r0_hx5 := cell_of_row _ _ 0 _ _ _ hx5
  have r1_hx5 := cell_of_row _ _ 1 _ _ _ hx5
  have r2_hx5 := cell_of_row _ _ 2 _ _ _ hx5
  have r3_hx5 := cell_of_row _ _ 3 _ _ _ hx5
  have f0_hx5 := frozen_of_row _ _ 0 _ _ hx5
  have f1_hx5 := frozen_of_row _ _ 1 _ _ hx5
  have f2_hx5 := frozen_of_row _ _ 2 _ _ hx5
  have f3_hx5 := frozen_of_row _ _ 3 _ _ hx5
  simp at r0_hx5 r1_hx5 r2_hx5 r3_hx5
  clear hs5 ht5 HS4 HT4 hO5 hx5 HO4
  go_wp2_with fail
  refine (SameMac_any u1 k1 l1 _ r1 u2 k2 l2 _ r2 N1.out N2.out _ (HO4'.out.below (by repeat (first | with_reducible exact Below.refl _ _ | with_reducible assumption | with_reducible refine Below.drew ?_ | with_reducible refine Below.alloc ?_ (by first | exact Nat.le_refl _ | omega | (simp; done) | (simp; omega)) _ | with_reducible refine Below.setCell ?_ (by first | exact Nat.le_refl _ | omega | (simp; done) | (simp; omega)) _ | (with_reducible refine ext_trans ?_ (by with_reducible assumption))))).rd (HO5.out.below (by repeat (first | with_reducible exact Below.refl _ _ | with_reducible assumption | with_reducible refine Below.drew ?_ | with_reducible refine Below.alloc ?_ (by first | exact Nat.le_refl _ | omega | (simp; done) | (simp; omega)) _ | with_reducible refine Below.setCell ?_ (by first | exact Nat.le_refl _ | omega | (simp; done) | (simp; omega)) _ | (with_reducible refine ext_trans ?_ (by with_reducible assumption))))).rd).mono ?_
  rintro e w6 ⟨rfl, hb6⟩
  have hz6 := hb6.size
  simp at hz6
  have hs6 := (hb6.block _ (by simp; omega)).trans ((Below.heap_alloc _ _ _ hl5).trans HS5.out)
  have ht6 := (hb6.block _ (by simp; omega)).trans ((Below.heap_alloc _ _ _ hl5').trans HT5.out)
  have hx6 := (hb6.block _ (by simp; omega)).trans ((Below.heap_alloc _ _ _ hl5x).trans HX5.out)
  have hy6 : w6.heap[w5.heap.size]? = some (.cells #[.bool u2, .int .u64 k2, .int .u64 l2, .slice A5 r2.length c5] 35 (0, 0)) := (hb6.block _ (by simp)).trans (by repeat (first | exact heap_new _ _ _ (by first | rfl | (simp; done) | (simp; omega)) | refine (Below.heap_alloc _ _ _ (by first | omega | (simp; done) | (simp; omega))).trans ?_))
  have HO4b := Lib.hid (HO4'.out.below (w' := w6) (by repeat (first | with_reducible exact Below.refl _ _ | with_reducible assumption | with_reducible refine Below.drew ?_ | with_reducible refine Below.alloc ?_ (by first | exact Nat.le_refl _ | omega | (simp; done) | (simp; omega)) _ | with_reducible refine Below.setCell ?_ (by first | exact Nat.le_refl _ | omega | (simp; done) | (simp; omega)) _ | (with_reducible refine ext_trans ?_ (by with_reducible assumption)))))
  have HO5b := Lib.hid (HO5.out.below (w' := w6) (by repeat (first | with_reducible exact Below.refl _ _ | with_reducible assumption | with_reducible refine Below.drew ?_ | with_reducible refine Below.alloc ?_ (by first | exact Nat.le_refl _ | omega | (simp; done) | (simp; omega)) _ | with_reducible refine Below.setCell ?_ (by first | exact Nat.le_refl _ | omega | (simp; done) | (simp; omega)) _ | (with_reducible refine ext_trans ?_ (by with_reducible assumption)))))
  have hw6 : Below w.heap.size w w6 := (by repeat (first | with_reducible exact Below.refl _ _ | with_reducible assumption | with_reducible refine Below.drew ?_ | with_reducible refine Below.alloc ?_ (by first | exact Nat.le_refl _ | omega | (simp; done) | (simp; omega)) _ | with_reducible refine Below.setCell ?_ (by first | exact Nat.le_refl _ | omega | (simp; done) | (simp; omega)) _ | (with_reducible refine ext_trans ?_ (by with_reducible assumption))))
  have hl6 : w.heap.size < w6.heap.size := by omega
  have hl6' : w.heap.size + 1 < w6.heap.size := by omega
  have hl6x : w4.heap.size < w6.heap.size := by omega
  have hl6y : w5.heap.size < w6.heap.size := by omega
  have r0_hs6 := cell_of_row _ _ 0 _ _ _ hs6
  have r1_hs6 := cell_of_row _ _ 1 _ _ _ hs6
  have r2_hs6 := cell_of_row _ _ 2 _ _ _ hs6
  have r3_hs6 := cell_of_row _ _ 3 _ _ _ hs6
  have f0_hs6 := frozen_of_row _ _ 0 _ _ hs6
  have f1_hs6 := frozen_of_row _ _ 1 _ _ hs6
  have f2_hs6 := frozen_of_row _ _ 2 _ _ hs6
  have f3_hs6 := frozen_of_row _ _ 3 _ _ hs6
  simp at r0_hs6 r1_hs6 r2_hs6 r3_hs6
  have r0_hx6 := cell_of_row _ _ 0 _ _ _ hx6
  have r1_hx6 := cell_of_row _ _ 1 _ _ _ hx6
  have r2_hx6 := cell_of_row _ _ 2 _ _ _ hx6
  have r3_hx6 := cell_of_row _ _ 3 _ _ _ hx6
  have f0_hx6 := frozen_of_row _ _ 0 _ _ hx6
  have f1_hx6 := frozen_of_row _ _ 1 _ _ hx6
  have f2_hx6 := frozen_of_row _ _ 2 _ _ hx6
  have f3_hx6 := frozen_of_row _ _ 3 _ _ hx6
  simp at r0_hx6 r1_hx6 r2_hx6 r3_hx6
  have HT6 := Lib.hid ht6
  have HY6 := Lib.hid hy6
  clear hs6 ht6 hx6 hy6 HS5 HT5 HX5
  go_wp2_with fail
  go_cut [39] (fun z wx => z = .bool false ∧ Below w6.heap.size w6 wx)
  case first =>
    first | go_region_held3 (fun w' => (∀ b' o, b' < (w6).heap.size → w'.cell? ⟨b', o, none⟩ = (w6).cell? ⟨b', o, none⟩) ∧ Below (w6).heap.size (w6) w') (first | with_reducible assumption | (with_reducible apply rg_keep; rotate_left; with_reducible assumption; with_reducible assumption) | with_reducible exact rg_start _ | with_reducible exact rg_alloc (KeptS.out (by with_reducible assumption)) _ | with_reducible exact rg_alloc (by with_reducible assumption) _ | with_reducible exact rg_start_alloc _ _ | ((repeat (with_reducible refine rg_set ?_ _ (by first | exact Nat.le_refl _ | omega | (simp; done) | (simp; omega)) _)); first | with_reducible exact KeptS.out (by with_reducible assumption) | with_reducible assumption | with_reducible exact rg_alloc (KeptS.out (by with_reducible assumption)) _)) (first | (go_at_call 32; ((with_reducible refine (toMac_any u1 k1 l1 _ r1 M1.out _ (H1.out.below (ext_trans hw6 (rgBMacRow (by first | with_reducible assumption | exact KeptS.out (by with_reducible assumption)))))).mono ?_); (rintro e wA ⟨vA, rfl, hOA, hbA⟩; obtain ⟨AA, cA, rfl⟩ := hOA.form; have hSA := rg_keepK (by first | with_reducible assumption | exact KeptS.out (by with_reducible assumption)) hbA; have hLA := hSA.size; have HOA := Lib.hid hOA; clear hOA))) | (go_at_call 25; ((with_reducible refine (eqMac_same u1 k1 l1 _ _ r1 N1.out _ (HO4b.out.below (rgBMacRow (by first | with_reducible assumption | exact KeptS.out (by with_reducible assumption)))).rd HOA.out.rd).mono ?_); (rintro e wC ⟨rfl, hbC⟩; have hSC := rg_keepK (by first | with_reducible assumption | exact KeptS.out (by with_reducible assumption)) hbC)))) | fail
    all_goals (go_wp2_with fail; go_meet; exact ⟨rfl, (by assumption : _ ∧ Below w6.heap.size w6 wC).2⟩)
  case rest =>
  obtain ⟨rfl, hb7⟩ := hcut
  rename World => w7
  have hz7 := hb7.size
  have hw7 : Below w.heap.size w w7 := ext_trans hw6 hb7
  have ht7 := (hb7.block _ hl6').trans HT6.out
  have hy7 := (hb7.block _ hl6y).trans HY6.out
  have HO5c := Lib.hid (HO5b.out.below hb7)
  have hl7' : w.heap.size + 1 < w7.heap.size := by omega
  have hl7y : w5.heap.size < w7.heap.size := by omega
  have r0_ht7 := cell_of_row _ _ 0 _ _ _ ht7
  have r1_ht7 := cell_of_row _ _ 1 _ _ _ ht7
  have r2_ht7 := cell_of_row _ _ 2 _ _ _ ht7
  have r3_ht7 := cell_of_row _ _ 3 _ _ _ ht7
  have f0_ht7 := frozen_of_row _ _ 0 _ _ ht7
  have f1_ht7 := frozen_of_row _ _ 1 _ _ ht7
  have f2_ht7 := frozen_of_row _ _ 2 _ _ ht7
  have f3_ht7 := frozen_of_row _ _ 3 _ _ ht7
  simp at r0_ht7 r1_ht7 r2_ht7 r3_ht7
  have r0_hy7 := cell_of_row _ _ 0 _ _ _ hy7
  have r1_hy7 := cell_of_row _ _ 1 _ _ _ hy7
  have r2_hy7 := cell_of_row _ _ 2 _ _ _ hy7
  have r3_hy7 := cell_of_row _ _ 3 _ _ _ hy7
  have f0_hy7 := frozen_of_row _ _ 0 _ _ hy7
  have f1_hy7 := frozen_of_row _ _ 1 _ _ hy7
  have f2_hy7 := frozen_of_row _ _ 2 _ _ hy7
  have f3_hy7 := frozen_of_row _ _ 3 _ _ hy7
  simp at r0_hy7 r1_hy7 r2_hy7 r3_hy7
  clear ht7 hy7 HT6 HY6
  go_wp2_with fail
  go_cut [44] (fun z wx => z = .bool false ∧ Below w7.heap.size w7 wx)
  case first =>
    first | go_region_held3 (fun w' => (∀ b' o, b' < (w7).heap.size → w'.cell? ⟨b', o, none⟩ = (w7).cell? ⟨b', o, none⟩) ∧ Below (w7).heap.size (w7) w') (first | with_reducible assumption | (with_reducible apply rg_keep; rotate_left; with_reducible assumption; with_reducible assumption) | with_reducible exact rg_start _ | with_reducible exact rg_alloc (KeptS.out (by with_reducible assumption)) _ | with_reducible exact rg_alloc (by with_reducible assumption) _ | with_reducible exact rg_start_alloc _ _ | ((repeat (with_reducible refine rg_set ?_ _ (by first | exact Nat.le_refl _ | omega | (simp; done) | (simp; omega)) _)); first | with_reducible exact KeptS.out (by with_reducible assumption) | with_reducible assumption | with_reducible exact rg_alloc (KeptS.out (by with_reducible assumption)) _)) (first | (go_at_call 32; ((with_reducible refine (toMac_any u2 k2 l2 _ r2 M2.out _ (H2.out.below (ext_trans hw7 (rgBMacRow (by first | with_reducible assumption | exact KeptS.out (by with_reducible assumption)))))).mono ?_); (rintro e wA ⟨vA, rfl, hOA, hbA⟩; obtain ⟨AA, cA, rfl⟩ := hOA.form; have hSA := rg_keepK (by first | with_reducible assumption | exact KeptS.out (by with_reducible assumption)) hbA; have hLA := hSA.size; have HOA := Lib.hid hOA; clear hOA))) | (go_at_call 25; ((with_reducible refine (eqMac_same u2 k2 l2 _ _ r2 N2.out _ (HO5c.out.below (rgBMacRow (by first | with_reducible assumption | exact KeptS.out (by with_reducible assumption)))).rd HOA.out.rd).mono ?_); (rintro e wC ⟨rfl, hbC⟩; have hSC := rg_keepK (by first | with_reducible assumption | exact KeptS.out (by with_reducible assumption)) hbC)))) | fail
    all_goals (go_wp2_with fail; go_meet; exact ⟨rfl, (by assumption : _ ∧ Below w7.heap.size w7 wC).2⟩)
  case rest =>
  obtain ⟨rfl, hb8⟩ := hcut
  rename World => w8
  go_wp2_with fail
  go_ret
  exact ⟨rfl, ext_trans hw7 hb8⟩

set_option maxRecDepth 100000 in
theorem FnExactSameMac_lifted (os : Os) (started : os.Started) (H : Type) (enc : TypeId × Value → H) :
    ReturnsInHanded {} Try.checked os 8 .any (Rows.fnExactSameMacSpec.pre6 enc Try.prog Try.f8 Rows.fnExactSameMacRow.domain false) (Rows.fnExactSameMacSpec.post enc Try.prog Try.f8 false true false false) := by
  refine law_lifted (C := Try.checked) own_ started (by kernel_rfl) Try.func8 laid_ rfl ?_ ?_ rfl Try.underlying4
    (ChangeSpec.witness6 (enc := enc) (C := Try.checked) false ⟨#[], #[.agg #[.bool false, .int .u64 0, .int .u64 0, .slice none 0 0], .agg #[.bool false, .int .u64 0, .int .u64 0, .slice none 0 0]], []⟩ 8 (by kernel_rfl) (by kernel_rfl) (by kernel_rfl) (by kernel_rfl)) ?_
  · intro ds h
    match ds, h with
    | [_, _], _ => rfl
  · intro t ht
    rw [Try.params8] at ht
    simp at ht
    subst ht
    exact ⟨by kernel_rfl, of_decide_eq_true (by kernel_rfl)⟩
  · intro W base args ds p hval hA hlt
    have hval : ∀ (j : Nat) t v, Try.f8.params[j]? = some t → args[j]? = some v → Value.okWide Try.prog W .any base t v := hval
    have hA : DataW.TrodAll enc Try.prog W 0 (fun _ => true) true Try.f8.params.toList args.toList ds p := hA
    rw [Try.params8] at hA hval
    obtain ⟨v0, v1, d0, d1, p0, p1, rfl, rfl, rfl, h0, h1⟩ := trodAll_two hA
    obtain ⟨a0, a1, a2, a3, rfl, wa0, wa1, ⟨ka, ya, ta⟩⟩ := open_Mac (hval 0 44 v0 rfl rfl) h0
    obtain ⟨la, ra, fa, na⟩ := open_rowsMacRow ta
    obtain ⟨b0, b1, b2, b3, rfl, wb0, wb1, ⟨kb, yb, tb⟩⟩ := open_Mac (hval 1 44 v1 rfl rfl) h1
    obtain ⟨lb, rb, fb, nb⟩ := open_rowsMacRow tb
    exact FnExactSameMac_walk a0 a1 a2 a3 la b0 b1 b2 b3 lb W ra rb fa.fit fb.fit na nb

theorem FnExactSameMac_holds : Rows.FnExactSameMacSaid :=
  OpenClaim.holds_of_wide 8 Try.f8 rfl rfl rfl rfl rfl rfl rfl ⟨rfl, rfl, rfl, rfl, rfl⟩ rfl rfl rfl rfl rfl (by kernel_rfl) Try.func8 (by kernel_rfl)
    (of_decide_eq_true (by kernel_rfl)) (by have hw := wrap_ (P := Try.prog) (fn := Try.f8) (by kernel_rfl); exact hw)
    (fun os started H enc _ => FnExactSameMac_lifted os started H enc)
end Go.Proofs.Ytondhgmlemgoaaa
