/-
  Contracts of Rotated, the program's and the reference's.
-/
import Derived.Test.YtjlnbjabehpncaaCok
import Derived.Test.YtjlnbjabehpncaaOpnMacRow
import Derived.Test.YtjlnbjabehpncaaStd
namespace Go.Proofs.Ytjlnbjabehpncaa
set_option maxRecDepth 100000
open Go.RowKit
def RKeys.rot (x : RKeys) (m : RMac) : RKeys := if x.ok && (m.ok && !decide (x.ep = 4294967295)) then ⟨x.ep + 1, m, x.now, true⟩ else x

set_option maxHeartbeats 4000000 in
theorem Rotated_any (x1 : RKeys) (x2 : RMac) (v11 v12 v21 : Value) (g11 : x1.now.fits) (g12 : x1.bef.fits) (g21 : x2.fits) (p11 : x1.now.rs.length ≤ 1048600) (p12 : x1.bef.rs.length ≤ 1048600) (p21 : x2.rs.length ≤ 1048600) (w : World) (h11 : RdMacRow w v11 x1.now.rs) (h12 : RdMacRow w v12 x1.bef.rs) (h21 : RdMacRow w v21 x2.rs) :
    Calls Try.prog 21 #[vK x1 v11 v12, vMc x2 v21] w (NewKeys (x1.rot x2) w) := by
  obtain ⟨A11, c11, rfl, -⟩ := id h11
  have H11 := Lib.hid h11
  have P11 := Lib.hid p11
  clear h11 p11
  obtain ⟨A12, c12, rfl, -⟩ := id h12
  have H12 := Lib.hid h12
  have P12 := Lib.hid p12
  clear h12 p12
  obtain ⟨A21, c21, rfl, -⟩ := id h21
  have H21 := Lib.hid h21
  have P21 := Lib.hid p21
  clear h21 p21
  have G11 := Lib.hid g11
  have G12 := Lib.hid g12
  have G21 := Lib.hid g21
  clear g11 g12 g21
  obtain ⟨B1, hB1⟩ : ∃ B, x1.ok = B := ⟨_, rfl⟩
  obtain ⟨B2, hB2⟩ : ∃ B, x2.ok = B := ⟨_, rfl⟩
  obtain ⟨R, hR⟩ : ∃ R, x1.rot x2 = R := ⟨_, rfl⟩
  rw [hR]
  have hr : R = if B1 && (B2 && !decide (x1.ep = 4294967295)) then ⟨x1.ep + 1, x2, x1.now, true⟩ else x1 := by rw [← hR, ← hB1, ← hB2]; rfl
  have HRR := Lib.hid hr
  have hok := fun W v1 v2 h1 h2 => KeysOk_any x1 v1 v2 G11.out G12.out W h1 h2
  rw [hB1] at hok
  have HOK := Lib.hid hok
  have HB2 := Lib.hid hB2
  clear hok hr hB2 hR
  have hep : B1 = true → 0 ≤ x1.ep ∧ x1.ep ≤ 4294967295 := fun h => by
    have h2 := hB1.trans h
    unfold RKeys.ok at h2
    rw [Bool.and_eq_true] at h2
    have h3 := inB_iff.1 h2.1
    split at h3 <;> omega
  have HEP := Lib.hid hep
  clear hep hB1
  go_enter Try.func21, Try.ntmps21
  go_wp2_with fail
  refine (cloneKeys_any x1 _ _ P11.out P12.out _ (H11.out.below (by repeat (first | with_reducible exact Below.refl _ _ | with_reducible assumption | with_reducible refine Below.drew ?_ | with_reducible refine Below.alloc ?_ (by first | exact Nat.le_refl _ | omega | (simp; done) | (simp; omega)) _ | with_reducible refine Below.setCell ?_ (by first | exact Nat.le_refl _ | omega | (simp; done) | (simp; omega)) _ | (with_reducible refine ext_trans ?_ (by with_reducible assumption))))) (H12.out.below (by repeat (first | with_reducible exact Below.refl _ _ | with_reducible assumption | with_reducible refine Below.drew ?_ | with_reducible refine Below.alloc ?_ (by first | exact Nat.le_refl _ | omega | (simp; done) | (simp; omega)) _ | with_reducible refine Below.setCell ?_ (by first | exact Nat.le_refl _ | omega | (simp; done) | (simp; omega)) _ | (with_reducible refine ext_trans ?_ (by with_reducible assumption)))))).mono ?_
  rintro e w1 ⟨u1, u2, rfl, hO11, hO12, hap1, hb1⟩
  obtain ⟨D1, d1, rfl⟩ := hO11.form
  obtain ⟨D2, d2, rfl⟩ := hO12.form
  have Oo1_1 := Lib.hid (OwnE.mono (base' := w.heap.size + 3) hO11 (by first | exact Nat.le_refl _ | (simp; done)))
  have Bo1 := Oo1_1
  have Oo2_1 := Lib.hid (OwnE.mono (base' := w.heap.size + 3) hO12 (by first | exact Nat.le_refl _ | (simp; done)))
  have Bo2 := Oo2_1
  have hz1 := hb1.size
  (try simp at hz1)
  have rk_1 : w1.heap[w.heap.size]? = some (.cells #[.int .i64 x1.ep, .bool x1.now.u, .int .u64 (uI x1.now.k), .int .u64 (uI x1.now.l), .slice A11 x1.now.rs.length c11, .bool x1.bef.u, .int .u64 (uI x1.bef.k), .int .u64 (uI x1.bef.l), .slice A12 x1.bef.rs.length c12, .bool x1.two] 29 (0, 0)) := (hb1.block _ (by first | (simp; done) | (simp; omega))).trans (by repeat (first | exact heap_new _ _ _ (by first | rfl | (simp; done) | (simp; omega)) | refine (Below.heap_alloc _ _ _ (by first | omega | (simp; done) | (simp; omega))).trans ?_))
  have rm_1 : w1.heap[w.heap.size + 1]? = some (.cells #[.bool x2.u, .int .u64 (uI x2.k), .int .u64 (uI x2.l), .slice A21 x2.rs.length c21] 27 (0, 0)) := (hb1.block _ (by first | (simp; done) | (simp; omega))).trans (by repeat (first | exact heap_new _ _ _ (by first | rfl | (simp; done) | (simp; omega)) | refine (Below.heap_alloc _ _ _ (by first | omega | (simp; done) | (simp; omega))).trans ?_))
  have rr_1 : w1.heap[w.heap.size + 1 + 1]? = some (.cells #[.int .i64 0, .bool false, .int .u64 0, .int .u64 0, .slice none 0 0, .bool false, .int .u64 0, .int .u64 0, .slice none 0 0, .bool false] 29 (0, 0)) := (hb1.block _ (by first | (simp; done) | (simp; omega))).trans (by repeat (first | exact heap_new _ _ _ (by first | rfl | (simp; done) | (simp; omega)) | refine (Below.heap_alloc _ _ _ (by first | omega | (simp; done) | (simp; omega))).trans ?_))
  have hw1 : Below w.heap.size w w1 := (by repeat (first | with_reducible exact Below.refl _ _ | with_reducible assumption | with_reducible refine Below.drew ?_ | with_reducible refine Below.alloc ?_ (by first | exact Nat.le_refl _ | omega | (simp; done) | (simp; omega)) _ | with_reducible refine Below.setCell ?_ (by first | exact Nat.le_refl _ | omega | (simp; done) | (simp; omega)) _ | (with_reducible refine ext_trans ?_ (by with_reducible assumption))))
  have lRk_1 : w.heap.size < w1.heap.size := by omega
  have lRm_1 : w.heap.size + 1 < w1.heap.size := by omega
  have lRr_1 : w.heap.size + 1 + 1 < w1.heap.size := by omega
  have Rk_1 := Lib.hid rk_1
  have r0_rk_1 := cell_of_row _ _ 0 _ _ _ rk_1
  have r1_rk_1 := cell_of_row _ _ 1 _ _ _ rk_1
  have r2_rk_1 := cell_of_row _ _ 2 _ _ _ rk_1
  have r3_rk_1 := cell_of_row _ _ 3 _ _ _ rk_1
  have r4_rk_1 := cell_of_row _ _ 4 _ _ _ rk_1
  have r5_rk_1 := cell_of_row _ _ 5 _ _ _ rk_1
  have r6_rk_1 := cell_of_row _ _ 6 _ _ _ rk_1
  have r7_rk_1 := cell_of_row _ _ 7 _ _ _ rk_1
  have r8_rk_1 := cell_of_row _ _ 8 _ _ _ rk_1
  have r9_rk_1 := cell_of_row _ _ 9 _ _ _ rk_1
  have f0_rk_1 := frozen_of_row _ _ 0 _ _ rk_1
  have f1_rk_1 := frozen_of_row _ _ 1 _ _ rk_1
  have f2_rk_1 := frozen_of_row _ _ 2 _ _ rk_1
  have f3_rk_1 := frozen_of_row _ _ 3 _ _ rk_1
  have f4_rk_1 := frozen_of_row _ _ 4 _ _ rk_1
  have f5_rk_1 := frozen_of_row _ _ 5 _ _ rk_1
  have f6_rk_1 := frozen_of_row _ _ 6 _ _ rk_1
  have f7_rk_1 := frozen_of_row _ _ 7 _ _ rk_1
  have f8_rk_1 := frozen_of_row _ _ 8 _ _ rk_1
  have f9_rk_1 := frozen_of_row _ _ 9 _ _ rk_1
  simp at r0_rk_1 r1_rk_1 r2_rk_1 r3_rk_1 r4_rk_1 r5_rk_1 r6_rk_1 r7_rk_1 r8_rk_1 r9_rk_1
  clear rk_1
  have Rm_1 := Lib.hid rm_1
  have r0_rm_1 := cell_of_row _ _ 0 _ _ _ rm_1
  have r1_rm_1 := cell_of_row _ _ 1 _ _ _ rm_1
  have r2_rm_1 := cell_of_row _ _ 2 _ _ _ rm_1
  have r3_rm_1 := cell_of_row _ _ 3 _ _ _ rm_1
  have f0_rm_1 := frozen_of_row _ _ 0 _ _ rm_1
  have f1_rm_1 := frozen_of_row _ _ 1 _ _ rm_1
  have f2_rm_1 := frozen_of_row _ _ 2 _ _ rm_1
  have f3_rm_1 := frozen_of_row _ _ 3 _ _ rm_1
  simp at r0_rm_1 r1_rm_1 r2_rm_1 r3_rm_1
  clear rm_1
  have Rr_1 := Lib.hid rr_1
  have r0_rr_1 := cell_of_row _ _ 0 _ _ _ rr_1
  have r1_rr_1 := cell_of_row _ _ 1 _ _ _ rr_1
  have r2_rr_1 := cell_of_row _ _ 2 _ _ _ rr_1
  have r3_rr_1 := cell_of_row _ _ 3 _ _ _ rr_1
  have r4_rr_1 := cell_of_row _ _ 4 _ _ _ rr_1
  have r5_rr_1 := cell_of_row _ _ 5 _ _ _ rr_1
  have r6_rr_1 := cell_of_row _ _ 6 _ _ _ rr_1
  have r7_rr_1 := cell_of_row _ _ 7 _ _ _ rr_1
  have r8_rr_1 := cell_of_row _ _ 8 _ _ _ rr_1
  have r9_rr_1 := cell_of_row _ _ 9 _ _ _ rr_1
  have f0_rr_1 := frozen_of_row _ _ 0 _ _ rr_1
  have f1_rr_1 := frozen_of_row _ _ 1 _ _ rr_1
  have f2_rr_1 := frozen_of_row _ _ 2 _ _ rr_1
  have f3_rr_1 := frozen_of_row _ _ 3 _ _ rr_1
  have f4_rr_1 := frozen_of_row _ _ 4 _ _ rr_1
  have f5_rr_1 := frozen_of_row _ _ 5 _ _ rr_1
  have f6_rr_1 := frozen_of_row _ _ 6 _ _ rr_1
  have f7_rr_1 := frozen_of_row _ _ 7 _ _ rr_1
  have f8_rr_1 := frozen_of_row _ _ 8 _ _ rr_1
  have f9_rr_1 := frozen_of_row _ _ 9 _ _ rr_1
  simp at r0_rr_1 r1_rr_1 r2_rr_1 r3_rr_1 r4_rr_1 r5_rr_1 r6_rr_1 r7_rr_1 r8_rr_1 r9_rr_1
  clear rr_1
  go_wp2_with fail
  refine (HOK.out _ _ _ (H11.out.below (by repeat (first | with_reducible exact Below.refl _ _ | with_reducible assumption | with_reducible refine Below.drew ?_ | with_reducible refine Below.alloc ?_ (by first | exact Nat.le_refl _ | omega | (simp; done) | (simp; omega)) _ | with_reducible refine Below.setCell ?_ (by first | exact Nat.le_refl _ | omega | (simp; done) | (simp; omega)) _ | (with_reducible refine ext_trans ?_ (by with_reducible assumption))))) (H12.out.below (by repeat (first | with_reducible exact Below.refl _ _ | with_reducible assumption | with_reducible refine Below.drew ?_ | with_reducible refine Below.alloc ?_ (by first | exact Nat.le_refl _ | omega | (simp; done) | (simp; omega)) _ | with_reducible refine Below.setCell ?_ (by first | exact Nat.le_refl _ | omega | (simp; done) | (simp; omega)) _ | (with_reducible refine ext_trans ?_ (by with_reducible assumption)))))).mono ?_
  rintro e w2 ⟨rfl, hb2⟩
  have hz2 := hb2.size
  (try simp at hz2)
  have rk_2 := (hb2.block _ (by first | omega | (simp; done) | (simp; omega))).trans ((Below.heap_alloc _ _ _ (by first | exact lRk_1 | (simp; omega))).trans Rk_1.out)
  have rm_2 := (hb2.block _ (by first | omega | (simp; done) | (simp; omega))).trans ((Below.heap_alloc _ _ _ (by first | exact lRm_1 | (simp; omega))).trans Rm_1.out)
  have rr_2 := (hb2.block _ (by first | omega | (simp; done) | (simp; omega))).trans ((Below.heap_alloc _ _ _ (by first | exact lRr_1 | (simp; omega))).trans Rr_1.out)
  have ro_2 : w2.heap[w1.heap.size]? = some (.cells #[.int .i64 x1.ep, .bool x1.now.u, .int .u64 (uI x1.now.k), .int .u64 (uI x1.now.l), .slice D1 x1.now.rs.length d1, .bool x1.bef.u, .int .u64 (uI x1.bef.k), .int .u64 (uI x1.bef.l), .slice D2 x1.bef.rs.length d2, .bool x1.two] 29 (0, 0)) := (hb2.block _ (by first | (simp; done) | (simp; omega))).trans (by repeat (first | exact heap_new _ _ _ (by first | rfl | (simp; done) | (simp; omega)) | refine (Below.heap_alloc _ _ _ (by first | omega | (simp; done) | (simp; omega))).trans ?_))
  have Oo1_2 := Lib.hid (Oo1_1.out.below (w' := w2) (by repeat (first | with_reducible exact Below.refl _ _ | with_reducible assumption | with_reducible refine Below.drew ?_ | with_reducible refine Below.alloc ?_ (by first | exact Nat.le_refl _ | omega | (simp; done) | (simp; omega)) _ | with_reducible refine Below.setCell ?_ (by first | exact Nat.le_refl _ | omega | (simp; done) | (simp; omega)) _ | (with_reducible refine ext_trans ?_ (by with_reducible assumption)))))
  have Oo2_2 := Lib.hid (Oo2_1.out.below (w' := w2) (by repeat (first | with_reducible exact Below.refl _ _ | with_reducible assumption | with_reducible refine Below.drew ?_ | with_reducible refine Below.alloc ?_ (by first | exact Nat.le_refl _ | omega | (simp; done) | (simp; omega)) _ | with_reducible refine Below.setCell ?_ (by first | exact Nat.le_refl _ | omega | (simp; done) | (simp; omega)) _ | (with_reducible refine ext_trans ?_ (by with_reducible assumption)))))
  have hw2 : Below w.heap.size w w2 := (by repeat (first | with_reducible exact Below.refl _ _ | with_reducible assumption | with_reducible refine Below.drew ?_ | with_reducible refine Below.alloc ?_ (by first | exact Nat.le_refl _ | omega | (simp; done) | (simp; omega)) _ | with_reducible refine Below.setCell ?_ (by first | exact Nat.le_refl _ | omega | (simp; done) | (simp; omega)) _ | (with_reducible refine ext_trans ?_ (by with_reducible assumption))))
  have lRk_2 : w.heap.size < w2.heap.size := by omega
  have lRm_2 : w.heap.size + 1 < w2.heap.size := by omega
  have lRr_2 : w.heap.size + 1 + 1 < w2.heap.size := by omega
  have lRo_2 : w1.heap.size < w2.heap.size := by omega
  have Rk_2 := Lib.hid rk_2
  have r0_rk_2 := cell_of_row _ _ 0 _ _ _ rk_2
  have r1_rk_2 := cell_of_row _ _ 1 _ _ _ rk_2
  have r2_rk_2 := cell_of_row _ _ 2 _ _ _ rk_2
  have r3_rk_2 := cell_of_row _ _ 3 _ _ _ rk_2
  have r4_rk_2 := cell_of_row _ _ 4 _ _ _ rk_2
  have r5_rk_2 := cell_of_row _ _ 5 _ _ _ rk_2
  have r6_rk_2 := cell_of_row _ _ 6 _ _ _ rk_2
  have r7_rk_2 := cell_of_row _ _ 7 _ _ _ rk_2
  have r8_rk_2 := cell_of_row _ _ 8 _ _ _ rk_2
  have r9_rk_2 := cell_of_row _ _ 9 _ _ _ rk_2
  have f0_rk_2 := frozen_of_row _ _ 0 _ _ rk_2
  have f1_rk_2 := frozen_of_row _ _ 1 _ _ rk_2
  have f2_rk_2 := frozen_of_row _ _ 2 _ _ rk_2
  have f3_rk_2 := frozen_of_row _ _ 3 _ _ rk_2
  have f4_rk_2 := frozen_of_row _ _ 4 _ _ rk_2
  have f5_rk_2 := frozen_of_row _ _ 5 _ _ rk_2
  have f6_rk_2 := frozen_of_row _ _ 6 _ _ rk_2
  have f7_rk_2 := frozen_of_row _ _ 7 _ _ rk_2
  have f8_rk_2 := frozen_of_row _ _ 8 _ _ rk_2
  have f9_rk_2 := frozen_of_row _ _ 9 _ _ rk_2
  simp at r0_rk_2 r1_rk_2 r2_rk_2 r3_rk_2 r4_rk_2 r5_rk_2 r6_rk_2 r7_rk_2 r8_rk_2 r9_rk_2
  clear rk_2
  have Rm_2 := Lib.hid rm_2
  have r0_rm_2 := cell_of_row _ _ 0 _ _ _ rm_2
  have r1_rm_2 := cell_of_row _ _ 1 _ _ _ rm_2
  have r2_rm_2 := cell_of_row _ _ 2 _ _ _ rm_2
  have r3_rm_2 := cell_of_row _ _ 3 _ _ _ rm_2
  have f0_rm_2 := frozen_of_row _ _ 0 _ _ rm_2
  have f1_rm_2 := frozen_of_row _ _ 1 _ _ rm_2
  have f2_rm_2 := frozen_of_row _ _ 2 _ _ rm_2
  have f3_rm_2 := frozen_of_row _ _ 3 _ _ rm_2
  simp at r0_rm_2 r1_rm_2 r2_rm_2 r3_rm_2
  clear rm_2
  have Rr_2 := Lib.hid rr_2
  have r0_rr_2 := cell_of_row _ _ 0 _ _ _ rr_2
  have r1_rr_2 := cell_of_row _ _ 1 _ _ _ rr_2
  have r2_rr_2 := cell_of_row _ _ 2 _ _ _ rr_2
  have r3_rr_2 := cell_of_row _ _ 3 _ _ _ rr_2
  have r4_rr_2 := cell_of_row _ _ 4 _ _ _ rr_2
  have r5_rr_2 := cell_of_row _ _ 5 _ _ _ rr_2
  have r6_rr_2 := cell_of_row _ _ 6 _ _ _ rr_2
  have r7_rr_2 := cell_of_row _ _ 7 _ _ _ rr_2
  have r8_rr_2 := cell_of_row _ _ 8 _ _ _ rr_2
  have r9_rr_2 := cell_of_row _ _ 9 _ _ _ rr_2
  have f0_rr_2 := frozen_of_row _ _ 0 _ _ rr_2
  have f1_rr_2 := frozen_of_row _ _ 1 _ _ rr_2
  have f2_rr_2 := frozen_of_row _ _ 2 _ _ rr_2
  have f3_rr_2 := frozen_of_row _ _ 3 _ _ rr_2
  have f4_rr_2 := frozen_of_row _ _ 4 _ _ rr_2
  have f5_rr_2 := frozen_of_row _ _ 5 _ _ rr_2
  have f6_rr_2 := frozen_of_row _ _ 6 _ _ rr_2
  have f7_rr_2 := frozen_of_row _ _ 7 _ _ rr_2
  have f8_rr_2 := frozen_of_row _ _ 8 _ _ rr_2
  have f9_rr_2 := frozen_of_row _ _ 9 _ _ rr_2
  simp at r0_rr_2 r1_rr_2 r2_rr_2 r3_rr_2 r4_rr_2 r5_rr_2 r6_rr_2 r7_rr_2 r8_rr_2 r9_rr_2
  clear rr_2
  have Ro_2 := Lib.hid ro_2
  have r0_ro_2 := cell_of_row _ _ 0 _ _ _ ro_2
  have r1_ro_2 := cell_of_row _ _ 1 _ _ _ ro_2
  have r2_ro_2 := cell_of_row _ _ 2 _ _ _ ro_2
  have r3_ro_2 := cell_of_row _ _ 3 _ _ _ ro_2
  have r4_ro_2 := cell_of_row _ _ 4 _ _ _ ro_2
  have r5_ro_2 := cell_of_row _ _ 5 _ _ _ ro_2
  have r6_ro_2 := cell_of_row _ _ 6 _ _ _ ro_2
  have r7_ro_2 := cell_of_row _ _ 7 _ _ _ ro_2
  have r8_ro_2 := cell_of_row _ _ 8 _ _ _ ro_2
  have r9_ro_2 := cell_of_row _ _ 9 _ _ _ ro_2
  have f0_ro_2 := frozen_of_row _ _ 0 _ _ ro_2
  have f1_ro_2 := frozen_of_row _ _ 1 _ _ ro_2
  have f2_ro_2 := frozen_of_row _ _ 2 _ _ ro_2
  have f3_ro_2 := frozen_of_row _ _ 3 _ _ ro_2
  have f4_ro_2 := frozen_of_row _ _ 4 _ _ ro_2
  have f5_ro_2 := frozen_of_row _ _ 5 _ _ ro_2
  have f6_ro_2 := frozen_of_row _ _ 6 _ _ ro_2
  have f7_ro_2 := frozen_of_row _ _ 7 _ _ ro_2
  have f8_ro_2 := frozen_of_row _ _ 8 _ _ ro_2
  have f9_ro_2 := frozen_of_row _ _ 9 _ _ ro_2
  simp at r0_ro_2 r1_ro_2 r2_ro_2 r3_ro_2 r4_ro_2 r5_ro_2 r6_ro_2 r7_ro_2 r8_ro_2 r9_ro_2
  clear ro_2
  clear r0_rk_1 f0_rk_1 r1_rk_1 f1_rk_1 r2_rk_1 f2_rk_1 r3_rk_1 f3_rk_1 r4_rk_1 f4_rk_1 r5_rk_1 f5_rk_1 r6_rk_1 f6_rk_1 r7_rk_1 f7_rk_1 r8_rk_1 f8_rk_1 r9_rk_1 f9_rk_1
  clear r0_rm_1 f0_rm_1 r1_rm_1 f1_rm_1 r2_rm_1 f2_rm_1 r3_rm_1 f3_rm_1
  clear r0_rr_1 f0_rr_1 r1_rr_1 f1_rr_1 r2_rr_1 f2_rr_1 r3_rr_1 f3_rr_1 r4_rr_1 f4_rr_1 r5_rr_1 f5_rr_1 r6_rr_1 f6_rr_1 r7_rr_1 f7_rr_1 r8_rr_1 f8_rr_1 r9_rr_1 f9_rr_1
  have HAP := Lib.hid hap1
  clear hap1
  cases B1
  case false =>
    obtain rfl : R = x1 := HRR.out
    go_wp2_with fail
    apply bodyPost_ret (results_cell_row (P := Try.prog) (fn := Try.f21) rfl _ _ _ 29 _ (0, 0) _ rfl _ Try.underlying29 rfl _) rfl
    rotate_left 2
    · repeat (first | (with_reducible apply heap_setCell_same) | (with_reducible apply drew_row) | (with_reducible apply drewN_row) | (with_reducible exact Rr_2.out) | (with_reducible refine (heap_setCell_other _ _ _ _ (by first | omega | (simp; done) | (simp; omega))).trans ?_) | (with_reducible refine (Below.heap_alloc _ _ _ (by first | omega | (simp; done) | (simp; omega))).trans ?_))
    · kernel_rfl
    exact ⟨_, _, by simp, OwnE.mono (base := w.heap.size + 3) (by repeat (first | with_reducible exact Oo1_2.out | (with_reducible refine OwnE.setBelow ?_ (by first | (simp; done) | (simp; omega)) _) | with_reducible refine OwnE.alloc ?_ _ | with_reducible refine OwnE.drew ?_)) (by omega), OwnE.mono (base := w.heap.size + 3) (by repeat (first | with_reducible exact Oo2_2.out | (with_reducible refine OwnE.setBelow ?_ (by first | (simp; done) | (simp; omega)) _) | with_reducible refine OwnE.alloc ?_ _ | with_reducible refine OwnE.drew ?_)) (by omega), HAP.out, (by repeat (first | with_reducible exact Below.refl _ _ | with_reducible assumption | with_reducible refine Below.drew ?_ | with_reducible refine Below.alloc ?_ (by first | exact Nat.le_refl _ | omega | (simp; done) | (simp; omega)) _ | with_reducible refine Below.setCell ?_ (by first | exact Nat.le_refl _ | omega | (simp; done) | (simp; omega)) _ | (with_reducible refine ext_trans ?_ (by with_reducible assumption))))⟩
  obtain ⟨he1, he2⟩ := HEP.out rfl
  go_wp2_with fail
  refine (MacOkB x2 _ B2 HB2.out G21.out _ (H21.out.below (by repeat (first | with_reducible exact Below.refl _ _ | with_reducible assumption | with_reducible refine Below.drew ?_ | with_reducible refine Below.alloc ?_ (by first | exact Nat.le_refl _ | omega | (simp; done) | (simp; omega)) _ | with_reducible refine Below.setCell ?_ (by first | exact Nat.le_refl _ | omega | (simp; done) | (simp; omega)) _ | (with_reducible refine ext_trans ?_ (by with_reducible assumption)))))).mono ?_
  rintro e w3 ⟨rfl, hb3⟩
  have hz3 := hb3.size
  (try simp at hz3)
  have rk_3 := (hb3.block _ (by first | omega | (simp; done) | (simp; omega))).trans Rk_2.out
  have rm_3 := (hb3.block _ (by first | omega | (simp; done) | (simp; omega))).trans Rm_2.out
  have rr_3 := (hb3.block _ (by first | omega | (simp; done) | (simp; omega))).trans Rr_2.out
  have ro_3 := (hb3.block _ (by first | omega | (simp; done) | (simp; omega))).trans Ro_2.out
  have Oo1_3 := Lib.hid (Oo1_2.out.below (w' := w3) (by repeat (first | with_reducible exact Below.refl _ _ | with_reducible assumption | with_reducible refine Below.drew ?_ | with_reducible refine Below.alloc ?_ (by first | exact Nat.le_refl _ | omega | (simp; done) | (simp; omega)) _ | with_reducible refine Below.setCell ?_ (by first | exact Nat.le_refl _ | omega | (simp; done) | (simp; omega)) _ | (with_reducible refine ext_trans ?_ (by with_reducible assumption)))))
  have Oo2_3 := Lib.hid (Oo2_2.out.below (w' := w3) (by repeat (first | with_reducible exact Below.refl _ _ | with_reducible assumption | with_reducible refine Below.drew ?_ | with_reducible refine Below.alloc ?_ (by first | exact Nat.le_refl _ | omega | (simp; done) | (simp; omega)) _ | with_reducible refine Below.setCell ?_ (by first | exact Nat.le_refl _ | omega | (simp; done) | (simp; omega)) _ | (with_reducible refine ext_trans ?_ (by with_reducible assumption)))))
  have hw3 : Below w.heap.size w w3 := (by repeat (first | with_reducible exact Below.refl _ _ | with_reducible assumption | with_reducible refine Below.drew ?_ | with_reducible refine Below.alloc ?_ (by first | exact Nat.le_refl _ | omega | (simp; done) | (simp; omega)) _ | with_reducible refine Below.setCell ?_ (by first | exact Nat.le_refl _ | omega | (simp; done) | (simp; omega)) _ | (with_reducible refine ext_trans ?_ (by with_reducible assumption))))
  have lRk_3 : w.heap.size < w3.heap.size := by omega
  have lRm_3 : w.heap.size + 1 < w3.heap.size := by omega
  have lRr_3 : w.heap.size + 1 + 1 < w3.heap.size := by omega
  have lRo_3 : w1.heap.size < w3.heap.size := by omega
  have Rk_3 := Lib.hid rk_3
  have r0_rk_3 := cell_of_row _ _ 0 _ _ _ rk_3
  have r1_rk_3 := cell_of_row _ _ 1 _ _ _ rk_3
  have r2_rk_3 := cell_of_row _ _ 2 _ _ _ rk_3
  have r3_rk_3 := cell_of_row _ _ 3 _ _ _ rk_3
  have r4_rk_3 := cell_of_row _ _ 4 _ _ _ rk_3
  have r5_rk_3 := cell_of_row _ _ 5 _ _ _ rk_3
  have r6_rk_3 := cell_of_row _ _ 6 _ _ _ rk_3
  have r7_rk_3 := cell_of_row _ _ 7 _ _ _ rk_3
  have r8_rk_3 := cell_of_row _ _ 8 _ _ _ rk_3
  have r9_rk_3 := cell_of_row _ _ 9 _ _ _ rk_3
  have f0_rk_3 := frozen_of_row _ _ 0 _ _ rk_3
  have f1_rk_3 := frozen_of_row _ _ 1 _ _ rk_3
  have f2_rk_3 := frozen_of_row _ _ 2 _ _ rk_3
  have f3_rk_3 := frozen_of_row _ _ 3 _ _ rk_3
  have f4_rk_3 := frozen_of_row _ _ 4 _ _ rk_3
  have f5_rk_3 := frozen_of_row _ _ 5 _ _ rk_3
  have f6_rk_3 := frozen_of_row _ _ 6 _ _ rk_3
  have f7_rk_3 := frozen_of_row _ _ 7 _ _ rk_3
  have f8_rk_3 := frozen_of_row _ _ 8 _ _ rk_3
  have f9_rk_3 := frozen_of_row _ _ 9 _ _ rk_3
  simp at r0_rk_3 r1_rk_3 r2_rk_3 r3_rk_3 r4_rk_3 r5_rk_3 r6_rk_3 r7_rk_3 r8_rk_3 r9_rk_3
  clear rk_3
  have Rm_3 := Lib.hid rm_3
  have r0_rm_3 := cell_of_row _ _ 0 _ _ _ rm_3
  have r1_rm_3 := cell_of_row _ _ 1 _ _ _ rm_3
  have r2_rm_3 := cell_of_row _ _ 2 _ _ _ rm_3
  have r3_rm_3 := cell_of_row _ _ 3 _ _ _ rm_3
  have f0_rm_3 := frozen_of_row _ _ 0 _ _ rm_3
  have f1_rm_3 := frozen_of_row _ _ 1 _ _ rm_3
  have f2_rm_3 := frozen_of_row _ _ 2 _ _ rm_3
  have f3_rm_3 := frozen_of_row _ _ 3 _ _ rm_3
  simp at r0_rm_3 r1_rm_3 r2_rm_3 r3_rm_3
  clear rm_3
  have Rr_3 := Lib.hid rr_3
  have r0_rr_3 := cell_of_row _ _ 0 _ _ _ rr_3
  have r1_rr_3 := cell_of_row _ _ 1 _ _ _ rr_3
  have r2_rr_3 := cell_of_row _ _ 2 _ _ _ rr_3
  have r3_rr_3 := cell_of_row _ _ 3 _ _ _ rr_3
  have r4_rr_3 := cell_of_row _ _ 4 _ _ _ rr_3
  have r5_rr_3 := cell_of_row _ _ 5 _ _ _ rr_3
  have r6_rr_3 := cell_of_row _ _ 6 _ _ _ rr_3
  have r7_rr_3 := cell_of_row _ _ 7 _ _ _ rr_3
  have r8_rr_3 := cell_of_row _ _ 8 _ _ _ rr_3
  have r9_rr_3 := cell_of_row _ _ 9 _ _ _ rr_3
  have f0_rr_3 := frozen_of_row _ _ 0 _ _ rr_3
  have f1_rr_3 := frozen_of_row _ _ 1 _ _ rr_3
  have f2_rr_3 := frozen_of_row _ _ 2 _ _ rr_3
  have f3_rr_3 := frozen_of_row _ _ 3 _ _ rr_3
  have f4_rr_3 := frozen_of_row _ _ 4 _ _ rr_3
  have f5_rr_3 := frozen_of_row _ _ 5 _ _ rr_3
  have f6_rr_3 := frozen_of_row _ _ 6 _ _ rr_3
  have f7_rr_3 := frozen_of_row _ _ 7 _ _ rr_3
  have f8_rr_3 := frozen_of_row _ _ 8 _ _ rr_3
  have f9_rr_3 := frozen_of_row _ _ 9 _ _ rr_3
  simp at r0_rr_3 r1_rr_3 r2_rr_3 r3_rr_3 r4_rr_3 r5_rr_3 r6_rr_3 r7_rr_3 r8_rr_3 r9_rr_3
  clear rr_3
  have Ro_3 := Lib.hid ro_3
  have r0_ro_3 := cell_of_row _ _ 0 _ _ _ ro_3
  have r1_ro_3 := cell_of_row _ _ 1 _ _ _ ro_3
  have r2_ro_3 := cell_of_row _ _ 2 _ _ _ ro_3
  have r3_ro_3 := cell_of_row _ _ 3 _ _ _ ro_3
  have r4_ro_3 := cell_of_row _ _ 4 _ _ _ ro_3
  have r5_ro_3 := cell_of_row _ _ 5 _ _ _ ro_3
  have r6_ro_3 := cell_of_row _ _ 6 _ _ _ ro_3
  have r7_ro_3 := cell_of_row _ _ 7 _ _ _ ro_3
  have r8_ro_3 := cell_of_row _ _ 8 _ _ _ ro_3
  have r9_ro_3 := cell_of_row _ _ 9 _ _ _ ro_3
  have f0_ro_3 := frozen_of_row _ _ 0 _ _ ro_3
  have f1_ro_3 := frozen_of_row _ _ 1 _ _ ro_3
  have f2_ro_3 := frozen_of_row _ _ 2 _ _ ro_3
  have f3_ro_3 := frozen_of_row _ _ 3 _ _ ro_3
  have f4_ro_3 := frozen_of_row _ _ 4 _ _ ro_3
  have f5_ro_3 := frozen_of_row _ _ 5 _ _ ro_3
  have f6_ro_3 := frozen_of_row _ _ 6 _ _ ro_3
  have f7_ro_3 := frozen_of_row _ _ 7 _ _ ro_3
  have f8_ro_3 := frozen_of_row _ _ 8 _ _ ro_3
  have f9_ro_3 := frozen_of_row _ _ 9 _ _ ro_3
  simp at r0_ro_3 r1_ro_3 r2_ro_3 r3_ro_3 r4_ro_3 r5_ro_3 r6_ro_3 r7_ro_3 r8_ro_3 r9_ro_3
  clear ro_3
  clear r0_rk_2 f0_rk_2 r1_rk_2 f1_rk_2 r2_rk_2 f2_rk_2 r3_rk_2 f3_rk_2 r4_rk_2 f4_rk_2 r5_rk_2 f5_rk_2 r6_rk_2 f6_rk_2 r7_rk_2 f7_rk_2 r8_rk_2 f8_rk_2 r9_rk_2 f9_rk_2
  clear r0_rm_2 f0_rm_2 r1_rm_2 f1_rm_2 r2_rm_2 f2_rm_2 r3_rm_2 f3_rm_2
  clear r0_rr_2 f0_rr_2 r1_rr_2 f1_rr_2 r2_rr_2 f2_rr_2 r3_rr_2 f3_rr_2 r4_rr_2 f4_rr_2 r5_rr_2 f5_rr_2 r6_rr_2 f6_rr_2 r7_rr_2 f7_rr_2 r8_rr_2 f8_rr_2 r9_rr_2 f9_rr_2
  clear r0_ro_2 f0_ro_2 r1_ro_2 f1_ro_2 r2_ro_2 f2_ro_2 r3_ro_2 f3_ro_2 r4_ro_2 f4_ro_2 r5_ro_2 f5_ro_2 r6_ro_2 f6_ro_2 r7_ro_2 f7_ro_2 r8_ro_2 f8_ro_2 r9_ro_2 f9_ro_2
  cases B2
  case false =>
    obtain rfl : R = x1 := HRR.out
    go_wp2_with fail
    apply bodyPost_ret (results_cell_row (P := Try.prog) (fn := Try.f21) rfl _ _ _ 29 _ (0, 0) _ rfl _ Try.underlying29 rfl _) rfl
    rotate_left 2
    · repeat (first | (with_reducible apply heap_setCell_same) | (with_reducible apply drew_row) | (with_reducible apply drewN_row) | (with_reducible exact Rr_3.out) | (with_reducible refine (heap_setCell_other _ _ _ _ (by first | omega | (simp; done) | (simp; omega))).trans ?_) | (with_reducible refine (Below.heap_alloc _ _ _ (by first | omega | (simp; done) | (simp; omega))).trans ?_))
    · kernel_rfl
    exact ⟨_, _, by simp, OwnE.mono (base := w.heap.size + 3) (by repeat (first | with_reducible exact Oo1_3.out | (with_reducible refine OwnE.setBelow ?_ (by first | (simp; done) | (simp; omega)) _) | with_reducible refine OwnE.alloc ?_ _ | with_reducible refine OwnE.drew ?_)) (by omega), OwnE.mono (base := w.heap.size + 3) (by repeat (first | with_reducible exact Oo2_3.out | (with_reducible refine OwnE.setBelow ?_ (by first | (simp; done) | (simp; omega)) _) | with_reducible refine OwnE.alloc ?_ _ | with_reducible refine OwnE.drew ?_)) (by omega), HAP.out, (by repeat (first | with_reducible exact Below.refl _ _ | with_reducible assumption | with_reducible refine Below.drew ?_ | with_reducible refine Below.alloc ?_ (by first | exact Nat.le_refl _ | omega | (simp; done) | (simp; omega)) _ | with_reducible refine Below.setCell ?_ (by first | exact Nat.le_refl _ | omega | (simp; done) | (simp; omega)) _ | (with_reducible refine ext_trans ?_ (by with_reducible assumption))))⟩
  by_cases hx : x1.ep = 4294967295
  case pos =>
    obtain rfl : R = x1 := HRR.out.trans (by simp [hx])
    go_wp2_with fail
    apply bodyPost_ret (results_cell_row (P := Try.prog) (fn := Try.f21) rfl _ _ _ 29 _ (0, 0) _ rfl _ Try.underlying29 rfl _) rfl
    rotate_left 2
    · repeat (first | (with_reducible apply heap_setCell_same) | (with_reducible apply drew_row) | (with_reducible apply drewN_row) | (with_reducible exact Rr_3.out) | (with_reducible refine (heap_setCell_other _ _ _ _ (by first | omega | (simp; done) | (simp; omega))).trans ?_) | (with_reducible refine (Below.heap_alloc _ _ _ (by first | omega | (simp; done) | (simp; omega))).trans ?_))
    · kernel_rfl
    exact ⟨_, _, by simp [hx], OwnE.mono (base := w.heap.size + 3) (by repeat (first | with_reducible exact Oo1_3.out | (with_reducible refine OwnE.setBelow ?_ (by first | (simp; done) | (simp; omega)) _) | with_reducible refine OwnE.alloc ?_ _ | with_reducible refine OwnE.drew ?_)) (by omega), OwnE.mono (base := w.heap.size + 3) (by repeat (first | with_reducible exact Oo2_3.out | (with_reducible refine OwnE.setBelow ?_ (by first | (simp; done) | (simp; omega)) _) | with_reducible refine OwnE.alloc ?_ _ | with_reducible refine OwnE.drew ?_)) (by omega), HAP.out, (by repeat (first | with_reducible exact Below.refl _ _ | with_reducible assumption | with_reducible refine Below.drew ?_ | with_reducible refine Below.alloc ?_ (by first | exact Nat.le_refl _ | omega | (simp; done) | (simp; omega)) _ | with_reducible refine Below.setCell ?_ (by first | exact Nat.le_refl _ | omega | (simp; done) | (simp; omega)) _ | (with_reducible refine ext_trans ?_ (by with_reducible assumption))))⟩
  obtain rfl : R = ⟨x1.ep + 1, x2, x1.now, true⟩ := HRR.out.trans (by simp [hx])
  go_wp2_with fail
  have HK0 := Lib.hid (gk_start (n := 10) Rr_3.out rfl)
  have hwr : IntKind.i64.wrap (x1.ep + 1) = x1.ep + 1 := IntWalk.i64_in _ ⟨by omega, by omega⟩
  have hne1 : ¬ w.heap.size = w.heap.size + 1 + 1 := by omega
  have hne2 : ¬ w.heap.size + 1 = w.heap.size + 1 + 1 := by omega
  have hne3 : ¬ w1.heap.size = w.heap.size + 1 + 1 := by omega
  first | go_region_held3 (fun w' => (∀ b' o, b' < w3.heap.size → ¬ b' = w.heap.size + 1 + 1 → w'.cell? ⟨b', o, none⟩ = w3.cell? ⟨b', o, none⟩) ∧ Stored w3 (w.heap.size + 1 + 1) 10 29 w') (first | with_reducible assumption | with_reducible exact HK0.out | ((repeat (with_reducible refine gk_set ?_ _ _)); with_reducible assumption)) (first | (go_at_call 60; ((with_reducible refine (cloneMac_any x2 _ P21.out _ (H21.out.below (hw3.trans (gk_below (by first | with_reducible assumption) (by omega) (by omega))))).mono ?_); (rintro e wA ⟨vA1, rfl, hOA1, hbA⟩; obtain ⟨AA1, cA1, rfl⟩ := hOA1.form; have hzA := hbA.size; have hXA := gk_low (by first | with_reducible assumption) hbA; have hBOA := Lib.hid hOA1; have hOA := Lib.hid (OwnE.mono (base' := w.heap.size + 3) hOA1 (by omega)); clear hOA1; have hSA := gk_call (by first | with_reducible assumption) hbA; obtain ⟨cs, hcs, hrow⟩ := hSA.2.row; obtain ⟨t0, t1, t2, t3, t4, t5, t6, t7, t8, t9, rfl⟩ := cells10 hcs; have r0_hrow := cell_of_row _ _ 0 _ _ _ hrow; have f0_hrow := frozen_of_row _ _ 0 _ _ hrow; have r1_hrow := cell_of_row _ _ 1 _ _ _ hrow; have f1_hrow := frozen_of_row _ _ 1 _ _ hrow; have r2_hrow := cell_of_row _ _ 2 _ _ _ hrow; have f2_hrow := frozen_of_row _ _ 2 _ _ hrow; have r3_hrow := cell_of_row _ _ 3 _ _ _ hrow; have f3_hrow := frozen_of_row _ _ 3 _ _ hrow; have r4_hrow := cell_of_row _ _ 4 _ _ _ hrow; have f4_hrow := frozen_of_row _ _ 4 _ _ hrow; have r5_hrow := cell_of_row _ _ 5 _ _ _ hrow; have f5_hrow := frozen_of_row _ _ 5 _ _ hrow; have r6_hrow := cell_of_row _ _ 6 _ _ _ hrow; have f6_hrow := frozen_of_row _ _ 6 _ _ hrow; have r7_hrow := cell_of_row _ _ 7 _ _ _ hrow; have f7_hrow := frozen_of_row _ _ 7 _ _ hrow; have r8_hrow := cell_of_row _ _ 8 _ _ _ hrow; have f8_hrow := frozen_of_row _ _ 8 _ _ hrow; have r9_hrow := cell_of_row _ _ 9 _ _ _ hrow; have f9_hrow := frozen_of_row _ _ 9 _ _ hrow; simp at r0_hrow r1_hrow r2_hrow r3_hrow r4_hrow r5_hrow r6_hrow r7_hrow r8_hrow r9_hrow; have HROW := Lib.hid hrow; clear hrow hcs)))) | fail
  have OD := Lib.hid (Oo1_3.out.grow hSA.2.by_ (by omega))
  have hap := Lib.hid (fun h h2 => (own_ne Bo1.out hBOA.out (by omega) h h2).symm)
  have hwz : Below w.heap.size w wA := hw3.trans (gk_below hSA (by omega) (by omega))
  have hzw := hwz.size
  go_wp2_with fail
  apply bodyPost_ret (results_cell_row (P := Try.prog) (fn := Try.f21) rfl _ _ _ 29 _ (0, 0) _ rfl _ Try.underlying29 rfl _) rfl
  rotate_left 2
  · repeat (first | (with_reducible apply heap_setCell_same) | (with_reducible apply drew_row) | (with_reducible apply drewN_row) | (with_reducible exact HROW.out) | (with_reducible refine (heap_setCell_other _ _ _ _ (by first | omega | (simp; done) | (simp; omega))).trans ?_) | (with_reducible refine (Below.heap_alloc _ _ _ (by first | omega | (simp; done) | (simp; omega))).trans ?_))
  · kernel_rfl
  exact ⟨_, _, by simp, OwnE.mono (base := w.heap.size + 3) (by repeat (first | with_reducible exact hOA.out | (with_reducible refine OwnE.setBelow ?_ (by first | (simp; done) | (simp; omega)) _) | with_reducible refine OwnE.alloc ?_ _ | with_reducible refine OwnE.drew ?_)) (by omega), OwnE.mono (base := w.heap.size + 3) (by repeat (first | with_reducible exact OD.out | (with_reducible refine OwnE.setBelow ?_ (by first | (simp; done) | (simp; omega)) _) | with_reducible refine OwnE.alloc ?_ _ | with_reducible refine OwnE.drew ?_)) (by omega), fun h h2 => hap.out h2 h, (by repeat (first | with_reducible exact Below.refl _ _ | with_reducible assumption | with_reducible refine Below.drew ?_ | with_reducible refine Below.alloc ?_ (by first | exact Nat.le_refl _ | omega | (simp; done) | (simp; omega)) _ | with_reducible refine Below.setCell ?_ (by first | exact Nat.le_refl _ | omega | (simp; done) | (simp; omega)) _ | (with_reducible refine ext_trans ?_ (by with_reducible assumption))))⟩

set_option maxHeartbeats 4000000 in
theorem sRotated_any (x1 : RKeys) (x2 : RMac) (v11 v12 v21 : Value) (g11 : x1.now.fits) (g12 : x1.bef.fits) (g21 : x2.fits) (p11 : x1.now.rs.length ≤ 1048600) (p12 : x1.bef.rs.length ≤ 1048600) (p21 : x2.rs.length ≤ 1048600) (w : World) (h11 : RdMacRow w v11 x1.now.rs) (h12 : RdMacRow w v12 x1.bef.rs) (h21 : RdMacRow w v21 x2.rs) :
    Calls Try.prog 41 #[vK x1 v11 v12, vMc x2 v21] w (NewKeys (x1.rot x2) w) := by
  obtain ⟨A11, c11, rfl, -⟩ := id h11
  have H11 := Lib.hid h11
  have P11 := Lib.hid p11
  clear h11 p11
  obtain ⟨A12, c12, rfl, -⟩ := id h12
  have H12 := Lib.hid h12
  have P12 := Lib.hid p12
  clear h12 p12
  obtain ⟨A21, c21, rfl, -⟩ := id h21
  have H21 := Lib.hid h21
  have P21 := Lib.hid p21
  clear h21 p21
  have G11 := Lib.hid g11
  have G12 := Lib.hid g12
  have G21 := Lib.hid g21
  clear g11 g12 g21
  obtain ⟨B1, hB1⟩ : ∃ B, x1.ok = B := ⟨_, rfl⟩
  obtain ⟨B2, hB2⟩ : ∃ B, x2.ok = B := ⟨_, rfl⟩
  obtain ⟨R, hR⟩ : ∃ R, x1.rot x2 = R := ⟨_, rfl⟩
  rw [hR]
  have hr : R = if B1 && (B2 && !decide (x1.ep = 4294967295)) then ⟨x1.ep + 1, x2, x1.now, true⟩ else x1 := by rw [← hR, ← hB1, ← hB2]; rfl
  have HRR := Lib.hid hr
  have hok := fun W v1 v2 h1 h2 => sKeysOk_any x1 v1 v2 G11.out G12.out W h1 h2
  rw [hB1] at hok
  have HOK := Lib.hid hok
  have HB2 := Lib.hid hB2
  clear hok hr hB2 hR
  have hep : B1 = true → 0 ≤ x1.ep ∧ x1.ep ≤ 4294967295 := fun h => by
    have h2 := hB1.trans h
    unfold RKeys.ok at h2
    rw [Bool.and_eq_true] at h2
    have h3 := inB_iff.1 h2.1
    split at h3 <;> omega
  have HEP := Lib.hid hep
  clear hep hB1
  go_enter Try.func41, Try.ntmps41
  go_wp2_with fail
  refine (l13Copy_any x1 _ _ P11.out P12.out _ (H11.out.below (by repeat (first | with_reducible exact Below.refl _ _ | with_reducible assumption | with_reducible refine Below.drew ?_ | with_reducible refine Below.alloc ?_ (by first | exact Nat.le_refl _ | omega | (simp; done) | (simp; omega)) _ | with_reducible refine Below.setCell ?_ (by first | exact Nat.le_refl _ | omega | (simp; done) | (simp; omega)) _ | (with_reducible refine ext_trans ?_ (by with_reducible assumption))))) (H12.out.below (by repeat (first | with_reducible exact Below.refl _ _ | with_reducible assumption | with_reducible refine Below.drew ?_ | with_reducible refine Below.alloc ?_ (by first | exact Nat.le_refl _ | omega | (simp; done) | (simp; omega)) _ | with_reducible refine Below.setCell ?_ (by first | exact Nat.le_refl _ | omega | (simp; done) | (simp; omega)) _ | (with_reducible refine ext_trans ?_ (by with_reducible assumption)))))).mono ?_
  rintro e w1 ⟨u1, u2, rfl, hO11, hO12, hap1, hb1⟩
  obtain ⟨D1, d1, rfl⟩ := hO11.form
  obtain ⟨D2, d2, rfl⟩ := hO12.form
  have Oo1_1 := Lib.hid (OwnE.mono (base' := w.heap.size + 3) hO11 (by first | exact Nat.le_refl _ | (simp; done)))
  have Bo1 := Oo1_1
  have Oo2_1 := Lib.hid (OwnE.mono (base' := w.heap.size + 3) hO12 (by first | exact Nat.le_refl _ | (simp; done)))
  have Bo2 := Oo2_1
  have hz1 := hb1.size
  (try simp at hz1)
  have rk_1 : w1.heap[w.heap.size]? = some (.cells #[.int .i64 x1.ep, .bool x1.now.u, .int .u64 (uI x1.now.k), .int .u64 (uI x1.now.l), .slice A11 x1.now.rs.length c11, .bool x1.bef.u, .int .u64 (uI x1.bef.k), .int .u64 (uI x1.bef.l), .slice A12 x1.bef.rs.length c12, .bool x1.two] 29 (0, 0)) := (hb1.block _ (by first | (simp; done) | (simp; omega))).trans (by repeat (first | exact heap_new _ _ _ (by first | rfl | (simp; done) | (simp; omega)) | refine (Below.heap_alloc _ _ _ (by first | omega | (simp; done) | (simp; omega))).trans ?_))
  have rm_1 : w1.heap[w.heap.size + 1]? = some (.cells #[.bool x2.u, .int .u64 (uI x2.k), .int .u64 (uI x2.l), .slice A21 x2.rs.length c21] 27 (0, 0)) := (hb1.block _ (by first | (simp; done) | (simp; omega))).trans (by repeat (first | exact heap_new _ _ _ (by first | rfl | (simp; done) | (simp; omega)) | refine (Below.heap_alloc _ _ _ (by first | omega | (simp; done) | (simp; omega))).trans ?_))
  have rr_1 : w1.heap[w.heap.size + 1 + 1]? = some (.cells #[.int .i64 0, .bool false, .int .u64 0, .int .u64 0, .slice none 0 0, .bool false, .int .u64 0, .int .u64 0, .slice none 0 0, .bool false] 29 (0, 0)) := (hb1.block _ (by first | (simp; done) | (simp; omega))).trans (by repeat (first | exact heap_new _ _ _ (by first | rfl | (simp; done) | (simp; omega)) | refine (Below.heap_alloc _ _ _ (by first | omega | (simp; done) | (simp; omega))).trans ?_))
  have hw1 : Below w.heap.size w w1 := (by repeat (first | with_reducible exact Below.refl _ _ | with_reducible assumption | with_reducible refine Below.drew ?_ | with_reducible refine Below.alloc ?_ (by first | exact Nat.le_refl _ | omega | (simp; done) | (simp; omega)) _ | with_reducible refine Below.setCell ?_ (by first | exact Nat.le_refl _ | omega | (simp; done) | (simp; omega)) _ | (with_reducible refine ext_trans ?_ (by with_reducible assumption))))
  have lRk_1 : w.heap.size < w1.heap.size := by omega
  have lRm_1 : w.heap.size + 1 < w1.heap.size := by omega
  have lRr_1 : w.heap.size + 1 + 1 < w1.heap.size := by omega
  have Rk_1 := Lib.hid rk_1
  have r0_rk_1 := cell_of_row _ _ 0 _ _ _ rk_1
  have r1_rk_1 := cell_of_row _ _ 1 _ _ _ rk_1
  have r2_rk_1 := cell_of_row _ _ 2 _ _ _ rk_1
  have r3_rk_1 := cell_of_row _ _ 3 _ _ _ rk_1
  have r4_rk_1 := cell_of_row _ _ 4 _ _ _ rk_1
  have r5_rk_1 := cell_of_row _ _ 5 _ _ _ rk_1
  have r6_rk_1 := cell_of_row _ _ 6 _ _ _ rk_1
  have r7_rk_1 := cell_of_row _ _ 7 _ _ _ rk_1
  have r8_rk_1 := cell_of_row _ _ 8 _ _ _ rk_1
  have r9_rk_1 := cell_of_row _ _ 9 _ _ _ rk_1
  have f0_rk_1 := frozen_of_row _ _ 0 _ _ rk_1
  have f1_rk_1 := frozen_of_row _ _ 1 _ _ rk_1
  have f2_rk_1 := frozen_of_row _ _ 2 _ _ rk_1
  have f3_rk_1 := frozen_of_row _ _ 3 _ _ rk_1
  have f4_rk_1 := frozen_of_row _ _ 4 _ _ rk_1
  have f5_rk_1 := frozen_of_row _ _ 5 _ _ rk_1
  have f6_rk_1 := frozen_of_row _ _ 6 _ _ rk_1
  have f7_rk_1 := frozen_of_row _ _ 7 _ _ rk_1
  have f8_rk_1 := frozen_of_row _ _ 8 _ _ rk_1
  have f9_rk_1 := frozen_of_row _ _ 9 _ _ rk_1
  simp at r0_rk_1 r1_rk_1 r2_rk_1 r3_rk_1 r4_rk_1 r5_rk_1 r6_rk_1 r7_rk_1 r8_rk_1 r9_rk_1
  clear rk_1
  have Rm_1 := Lib.hid rm_1
  have r0_rm_1 := cell_of_row _ _ 0 _ _ _ rm_1
  have r1_rm_1 := cell_of_row _ _ 1 _ _ _ rm_1
  have r2_rm_1 := cell_of_row _ _ 2 _ _ _ rm_1
  have r3_rm_1 := cell_of_row _ _ 3 _ _ _ rm_1
  have f0_rm_1 := frozen_of_row _ _ 0 _ _ rm_1
  have f1_rm_1 := frozen_of_row _ _ 1 _ _ rm_1
  have f2_rm_1 := frozen_of_row _ _ 2 _ _ rm_1
  have f3_rm_1 := frozen_of_row _ _ 3 _ _ rm_1
  simp at r0_rm_1 r1_rm_1 r2_rm_1 r3_rm_1
  clear rm_1
  have Rr_1 := Lib.hid rr_1
  have r0_rr_1 := cell_of_row _ _ 0 _ _ _ rr_1
  have r1_rr_1 := cell_of_row _ _ 1 _ _ _ rr_1
  have r2_rr_1 := cell_of_row _ _ 2 _ _ _ rr_1
  have r3_rr_1 := cell_of_row _ _ 3 _ _ _ rr_1
  have r4_rr_1 := cell_of_row _ _ 4 _ _ _ rr_1
  have r5_rr_1 := cell_of_row _ _ 5 _ _ _ rr_1
  have r6_rr_1 := cell_of_row _ _ 6 _ _ _ rr_1
  have r7_rr_1 := cell_of_row _ _ 7 _ _ _ rr_1
  have r8_rr_1 := cell_of_row _ _ 8 _ _ _ rr_1
  have r9_rr_1 := cell_of_row _ _ 9 _ _ _ rr_1
  have f0_rr_1 := frozen_of_row _ _ 0 _ _ rr_1
  have f1_rr_1 := frozen_of_row _ _ 1 _ _ rr_1
  have f2_rr_1 := frozen_of_row _ _ 2 _ _ rr_1
  have f3_rr_1 := frozen_of_row _ _ 3 _ _ rr_1
  have f4_rr_1 := frozen_of_row _ _ 4 _ _ rr_1
  have f5_rr_1 := frozen_of_row _ _ 5 _ _ rr_1
  have f6_rr_1 := frozen_of_row _ _ 6 _ _ rr_1
  have f7_rr_1 := frozen_of_row _ _ 7 _ _ rr_1
  have f8_rr_1 := frozen_of_row _ _ 8 _ _ rr_1
  have f9_rr_1 := frozen_of_row _ _ 9 _ _ rr_1
  simp at r0_rr_1 r1_rr_1 r2_rr_1 r3_rr_1 r4_rr_1 r5_rr_1 r6_rr_1 r7_rr_1 r8_rr_1 r9_rr_1
  clear rr_1
  go_wp2_with fail
  refine (HOK.out _ _ _ (H11.out.below (by repeat (first | with_reducible exact Below.refl _ _ | with_reducible assumption | with_reducible refine Below.drew ?_ | with_reducible refine Below.alloc ?_ (by first | exact Nat.le_refl _ | omega | (simp; done) | (simp; omega)) _ | with_reducible refine Below.setCell ?_ (by first | exact Nat.le_refl _ | omega | (simp; done) | (simp; omega)) _ | (with_reducible refine ext_trans ?_ (by with_reducible assumption))))) (H12.out.below (by repeat (first | with_reducible exact Below.refl _ _ | with_reducible assumption | with_reducible refine Below.drew ?_ | with_reducible refine Below.alloc ?_ (by first | exact Nat.le_refl _ | omega | (simp; done) | (simp; omega)) _ | with_reducible refine Below.setCell ?_ (by first | exact Nat.le_refl _ | omega | (simp; done) | (simp; omega)) _ | (with_reducible refine ext_trans ?_ (by with_reducible assumption)))))).mono ?_
  rintro e w2 ⟨rfl, hb2⟩
  have hz2 := hb2.size
  (try simp at hz2)
  have rk_2 := (hb2.block _ (by first | omega | (simp; done) | (simp; omega))).trans ((Below.heap_alloc _ _ _ (by first | exact lRk_1 | (simp; omega))).trans Rk_1.out)
  have rm_2 := (hb2.block _ (by first | omega | (simp; done) | (simp; omega))).trans ((Below.heap_alloc _ _ _ (by first | exact lRm_1 | (simp; omega))).trans Rm_1.out)
  have rr_2 := (hb2.block _ (by first | omega | (simp; done) | (simp; omega))).trans ((Below.heap_alloc _ _ _ (by first | exact lRr_1 | (simp; omega))).trans Rr_1.out)
  have ro_2 : w2.heap[w1.heap.size]? = some (.cells #[.int .i64 x1.ep, .bool x1.now.u, .int .u64 (uI x1.now.k), .int .u64 (uI x1.now.l), .slice D1 x1.now.rs.length d1, .bool x1.bef.u, .int .u64 (uI x1.bef.k), .int .u64 (uI x1.bef.l), .slice D2 x1.bef.rs.length d2, .bool x1.two] 29 (0, 0)) := (hb2.block _ (by first | (simp; done) | (simp; omega))).trans (by repeat (first | exact heap_new _ _ _ (by first | rfl | (simp; done) | (simp; omega)) | refine (Below.heap_alloc _ _ _ (by first | omega | (simp; done) | (simp; omega))).trans ?_))
  have Oo1_2 := Lib.hid (Oo1_1.out.below (w' := w2) (by repeat (first | with_reducible exact Below.refl _ _ | with_reducible assumption | with_reducible refine Below.drew ?_ | with_reducible refine Below.alloc ?_ (by first | exact Nat.le_refl _ | omega | (simp; done) | (simp; omega)) _ | with_reducible refine Below.setCell ?_ (by first | exact Nat.le_refl _ | omega | (simp; done) | (simp; omega)) _ | (with_reducible refine ext_trans ?_ (by with_reducible assumption)))))
  have Oo2_2 := Lib.hid (Oo2_1.out.below (w' := w2) (by repeat (first | with_reducible exact Below.refl _ _ | with_reducible assumption | with_reducible refine Below.drew ?_ | with_reducible refine Below.alloc ?_ (by first | exact Nat.le_refl _ | omega | (simp; done) | (simp; omega)) _ | with_reducible refine Below.setCell ?_ (by first | exact Nat.le_refl _ | omega | (simp; done) | (simp; omega)) _ | (with_reducible refine ext_trans ?_ (by with_reducible assumption)))))
  have hw2 : Below w.heap.size w w2 := (by repeat (first | with_reducible exact Below.refl _ _ | with_reducible assumption | with_reducible refine Below.drew ?_ | with_reducible refine Below.alloc ?_ (by first | exact Nat.le_refl _ | omega | (simp; done) | (simp; omega)) _ | with_reducible refine Below.setCell ?_ (by first | exact Nat.le_refl _ | omega | (simp; done) | (simp; omega)) _ | (with_reducible refine ext_trans ?_ (by with_reducible assumption))))
  have lRk_2 : w.heap.size < w2.heap.size := by omega
  have lRm_2 : w.heap.size + 1 < w2.heap.size := by omega
  have lRr_2 : w.heap.size + 1 + 1 < w2.heap.size := by omega
  have lRo_2 : w1.heap.size < w2.heap.size := by omega
  have Rk_2 := Lib.hid rk_2
  have r0_rk_2 := cell_of_row _ _ 0 _ _ _ rk_2
  have r1_rk_2 := cell_of_row _ _ 1 _ _ _ rk_2
  have r2_rk_2 := cell_of_row _ _ 2 _ _ _ rk_2
  have r3_rk_2 := cell_of_row _ _ 3 _ _ _ rk_2
  have r4_rk_2 := cell_of_row _ _ 4 _ _ _ rk_2
  have r5_rk_2 := cell_of_row _ _ 5 _ _ _ rk_2
  have r6_rk_2 := cell_of_row _ _ 6 _ _ _ rk_2
  have r7_rk_2 := cell_of_row _ _ 7 _ _ _ rk_2
  have r8_rk_2 := cell_of_row _ _ 8 _ _ _ rk_2
  have r9_rk_2 := cell_of_row _ _ 9 _ _ _ rk_2
  have f0_rk_2 := frozen_of_row _ _ 0 _ _ rk_2
  have f1_rk_2 := frozen_of_row _ _ 1 _ _ rk_2
  have f2_rk_2 := frozen_of_row _ _ 2 _ _ rk_2
  have f3_rk_2 := frozen_of_row _ _ 3 _ _ rk_2
  have f4_rk_2 := frozen_of_row _ _ 4 _ _ rk_2
  have f5_rk_2 := frozen_of_row _ _ 5 _ _ rk_2
  have f6_rk_2 := frozen_of_row _ _ 6 _ _ rk_2
  have f7_rk_2 := frozen_of_row _ _ 7 _ _ rk_2
  have f8_rk_2 := frozen_of_row _ _ 8 _ _ rk_2
  have f9_rk_2 := frozen_of_row _ _ 9 _ _ rk_2
  simp at r0_rk_2 r1_rk_2 r2_rk_2 r3_rk_2 r4_rk_2 r5_rk_2 r6_rk_2 r7_rk_2 r8_rk_2 r9_rk_2
  clear rk_2
  have Rm_2 := Lib.hid rm_2
  have r0_rm_2 := cell_of_row _ _ 0 _ _ _ rm_2
  have r1_rm_2 := cell_of_row _ _ 1 _ _ _ rm_2
  have r2_rm_2 := cell_of_row _ _ 2 _ _ _ rm_2
  have r3_rm_2 := cell_of_row _ _ 3 _ _ _ rm_2
  have f0_rm_2 := frozen_of_row _ _ 0 _ _ rm_2
  have f1_rm_2 := frozen_of_row _ _ 1 _ _ rm_2
  have f2_rm_2 := frozen_of_row _ _ 2 _ _ rm_2
  have f3_rm_2 := frozen_of_row _ _ 3 _ _ rm_2
  simp at r0_rm_2 r1_rm_2 r2_rm_2 r3_rm_2
  clear rm_2
  have Rr_2 := Lib.hid rr_2
  have r0_rr_2 := cell_of_row _ _ 0 _ _ _ rr_2
  have r1_rr_2 := cell_of_row _ _ 1 _ _ _ rr_2
  have r2_rr_2 := cell_of_row _ _ 2 _ _ _ rr_2
  have r3_rr_2 := cell_of_row _ _ 3 _ _ _ rr_2
  have r4_rr_2 := cell_of_row _ _ 4 _ _ _ rr_2
  have r5_rr_2 := cell_of_row _ _ 5 _ _ _ rr_2
  have r6_rr_2 := cell_of_row _ _ 6 _ _ _ rr_2
  have r7_rr_2 := cell_of_row _ _ 7 _ _ _ rr_2
  have r8_rr_2 := cell_of_row _ _ 8 _ _ _ rr_2
  have r9_rr_2 := cell_of_row _ _ 9 _ _ _ rr_2
  have f0_rr_2 := frozen_of_row _ _ 0 _ _ rr_2
  have f1_rr_2 := frozen_of_row _ _ 1 _ _ rr_2
  have f2_rr_2 := frozen_of_row _ _ 2 _ _ rr_2
  have f3_rr_2 := frozen_of_row _ _ 3 _ _ rr_2
  have f4_rr_2 := frozen_of_row _ _ 4 _ _ rr_2
  have f5_rr_2 := frozen_of_row _ _ 5 _ _ rr_2
  have f6_rr_2 := frozen_of_row _ _ 6 _ _ rr_2
  have f7_rr_2 := frozen_of_row _ _ 7 _ _ rr_2
  have f8_rr_2 := frozen_of_row _ _ 8 _ _ rr_2
  have f9_rr_2 := frozen_of_row _ _ 9 _ _ rr_2
  simp at r0_rr_2 r1_rr_2 r2_rr_2 r3_rr_2 r4_rr_2 r5_rr_2 r6_rr_2 r7_rr_2 r8_rr_2 r9_rr_2
  clear rr_2
  have Ro_2 := Lib.hid ro_2
  have r0_ro_2 := cell_of_row _ _ 0 _ _ _ ro_2
  have r1_ro_2 := cell_of_row _ _ 1 _ _ _ ro_2
  have r2_ro_2 := cell_of_row _ _ 2 _ _ _ ro_2
  have r3_ro_2 := cell_of_row _ _ 3 _ _ _ ro_2
  have r4_ro_2 := cell_of_row _ _ 4 _ _ _ ro_2
  have r5_ro_2 := cell_of_row _ _ 5 _ _ _ ro_2
  have r6_ro_2 := cell_of_row _ _ 6 _ _ _ ro_2
  have r7_ro_2 := cell_of_row _ _ 7 _ _ _ ro_2
  have r8_ro_2 := cell_of_row _ _ 8 _ _ _ ro_2
  have r9_ro_2 := cell_of_row _ _ 9 _ _ _ ro_2
  have f0_ro_2 := frozen_of_row _ _ 0 _ _ ro_2
  have f1_ro_2 := frozen_of_row _ _ 1 _ _ ro_2
  have f2_ro_2 := frozen_of_row _ _ 2 _ _ ro_2
  have f3_ro_2 := frozen_of_row _ _ 3 _ _ ro_2
  have f4_ro_2 := frozen_of_row _ _ 4 _ _ ro_2
  have f5_ro_2 := frozen_of_row _ _ 5 _ _ ro_2
  have f6_ro_2 := frozen_of_row _ _ 6 _ _ ro_2
  have f7_ro_2 := frozen_of_row _ _ 7 _ _ ro_2
  have f8_ro_2 := frozen_of_row _ _ 8 _ _ ro_2
  have f9_ro_2 := frozen_of_row _ _ 9 _ _ ro_2
  simp at r0_ro_2 r1_ro_2 r2_ro_2 r3_ro_2 r4_ro_2 r5_ro_2 r6_ro_2 r7_ro_2 r8_ro_2 r9_ro_2
  clear ro_2
  clear r0_rk_1 f0_rk_1 r1_rk_1 f1_rk_1 r2_rk_1 f2_rk_1 r3_rk_1 f3_rk_1 r4_rk_1 f4_rk_1 r5_rk_1 f5_rk_1 r6_rk_1 f6_rk_1 r7_rk_1 f7_rk_1 r8_rk_1 f8_rk_1 r9_rk_1 f9_rk_1
  clear r0_rm_1 f0_rm_1 r1_rm_1 f1_rm_1 r2_rm_1 f2_rm_1 r3_rm_1 f3_rm_1
  clear r0_rr_1 f0_rr_1 r1_rr_1 f1_rr_1 r2_rr_1 f2_rr_1 r3_rr_1 f3_rr_1 r4_rr_1 f4_rr_1 r5_rr_1 f5_rr_1 r6_rr_1 f6_rr_1 r7_rr_1 f7_rr_1 r8_rr_1 f8_rr_1 r9_rr_1 f9_rr_1
  have HAP := Lib.hid hap1
  clear hap1
  cases B1
  case false =>
    obtain rfl : R = x1 := HRR.out
    go_wp2_with fail
    apply bodyPost_ret (results_cell_row (P := Try.prog) (fn := Try.f41) rfl _ _ _ 29 _ (0, 0) _ rfl _ Try.underlying29 rfl _) rfl
    rotate_left 2
    · repeat (first | (with_reducible apply heap_setCell_same) | (with_reducible apply drew_row) | (with_reducible apply drewN_row) | (with_reducible exact Rr_2.out) | (with_reducible refine (heap_setCell_other _ _ _ _ (by first | omega | (simp; done) | (simp; omega))).trans ?_) | (with_reducible refine (Below.heap_alloc _ _ _ (by first | omega | (simp; done) | (simp; omega))).trans ?_))
    · kernel_rfl
    exact ⟨_, _, by simp, OwnE.mono (base := w.heap.size + 3) (by repeat (first | with_reducible exact Oo1_2.out | (with_reducible refine OwnE.setBelow ?_ (by first | (simp; done) | (simp; omega)) _) | with_reducible refine OwnE.alloc ?_ _ | with_reducible refine OwnE.drew ?_)) (by omega), OwnE.mono (base := w.heap.size + 3) (by repeat (first | with_reducible exact Oo2_2.out | (with_reducible refine OwnE.setBelow ?_ (by first | (simp; done) | (simp; omega)) _) | with_reducible refine OwnE.alloc ?_ _ | with_reducible refine OwnE.drew ?_)) (by omega), HAP.out, (by repeat (first | with_reducible exact Below.refl _ _ | with_reducible assumption | with_reducible refine Below.drew ?_ | with_reducible refine Below.alloc ?_ (by first | exact Nat.le_refl _ | omega | (simp; done) | (simp; omega)) _ | with_reducible refine Below.setCell ?_ (by first | exact Nat.le_refl _ | omega | (simp; done) | (simp; omega)) _ | (with_reducible refine ext_trans ?_ (by with_reducible assumption))))⟩
  obtain ⟨he1, he2⟩ := HEP.out rfl
  go_wp2_with fail
  refine (sMacOkB x2 _ B2 HB2.out G21.out _ (H21.out.below (by repeat (first | with_reducible exact Below.refl _ _ | with_reducible assumption | with_reducible refine Below.drew ?_ | with_reducible refine Below.alloc ?_ (by first | exact Nat.le_refl _ | omega | (simp; done) | (simp; omega)) _ | with_reducible refine Below.setCell ?_ (by first | exact Nat.le_refl _ | omega | (simp; done) | (simp; omega)) _ | (with_reducible refine ext_trans ?_ (by with_reducible assumption)))))).mono ?_
  rintro e w3 ⟨rfl, hb3⟩
  have hz3 := hb3.size
  (try simp at hz3)
  have rk_3 := (hb3.block _ (by first | omega | (simp; done) | (simp; omega))).trans Rk_2.out
  have rm_3 := (hb3.block _ (by first | omega | (simp; done) | (simp; omega))).trans Rm_2.out
  have rr_3 := (hb3.block _ (by first | omega | (simp; done) | (simp; omega))).trans Rr_2.out
  have ro_3 := (hb3.block _ (by first | omega | (simp; done) | (simp; omega))).trans Ro_2.out
  have Oo1_3 := Lib.hid (Oo1_2.out.below (w' := w3) (by repeat (first | with_reducible exact Below.refl _ _ | with_reducible assumption | with_reducible refine Below.drew ?_ | with_reducible refine Below.alloc ?_ (by first | exact Nat.le_refl _ | omega | (simp; done) | (simp; omega)) _ | with_reducible refine Below.setCell ?_ (by first | exact Nat.le_refl _ | omega | (simp; done) | (simp; omega)) _ | (with_reducible refine ext_trans ?_ (by with_reducible assumption)))))
  have Oo2_3 := Lib.hid (Oo2_2.out.below (w' := w3) (by repeat (first | with_reducible exact Below.refl _ _ | with_reducible assumption | with_reducible refine Below.drew ?_ | with_reducible refine Below.alloc ?_ (by first | exact Nat.le_refl _ | omega | (simp; done) | (simp; omega)) _ | with_reducible refine Below.setCell ?_ (by first | exact Nat.le_refl _ | omega | (simp; done) | (simp; omega)) _ | (with_reducible refine ext_trans ?_ (by with_reducible assumption)))))
  have hw3 : Below w.heap.size w w3 := (by repeat (first | with_reducible exact Below.refl _ _ | with_reducible assumption | with_reducible refine Below.drew ?_ | with_reducible refine Below.alloc ?_ (by first | exact Nat.le_refl _ | omega | (simp; done) | (simp; omega)) _ | with_reducible refine Below.setCell ?_ (by first | exact Nat.le_refl _ | omega | (simp; done) | (simp; omega)) _ | (with_reducible refine ext_trans ?_ (by with_reducible assumption))))
  have lRk_3 : w.heap.size < w3.heap.size := by omega
  have lRm_3 : w.heap.size + 1 < w3.heap.size := by omega
  have lRr_3 : w.heap.size + 1 + 1 < w3.heap.size := by omega
  have lRo_3 : w1.heap.size < w3.heap.size := by omega
  have Rk_3 := Lib.hid rk_3
  have r0_rk_3 := cell_of_row _ _ 0 _ _ _ rk_3
  have r1_rk_3 := cell_of_row _ _ 1 _ _ _ rk_3
  have r2_rk_3 := cell_of_row _ _ 2 _ _ _ rk_3
  have r3_rk_3 := cell_of_row _ _ 3 _ _ _ rk_3
  have r4_rk_3 := cell_of_row _ _ 4 _ _ _ rk_3
  have r5_rk_3 := cell_of_row _ _ 5 _ _ _ rk_3
  have r6_rk_3 := cell_of_row _ _ 6 _ _ _ rk_3
  have r7_rk_3 := cell_of_row _ _ 7 _ _ _ rk_3
  have r8_rk_3 := cell_of_row _ _ 8 _ _ _ rk_3
  have r9_rk_3 := cell_of_row _ _ 9 _ _ _ rk_3
  have f0_rk_3 := frozen_of_row _ _ 0 _ _ rk_3
  have f1_rk_3 := frozen_of_row _ _ 1 _ _ rk_3
  have f2_rk_3 := frozen_of_row _ _ 2 _ _ rk_3
  have f3_rk_3 := frozen_of_row _ _ 3 _ _ rk_3
  have f4_rk_3 := frozen_of_row _ _ 4 _ _ rk_3
  have f5_rk_3 := frozen_of_row _ _ 5 _ _ rk_3
  have f6_rk_3 := frozen_of_row _ _ 6 _ _ rk_3
  have f7_rk_3 := frozen_of_row _ _ 7 _ _ rk_3
  have f8_rk_3 := frozen_of_row _ _ 8 _ _ rk_3
  have f9_rk_3 := frozen_of_row _ _ 9 _ _ rk_3
  simp at r0_rk_3 r1_rk_3 r2_rk_3 r3_rk_3 r4_rk_3 r5_rk_3 r6_rk_3 r7_rk_3 r8_rk_3 r9_rk_3
  clear rk_3
  have Rm_3 := Lib.hid rm_3
  have r0_rm_3 := cell_of_row _ _ 0 _ _ _ rm_3
  have r1_rm_3 := cell_of_row _ _ 1 _ _ _ rm_3
  have r2_rm_3 := cell_of_row _ _ 2 _ _ _ rm_3
  have r3_rm_3 := cell_of_row _ _ 3 _ _ _ rm_3
  have f0_rm_3 := frozen_of_row _ _ 0 _ _ rm_3
  have f1_rm_3 := frozen_of_row _ _ 1 _ _ rm_3
  have f2_rm_3 := frozen_of_row _ _ 2 _ _ rm_3
  have f3_rm_3 := frozen_of_row _ _ 3 _ _ rm_3
  simp at r0_rm_3 r1_rm_3 r2_rm_3 r3_rm_3
  clear rm_3
  have Rr_3 := Lib.hid rr_3
  have r0_rr_3 := cell_of_row _ _ 0 _ _ _ rr_3
  have r1_rr_3 := cell_of_row _ _ 1 _ _ _ rr_3
  have r2_rr_3 := cell_of_row _ _ 2 _ _ _ rr_3
  have r3_rr_3 := cell_of_row _ _ 3 _ _ _ rr_3
  have r4_rr_3 := cell_of_row _ _ 4 _ _ _ rr_3
  have r5_rr_3 := cell_of_row _ _ 5 _ _ _ rr_3
  have r6_rr_3 := cell_of_row _ _ 6 _ _ _ rr_3
  have r7_rr_3 := cell_of_row _ _ 7 _ _ _ rr_3
  have r8_rr_3 := cell_of_row _ _ 8 _ _ _ rr_3
  have r9_rr_3 := cell_of_row _ _ 9 _ _ _ rr_3
  have f0_rr_3 := frozen_of_row _ _ 0 _ _ rr_3
  have f1_rr_3 := frozen_of_row _ _ 1 _ _ rr_3
  have f2_rr_3 := frozen_of_row _ _ 2 _ _ rr_3
  have f3_rr_3 := frozen_of_row _ _ 3 _ _ rr_3
  have f4_rr_3 := frozen_of_row _ _ 4 _ _ rr_3
  have f5_rr_3 := frozen_of_row _ _ 5 _ _ rr_3
  have f6_rr_3 := frozen_of_row _ _ 6 _ _ rr_3
  have f7_rr_3 := frozen_of_row _ _ 7 _ _ rr_3
  have f8_rr_3 := frozen_of_row _ _ 8 _ _ rr_3
  have f9_rr_3 := frozen_of_row _ _ 9 _ _ rr_3
  simp at r0_rr_3 r1_rr_3 r2_rr_3 r3_rr_3 r4_rr_3 r5_rr_3 r6_rr_3 r7_rr_3 r8_rr_3 r9_rr_3
  clear rr_3
  have Ro_3 := Lib.hid ro_3
  have r0_ro_3 := cell_of_row _ _ 0 _ _ _ ro_3
  have r1_ro_3 := cell_of_row _ _ 1 _ _ _ ro_3
  have r2_ro_3 := cell_of_row _ _ 2 _ _ _ ro_3
  have r3_ro_3 := cell_of_row _ _ 3 _ _ _ ro_3
  have r4_ro_3 := cell_of_row _ _ 4 _ _ _ ro_3
  have r5_ro_3 := cell_of_row _ _ 5 _ _ _ ro_3
  have r6_ro_3 := cell_of_row _ _ 6 _ _ _ ro_3
  have r7_ro_3 := cell_of_row _ _ 7 _ _ _ ro_3
  have r8_ro_3 := cell_of_row _ _ 8 _ _ _ ro_3
  have r9_ro_3 := cell_of_row _ _ 9 _ _ _ ro_3
  have f0_ro_3 := frozen_of_row _ _ 0 _ _ ro_3
  have f1_ro_3 := frozen_of_row _ _ 1 _ _ ro_3
  have f2_ro_3 := frozen_of_row _ _ 2 _ _ ro_3
  have f3_ro_3 := frozen_of_row _ _ 3 _ _ ro_3
  have f4_ro_3 := frozen_of_row _ _ 4 _ _ ro_3
  have f5_ro_3 := frozen_of_row _ _ 5 _ _ ro_3
  have f6_ro_3 := frozen_of_row _ _ 6 _ _ ro_3
  have f7_ro_3 := frozen_of_row _ _ 7 _ _ ro_3
  have f8_ro_3 := frozen_of_row _ _ 8 _ _ ro_3
  have f9_ro_3 := frozen_of_row _ _ 9 _ _ ro_3
  simp at r0_ro_3 r1_ro_3 r2_ro_3 r3_ro_3 r4_ro_3 r5_ro_3 r6_ro_3 r7_ro_3 r8_ro_3 r9_ro_3
  clear ro_3
  clear r0_rk_2 f0_rk_2 r1_rk_2 f1_rk_2 r2_rk_2 f2_rk_2 r3_rk_2 f3_rk_2 r4_rk_2 f4_rk_2 r5_rk_2 f5_rk_2 r6_rk_2 f6_rk_2 r7_rk_2 f7_rk_2 r8_rk_2 f8_rk_2 r9_rk_2 f9_rk_2
  clear r0_rm_2 f0_rm_2 r1_rm_2 f1_rm_2 r2_rm_2 f2_rm_2 r3_rm_2 f3_rm_2
  clear r0_rr_2 f0_rr_2 r1_rr_2 f1_rr_2 r2_rr_2 f2_rr_2 r3_rr_2 f3_rr_2 r4_rr_2 f4_rr_2 r5_rr_2 f5_rr_2 r6_rr_2 f6_rr_2 r7_rr_2 f7_rr_2 r8_rr_2 f8_rr_2 r9_rr_2 f9_rr_2
  clear r0_ro_2 f0_ro_2 r1_ro_2 f1_ro_2 r2_ro_2 f2_ro_2 r3_ro_2 f3_ro_2 r4_ro_2 f4_ro_2 r5_ro_2 f5_ro_2 r6_ro_2 f6_ro_2 r7_ro_2 f7_ro_2 r8_ro_2 f8_ro_2 r9_ro_2 f9_ro_2
  cases B2
  case false =>
    obtain rfl : R = x1 := HRR.out
    go_wp2_with fail
    apply bodyPost_ret (results_cell_row (P := Try.prog) (fn := Try.f41) rfl _ _ _ 29 _ (0, 0) _ rfl _ Try.underlying29 rfl _) rfl
    rotate_left 2
    · repeat (first | (with_reducible apply heap_setCell_same) | (with_reducible apply drew_row) | (with_reducible apply drewN_row) | (with_reducible exact Rr_3.out) | (with_reducible refine (heap_setCell_other _ _ _ _ (by first | omega | (simp; done) | (simp; omega))).trans ?_) | (with_reducible refine (Below.heap_alloc _ _ _ (by first | omega | (simp; done) | (simp; omega))).trans ?_))
    · kernel_rfl
    exact ⟨_, _, by simp, OwnE.mono (base := w.heap.size + 3) (by repeat (first | with_reducible exact Oo1_3.out | (with_reducible refine OwnE.setBelow ?_ (by first | (simp; done) | (simp; omega)) _) | with_reducible refine OwnE.alloc ?_ _ | with_reducible refine OwnE.drew ?_)) (by omega), OwnE.mono (base := w.heap.size + 3) (by repeat (first | with_reducible exact Oo2_3.out | (with_reducible refine OwnE.setBelow ?_ (by first | (simp; done) | (simp; omega)) _) | with_reducible refine OwnE.alloc ?_ _ | with_reducible refine OwnE.drew ?_)) (by omega), HAP.out, (by repeat (first | with_reducible exact Below.refl _ _ | with_reducible assumption | with_reducible refine Below.drew ?_ | with_reducible refine Below.alloc ?_ (by first | exact Nat.le_refl _ | omega | (simp; done) | (simp; omega)) _ | with_reducible refine Below.setCell ?_ (by first | exact Nat.le_refl _ | omega | (simp; done) | (simp; omega)) _ | (with_reducible refine ext_trans ?_ (by with_reducible assumption))))⟩
  by_cases hx : x1.ep = 4294967295
  case pos =>
    obtain rfl : R = x1 := HRR.out.trans (by simp [hx])
    go_wp2_with fail
    apply bodyPost_ret (results_cell_row (P := Try.prog) (fn := Try.f41) rfl _ _ _ 29 _ (0, 0) _ rfl _ Try.underlying29 rfl _) rfl
    rotate_left 2
    · repeat (first | (with_reducible apply heap_setCell_same) | (with_reducible apply drew_row) | (with_reducible apply drewN_row) | (with_reducible exact Rr_3.out) | (with_reducible refine (heap_setCell_other _ _ _ _ (by first | omega | (simp; done) | (simp; omega))).trans ?_) | (with_reducible refine (Below.heap_alloc _ _ _ (by first | omega | (simp; done) | (simp; omega))).trans ?_))
    · kernel_rfl
    exact ⟨_, _, by simp [hx], OwnE.mono (base := w.heap.size + 3) (by repeat (first | with_reducible exact Oo1_3.out | (with_reducible refine OwnE.setBelow ?_ (by first | (simp; done) | (simp; omega)) _) | with_reducible refine OwnE.alloc ?_ _ | with_reducible refine OwnE.drew ?_)) (by omega), OwnE.mono (base := w.heap.size + 3) (by repeat (first | with_reducible exact Oo2_3.out | (with_reducible refine OwnE.setBelow ?_ (by first | (simp; done) | (simp; omega)) _) | with_reducible refine OwnE.alloc ?_ _ | with_reducible refine OwnE.drew ?_)) (by omega), HAP.out, (by repeat (first | with_reducible exact Below.refl _ _ | with_reducible assumption | with_reducible refine Below.drew ?_ | with_reducible refine Below.alloc ?_ (by first | exact Nat.le_refl _ | omega | (simp; done) | (simp; omega)) _ | with_reducible refine Below.setCell ?_ (by first | exact Nat.le_refl _ | omega | (simp; done) | (simp; omega)) _ | (with_reducible refine ext_trans ?_ (by with_reducible assumption))))⟩
  obtain rfl : R = ⟨x1.ep + 1, x2, x1.now, true⟩ := HRR.out.trans (by simp [hx])
  go_wp2_with fail
  have HK0 := Lib.hid (gk_start (n := 10) Rr_3.out rfl)
  have hwr : IntKind.i64.wrap (x1.ep + 1) = x1.ep + 1 := IntWalk.i64_in _ ⟨by omega, by omega⟩
  have hne1 : ¬ w.heap.size = w.heap.size + 1 + 1 := by omega
  have hne2 : ¬ w.heap.size + 1 = w.heap.size + 1 + 1 := by omega
  have hne3 : ¬ w1.heap.size = w.heap.size + 1 + 1 := by omega
  first | go_region_held3 (fun w' => (∀ b' o, b' < w3.heap.size → ¬ b' = w.heap.size + 1 + 1 → w'.cell? ⟨b', o, none⟩ = w3.cell? ⟨b', o, none⟩) ∧ Stored w3 (w.heap.size + 1 + 1) 10 29 w') (first | with_reducible assumption | with_reducible exact HK0.out | ((repeat (with_reducible refine gk_set ?_ _ _)); with_reducible assumption)) (first | (go_at_call 65; ((with_reducible refine (l11Copy_any x2 _ P21.out _ (H21.out.below (hw3.trans (gk_below (by first | with_reducible assumption) (by omega) (by omega))))).mono ?_); (rintro e wA ⟨vA1, rfl, hOA1, hbA⟩; obtain ⟨AA1, cA1, rfl⟩ := hOA1.form; have hzA := hbA.size; have hXA := gk_low (by first | with_reducible assumption) hbA; have hBOA := Lib.hid hOA1; have hOA := Lib.hid (OwnE.mono (base' := w.heap.size + 3) hOA1 (by omega)); clear hOA1; have hSA := gk_call (by first | with_reducible assumption) hbA))) | (go_at_call 65; ((with_reducible refine (l11Copy_any x1.now _ P11.out _ (H11.out.below (hw3.trans (gk_below (by first | with_reducible assumption) (by omega) (by omega))))).mono ?_); (rintro e wB ⟨vB1, rfl, hOB1, hbB⟩; obtain ⟨AB1, cB1, rfl⟩ := hOB1.form; have hzB := hbB.size; have hXB := gk_low (by first | with_reducible assumption) hbB; have hBOB := Lib.hid hOB1; have hOB := Lib.hid (OwnE.mono (base' := w.heap.size + 3) hOB1 (by omega)); clear hOB1; have hSB := gk_call (by first | with_reducible assumption) hbB; obtain ⟨cs, hcs, hrow⟩ := hSB.2.row; obtain ⟨t0, t1, t2, t3, t4, t5, t6, t7, t8, t9, rfl⟩ := cells10 hcs; have r0_hrow := cell_of_row _ _ 0 _ _ _ hrow; have f0_hrow := frozen_of_row _ _ 0 _ _ hrow; have r1_hrow := cell_of_row _ _ 1 _ _ _ hrow; have f1_hrow := frozen_of_row _ _ 1 _ _ hrow; have r2_hrow := cell_of_row _ _ 2 _ _ _ hrow; have f2_hrow := frozen_of_row _ _ 2 _ _ hrow; have r3_hrow := cell_of_row _ _ 3 _ _ _ hrow; have f3_hrow := frozen_of_row _ _ 3 _ _ hrow; have r4_hrow := cell_of_row _ _ 4 _ _ _ hrow; have f4_hrow := frozen_of_row _ _ 4 _ _ hrow; have r5_hrow := cell_of_row _ _ 5 _ _ _ hrow; have f5_hrow := frozen_of_row _ _ 5 _ _ hrow; have r6_hrow := cell_of_row _ _ 6 _ _ _ hrow; have f6_hrow := frozen_of_row _ _ 6 _ _ hrow; have r7_hrow := cell_of_row _ _ 7 _ _ _ hrow; have f7_hrow := frozen_of_row _ _ 7 _ _ hrow; have r8_hrow := cell_of_row _ _ 8 _ _ _ hrow; have f8_hrow := frozen_of_row _ _ 8 _ _ hrow; have r9_hrow := cell_of_row _ _ 9 _ _ _ hrow; have f9_hrow := frozen_of_row _ _ 9 _ _ hrow; simp at r0_hrow r1_hrow r2_hrow r3_hrow r4_hrow r5_hrow r6_hrow r7_hrow r8_hrow r9_hrow; have HROW := Lib.hid hrow; clear hrow hcs)))) | fail
  have OD := Lib.hid (hOA.out.below hbB)
  have hap := Lib.hid (fun h h2 => own_ne hBOA.out hBOB.out (Nat.le_refl _) h h2)
  have hwz : Below w.heap.size w wB := hw3.trans (gk_below hSB (by omega) (by omega))
  have hzw := hwz.size
  go_wp2_with fail
  apply bodyPost_ret (results_cell_row (P := Try.prog) (fn := Try.f41) rfl _ _ _ 29 _ (0, 0) _ rfl _ Try.underlying29 rfl _) rfl
  rotate_left 2
  · repeat (first | (with_reducible apply heap_setCell_same) | (with_reducible apply drew_row) | (with_reducible apply drewN_row) | (with_reducible exact HROW.out) | (with_reducible refine (heap_setCell_other _ _ _ _ (by first | omega | (simp; done) | (simp; omega))).trans ?_) | (with_reducible refine (Below.heap_alloc _ _ _ (by first | omega | (simp; done) | (simp; omega))).trans ?_))
  · kernel_rfl
  exact ⟨_, _, by simp, OwnE.mono (base := w.heap.size + 3) (by repeat (first | with_reducible exact OD.out | (with_reducible refine OwnE.setBelow ?_ (by first | (simp; done) | (simp; omega)) _) | with_reducible refine OwnE.alloc ?_ _ | with_reducible refine OwnE.drew ?_)) (by omega), OwnE.mono (base := w.heap.size + 3) (by repeat (first | with_reducible exact hOB.out | (with_reducible refine OwnE.setBelow ?_ (by first | (simp; done) | (simp; omega)) _) | with_reducible refine OwnE.alloc ?_ _ | with_reducible refine OwnE.drew ?_)) (by omega), hap.out, (by repeat (first | with_reducible exact Below.refl _ _ | with_reducible assumption | with_reducible refine Below.drew ?_ | with_reducible refine Below.alloc ?_ (by first | exact Nat.le_refl _ | omega | (simp; done) | (simp; omega)) _ | with_reducible refine Below.setCell ?_ (by first | exact Nat.le_refl _ | omega | (simp; done) | (simp; omega)) _ | (with_reducible refine ext_trans ?_ (by with_reducible assumption))))⟩

end Go.Proofs.Ytjlnbjabehpncaa
