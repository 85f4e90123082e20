/-
  The law FnExactRotated returns true for every input. No condition.
-/
import Derived.Test.YtjlnbjabehpncaaRot
namespace Go.Proofs.Ytjlnbjabehpncaa
set_option maxRecDepth 100000
open Go.ChangeShapes Go.WideShapes Go.ChangeAt Go.RowKit

theorem rot_len {x : RKeys} {m : RMac} {n : Nat} (h1 : x.now.rs.length ≤ n) (h2 : x.bef.rs.length ≤ n) (h3 : m.rs.length ≤ n) : (x.rot m).now.rs.length ≤ n ∧ (x.rot m).bef.rs.length ≤ n := by
  unfold RKeys.rot
  split
  · exact ⟨h3, h1⟩
  · exact ⟨h1, h2⟩
set_option maxHeartbeats 4000000 in
theorem FnExactRotated_walk (x1 : RKeys) (v11 v12 : Value) (x2 : RMac) (v21 : Value)  (w : World) (h11 : RdMacRow w v11 x1.now.rs) (f11 : FitMacRow x1.now.rs) (n11 : x1.now.rs.length ≤ maxLen) (h12 : RdMacRow w v12 x1.bef.rs) (f12 : FitMacRow x1.bef.rs) (n12 : x1.bef.rs.length ≤ maxLen) (h21 : RdMacRow w v21 x2.rs) (f21 : FitMacRow x2.rs) (n21 : x2.rs.length ≤ maxLen) (g1 : x1.now.fits) (g2 : x1.bef.fits) (g3 : x2.fits) :
    Calls Try.prog 10 #[vK x1 v11 v12, vMc x2 v21] w fun e w' => e = .returned (.bool true) ∧ Below w.heap.size w w' := by
  have G11 := Lib.hid g1
  have G12 := Lib.hid g2
  have G21 := Lib.hid g3
  clear g1 g2 g3
  obtain ⟨A11, c11, rfl, -⟩ := id h11
  have H11 := Lib.hid h11
  have F11 := Lib.hid f11
  have N11 := Lib.hid n11
  clear h11 f11 n11
  obtain ⟨A12, c12, rfl, -⟩ := id h12
  have H12 := Lib.hid h12
  have F12 := Lib.hid f12
  have N12 := Lib.hid n12
  clear h12 f12 n12
  obtain ⟨A21, c21, rfl, -⟩ := id h21
  have H21 := Lib.hid h21
  have F21 := Lib.hid f21
  have N21 := Lib.hid n21
  clear h21 f21 n21
  obtain ⟨R, hR⟩ : ∃ R, x1.rot x2 = R := ⟨_, rfl⟩
  have hs := fun W v1 v2 v3 p1 p2 p3 h1 h2 h3 => sRotated_any x1 x2 v1 v2 v3 G11.out G12.out G21.out p1 p2 p3 W h1 h2 h3
  have hi := fun W v1 v2 v3 p1 p2 p3 h1 h2 h3 => Rotated_any x1 x2 v1 v2 v3 G11.out G12.out G21.out p1 p2 p3 W h1 h2 h3
  rw [hR] at hs hi
  have HS := Lib.hid hs
  have HI := Lib.hid hi
  have HR := Lib.hid hR
  have NR1 : Hid (R.now.rs.length ≤ maxLen) := (by rw [← hR]; exact (rot_len N11.out N12.out N21.out).1 : R.now.rs.length ≤ maxLen)
  have NR2 : Hid (R.bef.rs.length ≤ maxLen) := (by rw [← hR]; exact (rot_len N11.out N12.out N21.out).2 : R.bef.rs.length ≤ maxLen)
  clear hs hi hR
  go_enter Try.func10, Try.ntmps10
  go_wp2_with fail
  refine (szKeys_any x1 _ _ F11.out F12.out N11.out N12.out 1048576 (by omega) (by omega) _ (H11.out.below (by repeat (first | with_reducible exact Below.refl _ _ | with_reducible assumption | with_reducible refine Below.drew ?_ | with_reducible refine Below.alloc ?_ (by first | exact Nat.le_refl _ | omega | (simp; done) | (simp; omega)) _ | with_reducible refine Below.setCell ?_ (by first | exact Nat.le_refl _ | omega | (simp; done) | (simp; omega)) _ | (with_reducible refine ext_trans ?_ (by with_reducible assumption))))) (H12.out.below (by repeat (first | with_reducible exact Below.refl _ _ | with_reducible assumption | with_reducible refine Below.drew ?_ | with_reducible refine Below.alloc ?_ (by first | exact Nat.le_refl _ | omega | (simp; done) | (simp; omega)) _ | with_reducible refine Below.setCell ?_ (by first | exact Nat.le_refl _ | omega | (simp; done) | (simp; omega)) _ | (with_reducible refine ext_trans ?_ (by with_reducible assumption)))))).mono ?_
  rintro e w1 ⟨y1, rfl, ⟨hy1a, hy1b⟩, hs1, hb1⟩
  have hz1 := hb1.size
  (try simp at hz1)
  have ra1_1 : w1.heap[w.heap.size]? = some (.cells #[.int .i64 x1.ep, .bool x1.now.u, .int .u64 (uI x1.now.k), .int .u64 (uI x1.now.l), .slice A11 x1.now.rs.length c11, .bool x1.bef.u, .int .u64 (uI x1.bef.k), .int .u64 (uI x1.bef.l), .slice A12 x1.bef.rs.length c12, .bool x1.two] 55 (0, 0)) := (hb1.block _ (by first | (simp; done) | (simp; omega))).trans (by repeat (first | exact heap_new _ _ _ (by first | rfl | (simp; done) | (simp; omega)) | refine (Below.heap_alloc _ _ _ (by first | omega | (simp; done) | (simp; omega))).trans ?_))
  have ra2_1 : w1.heap[w.heap.size + 1]? = some (.cells #[.bool x2.u, .int .u64 (uI x2.k), .int .u64 (uI x2.l), .slice A21 x2.rs.length c21] 53 (0, 0)) := (hb1.block _ (by first | (simp; done) | (simp; omega))).trans (by repeat (first | exact heap_new _ _ _ (by first | rfl | (simp; done) | (simp; omega)) | refine (Below.heap_alloc _ _ _ (by first | omega | (simp; done) | (simp; omega))).trans ?_))
  have hw1 : Below w.heap.size w w1 := (by repeat (first | with_reducible exact Below.refl _ _ | with_reducible assumption | with_reducible refine Below.drew ?_ | with_reducible refine Below.alloc ?_ (by first | exact Nat.le_refl _ | omega | (simp; done) | (simp; omega)) _ | with_reducible refine Below.setCell ?_ (by first | exact Nat.le_refl _ | omega | (simp; done) | (simp; omega)) _ | (with_reducible refine ext_trans ?_ (by with_reducible assumption))))
  have lRa1_1 : w.heap.size < w1.heap.size := by omega
  have lRa2_1 : w.heap.size + 1 < w1.heap.size := by omega
  have Ra1_1 := Lib.hid ra1_1
  have r0_ra1_1 := cell_of_row _ _ 0 _ _ _ ra1_1
  have r1_ra1_1 := cell_of_row _ _ 1 _ _ _ ra1_1
  have r2_ra1_1 := cell_of_row _ _ 2 _ _ _ ra1_1
  have r3_ra1_1 := cell_of_row _ _ 3 _ _ _ ra1_1
  have r4_ra1_1 := cell_of_row _ _ 4 _ _ _ ra1_1
  have r5_ra1_1 := cell_of_row _ _ 5 _ _ _ ra1_1
  have r6_ra1_1 := cell_of_row _ _ 6 _ _ _ ra1_1
  have r7_ra1_1 := cell_of_row _ _ 7 _ _ _ ra1_1
  have r8_ra1_1 := cell_of_row _ _ 8 _ _ _ ra1_1
  have r9_ra1_1 := cell_of_row _ _ 9 _ _ _ ra1_1
  have f0_ra1_1 := frozen_of_row _ _ 0 _ _ ra1_1
  have f1_ra1_1 := frozen_of_row _ _ 1 _ _ ra1_1
  have f2_ra1_1 := frozen_of_row _ _ 2 _ _ ra1_1
  have f3_ra1_1 := frozen_of_row _ _ 3 _ _ ra1_1
  have f4_ra1_1 := frozen_of_row _ _ 4 _ _ ra1_1
  have f5_ra1_1 := frozen_of_row _ _ 5 _ _ ra1_1
  have f6_ra1_1 := frozen_of_row _ _ 6 _ _ ra1_1
  have f7_ra1_1 := frozen_of_row _ _ 7 _ _ ra1_1
  have f8_ra1_1 := frozen_of_row _ _ 8 _ _ ra1_1
  have f9_ra1_1 := frozen_of_row _ _ 9 _ _ ra1_1
  simp at r0_ra1_1 r1_ra1_1 r2_ra1_1 r3_ra1_1 r4_ra1_1 r5_ra1_1 r6_ra1_1 r7_ra1_1 r8_ra1_1 r9_ra1_1
  clear ra1_1
  have Ra2_1 := Lib.hid ra2_1
  have r0_ra2_1 := cell_of_row _ _ 0 _ _ _ ra2_1
  have r1_ra2_1 := cell_of_row _ _ 1 _ _ _ ra2_1
  have r2_ra2_1 := cell_of_row _ _ 2 _ _ _ ra2_1
  have r3_ra2_1 := cell_of_row _ _ 3 _ _ _ ra2_1
  have f0_ra2_1 := frozen_of_row _ _ 0 _ _ ra2_1
  have f1_ra2_1 := frozen_of_row _ _ 1 _ _ ra2_1
  have f2_ra2_1 := frozen_of_row _ _ 2 _ _ ra2_1
  have f3_ra2_1 := frozen_of_row _ _ 3 _ _ ra2_1
  simp at r0_ra2_1 r1_ra2_1 r2_ra2_1 r3_ra2_1
  clear ra2_1
  by_cases hx1 : y1 < 0
  · go_wp2_with fail
    go_ret
    exact ⟨rfl, (by repeat (first | with_reducible exact Below.refl _ _ | with_reducible assumption | with_reducible refine Below.drew ?_ | with_reducible refine Below.alloc ?_ (by first | exact Nat.le_refl _ | omega | (simp; done) | (simp; omega)) _ | with_reducible refine Below.setCell ?_ (by first | exact Nat.le_refl _ | omega | (simp; done) | (simp; omega)) _ | (with_reducible refine ext_trans ?_ (by with_reducible assumption))))⟩
  go_wp2_with fail
  refine (szMc_any x2 _ F21.out N21.out y1 (by omega) (by omega) _ (H21.out.below (by repeat (first | with_reducible exact Below.refl _ _ | with_reducible assumption | with_reducible refine Below.drew ?_ | with_reducible refine Below.alloc ?_ (by first | exact Nat.le_refl _ | omega | (simp; done) | (simp; omega)) _ | with_reducible refine Below.setCell ?_ (by first | exact Nat.le_refl _ | omega | (simp; done) | (simp; omega)) _ | (with_reducible refine ext_trans ?_ (by with_reducible assumption)))))).mono ?_
  rintro e w2 ⟨y2, rfl, ⟨hy2a, hy2b⟩, hs2, hb2⟩
  have hz2 := hb2.size
  (try simp at hz2)
  have ra1_2 := (hb2.block _ (by first | omega | (simp; done) | (simp; omega))).trans Ra1_1.out
  have ra2_2 := (hb2.block _ (by first | omega | (simp; done) | (simp; omega))).trans Ra2_1.out
  have hw2 : Below w.heap.size w w2 := (by repeat (first | with_reducible exact Below.refl _ _ | with_reducible assumption | with_reducible refine Below.drew ?_ | with_reducible refine Below.alloc ?_ (by first | exact Nat.le_refl _ | omega | (simp; done) | (simp; omega)) _ | with_reducible refine Below.setCell ?_ (by first | exact Nat.le_refl _ | omega | (simp; done) | (simp; omega)) _ | (with_reducible refine ext_trans ?_ (by with_reducible assumption))))
  have lRa1_2 : w.heap.size < w2.heap.size := by omega
  have lRa2_2 : w.heap.size + 1 < w2.heap.size := by omega
  have Ra1_2 := Lib.hid ra1_2
  have r0_ra1_2 := cell_of_row _ _ 0 _ _ _ ra1_2
  have r1_ra1_2 := cell_of_row _ _ 1 _ _ _ ra1_2
  have r2_ra1_2 := cell_of_row _ _ 2 _ _ _ ra1_2
  have r3_ra1_2 := cell_of_row _ _ 3 _ _ _ ra1_2
  have r4_ra1_2 := cell_of_row _ _ 4 _ _ _ ra1_2
  have r5_ra1_2 := cell_of_row _ _ 5 _ _ _ ra1_2
  have r6_ra1_2 := cell_of_row _ _ 6 _ _ _ ra1_2
  have r7_ra1_2 := cell_of_row _ _ 7 _ _ _ ra1_2
  have r8_ra1_2 := cell_of_row _ _ 8 _ _ _ ra1_2
  have r9_ra1_2 := cell_of_row _ _ 9 _ _ _ ra1_2
  have f0_ra1_2 := frozen_of_row _ _ 0 _ _ ra1_2
  have f1_ra1_2 := frozen_of_row _ _ 1 _ _ ra1_2
  have f2_ra1_2 := frozen_of_row _ _ 2 _ _ ra1_2
  have f3_ra1_2 := frozen_of_row _ _ 3 _ _ ra1_2
  have f4_ra1_2 := frozen_of_row _ _ 4 _ _ ra1_2
  have f5_ra1_2 := frozen_of_row _ _ 5 _ _ ra1_2
  have f6_ra1_2 := frozen_of_row _ _ 6 _ _ ra1_2
  have f7_ra1_2 := frozen_of_row _ _ 7 _ _ ra1_2
  have f8_ra1_2 := frozen_of_row _ _ 8 _ _ ra1_2
  have f9_ra1_2 := frozen_of_row _ _ 9 _ _ ra1_2
  simp at r0_ra1_2 r1_ra1_2 r2_ra1_2 r3_ra1_2 r4_ra1_2 r5_ra1_2 r6_ra1_2 r7_ra1_2 r8_ra1_2 r9_ra1_2
  clear ra1_2
  have Ra2_2 := Lib.hid ra2_2
  have r0_ra2_2 := cell_of_row _ _ 0 _ _ _ ra2_2
  have r1_ra2_2 := cell_of_row _ _ 1 _ _ _ ra2_2
  have r2_ra2_2 := cell_of_row _ _ 2 _ _ _ ra2_2
  have r3_ra2_2 := cell_of_row _ _ 3 _ _ _ ra2_2
  have f0_ra2_2 := frozen_of_row _ _ 0 _ _ ra2_2
  have f1_ra2_2 := frozen_of_row _ _ 1 _ _ ra2_2
  have f2_ra2_2 := frozen_of_row _ _ 2 _ _ ra2_2
  have f3_ra2_2 := frozen_of_row _ _ 3 _ _ ra2_2
  simp at r0_ra2_2 r1_ra2_2 r2_ra2_2 r3_ra2_2
  clear ra2_2
  clear r0_ra1_1 f0_ra1_1 r1_ra1_1 f1_ra1_1 r2_ra1_1 f2_ra1_1 r3_ra1_1 f3_ra1_1 r4_ra1_1 f4_ra1_1 r5_ra1_1 f5_ra1_1 r6_ra1_1 f6_ra1_1 r7_ra1_1 f7_ra1_1 r8_ra1_1 f8_ra1_1 r9_ra1_1 f9_ra1_1
  clear r0_ra2_1 f0_ra2_1 r1_ra2_1 f1_ra2_1 r2_ra2_1 f2_ra2_1 r3_ra2_1 f3_ra2_1
  by_cases hx2 : y2 < 0
  · go_wp2_with fail
    go_ret
    exact ⟨rfl, (by repeat (first | with_reducible exact Below.refl _ _ | with_reducible assumption | with_reducible refine Below.drew ?_ | with_reducible refine Below.alloc ?_ (by first | exact Nat.le_refl _ | omega | (simp; done) | (simp; omega)) _ | with_reducible refine Below.setCell ?_ (by first | exact Nat.le_refl _ | omega | (simp; done) | (simp; omega)) _ | (with_reducible refine ext_trans ?_ (by with_reducible assumption))))⟩
  have M11 : Hid (x1.now.rs.length ≤ 1048576) := (by have := hs1.out (by omega); omega : x1.now.rs.length ≤ 1048576)
  have P11 : Hid (x1.now.rs.length ≤ 1048600) := (by have := hs1.out (by omega); omega : x1.now.rs.length ≤ 1048600)
  have M12 : Hid (x1.bef.rs.length ≤ 1048576) := (by have := hs1.out (by omega); omega : x1.bef.rs.length ≤ 1048576)
  have P12 : Hid (x1.bef.rs.length ≤ 1048600) := (by have := hs1.out (by omega); omega : x1.bef.rs.length ≤ 1048600)
  have M21 : Hid (x2.rs.length ≤ 1048576) := (by have := hs2.out (by omega); omega : x2.rs.length ≤ 1048576)
  have P21 : Hid (x2.rs.length ≤ 1048600) := (by have := hs2.out (by omega); omega : x2.rs.length ≤ 1048600)
  have MR1 : Hid (R.now.rs.length ≤ 1048576) := (by rw [← HR.out]; exact (rot_len M11.out M12.out M21.out).1 : R.now.rs.length ≤ 1048576)
  have MR2 : Hid (R.bef.rs.length ≤ 1048576) := (by rw [← HR.out]; exact (rot_len M11.out M12.out M21.out).2 : R.bef.rs.length ≤ 1048576)
  clear HR
  go_wp2_with fail
  go_cut [6] (fun z wx => ∃ b3 D31 d31 D32 d32, z = .pointer (some ⟨b3, 0, none⟩) ∧ Hid (wx.heap[b3]? = some (.cells #[.int .i64 R.ep, .bool R.now.u, .int .u64 (uI R.now.k), .int .u64 (uI R.now.l), .slice D31 R.now.rs.length d31, .bool R.bef.u, .int .u64 (uI R.bef.k), .int .u64 (uI R.bef.l), .slice D32 R.bef.rs.length d32, .bool R.two] 29 (0, 0))) ∧ (w2.heap.size ≤ b3) ∧ Hid (OwnMacRow wx w2.heap.size (.slice D31 R.now.rs.length d31) R.now.rs) ∧ Hid (OwnMacRow wx w2.heap.size (.slice D32 R.bef.rs.length d32) R.bef.rs) ∧ Hid (R.now.rs ≠ [] → R.bef.rs ≠ [] → (Value.slice D31 R.now.rs.length d31).ownBlock ≠ (Value.slice D32 R.bef.rs.length d32).ownBlock) ∧ Below w2.heap.size w2 wx)
  case first =>
    first | go_region_held3 (fun w' => (∀ b' o, b' < (w2).heap.size → w'.cell? ⟨b', o, none⟩ = (w2).cell? ⟨b', o, none⟩) ∧ Below (w2).heap.size (w2) w') (first | with_reducible assumption | (with_reducible apply rg_keep; rotate_left; with_reducible assumption; with_reducible assumption) | with_reducible exact rg_start _ | with_reducible exact rg_alloc (KeptS.out (by with_reducible assumption)) _ | with_reducible exact rg_alloc (by with_reducible assumption) _ | with_reducible exact rg_start_alloc _ _ | ((repeat (with_reducible refine rg_set ?_ _ (by first | exact Nat.le_refl _ | omega | (simp; done) | (simp; omega)) _)); first | with_reducible exact KeptS.out (by with_reducible assumption) | with_reducible assumption | with_reducible exact rg_alloc (KeptS.out (by with_reducible assumption)) _)) (first | (go_at_call 31; ((with_reducible refine (toKeys_any x1 _ _ M11.out M12.out _ (H11.out.below (ext_trans hw2 (rgBMacRow (by first | with_reducible assumption | exact KeptS.out (by with_reducible assumption))))) (H12.out.below (ext_trans hw2 (rgBMacRow (by first | with_reducible assumption | exact KeptS.out (by with_reducible assumption)))))).mono ?_); (rintro e wA ⟨vA1, vA2, rfl, hOA1, hOA2, hapA, hbA⟩; obtain ⟨AA1, cA1, rfl⟩ := hOA1.form; obtain ⟨AA2, cA2, rfl⟩ := hOA2.form; have hSA := rg_keepK (by first | with_reducible assumption | exact KeptS.out (by with_reducible assumption)) hbA; have hLA := hSA.size; have HOA1 := Lib.hid hOA1; clear hOA1; have HOA2 := Lib.hid hOA2; clear hOA2; (try have hZ := row_after hbA); (try have hZ := row_after_drew hbA); (try have hZ := row_kept (by assumption) hbA); (try (have rz := row_facts10 hZ; obtain ⟨rz0, rz1, rz2, rz3, rz4, rz5, rz6, rz7, rz8, rz9, fz⟩ := rz)); have hzhbA := hbA.size; (try simp at hzhbA)))) | (go_at_call 39; ((with_reducible refine (toMc_any x2 _ M21.out _ (H21.out.below (ext_trans hw2 (rgBMacRow (by first | with_reducible assumption | exact KeptS.out (by with_reducible assumption)))))).mono ?_); (rintro e wB ⟨vB1, rfl, hOB1, hbB⟩; obtain ⟨AB1, cB1, rfl⟩ := hOB1.form; have hSB := rg_keepK (by first | with_reducible assumption | exact KeptS.out (by with_reducible assumption)) hbB; have hLB := hSB.size; have HOB1 := Lib.hid hOB1; clear hOB1; have HPA1 := Lib.hid (HOA1.out.below (w' := wB) (by repeat (first | with_reducible exact Below.refl _ _ | with_reducible assumption | with_reducible refine Below.drew ?_ | with_reducible refine Below.alloc ?_ (by first | exact Nat.le_refl _ | omega | (simp; done) | (simp; omega)) _ | with_reducible refine Below.setCell ?_ (by first | exact Nat.le_refl _ | omega | (simp; done) | (simp; omega)) _ | (with_reducible refine ext_trans ?_ (by with_reducible assumption))))); have HPA2 := Lib.hid (HOA2.out.below (w' := wB) (by repeat (first | with_reducible exact Below.refl _ _ | with_reducible assumption | with_reducible refine Below.drew ?_ | with_reducible refine Below.alloc ?_ (by first | exact Nat.le_refl _ | omega | (simp; done) | (simp; omega)) _ | with_reducible refine Below.setCell ?_ (by first | exact Nat.le_refl _ | omega | (simp; done) | (simp; omega)) _ | (with_reducible refine ext_trans ?_ (by with_reducible assumption))))); (try have hZ := row_after hbB); (try have hZ := row_after_drew hbB); (try have hZ := row_kept (by assumption) hbB); (try (have rz := row_facts10 hZ; obtain ⟨rz0, rz1, rz2, rz3, rz4, rz5, rz6, rz7, rz8, rz9, fz⟩ := rz)); have hzhbB := hbB.size; (try simp at hzhbB)))) | (go_at_call 41; ((with_reducible refine (HS.out _ _ _ _ P11.out P12.out P21.out (HPA1.out.below (by repeat (first | with_reducible exact Below.refl _ _ | with_reducible assumption | with_reducible refine Below.drew ?_ | with_reducible refine Below.alloc ?_ (by first | exact Nat.le_refl _ | omega | (simp; done) | (simp; omega)) _ | with_reducible refine Below.setCell ?_ (by first | exact Nat.le_refl _ | omega | (simp; done) | (simp; omega)) _ | (with_reducible refine ext_trans ?_ (by with_reducible assumption))))).rd (HPA2.out.below (by repeat (first | with_reducible exact Below.refl _ _ | with_reducible assumption | with_reducible refine Below.drew ?_ | with_reducible refine Below.alloc ?_ (by first | exact Nat.le_refl _ | omega | (simp; done) | (simp; omega)) _ | with_reducible refine Below.setCell ?_ (by first | exact Nat.le_refl _ | omega | (simp; done) | (simp; omega)) _ | (with_reducible refine ext_trans ?_ (by with_reducible assumption))))).rd (HOB1.out.below (by repeat (first | with_reducible exact Below.refl _ _ | with_reducible assumption | with_reducible refine Below.drew ?_ | with_reducible refine Below.alloc ?_ (by first | exact Nat.le_refl _ | omega | (simp; done) | (simp; omega)) _ | with_reducible refine Below.setCell ?_ (by first | exact Nat.le_refl _ | omega | (simp; done) | (simp; omega)) _ | (with_reducible refine ext_trans ?_ (by with_reducible assumption))))).rd).mono ?_); (rintro e wC ⟨vC1, vC2, rfl, hOC1, hOC2, hapC, hbC⟩; obtain ⟨DC1, dC1, rfl⟩ := hOC1.form; obtain ⟨DC2, dC2, rfl⟩ := hOC2.form; have hSC := rg_keepK (by first | with_reducible assumption | exact KeptS.out (by with_reducible assumption)) hbC; have hLC := hSC.size; have hatC1 := OwnE.blk hOC1; have hatC2 := OwnE.blk hOC2; have HOC1 := Lib.hid (OwnE.mono (base' := w2.heap.size) hOC1 (by first | omega | (simp; omega))); have HOC2 := Lib.hid (OwnE.mono (base' := w2.heap.size) hOC2 (by first | omega | (simp; omega))); clear hOC1 hOC2; (try have hZ := row_after hbC); (try have hZ := row_after_drew hbC); (try have hZ := row_kept (by assumption) hbC); (try (have rz := row_facts10 hZ; obtain ⟨rz0, rz1, rz2, rz3, rz4, rz5, rz6, rz7, rz8, rz9, fz⟩ := rz)); have hzhbC := hbC.size; (try simp at hzhbC))))) | fail
    all_goals
      go_wp2_with fail
      go_meet
      refine ⟨_, _, _, _, _, rfl, Lib.hid ?_, ?_, Lib.hid ?_, Lib.hid ?_, Lib.hid hapC, ?_⟩
      · first | (with_reducible apply heap_new; rfl) | (with_reducible apply stored10; with_reducible assumption)
      · first | exact Nat.le_refl _ | omega
      · exact (by repeat (first | with_reducible exact HOC1.out | (with_reducible refine OwnE.setOther ?_ (fun h e => by obtain ⟨p, r⟩ := hatC1 _ h e; first | omega | (simp at p; done) | (simp at p; omega) | (simp at p r; omega)) _) | with_reducible refine OwnE.alloc ?_ _))
      · exact (by repeat (first | with_reducible exact HOC2.out | (with_reducible refine OwnE.setOther ?_ (fun h e => by obtain ⟨p, r⟩ := hatC2 _ h e; first | omega | (simp at p; done) | (simp at p; omega) | (simp at p r; omega)) _) | with_reducible refine OwnE.alloc ?_ _))
      · have hww : Below w2.heap.size w2 wC := (KeptS.out (by with_reducible assumption)).2
        have hsz := hww.size
        exact (by repeat (first | with_reducible exact Below.refl _ _ | with_reducible assumption | with_reducible refine Below.drew ?_ | with_reducible refine Below.alloc ?_ (by first | exact Nat.le_refl _ | omega | (simp; done) | (simp; omega)) _ | with_reducible refine Below.setCell ?_ (by first | exact Nat.le_refl _ | omega | (simp; done) | (simp; omega)) _ | (with_reducible refine ext_trans ?_ (by with_reducible assumption))))
  case rest =>
  obtain ⟨b3, D31, d31, D32, d32, rfl, hrow3, hbge3, hO31, hO32, hap3, hb3⟩ := hcut
  rename World => w3
  have rb_3 := hrow3.out
  have lb3 := (Array.getElem?_eq_some_iff.1 rb_3).1
  have Ob1_3 := hO31
  have Bb1 := hO31
  have Ob2_3 := hO32
  have Bb2 := hO32
  have hz3 := hb3.size
  (try simp at hz3)
  have ra1_3 := (hb3.block _ (by first | omega | (simp; done) | (simp; omega))).trans Ra1_2.out
  have ra2_3 := (hb3.block _ (by first | omega | (simp; done) | (simp; omega))).trans Ra2_2.out
  have hw3 : Below w.heap.size w w3 := (by repeat (first | with_reducible exact Below.refl _ _ | with_reducible assumption | with_reducible refine Below.drew ?_ | with_reducible refine Below.alloc ?_ (by first | exact Nat.le_refl _ | omega | (simp; done) | (simp; omega)) _ | with_reducible refine Below.setCell ?_ (by first | exact Nat.le_refl _ | omega | (simp; done) | (simp; omega)) _ | (with_reducible refine ext_trans ?_ (by with_reducible assumption))))
  have lRa1_3 : w.heap.size < w3.heap.size := by omega
  have lRa2_3 : w.heap.size + 1 < w3.heap.size := by omega
  have lRb_3 : b3 < w3.heap.size := by omega
  have Ra1_3 := Lib.hid ra1_3
  have r0_ra1_3 := cell_of_row _ _ 0 _ _ _ ra1_3
  have r1_ra1_3 := cell_of_row _ _ 1 _ _ _ ra1_3
  have r2_ra1_3 := cell_of_row _ _ 2 _ _ _ ra1_3
  have r3_ra1_3 := cell_of_row _ _ 3 _ _ _ ra1_3
  have r4_ra1_3 := cell_of_row _ _ 4 _ _ _ ra1_3
  have r5_ra1_3 := cell_of_row _ _ 5 _ _ _ ra1_3
  have r6_ra1_3 := cell_of_row _ _ 6 _ _ _ ra1_3
  have r7_ra1_3 := cell_of_row _ _ 7 _ _ _ ra1_3
  have r8_ra1_3 := cell_of_row _ _ 8 _ _ _ ra1_3
  have r9_ra1_3 := cell_of_row _ _ 9 _ _ _ ra1_3
  have f0_ra1_3 := frozen_of_row _ _ 0 _ _ ra1_3
  have f1_ra1_3 := frozen_of_row _ _ 1 _ _ ra1_3
  have f2_ra1_3 := frozen_of_row _ _ 2 _ _ ra1_3
  have f3_ra1_3 := frozen_of_row _ _ 3 _ _ ra1_3
  have f4_ra1_3 := frozen_of_row _ _ 4 _ _ ra1_3
  have f5_ra1_3 := frozen_of_row _ _ 5 _ _ ra1_3
  have f6_ra1_3 := frozen_of_row _ _ 6 _ _ ra1_3
  have f7_ra1_3 := frozen_of_row _ _ 7 _ _ ra1_3
  have f8_ra1_3 := frozen_of_row _ _ 8 _ _ ra1_3
  have f9_ra1_3 := frozen_of_row _ _ 9 _ _ ra1_3
  simp at r0_ra1_3 r1_ra1_3 r2_ra1_3 r3_ra1_3 r4_ra1_3 r5_ra1_3 r6_ra1_3 r7_ra1_3 r8_ra1_3 r9_ra1_3
  clear ra1_3
  have Ra2_3 := Lib.hid ra2_3
  have r0_ra2_3 := cell_of_row _ _ 0 _ _ _ ra2_3
  have r1_ra2_3 := cell_of_row _ _ 1 _ _ _ ra2_3
  have r2_ra2_3 := cell_of_row _ _ 2 _ _ _ ra2_3
  have r3_ra2_3 := cell_of_row _ _ 3 _ _ _ ra2_3
  have f0_ra2_3 := frozen_of_row _ _ 0 _ _ ra2_3
  have f1_ra2_3 := frozen_of_row _ _ 1 _ _ ra2_3
  have f2_ra2_3 := frozen_of_row _ _ 2 _ _ ra2_3
  have f3_ra2_3 := frozen_of_row _ _ 3 _ _ ra2_3
  simp at r0_ra2_3 r1_ra2_3 r2_ra2_3 r3_ra2_3
  clear ra2_3
  have Rb_3 := Lib.hid rb_3
  have r0_rb_3 := cell_of_row _ _ 0 _ _ _ rb_3
  have r1_rb_3 := cell_of_row _ _ 1 _ _ _ rb_3
  have r2_rb_3 := cell_of_row _ _ 2 _ _ _ rb_3
  have r3_rb_3 := cell_of_row _ _ 3 _ _ _ rb_3
  have r4_rb_3 := cell_of_row _ _ 4 _ _ _ rb_3
  have r5_rb_3 := cell_of_row _ _ 5 _ _ _ rb_3
  have r6_rb_3 := cell_of_row _ _ 6 _ _ _ rb_3
  have r7_rb_3 := cell_of_row _ _ 7 _ _ _ rb_3
  have r8_rb_3 := cell_of_row _ _ 8 _ _ _ rb_3
  have r9_rb_3 := cell_of_row _ _ 9 _ _ _ rb_3
  have f0_rb_3 := frozen_of_row _ _ 0 _ _ rb_3
  have f1_rb_3 := frozen_of_row _ _ 1 _ _ rb_3
  have f2_rb_3 := frozen_of_row _ _ 2 _ _ rb_3
  have f3_rb_3 := frozen_of_row _ _ 3 _ _ rb_3
  have f4_rb_3 := frozen_of_row _ _ 4 _ _ rb_3
  have f5_rb_3 := frozen_of_row _ _ 5 _ _ rb_3
  have f6_rb_3 := frozen_of_row _ _ 6 _ _ rb_3
  have f7_rb_3 := frozen_of_row _ _ 7 _ _ rb_3
  have f8_rb_3 := frozen_of_row _ _ 8 _ _ rb_3
  have f9_rb_3 := frozen_of_row _ _ 9 _ _ rb_3
  simp at r0_rb_3 r1_rb_3 r2_rb_3 r3_rb_3 r4_rb_3 r5_rb_3 r6_rb_3 r7_rb_3 r8_rb_3 r9_rb_3
  clear rb_3
  clear r0_ra1_2 f0_ra1_2 r1_ra1_2 f1_ra1_2 r2_ra1_2 f2_ra1_2 r3_ra1_2 f3_ra1_2 r4_ra1_2 f4_ra1_2 r5_ra1_2 f5_ra1_2 r6_ra1_2 f6_ra1_2 r7_ra1_2 f7_ra1_2 r8_ra1_2 f8_ra1_2 r9_ra1_2 f9_ra1_2
  clear r0_ra2_2 f0_ra2_2 r1_ra2_2 f1_ra2_2 r2_ra2_2 f2_ra2_2 r3_ra2_2 f3_ra2_2
  have hap3 := hap3.out
  go_wp2_with fail
  refine (toKeys_any x1 _ _ M11.out M12.out _ (H11.out.below (by repeat (first | with_reducible exact Below.refl _ _ | with_reducible assumption | with_reducible refine Below.drew ?_ | with_reducible refine Below.alloc ?_ (by first | exact Nat.le_refl _ | omega | (simp; done) | (simp; omega)) _ | with_reducible refine Below.setCell ?_ (by first | exact Nat.le_refl _ | omega | (simp; done) | (simp; omega)) _ | (with_reducible refine ext_trans ?_ (by with_reducible assumption))))) (H12.out.below (by repeat (first | with_reducible exact Below.refl _ _ | with_reducible assumption | with_reducible refine Below.drew ?_ | with_reducible refine Below.alloc ?_ (by first | exact Nat.le_refl _ | omega | (simp; done) | (simp; omega)) _ | with_reducible refine Below.setCell ?_ (by first | exact Nat.le_refl _ | omega | (simp; done) | (simp; omega)) _ | (with_reducible refine ext_trans ?_ (by with_reducible assumption)))))).mono ?_
  rintro e w4 ⟨u41, u42, rfl, hO41, hO42, hap4, hb4⟩
  obtain ⟨A41, c41, rfl⟩ := hO41.form
  obtain ⟨A42, c42, rfl⟩ := hO42.form
  have Op1_4 := Lib.hid (OwnE.mono (base' := w3.heap.size) hO41 (by first | exact Nat.le_refl _ | (simp; done)))
  have Bp1 := Op1_4
  have Op2_4 := Lib.hid (OwnE.mono (base' := w3.heap.size) hO42 (by first | exact Nat.le_refl _ | (simp; done)))
  have Bp2 := Op2_4
  have hz4 := hb4.size
  (try simp at hz4)
  have ra1_4 := (hb4.block _ (by first | omega | (simp; done) | (simp; omega))).trans Ra1_3.out
  have ra2_4 := (hb4.block _ (by first | omega | (simp; done) | (simp; omega))).trans Ra2_3.out
  have rb_4 := (hb4.block _ (by first | omega | (simp; done) | (simp; omega))).trans Rb_3.out
  have Ob1_4 := Lib.hid (Ob1_3.out.below (w' := w4) (by repeat (first | with_reducible exact Below.refl _ _ | with_reducible assumption | with_reducible refine Below.drew ?_ | with_reducible refine Below.alloc ?_ (by first | exact Nat.le_refl _ | omega | (simp; done) | (simp; omega)) _ | with_reducible refine Below.setCell ?_ (by first | exact Nat.le_refl _ | omega | (simp; done) | (simp; omega)) _ | (with_reducible refine ext_trans ?_ (by with_reducible assumption)))))
  have Ob2_4 := Lib.hid (Ob2_3.out.below (w' := w4) (by repeat (first | with_reducible exact Below.refl _ _ | with_reducible assumption | with_reducible refine Below.drew ?_ | with_reducible refine Below.alloc ?_ (by first | exact Nat.le_refl _ | omega | (simp; done) | (simp; omega)) _ | with_reducible refine Below.setCell ?_ (by first | exact Nat.le_refl _ | omega | (simp; done) | (simp; omega)) _ | (with_reducible refine ext_trans ?_ (by with_reducible assumption)))))
  have hw4 : Below w.heap.size w w4 := (by repeat (first | with_reducible exact Below.refl _ _ | with_reducible assumption | with_reducible refine Below.drew ?_ | with_reducible refine Below.alloc ?_ (by first | exact Nat.le_refl _ | omega | (simp; done) | (simp; omega)) _ | with_reducible refine Below.setCell ?_ (by first | exact Nat.le_refl _ | omega | (simp; done) | (simp; omega)) _ | (with_reducible refine ext_trans ?_ (by with_reducible assumption))))
  have lRa1_4 : w.heap.size < w4.heap.size := by omega
  have lRa2_4 : w.heap.size + 1 < w4.heap.size := by omega
  have lRb_4 : b3 < w4.heap.size := by omega
  have Ra1_4 := Lib.hid ra1_4
  have r0_ra1_4 := cell_of_row _ _ 0 _ _ _ ra1_4
  have r1_ra1_4 := cell_of_row _ _ 1 _ _ _ ra1_4
  have r2_ra1_4 := cell_of_row _ _ 2 _ _ _ ra1_4
  have r3_ra1_4 := cell_of_row _ _ 3 _ _ _ ra1_4
  have r4_ra1_4 := cell_of_row _ _ 4 _ _ _ ra1_4
  have r5_ra1_4 := cell_of_row _ _ 5 _ _ _ ra1_4
  have r6_ra1_4 := cell_of_row _ _ 6 _ _ _ ra1_4
  have r7_ra1_4 := cell_of_row _ _ 7 _ _ _ ra1_4
  have r8_ra1_4 := cell_of_row _ _ 8 _ _ _ ra1_4
  have r9_ra1_4 := cell_of_row _ _ 9 _ _ _ ra1_4
  have f0_ra1_4 := frozen_of_row _ _ 0 _ _ ra1_4
  have f1_ra1_4 := frozen_of_row _ _ 1 _ _ ra1_4
  have f2_ra1_4 := frozen_of_row _ _ 2 _ _ ra1_4
  have f3_ra1_4 := frozen_of_row _ _ 3 _ _ ra1_4
  have f4_ra1_4 := frozen_of_row _ _ 4 _ _ ra1_4
  have f5_ra1_4 := frozen_of_row _ _ 5 _ _ ra1_4
  have f6_ra1_4 := frozen_of_row _ _ 6 _ _ ra1_4
  have f7_ra1_4 := frozen_of_row _ _ 7 _ _ ra1_4
  have f8_ra1_4 := frozen_of_row _ _ 8 _ _ ra1_4
  have f9_ra1_4 := frozen_of_row _ _ 9 _ _ ra1_4
  simp at r0_ra1_4 r1_ra1_4 r2_ra1_4 r3_ra1_4 r4_ra1_4 r5_ra1_4 r6_ra1_4 r7_ra1_4 r8_ra1_4 r9_ra1_4
  clear ra1_4
  have Ra2_4 := Lib.hid ra2_4
  have r0_ra2_4 := cell_of_row _ _ 0 _ _ _ ra2_4
  have r1_ra2_4 := cell_of_row _ _ 1 _ _ _ ra2_4
  have r2_ra2_4 := cell_of_row _ _ 2 _ _ _ ra2_4
  have r3_ra2_4 := cell_of_row _ _ 3 _ _ _ ra2_4
  have f0_ra2_4 := frozen_of_row _ _ 0 _ _ ra2_4
  have f1_ra2_4 := frozen_of_row _ _ 1 _ _ ra2_4
  have f2_ra2_4 := frozen_of_row _ _ 2 _ _ ra2_4
  have f3_ra2_4 := frozen_of_row _ _ 3 _ _ ra2_4
  simp at r0_ra2_4 r1_ra2_4 r2_ra2_4 r3_ra2_4
  clear ra2_4
  have Rb_4 := Lib.hid rb_4
  have r0_rb_4 := cell_of_row _ _ 0 _ _ _ rb_4
  have r1_rb_4 := cell_of_row _ _ 1 _ _ _ rb_4
  have r2_rb_4 := cell_of_row _ _ 2 _ _ _ rb_4
  have r3_rb_4 := cell_of_row _ _ 3 _ _ _ rb_4
  have r4_rb_4 := cell_of_row _ _ 4 _ _ _ rb_4
  have r5_rb_4 := cell_of_row _ _ 5 _ _ _ rb_4
  have r6_rb_4 := cell_of_row _ _ 6 _ _ _ rb_4
  have r7_rb_4 := cell_of_row _ _ 7 _ _ _ rb_4
  have r8_rb_4 := cell_of_row _ _ 8 _ _ _ rb_4
  have r9_rb_4 := cell_of_row _ _ 9 _ _ _ rb_4
  have f0_rb_4 := frozen_of_row _ _ 0 _ _ rb_4
  have f1_rb_4 := frozen_of_row _ _ 1 _ _ rb_4
  have f2_rb_4 := frozen_of_row _ _ 2 _ _ rb_4
  have f3_rb_4 := frozen_of_row _ _ 3 _ _ rb_4
  have f4_rb_4 := frozen_of_row _ _ 4 _ _ rb_4
  have f5_rb_4 := frozen_of_row _ _ 5 _ _ rb_4
  have f6_rb_4 := frozen_of_row _ _ 6 _ _ rb_4
  have f7_rb_4 := frozen_of_row _ _ 7 _ _ rb_4
  have f8_rb_4 := frozen_of_row _ _ 8 _ _ rb_4
  have f9_rb_4 := frozen_of_row _ _ 9 _ _ rb_4
  simp at r0_rb_4 r1_rb_4 r2_rb_4 r3_rb_4 r4_rb_4 r5_rb_4 r6_rb_4 r7_rb_4 r8_rb_4 r9_rb_4
  clear rb_4
  clear r0_ra1_3 f0_ra1_3 r1_ra1_3 f1_ra1_3 r2_ra1_3 f2_ra1_3 r3_ra1_3 f3_ra1_3 r4_ra1_3 f4_ra1_3 r5_ra1_3 f5_ra1_3 r6_ra1_3 f6_ra1_3 r7_ra1_3 f7_ra1_3 r8_ra1_3 f8_ra1_3 r9_ra1_3 f9_ra1_3
  clear r0_ra2_3 f0_ra2_3 r1_ra2_3 f1_ra2_3 r2_ra2_3 f2_ra2_3 r3_ra2_3 f3_ra2_3
  clear r0_rb_3 f0_rb_3 r1_rb_3 f1_rb_3 r2_rb_3 f2_rb_3 r3_rb_3 f3_rb_3 r4_rb_3 f4_rb_3 r5_rb_3 f5_rb_3 r6_rb_3 f6_rb_3 r7_rb_3 f7_rb_3 r8_rb_3 f8_rb_3 r9_rb_3 f9_rb_3
  go_wp2_with fail
  refine (toMc_any x2 _ M21.out _ (H21.out.below (by repeat (first | with_reducible exact Below.refl _ _ | with_reducible assumption | with_reducible refine Below.drew ?_ | with_reducible refine Below.alloc ?_ (by first | exact Nat.le_refl _ | omega | (simp; done) | (simp; omega)) _ | with_reducible refine Below.setCell ?_ (by first | exact Nat.le_refl _ | omega | (simp; done) | (simp; omega)) _ | (with_reducible refine ext_trans ?_ (by with_reducible assumption)))))).mono ?_
  rintro e w5 ⟨u51, rfl, hO51, hb5⟩
  obtain ⟨A51, c51, rfl⟩ := hO51.form
  have Oq1_5 := Lib.hid (OwnE.mono (base' := w4.heap.size + 1) hO51 (by first | exact Nat.le_refl _ | (simp; done)))
  have Bq1 := Oq1_5
  have hz5 := hb5.size
  (try simp at hz5)
  have ra1_5 := (hb5.block _ (by first | omega | (simp; done) | (simp; omega))).trans ((Below.heap_alloc _ _ _ (by first | exact lRa1_4 | (simp; omega))).trans Ra1_4.out)
  have ra2_5 := (hb5.block _ (by first | omega | (simp; done) | (simp; omega))).trans ((Below.heap_alloc _ _ _ (by first | exact lRa2_4 | (simp; omega))).trans Ra2_4.out)
  have rb_5 := (hb5.block _ (by first | omega | (simp; done) | (simp; omega))).trans ((Below.heap_alloc _ _ _ (by first | exact lRb_4 | (simp; omega))).trans Rb_4.out)
  have rp_5 : w5.heap[w4.heap.size]? = some (.cells #[.int .i64 x1.ep, .bool x1.now.u, .int .u64 (uI x1.now.k), .int .u64 (uI x1.now.l), .slice A41 x1.now.rs.length c41, .bool x1.bef.u, .int .u64 (uI x1.bef.k), .int .u64 (uI x1.bef.l), .slice A42 x1.bef.rs.length c42, .bool x1.two] 29 (0, 0)) := (hb5.block _ (by first | (simp; done) | (simp; omega))).trans (by repeat (first | exact heap_new _ _ _ (by first | rfl | (simp; done) | (simp; omega)) | refine (Below.heap_alloc _ _ _ (by first | omega | (simp; done) | (simp; omega))).trans ?_))
  have Ob1_5 := Lib.hid (Ob1_4.out.below (w' := w5) (by repeat (first | with_reducible exact Below.refl _ _ | with_reducible assumption | with_reducible refine Below.drew ?_ | with_reducible refine Below.alloc ?_ (by first | exact Nat.le_refl _ | omega | (simp; done) | (simp; omega)) _ | with_reducible refine Below.setCell ?_ (by first | exact Nat.le_refl _ | omega | (simp; done) | (simp; omega)) _ | (with_reducible refine ext_trans ?_ (by with_reducible assumption)))))
  have Ob2_5 := Lib.hid (Ob2_4.out.below (w' := w5) (by repeat (first | with_reducible exact Below.refl _ _ | with_reducible assumption | with_reducible refine Below.drew ?_ | with_reducible refine Below.alloc ?_ (by first | exact Nat.le_refl _ | omega | (simp; done) | (simp; omega)) _ | with_reducible refine Below.setCell ?_ (by first | exact Nat.le_refl _ | omega | (simp; done) | (simp; omega)) _ | (with_reducible refine ext_trans ?_ (by with_reducible assumption)))))
  have Op1_5 := Lib.hid (Op1_4.out.below (w' := w5) (by repeat (first | with_reducible exact Below.refl _ _ | with_reducible assumption | with_reducible refine Below.drew ?_ | with_reducible refine Below.alloc ?_ (by first | exact Nat.le_refl _ | omega | (simp; done) | (simp; omega)) _ | with_reducible refine Below.setCell ?_ (by first | exact Nat.le_refl _ | omega | (simp; done) | (simp; omega)) _ | (with_reducible refine ext_trans ?_ (by with_reducible assumption)))))
  have Op2_5 := Lib.hid (Op2_4.out.below (w' := w5) (by repeat (first | with_reducible exact Below.refl _ _ | with_reducible assumption | with_reducible refine Below.drew ?_ | with_reducible refine Below.alloc ?_ (by first | exact Nat.le_refl _ | omega | (simp; done) | (simp; omega)) _ | with_reducible refine Below.setCell ?_ (by first | exact Nat.le_refl _ | omega | (simp; done) | (simp; omega)) _ | (with_reducible refine ext_trans ?_ (by with_reducible assumption)))))
  have hw5 : Below w.heap.size w w5 := (by repeat (first | with_reducible exact Below.refl _ _ | with_reducible assumption | with_reducible refine Below.drew ?_ | with_reducible refine Below.alloc ?_ (by first | exact Nat.le_refl _ | omega | (simp; done) | (simp; omega)) _ | with_reducible refine Below.setCell ?_ (by first | exact Nat.le_refl _ | omega | (simp; done) | (simp; omega)) _ | (with_reducible refine ext_trans ?_ (by with_reducible assumption))))
  have lRa1_5 : w.heap.size < w5.heap.size := by omega
  have lRa2_5 : w.heap.size + 1 < w5.heap.size := by omega
  have lRb_5 : b3 < w5.heap.size := by omega
  have lRp_5 : w4.heap.size < w5.heap.size := by omega
  have Ra1_5 := Lib.hid ra1_5
  have r0_ra1_5 := cell_of_row _ _ 0 _ _ _ ra1_5
  have r1_ra1_5 := cell_of_row _ _ 1 _ _ _ ra1_5
  have r2_ra1_5 := cell_of_row _ _ 2 _ _ _ ra1_5
  have r3_ra1_5 := cell_of_row _ _ 3 _ _ _ ra1_5
  have r4_ra1_5 := cell_of_row _ _ 4 _ _ _ ra1_5
  have r5_ra1_5 := cell_of_row _ _ 5 _ _ _ ra1_5
  have r6_ra1_5 := cell_of_row _ _ 6 _ _ _ ra1_5
  have r7_ra1_5 := cell_of_row _ _ 7 _ _ _ ra1_5
  have r8_ra1_5 := cell_of_row _ _ 8 _ _ _ ra1_5
  have r9_ra1_5 := cell_of_row _ _ 9 _ _ _ ra1_5
  have f0_ra1_5 := frozen_of_row _ _ 0 _ _ ra1_5
  have f1_ra1_5 := frozen_of_row _ _ 1 _ _ ra1_5
  have f2_ra1_5 := frozen_of_row _ _ 2 _ _ ra1_5
  have f3_ra1_5 := frozen_of_row _ _ 3 _ _ ra1_5
  have f4_ra1_5 := frozen_of_row _ _ 4 _ _ ra1_5
  have f5_ra1_5 := frozen_of_row _ _ 5 _ _ ra1_5
  have f6_ra1_5 := frozen_of_row _ _ 6 _ _ ra1_5
  have f7_ra1_5 := frozen_of_row _ _ 7 _ _ ra1_5
  have f8_ra1_5 := frozen_of_row _ _ 8 _ _ ra1_5
  have f9_ra1_5 := frozen_of_row _ _ 9 _ _ ra1_5
  simp at r0_ra1_5 r1_ra1_5 r2_ra1_5 r3_ra1_5 r4_ra1_5 r5_ra1_5 r6_ra1_5 r7_ra1_5 r8_ra1_5 r9_ra1_5
  clear ra1_5
  have Ra2_5 := Lib.hid ra2_5
  have r0_ra2_5 := cell_of_row _ _ 0 _ _ _ ra2_5
  have r1_ra2_5 := cell_of_row _ _ 1 _ _ _ ra2_5
  have r2_ra2_5 := cell_of_row _ _ 2 _ _ _ ra2_5
  have r3_ra2_5 := cell_of_row _ _ 3 _ _ _ ra2_5
  have f0_ra2_5 := frozen_of_row _ _ 0 _ _ ra2_5
  have f1_ra2_5 := frozen_of_row _ _ 1 _ _ ra2_5
  have f2_ra2_5 := frozen_of_row _ _ 2 _ _ ra2_5
  have f3_ra2_5 := frozen_of_row _ _ 3 _ _ ra2_5
  simp at r0_ra2_5 r1_ra2_5 r2_ra2_5 r3_ra2_5
  clear ra2_5
  have Rb_5 := Lib.hid rb_5
  have r0_rb_5 := cell_of_row _ _ 0 _ _ _ rb_5
  have r1_rb_5 := cell_of_row _ _ 1 _ _ _ rb_5
  have r2_rb_5 := cell_of_row _ _ 2 _ _ _ rb_5
  have r3_rb_5 := cell_of_row _ _ 3 _ _ _ rb_5
  have r4_rb_5 := cell_of_row _ _ 4 _ _ _ rb_5
  have r5_rb_5 := cell_of_row _ _ 5 _ _ _ rb_5
  have r6_rb_5 := cell_of_row _ _ 6 _ _ _ rb_5
  have r7_rb_5 := cell_of_row _ _ 7 _ _ _ rb_5
  have r8_rb_5 := cell_of_row _ _ 8 _ _ _ rb_5
  have r9_rb_5 := cell_of_row _ _ 9 _ _ _ rb_5
  have f0_rb_5 := frozen_of_row _ _ 0 _ _ rb_5
  have f1_rb_5 := frozen_of_row _ _ 1 _ _ rb_5
  have f2_rb_5 := frozen_of_row _ _ 2 _ _ rb_5
  have f3_rb_5 := frozen_of_row _ _ 3 _ _ rb_5
  have f4_rb_5 := frozen_of_row _ _ 4 _ _ rb_5
  have f5_rb_5 := frozen_of_row _ _ 5 _ _ rb_5
  have f6_rb_5 := frozen_of_row _ _ 6 _ _ rb_5
  have f7_rb_5 := frozen_of_row _ _ 7 _ _ rb_5
  have f8_rb_5 := frozen_of_row _ _ 8 _ _ rb_5
  have f9_rb_5 := frozen_of_row _ _ 9 _ _ rb_5
  simp at r0_rb_5 r1_rb_5 r2_rb_5 r3_rb_5 r4_rb_5 r5_rb_5 r6_rb_5 r7_rb_5 r8_rb_5 r9_rb_5
  clear rb_5
  have Rp_5 := Lib.hid rp_5
  have r0_rp_5 := cell_of_row _ _ 0 _ _ _ rp_5
  have r1_rp_5 := cell_of_row _ _ 1 _ _ _ rp_5
  have r2_rp_5 := cell_of_row _ _ 2 _ _ _ rp_5
  have r3_rp_5 := cell_of_row _ _ 3 _ _ _ rp_5
  have r4_rp_5 := cell_of_row _ _ 4 _ _ _ rp_5
  have r5_rp_5 := cell_of_row _ _ 5 _ _ _ rp_5
  have r6_rp_5 := cell_of_row _ _ 6 _ _ _ rp_5
  have r7_rp_5 := cell_of_row _ _ 7 _ _ _ rp_5
  have r8_rp_5 := cell_of_row _ _ 8 _ _ _ rp_5
  have r9_rp_5 := cell_of_row _ _ 9 _ _ _ rp_5
  have f0_rp_5 := frozen_of_row _ _ 0 _ _ rp_5
  have f1_rp_5 := frozen_of_row _ _ 1 _ _ rp_5
  have f2_rp_5 := frozen_of_row _ _ 2 _ _ rp_5
  have f3_rp_5 := frozen_of_row _ _ 3 _ _ rp_5
  have f4_rp_5 := frozen_of_row _ _ 4 _ _ rp_5
  have f5_rp_5 := frozen_of_row _ _ 5 _ _ rp_5
  have f6_rp_5 := frozen_of_row _ _ 6 _ _ rp_5
  have f7_rp_5 := frozen_of_row _ _ 7 _ _ rp_5
  have f8_rp_5 := frozen_of_row _ _ 8 _ _ rp_5
  have f9_rp_5 := frozen_of_row _ _ 9 _ _ rp_5
  simp at r0_rp_5 r1_rp_5 r2_rp_5 r3_rp_5 r4_rp_5 r5_rp_5 r6_rp_5 r7_rp_5 r8_rp_5 r9_rp_5
  clear rp_5
  clear r0_ra1_4 f0_ra1_4 r1_ra1_4 f1_ra1_4 r2_ra1_4 f2_ra1_4 r3_ra1_4 f3_ra1_4 r4_ra1_4 f4_ra1_4 r5_ra1_4 f5_ra1_4 r6_ra1_4 f6_ra1_4 r7_ra1_4 f7_ra1_4 r8_ra1_4 f8_ra1_4 r9_ra1_4 f9_ra1_4
  clear r0_ra2_4 f0_ra2_4 r1_ra2_4 f1_ra2_4 r2_ra2_4 f2_ra2_4 r3_ra2_4 f3_ra2_4
  clear r0_rb_4 f0_rb_4 r1_rb_4 f1_rb_4 r2_rb_4 f2_rb_4 r3_rb_4 f3_rb_4 r4_rb_4 f4_rb_4 r5_rb_4 f5_rb_4 r6_rb_4 f6_rb_4 r7_rb_4 f7_rb_4 r8_rb_4 f8_rb_4 r9_rb_4 f9_rb_4
  go_wp2_with fail
  refine (HI.out _ _ _ _ P11.out P12.out P21.out (Op1_5.out.below (by repeat (first | with_reducible exact Below.refl _ _ | with_reducible assumption | with_reducible refine Below.drew ?_ | with_reducible refine Below.alloc ?_ (by first | exact Nat.le_refl _ | omega | (simp; done) | (simp; omega)) _ | with_reducible refine Below.setCell ?_ (by first | exact Nat.le_refl _ | omega | (simp; done) | (simp; omega)) _ | (with_reducible refine ext_trans ?_ (by with_reducible assumption))))).rd (Op2_5.out.below (by repeat (first | with_reducible exact Below.refl _ _ | with_reducible assumption | with_reducible refine Below.drew ?_ | with_reducible refine Below.alloc ?_ (by first | exact Nat.le_refl _ | omega | (simp; done) | (simp; omega)) _ | with_reducible refine Below.setCell ?_ (by first | exact Nat.le_refl _ | omega | (simp; done) | (simp; omega)) _ | (with_reducible refine ext_trans ?_ (by with_reducible assumption))))).rd (Oq1_5.out.below (by repeat (first | with_reducible exact Below.refl _ _ | with_reducible assumption | with_reducible refine Below.drew ?_ | with_reducible refine Below.alloc ?_ (by first | exact Nat.le_refl _ | omega | (simp; done) | (simp; omega)) _ | with_reducible refine Below.setCell ?_ (by first | exact Nat.le_refl _ | omega | (simp; done) | (simp; omega)) _ | (with_reducible refine ext_trans ?_ (by with_reducible assumption))))).rd).mono ?_
  rintro e w6 ⟨u61, u62, rfl, hO61, hO62, hap6, hb6⟩
  obtain ⟨G1, g1, rfl⟩ := hO61.form
  obtain ⟨G2, g2, rfl⟩ := hO62.form
  have Og1_6 := Lib.hid (OwnE.mono (base' := w5.heap.size + 1) hO61 (by first | exact Nat.le_refl _ | (simp; done)))
  have Bg1 := Og1_6
  have Og2_6 := Lib.hid (OwnE.mono (base' := w5.heap.size + 1) hO62 (by first | exact Nat.le_refl _ | (simp; done)))
  have Bg2 := Og2_6
  have hz6 := hb6.size
  (try simp at hz6)
  have ra1_6 := (hb6.block _ (by first | omega | (simp; done) | (simp; omega))).trans ((Below.heap_alloc _ _ _ (by first | exact lRa1_5 | (simp; omega))).trans Ra1_5.out)
  have ra2_6 := (hb6.block _ (by first | omega | (simp; done) | (simp; omega))).trans ((Below.heap_alloc _ _ _ (by first | exact lRa2_5 | (simp; omega))).trans Ra2_5.out)
  have rb_6 := (hb6.block _ (by first | omega | (simp; done) | (simp; omega))).trans ((Below.heap_alloc _ _ _ (by first | exact lRb_5 | (simp; omega))).trans Rb_5.out)
  have rp_6 := (hb6.block _ (by first | omega | (simp; done) | (simp; omega))).trans ((Below.heap_alloc _ _ _ (by first | exact lRp_5 | (simp; omega))).trans Rp_5.out)
  have rq_6 : w6.heap[w5.heap.size]? = some (.cells #[.bool x2.u, .int .u64 (uI x2.k), .int .u64 (uI x2.l), .slice A51 x2.rs.length c51] 27 (0, 0)) := (hb6.block _ (by first | (simp; done) | (simp; omega))).trans (by repeat (first | exact heap_new _ _ _ (by first | rfl | (simp; done) | (simp; omega)) | refine (Below.heap_alloc _ _ _ (by first | omega | (simp; done) | (simp; omega))).trans ?_))
  have Ob1_6 := Lib.hid (Ob1_5.out.below (w' := w6) (by repeat (first | with_reducible exact Below.refl _ _ | with_reducible assumption | with_reducible refine Below.drew ?_ | with_reducible refine Below.alloc ?_ (by first | exact Nat.le_refl _ | omega | (simp; done) | (simp; omega)) _ | with_reducible refine Below.setCell ?_ (by first | exact Nat.le_refl _ | omega | (simp; done) | (simp; omega)) _ | (with_reducible refine ext_trans ?_ (by with_reducible assumption)))))
  have Ob2_6 := Lib.hid (Ob2_5.out.below (w' := w6) (by repeat (first | with_reducible exact Below.refl _ _ | with_reducible assumption | with_reducible refine Below.drew ?_ | with_reducible refine Below.alloc ?_ (by first | exact Nat.le_refl _ | omega | (simp; done) | (simp; omega)) _ | with_reducible refine Below.setCell ?_ (by first | exact Nat.le_refl _ | omega | (simp; done) | (simp; omega)) _ | (with_reducible refine ext_trans ?_ (by with_reducible assumption)))))
  have Op1_6 := Lib.hid (Op1_5.out.below (w' := w6) (by repeat (first | with_reducible exact Below.refl _ _ | with_reducible assumption | with_reducible refine Below.drew ?_ | with_reducible refine Below.alloc ?_ (by first | exact Nat.le_refl _ | omega | (simp; done) | (simp; omega)) _ | with_reducible refine Below.setCell ?_ (by first | exact Nat.le_refl _ | omega | (simp; done) | (simp; omega)) _ | (with_reducible refine ext_trans ?_ (by with_reducible assumption)))))
  have Op2_6 := Lib.hid (Op2_5.out.below (w' := w6) (by repeat (first | with_reducible exact Below.refl _ _ | with_reducible assumption | with_reducible refine Below.drew ?_ | with_reducible refine Below.alloc ?_ (by first | exact Nat.le_refl _ | omega | (simp; done) | (simp; omega)) _ | with_reducible refine Below.setCell ?_ (by first | exact Nat.le_refl _ | omega | (simp; done) | (simp; omega)) _ | (with_reducible refine ext_trans ?_ (by with_reducible assumption)))))
  have Oq1_6 := Lib.hid (Oq1_5.out.below (w' := w6) (by repeat (first | with_reducible exact Below.refl _ _ | with_reducible assumption | with_reducible refine Below.drew ?_ | with_reducible refine Below.alloc ?_ (by first | exact Nat.le_refl _ | omega | (simp; done) | (simp; omega)) _ | with_reducible refine Below.setCell ?_ (by first | exact Nat.le_refl _ | omega | (simp; done) | (simp; omega)) _ | (with_reducible refine ext_trans ?_ (by with_reducible assumption)))))
  have hw6 : Below w.heap.size w w6 := (by repeat (first | with_reducible exact Below.refl _ _ | with_reducible assumption | with_reducible refine Below.drew ?_ | with_reducible refine Below.alloc ?_ (by first | exact Nat.le_refl _ | omega | (simp; done) | (simp; omega)) _ | with_reducible refine Below.setCell ?_ (by first | exact Nat.le_refl _ | omega | (simp; done) | (simp; omega)) _ | (with_reducible refine ext_trans ?_ (by with_reducible assumption))))
  have lRa1_6 : w.heap.size < w6.heap.size := by omega
  have lRa2_6 : w.heap.size + 1 < w6.heap.size := by omega
  have lRb_6 : b3 < w6.heap.size := by omega
  have lRp_6 : w4.heap.size < w6.heap.size := by omega
  have lRq_6 : w5.heap.size < w6.heap.size := by omega
  have Ra1_6 := Lib.hid ra1_6
  have r0_ra1_6 := cell_of_row _ _ 0 _ _ _ ra1_6
  have r1_ra1_6 := cell_of_row _ _ 1 _ _ _ ra1_6
  have r2_ra1_6 := cell_of_row _ _ 2 _ _ _ ra1_6
  have r3_ra1_6 := cell_of_row _ _ 3 _ _ _ ra1_6
  have r4_ra1_6 := cell_of_row _ _ 4 _ _ _ ra1_6
  have r5_ra1_6 := cell_of_row _ _ 5 _ _ _ ra1_6
  have r6_ra1_6 := cell_of_row _ _ 6 _ _ _ ra1_6
  have r7_ra1_6 := cell_of_row _ _ 7 _ _ _ ra1_6
  have r8_ra1_6 := cell_of_row _ _ 8 _ _ _ ra1_6
  have r9_ra1_6 := cell_of_row _ _ 9 _ _ _ ra1_6
  have f0_ra1_6 := frozen_of_row _ _ 0 _ _ ra1_6
  have f1_ra1_6 := frozen_of_row _ _ 1 _ _ ra1_6
  have f2_ra1_6 := frozen_of_row _ _ 2 _ _ ra1_6
  have f3_ra1_6 := frozen_of_row _ _ 3 _ _ ra1_6
  have f4_ra1_6 := frozen_of_row _ _ 4 _ _ ra1_6
  have f5_ra1_6 := frozen_of_row _ _ 5 _ _ ra1_6
  have f6_ra1_6 := frozen_of_row _ _ 6 _ _ ra1_6
  have f7_ra1_6 := frozen_of_row _ _ 7 _ _ ra1_6
  have f8_ra1_6 := frozen_of_row _ _ 8 _ _ ra1_6
  have f9_ra1_6 := frozen_of_row _ _ 9 _ _ ra1_6
  simp at r0_ra1_6 r1_ra1_6 r2_ra1_6 r3_ra1_6 r4_ra1_6 r5_ra1_6 r6_ra1_6 r7_ra1_6 r8_ra1_6 r9_ra1_6
  clear ra1_6
  have Ra2_6 := Lib.hid ra2_6
  have r0_ra2_6 := cell_of_row _ _ 0 _ _ _ ra2_6
  have r1_ra2_6 := cell_of_row _ _ 1 _ _ _ ra2_6
  have r2_ra2_6 := cell_of_row _ _ 2 _ _ _ ra2_6
  have r3_ra2_6 := cell_of_row _ _ 3 _ _ _ ra2_6
  have f0_ra2_6 := frozen_of_row _ _ 0 _ _ ra2_6
  have f1_ra2_6 := frozen_of_row _ _ 1 _ _ ra2_6
  have f2_ra2_6 := frozen_of_row _ _ 2 _ _ ra2_6
  have f3_ra2_6 := frozen_of_row _ _ 3 _ _ ra2_6
  simp at r0_ra2_6 r1_ra2_6 r2_ra2_6 r3_ra2_6
  clear ra2_6
  have Rb_6 := Lib.hid rb_6
  have r0_rb_6 := cell_of_row _ _ 0 _ _ _ rb_6
  have r1_rb_6 := cell_of_row _ _ 1 _ _ _ rb_6
  have r2_rb_6 := cell_of_row _ _ 2 _ _ _ rb_6
  have r3_rb_6 := cell_of_row _ _ 3 _ _ _ rb_6
  have r4_rb_6 := cell_of_row _ _ 4 _ _ _ rb_6
  have r5_rb_6 := cell_of_row _ _ 5 _ _ _ rb_6
  have r6_rb_6 := cell_of_row _ _ 6 _ _ _ rb_6
  have r7_rb_6 := cell_of_row _ _ 7 _ _ _ rb_6
  have r8_rb_6 := cell_of_row _ _ 8 _ _ _ rb_6
  have r9_rb_6 := cell_of_row _ _ 9 _ _ _ rb_6
  have f0_rb_6 := frozen_of_row _ _ 0 _ _ rb_6
  have f1_rb_6 := frozen_of_row _ _ 1 _ _ rb_6
  have f2_rb_6 := frozen_of_row _ _ 2 _ _ rb_6
  have f3_rb_6 := frozen_of_row _ _ 3 _ _ rb_6
  have f4_rb_6 := frozen_of_row _ _ 4 _ _ rb_6
  have f5_rb_6 := frozen_of_row _ _ 5 _ _ rb_6
  have f6_rb_6 := frozen_of_row _ _ 6 _ _ rb_6
  have f7_rb_6 := frozen_of_row _ _ 7 _ _ rb_6
  have f8_rb_6 := frozen_of_row _ _ 8 _ _ rb_6
  have f9_rb_6 := frozen_of_row _ _ 9 _ _ rb_6
  simp at r0_rb_6 r1_rb_6 r2_rb_6 r3_rb_6 r4_rb_6 r5_rb_6 r6_rb_6 r7_rb_6 r8_rb_6 r9_rb_6
  clear rb_6
  have Rp_6 := Lib.hid rp_6
  have r0_rp_6 := cell_of_row _ _ 0 _ _ _ rp_6
  have r1_rp_6 := cell_of_row _ _ 1 _ _ _ rp_6
  have r2_rp_6 := cell_of_row _ _ 2 _ _ _ rp_6
  have r3_rp_6 := cell_of_row _ _ 3 _ _ _ rp_6
  have r4_rp_6 := cell_of_row _ _ 4 _ _ _ rp_6
  have r5_rp_6 := cell_of_row _ _ 5 _ _ _ rp_6
  have r6_rp_6 := cell_of_row _ _ 6 _ _ _ rp_6
  have r7_rp_6 := cell_of_row _ _ 7 _ _ _ rp_6
  have r8_rp_6 := cell_of_row _ _ 8 _ _ _ rp_6
  have r9_rp_6 := cell_of_row _ _ 9 _ _ _ rp_6
  have f0_rp_6 := frozen_of_row _ _ 0 _ _ rp_6
  have f1_rp_6 := frozen_of_row _ _ 1 _ _ rp_6
  have f2_rp_6 := frozen_of_row _ _ 2 _ _ rp_6
  have f3_rp_6 := frozen_of_row _ _ 3 _ _ rp_6
  have f4_rp_6 := frozen_of_row _ _ 4 _ _ rp_6
  have f5_rp_6 := frozen_of_row _ _ 5 _ _ rp_6
  have f6_rp_6 := frozen_of_row _ _ 6 _ _ rp_6
  have f7_rp_6 := frozen_of_row _ _ 7 _ _ rp_6
  have f8_rp_6 := frozen_of_row _ _ 8 _ _ rp_6
  have f9_rp_6 := frozen_of_row _ _ 9 _ _ rp_6
  simp at r0_rp_6 r1_rp_6 r2_rp_6 r3_rp_6 r4_rp_6 r5_rp_6 r6_rp_6 r7_rp_6 r8_rp_6 r9_rp_6
  clear rp_6
  have Rq_6 := Lib.hid rq_6
  have r0_rq_6 := cell_of_row _ _ 0 _ _ _ rq_6
  have r1_rq_6 := cell_of_row _ _ 1 _ _ _ rq_6
  have r2_rq_6 := cell_of_row _ _ 2 _ _ _ rq_6
  have r3_rq_6 := cell_of_row _ _ 3 _ _ _ rq_6
  have f0_rq_6 := frozen_of_row _ _ 0 _ _ rq_6
  have f1_rq_6 := frozen_of_row _ _ 1 _ _ rq_6
  have f2_rq_6 := frozen_of_row _ _ 2 _ _ rq_6
  have f3_rq_6 := frozen_of_row _ _ 3 _ _ rq_6
  simp at r0_rq_6 r1_rq_6 r2_rq_6 r3_rq_6
  clear rq_6
  clear r0_ra1_5 f0_ra1_5 r1_ra1_5 f1_ra1_5 r2_ra1_5 f2_ra1_5 r3_ra1_5 f3_ra1_5 r4_ra1_5 f4_ra1_5 r5_ra1_5 f5_ra1_5 r6_ra1_5 f6_ra1_5 r7_ra1_5 f7_ra1_5 r8_ra1_5 f8_ra1_5 r9_ra1_5 f9_ra1_5
  clear r0_ra2_5 f0_ra2_5 r1_ra2_5 f1_ra2_5 r2_ra2_5 f2_ra2_5 r3_ra2_5 f3_ra2_5
  clear r0_rb_5 f0_rb_5 r1_rb_5 f1_rb_5 r2_rb_5 f2_rb_5 r3_rb_5 f3_rb_5 r4_rb_5 f4_rb_5 r5_rb_5 f5_rb_5 r6_rb_5 f6_rb_5 r7_rb_5 f7_rb_5 r8_rb_5 f8_rb_5 r9_rb_5 f9_rb_5
  clear r0_rp_5 f0_rp_5 r1_rp_5 f1_rp_5 r2_rp_5 f2_rp_5 r3_rp_5 f3_rp_5 r4_rp_5 f4_rp_5 r5_rp_5 f5_rp_5 r6_rp_5 f6_rp_5 r7_rp_5 f7_rp_5 r8_rp_5 f8_rp_5 r9_rp_5 f9_rp_5
  go_wp2_with fail
  refine (eqKeys_same R _ _ _ _ NR1.out NR2.out _ (Og1_6.out.below (by repeat (first | with_reducible exact Below.refl _ _ | with_reducible assumption | with_reducible refine Below.drew ?_ | with_reducible refine Below.alloc ?_ (by first | exact Nat.le_refl _ | omega | (simp; done) | (simp; omega)) _ | with_reducible refine Below.setCell ?_ (by first | exact Nat.le_refl _ | omega | (simp; done) | (simp; omega)) _ | (with_reducible refine ext_trans ?_ (by with_reducible assumption))))).rd (Og2_6.out.below (by repeat (first | with_reducible exact Below.refl _ _ | with_reducible assumption | with_reducible refine Below.drew ?_ | with_reducible refine Below.alloc ?_ (by first | exact Nat.le_refl _ | omega | (simp; done) | (simp; omega)) _ | with_reducible refine Below.setCell ?_ (by first | exact Nat.le_refl _ | omega | (simp; done) | (simp; omega)) _ | (with_reducible refine ext_trans ?_ (by with_reducible assumption))))).rd (Ob1_6.out.below (by repeat (first | with_reducible exact Below.refl _ _ | with_reducible assumption | with_reducible refine Below.drew ?_ | with_reducible refine Below.alloc ?_ (by first | exact Nat.le_refl _ | omega | (simp; done) | (simp; omega)) _ | with_reducible refine Below.setCell ?_ (by first | exact Nat.le_refl _ | omega | (simp; done) | (simp; omega)) _ | (with_reducible refine ext_trans ?_ (by with_reducible assumption))))).rd (Ob2_6.out.below (by repeat (first | with_reducible exact Below.refl _ _ | with_reducible assumption | with_reducible refine Below.drew ?_ | with_reducible refine Below.alloc ?_ (by first | exact Nat.le_refl _ | omega | (simp; done) | (simp; omega)) _ | with_reducible refine Below.setCell ?_ (by first | exact Nat.le_refl _ | omega | (simp; done) | (simp; omega)) _ | (with_reducible refine ext_trans ?_ (by with_reducible assumption))))).rd).mono ?_
  rintro e w7 ⟨rfl, hb7⟩
  have hz7 := hb7.size
  (try simp at hz7)
  have ra1_7 := (hb7.block _ (by first | omega | (simp; done) | (simp; omega))).trans ((Below.heap_alloc _ _ _ (by first | exact lRa1_6 | (simp; omega))).trans Ra1_6.out)
  have ra2_7 := (hb7.block _ (by first | omega | (simp; done) | (simp; omega))).trans ((Below.heap_alloc _ _ _ (by first | exact lRa2_6 | (simp; omega))).trans Ra2_6.out)
  have rb_7 := (hb7.block _ (by first | omega | (simp; done) | (simp; omega))).trans ((Below.heap_alloc _ _ _ (by first | exact lRb_6 | (simp; omega))).trans Rb_6.out)
  have rp_7 := (hb7.block _ (by first | omega | (simp; done) | (simp; omega))).trans ((Below.heap_alloc _ _ _ (by first | exact lRp_6 | (simp; omega))).trans Rp_6.out)
  have rq_7 := (hb7.block _ (by first | omega | (simp; done) | (simp; omega))).trans ((Below.heap_alloc _ _ _ (by first | exact lRq_6 | (simp; omega))).trans Rq_6.out)
  have rg_7 : w7.heap[w6.heap.size]? = some (.cells #[.int .i64 R.ep, .bool R.now.u, .int .u64 (uI R.now.k), .int .u64 (uI R.now.l), .slice G1 R.now.rs.length g1, .bool R.bef.u, .int .u64 (uI R.bef.k), .int .u64 (uI R.bef.l), .slice G2 R.bef.rs.length g2, .bool R.two] 29 (0, 0)) := (hb7.block _ (by first | (simp; done) | (simp; omega))).trans (by repeat (first | exact heap_new _ _ _ (by first | rfl | (simp; done) | (simp; omega)) | refine (Below.heap_alloc _ _ _ (by first | omega | (simp; done) | (simp; omega))).trans ?_))
  have Ob1_7 := Lib.hid (Ob1_6.out.below (w' := w7) (by repeat (first | with_reducible exact Below.refl _ _ | with_reducible assumption | with_reducible refine Below.drew ?_ | with_reducible refine Below.alloc ?_ (by first | exact Nat.le_refl _ | omega | (simp; done) | (simp; omega)) _ | with_reducible refine Below.setCell ?_ (by first | exact Nat.le_refl _ | omega | (simp; done) | (simp; omega)) _ | (with_reducible refine ext_trans ?_ (by with_reducible assumption)))))
  have Ob2_7 := Lib.hid (Ob2_6.out.below (w' := w7) (by repeat (first | with_reducible exact Below.refl _ _ | with_reducible assumption | with_reducible refine Below.drew ?_ | with_reducible refine Below.alloc ?_ (by first | exact Nat.le_refl _ | omega | (simp; done) | (simp; omega)) _ | with_reducible refine Below.setCell ?_ (by first | exact Nat.le_refl _ | omega | (simp; done) | (simp; omega)) _ | (with_reducible refine ext_trans ?_ (by with_reducible assumption)))))
  have Op1_7 := Lib.hid (Op1_6.out.below (w' := w7) (by repeat (first | with_reducible exact Below.refl _ _ | with_reducible assumption | with_reducible refine Below.drew ?_ | with_reducible refine Below.alloc ?_ (by first | exact Nat.le_refl _ | omega | (simp; done) | (simp; omega)) _ | with_reducible refine Below.setCell ?_ (by first | exact Nat.le_refl _ | omega | (simp; done) | (simp; omega)) _ | (with_reducible refine ext_trans ?_ (by with_reducible assumption)))))
  have Op2_7 := Lib.hid (Op2_6.out.below (w' := w7) (by repeat (first | with_reducible exact Below.refl _ _ | with_reducible assumption | with_reducible refine Below.drew ?_ | with_reducible refine Below.alloc ?_ (by first | exact Nat.le_refl _ | omega | (simp; done) | (simp; omega)) _ | with_reducible refine Below.setCell ?_ (by first | exact Nat.le_refl _ | omega | (simp; done) | (simp; omega)) _ | (with_reducible refine ext_trans ?_ (by with_reducible assumption)))))
  have Oq1_7 := Lib.hid (Oq1_6.out.below (w' := w7) (by repeat (first | with_reducible exact Below.refl _ _ | with_reducible assumption | with_reducible refine Below.drew ?_ | with_reducible refine Below.alloc ?_ (by first | exact Nat.le_refl _ | omega | (simp; done) | (simp; omega)) _ | with_reducible refine Below.setCell ?_ (by first | exact Nat.le_refl _ | omega | (simp; done) | (simp; omega)) _ | (with_reducible refine ext_trans ?_ (by with_reducible assumption)))))
  have Og1_7 := Lib.hid (Og1_6.out.below (w' := w7) (by repeat (first | with_reducible exact Below.refl _ _ | with_reducible assumption | with_reducible refine Below.drew ?_ | with_reducible refine Below.alloc ?_ (by first | exact Nat.le_refl _ | omega | (simp; done) | (simp; omega)) _ | with_reducible refine Below.setCell ?_ (by first | exact Nat.le_refl _ | omega | (simp; done) | (simp; omega)) _ | (with_reducible refine ext_trans ?_ (by with_reducible assumption)))))
  have Og2_7 := Lib.hid (Og2_6.out.below (w' := w7) (by repeat (first | with_reducible exact Below.refl _ _ | with_reducible assumption | with_reducible refine Below.drew ?_ | with_reducible refine Below.alloc ?_ (by first | exact Nat.le_refl _ | omega | (simp; done) | (simp; omega)) _ | with_reducible refine Below.setCell ?_ (by first | exact Nat.le_refl _ | omega | (simp; done) | (simp; omega)) _ | (with_reducible refine ext_trans ?_ (by with_reducible assumption)))))
  have hw7 : Below w.heap.size w w7 := (by repeat (first | with_reducible exact Below.refl _ _ | with_reducible assumption | with_reducible refine Below.drew ?_ | with_reducible refine Below.alloc ?_ (by first | exact Nat.le_refl _ | omega | (simp; done) | (simp; omega)) _ | with_reducible refine Below.setCell ?_ (by first | exact Nat.le_refl _ | omega | (simp; done) | (simp; omega)) _ | (with_reducible refine ext_trans ?_ (by with_reducible assumption))))
  have lRa1_7 : w.heap.size < w7.heap.size := by omega
  have lRa2_7 : w.heap.size + 1 < w7.heap.size := by omega
  have lRb_7 : b3 < w7.heap.size := by omega
  have lRp_7 : w4.heap.size < w7.heap.size := by omega
  have lRq_7 : w5.heap.size < w7.heap.size := by omega
  have lRg_7 : w6.heap.size < w7.heap.size := by omega
  have Ra1_7 := Lib.hid ra1_7
  have r0_ra1_7 := cell_of_row _ _ 0 _ _ _ ra1_7
  have r1_ra1_7 := cell_of_row _ _ 1 _ _ _ ra1_7
  have r2_ra1_7 := cell_of_row _ _ 2 _ _ _ ra1_7
  have r3_ra1_7 := cell_of_row _ _ 3 _ _ _ ra1_7
  have r4_ra1_7 := cell_of_row _ _ 4 _ _ _ ra1_7
  have r5_ra1_7 := cell_of_row _ _ 5 _ _ _ ra1_7
  have r6_ra1_7 := cell_of_row _ _ 6 _ _ _ ra1_7
  have r7_ra1_7 := cell_of_row _ _ 7 _ _ _ ra1_7
  have r8_ra1_7 := cell_of_row _ _ 8 _ _ _ ra1_7
  have r9_ra1_7 := cell_of_row _ _ 9 _ _ _ ra1_7
  have f0_ra1_7 := frozen_of_row _ _ 0 _ _ ra1_7
  have f1_ra1_7 := frozen_of_row _ _ 1 _ _ ra1_7
  have f2_ra1_7 := frozen_of_row _ _ 2 _ _ ra1_7
  have f3_ra1_7 := frozen_of_row _ _ 3 _ _ ra1_7
  have f4_ra1_7 := frozen_of_row _ _ 4 _ _ ra1_7
  have f5_ra1_7 := frozen_of_row _ _ 5 _ _ ra1_7
  have f6_ra1_7 := frozen_of_row _ _ 6 _ _ ra1_7
  have f7_ra1_7 := frozen_of_row _ _ 7 _ _ ra1_7
  have f8_ra1_7 := frozen_of_row _ _ 8 _ _ ra1_7
  have f9_ra1_7 := frozen_of_row _ _ 9 _ _ ra1_7
  simp at r0_ra1_7 r1_ra1_7 r2_ra1_7 r3_ra1_7 r4_ra1_7 r5_ra1_7 r6_ra1_7 r7_ra1_7 r8_ra1_7 r9_ra1_7
  clear ra1_7
  have Ra2_7 := Lib.hid ra2_7
  have r0_ra2_7 := cell_of_row _ _ 0 _ _ _ ra2_7
  have r1_ra2_7 := cell_of_row _ _ 1 _ _ _ ra2_7
  have r2_ra2_7 := cell_of_row _ _ 2 _ _ _ ra2_7
  have r3_ra2_7 := cell_of_row _ _ 3 _ _ _ ra2_7
  have f0_ra2_7 := frozen_of_row _ _ 0 _ _ ra2_7
  have f1_ra2_7 := frozen_of_row _ _ 1 _ _ ra2_7
  have f2_ra2_7 := frozen_of_row _ _ 2 _ _ ra2_7
  have f3_ra2_7 := frozen_of_row _ _ 3 _ _ ra2_7
  simp at r0_ra2_7 r1_ra2_7 r2_ra2_7 r3_ra2_7
  clear ra2_7
  have Rb_7 := Lib.hid rb_7
  have r0_rb_7 := cell_of_row _ _ 0 _ _ _ rb_7
  have r1_rb_7 := cell_of_row _ _ 1 _ _ _ rb_7
  have r2_rb_7 := cell_of_row _ _ 2 _ _ _ rb_7
  have r3_rb_7 := cell_of_row _ _ 3 _ _ _ rb_7
  have r4_rb_7 := cell_of_row _ _ 4 _ _ _ rb_7
  have r5_rb_7 := cell_of_row _ _ 5 _ _ _ rb_7
  have r6_rb_7 := cell_of_row _ _ 6 _ _ _ rb_7
  have r7_rb_7 := cell_of_row _ _ 7 _ _ _ rb_7
  have r8_rb_7 := cell_of_row _ _ 8 _ _ _ rb_7
  have r9_rb_7 := cell_of_row _ _ 9 _ _ _ rb_7
  have f0_rb_7 := frozen_of_row _ _ 0 _ _ rb_7
  have f1_rb_7 := frozen_of_row _ _ 1 _ _ rb_7
  have f2_rb_7 := frozen_of_row _ _ 2 _ _ rb_7
  have f3_rb_7 := frozen_of_row _ _ 3 _ _ rb_7
  have f4_rb_7 := frozen_of_row _ _ 4 _ _ rb_7
  have f5_rb_7 := frozen_of_row _ _ 5 _ _ rb_7
  have f6_rb_7 := frozen_of_row _ _ 6 _ _ rb_7
  have f7_rb_7 := frozen_of_row _ _ 7 _ _ rb_7
  have f8_rb_7 := frozen_of_row _ _ 8 _ _ rb_7
  have f9_rb_7 := frozen_of_row _ _ 9 _ _ rb_7
  simp at r0_rb_7 r1_rb_7 r2_rb_7 r3_rb_7 r4_rb_7 r5_rb_7 r6_rb_7 r7_rb_7 r8_rb_7 r9_rb_7
  clear rb_7
  have Rp_7 := Lib.hid rp_7
  have r0_rp_7 := cell_of_row _ _ 0 _ _ _ rp_7
  have r1_rp_7 := cell_of_row _ _ 1 _ _ _ rp_7
  have r2_rp_7 := cell_of_row _ _ 2 _ _ _ rp_7
  have r3_rp_7 := cell_of_row _ _ 3 _ _ _ rp_7
  have r4_rp_7 := cell_of_row _ _ 4 _ _ _ rp_7
  have r5_rp_7 := cell_of_row _ _ 5 _ _ _ rp_7
  have r6_rp_7 := cell_of_row _ _ 6 _ _ _ rp_7
  have r7_rp_7 := cell_of_row _ _ 7 _ _ _ rp_7
  have r8_rp_7 := cell_of_row _ _ 8 _ _ _ rp_7
  have r9_rp_7 := cell_of_row _ _ 9 _ _ _ rp_7
  have f0_rp_7 := frozen_of_row _ _ 0 _ _ rp_7
  have f1_rp_7 := frozen_of_row _ _ 1 _ _ rp_7
  have f2_rp_7 := frozen_of_row _ _ 2 _ _ rp_7
  have f3_rp_7 := frozen_of_row _ _ 3 _ _ rp_7
  have f4_rp_7 := frozen_of_row _ _ 4 _ _ rp_7
  have f5_rp_7 := frozen_of_row _ _ 5 _ _ rp_7
  have f6_rp_7 := frozen_of_row _ _ 6 _ _ rp_7
  have f7_rp_7 := frozen_of_row _ _ 7 _ _ rp_7
  have f8_rp_7 := frozen_of_row _ _ 8 _ _ rp_7
  have f9_rp_7 := frozen_of_row _ _ 9 _ _ rp_7
  simp at r0_rp_7 r1_rp_7 r2_rp_7 r3_rp_7 r4_rp_7 r5_rp_7 r6_rp_7 r7_rp_7 r8_rp_7 r9_rp_7
  clear rp_7
  have Rq_7 := Lib.hid rq_7
  have r0_rq_7 := cell_of_row _ _ 0 _ _ _ rq_7
  have r1_rq_7 := cell_of_row _ _ 1 _ _ _ rq_7
  have r2_rq_7 := cell_of_row _ _ 2 _ _ _ rq_7
  have r3_rq_7 := cell_of_row _ _ 3 _ _ _ rq_7
  have f0_rq_7 := frozen_of_row _ _ 0 _ _ rq_7
  have f1_rq_7 := frozen_of_row _ _ 1 _ _ rq_7
  have f2_rq_7 := frozen_of_row _ _ 2 _ _ rq_7
  have f3_rq_7 := frozen_of_row _ _ 3 _ _ rq_7
  simp at r0_rq_7 r1_rq_7 r2_rq_7 r3_rq_7
  clear rq_7
  have Rg_7 := Lib.hid rg_7
  have r0_rg_7 := cell_of_row _ _ 0 _ _ _ rg_7
  have r1_rg_7 := cell_of_row _ _ 1 _ _ _ rg_7
  have r2_rg_7 := cell_of_row _ _ 2 _ _ _ rg_7
  have r3_rg_7 := cell_of_row _ _ 3 _ _ _ rg_7
  have r4_rg_7 := cell_of_row _ _ 4 _ _ _ rg_7
  have r5_rg_7 := cell_of_row _ _ 5 _ _ _ rg_7
  have r6_rg_7 := cell_of_row _ _ 6 _ _ _ rg_7
  have r7_rg_7 := cell_of_row _ _ 7 _ _ _ rg_7
  have r8_rg_7 := cell_of_row _ _ 8 _ _ _ rg_7
  have r9_rg_7 := cell_of_row _ _ 9 _ _ _ rg_7
  have f0_rg_7 := frozen_of_row _ _ 0 _ _ rg_7
  have f1_rg_7 := frozen_of_row _ _ 1 _ _ rg_7
  have f2_rg_7 := frozen_of_row _ _ 2 _ _ rg_7
  have f3_rg_7 := frozen_of_row _ _ 3 _ _ rg_7
  have f4_rg_7 := frozen_of_row _ _ 4 _ _ rg_7
  have f5_rg_7 := frozen_of_row _ _ 5 _ _ rg_7
  have f6_rg_7 := frozen_of_row _ _ 6 _ _ rg_7
  have f7_rg_7 := frozen_of_row _ _ 7 _ _ rg_7
  have f8_rg_7 := frozen_of_row _ _ 8 _ _ rg_7
  have f9_rg_7 := frozen_of_row _ _ 9 _ _ rg_7
  simp at r0_rg_7 r1_rg_7 r2_rg_7 r3_rg_7 r4_rg_7 r5_rg_7 r6_rg_7 r7_rg_7 r8_rg_7 r9_rg_7
  clear rg_7
  clear r0_ra1_6 f0_ra1_6 r1_ra1_6 f1_ra1_6 r2_ra1_6 f2_ra1_6 r3_ra1_6 f3_ra1_6 r4_ra1_6 f4_ra1_6 r5_ra1_6 f5_ra1_6 r6_ra1_6 f6_ra1_6 r7_ra1_6 f7_ra1_6 r8_ra1_6 f8_ra1_6 r9_ra1_6 f9_ra1_6
  clear r0_ra2_6 f0_ra2_6 r1_ra2_6 f1_ra2_6 r2_ra2_6 f2_ra2_6 r3_ra2_6 f3_ra2_6
  clear r0_rb_6 f0_rb_6 r1_rb_6 f1_rb_6 r2_rb_6 f2_rb_6 r3_rb_6 f3_rb_6 r4_rb_6 f4_rb_6 r5_rb_6 f5_rb_6 r6_rb_6 f6_rb_6 r7_rb_6 f7_rb_6 r8_rb_6 f8_rb_6 r9_rb_6 f9_rb_6
  clear r0_rp_6 f0_rp_6 r1_rp_6 f1_rp_6 r2_rp_6 f2_rp_6 r3_rp_6 f3_rp_6 r4_rp_6 f4_rp_6 r5_rp_6 f5_rp_6 r6_rp_6 f6_rp_6 r7_rp_6 f7_rp_6 r8_rp_6 f8_rp_6 r9_rp_6 f9_rp_6
  clear r0_rq_6 f0_rq_6 r1_rq_6 f1_rq_6 r2_rq_6 f2_rq_6 r3_rq_6 f3_rq_6
  go_wp2_with fail
  go_cut [44] (fun z wx => z = .bool false ∧ Below w7.heap.size w7 wx)
  case first =>
    first | go_region_held3 (fun w' => (∀ b' o, b' < (w7).heap.size → w'.cell? ⟨b', o, none⟩ = (w7).cell? ⟨b', o, none⟩) ∧ Below (w7).heap.size (w7) w') (first | with_reducible assumption | (with_reducible apply rg_keep; rotate_left; with_reducible assumption; with_reducible assumption) | with_reducible exact rg_start _ | with_reducible exact rg_alloc (KeptS.out (by with_reducible assumption)) _ | with_reducible exact rg_alloc (by with_reducible assumption) _ | with_reducible exact rg_start_alloc _ _ | ((repeat (with_reducible refine rg_set ?_ _ (by first | exact Nat.le_refl _ | omega | (simp; done) | (simp; omega)) _)); first | with_reducible exact KeptS.out (by with_reducible assumption) | with_reducible assumption | with_reducible exact rg_alloc (KeptS.out (by with_reducible assumption)) _)) (first | (go_at_call 31; ((with_reducible refine (toKeys_any x1 _ _ M11.out M12.out _ (H11.out.below (ext_trans hw7 (rgBMacRow (by first | with_reducible assumption | exact KeptS.out (by with_reducible assumption))))) (H12.out.below (ext_trans hw7 (rgBMacRow (by first | with_reducible assumption | exact KeptS.out (by with_reducible assumption)))))).mono ?_); (rintro e wA ⟨vA1, vA2, rfl, hOA1, hOA2, hapA, hbA⟩; obtain ⟨AA1, cA1, rfl⟩ := hOA1.form; obtain ⟨AA2, cA2, rfl⟩ := hOA2.form; have hSA := rg_keepK (by first | with_reducible assumption | exact KeptS.out (by with_reducible assumption)) hbA; have hLA := hSA.size; have HOA1 := Lib.hid hOA1; clear hOA1; have HOA2 := Lib.hid hOA2; clear hOA2; (try have hZ := row_after hbA); (try have hZ := row_after_drew hbA); (try have hZ := row_kept (by assumption) hbA); (try (have rz := row_facts10 hZ; obtain ⟨rz0, rz1, rz2, rz3, rz4, rz5, rz6, rz7, rz8, rz9, fz⟩ := rz)); have hzhbA := hbA.size; (try simp at hzhbA)))) | (go_at_call 33; ((with_reducible refine (eqKeys_same x1 _ _ _ _ N11.out N12.out _ (Op1_7.out.below (rgBMacRow (by first | with_reducible assumption | exact KeptS.out (by with_reducible assumption)))).rd (Op2_7.out.below (rgBMacRow (by first | with_reducible assumption | exact KeptS.out (by with_reducible assumption)))).rd HOA1.out.rd HOA2.out.rd).mono ?_); (rintro e wC ⟨rfl, hbC⟩; have hSC := rg_keepK (by first | with_reducible assumption | exact KeptS.out (by with_reducible assumption)) hbC)))) | fail
    all_goals (go_wp2_with fail; go_meet; exact ⟨rfl, (by assumption : _ ∧ Below w7.heap.size w7 wC).2⟩)
  case rest =>
  obtain ⟨rfl, hb8⟩ := hcut
  rename World => w8
  have hz8 := hb8.size
  (try simp at hz8)
  have ra1_8 := (hb8.block _ (by first | omega | (simp; done) | (simp; omega))).trans Ra1_7.out
  have ra2_8 := (hb8.block _ (by first | omega | (simp; done) | (simp; omega))).trans Ra2_7.out
  have rb_8 := (hb8.block _ (by first | omega | (simp; done) | (simp; omega))).trans Rb_7.out
  have rp_8 := (hb8.block _ (by first | omega | (simp; done) | (simp; omega))).trans Rp_7.out
  have rq_8 := (hb8.block _ (by first | omega | (simp; done) | (simp; omega))).trans Rq_7.out
  have rg_8 := (hb8.block _ (by first | omega | (simp; done) | (simp; omega))).trans Rg_7.out
  have Ob1_8 := Lib.hid (Ob1_7.out.below (w' := w8) (by repeat (first | with_reducible exact Below.refl _ _ | with_reducible assumption | with_reducible refine Below.drew ?_ | with_reducible refine Below.alloc ?_ (by first | exact Nat.le_refl _ | omega | (simp; done) | (simp; omega)) _ | with_reducible refine Below.setCell ?_ (by first | exact Nat.le_refl _ | omega | (simp; done) | (simp; omega)) _ | (with_reducible refine ext_trans ?_ (by with_reducible assumption)))))
  have Ob2_8 := Lib.hid (Ob2_7.out.below (w' := w8) (by repeat (first | with_reducible exact Below.refl _ _ | with_reducible assumption | with_reducible refine Below.drew ?_ | with_reducible refine Below.alloc ?_ (by first | exact Nat.le_refl _ | omega | (simp; done) | (simp; omega)) _ | with_reducible refine Below.setCell ?_ (by first | exact Nat.le_refl _ | omega | (simp; done) | (simp; omega)) _ | (with_reducible refine ext_trans ?_ (by with_reducible assumption)))))
  have Op1_8 := Lib.hid (Op1_7.out.below (w' := w8) (by repeat (first | with_reducible exact Below.refl _ _ | with_reducible assumption | with_reducible refine Below.drew ?_ | with_reducible refine Below.alloc ?_ (by first | exact Nat.le_refl _ | omega | (simp; done) | (simp; omega)) _ | with_reducible refine Below.setCell ?_ (by first | exact Nat.le_refl _ | omega | (simp; done) | (simp; omega)) _ | (with_reducible refine ext_trans ?_ (by with_reducible assumption)))))
  have Op2_8 := Lib.hid (Op2_7.out.below (w' := w8) (by repeat (first | with_reducible exact Below.refl _ _ | with_reducible assumption | with_reducible refine Below.drew ?_ | with_reducible refine Below.alloc ?_ (by first | exact Nat.le_refl _ | omega | (simp; done) | (simp; omega)) _ | with_reducible refine Below.setCell ?_ (by first | exact Nat.le_refl _ | omega | (simp; done) | (simp; omega)) _ | (with_reducible refine ext_trans ?_ (by with_reducible assumption)))))
  have Oq1_8 := Lib.hid (Oq1_7.out.below (w' := w8) (by repeat (first | with_reducible exact Below.refl _ _ | with_reducible assumption | with_reducible refine Below.drew ?_ | with_reducible refine Below.alloc ?_ (by first | exact Nat.le_refl _ | omega | (simp; done) | (simp; omega)) _ | with_reducible refine Below.setCell ?_ (by first | exact Nat.le_refl _ | omega | (simp; done) | (simp; omega)) _ | (with_reducible refine ext_trans ?_ (by with_reducible assumption)))))
  have Og1_8 := Lib.hid (Og1_7.out.below (w' := w8) (by repeat (first | with_reducible exact Below.refl _ _ | with_reducible assumption | with_reducible refine Below.drew ?_ | with_reducible refine Below.alloc ?_ (by first | exact Nat.le_refl _ | omega | (simp; done) | (simp; omega)) _ | with_reducible refine Below.setCell ?_ (by first | exact Nat.le_refl _ | omega | (simp; done) | (simp; omega)) _ | (with_reducible refine ext_trans ?_ (by with_reducible assumption)))))
  have Og2_8 := Lib.hid (Og2_7.out.below (w' := w8) (by repeat (first | with_reducible exact Below.refl _ _ | with_reducible assumption | with_reducible refine Below.drew ?_ | with_reducible refine Below.alloc ?_ (by first | exact Nat.le_refl _ | omega | (simp; done) | (simp; omega)) _ | with_reducible refine Below.setCell ?_ (by first | exact Nat.le_refl _ | omega | (simp; done) | (simp; omega)) _ | (with_reducible refine ext_trans ?_ (by with_reducible assumption)))))
  have hw8 : Below w.heap.size w w8 := (by repeat (first | with_reducible exact Below.refl _ _ | with_reducible assumption | with_reducible refine Below.drew ?_ | with_reducible refine Below.alloc ?_ (by first | exact Nat.le_refl _ | omega | (simp; done) | (simp; omega)) _ | with_reducible refine Below.setCell ?_ (by first | exact Nat.le_refl _ | omega | (simp; done) | (simp; omega)) _ | (with_reducible refine ext_trans ?_ (by with_reducible assumption))))
  have lRa1_8 : w.heap.size < w8.heap.size := by omega
  have lRa2_8 : w.heap.size + 1 < w8.heap.size := by omega
  have lRb_8 : b3 < w8.heap.size := by omega
  have lRp_8 : w4.heap.size < w8.heap.size := by omega
  have lRq_8 : w5.heap.size < w8.heap.size := by omega
  have lRg_8 : w6.heap.size < w8.heap.size := by omega
  have Ra1_8 := Lib.hid ra1_8
  have r0_ra1_8 := cell_of_row _ _ 0 _ _ _ ra1_8
  have r1_ra1_8 := cell_of_row _ _ 1 _ _ _ ra1_8
  have r2_ra1_8 := cell_of_row _ _ 2 _ _ _ ra1_8
  have r3_ra1_8 := cell_of_row _ _ 3 _ _ _ ra1_8
  have r4_ra1_8 := cell_of_row _ _ 4 _ _ _ ra1_8
  have r5_ra1_8 := cell_of_row _ _ 5 _ _ _ ra1_8
  have r6_ra1_8 := cell_of_row _ _ 6 _ _ _ ra1_8
  have r7_ra1_8 := cell_of_row _ _ 7 _ _ _ ra1_8
  have r8_ra1_8 := cell_of_row _ _ 8 _ _ _ ra1_8
  have r9_ra1_8 := cell_of_row _ _ 9 _ _ _ ra1_8
  have f0_ra1_8 := frozen_of_row _ _ 0 _ _ ra1_8
  have f1_ra1_8 := frozen_of_row _ _ 1 _ _ ra1_8
  have f2_ra1_8 := frozen_of_row _ _ 2 _ _ ra1_8
  have f3_ra1_8 := frozen_of_row _ _ 3 _ _ ra1_8
  have f4_ra1_8 := frozen_of_row _ _ 4 _ _ ra1_8
  have f5_ra1_8 := frozen_of_row _ _ 5 _ _ ra1_8
  have f6_ra1_8 := frozen_of_row _ _ 6 _ _ ra1_8
  have f7_ra1_8 := frozen_of_row _ _ 7 _ _ ra1_8
  have f8_ra1_8 := frozen_of_row _ _ 8 _ _ ra1_8
  have f9_ra1_8 := frozen_of_row _ _ 9 _ _ ra1_8
  simp at r0_ra1_8 r1_ra1_8 r2_ra1_8 r3_ra1_8 r4_ra1_8 r5_ra1_8 r6_ra1_8 r7_ra1_8 r8_ra1_8 r9_ra1_8
  clear ra1_8
  have Ra2_8 := Lib.hid ra2_8
  have r0_ra2_8 := cell_of_row _ _ 0 _ _ _ ra2_8
  have r1_ra2_8 := cell_of_row _ _ 1 _ _ _ ra2_8
  have r2_ra2_8 := cell_of_row _ _ 2 _ _ _ ra2_8
  have r3_ra2_8 := cell_of_row _ _ 3 _ _ _ ra2_8
  have f0_ra2_8 := frozen_of_row _ _ 0 _ _ ra2_8
  have f1_ra2_8 := frozen_of_row _ _ 1 _ _ ra2_8
  have f2_ra2_8 := frozen_of_row _ _ 2 _ _ ra2_8
  have f3_ra2_8 := frozen_of_row _ _ 3 _ _ ra2_8
  simp at r0_ra2_8 r1_ra2_8 r2_ra2_8 r3_ra2_8
  clear ra2_8
  have Rb_8 := Lib.hid rb_8
  have r0_rb_8 := cell_of_row _ _ 0 _ _ _ rb_8
  have r1_rb_8 := cell_of_row _ _ 1 _ _ _ rb_8
  have r2_rb_8 := cell_of_row _ _ 2 _ _ _ rb_8
  have r3_rb_8 := cell_of_row _ _ 3 _ _ _ rb_8
  have r4_rb_8 := cell_of_row _ _ 4 _ _ _ rb_8
  have r5_rb_8 := cell_of_row _ _ 5 _ _ _ rb_8
  have r6_rb_8 := cell_of_row _ _ 6 _ _ _ rb_8
  have r7_rb_8 := cell_of_row _ _ 7 _ _ _ rb_8
  have r8_rb_8 := cell_of_row _ _ 8 _ _ _ rb_8
  have r9_rb_8 := cell_of_row _ _ 9 _ _ _ rb_8
  have f0_rb_8 := frozen_of_row _ _ 0 _ _ rb_8
  have f1_rb_8 := frozen_of_row _ _ 1 _ _ rb_8
  have f2_rb_8 := frozen_of_row _ _ 2 _ _ rb_8
  have f3_rb_8 := frozen_of_row _ _ 3 _ _ rb_8
  have f4_rb_8 := frozen_of_row _ _ 4 _ _ rb_8
  have f5_rb_8 := frozen_of_row _ _ 5 _ _ rb_8
  have f6_rb_8 := frozen_of_row _ _ 6 _ _ rb_8
  have f7_rb_8 := frozen_of_row _ _ 7 _ _ rb_8
  have f8_rb_8 := frozen_of_row _ _ 8 _ _ rb_8
  have f9_rb_8 := frozen_of_row _ _ 9 _ _ rb_8
  simp at r0_rb_8 r1_rb_8 r2_rb_8 r3_rb_8 r4_rb_8 r5_rb_8 r6_rb_8 r7_rb_8 r8_rb_8 r9_rb_8
  clear rb_8
  have Rp_8 := Lib.hid rp_8
  have r0_rp_8 := cell_of_row _ _ 0 _ _ _ rp_8
  have r1_rp_8 := cell_of_row _ _ 1 _ _ _ rp_8
  have r2_rp_8 := cell_of_row _ _ 2 _ _ _ rp_8
  have r3_rp_8 := cell_of_row _ _ 3 _ _ _ rp_8
  have r4_rp_8 := cell_of_row _ _ 4 _ _ _ rp_8
  have r5_rp_8 := cell_of_row _ _ 5 _ _ _ rp_8
  have r6_rp_8 := cell_of_row _ _ 6 _ _ _ rp_8
  have r7_rp_8 := cell_of_row _ _ 7 _ _ _ rp_8
  have r8_rp_8 := cell_of_row _ _ 8 _ _ _ rp_8
  have r9_rp_8 := cell_of_row _ _ 9 _ _ _ rp_8
  have f0_rp_8 := frozen_of_row _ _ 0 _ _ rp_8
  have f1_rp_8 := frozen_of_row _ _ 1 _ _ rp_8
  have f2_rp_8 := frozen_of_row _ _ 2 _ _ rp_8
  have f3_rp_8 := frozen_of_row _ _ 3 _ _ rp_8
  have f4_rp_8 := frozen_of_row _ _ 4 _ _ rp_8
  have f5_rp_8 := frozen_of_row _ _ 5 _ _ rp_8
  have f6_rp_8 := frozen_of_row _ _ 6 _ _ rp_8
  have f7_rp_8 := frozen_of_row _ _ 7 _ _ rp_8
  have f8_rp_8 := frozen_of_row _ _ 8 _ _ rp_8
  have f9_rp_8 := frozen_of_row _ _ 9 _ _ rp_8
  simp at r0_rp_8 r1_rp_8 r2_rp_8 r3_rp_8 r4_rp_8 r5_rp_8 r6_rp_8 r7_rp_8 r8_rp_8 r9_rp_8
  clear rp_8
  have Rq_8 := Lib.hid rq_8
  have r0_rq_8 := cell_of_row _ _ 0 _ _ _ rq_8
  have r1_rq_8 := cell_of_row _ _ 1 _ _ _ rq_8
  have r2_rq_8 := cell_of_row _ _ 2 _ _ _ rq_8
  have r3_rq_8 := cell_of_row _ _ 3 _ _ _ rq_8
  have f0_rq_8 := frozen_of_row _ _ 0 _ _ rq_8
  have f1_rq_8 := frozen_of_row _ _ 1 _ _ rq_8
  have f2_rq_8 := frozen_of_row _ _ 2 _ _ rq_8
  have f3_rq_8 := frozen_of_row _ _ 3 _ _ rq_8
  simp at r0_rq_8 r1_rq_8 r2_rq_8 r3_rq_8
  clear rq_8
  have Rg_8 := Lib.hid rg_8
  have r0_rg_8 := cell_of_row _ _ 0 _ _ _ rg_8
  have r1_rg_8 := cell_of_row _ _ 1 _ _ _ rg_8
  have r2_rg_8 := cell_of_row _ _ 2 _ _ _ rg_8
  have r3_rg_8 := cell_of_row _ _ 3 _ _ _ rg_8
  have r4_rg_8 := cell_of_row _ _ 4 _ _ _ rg_8
  have r5_rg_8 := cell_of_row _ _ 5 _ _ _ rg_8
  have r6_rg_8 := cell_of_row _ _ 6 _ _ _ rg_8
  have r7_rg_8 := cell_of_row _ _ 7 _ _ _ rg_8
  have r8_rg_8 := cell_of_row _ _ 8 _ _ _ rg_8
  have r9_rg_8 := cell_of_row _ _ 9 _ _ _ rg_8
  have f0_rg_8 := frozen_of_row _ _ 0 _ _ rg_8
  have f1_rg_8 := frozen_of_row _ _ 1 _ _ rg_8
  have f2_rg_8 := frozen_of_row _ _ 2 _ _ rg_8
  have f3_rg_8 := frozen_of_row _ _ 3 _ _ rg_8
  have f4_rg_8 := frozen_of_row _ _ 4 _ _ rg_8
  have f5_rg_8 := frozen_of_row _ _ 5 _ _ rg_8
  have f6_rg_8 := frozen_of_row _ _ 6 _ _ rg_8
  have f7_rg_8 := frozen_of_row _ _ 7 _ _ rg_8
  have f8_rg_8 := frozen_of_row _ _ 8 _ _ rg_8
  have f9_rg_8 := frozen_of_row _ _ 9 _ _ rg_8
  simp at r0_rg_8 r1_rg_8 r2_rg_8 r3_rg_8 r4_rg_8 r5_rg_8 r6_rg_8 r7_rg_8 r8_rg_8 r9_rg_8
  clear rg_8
  clear r0_ra1_7 f0_ra1_7 r1_ra1_7 f1_ra1_7 r2_ra1_7 f2_ra1_7 r3_ra1_7 f3_ra1_7 r4_ra1_7 f4_ra1_7 r5_ra1_7 f5_ra1_7 r6_ra1_7 f6_ra1_7 r7_ra1_7 f7_ra1_7 r8_ra1_7 f8_ra1_7 r9_ra1_7 f9_ra1_7
  clear r0_ra2_7 f0_ra2_7 r1_ra2_7 f1_ra2_7 r2_ra2_7 f2_ra2_7 r3_ra2_7 f3_ra2_7
  clear r0_rb_7 f0_rb_7 r1_rb_7 f1_rb_7 r2_rb_7 f2_rb_7 r3_rb_7 f3_rb_7 r4_rb_7 f4_rb_7 r5_rb_7 f5_rb_7 r6_rb_7 f6_rb_7 r7_rb_7 f7_rb_7 r8_rb_7 f8_rb_7 r9_rb_7 f9_rb_7
  clear r0_rp_7 f0_rp_7 r1_rp_7 f1_rp_7 r2_rp_7 f2_rp_7 r3_rp_7 f3_rp_7 r4_rp_7 f4_rp_7 r5_rp_7 f5_rp_7 r6_rp_7 f6_rp_7 r7_rp_7 f7_rp_7 r8_rp_7 f8_rp_7 r9_rp_7 f9_rp_7
  clear r0_rq_7 f0_rq_7 r1_rq_7 f1_rq_7 r2_rq_7 f2_rq_7 r3_rq_7 f3_rq_7
  clear r0_rg_7 f0_rg_7 r1_rg_7 f1_rg_7 r2_rg_7 f2_rg_7 r3_rg_7 f3_rg_7 r4_rg_7 f4_rg_7 r5_rg_7 f5_rg_7 r6_rg_7 f6_rg_7 r7_rg_7 f7_rg_7 r8_rg_7 f8_rg_7 r9_rg_7 f9_rg_7
  go_wp2_with fail
  go_cut [49] (fun z wx => z = .bool false ∧ Below w8.heap.size w8 wx)
  case first =>
    first | go_region_held3 (fun w' => (∀ b' o, b' < (w8).heap.size → w'.cell? ⟨b', o, none⟩ = (w8).cell? ⟨b', o, none⟩) ∧ Below (w8).heap.size (w8) w') (first | with_reducible assumption | (with_reducible apply rg_keep; rotate_left; with_reducible assumption; with_reducible assumption) | with_reducible exact rg_start _ | with_reducible exact rg_alloc (KeptS.out (by with_reducible assumption)) _ | with_reducible exact rg_alloc (by with_reducible assumption) _ | with_reducible exact rg_start_alloc _ _ | ((repeat (with_reducible refine rg_set ?_ _ (by first | exact Nat.le_refl _ | omega | (simp; done) | (simp; omega)) _)); first | with_reducible exact KeptS.out (by with_reducible assumption) | with_reducible assumption | with_reducible exact rg_alloc (KeptS.out (by with_reducible assumption)) _)) (first | (go_at_call 39; ((with_reducible refine (toMc_any x2 _ M21.out _ (H21.out.below (ext_trans hw8 (rgBMacRow (by first | with_reducible assumption | exact KeptS.out (by with_reducible assumption)))))).mono ?_); (rintro e wA ⟨vA1, rfl, hOA1, hbA⟩; obtain ⟨AA1, cA1, rfl⟩ := hOA1.form; have hSA := rg_keepK (by first | with_reducible assumption | exact KeptS.out (by with_reducible assumption)) hbA; have hLA := hSA.size; have HOA1 := Lib.hid hOA1; clear hOA1; (try have hZ := row_after hbA); (try have hZ := row_after_drew hbA); (try have hZ := row_kept (by assumption) hbA); (try (have rz := row_facts10 hZ; obtain ⟨rz0, rz1, rz2, rz3, rz4, rz5, rz6, rz7, rz8, rz9, fz⟩ := rz)); have hzhbA := hbA.size; (try simp at hzhbA)))) | (go_at_call 34; ((with_reducible refine (eqMc_same x2 _ _ N21.out _ (Oq1_8.out.below (rgBMacRow (by first | with_reducible assumption | exact KeptS.out (by with_reducible assumption)))).rd HOA1.out.rd).mono ?_); (rintro e wC ⟨rfl, hbC⟩; have hSC := rg_keepK (by first | with_reducible assumption | exact KeptS.out (by with_reducible assumption)) hbC)))) | fail
    all_goals (go_wp2_with fail; go_meet; exact ⟨rfl, (by assumption : _ ∧ Below w8.heap.size w8 wC).2⟩)
  case rest =>
  obtain ⟨rfl, hb9⟩ := hcut
  rename World => w9
  have hz9 := hb9.size
  (try simp at hz9)
  have ra1_9 := (hb9.block _ (by first | omega | (simp; done) | (simp; omega))).trans Ra1_8.out
  have ra2_9 := (hb9.block _ (by first | omega | (simp; done) | (simp; omega))).trans Ra2_8.out
  have rb_9 := (hb9.block _ (by first | omega | (simp; done) | (simp; omega))).trans Rb_8.out
  have rp_9 := (hb9.block _ (by first | omega | (simp; done) | (simp; omega))).trans Rp_8.out
  have rq_9 := (hb9.block _ (by first | omega | (simp; done) | (simp; omega))).trans Rq_8.out
  have rg_9 := (hb9.block _ (by first | omega | (simp; done) | (simp; omega))).trans Rg_8.out
  have Ob1_9 := Lib.hid (Ob1_8.out.below (w' := w9) (by repeat (first | with_reducible exact Below.refl _ _ | with_reducible assumption | with_reducible refine Below.drew ?_ | with_reducible refine Below.alloc ?_ (by first | exact Nat.le_refl _ | omega | (simp; done) | (simp; omega)) _ | with_reducible refine Below.setCell ?_ (by first | exact Nat.le_refl _ | omega | (simp; done) | (simp; omega)) _ | (with_reducible refine ext_trans ?_ (by with_reducible assumption)))))
  have Ob2_9 := Lib.hid (Ob2_8.out.below (w' := w9) (by repeat (first | with_reducible exact Below.refl _ _ | with_reducible assumption | with_reducible refine Below.drew ?_ | with_reducible refine Below.alloc ?_ (by first | exact Nat.le_refl _ | omega | (simp; done) | (simp; omega)) _ | with_reducible refine Below.setCell ?_ (by first | exact Nat.le_refl _ | omega | (simp; done) | (simp; omega)) _ | (with_reducible refine ext_trans ?_ (by with_reducible assumption)))))
  have Op1_9 := Lib.hid (Op1_8.out.below (w' := w9) (by repeat (first | with_reducible exact Below.refl _ _ | with_reducible assumption | with_reducible refine Below.drew ?_ | with_reducible refine Below.alloc ?_ (by first | exact Nat.le_refl _ | omega | (simp; done) | (simp; omega)) _ | with_reducible refine Below.setCell ?_ (by first | exact Nat.le_refl _ | omega | (simp; done) | (simp; omega)) _ | (with_reducible refine ext_trans ?_ (by with_reducible assumption)))))
  have Op2_9 := Lib.hid (Op2_8.out.below (w' := w9) (by repeat (first | with_reducible exact Below.refl _ _ | with_reducible assumption | with_reducible refine Below.drew ?_ | with_reducible refine Below.alloc ?_ (by first | exact Nat.le_refl _ | omega | (simp; done) | (simp; omega)) _ | with_reducible refine Below.setCell ?_ (by first | exact Nat.le_refl _ | omega | (simp; done) | (simp; omega)) _ | (with_reducible refine ext_trans ?_ (by with_reducible assumption)))))
  have Oq1_9 := Lib.hid (Oq1_8.out.below (w' := w9) (by repeat (first | with_reducible exact Below.refl _ _ | with_reducible assumption | with_reducible refine Below.drew ?_ | with_reducible refine Below.alloc ?_ (by first | exact Nat.le_refl _ | omega | (simp; done) | (simp; omega)) _ | with_reducible refine Below.setCell ?_ (by first | exact Nat.le_refl _ | omega | (simp; done) | (simp; omega)) _ | (with_reducible refine ext_trans ?_ (by with_reducible assumption)))))
  have Og1_9 := Lib.hid (Og1_8.out.below (w' := w9) (by repeat (first | with_reducible exact Below.refl _ _ | with_reducible assumption | with_reducible refine Below.drew ?_ | with_reducible refine Below.alloc ?_ (by first | exact Nat.le_refl _ | omega | (simp; done) | (simp; omega)) _ | with_reducible refine Below.setCell ?_ (by first | exact Nat.le_refl _ | omega | (simp; done) | (simp; omega)) _ | (with_reducible refine ext_trans ?_ (by with_reducible assumption)))))
  have Og2_9 := Lib.hid (Og2_8.out.below (w' := w9) (by repeat (first | with_reducible exact Below.refl _ _ | with_reducible assumption | with_reducible refine Below.drew ?_ | with_reducible refine Below.alloc ?_ (by first | exact Nat.le_refl _ | omega | (simp; done) | (simp; omega)) _ | with_reducible refine Below.setCell ?_ (by first | exact Nat.le_refl _ | omega | (simp; done) | (simp; omega)) _ | (with_reducible refine ext_trans ?_ (by with_reducible assumption)))))
  have hw9 : Below w.heap.size w w9 := (by repeat (first | with_reducible exact Below.refl _ _ | with_reducible assumption | with_reducible refine Below.drew ?_ | with_reducible refine Below.alloc ?_ (by first | exact Nat.le_refl _ | omega | (simp; done) | (simp; omega)) _ | with_reducible refine Below.setCell ?_ (by first | exact Nat.le_refl _ | omega | (simp; done) | (simp; omega)) _ | (with_reducible refine ext_trans ?_ (by with_reducible assumption))))
  have lRa1_9 : w.heap.size < w9.heap.size := by omega
  have lRa2_9 : w.heap.size + 1 < w9.heap.size := by omega
  have lRb_9 : b3 < w9.heap.size := by omega
  have lRp_9 : w4.heap.size < w9.heap.size := by omega
  have lRq_9 : w5.heap.size < w9.heap.size := by omega
  have lRg_9 : w6.heap.size < w9.heap.size := by omega
  have Ra1_9 := Lib.hid ra1_9
  have r0_ra1_9 := cell_of_row _ _ 0 _ _ _ ra1_9
  have r1_ra1_9 := cell_of_row _ _ 1 _ _ _ ra1_9
  have r2_ra1_9 := cell_of_row _ _ 2 _ _ _ ra1_9
  have r3_ra1_9 := cell_of_row _ _ 3 _ _ _ ra1_9
  have r4_ra1_9 := cell_of_row _ _ 4 _ _ _ ra1_9
  have r5_ra1_9 := cell_of_row _ _ 5 _ _ _ ra1_9
  have r6_ra1_9 := cell_of_row _ _ 6 _ _ _ ra1_9
  have r7_ra1_9 := cell_of_row _ _ 7 _ _ _ ra1_9
  have r8_ra1_9 := cell_of_row _ _ 8 _ _ _ ra1_9
  have r9_ra1_9 := cell_of_row _ _ 9 _ _ _ ra1_9
  have f0_ra1_9 := frozen_of_row _ _ 0 _ _ ra1_9
  have f1_ra1_9 := frozen_of_row _ _ 1 _ _ ra1_9
  have f2_ra1_9 := frozen_of_row _ _ 2 _ _ ra1_9
  have f3_ra1_9 := frozen_of_row _ _ 3 _ _ ra1_9
  have f4_ra1_9 := frozen_of_row _ _ 4 _ _ ra1_9
  have f5_ra1_9 := frozen_of_row _ _ 5 _ _ ra1_9
  have f6_ra1_9 := frozen_of_row _ _ 6 _ _ ra1_9
  have f7_ra1_9 := frozen_of_row _ _ 7 _ _ ra1_9
  have f8_ra1_9 := frozen_of_row _ _ 8 _ _ ra1_9
  have f9_ra1_9 := frozen_of_row _ _ 9 _ _ ra1_9
  simp at r0_ra1_9 r1_ra1_9 r2_ra1_9 r3_ra1_9 r4_ra1_9 r5_ra1_9 r6_ra1_9 r7_ra1_9 r8_ra1_9 r9_ra1_9
  clear ra1_9
  have Ra2_9 := Lib.hid ra2_9
  have r0_ra2_9 := cell_of_row _ _ 0 _ _ _ ra2_9
  have r1_ra2_9 := cell_of_row _ _ 1 _ _ _ ra2_9
  have r2_ra2_9 := cell_of_row _ _ 2 _ _ _ ra2_9
  have r3_ra2_9 := cell_of_row _ _ 3 _ _ _ ra2_9
  have f0_ra2_9 := frozen_of_row _ _ 0 _ _ ra2_9
  have f1_ra2_9 := frozen_of_row _ _ 1 _ _ ra2_9
  have f2_ra2_9 := frozen_of_row _ _ 2 _ _ ra2_9
  have f3_ra2_9 := frozen_of_row _ _ 3 _ _ ra2_9
  simp at r0_ra2_9 r1_ra2_9 r2_ra2_9 r3_ra2_9
  clear ra2_9
  have Rb_9 := Lib.hid rb_9
  have r0_rb_9 := cell_of_row _ _ 0 _ _ _ rb_9
  have r1_rb_9 := cell_of_row _ _ 1 _ _ _ rb_9
  have r2_rb_9 := cell_of_row _ _ 2 _ _ _ rb_9
  have r3_rb_9 := cell_of_row _ _ 3 _ _ _ rb_9
  have r4_rb_9 := cell_of_row _ _ 4 _ _ _ rb_9
  have r5_rb_9 := cell_of_row _ _ 5 _ _ _ rb_9
  have r6_rb_9 := cell_of_row _ _ 6 _ _ _ rb_9
  have r7_rb_9 := cell_of_row _ _ 7 _ _ _ rb_9
  have r8_rb_9 := cell_of_row _ _ 8 _ _ _ rb_9
  have r9_rb_9 := cell_of_row _ _ 9 _ _ _ rb_9
  have f0_rb_9 := frozen_of_row _ _ 0 _ _ rb_9
  have f1_rb_9 := frozen_of_row _ _ 1 _ _ rb_9
  have f2_rb_9 := frozen_of_row _ _ 2 _ _ rb_9
  have f3_rb_9 := frozen_of_row _ _ 3 _ _ rb_9
  have f4_rb_9 := frozen_of_row _ _ 4 _ _ rb_9
  have f5_rb_9 := frozen_of_row _ _ 5 _ _ rb_9
  have f6_rb_9 := frozen_of_row _ _ 6 _ _ rb_9
  have f7_rb_9 := frozen_of_row _ _ 7 _ _ rb_9
  have f8_rb_9 := frozen_of_row _ _ 8 _ _ rb_9
  have f9_rb_9 := frozen_of_row _ _ 9 _ _ rb_9
  simp at r0_rb_9 r1_rb_9 r2_rb_9 r3_rb_9 r4_rb_9 r5_rb_9 r6_rb_9 r7_rb_9 r8_rb_9 r9_rb_9
  clear rb_9
  have Rp_9 := Lib.hid rp_9
  have r0_rp_9 := cell_of_row _ _ 0 _ _ _ rp_9
  have r1_rp_9 := cell_of_row _ _ 1 _ _ _ rp_9
  have r2_rp_9 := cell_of_row _ _ 2 _ _ _ rp_9
  have r3_rp_9 := cell_of_row _ _ 3 _ _ _ rp_9
  have r4_rp_9 := cell_of_row _ _ 4 _ _ _ rp_9
  have r5_rp_9 := cell_of_row _ _ 5 _ _ _ rp_9
  have r6_rp_9 := cell_of_row _ _ 6 _ _ _ rp_9
  have r7_rp_9 := cell_of_row _ _ 7 _ _ _ rp_9
  have r8_rp_9 := cell_of_row _ _ 8 _ _ _ rp_9
  have r9_rp_9 := cell_of_row _ _ 9 _ _ _ rp_9
  have f0_rp_9 := frozen_of_row _ _ 0 _ _ rp_9
  have f1_rp_9 := frozen_of_row _ _ 1 _ _ rp_9
  have f2_rp_9 := frozen_of_row _ _ 2 _ _ rp_9
  have f3_rp_9 := frozen_of_row _ _ 3 _ _ rp_9
  have f4_rp_9 := frozen_of_row _ _ 4 _ _ rp_9
  have f5_rp_9 := frozen_of_row _ _ 5 _ _ rp_9
  have f6_rp_9 := frozen_of_row _ _ 6 _ _ rp_9
  have f7_rp_9 := frozen_of_row _ _ 7 _ _ rp_9
  have f8_rp_9 := frozen_of_row _ _ 8 _ _ rp_9
  have f9_rp_9 := frozen_of_row _ _ 9 _ _ rp_9
  simp at r0_rp_9 r1_rp_9 r2_rp_9 r3_rp_9 r4_rp_9 r5_rp_9 r6_rp_9 r7_rp_9 r8_rp_9 r9_rp_9
  clear rp_9
  have Rq_9 := Lib.hid rq_9
  have r0_rq_9 := cell_of_row _ _ 0 _ _ _ rq_9
  have r1_rq_9 := cell_of_row _ _ 1 _ _ _ rq_9
  have r2_rq_9 := cell_of_row _ _ 2 _ _ _ rq_9
  have r3_rq_9 := cell_of_row _ _ 3 _ _ _ rq_9
  have f0_rq_9 := frozen_of_row _ _ 0 _ _ rq_9
  have f1_rq_9 := frozen_of_row _ _ 1 _ _ rq_9
  have f2_rq_9 := frozen_of_row _ _ 2 _ _ rq_9
  have f3_rq_9 := frozen_of_row _ _ 3 _ _ rq_9
  simp at r0_rq_9 r1_rq_9 r2_rq_9 r3_rq_9
  clear rq_9
  have Rg_9 := Lib.hid rg_9
  have r0_rg_9 := cell_of_row _ _ 0 _ _ _ rg_9
  have r1_rg_9 := cell_of_row _ _ 1 _ _ _ rg_9
  have r2_rg_9 := cell_of_row _ _ 2 _ _ _ rg_9
  have r3_rg_9 := cell_of_row _ _ 3 _ _ _ rg_9
  have r4_rg_9 := cell_of_row _ _ 4 _ _ _ rg_9
  have r5_rg_9 := cell_of_row _ _ 5 _ _ _ rg_9
  have r6_rg_9 := cell_of_row _ _ 6 _ _ _ rg_9
  have r7_rg_9 := cell_of_row _ _ 7 _ _ _ rg_9
  have r8_rg_9 := cell_of_row _ _ 8 _ _ _ rg_9
  have r9_rg_9 := cell_of_row _ _ 9 _ _ _ rg_9
  have f0_rg_9 := frozen_of_row _ _ 0 _ _ rg_9
  have f1_rg_9 := frozen_of_row _ _ 1 _ _ rg_9
  have f2_rg_9 := frozen_of_row _ _ 2 _ _ rg_9
  have f3_rg_9 := frozen_of_row _ _ 3 _ _ rg_9
  have f4_rg_9 := frozen_of_row _ _ 4 _ _ rg_9
  have f5_rg_9 := frozen_of_row _ _ 5 _ _ rg_9
  have f6_rg_9 := frozen_of_row _ _ 6 _ _ rg_9
  have f7_rg_9 := frozen_of_row _ _ 7 _ _ rg_9
  have f8_rg_9 := frozen_of_row _ _ 8 _ _ rg_9
  have f9_rg_9 := frozen_of_row _ _ 9 _ _ rg_9
  simp at r0_rg_9 r1_rg_9 r2_rg_9 r3_rg_9 r4_rg_9 r5_rg_9 r6_rg_9 r7_rg_9 r8_rg_9 r9_rg_9
  clear rg_9
  clear r0_ra1_8 f0_ra1_8 r1_ra1_8 f1_ra1_8 r2_ra1_8 f2_ra1_8 r3_ra1_8 f3_ra1_8 r4_ra1_8 f4_ra1_8 r5_ra1_8 f5_ra1_8 r6_ra1_8 f6_ra1_8 r7_ra1_8 f7_ra1_8 r8_ra1_8 f8_ra1_8 r9_ra1_8 f9_ra1_8
  clear r0_ra2_8 f0_ra2_8 r1_ra2_8 f1_ra2_8 r2_ra2_8 f2_ra2_8 r3_ra2_8 f3_ra2_8
  clear r0_rb_8 f0_rb_8 r1_rb_8 f1_rb_8 r2_rb_8 f2_rb_8 r3_rb_8 f3_rb_8 r4_rb_8 f4_rb_8 r5_rb_8 f5_rb_8 r6_rb_8 f6_rb_8 r7_rb_8 f7_rb_8 r8_rb_8 f8_rb_8 r9_rb_8 f9_rb_8
  clear r0_rp_8 f0_rp_8 r1_rp_8 f1_rp_8 r2_rp_8 f2_rp_8 r3_rp_8 f3_rp_8 r4_rp_8 f4_rp_8 r5_rp_8 f5_rp_8 r6_rp_8 f6_rp_8 r7_rp_8 f7_rp_8 r8_rp_8 f8_rp_8 r9_rp_8 f9_rp_8
  clear r0_rq_8 f0_rq_8 r1_rq_8 f1_rq_8 r2_rq_8 f2_rq_8 r3_rq_8 f3_rq_8
  clear r0_rg_8 f0_rg_8 r1_rg_8 f1_rg_8 r2_rg_8 f2_rg_8 r3_rg_8 f3_rg_8 r4_rg_8 f4_rg_8 r5_rg_8 f5_rg_8 r6_rg_8 f6_rg_8 r7_rg_8 f7_rg_8 r8_rg_8 f8_rg_8 r9_rg_8 f9_rg_8
  go_wp2_with fail
  refine (markKeys_any x1 _ _ M11.out M12.out 1 (by omega) (by omega) _ _ _ Op1_9.out Op2_9.out (fun h h' => (hap4 h h'))).mono ?_
  rintro e w10 ⟨rfl, hO101, hO102, wm10, hg101, hg102⟩
  have hz101 := hg101.size
  have hz102 := hg102.size
  have hz10 : w9.heap.size ≤ w10.heap.size := by omega
  have ra1_10 := (box_kept (bx := w.heap.size) Bp2.out (marksMacRow_len _ _) hg102 (by omega) (by omega)).trans ((box_kept (bx := w.heap.size) Bp1.out (marksMacRow_len _ _) hg101 (by omega) (by omega)).trans (Ra1_9.out))
  have ra2_10 := (box_kept (bx := w.heap.size + 1) Bp2.out (marksMacRow_len _ _) hg102 (by omega) (by omega)).trans ((box_kept (bx := w.heap.size + 1) Bp1.out (marksMacRow_len _ _) hg101 (by omega) (by omega)).trans (Ra2_9.out))
  have rb_10 := (box_kept (bx := b3) Bp2.out (marksMacRow_len _ _) hg102 (by omega) (by omega)).trans ((box_kept (bx := b3) Bp1.out (marksMacRow_len _ _) hg101 (by omega) (by omega)).trans (Rb_9.out))
  have rp_10 := (box_kept (bx := w4.heap.size) Bp2.out (marksMacRow_len _ _) hg102 (by omega) (by omega)).trans ((box_kept (bx := w4.heap.size) Bp1.out (marksMacRow_len _ _) hg101 (by omega) (by omega)).trans (Rp_9.out))
  have rq_10 := (box_kept (bx := w5.heap.size) Bp2.out (marksMacRow_len _ _) hg102 (by omega) (by omega)).trans ((box_kept (bx := w5.heap.size) Bp1.out (marksMacRow_len _ _) hg101 (by omega) (by omega)).trans (Rq_9.out))
  have rg_10 := (box_kept (bx := w6.heap.size) Bp2.out (marksMacRow_len _ _) hg102 (by omega) (by omega)).trans ((box_kept (bx := w6.heap.size) Bp1.out (marksMacRow_len _ _) hg101 (by omega) (by omega)).trans (Rg_9.out))
  have hwm10 : Below w.heap.size w wm10 := Below.grown hw9 hg101 hw9.size (fun k hk => by have := chg_ge Bp1.out (marksMacRow_len _ _) k hk; omega)
  have hw10 : Below w.heap.size w w10 := Below.grown hwm10 hg102 hwm10.size (fun k hk => by have := chg_ge Bp2.out (marksMacRow_len _ _) k hk; omega)
  have Ob1_10 := Lib.hid (OwnE.apart (OwnE.apart Ob1_9.out hg101 (fun h h' => (own_ne Bb1.out Bp1.out (by first | omega | (simp; omega)) h (marks_ne h')))) hg102 (fun h h' => (own_ne Bb1.out Bp2.out (by first | omega | (simp; omega)) h (marks_ne h'))))
  have Ob2_10 := Lib.hid (OwnE.apart (OwnE.apart Ob2_9.out hg101 (fun h h' => (own_ne Bb2.out Bp1.out (by first | omega | (simp; omega)) h (marks_ne h')))) hg102 (fun h h' => (own_ne Bb2.out Bp2.out (by first | omega | (simp; omega)) h (marks_ne h'))))
  have Oq1_10 := Lib.hid (OwnE.apart (OwnE.apart Oq1_9.out hg101 (fun h h' => (own_ne Bp1.out Bq1.out (by first | omega | (simp; omega)) (marks_ne h') h).symm)) hg102 (fun h h' => (own_ne Bp2.out Bq1.out (by first | omega | (simp; omega)) (marks_ne h') h).symm))
  have Og1_10 := Lib.hid (OwnE.apart (OwnE.apart Og1_9.out hg101 (fun h h' => (own_ne Bp1.out Bg1.out (by first | omega | (simp; omega)) (marks_ne h') h).symm)) hg102 (fun h h' => (own_ne Bp2.out Bg1.out (by first | omega | (simp; omega)) (marks_ne h') h).symm))
  have Og2_10 := Lib.hid (OwnE.apart (OwnE.apart Og2_9.out hg101 (fun h h' => (own_ne Bp1.out Bg2.out (by first | omega | (simp; omega)) (marks_ne h') h).symm)) hg102 (fun h h' => (own_ne Bp2.out Bg2.out (by first | omega | (simp; omega)) (marks_ne h') h).symm))
  have Op1_10 := Lib.hid hO101
  have Op2_10 := Lib.hid hO102
  have lRa1_10 : w.heap.size < w10.heap.size := by omega
  have lRa2_10 : w.heap.size + 1 < w10.heap.size := by omega
  have lRb_10 : b3 < w10.heap.size := by omega
  have lRp_10 : w4.heap.size < w10.heap.size := by omega
  have lRq_10 : w5.heap.size < w10.heap.size := by omega
  have lRg_10 : w6.heap.size < w10.heap.size := by omega
  have Ra1_10 := Lib.hid ra1_10
  have r0_ra1_10 := cell_of_row _ _ 0 _ _ _ ra1_10
  have r1_ra1_10 := cell_of_row _ _ 1 _ _ _ ra1_10
  have r2_ra1_10 := cell_of_row _ _ 2 _ _ _ ra1_10
  have r3_ra1_10 := cell_of_row _ _ 3 _ _ _ ra1_10
  have r4_ra1_10 := cell_of_row _ _ 4 _ _ _ ra1_10
  have r5_ra1_10 := cell_of_row _ _ 5 _ _ _ ra1_10
  have r6_ra1_10 := cell_of_row _ _ 6 _ _ _ ra1_10
  have r7_ra1_10 := cell_of_row _ _ 7 _ _ _ ra1_10
  have r8_ra1_10 := cell_of_row _ _ 8 _ _ _ ra1_10
  have r9_ra1_10 := cell_of_row _ _ 9 _ _ _ ra1_10
  have f0_ra1_10 := frozen_of_row _ _ 0 _ _ ra1_10
  have f1_ra1_10 := frozen_of_row _ _ 1 _ _ ra1_10
  have f2_ra1_10 := frozen_of_row _ _ 2 _ _ ra1_10
  have f3_ra1_10 := frozen_of_row _ _ 3 _ _ ra1_10
  have f4_ra1_10 := frozen_of_row _ _ 4 _ _ ra1_10
  have f5_ra1_10 := frozen_of_row _ _ 5 _ _ ra1_10
  have f6_ra1_10 := frozen_of_row _ _ 6 _ _ ra1_10
  have f7_ra1_10 := frozen_of_row _ _ 7 _ _ ra1_10
  have f8_ra1_10 := frozen_of_row _ _ 8 _ _ ra1_10
  have f9_ra1_10 := frozen_of_row _ _ 9 _ _ ra1_10
  simp at r0_ra1_10 r1_ra1_10 r2_ra1_10 r3_ra1_10 r4_ra1_10 r5_ra1_10 r6_ra1_10 r7_ra1_10 r8_ra1_10 r9_ra1_10
  clear ra1_10
  have Ra2_10 := Lib.hid ra2_10
  have r0_ra2_10 := cell_of_row _ _ 0 _ _ _ ra2_10
  have r1_ra2_10 := cell_of_row _ _ 1 _ _ _ ra2_10
  have r2_ra2_10 := cell_of_row _ _ 2 _ _ _ ra2_10
  have r3_ra2_10 := cell_of_row _ _ 3 _ _ _ ra2_10
  have f0_ra2_10 := frozen_of_row _ _ 0 _ _ ra2_10
  have f1_ra2_10 := frozen_of_row _ _ 1 _ _ ra2_10
  have f2_ra2_10 := frozen_of_row _ _ 2 _ _ ra2_10
  have f3_ra2_10 := frozen_of_row _ _ 3 _ _ ra2_10
  simp at r0_ra2_10 r1_ra2_10 r2_ra2_10 r3_ra2_10
  clear ra2_10
  have Rb_10 := Lib.hid rb_10
  have r0_rb_10 := cell_of_row _ _ 0 _ _ _ rb_10
  have r1_rb_10 := cell_of_row _ _ 1 _ _ _ rb_10
  have r2_rb_10 := cell_of_row _ _ 2 _ _ _ rb_10
  have r3_rb_10 := cell_of_row _ _ 3 _ _ _ rb_10
  have r4_rb_10 := cell_of_row _ _ 4 _ _ _ rb_10
  have r5_rb_10 := cell_of_row _ _ 5 _ _ _ rb_10
  have r6_rb_10 := cell_of_row _ _ 6 _ _ _ rb_10
  have r7_rb_10 := cell_of_row _ _ 7 _ _ _ rb_10
  have r8_rb_10 := cell_of_row _ _ 8 _ _ _ rb_10
  have r9_rb_10 := cell_of_row _ _ 9 _ _ _ rb_10
  have f0_rb_10 := frozen_of_row _ _ 0 _ _ rb_10
  have f1_rb_10 := frozen_of_row _ _ 1 _ _ rb_10
  have f2_rb_10 := frozen_of_row _ _ 2 _ _ rb_10
  have f3_rb_10 := frozen_of_row _ _ 3 _ _ rb_10
  have f4_rb_10 := frozen_of_row _ _ 4 _ _ rb_10
  have f5_rb_10 := frozen_of_row _ _ 5 _ _ rb_10
  have f6_rb_10 := frozen_of_row _ _ 6 _ _ rb_10
  have f7_rb_10 := frozen_of_row _ _ 7 _ _ rb_10
  have f8_rb_10 := frozen_of_row _ _ 8 _ _ rb_10
  have f9_rb_10 := frozen_of_row _ _ 9 _ _ rb_10
  simp at r0_rb_10 r1_rb_10 r2_rb_10 r3_rb_10 r4_rb_10 r5_rb_10 r6_rb_10 r7_rb_10 r8_rb_10 r9_rb_10
  clear rb_10
  have Rp_10 := Lib.hid rp_10
  have r0_rp_10 := cell_of_row _ _ 0 _ _ _ rp_10
  have r1_rp_10 := cell_of_row _ _ 1 _ _ _ rp_10
  have r2_rp_10 := cell_of_row _ _ 2 _ _ _ rp_10
  have r3_rp_10 := cell_of_row _ _ 3 _ _ _ rp_10
  have r4_rp_10 := cell_of_row _ _ 4 _ _ _ rp_10
  have r5_rp_10 := cell_of_row _ _ 5 _ _ _ rp_10
  have r6_rp_10 := cell_of_row _ _ 6 _ _ _ rp_10
  have r7_rp_10 := cell_of_row _ _ 7 _ _ _ rp_10
  have r8_rp_10 := cell_of_row _ _ 8 _ _ _ rp_10
  have r9_rp_10 := cell_of_row _ _ 9 _ _ _ rp_10
  have f0_rp_10 := frozen_of_row _ _ 0 _ _ rp_10
  have f1_rp_10 := frozen_of_row _ _ 1 _ _ rp_10
  have f2_rp_10 := frozen_of_row _ _ 2 _ _ rp_10
  have f3_rp_10 := frozen_of_row _ _ 3 _ _ rp_10
  have f4_rp_10 := frozen_of_row _ _ 4 _ _ rp_10
  have f5_rp_10 := frozen_of_row _ _ 5 _ _ rp_10
  have f6_rp_10 := frozen_of_row _ _ 6 _ _ rp_10
  have f7_rp_10 := frozen_of_row _ _ 7 _ _ rp_10
  have f8_rp_10 := frozen_of_row _ _ 8 _ _ rp_10
  have f9_rp_10 := frozen_of_row _ _ 9 _ _ rp_10
  simp at r0_rp_10 r1_rp_10 r2_rp_10 r3_rp_10 r4_rp_10 r5_rp_10 r6_rp_10 r7_rp_10 r8_rp_10 r9_rp_10
  clear rp_10
  have Rq_10 := Lib.hid rq_10
  have r0_rq_10 := cell_of_row _ _ 0 _ _ _ rq_10
  have r1_rq_10 := cell_of_row _ _ 1 _ _ _ rq_10
  have r2_rq_10 := cell_of_row _ _ 2 _ _ _ rq_10
  have r3_rq_10 := cell_of_row _ _ 3 _ _ _ rq_10
  have f0_rq_10 := frozen_of_row _ _ 0 _ _ rq_10
  have f1_rq_10 := frozen_of_row _ _ 1 _ _ rq_10
  have f2_rq_10 := frozen_of_row _ _ 2 _ _ rq_10
  have f3_rq_10 := frozen_of_row _ _ 3 _ _ rq_10
  simp at r0_rq_10 r1_rq_10 r2_rq_10 r3_rq_10
  clear rq_10
  have Rg_10 := Lib.hid rg_10
  have r0_rg_10 := cell_of_row _ _ 0 _ _ _ rg_10
  have r1_rg_10 := cell_of_row _ _ 1 _ _ _ rg_10
  have r2_rg_10 := cell_of_row _ _ 2 _ _ _ rg_10
  have r3_rg_10 := cell_of_row _ _ 3 _ _ _ rg_10
  have r4_rg_10 := cell_of_row _ _ 4 _ _ _ rg_10
  have r5_rg_10 := cell_of_row _ _ 5 _ _ _ rg_10
  have r6_rg_10 := cell_of_row _ _ 6 _ _ _ rg_10
  have r7_rg_10 := cell_of_row _ _ 7 _ _ _ rg_10
  have r8_rg_10 := cell_of_row _ _ 8 _ _ _ rg_10
  have r9_rg_10 := cell_of_row _ _ 9 _ _ _ rg_10
  have f0_rg_10 := frozen_of_row _ _ 0 _ _ rg_10
  have f1_rg_10 := frozen_of_row _ _ 1 _ _ rg_10
  have f2_rg_10 := frozen_of_row _ _ 2 _ _ rg_10
  have f3_rg_10 := frozen_of_row _ _ 3 _ _ rg_10
  have f4_rg_10 := frozen_of_row _ _ 4 _ _ rg_10
  have f5_rg_10 := frozen_of_row _ _ 5 _ _ rg_10
  have f6_rg_10 := frozen_of_row _ _ 6 _ _ rg_10
  have f7_rg_10 := frozen_of_row _ _ 7 _ _ rg_10
  have f8_rg_10 := frozen_of_row _ _ 8 _ _ rg_10
  have f9_rg_10 := frozen_of_row _ _ 9 _ _ rg_10
  simp at r0_rg_10 r1_rg_10 r2_rg_10 r3_rg_10 r4_rg_10 r5_rg_10 r6_rg_10 r7_rg_10 r8_rg_10 r9_rg_10
  clear rg_10
  clear r0_ra1_9 f0_ra1_9 r1_ra1_9 f1_ra1_9 r2_ra1_9 f2_ra1_9 r3_ra1_9 f3_ra1_9 r4_ra1_9 f4_ra1_9 r5_ra1_9 f5_ra1_9 r6_ra1_9 f6_ra1_9 r7_ra1_9 f7_ra1_9 r8_ra1_9 f8_ra1_9 r9_ra1_9 f9_ra1_9
  clear r0_ra2_9 f0_ra2_9 r1_ra2_9 f1_ra2_9 r2_ra2_9 f2_ra2_9 r3_ra2_9 f3_ra2_9
  clear r0_rb_9 f0_rb_9 r1_rb_9 f1_rb_9 r2_rb_9 f2_rb_9 r3_rb_9 f3_rb_9 r4_rb_9 f4_rb_9 r5_rb_9 f5_rb_9 r6_rb_9 f6_rb_9 r7_rb_9 f7_rb_9 r8_rb_9 f8_rb_9 r9_rb_9 f9_rb_9
  clear r0_rp_9 f0_rp_9 r1_rp_9 f1_rp_9 r2_rp_9 f2_rp_9 r3_rp_9 f3_rp_9 r4_rp_9 f4_rp_9 r5_rp_9 f5_rp_9 r6_rp_9 f6_rp_9 r7_rp_9 f7_rp_9 r8_rp_9 f8_rp_9 r9_rp_9 f9_rp_9
  clear r0_rq_9 f0_rq_9 r1_rq_9 f1_rq_9 r2_rq_9 f2_rq_9 r3_rq_9 f3_rq_9
  clear r0_rg_9 f0_rg_9 r1_rg_9 f1_rg_9 r2_rg_9 f2_rg_9 r3_rg_9 f3_rg_9 r4_rg_9 f4_rg_9 r5_rg_9 f5_rg_9 r6_rg_9 f6_rg_9 r7_rg_9 f7_rg_9 r8_rg_9 f8_rg_9 r9_rg_9 f9_rg_9
  clear hO101 hg101 hO102 hg102
  have hm11 := M11.out
  have hm12 := M12.out
  go_wp2_with fail
  refine (markMc_any x2 _ M21.out (1 + 2 * x1.now.rs.length + 2 * x1.bef.rs.length) (by omega) (by omega) _ _ Oq1_10.out).mono ?_
  rintro e w11 ⟨rfl, hO111, hg111⟩
  have hz111 := hg111.size
  have hz11 : w10.heap.size ≤ w11.heap.size := by omega
  have ra1_11 := (box_kept (bx := w.heap.size) Bq1.out (marksMacRow_len _ _) hg111 (by omega) (by omega)).trans (Ra1_10.out)
  have ra2_11 := (box_kept (bx := w.heap.size + 1) Bq1.out (marksMacRow_len _ _) hg111 (by omega) (by omega)).trans (Ra2_10.out)
  have rb_11 := (box_kept (bx := b3) Bq1.out (marksMacRow_len _ _) hg111 (by omega) (by omega)).trans (Rb_10.out)
  have rp_11 := (box_kept (bx := w4.heap.size) Bq1.out (marksMacRow_len _ _) hg111 (by omega) (by omega)).trans (Rp_10.out)
  have rq_11 := (box_kept (bx := w5.heap.size) Bq1.out (marksMacRow_len _ _) hg111 (by omega) (by omega)).trans (Rq_10.out)
  have rg_11 := (box_kept (bx := w6.heap.size) Bq1.out (marksMacRow_len _ _) hg111 (by omega) (by omega)).trans (Rg_10.out)
  have hw11 : Below w.heap.size w w11 := Below.grown hw10 hg111 hw10.size (fun k hk => by have := chg_ge Bq1.out (marksMacRow_len _ _) k hk; omega)
  have Ob1_11 := Lib.hid (OwnE.apart Ob1_10.out hg111 (fun h h' => (own_ne Bb1.out Bq1.out (by first | omega | (simp; omega)) h (marks_ne h'))))
  have Ob2_11 := Lib.hid (OwnE.apart Ob2_10.out hg111 (fun h h' => (own_ne Bb2.out Bq1.out (by first | omega | (simp; omega)) h (marks_ne h'))))
  have Og1_11 := Lib.hid (OwnE.apart Og1_10.out hg111 (fun h h' => (own_ne Bq1.out Bg1.out (by first | omega | (simp; omega)) (marks_ne h') h).symm))
  have Og2_11 := Lib.hid (OwnE.apart Og2_10.out hg111 (fun h h' => (own_ne Bq1.out Bg2.out (by first | omega | (simp; omega)) (marks_ne h') h).symm))
  have Oq1_11 := Lib.hid hO111
  have lRa1_11 : w.heap.size < w11.heap.size := by omega
  have lRa2_11 : w.heap.size + 1 < w11.heap.size := by omega
  have lRb_11 : b3 < w11.heap.size := by omega
  have lRp_11 : w4.heap.size < w11.heap.size := by omega
  have lRq_11 : w5.heap.size < w11.heap.size := by omega
  have lRg_11 : w6.heap.size < w11.heap.size := by omega
  have Ra1_11 := Lib.hid ra1_11
  have r0_ra1_11 := cell_of_row _ _ 0 _ _ _ ra1_11
  have r1_ra1_11 := cell_of_row _ _ 1 _ _ _ ra1_11
  have r2_ra1_11 := cell_of_row _ _ 2 _ _ _ ra1_11
  have r3_ra1_11 := cell_of_row _ _ 3 _ _ _ ra1_11
  have r4_ra1_11 := cell_of_row _ _ 4 _ _ _ ra1_11
  have r5_ra1_11 := cell_of_row _ _ 5 _ _ _ ra1_11
  have r6_ra1_11 := cell_of_row _ _ 6 _ _ _ ra1_11
  have r7_ra1_11 := cell_of_row _ _ 7 _ _ _ ra1_11
  have r8_ra1_11 := cell_of_row _ _ 8 _ _ _ ra1_11
  have r9_ra1_11 := cell_of_row _ _ 9 _ _ _ ra1_11
  have f0_ra1_11 := frozen_of_row _ _ 0 _ _ ra1_11
  have f1_ra1_11 := frozen_of_row _ _ 1 _ _ ra1_11
  have f2_ra1_11 := frozen_of_row _ _ 2 _ _ ra1_11
  have f3_ra1_11 := frozen_of_row _ _ 3 _ _ ra1_11
  have f4_ra1_11 := frozen_of_row _ _ 4 _ _ ra1_11
  have f5_ra1_11 := frozen_of_row _ _ 5 _ _ ra1_11
  have f6_ra1_11 := frozen_of_row _ _ 6 _ _ ra1_11
  have f7_ra1_11 := frozen_of_row _ _ 7 _ _ ra1_11
  have f8_ra1_11 := frozen_of_row _ _ 8 _ _ ra1_11
  have f9_ra1_11 := frozen_of_row _ _ 9 _ _ ra1_11
  simp at r0_ra1_11 r1_ra1_11 r2_ra1_11 r3_ra1_11 r4_ra1_11 r5_ra1_11 r6_ra1_11 r7_ra1_11 r8_ra1_11 r9_ra1_11
  clear ra1_11
  have Ra2_11 := Lib.hid ra2_11
  have r0_ra2_11 := cell_of_row _ _ 0 _ _ _ ra2_11
  have r1_ra2_11 := cell_of_row _ _ 1 _ _ _ ra2_11
  have r2_ra2_11 := cell_of_row _ _ 2 _ _ _ ra2_11
  have r3_ra2_11 := cell_of_row _ _ 3 _ _ _ ra2_11
  have f0_ra2_11 := frozen_of_row _ _ 0 _ _ ra2_11
  have f1_ra2_11 := frozen_of_row _ _ 1 _ _ ra2_11
  have f2_ra2_11 := frozen_of_row _ _ 2 _ _ ra2_11
  have f3_ra2_11 := frozen_of_row _ _ 3 _ _ ra2_11
  simp at r0_ra2_11 r1_ra2_11 r2_ra2_11 r3_ra2_11
  clear ra2_11
  have Rb_11 := Lib.hid rb_11
  have r0_rb_11 := cell_of_row _ _ 0 _ _ _ rb_11
  have r1_rb_11 := cell_of_row _ _ 1 _ _ _ rb_11
  have r2_rb_11 := cell_of_row _ _ 2 _ _ _ rb_11
  have r3_rb_11 := cell_of_row _ _ 3 _ _ _ rb_11
  have r4_rb_11 := cell_of_row _ _ 4 _ _ _ rb_11
  have r5_rb_11 := cell_of_row _ _ 5 _ _ _ rb_11
  have r6_rb_11 := cell_of_row _ _ 6 _ _ _ rb_11
  have r7_rb_11 := cell_of_row _ _ 7 _ _ _ rb_11
  have r8_rb_11 := cell_of_row _ _ 8 _ _ _ rb_11
  have r9_rb_11 := cell_of_row _ _ 9 _ _ _ rb_11
  have f0_rb_11 := frozen_of_row _ _ 0 _ _ rb_11
  have f1_rb_11 := frozen_of_row _ _ 1 _ _ rb_11
  have f2_rb_11 := frozen_of_row _ _ 2 _ _ rb_11
  have f3_rb_11 := frozen_of_row _ _ 3 _ _ rb_11
  have f4_rb_11 := frozen_of_row _ _ 4 _ _ rb_11
  have f5_rb_11 := frozen_of_row _ _ 5 _ _ rb_11
  have f6_rb_11 := frozen_of_row _ _ 6 _ _ rb_11
  have f7_rb_11 := frozen_of_row _ _ 7 _ _ rb_11
  have f8_rb_11 := frozen_of_row _ _ 8 _ _ rb_11
  have f9_rb_11 := frozen_of_row _ _ 9 _ _ rb_11
  simp at r0_rb_11 r1_rb_11 r2_rb_11 r3_rb_11 r4_rb_11 r5_rb_11 r6_rb_11 r7_rb_11 r8_rb_11 r9_rb_11
  clear rb_11
  have Rp_11 := Lib.hid rp_11
  have r0_rp_11 := cell_of_row _ _ 0 _ _ _ rp_11
  have r1_rp_11 := cell_of_row _ _ 1 _ _ _ rp_11
  have r2_rp_11 := cell_of_row _ _ 2 _ _ _ rp_11
  have r3_rp_11 := cell_of_row _ _ 3 _ _ _ rp_11
  have r4_rp_11 := cell_of_row _ _ 4 _ _ _ rp_11
  have r5_rp_11 := cell_of_row _ _ 5 _ _ _ rp_11
  have r6_rp_11 := cell_of_row _ _ 6 _ _ _ rp_11
  have r7_rp_11 := cell_of_row _ _ 7 _ _ _ rp_11
  have r8_rp_11 := cell_of_row _ _ 8 _ _ _ rp_11
  have r9_rp_11 := cell_of_row _ _ 9 _ _ _ rp_11
  have f0_rp_11 := frozen_of_row _ _ 0 _ _ rp_11
  have f1_rp_11 := frozen_of_row _ _ 1 _ _ rp_11
  have f2_rp_11 := frozen_of_row _ _ 2 _ _ rp_11
  have f3_rp_11 := frozen_of_row _ _ 3 _ _ rp_11
  have f4_rp_11 := frozen_of_row _ _ 4 _ _ rp_11
  have f5_rp_11 := frozen_of_row _ _ 5 _ _ rp_11
  have f6_rp_11 := frozen_of_row _ _ 6 _ _ rp_11
  have f7_rp_11 := frozen_of_row _ _ 7 _ _ rp_11
  have f8_rp_11 := frozen_of_row _ _ 8 _ _ rp_11
  have f9_rp_11 := frozen_of_row _ _ 9 _ _ rp_11
  simp at r0_rp_11 r1_rp_11 r2_rp_11 r3_rp_11 r4_rp_11 r5_rp_11 r6_rp_11 r7_rp_11 r8_rp_11 r9_rp_11
  clear rp_11
  have Rq_11 := Lib.hid rq_11
  have r0_rq_11 := cell_of_row _ _ 0 _ _ _ rq_11
  have r1_rq_11 := cell_of_row _ _ 1 _ _ _ rq_11
  have r2_rq_11 := cell_of_row _ _ 2 _ _ _ rq_11
  have r3_rq_11 := cell_of_row _ _ 3 _ _ _ rq_11
  have f0_rq_11 := frozen_of_row _ _ 0 _ _ rq_11
  have f1_rq_11 := frozen_of_row _ _ 1 _ _ rq_11
  have f2_rq_11 := frozen_of_row _ _ 2 _ _ rq_11
  have f3_rq_11 := frozen_of_row _ _ 3 _ _ rq_11
  simp at r0_rq_11 r1_rq_11 r2_rq_11 r3_rq_11
  clear rq_11
  have Rg_11 := Lib.hid rg_11
  have r0_rg_11 := cell_of_row _ _ 0 _ _ _ rg_11
  have r1_rg_11 := cell_of_row _ _ 1 _ _ _ rg_11
  have r2_rg_11 := cell_of_row _ _ 2 _ _ _ rg_11
  have r3_rg_11 := cell_of_row _ _ 3 _ _ _ rg_11
  have r4_rg_11 := cell_of_row _ _ 4 _ _ _ rg_11
  have r5_rg_11 := cell_of_row _ _ 5 _ _ _ rg_11
  have r6_rg_11 := cell_of_row _ _ 6 _ _ _ rg_11
  have r7_rg_11 := cell_of_row _ _ 7 _ _ _ rg_11
  have r8_rg_11 := cell_of_row _ _ 8 _ _ _ rg_11
  have r9_rg_11 := cell_of_row _ _ 9 _ _ _ rg_11
  have f0_rg_11 := frozen_of_row _ _ 0 _ _ rg_11
  have f1_rg_11 := frozen_of_row _ _ 1 _ _ rg_11
  have f2_rg_11 := frozen_of_row _ _ 2 _ _ rg_11
  have f3_rg_11 := frozen_of_row _ _ 3 _ _ rg_11
  have f4_rg_11 := frozen_of_row _ _ 4 _ _ rg_11
  have f5_rg_11 := frozen_of_row _ _ 5 _ _ rg_11
  have f6_rg_11 := frozen_of_row _ _ 6 _ _ rg_11
  have f7_rg_11 := frozen_of_row _ _ 7 _ _ rg_11
  have f8_rg_11 := frozen_of_row _ _ 8 _ _ rg_11
  have f9_rg_11 := frozen_of_row _ _ 9 _ _ rg_11
  simp at r0_rg_11 r1_rg_11 r2_rg_11 r3_rg_11 r4_rg_11 r5_rg_11 r6_rg_11 r7_rg_11 r8_rg_11 r9_rg_11
  clear rg_11
  clear r0_ra1_10 f0_ra1_10 r1_ra1_10 f1_ra1_10 r2_ra1_10 f2_ra1_10 r3_ra1_10 f3_ra1_10 r4_ra1_10 f4_ra1_10 r5_ra1_10 f5_ra1_10 r6_ra1_10 f6_ra1_10 r7_ra1_10 f7_ra1_10 r8_ra1_10 f8_ra1_10 r9_ra1_10 f9_ra1_10
  clear r0_ra2_10 f0_ra2_10 r1_ra2_10 f1_ra2_10 r2_ra2_10 f2_ra2_10 r3_ra2_10 f3_ra2_10
  clear r0_rb_10 f0_rb_10 r1_rb_10 f1_rb_10 r2_rb_10 f2_rb_10 r3_rb_10 f3_rb_10 r4_rb_10 f4_rb_10 r5_rb_10 f5_rb_10 r6_rb_10 f6_rb_10 r7_rb_10 f7_rb_10 r8_rb_10 f8_rb_10 r9_rb_10 f9_rb_10
  clear r0_rp_10 f0_rp_10 r1_rp_10 f1_rp_10 r2_rp_10 f2_rp_10 r3_rp_10 f3_rp_10 r4_rp_10 f4_rp_10 r5_rp_10 f5_rp_10 r6_rp_10 f6_rp_10 r7_rp_10 f7_rp_10 r8_rp_10 f8_rp_10 r9_rp_10 f9_rp_10
  clear r0_rq_10 f0_rq_10 r1_rq_10 f1_rq_10 r2_rq_10 f2_rq_10 r3_rq_10 f3_rq_10
  clear r0_rg_10 f0_rg_10 r1_rg_10 f1_rg_10 r2_rg_10 f2_rg_10 r3_rg_10 f3_rg_10 r4_rg_10 f4_rg_10 r5_rg_10 f5_rg_10 r6_rg_10 f6_rg_10 r7_rg_10 f7_rg_10 r8_rg_10 f8_rg_10 r9_rg_10 f9_rg_10
  clear hO111 hg111
  have hk11 : ¬ ((((1 + 2 * x1.now.rs.length + 2 * x1.bef.rs.length) + 2 * x2.rs.length : Nat) : Int) < 0) := by omega
  clear hm11 hm12
  go_wp2_with fail
  refine (eqKeys_same R _ _ _ _ NR1.out NR2.out _ Og1_11.out.rd Og2_11.out.rd Ob1_11.out.rd Ob2_11.out.rd).mono ?_
  rintro e w12 ⟨rfl, hb12⟩
  have hz12 := hb12.size
  (try simp at hz12)
  have ra1_12 := (hb12.block _ (by first | omega | (simp; done) | (simp; omega))).trans Ra1_11.out
  have ra2_12 := (hb12.block _ (by first | omega | (simp; done) | (simp; omega))).trans Ra2_11.out
  have rb_12 := (hb12.block _ (by first | omega | (simp; done) | (simp; omega))).trans Rb_11.out
  have rp_12 := (hb12.block _ (by first | omega | (simp; done) | (simp; omega))).trans Rp_11.out
  have rq_12 := (hb12.block _ (by first | omega | (simp; done) | (simp; omega))).trans Rq_11.out
  have rg_12 := (hb12.block _ (by first | omega | (simp; done) | (simp; omega))).trans Rg_11.out
  have Ob1_12 := Lib.hid (Ob1_11.out.below (w' := w12) (by repeat (first | with_reducible exact Below.refl _ _ | with_reducible assumption | with_reducible refine Below.drew ?_ | with_reducible refine Below.alloc ?_ (by first | exact Nat.le_refl _ | omega | (simp; done) | (simp; omega)) _ | with_reducible refine Below.setCell ?_ (by first | exact Nat.le_refl _ | omega | (simp; done) | (simp; omega)) _ | (with_reducible refine ext_trans ?_ (by with_reducible assumption)))))
  have Ob2_12 := Lib.hid (Ob2_11.out.below (w' := w12) (by repeat (first | with_reducible exact Below.refl _ _ | with_reducible assumption | with_reducible refine Below.drew ?_ | with_reducible refine Below.alloc ?_ (by first | exact Nat.le_refl _ | omega | (simp; done) | (simp; omega)) _ | with_reducible refine Below.setCell ?_ (by first | exact Nat.le_refl _ | omega | (simp; done) | (simp; omega)) _ | (with_reducible refine ext_trans ?_ (by with_reducible assumption)))))
  have Og1_12 := Lib.hid (Og1_11.out.below (w' := w12) (by repeat (first | with_reducible exact Below.refl _ _ | with_reducible assumption | with_reducible refine Below.drew ?_ | with_reducible refine Below.alloc ?_ (by first | exact Nat.le_refl _ | omega | (simp; done) | (simp; omega)) _ | with_reducible refine Below.setCell ?_ (by first | exact Nat.le_refl _ | omega | (simp; done) | (simp; omega)) _ | (with_reducible refine ext_trans ?_ (by with_reducible assumption)))))
  have Og2_12 := Lib.hid (Og2_11.out.below (w' := w12) (by repeat (first | with_reducible exact Below.refl _ _ | with_reducible assumption | with_reducible refine Below.drew ?_ | with_reducible refine Below.alloc ?_ (by first | exact Nat.le_refl _ | omega | (simp; done) | (simp; omega)) _ | with_reducible refine Below.setCell ?_ (by first | exact Nat.le_refl _ | omega | (simp; done) | (simp; omega)) _ | (with_reducible refine ext_trans ?_ (by with_reducible assumption)))))
  have hw12 : Below w.heap.size w w12 := (by repeat (first | with_reducible exact Below.refl _ _ | with_reducible assumption | with_reducible refine Below.drew ?_ | with_reducible refine Below.alloc ?_ (by first | exact Nat.le_refl _ | omega | (simp; done) | (simp; omega)) _ | with_reducible refine Below.setCell ?_ (by first | exact Nat.le_refl _ | omega | (simp; done) | (simp; omega)) _ | (with_reducible refine ext_trans ?_ (by with_reducible assumption))))
  have lRa1_12 : w.heap.size < w12.heap.size := by omega
  have lRa2_12 : w.heap.size + 1 < w12.heap.size := by omega
  have lRb_12 : b3 < w12.heap.size := by omega
  have lRp_12 : w4.heap.size < w12.heap.size := by omega
  have lRq_12 : w5.heap.size < w12.heap.size := by omega
  have lRg_12 : w6.heap.size < w12.heap.size := by omega
  have Ra1_12 := Lib.hid ra1_12
  have r0_ra1_12 := cell_of_row _ _ 0 _ _ _ ra1_12
  have r1_ra1_12 := cell_of_row _ _ 1 _ _ _ ra1_12
  have r2_ra1_12 := cell_of_row _ _ 2 _ _ _ ra1_12
  have r3_ra1_12 := cell_of_row _ _ 3 _ _ _ ra1_12
  have r4_ra1_12 := cell_of_row _ _ 4 _ _ _ ra1_12
  have r5_ra1_12 := cell_of_row _ _ 5 _ _ _ ra1_12
  have r6_ra1_12 := cell_of_row _ _ 6 _ _ _ ra1_12
  have r7_ra1_12 := cell_of_row _ _ 7 _ _ _ ra1_12
  have r8_ra1_12 := cell_of_row _ _ 8 _ _ _ ra1_12
  have r9_ra1_12 := cell_of_row _ _ 9 _ _ _ ra1_12
  have f0_ra1_12 := frozen_of_row _ _ 0 _ _ ra1_12
  have f1_ra1_12 := frozen_of_row _ _ 1 _ _ ra1_12
  have f2_ra1_12 := frozen_of_row _ _ 2 _ _ ra1_12
  have f3_ra1_12 := frozen_of_row _ _ 3 _ _ ra1_12
  have f4_ra1_12 := frozen_of_row _ _ 4 _ _ ra1_12
  have f5_ra1_12 := frozen_of_row _ _ 5 _ _ ra1_12
  have f6_ra1_12 := frozen_of_row _ _ 6 _ _ ra1_12
  have f7_ra1_12 := frozen_of_row _ _ 7 _ _ ra1_12
  have f8_ra1_12 := frozen_of_row _ _ 8 _ _ ra1_12
  have f9_ra1_12 := frozen_of_row _ _ 9 _ _ ra1_12
  simp at r0_ra1_12 r1_ra1_12 r2_ra1_12 r3_ra1_12 r4_ra1_12 r5_ra1_12 r6_ra1_12 r7_ra1_12 r8_ra1_12 r9_ra1_12
  clear ra1_12
  have Ra2_12 := Lib.hid ra2_12
  have r0_ra2_12 := cell_of_row _ _ 0 _ _ _ ra2_12
  have r1_ra2_12 := cell_of_row _ _ 1 _ _ _ ra2_12
  have r2_ra2_12 := cell_of_row _ _ 2 _ _ _ ra2_12
  have r3_ra2_12 := cell_of_row _ _ 3 _ _ _ ra2_12
  have f0_ra2_12 := frozen_of_row _ _ 0 _ _ ra2_12
  have f1_ra2_12 := frozen_of_row _ _ 1 _ _ ra2_12
  have f2_ra2_12 := frozen_of_row _ _ 2 _ _ ra2_12
  have f3_ra2_12 := frozen_of_row _ _ 3 _ _ ra2_12
  simp at r0_ra2_12 r1_ra2_12 r2_ra2_12 r3_ra2_12
  clear ra2_12
  have Rb_12 := Lib.hid rb_12
  have r0_rb_12 := cell_of_row _ _ 0 _ _ _ rb_12
  have r1_rb_12 := cell_of_row _ _ 1 _ _ _ rb_12
  have r2_rb_12 := cell_of_row _ _ 2 _ _ _ rb_12
  have r3_rb_12 := cell_of_row _ _ 3 _ _ _ rb_12
  have r4_rb_12 := cell_of_row _ _ 4 _ _ _ rb_12
  have r5_rb_12 := cell_of_row _ _ 5 _ _ _ rb_12
  have r6_rb_12 := cell_of_row _ _ 6 _ _ _ rb_12
  have r7_rb_12 := cell_of_row _ _ 7 _ _ _ rb_12
  have r8_rb_12 := cell_of_row _ _ 8 _ _ _ rb_12
  have r9_rb_12 := cell_of_row _ _ 9 _ _ _ rb_12
  have f0_rb_12 := frozen_of_row _ _ 0 _ _ rb_12
  have f1_rb_12 := frozen_of_row _ _ 1 _ _ rb_12
  have f2_rb_12 := frozen_of_row _ _ 2 _ _ rb_12
  have f3_rb_12 := frozen_of_row _ _ 3 _ _ rb_12
  have f4_rb_12 := frozen_of_row _ _ 4 _ _ rb_12
  have f5_rb_12 := frozen_of_row _ _ 5 _ _ rb_12
  have f6_rb_12 := frozen_of_row _ _ 6 _ _ rb_12
  have f7_rb_12 := frozen_of_row _ _ 7 _ _ rb_12
  have f8_rb_12 := frozen_of_row _ _ 8 _ _ rb_12
  have f9_rb_12 := frozen_of_row _ _ 9 _ _ rb_12
  simp at r0_rb_12 r1_rb_12 r2_rb_12 r3_rb_12 r4_rb_12 r5_rb_12 r6_rb_12 r7_rb_12 r8_rb_12 r9_rb_12
  clear rb_12
  have Rp_12 := Lib.hid rp_12
  have r0_rp_12 := cell_of_row _ _ 0 _ _ _ rp_12
  have r1_rp_12 := cell_of_row _ _ 1 _ _ _ rp_12
  have r2_rp_12 := cell_of_row _ _ 2 _ _ _ rp_12
  have r3_rp_12 := cell_of_row _ _ 3 _ _ _ rp_12
  have r4_rp_12 := cell_of_row _ _ 4 _ _ _ rp_12
  have r5_rp_12 := cell_of_row _ _ 5 _ _ _ rp_12
  have r6_rp_12 := cell_of_row _ _ 6 _ _ _ rp_12
  have r7_rp_12 := cell_of_row _ _ 7 _ _ _ rp_12
  have r8_rp_12 := cell_of_row _ _ 8 _ _ _ rp_12
  have r9_rp_12 := cell_of_row _ _ 9 _ _ _ rp_12
  have f0_rp_12 := frozen_of_row _ _ 0 _ _ rp_12
  have f1_rp_12 := frozen_of_row _ _ 1 _ _ rp_12
  have f2_rp_12 := frozen_of_row _ _ 2 _ _ rp_12
  have f3_rp_12 := frozen_of_row _ _ 3 _ _ rp_12
  have f4_rp_12 := frozen_of_row _ _ 4 _ _ rp_12
  have f5_rp_12 := frozen_of_row _ _ 5 _ _ rp_12
  have f6_rp_12 := frozen_of_row _ _ 6 _ _ rp_12
  have f7_rp_12 := frozen_of_row _ _ 7 _ _ rp_12
  have f8_rp_12 := frozen_of_row _ _ 8 _ _ rp_12
  have f9_rp_12 := frozen_of_row _ _ 9 _ _ rp_12
  simp at r0_rp_12 r1_rp_12 r2_rp_12 r3_rp_12 r4_rp_12 r5_rp_12 r6_rp_12 r7_rp_12 r8_rp_12 r9_rp_12
  clear rp_12
  have Rq_12 := Lib.hid rq_12
  have r0_rq_12 := cell_of_row _ _ 0 _ _ _ rq_12
  have r1_rq_12 := cell_of_row _ _ 1 _ _ _ rq_12
  have r2_rq_12 := cell_of_row _ _ 2 _ _ _ rq_12
  have r3_rq_12 := cell_of_row _ _ 3 _ _ _ rq_12
  have f0_rq_12 := frozen_of_row _ _ 0 _ _ rq_12
  have f1_rq_12 := frozen_of_row _ _ 1 _ _ rq_12
  have f2_rq_12 := frozen_of_row _ _ 2 _ _ rq_12
  have f3_rq_12 := frozen_of_row _ _ 3 _ _ rq_12
  simp at r0_rq_12 r1_rq_12 r2_rq_12 r3_rq_12
  clear rq_12
  have Rg_12 := Lib.hid rg_12
  have r0_rg_12 := cell_of_row _ _ 0 _ _ _ rg_12
  have r1_rg_12 := cell_of_row _ _ 1 _ _ _ rg_12
  have r2_rg_12 := cell_of_row _ _ 2 _ _ _ rg_12
  have r3_rg_12 := cell_of_row _ _ 3 _ _ _ rg_12
  have r4_rg_12 := cell_of_row _ _ 4 _ _ _ rg_12
  have r5_rg_12 := cell_of_row _ _ 5 _ _ _ rg_12
  have r6_rg_12 := cell_of_row _ _ 6 _ _ _ rg_12
  have r7_rg_12 := cell_of_row _ _ 7 _ _ _ rg_12
  have r8_rg_12 := cell_of_row _ _ 8 _ _ _ rg_12
  have r9_rg_12 := cell_of_row _ _ 9 _ _ _ rg_12
  have f0_rg_12 := frozen_of_row _ _ 0 _ _ rg_12
  have f1_rg_12 := frozen_of_row _ _ 1 _ _ rg_12
  have f2_rg_12 := frozen_of_row _ _ 2 _ _ rg_12
  have f3_rg_12 := frozen_of_row _ _ 3 _ _ rg_12
  have f4_rg_12 := frozen_of_row _ _ 4 _ _ rg_12
  have f5_rg_12 := frozen_of_row _ _ 5 _ _ rg_12
  have f6_rg_12 := frozen_of_row _ _ 6 _ _ rg_12
  have f7_rg_12 := frozen_of_row _ _ 7 _ _ rg_12
  have f8_rg_12 := frozen_of_row _ _ 8 _ _ rg_12
  have f9_rg_12 := frozen_of_row _ _ 9 _ _ rg_12
  simp at r0_rg_12 r1_rg_12 r2_rg_12 r3_rg_12 r4_rg_12 r5_rg_12 r6_rg_12 r7_rg_12 r8_rg_12 r9_rg_12
  clear rg_12
  clear r0_ra1_11 f0_ra1_11 r1_ra1_11 f1_ra1_11 r2_ra1_11 f2_ra1_11 r3_ra1_11 f3_ra1_11 r4_ra1_11 f4_ra1_11 r5_ra1_11 f5_ra1_11 r6_ra1_11 f6_ra1_11 r7_ra1_11 f7_ra1_11 r8_ra1_11 f8_ra1_11 r9_ra1_11 f9_ra1_11
  clear r0_ra2_11 f0_ra2_11 r1_ra2_11 f1_ra2_11 r2_ra2_11 f2_ra2_11 r3_ra2_11 f3_ra2_11
  clear r0_rb_11 f0_rb_11 r1_rb_11 f1_rb_11 r2_rb_11 f2_rb_11 r3_rb_11 f3_rb_11 r4_rb_11 f4_rb_11 r5_rb_11 f5_rb_11 r6_rb_11 f6_rb_11 r7_rb_11 f7_rb_11 r8_rb_11 f8_rb_11 r9_rb_11 f9_rb_11
  clear r0_rp_11 f0_rp_11 r1_rp_11 f1_rp_11 r2_rp_11 f2_rp_11 r3_rp_11 f3_rp_11 r4_rp_11 f4_rp_11 r5_rp_11 f5_rp_11 r6_rp_11 f6_rp_11 r7_rp_11 f7_rp_11 r8_rp_11 f8_rp_11 r9_rp_11 f9_rp_11
  clear r0_rq_11 f0_rq_11 r1_rq_11 f1_rq_11 r2_rq_11 f2_rq_11 r3_rq_11 f3_rq_11
  clear r0_rg_11 f0_rg_11 r1_rg_11 f1_rg_11 r2_rg_11 f2_rg_11 r3_rg_11 f3_rg_11 r4_rg_11 f4_rg_11 r5_rg_11 f5_rg_11 r6_rg_11 f6_rg_11 r7_rg_11 f7_rg_11 r8_rg_11 f8_rg_11 r9_rg_11 f9_rg_11
  go_wp2_with fail
  refine (markKeys_any R _ _ MR1.out MR2.out 1 (by omega) (by omega) _ _ _ Og1_12.out Og2_12.out (fun h h' => (hap6 h h'))).mono ?_
  rintro e w13 ⟨rfl, hO131, hO132, wm13, hg131, hg132⟩
  have hz131 := hg131.size
  have hz132 := hg132.size
  have hz13 : w12.heap.size ≤ w13.heap.size := by omega
  have ra1_13 := (box_kept (bx := w.heap.size) Bg2.out (marksMacRow_len _ _) hg132 (by omega) (by omega)).trans ((box_kept (bx := w.heap.size) Bg1.out (marksMacRow_len _ _) hg131 (by omega) (by omega)).trans (Ra1_12.out))
  have ra2_13 := (box_kept (bx := w.heap.size + 1) Bg2.out (marksMacRow_len _ _) hg132 (by omega) (by omega)).trans ((box_kept (bx := w.heap.size + 1) Bg1.out (marksMacRow_len _ _) hg131 (by omega) (by omega)).trans (Ra2_12.out))
  have rb_13 := (box_kept (bx := b3) Bg2.out (marksMacRow_len _ _) hg132 (by omega) (by omega)).trans ((box_kept (bx := b3) Bg1.out (marksMacRow_len _ _) hg131 (by omega) (by omega)).trans (Rb_12.out))
  have rp_13 := (box_kept (bx := w4.heap.size) Bg2.out (marksMacRow_len _ _) hg132 (by omega) (by omega)).trans ((box_kept (bx := w4.heap.size) Bg1.out (marksMacRow_len _ _) hg131 (by omega) (by omega)).trans (Rp_12.out))
  have rq_13 := (box_kept (bx := w5.heap.size) Bg2.out (marksMacRow_len _ _) hg132 (by omega) (by omega)).trans ((box_kept (bx := w5.heap.size) Bg1.out (marksMacRow_len _ _) hg131 (by omega) (by omega)).trans (Rq_12.out))
  have rg_13 := (box_kept (bx := w6.heap.size) Bg2.out (marksMacRow_len _ _) hg132 (by omega) (by omega)).trans ((box_kept (bx := w6.heap.size) Bg1.out (marksMacRow_len _ _) hg131 (by omega) (by omega)).trans (Rg_12.out))
  have hwm13 : Below w.heap.size w wm13 := Below.grown hw12 hg131 hw12.size (fun k hk => by have := chg_ge Bg1.out (marksMacRow_len _ _) k hk; omega)
  have hw13 : Below w.heap.size w w13 := Below.grown hwm13 hg132 hwm13.size (fun k hk => by have := chg_ge Bg2.out (marksMacRow_len _ _) k hk; omega)
  have Ob1_13 := Lib.hid (OwnE.apart (OwnE.apart Ob1_12.out hg131 (fun h h' => (own_ne Bb1.out Bg1.out (by first | omega | (simp; omega)) h (marks_ne h')))) hg132 (fun h h' => (own_ne Bb1.out Bg2.out (by first | omega | (simp; omega)) h (marks_ne h'))))
  have Ob2_13 := Lib.hid (OwnE.apart (OwnE.apart Ob2_12.out hg131 (fun h h' => (own_ne Bb2.out Bg1.out (by first | omega | (simp; omega)) h (marks_ne h')))) hg132 (fun h h' => (own_ne Bb2.out Bg2.out (by first | omega | (simp; omega)) h (marks_ne h'))))
  have Og1_13 := Lib.hid hO131
  have Og2_13 := Lib.hid hO132
  have lRa1_13 : w.heap.size < w13.heap.size := by omega
  have lRa2_13 : w.heap.size + 1 < w13.heap.size := by omega
  have lRb_13 : b3 < w13.heap.size := by omega
  have lRp_13 : w4.heap.size < w13.heap.size := by omega
  have lRq_13 : w5.heap.size < w13.heap.size := by omega
  have lRg_13 : w6.heap.size < w13.heap.size := by omega
  have Ra1_13 := Lib.hid ra1_13
  have r0_ra1_13 := cell_of_row _ _ 0 _ _ _ ra1_13
  have r1_ra1_13 := cell_of_row _ _ 1 _ _ _ ra1_13
  have r2_ra1_13 := cell_of_row _ _ 2 _ _ _ ra1_13
  have r3_ra1_13 := cell_of_row _ _ 3 _ _ _ ra1_13
  have r4_ra1_13 := cell_of_row _ _ 4 _ _ _ ra1_13
  have r5_ra1_13 := cell_of_row _ _ 5 _ _ _ ra1_13
  have r6_ra1_13 := cell_of_row _ _ 6 _ _ _ ra1_13
  have r7_ra1_13 := cell_of_row _ _ 7 _ _ _ ra1_13
  have r8_ra1_13 := cell_of_row _ _ 8 _ _ _ ra1_13
  have r9_ra1_13 := cell_of_row _ _ 9 _ _ _ ra1_13
  have f0_ra1_13 := frozen_of_row _ _ 0 _ _ ra1_13
  have f1_ra1_13 := frozen_of_row _ _ 1 _ _ ra1_13
  have f2_ra1_13 := frozen_of_row _ _ 2 _ _ ra1_13
  have f3_ra1_13 := frozen_of_row _ _ 3 _ _ ra1_13
  have f4_ra1_13 := frozen_of_row _ _ 4 _ _ ra1_13
  have f5_ra1_13 := frozen_of_row _ _ 5 _ _ ra1_13
  have f6_ra1_13 := frozen_of_row _ _ 6 _ _ ra1_13
  have f7_ra1_13 := frozen_of_row _ _ 7 _ _ ra1_13
  have f8_ra1_13 := frozen_of_row _ _ 8 _ _ ra1_13
  have f9_ra1_13 := frozen_of_row _ _ 9 _ _ ra1_13
  simp at r0_ra1_13 r1_ra1_13 r2_ra1_13 r3_ra1_13 r4_ra1_13 r5_ra1_13 r6_ra1_13 r7_ra1_13 r8_ra1_13 r9_ra1_13
  clear ra1_13
  have Ra2_13 := Lib.hid ra2_13
  have r0_ra2_13 := cell_of_row _ _ 0 _ _ _ ra2_13
  have r1_ra2_13 := cell_of_row _ _ 1 _ _ _ ra2_13
  have r2_ra2_13 := cell_of_row _ _ 2 _ _ _ ra2_13
  have r3_ra2_13 := cell_of_row _ _ 3 _ _ _ ra2_13
  have f0_ra2_13 := frozen_of_row _ _ 0 _ _ ra2_13
  have f1_ra2_13 := frozen_of_row _ _ 1 _ _ ra2_13
  have f2_ra2_13 := frozen_of_row _ _ 2 _ _ ra2_13
  have f3_ra2_13 := frozen_of_row _ _ 3 _ _ ra2_13
  simp at r0_ra2_13 r1_ra2_13 r2_ra2_13 r3_ra2_13
  clear ra2_13
  have Rb_13 := Lib.hid rb_13
  have r0_rb_13 := cell_of_row _ _ 0 _ _ _ rb_13
  have r1_rb_13 := cell_of_row _ _ 1 _ _ _ rb_13
  have r2_rb_13 := cell_of_row _ _ 2 _ _ _ rb_13
  have r3_rb_13 := cell_of_row _ _ 3 _ _ _ rb_13
  have r4_rb_13 := cell_of_row _ _ 4 _ _ _ rb_13
  have r5_rb_13 := cell_of_row _ _ 5 _ _ _ rb_13
  have r6_rb_13 := cell_of_row _ _ 6 _ _ _ rb_13
  have r7_rb_13 := cell_of_row _ _ 7 _ _ _ rb_13
  have r8_rb_13 := cell_of_row _ _ 8 _ _ _ rb_13
  have r9_rb_13 := cell_of_row _ _ 9 _ _ _ rb_13
  have f0_rb_13 := frozen_of_row _ _ 0 _ _ rb_13
  have f1_rb_13 := frozen_of_row _ _ 1 _ _ rb_13
  have f2_rb_13 := frozen_of_row _ _ 2 _ _ rb_13
  have f3_rb_13 := frozen_of_row _ _ 3 _ _ rb_13
  have f4_rb_13 := frozen_of_row _ _ 4 _ _ rb_13
  have f5_rb_13 := frozen_of_row _ _ 5 _ _ rb_13
  have f6_rb_13 := frozen_of_row _ _ 6 _ _ rb_13
  have f7_rb_13 := frozen_of_row _ _ 7 _ _ rb_13
  have f8_rb_13 := frozen_of_row _ _ 8 _ _ rb_13
  have f9_rb_13 := frozen_of_row _ _ 9 _ _ rb_13
  simp at r0_rb_13 r1_rb_13 r2_rb_13 r3_rb_13 r4_rb_13 r5_rb_13 r6_rb_13 r7_rb_13 r8_rb_13 r9_rb_13
  clear rb_13
  have Rp_13 := Lib.hid rp_13
  have r0_rp_13 := cell_of_row _ _ 0 _ _ _ rp_13
  have r1_rp_13 := cell_of_row _ _ 1 _ _ _ rp_13
  have r2_rp_13 := cell_of_row _ _ 2 _ _ _ rp_13
  have r3_rp_13 := cell_of_row _ _ 3 _ _ _ rp_13
  have r4_rp_13 := cell_of_row _ _ 4 _ _ _ rp_13
  have r5_rp_13 := cell_of_row _ _ 5 _ _ _ rp_13
  have r6_rp_13 := cell_of_row _ _ 6 _ _ _ rp_13
  have r7_rp_13 := cell_of_row _ _ 7 _ _ _ rp_13
  have r8_rp_13 := cell_of_row _ _ 8 _ _ _ rp_13
  have r9_rp_13 := cell_of_row _ _ 9 _ _ _ rp_13
  have f0_rp_13 := frozen_of_row _ _ 0 _ _ rp_13
  have f1_rp_13 := frozen_of_row _ _ 1 _ _ rp_13
  have f2_rp_13 := frozen_of_row _ _ 2 _ _ rp_13
  have f3_rp_13 := frozen_of_row _ _ 3 _ _ rp_13
  have f4_rp_13 := frozen_of_row _ _ 4 _ _ rp_13
  have f5_rp_13 := frozen_of_row _ _ 5 _ _ rp_13
  have f6_rp_13 := frozen_of_row _ _ 6 _ _ rp_13
  have f7_rp_13 := frozen_of_row _ _ 7 _ _ rp_13
  have f8_rp_13 := frozen_of_row _ _ 8 _ _ rp_13
  have f9_rp_13 := frozen_of_row _ _ 9 _ _ rp_13
  simp at r0_rp_13 r1_rp_13 r2_rp_13 r3_rp_13 r4_rp_13 r5_rp_13 r6_rp_13 r7_rp_13 r8_rp_13 r9_rp_13
  clear rp_13
  have Rq_13 := Lib.hid rq_13
  have r0_rq_13 := cell_of_row _ _ 0 _ _ _ rq_13
  have r1_rq_13 := cell_of_row _ _ 1 _ _ _ rq_13
  have r2_rq_13 := cell_of_row _ _ 2 _ _ _ rq_13
  have r3_rq_13 := cell_of_row _ _ 3 _ _ _ rq_13
  have f0_rq_13 := frozen_of_row _ _ 0 _ _ rq_13
  have f1_rq_13 := frozen_of_row _ _ 1 _ _ rq_13
  have f2_rq_13 := frozen_of_row _ _ 2 _ _ rq_13
  have f3_rq_13 := frozen_of_row _ _ 3 _ _ rq_13
  simp at r0_rq_13 r1_rq_13 r2_rq_13 r3_rq_13
  clear rq_13
  have Rg_13 := Lib.hid rg_13
  have r0_rg_13 := cell_of_row _ _ 0 _ _ _ rg_13
  have r1_rg_13 := cell_of_row _ _ 1 _ _ _ rg_13
  have r2_rg_13 := cell_of_row _ _ 2 _ _ _ rg_13
  have r3_rg_13 := cell_of_row _ _ 3 _ _ _ rg_13
  have r4_rg_13 := cell_of_row _ _ 4 _ _ _ rg_13
  have r5_rg_13 := cell_of_row _ _ 5 _ _ _ rg_13
  have r6_rg_13 := cell_of_row _ _ 6 _ _ _ rg_13
  have r7_rg_13 := cell_of_row _ _ 7 _ _ _ rg_13
  have r8_rg_13 := cell_of_row _ _ 8 _ _ _ rg_13
  have r9_rg_13 := cell_of_row _ _ 9 _ _ _ rg_13
  have f0_rg_13 := frozen_of_row _ _ 0 _ _ rg_13
  have f1_rg_13 := frozen_of_row _ _ 1 _ _ rg_13
  have f2_rg_13 := frozen_of_row _ _ 2 _ _ rg_13
  have f3_rg_13 := frozen_of_row _ _ 3 _ _ rg_13
  have f4_rg_13 := frozen_of_row _ _ 4 _ _ rg_13
  have f5_rg_13 := frozen_of_row _ _ 5 _ _ rg_13
  have f6_rg_13 := frozen_of_row _ _ 6 _ _ rg_13
  have f7_rg_13 := frozen_of_row _ _ 7 _ _ rg_13
  have f8_rg_13 := frozen_of_row _ _ 8 _ _ rg_13
  have f9_rg_13 := frozen_of_row _ _ 9 _ _ rg_13
  simp at r0_rg_13 r1_rg_13 r2_rg_13 r3_rg_13 r4_rg_13 r5_rg_13 r6_rg_13 r7_rg_13 r8_rg_13 r9_rg_13
  clear rg_13
  clear r0_ra1_12 f0_ra1_12 r1_ra1_12 f1_ra1_12 r2_ra1_12 f2_ra1_12 r3_ra1_12 f3_ra1_12 r4_ra1_12 f4_ra1_12 r5_ra1_12 f5_ra1_12 r6_ra1_12 f6_ra1_12 r7_ra1_12 f7_ra1_12 r8_ra1_12 f8_ra1_12 r9_ra1_12 f9_ra1_12
  clear r0_ra2_12 f0_ra2_12 r1_ra2_12 f1_ra2_12 r2_ra2_12 f2_ra2_12 r3_ra2_12 f3_ra2_12
  clear r0_rb_12 f0_rb_12 r1_rb_12 f1_rb_12 r2_rb_12 f2_rb_12 r3_rb_12 f3_rb_12 r4_rb_12 f4_rb_12 r5_rb_12 f5_rb_12 r6_rb_12 f6_rb_12 r7_rb_12 f7_rb_12 r8_rb_12 f8_rb_12 r9_rb_12 f9_rb_12
  clear r0_rp_12 f0_rp_12 r1_rp_12 f1_rp_12 r2_rp_12 f2_rp_12 r3_rp_12 f3_rp_12 r4_rp_12 f4_rp_12 r5_rp_12 f5_rp_12 r6_rp_12 f6_rp_12 r7_rp_12 f7_rp_12 r8_rp_12 f8_rp_12 r9_rp_12 f9_rp_12
  clear r0_rq_12 f0_rq_12 r1_rq_12 f1_rq_12 r2_rq_12 f2_rq_12 r3_rq_12 f3_rq_12
  clear r0_rg_12 f0_rg_12 r1_rg_12 f1_rg_12 r2_rg_12 f2_rg_12 r3_rg_12 f3_rg_12 r4_rg_12 f4_rg_12 r5_rg_12 f5_rg_12 r6_rg_12 f6_rg_12 r7_rg_12 f7_rg_12 r8_rg_12 f8_rg_12 r9_rg_12 f9_rg_12
  clear hO131 hg131 hO132 hg132
  go_wp2_with fail
  refine (heldKeys_any R _ _ R.now.rs.length R.bef.rs.length MR1.out MR2.out 1 (by omega) (by omega) _ (marked_rdMacRow Og1_13.out) (marked_rdMacRow Og2_13.out)).mono ?_
  rintro e w14 ⟨rfl, hb14⟩
  have hz14 := hb14.size
  (try simp at hz14)
  have ra1_14 := (hb14.block _ (by first | omega | (simp; done) | (simp; omega))).trans Ra1_13.out
  have ra2_14 := (hb14.block _ (by first | omega | (simp; done) | (simp; omega))).trans Ra2_13.out
  have rb_14 := (hb14.block _ (by first | omega | (simp; done) | (simp; omega))).trans Rb_13.out
  have rp_14 := (hb14.block _ (by first | omega | (simp; done) | (simp; omega))).trans Rp_13.out
  have rq_14 := (hb14.block _ (by first | omega | (simp; done) | (simp; omega))).trans Rq_13.out
  have rg_14 := (hb14.block _ (by first | omega | (simp; done) | (simp; omega))).trans Rg_13.out
  have Ob1_14 := Lib.hid (Ob1_13.out.below (w' := w14) (by repeat (first | with_reducible exact Below.refl _ _ | with_reducible assumption | with_reducible refine Below.drew ?_ | with_reducible refine Below.alloc ?_ (by first | exact Nat.le_refl _ | omega | (simp; done) | (simp; omega)) _ | with_reducible refine Below.setCell ?_ (by first | exact Nat.le_refl _ | omega | (simp; done) | (simp; omega)) _ | (with_reducible refine ext_trans ?_ (by with_reducible assumption)))))
  have Ob2_14 := Lib.hid (Ob2_13.out.below (w' := w14) (by repeat (first | with_reducible exact Below.refl _ _ | with_reducible assumption | with_reducible refine Below.drew ?_ | with_reducible refine Below.alloc ?_ (by first | exact Nat.le_refl _ | omega | (simp; done) | (simp; omega)) _ | with_reducible refine Below.setCell ?_ (by first | exact Nat.le_refl _ | omega | (simp; done) | (simp; omega)) _ | (with_reducible refine ext_trans ?_ (by with_reducible assumption)))))
  have Og1_14 := Lib.hid (Og1_13.out.below (w' := w14) (by repeat (first | with_reducible exact Below.refl _ _ | with_reducible assumption | with_reducible refine Below.drew ?_ | with_reducible refine Below.alloc ?_ (by first | exact Nat.le_refl _ | omega | (simp; done) | (simp; omega)) _ | with_reducible refine Below.setCell ?_ (by first | exact Nat.le_refl _ | omega | (simp; done) | (simp; omega)) _ | (with_reducible refine ext_trans ?_ (by with_reducible assumption)))))
  have Og2_14 := Lib.hid (Og2_13.out.below (w' := w14) (by repeat (first | with_reducible exact Below.refl _ _ | with_reducible assumption | with_reducible refine Below.drew ?_ | with_reducible refine Below.alloc ?_ (by first | exact Nat.le_refl _ | omega | (simp; done) | (simp; omega)) _ | with_reducible refine Below.setCell ?_ (by first | exact Nat.le_refl _ | omega | (simp; done) | (simp; omega)) _ | (with_reducible refine ext_trans ?_ (by with_reducible assumption)))))
  have hw14 : Below w.heap.size w w14 := (by repeat (first | with_reducible exact Below.refl _ _ | with_reducible assumption | with_reducible refine Below.drew ?_ | with_reducible refine Below.alloc ?_ (by first | exact Nat.le_refl _ | omega | (simp; done) | (simp; omega)) _ | with_reducible refine Below.setCell ?_ (by first | exact Nat.le_refl _ | omega | (simp; done) | (simp; omega)) _ | (with_reducible refine ext_trans ?_ (by with_reducible assumption))))
  have lRa1_14 : w.heap.size < w14.heap.size := by omega
  have lRa2_14 : w.heap.size + 1 < w14.heap.size := by omega
  have lRb_14 : b3 < w14.heap.size := by omega
  have lRp_14 : w4.heap.size < w14.heap.size := by omega
  have lRq_14 : w5.heap.size < w14.heap.size := by omega
  have lRg_14 : w6.heap.size < w14.heap.size := by omega
  have Ra1_14 := Lib.hid ra1_14
  have r0_ra1_14 := cell_of_row _ _ 0 _ _ _ ra1_14
  have r1_ra1_14 := cell_of_row _ _ 1 _ _ _ ra1_14
  have r2_ra1_14 := cell_of_row _ _ 2 _ _ _ ra1_14
  have r3_ra1_14 := cell_of_row _ _ 3 _ _ _ ra1_14
  have r4_ra1_14 := cell_of_row _ _ 4 _ _ _ ra1_14
  have r5_ra1_14 := cell_of_row _ _ 5 _ _ _ ra1_14
  have r6_ra1_14 := cell_of_row _ _ 6 _ _ _ ra1_14
  have r7_ra1_14 := cell_of_row _ _ 7 _ _ _ ra1_14
  have r8_ra1_14 := cell_of_row _ _ 8 _ _ _ ra1_14
  have r9_ra1_14 := cell_of_row _ _ 9 _ _ _ ra1_14
  have f0_ra1_14 := frozen_of_row _ _ 0 _ _ ra1_14
  have f1_ra1_14 := frozen_of_row _ _ 1 _ _ ra1_14
  have f2_ra1_14 := frozen_of_row _ _ 2 _ _ ra1_14
  have f3_ra1_14 := frozen_of_row _ _ 3 _ _ ra1_14
  have f4_ra1_14 := frozen_of_row _ _ 4 _ _ ra1_14
  have f5_ra1_14 := frozen_of_row _ _ 5 _ _ ra1_14
  have f6_ra1_14 := frozen_of_row _ _ 6 _ _ ra1_14
  have f7_ra1_14 := frozen_of_row _ _ 7 _ _ ra1_14
  have f8_ra1_14 := frozen_of_row _ _ 8 _ _ ra1_14
  have f9_ra1_14 := frozen_of_row _ _ 9 _ _ ra1_14
  simp at r0_ra1_14 r1_ra1_14 r2_ra1_14 r3_ra1_14 r4_ra1_14 r5_ra1_14 r6_ra1_14 r7_ra1_14 r8_ra1_14 r9_ra1_14
  clear ra1_14
  have Ra2_14 := Lib.hid ra2_14
  have r0_ra2_14 := cell_of_row _ _ 0 _ _ _ ra2_14
  have r1_ra2_14 := cell_of_row _ _ 1 _ _ _ ra2_14
  have r2_ra2_14 := cell_of_row _ _ 2 _ _ _ ra2_14
  have r3_ra2_14 := cell_of_row _ _ 3 _ _ _ ra2_14
  have f0_ra2_14 := frozen_of_row _ _ 0 _ _ ra2_14
  have f1_ra2_14 := frozen_of_row _ _ 1 _ _ ra2_14
  have f2_ra2_14 := frozen_of_row _ _ 2 _ _ ra2_14
  have f3_ra2_14 := frozen_of_row _ _ 3 _ _ ra2_14
  simp at r0_ra2_14 r1_ra2_14 r2_ra2_14 r3_ra2_14
  clear ra2_14
  have Rb_14 := Lib.hid rb_14
  have r0_rb_14 := cell_of_row _ _ 0 _ _ _ rb_14
  have r1_rb_14 := cell_of_row _ _ 1 _ _ _ rb_14
  have r2_rb_14 := cell_of_row _ _ 2 _ _ _ rb_14
  have r3_rb_14 := cell_of_row _ _ 3 _ _ _ rb_14
  have r4_rb_14 := cell_of_row _ _ 4 _ _ _ rb_14
  have r5_rb_14 := cell_of_row _ _ 5 _ _ _ rb_14
  have r6_rb_14 := cell_of_row _ _ 6 _ _ _ rb_14
  have r7_rb_14 := cell_of_row _ _ 7 _ _ _ rb_14
  have r8_rb_14 := cell_of_row _ _ 8 _ _ _ rb_14
  have r9_rb_14 := cell_of_row _ _ 9 _ _ _ rb_14
  have f0_rb_14 := frozen_of_row _ _ 0 _ _ rb_14
  have f1_rb_14 := frozen_of_row _ _ 1 _ _ rb_14
  have f2_rb_14 := frozen_of_row _ _ 2 _ _ rb_14
  have f3_rb_14 := frozen_of_row _ _ 3 _ _ rb_14
  have f4_rb_14 := frozen_of_row _ _ 4 _ _ rb_14
  have f5_rb_14 := frozen_of_row _ _ 5 _ _ rb_14
  have f6_rb_14 := frozen_of_row _ _ 6 _ _ rb_14
  have f7_rb_14 := frozen_of_row _ _ 7 _ _ rb_14
  have f8_rb_14 := frozen_of_row _ _ 8 _ _ rb_14
  have f9_rb_14 := frozen_of_row _ _ 9 _ _ rb_14
  simp at r0_rb_14 r1_rb_14 r2_rb_14 r3_rb_14 r4_rb_14 r5_rb_14 r6_rb_14 r7_rb_14 r8_rb_14 r9_rb_14
  clear rb_14
  have Rp_14 := Lib.hid rp_14
  have r0_rp_14 := cell_of_row _ _ 0 _ _ _ rp_14
  have r1_rp_14 := cell_of_row _ _ 1 _ _ _ rp_14
  have r2_rp_14 := cell_of_row _ _ 2 _ _ _ rp_14
  have r3_rp_14 := cell_of_row _ _ 3 _ _ _ rp_14
  have r4_rp_14 := cell_of_row _ _ 4 _ _ _ rp_14
  have r5_rp_14 := cell_of_row _ _ 5 _ _ _ rp_14
  have r6_rp_14 := cell_of_row _ _ 6 _ _ _ rp_14
  have r7_rp_14 := cell_of_row _ _ 7 _ _ _ rp_14
  have r8_rp_14 := cell_of_row _ _ 8 _ _ _ rp_14
  have r9_rp_14 := cell_of_row _ _ 9 _ _ _ rp_14
  have f0_rp_14 := frozen_of_row _ _ 0 _ _ rp_14
  have f1_rp_14 := frozen_of_row _ _ 1 _ _ rp_14
  have f2_rp_14 := frozen_of_row _ _ 2 _ _ rp_14
  have f3_rp_14 := frozen_of_row _ _ 3 _ _ rp_14
  have f4_rp_14 := frozen_of_row _ _ 4 _ _ rp_14
  have f5_rp_14 := frozen_of_row _ _ 5 _ _ rp_14
  have f6_rp_14 := frozen_of_row _ _ 6 _ _ rp_14
  have f7_rp_14 := frozen_of_row _ _ 7 _ _ rp_14
  have f8_rp_14 := frozen_of_row _ _ 8 _ _ rp_14
  have f9_rp_14 := frozen_of_row _ _ 9 _ _ rp_14
  simp at r0_rp_14 r1_rp_14 r2_rp_14 r3_rp_14 r4_rp_14 r5_rp_14 r6_rp_14 r7_rp_14 r8_rp_14 r9_rp_14
  clear rp_14
  have Rq_14 := Lib.hid rq_14
  have r0_rq_14 := cell_of_row _ _ 0 _ _ _ rq_14
  have r1_rq_14 := cell_of_row _ _ 1 _ _ _ rq_14
  have r2_rq_14 := cell_of_row _ _ 2 _ _ _ rq_14
  have r3_rq_14 := cell_of_row _ _ 3 _ _ _ rq_14
  have f0_rq_14 := frozen_of_row _ _ 0 _ _ rq_14
  have f1_rq_14 := frozen_of_row _ _ 1 _ _ rq_14
  have f2_rq_14 := frozen_of_row _ _ 2 _ _ rq_14
  have f3_rq_14 := frozen_of_row _ _ 3 _ _ rq_14
  simp at r0_rq_14 r1_rq_14 r2_rq_14 r3_rq_14
  clear rq_14
  have Rg_14 := Lib.hid rg_14
  have r0_rg_14 := cell_of_row _ _ 0 _ _ _ rg_14
  have r1_rg_14 := cell_of_row _ _ 1 _ _ _ rg_14
  have r2_rg_14 := cell_of_row _ _ 2 _ _ _ rg_14
  have r3_rg_14 := cell_of_row _ _ 3 _ _ _ rg_14
  have r4_rg_14 := cell_of_row _ _ 4 _ _ _ rg_14
  have r5_rg_14 := cell_of_row _ _ 5 _ _ _ rg_14
  have r6_rg_14 := cell_of_row _ _ 6 _ _ _ rg_14
  have r7_rg_14 := cell_of_row _ _ 7 _ _ _ rg_14
  have r8_rg_14 := cell_of_row _ _ 8 _ _ _ rg_14
  have r9_rg_14 := cell_of_row _ _ 9 _ _ _ rg_14
  have f0_rg_14 := frozen_of_row _ _ 0 _ _ rg_14
  have f1_rg_14 := frozen_of_row _ _ 1 _ _ rg_14
  have f2_rg_14 := frozen_of_row _ _ 2 _ _ rg_14
  have f3_rg_14 := frozen_of_row _ _ 3 _ _ rg_14
  have f4_rg_14 := frozen_of_row _ _ 4 _ _ rg_14
  have f5_rg_14 := frozen_of_row _ _ 5 _ _ rg_14
  have f6_rg_14 := frozen_of_row _ _ 6 _ _ rg_14
  have f7_rg_14 := frozen_of_row _ _ 7 _ _ rg_14
  have f8_rg_14 := frozen_of_row _ _ 8 _ _ rg_14
  have f9_rg_14 := frozen_of_row _ _ 9 _ _ rg_14
  simp at r0_rg_14 r1_rg_14 r2_rg_14 r3_rg_14 r4_rg_14 r5_rg_14 r6_rg_14 r7_rg_14 r8_rg_14 r9_rg_14
  clear rg_14
  clear r0_ra1_13 f0_ra1_13 r1_ra1_13 f1_ra1_13 r2_ra1_13 f2_ra1_13 r3_ra1_13 f3_ra1_13 r4_ra1_13 f4_ra1_13 r5_ra1_13 f5_ra1_13 r6_ra1_13 f6_ra1_13 r7_ra1_13 f7_ra1_13 r8_ra1_13 f8_ra1_13 r9_ra1_13 f9_ra1_13
  clear r0_ra2_13 f0_ra2_13 r1_ra2_13 f1_ra2_13 r2_ra2_13 f2_ra2_13 r3_ra2_13 f3_ra2_13
  clear r0_rb_13 f0_rb_13 r1_rb_13 f1_rb_13 r2_rb_13 f2_rb_13 r3_rb_13 f3_rb_13 r4_rb_13 f4_rb_13 r5_rb_13 f5_rb_13 r6_rb_13 f6_rb_13 r7_rb_13 f7_rb_13 r8_rb_13 f8_rb_13 r9_rb_13 f9_rb_13
  clear r0_rp_13 f0_rp_13 r1_rp_13 f1_rp_13 r2_rp_13 f2_rp_13 r3_rp_13 f3_rp_13 r4_rp_13 f4_rp_13 r5_rp_13 f5_rp_13 r6_rp_13 f6_rp_13 r7_rp_13 f7_rp_13 r8_rp_13 f8_rp_13 r9_rp_13 f9_rp_13
  clear r0_rq_13 f0_rq_13 r1_rq_13 f1_rq_13 r2_rq_13 f2_rq_13 r3_rq_13 f3_rq_13
  clear r0_rg_13 f0_rg_13 r1_rg_13 f1_rg_13 r2_rg_13 f2_rg_13 r3_rg_13 f3_rg_13 r4_rg_13 f4_rg_13 r5_rg_13 f5_rg_13 r6_rg_13 f6_rg_13 r7_rg_13 f7_rg_13 r8_rg_13 f8_rg_13 r9_rg_13 f9_rg_13
  have hk14 : ¬ (((1 + 2 * R.now.rs.length + 2 * R.bef.rs.length : Nat) : Int) < 0) := by omega
  go_wp2_with fail
  go_cut [13] (fun z wx => ∃ b15 D151 d151 D152 d152, z = .pointer (some ⟨b15, 0, none⟩) ∧ Hid (wx.heap[b15]? = some (.cells #[.int .i64 R.ep, .bool R.now.u, .int .u64 (uI R.now.k), .int .u64 (uI R.now.l), .slice D151 R.now.rs.length d151, .bool R.bef.u, .int .u64 (uI R.bef.k), .int .u64 (uI R.bef.l), .slice D152 R.bef.rs.length d152, .bool R.two] 29 (0, 0))) ∧ (w14.heap.size ≤ b15) ∧ Hid (OwnMacRow wx w14.heap.size (.slice D151 R.now.rs.length d151) R.now.rs) ∧ Hid (OwnMacRow wx w14.heap.size (.slice D152 R.bef.rs.length d152) R.bef.rs) ∧ Hid (R.now.rs ≠ [] → R.bef.rs ≠ [] → (Value.slice D151 R.now.rs.length d151).ownBlock ≠ (Value.slice D152 R.bef.rs.length d152).ownBlock) ∧ Below w14.heap.size w14 wx)
  case first =>
    first | go_region_held3 (fun w' => (∀ b' o, b' < (w14).heap.size → w'.cell? ⟨b', o, none⟩ = (w14).cell? ⟨b', o, none⟩) ∧ Below (w14).heap.size (w14) w') (first | with_reducible assumption | (with_reducible apply rg_keep; rotate_left; with_reducible assumption; with_reducible assumption) | with_reducible exact rg_start _ | with_reducible exact rg_alloc (KeptS.out (by with_reducible assumption)) _ | with_reducible exact rg_alloc (by with_reducible assumption) _ | with_reducible exact rg_start_alloc _ _ | ((repeat (with_reducible refine rg_set ?_ _ (by first | exact Nat.le_refl _ | omega | (simp; done) | (simp; omega)) _)); first | with_reducible exact KeptS.out (by with_reducible assumption) | with_reducible assumption | with_reducible exact rg_alloc (KeptS.out (by with_reducible assumption)) _)) (first | (go_at_call 31; ((with_reducible refine (toKeys_any x1 _ _ M11.out M12.out _ (H11.out.below (ext_trans hw14 (rgBMacRow (by first | with_reducible assumption | exact KeptS.out (by with_reducible assumption))))) (H12.out.below (ext_trans hw14 (rgBMacRow (by first | with_reducible assumption | exact KeptS.out (by with_reducible assumption)))))).mono ?_); (rintro e wA ⟨vA1, vA2, rfl, hOA1, hOA2, hapA, hbA⟩; obtain ⟨AA1, cA1, rfl⟩ := hOA1.form; obtain ⟨AA2, cA2, rfl⟩ := hOA2.form; have hSA := rg_keepK (by first | with_reducible assumption | exact KeptS.out (by with_reducible assumption)) hbA; have hLA := hSA.size; have HOA1 := Lib.hid hOA1; clear hOA1; have HOA2 := Lib.hid hOA2; clear hOA2; (try have hZ := row_after hbA); (try have hZ := row_after_drew hbA); (try have hZ := row_kept (by assumption) hbA); (try (have rz := row_facts10 hZ; obtain ⟨rz0, rz1, rz2, rz3, rz4, rz5, rz6, rz7, rz8, rz9, fz⟩ := rz)); have hzhbA := hbA.size; (try simp at hzhbA)))) | (go_at_call 39; ((with_reducible refine (toMc_any x2 _ M21.out _ (H21.out.below (ext_trans hw14 (rgBMacRow (by first | with_reducible assumption | exact KeptS.out (by with_reducible assumption)))))).mono ?_); (rintro e wB ⟨vB1, rfl, hOB1, hbB⟩; obtain ⟨AB1, cB1, rfl⟩ := hOB1.form; have hSB := rg_keepK (by first | with_reducible assumption | exact KeptS.out (by with_reducible assumption)) hbB; have hLB := hSB.size; have HOB1 := Lib.hid hOB1; clear hOB1; have HPA1 := Lib.hid (HOA1.out.below (w' := wB) (by repeat (first | with_reducible exact Below.refl _ _ | with_reducible assumption | with_reducible refine Below.drew ?_ | with_reducible refine Below.alloc ?_ (by first | exact Nat.le_refl _ | omega | (simp; done) | (simp; omega)) _ | with_reducible refine Below.setCell ?_ (by first | exact Nat.le_refl _ | omega | (simp; done) | (simp; omega)) _ | (with_reducible refine ext_trans ?_ (by with_reducible assumption))))); have HPA2 := Lib.hid (HOA2.out.below (w' := wB) (by repeat (first | with_reducible exact Below.refl _ _ | with_reducible assumption | with_reducible refine Below.drew ?_ | with_reducible refine Below.alloc ?_ (by first | exact Nat.le_refl _ | omega | (simp; done) | (simp; omega)) _ | with_reducible refine Below.setCell ?_ (by first | exact Nat.le_refl _ | omega | (simp; done) | (simp; omega)) _ | (with_reducible refine ext_trans ?_ (by with_reducible assumption))))); (try have hZ := row_after hbB); (try have hZ := row_after_drew hbB); (try have hZ := row_kept (by assumption) hbB); (try (have rz := row_facts10 hZ; obtain ⟨rz0, rz1, rz2, rz3, rz4, rz5, rz6, rz7, rz8, rz9, fz⟩ := rz)); have hzhbB := hbB.size; (try simp at hzhbB)))) | (go_at_call 21; ((with_reducible refine (HI.out _ _ _ _ P11.out P12.out P21.out (HPA1.out.below (by repeat (first | with_reducible exact Below.refl _ _ | with_reducible assumption | with_reducible refine Below.drew ?_ | with_reducible refine Below.alloc ?_ (by first | exact Nat.le_refl _ | omega | (simp; done) | (simp; omega)) _ | with_reducible refine Below.setCell ?_ (by first | exact Nat.le_refl _ | omega | (simp; done) | (simp; omega)) _ | (with_reducible refine ext_trans ?_ (by with_reducible assumption))))).rd (HPA2.out.below (by repeat (first | with_reducible exact Below.refl _ _ | with_reducible assumption | with_reducible refine Below.drew ?_ | with_reducible refine Below.alloc ?_ (by first | exact Nat.le_refl _ | omega | (simp; done) | (simp; omega)) _ | with_reducible refine Below.setCell ?_ (by first | exact Nat.le_refl _ | omega | (simp; done) | (simp; omega)) _ | (with_reducible refine ext_trans ?_ (by with_reducible assumption))))).rd (HOB1.out.below (by repeat (first | with_reducible exact Below.refl _ _ | with_reducible assumption | with_reducible refine Below.drew ?_ | with_reducible refine Below.alloc ?_ (by first | exact Nat.le_refl _ | omega | (simp; done) | (simp; omega)) _ | with_reducible refine Below.setCell ?_ (by first | exact Nat.le_refl _ | omega | (simp; done) | (simp; omega)) _ | (with_reducible refine ext_trans ?_ (by with_reducible assumption))))).rd).mono ?_); (rintro e wC ⟨vC1, vC2, rfl, hOC1, hOC2, hapC, hbC⟩; obtain ⟨DC1, dC1, rfl⟩ := hOC1.form; obtain ⟨DC2, dC2, rfl⟩ := hOC2.form; have hSC := rg_keepK (by first | with_reducible assumption | exact KeptS.out (by with_reducible assumption)) hbC; have hLC := hSC.size; have hatC1 := OwnE.blk hOC1; have hatC2 := OwnE.blk hOC2; have HOC1 := Lib.hid (OwnE.mono (base' := w14.heap.size) hOC1 (by first | omega | (simp; omega))); have HOC2 := Lib.hid (OwnE.mono (base' := w14.heap.size) hOC2 (by first | omega | (simp; omega))); clear hOC1 hOC2; (try have hZ := row_after hbC); (try have hZ := row_after_drew hbC); (try have hZ := row_kept (by assumption) hbC); (try (have rz := row_facts10 hZ; obtain ⟨rz0, rz1, rz2, rz3, rz4, rz5, rz6, rz7, rz8, rz9, fz⟩ := rz)); have hzhbC := hbC.size; (try simp at hzhbC))))) | fail
    all_goals
      go_wp2_with fail
      go_meet
      refine ⟨_, _, _, _, _, rfl, Lib.hid ?_, ?_, Lib.hid ?_, Lib.hid ?_, Lib.hid hapC, ?_⟩
      · first | (with_reducible apply heap_new; rfl) | (with_reducible apply stored10; with_reducible assumption)
      · first | exact Nat.le_refl _ | omega
      · exact (by repeat (first | with_reducible exact HOC1.out | (with_reducible refine OwnE.setOther ?_ (fun h e => by obtain ⟨p, r⟩ := hatC1 _ h e; first | omega | (simp at p; done) | (simp at p; omega) | (simp at p r; omega)) _) | with_reducible refine OwnE.alloc ?_ _))
      · exact (by repeat (first | with_reducible exact HOC2.out | (with_reducible refine OwnE.setOther ?_ (fun h e => by obtain ⟨p, r⟩ := hatC2 _ h e; first | omega | (simp at p; done) | (simp at p; omega) | (simp at p r; omega)) _) | with_reducible refine OwnE.alloc ?_ _))
      · have hww : Below w14.heap.size w14 wC := (KeptS.out (by with_reducible assumption)).2
        have hsz := hww.size
        exact (by repeat (first | with_reducible exact Below.refl _ _ | with_reducible assumption | with_reducible refine Below.drew ?_ | with_reducible refine Below.alloc ?_ (by first | exact Nat.le_refl _ | omega | (simp; done) | (simp; omega)) _ | with_reducible refine Below.setCell ?_ (by first | exact Nat.le_refl _ | omega | (simp; done) | (simp; omega)) _ | (with_reducible refine ext_trans ?_ (by with_reducible assumption))))
  case rest =>
  obtain ⟨b15, D151, d151, D152, d152, rfl, hrow15, hbge15, hO151, hO152, hap15, hb15⟩ := hcut
  rename World => w15
  have rh_15 := hrow15.out
  have lb15 := (Array.getElem?_eq_some_iff.1 rh_15).1
  have Oh1_15 := hO151
  have Bh1 := hO151
  have Oh2_15 := hO152
  have Bh2 := hO152
  have hz15 := hb15.size
  (try simp at hz15)
  have ra1_15 := (hb15.block _ (by first | omega | (simp; done) | (simp; omega))).trans Ra1_14.out
  have ra2_15 := (hb15.block _ (by first | omega | (simp; done) | (simp; omega))).trans Ra2_14.out
  have rb_15 := (hb15.block _ (by first | omega | (simp; done) | (simp; omega))).trans Rb_14.out
  have rp_15 := (hb15.block _ (by first | omega | (simp; done) | (simp; omega))).trans Rp_14.out
  have rq_15 := (hb15.block _ (by first | omega | (simp; done) | (simp; omega))).trans Rq_14.out
  have rg_15 := (hb15.block _ (by first | omega | (simp; done) | (simp; omega))).trans Rg_14.out
  have Ob1_15 := Lib.hid (Ob1_14.out.below (w' := w15) (by repeat (first | with_reducible exact Below.refl _ _ | with_reducible assumption | with_reducible refine Below.drew ?_ | with_reducible refine Below.alloc ?_ (by first | exact Nat.le_refl _ | omega | (simp; done) | (simp; omega)) _ | with_reducible refine Below.setCell ?_ (by first | exact Nat.le_refl _ | omega | (simp; done) | (simp; omega)) _ | (with_reducible refine ext_trans ?_ (by with_reducible assumption)))))
  have Ob2_15 := Lib.hid (Ob2_14.out.below (w' := w15) (by repeat (first | with_reducible exact Below.refl _ _ | with_reducible assumption | with_reducible refine Below.drew ?_ | with_reducible refine Below.alloc ?_ (by first | exact Nat.le_refl _ | omega | (simp; done) | (simp; omega)) _ | with_reducible refine Below.setCell ?_ (by first | exact Nat.le_refl _ | omega | (simp; done) | (simp; omega)) _ | (with_reducible refine ext_trans ?_ (by with_reducible assumption)))))
  have Og1_15 := Lib.hid (Og1_14.out.below (w' := w15) (by repeat (first | with_reducible exact Below.refl _ _ | with_reducible assumption | with_reducible refine Below.drew ?_ | with_reducible refine Below.alloc ?_ (by first | exact Nat.le_refl _ | omega | (simp; done) | (simp; omega)) _ | with_reducible refine Below.setCell ?_ (by first | exact Nat.le_refl _ | omega | (simp; done) | (simp; omega)) _ | (with_reducible refine ext_trans ?_ (by with_reducible assumption)))))
  have Og2_15 := Lib.hid (Og2_14.out.below (w' := w15) (by repeat (first | with_reducible exact Below.refl _ _ | with_reducible assumption | with_reducible refine Below.drew ?_ | with_reducible refine Below.alloc ?_ (by first | exact Nat.le_refl _ | omega | (simp; done) | (simp; omega)) _ | with_reducible refine Below.setCell ?_ (by first | exact Nat.le_refl _ | omega | (simp; done) | (simp; omega)) _ | (with_reducible refine ext_trans ?_ (by with_reducible assumption)))))
  have hw15 : Below w.heap.size w w15 := (by repeat (first | with_reducible exact Below.refl _ _ | with_reducible assumption | with_reducible refine Below.drew ?_ | with_reducible refine Below.alloc ?_ (by first | exact Nat.le_refl _ | omega | (simp; done) | (simp; omega)) _ | with_reducible refine Below.setCell ?_ (by first | exact Nat.le_refl _ | omega | (simp; done) | (simp; omega)) _ | (with_reducible refine ext_trans ?_ (by with_reducible assumption))))
  have lRa1_15 : w.heap.size < w15.heap.size := by omega
  have lRa2_15 : w.heap.size + 1 < w15.heap.size := by omega
  have lRb_15 : b3 < w15.heap.size := by omega
  have lRp_15 : w4.heap.size < w15.heap.size := by omega
  have lRq_15 : w5.heap.size < w15.heap.size := by omega
  have lRg_15 : w6.heap.size < w15.heap.size := by omega
  have lRh_15 : b15 < w15.heap.size := by omega
  have Ra1_15 := Lib.hid ra1_15
  have r0_ra1_15 := cell_of_row _ _ 0 _ _ _ ra1_15
  have r1_ra1_15 := cell_of_row _ _ 1 _ _ _ ra1_15
  have r2_ra1_15 := cell_of_row _ _ 2 _ _ _ ra1_15
  have r3_ra1_15 := cell_of_row _ _ 3 _ _ _ ra1_15
  have r4_ra1_15 := cell_of_row _ _ 4 _ _ _ ra1_15
  have r5_ra1_15 := cell_of_row _ _ 5 _ _ _ ra1_15
  have r6_ra1_15 := cell_of_row _ _ 6 _ _ _ ra1_15
  have r7_ra1_15 := cell_of_row _ _ 7 _ _ _ ra1_15
  have r8_ra1_15 := cell_of_row _ _ 8 _ _ _ ra1_15
  have r9_ra1_15 := cell_of_row _ _ 9 _ _ _ ra1_15
  have f0_ra1_15 := frozen_of_row _ _ 0 _ _ ra1_15
  have f1_ra1_15 := frozen_of_row _ _ 1 _ _ ra1_15
  have f2_ra1_15 := frozen_of_row _ _ 2 _ _ ra1_15
  have f3_ra1_15 := frozen_of_row _ _ 3 _ _ ra1_15
  have f4_ra1_15 := frozen_of_row _ _ 4 _ _ ra1_15
  have f5_ra1_15 := frozen_of_row _ _ 5 _ _ ra1_15
  have f6_ra1_15 := frozen_of_row _ _ 6 _ _ ra1_15
  have f7_ra1_15 := frozen_of_row _ _ 7 _ _ ra1_15
  have f8_ra1_15 := frozen_of_row _ _ 8 _ _ ra1_15
  have f9_ra1_15 := frozen_of_row _ _ 9 _ _ ra1_15
  simp at r0_ra1_15 r1_ra1_15 r2_ra1_15 r3_ra1_15 r4_ra1_15 r5_ra1_15 r6_ra1_15 r7_ra1_15 r8_ra1_15 r9_ra1_15
  clear ra1_15
  have Ra2_15 := Lib.hid ra2_15
  have r0_ra2_15 := cell_of_row _ _ 0 _ _ _ ra2_15
  have r1_ra2_15 := cell_of_row _ _ 1 _ _ _ ra2_15
  have r2_ra2_15 := cell_of_row _ _ 2 _ _ _ ra2_15
  have r3_ra2_15 := cell_of_row _ _ 3 _ _ _ ra2_15
  have f0_ra2_15 := frozen_of_row _ _ 0 _ _ ra2_15
  have f1_ra2_15 := frozen_of_row _ _ 1 _ _ ra2_15
  have f2_ra2_15 := frozen_of_row _ _ 2 _ _ ra2_15
  have f3_ra2_15 := frozen_of_row _ _ 3 _ _ ra2_15
  simp at r0_ra2_15 r1_ra2_15 r2_ra2_15 r3_ra2_15
  clear ra2_15
  have Rb_15 := Lib.hid rb_15
  have r0_rb_15 := cell_of_row _ _ 0 _ _ _ rb_15
  have r1_rb_15 := cell_of_row _ _ 1 _ _ _ rb_15
  have r2_rb_15 := cell_of_row _ _ 2 _ _ _ rb_15
  have r3_rb_15 := cell_of_row _ _ 3 _ _ _ rb_15
  have r4_rb_15 := cell_of_row _ _ 4 _ _ _ rb_15
  have r5_rb_15 := cell_of_row _ _ 5 _ _ _ rb_15
  have r6_rb_15 := cell_of_row _ _ 6 _ _ _ rb_15
  have r7_rb_15 := cell_of_row _ _ 7 _ _ _ rb_15
  have r8_rb_15 := cell_of_row _ _ 8 _ _ _ rb_15
  have r9_rb_15 := cell_of_row _ _ 9 _ _ _ rb_15
  have f0_rb_15 := frozen_of_row _ _ 0 _ _ rb_15
  have f1_rb_15 := frozen_of_row _ _ 1 _ _ rb_15
  have f2_rb_15 := frozen_of_row _ _ 2 _ _ rb_15
  have f3_rb_15 := frozen_of_row _ _ 3 _ _ rb_15
  have f4_rb_15 := frozen_of_row _ _ 4 _ _ rb_15
  have f5_rb_15 := frozen_of_row _ _ 5 _ _ rb_15
  have f6_rb_15 := frozen_of_row _ _ 6 _ _ rb_15
  have f7_rb_15 := frozen_of_row _ _ 7 _ _ rb_15
  have f8_rb_15 := frozen_of_row _ _ 8 _ _ rb_15
  have f9_rb_15 := frozen_of_row _ _ 9 _ _ rb_15
  simp at r0_rb_15 r1_rb_15 r2_rb_15 r3_rb_15 r4_rb_15 r5_rb_15 r6_rb_15 r7_rb_15 r8_rb_15 r9_rb_15
  clear rb_15
  have Rp_15 := Lib.hid rp_15
  have r0_rp_15 := cell_of_row _ _ 0 _ _ _ rp_15
  have r1_rp_15 := cell_of_row _ _ 1 _ _ _ rp_15
  have r2_rp_15 := cell_of_row _ _ 2 _ _ _ rp_15
  have r3_rp_15 := cell_of_row _ _ 3 _ _ _ rp_15
  have r4_rp_15 := cell_of_row _ _ 4 _ _ _ rp_15
  have r5_rp_15 := cell_of_row _ _ 5 _ _ _ rp_15
  have r6_rp_15 := cell_of_row _ _ 6 _ _ _ rp_15
  have r7_rp_15 := cell_of_row _ _ 7 _ _ _ rp_15
  have r8_rp_15 := cell_of_row _ _ 8 _ _ _ rp_15
  have r9_rp_15 := cell_of_row _ _ 9 _ _ _ rp_15
  have f0_rp_15 := frozen_of_row _ _ 0 _ _ rp_15
  have f1_rp_15 := frozen_of_row _ _ 1 _ _ rp_15
  have f2_rp_15 := frozen_of_row _ _ 2 _ _ rp_15
  have f3_rp_15 := frozen_of_row _ _ 3 _ _ rp_15
  have f4_rp_15 := frozen_of_row _ _ 4 _ _ rp_15
  have f5_rp_15 := frozen_of_row _ _ 5 _ _ rp_15
  have f6_rp_15 := frozen_of_row _ _ 6 _ _ rp_15
  have f7_rp_15 := frozen_of_row _ _ 7 _ _ rp_15
  have f8_rp_15 := frozen_of_row _ _ 8 _ _ rp_15
  have f9_rp_15 := frozen_of_row _ _ 9 _ _ rp_15
  simp at r0_rp_15 r1_rp_15 r2_rp_15 r3_rp_15 r4_rp_15 r5_rp_15 r6_rp_15 r7_rp_15 r8_rp_15 r9_rp_15
  clear rp_15
  have Rq_15 := Lib.hid rq_15
  have r0_rq_15 := cell_of_row _ _ 0 _ _ _ rq_15
  have r1_rq_15 := cell_of_row _ _ 1 _ _ _ rq_15
  have r2_rq_15 := cell_of_row _ _ 2 _ _ _ rq_15
  have r3_rq_15 := cell_of_row _ _ 3 _ _ _ rq_15
  have f0_rq_15 := frozen_of_row _ _ 0 _ _ rq_15
  have f1_rq_15 := frozen_of_row _ _ 1 _ _ rq_15
  have f2_rq_15 := frozen_of_row _ _ 2 _ _ rq_15
  have f3_rq_15 := frozen_of_row _ _ 3 _ _ rq_15
  simp at r0_rq_15 r1_rq_15 r2_rq_15 r3_rq_15
  clear rq_15
  have Rg_15 := Lib.hid rg_15
  have r0_rg_15 := cell_of_row _ _ 0 _ _ _ rg_15
  have r1_rg_15 := cell_of_row _ _ 1 _ _ _ rg_15
  have r2_rg_15 := cell_of_row _ _ 2 _ _ _ rg_15
  have r3_rg_15 := cell_of_row _ _ 3 _ _ _ rg_15
  have r4_rg_15 := cell_of_row _ _ 4 _ _ _ rg_15
  have r5_rg_15 := cell_of_row _ _ 5 _ _ _ rg_15
  have r6_rg_15 := cell_of_row _ _ 6 _ _ _ rg_15
  have r7_rg_15 := cell_of_row _ _ 7 _ _ _ rg_15
  have r8_rg_15 := cell_of_row _ _ 8 _ _ _ rg_15
  have r9_rg_15 := cell_of_row _ _ 9 _ _ _ rg_15
  have f0_rg_15 := frozen_of_row _ _ 0 _ _ rg_15
  have f1_rg_15 := frozen_of_row _ _ 1 _ _ rg_15
  have f2_rg_15 := frozen_of_row _ _ 2 _ _ rg_15
  have f3_rg_15 := frozen_of_row _ _ 3 _ _ rg_15
  have f4_rg_15 := frozen_of_row _ _ 4 _ _ rg_15
  have f5_rg_15 := frozen_of_row _ _ 5 _ _ rg_15
  have f6_rg_15 := frozen_of_row _ _ 6 _ _ rg_15
  have f7_rg_15 := frozen_of_row _ _ 7 _ _ rg_15
  have f8_rg_15 := frozen_of_row _ _ 8 _ _ rg_15
  have f9_rg_15 := frozen_of_row _ _ 9 _ _ rg_15
  simp at r0_rg_15 r1_rg_15 r2_rg_15 r3_rg_15 r4_rg_15 r5_rg_15 r6_rg_15 r7_rg_15 r8_rg_15 r9_rg_15
  clear rg_15
  have Rh_15 := Lib.hid rh_15
  have r0_rh_15 := cell_of_row _ _ 0 _ _ _ rh_15
  have r1_rh_15 := cell_of_row _ _ 1 _ _ _ rh_15
  have r2_rh_15 := cell_of_row _ _ 2 _ _ _ rh_15
  have r3_rh_15 := cell_of_row _ _ 3 _ _ _ rh_15
  have r4_rh_15 := cell_of_row _ _ 4 _ _ _ rh_15
  have r5_rh_15 := cell_of_row _ _ 5 _ _ _ rh_15
  have r6_rh_15 := cell_of_row _ _ 6 _ _ _ rh_15
  have r7_rh_15 := cell_of_row _ _ 7 _ _ _ rh_15
  have r8_rh_15 := cell_of_row _ _ 8 _ _ _ rh_15
  have r9_rh_15 := cell_of_row _ _ 9 _ _ _ rh_15
  have f0_rh_15 := frozen_of_row _ _ 0 _ _ rh_15
  have f1_rh_15 := frozen_of_row _ _ 1 _ _ rh_15
  have f2_rh_15 := frozen_of_row _ _ 2 _ _ rh_15
  have f3_rh_15 := frozen_of_row _ _ 3 _ _ rh_15
  have f4_rh_15 := frozen_of_row _ _ 4 _ _ rh_15
  have f5_rh_15 := frozen_of_row _ _ 5 _ _ rh_15
  have f6_rh_15 := frozen_of_row _ _ 6 _ _ rh_15
  have f7_rh_15 := frozen_of_row _ _ 7 _ _ rh_15
  have f8_rh_15 := frozen_of_row _ _ 8 _ _ rh_15
  have f9_rh_15 := frozen_of_row _ _ 9 _ _ rh_15
  simp at r0_rh_15 r1_rh_15 r2_rh_15 r3_rh_15 r4_rh_15 r5_rh_15 r6_rh_15 r7_rh_15 r8_rh_15 r9_rh_15
  clear rh_15
  clear r0_ra1_14 f0_ra1_14 r1_ra1_14 f1_ra1_14 r2_ra1_14 f2_ra1_14 r3_ra1_14 f3_ra1_14 r4_ra1_14 f4_ra1_14 r5_ra1_14 f5_ra1_14 r6_ra1_14 f6_ra1_14 r7_ra1_14 f7_ra1_14 r8_ra1_14 f8_ra1_14 r9_ra1_14 f9_ra1_14
  clear r0_ra2_14 f0_ra2_14 r1_ra2_14 f1_ra2_14 r2_ra2_14 f2_ra2_14 r3_ra2_14 f3_ra2_14
  clear r0_rb_14 f0_rb_14 r1_rb_14 f1_rb_14 r2_rb_14 f2_rb_14 r3_rb_14 f3_rb_14 r4_rb_14 f4_rb_14 r5_rb_14 f5_rb_14 r6_rb_14 f6_rb_14 r7_rb_14 f7_rb_14 r8_rb_14 f8_rb_14 r9_rb_14 f9_rb_14
  clear r0_rp_14 f0_rp_14 r1_rp_14 f1_rp_14 r2_rp_14 f2_rp_14 r3_rp_14 f3_rp_14 r4_rp_14 f4_rp_14 r5_rp_14 f5_rp_14 r6_rp_14 f6_rp_14 r7_rp_14 f7_rp_14 r8_rp_14 f8_rp_14 r9_rp_14 f9_rp_14
  clear r0_rq_14 f0_rq_14 r1_rq_14 f1_rq_14 r2_rq_14 f2_rq_14 r3_rq_14 f3_rq_14
  clear r0_rg_14 f0_rg_14 r1_rg_14 f1_rg_14 r2_rg_14 f2_rg_14 r3_rg_14 f3_rg_14 r4_rg_14 f4_rg_14 r5_rg_14 f5_rg_14 r6_rg_14 f6_rg_14 r7_rg_14 f7_rg_14 r8_rg_14 f8_rg_14 r9_rg_14 f9_rg_14
  have hap15 := hap15.out
  go_wp2_with fail
  refine (eqKeys_same R _ _ _ _ NR1.out NR2.out _ Oh1_15.out.rd Oh2_15.out.rd Ob1_15.out.rd Ob2_15.out.rd).mono ?_
  rintro e w16 ⟨rfl, hb16⟩
  have hz16 := hb16.size
  (try simp at hz16)
  have ra1_16 := (hb16.block _ (by first | omega | (simp; done) | (simp; omega))).trans Ra1_15.out
  have ra2_16 := (hb16.block _ (by first | omega | (simp; done) | (simp; omega))).trans Ra2_15.out
  have rb_16 := (hb16.block _ (by first | omega | (simp; done) | (simp; omega))).trans Rb_15.out
  have rp_16 := (hb16.block _ (by first | omega | (simp; done) | (simp; omega))).trans Rp_15.out
  have rq_16 := (hb16.block _ (by first | omega | (simp; done) | (simp; omega))).trans Rq_15.out
  have rg_16 := (hb16.block _ (by first | omega | (simp; done) | (simp; omega))).trans Rg_15.out
  have rh_16 := (hb16.block _ (by first | omega | (simp; done) | (simp; omega))).trans Rh_15.out
  have Ob1_16 := Lib.hid (Ob1_15.out.below (w' := w16) (by repeat (first | with_reducible exact Below.refl _ _ | with_reducible assumption | with_reducible refine Below.drew ?_ | with_reducible refine Below.alloc ?_ (by first | exact Nat.le_refl _ | omega | (simp; done) | (simp; omega)) _ | with_reducible refine Below.setCell ?_ (by first | exact Nat.le_refl _ | omega | (simp; done) | (simp; omega)) _ | (with_reducible refine ext_trans ?_ (by with_reducible assumption)))))
  have Ob2_16 := Lib.hid (Ob2_15.out.below (w' := w16) (by repeat (first | with_reducible exact Below.refl _ _ | with_reducible assumption | with_reducible refine Below.drew ?_ | with_reducible refine Below.alloc ?_ (by first | exact Nat.le_refl _ | omega | (simp; done) | (simp; omega)) _ | with_reducible refine Below.setCell ?_ (by first | exact Nat.le_refl _ | omega | (simp; done) | (simp; omega)) _ | (with_reducible refine ext_trans ?_ (by with_reducible assumption)))))
  have Og1_16 := Lib.hid (Og1_15.out.below (w' := w16) (by repeat (first | with_reducible exact Below.refl _ _ | with_reducible assumption | with_reducible refine Below.drew ?_ | with_reducible refine Below.alloc ?_ (by first | exact Nat.le_refl _ | omega | (simp; done) | (simp; omega)) _ | with_reducible refine Below.setCell ?_ (by first | exact Nat.le_refl _ | omega | (simp; done) | (simp; omega)) _ | (with_reducible refine ext_trans ?_ (by with_reducible assumption)))))
  have Og2_16 := Lib.hid (Og2_15.out.below (w' := w16) (by repeat (first | with_reducible exact Below.refl _ _ | with_reducible assumption | with_reducible refine Below.drew ?_ | with_reducible refine Below.alloc ?_ (by first | exact Nat.le_refl _ | omega | (simp; done) | (simp; omega)) _ | with_reducible refine Below.setCell ?_ (by first | exact Nat.le_refl _ | omega | (simp; done) | (simp; omega)) _ | (with_reducible refine ext_trans ?_ (by with_reducible assumption)))))
  have Oh1_16 := Lib.hid (Oh1_15.out.below (w' := w16) (by repeat (first | with_reducible exact Below.refl _ _ | with_reducible assumption | with_reducible refine Below.drew ?_ | with_reducible refine Below.alloc ?_ (by first | exact Nat.le_refl _ | omega | (simp; done) | (simp; omega)) _ | with_reducible refine Below.setCell ?_ (by first | exact Nat.le_refl _ | omega | (simp; done) | (simp; omega)) _ | (with_reducible refine ext_trans ?_ (by with_reducible assumption)))))
  have Oh2_16 := Lib.hid (Oh2_15.out.below (w' := w16) (by repeat (first | with_reducible exact Below.refl _ _ | with_reducible assumption | with_reducible refine Below.drew ?_ | with_reducible refine Below.alloc ?_ (by first | exact Nat.le_refl _ | omega | (simp; done) | (simp; omega)) _ | with_reducible refine Below.setCell ?_ (by first | exact Nat.le_refl _ | omega | (simp; done) | (simp; omega)) _ | (with_reducible refine ext_trans ?_ (by with_reducible assumption)))))
  have hw16 : Below w.heap.size w w16 := (by repeat (first | with_reducible exact Below.refl _ _ | with_reducible assumption | with_reducible refine Below.drew ?_ | with_reducible refine Below.alloc ?_ (by first | exact Nat.le_refl _ | omega | (simp; done) | (simp; omega)) _ | with_reducible refine Below.setCell ?_ (by first | exact Nat.le_refl _ | omega | (simp; done) | (simp; omega)) _ | (with_reducible refine ext_trans ?_ (by with_reducible assumption))))
  have lRa1_16 : w.heap.size < w16.heap.size := by omega
  have lRa2_16 : w.heap.size + 1 < w16.heap.size := by omega
  have lRb_16 : b3 < w16.heap.size := by omega
  have lRp_16 : w4.heap.size < w16.heap.size := by omega
  have lRq_16 : w5.heap.size < w16.heap.size := by omega
  have lRg_16 : w6.heap.size < w16.heap.size := by omega
  have lRh_16 : b15 < w16.heap.size := by omega
  have Ra1_16 := Lib.hid ra1_16
  have r0_ra1_16 := cell_of_row _ _ 0 _ _ _ ra1_16
  have r1_ra1_16 := cell_of_row _ _ 1 _ _ _ ra1_16
  have r2_ra1_16 := cell_of_row _ _ 2 _ _ _ ra1_16
  have r3_ra1_16 := cell_of_row _ _ 3 _ _ _ ra1_16
  have r4_ra1_16 := cell_of_row _ _ 4 _ _ _ ra1_16
  have r5_ra1_16 := cell_of_row _ _ 5 _ _ _ ra1_16
  have r6_ra1_16 := cell_of_row _ _ 6 _ _ _ ra1_16
  have r7_ra1_16 := cell_of_row _ _ 7 _ _ _ ra1_16
  have r8_ra1_16 := cell_of_row _ _ 8 _ _ _ ra1_16
  have r9_ra1_16 := cell_of_row _ _ 9 _ _ _ ra1_16
  have f0_ra1_16 := frozen_of_row _ _ 0 _ _ ra1_16
  have f1_ra1_16 := frozen_of_row _ _ 1 _ _ ra1_16
  have f2_ra1_16 := frozen_of_row _ _ 2 _ _ ra1_16
  have f3_ra1_16 := frozen_of_row _ _ 3 _ _ ra1_16
  have f4_ra1_16 := frozen_of_row _ _ 4 _ _ ra1_16
  have f5_ra1_16 := frozen_of_row _ _ 5 _ _ ra1_16
  have f6_ra1_16 := frozen_of_row _ _ 6 _ _ ra1_16
  have f7_ra1_16 := frozen_of_row _ _ 7 _ _ ra1_16
  have f8_ra1_16 := frozen_of_row _ _ 8 _ _ ra1_16
  have f9_ra1_16 := frozen_of_row _ _ 9 _ _ ra1_16
  simp at r0_ra1_16 r1_ra1_16 r2_ra1_16 r3_ra1_16 r4_ra1_16 r5_ra1_16 r6_ra1_16 r7_ra1_16 r8_ra1_16 r9_ra1_16
  clear ra1_16
  have Ra2_16 := Lib.hid ra2_16
  have r0_ra2_16 := cell_of_row _ _ 0 _ _ _ ra2_16
  have r1_ra2_16 := cell_of_row _ _ 1 _ _ _ ra2_16
  have r2_ra2_16 := cell_of_row _ _ 2 _ _ _ ra2_16
  have r3_ra2_16 := cell_of_row _ _ 3 _ _ _ ra2_16
  have f0_ra2_16 := frozen_of_row _ _ 0 _ _ ra2_16
  have f1_ra2_16 := frozen_of_row _ _ 1 _ _ ra2_16
  have f2_ra2_16 := frozen_of_row _ _ 2 _ _ ra2_16
  have f3_ra2_16 := frozen_of_row _ _ 3 _ _ ra2_16
  simp at r0_ra2_16 r1_ra2_16 r2_ra2_16 r3_ra2_16
  clear ra2_16
  have Rb_16 := Lib.hid rb_16
  have r0_rb_16 := cell_of_row _ _ 0 _ _ _ rb_16
  have r1_rb_16 := cell_of_row _ _ 1 _ _ _ rb_16
  have r2_rb_16 := cell_of_row _ _ 2 _ _ _ rb_16
  have r3_rb_16 := cell_of_row _ _ 3 _ _ _ rb_16
  have r4_rb_16 := cell_of_row _ _ 4 _ _ _ rb_16
  have r5_rb_16 := cell_of_row _ _ 5 _ _ _ rb_16
  have r6_rb_16 := cell_of_row _ _ 6 _ _ _ rb_16
  have r7_rb_16 := cell_of_row _ _ 7 _ _ _ rb_16
  have r8_rb_16 := cell_of_row _ _ 8 _ _ _ rb_16
  have r9_rb_16 := cell_of_row _ _ 9 _ _ _ rb_16
  have f0_rb_16 := frozen_of_row _ _ 0 _ _ rb_16
  have f1_rb_16 := frozen_of_row _ _ 1 _ _ rb_16
  have f2_rb_16 := frozen_of_row _ _ 2 _ _ rb_16
  have f3_rb_16 := frozen_of_row _ _ 3 _ _ rb_16
  have f4_rb_16 := frozen_of_row _ _ 4 _ _ rb_16
  have f5_rb_16 := frozen_of_row _ _ 5 _ _ rb_16
  have f6_rb_16 := frozen_of_row _ _ 6 _ _ rb_16
  have f7_rb_16 := frozen_of_row _ _ 7 _ _ rb_16
  have f8_rb_16 := frozen_of_row _ _ 8 _ _ rb_16
  have f9_rb_16 := frozen_of_row _ _ 9 _ _ rb_16
  simp at r0_rb_16 r1_rb_16 r2_rb_16 r3_rb_16 r4_rb_16 r5_rb_16 r6_rb_16 r7_rb_16 r8_rb_16 r9_rb_16
  clear rb_16
  have Rp_16 := Lib.hid rp_16
  have r0_rp_16 := cell_of_row _ _ 0 _ _ _ rp_16
  have r1_rp_16 := cell_of_row _ _ 1 _ _ _ rp_16
  have r2_rp_16 := cell_of_row _ _ 2 _ _ _ rp_16
  have r3_rp_16 := cell_of_row _ _ 3 _ _ _ rp_16
  have r4_rp_16 := cell_of_row _ _ 4 _ _ _ rp_16
  have r5_rp_16 := cell_of_row _ _ 5 _ _ _ rp_16
  have r6_rp_16 := cell_of_row _ _ 6 _ _ _ rp_16
  have r7_rp_16 := cell_of_row _ _ 7 _ _ _ rp_16
  have r8_rp_16 := cell_of_row _ _ 8 _ _ _ rp_16
  have r9_rp_16 := cell_of_row _ _ 9 _ _ _ rp_16
  have f0_rp_16 := frozen_of_row _ _ 0 _ _ rp_16
  have f1_rp_16 := frozen_of_row _ _ 1 _ _ rp_16
  have f2_rp_16 := frozen_of_row _ _ 2 _ _ rp_16
  have f3_rp_16 := frozen_of_row _ _ 3 _ _ rp_16
  have f4_rp_16 := frozen_of_row _ _ 4 _ _ rp_16
  have f5_rp_16 := frozen_of_row _ _ 5 _ _ rp_16
  have f6_rp_16 := frozen_of_row _ _ 6 _ _ rp_16
  have f7_rp_16 := frozen_of_row _ _ 7 _ _ rp_16
  have f8_rp_16 := frozen_of_row _ _ 8 _ _ rp_16
  have f9_rp_16 := frozen_of_row _ _ 9 _ _ rp_16
  simp at r0_rp_16 r1_rp_16 r2_rp_16 r3_rp_16 r4_rp_16 r5_rp_16 r6_rp_16 r7_rp_16 r8_rp_16 r9_rp_16
  clear rp_16
  have Rq_16 := Lib.hid rq_16
  have r0_rq_16 := cell_of_row _ _ 0 _ _ _ rq_16
  have r1_rq_16 := cell_of_row _ _ 1 _ _ _ rq_16
  have r2_rq_16 := cell_of_row _ _ 2 _ _ _ rq_16
  have r3_rq_16 := cell_of_row _ _ 3 _ _ _ rq_16
  have f0_rq_16 := frozen_of_row _ _ 0 _ _ rq_16
  have f1_rq_16 := frozen_of_row _ _ 1 _ _ rq_16
  have f2_rq_16 := frozen_of_row _ _ 2 _ _ rq_16
  have f3_rq_16 := frozen_of_row _ _ 3 _ _ rq_16
  simp at r0_rq_16 r1_rq_16 r2_rq_16 r3_rq_16
  clear rq_16
  have Rg_16 := Lib.hid rg_16
  have r0_rg_16 := cell_of_row _ _ 0 _ _ _ rg_16
  have r1_rg_16 := cell_of_row _ _ 1 _ _ _ rg_16
  have r2_rg_16 := cell_of_row _ _ 2 _ _ _ rg_16
  have r3_rg_16 := cell_of_row _ _ 3 _ _ _ rg_16
  have r4_rg_16 := cell_of_row _ _ 4 _ _ _ rg_16
  have r5_rg_16 := cell_of_row _ _ 5 _ _ _ rg_16
  have r6_rg_16 := cell_of_row _ _ 6 _ _ _ rg_16
  have r7_rg_16 := cell_of_row _ _ 7 _ _ _ rg_16
  have r8_rg_16 := cell_of_row _ _ 8 _ _ _ rg_16
  have r9_rg_16 := cell_of_row _ _ 9 _ _ _ rg_16
  have f0_rg_16 := frozen_of_row _ _ 0 _ _ rg_16
  have f1_rg_16 := frozen_of_row _ _ 1 _ _ rg_16
  have f2_rg_16 := frozen_of_row _ _ 2 _ _ rg_16
  have f3_rg_16 := frozen_of_row _ _ 3 _ _ rg_16
  have f4_rg_16 := frozen_of_row _ _ 4 _ _ rg_16
  have f5_rg_16 := frozen_of_row _ _ 5 _ _ rg_16
  have f6_rg_16 := frozen_of_row _ _ 6 _ _ rg_16
  have f7_rg_16 := frozen_of_row _ _ 7 _ _ rg_16
  have f8_rg_16 := frozen_of_row _ _ 8 _ _ rg_16
  have f9_rg_16 := frozen_of_row _ _ 9 _ _ rg_16
  simp at r0_rg_16 r1_rg_16 r2_rg_16 r3_rg_16 r4_rg_16 r5_rg_16 r6_rg_16 r7_rg_16 r8_rg_16 r9_rg_16
  clear rg_16
  have Rh_16 := Lib.hid rh_16
  have r0_rh_16 := cell_of_row _ _ 0 _ _ _ rh_16
  have r1_rh_16 := cell_of_row _ _ 1 _ _ _ rh_16
  have r2_rh_16 := cell_of_row _ _ 2 _ _ _ rh_16
  have r3_rh_16 := cell_of_row _ _ 3 _ _ _ rh_16
  have r4_rh_16 := cell_of_row _ _ 4 _ _ _ rh_16
  have r5_rh_16 := cell_of_row _ _ 5 _ _ _ rh_16
  have r6_rh_16 := cell_of_row _ _ 6 _ _ _ rh_16
  have r7_rh_16 := cell_of_row _ _ 7 _ _ _ rh_16
  have r8_rh_16 := cell_of_row _ _ 8 _ _ _ rh_16
  have r9_rh_16 := cell_of_row _ _ 9 _ _ _ rh_16
  have f0_rh_16 := frozen_of_row _ _ 0 _ _ rh_16
  have f1_rh_16 := frozen_of_row _ _ 1 _ _ rh_16
  have f2_rh_16 := frozen_of_row _ _ 2 _ _ rh_16
  have f3_rh_16 := frozen_of_row _ _ 3 _ _ rh_16
  have f4_rh_16 := frozen_of_row _ _ 4 _ _ rh_16
  have f5_rh_16 := frozen_of_row _ _ 5 _ _ rh_16
  have f6_rh_16 := frozen_of_row _ _ 6 _ _ rh_16
  have f7_rh_16 := frozen_of_row _ _ 7 _ _ rh_16
  have f8_rh_16 := frozen_of_row _ _ 8 _ _ rh_16
  have f9_rh_16 := frozen_of_row _ _ 9 _ _ rh_16
  simp at r0_rh_16 r1_rh_16 r2_rh_16 r3_rh_16 r4_rh_16 r5_rh_16 r6_rh_16 r7_rh_16 r8_rh_16 r9_rh_16
  clear rh_16
  clear r0_ra1_15 f0_ra1_15 r1_ra1_15 f1_ra1_15 r2_ra1_15 f2_ra1_15 r3_ra1_15 f3_ra1_15 r4_ra1_15 f4_ra1_15 r5_ra1_15 f5_ra1_15 r6_ra1_15 f6_ra1_15 r7_ra1_15 f7_ra1_15 r8_ra1_15 f8_ra1_15 r9_ra1_15 f9_ra1_15
  clear r0_ra2_15 f0_ra2_15 r1_ra2_15 f1_ra2_15 r2_ra2_15 f2_ra2_15 r3_ra2_15 f3_ra2_15
  clear r0_rb_15 f0_rb_15 r1_rb_15 f1_rb_15 r2_rb_15 f2_rb_15 r3_rb_15 f3_rb_15 r4_rb_15 f4_rb_15 r5_rb_15 f5_rb_15 r6_rb_15 f6_rb_15 r7_rb_15 f7_rb_15 r8_rb_15 f8_rb_15 r9_rb_15 f9_rb_15
  clear r0_rp_15 f0_rp_15 r1_rp_15 f1_rp_15 r2_rp_15 f2_rp_15 r3_rp_15 f3_rp_15 r4_rp_15 f4_rp_15 r5_rp_15 f5_rp_15 r6_rp_15 f6_rp_15 r7_rp_15 f7_rp_15 r8_rp_15 f8_rp_15 r9_rp_15 f9_rp_15
  clear r0_rq_15 f0_rq_15 r1_rq_15 f1_rq_15 r2_rq_15 f2_rq_15 r3_rq_15 f3_rq_15
  clear r0_rg_15 f0_rg_15 r1_rg_15 f1_rg_15 r2_rg_15 f2_rg_15 r3_rg_15 f3_rg_15 r4_rg_15 f4_rg_15 r5_rg_15 f5_rg_15 r6_rg_15 f6_rg_15 r7_rg_15 f7_rg_15 r8_rg_15 f8_rg_15 r9_rg_15 f9_rg_15
  clear r0_rh_15 f0_rh_15 r1_rh_15 f1_rh_15 r2_rh_15 f2_rh_15 r3_rh_15 f3_rh_15 r4_rh_15 f4_rh_15 r5_rh_15 f5_rh_15 r6_rh_15 f6_rh_15 r7_rh_15 f7_rh_15 r8_rh_15 f8_rh_15 r9_rh_15 f9_rh_15
  go_wp2_with fail
  refine (heldKeys_any R _ _ R.now.rs.length R.bef.rs.length MR1.out MR2.out 1 (by omega) (by omega) _ (marked_rdMacRow Og1_16.out) (marked_rdMacRow Og2_16.out)).mono ?_
  rintro e w17 ⟨rfl, hb17⟩
  have hz17 := hb17.size
  (try simp at hz17)
  have ra1_17 := (hb17.block _ (by first | omega | (simp; done) | (simp; omega))).trans Ra1_16.out
  have ra2_17 := (hb17.block _ (by first | omega | (simp; done) | (simp; omega))).trans Ra2_16.out
  have rb_17 := (hb17.block _ (by first | omega | (simp; done) | (simp; omega))).trans Rb_16.out
  have rp_17 := (hb17.block _ (by first | omega | (simp; done) | (simp; omega))).trans Rp_16.out
  have rq_17 := (hb17.block _ (by first | omega | (simp; done) | (simp; omega))).trans Rq_16.out
  have rg_17 := (hb17.block _ (by first | omega | (simp; done) | (simp; omega))).trans Rg_16.out
  have rh_17 := (hb17.block _ (by first | omega | (simp; done) | (simp; omega))).trans Rh_16.out
  have Og1_17 := Lib.hid (Og1_16.out.below (w' := w17) (by repeat (first | with_reducible exact Below.refl _ _ | with_reducible assumption | with_reducible refine Below.drew ?_ | with_reducible refine Below.alloc ?_ (by first | exact Nat.le_refl _ | omega | (simp; done) | (simp; omega)) _ | with_reducible refine Below.setCell ?_ (by first | exact Nat.le_refl _ | omega | (simp; done) | (simp; omega)) _ | (with_reducible refine ext_trans ?_ (by with_reducible assumption)))))
  have Og2_17 := Lib.hid (Og2_16.out.below (w' := w17) (by repeat (first | with_reducible exact Below.refl _ _ | with_reducible assumption | with_reducible refine Below.drew ?_ | with_reducible refine Below.alloc ?_ (by first | exact Nat.le_refl _ | omega | (simp; done) | (simp; omega)) _ | with_reducible refine Below.setCell ?_ (by first | exact Nat.le_refl _ | omega | (simp; done) | (simp; omega)) _ | (with_reducible refine ext_trans ?_ (by with_reducible assumption)))))
  have hw17 : Below w.heap.size w w17 := (by repeat (first | with_reducible exact Below.refl _ _ | with_reducible assumption | with_reducible refine Below.drew ?_ | with_reducible refine Below.alloc ?_ (by first | exact Nat.le_refl _ | omega | (simp; done) | (simp; omega)) _ | with_reducible refine Below.setCell ?_ (by first | exact Nat.le_refl _ | omega | (simp; done) | (simp; omega)) _ | (with_reducible refine ext_trans ?_ (by with_reducible assumption))))
  have lRa1_17 : w.heap.size < w17.heap.size := by omega
  have lRa2_17 : w.heap.size + 1 < w17.heap.size := by omega
  have lRb_17 : b3 < w17.heap.size := by omega
  have lRp_17 : w4.heap.size < w17.heap.size := by omega
  have lRq_17 : w5.heap.size < w17.heap.size := by omega
  have lRg_17 : w6.heap.size < w17.heap.size := by omega
  have lRh_17 : b15 < w17.heap.size := by omega
  have Ra1_17 := Lib.hid ra1_17
  have r0_ra1_17 := cell_of_row _ _ 0 _ _ _ ra1_17
  have r1_ra1_17 := cell_of_row _ _ 1 _ _ _ ra1_17
  have r2_ra1_17 := cell_of_row _ _ 2 _ _ _ ra1_17
  have r3_ra1_17 := cell_of_row _ _ 3 _ _ _ ra1_17
  have r4_ra1_17 := cell_of_row _ _ 4 _ _ _ ra1_17
  have r5_ra1_17 := cell_of_row _ _ 5 _ _ _ ra1_17
  have r6_ra1_17 := cell_of_row _ _ 6 _ _ _ ra1_17
  have r7_ra1_17 := cell_of_row _ _ 7 _ _ _ ra1_17
  have r8_ra1_17 := cell_of_row _ _ 8 _ _ _ ra1_17
  have r9_ra1_17 := cell_of_row _ _ 9 _ _ _ ra1_17
  have f0_ra1_17 := frozen_of_row _ _ 0 _ _ ra1_17
  have f1_ra1_17 := frozen_of_row _ _ 1 _ _ ra1_17
  have f2_ra1_17 := frozen_of_row _ _ 2 _ _ ra1_17
  have f3_ra1_17 := frozen_of_row _ _ 3 _ _ ra1_17
  have f4_ra1_17 := frozen_of_row _ _ 4 _ _ ra1_17
  have f5_ra1_17 := frozen_of_row _ _ 5 _ _ ra1_17
  have f6_ra1_17 := frozen_of_row _ _ 6 _ _ ra1_17
  have f7_ra1_17 := frozen_of_row _ _ 7 _ _ ra1_17
  have f8_ra1_17 := frozen_of_row _ _ 8 _ _ ra1_17
  have f9_ra1_17 := frozen_of_row _ _ 9 _ _ ra1_17
  simp at r0_ra1_17 r1_ra1_17 r2_ra1_17 r3_ra1_17 r4_ra1_17 r5_ra1_17 r6_ra1_17 r7_ra1_17 r8_ra1_17 r9_ra1_17
  clear ra1_17
  have Ra2_17 := Lib.hid ra2_17
  have r0_ra2_17 := cell_of_row _ _ 0 _ _ _ ra2_17
  have r1_ra2_17 := cell_of_row _ _ 1 _ _ _ ra2_17
  have r2_ra2_17 := cell_of_row _ _ 2 _ _ _ ra2_17
  have r3_ra2_17 := cell_of_row _ _ 3 _ _ _ ra2_17
  have f0_ra2_17 := frozen_of_row _ _ 0 _ _ ra2_17
  have f1_ra2_17 := frozen_of_row _ _ 1 _ _ ra2_17
  have f2_ra2_17 := frozen_of_row _ _ 2 _ _ ra2_17
  have f3_ra2_17 := frozen_of_row _ _ 3 _ _ ra2_17
  simp at r0_ra2_17 r1_ra2_17 r2_ra2_17 r3_ra2_17
  clear ra2_17
  have Rb_17 := Lib.hid rb_17
  have r0_rb_17 := cell_of_row _ _ 0 _ _ _ rb_17
  have r1_rb_17 := cell_of_row _ _ 1 _ _ _ rb_17
  have r2_rb_17 := cell_of_row _ _ 2 _ _ _ rb_17
  have r3_rb_17 := cell_of_row _ _ 3 _ _ _ rb_17
  have r4_rb_17 := cell_of_row _ _ 4 _ _ _ rb_17
  have r5_rb_17 := cell_of_row _ _ 5 _ _ _ rb_17
  have r6_rb_17 := cell_of_row _ _ 6 _ _ _ rb_17
  have r7_rb_17 := cell_of_row _ _ 7 _ _ _ rb_17
  have r8_rb_17 := cell_of_row _ _ 8 _ _ _ rb_17
  have r9_rb_17 := cell_of_row _ _ 9 _ _ _ rb_17
  have f0_rb_17 := frozen_of_row _ _ 0 _ _ rb_17
  have f1_rb_17 := frozen_of_row _ _ 1 _ _ rb_17
  have f2_rb_17 := frozen_of_row _ _ 2 _ _ rb_17
  have f3_rb_17 := frozen_of_row _ _ 3 _ _ rb_17
  have f4_rb_17 := frozen_of_row _ _ 4 _ _ rb_17
  have f5_rb_17 := frozen_of_row _ _ 5 _ _ rb_17
  have f6_rb_17 := frozen_of_row _ _ 6 _ _ rb_17
  have f7_rb_17 := frozen_of_row _ _ 7 _ _ rb_17
  have f8_rb_17 := frozen_of_row _ _ 8 _ _ rb_17
  have f9_rb_17 := frozen_of_row _ _ 9 _ _ rb_17
  simp at r0_rb_17 r1_rb_17 r2_rb_17 r3_rb_17 r4_rb_17 r5_rb_17 r6_rb_17 r7_rb_17 r8_rb_17 r9_rb_17
  clear rb_17
  have Rp_17 := Lib.hid rp_17
  have r0_rp_17 := cell_of_row _ _ 0 _ _ _ rp_17
  have r1_rp_17 := cell_of_row _ _ 1 _ _ _ rp_17
  have r2_rp_17 := cell_of_row _ _ 2 _ _ _ rp_17
  have r3_rp_17 := cell_of_row _ _ 3 _ _ _ rp_17
  have r4_rp_17 := cell_of_row _ _ 4 _ _ _ rp_17
  have r5_rp_17 := cell_of_row _ _ 5 _ _ _ rp_17
  have r6_rp_17 := cell_of_row _ _ 6 _ _ _ rp_17
  have r7_rp_17 := cell_of_row _ _ 7 _ _ _ rp_17
  have r8_rp_17 := cell_of_row _ _ 8 _ _ _ rp_17
  have r9_rp_17 := cell_of_row _ _ 9 _ _ _ rp_17
  have f0_rp_17 := frozen_of_row _ _ 0 _ _ rp_17
  have f1_rp_17 := frozen_of_row _ _ 1 _ _ rp_17
  have f2_rp_17 := frozen_of_row _ _ 2 _ _ rp_17
  have f3_rp_17 := frozen_of_row _ _ 3 _ _ rp_17
  have f4_rp_17 := frozen_of_row _ _ 4 _ _ rp_17
  have f5_rp_17 := frozen_of_row _ _ 5 _ _ rp_17
  have f6_rp_17 := frozen_of_row _ _ 6 _ _ rp_17
  have f7_rp_17 := frozen_of_row _ _ 7 _ _ rp_17
  have f8_rp_17 := frozen_of_row _ _ 8 _ _ rp_17
  have f9_rp_17 := frozen_of_row _ _ 9 _ _ rp_17
  simp at r0_rp_17 r1_rp_17 r2_rp_17 r3_rp_17 r4_rp_17 r5_rp_17 r6_rp_17 r7_rp_17 r8_rp_17 r9_rp_17
  clear rp_17
  have Rq_17 := Lib.hid rq_17
  have r0_rq_17 := cell_of_row _ _ 0 _ _ _ rq_17
  have r1_rq_17 := cell_of_row _ _ 1 _ _ _ rq_17
  have r2_rq_17 := cell_of_row _ _ 2 _ _ _ rq_17
  have r3_rq_17 := cell_of_row _ _ 3 _ _ _ rq_17
  have f0_rq_17 := frozen_of_row _ _ 0 _ _ rq_17
  have f1_rq_17 := frozen_of_row _ _ 1 _ _ rq_17
  have f2_rq_17 := frozen_of_row _ _ 2 _ _ rq_17
  have f3_rq_17 := frozen_of_row _ _ 3 _ _ rq_17
  simp at r0_rq_17 r1_rq_17 r2_rq_17 r3_rq_17
  clear rq_17
  have Rg_17 := Lib.hid rg_17
  have r0_rg_17 := cell_of_row _ _ 0 _ _ _ rg_17
  have r1_rg_17 := cell_of_row _ _ 1 _ _ _ rg_17
  have r2_rg_17 := cell_of_row _ _ 2 _ _ _ rg_17
  have r3_rg_17 := cell_of_row _ _ 3 _ _ _ rg_17
  have r4_rg_17 := cell_of_row _ _ 4 _ _ _ rg_17
  have r5_rg_17 := cell_of_row _ _ 5 _ _ _ rg_17
  have r6_rg_17 := cell_of_row _ _ 6 _ _ _ rg_17
  have r7_rg_17 := cell_of_row _ _ 7 _ _ _ rg_17
  have r8_rg_17 := cell_of_row _ _ 8 _ _ _ rg_17
  have r9_rg_17 := cell_of_row _ _ 9 _ _ _ rg_17
  have f0_rg_17 := frozen_of_row _ _ 0 _ _ rg_17
  have f1_rg_17 := frozen_of_row _ _ 1 _ _ rg_17
  have f2_rg_17 := frozen_of_row _ _ 2 _ _ rg_17
  have f3_rg_17 := frozen_of_row _ _ 3 _ _ rg_17
  have f4_rg_17 := frozen_of_row _ _ 4 _ _ rg_17
  have f5_rg_17 := frozen_of_row _ _ 5 _ _ rg_17
  have f6_rg_17 := frozen_of_row _ _ 6 _ _ rg_17
  have f7_rg_17 := frozen_of_row _ _ 7 _ _ rg_17
  have f8_rg_17 := frozen_of_row _ _ 8 _ _ rg_17
  have f9_rg_17 := frozen_of_row _ _ 9 _ _ rg_17
  simp at r0_rg_17 r1_rg_17 r2_rg_17 r3_rg_17 r4_rg_17 r5_rg_17 r6_rg_17 r7_rg_17 r8_rg_17 r9_rg_17
  clear rg_17
  have Rh_17 := Lib.hid rh_17
  have r0_rh_17 := cell_of_row _ _ 0 _ _ _ rh_17
  have r1_rh_17 := cell_of_row _ _ 1 _ _ _ rh_17
  have r2_rh_17 := cell_of_row _ _ 2 _ _ _ rh_17
  have r3_rh_17 := cell_of_row _ _ 3 _ _ _ rh_17
  have r4_rh_17 := cell_of_row _ _ 4 _ _ _ rh_17
  have r5_rh_17 := cell_of_row _ _ 5 _ _ _ rh_17
  have r6_rh_17 := cell_of_row _ _ 6 _ _ _ rh_17
  have r7_rh_17 := cell_of_row _ _ 7 _ _ _ rh_17
  have r8_rh_17 := cell_of_row _ _ 8 _ _ _ rh_17
  have r9_rh_17 := cell_of_row _ _ 9 _ _ _ rh_17
  have f0_rh_17 := frozen_of_row _ _ 0 _ _ rh_17
  have f1_rh_17 := frozen_of_row _ _ 1 _ _ rh_17
  have f2_rh_17 := frozen_of_row _ _ 2 _ _ rh_17
  have f3_rh_17 := frozen_of_row _ _ 3 _ _ rh_17
  have f4_rh_17 := frozen_of_row _ _ 4 _ _ rh_17
  have f5_rh_17 := frozen_of_row _ _ 5 _ _ rh_17
  have f6_rh_17 := frozen_of_row _ _ 6 _ _ rh_17
  have f7_rh_17 := frozen_of_row _ _ 7 _ _ rh_17
  have f8_rh_17 := frozen_of_row _ _ 8 _ _ rh_17
  have f9_rh_17 := frozen_of_row _ _ 9 _ _ rh_17
  simp at r0_rh_17 r1_rh_17 r2_rh_17 r3_rh_17 r4_rh_17 r5_rh_17 r6_rh_17 r7_rh_17 r8_rh_17 r9_rh_17
  clear rh_17
  clear r0_ra1_16 f0_ra1_16 r1_ra1_16 f1_ra1_16 r2_ra1_16 f2_ra1_16 r3_ra1_16 f3_ra1_16 r4_ra1_16 f4_ra1_16 r5_ra1_16 f5_ra1_16 r6_ra1_16 f6_ra1_16 r7_ra1_16 f7_ra1_16 r8_ra1_16 f8_ra1_16 r9_ra1_16 f9_ra1_16
  clear r0_ra2_16 f0_ra2_16 r1_ra2_16 f1_ra2_16 r2_ra2_16 f2_ra2_16 r3_ra2_16 f3_ra2_16
  clear r0_rb_16 f0_rb_16 r1_rb_16 f1_rb_16 r2_rb_16 f2_rb_16 r3_rb_16 f3_rb_16 r4_rb_16 f4_rb_16 r5_rb_16 f5_rb_16 r6_rb_16 f6_rb_16 r7_rb_16 f7_rb_16 r8_rb_16 f8_rb_16 r9_rb_16 f9_rb_16
  clear r0_rp_16 f0_rp_16 r1_rp_16 f1_rp_16 r2_rp_16 f2_rp_16 r3_rp_16 f3_rp_16 r4_rp_16 f4_rp_16 r5_rp_16 f5_rp_16 r6_rp_16 f6_rp_16 r7_rp_16 f7_rp_16 r8_rp_16 f8_rp_16 r9_rp_16 f9_rp_16
  clear r0_rq_16 f0_rq_16 r1_rq_16 f1_rq_16 r2_rq_16 f2_rq_16 r3_rq_16 f3_rq_16
  clear r0_rg_16 f0_rg_16 r1_rg_16 f1_rg_16 r2_rg_16 f2_rg_16 r3_rg_16 f3_rg_16 r4_rg_16 f4_rg_16 r5_rg_16 f5_rg_16 r6_rg_16 f6_rg_16 r7_rg_16 f7_rg_16 r8_rg_16 f8_rg_16 r9_rg_16 f9_rg_16
  clear r0_rh_16 f0_rh_16 r1_rh_16 f1_rh_16 r2_rh_16 f2_rh_16 r3_rh_16 f3_rh_16 r4_rh_16 f4_rh_16 r5_rh_16 f5_rh_16 r6_rh_16 f6_rh_16 r7_rh_16 f7_rh_16 r8_rh_16 f8_rh_16 r9_rh_16 f9_rh_16
  go_wp2_with fail
  go_ret
  exact ⟨rfl, hw17⟩

set_option maxRecDepth 100000 in
theorem FnExactRotated_lifted (os : Os) (started : os.Started) (H : Type) (enc : TypeId × Value → H) :
    ReturnsInHanded {} Try.checked os 10 .any (Rows.fnExactRotatedSpec.pre6 enc Try.prog Try.f10 Rows.fnExactRotatedRow.domain false) (Rows.fnExactRotatedSpec.post enc Try.prog Try.f10 false true false false) := by
  refine law_lifted (C := Try.checked) own_ started (by kernel_rfl) Try.func10 laid_ rfl ?_ ?_ rfl Try.underlying4
    (ChangeSpec.witness6 (enc := enc) (C := Try.checked) false ⟨#[], #[.agg #[.int .i64 0, .bool false, .int .u64 0, .int .u64 0, .slice none 0 0, .bool false, .int .u64 0, .int .u64 0, .slice none 0 0, .bool false], .agg #[.bool false, .int .u64 0, .int .u64 0, .slice none 0 0]], []⟩ 8 (by kernel_rfl) (by kernel_rfl) (by kernel_rfl) (by kernel_rfl)) ?_
  · intro ds h
    match ds, h with
    | [_, _], _ => rfl
  · intro t ht
    rw [Try.params10] at ht
    simp at ht
    rcases ht with rfl | rfl
    all_goals exact ⟨by kernel_rfl, of_decide_eq_true (by kernel_rfl)⟩
  · intro W base args ds p hval hA hlt
    have hval : ∀ (j : Nat) t v, Try.f10.params[j]? = some t → args[j]? = some v → Value.okWide Try.prog W .any base t v := hval
    have hA : DataW.TrodAll enc Try.prog W 0 (fun _ => true) true Try.f10.params.toList args.toList ds p := hA
    rw [Try.params10] at hA hval
    obtain ⟨v0, v1, d0, d1, p0, p1, rfl, rfl, rfl, h0, h1⟩ := trodAll_two hA
    obtain ⟨ae, an0, an1, an2, an3, ab0, ab1, ab2, ab3, aq, rfl, wae, wan1, wan2, ⟨kan, yan, tan⟩, wab1, wab2, ⟨kab, yab, tab⟩⟩ := open_Keys (hval 0 55 v0 rfl rfl) h0
    obtain ⟨lan, ran, fan, nan⟩ := open_rowsMacRow tan
    obtain ⟨lab, rab, fab, nab⟩ := open_rowsMacRow tab
    obtain ⟨b0, b1, b2, b3, rfl, wb0, wb1, ⟨kb, yb, tb⟩⟩ := open_Mac (hval 1 53 v1 rfl rfl) h1
    obtain ⟨lb, rb, fb, nb⟩ := open_rowsMacRow tb
    exact (by rw [uI_of an1 (by assumption), uI_of an2 (by assumption), uI_of ab1 (by assumption), uI_of ab2 (by assumption), uI_of b1 (by assumption), uI_of b2 (by assumption)]; exact FnExactRotated_walk ⟨ae, ⟨an0, _, _, lan⟩, ⟨ab0, _, _, lab⟩, aq⟩ an3 ab3 ⟨b0, _, _, lb⟩ b3 W ran fan.fit nan rab fab.fit nab rb fb.fit nb ⟨nan, fun y hy => bd_i64 (fan y hy).2⟩ ⟨nab, fun y hy => bd_i64 (fab y hy).2⟩ ⟨nb, fun x hx => bd_i64 (fb x hx).2⟩)

theorem FnExactRotated_holds : Rows.FnExactRotatedSaid :=
  OpenClaim.holds_of_wide 10 Try.f10 rfl rfl rfl rfl rfl rfl rfl ⟨rfl, rfl, rfl, rfl, rfl⟩ rfl rfl rfl rfl rfl (by kernel_rfl) Try.func10 (by kernel_rfl)
    (of_decide_eq_true (by kernel_rfl)) (by have hw := wrap_ (P := Try.prog) (fn := Try.f10) (by kernel_rfl); exact hw)
    (fun os started H enc _ => FnExactRotated_lifted os started H enc)
end Go.Proofs.Ytjlnbjabehpncaa
