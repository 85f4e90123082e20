/-
  The law FnExactCheckCookie returns true for every input. No condition.
-/
import Derived.Test.YtjlnbjabehpncaaChk
import Derived.Test.YtjlnbjabehpncaaOpnMacRow
namespace Go.Proofs.Ytjlnbjabehpncaa
set_option maxRecDepth 100000
open Go.ChangeShapes Go.WideShapes Go.ChangeAt Go.RowKit

set_option maxHeartbeats 4000000 in
theorem FnExactCheckCookie_walk (x1 : RKeys) (v11 v12 : Value) (a b c seq ck : Int) (w : World) (h11 : RdMacRow w v11 x1.now.rs) (f11 : FitMacRow x1.now.rs) (n11 : x1.now.rs.length ≤ maxLen) (h12 : RdMacRow w v12 x1.bef.rs) (f12 : FitMacRow x1.bef.rs) (n12 : x1.bef.rs.length ≤ maxLen) (g1 : x1.now.fits) (g2 : x1.bef.fits) :
    Calls Try.prog 11 #[vK x1 v11 v12, .agg #[.int .i64 a, .int .i64 b, .int .i64 c], .int .i64 seq, .int .i64 ck] w fun e w' => e = .returned (.bool true) ∧ Below w.heap.size w w' := by
  have G1 := Lib.hid g1
  have G2 := Lib.hid g2
  clear g1 g2
  obtain ⟨A11, c11, rfl, -⟩ := id h11
  have H11 := Lib.hid h11
  have F11 := Lib.hid f11
  have N11 := Lib.hid n11
  clear h11 f11 n11
  obtain ⟨A12, c12, rfl, -⟩ := id h12
  have H12 := Lib.hid h12
  have F12 := Lib.hid f12
  have N12 := Lib.hid n12
  clear h12 f12 n12
  obtain ⟨⟨r1, r2, r3⟩, hR⟩ : ∃ R, checkR x1 a b c seq ck = R := ⟨_, rfl⟩
  have hs := fun W v1 v2 n1 n2 h1 h2 => sCheckCookie_any x1 v1 v2 a b c seq ck G1.out G2.out n1 n2 W h1 h2
  have hi := fun W v1 v2 n1 n2 h1 h2 => CheckCookie_any x1 v1 v2 a b c seq ck G1.out G2.out n1 n2 W h1 h2
  rw [hR] at hs hi
  dsimp only [vCk] at hs hi
  have HS := Lib.hid hs
  have HI := Lib.hid hi
  clear hs hi hR
  go_enter Try.func11, Try.ntmps11
  go_wp2_with fail
  refine (szKeys_any x1 _ _ F11.out F12.out N11.out N12.out 1048576 (by omega) (by omega) _ (H11.out.below (by repeat (first | with_reducible exact Below.refl _ _ | with_reducible assumption | with_reducible refine Below.drew ?_ | with_reducible refine Below.alloc ?_ (by first | exact Nat.le_refl _ | omega | (simp; done) | (simp; omega)) _ | with_reducible refine Below.setCell ?_ (by first | exact Nat.le_refl _ | omega | (simp; done) | (simp; omega)) _ | (with_reducible refine ext_trans ?_ (by with_reducible assumption))))) (H12.out.below (by repeat (first | with_reducible exact Below.refl _ _ | with_reducible assumption | with_reducible refine Below.drew ?_ | with_reducible refine Below.alloc ?_ (by first | exact Nat.le_refl _ | omega | (simp; done) | (simp; omega)) _ | with_reducible refine Below.setCell ?_ (by first | exact Nat.le_refl _ | omega | (simp; done) | (simp; omega)) _ | (with_reducible refine ext_trans ?_ (by with_reducible assumption)))))).mono ?_
  rintro e w1 ⟨y1, rfl, ⟨hy1a, hy1b⟩, hs1, hb1⟩
  have hz1 := hb1.size
  (try simp at hz1)
  have ra1_1 : w1.heap[w.heap.size]? = some (.cells #[.int .i64 x1.ep, .bool x1.now.u, .int .u64 (uI x1.now.k), .int .u64 (uI x1.now.l), .slice A11 x1.now.rs.length c11, .bool x1.bef.u, .int .u64 (uI x1.bef.k), .int .u64 (uI x1.bef.l), .slice A12 x1.bef.rs.length c12, .bool x1.two] 55 (0, 0)) := (hb1.block _ (by first | (simp; done) | (simp; omega))).trans (by repeat (first | exact heap_new _ _ _ (by first | rfl | (simp; done) | (simp; omega)) | refine (Below.heap_alloc _ _ _ (by first | omega | (simp; done) | (simp; omega))).trans ?_))
  have rt_1 : w1.heap[w.heap.size + 1]? = some (.cells #[.int .i64 a, .int .i64 b, .int .i64 c] 64 (0, 0)) := (hb1.block _ (by first | (simp; done) | (simp; omega))).trans (by repeat (first | exact heap_new _ _ _ (by first | rfl | (simp; done) | (simp; omega)) | refine (Below.heap_alloc _ _ _ (by first | omega | (simp; done) | (simp; omega))).trans ?_))
  have hw1 : Below w.heap.size w w1 := (by repeat (first | with_reducible exact Below.refl _ _ | with_reducible assumption | with_reducible refine Below.drew ?_ | with_reducible refine Below.alloc ?_ (by first | exact Nat.le_refl _ | omega | (simp; done) | (simp; omega)) _ | with_reducible refine Below.setCell ?_ (by first | exact Nat.le_refl _ | omega | (simp; done) | (simp; omega)) _ | (with_reducible refine ext_trans ?_ (by with_reducible assumption))))
  have lRa1_1 : w.heap.size < w1.heap.size := by omega
  have lRt_1 : w.heap.size + 1 < w1.heap.size := by omega
  have Ra1_1 := Lib.hid ra1_1
  have r0_ra1_1 := cell_of_row _ _ 0 _ _ _ ra1_1
  have r1_ra1_1 := cell_of_row _ _ 1 _ _ _ ra1_1
  have r2_ra1_1 := cell_of_row _ _ 2 _ _ _ ra1_1
  have r3_ra1_1 := cell_of_row _ _ 3 _ _ _ ra1_1
  have r4_ra1_1 := cell_of_row _ _ 4 _ _ _ ra1_1
  have r5_ra1_1 := cell_of_row _ _ 5 _ _ _ ra1_1
  have r6_ra1_1 := cell_of_row _ _ 6 _ _ _ ra1_1
  have r7_ra1_1 := cell_of_row _ _ 7 _ _ _ ra1_1
  have r8_ra1_1 := cell_of_row _ _ 8 _ _ _ ra1_1
  have r9_ra1_1 := cell_of_row _ _ 9 _ _ _ ra1_1
  have f0_ra1_1 := frozen_of_row _ _ 0 _ _ ra1_1
  have f1_ra1_1 := frozen_of_row _ _ 1 _ _ ra1_1
  have f2_ra1_1 := frozen_of_row _ _ 2 _ _ ra1_1
  have f3_ra1_1 := frozen_of_row _ _ 3 _ _ ra1_1
  have f4_ra1_1 := frozen_of_row _ _ 4 _ _ ra1_1
  have f5_ra1_1 := frozen_of_row _ _ 5 _ _ ra1_1
  have f6_ra1_1 := frozen_of_row _ _ 6 _ _ ra1_1
  have f7_ra1_1 := frozen_of_row _ _ 7 _ _ ra1_1
  have f8_ra1_1 := frozen_of_row _ _ 8 _ _ ra1_1
  have f9_ra1_1 := frozen_of_row _ _ 9 _ _ ra1_1
  simp at r0_ra1_1 r1_ra1_1 r2_ra1_1 r3_ra1_1 r4_ra1_1 r5_ra1_1 r6_ra1_1 r7_ra1_1 r8_ra1_1 r9_ra1_1
  clear ra1_1
  have Rt_1 := Lib.hid rt_1
  have r0_rt_1 := cell_of_row _ _ 0 _ _ _ rt_1
  have r1_rt_1 := cell_of_row _ _ 1 _ _ _ rt_1
  have r2_rt_1 := cell_of_row _ _ 2 _ _ _ rt_1
  have f0_rt_1 := frozen_of_row _ _ 0 _ _ rt_1
  have f1_rt_1 := frozen_of_row _ _ 1 _ _ rt_1
  have f2_rt_1 := frozen_of_row _ _ 2 _ _ rt_1
  simp at r0_rt_1 r1_rt_1 r2_rt_1
  clear rt_1
  by_cases hx1 : y1 < 0
  · go_wp2_with fail
    go_ret
    exact ⟨rfl, (by repeat (first | with_reducible exact Below.refl _ _ | with_reducible assumption | with_reducible refine Below.drew ?_ | with_reducible refine Below.alloc ?_ (by first | exact Nat.le_refl _ | omega | (simp; done) | (simp; omega)) _ | with_reducible refine Below.setCell ?_ (by first | exact Nat.le_refl _ | omega | (simp; done) | (simp; omega)) _ | (with_reducible refine ext_trans ?_ (by with_reducible assumption))))⟩
  have M11 : Hid (x1.now.rs.length ≤ 1048576) := (by have := hs1.out (by omega); omega : x1.now.rs.length ≤ 1048576)
  have P11 : Hid (x1.now.rs.length ≤ 1048600) := (by have := hs1.out (by omega); omega : x1.now.rs.length ≤ 1048600)
  have M12 : Hid (x1.bef.rs.length ≤ 1048576) := (by have := hs1.out (by omega); omega : x1.bef.rs.length ≤ 1048576)
  have P12 : Hid (x1.bef.rs.length ≤ 1048600) := (by have := hs1.out (by omega); omega : x1.bef.rs.length ≤ 1048600)
  go_wp2_with fail
  go_cut [10, 11, 12] (fun z1 z2 z3 wx => (z1 = .int .i64 r1 ∧ z2 = .int .i64 r2 ∧ z3 = .bool r3) ∧ Below w1.heap.size w1 wx)
  case first =>
    first | go_region_held3 (fun w' => (∀ b' o, b' < (w1).heap.size → w'.cell? ⟨b', o, none⟩ = (w1).cell? ⟨b', o, none⟩) ∧ Below (w1).heap.size (w1) w') (first | with_reducible assumption | (with_reducible apply rg_keep; rotate_left; with_reducible assumption; with_reducible assumption) | with_reducible exact rg_start _ | with_reducible exact rg_alloc (KeptS.out (by with_reducible assumption)) _ | with_reducible exact rg_alloc (by with_reducible assumption) _ | with_reducible exact rg_start_alloc _ _ | ((repeat (with_reducible refine rg_set ?_ _ (by first | exact Nat.le_refl _ | omega | (simp; done) | (simp; omega)) _)); first | with_reducible exact KeptS.out (by with_reducible assumption) | with_reducible assumption | with_reducible exact rg_alloc (KeptS.out (by with_reducible assumption)) _)) (first | (go_at_call 31; ((with_reducible refine (toKeys_any x1 _ _ M11.out M12.out _ (H11.out.below (ext_trans hw1 (rgBMacRow (by first | with_reducible assumption | exact KeptS.out (by with_reducible assumption))))) (H12.out.below (ext_trans hw1 (rgBMacRow (by first | with_reducible assumption | exact KeptS.out (by with_reducible assumption)))))).mono ?_); (rintro e wA ⟨vA1, vA2, rfl, hOA1, hOA2, hapA, hbA⟩; obtain ⟨AA1, cA1, rfl⟩ := hOA1.form; obtain ⟨AA2, cA2, rfl⟩ := hOA2.form; have hSA := rg_keepK (by first | with_reducible assumption | exact KeptS.out (by with_reducible assumption)) hbA; have hLA := hSA.size; have HOA1 := Lib.hid hOA1; clear hOA1; have HOA2 := Lib.hid hOA2; clear hOA2))) | (go_at_call 40; ((with_reducible refine (toTuple_any _ _ _ _).mono ?_); (rintro e wT ⟨rfl, hbT⟩; have hST := rg_keepK (by first | with_reducible assumption | exact KeptS.out (by with_reducible assumption)) hbT; have hLT := hST.size; have HPA1 := Lib.hid (HOA1.out.below hbT); have HPA2 := Lib.hid (HOA2.out.below hbT)))) | (go_at_call 25; ((with_reducible refine (HS.out _ _ _ P11.out P12.out HPA1.out.rd HPA2.out.rd).mono ?_); (rintro e wC ⟨rfl, hbC⟩; have hSC := rg_keepK (by first | with_reducible assumption | exact KeptS.out (by with_reducible assumption)) hbC)))) | fail
    all_goals (go_wp2_with fail; go_meet; exact ⟨⟨rfl, rfl, rfl⟩, (by assumption : _ ∧ Below w1.heap.size w1 wC).2⟩)
  case rest =>
  obtain ⟨⟨rfl, rfl, rfl⟩, hb2⟩ := hcut
  rename World => w2
  have hz2 := hb2.size
  (try simp at hz2)
  have ra1_2 := (hb2.block _ (by first | omega | (simp; done) | (simp; omega))).trans Ra1_1.out
  have rt_2 := (hb2.block _ (by first | omega | (simp; done) | (simp; omega))).trans Rt_1.out
  have hw2 : Below w.heap.size w w2 := (by repeat (first | with_reducible exact Below.refl _ _ | with_reducible assumption | with_reducible refine Below.drew ?_ | with_reducible refine Below.alloc ?_ (by first | exact Nat.le_refl _ | omega | (simp; done) | (simp; omega)) _ | with_reducible refine Below.setCell ?_ (by first | exact Nat.le_refl _ | omega | (simp; done) | (simp; omega)) _ | (with_reducible refine ext_trans ?_ (by with_reducible assumption))))
  have lRa1_2 : w.heap.size < w2.heap.size := by omega
  have lRt_2 : w.heap.size + 1 < w2.heap.size := by omega
  have Ra1_2 := Lib.hid ra1_2
  have r0_ra1_2 := cell_of_row _ _ 0 _ _ _ ra1_2
  have r1_ra1_2 := cell_of_row _ _ 1 _ _ _ ra1_2
  have r2_ra1_2 := cell_of_row _ _ 2 _ _ _ ra1_2
  have r3_ra1_2 := cell_of_row _ _ 3 _ _ _ ra1_2
  have r4_ra1_2 := cell_of_row _ _ 4 _ _ _ ra1_2
  have r5_ra1_2 := cell_of_row _ _ 5 _ _ _ ra1_2
  have r6_ra1_2 := cell_of_row _ _ 6 _ _ _ ra1_2
  have r7_ra1_2 := cell_of_row _ _ 7 _ _ _ ra1_2
  have r8_ra1_2 := cell_of_row _ _ 8 _ _ _ ra1_2
  have r9_ra1_2 := cell_of_row _ _ 9 _ _ _ ra1_2
  have f0_ra1_2 := frozen_of_row _ _ 0 _ _ ra1_2
  have f1_ra1_2 := frozen_of_row _ _ 1 _ _ ra1_2
  have f2_ra1_2 := frozen_of_row _ _ 2 _ _ ra1_2
  have f3_ra1_2 := frozen_of_row _ _ 3 _ _ ra1_2
  have f4_ra1_2 := frozen_of_row _ _ 4 _ _ ra1_2
  have f5_ra1_2 := frozen_of_row _ _ 5 _ _ ra1_2
  have f6_ra1_2 := frozen_of_row _ _ 6 _ _ ra1_2
  have f7_ra1_2 := frozen_of_row _ _ 7 _ _ ra1_2
  have f8_ra1_2 := frozen_of_row _ _ 8 _ _ ra1_2
  have f9_ra1_2 := frozen_of_row _ _ 9 _ _ ra1_2
  simp at r0_ra1_2 r1_ra1_2 r2_ra1_2 r3_ra1_2 r4_ra1_2 r5_ra1_2 r6_ra1_2 r7_ra1_2 r8_ra1_2 r9_ra1_2
  clear ra1_2
  have Rt_2 := Lib.hid rt_2
  have r0_rt_2 := cell_of_row _ _ 0 _ _ _ rt_2
  have r1_rt_2 := cell_of_row _ _ 1 _ _ _ rt_2
  have r2_rt_2 := cell_of_row _ _ 2 _ _ _ rt_2
  have f0_rt_2 := frozen_of_row _ _ 0 _ _ rt_2
  have f1_rt_2 := frozen_of_row _ _ 1 _ _ rt_2
  have f2_rt_2 := frozen_of_row _ _ 2 _ _ rt_2
  simp at r0_rt_2 r1_rt_2 r2_rt_2
  clear rt_2
  clear r0_ra1_1 f0_ra1_1 r1_ra1_1 f1_ra1_1 r2_ra1_1 f2_ra1_1 r3_ra1_1 f3_ra1_1 r4_ra1_1 f4_ra1_1 r5_ra1_1 f5_ra1_1 r6_ra1_1 f6_ra1_1 r7_ra1_1 f7_ra1_1 r8_ra1_1 f8_ra1_1 r9_ra1_1 f9_ra1_1
  clear r0_rt_1 f0_rt_1 r1_rt_1 f1_rt_1 r2_rt_1 f2_rt_1
  go_wp2_with fail
  refine (toKeys_any x1 _ _ M11.out M12.out _ (H11.out.below (by repeat (first | with_reducible exact Below.refl _ _ | with_reducible assumption | with_reducible refine Below.drew ?_ | with_reducible refine Below.alloc ?_ (by first | exact Nat.le_refl _ | omega | (simp; done) | (simp; omega)) _ | with_reducible refine Below.setCell ?_ (by first | exact Nat.le_refl _ | omega | (simp; done) | (simp; omega)) _ | (with_reducible refine ext_trans ?_ (by with_reducible assumption))))) (H12.out.below (by repeat (first | with_reducible exact Below.refl _ _ | with_reducible assumption | with_reducible refine Below.drew ?_ | with_reducible refine Below.alloc ?_ (by first | exact Nat.le_refl _ | omega | (simp; done) | (simp; omega)) _ | with_reducible refine Below.setCell ?_ (by first | exact Nat.le_refl _ | omega | (simp; done) | (simp; omega)) _ | (with_reducible refine ext_trans ?_ (by with_reducible assumption)))))).mono ?_
  rintro e w3 ⟨u31, u32, rfl, hO31, hO32, hap3, hb3⟩
  obtain ⟨A31, c31, rfl⟩ := hO31.form
  obtain ⟨A32, c32, rfl⟩ := hO32.form
  have Oq1_3 := Lib.hid hO31
  have Bq1 := Oq1_3
  have Oq2_3 := Lib.hid hO32
  have Bq2 := Oq2_3
  have hz3 := hb3.size
  (try simp at hz3)
  have ra1_3 := (hb3.block _ (by first | omega | (simp; done) | (simp; omega))).trans Ra1_2.out
  have rt_3 := (hb3.block _ (by first | omega | (simp; done) | (simp; omega))).trans Rt_2.out
  have hw3 : Below w.heap.size w w3 := (by repeat (first | with_reducible exact Below.refl _ _ | with_reducible assumption | with_reducible refine Below.drew ?_ | with_reducible refine Below.alloc ?_ (by first | exact Nat.le_refl _ | omega | (simp; done) | (simp; omega)) _ | with_reducible refine Below.setCell ?_ (by first | exact Nat.le_refl _ | omega | (simp; done) | (simp; omega)) _ | (with_reducible refine ext_trans ?_ (by with_reducible assumption))))
  have lRa1_3 : w.heap.size < w3.heap.size := by omega
  have lRt_3 : w.heap.size + 1 < w3.heap.size := by omega
  have Ra1_3 := Lib.hid ra1_3
  have r0_ra1_3 := cell_of_row _ _ 0 _ _ _ ra1_3
  have r1_ra1_3 := cell_of_row _ _ 1 _ _ _ ra1_3
  have r2_ra1_3 := cell_of_row _ _ 2 _ _ _ ra1_3
  have r3_ra1_3 := cell_of_row _ _ 3 _ _ _ ra1_3
  have r4_ra1_3 := cell_of_row _ _ 4 _ _ _ ra1_3
  have r5_ra1_3 := cell_of_row _ _ 5 _ _ _ ra1_3
  have r6_ra1_3 := cell_of_row _ _ 6 _ _ _ ra1_3
  have r7_ra1_3 := cell_of_row _ _ 7 _ _ _ ra1_3
  have r8_ra1_3 := cell_of_row _ _ 8 _ _ _ ra1_3
  have r9_ra1_3 := cell_of_row _ _ 9 _ _ _ ra1_3
  have f0_ra1_3 := frozen_of_row _ _ 0 _ _ ra1_3
  have f1_ra1_3 := frozen_of_row _ _ 1 _ _ ra1_3
  have f2_ra1_3 := frozen_of_row _ _ 2 _ _ ra1_3
  have f3_ra1_3 := frozen_of_row _ _ 3 _ _ ra1_3
  have f4_ra1_3 := frozen_of_row _ _ 4 _ _ ra1_3
  have f5_ra1_3 := frozen_of_row _ _ 5 _ _ ra1_3
  have f6_ra1_3 := frozen_of_row _ _ 6 _ _ ra1_3
  have f7_ra1_3 := frozen_of_row _ _ 7 _ _ ra1_3
  have f8_ra1_3 := frozen_of_row _ _ 8 _ _ ra1_3
  have f9_ra1_3 := frozen_of_row _ _ 9 _ _ ra1_3
  simp at r0_ra1_3 r1_ra1_3 r2_ra1_3 r3_ra1_3 r4_ra1_3 r5_ra1_3 r6_ra1_3 r7_ra1_3 r8_ra1_3 r9_ra1_3
  clear ra1_3
  have Rt_3 := Lib.hid rt_3
  have r0_rt_3 := cell_of_row _ _ 0 _ _ _ rt_3
  have r1_rt_3 := cell_of_row _ _ 1 _ _ _ rt_3
  have r2_rt_3 := cell_of_row _ _ 2 _ _ _ rt_3
  have f0_rt_3 := frozen_of_row _ _ 0 _ _ rt_3
  have f1_rt_3 := frozen_of_row _ _ 1 _ _ rt_3
  have f2_rt_3 := frozen_of_row _ _ 2 _ _ rt_3
  simp at r0_rt_3 r1_rt_3 r2_rt_3
  clear rt_3
  clear r0_ra1_2 f0_ra1_2 r1_ra1_2 f1_ra1_2 r2_ra1_2 f2_ra1_2 r3_ra1_2 f3_ra1_2 r4_ra1_2 f4_ra1_2 r5_ra1_2 f5_ra1_2 r6_ra1_2 f6_ra1_2 r7_ra1_2 f7_ra1_2 r8_ra1_2 f8_ra1_2 r9_ra1_2 f9_ra1_2
  clear r0_rt_2 f0_rt_2 r1_rt_2 f1_rt_2 r2_rt_2 f2_rt_2
  go_wp2_with fail
  have hb4 : Below w3.heap.size w3 (w3.alloc (.cells #[.int .i64 x1.ep, .bool x1.now.u, .int .u64 (uI x1.now.k), .int .u64 (uI x1.now.l), .slice A31 x1.now.rs.length c31, .bool x1.bef.u, .int .u64 (uI x1.bef.k), .int .u64 (uI x1.bef.l), .slice A32 x1.bef.rs.length c32, .bool x1.two] 29)) := (by repeat (first | with_reducible exact Below.refl _ _ | with_reducible assumption | with_reducible refine Below.drew ?_ | with_reducible refine Below.alloc ?_ (by first | exact Nat.le_refl _ | omega | (simp; done) | (simp; omega)) _ | with_reducible refine Below.setCell ?_ (by first | exact Nat.le_refl _ | omega | (simp; done) | (simp; omega)) _ | (with_reducible refine ext_trans ?_ (by with_reducible assumption))))
  have rq_4 : (w3.alloc (.cells #[.int .i64 x1.ep, .bool x1.now.u, .int .u64 (uI x1.now.k), .int .u64 (uI x1.now.l), .slice A31 x1.now.rs.length c31, .bool x1.bef.u, .int .u64 (uI x1.bef.k), .int .u64 (uI x1.bef.l), .slice A32 x1.bef.rs.length c32, .bool x1.two] 29)).heap[w3.heap.size]? = some (.cells #[.int .i64 x1.ep, .bool x1.now.u, .int .u64 (uI x1.now.k), .int .u64 (uI x1.now.l), .slice A31 x1.now.rs.length c31, .bool x1.bef.u, .int .u64 (uI x1.bef.k), .int .u64 (uI x1.bef.l), .slice A32 x1.bef.rs.length c32, .bool x1.two] 29 (0, 0)) := (by repeat (first | exact heap_new _ _ _ (by first | rfl | (simp; done) | (simp; omega)) | refine (Below.heap_alloc _ _ _ (by first | omega | (simp; done) | (simp; omega))).trans ?_))
  have lNq_4 : w3.heap.size < (w3.alloc (.cells #[.int .i64 x1.ep, .bool x1.now.u, .int .u64 (uI x1.now.k), .int .u64 (uI x1.now.l), .slice A31 x1.now.rs.length c31, .bool x1.bef.u, .int .u64 (uI x1.bef.k), .int .u64 (uI x1.bef.l), .slice A32 x1.bef.rs.length c32, .bool x1.two] 29)).heap.size := by simp
  generalize (w3.alloc (.cells #[.int .i64 x1.ep, .bool x1.now.u, .int .u64 (uI x1.now.k), .int .u64 (uI x1.now.l), .slice A31 x1.now.rs.length c31, .bool x1.bef.u, .int .u64 (uI x1.bef.k), .int .u64 (uI x1.bef.l), .slice A32 x1.bef.rs.length c32, .bool x1.two] 29)) = w4 at *
  have hz4 := hb4.size
  (try simp at hz4)
  have ra1_4 := (hb4.block _ (by first | omega | (simp; done) | (simp; omega))).trans Ra1_3.out
  have rt_4 := (hb4.block _ (by first | omega | (simp; done) | (simp; omega))).trans Rt_3.out
  have Oq1_4 := Lib.hid (Oq1_3.out.below (w' := w4) (by repeat (first | with_reducible exact Below.refl _ _ | with_reducible assumption | with_reducible refine Below.drew ?_ | with_reducible refine Below.alloc ?_ (by first | exact Nat.le_refl _ | omega | (simp; done) | (simp; omega)) _ | with_reducible refine Below.setCell ?_ (by first | exact Nat.le_refl _ | omega | (simp; done) | (simp; omega)) _ | (with_reducible refine ext_trans ?_ (by with_reducible assumption)))))
  have Oq2_4 := Lib.hid (Oq2_3.out.below (w' := w4) (by repeat (first | with_reducible exact Below.refl _ _ | with_reducible assumption | with_reducible refine Below.drew ?_ | with_reducible refine Below.alloc ?_ (by first | exact Nat.le_refl _ | omega | (simp; done) | (simp; omega)) _ | with_reducible refine Below.setCell ?_ (by first | exact Nat.le_refl _ | omega | (simp; done) | (simp; omega)) _ | (with_reducible refine ext_trans ?_ (by with_reducible assumption)))))
  have hw4 : Below w.heap.size w w4 := (by repeat (first | with_reducible exact Below.refl _ _ | with_reducible assumption | with_reducible refine Below.drew ?_ | with_reducible refine Below.alloc ?_ (by first | exact Nat.le_refl _ | omega | (simp; done) | (simp; omega)) _ | with_reducible refine Below.setCell ?_ (by first | exact Nat.le_refl _ | omega | (simp; done) | (simp; omega)) _ | (with_reducible refine ext_trans ?_ (by with_reducible assumption))))
  have lRa1_4 : w.heap.size < w4.heap.size := by omega
  have lRt_4 : w.heap.size + 1 < w4.heap.size := by omega
  have lRq_4 : w3.heap.size < w4.heap.size := by omega
  have Ra1_4 := Lib.hid ra1_4
  have r0_ra1_4 := cell_of_row _ _ 0 _ _ _ ra1_4
  have r1_ra1_4 := cell_of_row _ _ 1 _ _ _ ra1_4
  have r2_ra1_4 := cell_of_row _ _ 2 _ _ _ ra1_4
  have r3_ra1_4 := cell_of_row _ _ 3 _ _ _ ra1_4
  have r4_ra1_4 := cell_of_row _ _ 4 _ _ _ ra1_4
  have r5_ra1_4 := cell_of_row _ _ 5 _ _ _ ra1_4
  have r6_ra1_4 := cell_of_row _ _ 6 _ _ _ ra1_4
  have r7_ra1_4 := cell_of_row _ _ 7 _ _ _ ra1_4
  have r8_ra1_4 := cell_of_row _ _ 8 _ _ _ ra1_4
  have r9_ra1_4 := cell_of_row _ _ 9 _ _ _ ra1_4
  have f0_ra1_4 := frozen_of_row _ _ 0 _ _ ra1_4
  have f1_ra1_4 := frozen_of_row _ _ 1 _ _ ra1_4
  have f2_ra1_4 := frozen_of_row _ _ 2 _ _ ra1_4
  have f3_ra1_4 := frozen_of_row _ _ 3 _ _ ra1_4
  have f4_ra1_4 := frozen_of_row _ _ 4 _ _ ra1_4
  have f5_ra1_4 := frozen_of_row _ _ 5 _ _ ra1_4
  have f6_ra1_4 := frozen_of_row _ _ 6 _ _ ra1_4
  have f7_ra1_4 := frozen_of_row _ _ 7 _ _ ra1_4
  have f8_ra1_4 := frozen_of_row _ _ 8 _ _ ra1_4
  have f9_ra1_4 := frozen_of_row _ _ 9 _ _ ra1_4
  simp at r0_ra1_4 r1_ra1_4 r2_ra1_4 r3_ra1_4 r4_ra1_4 r5_ra1_4 r6_ra1_4 r7_ra1_4 r8_ra1_4 r9_ra1_4
  clear ra1_4
  have Rt_4 := Lib.hid rt_4
  have r0_rt_4 := cell_of_row _ _ 0 _ _ _ rt_4
  have r1_rt_4 := cell_of_row _ _ 1 _ _ _ rt_4
  have r2_rt_4 := cell_of_row _ _ 2 _ _ _ rt_4
  have f0_rt_4 := frozen_of_row _ _ 0 _ _ rt_4
  have f1_rt_4 := frozen_of_row _ _ 1 _ _ rt_4
  have f2_rt_4 := frozen_of_row _ _ 2 _ _ rt_4
  simp at r0_rt_4 r1_rt_4 r2_rt_4
  clear rt_4
  have Rq_4 := Lib.hid rq_4
  have r0_rq_4 := cell_of_row _ _ 0 _ _ _ rq_4
  have r1_rq_4 := cell_of_row _ _ 1 _ _ _ rq_4
  have r2_rq_4 := cell_of_row _ _ 2 _ _ _ rq_4
  have r3_rq_4 := cell_of_row _ _ 3 _ _ _ rq_4
  have r4_rq_4 := cell_of_row _ _ 4 _ _ _ rq_4
  have r5_rq_4 := cell_of_row _ _ 5 _ _ _ rq_4
  have r6_rq_4 := cell_of_row _ _ 6 _ _ _ rq_4
  have r7_rq_4 := cell_of_row _ _ 7 _ _ _ rq_4
  have r8_rq_4 := cell_of_row _ _ 8 _ _ _ rq_4
  have r9_rq_4 := cell_of_row _ _ 9 _ _ _ rq_4
  have f0_rq_4 := frozen_of_row _ _ 0 _ _ rq_4
  have f1_rq_4 := frozen_of_row _ _ 1 _ _ rq_4
  have f2_rq_4 := frozen_of_row _ _ 2 _ _ rq_4
  have f3_rq_4 := frozen_of_row _ _ 3 _ _ rq_4
  have f4_rq_4 := frozen_of_row _ _ 4 _ _ rq_4
  have f5_rq_4 := frozen_of_row _ _ 5 _ _ rq_4
  have f6_rq_4 := frozen_of_row _ _ 6 _ _ rq_4
  have f7_rq_4 := frozen_of_row _ _ 7 _ _ rq_4
  have f8_rq_4 := frozen_of_row _ _ 8 _ _ rq_4
  have f9_rq_4 := frozen_of_row _ _ 9 _ _ rq_4
  simp at r0_rq_4 r1_rq_4 r2_rq_4 r3_rq_4 r4_rq_4 r5_rq_4 r6_rq_4 r7_rq_4 r8_rq_4 r9_rq_4
  clear rq_4
  clear r0_ra1_3 f0_ra1_3 r1_ra1_3 f1_ra1_3 r2_ra1_3 f2_ra1_3 r3_ra1_3 f3_ra1_3 r4_ra1_3 f4_ra1_3 r5_ra1_3 f5_ra1_3 r6_ra1_3 f6_ra1_3 r7_ra1_3 f7_ra1_3 r8_ra1_3 f8_ra1_3 r9_ra1_3 f9_ra1_3
  clear r0_rt_3 f0_rt_3 r1_rt_3 f1_rt_3 r2_rt_3 f2_rt_3
  go_wp2_with fail
  go_cut [14, 15, 16] (fun z1 z2 z3 wx => (z1 = .int .i64 r1 ∧ z2 = .int .i64 r2 ∧ z3 = .bool r3) ∧ Below w4.heap.size w4 wx)
  case first =>
    first | go_region_held3 (fun w' => (∀ b' o, b' < (w4).heap.size → w'.cell? ⟨b', o, none⟩ = (w4).cell? ⟨b', o, none⟩) ∧ Below (w4).heap.size (w4) w') (first | with_reducible assumption | (with_reducible apply rg_keep; rotate_left; with_reducible assumption; with_reducible assumption) | with_reducible exact rg_start _ | with_reducible exact rg_alloc (KeptS.out (by with_reducible assumption)) _ | with_reducible exact rg_alloc (by with_reducible assumption) _ | with_reducible exact rg_start_alloc _ _ | ((repeat (with_reducible refine rg_set ?_ _ (by first | exact Nat.le_refl _ | omega | (simp; done) | (simp; omega)) _)); first | with_reducible exact KeptS.out (by with_reducible assumption) | with_reducible assumption | with_reducible exact rg_alloc (KeptS.out (by with_reducible assumption)) _)) (first | (go_at_call 40; ((with_reducible refine (toTuple_any _ _ _ _).mono ?_); (rintro e wT ⟨rfl, hbT⟩; have hST := rg_keepK (by first | with_reducible assumption | exact KeptS.out (by with_reducible assumption)) hbT; have hLT := hST.size))) | (go_at_call 20; ((with_reducible refine (HI.out _ _ _ P11.out P12.out (Oq1_4.out.below (rgBMacRow (by first | with_reducible assumption | exact KeptS.out (by with_reducible assumption)))).rd (Oq2_4.out.below (rgBMacRow (by first | with_reducible assumption | exact KeptS.out (by with_reducible assumption)))).rd).mono ?_); (rintro e wC ⟨rfl, hbC⟩; have hSC := rg_keepK (by first | with_reducible assumption | exact KeptS.out (by with_reducible assumption)) hbC)))) | fail
    all_goals (go_wp2_with fail; go_meet; exact ⟨⟨rfl, rfl, rfl⟩, (by assumption : _ ∧ Below w4.heap.size w4 wC).2⟩)
  case rest =>
  obtain ⟨⟨rfl, rfl, rfl⟩, hb5⟩ := hcut
  rename World => w5
  have hz5 := hb5.size
  (try simp at hz5)
  have ra1_5 := (hb5.block _ (by first | omega | (simp; done) | (simp; omega))).trans Ra1_4.out
  have rt_5 := (hb5.block _ (by first | omega | (simp; done) | (simp; omega))).trans Rt_4.out
  have rq_5 := (hb5.block _ (by first | omega | (simp; done) | (simp; omega))).trans Rq_4.out
  have Oq1_5 := Lib.hid (Oq1_4.out.below (w' := w5) (by repeat (first | with_reducible exact Below.refl _ _ | with_reducible assumption | with_reducible refine Below.drew ?_ | with_reducible refine Below.alloc ?_ (by first | exact Nat.le_refl _ | omega | (simp; done) | (simp; omega)) _ | with_reducible refine Below.setCell ?_ (by first | exact Nat.le_refl _ | omega | (simp; done) | (simp; omega)) _ | (with_reducible refine ext_trans ?_ (by with_reducible assumption)))))
  have Oq2_5 := Lib.hid (Oq2_4.out.below (w' := w5) (by repeat (first | with_reducible exact Below.refl _ _ | with_reducible assumption | with_reducible refine Below.drew ?_ | with_reducible refine Below.alloc ?_ (by first | exact Nat.le_refl _ | omega | (simp; done) | (simp; omega)) _ | with_reducible refine Below.setCell ?_ (by first | exact Nat.le_refl _ | omega | (simp; done) | (simp; omega)) _ | (with_reducible refine ext_trans ?_ (by with_reducible assumption)))))
  have hw5 : Below w.heap.size w w5 := (by repeat (first | with_reducible exact Below.refl _ _ | with_reducible assumption | with_reducible refine Below.drew ?_ | with_reducible refine Below.alloc ?_ (by first | exact Nat.le_refl _ | omega | (simp; done) | (simp; omega)) _ | with_reducible refine Below.setCell ?_ (by first | exact Nat.le_refl _ | omega | (simp; done) | (simp; omega)) _ | (with_reducible refine ext_trans ?_ (by with_reducible assumption))))
  have lRa1_5 : w.heap.size < w5.heap.size := by omega
  have lRt_5 : w.heap.size + 1 < w5.heap.size := by omega
  have lRq_5 : w3.heap.size < w5.heap.size := by omega
  have Ra1_5 := Lib.hid ra1_5
  have r0_ra1_5 := cell_of_row _ _ 0 _ _ _ ra1_5
  have r1_ra1_5 := cell_of_row _ _ 1 _ _ _ ra1_5
  have r2_ra1_5 := cell_of_row _ _ 2 _ _ _ ra1_5
  have r3_ra1_5 := cell_of_row _ _ 3 _ _ _ ra1_5
  have r4_ra1_5 := cell_of_row _ _ 4 _ _ _ ra1_5
  have r5_ra1_5 := cell_of_row _ _ 5 _ _ _ ra1_5
  have r6_ra1_5 := cell_of_row _ _ 6 _ _ _ ra1_5
  have r7_ra1_5 := cell_of_row _ _ 7 _ _ _ ra1_5
  have r8_ra1_5 := cell_of_row _ _ 8 _ _ _ ra1_5
  have r9_ra1_5 := cell_of_row _ _ 9 _ _ _ ra1_5
  have f0_ra1_5 := frozen_of_row _ _ 0 _ _ ra1_5
  have f1_ra1_5 := frozen_of_row _ _ 1 _ _ ra1_5
  have f2_ra1_5 := frozen_of_row _ _ 2 _ _ ra1_5
  have f3_ra1_5 := frozen_of_row _ _ 3 _ _ ra1_5
  have f4_ra1_5 := frozen_of_row _ _ 4 _ _ ra1_5
  have f5_ra1_5 := frozen_of_row _ _ 5 _ _ ra1_5
  have f6_ra1_5 := frozen_of_row _ _ 6 _ _ ra1_5
  have f7_ra1_5 := frozen_of_row _ _ 7 _ _ ra1_5
  have f8_ra1_5 := frozen_of_row _ _ 8 _ _ ra1_5
  have f9_ra1_5 := frozen_of_row _ _ 9 _ _ ra1_5
  simp at r0_ra1_5 r1_ra1_5 r2_ra1_5 r3_ra1_5 r4_ra1_5 r5_ra1_5 r6_ra1_5 r7_ra1_5 r8_ra1_5 r9_ra1_5
  clear ra1_5
  have Rt_5 := Lib.hid rt_5
  have r0_rt_5 := cell_of_row _ _ 0 _ _ _ rt_5
  have r1_rt_5 := cell_of_row _ _ 1 _ _ _ rt_5
  have r2_rt_5 := cell_of_row _ _ 2 _ _ _ rt_5
  have f0_rt_5 := frozen_of_row _ _ 0 _ _ rt_5
  have f1_rt_5 := frozen_of_row _ _ 1 _ _ rt_5
  have f2_rt_5 := frozen_of_row _ _ 2 _ _ rt_5
  simp at r0_rt_5 r1_rt_5 r2_rt_5
  clear rt_5
  have Rq_5 := Lib.hid rq_5
  have r0_rq_5 := cell_of_row _ _ 0 _ _ _ rq_5
  have r1_rq_5 := cell_of_row _ _ 1 _ _ _ rq_5
  have r2_rq_5 := cell_of_row _ _ 2 _ _ _ rq_5
  have r3_rq_5 := cell_of_row _ _ 3 _ _ _ rq_5
  have r4_rq_5 := cell_of_row _ _ 4 _ _ _ rq_5
  have r5_rq_5 := cell_of_row _ _ 5 _ _ _ rq_5
  have r6_rq_5 := cell_of_row _ _ 6 _ _ _ rq_5
  have r7_rq_5 := cell_of_row _ _ 7 _ _ _ rq_5
  have r8_rq_5 := cell_of_row _ _ 8 _ _ _ rq_5
  have r9_rq_5 := cell_of_row _ _ 9 _ _ _ rq_5
  have f0_rq_5 := frozen_of_row _ _ 0 _ _ rq_5
  have f1_rq_5 := frozen_of_row _ _ 1 _ _ rq_5
  have f2_rq_5 := frozen_of_row _ _ 2 _ _ rq_5
  have f3_rq_5 := frozen_of_row _ _ 3 _ _ rq_5
  have f4_rq_5 := frozen_of_row _ _ 4 _ _ rq_5
  have f5_rq_5 := frozen_of_row _ _ 5 _ _ rq_5
  have f6_rq_5 := frozen_of_row _ _ 6 _ _ rq_5
  have f7_rq_5 := frozen_of_row _ _ 7 _ _ rq_5
  have f8_rq_5 := frozen_of_row _ _ 8 _ _ rq_5
  have f9_rq_5 := frozen_of_row _ _ 9 _ _ rq_5
  simp at r0_rq_5 r1_rq_5 r2_rq_5 r3_rq_5 r4_rq_5 r5_rq_5 r6_rq_5 r7_rq_5 r8_rq_5 r9_rq_5
  clear rq_5
  clear r0_ra1_4 f0_ra1_4 r1_ra1_4 f1_ra1_4 r2_ra1_4 f2_ra1_4 r3_ra1_4 f3_ra1_4 r4_ra1_4 f4_ra1_4 r5_ra1_4 f5_ra1_4 r6_ra1_4 f6_ra1_4 r7_ra1_4 f7_ra1_4 r8_ra1_4 f8_ra1_4 r9_ra1_4 f9_ra1_4
  clear r0_rt_4 f0_rt_4 r1_rt_4 f1_rt_4 r2_rt_4 f2_rt_4
  clear r0_rq_4 f0_rq_4 r1_rq_4 f1_rq_4 r2_rq_4 f2_rq_4 r3_rq_4 f3_rq_4 r4_rq_4 f4_rq_4 r5_rq_4 f5_rq_4 r6_rq_4 f6_rq_4 r7_rq_4 f7_rq_4 r8_rq_4 f8_rq_4 r9_rq_4 f9_rq_4
  go_wp2_with fail
  go_cut [62] (fun z wx => z = .bool false ∧ Below w5.heap.size w5 wx)
  case first =>
    first | go_region_held3 (fun w' => (∀ b' o, b' < (w5).heap.size → w'.cell? ⟨b', o, none⟩ = (w5).cell? ⟨b', o, none⟩) ∧ Below (w5).heap.size (w5) w') (first | with_reducible assumption | (with_reducible apply rg_keep; rotate_left; with_reducible assumption; with_reducible assumption) | with_reducible exact rg_start _ | with_reducible exact rg_alloc (KeptS.out (by with_reducible assumption)) _ | with_reducible exact rg_alloc (by with_reducible assumption) _ | with_reducible exact rg_start_alloc _ _ | ((repeat (with_reducible refine rg_set ?_ _ (by first | exact Nat.le_refl _ | omega | (simp; done) | (simp; omega)) _)); first | with_reducible exact KeptS.out (by with_reducible assumption) | with_reducible assumption | with_reducible exact rg_alloc (KeptS.out (by with_reducible assumption)) _)) (first | (go_at_call 31; ((with_reducible refine (toKeys_any x1 _ _ M11.out M12.out _ (H11.out.below (ext_trans hw5 (rgBMacRow (by first | with_reducible assumption | exact KeptS.out (by with_reducible assumption))))) (H12.out.below (ext_trans hw5 (rgBMacRow (by first | with_reducible assumption | exact KeptS.out (by with_reducible assumption)))))).mono ?_); (rintro e wA ⟨vA1, vA2, rfl, hOA1, hOA2, hapA, hbA⟩; obtain ⟨AA1, cA1, rfl⟩ := hOA1.form; obtain ⟨AA2, cA2, rfl⟩ := hOA2.form; have hSA := rg_keepK (by first | with_reducible assumption | exact KeptS.out (by with_reducible assumption)) hbA; have hLA := hSA.size; have HOA1 := Lib.hid hOA1; clear hOA1; have HOA2 := Lib.hid hOA2; clear hOA2))) | (go_at_call 33; ((with_reducible refine (eqKeys_same x1 _ _ _ _ N11.out N12.out _ (Oq1_5.out.below (rgBMacRow (by first | with_reducible assumption | exact KeptS.out (by with_reducible assumption)))).rd (Oq2_5.out.below (rgBMacRow (by first | with_reducible assumption | exact KeptS.out (by with_reducible assumption)))).rd HOA1.out.rd HOA2.out.rd).mono ?_); (rintro e wC ⟨rfl, hbC⟩; have hSC := rg_keepK (by first | with_reducible assumption | exact KeptS.out (by with_reducible assumption)) hbC)))) | fail
    all_goals (go_wp2_with fail; go_meet; exact ⟨rfl, (by assumption : _ ∧ Below w5.heap.size w5 wC).2⟩)
  case rest =>
  obtain ⟨rfl, hb6⟩ := hcut
  rename World => w6
  have hz6 := hb6.size
  (try simp at hz6)
  have ra1_6 := (hb6.block _ (by first | omega | (simp; done) | (simp; omega))).trans Ra1_5.out
  have rt_6 := (hb6.block _ (by first | omega | (simp; done) | (simp; omega))).trans Rt_5.out
  have rq_6 := (hb6.block _ (by first | omega | (simp; done) | (simp; omega))).trans Rq_5.out
  have Oq1_6 := Lib.hid (Oq1_5.out.below (w' := w6) (by repeat (first | with_reducible exact Below.refl _ _ | with_reducible assumption | with_reducible refine Below.drew ?_ | with_reducible refine Below.alloc ?_ (by first | exact Nat.le_refl _ | omega | (simp; done) | (simp; omega)) _ | with_reducible refine Below.setCell ?_ (by first | exact Nat.le_refl _ | omega | (simp; done) | (simp; omega)) _ | (with_reducible refine ext_trans ?_ (by with_reducible assumption)))))
  have Oq2_6 := Lib.hid (Oq2_5.out.below (w' := w6) (by repeat (first | with_reducible exact Below.refl _ _ | with_reducible assumption | with_reducible refine Below.drew ?_ | with_reducible refine Below.alloc ?_ (by first | exact Nat.le_refl _ | omega | (simp; done) | (simp; omega)) _ | with_reducible refine Below.setCell ?_ (by first | exact Nat.le_refl _ | omega | (simp; done) | (simp; omega)) _ | (with_reducible refine ext_trans ?_ (by with_reducible assumption)))))
  have hw6 : Below w.heap.size w w6 := (by repeat (first | with_reducible exact Below.refl _ _ | with_reducible assumption | with_reducible refine Below.drew ?_ | with_reducible refine Below.alloc ?_ (by first | exact Nat.le_refl _ | omega | (simp; done) | (simp; omega)) _ | with_reducible refine Below.setCell ?_ (by first | exact Nat.le_refl _ | omega | (simp; done) | (simp; omega)) _ | (with_reducible refine ext_trans ?_ (by with_reducible assumption))))
  have lRa1_6 : w.heap.size < w6.heap.size := by omega
  have lRt_6 : w.heap.size + 1 < w6.heap.size := by omega
  have lRq_6 : w3.heap.size < w6.heap.size := by omega
  have Ra1_6 := Lib.hid ra1_6
  have r0_ra1_6 := cell_of_row _ _ 0 _ _ _ ra1_6
  have r1_ra1_6 := cell_of_row _ _ 1 _ _ _ ra1_6
  have r2_ra1_6 := cell_of_row _ _ 2 _ _ _ ra1_6
  have r3_ra1_6 := cell_of_row _ _ 3 _ _ _ ra1_6
  have r4_ra1_6 := cell_of_row _ _ 4 _ _ _ ra1_6
  have r5_ra1_6 := cell_of_row _ _ 5 _ _ _ ra1_6
  have r6_ra1_6 := cell_of_row _ _ 6 _ _ _ ra1_6
  have r7_ra1_6 := cell_of_row _ _ 7 _ _ _ ra1_6
  have r8_ra1_6 := cell_of_row _ _ 8 _ _ _ ra1_6
  have r9_ra1_6 := cell_of_row _ _ 9 _ _ _ ra1_6
  have f0_ra1_6 := frozen_of_row _ _ 0 _ _ ra1_6
  have f1_ra1_6 := frozen_of_row _ _ 1 _ _ ra1_6
  have f2_ra1_6 := frozen_of_row _ _ 2 _ _ ra1_6
  have f3_ra1_6 := frozen_of_row _ _ 3 _ _ ra1_6
  have f4_ra1_6 := frozen_of_row _ _ 4 _ _ ra1_6
  have f5_ra1_6 := frozen_of_row _ _ 5 _ _ ra1_6
  have f6_ra1_6 := frozen_of_row _ _ 6 _ _ ra1_6
  have f7_ra1_6 := frozen_of_row _ _ 7 _ _ ra1_6
  have f8_ra1_6 := frozen_of_row _ _ 8 _ _ ra1_6
  have f9_ra1_6 := frozen_of_row _ _ 9 _ _ ra1_6
  simp at r0_ra1_6 r1_ra1_6 r2_ra1_6 r3_ra1_6 r4_ra1_6 r5_ra1_6 r6_ra1_6 r7_ra1_6 r8_ra1_6 r9_ra1_6
  clear ra1_6
  have Rt_6 := Lib.hid rt_6
  have r0_rt_6 := cell_of_row _ _ 0 _ _ _ rt_6
  have r1_rt_6 := cell_of_row _ _ 1 _ _ _ rt_6
  have r2_rt_6 := cell_of_row _ _ 2 _ _ _ rt_6
  have f0_rt_6 := frozen_of_row _ _ 0 _ _ rt_6
  have f1_rt_6 := frozen_of_row _ _ 1 _ _ rt_6
  have f2_rt_6 := frozen_of_row _ _ 2 _ _ rt_6
  simp at r0_rt_6 r1_rt_6 r2_rt_6
  clear rt_6
  have Rq_6 := Lib.hid rq_6
  have r0_rq_6 := cell_of_row _ _ 0 _ _ _ rq_6
  have r1_rq_6 := cell_of_row _ _ 1 _ _ _ rq_6
  have r2_rq_6 := cell_of_row _ _ 2 _ _ _ rq_6
  have r3_rq_6 := cell_of_row _ _ 3 _ _ _ rq_6
  have r4_rq_6 := cell_of_row _ _ 4 _ _ _ rq_6
  have r5_rq_6 := cell_of_row _ _ 5 _ _ _ rq_6
  have r6_rq_6 := cell_of_row _ _ 6 _ _ _ rq_6
  have r7_rq_6 := cell_of_row _ _ 7 _ _ _ rq_6
  have r8_rq_6 := cell_of_row _ _ 8 _ _ _ rq_6
  have r9_rq_6 := cell_of_row _ _ 9 _ _ _ rq_6
  have f0_rq_6 := frozen_of_row _ _ 0 _ _ rq_6
  have f1_rq_6 := frozen_of_row _ _ 1 _ _ rq_6
  have f2_rq_6 := frozen_of_row _ _ 2 _ _ rq_6
  have f3_rq_6 := frozen_of_row _ _ 3 _ _ rq_6
  have f4_rq_6 := frozen_of_row _ _ 4 _ _ rq_6
  have f5_rq_6 := frozen_of_row _ _ 5 _ _ rq_6
  have f6_rq_6 := frozen_of_row _ _ 6 _ _ rq_6
  have f7_rq_6 := frozen_of_row _ _ 7 _ _ rq_6
  have f8_rq_6 := frozen_of_row _ _ 8 _ _ rq_6
  have f9_rq_6 := frozen_of_row _ _ 9 _ _ rq_6
  simp at r0_rq_6 r1_rq_6 r2_rq_6 r3_rq_6 r4_rq_6 r5_rq_6 r6_rq_6 r7_rq_6 r8_rq_6 r9_rq_6
  clear rq_6
  clear r0_ra1_5 f0_ra1_5 r1_ra1_5 f1_ra1_5 r2_ra1_5 f2_ra1_5 r3_ra1_5 f3_ra1_5 r4_ra1_5 f4_ra1_5 r5_ra1_5 f5_ra1_5 r6_ra1_5 f6_ra1_5 r7_ra1_5 f7_ra1_5 r8_ra1_5 f8_ra1_5 r9_ra1_5 f9_ra1_5
  clear r0_rt_5 f0_rt_5 r1_rt_5 f1_rt_5 r2_rt_5 f2_rt_5
  clear r0_rq_5 f0_rq_5 r1_rq_5 f1_rq_5 r2_rq_5 f2_rq_5 r3_rq_5 f3_rq_5 r4_rq_5 f4_rq_5 r5_rq_5 f5_rq_5 r6_rq_5 f6_rq_5 r7_rq_5 f7_rq_5 r8_rq_5 f8_rq_5 r9_rq_5 f9_rq_5
  go_wp2_with fail
  go_ret
  exact ⟨rfl, hw6⟩

set_option maxRecDepth 100000 in
theorem FnExactCheckCookie_lifted (os : Os) (started : os.Started) (H : Type) (enc : TypeId × Value → H) :
    ReturnsInHanded {} Try.checked os 11 .any (Rows.fnExactCheckCookieSpec.pre6 enc Try.prog Try.f11 Rows.fnExactCheckCookieRow.domain false) (Rows.fnExactCheckCookieSpec.post enc Try.prog Try.f11 false true false false) := by
  refine law_lifted (C := Try.checked) own_ started (by kernel_rfl) Try.func11 laid_ rfl ?_ ?_ rfl Try.underlying4
    (ChangeSpec.witness6 (enc := enc) (C := Try.checked) false ⟨#[], #[.agg #[.int .i64 0, .bool false, .int .u64 0, .int .u64 0, .slice none 0 0, .bool false, .int .u64 0, .int .u64 0, .slice none 0 0, .bool false], .agg #[.int .i64 0, .int .i64 0, .int .i64 0], .int .i64 0, .int .i64 0], []⟩ 8 (by kernel_rfl) (by kernel_rfl) (by kernel_rfl) (by kernel_rfl)) ?_
  · intro ds h
    match ds, h with
    | [_, _, _, _], _ => rfl
  · intro t ht
    rw [Try.params11] at ht
    simp at ht
    rcases ht with rfl | rfl | rfl
    all_goals exact ⟨by kernel_rfl, of_decide_eq_true (by kernel_rfl)⟩
  · intro W base args ds p hval hA hlt
    have hval : ∀ (j : Nat) t v, Try.f11.params[j]? = some t → args[j]? = some v → Value.okWide Try.prog W .any base t v := hval
    have hA : DataW.TrodAll enc Try.prog W 0 (fun _ => true) true Try.f11.params.toList args.toList ds p := hA
    rw [Try.params11] at hA hval
    obtain ⟨v0, v1, v2, v3, d0, d1, d2, d3, p0, p1, p2, p3, rfl, rfl, rfl, h0, h1, h2, h3⟩ := trodAll_four hA
    obtain ⟨ae, an0, an1, an2, an3, ab0, ab1, ab2, ab3, aq, rfl, wae, wan1, wan2, ⟨kan, yan, tan⟩, wab1, wab2, ⟨kab, yab, tab⟩⟩ := open_Keys (hval 0 55 v0 rfl rfl) h0
    obtain ⟨lan, ran, fan, nan⟩ := open_rowsMacRow tan
    obtain ⟨lab, rab, fab, nab⟩ := open_rowsMacRow tab
    obtain ⟨t0, t1, t2, rfl, wt0, wt1, wt2⟩ := open_Tuple (hval 1 64 v1 rfl rfl) h1
    obtain ⟨s, rfl, rfl, rfl, ws⟩ := open_int Try.underlying3 (hval 2 3 v2 rfl rfl) h2
    obtain ⟨c, rfl, rfl, rfl, wc⟩ := open_int Try.underlying3 (hval 3 3 v3 rfl rfl) h3
    exact (by rw [uI_of an1 (by assumption), uI_of an2 (by assumption), uI_of ab1 (by assumption), uI_of ab2 (by assumption)]; exact FnExactCheckCookie_walk ⟨ae, ⟨an0, _, _, lan⟩, ⟨ab0, _, _, lab⟩, aq⟩ an3 ab3 t0 t1 t2 s c W ran fan.fit nan rab fab.fit nab ⟨nan, fun y hy => bd_i64 (fan y hy).2⟩ ⟨nab, fun y hy => bd_i64 (fab y hy).2⟩)

theorem FnExactCheckCookie_holds : Rows.FnExactCheckCookieSaid :=
  OpenClaim.holds_of_wide 11 Try.f11 rfl rfl rfl rfl rfl rfl rfl ⟨rfl, rfl, rfl, rfl, rfl⟩ rfl rfl rfl rfl rfl (by kernel_rfl) Try.func11 (by kernel_rfl)
    (of_decide_eq_true (by kernel_rfl)) (by have hw := wrap_ (P := Try.prog) (fn := Try.f11) (by kernel_rfl); exact hw)
    (fun os started H enc _ => FnExactCheckCookie_lifted os started H enc)
end Go.Proofs.Ytjlnbjabehpncaa
