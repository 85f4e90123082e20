/-
  The law FnExactSameLink returns true for every input. No condition.
-/
import Derived.Test.YteaniiponikpjaaLnk
import Derived.Test.YteaniiponikpjaaOpnEntry
namespace Go.Proofs.Yteaniiponikpjaa
set_option maxRecDepth 100000
open Go.ChangeShapes Go.WideShapes Go.ChangeAt Go.RowKit

set_option maxHeartbeats 4000000 in
theorem FnExactSameLink_walk (x1 : RLnk) (v11 : Value) (x2 : RLnk) (v21 : Value)  (w : World) (h11 : RdEntry w v11 x1.ca) (f11 : FitRLnk x1) (n11 : x1.ca.length ≤ maxLen) (h21 : RdEntry w v21 x2.ca) (f21 : FitRLnk x2) (n21 : x2.ca.length ≤ maxLen) :
    Calls Try.prog 5 #[vL x1 v11, vL x2 v21] w fun e w' => e = .returned (.bool true) ∧ Below w.heap.size w w' := by
  obtain ⟨A11, c11, rfl, -⟩ := id h11
  have H11 := Lib.hid h11
  have F11 := Lib.hid f11
  have N11 := Lib.hid n11
  clear h11 f11 n11
  obtain ⟨A21, c21, rfl, -⟩ := id h21
  have H21 := Lib.hid h21
  have F21 := Lib.hid f21
  have N21 := Lib.hid n21
  clear h21 f21 n21
  go_enter Try.func5, Try.ntmps5
  go_wp2_with fail
  refine (szLink_any x1 _ F11.out N11.out 1048576 (by omega) (by omega) _ (H11.out.below (by repeat (first | with_reducible exact Below.refl _ _ | with_reducible assumption | with_reducible refine Below.drew ?_ | with_reducible refine Below.alloc ?_ (by first | exact Nat.le_refl _ | omega | (simp; done) | (simp; omega)) _ | with_reducible refine Below.setCell ?_ (by first | exact Nat.le_refl _ | omega | (simp; done) | (simp; omega)) _ | (with_reducible refine ext_trans ?_ (by with_reducible assumption)))))).mono ?_
  rintro e w1 ⟨y1, rfl, ⟨hy1a, hy1b⟩, hs1, hb1⟩
  have hz1 := hb1.size
  (try simp at hz1)
  have ra1_1 : w1.heap[w.heap.size]? = some (.cells #[.int .i64 x1.mac, .int .i64 x1.ip, .slice A11 x1.ca.length c11] 33 (0, 0)) := (hb1.block _ (by first | (simp; done) | (simp; omega))).trans (by repeat (first | exact heap_new _ _ _ (by first | rfl | (simp; done) | (simp; omega)) | refine (Below.heap_alloc _ _ _ (by first | omega | (simp; done) | (simp; omega))).trans ?_))
  have ra2_1 : w1.heap[w.heap.size + 1]? = some (.cells #[.int .i64 x2.mac, .int .i64 x2.ip, .slice A21 x2.ca.length c21] 33 (0, 0)) := (hb1.block _ (by first | (simp; done) | (simp; omega))).trans (by repeat (first | exact heap_new _ _ _ (by first | rfl | (simp; done) | (simp; omega)) | refine (Below.heap_alloc _ _ _ (by first | omega | (simp; done) | (simp; omega))).trans ?_))
  have hw1 : Below w.heap.size w w1 := (by repeat (first | with_reducible exact Below.refl _ _ | with_reducible assumption | with_reducible refine Below.drew ?_ | with_reducible refine Below.alloc ?_ (by first | exact Nat.le_refl _ | omega | (simp; done) | (simp; omega)) _ | with_reducible refine Below.setCell ?_ (by first | exact Nat.le_refl _ | omega | (simp; done) | (simp; omega)) _ | (with_reducible refine ext_trans ?_ (by with_reducible assumption))))
  have lRa1_1 : w.heap.size < w1.heap.size := by omega
  have lRa2_1 : w.heap.size + 1 < w1.heap.size := by omega
  have Ra1_1 := Lib.hid ra1_1
  have r0_ra1_1 := cell_of_row _ _ 0 _ _ _ ra1_1
  have r1_ra1_1 := cell_of_row _ _ 1 _ _ _ ra1_1
  have r2_ra1_1 := cell_of_row _ _ 2 _ _ _ ra1_1
  have f0_ra1_1 := frozen_of_row _ _ 0 _ _ ra1_1
  have f1_ra1_1 := frozen_of_row _ _ 1 _ _ ra1_1
  have f2_ra1_1 := frozen_of_row _ _ 2 _ _ ra1_1
  simp at r0_ra1_1 r1_ra1_1 r2_ra1_1
  clear ra1_1
  have Ra2_1 := Lib.hid ra2_1
  have r0_ra2_1 := cell_of_row _ _ 0 _ _ _ ra2_1
  have r1_ra2_1 := cell_of_row _ _ 1 _ _ _ ra2_1
  have r2_ra2_1 := cell_of_row _ _ 2 _ _ _ ra2_1
  have f0_ra2_1 := frozen_of_row _ _ 0 _ _ ra2_1
  have f1_ra2_1 := frozen_of_row _ _ 1 _ _ ra2_1
  have f2_ra2_1 := frozen_of_row _ _ 2 _ _ ra2_1
  simp at r0_ra2_1 r1_ra2_1 r2_ra2_1
  clear ra2_1
  by_cases hx1 : y1 < 0
  · go_wp2_with fail
    go_ret
    exact ⟨rfl, (by repeat (first | with_reducible exact Below.refl _ _ | with_reducible assumption | with_reducible refine Below.drew ?_ | with_reducible refine Below.alloc ?_ (by first | exact Nat.le_refl _ | omega | (simp; done) | (simp; omega)) _ | with_reducible refine Below.setCell ?_ (by first | exact Nat.le_refl _ | omega | (simp; done) | (simp; omega)) _ | (with_reducible refine ext_trans ?_ (by with_reducible assumption))))⟩
  go_wp2_with fail
  refine (szLink_any x2 _ F21.out N21.out y1 (by omega) (by omega) _ (H21.out.below (by repeat (first | with_reducible exact Below.refl _ _ | with_reducible assumption | with_reducible refine Below.drew ?_ | with_reducible refine Below.alloc ?_ (by first | exact Nat.le_refl _ | omega | (simp; done) | (simp; omega)) _ | with_reducible refine Below.setCell ?_ (by first | exact Nat.le_refl _ | omega | (simp; done) | (simp; omega)) _ | (with_reducible refine ext_trans ?_ (by with_reducible assumption)))))).mono ?_
  rintro e w2 ⟨y2, rfl, ⟨hy2a, hy2b⟩, hs2, hb2⟩
  have hz2 := hb2.size
  (try simp at hz2)
  have ra1_2 := (hb2.block _ (by first | omega | (simp; done) | (simp; omega))).trans Ra1_1.out
  have ra2_2 := (hb2.block _ (by first | omega | (simp; done) | (simp; omega))).trans Ra2_1.out
  have hw2 : Below w.heap.size w w2 := (by repeat (first | with_reducible exact Below.refl _ _ | with_reducible assumption | with_reducible refine Below.drew ?_ | with_reducible refine Below.alloc ?_ (by first | exact Nat.le_refl _ | omega | (simp; done) | (simp; omega)) _ | with_reducible refine Below.setCell ?_ (by first | exact Nat.le_refl _ | omega | (simp; done) | (simp; omega)) _ | (with_reducible refine ext_trans ?_ (by with_reducible assumption))))
  have lRa1_2 : w.heap.size < w2.heap.size := by omega
  have lRa2_2 : w.heap.size + 1 < w2.heap.size := by omega
  have Ra1_2 := Lib.hid ra1_2
  have r0_ra1_2 := cell_of_row _ _ 0 _ _ _ ra1_2
  have r1_ra1_2 := cell_of_row _ _ 1 _ _ _ ra1_2
  have r2_ra1_2 := cell_of_row _ _ 2 _ _ _ ra1_2
  have f0_ra1_2 := frozen_of_row _ _ 0 _ _ ra1_2
  have f1_ra1_2 := frozen_of_row _ _ 1 _ _ ra1_2
  have f2_ra1_2 := frozen_of_row _ _ 2 _ _ ra1_2
  simp at r0_ra1_2 r1_ra1_2 r2_ra1_2
  clear ra1_2
  have Ra2_2 := Lib.hid ra2_2
  have r0_ra2_2 := cell_of_row _ _ 0 _ _ _ ra2_2
  have r1_ra2_2 := cell_of_row _ _ 1 _ _ _ ra2_2
  have r2_ra2_2 := cell_of_row _ _ 2 _ _ _ ra2_2
  have f0_ra2_2 := frozen_of_row _ _ 0 _ _ ra2_2
  have f1_ra2_2 := frozen_of_row _ _ 1 _ _ ra2_2
  have f2_ra2_2 := frozen_of_row _ _ 2 _ _ ra2_2
  simp at r0_ra2_2 r1_ra2_2 r2_ra2_2
  clear ra2_2
  clear r0_ra1_1 f0_ra1_1 r1_ra1_1 f1_ra1_1 r2_ra1_1 f2_ra1_1
  clear r0_ra2_1 f0_ra2_1 r1_ra2_1 f1_ra2_1 r2_ra2_1 f2_ra2_1
  by_cases hx2 : y2 < 0
  · go_wp2_with fail
    go_ret
    exact ⟨rfl, (by repeat (first | with_reducible exact Below.refl _ _ | with_reducible assumption | with_reducible refine Below.drew ?_ | with_reducible refine Below.alloc ?_ (by first | exact Nat.le_refl _ | omega | (simp; done) | (simp; omega)) _ | with_reducible refine Below.setCell ?_ (by first | exact Nat.le_refl _ | omega | (simp; done) | (simp; omega)) _ | (with_reducible refine ext_trans ?_ (by with_reducible assumption))))⟩
  have M11 : Hid (x1.ca.length ≤ 1048576) := (by have := hs1.out (by omega); omega : x1.ca.length ≤ 1048576)
  have M21 : Hid (x2.ca.length ≤ 1048576) := (by have := hs2.out (by omega); omega : x2.ca.length ≤ 1048576)
  go_wp2_with fail
  go_cut [6] (fun z wx => z = .bool (x1.same x2) ∧ Below w2.heap.size w2 wx)
  case first =>
    first | go_region_held3 (fun w' => (∀ b' o, b' < (w2).heap.size → w'.cell? ⟨b', o, none⟩ = (w2).cell? ⟨b', o, none⟩) ∧ Below (w2).heap.size (w2) w') (first | with_reducible assumption | (with_reducible apply rg_keep; rotate_left; with_reducible assumption; with_reducible assumption) | with_reducible exact rg_start _ | with_reducible exact rg_alloc (KeptS.out (by with_reducible assumption)) _ | with_reducible exact rg_alloc (by with_reducible assumption) _ | with_reducible exact rg_start_alloc _ _ | ((repeat (with_reducible refine rg_set ?_ _ (by first | exact Nat.le_refl _ | omega | (simp; done) | (simp; omega)) _)); first | with_reducible exact KeptS.out (by with_reducible assumption) | with_reducible assumption | with_reducible exact rg_alloc (KeptS.out (by with_reducible assumption)) _)) (first | (go_at_call 23; ((with_reducible refine (toLink_any x1 _ M11.out _ (H11.out.below (ext_trans hw2 (rgBEntry (by first | with_reducible assumption | exact KeptS.out (by with_reducible assumption)))))).mono ?_); (rintro e wA ⟨vA1, rfl, hOA1, hbA⟩; obtain ⟨AA1, cA1, rfl⟩ := hOA1.form; have hSA := rg_keepK (by first | with_reducible assumption | exact KeptS.out (by with_reducible assumption)) hbA; have hLA := hSA.size; have HOA1 := Lib.hid hOA1; clear hOA1))) | (go_at_call 23; ((with_reducible refine (toLink_any x2 _ M21.out _ (H21.out.below (ext_trans hw2 (rgBEntry (by first | with_reducible assumption | exact KeptS.out (by with_reducible assumption)))))).mono ?_); (rintro e wB ⟨vB1, rfl, hOB1, hbB⟩; obtain ⟨AB1, cB1, rfl⟩ := hOB1.form; have hSB := rg_keepK (by first | with_reducible assumption | exact KeptS.out (by with_reducible assumption)) hbB; have hLB := hSB.size; have HOB1 := Lib.hid hOB1; clear hOB1; have HPA1 := Lib.hid (HOA1.out.below hbB)))) | (go_at_call 22; ((with_reducible refine (sSameLink_any x1 x2 _ _ N11.out N21.out _ HPA1.out.rd HOB1.out.rd).mono ?_); (rintro e wC ⟨rfl, hbC⟩; have hSC := rg_keepK (by first | with_reducible assumption | exact KeptS.out (by with_reducible assumption)) hbC)))) | fail
    all_goals (go_wp2_with fail; go_meet; exact ⟨rfl, (by assumption : _ ∧ Below w2.heap.size w2 wC).2⟩)
  case rest =>
  obtain ⟨rfl, hb3⟩ := hcut
  rename World => w3
  have hz3 := hb3.size
  (try simp at hz3)
  have ra1_3 := (hb3.block _ (by first | omega | (simp; done) | (simp; omega))).trans Ra1_2.out
  have ra2_3 := (hb3.block _ (by first | omega | (simp; done) | (simp; omega))).trans Ra2_2.out
  have hw3 : Below w.heap.size w w3 := (by repeat (first | with_reducible exact Below.refl _ _ | with_reducible assumption | with_reducible refine Below.drew ?_ | with_reducible refine Below.alloc ?_ (by first | exact Nat.le_refl _ | omega | (simp; done) | (simp; omega)) _ | with_reducible refine Below.setCell ?_ (by first | exact Nat.le_refl _ | omega | (simp; done) | (simp; omega)) _ | (with_reducible refine ext_trans ?_ (by with_reducible assumption))))
  have lRa1_3 : w.heap.size < w3.heap.size := by omega
  have lRa2_3 : w.heap.size + 1 < w3.heap.size := by omega
  have Ra1_3 := Lib.hid ra1_3
  have r0_ra1_3 := cell_of_row _ _ 0 _ _ _ ra1_3
  have r1_ra1_3 := cell_of_row _ _ 1 _ _ _ ra1_3
  have r2_ra1_3 := cell_of_row _ _ 2 _ _ _ ra1_3
  have f0_ra1_3 := frozen_of_row _ _ 0 _ _ ra1_3
  have f1_ra1_3 := frozen_of_row _ _ 1 _ _ ra1_3
  have f2_ra1_3 := frozen_of_row _ _ 2 _ _ ra1_3
  simp at r0_ra1_3 r1_ra1_3 r2_ra1_3
  clear ra1_3
  have Ra2_3 := Lib.hid ra2_3
  have r0_ra2_3 := cell_of_row _ _ 0 _ _ _ ra2_3
  have r1_ra2_3 := cell_of_row _ _ 1 _ _ _ ra2_3
  have r2_ra2_3 := cell_of_row _ _ 2 _ _ _ ra2_3
  have f0_ra2_3 := frozen_of_row _ _ 0 _ _ ra2_3
  have f1_ra2_3 := frozen_of_row _ _ 1 _ _ ra2_3
  have f2_ra2_3 := frozen_of_row _ _ 2 _ _ ra2_3
  simp at r0_ra2_3 r1_ra2_3 r2_ra2_3
  clear ra2_3
  clear r0_ra1_2 f0_ra1_2 r1_ra1_2 f1_ra1_2 r2_ra1_2 f2_ra1_2
  clear r0_ra2_2 f0_ra2_2 r1_ra2_2 f1_ra2_2 r2_ra2_2 f2_ra2_2
  go_wp2_with fail
  refine (toLink_any x1 _ M11.out _ (H11.out.below (by repeat (first | with_reducible exact Below.refl _ _ | with_reducible assumption | with_reducible refine Below.drew ?_ | with_reducible refine Below.alloc ?_ (by first | exact Nat.le_refl _ | omega | (simp; done) | (simp; omega)) _ | with_reducible refine Below.setCell ?_ (by first | exact Nat.le_refl _ | omega | (simp; done) | (simp; omega)) _ | (with_reducible refine ext_trans ?_ (by with_reducible assumption)))))).mono ?_
  rintro e w4 ⟨u41, rfl, hO41, hb4⟩
  obtain ⟨A41, c41, rfl⟩ := hO41.form
  have Op1_4 := Lib.hid (OwnE.mono (base' := w3.heap.size) hO41 (by first | exact Nat.le_refl _ | (simp; done)))
  have Bp1 := Op1_4
  have hz4 := hb4.size
  (try simp at hz4)
  have ra1_4 := (hb4.block _ (by first | omega | (simp; done) | (simp; omega))).trans Ra1_3.out
  have ra2_4 := (hb4.block _ (by first | omega | (simp; done) | (simp; omega))).trans Ra2_3.out
  have hw4 : Below w.heap.size w w4 := (by repeat (first | with_reducible exact Below.refl _ _ | with_reducible assumption | with_reducible refine Below.drew ?_ | with_reducible refine Below.alloc ?_ (by first | exact Nat.le_refl _ | omega | (simp; done) | (simp; omega)) _ | with_reducible refine Below.setCell ?_ (by first | exact Nat.le_refl _ | omega | (simp; done) | (simp; omega)) _ | (with_reducible refine ext_trans ?_ (by with_reducible assumption))))
  have lRa1_4 : w.heap.size < w4.heap.size := by omega
  have lRa2_4 : w.heap.size + 1 < w4.heap.size := by omega
  have Ra1_4 := Lib.hid ra1_4
  have r0_ra1_4 := cell_of_row _ _ 0 _ _ _ ra1_4
  have r1_ra1_4 := cell_of_row _ _ 1 _ _ _ ra1_4
  have r2_ra1_4 := cell_of_row _ _ 2 _ _ _ ra1_4
  have f0_ra1_4 := frozen_of_row _ _ 0 _ _ ra1_4
  have f1_ra1_4 := frozen_of_row _ _ 1 _ _ ra1_4
  have f2_ra1_4 := frozen_of_row _ _ 2 _ _ ra1_4
  simp at r0_ra1_4 r1_ra1_4 r2_ra1_4
  clear ra1_4
  have Ra2_4 := Lib.hid ra2_4
  have r0_ra2_4 := cell_of_row _ _ 0 _ _ _ ra2_4
  have r1_ra2_4 := cell_of_row _ _ 1 _ _ _ ra2_4
  have r2_ra2_4 := cell_of_row _ _ 2 _ _ _ ra2_4
  have f0_ra2_4 := frozen_of_row _ _ 0 _ _ ra2_4
  have f1_ra2_4 := frozen_of_row _ _ 1 _ _ ra2_4
  have f2_ra2_4 := frozen_of_row _ _ 2 _ _ ra2_4
  simp at r0_ra2_4 r1_ra2_4 r2_ra2_4
  clear ra2_4
  clear r0_ra1_3 f0_ra1_3 r1_ra1_3 f1_ra1_3 r2_ra1_3 f2_ra1_3
  clear r0_ra2_3 f0_ra2_3 r1_ra2_3 f1_ra2_3 r2_ra2_3 f2_ra2_3
  go_wp2_with fail
  refine (toLink_any x2 _ M21.out _ (H21.out.below (by repeat (first | with_reducible exact Below.refl _ _ | with_reducible assumption | with_reducible refine Below.drew ?_ | with_reducible refine Below.alloc ?_ (by first | exact Nat.le_refl _ | omega | (simp; done) | (simp; omega)) _ | with_reducible refine Below.setCell ?_ (by first | exact Nat.le_refl _ | omega | (simp; done) | (simp; omega)) _ | (with_reducible refine ext_trans ?_ (by with_reducible assumption)))))).mono ?_
  rintro e w5 ⟨u51, rfl, hO51, hb5⟩
  obtain ⟨A51, c51, rfl⟩ := hO51.form
  have Oq1_5 := Lib.hid (OwnE.mono (base' := w4.heap.size + 1) hO51 (by first | exact Nat.le_refl _ | (simp; done)))
  have Bq1 := Oq1_5
  have hz5 := hb5.size
  (try simp at hz5)
  have ra1_5 := (hb5.block _ (by first | omega | (simp; done) | (simp; omega))).trans ((Below.heap_alloc _ _ _ (by first | exact lRa1_4 | (simp; omega))).trans Ra1_4.out)
  have ra2_5 := (hb5.block _ (by first | omega | (simp; done) | (simp; omega))).trans ((Below.heap_alloc _ _ _ (by first | exact lRa2_4 | (simp; omega))).trans Ra2_4.out)
  have rp_5 : w5.heap[w4.heap.size]? = some (.cells #[.int .i64 x1.mac, .int .i64 x1.ip, .slice A41 x1.ca.length c41] 37 (0, 0)) := (hb5.block _ (by first | (simp; done) | (simp; omega))).trans (by repeat (first | exact heap_new _ _ _ (by first | rfl | (simp; done) | (simp; omega)) | refine (Below.heap_alloc _ _ _ (by first | omega | (simp; done) | (simp; omega))).trans ?_))
  have Op1_5 := Lib.hid (Op1_4.out.below (w' := w5) (by repeat (first | with_reducible exact Below.refl _ _ | with_reducible assumption | with_reducible refine Below.drew ?_ | with_reducible refine Below.alloc ?_ (by first | exact Nat.le_refl _ | omega | (simp; done) | (simp; omega)) _ | with_reducible refine Below.setCell ?_ (by first | exact Nat.le_refl _ | omega | (simp; done) | (simp; omega)) _ | (with_reducible refine ext_trans ?_ (by with_reducible assumption)))))
  have hw5 : Below w.heap.size w w5 := (by repeat (first | with_reducible exact Below.refl _ _ | with_reducible assumption | with_reducible refine Below.drew ?_ | with_reducible refine Below.alloc ?_ (by first | exact Nat.le_refl _ | omega | (simp; done) | (simp; omega)) _ | with_reducible refine Below.setCell ?_ (by first | exact Nat.le_refl _ | omega | (simp; done) | (simp; omega)) _ | (with_reducible refine ext_trans ?_ (by with_reducible assumption))))
  have lRa1_5 : w.heap.size < w5.heap.size := by omega
  have lRa2_5 : w.heap.size + 1 < w5.heap.size := by omega
  have lRp_5 : w4.heap.size < w5.heap.size := by omega
  have Ra1_5 := Lib.hid ra1_5
  have r0_ra1_5 := cell_of_row _ _ 0 _ _ _ ra1_5
  have r1_ra1_5 := cell_of_row _ _ 1 _ _ _ ra1_5
  have r2_ra1_5 := cell_of_row _ _ 2 _ _ _ ra1_5
  have f0_ra1_5 := frozen_of_row _ _ 0 _ _ ra1_5
  have f1_ra1_5 := frozen_of_row _ _ 1 _ _ ra1_5
  have f2_ra1_5 := frozen_of_row _ _ 2 _ _ ra1_5
  simp at r0_ra1_5 r1_ra1_5 r2_ra1_5
  clear ra1_5
  have Ra2_5 := Lib.hid ra2_5
  have r0_ra2_5 := cell_of_row _ _ 0 _ _ _ ra2_5
  have r1_ra2_5 := cell_of_row _ _ 1 _ _ _ ra2_5
  have r2_ra2_5 := cell_of_row _ _ 2 _ _ _ ra2_5
  have f0_ra2_5 := frozen_of_row _ _ 0 _ _ ra2_5
  have f1_ra2_5 := frozen_of_row _ _ 1 _ _ ra2_5
  have f2_ra2_5 := frozen_of_row _ _ 2 _ _ ra2_5
  simp at r0_ra2_5 r1_ra2_5 r2_ra2_5
  clear ra2_5
  have Rp_5 := Lib.hid rp_5
  have r0_rp_5 := cell_of_row _ _ 0 _ _ _ rp_5
  have r1_rp_5 := cell_of_row _ _ 1 _ _ _ rp_5
  have r2_rp_5 := cell_of_row _ _ 2 _ _ _ rp_5
  have f0_rp_5 := frozen_of_row _ _ 0 _ _ rp_5
  have f1_rp_5 := frozen_of_row _ _ 1 _ _ rp_5
  have f2_rp_5 := frozen_of_row _ _ 2 _ _ rp_5
  simp at r0_rp_5 r1_rp_5 r2_rp_5
  clear rp_5
  clear r0_ra1_4 f0_ra1_4 r1_ra1_4 f1_ra1_4 r2_ra1_4 f2_ra1_4
  clear r0_ra2_4 f0_ra2_4 r1_ra2_4 f1_ra2_4 r2_ra2_4 f2_ra2_4
  go_wp2_with fail
  refine (SameLink_any x1 x2 _ _ N11.out N21.out _ (Op1_5.out.below (by repeat (first | with_reducible exact Below.refl _ _ | with_reducible assumption | with_reducible refine Below.drew ?_ | with_reducible refine Below.alloc ?_ (by first | exact Nat.le_refl _ | omega | (simp; done) | (simp; omega)) _ | with_reducible refine Below.setCell ?_ (by first | exact Nat.le_refl _ | omega | (simp; done) | (simp; omega)) _ | (with_reducible refine ext_trans ?_ (by with_reducible assumption))))).rd (Oq1_5.out.below (by repeat (first | with_reducible exact Below.refl _ _ | with_reducible assumption | with_reducible refine Below.drew ?_ | with_reducible refine Below.alloc ?_ (by first | exact Nat.le_refl _ | omega | (simp; done) | (simp; omega)) _ | with_reducible refine Below.setCell ?_ (by first | exact Nat.le_refl _ | omega | (simp; done) | (simp; omega)) _ | (with_reducible refine ext_trans ?_ (by with_reducible assumption))))).rd).mono ?_
  rintro e w6 ⟨rfl, hb6⟩
  have hz6 := hb6.size
  (try simp at hz6)
  have ra1_6 := (hb6.block _ (by first | omega | (simp; done) | (simp; omega))).trans ((Below.heap_alloc _ _ _ (by first | exact lRa1_5 | (simp; omega))).trans Ra1_5.out)
  have ra2_6 := (hb6.block _ (by first | omega | (simp; done) | (simp; omega))).trans ((Below.heap_alloc _ _ _ (by first | exact lRa2_5 | (simp; omega))).trans Ra2_5.out)
  have rp_6 := (hb6.block _ (by first | omega | (simp; done) | (simp; omega))).trans ((Below.heap_alloc _ _ _ (by first | exact lRp_5 | (simp; omega))).trans Rp_5.out)
  have rq_6 : w6.heap[w5.heap.size]? = some (.cells #[.int .i64 x2.mac, .int .i64 x2.ip, .slice A51 x2.ca.length c51] 37 (0, 0)) := (hb6.block _ (by first | (simp; done) | (simp; omega))).trans (by repeat (first | exact heap_new _ _ _ (by first | rfl | (simp; done) | (simp; omega)) | refine (Below.heap_alloc _ _ _ (by first | omega | (simp; done) | (simp; omega))).trans ?_))
  have Op1_6 := Lib.hid (Op1_5.out.below (w' := w6) (by repeat (first | with_reducible exact Below.refl _ _ | with_reducible assumption | with_reducible refine Below.drew ?_ | with_reducible refine Below.alloc ?_ (by first | exact Nat.le_refl _ | omega | (simp; done) | (simp; omega)) _ | with_reducible refine Below.setCell ?_ (by first | exact Nat.le_refl _ | omega | (simp; done) | (simp; omega)) _ | (with_reducible refine ext_trans ?_ (by with_reducible assumption)))))
  have Oq1_6 := Lib.hid (Oq1_5.out.below (w' := w6) (by repeat (first | with_reducible exact Below.refl _ _ | with_reducible assumption | with_reducible refine Below.drew ?_ | with_reducible refine Below.alloc ?_ (by first | exact Nat.le_refl _ | omega | (simp; done) | (simp; omega)) _ | with_reducible refine Below.setCell ?_ (by first | exact Nat.le_refl _ | omega | (simp; done) | (simp; omega)) _ | (with_reducible refine ext_trans ?_ (by with_reducible assumption)))))
  have hw6 : Below w.heap.size w w6 := (by repeat (first | with_reducible exact Below.refl _ _ | with_reducible assumption | with_reducible refine Below.drew ?_ | with_reducible refine Below.alloc ?_ (by first | exact Nat.le_refl _ | omega | (simp; done) | (simp; omega)) _ | with_reducible refine Below.setCell ?_ (by first | exact Nat.le_refl _ | omega | (simp; done) | (simp; omega)) _ | (with_reducible refine ext_trans ?_ (by with_reducible assumption))))
  have lRa1_6 : w.heap.size < w6.heap.size := by omega
  have lRa2_6 : w.heap.size + 1 < w6.heap.size := by omega
  have lRp_6 : w4.heap.size < w6.heap.size := by omega
  have lRq_6 : w5.heap.size < w6.heap.size := by omega
  have Ra1_6 := Lib.hid ra1_6
  have r0_ra1_6 := cell_of_row _ _ 0 _ _ _ ra1_6
  have r1_ra1_6 := cell_of_row _ _ 1 _ _ _ ra1_6
  have r2_ra1_6 := cell_of_row _ _ 2 _ _ _ ra1_6
  have f0_ra1_6 := frozen_of_row _ _ 0 _ _ ra1_6
  have f1_ra1_6 := frozen_of_row _ _ 1 _ _ ra1_6
  have f2_ra1_6 := frozen_of_row _ _ 2 _ _ ra1_6
  simp at r0_ra1_6 r1_ra1_6 r2_ra1_6
  clear ra1_6
  have Ra2_6 := Lib.hid ra2_6
  have r0_ra2_6 := cell_of_row _ _ 0 _ _ _ ra2_6
  have r1_ra2_6 := cell_of_row _ _ 1 _ _ _ ra2_6
  have r2_ra2_6 := cell_of_row _ _ 2 _ _ _ ra2_6
  have f0_ra2_6 := frozen_of_row _ _ 0 _ _ ra2_6
  have f1_ra2_6 := frozen_of_row _ _ 1 _ _ ra2_6
  have f2_ra2_6 := frozen_of_row _ _ 2 _ _ ra2_6
  simp at r0_ra2_6 r1_ra2_6 r2_ra2_6
  clear ra2_6
  have Rp_6 := Lib.hid rp_6
  have r0_rp_6 := cell_of_row _ _ 0 _ _ _ rp_6
  have r1_rp_6 := cell_of_row _ _ 1 _ _ _ rp_6
  have r2_rp_6 := cell_of_row _ _ 2 _ _ _ rp_6
  have f0_rp_6 := frozen_of_row _ _ 0 _ _ rp_6
  have f1_rp_6 := frozen_of_row _ _ 1 _ _ rp_6
  have f2_rp_6 := frozen_of_row _ _ 2 _ _ rp_6
  simp at r0_rp_6 r1_rp_6 r2_rp_6
  clear rp_6
  have Rq_6 := Lib.hid rq_6
  have r0_rq_6 := cell_of_row _ _ 0 _ _ _ rq_6
  have r1_rq_6 := cell_of_row _ _ 1 _ _ _ rq_6
  have r2_rq_6 := cell_of_row _ _ 2 _ _ _ rq_6
  have f0_rq_6 := frozen_of_row _ _ 0 _ _ rq_6
  have f1_rq_6 := frozen_of_row _ _ 1 _ _ rq_6
  have f2_rq_6 := frozen_of_row _ _ 2 _ _ rq_6
  simp at r0_rq_6 r1_rq_6 r2_rq_6
  clear rq_6
  clear r0_ra1_5 f0_ra1_5 r1_ra1_5 f1_ra1_5 r2_ra1_5 f2_ra1_5
  clear r0_ra2_5 f0_ra2_5 r1_ra2_5 f1_ra2_5 r2_ra2_5 f2_ra2_5
  clear r0_rp_5 f0_rp_5 r1_rp_5 f1_rp_5 r2_rp_5 f2_rp_5
  go_wp2_with fail
  go_cut [39] (fun z wx => z = .bool false ∧ Below w6.heap.size w6 wx)
  case first =>
    first | go_region_held3 (fun w' => (∀ b' o, b' < (w6).heap.size → w'.cell? ⟨b', o, none⟩ = (w6).cell? ⟨b', o, none⟩) ∧ Below (w6).heap.size (w6) w') (first | with_reducible assumption | (with_reducible apply rg_keep; rotate_left; with_reducible assumption; with_reducible assumption) | with_reducible exact rg_start _ | with_reducible exact rg_alloc (KeptS.out (by with_reducible assumption)) _ | with_reducible exact rg_alloc (by with_reducible assumption) _ | with_reducible exact rg_start_alloc _ _ | ((repeat (with_reducible refine rg_set ?_ _ (by first | exact Nat.le_refl _ | omega | (simp; done) | (simp; omega)) _)); first | with_reducible exact KeptS.out (by with_reducible assumption) | with_reducible assumption | with_reducible exact rg_alloc (KeptS.out (by with_reducible assumption)) _)) (first | (go_at_call 23; ((with_reducible refine (toLink_any x1 _ M11.out _ (H11.out.below (ext_trans hw6 (rgBEntry (by first | with_reducible assumption | exact KeptS.out (by with_reducible assumption)))))).mono ?_); (rintro e wA ⟨vA1, rfl, hOA1, hbA⟩; obtain ⟨AA1, cA1, rfl⟩ := hOA1.form; have hSA := rg_keepK (by first | with_reducible assumption | exact KeptS.out (by with_reducible assumption)) hbA; have hLA := hSA.size; have HOA1 := Lib.hid hOA1; clear hOA1))) | (go_at_call 25; ((with_reducible refine (eqLink_same x1 _ _ N11.out _ (Op1_6.out.below (rgBEntry (by first | with_reducible assumption | exact KeptS.out (by with_reducible assumption)))).rd HOA1.out.rd).mono ?_); (rintro e wC ⟨rfl, hbC⟩; have hSC := rg_keepK (by first | with_reducible assumption | exact KeptS.out (by with_reducible assumption)) hbC)))) | fail
    all_goals (go_wp2_with fail; go_meet; exact ⟨rfl, (by assumption : _ ∧ Below w6.heap.size w6 wC).2⟩)
  case rest =>
  obtain ⟨rfl, hb7⟩ := hcut
  rename World => w7
  have hz7 := hb7.size
  (try simp at hz7)
  have ra1_7 := (hb7.block _ (by first | omega | (simp; done) | (simp; omega))).trans Ra1_6.out
  have ra2_7 := (hb7.block _ (by first | omega | (simp; done) | (simp; omega))).trans Ra2_6.out
  have rp_7 := (hb7.block _ (by first | omega | (simp; done) | (simp; omega))).trans Rp_6.out
  have rq_7 := (hb7.block _ (by first | omega | (simp; done) | (simp; omega))).trans Rq_6.out
  have Op1_7 := Lib.hid (Op1_6.out.below (w' := w7) (by repeat (first | with_reducible exact Below.refl _ _ | with_reducible assumption | with_reducible refine Below.drew ?_ | with_reducible refine Below.alloc ?_ (by first | exact Nat.le_refl _ | omega | (simp; done) | (simp; omega)) _ | with_reducible refine Below.setCell ?_ (by first | exact Nat.le_refl _ | omega | (simp; done) | (simp; omega)) _ | (with_reducible refine ext_trans ?_ (by with_reducible assumption)))))
  have Oq1_7 := Lib.hid (Oq1_6.out.below (w' := w7) (by repeat (first | with_reducible exact Below.refl _ _ | with_reducible assumption | with_reducible refine Below.drew ?_ | with_reducible refine Below.alloc ?_ (by first | exact Nat.le_refl _ | omega | (simp; done) | (simp; omega)) _ | with_reducible refine Below.setCell ?_ (by first | exact Nat.le_refl _ | omega | (simp; done) | (simp; omega)) _ | (with_reducible refine ext_trans ?_ (by with_reducible assumption)))))
  have hw7 : Below w.heap.size w w7 := (by repeat (first | with_reducible exact Below.refl _ _ | with_reducible assumption | with_reducible refine Below.drew ?_ | with_reducible refine Below.alloc ?_ (by first | exact Nat.le_refl _ | omega | (simp; done) | (simp; omega)) _ | with_reducible refine Below.setCell ?_ (by first | exact Nat.le_refl _ | omega | (simp; done) | (simp; omega)) _ | (with_reducible refine ext_trans ?_ (by with_reducible assumption))))
  have lRa1_7 : w.heap.size < w7.heap.size := by omega
  have lRa2_7 : w.heap.size + 1 < w7.heap.size := by omega
  have lRp_7 : w4.heap.size < w7.heap.size := by omega
  have lRq_7 : w5.heap.size < w7.heap.size := by omega
  have Ra1_7 := Lib.hid ra1_7
  have r0_ra1_7 := cell_of_row _ _ 0 _ _ _ ra1_7
  have r1_ra1_7 := cell_of_row _ _ 1 _ _ _ ra1_7
  have r2_ra1_7 := cell_of_row _ _ 2 _ _ _ ra1_7
  have f0_ra1_7 := frozen_of_row _ _ 0 _ _ ra1_7
  have f1_ra1_7 := frozen_of_row _ _ 1 _ _ ra1_7
  have f2_ra1_7 := frozen_of_row _ _ 2 _ _ ra1_7
  simp at r0_ra1_7 r1_ra1_7 r2_ra1_7
  clear ra1_7
  have Ra2_7 := Lib.hid ra2_7
  have r0_ra2_7 := cell_of_row _ _ 0 _ _ _ ra2_7
  have r1_ra2_7 := cell_of_row _ _ 1 _ _ _ ra2_7
  have r2_ra2_7 := cell_of_row _ _ 2 _ _ _ ra2_7
  have f0_ra2_7 := frozen_of_row _ _ 0 _ _ ra2_7
  have f1_ra2_7 := frozen_of_row _ _ 1 _ _ ra2_7
  have f2_ra2_7 := frozen_of_row _ _ 2 _ _ ra2_7
  simp at r0_ra2_7 r1_ra2_7 r2_ra2_7
  clear ra2_7
  have Rp_7 := Lib.hid rp_7
  have r0_rp_7 := cell_of_row _ _ 0 _ _ _ rp_7
  have r1_rp_7 := cell_of_row _ _ 1 _ _ _ rp_7
  have r2_rp_7 := cell_of_row _ _ 2 _ _ _ rp_7
  have f0_rp_7 := frozen_of_row _ _ 0 _ _ rp_7
  have f1_rp_7 := frozen_of_row _ _ 1 _ _ rp_7
  have f2_rp_7 := frozen_of_row _ _ 2 _ _ rp_7
  simp at r0_rp_7 r1_rp_7 r2_rp_7
  clear rp_7
  have Rq_7 := Lib.hid rq_7
  have r0_rq_7 := cell_of_row _ _ 0 _ _ _ rq_7
  have r1_rq_7 := cell_of_row _ _ 1 _ _ _ rq_7
  have r2_rq_7 := cell_of_row _ _ 2 _ _ _ rq_7
  have f0_rq_7 := frozen_of_row _ _ 0 _ _ rq_7
  have f1_rq_7 := frozen_of_row _ _ 1 _ _ rq_7
  have f2_rq_7 := frozen_of_row _ _ 2 _ _ rq_7
  simp at r0_rq_7 r1_rq_7 r2_rq_7
  clear rq_7
  clear r0_ra1_6 f0_ra1_6 r1_ra1_6 f1_ra1_6 r2_ra1_6 f2_ra1_6
  clear r0_ra2_6 f0_ra2_6 r1_ra2_6 f1_ra2_6 r2_ra2_6 f2_ra2_6
  clear r0_rp_6 f0_rp_6 r1_rp_6 f1_rp_6 r2_rp_6 f2_rp_6
  clear r0_rq_6 f0_rq_6 r1_rq_6 f1_rq_6 r2_rq_6 f2_rq_6
  go_wp2_with fail
  go_cut [44] (fun z wx => z = .bool false ∧ Below w7.heap.size w7 wx)
  case first =>
    first | go_region_held3 (fun w' => (∀ b' o, b' < (w7).heap.size → w'.cell? ⟨b', o, none⟩ = (w7).cell? ⟨b', o, none⟩) ∧ Below (w7).heap.size (w7) w') (first | with_reducible assumption | (with_reducible apply rg_keep; rotate_left; with_reducible assumption; with_reducible assumption) | with_reducible exact rg_start _ | with_reducible exact rg_alloc (KeptS.out (by with_reducible assumption)) _ | with_reducible exact rg_alloc (by with_reducible assumption) _ | with_reducible exact rg_start_alloc _ _ | ((repeat (with_reducible refine rg_set ?_ _ (by first | exact Nat.le_refl _ | omega | (simp; done) | (simp; omega)) _)); first | with_reducible exact KeptS.out (by with_reducible assumption) | with_reducible assumption | with_reducible exact rg_alloc (KeptS.out (by with_reducible assumption)) _)) (first | (go_at_call 23; ((with_reducible refine (toLink_any x2 _ M21.out _ (H21.out.below (ext_trans hw7 (rgBEntry (by first | with_reducible assumption | exact KeptS.out (by with_reducible assumption)))))).mono ?_); (rintro e wA ⟨vA1, rfl, hOA1, hbA⟩; obtain ⟨AA1, cA1, rfl⟩ := hOA1.form; have hSA := rg_keepK (by first | with_reducible assumption | exact KeptS.out (by with_reducible assumption)) hbA; have hLA := hSA.size; have HOA1 := Lib.hid hOA1; clear hOA1))) | (go_at_call 25; ((with_reducible refine (eqLink_same x2 _ _ N21.out _ (Oq1_7.out.below (rgBEntry (by first | with_reducible assumption | exact KeptS.out (by with_reducible assumption)))).rd HOA1.out.rd).mono ?_); (rintro e wC ⟨rfl, hbC⟩; have hSC := rg_keepK (by first | with_reducible assumption | exact KeptS.out (by with_reducible assumption)) hbC)))) | fail
    all_goals (go_wp2_with fail; go_meet; exact ⟨rfl, (by assumption : _ ∧ Below w7.heap.size w7 wC).2⟩)
  case rest =>
  obtain ⟨rfl, hb8⟩ := hcut
  rename World => w8
  have hz8 := hb8.size
  (try simp at hz8)
  have ra1_8 := (hb8.block _ (by first | omega | (simp; done) | (simp; omega))).trans Ra1_7.out
  have ra2_8 := (hb8.block _ (by first | omega | (simp; done) | (simp; omega))).trans Ra2_7.out
  have rp_8 := (hb8.block _ (by first | omega | (simp; done) | (simp; omega))).trans Rp_7.out
  have rq_8 := (hb8.block _ (by first | omega | (simp; done) | (simp; omega))).trans Rq_7.out
  have Op1_8 := Lib.hid (Op1_7.out.below (w' := w8) (by repeat (first | with_reducible exact Below.refl _ _ | with_reducible assumption | with_reducible refine Below.drew ?_ | with_reducible refine Below.alloc ?_ (by first | exact Nat.le_refl _ | omega | (simp; done) | (simp; omega)) _ | with_reducible refine Below.setCell ?_ (by first | exact Nat.le_refl _ | omega | (simp; done) | (simp; omega)) _ | (with_reducible refine ext_trans ?_ (by with_reducible assumption)))))
  have Oq1_8 := Lib.hid (Oq1_7.out.below (w' := w8) (by repeat (first | with_reducible exact Below.refl _ _ | with_reducible assumption | with_reducible refine Below.drew ?_ | with_reducible refine Below.alloc ?_ (by first | exact Nat.le_refl _ | omega | (simp; done) | (simp; omega)) _ | with_reducible refine Below.setCell ?_ (by first | exact Nat.le_refl _ | omega | (simp; done) | (simp; omega)) _ | (with_reducible refine ext_trans ?_ (by with_reducible assumption)))))
  have hw8 : Below w.heap.size w w8 := (by repeat (first | with_reducible exact Below.refl _ _ | with_reducible assumption | with_reducible refine Below.drew ?_ | with_reducible refine Below.alloc ?_ (by first | exact Nat.le_refl _ | omega | (simp; done) | (simp; omega)) _ | with_reducible refine Below.setCell ?_ (by first | exact Nat.le_refl _ | omega | (simp; done) | (simp; omega)) _ | (with_reducible refine ext_trans ?_ (by with_reducible assumption))))
  have lRa1_8 : w.heap.size < w8.heap.size := by omega
  have lRa2_8 : w.heap.size + 1 < w8.heap.size := by omega
  have lRp_8 : w4.heap.size < w8.heap.size := by omega
  have lRq_8 : w5.heap.size < w8.heap.size := by omega
  have Ra1_8 := Lib.hid ra1_8
  have r0_ra1_8 := cell_of_row _ _ 0 _ _ _ ra1_8
  have r1_ra1_8 := cell_of_row _ _ 1 _ _ _ ra1_8
  have r2_ra1_8 := cell_of_row _ _ 2 _ _ _ ra1_8
  have f0_ra1_8 := frozen_of_row _ _ 0 _ _ ra1_8
  have f1_ra1_8 := frozen_of_row _ _ 1 _ _ ra1_8
  have f2_ra1_8 := frozen_of_row _ _ 2 _ _ ra1_8
  simp at r0_ra1_8 r1_ra1_8 r2_ra1_8
  clear ra1_8
  have Ra2_8 := Lib.hid ra2_8
  have r0_ra2_8 := cell_of_row _ _ 0 _ _ _ ra2_8
  have r1_ra2_8 := cell_of_row _ _ 1 _ _ _ ra2_8
  have r2_ra2_8 := cell_of_row _ _ 2 _ _ _ ra2_8
  have f0_ra2_8 := frozen_of_row _ _ 0 _ _ ra2_8
  have f1_ra2_8 := frozen_of_row _ _ 1 _ _ ra2_8
  have f2_ra2_8 := frozen_of_row _ _ 2 _ _ ra2_8
  simp at r0_ra2_8 r1_ra2_8 r2_ra2_8
  clear ra2_8
  have Rp_8 := Lib.hid rp_8
  have r0_rp_8 := cell_of_row _ _ 0 _ _ _ rp_8
  have r1_rp_8 := cell_of_row _ _ 1 _ _ _ rp_8
  have r2_rp_8 := cell_of_row _ _ 2 _ _ _ rp_8
  have f0_rp_8 := frozen_of_row _ _ 0 _ _ rp_8
  have f1_rp_8 := frozen_of_row _ _ 1 _ _ rp_8
  have f2_rp_8 := frozen_of_row _ _ 2 _ _ rp_8
  simp at r0_rp_8 r1_rp_8 r2_rp_8
  clear rp_8
  have Rq_8 := Lib.hid rq_8
  have r0_rq_8 := cell_of_row _ _ 0 _ _ _ rq_8
  have r1_rq_8 := cell_of_row _ _ 1 _ _ _ rq_8
  have r2_rq_8 := cell_of_row _ _ 2 _ _ _ rq_8
  have f0_rq_8 := frozen_of_row _ _ 0 _ _ rq_8
  have f1_rq_8 := frozen_of_row _ _ 1 _ _ rq_8
  have f2_rq_8 := frozen_of_row _ _ 2 _ _ rq_8
  simp at r0_rq_8 r1_rq_8 r2_rq_8
  clear rq_8
  clear r0_ra1_7 f0_ra1_7 r1_ra1_7 f1_ra1_7 r2_ra1_7 f2_ra1_7
  clear r0_ra2_7 f0_ra2_7 r1_ra2_7 f1_ra2_7 r2_ra2_7 f2_ra2_7
  clear r0_rp_7 f0_rp_7 r1_rp_7 f1_rp_7 r2_rp_7 f2_rp_7
  clear r0_rq_7 f0_rq_7 r1_rq_7 f1_rq_7 r2_rq_7 f2_rq_7
  go_wp2_with fail
  go_ret
  exact ⟨rfl, hw8⟩

set_option maxRecDepth 100000 in
theorem FnExactSameLink_lifted (os : Os) (started : os.Started) (H : Type) (enc : TypeId × Value → H) :
    ReturnsInHanded {} Try.checked os 5 .any (Rows.fnExactSameLinkSpec.pre6 enc Try.prog Try.f5 Rows.fnExactSameLinkRow.domain false) (Rows.fnExactSameLinkSpec.post enc Try.prog Try.f5 false true false false) := by
  refine law_lifted (C := Try.checked) own_ started (by kernel_rfl) Try.func5 laid_ rfl ?_ ?_ rfl Try.underlying4
    (ChangeSpec.witness6 (enc := enc) (C := Try.checked) false ⟨#[], #[.agg #[.int .i64 0, .int .i64 0, .slice none 0 0], .agg #[.int .i64 0, .int .i64 0, .slice none 0 0]], []⟩ 8 (by kernel_rfl) (by kernel_rfl) (by kernel_rfl) (by kernel_rfl)) ?_
  · intro ds h
    match ds, h with
    | [_, _], _ => rfl
  · intro t ht
    rw [Try.params5] at ht
    simp at ht
    subst ht
    exact ⟨by kernel_rfl, of_decide_eq_true (by kernel_rfl)⟩
  · intro W base args ds p hval hA hlt
    have hval : ∀ (j : Nat) t v, Try.f5.params[j]? = some t → args[j]? = some v → Value.okWide Try.prog W .any base t v := hval
    have hA : DataW.TrodAll enc Try.prog W 0 (fun _ => true) true Try.f5.params.toList args.toList ds p := hA
    rw [Try.params5] at hA hval
    obtain ⟨v0, v1, d0, d1, p0, p1, rfl, rfl, rfl, h0, h1⟩ := trodAll_two hA
    obtain ⟨a0, a1, a2, rfl, wa0, wa1, ⟨ka, ya, ta⟩⟩ := open_Link (hval 0 33 v0 rfl rfl) h0
    obtain ⟨la, ra, fa, na⟩ := open_rowsEntry ta
    obtain ⟨b0, b1, b2, rfl, wb0, wb1, ⟨kb, yb, tb⟩⟩ := open_Link (hval 1 33 v1 rfl rfl) h1
    obtain ⟨lb, rb, fb, nb⟩ := open_rowsEntry tb
    exact (FnExactSameLink_walk ⟨a0, a1, la⟩ a2 ⟨b0, b1, lb⟩ b2 W ra fa.fit na rb fb.fit nb)

theorem FnExactSameLink_holds : Rows.FnExactSameLinkSaid :=
  OpenClaim.holds_of_wide 5 Try.f5 rfl rfl rfl rfl rfl rfl rfl ⟨rfl, rfl, rfl, rfl, rfl⟩ rfl rfl rfl rfl rfl (by kernel_rfl) Try.func5 (by kernel_rfl)
    (of_decide_eq_true (by kernel_rfl)) (by have hw := wrap_ (P := Try.prog) (fn := Try.f5) (by kernel_rfl); exact hw)
    (fun os started H enc _ => FnExactSameLink_lifted os started H enc)
end Go.Proofs.Yteaniiponikpjaa
