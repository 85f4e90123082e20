/-
  Contract of l16Arp, the reference's.
-/
import Derived.Test.YteaniiponikpjaaLin
namespace Go.Proofs.Yteaniiponikpjaa
set_option maxRecDepth 100000
open Go.ChangeShapes Go.WideShapes Go.ChangeAt Go.RowKit Go.Deep

def arpRF (m q : Int) (l : List REntry) (BA : Bool) (k1 k2 k3 k5 : Int) : List REntry × Int × Value × ByteArray :=
  if (BA && decide (k5 = q)) = true then
    if repB k1 k2 k3 k5 m q = true then (learnedR l k3 k2, 1, zPk, frameS k2 m 2054 (arpS 2 m q k2 k3)) else (learnedR l k3 k2, 0, zPk, ⟨#[]⟩)
  else (l, 0, zPk, ⟨#[]⟩)
/-- As LinPost, where the list may also be the argument's own slice v0. -/
def ArpPost (m q : Int) (l : List REntry) (v0 : Value) (R : List REntry × Int × Value × ByteArray) (w : World) (e : Ending) (w' : World) : Prop :=
  ∃ v, e = .returned (.tuple #[.agg #[.int .i64 m, .int .i64 q, v], .int .i64 R.2.1, R.2.2.1, .string R.2.2.2]) ∧ ((v = v0 ∧ R.1 = l) ∨ OwnEntry w' w.heap.size v R.1) ∧ Below w.heap.size w w'

set_option maxHeartbeats 4000000 in
set_option linter.unusedVariables false in
set_option linter.unusedSimpArgs false in
theorem l16Arp_any (m q : Int) (l : List REntry) (A : Option Addr) (c : Nat) (n1 : l.length ≤ 1048576) (w : World) (h : RdEntry w (.slice A l.length c) l)
    (f1 f2 f3 : Int) (f4 : ByteArray) (h4z : f4.size ≤ 1048576)
    (k1 k2 k3 k4 k5 : Int) (BA : Bool) (hA1 : arR f4 = .agg #[.int .i64 k1, .int .i64 k2, .int .i64 k3, .int .i64 k4, .int .i64 k5]) (hA2 : okAr f4 = BA) :
    Calls Try.prog 80 #[.agg #[.int .i64 m, .int .i64 q, .slice A l.length c], .agg #[.int .i64 f1, .int .i64 f2, .int .i64 f3, .string f4]] w (ArpPost m q l (.slice A l.length c) (arpRF m q l BA k1 k2 k3 k5) w) := by
  have H := Lib.hid h
  have ML : Hid (l.length ≤ 1048576) := n1
  clear h n1
  have Y4 : Hid (∀ W, Calls Try.prog 100 #[.string f4] W fun e w' => e = .returned (.tuple #[.agg #[.int .i64 k1, .int .i64 k2, .int .i64 k3, .int .i64 k4, .int .i64 k5], .bool BA]) ∧ Below W.heap.size W w') := fun W => by
    have hh := sReadArp_any f4 h4z W
    unfold ArOut at hh
    rw [hA1, hA2] at hh
    exact hh
  have hE : arpRF m q l BA k1 k2 k3 k5 = if (BA && decide (k5 = q)) = true then (if repB k1 k2 k3 k5 m q = true then (learnedR l k3 k2, 1, zPk, frameS k2 m 2054 (arpS 2 m q k2 k3)) else (learnedR l k3 k2, 0, zPk, ⟨#[]⟩)) else (l, 0, zPk, ⟨#[]⟩) := rfl
  obtain ⟨R, hRR⟩ : ∃ R, arpRF m q l BA k1 k2 k3 k5 = R := ⟨_, rfl⟩
  rw [hRR] at hE ⊢
  have HE := Lib.hid hE
  clear hRR hE
  go_enter Try.func80, Try.ntmps80
  go_wp2_with fail
  refine (Y4.out _).mono ?_
  rintro e w1 ⟨rfl, hb1⟩
  have hz1 := hb1.size
  (try simp at hz1)
  have ra_1 : w1.heap[w.heap.size]? = some (.cells #[.int .i64 m, .int .i64 q, .slice A l.length c] 37 (0, 0)) := (hb1.block _ (by first | (simp; done) | (simp; omega))).trans (by repeat (first | exact heap_new _ _ _ (by first | rfl | (simp; done) | (simp; omega)) | refine (Below.heap_alloc _ _ _ (by first | omega | (simp; done) | (simp; omega))).trans ?_))
  have rf_1 : w1.heap[w.heap.size + 1]? = some (.cells #[.int .i64 f1, .int .i64 f2, .int .i64 f3, .string f4] 67 (0, 0)) := (hb1.block _ (by first | (simp; done) | (simp; omega))).trans (by repeat (first | exact heap_new _ _ _ (by first | rfl | (simp; done) | (simp; omega)) | refine (Below.heap_alloc _ _ _ (by first | omega | (simp; done) | (simp; omega))).trans ?_))
  have rr_1 : w1.heap[w.heap.size + 2]? = some (.cells #[.int .i64 0, .int .i64 0, .slice none 0 0] 37 (0, 0)) := (hb1.block _ (by first | (simp; done) | (simp; omega))).trans (by repeat (first | exact heap_new _ _ _ (by first | rfl | (simp; done) | (simp; omega)) | refine (Below.heap_alloc _ _ _ (by first | omega | (simp; done) | (simp; omega))).trans ?_))
  have rp_1 : w1.heap[w.heap.size + 3]? = some (.cells #[.int .i64 0, .int .i64 0, .int .i64 0, .int .i64 0, .int .i64 0, .string ⟨#[]⟩] 58 (0, 0)) := (hb1.block _ (by first | (simp; done) | (simp; omega))).trans (by repeat (first | exact heap_new _ _ _ (by first | rfl | (simp; done) | (simp; omega)) | refine (Below.heap_alloc _ _ _ (by first | omega | (simp; done) | (simp; omega))).trans ?_))
  have hw1 : Below w.heap.size w w1 := (by repeat (first | with_reducible exact Below.refl _ _ | with_reducible assumption | with_reducible refine Below.drew ?_ | with_reducible refine Below.alloc ?_ (by first | exact Nat.le_refl _ | omega | (simp; done) | (simp; omega)) _ | with_reducible refine Below.setCell ?_ (by first | exact Nat.le_refl _ | omega | (simp; done) | (simp; omega)) _ | (with_reducible refine ext_trans ?_ (by with_reducible assumption))))
  have lRa_1 : w.heap.size < w1.heap.size := by omega
  have lRf_1 : w.heap.size + 1 < w1.heap.size := by omega
  have lRr_1 : w.heap.size + 2 < w1.heap.size := by omega
  have lRp_1 : w.heap.size + 3 < w1.heap.size := by omega
  have Ra_1 := Lib.hid ra_1
  have r0_ra_1 := cell_of_row _ _ 0 _ _ _ ra_1
  have r1_ra_1 := cell_of_row _ _ 1 _ _ _ ra_1
  have r2_ra_1 := cell_of_row _ _ 2 _ _ _ ra_1
  have f0_ra_1 := frozen_of_row _ _ 0 _ _ ra_1
  have f1_ra_1 := frozen_of_row _ _ 1 _ _ ra_1
  have f2_ra_1 := frozen_of_row _ _ 2 _ _ ra_1
  simp at r0_ra_1 r1_ra_1 r2_ra_1
  clear ra_1
  have Rf_1 := Lib.hid rf_1
  have r0_rf_1 := cell_of_row _ _ 0 _ _ _ rf_1
  have r1_rf_1 := cell_of_row _ _ 1 _ _ _ rf_1
  have r2_rf_1 := cell_of_row _ _ 2 _ _ _ rf_1
  have r3_rf_1 := cell_of_row _ _ 3 _ _ _ rf_1
  have f0_rf_1 := frozen_of_row _ _ 0 _ _ rf_1
  have f1_rf_1 := frozen_of_row _ _ 1 _ _ rf_1
  have f2_rf_1 := frozen_of_row _ _ 2 _ _ rf_1
  have f3_rf_1 := frozen_of_row _ _ 3 _ _ rf_1
  simp at r0_rf_1 r1_rf_1 r2_rf_1 r3_rf_1
  clear rf_1
  have Rr_1 := Lib.hid rr_1
  have r0_rr_1 := cell_of_row _ _ 0 _ _ _ rr_1
  have r1_rr_1 := cell_of_row _ _ 1 _ _ _ rr_1
  have r2_rr_1 := cell_of_row _ _ 2 _ _ _ rr_1
  have f0_rr_1 := frozen_of_row _ _ 0 _ _ rr_1
  have f1_rr_1 := frozen_of_row _ _ 1 _ _ rr_1
  have f2_rr_1 := frozen_of_row _ _ 2 _ _ rr_1
  simp at r0_rr_1 r1_rr_1 r2_rr_1
  clear rr_1
  have Rp_1 := Lib.hid rp_1
  have r0_rp_1 := cell_of_row _ _ 0 _ _ _ rp_1
  have r1_rp_1 := cell_of_row _ _ 1 _ _ _ rp_1
  have r2_rp_1 := cell_of_row _ _ 2 _ _ _ rp_1
  have r3_rp_1 := cell_of_row _ _ 3 _ _ _ rp_1
  have r4_rp_1 := cell_of_row _ _ 4 _ _ _ rp_1
  have r5_rp_1 := cell_of_row _ _ 5 _ _ _ rp_1
  have f0_rp_1 := frozen_of_row _ _ 0 _ _ rp_1
  have f1_rp_1 := frozen_of_row _ _ 1 _ _ rp_1
  have f2_rp_1 := frozen_of_row _ _ 2 _ _ rp_1
  have f3_rp_1 := frozen_of_row _ _ 3 _ _ rp_1
  have f4_rp_1 := frozen_of_row _ _ 4 _ _ rp_1
  have f5_rp_1 := frozen_of_row _ _ 5 _ _ rp_1
  simp at r0_rp_1 r1_rp_1 r2_rp_1 r3_rp_1 r4_rp_1 r5_rp_1
  clear rp_1
  cases BA
  case false =>
    have HV : Hid (R = (l, 0, zPk, ⟨#[]⟩)) := (by rw [HE.out]; simp : R = (l, 0, zPk, ⟨#[]⟩))
    go_wp2_with fail
    apply bodyPost_ret (results_rtrt (P := Try.prog) (fn := Try.f80) rfl _ _ _ 37 _ (0, 0) _ _ 58 _ (0, 0) _ rfl rfl _ _ Try.underlying37 rfl _ Try.underlying58 rfl _) rfl
    rotate_left 3
    · repeat (first | (with_reducible apply heap_setCell_same) | (with_reducible apply drew_row) | (with_reducible apply drewN_row) | (with_reducible exact Rr_1.out) | (with_reducible refine (heap_setCell_other _ _ _ _ (by first | omega | (simp; done) | (simp; omega))).trans ?_) | (with_reducible refine (Below.heap_alloc _ _ _ (by first | omega | (simp; done) | (simp; omega))).trans ?_))
    · repeat (first | (with_reducible apply heap_setCell_same) | (with_reducible apply drew_row) | (with_reducible apply drewN_row) | (with_reducible exact Rp_1.out) | (with_reducible refine (heap_setCell_other _ _ _ _ (by first | omega | (simp; done) | (simp; omega))).trans ?_) | (with_reducible refine (Below.heap_alloc _ _ _ (by first | omega | (simp; done) | (simp; omega))).trans ?_))
    · kernel_rfl
    · kernel_rfl
    exact ⟨_, by rw [HV.out]; first | rfl | (simp; done) | (simp; rfl), .inl ⟨rfl, by rw [HV.out]⟩, (by repeat (first | with_reducible exact Below.refl _ _ | with_reducible assumption | with_reducible refine Below.drew ?_ | with_reducible refine Below.alloc ?_ (by first | exact Nat.le_refl _ | omega | (simp; done) | (simp; omega)) _ | with_reducible refine Below.setCell ?_ (by first | exact Nat.le_refl _ | omega | (simp; done) | (simp; omega)) _ | (with_reducible refine ext_trans ?_ (by with_reducible assumption))))⟩
  case true =>
    by_cases h5 : k5 = q
    case neg =>
      have HV : Hid (R = (l, 0, zPk, ⟨#[]⟩)) := (by rw [HE.out]; simp [h5] : R = (l, 0, zPk, ⟨#[]⟩))
      go_wp2_with fail
      apply bodyPost_ret (results_rtrt (P := Try.prog) (fn := Try.f80) rfl _ _ _ 37 _ (0, 0) _ _ 58 _ (0, 0) _ rfl rfl _ _ Try.underlying37 rfl _ Try.underlying58 rfl _) rfl
      rotate_left 3
      · repeat (first | (with_reducible apply heap_setCell_same) | (with_reducible apply drew_row) | (with_reducible apply drewN_row) | (with_reducible exact Rr_1.out) | (with_reducible refine (heap_setCell_other _ _ _ _ (by first | omega | (simp; done) | (simp; omega))).trans ?_) | (with_reducible refine (Below.heap_alloc _ _ _ (by first | omega | (simp; done) | (simp; omega))).trans ?_))
      · repeat (first | (with_reducible apply heap_setCell_same) | (with_reducible apply drew_row) | (with_reducible apply drewN_row) | (with_reducible exact Rp_1.out) | (with_reducible refine (heap_setCell_other _ _ _ _ (by first | omega | (simp; done) | (simp; omega))).trans ?_) | (with_reducible refine (Below.heap_alloc _ _ _ (by first | omega | (simp; done) | (simp; omega))).trans ?_))
      · kernel_rfl
      · kernel_rfl
      exact ⟨_, by rw [HV.out]; first | rfl | (simp; done) | (simp; rfl), .inl ⟨rfl, by rw [HV.out]⟩, (by repeat (first | with_reducible exact Below.refl _ _ | with_reducible assumption | with_reducible refine Below.drew ?_ | with_reducible refine Below.alloc ?_ (by first | exact Nat.le_refl _ | omega | (simp; done) | (simp; omega)) _ | with_reducible refine Below.setCell ?_ (by first | exact Nat.le_refl _ | omega | (simp; done) | (simp; omega)) _ | (with_reducible refine ext_trans ?_ (by with_reducible assumption))))⟩
    case pos =>
      obtain rfl : q = k5 := h5.symm
      obtain ⟨r, hr⟩ : ∃ r, learnedR l k3 k2 = r := ⟨_, rfl⟩
      rw [hr] at HE
      have y5 := fun W h => sLearned_any (.slice A l.length c) l k3 k2 ML.out W h
      rw [hr] at y5
      have Y5 := Lib.hid y5
      clear y5 hr
      go_wp2_with fail
      refine (Y5.out _ (H.out.below (by repeat (first | with_reducible exact Below.refl _ _ | with_reducible assumption | with_reducible refine Below.drew ?_ | with_reducible refine Below.alloc ?_ (by first | exact Nat.le_refl _ | omega | (simp; done) | (simp; omega)) _ | with_reducible refine Below.setCell ?_ (by first | exact Nat.le_refl _ | omega | (simp; done) | (simp; omega)) _ | (with_reducible refine ext_trans ?_ (by with_reducible assumption)))))).mono ?_
      rintro e w2 ⟨v2, rfl, hO2, hb2⟩
      obtain ⟨A2, c2, rfl⟩ := hO2.form
      have Og1_2 := Lib.hid (OwnE.mono (base' := w1.heap.size + 1) hO2 (by first | exact Nat.le_refl _ | (simp; done) | (simp; omega)))
      have Bg1 := Og1_2
      have hz2 := hb2.size
      (try simp at hz2)
      have ra_2 := (hb2.block _ (by first | omega | (simp; done) | (simp; omega))).trans ((Below.heap_alloc _ _ _ (by first | exact lRa_1 | (simp; omega))).trans Ra_1.out)
      have rf_2 := (hb2.block _ (by first | omega | (simp; done) | (simp; omega))).trans ((Below.heap_alloc _ _ _ (by first | exact lRf_1 | (simp; omega))).trans Rf_1.out)
      have rr_2 := (hb2.block _ (by first | omega | (simp; done) | (simp; omega))).trans ((Below.heap_alloc _ _ _ (by first | exact lRr_1 | (simp; omega))).trans Rr_1.out)
      have rp_2 := (hb2.block _ (by first | omega | (simp; done) | (simp; omega))).trans ((Below.heap_alloc _ _ _ (by first | exact lRp_1 | (simp; omega))).trans Rp_1.out)
      have rk_2 : w2.heap[w1.heap.size]? = some (.cells #[.int .i64 k1, .int .i64 k2, .int .i64 k3, .int .i64 k4, .int .i64 q] 91 (0, 0)) := (hb2.block _ (by first | (simp; done) | (simp; omega))).trans (by repeat (first | exact heap_new _ _ _ (by first | rfl | (simp; done) | (simp; omega)) | refine (Below.heap_alloc _ _ _ (by first | omega | (simp; done) | (simp; omega))).trans ?_))
      have hw2 : Below w.heap.size w w2 := (by repeat (first | with_reducible exact Below.refl _ _ | with_reducible assumption | with_reducible refine Below.drew ?_ | with_reducible refine Below.alloc ?_ (by first | exact Nat.le_refl _ | omega | (simp; done) | (simp; omega)) _ | with_reducible refine Below.setCell ?_ (by first | exact Nat.le_refl _ | omega | (simp; done) | (simp; omega)) _ | (with_reducible refine ext_trans ?_ (by with_reducible assumption))))
      have lRa_2 : w.heap.size < w2.heap.size := by omega
      have lRf_2 : w.heap.size + 1 < w2.heap.size := by omega
      have lRr_2 : w.heap.size + 2 < w2.heap.size := by omega
      have lRp_2 : w.heap.size + 3 < w2.heap.size := by omega
      have lRk_2 : w1.heap.size < w2.heap.size := by omega
      have Ra_2 := Lib.hid ra_2
      have r0_ra_2 := cell_of_row _ _ 0 _ _ _ ra_2
      have r1_ra_2 := cell_of_row _ _ 1 _ _ _ ra_2
      have r2_ra_2 := cell_of_row _ _ 2 _ _ _ ra_2
      have f0_ra_2 := frozen_of_row _ _ 0 _ _ ra_2
      have f1_ra_2 := frozen_of_row _ _ 1 _ _ ra_2
      have f2_ra_2 := frozen_of_row _ _ 2 _ _ ra_2
      simp at r0_ra_2 r1_ra_2 r2_ra_2
      clear ra_2
      have Rf_2 := Lib.hid rf_2
      have r0_rf_2 := cell_of_row _ _ 0 _ _ _ rf_2
      have r1_rf_2 := cell_of_row _ _ 1 _ _ _ rf_2
      have r2_rf_2 := cell_of_row _ _ 2 _ _ _ rf_2
      have r3_rf_2 := cell_of_row _ _ 3 _ _ _ rf_2
      have f0_rf_2 := frozen_of_row _ _ 0 _ _ rf_2
      have f1_rf_2 := frozen_of_row _ _ 1 _ _ rf_2
      have f2_rf_2 := frozen_of_row _ _ 2 _ _ rf_2
      have f3_rf_2 := frozen_of_row _ _ 3 _ _ rf_2
      simp at r0_rf_2 r1_rf_2 r2_rf_2 r3_rf_2
      clear rf_2
      have Rr_2 := Lib.hid rr_2
      have r0_rr_2 := cell_of_row _ _ 0 _ _ _ rr_2
      have r1_rr_2 := cell_of_row _ _ 1 _ _ _ rr_2
      have r2_rr_2 := cell_of_row _ _ 2 _ _ _ rr_2
      have f0_rr_2 := frozen_of_row _ _ 0 _ _ rr_2
      have f1_rr_2 := frozen_of_row _ _ 1 _ _ rr_2
      have f2_rr_2 := frozen_of_row _ _ 2 _ _ rr_2
      simp at r0_rr_2 r1_rr_2 r2_rr_2
      clear rr_2
      have Rp_2 := Lib.hid rp_2
      have r0_rp_2 := cell_of_row _ _ 0 _ _ _ rp_2
      have r1_rp_2 := cell_of_row _ _ 1 _ _ _ rp_2
      have r2_rp_2 := cell_of_row _ _ 2 _ _ _ rp_2
      have r3_rp_2 := cell_of_row _ _ 3 _ _ _ rp_2
      have r4_rp_2 := cell_of_row _ _ 4 _ _ _ rp_2
      have r5_rp_2 := cell_of_row _ _ 5 _ _ _ rp_2
      have f0_rp_2 := frozen_of_row _ _ 0 _ _ rp_2
      have f1_rp_2 := frozen_of_row _ _ 1 _ _ rp_2
      have f2_rp_2 := frozen_of_row _ _ 2 _ _ rp_2
      have f3_rp_2 := frozen_of_row _ _ 3 _ _ rp_2
      have f4_rp_2 := frozen_of_row _ _ 4 _ _ rp_2
      have f5_rp_2 := frozen_of_row _ _ 5 _ _ rp_2
      simp at r0_rp_2 r1_rp_2 r2_rp_2 r3_rp_2 r4_rp_2 r5_rp_2
      clear rp_2
      have Rk_2 := Lib.hid rk_2
      have r0_rk_2 := cell_of_row _ _ 0 _ _ _ rk_2
      have r1_rk_2 := cell_of_row _ _ 1 _ _ _ rk_2
      have r2_rk_2 := cell_of_row _ _ 2 _ _ _ rk_2
      have r3_rk_2 := cell_of_row _ _ 3 _ _ _ rk_2
      have r4_rk_2 := cell_of_row _ _ 4 _ _ _ rk_2
      have f0_rk_2 := frozen_of_row _ _ 0 _ _ rk_2
      have f1_rk_2 := frozen_of_row _ _ 1 _ _ rk_2
      have f2_rk_2 := frozen_of_row _ _ 2 _ _ rk_2
      have f3_rk_2 := frozen_of_row _ _ 3 _ _ rk_2
      have f4_rk_2 := frozen_of_row _ _ 4 _ _ rk_2
      simp at r0_rk_2 r1_rk_2 r2_rk_2 r3_rk_2 r4_rk_2
      clear rk_2
      clear r0_ra_1 f0_ra_1 r1_ra_1 f1_ra_1 r2_ra_1 f2_ra_1
      clear r0_rf_1 f0_rf_1 r1_rf_1 f1_rf_1 r2_rf_1 f2_rf_1 r3_rf_1 f3_rf_1
      clear r0_rr_1 f0_rr_1 r1_rr_1 f1_rr_1 r2_rr_1 f2_rr_1
      clear r0_rp_1 f0_rp_1 r1_rp_1 f1_rp_1 r2_rp_1 f2_rp_1 r3_rp_1 f3_rp_1 r4_rp_1 f4_rp_1 r5_rp_1 f5_rp_1
      go_wp2_with fail
      have ra_3 : (w2.setCell ⟨w.heap.size, 2, none⟩ (.slice A2 r.length c2)).heap[w.heap.size]? = some (.cells #[.int .i64 m, .int .i64 q, (.slice A2 r.length c2)] 37 (0, 0)) := (heap_setCell_same _ _ 2 _ _ (.slice A2 r.length c2) Ra_2.out).trans (by simp)
      have rf_3 := (heap_setCell_other w2 ⟨w.heap.size, 2, none⟩ _ (.slice A2 r.length c2) (by first | omega | (simp; done) | (simp; omega))).trans Rf_2.out
      have rr_3 := (heap_setCell_other w2 ⟨w.heap.size, 2, none⟩ _ (.slice A2 r.length c2) (by first | omega | (simp; done) | (simp; omega))).trans Rr_2.out
      have rp_3 := (heap_setCell_other w2 ⟨w.heap.size, 2, none⟩ _ (.slice A2 r.length c2) (by first | omega | (simp; done) | (simp; omega))).trans Rp_2.out
      have rk_3 := (heap_setCell_other w2 ⟨w.heap.size, 2, none⟩ _ (.slice A2 r.length c2) (by first | omega | (simp; done) | (simp; omega))).trans Rk_2.out
      have Og1_3 := Lib.hid (OwnE.setBelow Og1_2.out (a := ⟨w.heap.size, 2, none⟩) (by first | (simp; done) | (simp; omega)) (.slice A2 r.length c2))
      have hw3 : Below w.heap.size w (w2.setCell ⟨w.heap.size, 2, none⟩ (.slice A2 r.length c2)) := (by repeat (first | with_reducible exact Below.refl _ _ | with_reducible assumption | with_reducible refine Below.drew ?_ | with_reducible refine Below.alloc ?_ (by first | exact Nat.le_refl _ | omega | (simp; done) | (simp; omega)) _ | with_reducible refine Below.setCell ?_ (by first | exact Nat.le_refl _ | omega | (simp; done) | (simp; omega)) _ | (with_reducible refine ext_trans ?_ (by with_reducible assumption))))
      have hz3 : w2.heap.size ≤ (w2.setCell ⟨w.heap.size, 2, none⟩ (.slice A2 r.length c2)).heap.size := by simp
      generalize (w2.setCell ⟨w.heap.size, 2, none⟩ (.slice A2 r.length c2)) = w3 at *
      have lRa_3 : w.heap.size < w3.heap.size := by omega
      have lRf_3 : w.heap.size + 1 < w3.heap.size := by omega
      have lRr_3 : w.heap.size + 2 < w3.heap.size := by omega
      have lRp_3 : w.heap.size + 3 < w3.heap.size := by omega
      have lRk_3 : w1.heap.size < w3.heap.size := by omega
      clear r0_ra_2 f0_ra_2 r1_ra_2 f1_ra_2 r2_ra_2 f2_ra_2
      clear r0_rf_2 f0_rf_2 r1_rf_2 f1_rf_2 r2_rf_2 f2_rf_2 r3_rf_2 f3_rf_2
      clear r0_rr_2 f0_rr_2 r1_rr_2 f1_rr_2 r2_rr_2 f2_rr_2
      clear r0_rp_2 f0_rp_2 r1_rp_2 f1_rp_2 r2_rp_2 f2_rp_2 r3_rp_2 f3_rp_2 r4_rp_2 f4_rp_2 r5_rp_2 f5_rp_2
      clear r0_rk_2 f0_rk_2 r1_rk_2 f1_rk_2 r2_rk_2 f2_rk_2 r3_rk_2 f3_rk_2 r4_rk_2 f4_rk_2
      have Ra_3 := Lib.hid ra_3
      have r0_ra_3 := cell_of_row _ _ 0 _ _ _ ra_3
      have r1_ra_3 := cell_of_row _ _ 1 _ _ _ ra_3
      have r2_ra_3 := cell_of_row _ _ 2 _ _ _ ra_3
      have f0_ra_3 := frozen_of_row _ _ 0 _ _ ra_3
      have f1_ra_3 := frozen_of_row _ _ 1 _ _ ra_3
      have f2_ra_3 := frozen_of_row _ _ 2 _ _ ra_3
      simp at r0_ra_3 r1_ra_3 r2_ra_3
      clear ra_3
      have Rf_3 := Lib.hid rf_3
      have r0_rf_3 := cell_of_row _ _ 0 _ _ _ rf_3
      have r1_rf_3 := cell_of_row _ _ 1 _ _ _ rf_3
      have r2_rf_3 := cell_of_row _ _ 2 _ _ _ rf_3
      have r3_rf_3 := cell_of_row _ _ 3 _ _ _ rf_3
      have f0_rf_3 := frozen_of_row _ _ 0 _ _ rf_3
      have f1_rf_3 := frozen_of_row _ _ 1 _ _ rf_3
      have f2_rf_3 := frozen_of_row _ _ 2 _ _ rf_3
      have f3_rf_3 := frozen_of_row _ _ 3 _ _ rf_3
      simp at r0_rf_3 r1_rf_3 r2_rf_3 r3_rf_3
      clear rf_3
      have Rr_3 := Lib.hid rr_3
      have r0_rr_3 := cell_of_row _ _ 0 _ _ _ rr_3
      have r1_rr_3 := cell_of_row _ _ 1 _ _ _ rr_3
      have r2_rr_3 := cell_of_row _ _ 2 _ _ _ rr_3
      have f0_rr_3 := frozen_of_row _ _ 0 _ _ rr_3
      have f1_rr_3 := frozen_of_row _ _ 1 _ _ rr_3
      have f2_rr_3 := frozen_of_row _ _ 2 _ _ rr_3
      simp at r0_rr_3 r1_rr_3 r2_rr_3
      clear rr_3
      have Rp_3 := Lib.hid rp_3
      have r0_rp_3 := cell_of_row _ _ 0 _ _ _ rp_3
      have r1_rp_3 := cell_of_row _ _ 1 _ _ _ rp_3
      have r2_rp_3 := cell_of_row _ _ 2 _ _ _ rp_3
      have r3_rp_3 := cell_of_row _ _ 3 _ _ _ rp_3
      have r4_rp_3 := cell_of_row _ _ 4 _ _ _ rp_3
      have r5_rp_3 := cell_of_row _ _ 5 _ _ _ rp_3
      have f0_rp_3 := frozen_of_row _ _ 0 _ _ rp_3
      have f1_rp_3 := frozen_of_row _ _ 1 _ _ rp_3
      have f2_rp_3 := frozen_of_row _ _ 2 _ _ rp_3
      have f3_rp_3 := frozen_of_row _ _ 3 _ _ rp_3
      have f4_rp_3 := frozen_of_row _ _ 4 _ _ rp_3
      have f5_rp_3 := frozen_of_row _ _ 5 _ _ rp_3
      simp at r0_rp_3 r1_rp_3 r2_rp_3 r3_rp_3 r4_rp_3 r5_rp_3
      clear rp_3
      have Rk_3 := Lib.hid rk_3
      have r0_rk_3 := cell_of_row _ _ 0 _ _ _ rk_3
      have r1_rk_3 := cell_of_row _ _ 1 _ _ _ rk_3
      have r2_rk_3 := cell_of_row _ _ 2 _ _ _ rk_3
      have r3_rk_3 := cell_of_row _ _ 3 _ _ _ rk_3
      have r4_rk_3 := cell_of_row _ _ 4 _ _ _ rk_3
      have f0_rk_3 := frozen_of_row _ _ 0 _ _ rk_3
      have f1_rk_3 := frozen_of_row _ _ 1 _ _ rk_3
      have f2_rk_3 := frozen_of_row _ _ 2 _ _ rk_3
      have f3_rk_3 := frozen_of_row _ _ 3 _ _ rk_3
      have f4_rk_3 := frozen_of_row _ _ 4 _ _ rk_3
      simp at r0_rk_3 r1_rk_3 r2_rk_3 r3_rk_3 r4_rk_3
      clear rk_3
      have y6 := fun W => sArpReply_any k1 k2 k3 k4 q m q W
      cases hrb : repB k1 k2 k3 q m q
      case false =>
        have hrr : repR k1 k2 k3 q m q = .agg #[.int .i64 0, .int .i64 0, .int .i64 0, .int .i64 0, .int .i64 0] := by (unfold repR; rw [hrb]; rfl)
        rw [hrr, hrb] at y6
        have Y6 := Lib.hid y6
        clear y6 hrr
        have HV : Hid (R = (r, 0, zPk, ⟨#[]⟩)) := (by rw [HE.out, hrb]; simp : R = (r, 0, zPk, ⟨#[]⟩))
        clear hrb
        go_wp2_with fail
        refine (Y6.out _).mono ?_
        rintro e w4 ⟨rfl, hb4⟩
        have hz4 := hb4.size
        (try simp at hz4)
        have ra_4 := (hb4.block _ (by first | omega | (simp; done) | (simp; omega))).trans Ra_3.out
        have rf_4 := (hb4.block _ (by first | omega | (simp; done) | (simp; omega))).trans Rf_3.out
        have rr_4 := (hb4.block _ (by first | omega | (simp; done) | (simp; omega))).trans Rr_3.out
        have rp_4 := (hb4.block _ (by first | omega | (simp; done) | (simp; omega))).trans Rp_3.out
        have rk_4 := (hb4.block _ (by first | omega | (simp; done) | (simp; omega))).trans Rk_3.out
        have Og1_4 := Lib.hid (Og1_3.out.below (w' := w4) (by repeat (first | with_reducible exact Below.refl _ _ | with_reducible assumption | with_reducible refine Below.drew ?_ | with_reducible refine Below.alloc ?_ (by first | exact Nat.le_refl _ | omega | (simp; done) | (simp; omega)) _ | with_reducible refine Below.setCell ?_ (by first | exact Nat.le_refl _ | omega | (simp; done) | (simp; omega)) _ | (with_reducible refine ext_trans ?_ (by with_reducible assumption)))))
        have hw4 : Below w.heap.size w w4 := (by repeat (first | with_reducible exact Below.refl _ _ | with_reducible assumption | with_reducible refine Below.drew ?_ | with_reducible refine Below.alloc ?_ (by first | exact Nat.le_refl _ | omega | (simp; done) | (simp; omega)) _ | with_reducible refine Below.setCell ?_ (by first | exact Nat.le_refl _ | omega | (simp; done) | (simp; omega)) _ | (with_reducible refine ext_trans ?_ (by with_reducible assumption))))
        have lRa_4 : w.heap.size < w4.heap.size := by omega
        have lRf_4 : w.heap.size + 1 < w4.heap.size := by omega
        have lRr_4 : w.heap.size + 2 < w4.heap.size := by omega
        have lRp_4 : w.heap.size + 3 < w4.heap.size := by omega
        have lRk_4 : w1.heap.size < w4.heap.size := by omega
        have Ra_4 := Lib.hid ra_4
        have r0_ra_4 := cell_of_row _ _ 0 _ _ _ ra_4
        have r1_ra_4 := cell_of_row _ _ 1 _ _ _ ra_4
        have r2_ra_4 := cell_of_row _ _ 2 _ _ _ ra_4
        have f0_ra_4 := frozen_of_row _ _ 0 _ _ ra_4
        have f1_ra_4 := frozen_of_row _ _ 1 _ _ ra_4
        have f2_ra_4 := frozen_of_row _ _ 2 _ _ ra_4
        simp at r0_ra_4 r1_ra_4 r2_ra_4
        clear ra_4
        have Rf_4 := Lib.hid rf_4
        have r0_rf_4 := cell_of_row _ _ 0 _ _ _ rf_4
        have r1_rf_4 := cell_of_row _ _ 1 _ _ _ rf_4
        have r2_rf_4 := cell_of_row _ _ 2 _ _ _ rf_4
        have r3_rf_4 := cell_of_row _ _ 3 _ _ _ rf_4
        have f0_rf_4 := frozen_of_row _ _ 0 _ _ rf_4
        have f1_rf_4 := frozen_of_row _ _ 1 _ _ rf_4
        have f2_rf_4 := frozen_of_row _ _ 2 _ _ rf_4
        have f3_rf_4 := frozen_of_row _ _ 3 _ _ rf_4
        simp at r0_rf_4 r1_rf_4 r2_rf_4 r3_rf_4
        clear rf_4
        have Rr_4 := Lib.hid rr_4
        have r0_rr_4 := cell_of_row _ _ 0 _ _ _ rr_4
        have r1_rr_4 := cell_of_row _ _ 1 _ _ _ rr_4
        have r2_rr_4 := cell_of_row _ _ 2 _ _ _ rr_4
        have f0_rr_4 := frozen_of_row _ _ 0 _ _ rr_4
        have f1_rr_4 := frozen_of_row _ _ 1 _ _ rr_4
        have f2_rr_4 := frozen_of_row _ _ 2 _ _ rr_4
        simp at r0_rr_4 r1_rr_4 r2_rr_4
        clear rr_4
        have Rp_4 := Lib.hid rp_4
        have r0_rp_4 := cell_of_row _ _ 0 _ _ _ rp_4
        have r1_rp_4 := cell_of_row _ _ 1 _ _ _ rp_4
        have r2_rp_4 := cell_of_row _ _ 2 _ _ _ rp_4
        have r3_rp_4 := cell_of_row _ _ 3 _ _ _ rp_4
        have r4_rp_4 := cell_of_row _ _ 4 _ _ _ rp_4
        have r5_rp_4 := cell_of_row _ _ 5 _ _ _ rp_4
        have f0_rp_4 := frozen_of_row _ _ 0 _ _ rp_4
        have f1_rp_4 := frozen_of_row _ _ 1 _ _ rp_4
        have f2_rp_4 := frozen_of_row _ _ 2 _ _ rp_4
        have f3_rp_4 := frozen_of_row _ _ 3 _ _ rp_4
        have f4_rp_4 := frozen_of_row _ _ 4 _ _ rp_4
        have f5_rp_4 := frozen_of_row _ _ 5 _ _ rp_4
        simp at r0_rp_4 r1_rp_4 r2_rp_4 r3_rp_4 r4_rp_4 r5_rp_4
        clear rp_4
        have Rk_4 := Lib.hid rk_4
        have r0_rk_4 := cell_of_row _ _ 0 _ _ _ rk_4
        have r1_rk_4 := cell_of_row _ _ 1 _ _ _ rk_4
        have r2_rk_4 := cell_of_row _ _ 2 _ _ _ rk_4
        have r3_rk_4 := cell_of_row _ _ 3 _ _ _ rk_4
        have r4_rk_4 := cell_of_row _ _ 4 _ _ _ rk_4
        have f0_rk_4 := frozen_of_row _ _ 0 _ _ rk_4
        have f1_rk_4 := frozen_of_row _ _ 1 _ _ rk_4
        have f2_rk_4 := frozen_of_row _ _ 2 _ _ rk_4
        have f3_rk_4 := frozen_of_row _ _ 3 _ _ rk_4
        have f4_rk_4 := frozen_of_row _ _ 4 _ _ rk_4
        simp at r0_rk_4 r1_rk_4 r2_rk_4 r3_rk_4 r4_rk_4
        clear rk_4
        clear r0_ra_3 f0_ra_3 r1_ra_3 f1_ra_3 r2_ra_3 f2_ra_3
        clear r0_rf_3 f0_rf_3 r1_rf_3 f1_rf_3 r2_rf_3 f2_rf_3 r3_rf_3 f3_rf_3
        clear r0_rr_3 f0_rr_3 r1_rr_3 f1_rr_3 r2_rr_3 f2_rr_3
        clear r0_rp_3 f0_rp_3 r1_rp_3 f1_rp_3 r2_rp_3 f2_rp_3 r3_rp_3 f3_rp_3 r4_rp_3 f4_rp_3 r5_rp_3 f5_rp_3
        clear r0_rk_3 f0_rk_3 r1_rk_3 f1_rk_3 r2_rk_3 f2_rk_3 r3_rk_3 f3_rk_3 r4_rk_3 f4_rk_3
        go_wp2_with fail
        apply bodyPost_ret (results_rtrt (P := Try.prog) (fn := Try.f80) rfl _ _ _ 37 _ (0, 0) _ _ 58 _ (0, 0) _ rfl rfl _ _ Try.underlying37 rfl _ Try.underlying58 rfl _) rfl
        rotate_left 3
        · repeat (first | (with_reducible apply heap_setCell_same) | (with_reducible apply drew_row) | (with_reducible apply drewN_row) | (with_reducible exact Rr_4.out) | (with_reducible refine (heap_setCell_other _ _ _ _ (by first | omega | (simp; done) | (simp; omega))).trans ?_) | (with_reducible refine (Below.heap_alloc _ _ _ (by first | omega | (simp; done) | (simp; omega))).trans ?_))
        · repeat (first | (with_reducible apply heap_setCell_same) | (with_reducible apply drew_row) | (with_reducible apply drewN_row) | (with_reducible exact Rp_4.out) | (with_reducible refine (heap_setCell_other _ _ _ _ (by first | omega | (simp; done) | (simp; omega))).trans ?_) | (with_reducible refine (Below.heap_alloc _ _ _ (by first | omega | (simp; done) | (simp; omega))).trans ?_))
        · kernel_rfl
        · kernel_rfl
        have OGG := OwnE.mono (base' := w.heap.size + 4) Og1_4.out (by omega)
        exact ⟨_, by rw [HV.out]; first | rfl | (simp; done) | (simp; rfl), .inr (by rw [HV.out]; show OwnEntry _ _ _ r; exact OwnE.mono (base := w.heap.size + 4) (by repeat (first | with_reducible exact OGG | (with_reducible refine OwnE.setBelow ?_ (by first | (simp; done) | (simp; omega)) _) | with_reducible refine OwnE.alloc ?_ _ | with_reducible refine OwnE.drew ?_)) (by omega)), (by repeat (first | with_reducible exact Below.refl _ _ | with_reducible assumption | with_reducible refine Below.drew ?_ | with_reducible refine Below.alloc ?_ (by first | exact Nat.le_refl _ | omega | (simp; done) | (simp; omega)) _ | with_reducible refine Below.setCell ?_ (by first | exact Nat.le_refl _ | omega | (simp; done) | (simp; omega)) _ | (with_reducible refine ext_trans ?_ (by with_reducible assumption))))⟩
      case true =>
        have hrr : repR k1 k2 k3 q m q = .agg #[.int .i64 2, .int .i64 m, .int .i64 q, .int .i64 k2, .int .i64 k3] := by (unfold repR; rw [hrb]; rfl)
        rw [hrr, hrb] at y6
        have Y6 := Lib.hid y6
        clear y6 hrr
        obtain ⟨TS, hTS⟩ : ∃ X, arpS 2 m q k2 k3 = X := ⟨_, rfl⟩
        obtain ⟨F, hFF⟩ : ∃ X, frameS k2 m 2054 TS = X := ⟨_, rfl⟩
        have HV : Hid (R = (r, 1, zPk, F)) := (by rw [HE.out, hrb, hTS, hFF]; simp : R = (r, 1, zPk, F))
        have y7 := fun W => sArpText_any 2 m q k2 k3 W
        rw [hTS] at y7
        have Y7 := Lib.hid y7
        have y8 := fun W => sFrameText_any k2 m 2054 TS W
        rw [hFF] at y8
        have Y8 := Lib.hid y8
        clear y7 y8 hTS hFF hrb
        go_wp2_with fail
        refine (Y6.out _).mono ?_
        rintro e w4 ⟨rfl, hb4⟩
        have hz4 := hb4.size
        (try simp at hz4)
        have ra_4 := (hb4.block _ (by first | omega | (simp; done) | (simp; omega))).trans Ra_3.out
        have rf_4 := (hb4.block _ (by first | omega | (simp; done) | (simp; omega))).trans Rf_3.out
        have rr_4 := (hb4.block _ (by first | omega | (simp; done) | (simp; omega))).trans Rr_3.out
        have rp_4 := (hb4.block _ (by first | omega | (simp; done) | (simp; omega))).trans Rp_3.out
        have rk_4 := (hb4.block _ (by first | omega | (simp; done) | (simp; omega))).trans Rk_3.out
        have Og1_4 := Lib.hid (Og1_3.out.below (w' := w4) (by repeat (first | with_reducible exact Below.refl _ _ | with_reducible assumption | with_reducible refine Below.drew ?_ | with_reducible refine Below.alloc ?_ (by first | exact Nat.le_refl _ | omega | (simp; done) | (simp; omega)) _ | with_reducible refine Below.setCell ?_ (by first | exact Nat.le_refl _ | omega | (simp; done) | (simp; omega)) _ | (with_reducible refine ext_trans ?_ (by with_reducible assumption)))))
        have hw4 : Below w.heap.size w w4 := (by repeat (first | with_reducible exact Below.refl _ _ | with_reducible assumption | with_reducible refine Below.drew ?_ | with_reducible refine Below.alloc ?_ (by first | exact Nat.le_refl _ | omega | (simp; done) | (simp; omega)) _ | with_reducible refine Below.setCell ?_ (by first | exact Nat.le_refl _ | omega | (simp; done) | (simp; omega)) _ | (with_reducible refine ext_trans ?_ (by with_reducible assumption))))
        have lRa_4 : w.heap.size < w4.heap.size := by omega
        have lRf_4 : w.heap.size + 1 < w4.heap.size := by omega
        have lRr_4 : w.heap.size + 2 < w4.heap.size := by omega
        have lRp_4 : w.heap.size + 3 < w4.heap.size := by omega
        have lRk_4 : w1.heap.size < w4.heap.size := by omega
        have Ra_4 := Lib.hid ra_4
        have r0_ra_4 := cell_of_row _ _ 0 _ _ _ ra_4
        have r1_ra_4 := cell_of_row _ _ 1 _ _ _ ra_4
        have r2_ra_4 := cell_of_row _ _ 2 _ _ _ ra_4
        have f0_ra_4 := frozen_of_row _ _ 0 _ _ ra_4
        have f1_ra_4 := frozen_of_row _ _ 1 _ _ ra_4
        have f2_ra_4 := frozen_of_row _ _ 2 _ _ ra_4
        simp at r0_ra_4 r1_ra_4 r2_ra_4
        clear ra_4
        have Rf_4 := Lib.hid rf_4
        have r0_rf_4 := cell_of_row _ _ 0 _ _ _ rf_4
        have r1_rf_4 := cell_of_row _ _ 1 _ _ _ rf_4
        have r2_rf_4 := cell_of_row _ _ 2 _ _ _ rf_4
        have r3_rf_4 := cell_of_row _ _ 3 _ _ _ rf_4
        have f0_rf_4 := frozen_of_row _ _ 0 _ _ rf_4
        have f1_rf_4 := frozen_of_row _ _ 1 _ _ rf_4
        have f2_rf_4 := frozen_of_row _ _ 2 _ _ rf_4
        have f3_rf_4 := frozen_of_row _ _ 3 _ _ rf_4
        simp at r0_rf_4 r1_rf_4 r2_rf_4 r3_rf_4
        clear rf_4
        have Rr_4 := Lib.hid rr_4
        have r0_rr_4 := cell_of_row _ _ 0 _ _ _ rr_4
        have r1_rr_4 := cell_of_row _ _ 1 _ _ _ rr_4
        have r2_rr_4 := cell_of_row _ _ 2 _ _ _ rr_4
        have f0_rr_4 := frozen_of_row _ _ 0 _ _ rr_4
        have f1_rr_4 := frozen_of_row _ _ 1 _ _ rr_4
        have f2_rr_4 := frozen_of_row _ _ 2 _ _ rr_4
        simp at r0_rr_4 r1_rr_4 r2_rr_4
        clear rr_4
        have Rp_4 := Lib.hid rp_4
        have r0_rp_4 := cell_of_row _ _ 0 _ _ _ rp_4
        have r1_rp_4 := cell_of_row _ _ 1 _ _ _ rp_4
        have r2_rp_4 := cell_of_row _ _ 2 _ _ _ rp_4
        have r3_rp_4 := cell_of_row _ _ 3 _ _ _ rp_4
        have r4_rp_4 := cell_of_row _ _ 4 _ _ _ rp_4
        have r5_rp_4 := cell_of_row _ _ 5 _ _ _ rp_4
        have f0_rp_4 := frozen_of_row _ _ 0 _ _ rp_4
        have f1_rp_4 := frozen_of_row _ _ 1 _ _ rp_4
        have f2_rp_4 := frozen_of_row _ _ 2 _ _ rp_4
        have f3_rp_4 := frozen_of_row _ _ 3 _ _ rp_4
        have f4_rp_4 := frozen_of_row _ _ 4 _ _ rp_4
        have f5_rp_4 := frozen_of_row _ _ 5 _ _ rp_4
        simp at r0_rp_4 r1_rp_4 r2_rp_4 r3_rp_4 r4_rp_4 r5_rp_4
        clear rp_4
        have Rk_4 := Lib.hid rk_4
        have r0_rk_4 := cell_of_row _ _ 0 _ _ _ rk_4
        have r1_rk_4 := cell_of_row _ _ 1 _ _ _ rk_4
        have r2_rk_4 := cell_of_row _ _ 2 _ _ _ rk_4
        have r3_rk_4 := cell_of_row _ _ 3 _ _ _ rk_4
        have r4_rk_4 := cell_of_row _ _ 4 _ _ _ rk_4
        have f0_rk_4 := frozen_of_row _ _ 0 _ _ rk_4
        have f1_rk_4 := frozen_of_row _ _ 1 _ _ rk_4
        have f2_rk_4 := frozen_of_row _ _ 2 _ _ rk_4
        have f3_rk_4 := frozen_of_row _ _ 3 _ _ rk_4
        have f4_rk_4 := frozen_of_row _ _ 4 _ _ rk_4
        simp at r0_rk_4 r1_rk_4 r2_rk_4 r3_rk_4 r4_rk_4
        clear rk_4
        clear r0_ra_3 f0_ra_3 r1_ra_3 f1_ra_3 r2_ra_3 f2_ra_3
        clear r0_rf_3 f0_rf_3 r1_rf_3 f1_rf_3 r2_rf_3 f2_rf_3 r3_rf_3 f3_rf_3
        clear r0_rr_3 f0_rr_3 r1_rr_3 f1_rr_3 r2_rr_3 f2_rr_3
        clear r0_rp_3 f0_rp_3 r1_rp_3 f1_rp_3 r2_rp_3 f2_rp_3 r3_rp_3 f3_rp_3 r4_rp_3 f4_rp_3 r5_rp_3 f5_rp_3
        clear r0_rk_3 f0_rk_3 r1_rk_3 f1_rk_3 r2_rk_3 f2_rk_3 r3_rk_3 f3_rk_3 r4_rk_3 f4_rk_3
        go_wp2_with fail
        have hb5 : Below w4.heap.size w4 (w4.alloc (.cells #[.int .i64 2, .int .i64 m, .int .i64 q, .int .i64 k2, .int .i64 k3] 91)) := (by repeat (first | with_reducible exact Below.refl _ _ | with_reducible assumption | with_reducible refine Below.drew ?_ | with_reducible refine Below.alloc ?_ (by first | exact Nat.le_refl _ | omega | (simp; done) | (simp; omega)) _ | with_reducible refine Below.setCell ?_ (by first | exact Nat.le_refl _ | omega | (simp; done) | (simp; omega)) _ | (with_reducible refine ext_trans ?_ (by with_reducible assumption))))
        have rz_5 : (w4.alloc (.cells #[.int .i64 2, .int .i64 m, .int .i64 q, .int .i64 k2, .int .i64 k3] 91)).heap[w4.heap.size]? = some (.cells #[.int .i64 2, .int .i64 m, .int .i64 q, .int .i64 k2, .int .i64 k3] 91 (0, 0)) := (by repeat (first | exact heap_new _ _ _ (by first | rfl | (simp; done) | (simp; omega)) | refine (Below.heap_alloc _ _ _ (by first | omega | (simp; done) | (simp; omega))).trans ?_))
        have lNz_5 : w4.heap.size < (w4.alloc (.cells #[.int .i64 2, .int .i64 m, .int .i64 q, .int .i64 k2, .int .i64 k3] 91)).heap.size := by simp
        generalize (w4.alloc (.cells #[.int .i64 2, .int .i64 m, .int .i64 q, .int .i64 k2, .int .i64 k3] 91)) = w5 at *
        have hz5 := hb5.size
        (try simp at hz5)
        have ra_5 := (hb5.block _ (by first | omega | (simp; done) | (simp; omega))).trans Ra_4.out
        have rf_5 := (hb5.block _ (by first | omega | (simp; done) | (simp; omega))).trans Rf_4.out
        have rr_5 := (hb5.block _ (by first | omega | (simp; done) | (simp; omega))).trans Rr_4.out
        have rp_5 := (hb5.block _ (by first | omega | (simp; done) | (simp; omega))).trans Rp_4.out
        have rk_5 := (hb5.block _ (by first | omega | (simp; done) | (simp; omega))).trans Rk_4.out
        have Og1_5 := Lib.hid (Og1_4.out.below (w' := w5) (by repeat (first | with_reducible exact Below.refl _ _ | with_reducible assumption | with_reducible refine Below.drew ?_ | with_reducible refine Below.alloc ?_ (by first | exact Nat.le_refl _ | omega | (simp; done) | (simp; omega)) _ | with_reducible refine Below.setCell ?_ (by first | exact Nat.le_refl _ | omega | (simp; done) | (simp; omega)) _ | (with_reducible refine ext_trans ?_ (by with_reducible assumption)))))
        have hw5 : Below w.heap.size w w5 := (by repeat (first | with_reducible exact Below.refl _ _ | with_reducible assumption | with_reducible refine Below.drew ?_ | with_reducible refine Below.alloc ?_ (by first | exact Nat.le_refl _ | omega | (simp; done) | (simp; omega)) _ | with_reducible refine Below.setCell ?_ (by first | exact Nat.le_refl _ | omega | (simp; done) | (simp; omega)) _ | (with_reducible refine ext_trans ?_ (by with_reducible assumption))))
        have lRa_5 : w.heap.size < w5.heap.size := by omega
        have lRf_5 : w.heap.size + 1 < w5.heap.size := by omega
        have lRr_5 : w.heap.size + 2 < w5.heap.size := by omega
        have lRp_5 : w.heap.size + 3 < w5.heap.size := by omega
        have lRk_5 : w1.heap.size < w5.heap.size := by omega
        have lRz_5 : w4.heap.size < w5.heap.size := by omega
        have Ra_5 := Lib.hid ra_5
        have r0_ra_5 := cell_of_row _ _ 0 _ _ _ ra_5
        have r1_ra_5 := cell_of_row _ _ 1 _ _ _ ra_5
        have r2_ra_5 := cell_of_row _ _ 2 _ _ _ ra_5
        have f0_ra_5 := frozen_of_row _ _ 0 _ _ ra_5
        have f1_ra_5 := frozen_of_row _ _ 1 _ _ ra_5
        have f2_ra_5 := frozen_of_row _ _ 2 _ _ ra_5
        simp at r0_ra_5 r1_ra_5 r2_ra_5
        clear ra_5
        have Rf_5 := Lib.hid rf_5
        have r0_rf_5 := cell_of_row _ _ 0 _ _ _ rf_5
        have r1_rf_5 := cell_of_row _ _ 1 _ _ _ rf_5
        have r2_rf_5 := cell_of_row _ _ 2 _ _ _ rf_5
        have r3_rf_5 := cell_of_row _ _ 3 _ _ _ rf_5
        have f0_rf_5 := frozen_of_row _ _ 0 _ _ rf_5
        have f1_rf_5 := frozen_of_row _ _ 1 _ _ rf_5
        have f2_rf_5 := frozen_of_row _ _ 2 _ _ rf_5
        have f3_rf_5 := frozen_of_row _ _ 3 _ _ rf_5
        simp at r0_rf_5 r1_rf_5 r2_rf_5 r3_rf_5
        clear rf_5
        have Rr_5 := Lib.hid rr_5
        have r0_rr_5 := cell_of_row _ _ 0 _ _ _ rr_5
        have r1_rr_5 := cell_of_row _ _ 1 _ _ _ rr_5
        have r2_rr_5 := cell_of_row _ _ 2 _ _ _ rr_5
        have f0_rr_5 := frozen_of_row _ _ 0 _ _ rr_5
        have f1_rr_5 := frozen_of_row _ _ 1 _ _ rr_5
        have f2_rr_5 := frozen_of_row _ _ 2 _ _ rr_5
        simp at r0_rr_5 r1_rr_5 r2_rr_5
        clear rr_5
        have Rp_5 := Lib.hid rp_5
        have r0_rp_5 := cell_of_row _ _ 0 _ _ _ rp_5
        have r1_rp_5 := cell_of_row _ _ 1 _ _ _ rp_5
        have r2_rp_5 := cell_of_row _ _ 2 _ _ _ rp_5
        have r3_rp_5 := cell_of_row _ _ 3 _ _ _ rp_5
        have r4_rp_5 := cell_of_row _ _ 4 _ _ _ rp_5
        have r5_rp_5 := cell_of_row _ _ 5 _ _ _ rp_5
        have f0_rp_5 := frozen_of_row _ _ 0 _ _ rp_5
        have f1_rp_5 := frozen_of_row _ _ 1 _ _ rp_5
        have f2_rp_5 := frozen_of_row _ _ 2 _ _ rp_5
        have f3_rp_5 := frozen_of_row _ _ 3 _ _ rp_5
        have f4_rp_5 := frozen_of_row _ _ 4 _ _ rp_5
        have f5_rp_5 := frozen_of_row _ _ 5 _ _ rp_5
        simp at r0_rp_5 r1_rp_5 r2_rp_5 r3_rp_5 r4_rp_5 r5_rp_5
        clear rp_5
        have Rk_5 := Lib.hid rk_5
        have r0_rk_5 := cell_of_row _ _ 0 _ _ _ rk_5
        have r1_rk_5 := cell_of_row _ _ 1 _ _ _ rk_5
        have r2_rk_5 := cell_of_row _ _ 2 _ _ _ rk_5
        have r3_rk_5 := cell_of_row _ _ 3 _ _ _ rk_5
        have r4_rk_5 := cell_of_row _ _ 4 _ _ _ rk_5
        have f0_rk_5 := frozen_of_row _ _ 0 _ _ rk_5
        have f1_rk_5 := frozen_of_row _ _ 1 _ _ rk_5
        have f2_rk_5 := frozen_of_row _ _ 2 _ _ rk_5
        have f3_rk_5 := frozen_of_row _ _ 3 _ _ rk_5
        have f4_rk_5 := frozen_of_row _ _ 4 _ _ rk_5
        simp at r0_rk_5 r1_rk_5 r2_rk_5 r3_rk_5 r4_rk_5
        clear rk_5
        have Rz_5 := Lib.hid rz_5
        have r0_rz_5 := cell_of_row _ _ 0 _ _ _ rz_5
        have r1_rz_5 := cell_of_row _ _ 1 _ _ _ rz_5
        have r2_rz_5 := cell_of_row _ _ 2 _ _ _ rz_5
        have r3_rz_5 := cell_of_row _ _ 3 _ _ _ rz_5
        have r4_rz_5 := cell_of_row _ _ 4 _ _ _ rz_5
        have f0_rz_5 := frozen_of_row _ _ 0 _ _ rz_5
        have f1_rz_5 := frozen_of_row _ _ 1 _ _ rz_5
        have f2_rz_5 := frozen_of_row _ _ 2 _ _ rz_5
        have f3_rz_5 := frozen_of_row _ _ 3 _ _ rz_5
        have f4_rz_5 := frozen_of_row _ _ 4 _ _ rz_5
        simp at r0_rz_5 r1_rz_5 r2_rz_5 r3_rz_5 r4_rz_5
        clear rz_5
        clear r0_ra_4 f0_ra_4 r1_ra_4 f1_ra_4 r2_ra_4 f2_ra_4
        clear r0_rf_4 f0_rf_4 r1_rf_4 f1_rf_4 r2_rf_4 f2_rf_4 r3_rf_4 f3_rf_4
        clear r0_rr_4 f0_rr_4 r1_rr_4 f1_rr_4 r2_rr_4 f2_rr_4
        clear r0_rp_4 f0_rp_4 r1_rp_4 f1_rp_4 r2_rp_4 f2_rp_4 r3_rp_4 f3_rp_4 r4_rp_4 f4_rp_4 r5_rp_4 f5_rp_4
        clear r0_rk_4 f0_rk_4 r1_rk_4 f1_rk_4 r2_rk_4 f2_rk_4 r3_rk_4 f3_rk_4 r4_rk_4 f4_rk_4
        go_wp2_with fail
        refine wp_region_noPanic ?_
        refine wp_region_owed (S := (fun w' => (∀ b' o, b' < w5.heap.size → w'.cell? ⟨b', o, none⟩ = w5.cell? ⟨b', o, none⟩) ∧ Below w5.heap.size w5 w')) (B := (fun i => i != 1 && i != 10 && i != 11 && i != 12 && i != 13)) (by kernel_rfl) (rg_start _) (fun hHeld => ?_)
        refine owed_take_free (fun k => List.elem k [12, 13]) (i := 1) (oi := _) (v := ?v1_1) rfl (by kernel_rfl) (by kernel_rfl) (by kernel_rfl) (fun _ _ _ h => h) (Or.inl ⟨by rfl, ?hy1_1⟩) (by rfl) ?rest1_1
        case hy1_1 => ((intro w _; go_simp); (try with_reducible rfl))
        (try simp only [Act.put, List.getElem_toArray, List.getElem_cons_succ, List.getElem_cons_zero, List.setIfInBounds_toArray, List.set_cons_zero, List.set_cons_succ])
        refine owed_take (fun k => List.elem k [10, 11, 12, 13]) (i := 0) (oi := _) (v := ?v0_2) rfl (by kernel_rfl) (by kernel_rfl) (by kernel_rfl) (fun _ _ _ h => h) (Or.inl ⟨by rfl, ?hy0_2⟩) (by with_reducible assumption) ?rest0_2
        case hy0_2 => ((intro w hSw; (try dsimp only at hSw); go_simp); (try with_reducible rfl))
        (try simp only [Act.put, List.getElem_toArray, List.getElem_cons_succ, List.getElem_cons_zero, List.setIfInBounds_toArray, List.set_cons_zero, List.set_cons_succ])
        refine owed_take (fun k => List.elem k [3, 8, 9, 10, 11, 12, 13]) (i := 2) (oi := _) (v := ?v2_3) rfl (by kernel_rfl) (by kernel_rfl) (by kernel_rfl) (fun _ _ _ h => h) (Or.inl ⟨by rfl, ?hy2_3⟩) (by with_reducible assumption) ?rest2_3
        case hy2_3 => ((intro w hSw; (try dsimp only at hSw); go_simp); (try with_reducible rfl))
        (try simp only [Act.put, List.getElem_toArray, List.getElem_cons_succ, List.getElem_cons_zero, List.setIfInBounds_toArray, List.set_cons_zero, List.set_cons_succ])
        refine owed_take (fun k => List.elem k [8, 9, 10, 11, 12, 13]) (i := 3) (oi := _) (v := ?v3_4) rfl (by kernel_rfl) (by kernel_rfl) (by kernel_rfl) (fun _ _ _ h => h) (Or.inl ⟨by rfl, ?hy3_4⟩) (by with_reducible assumption) ?rest3_4
        case hy3_4 => ((intro w hSw; (try dsimp only at hSw); go_simp); (try with_reducible rfl))
        (try simp only [Act.put, List.getElem_toArray, List.getElem_cons_succ, List.getElem_cons_zero, List.setIfInBounds_toArray, List.set_cons_zero, List.set_cons_succ])
        refine owed_take (fun k => List.elem k [5, 8, 9, 10, 11, 12, 13]) (i := 4) (oi := _) (v := ?v4_5) rfl (by kernel_rfl) (by kernel_rfl) (by kernel_rfl) (fun _ _ _ h => h) (Or.inl ⟨by rfl, ?hy4_5⟩) (by with_reducible assumption) ?rest4_5
        case hy4_5 => ((intro w hSw; (try dsimp only at hSw); go_simp); (try with_reducible rfl))
        (try simp only [Act.put, List.getElem_toArray, List.getElem_cons_succ, List.getElem_cons_zero, List.setIfInBounds_toArray, List.set_cons_zero, List.set_cons_succ])
        refine owed_take (fun k => List.elem k [8, 9, 10, 11, 12, 13]) (i := 5) (oi := _) (v := ?v5_6) rfl (by kernel_rfl) (by kernel_rfl) (by kernel_rfl) (fun _ _ _ h => h) (Or.inl ⟨by rfl, ?hy5_6⟩) (by with_reducible assumption) ?rest5_6
        case hy5_6 => ((intro w hSw; (try dsimp only at hSw); go_simp); (try with_reducible rfl))
        (try simp only [Act.put, List.getElem_toArray, List.getElem_cons_succ, List.getElem_cons_zero, List.setIfInBounds_toArray, List.set_cons_zero, List.set_cons_succ])
        refine owed_take (fun k => List.elem k [7, 8, 9, 10, 11, 12, 13]) (i := 6) (oi := _) (v := ?v6_7) rfl (by kernel_rfl) (by kernel_rfl) (by kernel_rfl) (fun _ _ _ h => h) (Or.inl ⟨by rfl, ?hy6_7⟩) (by with_reducible assumption) ?rest6_7
        case hy6_7 => ((intro w hSw; (try dsimp only at hSw); go_simp); (try with_reducible rfl))
        (try simp only [Act.put, List.getElem_toArray, List.getElem_cons_succ, List.getElem_cons_zero, List.setIfInBounds_toArray, List.set_cons_zero, List.set_cons_succ])
        refine owed_ready (rs := [7]) (by kernel_rfl) (by simp) ?_
        refine owedEach.cons (o := _) rfl (fun K hK => ?_) owedEach.nil
        go_simp
        go_at_call 102; ((with_reducible refine (Y7.out _).mono ?_); (rintro e wA ⟨rfl, hbA⟩; have hSA := rg_keepK (by first | with_reducible assumption | exact KeptS.out (by with_reducible assumption)) hbA))
        go_wp2_with fail
        refine hK.out _ _ ?_ (fun hHeld => ?_)
        · intro _
          (try dsimp only)
          (first | with_reducible assumption | (with_reducible apply rg_keep; rotate_left; with_reducible assumption; with_reducible assumption) | with_reducible exact rg_start _ | with_reducible exact rg_alloc (KeptS.out (by with_reducible assumption)) _ | with_reducible exact rg_alloc (by with_reducible assumption) _ | with_reducible exact rg_start_alloc _ _ | ((repeat (with_reducible refine rg_set ?_ _ (by first | exact Nat.le_refl _ | omega | (simp; done) | (simp; omega)) _)); first | with_reducible exact KeptS.out (by with_reducible assumption) | with_reducible assumption | with_reducible exact rg_alloc (KeptS.out (by with_reducible assumption)) _))
        clear hK K
        replace hHeld := hHeld rfl
        (try simp only [Act.put, List.getElem_toArray, List.getElem_cons_succ, List.getElem_cons_zero, List.setIfInBounds_toArray, List.set_cons_zero, List.set_cons_succ])
        refine owed_take (fun k => List.elem k [9, 10, 11, 12, 13]) (i := 8) (oi := _) (v := ?v8_8) rfl (by kernel_rfl) (by kernel_rfl) (by kernel_rfl) (fun _ _ _ h => h) (Or.inl ⟨by rfl, ?hy8_8⟩) (by with_reducible assumption) ?rest8_8
        case hy8_8 => ((intro w hSw; (try dsimp only at hSw); go_simp); (try with_reducible rfl))
        (try simp only [Act.put, List.getElem_toArray, List.getElem_cons_succ, List.getElem_cons_zero, List.setIfInBounds_toArray, List.set_cons_zero, List.set_cons_succ])
        refine owed_ready (rs := [9]) (by kernel_rfl) (by simp) ?_
        refine owedEach.cons (o := _) rfl (fun K hK => ?_) owedEach.nil
        go_simp
        go_at_call 65; ((with_reducible refine (Y8.out _).mono ?_); (rintro e wB ⟨rfl, hbB⟩; have hSB := rg_keepK (by first | with_reducible assumption | exact KeptS.out (by with_reducible assumption)) hbB; have hLB := hSB.size; have hBB := (KeptS.out hSB).2; have rrB := (hBB.block _ lRr_5).trans Rr_5.out; have HrB := Lib.hid rrB; have r0_rrB := cell_of_row _ _ 0 _ _ _ rrB; have r1_rrB := cell_of_row _ _ 1 _ _ _ rrB; have r2_rrB := cell_of_row _ _ 2 _ _ _ rrB; have f0_rrB := frozen_of_row _ _ 0 _ _ rrB; have f1_rrB := frozen_of_row _ _ 1 _ _ rrB; have f2_rrB := frozen_of_row _ _ 2 _ _ rrB; simp at r0_rrB r1_rrB r2_rrB; clear rrB; have rpB := (hBB.block _ lRp_5).trans Rp_5.out; have HpB := Lib.hid rpB; have r0_rpB := cell_of_row _ _ 0 _ _ _ rpB; have r1_rpB := cell_of_row _ _ 1 _ _ _ rpB; have r2_rpB := cell_of_row _ _ 2 _ _ _ rpB; have r3_rpB := cell_of_row _ _ 3 _ _ _ rpB; have r4_rpB := cell_of_row _ _ 4 _ _ _ rpB; have r5_rpB := cell_of_row _ _ 5 _ _ _ rpB; have f0_rpB := frozen_of_row _ _ 0 _ _ rpB; have f1_rpB := frozen_of_row _ _ 1 _ _ rpB; have f2_rpB := frozen_of_row _ _ 2 _ _ rpB; have f3_rpB := frozen_of_row _ _ 3 _ _ rpB; have f4_rpB := frozen_of_row _ _ 4 _ _ rpB; have f5_rpB := frozen_of_row _ _ 5 _ _ rpB; simp at r0_rpB r1_rpB r2_rpB r3_rpB r4_rpB r5_rpB; clear rpB))
        go_wp2_with fail
        refine hK.out _ _ ?_ (fun hHeld => ?_)
        · intro _
          (try dsimp only)
          (first | with_reducible assumption | (with_reducible apply rg_keep; rotate_left; with_reducible assumption; with_reducible assumption) | with_reducible exact rg_start _ | with_reducible exact rg_alloc (KeptS.out (by with_reducible assumption)) _ | with_reducible exact rg_alloc (by with_reducible assumption) _ | with_reducible exact rg_start_alloc _ _ | ((repeat (with_reducible refine rg_set ?_ _ (by first | exact Nat.le_refl _ | omega | (simp; done) | (simp; omega)) _)); first | with_reducible exact KeptS.out (by with_reducible assumption) | with_reducible assumption | with_reducible exact rg_alloc (KeptS.out (by with_reducible assumption)) _))
        clear hK K
        replace hHeld := hHeld rfl
        (try simp only [Act.put, List.getElem_toArray, List.getElem_cons_succ, List.getElem_cons_zero, List.setIfInBounds_toArray, List.set_cons_zero, List.set_cons_succ])
        refine owed_ready (rs := [10]) (by kernel_rfl) (by simp) ?_
        refine owedEach.cons (o := _) rfl (fun K hK => ?_) owedEach.nil
        go_simp
        refine hK.out _ _ ?_ (fun hHeld => ?_)
        · intro h
          exact absurd h (by decide)
        clear hK K
        (try simp only [Act.put, List.getElem_toArray, List.getElem_cons_succ, List.getElem_cons_zero, List.setIfInBounds_toArray, List.set_cons_zero, List.set_cons_succ])
        refine owed_take_free (fun k => List.elem k [12, 13]) (i := 11) (oi := _) (v := ?v11_9) rfl (by kernel_rfl) (by kernel_rfl) (by kernel_rfl) (fun _ _ _ h => h) (Or.inl ⟨by rfl, ?hy11_9⟩) (by rfl) ?rest11_9
        case hy11_9 => ((intro w _; go_simp); (try with_reducible rfl))
        (try simp only [Act.put, List.getElem_toArray, List.getElem_cons_succ, List.getElem_cons_zero, List.setIfInBounds_toArray, List.set_cons_zero, List.set_cons_succ])
        refine owed_ready (rs := [12]) (by kernel_rfl) (by simp) ?_
        refine owedEach.cons (o := _) rfl (fun K hK => ?_) owedEach.nil
        go_simp
        refine hK.out _ _ ?_ (fun hHeld => ?_)
        · intro h
          exact absurd h (by decide)
        clear hK K
        (try simp only [Act.put, List.getElem_toArray, List.getElem_cons_succ, List.getElem_cons_zero, List.setIfInBounds_toArray, List.set_cons_zero, List.set_cons_succ])
        refine owed_take_free (fun k => List.elem k []) (i := 13) (oi := _) (v := ?v13_10) rfl (by kernel_rfl) (by kernel_rfl) (by kernel_rfl) (fun _ _ _ h => h) (Or.inl ⟨by rfl, ?hy13_10⟩) (by rfl) ?rest13_10
        case hy13_10 => ((intro w _; go_simp); (try with_reducible rfl))
        (try simp only [Act.put, List.getElem_toArray, List.getElem_cons_succ, List.getElem_cons_zero, List.setIfInBounds_toArray, List.set_cons_zero, List.set_cons_succ])
        refine owed_done (by kernel_rfl) (NoPanic.normal ?_)
        go_wp2_with fail
        have OgB := Og1_5.out.below hBB
        have hwB : Below w.heap.size w wB := ext_trans hw5 hBB
        apply bodyPost_ret (results_rtrt (P := Try.prog) (fn := Try.f80) rfl _ _ _ 37 _ (0, 0) _ _ 58 _ (0, 0) _ rfl rfl _ _ Try.underlying37 rfl _ Try.underlying58 rfl _) rfl
        rotate_left 3
        · repeat (first | (with_reducible apply heap_setCell_same) | (with_reducible apply drew_row) | (with_reducible apply drewN_row) | (with_reducible exact HrB.out) | (with_reducible refine (heap_setCell_other _ _ _ _ (by first | omega | (simp; done) | (simp; omega))).trans ?_) | (with_reducible refine (Below.heap_alloc _ _ _ (by first | omega | (simp; done) | (simp; omega))).trans ?_))
        · repeat (first | (with_reducible apply heap_setCell_same) | (with_reducible apply drew_row) | (with_reducible apply drewN_row) | (with_reducible exact HpB.out) | (with_reducible refine (heap_setCell_other _ _ _ _ (by first | omega | (simp; done) | (simp; omega))).trans ?_) | (with_reducible refine (Below.heap_alloc _ _ _ (by first | omega | (simp; done) | (simp; omega))).trans ?_))
        · kernel_rfl
        · kernel_rfl
        have OGG := OwnE.mono (base' := w.heap.size + 4) OgB (by omega)
        exact ⟨_, by rw [HV.out]; first | rfl | (simp; done) | (simp; rfl), .inr (by rw [HV.out]; show OwnEntry _ _ _ r; exact OwnE.mono (base := w.heap.size + 4) (by repeat (first | with_reducible exact OGG | (with_reducible refine OwnE.setBelow ?_ (by first | (simp; done) | (simp; omega)) _) | with_reducible refine OwnE.alloc ?_ _ | with_reducible refine OwnE.drew ?_)) (by omega)), (by repeat (first | with_reducible exact Below.refl _ _ | with_reducible assumption | with_reducible refine Below.drew ?_ | with_reducible refine Below.alloc ?_ (by first | exact Nat.le_refl _ | omega | (simp; done) | (simp; omega)) _ | with_reducible refine Below.setCell ?_ (by first | exact Nat.le_refl _ | omega | (simp; done) | (simp; omega)) _ | (with_reducible refine ext_trans ?_ (by with_reducible assumption))))⟩
end Go.Proofs.Yteaniiponikpjaa
