/-
  The law FnExactCookieOf returns true for every input. No condition.
-/
import Derived.Test.YtjlnbjabehpncaaCok
import Derived.Test.YtjlnbjabehpncaaOpnMacRow
namespace Go.Proofs.Ytjlnbjabehpncaa
set_option maxRecDepth 100000
open Go.ChangeShapes Go.WideShapes Go.ChangeAt Go.RowKit

section
variable {H : Type} {enc : TypeId × Value → H} {P : Program} {w : World} {base : Nat} {spare : Nat → Bool} {held : Bool}
/-- Five arguments apart. -/
theorem trodAll_five {t0 t1 t2 t3 t4 : TypeId} {args : Array Value} {ds : List (DataW H)} {ps : List MemPlace} (h : DataW.TrodAll enc P w base spare held [t0, t1, t2, t3, t4] args.toList ds ps) :
    ∃ v0 v1 v2 v3 v4 d0 d1 d2 d3 d4 p0 p1 p2 p3 p4, args = #[v0, v1, v2, v3, v4] ∧ ds = [d0, d1, d2, d3, d4] ∧ ps = p0 ++ p1 ++ p2 ++ p3 ++ p4 ∧ DataW.Trod enc P w base spare held t0 v0 d0 p0 ∧ DataW.Trod enc P w base spare held t1 v1 d1 p1 ∧ DataW.Trod enc P w base spare held t2 v2 d2 p2 ∧ DataW.Trod enc P w base spare held t3 v3 d3 p3 ∧ DataW.Trod enc P w base spare held t4 v4 d4 p4 := by
  obtain ⟨v0, l0, d0, e0, p0, q0, hargs, rfl, rfl, k0, h0⟩ := trodAll_cons h
  obtain ⟨v1, l1, d1, e1, p1, q1, rfl, rfl, rfl, k1, h1⟩ := trodAll_cons h0
  obtain ⟨v2, l2, d2, e2, p2, q2, rfl, rfl, rfl, k2, h2⟩ := trodAll_cons h1
  obtain ⟨v3, l3, d3, e3, p3, q3, rfl, rfl, rfl, k3, h3⟩ := trodAll_cons h2
  obtain ⟨v4, l4, d4, e4, p4, q4, rfl, rfl, rfl, k4, h4⟩ := trodAll_cons h3
  obtain ⟨rfl, rfl, rfl⟩ := trodAll_nil h4
  exact ⟨v0, v1, v2, v3, v4, d0, d1, d2, d3, d4, p0, p1, p2, p3, p4, by cases args; simp_all, rfl, by simp, k0, k1, k2, k3, k4⟩
end
set_option maxHeartbeats 4000000 in
theorem FnExactCookieOf_walk (x1 : RMac) (v11 : Value) (a b c seq ep q : Int) (w : World) (h11 : RdMacRow w v11 x1.rs) (f11 : FitMacRow x1.rs) (n11 : x1.rs.length ≤ maxLen) (g1 : x1.fits) :
    Calls Try.prog 9 #[vMc x1 v11, .agg #[.int .i64 a, .int .i64 b, .int .i64 c], .int .i64 seq, .int .i64 ep, .int .i64 q] w fun e w' => e = .returned (.bool true) ∧ Below w.heap.size w w' := by
  have G1 := Lib.hid g1
  clear g1
  obtain ⟨A11, c11, rfl, -⟩ := id h11
  have H11 := Lib.hid h11
  have F11 := Lib.hid f11
  have N11 := Lib.hid n11
  clear h11 f11 n11
  go_enter Try.func9, Try.ntmps9
  go_wp2_with fail
  refine (szMc_any x1 _ F11.out N11.out 1048576 (by omega) (by omega) _ (H11.out.below (by repeat (first | with_reducible exact Below.refl _ _ | with_reducible assumption | with_reducible refine Below.drew ?_ | with_reducible refine Below.alloc ?_ (by first | exact Nat.le_refl _ | omega | (simp; done) | (simp; omega)) _ | with_reducible refine Below.setCell ?_ (by first | exact Nat.le_refl _ | omega | (simp; done) | (simp; omega)) _ | (with_reducible refine ext_trans ?_ (by with_reducible assumption)))))).mono ?_
  rintro e w1 ⟨y1, rfl, ⟨hy1a, hy1b⟩, hs1, hb1⟩
  have hz1 := hb1.size
  (try simp at hz1)
  have ra1_1 : w1.heap[w.heap.size]? = some (.cells #[.bool x1.u, .int .u64 (uI x1.k), .int .u64 (uI x1.l), .slice A11 x1.rs.length c11] 53 (0, 0)) := (hb1.block _ (by first | (simp; done) | (simp; omega))).trans (by repeat (first | exact heap_new _ _ _ (by first | rfl | (simp; done) | (simp; omega)) | refine (Below.heap_alloc _ _ _ (by first | omega | (simp; done) | (simp; omega))).trans ?_))
  have rt_1 : w1.heap[w.heap.size + 1]? = some (.cells #[.int .i64 a, .int .i64 b, .int .i64 c] 64 (0, 0)) := (hb1.block _ (by first | (simp; done) | (simp; omega))).trans (by repeat (first | exact heap_new _ _ _ (by first | rfl | (simp; done) | (simp; omega)) | refine (Below.heap_alloc _ _ _ (by first | omega | (simp; done) | (simp; omega))).trans ?_))
  have hw1 : Below w.heap.size w w1 := (by repeat (first | with_reducible exact Below.refl _ _ | with_reducible assumption | with_reducible refine Below.drew ?_ | with_reducible refine Below.alloc ?_ (by first | exact Nat.le_refl _ | omega | (simp; done) | (simp; omega)) _ | with_reducible refine Below.setCell ?_ (by first | exact Nat.le_refl _ | omega | (simp; done) | (simp; omega)) _ | (with_reducible refine ext_trans ?_ (by with_reducible assumption))))
  have lRa1_1 : w.heap.size < w1.heap.size := by omega
  have lRt_1 : w.heap.size + 1 < w1.heap.size := by omega
  have Ra1_1 := Lib.hid ra1_1
  have r0_ra1_1 := cell_of_row _ _ 0 _ _ _ ra1_1
  have r1_ra1_1 := cell_of_row _ _ 1 _ _ _ ra1_1
  have r2_ra1_1 := cell_of_row _ _ 2 _ _ _ ra1_1
  have r3_ra1_1 := cell_of_row _ _ 3 _ _ _ ra1_1
  have f0_ra1_1 := frozen_of_row _ _ 0 _ _ ra1_1
  have f1_ra1_1 := frozen_of_row _ _ 1 _ _ ra1_1
  have f2_ra1_1 := frozen_of_row _ _ 2 _ _ ra1_1
  have f3_ra1_1 := frozen_of_row _ _ 3 _ _ ra1_1
  simp at r0_ra1_1 r1_ra1_1 r2_ra1_1 r3_ra1_1
  clear ra1_1
  have Rt_1 := Lib.hid rt_1
  have r0_rt_1 := cell_of_row _ _ 0 _ _ _ rt_1
  have r1_rt_1 := cell_of_row _ _ 1 _ _ _ rt_1
  have r2_rt_1 := cell_of_row _ _ 2 _ _ _ rt_1
  have f0_rt_1 := frozen_of_row _ _ 0 _ _ rt_1
  have f1_rt_1 := frozen_of_row _ _ 1 _ _ rt_1
  have f2_rt_1 := frozen_of_row _ _ 2 _ _ rt_1
  simp at r0_rt_1 r1_rt_1 r2_rt_1
  clear rt_1
  by_cases hx1 : y1 < 0
  · go_wp2_with fail
    go_ret
    exact ⟨rfl, (by repeat (first | with_reducible exact Below.refl _ _ | with_reducible assumption | with_reducible refine Below.drew ?_ | with_reducible refine Below.alloc ?_ (by first | exact Nat.le_refl _ | omega | (simp; done) | (simp; omega)) _ | with_reducible refine Below.setCell ?_ (by first | exact Nat.le_refl _ | omega | (simp; done) | (simp; omega)) _ | (with_reducible refine ext_trans ?_ (by with_reducible assumption))))⟩
  have M11 : Hid (x1.rs.length ≤ 1048576) := (by have := hs1.out (by omega); omega : x1.rs.length ≤ 1048576)
  go_wp2_with fail
  go_cut [12] (fun z wx => z = .int .i64 (cookieI x1 a b c seq ep q) ∧ Below w1.heap.size w1 wx)
  case first =>
    first | go_region_held3 (fun w' => (∀ b' o, b' < (w1).heap.size → w'.cell? ⟨b', o, none⟩ = (w1).cell? ⟨b', o, none⟩) ∧ Below (w1).heap.size (w1) w') (first | with_reducible assumption | (with_reducible apply rg_keep; rotate_left; with_reducible assumption; with_reducible assumption) | with_reducible exact rg_start _ | with_reducible exact rg_alloc (KeptS.out (by with_reducible assumption)) _ | with_reducible exact rg_alloc (by with_reducible assumption) _ | with_reducible exact rg_start_alloc _ _ | ((repeat (with_reducible refine rg_set ?_ _ (by first | exact Nat.le_refl _ | omega | (simp; done) | (simp; omega)) _)); first | with_reducible exact KeptS.out (by with_reducible assumption) | with_reducible assumption | with_reducible exact rg_alloc (KeptS.out (by with_reducible assumption)) _)) (first | (go_at_call 39; ((with_reducible refine (toMc_any x1 _ M11.out _ (H11.out.below (ext_trans hw1 (rgBMacRow (by first | with_reducible assumption | exact KeptS.out (by with_reducible assumption)))))).mono ?_); (rintro e wA ⟨vA1, rfl, hOA1, hbA⟩; obtain ⟨AA1, cA1, rfl⟩ := hOA1.form; have hSA := rg_keepK (by first | with_reducible assumption | exact KeptS.out (by with_reducible assumption)) hbA; have hLA := hSA.size; have HOA1 := Lib.hid hOA1; clear hOA1))) | (go_at_call 40; ((with_reducible refine (toTuple_any _ _ _ _).mono ?_); (rintro e wT ⟨rfl, hbT⟩; have hST := rg_keepK (by first | with_reducible assumption | exact KeptS.out (by with_reducible assumption)) hbT; have hLT := hST.size; have HPA1 := Lib.hid (HOA1.out.below hbT)))) | (go_at_call 27; ((with_reducible refine (sCookieOf_any x1 _ a b c seq ep q G1.out _ HPA1.out.rd).mono ?_); (rintro e wC ⟨rfl, hbC⟩; have hSC := rg_keepK (by first | with_reducible assumption | exact KeptS.out (by with_reducible assumption)) hbC)))) | fail
    all_goals (go_wp2_with fail; go_meet; exact ⟨rfl, (by assumption : _ ∧ Below w1.heap.size w1 wC).2⟩)
  case rest =>
  obtain ⟨rfl, hb2⟩ := hcut
  rename World => w2
  have hz2 := hb2.size
  (try simp at hz2)
  have ra1_2 := (hb2.block _ (by first | omega | (simp; done) | (simp; omega))).trans Ra1_1.out
  have rt_2 := (hb2.block _ (by first | omega | (simp; done) | (simp; omega))).trans Rt_1.out
  have hw2 : Below w.heap.size w w2 := (by repeat (first | with_reducible exact Below.refl _ _ | with_reducible assumption | with_reducible refine Below.drew ?_ | with_reducible refine Below.alloc ?_ (by first | exact Nat.le_refl _ | omega | (simp; done) | (simp; omega)) _ | with_reducible refine Below.setCell ?_ (by first | exact Nat.le_refl _ | omega | (simp; done) | (simp; omega)) _ | (with_reducible refine ext_trans ?_ (by with_reducible assumption))))
  have lRa1_2 : w.heap.size < w2.heap.size := by omega
  have lRt_2 : w.heap.size + 1 < w2.heap.size := by omega
  have Ra1_2 := Lib.hid ra1_2
  have r0_ra1_2 := cell_of_row _ _ 0 _ _ _ ra1_2
  have r1_ra1_2 := cell_of_row _ _ 1 _ _ _ ra1_2
  have r2_ra1_2 := cell_of_row _ _ 2 _ _ _ ra1_2
  have r3_ra1_2 := cell_of_row _ _ 3 _ _ _ ra1_2
  have f0_ra1_2 := frozen_of_row _ _ 0 _ _ ra1_2
  have f1_ra1_2 := frozen_of_row _ _ 1 _ _ ra1_2
  have f2_ra1_2 := frozen_of_row _ _ 2 _ _ ra1_2
  have f3_ra1_2 := frozen_of_row _ _ 3 _ _ ra1_2
  simp at r0_ra1_2 r1_ra1_2 r2_ra1_2 r3_ra1_2
  clear ra1_2
  have Rt_2 := Lib.hid rt_2
  have r0_rt_2 := cell_of_row _ _ 0 _ _ _ rt_2
  have r1_rt_2 := cell_of_row _ _ 1 _ _ _ rt_2
  have r2_rt_2 := cell_of_row _ _ 2 _ _ _ rt_2
  have f0_rt_2 := frozen_of_row _ _ 0 _ _ rt_2
  have f1_rt_2 := frozen_of_row _ _ 1 _ _ rt_2
  have f2_rt_2 := frozen_of_row _ _ 2 _ _ rt_2
  simp at r0_rt_2 r1_rt_2 r2_rt_2
  clear rt_2
  clear r0_ra1_1 f0_ra1_1 r1_ra1_1 f1_ra1_1 r2_ra1_1 f2_ra1_1 r3_ra1_1 f3_ra1_1
  clear r0_rt_1 f0_rt_1 r1_rt_1 f1_rt_1 r2_rt_1 f2_rt_1
  go_wp2_with fail
  refine (toMc_any x1 _ M11.out _ (H11.out.below (by repeat (first | with_reducible exact Below.refl _ _ | with_reducible assumption | with_reducible refine Below.drew ?_ | with_reducible refine Below.alloc ?_ (by first | exact Nat.le_refl _ | omega | (simp; done) | (simp; omega)) _ | with_reducible refine Below.setCell ?_ (by first | exact Nat.le_refl _ | omega | (simp; done) | (simp; omega)) _ | (with_reducible refine ext_trans ?_ (by with_reducible assumption)))))).mono ?_
  rintro e w3 ⟨u31, rfl, hO31, hb3⟩
  obtain ⟨A31, c31, rfl⟩ := hO31.form
  have Oq1_3 := Lib.hid hO31
  have Bq1 := Lib.hid (OwnE.mono (base' := w2.heap.size) hO31 (by first | exact Nat.le_refl _ | (simp; done)))
  have hz3 := hb3.size
  (try simp at hz3)
  have ra1_3 := (hb3.block _ (by first | omega | (simp; done) | (simp; omega))).trans Ra1_2.out
  have rt_3 := (hb3.block _ (by first | omega | (simp; done) | (simp; omega))).trans Rt_2.out
  have hw3 : Below w.heap.size w w3 := (by repeat (first | with_reducible exact Below.refl _ _ | with_reducible assumption | with_reducible refine Below.drew ?_ | with_reducible refine Below.alloc ?_ (by first | exact Nat.le_refl _ | omega | (simp; done) | (simp; omega)) _ | with_reducible refine Below.setCell ?_ (by first | exact Nat.le_refl _ | omega | (simp; done) | (simp; omega)) _ | (with_reducible refine ext_trans ?_ (by with_reducible assumption))))
  have lRa1_3 : w.heap.size < w3.heap.size := by omega
  have lRt_3 : w.heap.size + 1 < w3.heap.size := by omega
  have Ra1_3 := Lib.hid ra1_3
  have r0_ra1_3 := cell_of_row _ _ 0 _ _ _ ra1_3
  have r1_ra1_3 := cell_of_row _ _ 1 _ _ _ ra1_3
  have r2_ra1_3 := cell_of_row _ _ 2 _ _ _ ra1_3
  have r3_ra1_3 := cell_of_row _ _ 3 _ _ _ ra1_3
  have f0_ra1_3 := frozen_of_row _ _ 0 _ _ ra1_3
  have f1_ra1_3 := frozen_of_row _ _ 1 _ _ ra1_3
  have f2_ra1_3 := frozen_of_row _ _ 2 _ _ ra1_3
  have f3_ra1_3 := frozen_of_row _ _ 3 _ _ ra1_3
  simp at r0_ra1_3 r1_ra1_3 r2_ra1_3 r3_ra1_3
  clear ra1_3
  have Rt_3 := Lib.hid rt_3
  have r0_rt_3 := cell_of_row _ _ 0 _ _ _ rt_3
  have r1_rt_3 := cell_of_row _ _ 1 _ _ _ rt_3
  have r2_rt_3 := cell_of_row _ _ 2 _ _ _ rt_3
  have f0_rt_3 := frozen_of_row _ _ 0 _ _ rt_3
  have f1_rt_3 := frozen_of_row _ _ 1 _ _ rt_3
  have f2_rt_3 := frozen_of_row _ _ 2 _ _ rt_3
  simp at r0_rt_3 r1_rt_3 r2_rt_3
  clear rt_3
  clear r0_ra1_2 f0_ra1_2 r1_ra1_2 f1_ra1_2 r2_ra1_2 f2_ra1_2 r3_ra1_2 f3_ra1_2
  clear r0_rt_2 f0_rt_2 r1_rt_2 f1_rt_2 r2_rt_2 f2_rt_2
  go_wp2_with fail
  have hb4 : Below w3.heap.size w3 (w3.alloc (.cells #[.bool x1.u, .int .u64 (uI x1.k), .int .u64 (uI x1.l), .slice A31 x1.rs.length c31] 27)) := (by repeat (first | with_reducible exact Below.refl _ _ | with_reducible assumption | with_reducible refine Below.drew ?_ | with_reducible refine Below.alloc ?_ (by first | exact Nat.le_refl _ | omega | (simp; done) | (simp; omega)) _ | with_reducible refine Below.setCell ?_ (by first | exact Nat.le_refl _ | omega | (simp; done) | (simp; omega)) _ | (with_reducible refine ext_trans ?_ (by with_reducible assumption))))
  have rq_4 : (w3.alloc (.cells #[.bool x1.u, .int .u64 (uI x1.k), .int .u64 (uI x1.l), .slice A31 x1.rs.length c31] 27)).heap[w3.heap.size]? = some (.cells #[.bool x1.u, .int .u64 (uI x1.k), .int .u64 (uI x1.l), .slice A31 x1.rs.length c31] 27 (0, 0)) := (by repeat (first | exact heap_new _ _ _ (by first | rfl | (simp; done) | (simp; omega)) | refine (Below.heap_alloc _ _ _ (by first | omega | (simp; done) | (simp; omega))).trans ?_))
  have lNq_4 : w3.heap.size < (w3.alloc (.cells #[.bool x1.u, .int .u64 (uI x1.k), .int .u64 (uI x1.l), .slice A31 x1.rs.length c31] 27)).heap.size := by simp
  generalize (w3.alloc (.cells #[.bool x1.u, .int .u64 (uI x1.k), .int .u64 (uI x1.l), .slice A31 x1.rs.length c31] 27)) = w4 at *
  have hz4 := hb4.size
  (try simp at hz4)
  have ra1_4 := (hb4.block _ (by first | omega | (simp; done) | (simp; omega))).trans Ra1_3.out
  have rt_4 := (hb4.block _ (by first | omega | (simp; done) | (simp; omega))).trans Rt_3.out
  have Oq1_4 := Lib.hid (Oq1_3.out.below (w' := w4) (by repeat (first | with_reducible exact Below.refl _ _ | with_reducible assumption | with_reducible refine Below.drew ?_ | with_reducible refine Below.alloc ?_ (by first | exact Nat.le_refl _ | omega | (simp; done) | (simp; omega)) _ | with_reducible refine Below.setCell ?_ (by first | exact Nat.le_refl _ | omega | (simp; done) | (simp; omega)) _ | (with_reducible refine ext_trans ?_ (by with_reducible assumption)))))
  have hw4 : Below w.heap.size w w4 := (by repeat (first | with_reducible exact Below.refl _ _ | with_reducible assumption | with_reducible refine Below.drew ?_ | with_reducible refine Below.alloc ?_ (by first | exact Nat.le_refl _ | omega | (simp; done) | (simp; omega)) _ | with_reducible refine Below.setCell ?_ (by first | exact Nat.le_refl _ | omega | (simp; done) | (simp; omega)) _ | (with_reducible refine ext_trans ?_ (by with_reducible assumption))))
  have lRa1_4 : w.heap.size < w4.heap.size := by omega
  have lRt_4 : w.heap.size + 1 < w4.heap.size := by omega
  have lRq_4 : w3.heap.size < w4.heap.size := by omega
  have Ra1_4 := Lib.hid ra1_4
  have r0_ra1_4 := cell_of_row _ _ 0 _ _ _ ra1_4
  have r1_ra1_4 := cell_of_row _ _ 1 _ _ _ ra1_4
  have r2_ra1_4 := cell_of_row _ _ 2 _ _ _ ra1_4
  have r3_ra1_4 := cell_of_row _ _ 3 _ _ _ ra1_4
  have f0_ra1_4 := frozen_of_row _ _ 0 _ _ ra1_4
  have f1_ra1_4 := frozen_of_row _ _ 1 _ _ ra1_4
  have f2_ra1_4 := frozen_of_row _ _ 2 _ _ ra1_4
  have f3_ra1_4 := frozen_of_row _ _ 3 _ _ ra1_4
  simp at r0_ra1_4 r1_ra1_4 r2_ra1_4 r3_ra1_4
  clear ra1_4
  have Rt_4 := Lib.hid rt_4
  have r0_rt_4 := cell_of_row _ _ 0 _ _ _ rt_4
  have r1_rt_4 := cell_of_row _ _ 1 _ _ _ rt_4
  have r2_rt_4 := cell_of_row _ _ 2 _ _ _ rt_4
  have f0_rt_4 := frozen_of_row _ _ 0 _ _ rt_4
  have f1_rt_4 := frozen_of_row _ _ 1 _ _ rt_4
  have f2_rt_4 := frozen_of_row _ _ 2 _ _ rt_4
  simp at r0_rt_4 r1_rt_4 r2_rt_4
  clear rt_4
  have Rq_4 := Lib.hid rq_4
  have r0_rq_4 := cell_of_row _ _ 0 _ _ _ rq_4
  have r1_rq_4 := cell_of_row _ _ 1 _ _ _ rq_4
  have r2_rq_4 := cell_of_row _ _ 2 _ _ _ rq_4
  have r3_rq_4 := cell_of_row _ _ 3 _ _ _ rq_4
  have f0_rq_4 := frozen_of_row _ _ 0 _ _ rq_4
  have f1_rq_4 := frozen_of_row _ _ 1 _ _ rq_4
  have f2_rq_4 := frozen_of_row _ _ 2 _ _ rq_4
  have f3_rq_4 := frozen_of_row _ _ 3 _ _ rq_4
  simp at r0_rq_4 r1_rq_4 r2_rq_4 r3_rq_4
  clear rq_4
  clear r0_ra1_3 f0_ra1_3 r1_ra1_3 f1_ra1_3 r2_ra1_3 f2_ra1_3 r3_ra1_3 f3_ra1_3
  clear r0_rt_3 f0_rt_3 r1_rt_3 f1_rt_3 r2_rt_3 f2_rt_3
  go_wp2_with fail
  go_cut [14] (fun z wx => z = .int .i64 (cookieI x1 a b c seq ep q) ∧ Below w4.heap.size w4 wx)
  case first =>
    first | go_region_held3 (fun w' => (∀ b' o, b' < (w4).heap.size → w'.cell? ⟨b', o, none⟩ = (w4).cell? ⟨b', o, none⟩) ∧ Below (w4).heap.size (w4) w') (first | with_reducible assumption | (with_reducible apply rg_keep; rotate_left; with_reducible assumption; with_reducible assumption) | with_reducible exact rg_start _ | with_reducible exact rg_alloc (KeptS.out (by with_reducible assumption)) _ | with_reducible exact rg_alloc (by with_reducible assumption) _ | with_reducible exact rg_start_alloc _ _ | ((repeat (with_reducible refine rg_set ?_ _ (by first | exact Nat.le_refl _ | omega | (simp; done) | (simp; omega)) _)); first | with_reducible exact KeptS.out (by with_reducible assumption) | with_reducible assumption | with_reducible exact rg_alloc (KeptS.out (by with_reducible assumption)) _)) (first | (go_at_call 40; ((with_reducible refine (toTuple_any _ _ _ _).mono ?_); (rintro e wT ⟨rfl, hbT⟩; have hST := rg_keepK (by first | with_reducible assumption | exact KeptS.out (by with_reducible assumption)) hbT; have hLT := hST.size))) | (go_at_call 19; ((with_reducible refine (CookieOf_any x1 _ a b c seq ep q G1.out _ (Oq1_4.out.below (rgBMacRow (by first | with_reducible assumption | exact KeptS.out (by with_reducible assumption)))).rd).mono ?_); (rintro e wC ⟨rfl, hbC⟩; have hSC := rg_keepK (by first | with_reducible assumption | exact KeptS.out (by with_reducible assumption)) hbC)))) | fail
    all_goals (go_wp2_with fail; go_meet; exact ⟨rfl, (by assumption : _ ∧ Below w4.heap.size w4 wC).2⟩)
  case rest =>
  obtain ⟨rfl, hb5⟩ := hcut
  rename World => w5
  have hz5 := hb5.size
  (try simp at hz5)
  have ra1_5 := (hb5.block _ (by first | omega | (simp; done) | (simp; omega))).trans Ra1_4.out
  have rt_5 := (hb5.block _ (by first | omega | (simp; done) | (simp; omega))).trans Rt_4.out
  have rq_5 := (hb5.block _ (by first | omega | (simp; done) | (simp; omega))).trans Rq_4.out
  have Oq1_5 := Lib.hid (Oq1_4.out.below (w' := w5) (by repeat (first | with_reducible exact Below.refl _ _ | with_reducible assumption | with_reducible refine Below.drew ?_ | with_reducible refine Below.alloc ?_ (by first | exact Nat.le_refl _ | omega | (simp; done) | (simp; omega)) _ | with_reducible refine Below.setCell ?_ (by first | exact Nat.le_refl _ | omega | (simp; done) | (simp; omega)) _ | (with_reducible refine ext_trans ?_ (by with_reducible assumption)))))
  have hw5 : Below w.heap.size w w5 := (by repeat (first | with_reducible exact Below.refl _ _ | with_reducible assumption | with_reducible refine Below.drew ?_ | with_reducible refine Below.alloc ?_ (by first | exact Nat.le_refl _ | omega | (simp; done) | (simp; omega)) _ | with_reducible refine Below.setCell ?_ (by first | exact Nat.le_refl _ | omega | (simp; done) | (simp; omega)) _ | (with_reducible refine ext_trans ?_ (by with_reducible assumption))))
  have lRa1_5 : w.heap.size < w5.heap.size := by omega
  have lRt_5 : w.heap.size + 1 < w5.heap.size := by omega
  have lRq_5 : w3.heap.size < w5.heap.size := by omega
  have Ra1_5 := Lib.hid ra1_5
  have r0_ra1_5 := cell_of_row _ _ 0 _ _ _ ra1_5
  have r1_ra1_5 := cell_of_row _ _ 1 _ _ _ ra1_5
  have r2_ra1_5 := cell_of_row _ _ 2 _ _ _ ra1_5
  have r3_ra1_5 := cell_of_row _ _ 3 _ _ _ ra1_5
  have f0_ra1_5 := frozen_of_row _ _ 0 _ _ ra1_5
  have f1_ra1_5 := frozen_of_row _ _ 1 _ _ ra1_5
  have f2_ra1_5 := frozen_of_row _ _ 2 _ _ ra1_5
  have f3_ra1_5 := frozen_of_row _ _ 3 _ _ ra1_5
  simp at r0_ra1_5 r1_ra1_5 r2_ra1_5 r3_ra1_5
  clear ra1_5
  have Rt_5 := Lib.hid rt_5
  have r0_rt_5 := cell_of_row _ _ 0 _ _ _ rt_5
  have r1_rt_5 := cell_of_row _ _ 1 _ _ _ rt_5
  have r2_rt_5 := cell_of_row _ _ 2 _ _ _ rt_5
  have f0_rt_5 := frozen_of_row _ _ 0 _ _ rt_5
  have f1_rt_5 := frozen_of_row _ _ 1 _ _ rt_5
  have f2_rt_5 := frozen_of_row _ _ 2 _ _ rt_5
  simp at r0_rt_5 r1_rt_5 r2_rt_5
  clear rt_5
  have Rq_5 := Lib.hid rq_5
  have r0_rq_5 := cell_of_row _ _ 0 _ _ _ rq_5
  have r1_rq_5 := cell_of_row _ _ 1 _ _ _ rq_5
  have r2_rq_5 := cell_of_row _ _ 2 _ _ _ rq_5
  have r3_rq_5 := cell_of_row _ _ 3 _ _ _ rq_5
  have f0_rq_5 := frozen_of_row _ _ 0 _ _ rq_5
  have f1_rq_5 := frozen_of_row _ _ 1 _ _ rq_5
  have f2_rq_5 := frozen_of_row _ _ 2 _ _ rq_5
  have f3_rq_5 := frozen_of_row _ _ 3 _ _ rq_5
  simp at r0_rq_5 r1_rq_5 r2_rq_5 r3_rq_5
  clear rq_5
  clear r0_ra1_4 f0_ra1_4 r1_ra1_4 f1_ra1_4 r2_ra1_4 f2_ra1_4 r3_ra1_4 f3_ra1_4
  clear r0_rt_4 f0_rt_4 r1_rt_4 f1_rt_4 r2_rt_4 f2_rt_4
  clear r0_rq_4 f0_rq_4 r1_rq_4 f1_rq_4 r2_rq_4 f2_rq_4 r3_rq_4 f3_rq_4
  go_wp2_with fail
  go_cut [44] (fun z wx => z = .bool false ∧ Below w5.heap.size w5 wx)
  case first =>
    first | go_region_held3 (fun w' => (∀ b' o, b' < (w5).heap.size → w'.cell? ⟨b', o, none⟩ = (w5).cell? ⟨b', o, none⟩) ∧ Below (w5).heap.size (w5) w') (first | with_reducible assumption | (with_reducible apply rg_keep; rotate_left; with_reducible assumption; with_reducible assumption) | with_reducible exact rg_start _ | with_reducible exact rg_alloc (KeptS.out (by with_reducible assumption)) _ | with_reducible exact rg_alloc (by with_reducible assumption) _ | with_reducible exact rg_start_alloc _ _ | ((repeat (with_reducible refine rg_set ?_ _ (by first | exact Nat.le_refl _ | omega | (simp; done) | (simp; omega)) _)); first | with_reducible exact KeptS.out (by with_reducible assumption) | with_reducible assumption | with_reducible exact rg_alloc (KeptS.out (by with_reducible assumption)) _)) (first | (go_at_call 39; ((with_reducible refine (toMc_any x1 _ M11.out _ (H11.out.below (ext_trans hw5 (rgBMacRow (by first | with_reducible assumption | exact KeptS.out (by with_reducible assumption)))))).mono ?_); (rintro e wA ⟨vA1, rfl, hOA1, hbA⟩; obtain ⟨AA1, cA1, rfl⟩ := hOA1.form; have hSA := rg_keepK (by first | with_reducible assumption | exact KeptS.out (by with_reducible assumption)) hbA; have hLA := hSA.size; have HOA1 := Lib.hid hOA1; clear hOA1))) | (go_at_call 34; ((with_reducible refine (eqMc_same x1 _ _ N11.out _ (Oq1_5.out.below (rgBMacRow (by first | with_reducible assumption | exact KeptS.out (by with_reducible assumption)))).rd HOA1.out.rd).mono ?_); (rintro e wC ⟨rfl, hbC⟩; have hSC := rg_keepK (by first | with_reducible assumption | exact KeptS.out (by with_reducible assumption)) hbC)))) | fail
    all_goals (go_wp2_with fail; go_meet; exact ⟨rfl, (by assumption : _ ∧ Below w5.heap.size w5 wC).2⟩)
  case rest =>
  obtain ⟨rfl, hb6⟩ := hcut
  rename World => w6
  have hz6 := hb6.size
  (try simp at hz6)
  have ra1_6 := (hb6.block _ (by first | omega | (simp; done) | (simp; omega))).trans Ra1_5.out
  have rt_6 := (hb6.block _ (by first | omega | (simp; done) | (simp; omega))).trans Rt_5.out
  have rq_6 := (hb6.block _ (by first | omega | (simp; done) | (simp; omega))).trans Rq_5.out
  have Oq1_6 := Lib.hid (Oq1_5.out.below (w' := w6) (by repeat (first | with_reducible exact Below.refl _ _ | with_reducible assumption | with_reducible refine Below.drew ?_ | with_reducible refine Below.alloc ?_ (by first | exact Nat.le_refl _ | omega | (simp; done) | (simp; omega)) _ | with_reducible refine Below.setCell ?_ (by first | exact Nat.le_refl _ | omega | (simp; done) | (simp; omega)) _ | (with_reducible refine ext_trans ?_ (by with_reducible assumption)))))
  have hw6 : Below w.heap.size w w6 := (by repeat (first | with_reducible exact Below.refl _ _ | with_reducible assumption | with_reducible refine Below.drew ?_ | with_reducible refine Below.alloc ?_ (by first | exact Nat.le_refl _ | omega | (simp; done) | (simp; omega)) _ | with_reducible refine Below.setCell ?_ (by first | exact Nat.le_refl _ | omega | (simp; done) | (simp; omega)) _ | (with_reducible refine ext_trans ?_ (by with_reducible assumption))))
  have lRa1_6 : w.heap.size < w6.heap.size := by omega
  have lRt_6 : w.heap.size + 1 < w6.heap.size := by omega
  have lRq_6 : w3.heap.size < w6.heap.size := by omega
  have Ra1_6 := Lib.hid ra1_6
  have r0_ra1_6 := cell_of_row _ _ 0 _ _ _ ra1_6
  have r1_ra1_6 := cell_of_row _ _ 1 _ _ _ ra1_6
  have r2_ra1_6 := cell_of_row _ _ 2 _ _ _ ra1_6
  have r3_ra1_6 := cell_of_row _ _ 3 _ _ _ ra1_6
  have f0_ra1_6 := frozen_of_row _ _ 0 _ _ ra1_6
  have f1_ra1_6 := frozen_of_row _ _ 1 _ _ ra1_6
  have f2_ra1_6 := frozen_of_row _ _ 2 _ _ ra1_6
  have f3_ra1_6 := frozen_of_row _ _ 3 _ _ ra1_6
  simp at r0_ra1_6 r1_ra1_6 r2_ra1_6 r3_ra1_6
  clear ra1_6
  have Rt_6 := Lib.hid rt_6
  have r0_rt_6 := cell_of_row _ _ 0 _ _ _ rt_6
  have r1_rt_6 := cell_of_row _ _ 1 _ _ _ rt_6
  have r2_rt_6 := cell_of_row _ _ 2 _ _ _ rt_6
  have f0_rt_6 := frozen_of_row _ _ 0 _ _ rt_6
  have f1_rt_6 := frozen_of_row _ _ 1 _ _ rt_6
  have f2_rt_6 := frozen_of_row _ _ 2 _ _ rt_6
  simp at r0_rt_6 r1_rt_6 r2_rt_6
  clear rt_6
  have Rq_6 := Lib.hid rq_6
  have r0_rq_6 := cell_of_row _ _ 0 _ _ _ rq_6
  have r1_rq_6 := cell_of_row _ _ 1 _ _ _ rq_6
  have r2_rq_6 := cell_of_row _ _ 2 _ _ _ rq_6
  have r3_rq_6 := cell_of_row _ _ 3 _ _ _ rq_6
  have f0_rq_6 := frozen_of_row _ _ 0 _ _ rq_6
  have f1_rq_6 := frozen_of_row _ _ 1 _ _ rq_6
  have f2_rq_6 := frozen_of_row _ _ 2 _ _ rq_6
  have f3_rq_6 := frozen_of_row _ _ 3 _ _ rq_6
  simp at r0_rq_6 r1_rq_6 r2_rq_6 r3_rq_6
  clear rq_6
  clear r0_ra1_5 f0_ra1_5 r1_ra1_5 f1_ra1_5 r2_ra1_5 f2_ra1_5 r3_ra1_5 f3_ra1_5
  clear r0_rt_5 f0_rt_5 r1_rt_5 f1_rt_5 r2_rt_5 f2_rt_5
  clear r0_rq_5 f0_rq_5 r1_rq_5 f1_rq_5 r2_rq_5 f2_rq_5 r3_rq_5 f3_rq_5
  go_wp2_with fail
  go_ret
  exact ⟨rfl, hw6⟩

set_option maxRecDepth 100000 in
theorem FnExactCookieOf_lifted (os : Os) (started : os.Started) (H : Type) (enc : TypeId × Value → H) :
    ReturnsInHanded {} Try.checked os 9 .any (Rows.fnExactCookieOfSpec.pre6 enc Try.prog Try.f9 Rows.fnExactCookieOfRow.domain false) (Rows.fnExactCookieOfSpec.post enc Try.prog Try.f9 false true false false) := by
  refine law_lifted (C := Try.checked) own_ started (by kernel_rfl) Try.func9 laid_ rfl ?_ ?_ rfl Try.underlying4
    (ChangeSpec.witness6 (enc := enc) (C := Try.checked) false ⟨#[], #[.agg #[.bool false, .int .u64 0, .int .u64 0, .slice none 0 0], .agg #[.int .i64 0, .int .i64 0, .int .i64 0], .int .i64 0, .int .i64 0, .int .i64 0], []⟩ 8 (by kernel_rfl) (by kernel_rfl) (by kernel_rfl) (by kernel_rfl)) ?_
  · intro ds h
    match ds, h with
    | [_, _, _, _, _], _ => rfl
  · intro t ht
    rw [Try.params9] at ht
    simp at ht
    rcases ht with rfl | rfl | rfl
    all_goals exact ⟨by kernel_rfl, of_decide_eq_true (by kernel_rfl)⟩
  · intro W base args ds p hval hA hlt
    have hval : ∀ (j : Nat) t v, Try.f9.params[j]? = some t → args[j]? = some v → Value.okWide Try.prog W .any base t v := hval
    have hA : DataW.TrodAll enc Try.prog W 0 (fun _ => true) true Try.f9.params.toList args.toList ds p := hA
    rw [Try.params9] at hA hval
    obtain ⟨v0, v1, v2, v3, v4, d0, d1, d2, d3, d4, p0, p1, p2, p3, p4, rfl, rfl, rfl, h0, h1, h2, h3, h4⟩ := trodAll_five hA
    obtain ⟨a0, a1, a2, a3, rfl, wa0, wa1, ⟨ka, ya, ta⟩⟩ := open_Mac (hval 0 53 v0 rfl rfl) h0
    obtain ⟨la, ra, fa, na⟩ := open_rowsMacRow ta
    obtain ⟨t0, t1, t2, rfl, wt0, wt1, wt2⟩ := open_Tuple (hval 1 64 v1 rfl rfl) h1
    obtain ⟨s, rfl, rfl, rfl, ws⟩ := open_int Try.underlying3 (hval 2 3 v2 rfl rfl) h2
    obtain ⟨e, rfl, rfl, rfl, we⟩ := open_int Try.underlying3 (hval 3 3 v3 rfl rfl) h3
    obtain ⟨q, rfl, rfl, rfl, wq⟩ := open_int Try.underlying3 (hval 4 3 v4 rfl rfl) h4
    exact (by rw [uI_of a1 (by assumption), uI_of a2 (by assumption)]; exact FnExactCookieOf_walk ⟨a0, _, _, la⟩ a3 t0 t1 t2 s e q W ra fa.fit na ⟨na, fun x hx => bd_i64 (fa x hx).2⟩)

theorem FnExactCookieOf_holds : Rows.FnExactCookieOfSaid :=
  OpenClaim.holds_of_wide 9 Try.f9 rfl rfl rfl rfl rfl rfl rfl ⟨rfl, rfl, rfl, rfl, rfl⟩ rfl rfl rfl rfl rfl (by kernel_rfl) Try.func9 (by kernel_rfl)
    (of_decide_eq_true (by kernel_rfl)) (by have hw := wrap_ (P := Try.prog) (fn := Try.f9) (by kernel_rfl); exact hw)
    (fun os started H enc _ => FnExactCookieOf_lifted os started H enc)
end Go.Proofs.Ytjlnbjabehpncaa
