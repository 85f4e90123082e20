/-
  Contracts of the functions on Keys that the laws bring (to, sz, eq, mark, held), and of the copies of a Mac and of Keys.
-/
import Derived.Test.YtjlnbjabehpncaaMcp
import Derived.Test.YtjlnbjabehpncaaMok
import Derived.Test.YtjlnbjabehpncaaMof
namespace Go.Proofs.Ytjlnbjabehpncaa
open Go.RowKit

/-- A Mac without the place of its rows. -/
structure RMac where
  u : Bool
  k : BitVec 64
  l : BitVec 64
  rs : List RMacRow
abbrev vMc (m : RMac) (v : Value) : Value := vM m.u (uI m.k) (uI m.l) v
/-- Keys without the places of their rows. -/
structure RKeys where
  ep : Int
  now : RMac
  bef : RMac
  two : Bool
abbrev vK (x : RKeys) (v1 v2 : Value) : Value := .agg #[.int .i64 x.ep, .bool x.now.u, .int .u64 (uI x.now.k), .int .u64 (uI x.now.l), v1, .bool x.bef.u, .int .u64 (uI x.bef.k), .int .u64 (uI x.bef.l), v2, .bool x.two]
/-- Keys made anew. -/
def NewKeys (x : RKeys) (W : World) (e : Ending) (w' : World) : Prop :=
  ∃ v1 v2, e = .returned (vK x v1 v2) ∧ OwnMacRow w' W.heap.size v1 x.now.rs ∧ OwnMacRow w' W.heap.size v2 x.bef.rs ∧ (x.now.rs ≠ [] → x.bef.rs ≠ [] → v1.ownBlock ≠ v2.ownBlock) ∧ Below W.heap.size W w'

set_option maxHeartbeats 1000000 in
theorem toKeys_any (x : RKeys) (v1 v2 : Value) (n1 : x.now.rs.length ≤ 1048576) (n2 : x.bef.rs.length ≤ 1048576) (w : World) (h1 : RdMacRow w v1 x.now.rs) (h2 : RdMacRow w v2 x.bef.rs) :
    Calls Try.prog 31 #[vK x v1 v2] w (NewKeys x w) := by
  obtain ⟨A1, c1, rfl, -⟩ := id h1
  obtain ⟨A2, c2, rfl, -⟩ := id h2
  have H1 := Lib.hid h1
  have H2 := Lib.hid h2
  have N1 := Lib.hid n1
  have N2 := Lib.hid n2
  clear h1 h2 n1 n2
  go_enter Try.func31, Try.ntmps31
  go_wp2_with fail
  refine (toMac_any _ _ _ _ x.now.rs N1.out _ (H1.out.below (by repeat (first | with_reducible exact Below.refl _ _ | with_reducible assumption | with_reducible refine Below.drew ?_ | with_reducible refine Below.alloc ?_ (by first | exact Nat.le_refl _ | omega | (simp; done) | (simp; omega)) _ | with_reducible refine Below.setCell ?_ (by first | exact Nat.le_refl _ | omega | (simp; done) | (simp; omega)) _ | (with_reducible refine ext_trans ?_ (by with_reducible assumption)))))).mono ?_
  rintro e w1 ⟨v3, rfl, hO1, hb1⟩
  obtain ⟨A3, c3, rfl⟩ := hO1.form
  have hz1 := hb1.size
  simp at hz1
  have ha : w1.heap[w.heap.size]? = some (.cells #[.int .i64 x.ep, .bool x.now.u, .int .u64 (uI x.now.k), .int .u64 (uI x.now.l), .slice A1 x.now.rs.length c1, .bool x.bef.u, .int .u64 (uI x.bef.k), .int .u64 (uI x.bef.l), .slice A2 x.bef.rs.length c2, .bool x.two] 55 (0, 0)) := (hb1.block _ (by first | (simp; done) | (simp; omega))).trans (by repeat (first | exact heap_new _ _ _ (by first | rfl | (simp; done) | (simp; omega)) | refine (Below.heap_alloc _ _ _ (by first | omega | (simp; done) | (simp; omega))).trans ?_))
  have hr : w1.heap[w.heap.size + 1]? = some (.cells #[.int .i64 0, .bool false, .int .u64 0, .int .u64 0, .slice none 0 0, .bool false, .int .u64 0, .int .u64 0, .slice none 0 0, .bool false] 29 (0, 0)) := (hb1.block _ (by first | (simp; done) | (simp; omega))).trans (by repeat (first | exact heap_new _ _ _ (by first | rfl | (simp; done) | (simp; omega)) | refine (Below.heap_alloc _ _ _ (by first | omega | (simp; done) | (simp; omega))).trans ?_))
  have ho : w1.heap[w.heap.size + 1 + 1]? = some (.cells #[.int .i64 x.ep, .bool false, .int .u64 0, .int .u64 0, .slice none 0 0, .bool false, .int .u64 0, .int .u64 0, .slice none 0 0, .bool false] 29 (0, 0)) := (hb1.block _ (by first | (simp; done) | (simp; omega))).trans (by repeat (first | exact heap_new _ _ _ (by first | rfl | (simp; done) | (simp; omega)) | refine (Below.heap_alloc _ _ _ (by first | omega | (simp; done) | (simp; omega))).trans ?_))
  have HO1 : Hid (OwnMacRow w1 (w.heap.size + 3) (.slice A3 x.now.rs.length c3) x.now.rs) := hO1.mono (by simp)
  have hl1 : w.heap.size + 1 + 1 < w1.heap.size := by omega
  have r0_ha := cell_of_row _ _ 0 _ _ _ ha
  have r1_ha := cell_of_row _ _ 1 _ _ _ ha
  have r2_ha := cell_of_row _ _ 2 _ _ _ ha
  have r3_ha := cell_of_row _ _ 3 _ _ _ ha
  have r4_ha := cell_of_row _ _ 4 _ _ _ ha
  have r5_ha := cell_of_row _ _ 5 _ _ _ ha
  have r6_ha := cell_of_row _ _ 6 _ _ _ ha
  have r7_ha := cell_of_row _ _ 7 _ _ _ ha
  have r8_ha := cell_of_row _ _ 8 _ _ _ ha
  have r9_ha := cell_of_row _ _ 9 _ _ _ ha
  have f0_ha := frozen_of_row _ _ 0 _ _ ha
  have f1_ha := frozen_of_row _ _ 1 _ _ ha
  have f2_ha := frozen_of_row _ _ 2 _ _ ha
  have f3_ha := frozen_of_row _ _ 3 _ _ ha
  have f4_ha := frozen_of_row _ _ 4 _ _ ha
  have f5_ha := frozen_of_row _ _ 5 _ _ ha
  have f6_ha := frozen_of_row _ _ 6 _ _ ha
  have f7_ha := frozen_of_row _ _ 7 _ _ ha
  have f8_ha := frozen_of_row _ _ 8 _ _ ha
  have f9_ha := frozen_of_row _ _ 9 _ _ ha
  simp at r0_ha r1_ha r2_ha r3_ha r4_ha r5_ha r6_ha r7_ha r8_ha r9_ha
  have r0_hr := cell_of_row _ _ 0 _ _ _ hr
  have r1_hr := cell_of_row _ _ 1 _ _ _ hr
  have r2_hr := cell_of_row _ _ 2 _ _ _ hr
  have r3_hr := cell_of_row _ _ 3 _ _ _ hr
  have r4_hr := cell_of_row _ _ 4 _ _ _ hr
  have r5_hr := cell_of_row _ _ 5 _ _ _ hr
  have r6_hr := cell_of_row _ _ 6 _ _ _ hr
  have r7_hr := cell_of_row _ _ 7 _ _ _ hr
  have r8_hr := cell_of_row _ _ 8 _ _ _ hr
  have r9_hr := cell_of_row _ _ 9 _ _ _ hr
  have f0_hr := frozen_of_row _ _ 0 _ _ hr
  have f1_hr := frozen_of_row _ _ 1 _ _ hr
  have f2_hr := frozen_of_row _ _ 2 _ _ hr
  have f3_hr := frozen_of_row _ _ 3 _ _ hr
  have f4_hr := frozen_of_row _ _ 4 _ _ hr
  have f5_hr := frozen_of_row _ _ 5 _ _ hr
  have f6_hr := frozen_of_row _ _ 6 _ _ hr
  have f7_hr := frozen_of_row _ _ 7 _ _ hr
  have f8_hr := frozen_of_row _ _ 8 _ _ hr
  have f9_hr := frozen_of_row _ _ 9 _ _ hr
  simp at r0_hr r1_hr r2_hr r3_hr r4_hr r5_hr r6_hr r7_hr r8_hr r9_hr
  have r0_ho := cell_of_row _ _ 0 _ _ _ ho
  have r1_ho := cell_of_row _ _ 1 _ _ _ ho
  have r2_ho := cell_of_row _ _ 2 _ _ _ ho
  have r3_ho := cell_of_row _ _ 3 _ _ _ ho
  have r4_ho := cell_of_row _ _ 4 _ _ _ ho
  have r5_ho := cell_of_row _ _ 5 _ _ _ ho
  have r6_ho := cell_of_row _ _ 6 _ _ _ ho
  have r7_ho := cell_of_row _ _ 7 _ _ _ ho
  have r8_ho := cell_of_row _ _ 8 _ _ _ ho
  have r9_ho := cell_of_row _ _ 9 _ _ _ ho
  have f0_ho := frozen_of_row _ _ 0 _ _ ho
  have f1_ho := frozen_of_row _ _ 1 _ _ ho
  have f2_ho := frozen_of_row _ _ 2 _ _ ho
  have f3_ho := frozen_of_row _ _ 3 _ _ ho
  have f4_ho := frozen_of_row _ _ 4 _ _ ho
  have f5_ho := frozen_of_row _ _ 5 _ _ ho
  have f6_ho := frozen_of_row _ _ 6 _ _ ho
  have f7_ho := frozen_of_row _ _ 7 _ _ ho
  have f8_ho := frozen_of_row _ _ 8 _ _ ho
  have f9_ho := frozen_of_row _ _ 9 _ _ ho
  simp at r0_ho r1_ho r2_ho r3_ho r4_ho r5_ho r6_ho r7_ho r8_ho r9_ho
  have HA := Lib.hid ha
  have HR := Lib.hid hr
  have HO := Lib.hid ho
  clear ha hr ho hO1
  go_wp2_with fail
  refine (toMac_any _ _ _ _ x.bef.rs N2.out _ (H2.out.below (by repeat (first | with_reducible exact Below.refl _ _ | with_reducible assumption | with_reducible refine Below.drew ?_ | with_reducible refine Below.alloc ?_ (by first | exact Nat.le_refl _ | omega | (simp; done) | (simp; omega)) _ | with_reducible refine Below.setCell ?_ (by first | exact Nat.le_refl _ | omega | (simp; done) | (simp; omega)) _ | (with_reducible refine ext_trans ?_ (by with_reducible assumption)))))).mono ?_
  rintro e w2 ⟨v4, rfl, hO2, hb2⟩
  obtain ⟨A4, c4, rfl⟩ := hO2.form
  have hz2 := hb2.size
  simp at hz2
  have ha2 : w2.heap[w.heap.size]? = some (.cells #[.int .i64 x.ep, .bool x.now.u, .int .u64 (uI x.now.k), .int .u64 (uI x.now.l), .slice A1 x.now.rs.length c1, .bool x.bef.u, .int .u64 (uI x.bef.k), .int .u64 (uI x.bef.l), .slice A2 x.bef.rs.length c2, .bool x.two] 55 (0, 0)) := (hb2.block _ (by simp; omega)).trans (by repeat (first | (with_reducible apply heap_setCell_same) | (with_reducible apply drew_row) | (with_reducible apply drewN_row) | (with_reducible exact HA.out) | (with_reducible refine (heap_setCell_other _ _ _ _ (by first | omega | (simp; done) | (simp; omega))).trans ?_) | (with_reducible refine (Below.heap_alloc _ _ _ (by first | omega | (simp; done) | (simp; omega))).trans ?_)))
  have hr2 : w2.heap[w.heap.size + 1]? = some (.cells #[.int .i64 0, .bool false, .int .u64 0, .int .u64 0, .slice none 0 0, .bool false, .int .u64 0, .int .u64 0, .slice none 0 0, .bool false] 29 (0, 0)) := (hb2.block _ (by simp; omega)).trans (by repeat (first | (with_reducible apply heap_setCell_same) | (with_reducible apply drew_row) | (with_reducible apply drewN_row) | (with_reducible exact HR.out) | (with_reducible refine (heap_setCell_other _ _ _ _ (by first | omega | (simp; done) | (simp; omega))).trans ?_) | (with_reducible refine (Below.heap_alloc _ _ _ (by first | omega | (simp; done) | (simp; omega))).trans ?_)))
  have ho2 : w2.heap[w.heap.size + 1 + 1]? = some (.cells #[.int .i64 x.ep, .bool x.now.u, .int .u64 (uI x.now.k), .int .u64 (uI x.now.l), .slice A3 x.now.rs.length c3, .bool false, .int .u64 0, .int .u64 0, .slice none 0 0, .bool false] 29 (0, 0)) := (hb2.block _ (by simp; omega)).trans ((heap_setCell_same _ _ 4 _ _ _ (heap_setCell_same _ _ 3 _ _ _ (heap_setCell_same _ _ 2 _ _ _ (heap_setCell_same _ _ 1 _ _ _ HO.out)))).trans (by simp))
  have HP1 : Hid (OwnMacRow w2 (w.heap.size + 3) (.slice A3 x.now.rs.length c3) x.now.rs) := OwnE.below (by repeat (first | with_reducible exact HO1.out | (with_reducible refine OwnE.setBelow ?_ (by first | (simp; done) | (simp; omega)) _) | with_reducible refine OwnE.alloc ?_ _ | with_reducible refine OwnE.drew ?_)) hb2
  have HO2 : Hid (OwnMacRow w2 w1.heap.size (.slice A4 x.bef.rs.length c4) x.bef.rs) := hO2.mono (by simp)
  have hap : Hid (x.now.rs ≠ [] → x.bef.rs ≠ [] → (Value.slice A3 x.now.rs.length c3).ownBlock ≠ (Value.slice A4 x.bef.rs.length c4).ownBlock) := fun h h' => own_ne HO1.out HO2.out (Nat.le_refl _) h h'
  have hl2 : w.heap.size + 1 + 1 < w2.heap.size := by omega
  have hbw : Below w.heap.size w w2 := (by repeat (first | with_reducible exact Below.refl _ _ | with_reducible assumption | with_reducible refine Below.drew ?_ | with_reducible refine Below.alloc ?_ (by first | exact Nat.le_refl _ | omega | (simp; done) | (simp; omega)) _ | with_reducible refine Below.setCell ?_ (by first | exact Nat.le_refl _ | omega | (simp; done) | (simp; omega)) _ | (with_reducible refine ext_trans ?_ (by with_reducible assumption))))
  clear r0_ha r1_ha r2_ha r3_ha r4_ha r5_ha r6_ha r7_ha r8_ha r9_ha r0_hr r1_hr r2_hr r3_hr r4_hr r5_hr r6_hr r7_hr r8_hr r9_hr r0_ho r1_ho r2_ho r3_ho r4_ho r5_ho r6_ho r7_ho r8_ho r9_ho
  clear f0_ha f1_ha f2_ha f3_ha f4_ha f5_ha f6_ha f7_ha f8_ha f9_ha f0_hr f1_hr f2_hr f3_hr f4_hr f5_hr f6_hr f7_hr f8_hr f9_hr f0_ho f1_ho f2_ho f3_ho f4_ho f5_ho f6_ho f7_ho f8_ho f9_ho
  have r0_ha2 := cell_of_row _ _ 0 _ _ _ ha2
  have r1_ha2 := cell_of_row _ _ 1 _ _ _ ha2
  have r2_ha2 := cell_of_row _ _ 2 _ _ _ ha2
  have r3_ha2 := cell_of_row _ _ 3 _ _ _ ha2
  have r4_ha2 := cell_of_row _ _ 4 _ _ _ ha2
  have r5_ha2 := cell_of_row _ _ 5 _ _ _ ha2
  have r6_ha2 := cell_of_row _ _ 6 _ _ _ ha2
  have r7_ha2 := cell_of_row _ _ 7 _ _ _ ha2
  have r8_ha2 := cell_of_row _ _ 8 _ _ _ ha2
  have r9_ha2 := cell_of_row _ _ 9 _ _ _ ha2
  have f0_ha2 := frozen_of_row _ _ 0 _ _ ha2
  have f1_ha2 := frozen_of_row _ _ 1 _ _ ha2
  have f2_ha2 := frozen_of_row _ _ 2 _ _ ha2
  have f3_ha2 := frozen_of_row _ _ 3 _ _ ha2
  have f4_ha2 := frozen_of_row _ _ 4 _ _ ha2
  have f5_ha2 := frozen_of_row _ _ 5 _ _ ha2
  have f6_ha2 := frozen_of_row _ _ 6 _ _ ha2
  have f7_ha2 := frozen_of_row _ _ 7 _ _ ha2
  have f8_ha2 := frozen_of_row _ _ 8 _ _ ha2
  have f9_ha2 := frozen_of_row _ _ 9 _ _ ha2
  simp at r0_ha2 r1_ha2 r2_ha2 r3_ha2 r4_ha2 r5_ha2 r6_ha2 r7_ha2 r8_ha2 r9_ha2
  have r0_hr2 := cell_of_row _ _ 0 _ _ _ hr2
  have r1_hr2 := cell_of_row _ _ 1 _ _ _ hr2
  have r2_hr2 := cell_of_row _ _ 2 _ _ _ hr2
  have r3_hr2 := cell_of_row _ _ 3 _ _ _ hr2
  have r4_hr2 := cell_of_row _ _ 4 _ _ _ hr2
  have r5_hr2 := cell_of_row _ _ 5 _ _ _ hr2
  have r6_hr2 := cell_of_row _ _ 6 _ _ _ hr2
  have r7_hr2 := cell_of_row _ _ 7 _ _ _ hr2
  have r8_hr2 := cell_of_row _ _ 8 _ _ _ hr2
  have r9_hr2 := cell_of_row _ _ 9 _ _ _ hr2
  have f0_hr2 := frozen_of_row _ _ 0 _ _ hr2
  have f1_hr2 := frozen_of_row _ _ 1 _ _ hr2
  have f2_hr2 := frozen_of_row _ _ 2 _ _ hr2
  have f3_hr2 := frozen_of_row _ _ 3 _ _ hr2
  have f4_hr2 := frozen_of_row _ _ 4 _ _ hr2
  have f5_hr2 := frozen_of_row _ _ 5 _ _ hr2
  have f6_hr2 := frozen_of_row _ _ 6 _ _ hr2
  have f7_hr2 := frozen_of_row _ _ 7 _ _ hr2
  have f8_hr2 := frozen_of_row _ _ 8 _ _ hr2
  have f9_hr2 := frozen_of_row _ _ 9 _ _ hr2
  simp at r0_hr2 r1_hr2 r2_hr2 r3_hr2 r4_hr2 r5_hr2 r6_hr2 r7_hr2 r8_hr2 r9_hr2
  have r0_ho2 := cell_of_row _ _ 0 _ _ _ ho2
  have r1_ho2 := cell_of_row _ _ 1 _ _ _ ho2
  have r2_ho2 := cell_of_row _ _ 2 _ _ _ ho2
  have r3_ho2 := cell_of_row _ _ 3 _ _ _ ho2
  have r4_ho2 := cell_of_row _ _ 4 _ _ _ ho2
  have r5_ho2 := cell_of_row _ _ 5 _ _ _ ho2
  have r6_ho2 := cell_of_row _ _ 6 _ _ _ ho2
  have r7_ho2 := cell_of_row _ _ 7 _ _ _ ho2
  have r8_ho2 := cell_of_row _ _ 8 _ _ _ ho2
  have r9_ho2 := cell_of_row _ _ 9 _ _ _ ho2
  have f0_ho2 := frozen_of_row _ _ 0 _ _ ho2
  have f1_ho2 := frozen_of_row _ _ 1 _ _ ho2
  have f2_ho2 := frozen_of_row _ _ 2 _ _ ho2
  have f3_ho2 := frozen_of_row _ _ 3 _ _ ho2
  have f4_ho2 := frozen_of_row _ _ 4 _ _ ho2
  have f5_ho2 := frozen_of_row _ _ 5 _ _ ho2
  have f6_ho2 := frozen_of_row _ _ 6 _ _ ho2
  have f7_ho2 := frozen_of_row _ _ 7 _ _ ho2
  have f8_ho2 := frozen_of_row _ _ 8 _ _ ho2
  have f9_ho2 := frozen_of_row _ _ 9 _ _ ho2
  simp at r0_ho2 r1_ho2 r2_ho2 r3_ho2 r4_ho2 r5_ho2 r6_ho2 r7_ho2 r8_ho2 r9_ho2
  have HR2 := Lib.hid hr2
  clear ha2 hr2 ho2 hO2 HA HR HO HO1
  go_wp2_with fail
  apply bodyPost_ret (results_cell_row (P := Try.prog) (fn := Try.f31) rfl _ _ _ 29 _ (0, 0) _ rfl _ Try.underlying29 rfl _) rfl
  rotate_left 2
  · repeat (first | (with_reducible apply heap_setCell_same) | (with_reducible apply drew_row) | (with_reducible apply drewN_row) | (with_reducible exact HR2.out) | (with_reducible refine (heap_setCell_other _ _ _ _ (by first | omega | (simp; done) | (simp; omega))).trans ?_) | (with_reducible refine (Below.heap_alloc _ _ _ (by first | omega | (simp; done) | (simp; omega))).trans ?_))
  · kernel_rfl
  exact ⟨_, _, by simp, OwnE.mono (base := w.heap.size + 3) (by repeat (first | with_reducible exact HP1.out | (with_reducible refine OwnE.setBelow ?_ (by first | (simp; done) | (simp; omega)) _) | with_reducible refine OwnE.alloc ?_ _ | with_reducible refine OwnE.drew ?_)) (by omega), OwnE.mono (base := w1.heap.size) (by repeat (first | with_reducible exact HO2.out | (with_reducible refine OwnE.setBelow ?_ (by first | (simp; done) | (simp; omega)) _) | with_reducible refine OwnE.alloc ?_ _ | with_reducible refine OwnE.drew ?_)) (by omega), hap.out, (by repeat (first | with_reducible exact Below.refl _ _ | with_reducible assumption | with_reducible refine Below.drew ?_ | with_reducible refine Below.alloc ?_ (by first | exact Nat.le_refl _ | omega | (simp; done) | (simp; omega)) _ | with_reducible refine Below.setCell ?_ (by first | exact Nat.le_refl _ | omega | (simp; done) | (simp; omega)) _ | (with_reducible refine ext_trans ?_ (by with_reducible assumption))))⟩
/-- What the measure of keys says. -/
def SzKeys (x : RKeys) (left : Int) (w : World) (e : Ending) (w' : World) : Prop :=
  ∃ y : Int, e = .returned (.int .i64 y) ∧ (-1 ≤ y ∧ y ≤ left) ∧ Hid (0 ≤ y → (x.now.rs.length : Int) + (x.bef.rs.length : Int) + y ≤ left) ∧ Below w.heap.size w w'
theorem szKeys_any (x : RKeys) (v1 v2 : Value) (f1 : FitMacRow x.now.rs) (f2 : FitMacRow x.bef.rs) (n1 : x.now.rs.length ≤ maxLen) (n2 : x.bef.rs.length ≤ maxLen) (left : Int) (g1 : 0 ≤ left) (g2 : left ≤ 1048576) (w : World) (h1 : RdMacRow w v1 x.now.rs) (h2 : RdMacRow w v2 x.bef.rs) :
    Calls Try.prog 30 #[vK x v1 v2, .int .i64 left] w (SzKeys x left w) := by
  obtain ⟨A1, c1, rfl, -⟩ := id h1
  obtain ⟨A2, c2, rfl, -⟩ := id h2
  have H1 := Lib.hid h1
  have H2 := Lib.hid h2
  have N1 := Lib.hid n1
  have N2 := Lib.hid n2
  have F1 := Lib.hid f1
  have F2 := Lib.hid f2
  clear h1 h2 n1 n2 f1 f2
  go_enter Try.func30, Try.ntmps30
  go_wp2_with fail
  refine (szMac_any _ _ _ _ x.now.rs F1.out N1.out left g1 g2 _ (H1.out.below (by repeat (first | with_reducible exact Below.refl _ _ | with_reducible assumption | with_reducible refine Below.drew ?_ | with_reducible refine Below.alloc ?_ (by first | exact Nat.le_refl _ | omega | (simp; done) | (simp; omega)) _ | with_reducible refine Below.setCell ?_ (by first | exact Nat.le_refl _ | omega | (simp; done) | (simp; omega)) _ | (with_reducible refine ext_trans ?_ (by with_reducible assumption)))))).mono ?_
  rintro e w1 ⟨y1, rfl, ⟨hy1, hy2⟩, hy3, hb1⟩
  have hz1 := hb1.size
  simp at hz1
  have ha : w1.heap[w.heap.size]? = some (.cells #[.int .i64 x.ep, .bool x.now.u, .int .u64 (uI x.now.k), .int .u64 (uI x.now.l), .slice A1 x.now.rs.length c1, .bool x.bef.u, .int .u64 (uI x.bef.k), .int .u64 (uI x.bef.l), .slice A2 x.bef.rs.length c2, .bool x.two] 55 (0, 0)) := (hb1.block _ (by first | (simp; done) | (simp; omega))).trans (by repeat (first | exact heap_new _ _ _ (by first | rfl | (simp; done) | (simp; omega)) | refine (Below.heap_alloc _ _ _ (by first | omega | (simp; done) | (simp; omega))).trans ?_))
  have r0_ha := cell_of_row _ _ 0 _ _ _ ha
  have r1_ha := cell_of_row _ _ 1 _ _ _ ha
  have r2_ha := cell_of_row _ _ 2 _ _ _ ha
  have r3_ha := cell_of_row _ _ 3 _ _ _ ha
  have r4_ha := cell_of_row _ _ 4 _ _ _ ha
  have r5_ha := cell_of_row _ _ 5 _ _ _ ha
  have r6_ha := cell_of_row _ _ 6 _ _ _ ha
  have r7_ha := cell_of_row _ _ 7 _ _ _ ha
  have r8_ha := cell_of_row _ _ 8 _ _ _ ha
  have r9_ha := cell_of_row _ _ 9 _ _ _ ha
  have f0_ha := frozen_of_row _ _ 0 _ _ ha
  have f1_ha := frozen_of_row _ _ 1 _ _ ha
  have f2_ha := frozen_of_row _ _ 2 _ _ ha
  have f3_ha := frozen_of_row _ _ 3 _ _ ha
  have f4_ha := frozen_of_row _ _ 4 _ _ ha
  have f5_ha := frozen_of_row _ _ 5 _ _ ha
  have f6_ha := frozen_of_row _ _ 6 _ _ ha
  have f7_ha := frozen_of_row _ _ 7 _ _ ha
  have f8_ha := frozen_of_row _ _ 8 _ _ ha
  have f9_ha := frozen_of_row _ _ 9 _ _ ha
  simp at r0_ha r1_ha r2_ha r3_ha r4_ha r5_ha r6_ha r7_ha r8_ha r9_ha
  clear ha
  by_cases hy : y1 < 0
  · go_wp2_with fail
    go_ret
    exact ⟨_, rfl, ⟨by omega, by omega⟩, (fun h => absurd h (by omega) : (0 : Int) ≤ -1 → _), (by repeat (first | with_reducible exact Below.refl _ _ | with_reducible assumption | with_reducible refine Below.drew ?_ | with_reducible refine Below.alloc ?_ (by first | exact Nat.le_refl _ | omega | (simp; done) | (simp; omega)) _ | with_reducible refine Below.setCell ?_ (by first | exact Nat.le_refl _ | omega | (simp; done) | (simp; omega)) _ | (with_reducible refine ext_trans ?_ (by with_reducible assumption))))⟩
  go_wp2_with fail
  refine (szMac_any _ _ _ _ x.bef.rs F2.out N2.out y1 (by omega) (by omega) _ (H2.out.below (by repeat (first | with_reducible exact Below.refl _ _ | with_reducible assumption | with_reducible refine Below.drew ?_ | with_reducible refine Below.alloc ?_ (by first | exact Nat.le_refl _ | omega | (simp; done) | (simp; omega)) _ | with_reducible refine Below.setCell ?_ (by first | exact Nat.le_refl _ | omega | (simp; done) | (simp; omega)) _ | (with_reducible refine ext_trans ?_ (by with_reducible assumption)))))).mono ?_
  rintro e w2 ⟨y2, rfl, ⟨hy4, hy5⟩, hy6, hb2⟩
  by_cases hyy : y2 < 0
  · go_wp2_with fail
    go_ret
    exact ⟨_, rfl, ⟨by omega, by omega⟩, (fun h => absurd h (by omega) : (0 : Int) ≤ -1 → _), (by repeat (first | with_reducible exact Below.refl _ _ | with_reducible assumption | with_reducible refine Below.drew ?_ | with_reducible refine Below.alloc ?_ (by first | exact Nat.le_refl _ | omega | (simp; done) | (simp; omega)) _ | with_reducible refine Below.setCell ?_ (by first | exact Nat.le_refl _ | omega | (simp; done) | (simp; omega)) _ | (with_reducible refine ext_trans ?_ (by with_reducible assumption))))⟩
  go_wp2_with fail
  go_ret
  exact ⟨_, rfl, ⟨by omega, by omega⟩, (fun h => by have := hy3.out (by omega); have := hy6.out (by omega); omega : (0 : Int) ≤ y2 → _), (by repeat (first | with_reducible exact Below.refl _ _ | with_reducible assumption | with_reducible refine Below.drew ?_ | with_reducible refine Below.alloc ?_ (by first | exact Nat.le_refl _ | omega | (simp; done) | (simp; omega)) _ | with_reducible refine Below.setCell ?_ (by first | exact Nat.le_refl _ | omega | (simp; done) | (simp; omega)) _ | (with_reducible refine ext_trans ?_ (by with_reducible assumption))))⟩
set_option maxHeartbeats 1000000 in
theorem eqKeys_same (x : RKeys) (v1 v2 v3 v4 : Value) (n1 : x.now.rs.length ≤ maxLen) (n2 : x.bef.rs.length ≤ maxLen) (w : World) (h1 : RdMacRow w v1 x.now.rs) (h2 : RdMacRow w v2 x.bef.rs) (h3 : RdMacRow w v3 x.now.rs) (h4 : RdMacRow w v4 x.bef.rs) :
    Calls Try.prog 33 #[vK x v1 v2, vK x v3 v4] w fun e w' => e = .returned (.bool true) ∧ Below w.heap.size w w' := by
  obtain ⟨A1, c1, rfl, -⟩ := id h1
  obtain ⟨A2, c2, rfl, -⟩ := id h2
  obtain ⟨A3, c3, rfl, -⟩ := id h3
  obtain ⟨A4, c4, rfl, -⟩ := id h4
  have H1 := Lib.hid h1
  have H2 := Lib.hid h2
  have H3 := Lib.hid h3
  have H4 := Lib.hid h4
  have N1 := Lib.hid n1
  have N2 := Lib.hid n2
  clear h1 h2 h3 h4 n1 n2
  go_enter Try.func33, Try.ntmps33
  go_wp2_with fail
  refine (eqMac_same _ _ _ _ _ x.now.rs N1.out _ (H1.out.below (by repeat (first | with_reducible exact Below.refl _ _ | with_reducible assumption | with_reducible refine Below.drew ?_ | with_reducible refine Below.alloc ?_ (by first | exact Nat.le_refl _ | omega | (simp; done) | (simp; omega)) _ | with_reducible refine Below.setCell ?_ (by first | exact Nat.le_refl _ | omega | (simp; done) | (simp; omega)) _ | (with_reducible refine ext_trans ?_ (by with_reducible assumption))))) (H3.out.below (by repeat (first | with_reducible exact Below.refl _ _ | with_reducible assumption | with_reducible refine Below.drew ?_ | with_reducible refine Below.alloc ?_ (by first | exact Nat.le_refl _ | omega | (simp; done) | (simp; omega)) _ | with_reducible refine Below.setCell ?_ (by first | exact Nat.le_refl _ | omega | (simp; done) | (simp; omega)) _ | (with_reducible refine ext_trans ?_ (by with_reducible assumption)))))).mono ?_
  rintro e w1 ⟨rfl, hb1⟩
  have hz1 := hb1.size
  simp at hz1
  have ha : w1.heap[w.heap.size]? = some (.cells #[.int .i64 x.ep, .bool x.now.u, .int .u64 (uI x.now.k), .int .u64 (uI x.now.l), .slice A1 x.now.rs.length c1, .bool x.bef.u, .int .u64 (uI x.bef.k), .int .u64 (uI x.bef.l), .slice A2 x.bef.rs.length c2, .bool x.two] 29 (0, 0)) := (hb1.block _ (by first | (simp; done) | (simp; omega))).trans (by repeat (first | exact heap_new _ _ _ (by first | rfl | (simp; done) | (simp; omega)) | refine (Below.heap_alloc _ _ _ (by first | omega | (simp; done) | (simp; omega))).trans ?_))
  have hc : w1.heap[w.heap.size + 1]? = some (.cells #[.int .i64 x.ep, .bool x.now.u, .int .u64 (uI x.now.k), .int .u64 (uI x.now.l), .slice A3 x.now.rs.length c3, .bool x.bef.u, .int .u64 (uI x.bef.k), .int .u64 (uI x.bef.l), .slice A4 x.bef.rs.length c4, .bool x.two] 29 (0, 0)) := (hb1.block _ (by first | (simp; done) | (simp; omega))).trans (by repeat (first | exact heap_new _ _ _ (by first | rfl | (simp; done) | (simp; omega)) | refine (Below.heap_alloc _ _ _ (by first | omega | (simp; done) | (simp; omega))).trans ?_))
  have r0_ha := cell_of_row _ _ 0 _ _ _ ha
  have r1_ha := cell_of_row _ _ 1 _ _ _ ha
  have r2_ha := cell_of_row _ _ 2 _ _ _ ha
  have r3_ha := cell_of_row _ _ 3 _ _ _ ha
  have r4_ha := cell_of_row _ _ 4 _ _ _ ha
  have r5_ha := cell_of_row _ _ 5 _ _ _ ha
  have r6_ha := cell_of_row _ _ 6 _ _ _ ha
  have r7_ha := cell_of_row _ _ 7 _ _ _ ha
  have r8_ha := cell_of_row _ _ 8 _ _ _ ha
  have r9_ha := cell_of_row _ _ 9 _ _ _ ha
  have f0_ha := frozen_of_row _ _ 0 _ _ ha
  have f1_ha := frozen_of_row _ _ 1 _ _ ha
  have f2_ha := frozen_of_row _ _ 2 _ _ ha
  have f3_ha := frozen_of_row _ _ 3 _ _ ha
  have f4_ha := frozen_of_row _ _ 4 _ _ ha
  have f5_ha := frozen_of_row _ _ 5 _ _ ha
  have f6_ha := frozen_of_row _ _ 6 _ _ ha
  have f7_ha := frozen_of_row _ _ 7 _ _ ha
  have f8_ha := frozen_of_row _ _ 8 _ _ ha
  have f9_ha := frozen_of_row _ _ 9 _ _ ha
  simp at r0_ha r1_ha r2_ha r3_ha r4_ha r5_ha r6_ha r7_ha r8_ha r9_ha
  have r0_hc := cell_of_row _ _ 0 _ _ _ hc
  have r1_hc := cell_of_row _ _ 1 _ _ _ hc
  have r2_hc := cell_of_row _ _ 2 _ _ _ hc
  have r3_hc := cell_of_row _ _ 3 _ _ _ hc
  have r4_hc := cell_of_row _ _ 4 _ _ _ hc
  have r5_hc := cell_of_row _ _ 5 _ _ _ hc
  have r6_hc := cell_of_row _ _ 6 _ _ _ hc
  have r7_hc := cell_of_row _ _ 7 _ _ _ hc
  have r8_hc := cell_of_row _ _ 8 _ _ _ hc
  have r9_hc := cell_of_row _ _ 9 _ _ _ hc
  have f0_hc := frozen_of_row _ _ 0 _ _ hc
  have f1_hc := frozen_of_row _ _ 1 _ _ hc
  have f2_hc := frozen_of_row _ _ 2 _ _ hc
  have f3_hc := frozen_of_row _ _ 3 _ _ hc
  have f4_hc := frozen_of_row _ _ 4 _ _ hc
  have f5_hc := frozen_of_row _ _ 5 _ _ hc
  have f6_hc := frozen_of_row _ _ 6 _ _ hc
  have f7_hc := frozen_of_row _ _ 7 _ _ hc
  have f8_hc := frozen_of_row _ _ 8 _ _ hc
  have f9_hc := frozen_of_row _ _ 9 _ _ hc
  simp at r0_hc r1_hc r2_hc r3_hc r4_hc r5_hc r6_hc r7_hc r8_hc r9_hc
  have HA := Lib.hid ha
  have HC := Lib.hid hc
  clear ha hc
  go_wp2_with fail
  refine (eqMac_same _ _ _ _ _ x.bef.rs N2.out _ (H2.out.below (by repeat (first | with_reducible exact Below.refl _ _ | with_reducible assumption | with_reducible refine Below.drew ?_ | with_reducible refine Below.alloc ?_ (by first | exact Nat.le_refl _ | omega | (simp; done) | (simp; omega)) _ | with_reducible refine Below.setCell ?_ (by first | exact Nat.le_refl _ | omega | (simp; done) | (simp; omega)) _ | (with_reducible refine ext_trans ?_ (by with_reducible assumption))))) (H4.out.below (by repeat (first | with_reducible exact Below.refl _ _ | with_reducible assumption | with_reducible refine Below.drew ?_ | with_reducible refine Below.alloc ?_ (by first | exact Nat.le_refl _ | omega | (simp; done) | (simp; omega)) _ | with_reducible refine Below.setCell ?_ (by first | exact Nat.le_refl _ | omega | (simp; done) | (simp; omega)) _ | (with_reducible refine ext_trans ?_ (by with_reducible assumption)))))).mono ?_
  rintro e w2 ⟨rfl, hb2⟩
  have hz2 := hb2.size
  (try simp at hz2)
  have ha2 : w2.heap[w.heap.size]? = some (.cells #[.int .i64 x.ep, .bool x.now.u, .int .u64 (uI x.now.k), .int .u64 (uI x.now.l), .slice A1 x.now.rs.length c1, .bool x.bef.u, .int .u64 (uI x.bef.k), .int .u64 (uI x.bef.l), .slice A2 x.bef.rs.length c2, .bool x.two] 29 (0, 0)) := (hb2.block _ (by first | omega | (simp; done) | (simp; omega))).trans HA.out
  have hc2 : w2.heap[w.heap.size + 1]? = some (.cells #[.int .i64 x.ep, .bool x.now.u, .int .u64 (uI x.now.k), .int .u64 (uI x.now.l), .slice A3 x.now.rs.length c3, .bool x.bef.u, .int .u64 (uI x.bef.k), .int .u64 (uI x.bef.l), .slice A4 x.bef.rs.length c4, .bool x.two] 29 (0, 0)) := (hb2.block _ (by first | omega | (simp; done) | (simp; omega))).trans HC.out
  have r0_ha2 := cell_of_row _ _ 0 _ _ _ ha2
  have r1_ha2 := cell_of_row _ _ 1 _ _ _ ha2
  have r2_ha2 := cell_of_row _ _ 2 _ _ _ ha2
  have r3_ha2 := cell_of_row _ _ 3 _ _ _ ha2
  have r4_ha2 := cell_of_row _ _ 4 _ _ _ ha2
  have r5_ha2 := cell_of_row _ _ 5 _ _ _ ha2
  have r6_ha2 := cell_of_row _ _ 6 _ _ _ ha2
  have r7_ha2 := cell_of_row _ _ 7 _ _ _ ha2
  have r8_ha2 := cell_of_row _ _ 8 _ _ _ ha2
  have r9_ha2 := cell_of_row _ _ 9 _ _ _ ha2
  have f0_ha2 := frozen_of_row _ _ 0 _ _ ha2
  have f1_ha2 := frozen_of_row _ _ 1 _ _ ha2
  have f2_ha2 := frozen_of_row _ _ 2 _ _ ha2
  have f3_ha2 := frozen_of_row _ _ 3 _ _ ha2
  have f4_ha2 := frozen_of_row _ _ 4 _ _ ha2
  have f5_ha2 := frozen_of_row _ _ 5 _ _ ha2
  have f6_ha2 := frozen_of_row _ _ 6 _ _ ha2
  have f7_ha2 := frozen_of_row _ _ 7 _ _ ha2
  have f8_ha2 := frozen_of_row _ _ 8 _ _ ha2
  have f9_ha2 := frozen_of_row _ _ 9 _ _ ha2
  simp at r0_ha2 r1_ha2 r2_ha2 r3_ha2 r4_ha2 r5_ha2 r6_ha2 r7_ha2 r8_ha2 r9_ha2
  have r0_hc2 := cell_of_row _ _ 0 _ _ _ hc2
  have r1_hc2 := cell_of_row _ _ 1 _ _ _ hc2
  have r2_hc2 := cell_of_row _ _ 2 _ _ _ hc2
  have r3_hc2 := cell_of_row _ _ 3 _ _ _ hc2
  have r4_hc2 := cell_of_row _ _ 4 _ _ _ hc2
  have r5_hc2 := cell_of_row _ _ 5 _ _ _ hc2
  have r6_hc2 := cell_of_row _ _ 6 _ _ _ hc2
  have r7_hc2 := cell_of_row _ _ 7 _ _ _ hc2
  have r8_hc2 := cell_of_row _ _ 8 _ _ _ hc2
  have r9_hc2 := cell_of_row _ _ 9 _ _ _ hc2
  have f0_hc2 := frozen_of_row _ _ 0 _ _ hc2
  have f1_hc2 := frozen_of_row _ _ 1 _ _ hc2
  have f2_hc2 := frozen_of_row _ _ 2 _ _ hc2
  have f3_hc2 := frozen_of_row _ _ 3 _ _ hc2
  have f4_hc2 := frozen_of_row _ _ 4 _ _ hc2
  have f5_hc2 := frozen_of_row _ _ 5 _ _ hc2
  have f6_hc2 := frozen_of_row _ _ 6 _ _ hc2
  have f7_hc2 := frozen_of_row _ _ 7 _ _ hc2
  have f8_hc2 := frozen_of_row _ _ 8 _ _ hc2
  have f9_hc2 := frozen_of_row _ _ 9 _ _ hc2
  simp at r0_hc2 r1_hc2 r2_hc2 r3_hc2 r4_hc2 r5_hc2 r6_hc2 r7_hc2 r8_hc2 r9_hc2
  go_wp2_with fail
  go_ret
  exact ⟨rfl, (by repeat (first | with_reducible exact Below.refl _ _ | with_reducible assumption | with_reducible refine Below.drew ?_ | with_reducible refine Below.alloc ?_ (by first | exact Nat.le_refl _ | omega | (simp; done) | (simp; omega)) _ | with_reducible refine Below.setCell ?_ (by first | exact Nat.le_refl _ | omega | (simp; done) | (simp; omega)) _ | (with_reducible refine ext_trans ?_ (by with_reducible assumption))))⟩
theorem marks_ne {l : List RMacRow} {k : Nat} (h : marksMacRow l.length k ≠ []) : l ≠ [] := by
  rintro rfl
  exact h rfl
/-- What marking keys leaves. -/
def MarkedKeys (x : RKeys) (v1 v2 : Value) (q b1 b2 : Nat) (w : World) (e : Ending) (w' : World) : Prop :=
  e = .returned (.int .i64 ((q + 2 * x.now.rs.length + 2 * x.bef.rs.length : Nat) : Int)) ∧ OwnMacRow w' b1 v1 (marksMacRow x.now.rs.length q) ∧ OwnMacRow w' b2 v2 (marksMacRow x.bef.rs.length (q + 2 * x.now.rs.length)) ∧
    ∃ wm, w.grownBy wm (chg v1 (marksMacRow x.now.rs.length q)) ∧ wm.grownBy w' (chg v2 (marksMacRow x.bef.rs.length (q + 2 * x.now.rs.length)))
theorem markKeys_any (x : RKeys) (v1 v2 : Value) (n1 : x.now.rs.length ≤ 1048576) (n2 : x.bef.rs.length ≤ 1048576) (q : Nat) (hk1 : 1 ≤ q) (hk2 : q ≤ 90000000) (b1 b2 : Nat) (w : World) (h1 : OwnMacRow w b1 v1 x.now.rs) (h2 : OwnMacRow w b2 v2 x.bef.rs) (hap : x.now.rs ≠ [] → x.bef.rs ≠ [] → v1.ownBlock ≠ v2.ownBlock) :
    Calls Try.prog 35 #[vK x v1 v2, .int .i64 q] w (MarkedKeys x v1 v2 q b1 b2 w) := by
  obtain ⟨A1, c1, rfl⟩ := h1.form
  obtain ⟨A2, c2, rfl⟩ := h2.form
  have H1 := Lib.hid h1
  have H2 := Lib.hid h2
  have HAP := Lib.hid hap
  clear h1 h2 hap
  go_enter Try.func35, Try.ntmps35
  go_wp2_with fail
  refine (markMac_any _ _ _ _ x.now.rs n1 q hk1 (by omega) b1 _ (H1.out.below (by repeat (first | with_reducible exact Below.refl _ _ | with_reducible assumption | with_reducible refine Below.drew ?_ | with_reducible refine Below.alloc ?_ (by first | exact Nat.le_refl _ | omega | (simp; done) | (simp; omega)) _ | with_reducible refine Below.setCell ?_ (by first | exact Nat.le_refl _ | omega | (simp; done) | (simp; omega)) _ | (with_reducible refine ext_trans ?_ (by with_reducible assumption)))))).mono ?_
  rintro e w1 ⟨rfl, hO1, hg1⟩
  have hz1 := hg1.size
  simp at hz1
  have hbw0 : Below w.heap.size w (w.alloc (.cells #[.int .i64 x.ep, .bool x.now.u, .int .u64 (uI x.now.k), .int .u64 (uI x.now.l), .slice A1 x.now.rs.length c1, .bool x.bef.u, .int .u64 (uI x.bef.k), .int .u64 (uI x.bef.l), .slice A2 x.bef.rs.length c2, .bool x.two] 29)) := (by repeat (first | with_reducible exact Below.refl _ _ | with_reducible assumption | with_reducible refine Below.drew ?_ | with_reducible refine Below.alloc ?_ (by first | exact Nat.le_refl _ | omega | (simp; done) | (simp; omega)) _ | with_reducible refine Below.setCell ?_ (by first | exact Nat.le_refl _ | omega | (simp; done) | (simp; omega)) _ | (with_reducible refine ext_trans ?_ (by with_reducible assumption))))
  have ha : w1.heap[w.heap.size]? = some (.cells #[.int .i64 x.ep, .bool x.now.u, .int .u64 (uI x.now.k), .int .u64 (uI x.now.l), .slice A1 x.now.rs.length c1, .bool x.bef.u, .int .u64 (uI x.bef.k), .int .u64 (uI x.bef.l), .slice A2 x.bef.rs.length c2, .bool x.two] 29 (0, 0)) := (box_kept H1.out (marksMacRow_len _ _) hg1 (.inr (Nat.le_refl _)) (by simp)).trans (by repeat (first | exact heap_new _ _ _ (by first | rfl | (simp; done) | (simp; omega)) | refine (Below.heap_alloc _ _ _ (by first | omega | (simp; done) | (simp; omega))).trans ?_))
  have HO1 := Lib.hid hO1
  have HG1 := Lib.hid (only_trans' (grown_below hbw0 _) hg1)
  have H2' := Lib.hid (OwnE.apart (H2.out.below hbw0) hg1 (fun h h' hh => HAP.out (marks_ne h') h hh.symm))
  clear hO1 hg1 hbw0
  have r0_ha := cell_of_row _ _ 0 _ _ _ ha
  have r1_ha := cell_of_row _ _ 1 _ _ _ ha
  have r2_ha := cell_of_row _ _ 2 _ _ _ ha
  have r3_ha := cell_of_row _ _ 3 _ _ _ ha
  have r4_ha := cell_of_row _ _ 4 _ _ _ ha
  have r5_ha := cell_of_row _ _ 5 _ _ _ ha
  have r6_ha := cell_of_row _ _ 6 _ _ _ ha
  have r7_ha := cell_of_row _ _ 7 _ _ _ ha
  have r8_ha := cell_of_row _ _ 8 _ _ _ ha
  have r9_ha := cell_of_row _ _ 9 _ _ _ ha
  have f0_ha := frozen_of_row _ _ 0 _ _ ha
  have f1_ha := frozen_of_row _ _ 1 _ _ ha
  have f2_ha := frozen_of_row _ _ 2 _ _ ha
  have f3_ha := frozen_of_row _ _ 3 _ _ ha
  have f4_ha := frozen_of_row _ _ 4 _ _ ha
  have f5_ha := frozen_of_row _ _ 5 _ _ ha
  have f6_ha := frozen_of_row _ _ 6 _ _ ha
  have f7_ha := frozen_of_row _ _ 7 _ _ ha
  have f8_ha := frozen_of_row _ _ 8 _ _ ha
  have f9_ha := frozen_of_row _ _ 9 _ _ ha
  simp at r0_ha r1_ha r2_ha r3_ha r4_ha r5_ha r6_ha r7_ha r8_ha r9_ha
  clear ha
  go_wp2_with fail
  refine (markMac_any _ _ _ _ x.bef.rs n2 (q + 2 * x.now.rs.length) (by omega) (by omega) b2 _ H2'.out).mono ?_
  rintro e w2 ⟨rfl, hO2, hg2⟩
  have HO2 := Lib.hid hO2
  have HG2 := Lib.hid hg2
  clear hO2 hg2
  go_wp2_with fail
  go_ret
  exact ⟨rfl, OwnE.apart HO1.out HG2.out (fun h h' hh => HAP.out (marks_ne h) (marks_ne h') hh), HO2.out, _, HG1.out, HG2.out⟩
theorem heldKeys_any (x : RKeys) (v1 v2 : Value) (n1 n2 : Nat) (hn1 : n1 ≤ 1048576) (hn2 : n2 ≤ 1048576) (q : Nat) (hk1 : 1 ≤ q) (hk2 : q ≤ 90000000) (w : World) (h1 : Rd w w.heap.size v1 n1 (cellsOf eMacRow (marksMacRow n1 q))) (h2 : Rd w w.heap.size v2 n2 (cellsOf eMacRow (marksMacRow n2 (q + 2 * n1)))) :
    Calls Try.prog 42 #[vK x v1 v2, .int .i64 q] w fun e w' => e = .returned (.int .i64 ((q + 2 * n1 + 2 * n2 : Nat) : Int)) ∧ Below w.heap.size w w' := by
  obtain ⟨A1, c1, rfl, -⟩ := id h1
  obtain ⟨A2, c2, rfl, -⟩ := id h2
  have H1 := Lib.hid h1
  have H2 := Lib.hid h2
  clear h1 h2
  go_enter Try.func42, Try.ntmps42
  go_wp2_with fail
  refine (heldMac_any _ _ _ _ n1 hn1 q hk1 (by omega) _ (H1.out.below (by repeat (first | with_reducible exact Below.refl _ _ | with_reducible assumption | with_reducible refine Below.drew ?_ | with_reducible refine Below.alloc ?_ (by first | exact Nat.le_refl _ | omega | (simp; done) | (simp; omega)) _ | with_reducible refine Below.setCell ?_ (by first | exact Nat.le_refl _ | omega | (simp; done) | (simp; omega)) _ | (with_reducible refine ext_trans ?_ (by with_reducible assumption)))))).mono ?_
  rintro e w1 ⟨rfl, hb1⟩
  have hz1 := hb1.size
  simp at hz1
  have ha : w1.heap[w.heap.size]? = some (.cells #[.int .i64 x.ep, .bool x.now.u, .int .u64 (uI x.now.k), .int .u64 (uI x.now.l), .slice A1 n1 c1, .bool x.bef.u, .int .u64 (uI x.bef.k), .int .u64 (uI x.bef.l), .slice A2 n2 c2, .bool x.two] 29 (0, 0)) := (hb1.block _ (by first | (simp; done) | (simp; omega))).trans (by repeat (first | exact heap_new _ _ _ (by first | rfl | (simp; done) | (simp; omega)) | refine (Below.heap_alloc _ _ _ (by first | omega | (simp; done) | (simp; omega))).trans ?_))
  have r0_ha := cell_of_row _ _ 0 _ _ _ ha
  have r1_ha := cell_of_row _ _ 1 _ _ _ ha
  have r2_ha := cell_of_row _ _ 2 _ _ _ ha
  have r3_ha := cell_of_row _ _ 3 _ _ _ ha
  have r4_ha := cell_of_row _ _ 4 _ _ _ ha
  have r5_ha := cell_of_row _ _ 5 _ _ _ ha
  have r6_ha := cell_of_row _ _ 6 _ _ _ ha
  have r7_ha := cell_of_row _ _ 7 _ _ _ ha
  have r8_ha := cell_of_row _ _ 8 _ _ _ ha
  have r9_ha := cell_of_row _ _ 9 _ _ _ ha
  have f0_ha := frozen_of_row _ _ 0 _ _ ha
  have f1_ha := frozen_of_row _ _ 1 _ _ ha
  have f2_ha := frozen_of_row _ _ 2 _ _ ha
  have f3_ha := frozen_of_row _ _ 3 _ _ ha
  have f4_ha := frozen_of_row _ _ 4 _ _ ha
  have f5_ha := frozen_of_row _ _ 5 _ _ ha
  have f6_ha := frozen_of_row _ _ 6 _ _ ha
  have f7_ha := frozen_of_row _ _ 7 _ _ ha
  have f8_ha := frozen_of_row _ _ 8 _ _ ha
  have f9_ha := frozen_of_row _ _ 9 _ _ ha
  simp at r0_ha r1_ha r2_ha r3_ha r4_ha r5_ha r6_ha r7_ha r8_ha r9_ha
  clear ha
  have hq : ¬ (((q + 2 * n1 : Nat) : Int) < 0) := by omega
  go_wp2_with fail
  refine (heldMac_any _ _ _ _ n2 hn2 (q + 2 * n1) (by omega) (by omega) _ (H2.out.below (by repeat (first | with_reducible exact Below.refl _ _ | with_reducible assumption | with_reducible refine Below.drew ?_ | with_reducible refine Below.alloc ?_ (by first | exact Nat.le_refl _ | omega | (simp; done) | (simp; omega)) _ | with_reducible refine Below.setCell ?_ (by first | exact Nat.le_refl _ | omega | (simp; done) | (simp; omega)) _ | (with_reducible refine ext_trans ?_ (by with_reducible assumption)))))).mono ?_
  rintro e w2 ⟨rfl, hb2⟩
  have hq : ¬ (((q + 2 * n1 + 2 * n2 : Nat) : Int) < 0) := by omega
  go_wp2_with fail
  go_ret
  exact ⟨rfl, (by repeat (first | with_reducible exact Below.refl _ _ | with_reducible assumption | with_reducible refine Below.drew ?_ | with_reducible refine Below.alloc ?_ (by first | exact Nat.le_refl _ | omega | (simp; done) | (simp; omega)) _ | with_reducible refine Below.setCell ?_ (by first | exact Nat.le_refl _ | omega | (simp; done) | (simp; omega)) _ | (with_reducible refine ext_trans ?_ (by with_reducible assumption))))⟩
end Go.Proofs.Ytjlnbjabehpncaa
