/-
  Contracts of the copies of a Mac and of Keys, of SameKeys and of KeysOk, the program's and the reference's.
-/
import Derived.Test.YtjlnbjabehpncaaKcs
import Derived.Laws.AppendOwnNone
namespace Go.Proofs.Ytjlnbjabehpncaa
set_option maxRecDepth 100000
open Go.RowKit

theorem cloneMac_any (m : RMac) (v : Value) (hn : m.rs.length ≤ 1048600) (w : World) (h : RdMacRow w v m.rs) :
    Calls Try.prog 60 #[vMc m v] w (NewMac m.u (uI m.k) (uI m.l) m.rs w) := by
  obtain ⟨A, c, rfl, -⟩ := id h
  have HH := Lib.hid h
  have HN := Lib.hid hn
  clear h hn
  go_enter Try.func60, Try.ntmps60
  go_wp2_with fail
  refine (CloneMacRow_any _ m.rs HN.out _ (HH.out.below (by repeat (first | with_reducible exact Below.refl _ _ | with_reducible assumption | with_reducible refine Below.drew ?_ | with_reducible refine Below.alloc ?_ (by first | exact Nat.le_refl _ | omega | (simp; done) | (simp; omega)) _ | with_reducible refine Below.setCell ?_ (by first | exact Nat.le_refl _ | omega | (simp; done) | (simp; omega)) _ | (with_reducible refine ext_trans ?_ (by with_reducible assumption)))))).mono ?_
  rintro e w1 ⟨v, rfl, hO, hb1⟩
  obtain ⟨A1, c1, rfl⟩ := hO.form
  have hz1 := hb1.size
  simp at hz1
  have ha : w1.heap[w.heap.size]? = some (.cells #[.bool m.u, .int .u64 (uI m.k), .int .u64 (uI m.l), .slice A m.rs.length c] 27 (0, 0)) := (hb1.block _ (by first | (simp; done) | (simp; omega))).trans (by repeat (first | exact heap_new _ _ _ (by first | rfl | (simp; done) | (simp; omega)) | refine (Below.heap_alloc _ _ _ (by first | omega | (simp; done) | (simp; omega))).trans ?_))
  have hr : w1.heap[w.heap.size + 1]? = some (.cells #[.bool false, .int .u64 0, .int .u64 0, .slice none 0 0] 27 (0, 0)) := (hb1.block _ (by first | (simp; done) | (simp; omega))).trans (by repeat (first | exact heap_new _ _ _ (by first | rfl | (simp; done) | (simp; omega)) | refine (Below.heap_alloc _ _ _ (by first | omega | (simp; done) | (simp; omega))).trans ?_))
  have HO : Hid (OwnMacRow w1 (w.heap.size + 2) (.slice A1 m.rs.length c1) m.rs) := hO.mono (by simp)
  have hl := (Array.getElem?_eq_some_iff.1 hr).1
  clear hO
  have r0_ha := cell_of_row _ _ 0 _ _ _ ha
  have r1_ha := cell_of_row _ _ 1 _ _ _ ha
  have r2_ha := cell_of_row _ _ 2 _ _ _ ha
  have r3_ha := cell_of_row _ _ 3 _ _ _ ha
  have f0_ha := frozen_of_row _ _ 0 _ _ ha
  have f1_ha := frozen_of_row _ _ 1 _ _ ha
  have f2_ha := frozen_of_row _ _ 2 _ _ ha
  have f3_ha := frozen_of_row _ _ 3 _ _ ha
  simp at r0_ha r1_ha r2_ha r3_ha
  have r0_hr := cell_of_row _ _ 0 _ _ _ hr
  have r1_hr := cell_of_row _ _ 1 _ _ _ hr
  have r2_hr := cell_of_row _ _ 2 _ _ _ hr
  have r3_hr := cell_of_row _ _ 3 _ _ _ hr
  have f0_hr := frozen_of_row _ _ 0 _ _ hr
  have f1_hr := frozen_of_row _ _ 1 _ _ hr
  have f2_hr := frozen_of_row _ _ 2 _ _ hr
  have f3_hr := frozen_of_row _ _ 3 _ _ hr
  simp at r0_hr r1_hr r2_hr r3_hr
  go_wp2_with fail
  apply bodyPost_ret (results_cell_row (P := Try.prog) (fn := Try.f60) rfl _ _ _ 27 _ (0, 0) _ rfl _ Try.underlying27 rfl _) rfl
  rotate_left 2
  · repeat (first | (with_reducible apply heap_setCell_same) | (with_reducible apply drew_row) | (with_reducible apply drewN_row) | (with_reducible exact hr) | (with_reducible refine (heap_setCell_other _ _ _ _ (by first | omega | (simp; done) | (simp; omega))).trans ?_) | (with_reducible refine (Below.heap_alloc _ _ _ (by first | omega | (simp; done) | (simp; omega))).trans ?_))
  · kernel_rfl
  exact ⟨_, by simp; rfl, OwnE.mono (base := w.heap.size + 2) (by repeat (first | with_reducible exact HO.out | (with_reducible refine OwnE.setBelow ?_ (by first | (simp; done) | (simp; omega)) _) | with_reducible refine OwnE.alloc ?_ _ | with_reducible refine OwnE.drew ?_)) (by omega), (by repeat (first | with_reducible exact Below.refl _ _ | with_reducible assumption | with_reducible refine Below.drew ?_ | with_reducible refine Below.alloc ?_ (by first | exact Nat.le_refl _ | omega | (simp; done) | (simp; omega)) _ | with_reducible refine Below.setCell ?_ (by first | exact Nat.le_refl _ | omega | (simp; done) | (simp; omega)) _ | (with_reducible refine ext_trans ?_ (by with_reducible assumption))))⟩

set_option maxHeartbeats 1000000 in
theorem l11Copy_any (m : RMac) (v : Value) (hn : m.rs.length ≤ 1048600) (w : World) (h : RdMacRow w v m.rs) :
    Calls Try.prog 65 #[vMc m v] w (NewMac m.u (uI m.k) (uI m.l) m.rs w) := by
  obtain ⟨i0, hi, hz0, hz1, hz2⟩ := info_parts info_MacRow
  obtain ⟨A, c, rfl, ⟨hc1, hc2, hc3⟩, -⟩ := id h
  unfold maxLen at hc2
  have HH := Lib.hid h
  clear h
  cases A with
  | none =>
    obtain rfl := hc3 rfl
    have h0 : m.rs = [] := List.eq_nil_of_length_eq_zero (by omega)
    obtain ⟨u, k, l, rs⟩ := m
    dsimp only at *
    subst h0
    clear hc1 hc2 hc3 HH
    go_enter Try.func65, Try.ntmps65
    go_wp2_with (refine wpList_append_own_none (by rfl) (.tmp 3) (.tmp 5) 25 (by rfl) (w.heap.size + 2) 87 i0 2 Try.underlying25 hi (.slice (some ⟨w.heap.size + 2, 0, none⟩) 0 0) 0 [] (by rfl) ?c1 (by rfl) ?_)
    case c1 =>
      have h := World.ownsRow_made (base := w.heap.size + 2) (e := 87) (size := 2) ((w.alloc (.cells #[.bool u, .int .u64 (uI k), .int .u64 (uI l), .slice none 0 0] 27)).alloc (.cells #[.bool false, .int .u64 0, .int .u64 0, .slice none 0 0] 27)) #[] 0 (by simp) (Nat.zero_le _) (by simp)
      rw [show ((w.alloc (.cells #[.bool u, .int .u64 (uI k), .int .u64 (uI l), .slice none 0 0] 27)).alloc (.cells #[.bool false, .int .u64 0, .int .u64 0, .slice none 0 0] 27)).heap.size = w.heap.size + 2 from by simp] at h
      exact h
    exact bodyPost_ret (v := vM u (uI k) (uI l) (.slice (some ⟨w.heap.size + 2, 0, none⟩) 0 0)) (by simp [results, Try.results65, go_sem]) rfl ⟨_, rfl, .inr ⟨rfl, _, _, rfl, Nat.zero_le _, fun h => by cases h⟩, (by repeat (first | with_reducible exact Below.refl _ _ | with_reducible assumption | with_reducible refine Below.drew ?_ | with_reducible refine Below.alloc ?_ (by first | exact Nat.le_refl _ | omega | (simp; done) | (simp; omega)) _ | with_reducible refine Below.setCell ?_ (by first | exact Nat.le_refl _ | omega | (simp; done) | (simp; omega)) _ | (with_reducible refine ext_trans ?_ (by with_reducible assumption))))⟩
  | some ad =>
    clear hc3
    go_enter Try.func65, Try.ntmps65
    go_wp2_with (refine wpList_append_own _ (by rfl) (.tmp 3) (.tmp 5) 25 (by rfl) (w.heap.size + 2) 87 i0 _ 2 24 Try.underlying25 hi hz0 hz1 hz2 (by rfl) (by omega) (.slice (some ⟨w.heap.size + 2, 0, none⟩) 0 0) 0 [] (by rfl) ?c1 ad m.rs.length c (cellsOf eMacRow m.rs) (by rfl) ?c2 ?c3 ?c4 ?c5 ?c6 ?c7 ?_)
    case c1 =>
      have h := World.ownsRow_made (base := w.heap.size + 2) (e := 87) (size := 2) ((w.alloc (.cells #[.bool m.u, .int .u64 (uI m.k), .int .u64 (uI m.l), .slice (some ad) m.rs.length c] 27)).alloc (.cells #[.bool false, .int .u64 0, .int .u64 0, .slice none 0 0] 27)) #[] 0 (by simp) (Nat.zero_le _) (by simp)
      rw [show ((w.alloc (.cells #[.bool m.u, .int .u64 (uI m.k), .int .u64 (uI m.l), .slice (some ad) m.rs.length c] 27)).alloc (.cells #[.bool false, .int .u64 0, .int .u64 0, .slice none 0 0] 27)).heap.size = w.heap.size + 2 from by simp] at h
      exact h
    case c2 => exact cells_len (m := 2) eMacRow_len m.rs
    case c3 => exact HH.out.newsMacRow (by repeat (first | with_reducible exact Below.refl _ _ | with_reducible assumption | with_reducible refine Below.drew ?_ | with_reducible refine Below.alloc ?_ (by first | exact Nat.le_refl _ | omega | (simp; done) | (simp; omega)) _ | with_reducible refine Below.setCell ?_ (by first | exact Nat.le_refl _ | omega | (simp; done) | (simp; omega)) _ | (with_reducible refine ext_trans ?_ (by with_reducible assumption))))
    case c4 => exact oneMacRow m.rs
    case c5 => unfold maxLen; omega
    case c6 => omega
    case c7 => simp
    intro v' w1 hown hgr _
    obtain ⟨A', c', rfl⟩ : ∃ A' c', v' = .slice A' m.rs.length c' := OwnE.form (enc := eMacRow) (.inl hown)
    have HO : Hid (OwnMacRow w1 (w.heap.size + 2) (.slice A' m.rs.length c') m.rs) := .inl hown
    have hb1 : Below (w.heap.size + 2) (((w.alloc (.cells #[.bool m.u, .int .u64 (uI m.k), .int .u64 (uI m.l), .slice (some ad) m.rs.length c] 27)).alloc (.cells #[.bool false, .int .u64 0, .int .u64 0, .slice none 0 0] 27)).alloc (.cells #[] 87)) w1 := Below.grown (Below.refl _ _) hgr (by simp) (by simp [Value.ownBlock])
    have ha : w1.heap[w.heap.size]? = some (.cells #[.bool m.u, .int .u64 (uI m.k), .int .u64 (uI m.l), .slice (some ad) m.rs.length c] 27 (0, 0)) := (hb1.block _ (by omega)).trans (by repeat (first | exact heap_new _ _ _ (by first | rfl | (simp; done) | (simp; omega)) | refine (Below.heap_alloc _ _ _ (by first | omega | (simp; done) | (simp; omega))).trans ?_))
    have hr : w1.heap[w.heap.size + 1]? = some (.cells #[.bool false, .int .u64 0, .int .u64 0, .slice none 0 0] 27 (0, 0)) := (hb1.block _ (by omega)).trans (by repeat (first | exact heap_new _ _ _ (by first | rfl | (simp; done) | (simp; omega)) | refine (Below.heap_alloc _ _ _ (by first | omega | (simp; done) | (simp; omega))).trans ?_))
    have hbw : Below w.heap.size w w1 := ((((Below.refl _ _).alloc (Nat.le_refl _) _).alloc (by simp) _).alloc (by simp; omega) _).trans (hb1.mono (by omega))
    have hlw := (Array.getElem?_eq_some_iff.1 hr).1
    clear hown hgr
    have r0_ha := cell_of_row _ _ 0 _ _ _ ha
    have r1_ha := cell_of_row _ _ 1 _ _ _ ha
    have r2_ha := cell_of_row _ _ 2 _ _ _ ha
    have r3_ha := cell_of_row _ _ 3 _ _ _ ha
    have f0_ha := frozen_of_row _ _ 0 _ _ ha
    have f1_ha := frozen_of_row _ _ 1 _ _ ha
    have f2_ha := frozen_of_row _ _ 2 _ _ ha
    have f3_ha := frozen_of_row _ _ 3 _ _ ha
    simp at r0_ha r1_ha r2_ha r3_ha
    have r0_hr := cell_of_row _ _ 0 _ _ _ hr
    have r1_hr := cell_of_row _ _ 1 _ _ _ hr
    have r2_hr := cell_of_row _ _ 2 _ _ _ hr
    have r3_hr := cell_of_row _ _ 3 _ _ _ hr
    have f0_hr := frozen_of_row _ _ 0 _ _ hr
    have f1_hr := frozen_of_row _ _ 1 _ _ hr
    have f2_hr := frozen_of_row _ _ 2 _ _ hr
    have f3_hr := frozen_of_row _ _ 3 _ _ hr
    simp at r0_hr r1_hr r2_hr r3_hr
    go_wp2_with fail
    apply bodyPost_ret (results_cell_row (P := Try.prog) (fn := Try.f65) rfl _ _ _ 27 _ (0, 0) _ rfl _ Try.underlying27 rfl _) rfl
    rotate_left 2
    · repeat (first | (with_reducible apply heap_setCell_same) | (with_reducible apply drew_row) | (with_reducible apply drewN_row) | (with_reducible exact hr) | (with_reducible refine (heap_setCell_other _ _ _ _ (by first | omega | (simp; done) | (simp; omega))).trans ?_) | (with_reducible refine (Below.heap_alloc _ _ _ (by first | omega | (simp; done) | (simp; omega))).trans ?_))
    · kernel_rfl
    exact ⟨_, by simp; rfl, OwnE.mono (base := w.heap.size + 2) (by repeat (first | with_reducible exact HO.out | (with_reducible refine OwnE.setBelow ?_ (by first | (simp; done) | (simp; omega)) _) | with_reducible refine OwnE.alloc ?_ _ | with_reducible refine OwnE.drew ?_)) (by omega), (by repeat (first | with_reducible exact Below.refl _ _ | with_reducible assumption | with_reducible refine Below.drew ?_ | with_reducible refine Below.alloc ?_ (by first | exact Nat.le_refl _ | omega | (simp; done) | (simp; omega)) _ | with_reducible refine Below.setCell ?_ (by first | exact Nat.le_refl _ | omega | (simp; done) | (simp; omega)) _ | (with_reducible refine ext_trans ?_ (by with_reducible assumption))))⟩

set_option maxHeartbeats 1000000 in
theorem cloneKeys_any (x : RKeys) (v1 v2 : Value) (n1 : x.now.rs.length ≤ 1048600) (n2 : x.bef.rs.length ≤ 1048600) (w : World) (h1 : RdMacRow w v1 x.now.rs) (h2 : RdMacRow w v2 x.bef.rs) :
    Calls Try.prog 59 #[vK x v1 v2] w (NewKeys x w) := by
  obtain ⟨A1, c1, rfl, -⟩ := id h1
  obtain ⟨A2, c2, rfl, -⟩ := id h2
  have H1 := Lib.hid h1
  have H2 := Lib.hid h2
  have N1 := Lib.hid n1
  have N2 := Lib.hid n2
  clear h1 h2 n1 n2
  go_enter Try.func59, Try.ntmps59
  go_wp2_with fail
  refine (cloneMac_any x.now _ N1.out _ (H1.out.below (by repeat (first | with_reducible exact Below.refl _ _ | with_reducible assumption | with_reducible refine Below.drew ?_ | with_reducible refine Below.alloc ?_ (by first | exact Nat.le_refl _ | omega | (simp; done) | (simp; omega)) _ | with_reducible refine Below.setCell ?_ (by first | exact Nat.le_refl _ | omega | (simp; done) | (simp; omega)) _ | (with_reducible refine ext_trans ?_ (by with_reducible assumption)))))).mono ?_
  rintro e w1 ⟨v3, rfl, hO1, hb1⟩
  obtain ⟨A3, c3, rfl⟩ := hO1.form
  have hz1 := hb1.size
  simp at hz1
  have ha : w1.heap[w.heap.size]? = some (.cells #[.int .i64 x.ep, .bool x.now.u, .int .u64 (uI x.now.k), .int .u64 (uI x.now.l), .slice A1 x.now.rs.length c1, .bool x.bef.u, .int .u64 (uI x.bef.k), .int .u64 (uI x.bef.l), .slice A2 x.bef.rs.length c2, .bool x.two] 29 (0, 0)) := (hb1.block _ (by first | (simp; done) | (simp; omega))).trans (by repeat (first | exact heap_new _ _ _ (by first | rfl | (simp; done) | (simp; omega)) | refine (Below.heap_alloc _ _ _ (by first | omega | (simp; done) | (simp; omega))).trans ?_))
  have hr : w1.heap[w.heap.size + 1]? = some (.cells #[.int .i64 0, .bool false, .int .u64 0, .int .u64 0, .slice none 0 0, .bool false, .int .u64 0, .int .u64 0, .slice none 0 0, .bool false] 29 (0, 0)) := (hb1.block _ (by first | (simp; done) | (simp; omega))).trans (by repeat (first | exact heap_new _ _ _ (by first | rfl | (simp; done) | (simp; omega)) | refine (Below.heap_alloc _ _ _ (by first | omega | (simp; done) | (simp; omega))).trans ?_))
  have HO1 : Hid (OwnMacRow w1 (w.heap.size + 2) (.slice A3 x.now.rs.length c3) x.now.rs) := hO1.mono (by simp)
  have hl1 : w.heap.size + 1 < w1.heap.size := by omega
  have r0_ha := cell_of_row _ _ 0 _ _ _ ha
  have r1_ha := cell_of_row _ _ 1 _ _ _ ha
  have r2_ha := cell_of_row _ _ 2 _ _ _ ha
  have r3_ha := cell_of_row _ _ 3 _ _ _ ha
  have r4_ha := cell_of_row _ _ 4 _ _ _ ha
  have r5_ha := cell_of_row _ _ 5 _ _ _ ha
  have r6_ha := cell_of_row _ _ 6 _ _ _ ha
  have r7_ha := cell_of_row _ _ 7 _ _ _ ha
  have r8_ha := cell_of_row _ _ 8 _ _ _ ha
  have r9_ha := cell_of_row _ _ 9 _ _ _ ha
  have f0_ha := frozen_of_row _ _ 0 _ _ ha
  have f1_ha := frozen_of_row _ _ 1 _ _ ha
  have f2_ha := frozen_of_row _ _ 2 _ _ ha
  have f3_ha := frozen_of_row _ _ 3 _ _ ha
  have f4_ha := frozen_of_row _ _ 4 _ _ ha
  have f5_ha := frozen_of_row _ _ 5 _ _ ha
  have f6_ha := frozen_of_row _ _ 6 _ _ ha
  have f7_ha := frozen_of_row _ _ 7 _ _ ha
  have f8_ha := frozen_of_row _ _ 8 _ _ ha
  have f9_ha := frozen_of_row _ _ 9 _ _ ha
  simp at r0_ha r1_ha r2_ha r3_ha r4_ha r5_ha r6_ha r7_ha r8_ha r9_ha
  have r0_hr := cell_of_row _ _ 0 _ _ _ hr
  have r1_hr := cell_of_row _ _ 1 _ _ _ hr
  have r2_hr := cell_of_row _ _ 2 _ _ _ hr
  have r3_hr := cell_of_row _ _ 3 _ _ _ hr
  have r4_hr := cell_of_row _ _ 4 _ _ _ hr
  have r5_hr := cell_of_row _ _ 5 _ _ _ hr
  have r6_hr := cell_of_row _ _ 6 _ _ _ hr
  have r7_hr := cell_of_row _ _ 7 _ _ _ hr
  have r8_hr := cell_of_row _ _ 8 _ _ _ hr
  have r9_hr := cell_of_row _ _ 9 _ _ _ hr
  have f0_hr := frozen_of_row _ _ 0 _ _ hr
  have f1_hr := frozen_of_row _ _ 1 _ _ hr
  have f2_hr := frozen_of_row _ _ 2 _ _ hr
  have f3_hr := frozen_of_row _ _ 3 _ _ hr
  have f4_hr := frozen_of_row _ _ 4 _ _ hr
  have f5_hr := frozen_of_row _ _ 5 _ _ hr
  have f6_hr := frozen_of_row _ _ 6 _ _ hr
  have f7_hr := frozen_of_row _ _ 7 _ _ hr
  have f8_hr := frozen_of_row _ _ 8 _ _ hr
  have f9_hr := frozen_of_row _ _ 9 _ _ hr
  simp at r0_hr r1_hr r2_hr r3_hr r4_hr r5_hr r6_hr r7_hr r8_hr r9_hr
  have HA := Lib.hid ha
  have HR := Lib.hid hr
  clear ha hr hO1
  go_wp2_with fail
  refine (cloneMac_any x.bef _ N2.out _ (H2.out.below (by repeat (first | with_reducible exact Below.refl _ _ | with_reducible assumption | with_reducible refine Below.drew ?_ | with_reducible refine Below.alloc ?_ (by first | exact Nat.le_refl _ | omega | (simp; done) | (simp; omega)) _ | with_reducible refine Below.setCell ?_ (by first | exact Nat.le_refl _ | omega | (simp; done) | (simp; omega)) _ | (with_reducible refine ext_trans ?_ (by with_reducible assumption)))))).mono ?_
  rintro e w2 ⟨v4, rfl, hO2, hb2⟩
  obtain ⟨A4, c4, rfl⟩ := hO2.form
  have hz2 := hb2.size
  simp at hz2
  have ha2 : w2.heap[w.heap.size]? = some (.cells #[.int .i64 x.ep, .bool x.now.u, .int .u64 (uI x.now.k), .int .u64 (uI x.now.l), .slice A3 x.now.rs.length c3, .bool x.bef.u, .int .u64 (uI x.bef.k), .int .u64 (uI x.bef.l), .slice A2 x.bef.rs.length c2, .bool x.two] 29 (0, 0)) := (hb2.block _ (by simp; omega)).trans ((heap_setCell_same _ _ 4 _ _ _ (heap_setCell_same _ _ 3 _ _ _ (heap_setCell_same _ _ 2 _ _ _ (heap_setCell_same _ _ 1 _ _ _ HA.out)))).trans (by simp))
  have hr2 : w2.heap[w.heap.size + 1]? = some (.cells #[.int .i64 0, .bool false, .int .u64 0, .int .u64 0, .slice none 0 0, .bool false, .int .u64 0, .int .u64 0, .slice none 0 0, .bool false] 29 (0, 0)) := (hb2.block _ (by simp; omega)).trans (by repeat (first | (with_reducible apply heap_setCell_same) | (with_reducible apply drew_row) | (with_reducible apply drewN_row) | (with_reducible exact HR.out) | (with_reducible refine (heap_setCell_other _ _ _ _ (by first | omega | (simp; done) | (simp; omega))).trans ?_) | (with_reducible refine (Below.heap_alloc _ _ _ (by first | omega | (simp; done) | (simp; omega))).trans ?_)))
  have HP1 : Hid (OwnMacRow w2 (w.heap.size + 2) (.slice A3 x.now.rs.length c3) x.now.rs) := OwnE.below (by repeat (first | with_reducible exact HO1.out | (with_reducible refine OwnE.setBelow ?_ (by first | (simp; done) | (simp; omega)) _) | with_reducible refine OwnE.alloc ?_ _ | with_reducible refine OwnE.drew ?_)) hb2
  have HO2 : Hid (OwnMacRow w2 w1.heap.size (.slice A4 x.bef.rs.length c4) x.bef.rs) := hO2.mono (by simp)
  have hap : Hid (x.now.rs ≠ [] → x.bef.rs ≠ [] → (Value.slice A3 x.now.rs.length c3).ownBlock ≠ (Value.slice A4 x.bef.rs.length c4).ownBlock) := fun h h' => own_ne HO1.out HO2.out (Nat.le_refl _) h h'
  have hl2 : w.heap.size + 1 < w2.heap.size := by omega
  have hbw : Below w.heap.size w w2 := (by repeat (first | with_reducible exact Below.refl _ _ | with_reducible assumption | with_reducible refine Below.drew ?_ | with_reducible refine Below.alloc ?_ (by first | exact Nat.le_refl _ | omega | (simp; done) | (simp; omega)) _ | with_reducible refine Below.setCell ?_ (by first | exact Nat.le_refl _ | omega | (simp; done) | (simp; omega)) _ | (with_reducible refine ext_trans ?_ (by with_reducible assumption))))
  clear r0_ha r1_ha r2_ha r3_ha r4_ha r5_ha r6_ha r7_ha r8_ha r9_ha r0_hr r1_hr r2_hr r3_hr r4_hr r5_hr r6_hr r7_hr r8_hr r9_hr
  clear f0_ha f1_ha f2_ha f3_ha f4_ha f5_ha f6_ha f7_ha f8_ha f9_ha f0_hr f1_hr f2_hr f3_hr f4_hr f5_hr f6_hr f7_hr f8_hr f9_hr
  have r0_ha2 := cell_of_row _ _ 0 _ _ _ ha2
  have r1_ha2 := cell_of_row _ _ 1 _ _ _ ha2
  have r2_ha2 := cell_of_row _ _ 2 _ _ _ ha2
  have r3_ha2 := cell_of_row _ _ 3 _ _ _ ha2
  have r4_ha2 := cell_of_row _ _ 4 _ _ _ ha2
  have r5_ha2 := cell_of_row _ _ 5 _ _ _ ha2
  have r6_ha2 := cell_of_row _ _ 6 _ _ _ ha2
  have r7_ha2 := cell_of_row _ _ 7 _ _ _ ha2
  have r8_ha2 := cell_of_row _ _ 8 _ _ _ ha2
  have r9_ha2 := cell_of_row _ _ 9 _ _ _ ha2
  have f0_ha2 := frozen_of_row _ _ 0 _ _ ha2
  have f1_ha2 := frozen_of_row _ _ 1 _ _ ha2
  have f2_ha2 := frozen_of_row _ _ 2 _ _ ha2
  have f3_ha2 := frozen_of_row _ _ 3 _ _ ha2
  have f4_ha2 := frozen_of_row _ _ 4 _ _ ha2
  have f5_ha2 := frozen_of_row _ _ 5 _ _ ha2
  have f6_ha2 := frozen_of_row _ _ 6 _ _ ha2
  have f7_ha2 := frozen_of_row _ _ 7 _ _ ha2
  have f8_ha2 := frozen_of_row _ _ 8 _ _ ha2
  have f9_ha2 := frozen_of_row _ _ 9 _ _ ha2
  simp at r0_ha2 r1_ha2 r2_ha2 r3_ha2 r4_ha2 r5_ha2 r6_ha2 r7_ha2 r8_ha2 r9_ha2
  have r0_hr2 := cell_of_row _ _ 0 _ _ _ hr2
  have r1_hr2 := cell_of_row _ _ 1 _ _ _ hr2
  have r2_hr2 := cell_of_row _ _ 2 _ _ _ hr2
  have r3_hr2 := cell_of_row _ _ 3 _ _ _ hr2
  have r4_hr2 := cell_of_row _ _ 4 _ _ _ hr2
  have r5_hr2 := cell_of_row _ _ 5 _ _ _ hr2
  have r6_hr2 := cell_of_row _ _ 6 _ _ _ hr2
  have r7_hr2 := cell_of_row _ _ 7 _ _ _ hr2
  have r8_hr2 := cell_of_row _ _ 8 _ _ _ hr2
  have r9_hr2 := cell_of_row _ _ 9 _ _ _ hr2
  have f0_hr2 := frozen_of_row _ _ 0 _ _ hr2
  have f1_hr2 := frozen_of_row _ _ 1 _ _ hr2
  have f2_hr2 := frozen_of_row _ _ 2 _ _ hr2
  have f3_hr2 := frozen_of_row _ _ 3 _ _ hr2
  have f4_hr2 := frozen_of_row _ _ 4 _ _ hr2
  have f5_hr2 := frozen_of_row _ _ 5 _ _ hr2
  have f6_hr2 := frozen_of_row _ _ 6 _ _ hr2
  have f7_hr2 := frozen_of_row _ _ 7 _ _ hr2
  have f8_hr2 := frozen_of_row _ _ 8 _ _ hr2
  have f9_hr2 := frozen_of_row _ _ 9 _ _ hr2
  simp at r0_hr2 r1_hr2 r2_hr2 r3_hr2 r4_hr2 r5_hr2 r6_hr2 r7_hr2 r8_hr2 r9_hr2
  have HR2 := Lib.hid hr2
  clear ha2 hr2 hO2 HA HR HO1
  go_wp2_with fail
  apply bodyPost_ret (results_cell_row (P := Try.prog) (fn := Try.f59) rfl _ _ _ 29 _ (0, 0) _ rfl _ Try.underlying29 rfl _) rfl
  rotate_left 2
  · repeat (first | (with_reducible apply heap_setCell_same) | (with_reducible apply drew_row) | (with_reducible apply drewN_row) | (with_reducible exact HR2.out) | (with_reducible refine (heap_setCell_other _ _ _ _ (by first | omega | (simp; done) | (simp; omega))).trans ?_) | (with_reducible refine (Below.heap_alloc _ _ _ (by first | omega | (simp; done) | (simp; omega))).trans ?_))
  · kernel_rfl
  exact ⟨_, _, by simp, OwnE.mono (base := w.heap.size + 2) (by repeat (first | with_reducible exact HP1.out | (with_reducible refine OwnE.setBelow ?_ (by first | (simp; done) | (simp; omega)) _) | with_reducible refine OwnE.alloc ?_ _ | with_reducible refine OwnE.drew ?_)) (by omega), OwnE.mono (base := w1.heap.size) (by repeat (first | with_reducible exact HO2.out | (with_reducible refine OwnE.setBelow ?_ (by first | (simp; done) | (simp; omega)) _) | with_reducible refine OwnE.alloc ?_ _ | with_reducible refine OwnE.drew ?_)) (by omega), hap.out, (by repeat (first | with_reducible exact Below.refl _ _ | with_reducible assumption | with_reducible refine Below.drew ?_ | with_reducible refine Below.alloc ?_ (by first | exact Nat.le_refl _ | omega | (simp; done) | (simp; omega)) _ | with_reducible refine Below.setCell ?_ (by first | exact Nat.le_refl _ | omega | (simp; done) | (simp; omega)) _ | (with_reducible refine ext_trans ?_ (by with_reducible assumption))))⟩

set_option maxHeartbeats 1000000 in
theorem l13Copy_any (x : RKeys) (v1 v2 : Value) (n1 : x.now.rs.length ≤ 1048600) (n2 : x.bef.rs.length ≤ 1048600) (w : World) (h1 : RdMacRow w v1 x.now.rs) (h2 : RdMacRow w v2 x.bef.rs) :
    Calls Try.prog 71 #[vK x v1 v2] w (NewKeys x w) := by
  obtain ⟨A1, c1, rfl, -⟩ := id h1
  obtain ⟨A2, c2, rfl, -⟩ := id h2
  have H1 := Lib.hid h1
  have H2 := Lib.hid h2
  have N1 := Lib.hid n1
  have N2 := Lib.hid n2
  clear h1 h2 n1 n2
  go_enter Try.func71, Try.ntmps71
  go_wp2_with fail
  refine (l11Copy_any x.now _ N1.out _ (H1.out.below (by repeat (first | with_reducible exact Below.refl _ _ | with_reducible assumption | with_reducible refine Below.drew ?_ | with_reducible refine Below.alloc ?_ (by first | exact Nat.le_refl _ | omega | (simp; done) | (simp; omega)) _ | with_reducible refine Below.setCell ?_ (by first | exact Nat.le_refl _ | omega | (simp; done) | (simp; omega)) _ | (with_reducible refine ext_trans ?_ (by with_reducible assumption)))))).mono ?_
  rintro e w1 ⟨v3, rfl, hO1, hb1⟩
  obtain ⟨A3, c3, rfl⟩ := hO1.form
  have hz1 := hb1.size
  simp at hz1
  have ha : w1.heap[w.heap.size]? = some (.cells #[.int .i64 x.ep, .bool x.now.u, .int .u64 (uI x.now.k), .int .u64 (uI x.now.l), .slice A1 x.now.rs.length c1, .bool x.bef.u, .int .u64 (uI x.bef.k), .int .u64 (uI x.bef.l), .slice A2 x.bef.rs.length c2, .bool x.two] 29 (0, 0)) := (hb1.block _ (by first | (simp; done) | (simp; omega))).trans (by repeat (first | exact heap_new _ _ _ (by first | rfl | (simp; done) | (simp; omega)) | refine (Below.heap_alloc _ _ _ (by first | omega | (simp; done) | (simp; omega))).trans ?_))
  have hr : w1.heap[w.heap.size + 1]? = some (.cells #[.int .i64 0, .bool false, .int .u64 0, .int .u64 0, .slice none 0 0, .bool false, .int .u64 0, .int .u64 0, .slice none 0 0, .bool false] 29 (0, 0)) := (hb1.block _ (by first | (simp; done) | (simp; omega))).trans (by repeat (first | exact heap_new _ _ _ (by first | rfl | (simp; done) | (simp; omega)) | refine (Below.heap_alloc _ _ _ (by first | omega | (simp; done) | (simp; omega))).trans ?_))
  have HO1 : Hid (OwnMacRow w1 (w.heap.size + 2) (.slice A3 x.now.rs.length c3) x.now.rs) := hO1.mono (by simp)
  have hl1 : w.heap.size + 1 < w1.heap.size := by omega
  have r0_ha := cell_of_row _ _ 0 _ _ _ ha
  have r1_ha := cell_of_row _ _ 1 _ _ _ ha
  have r2_ha := cell_of_row _ _ 2 _ _ _ ha
  have r3_ha := cell_of_row _ _ 3 _ _ _ ha
  have r4_ha := cell_of_row _ _ 4 _ _ _ ha
  have r5_ha := cell_of_row _ _ 5 _ _ _ ha
  have r6_ha := cell_of_row _ _ 6 _ _ _ ha
  have r7_ha := cell_of_row _ _ 7 _ _ _ ha
  have r8_ha := cell_of_row _ _ 8 _ _ _ ha
  have r9_ha := cell_of_row _ _ 9 _ _ _ ha
  have f0_ha := frozen_of_row _ _ 0 _ _ ha
  have f1_ha := frozen_of_row _ _ 1 _ _ ha
  have f2_ha := frozen_of_row _ _ 2 _ _ ha
  have f3_ha := frozen_of_row _ _ 3 _ _ ha
  have f4_ha := frozen_of_row _ _ 4 _ _ ha
  have f5_ha := frozen_of_row _ _ 5 _ _ ha
  have f6_ha := frozen_of_row _ _ 6 _ _ ha
  have f7_ha := frozen_of_row _ _ 7 _ _ ha
  have f8_ha := frozen_of_row _ _ 8 _ _ ha
  have f9_ha := frozen_of_row _ _ 9 _ _ ha
  simp at r0_ha r1_ha r2_ha r3_ha r4_ha r5_ha r6_ha r7_ha r8_ha r9_ha
  have r0_hr := cell_of_row _ _ 0 _ _ _ hr
  have r1_hr := cell_of_row _ _ 1 _ _ _ hr
  have r2_hr := cell_of_row _ _ 2 _ _ _ hr
  have r3_hr := cell_of_row _ _ 3 _ _ _ hr
  have r4_hr := cell_of_row _ _ 4 _ _ _ hr
  have r5_hr := cell_of_row _ _ 5 _ _ _ hr
  have r6_hr := cell_of_row _ _ 6 _ _ _ hr
  have r7_hr := cell_of_row _ _ 7 _ _ _ hr
  have r8_hr := cell_of_row _ _ 8 _ _ _ hr
  have r9_hr := cell_of_row _ _ 9 _ _ _ hr
  have f0_hr := frozen_of_row _ _ 0 _ _ hr
  have f1_hr := frozen_of_row _ _ 1 _ _ hr
  have f2_hr := frozen_of_row _ _ 2 _ _ hr
  have f3_hr := frozen_of_row _ _ 3 _ _ hr
  have f4_hr := frozen_of_row _ _ 4 _ _ hr
  have f5_hr := frozen_of_row _ _ 5 _ _ hr
  have f6_hr := frozen_of_row _ _ 6 _ _ hr
  have f7_hr := frozen_of_row _ _ 7 _ _ hr
  have f8_hr := frozen_of_row _ _ 8 _ _ hr
  have f9_hr := frozen_of_row _ _ 9 _ _ hr
  simp at r0_hr r1_hr r2_hr r3_hr r4_hr r5_hr r6_hr r7_hr r8_hr r9_hr
  have HA := Lib.hid ha
  have HR := Lib.hid hr
  clear ha hr hO1
  go_wp2_with fail
  refine (l11Copy_any x.bef _ N2.out _ (H2.out.below (by repeat (first | with_reducible exact Below.refl _ _ | with_reducible assumption | with_reducible refine Below.drew ?_ | with_reducible refine Below.alloc ?_ (by first | exact Nat.le_refl _ | omega | (simp; done) | (simp; omega)) _ | with_reducible refine Below.setCell ?_ (by first | exact Nat.le_refl _ | omega | (simp; done) | (simp; omega)) _ | (with_reducible refine ext_trans ?_ (by with_reducible assumption)))))).mono ?_
  rintro e w2 ⟨v4, rfl, hO2, hb2⟩
  obtain ⟨A4, c4, rfl⟩ := hO2.form
  have hz2 := hb2.size
  simp at hz2
  have ha2 : w2.heap[w.heap.size]? = some (.cells #[.int .i64 x.ep, .bool x.now.u, .int .u64 (uI x.now.k), .int .u64 (uI x.now.l), .slice A3 x.now.rs.length c3, .bool x.bef.u, .int .u64 (uI x.bef.k), .int .u64 (uI x.bef.l), .slice A2 x.bef.rs.length c2, .bool x.two] 29 (0, 0)) := (hb2.block _ (by simp; omega)).trans ((heap_setCell_same _ _ 4 _ _ _ (heap_setCell_same _ _ 3 _ _ _ (heap_setCell_same _ _ 2 _ _ _ (heap_setCell_same _ _ 1 _ _ _ HA.out)))).trans (by simp))
  have hr2 : w2.heap[w.heap.size + 1]? = some (.cells #[.int .i64 0, .bool false, .int .u64 0, .int .u64 0, .slice none 0 0, .bool false, .int .u64 0, .int .u64 0, .slice none 0 0, .bool false] 29 (0, 0)) := (hb2.block _ (by simp; omega)).trans (by repeat (first | (with_reducible apply heap_setCell_same) | (with_reducible apply drew_row) | (with_reducible apply drewN_row) | (with_reducible exact HR.out) | (with_reducible refine (heap_setCell_other _ _ _ _ (by first | omega | (simp; done) | (simp; omega))).trans ?_) | (with_reducible refine (Below.heap_alloc _ _ _ (by first | omega | (simp; done) | (simp; omega))).trans ?_)))
  have HP1 : Hid (OwnMacRow w2 (w.heap.size + 2) (.slice A3 x.now.rs.length c3) x.now.rs) := OwnE.below (by repeat (first | with_reducible exact HO1.out | (with_reducible refine OwnE.setBelow ?_ (by first | (simp; done) | (simp; omega)) _) | with_reducible refine OwnE.alloc ?_ _ | with_reducible refine OwnE.drew ?_)) hb2
  have HO2 : Hid (OwnMacRow w2 w1.heap.size (.slice A4 x.bef.rs.length c4) x.bef.rs) := hO2.mono (by simp)
  have hap : Hid (x.now.rs ≠ [] → x.bef.rs ≠ [] → (Value.slice A3 x.now.rs.length c3).ownBlock ≠ (Value.slice A4 x.bef.rs.length c4).ownBlock) := fun h h' => own_ne HO1.out HO2.out (Nat.le_refl _) h h'
  have hl2 : w.heap.size + 1 < w2.heap.size := by omega
  have hbw : Below w.heap.size w w2 := (by repeat (first | with_reducible exact Below.refl _ _ | with_reducible assumption | with_reducible refine Below.drew ?_ | with_reducible refine Below.alloc ?_ (by first | exact Nat.le_refl _ | omega | (simp; done) | (simp; omega)) _ | with_reducible refine Below.setCell ?_ (by first | exact Nat.le_refl _ | omega | (simp; done) | (simp; omega)) _ | (with_reducible refine ext_trans ?_ (by with_reducible assumption))))
  clear r0_ha r1_ha r2_ha r3_ha r4_ha r5_ha r6_ha r7_ha r8_ha r9_ha r0_hr r1_hr r2_hr r3_hr r4_hr r5_hr r6_hr r7_hr r8_hr r9_hr
  clear f0_ha f1_ha f2_ha f3_ha f4_ha f5_ha f6_ha f7_ha f8_ha f9_ha f0_hr f1_hr f2_hr f3_hr f4_hr f5_hr f6_hr f7_hr f8_hr f9_hr
  have r0_ha2 := cell_of_row _ _ 0 _ _ _ ha2
  have r1_ha2 := cell_of_row _ _ 1 _ _ _ ha2
  have r2_ha2 := cell_of_row _ _ 2 _ _ _ ha2
  have r3_ha2 := cell_of_row _ _ 3 _ _ _ ha2
  have r4_ha2 := cell_of_row _ _ 4 _ _ _ ha2
  have r5_ha2 := cell_of_row _ _ 5 _ _ _ ha2
  have r6_ha2 := cell_of_row _ _ 6 _ _ _ ha2
  have r7_ha2 := cell_of_row _ _ 7 _ _ _ ha2
  have r8_ha2 := cell_of_row _ _ 8 _ _ _ ha2
  have r9_ha2 := cell_of_row _ _ 9 _ _ _ ha2
  have f0_ha2 := frozen_of_row _ _ 0 _ _ ha2
  have f1_ha2 := frozen_of_row _ _ 1 _ _ ha2
  have f2_ha2 := frozen_of_row _ _ 2 _ _ ha2
  have f3_ha2 := frozen_of_row _ _ 3 _ _ ha2
  have f4_ha2 := frozen_of_row _ _ 4 _ _ ha2
  have f5_ha2 := frozen_of_row _ _ 5 _ _ ha2
  have f6_ha2 := frozen_of_row _ _ 6 _ _ ha2
  have f7_ha2 := frozen_of_row _ _ 7 _ _ ha2
  have f8_ha2 := frozen_of_row _ _ 8 _ _ ha2
  have f9_ha2 := frozen_of_row _ _ 9 _ _ ha2
  simp at r0_ha2 r1_ha2 r2_ha2 r3_ha2 r4_ha2 r5_ha2 r6_ha2 r7_ha2 r8_ha2 r9_ha2
  have r0_hr2 := cell_of_row _ _ 0 _ _ _ hr2
  have r1_hr2 := cell_of_row _ _ 1 _ _ _ hr2
  have r2_hr2 := cell_of_row _ _ 2 _ _ _ hr2
  have r3_hr2 := cell_of_row _ _ 3 _ _ _ hr2
  have r4_hr2 := cell_of_row _ _ 4 _ _ _ hr2
  have r5_hr2 := cell_of_row _ _ 5 _ _ _ hr2
  have r6_hr2 := cell_of_row _ _ 6 _ _ _ hr2
  have r7_hr2 := cell_of_row _ _ 7 _ _ _ hr2
  have r8_hr2 := cell_of_row _ _ 8 _ _ _ hr2
  have r9_hr2 := cell_of_row _ _ 9 _ _ _ hr2
  have f0_hr2 := frozen_of_row _ _ 0 _ _ hr2
  have f1_hr2 := frozen_of_row _ _ 1 _ _ hr2
  have f2_hr2 := frozen_of_row _ _ 2 _ _ hr2
  have f3_hr2 := frozen_of_row _ _ 3 _ _ hr2
  have f4_hr2 := frozen_of_row _ _ 4 _ _ hr2
  have f5_hr2 := frozen_of_row _ _ 5 _ _ hr2
  have f6_hr2 := frozen_of_row _ _ 6 _ _ hr2
  have f7_hr2 := frozen_of_row _ _ 7 _ _ hr2
  have f8_hr2 := frozen_of_row _ _ 8 _ _ hr2
  have f9_hr2 := frozen_of_row _ _ 9 _ _ hr2
  simp at r0_hr2 r1_hr2 r2_hr2 r3_hr2 r4_hr2 r5_hr2 r6_hr2 r7_hr2 r8_hr2 r9_hr2
  have HR2 := Lib.hid hr2
  clear ha2 hr2 hO2 HA HR HO1
  go_wp2_with fail
  apply bodyPost_ret (results_cell_row (P := Try.prog) (fn := Try.f71) rfl _ _ _ 29 _ (0, 0) _ rfl _ Try.underlying29 rfl _) rfl
  rotate_left 2
  · repeat (first | (with_reducible apply heap_setCell_same) | (with_reducible apply drew_row) | (with_reducible apply drewN_row) | (with_reducible exact HR2.out) | (with_reducible refine (heap_setCell_other _ _ _ _ (by first | omega | (simp; done) | (simp; omega))).trans ?_) | (with_reducible refine (Below.heap_alloc _ _ _ (by first | omega | (simp; done) | (simp; omega))).trans ?_))
  · kernel_rfl
  exact ⟨_, _, by simp, OwnE.mono (base := w.heap.size + 2) (by repeat (first | with_reducible exact HP1.out | (with_reducible refine OwnE.setBelow ?_ (by first | (simp; done) | (simp; omega)) _) | with_reducible refine OwnE.alloc ?_ _ | with_reducible refine OwnE.drew ?_)) (by omega), OwnE.mono (base := w1.heap.size) (by repeat (first | with_reducible exact HO2.out | (with_reducible refine OwnE.setBelow ?_ (by first | (simp; done) | (simp; omega)) _) | with_reducible refine OwnE.alloc ?_ _ | with_reducible refine OwnE.drew ?_)) (by omega), hap.out, (by repeat (first | with_reducible exact Below.refl _ _ | with_reducible assumption | with_reducible refine Below.drew ?_ | with_reducible refine Below.alloc ?_ (by first | exact Nat.le_refl _ | omega | (simp; done) | (simp; omega)) _ | with_reducible refine Below.setCell ?_ (by first | exact Nat.le_refl _ | omega | (simp; done) | (simp; omega)) _ | (with_reducible refine ext_trans ?_ (by with_reducible assumption))))⟩

def RMac.same (a b : RMac) : Bool := sameB a.u (uI a.k) (uI a.l) a.rs b.u (uI b.k) (uI b.l) b.rs
def RKeys.same (a b : RKeys) : Bool := decide (a.ep = b.ep) && (a.two == b.two && (a.now.same b.now && a.bef.same b.bef))

theorem SameMacB (m n : RMac) (v1 v2 : Value) (B : Bool) (hB : m.same n = B) (n1 : m.rs.length ≤ maxLen) (n2 : n.rs.length ≤ maxLen) (w : World) (h1 : RdMacRow w v1 m.rs) (h2 : RdMacRow w v2 n.rs) :
    Calls Try.prog 54 #[vMc m v1, vMc n v2] w fun e w' => e = .returned (.bool B) ∧ Below w.heap.size w w' := by
  subst hB
  exact SameMac_any _ _ _ _ _ _ _ _ _ _ n1 n2 w h1 h2

set_option maxHeartbeats 1000000 in
theorem SameKeys_any (a b : RKeys) (v1 v2 v3 v4 : Value) (n1 : a.now.rs.length ≤ maxLen) (n2 : a.bef.rs.length ≤ maxLen) (n3 : b.now.rs.length ≤ maxLen) (n4 : b.bef.rs.length ≤ maxLen) (w : World) (h1 : RdMacRow w v1 a.now.rs) (h2 : RdMacRow w v2 a.bef.rs) (h3 : RdMacRow w v3 b.now.rs) (h4 : RdMacRow w v4 b.bef.rs) :
    Calls Try.prog 32 #[vK a v1 v2, vK b v3 v4] w fun e w' => e = .returned (.bool (a.same b)) ∧ Below w.heap.size w w' := by
  obtain ⟨A1, c1, rfl, -⟩ := id h1
  obtain ⟨A2, c2, rfl, -⟩ := id h2
  obtain ⟨A3, c3, rfl, -⟩ := id h3
  obtain ⟨A4, c4, rfl, -⟩ := id h4
  obtain ⟨e, m1, m2, t⟩ := a
  obtain ⟨e', m3, m4, t'⟩ := b
  dsimp only at *
  have H1 := Lib.hid h1
  have H2 := Lib.hid h2
  have H3 := Lib.hid h3
  have H4 := Lib.hid h4
  have N1 := Lib.hid n1
  have N2 := Lib.hid n2
  have N3 := Lib.hid n3
  have N4 := Lib.hid n4
  clear h1 h2 h3 h4 n1 n2 n3 n4
  by_cases he : e = e'
  · subst he
    by_cases ht : t = t'
    · subst ht
      have hs : RKeys.same ⟨e, m1, m2, t⟩ ⟨e, m3, m4, t⟩ = (m1.same m3 && m2.same m4) := by simp [RKeys.same]
      rw [hs]
      clear hs
      obtain ⟨B1, hB1⟩ : ∃ B, m1.same m3 = B := ⟨_, rfl⟩
      obtain ⟨B2, hB2⟩ : ∃ B, m2.same m4 = B := ⟨_, rfl⟩
      rw [hB1, hB2]
      have HB1 := Lib.hid hB1
      have HB2 := Lib.hid hB2
      clear hB1 hB2
      go_enter Try.func32, Try.ntmps32
      go_wp2_with fail
      refine (SameMacB m1 m3 _ _ B1 HB1.out N1.out N3.out _ (H1.out.below (by repeat (first | with_reducible exact Below.refl _ _ | with_reducible assumption | with_reducible refine Below.drew ?_ | with_reducible refine Below.alloc ?_ (by first | exact Nat.le_refl _ | omega | (simp; done) | (simp; omega)) _ | with_reducible refine Below.setCell ?_ (by first | exact Nat.le_refl _ | omega | (simp; done) | (simp; omega)) _ | (with_reducible refine ext_trans ?_ (by with_reducible assumption))))) (H3.out.below (by repeat (first | with_reducible exact Below.refl _ _ | with_reducible assumption | with_reducible refine Below.drew ?_ | with_reducible refine Below.alloc ?_ (by first | exact Nat.le_refl _ | omega | (simp; done) | (simp; omega)) _ | with_reducible refine Below.setCell ?_ (by first | exact Nat.le_refl _ | omega | (simp; done) | (simp; omega)) _ | (with_reducible refine ext_trans ?_ (by with_reducible assumption)))))).mono ?_
      rintro e w1 ⟨rfl, hb1⟩
      have hz1 := hb1.size
      simp at hz1
      have ha : w1.heap[w.heap.size]? = some (.cells #[.int .i64 e, .bool m1.u, .int .u64 (uI m1.k), .int .u64 (uI m1.l), .slice A1 m1.rs.length c1, .bool m2.u, .int .u64 (uI m2.k), .int .u64 (uI m2.l), .slice A2 m2.rs.length c2, .bool t] 29 (0, 0)) := (hb1.block _ (by first | (simp; done) | (simp; omega))).trans (by repeat (first | exact heap_new _ _ _ (by first | rfl | (simp; done) | (simp; omega)) | refine (Below.heap_alloc _ _ _ (by first | omega | (simp; done) | (simp; omega))).trans ?_))
      have hc : w1.heap[w.heap.size + 1]? = some (.cells #[.int .i64 e, .bool m3.u, .int .u64 (uI m3.k), .int .u64 (uI m3.l), .slice A3 m3.rs.length c3, .bool m4.u, .int .u64 (uI m4.k), .int .u64 (uI m4.l), .slice A4 m4.rs.length c4, .bool t] 29 (0, 0)) := (hb1.block _ (by first | (simp; done) | (simp; omega))).trans (by repeat (first | exact heap_new _ _ _ (by first | rfl | (simp; done) | (simp; omega)) | refine (Below.heap_alloc _ _ _ (by first | omega | (simp; done) | (simp; omega))).trans ?_))
      have r0_ha := cell_of_row _ _ 0 _ _ _ ha
      have r1_ha := cell_of_row _ _ 1 _ _ _ ha
      have r2_ha := cell_of_row _ _ 2 _ _ _ ha
      have r3_ha := cell_of_row _ _ 3 _ _ _ ha
      have r4_ha := cell_of_row _ _ 4 _ _ _ ha
      have r5_ha := cell_of_row _ _ 5 _ _ _ ha
      have r6_ha := cell_of_row _ _ 6 _ _ _ ha
      have r7_ha := cell_of_row _ _ 7 _ _ _ ha
      have r8_ha := cell_of_row _ _ 8 _ _ _ ha
      have r9_ha := cell_of_row _ _ 9 _ _ _ ha
      have f0_ha := frozen_of_row _ _ 0 _ _ ha
      have f1_ha := frozen_of_row _ _ 1 _ _ ha
      have f2_ha := frozen_of_row _ _ 2 _ _ ha
      have f3_ha := frozen_of_row _ _ 3 _ _ ha
      have f4_ha := frozen_of_row _ _ 4 _ _ ha
      have f5_ha := frozen_of_row _ _ 5 _ _ ha
      have f6_ha := frozen_of_row _ _ 6 _ _ ha
      have f7_ha := frozen_of_row _ _ 7 _ _ ha
      have f8_ha := frozen_of_row _ _ 8 _ _ ha
      have f9_ha := frozen_of_row _ _ 9 _ _ ha
      simp at r0_ha r1_ha r2_ha r3_ha r4_ha r5_ha r6_ha r7_ha r8_ha r9_ha
      have r0_hc := cell_of_row _ _ 0 _ _ _ hc
      have r1_hc := cell_of_row _ _ 1 _ _ _ hc
      have r2_hc := cell_of_row _ _ 2 _ _ _ hc
      have r3_hc := cell_of_row _ _ 3 _ _ _ hc
      have r4_hc := cell_of_row _ _ 4 _ _ _ hc
      have r5_hc := cell_of_row _ _ 5 _ _ _ hc
      have r6_hc := cell_of_row _ _ 6 _ _ _ hc
      have r7_hc := cell_of_row _ _ 7 _ _ _ hc
      have r8_hc := cell_of_row _ _ 8 _ _ _ hc
      have r9_hc := cell_of_row _ _ 9 _ _ _ hc
      have f0_hc := frozen_of_row _ _ 0 _ _ hc
      have f1_hc := frozen_of_row _ _ 1 _ _ hc
      have f2_hc := frozen_of_row _ _ 2 _ _ hc
      have f3_hc := frozen_of_row _ _ 3 _ _ hc
      have f4_hc := frozen_of_row _ _ 4 _ _ hc
      have f5_hc := frozen_of_row _ _ 5 _ _ hc
      have f6_hc := frozen_of_row _ _ 6 _ _ hc
      have f7_hc := frozen_of_row _ _ 7 _ _ hc
      have f8_hc := frozen_of_row _ _ 8 _ _ hc
      have f9_hc := frozen_of_row _ _ 9 _ _ hc
      simp at r0_hc r1_hc r2_hc r3_hc r4_hc r5_hc r6_hc r7_hc r8_hc r9_hc
      clear ha hc
      cases B1
      · go_wp2_with fail
        go_ret
        exact ⟨rfl, (by repeat (first | with_reducible exact Below.refl _ _ | with_reducible assumption | with_reducible refine Below.drew ?_ | with_reducible refine Below.alloc ?_ (by first | exact Nat.le_refl _ | omega | (simp; done) | (simp; omega)) _ | with_reducible refine Below.setCell ?_ (by first | exact Nat.le_refl _ | omega | (simp; done) | (simp; omega)) _ | (with_reducible refine ext_trans ?_ (by with_reducible assumption))))⟩
      · go_wp2_with fail
        refine (SameMacB m2 m4 _ _ B2 HB2.out N2.out N4.out _ (H2.out.below (by repeat (first | with_reducible exact Below.refl _ _ | with_reducible assumption | with_reducible refine Below.drew ?_ | with_reducible refine Below.alloc ?_ (by first | exact Nat.le_refl _ | omega | (simp; done) | (simp; omega)) _ | with_reducible refine Below.setCell ?_ (by first | exact Nat.le_refl _ | omega | (simp; done) | (simp; omega)) _ | (with_reducible refine ext_trans ?_ (by with_reducible assumption))))) (H4.out.below (by repeat (first | with_reducible exact Below.refl _ _ | with_reducible assumption | with_reducible refine Below.drew ?_ | with_reducible refine Below.alloc ?_ (by first | exact Nat.le_refl _ | omega | (simp; done) | (simp; omega)) _ | with_reducible refine Below.setCell ?_ (by first | exact Nat.le_refl _ | omega | (simp; done) | (simp; omega)) _ | (with_reducible refine ext_trans ?_ (by with_reducible assumption)))))).mono ?_
        rintro e w2 ⟨rfl, hb2⟩
        go_wp2_with fail
        go_ret
        exact ⟨rfl, (by repeat (first | with_reducible exact Below.refl _ _ | with_reducible assumption | with_reducible refine Below.drew ?_ | with_reducible refine Below.alloc ?_ (by first | exact Nat.le_refl _ | omega | (simp; done) | (simp; omega)) _ | with_reducible refine Below.setCell ?_ (by first | exact Nat.le_refl _ | omega | (simp; done) | (simp; omega)) _ | (with_reducible refine ext_trans ?_ (by with_reducible assumption))))⟩
    · go_enter Try.func32, Try.ntmps32
      go_wp2_with fail
      all_goals
        go_ret
        exact ⟨by simp [RKeys.same, ht], (by repeat (first | with_reducible exact Below.refl _ _ | with_reducible assumption | with_reducible refine Below.drew ?_ | with_reducible refine Below.alloc ?_ (by first | exact Nat.le_refl _ | omega | (simp; done) | (simp; omega)) _ | with_reducible refine Below.setCell ?_ (by first | exact Nat.le_refl _ | omega | (simp; done) | (simp; omega)) _ | (with_reducible refine ext_trans ?_ (by with_reducible assumption))))⟩
  · go_enter Try.func32, Try.ntmps32
    go_wp2_with fail
    all_goals
      go_ret
      exact ⟨by simp [RKeys.same, he], (by repeat (first | with_reducible exact Below.refl _ _ | with_reducible assumption | with_reducible refine Below.drew ?_ | with_reducible refine Below.alloc ?_ (by first | exact Nat.le_refl _ | omega | (simp; done) | (simp; omega)) _ | with_reducible refine Below.setCell ?_ (by first | exact Nat.le_refl _ | omega | (simp; done) | (simp; omega)) _ | (with_reducible refine ext_trans ?_ (by with_reducible assumption))))⟩

theorem sSameMacB (m n : RMac) (v1 v2 : Value) (B : Bool) (hB : m.same n = B) (n1 : m.rs.length ≤ maxLen) (n2 : n.rs.length ≤ maxLen) (w : World) (h1 : RdMacRow w v1 m.rs) (h2 : RdMacRow w v2 n.rs) :
    Calls Try.prog 50 #[vMc m v1, vMc n v2] w fun e w' => e = .returned (.bool B) ∧ Below w.heap.size w w' := by
  subst hB
  exact sSameMac_any _ _ _ _ _ _ _ _ _ _ n1 n2 w h1 h2

set_option maxHeartbeats 1000000 in
theorem sSameKeys_any (a b : RKeys) (v1 v2 v3 v4 : Value) (n1 : a.now.rs.length ≤ maxLen) (n2 : a.bef.rs.length ≤ maxLen) (n3 : b.now.rs.length ≤ maxLen) (n4 : b.bef.rs.length ≤ maxLen) (w : World) (h1 : RdMacRow w v1 a.now.rs) (h2 : RdMacRow w v2 a.bef.rs) (h3 : RdMacRow w v3 b.now.rs) (h4 : RdMacRow w v4 b.bef.rs) :
    Calls Try.prog 23 #[vK a v1 v2, vK b v3 v4] w fun e w' => e = .returned (.bool (a.same b)) ∧ Below w.heap.size w w' := by
  obtain ⟨A1, c1, rfl, -⟩ := id h1
  obtain ⟨A2, c2, rfl, -⟩ := id h2
  obtain ⟨A3, c3, rfl, -⟩ := id h3
  obtain ⟨A4, c4, rfl, -⟩ := id h4
  obtain ⟨e, m1, m2, t⟩ := a
  obtain ⟨e', m3, m4, t'⟩ := b
  dsimp only at *
  have H1 := Lib.hid h1
  have H2 := Lib.hid h2
  have H3 := Lib.hid h3
  have H4 := Lib.hid h4
  have N1 := Lib.hid n1
  have N2 := Lib.hid n2
  have N3 := Lib.hid n3
  have N4 := Lib.hid n4
  clear h1 h2 h3 h4 n1 n2 n3 n4
  by_cases he : e = e'
  · subst he
    by_cases ht : t = t'
    · subst ht
      have hs : RKeys.same ⟨e, m1, m2, t⟩ ⟨e, m3, m4, t⟩ = (m1.same m3 && m2.same m4) := by simp [RKeys.same]
      rw [hs]
      clear hs
      obtain ⟨B1, hB1⟩ : ∃ B, m1.same m3 = B := ⟨_, rfl⟩
      obtain ⟨B2, hB2⟩ : ∃ B, m2.same m4 = B := ⟨_, rfl⟩
      rw [hB1, hB2]
      have HB1 := Lib.hid hB1
      have HB2 := Lib.hid hB2
      clear hB1 hB2
      go_enter Try.func23, Try.ntmps23
      go_wp2_with fail
      refine (sSameMacB m1 m3 _ _ B1 HB1.out N1.out N3.out _ (H1.out.below (by repeat (first | with_reducible exact Below.refl _ _ | with_reducible assumption | with_reducible refine Below.drew ?_ | with_reducible refine Below.alloc ?_ (by first | exact Nat.le_refl _ | omega | (simp; done) | (simp; omega)) _ | with_reducible refine Below.setCell ?_ (by first | exact Nat.le_refl _ | omega | (simp; done) | (simp; omega)) _ | (with_reducible refine ext_trans ?_ (by with_reducible assumption))))) (H3.out.below (by repeat (first | with_reducible exact Below.refl _ _ | with_reducible assumption | with_reducible refine Below.drew ?_ | with_reducible refine Below.alloc ?_ (by first | exact Nat.le_refl _ | omega | (simp; done) | (simp; omega)) _ | with_reducible refine Below.setCell ?_ (by first | exact Nat.le_refl _ | omega | (simp; done) | (simp; omega)) _ | (with_reducible refine ext_trans ?_ (by with_reducible assumption)))))).mono ?_
      rintro e w1 ⟨rfl, hb1⟩
      have hz1 := hb1.size
      simp at hz1
      have ha : w1.heap[w.heap.size]? = some (.cells #[.int .i64 e, .bool m1.u, .int .u64 (uI m1.k), .int .u64 (uI m1.l), .slice A1 m1.rs.length c1, .bool m2.u, .int .u64 (uI m2.k), .int .u64 (uI m2.l), .slice A2 m2.rs.length c2, .bool t] 29 (0, 0)) := (hb1.block _ (by first | (simp; done) | (simp; omega))).trans (by repeat (first | exact heap_new _ _ _ (by first | rfl | (simp; done) | (simp; omega)) | refine (Below.heap_alloc _ _ _ (by first | omega | (simp; done) | (simp; omega))).trans ?_))
      have hc : w1.heap[w.heap.size + 1]? = some (.cells #[.int .i64 e, .bool m3.u, .int .u64 (uI m3.k), .int .u64 (uI m3.l), .slice A3 m3.rs.length c3, .bool m4.u, .int .u64 (uI m4.k), .int .u64 (uI m4.l), .slice A4 m4.rs.length c4, .bool t] 29 (0, 0)) := (hb1.block _ (by first | (simp; done) | (simp; omega))).trans (by repeat (first | exact heap_new _ _ _ (by first | rfl | (simp; done) | (simp; omega)) | refine (Below.heap_alloc _ _ _ (by first | omega | (simp; done) | (simp; omega))).trans ?_))
      have r0_ha := cell_of_row _ _ 0 _ _ _ ha
      have r1_ha := cell_of_row _ _ 1 _ _ _ ha
      have r2_ha := cell_of_row _ _ 2 _ _ _ ha
      have r3_ha := cell_of_row _ _ 3 _ _ _ ha
      have r4_ha := cell_of_row _ _ 4 _ _ _ ha
      have r5_ha := cell_of_row _ _ 5 _ _ _ ha
      have r6_ha := cell_of_row _ _ 6 _ _ _ ha
      have r7_ha := cell_of_row _ _ 7 _ _ _ ha
      have r8_ha := cell_of_row _ _ 8 _ _ _ ha
      have r9_ha := cell_of_row _ _ 9 _ _ _ ha
      have f0_ha := frozen_of_row _ _ 0 _ _ ha
      have f1_ha := frozen_of_row _ _ 1 _ _ ha
      have f2_ha := frozen_of_row _ _ 2 _ _ ha
      have f3_ha := frozen_of_row _ _ 3 _ _ ha
      have f4_ha := frozen_of_row _ _ 4 _ _ ha
      have f5_ha := frozen_of_row _ _ 5 _ _ ha
      have f6_ha := frozen_of_row _ _ 6 _ _ ha
      have f7_ha := frozen_of_row _ _ 7 _ _ ha
      have f8_ha := frozen_of_row _ _ 8 _ _ ha
      have f9_ha := frozen_of_row _ _ 9 _ _ ha
      simp at r0_ha r1_ha r2_ha r3_ha r4_ha r5_ha r6_ha r7_ha r8_ha r9_ha
      have r0_hc := cell_of_row _ _ 0 _ _ _ hc
      have r1_hc := cell_of_row _ _ 1 _ _ _ hc
      have r2_hc := cell_of_row _ _ 2 _ _ _ hc
      have r3_hc := cell_of_row _ _ 3 _ _ _ hc
      have r4_hc := cell_of_row _ _ 4 _ _ _ hc
      have r5_hc := cell_of_row _ _ 5 _ _ _ hc
      have r6_hc := cell_of_row _ _ 6 _ _ _ hc
      have r7_hc := cell_of_row _ _ 7 _ _ _ hc
      have r8_hc := cell_of_row _ _ 8 _ _ _ hc
      have r9_hc := cell_of_row _ _ 9 _ _ _ hc
      have f0_hc := frozen_of_row _ _ 0 _ _ hc
      have f1_hc := frozen_of_row _ _ 1 _ _ hc
      have f2_hc := frozen_of_row _ _ 2 _ _ hc
      have f3_hc := frozen_of_row _ _ 3 _ _ hc
      have f4_hc := frozen_of_row _ _ 4 _ _ hc
      have f5_hc := frozen_of_row _ _ 5 _ _ hc
      have f6_hc := frozen_of_row _ _ 6 _ _ hc
      have f7_hc := frozen_of_row _ _ 7 _ _ hc
      have f8_hc := frozen_of_row _ _ 8 _ _ hc
      have f9_hc := frozen_of_row _ _ 9 _ _ hc
      simp at r0_hc r1_hc r2_hc r3_hc r4_hc r5_hc r6_hc r7_hc r8_hc r9_hc
      clear ha hc
      cases B1
      · go_wp2_with fail
        go_ret
        exact ⟨rfl, (by repeat (first | with_reducible exact Below.refl _ _ | with_reducible assumption | with_reducible refine Below.drew ?_ | with_reducible refine Below.alloc ?_ (by first | exact Nat.le_refl _ | omega | (simp; done) | (simp; omega)) _ | with_reducible refine Below.setCell ?_ (by first | exact Nat.le_refl _ | omega | (simp; done) | (simp; omega)) _ | (with_reducible refine ext_trans ?_ (by with_reducible assumption))))⟩
      · go_wp2_with fail
        refine (sSameMacB m2 m4 _ _ B2 HB2.out N2.out N4.out _ (H2.out.below (by repeat (first | with_reducible exact Below.refl _ _ | with_reducible assumption | with_reducible refine Below.drew ?_ | with_reducible refine Below.alloc ?_ (by first | exact Nat.le_refl _ | omega | (simp; done) | (simp; omega)) _ | with_reducible refine Below.setCell ?_ (by first | exact Nat.le_refl _ | omega | (simp; done) | (simp; omega)) _ | (with_reducible refine ext_trans ?_ (by with_reducible assumption))))) (H4.out.below (by repeat (first | with_reducible exact Below.refl _ _ | with_reducible assumption | with_reducible refine Below.drew ?_ | with_reducible refine Below.alloc ?_ (by first | exact Nat.le_refl _ | omega | (simp; done) | (simp; omega)) _ | with_reducible refine Below.setCell ?_ (by first | exact Nat.le_refl _ | omega | (simp; done) | (simp; omega)) _ | (with_reducible refine ext_trans ?_ (by with_reducible assumption)))))).mono ?_
        rintro e w2 ⟨rfl, hb2⟩
        go_wp2_with fail
        go_ret
        exact ⟨rfl, (by repeat (first | with_reducible exact Below.refl _ _ | with_reducible assumption | with_reducible refine Below.drew ?_ | with_reducible refine Below.alloc ?_ (by first | exact Nat.le_refl _ | omega | (simp; done) | (simp; omega)) _ | with_reducible refine Below.setCell ?_ (by first | exact Nat.le_refl _ | omega | (simp; done) | (simp; omega)) _ | (with_reducible refine ext_trans ?_ (by with_reducible assumption))))⟩
    · go_enter Try.func23, Try.ntmps23
      go_wp2_with fail
      all_goals
        go_ret
        exact ⟨by simp [RKeys.same, ht], (by repeat (first | with_reducible exact Below.refl _ _ | with_reducible assumption | with_reducible refine Below.drew ?_ | with_reducible refine Below.alloc ?_ (by first | exact Nat.le_refl _ | omega | (simp; done) | (simp; omega)) _ | with_reducible refine Below.setCell ?_ (by first | exact Nat.le_refl _ | omega | (simp; done) | (simp; omega)) _ | (with_reducible refine ext_trans ?_ (by with_reducible assumption))))⟩
  · go_enter Try.func23, Try.ntmps23
    go_wp2_with fail
    all_goals
      go_ret
      exact ⟨by simp [RKeys.same, he], (by repeat (first | with_reducible exact Below.refl _ _ | with_reducible assumption | with_reducible refine Below.drew ?_ | with_reducible refine Below.alloc ?_ (by first | exact Nat.le_refl _ | omega | (simp; done) | (simp; omega)) _ | with_reducible refine Below.setCell ?_ (by first | exact Nat.le_refl _ | omega | (simp; done) | (simp; omega)) _ | (with_reducible refine ext_trans ?_ (by with_reducible assumption))))⟩

def RMac.ok (m : RMac) : Bool := macB m.u (uI m.k) (uI m.l) m.rs
def RMac.zero (m : RMac) : Bool := sameB m.u (uI m.k) (uI m.l) m.rs false 0 0 []
def RMac.fits (m : RMac) : Prop := m.rs.length ≤ maxLen ∧ ∀ x ∈ m.rs, -9223372036854775808 ≤ x.2 ∧ x.2 ≤ 9223372036854775807
def RKeys.ok (x : RKeys) : Bool := inB x.ep (if x.two then 1 else 0) 4294967295 && (x.now.ok && (x.bef.ok && (x.two || x.bef.zero)))
theorem wordB32 (e : Int) : wordB e 32 = inB e 0 4294967295 := by simp [wordB, inB]

theorem MacOkB (m : RMac) (v : Value) (B : Bool) (hB : m.ok = B) (hf : m.fits) (w : World) (h : RdMacRow w v m.rs) :
    Calls Try.prog 53 #[vMc m v] w fun e w' => e = .returned (.bool B) ∧ Below w.heap.size w w' := by
  subst hB
  exact MacOk_any _ _ _ _ _ hf.1 w h hf.2
theorem MacZeroB (m : RMac) (v : Value) (B : Bool) (hB : m.zero = B) (hf : m.fits) (w : World) (h : RdMacRow w v m.rs) :
    Calls Try.prog 54 #[vMc m v, vM false 0 0 (.slice none 0 0)] w fun e w' => e = .returned (.bool B) ∧ Below w.heap.size w w' := by
  subst hB
  exact SameMac_any _ _ _ _ _ _ _ _ _ [] hf.1 (Nat.zero_le _) w h (rd_nil _ _)

set_option maxHeartbeats 2000000 in
theorem KeysOk_any (x : RKeys) (v1 v2 : Value) (f1 : x.now.fits) (f2 : x.bef.fits) (w : World) (h1 : RdMacRow w v1 x.now.rs) (h2 : RdMacRow w v2 x.bef.rs) :
    Calls Try.prog 18 #[vK x v1 v2] w fun e w' => e = .returned (.bool x.ok) ∧ Below w.heap.size w w' := by
  obtain ⟨A1, c1, rfl, -⟩ := id h1
  obtain ⟨A2, c2, rfl, -⟩ := id h2
  obtain ⟨e, m1, m2, t⟩ := x
  dsimp only at *
  have H1 := Lib.hid h1
  have H2 := Lib.hid h2
  have F1 := Lib.hid f1
  have F2 := Lib.hid f2
  clear h1 h2 f1 f2
  obtain ⟨B1, hB1⟩ : ∃ B, m1.ok = B := ⟨_, rfl⟩
  obtain ⟨B2, hB2⟩ : ∃ B, m2.ok = B := ⟨_, rfl⟩
  obtain ⟨B3, hB3⟩ : ∃ B, m2.zero = B := ⟨_, rfl⟩
  have hs : RKeys.ok ⟨e, m1, m2, t⟩ = (inB e (if t then 1 else 0) 4294967295 && (B1 && (B2 && (t || B3)))) := by simp only [RKeys.ok, hB1, hB2, hB3]
  rw [hs]
  have HB1 := Lib.hid hB1
  have HB2 := Lib.hid hB2
  have HB3 := Lib.hid hB3
  clear hs hB1 hB2 hB3
  cases t
  · by_cases hw : inB e 0 4294967295 = true
    · go_enter Try.func18, Try.ntmps18
      go_wp2_with (go_at_call 52; refine (within_any _ _ _ _).mono ?_; rintro e w' ⟨rfl, rfl⟩)
      refine (MacOkB m1 _ B1 HB1.out F1.out _ (H1.out.below (by repeat (first | with_reducible exact Below.refl _ _ | with_reducible assumption | with_reducible refine Below.drew ?_ | with_reducible refine Below.alloc ?_ (by first | exact Nat.le_refl _ | omega | (simp; done) | (simp; omega)) _ | with_reducible refine Below.setCell ?_ (by first | exact Nat.le_refl _ | omega | (simp; done) | (simp; omega)) _ | (with_reducible refine ext_trans ?_ (by with_reducible assumption)))))).mono ?_
      rintro e w1 ⟨rfl, hb1⟩
      have hz1 := hb1.size
      simp at hz1
      have ha : w1.heap[w.heap.size]? = some (.cells #[.int .i64 e, .bool m1.u, .int .u64 (uI m1.k), .int .u64 (uI m1.l), .slice A1 m1.rs.length c1, .bool m2.u, .int .u64 (uI m2.k), .int .u64 (uI m2.l), .slice A2 m2.rs.length c2, .bool false] 29 (0, 0)) := (hb1.block _ (by first | (simp; done) | (simp; omega))).trans (by repeat (first | exact heap_new _ _ _ (by first | rfl | (simp; done) | (simp; omega)) | refine (Below.heap_alloc _ _ _ (by first | omega | (simp; done) | (simp; omega))).trans ?_))
      have r0_ha := cell_of_row _ _ 0 _ _ _ ha
      have r1_ha := cell_of_row _ _ 1 _ _ _ ha
      have r2_ha := cell_of_row _ _ 2 _ _ _ ha
      have r3_ha := cell_of_row _ _ 3 _ _ _ ha
      have r4_ha := cell_of_row _ _ 4 _ _ _ ha
      have r5_ha := cell_of_row _ _ 5 _ _ _ ha
      have r6_ha := cell_of_row _ _ 6 _ _ _ ha
      have r7_ha := cell_of_row _ _ 7 _ _ _ ha
      have r8_ha := cell_of_row _ _ 8 _ _ _ ha
      have r9_ha := cell_of_row _ _ 9 _ _ _ ha
      have f0_ha := frozen_of_row _ _ 0 _ _ ha
      have f1_ha := frozen_of_row _ _ 1 _ _ ha
      have f2_ha := frozen_of_row _ _ 2 _ _ ha
      have f3_ha := frozen_of_row _ _ 3 _ _ ha
      have f4_ha := frozen_of_row _ _ 4 _ _ ha
      have f5_ha := frozen_of_row _ _ 5 _ _ ha
      have f6_ha := frozen_of_row _ _ 6 _ _ ha
      have f7_ha := frozen_of_row _ _ 7 _ _ ha
      have f8_ha := frozen_of_row _ _ 8 _ _ ha
      have f9_ha := frozen_of_row _ _ 9 _ _ ha
      simp at r0_ha r1_ha r2_ha r3_ha r4_ha r5_ha r6_ha r7_ha r8_ha r9_ha
      have HA := Lib.hid ha
      clear ha
      cases B1
      · go_wp2_with fail
        go_ret
        exact ⟨by simp, (by repeat (first | with_reducible exact Below.refl _ _ | with_reducible assumption | with_reducible refine Below.drew ?_ | with_reducible refine Below.alloc ?_ (by first | exact Nat.le_refl _ | omega | (simp; done) | (simp; omega)) _ | with_reducible refine Below.setCell ?_ (by first | exact Nat.le_refl _ | omega | (simp; done) | (simp; omega)) _ | (with_reducible refine ext_trans ?_ (by with_reducible assumption))))⟩
      go_wp2_with fail
      refine (MacOkB m2 _ B2 HB2.out F2.out _ (H2.out.below (by repeat (first | with_reducible exact Below.refl _ _ | with_reducible assumption | with_reducible refine Below.drew ?_ | with_reducible refine Below.alloc ?_ (by first | exact Nat.le_refl _ | omega | (simp; done) | (simp; omega)) _ | with_reducible refine Below.setCell ?_ (by first | exact Nat.le_refl _ | omega | (simp; done) | (simp; omega)) _ | (with_reducible refine ext_trans ?_ (by with_reducible assumption)))))).mono ?_
      rintro e w2 ⟨rfl, hb2⟩
      have hz2 := hb2.size
      (try simp at hz2)
      have ha2 : w2.heap[w.heap.size]? = some (.cells #[.int .i64 e, .bool m1.u, .int .u64 (uI m1.k), .int .u64 (uI m1.l), .slice A1 m1.rs.length c1, .bool m2.u, .int .u64 (uI m2.k), .int .u64 (uI m2.l), .slice A2 m2.rs.length c2, .bool false] 29 (0, 0)) := (hb2.block _ (by first | omega | (simp; done) | (simp; omega))).trans HA.out
      have r0_ha2 := cell_of_row _ _ 0 _ _ _ ha2
      have r1_ha2 := cell_of_row _ _ 1 _ _ _ ha2
      have r2_ha2 := cell_of_row _ _ 2 _ _ _ ha2
      have r3_ha2 := cell_of_row _ _ 3 _ _ _ ha2
      have r4_ha2 := cell_of_row _ _ 4 _ _ _ ha2
      have r5_ha2 := cell_of_row _ _ 5 _ _ _ ha2
      have r6_ha2 := cell_of_row _ _ 6 _ _ _ ha2
      have r7_ha2 := cell_of_row _ _ 7 _ _ _ ha2
      have r8_ha2 := cell_of_row _ _ 8 _ _ _ ha2
      have r9_ha2 := cell_of_row _ _ 9 _ _ _ ha2
      have f0_ha2 := frozen_of_row _ _ 0 _ _ ha2
      have f1_ha2 := frozen_of_row _ _ 1 _ _ ha2
      have f2_ha2 := frozen_of_row _ _ 2 _ _ ha2
      have f3_ha2 := frozen_of_row _ _ 3 _ _ ha2
      have f4_ha2 := frozen_of_row _ _ 4 _ _ ha2
      have f5_ha2 := frozen_of_row _ _ 5 _ _ ha2
      have f6_ha2 := frozen_of_row _ _ 6 _ _ ha2
      have f7_ha2 := frozen_of_row _ _ 7 _ _ ha2
      have f8_ha2 := frozen_of_row _ _ 8 _ _ ha2
      have f9_ha2 := frozen_of_row _ _ 9 _ _ ha2
      simp at r0_ha2 r1_ha2 r2_ha2 r3_ha2 r4_ha2 r5_ha2 r6_ha2 r7_ha2 r8_ha2 r9_ha2
      clear ha2
      clear r0_ha r1_ha r2_ha r3_ha r4_ha r5_ha r6_ha r7_ha r8_ha r9_ha f0_ha f1_ha f2_ha f3_ha f4_ha f5_ha f6_ha f7_ha f8_ha f9_ha
      cases B2
      · go_wp2_with fail
        go_ret
        exact ⟨by simp, (by repeat (first | with_reducible exact Below.refl _ _ | with_reducible assumption | with_reducible refine Below.drew ?_ | with_reducible refine Below.alloc ?_ (by first | exact Nat.le_refl _ | omega | (simp; done) | (simp; omega)) _ | with_reducible refine Below.setCell ?_ (by first | exact Nat.le_refl _ | omega | (simp; done) | (simp; omega)) _ | (with_reducible refine ext_trans ?_ (by with_reducible assumption))))⟩
      go_wp2_with fail
      refine (MacZeroB m2 _ B3 HB3.out F2.out _ (H2.out.below (by repeat (first | with_reducible exact Below.refl _ _ | with_reducible assumption | with_reducible refine Below.drew ?_ | with_reducible refine Below.alloc ?_ (by first | exact Nat.le_refl _ | omega | (simp; done) | (simp; omega)) _ | with_reducible refine Below.setCell ?_ (by first | exact Nat.le_refl _ | omega | (simp; done) | (simp; omega)) _ | (with_reducible refine ext_trans ?_ (by with_reducible assumption)))))).mono ?_
      rintro e w3 ⟨rfl, hb3⟩
      go_wp2_with fail
      go_ret
      exact ⟨by simp, (by repeat (first | with_reducible exact Below.refl _ _ | with_reducible assumption | with_reducible refine Below.drew ?_ | with_reducible refine Below.alloc ?_ (by first | exact Nat.le_refl _ | omega | (simp; done) | (simp; omega)) _ | with_reducible refine Below.setCell ?_ (by first | exact Nat.le_refl _ | omega | (simp; done) | (simp; omega)) _ | (with_reducible refine ext_trans ?_ (by with_reducible assumption))))⟩
    · have hw := Bool.eq_false_iff.2 hw
      go_enter Try.func18, Try.ntmps18
      go_wp2_with (go_at_call 52; refine (within_any _ _ _ _).mono ?_; rintro e w' ⟨rfl, rfl⟩)
      go_ret
      exact ⟨by simp, (by repeat (first | with_reducible exact Below.refl _ _ | with_reducible assumption | with_reducible refine Below.drew ?_ | with_reducible refine Below.alloc ?_ (by first | exact Nat.le_refl _ | omega | (simp; done) | (simp; omega)) _ | with_reducible refine Below.setCell ?_ (by first | exact Nat.le_refl _ | omega | (simp; done) | (simp; omega)) _ | (with_reducible refine ext_trans ?_ (by with_reducible assumption))))⟩
  · by_cases hw : inB e 1 4294967295 = true
    · go_enter Try.func18, Try.ntmps18
      go_wp2_with (go_at_call 52; refine (within_any _ _ _ _).mono ?_; rintro e w' ⟨rfl, rfl⟩)
      refine (MacOkB m1 _ B1 HB1.out F1.out _ (H1.out.below (by repeat (first | with_reducible exact Below.refl _ _ | with_reducible assumption | with_reducible refine Below.drew ?_ | with_reducible refine Below.alloc ?_ (by first | exact Nat.le_refl _ | omega | (simp; done) | (simp; omega)) _ | with_reducible refine Below.setCell ?_ (by first | exact Nat.le_refl _ | omega | (simp; done) | (simp; omega)) _ | (with_reducible refine ext_trans ?_ (by with_reducible assumption)))))).mono ?_
      rintro e w1 ⟨rfl, hb1⟩
      have hz1 := hb1.size
      simp at hz1
      have ha : w1.heap[w.heap.size]? = some (.cells #[.int .i64 e, .bool m1.u, .int .u64 (uI m1.k), .int .u64 (uI m1.l), .slice A1 m1.rs.length c1, .bool m2.u, .int .u64 (uI m2.k), .int .u64 (uI m2.l), .slice A2 m2.rs.length c2, .bool true] 29 (0, 0)) := (hb1.block _ (by first | (simp; done) | (simp; omega))).trans (by repeat (first | exact heap_new _ _ _ (by first | rfl | (simp; done) | (simp; omega)) | refine (Below.heap_alloc _ _ _ (by first | omega | (simp; done) | (simp; omega))).trans ?_))
      have r0_ha := cell_of_row _ _ 0 _ _ _ ha
      have r1_ha := cell_of_row _ _ 1 _ _ _ ha
      have r2_ha := cell_of_row _ _ 2 _ _ _ ha
      have r3_ha := cell_of_row _ _ 3 _ _ _ ha
      have r4_ha := cell_of_row _ _ 4 _ _ _ ha
      have r5_ha := cell_of_row _ _ 5 _ _ _ ha
      have r6_ha := cell_of_row _ _ 6 _ _ _ ha
      have r7_ha := cell_of_row _ _ 7 _ _ _ ha
      have r8_ha := cell_of_row _ _ 8 _ _ _ ha
      have r9_ha := cell_of_row _ _ 9 _ _ _ ha
      have f0_ha := frozen_of_row _ _ 0 _ _ ha
      have f1_ha := frozen_of_row _ _ 1 _ _ ha
      have f2_ha := frozen_of_row _ _ 2 _ _ ha
      have f3_ha := frozen_of_row _ _ 3 _ _ ha
      have f4_ha := frozen_of_row _ _ 4 _ _ ha
      have f5_ha := frozen_of_row _ _ 5 _ _ ha
      have f6_ha := frozen_of_row _ _ 6 _ _ ha
      have f7_ha := frozen_of_row _ _ 7 _ _ ha
      have f8_ha := frozen_of_row _ _ 8 _ _ ha
      have f9_ha := frozen_of_row _ _ 9 _ _ ha
      simp at r0_ha r1_ha r2_ha r3_ha r4_ha r5_ha r6_ha r7_ha r8_ha r9_ha
      have HA := Lib.hid ha
      clear ha
      cases B1
      · go_wp2_with fail
        go_ret
        exact ⟨by simp, (by repeat (first | with_reducible exact Below.refl _ _ | with_reducible assumption | with_reducible refine Below.drew ?_ | with_reducible refine Below.alloc ?_ (by first | exact Nat.le_refl _ | omega | (simp; done) | (simp; omega)) _ | with_reducible refine Below.setCell ?_ (by first | exact Nat.le_refl _ | omega | (simp; done) | (simp; omega)) _ | (with_reducible refine ext_trans ?_ (by with_reducible assumption))))⟩
      go_wp2_with fail
      refine (MacOkB m2 _ B2 HB2.out F2.out _ (H2.out.below (by repeat (first | with_reducible exact Below.refl _ _ | with_reducible assumption | with_reducible refine Below.drew ?_ | with_reducible refine Below.alloc ?_ (by first | exact Nat.le_refl _ | omega | (simp; done) | (simp; omega)) _ | with_reducible refine Below.setCell ?_ (by first | exact Nat.le_refl _ | omega | (simp; done) | (simp; omega)) _ | (with_reducible refine ext_trans ?_ (by with_reducible assumption)))))).mono ?_
      rintro e w2 ⟨rfl, hb2⟩
      have hz2 := hb2.size
      (try simp at hz2)
      have ha2 : w2.heap[w.heap.size]? = some (.cells #[.int .i64 e, .bool m1.u, .int .u64 (uI m1.k), .int .u64 (uI m1.l), .slice A1 m1.rs.length c1, .bool m2.u, .int .u64 (uI m2.k), .int .u64 (uI m2.l), .slice A2 m2.rs.length c2, .bool true] 29 (0, 0)) := (hb2.block _ (by first | omega | (simp; done) | (simp; omega))).trans HA.out
      have r0_ha2 := cell_of_row _ _ 0 _ _ _ ha2
      have r1_ha2 := cell_of_row _ _ 1 _ _ _ ha2
      have r2_ha2 := cell_of_row _ _ 2 _ _ _ ha2
      have r3_ha2 := cell_of_row _ _ 3 _ _ _ ha2
      have r4_ha2 := cell_of_row _ _ 4 _ _ _ ha2
      have r5_ha2 := cell_of_row _ _ 5 _ _ _ ha2
      have r6_ha2 := cell_of_row _ _ 6 _ _ _ ha2
      have r7_ha2 := cell_of_row _ _ 7 _ _ _ ha2
      have r8_ha2 := cell_of_row _ _ 8 _ _ _ ha2
      have r9_ha2 := cell_of_row _ _ 9 _ _ _ ha2
      have f0_ha2 := frozen_of_row _ _ 0 _ _ ha2
      have f1_ha2 := frozen_of_row _ _ 1 _ _ ha2
      have f2_ha2 := frozen_of_row _ _ 2 _ _ ha2
      have f3_ha2 := frozen_of_row _ _ 3 _ _ ha2
      have f4_ha2 := frozen_of_row _ _ 4 _ _ ha2
      have f5_ha2 := frozen_of_row _ _ 5 _ _ ha2
      have f6_ha2 := frozen_of_row _ _ 6 _ _ ha2
      have f7_ha2 := frozen_of_row _ _ 7 _ _ ha2
      have f8_ha2 := frozen_of_row _ _ 8 _ _ ha2
      have f9_ha2 := frozen_of_row _ _ 9 _ _ ha2
      simp at r0_ha2 r1_ha2 r2_ha2 r3_ha2 r4_ha2 r5_ha2 r6_ha2 r7_ha2 r8_ha2 r9_ha2
      clear ha2
      clear r0_ha r1_ha r2_ha r3_ha r4_ha r5_ha r6_ha r7_ha r8_ha r9_ha f0_ha f1_ha f2_ha f3_ha f4_ha f5_ha f6_ha f7_ha f8_ha f9_ha
      cases B2
      · go_wp2_with fail
        go_ret
        exact ⟨by simp, (by repeat (first | with_reducible exact Below.refl _ _ | with_reducible assumption | with_reducible refine Below.drew ?_ | with_reducible refine Below.alloc ?_ (by first | exact Nat.le_refl _ | omega | (simp; done) | (simp; omega)) _ | with_reducible refine Below.setCell ?_ (by first | exact Nat.le_refl _ | omega | (simp; done) | (simp; omega)) _ | (with_reducible refine ext_trans ?_ (by with_reducible assumption))))⟩
      go_wp2_with fail
      go_ret
      exact ⟨by simp, (by repeat (first | with_reducible exact Below.refl _ _ | with_reducible assumption | with_reducible refine Below.drew ?_ | with_reducible refine Below.alloc ?_ (by first | exact Nat.le_refl _ | omega | (simp; done) | (simp; omega)) _ | with_reducible refine Below.setCell ?_ (by first | exact Nat.le_refl _ | omega | (simp; done) | (simp; omega)) _ | (with_reducible refine ext_trans ?_ (by with_reducible assumption))))⟩
    · have hw := Bool.eq_false_iff.2 hw
      go_enter Try.func18, Try.ntmps18
      go_wp2_with (go_at_call 52; refine (within_any _ _ _ _).mono ?_; rintro e w' ⟨rfl, rfl⟩)
      go_ret
      exact ⟨by simp, (by repeat (first | with_reducible exact Below.refl _ _ | with_reducible assumption | with_reducible refine Below.drew ?_ | with_reducible refine Below.alloc ?_ (by first | exact Nat.le_refl _ | omega | (simp; done) | (simp; omega)) _ | with_reducible refine Below.setCell ?_ (by first | exact Nat.le_refl _ | omega | (simp; done) | (simp; omega)) _ | (with_reducible refine ext_trans ?_ (by with_reducible assumption))))⟩

theorem sMacOkB (m : RMac) (v : Value) (B : Bool) (hB : m.ok = B) (hf : m.fits) (w : World) (h : RdMacRow w v m.rs) :
    Calls Try.prog 22 #[vMc m v] w fun e w' => e = .returned (.bool B) ∧ Below w.heap.size w w' := by
  subst hB
  exact sMacOk_any _ _ _ _ _ hf.1 w h hf.2
theorem sMacZeroB (m : RMac) (v : Value) (B : Bool) (hB : m.zero = B) (hf : m.fits) (w : World) (h : RdMacRow w v m.rs) :
    Calls Try.prog 50 #[vMc m v, vM false 0 0 (.slice none 0 0)] w fun e w' => e = .returned (.bool B) ∧ Below w.heap.size w w' := by
  subst hB
  exact sSameMac_any _ _ _ _ _ _ _ _ _ [] hf.1 (Nat.zero_le _) w h (rd_nil _ _)

set_option maxHeartbeats 2000000 in
theorem sKeysOk_any (x : RKeys) (v1 v2 : Value) (f1 : x.now.fits) (f2 : x.bef.fits) (w : World) (h1 : RdMacRow w v1 x.now.rs) (h2 : RdMacRow w v2 x.bef.rs) :
    Calls Try.prog 15 #[vK x v1 v2] w fun e w' => e = .returned (.bool x.ok) ∧ Below w.heap.size w w' := by
  obtain ⟨A1, c1, rfl, -⟩ := id h1
  obtain ⟨A2, c2, rfl, -⟩ := id h2
  obtain ⟨e, m1, m2, t⟩ := x
  dsimp only at *
  have H1 := Lib.hid h1
  have H2 := Lib.hid h2
  have F1 := Lib.hid f1
  have F2 := Lib.hid f2
  clear h1 h2 f1 f2
  obtain ⟨B1, hB1⟩ : ∃ B, m1.ok = B := ⟨_, rfl⟩
  obtain ⟨B2, hB2⟩ : ∃ B, m2.ok = B := ⟨_, rfl⟩
  obtain ⟨B3, hB3⟩ : ∃ B, m2.zero = B := ⟨_, rfl⟩
  have hs : RKeys.ok ⟨e, m1, m2, t⟩ = (inB e (if t then 1 else 0) 4294967295 && (B1 && (B2 && (t || B3)))) := by simp only [RKeys.ok, hB1, hB2, hB3]
  rw [hs]
  have HB1 := Lib.hid hB1
  have HB2 := Lib.hid hB2
  have HB3 := Lib.hid hB3
  clear hs hB1 hB2 hB3
  cases t
  · by_cases hw : wordB e 32 = true
    · rw [wordB32] at hw
      have HW := Lib.hid hw
      rw [← wordB32] at hw
      go_enter Try.func15, Try.ntmps15
      go_wp2_with (go_at_call 17; refine (sWordOk_any _ _ _).mono ?_; rintro e w' ⟨rfl, rfl⟩)
      refine (sMacOkB m1 _ B1 HB1.out F1.out _ (H1.out.below (by repeat (first | with_reducible exact Below.refl _ _ | with_reducible assumption | with_reducible refine Below.drew ?_ | with_reducible refine Below.alloc ?_ (by first | exact Nat.le_refl _ | omega | (simp; done) | (simp; omega)) _ | with_reducible refine Below.setCell ?_ (by first | exact Nat.le_refl _ | omega | (simp; done) | (simp; omega)) _ | (with_reducible refine ext_trans ?_ (by with_reducible assumption)))))).mono ?_
      rintro e w1 ⟨rfl, hb1⟩
      have hz1 := hb1.size
      simp at hz1
      have ha : w1.heap[w.heap.size]? = some (.cells #[.int .i64 e, .bool m1.u, .int .u64 (uI m1.k), .int .u64 (uI m1.l), .slice A1 m1.rs.length c1, .bool m2.u, .int .u64 (uI m2.k), .int .u64 (uI m2.l), .slice A2 m2.rs.length c2, .bool false] 29 (0, 0)) := (hb1.block _ (by first | (simp; done) | (simp; omega))).trans (by repeat (first | exact heap_new _ _ _ (by first | rfl | (simp; done) | (simp; omega)) | refine (Below.heap_alloc _ _ _ (by first | omega | (simp; done) | (simp; omega))).trans ?_))
      have r0_ha := cell_of_row _ _ 0 _ _ _ ha
      have r1_ha := cell_of_row _ _ 1 _ _ _ ha
      have r2_ha := cell_of_row _ _ 2 _ _ _ ha
      have r3_ha := cell_of_row _ _ 3 _ _ _ ha
      have r4_ha := cell_of_row _ _ 4 _ _ _ ha
      have r5_ha := cell_of_row _ _ 5 _ _ _ ha
      have r6_ha := cell_of_row _ _ 6 _ _ _ ha
      have r7_ha := cell_of_row _ _ 7 _ _ _ ha
      have r8_ha := cell_of_row _ _ 8 _ _ _ ha
      have r9_ha := cell_of_row _ _ 9 _ _ _ ha
      have f0_ha := frozen_of_row _ _ 0 _ _ ha
      have f1_ha := frozen_of_row _ _ 1 _ _ ha
      have f2_ha := frozen_of_row _ _ 2 _ _ ha
      have f3_ha := frozen_of_row _ _ 3 _ _ ha
      have f4_ha := frozen_of_row _ _ 4 _ _ ha
      have f5_ha := frozen_of_row _ _ 5 _ _ ha
      have f6_ha := frozen_of_row _ _ 6 _ _ ha
      have f7_ha := frozen_of_row _ _ 7 _ _ ha
      have f8_ha := frozen_of_row _ _ 8 _ _ ha
      have f9_ha := frozen_of_row _ _ 9 _ _ ha
      simp at r0_ha r1_ha r2_ha r3_ha r4_ha r5_ha r6_ha r7_ha r8_ha r9_ha
      have HA := Lib.hid ha
      clear ha
      cases B1
      · go_wp2_with fail
        go_ret
        exact ⟨by simp, (by repeat (first | with_reducible exact Below.refl _ _ | with_reducible assumption | with_reducible refine Below.drew ?_ | with_reducible refine Below.alloc ?_ (by first | exact Nat.le_refl _ | omega | (simp; done) | (simp; omega)) _ | with_reducible refine Below.setCell ?_ (by first | exact Nat.le_refl _ | omega | (simp; done) | (simp; omega)) _ | (with_reducible refine ext_trans ?_ (by with_reducible assumption))))⟩
      go_wp2_with fail
      refine (sMacOkB m2 _ B2 HB2.out F2.out _ (H2.out.below (by repeat (first | with_reducible exact Below.refl _ _ | with_reducible assumption | with_reducible refine Below.drew ?_ | with_reducible refine Below.alloc ?_ (by first | exact Nat.le_refl _ | omega | (simp; done) | (simp; omega)) _ | with_reducible refine Below.setCell ?_ (by first | exact Nat.le_refl _ | omega | (simp; done) | (simp; omega)) _ | (with_reducible refine ext_trans ?_ (by with_reducible assumption)))))).mono ?_
      rintro e w2 ⟨rfl, hb2⟩
      have hz2 := hb2.size
      (try simp at hz2)
      have ha2 : w2.heap[w.heap.size]? = some (.cells #[.int .i64 e, .bool m1.u, .int .u64 (uI m1.k), .int .u64 (uI m1.l), .slice A1 m1.rs.length c1, .bool m2.u, .int .u64 (uI m2.k), .int .u64 (uI m2.l), .slice A2 m2.rs.length c2, .bool false] 29 (0, 0)) := (hb2.block _ (by first | omega | (simp; done) | (simp; omega))).trans HA.out
      have r0_ha2 := cell_of_row _ _ 0 _ _ _ ha2
      have r1_ha2 := cell_of_row _ _ 1 _ _ _ ha2
      have r2_ha2 := cell_of_row _ _ 2 _ _ _ ha2
      have r3_ha2 := cell_of_row _ _ 3 _ _ _ ha2
      have r4_ha2 := cell_of_row _ _ 4 _ _ _ ha2
      have r5_ha2 := cell_of_row _ _ 5 _ _ _ ha2
      have r6_ha2 := cell_of_row _ _ 6 _ _ _ ha2
      have r7_ha2 := cell_of_row _ _ 7 _ _ _ ha2
      have r8_ha2 := cell_of_row _ _ 8 _ _ _ ha2
      have r9_ha2 := cell_of_row _ _ 9 _ _ _ ha2
      have f0_ha2 := frozen_of_row _ _ 0 _ _ ha2
      have f1_ha2 := frozen_of_row _ _ 1 _ _ ha2
      have f2_ha2 := frozen_of_row _ _ 2 _ _ ha2
      have f3_ha2 := frozen_of_row _ _ 3 _ _ ha2
      have f4_ha2 := frozen_of_row _ _ 4 _ _ ha2
      have f5_ha2 := frozen_of_row _ _ 5 _ _ ha2
      have f6_ha2 := frozen_of_row _ _ 6 _ _ ha2
      have f7_ha2 := frozen_of_row _ _ 7 _ _ ha2
      have f8_ha2 := frozen_of_row _ _ 8 _ _ ha2
      have f9_ha2 := frozen_of_row _ _ 9 _ _ ha2
      simp at r0_ha2 r1_ha2 r2_ha2 r3_ha2 r4_ha2 r5_ha2 r6_ha2 r7_ha2 r8_ha2 r9_ha2
      clear ha2
      clear r0_ha r1_ha r2_ha r3_ha r4_ha r5_ha r6_ha r7_ha r8_ha r9_ha f0_ha f1_ha f2_ha f3_ha f4_ha f5_ha f6_ha f7_ha f8_ha f9_ha
      cases B2
      · go_wp2_with fail
        go_ret
        exact ⟨by simp, (by repeat (first | with_reducible exact Below.refl _ _ | with_reducible assumption | with_reducible refine Below.drew ?_ | with_reducible refine Below.alloc ?_ (by first | exact Nat.le_refl _ | omega | (simp; done) | (simp; omega)) _ | with_reducible refine Below.setCell ?_ (by first | exact Nat.le_refl _ | omega | (simp; done) | (simp; omega)) _ | (with_reducible refine ext_trans ?_ (by with_reducible assumption))))⟩
      go_wp2_with fail
      refine (sMacZeroB m2 _ B3 HB3.out F2.out _ (H2.out.below (by repeat (first | with_reducible exact Below.refl _ _ | with_reducible assumption | with_reducible refine Below.drew ?_ | with_reducible refine Below.alloc ?_ (by first | exact Nat.le_refl _ | omega | (simp; done) | (simp; omega)) _ | with_reducible refine Below.setCell ?_ (by first | exact Nat.le_refl _ | omega | (simp; done) | (simp; omega)) _ | (with_reducible refine ext_trans ?_ (by with_reducible assumption)))))).mono ?_
      rintro e w3 ⟨rfl, hb3⟩
      go_wp2_with fail
      go_ret
      exact ⟨by simp [HW.out], (by repeat (first | with_reducible exact Below.refl _ _ | with_reducible assumption | with_reducible refine Below.drew ?_ | with_reducible refine Below.alloc ?_ (by first | exact Nat.le_refl _ | omega | (simp; done) | (simp; omega)) _ | with_reducible refine Below.setCell ?_ (by first | exact Nat.le_refl _ | omega | (simp; done) | (simp; omega)) _ | (with_reducible refine ext_trans ?_ (by with_reducible assumption))))⟩
    · have hw := Bool.eq_false_iff.2 hw
      have hw2 := hw
      rw [wordB32] at hw2
      have h3 : inB e 1 4294967295 = false := inB_not.2 (by have := inB_not.1 hw2; omega)
      have HW := Lib.hid hw2
      have H3 := Lib.hid h3
      clear hw2 h3
      go_enter Try.func15, Try.ntmps15
      go_wp2_with (go_at_call 17; refine (sWordOk_any _ _ _).mono ?_; rintro e w' ⟨rfl, rfl⟩)
      go_ret
      exact ⟨by simp [HW.out], (by repeat (first | with_reducible exact Below.refl _ _ | with_reducible assumption | with_reducible refine Below.drew ?_ | with_reducible refine Below.alloc ?_ (by first | exact Nat.le_refl _ | omega | (simp; done) | (simp; omega)) _ | with_reducible refine Below.setCell ?_ (by first | exact Nat.le_refl _ | omega | (simp; done) | (simp; omega)) _ | (with_reducible refine ext_trans ?_ (by with_reducible assumption))))⟩
  · by_cases hw : wordB e 32 = true
    · rw [wordB32] at hw
      have HW := Lib.hid hw
      rw [← wordB32] at hw
      go_enter Try.func15, Try.ntmps15
      go_wp2_with (go_at_call 17; refine (sWordOk_any _ _ _).mono ?_; rintro e w' ⟨rfl, rfl⟩)
      refine (sMacOkB m1 _ B1 HB1.out F1.out _ (H1.out.below (by repeat (first | with_reducible exact Below.refl _ _ | with_reducible assumption | with_reducible refine Below.drew ?_ | with_reducible refine Below.alloc ?_ (by first | exact Nat.le_refl _ | omega | (simp; done) | (simp; omega)) _ | with_reducible refine Below.setCell ?_ (by first | exact Nat.le_refl _ | omega | (simp; done) | (simp; omega)) _ | (with_reducible refine ext_trans ?_ (by with_reducible assumption)))))).mono ?_
      rintro e w1 ⟨rfl, hb1⟩
      have hz1 := hb1.size
      simp at hz1
      have ha : w1.heap[w.heap.size]? = some (.cells #[.int .i64 e, .bool m1.u, .int .u64 (uI m1.k), .int .u64 (uI m1.l), .slice A1 m1.rs.length c1, .bool m2.u, .int .u64 (uI m2.k), .int .u64 (uI m2.l), .slice A2 m2.rs.length c2, .bool true] 29 (0, 0)) := (hb1.block _ (by first | (simp; done) | (simp; omega))).trans (by repeat (first | exact heap_new _ _ _ (by first | rfl | (simp; done) | (simp; omega)) | refine (Below.heap_alloc _ _ _ (by first | omega | (simp; done) | (simp; omega))).trans ?_))
      have r0_ha := cell_of_row _ _ 0 _ _ _ ha
      have r1_ha := cell_of_row _ _ 1 _ _ _ ha
      have r2_ha := cell_of_row _ _ 2 _ _ _ ha
      have r3_ha := cell_of_row _ _ 3 _ _ _ ha
      have r4_ha := cell_of_row _ _ 4 _ _ _ ha
      have r5_ha := cell_of_row _ _ 5 _ _ _ ha
      have r6_ha := cell_of_row _ _ 6 _ _ _ ha
      have r7_ha := cell_of_row _ _ 7 _ _ _ ha
      have r8_ha := cell_of_row _ _ 8 _ _ _ ha
      have r9_ha := cell_of_row _ _ 9 _ _ _ ha
      have f0_ha := frozen_of_row _ _ 0 _ _ ha
      have f1_ha := frozen_of_row _ _ 1 _ _ ha
      have f2_ha := frozen_of_row _ _ 2 _ _ ha
      have f3_ha := frozen_of_row _ _ 3 _ _ ha
      have f4_ha := frozen_of_row _ _ 4 _ _ ha
      have f5_ha := frozen_of_row _ _ 5 _ _ ha
      have f6_ha := frozen_of_row _ _ 6 _ _ ha
      have f7_ha := frozen_of_row _ _ 7 _ _ ha
      have f8_ha := frozen_of_row _ _ 8 _ _ ha
      have f9_ha := frozen_of_row _ _ 9 _ _ ha
      simp at r0_ha r1_ha r2_ha r3_ha r4_ha r5_ha r6_ha r7_ha r8_ha r9_ha
      have HA := Lib.hid ha
      clear ha
      cases B1
      · go_wp2_with fail
        go_ret
        exact ⟨by simp, (by repeat (first | with_reducible exact Below.refl _ _ | with_reducible assumption | with_reducible refine Below.drew ?_ | with_reducible refine Below.alloc ?_ (by first | exact Nat.le_refl _ | omega | (simp; done) | (simp; omega)) _ | with_reducible refine Below.setCell ?_ (by first | exact Nat.le_refl _ | omega | (simp; done) | (simp; omega)) _ | (with_reducible refine ext_trans ?_ (by with_reducible assumption))))⟩
      go_wp2_with fail
      refine (sMacOkB m2 _ B2 HB2.out F2.out _ (H2.out.below (by repeat (first | with_reducible exact Below.refl _ _ | with_reducible assumption | with_reducible refine Below.drew ?_ | with_reducible refine Below.alloc ?_ (by first | exact Nat.le_refl _ | omega | (simp; done) | (simp; omega)) _ | with_reducible refine Below.setCell ?_ (by first | exact Nat.le_refl _ | omega | (simp; done) | (simp; omega)) _ | (with_reducible refine ext_trans ?_ (by with_reducible assumption)))))).mono ?_
      rintro e w2 ⟨rfl, hb2⟩
      have hz2 := hb2.size
      (try simp at hz2)
      have ha2 : w2.heap[w.heap.size]? = some (.cells #[.int .i64 e, .bool m1.u, .int .u64 (uI m1.k), .int .u64 (uI m1.l), .slice A1 m1.rs.length c1, .bool m2.u, .int .u64 (uI m2.k), .int .u64 (uI m2.l), .slice A2 m2.rs.length c2, .bool true] 29 (0, 0)) := (hb2.block _ (by first | omega | (simp; done) | (simp; omega))).trans HA.out
      have r0_ha2 := cell_of_row _ _ 0 _ _ _ ha2
      have r1_ha2 := cell_of_row _ _ 1 _ _ _ ha2
      have r2_ha2 := cell_of_row _ _ 2 _ _ _ ha2
      have r3_ha2 := cell_of_row _ _ 3 _ _ _ ha2
      have r4_ha2 := cell_of_row _ _ 4 _ _ _ ha2
      have r5_ha2 := cell_of_row _ _ 5 _ _ _ ha2
      have r6_ha2 := cell_of_row _ _ 6 _ _ _ ha2
      have r7_ha2 := cell_of_row _ _ 7 _ _ _ ha2
      have r8_ha2 := cell_of_row _ _ 8 _ _ _ ha2
      have r9_ha2 := cell_of_row _ _ 9 _ _ _ ha2
      have f0_ha2 := frozen_of_row _ _ 0 _ _ ha2
      have f1_ha2 := frozen_of_row _ _ 1 _ _ ha2
      have f2_ha2 := frozen_of_row _ _ 2 _ _ ha2
      have f3_ha2 := frozen_of_row _ _ 3 _ _ ha2
      have f4_ha2 := frozen_of_row _ _ 4 _ _ ha2
      have f5_ha2 := frozen_of_row _ _ 5 _ _ ha2
      have f6_ha2 := frozen_of_row _ _ 6 _ _ ha2
      have f7_ha2 := frozen_of_row _ _ 7 _ _ ha2
      have f8_ha2 := frozen_of_row _ _ 8 _ _ ha2
      have f9_ha2 := frozen_of_row _ _ 9 _ _ ha2
      simp at r0_ha2 r1_ha2 r2_ha2 r3_ha2 r4_ha2 r5_ha2 r6_ha2 r7_ha2 r8_ha2 r9_ha2
      clear ha2
      clear r0_ha r1_ha r2_ha r3_ha r4_ha r5_ha r6_ha r7_ha r8_ha r9_ha f0_ha f1_ha f2_ha f3_ha f4_ha f5_ha f6_ha f7_ha f8_ha f9_ha
      cases B2
      · go_wp2_with fail
        go_ret
        exact ⟨by simp, (by repeat (first | with_reducible exact Below.refl _ _ | with_reducible assumption | with_reducible refine Below.drew ?_ | with_reducible refine Below.alloc ?_ (by first | exact Nat.le_refl _ | omega | (simp; done) | (simp; omega)) _ | with_reducible refine Below.setCell ?_ (by first | exact Nat.le_refl _ | omega | (simp; done) | (simp; omega)) _ | (with_reducible refine ext_trans ?_ (by with_reducible assumption))))⟩
      go_wp2_with fail
      go_ret
      refine ⟨congrArg Ending.returned (congrArg Value.bool ?_), (by repeat (first | with_reducible exact Below.refl _ _ | with_reducible assumption | with_reducible refine Below.drew ?_ | with_reducible refine Below.alloc ?_ (by first | exact Nat.le_refl _ | omega | (simp; done) | (simp; omega)) _ | with_reducible refine Below.setCell ?_ (by first | exact Nat.le_refl _ | omega | (simp; done) | (simp; omega)) _ | (with_reducible refine ext_trans ?_ (by with_reducible assumption))))⟩
      have h := inB_iff.1 HW.out
      by_cases h1 : 1 ≤ e
      · have h2 : inB e 1 4294967295 = true := inB_iff.2 ⟨h1, h.2⟩
        simp [h1, h2]
      · have h2 : inB e 1 4294967295 = false := inB_not.2 (by omega)
        simp [h1, h2]
    · have hw := Bool.eq_false_iff.2 hw
      have hw2 := hw
      rw [wordB32] at hw2
      have h3 : inB e 1 4294967295 = false := inB_not.2 (by have := inB_not.1 hw2; omega)
      have HW := Lib.hid hw2
      have H3 := Lib.hid h3
      clear hw2 h3
      go_enter Try.func15, Try.ntmps15
      go_wp2_with (go_at_call 17; refine (sWordOk_any _ _ _).mono ?_; rintro e w' ⟨rfl, rfl⟩)
      go_ret
      exact ⟨by simp [H3.out], (by repeat (first | with_reducible exact Below.refl _ _ | with_reducible assumption | with_reducible refine Below.drew ?_ | with_reducible refine Below.alloc ?_ (by first | exact Nat.le_refl _ | omega | (simp; done) | (simp; omega)) _ | with_reducible refine Below.setCell ?_ (by first | exact Nat.le_refl _ | omega | (simp; done) | (simp; omega)) _ | (with_reducible refine ext_trans ?_ (by with_reducible assumption))))⟩

end Go.Proofs.Ytjlnbjabehpncaa
