/-
  Contracts of the functions on Mac that the laws bring: to, sz, eq, mark, held.
-/
import Derived.Test.YtjlnbjabehpncaaRowMacRow
namespace Go.Proofs.Ytjlnbjabehpncaa
open Go.RowKit

abbrev vM (u : Bool) (k l : Int) (v : Value) : Value := .agg #[.bool u, .int .u64 k, .int .u64 l, v]
/-- A Mac made anew. -/
def NewMac (u : Bool) (k l : Int) (rs : List RMacRow) (W : World) (e : Ending) (w' : World) : Prop :=
  ∃ v, e = .returned (vM u k l v) ∧ OwnMacRow w' W.heap.size v rs ∧ Below W.heap.size W w'
theorem toMac_any (u : Bool) (k l : Int) (v : Value) (rs : List RMacRow) (hn : rs.length ≤ 1048576) (w : World) (h : RdMacRow w v rs) :
    Calls Try.prog 39 #[vM u k l v] w (NewMac u k l rs w) := by
  obtain ⟨A, c, rfl, _⟩ := id h
  have HH := Lib.hid h
  clear h
  go_enter Try.func39, Try.ntmps39
  go_wp2_with fail
  refine (toMacRowS_any _ rs hn _ (HH.out.below (by repeat (first | with_reducible exact Below.refl _ _ | with_reducible assumption | with_reducible refine Below.drew ?_ | with_reducible refine Below.alloc ?_ (by first | exact Nat.le_refl _ | omega | (simp; done) | (simp; omega)) _ | with_reducible refine Below.setCell ?_ (by first | exact Nat.le_refl _ | omega | (simp; done) | (simp; omega)) _ | (with_reducible refine ext_trans ?_ (by with_reducible assumption)))))).mono ?_
  rintro e w1 ⟨v, rfl, hO, hb1⟩
  obtain ⟨A1, c1, rfl⟩ := hO.form
  have hz1 := hb1.size
  simp at hz1
  have hr : w1.heap[w.heap.size + 1]? = some (.cells #[.bool false, .int .u64 0, .int .u64 0, .slice none 0 0] 27 (0, 0)) := (hb1.block _ (by first | (simp; done) | (simp; omega))).trans (by repeat (first | exact heap_new _ _ _ (by first | rfl | (simp; done) | (simp; omega)) | refine (Below.heap_alloc _ _ _ (by first | omega | (simp; done) | (simp; omega))).trans ?_))
  have ho : w1.heap[w.heap.size + 1 + 1]? = some (.cells #[.bool u, .int .u64 k, .int .u64 l, .slice none 0 0] 27 (0, 0)) := (hb1.block _ (by first | (simp; done) | (simp; omega))).trans (by repeat (first | exact heap_new _ _ _ (by first | rfl | (simp; done) | (simp; omega)) | refine (Below.heap_alloc _ _ _ (by first | omega | (simp; done) | (simp; omega))).trans ?_))
  have HO : Hid (OwnMacRow w1 (w.heap.size + 3) (.slice A1 rs.length c1) rs) := hO.mono (by simp)
  have hlt := (Array.getElem?_eq_some_iff.1 hr).1
  clear hO
  have r0_hr := cell_of_row _ _ 0 _ _ _ hr
  have r1_hr := cell_of_row _ _ 1 _ _ _ hr
  have r2_hr := cell_of_row _ _ 2 _ _ _ hr
  have r3_hr := cell_of_row _ _ 3 _ _ _ hr
  have f0_hr := frozen_of_row _ _ 0 _ _ hr
  have f1_hr := frozen_of_row _ _ 1 _ _ hr
  have f2_hr := frozen_of_row _ _ 2 _ _ hr
  have f3_hr := frozen_of_row _ _ 3 _ _ hr
  simp at r0_hr r1_hr r2_hr r3_hr
  have r0_ho := cell_of_row _ _ 0 _ _ _ ho
  have r1_ho := cell_of_row _ _ 1 _ _ _ ho
  have r2_ho := cell_of_row _ _ 2 _ _ _ ho
  have r3_ho := cell_of_row _ _ 3 _ _ _ ho
  have f0_ho := frozen_of_row _ _ 0 _ _ ho
  have f1_ho := frozen_of_row _ _ 1 _ _ ho
  have f2_ho := frozen_of_row _ _ 2 _ _ ho
  have f3_ho := frozen_of_row _ _ 3 _ _ ho
  simp at r0_ho r1_ho r2_ho r3_ho
  go_wp2_with fail
  apply bodyPost_ret (results_cell_row (P := Try.prog) (fn := Try.f39) rfl _ _ _ 27 _ (0, 0) _ rfl _ Try.underlying27 rfl _) rfl
  rotate_left 2
  · repeat (first | (with_reducible apply heap_setCell_same) | (with_reducible apply drew_row) | (with_reducible apply drewN_row) | (with_reducible exact hr) | (with_reducible refine (heap_setCell_other _ _ _ _ (by first | omega | (simp; done) | (simp; omega))).trans ?_) | (with_reducible refine (Below.heap_alloc _ _ _ (by first | omega | (simp; done) | (simp; omega))).trans ?_))
  · kernel_rfl
  exact ⟨_, by simp; rfl, OwnE.mono (base := w.heap.size + 3) (by repeat (first | with_reducible exact HO.out | (with_reducible refine OwnE.setBelow ?_ (by first | (simp; done) | (simp; omega)) _) | with_reducible refine OwnE.alloc ?_ _ | with_reducible refine OwnE.drew ?_)) (by omega), (by repeat (first | with_reducible exact Below.refl _ _ | with_reducible assumption | with_reducible refine Below.drew ?_ | with_reducible refine Below.alloc ?_ (by first | exact Nat.le_refl _ | omega | (simp; done) | (simp; omega)) _ | with_reducible refine Below.setCell ?_ (by first | exact Nat.le_refl _ | omega | (simp; done) | (simp; omega)) _ | (with_reducible refine ext_trans ?_ (by with_reducible assumption))))⟩
theorem szMac_any (u : Bool) (k l : Int) (v : Value) (rs : List RMacRow) (hfit : FitMacRow rs) (hn : rs.length ≤ maxLen) (left : Int) (h1 : 0 ≤ left) (h2 : left ≤ 1048576) (w : World) (h : RdMacRow w v rs) :
    Calls Try.prog 38 #[vM u k l v, .int .i64 left] w (SzMacRow rs left w) := by
  obtain ⟨A, c, rfl, _⟩ := id h
  have HH := Lib.hid h
  have HF := Lib.hid hfit
  have HN := Lib.hid hn
  clear h hfit hn
  go_enter Try.func38, Try.ntmps38
  go_wp2_with fail
  refine (szMacRowS_any _ rs HF.out HN.out left h1 h2 _ (HH.out.below (by repeat (first | with_reducible exact Below.refl _ _ | with_reducible assumption | with_reducible refine Below.drew ?_ | with_reducible refine Below.alloc ?_ (by first | exact Nat.le_refl _ | omega | (simp; done) | (simp; omega)) _ | with_reducible refine Below.setCell ?_ (by first | exact Nat.le_refl _ | omega | (simp; done) | (simp; omega)) _ | (with_reducible refine ext_trans ?_ (by with_reducible assumption)))))).mono ?_
  rintro e w1 ⟨x, rfl, ⟨hx1, hx2⟩, hx3, hb1⟩
  by_cases hx : x < 0
  · obtain rfl : x = -1 := by omega
    go_wp2_with fail
    go_ret
    exact ⟨_, rfl, ⟨by omega, by omega⟩, hx3, (by repeat (first | with_reducible exact Below.refl _ _ | with_reducible assumption | with_reducible refine Below.drew ?_ | with_reducible refine Below.alloc ?_ (by first | exact Nat.le_refl _ | omega | (simp; done) | (simp; omega)) _ | with_reducible refine Below.setCell ?_ (by first | exact Nat.le_refl _ | omega | (simp; done) | (simp; omega)) _ | (with_reducible refine ext_trans ?_ (by with_reducible assumption))))⟩
  · go_wp2_with fail
    go_ret
    exact ⟨_, rfl, ⟨by omega, by omega⟩, hx3, (by repeat (first | with_reducible exact Below.refl _ _ | with_reducible assumption | with_reducible refine Below.drew ?_ | with_reducible refine Below.alloc ?_ (by first | exact Nat.le_refl _ | omega | (simp; done) | (simp; omega)) _ | with_reducible refine Below.setCell ?_ (by first | exact Nat.le_refl _ | omega | (simp; done) | (simp; omega)) _ | (with_reducible refine ext_trans ?_ (by with_reducible assumption))))⟩
theorem eqMac_same (u : Bool) (k l : Int) (v1 v2 : Value) (rs : List RMacRow) (hn : rs.length ≤ maxLen) (w : World) (h1 : RdMacRow w v1 rs) (h2 : RdMacRow w v2 rs) :
    Calls Try.prog 34 #[vM u k l v1, vM u k l v2] w fun e w' => e = .returned (.bool true) ∧ Below w.heap.size w w' := by
  obtain ⟨A1, c1, rfl, _⟩ := id h1
  obtain ⟨A2, c2, rfl, _⟩ := id h2
  have H1 := Lib.hid h1
  have H2 := Lib.hid h2
  have HN := Lib.hid hn
  clear h1 h2 hn
  go_enter Try.func34, Try.ntmps34
  go_wp2_with fail
  refine (eqMacRowS_same _ _ rs HN.out _ (H1.out.below (by repeat (first | with_reducible exact Below.refl _ _ | with_reducible assumption | with_reducible refine Below.drew ?_ | with_reducible refine Below.alloc ?_ (by first | exact Nat.le_refl _ | omega | (simp; done) | (simp; omega)) _ | with_reducible refine Below.setCell ?_ (by first | exact Nat.le_refl _ | omega | (simp; done) | (simp; omega)) _ | (with_reducible refine ext_trans ?_ (by with_reducible assumption))))) (H2.out.below (by repeat (first | with_reducible exact Below.refl _ _ | with_reducible assumption | with_reducible refine Below.drew ?_ | with_reducible refine Below.alloc ?_ (by first | exact Nat.le_refl _ | omega | (simp; done) | (simp; omega)) _ | with_reducible refine Below.setCell ?_ (by first | exact Nat.le_refl _ | omega | (simp; done) | (simp; omega)) _ | (with_reducible refine ext_trans ?_ (by with_reducible assumption)))))).mono ?_
  rintro e w1 ⟨rfl, hb1⟩
  go_wp2_with fail
  go_ret
  exact ⟨rfl, (by repeat (first | with_reducible exact Below.refl _ _ | with_reducible assumption | with_reducible refine Below.drew ?_ | with_reducible refine Below.alloc ?_ (by first | exact Nat.le_refl _ | omega | (simp; done) | (simp; omega)) _ | with_reducible refine Below.setCell ?_ (by first | exact Nat.le_refl _ | omega | (simp; done) | (simp; omega)) _ | (with_reducible refine ext_trans ?_ (by with_reducible assumption))))⟩
theorem markMac_any (u : Bool) (k l : Int) (v : Value) (rs : List RMacRow) (hn : rs.length ≤ 1048576) (q : Nat) (hk1 : 1 ≤ q) (hk2 : q ≤ 100000000) (base : Nat) (w : World) (h : OwnMacRow w base v rs) :
    Calls Try.prog 36 #[vM u k l v, .int .i64 q] w (MarkedMacRow v rs.length q base w) := by
  obtain ⟨A, c, rfl⟩ := h.form
  have HH := Lib.hid h
  clear h
  go_enter Try.func36, Try.ntmps36
  go_wp2_with fail
  refine (markMacRowS_any _ rs hn q hk1 hk2 base _ (HH.out.below (by repeat (first | with_reducible exact Below.refl _ _ | with_reducible assumption | with_reducible refine Below.drew ?_ | with_reducible refine Below.alloc ?_ (by first | exact Nat.le_refl _ | omega | (simp; done) | (simp; omega)) _ | with_reducible refine Below.setCell ?_ (by first | exact Nat.le_refl _ | omega | (simp; done) | (simp; omega)) _ | (with_reducible refine ext_trans ?_ (by with_reducible assumption)))))).mono ?_
  rintro e w1 ⟨rfl, hO, hg⟩
  have HO := Lib.hid hO
  clear hO
  go_wp2_with fail
  go_ret
  exact ⟨rfl, HO.out, only_trans' (grown_below (by repeat (first | with_reducible exact Below.refl _ _ | with_reducible assumption | with_reducible refine Below.drew ?_ | with_reducible refine Below.alloc ?_ (by first | exact Nat.le_refl _ | omega | (simp; done) | (simp; omega)) _ | with_reducible refine Below.setCell ?_ (by first | exact Nat.le_refl _ | omega | (simp; done) | (simp; omega)) _ | (with_reducible refine ext_trans ?_ (by with_reducible assumption)))) _) hg⟩
theorem heldMac_any (u : Bool) (k l : Int) (v : Value) (n : Nat) (hn : n ≤ 1048576) (q : Nat) (hk1 : 1 ≤ q) (hk2 : q ≤ 100000000) (w : World) (h : Rd w w.heap.size v n (cellsOf eMacRow (marksMacRow n q))) :
    Calls Try.prog 37 #[vM u k l v, .int .i64 q] w fun e w' => e = .returned (.int .i64 ((q + 2 * n : Nat) : Int)) ∧ Below w.heap.size w w' := by
  obtain ⟨A, c, rfl, _⟩ := id h
  have HH := Lib.hid h
  clear h
  go_enter Try.func37, Try.ntmps37
  go_wp2_with fail
  refine (heldMacRowS_any _ n hn q hk1 hk2 _ (HH.out.below (by repeat (first | with_reducible exact Below.refl _ _ | with_reducible assumption | with_reducible refine Below.drew ?_ | with_reducible refine Below.alloc ?_ (by first | exact Nat.le_refl _ | omega | (simp; done) | (simp; omega)) _ | with_reducible refine Below.setCell ?_ (by first | exact Nat.le_refl _ | omega | (simp; done) | (simp; omega)) _ | (with_reducible refine ext_trans ?_ (by with_reducible assumption)))))).mono ?_
  rintro e w1 ⟨rfl, hb1⟩
  have hq : ¬ (((q + 2 * n : Nat) : Int) < 0) := by omega
  go_wp2_with fail
  go_ret
  exact ⟨rfl, (by repeat (first | with_reducible exact Below.refl _ _ | with_reducible assumption | with_reducible refine Below.drew ?_ | with_reducible refine Below.alloc ?_ (by first | exact Nat.le_refl _ | omega | (simp; done) | (simp; omega)) _ | with_reducible refine Below.setCell ?_ (by first | exact Nat.le_refl _ | omega | (simp; done) | (simp; omega)) _ | (with_reducible refine ext_trans ?_ (by with_reducible assumption))))⟩
end Go.Proofs.Ytjlnbjabehpncaa
