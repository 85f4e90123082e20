/-
  Contracts of the functions on Link that the laws bring (to, sz, eq, mark, held), and of its copies.
-/
import Derived.Test.YteaniiponikpjaaOpnEntry
import Derived.Laws.AppendOwnNone
namespace Go.Proofs.Yteaniiponikpjaa
set_option maxRecDepth 100000
open Go.RowKit

structure RLnk where
  mac : Int
  ip : Int
  ca : List REntry
abbrev vL (x : RLnk) (v : Value) : Value := .agg #[.int .i64 x.mac, .int .i64 x.ip, v]
def FitRLnk (x : RLnk) : Prop := FitEntry x.ca
def NewLink (x : RLnk) (W : World) (e : Ending) (w' : World) : Prop :=
  ∃ v, e = .returned (vL x v) ∧ OwnEntry w' W.heap.size v x.ca ∧ Below W.heap.size W w'

theorem toLink_any (x : RLnk) (v : Value) (n1 : x.ca.length ≤ 1048576) (w : World) (h1 : RdEntry w v x.ca) :
    Calls Try.prog 23 #[vL x v] w (NewLink x w) := by
  obtain ⟨A, c, rfl, -⟩ := id h1
  have H1 := Lib.hid h1
  have N1 := Lib.hid n1
  clear h1 n1
  go_enter Try.func23, Try.ntmps23
  go_wp2_with fail
  refine (toEntryS_any _ x.ca N1.out _ (H1.out.below (by repeat (first | with_reducible exact Below.refl _ _ | with_reducible assumption | with_reducible refine Below.drew ?_ | with_reducible refine Below.alloc ?_ (by first | exact Nat.le_refl _ | omega | (simp; done) | (simp; omega)) _ | with_reducible refine Below.setCell ?_ (by first | exact Nat.le_refl _ | omega | (simp; done) | (simp; omega)) _ | (with_reducible refine ext_trans ?_ (by with_reducible assumption)))))).mono ?_
  rintro e w1 ⟨v, rfl, hO, hb1⟩
  obtain ⟨A1, c1, rfl⟩ := hO.form
  have hz1 := hb1.size
  simp at hz1
  have ha : w1.heap[w.heap.size]? = some (.cells #[.int .i64 x.mac, .int .i64 x.ip, .slice A x.ca.length c] 33 (0, 0)) := (hb1.block _ (by first | (simp; done) | (simp; omega))).trans (by repeat (first | exact heap_new _ _ _ (by first | rfl | (simp; done) | (simp; omega)) | refine (Below.heap_alloc _ _ _ (by first | omega | (simp; done) | (simp; omega))).trans ?_))
  have hr : w1.heap[w.heap.size + 1]? = some (.cells #[.int .i64 0, .int .i64 0, .slice none 0 0] 37 (0, 0)) := (hb1.block _ (by first | (simp; done) | (simp; omega))).trans (by repeat (first | exact heap_new _ _ _ (by first | rfl | (simp; done) | (simp; omega)) | refine (Below.heap_alloc _ _ _ (by first | omega | (simp; done) | (simp; omega))).trans ?_))
  have ho : w1.heap[w.heap.size + 1 + 1]? = some (.cells #[.int .i64 x.mac, .int .i64 x.ip, .slice none 0 0] 37 (0, 0)) := (hb1.block _ (by first | (simp; done) | (simp; omega))).trans (by repeat (first | exact heap_new _ _ _ (by first | rfl | (simp; done) | (simp; omega)) | refine (Below.heap_alloc _ _ _ (by first | omega | (simp; done) | (simp; omega))).trans ?_))
  have HO : Hid (OwnEntry w1 (w.heap.size + 3) (.slice A1 x.ca.length c1) x.ca) := hO.mono (by simp)
  have hl1 : w.heap.size + 1 + 1 < w1.heap.size := by omega
  have r0_ha := cell_of_row _ _ 0 _ _ _ ha
  have r1_ha := cell_of_row _ _ 1 _ _ _ ha
  have r2_ha := cell_of_row _ _ 2 _ _ _ ha
  have f0_ha := frozen_of_row _ _ 0 _ _ ha
  have f1_ha := frozen_of_row _ _ 1 _ _ ha
  have f2_ha := frozen_of_row _ _ 2 _ _ ha
  simp at r0_ha r1_ha r2_ha
  have r0_hr := cell_of_row _ _ 0 _ _ _ hr
  have r1_hr := cell_of_row _ _ 1 _ _ _ hr
  have r2_hr := cell_of_row _ _ 2 _ _ _ hr
  have f0_hr := frozen_of_row _ _ 0 _ _ hr
  have f1_hr := frozen_of_row _ _ 1 _ _ hr
  have f2_hr := frozen_of_row _ _ 2 _ _ hr
  simp at r0_hr r1_hr r2_hr
  have r0_ho := cell_of_row _ _ 0 _ _ _ ho
  have r1_ho := cell_of_row _ _ 1 _ _ _ ho
  have r2_ho := cell_of_row _ _ 2 _ _ _ ho
  have f0_ho := frozen_of_row _ _ 0 _ _ ho
  have f1_ho := frozen_of_row _ _ 1 _ _ ho
  have f2_ho := frozen_of_row _ _ 2 _ _ ho
  simp at r0_ho r1_ho r2_ho
  have HR := Lib.hid hr
  clear ha hr ho hO
  go_wp2_with fail
  apply bodyPost_ret (results_cell_row (P := Try.prog) (fn := Try.f23) rfl _ _ _ 37 _ (0, 0) _ rfl _ Try.underlying37 rfl _) rfl
  rotate_left 2
  · repeat (first | (with_reducible apply heap_setCell_same) | (with_reducible apply drew_row) | (with_reducible apply drewN_row) | (with_reducible exact HR.out) | (with_reducible refine (heap_setCell_other _ _ _ _ (by first | omega | (simp; done) | (simp; omega))).trans ?_) | (with_reducible refine (Below.heap_alloc _ _ _ (by first | omega | (simp; done) | (simp; omega))).trans ?_))
  · kernel_rfl
  exact ⟨_, by simp; rfl, OwnE.mono (base := w.heap.size + 3) (by repeat (first | with_reducible exact HO.out | (with_reducible refine OwnE.setBelow ?_ (by first | (simp; done) | (simp; omega)) _) | with_reducible refine OwnE.alloc ?_ _ | with_reducible refine OwnE.drew ?_)) (by omega), (by repeat (first | with_reducible exact Below.refl _ _ | with_reducible assumption | with_reducible refine Below.drew ?_ | with_reducible refine Below.alloc ?_ (by first | exact Nat.le_refl _ | omega | (simp; done) | (simp; omega)) _ | with_reducible refine Below.setCell ?_ (by first | exact Nat.le_refl _ | omega | (simp; done) | (simp; omega)) _ | (with_reducible refine ext_trans ?_ (by with_reducible assumption))))⟩

def SzLink (x : RLnk) (left : Int) (w : World) (e : Ending) (w' : World) : Prop :=
  ∃ y : Int, e = .returned (.int .i64 y) ∧ (-1 ≤ y ∧ y ≤ left) ∧ Hid (0 ≤ y → (x.ca.length : Int) + y ≤ left) ∧ Below w.heap.size w w'
theorem szLink_any (x : RLnk) (v : Value) (_f1 : FitRLnk x) (n1 : x.ca.length ≤ maxLen) (left : Int) (g1 : 0 ≤ left) (g2 : left ≤ 1048576) (w : World) (h1 : RdEntry w v x.ca) :
    Calls Try.prog 21 #[vL x v, .int .i64 left] w (SzLink x left w) := by
  obtain ⟨A, c, rfl, -⟩ := id h1
  have H1 := Lib.hid h1
  have N1 := Lib.hid n1
  clear h1 n1

  go_enter Try.func21, Try.ntmps21
  go_wp2_with fail
  refine (szEntryS_any _ x.ca N1.out left (by omega) (by omega) _ (H1.out.below (by repeat (first | with_reducible exact Below.refl _ _ | with_reducible assumption | with_reducible refine Below.drew ?_ | with_reducible refine Below.alloc ?_ (by first | exact Nat.le_refl _ | omega | (simp; done) | (simp; omega)) _ | with_reducible refine Below.setCell ?_ (by first | exact Nat.le_refl _ | omega | (simp; done) | (simp; omega)) _ | (with_reducible refine ext_trans ?_ (by with_reducible assumption)))))).mono ?_
  rintro e w1 ⟨y, rfl, ⟨hy1, hy2⟩, hy3, hb1⟩
  by_cases hy : y < 0
  · go_wp2_with fail
    go_ret
    exact ⟨_, rfl, ⟨by omega, by omega⟩, (fun h => absurd h (by omega) : (0 : Int) ≤ -1 → _), (by repeat (first | with_reducible exact Below.refl _ _ | with_reducible assumption | with_reducible refine Below.drew ?_ | with_reducible refine Below.alloc ?_ (by first | exact Nat.le_refl _ | omega | (simp; done) | (simp; omega)) _ | with_reducible refine Below.setCell ?_ (by first | exact Nat.le_refl _ | omega | (simp; done) | (simp; omega)) _ | (with_reducible refine ext_trans ?_ (by with_reducible assumption))))⟩
  go_wp2_with fail
  go_ret
  exact ⟨_, rfl, ⟨by omega, by omega⟩, (fun h => by have := hy3.out (by omega); omega : (0 : Int) ≤ y → _), (by repeat (first | with_reducible exact Below.refl _ _ | with_reducible assumption | with_reducible refine Below.drew ?_ | with_reducible refine Below.alloc ?_ (by first | exact Nat.le_refl _ | omega | (simp; done) | (simp; omega)) _ | with_reducible refine Below.setCell ?_ (by first | exact Nat.le_refl _ | omega | (simp; done) | (simp; omega)) _ | (with_reducible refine ext_trans ?_ (by with_reducible assumption))))⟩

theorem eqLink_same (x : RLnk) (v1 v2 : Value) (n1 : x.ca.length ≤ maxLen) (w : World) (h1 : RdEntry w v1 x.ca) (h2 : RdEntry w v2 x.ca) :
    Calls Try.prog 25 #[vL x v1, vL x v2] w fun e w' => e = .returned (.bool true) ∧ Below w.heap.size w w' := by
  obtain ⟨A, c, rfl, -⟩ := id h1
  obtain ⟨A2, c2, rfl, -⟩ := id h2
  have H1 := Lib.hid h1
  have H2 := Lib.hid h2
  have N1 := Lib.hid n1
  clear h1 h2 n1
  go_enter Try.func25, Try.ntmps25
  go_wp2_with fail
  refine (eqEntryS_same _ _ x.ca N1.out _ (H1.out.below (by repeat (first | with_reducible exact Below.refl _ _ | with_reducible assumption | with_reducible refine Below.drew ?_ | with_reducible refine Below.alloc ?_ (by first | exact Nat.le_refl _ | omega | (simp; done) | (simp; omega)) _ | with_reducible refine Below.setCell ?_ (by first | exact Nat.le_refl _ | omega | (simp; done) | (simp; omega)) _ | (with_reducible refine ext_trans ?_ (by with_reducible assumption))))) (H2.out.below (by repeat (first | with_reducible exact Below.refl _ _ | with_reducible assumption | with_reducible refine Below.drew ?_ | with_reducible refine Below.alloc ?_ (by first | exact Nat.le_refl _ | omega | (simp; done) | (simp; omega)) _ | with_reducible refine Below.setCell ?_ (by first | exact Nat.le_refl _ | omega | (simp; done) | (simp; omega)) _ | (with_reducible refine ext_trans ?_ (by with_reducible assumption)))))).mono ?_
  rintro e w1 ⟨rfl, hb1⟩
  have ha : w1.heap[w.heap.size]? = some (.cells #[.int .i64 x.mac, .int .i64 x.ip, .slice A x.ca.length c] 37 (0, 0)) := (hb1.block _ (by first | (simp; done) | (simp; omega))).trans (by repeat (first | exact heap_new _ _ _ (by first | rfl | (simp; done) | (simp; omega)) | refine (Below.heap_alloc _ _ _ (by first | omega | (simp; done) | (simp; omega))).trans ?_))
  have hc : w1.heap[w.heap.size + 1]? = some (.cells #[.int .i64 x.mac, .int .i64 x.ip, .slice A2 x.ca.length c2] 37 (0, 0)) := (hb1.block _ (by first | (simp; done) | (simp; omega))).trans (by repeat (first | exact heap_new _ _ _ (by first | rfl | (simp; done) | (simp; omega)) | refine (Below.heap_alloc _ _ _ (by first | omega | (simp; done) | (simp; omega))).trans ?_))
  have r0_ha := cell_of_row _ _ 0 _ _ _ ha
  have r1_ha := cell_of_row _ _ 1 _ _ _ ha
  have r2_ha := cell_of_row _ _ 2 _ _ _ ha
  have f0_ha := frozen_of_row _ _ 0 _ _ ha
  have f1_ha := frozen_of_row _ _ 1 _ _ ha
  have f2_ha := frozen_of_row _ _ 2 _ _ ha
  simp at r0_ha r1_ha r2_ha
  have r0_hc := cell_of_row _ _ 0 _ _ _ hc
  have r1_hc := cell_of_row _ _ 1 _ _ _ hc
  have r2_hc := cell_of_row _ _ 2 _ _ _ hc
  have f0_hc := frozen_of_row _ _ 0 _ _ hc
  have f1_hc := frozen_of_row _ _ 1 _ _ hc
  have f2_hc := frozen_of_row _ _ 2 _ _ hc
  simp at r0_hc r1_hc r2_hc
  clear ha hc
  go_wp2_with fail
  go_ret
  exact ⟨rfl, (by repeat (first | with_reducible exact Below.refl _ _ | with_reducible assumption | with_reducible refine Below.drew ?_ | with_reducible refine Below.alloc ?_ (by first | exact Nat.le_refl _ | omega | (simp; done) | (simp; omega)) _ | with_reducible refine Below.setCell ?_ (by first | exact Nat.le_refl _ | omega | (simp; done) | (simp; omega)) _ | (with_reducible refine ext_trans ?_ (by with_reducible assumption))))⟩
theorem marks_neEntry {l : List REntry} {k : Nat} (h : marksEntry l.length k ≠ []) : l ≠ [] := by
  rintro rfl
  exact h rfl
theorem markLink_any (x : RLnk) (v : Value) (n1 : x.ca.length ≤ 1048576) (q : Nat) (hk1 : 1 ≤ q) (hk2 : q ≤ 100000000) (base : Nat) (w : World) (h : OwnEntry w base v x.ca) :
    Calls Try.prog 45 #[vL x v, .int .i64 q] w (MarkedEntry v x.ca.length q base w) := by
  obtain ⟨A, c, rfl⟩ := h.form
  have HH := Lib.hid h
  clear h
  go_enter Try.func45, Try.ntmps45
  go_wp2_with fail
  refine (markEntryS_any _ x.ca n1 q hk1 hk2 base _ (HH.out.below (by repeat (first | with_reducible exact Below.refl _ _ | with_reducible assumption | with_reducible refine Below.drew ?_ | with_reducible refine Below.alloc ?_ (by first | exact Nat.le_refl _ | omega | (simp; done) | (simp; omega)) _ | with_reducible refine Below.setCell ?_ (by first | exact Nat.le_refl _ | omega | (simp; done) | (simp; omega)) _ | (with_reducible refine ext_trans ?_ (by with_reducible assumption)))))).mono ?_
  rintro e w1 ⟨rfl, hO, hg⟩
  have HO := Lib.hid hO
  clear hO
  go_wp2_with fail
  go_ret
  exact ⟨rfl, HO.out, only_trans' (grown_below (by repeat (first | with_reducible exact Below.refl _ _ | with_reducible assumption | with_reducible refine Below.drew ?_ | with_reducible refine Below.alloc ?_ (by first | exact Nat.le_refl _ | omega | (simp; done) | (simp; omega)) _ | with_reducible refine Below.setCell ?_ (by first | exact Nat.le_refl _ | omega | (simp; done) | (simp; omega)) _ | (with_reducible refine ext_trans ?_ (by with_reducible assumption)))) _) hg⟩
theorem heldLink_any (x : RLnk) (v : Value) (n : Nat) (hn : n ≤ 1048576) (q : Nat) (hk1 : 1 ≤ q) (hk2 : q ≤ 100000000) (w : World) (h : Rd w w.heap.size v n (cellsOf eEntry (marksEntry n q))) :
    Calls Try.prog 46 #[vL x v, .int .i64 q] w fun e w' => e = .returned (.int .i64 ((q + 3 * n : Nat) : Int)) ∧ Below w.heap.size w w' := by
  obtain ⟨A, c, rfl, _⟩ := id h
  have HH := Lib.hid h
  clear h
  go_enter Try.func46, Try.ntmps46
  go_wp2_with fail
  refine (heldEntryS_any _ n hn q hk1 hk2 _ (HH.out.below (by repeat (first | with_reducible exact Below.refl _ _ | with_reducible assumption | with_reducible refine Below.drew ?_ | with_reducible refine Below.alloc ?_ (by first | exact Nat.le_refl _ | omega | (simp; done) | (simp; omega)) _ | with_reducible refine Below.setCell ?_ (by first | exact Nat.le_refl _ | omega | (simp; done) | (simp; omega)) _ | (with_reducible refine ext_trans ?_ (by with_reducible assumption)))))).mono ?_
  rintro e w1 ⟨rfl, hb1⟩
  have hq : ¬ (((q + 3 * n : Nat) : Int) < 0) := by omega
  go_wp2_with fail
  go_ret
  exact ⟨rfl, (by repeat (first | with_reducible exact Below.refl _ _ | with_reducible assumption | with_reducible refine Below.drew ?_ | with_reducible refine Below.alloc ?_ (by first | exact Nat.le_refl _ | omega | (simp; done) | (simp; omega)) _ | with_reducible refine Below.setCell ?_ (by first | exact Nat.le_refl _ | omega | (simp; done) | (simp; omega)) _ | (with_reducible refine ext_trans ?_ (by with_reducible assumption))))⟩

theorem cloneLink_any (x : RLnk) (v : Value) (hn : x.ca.length ≤ 1048600) (w : World) (h : RdEntry w v x.ca) :
    Calls Try.prog 71 #[vL x v] w (NewLink x w) := by
  obtain ⟨A, c, rfl, -⟩ := id h
  have HH := Lib.hid h
  have HN := Lib.hid hn
  clear h hn
  go_enter Try.func71, Try.ntmps71
  go_wp2_with fail
  refine (CloneEntry_any _ x.ca HN.out _ (HH.out.below (by repeat (first | with_reducible exact Below.refl _ _ | with_reducible assumption | with_reducible refine Below.drew ?_ | with_reducible refine Below.alloc ?_ (by first | exact Nat.le_refl _ | omega | (simp; done) | (simp; omega)) _ | with_reducible refine Below.setCell ?_ (by first | exact Nat.le_refl _ | omega | (simp; done) | (simp; omega)) _ | (with_reducible refine ext_trans ?_ (by with_reducible assumption)))))).mono ?_
  rintro e w1 ⟨v, rfl, hO, hb1⟩
  obtain ⟨A1, c1, rfl⟩ := hO.form
  have hz1 := hb1.size
  simp at hz1
  have ha : w1.heap[w.heap.size]? = some (.cells #[.int .i64 x.mac, .int .i64 x.ip, .slice A x.ca.length c] 37 (0, 0)) := (hb1.block _ (by first | (simp; done) | (simp; omega))).trans (by repeat (first | exact heap_new _ _ _ (by first | rfl | (simp; done) | (simp; omega)) | refine (Below.heap_alloc _ _ _ (by first | omega | (simp; done) | (simp; omega))).trans ?_))
  have hr : w1.heap[w.heap.size + 1]? = some (.cells #[.int .i64 0, .int .i64 0, .slice none 0 0] 37 (0, 0)) := (hb1.block _ (by first | (simp; done) | (simp; omega))).trans (by repeat (first | exact heap_new _ _ _ (by first | rfl | (simp; done) | (simp; omega)) | refine (Below.heap_alloc _ _ _ (by first | omega | (simp; done) | (simp; omega))).trans ?_))
  have HO : Hid (OwnEntry w1 (w.heap.size + 2) (.slice A1 x.ca.length c1) x.ca) := hO.mono (by simp)
  have hl := (Array.getElem?_eq_some_iff.1 hr).1
  clear hO
  have r0_ha := cell_of_row _ _ 0 _ _ _ ha
  have r1_ha := cell_of_row _ _ 1 _ _ _ ha
  have r2_ha := cell_of_row _ _ 2 _ _ _ ha
  have f0_ha := frozen_of_row _ _ 0 _ _ ha
  have f1_ha := frozen_of_row _ _ 1 _ _ ha
  have f2_ha := frozen_of_row _ _ 2 _ _ ha
  simp at r0_ha r1_ha r2_ha
  have r0_hr := cell_of_row _ _ 0 _ _ _ hr
  have r1_hr := cell_of_row _ _ 1 _ _ _ hr
  have r2_hr := cell_of_row _ _ 2 _ _ _ hr
  have f0_hr := frozen_of_row _ _ 0 _ _ hr
  have f1_hr := frozen_of_row _ _ 1 _ _ hr
  have f2_hr := frozen_of_row _ _ 2 _ _ hr
  simp at r0_hr r1_hr r2_hr
  go_wp2_with fail
  apply bodyPost_ret (results_cell_row (P := Try.prog) (fn := Try.f71) rfl _ _ _ 37 _ (0, 0) _ rfl _ Try.underlying37 rfl _) rfl
  rotate_left 2
  · repeat (first | (with_reducible apply heap_setCell_same) | (with_reducible apply drew_row) | (with_reducible apply drewN_row) | (with_reducible exact hr) | (with_reducible refine (heap_setCell_other _ _ _ _ (by first | omega | (simp; done) | (simp; omega))).trans ?_) | (with_reducible refine (Below.heap_alloc _ _ _ (by first | omega | (simp; done) | (simp; omega))).trans ?_))
  · kernel_rfl
  exact ⟨_, by simp; rfl, OwnE.mono (base := w.heap.size + 2) (by repeat (first | with_reducible exact HO.out | (with_reducible refine OwnE.setBelow ?_ (by first | (simp; done) | (simp; omega)) _) | with_reducible refine OwnE.alloc ?_ _ | with_reducible refine OwnE.drew ?_)) (by omega), (by repeat (first | with_reducible exact Below.refl _ _ | with_reducible assumption | with_reducible refine Below.drew ?_ | with_reducible refine Below.alloc ?_ (by first | exact Nat.le_refl _ | omega | (simp; done) | (simp; omega)) _ | with_reducible refine Below.setCell ?_ (by first | exact Nat.le_refl _ | omega | (simp; done) | (simp; omega)) _ | (with_reducible refine ext_trans ?_ (by with_reducible assumption))))⟩
set_option maxHeartbeats 1000000 in
theorem l16Copy_any (x : RLnk) (v : Value) (hn : x.ca.length ≤ 1048600) (w : World) (h : RdEntry w v x.ca) :
    Calls Try.prog 78 #[vL x v] w (NewLink x w) := by
  obtain ⟨i0, hi, hz0, hz1, hz2⟩ := info_parts info_Entry
  obtain ⟨A, c, rfl, ⟨hc1, hc2, hc3⟩, -⟩ := id h
  unfold maxLen at hc2
  have HH := Lib.hid h
  clear h
  cases A with
  | none =>
    obtain rfl := hc3 rfl
    have h0 : x.ca = [] := List.eq_nil_of_length_eq_zero (by omega)
    obtain ⟨mac, ip, ca⟩ := x
    dsimp only at *
    subst h0
    clear hc1 hc2 hc3 HH
    go_enter Try.func78, Try.ntmps78
    go_wp2_with (refine wpList_append_own_none (by rfl) (.tmp 3) (.tmp 5) 26 (by rfl) (w.heap.size + 2) 71 i0 3 Try.underlying26 hi (.slice (some ⟨w.heap.size + 2, 0, none⟩) 0 0) 0 [] (by rfl) ?c1 (by rfl) ?_)
    case c1 =>
      have h := World.ownsRow_made (base := w.heap.size + 2) (e := 71) (size := 3) ((w.alloc (.cells #[.int .i64 mac, .int .i64 ip, .slice none 0 0] 37)).alloc (.cells #[.int .i64 0, .int .i64 0, .slice none 0 0] 37)) #[] 0 (by simp) (Nat.zero_le _) (by simp)
      rw [show ((w.alloc (.cells #[.int .i64 mac, .int .i64 ip, .slice none 0 0] 37)).alloc (.cells #[.int .i64 0, .int .i64 0, .slice none 0 0] 37)).heap.size = w.heap.size + 2 from by simp] at h
      exact h
    exact bodyPost_ret (v := .agg #[.int .i64 mac, .int .i64 ip, .slice (some ⟨w.heap.size + 2, 0, none⟩) 0 0]) (by simp [results, Try.results78, go_sem]) rfl ⟨_, rfl, .inr ⟨rfl, _, _, rfl, Nat.zero_le _, fun h => by cases h⟩, (by repeat (first | with_reducible exact Below.refl _ _ | with_reducible assumption | with_reducible refine Below.drew ?_ | with_reducible refine Below.alloc ?_ (by first | exact Nat.le_refl _ | omega | (simp; done) | (simp; omega)) _ | with_reducible refine Below.setCell ?_ (by first | exact Nat.le_refl _ | omega | (simp; done) | (simp; omega)) _ | (with_reducible refine ext_trans ?_ (by with_reducible assumption))))⟩
  | some ad =>
    clear hc3
    go_enter Try.func78, Try.ntmps78
    go_wp2_with (refine wpList_append_own _ (by rfl) (.tmp 3) (.tmp 5) 26 (by rfl) (w.heap.size + 2) 71 i0 _ 3 24 Try.underlying26 hi hz0 hz1 hz2 (by rfl) (by omega) (.slice (some ⟨w.heap.size + 2, 0, none⟩) 0 0) 0 [] (by rfl) ?c1 ad x.ca.length c (cellsOf eEntry x.ca) (by rfl) ?c2 ?c3 ?c4 ?c5 ?c6 ?c7 ?_)
    case c1 =>
      have h := World.ownsRow_made (base := w.heap.size + 2) (e := 71) (size := 3) ((w.alloc (.cells #[.int .i64 x.mac, .int .i64 x.ip, .slice (some ad) x.ca.length c] 37)).alloc (.cells #[.int .i64 0, .int .i64 0, .slice none 0 0] 37)) #[] 0 (by simp) (Nat.zero_le _) (by simp)
      rw [show ((w.alloc (.cells #[.int .i64 x.mac, .int .i64 x.ip, .slice (some ad) x.ca.length c] 37)).alloc (.cells #[.int .i64 0, .int .i64 0, .slice none 0 0] 37)).heap.size = w.heap.size + 2 from by simp] at h
      exact h
    case c2 => exact cells_len (m := 3) eEntry_len x.ca
    case c3 => exact HH.out.newsEntry (by repeat (first | with_reducible exact Below.refl _ _ | with_reducible assumption | with_reducible refine Below.drew ?_ | with_reducible refine Below.alloc ?_ (by first | exact Nat.le_refl _ | omega | (simp; done) | (simp; omega)) _ | with_reducible refine Below.setCell ?_ (by first | exact Nat.le_refl _ | omega | (simp; done) | (simp; omega)) _ | (with_reducible refine ext_trans ?_ (by with_reducible assumption))))
    case c4 => exact oneEntry x.ca
    case c5 => unfold maxLen; omega
    case c6 => omega
    case c7 => simp
    intro v' w1 hown hgr _
    obtain ⟨A', c', rfl⟩ : ∃ A' c', v' = .slice A' x.ca.length c' := OwnE.form (enc := eEntry) (.inl hown)
    have HO : Hid (OwnEntry w1 (w.heap.size + 2) (.slice A' x.ca.length c') x.ca) := .inl hown
    have hb1 : Below (w.heap.size + 2) (((w.alloc (.cells #[.int .i64 x.mac, .int .i64 x.ip, .slice (some ad) x.ca.length c] 37)).alloc (.cells #[.int .i64 0, .int .i64 0, .slice none 0 0] 37)).alloc (.cells #[] 71)) w1 := Below.grown (Below.refl _ _) hgr (by simp) (by simp [Value.ownBlock])
    have ha : w1.heap[w.heap.size]? = some (.cells #[.int .i64 x.mac, .int .i64 x.ip, .slice (some ad) x.ca.length c] 37 (0, 0)) := (hb1.block _ (by omega)).trans (by repeat (first | exact heap_new _ _ _ (by first | rfl | (simp; done) | (simp; omega)) | refine (Below.heap_alloc _ _ _ (by first | omega | (simp; done) | (simp; omega))).trans ?_))
    have hr : w1.heap[w.heap.size + 1]? = some (.cells #[.int .i64 0, .int .i64 0, .slice none 0 0] 37 (0, 0)) := (hb1.block _ (by omega)).trans (by repeat (first | exact heap_new _ _ _ (by first | rfl | (simp; done) | (simp; omega)) | refine (Below.heap_alloc _ _ _ (by first | omega | (simp; done) | (simp; omega))).trans ?_))
    have hbw : Below w.heap.size w w1 := ((((Below.refl _ _).alloc (Nat.le_refl _) _).alloc (by simp) _).alloc (by simp; omega) _).trans (hb1.mono (by omega))
    have hlw := (Array.getElem?_eq_some_iff.1 hr).1
    clear hown hgr
    have r0_ha := cell_of_row _ _ 0 _ _ _ ha
    have r1_ha := cell_of_row _ _ 1 _ _ _ ha
    have r2_ha := cell_of_row _ _ 2 _ _ _ ha
    have f0_ha := frozen_of_row _ _ 0 _ _ ha
    have f1_ha := frozen_of_row _ _ 1 _ _ ha
    have f2_ha := frozen_of_row _ _ 2 _ _ ha
    simp at r0_ha r1_ha r2_ha
    have r0_hr := cell_of_row _ _ 0 _ _ _ hr
    have r1_hr := cell_of_row _ _ 1 _ _ _ hr
    have r2_hr := cell_of_row _ _ 2 _ _ _ hr
    have f0_hr := frozen_of_row _ _ 0 _ _ hr
    have f1_hr := frozen_of_row _ _ 1 _ _ hr
    have f2_hr := frozen_of_row _ _ 2 _ _ hr
    simp at r0_hr r1_hr r2_hr
    go_wp2_with fail
    apply bodyPost_ret (results_cell_row (P := Try.prog) (fn := Try.f78) rfl _ _ _ 37 _ (0, 0) _ rfl _ Try.underlying37 rfl _) rfl
    rotate_left 2
    · repeat (first | (with_reducible apply heap_setCell_same) | (with_reducible apply drew_row) | (with_reducible apply drewN_row) | (with_reducible exact hr) | (with_reducible refine (heap_setCell_other _ _ _ _ (by first | omega | (simp; done) | (simp; omega))).trans ?_) | (with_reducible refine (Below.heap_alloc _ _ _ (by first | omega | (simp; done) | (simp; omega))).trans ?_))
    · kernel_rfl
    exact ⟨_, by simp; rfl, OwnE.mono (base := w.heap.size + 2) (by repeat (first | with_reducible exact HO.out | (with_reducible refine OwnE.setBelow ?_ (by first | (simp; done) | (simp; omega)) _) | with_reducible refine OwnE.alloc ?_ _ | with_reducible refine OwnE.drew ?_)) (by omega), (by repeat (first | with_reducible exact Below.refl _ _ | with_reducible assumption | with_reducible refine Below.drew ?_ | with_reducible refine Below.alloc ?_ (by first | exact Nat.le_refl _ | omega | (simp; done) | (simp; omega)) _ | with_reducible refine Below.setCell ?_ (by first | exact Nat.le_refl _ | omega | (simp; done) | (simp; omega)) _ | (with_reducible refine ext_trans ?_ (by with_reducible assumption))))⟩

end Go.Proofs.Yteaniiponikpjaa
