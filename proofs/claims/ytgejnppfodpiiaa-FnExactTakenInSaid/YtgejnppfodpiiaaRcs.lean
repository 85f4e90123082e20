/-
  Contracts of the functions on Receiver that the laws bring (to, sz, eq, mark, held), and of its copies.
-/
import Derived.Test.YtgejnppfodpiiaaOpnPiece
import Derived.Laws.AppendOwnNone
namespace Go.Proofs.Ytgejnppfodpiiaa
set_option maxRecDepth 100000
open Go.RowKit

theorem results_row_tmp1 {P : Program} {fn : Func} {p u : Tmp} {ty : TypeId} (h : fn.results = #[.cell p ty, .tmp u]) (tmps : Array Value) (w : World) (g : Nat) (t : TypeId) (cs : Array Value) (fr : Nat × Nat) (d : TypeDesc)
    (hp : tmps.getD p undef = .pointer (some ⟨g, 0, none⟩)) (hg : w.heap[g]? = some (.cells cs t fr))
    (hu : P.underlying ty = some d) (hd : (match d with | .struct _ | .array _ _ => true | _ => false) = true) (hi : (P.info? ty).map (·.size) = some cs.size) :
    (results fn tmps).run P w = .ok (.tuple #[.agg cs, tmps.getD u undef]) w := by
  have hp' : tmps[p]?.getD undef = .pointer (some ⟨g, 0, none⟩) := by simpa using hp
  simp [results, h, hp', asAddr, run_loadVar_row w g t ty cs fr d hg hu hd hi]
structure RRcv where
  nx : Int
  d : ByteArray
  hs : List RPiece
  fin : Int
  dn : Bool
abbrev vR (x : RRcv) (v : Value) : Value := .agg #[.int .i64 x.nx, .string x.d, v, .int .i64 x.fin, .bool x.dn]
def FitRRcv (x : RRcv) : Prop := FitPiece x.hs ∧ x.d.size ≤ maxLen
def NewReceiver (x : RRcv) (W : World) (e : Ending) (w' : World) : Prop :=
  ∃ v, e = .returned (vR x v) ∧ OwnPiece w' W.heap.size v x.hs ∧ Below W.heap.size W w'

theorem toReceiver_any (x : RRcv) (v : Value) (n1 : x.hs.length ≤ 1048576) (w : World) (h1 : RdPiece w v x.hs) :
    Calls Try.prog 15 #[vR x v] w (NewReceiver x w) := by
  obtain ⟨A, c, rfl, -⟩ := id h1
  have H1 := Lib.hid h1
  have N1 := Lib.hid n1
  clear h1 n1
  go_enter Try.func15, Try.ntmps15
  go_wp2_with fail
  refine (toPieceS_any _ x.hs N1.out _ (H1.out.below (by repeat (first | with_reducible exact Below.refl _ _ | with_reducible assumption | with_reducible refine Below.drew ?_ | with_reducible refine Below.alloc ?_ (by first | exact Nat.le_refl _ | omega | (simp; done) | (simp; omega)) _ | with_reducible refine Below.setCell ?_ (by first | exact Nat.le_refl _ | omega | (simp; done) | (simp; omega)) _ | (with_reducible refine ext_trans ?_ (by with_reducible assumption)))))).mono ?_
  rintro e w1 ⟨v, rfl, hO, hb1⟩
  obtain ⟨A1, c1, rfl⟩ := hO.form
  have hz1 := hb1.size
  simp at hz1
  have ha : w1.heap[w.heap.size]? = some (.cells #[.int .i64 x.nx, .string x.d, .slice A x.hs.length c, .int .i64 x.fin, .bool x.dn] 31 (0, 0)) := (hb1.block _ (by first | (simp; done) | (simp; omega))).trans (by repeat (first | exact heap_new _ _ _ (by first | rfl | (simp; done) | (simp; omega)) | refine (Below.heap_alloc _ _ _ (by first | omega | (simp; done) | (simp; omega))).trans ?_))
  have hr : w1.heap[w.heap.size + 1]? = some (.cells #[.int .i64 0, .string ⟨#[]⟩, .slice none 0 0, .int .i64 0, .bool false] 24 (0, 0)) := (hb1.block _ (by first | (simp; done) | (simp; omega))).trans (by repeat (first | exact heap_new _ _ _ (by first | rfl | (simp; done) | (simp; omega)) | refine (Below.heap_alloc _ _ _ (by first | omega | (simp; done) | (simp; omega))).trans ?_))
  have ho : w1.heap[w.heap.size + 1 + 1]? = some (.cells #[.int .i64 x.nx, .string x.d, .slice none 0 0, .int .i64 0, .bool false] 24 (0, 0)) := (hb1.block _ (by first | (simp; done) | (simp; omega))).trans (by repeat (first | exact heap_new _ _ _ (by first | rfl | (simp; done) | (simp; omega)) | refine (Below.heap_alloc _ _ _ (by first | omega | (simp; done) | (simp; omega))).trans ?_))
  have HO : Hid (OwnPiece w1 (w.heap.size + 3) (.slice A1 x.hs.length c1) x.hs) := hO.mono (by simp)
  have hl1 : w.heap.size + 1 + 1 < w1.heap.size := by omega
  have r0_ha := cell_of_row _ _ 0 _ _ _ ha
  have r1_ha := cell_of_row _ _ 1 _ _ _ ha
  have r2_ha := cell_of_row _ _ 2 _ _ _ ha
  have r3_ha := cell_of_row _ _ 3 _ _ _ ha
  have r4_ha := cell_of_row _ _ 4 _ _ _ ha
  have f0_ha := frozen_of_row _ _ 0 _ _ ha
  have f1_ha := frozen_of_row _ _ 1 _ _ ha
  have f2_ha := frozen_of_row _ _ 2 _ _ ha
  have f3_ha := frozen_of_row _ _ 3 _ _ ha
  have f4_ha := frozen_of_row _ _ 4 _ _ ha
  simp at r0_ha r1_ha r2_ha r3_ha r4_ha
  have r0_hr := cell_of_row _ _ 0 _ _ _ hr
  have r1_hr := cell_of_row _ _ 1 _ _ _ hr
  have r2_hr := cell_of_row _ _ 2 _ _ _ hr
  have r3_hr := cell_of_row _ _ 3 _ _ _ hr
  have r4_hr := cell_of_row _ _ 4 _ _ _ hr
  have f0_hr := frozen_of_row _ _ 0 _ _ hr
  have f1_hr := frozen_of_row _ _ 1 _ _ hr
  have f2_hr := frozen_of_row _ _ 2 _ _ hr
  have f3_hr := frozen_of_row _ _ 3 _ _ hr
  have f4_hr := frozen_of_row _ _ 4 _ _ hr
  simp at r0_hr r1_hr r2_hr r3_hr r4_hr
  have r0_ho := cell_of_row _ _ 0 _ _ _ ho
  have r1_ho := cell_of_row _ _ 1 _ _ _ ho
  have r2_ho := cell_of_row _ _ 2 _ _ _ ho
  have r3_ho := cell_of_row _ _ 3 _ _ _ ho
  have r4_ho := cell_of_row _ _ 4 _ _ _ ho
  have f0_ho := frozen_of_row _ _ 0 _ _ ho
  have f1_ho := frozen_of_row _ _ 1 _ _ ho
  have f2_ho := frozen_of_row _ _ 2 _ _ ho
  have f3_ho := frozen_of_row _ _ 3 _ _ ho
  have f4_ho := frozen_of_row _ _ 4 _ _ ho
  simp at r0_ho r1_ho r2_ho r3_ho r4_ho
  have HR := Lib.hid hr
  clear ha hr ho hO
  go_wp2_with fail
  apply bodyPost_ret (results_cell_row (P := Try.prog) (fn := Try.f15) rfl _ _ _ 24 _ (0, 0) _ rfl _ Try.underlying24 rfl _) rfl
  rotate_left 2
  · repeat (first | (with_reducible apply heap_setCell_same) | (with_reducible apply drew_row) | (with_reducible apply drewN_row) | (with_reducible exact HR.out) | (with_reducible refine (heap_setCell_other _ _ _ _ (by first | omega | (simp; done) | (simp; omega))).trans ?_) | (with_reducible refine (Below.heap_alloc _ _ _ (by first | omega | (simp; done) | (simp; omega))).trans ?_))
  · kernel_rfl
  exact ⟨_, by simp; rfl, OwnE.mono (base := w.heap.size + 3) (by repeat (first | with_reducible exact HO.out | (with_reducible refine OwnE.setBelow ?_ (by first | (simp; done) | (simp; omega)) _) | with_reducible refine OwnE.alloc ?_ _ | with_reducible refine OwnE.drew ?_)) (by omega), (by repeat (first | with_reducible exact Below.refl _ _ | with_reducible assumption | with_reducible refine Below.drew ?_ | with_reducible refine Below.alloc ?_ (by first | exact Nat.le_refl _ | omega | (simp; done) | (simp; omega)) _ | with_reducible refine Below.setCell ?_ (by first | exact Nat.le_refl _ | omega | (simp; done) | (simp; omega)) _ | (with_reducible refine ext_trans ?_ (by with_reducible assumption))))⟩

def SzReceiver (x : RRcv) (left : Int) (w : World) (e : Ending) (w' : World) : Prop :=
  ∃ y : Int, e = .returned (.int .i64 y) ∧ (-1 ≤ y ∧ y ≤ left) ∧ Hid (0 ≤ y → (x.d.size : Int) + (x.hs.length : Int) + y ≤ left ∧ ∀ p ∈ x.hs, p.2.size ≤ 1048576) ∧ Below w.heap.size w w'
theorem szReceiver_any (x : RRcv) (v : Value) (f1 : FitRRcv x) (n1 : x.hs.length ≤ maxLen) (left : Int) (g1 : 0 ≤ left) (g2 : left ≤ 1048576) (w : World) (h1 : RdPiece w v x.hs) :
    Calls Try.prog 13 #[vR x v, .int .i64 left] w (SzReceiver x left w) := by
  obtain ⟨A, c, rfl, -⟩ := id h1
  have H1 := Lib.hid h1
  have N1 := Lib.hid n1
  have F1 := Lib.hid f1
  clear h1 n1 f1

  have hd := F1.out.2
  unfold maxLen at hd
  by_cases hl : left - (x.d.size : Int) < 0
  · go_enter Try.func13, Try.ntmps13
    go_wp2_with fail
    go_ret
    exact ⟨_, rfl, ⟨by omega, by omega⟩, (fun h => absurd h (by omega) : (0 : Int) ≤ -1 → _), (by repeat (first | with_reducible exact Below.refl _ _ | with_reducible assumption | with_reducible refine Below.drew ?_ | with_reducible refine Below.alloc ?_ (by first | exact Nat.le_refl _ | omega | (simp; done) | (simp; omega)) _ | with_reducible refine Below.setCell ?_ (by first | exact Nat.le_refl _ | omega | (simp; done) | (simp; omega)) _ | (with_reducible refine ext_trans ?_ (by with_reducible assumption))))⟩
  go_enter Try.func13, Try.ntmps13
  go_wp2_with fail
  refine (szPieceS_any _ x.hs F1.out.1 N1.out (left - (x.d.size : Int)) (by omega) (by omega) _ (H1.out.below (by repeat (first | with_reducible exact Below.refl _ _ | with_reducible assumption | with_reducible refine Below.drew ?_ | with_reducible refine Below.alloc ?_ (by first | exact Nat.le_refl _ | omega | (simp; done) | (simp; omega)) _ | with_reducible refine Below.setCell ?_ (by first | exact Nat.le_refl _ | omega | (simp; done) | (simp; omega)) _ | (with_reducible refine ext_trans ?_ (by with_reducible assumption)))))).mono ?_
  rintro e w1 ⟨y, rfl, ⟨hy1, hy2⟩, hy3, hb1⟩
  by_cases hy : y < 0
  · go_wp2_with fail
    go_ret
    exact ⟨_, rfl, ⟨by omega, by omega⟩, (fun h => absurd h (by omega) : (0 : Int) ≤ -1 → _), (by repeat (first | with_reducible exact Below.refl _ _ | with_reducible assumption | with_reducible refine Below.drew ?_ | with_reducible refine Below.alloc ?_ (by first | exact Nat.le_refl _ | omega | (simp; done) | (simp; omega)) _ | with_reducible refine Below.setCell ?_ (by first | exact Nat.le_refl _ | omega | (simp; done) | (simp; omega)) _ | (with_reducible refine ext_trans ?_ (by with_reducible assumption))))⟩
  go_wp2_with fail
  go_ret
  exact ⟨_, rfl, ⟨by omega, by omega⟩, (fun h => ⟨by have := (hy3.out (by omega)).1; omega, (hy3.out (by omega)).2⟩ : (0 : Int) ≤ y → _), (by repeat (first | with_reducible exact Below.refl _ _ | with_reducible assumption | with_reducible refine Below.drew ?_ | with_reducible refine Below.alloc ?_ (by first | exact Nat.le_refl _ | omega | (simp; done) | (simp; omega)) _ | with_reducible refine Below.setCell ?_ (by first | exact Nat.le_refl _ | omega | (simp; done) | (simp; omega)) _ | (with_reducible refine ext_trans ?_ (by with_reducible assumption))))⟩

theorem eqReceiver_same (x : RRcv) (v1 v2 : Value) (n1 : x.hs.length ≤ maxLen) (w : World) (h1 : RdPiece w v1 x.hs) (h2 : RdPiece w v2 x.hs) :
    Calls Try.prog 10 #[vR x v1, vR x v2] w fun e w' => e = .returned (.bool true) ∧ Below w.heap.size w w' := by
  obtain ⟨A, c, rfl, -⟩ := id h1
  obtain ⟨A2, c2, rfl, -⟩ := id h2
  have H1 := Lib.hid h1
  have H2 := Lib.hid h2
  have N1 := Lib.hid n1
  clear h1 h2 n1
  go_enter Try.func10, Try.ntmps10
  go_wp2_with fail
  refine (eqPieceS_same _ _ x.hs N1.out _ (H1.out.below (by repeat (first | with_reducible exact Below.refl _ _ | with_reducible assumption | with_reducible refine Below.drew ?_ | with_reducible refine Below.alloc ?_ (by first | exact Nat.le_refl _ | omega | (simp; done) | (simp; omega)) _ | with_reducible refine Below.setCell ?_ (by first | exact Nat.le_refl _ | omega | (simp; done) | (simp; omega)) _ | (with_reducible refine ext_trans ?_ (by with_reducible assumption))))) (H2.out.below (by repeat (first | with_reducible exact Below.refl _ _ | with_reducible assumption | with_reducible refine Below.drew ?_ | with_reducible refine Below.alloc ?_ (by first | exact Nat.le_refl _ | omega | (simp; done) | (simp; omega)) _ | with_reducible refine Below.setCell ?_ (by first | exact Nat.le_refl _ | omega | (simp; done) | (simp; omega)) _ | (with_reducible refine ext_trans ?_ (by with_reducible assumption)))))).mono ?_
  rintro e w1 ⟨rfl, hb1⟩
  have ha : w1.heap[w.heap.size]? = some (.cells #[.int .i64 x.nx, .string x.d, .slice A x.hs.length c, .int .i64 x.fin, .bool x.dn] 24 (0, 0)) := (hb1.block _ (by first | (simp; done) | (simp; omega))).trans (by repeat (first | exact heap_new _ _ _ (by first | rfl | (simp; done) | (simp; omega)) | refine (Below.heap_alloc _ _ _ (by first | omega | (simp; done) | (simp; omega))).trans ?_))
  have hc : w1.heap[w.heap.size + 1]? = some (.cells #[.int .i64 x.nx, .string x.d, .slice A2 x.hs.length c2, .int .i64 x.fin, .bool x.dn] 24 (0, 0)) := (hb1.block _ (by first | (simp; done) | (simp; omega))).trans (by repeat (first | exact heap_new _ _ _ (by first | rfl | (simp; done) | (simp; omega)) | refine (Below.heap_alloc _ _ _ (by first | omega | (simp; done) | (simp; omega))).trans ?_))
  have r0_ha := cell_of_row _ _ 0 _ _ _ ha
  have r1_ha := cell_of_row _ _ 1 _ _ _ ha
  have r2_ha := cell_of_row _ _ 2 _ _ _ ha
  have r3_ha := cell_of_row _ _ 3 _ _ _ ha
  have r4_ha := cell_of_row _ _ 4 _ _ _ ha
  have f0_ha := frozen_of_row _ _ 0 _ _ ha
  have f1_ha := frozen_of_row _ _ 1 _ _ ha
  have f2_ha := frozen_of_row _ _ 2 _ _ ha
  have f3_ha := frozen_of_row _ _ 3 _ _ ha
  have f4_ha := frozen_of_row _ _ 4 _ _ ha
  simp at r0_ha r1_ha r2_ha r3_ha r4_ha
  have r0_hc := cell_of_row _ _ 0 _ _ _ hc
  have r1_hc := cell_of_row _ _ 1 _ _ _ hc
  have r2_hc := cell_of_row _ _ 2 _ _ _ hc
  have r3_hc := cell_of_row _ _ 3 _ _ _ hc
  have r4_hc := cell_of_row _ _ 4 _ _ _ hc
  have f0_hc := frozen_of_row _ _ 0 _ _ hc
  have f1_hc := frozen_of_row _ _ 1 _ _ hc
  have f2_hc := frozen_of_row _ _ 2 _ _ hc
  have f3_hc := frozen_of_row _ _ 3 _ _ hc
  have f4_hc := frozen_of_row _ _ 4 _ _ hc
  simp at r0_hc r1_hc r2_hc r3_hc r4_hc
  clear ha hc
  go_wp2_with fail
  go_ret
  exact ⟨rfl, (by repeat (first | with_reducible exact Below.refl _ _ | with_reducible assumption | with_reducible refine Below.drew ?_ | with_reducible refine Below.alloc ?_ (by first | exact Nat.le_refl _ | omega | (simp; done) | (simp; omega)) _ | with_reducible refine Below.setCell ?_ (by first | exact Nat.le_refl _ | omega | (simp; done) | (simp; omega)) _ | (with_reducible refine ext_trans ?_ (by with_reducible assumption))))⟩
theorem marks_nePiece {l : List RPiece} {k : Nat} (h : marksPiece l.length k ≠ []) : l ≠ [] := by
  rintro rfl
  exact h rfl
theorem markReceiver_any (x : RRcv) (v : Value) (n1 : x.hs.length ≤ 1048576) (q : Nat) (hk1 : 1 ≤ q) (hk2 : q ≤ 100000000) (base : Nat) (w : World) (h : OwnPiece w base v x.hs) :
    Calls Try.prog 11 #[vR x v, .int .i64 q] w (MarkedPiece v x.hs.length q base w) := by
  obtain ⟨A, c, rfl⟩ := h.form
  have HH := Lib.hid h
  clear h
  go_enter Try.func11, Try.ntmps11
  go_wp2_with fail
  refine (markPieceS_any _ x.hs n1 q hk1 hk2 base _ (HH.out.below (by repeat (first | with_reducible exact Below.refl _ _ | with_reducible assumption | with_reducible refine Below.drew ?_ | with_reducible refine Below.alloc ?_ (by first | exact Nat.le_refl _ | omega | (simp; done) | (simp; omega)) _ | with_reducible refine Below.setCell ?_ (by first | exact Nat.le_refl _ | omega | (simp; done) | (simp; omega)) _ | (with_reducible refine ext_trans ?_ (by with_reducible assumption)))))).mono ?_
  rintro e w1 ⟨rfl, hO, hg⟩
  have HO := Lib.hid hO
  clear hO
  go_wp2_with fail
  go_ret
  exact ⟨rfl, HO.out, only_trans' (grown_below (by repeat (first | with_reducible exact Below.refl _ _ | with_reducible assumption | with_reducible refine Below.drew ?_ | with_reducible refine Below.alloc ?_ (by first | exact Nat.le_refl _ | omega | (simp; done) | (simp; omega)) _ | with_reducible refine Below.setCell ?_ (by first | exact Nat.le_refl _ | omega | (simp; done) | (simp; omega)) _ | (with_reducible refine ext_trans ?_ (by with_reducible assumption)))) _) hg⟩
theorem heldReceiver_any (x : RRcv) (v : Value) (n : Nat) (hn : n ≤ 1048576) (q : Nat) (hk1 : 1 ≤ q) (hk2 : q ≤ 100000000) (w : World) (h : Rd w w.heap.size v n (cellsOf ePiece (marksPiece n q))) :
    Calls Try.prog 12 #[vR x v, .int .i64 q] w fun e w' => e = .returned (.int .i64 ((q + 2 * n : Nat) : Int)) ∧ Below w.heap.size w w' := by
  obtain ⟨A, c, rfl, _⟩ := id h
  have HH := Lib.hid h
  clear h
  go_enter Try.func12, Try.ntmps12
  go_wp2_with fail
  refine (heldPieceS_any _ n hn q hk1 hk2 _ (HH.out.below (by repeat (first | with_reducible exact Below.refl _ _ | with_reducible assumption | with_reducible refine Below.drew ?_ | with_reducible refine Below.alloc ?_ (by first | exact Nat.le_refl _ | omega | (simp; done) | (simp; omega)) _ | with_reducible refine Below.setCell ?_ (by first | exact Nat.le_refl _ | omega | (simp; done) | (simp; omega)) _ | (with_reducible refine ext_trans ?_ (by with_reducible assumption)))))).mono ?_
  rintro e w1 ⟨rfl, hb1⟩
  have hq : ¬ (((q + 2 * n : Nat) : Int) < 0) := by omega
  go_wp2_with fail
  go_ret
  exact ⟨rfl, (by repeat (first | with_reducible exact Below.refl _ _ | with_reducible assumption | with_reducible refine Below.drew ?_ | with_reducible refine Below.alloc ?_ (by first | exact Nat.le_refl _ | omega | (simp; done) | (simp; omega)) _ | with_reducible refine Below.setCell ?_ (by first | exact Nat.le_refl _ | omega | (simp; done) | (simp; omega)) _ | (with_reducible refine ext_trans ?_ (by with_reducible assumption))))⟩

theorem cloneReceiver_any (x : RRcv) (v : Value) (hn : x.hs.length ≤ 1048600) (w : World) (h : RdPiece w v x.hs) :
    Calls Try.prog 38 #[vR x v] w (NewReceiver x w) := by
  obtain ⟨A, c, rfl, -⟩ := id h
  have HH := Lib.hid h
  have HN := Lib.hid hn
  clear h hn
  go_enter Try.func38, Try.ntmps38
  go_wp2_with fail
  refine (ClonePiece_any _ x.hs HN.out _ (HH.out.below (by repeat (first | with_reducible exact Below.refl _ _ | with_reducible assumption | with_reducible refine Below.drew ?_ | with_reducible refine Below.alloc ?_ (by first | exact Nat.le_refl _ | omega | (simp; done) | (simp; omega)) _ | with_reducible refine Below.setCell ?_ (by first | exact Nat.le_refl _ | omega | (simp; done) | (simp; omega)) _ | (with_reducible refine ext_trans ?_ (by with_reducible assumption)))))).mono ?_
  rintro e w1 ⟨v, rfl, hO, hb1⟩
  obtain ⟨A1, c1, rfl⟩ := hO.form
  have hz1 := hb1.size
  simp at hz1
  have ha : w1.heap[w.heap.size]? = some (.cells #[.int .i64 x.nx, .string x.d, .slice A x.hs.length c, .int .i64 x.fin, .bool x.dn] 24 (0, 0)) := (hb1.block _ (by first | (simp; done) | (simp; omega))).trans (by repeat (first | exact heap_new _ _ _ (by first | rfl | (simp; done) | (simp; omega)) | refine (Below.heap_alloc _ _ _ (by first | omega | (simp; done) | (simp; omega))).trans ?_))
  have hr : w1.heap[w.heap.size + 1]? = some (.cells #[.int .i64 0, .string ⟨#[]⟩, .slice none 0 0, .int .i64 0, .bool false] 24 (0, 0)) := (hb1.block _ (by first | (simp; done) | (simp; omega))).trans (by repeat (first | exact heap_new _ _ _ (by first | rfl | (simp; done) | (simp; omega)) | refine (Below.heap_alloc _ _ _ (by first | omega | (simp; done) | (simp; omega))).trans ?_))
  have HO : Hid (OwnPiece w1 (w.heap.size + 2) (.slice A1 x.hs.length c1) x.hs) := hO.mono (by simp)
  have hl := (Array.getElem?_eq_some_iff.1 hr).1
  clear hO
  have r0_ha := cell_of_row _ _ 0 _ _ _ ha
  have r1_ha := cell_of_row _ _ 1 _ _ _ ha
  have r2_ha := cell_of_row _ _ 2 _ _ _ ha
  have r3_ha := cell_of_row _ _ 3 _ _ _ ha
  have r4_ha := cell_of_row _ _ 4 _ _ _ ha
  have f0_ha := frozen_of_row _ _ 0 _ _ ha
  have f1_ha := frozen_of_row _ _ 1 _ _ ha
  have f2_ha := frozen_of_row _ _ 2 _ _ ha
  have f3_ha := frozen_of_row _ _ 3 _ _ ha
  have f4_ha := frozen_of_row _ _ 4 _ _ ha
  simp at r0_ha r1_ha r2_ha r3_ha r4_ha
  have r0_hr := cell_of_row _ _ 0 _ _ _ hr
  have r1_hr := cell_of_row _ _ 1 _ _ _ hr
  have r2_hr := cell_of_row _ _ 2 _ _ _ hr
  have r3_hr := cell_of_row _ _ 3 _ _ _ hr
  have r4_hr := cell_of_row _ _ 4 _ _ _ hr
  have f0_hr := frozen_of_row _ _ 0 _ _ hr
  have f1_hr := frozen_of_row _ _ 1 _ _ hr
  have f2_hr := frozen_of_row _ _ 2 _ _ hr
  have f3_hr := frozen_of_row _ _ 3 _ _ hr
  have f4_hr := frozen_of_row _ _ 4 _ _ hr
  simp at r0_hr r1_hr r2_hr r3_hr r4_hr
  go_wp2_with fail
  apply bodyPost_ret (results_cell_row (P := Try.prog) (fn := Try.f38) rfl _ _ _ 24 _ (0, 0) _ rfl _ Try.underlying24 rfl _) rfl
  rotate_left 2
  · repeat (first | (with_reducible apply heap_setCell_same) | (with_reducible apply drew_row) | (with_reducible apply drewN_row) | (with_reducible exact hr) | (with_reducible refine (heap_setCell_other _ _ _ _ (by first | omega | (simp; done) | (simp; omega))).trans ?_) | (with_reducible refine (Below.heap_alloc _ _ _ (by first | omega | (simp; done) | (simp; omega))).trans ?_))
  · kernel_rfl
  exact ⟨_, by simp; rfl, OwnE.mono (base := w.heap.size + 2) (by repeat (first | with_reducible exact HO.out | (with_reducible refine OwnE.setBelow ?_ (by first | (simp; done) | (simp; omega)) _) | with_reducible refine OwnE.alloc ?_ _ | with_reducible refine OwnE.drew ?_)) (by omega), (by repeat (first | with_reducible exact Below.refl _ _ | with_reducible assumption | with_reducible refine Below.drew ?_ | with_reducible refine Below.alloc ?_ (by first | exact Nat.le_refl _ | omega | (simp; done) | (simp; omega)) _ | with_reducible refine Below.setCell ?_ (by first | exact Nat.le_refl _ | omega | (simp; done) | (simp; omega)) _ | (with_reducible refine ext_trans ?_ (by with_reducible assumption))))⟩
set_option maxHeartbeats 1000000 in
theorem l18Copy_any (x : RRcv) (v : Value) (hn : x.hs.length ≤ 1048600) (w : World) (h : RdPiece w v x.hs) :
    Calls Try.prog 36 #[vR x v] w (NewReceiver x w) := by
  obtain ⟨i0, hi, hz0, hz1, hz2⟩ := info_parts info_Piece
  obtain ⟨A, c, rfl, ⟨hc1, hc2, hc3⟩, -⟩ := id h
  unfold maxLen at hc2
  have HH := Lib.hid h
  clear h
  cases A with
  | none =>
    obtain rfl := hc3 rfl
    have h0 : x.hs = [] := List.eq_nil_of_length_eq_zero (by omega)
    obtain ⟨nx, d, hs, fin, dn⟩ := x
    dsimp only at *
    subst h0
    clear hc1 hc2 hc3 HH
    go_enter Try.func36, Try.ntmps36
    go_wp2_with (refine wpList_append_own_none (by rfl) (.tmp 3) (.tmp 5) 22 (by rfl) (w.heap.size + 2) 48 i0 2 Try.underlying22 hi (.slice (some ⟨w.heap.size + 2, 0, none⟩) 0 0) 0 [] (by rfl) ?c1 (by rfl) ?_)
    case c1 =>
      have h := World.ownsRow_made (base := w.heap.size + 2) (e := 48) (size := 2) ((w.alloc (.cells #[.int .i64 nx, .string d, .slice none 0 0, .int .i64 fin, .bool dn] 24)).alloc (.cells #[.int .i64 0, .string ⟨#[]⟩, .slice none 0 0, .int .i64 0, .bool false] 24)) #[] 0 (by simp) (Nat.zero_le _) (by simp)
      rw [show ((w.alloc (.cells #[.int .i64 nx, .string d, .slice none 0 0, .int .i64 fin, .bool dn] 24)).alloc (.cells #[.int .i64 0, .string ⟨#[]⟩, .slice none 0 0, .int .i64 0, .bool false] 24)).heap.size = w.heap.size + 2 from by simp] at h
      exact h
    exact bodyPost_ret (v := .agg #[.int .i64 nx, .string d, .slice (some ⟨w.heap.size + 2, 0, none⟩) 0 0, .int .i64 fin, .bool dn]) (by simp [results, Try.results36, go_sem]) rfl ⟨_, rfl, .inr ⟨rfl, _, _, rfl, Nat.zero_le _, fun h => by cases h⟩, (by repeat (first | with_reducible exact Below.refl _ _ | with_reducible assumption | with_reducible refine Below.drew ?_ | with_reducible refine Below.alloc ?_ (by first | exact Nat.le_refl _ | omega | (simp; done) | (simp; omega)) _ | with_reducible refine Below.setCell ?_ (by first | exact Nat.le_refl _ | omega | (simp; done) | (simp; omega)) _ | (with_reducible refine ext_trans ?_ (by with_reducible assumption))))⟩
  | some ad =>
    clear hc3
    go_enter Try.func36, Try.ntmps36
    go_wp2_with (refine wpList_append_own _ (by rfl) (.tmp 3) (.tmp 5) 22 (by rfl) (w.heap.size + 2) 48 i0 _ 2 24 Try.underlying22 hi hz0 hz1 hz2 (by rfl) (by omega) (.slice (some ⟨w.heap.size + 2, 0, none⟩) 0 0) 0 [] (by rfl) ?c1 ad x.hs.length c (cellsOf ePiece x.hs) (by rfl) ?c2 ?c3 ?c4 ?c5 ?c6 ?c7 ?_)
    case c1 =>
      have h := World.ownsRow_made (base := w.heap.size + 2) (e := 48) (size := 2) ((w.alloc (.cells #[.int .i64 x.nx, .string x.d, .slice (some ad) x.hs.length c, .int .i64 x.fin, .bool x.dn] 24)).alloc (.cells #[.int .i64 0, .string ⟨#[]⟩, .slice none 0 0, .int .i64 0, .bool false] 24)) #[] 0 (by simp) (Nat.zero_le _) (by simp)
      rw [show ((w.alloc (.cells #[.int .i64 x.nx, .string x.d, .slice (some ad) x.hs.length c, .int .i64 x.fin, .bool x.dn] 24)).alloc (.cells #[.int .i64 0, .string ⟨#[]⟩, .slice none 0 0, .int .i64 0, .bool false] 24)).heap.size = w.heap.size + 2 from by simp] at h
      exact h
    case c2 => exact cells_len (m := 2) ePiece_len x.hs
    case c3 => exact HH.out.newsPiece (by repeat (first | with_reducible exact Below.refl _ _ | with_reducible assumption | with_reducible refine Below.drew ?_ | with_reducible refine Below.alloc ?_ (by first | exact Nat.le_refl _ | omega | (simp; done) | (simp; omega)) _ | with_reducible refine Below.setCell ?_ (by first | exact Nat.le_refl _ | omega | (simp; done) | (simp; omega)) _ | (with_reducible refine ext_trans ?_ (by with_reducible assumption))))
    case c4 => exact onePiece x.hs
    case c5 => unfold maxLen; omega
    case c6 => omega
    case c7 => simp
    intro v' w1 hown hgr _
    obtain ⟨A', c', rfl⟩ : ∃ A' c', v' = .slice A' x.hs.length c' := OwnE.form (enc := ePiece) (.inl hown)
    have HO : Hid (OwnPiece w1 (w.heap.size + 2) (.slice A' x.hs.length c') x.hs) := .inl hown
    have hb1 : Below (w.heap.size + 2) (((w.alloc (.cells #[.int .i64 x.nx, .string x.d, .slice (some ad) x.hs.length c, .int .i64 x.fin, .bool x.dn] 24)).alloc (.cells #[.int .i64 0, .string ⟨#[]⟩, .slice none 0 0, .int .i64 0, .bool false] 24)).alloc (.cells #[] 48)) w1 := Below.grown (Below.refl _ _) hgr (by simp) (by simp [Value.ownBlock])
    have ha : w1.heap[w.heap.size]? = some (.cells #[.int .i64 x.nx, .string x.d, .slice (some ad) x.hs.length c, .int .i64 x.fin, .bool x.dn] 24 (0, 0)) := (hb1.block _ (by omega)).trans (by repeat (first | exact heap_new _ _ _ (by first | rfl | (simp; done) | (simp; omega)) | refine (Below.heap_alloc _ _ _ (by first | omega | (simp; done) | (simp; omega))).trans ?_))
    have hr : w1.heap[w.heap.size + 1]? = some (.cells #[.int .i64 0, .string ⟨#[]⟩, .slice none 0 0, .int .i64 0, .bool false] 24 (0, 0)) := (hb1.block _ (by omega)).trans (by repeat (first | exact heap_new _ _ _ (by first | rfl | (simp; done) | (simp; omega)) | refine (Below.heap_alloc _ _ _ (by first | omega | (simp; done) | (simp; omega))).trans ?_))
    have hbw : Below w.heap.size w w1 := ((((Below.refl _ _).alloc (Nat.le_refl _) _).alloc (by simp) _).alloc (by simp; omega) _).trans (hb1.mono (by omega))
    have hlw := (Array.getElem?_eq_some_iff.1 hr).1
    clear hown hgr
    have r0_ha := cell_of_row _ _ 0 _ _ _ ha
    have r1_ha := cell_of_row _ _ 1 _ _ _ ha
    have r2_ha := cell_of_row _ _ 2 _ _ _ ha
    have r3_ha := cell_of_row _ _ 3 _ _ _ ha
    have r4_ha := cell_of_row _ _ 4 _ _ _ ha
    have f0_ha := frozen_of_row _ _ 0 _ _ ha
    have f1_ha := frozen_of_row _ _ 1 _ _ ha
    have f2_ha := frozen_of_row _ _ 2 _ _ ha
    have f3_ha := frozen_of_row _ _ 3 _ _ ha
    have f4_ha := frozen_of_row _ _ 4 _ _ ha
    simp at r0_ha r1_ha r2_ha r3_ha r4_ha
    have r0_hr := cell_of_row _ _ 0 _ _ _ hr
    have r1_hr := cell_of_row _ _ 1 _ _ _ hr
    have r2_hr := cell_of_row _ _ 2 _ _ _ hr
    have r3_hr := cell_of_row _ _ 3 _ _ _ hr
    have r4_hr := cell_of_row _ _ 4 _ _ _ hr
    have f0_hr := frozen_of_row _ _ 0 _ _ hr
    have f1_hr := frozen_of_row _ _ 1 _ _ hr
    have f2_hr := frozen_of_row _ _ 2 _ _ hr
    have f3_hr := frozen_of_row _ _ 3 _ _ hr
    have f4_hr := frozen_of_row _ _ 4 _ _ hr
    simp at r0_hr r1_hr r2_hr r3_hr r4_hr
    go_wp2_with fail
    apply bodyPost_ret (results_cell_row (P := Try.prog) (fn := Try.f36) rfl _ _ _ 24 _ (0, 0) _ rfl _ Try.underlying24 rfl _) rfl
    rotate_left 2
    · repeat (first | (with_reducible apply heap_setCell_same) | (with_reducible apply drew_row) | (with_reducible apply drewN_row) | (with_reducible exact hr) | (with_reducible refine (heap_setCell_other _ _ _ _ (by first | omega | (simp; done) | (simp; omega))).trans ?_) | (with_reducible refine (Below.heap_alloc _ _ _ (by first | omega | (simp; done) | (simp; omega))).trans ?_))
    · kernel_rfl
    exact ⟨_, by simp; rfl, OwnE.mono (base := w.heap.size + 2) (by repeat (first | with_reducible exact HO.out | (with_reducible refine OwnE.setBelow ?_ (by first | (simp; done) | (simp; omega)) _) | with_reducible refine OwnE.alloc ?_ _ | with_reducible refine OwnE.drew ?_)) (by omega), (by repeat (first | with_reducible exact Below.refl _ _ | with_reducible assumption | with_reducible refine Below.drew ?_ | with_reducible refine Below.alloc ?_ (by first | exact Nat.le_refl _ | omega | (simp; done) | (simp; omega)) _ | with_reducible refine Below.setCell ?_ (by first | exact Nat.le_refl _ | omega | (simp; done) | (simp; omega)) _ | (with_reducible refine ext_trans ?_ (by with_reducible assumption))))⟩

end Go.Proofs.Ytgejnppfodpiiaa
