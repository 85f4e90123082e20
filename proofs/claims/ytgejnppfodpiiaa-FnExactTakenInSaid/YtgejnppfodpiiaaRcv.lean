/-
  Contracts of ReceiverNew, WindowOf and SameReceiver, the program's and the reference's.
-/
import Derived.Test.YtgejnppfodpiiaaRcs
import Derived.Test.YtgejnppfodpiiaaNum
import Derived.Test.YtgejnppfodpiiaaBits
import Derived.Test.YtgejnppfodpiiaaStr
namespace Go.Proofs.Ytgejnppfodpiiaa
set_option maxRecDepth 100000
open Go.RowKit
theorem l1Min_any (a b : Int) (w : World) : Calls Try.prog 37 #[.int .i64 a, .int .i64 b] w fun e w' => e = .returned (.int .i64 (if a < b then a else b)) ∧ w = w' := by
  by_cases h : a < b
  · rw [if_pos h]
    go_enter Try.func37, Try.ntmps37
    go_wp2
    go_ret
    exact ⟨rfl, rfl⟩
  · rw [if_neg h]
    go_enter Try.func37, Try.ntmps37
    go_wp2
    go_ret
    exact ⟨rfl, rfl⟩
theorem l1Max_any (a b : Int) (w : World) : Calls Try.prog 29 #[.int .i64 a, .int .i64 b] w fun e w' => e = .returned (.int .i64 (if b < a then a else b)) ∧ w = w' := by
  by_cases h : b < a
  · rw [if_pos h]
    go_enter Try.func29, Try.ntmps29
    go_wp2
    go_ret
    exact ⟨rfl, rfl⟩
  · rw [if_neg h]
    go_enter Try.func29, Try.ntmps29
    go_wp2
    go_ret
    exact ⟨rfl, rfl⟩

def seqAdd (a n : Int) : Int := (a + n) % 4294967296
theorem SeqAdd_any (a n : Int) (w : World) :
    Calls Try.prog 24 #[.int .i64 a, .int .i64 n] w fun e w' => e = .returned (.int .i64 (seqAdd a n)) ∧ w = w' := by
  have HM := Lib.hid and_32bits
  go_enter Try.func24, Try.ntmps24
  go_wp2
  go_ret
  refine ⟨?_, rfl⟩
  simp only [seqAdd]
  simp [HM.out]
  unfold wrap64
  omega

def newR (n : Int) : RRcv := ⟨rest32 n, ⟨#[]⟩, [], -1, false⟩
theorem ReceiverNew_any (n : Int) (w : World) :
    Calls Try.prog 9 #[.int .i64 n] w fun e w' => e = .returned (vR (newR n) (.slice none 0 0)) ∧ Below w.heap.size w w' := by
  go_enter Try.func9, Try.ntmps9
  go_wp2_with fail
  refine (SeqAdd_any _ _ _).mono ?_
  rintro e w' ⟨rfl, rfl⟩
  go_wp2_with fail
  exact bodyPost_ret (v := vR ⟨seqAdd n 0, ⟨#[]⟩, [], -1, false⟩ (.slice none 0 0)) (by simp [results, Try.results9, go_sem]) rfl ⟨by rw [show seqAdd n 0 = rest32 n from by simp [seqAdd, rest32]]; rfl, (by repeat (first | with_reducible exact Below.refl _ _ | with_reducible assumption | with_reducible refine Below.drew ?_ | with_reducible refine Below.alloc ?_ (by first | exact Nat.le_refl _ | omega | (simp; done) | (simp; omega)) _ | with_reducible refine Below.setCell ?_ (by first | exact Nat.le_refl _ | omega | (simp; done) | (simp; omega)) _ | (with_reducible refine ext_trans ?_ (by with_reducible assumption))))⟩
theorem sReceiverNew_any (n : Int) (h1 : -9223372036854775808 ≤ n) (h2 : n ≤ 9223372036854775807) (w : World) :
    Calls Try.prog 8 #[.int .i64 n] w fun e w' => e = .returned (vR (newR n) (.slice none 0 0)) ∧ Below w.heap.size w w' := by
  go_enter Try.func8, Try.ntmps8
  go_wp2_with fail
  refine (l4Rest_any _ h1 h2 _).mono ?_
  rintro e w' ⟨rfl, rfl⟩
  go_wp2_with fail
  exact bodyPost_ret (v := vR ⟨rest32 n, ⟨#[]⟩, [], -1, false⟩ (.slice none 0 0)) (by simp [results, Try.results8, go_sem]) rfl ⟨rfl, (by repeat (first | with_reducible exact Below.refl _ _ | with_reducible assumption | with_reducible refine Below.drew ?_ | with_reducible refine Below.alloc ?_ (by first | exact Nat.le_refl _ | omega | (simp; done) | (simp; omega)) _ | with_reducible refine Below.setCell ?_ (by first | exact Nat.le_refl _ | omega | (simp; done) | (simp; omega)) _ | (with_reducible refine ext_trans ?_ (by with_reducible assumption))))⟩
def winOf (x : RRcv) : Int := if x.dn then 0 else if (x.d.size : Int) < 32 then 32 - x.d.size else 0
theorem winOf_bd (x : RRcv) : 0 ≤ winOf x ∧ winOf x ≤ 32 := by
  unfold winOf
  split
  · omega
  · split <;> omega

theorem WindowOf_any (x : RRcv) (v : Value) (hd : x.d.size ≤ maxLen) (w : World) (h : RdPiece w v x.hs) :
    Calls Try.prog 16 #[vR x v] w fun e w' => e = .returned (.int .i64 (winOf x)) ∧ Below w.heap.size w w' := by
  obtain ⟨A, c, rfl, -⟩ := id h
  clear h
  unfold maxLen at hd
  obtain ⟨nx, d, hs, fin, dn⟩ := x
  dsimp only at *
  cases dn
  · by_cases hl : (d.size : Int) < 32
    · have hw : winOf ⟨nx, d, hs, fin, false⟩ = 32 - d.size := by simp [winOf]; omega
      rw [hw]
      clear hw
      go_enter Try.func16, Try.ntmps16
      go_wp2_with fail
      all_goals
        go_ret
        exact ⟨by first | rfl | (simp; omega), (by repeat (first | with_reducible exact Below.refl _ _ | with_reducible assumption | with_reducible refine Below.drew ?_ | with_reducible refine Below.alloc ?_ (by first | exact Nat.le_refl _ | omega | (simp; done) | (simp; omega)) _ | with_reducible refine Below.setCell ?_ (by first | exact Nat.le_refl _ | omega | (simp; done) | (simp; omega)) _ | (with_reducible refine ext_trans ?_ (by with_reducible assumption))))⟩
    · have hw : winOf ⟨nx, d, hs, fin, false⟩ = 0 := by simp [winOf]; omega
      rw [hw]
      clear hw
      go_enter Try.func16, Try.ntmps16
      go_wp2_with fail
      all_goals
        go_ret
        exact ⟨by first | rfl | (simp; omega), (by repeat (first | with_reducible exact Below.refl _ _ | with_reducible assumption | with_reducible refine Below.drew ?_ | with_reducible refine Below.alloc ?_ (by first | exact Nat.le_refl _ | omega | (simp; done) | (simp; omega)) _ | with_reducible refine Below.setCell ?_ (by first | exact Nat.le_refl _ | omega | (simp; done) | (simp; omega)) _ | (with_reducible refine ext_trans ?_ (by with_reducible assumption))))⟩
  · go_enter Try.func16, Try.ntmps16
    go_wp2_with fail
    go_ret
    exact ⟨rfl, (by repeat (first | with_reducible exact Below.refl _ _ | with_reducible assumption | with_reducible refine Below.drew ?_ | with_reducible refine Below.alloc ?_ (by first | exact Nat.le_refl _ | omega | (simp; done) | (simp; omega)) _ | with_reducible refine Below.setCell ?_ (by first | exact Nat.le_refl _ | omega | (simp; done) | (simp; omega)) _ | (with_reducible refine ext_trans ?_ (by with_reducible assumption))))⟩

theorem sWindowOf_any (x : RRcv) (v : Value) (hd : x.d.size ≤ maxLen) (w : World) (h : RdPiece w v x.hs) :
    Calls Try.prog 14 #[vR x v] w fun e w' => e = .returned (.int .i64 (winOf x)) ∧ Below w.heap.size w w' := by
  obtain ⟨A, c, rfl, -⟩ := id h
  clear h
  unfold maxLen at hd
  obtain ⟨nx, d, hs, fin, dn⟩ := x
  dsimp only at *
  cases dn
  · by_cases hl : (d.size : Int) < 32
    · have hw : winOf ⟨nx, d, hs, fin, false⟩ = 32 - d.size := by simp [winOf]; omega
      rw [hw]
      clear hw
      go_enter Try.func14, Try.ntmps14
      go_wp2_with (go_at_call 29; refine (l1Max_any _ _ _).mono ?_; rintro e w' ⟨rfl, rfl⟩)
      all_goals
        go_ret
        exact ⟨by first | rfl | (simp; omega), (by repeat (first | with_reducible exact Below.refl _ _ | with_reducible assumption | with_reducible refine Below.drew ?_ | with_reducible refine Below.alloc ?_ (by first | exact Nat.le_refl _ | omega | (simp; done) | (simp; omega)) _ | with_reducible refine Below.setCell ?_ (by first | exact Nat.le_refl _ | omega | (simp; done) | (simp; omega)) _ | (with_reducible refine ext_trans ?_ (by with_reducible assumption))))⟩
    · have hw : winOf ⟨nx, d, hs, fin, false⟩ = 0 := by simp [winOf]; omega
      rw [hw]
      clear hw
      go_enter Try.func14, Try.ntmps14
      go_wp2_with (go_at_call 29; refine (l1Max_any _ _ _).mono ?_; rintro e w' ⟨rfl, rfl⟩)
      all_goals
        go_ret
        exact ⟨by first | rfl | (simp; omega), (by repeat (first | with_reducible exact Below.refl _ _ | with_reducible assumption | with_reducible refine Below.drew ?_ | with_reducible refine Below.alloc ?_ (by first | exact Nat.le_refl _ | omega | (simp; done) | (simp; omega)) _ | with_reducible refine Below.setCell ?_ (by first | exact Nat.le_refl _ | omega | (simp; done) | (simp; omega)) _ | (with_reducible refine ext_trans ?_ (by with_reducible assumption))))⟩
  · go_enter Try.func14, Try.ntmps14
    go_wp2_with (go_at_call 29; refine (l1Max_any _ _ _).mono ?_; rintro e w' ⟨rfl, rfl⟩)
    go_ret
    exact ⟨rfl, (by repeat (first | with_reducible exact Below.refl _ _ | with_reducible assumption | with_reducible refine Below.drew ?_ | with_reducible refine Below.alloc ?_ (by first | exact Nat.le_refl _ | omega | (simp; done) | (simp; omega)) _ | with_reducible refine Below.setCell ?_ (by first | exact Nat.le_refl _ | omega | (simp; done) | (simp; omega)) _ | (with_reducible refine ext_trans ?_ (by with_reducible assumption))))⟩

def RRcv.same (a b : RRcv) : Bool := decide (a.nx = b.nx) && (decide (a.d = b.d) && (decide (a.hs = b.hs) && (decide (a.fin = b.fin) && (a.dn == b.dn))))
theorem EqualPieceB (v1 v2 : Value) (l1 l2 : List RPiece) (B : Bool) (hB : decide (l1 = l2) = B) (n1 : l1.length ≤ maxLen) (n2 : l2.length ≤ maxLen) (w : World) (h1 : RdPiece w v1 l1) (h2 : RdPiece w v2 l2) :
    Calls Try.prog 31 #[v1, v2] w fun e w' => e = .returned (.bool B) ∧ Below w.heap.size w w' := by
  subst hB
  exact EqualPiece_any _ _ l1 l2 n1 n2 w h1 h2

set_option maxHeartbeats 1000000 in
theorem SameReceiver_any (a b : RRcv) (v1 v2 : Value) (n1 : a.hs.length ≤ maxLen) (n2 : b.hs.length ≤ maxLen) (w : World) (h1 : RdPiece w v1 a.hs) (h2 : RdPiece w v2 b.hs) :
    Calls Try.prog 18 #[vR a v1, vR b v2] w fun e w' => e = .returned (.bool (a.same b)) ∧ Below w.heap.size w w' := by
  obtain ⟨A1, c1, rfl, -⟩ := id h1
  obtain ⟨A2, c2, rfl, -⟩ := id h2
  obtain ⟨n, d, h, f, t⟩ := a
  obtain ⟨n', d', h', f', t'⟩ := b
  dsimp only at *
  have H1 := Lib.hid h1
  have H2 := Lib.hid h2
  have N1 := Lib.hid n1
  have N2 := Lib.hid n2
  clear h1 h2 n1 n2
  by_cases hn : n = n'
  · subst hn
    by_cases hd : d = d'
    · subst hd
      obtain ⟨B, hB⟩ : ∃ B, decide (h = h') = B := ⟨_, rfl⟩
      have hs : RRcv.same ⟨n, d, h, f, t⟩ ⟨n, d, h', f', t'⟩ = (B && (decide (f = f') && (t == t'))) := by simp [RRcv.same, hB]
      rw [hs]
      have HB := Lib.hid hB
      clear hB hs
      go_enter Try.func18, Try.ntmps18
      go_wp2_with fail
      refine (EqualPieceB _ _ h h' B HB.out N1.out N2.out _ (H1.out.below (by repeat (first | with_reducible exact Below.refl _ _ | with_reducible assumption | with_reducible refine Below.drew ?_ | with_reducible refine Below.alloc ?_ (by first | exact Nat.le_refl _ | omega | (simp; done) | (simp; omega)) _ | with_reducible refine Below.setCell ?_ (by first | exact Nat.le_refl _ | omega | (simp; done) | (simp; omega)) _ | (with_reducible refine ext_trans ?_ (by with_reducible assumption))))) (H2.out.below (by repeat (first | with_reducible exact Below.refl _ _ | with_reducible assumption | with_reducible refine Below.drew ?_ | with_reducible refine Below.alloc ?_ (by first | exact Nat.le_refl _ | omega | (simp; done) | (simp; omega)) _ | with_reducible refine Below.setCell ?_ (by first | exact Nat.le_refl _ | omega | (simp; done) | (simp; omega)) _ | (with_reducible refine ext_trans ?_ (by with_reducible assumption)))))).mono ?_
      rintro e w1 ⟨rfl, hb1⟩
      have hz1 := hb1.size
      simp at hz1
      have ha : w1.heap[w.heap.size]? = some (.cells #[.int .i64 n, .string d, .slice A1 h.length c1, .int .i64 f, .bool t] 24 (0, 0)) := (hb1.block _ (by first | (simp; done) | (simp; omega))).trans (by repeat (first | exact heap_new _ _ _ (by first | rfl | (simp; done) | (simp; omega)) | refine (Below.heap_alloc _ _ _ (by first | omega | (simp; done) | (simp; omega))).trans ?_))
      have hc : w1.heap[w.heap.size + 1]? = some (.cells #[.int .i64 n, .string d, .slice A2 h'.length c2, .int .i64 f', .bool t'] 24 (0, 0)) := (hb1.block _ (by first | (simp; done) | (simp; omega))).trans (by repeat (first | exact heap_new _ _ _ (by first | rfl | (simp; done) | (simp; omega)) | refine (Below.heap_alloc _ _ _ (by first | omega | (simp; done) | (simp; omega))).trans ?_))
      have r0_ha := cell_of_row _ _ 0 _ _ _ ha
      have r1_ha := cell_of_row _ _ 1 _ _ _ ha
      have r2_ha := cell_of_row _ _ 2 _ _ _ ha
      have r3_ha := cell_of_row _ _ 3 _ _ _ ha
      have r4_ha := cell_of_row _ _ 4 _ _ _ ha
      have f0_ha := frozen_of_row _ _ 0 _ _ ha
      have f1_ha := frozen_of_row _ _ 1 _ _ ha
      have f2_ha := frozen_of_row _ _ 2 _ _ ha
      have f3_ha := frozen_of_row _ _ 3 _ _ ha
      have f4_ha := frozen_of_row _ _ 4 _ _ ha
      simp at r0_ha r1_ha r2_ha r3_ha r4_ha
      have r0_hc := cell_of_row _ _ 0 _ _ _ hc
      have r1_hc := cell_of_row _ _ 1 _ _ _ hc
      have r2_hc := cell_of_row _ _ 2 _ _ _ hc
      have r3_hc := cell_of_row _ _ 3 _ _ _ hc
      have r4_hc := cell_of_row _ _ 4 _ _ _ hc
      have f0_hc := frozen_of_row _ _ 0 _ _ hc
      have f1_hc := frozen_of_row _ _ 1 _ _ hc
      have f2_hc := frozen_of_row _ _ 2 _ _ hc
      have f3_hc := frozen_of_row _ _ 3 _ _ hc
      have f4_hc := frozen_of_row _ _ 4 _ _ hc
      simp at r0_hc r1_hc r2_hc r3_hc r4_hc
      clear ha hc
      cases B
      · go_wp2_with fail
        go_ret
        exact ⟨rfl, (by repeat (first | with_reducible exact Below.refl _ _ | with_reducible assumption | with_reducible refine Below.drew ?_ | with_reducible refine Below.alloc ?_ (by first | exact Nat.le_refl _ | omega | (simp; done) | (simp; omega)) _ | with_reducible refine Below.setCell ?_ (by first | exact Nat.le_refl _ | omega | (simp; done) | (simp; omega)) _ | (with_reducible refine ext_trans ?_ (by with_reducible assumption))))⟩
      · by_cases hf : f = f'
        · subst hf
          go_wp2_with fail
          go_ret
          exact ⟨by simp, (by repeat (first | with_reducible exact Below.refl _ _ | with_reducible assumption | with_reducible refine Below.drew ?_ | with_reducible refine Below.alloc ?_ (by first | exact Nat.le_refl _ | omega | (simp; done) | (simp; omega)) _ | with_reducible refine Below.setCell ?_ (by first | exact Nat.le_refl _ | omega | (simp; done) | (simp; omega)) _ | (with_reducible refine ext_trans ?_ (by with_reducible assumption))))⟩
        · go_wp2_with fail
          all_goals
            go_ret
            exact ⟨by simp [hf], (by repeat (first | with_reducible exact Below.refl _ _ | with_reducible assumption | with_reducible refine Below.drew ?_ | with_reducible refine Below.alloc ?_ (by first | exact Nat.le_refl _ | omega | (simp; done) | (simp; omega)) _ | with_reducible refine Below.setCell ?_ (by first | exact Nat.le_refl _ | omega | (simp; done) | (simp; omega)) _ | (with_reducible refine ext_trans ?_ (by with_reducible assumption))))⟩
    · have hne := bs_ne hd
      have hne2 : ¬ d.toList = d'.toList := fun h => hd (bytes_eq h)
      go_enter Try.func18, Try.ntmps18
      go_wp2_with fail
      all_goals
        go_ret
        exact ⟨by simp [RRcv.same, hd], (by repeat (first | with_reducible exact Below.refl _ _ | with_reducible assumption | with_reducible refine Below.drew ?_ | with_reducible refine Below.alloc ?_ (by first | exact Nat.le_refl _ | omega | (simp; done) | (simp; omega)) _ | with_reducible refine Below.setCell ?_ (by first | exact Nat.le_refl _ | omega | (simp; done) | (simp; omega)) _ | (with_reducible refine ext_trans ?_ (by with_reducible assumption))))⟩
  · go_enter Try.func18, Try.ntmps18
    go_wp2_with fail
    all_goals
      go_ret
      exact ⟨by simp [RRcv.same, hn], (by repeat (first | with_reducible exact Below.refl _ _ | with_reducible assumption | with_reducible refine Below.drew ?_ | with_reducible refine Below.alloc ?_ (by first | exact Nat.le_refl _ | omega | (simp; done) | (simp; omega)) _ | with_reducible refine Below.setCell ?_ (by first | exact Nat.le_refl _ | omega | (simp; done) | (simp; omega)) _ | (with_reducible refine ext_trans ?_ (by with_reducible assumption))))⟩
set_option maxHeartbeats 2000000 in
theorem sSameReceiver_any (a b : RRcv) (v1 v2 : Value) (n1 : a.hs.length ≤ maxLen) (n2 : b.hs.length ≤ maxLen) (w : World) (h1 : RdPiece w v1 a.hs) (h2 : RdPiece w v2 b.hs) :
    Calls Try.prog 17 #[vR a v1, vR b v2] w fun e w' => e = .returned (.bool (a.same b)) ∧ Below w.heap.size w w' := by
  obtain ⟨A1, c1, rfl, -⟩ := id h1
  obtain ⟨A2, c2, rfl, -⟩ := id h2
  obtain ⟨n, d, r1, f, t⟩ := a
  obtain ⟨n', d', r2, f', t'⟩ := b
  dsimp only at *
  unfold maxLen at n1 n2
  have H1 := Lib.hid h1
  have H2' := Lib.hid h2
  clear h1 h2
  by_cases hn : n = n'
  case neg =>
    go_enter Try.func17, Try.ntmps17
    go_wp2_with fail
    all_goals
      go_ret
      exact ⟨by simp [RRcv.same, hn], (by repeat (first | with_reducible exact Below.refl _ _ | with_reducible assumption | with_reducible refine Below.drew ?_ | with_reducible refine Below.alloc ?_ (by first | exact Nat.le_refl _ | omega | (simp; done) | (simp; omega)) _ | with_reducible refine Below.setCell ?_ (by first | exact Nat.le_refl _ | omega | (simp; done) | (simp; omega)) _ | (with_reducible refine ext_trans ?_ (by with_reducible assumption))))⟩
  subst hn
  by_cases hd : d = d'
  case neg =>
    have hne := bs_ne hd
    have hne2 : ¬ d.toList = d'.toList := fun h => hd (bytes_eq h)
    go_enter Try.func17, Try.ntmps17
    go_wp2_with fail
    all_goals
      go_ret
      exact ⟨by simp [RRcv.same, hd], (by repeat (first | with_reducible exact Below.refl _ _ | with_reducible assumption | with_reducible refine Below.drew ?_ | with_reducible refine Below.alloc ?_ (by first | exact Nat.le_refl _ | omega | (simp; done) | (simp; omega)) _ | with_reducible refine Below.setCell ?_ (by first | exact Nat.le_refl _ | omega | (simp; done) | (simp; omega)) _ | (with_reducible refine ext_trans ?_ (by with_reducible assumption))))⟩
  subst hd
  by_cases hf : f = f'
  case neg =>
    go_enter Try.func17, Try.ntmps17
    go_wp2_with fail
    all_goals
      go_ret
      exact ⟨by simp [RRcv.same, hf], (by repeat (first | with_reducible exact Below.refl _ _ | with_reducible assumption | with_reducible refine Below.drew ?_ | with_reducible refine Below.alloc ?_ (by first | exact Nat.le_refl _ | omega | (simp; done) | (simp; omega)) _ | with_reducible refine Below.setCell ?_ (by first | exact Nat.le_refl _ | omega | (simp; done) | (simp; omega)) _ | (with_reducible refine ext_trans ?_ (by with_reducible assumption))))⟩
  subst hf
  by_cases ht : t = t'
  case neg =>
    go_enter Try.func17, Try.ntmps17
    go_wp2_with fail
    all_goals
      go_ret
      exact ⟨by simp [RRcv.same, ht], (by repeat (first | with_reducible exact Below.refl _ _ | with_reducible assumption | with_reducible refine Below.drew ?_ | with_reducible refine Below.alloc ?_ (by first | exact Nat.le_refl _ | omega | (simp; done) | (simp; omega)) _ | with_reducible refine Below.setCell ?_ (by first | exact Nat.le_refl _ | omega | (simp; done) | (simp; omega)) _ | (with_reducible refine ext_trans ?_ (by with_reducible assumption))))⟩
  subst ht
  have hs : RRcv.same ⟨n, d, r1, f, t⟩ ⟨n, d, r2, f, t⟩ = decide (r1 = r2) := by simp [RRcv.same]
  rw [hs]
  clear hs
  by_cases hr : r1.length = r2.length
  case neg =>
    have hne : ¬ ((r1.length : Int) = (r2.length : Int)) := by omega
    rw [list_len_ne hr]
    go_enter Try.func17, Try.ntmps17
    go_wp2_with fail
    all_goals
      go_ret
      exact ⟨rfl, (by repeat (first | with_reducible exact Below.refl _ _ | with_reducible assumption | with_reducible refine Below.drew ?_ | with_reducible refine Below.alloc ?_ (by first | exact Nat.le_refl _ | omega | (simp; done) | (simp; omega)) _ | with_reducible refine Below.setCell ?_ (by first | exact Nat.le_refl _ | omega | (simp; done) | (simp; omega)) _ | (with_reducible refine ext_trans ?_ (by with_reducible assumption))))⟩
  have H2 : Hid (Rd w w.heap.size (.slice A2 r1.length c2) r1.length (cellsOf ePiece r2)) := by
    have h := H2'.out
    unfold RdPiece at h
    rw [← hr] at h
    exact h
  clear H2'
  rw [← hr]
  have HL := Lib.hid hr
  clear hr n2
  go_enter Try.func17, Try.ntmps17
  go_wp2_with fail
  go_loopw [5] (fun i wr => ∃ k : Nat, k ≤ r1.length ∧ i = .int .i64 k ∧ Hid (r1.take k = r2.take k) ∧ Hid (wr.heap[w.heap.size]? = some (.cells #[.int .i64 n, .string d, .slice A1 r1.length c1, .int .i64 f, .bool t] 24 (0, 0))) ∧ Hid (wr.heap[w.heap.size + 1]? = some (.cells #[.int .i64 n, .string d, .slice A2 r1.length c2, .int .i64 f, .bool t] 24 (0, 0))) ∧ Below w.heap.size w wr) (fun i _ => r1.length - (intOf i).toNat)
  case atStart => exact ⟨0, by omega, rfl, rfl, (by repeat (first | exact heap_new _ _ _ (by first | rfl | (simp; done) | (simp; omega)) | refine (Below.heap_alloc _ _ _ (by first | omega | (simp; done) | (simp; omega))).trans ?_)), (by repeat (first | exact heap_new _ _ _ (by first | rfl | (simp; done) | (simp; omega)) | refine (Below.heap_alloc _ _ _ (by first | omega | (simp; done) | (simp; omega))).trans ?_)), (by repeat (first | with_reducible exact Below.refl _ _ | with_reducible assumption | with_reducible refine Below.drew ?_ | with_reducible refine Below.alloc ?_ (by first | exact Nat.le_refl _ | omega | (simp; done) | (simp; omega)) _ | with_reducible refine Below.setCell ?_ (by first | exact Nat.le_refl _ | omega | (simp; done) | (simp; omega)) _ | (with_reducible refine ext_trans ?_ (by with_reducible assumption))))⟩
  case round =>
    obtain ⟨k, hk, rfl, htk, hR1, hR2, hb⟩ := hrel
    have hr1 := hR1.out
    have hr2 := hR2.out
    have r0_hr1 := cell_of_row _ _ 0 _ _ _ hr1
    have r1_hr1 := cell_of_row _ _ 1 _ _ _ hr1
    have r2_hr1 := cell_of_row _ _ 2 _ _ _ hr1
    have r3_hr1 := cell_of_row _ _ 3 _ _ _ hr1
    have r4_hr1 := cell_of_row _ _ 4 _ _ _ hr1
    have f0_hr1 := frozen_of_row _ _ 0 _ _ hr1
    have f1_hr1 := frozen_of_row _ _ 1 _ _ hr1
    have f2_hr1 := frozen_of_row _ _ 2 _ _ hr1
    have f3_hr1 := frozen_of_row _ _ 3 _ _ hr1
    have f4_hr1 := frozen_of_row _ _ 4 _ _ hr1
    simp at r0_hr1 r1_hr1 r2_hr1 r3_hr1 r4_hr1
    have r0_hr2 := cell_of_row _ _ 0 _ _ _ hr2
    have r1_hr2 := cell_of_row _ _ 1 _ _ _ hr2
    have r2_hr2 := cell_of_row _ _ 2 _ _ _ hr2
    have r3_hr2 := cell_of_row _ _ 3 _ _ _ hr2
    have r4_hr2 := cell_of_row _ _ 4 _ _ _ hr2
    have f0_hr2 := frozen_of_row _ _ 0 _ _ hr2
    have f1_hr2 := frozen_of_row _ _ 1 _ _ hr2
    have f2_hr2 := frozen_of_row _ _ 2 _ _ hr2
    have f3_hr2 := frozen_of_row _ _ 3 _ _ hr2
    have f4_hr2 := frozen_of_row _ _ 4 _ _ hr2
    simp at r0_hr2 r1_hr2 r2_hr2 r3_hr2 r4_hr2
    clear hr1 hr2
    by_cases hlt1 : k < r1.length
    · have hlt2 : k < r2.length := by have := HL.out; omega
      obtain ⟨b1, off1, rfl, hbB1, hcell1⟩ := H1.out.elem ePiece_len (by omega) k hlt1
      obtain ⟨z1, hz1⟩ : ∃ z, r1[k] = z := ⟨_, rfl⟩
      rw [hz1] at hcell1
      obtain ⟨x0, x1⟩ := z1
      have c10 : wr.cell? ⟨b1, off1 + k * 2, none⟩ = some (.int .i64 x0) := (hb.cell (p := ⟨b1, _, none⟩) hbB1).trans (hcell1 0 (by omega))
      have c11 : wr.cell? ⟨b1, off1 + k * 2 + 1, none⟩ = some (.string x1) := (hb.cell (p := ⟨b1, _, none⟩) hbB1).trans (hcell1 1 (by omega))
      have HZ1 := Lib.hid hz1
      clear hcell1 hz1
      obtain ⟨b2, off2, rfl, hbB2, hcell2⟩ := H2.out.elem ePiece_len (by omega) k hlt2
      obtain ⟨z2, hz2⟩ : ∃ z, r2[k] = z := ⟨_, rfl⟩
      rw [hz2] at hcell2
      obtain ⟨y0, y1⟩ := z2
      have c20 : wr.cell? ⟨b2, off2 + k * 2, none⟩ = some (.int .i64 y0) := (hb.cell (p := ⟨b2, _, none⟩) hbB2).trans (hcell2 0 (by omega))
      have c21 : wr.cell? ⟨b2, off2 + k * 2 + 1, none⟩ = some (.string y1) := (hb.cell (p := ⟨b2, _, none⟩) hbB2).trans (hcell2 1 (by omega))
      have HZ2 := Lib.hid hz2
      clear hcell2 hz2
      have hk0 : (0 : Int) ≤ (k : Int) := by omega
      have hnk : (k : Int) < (r1.length : Int) := by omega
      have hbd : Below w.heap.size w wr.drew := hb.drew
      have hR1' : Hid (wr.drew.heap[w.heap.size]? = _) := hR1
      have hR2' : Hid (wr.drew.heap[w.heap.size + 1]? = _) := hR2
      go_wp2_with fail
      refine wp_region_still_tail 10 (by kernel_rfl) (by kernel_rfl) ?_
      simp only [List.take_succ_cons, List.take_zero, List.drop_succ_cons, List.drop_zero]
      repeat (first | still_step)
      refine wpStill_nil ?_
      change wpList _ _ _ _ _ wr.drew
      generalize wr.drew = wd at *
      go_wp2_with fail
      case roundEnd => (have e0 : x0 = y0 := (by assumption); have e1 : x1 = y1 := bytes_eq (by assumption); subst e0 e1; exact ⟨⟨k + 1, by omega, by go_num, take_more htk.out hlt1 hlt2 HZ1.out HZ2.out, hR1', hR2', (by repeat (first | with_reducible exact Below.refl _ _ | with_reducible assumption | with_reducible refine Below.drew ?_ | with_reducible refine Below.alloc ?_ (by first | exact Nat.le_refl _ | omega | (simp; done) | (simp; omega)) _ | with_reducible refine Below.setCell ?_ (by first | exact Nat.le_refl _ | omega | (simp; done) | (simp; omega)) _ | (with_reducible refine ext_trans ?_ (by with_reducible assumption))))⟩, by simp [intOf]; omega⟩)
      all_goals (go_ret; exact ⟨by rw [list_ne hlt1 hlt2 HZ1.out HZ2.out (fun h => by cases h; exact absurd rfl (by assumption))]; rfl, (by repeat (first | with_reducible exact Below.refl _ _ | with_reducible assumption | with_reducible refine Below.drew ?_ | with_reducible refine Below.alloc ?_ (by first | exact Nat.le_refl _ | omega | (simp; done) | (simp; omega)) _ | with_reducible refine Below.setCell ?_ (by first | exact Nat.le_refl _ | omega | (simp; done) | (simp; omega)) _ | (with_reducible refine ext_trans ?_ (by with_reducible assumption))))⟩)
    · obtain rfl : k = r1.length := by omega
      go_wp2_with fail
      go_ret
      exact ⟨by rw [list_same HL.out htk.out]; rfl, hb⟩
end Go.Proofs.Ytgejnppfodpiiaa
