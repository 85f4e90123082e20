/-
  Contracts of the functions on options.
-/
import Derived.Test.YteejcabknpdghaaTup
import Derived.Test.YteejcabknpdghaaStamp
import Derived.Test.YteejcabknpdghaaMss
import Derived.Deep.QuietTactic
import Derived.BigQuiet
namespace Go.Proofs.Yteejcabknpdghaa
open Go.RowKit

theorem NoOptions_any (w : World) :
    Calls Try.prog 65 #[] w fun e w' => e = .returned (.agg #[.int .i64 0, .int .i64 (-1), .bool false, .bool false, .int .i64 0, .int .i64 0]) ∧ Below w.heap.size w w' := by
  go_enter Try.func65, Try.ntmps65
  go_wp2
  exact bodyPost_ret (v := .agg #[.int .i64 0, .int .i64 (-1), .bool false, .bool false, .int .i64 0, .int .i64 0]) (by simp [results, Try.results65, go_sem]) rfl ⟨rfl, (by repeat (first | with_reducible exact Below.refl _ _ | with_reducible assumption | with_reducible refine Below.drew ?_ | with_reducible refine Below.alloc ?_ (by first | exact Nat.le_refl _ | omega | (simp; done) | (simp; omega)) _ | with_reducible refine Below.setCell ?_ (by first | exact Nat.le_refl _ | omega | (simp; done) | (simp; omega)) _ | (with_reducible refine ext_trans ?_ (by with_reducible assumption))))⟩
theorem sNoOptions_any (w : World) :
    Calls Try.prog 64 #[] w fun e w' => e = .returned (.agg #[.int .i64 0, .int .i64 (-1), .bool false, .bool false, .int .i64 0, .int .i64 0]) ∧ Below w.heap.size w w' := by
  go_enter Try.func64, Try.ntmps64
  go_wp2
  exact bodyPost_ret (v := .agg #[.int .i64 0, .int .i64 (-1), .bool false, .bool false, .int .i64 0, .int .i64 0]) (by simp [results, Try.results64, go_sem]) rfl ⟨rfl, (by repeat (first | with_reducible exact Below.refl _ _ | with_reducible assumption | with_reducible refine Below.drew ?_ | with_reducible refine Below.alloc ?_ (by first | exact Nat.le_refl _ | omega | (simp; done) | (simp; omega)) _ | with_reducible refine Below.setCell ?_ (by first | exact Nat.le_refl _ | omega | (simp; done) | (simp; omega)) _ | (with_reducible refine ext_trans ?_ (by with_reducible assumption))))⟩
/-- The options of the answer: (Mss, Scale, Sack, Stamp, Val, Echo). -/
def ansScale (b : Int) (d : Bool) : Int := if d && inB b 0 14 then 0 else -1
def ansSack (c d : Bool) : Bool := d && c
def ansVal (b : Int) (c d : Bool) (k : Int) : Int := if d then stampOf k b c else 0
def ansEcho (d : Bool) (p : Int) : Int := if d then p else 0
def ansV (b : Int) (c d : Bool) (p k : Int) : Value := .agg #[.int .i64 1460, .int .i64 (ansScale b d), .bool (ansSack c d), .bool d, .int .i64 (ansVal b c d k), .int .i64 (ansEcho d p)]

theorem AnswerOptions_any (a b : Int) (c d : Bool) (p q : Int) (k : Int) (w : World) :
    Calls Try.prog 44 #[.agg #[.int .i64 a, .int .i64 b, .bool c, .bool d, .int .i64 p, .int .i64 q], .int .i64 k] w fun e w' => e = .returned (ansV b c d p k) ∧ Below w.heap.size w w' := by
  cases d
  · have e1 : ansV b c false p k = .agg #[.int .i64 1460, .int .i64 (-1), .bool false, .bool false, .int .i64 0, .int .i64 0] := rfl
    rw [e1]
    clear e1
    go_enter Try.func44, Try.ntmps44
    go_wp2
    exact bodyPost_ret (v := .agg #[.int .i64 1460, .int .i64 (-1), .bool false, .bool false, .int .i64 0, .int .i64 0]) (by simp [results, Try.results44, go_sem]) rfl ⟨rfl, (by repeat (first | with_reducible exact Below.refl _ _ | with_reducible assumption | with_reducible refine Below.drew ?_ | with_reducible refine Below.alloc ?_ (by first | exact Nat.le_refl _ | omega | (simp; done) | (simp; omega)) _ | with_reducible refine Below.setCell ?_ (by first | exact Nat.le_refl _ | omega | (simp; done) | (simp; omega)) _ | (with_reducible refine ext_trans ?_ (by with_reducible assumption))))⟩
  · by_cases h : inB b 0 14 = true
    · have e1 : ansV b c true p k = .agg #[.int .i64 1460, .int .i64 0, .bool c, .bool true, .int .i64 (stampOf k b c), .int .i64 p] := by simp [ansV, ansScale, ansSack, ansVal, ansEcho, h]
      rw [e1]
      clear e1
      go_enter Try.func44, Try.ntmps44
      go_wp2_with (first | (go_at_call 56; refine (within_any _ _ _ _).mono ?_; rintro e w1 ⟨rfl, rfl⟩) | (go_at_call 28; refine (StampOf_any _ _ _ _).mono ?_; rintro e w1 ⟨rfl, rfl⟩))
      exact bodyPost_ret (v := .agg #[.int .i64 1460, .int .i64 0, .bool c, .bool true, .int .i64 (stampOf k b c), .int .i64 p]) (by simp [results, Try.results44, go_sem]) rfl ⟨rfl, (by repeat (first | with_reducible exact Below.refl _ _ | with_reducible assumption | with_reducible refine Below.drew ?_ | with_reducible refine Below.alloc ?_ (by first | exact Nat.le_refl _ | omega | (simp; done) | (simp; omega)) _ | with_reducible refine Below.setCell ?_ (by first | exact Nat.le_refl _ | omega | (simp; done) | (simp; omega)) _ | (with_reducible refine ext_trans ?_ (by with_reducible assumption))))⟩
    · have h : inB b 0 14 = false := by simpa using h
      have e1 : ansV b c true p k = .agg #[.int .i64 1460, .int .i64 (-1), .bool c, .bool true, .int .i64 (stampOf k b c), .int .i64 p] := by simp [ansV, ansScale, ansSack, ansVal, ansEcho, h]
      rw [e1]
      clear e1
      go_enter Try.func44, Try.ntmps44
      go_wp2_with (first | (go_at_call 56; refine (within_any _ _ _ _).mono ?_; rintro e w1 ⟨rfl, rfl⟩) | (go_at_call 28; refine (StampOf_any _ _ _ _).mono ?_; rintro e w1 ⟨rfl, rfl⟩))
      exact bodyPost_ret (v := .agg #[.int .i64 1460, .int .i64 (-1), .bool c, .bool true, .int .i64 (stampOf k b c), .int .i64 p]) (by simp [results, Try.results44, go_sem]) rfl ⟨rfl, (by repeat (first | with_reducible exact Below.refl _ _ | with_reducible assumption | with_reducible refine Below.drew ?_ | with_reducible refine Below.alloc ?_ (by first | exact Nat.le_refl _ | omega | (simp; done) | (simp; omega)) _ | with_reducible refine Below.setCell ?_ (by first | exact Nat.le_refl _ | omega | (simp; done) | (simp; omega)) _ | (with_reducible refine ext_trans ?_ (by with_reducible assumption))))⟩

theorem sAnswerOptions_any (a b : Int) (c d : Bool) (p q : Int) (k : Int) (h1 : -9223372036854775808 ≤ k) (h2 : k ≤ 9223372036854775807) (w : World) :
    Calls Try.prog 42 #[.agg #[.int .i64 a, .int .i64 b, .bool c, .bool d, .int .i64 p, .int .i64 q], .int .i64 k] w fun e w' => e = .returned (ansV b c d p k) ∧ Below w.heap.size w w' := by
  cases d
  · have e1 : ansV b c false p k = .agg #[.int .i64 1460, .int .i64 (-1), .bool false, .bool false, .int .i64 0, .int .i64 0] := rfl
    rw [e1]
    clear e1
    go_enter Try.func42, Try.ntmps42
    go_wp2
    exact bodyPost_ret (v := .agg #[.int .i64 1460, .int .i64 (-1), .bool false, .bool false, .int .i64 0, .int .i64 0]) (by simp [results, Try.results42, go_sem]) rfl ⟨rfl, (by repeat (first | with_reducible exact Below.refl _ _ | with_reducible assumption | with_reducible refine Below.drew ?_ | with_reducible refine Below.alloc ?_ (by first | exact Nat.le_refl _ | omega | (simp; done) | (simp; omega)) _ | with_reducible refine Below.setCell ?_ (by first | exact Nat.le_refl _ | omega | (simp; done) | (simp; omega)) _ | (with_reducible refine ext_trans ?_ (by with_reducible assumption))))⟩
  · by_cases h : inB b 0 14 = true
    · have e1 : ansV b c true p k = .agg #[.int .i64 1460, .int .i64 0, .bool c, .bool true, .int .i64 (stampOf k b c), .int .i64 p] := by simp [ansV, ansScale, ansSack, ansVal, ansEcho, h]
      rw [e1]
      clear e1
      go_enter Try.func42, Try.ntmps42
      go_wp2_with (first | (go_at_call 55; refine (l1In_any _ _ _ _).mono ?_; rintro e w1 ⟨rfl, rfl⟩) | (go_at_call 27; refine (sStampOf_any _ _ _ h1 h2 _).mono ?_; rintro e w1 ⟨rfl, rfl⟩))
      exact bodyPost_ret (v := .agg #[.int .i64 1460, .int .i64 0, .bool c, .bool true, .int .i64 (stampOf k b c), .int .i64 p]) (by simp [results, Try.results42, go_sem]) rfl ⟨rfl, (by repeat (first | with_reducible exact Below.refl _ _ | with_reducible assumption | with_reducible refine Below.drew ?_ | with_reducible refine Below.alloc ?_ (by first | exact Nat.le_refl _ | omega | (simp; done) | (simp; omega)) _ | with_reducible refine Below.setCell ?_ (by first | exact Nat.le_refl _ | omega | (simp; done) | (simp; omega)) _ | (with_reducible refine ext_trans ?_ (by with_reducible assumption))))⟩
    · have h : inB b 0 14 = false := by simpa using h
      have e1 : ansV b c true p k = .agg #[.int .i64 1460, .int .i64 (-1), .bool c, .bool true, .int .i64 (stampOf k b c), .int .i64 p] := by simp [ansV, ansScale, ansSack, ansVal, ansEcho, h]
      rw [e1]
      clear e1
      go_enter Try.func42, Try.ntmps42
      go_wp2_with (first | (go_at_call 55; refine (l1In_any _ _ _ _).mono ?_; rintro e w1 ⟨rfl, rfl⟩) | (go_at_call 27; refine (sStampOf_any _ _ _ h1 h2 _).mono ?_; rintro e w1 ⟨rfl, rfl⟩))
      exact bodyPost_ret (v := .agg #[.int .i64 1460, .int .i64 (-1), .bool c, .bool true, .int .i64 (stampOf k b c), .int .i64 p]) (by simp [results, Try.results42, go_sem]) rfl ⟨rfl, (by repeat (first | with_reducible exact Below.refl _ _ | with_reducible assumption | with_reducible refine Below.drew ?_ | with_reducible refine Below.alloc ?_ (by first | exact Nat.le_refl _ | omega | (simp; done) | (simp; omega)) _ | with_reducible refine Below.setCell ?_ (by first | exact Nat.le_refl _ | omega | (simp; done) | (simp; omega)) _ | (with_reducible refine ext_trans ?_ (by with_reducible assumption))))⟩
def lrnOk (d : Bool) (q : Int) : Bool := d && stOk q
def lrnV (i : Int) (d : Bool) (p q : Int) : Value :=
  if lrnOk d q then .agg #[.int .i64 (mssOf i), .int .i64 (stScale q), .bool (stSack q), .bool true, .int .i64 p, .int .i64 0] else .agg #[.int .i64 (mssOf i), .int .i64 (-1), .bool false, .bool false, .int .i64 0, .int .i64 0]

set_option maxHeartbeats 1000000 in
theorem LearnedOptions_any (i : Int) (a b : Int) (c d : Bool) (p q : Int) (w : World) :
    Calls Try.prog 47 #[.int .i64 i, .agg #[.int .i64 a, .int .i64 b, .bool c, .bool d, .int .i64 p, .int .i64 q]] w fun e w' => e = .returned (lrnV i d p q) ∧ Below w.heap.size w w' := by
  by_cases h : stOk q = true
  · cases d
    · have e1 : lrnV i false p q = .agg #[.int .i64 (mssOf i), .int .i64 (-1), .bool false, .bool false, .int .i64 0, .int .i64 0] := rfl
      rw [e1]
      clear e1
      go_enter Try.func47, Try.ntmps47
      go_wp2_with fail
      refine (NoOptions_any _).mono ?_
      rintro e w1 ⟨rfl, hb1⟩
      obtain ⟨hc1, hf1⟩ := bcell hb1
      have hz1 := hb1.size
      (try simp at hz1)
      have hy1_0 : w.heap.size < w1.heap.size := by omega
      have hy1_1 : w.heap.size + 1 < w1.heap.size := by omega
      go_wp2_with fail
      refine (MssOf_any _ _).mono ?_
      rintro e w2 ⟨rfl, hb2⟩
      obtain ⟨hc2, hf2⟩ := bcell hb2
      have hz2 := hb2.size
      (try simp at hz2)
      have hy2_0 : w.heap.size < w2.heap.size := by omega
      have hy2_1 : w.heap.size + 1 < w2.heap.size := by omega
      have hy2_2 : w1.heap.size < w2.heap.size := by omega
      go_wp2_with fail
      refine (StampIn_any _ _).mono ?_
      rintro e w' ⟨rfl, rfl⟩
      go_wp2_with fail
      have hr : w2.heap[w.heap.size + 1]? = some (.cells #[.int .i64 0, .int .i64 0, .bool false, .bool false, .int .i64 0, .int .i64 0] 42 (0, 0)) := (hb2.block _ (by simp; omega)).trans ((Below.heap_alloc _ _ _ (by omega)).trans ((hb1.block _ (by simp)).trans (heap_alloc2_new _ _ _)))
      apply bodyPost_ret (results_cell_row (P := Try.prog) (fn := Try.f47) rfl _ _ _ 42 _ (0, 0) _ rfl _ Try.underlying42 rfl _) rfl
      rotate_left 2
      · repeat (first | (with_reducible apply heap_setCell_same) | (with_reducible exact hr) | (with_reducible refine (heap_setCell_other _ _ _ _ (by first | omega | (simp; omega))).trans ?_) | (with_reducible refine (Below.heap_alloc _ _ _ (by first | omega | (simp; omega))).trans ?_))
      · kernel_rfl
      exact ⟨rfl, (by repeat (first | with_reducible exact Below.refl _ _ | with_reducible assumption | with_reducible refine Below.drew ?_ | with_reducible refine Below.alloc ?_ (by first | exact Nat.le_refl _ | omega | (simp; done) | (simp; omega)) _ | with_reducible refine Below.setCell ?_ (by first | exact Nat.le_refl _ | omega | (simp; done) | (simp; omega)) _ | (with_reducible refine ext_trans ?_ (by with_reducible assumption))))⟩
    · have e1 : lrnV i true p q = .agg #[.int .i64 (mssOf i), .int .i64 (stScale q), .bool (stSack q), .bool true, .int .i64 p, .int .i64 0] := by simp [lrnV, lrnOk, h]
      rw [e1]
      clear e1
      go_enter Try.func47, Try.ntmps47
      go_wp2_with fail
      refine (NoOptions_any _).mono ?_
      rintro e w1 ⟨rfl, hb1⟩
      obtain ⟨hc1, hf1⟩ := bcell hb1
      have hz1 := hb1.size
      (try simp at hz1)
      have hy1_0 : w.heap.size < w1.heap.size := by omega
      have hy1_1 : w.heap.size + 1 < w1.heap.size := by omega
      go_wp2_with fail
      refine (MssOf_any _ _).mono ?_
      rintro e w2 ⟨rfl, hb2⟩
      obtain ⟨hc2, hf2⟩ := bcell hb2
      have hz2 := hb2.size
      (try simp at hz2)
      have hy2_0 : w.heap.size < w2.heap.size := by omega
      have hy2_1 : w.heap.size + 1 < w2.heap.size := by omega
      have hy2_2 : w1.heap.size < w2.heap.size := by omega
      go_wp2_with fail
      refine (StampIn_any _ _).mono ?_
      rintro e w' ⟨rfl, rfl⟩
      go_wp2_with fail
      have hr : w2.heap[w.heap.size + 1]? = some (.cells #[.int .i64 0, .int .i64 0, .bool false, .bool false, .int .i64 0, .int .i64 0] 42 (0, 0)) := (hb2.block _ (by simp; omega)).trans ((Below.heap_alloc _ _ _ (by omega)).trans ((hb1.block _ (by simp)).trans (heap_alloc2_new _ _ _)))
      apply bodyPost_ret (results_cell_row (P := Try.prog) (fn := Try.f47) rfl _ _ _ 42 _ (0, 0) _ rfl _ Try.underlying42 rfl _) rfl
      rotate_left 2
      · repeat (first | (with_reducible apply heap_setCell_same) | (with_reducible exact hr) | (with_reducible refine (heap_setCell_other _ _ _ _ (by first | omega | (simp; omega))).trans ?_) | (with_reducible refine (Below.heap_alloc _ _ _ (by first | omega | (simp; omega))).trans ?_))
      · kernel_rfl
      exact ⟨rfl, (by repeat (first | with_reducible exact Below.refl _ _ | with_reducible assumption | with_reducible refine Below.drew ?_ | with_reducible refine Below.alloc ?_ (by first | exact Nat.le_refl _ | omega | (simp; done) | (simp; omega)) _ | with_reducible refine Below.setCell ?_ (by first | exact Nat.le_refl _ | omega | (simp; done) | (simp; omega)) _ | (with_reducible refine ext_trans ?_ (by with_reducible assumption))))⟩
  · have h : stOk q = false := by simpa using h
    have e1 : lrnV i d p q = .agg #[.int .i64 (mssOf i), .int .i64 (-1), .bool false, .bool false, .int .i64 0, .int .i64 0] := by simp [lrnV, lrnOk, h]
    rw [e1]
    clear e1
    cases d
    all_goals
      go_enter Try.func47, Try.ntmps47
      go_wp2_with fail
      refine (NoOptions_any _).mono ?_
      rintro e w1 ⟨rfl, hb1⟩
      obtain ⟨hc1, hf1⟩ := bcell hb1
      have hz1 := hb1.size
      (try simp at hz1)
      have hy1_0 : w.heap.size < w1.heap.size := by omega
      have hy1_1 : w.heap.size + 1 < w1.heap.size := by omega
      go_wp2_with fail
      refine (MssOf_any _ _).mono ?_
      rintro e w2 ⟨rfl, hb2⟩
      obtain ⟨hc2, hf2⟩ := bcell hb2
      have hz2 := hb2.size
      (try simp at hz2)
      have hy2_0 : w.heap.size < w2.heap.size := by omega
      have hy2_1 : w.heap.size + 1 < w2.heap.size := by omega
      have hy2_2 : w1.heap.size < w2.heap.size := by omega
      go_wp2_with fail
      refine (StampIn_any _ _).mono ?_
      rintro e w' ⟨rfl, rfl⟩
      go_wp2_with fail
      have hr : w2.heap[w.heap.size + 1]? = some (.cells #[.int .i64 0, .int .i64 0, .bool false, .bool false, .int .i64 0, .int .i64 0] 42 (0, 0)) := (hb2.block _ (by simp; omega)).trans ((Below.heap_alloc _ _ _ (by omega)).trans ((hb1.block _ (by simp)).trans (heap_alloc2_new _ _ _)))
      apply bodyPost_ret (results_cell_row (P := Try.prog) (fn := Try.f47) rfl _ _ _ 42 _ (0, 0) _ rfl _ Try.underlying42 rfl _) rfl
      rotate_left 2
      · repeat (first | (with_reducible apply heap_setCell_same) | (with_reducible exact hr) | (with_reducible refine (heap_setCell_other _ _ _ _ (by first | omega | (simp; omega))).trans ?_) | (with_reducible refine (Below.heap_alloc _ _ _ (by first | omega | (simp; omega))).trans ?_))
      · kernel_rfl
      exact ⟨rfl, (by repeat (first | with_reducible exact Below.refl _ _ | with_reducible assumption | with_reducible refine Below.drew ?_ | with_reducible refine Below.alloc ?_ (by first | exact Nat.le_refl _ | omega | (simp; done) | (simp; omega)) _ | with_reducible refine Below.setCell ?_ (by first | exact Nat.le_refl _ | omega | (simp; done) | (simp; omega)) _ | (with_reducible refine ext_trans ?_ (by with_reducible assumption))))⟩

set_option maxHeartbeats 1000000 in
theorem sLearnedOptions_any (i : Int) (a b : Int) (c d : Bool) (p q : Int) (w : World) :
    Calls Try.prog 46 #[.int .i64 i, .agg #[.int .i64 a, .int .i64 b, .bool c, .bool d, .int .i64 p, .int .i64 q]] w fun e w' => e = .returned (lrnV i d p q) ∧ Below w.heap.size w w' := by
  by_cases h : stOk q = true
  · cases d
    · have e1 : lrnV i false p q = .agg #[.int .i64 (mssOf i), .int .i64 (-1), .bool false, .bool false, .int .i64 0, .int .i64 0] := rfl
      rw [e1]
      clear e1
      go_enter Try.func46, Try.ntmps46
      go_wp2_with fail
      refine (sNoOptions_any _).mono ?_
      rintro e w1 ⟨rfl, hb1⟩
      obtain ⟨hc1, hf1⟩ := bcell hb1
      have hz1 := hb1.size
      (try simp at hz1)
      have hy1_0 : w.heap.size < w1.heap.size := by omega
      have hy1_1 : w.heap.size + 1 < w1.heap.size := by omega
      go_wp2_with fail
      refine (sMssOf_any _ _).mono ?_
      rintro e w2 ⟨rfl, hb2⟩
      obtain ⟨hc2, hf2⟩ := bcell hb2
      have hz2 := hb2.size
      (try simp at hz2)
      have hy2_0 : w.heap.size < w2.heap.size := by omega
      have hy2_1 : w.heap.size + 1 < w2.heap.size := by omega
      have hy2_2 : w1.heap.size < w2.heap.size := by omega
      go_wp2_with fail
      refine (sStampIn_any _ _).mono ?_
      rintro e w' ⟨rfl, rfl⟩
      go_wp2_with fail
      have hr : w2.heap[w.heap.size + 1]? = some (.cells #[.int .i64 0, .int .i64 0, .bool false, .bool false, .int .i64 0, .int .i64 0] 42 (0, 0)) := (hb2.block _ (by simp; omega)).trans ((Below.heap_alloc _ _ _ (by omega)).trans ((hb1.block _ (by simp)).trans (heap_alloc2_new _ _ _)))
      apply bodyPost_ret (results_cell_row (P := Try.prog) (fn := Try.f46) rfl _ _ _ 42 _ (0, 0) _ rfl _ Try.underlying42 rfl _) rfl
      rotate_left 2
      · repeat (first | (with_reducible apply heap_setCell_same) | (with_reducible exact hr) | (with_reducible refine (heap_setCell_other _ _ _ _ (by first | omega | (simp; omega))).trans ?_) | (with_reducible refine (Below.heap_alloc _ _ _ (by first | omega | (simp; omega))).trans ?_))
      · kernel_rfl
      exact ⟨rfl, (by repeat (first | with_reducible exact Below.refl _ _ | with_reducible assumption | with_reducible refine Below.drew ?_ | with_reducible refine Below.alloc ?_ (by first | exact Nat.le_refl _ | omega | (simp; done) | (simp; omega)) _ | with_reducible refine Below.setCell ?_ (by first | exact Nat.le_refl _ | omega | (simp; done) | (simp; omega)) _ | (with_reducible refine ext_trans ?_ (by with_reducible assumption))))⟩
    · have e1 : lrnV i true p q = .agg #[.int .i64 (mssOf i), .int .i64 (stScale q), .bool (stSack q), .bool true, .int .i64 p, .int .i64 0] := by simp [lrnV, lrnOk, h]
      rw [e1]
      clear e1
      go_enter Try.func46, Try.ntmps46
      go_wp2_with fail
      refine (sNoOptions_any _).mono ?_
      rintro e w1 ⟨rfl, hb1⟩
      obtain ⟨hc1, hf1⟩ := bcell hb1
      have hz1 := hb1.size
      (try simp at hz1)
      have hy1_0 : w.heap.size < w1.heap.size := by omega
      have hy1_1 : w.heap.size + 1 < w1.heap.size := by omega
      go_wp2_with fail
      refine (sMssOf_any _ _).mono ?_
      rintro e w2 ⟨rfl, hb2⟩
      obtain ⟨hc2, hf2⟩ := bcell hb2
      have hz2 := hb2.size
      (try simp at hz2)
      have hy2_0 : w.heap.size < w2.heap.size := by omega
      have hy2_1 : w.heap.size + 1 < w2.heap.size := by omega
      have hy2_2 : w1.heap.size < w2.heap.size := by omega
      go_wp2_with fail
      refine (sStampIn_any _ _).mono ?_
      rintro e w' ⟨rfl, rfl⟩
      go_wp2_with fail
      have hr : w2.heap[w.heap.size + 1]? = some (.cells #[.int .i64 0, .int .i64 0, .bool false, .bool false, .int .i64 0, .int .i64 0] 42 (0, 0)) := (hb2.block _ (by simp; omega)).trans ((Below.heap_alloc _ _ _ (by omega)).trans ((hb1.block _ (by simp)).trans (heap_alloc2_new _ _ _)))
      apply bodyPost_ret (results_cell_row (P := Try.prog) (fn := Try.f46) rfl _ _ _ 42 _ (0, 0) _ rfl _ Try.underlying42 rfl _) rfl
      rotate_left 2
      · repeat (first | (with_reducible apply heap_setCell_same) | (with_reducible exact hr) | (with_reducible refine (heap_setCell_other _ _ _ _ (by first | omega | (simp; omega))).trans ?_) | (with_reducible refine (Below.heap_alloc _ _ _ (by first | omega | (simp; omega))).trans ?_))
      · kernel_rfl
      exact ⟨rfl, (by repeat (first | with_reducible exact Below.refl _ _ | with_reducible assumption | with_reducible refine Below.drew ?_ | with_reducible refine Below.alloc ?_ (by first | exact Nat.le_refl _ | omega | (simp; done) | (simp; omega)) _ | with_reducible refine Below.setCell ?_ (by first | exact Nat.le_refl _ | omega | (simp; done) | (simp; omega)) _ | (with_reducible refine ext_trans ?_ (by with_reducible assumption))))⟩
  · have h : stOk q = false := by simpa using h
    have e1 : lrnV i d p q = .agg #[.int .i64 (mssOf i), .int .i64 (-1), .bool false, .bool false, .int .i64 0, .int .i64 0] := by simp [lrnV, lrnOk, h]
    rw [e1]
    clear e1
    cases d
    all_goals
      go_enter Try.func46, Try.ntmps46
      go_wp2_with fail
      refine (sNoOptions_any _).mono ?_
      rintro e w1 ⟨rfl, hb1⟩
      obtain ⟨hc1, hf1⟩ := bcell hb1
      have hz1 := hb1.size
      (try simp at hz1)
      have hy1_0 : w.heap.size < w1.heap.size := by omega
      have hy1_1 : w.heap.size + 1 < w1.heap.size := by omega
      go_wp2_with fail
      refine (sMssOf_any _ _).mono ?_
      rintro e w2 ⟨rfl, hb2⟩
      obtain ⟨hc2, hf2⟩ := bcell hb2
      have hz2 := hb2.size
      (try simp at hz2)
      have hy2_0 : w.heap.size < w2.heap.size := by omega
      have hy2_1 : w.heap.size + 1 < w2.heap.size := by omega
      have hy2_2 : w1.heap.size < w2.heap.size := by omega
      go_wp2_with fail
      refine (sStampIn_any _ _).mono ?_
      rintro e w' ⟨rfl, rfl⟩
      go_wp2_with fail
      have hr : w2.heap[w.heap.size + 1]? = some (.cells #[.int .i64 0, .int .i64 0, .bool false, .bool false, .int .i64 0, .int .i64 0] 42 (0, 0)) := (hb2.block _ (by simp; omega)).trans ((Below.heap_alloc _ _ _ (by omega)).trans ((hb1.block _ (by simp)).trans (heap_alloc2_new _ _ _)))
      apply bodyPost_ret (results_cell_row (P := Try.prog) (fn := Try.f46) rfl _ _ _ 42 _ (0, 0) _ rfl _ Try.underlying42 rfl _) rfl
      rotate_left 2
      · repeat (first | (with_reducible apply heap_setCell_same) | (with_reducible exact hr) | (with_reducible refine (heap_setCell_other _ _ _ _ (by first | omega | (simp; omega))).trans ?_) | (with_reducible refine (Below.heap_alloc _ _ _ (by first | omega | (simp; omega))).trans ?_))
      · kernel_rfl
      exact ⟨rfl, (by repeat (first | with_reducible exact Below.refl _ _ | with_reducible assumption | with_reducible refine Below.drew ?_ | with_reducible refine Below.alloc ?_ (by first | exact Nat.le_refl _ | omega | (simp; done) | (simp; omega)) _ | with_reducible refine Below.setCell ?_ (by first | exact Nat.le_refl _ | omega | (simp; done) | (simp; omega)) _ | (with_reducible refine ext_trans ?_ (by with_reducible assumption))))⟩
end Go.Proofs.Yteejcabknpdghaa
