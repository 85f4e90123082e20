/-
  Contracts of OptionsOk.
-/
import Derived.Test.YteejcabknpdghaaNum
namespace Go.Proofs.Yteejcabknpdghaa
open Go.RowKit

def optB (a b : Int) (d : Bool) (p q : Int) : Bool := (d || (decide (p = 0) && decide (q = 0))) && (wordB a 16 && (inB b (-1) 14 && (wordB p 32 && wordB q 32)))

theorem OptionsOk_any (a b : Int) (c d : Bool) (p q : Int) (w : World) :
    Calls Try.prog 54 #[.agg #[.int .i64 a, .int .i64 b, .bool c, .bool d, .int .i64 p, .int .i64 q]] w fun e w' => e = .returned (.bool (optB a b d p q)) ∧ Below w.heap.size w w' := by
  cases d
  · by_cases hp : p = 0
    · by_cases hq : q = 0
      · subst hp hq
        go_enter Try.func54, Try.ntmps54
        go_wp2_with (first | (go_at_call 57; refine (WordOk_any _ _ _).mono ?_; rintro e w1 ⟨rfl, rfl⟩) | (go_at_call 56; refine (within_any _ _ _ _).mono ?_; rintro e w1 ⟨rfl, rfl⟩))
        all_goals
          go_ret
          exact ⟨by simp [optB, *], (by repeat (first | with_reducible exact Below.refl _ _ | with_reducible assumption | with_reducible refine Below.drew ?_ | with_reducible refine Below.alloc ?_ (by first | exact Nat.le_refl _ | omega | (simp; done) | (simp; omega)) _ | with_reducible refine Below.setCell ?_ (by first | exact Nat.le_refl _ | omega | (simp; done) | (simp; omega)) _ | (with_reducible refine ext_trans ?_ (by with_reducible assumption))))⟩
      · subst hp
        have hq0 : (q != 0) = true := by simpa using hq
        have HR := Lib.hid (show optB a b false 0 q = false by simp [optB, hq])
        clear hq
        go_enter Try.func54, Try.ntmps54
        go_wp2_with (first | (go_at_call 57; refine (WordOk_any _ _ _).mono ?_; rintro e w1 ⟨rfl, rfl⟩) | (go_at_call 56; refine (within_any _ _ _ _).mono ?_; rintro e w1 ⟨rfl, rfl⟩))
        go_ret
        exact ⟨by rw [HR.out]; rfl, (by repeat (first | with_reducible exact Below.refl _ _ | with_reducible assumption | with_reducible refine Below.drew ?_ | with_reducible refine Below.alloc ?_ (by first | exact Nat.le_refl _ | omega | (simp; done) | (simp; omega)) _ | with_reducible refine Below.setCell ?_ (by first | exact Nat.le_refl _ | omega | (simp; done) | (simp; omega)) _ | (with_reducible refine ext_trans ?_ (by with_reducible assumption))))⟩
    · have hp0 : (p != 0) = true := by simpa using hp
      have HR := Lib.hid (show optB a b false p q = false by simp [optB, hp])
      clear hp
      go_enter Try.func54, Try.ntmps54
      go_wp2_with (first | (go_at_call 57; refine (WordOk_any _ _ _).mono ?_; rintro e w1 ⟨rfl, rfl⟩) | (go_at_call 56; refine (within_any _ _ _ _).mono ?_; rintro e w1 ⟨rfl, rfl⟩))
      go_ret
      exact ⟨by rw [HR.out]; rfl, (by repeat (first | with_reducible exact Below.refl _ _ | with_reducible assumption | with_reducible refine Below.drew ?_ | with_reducible refine Below.alloc ?_ (by first | exact Nat.le_refl _ | omega | (simp; done) | (simp; omega)) _ | with_reducible refine Below.setCell ?_ (by first | exact Nat.le_refl _ | omega | (simp; done) | (simp; omega)) _ | (with_reducible refine ext_trans ?_ (by with_reducible assumption))))⟩
  · go_enter Try.func54, Try.ntmps54
    go_wp2_with (first | (go_at_call 57; refine (WordOk_any _ _ _).mono ?_; rintro e w1 ⟨rfl, rfl⟩) | (go_at_call 56; refine (within_any _ _ _ _).mono ?_; rintro e w1 ⟨rfl, rfl⟩))
    all_goals
      go_ret
      exact ⟨by simp [optB, *], (by repeat (first | with_reducible exact Below.refl _ _ | with_reducible assumption | with_reducible refine Below.drew ?_ | with_reducible refine Below.alloc ?_ (by first | exact Nat.le_refl _ | omega | (simp; done) | (simp; omega)) _ | with_reducible refine Below.setCell ?_ (by first | exact Nat.le_refl _ | omega | (simp; done) | (simp; omega)) _ | (with_reducible refine ext_trans ?_ (by with_reducible assumption))))⟩

theorem sOptionsOk_any (a b : Int) (c d : Bool) (p q : Int) (w : World) :
    Calls Try.prog 53 #[.agg #[.int .i64 a, .int .i64 b, .bool c, .bool d, .int .i64 p, .int .i64 q]] w fun e w' => e = .returned (.bool (optB a b d p q)) ∧ Below w.heap.size w w' := by
  cases d
  · by_cases hp : p = 0
    · by_cases hq : q = 0
      · subst hp hq
        go_enter Try.func53, Try.ntmps53
        go_wp2_with (first | (go_at_call 41; refine (sWordOk_any _ _ _).mono ?_; rintro e w1 ⟨rfl, rfl⟩) | (go_at_call 55; refine (l1In_any _ _ _ _).mono ?_; rintro e w1 ⟨rfl, rfl⟩))
        all_goals
          go_ret
          exact ⟨by simp [optB, *], (by repeat (first | with_reducible exact Below.refl _ _ | with_reducible assumption | with_reducible refine Below.drew ?_ | with_reducible refine Below.alloc ?_ (by first | exact Nat.le_refl _ | omega | (simp; done) | (simp; omega)) _ | with_reducible refine Below.setCell ?_ (by first | exact Nat.le_refl _ | omega | (simp; done) | (simp; omega)) _ | (with_reducible refine ext_trans ?_ (by with_reducible assumption))))⟩
      · subst hp
        have hq0 : (q != 0) = true := by simpa using hq
        have HR := Lib.hid (show optB a b false 0 q = false by simp [optB, hq])
        clear hq
        go_enter Try.func53, Try.ntmps53
        go_wp2_with (first | (go_at_call 41; refine (sWordOk_any _ _ _).mono ?_; rintro e w1 ⟨rfl, rfl⟩) | (go_at_call 55; refine (l1In_any _ _ _ _).mono ?_; rintro e w1 ⟨rfl, rfl⟩))
        go_ret
        exact ⟨by rw [HR.out]; rfl, (by repeat (first | with_reducible exact Below.refl _ _ | with_reducible assumption | with_reducible refine Below.drew ?_ | with_reducible refine Below.alloc ?_ (by first | exact Nat.le_refl _ | omega | (simp; done) | (simp; omega)) _ | with_reducible refine Below.setCell ?_ (by first | exact Nat.le_refl _ | omega | (simp; done) | (simp; omega)) _ | (with_reducible refine ext_trans ?_ (by with_reducible assumption))))⟩
    · have hp0 : (p != 0) = true := by simpa using hp
      have HR := Lib.hid (show optB a b false p q = false by simp [optB, hp])
      clear hp
      go_enter Try.func53, Try.ntmps53
      go_wp2_with (first | (go_at_call 41; refine (sWordOk_any _ _ _).mono ?_; rintro e w1 ⟨rfl, rfl⟩) | (go_at_call 55; refine (l1In_any _ _ _ _).mono ?_; rintro e w1 ⟨rfl, rfl⟩))
      go_ret
      exact ⟨by rw [HR.out]; rfl, (by repeat (first | with_reducible exact Below.refl _ _ | with_reducible assumption | with_reducible refine Below.drew ?_ | with_reducible refine Below.alloc ?_ (by first | exact Nat.le_refl _ | omega | (simp; done) | (simp; omega)) _ | with_reducible refine Below.setCell ?_ (by first | exact Nat.le_refl _ | omega | (simp; done) | (simp; omega)) _ | (with_reducible refine ext_trans ?_ (by with_reducible assumption))))⟩
  · go_enter Try.func53, Try.ntmps53
    go_wp2_with (first | (go_at_call 41; refine (sWordOk_any _ _ _).mono ?_; rintro e w1 ⟨rfl, rfl⟩) | (go_at_call 55; refine (l1In_any _ _ _ _).mono ?_; rintro e w1 ⟨rfl, rfl⟩))
    all_goals
      go_ret
      exact ⟨by simp [optB, *], (by repeat (first | with_reducible exact Below.refl _ _ | with_reducible assumption | with_reducible refine Below.drew ?_ | with_reducible refine Below.alloc ?_ (by first | exact Nat.le_refl _ | omega | (simp; done) | (simp; omega)) _ | with_reducible refine Below.setCell ?_ (by first | exact Nat.le_refl _ | omega | (simp; done) | (simp; omega)) _ | (with_reducible refine ext_trans ?_ (by with_reducible assumption))))⟩

end Go.Proofs.Yteejcabknpdghaa
