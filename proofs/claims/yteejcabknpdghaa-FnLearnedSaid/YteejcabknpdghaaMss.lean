/-
  Contracts of the segment sizes' functions.
-/
import Derived.Test.YteejcabknpdghaaNum
namespace Go.Proofs.Yteejcabknpdghaa
open Go.RowKit

def mssOf (i : Int) : Int :=
  if i = 0 then 64 else if i = 1 then 256 else if i = 2 then 536 else if i = 3 then 1024 else if i = 4 then 1300 else if i = 5 then 1400 else if i = 6 then 1440 else if i = 7 then 1460 else 0

theorem sMssOf_any (i : Int) (w : World) :
    Calls Try.prog 18 #[.int .i64 i] w fun e w' => e = .returned (.int .i64 (mssOf i)) ∧ Below w.heap.size w w' := by
  by_cases h : 0 ≤ i ∧ i ≤ 7
  · have hb : inB i 0 7 = true := inB_iff.2 h
    obtain ⟨h1, h2⟩ := h
    have h3 : i = 0 ∨ i = 1 ∨ i = 2 ∨ i = 3 ∨ i = 4 ∨ i = 5 ∨ i = 6 ∨ i = 7 := by omega
    rcases h3 with rfl | rfl | rfl | rfl | rfl | rfl | rfl | rfl
    all_goals
      go_enter Try.func18, Try.ntmps18
      go_wp2_with (go_at_call 55; refine (l1In_any _ _ _ _).mono ?_; rintro e w' ⟨rfl, rfl⟩)
      go_ret
      exact ⟨rfl, (Below.refl _ _).alloc (Nat.le_refl _) _⟩
  · have hb : inB i 0 7 = false := inB_not.2 (by omega)
    have hz : mssOf i = 0 := by unfold mssOf; repeat (rw [if_neg (by omega)])
    have HZ := Lib.hid hz
    clear hz
    go_enter Try.func18, Try.ntmps18
    go_wp2_with (go_at_call 55; refine (l1In_any _ _ _ _).mono ?_; rintro e w' ⟨rfl, rfl⟩)
    go_ret
    exact ⟨by rw [HZ.out]; rfl, Below.refl _ _⟩

theorem MssOf_any (i : Int) (w : World) :
    Calls Try.prog 19 #[.int .i64 i] w fun e w' => e = .returned (.int .i64 (mssOf i)) ∧ Below w.heap.size w w' := by
  by_cases h : 0 ≤ i ∧ i ≤ 7
  · have hb : inB i 0 7 = true := inB_iff.2 h
    obtain ⟨h1, h2⟩ := h
    have h3 : i = 0 ∨ i = 1 ∨ i = 2 ∨ i = 3 ∨ i = 4 ∨ i = 5 ∨ i = 6 ∨ i = 7 := by omega
    rcases h3 with rfl | rfl | rfl | rfl | rfl | rfl | rfl | rfl
    all_goals
      go_enter Try.func19, Try.ntmps19
      go_wp2_with (go_at_call 56; refine (within_any _ _ _ _).mono ?_; rintro e w' ⟨rfl, rfl⟩)
      go_ret
      exact ⟨rfl, (Below.refl _ _).alloc (Nat.le_refl _) _⟩
  · have hb : inB i 0 7 = false := inB_not.2 (by omega)
    have hz : mssOf i = 0 := by unfold mssOf; repeat (rw [if_neg (by omega)])
    have HZ := Lib.hid hz
    clear hz
    go_enter Try.func19, Try.ntmps19
    go_wp2_with (go_at_call 56; refine (within_any _ _ _ _).mono ?_; rintro e w' ⟨rfl, rfl⟩)
    go_ret
    exact ⟨by rw [HZ.out]; rfl, (Below.refl _ _).alloc (Nat.le_refl _) _⟩

end Go.Proofs.Yteejcabknpdghaa
