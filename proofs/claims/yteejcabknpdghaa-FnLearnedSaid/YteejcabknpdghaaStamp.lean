/-
  Contracts of the functions on cookies' parts and time stamps.
-/
import Derived.Test.YteejcabknpdghaaNum
import Derived.Test.YteejcabknpdghaaBits
namespace Go.Proofs.Yteejcabknpdghaa
open Go.RowKit

theorem CookieParts_no (c : Int) (h : wordB c 32 = false) (w : World) :
    Calls Try.prog 24 #[.int .i64 c] w fun e w' => e = .returned (.tuple #[.int .i64 (-1), .int .i64 (-1), .int .i64 (-1)]) ∧ w = w' := by
  go_enter Try.func24, Try.ntmps24
  go_wp2_with (go_at_call 57; refine (WordOk_any _ _ _).mono ?_; rintro e w1 ⟨rfl, rfl⟩)
  go_ret3
  exact ⟨rfl, rfl⟩

theorem CookieParts_yes (c : Int) (h : wordB c 32 = true) (h1 : 0 ≤ c) (h2 : c ≤ 4294967295) (w : World) :
    Calls Try.prog 24 #[.int .i64 c] w fun e w' => e = .returned (.tuple #[.int .i64 (c / 134217728), .int .i64 (c / 16777216 % 8), .int .i64 (c % 16777216)]) ∧ w = w' := by
  go_enter Try.func24, Try.ntmps24
  go_wp2_with (go_at_call 57; refine (WordOk_any _ _ _).mono ?_; rintro e w1 ⟨rfl, rfl⟩)
  go_ret3
  exact ⟨rfl, rfl⟩

theorem sCookieParts_no (c : Int) (h : wordB c 32 = false) (w : World) :
    Calls Try.prog 23 #[.int .i64 c] w fun e w' => e = .returned (.tuple #[.int .i64 (-1), .int .i64 (-1), .int .i64 (-1)]) ∧ w = w' := by
  go_enter Try.func23, Try.ntmps23
  go_wp2_with (go_at_call 41; refine (sWordOk_any _ _ _).mono ?_; rintro e w1 ⟨rfl, rfl⟩)
  go_ret3
  exact ⟨rfl, rfl⟩

theorem sCookieParts_yes (c : Int) (h : wordB c 32 = true) (h1 : 0 ≤ c) (h2 : c ≤ 4294967295) (w : World) :
    Calls Try.prog 23 #[.int .i64 c] w fun e w' => e = .returned (.tuple #[.int .i64 (c / 134217728), .int .i64 (c / 16777216 % 8), .int .i64 (c % 16777216)]) ∧ w = w' := by
  go_enter Try.func23, Try.ntmps23
  go_wp2_with (go_at_call 41; refine (sWordOk_any _ _ _).mono ?_; rintro e w1 ⟨rfl, rfl⟩)
  go_ret3
  exact ⟨rfl, rfl⟩

def stOk (v : Int) : Bool := wordB v 32 && decide (v / 32 % 2 = 1)
def stScale (v : Int) : Int := if stOk v then (if v % 16 = 15 then -1 else v % 16) else -1
def stSack (v : Int) : Bool := stOk v && decide (v / 16 % 2 = 1)

theorem StampIn_any (v : Int) (w : World) :
    Calls Try.prog 26 #[.int .i64 v] w fun e w' => e = .returned (.tuple #[.int .i64 (stScale v), .bool (stSack v), .bool (stOk v)]) ∧ w = w' := by
  by_cases h : wordB v 32 = true
  · have hr : 0 ≤ v ∧ v ≤ 4294967295 := by unfold wordB at h; simpa [inB] using h
    obtain ⟨h1, h2⟩ := hr
    have e15 := and_15 v
    have e32 := and_b32 v
    have e16 := and_b16 v
    rcases (by omega : v / 32 % 2 = 0 ∨ v / 32 % 2 = 1) with k1 | k1
    · have hk : stOk v = false := by simp [stOk, k1]
      have hs : stScale v = -1 := by simp [stScale, hk]
      have hc : stSack v = false := by simp [stSack, hk]
      rw [k1] at e32
      rw [hk, hs, hc]
      clear k1 hk hs hc e15 e16
      go_enter Try.func26, Try.ntmps26
      go_wp2_with (go_at_call 57; refine (WordOk_any _ _ _).mono ?_; rintro e w1 ⟨rfl, rfl⟩)
      go_ret3
      exact ⟨rfl, rfl⟩
    · have hk : stOk v = true := by simp [stOk, k1, h]
      rw [k1] at e32
      rcases (by omega : v / 16 % 2 = 0 ∨ v / 16 % 2 = 1) with k2 | k2
      all_goals
        rw [k2] at e16
        have hc : stSack v = decide (v / 16 % 2 = 1) := by simp [stSack, hk]
        rw [k2] at hc
        by_cases k3 : v % 16 = 15
        · have hs : stScale v = -1 := by simp [stScale, hk, k3]
          have k4 : (v % 16 == 15) = true := by simp [k3]
          rw [k3] at e15
          rw [hk, hs, hc]
          clear k1 k2 k3 hk hs hc
          go_enter Try.func26, Try.ntmps26
          go_wp2_with (go_at_call 57; refine (WordOk_any _ _ _).mono ?_; rintro e w1 ⟨rfl, rfl⟩)
          go_ret3
          exact ⟨rfl, rfl⟩
        · have hs : stScale v = v % 16 := by simp [stScale, hk, k3]
          have k4 : (v % 16 == 15) = false := by simpa using k3
          rw [hk, hs, hc]
          clear k1 k2 k3 hk hs hc
          go_enter Try.func26, Try.ntmps26
          go_wp2_with (go_at_call 57; refine (WordOk_any _ _ _).mono ?_; rintro e w1 ⟨rfl, rfl⟩)
          go_ret3
          exact ⟨rfl, rfl⟩
  · have h : wordB v 32 = false := by simpa using h
    have hk : stOk v = false := by simp [stOk, h]
    have hs : stScale v = -1 := by simp [stScale, hk]
    have hc : stSack v = false := by simp [stSack, hk]
    rw [hk, hs, hc]
    clear hk hs hc
    go_enter Try.func26, Try.ntmps26
    go_wp2_with (go_at_call 57; refine (WordOk_any _ _ _).mono ?_; rintro e w1 ⟨rfl, rfl⟩)
    go_ret3
    exact ⟨rfl, rfl⟩

theorem sStampIn_any (v : Int) (w : World) :
    Calls Try.prog 25 #[.int .i64 v] w fun e w' => e = .returned (.tuple #[.int .i64 (stScale v), .bool (stSack v), .bool (stOk v)]) ∧ w = w' := by
  by_cases h : wordB v 32 = true
  · have hr : 0 ≤ v ∧ v ≤ 4294967295 := by unfold wordB at h; simpa [inB] using h
    obtain ⟨h1, h2⟩ := hr
    have e15 := and_15 v
    have e32 := and_b32 v
    have e16 := and_b16 v
    rcases (by omega : v / 32 % 2 = 0 ∨ v / 32 % 2 = 1) with k1 | k1
    · have hk : stOk v = false := by simp [stOk, k1]
      have hs : stScale v = -1 := by simp [stScale, hk]
      have hc : stSack v = false := by simp [stSack, hk]
      rw [k1] at e32
      rw [hk, hs, hc]
      clear k1 hk hs hc e15 e16
      go_enter Try.func25, Try.ntmps25
      go_wp2_with (go_at_call 41; refine (sWordOk_any _ _ _).mono ?_; rintro e w1 ⟨rfl, rfl⟩)
      go_ret3
      exact ⟨rfl, rfl⟩
    · have hk : stOk v = true := by simp [stOk, k1, h]
      rw [k1] at e32
      rcases (by omega : v / 16 % 2 = 0 ∨ v / 16 % 2 = 1) with k2 | k2
      all_goals
        rw [k2] at e16
        have hc : stSack v = decide (v / 16 % 2 = 1) := by simp [stSack, hk]
        rw [k2] at hc
        by_cases k3 : v % 16 = 15
        · have hs : stScale v = -1 := by simp [stScale, hk, k3]
          have k4 : (v % 16 == 15) = true := by simp [k3]
          rw [k3] at e15
          rw [hk, hs, hc]
          clear k1 k2 k3 hk hs hc
          go_enter Try.func25, Try.ntmps25
          go_wp2_with (go_at_call 41; refine (sWordOk_any _ _ _).mono ?_; rintro e w1 ⟨rfl, rfl⟩)
          go_ret3
          exact ⟨rfl, rfl⟩
        · have hs : stScale v = v % 16 := by simp [stScale, hk, k3]
          have k4 : (v % 16 == 15) = false := by simpa using k3
          rw [hk, hs, hc]
          clear k1 k2 k3 hk hs hc
          go_enter Try.func25, Try.ntmps25
          go_wp2_with (go_at_call 41; refine (sWordOk_any _ _ _).mono ?_; rintro e w1 ⟨rfl, rfl⟩)
          go_ret3
          exact ⟨rfl, rfl⟩
  · have h : wordB v 32 = false := by simpa using h
    have hk : stOk v = false := by simp [stOk, h]
    have hs : stScale v = -1 := by simp [stScale, hk]
    have hc : stSack v = false := by simp [stSack, hk]
    rw [hk, hs, hc]
    clear hk hs hc
    go_enter Try.func25, Try.ntmps25
    go_wp2_with (go_at_call 41; refine (sWordOk_any _ _ _).mono ?_; rintro e w1 ⟨rfl, rfl⟩)
    go_ret3
    exact ⟨rfl, rfl⟩
def stampOf (c s : Int) (b : Bool) : Int := (c * 64 + (if b then 48 else 32) + (if inB s 0 14 then s else 15)) % 4294967296
theorem wrap_mod (x : Int) : wrap64 x % 4294967296 = x % 4294967296 := by unfold wrap64; omega

theorem StampOf_any (c s : Int) (b : Bool) (w : World) :
    Calls Try.prog 28 #[.int .i64 c, .int .i64 s, .bool b] w fun e w' => e = .returned (.int .i64 (stampOf c s b)) ∧ w = w' := by
  cases b
  all_goals
    by_cases h : inB s 0 14 = true
    · go_enter Try.func28, Try.ntmps28
      go_wp2_with (go_at_call 56; refine (within_any _ _ _ _).mono ?_; rintro e w1 ⟨rfl, rfl⟩)
      go_ret
      refine ⟨?_, rfl⟩
      simp only [stampOf, h, and_32bits]
      simp
      unfold wrap64
      omega
    · have h : inB s 0 14 = false := by simpa using h
      go_enter Try.func28, Try.ntmps28
      go_wp2_with (go_at_call 56; refine (within_any _ _ _ _).mono ?_; rintro e w1 ⟨rfl, rfl⟩)
      go_ret
      refine ⟨?_, rfl⟩
      simp only [stampOf, h, and_32bits]
      simp
      unfold wrap64
      omega

theorem sStampOf_any (c s : Int) (b : Bool) (h1 : -9223372036854775808 ≤ c) (h2 : c ≤ 9223372036854775807) (w : World) :
    Calls Try.prog 27 #[.int .i64 c, .int .i64 s, .bool b] w fun e w' => e = .returned (.int .i64 (stampOf c s b)) ∧ w = w' := by
  have hb := rest32_bd c
  obtain ⟨hb1, hb2⟩ := hb
  have hc : ∀ x, (rest32 c * 64 + x) % 4294967296 = (c * 64 + x) % 4294967296 := by intro x; unfold rest32; omega
  have HC := Lib.hid hc
  clear hc
  cases b
  all_goals
    by_cases h : inB s 0 14 = true
    · have hs := inB_iff.1 h
      obtain ⟨hs1, hs2⟩ := hs
      go_enter Try.func27, Try.ntmps27
      go_wp2_with (first | (go_at_call 55; refine (l1In_any _ _ _ _).mono ?_; rintro e w1 ⟨rfl, rfl⟩) | (go_at_call 58; refine (l4Rest_any _ (by omega) (by omega) _).mono ?_; rintro e w1 ⟨rfl, rfl⟩))
      go_ret
      refine ⟨?_, rfl⟩
      simp [stampOf, h, rest32]
      unfold rest32 at *
      omega
    · have h : inB s 0 14 = false := by simpa using h
      go_enter Try.func27, Try.ntmps27
      go_wp2_with (first | (go_at_call 55; refine (l1In_any _ _ _ _).mono ?_; rintro e w1 ⟨rfl, rfl⟩) | (go_at_call 58; refine (l4Rest_any _ (by omega) (by omega) _).mono ?_; rintro e w1 ⟨rfl, rfl⟩))
      go_ret
      refine ⟨?_, rfl⟩
      simp [stampOf, h, rest32]
      unfold rest32 at *
      omega
end Go.Proofs.Yteejcabknpdghaa
