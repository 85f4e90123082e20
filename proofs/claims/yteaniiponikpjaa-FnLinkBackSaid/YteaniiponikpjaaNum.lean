/-
  Contracts of the functions that only compute with integers.
-/
import Derived.Test.YteaniiponikpjaaBase
namespace Go.Proofs.Yteaniiponikpjaa
open Go.RowKit

def inB (n lo hi : Int) : Bool := decide (lo ≤ n) && decide (n ≤ hi)
theorem inB_iff {n lo hi : Int} : inB n lo hi = true ↔ lo ≤ n ∧ n ≤ hi := by unfold inB; simp
theorem inB_not {n lo hi : Int} : inB n lo hi = false ↔ n < lo ∨ hi < n := by unfold inB; simp; omega

theorem within_any (n lo hi : Int) (w : World) :
    Calls Try.prog 54 #[.int .i64 n, .int .i64 lo, .int .i64 hi] w fun e w' => e = .returned (.bool (inB n lo hi)) ∧ w = w' := by
  unfold inB
  by_cases h1 : lo ≤ n
  · go_enter Try.func54, Try.ntmps54
    go_wp2
    go_ret
    exact ⟨by simp [h1], rfl⟩
  · have h2 : decide (lo ≤ n) = false := by simpa using h1
    go_enter Try.func54, Try.ntmps54
    go_wp2
    go_ret
    exact ⟨by simp, rfl⟩

theorem l1In_any (n lo hi : Int) (w : World) :
    Calls Try.prog 52 #[.int .i64 n, .int .i64 lo, .int .i64 hi] w fun e w' => e = .returned (.bool (inB n lo hi)) ∧ w = w' := by
  unfold inB
  by_cases h1 : lo ≤ n
  · go_enter Try.func52, Try.ntmps52
    go_wp2
    go_ret
    exact ⟨by simp [h1], rfl⟩
  · have h2 : decide (lo ≤ n) = false := by simpa using h1
    go_enter Try.func52, Try.ntmps52
    go_wp2
    go_ret
    exact ⟨by simp, rfl⟩

def wordB (n bits : Int) : Bool := inB bits 1 62 && inB n 0 (2 ^ bits.toNat - 1)

theorem pow_bd (b : Int) (h1 : 1 ≤ b) (h2 : b ≤ 62) : 2 ≤ (2 : Int) ^ b.toNat ∧ (2 : Int) ^ b.toNat ≤ 4611686018427387904 := by
  obtain ⟨k, rfl⟩ := Int.eq_ofNat_of_zero_le (by omega : 0 ≤ b)
  simp only [Int.toNat_natCast]
  have h3 : 2 ^ 1 ≤ 2 ^ k := Nat.pow_le_pow_right (by omega) (by omega)
  have h4 : 2 ^ k ≤ 2 ^ 62 := Nat.pow_le_pow_right (by omega) (by omega)
  have e : ((2 ^ k : Nat) : Int) = (2 : Int) ^ k := by simp
  rw [← e]
  have e1 : (2 : Nat) ^ 1 = 2 := rfl
  have e2 : (2 : Nat) ^ 62 = 4611686018427387904 := by decide
  omega
theorem wrap_pow (b : Int) (h1 : 1 ≤ b) (h2 : b ≤ 62) : wrap64 (wrap64 (2 ^ b.toNat) - 1) = 2 ^ b.toNat - 1 := by
  obtain ⟨h3, h4⟩ := pow_bd b h1 h2
  rw [IntWalk.wrap64_in (2 ^ b.toNat) ⟨by omega, by omega⟩, IntWalk.wrap64_in _ ⟨by omega, by omega⟩]

theorem WordOk_any (n bits : Int) (w : World) :
    Calls Try.prog 53 #[.int .i64 n, .int .i64 bits] w fun e w' => e = .returned (.bool (wordB n bits)) ∧ w = w' := by
  by_cases h1 : 1 ≤ bits ∧ bits ≤ 62
  · obtain ⟨h1, h2⟩ := h1
    have hb : inB bits 1 62 = true := inB_iff.2 ⟨h1, h2⟩
    go_enter Try.func53, Try.ntmps53
    go_wp2_with (go_at_call 54; refine (within_any _ _ _ _).mono ?_; rintro e w' ⟨rfl, rfl⟩)
    go_ret
    exact ⟨by rw [wrap_pow bits h1 h2]; simp [wordB, hb], rfl⟩
  · have hb : inB bits 1 62 = false := inB_not.2 (by omega)
    go_enter Try.func53, Try.ntmps53
    go_wp2_with (go_at_call 54; refine (within_any _ _ _ _).mono ?_; rintro e w' ⟨rfl, rfl⟩)
    go_ret
    exact ⟨by simp [wordB, hb], rfl⟩

theorem sWordOk_any (n bits : Int) (w : World) :
    Calls Try.prog 38 #[.int .i64 n, .int .i64 bits] w fun e w' => e = .returned (.bool (wordB n bits)) ∧ w = w' := by
  by_cases h1 : 1 ≤ bits ∧ bits ≤ 62
  · obtain ⟨h1, h2⟩ := h1
    have hb : inB bits 1 62 = true := inB_iff.2 ⟨h1, h2⟩
    go_enter Try.func38, Try.ntmps38
    go_wp2_with (go_at_call 52; refine (l1In_any _ _ _ _).mono ?_; rintro e w' ⟨rfl, rfl⟩)
    go_ret
    exact ⟨by rw [wrap_pow bits h1 h2]; simp [wordB, hb], rfl⟩
  · have hb : inB bits 1 62 = false := inB_not.2 (by omega)
    go_enter Try.func38, Try.ntmps38
    go_wp2_with (go_at_call 52; refine (l1In_any _ _ _ _).mono ?_; rintro e w' ⟨rfl, rfl⟩)
    go_ret
    exact ⟨by simp [wordB, hb], rfl⟩

def rest32 (n : Int) : Int := n % 4294967296
theorem rest32_bd (n : Int) : 0 ≤ rest32 n ∧ rest32 n ≤ 4294967295 := by unfold rest32; omega

theorem tmod32 (n : Int) : n.tmod 4294967296 = if 0 ≤ n then n % 4294967296 else -((-n) % 4294967296) := by
  split
  · rename_i h
    rw [Int.tmod_eq_emod_of_nonneg h]
  · rename_i h
    have e : n = -(-n) := by omega
    rw [e, Int.neg_tmod, Int.tmod_eq_emod_of_nonneg (by omega)]
    simp


end Go.Proofs.Yteaniiponikpjaa
