/-
  Plain laws: masks of bits on the model's 64-bit integers.
-/
import Derived.Test.YteaniiponikpjaaBase
import Derived.Laws.BitsAllLaws
import Derived.Laws.BitsLemmas
namespace Go.Proofs.Yteaniiponikpjaa
open Go.RowKit

theorem ofInt64_toNat (x : Int) : ((BitVec.ofInt 64 x).toNat : Int) = x % 18446744073709551616 := by
  rw [BitVec.toNat_ofInt]
  have : (0 : Int) ≤ x % 18446744073709551616 := by omega
  simp only [Nat.reducePow]
  omega

theorem mask_nat (k : Nat) (hk : k ≤ 62) : ((2 ^ k - 1 : Nat) : Int) % 18446744073709551616 = ((2 ^ k - 1 : Nat) : Int) := by
  have h4 : 2 ^ k ≤ 2 ^ 62 := Nat.pow_le_pow_right (by omega) hk
  have e2 : (2 : Nat) ^ 62 = 4611686018427387904 := by decide
  omega

theorem and_mask (x : Int) (k m : Nat) (hm : m = 2 ^ k - 1) (hk : k ≤ 62) : bits BinOp.and .i64 x (m : Int) = x % ((m : Int) + 1) := by
  have h0 : 0 < 2 ^ k := Nat.pos_of_ne_zero (by simp)
  have h4 : 2 ^ k ≤ 2 ^ 62 := Nat.pow_le_pow_right (by omega) hk
  have e2 : (2 : Nat) ^ 62 = 4611686018427387904 := by decide
  have hd : (2 : Int) ^ k ∣ 18446744073709551616 := by
    refine ⟨2 ^ (64 - k), ?_⟩
    rw [← Int.pow_add, show k + (64 - k) = 64 from by omega]
    decide
  have hmn : (BitVec.ofInt 64 (m : Int)).toNat = 2 ^ k - 1 := by
    have := ofInt64_toNat (m : Int)
    rw [hm, mask_nat k hk] at this
    rw [hm]; omega
  show IntKind.i64.wrap ((BitVec.ofInt 64 x &&& BitVec.ofInt 64 (m : Int)).toNat : Int) = _
  rw [BitVec.toNat_and, hmn, Nat.and_two_pow_sub_one_eq_mod]
  have e : (((BitVec.ofInt 64 x).toNat % 2 ^ k : Nat) : Int) = x % ((m : Int) + 1) := by
    rw [Int.natCast_emod, ofInt64_toNat, Int.natCast_pow, show ((2 : Nat) : Int) ^ k = (2 : Int) ^ k from rfl, Int.emod_emod_of_dvd _ hd]
    congr 1
    rw [hm, Int.natCast_sub (by omega), Int.natCast_pow]
    simp
  rw [e]
  have hlt : x % ((m : Int) + 1) < (m : Int) + 1 := Int.emod_lt_of_pos _ (by omega)
  have hge : 0 ≤ x % ((m : Int) + 1) := Int.emod_nonneg _ (by omega)
  exact IntWalk.i64_in _ ⟨by omega, by omega⟩

theorem and_32bits (x : Int) : bits BinOp.and .i64 x 4294967295 = x % 4294967296 := and_mask x 32 4294967295 (by decide) (by omega)
theorem and_15 (x : Int) : bits BinOp.and .i64 x 15 = x % 16 := and_mask x 4 15 (by decide) (by omega)
theorem and_255 (x : Int) : bits BinOp.and .i64 x 255 = x % 256 := and_mask x 8 255 (by decide) (by omega)
theorem and_30bits (x : Int) : bits BinOp.and .i64 x 1073741823 = x % 1073741824 := and_mask x 30 1073741823 (by decide) (by omega)

theorem nat_and_pow (y i : Nat) : y &&& 2 ^ i = (y.testBit i).toNat * 2 ^ i := by
  apply Nat.eq_of_testBit_eq
  intro j
  rw [Nat.testBit_and, Nat.testBit_two_pow]
  by_cases h : i = j
  · subst h
    cases hb : y.testBit i <;> simp
  · cases hb : y.testBit i <;> simp [h]

theorem and_bit (x : Int) (i : Nat) (hi : i ≤ 62) (m : Nat) (hm : m = 2 ^ i) : bits BinOp.and .i64 x (m : Int) = x / (m : Int) % 2 * (m : Int) := by
  have h4 : 2 ^ i ≤ 2 ^ 62 := Nat.pow_le_pow_right (by omega) hi
  have h0 : 0 < 2 ^ i := Nat.pos_of_ne_zero (by simp)
  have e2 : (2 : Nat) ^ 62 = 4611686018427387904 := by decide
  have hmn : (BitVec.ofInt 64 (m : Int)).toNat = 2 ^ i := by
    have := ofInt64_toNat (m : Int)
    omega
  show IntKind.i64.wrap ((BitVec.ofInt 64 x &&& BitVec.ofInt 64 (m : Int)).toNat : Int) = _
  rw [BitVec.toNat_and, hmn, nat_and_pow]
  have hx := ofInt64_toNat x
  generalize (BitVec.ofInt 64 x).toNat = y at hx
  have e3 : (y.testBit i).toNat = y / 2 ^ i % 2 := by rw [Nat.testBit_eq_decide_div_mod_eq]; by_cases h : y / 2 ^ i % 2 = 1 <;> simp [h] <;> omega
  rw [e3, ← hm]
  have hd : (18446744073709551616 : Int) = (m : Int) * (2 * 2 ^ (63 - i)) := by
    rw [hm, Int.natCast_pow, show ((2 : Nat) : Int) = (2 : Int) from rfl, ← Int.pow_succ', ← Int.pow_add, show i + (63 - i + 1) = 64 from by omega]
    decide
  have hq : x / (m : Int) % 2 = ((y / m % 2 : Nat) : Int) := by
    have hx2 : x = y + 18446744073709551616 * (x / 18446744073709551616) := by omega
    have hm0 : (m : Int) ≠ 0 := by omega
    rw [Int.natCast_emod, Int.natCast_ediv]
    conv => lhs; rw [hx2, hd, Int.mul_assoc, Int.add_mul_ediv_left _ _ hm0, Int.mul_assoc]
    simp [Int.add_mul_emod_self_left]
  rw [hq]
  have hle : y / m % 2 * m ≤ m := by
    have : y / m % 2 ≤ 1 := by omega
    calc y / m % 2 * m ≤ 1 * m := Nat.mul_le_mul_right _ this
      _ = m := by omega
  rw [← Int.natCast_mul]
  exact IntWalk.i64_in _ ⟨by omega, by omega⟩

theorem and_b32 (x : Int) : bits BinOp.and .i64 x 32 = x / 32 % 2 * 32 := and_bit x 5 (by omega) 32 rfl
theorem and_b16 (x : Int) : bits BinOp.and .i64 x 16 = x / 16 % 2 * 16 := and_bit x 4 (by omega) 16 rfl

end Go.Proofs.Yteaniiponikpjaa
