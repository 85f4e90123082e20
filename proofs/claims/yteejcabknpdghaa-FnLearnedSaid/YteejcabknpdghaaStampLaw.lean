/-
  Plain laws of encoded options.
-/
import Derived.Test.YteejcabknpdghaaStamp
namespace Go.Proofs.Yteejcabknpdghaa
open Go.RowKit

theorem stampOf_word (c s : Int) (b : Bool) : 0 ≤ stampOf c s b ∧ stampOf c s b ≤ 4294967295 := by unfold stampOf; omega
theorem wordB_32 {v : Int} (h1 : 0 ≤ v) (h2 : v ≤ 4294967295) : wordB v 32 = true := by simp [wordB, inB]; omega
theorem stamp_ok (c s : Int) (b : Bool) : stOk (stampOf c s b) = true := by
  obtain ⟨h1, h2⟩ := stampOf_word c s b
  simp only [stOk, wordB_32 h1 h2, Bool.true_and, decide_eq_true_eq]
  unfold stampOf
  by_cases h : inB s 0 14 = true
  · have := inB_iff.1 h
    cases b <;> simp [h] <;> omega
  · cases b <;> simp [h] <;> omega
theorem stamp_sack (c s : Int) (b : Bool) : stSack (stampOf c s b) = b := by
  simp only [stSack, stamp_ok, Bool.true_and]
  unfold stampOf
  by_cases h : inB s 0 14 = true
  · have := inB_iff.1 h
    cases b <;> simp [h] <;> omega
  · cases b <;> simp [h] <;> omega
theorem stamp_scale (c s : Int) (b : Bool) : stScale (stampOf c s b) = if inB s 0 14 then s else -1 := by
  simp only [stScale, stamp_ok, if_true]
  unfold stampOf
  by_cases h : inB s 0 14 = true
  · have := inB_iff.1 h
    rw [if_pos h, if_pos h]
    cases b <;> (simp; split <;> omega)
  · rw [if_neg h, if_neg h]
    cases b <;> (simp; omega)


end Go.Proofs.Yteejcabknpdghaa
