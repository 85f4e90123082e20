/-
  Contracts of MssIndex, the program's and the reference's.
-/
import Derived.Test.YteejcabknpdghaaMss
namespace Go.Proofs.Yteejcabknpdghaa
open Go.RowKit

/-- The greatest index below k whose size is at most mss, or 0. -/
def mssIdx (mss : Int) : Nat → Int
  | 0 => 0
  | k + 1 => if mssOf k ≤ mss then k else mssIdx mss k

theorem mssIdx_succ_yes {mss : Int} {k : Nat} (h : mssOf (k : Int) ≤ mss) : mssIdx mss (k + 1) = k := by unfold mssIdx; rw [if_pos h]
theorem mssIdx_succ_no {mss : Int} {k : Nat} (h : ¬ mssOf (k : Int) ≤ mss) : mssIdx mss (k + 1) = mssIdx mss k := by rw [mssIdx, if_neg h]
theorem mssIdx_bd (mss : Int) : ∀ k : Nat, 0 ≤ mssIdx mss k ∧ (mssIdx mss k = 0 ∨ mssIdx mss k < k)
  | 0 => ⟨by simp [mssIdx], .inl rfl⟩
  | k + 1 => by
    have := mssIdx_bd mss k
    rw [mssIdx]
    split <;> omega

theorem sMssIndex_any (mss : Int) (w : World) :
    Calls Try.prog 29 #[.int .i64 mss] w fun e w' => e = .returned (.int .i64 (mssIdx mss 8)) ∧ Below w.heap.size w w' := by
  go_enter Try.func29, Try.ntmps29
  go_wp2
  go_loopw [3, 4] (fun o i wr => ∃ k : Nat, k ≤ 8 ∧ i = .int .i64 k ∧ o = .int .i64 (mssIdx mss k) ∧ Below w.heap.size w wr) (fun _ i _ => 8 - (intOf i).toNat)
  case atStart => exact ⟨0, by omega, rfl, rfl, Below.refl _ _⟩
  case round =>
    obtain ⟨k, hk, rfl, rfl, hb⟩ := hrel
    by_cases hlt : k < 8
    · by_cases hm : mssOf (k : Int) ≤ mss
      · have HS := Lib.hid (mssIdx_succ_yes hm)
        go_wp2_with (go_at_call 18; refine (sMssOf_any _ _).mono ?_; rintro e w1 ⟨rfl, hb1⟩)
        go_roundw
        case rel => exact ⟨k + 1, by omega, by go_num, by rw [HS.out], hb.trans (hb1.mono hb.size)⟩
        case measure => simp [intOf]; omega
      · have HS := Lib.hid (mssIdx_succ_no hm)
        go_wp2_with (go_at_call 18; refine (sMssOf_any _ _).mono ?_; rintro e w1 ⟨rfl, hb1⟩)
        go_roundw
        case rel => exact ⟨k + 1, by omega, by go_num, by rw [HS.out], hb.trans (hb1.mono hb.size)⟩
        case measure => simp [intOf]; omega
    · obtain rfl : k = 8 := by omega
      go_wp2
      go_ret
      exact ⟨rfl, hb⟩

theorem MssIndex_any (mss : Int) (w : World) :
    Calls Try.prog 30 #[.int .i64 mss] w fun e w' => e = .returned (.int .i64 (mssIdx mss 8)) ∧ Below w.heap.size w w' := by
  go_enter Try.func30, Try.ntmps30
  go_wp2
  go_loopw [3] (fun i wr => ∃ k : Nat, k ≤ 7 ∧ i = .int .i64 k ∧ mssIdx mss 8 = mssIdx mss (k + 1) ∧ Below w.heap.size w wr) (fun i _ => (intOf i).toNat)
  case atStart => exact ⟨7, by omega, rfl, rfl, Below.refl _ _⟩
  case round =>
    obtain ⟨k, hk, rfl, he, hb⟩ := hrel
    have HE := Lib.hid he
    clear he
    by_cases hlt : 0 < k
    · obtain ⟨j, rfl⟩ : ∃ j, k = j + 1 := ⟨k - 1, by omega⟩
      by_cases hm : mssOf ((j : Int) + 1) ≤ mss
      · have HS := Lib.hid (mssIdx_succ_yes (k := j + 1) (by simpa using hm))
        go_wp2_with (go_at_call 19; refine (MssOf_any _ _).mono ?_; rintro e w1 ⟨rfl, hb1⟩)
        go_ret
        exact ⟨by rw [HE.out, HS.out]; go_num, hb.trans (hb1.mono hb.size)⟩
      · have HS := Lib.hid (mssIdx_succ_no (k := j + 1) (by simpa using hm))
        go_wp2_with (go_at_call 19; refine (MssOf_any _ _).mono ?_; rintro e w1 ⟨rfl, hb1⟩)
        go_roundw
        case rel => exact ⟨j, by omega, by go_num, by rw [HE.out, HS.out], hb.trans (hb1.mono hb.size)⟩
        case measure => simp [intOf]
    · obtain rfl : k = 0 := by omega
      have hz : mssIdx mss (0 + 1) = 0 := by unfold mssIdx mssIdx; split <;> rfl
      have HZ := Lib.hid hz
      clear hz
      go_wp2
      go_ret
      exact ⟨by rw [HE.out, HZ.out]; rfl, hb⟩

end Go.Proofs.Yteejcabknpdghaa
