/-
  The draw of a key: some word of 64 bits.
-/
import Derived.Test.YtjlnbjabehpncaaDraw
import Derived.Test.YtjlnbjabehpncaaSip
namespace Go.Proofs.Ytjlnbjabehpncaa
set_option maxRecDepth 100000
open Go.RowKit
/-- A draw that gives some word of 64 bits. -/
def DrewU (w : World) (B g : Nat) (e : Ending) (w' : World) : Prop := ∃ u : BitVec 64, e = .returned (.int .u64 (uI u)) ∧ Cur w' B g ∧ w.grownBy w' (some g)
set_option maxHeartbeats 1000000 in
theorem l10Key_any {w : World} {B g : Nat} (hcur : Cur w B g) :
    Calls Try.prog 77 #[.pointer (some ⟨g, 0, none⟩)] w (DrewU w B g) := by
  go_enter Try.func77, Try.ntmps77
  go_wp2_with fail
  refine (l1Below_any hcur 3 (by omega) (by omega)).mono ?_
  rintro e w1 ⟨x1, rfl, ⟨hl1, hh1⟩, hc1, ho1⟩
  have hlt1 := hc1.lt
  by_cases h0 : x1 = 0
  · subst h0
    go_wp2_with fail
    go_ret
    exact ⟨0, rfl, hc1, ho1⟩
  by_cases h1 : x1 = 1
  · subst h1
    go_wp2_with fail
    go_ret
    exact ⟨506097522914230528, rfl, hc1, ho1⟩
  have g0 : (x1 == 0) = false := by simpa using h0
  have g1 : (x1 == 1) = false := by simpa using h1
  go_wp2_with fail
  go_loopw [3, 4] (fun n i wr => ∃ (k : Nat) (u : BitVec 64), k ≤ 8 ∧ i = .int .i64 k ∧ n = .int .u64 (uI u) ∧ Cur wr B g ∧ w1.grownBy wr (some g)) (fun _ i _ => 8 - (intOf i).toNat)
  case atStart => exact ⟨0, 0, by omega, rfl, rfl, hc1, World.grownBy.refl _ _⟩
  case round =>
    obtain ⟨k, u, hk, rfl, rfl, hcr, hor⟩ := hrel
    by_cases hlt : k < 8
    · obtain ⟨hu1, hu2⟩ := uI_bd u
      go_wp2_with fail
      refine (l1Byte_any hcr).mono ?_
      rintro e w2 ⟨y, rfl, ⟨hy0, hy1⟩, hc2, ho2⟩
      obtain ⟨Y, rfl⟩ : ∃ Y : BitVec 64, y = uI Y := ⟨BitVec.ofInt 64 y, by rw [uI_ofInt]; omega⟩
      have hsh := uI_shl u 8 256 (by rfl)
      have hor2 := uI_or (u <<< 8) Y
      go_wp2_with fail
      go_roundw
      case rel => exact ⟨k + 1, (u <<< 8) ||| Y, by omega, by go_num, rfl, hc2, only_trans hor ho2⟩
      case measure => simp [intOf]; omega
    · go_wp2_with fail
      go_ret
      exact ⟨_, rfl, hcr, only_trans ho1 hor⟩
end Go.Proofs.Ytjlnbjabehpncaa
