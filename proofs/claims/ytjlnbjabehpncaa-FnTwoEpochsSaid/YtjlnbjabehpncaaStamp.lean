/-
  Contracts of the functions on cookies' parts and time stamps.
-/
import Derived.Test.YtjlnbjabehpncaaNum
import Derived.Test.YtjlnbjabehpncaaBits
namespace Go.Proofs.Ytjlnbjabehpncaa
open Go.RowKit

theorem CookieParts_no (c : Int) (h : wordB c 32 = false) (w : World) :
    Calls Try.prog 58 #[.int .i64 c] w fun e w' => e = .returned (.tuple #[.int .i64 (-1), .int .i64 (-1), .int .i64 (-1)]) ∧ w = w' := by
  go_enter Try.func58, Try.ntmps58
  go_wp2_with (go_at_call 57; refine (WordOk_any _ _ _).mono ?_; rintro e w1 ⟨rfl, rfl⟩)
  go_ret3
  exact ⟨rfl, rfl⟩

theorem CookieParts_yes (c : Int) (h : wordB c 32 = true) (h1 : 0 ≤ c) (h2 : c ≤ 4294967295) (w : World) :
    Calls Try.prog 58 #[.int .i64 c] w fun e w' => e = .returned (.tuple #[.int .i64 (c / 134217728), .int .i64 (c / 16777216 % 8), .int .i64 (c % 16777216)]) ∧ w = w' := by
  go_enter Try.func58, Try.ntmps58
  go_wp2_with (go_at_call 57; refine (WordOk_any _ _ _).mono ?_; rintro e w1 ⟨rfl, rfl⟩)
  go_ret3
  exact ⟨rfl, rfl⟩

theorem sCookieParts_no (c : Int) (h : wordB c 32 = false) (w : World) :
    Calls Try.prog 28 #[.int .i64 c] w fun e w' => e = .returned (.tuple #[.int .i64 (-1), .int .i64 (-1), .int .i64 (-1)]) ∧ w = w' := by
  go_enter Try.func28, Try.ntmps28
  go_wp2_with (go_at_call 17; refine (sWordOk_any _ _ _).mono ?_; rintro e w1 ⟨rfl, rfl⟩)
  go_ret3
  exact ⟨rfl, rfl⟩

theorem sCookieParts_yes (c : Int) (h : wordB c 32 = true) (h1 : 0 ≤ c) (h2 : c ≤ 4294967295) (w : World) :
    Calls Try.prog 28 #[.int .i64 c] w fun e w' => e = .returned (.tuple #[.int .i64 (c / 134217728), .int .i64 (c / 16777216 % 8), .int .i64 (c % 16777216)]) ∧ w = w' := by
  go_enter Try.func28, Try.ntmps28
  go_wp2_with (go_at_call 17; refine (sWordOk_any _ _ _).mono ?_; rintro e w1 ⟨rfl, rfl⟩)
  go_ret3
  exact ⟨rfl, rfl⟩

end Go.Proofs.Ytjlnbjabehpncaa
