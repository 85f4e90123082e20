/-
  The law FnExactCookieParts returns true for every input. No condition.
-/
import Derived.Test.YteejcabknpdghaaStamp
namespace Go.Proofs.Yteejcabknpdghaa
open Go.ChangeShapes Go.WideShapes Go.ChangeAt Go.RowKit

theorem FnExactCookieParts_walk (c : Int) (w : World) :
    Calls Try.prog 5 #[.int .i64 c] w fun e w' => e = .returned (.bool true) ∧ Below w.heap.size w w' := by
  by_cases h : wordB c 32 = true
  · have hr : 0 ≤ c ∧ c ≤ 4294967295 := by have h' := h; unfold wordB at h'; simpa [inB] using h'
    obtain ⟨h1, h2⟩ := hr
    go_enter Try.func5, Try.ntmps5
    go_wp2_with (first | (go_at_call 23; refine (sCookieParts_yes _ h h1 h2 _).mono ?_; rintro e w1 ⟨rfl, rfl⟩) | (go_at_call 24; refine (CookieParts_yes _ h h1 h2 _).mono ?_; rintro e w1 ⟨rfl, rfl⟩))
    go_ret
    exact ⟨rfl, Below.refl _ _⟩
  · have h : wordB c 32 = false := by simpa using h
    go_enter Try.func5, Try.ntmps5
    go_wp2_with (first | (go_at_call 23; refine (sCookieParts_no _ h _).mono ?_; rintro e w1 ⟨rfl, rfl⟩) | (go_at_call 24; refine (CookieParts_no _ h _).mono ?_; rintro e w1 ⟨rfl, rfl⟩))
    go_ret
    exact ⟨rfl, Below.refl _ _⟩

set_option maxRecDepth 100000 in
theorem FnExactCookieParts_lifted (os : Os) (started : os.Started) (H : Type) (enc : TypeId × Value → H) :
    ReturnsInHanded {} Try.checked os 5 .any (Rows.fnExactCookiePartsSpec.pre6 enc Try.prog Try.f5 Rows.fnExactCookiePartsRow.domain false) (Rows.fnExactCookiePartsSpec.post enc Try.prog Try.f5 false true false false) := by
  refine law_lifted (C := Try.checked) own_ started (by kernel_rfl) Try.func5 laid_ rfl ?_ ?_ rfl Try.underlying4
    (ChangeSpec.witness6 (enc := enc) (C := Try.checked) false ⟨#[], #[.int .i64 0], []⟩ 8 (by kernel_rfl) (by kernel_rfl) (by kernel_rfl) (by kernel_rfl)) ?_
  · intro ds h
    match ds, h with
    | [_], _ => rfl
  · intro t ht
    rw [Try.params5] at ht
    simp at ht
    subst ht
    exact ⟨by kernel_rfl, of_decide_eq_true (by kernel_rfl)⟩
  · intro W base args ds p hval hA hlt
    have hval : ∀ (j : Nat) t v, Try.f5.params[j]? = some t → args[j]? = some v → Value.okWide Try.prog W .any base t v := hval
    have hA : DataW.TrodAll enc Try.prog W 0 (fun _ => true) true Try.f5.params.toList args.toList ds p := hA
    rw [Try.params5] at hA hval
    obtain ⟨v0, d0, rfl, rfl, h0⟩ := trodAll_one hA
    obtain ⟨a, rfl, rfl, rfl, wa⟩ := open_int Try.underlying3 (hval 0 3 v0 rfl rfl) h0
    exact FnExactCookieParts_walk a W

theorem FnExactCookieParts_holds : Rows.FnExactCookiePartsSaid :=
  OpenClaim.holds_of_wide 5 Try.f5 rfl rfl rfl rfl rfl rfl rfl ⟨rfl, rfl, rfl, rfl, rfl⟩ rfl rfl rfl rfl rfl (by kernel_rfl) Try.func5 (by kernel_rfl)
    (of_decide_eq_true (by kernel_rfl)) (by have hw := wrap_ (P := Try.prog) (fn := Try.f5) (by kernel_rfl); exact hw)
    (fun os started H enc _ => FnExactCookieParts_lifted os started H enc)
end Go.Proofs.Yteejcabknpdghaa
