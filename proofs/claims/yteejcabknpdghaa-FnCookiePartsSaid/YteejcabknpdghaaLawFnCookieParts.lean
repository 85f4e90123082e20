/-
  The law FnCookieParts returns true for every input. No condition.
-/
import Derived.Test.YteejcabknpdghaaDrawA
import Derived.Test.YteejcabknpdghaaStamp
namespace Go.Proofs.Yteejcabknpdghaa
open Go.ChangeShapes Go.WideShapes Go.ChangeAt Go.RowKit

theorem FnCookieParts_walk {A : Option Addr} {n c : Nat} (hn : n ≤ maxLen) (w : World) (hb : Byts w w.heap.size A n) :
    Calls Try.prog 12 #[.slice A n c] w fun e w' => e = .returned (.bool true) ∧ Below w.heap.size w w' := by
  have hlen := hn
  unfold maxLen at hlen
  by_cases hbig : (1048576 : Int) < n
  · go_enter Try.func12, Try.ntmps12
    go_wp2_with fail
    refine (big_any hn _).mono ?_
    rintro e w' ⟨rfl, rfl⟩
    go_wp2_with fail
    go_ret
    exact ⟨rfl, Below.refl _ _⟩
  · go_enter Try.func12, Try.ntmps12
    go_wp2_with fail
    refine (big_any hn _).mono ?_
    rintro e w' ⟨rfl, rfl⟩
    go_wp2_with fail
    refine (DrawCookieParts_any hn hb).mono ?_
    rintro e w1 ⟨x, rfl, ⟨hx0, hx1⟩, hb1⟩
    by_cases h : wordB x 32 = true
    · have hr : 0 ≤ x ∧ x ≤ 4294967295 := by have h' := h; unfold wordB at h'; simpa [inB] using h'
      obtain ⟨h1, h2⟩ := hr
      go_wp2_with fail
      refine (CookieParts_yes x h h1 h2 _).mono ?_
      rintro e w' ⟨rfl, rfl⟩
      go_wp2_with fail
      refine (sWordOk_any _ _ _).mono ?_
      rintro e w' ⟨rfl, rfl⟩
      have e1 : (x / 134217728 * 134217728 + x / 16777216 % 8 * 16777216 + x % 16777216 == x) = true := by rw [beq_iff_eq]; omega
      go_wp2_with fail
      go_ret
      exact ⟨rfl, hb1⟩
    · have h : wordB x 32 = false := by simpa using h
      go_wp2_with fail
      refine (CookieParts_no x h _).mono ?_
      rintro e w' ⟨rfl, rfl⟩
      go_wp2_with fail
      refine (sWordOk_any _ _ _).mono ?_
      rintro e w' ⟨rfl, rfl⟩
      go_wp2_with fail
      go_ret
      exact ⟨rfl, hb1⟩

set_option maxRecDepth 100000 in
theorem FnCookieParts_lifted (os : Os) (started : os.Started) (H : Type) (enc : TypeId × Value → H) :
    ReturnsInHanded {} Try.checked os 12 .any (Rows.fnCookiePartsSpec.pre6 enc Try.prog Try.f12 Rows.fnCookiePartsRow.domain false) (Rows.fnCookiePartsSpec.post enc Try.prog Try.f12 false true false false) := by
  refine law_lifted (C := Try.checked) own_ started (by kernel_rfl) Try.func12 laid_ rfl ?_ ?_ rfl Try.underlying4
    (ChangeSpec.witness6 (enc := enc) (C := Try.checked) false ⟨#[], #[.slice none 0 0], []⟩ 8 (by kernel_rfl) (by kernel_rfl) (by kernel_rfl) (by kernel_rfl)) ?_
  · intro ds h
    match ds, h with
    | [_], _ => rfl
  · intro t ht
    rw [Try.params12] at ht
    simp at ht
    subst ht
    exact ⟨by kernel_rfl, of_decide_eq_true (by kernel_rfl)⟩
  · intro W base args ds p hval hA hlt
    have hval : ∀ (j : Nat) t v, Try.f12.params[j]? = some t → args[j]? = some v → Value.okWide Try.prog W .any base t v := hval
    have hA : DataW.TrodAll enc Try.prog W 0 (fun _ => true) true Try.f12.params.toList args.toList ds p := hA
    rw [Try.params12] at hA hval
    obtain ⟨v0, d0, rfl, rfl, h0⟩ := trodAll_one hA
    obtain ⟨Aa, na, ca, rfl, wna, wba⟩ := open_bytes (hval 0 50 v0 rfl rfl) h0
    exact FnCookieParts_walk wna W wba

theorem FnCookieParts_holds : Rows.FnCookiePartsSaid :=
  OpenClaim.holds_of_wide 12 Try.f12 rfl rfl rfl rfl rfl rfl rfl ⟨rfl, rfl, rfl, rfl, rfl⟩ rfl rfl rfl rfl rfl (by kernel_rfl) Try.func12 (by kernel_rfl)
    (of_decide_eq_true (by kernel_rfl)) (by have hw := wrap_ (P := Try.prog) (fn := Try.f12) (by kernel_rfl); exact hw)
    (fun os started H enc _ => FnCookieParts_lifted os started H enc)
end Go.Proofs.Yteejcabknpdghaa
