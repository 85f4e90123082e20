/-
  The law FnExactMssIndex returns true for every input. No condition.
-/
import Derived.Test.YteejcabknpdghaaMssIndex
namespace Go.Proofs.Yteejcabknpdghaa
open Go.ChangeShapes Go.WideShapes Go.ChangeAt Go.RowKit

theorem FnExactMssIndex_walk (i : Int) (w : World) :
    Calls Try.prog 8 #[.int .i64 i] w fun e w' => e = .returned (.bool true) ∧ Below w.heap.size w w' := by
  go_enter Try.func8, Try.ntmps8
  go_wp2_with (first | (go_at_call 29; refine (sMssIndex_any _ _).mono ?_; rintro e w1 ⟨rfl, hb1⟩) | (go_at_call 30; refine (MssIndex_any _ _).mono ?_; rintro e w2 ⟨rfl, hb2⟩))
  go_ret
  exact ⟨rfl, ext_trans hb1 hb2⟩

set_option maxRecDepth 100000 in
theorem FnExactMssIndex_lifted (os : Os) (started : os.Started) (H : Type) (enc : TypeId × Value → H) :
    ReturnsInHanded {} Try.checked os 8 .any (Rows.fnExactMssIndexSpec.pre6 enc Try.prog Try.f8 Rows.fnExactMssIndexRow.domain false) (Rows.fnExactMssIndexSpec.post enc Try.prog Try.f8 false true false false) := by
  refine law_lifted (C := Try.checked) own_ started (by kernel_rfl) Try.func8 laid_ rfl ?_ ?_ rfl Try.underlying4
    (ChangeSpec.witness6 (enc := enc) (C := Try.checked) false ⟨#[], #[.int .i64 0], []⟩ 8 (by kernel_rfl) (by kernel_rfl) (by kernel_rfl) (by kernel_rfl)) ?_
  · intro ds h
    match ds, h with
    | [_], _ => rfl
  · intro t ht
    rw [Try.params8] at ht
    simp at ht
    subst ht
    exact ⟨by kernel_rfl, of_decide_eq_true (by kernel_rfl)⟩
  · intro W base args ds p hval hA hlt
    have hval : ∀ (j : Nat) t v, Try.f8.params[j]? = some t → args[j]? = some v → Value.okWide Try.prog W .any base t v := hval
    have hA : DataW.TrodAll enc Try.prog W 0 (fun _ => true) true Try.f8.params.toList args.toList ds p := hA
    rw [Try.params8] at hA hval
    obtain ⟨v0, d0, rfl, rfl, h0⟩ := trodAll_one hA
    obtain ⟨a, rfl, rfl, rfl, wa⟩ := open_int Try.underlying3 (hval 0 3 v0 rfl rfl) h0
    exact FnExactMssIndex_walk a W

theorem FnExactMssIndex_holds : Rows.FnExactMssIndexSaid :=
  OpenClaim.holds_of_wide 8 Try.f8 rfl rfl rfl rfl rfl rfl rfl ⟨rfl, rfl, rfl, rfl, rfl⟩ rfl rfl rfl rfl rfl (by kernel_rfl) Try.func8 (by kernel_rfl)
    (of_decide_eq_true (by kernel_rfl)) (by have hw := wrap_ (P := Try.prog) (fn := Try.f8) (by kernel_rfl); exact hw)
    (fun os started H enc _ => FnExactMssIndex_lifted os started H enc)
end Go.Proofs.Yteejcabknpdghaa
