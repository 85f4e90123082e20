/-
  The law FnExactLearnedOptions returns true for every input. No condition.
-/
import Derived.Test.YteejcabknpdghaaOpt
import Derived.Test.YteejcabknpdghaaStru
namespace Go.Proofs.Yteejcabknpdghaa
open Go.ChangeShapes Go.WideShapes Go.ChangeAt Go.RowKit

theorem FnExactLearnedOptions_walk (i : Int) (a b : Int) (c d : Bool) (p q : Int) (w : World) :
    Calls Try.prog 14 #[.int .i64 i, .agg #[.int .i64 a, .int .i64 b, .bool c, .bool d, .int .i64 p, .int .i64 q]] w fun e w' => e = .returned (.bool true) ∧ Below w.heap.size w w' := by
  by_cases h : lrnOk d q = true
  · have e1 : lrnV i d p q = .agg #[.int .i64 (mssOf i), .int .i64 (stScale q), .bool (stSack q), .bool true, .int .i64 p, .int .i64 0] := by simp [lrnV, h]
    go_enter Try.func14, Try.ntmps14
    go_wp2_with fail
    refine (toOptions_any _ _ _ _ _ _ _).mono ?_
    rintro e w1 ⟨rfl, hb1⟩
    obtain ⟨hc1, hf1⟩ := bcell hb1
    have hz1 := hb1.size
    (try simp at hz1)
    have hy1_0 : w.heap.size < w1.heap.size := by omega
    go_wp2_with fail
    refine (sLearnedOptions_any _ _ _ _ _ _ _ _).mono ?_
    rintro e w2 ⟨rfl, hb2⟩
    obtain ⟨hc2, hf2⟩ := bcell hb2
    have hz2 := hb2.size
    (try simp at hz2)
    have hy2_0 : w.heap.size < w2.heap.size := by omega
    go_wp2_with fail
    refine (toOptions_any _ _ _ _ _ _ _).mono ?_
    rintro e w3 ⟨rfl, hb3⟩
    obtain ⟨hc3, hf3⟩ := bcell hb3
    have hz3 := hb3.size
    (try simp at hz3)
    have hy3_0 : w.heap.size < w3.heap.size := by omega
    have hy3_1 : w2.heap.size < w3.heap.size := by omega
    go_wp2_with fail
    refine (LearnedOptions_any _ _ _ _ _ _ _ _).mono ?_
    rintro e w4 ⟨rfl, hb4⟩
    obtain ⟨hc4, hf4⟩ := bcell hb4
    have hz4 := hb4.size
    (try simp at hz4)
    have hy4_0 : w.heap.size < w4.heap.size := by omega
    have hy4_1 : w2.heap.size < w4.heap.size := by omega
    go_wp2_with fail
    refine (eqOptions_same _ _ _ _ _ _ _).mono ?_
    rintro e w5 ⟨rfl, hb5⟩
    obtain ⟨hc5, hf5⟩ := bcell hb5
    have hz5 := hb5.size
    (try simp at hz5)
    go_wp2_with fail
    go_ret
    exact ⟨rfl, (by repeat (first | with_reducible exact Below.refl _ _ | with_reducible assumption | with_reducible refine Below.drew ?_ | with_reducible refine Below.alloc ?_ (by first | exact Nat.le_refl _ | omega | (simp; done) | (simp; omega)) _ | with_reducible refine Below.setCell ?_ (by first | exact Nat.le_refl _ | omega | (simp; done) | (simp; omega)) _ | (with_reducible refine ext_trans ?_ (by with_reducible assumption))))⟩
  · have h : lrnOk d q = false := by simpa using h
    have e1 : lrnV i d p q = .agg #[.int .i64 (mssOf i), .int .i64 (-1), .bool false, .bool false, .int .i64 0, .int .i64 0] := by simp [lrnV, h]
    go_enter Try.func14, Try.ntmps14
    go_wp2_with fail
    refine (toOptions_any _ _ _ _ _ _ _).mono ?_
    rintro e w1 ⟨rfl, hb1⟩
    obtain ⟨hc1, hf1⟩ := bcell hb1
    have hz1 := hb1.size
    (try simp at hz1)
    have hy1_0 : w.heap.size < w1.heap.size := by omega
    go_wp2_with fail
    refine (sLearnedOptions_any _ _ _ _ _ _ _ _).mono ?_
    rintro e w2 ⟨rfl, hb2⟩
    obtain ⟨hc2, hf2⟩ := bcell hb2
    have hz2 := hb2.size
    (try simp at hz2)
    have hy2_0 : w.heap.size < w2.heap.size := by omega
    go_wp2_with fail
    refine (toOptions_any _ _ _ _ _ _ _).mono ?_
    rintro e w3 ⟨rfl, hb3⟩
    obtain ⟨hc3, hf3⟩ := bcell hb3
    have hz3 := hb3.size
    (try simp at hz3)
    have hy3_0 : w.heap.size < w3.heap.size := by omega
    have hy3_1 : w2.heap.size < w3.heap.size := by omega
    go_wp2_with fail
    refine (LearnedOptions_any _ _ _ _ _ _ _ _).mono ?_
    rintro e w4 ⟨rfl, hb4⟩
    obtain ⟨hc4, hf4⟩ := bcell hb4
    have hz4 := hb4.size
    (try simp at hz4)
    have hy4_0 : w.heap.size < w4.heap.size := by omega
    have hy4_1 : w2.heap.size < w4.heap.size := by omega
    go_wp2_with fail
    refine (eqOptions_same _ _ _ _ _ _ _).mono ?_
    rintro e w5 ⟨rfl, hb5⟩
    obtain ⟨hc5, hf5⟩ := bcell hb5
    have hz5 := hb5.size
    (try simp at hz5)
    go_wp2_with fail
    go_ret
    exact ⟨rfl, (by repeat (first | with_reducible exact Below.refl _ _ | with_reducible assumption | with_reducible refine Below.drew ?_ | with_reducible refine Below.alloc ?_ (by first | exact Nat.le_refl _ | omega | (simp; done) | (simp; omega)) _ | with_reducible refine Below.setCell ?_ (by first | exact Nat.le_refl _ | omega | (simp; done) | (simp; omega)) _ | (with_reducible refine ext_trans ?_ (by with_reducible assumption))))⟩

set_option maxRecDepth 100000 in
theorem FnExactLearnedOptions_lifted (os : Os) (started : os.Started) (H : Type) (enc : TypeId × Value → H) :
    ReturnsInHanded {} Try.checked os 14 .any (Rows.fnExactLearnedOptionsSpec.pre6 enc Try.prog Try.f14 Rows.fnExactLearnedOptionsRow.domain false) (Rows.fnExactLearnedOptionsSpec.post enc Try.prog Try.f14 false true false false) := by
  refine law_lifted (C := Try.checked) own_ started (by kernel_rfl) Try.func14 laid_ rfl ?_ ?_ rfl Try.underlying4
    (ChangeSpec.witness6 (enc := enc) (C := Try.checked) false ⟨#[], #[.int .i64 0, .agg #[.int .i64 0, .int .i64 0, .bool false, .bool false, .int .i64 0, .int .i64 0]], []⟩ 8 (by kernel_rfl) (by kernel_rfl) (by kernel_rfl) (by kernel_rfl)) ?_
  · intro ds h
    match ds, h with
    | [_, _], _ => rfl
  · intro t ht
    rw [Try.params14] at ht
    simp at ht
    rcases ht with rfl | rfl
    all_goals exact ⟨by kernel_rfl, of_decide_eq_true (by kernel_rfl)⟩
  · intro W base args ds p hval hA hlt
    have hval : ∀ (j : Nat) t v, Try.f14.params[j]? = some t → args[j]? = some v → Value.okWide Try.prog W .any base t v := hval
    have hA : DataW.TrodAll enc Try.prog W 0 (fun _ => true) true Try.f14.params.toList args.toList ds p := hA
    rw [Try.params14] at hA hval
    obtain ⟨v0, v1, d0, d1, p0, p1, rfl, rfl, rfl, h0, h1⟩ := trodAll_two hA
    obtain ⟨a, rfl, rfl, rfl, wa⟩ := open_int Try.underlying3 (hval 0 3 v0 rfl rfl) h0
    obtain ⟨b0, b1, b2, b3, b4, b5, rfl, wb0, wb1, wb2, wb3⟩ := open_Options (hval 1 37 v1 rfl rfl) h1
    exact FnExactLearnedOptions_walk a b0 b1 b2 b3 b4 b5 W

theorem FnExactLearnedOptions_holds : Rows.FnExactLearnedOptionsSaid :=
  OpenClaim.holds_of_wide 14 Try.f14 rfl rfl rfl rfl rfl rfl rfl ⟨rfl, rfl, rfl, rfl, rfl⟩ rfl rfl rfl rfl rfl (by kernel_rfl) Try.func14 (by kernel_rfl)
    (of_decide_eq_true (by kernel_rfl)) (by have hw := wrap_ (P := Try.prog) (fn := Try.f14) (by kernel_rfl); exact hw)
    (fun os started H enc _ => FnExactLearnedOptions_lifted os started H enc)
end Go.Proofs.Yteejcabknpdghaa
