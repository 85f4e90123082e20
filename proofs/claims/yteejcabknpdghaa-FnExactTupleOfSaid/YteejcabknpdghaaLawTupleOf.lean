/-
  The law FnExactTupleOf returns true for every input. No condition.
-/
import Derived.Test.YteejcabknpdghaaSeg
import Derived.Test.YteejcabknpdghaaStru
namespace Go.Proofs.Yteejcabknpdghaa
open Go.ChangeShapes Go.WideShapes Go.ChangeAt Go.RowKit

theorem FnExactTupleOf_walk (src : Int) (a b c d p q : Int) (o1 o2 : Int) (o3 o4 : Bool) (o5 o6 : Int) (s : ByteArray) (hs : s.size ≤ maxLen) (w : World) :
    Calls Try.prog 9 #[.int .i64 src, .agg #[.int .i64 a, .int .i64 b, .int .i64 c, .int .i64 d, .int .i64 p, .int .i64 q, .int .i64 o1, .int .i64 o2, .bool o3, .bool o4, .int .i64 o5, .int .i64 o6, .string s]] w fun e w' => e = .returned (.bool true) ∧ Below w.heap.size w w' := by
  by_cases h : (1048576 : Int) - s.size < 0
  · have hz := szSegment_any a b c d p q o1 o2 o3 o4 o5 o6 s 1048576 (by omega) (by omega) hs
    simp only [if_pos h] at hz
    go_enter Try.func9, Try.ntmps9
    go_wp2_with (go_at_call 31; refine (hz _).mono ?_; rintro e w1 ⟨rfl, hb1⟩; obtain ⟨hc1, hf1⟩ := bcell hb1; have hz1 := hb1.size; (try simp at hz1); have hy0_ : w.heap.size < w1.heap.size := by omega)
    go_ret
    exact ⟨rfl, (by repeat (first | with_reducible exact Below.refl _ _ | with_reducible assumption | with_reducible refine Below.drew ?_ | with_reducible refine Below.alloc ?_ (by first | exact Nat.le_refl _ | omega | (simp; done) | (simp; omega)) _ | with_reducible refine Below.setCell ?_ (by first | exact Nat.le_refl _ | omega | (simp; done) | (simp; omega)) _ | (with_reducible refine ext_trans ?_ (by with_reducible assumption))))⟩
  · have hz := szSegment_any a b c d p q o1 o2 o3 o4 o5 o6 s 1048576 (by omega) (by omega) hs
    simp only [if_neg h] at hz
    have HZ := Lib.hid hz
    clear hz
    go_enter Try.func9, Try.ntmps9
    go_wp2_with fail
    refine (HZ.out _).mono ?_
    rintro e w1 ⟨rfl, hb1⟩
    obtain ⟨hc1, hf1⟩ := bcell hb1
    have hz1 := hb1.size
    (try simp at hz1)
    have hy1_0 : w.heap.size < w1.heap.size := by omega
    go_wp2_with fail
    refine (toSegment_any _ _ _ _ _ _ _ _ _ _ _ _ _ _).mono ?_
    rintro e w2 ⟨rfl, hb2⟩
    obtain ⟨hc2, hf2⟩ := bcell hb2
    have hz2 := hb2.size
    (try simp at hz2)
    have hy2_0 : w.heap.size < w2.heap.size := by omega
    go_wp2_with fail
    refine (sTupleOf_any _ _ _ _ _ _ _ _ _ _ _ _ _ _ _).mono ?_
    rintro e w3 ⟨rfl, hb3⟩
    obtain ⟨hc3, hf3⟩ := bcell hb3
    have hz3 := hb3.size
    (try simp at hz3)
    have hy3_0 : w.heap.size < w3.heap.size := by omega
    go_wp2_with fail
    refine (toSegment_any _ _ _ _ _ _ _ _ _ _ _ _ _ _).mono ?_
    rintro e w4 ⟨rfl, hb4⟩
    obtain ⟨hc4, hf4⟩ := bcell hb4
    have hz4 := hb4.size
    (try simp at hz4)
    have hy4_0 : w.heap.size < w4.heap.size := by omega
    have hy4_1 : w3.heap.size < w4.heap.size := by omega
    go_wp2_with fail
    refine (TupleOf_any _ _ _ _ _ _ _ _ _ _ _ _ _ _ _).mono ?_
    rintro e w5 ⟨rfl, hb5⟩
    obtain ⟨hc5, hf5⟩ := bcell hb5
    have hz5 := hb5.size
    (try simp at hz5)
    have hy5_0 : w.heap.size < w5.heap.size := by omega
    have hy5_1 : w3.heap.size < w5.heap.size := by omega
    go_wp2_with fail
    refine (eqTuple_same _ _ _ _).mono ?_
    rintro e w6 ⟨rfl, hb6⟩
    obtain ⟨hc6, hf6⟩ := bcell hb6
    have hz6 := hb6.size
    (try simp at hz6)
    go_wp2_with fail
    go_ret
    exact ⟨rfl, (by repeat (first | with_reducible exact Below.refl _ _ | with_reducible assumption | with_reducible refine Below.drew ?_ | with_reducible refine Below.alloc ?_ (by first | exact Nat.le_refl _ | omega | (simp; done) | (simp; omega)) _ | with_reducible refine Below.setCell ?_ (by first | exact Nat.le_refl _ | omega | (simp; done) | (simp; omega)) _ | (with_reducible refine ext_trans ?_ (by with_reducible assumption))))⟩

set_option maxRecDepth 100000 in
theorem FnExactTupleOf_lifted (os : Os) (started : os.Started) (H : Type) (enc : TypeId × Value → H) :
    ReturnsInHanded {} Try.checked os 9 .any (Rows.fnExactTupleOfSpec.pre6 enc Try.prog Try.f9 Rows.fnExactTupleOfRow.domain false) (Rows.fnExactTupleOfSpec.post enc Try.prog Try.f9 false true false false) := by
  refine law_lifted (C := Try.checked) own_ started (by kernel_rfl) Try.func9 laid_ rfl ?_ ?_ rfl Try.underlying4
    (ChangeSpec.witness6 (enc := enc) (C := Try.checked) false ⟨#[], #[.int .i64 0, .agg #[.int .i64 0, .int .i64 0, .int .i64 0, .int .i64 0, .int .i64 0, .int .i64 0, .int .i64 0, .int .i64 0, .bool false, .bool false, .int .i64 0, .int .i64 0, .string ⟨#[]⟩]], []⟩ 8 (by kernel_rfl) (by kernel_rfl) (by kernel_rfl) (by kernel_rfl)) ?_
  · intro ds h
    match ds, h with
    | [_, _], _ => rfl
  · intro t ht
    rw [Try.params9] at ht
    simp at ht
    rcases ht with rfl | rfl
    all_goals exact ⟨by kernel_rfl, of_decide_eq_true (by kernel_rfl)⟩
  · intro W base args ds p hval hA hlt
    have hval : ∀ (j : Nat) t v, Try.f9.params[j]? = some t → args[j]? = some v → Value.okWide Try.prog W .any base t v := hval
    have hA : DataW.TrodAll enc Try.prog W 0 (fun _ => true) true Try.f9.params.toList args.toList ds p := hA
    rw [Try.params9] at hA hval
    obtain ⟨v0, v1, d0, d1, p0, p1, rfl, rfl, rfl, h0, h1⟩ := trodAll_two hA
    obtain ⟨a, rfl, rfl, rfl, wa⟩ := open_int Try.underlying3 (hval 0 3 v0 rfl rfl) h0
    obtain ⟨b0, b1, b2, b3, b4, b5, b6, b7, b8, b9, b10, b11, b12, rfl, wb0, wb1, wb2, wb3, wb4, wb5, wb6, wb7, wb8, wb9, wb10⟩ := open_Segment (hval 1 39 v1 rfl rfl) h1
    exact FnExactTupleOf_walk a b0 b1 b2 b3 b4 b5 b6 b7 b8 b9 b10 b11 b12 (by assumption) W

theorem FnExactTupleOf_holds : Rows.FnExactTupleOfSaid :=
  OpenClaim.holds_of_wide 9 Try.f9 rfl rfl rfl rfl rfl rfl rfl ⟨rfl, rfl, rfl, rfl, rfl⟩ rfl rfl rfl rfl rfl (by kernel_rfl) Try.func9 (by kernel_rfl)
    (of_decide_eq_true (by kernel_rfl)) (by have hw := wrap_ (P := Try.prog) (fn := Try.f9) (by kernel_rfl); exact hw)
    (fun os started H enc _ => FnExactTupleOf_lifted os started H enc)
end Go.Proofs.Yteejcabknpdghaa
