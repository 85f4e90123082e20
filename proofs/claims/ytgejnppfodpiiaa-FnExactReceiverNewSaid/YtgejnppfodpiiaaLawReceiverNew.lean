/-
  The law FnExactReceiverNew returns true for every input. No condition.
-/
import Derived.Test.YtgejnppfodpiiaaRcv
namespace Go.Proofs.Ytgejnppfodpiiaa
set_option maxRecDepth 100000
open Go.ChangeShapes Go.WideShapes Go.ChangeAt Go.RowKit

set_option maxHeartbeats 2000000 in
theorem FnExactReceiverNew_walk (n : Int) (h1 : -9223372036854775808 ≤ n) (h2 : n ≤ 9223372036854775807) (w : World) :
    Calls Try.prog 3 #[.int .i64 n] w fun e w' => e = .returned (.bool true) ∧ Below w.heap.size w w' := by
  have hl : (newR n).hs.length ≤ maxLen := Nat.zero_le _
  have HL := Lib.hid hl
  clear hl
  go_enter Try.func3, Try.ntmps3
  go_wp2_with fail
  refine (sReceiverNew_any n h1 h2 _).mono ?_
  rintro e w1 ⟨rfl, hb1⟩
  obtain ⟨hc1, hf1⟩ := bcell hb1
  have hz1 := hb1.size
  (try simp at hz1)
  go_wp2_with fail
  refine (ReceiverNew_any n _).mono ?_
  rintro e w2 ⟨rfl, hb2⟩
  obtain ⟨hc2, hf2⟩ := bcell hb2
  have hz2 := hb2.size
  (try simp at hz2)
  have hy2_0 : w1.heap.size < w2.heap.size := by omega
  go_wp2_with fail
  refine (eqReceiver_same (newR n) (.slice none 0 0) (.slice none 0 0) HL.out _ (rd_nil _ _) (rd_nil _ _)).mono ?_
  rintro e w3 ⟨rfl, hb3⟩
  obtain ⟨hc3, hf3⟩ := bcell hb3
  have hz3 := hb3.size
  (try simp at hz3)
  have hy3_0 : w1.heap.size < w3.heap.size := by omega
  have hy3_1 : w2.heap.size < w3.heap.size := by omega
  go_wp2_with fail
  refine (markReceiver_any (newR n) (.slice none 0 0) (Nat.zero_le _) 1 (by omega) (by omega) 0 _ (own_nil _ _)).mono ?_
  rintro e w4 ⟨rfl, -, hg4⟩
  have hb4 := below_none hg4
  obtain ⟨hc4, hf4⟩ := bcell hb4
  have hz4 := hb4.size
  clear hg4
  have hy4_0 : w1.heap.size < w4.heap.size := by omega
  have hy4_1 : w2.heap.size < w4.heap.size := by omega
  go_wp2_with fail
  refine (heldReceiver_any (newR n) (.slice none 0 0) 0 (by omega) 1 (by omega) (by omega) _ (rd_nil _ _)).mono ?_
  rintro e w5 ⟨rfl, hb5⟩
  obtain ⟨hc5, hf5⟩ := bcell hb5
  have hz5 := hb5.size
  (try simp at hz5)
  have hy5_0 : w1.heap.size < w5.heap.size := by omega
  have hy5_1 : w2.heap.size < w5.heap.size := by omega
  go_wp2_with fail
  refine (ReceiverNew_any n _).mono ?_
  rintro e w6 ⟨rfl, hb6⟩
  obtain ⟨hc6, hf6⟩ := bcell hb6
  have hz6 := hb6.size
  (try simp at hz6)
  have hy6_0 : w1.heap.size < w6.heap.size := by omega
  have hy6_1 : w2.heap.size < w6.heap.size := by omega
  go_wp2_with fail
  refine (eqReceiver_same (newR n) (.slice none 0 0) (.slice none 0 0) HL.out _ (rd_nil _ _) (rd_nil _ _)).mono ?_
  rintro e w7 ⟨rfl, hb7⟩
  obtain ⟨hc7, hf7⟩ := bcell hb7
  have hz7 := hb7.size
  (try simp at hz7)
  have hy7_0 : w1.heap.size < w7.heap.size := by omega
  have hy7_1 : w2.heap.size < w7.heap.size := by omega
  go_wp2_with fail
  refine (heldReceiver_any (newR n) (.slice none 0 0) 0 (by omega) 1 (by omega) (by omega) _ (rd_nil _ _)).mono ?_
  rintro e w8 ⟨rfl, hb8⟩
  obtain ⟨hc8, hf8⟩ := bcell hb8
  have hz8 := hb8.size
  (try simp at hz8)
  have hy8_0 : w1.heap.size < w8.heap.size := by omega
  have hy8_1 : w2.heap.size < w8.heap.size := by omega
  go_wp2_with fail
  go_ret
  exact ⟨rfl, (by repeat (first | with_reducible exact Below.refl _ _ | with_reducible assumption | with_reducible refine Below.drew ?_ | with_reducible refine Below.alloc ?_ (by first | exact Nat.le_refl _ | omega | (simp; done) | (simp; omega)) _ | with_reducible refine Below.setCell ?_ (by first | exact Nat.le_refl _ | omega | (simp; done) | (simp; omega)) _ | (with_reducible refine ext_trans ?_ (by with_reducible assumption))))⟩

set_option maxRecDepth 100000 in
theorem FnExactReceiverNew_lifted (os : Os) (started : os.Started) (H : Type) (enc : TypeId × Value → H) :
    ReturnsInHanded {} Try.checked os 3 .any (Rows.fnExactReceiverNewSpec.pre6 enc Try.prog Try.f3 Rows.fnExactReceiverNewRow.domain false) (Rows.fnExactReceiverNewSpec.post enc Try.prog Try.f3 false true false false) := by
  refine law_lifted (C := Try.checked) own_ started (by kernel_rfl) Try.func3 laid_ rfl ?_ ?_ rfl Try.underlying4
    (ChangeSpec.witness6 (enc := enc) (C := Try.checked) false ⟨#[], #[.int .i64 0], []⟩ 8 (by kernel_rfl) (by kernel_rfl) (by kernel_rfl) (by kernel_rfl)) ?_
  · intro ds h
    match ds, h with
    | [_], _ => rfl
  · intro t ht
    rw [Try.params3] at ht
    simp at ht
    subst ht
    exact ⟨by kernel_rfl, of_decide_eq_true (by kernel_rfl)⟩
  · intro W base args ds p hval hA hlt
    have hval : ∀ (j : Nat) t v, Try.f3.params[j]? = some t → args[j]? = some v → Value.okWide Try.prog W .any base t v := hval
    have hA : DataW.TrodAll enc Try.prog W 0 (fun _ => true) true Try.f3.params.toList args.toList ds p := hA
    rw [Try.params3] at hA hval
    obtain ⟨v0, d0, rfl, rfl, h0⟩ := trodAll_one hA
    obtain ⟨a, rfl, rfl, rfl, wa⟩ := open_int Try.underlying3 (hval 0 3 v0 rfl rfl) h0
    exact (FnExactReceiverNew_walk a (bd_i64 wa).1 (bd_i64 wa).2 W)

theorem FnExactReceiverNew_holds : Rows.FnExactReceiverNewSaid :=
  OpenClaim.holds_of_wide 3 Try.f3 rfl rfl rfl rfl rfl rfl rfl ⟨rfl, rfl, rfl, rfl, rfl⟩ rfl rfl rfl rfl rfl (by kernel_rfl) Try.func3 (by kernel_rfl)
    (of_decide_eq_true (by kernel_rfl)) (by have hw := wrap_ (P := Try.prog) (fn := Try.f3) (by kernel_rfl); exact hw)
    (fun os started H enc _ => FnExactReceiverNew_lifted os started H enc)
end Go.Proofs.Ytgejnppfodpiiaa
