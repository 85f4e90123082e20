/-
  The law FnLearned returns true for every input. No condition.
-/
import Derived.Test.YteejcabknpdghaaStampLaw
import Derived.Test.YteejcabknpdghaaDrawO
import Derived.Test.YteejcabknpdghaaOptOk
import Derived.Test.YteejcabknpdghaaMssIndex
import Derived.Deep.RegionHeld3
namespace Go.Proofs.Yteejcabknpdghaa
open Go.ChangeShapes Go.WideShapes Go.ChangeAt Go.RowKit

theorem mssOf_bd (i : Int) : 0 ≤ mssOf i ∧ mssOf i ≤ 1460 := by 
  unfold mssOf
  repeat' split
  all_goals exact ⟨by omega, by omega⟩
theorem region_keep {W wx w2 : World} (h : (∀ b o, b < W.heap.size → wx.cell? ⟨b, o, none⟩ = W.cell? ⟨b, o, none⟩) ∧ Below W.heap.size W wx) (hb : Below wx.heap.size wx w2) :
    (∀ b o, b < W.heap.size → w2.cell? ⟨b, o, none⟩ = W.cell? ⟨b, o, none⟩) ∧ Below W.heap.size W w2 := by
  obtain ⟨h1, h2⟩ := h
  exact ⟨fun b o hlt => (hb.cell (p := ⟨b, o, none⟩) (Nat.lt_of_lt_of_le hlt h2.size)).trans (h1 b o hlt), ext_trans h2 hb⟩
theorem region_start (W : World) : (∀ b o, b < W.heap.size → W.drew.cell? ⟨b, o, none⟩ = W.cell? ⟨b, o, none⟩) ∧ Below W.heap.size W W.drew := ⟨fun _ _ _ => rfl, (Below.refl _ _).drew⟩

set_option maxHeartbeats 2000000 in
theorem FnLearned_walk {A : Option Addr} {n c : Nat} (hn : n ≤ maxLen) (w : World) (hb : Byts w w.heap.size A n) :
    Calls Try.prog 17 #[.slice A n c] w fun e w' => e = .returned (.bool true) ∧ Below w.heap.size w w' := by
  have hlen := hn
  unfold maxLen at hlen
  by_cases hbig : (1048576 : Int) < n
  · go_enter Try.func17, Try.ntmps17
    go_wp2_with fail
    refine (big_any hn _).mono ?_
    rintro e w' ⟨rfl, rfl⟩
    go_wp2_with fail
    go_ret
    exact ⟨rfl, Below.refl _ _⟩
  · go_enter Try.func17, Try.ntmps17
    go_wp2_with fail
    refine (big_any hn _).mono ?_
    rintro e w' ⟨rfl, rfl⟩
    go_wp2_with fail
    refine (DrawAnswerOptions_any hn hb).mono ?_
    rintro e w1 ⟨a, b, cc, d, p, q, k, rfl, ha, hb', hp, hq, ⟨hk1, hk2⟩, hb1⟩
    have hz1 := hb1.size
    have hm := mssOf_bd (mssIdx a 8)
    obtain ⟨hm1, hm2⟩ := hm
    clear ha hb' hp hq
    by_cases hok : optB a b d p q = true
    · cases d
      · have e1 : ansV b cc false p k = .agg #[.int .i64 1460, .int .i64 (-1), .bool false, .bool false, .int .i64 0, .int .i64 0] := by simp [ansV, ansScale, ansSack, ansVal, ansEcho]
        have e2 : lrnV (mssIdx a 8) false 0 0 = .agg #[.int .i64 (mssOf (mssIdx a 8)), .int .i64 (-1), .bool false, .bool false, .int .i64 0, .int .i64 0] := rfl
        have k1 : optB 1460 (-1) false 0 0 = true := by simp [optB, wordB, inB]
        have k2 : optB (mssOf (mssIdx a 8)) (-1) false 0 0 = true := by simp [optB, wordB, inB]; omega
        clear hm1 hm2
        go_wp2_with fail
        refine (AnswerOptions_any _ _ _ _ _ _ _ _).mono ?_
        rintro e w2 ⟨rfl, hb2⟩
        obtain ⟨hc2, hf2⟩ := bcell hb2
        have hz2 := hb2.size
        (try simp at hz2)
        have hy2_0 : w1.heap.size < w2.heap.size := by omega
        go_wp2_with fail
        go_region_held3 (fun w' => (∀ b' o, b' < (w2.alloc (.cells #[.int .i64 1460, .int .i64 (-1), .bool false, .bool false, .int .i64 0, .int .i64 0] 42)).heap.size → w'.cell? ⟨b', o, none⟩ = (w2.alloc (.cells #[.int .i64 1460, .int .i64 (-1), .bool false, .bool false, .int .i64 0, .int .i64 0] 42)).cell? ⟨b', o, none⟩) ∧ Below (w2.alloc (.cells #[.int .i64 1460, .int .i64 (-1), .bool false, .bool false, .int .i64 0, .int .i64 0] 42)).heap.size (w2.alloc (.cells #[.int .i64 1460, .int .i64 (-1), .bool false, .bool false, .int .i64 0, .int .i64 0] 42)) w')
          (first | exact region_keep (by assumption) hbn | exact region_start _)
          ((go_at_call 42; ((with_reducible refine (sAnswerOptions_any _ _ _ _ _ _ _ hk1 hk2 _).mono ?_); rintro e w3 ⟨rfl, hbn⟩)))
        obtain ⟨hc3, hb3⟩ := (by assumption : _ ∧ Below (w2.alloc _).heap.size (w2.alloc _) w3)
        have hz3 := hb3.size
        simp at hz3
        have hy3_0 : w1.heap.size < w3.heap.size := by omega
        have hy3_1 : w2.heap.size < w3.heap.size := by omega
        go_wp2_with fail
        refine (sOptionsOk_any _ _ _ _ _ _ _).mono ?_
        rintro e w4 ⟨rfl, hb4⟩
        obtain ⟨hc4, hf4⟩ := bcell hb4
        have hz4 := hb4.size
        (try simp at hz4)
        have hy4_0 : w1.heap.size < w4.heap.size := by omega
        have hy4_1 : w2.heap.size < w4.heap.size := by omega
        go_wp2_with fail
        refine (sMssIndex_any _ _).mono ?_
        rintro e w5 ⟨rfl, hb5⟩
        obtain ⟨hc5, hf5⟩ := bcell hb5
        have hz5 := hb5.size
        (try simp at hz5)
        have hy5_0 : w1.heap.size < w5.heap.size := by omega
        have hy5_1 : w2.heap.size < w5.heap.size := by omega
        go_wp2_with fail
        refine (LearnedOptions_any _ _ _ _ _ _ _ _).mono ?_
        rintro e w6 ⟨rfl, hb6⟩
        obtain ⟨hc6, hf6⟩ := bcell hb6
        have hz6 := hb6.size
        (try simp at hz6)
        have hy6_0 : w1.heap.size < w6.heap.size := by omega
        have hy6_1 : w2.heap.size < w6.heap.size := by omega
        have hy6_2 : w5.heap.size < w6.heap.size := by omega
        go_wp2_with fail
        go_region_held3 (fun w' => (∀ b' o, b' < (w6.alloc (.cells #[.int .i64 (mssOf (mssIdx a 8)), .int .i64 (-1), .bool false, .bool false, .int .i64 0, .int .i64 0] 42)).heap.size → w'.cell? ⟨b', o, none⟩ = (w6.alloc (.cells #[.int .i64 (mssOf (mssIdx a 8)), .int .i64 (-1), .bool false, .bool false, .int .i64 0, .int .i64 0] 42)).cell? ⟨b', o, none⟩) ∧ Below (w6.alloc (.cells #[.int .i64 (mssOf (mssIdx a 8)), .int .i64 (-1), .bool false, .bool false, .int .i64 0, .int .i64 0] 42)).heap.size (w6.alloc (.cells #[.int .i64 (mssOf (mssIdx a 8)), .int .i64 (-1), .bool false, .bool false, .int .i64 0, .int .i64 0] 42)) w')
          (first | exact region_keep (by assumption) hbn | exact region_start _)
          (first | (go_at_call 46; ((with_reducible refine (sLearnedOptions_any _ _ _ _ _ _ _ _).mono ?_); rintro e w7 ⟨rfl, hbn⟩)) | (go_at_call 18; ((with_reducible refine (sMssOf_any _ _).mono ?_); rintro e w7 ⟨rfl, hbn⟩)) | (go_at_call 54; ((with_reducible refine (OptionsOk_any _ _ _ _ _ _ _).mono ?_); rintro e w7 ⟨rfl, hbn⟩)))
        obtain ⟨hc7, hb7⟩ := (by assumption : _ ∧ Below (w6.alloc _).heap.size (w6.alloc _) w7)
        have hz7 := hb7.size
        simp at hz7
        have hy7_0 : w1.heap.size < w7.heap.size := by omega
        have hy7_1 : w2.heap.size < w7.heap.size := by omega
        have hy7_2 : w5.heap.size < w7.heap.size := by omega
        have hy7_3 : w6.heap.size < w7.heap.size := by omega
        go_wp2_with fail
        go_ret
        exact ⟨rfl, (by repeat (first | with_reducible exact Below.refl _ _ | with_reducible assumption | with_reducible refine Below.drew ?_ | with_reducible refine Below.alloc ?_ (by first | exact Nat.le_refl _ | omega | (simp; done) | (simp; omega)) _ | with_reducible refine Below.setCell ?_ (by first | exact Nat.le_refl _ | omega | (simp; done) | (simp; omega)) _ | (with_reducible refine ext_trans ?_ (by with_reducible assumption))))⟩
      · obtain ⟨V, hV⟩ : ∃ V, stampOf k b cc = V := ⟨_, rfl⟩
        obtain ⟨X, hX⟩ : ∃ X, ansScale b true = X := ⟨_, rfl⟩
        have hbb : -1 ≤ b ∧ b ≤ 14 := by simp [optB, inB] at hok; omega
        have hpw : wordB p 32 = true := by simp [optB] at hok; exact hok.2.2.1
        have hXb : -1 ≤ X ∧ X ≤ 0 := by rw [← hX]; unfold ansScale; split <;> omega
        have e1 : ansV b cc true p k = .agg #[.int .i64 1460, .int .i64 X, .bool cc, .bool true, .int .i64 V, .int .i64 p] := by rw [← hV, ← hX]; simp [ansV, ansSack, ansVal, ansEcho]
        have o1 : stOk V = true := by rw [← hV]; exact stamp_ok k b cc
        have o2 : stSack V = cc := by rw [← hV]; exact stamp_sack k b cc
        have o3 : stScale V = b := by
          rw [← hV, stamp_scale]
          split
          · rfl
          · rename_i h
            have := inB_not.1 (by simpa using h)
            omega
        have hVw : wordB V 32 = true := by rw [← hV]; exact wordB_32 (stampOf_word k b cc).1 (stampOf_word k b cc).2
        have e2 : lrnV (mssIdx a 8) true 77 V = .agg #[.int .i64 (mssOf (mssIdx a 8)), .int .i64 b, .bool cc, .bool true, .int .i64 77, .int .i64 0] := by simp [lrnV, lrnOk, o1, o2, o3]
        have k1 : optB 1460 X true V p = true := by
          simp only [optB, hVw, hpw]
          simp [wordB, inB]
          omega
        have k2 : optB (mssOf (mssIdx a 8)) b true 77 0 = true := by simp [optB, wordB, inB]; omega
        clear hm1 hm2 hV hX hbb hpw hXb o1 o2 o3 hVw
        go_wp2_with fail
        refine (AnswerOptions_any _ _ _ _ _ _ _ _).mono ?_
        rintro e w2 ⟨rfl, hb2⟩
        obtain ⟨hc2, hf2⟩ := bcell hb2
        have hz2 := hb2.size
        (try simp at hz2)
        have hy2_0 : w1.heap.size < w2.heap.size := by omega
        go_wp2_with fail
        go_region_held3 (fun w' => (∀ b' o, b' < (w2.alloc (.cells #[.int .i64 1460, .int .i64 X, .bool cc, .bool true, .int .i64 V, .int .i64 p] 42)).heap.size → w'.cell? ⟨b', o, none⟩ = (w2.alloc (.cells #[.int .i64 1460, .int .i64 X, .bool cc, .bool true, .int .i64 V, .int .i64 p] 42)).cell? ⟨b', o, none⟩) ∧ Below (w2.alloc (.cells #[.int .i64 1460, .int .i64 X, .bool cc, .bool true, .int .i64 V, .int .i64 p] 42)).heap.size (w2.alloc (.cells #[.int .i64 1460, .int .i64 X, .bool cc, .bool true, .int .i64 V, .int .i64 p] 42)) w')
          (first | exact region_keep (by assumption) hbn | exact region_start _)
          ((go_at_call 42; ((with_reducible refine (sAnswerOptions_any _ _ _ _ _ _ _ hk1 hk2 _).mono ?_); rintro e w3 ⟨rfl, hbn⟩)))
        obtain ⟨hc3, hb3⟩ := (by assumption : _ ∧ Below (w2.alloc _).heap.size (w2.alloc _) w3)
        have hz3 := hb3.size
        simp at hz3
        have hy3_0 : w1.heap.size < w3.heap.size := by omega
        have hy3_1 : w2.heap.size < w3.heap.size := by omega
        go_wp2_with fail
        refine (sOptionsOk_any _ _ _ _ _ _ _).mono ?_
        rintro e w4 ⟨rfl, hb4⟩
        obtain ⟨hc4, hf4⟩ := bcell hb4
        have hz4 := hb4.size
        (try simp at hz4)
        have hy4_0 : w1.heap.size < w4.heap.size := by omega
        have hy4_1 : w2.heap.size < w4.heap.size := by omega
        go_wp2_with fail
        refine (sMssIndex_any _ _).mono ?_
        rintro e w5 ⟨rfl, hb5⟩
        obtain ⟨hc5, hf5⟩ := bcell hb5
        have hz5 := hb5.size
        (try simp at hz5)
        have hy5_0 : w1.heap.size < w5.heap.size := by omega
        have hy5_1 : w2.heap.size < w5.heap.size := by omega
        go_wp2_with fail
        refine (LearnedOptions_any _ _ _ _ _ _ _ _).mono ?_
        rintro e w6 ⟨rfl, hb6⟩
        obtain ⟨hc6, hf6⟩ := bcell hb6
        have hz6 := hb6.size
        (try simp at hz6)
        have hy6_0 : w1.heap.size < w6.heap.size := by omega
        have hy6_1 : w2.heap.size < w6.heap.size := by omega
        have hy6_2 : w5.heap.size < w6.heap.size := by omega
        go_wp2_with fail
        go_region_held3 (fun w' => (∀ b' o, b' < (w6.alloc (.cells #[.int .i64 (mssOf (mssIdx a 8)), .int .i64 b, .bool cc, .bool true, .int .i64 77, .int .i64 0] 42)).heap.size → w'.cell? ⟨b', o, none⟩ = (w6.alloc (.cells #[.int .i64 (mssOf (mssIdx a 8)), .int .i64 b, .bool cc, .bool true, .int .i64 77, .int .i64 0] 42)).cell? ⟨b', o, none⟩) ∧ Below (w6.alloc (.cells #[.int .i64 (mssOf (mssIdx a 8)), .int .i64 b, .bool cc, .bool true, .int .i64 77, .int .i64 0] 42)).heap.size (w6.alloc (.cells #[.int .i64 (mssOf (mssIdx a 8)), .int .i64 b, .bool cc, .bool true, .int .i64 77, .int .i64 0] 42)) w')
          (first | exact region_keep (by assumption) hbn | exact region_start _)
          (first | (go_at_call 46; ((with_reducible refine (sLearnedOptions_any _ _ _ _ _ _ _ _).mono ?_); rintro e w7 ⟨rfl, hbn⟩)) | (go_at_call 18; ((with_reducible refine (sMssOf_any _ _).mono ?_); rintro e w7 ⟨rfl, hbn⟩)) | (go_at_call 54; ((with_reducible refine (OptionsOk_any _ _ _ _ _ _ _).mono ?_); rintro e w7 ⟨rfl, hbn⟩)))
        obtain ⟨hc7, hb7⟩ := (by assumption : _ ∧ Below (w6.alloc _).heap.size (w6.alloc _) w7)
        have hz7 := hb7.size
        simp at hz7
        have hy7_0 : w1.heap.size < w7.heap.size := by omega
        have hy7_1 : w2.heap.size < w7.heap.size := by omega
        have hy7_2 : w5.heap.size < w7.heap.size := by omega
        have hy7_3 : w6.heap.size < w7.heap.size := by omega
        go_wp2_with fail
        go_ret
        exact ⟨rfl, (by repeat (first | with_reducible exact Below.refl _ _ | with_reducible assumption | with_reducible refine Below.drew ?_ | with_reducible refine Below.alloc ?_ (by first | exact Nat.le_refl _ | omega | (simp; done) | (simp; omega)) _ | with_reducible refine Below.setCell ?_ (by first | exact Nat.le_refl _ | omega | (simp; done) | (simp; omega)) _ | (with_reducible refine ext_trans ?_ (by with_reducible assumption))))⟩
    · have hok : optB a b d p q = false := by simpa using hok
      have e1 : ansV b cc d p k = .agg #[.int .i64 1460, .int .i64 (ansScale b d), .bool (ansSack cc d), .bool d, .int .i64 (ansVal b cc d k), .int .i64 (ansEcho d p)] := rfl
      clear hm1 hm2
      go_wp2_with fail
      refine (AnswerOptions_any _ _ _ _ _ _ _ _).mono ?_
      rintro e w2 ⟨rfl, hb2⟩
      obtain ⟨hc2, hf2⟩ := bcell hb2
      have hz2 := hb2.size
      (try simp at hz2)
      have hy2_0 : w1.heap.size < w2.heap.size := by omega
      go_wp2_with fail
      go_region_held3 (fun w' => (∀ b' o, b' < (w2.alloc (.cells #[.int .i64 1460, .int .i64 (ansScale b d), .bool (ansSack cc d), .bool d, .int .i64 (ansVal b cc d k), .int .i64 (ansEcho d p)] 42)).heap.size → w'.cell? ⟨b', o, none⟩ = (w2.alloc (.cells #[.int .i64 1460, .int .i64 (ansScale b d), .bool (ansSack cc d), .bool d, .int .i64 (ansVal b cc d k), .int .i64 (ansEcho d p)] 42)).cell? ⟨b', o, none⟩) ∧ Below (w2.alloc (.cells #[.int .i64 1460, .int .i64 (ansScale b d), .bool (ansSack cc d), .bool d, .int .i64 (ansVal b cc d k), .int .i64 (ansEcho d p)] 42)).heap.size (w2.alloc (.cells #[.int .i64 1460, .int .i64 (ansScale b d), .bool (ansSack cc d), .bool d, .int .i64 (ansVal b cc d k), .int .i64 (ansEcho d p)] 42)) w')
        (first | exact region_keep (by assumption) hbn | exact region_start _)
        ((go_at_call 42; ((with_reducible refine (sAnswerOptions_any _ _ _ _ _ _ _ hk1 hk2 _).mono ?_); rintro e w3 ⟨rfl, hbn⟩)))
      obtain ⟨hc3, hb3⟩ := (by assumption : _ ∧ Below (w2.alloc _).heap.size (w2.alloc _) w3)
      have hz3 := hb3.size
      simp at hz3
      have hy3_0 : w1.heap.size < w3.heap.size := by omega
      have hy3_1 : w2.heap.size < w3.heap.size := by omega
      go_wp2_with fail
      refine (sOptionsOk_any _ _ _ _ _ _ _).mono ?_
      rintro e w4 ⟨rfl, hb4⟩
      obtain ⟨hc4, hf4⟩ := bcell hb4
      have hz4 := hb4.size
      (try simp at hz4)
      go_wp2_with fail
      go_ret
      exact ⟨rfl, (by repeat (first | with_reducible exact Below.refl _ _ | with_reducible assumption | with_reducible refine Below.drew ?_ | with_reducible refine Below.alloc ?_ (by first | exact Nat.le_refl _ | omega | (simp; done) | (simp; omega)) _ | with_reducible refine Below.setCell ?_ (by first | exact Nat.le_refl _ | omega | (simp; done) | (simp; omega)) _ | (with_reducible refine ext_trans ?_ (by with_reducible assumption))))⟩

set_option maxRecDepth 100000 in
theorem FnLearned_lifted (os : Os) (started : os.Started) (H : Type) (enc : TypeId × Value → H) :
    ReturnsInHanded {} Try.checked os 17 .any (Rows.fnLearnedSpec.pre6 enc Try.prog Try.f17 Rows.fnLearnedRow.domain false) (Rows.fnLearnedSpec.post enc Try.prog Try.f17 false true false false) := by
  refine law_lifted (C := Try.checked) own_ started (by kernel_rfl) Try.func17 laid_ rfl ?_ ?_ rfl Try.underlying4
    (ChangeSpec.witness6 (enc := enc) (C := Try.checked) false ⟨#[], #[.slice none 0 0], []⟩ 8 (by kernel_rfl) (by kernel_rfl) (by kernel_rfl) (by kernel_rfl)) ?_
  · intro ds h
    match ds, h with
    | [_], _ => rfl
  · intro t ht
    rw [Try.params17] at ht
    simp at ht
    subst ht
    exact ⟨by kernel_rfl, of_decide_eq_true (by kernel_rfl)⟩
  · intro W base args ds p hval hA hlt
    have hval : ∀ (j : Nat) t v, Try.f17.params[j]? = some t → args[j]? = some v → Value.okWide Try.prog W .any base t v := hval
    have hA : DataW.TrodAll enc Try.prog W 0 (fun _ => true) true Try.f17.params.toList args.toList ds p := hA
    rw [Try.params17] at hA hval
    obtain ⟨v0, d0, rfl, rfl, h0⟩ := trodAll_one hA
    obtain ⟨Aa, na, ca, rfl, wna, wba, wca⟩ := open_bytes (hval 0 50 v0 rfl rfl) h0
    exact FnLearned_walk wna W wba

theorem FnLearned_holds : Rows.FnLearnedSaid :=
  OpenClaim.holds_of_wide 17 Try.f17 rfl rfl rfl rfl rfl rfl rfl ⟨rfl, rfl, rfl, rfl, rfl⟩ rfl rfl rfl rfl rfl (by kernel_rfl) Try.func17 (by kernel_rfl)
    (of_decide_eq_true (by kernel_rfl)) (by have hw := wrap_ (P := Try.prog) (fn := Try.f17) (by kernel_rfl); exact hw)
    (fun os started H enc _ => FnLearned_lifted os started H enc)
end Go.Proofs.Yteejcabknpdghaa
