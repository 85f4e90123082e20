/-
  The law FnStamp returns true for every input. No condition.
-/
import Derived.Test.YteejcabknpdghaaDrawA
import Derived.Test.YteejcabknpdghaaStamp
namespace Go.Proofs.Yteejcabknpdghaa
open Go.ChangeShapes Go.WideShapes Go.ChangeAt Go.RowKit

theorem stampOf_word (c s : Int) (b : Bool) : 0 ≤ stampOf c s b ∧ stampOf c s b ≤ 4294967295 := by unfold stampOf; omega
theorem wordB_32 {v : Int} (h1 : 0 ≤ v) (h2 : v ≤ 4294967295) : wordB v 32 = true := by simp [wordB, inB]; omega
theorem stamp_ok (c s : Int) (b : Bool) : stOk (stampOf c s b) = true := by
  obtain ⟨h1, h2⟩ := stampOf_word c s b
  simp only [stOk, wordB_32 h1 h2, Bool.true_and, decide_eq_true_eq]
  unfold stampOf
  by_cases h : inB s 0 14 = true
  · have := inB_iff.1 h
    cases b <;> simp [h] <;> omega
  · cases b <;> simp [h] <;> omega
theorem stamp_sack (c s : Int) (b : Bool) : stSack (stampOf c s b) = b := by
  simp only [stSack, stamp_ok, Bool.true_and]
  unfold stampOf
  by_cases h : inB s 0 14 = true
  · have := inB_iff.1 h
    cases b <;> simp [h] <;> omega
  · cases b <;> simp [h] <;> omega
theorem stamp_scale (c s : Int) (b : Bool) : stScale (stampOf c s b) = if inB s 0 14 then s else -1 := by
  simp only [stScale, stamp_ok, if_true]
  unfold stampOf
  by_cases h : inB s 0 14 = true
  · have := inB_iff.1 h
    rw [if_pos h, if_pos h]
    cases b <;> (simp; split <;> omega)
  · rw [if_neg h, if_neg h]
    cases b <;> (simp; omega)

theorem FnStamp_walk {A : Option Addr} {n c : Nat} (hn : n ≤ maxLen) (w : World) (hb : Byts w w.heap.size A n) :
    Calls Try.prog 15 #[.slice A n c] w fun e w' => e = .returned (.bool true) ∧ Below w.heap.size w w' := by
  have hlen := hn
  unfold maxLen at hlen
  by_cases hbig : (1048576 : Int) < n
  · go_enter Try.func15, Try.ntmps15
    go_wp2_with fail
    refine (big_any hn _).mono ?_
    rintro e w' ⟨rfl, rfl⟩
    go_wp2_with fail
    go_ret
    exact ⟨rfl, Below.refl _ _⟩
  · go_enter Try.func15, Try.ntmps15
    go_wp2_with fail
    refine (big_any hn _).mono ?_
    rintro e w' ⟨rfl, rfl⟩
    go_wp2_with fail
    refine (DrawStampOf_any hn hb).mono ?_
    rintro e w1 ⟨k, s, b, rfl, ⟨hx0, hx1⟩, ⟨hs0, hs1⟩, hb1⟩
    have hn' := hn
    have hb' := Byts.below hb hb1
    have HO := Lib.hid (stamp_ok k s b)
    have HC := Lib.hid (stamp_sack k s b)
    have HS := Lib.hid (stamp_scale k s b)
    have HW := Lib.hid (wordB_32 (stampOf_word k s b).1 (stampOf_word k s b).2)
    have SI := StampIn_any (stampOf k s b)
    rw [HO.out, HC.out, HS.out] at SI
    by_cases hr : 0 ≤ s ∧ s ≤ 14
    · obtain ⟨hr1, hr2⟩ := hr
      rw [if_pos (inB_iff.2 ⟨hr1, hr2⟩)] at SI
      have SI' := Lib.hid SI
      clear SI
      go_wp2_with fail
      refine (StampOf_any k s b _).mono ?_
      rintro e w' ⟨rfl, rfl⟩
      go_wp2_with fail
      refine (sStampOf_any k s b hx0 hx1 _).mono ?_
      rintro e w' ⟨rfl, rfl⟩
      go_wp2_with fail
      refine (sWordOk_any _ _ _).mono ?_
      rw [HW.out]
      rintro e w' ⟨rfl, rfl⟩
      go_wp2_with fail
      refine (SI'.out _).mono ?_
      rintro e w' ⟨rfl, rfl⟩
      go_wp2_with fail
      refine (DrawStampIn_any hn' hb').mono ?_
      rintro e w2 ⟨y, rfl, ⟨hy0, hy1⟩, hb2⟩
      go_wp2_with fail
      refine (StampIn_any y _).mono ?_
      rintro e w' ⟨rfl, rfl⟩
      go_wp2_with fail
      refine (sStampIn_any y _).mono ?_
      rintro e w' ⟨rfl, rfl⟩
      go_wp2_with fail
      go_ret
      exact ⟨rfl, ext_trans hb1 hb2⟩
    · rw [if_neg (fun h => hr (inB_iff.1 h))] at SI
      have SI' := Lib.hid SI
      clear SI
      rcases (by omega : s < 0 ∨ 14 < s) with hr1 | hr1
      all_goals
        go_wp2_with fail
        refine (StampOf_any k s b _).mono ?_
        rintro e w' ⟨rfl, rfl⟩
        go_wp2_with fail
        refine (sStampOf_any k s b hx0 hx1 _).mono ?_
        rintro e w' ⟨rfl, rfl⟩
        go_wp2_with fail
        refine (sWordOk_any _ _ _).mono ?_
        rw [HW.out]
        rintro e w' ⟨rfl, rfl⟩
        go_wp2_with fail
        refine (SI'.out _).mono ?_
        rintro e w' ⟨rfl, rfl⟩
        go_wp2_with fail
        refine (DrawStampIn_any hn' hb').mono ?_
        rintro e w2 ⟨y, rfl, ⟨hy0, hy1⟩, hb2⟩
        go_wp2_with fail
        refine (StampIn_any y _).mono ?_
        rintro e w' ⟨rfl, rfl⟩
        go_wp2_with fail
        refine (sStampIn_any y _).mono ?_
        rintro e w' ⟨rfl, rfl⟩
        go_wp2_with fail
        go_ret
        exact ⟨rfl, ext_trans hb1 hb2⟩

set_option maxRecDepth 100000 in
theorem FnStamp_lifted (os : Os) (started : os.Started) (H : Type) (enc : TypeId × Value → H) :
    ReturnsInHanded {} Try.checked os 15 .any (Rows.fnStampSpec.pre6 enc Try.prog Try.f15 Rows.fnStampRow.domain false) (Rows.fnStampSpec.post enc Try.prog Try.f15 false true false false) := by
  refine law_lifted (C := Try.checked) own_ started (by kernel_rfl) Try.func15 laid_ rfl ?_ ?_ rfl Try.underlying4
    (ChangeSpec.witness6 (enc := enc) (C := Try.checked) false ⟨#[], #[.slice none 0 0], []⟩ 8 (by kernel_rfl) (by kernel_rfl) (by kernel_rfl) (by kernel_rfl)) ?_
  · intro ds h
    match ds, h with
    | [_], _ => rfl
  · intro t ht
    rw [Try.params15] at ht
    simp at ht
    subst ht
    exact ⟨by kernel_rfl, of_decide_eq_true (by kernel_rfl)⟩
  · intro W base args ds p hval hA hlt
    have hval : ∀ (j : Nat) t v, Try.f15.params[j]? = some t → args[j]? = some v → Value.okWide Try.prog W .any base t v := hval
    have hA : DataW.TrodAll enc Try.prog W 0 (fun _ => true) true Try.f15.params.toList args.toList ds p := hA
    rw [Try.params15] at hA hval
    obtain ⟨v0, d0, rfl, rfl, h0⟩ := trodAll_one hA
    obtain ⟨Aa, na, ca, rfl, wna, wba⟩ := open_bytes (hval 0 50 v0 rfl rfl) h0
    exact FnStamp_walk wna W wba

theorem FnStamp_holds : Rows.FnStampSaid :=
  OpenClaim.holds_of_wide 15 Try.f15 rfl rfl rfl rfl rfl rfl rfl ⟨rfl, rfl, rfl, rfl, rfl⟩ rfl rfl rfl rfl rfl (by kernel_rfl) Try.func15 (by kernel_rfl)
    (of_decide_eq_true (by kernel_rfl)) (by have hw := wrap_ (P := Try.prog) (fn := Try.f15) (by kernel_rfl); exact hw)
    (fun os started H enc _ => FnStamp_lifted os started H enc)
end Go.Proofs.Yteejcabknpdghaa
