/-
  The law FnMss returns true for every input. No condition.
-/
import Derived.Test.YteejcabknpdghaaDrawA
import Derived.Test.YteejcabknpdghaaMssIndex
namespace Go.Proofs.Yteejcabknpdghaa
open Go.ChangeShapes Go.WideShapes Go.ChangeAt Go.RowKit

theorem mss_spec (m : Int) : (0 ≤ mssIdx m 8 ∧ mssIdx m 8 ≤ 7) ∧ (mssOf (mssIdx m 8) ≤ m ∨ mssIdx m 8 = 0) ∧ (mssIdx m 8 = 7 ∨ m < mssOf (mssIdx m 8 + 1)) := by
  have e0 : mssOf ((0 : Nat) : Int) = 64 := rfl
  have e1 : mssOf ((1 : Nat) : Int) = 256 := rfl
  have e2 : mssOf ((2 : Nat) : Int) = 536 := rfl
  have e3 : mssOf ((3 : Nat) : Int) = 1024 := rfl
  have e4 : mssOf ((4 : Nat) : Int) = 1300 := rfl
  have e5 : mssOf ((5 : Nat) : Int) = 1400 := rfl
  have e6 : mssOf ((6 : Nat) : Int) = 1440 := rfl
  have e7 : mssOf ((7 : Nat) : Int) = 1460 := rfl
  simp only [mssIdx, e0, e1, e2, e3, e4, e5, e6, e7]
  repeat' split
  all_goals refine ⟨by omega, ?_, ?_⟩
  all_goals first | (left; omega) | (right; omega) | (left; show mssOf _ ≤ m; simp [mssOf]; omega) | (right; show m < mssOf _; simp [mssOf]; omega)

theorem FnMss_walk {A : Option Addr} {n c : Nat} (hn : n ≤ maxLen) (w : World) (hb : Byts w w.heap.size A n) :
    Calls Try.prog 11 #[.slice A n c] w fun e w' => e = .returned (.bool true) ∧ Below w.heap.size w w' := by
  have hlen := hn
  unfold maxLen at hlen
  by_cases hbig : (1048576 : Int) < n
  · go_enter Try.func11, Try.ntmps11
    go_wp2_with fail
    refine (big_any hn _).mono ?_
    rintro e w' ⟨rfl, rfl⟩
    go_wp2_with fail
    go_ret
    exact ⟨rfl, Below.refl _ _⟩
  · go_enter Try.func11, Try.ntmps11
    go_wp2_with fail
    refine (big_any hn _).mono ?_
    rintro e w' ⟨rfl, rfl⟩
    go_wp2_with fail
    refine (DrawMssIndex_any hn hb).mono ?_
    rintro e w1 ⟨x, rfl, ⟨hx0, hx1⟩, hb1⟩
    have hz1 := hb1.size
    obtain ⟨⟨s1, s2⟩, s3, s4⟩ := mss_spec x
    have MI := fun w => MssIndex_any x w
    have SI := fun w => sMssIndex_any x w
    generalize mssIdx x 8 = j at s1 s2 s3 s4 MI SI
    have MI' := Lib.hid MI
    have SI' := Lib.hid SI
    clear MI SI
    have fin : ∀ w' : World, Below w1.heap.size w1 w' → Below w.heap.size w w' := fun w' h => ext_trans hb1 h
    clear hb hn hlen
    by_cases t1 : mssOf j ≤ x
    · by_cases t2 : j = 7
      · have k7 : (j == 7) = true := by simpa using t2
        clear s3 s4 t2
        go_wp2_with fail
        refine (MI'.out _).mono ?_
        rintro e w2 ⟨rfl, hb2⟩
        obtain ⟨hc2, hf2⟩ := bcell hb2
        have hz2 := hb2.size
        (try simp at hz2)
        go_wp2_with fail
        refine (SI'.out _).mono ?_
        rintro e w3 ⟨rfl, hb3⟩
        obtain ⟨hc3, hf3⟩ := bcell hb3
        have hz3 := hb3.size
        (try simp at hz3)
        go_wp2_with (first | (go_at_call 19; refine (MssOf_any _ _).mono ?_; rintro e w1 ⟨rfl, hb1⟩; obtain ⟨hc1, hf1⟩ := bcell hb1; have hz1 := hb1.size; (try simp at hz1)) | (go_at_call 18; refine (sMssOf_any _ _).mono ?_; rintro e w1 ⟨rfl, hb1⟩; obtain ⟨hc1, hf1⟩ := bcell hb1; have hz1 := hb1.size; (try simp at hz1)))
        go_ret
        exact ⟨rfl, (by repeat (first | with_reducible exact Below.refl _ _ | with_reducible assumption | with_reducible refine Below.drew ?_ | with_reducible refine Below.alloc ?_ (by first | exact Nat.le_refl _ | omega | (simp; done) | (simp; omega)) _ | with_reducible refine Below.setCell ?_ (by first | exact Nat.le_refl _ | omega | (simp; done) | (simp; omega)) _ | (with_reducible refine ext_trans ?_ (by with_reducible assumption))))⟩
      · have k7 : (j == 7) = false := by simpa using t2
        have t3 : x < mssOf (j + 1) := by omega
        clear s3 s4 t2
        go_wp2_with fail
        refine (MI'.out _).mono ?_
        rintro e w2 ⟨rfl, hb2⟩
        obtain ⟨hc2, hf2⟩ := bcell hb2
        have hz2 := hb2.size
        (try simp at hz2)
        go_wp2_with fail
        refine (SI'.out _).mono ?_
        rintro e w3 ⟨rfl, hb3⟩
        obtain ⟨hc3, hf3⟩ := bcell hb3
        have hz3 := hb3.size
        (try simp at hz3)
        go_wp2_with (first | (go_at_call 19; refine (MssOf_any _ _).mono ?_; rintro e w1 ⟨rfl, hb1⟩; obtain ⟨hc1, hf1⟩ := bcell hb1; have hz1 := hb1.size; (try simp at hz1)) | (go_at_call 18; refine (sMssOf_any _ _).mono ?_; rintro e w1 ⟨rfl, hb1⟩; obtain ⟨hc1, hf1⟩ := bcell hb1; have hz1 := hb1.size; (try simp at hz1)))
        go_ret
        exact ⟨rfl, (by repeat (first | with_reducible exact Below.refl _ _ | with_reducible assumption | with_reducible refine Below.drew ?_ | with_reducible refine Below.alloc ?_ (by first | exact Nat.le_refl _ | omega | (simp; done) | (simp; omega)) _ | with_reducible refine Below.setCell ?_ (by first | exact Nat.le_refl _ | omega | (simp; done) | (simp; omega)) _ | (with_reducible refine ext_trans ?_ (by with_reducible assumption))))⟩
    · have k0 : (j == 0) = true := by rw [beq_iff_eq]; omega
      have k7 : (j == 7) = false := by rw [beq_eq_false_iff_ne]; omega
      have t3 : x < mssOf (j + 1) := by omega
      clear s3 s4
      go_wp2_with fail
      refine (MI'.out _).mono ?_
      rintro e w2 ⟨rfl, hb2⟩
      obtain ⟨hc2, hf2⟩ := bcell hb2
      have hz2 := hb2.size
      (try simp at hz2)
      go_wp2_with fail
      refine (SI'.out _).mono ?_
      rintro e w3 ⟨rfl, hb3⟩
      obtain ⟨hc3, hf3⟩ := bcell hb3
      have hz3 := hb3.size
      (try simp at hz3)
      go_wp2_with (first | (go_at_call 19; refine (MssOf_any _ _).mono ?_; rintro e w1 ⟨rfl, hb1⟩; obtain ⟨hc1, hf1⟩ := bcell hb1; have hz1 := hb1.size; (try simp at hz1)) | (go_at_call 18; refine (sMssOf_any _ _).mono ?_; rintro e w1 ⟨rfl, hb1⟩; obtain ⟨hc1, hf1⟩ := bcell hb1; have hz1 := hb1.size; (try simp at hz1)))
      go_ret
      exact ⟨rfl, (by repeat (first | with_reducible exact Below.refl _ _ | with_reducible assumption | with_reducible refine Below.drew ?_ | with_reducible refine Below.alloc ?_ (by first | exact Nat.le_refl _ | omega | (simp; done) | (simp; omega)) _ | with_reducible refine Below.setCell ?_ (by first | exact Nat.le_refl _ | omega | (simp; done) | (simp; omega)) _ | (with_reducible refine ext_trans ?_ (by with_reducible assumption))))⟩

set_option maxRecDepth 100000 in
theorem FnMss_lifted (os : Os) (started : os.Started) (H : Type) (enc : TypeId × Value → H) :
    ReturnsInHanded {} Try.checked os 11 .any (Rows.fnMssSpec.pre6 enc Try.prog Try.f11 Rows.fnMssRow.domain false) (Rows.fnMssSpec.post enc Try.prog Try.f11 false true false false) := by
  refine law_lifted (C := Try.checked) own_ started (by kernel_rfl) Try.func11 laid_ rfl ?_ ?_ rfl Try.underlying4
    (ChangeSpec.witness6 (enc := enc) (C := Try.checked) false ⟨#[], #[.slice none 0 0], []⟩ 8 (by kernel_rfl) (by kernel_rfl) (by kernel_rfl) (by kernel_rfl)) ?_
  · intro ds h
    match ds, h with
    | [_], _ => rfl
  · intro t ht
    rw [Try.params11] at ht
    simp at ht
    subst ht
    exact ⟨by kernel_rfl, of_decide_eq_true (by kernel_rfl)⟩
  · intro W base args ds p hval hA hlt
    have hval : ∀ (j : Nat) t v, Try.f11.params[j]? = some t → args[j]? = some v → Value.okWide Try.prog W .any base t v := hval
    have hA : DataW.TrodAll enc Try.prog W 0 (fun _ => true) true Try.f11.params.toList args.toList ds p := hA
    rw [Try.params11] at hA hval
    obtain ⟨v0, d0, rfl, rfl, h0⟩ := trodAll_one hA
    obtain ⟨Aa, na, ca, rfl, wna, wba⟩ := open_bytes (hval 0 50 v0 rfl rfl) h0
    exact FnMss_walk wna W wba

theorem FnMss_holds : Rows.FnMssSaid :=
  OpenClaim.holds_of_wide 11 Try.f11 rfl rfl rfl rfl rfl rfl rfl ⟨rfl, rfl, rfl, rfl, rfl⟩ rfl rfl rfl rfl rfl (by kernel_rfl) Try.func11 (by kernel_rfl)
    (of_decide_eq_true (by kernel_rfl)) (by have hw := wrap_ (P := Try.prog) (fn := Try.f11) (by kernel_rfl); exact hw)
    (fun os started H enc _ => FnMss_lifted os started H enc)
end Go.Proofs.Yteejcabknpdghaa
