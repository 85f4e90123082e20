/-
  The law FnExactQueued returns true for every input. No condition.
-/
import Derived.Test.YtkkpeienbhbgeaaSndQ
import Derived.Test.YtkkpeienbhbgeaaStru
import Derived.ChangeMaps5
namespace Go.Proofs.Ytkkpeienbhbgeaa
open Go.ChangeShapes Go.WideShapes Go.ChangeAt Go.RowKit

theorem FnExactQueued_walk (u : Int) (d : ByteArray) (s : Int) (f fs dn : Bool) (hs : d.size ≤ maxLen) (x : ByteArray) (hx : x.size ≤ maxLen) (w : World) :
    Calls Try.prog 6 #[.agg #[.int .i64 u, .string d, .int .i64 s, .bool f, .bool fs, .bool dn], .string x] w fun e w' => e = .returned (.bool true) ∧ Below w.heap.size w w' := by
  have hx' := hx
  unfold maxLen at hx'
  by_cases hb : (1048576 : Int) < x.size
  · go_enter Try.func6, Try.ntmps6
    go_wp2_with fail
    go_ret
    exact ⟨rfl, (by repeat (first | with_reducible exact Below.refl _ _ | with_reducible assumption | with_reducible refine Below.drew ?_ | with_reducible refine Below.alloc ?_ (by first | exact Nat.le_refl _ | omega | (simp; done) | (simp; omega)) _ | with_reducible refine Below.setCell ?_ (by first | exact Nat.le_refl _ | omega | (simp; done) | (simp; omega)) _ | (with_reducible refine ext_trans ?_ (by with_reducible assumption))))⟩
  have hz := szSender_any u d s f fs dn 1048576 (by omega) (by omega) hs
  by_cases h : (1048576 : Int) - d.size < 0
  · simp only [if_pos h] at hz
    have HZ := Lib.hid hz
    clear hz
    go_enter Try.func6, Try.ntmps6
    go_wp2_with fail
    go_wp2_with fail
    refine (HZ.out _).mono ?_
    rintro e w1 ⟨rfl, hb1⟩
    obtain ⟨hc1, hf1⟩ := bcell hb1
    have hz1 := hb1.size
    (try simp at hz1)
    have hy1_0 : w.heap.size < w1.heap.size := by omega
    go_wp2_with fail
    go_ret
    exact ⟨rfl, (by repeat (first | with_reducible exact Below.refl _ _ | with_reducible assumption | with_reducible refine Below.drew ?_ | with_reducible refine Below.alloc ?_ (by first | exact Nat.le_refl _ | omega | (simp; done) | (simp; omega)) _ | with_reducible refine Below.setCell ?_ (by first | exact Nat.le_refl _ | omega | (simp; done) | (simp; omega)) _ | (with_reducible refine ext_trans ?_ (by with_reducible assumption))))⟩
  · simp only [if_neg h] at hz
    have HZ := Lib.hid hz
    clear hz
    by_cases hk : sndB u d s f fs dn = true
    · cases f
      · have h48 := sndB_le hk
        go_enter Try.func6, Try.ntmps6
        go_wp2_with fail
        go_wp2_with fail
        refine (HZ.out _).mono ?_
        rintro e w1 ⟨rfl, hb1⟩
        obtain ⟨hc1, hf1⟩ := bcell hb1
        have hz1 := hb1.size
        (try simp at hz1)
        have hy1_0 : w.heap.size < w1.heap.size := by omega
        go_wp2_with fail
        refine (toSender_any _ _ _ _ _ _ _).mono ?_
        rintro e w2 ⟨rfl, hb2⟩
        obtain ⟨hc2, hf2⟩ := bcell hb2
        have hz2 := hb2.size
        (try simp at hz2)
        have hy2_0 : w.heap.size < w2.heap.size := by omega
        go_wp2_with fail
        refine (sQueued_yes _ _ _ _ _ _ hs hx hk h48 _).mono ?_
        rintro e w3 ⟨rfl, hb3⟩
        obtain ⟨hc3, hf3⟩ := bcell hb3
        have hz3 := hb3.size
        (try simp at hz3)
        have hy3_0 : w.heap.size < w3.heap.size := by omega
        go_wp2_with fail
        refine (toSender_any _ _ _ _ _ _ _).mono ?_
        rintro e w4 ⟨rfl, hb4⟩
        obtain ⟨hc4, hf4⟩ := bcell hb4
        have hz4 := hb4.size
        (try simp at hz4)
        have hy4_0 : w.heap.size < w4.heap.size := by omega
        have hy4_1 : w3.heap.size < w4.heap.size := by omega
        go_wp2_with fail
        refine (Queued_yes _ _ _ _ _ _ hs hx hk h48 _).mono ?_
        rintro e w5 ⟨rfl, hb5⟩
        obtain ⟨hc5, hf5⟩ := bcell hb5
        have hz5 := hb5.size
        (try simp at hz5)
        have hy5_0 : w.heap.size < w5.heap.size := by omega
        have hy5_1 : w3.heap.size < w5.heap.size := by omega
        go_wp2_with fail
        refine (eqSender_same _ _ _ _ _ _ _).mono ?_
        rintro e w6 ⟨rfl, hb6⟩
        obtain ⟨hc6, hf6⟩ := bcell hb6
        have hz6 := hb6.size
        (try simp at hz6)
        go_wp2_with fail
        go_ret
        exact ⟨rfl, (by repeat (first | with_reducible exact Below.refl _ _ | with_reducible assumption | with_reducible refine Below.drew ?_ | with_reducible refine Below.alloc ?_ (by first | exact Nat.le_refl _ | omega | (simp; done) | (simp; omega)) _ | with_reducible refine Below.setCell ?_ (by first | exact Nat.le_refl _ | omega | (simp; done) | (simp; omega)) _ | (with_reducible refine ext_trans ?_ (by with_reducible assumption))))⟩
      · go_enter Try.func6, Try.ntmps6
        go_wp2_with fail
        go_wp2_with fail
        refine (HZ.out _).mono ?_
        rintro e w1 ⟨rfl, hb1⟩
        obtain ⟨hc1, hf1⟩ := bcell hb1
        have hz1 := hb1.size
        (try simp at hz1)
        have hy1_0 : w.heap.size < w1.heap.size := by omega
        go_wp2_with fail
        refine (toSender_any _ _ _ _ _ _ _).mono ?_
        rintro e w2 ⟨rfl, hb2⟩
        obtain ⟨hc2, hf2⟩ := bcell hb2
        have hz2 := hb2.size
        (try simp at hz2)
        have hy2_0 : w.heap.size < w2.heap.size := by omega
        go_wp2_with fail
        refine (sQueued_no _ _ _ _ _ _ _ hs (Or.inr rfl) _).mono ?_
        rintro e w3 ⟨rfl, hb3⟩
        obtain ⟨hc3, hf3⟩ := bcell hb3
        have hz3 := hb3.size
        (try simp at hz3)
        have hy3_0 : w.heap.size < w3.heap.size := by omega
        go_wp2_with fail
        refine (toSender_any _ _ _ _ _ _ _).mono ?_
        rintro e w4 ⟨rfl, hb4⟩
        obtain ⟨hc4, hf4⟩ := bcell hb4
        have hz4 := hb4.size
        (try simp at hz4)
        have hy4_0 : w.heap.size < w4.heap.size := by omega
        have hy4_1 : w3.heap.size < w4.heap.size := by omega
        go_wp2_with fail
        refine (Queued_no _ _ _ _ _ _ _ hs (Or.inr rfl) _).mono ?_
        rintro e w5 ⟨rfl, hb5⟩
        obtain ⟨hc5, hf5⟩ := bcell hb5
        have hz5 := hb5.size
        (try simp at hz5)
        have hy5_0 : w.heap.size < w5.heap.size := by omega
        have hy5_1 : w3.heap.size < w5.heap.size := by omega
        go_wp2_with fail
        refine (eqSender_same _ _ _ _ _ _ _).mono ?_
        rintro e w6 ⟨rfl, hb6⟩
        obtain ⟨hc6, hf6⟩ := bcell hb6
        have hz6 := hb6.size
        (try simp at hz6)
        go_wp2_with fail
        go_ret
        exact ⟨rfl, (by repeat (first | with_reducible exact Below.refl _ _ | with_reducible assumption | with_reducible refine Below.drew ?_ | with_reducible refine Below.alloc ?_ (by first | exact Nat.le_refl _ | omega | (simp; done) | (simp; omega)) _ | with_reducible refine Below.setCell ?_ (by first | exact Nat.le_refl _ | omega | (simp; done) | (simp; omega)) _ | (with_reducible refine ext_trans ?_ (by with_reducible assumption))))⟩
    · have hk : sndB u d s f fs dn = false := by simpa using hk
      go_enter Try.func6, Try.ntmps6
      go_wp2_with fail
      go_wp2_with fail
      refine (HZ.out _).mono ?_
      rintro e w1 ⟨rfl, hb1⟩
      obtain ⟨hc1, hf1⟩ := bcell hb1
      have hz1 := hb1.size
      (try simp at hz1)
      have hy1_0 : w.heap.size < w1.heap.size := by omega
      go_wp2_with fail
      refine (toSender_any _ _ _ _ _ _ _).mono ?_
      rintro e w2 ⟨rfl, hb2⟩
      obtain ⟨hc2, hf2⟩ := bcell hb2
      have hz2 := hb2.size
      (try simp at hz2)
      have hy2_0 : w.heap.size < w2.heap.size := by omega
      go_wp2_with fail
      refine (sQueued_no _ _ _ _ _ _ _ hs (Or.inl hk) _).mono ?_
      rintro e w3 ⟨rfl, hb3⟩
      obtain ⟨hc3, hf3⟩ := bcell hb3
      have hz3 := hb3.size
      (try simp at hz3)
      have hy3_0 : w.heap.size < w3.heap.size := by omega
      go_wp2_with fail
      refine (toSender_any _ _ _ _ _ _ _).mono ?_
      rintro e w4 ⟨rfl, hb4⟩
      obtain ⟨hc4, hf4⟩ := bcell hb4
      have hz4 := hb4.size
      (try simp at hz4)
      have hy4_0 : w.heap.size < w4.heap.size := by omega
      have hy4_1 : w3.heap.size < w4.heap.size := by omega
      go_wp2_with fail
      refine (Queued_no _ _ _ _ _ _ _ hs (Or.inl hk) _).mono ?_
      rintro e w5 ⟨rfl, hb5⟩
      obtain ⟨hc5, hf5⟩ := bcell hb5
      have hz5 := hb5.size
      (try simp at hz5)
      have hy5_0 : w.heap.size < w5.heap.size := by omega
      have hy5_1 : w3.heap.size < w5.heap.size := by omega
      go_wp2_with fail
      refine (eqSender_same _ _ _ _ _ _ _).mono ?_
      rintro e w6 ⟨rfl, hb6⟩
      obtain ⟨hc6, hf6⟩ := bcell hb6
      have hz6 := hb6.size
      (try simp at hz6)
      go_wp2_with fail
      go_ret
      exact ⟨rfl, (by repeat (first | with_reducible exact Below.refl _ _ | with_reducible assumption | with_reducible refine Below.drew ?_ | with_reducible refine Below.alloc ?_ (by first | exact Nat.le_refl _ | omega | (simp; done) | (simp; omega)) _ | with_reducible refine Below.setCell ?_ (by first | exact Nat.le_refl _ | omega | (simp; done) | (simp; omega)) _ | (with_reducible refine ext_trans ?_ (by with_reducible assumption))))⟩

set_option maxRecDepth 100000 in
theorem FnExactQueued_lifted (os : Os) (started : os.Started) (H : Type) (enc : TypeId × Value → H) :
    ReturnsInHanded {} Try.checked os 6 .any (Rows.fnExactQueuedSpec.pre6 enc Try.prog Try.f6 Rows.fnExactQueuedRow.domain false) (Rows.fnExactQueuedSpec.post enc Try.prog Try.f6 false true false false) := by
  refine law_lifted (C := Try.checked) own_ started (by kernel_rfl) Try.func6 laid_ rfl ?_ ?_ rfl Try.underlying4
    (ChangeSpec.witness6 (enc := enc) (C := Try.checked) false ⟨#[], #[.agg #[.int .i64 0, .string ⟨#[]⟩, .int .i64 0, .bool false, .bool false, .bool false], .string ⟨#[]⟩], []⟩ 8 (by kernel_rfl) (by kernel_rfl) (by kernel_rfl) (by kernel_rfl)) ?_
  · intro ds h
    match ds, h with
    | [_, _], _ => rfl
  · intro t ht
    rw [Try.params6] at ht
    simp at ht
    rcases ht with rfl | rfl
    all_goals exact ⟨by kernel_rfl, of_decide_eq_true (by kernel_rfl)⟩
  · intro W base args ds p hval hA hlt
    have hval : ∀ (j : Nat) t v, Try.f6.params[j]? = some t → args[j]? = some v → Value.okWide Try.prog W .any base t v := hval
    have hA : DataW.TrodAll enc Try.prog W 0 (fun _ => true) true Try.f6.params.toList args.toList ds p := hA
    rw [Try.params6] at hA hval
    obtain ⟨v0, v1, d0, d1, p0, p1, rfl, rfl, rfl, h0, h1⟩ := trodAll_two hA
    obtain ⟨a0, a1, a2, a3, a4, a5, rfl, wa0, wa1, wa2⟩ := open_Sender (hval 0 23 v0 rfl rfl) h0
    obtain ⟨b, rfl, rfl, rfl, wb⟩ := Go.ChangeMaps.open_string Try.underlying9 (hval 1 9 v1 rfl rfl) h1
    exact FnExactQueued_walk a0 a1 a2 a3 a4 a5 (by assumption) b wb W

theorem FnExactQueued_holds : Rows.FnExactQueuedSaid :=
  OpenClaim.holds_of_wide 6 Try.f6 rfl rfl rfl rfl rfl rfl rfl ⟨rfl, rfl, rfl, rfl, rfl⟩ rfl rfl rfl rfl rfl (by kernel_rfl) Try.func6 (by kernel_rfl)
    (of_decide_eq_true (by kernel_rfl)) (by have hw := wrap_ (P := Try.prog) (fn := Try.f6) (by kernel_rfl); exact hw)
    (fun os started H enc _ => FnExactQueued_lifted os started H enc)
end Go.Proofs.Ytkkpeienbhbgeaa
