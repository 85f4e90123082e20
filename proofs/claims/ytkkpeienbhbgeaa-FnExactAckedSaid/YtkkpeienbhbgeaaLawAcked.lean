/-
  The law FnExactAcked returns true for every input. No condition.
-/
import Derived.Test.YtkkpeienbhbgeaaSndA
import Derived.Test.YtkkpeienbhbgeaaStru
namespace Go.Proofs.Ytkkpeienbhbgeaa
open Go.ChangeShapes Go.WideShapes Go.ChangeAt Go.RowKit

set_option maxHeartbeats 1000000 in
theorem FnExactAcked_walk (u : Int) (d : ByteArray) (s : Int) (f fs dn : Bool) (hs : d.size ≤ maxLen) (hu1 : -9223372036854775808 ≤ u) (hu2 : u ≤ 9223372036854775807) (ack : Int) (ha1 : -9223372036854775808 ≤ ack) (ha2 : ack ≤ 9223372036854775807) (w : World) :
    Calls Try.prog 9 #[.agg #[.int .i64 u, .string d, .int .i64 s, .bool f, .bool fs, .bool dn], .int .i64 ack] w fun e w' => e = .returned (.bool true) ∧ Below w.heap.size w w' := by
  have hz := szSender_any u d s f fs dn 1048576 (by omega) (by omega) hs
  by_cases h : (1048576 : Int) - d.size < 0
  · simp only [if_pos h] at hz
    have HZ := Lib.hid hz
    clear hz
    go_enter Try.func9, Try.ntmps9
    go_wp2_with fail
    refine (HZ.out _).mono ?_
    rintro e w1 ⟨rfl, hb1⟩
    obtain ⟨hc1, hf1⟩ := bcell hb1
    have hz1 := hb1.size
    (try simp at hz1)
    have hy1_0 : w.heap.size < w1.heap.size := by omega
    go_wp2_with fail
    go_ret
    exact ⟨rfl, (by repeat (first | with_reducible exact Below.refl _ _ | with_reducible assumption | with_reducible refine Below.drew ?_ | with_reducible refine Below.alloc ?_ (by first | exact Nat.le_refl _ | omega | (simp; done) | (simp; omega)) _ | with_reducible refine Below.setCell ?_ (by first | exact Nat.le_refl _ | omega | (simp; done) | (simp; omega)) _ | (with_reducible refine ext_trans ?_ (by with_reducible assumption))))⟩
  simp only [if_neg h] at hz
  have HZ := Lib.hid hz
  clear hz
  by_cases hk : sndB u d s f fs dn = true
  · by_cases hin : inB (seqDiff ack u) 0 (fly s fs) = true
    · obtain ⟨hi1, hi2⟩ := inB_iff.1 hin
      obtain ⟨k, rfl⟩ := Int.eq_ofNat_of_zero_le (sndB_sent hk).1
      obtain ⟨n, hn⟩ := Int.eq_ofNat_of_zero_le hi1
      have hkd : k ≤ d.size := by have := (sndB_sent hk).2; omega
      have h48 := sndB_le hk
      rw [hn] at hi2
      have HN := Lib.hid hn
      clear hin hi1 hn
      have y1 := fun w => sAcked_yes u d k f fs dn ack hk hkd h48 ha1 ha2 hu1 hu2 n HN.out hi2 w
      have y2 := fun w => Acked_yes u d k f fs dn ack hk hkd h48 n HN.out hi2 w
      obtain ⟨Q1, hq1⟩ : ∃ Q, seqAdd u n = Q := ⟨_, rfl⟩
      obtain ⟨Q2, hq2⟩ : ∃ Q, d.extract (min n k) d.size = Q := ⟨_, rfl⟩
      obtain ⟨Q3, hq3⟩ : ∃ Q, ((k - min n k : Nat) : Int) = Q := ⟨_, rfl⟩
      obtain ⟨Q4, hq4⟩ : ∃ Q, (fs && decide (n ≤ k)) = Q := ⟨_, rfl⟩
      obtain ⟨Q5, hq5⟩ : ∃ Q, (dn || decide (k < n)) = Q := ⟨_, rfl⟩
      simp only [hq1, hq2, hq3, hq4, hq5] at y1 y2
      have Y1 := Lib.hid y1
      have Y2 := Lib.hid y2
      clear y1 y2 hq1 hq2 hq3 hq4 hq5 hi2
      go_enter Try.func9, Try.ntmps9
      go_wp2_with fail
      refine (HZ.out _).mono ?_
      rintro e w1 ⟨rfl, hb1⟩
      obtain ⟨hc1, hf1⟩ := bcell hb1
      have hz1 := hb1.size
      (try simp at hz1)
      have hy1_0 : w.heap.size < w1.heap.size := by omega
      go_wp2_with fail
      refine (toSender_any _ _ _ _ _ _ _).mono ?_
      rintro e w2 ⟨rfl, hb2⟩
      obtain ⟨hc2, hf2⟩ := bcell hb2
      have hz2 := hb2.size
      (try simp at hz2)
      have hy2_0 : w.heap.size < w2.heap.size := by omega
      go_wp2_with fail
      refine (Y1.out _).mono ?_
      rintro e w3 ⟨rfl, hb3⟩
      obtain ⟨hc3, hf3⟩ := bcell hb3
      have hz3 := hb3.size
      (try simp at hz3)
      have hy3_0 : w.heap.size < w3.heap.size := by omega
      go_wp2_with fail
      refine (toSender_any _ _ _ _ _ _ _).mono ?_
      rintro e w4 ⟨rfl, hb4⟩
      obtain ⟨hc4, hf4⟩ := bcell hb4
      have hz4 := hb4.size
      (try simp at hz4)
      have hy4_0 : w.heap.size < w4.heap.size := by omega
      have hy4_1 : w3.heap.size < w4.heap.size := by omega
      go_wp2_with fail
      refine (Y2.out _).mono ?_
      rintro e w5 ⟨rfl, hb5⟩
      obtain ⟨hc5, hf5⟩ := bcell hb5
      have hz5 := hb5.size
      (try simp at hz5)
      have hy5_0 : w.heap.size < w5.heap.size := by omega
      have hy5_1 : w3.heap.size < w5.heap.size := by omega
      go_wp2_with fail
      refine (eqSender_same _ _ _ _ _ _ _).mono ?_
      rintro e w6 ⟨rfl, hb6⟩
      obtain ⟨hc6, hf6⟩ := bcell hb6
      have hz6 := hb6.size
      (try simp at hz6)
      go_wp2_with fail
      go_ret
      exact ⟨rfl, (by repeat (first | with_reducible exact Below.refl _ _ | with_reducible assumption | with_reducible refine Below.drew ?_ | with_reducible refine Below.alloc ?_ (by first | exact Nat.le_refl _ | omega | (simp; done) | (simp; omega)) _ | with_reducible refine Below.setCell ?_ (by first | exact Nat.le_refl _ | omega | (simp; done) | (simp; omega)) _ | (with_reducible refine ext_trans ?_ (by with_reducible assumption))))⟩
    · have hin : inB (seqDiff ack u) 0 (fly s fs) = false := by simpa using hin
      have y1 := Lib.hid (fun w => sAcked_no2 u d s f fs dn ack hs hk hin ha1 ha2 hu1 hu2 w)
      have y2 := Lib.hid (fun w => Acked_no2 u d s f fs dn ack hs hk hin w)
      clear hin
      go_enter Try.func9, Try.ntmps9
      go_wp2_with fail
      refine (HZ.out _).mono ?_
      rintro e w1 ⟨rfl, hb1⟩
      obtain ⟨hc1, hf1⟩ := bcell hb1
      have hz1 := hb1.size
      (try simp at hz1)
      have hy1_0 : w.heap.size < w1.heap.size := by omega
      go_wp2_with fail
      refine (toSender_any _ _ _ _ _ _ _).mono ?_
      rintro e w2 ⟨rfl, hb2⟩
      obtain ⟨hc2, hf2⟩ := bcell hb2
      have hz2 := hb2.size
      (try simp at hz2)
      have hy2_0 : w.heap.size < w2.heap.size := by omega
      go_wp2_with fail
      refine (y1.out _).mono ?_
      rintro e w3 ⟨rfl, hb3⟩
      obtain ⟨hc3, hf3⟩ := bcell hb3
      have hz3 := hb3.size
      (try simp at hz3)
      have hy3_0 : w.heap.size < w3.heap.size := by omega
      go_wp2_with fail
      refine (toSender_any _ _ _ _ _ _ _).mono ?_
      rintro e w4 ⟨rfl, hb4⟩
      obtain ⟨hc4, hf4⟩ := bcell hb4
      have hz4 := hb4.size
      (try simp at hz4)
      have hy4_0 : w.heap.size < w4.heap.size := by omega
      have hy4_1 : w3.heap.size < w4.heap.size := by omega
      go_wp2_with fail
      refine (y2.out _).mono ?_
      rintro e w5 ⟨rfl, hb5⟩
      obtain ⟨hc5, hf5⟩ := bcell hb5
      have hz5 := hb5.size
      (try simp at hz5)
      have hy5_0 : w.heap.size < w5.heap.size := by omega
      have hy5_1 : w3.heap.size < w5.heap.size := by omega
      go_wp2_with fail
      refine (eqSender_same _ _ _ _ _ _ _).mono ?_
      rintro e w6 ⟨rfl, hb6⟩
      obtain ⟨hc6, hf6⟩ := bcell hb6
      have hz6 := hb6.size
      (try simp at hz6)
      go_wp2_with fail
      go_ret
      exact ⟨rfl, (by repeat (first | with_reducible exact Below.refl _ _ | with_reducible assumption | with_reducible refine Below.drew ?_ | with_reducible refine Below.alloc ?_ (by first | exact Nat.le_refl _ | omega | (simp; done) | (simp; omega)) _ | with_reducible refine Below.setCell ?_ (by first | exact Nat.le_refl _ | omega | (simp; done) | (simp; omega)) _ | (with_reducible refine ext_trans ?_ (by with_reducible assumption))))⟩
  · have hk : sndB u d s f fs dn = false := by simpa using hk
    go_enter Try.func9, Try.ntmps9
    go_wp2_with fail
    refine (HZ.out _).mono ?_
    rintro e w1 ⟨rfl, hb1⟩
    obtain ⟨hc1, hf1⟩ := bcell hb1
    have hz1 := hb1.size
    (try simp at hz1)
    have hy1_0 : w.heap.size < w1.heap.size := by omega
    go_wp2_with fail
    refine (toSender_any _ _ _ _ _ _ _).mono ?_
    rintro e w2 ⟨rfl, hb2⟩
    obtain ⟨hc2, hf2⟩ := bcell hb2
    have hz2 := hb2.size
    (try simp at hz2)
    have hy2_0 : w.heap.size < w2.heap.size := by omega
    go_wp2_with fail
    refine (sAcked_no1 _ _ _ _ _ _ _ hs hk ha1 ha2 hu1 hu2 _).mono ?_
    rintro e w3 ⟨rfl, hb3⟩
    obtain ⟨hc3, hf3⟩ := bcell hb3
    have hz3 := hb3.size
    (try simp at hz3)
    have hy3_0 : w.heap.size < w3.heap.size := by omega
    go_wp2_with fail
    refine (toSender_any _ _ _ _ _ _ _).mono ?_
    rintro e w4 ⟨rfl, hb4⟩
    obtain ⟨hc4, hf4⟩ := bcell hb4
    have hz4 := hb4.size
    (try simp at hz4)
    have hy4_0 : w.heap.size < w4.heap.size := by omega
    have hy4_1 : w3.heap.size < w4.heap.size := by omega
    go_wp2_with fail
    refine (Acked_no1 _ _ _ _ _ _ _ hs hk _).mono ?_
    rintro e w5 ⟨rfl, hb5⟩
    obtain ⟨hc5, hf5⟩ := bcell hb5
    have hz5 := hb5.size
    (try simp at hz5)
    have hy5_0 : w.heap.size < w5.heap.size := by omega
    have hy5_1 : w3.heap.size < w5.heap.size := by omega
    go_wp2_with fail
    refine (eqSender_same _ _ _ _ _ _ _).mono ?_
    rintro e w6 ⟨rfl, hb6⟩
    obtain ⟨hc6, hf6⟩ := bcell hb6
    have hz6 := hb6.size
    (try simp at hz6)
    go_wp2_with fail
    go_ret
    exact ⟨rfl, (by repeat (first | with_reducible exact Below.refl _ _ | with_reducible assumption | with_reducible refine Below.drew ?_ | with_reducible refine Below.alloc ?_ (by first | exact Nat.le_refl _ | omega | (simp; done) | (simp; omega)) _ | with_reducible refine Below.setCell ?_ (by first | exact Nat.le_refl _ | omega | (simp; done) | (simp; omega)) _ | (with_reducible refine ext_trans ?_ (by with_reducible assumption))))⟩

set_option maxRecDepth 100000 in
theorem FnExactAcked_lifted (os : Os) (started : os.Started) (H : Type) (enc : TypeId × Value → H) :
    ReturnsInHanded {} Try.checked os 9 .any (Rows.fnExactAckedSpec.pre6 enc Try.prog Try.f9 Rows.fnExactAckedRow.domain false) (Rows.fnExactAckedSpec.post enc Try.prog Try.f9 false true false false) := by
  refine law_lifted (C := Try.checked) own_ started (by kernel_rfl) Try.func9 laid_ rfl ?_ ?_ rfl Try.underlying4
    (ChangeSpec.witness6 (enc := enc) (C := Try.checked) false ⟨#[], #[.agg #[.int .i64 0, .string ⟨#[]⟩, .int .i64 0, .bool false, .bool false, .bool false], .int .i64 0], []⟩ 8 (by kernel_rfl) (by kernel_rfl) (by kernel_rfl) (by kernel_rfl)) ?_
  · intro ds h
    match ds, h with
    | [_, _], _ => rfl
  · intro t ht
    rw [Try.params9] at ht
    simp at ht
    rcases ht with rfl | rfl
    all_goals exact ⟨by kernel_rfl, of_decide_eq_true (by kernel_rfl)⟩
  · intro W base args ds p hval hA hlt
    have hval : ∀ (j : Nat) t v, Try.f9.params[j]? = some t → args[j]? = some v → Value.okWide Try.prog W .any base t v := hval
    have hA : DataW.TrodAll enc Try.prog W 0 (fun _ => true) true Try.f9.params.toList args.toList ds p := hA
    rw [Try.params9] at hA hval
    obtain ⟨v0, v1, d0, d1, p0, p1, rfl, rfl, rfl, h0, h1⟩ := trodAll_two hA
    obtain ⟨a0, a1, a2, a3, a4, a5, rfl, wa0, wa1, wa2⟩ := open_Sender (hval 0 23 v0 rfl rfl) h0
    obtain ⟨b, rfl, rfl, rfl, wb⟩ := open_int Try.underlying3 (hval 1 3 v1 rfl rfl) h1
    exact FnExactAcked_walk a0 a1 a2 a3 a4 a5 (by assumption) (bd_i64 wa0).1 (bd_i64 wa0).2 b (bd_i64 wb).1 (bd_i64 wb).2 W

theorem FnExactAcked_holds : Rows.FnExactAckedSaid :=
  OpenClaim.holds_of_wide 9 Try.f9 rfl rfl rfl rfl rfl rfl rfl ⟨rfl, rfl, rfl, rfl, rfl⟩ rfl rfl rfl rfl rfl (by kernel_rfl) Try.func9 (by kernel_rfl)
    (of_decide_eq_true (by kernel_rfl)) (by have hw := wrap_ (P := Try.prog) (fn := Try.f9) (by kernel_rfl); exact hw)
    (fun os started H enc _ => FnExactAcked_lifted os started H enc)
end Go.Proofs.Ytkkpeienbhbgeaa
