/-
  The law FnExactNextChunk returns true for every input. No condition.
-/
import Derived.Test.YtkkpeienbhbgeaaSndM
import Derived.Test.YtkkpeienbhbgeaaSndN
import Derived.Test.YtkkpeienbhbgeaaStru
namespace Go.Proofs.Ytkkpeienbhbgeaa
open Go.ChangeShapes Go.WideShapes Go.ChangeAt Go.RowKit

theorem chRes_form (q : Int) (T : ByteArray) (m : Nat) (fin : Bool) : ∃ (q' : Int) (T' : ByteArray) (F ok : Bool), chRes q T m fin = .tuple #[.agg #[.int .i64 q', .string T', .bool F], .bool ok] := by
  unfold chRes
  split
  · exact ⟨_, _, _, _, rfl⟩
  · exact ⟨_, _, _, _, rfl⟩
/-- Both answer alike. -/
theorem chunk_both (u : Int) (d : ByteArray) (s : Int) (f fs dn : Bool) (hs : d.size ≤ maxLen) (hu1 : -9223372036854775808 ≤ u) (hu2 : u ≤ 9223372036854775807) (win mss : Int) (hw1 : -9223372036854775808 ≤ win) (hw2 : win ≤ 9223372036854775807) (hm1 : -9223372036854775808 ≤ mss) (hm2 : mss ≤ 9223372036854775807) :
    ∃ (q : Int) (T : ByteArray) (F ok : Bool),
      (∀ w, Calls Try.prog 29 #[.agg #[.int .i64 u, .string d, .int .i64 s, .bool f, .bool fs, .bool dn], .int .i64 win, .int .i64 mss] w fun e w' => e = .returned (.tuple #[.agg #[.int .i64 q, .string T, .bool F], .bool ok]) ∧ Below w.heap.size w w') ∧
      (∀ w, Calls Try.prog 30 #[.agg #[.int .i64 u, .string d, .int .i64 s, .bool f, .bool fs, .bool dn], .int .i64 win, .int .i64 mss] w fun e w' => e = .returned (.tuple #[.agg #[.int .i64 q, .string T, .bool F], .bool ok]) ∧ Below w.heap.size w w') := by
  by_cases hk : sndB u d s f fs dn = true
  · obtain ⟨k, rfl⟩ := Int.eq_ofNat_of_zero_le (sndB_sent hk).1
    have hkd : k ≤ d.size := by have := (sndB_sent hk).2; omega
    have h48 := sndB_le hk
    have hX : (d.extract k d.size).size = d.size - k := ext_size d k
    have y1 := fun w => sNextChunk_core u d k f fs dn win mss hk hkd h48 hw1 hw2 hm1 hm2 hu1 hu2 _ rfl _ rfl hX _ rfl _ rfl w
    have y2 := fun w => NextChunk_core u d k f fs dn win mss hk hkd h48 hw1 hw2 hm1 hm2 _ rfl _ rfl hX _ rfl _ rfl w
    obtain ⟨q, T, F, ok, he⟩ := chRes_form (seqAdd u (fly k fs)) ((d.extract k d.size).extract 0 (chM (d.extract k d.size).size mss (effW win (fly k fs)))) (chM (d.extract k d.size).size mss (effW win (fly k fs))) (chFin f fs dn (d.extract k d.size).size (chM (d.extract k d.size).size mss (effW win (fly k fs))) (effW win (fly k fs)))
    simp only [he] at y1 y2
    exact ⟨q, T, F, ok, y1, y2⟩
  · have hk : sndB u d s f fs dn = false := by simpa using hk
    exact ⟨_, _, _, _, fun w => sNextChunk_no _ _ _ _ _ _ _ _ hs hk w, fun w => NextChunk_no _ _ _ _ _ _ _ _ hs hk w⟩
set_option maxHeartbeats 1000000 in
theorem FnExactNextChunk_walk (u : Int) (d : ByteArray) (s : Int) (f fs dn : Bool) (hs : d.size ≤ maxLen) (hu1 : -9223372036854775808 ≤ u) (hu2 : u ≤ 9223372036854775807) (win mss : Int) (hw1 : -9223372036854775808 ≤ win) (hw2 : win ≤ 9223372036854775807) (hm1 : -9223372036854775808 ≤ mss) (hm2 : mss ≤ 9223372036854775807) (w : World) :
    Calls Try.prog 8 #[.agg #[.int .i64 u, .string d, .int .i64 s, .bool f, .bool fs, .bool dn], .int .i64 win, .int .i64 mss] w fun e w' => e = .returned (.bool true) ∧ Below w.heap.size w w' := by
  have hz := szSender_any u d s f fs dn 1048576 (by omega) (by omega) hs
  by_cases h : (1048576 : Int) - d.size < 0
  · simp only [if_pos h] at hz
    have HZ := Lib.hid hz
    clear hz
    go_enter Try.func8, Try.ntmps8
    go_wp2_with fail
    refine (HZ.out _).mono ?_
    rintro e w1 ⟨rfl, hb1⟩
    obtain ⟨hc1, hf1⟩ := bcell hb1
    have hz1 := hb1.size
    (try simp at hz1)
    have hy1_0 : w.heap.size < w1.heap.size := by omega
    go_wp2_with fail
    go_ret
    exact ⟨rfl, (by repeat (first | with_reducible exact Below.refl _ _ | with_reducible assumption | with_reducible refine Below.drew ?_ | with_reducible refine Below.alloc ?_ (by first | exact Nat.le_refl _ | omega | (simp; done) | (simp; omega)) _ | with_reducible refine Below.setCell ?_ (by first | exact Nat.le_refl _ | omega | (simp; done) | (simp; omega)) _ | (with_reducible refine ext_trans ?_ (by with_reducible assumption))))⟩
  simp only [if_neg h] at hz
  have HZ := Lib.hid hz
  clear hz
  obtain ⟨q, T, F, ok, y1, y2⟩ := chunk_both u d s f fs dn hs hu1 hu2 win mss hw1 hw2 hm1 hm2
  have Y1 := Lib.hid y1
  have Y2 := Lib.hid y2
  clear y1 y2
  go_enter Try.func8, Try.ntmps8
  go_wp2_with fail
  refine (HZ.out _).mono ?_
  rintro e w1 ⟨rfl, hb1⟩
  obtain ⟨hc1, hf1⟩ := bcell hb1
  have hz1 := hb1.size
  (try simp at hz1)
  have hy1_0 : w.heap.size < w1.heap.size := by omega
  go_wp2_with fail
  refine (toSender_any _ _ _ _ _ _ _).mono ?_
  rintro e w2 ⟨rfl, hb2⟩
  obtain ⟨hc2, hf2⟩ := bcell hb2
  have hz2 := hb2.size
  (try simp at hz2)
  have hy2_0 : w.heap.size < w2.heap.size := by omega
  go_wp2_with fail
  refine (Y1.out _).mono ?_
  rintro e w3 ⟨rfl, hb3⟩
  obtain ⟨hc3, hf3⟩ := bcell hb3
  have hz3 := hb3.size
  (try simp at hz3)
  have hy3_0 : w.heap.size < w3.heap.size := by omega
  go_wp2_with fail
  refine (toSender_any _ _ _ _ _ _ _).mono ?_
  rintro e w4 ⟨rfl, hb4⟩
  obtain ⟨hc4, hf4⟩ := bcell hb4
  have hz4 := hb4.size
  (try simp at hz4)
  have hy4_0 : w.heap.size < w4.heap.size := by omega
  have hy4_1 : w3.heap.size < w4.heap.size := by omega
  go_wp2_with fail
  refine (Y2.out _).mono ?_
  rintro e w5 ⟨rfl, hb5⟩
  obtain ⟨hc5, hf5⟩ := bcell hb5
  have hz5 := hb5.size
  (try simp at hz5)
  have hy5_0 : w.heap.size < w5.heap.size := by omega
  have hy5_1 : w3.heap.size < w5.heap.size := by omega
  go_wp2_with fail
  refine (eqChunk_same _ _ _ _).mono ?_
  rintro e w6 ⟨rfl, hb6⟩
  obtain ⟨hc6, hf6⟩ := bcell hb6
  have hz6 := hb6.size
  (try simp at hz6)
  go_wp2_with fail
  go_ret
  exact ⟨rfl, (by repeat (first | with_reducible exact Below.refl _ _ | with_reducible assumption | with_reducible refine Below.drew ?_ | with_reducible refine Below.alloc ?_ (by first | exact Nat.le_refl _ | omega | (simp; done) | (simp; omega)) _ | with_reducible refine Below.setCell ?_ (by first | exact Nat.le_refl _ | omega | (simp; done) | (simp; omega)) _ | (with_reducible refine ext_trans ?_ (by with_reducible assumption))))⟩

set_option maxRecDepth 100000 in
theorem FnExactNextChunk_lifted (os : Os) (started : os.Started) (H : Type) (enc : TypeId × Value → H) :
    ReturnsInHanded {} Try.checked os 8 .any (Rows.fnExactNextChunkSpec.pre6 enc Try.prog Try.f8 Rows.fnExactNextChunkRow.domain false) (Rows.fnExactNextChunkSpec.post enc Try.prog Try.f8 false true false false) := by
  refine law_lifted (C := Try.checked) own_ started (by kernel_rfl) Try.func8 laid_ rfl ?_ ?_ rfl Try.underlying4
    (ChangeSpec.witness6 (enc := enc) (C := Try.checked) false ⟨#[], #[.agg #[.int .i64 0, .string ⟨#[]⟩, .int .i64 0, .bool false, .bool false, .bool false], .int .i64 0, .int .i64 0], []⟩ 8 (by kernel_rfl) (by kernel_rfl) (by kernel_rfl) (by kernel_rfl)) ?_
  · intro ds h
    match ds, h with
    | [_, _, _], _ => rfl
  · intro t ht
    rw [Try.params8] at ht
    simp at ht
    rcases ht with rfl | rfl
    all_goals exact ⟨by kernel_rfl, of_decide_eq_true (by kernel_rfl)⟩
  · intro W base args ds p hval hA hlt
    have hval : ∀ (j : Nat) t v, Try.f8.params[j]? = some t → args[j]? = some v → Value.okWide Try.prog W .any base t v := hval
    have hA : DataW.TrodAll enc Try.prog W 0 (fun _ => true) true Try.f8.params.toList args.toList ds p := hA
    rw [Try.params8] at hA hval
    obtain ⟨v0, v1, v2, d0, d1, d2, p0, p1, p2, rfl, rfl, rfl, h0, h1, h2⟩ := trodAll_three hA
    obtain ⟨a0, a1, a2, a3, a4, a5, rfl, wa0, wa1, wa2⟩ := open_Sender (hval 0 23 v0 rfl rfl) h0
    obtain ⟨b, rfl, rfl, rfl, wb⟩ := open_int Try.underlying3 (hval 1 3 v1 rfl rfl) h1
    obtain ⟨c, rfl, rfl, rfl, wc⟩ := open_int Try.underlying3 (hval 2 3 v2 rfl rfl) h2
    exact FnExactNextChunk_walk a0 a1 a2 a3 a4 a5 (by assumption) (bd_i64 wa0).1 (bd_i64 wa0).2 b c (bd_i64 wb).1 (bd_i64 wb).2 (bd_i64 wc).1 (bd_i64 wc).2 W

theorem FnExactNextChunk_holds : Rows.FnExactNextChunkSaid :=
  OpenClaim.holds_of_wide 8 Try.f8 rfl rfl rfl rfl rfl rfl rfl ⟨rfl, rfl, rfl, rfl, rfl⟩ rfl rfl rfl rfl rfl (by kernel_rfl) Try.func8 (by kernel_rfl)
    (of_decide_eq_true (by kernel_rfl)) (by have hw := wrap_ (P := Try.prog) (fn := Try.f8) (by kernel_rfl); exact hw)
    (fun os started H enc _ => FnExactNextChunk_lifted os started H enc)
end Go.Proofs.Ytkkpeienbhbgeaa
