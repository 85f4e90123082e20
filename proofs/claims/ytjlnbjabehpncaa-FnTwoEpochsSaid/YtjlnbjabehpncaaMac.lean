/-
  Contracts of MacInput, the program's and the reference's.
-/
import Derived.Test.YtjlnbjabehpncaaTup
import Derived.Test.YtjlnbjabehpncaaPut
import Derived.Deep.RegionHeld3
namespace Go.Proofs.Ytjlnbjabehpncaa
open Go.RowKit

def macOk (a b c seq epoch i : Int) : Bool := tupleB a b c && (wordB seq 32 && (wordB epoch 32 && inB i 0 7))
def macIn (a b c seq epoch i : Int) : List UInt8 := be 4 a ++ be 2 b ++ be 2 c ++ be 4 seq ++ be 4 epoch ++ be 1 i
theorem mac_keep {w w1 wx w2 : World} {a b c : Int} (h : wx.cell? ⟨w.heap.size, 0, none⟩ = some (.int .i64 a) ∧ wx.cell? ⟨w.heap.size, 1, none⟩ = some (.int .i64 b) ∧ wx.cell? ⟨w.heap.size, 2, none⟩ = some (.int .i64 c) ∧ Below w1.heap.size w1 wx ∧ w.heap.size < wx.heap.size) (hb : Below wx.heap.size wx w2) :
    w2.cell? ⟨w.heap.size, 0, none⟩ = some (.int .i64 a) ∧ w2.cell? ⟨w.heap.size, 1, none⟩ = some (.int .i64 b) ∧ w2.cell? ⟨w.heap.size, 2, none⟩ = some (.int .i64 c) ∧ Below w1.heap.size w1 w2 ∧ w.heap.size < w2.heap.size := by
  obtain ⟨h1, h2, h3, h4, h5⟩ := h
  exact ⟨(hb.cell h5).trans h1, (hb.cell h5).trans h2, (hb.cell h5).trans h3, ext_trans h4 hb, Nat.lt_of_lt_of_le h5 hb.size⟩
def macS (a b c seq epoch i : Int) : ByteArray := if macOk a b c seq epoch i then ⟨(macIn a b c seq epoch i).toArray⟩ else ⟨#[]⟩

theorem MacInput_yes (a b c seq epoch i : Int) (h : macOk a b c seq epoch i = true) (w : World) :
    Calls Try.prog 55 #[.agg #[.int .i64 a, .int .i64 b, .int .i64 c], .int .i64 seq, .int .i64 epoch, .int .i64 i] w fun e w' => e = .returned (.string ⟨(macIn a b c seq epoch i).toArray⟩) ∧ Below w.heap.size w w' := by
  simp only [macOk, Bool.and_eq_true] at h
  obtain ⟨ht, hs, he, hi⟩ := h
  have p1 : putB a 4 = true := by simp only [tupleB, Bool.and_eq_true] at ht; simpa [putB, inB] using ht.1
  have p2 : putB b 2 = true := by simp only [tupleB, Bool.and_eq_true] at ht; simpa [putB, inB] using ht.2.1
  have p3 : putB c 2 = true := by simp only [tupleB, Bool.and_eq_true] at ht; simpa [putB, inB] using ht.2.2
  have p4 : putB seq 4 = true := by simpa [putB, inB] using hs
  have p5 : putB epoch 4 = true := by simpa [putB, inB] using he
  have p6 : putB i 1 = true := by have := inB_iff.1 hi; simp [putB, inB, wordB]; omega
  go_enter Try.func55, Try.ntmps55
  go_wp2_with fail
  refine (TupleOk_any _ _ _ _).mono ?_
  rintro e w1 ⟨rfl, hb1⟩
  obtain ⟨hc1, hf1⟩ := bcell hb1
  have hz1 := hb1.size
  (try simp at hz1)
  have hy1_0 : w.heap.size < w1.heap.size := by omega
  go_wp2_with (first | (go_at_call 57; refine (WordOk_any _ _ _).mono ?_; rintro e w1 ⟨rfl, rfl⟩) | (go_at_call 52; refine (within_any _ _ _ _).mono ?_; rintro e w1 ⟨rfl, rfl⟩))
  go_region_held3 (fun w' => w'.cell? ⟨w.heap.size, 0, none⟩ = some (.int .i64 a) ∧ w'.cell? ⟨w.heap.size, 1, none⟩ = some (.int .i64 b) ∧ w'.cell? ⟨w.heap.size, 2, none⟩ = some (.int .i64 c) ∧ Below w1.heap.size w1 w' ∧ w.heap.size < w'.heap.size)
    (first | exact mac_keep (by assumption) hbn | (refine ⟨?_, ?_, ?_, ?_, ?_⟩ <;> first | (simp [*]; done) | exact (Below.refl _ _).drew | assumption))
    (first
      | (go_at_call 87; (with_reducible refine (PutStr_4 _ ?_ _).mono ?_); assumption; rintro e w2 ⟨s, rfl, hsz, hs, hbn⟩)
      | (go_at_call 87; (with_reducible refine (PutStr_2 _ ?_ _).mono ?_); assumption; rintro e w2 ⟨s, rfl, hsz, hs, hbn⟩)
      | (go_at_call 87; (with_reducible refine (PutStr_1 _ ?_ _).mono ?_); assumption; rintro e w2 ⟨s, rfl, hsz, hs, hbn⟩))
  go_wp2_with fail
  go_ret
  have hB := (by assumption : _ ∧ _ ∧ _ ∧ Below w1.heap.size w1 w2 ∧ _)
  refine ⟨?_, ext_trans (b := w1) (by repeat (first | with_reducible exact Below.refl _ _ | with_reducible assumption | with_reducible refine Below.drew ?_ | with_reducible refine Below.alloc ?_ (by first | exact Nat.le_refl _ | omega | (simp; done) | (simp; omega)) _ | with_reducible refine Below.setCell ?_ (by first | exact Nat.le_refl _ | omega | (simp; done) | (simp; omega)) _ | (with_reducible refine ext_trans ?_ (by with_reducible assumption)))) hB.2.2.2.1⟩
  clear hB hb1 hc1 hf1 hz1 hy1_0
  simp only [Hid] at *
  subst_vars
  simp [macIn, ByteArray.mk_append_mk]

theorem sMacInput_yes (a b c seq epoch i : Int) (h : macOk a b c seq epoch i = true) (w : World) :
    Calls Try.prog 63 #[.agg #[.int .i64 a, .int .i64 b, .int .i64 c], .int .i64 seq, .int .i64 epoch, .int .i64 i] w fun e w' => e = .returned (.string ⟨(macIn a b c seq epoch i).toArray⟩) ∧ Below w.heap.size w w' := by
  simp only [macOk, Bool.and_eq_true] at h
  obtain ⟨ht, hs, he, hi⟩ := h
  have p1 : putB a 4 = true := by simp only [tupleB, Bool.and_eq_true] at ht; simpa [putB, inB] using ht.1
  have p2 : putB b 2 = true := by simp only [tupleB, Bool.and_eq_true] at ht; simpa [putB, inB] using ht.2.1
  have p3 : putB c 2 = true := by simp only [tupleB, Bool.and_eq_true] at ht; simpa [putB, inB] using ht.2.2
  have p4 : putB seq 4 = true := by simpa [putB, inB] using hs
  have p5 : putB epoch 4 = true := by simpa [putB, inB] using he
  have p6 : putB i 1 = true := by have := inB_iff.1 hi; simp [putB, inB, wordB]; omega
  go_enter Try.func63, Try.ntmps63
  go_wp2_with fail
  refine (sTupleOk_any _ _ _ _).mono ?_
  rintro e w1 ⟨rfl, hb1⟩
  obtain ⟨hc1, hf1⟩ := bcell hb1
  have hz1 := hb1.size
  (try simp at hz1)
  have hy1_0 : w.heap.size < w1.heap.size := by omega
  go_wp2_with (first | (go_at_call 17; refine (sWordOk_any _ _ _).mono ?_; rintro e w1 ⟨rfl, rfl⟩) | (go_at_call 51; refine (l1In_any _ _ _ _).mono ?_; rintro e w1 ⟨rfl, rfl⟩))
  go_region_held3 (fun w' => w'.cell? ⟨w.heap.size, 0, none⟩ = some (.int .i64 a) ∧ w'.cell? ⟨w.heap.size, 1, none⟩ = some (.int .i64 b) ∧ w'.cell? ⟨w.heap.size, 2, none⟩ = some (.int .i64 c) ∧ Below w1.heap.size w1 w' ∧ w.heap.size < w'.heap.size)
    (first | exact mac_keep (by assumption) hbn | (refine ⟨?_, ?_, ?_, ?_, ?_⟩ <;> first | (simp [*]; done) | exact (Below.refl _ _).drew | assumption))
    (first
      | (go_at_call 91; (with_reducible refine (sPutStr_4 _ ?_ _).mono ?_); assumption; rintro e w2 ⟨s, rfl, hsz, hs, hbn⟩)
      | (go_at_call 91; (with_reducible refine (sPutStr_2 _ ?_ _).mono ?_); assumption; rintro e w2 ⟨s, rfl, hsz, hs, hbn⟩)
      | (go_at_call 91; (with_reducible refine (sPutStr_1 _ ?_ _).mono ?_); assumption; rintro e w2 ⟨s, rfl, hsz, hs, hbn⟩))
  go_wp2_with fail
  go_ret
  have hB := (by assumption : _ ∧ _ ∧ _ ∧ Below w1.heap.size w1 w2 ∧ _)
  refine ⟨?_, ext_trans (b := w1) (by repeat (first | with_reducible exact Below.refl _ _ | with_reducible assumption | with_reducible refine Below.drew ?_ | with_reducible refine Below.alloc ?_ (by first | exact Nat.le_refl _ | omega | (simp; done) | (simp; omega)) _ | with_reducible refine Below.setCell ?_ (by first | exact Nat.le_refl _ | omega | (simp; done) | (simp; omega)) _ | (with_reducible refine ext_trans ?_ (by with_reducible assumption)))) hB.2.2.2.1⟩
  clear hB hb1 hc1 hf1 hz1 hy1_0
  simp only [Hid] at *
  subst_vars
  simp [macIn, ByteArray.mk_append_mk]

theorem MacInput_no (a b c seq epoch i : Int) (h : macOk a b c seq epoch i = false) (w : World) :
    Calls Try.prog 55 #[.agg #[.int .i64 a, .int .i64 b, .int .i64 c], .int .i64 seq, .int .i64 epoch, .int .i64 i] w fun e w' => e = .returned (.string ⟨#[]⟩) ∧ Below w.heap.size w w' := by
  by_cases h1 : tupleB a b c = true
  · by_cases h2 : wordB seq 32 = true
    · by_cases h3 : wordB epoch 32 = true
      · have h4 : inB i 0 7 = false := by simpa [macOk, h1, h2, h3] using h
        clear h
        go_enter Try.func55, Try.ntmps55
        go_wp2_with fail
        refine (TupleOk_any _ _ _ _).mono ?_
        rintro e w1 ⟨rfl, hb1⟩
        obtain ⟨hc1, hf1⟩ := bcell hb1
        have hz1 := hb1.size
        (try simp at hz1)
        have hy1_0 : w.heap.size < w1.heap.size := by omega
        go_wp2_with (first | (go_at_call 57; refine (WordOk_any _ _ _).mono ?_; rintro e w1 ⟨rfl, rfl⟩) | (go_at_call 52; refine (within_any _ _ _ _).mono ?_; rintro e w1 ⟨rfl, rfl⟩))
        go_ret
        exact ⟨rfl, (by repeat (first | with_reducible exact Below.refl _ _ | with_reducible assumption | with_reducible refine Below.drew ?_ | with_reducible refine Below.alloc ?_ (by first | exact Nat.le_refl _ | omega | (simp; done) | (simp; omega)) _ | with_reducible refine Below.setCell ?_ (by first | exact Nat.le_refl _ | omega | (simp; done) | (simp; omega)) _ | (with_reducible refine ext_trans ?_ (by with_reducible assumption))))⟩
      · have h3 : wordB epoch 32 = false := by simpa using h3
        clear h
        go_enter Try.func55, Try.ntmps55
        go_wp2_with fail
        refine (TupleOk_any _ _ _ _).mono ?_
        rintro e w1 ⟨rfl, hb1⟩
        obtain ⟨hc1, hf1⟩ := bcell hb1
        have hz1 := hb1.size
        (try simp at hz1)
        have hy1_0 : w.heap.size < w1.heap.size := by omega
        go_wp2_with (first | (go_at_call 57; refine (WordOk_any _ _ _).mono ?_; rintro e w1 ⟨rfl, rfl⟩) | (go_at_call 52; refine (within_any _ _ _ _).mono ?_; rintro e w1 ⟨rfl, rfl⟩))
        go_ret
        exact ⟨rfl, (by repeat (first | with_reducible exact Below.refl _ _ | with_reducible assumption | with_reducible refine Below.drew ?_ | with_reducible refine Below.alloc ?_ (by first | exact Nat.le_refl _ | omega | (simp; done) | (simp; omega)) _ | with_reducible refine Below.setCell ?_ (by first | exact Nat.le_refl _ | omega | (simp; done) | (simp; omega)) _ | (with_reducible refine ext_trans ?_ (by with_reducible assumption))))⟩
    · have h2 : wordB seq 32 = false := by simpa using h2
      clear h
      go_enter Try.func55, Try.ntmps55
      go_wp2_with fail
      refine (TupleOk_any _ _ _ _).mono ?_
      rintro e w1 ⟨rfl, hb1⟩
      obtain ⟨hc1, hf1⟩ := bcell hb1
      have hz1 := hb1.size
      (try simp at hz1)
      have hy1_0 : w.heap.size < w1.heap.size := by omega
      go_wp2_with (first | (go_at_call 57; refine (WordOk_any _ _ _).mono ?_; rintro e w1 ⟨rfl, rfl⟩) | (go_at_call 52; refine (within_any _ _ _ _).mono ?_; rintro e w1 ⟨rfl, rfl⟩))
      go_ret
      exact ⟨rfl, (by repeat (first | with_reducible exact Below.refl _ _ | with_reducible assumption | with_reducible refine Below.drew ?_ | with_reducible refine Below.alloc ?_ (by first | exact Nat.le_refl _ | omega | (simp; done) | (simp; omega)) _ | with_reducible refine Below.setCell ?_ (by first | exact Nat.le_refl _ | omega | (simp; done) | (simp; omega)) _ | (with_reducible refine ext_trans ?_ (by with_reducible assumption))))⟩
  · have h1 : tupleB a b c = false := by simpa using h1
    clear h
    go_enter Try.func55, Try.ntmps55
    go_wp2_with fail
    refine (TupleOk_any _ _ _ _).mono ?_
    rintro e w1 ⟨rfl, hb1⟩
    obtain ⟨hc1, hf1⟩ := bcell hb1
    have hz1 := hb1.size
    (try simp at hz1)
    have hy1_0 : w.heap.size < w1.heap.size := by omega
    go_wp2_with (first | (go_at_call 57; refine (WordOk_any _ _ _).mono ?_; rintro e w1 ⟨rfl, rfl⟩) | (go_at_call 52; refine (within_any _ _ _ _).mono ?_; rintro e w1 ⟨rfl, rfl⟩))
    go_ret
    exact ⟨rfl, (by repeat (first | with_reducible exact Below.refl _ _ | with_reducible assumption | with_reducible refine Below.drew ?_ | with_reducible refine Below.alloc ?_ (by first | exact Nat.le_refl _ | omega | (simp; done) | (simp; omega)) _ | with_reducible refine Below.setCell ?_ (by first | exact Nat.le_refl _ | omega | (simp; done) | (simp; omega)) _ | (with_reducible refine ext_trans ?_ (by with_reducible assumption))))⟩

theorem MacInput_any (a b c seq epoch i : Int) (w : World) :
    Calls Try.prog 55 #[.agg #[.int .i64 a, .int .i64 b, .int .i64 c], .int .i64 seq, .int .i64 epoch, .int .i64 i] w fun e w' => e = .returned (.string (macS a b c seq epoch i)) ∧ Below w.heap.size w w' := by
  unfold macS
  by_cases h : macOk a b c seq epoch i = true
  · rw [if_pos h]
    exact MacInput_yes a b c seq epoch i h w
  · rw [if_neg h]
    exact MacInput_no a b c seq epoch i (by simpa using h) w

theorem sMacInput_no (a b c seq epoch i : Int) (h : macOk a b c seq epoch i = false) (w : World) :
    Calls Try.prog 63 #[.agg #[.int .i64 a, .int .i64 b, .int .i64 c], .int .i64 seq, .int .i64 epoch, .int .i64 i] w fun e w' => e = .returned (.string ⟨#[]⟩) ∧ Below w.heap.size w w' := by
  by_cases h1 : tupleB a b c = true
  · by_cases h2 : wordB seq 32 = true
    · by_cases h3 : wordB epoch 32 = true
      · have h4 : inB i 0 7 = false := by simpa [macOk, h1, h2, h3] using h
        clear h
        go_enter Try.func63, Try.ntmps63
        go_wp2_with fail
        refine (sTupleOk_any _ _ _ _).mono ?_
        rintro e w1 ⟨rfl, hb1⟩
        obtain ⟨hc1, hf1⟩ := bcell hb1
        have hz1 := hb1.size
        (try simp at hz1)
        have hy1_0 : w.heap.size < w1.heap.size := by omega
        go_wp2_with (first | (go_at_call 17; refine (sWordOk_any _ _ _).mono ?_; rintro e w1 ⟨rfl, rfl⟩) | (go_at_call 51; refine (l1In_any _ _ _ _).mono ?_; rintro e w1 ⟨rfl, rfl⟩))
        go_ret
        exact ⟨rfl, (by repeat (first | with_reducible exact Below.refl _ _ | with_reducible assumption | with_reducible refine Below.drew ?_ | with_reducible refine Below.alloc ?_ (by first | exact Nat.le_refl _ | omega | (simp; done) | (simp; omega)) _ | with_reducible refine Below.setCell ?_ (by first | exact Nat.le_refl _ | omega | (simp; done) | (simp; omega)) _ | (with_reducible refine ext_trans ?_ (by with_reducible assumption))))⟩
      · have h3 : wordB epoch 32 = false := by simpa using h3
        clear h
        go_enter Try.func63, Try.ntmps63
        go_wp2_with fail
        refine (sTupleOk_any _ _ _ _).mono ?_
        rintro e w1 ⟨rfl, hb1⟩
        obtain ⟨hc1, hf1⟩ := bcell hb1
        have hz1 := hb1.size
        (try simp at hz1)
        have hy1_0 : w.heap.size < w1.heap.size := by omega
        go_wp2_with (first | (go_at_call 17; refine (sWordOk_any _ _ _).mono ?_; rintro e w1 ⟨rfl, rfl⟩) | (go_at_call 51; refine (l1In_any _ _ _ _).mono ?_; rintro e w1 ⟨rfl, rfl⟩))
        go_ret
        exact ⟨rfl, (by repeat (first | with_reducible exact Below.refl _ _ | with_reducible assumption | with_reducible refine Below.drew ?_ | with_reducible refine Below.alloc ?_ (by first | exact Nat.le_refl _ | omega | (simp; done) | (simp; omega)) _ | with_reducible refine Below.setCell ?_ (by first | exact Nat.le_refl _ | omega | (simp; done) | (simp; omega)) _ | (with_reducible refine ext_trans ?_ (by with_reducible assumption))))⟩
    · have h2 : wordB seq 32 = false := by simpa using h2
      clear h
      go_enter Try.func63, Try.ntmps63
      go_wp2_with fail
      refine (sTupleOk_any _ _ _ _).mono ?_
      rintro e w1 ⟨rfl, hb1⟩
      obtain ⟨hc1, hf1⟩ := bcell hb1
      have hz1 := hb1.size
      (try simp at hz1)
      have hy1_0 : w.heap.size < w1.heap.size := by omega
      go_wp2_with (first | (go_at_call 17; refine (sWordOk_any _ _ _).mono ?_; rintro e w1 ⟨rfl, rfl⟩) | (go_at_call 51; refine (l1In_any _ _ _ _).mono ?_; rintro e w1 ⟨rfl, rfl⟩))
      go_ret
      exact ⟨rfl, (by repeat (first | with_reducible exact Below.refl _ _ | with_reducible assumption | with_reducible refine Below.drew ?_ | with_reducible refine Below.alloc ?_ (by first | exact Nat.le_refl _ | omega | (simp; done) | (simp; omega)) _ | with_reducible refine Below.setCell ?_ (by first | exact Nat.le_refl _ | omega | (simp; done) | (simp; omega)) _ | (with_reducible refine ext_trans ?_ (by with_reducible assumption))))⟩
  · have h1 : tupleB a b c = false := by simpa using h1
    clear h
    go_enter Try.func63, Try.ntmps63
    go_wp2_with fail
    refine (sTupleOk_any _ _ _ _).mono ?_
    rintro e w1 ⟨rfl, hb1⟩
    obtain ⟨hc1, hf1⟩ := bcell hb1
    have hz1 := hb1.size
    (try simp at hz1)
    have hy1_0 : w.heap.size < w1.heap.size := by omega
    go_wp2_with (first | (go_at_call 17; refine (sWordOk_any _ _ _).mono ?_; rintro e w1 ⟨rfl, rfl⟩) | (go_at_call 51; refine (l1In_any _ _ _ _).mono ?_; rintro e w1 ⟨rfl, rfl⟩))
    go_ret
    exact ⟨rfl, (by repeat (first | with_reducible exact Below.refl _ _ | with_reducible assumption | with_reducible refine Below.drew ?_ | with_reducible refine Below.alloc ?_ (by first | exact Nat.le_refl _ | omega | (simp; done) | (simp; omega)) _ | with_reducible refine Below.setCell ?_ (by first | exact Nat.le_refl _ | omega | (simp; done) | (simp; omega)) _ | (with_reducible refine ext_trans ?_ (by with_reducible assumption))))⟩

theorem sMacInput_any (a b c seq epoch i : Int) (w : World) :
    Calls Try.prog 63 #[.agg #[.int .i64 a, .int .i64 b, .int .i64 c], .int .i64 seq, .int .i64 epoch, .int .i64 i] w fun e w' => e = .returned (.string (macS a b c seq epoch i)) ∧ Below w.heap.size w w' := by
  unfold macS
  by_cases h : macOk a b c seq epoch i = true
  · rw [if_pos h]
    exact sMacInput_yes a b c seq epoch i h w
  · rw [if_neg h]
    exact sMacInput_no a b c seq epoch i (by simpa using h) w

end Go.Proofs.Ytjlnbjabehpncaa
