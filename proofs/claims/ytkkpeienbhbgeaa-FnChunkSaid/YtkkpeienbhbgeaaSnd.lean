/-
  Contracts of the functions on senders.
-/
import Derived.Test.YtkkpeienbhbgeaaNum
import Derived.Test.YtkkpeienbhbgeaaBits
import Derived.Test.YtkkpeienbhbgeaaStr
import Derived.Test.YtkkpeienbhbgeaaReg
import Derived.Deep.QuietTactic
import Derived.BigQuiet
namespace Go.Proofs.Ytkkpeienbhbgeaa
open Go.RowKit

theorem toSender_any (u : Int) (d : ByteArray) (s : Int) (f fs dn : Bool) (w : World) :
    Calls Try.prog 16 #[.agg #[.int .i64 u, .string d, .int .i64 s, .bool f, .bool fs, .bool dn]] w fun e w' => e = .returned (.agg #[.int .i64 u, .string d, .int .i64 s, .bool f, .bool fs, .bool dn]) ∧ Below w.heap.size w w' := by
  go_enter Try.func16, Try.ntmps16
  go_wp2
  exact bodyPost_ret (v := .agg #[.int .i64 u, .string d, .int .i64 s, .bool f, .bool fs, .bool dn]) (by simp [results, Try.results16, go_sem]) rfl ⟨rfl, (by repeat (first | with_reducible exact Below.refl _ _ | with_reducible assumption | with_reducible refine Below.drew ?_ | with_reducible refine Below.alloc ?_ (by first | exact Nat.le_refl _ | omega | (simp; done) | (simp; omega)) _ | with_reducible refine Below.setCell ?_ (by first | exact Nat.le_refl _ | omega | (simp; done) | (simp; omega)) _ | (with_reducible refine ext_trans ?_ (by with_reducible assumption))))⟩

theorem eqSender_same (u : Int) (d : ByteArray) (s : Int) (f fs dn : Bool) (w : World) :
    Calls Try.prog 22 #[.agg #[.int .i64 u, .string d, .int .i64 s, .bool f, .bool fs, .bool dn], .agg #[.int .i64 u, .string d, .int .i64 s, .bool f, .bool fs, .bool dn]] w fun e w' => e = .returned (.bool true) ∧ Below w.heap.size w w' := by
  go_enter Try.func22, Try.ntmps22
  go_wp2
  go_ret
  exact ⟨rfl, (by repeat (first | with_reducible exact Below.refl _ _ | with_reducible assumption | with_reducible refine Below.drew ?_ | with_reducible refine Below.alloc ?_ (by first | exact Nat.le_refl _ | omega | (simp; done) | (simp; omega)) _ | with_reducible refine Below.setCell ?_ (by first | exact Nat.le_refl _ | omega | (simp; done) | (simp; omega)) _ | (with_reducible refine ext_trans ?_ (by with_reducible assumption))))⟩

theorem szSender_any (u : Int) (d : ByteArray) (s : Int) (f fs dn : Bool) (left : Int) (h1 : -1 ≤ left) (h2 : left ≤ 1048576) (hs : d.size ≤ maxLen) (w : World) :
    Calls Try.prog 14 #[.agg #[.int .i64 u, .string d, .int .i64 s, .bool f, .bool fs, .bool dn], .int .i64 left] w fun e w' => (e = .returned (.int .i64 (if left - d.size < 0 then -1 else left - d.size))) ∧ Below w.heap.size w w' := by
  unfold maxLen at hs
  by_cases h : left - d.size < 0
  · rw [if_pos h]
    go_enter Try.func14, Try.ntmps14
    go_wp2
    go_ret
    exact ⟨rfl, (by repeat (first | with_reducible exact Below.refl _ _ | with_reducible assumption | with_reducible refine Below.drew ?_ | with_reducible refine Below.alloc ?_ (by first | exact Nat.le_refl _ | omega | (simp; done) | (simp; omega)) _ | with_reducible refine Below.setCell ?_ (by first | exact Nat.le_refl _ | omega | (simp; done) | (simp; omega)) _ | (with_reducible refine ext_trans ?_ (by with_reducible assumption))))⟩
  · rw [if_neg h]
    go_enter Try.func14, Try.ntmps14
    go_wp2
    go_ret
    exact ⟨rfl, (by repeat (first | with_reducible exact Below.refl _ _ | with_reducible assumption | with_reducible refine Below.drew ?_ | with_reducible refine Below.alloc ?_ (by first | exact Nat.le_refl _ | omega | (simp; done) | (simp; omega)) _ | with_reducible refine Below.setCell ?_ (by first | exact Nat.le_refl _ | omega | (simp; done) | (simp; omega)) _ | (with_reducible refine ext_trans ?_ (by with_reducible assumption))))⟩

theorem toChunk_any (q : Int) (x : ByteArray) (cf : Bool) (w : World) :
    Calls Try.prog 27 #[.agg #[.int .i64 q, .string x, .bool cf]] w fun e w' => e = .returned (.agg #[.int .i64 q, .string x, .bool cf]) ∧ Below w.heap.size w w' := by
  go_enter Try.func27, Try.ntmps27
  go_wp2
  exact bodyPost_ret (v := .agg #[.int .i64 q, .string x, .bool cf]) (by simp [results, Try.results27, go_sem]) rfl ⟨rfl, (by repeat (first | with_reducible exact Below.refl _ _ | with_reducible assumption | with_reducible refine Below.drew ?_ | with_reducible refine Below.alloc ?_ (by first | exact Nat.le_refl _ | omega | (simp; done) | (simp; omega)) _ | with_reducible refine Below.setCell ?_ (by first | exact Nat.le_refl _ | omega | (simp; done) | (simp; omega)) _ | (with_reducible refine ext_trans ?_ (by with_reducible assumption))))⟩

theorem eqChunk_same (q : Int) (x : ByteArray) (cf : Bool) (w : World) :
    Calls Try.prog 31 #[.agg #[.int .i64 q, .string x, .bool cf], .agg #[.int .i64 q, .string x, .bool cf]] w fun e w' => e = .returned (.bool true) ∧ Below w.heap.size w w' := by
  go_enter Try.func31, Try.ntmps31
  go_wp2
  go_ret
  exact ⟨rfl, (by repeat (first | with_reducible exact Below.refl _ _ | with_reducible assumption | with_reducible refine Below.drew ?_ | with_reducible refine Below.alloc ?_ (by first | exact Nat.le_refl _ | omega | (simp; done) | (simp; omega)) _ | with_reducible refine Below.setCell ?_ (by first | exact Nat.le_refl _ | omega | (simp; done) | (simp; omega)) _ | (with_reducible refine ext_trans ?_ (by with_reducible assumption))))⟩

theorem szChunk_any (q : Int) (x : ByteArray) (cf : Bool) (left : Int) (h1 : -1 ≤ left) (h2 : left ≤ 1048576) (hs : x.size ≤ maxLen) (w : World) :
    Calls Try.prog 25 #[.agg #[.int .i64 q, .string x, .bool cf], .int .i64 left] w fun e w' => (e = .returned (.int .i64 (if left - x.size < 0 then -1 else left - x.size))) ∧ Below w.heap.size w w' := by
  unfold maxLen at hs
  by_cases h : left - x.size < 0
  · rw [if_pos h]
    go_enter Try.func25, Try.ntmps25
    go_wp2
    go_ret
    exact ⟨rfl, (by repeat (first | with_reducible exact Below.refl _ _ | with_reducible assumption | with_reducible refine Below.drew ?_ | with_reducible refine Below.alloc ?_ (by first | exact Nat.le_refl _ | omega | (simp; done) | (simp; omega)) _ | with_reducible refine Below.setCell ?_ (by first | exact Nat.le_refl _ | omega | (simp; done) | (simp; omega)) _ | (with_reducible refine ext_trans ?_ (by with_reducible assumption))))⟩
  · rw [if_neg h]
    go_enter Try.func25, Try.ntmps25
    go_wp2
    go_ret
    exact ⟨rfl, (by repeat (first | with_reducible exact Below.refl _ _ | with_reducible assumption | with_reducible refine Below.drew ?_ | with_reducible refine Below.alloc ?_ (by first | exact Nat.le_refl _ | omega | (simp; done) | (simp; omega)) _ | with_reducible refine Below.setCell ?_ (by first | exact Nat.le_refl _ | omega | (simp; done) | (simp; omega)) _ | (with_reducible refine ext_trans ?_ (by with_reducible assumption))))⟩

def sndB (u : Int) (d : ByteArray) (s : Int) (f fs dn : Bool) : Bool :=
  wordB u 32 && (decide ((d.size : Int) ≤ 48) && (inB s 0 d.size && ((!fs || (f && (s == (d.size : Int)))) && (!dn || (f && (!fs && d.toList.isEmpty))))))

theorem SenderOk_any (u : Int) (d : ByteArray) (s : Int) (f fs dn : Bool) (hd : d.size ≤ maxLen) (w : World) :
    Calls Try.prog 19 #[.agg #[.int .i64 u, .string d, .int .i64 s, .bool f, .bool fs, .bool dn]] w fun e w' => e = .returned (.bool (sndB u d s f fs dn)) ∧ Below w.heap.size w w' := by
  unfold maxLen at hd
  go_enter Try.func19, Try.ntmps19
  go_wp2_with (first | (go_at_call 47; refine (WordOk_any _ _ _).mono ?_; rintro e w1 ⟨rfl, rfl⟩) | (go_at_call 48; refine (within_any _ _ _ _).mono ?_; rintro e w1 ⟨rfl, rfl⟩))
  all_goals
    go_ret
    refine ⟨?_, (by repeat (first | with_reducible exact Below.refl _ _ | with_reducible assumption | with_reducible refine Below.drew ?_ | with_reducible refine Below.alloc ?_ (by first | exact Nat.le_refl _ | omega | (simp; done) | (simp; omega)) _ | with_reducible refine Below.setCell ?_ (by first | exact Nat.le_refl _ | omega | (simp; done) | (simp; omega)) _ | (with_reducible refine ext_trans ?_ (by with_reducible assumption))))⟩
    first
      | (simp_all [sndB]; done)
      | (have h9 : inB s 0 (d.size : Int) = false := by
           rcases (by assumption : (48 : Int) < (d.size : Int) ∨ (!inB s 0 (d.size : Int)) = true) with h | h
           · omega
           · simpa using h
         simp [sndB, h9])
      | (have h9 : decide ((d.size : Int) ≤ 48) = false := by rw [decide_eq_false_iff_not]; omega
         simp only [sndB, h9]
         simp)

theorem sSenderOk_any (u : Int) (d : ByteArray) (s : Int) (f fs dn : Bool) (hd : d.size ≤ maxLen) (w : World) :
    Calls Try.prog 18 #[.agg #[.int .i64 u, .string d, .int .i64 s, .bool f, .bool fs, .bool dn]] w fun e w' => e = .returned (.bool (sndB u d s f fs dn)) ∧ Below w.heap.size w w' := by
  unfold maxLen at hd
  go_enter Try.func18, Try.ntmps18
  go_wp2_with (first | (go_at_call 45; refine (sWordOk_any _ _ _).mono ?_; rintro e w1 ⟨rfl, rfl⟩) | (go_at_call 46; refine (l1In_any _ _ _ _).mono ?_; rintro e w1 ⟨rfl, rfl⟩))
  all_goals
    go_ret
    refine ⟨?_, (by repeat (first | with_reducible exact Below.refl _ _ | with_reducible assumption | with_reducible refine Below.drew ?_ | with_reducible refine Below.alloc ?_ (by first | exact Nat.le_refl _ | omega | (simp; done) | (simp; omega)) _ | with_reducible refine Below.setCell ?_ (by first | exact Nat.le_refl _ | omega | (simp; done) | (simp; omega)) _ | (with_reducible refine ext_trans ?_ (by with_reducible assumption))))⟩
    first
      | (simp_all [sndB]; done)
      | (have h9 : inB s 0 (d.size : Int) = false := by
           rcases (by assumption : (48 : Int) < (d.size : Int) ∨ (!inB s 0 (d.size : Int)) = true) with h | h
           · omega
           · simpa using h
         simp [sndB, h9])
      | (have h9 : decide ((d.size : Int) ≤ 48) = false := by rw [decide_eq_false_iff_not]; omega
         simp only [sndB, h9]
         simp)


def seqAdd (a n : Int) : Int := (a + n) % 4294967296
def fly (s : Int) (fs : Bool) : Int := if fs then wrap64 (s + 1) else s
theorem fly_bd {s : Int} {fs : Bool} (h1 : -9223372036854775808 ≤ s) (h2 : s ≤ 9223372036854775807) : -9223372036854775808 ≤ fly s fs ∧ fly s fs ≤ 9223372036854775807 := by
  unfold fly wrap64
  split <;> omega

theorem flying_any (u : Int) (d : ByteArray) (s : Int) (f fs dn : Bool) (w : World) :
    Calls Try.prog 44 #[.agg #[.int .i64 u, .string d, .int .i64 s, .bool f, .bool fs, .bool dn]] w fun e w' => e = .returned (.int .i64 (fly s fs)) ∧ Below w.heap.size w w' := by
  cases fs
  all_goals
    go_enter Try.func44, Try.ntmps44
    go_wp2
    go_ret
    exact ⟨rfl, (by repeat (first | with_reducible exact Below.refl _ _ | with_reducible assumption | with_reducible refine Below.drew ?_ | with_reducible refine Below.alloc ?_ (by first | exact Nat.le_refl _ | omega | (simp; done) | (simp; omega)) _ | with_reducible refine Below.setCell ?_ (by first | exact Nat.le_refl _ | omega | (simp; done) | (simp; omega)) _ | (with_reducible refine ext_trans ?_ (by with_reducible assumption))))⟩
theorem flown_any (u : Int) (d : ByteArray) (s : Int) (f fs dn : Bool) (w : World) :
    Calls Try.prog 43 #[.agg #[.int .i64 u, .string d, .int .i64 s, .bool f, .bool fs, .bool dn]] w fun e w' => e = .returned (.int .i64 (fly s fs)) ∧ Below w.heap.size w w' := by
  cases fs
  all_goals
    go_enter Try.func43, Try.ntmps43
    go_wp2
    go_ret
    exact ⟨rfl, (by repeat (first | with_reducible exact Below.refl _ _ | with_reducible assumption | with_reducible refine Below.drew ?_ | with_reducible refine Below.alloc ?_ (by first | exact Nat.le_refl _ | omega | (simp; done) | (simp; omega)) _ | with_reducible refine Below.setCell ?_ (by first | exact Nat.le_refl _ | omega | (simp; done) | (simp; omega)) _ | (with_reducible refine ext_trans ?_ (by with_reducible assumption))))⟩
theorem SeqAdd_any (a n : Int) (w : World) :
    Calls Try.prog 38 #[.int .i64 a, .int .i64 n] w fun e w' => e = .returned (.int .i64 (seqAdd a n)) ∧ w = w' := by
  have HM := Lib.hid and_32bits
  go_enter Try.func38, Try.ntmps38
  go_wp2
  go_ret
  refine ⟨?_, rfl⟩
  simp only [seqAdd]
  simp [HM.out]
  unfold wrap64
  omega
theorem sSeqAdd_any (a n : Int) (h1 : -9223372036854775808 ≤ a) (h2 : a ≤ 9223372036854775807) (h3 : -9223372036854775808 ≤ n) (h4 : n ≤ 9223372036854775807) (w : World) :
    Calls Try.prog 42 #[.int .i64 a, .int .i64 n] w fun e w' => e = .returned (.int .i64 (seqAdd a n)) ∧ w = w' := by
  obtain ⟨b1, b2⟩ := rest32_bd a
  obtain ⟨b3, b4⟩ := rest32_bd n
  go_enter Try.func42, Try.ntmps42
  go_wp2_with fail
  refine (l4Rest_any a h1 h2 _).mono ?_
  rintro e w' ⟨rfl, rfl⟩
  go_wp2_with fail
  refine (l4Rest_any n h3 h4 _).mono ?_
  rintro e w' ⟨rfl, rfl⟩
  go_wp2_with fail
  refine (l4Rest_any _ (by omega) (by omega) _).mono ?_
  rintro e w' ⟨rfl, rfl⟩
  go_wp2_with fail
  go_ret
  refine ⟨?_, rfl⟩
  simp [seqAdd, rest32]

theorem NextOf_any (u : Int) (d : ByteArray) (s : Int) (f fs dn : Bool) (w : World) :
    Calls Try.prog 17 #[.agg #[.int .i64 u, .string d, .int .i64 s, .bool f, .bool fs, .bool dn]] w fun e w' => e = .returned (.int .i64 (seqAdd u (fly s fs))) ∧ Below w.heap.size w w' := by
  go_enter Try.func17, Try.ntmps17
  go_wp2_with fail
  first | go_region_held3 (fun w' => (∀ b' o, b' < (w.alloc (.cells #[.int .i64 u, .string d, .int .i64 s, .bool f, .bool fs, .bool dn] 26)).heap.size → w'.cell? ⟨b', o, none⟩ = (w.alloc (.cells #[.int .i64 u, .string d, .int .i64 s, .bool f, .bool fs, .bool dn] 26)).cell? ⟨b', o, none⟩) ∧ Below (w.alloc (.cells #[.int .i64 u, .string d, .int .i64 s, .bool f, .bool fs, .bool dn] 26)).heap.size (w.alloc (.cells #[.int .i64 u, .string d, .int .i64 s, .bool f, .bool fs, .bool dn] 26)) w') (first | with_reducible assumption | (with_reducible apply rg_keep; rotate_left; with_reducible assumption; with_reducible assumption) | with_reducible exact rg_start _ | with_reducible exact rg_alloc (KeptS.out (by with_reducible assumption)) _ | with_reducible exact rg_alloc (by with_reducible assumption) _ | with_reducible exact rg_start_alloc _ _ | ((repeat (with_reducible refine rg_set ?_ _ (by first | exact Nat.le_refl _ | omega | (simp; done) | (simp; omega)) _)); first | with_reducible exact KeptS.out (by with_reducible assumption) | with_reducible assumption | with_reducible exact rg_alloc (KeptS.out (by with_reducible assumption)) _)) (first | (go_at_call 44; ((with_reducible refine (flying_any _ _ _ _ _ _ _).mono ?_); rintro e wr ⟨rfl, hbn⟩; have hS := rg_keepK (by with_reducible assumption) hbn; have hL := hS.size; (try have hZ := row_after hbn); (try have hZ := row_after_drew hbn); (try have hZ := row_kept (by assumption) hbn); (try (have rz := row_facts hZ; obtain ⟨rz0, rz1, rz2, rz3, rz4, rz5, fz⟩ := rz)))) | (go_at_call 38; ((with_reducible refine (SeqAdd_any _ _ _).mono ?_); rintro e w' ⟨rfl, rfl⟩))) | fail
  have hR := (by assumption : _ ∧ Below (w.alloc _).heap.size (w.alloc _) wr)
  go_wp2_with fail
  go_ret
  exact ⟨rfl, ext_trans (by repeat (first | with_reducible exact Below.refl _ _ | with_reducible assumption | with_reducible refine Below.drew ?_ | with_reducible refine Below.alloc ?_ (by first | exact Nat.le_refl _ | omega | (simp; done) | (simp; omega)) _ | with_reducible refine Below.setCell ?_ (by first | exact Nat.le_refl _ | omega | (simp; done) | (simp; omega)) _ | (with_reducible refine ext_trans ?_ (by with_reducible assumption)))) hR.2⟩
theorem sNextOf_any (u : Int) (d : ByteArray) (s : Int) (f fs dn : Bool) (h1 : -9223372036854775808 ≤ u) (h2 : u ≤ 9223372036854775807) (h3 : -9223372036854775808 ≤ s) (h4 : s ≤ 9223372036854775807) (w : World) :
    Calls Try.prog 15 #[.agg #[.int .i64 u, .string d, .int .i64 s, .bool f, .bool fs, .bool dn]] w fun e w' => e = .returned (.int .i64 (seqAdd u (fly s fs))) ∧ Below w.heap.size w w' := by
  obtain ⟨h5, h6⟩ := fly_bd (fs := fs) h3 h4
  go_enter Try.func15, Try.ntmps15
  go_wp2_with fail
  first | go_region_held3 (fun w' => (∀ b' o, b' < (w.alloc (.cells #[.int .i64 u, .string d, .int .i64 s, .bool f, .bool fs, .bool dn] 26)).heap.size → w'.cell? ⟨b', o, none⟩ = (w.alloc (.cells #[.int .i64 u, .string d, .int .i64 s, .bool f, .bool fs, .bool dn] 26)).cell? ⟨b', o, none⟩) ∧ Below (w.alloc (.cells #[.int .i64 u, .string d, .int .i64 s, .bool f, .bool fs, .bool dn] 26)).heap.size (w.alloc (.cells #[.int .i64 u, .string d, .int .i64 s, .bool f, .bool fs, .bool dn] 26)) w') (first | with_reducible assumption | (with_reducible apply rg_keep; rotate_left; with_reducible assumption; with_reducible assumption) | with_reducible exact rg_start _ | with_reducible exact rg_alloc (KeptS.out (by with_reducible assumption)) _ | with_reducible exact rg_alloc (by with_reducible assumption) _ | with_reducible exact rg_start_alloc _ _ | ((repeat (with_reducible refine rg_set ?_ _ (by first | exact Nat.le_refl _ | omega | (simp; done) | (simp; omega)) _)); first | with_reducible exact KeptS.out (by with_reducible assumption) | with_reducible assumption | with_reducible exact rg_alloc (KeptS.out (by with_reducible assumption)) _)) (first | (go_at_call 43; ((with_reducible refine (flown_any _ _ _ _ _ _ _).mono ?_); rintro e wr ⟨rfl, hbn⟩; have hS := rg_keepK (by with_reducible assumption) hbn; have hL := hS.size; (try have hZ := row_after hbn); (try have hZ := row_after_drew hbn); (try have hZ := row_kept (by assumption) hbn); (try (have rz := row_facts hZ; obtain ⟨rz0, rz1, rz2, rz3, rz4, rz5, fz⟩ := rz)))) | (go_at_call 42; ((with_reducible refine (sSeqAdd_any _ _ h1 h2 h5 h6 _).mono ?_); rintro e w' ⟨rfl, rfl⟩))) | fail
  have hR := (by assumption : _ ∧ Below (w.alloc _).heap.size (w.alloc _) wr)
  go_wp2_with fail
  go_ret
  exact ⟨rfl, ext_trans (by repeat (first | with_reducible exact Below.refl _ _ | with_reducible assumption | with_reducible refine Below.drew ?_ | with_reducible refine Below.alloc ?_ (by first | exact Nat.le_refl _ | omega | (simp; done) | (simp; omega)) _ | with_reducible refine Below.setCell ?_ (by first | exact Nat.le_refl _ | omega | (simp; done) | (simp; omega)) _ | (with_reducible refine ext_trans ?_ (by with_reducible assumption)))) hR.2⟩
end Go.Proofs.Ytkkpeienbhbgeaa
