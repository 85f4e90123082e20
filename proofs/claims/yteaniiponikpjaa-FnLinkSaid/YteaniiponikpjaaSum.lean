/-
  Contracts of WordSum, Folded, SumOf, the program's and the reference's.
-/
import Derived.Test.YteaniiponikpjaaReg
import Derived.Test.YteaniiponikpjaaTxt
import Derived.Test.YteaniiponikpjaaNum
import Derived.LoopTactic
import Derived.IntWalk
namespace Go.Proofs.Yteaniiponikpjaa
set_option maxRecDepth 100000
open Go.RowKit

/-- The sum of a text's words of 16 bits; hi: the next byte is a high one. -/
def wsF (hi : Bool) : List UInt8 → Int
  | [] => 0
  | x :: r => (if hi then 256 * (x.toNat : Int) else (x.toNat : Int)) + wsF (!hi) r
theorem wsF_app : ∀ (l r : List UInt8) (hi : Bool), wsF hi (l ++ r) = wsF hi l + wsF (hi != (l.length % 2 == 1)) r
  | [], r, hi => by cases hi <;> simp [wsF]
  | x :: l, r, hi => by
    rw [List.cons_append, wsF, wsF, wsF_app l r (!hi), Int.add_assoc]
    congr 2
    rcases Nat.mod_two_eq_zero_or_one l.length with h | h <;> cases hi <;> simp [List.length_cons, Nat.add_mod, h]
theorem wsF_even (l r : List UInt8) (h : l.length % 2 = 0) : wsF true (l ++ r) = wsF true l + wsF true r := by
  rw [wsF_app]
  simp [h]
theorem wsF_bd : ∀ (l : List UInt8) (hi : Bool), 0 ≤ wsF hi l ∧ wsF hi l ≤ 65280 * (l.length : Int)
  | [], _ => by simp [wsF]
  | x :: l, hi => by
    have := wsF_bd l (!hi)
    have hx : x.toNat ≤ 255 := by have := x.toNat_lt; omega
    rw [wsF, List.length_cons]
    cases hi
    · simp only [Bool.not_false, Bool.false_eq_true, if_false] at this ⊢
      omega
    · simp only [Bool.not_true, if_true] at this ⊢
      omega
theorem wsF_succ {l : List UInt8} {k : Nat} (hk : k < l.length) {x : Int} (h : wsF true (l.take k) = x) : wsF true (l.take (k + 1)) = x + (if k % 2 = 0 then 256 * ((l[k].toNat : Int)) else (l[k].toNat : Int)) := by
  rw [List.take_succ_eq_append_getElem hk, wsF_app, h, List.length_take, Nat.min_eq_left (by omega)]
  rcases Nat.mod_two_eq_zero_or_one k with h | h <;> simp [h, wsF]
def foldN (n : Nat) : Nat := if n < 65536 then n else foldN (n / 65536 + n % 65536)
termination_by n
decreasing_by omega
theorem foldN_lt {n : Nat} (h : n < 65536) : foldN n = n := by rw [foldN, if_pos h]
theorem foldN_ge {n : Nat} (h : ¬ n < 65536) : foldN n = foldN (n / 65536 + n % 65536) := by rw [foldN, if_neg h]
theorem foldN_le (n : Nat) : foldN n ≤ 65535 := by
  induction n using Nat.strongRecOn with
  | _ n ih =>
    by_cases h : n < 65536
    · rw [foldN_lt h]; omega
    · rw [foldN_ge h]; exact ih _ (by omega)

/-- What makes a text's sum right. -/
def sumR (l : List UInt8) : Int := 65535 - (foldN (wsF true l).toNat : Int)
theorem sumR_bd (l : List UInt8) : 0 ≤ sumR l ∧ sumR l ≤ 65535 := by
  unfold sumR
  have := foldN_le (wsF true l).toNat
  omega
theorem Folded_any (n : Nat) (hn : n ≤ 1000000000000) (w : World) :
    Calls Try.prog 111 #[.int .i64 n] w fun e w' => e = .returned (.int .i64 (foldN n : Nat)) ∧ w = w' := by
  have hn0 : ¬ ((n : Int) < 0) := by omega
  go_enter Try.func111, Try.ntmps111
  go_wp2_with fail
  go_loopw [0] (fun v wr => ∃ m : Nat, v = .int .i64 m ∧ m ≤ 1000000000000 ∧ Hid (foldN m = foldN n) ∧ wr = w) (fun v _ => (intOf v).toNat)
  case atStart => exact ⟨n, rfl, hn, rfl, rfl⟩
  case round =>
    obtain ⟨m, rfl, hm, hf, rfl⟩ := hrel
    by_cases hlt : m < 65536
    · have hl : ¬ (65536 : Int) ≤ (m : Int) := by omega
      have hl2 : ¬ (65535 : Int) < (m : Int) := by omega
      have HR := Lib.hid ((foldN_lt hlt).symm.trans hf.out)
      go_wp2_with fail
      go_ret
      exact ⟨by rw [← HR.out]; rfl, rfl⟩
    · have hl : (65536 : Int) ≤ (m : Int) := by omega
      have hl2 : (65535 : Int) < (m : Int) := by omega
      have HR := Lib.hid ((foldN_ge hlt).symm.trans hf.out)
      go_wp2_with fail
      refine ⟨⟨m / 65536 + m % 65536, by go_num, by omega, HR.out, by first | rfl | trivial⟩, ?_⟩
      simp only [intOf]
      omega
theorem sFolded_any (n : Nat) (hn : n ≤ 1000000000000) (w : World) :
    Calls Try.prog 109 #[.int .i64 n] w fun e w' => e = .returned (.int .i64 (foldN n : Nat)) ∧ w = w' := by
  have hn0 : ¬ ((n : Int) < 0) := by omega
  go_enter Try.func109, Try.ntmps109
  go_wp2_with fail
  go_loopw [0] (fun v wr => ∃ m : Nat, v = .int .i64 m ∧ m ≤ 1000000000000 ∧ Hid (foldN m = foldN n) ∧ wr = w) (fun v _ => (intOf v).toNat)
  case atStart => exact ⟨n, rfl, hn, rfl, rfl⟩
  case round =>
    obtain ⟨m, rfl, hm, hf, rfl⟩ := hrel
    by_cases hlt : m < 65536
    · have hl : ¬ (65536 : Int) ≤ (m : Int) := by omega
      have hl2 : ¬ (65535 : Int) < (m : Int) := by omega
      have HR := Lib.hid ((foldN_lt hlt).symm.trans hf.out)
      go_wp2_with fail
      go_ret
      exact ⟨by rw [← HR.out]; rfl, rfl⟩
    · have hl : (65536 : Int) ≤ (m : Int) := by omega
      have hl2 : (65535 : Int) < (m : Int) := by omega
      have HR := Lib.hid ((foldN_ge hlt).symm.trans hf.out)
      go_wp2_with fail
      refine ⟨⟨m / 65536 + m % 65536, by go_num, by omega, HR.out, by first | rfl | trivial⟩, ?_⟩
      simp only [intOf]
      omega
theorem WordSum_any (s : ByteArray) (hs : s.size ≤ 1048576) (w : World) :
    Calls Try.prog 112 #[.string s] w fun e w' => e = .returned (.int .i64 (wsF true s.data.toList)) ∧ w = w' := by
  go_enter Try.func112, Try.ntmps112
  go_wp2_with fail
  go_loopw [3, 4] (fun v i wr => ∃ (k : Nat) (x : Int), k ≤ s.size ∧ i = .int .i64 k ∧ v = .int .i64 x ∧ (0 ≤ x ∧ x ≤ 65280 * (k : Int)) ∧ Hid (wsF true (s.data.toList.take k) = x) ∧ wr = w) (fun _ i _ => s.size - (intOf i).toNat)
  case atStart => exact ⟨0, 0, by omega, rfl, rfl, by omega, rfl, rfl⟩
  case round =>
    obtain ⟨k, x, hk, rfl, rfl, ⟨hx0, hx1⟩, hx, rfl⟩ := hrel
    by_cases hlt : k < s.size
    · have hlt' : (k : Int) < (s.size : Int) := by omega
      have hby : (s[k].toNat : Int) ≤ 255 := by have := s[k].toNat_lt; omega
      by_cases he : k % 2 = 0
      · have he' : (k : Int) % 2 = 0 := by omega
        have hnx : wsF true (s.data.toList.take (k + 1)) = x + 256 * (s[k].toNat : Int) := (wsF_succ (by simpa using hlt) hx.out).trans (by rw [if_pos he]; rfl)
        have HN := Lib.hid hnx
        clear hnx
        go_wp2_with fail
        refine ⟨⟨k + 1, x + 256 * (s[k].toNat : Int), by omega, by go_num, ?_, by omega, HN.out, by first | rfl | trivial⟩, by simp [intOf]; omega⟩
        refine congrArg (Value.int .i64) ?_
        omega
      · have he' : ¬ (k : Int) % 2 = 0 := by omega
        have hnx : wsF true (s.data.toList.take (k + 1)) = x + (s[k].toNat : Int) := (wsF_succ (by simpa using hlt) hx.out).trans (by rw [if_neg he]; rfl)
        have HN := Lib.hid hnx
        clear hnx
        go_wp2_with fail
        refine ⟨⟨k + 1, x + (s[k].toNat : Int), by omega, by go_num, ?_, by omega, HN.out, by first | rfl | trivial⟩, by simp [intOf]; omega⟩
        refine congrArg (Value.int .i64) ?_
        omega
    · obtain rfl : k = s.size := by omega
      have hl : s.data.toList.take s.size = s.data.toList := List.take_of_length_le (by rw [Array.length_toList]; exact Nat.le_refl _)
      have hxx := hx.out
      rw [hl] at hxx
      have HX := Lib.hid hxx
      clear hxx hl
      go_wp2_with fail
      go_ret
      exact ⟨by rw [HX.out]; rfl, rfl⟩
theorem sWordSum_any (s : ByteArray) (hs : s.size ≤ 1048576) (w : World) :
    Calls Try.prog 110 #[.string s] w fun e w' => e = .returned (.int .i64 (wsF true s.data.toList)) ∧ w = w' := by
  go_enter Try.func110, Try.ntmps110
  go_wp2_with fail
  go_loopw [3, 4] (fun v i wr => ∃ (k : Nat) (x : Int), k ≤ s.size + 1 ∧ k % 2 = 0 ∧ i = .int .i64 k ∧ v = .int .i64 x ∧ (0 ≤ x ∧ x ≤ 65280 * (k : Int)) ∧ Hid (wsF true (s.data.toList.take k) = x) ∧ wr = w) (fun _ i _ => s.size + 2 - (intOf i).toNat)
  case atStart => exact ⟨0, 0, by omega, rfl, rfl, rfl, by omega, rfl, rfl⟩
  case round =>
    obtain ⟨k, x, hk, he, rfl, rfl, ⟨hx0, hx1⟩, hx, rfl⟩ := hrel
    by_cases hlt : k < s.size
    · have hlt' : (k : Int) < (s.size : Int) := by omega
      have hby : (s[k].toNat : Int) ≤ 255 := by have := s[k].toNat_lt; omega
      have hnx : wsF true (s.data.toList.take (k + 1)) = x + 256 * (s[k].toNat : Int) := (wsF_succ (by simpa using hlt) hx.out).trans (by rw [if_pos he]; rfl)
      by_cases hlt2 : k + 1 < s.size
      · have hlt2' : (k : Int) + 1 < (s.size : Int) := by omega
        have hby2 : (s[k + 1].toNat : Int) ≤ 255 := by have := s[k + 1].toNat_lt; omega
        have hnx2 : wsF true (s.data.toList.take (k + 1 + 1)) = x + 256 * (s[k].toNat : Int) + (s[k + 1].toNat : Int) := (wsF_succ (by simpa using hlt2) hnx).trans (by rw [if_neg (by omega)]; rfl)
        have HN := Lib.hid hnx2
        have hkt : ((k : Int) + 1).toNat = k + 1 := by omega
        clear hnx hnx2
        go_wp2_with fail
        refine ⟨⟨k + 2, x + 256 * (s[k].toNat : Int) + (s[k + 1].toNat : Int), by omega, by omega, by go_num, ?_, by omega, HN.out, by first | rfl | trivial⟩, by simp [intOf]; omega⟩
        refine congrArg (Value.int .i64) ?_
        omega
      · have hlt2' : ¬ ((k : Int) + 1 < (s.size : Int)) := by omega
        have hl : s.data.toList.take (k + 2) = s.data.toList.take (k + 1) := by
          rw [List.take_of_length_le (by rw [Array.length_toList]; exact (by omega : s.size ≤ k + 2)), List.take_of_length_le (by rw [Array.length_toList]; exact (by omega : s.size ≤ k + 1))]
        rw [← hl] at hnx
        have HN := Lib.hid hnx
        clear hnx hl
        go_wp2_with fail
        refine ⟨⟨k + 2, x + 256 * (s[k].toNat : Int), by omega, by omega, by go_num, ?_, by omega, HN.out, by first | rfl | trivial⟩, by simp [intOf]; omega⟩
        refine congrArg (Value.int .i64) ?_
        omega
    · have hlt' : ¬ ((k : Int) < (s.size : Int)) := by omega
      have hl : s.data.toList.take k = s.data.toList := List.take_of_length_le (by rw [Array.length_toList]; exact (by omega : s.size ≤ k))
      have hxx := hx.out
      rw [hl] at hxx
      have HX := Lib.hid hxx
      clear hxx hl
      go_wp2_with fail
      go_ret
      exact ⟨by rw [HX.out]; rfl, rfl⟩
theorem SumOf_any (s : ByteArray) (hs : s.size ≤ 1048576) (w : World) :
    Calls Try.prog 94 #[.string s] w fun e w' => e = .returned (.int .i64 (sumR s.data.toList)) ∧ w = w' := by
  have hbd := wsF_bd s.data.toList true
  have hsz : s.data.toList.length = s.size := Array.length_toList
  rw [hsz] at hbd
  obtain ⟨N, hN⟩ := Int.eq_ofNat_of_zero_le hbd.1
  have hN2 : N ≤ 1000000000000 := by omega
  have hF := foldN_le N
  have HR : Hid (sumR s.data.toList = 65535 - (foldN N : Int)) := (by unfold sumR; rw [hN]; rfl : sumR s.data.toList = 65535 - (foldN N : Int))
  have y1 := fun W => WordSum_any s hs W
  rw [hN] at y1
  have Y1 := Lib.hid y1
  have y2 := fun W => Folded_any N hN2 W
  obtain ⟨F, hFF⟩ : ∃ F, foldN N = F := ⟨_, rfl⟩
  rw [hFF] at y2 hF HR
  have Y2 := Lib.hid y2
  clear y1 y2 hbd hsz hFF hN
  go_enter Try.func94, Try.ntmps94
  go_wp2_with fail
  refine (Y1.out _).mono ?_
  rintro e w' ⟨rfl, rfl⟩
  go_wp2_with fail
  refine (Y2.out _).mono ?_
  rintro e w' ⟨rfl, rfl⟩
  go_wp2_with fail
  go_ret
  exact ⟨by rw [HR.out]; rfl, rfl⟩
theorem sSumOf_any (s : ByteArray) (hs : s.size ≤ 1048576) (w : World) :
    Calls Try.prog 90 #[.string s] w fun e w' => e = .returned (.int .i64 (sumR s.data.toList)) ∧ w = w' := by
  have hbd := wsF_bd s.data.toList true
  have hsz : s.data.toList.length = s.size := Array.length_toList
  rw [hsz] at hbd
  obtain ⟨N, hN⟩ := Int.eq_ofNat_of_zero_le hbd.1
  have hN2 : N ≤ 1000000000000 := by omega
  have hF := foldN_le N
  have HR : Hid (sumR s.data.toList = 65535 - (foldN N : Int)) := (by unfold sumR; rw [hN]; rfl : sumR s.data.toList = 65535 - (foldN N : Int))
  have y1 := fun W => sWordSum_any s hs W
  rw [hN] at y1
  have Y1 := Lib.hid y1
  have y2 := fun W => sFolded_any N hN2 W
  obtain ⟨F, hFF⟩ : ∃ F, foldN N = F := ⟨_, rfl⟩
  rw [hFF] at y2 hF HR
  have Y2 := Lib.hid y2
  clear y1 y2 hbd hsz hFF hN
  go_enter Try.func90, Try.ntmps90
  go_wp2_with fail
  refine (Y1.out _).mono ?_
  rintro e w' ⟨rfl, rfl⟩
  go_wp2_with fail
  refine (Y2.out _).mono ?_
  rintro e w' ⟨rfl, rfl⟩
  go_wp2_with fail
  go_ret
  exact ⟨by rw [HR.out]; rfl, rfl⟩
end Go.Proofs.Yteaniiponikpjaa
