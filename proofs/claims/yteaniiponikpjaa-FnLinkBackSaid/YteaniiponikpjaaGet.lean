/-
  Contracts of GetWord (where the bytes are there), and of word.
-/
import Derived.Test.YteaniiponikpjaaBits
import Derived.Test.YteaniiponikpjaaReg
import Derived.Test.YteaniiponikpjaaTxt
import Derived.Test.YteaniiponikpjaaNum
import Derived.LoopTactic
import Derived.IntWalk
namespace Go.Proofs.Yteaniiponikpjaa
set_option maxRecDepth 100000
open Go.RowKit

theorem or_byte (n b : Int) (h0 : 0 ≤ n) (h1 : n ≤ 281474976710655) (h2 : 0 ≤ b) (h3 : b ≤ 255) : bits BinOp.or .i64 (n * 256) b = n * 256 + b := by
  obtain ⟨N, rfl⟩ := Int.eq_ofNat_of_zero_le h0
  obtain ⟨B, rfl⟩ := Int.eq_ofNat_of_zero_le h2
  show IntKind.i64.wrap ((BitVec.ofInt 64 ((N : Int) * 256) ||| BitVec.ofInt 64 (B : Int)).toNat : Int) = _
  have e1 : (BitVec.ofInt 64 ((N : Int) * 256)).toNat = N * 256 := by
    rw [BitVec.toNat_ofInt]; simp only [Nat.reducePow]; omega
  have e2 : (BitVec.ofInt 64 (B : Int)).toNat = B := by
    rw [BitVec.toNat_ofInt]; simp only [Nat.reducePow]; omega
  rw [BitVec.toNat_or, e1, e2]
  have e3 : N * 256 ||| B = N * 256 + B := by
    have := Nat.two_pow_add_eq_or_of_lt (i := 8) (b := B) (by omega) N
    rw [Nat.mul_comm N 256, show (256 : Nat) = 2 ^ 8 from rfl, ← this]
  rw [e3]
  rw [IntWalk.i64_in _ ⟨by omega, by omega⟩]
  omega
/-- The number that some bytes bear, the high one first. -/
def beL (l : List UInt8) : Int := l.foldl (fun v b => v * 256 + (b.toNat : Int)) 0
theorem beL_snoc (l : List UInt8) (b : UInt8) : beL (l ++ [b]) = beL l * 256 + (b.toNat : Int) := by
  unfold beL
  rw [List.foldl_append]
  rfl
theorem beL_bd : ∀ n (l : List UInt8), l.length = n → 0 ≤ beL l ∧ beL l < 256 ^ n
  | 0, l, h => by
    rw [List.eq_nil_of_length_eq_zero h]
    exact ⟨Int.le_refl 0, by decide⟩
  | n + 1, l, h => by
    obtain ⟨l', b, rfl⟩ : ∃ l' b, l = l' ++ [b] := ⟨l.dropLast, l.getLast (fun e => by subst e; simp at h), (List.dropLast_concat_getLast _).symm⟩
    have ih := beL_bd n l' (by simpa using h)
    have hb : b.toNat < 256 := b.toNat_lt
    rw [beL_snoc, Int.pow_succ]
    generalize (256 : Int) ^ n = P at *
    omega
theorem beL_bd6 {l : List UInt8} (h : l.length ≤ 6) : 0 ≤ beL l ∧ beL l ≤ 281474976710655 := by
  obtain ⟨h1, h2⟩ := beL_bd _ l rfl
  rcases (by omega : l.length = 0 ∨ l.length = 1 ∨ l.length = 2 ∨ l.length = 3 ∨ l.length = 4 ∨ l.length = 5 ∨ l.length = 6) with h | h | h | h | h | h | h <;> (rw [h] at h2; omega)
/-- The number that K bytes of a text bear, from a place on. -/
def getW (s : ByteArray) (a K : Nat) : Int := beL ((s.data.toList.drop a).take K)
theorem getW_zero (s : ByteArray) (a : Nat) : getW s a 0 = 0 := rfl
theorem getW_succ {s : ByteArray} {a k : Nat} (h : a + k < s.size) {x : Int} (hx : getW s a k = x) : getW s a (k + 1) = x * 256 + (s[a + k].toNat : Int) := by
  have hl : k < (s.data.toList.drop a).length := by rw [List.length_drop, Array.length_toList]; exact (by omega : k < s.size - a)
  unfold getW at *
  rw [List.take_succ_eq_append_getElem hl, beL_snoc, hx]
  congr 2
  simp only [List.getElem_drop]
  rfl
theorem getW_bd {s : ByteArray} {a k : Nat} (hk : k ≤ 6) : 0 ≤ getW s a k ∧ getW s a k ≤ 281474976710655 := beL_bd6 (by rw [List.length_take]; omega)

theorem GetWord_any (s : ByteArray) (a K : Nat) (h1 : 1 ≤ K) (h6 : K ≤ 6) (hs : a + K ≤ s.size) (hz : s.size ≤ 1048576) (w : World) :
    Calls Try.prog 113 #[.string s, .int .i64 a, .int .i64 K] w fun e w' => e = .returned (.tuple #[.int .i64 (getW s a K), .bool true]) ∧ w = w' := by
  have hB : inB (K : Int) 1 6 = true := inB_iff.2 ⟨by omega, by omega⟩
  have q1 : ¬ ((a : Int) < 0) := by omega
  have q2 : ¬ ((s.size : Int) - (K : Int) < (a : Int)) := by omega
  go_enter Try.func113, Try.ntmps113
  go_wp2_with ((go_at_call 54; refine (within_any _ _ _ _).mono ?_; rintro e w1 ⟨rfl, rfl⟩))
  go_loopw [8, 26] (fun v i wr => ∃ (k : Nat) (x : Int), k ≤ K ∧ i = .int .i64 k ∧ v = .int .i64 x ∧ (0 ≤ x ∧ x ≤ 281474976710655) ∧ Hid (getW s a k = x) ∧ wr = w) (fun _ i _ => K - (intOf i).toNat)
  case atStart => exact ⟨0, 0, by omega, rfl, rfl, by omega, rfl, rfl⟩
  case round =>
    obtain ⟨k, x, hk, rfl, rfl, ⟨hx0, hx1⟩, hx, rfl⟩ := hrel
    by_cases hlt : k < K
    · have hlt' : (k : Int) < (K : Int) := by omega
      have hin : a + k < s.size := by omega
      have hin' : (a : Int) + (k : Int) < (s.size : Int) := by omega
      have hi0 : (0 : Int) ≤ (a : Int) + (k : Int) := by omega
      have hnat : ((a : Int) + (k : Int)).toNat = a + k := by omega
      have hby : (s[a + k].toNat : Int) ≤ 255 := by have := s[a + k].toNat_lt; omega
      have hor := or_byte x (s[a + k].toNat : Int) hx0 hx1 (by omega) hby
      have hbd := getW_bd (s := s) (a := a) (k := k + 1) (by omega)
      rw [getW_succ hin hx.out] at hbd
      have HN := Lib.hid (getW_succ hin hx.out)
      go_wp2_with fail
      exact ⟨⟨k + 1, _, by omega, by go_num, rfl, hbd, HN.out, by first | rfl | trivial⟩, by simp [intOf]; omega⟩
    · obtain rfl : k = K := by omega
      have hKK : ¬ ((k : Int) < (k : Int)) := by omega
      go_wp2_with fail
      exact bodyPost_ret (v := .tuple #[.int .i64 x, .bool true]) (by simp [results, Try.results113, go_sem]) rfl ⟨by rw [hx.out], rfl⟩
theorem word_any (s : ByteArray) (a K : Nat) (h1 : 1 ≤ K) (h6 : K ≤ 6) (hs : a + K ≤ s.size) (hz : s.size ≤ 1048576) (w : World) :
    Calls Try.prog 97 #[.string s, .int .i64 a, .int .i64 K] w fun e w' => e = .returned (.int .i64 (getW s a K)) ∧ w = w' := by
  have Y := Lib.hid (fun W => GetWord_any s a K h1 h6 hs hz W)
  go_enter Try.func97, Try.ntmps97
  go_wp2_with fail
  refine (Y.out _).mono ?_
  rintro e w' ⟨rfl, rfl⟩
  go_wp2_with fail
  go_ret
  exact ⟨rfl, rfl⟩
theorem sGetWord_any (s : ByteArray) (a K : Nat) (h1 : 1 ≤ K) (h6 : K ≤ 6) (hs : a + K ≤ s.size) (hz : s.size ≤ 1048576) (w : World) :
    Calls Try.prog 83 #[.string s, .int .i64 a, .int .i64 K] w fun e w' => e = .returned (.tuple #[.int .i64 (getW s a K), .bool true]) ∧ w = w' := by
  have hB : inB (K : Int) 1 6 = true := inB_iff.2 ⟨by omega, by omega⟩
  have hB2 : inB (a : Int) 0 ((s.size : Int) - (K : Int)) = true := inB_iff.2 ⟨by omega, by omega⟩
  go_enter Try.func83, Try.ntmps83
  go_wp2_with ((go_at_call 52; refine (l1In_any _ _ _ _).mono ?_; rintro e w1 ⟨rfl, rfl⟩))
  go_loopw [8, 9] (fun v i wr => ∃ (k : Nat) (x : Int), k ≤ K ∧ i = .int .i64 k ∧ v = .int .i64 x ∧ (0 ≤ x ∧ x ≤ 281474976710655) ∧ Hid (getW s a k = x) ∧ wr = w) (fun _ i _ => K - (intOf i).toNat)
  case atStart => exact ⟨0, 0, by omega, rfl, rfl, by omega, rfl, rfl⟩
  case round =>
    obtain ⟨k, x, hk, rfl, rfl, ⟨hx0, hx1⟩, hx, rfl⟩ := hrel
    by_cases hlt : k < K
    · have hlt' : (k : Int) < (K : Int) := by omega
      have hin : a + k < s.size := by omega
      have hin' : (a : Int) + (k : Int) < (s.size : Int) := by omega
      have hi0 : (0 : Int) ≤ (a : Int) + (k : Int) := by omega
      have hnat : ((a : Int) + (k : Int)).toNat = a + k := by omega
      have hby : (s[a + k].toNat : Int) ≤ 255 := by have := s[a + k].toNat_lt; omega
      have hbd := getW_bd (s := s) (a := a) (k := k + 1) (by omega)
      rw [getW_succ hin hx.out] at hbd
      have HN := Lib.hid (getW_succ hin hx.out)
      go_wp2_with fail
      refine ⟨⟨k + 1, x * 256 + (s[a + k].toNat : Int), by omega, by go_num, ?_, hbd, HN.out, by first | rfl | trivial⟩, by simp [intOf]; omega⟩
      exact congrArg (Value.int .i64) (by omega)
    · obtain rfl : k = K := by omega
      have hKK : ¬ ((k : Int) < (k : Int)) := by omega
      go_wp2_with fail
      exact bodyPost_ret (v := .tuple #[.int .i64 x, .bool true]) (by simp [results, Try.results83, go_sem]) rfl ⟨by rw [hx.out], rfl⟩
end Go.Proofs.Yteaniiponikpjaa
