/-
  Contracts of SumRight, ReadPacket, the program's and the reference's.
-/
import Derived.Test.YteaniiponikpjaaRdf
import Derived.Test.YteaniiponikpjaaEnt
namespace Go.Proofs.Yteaniiponikpjaa
set_option maxRecDepth 100000
open Go.ChangeShapes Go.WideShapes Go.ChangeAt Go.RowKit Go.Deep

theorem nat_andNot (x : Nat) (hx : x < 65536) : x &&& 18446744073709535231 = x - x / 16384 % 2 * 16384 := by
  have h1 : (x &&& 18446744073709535231) / 2 ^ 14 = x / 2 ^ 14 &&& 18446744073709535231 / 2 ^ 14 := Nat.and_div_two_pow
  have h2 : (x &&& 18446744073709535231) % 2 ^ 14 = x % 2 ^ 14 &&& 18446744073709535231 % 2 ^ 14 := Nat.and_mod_two_pow
  have e1 : 18446744073709535231 % 2 ^ 14 = 2 ^ 14 - 1 := by decide
  have e2 : 18446744073709535231 / 2 ^ 14 = 1125899906842622 := by decide
  rw [e1, Nat.and_two_pow_sub_one_eq_mod, Nat.mod_mod] at h2
  rw [e2] at h1
  have h3 : x / 2 ^ 14 = 0 ∨ x / 2 ^ 14 = 1 ∨ x / 2 ^ 14 = 2 ∨ x / 2 ^ 14 = 3 := by omega
  have h4 : x / 2 ^ 14 &&& 1125899906842622 = x / 2 ^ 14 / 2 * 2 := by
    rcases h3 with h | h | h | h <;> (rw [h]; decide)
  rw [h4] at h1
  generalize x &&& 18446744073709535231 = A at *
  omega
theorem andNot_16384 (x : Int) (h0 : 0 ≤ x) (h1 : x ≤ 65535) : bits BinOp.andNot .i64 x 16384 = x - x / 16384 % 2 * 16384 := by
  obtain ⟨N, rfl⟩ := Int.eq_ofNat_of_zero_le h0
  show IntKind.i64.wrap ((BitVec.ofInt 64 (N : Int) &&& ~~~BitVec.ofInt 64 16384).toNat : Int) = _
  have e1 : (BitVec.ofInt 64 (N : Int)).toNat = N := by
    rw [BitVec.toNat_ofInt]; simp only [Nat.reducePow]; omega
  have e2 : (~~~BitVec.ofInt 64 16384).toNat = 18446744073709535231 := by decide
  rw [BitVec.toNat_and, e1, e2, nat_andNot N (by omega), IntWalk.i64_in _ ⟨by omega, by omega⟩]
  omega
theorem and_191 (b : Nat) (h : b < 256) : b &&& 191 = b - b / 64 % 2 * 64 := by
  have h2 : ∀ b : Fin 256, b.val &&& 191 = b.val - b.val / 64 % 2 * 64 := by decide
  exact h2 ⟨b, h⟩
theorem and_u8 (b : Nat) (h : b < 256) : bits BinOp.and .u8 (b : Int) 191 = ((b &&& 191 : Nat) : Int) := by
  have h2 : ∀ b : Fin 256, bits BinOp.and .u8 (b.val : Int) 191 = ((b.val &&& 191 : Nat) : Int) := by decide
  exact h2 ⟨b, h⟩
def byteN (s : ByteArray) (i : Nat) : Nat := if h : i < s.size then s[i].toNat else 0
theorem byteN_is {s : ByteArray} {i : Nat} (h : i < s.size) : byteN s i = s[i].toNat := by
  unfold byteN
  rw [dif_pos h]
theorem byteN_lt (s : ByteArray) (i : Nat) : byteN s i < 256 := by
  unfold byteN
  split
  · exact UInt8.toNat_lt _
  · omega
theorem getW_two {s : ByteArray} {a : Nat} (h : a + 2 ≤ s.size) : getW s a 2 = (byteN s a : Int) * 256 + (byteN s (a + 1) : Int) := by
  rw [getW_succ (show a + 1 < s.size by omega) rfl, getW_succ (show a + 0 < s.size by omega) rfl, getW_zero, byteN_is (show a < s.size by omega), byteN_is (show a + 1 < s.size by omega)]
  simp
/-- Whether the packet's fragment field is right. -/
def fragB (s : ByteArray) : Bool := decide (byteN s 6 &&& 191 = 0) && decide (byteN s 7 = 0)
theorem frag_is {s : ByteArray} (h : 20 ≤ s.size) : decide (bits BinOp.andNot .i64 (getW s 6 2) 16384 = 0) = fragB s := by
  have h6 := byteN_lt s 6
  have h7 := byteN_lt s 7
  have e := getW_two (s := s) (a := 6) (by omega)
  unfold fragB
  rw [and_191 _ h6, e, show (6 + 1 : Nat) = 7 from rfl, andNot_16384 _ (by omega) (by omega), ← Bool.decide_and]
  apply decide_eq_decide.2
  omega
def pkC (s : ByteArray) : Int :=
  if s.size < 20 then 1 else if ¬ byteN s 0 = 69 then 2 else if ¬ sumR (s.extract 0 20).data.toList = 0 then 3
  else if ¬ (20 ≤ getW s 2 2 ∧ getW s 2 2 ≤ (s.size : Int) ∧ getW s 2 2 ≤ 1500) then 4 else if fragB s = false then 5 else if byteN s 8 = 0 then 6 else 0
def pkR (s : ByteArray) : Value := if pkC s = 0 then .agg #[.int .i64 (getW s 12 4), .int .i64 (getW s 16 4), .int .i64 (byteN s 8), .int .i64 (byteN s 9), .int .i64 (getW s 4 2), .string (s.extract 20 (getW s 2 2).toNat)] else .agg #[.int .i64 0, .int .i64 0, .int .i64 0, .int .i64 0, .int .i64 0, .string ⟨#[]⟩]
def PkOut (s : ByteArray) (w : World) (e : Ending) (w' : World) : Prop := e = .returned (.tuple #[pkR s, .int .i64 (pkC s)]) ∧ Below w.heap.size w w'

theorem l1Min_any (a b : Int) (w : World) : Calls Try.prog 104 #[.int .i64 a, .int .i64 b] w fun e w' => e = .returned (.int .i64 (if a < b then a else b)) ∧ w = w' := by
  by_cases h : a < b
  · rw [if_pos h]
    go_enter Try.func104, Try.ntmps104
    go_wp2
    go_ret
    exact ⟨rfl, rfl⟩
  · rw [if_neg h]
    go_enter Try.func104, Try.ntmps104
    go_wp2
    go_ret
    exact ⟨rfl, rfl⟩
theorem SumRight_any (s : ByteArray) (hs : s.size ≤ 1048576) (w : World) :
    Calls Try.prog 99 #[.string s] w fun e w' => e = .returned (.bool (decide (sumR s.data.toList = 0))) ∧ w = w' := by
  have y := fun W => SumOf_any s hs W
  obtain ⟨S, hS⟩ : ∃ S, sumR s.data.toList = S := ⟨_, rfl⟩
  rw [hS] at y ⊢
  have Y := Lib.hid y
  clear y hS
  go_enter Try.func99, Try.ntmps99
  go_wp2_with fail
  refine (Y.out _).mono ?_
  rintro e w' ⟨rfl, rfl⟩
  by_cases h : S = 0
  · subst h
    go_wp2_with fail
    go_ret
    exact ⟨rfl, rfl⟩
  · go_wp2_with fail
    go_ret
    exact ⟨by simp [h], rfl⟩
theorem sSumRight_any (s : ByteArray) (hs : s.size ≤ 1048576) (w : World) :
    Calls Try.prog 103 #[.string s] w fun e w' => e = .returned (.bool (decide (sumR s.data.toList = 0))) ∧ w = w' := by
  have y := fun W => sSumOf_any s hs W
  obtain ⟨S, hS⟩ : ∃ S, sumR s.data.toList = S := ⟨_, rfl⟩
  rw [hS] at y ⊢
  have Y := Lib.hid y
  clear y hS
  go_enter Try.func103, Try.ntmps103
  go_wp2_with fail
  refine (Y.out _).mono ?_
  rintro e w' ⟨rfl, rfl⟩
  by_cases h : S = 0
  · subst h
    go_wp2_with fail
    go_ret
    exact ⟨rfl, rfl⟩
  · go_wp2_with fail
    go_ret
    exact ⟨by simp [h], rfl⟩
set_option maxHeartbeats 4000000 in
set_option linter.unusedVariables false in
set_option linter.unusedSimpArgs false in
theorem ReadPacket_any (s : ByteArray) (hz : s.size ≤ 1048576) (w : World) : Calls Try.prog 77 #[.string s] w (PkOut s w) := by
  have hr : (w.alloc (.cells #[.int .i64 0, .int .i64 0, .int .i64 0, .int .i64 0, .int .i64 0, .string ⟨#[]⟩] 58)).heap[w.heap.size]? = some (.cells #[.int .i64 0, .int .i64 0, .int .i64 0, .int .i64 0, .int .i64 0, .string ⟨#[]⟩] 58 (0, 0)) := (by repeat (first | exact heap_new _ _ _ (by first | rfl | (simp; done) | (simp; omega)) | refine (Below.heap_alloc _ _ _ (by first | omega | (simp; done) | (simp; omega))).trans ?_))
  have hb0 : Below w.heap.size w (w.alloc (.cells #[.int .i64 0, .int .i64 0, .int .i64 0, .int .i64 0, .int .i64 0, .string ⟨#[]⟩] 58)) := (by repeat (first | with_reducible exact Below.refl _ _ | with_reducible assumption | with_reducible refine Below.drew ?_ | with_reducible refine Below.alloc ?_ (by first | exact Nat.le_refl _ | omega | (simp; done) | (simp; omega)) _ | with_reducible refine Below.setCell ?_ (by first | exact Nat.le_refl _ | omega | (simp; done) | (simp; omega)) _ | (with_reducible refine ext_trans ?_ (by with_reducible assumption))))
  have hl0 : w.heap.size < (w.alloc (.cells #[.int .i64 0, .int .i64 0, .int .i64 0, .int .i64 0, .int .i64 0, .string ⟨#[]⟩] 58)).heap.size := by simp
  by_cases h20 : s.size < 20
  case pos =>
    have h20' : (s.size : Int) < 20 := by omega
    have HV : Hid (pkR s = .agg #[.int .i64 0, .int .i64 0, .int .i64 0, .int .i64 0, .int .i64 0, .string ⟨#[]⟩] ∧ pkC s = 1) := by
      have h : pkC s = 1 := by (unfold pkC; rw [if_pos h20])
      exact ⟨by unfold pkR; rw [h]; rfl, h⟩
    go_enter Try.func77, Try.ntmps77
    generalize hW : (w.alloc (.cells #[.int .i64 0, .int .i64 0, .int .i64 0, .int .i64 0, .int .i64 0, .string ⟨#[]⟩] 58)) = w1 at *
    have HR := Lib.hid hr
    have r0_hr := cell_of_row _ _ 0 _ _ _ hr
    have r1_hr := cell_of_row _ _ 1 _ _ _ hr
    have r2_hr := cell_of_row _ _ 2 _ _ _ hr
    have r3_hr := cell_of_row _ _ 3 _ _ _ hr
    have r4_hr := cell_of_row _ _ 4 _ _ _ hr
    have r5_hr := cell_of_row _ _ 5 _ _ _ hr
    have f0_hr := frozen_of_row _ _ 0 _ _ hr
    have f1_hr := frozen_of_row _ _ 1 _ _ hr
    have f2_hr := frozen_of_row _ _ 2 _ _ hr
    have f3_hr := frozen_of_row _ _ 3 _ _ hr
    have f4_hr := frozen_of_row _ _ 4 _ _ hr
    have f5_hr := frozen_of_row _ _ 5 _ _ hr
    simp at r0_hr r1_hr r2_hr r3_hr r4_hr r5_hr
    clear hr
    go_wp2_with fail
    apply bodyPost_ret (results_row_tmp1 (P := Try.prog) (fn := Try.f77) rfl _ _ _ 58 _ (0, 0) _ rfl _ Try.underlying58 rfl _) rfl
    rotate_left 2
    · repeat (first | (with_reducible apply heap_setCell_same) | (with_reducible apply drew_row) | (with_reducible apply drewN_row) | (with_reducible exact HR.out) | (with_reducible refine (heap_setCell_other _ _ _ _ (by first | omega | (simp; done) | (simp; omega))).trans ?_) | (with_reducible refine (Below.heap_alloc _ _ _ (by first | omega | (simp; done) | (simp; omega))).trans ?_))
    · kernel_rfl
    exact ⟨by rw [HV.out.1, HV.out.2]; simp, (by repeat (first | with_reducible exact Below.refl _ _ | with_reducible assumption | with_reducible refine Below.drew ?_ | with_reducible refine Below.alloc ?_ (by first | exact Nat.le_refl _ | omega | (simp; done) | (simp; omega)) _ | with_reducible refine Below.setCell ?_ (by first | exact Nat.le_refl _ | omega | (simp; done) | (simp; omega)) _ | (with_reducible refine ext_trans ?_ (by with_reducible assumption))))⟩
  case neg =>
  have h20' : ¬ (s.size : Int) < 20 := by omega
  have h20a : (20 : Int) ≤ (s.size : Int) := by omega
  have hi0 : (0 : Int) < (s.size : Int) := by omega
  have hi8 : (8 : Int) < (s.size : Int) := by omega
  have hi9 : (9 : Int) < (s.size : Int) := by omega
  have hi6 : (6 : Int) < (s.size : Int) := by omega
  have hi7 : (7 : Int) < (s.size : Int) := by omega
  have hn0 : 0 < s.size := by omega
  have by0 := byteN_is hn0
  have hn6 : 6 < s.size := by omega
  have by6 := byteN_is hn6
  have hn7 : 7 < s.size := by omega
  have by7 := byteN_is hn7
  have hn8 : 8 < s.size := by omega
  have by8 := byteN_is hn8
  have hn9 : 9 < s.size := by omega
  have by9 := byteN_is hn9
  obtain ⟨t, ht⟩ : ∃ X, getW s 2 2 = X := ⟨_, rfl⟩
  obtain ⟨f, hf⟩ : ∃ X, getW s 6 2 = X := ⟨_, rfl⟩
  obtain ⟨a1, ha1⟩ : ∃ X, getW s 12 4 = X := ⟨_, rfl⟩
  obtain ⟨a2, ha2⟩ : ∃ X, getW s 16 4 = X := ⟨_, rfl⟩
  obtain ⟨a5, ha5⟩ : ∃ X, getW s 4 2 = X := ⟨_, rfl⟩
  have htb := getW_bd (s := s) (a := 2) (k := 2) (by omega)
  rw [ht] at htb
  obtain ⟨S, hS⟩ : ∃ X, sumR (s.extract 0 20).data.toList = X := ⟨_, rfl⟩
  have hfr := frag_is (s := s) (by omega)
  rw [hf] at hfr
  have Y1 : Hid (∀ W, Calls Try.prog 97 #[.string s, .int .i64 2, .int .i64 2] W fun e w' => e = .returned (.int .i64 t) ∧ W = w') := fun W => by
    rw [← ht]; exact word_any s 2 2 (by omega) (by omega) (by omega) hz W
  have Y3 : Hid (∀ W, Calls Try.prog 97 #[.string s, .int .i64 6, .int .i64 2] W fun e w' => e = .returned (.int .i64 f) ∧ W = w') := fun W => by
    rw [← hf]; exact word_any s 6 2 (by omega) (by omega) (by omega) hz W
  have Y4 : Hid (∀ W, Calls Try.prog 97 #[.string s, .int .i64 12, .int .i64 4] W fun e w' => e = .returned (.int .i64 a1) ∧ W = w') := fun W => by
    rw [← ha1]; exact word_any s 12 4 (by omega) (by omega) (by omega) hz W
  have Y5 : Hid (∀ W, Calls Try.prog 97 #[.string s, .int .i64 16, .int .i64 4] W fun e w' => e = .returned (.int .i64 a2) ∧ W = w') := fun W => by
    rw [← ha2]; exact word_any s 16 4 (by omega) (by omega) (by omega) hz W
  have Y6 : Hid (∀ W, Calls Try.prog 97 #[.string s, .int .i64 4, .int .i64 2] W fun e w' => e = .returned (.int .i64 a5) ∧ W = w') := fun W => by
    rw [← ha5]; exact word_any s 4 2 (by omega) (by omega) (by omega) hz W
  have y2 := fun W => SumRight_any (s.extract 0 20) (by rw [ByteArray.size_extract]; omega) W
  rw [hS] at y2
  by_cases hb : byteN s 0 = 69
  case neg =>
    have HV : Hid (pkR s = .agg #[.int .i64 0, .int .i64 0, .int .i64 0, .int .i64 0, .int .i64 0, .string ⟨#[]⟩] ∧ pkC s = 2) := by
      have h : pkC s = 2 := by (unfold pkC; rw [if_neg h20, if_pos hb])
      exact ⟨by unfold pkR; rw [h]; rfl, h⟩
    rw [by0] at hb
    have hbi : ¬ ((s[0].toNat : Int) = 69) := by omega
    have Y2 := Lib.hid y2
    go_enter Try.func77, Try.ntmps77
    generalize hW : (w.alloc (.cells #[.int .i64 0, .int .i64 0, .int .i64 0, .int .i64 0, .int .i64 0, .string ⟨#[]⟩] 58)) = w1 at *
    have HR := Lib.hid hr
    have r0_hr := cell_of_row _ _ 0 _ _ _ hr
    have r1_hr := cell_of_row _ _ 1 _ _ _ hr
    have r2_hr := cell_of_row _ _ 2 _ _ _ hr
    have r3_hr := cell_of_row _ _ 3 _ _ _ hr
    have r4_hr := cell_of_row _ _ 4 _ _ _ hr
    have r5_hr := cell_of_row _ _ 5 _ _ _ hr
    have f0_hr := frozen_of_row _ _ 0 _ _ hr
    have f1_hr := frozen_of_row _ _ 1 _ _ hr
    have f2_hr := frozen_of_row _ _ 2 _ _ hr
    have f3_hr := frozen_of_row _ _ 3 _ _ hr
    have f4_hr := frozen_of_row _ _ 4 _ _ hr
    have f5_hr := frozen_of_row _ _ 5 _ _ hr
    simp at r0_hr r1_hr r2_hr r3_hr r4_hr r5_hr
    clear hr
    go_wp2_with (first | (go_at_call 97; (with_reducible refine (Y1.out _).mono ?_); rintro e w' ⟨rfl, rfl⟩) | (go_at_call 99; (with_reducible refine (Y2.out _).mono ?_); rintro e w' ⟨rfl, rfl⟩) | (go_at_call 97; (with_reducible refine (Y3.out _).mono ?_); rintro e w' ⟨rfl, rfl⟩))
    apply bodyPost_ret (results_row_tmp1 (P := Try.prog) (fn := Try.f77) rfl _ _ _ 58 _ (0, 0) _ rfl _ Try.underlying58 rfl _) rfl
    rotate_left 2
    · repeat (first | (with_reducible apply heap_setCell_same) | (with_reducible apply drew_row) | (with_reducible apply drewN_row) | (with_reducible exact HR.out) | (with_reducible refine (heap_setCell_other _ _ _ _ (by first | omega | (simp; done) | (simp; omega))).trans ?_) | (with_reducible refine (Below.heap_alloc _ _ _ (by first | omega | (simp; done) | (simp; omega))).trans ?_))
    · kernel_rfl
    exact ⟨by rw [HV.out.1, HV.out.2]; simp, (by repeat (first | with_reducible exact Below.refl _ _ | with_reducible assumption | with_reducible refine Below.drew ?_ | with_reducible refine Below.alloc ?_ (by first | exact Nat.le_refl _ | omega | (simp; done) | (simp; omega)) _ | with_reducible refine Below.setCell ?_ (by first | exact Nat.le_refl _ | omega | (simp; done) | (simp; omega)) _ | (with_reducible refine ext_trans ?_ (by with_reducible assumption))))⟩
  case pos =>
  have hbi : (s[0].toNat : Int) = 69 := by rw [by0] at hb; omega
  by_cases hs0 : S = 0
  case neg =>
    have HV : Hid (pkR s = .agg #[.int .i64 0, .int .i64 0, .int .i64 0, .int .i64 0, .int .i64 0, .string ⟨#[]⟩] ∧ pkC s = 3) := by
      have h : pkC s = 3 := by (unfold pkC; rw [if_neg h20, if_neg (by simpa using hb), hS, if_pos hs0])
      exact ⟨by unfold pkR; rw [h]; rfl, h⟩
    rw [decide_eq_false hs0] at y2
    have Y2 := Lib.hid y2
    go_enter Try.func77, Try.ntmps77
    generalize hW : (w.alloc (.cells #[.int .i64 0, .int .i64 0, .int .i64 0, .int .i64 0, .int .i64 0, .string ⟨#[]⟩] 58)) = w1 at *
    have HR := Lib.hid hr
    have r0_hr := cell_of_row _ _ 0 _ _ _ hr
    have r1_hr := cell_of_row _ _ 1 _ _ _ hr
    have r2_hr := cell_of_row _ _ 2 _ _ _ hr
    have r3_hr := cell_of_row _ _ 3 _ _ _ hr
    have r4_hr := cell_of_row _ _ 4 _ _ _ hr
    have r5_hr := cell_of_row _ _ 5 _ _ _ hr
    have f0_hr := frozen_of_row _ _ 0 _ _ hr
    have f1_hr := frozen_of_row _ _ 1 _ _ hr
    have f2_hr := frozen_of_row _ _ 2 _ _ hr
    have f3_hr := frozen_of_row _ _ 3 _ _ hr
    have f4_hr := frozen_of_row _ _ 4 _ _ hr
    have f5_hr := frozen_of_row _ _ 5 _ _ hr
    simp at r0_hr r1_hr r2_hr r3_hr r4_hr r5_hr
    clear hr
    go_wp2_with (first | (go_at_call 97; (with_reducible refine (Y1.out _).mono ?_); rintro e w' ⟨rfl, rfl⟩) | (go_at_call 99; (with_reducible refine (Y2.out _).mono ?_); rintro e w' ⟨rfl, rfl⟩) | (go_at_call 97; (with_reducible refine (Y3.out _).mono ?_); rintro e w' ⟨rfl, rfl⟩))
    apply bodyPost_ret (results_row_tmp1 (P := Try.prog) (fn := Try.f77) rfl _ _ _ 58 _ (0, 0) _ rfl _ Try.underlying58 rfl _) rfl
    rotate_left 2
    · repeat (first | (with_reducible apply heap_setCell_same) | (with_reducible apply drew_row) | (with_reducible apply drewN_row) | (with_reducible exact HR.out) | (with_reducible refine (heap_setCell_other _ _ _ _ (by first | omega | (simp; done) | (simp; omega))).trans ?_) | (with_reducible refine (Below.heap_alloc _ _ _ (by first | omega | (simp; done) | (simp; omega))).trans ?_))
    · kernel_rfl
    exact ⟨by rw [HV.out.1, HV.out.2]; simp, (by repeat (first | with_reducible exact Below.refl _ _ | with_reducible assumption | with_reducible refine Below.drew ?_ | with_reducible refine Below.alloc ?_ (by first | exact Nat.le_refl _ | omega | (simp; done) | (simp; omega)) _ | with_reducible refine Below.setCell ?_ (by first | exact Nat.le_refl _ | omega | (simp; done) | (simp; omega)) _ | (with_reducible refine ext_trans ?_ (by with_reducible assumption))))⟩
  case pos =>
  rw [decide_eq_true hs0] at y2
  have Y2 := Lib.hid y2
  by_cases ht4 : 20 ≤ t ∧ t ≤ (s.size : Int) ∧ t ≤ 1500
  case neg =>
    have HV : Hid (pkR s = .agg #[.int .i64 0, .int .i64 0, .int .i64 0, .int .i64 0, .int .i64 0, .string ⟨#[]⟩] ∧ pkC s = 4) := by
      have h : pkC s = 4 := by (unfold pkC; rw [if_neg h20, if_neg (by simpa using hb), hS, if_neg (by simpa using hs0), ht, if_pos ht4])
      exact ⟨by unfold pkR; rw [h]; rfl, h⟩
    by_cases q1 : t < 20
    · have q2 : True := trivial
      go_enter Try.func77, Try.ntmps77
      generalize hW : (w.alloc (.cells #[.int .i64 0, .int .i64 0, .int .i64 0, .int .i64 0, .int .i64 0, .string ⟨#[]⟩] 58)) = w1 at *
      have HR := Lib.hid hr
      have r0_hr := cell_of_row _ _ 0 _ _ _ hr
      have r1_hr := cell_of_row _ _ 1 _ _ _ hr
      have r2_hr := cell_of_row _ _ 2 _ _ _ hr
      have r3_hr := cell_of_row _ _ 3 _ _ _ hr
      have r4_hr := cell_of_row _ _ 4 _ _ _ hr
      have r5_hr := cell_of_row _ _ 5 _ _ _ hr
      have f0_hr := frozen_of_row _ _ 0 _ _ hr
      have f1_hr := frozen_of_row _ _ 1 _ _ hr
      have f2_hr := frozen_of_row _ _ 2 _ _ hr
      have f3_hr := frozen_of_row _ _ 3 _ _ hr
      have f4_hr := frozen_of_row _ _ 4 _ _ hr
      have f5_hr := frozen_of_row _ _ 5 _ _ hr
      simp at r0_hr r1_hr r2_hr r3_hr r4_hr r5_hr
      clear hr
      go_wp2_with (first | (go_at_call 97; (with_reducible refine (Y1.out _).mono ?_); rintro e w' ⟨rfl, rfl⟩) | (go_at_call 99; (with_reducible refine (Y2.out _).mono ?_); rintro e w' ⟨rfl, rfl⟩) | (go_at_call 97; (with_reducible refine (Y3.out _).mono ?_); rintro e w' ⟨rfl, rfl⟩))
      apply bodyPost_ret (results_row_tmp1 (P := Try.prog) (fn := Try.f77) rfl _ _ _ 58 _ (0, 0) _ rfl _ Try.underlying58 rfl _) rfl
      rotate_left 2
      · repeat (first | (with_reducible apply heap_setCell_same) | (with_reducible apply drew_row) | (with_reducible apply drewN_row) | (with_reducible exact HR.out) | (with_reducible refine (heap_setCell_other _ _ _ _ (by first | omega | (simp; done) | (simp; omega))).trans ?_) | (with_reducible refine (Below.heap_alloc _ _ _ (by first | omega | (simp; done) | (simp; omega))).trans ?_))
      · kernel_rfl
      exact ⟨by rw [HV.out.1, HV.out.2]; simp, (by repeat (first | with_reducible exact Below.refl _ _ | with_reducible assumption | with_reducible refine Below.drew ?_ | with_reducible refine Below.alloc ?_ (by first | exact Nat.le_refl _ | omega | (simp; done) | (simp; omega)) _ | with_reducible refine Below.setCell ?_ (by first | exact Nat.le_refl _ | omega | (simp; done) | (simp; omega)) _ | (with_reducible refine ext_trans ?_ (by with_reducible assumption))))⟩
    by_cases q2 : (s.size : Int) < t
    · have q3 : True := trivial
      go_enter Try.func77, Try.ntmps77
      generalize hW : (w.alloc (.cells #[.int .i64 0, .int .i64 0, .int .i64 0, .int .i64 0, .int .i64 0, .string ⟨#[]⟩] 58)) = w1 at *
      have HR := Lib.hid hr
      have r0_hr := cell_of_row _ _ 0 _ _ _ hr
      have r1_hr := cell_of_row _ _ 1 _ _ _ hr
      have r2_hr := cell_of_row _ _ 2 _ _ _ hr
      have r3_hr := cell_of_row _ _ 3 _ _ _ hr
      have r4_hr := cell_of_row _ _ 4 _ _ _ hr
      have r5_hr := cell_of_row _ _ 5 _ _ _ hr
      have f0_hr := frozen_of_row _ _ 0 _ _ hr
      have f1_hr := frozen_of_row _ _ 1 _ _ hr
      have f2_hr := frozen_of_row _ _ 2 _ _ hr
      have f3_hr := frozen_of_row _ _ 3 _ _ hr
      have f4_hr := frozen_of_row _ _ 4 _ _ hr
      have f5_hr := frozen_of_row _ _ 5 _ _ hr
      simp at r0_hr r1_hr r2_hr r3_hr r4_hr r5_hr
      clear hr
      go_wp2_with (first | (go_at_call 97; (with_reducible refine (Y1.out _).mono ?_); rintro e w' ⟨rfl, rfl⟩) | (go_at_call 99; (with_reducible refine (Y2.out _).mono ?_); rintro e w' ⟨rfl, rfl⟩) | (go_at_call 97; (with_reducible refine (Y3.out _).mono ?_); rintro e w' ⟨rfl, rfl⟩))
      apply bodyPost_ret (results_row_tmp1 (P := Try.prog) (fn := Try.f77) rfl _ _ _ 58 _ (0, 0) _ rfl _ Try.underlying58 rfl _) rfl
      rotate_left 2
      · repeat (first | (with_reducible apply heap_setCell_same) | (with_reducible apply drew_row) | (with_reducible apply drewN_row) | (with_reducible exact HR.out) | (with_reducible refine (heap_setCell_other _ _ _ _ (by first | omega | (simp; done) | (simp; omega))).trans ?_) | (with_reducible refine (Below.heap_alloc _ _ _ (by first | omega | (simp; done) | (simp; omega))).trans ?_))
      · kernel_rfl
      exact ⟨by rw [HV.out.1, HV.out.2]; simp, (by repeat (first | with_reducible exact Below.refl _ _ | with_reducible assumption | with_reducible refine Below.drew ?_ | with_reducible refine Below.alloc ?_ (by first | exact Nat.le_refl _ | omega | (simp; done) | (simp; omega)) _ | with_reducible refine Below.setCell ?_ (by first | exact Nat.le_refl _ | omega | (simp; done) | (simp; omega)) _ | (with_reducible refine ext_trans ?_ (by with_reducible assumption))))⟩
    have q3 : 1500 < t := by omega
    go_enter Try.func77, Try.ntmps77
    generalize hW : (w.alloc (.cells #[.int .i64 0, .int .i64 0, .int .i64 0, .int .i64 0, .int .i64 0, .string ⟨#[]⟩] 58)) = w1 at *
    have HR := Lib.hid hr
    have r0_hr := cell_of_row _ _ 0 _ _ _ hr
    have r1_hr := cell_of_row _ _ 1 _ _ _ hr
    have r2_hr := cell_of_row _ _ 2 _ _ _ hr
    have r3_hr := cell_of_row _ _ 3 _ _ _ hr
    have r4_hr := cell_of_row _ _ 4 _ _ _ hr
    have r5_hr := cell_of_row _ _ 5 _ _ _ hr
    have f0_hr := frozen_of_row _ _ 0 _ _ hr
    have f1_hr := frozen_of_row _ _ 1 _ _ hr
    have f2_hr := frozen_of_row _ _ 2 _ _ hr
    have f3_hr := frozen_of_row _ _ 3 _ _ hr
    have f4_hr := frozen_of_row _ _ 4 _ _ hr
    have f5_hr := frozen_of_row _ _ 5 _ _ hr
    simp at r0_hr r1_hr r2_hr r3_hr r4_hr r5_hr
    clear hr
    go_wp2_with (first | (go_at_call 97; (with_reducible refine (Y1.out _).mono ?_); rintro e w' ⟨rfl, rfl⟩) | (go_at_call 99; (with_reducible refine (Y2.out _).mono ?_); rintro e w' ⟨rfl, rfl⟩) | (go_at_call 97; (with_reducible refine (Y3.out _).mono ?_); rintro e w' ⟨rfl, rfl⟩))
    apply bodyPost_ret (results_row_tmp1 (P := Try.prog) (fn := Try.f77) rfl _ _ _ 58 _ (0, 0) _ rfl _ Try.underlying58 rfl _) rfl
    rotate_left 2
    · repeat (first | (with_reducible apply heap_setCell_same) | (with_reducible apply drew_row) | (with_reducible apply drewN_row) | (with_reducible exact HR.out) | (with_reducible refine (heap_setCell_other _ _ _ _ (by first | omega | (simp; done) | (simp; omega))).trans ?_) | (with_reducible refine (Below.heap_alloc _ _ _ (by first | omega | (simp; done) | (simp; omega))).trans ?_))
    · kernel_rfl
    exact ⟨by rw [HV.out.1, HV.out.2]; simp, (by repeat (first | with_reducible exact Below.refl _ _ | with_reducible assumption | with_reducible refine Below.drew ?_ | with_reducible refine Below.alloc ?_ (by first | exact Nat.le_refl _ | omega | (simp; done) | (simp; omega)) _ | with_reducible refine Below.setCell ?_ (by first | exact Nat.le_refl _ | omega | (simp; done) | (simp; omega)) _ | (with_reducible refine ext_trans ?_ (by with_reducible assumption))))⟩
  case pos =>
  obtain ⟨t1, t2, t3⟩ := ht4
  have t1n : ¬ t < 20 := by omega
  have t2n : ¬ (s.size : Int) < t := by omega
  have t3n : ¬ 1500 < t := by omega
  have ht4 : 20 ≤ t ∧ t ≤ (s.size : Int) ∧ t ≤ 1500 := ⟨t1, t2, t3⟩
  cases hfb : fragB s
  case false =>
    have HV : Hid (pkR s = .agg #[.int .i64 0, .int .i64 0, .int .i64 0, .int .i64 0, .int .i64 0, .string ⟨#[]⟩] ∧ pkC s = 5) := by
      have h : pkC s = 5 := by (unfold pkC; rw [if_neg h20, if_neg (by simpa using hb), hS, if_neg (by simpa using hs0), ht, if_neg (by simpa using ht4), if_pos hfb])
      exact ⟨by unfold pkR; rw [h]; rfl, h⟩
    have hfn : ¬ bits BinOp.andNot .i64 f 16384 = 0 := of_decide_eq_false (hfr.trans hfb)
    clear hfr
    go_enter Try.func77, Try.ntmps77
    generalize hW : (w.alloc (.cells #[.int .i64 0, .int .i64 0, .int .i64 0, .int .i64 0, .int .i64 0, .string ⟨#[]⟩] 58)) = w1 at *
    have HR := Lib.hid hr
    have r0_hr := cell_of_row _ _ 0 _ _ _ hr
    have r1_hr := cell_of_row _ _ 1 _ _ _ hr
    have r2_hr := cell_of_row _ _ 2 _ _ _ hr
    have r3_hr := cell_of_row _ _ 3 _ _ _ hr
    have r4_hr := cell_of_row _ _ 4 _ _ _ hr
    have r5_hr := cell_of_row _ _ 5 _ _ _ hr
    have f0_hr := frozen_of_row _ _ 0 _ _ hr
    have f1_hr := frozen_of_row _ _ 1 _ _ hr
    have f2_hr := frozen_of_row _ _ 2 _ _ hr
    have f3_hr := frozen_of_row _ _ 3 _ _ hr
    have f4_hr := frozen_of_row _ _ 4 _ _ hr
    have f5_hr := frozen_of_row _ _ 5 _ _ hr
    simp at r0_hr r1_hr r2_hr r3_hr r4_hr r5_hr
    clear hr
    go_wp2_with (first | (go_at_call 97; (with_reducible refine (Y1.out _).mono ?_); rintro e w' ⟨rfl, rfl⟩) | (go_at_call 99; (with_reducible refine (Y2.out _).mono ?_); rintro e w' ⟨rfl, rfl⟩) | (go_at_call 97; (with_reducible refine (Y3.out _).mono ?_); rintro e w' ⟨rfl, rfl⟩))
    apply bodyPost_ret (results_row_tmp1 (P := Try.prog) (fn := Try.f77) rfl _ _ _ 58 _ (0, 0) _ rfl _ Try.underlying58 rfl _) rfl
    rotate_left 2
    · repeat (first | (with_reducible apply heap_setCell_same) | (with_reducible apply drew_row) | (with_reducible apply drewN_row) | (with_reducible exact HR.out) | (with_reducible refine (heap_setCell_other _ _ _ _ (by first | omega | (simp; done) | (simp; omega))).trans ?_) | (with_reducible refine (Below.heap_alloc _ _ _ (by first | omega | (simp; done) | (simp; omega))).trans ?_))
    · kernel_rfl
    exact ⟨by rw [HV.out.1, HV.out.2]; simp, (by repeat (first | with_reducible exact Below.refl _ _ | with_reducible assumption | with_reducible refine Below.drew ?_ | with_reducible refine Below.alloc ?_ (by first | exact Nat.le_refl _ | omega | (simp; done) | (simp; omega)) _ | with_reducible refine Below.setCell ?_ (by first | exact Nat.le_refl _ | omega | (simp; done) | (simp; omega)) _ | (with_reducible refine ext_trans ?_ (by with_reducible assumption))))⟩
  case true =>
  have hfy : bits BinOp.andNot .i64 f 16384 = 0 := of_decide_eq_true (hfr.trans hfb)
  have w8 : IntKind.i64.wrap (s[8].toNat : Int) = (s[8].toNat : Int) := IntWalk.i64_in _ ⟨by omega, by (have := s[8].toNat_lt; omega)⟩
  have w9 : IntKind.i64.wrap (s[9].toNat : Int) = (s[9].toNat : Int) := IntWalk.i64_in _ ⟨by omega, by (have := s[9].toNat_lt; omega)⟩
  have ht0 : (0 : Int) ≤ t := by omega
  have htn : t.toNat ≤ s.size := by omega
  by_cases h8 : byteN s 8 = 0
  case pos =>
    have HV : Hid (pkR s = .agg #[.int .i64 0, .int .i64 0, .int .i64 0, .int .i64 0, .int .i64 0, .string ⟨#[]⟩] ∧ pkC s = 6) := by
      have h : pkC s = 6 := by (unfold pkC; rw [if_neg h20, if_neg (by simpa using hb), hS, if_neg (by simpa using hs0), ht, if_neg (by simpa using ht4), if_neg (by simp [hfb]), if_pos h8])
      exact ⟨by unfold pkR; rw [h]; rfl, h⟩
    have h8i : (s[8].toNat : Int) = 0 := by rw [by8] at h8; omega
    clear hfr
    go_enter Try.func77, Try.ntmps77
    generalize hW : (w.alloc (.cells #[.int .i64 0, .int .i64 0, .int .i64 0, .int .i64 0, .int .i64 0, .string ⟨#[]⟩] 58)) = w1 at *
    have HR := Lib.hid hr
    have r0_hr := cell_of_row _ _ 0 _ _ _ hr
    have r1_hr := cell_of_row _ _ 1 _ _ _ hr
    have r2_hr := cell_of_row _ _ 2 _ _ _ hr
    have r3_hr := cell_of_row _ _ 3 _ _ _ hr
    have r4_hr := cell_of_row _ _ 4 _ _ _ hr
    have r5_hr := cell_of_row _ _ 5 _ _ _ hr
    have f0_hr := frozen_of_row _ _ 0 _ _ hr
    have f1_hr := frozen_of_row _ _ 1 _ _ hr
    have f2_hr := frozen_of_row _ _ 2 _ _ hr
    have f3_hr := frozen_of_row _ _ 3 _ _ hr
    have f4_hr := frozen_of_row _ _ 4 _ _ hr
    have f5_hr := frozen_of_row _ _ 5 _ _ hr
    simp at r0_hr r1_hr r2_hr r3_hr r4_hr r5_hr
    clear hr
    go_wp2_with (first | (go_at_call 97; (with_reducible refine (Y1.out _).mono ?_); rintro e w' ⟨rfl, rfl⟩) | (go_at_call 99; (with_reducible refine (Y2.out _).mono ?_); rintro e w' ⟨rfl, rfl⟩) | (go_at_call 97; (with_reducible refine (Y3.out _).mono ?_); rintro e w' ⟨rfl, rfl⟩))
    apply bodyPost_ret (results_row_tmp1 (P := Try.prog) (fn := Try.f77) rfl _ _ _ 58 _ (0, 0) _ rfl _ Try.underlying58 rfl _) rfl
    rotate_left 2
    · repeat (first | (with_reducible apply heap_setCell_same) | (with_reducible apply drew_row) | (with_reducible apply drewN_row) | (with_reducible exact HR.out) | (with_reducible refine (heap_setCell_other _ _ _ _ (by first | omega | (simp; done) | (simp; omega))).trans ?_) | (with_reducible refine (Below.heap_alloc _ _ _ (by first | omega | (simp; done) | (simp; omega))).trans ?_))
    · kernel_rfl
    exact ⟨by rw [HV.out.1, HV.out.2]; simp, (by repeat (first | with_reducible exact Below.refl _ _ | with_reducible assumption | with_reducible refine Below.drew ?_ | with_reducible refine Below.alloc ?_ (by first | exact Nat.le_refl _ | omega | (simp; done) | (simp; omega)) _ | with_reducible refine Below.setCell ?_ (by first | exact Nat.le_refl _ | omega | (simp; done) | (simp; omega)) _ | (with_reducible refine ext_trans ?_ (by with_reducible assumption))))⟩
  case neg =>
  have HV : Hid (pkR s = .agg #[.int .i64 a1, .int .i64 a2, .int .i64 (s[8].toNat : Int), .int .i64 (s[9].toNat : Int), .int .i64 a5, .string (s.extract 20 t.toNat)] ∧ pkC s = 0) := by
    have h : pkC s = 0 := by (unfold pkC; rw [if_neg h20, if_neg (by simpa using hb), hS, if_neg (by simpa using hs0), ht, if_neg (by simpa using ht4), if_neg (by simp [hfb]), if_neg h8])
    exact ⟨by unfold pkR; rw [if_pos h, ha1, ha2, ha5, ht, by8, by9], h⟩
  have h8i : ¬ (s[8].toNat : Int) = 0 := by rw [by8] at h8; omega
  clear hfr
  go_enter Try.func77, Try.ntmps77
  generalize hW : (w.alloc (.cells #[.int .i64 0, .int .i64 0, .int .i64 0, .int .i64 0, .int .i64 0, .string ⟨#[]⟩] 58)) = w1 at *
  have HR := Lib.hid hr
  have r0_hr := cell_of_row _ _ 0 _ _ _ hr
  have r1_hr := cell_of_row _ _ 1 _ _ _ hr
  have r2_hr := cell_of_row _ _ 2 _ _ _ hr
  have r3_hr := cell_of_row _ _ 3 _ _ _ hr
  have r4_hr := cell_of_row _ _ 4 _ _ _ hr
  have r5_hr := cell_of_row _ _ 5 _ _ _ hr
  have f0_hr := frozen_of_row _ _ 0 _ _ hr
  have f1_hr := frozen_of_row _ _ 1 _ _ hr
  have f2_hr := frozen_of_row _ _ 2 _ _ hr
  have f3_hr := frozen_of_row _ _ 3 _ _ hr
  have f4_hr := frozen_of_row _ _ 4 _ _ hr
  have f5_hr := frozen_of_row _ _ 5 _ _ hr
  simp at r0_hr r1_hr r2_hr r3_hr r4_hr r5_hr
  clear hr
  go_wp2_with (first | (go_at_call 97; (with_reducible refine (Y1.out _).mono ?_); rintro e w' ⟨rfl, rfl⟩) | (go_at_call 99; (with_reducible refine (Y2.out _).mono ?_); rintro e w' ⟨rfl, rfl⟩) | (go_at_call 97; (with_reducible refine (Y3.out _).mono ?_); rintro e w' ⟨rfl, rfl⟩))
  have HRd : Hid (w1.drew.heap[w.heap.size]? = some (.cells #[.int .i64 0, .int .i64 0, .int .i64 0, .int .i64 0, .int .i64 0, .string ⟨#[]⟩] 58 (0, 0))) := HR.out
  have hbd : Below w.heap.size w w1.drew := hb0.drew
  refine wp_region_still_tail 16 (by kernel_rfl) (by kernel_rfl) ?_
  simp only [List.take_succ_cons, List.take_zero, List.drop_succ_cons, List.drop_zero]
  repeat (first | still_step | (refine wpStill_step (fun K hK => ?_); go_simp; with_reducible refine ⟨_, still_of (Y4.out _), hK _ ?_⟩; clear hK K) | (refine wpStill_step (fun K hK => ?_); go_simp; with_reducible refine ⟨_, still_of (Y5.out _), hK _ ?_⟩; clear hK K) | (refine wpStill_step (fun K hK => ?_); go_simp; with_reducible refine ⟨_, still_of (Y6.out _), hK _ ?_⟩; clear hK K))
  refine wpStill_nil ?_
  change wpList _ _ _ _ _ w1.drew
  generalize w1.drew = wd at *
  have hrd := HRd.out
  have r0_hrd := cell_of_row _ _ 0 _ _ _ hrd
  have r1_hrd := cell_of_row _ _ 1 _ _ _ hrd
  have r2_hrd := cell_of_row _ _ 2 _ _ _ hrd
  have r3_hrd := cell_of_row _ _ 3 _ _ _ hrd
  have r4_hrd := cell_of_row _ _ 4 _ _ _ hrd
  have r5_hrd := cell_of_row _ _ 5 _ _ _ hrd
  have f0_hrd := frozen_of_row _ _ 0 _ _ hrd
  have f1_hrd := frozen_of_row _ _ 1 _ _ hrd
  have f2_hrd := frozen_of_row _ _ 2 _ _ hrd
  have f3_hrd := frozen_of_row _ _ 3 _ _ hrd
  have f4_hrd := frozen_of_row _ _ 4 _ _ hrd
  have f5_hrd := frozen_of_row _ _ 5 _ _ hrd
  simp at r0_hrd r1_hrd r2_hrd r3_hrd r4_hrd r5_hrd
  clear hrd
  go_wp2_with fail
  apply bodyPost_ret (results_row_tmp1 (P := Try.prog) (fn := Try.f77) rfl _ _ _ 58 _ (0, 0) _ rfl _ Try.underlying58 rfl _) rfl
  rotate_left 2
  · repeat (first | (with_reducible apply heap_setCell_same) | (with_reducible apply drew_row) | (with_reducible apply drewN_row) | (with_reducible exact HRd.out) | (with_reducible refine (heap_setCell_other _ _ _ _ (by first | omega | (simp; done) | (simp; omega))).trans ?_) | (with_reducible refine (Below.heap_alloc _ _ _ (by first | omega | (simp; done) | (simp; omega))).trans ?_))
  · kernel_rfl
  exact ⟨by rw [HV.out.1, HV.out.2]; simp, (by repeat (first | with_reducible exact Below.refl _ _ | with_reducible assumption | with_reducible refine Below.drew ?_ | with_reducible refine Below.alloc ?_ (by first | exact Nat.le_refl _ | omega | (simp; done) | (simp; omega)) _ | with_reducible refine Below.setCell ?_ (by first | exact Nat.le_refl _ | omega | (simp; done) | (simp; omega)) _ | (with_reducible refine ext_trans ?_ (by with_reducible assumption))))⟩
set_option maxHeartbeats 4000000 in
set_option linter.unusedVariables false in
set_option linter.unusedSimpArgs false in
theorem sReadPacket_any (s : ByteArray) (hz : s.size ≤ 1048576) (w : World) : Calls Try.prog 81 #[.string s] w (PkOut s w) := by
  have hr : (w.alloc (.cells #[.int .i64 0, .int .i64 0, .int .i64 0, .int .i64 0, .int .i64 0, .string ⟨#[]⟩] 58)).heap[w.heap.size]? = some (.cells #[.int .i64 0, .int .i64 0, .int .i64 0, .int .i64 0, .int .i64 0, .string ⟨#[]⟩] 58 (0, 0)) := (by repeat (first | exact heap_new _ _ _ (by first | rfl | (simp; done) | (simp; omega)) | refine (Below.heap_alloc _ _ _ (by first | omega | (simp; done) | (simp; omega))).trans ?_))
  have hb0 : Below w.heap.size w (w.alloc (.cells #[.int .i64 0, .int .i64 0, .int .i64 0, .int .i64 0, .int .i64 0, .string ⟨#[]⟩] 58)) := (by repeat (first | with_reducible exact Below.refl _ _ | with_reducible assumption | with_reducible refine Below.drew ?_ | with_reducible refine Below.alloc ?_ (by first | exact Nat.le_refl _ | omega | (simp; done) | (simp; omega)) _ | with_reducible refine Below.setCell ?_ (by first | exact Nat.le_refl _ | omega | (simp; done) | (simp; omega)) _ | (with_reducible refine ext_trans ?_ (by with_reducible assumption))))
  have hl0 : w.heap.size < (w.alloc (.cells #[.int .i64 0, .int .i64 0, .int .i64 0, .int .i64 0, .int .i64 0, .string ⟨#[]⟩] 58)).heap.size := by simp
  by_cases h20 : s.size < 20
  case pos =>
    have h20' : (s.size : Int) < 20 := by omega
    have HV : Hid (pkR s = .agg #[.int .i64 0, .int .i64 0, .int .i64 0, .int .i64 0, .int .i64 0, .string ⟨#[]⟩] ∧ pkC s = 1) := by
      have h : pkC s = 1 := by (unfold pkC; rw [if_pos h20])
      exact ⟨by unfold pkR; rw [h]; rfl, h⟩
    go_enter Try.func81, Try.ntmps81
    generalize hW : (w.alloc (.cells #[.int .i64 0, .int .i64 0, .int .i64 0, .int .i64 0, .int .i64 0, .string ⟨#[]⟩] 58)) = w1 at *
    have HR := Lib.hid hr
    have r0_hr := cell_of_row _ _ 0 _ _ _ hr
    have r1_hr := cell_of_row _ _ 1 _ _ _ hr
    have r2_hr := cell_of_row _ _ 2 _ _ _ hr
    have r3_hr := cell_of_row _ _ 3 _ _ _ hr
    have r4_hr := cell_of_row _ _ 4 _ _ _ hr
    have r5_hr := cell_of_row _ _ 5 _ _ _ hr
    have f0_hr := frozen_of_row _ _ 0 _ _ hr
    have f1_hr := frozen_of_row _ _ 1 _ _ hr
    have f2_hr := frozen_of_row _ _ 2 _ _ hr
    have f3_hr := frozen_of_row _ _ 3 _ _ hr
    have f4_hr := frozen_of_row _ _ 4 _ _ hr
    have f5_hr := frozen_of_row _ _ 5 _ _ hr
    simp at r0_hr r1_hr r2_hr r3_hr r4_hr r5_hr
    clear hr
    go_wp2_with fail
    apply bodyPost_ret (results_row_tmp1 (P := Try.prog) (fn := Try.f81) rfl _ _ _ 58 _ (0, 0) _ rfl _ Try.underlying58 rfl _) rfl
    rotate_left 2
    · repeat (first | (with_reducible apply heap_setCell_same) | (with_reducible apply drew_row) | (with_reducible apply drewN_row) | (with_reducible exact HR.out) | (with_reducible refine (heap_setCell_other _ _ _ _ (by first | omega | (simp; done) | (simp; omega))).trans ?_) | (with_reducible refine (Below.heap_alloc _ _ _ (by first | omega | (simp; done) | (simp; omega))).trans ?_))
    · kernel_rfl
    exact ⟨by rw [HV.out.1, HV.out.2]; simp, (by repeat (first | with_reducible exact Below.refl _ _ | with_reducible assumption | with_reducible refine Below.drew ?_ | with_reducible refine Below.alloc ?_ (by first | exact Nat.le_refl _ | omega | (simp; done) | (simp; omega)) _ | with_reducible refine Below.setCell ?_ (by first | exact Nat.le_refl _ | omega | (simp; done) | (simp; omega)) _ | (with_reducible refine ext_trans ?_ (by with_reducible assumption))))⟩
  case neg =>
  have h20' : ¬ (s.size : Int) < 20 := by omega
  have h20a : (20 : Int) ≤ (s.size : Int) := by omega
  have hi0 : (0 : Int) < (s.size : Int) := by omega
  have hi8 : (8 : Int) < (s.size : Int) := by omega
  have hi9 : (9 : Int) < (s.size : Int) := by omega
  have hi6 : (6 : Int) < (s.size : Int) := by omega
  have hi7 : (7 : Int) < (s.size : Int) := by omega
  have hn0 : 0 < s.size := by omega
  have by0 := byteN_is hn0
  have hn6 : 6 < s.size := by omega
  have by6 := byteN_is hn6
  have hn7 : 7 < s.size := by omega
  have by7 := byteN_is hn7
  have hn8 : 8 < s.size := by omega
  have by8 := byteN_is hn8
  have hn9 : 9 < s.size := by omega
  have by9 := byteN_is hn9
  obtain ⟨t, ht⟩ : ∃ X, getW s 2 2 = X := ⟨_, rfl⟩
  obtain ⟨f, hf⟩ : ∃ X, getW s 6 2 = X := ⟨_, rfl⟩
  obtain ⟨a1, ha1⟩ : ∃ X, getW s 12 4 = X := ⟨_, rfl⟩
  obtain ⟨a2, ha2⟩ : ∃ X, getW s 16 4 = X := ⟨_, rfl⟩
  obtain ⟨a5, ha5⟩ : ∃ X, getW s 4 2 = X := ⟨_, rfl⟩
  have htb := getW_bd (s := s) (a := 2) (k := 2) (by omega)
  rw [ht] at htb
  obtain ⟨S, hS⟩ : ∃ X, sumR (s.extract 0 20).data.toList = X := ⟨_, rfl⟩
  have hfr := frag_is (s := s) (by omega)
  rw [hf] at hfr
  have Y1 : Hid (∀ W, Calls Try.prog 83 #[.string s, .int .i64 2, .int .i64 2] W fun e w' => e = .returned (.tuple #[.int .i64 t, .bool true]) ∧ W = w') := fun W => by
    rw [← ht]; exact sGetWord_any s 2 2 (by omega) (by omega) (by omega) hz W
  have Y3 : Hid (∀ W, Calls Try.prog 83 #[.string s, .int .i64 6, .int .i64 2] W fun e w' => e = .returned (.tuple #[.int .i64 f, .bool true]) ∧ W = w') := fun W => by
    rw [← hf]; exact sGetWord_any s 6 2 (by omega) (by omega) (by omega) hz W
  have Y4 : Hid (∀ W, Calls Try.prog 83 #[.string s, .int .i64 12, .int .i64 4] W fun e w' => e = .returned (.tuple #[.int .i64 a1, .bool true]) ∧ W = w') := fun W => by
    rw [← ha1]; exact sGetWord_any s 12 4 (by omega) (by omega) (by omega) hz W
  have Y5 : Hid (∀ W, Calls Try.prog 83 #[.string s, .int .i64 16, .int .i64 4] W fun e w' => e = .returned (.tuple #[.int .i64 a2, .bool true]) ∧ W = w') := fun W => by
    rw [← ha2]; exact sGetWord_any s 16 4 (by omega) (by omega) (by omega) hz W
  have Y6 : Hid (∀ W, Calls Try.prog 83 #[.string s, .int .i64 4, .int .i64 2] W fun e w' => e = .returned (.tuple #[.int .i64 a5, .bool true]) ∧ W = w') := fun W => by
    rw [← ha5]; exact sGetWord_any s 4 2 (by omega) (by omega) (by omega) hz W
  have y2 := fun W => sSumRight_any (s.extract 0 20) (by rw [ByteArray.size_extract]; omega) W
  rw [hS] at y2
  obtain ⟨M, hM⟩ : ∃ M, (if (s.size : Int) < 1500 then (s.size : Int) else 1500) = M := ⟨_, rfl⟩
  have hM2 : M ≤ (s.size : Int) ∧ M ≤ 1500 ∧ (M = (s.size : Int) ∨ M = 1500) := by (rw [← hM]; split <;> omega)
  have y8 := fun W => l1Min_any (s.size : Int) 1500 W
  have y9 := fun W => l1In_any t 20 M W
  rw [hM] at y8
  clear hM
  by_cases hb : byteN s 0 = 69
  case neg =>
    have HV : Hid (pkR s = .agg #[.int .i64 0, .int .i64 0, .int .i64 0, .int .i64 0, .int .i64 0, .string ⟨#[]⟩] ∧ pkC s = 2) := by
      have h : pkC s = 2 := by (unfold pkC; rw [if_neg h20, if_pos hb])
      exact ⟨by unfold pkR; rw [h]; rfl, h⟩
    rw [by0] at hb
    have hbi : ¬ ((s[0].toNat : Int) = 69) := by omega
    have Y2 := Lib.hid y2
    go_enter Try.func81, Try.ntmps81
    generalize hW : (w.alloc (.cells #[.int .i64 0, .int .i64 0, .int .i64 0, .int .i64 0, .int .i64 0, .string ⟨#[]⟩] 58)) = w1 at *
    have HR := Lib.hid hr
    have r0_hr := cell_of_row _ _ 0 _ _ _ hr
    have r1_hr := cell_of_row _ _ 1 _ _ _ hr
    have r2_hr := cell_of_row _ _ 2 _ _ _ hr
    have r3_hr := cell_of_row _ _ 3 _ _ _ hr
    have r4_hr := cell_of_row _ _ 4 _ _ _ hr
    have r5_hr := cell_of_row _ _ 5 _ _ _ hr
    have f0_hr := frozen_of_row _ _ 0 _ _ hr
    have f1_hr := frozen_of_row _ _ 1 _ _ hr
    have f2_hr := frozen_of_row _ _ 2 _ _ hr
    have f3_hr := frozen_of_row _ _ 3 _ _ hr
    have f4_hr := frozen_of_row _ _ 4 _ _ hr
    have f5_hr := frozen_of_row _ _ 5 _ _ hr
    simp at r0_hr r1_hr r2_hr r3_hr r4_hr r5_hr
    clear hr
    go_wp2_with (first | (go_at_call 83; (with_reducible refine (Y1.out _).mono ?_); rintro e w' ⟨rfl, rfl⟩) | (go_at_call 103; (with_reducible refine (Y2.out _).mono ?_); rintro e w' ⟨rfl, rfl⟩) | (go_at_call 104; (with_reducible refine (Y8.out _).mono ?_); rintro e w' ⟨rfl, rfl⟩) | (go_at_call 52; (with_reducible refine (Y9.out _).mono ?_); rintro e w' ⟨rfl, rfl⟩))
    apply bodyPost_ret (results_row_tmp1 (P := Try.prog) (fn := Try.f81) rfl _ _ _ 58 _ (0, 0) _ rfl _ Try.underlying58 rfl _) rfl
    rotate_left 2
    · repeat (first | (with_reducible apply heap_setCell_same) | (with_reducible apply drew_row) | (with_reducible apply drewN_row) | (with_reducible exact HR.out) | (with_reducible refine (heap_setCell_other _ _ _ _ (by first | omega | (simp; done) | (simp; omega))).trans ?_) | (with_reducible refine (Below.heap_alloc _ _ _ (by first | omega | (simp; done) | (simp; omega))).trans ?_))
    · kernel_rfl
    exact ⟨by rw [HV.out.1, HV.out.2]; simp, (by repeat (first | with_reducible exact Below.refl _ _ | with_reducible assumption | with_reducible refine Below.drew ?_ | with_reducible refine Below.alloc ?_ (by first | exact Nat.le_refl _ | omega | (simp; done) | (simp; omega)) _ | with_reducible refine Below.setCell ?_ (by first | exact Nat.le_refl _ | omega | (simp; done) | (simp; omega)) _ | (with_reducible refine ext_trans ?_ (by with_reducible assumption))))⟩
  case pos =>
  have hbi : (s[0].toNat : Int) = 69 := by rw [by0] at hb; omega
  by_cases hs0 : S = 0
  case neg =>
    have HV : Hid (pkR s = .agg #[.int .i64 0, .int .i64 0, .int .i64 0, .int .i64 0, .int .i64 0, .string ⟨#[]⟩] ∧ pkC s = 3) := by
      have h : pkC s = 3 := by (unfold pkC; rw [if_neg h20, if_neg (by simpa using hb), hS, if_pos hs0])
      exact ⟨by unfold pkR; rw [h]; rfl, h⟩
    rw [decide_eq_false hs0] at y2
    have Y2 := Lib.hid y2
    go_enter Try.func81, Try.ntmps81
    generalize hW : (w.alloc (.cells #[.int .i64 0, .int .i64 0, .int .i64 0, .int .i64 0, .int .i64 0, .string ⟨#[]⟩] 58)) = w1 at *
    have HR := Lib.hid hr
    have r0_hr := cell_of_row _ _ 0 _ _ _ hr
    have r1_hr := cell_of_row _ _ 1 _ _ _ hr
    have r2_hr := cell_of_row _ _ 2 _ _ _ hr
    have r3_hr := cell_of_row _ _ 3 _ _ _ hr
    have r4_hr := cell_of_row _ _ 4 _ _ _ hr
    have r5_hr := cell_of_row _ _ 5 _ _ _ hr
    have f0_hr := frozen_of_row _ _ 0 _ _ hr
    have f1_hr := frozen_of_row _ _ 1 _ _ hr
    have f2_hr := frozen_of_row _ _ 2 _ _ hr
    have f3_hr := frozen_of_row _ _ 3 _ _ hr
    have f4_hr := frozen_of_row _ _ 4 _ _ hr
    have f5_hr := frozen_of_row _ _ 5 _ _ hr
    simp at r0_hr r1_hr r2_hr r3_hr r4_hr r5_hr
    clear hr
    go_wp2_with (first | (go_at_call 83; (with_reducible refine (Y1.out _).mono ?_); rintro e w' ⟨rfl, rfl⟩) | (go_at_call 103; (with_reducible refine (Y2.out _).mono ?_); rintro e w' ⟨rfl, rfl⟩) | (go_at_call 104; (with_reducible refine (Y8.out _).mono ?_); rintro e w' ⟨rfl, rfl⟩) | (go_at_call 52; (with_reducible refine (Y9.out _).mono ?_); rintro e w' ⟨rfl, rfl⟩))
    apply bodyPost_ret (results_row_tmp1 (P := Try.prog) (fn := Try.f81) rfl _ _ _ 58 _ (0, 0) _ rfl _ Try.underlying58 rfl _) rfl
    rotate_left 2
    · repeat (first | (with_reducible apply heap_setCell_same) | (with_reducible apply drew_row) | (with_reducible apply drewN_row) | (with_reducible exact HR.out) | (with_reducible refine (heap_setCell_other _ _ _ _ (by first | omega | (simp; done) | (simp; omega))).trans ?_) | (with_reducible refine (Below.heap_alloc _ _ _ (by first | omega | (simp; done) | (simp; omega))).trans ?_))
    · kernel_rfl
    exact ⟨by rw [HV.out.1, HV.out.2]; simp, (by repeat (first | with_reducible exact Below.refl _ _ | with_reducible assumption | with_reducible refine Below.drew ?_ | with_reducible refine Below.alloc ?_ (by first | exact Nat.le_refl _ | omega | (simp; done) | (simp; omega)) _ | with_reducible refine Below.setCell ?_ (by first | exact Nat.le_refl _ | omega | (simp; done) | (simp; omega)) _ | (with_reducible refine ext_trans ?_ (by with_reducible assumption))))⟩
  case pos =>
  rw [decide_eq_true hs0] at y2
  have Y2 := Lib.hid y2
  by_cases ht4 : 20 ≤ t ∧ t ≤ (s.size : Int) ∧ t ≤ 1500
  case neg =>
    have HV : Hid (pkR s = .agg #[.int .i64 0, .int .i64 0, .int .i64 0, .int .i64 0, .int .i64 0, .string ⟨#[]⟩] ∧ pkC s = 4) := by
      have h : pkC s = 4 := by (unfold pkC; rw [if_neg h20, if_neg (by simpa using hb), hS, if_neg (by simpa using hs0), ht, if_pos ht4])
      exact ⟨by unfold pkR; rw [h]; rfl, h⟩
    have hin : inB t 20 M = false := inB_not.2 (by omega)
    rw [hin] at y9
    have Y8 := Lib.hid y8
    have Y9 := Lib.hid y9
    go_enter Try.func81, Try.ntmps81
    generalize hW : (w.alloc (.cells #[.int .i64 0, .int .i64 0, .int .i64 0, .int .i64 0, .int .i64 0, .string ⟨#[]⟩] 58)) = w1 at *
    have HR := Lib.hid hr
    have r0_hr := cell_of_row _ _ 0 _ _ _ hr
    have r1_hr := cell_of_row _ _ 1 _ _ _ hr
    have r2_hr := cell_of_row _ _ 2 _ _ _ hr
    have r3_hr := cell_of_row _ _ 3 _ _ _ hr
    have r4_hr := cell_of_row _ _ 4 _ _ _ hr
    have r5_hr := cell_of_row _ _ 5 _ _ _ hr
    have f0_hr := frozen_of_row _ _ 0 _ _ hr
    have f1_hr := frozen_of_row _ _ 1 _ _ hr
    have f2_hr := frozen_of_row _ _ 2 _ _ hr
    have f3_hr := frozen_of_row _ _ 3 _ _ hr
    have f4_hr := frozen_of_row _ _ 4 _ _ hr
    have f5_hr := frozen_of_row _ _ 5 _ _ hr
    simp at r0_hr r1_hr r2_hr r3_hr r4_hr r5_hr
    clear hr
    go_wp2_with (first | (go_at_call 83; (with_reducible refine (Y1.out _).mono ?_); rintro e w' ⟨rfl, rfl⟩) | (go_at_call 103; (with_reducible refine (Y2.out _).mono ?_); rintro e w' ⟨rfl, rfl⟩) | (go_at_call 104; (with_reducible refine (Y8.out _).mono ?_); rintro e w' ⟨rfl, rfl⟩) | (go_at_call 52; (with_reducible refine (Y9.out _).mono ?_); rintro e w' ⟨rfl, rfl⟩))
    apply bodyPost_ret (results_row_tmp1 (P := Try.prog) (fn := Try.f81) rfl _ _ _ 58 _ (0, 0) _ rfl _ Try.underlying58 rfl _) rfl
    rotate_left 2
    · repeat (first | (with_reducible apply heap_setCell_same) | (with_reducible apply drew_row) | (with_reducible apply drewN_row) | (with_reducible exact HR.out) | (with_reducible refine (heap_setCell_other _ _ _ _ (by first | omega | (simp; done) | (simp; omega))).trans ?_) | (with_reducible refine (Below.heap_alloc _ _ _ (by first | omega | (simp; done) | (simp; omega))).trans ?_))
    · kernel_rfl
    exact ⟨by rw [HV.out.1, HV.out.2]; simp, (by repeat (first | with_reducible exact Below.refl _ _ | with_reducible assumption | with_reducible refine Below.drew ?_ | with_reducible refine Below.alloc ?_ (by first | exact Nat.le_refl _ | omega | (simp; done) | (simp; omega)) _ | with_reducible refine Below.setCell ?_ (by first | exact Nat.le_refl _ | omega | (simp; done) | (simp; omega)) _ | (with_reducible refine ext_trans ?_ (by with_reducible assumption))))⟩
  case pos =>
  obtain ⟨t1, t2, t3⟩ := ht4
  have t1n : ¬ t < 20 := by omega
  have t2n : ¬ (s.size : Int) < t := by omega
  have t3n : ¬ 1500 < t := by omega
  have ht4 : 20 ≤ t ∧ t ≤ (s.size : Int) ∧ t ≤ 1500 := ⟨t1, t2, t3⟩
  have hin : inB t 20 M = true := inB_iff.2 ⟨by omega, by omega⟩
  rw [hin] at y9
  have Y8 := Lib.hid y8
  have Y9 := Lib.hid y9
  cases hfb : fragB s
  case false =>
    have HV : Hid (pkR s = .agg #[.int .i64 0, .int .i64 0, .int .i64 0, .int .i64 0, .int .i64 0, .string ⟨#[]⟩] ∧ pkC s = 5) := by
      have h : pkC s = 5 := by (unfold pkC; rw [if_neg h20, if_neg (by simpa using hb), hS, if_neg (by simpa using hs0), ht, if_neg (by simpa using ht4), if_pos hfb])
      exact ⟨by unfold pkR; rw [h]; rfl, h⟩
    have u6 := and_u8 _ (byteN_lt s 6)
    rw [by6] at u6
    by_cases c6 : byteN s 6 &&& 191 = 0
    case neg =>
      have c6i : ¬ ((s[6].toNat &&& 191 : Nat) : Int) = 0 := by rw [by6] at c6; omega
      have c6n : ¬ (s[6].toNat &&& 191 = 0) := by rw [by6] at c6; exact c6
      go_enter Try.func81, Try.ntmps81
      generalize hW : (w.alloc (.cells #[.int .i64 0, .int .i64 0, .int .i64 0, .int .i64 0, .int .i64 0, .string ⟨#[]⟩] 58)) = w1 at *
      have HR := Lib.hid hr
      have r0_hr := cell_of_row _ _ 0 _ _ _ hr
      have r1_hr := cell_of_row _ _ 1 _ _ _ hr
      have r2_hr := cell_of_row _ _ 2 _ _ _ hr
      have r3_hr := cell_of_row _ _ 3 _ _ _ hr
      have r4_hr := cell_of_row _ _ 4 _ _ _ hr
      have r5_hr := cell_of_row _ _ 5 _ _ _ hr
      have f0_hr := frozen_of_row _ _ 0 _ _ hr
      have f1_hr := frozen_of_row _ _ 1 _ _ hr
      have f2_hr := frozen_of_row _ _ 2 _ _ hr
      have f3_hr := frozen_of_row _ _ 3 _ _ hr
      have f4_hr := frozen_of_row _ _ 4 _ _ hr
      have f5_hr := frozen_of_row _ _ 5 _ _ hr
      simp at r0_hr r1_hr r2_hr r3_hr r4_hr r5_hr
      clear hr
      go_wp2_with (first | (go_at_call 83; (with_reducible refine (Y1.out _).mono ?_); rintro e w' ⟨rfl, rfl⟩) | (go_at_call 103; (with_reducible refine (Y2.out _).mono ?_); rintro e w' ⟨rfl, rfl⟩) | (go_at_call 104; (with_reducible refine (Y8.out _).mono ?_); rintro e w' ⟨rfl, rfl⟩) | (go_at_call 52; (with_reducible refine (Y9.out _).mono ?_); rintro e w' ⟨rfl, rfl⟩))
      apply bodyPost_ret (results_row_tmp1 (P := Try.prog) (fn := Try.f81) rfl _ _ _ 58 _ (0, 0) _ rfl _ Try.underlying58 rfl _) rfl
      rotate_left 2
      · repeat (first | (with_reducible apply heap_setCell_same) | (with_reducible apply drew_row) | (with_reducible apply drewN_row) | (with_reducible exact HR.out) | (with_reducible refine (heap_setCell_other _ _ _ _ (by first | omega | (simp; done) | (simp; omega))).trans ?_) | (with_reducible refine (Below.heap_alloc _ _ _ (by first | omega | (simp; done) | (simp; omega))).trans ?_))
      · kernel_rfl
      exact ⟨by rw [HV.out.1, HV.out.2]; simp, (by repeat (first | with_reducible exact Below.refl _ _ | with_reducible assumption | with_reducible refine Below.drew ?_ | with_reducible refine Below.alloc ?_ (by first | exact Nat.le_refl _ | omega | (simp; done) | (simp; omega)) _ | with_reducible refine Below.setCell ?_ (by first | exact Nat.le_refl _ | omega | (simp; done) | (simp; omega)) _ | (with_reducible refine ext_trans ?_ (by with_reducible assumption))))⟩
    case pos =>
    have c6i : ((s[6].toNat &&& 191 : Nat) : Int) = 0 := by rw [by6] at c6; omega
    have c6n : s[6].toNat &&& 191 = 0 := by rw [by6] at c6; exact c6
    have c7 : ¬ byteN s 7 = 0 := fun h => by (unfold fragB at hfb; rw [decide_eq_true c6, decide_eq_true h] at hfb; simp at hfb)
    have c7i : ¬ (s[7].toNat : Int) = 0 := by rw [by7] at c7; omega
    go_enter Try.func81, Try.ntmps81
    generalize hW : (w.alloc (.cells #[.int .i64 0, .int .i64 0, .int .i64 0, .int .i64 0, .int .i64 0, .string ⟨#[]⟩] 58)) = w1 at *
    have HR := Lib.hid hr
    have r0_hr := cell_of_row _ _ 0 _ _ _ hr
    have r1_hr := cell_of_row _ _ 1 _ _ _ hr
    have r2_hr := cell_of_row _ _ 2 _ _ _ hr
    have r3_hr := cell_of_row _ _ 3 _ _ _ hr
    have r4_hr := cell_of_row _ _ 4 _ _ _ hr
    have r5_hr := cell_of_row _ _ 5 _ _ _ hr
    have f0_hr := frozen_of_row _ _ 0 _ _ hr
    have f1_hr := frozen_of_row _ _ 1 _ _ hr
    have f2_hr := frozen_of_row _ _ 2 _ _ hr
    have f3_hr := frozen_of_row _ _ 3 _ _ hr
    have f4_hr := frozen_of_row _ _ 4 _ _ hr
    have f5_hr := frozen_of_row _ _ 5 _ _ hr
    simp at r0_hr r1_hr r2_hr r3_hr r4_hr r5_hr
    clear hr
    go_wp2_with (first | (go_at_call 83; (with_reducible refine (Y1.out _).mono ?_); rintro e w' ⟨rfl, rfl⟩) | (go_at_call 103; (with_reducible refine (Y2.out _).mono ?_); rintro e w' ⟨rfl, rfl⟩) | (go_at_call 104; (with_reducible refine (Y8.out _).mono ?_); rintro e w' ⟨rfl, rfl⟩) | (go_at_call 52; (with_reducible refine (Y9.out _).mono ?_); rintro e w' ⟨rfl, rfl⟩))
    apply bodyPost_ret (results_row_tmp1 (P := Try.prog) (fn := Try.f81) rfl _ _ _ 58 _ (0, 0) _ rfl _ Try.underlying58 rfl _) rfl
    rotate_left 2
    · repeat (first | (with_reducible apply heap_setCell_same) | (with_reducible apply drew_row) | (with_reducible apply drewN_row) | (with_reducible exact HR.out) | (with_reducible refine (heap_setCell_other _ _ _ _ (by first | omega | (simp; done) | (simp; omega))).trans ?_) | (with_reducible refine (Below.heap_alloc _ _ _ (by first | omega | (simp; done) | (simp; omega))).trans ?_))
    · kernel_rfl
    exact ⟨by rw [HV.out.1, HV.out.2]; simp, (by repeat (first | with_reducible exact Below.refl _ _ | with_reducible assumption | with_reducible refine Below.drew ?_ | with_reducible refine Below.alloc ?_ (by first | exact Nat.le_refl _ | omega | (simp; done) | (simp; omega)) _ | with_reducible refine Below.setCell ?_ (by first | exact Nat.le_refl _ | omega | (simp; done) | (simp; omega)) _ | (with_reducible refine ext_trans ?_ (by with_reducible assumption))))⟩
  case true =>
  have u6 := and_u8 _ (byteN_lt s 6)
  rw [by6] at u6
  have c67 := hfb
  unfold fragB at c67
  simp only [Bool.and_eq_true, decide_eq_true_eq] at c67
  have c6i : ((s[6].toNat &&& 191 : Nat) : Int) = 0 := by (have := c67.1; rw [by6] at this; omega)
  have c6n : s[6].toNat &&& 191 = 0 := by (have := c67.1; rw [by6] at this; exact this)
  have c7i : (s[7].toNat : Int) = 0 := by (have := c67.2; rw [by7] at this; omega)
  clear c67
  have w8 : IntKind.i64.wrap (s[8].toNat : Int) = (s[8].toNat : Int) := IntWalk.i64_in _ ⟨by omega, by (have := s[8].toNat_lt; omega)⟩
  have w9 : IntKind.i64.wrap (s[9].toNat : Int) = (s[9].toNat : Int) := IntWalk.i64_in _ ⟨by omega, by (have := s[9].toNat_lt; omega)⟩
  have ht0 : (0 : Int) ≤ t := by omega
  have htn : t.toNat ≤ s.size := by omega
  by_cases h8 : byteN s 8 = 0
  case pos =>
    have HV : Hid (pkR s = .agg #[.int .i64 0, .int .i64 0, .int .i64 0, .int .i64 0, .int .i64 0, .string ⟨#[]⟩] ∧ pkC s = 6) := by
      have h : pkC s = 6 := by (unfold pkC; rw [if_neg h20, if_neg (by simpa using hb), hS, if_neg (by simpa using hs0), ht, if_neg (by simpa using ht4), if_neg (by simp [hfb]), if_pos h8])
      exact ⟨by unfold pkR; rw [h]; rfl, h⟩
    have h8i : (s[8].toNat : Int) = 0 := by rw [by8] at h8; omega
    clear hfr
    go_enter Try.func81, Try.ntmps81
    generalize hW : (w.alloc (.cells #[.int .i64 0, .int .i64 0, .int .i64 0, .int .i64 0, .int .i64 0, .string ⟨#[]⟩] 58)) = w1 at *
    have HR := Lib.hid hr
    have r0_hr := cell_of_row _ _ 0 _ _ _ hr
    have r1_hr := cell_of_row _ _ 1 _ _ _ hr
    have r2_hr := cell_of_row _ _ 2 _ _ _ hr
    have r3_hr := cell_of_row _ _ 3 _ _ _ hr
    have r4_hr := cell_of_row _ _ 4 _ _ _ hr
    have r5_hr := cell_of_row _ _ 5 _ _ _ hr
    have f0_hr := frozen_of_row _ _ 0 _ _ hr
    have f1_hr := frozen_of_row _ _ 1 _ _ hr
    have f2_hr := frozen_of_row _ _ 2 _ _ hr
    have f3_hr := frozen_of_row _ _ 3 _ _ hr
    have f4_hr := frozen_of_row _ _ 4 _ _ hr
    have f5_hr := frozen_of_row _ _ 5 _ _ hr
    simp at r0_hr r1_hr r2_hr r3_hr r4_hr r5_hr
    clear hr
    have z8 : IntKind.i64.wrap 0 = 0 := rfl
    go_wp2_with (first | (go_at_call 83; (with_reducible refine (Y1.out _).mono ?_); rintro e w' ⟨rfl, rfl⟩) | (go_at_call 103; (with_reducible refine (Y2.out _).mono ?_); rintro e w' ⟨rfl, rfl⟩) | (go_at_call 104; (with_reducible refine (Y8.out _).mono ?_); rintro e w' ⟨rfl, rfl⟩) | (go_at_call 52; (with_reducible refine (Y9.out _).mono ?_); rintro e w' ⟨rfl, rfl⟩))
    have hrd := HR.out
    go_cut [6] (fun sl wx => ∃ g : Nat, sl = .pointer (some ⟨g, 0, none⟩) ∧ wx.heap[g]? = some (.cells #[.int .i64 0, .int .i64 0, .int .i64 0, .int .i64 (s[9].toNat : Int), .int .i64 0, .string (s.extract 20 t.toNat)] 58 (0, 0)) ∧ w1.heap.size ≤ g ∧ Below w1.heap.size w1 wx)
    case first =>
      first | go_region_held3 (fun w' => (∀ b' o, b' < (w1).heap.size → w'.cell? ⟨b', o, none⟩ = (w1).cell? ⟨b', o, none⟩) ∧ Below (w1).heap.size (w1) w') (first | with_reducible assumption | (with_reducible apply rg_keep; rotate_left; with_reducible assumption; with_reducible assumption) | with_reducible exact rg_start _ | with_reducible exact rg_alloc (KeptS.out (by with_reducible assumption)) _ | with_reducible exact rg_alloc (by with_reducible assumption) _ | with_reducible exact rg_start_alloc _ _ | ((repeat (with_reducible refine rg_set ?_ _ (by first | exact Nat.le_refl _ | omega | (simp; done) | (simp; omega)) _)); first | with_reducible exact KeptS.out (by with_reducible assumption) | with_reducible assumption | with_reducible exact rg_alloc (KeptS.out (by with_reducible assumption)) _)) (first | fail) | fail
      all_goals
        go_wp2_with fail
        go_meet
        exact ⟨_, rfl, (show (w1.alloc _).heap[w1.heap.size]? = _ from (by repeat (first | exact heap_new _ _ _ (by first | rfl | (simp; done) | (simp; omega)) | refine (Below.heap_alloc _ _ _ (by first | omega | (simp; done) | (simp; omega))).trans ?_))), Nat.le_refl _, (by repeat (first | with_reducible exact Below.refl _ _ | with_reducible assumption | with_reducible refine Below.drew ?_ | with_reducible refine Below.alloc ?_ (by first | exact Nat.le_refl _ | omega | (simp; done) | (simp; omega)) _ | with_reducible refine Below.setCell ?_ (by first | exact Nat.le_refl _ | omega | (simp; done) | (simp; omega)) _ | (with_reducible refine ext_trans ?_ (by with_reducible assumption))))⟩
    case rest =>
    obtain ⟨g, rfl, hg, hleg, hb2⟩ := hcut
    rename World => w2
    have hz2 := hb2.size
    have hlg := (Array.getElem?_eq_some_iff.1 hg).1
    have hr2 := (hb2.block _ hl0).trans HR.out
    have hw2 : Below w.heap.size w w2 := (by repeat (first | with_reducible exact Below.refl _ _ | with_reducible assumption | with_reducible refine Below.drew ?_ | with_reducible refine Below.alloc ?_ (by first | exact Nat.le_refl _ | omega | (simp; done) | (simp; omega)) _ | with_reducible refine Below.setCell ?_ (by first | exact Nat.le_refl _ | omega | (simp; done) | (simp; omega)) _ | (with_reducible refine ext_trans ?_ (by with_reducible assumption))))
    have hne : ¬ w.heap.size = g := by omega
    have HR2 := Lib.hid hr2
    have r0_hg := cell_of_row _ _ 0 _ _ _ hg
    have r1_hg := cell_of_row _ _ 1 _ _ _ hg
    have r2_hg := cell_of_row _ _ 2 _ _ _ hg
    have r3_hg := cell_of_row _ _ 3 _ _ _ hg
    have r4_hg := cell_of_row _ _ 4 _ _ _ hg
    have r5_hg := cell_of_row _ _ 5 _ _ _ hg
    have f0_hg := frozen_of_row _ _ 0 _ _ hg
    have f1_hg := frozen_of_row _ _ 1 _ _ hg
    have f2_hg := frozen_of_row _ _ 2 _ _ hg
    have f3_hg := frozen_of_row _ _ 3 _ _ hg
    have f4_hg := frozen_of_row _ _ 4 _ _ hg
    have f5_hg := frozen_of_row _ _ 5 _ _ hg
    simp at r0_hg r1_hg r2_hg r3_hg r4_hg r5_hg
    have r0_hr2 := cell_of_row _ _ 0 _ _ _ hr2
    have r1_hr2 := cell_of_row _ _ 1 _ _ _ hr2
    have r2_hr2 := cell_of_row _ _ 2 _ _ _ hr2
    have r3_hr2 := cell_of_row _ _ 3 _ _ _ hr2
    have r4_hr2 := cell_of_row _ _ 4 _ _ _ hr2
    have r5_hr2 := cell_of_row _ _ 5 _ _ _ hr2
    have f0_hr2 := frozen_of_row _ _ 0 _ _ hr2
    have f1_hr2 := frozen_of_row _ _ 1 _ _ hr2
    have f2_hr2 := frozen_of_row _ _ 2 _ _ hr2
    have f3_hr2 := frozen_of_row _ _ 3 _ _ hr2
    have f4_hr2 := frozen_of_row _ _ 4 _ _ hr2
    have f5_hr2 := frozen_of_row _ _ 5 _ _ hr2
    simp at r0_hr2 r1_hr2 r2_hr2 r3_hr2 r4_hr2 r5_hr2
    clear hg hr2
    go_wp2_with fail
    apply bodyPost_ret (results_row_tmp1 (P := Try.prog) (fn := Try.f81) rfl _ _ _ 58 _ (0, 0) _ rfl _ Try.underlying58 rfl _) rfl
    rotate_left 2
    · repeat (first | (with_reducible apply heap_setCell_same) | (with_reducible apply drew_row) | (with_reducible apply drewN_row) | (with_reducible exact HR2.out) | (with_reducible refine (heap_setCell_other _ _ _ _ (by first | omega | (simp; done) | (simp; omega))).trans ?_) | (with_reducible refine (Below.heap_alloc _ _ _ (by first | omega | (simp; done) | (simp; omega))).trans ?_))
    · kernel_rfl
    exact ⟨by rw [HV.out.1, HV.out.2]; simp, (by repeat (first | with_reducible exact Below.refl _ _ | with_reducible assumption | with_reducible refine Below.drew ?_ | with_reducible refine Below.alloc ?_ (by first | exact Nat.le_refl _ | omega | (simp; done) | (simp; omega)) _ | with_reducible refine Below.setCell ?_ (by first | exact Nat.le_refl _ | omega | (simp; done) | (simp; omega)) _ | (with_reducible refine ext_trans ?_ (by with_reducible assumption))))⟩
  case neg =>
  have HV : Hid (pkR s = .agg #[.int .i64 a1, .int .i64 a2, .int .i64 (s[8].toNat : Int), .int .i64 (s[9].toNat : Int), .int .i64 a5, .string (s.extract 20 t.toNat)] ∧ pkC s = 0) := by
    have h : pkC s = 0 := by (unfold pkC; rw [if_neg h20, if_neg (by simpa using hb), hS, if_neg (by simpa using hs0), ht, if_neg (by simpa using ht4), if_neg (by simp [hfb]), if_neg h8])
    exact ⟨by unfold pkR; rw [if_pos h, ha1, ha2, ha5, ht, by8, by9], h⟩
  have h8i : ¬ (s[8].toNat : Int) = 0 := by rw [by8] at h8; omega
  clear hfr
  go_enter Try.func81, Try.ntmps81
  generalize hW : (w.alloc (.cells #[.int .i64 0, .int .i64 0, .int .i64 0, .int .i64 0, .int .i64 0, .string ⟨#[]⟩] 58)) = w1 at *
  have HR := Lib.hid hr
  have r0_hr := cell_of_row _ _ 0 _ _ _ hr
  have r1_hr := cell_of_row _ _ 1 _ _ _ hr
  have r2_hr := cell_of_row _ _ 2 _ _ _ hr
  have r3_hr := cell_of_row _ _ 3 _ _ _ hr
  have r4_hr := cell_of_row _ _ 4 _ _ _ hr
  have r5_hr := cell_of_row _ _ 5 _ _ _ hr
  have f0_hr := frozen_of_row _ _ 0 _ _ hr
  have f1_hr := frozen_of_row _ _ 1 _ _ hr
  have f2_hr := frozen_of_row _ _ 2 _ _ hr
  have f3_hr := frozen_of_row _ _ 3 _ _ hr
  have f4_hr := frozen_of_row _ _ 4 _ _ hr
  have f5_hr := frozen_of_row _ _ 5 _ _ hr
  simp at r0_hr r1_hr r2_hr r3_hr r4_hr r5_hr
  clear hr
  go_wp2_with (first | (go_at_call 83; (with_reducible refine (Y1.out _).mono ?_); rintro e w' ⟨rfl, rfl⟩) | (go_at_call 103; (with_reducible refine (Y2.out _).mono ?_); rintro e w' ⟨rfl, rfl⟩) | (go_at_call 104; (with_reducible refine (Y8.out _).mono ?_); rintro e w' ⟨rfl, rfl⟩) | (go_at_call 52; (with_reducible refine (Y9.out _).mono ?_); rintro e w' ⟨rfl, rfl⟩))
  have hrd := HR.out
  go_cut [6] (fun sl wx => ∃ g : Nat, sl = .pointer (some ⟨g, 0, none⟩) ∧ wx.heap[g]? = some (.cells #[.int .i64 0, .int .i64 0, .int .i64 (s[8].toNat : Int), .int .i64 (s[9].toNat : Int), .int .i64 0, .string (s.extract 20 t.toNat)] 58 (0, 0)) ∧ w1.heap.size ≤ g ∧ Below w1.heap.size w1 wx)
  case first =>
    first | go_region_held3 (fun w' => (∀ b' o, b' < (w1).heap.size → w'.cell? ⟨b', o, none⟩ = (w1).cell? ⟨b', o, none⟩) ∧ Below (w1).heap.size (w1) w') (first | with_reducible assumption | (with_reducible apply rg_keep; rotate_left; with_reducible assumption; with_reducible assumption) | with_reducible exact rg_start _ | with_reducible exact rg_alloc (KeptS.out (by with_reducible assumption)) _ | with_reducible exact rg_alloc (by with_reducible assumption) _ | with_reducible exact rg_start_alloc _ _ | ((repeat (with_reducible refine rg_set ?_ _ (by first | exact Nat.le_refl _ | omega | (simp; done) | (simp; omega)) _)); first | with_reducible exact KeptS.out (by with_reducible assumption) | with_reducible assumption | with_reducible exact rg_alloc (KeptS.out (by with_reducible assumption)) _)) (first | fail) | fail
    all_goals
      go_wp2_with fail
      go_meet
      exact ⟨_, rfl, (show (w1.alloc _).heap[w1.heap.size]? = _ from (by repeat (first | exact heap_new _ _ _ (by first | rfl | (simp; done) | (simp; omega)) | refine (Below.heap_alloc _ _ _ (by first | omega | (simp; done) | (simp; omega))).trans ?_))), Nat.le_refl _, (by repeat (first | with_reducible exact Below.refl _ _ | with_reducible assumption | with_reducible refine Below.drew ?_ | with_reducible refine Below.alloc ?_ (by first | exact Nat.le_refl _ | omega | (simp; done) | (simp; omega)) _ | with_reducible refine Below.setCell ?_ (by first | exact Nat.le_refl _ | omega | (simp; done) | (simp; omega)) _ | (with_reducible refine ext_trans ?_ (by with_reducible assumption))))⟩
  case rest =>
  obtain ⟨g, rfl, hg, hleg, hb2⟩ := hcut
  rename World => w2
  have hz2 := hb2.size
  have hlg := (Array.getElem?_eq_some_iff.1 hg).1
  have hr2 := (hb2.block _ hl0).trans HR.out
  have hw2 : Below w.heap.size w w2 := (by repeat (first | with_reducible exact Below.refl _ _ | with_reducible assumption | with_reducible refine Below.drew ?_ | with_reducible refine Below.alloc ?_ (by first | exact Nat.le_refl _ | omega | (simp; done) | (simp; omega)) _ | with_reducible refine Below.setCell ?_ (by first | exact Nat.le_refl _ | omega | (simp; done) | (simp; omega)) _ | (with_reducible refine ext_trans ?_ (by with_reducible assumption))))
  have hne : ¬ w.heap.size = g := by omega
  have HR2 := Lib.hid hr2
  have r0_hg := cell_of_row _ _ 0 _ _ _ hg
  have r1_hg := cell_of_row _ _ 1 _ _ _ hg
  have r2_hg := cell_of_row _ _ 2 _ _ _ hg
  have r3_hg := cell_of_row _ _ 3 _ _ _ hg
  have r4_hg := cell_of_row _ _ 4 _ _ _ hg
  have r5_hg := cell_of_row _ _ 5 _ _ _ hg
  have f0_hg := frozen_of_row _ _ 0 _ _ hg
  have f1_hg := frozen_of_row _ _ 1 _ _ hg
  have f2_hg := frozen_of_row _ _ 2 _ _ hg
  have f3_hg := frozen_of_row _ _ 3 _ _ hg
  have f4_hg := frozen_of_row _ _ 4 _ _ hg
  have f5_hg := frozen_of_row _ _ 5 _ _ hg
  simp at r0_hg r1_hg r2_hg r3_hg r4_hg r5_hg
  have r0_hr2 := cell_of_row _ _ 0 _ _ _ hr2
  have r1_hr2 := cell_of_row _ _ 1 _ _ _ hr2
  have r2_hr2 := cell_of_row _ _ 2 _ _ _ hr2
  have r3_hr2 := cell_of_row _ _ 3 _ _ _ hr2
  have r4_hr2 := cell_of_row _ _ 4 _ _ _ hr2
  have r5_hr2 := cell_of_row _ _ 5 _ _ _ hr2
  have f0_hr2 := frozen_of_row _ _ 0 _ _ hr2
  have f1_hr2 := frozen_of_row _ _ 1 _ _ hr2
  have f2_hr2 := frozen_of_row _ _ 2 _ _ hr2
  have f3_hr2 := frozen_of_row _ _ 3 _ _ hr2
  have f4_hr2 := frozen_of_row _ _ 4 _ _ hr2
  have f5_hr2 := frozen_of_row _ _ 5 _ _ hr2
  simp at r0_hr2 r1_hr2 r2_hr2 r3_hr2 r4_hr2 r5_hr2
  clear hg hr2
  go_wp2_with (first | (go_at_call 83; (with_reducible refine (Y4.out _).mono ?_); rintro e w' ⟨rfl, rfl⟩) | (go_at_call 83; (with_reducible refine (Y5.out _).mono ?_); rintro e w' ⟨rfl, rfl⟩) | (go_at_call 83; (with_reducible refine (Y6.out _).mono ?_); rintro e w' ⟨rfl, rfl⟩))
  apply bodyPost_ret (results_row_tmp1 (P := Try.prog) (fn := Try.f81) rfl _ _ _ 58 _ (0, 0) _ rfl _ Try.underlying58 rfl _) rfl
  rotate_left 2
  · repeat (first | (with_reducible apply heap_setCell_same) | (with_reducible apply drew_row) | (with_reducible apply drewN_row) | (with_reducible exact HR2.out) | (with_reducible refine (heap_setCell_other _ _ _ _ (by first | omega | (simp; done) | (simp; omega))).trans ?_) | (with_reducible refine (Below.heap_alloc _ _ _ (by first | omega | (simp; done) | (simp; omega))).trans ?_))
  · kernel_rfl
  exact ⟨by rw [HV.out.1, HV.out.2]; simp, (by repeat (first | with_reducible exact Below.refl _ _ | with_reducible assumption | with_reducible refine Below.drew ?_ | with_reducible refine Below.alloc ?_ (by first | exact Nat.le_refl _ | omega | (simp; done) | (simp; omega)) _ | with_reducible refine Below.setCell ?_ (by first | exact Nat.le_refl _ | omega | (simp; done) | (simp; omega)) _ | (with_reducible refine ext_trans ?_ (by with_reducible assumption))))⟩
end Go.Proofs.Yteaniiponikpjaa
