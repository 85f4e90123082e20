/-
  The round undone: turnRight and unround.
-/
import Derived.Test.YtondhgmlemgoaaaSip
namespace Go.Proofs.Ytondhgmlemgoaaa
set_option maxRecDepth 100000
open Go.RowKit
/-- Turned right by k places. -/
def turnR (x : BitVec 64) (k : Nat) : BitVec 64 := x >>> k ||| x <<< (64 - k)
theorem turnR_rotl (x : BitVec 64) (k : Nat) (h1 : 0 < k) (h2 : k < 64) : turnR (rotl x k) k = x := by
  apply BitVec.eq_of_getLsbD_eq
  intro i hi
  simp only [turnR, rotl, BitVec.getLsbD_or, BitVec.getLsbD_shiftLeft, BitVec.getLsbD_ushiftRight]
  by_cases h : i < 64 - k
  · have e1 : k + i < 64 := by omega
    have e2 : ¬ k + i < k := by omega
    have e3 : k + i - k = i := by omega
    have e4 : x.getLsbD (64 - k + (k + i)) = false := BitVec.getLsbD_of_ge _ _ (by omega)
    simp [e1, e2, e3, e4, h]
  · have e1 : ¬ k + i < 64 := by omega
    have e2 : i - (64 - k) < k := by omega
    have e3 : 64 - k + (i - (64 - k)) = i := by omega
    have e4 : x.getLsbD (64 - k + (k + i)) = false := BitVec.getLsbD_of_ge _ _ (by omega)
    simp [e1, e2, e3, e4, h, hi]
theorem turn_eq (x : BitVec 64) (k : Nat) (m n : Int) (hm : m = ((2 ^ k : Nat) : Int)) (hn : n = ((2 ^ (64 - k) : Nat) : Int)) :
    bits BinOp.or .u64 (uI x / m) (IntKind.u64.wrap (uI x * n)) = uI (turnR x k) := by
  rw [uI_shl x (64 - k) n hn, uI_shr x k m hm, uI_or]
  rfl
def unround (s : S4) : S4 :=
  let c := turnR s.c 32
  let b := turnR (s.b ^^^ c) 17
  let c := c - b
  let d := turnR (s.d ^^^ s.a) 21
  let a := s.a - d
  let d := turnR (d ^^^ c) 16
  let c := c - d
  let a := turnR a 32
  let b := turnR (b ^^^ a) 13
  let a := a - b
  ⟨a, b, c, d⟩
theorem xor_twice (x y : BitVec 64) : x ^^^ y ^^^ y = x := by rw [BitVec.xor_assoc, BitVec.xor_self, BitVec.xor_zero]
theorem unround_round (s : S4) : unround (round s) = s := by
  obtain ⟨a, b, c, d⟩ := s
  simp only [unround, round, turnR_rotl _ 32 (by omega) (by omega), xor_twice, turnR_rotl _ 17 (by omega) (by omega), turnR_rotl _ 21 (by omega) (by omega), turnR_rotl _ 16 (by omega) (by omega), turnR_rotl _ 13 (by omega) (by omega), BitVec.add_sub_cancel]
theorem tr13 (x : BitVec 64) (w : World) :
    Calls Try.prog 60 #[.int .u64 (uI x), .int .u64 13] w fun e w' => e = .returned (.int .u64 (uI (turnR x 13))) ∧ w = w' := by
  have hx := (uI_bd x).1
  have hr := Lib.hid (turn_eq x 13 8192 2251799813685248 (by decide) (by decide))
  go_enter Try.func60, Try.ntmps60
  go_wp2
  go_ret
  exact ⟨by rw [← hr.out]; rfl, rfl⟩
theorem tr16 (x : BitVec 64) (w : World) :
    Calls Try.prog 60 #[.int .u64 (uI x), .int .u64 16] w fun e w' => e = .returned (.int .u64 (uI (turnR x 16))) ∧ w = w' := by
  have hx := (uI_bd x).1
  have hr := Lib.hid (turn_eq x 16 65536 281474976710656 (by decide) (by decide))
  go_enter Try.func60, Try.ntmps60
  go_wp2
  go_ret
  exact ⟨by rw [← hr.out]; rfl, rfl⟩
theorem tr17 (x : BitVec 64) (w : World) :
    Calls Try.prog 60 #[.int .u64 (uI x), .int .u64 17] w fun e w' => e = .returned (.int .u64 (uI (turnR x 17))) ∧ w = w' := by
  have hx := (uI_bd x).1
  have hr := Lib.hid (turn_eq x 17 131072 140737488355328 (by decide) (by decide))
  go_enter Try.func60, Try.ntmps60
  go_wp2
  go_ret
  exact ⟨by rw [← hr.out]; rfl, rfl⟩
theorem tr21 (x : BitVec 64) (w : World) :
    Calls Try.prog 60 #[.int .u64 (uI x), .int .u64 21] w fun e w' => e = .returned (.int .u64 (uI (turnR x 21))) ∧ w = w' := by
  have hx := (uI_bd x).1
  have hr := Lib.hid (turn_eq x 21 2097152 8796093022208 (by decide) (by decide))
  go_enter Try.func60, Try.ntmps60
  go_wp2
  go_ret
  exact ⟨by rw [← hr.out]; rfl, rfl⟩
theorem tr32 (x : BitVec 64) (w : World) :
    Calls Try.prog 60 #[.int .u64 (uI x), .int .u64 32] w fun e w' => e = .returned (.int .u64 (uI (turnR x 32))) ∧ w = w' := by
  have hx := (uI_bd x).1
  have hr := Lib.hid (turn_eq x 32 4294967296 4294967296 (by decide) (by decide))
  go_enter Try.func60, Try.ntmps60
  go_wp2
  go_ret
  exact ⟨by rw [← hr.out]; rfl, rfl⟩
set_option maxHeartbeats 2000000 in
theorem unround_any (s : S4) (w : World) :
    Calls Try.prog 36 #[vS s] w fun e w' => e = .returned (vS (unround s)) ∧ Below w.heap.size w w' := by
  have hu : unround s = ⟨((turnR (s.a - (turnR (s.d ^^^ s.a) 21)) 32) - (turnR ((turnR (s.b ^^^ (turnR s.c 32)) 17) ^^^ (turnR (s.a - (turnR (s.d ^^^ s.a) 21)) 32)) 13)), (turnR ((turnR (s.b ^^^ (turnR s.c 32)) 17) ^^^ (turnR (s.a - (turnR (s.d ^^^ s.a) 21)) 32)) 13), (((turnR s.c 32) - (turnR (s.b ^^^ (turnR s.c 32)) 17)) - (turnR ((turnR (s.d ^^^ s.a) 21) ^^^ ((turnR s.c 32) - (turnR (s.b ^^^ (turnR s.c 32)) 17))) 16)), (turnR ((turnR (s.d ^^^ s.a) 21) ^^^ ((turnR s.c 32) - (turnR (s.b ^^^ (turnR s.c 32)) 17))) 16)⟩ := rfl
  rw [hu]
  clear hu
  have hs := uI_sub
  have hx := uI_xor
  go_enter Try.func36, Try.ntmps36
  go_wp2_with (first | (go_at_call 60; (with_reducible refine (tr13 _ _).mono ?_); rintro e w' ⟨rfl, rfl⟩) | (go_at_call 60; (with_reducible refine (tr16 _ _).mono ?_); rintro e w' ⟨rfl, rfl⟩) | (go_at_call 60; (with_reducible refine (tr17 _ _).mono ?_); rintro e w' ⟨rfl, rfl⟩) | (go_at_call 60; (with_reducible refine (tr21 _ _).mono ?_); rintro e w' ⟨rfl, rfl⟩) | (go_at_call 60; (with_reducible refine (tr32 _ _).mono ?_); rintro e w' ⟨rfl, rfl⟩))
  exact bodyPost_ret (v := vS ⟨((turnR (s.a - (turnR (s.d ^^^ s.a) 21)) 32) - (turnR ((turnR (s.b ^^^ (turnR s.c 32)) 17) ^^^ (turnR (s.a - (turnR (s.d ^^^ s.a) 21)) 32)) 13)), (turnR ((turnR (s.b ^^^ (turnR s.c 32)) 17) ^^^ (turnR (s.a - (turnR (s.d ^^^ s.a) 21)) 32)) 13), (((turnR s.c 32) - (turnR (s.b ^^^ (turnR s.c 32)) 17)) - (turnR ((turnR (s.d ^^^ s.a) 21) ^^^ ((turnR s.c 32) - (turnR (s.b ^^^ (turnR s.c 32)) 17))) 16)), (turnR ((turnR (s.d ^^^ s.a) 21) ^^^ ((turnR s.c 32) - (turnR (s.b ^^^ (turnR s.c 32)) 17))) 16)⟩) (by simp [results, Try.results36, go_sem]) rfl ⟨rfl, (by repeat (first | with_reducible exact Below.refl _ _ | with_reducible assumption | with_reducible refine Below.drew ?_ | with_reducible refine Below.alloc ?_ (by first | exact Nat.le_refl _ | omega | (simp; done) | (simp; omega)) _ | with_reducible refine Below.setCell ?_ (by first | exact Nat.le_refl _ | omega | (simp; done) | (simp; omega)) _ | (with_reducible refine ext_trans ?_ (by with_reducible assumption))))⟩
end Go.Proofs.Ytondhgmlemgoaaa
