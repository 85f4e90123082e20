/-
  Contracts of the functions of SipHash over words of 64 bits.
-/
import Derived.Test.YtjlnbjabehpncaaReg
import Derived.Laws.BitsAllLaws
import Derived.Laws.BitsLemmas
import Derived.Deep.QuietTactic
import Derived.BigQuiet
import Derived.Deep.RegionLaw
import Derived.Deep.DeepCutAuto
namespace Go.Proofs.Ytjlnbjabehpncaa
open Go.RowKit

/-- A word of 64 bits as the walk's integer. -/
def uI (x : BitVec 64) : Int := (x.toNat : Int)
theorem uI_bd (x : BitVec 64) : 0 ≤ uI x ∧ uI x ≤ 18446744073709551615 := by
  unfold uI
  have := x.isLt
  omega
theorem u64_wrap (n : Int) : IntKind.u64.wrap n = n % 18446744073709551616 := by
  simp [IntKind.wrap, IntKind.signed, IntKind.bits]
theorem ofInt_uI (x : BitVec 64) : BitVec.ofInt 64 (uI x) = x := by
  unfold uI
  rw [BitVec.ofInt_natCast, BitVec.ofNat_toNat]
  simp
theorem uI_ofInt (n : Int) : uI (BitVec.ofInt 64 n) = n % 18446744073709551616 := by
  unfold uI
  rw [BitVec.toNat_ofInt]
  have : (0 : Int) ≤ n % 18446744073709551616 := by omega
  simp only [Nat.reducePow]
  omega
theorem uI_of (a : Int) (h : (Lit.int .u64 a).wf = true) : a = uI (BitVec.ofInt 64 a) := by
  rw [uI_ofInt]
  have := bd_u64 h
  omega
theorem uI_inj {x y : BitVec 64} (h : uI x = uI y) : x = y := by
  have := congrArg (BitVec.ofInt 64) h
  rwa [ofInt_uI, ofInt_uI] at this
theorem uI_wrap_toNat (x : BitVec 64) : IntKind.u64.wrap (x.toNat : Int) = uI x := by
  rw [u64_wrap]
  have := x.isLt
  unfold uI
  omega
theorem uI_xor (x y : BitVec 64) : bits BinOp.xor .u64 (uI x) (uI y) = uI (x ^^^ y) := by
  show IntKind.u64.wrap ((BitVec.ofInt 64 (uI x) ^^^ BitVec.ofInt 64 (uI y)).toNat : Int) = _
  rw [ofInt_uI, ofInt_uI, uI_wrap_toNat]
theorem uI_or (x y : BitVec 64) : bits BinOp.or .u64 (uI x) (uI y) = uI (x ||| y) := by
  show IntKind.u64.wrap ((BitVec.ofInt 64 (uI x) ||| BitVec.ofInt 64 (uI y)).toNat : Int) = _
  rw [ofInt_uI, ofInt_uI, uI_wrap_toNat]
theorem uI_eq (x : BitVec 64) (n : Int) (h : n % 18446744073709551616 = (x.toNat : Int)) : IntKind.u64.wrap n = uI x := by
  rw [u64_wrap, h]
  rfl
theorem uI_add (x y : BitVec 64) : IntKind.u64.wrap (uI x + uI y) = uI (x + y) := by
  apply uI_eq
  rw [BitVec.toNat_add]
  unfold uI
  simp only [Nat.reducePow]
  omega
theorem uI_sub (x y : BitVec 64) : IntKind.u64.wrap (uI x - uI y) = uI (x - y) := by
  apply uI_eq
  rw [BitVec.toNat_sub]
  unfold uI
  have := y.isLt
  simp only [Nat.reducePow] at this ⊢
  omega
theorem uI_shl (x : BitVec 64) (k : Nat) (m : Int) (hm : m = ((2 ^ k : Nat) : Int)) : IntKind.u64.wrap (uI x * m) = uI (x <<< k) := by
  apply uI_eq
  rw [BitVec.toNat_shiftLeft, Nat.shiftLeft_eq, hm]
  unfold uI
  rw [← Int.natCast_mul]
  simp only [Nat.reducePow]
  omega
theorem uI_shr (x : BitVec 64) (k : Nat) (m : Int) (hm : m = ((2 ^ k : Nat) : Int)) : uI x / m = uI (x >>> k) := by
  rw [hm]
  unfold uI
  rw [BitVec.toNat_ushiftRight, Nat.shiftRight_eq_div_pow]
  rfl

/-- Turned left by k places. -/
def rotl (x : BitVec 64) (k : Nat) : BitVec 64 := x <<< k ||| x >>> (64 - k)
theorem rot_eq (x : BitVec 64) (k : Nat) (m n : Int) (hm : m = ((2 ^ k : Nat) : Int)) (hn : n = ((2 ^ (64 - k) : Nat) : Int)) :
    bits BinOp.or .u64 (IntKind.u64.wrap (uI x * m)) (uI x / n) = uI (rotl x k) := by
  rw [uI_shl x k m hm, uI_shr x (64 - k) n hn, uI_or]
  rfl

structure S4 where
  a : BitVec 64
  b : BitVec 64
  c : BitVec 64
  d : BitVec 64
/-- One round. -/
def round (s : S4) : S4 :=
  let a1 := s.a + s.b
  let b1 := rotl s.b 13 ^^^ a1
  let a2 := rotl a1 32
  let c1 := s.c + s.d
  let d1 := rotl s.d 16 ^^^ c1
  let a3 := a2 + d1
  let d2 := rotl d1 21 ^^^ a3
  let c2 := c1 + b1
  let b2 := rotl b1 17 ^^^ c2
  ⟨a3, b2, rotl c2 32, d2⟩
/-- A word taken in. -/
def word (s : S4) (m : BitVec 64) : S4 :=
  let t := round (round ⟨s.a, s.b, s.c, s.d ^^^ m⟩)
  ⟨t.a ^^^ m, t.b, t.c, t.d⟩
def endS (s : S4) : S4 := round (round (round (round ⟨s.a, s.b, s.c ^^^ 255, s.d⟩)))
def endW (s : S4) : BitVec 64 := (endS s).a ^^^ (endS s).b ^^^ (endS s).c ^^^ (endS s).d
abbrev vS (s : S4) : Value := .agg #[.int .u64 (uI s.a), .int .u64 (uI s.b), .int .u64 (uI s.c), .int .u64 (uI s.d)]
abbrev rS (s : S4) : Obj := .cells #[.int .u64 (uI s.a), .int .u64 (uI s.b), .int .u64 (uI s.c), .int .u64 (uI s.d)] 114 (0, 0)


theorem rot13 (x : BitVec 64) (w : World) :
    Calls Try.prog 111 #[.int .u64 (uI x), .int .i64 13] w fun e w' => e = .returned (.int .u64 (uI (rotl x 13))) ∧ w = w' := by
  have hk : bits BinOp.and .u64 13 63 = 13 := by decide
  have hw : IntKind.u64.wrap 13 = 13 := by decide
  have hx := (uI_bd x).1
  have hr := Lib.hid (rot_eq x 13 8192 2251799813685248 (by decide) (by decide))
  go_enter Try.func111, Try.ntmps111
  go_wp2
  go_ret
  exact ⟨by rw [← hr.out]; rfl, rfl⟩
theorem turn13 (x : BitVec 64) (w : World) :
    Calls Try.prog 112 #[.int .u64 (uI x), .int .u64 13] w fun e w' => e = .returned (.int .u64 (uI (rotl x 13))) ∧ w = w' := by
  have hx := (uI_bd x).1
  have hr := Lib.hid (rot_eq x 13 8192 2251799813685248 (by decide) (by decide))
  go_enter Try.func112, Try.ntmps112
  go_wp2
  go_ret
  exact ⟨by rw [← hr.out]; rfl, rfl⟩

theorem rot16 (x : BitVec 64) (w : World) :
    Calls Try.prog 111 #[.int .u64 (uI x), .int .i64 16] w fun e w' => e = .returned (.int .u64 (uI (rotl x 16))) ∧ w = w' := by
  have hk : bits BinOp.and .u64 16 63 = 16 := by decide
  have hw : IntKind.u64.wrap 16 = 16 := by decide
  have hx := (uI_bd x).1
  have hr := Lib.hid (rot_eq x 16 65536 281474976710656 (by decide) (by decide))
  go_enter Try.func111, Try.ntmps111
  go_wp2
  go_ret
  exact ⟨by rw [← hr.out]; rfl, rfl⟩
theorem turn16 (x : BitVec 64) (w : World) :
    Calls Try.prog 112 #[.int .u64 (uI x), .int .u64 16] w fun e w' => e = .returned (.int .u64 (uI (rotl x 16))) ∧ w = w' := by
  have hx := (uI_bd x).1
  have hr := Lib.hid (rot_eq x 16 65536 281474976710656 (by decide) (by decide))
  go_enter Try.func112, Try.ntmps112
  go_wp2
  go_ret
  exact ⟨by rw [← hr.out]; rfl, rfl⟩

theorem rot17 (x : BitVec 64) (w : World) :
    Calls Try.prog 111 #[.int .u64 (uI x), .int .i64 17] w fun e w' => e = .returned (.int .u64 (uI (rotl x 17))) ∧ w = w' := by
  have hk : bits BinOp.and .u64 17 63 = 17 := by decide
  have hw : IntKind.u64.wrap 17 = 17 := by decide
  have hx := (uI_bd x).1
  have hr := Lib.hid (rot_eq x 17 131072 140737488355328 (by decide) (by decide))
  go_enter Try.func111, Try.ntmps111
  go_wp2
  go_ret
  exact ⟨by rw [← hr.out]; rfl, rfl⟩
theorem turn17 (x : BitVec 64) (w : World) :
    Calls Try.prog 112 #[.int .u64 (uI x), .int .u64 17] w fun e w' => e = .returned (.int .u64 (uI (rotl x 17))) ∧ w = w' := by
  have hx := (uI_bd x).1
  have hr := Lib.hid (rot_eq x 17 131072 140737488355328 (by decide) (by decide))
  go_enter Try.func112, Try.ntmps112
  go_wp2
  go_ret
  exact ⟨by rw [← hr.out]; rfl, rfl⟩

theorem rot21 (x : BitVec 64) (w : World) :
    Calls Try.prog 111 #[.int .u64 (uI x), .int .i64 21] w fun e w' => e = .returned (.int .u64 (uI (rotl x 21))) ∧ w = w' := by
  have hk : bits BinOp.and .u64 21 63 = 21 := by decide
  have hw : IntKind.u64.wrap 21 = 21 := by decide
  have hx := (uI_bd x).1
  have hr := Lib.hid (rot_eq x 21 2097152 8796093022208 (by decide) (by decide))
  go_enter Try.func111, Try.ntmps111
  go_wp2
  go_ret
  exact ⟨by rw [← hr.out]; rfl, rfl⟩
theorem turn21 (x : BitVec 64) (w : World) :
    Calls Try.prog 112 #[.int .u64 (uI x), .int .u64 21] w fun e w' => e = .returned (.int .u64 (uI (rotl x 21))) ∧ w = w' := by
  have hx := (uI_bd x).1
  have hr := Lib.hid (rot_eq x 21 2097152 8796093022208 (by decide) (by decide))
  go_enter Try.func112, Try.ntmps112
  go_wp2
  go_ret
  exact ⟨by rw [← hr.out]; rfl, rfl⟩

theorem rot32 (x : BitVec 64) (w : World) :
    Calls Try.prog 111 #[.int .u64 (uI x), .int .i64 32] w fun e w' => e = .returned (.int .u64 (uI (rotl x 32))) ∧ w = w' := by
  have hk : bits BinOp.and .u64 32 63 = 32 := by decide
  have hw : IntKind.u64.wrap 32 = 32 := by decide
  have hx := (uI_bd x).1
  have hr := Lib.hid (rot_eq x 32 4294967296 4294967296 (by decide) (by decide))
  go_enter Try.func111, Try.ntmps111
  go_wp2
  go_ret
  exact ⟨by rw [← hr.out]; rfl, rfl⟩
theorem turn32 (x : BitVec 64) (w : World) :
    Calls Try.prog 112 #[.int .u64 (uI x), .int .u64 32] w fun e w' => e = .returned (.int .u64 (uI (rotl x 32))) ∧ w = w' := by
  have hx := (uI_bd x).1
  have hr := Lib.hid (rot_eq x 32 4294967296 4294967296 (by decide) (by decide))
  go_enter Try.func112, Try.ntmps112
  go_wp2
  go_ret
  exact ⟨by rw [← hr.out]; rfl, rfl⟩

theorem still_of {f : FuncId} {args : Array Value} {w : World} {v : Value} (h : Calls Try.prog f args w fun e w' => e = .returned v ∧ w = w') : Calls Try.prog f args w fun e w' => e = .returned v ∧ w' = w :=
  h.mono fun _ _ ⟨he, hw⟩ => ⟨he, hw.symm⟩



abbrev Wd (w : World) (a b c d : BitVec 64) : World := (w.alloc (rS ⟨a, b, c, d⟩)).alloc (.cells #[.int .u64 0, .int .u64 0, .int .u64 0, .int .u64 0] 114)

set_option maxRecDepth 100000 in
set_option maxHeartbeats 2000000 in
theorem SipRound_any (s : S4) (w : World) :
    Calls Try.prog 109 #[vS s] w fun e w' => e = .returned (vS (round s)) ∧ Below w.heap.size w w' := by
  have ha := uI_add
  have hx := uI_xor
  go_enter Try.func109, Try.ntmps109
  go_wp2_with fail
  go_cut [1] (fun u wx => u = .pointer (some ⟨w.heap.size, 0, none⟩) ∧ wx = (Wd w ((s.a + s.b)) ((rotl s.b 13 ^^^ (s.a + s.b))) (s.c) (s.d)).drew)
  case first =>
    go_region_law (first | (go_simp; go_at_call 111; (with_reducible refine (rot13 _ _).mono ?_); rintro e w' ⟨rfl, rfl⟩))
    all_goals (go_wp2_with fail; go_meet; exact ⟨rfl, rfl⟩)
  case rest =>
  obtain ⟨rfl, rfl⟩ := hcut
  go_wp2_with fail
  ((with_reducible refine (rot32 _ _).mono ?_); rintro e w' ⟨rfl, rfl⟩)
  go_wp2_with fail
  go_cut [1] (fun u wx => u = .pointer (some ⟨w.heap.size, 0, none⟩) ∧ wx = (Wd w ((rotl (s.a + s.b) 32)) ((rotl s.b 13 ^^^ (s.a + s.b))) ((s.c + s.d)) ((rotl s.d 16 ^^^ (s.c + s.d)))).drew.drew)
  case first =>
    go_region_law (first | (go_simp; go_at_call 111; (with_reducible refine (rot16 _ _).mono ?_); rintro e w' ⟨rfl, rfl⟩))
    all_goals (go_wp2_with fail; go_meet; exact ⟨rfl, rfl⟩)
  case rest =>
  obtain ⟨rfl, rfl⟩ := hcut
  go_wp2_with fail
  go_cut [1] (fun u wx => u = .pointer (some ⟨w.heap.size, 0, none⟩) ∧ wx = (Wd w (((rotl (s.a + s.b) 32) + (rotl s.d 16 ^^^ (s.c + s.d)))) ((rotl s.b 13 ^^^ (s.a + s.b))) ((s.c + s.d)) ((rotl (rotl s.d 16 ^^^ (s.c + s.d)) 21 ^^^ ((rotl (s.a + s.b) 32) + (rotl s.d 16 ^^^ (s.c + s.d)))))).drew.drew.drew)
  case first =>
    go_region_law (first | (go_simp; go_at_call 111; (with_reducible refine (rot21 _ _).mono ?_); rintro e w' ⟨rfl, rfl⟩))
    all_goals (go_wp2_with fail; go_meet; exact ⟨rfl, rfl⟩)
  case rest =>
  obtain ⟨rfl, rfl⟩ := hcut
  go_wp2_with fail
  go_cut [1] (fun u wx => u = .pointer (some ⟨w.heap.size, 0, none⟩) ∧ wx = (Wd w (((rotl (s.a + s.b) 32) + (rotl s.d 16 ^^^ (s.c + s.d)))) ((rotl (rotl s.b 13 ^^^ (s.a + s.b)) 17 ^^^ ((s.c + s.d) + (rotl s.b 13 ^^^ (s.a + s.b))))) (((s.c + s.d) + (rotl s.b 13 ^^^ (s.a + s.b)))) ((rotl (rotl s.d 16 ^^^ (s.c + s.d)) 21 ^^^ ((rotl (s.a + s.b) 32) + (rotl s.d 16 ^^^ (s.c + s.d)))))).drew.drew.drew.drew)
  case first =>
    go_region_law (first | (go_simp; go_at_call 111; (with_reducible refine (rot17 _ _).mono ?_); rintro e w' ⟨rfl, rfl⟩))
    all_goals (go_wp2_with fail; go_meet; exact ⟨rfl, rfl⟩)
  case rest =>
  obtain ⟨rfl, rfl⟩ := hcut
  go_wp2_with fail
  ((with_reducible refine (rot32 _ _).mono ?_); rintro e w' ⟨rfl, rfl⟩)
  go_wp2_with fail
  exact bodyPost_ret (v := vS (round s)) (by simp [results, Try.results109, go_sem]; exact ⟨rfl, rfl, rfl, rfl⟩) rfl ⟨rfl, (by repeat (first | with_reducible exact Below.refl _ _ | with_reducible assumption | with_reducible refine Below.drew ?_ | with_reducible refine Below.alloc ?_ (by first | exact Nat.le_refl _ | omega | (simp; done) | (simp; omega)) _ | with_reducible refine Below.setCell ?_ (by first | exact Nat.le_refl _ | omega | (simp; done) | (simp; omega)) _ | (with_reducible refine ext_trans ?_ (by with_reducible assumption))))⟩
set_option maxRecDepth 100000 in
set_option maxHeartbeats 2000000 in
theorem sSipRound_any (s : S4) (w : World) :
    Calls Try.prog 110 #[vS s] w fun e w' => e = .returned (vS (round s)) ∧ Below w.heap.size w w' := by
  have ha := uI_add
  have hx := uI_xor
  go_enter Try.func110, Try.ntmps110
  go_wp2_with fail
  go_cut [1] (fun u wx => u = .pointer (some ⟨w.heap.size, 0, none⟩) ∧ wx = (Wd w ((s.a + s.b)) ((rotl s.b 13 ^^^ (s.a + s.b))) (s.c) (s.d)).drew)
  case first =>
    go_region_law (first | (go_simp; go_at_call 112; (with_reducible refine (turn13 _ _).mono ?_); rintro e w' ⟨rfl, rfl⟩))
    all_goals (go_wp2_with fail; go_meet; exact ⟨rfl, rfl⟩)
  case rest =>
  obtain ⟨rfl, rfl⟩ := hcut
  go_wp2_with fail
  ((with_reducible refine (turn32 _ _).mono ?_); rintro e w' ⟨rfl, rfl⟩)
  go_wp2_with fail
  go_cut [1] (fun u wx => u = .pointer (some ⟨w.heap.size, 0, none⟩) ∧ wx = (Wd w ((rotl (s.a + s.b) 32)) ((rotl s.b 13 ^^^ (s.a + s.b))) ((s.c + s.d)) ((rotl s.d 16 ^^^ (s.c + s.d)))).drew.drew)
  case first =>
    go_region_law (first | (go_simp; go_at_call 112; (with_reducible refine (turn16 _ _).mono ?_); rintro e w' ⟨rfl, rfl⟩))
    all_goals (go_wp2_with fail; go_meet; exact ⟨rfl, rfl⟩)
  case rest =>
  obtain ⟨rfl, rfl⟩ := hcut
  go_wp2_with fail
  go_cut [1] (fun u wx => u = .pointer (some ⟨w.heap.size, 0, none⟩) ∧ wx = (Wd w (((rotl (s.a + s.b) 32) + (rotl s.d 16 ^^^ (s.c + s.d)))) ((rotl s.b 13 ^^^ (s.a + s.b))) ((s.c + s.d)) ((rotl (rotl s.d 16 ^^^ (s.c + s.d)) 21 ^^^ ((rotl (s.a + s.b) 32) + (rotl s.d 16 ^^^ (s.c + s.d)))))).drew.drew.drew)
  case first =>
    go_region_law (first | (go_simp; go_at_call 112; (with_reducible refine (turn21 _ _).mono ?_); rintro e w' ⟨rfl, rfl⟩))
    all_goals (go_wp2_with fail; go_meet; exact ⟨rfl, rfl⟩)
  case rest =>
  obtain ⟨rfl, rfl⟩ := hcut
  go_wp2_with fail
  go_cut [1] (fun u wx => u = .pointer (some ⟨w.heap.size, 0, none⟩) ∧ wx = (Wd w (((rotl (s.a + s.b) 32) + (rotl s.d 16 ^^^ (s.c + s.d)))) ((rotl (rotl s.b 13 ^^^ (s.a + s.b)) 17 ^^^ ((s.c + s.d) + (rotl s.b 13 ^^^ (s.a + s.b))))) (((s.c + s.d) + (rotl s.b 13 ^^^ (s.a + s.b)))) ((rotl (rotl s.d 16 ^^^ (s.c + s.d)) 21 ^^^ ((rotl (s.a + s.b) 32) + (rotl s.d 16 ^^^ (s.c + s.d)))))).drew.drew.drew.drew)
  case first =>
    go_region_law (first | (go_simp; go_at_call 112; (with_reducible refine (turn17 _ _).mono ?_); rintro e w' ⟨rfl, rfl⟩))
    all_goals (go_wp2_with fail; go_meet; exact ⟨rfl, rfl⟩)
  case rest =>
  obtain ⟨rfl, rfl⟩ := hcut
  go_wp2_with fail
  ((with_reducible refine (turn32 _ _).mono ?_); rintro e w' ⟨rfl, rfl⟩)
  go_wp2_with fail
  exact bodyPost_ret (v := vS (round s)) (by simp [results, Try.results110, go_sem]; exact ⟨rfl, rfl, rfl, rfl⟩) rfl ⟨rfl, (by repeat (first | with_reducible exact Below.refl _ _ | with_reducible assumption | with_reducible refine Below.drew ?_ | with_reducible refine Below.alloc ?_ (by first | exact Nat.le_refl _ | omega | (simp; done) | (simp; omega)) _ | with_reducible refine Below.setCell ?_ (by first | exact Nat.le_refl _ | omega | (simp; done) | (simp; omega)) _ | (with_reducible refine ext_trans ?_ (by with_reducible assumption))))⟩



set_option maxHeartbeats 1000000 in
theorem SipWord_any (s : S4) (m : BitVec 64) (w : World) :
    Calls Try.prog 101 #[vS s, .int .u64 (uI m)] w fun e w' => e = .returned (vS (word s m)) ∧ Below w.heap.size w w' := by
  have hx := uI_xor
  go_enter Try.func101, Try.ntmps101
  go_wp2_with fail
  refine (SipRound_any ⟨s.a, s.b, s.c, s.d ^^^ m⟩ _).mono ?_
  rintro e w1 ⟨rfl, hb1⟩
  obtain ⟨hc1, hf1⟩ := bcell hb1
  have hz1 := hb1.size
  (try simp at hz1)
  have hy1_0 : w.heap.size < w1.heap.size := by omega
  have hy1_1 : w.heap.size + 1 < w1.heap.size := by omega
  go_wp2_with fail
  refine (SipRound_any (round ⟨s.a, s.b, s.c, s.d ^^^ m⟩) _).mono ?_
  rintro e w2 ⟨rfl, hb2⟩
  obtain ⟨hc2, hf2⟩ := bcell hb2
  have hz2 := hb2.size
  (try simp at hz2)
  have hy2_0 : w.heap.size < w2.heap.size := by omega
  have hy2_1 : w.heap.size + 1 < w2.heap.size := by omega
  have hs1 : w1.heap[w.heap.size]? = some (rS ⟨s.a, s.b, s.c, s.d ^^^ m⟩) := (hb1.block _ (by first | (simp; done) | (simp; omega))).trans (by repeat (first | exact heap_new _ _ _ (by first | rfl | (simp; done) | (simp; omega)) | refine (Below.heap_alloc _ _ _ (by first | omega | (simp; done) | (simp; omega))).trans ?_))
  have hr1 : w1.heap[w.heap.size + 1]? = some (.cells #[.int .u64 0, .int .u64 0, .int .u64 0, .int .u64 0] 114 (0, 0)) := (hb1.block _ (by first | (simp; done) | (simp; omega))).trans (by repeat (first | exact heap_new _ _ _ (by first | rfl | (simp; done) | (simp; omega)) | refine (Below.heap_alloc _ _ _ (by first | omega | (simp; done) | (simp; omega))).trans ?_))
  have hs2 := (hb2.block (w.heap.size) (by omega)).trans hs1
  have hr2 := (hb2.block (w.heap.size + 1) (by omega)).trans hr1
  clear hs1 hr1
  have r0_hs2 := cell_of_row _ _ 0 _ _ _ hs2
  have r1_hs2 := cell_of_row _ _ 1 _ _ _ hs2
  have r2_hs2 := cell_of_row _ _ 2 _ _ _ hs2
  have r3_hs2 := cell_of_row _ _ 3 _ _ _ hs2
  have f0_hs2 := frozen_of_row _ _ 0 _ _ hs2
  have f1_hs2 := frozen_of_row _ _ 1 _ _ hs2
  have f2_hs2 := frozen_of_row _ _ 2 _ _ hs2
  have f3_hs2 := frozen_of_row _ _ 3 _ _ hs2
  simp at r0_hs2 r1_hs2 r2_hs2 r3_hs2
  have r0_hr2 := cell_of_row _ _ 0 _ _ _ hr2
  have r1_hr2 := cell_of_row _ _ 1 _ _ _ hr2
  have r2_hr2 := cell_of_row _ _ 2 _ _ _ hr2
  have r3_hr2 := cell_of_row _ _ 3 _ _ _ hr2
  have f0_hr2 := frozen_of_row _ _ 0 _ _ hr2
  have f1_hr2 := frozen_of_row _ _ 1 _ _ hr2
  have f2_hr2 := frozen_of_row _ _ 2 _ _ hr2
  have f3_hr2 := frozen_of_row _ _ 3 _ _ hr2
  simp at r0_hr2 r1_hr2 r2_hr2 r3_hr2
  clear hc1 hf1 hc2 hf2
  go_wp2_with fail
  apply bodyPost_ret (results_cell_row (P := Try.prog) (fn := Try.f101) rfl _ _ _ 114 _ (0, 0) _ rfl _ Try.underlying114 rfl _) rfl
  rotate_left 2
  · repeat (first | (with_reducible apply heap_setCell_same) | (with_reducible apply drew_row) | (with_reducible apply drewN_row) | (with_reducible exact hr2) | (with_reducible refine (heap_setCell_other _ _ _ _ (by first | omega | (simp; done) | (simp; omega))).trans ?_) | (with_reducible refine (Below.heap_alloc _ _ _ (by first | omega | (simp; done) | (simp; omega))).trans ?_))
  · kernel_rfl
  refine ⟨?_, (by repeat (first | with_reducible exact Below.refl _ _ | with_reducible assumption | with_reducible refine Below.drew ?_ | with_reducible refine Below.alloc ?_ (by first | exact Nat.le_refl _ | omega | (simp; done) | (simp; omega)) _ | with_reducible refine Below.setCell ?_ (by first | exact Nat.le_refl _ | omega | (simp; done) | (simp; omega)) _ | (with_reducible refine ext_trans ?_ (by with_reducible assumption))))⟩
  simp [word]


set_option maxHeartbeats 1000000 in
theorem sSipWord_any (s : S4) (m : BitVec 64) (w : World) :
    Calls Try.prog 106 #[vS s, .int .u64 (uI m)] w fun e w' => e = .returned (vS (word s m)) ∧ Below w.heap.size w w' := by
  have hx := uI_xor
  go_enter Try.func106, Try.ntmps106
  go_wp2_with fail
  refine (sSipRound_any ⟨s.a, s.b, s.c, s.d ^^^ m⟩ _).mono ?_
  rintro e w1 ⟨rfl, hb1⟩
  obtain ⟨hc1, hf1⟩ := bcell hb1
  have hz1 := hb1.size
  (try simp at hz1)
  have hy1_0 : w.heap.size < w1.heap.size := by omega
  have hy1_1 : w.heap.size + 1 < w1.heap.size := by omega
  go_wp2_with fail
  refine (sSipRound_any (round ⟨s.a, s.b, s.c, s.d ^^^ m⟩) _).mono ?_
  rintro e w2 ⟨rfl, hb2⟩
  obtain ⟨hc2, hf2⟩ := bcell hb2
  have hz2 := hb2.size
  (try simp at hz2)
  have hy2_0 : w.heap.size < w2.heap.size := by omega
  have hy2_1 : w.heap.size + 1 < w2.heap.size := by omega
  have hs1 : w1.heap[w.heap.size]? = some (rS ⟨s.a, s.b, s.c, s.d ^^^ m⟩) := (hb1.block _ (by first | (simp; done) | (simp; omega))).trans (by repeat (first | exact heap_new _ _ _ (by first | rfl | (simp; done) | (simp; omega)) | refine (Below.heap_alloc _ _ _ (by first | omega | (simp; done) | (simp; omega))).trans ?_))
  have hr1 : w1.heap[w.heap.size + 1]? = some (.cells #[.int .u64 0, .int .u64 0, .int .u64 0, .int .u64 0] 114 (0, 0)) := (hb1.block _ (by first | (simp; done) | (simp; omega))).trans (by repeat (first | exact heap_new _ _ _ (by first | rfl | (simp; done) | (simp; omega)) | refine (Below.heap_alloc _ _ _ (by first | omega | (simp; done) | (simp; omega))).trans ?_))
  have hs2 := (hb2.block (w.heap.size) (by omega)).trans hs1
  have hr2 := (hb2.block (w.heap.size + 1) (by omega)).trans hr1
  clear hs1 hr1
  have r0_hs2 := cell_of_row _ _ 0 _ _ _ hs2
  have r1_hs2 := cell_of_row _ _ 1 _ _ _ hs2
  have r2_hs2 := cell_of_row _ _ 2 _ _ _ hs2
  have r3_hs2 := cell_of_row _ _ 3 _ _ _ hs2
  have f0_hs2 := frozen_of_row _ _ 0 _ _ hs2
  have f1_hs2 := frozen_of_row _ _ 1 _ _ hs2
  have f2_hs2 := frozen_of_row _ _ 2 _ _ hs2
  have f3_hs2 := frozen_of_row _ _ 3 _ _ hs2
  simp at r0_hs2 r1_hs2 r2_hs2 r3_hs2
  have r0_hr2 := cell_of_row _ _ 0 _ _ _ hr2
  have r1_hr2 := cell_of_row _ _ 1 _ _ _ hr2
  have r2_hr2 := cell_of_row _ _ 2 _ _ _ hr2
  have r3_hr2 := cell_of_row _ _ 3 _ _ _ hr2
  have f0_hr2 := frozen_of_row _ _ 0 _ _ hr2
  have f1_hr2 := frozen_of_row _ _ 1 _ _ hr2
  have f2_hr2 := frozen_of_row _ _ 2 _ _ hr2
  have f3_hr2 := frozen_of_row _ _ 3 _ _ hr2
  simp at r0_hr2 r1_hr2 r2_hr2 r3_hr2
  clear hc1 hf1 hc2 hf2
  go_wp2_with fail
  apply bodyPost_ret (results_cell_row (P := Try.prog) (fn := Try.f106) rfl _ _ _ 114 _ (0, 0) _ rfl _ Try.underlying114 rfl _) rfl
  rotate_left 2
  · repeat (first | (with_reducible apply heap_setCell_same) | (with_reducible apply drew_row) | (with_reducible apply drewN_row) | (with_reducible exact hr2) | (with_reducible refine (heap_setCell_other _ _ _ _ (by first | omega | (simp; done) | (simp; omega))).trans ?_) | (with_reducible refine (Below.heap_alloc _ _ _ (by first | omega | (simp; done) | (simp; omega))).trans ?_))
  · kernel_rfl
  refine ⟨?_, (by repeat (first | with_reducible exact Below.refl _ _ | with_reducible assumption | with_reducible refine Below.drew ?_ | with_reducible refine Below.alloc ?_ (by first | exact Nat.le_refl _ | omega | (simp; done) | (simp; omega)) _ | with_reducible refine Below.setCell ?_ (by first | exact Nat.le_refl _ | omega | (simp; done) | (simp; omega)) _ | (with_reducible refine ext_trans ?_ (by with_reducible assumption))))⟩
  simp [word]


theorem uI_255 (x : BitVec 64) : bits BinOp.xor .u64 (uI x) 255 = uI (x ^^^ 255) := uI_xor x 255
def rounds : Nat → S4 → S4
  | 0, s => s
  | k + 1, s => round (rounds k s)
theorem stored_S4 {w : World} {g : Nat} {s : S4} (h : w.heap[g]? = some (rS s)) (t : S4) :
    ((((w.setCell ⟨g, 0, none⟩ (.int .u64 (uI t.a))).setCell ⟨g, 1, none⟩ (.int .u64 (uI t.b))).setCell ⟨g, 2, none⟩ (.int .u64 (uI t.c))).setCell ⟨g, 3, none⟩ (.int .u64 (uI t.d))).heap[g]? = some (rS t) :=
  (heap_setCell_same _ _ 3 _ _ _ (heap_setCell_same _ _ 2 _ _ _ (heap_setCell_same _ _ 1 _ _ _ (heap_setCell_same _ _ 0 _ _ _ h)))).trans (by simp)
def EndRel (w : World) (s : S4) (k : Nat) (wr : World) : Prop := wr.heap[w.heap.size]? = some (rS (rounds k ⟨s.a, s.b, s.c ^^^ 255, s.d⟩)) ∧ Below w.heap.size w wr
set_option maxRecDepth 100000 in
theorem SipEnd_any (s : S4) (w : World) :
    Calls Try.prog 103 #[vS s] w fun e w' => e = .returned (.int .u64 (uI (endW s))) ∧ Below w.heap.size w w' := by
  have hx := uI_xor
  have hy := uI_255
  go_enter Try.func103, Try.ntmps103
  go_wp2_with fail
  clear hy hx
  go_loopw [7] (fun i wr => ∃ k : Nat, k ≤ 4 ∧ i = .int .i64 k ∧ EndRel w s k wr) (fun i _ => 4 - (intOf i).toNat)
  case atStart => exact ⟨0, by omega, rfl, ⟨heap_alloc_new _ _, (by repeat (first | with_reducible exact Below.refl _ _ | with_reducible assumption | with_reducible refine Below.drew ?_ | with_reducible refine Below.alloc ?_ (by first | exact Nat.le_refl _ | omega | (simp; done) | (simp; omega)) _ | with_reducible refine Below.setCell ?_ (by first | exact Nat.le_refl _ | omega | (simp; done) | (simp; omega)) _ | (with_reducible refine ext_trans ?_ (by with_reducible assumption))))⟩⟩
  case round =>
    obtain ⟨k, hk, rfl, ⟨hrow, hb⟩⟩ := hrel
    have hlw := (Array.getElem?_eq_some_iff.1 hrow).1
    obtain ⟨t, ht⟩ : ∃ t, rounds k ⟨s.a, s.b, s.c ^^^ 255, s.d⟩ = t := ⟨_, rfl⟩
    rw [ht] at hrow
    have HT := Lib.hid ht
    clear ht
    have r0_hrow := cell_of_row _ _ 0 _ _ _ hrow
    have r1_hrow := cell_of_row _ _ 1 _ _ _ hrow
    have r2_hrow := cell_of_row _ _ 2 _ _ _ hrow
    have r3_hrow := cell_of_row _ _ 3 _ _ _ hrow
    have f0_hrow := frozen_of_row _ _ 0 _ _ hrow
    have f1_hrow := frozen_of_row _ _ 1 _ _ hrow
    have f2_hrow := frozen_of_row _ _ 2 _ _ hrow
    have f3_hrow := frozen_of_row _ _ 3 _ _ hrow
    simp at r0_hrow r1_hrow r2_hrow r3_hrow
    have HR := Lib.hid hrow
    clear hrow
    by_cases hlt : k < 4
    · go_wp2_with fail
      refine (SipRound_any t _).mono ?_
      rintro e w1 ⟨rfl, hb1⟩
      obtain ⟨hc1, hf1⟩ := bcell hb1
      have hz1 := hb1.size
      (try simp at hz1)
      have hy1_0 : w.heap.size < w1.heap.size := by omega
      have hrow1 := (hb1.block (w.heap.size) (by omega)).trans HR.out
      have r0_hrow1 := cell_of_row _ _ 0 _ _ _ hrow1
      have r1_hrow1 := cell_of_row _ _ 1 _ _ _ hrow1
      have r2_hrow1 := cell_of_row _ _ 2 _ _ _ hrow1
      have r3_hrow1 := cell_of_row _ _ 3 _ _ _ hrow1
      have f0_hrow1 := frozen_of_row _ _ 0 _ _ hrow1
      have f1_hrow1 := frozen_of_row _ _ 1 _ _ hrow1
      have f2_hrow1 := frozen_of_row _ _ 2 _ _ hrow1
      have f3_hrow1 := frozen_of_row _ _ 3 _ _ hrow1
      simp at r0_hrow1 r1_hrow1 r2_hrow1 r3_hrow1
      clear hc1 hf1
      go_wp2_with fail
      have hst := stored_S4 hrow1 (round t)
      go_roundw
      case rel => exact ⟨k + 1, by omega, by go_num, ⟨by rw [rounds, HT.out]; exact hst, (by repeat (first | with_reducible exact Below.refl _ _ | with_reducible assumption | with_reducible refine Below.drew ?_ | with_reducible refine Below.alloc ?_ (by first | exact Nat.le_refl _ | omega | (simp; done) | (simp; omega)) _ | with_reducible refine Below.setCell ?_ (by first | exact Nat.le_refl _ | omega | (simp; done) | (simp; omega)) _ | (with_reducible refine ext_trans ?_ (by with_reducible assumption))))⟩⟩
      case measure => simp [intOf]; omega
    · obtain rfl : k = 4 := by omega
      go_wp2_with fail
      go_ret
      refine ⟨?_, (by repeat (first | with_reducible exact Below.refl _ _ | with_reducible assumption | with_reducible refine Below.drew ?_ | with_reducible refine Below.alloc ?_ (by first | exact Nat.le_refl _ | omega | (simp; done) | (simp; omega)) _ | with_reducible refine Below.setCell ?_ (by first | exact Nat.le_refl _ | omega | (simp; done) | (simp; omega)) _ | (with_reducible refine ext_trans ?_ (by with_reducible assumption))))⟩
      have he : endS s = t := HT.out
      simp [endW, he, uI_xor]

theorem sSipEnd_any (s : S4) (w : World) :
    Calls Try.prog 108 #[vS s] w fun e w' => e = .returned (.int .u64 (uI (endW s))) ∧ Below w.heap.size w w' := by
  have hx := uI_xor
  have hy := uI_255
  obtain ⟨s1, e1⟩ : ∃ t, round ⟨s.a, s.b, s.c ^^^ 255, s.d⟩ = t := ⟨_, rfl⟩
  obtain ⟨s2, e2⟩ : ∃ t, round s1 = t := ⟨_, rfl⟩
  obtain ⟨s3, e3⟩ : ∃ t, round s2 = t := ⟨_, rfl⟩
  obtain ⟨s4, e4⟩ : ∃ t, round s3 = t := ⟨_, rfl⟩
  have he : endS s = s4 := by unfold endS; rw [e1, e2, e3, e4]
  have y1 := fun w => sSipRound_any ⟨s.a, s.b, s.c ^^^ 255, s.d⟩ w
  simp only [e1] at y1
  have Y1 := Lib.hid y1
  have y2 := fun w => sSipRound_any s1 w
  simp only [e2] at y2
  have Y2 := Lib.hid y2
  have y3 := fun w => sSipRound_any s2 w
  simp only [e3] at y3
  have Y3 := Lib.hid y3
  have y4 := fun w => sSipRound_any s3 w
  simp only [e4] at y4
  have Y4 := Lib.hid y4
  have HE := Lib.hid he
  clear e1 e2 e3 e4 he y1 y2 y3 y4
  go_enter Try.func108, Try.ntmps108
  go_wp2_with fail
  refine (Y1.out _).mono ?_
  rintro e w1 ⟨rfl, hb1⟩
  obtain ⟨hc1, hf1⟩ := bcell hb1
  have hz1 := hb1.size
  (try simp at hz1)
  have hy1_0 : w.heap.size < w1.heap.size := by omega
  go_wp2_with fail
  refine (Y2.out _).mono ?_
  rintro e w2 ⟨rfl, hb2⟩
  obtain ⟨hc2, hf2⟩ := bcell hb2
  have hz2 := hb2.size
  (try simp at hz2)
  have hy2_0 : w.heap.size < w2.heap.size := by omega
  go_wp2_with fail
  refine (Y3.out _).mono ?_
  rintro e w3 ⟨rfl, hb3⟩
  obtain ⟨hc3, hf3⟩ := bcell hb3
  have hz3 := hb3.size
  (try simp at hz3)
  have hy3_0 : w.heap.size < w3.heap.size := by omega
  go_wp2_with fail
  refine (Y4.out _).mono ?_
  rintro e w4 ⟨rfl, hb4⟩
  obtain ⟨hc4, hf4⟩ := bcell hb4
  have hz4 := hb4.size
  (try simp at hz4)
  have hy4_0 : w.heap.size < w4.heap.size := by omega
  have hs1 : w1.heap[w.heap.size]? = some (rS ⟨s.a, s.b, s.c ^^^ 255, s.d⟩) := (hb1.block _ (by first | (simp; done) | (simp; omega))).trans (by repeat (first | exact heap_new _ _ _ (by first | rfl | (simp; done) | (simp; omega)) | refine (Below.heap_alloc _ _ _ (by first | omega | (simp; done) | (simp; omega))).trans ?_))
  have hs2 := (hb2.block (w.heap.size) (by omega)).trans hs1
  have hs3 := (hb3.block (w.heap.size) (by omega)).trans hs2
  have hs4 := (hb4.block (w.heap.size) (by omega)).trans hs3
  clear hs1 hs2 hs3
  have r0_hs4 := cell_of_row _ _ 0 _ _ _ hs4
  have r1_hs4 := cell_of_row _ _ 1 _ _ _ hs4
  have r2_hs4 := cell_of_row _ _ 2 _ _ _ hs4
  have r3_hs4 := cell_of_row _ _ 3 _ _ _ hs4
  have f0_hs4 := frozen_of_row _ _ 0 _ _ hs4
  have f1_hs4 := frozen_of_row _ _ 1 _ _ hs4
  have f2_hs4 := frozen_of_row _ _ 2 _ _ hs4
  have f3_hs4 := frozen_of_row _ _ 3 _ _ hs4
  simp at r0_hs4 r1_hs4 r2_hs4 r3_hs4
  clear hc1 hf1 hc2 hf2 hc3 hf3 hc4 hf4
  go_wp2_with fail
  go_ret
  refine ⟨?_, (by repeat (first | with_reducible exact Below.refl _ _ | with_reducible assumption | with_reducible refine Below.drew ?_ | with_reducible refine Below.alloc ?_ (by first | exact Nat.le_refl _ | omega | (simp; done) | (simp; omega)) _ | with_reducible refine Below.setCell ?_ (by first | exact Nat.le_refl _ | omega | (simp; done) | (simp; omega)) _ | (with_reducible refine ext_trans ?_ (by with_reducible assumption))))⟩
  simp [endW, HE.out]
end Go.Proofs.Ytjlnbjabehpncaa