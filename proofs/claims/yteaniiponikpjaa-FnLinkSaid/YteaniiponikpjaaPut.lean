/-
  Contracts of PutWord, the program's and the reference's: big-endian bytes of a word.
-/
import Derived.Test.YteaniiponikpjaaNum
import Derived.Deep.OwnRows
import Derived.Laws.IdiomStrings
import Derived.LoopTactic
namespace Go.Proofs.Yteaniiponikpjaa
open Go.RowKit

/-- The k low bytes of n, the highest first. -/
def be : Nat → Int → List UInt8
  | 0, _ => []
  | k + 1, n => be k (n / 256) ++ [UInt8.ofNat (n % 256).toNat]
theorem be_len : ∀ (k : Nat) (n : Int), (be k n).length = k
  | 0, _ => rfl
  | k + 1, n => by simp [be, be_len k]
theorem div_pow (n : Int) : ∀ k : Nat, n / 256 / 256 ^ k = n / 256 ^ (k + 1) := fun k => by
  rw [Int.ediv_ediv_of_nonneg (by omega), Int.pow_succ, Int.mul_comm]
theorem be_cons : ∀ (k : Nat) (n : Int), be (k + 1) n = UInt8.ofNat (n / 256 ^ k % 256).toNat :: be k n
  | 0, n => by simp [be]
  | k + 1, n => by
    rw [be, be_cons k (n / 256), be, div_pow]
    simp

def putB (n size : Int) : Bool := inB size 1 6 && wordB n (8 * size)

/-- The buffer when k of its bytes still are 0: the rest bears the low bytes of N. -/
def putC (k m : Nat) (N : Int) : Array Value := ((List.replicate k (0 : UInt8) ++ be m N).map fun b => Value.int .u8 (b.toNat : Int)).toArray
theorem putC_step (k m : Nat) (N : Int) : (putC (k + 1) m N).setIfInBounds k (.int .u8 (N / 256 ^ m % 256)) = putC k (m + 1) N := by
  have h0 : 0 ≤ N / 256 ^ m % 256 := Int.emod_nonneg _ (by omega)
  have h1 : N / 256 ^ m % 256 < 256 := Int.emod_lt_of_pos _ (by omega)
  have hb : ((UInt8.ofNat (N / 256 ^ m % 256).toNat).toNat : Int) = N / 256 ^ m % 256 := by
    rw [UInt8.toNat_ofNat']
    omega
  unfold putC
  rw [be_cons, List.replicate_succ']
  simp only [List.map_append, List.map_cons, hb]
  simp
theorem putC_size (k m : Nat) (N : Int) : (putC k m N).size = k + m := by simp [putC, be_len]
theorem putC_made (k : Nat) (N : Int) : putC k 0 N = madeCells #[.int .u8 0] k := by
  apply Array.ext'
  simp [putC, be, madeCells]
  apply List.ext_getElem
  · simp
  · intro i h1 h2
    simp [Nat.mod_one]

theorem putC_at (k m : Nat) (N : Int) : (putC (k + 1) m N)[k]? = some (.int .u8 0) := by
  simp [putC, List.getElem?_append]

theorem putB_bd {N : Int} {K : Nat} (h1 : 1 ≤ K) (h6 : K ≤ 6) (h : putB N K = true) : 0 ≤ N ∧ N ≤ 281474976710655 ∧ N < 256 ^ K := by
  have hk : K = 1 ∨ K = 2 ∨ K = 3 ∨ K = 4 ∨ K = 5 ∨ K = 6 := by omega
  rcases hk with rfl | rfl | rfl | rfl | rfl | rfl
  all_goals
    simp [putB, wordB, inB] at h
    simp
    omega

theorem info_u8 : (Try.prog.info? 5).map (fun i => (i.zero, i.size, i.bytes)) = some (some (.int .u8 0), 1, 1) := by kernel_rfl

theorem PutWord_no (n size : Int) (h : putB n size = false) (h1 : -100 ≤ size) (h2 : size ≤ 100) (w : World) :
    Calls Try.prog 93 #[.int .i64 n, .int .i64 size] w fun e w' => e = .returned (.string ⟨#[]⟩) ∧ w = w' := by
  by_cases hs : inB size 1 6 = true
  · have hw : wordB n (8 * size) = false := by simpa [putB, hs] using h
    clear h
    go_enter Try.func93, Try.ntmps93
    go_wp2_with (first | (go_at_call 54; refine (within_any _ _ _ _).mono ?_; rintro e w1 ⟨rfl, rfl⟩) | (go_at_call 53; refine (WordOk_any _ _ _).mono ?_; rintro e w1 ⟨rfl, rfl⟩))
    go_ret
    exact ⟨rfl, rfl⟩
  · have hs : inB size 1 6 = false := by simpa using hs
    clear h
    go_enter Try.func93, Try.ntmps93
    go_wp2_with (first | (go_at_call 54; refine (within_any _ _ _ _).mono ?_; rintro e w1 ⟨rfl, rfl⟩) | (go_at_call 53; refine (WordOk_any _ _ _).mono ?_; rintro e w1 ⟨rfl, rfl⟩))
    go_ret
    exact ⟨rfl, rfl⟩

theorem PutWord_yes (N : Int) (K : Nat) (h1 : 1 ≤ K) (h6 : K ≤ 6) (h : putB N K = true) (w : World) :
    Calls Try.prog 93 #[.int .i64 N, .int .i64 K] w fun e w' => e = .returned (.string ⟨(be K N).toArray⟩) ∧ Below w.heap.size w w' := by
  obtain ⟨h0, hN, _⟩ := putB_bd h1 h6 h
  have hs : inB K 1 6 = true := inB_iff.2 (by omega)
  have hw : wordB N (8 * K) = true := by simpa [putB, hs] using h
  have hmk := fun W => run_make_row' (P := Try.prog) 42 5 (.int .u8 0) 1 Try.underlying42 info_u8 rfl .i64 .i64 K (by omega) (by omega) W
  clear h
  go_enter Try.func93, Try.ntmps93
  go_wp2_with (first | (go_at_call 54; refine (within_any _ _ _ _).mono ?_; rintro e w1 ⟨rfl, rfl⟩) | (go_at_call 53; refine (WordOk_any _ _ _).mono ?_; rintro e w1 ⟨rfl, rfl⟩))
  go_loopw [0, 6] (fun n i wr => ∃ m : Nat, m ≤ K ∧ i = .int .i64 ((m : Int) - 1) ∧ n = .int .i64 (N / 256 ^ (K - m)) ∧ wr.heap[w.heap.size]? = some (.cells (putC m (K - m) N) 5 (0, 0)) ∧ Below w.heap.size w wr) (fun _ i _ => (intOf i + 1).toNat)
  case atStart => exact ⟨K, by omega, rfl, by simp, by rw [Nat.sub_self, putC_made]; exact heap_alloc_new _ _, (by repeat (first | with_reducible exact Below.refl _ _ | with_reducible assumption | with_reducible refine Below.drew ?_ | with_reducible refine Below.alloc ?_ (by first | exact Nat.le_refl _ | omega | (simp; done) | (simp; omega)) _ | with_reducible refine Below.setCell ?_ (by first | exact Nat.le_refl _ | omega | (simp; done) | (simp; omega)) _ | (with_reducible refine ext_trans ?_ (by with_reducible assumption))))⟩
  case round =>
    obtain ⟨m, hm, rfl, rfl, hblk, hb⟩ := hrel
    by_cases hlt : 0 < m
    · obtain ⟨j, rfl⟩ : ∃ j, m = j + 1 := ⟨m - 1, by omega⟩
      obtain ⟨d, hd⟩ : ∃ d, K - (j + 1) = d := ⟨_, rfl⟩
      rw [hd] at hblk ⊢
      have hj : (((j + 1 : Nat) : Int) - 1) = j := by omega
      rw [hj]
      have hc := (cell_of_row _ _ j _ _ _ hblk).trans (putC_at j d N)
      have hf := frozen_of_row _ _ j _ _ hblk
      have hnn : 0 ≤ N / 256 ^ d := Int.ediv_nonneg h0 (Int.pow_nonneg (by omega))
      have hd' : K - j = d + 1 := by omega
      have hq : N / 256 ^ d / 256 = N / 256 ^ (K - j) := by
        rw [hd', Int.pow_succ, Int.ediv_ediv_of_nonneg (Int.pow_nonneg (by omega))]
      have hs := (heap_setCell_same wr w.heap.size j _ _ (.int .u8 (N / 256 ^ d % 256)) hblk)
      rw [putC_step, ← hd'] at hs
      have hle : N / 256 ^ d ≤ N := Int.ediv_le_self _ h0
      obtain ⟨x, hx⟩ : ∃ x, N / 256 ^ d = x := ⟨_, rfl⟩
      rw [hx] at hnn hle hq hs ⊢
      have hxb : x ≤ 281474976710655 := by omega
      clear hx hle
      have HQ := Lib.hid hq
      have HS := Lib.hid hs
      clear hj hq hs hd hd' hblk
      go_wp2
      exact ⟨⟨j, by omega, rfl, by rw [HQ.out], HS.out, (by repeat (first | with_reducible exact Below.refl _ _ | with_reducible assumption | with_reducible refine Below.drew ?_ | with_reducible refine Below.alloc ?_ (by first | exact Nat.le_refl _ | omega | (simp; done) | (simp; omega)) _ | with_reducible refine Below.setCell ?_ (by first | exact Nat.le_refl _ | omega | (simp; done) | (simp; omega)) _ | (with_reducible refine ext_trans ?_ (by with_reducible assumption))))⟩, by simp [intOf]⟩
    · obtain rfl : m = 0 := by omega
      have hcv := run_convert_bytes_back (P := Try.prog) wr 42 9 5 ⟨w.heap.size, 0, none⟩ K (be K N) Try.underlying42 Try.underlying5 Try.underlying9 (fun j hj => by
        have ha : (⟨w.heap.size, 0, none⟩ : Addr).add j = ⟨w.heap.size, j, none⟩ := by unfold Addr.add; split <;> simp_all
        rw [ha, cell_of_row _ _ _ _ _ _ hblk]
        simp only [putC]
        simp [List.getElem?_eq_getElem hj])
      rw [be_len] at hcv
      clear hblk
      go_wp2
      go_ret
      exact ⟨rfl, hb⟩

theorem sPutWord_no (n size : Int) (h : putB n size = false) (h1 : -100 ≤ size) (h2 : size ≤ 100) (w : World) :
    Calls Try.prog 89 #[.int .i64 n, .int .i64 size] w fun e w' => e = .returned (.string ⟨#[]⟩) ∧ w = w' := by
  by_cases hs : inB size 1 6 = true
  · have hw : wordB n (8 * size) = false := by simpa [putB, hs] using h
    clear h
    go_enter Try.func89, Try.ntmps89
    go_wp2_with (first | (go_at_call 52; refine (l1In_any _ _ _ _).mono ?_; rintro e w1 ⟨rfl, rfl⟩) | (go_at_call 38; refine (sWordOk_any _ _ _).mono ?_; rintro e w1 ⟨rfl, rfl⟩))
    go_ret
    exact ⟨rfl, rfl⟩
  · have hs : inB size 1 6 = false := by simpa using hs
    clear h
    go_enter Try.func89, Try.ntmps89
    go_wp2_with (first | (go_at_call 52; refine (l1In_any _ _ _ _).mono ?_; rintro e w1 ⟨rfl, rfl⟩) | (go_at_call 38; refine (sWordOk_any _ _ _).mono ?_; rintro e w1 ⟨rfl, rfl⟩))
    go_ret
    exact ⟨rfl, rfl⟩

theorem sPutWord_yes (N : Int) (K : Nat) (h1 : 1 ≤ K) (h6 : K ≤ 6) (h : putB N K = true) (w : World) :
    Calls Try.prog 89 #[.int .i64 N, .int .i64 K] w fun e w' => e = .returned (.string ⟨(be K N).toArray⟩) ∧ Below w.heap.size w w' := by
  obtain ⟨h0, hN, _⟩ := putB_bd h1 h6 h
  have hs : inB K 1 6 = true := inB_iff.2 (by omega)
  have hw : wordB N (8 * K) = true := by simpa [putB, hs] using h
  have hmk := fun W => run_make_row' (P := Try.prog) 42 5 (.int .u8 0) 1 Try.underlying42 info_u8 rfl .i64 .i64 K (by omega) (by omega) W
  clear h
  go_enter Try.func89, Try.ntmps89
  go_wp2_with (first | (go_at_call 52; refine (l1In_any _ _ _ _).mono ?_; rintro e w1 ⟨rfl, rfl⟩) | (go_at_call 38; refine (sWordOk_any _ _ _).mono ?_; rintro e w1 ⟨rfl, rfl⟩))
  go_loopw [0, 6] (fun n i wr => ∃ m : Nat, m ≤ K ∧ i = .int .i64 ((m : Int) - 1) ∧ n = .int .i64 (N / 256 ^ (K - m)) ∧ wr.heap[w.heap.size]? = some (.cells (putC m (K - m) N) 5 (0, 0)) ∧ Below w.heap.size w wr) (fun _ i _ => (intOf i + 1).toNat)
  case atStart => exact ⟨K, by omega, rfl, by simp, by rw [Nat.sub_self, putC_made]; exact heap_alloc_new _ _, (by repeat (first | with_reducible exact Below.refl _ _ | with_reducible assumption | with_reducible refine Below.drew ?_ | with_reducible refine Below.alloc ?_ (by first | exact Nat.le_refl _ | omega | (simp; done) | (simp; omega)) _ | with_reducible refine Below.setCell ?_ (by first | exact Nat.le_refl _ | omega | (simp; done) | (simp; omega)) _ | (with_reducible refine ext_trans ?_ (by with_reducible assumption))))⟩
  case round =>
    obtain ⟨m, hm, rfl, rfl, hblk, hb⟩ := hrel
    by_cases hlt : 0 < m
    · obtain ⟨j, rfl⟩ : ∃ j, m = j + 1 := ⟨m - 1, by omega⟩
      obtain ⟨d, hd⟩ : ∃ d, K - (j + 1) = d := ⟨_, rfl⟩
      rw [hd] at hblk ⊢
      have hj : (((j + 1 : Nat) : Int) - 1) = j := by omega
      rw [hj]
      have hc := (cell_of_row _ _ j _ _ _ hblk).trans (putC_at j d N)
      have hf := frozen_of_row _ _ j _ _ hblk
      have hnn : 0 ≤ N / 256 ^ d := Int.ediv_nonneg h0 (Int.pow_nonneg (by omega))
      have hd' : K - j = d + 1 := by omega
      have hq : N / 256 ^ d / 256 = N / 256 ^ (K - j) := by
        rw [hd', Int.pow_succ, Int.ediv_ediv_of_nonneg (Int.pow_nonneg (by omega))]
      have hs := (heap_setCell_same wr w.heap.size j _ _ (.int .u8 (N / 256 ^ d % 256)) hblk)
      rw [putC_step, ← hd'] at hs
      have hle : N / 256 ^ d ≤ N := Int.ediv_le_self _ h0
      obtain ⟨x, hx⟩ : ∃ x, N / 256 ^ d = x := ⟨_, rfl⟩
      rw [hx] at hnn hle hq hs ⊢
      have hxb : x ≤ 281474976710655 := by omega
      clear hx hle
      have HQ := Lib.hid hq
      have HS := Lib.hid hs
      clear hj hq hs hd hd' hblk
      go_wp2
      exact ⟨⟨j, by omega, rfl, by rw [HQ.out], HS.out, (by repeat (first | with_reducible exact Below.refl _ _ | with_reducible assumption | with_reducible refine Below.drew ?_ | with_reducible refine Below.alloc ?_ (by first | exact Nat.le_refl _ | omega | (simp; done) | (simp; omega)) _ | with_reducible refine Below.setCell ?_ (by first | exact Nat.le_refl _ | omega | (simp; done) | (simp; omega)) _ | (with_reducible refine ext_trans ?_ (by with_reducible assumption))))⟩, by simp [intOf]⟩
    · obtain rfl : m = 0 := by omega
      have hcv := run_convert_bytes_back (P := Try.prog) wr 42 9 5 ⟨w.heap.size, 0, none⟩ K (be K N) Try.underlying42 Try.underlying5 Try.underlying9 (fun j hj => by
        have ha : (⟨w.heap.size, 0, none⟩ : Addr).add j = ⟨w.heap.size, j, none⟩ := by unfold Addr.add; split <;> simp_all
        rw [ha, cell_of_row _ _ _ _ _ _ hblk]
        simp only [putC]
        simp [List.getElem?_eq_getElem hj])
      rw [be_len] at hcv
      clear hblk
      go_wp2
      go_ret
      exact ⟨rfl, hb⟩

/-- A short string whose letters are kept behind a name. -/
def PutStr (k : Nat) (l : List UInt8) (w : World) (e : Ending) (w' : World) : Prop := ∃ s : ByteArray, e = .returned (.string s) ∧ s.size = k ∧ Hid (s = ⟨l.toArray⟩) ∧ Below w.heap.size w w'

theorem PutWord_1 (N : Int) (h : putB N 1 = true) (w : World) :
    Calls Try.prog 93 #[.int .i64 N, .int .i64 1] w fun e w' => e = .returned (.string ⟨(be 1 N).toArray⟩) ∧ Below w.heap.size w w' := PutWord_yes N 1 (by omega) (by omega) h w
theorem PutStr_1 (N : Int) (h : putB N 1 = true) (w : World) :
    Calls Try.prog 93 #[.int .i64 N, .int .i64 1] w (PutStr 1 (be 1 N) w) :=
  (PutWord_1 N h w).mono fun _ _ ⟨he, hb⟩ => ⟨_, he, by show (be 1 N).toArray.size = 1; simp [be_len], rfl, hb⟩

theorem PutWord_2 (N : Int) (h : putB N 2 = true) (w : World) :
    Calls Try.prog 93 #[.int .i64 N, .int .i64 2] w fun e w' => e = .returned (.string ⟨(be 2 N).toArray⟩) ∧ Below w.heap.size w w' := PutWord_yes N 2 (by omega) (by omega) h w
theorem PutStr_2 (N : Int) (h : putB N 2 = true) (w : World) :
    Calls Try.prog 93 #[.int .i64 N, .int .i64 2] w (PutStr 2 (be 2 N) w) :=
  (PutWord_2 N h w).mono fun _ _ ⟨he, hb⟩ => ⟨_, he, by show (be 2 N).toArray.size = 2; simp [be_len], rfl, hb⟩

theorem PutWord_4 (N : Int) (h : putB N 4 = true) (w : World) :
    Calls Try.prog 93 #[.int .i64 N, .int .i64 4] w fun e w' => e = .returned (.string ⟨(be 4 N).toArray⟩) ∧ Below w.heap.size w w' := PutWord_yes N 4 (by omega) (by omega) h w
theorem PutStr_4 (N : Int) (h : putB N 4 = true) (w : World) :
    Calls Try.prog 93 #[.int .i64 N, .int .i64 4] w (PutStr 4 (be 4 N) w) :=
  (PutWord_4 N h w).mono fun _ _ ⟨he, hb⟩ => ⟨_, he, by show (be 4 N).toArray.size = 4; simp [be_len], rfl, hb⟩

theorem PutWord_6 (N : Int) (h : putB N 6 = true) (w : World) :
    Calls Try.prog 93 #[.int .i64 N, .int .i64 6] w fun e w' => e = .returned (.string ⟨(be 6 N).toArray⟩) ∧ Below w.heap.size w w' := PutWord_yes N 6 (by omega) (by omega) h w
theorem PutStr_6 (N : Int) (h : putB N 6 = true) (w : World) :
    Calls Try.prog 93 #[.int .i64 N, .int .i64 6] w (PutStr 6 (be 6 N) w) :=
  (PutWord_6 N h w).mono fun _ _ ⟨he, hb⟩ => ⟨_, he, by show (be 6 N).toArray.size = 6; simp [be_len], rfl, hb⟩

theorem sPutWord_1 (N : Int) (h : putB N 1 = true) (w : World) :
    Calls Try.prog 89 #[.int .i64 N, .int .i64 1] w fun e w' => e = .returned (.string ⟨(be 1 N).toArray⟩) ∧ Below w.heap.size w w' := sPutWord_yes N 1 (by omega) (by omega) h w
theorem sPutStr_1 (N : Int) (h : putB N 1 = true) (w : World) :
    Calls Try.prog 89 #[.int .i64 N, .int .i64 1] w (PutStr 1 (be 1 N) w) :=
  (sPutWord_1 N h w).mono fun _ _ ⟨he, hb⟩ => ⟨_, he, by show (be 1 N).toArray.size = 1; simp [be_len], rfl, hb⟩

theorem sPutWord_2 (N : Int) (h : putB N 2 = true) (w : World) :
    Calls Try.prog 89 #[.int .i64 N, .int .i64 2] w fun e w' => e = .returned (.string ⟨(be 2 N).toArray⟩) ∧ Below w.heap.size w w' := sPutWord_yes N 2 (by omega) (by omega) h w
theorem sPutStr_2 (N : Int) (h : putB N 2 = true) (w : World) :
    Calls Try.prog 89 #[.int .i64 N, .int .i64 2] w (PutStr 2 (be 2 N) w) :=
  (sPutWord_2 N h w).mono fun _ _ ⟨he, hb⟩ => ⟨_, he, by show (be 2 N).toArray.size = 2; simp [be_len], rfl, hb⟩

theorem sPutWord_4 (N : Int) (h : putB N 4 = true) (w : World) :
    Calls Try.prog 89 #[.int .i64 N, .int .i64 4] w fun e w' => e = .returned (.string ⟨(be 4 N).toArray⟩) ∧ Below w.heap.size w w' := sPutWord_yes N 4 (by omega) (by omega) h w
theorem sPutStr_4 (N : Int) (h : putB N 4 = true) (w : World) :
    Calls Try.prog 89 #[.int .i64 N, .int .i64 4] w (PutStr 4 (be 4 N) w) :=
  (sPutWord_4 N h w).mono fun _ _ ⟨he, hb⟩ => ⟨_, he, by show (be 4 N).toArray.size = 4; simp [be_len], rfl, hb⟩

theorem sPutWord_6 (N : Int) (h : putB N 6 = true) (w : World) :
    Calls Try.prog 89 #[.int .i64 N, .int .i64 6] w fun e w' => e = .returned (.string ⟨(be 6 N).toArray⟩) ∧ Below w.heap.size w w' := sPutWord_yes N 6 (by omega) (by omega) h w
theorem sPutStr_6 (N : Int) (h : putB N 6 = true) (w : World) :
    Calls Try.prog 89 #[.int .i64 N, .int .i64 6] w (PutStr 6 (be 6 N) w) :=
  (sPutWord_6 N h w).mono fun _ _ ⟨he, hb⟩ => ⟨_, he, by show (be 6 N).toArray.size = 6; simp [be_len], rfl, hb⟩

end Go.Proofs.Yteaniiponikpjaa
