/-
  Contracts of SipHash, the program's and the reference's.
-/
import Derived.Test.YtjlnbjabehpncaaSip
import Derived.Laws.IdiomStrings
import Derived.LoopTactic
import Derived.Laws.CopyOwn
import Derived.Deep.OwnRows
import Derived.StillTailTactics
namespace Go.Proofs.Ytjlnbjabehpncaa
open Go.RowKit

/-- Bytes as a number, the first one the lowest. -/
def leW : List UInt8 → BitVec 64
  | [] => 0
  | b :: l => (leW l <<< 8) ||| BitVec.ofNat 64 b.toNat
theorem leW_append : ∀ (l r : List UInt8), leW (l ++ r) = leW l ||| leW r <<< (8 * l.length)
  | [], r => by simp [leW]
  | b :: l, r => by
    rw [List.cons_append, leW, leW, leW_append l r, List.length_cons, BitVec.shiftLeft_or_distrib, ← BitVec.shiftLeft_add, show 8 * l.length + 8 = 8 * (l.length + 1) from by omega]
    ac_rfl
theorem leW_zeros : ∀ k : Nat, leW (List.replicate k 0) = 0
  | 0 => rfl
  | k + 1 => by
    rw [List.replicate_succ, leW, leW_zeros k]
    simp
theorem uI_byte (x : BitVec 64) (b : UInt8) : bits BinOp.or .u64 (IntKind.u64.wrap (uI x * 256)) (b.toNat : Int) = uI (x <<< 8 ||| BitVec.ofNat 64 b.toNat) := by
  rw [uI_shl x 8 256 (by decide), ← uI_or]
  congr 1
  unfold uI
  have := b.toNat_lt
  simp
theorem wrap_byte (b : UInt8) : IntKind.u64.wrap (b.toNat : Int) = (b.toNat : Int) := by
  rw [u64_wrap]
  have := b.toNat_lt
  omega
theorem leW_drop (l : List UInt8) (k : Nat) (h : k < l.length) : leW (l.drop k) = leW (l.drop (k + 1)) <<< 8 ||| BitVec.ofNat 64 l[k].toNat := by
  rw [List.drop_eq_getElem_cons h]
  rfl

theorem little_any (g off c n : Nat) (l : List UInt8) (hl : l.length = 8) (hn : 8 ≤ n) (w : World) (hc : ∀ j (hj : j < l.length), w.cell? ⟨g, off + j, none⟩ = some (.int .u8 (l[j].toNat : Int))) :
    Calls Try.prog 102 #[.slice (some ⟨g, off, none⟩) n c] w fun e w' => e = .returned (.int .u64 (uI (leW l))) ∧ w = w' := by
  have HC := Lib.hid hc
  clear hc
  go_enter Try.func102, Try.ntmps102
  go_wp2
  go_loop [3, 4] (fun x i => ∃ m : Nat, m ≤ 8 ∧ i = .int .i64 ((m : Int) - 1) ∧ x = .int .u64 (uI (leW (l.drop m)))) (fun _ i => (intOf i + 1).toNat)
  case atStart => exact ⟨8, by omega, rfl, by rw [List.drop_of_length_le (by omega)]; rfl⟩
  case round =>
    obtain ⟨m, hm, rfl, rfl⟩ := hrel
    by_cases hlt : 0 < m
    · obtain ⟨j, rfl⟩ : ∃ j, m = j + 1 := ⟨m - 1, by omega⟩
      have hj : (((j + 1 : Nat) : Int) - 1) = j := by omega
      rw [hj]
      have hcj := HC.out j (by omega)
      have hst := leW_drop l j (by omega)
      generalize hb : l[j]'(by omega) = b at hcj hst
      have hb1 := b.toNat_lt
      generalize leW (l.drop (j + 1)) = X at hst ⊢
      have hnb : (j : Int) < (n : Int) := by omega
      have HS := Lib.hid hst
      have HJ := Lib.hid hj
      clear hj hst hb hl
      go_wp2
      go_round
      case rel => exact ⟨j, by omega, by go_num, by rw [HS.out, ← uI_byte]⟩
      case measure => simp [intOf]
    · obtain rfl : m = 0 := by omega
      go_wp2
      go_ret
      exact ⟨by simp, rfl⟩
theorem l10Low_any (s : ByteArray) (hs : s.size ≤ maxLen) (w : World) :
    Calls Try.prog 107 #[.string s] w fun e w' => e = .returned (.int .u64 (uI (leW s.data.toList))) ∧ w = w' := by
  unfold maxLen at hs
  go_enter Try.func107, Try.ntmps107
  go_wp2
  go_loop [3, 4] (fun x i => ∃ m : Nat, m ≤ s.size ∧ i = .int .i64 ((m : Int) - 1) ∧ x = .int .u64 (uI (leW (s.data.toList.drop m)))) (fun _ i => (intOf i + 1).toNat)
  case atStart => exact ⟨s.size, by omega, rfl, by rw [List.drop_of_length_le (by simp)]; rfl⟩
  case round =>
    obtain ⟨m, hm, rfl, rfl⟩ := hrel
    by_cases hlt : 0 < m
    · obtain ⟨j, rfl⟩ : ∃ j, m = j + 1 := ⟨m - 1, by omega⟩
      have hj : (((j + 1 : Nat) : Int) - 1) = j := by omega
      rw [hj]
      have hst := leW_drop s.data.toList j (by simp; omega)
      generalize leW (s.data.toList.drop (j + 1)) = X at hst ⊢
      have hnb : (j : Int) < (s.size : Int) := by omega
      have HS := Lib.hid hst
      have HJ := Lib.hid hj
      clear hj hst
      go_wp2
      go_round
      case rel => exact ⟨j, by omega, by go_num, by rw [HS.out, ← uI_byte, wrap_byte]; rfl⟩
      case measure => simp [intOf]
    · obtain rfl : m = 0 := by omega
      go_wp2
      go_ret
      exact ⟨by simp, rfl⟩
def sipS (k l : BitVec 64) : S4 := ⟨k ^^^ 8317987319222330741, l ^^^ 7237128888997146477, k ^^^ 7816392313619706465, l ^^^ 8387220255154660723⟩
theorem xc1 (x : BitVec 64) : bits BinOp.xor .u64 (uI x) 8317987319222330741 = uI (x ^^^ 8317987319222330741) := uI_xor x 8317987319222330741
theorem xc2 (x : BitVec 64) : bits BinOp.xor .u64 (uI x) 7237128888997146477 = uI (x ^^^ 7237128888997146477) := uI_xor x 7237128888997146477
theorem xc3 (x : BitVec 64) : bits BinOp.xor .u64 (uI x) 7816392313619706465 = uI (x ^^^ 7816392313619706465) := uI_xor x 7816392313619706465
theorem xc4 (x : BitVec 64) : bits BinOp.xor .u64 (uI x) 8387220255154660723 = uI (x ^^^ 8387220255154660723) := uI_xor x 8387220255154660723
theorem SipStart_any (k l : BitVec 64) (w : World) :
    Calls Try.prog 100 #[.int .u64 (uI k), .int .u64 (uI l)] w fun e w' => e = .returned (vS (sipS k l)) ∧ Below w.heap.size w w' := by
  go_enter Try.func100, Try.ntmps100
  go_wp2_with fail
  exact bodyPost_ret (v := vS (sipS k l)) (by simp [results, Try.results100, go_sem, xc1, xc2, xc3, xc4, sipS]) rfl ⟨rfl, (by repeat (first | with_reducible exact Below.refl _ _ | with_reducible assumption | with_reducible refine Below.drew ?_ | with_reducible refine Below.alloc ?_ (by first | exact Nat.le_refl _ | omega | (simp; done) | (simp; omega)) _ | with_reducible refine Below.setCell ?_ (by first | exact Nat.le_refl _ | omega | (simp; done) | (simp; omega)) _ | (with_reducible refine ext_trans ?_ (by with_reducible assumption))))⟩
theorem sSipStart_any (k l : BitVec 64) (w : World) :
    Calls Try.prog 105 #[.int .u64 (uI k), .int .u64 (uI l)] w fun e w' => e = .returned (vS (sipS k l)) ∧ Below w.heap.size w w' := by
  go_enter Try.func105, Try.ntmps105
  go_wp2_with fail
  exact bodyPost_ret (v := vS (sipS k l)) (by simp [results, Try.results105, go_sem, xc1, xc2, xc3, xc4, sipS]) rfl ⟨rfl, (by repeat (first | with_reducible exact Below.refl _ _ | with_reducible assumption | with_reducible refine Below.drew ?_ | with_reducible refine Below.alloc ?_ (by first | exact Nat.le_refl _ | omega | (simp; done) | (simp; omega)) _ | with_reducible refine Below.setCell ?_ (by first | exact Nat.le_refl _ | omega | (simp; done) | (simp; omega)) _ | (with_reducible refine ext_trans ?_ (by with_reducible assumption))))⟩
/-- The state after m whole words of a text. -/
def sipW (s : S4) (t : List UInt8) : Nat → S4
  | 0 => s
  | m + 1 => word (sipW s t m) (leW ((t.drop (8 * m)).take 8))
def sipH (k l : BitVec 64) (t : List UInt8) : BitVec 64 :=
  endW (word (sipW (sipS k l) t (t.length / 8)) (leW (t.drop (8 * (t.length / 8))) ||| BitVec.ofNat 64 (t.length % 256) <<< 56))
theorem ext_bytes (t : ByteArray) (a b : Nat) : (t.extract a b).data.toList = (t.data.toList.drop a).take (b - a) := by
  simp
theorem last_eq (L : BitVec 64) (n : Nat) : bits BinOp.or .u64 (uI L) (IntKind.u64.wrap (IntKind.u64.wrap ((n : Int).tmod 256) * 72057594037927936)) = uI (L ||| BitVec.ofNat 64 (n % 256) <<< 56) := by
  have h1 : IntKind.u64.wrap ((n : Int).tmod 256) = uI (BitVec.ofNat 64 (n % 256)) := by
    apply uI_eq
    rw [Int.tmod_eq_emod_of_nonneg (by omega)]
    simp
  rw [h1, uI_shl _ 56 _ (by decide), uI_or]
def HashRel (w1 : World) (s : S4) (wr : World) : Prop := wr.heap[w1.heap.size]? = some (rS s) ∧ Below w1.heap.size w1 wr
set_option maxRecDepth 100000 in
set_option maxHeartbeats 1000000 in
theorem sSipHash_any (k l : BitVec 64) (t : ByteArray) (ht : t.size ≤ 1048576) (w : World) :
    Calls Try.prog 92 #[.int .u64 (uI k), .int .u64 (uI l), .string t] w fun e w' => e = .returned (.int .u64 (uI (sipH k l t.data.toList))) ∧ Below w.heap.size w w' := by
  go_enter Try.func92, Try.ntmps92
  go_wp2_with fail
  refine (sSipStart_any k l _).mono ?_
  rintro e w1 ⟨rfl, hb1⟩
  obtain ⟨hc1, hf1⟩ := bcell hb1
  have hz1 := hb1.size
  (try simp at hz1)
  go_wp2_with fail
  go_loopw [9] (fun at_ wr => ∃ j a : Nat, a ≤ t.size ∧ at_ = .int .i64 (a : Int) ∧ Hid (a = 8 * j) ∧ HashRel w1 (sipW (sipS k l) t.data.toList j) wr) (fun at_ _ => t.size - (intOf at_).toNat)
  case atStart => exact ⟨0, 0, by omega, rfl, rfl, ⟨heap_alloc_new _ _, (by repeat (first | with_reducible exact Below.refl _ _ | with_reducible assumption | with_reducible refine Below.drew ?_ | with_reducible refine Below.alloc ?_ (by first | exact Nat.le_refl _ | omega | (simp; done) | (simp; omega)) _ | with_reducible refine Below.setCell ?_ (by first | exact Nat.le_refl _ | omega | (simp; done) | (simp; omega)) _ | (with_reducible refine ext_trans ?_ (by with_reducible assumption))))⟩⟩
  case round =>
    obtain ⟨j, a, ha, rfl, haj, ⟨hrow, hb⟩⟩ := hrel
    have hlw := (Array.getElem?_eq_some_iff.1 hrow).1
    obtain ⟨S, hS⟩ : ∃ S, sipW (sipS k l) t.data.toList j = S := ⟨_, rfl⟩
    rw [hS] at hrow
    have HS := Lib.hid hS
    clear hS
    have hrow' : wr.drew.heap[w1.heap.size]? = some (rS S) := hrow
    have hb' : Below w1.heap.size w1 wr.drew := hb.drew
    have hlw' : w1.heap.size < wr.drew.heap.size := hlw
    have r0_hrow := cell_of_row _ _ 0 _ _ _ hrow
    have r1_hrow := cell_of_row _ _ 1 _ _ _ hrow
    have r2_hrow := cell_of_row _ _ 2 _ _ _ hrow
    have r3_hrow := cell_of_row _ _ 3 _ _ _ hrow
    have f0_hrow := frozen_of_row _ _ 0 _ _ hrow
    have f1_hrow := frozen_of_row _ _ 1 _ _ hrow
    have f2_hrow := frozen_of_row _ _ 2 _ _ hrow
    have f3_hrow := frozen_of_row _ _ 3 _ _ hrow
    simp at r0_hrow r1_hrow r2_hrow r3_hrow
    have HR := Lib.hid hrow'
    clear hrow hrow'
    by_cases hlt : a + 8 ≤ t.size
    · have hl1 : (a : Int) + 8 ≤ (t.size : Int) := by omega
      have hw5 : (0 : Int) ≤ (a : Int) + 8 := by omega
      have hw6 : (a : Int) ≤ (a : Int) + 8 := by omega
      have hw3 : IntKind.i64.wrap ((a : Int) + 8) = (a : Int) + 8 := IntWalk.i64_in _ ⟨by omega, by omega⟩
      have hw4 : ((a : Int) + 8).toNat = a + 8 := by omega
      have hlen : (t.extract a (a + 8)).size ≤ maxLen := by unfold maxLen; simp; omega
      go_wp2_with fail
      refine wp_region_still_tail 7 (by kernel_rfl) (by kernel_rfl) ?_
      simp only [List.take_succ_cons, List.take_zero, List.drop_succ_cons, List.drop_zero]
      repeat (first | still_step | still_call (still_of (l10Low_any _ hlen _)))
      refine wpStill_nil ?_
      change wpList _ _ _ _ _ wr.drew
      generalize wr.drew = wd at *
      have hrd := HR.out
      have r0_hrd := cell_of_row _ _ 0 _ _ _ hrd
      have r1_hrd := cell_of_row _ _ 1 _ _ _ hrd
      have r2_hrd := cell_of_row _ _ 2 _ _ _ hrd
      have r3_hrd := cell_of_row _ _ 3 _ _ _ hrd
      have f0_hrd := frozen_of_row _ _ 0 _ _ hrd
      have f1_hrd := frozen_of_row _ _ 1 _ _ hrd
      have f2_hrd := frozen_of_row _ _ 2 _ _ hrd
      have f3_hrd := frozen_of_row _ _ 3 _ _ hrd
      simp at r0_hrd r1_hrd r2_hrd r3_hrd
      clear hrd
      go_wp2_with fail
      refine (sSipWord_any S _ _).mono ?_
      rintro e w2 ⟨rfl, hb2⟩
      obtain ⟨hc2, hf2⟩ := bcell hb2
      have hz2 := hb2.size
      (try simp at hz2)
      have hy2_0 : w1.heap.size < w2.heap.size := by omega
      have hrow2 := (hb2.block (w1.heap.size) (by omega)).trans HR.out
      have r0_hrow2 := cell_of_row _ _ 0 _ _ _ hrow2
      have r1_hrow2 := cell_of_row _ _ 1 _ _ _ hrow2
      have r2_hrow2 := cell_of_row _ _ 2 _ _ _ hrow2
      have r3_hrow2 := cell_of_row _ _ 3 _ _ _ hrow2
      have f0_hrow2 := frozen_of_row _ _ 0 _ _ hrow2
      have f1_hrow2 := frozen_of_row _ _ 1 _ _ hrow2
      have f2_hrow2 := frozen_of_row _ _ 2 _ _ hrow2
      have f3_hrow2 := frozen_of_row _ _ 3 _ _ hrow2
      simp at r0_hrow2 r1_hrow2 r2_hrow2 r3_hrow2
      clear hc2 hf2
      go_wp2_with fail
      have hst := stored_S4 hrow2 (word S (leW (t.extract a (a + 8)).data.toList))
      go_roundw
      case rel =>
        refine ⟨j + 1, a + 8, by omega, by go_num, ?_, ⟨?_, (by repeat (first | with_reducible exact Below.refl _ _ | with_reducible assumption | with_reducible refine Below.drew ?_ | with_reducible refine Below.alloc ?_ (by first | exact Nat.le_refl _ | omega | (simp; done) | (simp; omega)) _ | with_reducible refine Below.setCell ?_ (by first | exact Nat.le_refl _ | omega | (simp; done) | (simp; omega)) _ | (with_reducible refine ext_trans ?_ (by with_reducible assumption))))⟩⟩
        · have := haj.out
          exact (by omega : a + 8 = 8 * (j + 1))
        · rw [sipW, HS.out, ← haj.out]
          rw [ext_bytes, show a + 8 - a = 8 from by omega] at hst
          exact hst
      case measure => simp [intOf]; omega
    · have hla : (a : Int) ≤ (t.size : Int) := by omega
      have hlen : (t.extract a t.size).size ≤ maxLen := by unfold maxLen; simp; omega
      go_wp2_with fail
      refine wp_region_still_tail 10 (by kernel_rfl) (by kernel_rfl) ?_
      simp only [List.take_succ_cons, List.take_zero, List.drop_succ_cons, List.drop_zero]
      repeat (first | still_step | still_call (still_of (l10Low_any _ hlen _)))
      refine wpStill_nil ?_
      change wpList _ _ _ _ _ wr.drew
      rw [last_eq]
      generalize wr.drew = wd at *
      have hrd := HR.out
      have r0_hrd := cell_of_row _ _ 0 _ _ _ hrd
      have r1_hrd := cell_of_row _ _ 1 _ _ _ hrd
      have r2_hrd := cell_of_row _ _ 2 _ _ _ hrd
      have r3_hrd := cell_of_row _ _ 3 _ _ _ hrd
      have f0_hrd := frozen_of_row _ _ 0 _ _ hrd
      have f1_hrd := frozen_of_row _ _ 1 _ _ hrd
      have f2_hrd := frozen_of_row _ _ 2 _ _ hrd
      have f3_hrd := frozen_of_row _ _ 3 _ _ hrd
      simp at r0_hrd r1_hrd r2_hrd r3_hrd
      clear hrd
      go_wp2_with fail
      refine (sSipWord_any S _ _).mono ?_
      rintro e w2 ⟨rfl, hb2⟩
      obtain ⟨hc2, hf2⟩ := bcell hb2
      have hz2 := hb2.size
      (try simp at hz2)
      have hy2_0 : w1.heap.size < w2.heap.size := by omega
      go_wp2_with fail
      refine (sSipEnd_any (word S _) _).mono ?_
      rintro e w3 ⟨rfl, hb3⟩
      obtain ⟨hc3, hf3⟩ := bcell hb3
      have hz3 := hb3.size
      (try simp at hz3)
      have hy3_0 : w1.heap.size < w3.heap.size := by omega
      go_wp2_with fail
      go_ret
      refine ⟨?_, (by repeat (first | with_reducible exact Below.refl _ _ | with_reducible assumption | with_reducible refine Below.drew ?_ | with_reducible refine Below.alloc ?_ (by first | exact Nat.le_refl _ | omega | (simp; done) | (simp; omega)) _ | with_reducible refine Below.setCell ?_ (by first | exact Nat.le_refl _ | omega | (simp; done) | (simp; omega)) _ | (with_reducible refine ext_trans ?_ (by with_reducible assumption))))⟩
      have hj : t.data.toList.length / 8 = j := by
        have := haj.out
        simp
        omega
      have hta : List.take (t.size - a) (List.drop a t.data.toList) = List.drop (8 * j) t.data.toList := by
        rw [← haj.out]
        apply List.take_of_length_le
        simp
      have hn : t.data.toList.length = t.size := by simp
      rw [sipH, hj, hn, HS.out, hta]
      rfl
theorem info1_u8 : (Try.prog.info? 5).map (·.size) = some 1 := by kernel_rfl
theorem info_u8 : (Try.prog.info? 5).map (fun i => (i.zero, i.size, i.bytes)) = some (some (.int .u8 0), 1, 1) := by kernel_rfl
/-- The bytes of a text lie in block g. -/
def TextAt (t : ByteArray) (g : Nat) (w : World) : Prop := g < w.heap.size ∧ ∀ i (hi : i < t.data.toList.length), w.cell? ⟨g, i, none⟩ = some (.int .u8 (t.data.toList[i].toNat : Int))
theorem TextAt.keep {t : ByteArray} {g : Nat} {w w' : World} (h : TextAt t g w) (hs : w.heap.size ≤ w'.heap.size) (hk : w'.heap[g]? = w.heap[g]?) : TextAt t g w' :=
  ⟨Nat.lt_of_lt_of_le h.1 hs, fun i hi => (World.cell?_of_block hk).trans (h.2 i hi)⟩
theorem TextAt.round {t : ByteArray} {g q : Nat} {w w2 : World} (h : TextAt t g w) (hb : Below w.heap.size w w2) (hq : g ≠ q) (v0 v1 v2 v3 : Value) :
    TextAt t g ((((w2.setCell ⟨q, 0, none⟩ v0).setCell ⟨q, 1, none⟩ v1).setCell ⟨q, 2, none⟩ v2).setCell ⟨q, 3, none⟩ v3) := by
  refine h.keep (by simpa [World.setCell] using hb.size) ?_
  refine (Below.heap_setCell _ _ _ g hq).trans ((Below.heap_setCell _ _ _ g hq).trans ((Below.heap_setCell _ _ _ g hq).trans ((Below.heap_setCell _ _ _ g hq).trans ?_)))
  exact hb.block g h.1
theorem TextAt.start {t : ByteArray} {w : World} (C : Nat) (fr : Nat × Nat) : TextAt t w.heap.size (w.alloc (.cells (bytesRow t C) 5 fr)).drew := by
  refine ⟨by show w.heap.size < (w.alloc _).heap.size; simp, fun i hi => ?_⟩
  show (w.alloc _).cell? _ = _
  rw [World.cell?_alloc_mark, bytesRow, Array.getElem?_append_left (by simpa using hi)]
  simp at hi
  simp [hi]
def byteCells (l : List UInt8) : List Value := l.map fun b => .int .u8 (b.toNat : Int)
theorem tail_row (d : List UInt8) (n : Nat) (h : d.length = n) (hn : n < 8) : splice (madeCells #[.int .u8 0] 8).toList 0 (d.map fun b => Value.int .u8 (b.toNat : Int)) = byteCells ((d ++ List.replicate (7 - n) 0) ++ [0]) := by
  have e : (madeCells #[.int .u8 0] 8).toList = List.replicate 8 (.int .u8 0) := by kernel_rfl
  have e2 : 8 - n = (7 - n) + 1 := by omega
  rw [splice, byteCells, e, List.take_zero, List.nil_append, Nat.zero_add, List.length_map, h, List.drop_replicate, e2, List.replicate_succ']
  simp
theorem at_7 (d : List UInt8) (h : d.length = 7) : (byteCells (d ++ [0])).toArray[7]? = some (.int .u8 0) := by
  simp [byteCells, h]
theorem last_row (d : List UInt8) (h : d.length = 7) {n : Nat} : (byteCells (d ++ [0])).toArray.setIfInBounds 7 (.int .u8 ((n : Int) % 256)) = (byteCells (d ++ [UInt8.ofNat (n % 256)])).toArray := by
  simp [byteCells, h]
set_option maxRecDepth 100000 in
set_option maxHeartbeats 1000000 in
theorem SipHash_any (k l : BitVec 64) (t : ByteArray) (ht : t.size ≤ 1048576) (w : World) :
    Calls Try.prog 88 #[.int .u64 (uI k), .int .u64 (uI l), .string t] w fun e w' => e = .returned (.int .u64 (uI (sipH k l t.data.toList))) ∧ Below w.heap.size w w' := by
  have hcv := fun W s => run_bytes_of_string (P := Try.prog) W 9 22 5 s Try.underlying9 Try.underlying22 Try.underlying5
  go_enter Try.func88, Try.ntmps88
  go_wp2_with fail
  refine (SipStart_any k l _).mono ?_
  rintro e w1 ⟨rfl, hb1⟩
  obtain ⟨hc1, hf1⟩ := bcell hb1
  have hz1 := hb1.size
  (try simp at hz1)
  go_wp2_with fail
  clear hcv
  go_loopw [8] (fun b wr => ∃ (j a n cap : Nat) (A : Option Addr), Hid (a + n = t.size) ∧ n ≤ cap ∧ cap ≤ 9223372036854775807 ∧ b = .slice A n cap ∧ Hid (0 < n → A = some ⟨w1.heap.size + 1, a, none⟩) ∧ Hid (a = 8 * j) ∧ HashRel w1 (sipW (sipS k l) t.data.toList j) wr ∧ TextAt t (w1.heap.size + 1) wr) (fun b _ => match b with | .slice _ n _ => n | _ => 0)
  case atStart =>
    refine ⟨0, 0, t.size, _, _, ?_, ?_, ?_, rfl, fun _ => rfl, rfl, ⟨?_, ?_⟩, ?_⟩
    · exact (by omega : 0 + t.size = t.size)
    · exact grownCap_ge _ _ _ _
    · exact grownCap_le_maxLen _ _ _ _ (by unfold maxLen; omega)
    · exact (Below.heap_alloc _ _ _ (by simp)).trans (heap_alloc_new _ _)
    · exact (by repeat (first | with_reducible exact Below.refl _ _ | with_reducible assumption | with_reducible refine Below.drew ?_ | with_reducible refine Below.alloc ?_ (by first | exact Nat.le_refl _ | omega | (simp; done) | (simp; omega)) _ | with_reducible refine Below.setCell ?_ (by first | exact Nat.le_refl _ | omega | (simp; done) | (simp; omega)) _ | (with_reducible refine ext_trans ?_ (by with_reducible assumption))))
    · have h := TextAt.start (t := t) (w := w1.alloc (rS (sipS k l)))
      rw [show (w1.alloc (rS (sipS k l))).heap.size = w1.heap.size + 1 from by simp] at h
      exact h _ _
  case round =>
    obtain ⟨j, a, n, cap, A, han, hnc, hcap, rfl, hA, haj, ⟨hrow, hb⟩, htx⟩ := hrel
    have hlw := (Array.getElem?_eq_some_iff.1 hrow).1
    obtain ⟨S, hS⟩ : ∃ S, sipW (sipS k l) t.data.toList j = S := ⟨_, rfl⟩
    rw [hS] at hrow
    have HS := Lib.hid hS
    clear hS
    have hrow' : wr.drew.heap[w1.heap.size]? = some (rS S) := hrow
    have htx' : TextAt t (w1.heap.size + 1) wr.drew := htx
    have hb' : Below w1.heap.size w1 wr.drew := hb.drew
    have hlw' : w1.heap.size < wr.drew.heap.size := hlw
    have hlw2 : w1.heap.size + 1 < wr.drew.heap.size := htx.1
    by_cases hlt : 8 ≤ n
    · obtain rfl := hA.out (by omega)
      have h8 : ((t.data.toList.drop a).take 8).length = 8 := by
        have := han.out
        simp
        omega
      have hlc := fun w hc => little_any (w1.heap.size + 1) a cap n ((t.data.toList.drop a).take 8) h8 hlt w hc
      have hcells : ∀ i (hi : i < ((t.data.toList.drop a).take 8).length), wr.cell? ⟨w1.heap.size + 1, a + i, none⟩ = some (.int .u8 (((t.data.toList.drop a).take 8)[i].toNat : Int)) := fun i hi => by
        have h1 := han.out
        have h2 : a + i < t.data.toList.length := by rw [h8] at hi; simp; omega
        rw [htx.2 (a + i) h2]
        congr 3
        simp
      have HL := Lib.hid hlc
      have HCE := Lib.hid hcells
      clear hlc hcells h8
      have r0_hrow := cell_of_row _ _ 0 _ _ _ hrow
      have r1_hrow := cell_of_row _ _ 1 _ _ _ hrow
      have r2_hrow := cell_of_row _ _ 2 _ _ _ hrow
      have r3_hrow := cell_of_row _ _ 3 _ _ _ hrow
      have f0_hrow := frozen_of_row _ _ 0 _ _ hrow
      have f1_hrow := frozen_of_row _ _ 1 _ _ hrow
      have f2_hrow := frozen_of_row _ _ 2 _ _ hrow
      have f3_hrow := frozen_of_row _ _ 3 _ _ hrow
      simp at r0_hrow r1_hrow r2_hrow r3_hrow
      have HR := Lib.hid hrow'
      clear hrow hrow'
      by_cases hc8 : cap = 8
      · subst hc8
        obtain rfl : n = 8 := by omega
        go_wp2_with fail
        refine wp_region_still_tail 3 (by kernel_rfl) (by kernel_rfl) ?_
        simp only [List.take_succ_cons, List.take_zero, List.drop_succ_cons, List.drop_zero]
        repeat (first | still_step | still_call (still_of (HL.out _ HCE.out)))
        refine wpStill_nil ?_
        change wpList _ _ _ _ _ wr.drew
        generalize wr.drew = wd at *
        have hrd := HR.out
        have r0_hrd := cell_of_row _ _ 0 _ _ _ hrd
        have r1_hrd := cell_of_row _ _ 1 _ _ _ hrd
        have r2_hrd := cell_of_row _ _ 2 _ _ _ hrd
        have r3_hrd := cell_of_row _ _ 3 _ _ _ hrd
        have f0_hrd := frozen_of_row _ _ 0 _ _ hrd
        have f1_hrd := frozen_of_row _ _ 1 _ _ hrd
        have f2_hrd := frozen_of_row _ _ 2 _ _ hrd
        have f3_hrd := frozen_of_row _ _ 3 _ _ hrd
        simp at r0_hrd r1_hrd r2_hrd r3_hrd
        clear hrd
        go_wp2_with fail
        refine (SipWord_any S _ _).mono ?_
        rintro e w2 ⟨rfl, hb2⟩
        obtain ⟨hc2, hf2⟩ := bcell hb2
        have hz2 := hb2.size
        (try simp at hz2)
        have hy2_0 : w1.heap.size < w2.heap.size := by omega
        have hy2_1 : w1.heap.size + 1 < w2.heap.size := by omega
        have hrow2 := (hb2.block (w1.heap.size) (by omega)).trans HR.out
        have r0_hrow2 := cell_of_row _ _ 0 _ _ _ hrow2
        have r1_hrow2 := cell_of_row _ _ 1 _ _ _ hrow2
        have r2_hrow2 := cell_of_row _ _ 2 _ _ _ hrow2
        have r3_hrow2 := cell_of_row _ _ 3 _ _ _ hrow2
        have f0_hrow2 := frozen_of_row _ _ 0 _ _ hrow2
        have f1_hrow2 := frozen_of_row _ _ 1 _ _ hrow2
        have f2_hrow2 := frozen_of_row _ _ 2 _ _ hrow2
        have f3_hrow2 := frozen_of_row _ _ 3 _ _ hrow2
        simp at r0_hrow2 r1_hrow2 r2_hrow2 r3_hrow2
        clear hc2 hf2
        go_wp2_with fail
        have hst := stored_S4 hrow2 (word S (leW ((t.data.toList.drop a).take 8)))
        have ht2 := htx'.round hb2 (q := w1.heap.size) (by omega) (.int .u64 (uI (word S (leW ((t.data.toList.drop a).take 8))).a)) (.int .u64 (uI (word S (leW ((t.data.toList.drop a).take 8))).b)) (.int .u64 (uI (word S (leW ((t.data.toList.drop a).take 8))).c)) (.int .u64 (uI (word S (leW ((t.data.toList.drop a).take 8))).d))
        refine ⟨⟨j + 1, a + 8, 0, 0, _, ?_, by omega, by omega, rfl, ?_, ?_, ⟨?_, (by repeat (first | with_reducible exact Below.refl _ _ | with_reducible assumption | with_reducible refine Below.drew ?_ | with_reducible refine Below.alloc ?_ (by first | exact Nat.le_refl _ | omega | (simp; done) | (simp; omega)) _ | with_reducible refine Below.setCell ?_ (by first | exact Nat.le_refl _ | omega | (simp; done) | (simp; omega)) _ | (with_reducible refine ext_trans ?_ (by with_reducible assumption))))⟩, ht2⟩, by simp⟩
        · have := han.out
          exact (by omega : a + 8 + 0 = t.size)
        · exact fun h => absurd h (by omega)
        · have := haj.out
          exact (by omega : a + 8 = 8 * (j + 1))
        · rw [sipW, HS.out, ← haj.out]
          exact hst
      · have hc8' : ¬ 8 = cap := by omega
        go_wp2_with fail
        refine wp_region_still_tail 3 (by kernel_rfl) (by kernel_rfl) ?_
        simp only [List.take_succ_cons, List.take_zero, List.drop_succ_cons, List.drop_zero]
        repeat (first | still_step | still_call (still_of (HL.out _ HCE.out)))
        refine wpStill_nil ?_
        change wpList _ _ _ _ _ wr.drew
        generalize wr.drew = wd at *
        have hrd := HR.out
        have r0_hrd := cell_of_row _ _ 0 _ _ _ hrd
        have r1_hrd := cell_of_row _ _ 1 _ _ _ hrd
        have r2_hrd := cell_of_row _ _ 2 _ _ _ hrd
        have r3_hrd := cell_of_row _ _ 3 _ _ _ hrd
        have f0_hrd := frozen_of_row _ _ 0 _ _ hrd
        have f1_hrd := frozen_of_row _ _ 1 _ _ hrd
        have f2_hrd := frozen_of_row _ _ 2 _ _ hrd
        have f3_hrd := frozen_of_row _ _ 3 _ _ hrd
        simp at r0_hrd r1_hrd r2_hrd r3_hrd
        clear hrd
        go_wp2_with fail
        refine (SipWord_any S _ _).mono ?_
        rintro e w2 ⟨rfl, hb2⟩
        obtain ⟨hc2, hf2⟩ := bcell hb2
        have hz2 := hb2.size
        (try simp at hz2)
        have hy2_0 : w1.heap.size < w2.heap.size := by omega
        have hy2_1 : w1.heap.size + 1 < w2.heap.size := by omega
        have hrow2 := (hb2.block (w1.heap.size) (by omega)).trans HR.out
        have r0_hrow2 := cell_of_row _ _ 0 _ _ _ hrow2
        have r1_hrow2 := cell_of_row _ _ 1 _ _ _ hrow2
        have r2_hrow2 := cell_of_row _ _ 2 _ _ _ hrow2
        have r3_hrow2 := cell_of_row _ _ 3 _ _ _ hrow2
        have f0_hrow2 := frozen_of_row _ _ 0 _ _ hrow2
        have f1_hrow2 := frozen_of_row _ _ 1 _ _ hrow2
        have f2_hrow2 := frozen_of_row _ _ 2 _ _ hrow2
        have f3_hrow2 := frozen_of_row _ _ 3 _ _ hrow2
        simp at r0_hrow2 r1_hrow2 r2_hrow2 r3_hrow2
        clear hc2 hf2
        go_wp2_with fail
        have hst := stored_S4 hrow2 (word S (leW ((t.data.toList.drop a).take 8)))
        have ht2 := htx'.round hb2 (q := w1.heap.size) (by omega) (.int .u64 (uI (word S (leW ((t.data.toList.drop a).take 8))).a)) (.int .u64 (uI (word S (leW ((t.data.toList.drop a).take 8))).b)) (.int .u64 (uI (word S (leW ((t.data.toList.drop a).take 8))).c)) (.int .u64 (uI (word S (leW ((t.data.toList.drop a).take 8))).d))
        refine ⟨⟨j + 1, a + 8, n - 8, cap - 8, _, ?_, by omega, by omega, rfl, fun _ => rfl, ?_, ⟨?_, (by repeat (first | with_reducible exact Below.refl _ _ | with_reducible assumption | with_reducible refine Below.drew ?_ | with_reducible refine Below.alloc ?_ (by first | exact Nat.le_refl _ | omega | (simp; done) | (simp; omega)) _ | with_reducible refine Below.setCell ?_ (by first | exact Nat.le_refl _ | omega | (simp; done) | (simp; omega)) _ | (with_reducible refine ext_trans ?_ (by with_reducible assumption))))⟩, ht2⟩, by simp; omega⟩
        · have := han.out
          exact (by omega : a + 8 + (n - 8) = t.size)
        · have := haj.out
          exact (by omega : a + 8 = 8 * (j + 1))
        · rw [sipW, HS.out, ← haj.out]
          exact hst
    · have r0_hrow := cell_of_row _ _ 0 _ _ _ hrow
      have r1_hrow := cell_of_row _ _ 1 _ _ _ hrow
      have r2_hrow := cell_of_row _ _ 2 _ _ _ hrow
      have r3_hrow := cell_of_row _ _ 3 _ _ _ hrow
      have f0_hrow := frozen_of_row _ _ 0 _ _ hrow
      have f1_hrow := frozen_of_row _ _ 1 _ _ hrow
      have f2_hrow := frozen_of_row _ _ 2 _ _ hrow
      have f3_hrow := frozen_of_row _ _ 3 _ _ hrow
      simp at r0_hrow r1_hrow r2_hrow r3_hrow
      have HR := Lib.hid hrow
      clear hrow hrow'
      have hmk : ∀ W, (Instr.makeSlice 22 (.int .i64 8) (.int .i64 8)).run Try.prog W = .ok (.slice (some ⟨W.heap.size, 0, none⟩) 8 8) (W.alloc (.cells (madeCells #[.int .u8 0] 8) 5)) := fun W => run_make_row' (P := Try.prog) 22 5 (.int .u8 0) 1 Try.underlying22 info_u8 rfl .i64 .i64 8 (by omega) (by omega) W
      have hlcs : ((t.data.toList.drop a).map fun b => Value.int .u8 (b.toNat : Int)).length = n := by
        have := han.out
        simp
        omega
      have hpos : 0 < ((t.data.toList.drop a).map fun b => Value.int .u8 (b.toNat : Int)).length → ∃ ad, A = some ad ∧ ∀ j v, ((t.data.toList.drop a).map fun b => Value.int .u8 (b.toNat : Int))[j]? = some v → (wr.alloc (.cells (madeCells #[.int .u8 0] 8) 5)).cell? (ad.add j) = some v := fun h => by
        rw [hlcs] at h
        refine ⟨_, hA.out h, fun i v hv => ?_⟩
        have hadd : (⟨w1.heap.size + 1, a, none⟩ : Addr).add i = ⟨w1.heap.size + 1, a + i, none⟩ := by unfold Addr.add; split <;> simp_all
        rw [hadd, World.cell?_of_block (Below.heap_alloc wr _ _ htx.1)]
        obtain ⟨hi, rfl⟩ := List.getElem?_eq_some_iff.1 hv
        rw [hlcs] at hi
        have := han.out
        rw [htx.2 (a + i) (by simp; omega)]
        simp
      have HLC := Lib.hid hlcs
      have HPO := Lib.hid hpos
      clear hlcs hpos
      go_wp2_with (refine wpList_copy_splice (by rfl) (.tmp 25) (.tmp 26) 22 22 (by rfl) 5 Try.underlying22 info1_u8 (some ⟨wr.heap.size, 0, none⟩) A 8 8 n cap (by rfl) (by rfl) wr.heap.size 0 (madeCells #[.int .u8 0] 8).toList 5 ?h1 ((t.data.toList.drop a).map fun b => Value.int .u8 (b.toNat : Int)) ?h2 ?h3 ?h4 ?h5 wr.heap.size wr ?h6 ?h7 ?_)
      case h1 => exact heap_alloc_new _ _
      case h2 => rw [HLC.out]; exact (by omega : n = min n 8)
      case h3 => have h0 := han.out; intro h; obtain ⟨ad, e, hx⟩ := HPO.out (by rw [HLC.out]; omega); exact ⟨ad, e, fun j v hv => hx j _ (by simp [hv])⟩
      case h4 => rw [HLC.out]; simp [madeCells]; omega
      case h5 => intro v hv; obtain ⟨b, _, rfl⟩ := List.mem_map.1 hv; rfl
      case h6 => exact (by repeat (first | with_reducible exact Below.refl _ _ | with_reducible assumption | with_reducible refine Below.drew ?_ | with_reducible refine Below.alloc ?_ (by first | exact Nat.le_refl _ | omega | (simp; done) | (simp; omega)) _ | with_reducible refine Below.setCell ?_ (by first | exact Nat.le_refl _ | omega | (simp; done) | (simp; omega)) _ | (with_reducible refine ext_trans ?_ (by with_reducible assumption))))
      case h7 => omega
      intro w2 hsp hb2
      have hrow8 : w2.heap[wr.heap.size]? = some (.cells (byteCells ((t.data.toList.drop a ++ List.replicate (7 - n) 0) ++ [0])).toArray 5 (0, 0)) := by
        have h1 := hsp.out
        have h2 := HLC.out
        rw [← List.map_drop, tail_row (t.data.toList.drop a) n (by simpa using h2) (by omega)] at h1
        exact h1
      have hl7 : (t.data.toList.drop a ++ List.replicate (7 - n) 0).length = 7 := by
        have h2 := HLC.out
        rw [List.length_append, List.length_replicate]
        simp at h2 ⊢
        omega
      have hc7 : w2.cell? ⟨wr.heap.size, 7, none⟩ = some (.int .u8 0) := (cell_of_row _ _ 7 _ _ _ hrow8).trans (at_7 _ hl7)
      have hf7 : w2.frozen? ⟨wr.heap.size, 7, none⟩ = false := frozen_of_row _ _ 7 _ _ hrow8
      have hrow9 := heap_setCell_same _ _ 7 _ _ (.int .u8 ((t.size : Int) % 256)) hrow8
      rw [last_row _ hl7] at hrow9
      have hrs := (hb2.block (w1.heap.size) (by omega)).trans HR.out
      have hrs' := (Below.heap_setCell w2 ⟨wr.heap.size, 7, none⟩ (.int .u8 ((t.size : Int) % 256)) (w1.heap.size) (by show w1.heap.size ≠ wr.heap.size; omega)).trans hrs
      have hsz2 := hb2.size
      have hsz3 : w2.heap.size ≤ (w2.setCell ⟨wr.heap.size, 7, none⟩ (.int .u8 ((t.size : Int) % 256))).heap.size := by simp [World.setCell]
      have hb3 : Below w1.heap.size w1 (w2.setCell ⟨wr.heap.size, 7, none⟩ (.int .u8 ((t.size : Int) % 256))) := (hb.trans (hb2.mono (by omega))).setCell (by show w1.heap.size ≤ wr.heap.size; omega) _
      have HR9 := Lib.hid hrow9
      have HRS := Lib.hid hrs'
      clear hrow8 hrow9 hrs hrs' hl7
      go_wp2_with fail
      generalize w2.setCell ⟨wr.heap.size, 7, none⟩ (.int .u8 ((t.size : Int) % 256)) = w3 at *
      obtain ⟨l8, hl8⟩ : ∃ l8, t.data.toList.drop a ++ List.replicate (7 - n) 0 ++ [UInt8.ofNat (t.size % 256)] = l8 := ⟨_, rfl⟩
      rw [hl8] at HR9
      have hl8l : l8.length = 8 := by
        have h2 := HLC.out
        rw [← hl8]
        simp at h2 ⊢
        omega
      have hlit : leW l8 = leW (t.data.toList.drop a) ||| BitVec.ofNat 64 (t.size % 256) <<< 56 := by
        have h2 := HLC.out
        have h3 : (t.data.toList.drop a ++ List.replicate (7 - n) 0).length = 7 := by
          simp at h2 ⊢
          omega
        rw [← hl8, leW_append, leW_append, leW_zeros, h3]
        simp [leW]
      have hrs := HRS.out
      have r0_hrs := cell_of_row _ _ 0 _ _ _ hrs
      have r1_hrs := cell_of_row _ _ 1 _ _ _ hrs
      have r2_hrs := cell_of_row _ _ 2 _ _ _ hrs
      have r3_hrs := cell_of_row _ _ 3 _ _ _ hrs
      have f0_hrs := frozen_of_row _ _ 0 _ _ hrs
      have f1_hrs := frozen_of_row _ _ 1 _ _ hrs
      have f2_hrs := frozen_of_row _ _ 2 _ _ hrs
      have f3_hrs := frozen_of_row _ _ 3 _ _ hrs
      simp at r0_hrs r1_hrs r2_hrs r3_hrs
      have hlc := fun W hc => little_any wr.heap.size 0 8 8 l8 hl8l (by omega) W hc
      have hcells : ∀ i (hi : i < l8.length), w3.cell? ⟨wr.heap.size, 0 + i, none⟩ = some (.int .u8 (l8[i].toNat : Int)) := fun i hi => by
        rw [Nat.zero_add, cell_of_row _ _ i _ _ _ HR9.out]
        simp [byteCells, hi]
      rw [hlit] at hlc
      have HL := Lib.hid hlc
      have HCE := Lib.hid hcells
      have HLI := Lib.hid hl8
      have hrd : w3.drew.heap[w1.heap.size]? = some (rS S) := hrs
      have HRD := Lib.hid hrd
      have hb3' := hb3.drew
      have hlw3 : w1.heap.size < w3.drew.heap.size := by show w1.heap.size < w3.heap.size; omega
      clear hlc hcells hrs hrd hl8 hl8l hlit
      refine wp_region_still_tail 3 (by kernel_rfl) (by kernel_rfl) ?_
      simp only [List.take_succ_cons, List.take_zero, List.drop_succ_cons, List.drop_zero]
      repeat (first | still_step | still_call (still_of (HL.out _ HCE.out)))
      refine wpStill_nil ?_
      change wpList _ _ _ _ _ w3.drew
      generalize w3.drew = wd at *
      have hrd := HRD.out
      have r0_hrd := cell_of_row _ _ 0 _ _ _ hrd
      have r1_hrd := cell_of_row _ _ 1 _ _ _ hrd
      have r2_hrd := cell_of_row _ _ 2 _ _ _ hrd
      have r3_hrd := cell_of_row _ _ 3 _ _ _ hrd
      have f0_hrd := frozen_of_row _ _ 0 _ _ hrd
      have f1_hrd := frozen_of_row _ _ 1 _ _ hrd
      have f2_hrd := frozen_of_row _ _ 2 _ _ hrd
      have f3_hrd := frozen_of_row _ _ 3 _ _ hrd
      simp at r0_hrd r1_hrd r2_hrd r3_hrd
      clear hrd
      go_wp2_with fail
      refine (SipWord_any S _ _).mono ?_
      rintro e w3 ⟨rfl, hb3⟩
      obtain ⟨hc3, hf3⟩ := bcell hb3
      have hz3 := hb3.size
      (try simp at hz3)
      have hy3_0 : w1.heap.size < w3.heap.size := by omega
      go_wp2_with fail
      refine (SipEnd_any (word S _) _).mono ?_
      rintro e w4 ⟨rfl, hb4⟩
      obtain ⟨hc4, hf4⟩ := bcell hb4
      have hz4 := hb4.size
      (try simp at hz4)
      have hy4_0 : w1.heap.size < w4.heap.size := by omega
      go_wp2_with fail
      go_ret
      refine ⟨?_, (by repeat (first | with_reducible exact Below.refl _ _ | with_reducible assumption | with_reducible refine Below.drew ?_ | with_reducible refine Below.alloc ?_ (by first | exact Nat.le_refl _ | omega | (simp; done) | (simp; omega)) _ | with_reducible refine Below.setCell ?_ (by first | exact Nat.le_refl _ | omega | (simp; done) | (simp; omega)) _ | (with_reducible refine ext_trans ?_ (by with_reducible assumption))))⟩
      have h1 := han.out
      have h2 := haj.out
      have hj : t.data.toList.length / 8 = j := by
        simp
        omega
      have hn : t.data.toList.length = t.size := by simp
      rw [sipH, hj, hn, HS.out, h2]
      rfl
end Go.Proofs.Ytjlnbjabehpncaa
