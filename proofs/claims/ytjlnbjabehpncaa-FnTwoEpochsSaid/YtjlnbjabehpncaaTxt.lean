/-
  The contract of markText: the figures of a number behind a letter.
-/
import Derived.Test.YtjlnbjabehpncaaBase
import Derived.Laws.IdiomStrings
import Derived.LoopTactic
namespace Go.Proofs.Ytjlnbjabehpncaa
open Go.RowKit

/-- The figures of k, ahead of acc. -/
def figs : Nat → Nat → List UInt8 → List UInt8
  | 0, _, acc => acc
  | f + 1, k, acc => if k = 0 then acc else figs f (k / 10) (UInt8.ofNat (48 + k % 10) :: acc)
theorem figs_zero (f : Nat) (acc : List UInt8) : figs f 0 acc = acc := by
  cases f <;> simp [figs]
theorem figs_more : ∀ (f g k : Nat) (acc : List UInt8), k ≤ f → k ≤ g → figs f k acc = figs g k acc
  | 0, g, k, acc, h, _ => by
    obtain rfl : k = 0 := by omega
    rw [figs_zero, figs_zero]
  | f + 1, 0, k, acc, _, h => by
    obtain rfl : k = 0 := by omega
    rw [figs_zero, figs_zero]
  | f + 1, g + 1, k, acc, h1, h2 => by
    unfold figs
    split
    · rfl
    · exact figs_more f g (k / 10) _ (by omega) (by omega)
theorem figs_step (k : Nat) (acc : List UInt8) (h : 0 < k) : figs k k acc = figs (k / 10) (k / 10) (UInt8.ofNat (48 + k % 10) :: acc) := by
  obtain ⟨j, rfl⟩ : ∃ j, k = j + 1 := ⟨k - 1, by omega⟩
  rw [figs, if_neg (by omega)]
  exact figs_more _ _ _ _ (by omega) (by omega)
def markS (k : Nat) : ByteArray := ⟨(if k = 0 then [109, 48] else 109 :: figs k k []).toArray⟩

theorem one_text (b : UInt8) (acc : List UInt8) : (⟨[b].toArray⟩ : ByteArray) ++ ⟨acc.toArray⟩ = ⟨(b :: acc).toArray⟩ := by
  apply ByteArray.ext
  simp
theorem m_text (acc : List UInt8) : (⟨#[109]⟩ : ByteArray) ++ ⟨acc.toArray⟩ = ⟨(109 :: acc).toArray⟩ := by
  apply ByteArray.ext
  simp
set_option maxHeartbeats 1000000 in
theorem markText_any (k : Nat) (h1 : 1 ≤ k) (h2 : k ≤ 1000000000) (w : World) :
    Calls Try.prog 94 #[.int .i64 k] w fun e w' => e = .returned (.string (markS k)) ∧ Below w.heap.size w w' := by
  go_enter Try.func94, Try.ntmps94
  go_wp2
  go_loopw [0, 3] (fun n out wr => ∃ (j : Nat) (acc : List UInt8), j + acc.length ≤ k ∧ n = .int .i64 j ∧ out = .string ⟨acc.toArray⟩ ∧ Hid (figs j j acc = figs k k []) ∧ Below w.heap.size w wr) (fun n _ _ => (intOf n).toNat)
  case atStart => exact ⟨k, [], by simp, rfl, rfl, rfl, (by repeat (first | with_reducible exact Below.refl _ _ | with_reducible assumption | with_reducible refine Below.drew ?_ | with_reducible refine Below.alloc ?_ (by first | exact Nat.le_refl _ | omega | (simp; done) | (simp; omega)) _ | with_reducible refine Below.setCell ?_ (by first | exact Nat.le_refl _ | omega | (simp; done) | (simp; omega)) _ | (with_reducible refine ext_trans ?_ (by with_reducible assumption))))⟩
  case round =>
    obtain ⟨j, acc, hj, rfl, rfl, hfig, hb⟩ := hrel
    have hbs := hb.size
    by_cases hlt : 0 < j
    · have hcv := run_convert_bytes_back (P := Try.prog) (wr.alloc (.cells #[.int .u8 (48 + (j : Int) % 10)] 5)) 22 9 5 ⟨wr.heap.size, 0, none⟩ 1 [UInt8.ofNat (48 + j % 10)] Try.underlying22 Try.underlying5 Try.underlying9 (fun i hi => by
        obtain rfl : i = 0 := by simpa using hi
        have ha : (⟨wr.heap.size, 0, none⟩ : Addr).add 0 = ⟨wr.heap.size, 0, none⟩ := by unfold Addr.add; split <;> simp_all
        rw [ha, World.cell?_alloc_mark]
        have e : ((UInt8.ofNat (48 + j % 10)).toNat : Int) = 48 + (j : Int) % 10 := by
          rw [UInt8.toNat_ofNat']
          omega
        simp only [List.getElem_cons_zero, e]
        rfl)
      simp only [List.length_singleton] at hcv
      have hsz : (⟨[UInt8.ofNat (48 + j % 10)].toArray⟩ : ByteArray).size ≤ 1 := by show [UInt8.ofNat (48 + j % 10)].toArray.size ≤ 1; simp
      have hsa : (⟨acc.toArray⟩ : ByteArray).size ≤ k := by show acc.toArray.size ≤ k; simp; omega
      go_wp2
      refine ⟨⟨j / 10, UInt8.ofNat (48 + j % 10) :: acc, by simp; omega, by go_num, ?_, ?_, (by repeat (first | with_reducible exact Below.refl _ _ | with_reducible assumption | with_reducible refine Below.drew ?_ | with_reducible refine Below.alloc ?_ (by first | exact Nat.le_refl _ | omega | (simp; done) | (simp; omega)) _ | with_reducible refine Below.setCell ?_ (by first | exact Nat.le_refl _ | omega | (simp; done) | (simp; omega)) _ | (with_reducible refine ext_trans ?_ (by with_reducible assumption))))⟩, by simp [intOf]; omega⟩
      · have h10 := one_text (UInt8.ofNat (48 + j % 10)) acc
        have e : (48 : UInt8) + UInt8.ofNat (j % 10) = UInt8.ofNat (48 + j % 10) := by
          rw [UInt8.ofNat_add]
          rfl
        rw [e]
        exact congrArg Value.string h10
      · exact (figs_step j acc hlt).symm.trans hfig.out
    · obtain rfl : j = 0 := by omega
      have hsa : (⟨acc.toArray⟩ : ByteArray).size ≤ k := by show acc.toArray.size ≤ k; simp; omega
      go_wp2
      go_ret
      refine ⟨?_, hb⟩
      have hf := hfig.out
      rw [figs_zero] at hf
      rw [markS, if_neg (by omega), ← hf, ← m_text]
      rfl
end Go.Proofs.Ytjlnbjabehpncaa
