/-
  The law FnMac returns true for every input. No condition.
-/
import Derived.Test.YtondhgmlemgoaaaMod
import Derived.Test.YtondhgmlemgoaaaMok
import Derived.Test.YtondhgmlemgoaaaMof
import Derived.Test.YtondhgmlemgoaaaBytes
import Derived.Test.YtondhgmlemgoaaaReg
import Derived.Deep.DeepCutAuto
import Derived.Deep.RegionHeld3
namespace Go.Proofs.Ytondhgmlemgoaaa
set_option maxRecDepth 100000
open Go.ChangeShapes Go.WideShapes Go.ChangeAt Go.RowKit Go.Deep

theorem rgBMacRow {W wx : World} (h : (∀ b o, b < W.heap.size → wx.cell? ⟨b, o, none⟩ = W.cell? ⟨b, o, none⟩) ∧ Below W.heap.size W wx) : Below W.heap.size W wx := h.2
set_option maxHeartbeats 16000000 in
theorem FnMac_walk {A : Option Addr} {n c : Nat} (hn : n ≤ maxLen) (w : World) (hb : Byts w w.heap.size A n) :
    Calls Try.prog 14 #[.slice A n c] w fun e w' => e = .returned (.bool true) ∧ Below w.heap.size w w' := by
  have hlen := hn
  unfold maxLen at hlen
  by_cases hbig : (1048576 : Int) < n
  · go_enter Try.func14, Try.ntmps14
    go_wp2_with fail
    refine (big_any hn _).mono ?_
    rintro e w' ⟨rfl, rfl⟩
    go_wp2_with fail
    go_ret
    exact ⟨rfl, Below.refl _ _⟩
  go_enter Try.func14, Try.ntmps14
  go_wp2_with fail
  refine (big_any hn _).mono ?_
  rintro e w' ⟨rfl, rfl⟩
  go_wp2_with fail
  refine (DrawMacOf_any hn hb).mono ?_
  rintro e w1 ⟨u, k, l, v, rs, s, rfl, hO1, hl1, hf1, hs1, hb1⟩
  clear hb
  obtain ⟨A1, c1, rfl⟩ := hO1.form
  have Om_1 := Lib.hid hO1
  have HF := Lib.hid (fun y hy => (hf1 y hy).1 : ∀ y ∈ rs, -9223372036854775808 ≤ y.2 ∧ y.2 ≤ 9223372036854775807)
  have hrl : rs.length ≤ maxLen := by unfold maxLen; omega
  have HRL := Lib.hid hrl
  clear hO1 hf1 hrl
  have hz1 := hb1.size
  have hw1 : Below w.heap.size w w1 := (by repeat (first | with_reducible exact Below.refl _ _ | with_reducible assumption | with_reducible refine Below.drew ?_ | with_reducible refine Below.alloc ?_ (by first | exact Nat.le_refl _ | omega | (simp; done) | (simp; omega)) _ | with_reducible refine Below.setCell ?_ (by first | exact Nat.le_refl _ | omega | (simp; done) | (simp; omega)) _ | (with_reducible refine ext_trans ?_ (by with_reducible assumption))))
  obtain ⟨X, hX⟩ : ∃ X, macOf u k l rs s = X := ⟨_, rfl⟩
  have hX1 : 0 ≤ X ∧ X < 16777216 := by
    rw [← hX]
    unfold macOf
    split
    · exact macRow_bd rs s
    · omega
  obtain ⟨hX1, hX2⟩ := hX1
  have hi := fun W h => MacOf_any u k l (.slice A1 rs.length c1) rs s (by omega) HRL.out W h HF.out
  rw [hX] at hi
  have HI := Lib.hid hi
  have hi2 := fun W h => sMacOf_any u k l (.slice A1 rs.length c1) rs s (by omega) HRL.out W h HF.out
  rw [hX] at hi2
  have HS := Lib.hid hi2
  have HX := Lib.hid hX
  clear hi hi2 hX
  go_wp2_with fail
  refine (HI.out _ (Om_1.out.below (by repeat (first | with_reducible exact Below.refl _ _ | with_reducible assumption | with_reducible refine Below.drew ?_ | with_reducible refine Below.alloc ?_ (by first | exact Nat.le_refl _ | omega | (simp; done) | (simp; omega)) _ | with_reducible refine Below.setCell ?_ (by first | exact Nat.le_refl _ | omega | (simp; done) | (simp; omega)) _ | (with_reducible refine ext_trans ?_ (by with_reducible assumption))))).rd).mono ?_
  rintro e w2 ⟨rfl, hb2⟩
  have hz2 := hb2.size
  (try simp at hz2)
  have rm_2 : w2.heap[w1.heap.size]? = some (.cells #[.bool u, .int .u64 (uI k), .int .u64 (uI l), .slice A1 rs.length c1] 35 (0, 0)) := (hb2.block _ (by first | (simp; done) | (simp; omega))).trans (by repeat (first | exact heap_new _ _ _ (by first | rfl | (simp; done) | (simp; omega)) | refine (Below.heap_alloc _ _ _ (by first | omega | (simp; done) | (simp; omega))).trans ?_))
  have Om_2 := Lib.hid (Om_1.out.below (w' := w2) (by repeat (first | with_reducible exact Below.refl _ _ | with_reducible assumption | with_reducible refine Below.drew ?_ | with_reducible refine Below.alloc ?_ (by first | exact Nat.le_refl _ | omega | (simp; done) | (simp; omega)) _ | with_reducible refine Below.setCell ?_ (by first | exact Nat.le_refl _ | omega | (simp; done) | (simp; omega)) _ | (with_reducible refine ext_trans ?_ (by with_reducible assumption)))))
  have hw2 : Below w.heap.size w w2 := (by repeat (first | with_reducible exact Below.refl _ _ | with_reducible assumption | with_reducible refine Below.drew ?_ | with_reducible refine Below.alloc ?_ (by first | exact Nat.le_refl _ | omega | (simp; done) | (simp; omega)) _ | with_reducible refine Below.setCell ?_ (by first | exact Nat.le_refl _ | omega | (simp; done) | (simp; omega)) _ | (with_reducible refine ext_trans ?_ (by with_reducible assumption))))
  have lRm_2 : w1.heap.size < w2.heap.size := by omega
  have Rm_2 := Lib.hid rm_2
  have r0_rm_2 := cell_of_row _ _ 0 _ _ _ rm_2
  have r1_rm_2 := cell_of_row _ _ 1 _ _ _ rm_2
  have r2_rm_2 := cell_of_row _ _ 2 _ _ _ rm_2
  have r3_rm_2 := cell_of_row _ _ 3 _ _ _ rm_2
  have f0_rm_2 := frozen_of_row _ _ 0 _ _ rm_2
  have f1_rm_2 := frozen_of_row _ _ 1 _ _ rm_2
  have f2_rm_2 := frozen_of_row _ _ 2 _ _ rm_2
  have f3_rm_2 := frozen_of_row _ _ 3 _ _ rm_2
  simp at r0_rm_2 r1_rm_2 r2_rm_2 r3_rm_2
  clear rm_2
  go_wp2_with fail
  refine (HS.out _ (Om_2.out.below (by repeat (first | with_reducible exact Below.refl _ _ | with_reducible assumption | with_reducible refine Below.drew ?_ | with_reducible refine Below.alloc ?_ (by first | exact Nat.le_refl _ | omega | (simp; done) | (simp; omega)) _ | with_reducible refine Below.setCell ?_ (by first | exact Nat.le_refl _ | omega | (simp; done) | (simp; omega)) _ | (with_reducible refine ext_trans ?_ (by with_reducible assumption))))).rd).mono ?_
  rintro e w3 ⟨rfl, hb3⟩
  have hz3 := hb3.size
  (try simp at hz3)
  have rm_3 := (hb3.block _ (by first | omega | (simp; done) | (simp; omega))).trans Rm_2.out
  have Om_3 := Lib.hid (Om_2.out.below (w' := w3) (by repeat (first | with_reducible exact Below.refl _ _ | with_reducible assumption | with_reducible refine Below.drew ?_ | with_reducible refine Below.alloc ?_ (by first | exact Nat.le_refl _ | omega | (simp; done) | (simp; omega)) _ | with_reducible refine Below.setCell ?_ (by first | exact Nat.le_refl _ | omega | (simp; done) | (simp; omega)) _ | (with_reducible refine ext_trans ?_ (by with_reducible assumption)))))
  have hw3 : Below w.heap.size w w3 := (by repeat (first | with_reducible exact Below.refl _ _ | with_reducible assumption | with_reducible refine Below.drew ?_ | with_reducible refine Below.alloc ?_ (by first | exact Nat.le_refl _ | omega | (simp; done) | (simp; omega)) _ | with_reducible refine Below.setCell ?_ (by first | exact Nat.le_refl _ | omega | (simp; done) | (simp; omega)) _ | (with_reducible refine ext_trans ?_ (by with_reducible assumption))))
  have lRm_3 : w1.heap.size < w3.heap.size := by omega
  have Rm_3 := Lib.hid rm_3
  have r0_rm_3 := cell_of_row _ _ 0 _ _ _ rm_3
  have r1_rm_3 := cell_of_row _ _ 1 _ _ _ rm_3
  have r2_rm_3 := cell_of_row _ _ 2 _ _ _ rm_3
  have r3_rm_3 := cell_of_row _ _ 3 _ _ _ rm_3
  have f0_rm_3 := frozen_of_row _ _ 0 _ _ rm_3
  have f1_rm_3 := frozen_of_row _ _ 1 _ _ rm_3
  have f2_rm_3 := frozen_of_row _ _ 2 _ _ rm_3
  have f3_rm_3 := frozen_of_row _ _ 3 _ _ rm_3
  simp at r0_rm_3 r1_rm_3 r2_rm_3 r3_rm_3
  clear rm_3
  clear r0_rm_2 f0_rm_2 r1_rm_2 f1_rm_2 r2_rm_2 f2_rm_2 r3_rm_2 f3_rm_2
  cases u
  case false =>
    obtain ⟨Y, hY⟩ : ∃ Y, uI (sipH k l s.data.toList) = Y := ⟨_, rfl⟩
    obtain ⟨hY1, hY2⟩ := uI_bd (sipH k l s.data.toList)
    rw [hY] at hY1 hY2
    have hsh := fun W => SipHash_any k l s (by omega) W
    rw [hY] at hsh
    have HSH := Lib.hid hsh
    obtain rfl : X = Y % 16777216 := by rw [← HX.out, ← hY]; rfl
    clear hsh hY
    go_wp2_with fail
    refine (HSH.out _).mono ?_
    rintro e w4 ⟨rfl, hb4⟩
    go_wp2_with fail
    go_ret
    exact ⟨by simp, (by repeat (first | with_reducible exact Below.refl _ _ | with_reducible assumption | with_reducible refine Below.drew ?_ | with_reducible refine Below.alloc ?_ (by first | exact Nat.le_refl _ | omega | (simp; done) | (simp; omega)) _ | with_reducible refine Below.setCell ?_ (by first | exact Nat.le_refl _ | omega | (simp; done) | (simp; omega)) _ | (with_reducible refine ext_trans ?_ (by with_reducible assumption))))⟩
  case true =>
    have hM : macOf true 0#64 0#64 ((s, 5) :: rs) s = 5 := by simp [macOf, macRow]
    have HM := Lib.hid hM
    clear hM
    have u0 : uI 0#64 = 0 := by first | rfl | simp [uI]
    have hO0 : (w3.alloc (.cells #[.string s, .int .i64 5] 69)).ownsRow w3.heap.size 69 2 (.slice (some ⟨w3.heap.size, 0, none⟩) 1 1) 1 [.string s, .int .i64 5] := ⟨rfl, .inr ⟨w3.heap.size, 1, _, rfl, Nat.le_refl _, heap_alloc_new _ _, Nat.le_refl _, by unfold maxLen; omega, rfl, rfl⟩⟩
    have HO0 := Lib.hid hO0
    clear hO0
    obtain ⟨i0, hi, iz0, iz1, iz2⟩ := info_parts info_MacRow
    obtain ⟨_, _, hx, ⟨hcc1, hcc2, hcc3⟩, -⟩ := id Om_3.out.rd
    injection hx with hx1 hx2 hx3
    subst hx1 hx3
    clear hx2
    unfold maxLen at hcc2
    have happ : ∃ K : Nat, True := ⟨0, trivial⟩
    clear happ
    have hw3s := hw3.size
    cases A1 with
    | none =>
      obtain rfl : c1 = 0 := hcc3 rfl
      obtain rfl : rs = [] := List.eq_nil_of_length_eq_zero (by omega)
      clear hcc1 hcc2 hcc3
      go_wp2_with (refine wpList_append_own_none (by rfl) (.tmp 45) (.tmp 47) 33 (by rfl) w3.heap.size 69 i0 2 Try.underlying33 hi (.slice (some ⟨w3.heap.size, 0, none⟩) 1 1) 1 [.string s, .int .i64 5] (by rfl) HO0.out (by rfl) ?_)
      have HL4 : Hid (RdMacRow (w3.alloc (.cells #[.string s, .int .i64 5] 69)) (.slice (some ⟨w3.heap.size, 0, none⟩) 1 1) [(s, 5)]) := Lib.hid (rd_own HO0.out)
      go_wp2_with fail
      refine (TableMac_any _ ((s, 5) :: []) (by first | (simp; done) | (simp; omega)) _ HL4.out).mono ?_
      rintro e w4 ⟨v4, rfl, hO4, hb4⟩
      obtain ⟨A4, c4, rfl⟩ := hO4.form
      have Ot_4 := Lib.hid (OwnE.mono (base' := w3.heap.size + 1) hO4 (by first | exact Nat.le_refl _ | (simp; done)))
      have Bt := Ot_4
      have hz4 := hb4.size
      (try simp at hz4)
      have rm_4 := (hb4.block _ (by first | omega | (simp; done) | (simp; omega))).trans ((Below.heap_alloc _ _ _ (by first | exact lRm_3 | (simp; omega))).trans Rm_3.out)
      have rk_4 : w4.heap[w3.heap.size]? = some (.cells #[.string s, .int .i64 5] 69 (0, 0)) := (hb4.block _ (by first | (simp; done) | (simp; omega))).trans (by repeat (first | exact heap_new _ _ _ (by first | rfl | (simp; done) | (simp; omega)) | refine (Below.heap_alloc _ _ _ (by first | omega | (simp; done) | (simp; omega))).trans ?_))
      have Om_4 := Lib.hid (Om_3.out.below (w' := w4) (by repeat (first | with_reducible exact Below.refl _ _ | with_reducible assumption | with_reducible refine Below.drew ?_ | with_reducible refine Below.alloc ?_ (by first | exact Nat.le_refl _ | omega | (simp; done) | (simp; omega)) _ | with_reducible refine Below.setCell ?_ (by first | exact Nat.le_refl _ | omega | (simp; done) | (simp; omega)) _ | (with_reducible refine ext_trans ?_ (by with_reducible assumption)))))
      have hw4 : Below w.heap.size w w4 := (by repeat (first | with_reducible exact Below.refl _ _ | with_reducible assumption | with_reducible refine Below.drew ?_ | with_reducible refine Below.alloc ?_ (by first | exact Nat.le_refl _ | omega | (simp; done) | (simp; omega)) _ | with_reducible refine Below.setCell ?_ (by first | exact Nat.le_refl _ | omega | (simp; done) | (simp; omega)) _ | (with_reducible refine ext_trans ?_ (by with_reducible assumption))))
      have lRm_4 : w1.heap.size < w4.heap.size := by omega
      have lRk_4 : w3.heap.size < w4.heap.size := by omega
      have Rm_4 := Lib.hid rm_4
      have r0_rm_4 := cell_of_row _ _ 0 _ _ _ rm_4
      have r1_rm_4 := cell_of_row _ _ 1 _ _ _ rm_4
      have r2_rm_4 := cell_of_row _ _ 2 _ _ _ rm_4
      have r3_rm_4 := cell_of_row _ _ 3 _ _ _ rm_4
      have f0_rm_4 := frozen_of_row _ _ 0 _ _ rm_4
      have f1_rm_4 := frozen_of_row _ _ 1 _ _ rm_4
      have f2_rm_4 := frozen_of_row _ _ 2 _ _ rm_4
      have f3_rm_4 := frozen_of_row _ _ 3 _ _ rm_4
      simp at r0_rm_4 r1_rm_4 r2_rm_4 r3_rm_4
      clear rm_4
      have Rk_4 := Lib.hid rk_4
      have r0_rk_4 := cell_of_row _ _ 0 _ _ _ rk_4
      have r1_rk_4 := cell_of_row _ _ 1 _ _ _ rk_4
      have f0_rk_4 := frozen_of_row _ _ 0 _ _ rk_4
      have f1_rk_4 := frozen_of_row _ _ 1 _ _ rk_4
      simp at r0_rk_4 r1_rk_4
      clear rk_4
      clear r0_rm_3 f0_rm_3 r1_rm_3 f1_rm_3 r2_rm_3 f2_rm_3 r3_rm_3 f3_rm_3
      go_wp2_with fail
      have hb5 : Below w4.heap.size w4 (w4.alloc (.cells #[.bool true, .int .u64 0, .int .u64 0, .slice A4 ((s, 5) :: []).length c4] 35)) := (by repeat (first | with_reducible exact Below.refl _ _ | with_reducible assumption | with_reducible refine Below.drew ?_ | with_reducible refine Below.alloc ?_ (by first | exact Nat.le_refl _ | omega | (simp; done) | (simp; omega)) _ | with_reducible refine Below.setCell ?_ (by first | exact Nat.le_refl _ | omega | (simp; done) | (simp; omega)) _ | (with_reducible refine ext_trans ?_ (by with_reducible assumption))))
      have rt_5 : (w4.alloc (.cells #[.bool true, .int .u64 0, .int .u64 0, .slice A4 ((s, 5) :: []).length c4] 35)).heap[w4.heap.size]? = some (.cells #[.bool true, .int .u64 0, .int .u64 0, .slice A4 ((s, 5) :: []).length c4] 35 (0, 0)) := (by repeat (first | exact heap_new _ _ _ (by first | rfl | (simp; done) | (simp; omega)) | refine (Below.heap_alloc _ _ _ (by first | omega | (simp; done) | (simp; omega))).trans ?_))
      have lNt_5 : w4.heap.size < (w4.alloc (.cells #[.bool true, .int .u64 0, .int .u64 0, .slice A4 ((s, 5) :: []).length c4] 35)).heap.size := by simp
      generalize (w4.alloc (.cells #[.bool true, .int .u64 0, .int .u64 0, .slice A4 ((s, 5) :: []).length c4] 35)) = w5 at *
      have hz5 := hb5.size
      (try simp at hz5)
      have rm_5 := (hb5.block _ (by first | omega | (simp; done) | (simp; omega))).trans Rm_4.out
      have rk_5 := (hb5.block _ (by first | omega | (simp; done) | (simp; omega))).trans Rk_4.out
      have Om_5 := Lib.hid (Om_4.out.below (w' := w5) (by repeat (first | with_reducible exact Below.refl _ _ | with_reducible assumption | with_reducible refine Below.drew ?_ | with_reducible refine Below.alloc ?_ (by first | exact Nat.le_refl _ | omega | (simp; done) | (simp; omega)) _ | with_reducible refine Below.setCell ?_ (by first | exact Nat.le_refl _ | omega | (simp; done) | (simp; omega)) _ | (with_reducible refine ext_trans ?_ (by with_reducible assumption)))))
      have Ot_5 := Lib.hid (Ot_4.out.below (w' := w5) (by repeat (first | with_reducible exact Below.refl _ _ | with_reducible assumption | with_reducible refine Below.drew ?_ | with_reducible refine Below.alloc ?_ (by first | exact Nat.le_refl _ | omega | (simp; done) | (simp; omega)) _ | with_reducible refine Below.setCell ?_ (by first | exact Nat.le_refl _ | omega | (simp; done) | (simp; omega)) _ | (with_reducible refine ext_trans ?_ (by with_reducible assumption)))))
      have hw5 : Below w.heap.size w w5 := (by repeat (first | with_reducible exact Below.refl _ _ | with_reducible assumption | with_reducible refine Below.drew ?_ | with_reducible refine Below.alloc ?_ (by first | exact Nat.le_refl _ | omega | (simp; done) | (simp; omega)) _ | with_reducible refine Below.setCell ?_ (by first | exact Nat.le_refl _ | omega | (simp; done) | (simp; omega)) _ | (with_reducible refine ext_trans ?_ (by with_reducible assumption))))
      have lRm_5 : w1.heap.size < w5.heap.size := by omega
      have lRk_5 : w3.heap.size < w5.heap.size := by omega
      have lRt_5 : w4.heap.size < w5.heap.size := by omega
      have Rm_5 := Lib.hid rm_5
      have r0_rm_5 := cell_of_row _ _ 0 _ _ _ rm_5
      have r1_rm_5 := cell_of_row _ _ 1 _ _ _ rm_5
      have r2_rm_5 := cell_of_row _ _ 2 _ _ _ rm_5
      have r3_rm_5 := cell_of_row _ _ 3 _ _ _ rm_5
      have f0_rm_5 := frozen_of_row _ _ 0 _ _ rm_5
      have f1_rm_5 := frozen_of_row _ _ 1 _ _ rm_5
      have f2_rm_5 := frozen_of_row _ _ 2 _ _ rm_5
      have f3_rm_5 := frozen_of_row _ _ 3 _ _ rm_5
      simp at r0_rm_5 r1_rm_5 r2_rm_5 r3_rm_5
      clear rm_5
      have Rk_5 := Lib.hid rk_5
      have r0_rk_5 := cell_of_row _ _ 0 _ _ _ rk_5
      have r1_rk_5 := cell_of_row _ _ 1 _ _ _ rk_5
      have f0_rk_5 := frozen_of_row _ _ 0 _ _ rk_5
      have f1_rk_5 := frozen_of_row _ _ 1 _ _ rk_5
      simp at r0_rk_5 r1_rk_5
      clear rk_5
      have Rt_5 := Lib.hid rt_5
      have r0_rt_5 := cell_of_row _ _ 0 _ _ _ rt_5
      have r1_rt_5 := cell_of_row _ _ 1 _ _ _ rt_5
      have r2_rt_5 := cell_of_row _ _ 2 _ _ _ rt_5
      have r3_rt_5 := cell_of_row _ _ 3 _ _ _ rt_5
      have f0_rt_5 := frozen_of_row _ _ 0 _ _ rt_5
      have f1_rt_5 := frozen_of_row _ _ 1 _ _ rt_5
      have f2_rt_5 := frozen_of_row _ _ 2 _ _ rt_5
      have f3_rt_5 := frozen_of_row _ _ 3 _ _ rt_5
      simp at r0_rt_5 r1_rt_5 r2_rt_5 r3_rt_5
      clear rt_5
      clear r0_rm_4 f0_rm_4 r1_rm_4 f1_rm_4 r2_rm_4 f2_rm_4 r3_rm_4 f3_rm_4
      clear r0_rk_4 f0_rk_4 r1_rk_4 f1_rk_4
      obtain ⟨B, hB⟩ : ∃ B, macB true (uI k) (uI l) [] = B := ⟨_, rfl⟩
      have hm := fun W (h : RdMacRow W (.slice A4 ((s, 5) :: []).length c4) ((s, 5) :: [])) => MacOf_any true 0#64 0#64 (.slice A4 (1) c4) ((s, 5) :: []) s (by omega) (by unfold maxLen; simp; try omega) W h (fun y hy => by rcases List.mem_cons.1 hy with rfl | hy; exact ⟨by simp, by simp⟩; exact HF.out y hy)
      rw [u0, HM.out] at hm
      have HMO := Lib.hid hm
      have k1 := fun W h => MacOk_any true (uI k) (uI l) (.slice none 0 0) [] HRL.out W h HF.out
      rw [hB] at k1
      have HK1 := Lib.hid k1
      have k2 := fun W h => sMacOk_any true (uI k) (uI l) (.slice none 0 0) [] HRL.out W h HF.out
      rw [hB] at k2
      have HK2 := Lib.hid k2
      clear hm k1 k2 hB
      go_wp2_with fail
      go_cut [2] (fun z wx => z = .bool true ∧ Below w5.heap.size w5 wx)
      case first =>
        first | go_region_held3 (fun w' => (∀ b' o, b' < (w5).heap.size → w'.cell? ⟨b', o, none⟩ = (w5).cell? ⟨b', o, none⟩) ∧ Below (w5).heap.size (w5) w') (first | with_reducible assumption | (with_reducible apply rg_keep; rotate_left; with_reducible assumption; with_reducible assumption) | with_reducible exact rg_start _ | with_reducible exact rg_alloc (KeptS.out (by with_reducible assumption)) _ | with_reducible exact rg_alloc (by with_reducible assumption) _ | with_reducible exact rg_start_alloc _ _ | ((repeat (with_reducible refine rg_set ?_ _ (by first | exact Nat.le_refl _ | omega | (simp; done) | (simp; omega)) _)); first | with_reducible exact KeptS.out (by with_reducible assumption) | with_reducible assumption | with_reducible exact rg_alloc (KeptS.out (by with_reducible assumption)) _)) (first | (go_at_call 49; ((with_reducible refine (HMO.out _ (Ot_5.out.below (rgBMacRow (by first | with_reducible assumption | exact KeptS.out (by with_reducible assumption)))).rd).mono ?_); (rintro e wA ⟨rfl, hbA⟩; have hSA := rg_keepK (by first | with_reducible assumption | exact KeptS.out (by with_reducible assumption)) hbA))) | (go_at_call 44; ((with_reducible refine (HK1.out _ (Om_5.out.below (rgBMacRow (by first | with_reducible assumption | exact KeptS.out (by with_reducible assumption)))).rd).mono ?_); (rintro e wB ⟨rfl, hbB⟩; have hSB := rg_keepK (by first | with_reducible assumption | exact KeptS.out (by with_reducible assumption)) hbB))) | (go_at_call 43; ((with_reducible refine (HK2.out _ (Om_5.out.below (rgBMacRow (by first | with_reducible assumption | exact KeptS.out (by with_reducible assumption)))).rd).mono ?_); (rintro e wC ⟨rfl, hbC⟩; have hSC := rg_keepK (by first | with_reducible assumption | exact KeptS.out (by with_reducible assumption)) hbC)))) | fail
        all_goals (go_wp2_with fail; go_meet; exact ⟨by simp, (by assumption : _ ∧ Below w5.heap.size w5 wC).2⟩)
      case rest =>
      obtain ⟨rfl, hb6⟩ := hcut
      rename World => w6
      have hz6 := hb6.size
      (try simp at hz6)
      have rm_6 := (hb6.block _ (by first | omega | (simp; done) | (simp; omega))).trans Rm_5.out
      have rk_6 := (hb6.block _ (by first | omega | (simp; done) | (simp; omega))).trans Rk_5.out
      have rt_6 := (hb6.block _ (by first | omega | (simp; done) | (simp; omega))).trans Rt_5.out
      have Om_6 := Lib.hid (Om_5.out.below (w' := w6) (by repeat (first | with_reducible exact Below.refl _ _ | with_reducible assumption | with_reducible refine Below.drew ?_ | with_reducible refine Below.alloc ?_ (by first | exact Nat.le_refl _ | omega | (simp; done) | (simp; omega)) _ | with_reducible refine Below.setCell ?_ (by first | exact Nat.le_refl _ | omega | (simp; done) | (simp; omega)) _ | (with_reducible refine ext_trans ?_ (by with_reducible assumption)))))
      have Ot_6 := Lib.hid (Ot_5.out.below (w' := w6) (by repeat (first | with_reducible exact Below.refl _ _ | with_reducible assumption | with_reducible refine Below.drew ?_ | with_reducible refine Below.alloc ?_ (by first | exact Nat.le_refl _ | omega | (simp; done) | (simp; omega)) _ | with_reducible refine Below.setCell ?_ (by first | exact Nat.le_refl _ | omega | (simp; done) | (simp; omega)) _ | (with_reducible refine ext_trans ?_ (by with_reducible assumption)))))
      have hw6 : Below w.heap.size w w6 := (by repeat (first | with_reducible exact Below.refl _ _ | with_reducible assumption | with_reducible refine Below.drew ?_ | with_reducible refine Below.alloc ?_ (by first | exact Nat.le_refl _ | omega | (simp; done) | (simp; omega)) _ | with_reducible refine Below.setCell ?_ (by first | exact Nat.le_refl _ | omega | (simp; done) | (simp; omega)) _ | (with_reducible refine ext_trans ?_ (by with_reducible assumption))))
      have lRm_6 : w1.heap.size < w6.heap.size := by omega
      have lRk_6 : w3.heap.size < w6.heap.size := by omega
      have lRt_6 : w4.heap.size < w6.heap.size := by omega
      have Rm_6 := Lib.hid rm_6
      have r0_rm_6 := cell_of_row _ _ 0 _ _ _ rm_6
      have r1_rm_6 := cell_of_row _ _ 1 _ _ _ rm_6
      have r2_rm_6 := cell_of_row _ _ 2 _ _ _ rm_6
      have r3_rm_6 := cell_of_row _ _ 3 _ _ _ rm_6
      have f0_rm_6 := frozen_of_row _ _ 0 _ _ rm_6
      have f1_rm_6 := frozen_of_row _ _ 1 _ _ rm_6
      have f2_rm_6 := frozen_of_row _ _ 2 _ _ rm_6
      have f3_rm_6 := frozen_of_row _ _ 3 _ _ rm_6
      simp at r0_rm_6 r1_rm_6 r2_rm_6 r3_rm_6
      clear rm_6
      have Rk_6 := Lib.hid rk_6
      have r0_rk_6 := cell_of_row _ _ 0 _ _ _ rk_6
      have r1_rk_6 := cell_of_row _ _ 1 _ _ _ rk_6
      have f0_rk_6 := frozen_of_row _ _ 0 _ _ rk_6
      have f1_rk_6 := frozen_of_row _ _ 1 _ _ rk_6
      simp at r0_rk_6 r1_rk_6
      clear rk_6
      have Rt_6 := Lib.hid rt_6
      have r0_rt_6 := cell_of_row _ _ 0 _ _ _ rt_6
      have r1_rt_6 := cell_of_row _ _ 1 _ _ _ rt_6
      have r2_rt_6 := cell_of_row _ _ 2 _ _ _ rt_6
      have r3_rt_6 := cell_of_row _ _ 3 _ _ _ rt_6
      have f0_rt_6 := frozen_of_row _ _ 0 _ _ rt_6
      have f1_rt_6 := frozen_of_row _ _ 1 _ _ rt_6
      have f2_rt_6 := frozen_of_row _ _ 2 _ _ rt_6
      have f3_rt_6 := frozen_of_row _ _ 3 _ _ rt_6
      simp at r0_rt_6 r1_rt_6 r2_rt_6 r3_rt_6
      clear rt_6
      clear r0_rm_5 f0_rm_5 r1_rm_5 f1_rm_5 r2_rm_5 f2_rm_5 r3_rm_5 f3_rm_5
      clear r0_rk_5 f0_rk_5 r1_rk_5 f1_rk_5
      clear r0_rt_5 f0_rt_5 r1_rt_5 f1_rt_5 r2_rt_5 f2_rt_5 r3_rt_5 f3_rt_5
      go_wp2_with fail
      go_ret
      exact ⟨rfl, hw6⟩
    | some ad =>
      clear hcc3
      go_wp2_with (refine wpList_append_own _ (by rfl) (.tmp 45) (.tmp 47) 33 (by rfl) w3.heap.size 69 i0 _ 2 24 Try.underlying33 hi iz0 iz1 iz2 (by rfl) (by omega) (.slice (some ⟨w3.heap.size, 0, none⟩) 1 1) 1 [.string s, .int .i64 5] (by rfl) HO0.out ad rs.length c1 (cellsOf eMacRow rs) (by rfl) ?c2 ?c3 ?c4 ?c5 ?c6 ?c7 ?_)
      case c2 => exact cells_len (m := 2) eMacRow_len rs
      case c3 => exact Om_3.out.rd.newsMacRow (by repeat (first | with_reducible exact Below.refl _ _ | with_reducible assumption | with_reducible refine Below.drew ?_ | with_reducible refine Below.alloc ?_ (by first | exact Nat.le_refl _ | omega | (simp; done) | (simp; omega)) _ | with_reducible refine Below.setCell ?_ (by first | exact Nat.le_refl _ | omega | (simp; done) | (simp; omega)) _ | (with_reducible refine ext_trans ?_ (by with_reducible assumption))))
      case c4 => exact oneMacRow rs
      case c5 => unfold maxLen; omega
      case c6 => omega
      case c7 => simp
      intro v' w4 hown hgr _
      have HL4 : Hid (OwnMacRow w4 w3.heap.size v' ((s, 5) :: rs)) := by
        have h : w4.ownsRow w3.heap.size 69 2 v' (rs.length + 1) (cellsOf eMacRow ((s, 5) :: rs)) := by
          rw [Nat.add_comm]
          exact hown
        exact Lib.hid (.inl h)
      obtain ⟨A4, c4, rfl⟩ : ∃ A c, v' = .slice A (rs.length + 1 : Nat) c := HL4.out.form
      have hb4 : Below w3.heap.size w3 w4 := Below.trans (b := w3.alloc (.cells #[.string s, .int .i64 5] 69)) (by repeat (first | with_reducible exact Below.refl _ _ | with_reducible assumption | with_reducible refine Below.drew ?_ | with_reducible refine Below.alloc ?_ (by first | exact Nat.le_refl _ | omega | (simp; done) | (simp; omega)) _ | with_reducible refine Below.setCell ?_ (by first | exact Nat.le_refl _ | omega | (simp; done) | (simp; omega)) _ | (with_reducible refine ext_trans ?_ (by with_reducible assumption)))) (Below.grown (Below.refl _ _) hgr (by simp) (by simp [Value.ownBlock]))
      clear hown hgr
      have Om_4 := Lib.hid (Om_3.out.below (w' := w4) (by repeat (first | with_reducible exact Below.refl _ _ | with_reducible assumption | with_reducible refine Below.drew ?_ | with_reducible refine Below.alloc ?_ (by first | exact Nat.le_refl _ | omega | (simp; done) | (simp; omega)) _ | with_reducible refine Below.setCell ?_ (by first | exact Nat.le_refl _ | omega | (simp; done) | (simp; omega)) _ | (with_reducible refine ext_trans ?_ (by with_reducible assumption)))))
      have hz4 := hb4.size
      (try simp at hz4)
      have rm_4 := (hb4.block _ (by first | omega | (simp; done) | (simp; omega))).trans Rm_3.out
      have hw4 : Below w.heap.size w w4 := (by repeat (first | with_reducible exact Below.refl _ _ | with_reducible assumption | with_reducible refine Below.drew ?_ | with_reducible refine Below.alloc ?_ (by first | exact Nat.le_refl _ | omega | (simp; done) | (simp; omega)) _ | with_reducible refine Below.setCell ?_ (by first | exact Nat.le_refl _ | omega | (simp; done) | (simp; omega)) _ | (with_reducible refine ext_trans ?_ (by with_reducible assumption))))
      have lRm_4 : w1.heap.size < w4.heap.size := by omega
      have Rm_4 := Lib.hid rm_4
      have r0_rm_4 := cell_of_row _ _ 0 _ _ _ rm_4
      have r1_rm_4 := cell_of_row _ _ 1 _ _ _ rm_4
      have r2_rm_4 := cell_of_row _ _ 2 _ _ _ rm_4
      have r3_rm_4 := cell_of_row _ _ 3 _ _ _ rm_4
      have f0_rm_4 := frozen_of_row _ _ 0 _ _ rm_4
      have f1_rm_4 := frozen_of_row _ _ 1 _ _ rm_4
      have f2_rm_4 := frozen_of_row _ _ 2 _ _ rm_4
      have f3_rm_4 := frozen_of_row _ _ 3 _ _ rm_4
      simp at r0_rm_4 r1_rm_4 r2_rm_4 r3_rm_4
      clear rm_4
      clear r0_rm_3 f0_rm_3 r1_rm_3 f1_rm_3 r2_rm_3 f2_rm_3 r3_rm_3 f3_rm_3
      go_wp2_with fail
      refine (TableMac_any _ ((s, 5) :: rs) (by first | (simp; done) | (simp; omega)) _ HL4.out.rd).mono ?_
      rintro e w5 ⟨v5, rfl, hO5, hb5⟩
      obtain ⟨A5, c5, rfl⟩ := hO5.form
      have Ot_5 := Lib.hid (OwnE.mono (base' := w4.heap.size) hO5 (by first | exact Nat.le_refl _ | (simp; done)))
      have Bt := Ot_5
      have hz5 := hb5.size
      (try simp at hz5)
      have rm_5 := (hb5.block _ (by first | omega | (simp; done) | (simp; omega))).trans Rm_4.out
      have Om_5 := Lib.hid (Om_4.out.below (w' := w5) (by repeat (first | with_reducible exact Below.refl _ _ | with_reducible assumption | with_reducible refine Below.drew ?_ | with_reducible refine Below.alloc ?_ (by first | exact Nat.le_refl _ | omega | (simp; done) | (simp; omega)) _ | with_reducible refine Below.setCell ?_ (by first | exact Nat.le_refl _ | omega | (simp; done) | (simp; omega)) _ | (with_reducible refine ext_trans ?_ (by with_reducible assumption)))))
      have hw5 : Below w.heap.size w w5 := (by repeat (first | with_reducible exact Below.refl _ _ | with_reducible assumption | with_reducible refine Below.drew ?_ | with_reducible refine Below.alloc ?_ (by first | exact Nat.le_refl _ | omega | (simp; done) | (simp; omega)) _ | with_reducible refine Below.setCell ?_ (by first | exact Nat.le_refl _ | omega | (simp; done) | (simp; omega)) _ | (with_reducible refine ext_trans ?_ (by with_reducible assumption))))
      have lRm_5 : w1.heap.size < w5.heap.size := by omega
      have Rm_5 := Lib.hid rm_5
      have r0_rm_5 := cell_of_row _ _ 0 _ _ _ rm_5
      have r1_rm_5 := cell_of_row _ _ 1 _ _ _ rm_5
      have r2_rm_5 := cell_of_row _ _ 2 _ _ _ rm_5
      have r3_rm_5 := cell_of_row _ _ 3 _ _ _ rm_5
      have f0_rm_5 := frozen_of_row _ _ 0 _ _ rm_5
      have f1_rm_5 := frozen_of_row _ _ 1 _ _ rm_5
      have f2_rm_5 := frozen_of_row _ _ 2 _ _ rm_5
      have f3_rm_5 := frozen_of_row _ _ 3 _ _ rm_5
      simp at r0_rm_5 r1_rm_5 r2_rm_5 r3_rm_5
      clear rm_5
      clear r0_rm_4 f0_rm_4 r1_rm_4 f1_rm_4 r2_rm_4 f2_rm_4 r3_rm_4 f3_rm_4
      go_wp2_with fail
      have hb6 : Below w5.heap.size w5 (w5.alloc (.cells #[.bool true, .int .u64 0, .int .u64 0, .slice A5 ((s, 5) :: rs).length c5] 35)) := (by repeat (first | with_reducible exact Below.refl _ _ | with_reducible assumption | with_reducible refine Below.drew ?_ | with_reducible refine Below.alloc ?_ (by first | exact Nat.le_refl _ | omega | (simp; done) | (simp; omega)) _ | with_reducible refine Below.setCell ?_ (by first | exact Nat.le_refl _ | omega | (simp; done) | (simp; omega)) _ | (with_reducible refine ext_trans ?_ (by with_reducible assumption))))
      have rt_6 : (w5.alloc (.cells #[.bool true, .int .u64 0, .int .u64 0, .slice A5 ((s, 5) :: rs).length c5] 35)).heap[w5.heap.size]? = some (.cells #[.bool true, .int .u64 0, .int .u64 0, .slice A5 ((s, 5) :: rs).length c5] 35 (0, 0)) := (by repeat (first | exact heap_new _ _ _ (by first | rfl | (simp; done) | (simp; omega)) | refine (Below.heap_alloc _ _ _ (by first | omega | (simp; done) | (simp; omega))).trans ?_))
      have lNt_6 : w5.heap.size < (w5.alloc (.cells #[.bool true, .int .u64 0, .int .u64 0, .slice A5 ((s, 5) :: rs).length c5] 35)).heap.size := by simp
      generalize (w5.alloc (.cells #[.bool true, .int .u64 0, .int .u64 0, .slice A5 ((s, 5) :: rs).length c5] 35)) = w6 at *
      have hz6 := hb6.size
      (try simp at hz6)
      have rm_6 := (hb6.block _ (by first | omega | (simp; done) | (simp; omega))).trans Rm_5.out
      have Om_6 := Lib.hid (Om_5.out.below (w' := w6) (by repeat (first | with_reducible exact Below.refl _ _ | with_reducible assumption | with_reducible refine Below.drew ?_ | with_reducible refine Below.alloc ?_ (by first | exact Nat.le_refl _ | omega | (simp; done) | (simp; omega)) _ | with_reducible refine Below.setCell ?_ (by first | exact Nat.le_refl _ | omega | (simp; done) | (simp; omega)) _ | (with_reducible refine ext_trans ?_ (by with_reducible assumption)))))
      have Ot_6 := Lib.hid (Ot_5.out.below (w' := w6) (by repeat (first | with_reducible exact Below.refl _ _ | with_reducible assumption | with_reducible refine Below.drew ?_ | with_reducible refine Below.alloc ?_ (by first | exact Nat.le_refl _ | omega | (simp; done) | (simp; omega)) _ | with_reducible refine Below.setCell ?_ (by first | exact Nat.le_refl _ | omega | (simp; done) | (simp; omega)) _ | (with_reducible refine ext_trans ?_ (by with_reducible assumption)))))
      have hw6 : Below w.heap.size w w6 := (by repeat (first | with_reducible exact Below.refl _ _ | with_reducible assumption | with_reducible refine Below.drew ?_ | with_reducible refine Below.alloc ?_ (by first | exact Nat.le_refl _ | omega | (simp; done) | (simp; omega)) _ | with_reducible refine Below.setCell ?_ (by first | exact Nat.le_refl _ | omega | (simp; done) | (simp; omega)) _ | (with_reducible refine ext_trans ?_ (by with_reducible assumption))))
      have lRm_6 : w1.heap.size < w6.heap.size := by omega
      have lRt_6 : w5.heap.size < w6.heap.size := by omega
      have Rm_6 := Lib.hid rm_6
      have r0_rm_6 := cell_of_row _ _ 0 _ _ _ rm_6
      have r1_rm_6 := cell_of_row _ _ 1 _ _ _ rm_6
      have r2_rm_6 := cell_of_row _ _ 2 _ _ _ rm_6
      have r3_rm_6 := cell_of_row _ _ 3 _ _ _ rm_6
      have f0_rm_6 := frozen_of_row _ _ 0 _ _ rm_6
      have f1_rm_6 := frozen_of_row _ _ 1 _ _ rm_6
      have f2_rm_6 := frozen_of_row _ _ 2 _ _ rm_6
      have f3_rm_6 := frozen_of_row _ _ 3 _ _ rm_6
      simp at r0_rm_6 r1_rm_6 r2_rm_6 r3_rm_6
      clear rm_6
      have Rt_6 := Lib.hid rt_6
      have r0_rt_6 := cell_of_row _ _ 0 _ _ _ rt_6
      have r1_rt_6 := cell_of_row _ _ 1 _ _ _ rt_6
      have r2_rt_6 := cell_of_row _ _ 2 _ _ _ rt_6
      have r3_rt_6 := cell_of_row _ _ 3 _ _ _ rt_6
      have f0_rt_6 := frozen_of_row _ _ 0 _ _ rt_6
      have f1_rt_6 := frozen_of_row _ _ 1 _ _ rt_6
      have f2_rt_6 := frozen_of_row _ _ 2 _ _ rt_6
      have f3_rt_6 := frozen_of_row _ _ 3 _ _ rt_6
      simp at r0_rt_6 r1_rt_6 r2_rt_6 r3_rt_6
      clear rt_6
      clear r0_rm_5 f0_rm_5 r1_rm_5 f1_rm_5 r2_rm_5 f2_rm_5 r3_rm_5 f3_rm_5
      obtain ⟨B, hB⟩ : ∃ B, macB true (uI k) (uI l) rs = B := ⟨_, rfl⟩
      have hm := fun W (h : RdMacRow W (.slice A5 ((s, 5) :: rs).length c5) ((s, 5) :: rs)) => MacOf_any true 0#64 0#64 (.slice A5 (rs.length + 1) c5) ((s, 5) :: rs) s (by omega) (by unfold maxLen; simp; try omega) W h (fun y hy => by rcases List.mem_cons.1 hy with rfl | hy; exact ⟨by simp, by simp⟩; exact HF.out y hy)
      rw [u0, HM.out] at hm
      have HMO := Lib.hid hm
      have k1 := fun W h => MacOk_any true (uI k) (uI l) (.slice (some ad) rs.length c1) rs HRL.out W h HF.out
      rw [hB] at k1
      have HK1 := Lib.hid k1
      have k2 := fun W h => sMacOk_any true (uI k) (uI l) (.slice (some ad) rs.length c1) rs HRL.out W h HF.out
      rw [hB] at k2
      have HK2 := Lib.hid k2
      clear hm k1 k2 hB
      go_wp2_with fail
      go_cut [2] (fun z wx => z = .bool true ∧ Below w6.heap.size w6 wx)
      case first =>
        first | go_region_held3 (fun w' => (∀ b' o, b' < (w6).heap.size → w'.cell? ⟨b', o, none⟩ = (w6).cell? ⟨b', o, none⟩) ∧ Below (w6).heap.size (w6) w') (first | with_reducible assumption | (with_reducible apply rg_keep; rotate_left; with_reducible assumption; with_reducible assumption) | with_reducible exact rg_start _ | with_reducible exact rg_alloc (KeptS.out (by with_reducible assumption)) _ | with_reducible exact rg_alloc (by with_reducible assumption) _ | with_reducible exact rg_start_alloc _ _ | ((repeat (with_reducible refine rg_set ?_ _ (by first | exact Nat.le_refl _ | omega | (simp; done) | (simp; omega)) _)); first | with_reducible exact KeptS.out (by with_reducible assumption) | with_reducible assumption | with_reducible exact rg_alloc (KeptS.out (by with_reducible assumption)) _)) (first | (go_at_call 49; ((with_reducible refine (HMO.out _ (Ot_6.out.below (rgBMacRow (by first | with_reducible assumption | exact KeptS.out (by with_reducible assumption)))).rd).mono ?_); (rintro e wA ⟨rfl, hbA⟩; have hSA := rg_keepK (by first | with_reducible assumption | exact KeptS.out (by with_reducible assumption)) hbA))) | (go_at_call 44; ((with_reducible refine (HK1.out _ (Om_6.out.below (rgBMacRow (by first | with_reducible assumption | exact KeptS.out (by with_reducible assumption)))).rd).mono ?_); (rintro e wB ⟨rfl, hbB⟩; have hSB := rg_keepK (by first | with_reducible assumption | exact KeptS.out (by with_reducible assumption)) hbB))) | (go_at_call 43; ((with_reducible refine (HK2.out _ (Om_6.out.below (rgBMacRow (by first | with_reducible assumption | exact KeptS.out (by with_reducible assumption)))).rd).mono ?_); (rintro e wC ⟨rfl, hbC⟩; have hSC := rg_keepK (by first | with_reducible assumption | exact KeptS.out (by with_reducible assumption)) hbC)))) | fail
        all_goals (go_wp2_with fail; go_meet; exact ⟨by simp, (by assumption : _ ∧ Below w6.heap.size w6 wC).2⟩)
      case rest =>
      obtain ⟨rfl, hb7⟩ := hcut
      rename World => w7
      have hz7 := hb7.size
      (try simp at hz7)
      have rm_7 := (hb7.block _ (by first | omega | (simp; done) | (simp; omega))).trans Rm_6.out
      have rt_7 := (hb7.block _ (by first | omega | (simp; done) | (simp; omega))).trans Rt_6.out
      have Om_7 := Lib.hid (Om_6.out.below (w' := w7) (by repeat (first | with_reducible exact Below.refl _ _ | with_reducible assumption | with_reducible refine Below.drew ?_ | with_reducible refine Below.alloc ?_ (by first | exact Nat.le_refl _ | omega | (simp; done) | (simp; omega)) _ | with_reducible refine Below.setCell ?_ (by first | exact Nat.le_refl _ | omega | (simp; done) | (simp; omega)) _ | (with_reducible refine ext_trans ?_ (by with_reducible assumption)))))
      have Ot_7 := Lib.hid (Ot_6.out.below (w' := w7) (by repeat (first | with_reducible exact Below.refl _ _ | with_reducible assumption | with_reducible refine Below.drew ?_ | with_reducible refine Below.alloc ?_ (by first | exact Nat.le_refl _ | omega | (simp; done) | (simp; omega)) _ | with_reducible refine Below.setCell ?_ (by first | exact Nat.le_refl _ | omega | (simp; done) | (simp; omega)) _ | (with_reducible refine ext_trans ?_ (by with_reducible assumption)))))
      have hw7 : Below w.heap.size w w7 := (by repeat (first | with_reducible exact Below.refl _ _ | with_reducible assumption | with_reducible refine Below.drew ?_ | with_reducible refine Below.alloc ?_ (by first | exact Nat.le_refl _ | omega | (simp; done) | (simp; omega)) _ | with_reducible refine Below.setCell ?_ (by first | exact Nat.le_refl _ | omega | (simp; done) | (simp; omega)) _ | (with_reducible refine ext_trans ?_ (by with_reducible assumption))))
      have lRm_7 : w1.heap.size < w7.heap.size := by omega
      have lRt_7 : w5.heap.size < w7.heap.size := by omega
      have Rm_7 := Lib.hid rm_7
      have r0_rm_7 := cell_of_row _ _ 0 _ _ _ rm_7
      have r1_rm_7 := cell_of_row _ _ 1 _ _ _ rm_7
      have r2_rm_7 := cell_of_row _ _ 2 _ _ _ rm_7
      have r3_rm_7 := cell_of_row _ _ 3 _ _ _ rm_7
      have f0_rm_7 := frozen_of_row _ _ 0 _ _ rm_7
      have f1_rm_7 := frozen_of_row _ _ 1 _ _ rm_7
      have f2_rm_7 := frozen_of_row _ _ 2 _ _ rm_7
      have f3_rm_7 := frozen_of_row _ _ 3 _ _ rm_7
      simp at r0_rm_7 r1_rm_7 r2_rm_7 r3_rm_7
      clear rm_7
      have Rt_7 := Lib.hid rt_7
      have r0_rt_7 := cell_of_row _ _ 0 _ _ _ rt_7
      have r1_rt_7 := cell_of_row _ _ 1 _ _ _ rt_7
      have r2_rt_7 := cell_of_row _ _ 2 _ _ _ rt_7
      have r3_rt_7 := cell_of_row _ _ 3 _ _ _ rt_7
      have f0_rt_7 := frozen_of_row _ _ 0 _ _ rt_7
      have f1_rt_7 := frozen_of_row _ _ 1 _ _ rt_7
      have f2_rt_7 := frozen_of_row _ _ 2 _ _ rt_7
      have f3_rt_7 := frozen_of_row _ _ 3 _ _ rt_7
      simp at r0_rt_7 r1_rt_7 r2_rt_7 r3_rt_7
      clear rt_7
      clear r0_rm_6 f0_rm_6 r1_rm_6 f1_rm_6 r2_rm_6 f2_rm_6 r3_rm_6 f3_rm_6
      clear r0_rt_6 f0_rt_6 r1_rt_6 f1_rt_6 r2_rt_6 f2_rt_6 r3_rt_6 f3_rt_6
      go_wp2_with fail
      go_ret
      exact ⟨rfl, hw7⟩

set_option maxRecDepth 100000 in
theorem FnMac_lifted (os : Os) (started : os.Started) (H : Type) (enc : TypeId × Value → H) :
    ReturnsInHanded {} Try.checked os 14 .any (Rows.fnMacSpec.pre6 enc Try.prog Try.f14 Rows.fnMacRow.domain false) (Rows.fnMacSpec.post enc Try.prog Try.f14 false true false false) := by
  refine law_lifted (C := Try.checked) own_ started (by kernel_rfl) Try.func14 laid_ rfl ?_ ?_ rfl Try.underlying4
    (ChangeSpec.witness6 (enc := enc) (C := Try.checked) false ⟨#[], #[.slice none 0 0], []⟩ 8 (by kernel_rfl) (by kernel_rfl) (by kernel_rfl) (by kernel_rfl)) ?_
  · intro ds h
    match ds, h with
    | [_], _ => rfl
  · intro t ht
    rw [Try.params14] at ht
    simp at ht
    subst ht
    exact ⟨by kernel_rfl, of_decide_eq_true (by kernel_rfl)⟩
  · intro W base args ds p hval hA hlt
    have hval : ∀ (j : Nat) t v, Try.f14.params[j]? = some t → args[j]? = some v → Value.okWide Try.prog W .any base t v := hval
    have hA : DataW.TrodAll enc Try.prog W 0 (fun _ => true) true Try.f14.params.toList args.toList ds p := hA
    rw [Try.params14] at hA hval
    obtain ⟨v0, d0, rfl, rfl, h0⟩ := trodAll_one hA
    obtain ⟨Aa, na, ca, rfl, wna, wba, wca⟩ := open_bytes (hval 0 48 v0 rfl rfl) h0
    exact FnMac_walk wna W wba

theorem FnMac_holds : Rows.FnMacSaid :=
  OpenClaim.holds_of_wide 14 Try.f14 rfl rfl rfl rfl rfl rfl rfl ⟨rfl, rfl, rfl, rfl, rfl⟩ rfl rfl rfl rfl rfl (by kernel_rfl) Try.func14 (by kernel_rfl)
    (of_decide_eq_true (by kernel_rfl)) (by have hw := wrap_ (P := Try.prog) (fn := Try.f14) (by kernel_rfl); exact hw)
    (fun os started H enc _ => FnMac_lifted os started H enc)
end Go.Proofs.Ytondhgmlemgoaaa
