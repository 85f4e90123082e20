/-
  The law FnCookieOnly returns true for every input. No condition.
-/
import Derived.Test.YtjlnbjabehpncaaKdc
import Derived.Test.YtjlnbjabehpncaaCkl
import Derived.Test.YtjlnbjabehpncaaReg
import Derived.Test.YtjlnbjabehpncaaBytes
import Derived.Deep.DeepCutAuto
import Derived.Deep.RegionHeld3
import Derived.IntWalk
namespace Go.Proofs.Ytjlnbjabehpncaa
set_option maxRecDepth 100000
open Go.ChangeShapes Go.WideShapes Go.ChangeAt Go.RowKit Go.Deep

set_option maxHeartbeats 16000000 in
theorem FnCookieOnly_walk {A : Option Addr} {n c : Nat} (hn : n ≤ maxLen) (w : World) (hb : Byts w w.heap.size A n) :
    Calls Try.prog 4 #[.slice A n c] w fun e w' => e = .returned (.bool true) ∧ Below w.heap.size w w' := by
  have hlen := hn
  unfold maxLen at hlen
  by_cases hbig : (1048576 : Int) < n
  · go_enter Try.func4, Try.ntmps4
    go_wp2_with fail
    refine (big_any hn _).mono ?_
    rintro e w' ⟨rfl, rfl⟩
    go_wp2_with fail
    go_ret
    exact ⟨rfl, Below.refl _ _⟩
  go_enter Try.func4, Try.ntmps4
  go_wp2_with fail
  refine (big_any hn _).mono ?_
  rintro e w' ⟨rfl, rfl⟩
  go_wp2_with fail
  refine (DrawCheckCookie_any hn hb).mono ?_
  rintro e w1 ⟨x, v1, v2, ta, tb, tc, sq, ck, rfl, hO1, hO2, hf1, hf2, ⟨he1, he2⟩, hsq, hck, hb1⟩
  obtain ⟨A1, c1, rfl⟩ := hO1.form
  obtain ⟨A2, c2, rfl⟩ := hO2.form
  have Ok1_1 := Lib.hid hO1
  have Ok2_1 := Lib.hid hO2
  have G1 := Lib.hid (fit_fits hf1)
  have G2 := Lib.hid (fit_fits hf2)
  have P1 := Lib.hid (fit_len hf1)
  have P2 := Lib.hid (fit_len hf2)
  have HF1 := Lib.hid hf1
  have HF2 := Lib.hid hf2
  clear hO1 hO2 hf1 hf2 hb hsq hck
  have hz1 := hb1.size
  have hw1 : Below w.heap.size w w1 := (by repeat (first | with_reducible exact Below.refl _ _ | with_reducible assumption | with_reducible refine Below.drew ?_ | with_reducible refine Below.alloc ?_ (by first | exact Nat.le_refl _ | omega | (simp; done) | (simp; omega)) _ | with_reducible refine Below.setCell ?_ (by first | exact Nat.le_refl _ | omega | (simp; done) | (simp; omega)) _ | (with_reducible refine ext_trans ?_ (by with_reducible assumption))))
  obtain ⟨⟨r1, r2, r3⟩, hR⟩ : ∃ R, checkR x ta tb tc sq ck = R := ⟨_, rfl⟩
  have q1 := fun W v1 v2 h1 h2 => CheckCookie_any x v1 v2 ta tb tc sq ck G1.out G2.out P1.out P2.out W h1 h2
  rw [hR] at q1
  dsimp only [vCk] at q1
  have Q1 := Lib.hid q1
  have q2 := fun W v1 v2 h1 h2 => sCheckCookie_any x v1 v2 ta tb tc sq ck G1.out G2.out P1.out P2.out W h1 h2
  rw [hR] at q2
  dsimp only [vCk] at q2
  have Q2 := Lib.hid q2
  have HR := Lib.hid hR
  clear q1 q2 hR
  go_wp2_with fail
  refine (Q1.out _ _ _ (Ok1_1.out.below (by repeat (first | with_reducible exact Below.refl _ _ | with_reducible assumption | with_reducible refine Below.drew ?_ | with_reducible refine Below.alloc ?_ (by first | exact Nat.le_refl _ | omega | (simp; done) | (simp; omega)) _ | with_reducible refine Below.setCell ?_ (by first | exact Nat.le_refl _ | omega | (simp; done) | (simp; omega)) _ | (with_reducible refine ext_trans ?_ (by with_reducible assumption))))).rd (Ok2_1.out.below (by repeat (first | with_reducible exact Below.refl _ _ | with_reducible assumption | with_reducible refine Below.drew ?_ | with_reducible refine Below.alloc ?_ (by first | exact Nat.le_refl _ | omega | (simp; done) | (simp; omega)) _ | with_reducible refine Below.setCell ?_ (by first | exact Nat.le_refl _ | omega | (simp; done) | (simp; omega)) _ | (with_reducible refine ext_trans ?_ (by with_reducible assumption))))).rd).mono ?_
  rintro e w2 ⟨rfl, hb2⟩
  have hz2 := hb2.size
  (try simp at hz2)
  have rk_2 : w2.heap[w1.heap.size]? = some (.cells #[.int .i64 x.ep, .bool x.now.u, .int .u64 (uI x.now.k), .int .u64 (uI x.now.l), .slice A1 x.now.rs.length c1, .bool x.bef.u, .int .u64 (uI x.bef.k), .int .u64 (uI x.bef.l), .slice A2 x.bef.rs.length c2, .bool x.two] 29 (0, 0)) := (hb2.block _ (by first | (simp; done) | (simp; omega))).trans (by repeat (first | exact heap_new _ _ _ (by first | rfl | (simp; done) | (simp; omega)) | refine (Below.heap_alloc _ _ _ (by first | omega | (simp; done) | (simp; omega))).trans ?_))
  have rt_2 : w2.heap[w1.heap.size + 1]? = some (.cells #[.int .i64 ta, .int .i64 tb, .int .i64 tc] 33 (0, 0)) := (hb2.block _ (by first | (simp; done) | (simp; omega))).trans (by repeat (first | exact heap_new _ _ _ (by first | rfl | (simp; done) | (simp; omega)) | refine (Below.heap_alloc _ _ _ (by first | omega | (simp; done) | (simp; omega))).trans ?_))
  have Ok1_2 := Lib.hid (Ok1_1.out.below (w' := w2) (by repeat (first | with_reducible exact Below.refl _ _ | with_reducible assumption | with_reducible refine Below.drew ?_ | with_reducible refine Below.alloc ?_ (by first | exact Nat.le_refl _ | omega | (simp; done) | (simp; omega)) _ | with_reducible refine Below.setCell ?_ (by first | exact Nat.le_refl _ | omega | (simp; done) | (simp; omega)) _ | (with_reducible refine ext_trans ?_ (by with_reducible assumption)))))
  have Ok2_2 := Lib.hid (Ok2_1.out.below (w' := w2) (by repeat (first | with_reducible exact Below.refl _ _ | with_reducible assumption | with_reducible refine Below.drew ?_ | with_reducible refine Below.alloc ?_ (by first | exact Nat.le_refl _ | omega | (simp; done) | (simp; omega)) _ | with_reducible refine Below.setCell ?_ (by first | exact Nat.le_refl _ | omega | (simp; done) | (simp; omega)) _ | (with_reducible refine ext_trans ?_ (by with_reducible assumption)))))
  have hw2 : Below w.heap.size w w2 := (by repeat (first | with_reducible exact Below.refl _ _ | with_reducible assumption | with_reducible refine Below.drew ?_ | with_reducible refine Below.alloc ?_ (by first | exact Nat.le_refl _ | omega | (simp; done) | (simp; omega)) _ | with_reducible refine Below.setCell ?_ (by first | exact Nat.le_refl _ | omega | (simp; done) | (simp; omega)) _ | (with_reducible refine ext_trans ?_ (by with_reducible assumption))))
  have lRk_2 : w1.heap.size < w2.heap.size := by omega
  have lRt_2 : w1.heap.size + 1 < w2.heap.size := by omega
  have Rk_2 := Lib.hid rk_2
  have r0_rk_2 := cell_of_row _ _ 0 _ _ _ rk_2
  have r1_rk_2 := cell_of_row _ _ 1 _ _ _ rk_2
  have r2_rk_2 := cell_of_row _ _ 2 _ _ _ rk_2
  have r3_rk_2 := cell_of_row _ _ 3 _ _ _ rk_2
  have r4_rk_2 := cell_of_row _ _ 4 _ _ _ rk_2
  have r5_rk_2 := cell_of_row _ _ 5 _ _ _ rk_2
  have r6_rk_2 := cell_of_row _ _ 6 _ _ _ rk_2
  have r7_rk_2 := cell_of_row _ _ 7 _ _ _ rk_2
  have r8_rk_2 := cell_of_row _ _ 8 _ _ _ rk_2
  have r9_rk_2 := cell_of_row _ _ 9 _ _ _ rk_2
  have f0_rk_2 := frozen_of_row _ _ 0 _ _ rk_2
  have f1_rk_2 := frozen_of_row _ _ 1 _ _ rk_2
  have f2_rk_2 := frozen_of_row _ _ 2 _ _ rk_2
  have f3_rk_2 := frozen_of_row _ _ 3 _ _ rk_2
  have f4_rk_2 := frozen_of_row _ _ 4 _ _ rk_2
  have f5_rk_2 := frozen_of_row _ _ 5 _ _ rk_2
  have f6_rk_2 := frozen_of_row _ _ 6 _ _ rk_2
  have f7_rk_2 := frozen_of_row _ _ 7 _ _ rk_2
  have f8_rk_2 := frozen_of_row _ _ 8 _ _ rk_2
  have f9_rk_2 := frozen_of_row _ _ 9 _ _ rk_2
  simp at r0_rk_2 r1_rk_2 r2_rk_2 r3_rk_2 r4_rk_2 r5_rk_2 r6_rk_2 r7_rk_2 r8_rk_2 r9_rk_2
  clear rk_2
  have Rt_2 := Lib.hid rt_2
  have r0_rt_2 := cell_of_row _ _ 0 _ _ _ rt_2
  have r1_rt_2 := cell_of_row _ _ 1 _ _ _ rt_2
  have r2_rt_2 := cell_of_row _ _ 2 _ _ _ rt_2
  have f0_rt_2 := frozen_of_row _ _ 0 _ _ rt_2
  have f1_rt_2 := frozen_of_row _ _ 1 _ _ rt_2
  have f2_rt_2 := frozen_of_row _ _ 2 _ _ rt_2
  simp at r0_rt_2 r1_rt_2 r2_rt_2
  clear rt_2
  go_wp2_with fail
  refine (Q2.out _ _ _ (Ok1_2.out.below (by repeat (first | with_reducible exact Below.refl _ _ | with_reducible assumption | with_reducible refine Below.drew ?_ | with_reducible refine Below.alloc ?_ (by first | exact Nat.le_refl _ | omega | (simp; done) | (simp; omega)) _ | with_reducible refine Below.setCell ?_ (by first | exact Nat.le_refl _ | omega | (simp; done) | (simp; omega)) _ | (with_reducible refine ext_trans ?_ (by with_reducible assumption))))).rd (Ok2_2.out.below (by repeat (first | with_reducible exact Below.refl _ _ | with_reducible assumption | with_reducible refine Below.drew ?_ | with_reducible refine Below.alloc ?_ (by first | exact Nat.le_refl _ | omega | (simp; done) | (simp; omega)) _ | with_reducible refine Below.setCell ?_ (by first | exact Nat.le_refl _ | omega | (simp; done) | (simp; omega)) _ | (with_reducible refine ext_trans ?_ (by with_reducible assumption))))).rd).mono ?_
  rintro e w3 ⟨rfl, hb3⟩
  have hz3 := hb3.size
  (try simp at hz3)
  have rk_3 := (hb3.block _ (by first | omega | (simp; done) | (simp; omega))).trans Rk_2.out
  have rt_3 := (hb3.block _ (by first | omega | (simp; done) | (simp; omega))).trans Rt_2.out
  have Ok1_3 := Lib.hid (Ok1_2.out.below (w' := w3) (by repeat (first | with_reducible exact Below.refl _ _ | with_reducible assumption | with_reducible refine Below.drew ?_ | with_reducible refine Below.alloc ?_ (by first | exact Nat.le_refl _ | omega | (simp; done) | (simp; omega)) _ | with_reducible refine Below.setCell ?_ (by first | exact Nat.le_refl _ | omega | (simp; done) | (simp; omega)) _ | (with_reducible refine ext_trans ?_ (by with_reducible assumption)))))
  have Ok2_3 := Lib.hid (Ok2_2.out.below (w' := w3) (by repeat (first | with_reducible exact Below.refl _ _ | with_reducible assumption | with_reducible refine Below.drew ?_ | with_reducible refine Below.alloc ?_ (by first | exact Nat.le_refl _ | omega | (simp; done) | (simp; omega)) _ | with_reducible refine Below.setCell ?_ (by first | exact Nat.le_refl _ | omega | (simp; done) | (simp; omega)) _ | (with_reducible refine ext_trans ?_ (by with_reducible assumption)))))
  have hw3 : Below w.heap.size w w3 := (by repeat (first | with_reducible exact Below.refl _ _ | with_reducible assumption | with_reducible refine Below.drew ?_ | with_reducible refine Below.alloc ?_ (by first | exact Nat.le_refl _ | omega | (simp; done) | (simp; omega)) _ | with_reducible refine Below.setCell ?_ (by first | exact Nat.le_refl _ | omega | (simp; done) | (simp; omega)) _ | (with_reducible refine ext_trans ?_ (by with_reducible assumption))))
  have lRk_3 : w1.heap.size < w3.heap.size := by omega
  have lRt_3 : w1.heap.size + 1 < w3.heap.size := by omega
  have Rk_3 := Lib.hid rk_3
  have r0_rk_3 := cell_of_row _ _ 0 _ _ _ rk_3
  have r1_rk_3 := cell_of_row _ _ 1 _ _ _ rk_3
  have r2_rk_3 := cell_of_row _ _ 2 _ _ _ rk_3
  have r3_rk_3 := cell_of_row _ _ 3 _ _ _ rk_3
  have r4_rk_3 := cell_of_row _ _ 4 _ _ _ rk_3
  have r5_rk_3 := cell_of_row _ _ 5 _ _ _ rk_3
  have r6_rk_3 := cell_of_row _ _ 6 _ _ _ rk_3
  have r7_rk_3 := cell_of_row _ _ 7 _ _ _ rk_3
  have r8_rk_3 := cell_of_row _ _ 8 _ _ _ rk_3
  have r9_rk_3 := cell_of_row _ _ 9 _ _ _ rk_3
  have f0_rk_3 := frozen_of_row _ _ 0 _ _ rk_3
  have f1_rk_3 := frozen_of_row _ _ 1 _ _ rk_3
  have f2_rk_3 := frozen_of_row _ _ 2 _ _ rk_3
  have f3_rk_3 := frozen_of_row _ _ 3 _ _ rk_3
  have f4_rk_3 := frozen_of_row _ _ 4 _ _ rk_3
  have f5_rk_3 := frozen_of_row _ _ 5 _ _ rk_3
  have f6_rk_3 := frozen_of_row _ _ 6 _ _ rk_3
  have f7_rk_3 := frozen_of_row _ _ 7 _ _ rk_3
  have f8_rk_3 := frozen_of_row _ _ 8 _ _ rk_3
  have f9_rk_3 := frozen_of_row _ _ 9 _ _ rk_3
  simp at r0_rk_3 r1_rk_3 r2_rk_3 r3_rk_3 r4_rk_3 r5_rk_3 r6_rk_3 r7_rk_3 r8_rk_3 r9_rk_3
  clear rk_3
  have Rt_3 := Lib.hid rt_3
  have r0_rt_3 := cell_of_row _ _ 0 _ _ _ rt_3
  have r1_rt_3 := cell_of_row _ _ 1 _ _ _ rt_3
  have r2_rt_3 := cell_of_row _ _ 2 _ _ _ rt_3
  have f0_rt_3 := frozen_of_row _ _ 0 _ _ rt_3
  have f1_rt_3 := frozen_of_row _ _ 1 _ _ rt_3
  have f2_rt_3 := frozen_of_row _ _ 2 _ _ rt_3
  simp at r0_rt_3 r1_rt_3 r2_rt_3
  clear rt_3
  clear r0_rk_2 f0_rk_2 r1_rk_2 f1_rk_2 r2_rk_2 f2_rk_2 r3_rk_2 f3_rk_2 r4_rk_2 f4_rk_2 r5_rk_2 f5_rk_2 r6_rk_2 f6_rk_2 r7_rk_2 f7_rk_2 r8_rk_2 f8_rk_2 r9_rk_2 f9_rk_2
  clear r0_rt_2 f0_rt_2 r1_rt_2 f1_rt_2 r2_rt_2 f2_rt_2
  cases r3
  case false =>
    obtain ⟨rfl, rfl⟩ := check_not HR.out
    go_wp2_with fail
    go_ret
    exact ⟨by simp, hw3⟩
  case true =>
    obtain ⟨hok, m, hsec, hwh, hck⟩ := check_only HR.out
    obtain ⟨hx1, hx2, -⟩ := RKeys.ok_bd hok
    have hr1 : -1 ≤ r1 ∧ r1 ≤ 4294967295 := by rcases hwh with h | ⟨h, -⟩ <;> omega
    obtain ⟨hr1, hr2⟩ := hr1
    have hfm : fitRows m.rs := by
      have := secret_fit (ep := r1) HF1.out HF2.out
      rw [hsec] at this
      exact this
    have GM := Lib.hid (fit_fits hfm)
    have q3 := fun W v1 v2 h1 h2 => SecretOf_any x v1 v2 r1 P1.out P2.out ⟨by omega, by omega⟩ ⟨by omega, by omega⟩ W h1 h2
    simp only [hsec, Option.getD_some, Option.isSome_some] at q3
    have Q3 := Lib.hid q3
    have q4 := fun W v h => CookieOf_any m v ta tb tc sq r1 r2 GM.out W h
    rw [hck] at q4
    have Q4 := Lib.hid q4
    have q5 := fun W v h => sCookieOf_any m v ta tb tc sq r1 r2 GM.out W h
    rw [hck] at q5
    have Q5 := Lib.hid q5
    clear q3 q4 q5 hsec hck hfm hok
    go_wp2_with fail
    refine (Q3.out _ _ _ (Ok1_3.out.below (by repeat (first | with_reducible exact Below.refl _ _ | with_reducible assumption | with_reducible refine Below.drew ?_ | with_reducible refine Below.alloc ?_ (by first | exact Nat.le_refl _ | omega | (simp; done) | (simp; omega)) _ | with_reducible refine Below.setCell ?_ (by first | exact Nat.le_refl _ | omega | (simp; done) | (simp; omega)) _ | (with_reducible refine ext_trans ?_ (by with_reducible assumption))))).rd (Ok2_3.out.below (by repeat (first | with_reducible exact Below.refl _ _ | with_reducible assumption | with_reducible refine Below.drew ?_ | with_reducible refine Below.alloc ?_ (by first | exact Nat.le_refl _ | omega | (simp; done) | (simp; omega)) _ | with_reducible refine Below.setCell ?_ (by first | exact Nat.le_refl _ | omega | (simp; done) | (simp; omega)) _ | (with_reducible refine ext_trans ?_ (by with_reducible assumption))))).rd).mono ?_
    rintro e w4 ⟨v4, rfl, hO4, hb4⟩
    obtain ⟨D1, d1, rfl⟩ := hO4.form
    have Om1_4 := Lib.hid (OwnE.mono (base' := w3.heap.size) hO4 (by first | exact Nat.le_refl _ | (simp; done)))
    have Bm1 := Om1_4
    have hz4 := hb4.size
    (try simp at hz4)
    have rk_4 := (hb4.block _ (by first | omega | (simp; done) | (simp; omega))).trans Rk_3.out
    have rt_4 := (hb4.block _ (by first | omega | (simp; done) | (simp; omega))).trans Rt_3.out
    have Ok1_4 := Lib.hid (Ok1_3.out.below (w' := w4) (by repeat (first | with_reducible exact Below.refl _ _ | with_reducible assumption | with_reducible refine Below.drew ?_ | with_reducible refine Below.alloc ?_ (by first | exact Nat.le_refl _ | omega | (simp; done) | (simp; omega)) _ | with_reducible refine Below.setCell ?_ (by first | exact Nat.le_refl _ | omega | (simp; done) | (simp; omega)) _ | (with_reducible refine ext_trans ?_ (by with_reducible assumption)))))
    have Ok2_4 := Lib.hid (Ok2_3.out.below (w' := w4) (by repeat (first | with_reducible exact Below.refl _ _ | with_reducible assumption | with_reducible refine Below.drew ?_ | with_reducible refine Below.alloc ?_ (by first | exact Nat.le_refl _ | omega | (simp; done) | (simp; omega)) _ | with_reducible refine Below.setCell ?_ (by first | exact Nat.le_refl _ | omega | (simp; done) | (simp; omega)) _ | (with_reducible refine ext_trans ?_ (by with_reducible assumption)))))
    have hw4 : Below w.heap.size w w4 := (by repeat (first | with_reducible exact Below.refl _ _ | with_reducible assumption | with_reducible refine Below.drew ?_ | with_reducible refine Below.alloc ?_ (by first | exact Nat.le_refl _ | omega | (simp; done) | (simp; omega)) _ | with_reducible refine Below.setCell ?_ (by first | exact Nat.le_refl _ | omega | (simp; done) | (simp; omega)) _ | (with_reducible refine ext_trans ?_ (by with_reducible assumption))))
    have lRk_4 : w1.heap.size < w4.heap.size := by omega
    have lRt_4 : w1.heap.size + 1 < w4.heap.size := by omega
    have Rk_4 := Lib.hid rk_4
    have r0_rk_4 := cell_of_row _ _ 0 _ _ _ rk_4
    have r1_rk_4 := cell_of_row _ _ 1 _ _ _ rk_4
    have r2_rk_4 := cell_of_row _ _ 2 _ _ _ rk_4
    have r3_rk_4 := cell_of_row _ _ 3 _ _ _ rk_4
    have r4_rk_4 := cell_of_row _ _ 4 _ _ _ rk_4
    have r5_rk_4 := cell_of_row _ _ 5 _ _ _ rk_4
    have r6_rk_4 := cell_of_row _ _ 6 _ _ _ rk_4
    have r7_rk_4 := cell_of_row _ _ 7 _ _ _ rk_4
    have r8_rk_4 := cell_of_row _ _ 8 _ _ _ rk_4
    have r9_rk_4 := cell_of_row _ _ 9 _ _ _ rk_4
    have f0_rk_4 := frozen_of_row _ _ 0 _ _ rk_4
    have f1_rk_4 := frozen_of_row _ _ 1 _ _ rk_4
    have f2_rk_4 := frozen_of_row _ _ 2 _ _ rk_4
    have f3_rk_4 := frozen_of_row _ _ 3 _ _ rk_4
    have f4_rk_4 := frozen_of_row _ _ 4 _ _ rk_4
    have f5_rk_4 := frozen_of_row _ _ 5 _ _ rk_4
    have f6_rk_4 := frozen_of_row _ _ 6 _ _ rk_4
    have f7_rk_4 := frozen_of_row _ _ 7 _ _ rk_4
    have f8_rk_4 := frozen_of_row _ _ 8 _ _ rk_4
    have f9_rk_4 := frozen_of_row _ _ 9 _ _ rk_4
    simp at r0_rk_4 r1_rk_4 r2_rk_4 r3_rk_4 r4_rk_4 r5_rk_4 r6_rk_4 r7_rk_4 r8_rk_4 r9_rk_4
    clear rk_4
    have Rt_4 := Lib.hid rt_4
    have r0_rt_4 := cell_of_row _ _ 0 _ _ _ rt_4
    have r1_rt_4 := cell_of_row _ _ 1 _ _ _ rt_4
    have r2_rt_4 := cell_of_row _ _ 2 _ _ _ rt_4
    have f0_rt_4 := frozen_of_row _ _ 0 _ _ rt_4
    have f1_rt_4 := frozen_of_row _ _ 1 _ _ rt_4
    have f2_rt_4 := frozen_of_row _ _ 2 _ _ rt_4
    simp at r0_rt_4 r1_rt_4 r2_rt_4
    clear rt_4
    clear r0_rk_3 f0_rk_3 r1_rk_3 f1_rk_3 r2_rk_3 f2_rk_3 r3_rk_3 f3_rk_3 r4_rk_3 f4_rk_3 r5_rk_3 f5_rk_3 r6_rk_3 f6_rk_3 r7_rk_3 f7_rk_3 r8_rk_3 f8_rk_3 r9_rk_3 f9_rk_3
    clear r0_rt_3 f0_rt_3 r1_rt_3 f1_rt_3 r2_rt_3 f2_rt_3
    have hwr : IntKind.i64.wrap (x.ep - 1) = x.ep - 1 := IntWalk.i64_in _ ⟨by omega, by omega⟩
    rcases hwh with rfl | ⟨hr, htw⟩
    case inl =>
      go_wp2_with fail
      refine (Q4.out _ _ (Om1_4.out.below (by repeat (first | with_reducible exact Below.refl _ _ | with_reducible assumption | with_reducible refine Below.drew ?_ | with_reducible refine Below.alloc ?_ (by first | exact Nat.le_refl _ | omega | (simp; done) | (simp; omega)) _ | with_reducible refine Below.setCell ?_ (by first | exact Nat.le_refl _ | omega | (simp; done) | (simp; omega)) _ | (with_reducible refine ext_trans ?_ (by with_reducible assumption))))).rd).mono ?_
      rintro e w5 ⟨rfl, hb5⟩
      have hz5 := hb5.size
      (try simp at hz5)
      have rk_5 := (hb5.block _ (by first | omega | (simp; done) | (simp; omega))).trans ((Below.heap_alloc _ _ _ (by first | exact lRk_4 | (simp; omega))).trans Rk_4.out)
      have rt_5 := (hb5.block _ (by first | omega | (simp; done) | (simp; omega))).trans ((Below.heap_alloc _ _ _ (by first | exact lRt_4 | (simp; omega))).trans Rt_4.out)
      have rm_5 : w5.heap[w4.heap.size]? = some (.cells #[.bool m.u, .int .u64 (uI m.k), .int .u64 (uI m.l), .slice D1 m.rs.length d1] 27 (0, 0)) := (hb5.block _ (by first | (simp; done) | (simp; omega))).trans (by repeat (first | exact heap_new _ _ _ (by first | rfl | (simp; done) | (simp; omega)) | refine (Below.heap_alloc _ _ _ (by first | omega | (simp; done) | (simp; omega))).trans ?_))
      have Ok1_5 := Lib.hid (Ok1_4.out.below (w' := w5) (by repeat (first | with_reducible exact Below.refl _ _ | with_reducible assumption | with_reducible refine Below.drew ?_ | with_reducible refine Below.alloc ?_ (by first | exact Nat.le_refl _ | omega | (simp; done) | (simp; omega)) _ | with_reducible refine Below.setCell ?_ (by first | exact Nat.le_refl _ | omega | (simp; done) | (simp; omega)) _ | (with_reducible refine ext_trans ?_ (by with_reducible assumption)))))
      have Ok2_5 := Lib.hid (Ok2_4.out.below (w' := w5) (by repeat (first | with_reducible exact Below.refl _ _ | with_reducible assumption | with_reducible refine Below.drew ?_ | with_reducible refine Below.alloc ?_ (by first | exact Nat.le_refl _ | omega | (simp; done) | (simp; omega)) _ | with_reducible refine Below.setCell ?_ (by first | exact Nat.le_refl _ | omega | (simp; done) | (simp; omega)) _ | (with_reducible refine ext_trans ?_ (by with_reducible assumption)))))
      have Om1_5 := Lib.hid (Om1_4.out.below (w' := w5) (by repeat (first | with_reducible exact Below.refl _ _ | with_reducible assumption | with_reducible refine Below.drew ?_ | with_reducible refine Below.alloc ?_ (by first | exact Nat.le_refl _ | omega | (simp; done) | (simp; omega)) _ | with_reducible refine Below.setCell ?_ (by first | exact Nat.le_refl _ | omega | (simp; done) | (simp; omega)) _ | (with_reducible refine ext_trans ?_ (by with_reducible assumption)))))
      have hw5 : Below w.heap.size w w5 := (by repeat (first | with_reducible exact Below.refl _ _ | with_reducible assumption | with_reducible refine Below.drew ?_ | with_reducible refine Below.alloc ?_ (by first | exact Nat.le_refl _ | omega | (simp; done) | (simp; omega)) _ | with_reducible refine Below.setCell ?_ (by first | exact Nat.le_refl _ | omega | (simp; done) | (simp; omega)) _ | (with_reducible refine ext_trans ?_ (by with_reducible assumption))))
      have lRk_5 : w1.heap.size < w5.heap.size := by omega
      have lRt_5 : w1.heap.size + 1 < w5.heap.size := by omega
      have lRm_5 : w4.heap.size < w5.heap.size := by omega
      have Rk_5 := Lib.hid rk_5
      have r0_rk_5 := cell_of_row _ _ 0 _ _ _ rk_5
      have r1_rk_5 := cell_of_row _ _ 1 _ _ _ rk_5
      have r2_rk_5 := cell_of_row _ _ 2 _ _ _ rk_5
      have r3_rk_5 := cell_of_row _ _ 3 _ _ _ rk_5
      have r4_rk_5 := cell_of_row _ _ 4 _ _ _ rk_5
      have r5_rk_5 := cell_of_row _ _ 5 _ _ _ rk_5
      have r6_rk_5 := cell_of_row _ _ 6 _ _ _ rk_5
      have r7_rk_5 := cell_of_row _ _ 7 _ _ _ rk_5
      have r8_rk_5 := cell_of_row _ _ 8 _ _ _ rk_5
      have r9_rk_5 := cell_of_row _ _ 9 _ _ _ rk_5
      have f0_rk_5 := frozen_of_row _ _ 0 _ _ rk_5
      have f1_rk_5 := frozen_of_row _ _ 1 _ _ rk_5
      have f2_rk_5 := frozen_of_row _ _ 2 _ _ rk_5
      have f3_rk_5 := frozen_of_row _ _ 3 _ _ rk_5
      have f4_rk_5 := frozen_of_row _ _ 4 _ _ rk_5
      have f5_rk_5 := frozen_of_row _ _ 5 _ _ rk_5
      have f6_rk_5 := frozen_of_row _ _ 6 _ _ rk_5
      have f7_rk_5 := frozen_of_row _ _ 7 _ _ rk_5
      have f8_rk_5 := frozen_of_row _ _ 8 _ _ rk_5
      have f9_rk_5 := frozen_of_row _ _ 9 _ _ rk_5
      simp at r0_rk_5 r1_rk_5 r2_rk_5 r3_rk_5 r4_rk_5 r5_rk_5 r6_rk_5 r7_rk_5 r8_rk_5 r9_rk_5
      clear rk_5
      have Rt_5 := Lib.hid rt_5
      have r0_rt_5 := cell_of_row _ _ 0 _ _ _ rt_5
      have r1_rt_5 := cell_of_row _ _ 1 _ _ _ rt_5
      have r2_rt_5 := cell_of_row _ _ 2 _ _ _ rt_5
      have f0_rt_5 := frozen_of_row _ _ 0 _ _ rt_5
      have f1_rt_5 := frozen_of_row _ _ 1 _ _ rt_5
      have f2_rt_5 := frozen_of_row _ _ 2 _ _ rt_5
      simp at r0_rt_5 r1_rt_5 r2_rt_5
      clear rt_5
      have Rm_5 := Lib.hid rm_5
      have r0_rm_5 := cell_of_row _ _ 0 _ _ _ rm_5
      have r1_rm_5 := cell_of_row _ _ 1 _ _ _ rm_5
      have r2_rm_5 := cell_of_row _ _ 2 _ _ _ rm_5
      have r3_rm_5 := cell_of_row _ _ 3 _ _ _ rm_5
      have f0_rm_5 := frozen_of_row _ _ 0 _ _ rm_5
      have f1_rm_5 := frozen_of_row _ _ 1 _ _ rm_5
      have f2_rm_5 := frozen_of_row _ _ 2 _ _ rm_5
      have f3_rm_5 := frozen_of_row _ _ 3 _ _ rm_5
      simp at r0_rm_5 r1_rm_5 r2_rm_5 r3_rm_5
      clear rm_5
      clear r0_rk_4 f0_rk_4 r1_rk_4 f1_rk_4 r2_rk_4 f2_rk_4 r3_rk_4 f3_rk_4 r4_rk_4 f4_rk_4 r5_rk_4 f5_rk_4 r6_rk_4 f6_rk_4 r7_rk_4 f7_rk_4 r8_rk_4 f8_rk_4 r9_rk_4 f9_rk_4
      clear r0_rt_4 f0_rt_4 r1_rt_4 f1_rt_4 r2_rt_4 f2_rt_4
      go_wp2_with fail
      refine (Q5.out _ _ (Om1_5.out.below (by repeat (first | with_reducible exact Below.refl _ _ | with_reducible assumption | with_reducible refine Below.drew ?_ | with_reducible refine Below.alloc ?_ (by first | exact Nat.le_refl _ | omega | (simp; done) | (simp; omega)) _ | with_reducible refine Below.setCell ?_ (by first | exact Nat.le_refl _ | omega | (simp; done) | (simp; omega)) _ | (with_reducible refine ext_trans ?_ (by with_reducible assumption))))).rd).mono ?_
      rintro e w6 ⟨rfl, hb6⟩
      have hz6 := hb6.size
      (try simp at hz6)
      have rk_6 := (hb6.block _ (by first | omega | (simp; done) | (simp; omega))).trans Rk_5.out
      have rt_6 := (hb6.block _ (by first | omega | (simp; done) | (simp; omega))).trans Rt_5.out
      have rm_6 := (hb6.block _ (by first | omega | (simp; done) | (simp; omega))).trans Rm_5.out
      have Ok1_6 := Lib.hid (Ok1_5.out.below (w' := w6) (by repeat (first | with_reducible exact Below.refl _ _ | with_reducible assumption | with_reducible refine Below.drew ?_ | with_reducible refine Below.alloc ?_ (by first | exact Nat.le_refl _ | omega | (simp; done) | (simp; omega)) _ | with_reducible refine Below.setCell ?_ (by first | exact Nat.le_refl _ | omega | (simp; done) | (simp; omega)) _ | (with_reducible refine ext_trans ?_ (by with_reducible assumption)))))
      have Ok2_6 := Lib.hid (Ok2_5.out.below (w' := w6) (by repeat (first | with_reducible exact Below.refl _ _ | with_reducible assumption | with_reducible refine Below.drew ?_ | with_reducible refine Below.alloc ?_ (by first | exact Nat.le_refl _ | omega | (simp; done) | (simp; omega)) _ | with_reducible refine Below.setCell ?_ (by first | exact Nat.le_refl _ | omega | (simp; done) | (simp; omega)) _ | (with_reducible refine ext_trans ?_ (by with_reducible assumption)))))
      have Om1_6 := Lib.hid (Om1_5.out.below (w' := w6) (by repeat (first | with_reducible exact Below.refl _ _ | with_reducible assumption | with_reducible refine Below.drew ?_ | with_reducible refine Below.alloc ?_ (by first | exact Nat.le_refl _ | omega | (simp; done) | (simp; omega)) _ | with_reducible refine Below.setCell ?_ (by first | exact Nat.le_refl _ | omega | (simp; done) | (simp; omega)) _ | (with_reducible refine ext_trans ?_ (by with_reducible assumption)))))
      have hw6 : Below w.heap.size w w6 := (by repeat (first | with_reducible exact Below.refl _ _ | with_reducible assumption | with_reducible refine Below.drew ?_ | with_reducible refine Below.alloc ?_ (by first | exact Nat.le_refl _ | omega | (simp; done) | (simp; omega)) _ | with_reducible refine Below.setCell ?_ (by first | exact Nat.le_refl _ | omega | (simp; done) | (simp; omega)) _ | (with_reducible refine ext_trans ?_ (by with_reducible assumption))))
      have lRk_6 : w1.heap.size < w6.heap.size := by omega
      have lRt_6 : w1.heap.size + 1 < w6.heap.size := by omega
      have lRm_6 : w4.heap.size < w6.heap.size := by omega
      have Rk_6 := Lib.hid rk_6
      have r0_rk_6 := cell_of_row _ _ 0 _ _ _ rk_6
      have r1_rk_6 := cell_of_row _ _ 1 _ _ _ rk_6
      have r2_rk_6 := cell_of_row _ _ 2 _ _ _ rk_6
      have r3_rk_6 := cell_of_row _ _ 3 _ _ _ rk_6
      have r4_rk_6 := cell_of_row _ _ 4 _ _ _ rk_6
      have r5_rk_6 := cell_of_row _ _ 5 _ _ _ rk_6
      have r6_rk_6 := cell_of_row _ _ 6 _ _ _ rk_6
      have r7_rk_6 := cell_of_row _ _ 7 _ _ _ rk_6
      have r8_rk_6 := cell_of_row _ _ 8 _ _ _ rk_6
      have r9_rk_6 := cell_of_row _ _ 9 _ _ _ rk_6
      have f0_rk_6 := frozen_of_row _ _ 0 _ _ rk_6
      have f1_rk_6 := frozen_of_row _ _ 1 _ _ rk_6
      have f2_rk_6 := frozen_of_row _ _ 2 _ _ rk_6
      have f3_rk_6 := frozen_of_row _ _ 3 _ _ rk_6
      have f4_rk_6 := frozen_of_row _ _ 4 _ _ rk_6
      have f5_rk_6 := frozen_of_row _ _ 5 _ _ rk_6
      have f6_rk_6 := frozen_of_row _ _ 6 _ _ rk_6
      have f7_rk_6 := frozen_of_row _ _ 7 _ _ rk_6
      have f8_rk_6 := frozen_of_row _ _ 8 _ _ rk_6
      have f9_rk_6 := frozen_of_row _ _ 9 _ _ rk_6
      simp at r0_rk_6 r1_rk_6 r2_rk_6 r3_rk_6 r4_rk_6 r5_rk_6 r6_rk_6 r7_rk_6 r8_rk_6 r9_rk_6
      clear rk_6
      have Rt_6 := Lib.hid rt_6
      have r0_rt_6 := cell_of_row _ _ 0 _ _ _ rt_6
      have r1_rt_6 := cell_of_row _ _ 1 _ _ _ rt_6
      have r2_rt_6 := cell_of_row _ _ 2 _ _ _ rt_6
      have f0_rt_6 := frozen_of_row _ _ 0 _ _ rt_6
      have f1_rt_6 := frozen_of_row _ _ 1 _ _ rt_6
      have f2_rt_6 := frozen_of_row _ _ 2 _ _ rt_6
      simp at r0_rt_6 r1_rt_6 r2_rt_6
      clear rt_6
      have Rm_6 := Lib.hid rm_6
      have r0_rm_6 := cell_of_row _ _ 0 _ _ _ rm_6
      have r1_rm_6 := cell_of_row _ _ 1 _ _ _ rm_6
      have r2_rm_6 := cell_of_row _ _ 2 _ _ _ rm_6
      have r3_rm_6 := cell_of_row _ _ 3 _ _ _ rm_6
      have f0_rm_6 := frozen_of_row _ _ 0 _ _ rm_6
      have f1_rm_6 := frozen_of_row _ _ 1 _ _ rm_6
      have f2_rm_6 := frozen_of_row _ _ 2 _ _ rm_6
      have f3_rm_6 := frozen_of_row _ _ 3 _ _ rm_6
      simp at r0_rm_6 r1_rm_6 r2_rm_6 r3_rm_6
      clear rm_6
      clear r0_rk_5 f0_rk_5 r1_rk_5 f1_rk_5 r2_rk_5 f2_rk_5 r3_rk_5 f3_rk_5 r4_rk_5 f4_rk_5 r5_rk_5 f5_rk_5 r6_rk_5 f6_rk_5 r7_rk_5 f7_rk_5 r8_rk_5 f8_rk_5 r9_rk_5 f9_rk_5
      clear r0_rt_5 f0_rt_5 r1_rt_5 f1_rt_5 r2_rt_5 f2_rt_5
      clear r0_rm_5 f0_rm_5 r1_rm_5 f1_rm_5 r2_rm_5 f2_rm_5 r3_rm_5 f3_rm_5
      go_wp2_with fail
      go_ret
      exact ⟨by simp, hw6⟩
    case inr =>
      subst hr
      have hne : ((x.ep - 1) == x.ep) = false := by simp; omega
      go_wp2_with fail
      refine (Q4.out _ _ (Om1_4.out.below (by repeat (first | with_reducible exact Below.refl _ _ | with_reducible assumption | with_reducible refine Below.drew ?_ | with_reducible refine Below.alloc ?_ (by first | exact Nat.le_refl _ | omega | (simp; done) | (simp; omega)) _ | with_reducible refine Below.setCell ?_ (by first | exact Nat.le_refl _ | omega | (simp; done) | (simp; omega)) _ | (with_reducible refine ext_trans ?_ (by with_reducible assumption))))).rd).mono ?_
      rintro e w5 ⟨rfl, hb5⟩
      have hz5 := hb5.size
      (try simp at hz5)
      have rk_5 := (hb5.block _ (by first | omega | (simp; done) | (simp; omega))).trans ((Below.heap_alloc _ _ _ (by first | exact lRk_4 | (simp; omega))).trans Rk_4.out)
      have rt_5 := (hb5.block _ (by first | omega | (simp; done) | (simp; omega))).trans ((Below.heap_alloc _ _ _ (by first | exact lRt_4 | (simp; omega))).trans Rt_4.out)
      have rm_5 : w5.heap[w4.heap.size]? = some (.cells #[.bool m.u, .int .u64 (uI m.k), .int .u64 (uI m.l), .slice D1 m.rs.length d1] 27 (0, 0)) := (hb5.block _ (by first | (simp; done) | (simp; omega))).trans (by repeat (first | exact heap_new _ _ _ (by first | rfl | (simp; done) | (simp; omega)) | refine (Below.heap_alloc _ _ _ (by first | omega | (simp; done) | (simp; omega))).trans ?_))
      have Ok1_5 := Lib.hid (Ok1_4.out.below (w' := w5) (by repeat (first | with_reducible exact Below.refl _ _ | with_reducible assumption | with_reducible refine Below.drew ?_ | with_reducible refine Below.alloc ?_ (by first | exact Nat.le_refl _ | omega | (simp; done) | (simp; omega)) _ | with_reducible refine Below.setCell ?_ (by first | exact Nat.le_refl _ | omega | (simp; done) | (simp; omega)) _ | (with_reducible refine ext_trans ?_ (by with_reducible assumption)))))
      have Ok2_5 := Lib.hid (Ok2_4.out.below (w' := w5) (by repeat (first | with_reducible exact Below.refl _ _ | with_reducible assumption | with_reducible refine Below.drew ?_ | with_reducible refine Below.alloc ?_ (by first | exact Nat.le_refl _ | omega | (simp; done) | (simp; omega)) _ | with_reducible refine Below.setCell ?_ (by first | exact Nat.le_refl _ | omega | (simp; done) | (simp; omega)) _ | (with_reducible refine ext_trans ?_ (by with_reducible assumption)))))
      have Om1_5 := Lib.hid (Om1_4.out.below (w' := w5) (by repeat (first | with_reducible exact Below.refl _ _ | with_reducible assumption | with_reducible refine Below.drew ?_ | with_reducible refine Below.alloc ?_ (by first | exact Nat.le_refl _ | omega | (simp; done) | (simp; omega)) _ | with_reducible refine Below.setCell ?_ (by first | exact Nat.le_refl _ | omega | (simp; done) | (simp; omega)) _ | (with_reducible refine ext_trans ?_ (by with_reducible assumption)))))
      have hw5 : Below w.heap.size w w5 := (by repeat (first | with_reducible exact Below.refl _ _ | with_reducible assumption | with_reducible refine Below.drew ?_ | with_reducible refine Below.alloc ?_ (by first | exact Nat.le_refl _ | omega | (simp; done) | (simp; omega)) _ | with_reducible refine Below.setCell ?_ (by first | exact Nat.le_refl _ | omega | (simp; done) | (simp; omega)) _ | (with_reducible refine ext_trans ?_ (by with_reducible assumption))))
      have lRk_5 : w1.heap.size < w5.heap.size := by omega
      have lRt_5 : w1.heap.size + 1 < w5.heap.size := by omega
      have lRm_5 : w4.heap.size < w5.heap.size := by omega
      have Rk_5 := Lib.hid rk_5
      have r0_rk_5 := cell_of_row _ _ 0 _ _ _ rk_5
      have r1_rk_5 := cell_of_row _ _ 1 _ _ _ rk_5
      have r2_rk_5 := cell_of_row _ _ 2 _ _ _ rk_5
      have r3_rk_5 := cell_of_row _ _ 3 _ _ _ rk_5
      have r4_rk_5 := cell_of_row _ _ 4 _ _ _ rk_5
      have r5_rk_5 := cell_of_row _ _ 5 _ _ _ rk_5
      have r6_rk_5 := cell_of_row _ _ 6 _ _ _ rk_5
      have r7_rk_5 := cell_of_row _ _ 7 _ _ _ rk_5
      have r8_rk_5 := cell_of_row _ _ 8 _ _ _ rk_5
      have r9_rk_5 := cell_of_row _ _ 9 _ _ _ rk_5
      have f0_rk_5 := frozen_of_row _ _ 0 _ _ rk_5
      have f1_rk_5 := frozen_of_row _ _ 1 _ _ rk_5
      have f2_rk_5 := frozen_of_row _ _ 2 _ _ rk_5
      have f3_rk_5 := frozen_of_row _ _ 3 _ _ rk_5
      have f4_rk_5 := frozen_of_row _ _ 4 _ _ rk_5
      have f5_rk_5 := frozen_of_row _ _ 5 _ _ rk_5
      have f6_rk_5 := frozen_of_row _ _ 6 _ _ rk_5
      have f7_rk_5 := frozen_of_row _ _ 7 _ _ rk_5
      have f8_rk_5 := frozen_of_row _ _ 8 _ _ rk_5
      have f9_rk_5 := frozen_of_row _ _ 9 _ _ rk_5
      simp at r0_rk_5 r1_rk_5 r2_rk_5 r3_rk_5 r4_rk_5 r5_rk_5 r6_rk_5 r7_rk_5 r8_rk_5 r9_rk_5
      clear rk_5
      have Rt_5 := Lib.hid rt_5
      have r0_rt_5 := cell_of_row _ _ 0 _ _ _ rt_5
      have r1_rt_5 := cell_of_row _ _ 1 _ _ _ rt_5
      have r2_rt_5 := cell_of_row _ _ 2 _ _ _ rt_5
      have f0_rt_5 := frozen_of_row _ _ 0 _ _ rt_5
      have f1_rt_5 := frozen_of_row _ _ 1 _ _ rt_5
      have f2_rt_5 := frozen_of_row _ _ 2 _ _ rt_5
      simp at r0_rt_5 r1_rt_5 r2_rt_5
      clear rt_5
      have Rm_5 := Lib.hid rm_5
      have r0_rm_5 := cell_of_row _ _ 0 _ _ _ rm_5
      have r1_rm_5 := cell_of_row _ _ 1 _ _ _ rm_5
      have r2_rm_5 := cell_of_row _ _ 2 _ _ _ rm_5
      have r3_rm_5 := cell_of_row _ _ 3 _ _ _ rm_5
      have f0_rm_5 := frozen_of_row _ _ 0 _ _ rm_5
      have f1_rm_5 := frozen_of_row _ _ 1 _ _ rm_5
      have f2_rm_5 := frozen_of_row _ _ 2 _ _ rm_5
      have f3_rm_5 := frozen_of_row _ _ 3 _ _ rm_5
      simp at r0_rm_5 r1_rm_5 r2_rm_5 r3_rm_5
      clear rm_5
      clear r0_rk_4 f0_rk_4 r1_rk_4 f1_rk_4 r2_rk_4 f2_rk_4 r3_rk_4 f3_rk_4 r4_rk_4 f4_rk_4 r5_rk_4 f5_rk_4 r6_rk_4 f6_rk_4 r7_rk_4 f7_rk_4 r8_rk_4 f8_rk_4 r9_rk_4 f9_rk_4
      clear r0_rt_4 f0_rt_4 r1_rt_4 f1_rt_4 r2_rt_4 f2_rt_4
      go_wp2_with fail
      refine (Q5.out _ _ (Om1_5.out.below (by repeat (first | with_reducible exact Below.refl _ _ | with_reducible assumption | with_reducible refine Below.drew ?_ | with_reducible refine Below.alloc ?_ (by first | exact Nat.le_refl _ | omega | (simp; done) | (simp; omega)) _ | with_reducible refine Below.setCell ?_ (by first | exact Nat.le_refl _ | omega | (simp; done) | (simp; omega)) _ | (with_reducible refine ext_trans ?_ (by with_reducible assumption))))).rd).mono ?_
      rintro e w6 ⟨rfl, hb6⟩
      have hz6 := hb6.size
      (try simp at hz6)
      have rk_6 := (hb6.block _ (by first | omega | (simp; done) | (simp; omega))).trans Rk_5.out
      have rt_6 := (hb6.block _ (by first | omega | (simp; done) | (simp; omega))).trans Rt_5.out
      have rm_6 := (hb6.block _ (by first | omega | (simp; done) | (simp; omega))).trans Rm_5.out
      have Ok1_6 := Lib.hid (Ok1_5.out.below (w' := w6) (by repeat (first | with_reducible exact Below.refl _ _ | with_reducible assumption | with_reducible refine Below.drew ?_ | with_reducible refine Below.alloc ?_ (by first | exact Nat.le_refl _ | omega | (simp; done) | (simp; omega)) _ | with_reducible refine Below.setCell ?_ (by first | exact Nat.le_refl _ | omega | (simp; done) | (simp; omega)) _ | (with_reducible refine ext_trans ?_ (by with_reducible assumption)))))
      have Ok2_6 := Lib.hid (Ok2_5.out.below (w' := w6) (by repeat (first | with_reducible exact Below.refl _ _ | with_reducible assumption | with_reducible refine Below.drew ?_ | with_reducible refine Below.alloc ?_ (by first | exact Nat.le_refl _ | omega | (simp; done) | (simp; omega)) _ | with_reducible refine Below.setCell ?_ (by first | exact Nat.le_refl _ | omega | (simp; done) | (simp; omega)) _ | (with_reducible refine ext_trans ?_ (by with_reducible assumption)))))
      have Om1_6 := Lib.hid (Om1_5.out.below (w' := w6) (by repeat (first | with_reducible exact Below.refl _ _ | with_reducible assumption | with_reducible refine Below.drew ?_ | with_reducible refine Below.alloc ?_ (by first | exact Nat.le_refl _ | omega | (simp; done) | (simp; omega)) _ | with_reducible refine Below.setCell ?_ (by first | exact Nat.le_refl _ | omega | (simp; done) | (simp; omega)) _ | (with_reducible refine ext_trans ?_ (by with_reducible assumption)))))
      have hw6 : Below w.heap.size w w6 := (by repeat (first | with_reducible exact Below.refl _ _ | with_reducible assumption | with_reducible refine Below.drew ?_ | with_reducible refine Below.alloc ?_ (by first | exact Nat.le_refl _ | omega | (simp; done) | (simp; omega)) _ | with_reducible refine Below.setCell ?_ (by first | exact Nat.le_refl _ | omega | (simp; done) | (simp; omega)) _ | (with_reducible refine ext_trans ?_ (by with_reducible assumption))))
      have lRk_6 : w1.heap.size < w6.heap.size := by omega
      have lRt_6 : w1.heap.size + 1 < w6.heap.size := by omega
      have lRm_6 : w4.heap.size < w6.heap.size := by omega
      have Rk_6 := Lib.hid rk_6
      have r0_rk_6 := cell_of_row _ _ 0 _ _ _ rk_6
      have r1_rk_6 := cell_of_row _ _ 1 _ _ _ rk_6
      have r2_rk_6 := cell_of_row _ _ 2 _ _ _ rk_6
      have r3_rk_6 := cell_of_row _ _ 3 _ _ _ rk_6
      have r4_rk_6 := cell_of_row _ _ 4 _ _ _ rk_6
      have r5_rk_6 := cell_of_row _ _ 5 _ _ _ rk_6
      have r6_rk_6 := cell_of_row _ _ 6 _ _ _ rk_6
      have r7_rk_6 := cell_of_row _ _ 7 _ _ _ rk_6
      have r8_rk_6 := cell_of_row _ _ 8 _ _ _ rk_6
      have r9_rk_6 := cell_of_row _ _ 9 _ _ _ rk_6
      have f0_rk_6 := frozen_of_row _ _ 0 _ _ rk_6
      have f1_rk_6 := frozen_of_row _ _ 1 _ _ rk_6
      have f2_rk_6 := frozen_of_row _ _ 2 _ _ rk_6
      have f3_rk_6 := frozen_of_row _ _ 3 _ _ rk_6
      have f4_rk_6 := frozen_of_row _ _ 4 _ _ rk_6
      have f5_rk_6 := frozen_of_row _ _ 5 _ _ rk_6
      have f6_rk_6 := frozen_of_row _ _ 6 _ _ rk_6
      have f7_rk_6 := frozen_of_row _ _ 7 _ _ rk_6
      have f8_rk_6 := frozen_of_row _ _ 8 _ _ rk_6
      have f9_rk_6 := frozen_of_row _ _ 9 _ _ rk_6
      simp at r0_rk_6 r1_rk_6 r2_rk_6 r3_rk_6 r4_rk_6 r5_rk_6 r6_rk_6 r7_rk_6 r8_rk_6 r9_rk_6
      clear rk_6
      have Rt_6 := Lib.hid rt_6
      have r0_rt_6 := cell_of_row _ _ 0 _ _ _ rt_6
      have r1_rt_6 := cell_of_row _ _ 1 _ _ _ rt_6
      have r2_rt_6 := cell_of_row _ _ 2 _ _ _ rt_6
      have f0_rt_6 := frozen_of_row _ _ 0 _ _ rt_6
      have f1_rt_6 := frozen_of_row _ _ 1 _ _ rt_6
      have f2_rt_6 := frozen_of_row _ _ 2 _ _ rt_6
      simp at r0_rt_6 r1_rt_6 r2_rt_6
      clear rt_6
      have Rm_6 := Lib.hid rm_6
      have r0_rm_6 := cell_of_row _ _ 0 _ _ _ rm_6
      have r1_rm_6 := cell_of_row _ _ 1 _ _ _ rm_6
      have r2_rm_6 := cell_of_row _ _ 2 _ _ _ rm_6
      have r3_rm_6 := cell_of_row _ _ 3 _ _ _ rm_6
      have f0_rm_6 := frozen_of_row _ _ 0 _ _ rm_6
      have f1_rm_6 := frozen_of_row _ _ 1 _ _ rm_6
      have f2_rm_6 := frozen_of_row _ _ 2 _ _ rm_6
      have f3_rm_6 := frozen_of_row _ _ 3 _ _ rm_6
      simp at r0_rm_6 r1_rm_6 r2_rm_6 r3_rm_6
      clear rm_6
      clear r0_rk_5 f0_rk_5 r1_rk_5 f1_rk_5 r2_rk_5 f2_rk_5 r3_rk_5 f3_rk_5 r4_rk_5 f4_rk_5 r5_rk_5 f5_rk_5 r6_rk_5 f6_rk_5 r7_rk_5 f7_rk_5 r8_rk_5 f8_rk_5 r9_rk_5 f9_rk_5
      clear r0_rt_5 f0_rt_5 r1_rt_5 f1_rt_5 r2_rt_5 f2_rt_5
      clear r0_rm_5 f0_rm_5 r1_rm_5 f1_rm_5 r2_rm_5 f2_rm_5 r3_rm_5 f3_rm_5
      go_wp2_with fail
      go_ret
      exact ⟨by simp, hw6⟩

set_option maxRecDepth 100000 in
theorem FnCookieOnly_lifted (os : Os) (started : os.Started) (H : Type) (enc : TypeId × Value → H) :
    ReturnsInHanded {} Try.checked os 4 .any (Rows.fnCookieOnlySpec.pre6 enc Try.prog Try.f4 Rows.fnCookieOnlyRow.domain false) (Rows.fnCookieOnlySpec.post enc Try.prog Try.f4 false true false false) := by
  refine law_lifted (C := Try.checked) own_ started (by kernel_rfl) Try.func4 laid_ rfl ?_ ?_ rfl Try.underlying4
    (ChangeSpec.witness6 (enc := enc) (C := Try.checked) false ⟨#[], #[.slice none 0 0], []⟩ 8 (by kernel_rfl) (by kernel_rfl) (by kernel_rfl) (by kernel_rfl)) ?_
  · intro ds h
    match ds, h with
    | [_], _ => rfl
  · intro t ht
    rw [Try.params4] at ht
    simp at ht
    subst ht
    exact ⟨by kernel_rfl, of_decide_eq_true (by kernel_rfl)⟩
  · intro W base args ds p hval hA hlt
    have hval : ∀ (j : Nat) t v, Try.f4.params[j]? = some t → args[j]? = some v → Value.okWide Try.prog W .any base t v := hval
    have hA : DataW.TrodAll enc Try.prog W 0 (fun _ => true) true Try.f4.params.toList args.toList ds p := hA
    rw [Try.params4] at hA hval
    obtain ⟨v0, d0, rfl, rfl, h0⟩ := trodAll_one hA
    obtain ⟨Aa, na, ca, rfl, wna, wba, wca⟩ := open_bytes (hval 0 22 v0 rfl rfl) h0
    exact FnCookieOnly_walk wna W wba

theorem FnCookieOnly_holds : Rows.FnCookieOnlySaid :=
  OpenClaim.holds_of_wide 4 Try.f4 rfl rfl rfl rfl rfl rfl rfl ⟨rfl, rfl, rfl, rfl, rfl⟩ rfl rfl rfl rfl rfl (by kernel_rfl) Try.func4 (by kernel_rfl)
    (of_decide_eq_true (by kernel_rfl)) (by have hw := wrap_ (P := Try.prog) (fn := Try.f4) (by kernel_rfl); exact hw)
    (fun os started H enc _ => FnCookieOnly_lifted os started H enc)
end Go.Proofs.Ytjlnbjabehpncaa
