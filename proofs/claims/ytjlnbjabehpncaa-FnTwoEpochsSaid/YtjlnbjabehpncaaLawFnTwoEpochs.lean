/-
  The law FnTwoEpochs returns true for every input. No condition.
-/
import Derived.Test.YtjlnbjabehpncaaKdc
import Derived.Test.YtjlnbjabehpncaaCkl
import Derived.Test.YtjlnbjabehpncaaReg
import Derived.Test.YtjlnbjabehpncaaBytes
import Derived.Deep.DeepCutAuto
import Derived.Deep.RegionHeld3
import Derived.IntWalk
namespace Go.Proofs.Ytjlnbjabehpncaa
set_option maxRecDepth 100000
open Go.ChangeShapes Go.WideShapes Go.ChangeAt Go.RowKit Go.Deep

def hitN (x : RKeys) (a b c sq ck : Int) (j : Nat) : Bool := wordB ck 32 && ((x.secret (x.ep - (j : Int))).isSome && decide (cookieI ((x.secret (x.ep - (j : Int))).getD ⟨false, 0, 0, []⟩) a b c sq (x.ep - (j : Int)) (ckI ck) = ck))
def cntN (x : RKeys) (a b c sq ck : Int) : Nat → Int
  | 0 => 0
  | j + 1 => cntN x a b c sq ck j + (if hitN x a b c sq ck j = true then 1 else 0)
theorem cntN_bd (x : RKeys) (a b c sq ck : Int) : ∀ j : Nat, 0 ≤ cntN x a b c sq ck j ∧ cntN x a b c sq ck j ≤ j
  | 0 => by simp [cntN]
  | j + 1 => by
    have := cntN_bd x a b c sq ck j
    rw [cntN]
    split <;> omega
theorem hit0 {x : RKeys} {a b c sq ck : Int} : hitN x a b c sq ck 0 = (wordB ck 32 && decide (cookieI x.now a b c sq x.ep (ckI ck) = ck)) := by
  simp [hitN, RKeys.secret]
theorem hit1 {x : RKeys} {a b c sq ck : Int} (hx : x.ok = true) : hitN x a b c sq ck 1 = (wordB ck 32 && (x.two && decide (cookieI x.bef a b c sq (x.ep - 1) (ckI ck) = ck))) := by
  obtain ⟨h1, h2, _⟩ := RKeys.ok_bd hx
  have hw : wrap64 (x.ep - 1) = x.ep - 1 := by unfold wrap64; omega
  have hne : ¬ x.ep - 1 = x.ep := by omega
  cases ht : x.two <;> simp [hitN, RKeys.secret, hw, hne, ht]
theorem two_done {x : RKeys} {a b c sq ck r1 r2 : Int} {r3 B1 : Bool} {j : Nat} {cn : Int} (hR : checkR x a b c sq ck = (r1, r2, r3)) (hB : x.ok = B1) (hj : j ≤ 2) (h0 : B1 = false → j = 0) (hdone : B1 = true → j = 2 ∨ x.ep - (j : Int) < 0) (hcn : cn = cntN x a b c sq ck j) : cn ≤ 1 ∧ (cn == 1) = r3 := by
  cases B1
  · obtain rfl := h0 rfl
    subst hcn
    unfold checkR at hR
    rw [hB] at hR
    simp at hR
    simp [cntN, ← hR.2.2]
  · obtain ⟨h1, h2, h3⟩ := RKeys.ok_bd hB
    have h2c : cntN x a b c sq ck j = cntN x a b c sq ck 2 := by
      rcases hdone rfl with rfl | hlt
      · rfl
      · have hj1 : j = 1 ∨ j = 2 := by omega
        rcases hj1 with rfl | rfl
        · have he : x.ep = 0 := by omega
          have ht : x.two = false := by
            cases ht : x.two
            · rfl
            · have := h3 ht
              omega
          simp [cntN, hit1 hB, ht]
        · rfl
    have hc2 : cntN x a b c sq ck 2 = (if (wordB ck 32 && decide (cookieI x.now a b c sq x.ep (ckI ck) = ck)) = true then 1 else 0) + (if (wordB ck 32 && (x.two && decide (cookieI x.bef a b c sq (x.ep - 1) (ckI ck) = ck))) = true then 1 else 0) := by
      show 0 + (if hitN x a b c sq ck 0 = true then 1 else 0) + (if hitN x a b c sq ck 1 = true then 1 else 0) = _
      rw [hit0, hit1 hB, Int.zero_add]
    rw [hcn, h2c, hc2]
    unfold checkR at hR
    rw [hB] at hR
    cases hw : wordB ck 32
    · rw [hw] at hR
      simp only [Bool.true_and, Bool.false_eq_true, if_false, Prod.mk.injEq] at hR
      rw [← hR.2.2]
      simp
    · rw [hw] at hR
      simp only [Bool.true_and, if_true] at hR ⊢
      have hck := inB_iff.1 ((wordB32 ck).symm.trans hw)
      by_cases he : cookieI x.now a b c sq x.ep (ckI ck) = ck
      · rw [if_pos he] at hR
        have hne : ¬ cookieI x.bef a b c sq (x.ep - 1) (ckI ck) = ck := by
          intro h5
          cases hm : macOk a b c sq (x.ep - 1) (ckI ck)
          · rw [cookie_none hm] at h5
            omega
          · have h6 := cookie_apart (m1 := x.bef) (m2 := x.now) (j := ckI ck) hm
            have e : x.ep - 1 + 1 = x.ep := by omega
            rw [h5, e, he] at h6
            exact h6 rfl
        simp only [Prod.mk.injEq] at hR
        rw [← hR.2.2]
        simp [he, hne]
      · rw [if_neg he] at hR
        by_cases h5 : (x.two && decide (cookieI x.bef a b c sq (x.ep - 1) (ckI ck) = ck)) = true
        · rw [if_pos h5] at hR
          simp only [Prod.mk.injEq] at hR
          rw [← hR.2.2, if_pos h5]
          simp [he]
        · rw [if_neg h5] at hR
          simp only [Prod.mk.injEq] at hR
          rw [← hR.2.2, if_neg h5]
          simp [he]
set_option maxHeartbeats 16000000 in
theorem FnTwoEpochs_walk {A : Option Addr} {n c : Nat} (hn : n ≤ maxLen) (w : World) (hb : Byts w w.heap.size A n) :
    Calls Try.prog 5 #[.slice A n c] w fun e w' => e = .returned (.bool true) ∧ Below w.heap.size w w' := by
  have hlen := hn
  unfold maxLen at hlen
  by_cases hbig : (1048576 : Int) < n
  · go_enter Try.func5, Try.ntmps5
    go_wp2_with fail
    refine (big_any hn _).mono ?_
    rintro e w' ⟨rfl, rfl⟩
    go_wp2_with fail
    go_ret
    exact ⟨rfl, Below.refl _ _⟩
  go_enter Try.func5, Try.ntmps5
  go_wp2_with fail
  refine (big_any hn _).mono ?_
  rintro e w' ⟨rfl, rfl⟩
  go_wp2_with fail
  refine (DrawCheckCookie_any hn hb).mono ?_
  rintro e w1 ⟨x, v1, v2, ta, tb, tc, sq, ck, rfl, hO1, hO2, hf1, hf2, ⟨he1, he2⟩, hsq, hck, hb1⟩
  obtain ⟨A1, c1, rfl⟩ := hO1.form
  obtain ⟨A2, c2, rfl⟩ := hO2.form
  have Ok1_1 := Lib.hid hO1
  have Ok2_1 := Lib.hid hO2
  have G1 := Lib.hid (fit_fits hf1)
  have G2 := Lib.hid (fit_fits hf2)
  have P1 := Lib.hid (fit_len hf1)
  have P2 := Lib.hid (fit_len hf2)
  have HF1 := Lib.hid hf1
  have HF2 := Lib.hid hf2
  clear hO1 hO2 hf1 hf2 hb hsq hck
  have hz1 := hb1.size
  have hw1 : Below w.heap.size w w1 := (by repeat (first | with_reducible exact Below.refl _ _ | with_reducible assumption | with_reducible refine Below.drew ?_ | with_reducible refine Below.alloc ?_ (by first | exact Nat.le_refl _ | omega | (simp; done) | (simp; omega)) _ | with_reducible refine Below.setCell ?_ (by first | exact Nat.le_refl _ | omega | (simp; done) | (simp; omega)) _ | (with_reducible refine ext_trans ?_ (by with_reducible assumption))))
  obtain ⟨⟨r1, r2, r3⟩, hR⟩ : ∃ R, checkR x ta tb tc sq ck = R := ⟨_, rfl⟩
  have q1 := fun W v1 v2 h1 h2 => CheckCookie_any x v1 v2 ta tb tc sq ck G1.out G2.out P1.out P2.out W h1 h2
  rw [hR] at q1
  dsimp only [vCk] at q1
  have Q1 := Lib.hid q1
  have q2 := fun W v1 v2 h1 h2 => sCheckCookie_any x v1 v2 ta tb tc sq ck G1.out G2.out P1.out P2.out W h1 h2
  rw [hR] at q2
  dsimp only [vCk] at q2
  have Q2 := Lib.hid q2
  have HR := Lib.hid hR
  clear q1 q2 hR
  go_wp2_with fail
  refine (Q1.out _ _ _ (Ok1_1.out.below (by repeat (first | with_reducible exact Below.refl _ _ | with_reducible assumption | with_reducible refine Below.drew ?_ | with_reducible refine Below.alloc ?_ (by first | exact Nat.le_refl _ | omega | (simp; done) | (simp; omega)) _ | with_reducible refine Below.setCell ?_ (by first | exact Nat.le_refl _ | omega | (simp; done) | (simp; omega)) _ | (with_reducible refine ext_trans ?_ (by with_reducible assumption))))).rd (Ok2_1.out.below (by repeat (first | with_reducible exact Below.refl _ _ | with_reducible assumption | with_reducible refine Below.drew ?_ | with_reducible refine Below.alloc ?_ (by first | exact Nat.le_refl _ | omega | (simp; done) | (simp; omega)) _ | with_reducible refine Below.setCell ?_ (by first | exact Nat.le_refl _ | omega | (simp; done) | (simp; omega)) _ | (with_reducible refine ext_trans ?_ (by with_reducible assumption))))).rd).mono ?_
  rintro e w2 ⟨rfl, hb2⟩
  have hz2 := hb2.size
  (try simp at hz2)
  have rk_2 : w2.heap[w1.heap.size]? = some (.cells #[.int .i64 x.ep, .bool x.now.u, .int .u64 (uI x.now.k), .int .u64 (uI x.now.l), .slice A1 x.now.rs.length c1, .bool x.bef.u, .int .u64 (uI x.bef.k), .int .u64 (uI x.bef.l), .slice A2 x.bef.rs.length c2, .bool x.two] 29 (0, 0)) := (hb2.block _ (by first | (simp; done) | (simp; omega))).trans (by repeat (first | exact heap_new _ _ _ (by first | rfl | (simp; done) | (simp; omega)) | refine (Below.heap_alloc _ _ _ (by first | omega | (simp; done) | (simp; omega))).trans ?_))
  have rt_2 : w2.heap[w1.heap.size + 1]? = some (.cells #[.int .i64 ta, .int .i64 tb, .int .i64 tc] 33 (0, 0)) := (hb2.block _ (by first | (simp; done) | (simp; omega))).trans (by repeat (first | exact heap_new _ _ _ (by first | rfl | (simp; done) | (simp; omega)) | refine (Below.heap_alloc _ _ _ (by first | omega | (simp; done) | (simp; omega))).trans ?_))
  have Ok1_2 := Lib.hid (Ok1_1.out.below (w' := w2) (by repeat (first | with_reducible exact Below.refl _ _ | with_reducible assumption | with_reducible refine Below.drew ?_ | with_reducible refine Below.alloc ?_ (by first | exact Nat.le_refl _ | omega | (simp; done) | (simp; omega)) _ | with_reducible refine Below.setCell ?_ (by first | exact Nat.le_refl _ | omega | (simp; done) | (simp; omega)) _ | (with_reducible refine ext_trans ?_ (by with_reducible assumption)))))
  have Ok2_2 := Lib.hid (Ok2_1.out.below (w' := w2) (by repeat (first | with_reducible exact Below.refl _ _ | with_reducible assumption | with_reducible refine Below.drew ?_ | with_reducible refine Below.alloc ?_ (by first | exact Nat.le_refl _ | omega | (simp; done) | (simp; omega)) _ | with_reducible refine Below.setCell ?_ (by first | exact Nat.le_refl _ | omega | (simp; done) | (simp; omega)) _ | (with_reducible refine ext_trans ?_ (by with_reducible assumption)))))
  have hw2 : Below w.heap.size w w2 := (by repeat (first | with_reducible exact Below.refl _ _ | with_reducible assumption | with_reducible refine Below.drew ?_ | with_reducible refine Below.alloc ?_ (by first | exact Nat.le_refl _ | omega | (simp; done) | (simp; omega)) _ | with_reducible refine Below.setCell ?_ (by first | exact Nat.le_refl _ | omega | (simp; done) | (simp; omega)) _ | (with_reducible refine ext_trans ?_ (by with_reducible assumption))))
  have lRk_2 : w1.heap.size < w2.heap.size := by omega
  have lRt_2 : w1.heap.size + 1 < w2.heap.size := by omega
  have Rk_2 := Lib.hid rk_2
  have r0_rk_2 := cell_of_row _ _ 0 _ _ _ rk_2
  have r1_rk_2 := cell_of_row _ _ 1 _ _ _ rk_2
  have r2_rk_2 := cell_of_row _ _ 2 _ _ _ rk_2
  have r3_rk_2 := cell_of_row _ _ 3 _ _ _ rk_2
  have r4_rk_2 := cell_of_row _ _ 4 _ _ _ rk_2
  have r5_rk_2 := cell_of_row _ _ 5 _ _ _ rk_2
  have r6_rk_2 := cell_of_row _ _ 6 _ _ _ rk_2
  have r7_rk_2 := cell_of_row _ _ 7 _ _ _ rk_2
  have r8_rk_2 := cell_of_row _ _ 8 _ _ _ rk_2
  have r9_rk_2 := cell_of_row _ _ 9 _ _ _ rk_2
  have f0_rk_2 := frozen_of_row _ _ 0 _ _ rk_2
  have f1_rk_2 := frozen_of_row _ _ 1 _ _ rk_2
  have f2_rk_2 := frozen_of_row _ _ 2 _ _ rk_2
  have f3_rk_2 := frozen_of_row _ _ 3 _ _ rk_2
  have f4_rk_2 := frozen_of_row _ _ 4 _ _ rk_2
  have f5_rk_2 := frozen_of_row _ _ 5 _ _ rk_2
  have f6_rk_2 := frozen_of_row _ _ 6 _ _ rk_2
  have f7_rk_2 := frozen_of_row _ _ 7 _ _ rk_2
  have f8_rk_2 := frozen_of_row _ _ 8 _ _ rk_2
  have f9_rk_2 := frozen_of_row _ _ 9 _ _ rk_2
  simp at r0_rk_2 r1_rk_2 r2_rk_2 r3_rk_2 r4_rk_2 r5_rk_2 r6_rk_2 r7_rk_2 r8_rk_2 r9_rk_2
  clear rk_2
  have Rt_2 := Lib.hid rt_2
  have r0_rt_2 := cell_of_row _ _ 0 _ _ _ rt_2
  have r1_rt_2 := cell_of_row _ _ 1 _ _ _ rt_2
  have r2_rt_2 := cell_of_row _ _ 2 _ _ _ rt_2
  have f0_rt_2 := frozen_of_row _ _ 0 _ _ rt_2
  have f1_rt_2 := frozen_of_row _ _ 1 _ _ rt_2
  have f2_rt_2 := frozen_of_row _ _ 2 _ _ rt_2
  simp at r0_rt_2 r1_rt_2 r2_rt_2
  clear rt_2
  go_wp2_with fail
  refine (Q2.out _ _ _ (Ok1_2.out.below (by repeat (first | with_reducible exact Below.refl _ _ | with_reducible assumption | with_reducible refine Below.drew ?_ | with_reducible refine Below.alloc ?_ (by first | exact Nat.le_refl _ | omega | (simp; done) | (simp; omega)) _ | with_reducible refine Below.setCell ?_ (by first | exact Nat.le_refl _ | omega | (simp; done) | (simp; omega)) _ | (with_reducible refine ext_trans ?_ (by with_reducible assumption))))).rd (Ok2_2.out.below (by repeat (first | with_reducible exact Below.refl _ _ | with_reducible assumption | with_reducible refine Below.drew ?_ | with_reducible refine Below.alloc ?_ (by first | exact Nat.le_refl _ | omega | (simp; done) | (simp; omega)) _ | with_reducible refine Below.setCell ?_ (by first | exact Nat.le_refl _ | omega | (simp; done) | (simp; omega)) _ | (with_reducible refine ext_trans ?_ (by with_reducible assumption))))).rd).mono ?_
  rintro e w3 ⟨rfl, hb3⟩
  have hz3 := hb3.size
  (try simp at hz3)
  have rk_3 := (hb3.block _ (by first | omega | (simp; done) | (simp; omega))).trans Rk_2.out
  have rt_3 := (hb3.block _ (by first | omega | (simp; done) | (simp; omega))).trans Rt_2.out
  have Ok1_3 := Lib.hid (Ok1_2.out.below (w' := w3) (by repeat (first | with_reducible exact Below.refl _ _ | with_reducible assumption | with_reducible refine Below.drew ?_ | with_reducible refine Below.alloc ?_ (by first | exact Nat.le_refl _ | omega | (simp; done) | (simp; omega)) _ | with_reducible refine Below.setCell ?_ (by first | exact Nat.le_refl _ | omega | (simp; done) | (simp; omega)) _ | (with_reducible refine ext_trans ?_ (by with_reducible assumption)))))
  have Ok2_3 := Lib.hid (Ok2_2.out.below (w' := w3) (by repeat (first | with_reducible exact Below.refl _ _ | with_reducible assumption | with_reducible refine Below.drew ?_ | with_reducible refine Below.alloc ?_ (by first | exact Nat.le_refl _ | omega | (simp; done) | (simp; omega)) _ | with_reducible refine Below.setCell ?_ (by first | exact Nat.le_refl _ | omega | (simp; done) | (simp; omega)) _ | (with_reducible refine ext_trans ?_ (by with_reducible assumption)))))
  have hw3 : Below w.heap.size w w3 := (by repeat (first | with_reducible exact Below.refl _ _ | with_reducible assumption | with_reducible refine Below.drew ?_ | with_reducible refine Below.alloc ?_ (by first | exact Nat.le_refl _ | omega | (simp; done) | (simp; omega)) _ | with_reducible refine Below.setCell ?_ (by first | exact Nat.le_refl _ | omega | (simp; done) | (simp; omega)) _ | (with_reducible refine ext_trans ?_ (by with_reducible assumption))))
  have lRk_3 : w1.heap.size < w3.heap.size := by omega
  have lRt_3 : w1.heap.size + 1 < w3.heap.size := by omega
  have Rk_3 := Lib.hid rk_3
  have r0_rk_3 := cell_of_row _ _ 0 _ _ _ rk_3
  have r1_rk_3 := cell_of_row _ _ 1 _ _ _ rk_3
  have r2_rk_3 := cell_of_row _ _ 2 _ _ _ rk_3
  have r3_rk_3 := cell_of_row _ _ 3 _ _ _ rk_3
  have r4_rk_3 := cell_of_row _ _ 4 _ _ _ rk_3
  have r5_rk_3 := cell_of_row _ _ 5 _ _ _ rk_3
  have r6_rk_3 := cell_of_row _ _ 6 _ _ _ rk_3
  have r7_rk_3 := cell_of_row _ _ 7 _ _ _ rk_3
  have r8_rk_3 := cell_of_row _ _ 8 _ _ _ rk_3
  have r9_rk_3 := cell_of_row _ _ 9 _ _ _ rk_3
  have f0_rk_3 := frozen_of_row _ _ 0 _ _ rk_3
  have f1_rk_3 := frozen_of_row _ _ 1 _ _ rk_3
  have f2_rk_3 := frozen_of_row _ _ 2 _ _ rk_3
  have f3_rk_3 := frozen_of_row _ _ 3 _ _ rk_3
  have f4_rk_3 := frozen_of_row _ _ 4 _ _ rk_3
  have f5_rk_3 := frozen_of_row _ _ 5 _ _ rk_3
  have f6_rk_3 := frozen_of_row _ _ 6 _ _ rk_3
  have f7_rk_3 := frozen_of_row _ _ 7 _ _ rk_3
  have f8_rk_3 := frozen_of_row _ _ 8 _ _ rk_3
  have f9_rk_3 := frozen_of_row _ _ 9 _ _ rk_3
  simp at r0_rk_3 r1_rk_3 r2_rk_3 r3_rk_3 r4_rk_3 r5_rk_3 r6_rk_3 r7_rk_3 r8_rk_3 r9_rk_3
  clear rk_3
  have Rt_3 := Lib.hid rt_3
  have r0_rt_3 := cell_of_row _ _ 0 _ _ _ rt_3
  have r1_rt_3 := cell_of_row _ _ 1 _ _ _ rt_3
  have r2_rt_3 := cell_of_row _ _ 2 _ _ _ rt_3
  have f0_rt_3 := frozen_of_row _ _ 0 _ _ rt_3
  have f1_rt_3 := frozen_of_row _ _ 1 _ _ rt_3
  have f2_rt_3 := frozen_of_row _ _ 2 _ _ rt_3
  simp at r0_rt_3 r1_rt_3 r2_rt_3
  clear rt_3
  clear r0_rk_2 f0_rk_2 r1_rk_2 f1_rk_2 r2_rk_2 f2_rk_2 r3_rk_2 f3_rk_2 r4_rk_2 f4_rk_2 r5_rk_2 f5_rk_2 r6_rk_2 f6_rk_2 r7_rk_2 f7_rk_2 r8_rk_2 f8_rk_2 r9_rk_2 f9_rk_2
  clear r0_rt_2 f0_rt_2 r1_rt_2 f1_rt_2 r2_rt_2 f2_rt_2
  have hk := fun W v1 v2 h1 h2 => sKeysOk_any x v1 v2 G1.out G2.out W h1 h2
  obtain ⟨B1, hB1⟩ : ∃ B, x.ok = B := ⟨_, rfl⟩
  rw [hB1] at hk
  have HK := Lib.hid hk
  have HB1 := Lib.hid hB1
  clear hk hB1
  go_wp2_with fail
  go_loopw [13, 14] (fun n ee wr => ∃ (j : Nat) (cn : Int), j ≤ 2 ∧ ee = .int .i64 (x.ep - (j : Int)) ∧ n = .int .i64 cn ∧ Hid (cn = cntN x ta tb tc sq ck j) ∧ Hid (B1 = false → j = 0) ∧ Hid (wr.heap[w1.heap.size]? = some (.cells #[.int .i64 x.ep, .bool x.now.u, .int .u64 (uI x.now.k), .int .u64 (uI x.now.l), .slice A1 x.now.rs.length c1, .bool x.bef.u, .int .u64 (uI x.bef.k), .int .u64 (uI x.bef.l), .slice A2 x.bef.rs.length c2, .bool x.two] 29 (0, 0))) ∧ Hid (wr.heap[w1.heap.size + 1]? = some (.cells #[.int .i64 ta, .int .i64 tb, .int .i64 tc] 33 (0, 0))) ∧ Hid (OwnMacRow wr w.heap.size (.slice A1 x.now.rs.length c1) x.now.rs) ∧ Hid (OwnMacRow wr w.heap.size (.slice A2 x.bef.rs.length c2) x.bef.rs) ∧ Below w.heap.size w wr) (fun _ ee _ => (intOf ee + 3 - x.ep).toNat)
  case atStart => exact ⟨0, 0, by omega, by simp, rfl, rfl, fun _ => rfl, Rk_3.out, Rt_3.out, Ok1_3.out, Ok2_3.out, hw3⟩
  case round =>
    obtain ⟨w4, rfl⟩ : ∃ w' : World, w' = wr := ⟨_, rfl⟩
    obtain ⟨j, cn, hj, rfl, rfl, hcn, hj0, Rk_4, Rt_4, Ok1_4, Ok2_4, hw4⟩ := hrel
    clear r0_rk_3 f0_rk_3 r1_rk_3 f1_rk_3 r2_rk_3 f2_rk_3 r3_rk_3 f3_rk_3 r4_rk_3 f4_rk_3 r5_rk_3 f5_rk_3 r6_rk_3 f6_rk_3 r7_rk_3 f7_rk_3 r8_rk_3 f8_rk_3 r9_rk_3 f9_rk_3 r0_rt_3 f0_rt_3 r1_rt_3 f1_rt_3 r2_rt_3 f2_rt_3
    have rk_4 := Rk_4.out
    have rt_4 := Rt_4.out
    have lRk_4 : w1.heap.size < w4.heap.size := (Array.getElem?_eq_some_iff.1 rk_4).1
    have lRt_4 : w1.heap.size + 1 < w4.heap.size := (Array.getElem?_eq_some_iff.1 rt_4).1
    have r0_rk_4 := cell_of_row _ _ 0 _ _ _ rk_4
    have r1_rk_4 := cell_of_row _ _ 1 _ _ _ rk_4
    have r2_rk_4 := cell_of_row _ _ 2 _ _ _ rk_4
    have r3_rk_4 := cell_of_row _ _ 3 _ _ _ rk_4
    have r4_rk_4 := cell_of_row _ _ 4 _ _ _ rk_4
    have r5_rk_4 := cell_of_row _ _ 5 _ _ _ rk_4
    have r6_rk_4 := cell_of_row _ _ 6 _ _ _ rk_4
    have r7_rk_4 := cell_of_row _ _ 7 _ _ _ rk_4
    have r8_rk_4 := cell_of_row _ _ 8 _ _ _ rk_4
    have r9_rk_4 := cell_of_row _ _ 9 _ _ _ rk_4
    have f0_rk_4 := frozen_of_row _ _ 0 _ _ rk_4
    have f1_rk_4 := frozen_of_row _ _ 1 _ _ rk_4
    have f2_rk_4 := frozen_of_row _ _ 2 _ _ rk_4
    have f3_rk_4 := frozen_of_row _ _ 3 _ _ rk_4
    have f4_rk_4 := frozen_of_row _ _ 4 _ _ rk_4
    have f5_rk_4 := frozen_of_row _ _ 5 _ _ rk_4
    have f6_rk_4 := frozen_of_row _ _ 6 _ _ rk_4
    have f7_rk_4 := frozen_of_row _ _ 7 _ _ rk_4
    have f8_rk_4 := frozen_of_row _ _ 8 _ _ rk_4
    have f9_rk_4 := frozen_of_row _ _ 9 _ _ rk_4
    simp at r0_rk_4 r1_rk_4 r2_rk_4 r3_rk_4 r4_rk_4 r5_rk_4 r6_rk_4 r7_rk_4 r8_rk_4 r9_rk_4
    have r0_rt_4 := cell_of_row _ _ 0 _ _ _ rt_4
    have r1_rt_4 := cell_of_row _ _ 1 _ _ _ rt_4
    have r2_rt_4 := cell_of_row _ _ 2 _ _ _ rt_4
    have f0_rt_4 := frozen_of_row _ _ 0 _ _ rt_4
    have f1_rt_4 := frozen_of_row _ _ 1 _ _ rt_4
    have f2_rt_4 := frozen_of_row _ _ 2 _ _ rt_4
    simp at r0_rt_4 r1_rt_4 r2_rt_4
    clear rk_4 rt_4
    have hcb := cntN_bd x ta tb tc sq ck j
    rw [← hcn.out] at hcb
    obtain ⟨hcb1, hcb2⟩ := hcb
    by_cases hneg : x.ep - (j : Int) < 0
    case pos =>
      have hd := two_done HR.out HB1.out hj hj0.out (fun _ => .inr (by omega)) hcn.out
      obtain ⟨hd1, hd2⟩ := hd
      have HD := Lib.hid hd2
      clear hd2
      have hd2 := HD.out
      go_wp2_with fail
      go_ret
      exact ⟨by simp, hw4⟩
    case neg =>
      by_cases hj2 : j = 2
      case pos =>
        have hlt : ¬ x.ep - 1 ≤ x.ep - (j : Int) := by omega
        have hd := two_done HR.out HB1.out hj hj0.out (fun _ => .inl hj2) hcn.out
        obtain ⟨hd1, hd2⟩ := hd
        have HD := Lib.hid hd2
        clear hd2
        have hd2 := HD.out
        go_wp2_with fail
        go_ret
        exact ⟨by simp, hw4⟩
      case neg =>
        have hge : x.ep - 1 ≤ x.ep - (j : Int) := by omega
        cases B1
        case false =>
          have hd := two_done HR.out HB1.out hj hj0.out (fun h => by cases h) hcn.out
          obtain ⟨hd1, hd2⟩ := hd
          have HD := Lib.hid hd2
          clear hd2
          go_wp2_with fail
          refine (HK.out _ _ _ (Ok1_4.out.below (by repeat (first | with_reducible exact Below.refl _ _ | with_reducible assumption | with_reducible refine Below.drew ?_ | with_reducible refine Below.alloc ?_ (by first | exact Nat.le_refl _ | omega | (simp; done) | (simp; omega)) _ | with_reducible refine Below.setCell ?_ (by first | exact Nat.le_refl _ | omega | (simp; done) | (simp; omega)) _ | (with_reducible refine ext_trans ?_ (by with_reducible assumption))))).rd (Ok2_4.out.below (by repeat (first | with_reducible exact Below.refl _ _ | with_reducible assumption | with_reducible refine Below.drew ?_ | with_reducible refine Below.alloc ?_ (by first | exact Nat.le_refl _ | omega | (simp; done) | (simp; omega)) _ | with_reducible refine Below.setCell ?_ (by first | exact Nat.le_refl _ | omega | (simp; done) | (simp; omega)) _ | (with_reducible refine ext_trans ?_ (by with_reducible assumption))))).rd).mono ?_
          rintro e w5 ⟨rfl, hb5⟩
          have hz5 := hb5.size
          (try simp at hz5)
          have rk_5 := (hb5.block _ (by first | omega | (simp; done) | (simp; omega))).trans Rk_4.out
          have rt_5 := (hb5.block _ (by first | omega | (simp; done) | (simp; omega))).trans Rt_4.out
          have Ok1_5 := Lib.hid (Ok1_4.out.below (w' := w5) (by repeat (first | with_reducible exact Below.refl _ _ | with_reducible assumption | with_reducible refine Below.drew ?_ | with_reducible refine Below.alloc ?_ (by first | exact Nat.le_refl _ | omega | (simp; done) | (simp; omega)) _ | with_reducible refine Below.setCell ?_ (by first | exact Nat.le_refl _ | omega | (simp; done) | (simp; omega)) _ | (with_reducible refine ext_trans ?_ (by with_reducible assumption)))))
          have Ok2_5 := Lib.hid (Ok2_4.out.below (w' := w5) (by repeat (first | with_reducible exact Below.refl _ _ | with_reducible assumption | with_reducible refine Below.drew ?_ | with_reducible refine Below.alloc ?_ (by first | exact Nat.le_refl _ | omega | (simp; done) | (simp; omega)) _ | with_reducible refine Below.setCell ?_ (by first | exact Nat.le_refl _ | omega | (simp; done) | (simp; omega)) _ | (with_reducible refine ext_trans ?_ (by with_reducible assumption)))))
          have hw5 : Below w.heap.size w w5 := (by repeat (first | with_reducible exact Below.refl _ _ | with_reducible assumption | with_reducible refine Below.drew ?_ | with_reducible refine Below.alloc ?_ (by first | exact Nat.le_refl _ | omega | (simp; done) | (simp; omega)) _ | with_reducible refine Below.setCell ?_ (by first | exact Nat.le_refl _ | omega | (simp; done) | (simp; omega)) _ | (with_reducible refine ext_trans ?_ (by with_reducible assumption))))
          have lRk_5 : w1.heap.size < w5.heap.size := by omega
          have lRt_5 : w1.heap.size + 1 < w5.heap.size := by omega
          have Rk_5 := Lib.hid rk_5
          have r0_rk_5 := cell_of_row _ _ 0 _ _ _ rk_5
          have r1_rk_5 := cell_of_row _ _ 1 _ _ _ rk_5
          have r2_rk_5 := cell_of_row _ _ 2 _ _ _ rk_5
          have r3_rk_5 := cell_of_row _ _ 3 _ _ _ rk_5
          have r4_rk_5 := cell_of_row _ _ 4 _ _ _ rk_5
          have r5_rk_5 := cell_of_row _ _ 5 _ _ _ rk_5
          have r6_rk_5 := cell_of_row _ _ 6 _ _ _ rk_5
          have r7_rk_5 := cell_of_row _ _ 7 _ _ _ rk_5
          have r8_rk_5 := cell_of_row _ _ 8 _ _ _ rk_5
          have r9_rk_5 := cell_of_row _ _ 9 _ _ _ rk_5
          have f0_rk_5 := frozen_of_row _ _ 0 _ _ rk_5
          have f1_rk_5 := frozen_of_row _ _ 1 _ _ rk_5
          have f2_rk_5 := frozen_of_row _ _ 2 _ _ rk_5
          have f3_rk_5 := frozen_of_row _ _ 3 _ _ rk_5
          have f4_rk_5 := frozen_of_row _ _ 4 _ _ rk_5
          have f5_rk_5 := frozen_of_row _ _ 5 _ _ rk_5
          have f6_rk_5 := frozen_of_row _ _ 6 _ _ rk_5
          have f7_rk_5 := frozen_of_row _ _ 7 _ _ rk_5
          have f8_rk_5 := frozen_of_row _ _ 8 _ _ rk_5
          have f9_rk_5 := frozen_of_row _ _ 9 _ _ rk_5
          simp at r0_rk_5 r1_rk_5 r2_rk_5 r3_rk_5 r4_rk_5 r5_rk_5 r6_rk_5 r7_rk_5 r8_rk_5 r9_rk_5
          clear rk_5
          have Rt_5 := Lib.hid rt_5
          have r0_rt_5 := cell_of_row _ _ 0 _ _ _ rt_5
          have r1_rt_5 := cell_of_row _ _ 1 _ _ _ rt_5
          have r2_rt_5 := cell_of_row _ _ 2 _ _ _ rt_5
          have f0_rt_5 := frozen_of_row _ _ 0 _ _ rt_5
          have f1_rt_5 := frozen_of_row _ _ 1 _ _ rt_5
          have f2_rt_5 := frozen_of_row _ _ 2 _ _ rt_5
          simp at r0_rt_5 r1_rt_5 r2_rt_5
          clear rt_5
          clear r0_rk_4 f0_rk_4 r1_rk_4 f1_rk_4 r2_rk_4 f2_rk_4 r3_rk_4 f3_rk_4 r4_rk_4 f4_rk_4 r5_rk_4 f5_rk_4 r6_rk_4 f6_rk_4 r7_rk_4 f7_rk_4 r8_rk_4 f8_rk_4 r9_rk_4 f9_rk_4
          clear r0_rt_4 f0_rt_4 r1_rt_4 f1_rt_4 r2_rt_4 f2_rt_4
          have hd2 := HD.out
          go_wp2_with fail
          go_ret
          exact ⟨by simp, hw5⟩
        case true =>
          have hjn : (¬ x.ep - (j : Int) < 0) := hneg
          obtain ⟨M, hM⟩ : ∃ M, (x.secret (x.ep - (j : Int))).getD ⟨false, 0, 0, []⟩ = M := ⟨_, rfl⟩
          obtain ⟨HS, hHS⟩ : ∃ B, (x.secret (x.ep - (j : Int))).isSome = B := ⟨_, rfl⟩
          have hfm : fitRows M.rs := by rw [← hM]; exact secret_fit HF1.out HF2.out
          have GM := Lib.hid (fit_fits hfm)
          have q3 := fun W v1 v2 h1 h2 => sSecretOf_any x v1 v2 (x.ep - (j : Int)) P1.out P2.out ⟨by omega, by omega⟩ ⟨by omega, by omega⟩ W h1 h2
          rw [hM, hHS] at q3
          have Q3 := Lib.hid q3
          have hnx : cntN x ta tb tc sq ck (j + 1) = cn + (if (wordB ck 32 && (HS && decide (cookieI M ta tb tc sq (x.ep - (j : Int)) (ckI ck) = ck))) = true then 1 else 0) := by rw [cntN, hcn.out, hitN, hM, hHS]
          have HNX := Lib.hid hnx
          obtain ⟨CK, hCK⟩ : ∃ C, cookieI M ta tb tc sq (x.ep - (j : Int)) (ckI ck) = C := ⟨_, rfl⟩
          have q4 := fun W v h => CookieOf_any M v ta tb tc sq (x.ep - (j : Int)) (ckI ck) GM.out W h
          rw [hCK] at q4
          have Q4 := Lib.hid q4
          have HCK := Lib.hid hCK
          clear q3 q4 hnx hM hHS hfm hCK
          go_wp2_with fail
          refine (HK.out _ _ _ (Ok1_4.out.below (by repeat (first | with_reducible exact Below.refl _ _ | with_reducible assumption | with_reducible refine Below.drew ?_ | with_reducible refine Below.alloc ?_ (by first | exact Nat.le_refl _ | omega | (simp; done) | (simp; omega)) _ | with_reducible refine Below.setCell ?_ (by first | exact Nat.le_refl _ | omega | (simp; done) | (simp; omega)) _ | (with_reducible refine ext_trans ?_ (by with_reducible assumption))))).rd (Ok2_4.out.below (by repeat (first | with_reducible exact Below.refl _ _ | with_reducible assumption | with_reducible refine Below.drew ?_ | with_reducible refine Below.alloc ?_ (by first | exact Nat.le_refl _ | omega | (simp; done) | (simp; omega)) _ | with_reducible refine Below.setCell ?_ (by first | exact Nat.le_refl _ | omega | (simp; done) | (simp; omega)) _ | (with_reducible refine ext_trans ?_ (by with_reducible assumption))))).rd).mono ?_
          rintro e w5 ⟨rfl, hb5⟩
          have hz5 := hb5.size
          (try simp at hz5)
          have rk_5 := (hb5.block _ (by first | omega | (simp; done) | (simp; omega))).trans Rk_4.out
          have rt_5 := (hb5.block _ (by first | omega | (simp; done) | (simp; omega))).trans Rt_4.out
          have Ok1_5 := Lib.hid (Ok1_4.out.below (w' := w5) (by repeat (first | with_reducible exact Below.refl _ _ | with_reducible assumption | with_reducible refine Below.drew ?_ | with_reducible refine Below.alloc ?_ (by first | exact Nat.le_refl _ | omega | (simp; done) | (simp; omega)) _ | with_reducible refine Below.setCell ?_ (by first | exact Nat.le_refl _ | omega | (simp; done) | (simp; omega)) _ | (with_reducible refine ext_trans ?_ (by with_reducible assumption)))))
          have Ok2_5 := Lib.hid (Ok2_4.out.below (w' := w5) (by repeat (first | with_reducible exact Below.refl _ _ | with_reducible assumption | with_reducible refine Below.drew ?_ | with_reducible refine Below.alloc ?_ (by first | exact Nat.le_refl _ | omega | (simp; done) | (simp; omega)) _ | with_reducible refine Below.setCell ?_ (by first | exact Nat.le_refl _ | omega | (simp; done) | (simp; omega)) _ | (with_reducible refine ext_trans ?_ (by with_reducible assumption)))))
          have hw5 : Below w.heap.size w w5 := (by repeat (first | with_reducible exact Below.refl _ _ | with_reducible assumption | with_reducible refine Below.drew ?_ | with_reducible refine Below.alloc ?_ (by first | exact Nat.le_refl _ | omega | (simp; done) | (simp; omega)) _ | with_reducible refine Below.setCell ?_ (by first | exact Nat.le_refl _ | omega | (simp; done) | (simp; omega)) _ | (with_reducible refine ext_trans ?_ (by with_reducible assumption))))
          have lRk_5 : w1.heap.size < w5.heap.size := by omega
          have lRt_5 : w1.heap.size + 1 < w5.heap.size := by omega
          have Rk_5 := Lib.hid rk_5
          have r0_rk_5 := cell_of_row _ _ 0 _ _ _ rk_5
          have r1_rk_5 := cell_of_row _ _ 1 _ _ _ rk_5
          have r2_rk_5 := cell_of_row _ _ 2 _ _ _ rk_5
          have r3_rk_5 := cell_of_row _ _ 3 _ _ _ rk_5
          have r4_rk_5 := cell_of_row _ _ 4 _ _ _ rk_5
          have r5_rk_5 := cell_of_row _ _ 5 _ _ _ rk_5
          have r6_rk_5 := cell_of_row _ _ 6 _ _ _ rk_5
          have r7_rk_5 := cell_of_row _ _ 7 _ _ _ rk_5
          have r8_rk_5 := cell_of_row _ _ 8 _ _ _ rk_5
          have r9_rk_5 := cell_of_row _ _ 9 _ _ _ rk_5
          have f0_rk_5 := frozen_of_row _ _ 0 _ _ rk_5
          have f1_rk_5 := frozen_of_row _ _ 1 _ _ rk_5
          have f2_rk_5 := frozen_of_row _ _ 2 _ _ rk_5
          have f3_rk_5 := frozen_of_row _ _ 3 _ _ rk_5
          have f4_rk_5 := frozen_of_row _ _ 4 _ _ rk_5
          have f5_rk_5 := frozen_of_row _ _ 5 _ _ rk_5
          have f6_rk_5 := frozen_of_row _ _ 6 _ _ rk_5
          have f7_rk_5 := frozen_of_row _ _ 7 _ _ rk_5
          have f8_rk_5 := frozen_of_row _ _ 8 _ _ rk_5
          have f9_rk_5 := frozen_of_row _ _ 9 _ _ rk_5
          simp at r0_rk_5 r1_rk_5 r2_rk_5 r3_rk_5 r4_rk_5 r5_rk_5 r6_rk_5 r7_rk_5 r8_rk_5 r9_rk_5
          clear rk_5
          have Rt_5 := Lib.hid rt_5
          have r0_rt_5 := cell_of_row _ _ 0 _ _ _ rt_5
          have r1_rt_5 := cell_of_row _ _ 1 _ _ _ rt_5
          have r2_rt_5 := cell_of_row _ _ 2 _ _ _ rt_5
          have f0_rt_5 := frozen_of_row _ _ 0 _ _ rt_5
          have f1_rt_5 := frozen_of_row _ _ 1 _ _ rt_5
          have f2_rt_5 := frozen_of_row _ _ 2 _ _ rt_5
          simp at r0_rt_5 r1_rt_5 r2_rt_5
          clear rt_5
          clear r0_rk_4 f0_rk_4 r1_rk_4 f1_rk_4 r2_rk_4 f2_rk_4 r3_rk_4 f3_rk_4 r4_rk_4 f4_rk_4 r5_rk_4 f5_rk_4 r6_rk_4 f6_rk_4 r7_rk_4 f7_rk_4 r8_rk_4 f8_rk_4 r9_rk_4 f9_rk_4
          clear r0_rt_4 f0_rt_4 r1_rt_4 f1_rt_4 r2_rt_4 f2_rt_4
          cases hwb : wordB ck 32
          case false =>
            have HWB := Lib.hid hwb
            go_wp2_with fail
            refine (sCookieParts_no _ hwb _).mono ?_
            rintro e w' ⟨rfl, rfl⟩
            clear hwb
            go_wp2_with fail
            refine (Q3.out _ _ _ (Ok1_5.out.below (by repeat (first | with_reducible exact Below.refl _ _ | with_reducible assumption | with_reducible refine Below.drew ?_ | with_reducible refine Below.alloc ?_ (by first | exact Nat.le_refl _ | omega | (simp; done) | (simp; omega)) _ | with_reducible refine Below.setCell ?_ (by first | exact Nat.le_refl _ | omega | (simp; done) | (simp; omega)) _ | (with_reducible refine ext_trans ?_ (by with_reducible assumption))))).rd (Ok2_5.out.below (by repeat (first | with_reducible exact Below.refl _ _ | with_reducible assumption | with_reducible refine Below.drew ?_ | with_reducible refine Below.alloc ?_ (by first | exact Nat.le_refl _ | omega | (simp; done) | (simp; omega)) _ | with_reducible refine Below.setCell ?_ (by first | exact Nat.le_refl _ | omega | (simp; done) | (simp; omega)) _ | (with_reducible refine ext_trans ?_ (by with_reducible assumption))))).rd).mono ?_
            rintro e w6 ⟨v6, rfl, hO6, hb6⟩
            obtain ⟨D1, d1, rfl⟩ := hO6.form
            clear hO6
            have hz6 := hb6.size
            (try simp at hz6)
            have rk_6 := (hb6.block _ (by first | omega | (simp; done) | (simp; omega))).trans Rk_5.out
            have rt_6 := (hb6.block _ (by first | omega | (simp; done) | (simp; omega))).trans Rt_5.out
            have Ok1_6 := Lib.hid (Ok1_5.out.below (w' := w6) (by repeat (first | with_reducible exact Below.refl _ _ | with_reducible assumption | with_reducible refine Below.drew ?_ | with_reducible refine Below.alloc ?_ (by first | exact Nat.le_refl _ | omega | (simp; done) | (simp; omega)) _ | with_reducible refine Below.setCell ?_ (by first | exact Nat.le_refl _ | omega | (simp; done) | (simp; omega)) _ | (with_reducible refine ext_trans ?_ (by with_reducible assumption)))))
            have Ok2_6 := Lib.hid (Ok2_5.out.below (w' := w6) (by repeat (first | with_reducible exact Below.refl _ _ | with_reducible assumption | with_reducible refine Below.drew ?_ | with_reducible refine Below.alloc ?_ (by first | exact Nat.le_refl _ | omega | (simp; done) | (simp; omega)) _ | with_reducible refine Below.setCell ?_ (by first | exact Nat.le_refl _ | omega | (simp; done) | (simp; omega)) _ | (with_reducible refine ext_trans ?_ (by with_reducible assumption)))))
            have hw6 : Below w.heap.size w w6 := (by repeat (first | with_reducible exact Below.refl _ _ | with_reducible assumption | with_reducible refine Below.drew ?_ | with_reducible refine Below.alloc ?_ (by first | exact Nat.le_refl _ | omega | (simp; done) | (simp; omega)) _ | with_reducible refine Below.setCell ?_ (by first | exact Nat.le_refl _ | omega | (simp; done) | (simp; omega)) _ | (with_reducible refine ext_trans ?_ (by with_reducible assumption))))
            have lRk_6 : w1.heap.size < w6.heap.size := by omega
            have lRt_6 : w1.heap.size + 1 < w6.heap.size := by omega
            have Rk_6 := Lib.hid rk_6
            have r0_rk_6 := cell_of_row _ _ 0 _ _ _ rk_6
            have r1_rk_6 := cell_of_row _ _ 1 _ _ _ rk_6
            have r2_rk_6 := cell_of_row _ _ 2 _ _ _ rk_6
            have r3_rk_6 := cell_of_row _ _ 3 _ _ _ rk_6
            have r4_rk_6 := cell_of_row _ _ 4 _ _ _ rk_6
            have r5_rk_6 := cell_of_row _ _ 5 _ _ _ rk_6
            have r6_rk_6 := cell_of_row _ _ 6 _ _ _ rk_6
            have r7_rk_6 := cell_of_row _ _ 7 _ _ _ rk_6
            have r8_rk_6 := cell_of_row _ _ 8 _ _ _ rk_6
            have r9_rk_6 := cell_of_row _ _ 9 _ _ _ rk_6
            have f0_rk_6 := frozen_of_row _ _ 0 _ _ rk_6
            have f1_rk_6 := frozen_of_row _ _ 1 _ _ rk_6
            have f2_rk_6 := frozen_of_row _ _ 2 _ _ rk_6
            have f3_rk_6 := frozen_of_row _ _ 3 _ _ rk_6
            have f4_rk_6 := frozen_of_row _ _ 4 _ _ rk_6
            have f5_rk_6 := frozen_of_row _ _ 5 _ _ rk_6
            have f6_rk_6 := frozen_of_row _ _ 6 _ _ rk_6
            have f7_rk_6 := frozen_of_row _ _ 7 _ _ rk_6
            have f8_rk_6 := frozen_of_row _ _ 8 _ _ rk_6
            have f9_rk_6 := frozen_of_row _ _ 9 _ _ rk_6
            simp at r0_rk_6 r1_rk_6 r2_rk_6 r3_rk_6 r4_rk_6 r5_rk_6 r6_rk_6 r7_rk_6 r8_rk_6 r9_rk_6
            clear rk_6
            have Rt_6 := Lib.hid rt_6
            have r0_rt_6 := cell_of_row _ _ 0 _ _ _ rt_6
            have r1_rt_6 := cell_of_row _ _ 1 _ _ _ rt_6
            have r2_rt_6 := cell_of_row _ _ 2 _ _ _ rt_6
            have f0_rt_6 := frozen_of_row _ _ 0 _ _ rt_6
            have f1_rt_6 := frozen_of_row _ _ 1 _ _ rt_6
            have f2_rt_6 := frozen_of_row _ _ 2 _ _ rt_6
            simp at r0_rt_6 r1_rt_6 r2_rt_6
            clear rt_6
            clear r0_rk_5 f0_rk_5 r1_rk_5 f1_rk_5 r2_rk_5 f2_rk_5 r3_rk_5 f3_rk_5 r4_rk_5 f4_rk_5 r5_rk_5 f5_rk_5 r6_rk_5 f6_rk_5 r7_rk_5 f7_rk_5 r8_rk_5 f8_rk_5 r9_rk_5 f9_rk_5
            clear r0_rt_5 f0_rt_5 r1_rt_5 f1_rt_5 r2_rt_5 f2_rt_5
            cases HS
            case false =>
              go_wp2_with fail
              go_roundw
              case rel => exact ⟨j + 1, cn, by omega, by simp; omega, by first | rfl | go_num, (by rw [HNX.out, HWB.out]; simp : cn = cntN x ta tb tc sq ck (j + 1)), (fun h => absurd h (by decide) : true = false → _), Lib.hid (by repeat (first | (with_reducible apply heap_setCell_same) | (with_reducible apply drew_row) | (with_reducible apply drewN_row) | (with_reducible exact Rk_6.out) | (with_reducible refine (heap_setCell_other _ _ _ _ (by first | omega | (simp; done) | (simp; omega))).trans ?_) | (with_reducible refine (Below.heap_alloc _ _ _ (by first | omega | (simp; done) | (simp; omega))).trans ?_))), Lib.hid (by repeat (first | (with_reducible apply heap_setCell_same) | (with_reducible apply drew_row) | (with_reducible apply drewN_row) | (with_reducible exact Rt_6.out) | (with_reducible refine (heap_setCell_other _ _ _ _ (by first | omega | (simp; done) | (simp; omega))).trans ?_) | (with_reducible refine (Below.heap_alloc _ _ _ (by first | omega | (simp; done) | (simp; omega))).trans ?_))), Lib.hid (Ok1_6.out.below (by repeat (first | with_reducible exact Below.refl _ _ | with_reducible assumption | with_reducible refine Below.drew ?_ | with_reducible refine Below.alloc ?_ (by first | exact Nat.le_refl _ | omega | (simp; done) | (simp; omega)) _ | with_reducible refine Below.setCell ?_ (by first | exact Nat.le_refl _ | omega | (simp; done) | (simp; omega)) _ | (with_reducible refine ext_trans ?_ (by with_reducible assumption))))), Lib.hid (Ok2_6.out.below (by repeat (first | with_reducible exact Below.refl _ _ | with_reducible assumption | with_reducible refine Below.drew ?_ | with_reducible refine Below.alloc ?_ (by first | exact Nat.le_refl _ | omega | (simp; done) | (simp; omega)) _ | with_reducible refine Below.setCell ?_ (by first | exact Nat.le_refl _ | omega | (simp; done) | (simp; omega)) _ | (with_reducible refine ext_trans ?_ (by with_reducible assumption))))), (by repeat (first | with_reducible exact Below.refl _ _ | with_reducible assumption | with_reducible refine Below.drew ?_ | with_reducible refine Below.alloc ?_ (by first | exact Nat.le_refl _ | omega | (simp; done) | (simp; omega)) _ | with_reducible refine Below.setCell ?_ (by first | exact Nat.le_refl _ | omega | (simp; done) | (simp; omega)) _ | (with_reducible refine ext_trans ?_ (by with_reducible assumption))))⟩
              case measure => simp [intOf]; omega
            case true =>
              go_wp2_with fail
              go_roundw
              case rel => exact ⟨j + 1, cn, by omega, by simp; omega, by first | rfl | go_num, (by rw [HNX.out, HWB.out]; simp : cn = cntN x ta tb tc sq ck (j + 1)), (fun h => absurd h (by decide) : true = false → _), Lib.hid (by repeat (first | (with_reducible apply heap_setCell_same) | (with_reducible apply drew_row) | (with_reducible apply drewN_row) | (with_reducible exact Rk_6.out) | (with_reducible refine (heap_setCell_other _ _ _ _ (by first | omega | (simp; done) | (simp; omega))).trans ?_) | (with_reducible refine (Below.heap_alloc _ _ _ (by first | omega | (simp; done) | (simp; omega))).trans ?_))), Lib.hid (by repeat (first | (with_reducible apply heap_setCell_same) | (with_reducible apply drew_row) | (with_reducible apply drewN_row) | (with_reducible exact Rt_6.out) | (with_reducible refine (heap_setCell_other _ _ _ _ (by first | omega | (simp; done) | (simp; omega))).trans ?_) | (with_reducible refine (Below.heap_alloc _ _ _ (by first | omega | (simp; done) | (simp; omega))).trans ?_))), Lib.hid (Ok1_6.out.below (by repeat (first | with_reducible exact Below.refl _ _ | with_reducible assumption | with_reducible refine Below.drew ?_ | with_reducible refine Below.alloc ?_ (by first | exact Nat.le_refl _ | omega | (simp; done) | (simp; omega)) _ | with_reducible refine Below.setCell ?_ (by first | exact Nat.le_refl _ | omega | (simp; done) | (simp; omega)) _ | (with_reducible refine ext_trans ?_ (by with_reducible assumption))))), Lib.hid (Ok2_6.out.below (by repeat (first | with_reducible exact Below.refl _ _ | with_reducible assumption | with_reducible refine Below.drew ?_ | with_reducible refine Below.alloc ?_ (by first | exact Nat.le_refl _ | omega | (simp; done) | (simp; omega)) _ | with_reducible refine Below.setCell ?_ (by first | exact Nat.le_refl _ | omega | (simp; done) | (simp; omega)) _ | (with_reducible refine ext_trans ?_ (by with_reducible assumption))))), (by repeat (first | with_reducible exact Below.refl _ _ | with_reducible assumption | with_reducible refine Below.drew ?_ | with_reducible refine Below.alloc ?_ (by first | exact Nat.le_refl _ | omega | (simp; done) | (simp; omega)) _ | with_reducible refine Below.setCell ?_ (by first | exact Nat.le_refl _ | omega | (simp; done) | (simp; omega)) _ | (with_reducible refine ext_trans ?_ (by with_reducible assumption))))⟩
              case measure => simp [intOf]; omega
          case true =>
            have HWB := Lib.hid hwb
            have hck := (inB_iff.1 ((wordB32 ck).symm.trans hwb))
            obtain ⟨hck1, hck2⟩ := hck
            go_wp2_with fail
            refine (sCookieParts_yes _ hwb hck1 hck2 _).mono ?_
            rintro e w' ⟨rfl, rfl⟩
            clear hwb
            have hci : ckI ck = ck / 16777216 % 8 := rfl
            rw [hci] at Q4
            have hcn0 : 0 ≤ ck / 16777216 % 8 := by omega
            have hcn7 : ck / 16777216 % 8 ≤ 7 := by omega
            go_wp2_with fail
            refine (Q3.out _ _ _ (Ok1_5.out.below (by repeat (first | with_reducible exact Below.refl _ _ | with_reducible assumption | with_reducible refine Below.drew ?_ | with_reducible refine Below.alloc ?_ (by first | exact Nat.le_refl _ | omega | (simp; done) | (simp; omega)) _ | with_reducible refine Below.setCell ?_ (by first | exact Nat.le_refl _ | omega | (simp; done) | (simp; omega)) _ | (with_reducible refine ext_trans ?_ (by with_reducible assumption))))).rd (Ok2_5.out.below (by repeat (first | with_reducible exact Below.refl _ _ | with_reducible assumption | with_reducible refine Below.drew ?_ | with_reducible refine Below.alloc ?_ (by first | exact Nat.le_refl _ | omega | (simp; done) | (simp; omega)) _ | with_reducible refine Below.setCell ?_ (by first | exact Nat.le_refl _ | omega | (simp; done) | (simp; omega)) _ | (with_reducible refine ext_trans ?_ (by with_reducible assumption))))).rd).mono ?_
            rintro e w6 ⟨v6, rfl, hO6, hb6⟩
            obtain ⟨D1, d1, rfl⟩ := hO6.form
            have Om1_6 := Lib.hid (OwnE.mono (base' := w5.heap.size) hO6 (by first | exact Nat.le_refl _ | (simp; done)))
            have Bm1 := Om1_6
            have hz6 := hb6.size
            (try simp at hz6)
            have rk_6 := (hb6.block _ (by first | omega | (simp; done) | (simp; omega))).trans Rk_5.out
            have rt_6 := (hb6.block _ (by first | omega | (simp; done) | (simp; omega))).trans Rt_5.out
            have Ok1_6 := Lib.hid (Ok1_5.out.below (w' := w6) (by repeat (first | with_reducible exact Below.refl _ _ | with_reducible assumption | with_reducible refine Below.drew ?_ | with_reducible refine Below.alloc ?_ (by first | exact Nat.le_refl _ | omega | (simp; done) | (simp; omega)) _ | with_reducible refine Below.setCell ?_ (by first | exact Nat.le_refl _ | omega | (simp; done) | (simp; omega)) _ | (with_reducible refine ext_trans ?_ (by with_reducible assumption)))))
            have Ok2_6 := Lib.hid (Ok2_5.out.below (w' := w6) (by repeat (first | with_reducible exact Below.refl _ _ | with_reducible assumption | with_reducible refine Below.drew ?_ | with_reducible refine Below.alloc ?_ (by first | exact Nat.le_refl _ | omega | (simp; done) | (simp; omega)) _ | with_reducible refine Below.setCell ?_ (by first | exact Nat.le_refl _ | omega | (simp; done) | (simp; omega)) _ | (with_reducible refine ext_trans ?_ (by with_reducible assumption)))))
            have hw6 : Below w.heap.size w w6 := (by repeat (first | with_reducible exact Below.refl _ _ | with_reducible assumption | with_reducible refine Below.drew ?_ | with_reducible refine Below.alloc ?_ (by first | exact Nat.le_refl _ | omega | (simp; done) | (simp; omega)) _ | with_reducible refine Below.setCell ?_ (by first | exact Nat.le_refl _ | omega | (simp; done) | (simp; omega)) _ | (with_reducible refine ext_trans ?_ (by with_reducible assumption))))
            have lRk_6 : w1.heap.size < w6.heap.size := by omega
            have lRt_6 : w1.heap.size + 1 < w6.heap.size := by omega
            have Rk_6 := Lib.hid rk_6
            have r0_rk_6 := cell_of_row _ _ 0 _ _ _ rk_6
            have r1_rk_6 := cell_of_row _ _ 1 _ _ _ rk_6
            have r2_rk_6 := cell_of_row _ _ 2 _ _ _ rk_6
            have r3_rk_6 := cell_of_row _ _ 3 _ _ _ rk_6
            have r4_rk_6 := cell_of_row _ _ 4 _ _ _ rk_6
            have r5_rk_6 := cell_of_row _ _ 5 _ _ _ rk_6
            have r6_rk_6 := cell_of_row _ _ 6 _ _ _ rk_6
            have r7_rk_6 := cell_of_row _ _ 7 _ _ _ rk_6
            have r8_rk_6 := cell_of_row _ _ 8 _ _ _ rk_6
            have r9_rk_6 := cell_of_row _ _ 9 _ _ _ rk_6
            have f0_rk_6 := frozen_of_row _ _ 0 _ _ rk_6
            have f1_rk_6 := frozen_of_row _ _ 1 _ _ rk_6
            have f2_rk_6 := frozen_of_row _ _ 2 _ _ rk_6
            have f3_rk_6 := frozen_of_row _ _ 3 _ _ rk_6
            have f4_rk_6 := frozen_of_row _ _ 4 _ _ rk_6
            have f5_rk_6 := frozen_of_row _ _ 5 _ _ rk_6
            have f6_rk_6 := frozen_of_row _ _ 6 _ _ rk_6
            have f7_rk_6 := frozen_of_row _ _ 7 _ _ rk_6
            have f8_rk_6 := frozen_of_row _ _ 8 _ _ rk_6
            have f9_rk_6 := frozen_of_row _ _ 9 _ _ rk_6
            simp at r0_rk_6 r1_rk_6 r2_rk_6 r3_rk_6 r4_rk_6 r5_rk_6 r6_rk_6 r7_rk_6 r8_rk_6 r9_rk_6
            clear rk_6
            have Rt_6 := Lib.hid rt_6
            have r0_rt_6 := cell_of_row _ _ 0 _ _ _ rt_6
            have r1_rt_6 := cell_of_row _ _ 1 _ _ _ rt_6
            have r2_rt_6 := cell_of_row _ _ 2 _ _ _ rt_6
            have f0_rt_6 := frozen_of_row _ _ 0 _ _ rt_6
            have f1_rt_6 := frozen_of_row _ _ 1 _ _ rt_6
            have f2_rt_6 := frozen_of_row _ _ 2 _ _ rt_6
            simp at r0_rt_6 r1_rt_6 r2_rt_6
            clear rt_6
            clear r0_rk_5 f0_rk_5 r1_rk_5 f1_rk_5 r2_rk_5 f2_rk_5 r3_rk_5 f3_rk_5 r4_rk_5 f4_rk_5 r5_rk_5 f5_rk_5 r6_rk_5 f6_rk_5 r7_rk_5 f7_rk_5 r8_rk_5 f8_rk_5 r9_rk_5 f9_rk_5
            clear r0_rt_5 f0_rt_5 r1_rt_5 f1_rt_5 r2_rt_5 f2_rt_5
            cases HS
            case false =>
              go_wp2_with fail
              go_roundw
              case rel => exact ⟨j + 1, cn, by omega, by simp; omega, by first | rfl | go_num, (by rw [HNX.out, HWB.out]; simp : cn = cntN x ta tb tc sq ck (j + 1)), (fun h => absurd h (by decide) : true = false → _), Lib.hid (by repeat (first | (with_reducible apply heap_setCell_same) | (with_reducible apply drew_row) | (with_reducible apply drewN_row) | (with_reducible exact Rk_6.out) | (with_reducible refine (heap_setCell_other _ _ _ _ (by first | omega | (simp; done) | (simp; omega))).trans ?_) | (with_reducible refine (Below.heap_alloc _ _ _ (by first | omega | (simp; done) | (simp; omega))).trans ?_))), Lib.hid (by repeat (first | (with_reducible apply heap_setCell_same) | (with_reducible apply drew_row) | (with_reducible apply drewN_row) | (with_reducible exact Rt_6.out) | (with_reducible refine (heap_setCell_other _ _ _ _ (by first | omega | (simp; done) | (simp; omega))).trans ?_) | (with_reducible refine (Below.heap_alloc _ _ _ (by first | omega | (simp; done) | (simp; omega))).trans ?_))), Lib.hid (Ok1_6.out.below (by repeat (first | with_reducible exact Below.refl _ _ | with_reducible assumption | with_reducible refine Below.drew ?_ | with_reducible refine Below.alloc ?_ (by first | exact Nat.le_refl _ | omega | (simp; done) | (simp; omega)) _ | with_reducible refine Below.setCell ?_ (by first | exact Nat.le_refl _ | omega | (simp; done) | (simp; omega)) _ | (with_reducible refine ext_trans ?_ (by with_reducible assumption))))), Lib.hid (Ok2_6.out.below (by repeat (first | with_reducible exact Below.refl _ _ | with_reducible assumption | with_reducible refine Below.drew ?_ | with_reducible refine Below.alloc ?_ (by first | exact Nat.le_refl _ | omega | (simp; done) | (simp; omega)) _ | with_reducible refine Below.setCell ?_ (by first | exact Nat.le_refl _ | omega | (simp; done) | (simp; omega)) _ | (with_reducible refine ext_trans ?_ (by with_reducible assumption))))), (by repeat (first | with_reducible exact Below.refl _ _ | with_reducible assumption | with_reducible refine Below.drew ?_ | with_reducible refine Below.alloc ?_ (by first | exact Nat.le_refl _ | omega | (simp; done) | (simp; omega)) _ | with_reducible refine Below.setCell ?_ (by first | exact Nat.le_refl _ | omega | (simp; done) | (simp; omega)) _ | (with_reducible refine ext_trans ?_ (by with_reducible assumption))))⟩
              case measure => simp [intOf]; omega
            case true =>
              go_wp2_with fail
              refine (Q4.out _ _ (Om1_6.out.below (by repeat (first | with_reducible exact Below.refl _ _ | with_reducible assumption | with_reducible refine Below.drew ?_ | with_reducible refine Below.alloc ?_ (by first | exact Nat.le_refl _ | omega | (simp; done) | (simp; omega)) _ | with_reducible refine Below.setCell ?_ (by first | exact Nat.le_refl _ | omega | (simp; done) | (simp; omega)) _ | (with_reducible refine ext_trans ?_ (by with_reducible assumption))))).rd).mono ?_
              rintro e w7 ⟨rfl, hb7⟩
              have hz7 := hb7.size
              (try simp at hz7)
              have rk_7 := (hb7.block _ (by first | omega | (simp; done) | (simp; omega))).trans ((Below.heap_alloc _ _ _ (by first | exact lRk_6 | (simp; omega))).trans Rk_6.out)
              have rt_7 := (hb7.block _ (by first | omega | (simp; done) | (simp; omega))).trans ((Below.heap_alloc _ _ _ (by first | exact lRt_6 | (simp; omega))).trans Rt_6.out)
              have rm_7 : w7.heap[w6.heap.size]? = some (.cells #[.bool M.u, .int .u64 (uI M.k), .int .u64 (uI M.l), .slice D1 M.rs.length d1] 27 (0, 0)) := (hb7.block _ (by first | (simp; done) | (simp; omega))).trans (by repeat (first | exact heap_new _ _ _ (by first | rfl | (simp; done) | (simp; omega)) | refine (Below.heap_alloc _ _ _ (by first | omega | (simp; done) | (simp; omega))).trans ?_))
              have Ok1_7 := Lib.hid (Ok1_6.out.below (w' := w7) (by repeat (first | with_reducible exact Below.refl _ _ | with_reducible assumption | with_reducible refine Below.drew ?_ | with_reducible refine Below.alloc ?_ (by first | exact Nat.le_refl _ | omega | (simp; done) | (simp; omega)) _ | with_reducible refine Below.setCell ?_ (by first | exact Nat.le_refl _ | omega | (simp; done) | (simp; omega)) _ | (with_reducible refine ext_trans ?_ (by with_reducible assumption)))))
              have Ok2_7 := Lib.hid (Ok2_6.out.below (w' := w7) (by repeat (first | with_reducible exact Below.refl _ _ | with_reducible assumption | with_reducible refine Below.drew ?_ | with_reducible refine Below.alloc ?_ (by first | exact Nat.le_refl _ | omega | (simp; done) | (simp; omega)) _ | with_reducible refine Below.setCell ?_ (by first | exact Nat.le_refl _ | omega | (simp; done) | (simp; omega)) _ | (with_reducible refine ext_trans ?_ (by with_reducible assumption)))))
              have Om1_7 := Lib.hid (Om1_6.out.below (w' := w7) (by repeat (first | with_reducible exact Below.refl _ _ | with_reducible assumption | with_reducible refine Below.drew ?_ | with_reducible refine Below.alloc ?_ (by first | exact Nat.le_refl _ | omega | (simp; done) | (simp; omega)) _ | with_reducible refine Below.setCell ?_ (by first | exact Nat.le_refl _ | omega | (simp; done) | (simp; omega)) _ | (with_reducible refine ext_trans ?_ (by with_reducible assumption)))))
              have hw7 : Below w.heap.size w w7 := (by repeat (first | with_reducible exact Below.refl _ _ | with_reducible assumption | with_reducible refine Below.drew ?_ | with_reducible refine Below.alloc ?_ (by first | exact Nat.le_refl _ | omega | (simp; done) | (simp; omega)) _ | with_reducible refine Below.setCell ?_ (by first | exact Nat.le_refl _ | omega | (simp; done) | (simp; omega)) _ | (with_reducible refine ext_trans ?_ (by with_reducible assumption))))
              have lRk_7 : w1.heap.size < w7.heap.size := by omega
              have lRt_7 : w1.heap.size + 1 < w7.heap.size := by omega
              have lRm_7 : w6.heap.size < w7.heap.size := by omega
              have Rk_7 := Lib.hid rk_7
              have r0_rk_7 := cell_of_row _ _ 0 _ _ _ rk_7
              have r1_rk_7 := cell_of_row _ _ 1 _ _ _ rk_7
              have r2_rk_7 := cell_of_row _ _ 2 _ _ _ rk_7
              have r3_rk_7 := cell_of_row _ _ 3 _ _ _ rk_7
              have r4_rk_7 := cell_of_row _ _ 4 _ _ _ rk_7
              have r5_rk_7 := cell_of_row _ _ 5 _ _ _ rk_7
              have r6_rk_7 := cell_of_row _ _ 6 _ _ _ rk_7
              have r7_rk_7 := cell_of_row _ _ 7 _ _ _ rk_7
              have r8_rk_7 := cell_of_row _ _ 8 _ _ _ rk_7
              have r9_rk_7 := cell_of_row _ _ 9 _ _ _ rk_7
              have f0_rk_7 := frozen_of_row _ _ 0 _ _ rk_7
              have f1_rk_7 := frozen_of_row _ _ 1 _ _ rk_7
              have f2_rk_7 := frozen_of_row _ _ 2 _ _ rk_7
              have f3_rk_7 := frozen_of_row _ _ 3 _ _ rk_7
              have f4_rk_7 := frozen_of_row _ _ 4 _ _ rk_7
              have f5_rk_7 := frozen_of_row _ _ 5 _ _ rk_7
              have f6_rk_7 := frozen_of_row _ _ 6 _ _ rk_7
              have f7_rk_7 := frozen_of_row _ _ 7 _ _ rk_7
              have f8_rk_7 := frozen_of_row _ _ 8 _ _ rk_7
              have f9_rk_7 := frozen_of_row _ _ 9 _ _ rk_7
              simp at r0_rk_7 r1_rk_7 r2_rk_7 r3_rk_7 r4_rk_7 r5_rk_7 r6_rk_7 r7_rk_7 r8_rk_7 r9_rk_7
              clear rk_7
              have Rt_7 := Lib.hid rt_7
              have r0_rt_7 := cell_of_row _ _ 0 _ _ _ rt_7
              have r1_rt_7 := cell_of_row _ _ 1 _ _ _ rt_7
              have r2_rt_7 := cell_of_row _ _ 2 _ _ _ rt_7
              have f0_rt_7 := frozen_of_row _ _ 0 _ _ rt_7
              have f1_rt_7 := frozen_of_row _ _ 1 _ _ rt_7
              have f2_rt_7 := frozen_of_row _ _ 2 _ _ rt_7
              simp at r0_rt_7 r1_rt_7 r2_rt_7
              clear rt_7
              have Rm_7 := Lib.hid rm_7
              have r0_rm_7 := cell_of_row _ _ 0 _ _ _ rm_7
              have r1_rm_7 := cell_of_row _ _ 1 _ _ _ rm_7
              have r2_rm_7 := cell_of_row _ _ 2 _ _ _ rm_7
              have r3_rm_7 := cell_of_row _ _ 3 _ _ _ rm_7
              have f0_rm_7 := frozen_of_row _ _ 0 _ _ rm_7
              have f1_rm_7 := frozen_of_row _ _ 1 _ _ rm_7
              have f2_rm_7 := frozen_of_row _ _ 2 _ _ rm_7
              have f3_rm_7 := frozen_of_row _ _ 3 _ _ rm_7
              simp at r0_rm_7 r1_rm_7 r2_rm_7 r3_rm_7
              clear rm_7
              clear r0_rk_6 f0_rk_6 r1_rk_6 f1_rk_6 r2_rk_6 f2_rk_6 r3_rk_6 f3_rk_6 r4_rk_6 f4_rk_6 r5_rk_6 f5_rk_6 r6_rk_6 f6_rk_6 r7_rk_6 f7_rk_6 r8_rk_6 f8_rk_6 r9_rk_6 f9_rk_6
              clear r0_rt_6 f0_rt_6 r1_rt_6 f1_rt_6 r2_rt_6 f2_rt_6
              by_cases heq : CK = ck
              case pos =>
                have HEQ := Lib.hid heq
                have hq : (CK == ck) = true := by simpa using heq
                clear heq
                go_wp2_with fail
                go_roundw
                case rel => exact ⟨j + 1, (cn + 1), by omega, by simp; omega, by first | rfl | go_num, (by rw [HNX.out, HWB.out, HCK.out, HEQ.out]; simp : (cn + 1) = cntN x ta tb tc sq ck (j + 1)), (fun h => absurd h (by decide) : true = false → _), Lib.hid (by repeat (first | (with_reducible apply heap_setCell_same) | (with_reducible apply drew_row) | (with_reducible apply drewN_row) | (with_reducible exact Rk_7.out) | (with_reducible refine (heap_setCell_other _ _ _ _ (by first | omega | (simp; done) | (simp; omega))).trans ?_) | (with_reducible refine (Below.heap_alloc _ _ _ (by first | omega | (simp; done) | (simp; omega))).trans ?_))), Lib.hid (by repeat (first | (with_reducible apply heap_setCell_same) | (with_reducible apply drew_row) | (with_reducible apply drewN_row) | (with_reducible exact Rt_7.out) | (with_reducible refine (heap_setCell_other _ _ _ _ (by first | omega | (simp; done) | (simp; omega))).trans ?_) | (with_reducible refine (Below.heap_alloc _ _ _ (by first | omega | (simp; done) | (simp; omega))).trans ?_))), Lib.hid (Ok1_7.out.below (by repeat (first | with_reducible exact Below.refl _ _ | with_reducible assumption | with_reducible refine Below.drew ?_ | with_reducible refine Below.alloc ?_ (by first | exact Nat.le_refl _ | omega | (simp; done) | (simp; omega)) _ | with_reducible refine Below.setCell ?_ (by first | exact Nat.le_refl _ | omega | (simp; done) | (simp; omega)) _ | (with_reducible refine ext_trans ?_ (by with_reducible assumption))))), Lib.hid (Ok2_7.out.below (by repeat (first | with_reducible exact Below.refl _ _ | with_reducible assumption | with_reducible refine Below.drew ?_ | with_reducible refine Below.alloc ?_ (by first | exact Nat.le_refl _ | omega | (simp; done) | (simp; omega)) _ | with_reducible refine Below.setCell ?_ (by first | exact Nat.le_refl _ | omega | (simp; done) | (simp; omega)) _ | (with_reducible refine ext_trans ?_ (by with_reducible assumption))))), (by repeat (first | with_reducible exact Below.refl _ _ | with_reducible assumption | with_reducible refine Below.drew ?_ | with_reducible refine Below.alloc ?_ (by first | exact Nat.le_refl _ | omega | (simp; done) | (simp; omega)) _ | with_reducible refine Below.setCell ?_ (by first | exact Nat.le_refl _ | omega | (simp; done) | (simp; omega)) _ | (with_reducible refine ext_trans ?_ (by with_reducible assumption))))⟩
                case measure => simp [intOf]; omega
              case neg =>
                have HEQ := Lib.hid heq
                have hq : (CK == ck) = false := by simpa using heq
                clear heq
                go_wp2_with fail
                go_roundw
                case rel => exact ⟨j + 1, cn, by omega, by simp; omega, by first | rfl | go_num, (by rw [HNX.out, HWB.out, HCK.out]; simp [HEQ.out] : cn = cntN x ta tb tc sq ck (j + 1)), (fun h => absurd h (by decide) : true = false → _), Lib.hid (by repeat (first | (with_reducible apply heap_setCell_same) | (with_reducible apply drew_row) | (with_reducible apply drewN_row) | (with_reducible exact Rk_7.out) | (with_reducible refine (heap_setCell_other _ _ _ _ (by first | omega | (simp; done) | (simp; omega))).trans ?_) | (with_reducible refine (Below.heap_alloc _ _ _ (by first | omega | (simp; done) | (simp; omega))).trans ?_))), Lib.hid (by repeat (first | (with_reducible apply heap_setCell_same) | (with_reducible apply drew_row) | (with_reducible apply drewN_row) | (with_reducible exact Rt_7.out) | (with_reducible refine (heap_setCell_other _ _ _ _ (by first | omega | (simp; done) | (simp; omega))).trans ?_) | (with_reducible refine (Below.heap_alloc _ _ _ (by first | omega | (simp; done) | (simp; omega))).trans ?_))), Lib.hid (Ok1_7.out.below (by repeat (first | with_reducible exact Below.refl _ _ | with_reducible assumption | with_reducible refine Below.drew ?_ | with_reducible refine Below.alloc ?_ (by first | exact Nat.le_refl _ | omega | (simp; done) | (simp; omega)) _ | with_reducible refine Below.setCell ?_ (by first | exact Nat.le_refl _ | omega | (simp; done) | (simp; omega)) _ | (with_reducible refine ext_trans ?_ (by with_reducible assumption))))), Lib.hid (Ok2_7.out.below (by repeat (first | with_reducible exact Below.refl _ _ | with_reducible assumption | with_reducible refine Below.drew ?_ | with_reducible refine Below.alloc ?_ (by first | exact Nat.le_refl _ | omega | (simp; done) | (simp; omega)) _ | with_reducible refine Below.setCell ?_ (by first | exact Nat.le_refl _ | omega | (simp; done) | (simp; omega)) _ | (with_reducible refine ext_trans ?_ (by with_reducible assumption))))), (by repeat (first | with_reducible exact Below.refl _ _ | with_reducible assumption | with_reducible refine Below.drew ?_ | with_reducible refine Below.alloc ?_ (by first | exact Nat.le_refl _ | omega | (simp; done) | (simp; omega)) _ | with_reducible refine Below.setCell ?_ (by first | exact Nat.le_refl _ | omega | (simp; done) | (simp; omega)) _ | (with_reducible refine ext_trans ?_ (by with_reducible assumption))))⟩
                case measure => simp [intOf]; omega

set_option maxRecDepth 100000 in
theorem FnTwoEpochs_lifted (os : Os) (started : os.Started) (H : Type) (enc : TypeId × Value → H) :
    ReturnsInHanded {} Try.checked os 5 .any (Rows.fnTwoEpochsSpec.pre6 enc Try.prog Try.f5 Rows.fnTwoEpochsRow.domain false) (Rows.fnTwoEpochsSpec.post enc Try.prog Try.f5 false true false false) := by
  refine law_lifted (C := Try.checked) own_ started (by kernel_rfl) Try.func5 laid_ rfl ?_ ?_ rfl Try.underlying4
    (ChangeSpec.witness6 (enc := enc) (C := Try.checked) false ⟨#[], #[.slice none 0 0], []⟩ 8 (by kernel_rfl) (by kernel_rfl) (by kernel_rfl) (by kernel_rfl)) ?_
  · intro ds h
    match ds, h with
    | [_], _ => rfl
  · intro t ht
    rw [Try.params5] at ht
    simp at ht
    subst ht
    exact ⟨by kernel_rfl, of_decide_eq_true (by kernel_rfl)⟩
  · intro W base args ds p hval hA hlt
    have hval : ∀ (j : Nat) t v, Try.f5.params[j]? = some t → args[j]? = some v → Value.okWide Try.prog W .any base t v := hval
    have hA : DataW.TrodAll enc Try.prog W 0 (fun _ => true) true Try.f5.params.toList args.toList ds p := hA
    rw [Try.params5] at hA hval
    obtain ⟨v0, d0, rfl, rfl, h0⟩ := trodAll_one hA
    obtain ⟨Aa, na, ca, rfl, wna, wba, wca⟩ := open_bytes (hval 0 22 v0 rfl rfl) h0
    exact FnTwoEpochs_walk wna W wba

theorem FnTwoEpochs_holds : Rows.FnTwoEpochsSaid :=
  OpenClaim.holds_of_wide 5 Try.f5 rfl rfl rfl rfl rfl rfl rfl ⟨rfl, rfl, rfl, rfl, rfl⟩ rfl rfl rfl rfl rfl (by kernel_rfl) Try.func5 (by kernel_rfl)
    (of_decide_eq_true (by kernel_rfl)) (by have hw := wrap_ (P := Try.prog) (fn := Try.f5) (by kernel_rfl); exact hw)
    (fun os started H enc _ => FnTwoEpochs_lifted os started H enc)
end Go.Proofs.Ytjlnbjabehpncaa
