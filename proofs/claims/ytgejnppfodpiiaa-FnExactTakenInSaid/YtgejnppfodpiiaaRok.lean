/-
  Contracts of ReceiverOk, the program's and the reference's.
-/
import Derived.Test.YtgejnppfodpiiaaRcv
namespace Go.Proofs.Ytgejnppfodpiiaa
set_option maxRecDepth 100000
open Go.RowKit
/-- Where the held pieces end, if each lies behind the one before it and within W. -/
def heldGo (W : Int) : Int → List RPiece → Option Int
  | e, [] => some e
  | e, p :: l => if (p.2.size : Int) = 0 ∨ p.1 ≤ e ∨ W - (p.2.size : Int) < p.1 then none else heldGo W (p.1 + (p.2.size : Int)) l
theorem heldGo_ge {W : Int} : ∀ {l : List RPiece} {e e' : Int}, heldGo W e l = some e' → e ≤ e'
  | [], e, e', h => by
    simp [heldGo] at h
    omega
  | p :: l, e, e', h => by
    unfold heldGo at h
    split at h
    · cases h
    · have := heldGo_ge h
      omega
theorem heldGo_less {W F : Int} (hF : F ≤ W) : ∀ {l : List RPiece} {e : Int}, e ≤ F → (heldGo F e l).isSome = (match heldGo W e l with | none => false | some e' => decide (e' ≤ F))
  | [], e, he => by simp [heldGo, he]
  | p :: l, e, he => by
    unfold heldGo
    by_cases h1 : (p.2.size : Int) = 0 ∨ p.1 ≤ e ∨ W - (p.2.size : Int) < p.1
    · rw [if_pos h1, if_pos (by omega)]
      rfl
    · rw [if_neg h1]
      by_cases h2 : F - (p.2.size : Int) < p.1
      · rw [if_pos (by omega)]
        cases hh : heldGo W (p.1 + (p.2.size : Int)) l with
        | none => rfl
        | some e' =>
          have := heldGo_ge hh
          simp
          omega
      · rw [if_neg (by omega)]
        exact heldGo_less hF (by omega)
theorem heldGo_bad {W e : Int} {hs : List RPiece} {q : Nat} {p : RPiece} {R : Option Int} (h : heldGo W e (hs.drop q) = R) (hq : q < hs.length) (hp : hs[q] = p) (hc : (p.2.size : Int) = 0 ∨ p.1 ≤ e ∨ W - (p.2.size : Int) < p.1) : R = none := by
  rw [← h, List.drop_eq_getElem_cons hq, hp, heldGo, if_pos hc]
theorem heldGo_good {W e : Int} {hs : List RPiece} {q : Nat} {p : RPiece} {R : Option Int} (h : heldGo W e (hs.drop q) = R) (hq : q < hs.length) (hp : hs[q] = p) (hc : ¬ ((p.2.size : Int) = 0 ∨ p.1 ≤ e ∨ W - (p.2.size : Int) < p.1)) : heldGo W (p.1 + (p.2.size : Int)) (hs.drop (q + 1)) = R := by
  rw [← h, List.drop_eq_getElem_cons hq, hp, heldGo, if_neg hc]
theorem heldGo_end {W e : Int} {hs : List RPiece} {R : Option Int} (h : heldGo W e (hs.drop hs.length) = R) : R = some e := by
  rw [← h, List.drop_length]
  rfl
def RRcv.tail (x : RRcv) : Bool := !x.dn || (decide ((x.hs.length : Int) = 0) && decide (x.fin = -1))
def RRcv.ok (x : RRcv) : Bool := wordB x.nx 32 && (decide ((x.d.size : Int) ≤ 32) && (decide ((x.hs.length : Int) ≤ 3) && (inB x.fin (-1) (winOf x) && (!decide (x.fin = 0) && (match heldGo (winOf x) 0 x.hs with | none => false | some e => (decide (x.fin < 0) || decide (e ≤ x.fin)) && x.tail)))))
def RRcv.fits (x : RRcv) : Prop := x.d.size ≤ maxLen ∧ x.hs.length ≤ maxLen ∧ ∀ p ∈ x.hs, p.2.size ≤ 1048576 ∧ -9223372036854775808 ≤ p.1 ∧ p.1 ≤ 9223372036854775807
theorem ok_all {x : RRcv} (h1 : wordB x.nx 32 = true) (h2 : (x.d.size : Int) ≤ 32) (h3 : (x.hs.length : Int) ≤ 3) (h4 : inB x.fin (-1) (winOf x) = true) (h5 : ¬ x.fin = 0) : x.ok = (match heldGo (winOf x) 0 x.hs with | none => false | some e => (decide (x.fin < 0) || decide (e ≤ x.fin)) && x.tail) := by
  simp [RRcv.ok, h1, h2, h3, h4, h5]
theorem ok_any {x : RRcv} {R : Option Int} (hR : heldGo (winOf x) 0 x.hs = R) (h1 : wordB x.nx 32 = true) (h2 : (x.d.size : Int) ≤ 32) (h3 : (x.hs.length : Int) ≤ 3) (h4 : inB x.fin (-1) (winOf x) = true) (h5 : ¬ x.fin = 0) : x.ok = R.any fun e => (decide (x.fin < 0) || decide (e ≤ x.fin)) && x.tail := by
  rw [ok_all h1 h2 h3 h4 h5, hR]
  cases R <;> rfl
theorem ok_low {x : RRcv} {R : Option Int} (hR : heldGo (winOf x) 0 x.hs = R) (h1 : wordB x.nx 32 = true) (h2 : (x.d.size : Int) ≤ 32) (h3 : (x.hs.length : Int) ≤ 3) (h4 : inB x.fin (-1) (winOf x) = true) (h5 : x.fin = -1) : x.ok = (R.isSome && x.tail) := by
  rw [ok_all h1 h2 h3 h4 (by omega), hR]
  cases R with
  | none => rfl
  | some e => simp [h5]
theorem ok_high {x : RRcv} {R : Option Int} (hR : heldGo x.fin 0 x.hs = R) (h1 : wordB x.nx 32 = true) (h2 : (x.d.size : Int) ≤ 32) (h3 : (x.hs.length : Int) ≤ 3) (h4 : inB x.fin (-1) (winOf x) = true) (h5 : ¬ x.fin = 0) (h6 : ¬ x.fin = -1) : x.ok = (R.isSome && x.tail) := by
  have hb := inB_iff.1 h4
  have hl := heldGo_less (F := x.fin) hb.2 (l := x.hs) (e := 0) (by omega)
  rw [ok_all h1 h2 h3 h4 h5, ← hR, hl]
  have hn : decide (x.fin < 0) = false := by
    rw [decide_eq_false_iff_not]
    omega
  rw [hn]
  cases heldGo (winOf x) 0 x.hs with
  | none => rfl
  | some e => rfl

set_option maxHeartbeats 4000000 in
theorem ReceiverOk_any (x : RRcv) (v : Value) (hf : x.fits) (w : World) (h : RdPiece w v x.hs) :
    Calls Try.prog 20 #[vR x v] w fun e w' => e = .returned (.bool x.ok) ∧ Below w.heap.size w w' := by
  obtain ⟨A, c, rfl, -⟩ := id h
  obtain ⟨nx, d, hs, fin, dn⟩ := x
  dsimp only at *
  obtain ⟨hfd, hfl, hfp⟩ := hf
  have hwb := winOf_bd ⟨nx, d, hs, fin, dn⟩
  have hwin := fun W h => WindowOf_any ⟨nx, d, hs, fin, dn⟩ (.slice A hs.length c) hfd W h
  dsimp only at hfd hfl hfp hwin
  have H := Lib.hid h
  have FP := Lib.hid hfp
  unfold maxLen at hfd hfl
  clear h hfp
  obtain ⟨B, hB⟩ : ∃ B, RRcv.ok ⟨nx, d, hs, fin, dn⟩ = B := ⟨_, rfl⟩
  rw [hB]
  have HB := Lib.hid hB
  have hbad : winOf ⟨nx, d, hs, fin, dn⟩ = winOf ⟨nx, d, hs, fin, dn⟩ := rfl
  obtain ⟨Wn, hW⟩ : ∃ W, winOf ⟨nx, d, hs, fin, dn⟩ = W := ⟨_, rfl⟩
  rw [hW] at hwb hwin
  obtain ⟨hw1, hw2⟩ := hwb
  have HW := Lib.hid hW
  have HWIN := Lib.hid hwin
  clear hB hwin hbad hW
  by_cases h1 : wordB nx 32 = true
  case neg =>
    have h1 := Bool.eq_false_iff.2 h1
    have hb : B = false := by rw [← HB.out]; simp [RRcv.ok, h1]
    clear HB
    subst hb
    go_enter Try.func20, Try.ntmps20
    go_wp2_with fail
    refine (HWIN.out _ (H.out.below (by repeat (first | with_reducible exact Below.refl _ _ | with_reducible assumption | with_reducible refine Below.drew ?_ | with_reducible refine Below.alloc ?_ (by first | exact Nat.le_refl _ | omega | (simp; done) | (simp; omega)) _ | with_reducible refine Below.setCell ?_ (by first | exact Nat.le_refl _ | omega | (simp; done) | (simp; omega)) _ | (with_reducible refine ext_trans ?_ (by with_reducible assumption)))))).mono ?_
    rintro e' w1 ⟨rfl, hb1⟩
    have hz1 := hb1.size
    simp at hz1
    have ha : w1.heap[w.heap.size]? = some (.cells #[.int .i64 nx, .string d, .slice A hs.length c, .int .i64 fin, .bool dn] 24 (0, 0)) := (hb1.block _ (by first | (simp; done) | (simp; omega))).trans (by repeat (first | exact heap_new _ _ _ (by first | rfl | (simp; done) | (simp; omega)) | refine (Below.heap_alloc _ _ _ (by first | omega | (simp; done) | (simp; omega))).trans ?_))
    have r0_ha := cell_of_row _ _ 0 _ _ _ ha
    have r1_ha := cell_of_row _ _ 1 _ _ _ ha
    have r2_ha := cell_of_row _ _ 2 _ _ _ ha
    have r3_ha := cell_of_row _ _ 3 _ _ _ ha
    have r4_ha := cell_of_row _ _ 4 _ _ _ ha
    have f0_ha := frozen_of_row _ _ 0 _ _ ha
    have f1_ha := frozen_of_row _ _ 1 _ _ ha
    have f2_ha := frozen_of_row _ _ 2 _ _ ha
    have f3_ha := frozen_of_row _ _ 3 _ _ ha
    have f4_ha := frozen_of_row _ _ 4 _ _ ha
    simp at r0_ha r1_ha r2_ha r3_ha r4_ha
    have HA := Lib.hid ha
    clear ha
    go_wp2_with (first | (go_at_call 34; refine (WordOk_any _ _ _).mono ?_; rintro e' w' ⟨rfl, rfl⟩) | (go_at_call 35; refine (within_any _ _ _ _).mono ?_; rintro e' w' ⟨rfl, rfl⟩))
    all_goals
      go_ret
      exact ⟨rfl, (by repeat (first | with_reducible exact Below.refl _ _ | with_reducible assumption | with_reducible refine Below.drew ?_ | with_reducible refine Below.alloc ?_ (by first | exact Nat.le_refl _ | omega | (simp; done) | (simp; omega)) _ | with_reducible refine Below.setCell ?_ (by first | exact Nat.le_refl _ | omega | (simp; done) | (simp; omega)) _ | (with_reducible refine ext_trans ?_ (by with_reducible assumption))))⟩
  by_cases h2 : (d.size : Int) ≤ 32
  case neg =>
    have hb : B = false := by rw [← HB.out]; simp [RRcv.ok, h2]
    clear HB
    subst hb
    go_enter Try.func20, Try.ntmps20
    go_wp2_with fail
    refine (HWIN.out _ (H.out.below (by repeat (first | with_reducible exact Below.refl _ _ | with_reducible assumption | with_reducible refine Below.drew ?_ | with_reducible refine Below.alloc ?_ (by first | exact Nat.le_refl _ | omega | (simp; done) | (simp; omega)) _ | with_reducible refine Below.setCell ?_ (by first | exact Nat.le_refl _ | omega | (simp; done) | (simp; omega)) _ | (with_reducible refine ext_trans ?_ (by with_reducible assumption)))))).mono ?_
    rintro e' w1 ⟨rfl, hb1⟩
    have hz1 := hb1.size
    simp at hz1
    have ha : w1.heap[w.heap.size]? = some (.cells #[.int .i64 nx, .string d, .slice A hs.length c, .int .i64 fin, .bool dn] 24 (0, 0)) := (hb1.block _ (by first | (simp; done) | (simp; omega))).trans (by repeat (first | exact heap_new _ _ _ (by first | rfl | (simp; done) | (simp; omega)) | refine (Below.heap_alloc _ _ _ (by first | omega | (simp; done) | (simp; omega))).trans ?_))
    have r0_ha := cell_of_row _ _ 0 _ _ _ ha
    have r1_ha := cell_of_row _ _ 1 _ _ _ ha
    have r2_ha := cell_of_row _ _ 2 _ _ _ ha
    have r3_ha := cell_of_row _ _ 3 _ _ _ ha
    have r4_ha := cell_of_row _ _ 4 _ _ _ ha
    have f0_ha := frozen_of_row _ _ 0 _ _ ha
    have f1_ha := frozen_of_row _ _ 1 _ _ ha
    have f2_ha := frozen_of_row _ _ 2 _ _ ha
    have f3_ha := frozen_of_row _ _ 3 _ _ ha
    have f4_ha := frozen_of_row _ _ 4 _ _ ha
    simp at r0_ha r1_ha r2_ha r3_ha r4_ha
    have HA := Lib.hid ha
    clear ha
    go_wp2_with (first | (go_at_call 34; refine (WordOk_any _ _ _).mono ?_; rintro e' w' ⟨rfl, rfl⟩) | (go_at_call 35; refine (within_any _ _ _ _).mono ?_; rintro e' w' ⟨rfl, rfl⟩))
    all_goals
      go_ret
      exact ⟨rfl, (by repeat (first | with_reducible exact Below.refl _ _ | with_reducible assumption | with_reducible refine Below.drew ?_ | with_reducible refine Below.alloc ?_ (by first | exact Nat.le_refl _ | omega | (simp; done) | (simp; omega)) _ | with_reducible refine Below.setCell ?_ (by first | exact Nat.le_refl _ | omega | (simp; done) | (simp; omega)) _ | (with_reducible refine ext_trans ?_ (by with_reducible assumption))))⟩
  by_cases h3 : (hs.length : Int) ≤ 3
  case neg =>
    have hb : B = false := by rw [← HB.out]; simp [RRcv.ok, h3]
    clear HB
    subst hb
    go_enter Try.func20, Try.ntmps20
    go_wp2_with fail
    refine (HWIN.out _ (H.out.below (by repeat (first | with_reducible exact Below.refl _ _ | with_reducible assumption | with_reducible refine Below.drew ?_ | with_reducible refine Below.alloc ?_ (by first | exact Nat.le_refl _ | omega | (simp; done) | (simp; omega)) _ | with_reducible refine Below.setCell ?_ (by first | exact Nat.le_refl _ | omega | (simp; done) | (simp; omega)) _ | (with_reducible refine ext_trans ?_ (by with_reducible assumption)))))).mono ?_
    rintro e' w1 ⟨rfl, hb1⟩
    have hz1 := hb1.size
    simp at hz1
    have ha : w1.heap[w.heap.size]? = some (.cells #[.int .i64 nx, .string d, .slice A hs.length c, .int .i64 fin, .bool dn] 24 (0, 0)) := (hb1.block _ (by first | (simp; done) | (simp; omega))).trans (by repeat (first | exact heap_new _ _ _ (by first | rfl | (simp; done) | (simp; omega)) | refine (Below.heap_alloc _ _ _ (by first | omega | (simp; done) | (simp; omega))).trans ?_))
    have r0_ha := cell_of_row _ _ 0 _ _ _ ha
    have r1_ha := cell_of_row _ _ 1 _ _ _ ha
    have r2_ha := cell_of_row _ _ 2 _ _ _ ha
    have r3_ha := cell_of_row _ _ 3 _ _ _ ha
    have r4_ha := cell_of_row _ _ 4 _ _ _ ha
    have f0_ha := frozen_of_row _ _ 0 _ _ ha
    have f1_ha := frozen_of_row _ _ 1 _ _ ha
    have f2_ha := frozen_of_row _ _ 2 _ _ ha
    have f3_ha := frozen_of_row _ _ 3 _ _ ha
    have f4_ha := frozen_of_row _ _ 4 _ _ ha
    simp at r0_ha r1_ha r2_ha r3_ha r4_ha
    have HA := Lib.hid ha
    clear ha
    go_wp2_with (first | (go_at_call 34; refine (WordOk_any _ _ _).mono ?_; rintro e' w' ⟨rfl, rfl⟩) | (go_at_call 35; refine (within_any _ _ _ _).mono ?_; rintro e' w' ⟨rfl, rfl⟩))
    all_goals
      go_ret
      exact ⟨rfl, (by repeat (first | with_reducible exact Below.refl _ _ | with_reducible assumption | with_reducible refine Below.drew ?_ | with_reducible refine Below.alloc ?_ (by first | exact Nat.le_refl _ | omega | (simp; done) | (simp; omega)) _ | with_reducible refine Below.setCell ?_ (by first | exact Nat.le_refl _ | omega | (simp; done) | (simp; omega)) _ | (with_reducible refine ext_trans ?_ (by with_reducible assumption))))⟩
  by_cases h4 : inB fin (-1) Wn = true
  case neg =>
    have h4 := Bool.eq_false_iff.2 h4
    have hb : B = false := by rw [← HB.out]; simp [RRcv.ok, HW.out, h4]
    clear HB
    subst hb
    go_enter Try.func20, Try.ntmps20
    go_wp2_with fail
    refine (HWIN.out _ (H.out.below (by repeat (first | with_reducible exact Below.refl _ _ | with_reducible assumption | with_reducible refine Below.drew ?_ | with_reducible refine Below.alloc ?_ (by first | exact Nat.le_refl _ | omega | (simp; done) | (simp; omega)) _ | with_reducible refine Below.setCell ?_ (by first | exact Nat.le_refl _ | omega | (simp; done) | (simp; omega)) _ | (with_reducible refine ext_trans ?_ (by with_reducible assumption)))))).mono ?_
    rintro e' w1 ⟨rfl, hb1⟩
    have hz1 := hb1.size
    simp at hz1
    have ha : w1.heap[w.heap.size]? = some (.cells #[.int .i64 nx, .string d, .slice A hs.length c, .int .i64 fin, .bool dn] 24 (0, 0)) := (hb1.block _ (by first | (simp; done) | (simp; omega))).trans (by repeat (first | exact heap_new _ _ _ (by first | rfl | (simp; done) | (simp; omega)) | refine (Below.heap_alloc _ _ _ (by first | omega | (simp; done) | (simp; omega))).trans ?_))
    have r0_ha := cell_of_row _ _ 0 _ _ _ ha
    have r1_ha := cell_of_row _ _ 1 _ _ _ ha
    have r2_ha := cell_of_row _ _ 2 _ _ _ ha
    have r3_ha := cell_of_row _ _ 3 _ _ _ ha
    have r4_ha := cell_of_row _ _ 4 _ _ _ ha
    have f0_ha := frozen_of_row _ _ 0 _ _ ha
    have f1_ha := frozen_of_row _ _ 1 _ _ ha
    have f2_ha := frozen_of_row _ _ 2 _ _ ha
    have f3_ha := frozen_of_row _ _ 3 _ _ ha
    have f4_ha := frozen_of_row _ _ 4 _ _ ha
    simp at r0_ha r1_ha r2_ha r3_ha r4_ha
    have HA := Lib.hid ha
    clear ha
    go_wp2_with (first | (go_at_call 34; refine (WordOk_any _ _ _).mono ?_; rintro e' w' ⟨rfl, rfl⟩) | (go_at_call 35; refine (within_any _ _ _ _).mono ?_; rintro e' w' ⟨rfl, rfl⟩))
    all_goals
      go_ret
      exact ⟨rfl, (by repeat (first | with_reducible exact Below.refl _ _ | with_reducible assumption | with_reducible refine Below.drew ?_ | with_reducible refine Below.alloc ?_ (by first | exact Nat.le_refl _ | omega | (simp; done) | (simp; omega)) _ | with_reducible refine Below.setCell ?_ (by first | exact Nat.le_refl _ | omega | (simp; done) | (simp; omega)) _ | (with_reducible refine ext_trans ?_ (by with_reducible assumption))))⟩
  by_cases h5 : fin = 0
  case pos =>
    have hb : B = false := by rw [← HB.out]; simp [RRcv.ok, h5]
    clear HB
    subst hb h5
    go_enter Try.func20, Try.ntmps20
    go_wp2_with fail
    refine (HWIN.out _ (H.out.below (by repeat (first | with_reducible exact Below.refl _ _ | with_reducible assumption | with_reducible refine Below.drew ?_ | with_reducible refine Below.alloc ?_ (by first | exact Nat.le_refl _ | omega | (simp; done) | (simp; omega)) _ | with_reducible refine Below.setCell ?_ (by first | exact Nat.le_refl _ | omega | (simp; done) | (simp; omega)) _ | (with_reducible refine ext_trans ?_ (by with_reducible assumption)))))).mono ?_
    rintro e' w1 ⟨rfl, hb1⟩
    have hz1 := hb1.size
    simp at hz1
    have ha : w1.heap[w.heap.size]? = some (.cells #[.int .i64 nx, .string d, .slice A hs.length c, .int .i64 0, .bool dn] 24 (0, 0)) := (hb1.block _ (by first | (simp; done) | (simp; omega))).trans (by repeat (first | exact heap_new _ _ _ (by first | rfl | (simp; done) | (simp; omega)) | refine (Below.heap_alloc _ _ _ (by first | omega | (simp; done) | (simp; omega))).trans ?_))
    have r0_ha := cell_of_row _ _ 0 _ _ _ ha
    have r1_ha := cell_of_row _ _ 1 _ _ _ ha
    have r2_ha := cell_of_row _ _ 2 _ _ _ ha
    have r3_ha := cell_of_row _ _ 3 _ _ _ ha
    have r4_ha := cell_of_row _ _ 4 _ _ _ ha
    have f0_ha := frozen_of_row _ _ 0 _ _ ha
    have f1_ha := frozen_of_row _ _ 1 _ _ ha
    have f2_ha := frozen_of_row _ _ 2 _ _ ha
    have f3_ha := frozen_of_row _ _ 3 _ _ ha
    have f4_ha := frozen_of_row _ _ 4 _ _ ha
    simp at r0_ha r1_ha r2_ha r3_ha r4_ha
    have HA := Lib.hid ha
    clear ha
    go_wp2_with (first | (go_at_call 34; refine (WordOk_any _ _ _).mono ?_; rintro e' w' ⟨rfl, rfl⟩) | (go_at_call 35; refine (within_any _ _ _ _).mono ?_; rintro e' w' ⟨rfl, rfl⟩))
    all_goals
      go_ret
      exact ⟨rfl, (by repeat (first | with_reducible exact Below.refl _ _ | with_reducible assumption | with_reducible refine Below.drew ?_ | with_reducible refine Below.alloc ?_ (by first | exact Nat.le_refl _ | omega | (simp; done) | (simp; omega)) _ | with_reducible refine Below.setCell ?_ (by first | exact Nat.le_refl _ | omega | (simp; done) | (simp; omega)) _ | (with_reducible refine ext_trans ?_ (by with_reducible assumption))))⟩
  have hfi := inB_iff.1 h4
  obtain ⟨hf1, hf2⟩ := hfi
  have g2 : decide (32 < (d.size : Int)) = false := decide_eq_false (by omega)
  have g3 : decide (3 < (hs.length : Int)) = false := decide_eq_false (by omega)
  have g5 : (fin == 0) = false := by simpa using h5
  by_cases h6 : fin = -1
  · subst h6
    obtain ⟨R, hR⟩ : ∃ R, heldGo Wn 0 hs = R := ⟨_, rfl⟩
    have hb : Hid (B = (R.isSome && RRcv.tail ⟨nx, d, hs, -1, dn⟩)) := HB.out.symm.trans (ok_low (x := ⟨nx, d, hs, -1, dn⟩) (by rw [HW.out]; exact hR) h1 h2 h3 (by rw [HW.out]; exact h4) rfl)
    have HR := Lib.hid hR
    clear hR HB HW
    go_enter Try.func20, Try.ntmps20
    go_wp2_with fail
    refine (HWIN.out _ (H.out.below (by repeat (first | with_reducible exact Below.refl _ _ | with_reducible assumption | with_reducible refine Below.drew ?_ | with_reducible refine Below.alloc ?_ (by first | exact Nat.le_refl _ | omega | (simp; done) | (simp; omega)) _ | with_reducible refine Below.setCell ?_ (by first | exact Nat.le_refl _ | omega | (simp; done) | (simp; omega)) _ | (with_reducible refine ext_trans ?_ (by with_reducible assumption)))))).mono ?_
    rintro e' w1 ⟨rfl, hb1⟩
    have hz1 := hb1.size
    simp at hz1
    have ha : w1.heap[w.heap.size]? = some (.cells #[.int .i64 nx, .string d, .slice A hs.length c, .int .i64 (-1), .bool dn] 24 (0, 0)) := (hb1.block _ (by first | (simp; done) | (simp; omega))).trans (by repeat (first | exact heap_new _ _ _ (by first | rfl | (simp; done) | (simp; omega)) | refine (Below.heap_alloc _ _ _ (by first | omega | (simp; done) | (simp; omega))).trans ?_))
    have r0_ha := cell_of_row _ _ 0 _ _ _ ha
    have r1_ha := cell_of_row _ _ 1 _ _ _ ha
    have r2_ha := cell_of_row _ _ 2 _ _ _ ha
    have r3_ha := cell_of_row _ _ 3 _ _ _ ha
    have r4_ha := cell_of_row _ _ 4 _ _ _ ha
    have f0_ha := frozen_of_row _ _ 0 _ _ ha
    have f1_ha := frozen_of_row _ _ 1 _ _ ha
    have f2_ha := frozen_of_row _ _ 2 _ _ ha
    have f3_ha := frozen_of_row _ _ 3 _ _ ha
    have f4_ha := frozen_of_row _ _ 4 _ _ ha
    simp at r0_ha r1_ha r2_ha r3_ha r4_ha
    have HA := Lib.hid ha
    clear ha
    go_wp2_with (first | (go_at_call 34; refine (WordOk_any _ _ _).mono ?_; rintro e' w' ⟨rfl, rfl⟩) | (go_at_call 35; refine (within_any _ _ _ _).mono ?_; rintro e' w' ⟨rfl, rfl⟩))
    go_loopw [5, 47] (fun y i wr => ∃ (q : Nat) (e : Int), q ≤ hs.length ∧ i = .int .i64 q ∧ y = .int .i64 e ∧ (0 ≤ e ∧ e ≤ 32) ∧ Hid (heldGo Wn e (hs.drop q) = R) ∧ Hid (wr.heap[w.heap.size]? = some (.cells #[.int .i64 nx, .string d, .slice A hs.length c, .int .i64 (-1), .bool dn] 24 (0, 0))) ∧ Below w.heap.size w wr) (fun _ i _ => hs.length - (intOf i).toNat)
    case atStart => exact ⟨0, 0, by omega, rfl, rfl, ⟨by omega, by omega⟩, HR.out, HA.out, (by repeat (first | with_reducible exact Below.refl _ _ | with_reducible assumption | with_reducible refine Below.drew ?_ | with_reducible refine Below.alloc ?_ (by first | exact Nat.le_refl _ | omega | (simp; done) | (simp; omega)) _ | with_reducible refine Below.setCell ?_ (by first | exact Nat.le_refl _ | omega | (simp; done) | (simp; omega)) _ | (with_reducible refine ext_trans ?_ (by with_reducible assumption))))⟩
    case round =>
      clear HA r0_ha r1_ha r2_ha r3_ha r4_ha f0_ha f1_ha f2_ha f3_ha f4_ha
      obtain ⟨q, e, hq, rfl, rfl, ⟨he1, he2⟩, hgo, hRw, hbw⟩ := hrel
      have hr := hRw.out
      have hlR := (Array.getElem?_eq_some_iff.1 hr).1
      have r0_hr := cell_of_row _ _ 0 _ _ _ hr
      have r1_hr := cell_of_row _ _ 1 _ _ _ hr
      have r2_hr := cell_of_row _ _ 2 _ _ _ hr
      have r3_hr := cell_of_row _ _ 3 _ _ _ hr
      have r4_hr := cell_of_row _ _ 4 _ _ _ hr
      have f0_hr := frozen_of_row _ _ 0 _ _ hr
      have f1_hr := frozen_of_row _ _ 1 _ _ hr
      have f2_hr := frozen_of_row _ _ 2 _ _ hr
      have f3_hr := frozen_of_row _ _ 3 _ _ hr
      have f4_hr := frozen_of_row _ _ 4 _ _ hr
      simp at r0_hr r1_hr r2_hr r3_hr r4_hr
      clear hr
      have hbs := hbw.size
      by_cases hlt : q < hs.length
      · obtain ⟨b, off, rfl, hbB, hcell⟩ := H.out.elem ePiece_len (by omega) q hlt
        have hbx := FP.out hs[q] (by simp)
        obtain ⟨z, hz⟩ : ∃ z, hs[q] = z := ⟨_, rfl⟩
        rw [hz] at hcell hbx
        obtain ⟨x0, x1⟩ := z
        have c0 : wr.cell? ⟨b, off + q * 2, none⟩ = some (.int .i64 x0) := (hbw.cell (p := ⟨b, _, none⟩) hbB).trans (hcell 0 (by omega))
        have c1 : wr.cell? ⟨b, off + q * 2 + 1, none⟩ = some (.string x1) := (hbw.cell (p := ⟨b, _, none⟩) hbB).trans (hcell 1 (by omega))
        simp only at hbx
        obtain ⟨hs1, hx1, hx2⟩ := hbx
        have hnq : (q : Int) < (hs.length : Int) := by omega
        have HZ := Lib.hid hz
        clear hcell hz
        by_cases hz : (x1.size : Int) = 0
        · have hRn := heldGo_bad hgo.out hlt HZ.out (.inl hz)
          obtain rfl : x1 = ⟨#[]⟩ := ByteArray.ext (Array.eq_empty_of_size_eq_zero (by simpa using hz))
          have HRN := Lib.hid hRn
          clear hRn
          go_wp2_with fail
          go_ret
          exact ⟨by rw [hb.out, HRN.out]; rfl, (by repeat (first | with_reducible exact Below.refl _ _ | with_reducible assumption | with_reducible refine Below.drew ?_ | with_reducible refine Below.alloc ?_ (by first | exact Nat.le_refl _ | omega | (simp; done) | (simp; omega)) _ | with_reducible refine Below.setCell ?_ (by first | exact Nat.le_refl _ | omega | (simp; done) | (simp; omega)) _ | (with_reducible refine ext_trans ?_ (by with_reducible assumption))))⟩
        have hsz1 := bs_ne_nil (X := x1) (by omega)
        have hsz2 := bs_isEmpty (X := x1) (by omega)
        by_cases ho : x0 ≤ e
        · have HRN := Lib.hid (heldGo_bad hgo.out hlt HZ.out (.inr (.inl ho)))
          go_wp2_with fail
          go_ret
          exact ⟨by rw [hb.out, HRN.out]; rfl, (by repeat (first | with_reducible exact Below.refl _ _ | with_reducible assumption | with_reducible refine Below.drew ?_ | with_reducible refine Below.alloc ?_ (by first | exact Nat.le_refl _ | omega | (simp; done) | (simp; omega)) _ | with_reducible refine Below.setCell ?_ (by first | exact Nat.le_refl _ | omega | (simp; done) | (simp; omega)) _ | (with_reducible refine ext_trans ?_ (by with_reducible assumption))))⟩
        by_cases hm : Wn - (x1.size : Int) < x0
        · have HRN := Lib.hid (heldGo_bad hgo.out hlt HZ.out (.inr (.inr hm)))
          go_wp2_with fail
          go_ret
          exact ⟨by rw [hb.out, HRN.out]; rfl, (by repeat (first | with_reducible exact Below.refl _ _ | with_reducible assumption | with_reducible refine Below.drew ?_ | with_reducible refine Below.alloc ?_ (by first | exact Nat.le_refl _ | omega | (simp; done) | (simp; omega)) _ | with_reducible refine Below.setCell ?_ (by first | exact Nat.le_refl _ | omega | (simp; done) | (simp; omega)) _ | (with_reducible refine ext_trans ?_ (by with_reducible assumption))))⟩
        have HGO := Lib.hid (heldGo_good (p := (x0, x1)) hgo.out hlt HZ.out (by dsimp only; omega))
        have gx1 : decide (Wn < x0) = false := decide_eq_false (by omega)
        have gx2 : decide (Wn < x0 + (x1.size : Int)) = false := decide_eq_false (by omega)
        go_wp2_with fail
        exact ⟨⟨q + 1, _, by omega, by go_num, rfl, ⟨by omega, by omega⟩, HGO.out, (Below.heap_alloc _ _ _ hlR).trans hRw.out, (by repeat (first | with_reducible exact Below.refl _ _ | with_reducible assumption | with_reducible refine Below.drew ?_ | with_reducible refine Below.alloc ?_ (by first | exact Nat.le_refl _ | omega | (simp; done) | (simp; omega)) _ | with_reducible refine Below.setCell ?_ (by first | exact Nat.le_refl _ | omega | (simp; done) | (simp; omega)) _ | (with_reducible refine ext_trans ?_ (by with_reducible assumption))))⟩, by simp [intOf]; omega⟩
      · obtain rfl : q = hs.length := by omega
        have hRe := heldGo_end hgo.out
        have hb2 : Hid (B = (!dn || (decide ((hs.length : Int) = 0) && decide ((-1 : Int) = -1)))) := by rw [hb.out, hRe]; rfl
        clear hb HR
        have HB2 := Lib.hid hb2
        cases dn
        · go_wp2_with fail
          go_ret
          exact ⟨by rw [hb2.out]; rfl, (by repeat (first | with_reducible exact Below.refl _ _ | with_reducible assumption | with_reducible refine Below.drew ?_ | with_reducible refine Below.alloc ?_ (by first | exact Nat.le_refl _ | omega | (simp; done) | (simp; omega)) _ | with_reducible refine Below.setCell ?_ (by first | exact Nat.le_refl _ | omega | (simp; done) | (simp; omega)) _ | (with_reducible refine ext_trans ?_ (by with_reducible assumption))))⟩
        · by_cases hl0 : (hs.length : Int) = 0
          · go_wp2_with fail
            all_goals
              go_ret
              exact ⟨by rw [hb2.out, decide_eq_true hl0]; first | rfl | (simp []; done) | (exfalso; simp_all), (by repeat (first | with_reducible exact Below.refl _ _ | with_reducible assumption | with_reducible refine Below.drew ?_ | with_reducible refine Below.alloc ?_ (by first | exact Nat.le_refl _ | omega | (simp; done) | (simp; omega)) _ | with_reducible refine Below.setCell ?_ (by first | exact Nat.le_refl _ | omega | (simp; done) | (simp; omega)) _ | (with_reducible refine ext_trans ?_ (by with_reducible assumption))))⟩
          · go_wp2_with fail
            all_goals
              go_ret
              exact ⟨by rw [hb2.out, decide_eq_false hl0]; first | rfl | (simp; done) | (exfalso; simp_all), (by repeat (first | with_reducible exact Below.refl _ _ | with_reducible assumption | with_reducible refine Below.drew ?_ | with_reducible refine Below.alloc ?_ (by first | exact Nat.le_refl _ | omega | (simp; done) | (simp; omega)) _ | with_reducible refine Below.setCell ?_ (by first | exact Nat.le_refl _ | omega | (simp; done) | (simp; omega)) _ | (with_reducible refine ext_trans ?_ (by with_reducible assumption))))⟩
  · obtain ⟨R, hR⟩ : ∃ R, heldGo fin 0 hs = R := ⟨_, rfl⟩
    have hb : Hid (B = (R.isSome && RRcv.tail ⟨nx, d, hs, fin, dn⟩)) := HB.out.symm.trans (ok_high (x := ⟨nx, d, hs, fin, dn⟩) hR h1 h2 h3 (by rw [HW.out]; exact h4) h5 h6)
    have HR := Lib.hid hR
    clear hR HB HW
    go_enter Try.func20, Try.ntmps20
    go_wp2_with fail
    refine (HWIN.out _ (H.out.below (by repeat (first | with_reducible exact Below.refl _ _ | with_reducible assumption | with_reducible refine Below.drew ?_ | with_reducible refine Below.alloc ?_ (by first | exact Nat.le_refl _ | omega | (simp; done) | (simp; omega)) _ | with_reducible refine Below.setCell ?_ (by first | exact Nat.le_refl _ | omega | (simp; done) | (simp; omega)) _ | (with_reducible refine ext_trans ?_ (by with_reducible assumption)))))).mono ?_
    rintro e' w1 ⟨rfl, hb1⟩
    have hz1 := hb1.size
    simp at hz1
    have ha : w1.heap[w.heap.size]? = some (.cells #[.int .i64 nx, .string d, .slice A hs.length c, .int .i64 fin, .bool dn] 24 (0, 0)) := (hb1.block _ (by first | (simp; done) | (simp; omega))).trans (by repeat (first | exact heap_new _ _ _ (by first | rfl | (simp; done) | (simp; omega)) | refine (Below.heap_alloc _ _ _ (by first | omega | (simp; done) | (simp; omega))).trans ?_))
    have r0_ha := cell_of_row _ _ 0 _ _ _ ha
    have r1_ha := cell_of_row _ _ 1 _ _ _ ha
    have r2_ha := cell_of_row _ _ 2 _ _ _ ha
    have r3_ha := cell_of_row _ _ 3 _ _ _ ha
    have r4_ha := cell_of_row _ _ 4 _ _ _ ha
    have f0_ha := frozen_of_row _ _ 0 _ _ ha
    have f1_ha := frozen_of_row _ _ 1 _ _ ha
    have f2_ha := frozen_of_row _ _ 2 _ _ ha
    have f3_ha := frozen_of_row _ _ 3 _ _ ha
    have f4_ha := frozen_of_row _ _ 4 _ _ ha
    simp at r0_ha r1_ha r2_ha r3_ha r4_ha
    have HA := Lib.hid ha
    clear ha
    go_wp2_with (first | (go_at_call 34; refine (WordOk_any _ _ _).mono ?_; rintro e' w' ⟨rfl, rfl⟩) | (go_at_call 35; refine (within_any _ _ _ _).mono ?_; rintro e' w' ⟨rfl, rfl⟩))
    go_loopw [5, 47] (fun y i wr => ∃ (q : Nat) (e : Int), q ≤ hs.length ∧ i = .int .i64 q ∧ y = .int .i64 e ∧ (0 ≤ e ∧ e ≤ 32) ∧ Hid (heldGo fin e (hs.drop q) = R) ∧ Hid (wr.heap[w.heap.size]? = some (.cells #[.int .i64 nx, .string d, .slice A hs.length c, .int .i64 fin, .bool dn] 24 (0, 0))) ∧ Below w.heap.size w wr) (fun _ i _ => hs.length - (intOf i).toNat)
    case atStart => exact ⟨0, 0, by omega, rfl, rfl, ⟨by omega, by omega⟩, HR.out, HA.out, (by repeat (first | with_reducible exact Below.refl _ _ | with_reducible assumption | with_reducible refine Below.drew ?_ | with_reducible refine Below.alloc ?_ (by first | exact Nat.le_refl _ | omega | (simp; done) | (simp; omega)) _ | with_reducible refine Below.setCell ?_ (by first | exact Nat.le_refl _ | omega | (simp; done) | (simp; omega)) _ | (with_reducible refine ext_trans ?_ (by with_reducible assumption))))⟩
    case round =>
      clear HA r0_ha r1_ha r2_ha r3_ha r4_ha f0_ha f1_ha f2_ha f3_ha f4_ha
      obtain ⟨q, e, hq, rfl, rfl, ⟨he1, he2⟩, hgo, hRw, hbw⟩ := hrel
      have hr := hRw.out
      have hlR := (Array.getElem?_eq_some_iff.1 hr).1
      have r0_hr := cell_of_row _ _ 0 _ _ _ hr
      have r1_hr := cell_of_row _ _ 1 _ _ _ hr
      have r2_hr := cell_of_row _ _ 2 _ _ _ hr
      have r3_hr := cell_of_row _ _ 3 _ _ _ hr
      have r4_hr := cell_of_row _ _ 4 _ _ _ hr
      have f0_hr := frozen_of_row _ _ 0 _ _ hr
      have f1_hr := frozen_of_row _ _ 1 _ _ hr
      have f2_hr := frozen_of_row _ _ 2 _ _ hr
      have f3_hr := frozen_of_row _ _ 3 _ _ hr
      have f4_hr := frozen_of_row _ _ 4 _ _ hr
      simp at r0_hr r1_hr r2_hr r3_hr r4_hr
      clear hr
      have hbs := hbw.size
      by_cases hlt : q < hs.length
      · obtain ⟨b, off, rfl, hbB, hcell⟩ := H.out.elem ePiece_len (by omega) q hlt
        have hbx := FP.out hs[q] (by simp)
        obtain ⟨z, hz⟩ : ∃ z, hs[q] = z := ⟨_, rfl⟩
        rw [hz] at hcell hbx
        obtain ⟨x0, x1⟩ := z
        have c0 : wr.cell? ⟨b, off + q * 2, none⟩ = some (.int .i64 x0) := (hbw.cell (p := ⟨b, _, none⟩) hbB).trans (hcell 0 (by omega))
        have c1 : wr.cell? ⟨b, off + q * 2 + 1, none⟩ = some (.string x1) := (hbw.cell (p := ⟨b, _, none⟩) hbB).trans (hcell 1 (by omega))
        simp only at hbx
        obtain ⟨hs1, hx1, hx2⟩ := hbx
        have hnq : (q : Int) < (hs.length : Int) := by omega
        have HZ := Lib.hid hz
        clear hcell hz
        by_cases hz : (x1.size : Int) = 0
        · have hRn := heldGo_bad hgo.out hlt HZ.out (.inl hz)
          obtain rfl : x1 = ⟨#[]⟩ := ByteArray.ext (Array.eq_empty_of_size_eq_zero (by simpa using hz))
          have HRN := Lib.hid hRn
          clear hRn
          go_wp2_with fail
          go_ret
          exact ⟨by rw [hb.out, HRN.out]; rfl, (by repeat (first | with_reducible exact Below.refl _ _ | with_reducible assumption | with_reducible refine Below.drew ?_ | with_reducible refine Below.alloc ?_ (by first | exact Nat.le_refl _ | omega | (simp; done) | (simp; omega)) _ | with_reducible refine Below.setCell ?_ (by first | exact Nat.le_refl _ | omega | (simp; done) | (simp; omega)) _ | (with_reducible refine ext_trans ?_ (by with_reducible assumption))))⟩
        have hsz1 := bs_ne_nil (X := x1) (by omega)
        have hsz2 := bs_isEmpty (X := x1) (by omega)
        by_cases ho : x0 ≤ e
        · have HRN := Lib.hid (heldGo_bad hgo.out hlt HZ.out (.inr (.inl ho)))
          go_wp2_with fail
          go_ret
          exact ⟨by rw [hb.out, HRN.out]; rfl, (by repeat (first | with_reducible exact Below.refl _ _ | with_reducible assumption | with_reducible refine Below.drew ?_ | with_reducible refine Below.alloc ?_ (by first | exact Nat.le_refl _ | omega | (simp; done) | (simp; omega)) _ | with_reducible refine Below.setCell ?_ (by first | exact Nat.le_refl _ | omega | (simp; done) | (simp; omega)) _ | (with_reducible refine ext_trans ?_ (by with_reducible assumption))))⟩
        by_cases hm : fin - (x1.size : Int) < x0
        · have HRN := Lib.hid (heldGo_bad hgo.out hlt HZ.out (.inr (.inr hm)))
          go_wp2_with fail
          go_ret
          exact ⟨by rw [hb.out, HRN.out]; rfl, (by repeat (first | with_reducible exact Below.refl _ _ | with_reducible assumption | with_reducible refine Below.drew ?_ | with_reducible refine Below.alloc ?_ (by first | exact Nat.le_refl _ | omega | (simp; done) | (simp; omega)) _ | with_reducible refine Below.setCell ?_ (by first | exact Nat.le_refl _ | omega | (simp; done) | (simp; omega)) _ | (with_reducible refine ext_trans ?_ (by with_reducible assumption))))⟩
        have HGO := Lib.hid (heldGo_good (p := (x0, x1)) hgo.out hlt HZ.out (by dsimp only; omega))
        have gx1 : decide (fin < x0) = false := decide_eq_false (by omega)
        have gx2 : decide (fin < x0 + (x1.size : Int)) = false := decide_eq_false (by omega)
        go_wp2_with fail
        exact ⟨⟨q + 1, _, by omega, by go_num, rfl, ⟨by omega, by omega⟩, HGO.out, (Below.heap_alloc _ _ _ hlR).trans hRw.out, (by repeat (first | with_reducible exact Below.refl _ _ | with_reducible assumption | with_reducible refine Below.drew ?_ | with_reducible refine Below.alloc ?_ (by first | exact Nat.le_refl _ | omega | (simp; done) | (simp; omega)) _ | with_reducible refine Below.setCell ?_ (by first | exact Nat.le_refl _ | omega | (simp; done) | (simp; omega)) _ | (with_reducible refine ext_trans ?_ (by with_reducible assumption))))⟩, by simp [intOf]; omega⟩
      · obtain rfl : q = hs.length := by omega
        have hRe := heldGo_end hgo.out
        have hb2 : Hid (B = (!dn || (decide ((hs.length : Int) = 0) && decide (fin = -1)))) := by rw [hb.out, hRe]; rfl
        clear hb HR
        have HB2 := Lib.hid hb2
        cases dn
        · go_wp2_with fail
          go_ret
          exact ⟨by rw [hb2.out]; rfl, (by repeat (first | with_reducible exact Below.refl _ _ | with_reducible assumption | with_reducible refine Below.drew ?_ | with_reducible refine Below.alloc ?_ (by first | exact Nat.le_refl _ | omega | (simp; done) | (simp; omega)) _ | with_reducible refine Below.setCell ?_ (by first | exact Nat.le_refl _ | omega | (simp; done) | (simp; omega)) _ | (with_reducible refine ext_trans ?_ (by with_reducible assumption))))⟩
        · by_cases hl0 : (hs.length : Int) = 0
          · go_wp2_with fail
            all_goals
              go_ret
              exact ⟨by rw [hb2.out, decide_eq_true hl0]; first | rfl | (simp [h6]; done) | (exfalso; simp_all), (by repeat (first | with_reducible exact Below.refl _ _ | with_reducible assumption | with_reducible refine Below.drew ?_ | with_reducible refine Below.alloc ?_ (by first | exact Nat.le_refl _ | omega | (simp; done) | (simp; omega)) _ | with_reducible refine Below.setCell ?_ (by first | exact Nat.le_refl _ | omega | (simp; done) | (simp; omega)) _ | (with_reducible refine ext_trans ?_ (by with_reducible assumption))))⟩
          · go_wp2_with fail
            all_goals
              go_ret
              exact ⟨by rw [hb2.out, decide_eq_false hl0]; first | rfl | (simp; done) | (exfalso; simp_all), (by repeat (first | with_reducible exact Below.refl _ _ | with_reducible assumption | with_reducible refine Below.drew ?_ | with_reducible refine Below.alloc ?_ (by first | exact Nat.le_refl _ | omega | (simp; done) | (simp; omega)) _ | with_reducible refine Below.setCell ?_ (by first | exact Nat.le_refl _ | omega | (simp; done) | (simp; omega)) _ | (with_reducible refine ext_trans ?_ (by with_reducible assumption))))⟩

set_option maxHeartbeats 4000000 in
theorem sReceiverOk_any (x : RRcv) (v : Value) (hf : x.fits) (w : World) (h : RdPiece w v x.hs) :
    Calls Try.prog 19 #[vR x v] w fun e w' => e = .returned (.bool x.ok) ∧ Below w.heap.size w w' := by
  obtain ⟨A, c, rfl, -⟩ := id h
  obtain ⟨nx, d, hs, fin, dn⟩ := x
  dsimp only at *
  obtain ⟨hfd, hfl, hfp⟩ := hf
  have hwb := winOf_bd ⟨nx, d, hs, fin, dn⟩
  have hwin := fun W h => sWindowOf_any ⟨nx, d, hs, fin, dn⟩ (.slice A hs.length c) hfd W h
  dsimp only at hfd hfl hfp hwin
  have H := Lib.hid h
  have FP := Lib.hid hfp
  unfold maxLen at hfd hfl
  clear h hfp
  obtain ⟨B, hB⟩ : ∃ B, RRcv.ok ⟨nx, d, hs, fin, dn⟩ = B := ⟨_, rfl⟩
  rw [hB]
  have HB := Lib.hid hB
  have hbad : winOf ⟨nx, d, hs, fin, dn⟩ = winOf ⟨nx, d, hs, fin, dn⟩ := rfl
  obtain ⟨Wn, hW⟩ : ∃ W, winOf ⟨nx, d, hs, fin, dn⟩ = W := ⟨_, rfl⟩
  rw [hW] at hwb hwin
  obtain ⟨hw1, hw2⟩ := hwb
  have HW := Lib.hid hW
  have HWIN := Lib.hid hwin
  clear hB hwin hbad hW
  by_cases h1 : wordB nx 32 = true
  case neg =>
    have h1 := Bool.eq_false_iff.2 h1
    have hb : B = false := by rw [← HB.out]; simp [RRcv.ok, h1]
    clear HB
    subst hb
    go_enter Try.func19, Try.ntmps19
    go_wp2_with fail
    refine (HWIN.out _ (H.out.below (by repeat (first | with_reducible exact Below.refl _ _ | with_reducible assumption | with_reducible refine Below.drew ?_ | with_reducible refine Below.alloc ?_ (by first | exact Nat.le_refl _ | omega | (simp; done) | (simp; omega)) _ | with_reducible refine Below.setCell ?_ (by first | exact Nat.le_refl _ | omega | (simp; done) | (simp; omega)) _ | (with_reducible refine ext_trans ?_ (by with_reducible assumption)))))).mono ?_
    rintro e' w1 ⟨rfl, hb1⟩
    have hz1 := hb1.size
    simp at hz1
    have ha : w1.heap[w.heap.size]? = some (.cells #[.int .i64 nx, .string d, .slice A hs.length c, .int .i64 fin, .bool dn] 24 (0, 0)) := (hb1.block _ (by first | (simp; done) | (simp; omega))).trans (by repeat (first | exact heap_new _ _ _ (by first | rfl | (simp; done) | (simp; omega)) | refine (Below.heap_alloc _ _ _ (by first | omega | (simp; done) | (simp; omega))).trans ?_))
    have r0_ha := cell_of_row _ _ 0 _ _ _ ha
    have r1_ha := cell_of_row _ _ 1 _ _ _ ha
    have r2_ha := cell_of_row _ _ 2 _ _ _ ha
    have r3_ha := cell_of_row _ _ 3 _ _ _ ha
    have r4_ha := cell_of_row _ _ 4 _ _ _ ha
    have f0_ha := frozen_of_row _ _ 0 _ _ ha
    have f1_ha := frozen_of_row _ _ 1 _ _ ha
    have f2_ha := frozen_of_row _ _ 2 _ _ ha
    have f3_ha := frozen_of_row _ _ 3 _ _ ha
    have f4_ha := frozen_of_row _ _ 4 _ _ ha
    simp at r0_ha r1_ha r2_ha r3_ha r4_ha
    have HA := Lib.hid ha
    clear ha
    go_wp2_with (first | (go_at_call 32; refine (sWordOk_any _ _ _).mono ?_; rintro e' w' ⟨rfl, rfl⟩) | (go_at_call 33; refine (l1In_any _ _ _ _).mono ?_; rintro e' w' ⟨rfl, rfl⟩))
    all_goals
      go_ret
      exact ⟨rfl, (by repeat (first | with_reducible exact Below.refl _ _ | with_reducible assumption | with_reducible refine Below.drew ?_ | with_reducible refine Below.alloc ?_ (by first | exact Nat.le_refl _ | omega | (simp; done) | (simp; omega)) _ | with_reducible refine Below.setCell ?_ (by first | exact Nat.le_refl _ | omega | (simp; done) | (simp; omega)) _ | (with_reducible refine ext_trans ?_ (by with_reducible assumption))))⟩
  by_cases h2 : (d.size : Int) ≤ 32
  case neg =>
    have hb : B = false := by rw [← HB.out]; simp [RRcv.ok, h2]
    clear HB
    subst hb
    go_enter Try.func19, Try.ntmps19
    go_wp2_with fail
    refine (HWIN.out _ (H.out.below (by repeat (first | with_reducible exact Below.refl _ _ | with_reducible assumption | with_reducible refine Below.drew ?_ | with_reducible refine Below.alloc ?_ (by first | exact Nat.le_refl _ | omega | (simp; done) | (simp; omega)) _ | with_reducible refine Below.setCell ?_ (by first | exact Nat.le_refl _ | omega | (simp; done) | (simp; omega)) _ | (with_reducible refine ext_trans ?_ (by with_reducible assumption)))))).mono ?_
    rintro e' w1 ⟨rfl, hb1⟩
    have hz1 := hb1.size
    simp at hz1
    have ha : w1.heap[w.heap.size]? = some (.cells #[.int .i64 nx, .string d, .slice A hs.length c, .int .i64 fin, .bool dn] 24 (0, 0)) := (hb1.block _ (by first | (simp; done) | (simp; omega))).trans (by repeat (first | exact heap_new _ _ _ (by first | rfl | (simp; done) | (simp; omega)) | refine (Below.heap_alloc _ _ _ (by first | omega | (simp; done) | (simp; omega))).trans ?_))
    have r0_ha := cell_of_row _ _ 0 _ _ _ ha
    have r1_ha := cell_of_row _ _ 1 _ _ _ ha
    have r2_ha := cell_of_row _ _ 2 _ _ _ ha
    have r3_ha := cell_of_row _ _ 3 _ _ _ ha
    have r4_ha := cell_of_row _ _ 4 _ _ _ ha
    have f0_ha := frozen_of_row _ _ 0 _ _ ha
    have f1_ha := frozen_of_row _ _ 1 _ _ ha
    have f2_ha := frozen_of_row _ _ 2 _ _ ha
    have f3_ha := frozen_of_row _ _ 3 _ _ ha
    have f4_ha := frozen_of_row _ _ 4 _ _ ha
    simp at r0_ha r1_ha r2_ha r3_ha r4_ha
    have HA := Lib.hid ha
    clear ha
    go_wp2_with (first | (go_at_call 32; refine (sWordOk_any _ _ _).mono ?_; rintro e' w' ⟨rfl, rfl⟩) | (go_at_call 33; refine (l1In_any _ _ _ _).mono ?_; rintro e' w' ⟨rfl, rfl⟩))
    all_goals
      go_ret
      exact ⟨rfl, (by repeat (first | with_reducible exact Below.refl _ _ | with_reducible assumption | with_reducible refine Below.drew ?_ | with_reducible refine Below.alloc ?_ (by first | exact Nat.le_refl _ | omega | (simp; done) | (simp; omega)) _ | with_reducible refine Below.setCell ?_ (by first | exact Nat.le_refl _ | omega | (simp; done) | (simp; omega)) _ | (with_reducible refine ext_trans ?_ (by with_reducible assumption))))⟩
  by_cases h3 : (hs.length : Int) ≤ 3
  case neg =>
    have hb : B = false := by rw [← HB.out]; simp [RRcv.ok, h3]
    clear HB
    subst hb
    go_enter Try.func19, Try.ntmps19
    go_wp2_with fail
    refine (HWIN.out _ (H.out.below (by repeat (first | with_reducible exact Below.refl _ _ | with_reducible assumption | with_reducible refine Below.drew ?_ | with_reducible refine Below.alloc ?_ (by first | exact Nat.le_refl _ | omega | (simp; done) | (simp; omega)) _ | with_reducible refine Below.setCell ?_ (by first | exact Nat.le_refl _ | omega | (simp; done) | (simp; omega)) _ | (with_reducible refine ext_trans ?_ (by with_reducible assumption)))))).mono ?_
    rintro e' w1 ⟨rfl, hb1⟩
    have hz1 := hb1.size
    simp at hz1
    have ha : w1.heap[w.heap.size]? = some (.cells #[.int .i64 nx, .string d, .slice A hs.length c, .int .i64 fin, .bool dn] 24 (0, 0)) := (hb1.block _ (by first | (simp; done) | (simp; omega))).trans (by repeat (first | exact heap_new _ _ _ (by first | rfl | (simp; done) | (simp; omega)) | refine (Below.heap_alloc _ _ _ (by first | omega | (simp; done) | (simp; omega))).trans ?_))
    have r0_ha := cell_of_row _ _ 0 _ _ _ ha
    have r1_ha := cell_of_row _ _ 1 _ _ _ ha
    have r2_ha := cell_of_row _ _ 2 _ _ _ ha
    have r3_ha := cell_of_row _ _ 3 _ _ _ ha
    have r4_ha := cell_of_row _ _ 4 _ _ _ ha
    have f0_ha := frozen_of_row _ _ 0 _ _ ha
    have f1_ha := frozen_of_row _ _ 1 _ _ ha
    have f2_ha := frozen_of_row _ _ 2 _ _ ha
    have f3_ha := frozen_of_row _ _ 3 _ _ ha
    have f4_ha := frozen_of_row _ _ 4 _ _ ha
    simp at r0_ha r1_ha r2_ha r3_ha r4_ha
    have HA := Lib.hid ha
    clear ha
    go_wp2_with (first | (go_at_call 32; refine (sWordOk_any _ _ _).mono ?_; rintro e' w' ⟨rfl, rfl⟩) | (go_at_call 33; refine (l1In_any _ _ _ _).mono ?_; rintro e' w' ⟨rfl, rfl⟩))
    all_goals
      go_ret
      exact ⟨rfl, (by repeat (first | with_reducible exact Below.refl _ _ | with_reducible assumption | with_reducible refine Below.drew ?_ | with_reducible refine Below.alloc ?_ (by first | exact Nat.le_refl _ | omega | (simp; done) | (simp; omega)) _ | with_reducible refine Below.setCell ?_ (by first | exact Nat.le_refl _ | omega | (simp; done) | (simp; omega)) _ | (with_reducible refine ext_trans ?_ (by with_reducible assumption))))⟩
  by_cases h4 : inB fin (-1) Wn = true
  case neg =>
    have h4 := Bool.eq_false_iff.2 h4
    have hb : B = false := by rw [← HB.out]; simp [RRcv.ok, HW.out, h4]
    clear HB
    subst hb
    go_enter Try.func19, Try.ntmps19
    go_wp2_with fail
    refine (HWIN.out _ (H.out.below (by repeat (first | with_reducible exact Below.refl _ _ | with_reducible assumption | with_reducible refine Below.drew ?_ | with_reducible refine Below.alloc ?_ (by first | exact Nat.le_refl _ | omega | (simp; done) | (simp; omega)) _ | with_reducible refine Below.setCell ?_ (by first | exact Nat.le_refl _ | omega | (simp; done) | (simp; omega)) _ | (with_reducible refine ext_trans ?_ (by with_reducible assumption)))))).mono ?_
    rintro e' w1 ⟨rfl, hb1⟩
    have hz1 := hb1.size
    simp at hz1
    have ha : w1.heap[w.heap.size]? = some (.cells #[.int .i64 nx, .string d, .slice A hs.length c, .int .i64 fin, .bool dn] 24 (0, 0)) := (hb1.block _ (by first | (simp; done) | (simp; omega))).trans (by repeat (first | exact heap_new _ _ _ (by first | rfl | (simp; done) | (simp; omega)) | refine (Below.heap_alloc _ _ _ (by first | omega | (simp; done) | (simp; omega))).trans ?_))
    have r0_ha := cell_of_row _ _ 0 _ _ _ ha
    have r1_ha := cell_of_row _ _ 1 _ _ _ ha
    have r2_ha := cell_of_row _ _ 2 _ _ _ ha
    have r3_ha := cell_of_row _ _ 3 _ _ _ ha
    have r4_ha := cell_of_row _ _ 4 _ _ _ ha
    have f0_ha := frozen_of_row _ _ 0 _ _ ha
    have f1_ha := frozen_of_row _ _ 1 _ _ ha
    have f2_ha := frozen_of_row _ _ 2 _ _ ha
    have f3_ha := frozen_of_row _ _ 3 _ _ ha
    have f4_ha := frozen_of_row _ _ 4 _ _ ha
    simp at r0_ha r1_ha r2_ha r3_ha r4_ha
    have HA := Lib.hid ha
    clear ha
    go_wp2_with (first | (go_at_call 32; refine (sWordOk_any _ _ _).mono ?_; rintro e' w' ⟨rfl, rfl⟩) | (go_at_call 33; refine (l1In_any _ _ _ _).mono ?_; rintro e' w' ⟨rfl, rfl⟩))
    all_goals
      go_ret
      exact ⟨rfl, (by repeat (first | with_reducible exact Below.refl _ _ | with_reducible assumption | with_reducible refine Below.drew ?_ | with_reducible refine Below.alloc ?_ (by first | exact Nat.le_refl _ | omega | (simp; done) | (simp; omega)) _ | with_reducible refine Below.setCell ?_ (by first | exact Nat.le_refl _ | omega | (simp; done) | (simp; omega)) _ | (with_reducible refine ext_trans ?_ (by with_reducible assumption))))⟩
  by_cases h5 : fin = 0
  case pos =>
    have hb : B = false := by rw [← HB.out]; simp [RRcv.ok, h5]
    clear HB
    subst hb h5
    go_enter Try.func19, Try.ntmps19
    go_wp2_with fail
    refine (HWIN.out _ (H.out.below (by repeat (first | with_reducible exact Below.refl _ _ | with_reducible assumption | with_reducible refine Below.drew ?_ | with_reducible refine Below.alloc ?_ (by first | exact Nat.le_refl _ | omega | (simp; done) | (simp; omega)) _ | with_reducible refine Below.setCell ?_ (by first | exact Nat.le_refl _ | omega | (simp; done) | (simp; omega)) _ | (with_reducible refine ext_trans ?_ (by with_reducible assumption)))))).mono ?_
    rintro e' w1 ⟨rfl, hb1⟩
    have hz1 := hb1.size
    simp at hz1
    have ha : w1.heap[w.heap.size]? = some (.cells #[.int .i64 nx, .string d, .slice A hs.length c, .int .i64 0, .bool dn] 24 (0, 0)) := (hb1.block _ (by first | (simp; done) | (simp; omega))).trans (by repeat (first | exact heap_new _ _ _ (by first | rfl | (simp; done) | (simp; omega)) | refine (Below.heap_alloc _ _ _ (by first | omega | (simp; done) | (simp; omega))).trans ?_))
    have r0_ha := cell_of_row _ _ 0 _ _ _ ha
    have r1_ha := cell_of_row _ _ 1 _ _ _ ha
    have r2_ha := cell_of_row _ _ 2 _ _ _ ha
    have r3_ha := cell_of_row _ _ 3 _ _ _ ha
    have r4_ha := cell_of_row _ _ 4 _ _ _ ha
    have f0_ha := frozen_of_row _ _ 0 _ _ ha
    have f1_ha := frozen_of_row _ _ 1 _ _ ha
    have f2_ha := frozen_of_row _ _ 2 _ _ ha
    have f3_ha := frozen_of_row _ _ 3 _ _ ha
    have f4_ha := frozen_of_row _ _ 4 _ _ ha
    simp at r0_ha r1_ha r2_ha r3_ha r4_ha
    have HA := Lib.hid ha
    clear ha
    go_wp2_with (first | (go_at_call 32; refine (sWordOk_any _ _ _).mono ?_; rintro e' w' ⟨rfl, rfl⟩) | (go_at_call 33; refine (l1In_any _ _ _ _).mono ?_; rintro e' w' ⟨rfl, rfl⟩))
    all_goals
      go_ret
      exact ⟨rfl, (by repeat (first | with_reducible exact Below.refl _ _ | with_reducible assumption | with_reducible refine Below.drew ?_ | with_reducible refine Below.alloc ?_ (by first | exact Nat.le_refl _ | omega | (simp; done) | (simp; omega)) _ | with_reducible refine Below.setCell ?_ (by first | exact Nat.le_refl _ | omega | (simp; done) | (simp; omega)) _ | (with_reducible refine ext_trans ?_ (by with_reducible assumption))))⟩
  have hfi := inB_iff.1 h4
  obtain ⟨hf1, hf2⟩ := hfi
  have g2 : decide (32 < (d.size : Int)) = false := decide_eq_false (by omega)
  have g3 : decide (3 < (hs.length : Int)) = false := decide_eq_false (by omega)
  have g5 : (fin == 0) = false := by simpa using h5
  obtain ⟨R, hR⟩ : ∃ R, heldGo Wn 0 hs = R := ⟨_, rfl⟩
  have hb : Hid (B = R.any fun e => (decide (fin < 0) || decide (e ≤ fin)) && RRcv.tail ⟨nx, d, hs, fin, dn⟩) := HB.out.symm.trans (ok_any (x := ⟨nx, d, hs, fin, dn⟩) (by rw [HW.out]; exact hR) h1 h2 h3 (by rw [HW.out]; exact h4) h5)
  have HR := Lib.hid hR
  clear hR HB HW
  go_enter Try.func19, Try.ntmps19
  go_wp2_with fail
  refine (HWIN.out _ (H.out.below (by repeat (first | with_reducible exact Below.refl _ _ | with_reducible assumption | with_reducible refine Below.drew ?_ | with_reducible refine Below.alloc ?_ (by first | exact Nat.le_refl _ | omega | (simp; done) | (simp; omega)) _ | with_reducible refine Below.setCell ?_ (by first | exact Nat.le_refl _ | omega | (simp; done) | (simp; omega)) _ | (with_reducible refine ext_trans ?_ (by with_reducible assumption)))))).mono ?_
  rintro e' w1 ⟨rfl, hb1⟩
  have hz1 := hb1.size
  simp at hz1
  have ha : w1.heap[w.heap.size]? = some (.cells #[.int .i64 nx, .string d, .slice A hs.length c, .int .i64 fin, .bool dn] 24 (0, 0)) := (hb1.block _ (by first | (simp; done) | (simp; omega))).trans (by repeat (first | exact heap_new _ _ _ (by first | rfl | (simp; done) | (simp; omega)) | refine (Below.heap_alloc _ _ _ (by first | omega | (simp; done) | (simp; omega))).trans ?_))
  have r0_ha := cell_of_row _ _ 0 _ _ _ ha
  have r1_ha := cell_of_row _ _ 1 _ _ _ ha
  have r2_ha := cell_of_row _ _ 2 _ _ _ ha
  have r3_ha := cell_of_row _ _ 3 _ _ _ ha
  have r4_ha := cell_of_row _ _ 4 _ _ _ ha
  have f0_ha := frozen_of_row _ _ 0 _ _ ha
  have f1_ha := frozen_of_row _ _ 1 _ _ ha
  have f2_ha := frozen_of_row _ _ 2 _ _ ha
  have f3_ha := frozen_of_row _ _ 3 _ _ ha
  have f4_ha := frozen_of_row _ _ 4 _ _ ha
  simp at r0_ha r1_ha r2_ha r3_ha r4_ha
  have HA := Lib.hid ha
  clear ha
  go_wp2_with (first | (go_at_call 32; refine (sWordOk_any _ _ _).mono ?_; rintro e' w' ⟨rfl, rfl⟩) | (go_at_call 33; refine (l1In_any _ _ _ _).mono ?_; rintro e' w' ⟨rfl, rfl⟩))
  go_loopw [4, 5] (fun y i wr => ∃ (q : Nat) (e : Int), q ≤ hs.length ∧ i = .int .i64 q ∧ y = .int .i64 e ∧ (0 ≤ e ∧ e ≤ 32) ∧ Hid (heldGo Wn e (hs.drop q) = R) ∧ Hid (wr.heap[w.heap.size]? = some (.cells #[.int .i64 nx, .string d, .slice A hs.length c, .int .i64 fin, .bool dn] 24 (0, 0))) ∧ Below w.heap.size w wr) (fun _ i _ => hs.length - (intOf i).toNat)
  case atStart => exact ⟨0, 0, by omega, rfl, rfl, ⟨by omega, by omega⟩, HR.out, HA.out, (by repeat (first | with_reducible exact Below.refl _ _ | with_reducible assumption | with_reducible refine Below.drew ?_ | with_reducible refine Below.alloc ?_ (by first | exact Nat.le_refl _ | omega | (simp; done) | (simp; omega)) _ | with_reducible refine Below.setCell ?_ (by first | exact Nat.le_refl _ | omega | (simp; done) | (simp; omega)) _ | (with_reducible refine ext_trans ?_ (by with_reducible assumption))))⟩
  case round =>
    clear HA r0_ha r1_ha r2_ha r3_ha r4_ha f0_ha f1_ha f2_ha f3_ha f4_ha
    obtain ⟨q, e, hq, rfl, rfl, ⟨he1, he2⟩, hgo, hRw, hbw⟩ := hrel
    have hr := hRw.out
    have hlR := (Array.getElem?_eq_some_iff.1 hr).1
    have r0_hr := cell_of_row _ _ 0 _ _ _ hr
    have r1_hr := cell_of_row _ _ 1 _ _ _ hr
    have r2_hr := cell_of_row _ _ 2 _ _ _ hr
    have r3_hr := cell_of_row _ _ 3 _ _ _ hr
    have r4_hr := cell_of_row _ _ 4 _ _ _ hr
    have f0_hr := frozen_of_row _ _ 0 _ _ hr
    have f1_hr := frozen_of_row _ _ 1 _ _ hr
    have f2_hr := frozen_of_row _ _ 2 _ _ hr
    have f3_hr := frozen_of_row _ _ 3 _ _ hr
    have f4_hr := frozen_of_row _ _ 4 _ _ hr
    simp at r0_hr r1_hr r2_hr r3_hr r4_hr
    clear hr
    have hbs := hbw.size
    by_cases hlt : q < hs.length
    · obtain ⟨b, off, rfl, hbB, hcell⟩ := H.out.elem ePiece_len (by omega) q hlt
      have hbx := FP.out hs[q] (by simp)
      obtain ⟨z, hz⟩ : ∃ z, hs[q] = z := ⟨_, rfl⟩
      rw [hz] at hcell hbx
      obtain ⟨x0, x1⟩ := z
      have c0 : wr.cell? ⟨b, off + q * 2, none⟩ = some (.int .i64 x0) := (hbw.cell (p := ⟨b, _, none⟩) hbB).trans (hcell 0 (by omega))
      have c1 : wr.cell? ⟨b, off + q * 2 + 1, none⟩ = some (.string x1) := (hbw.cell (p := ⟨b, _, none⟩) hbB).trans (hcell 1 (by omega))
      simp only at hbx
      obtain ⟨hs1, hx1, hx2⟩ := hbx
      have hnq : (q : Int) < (hs.length : Int) := by omega
      have HZ := Lib.hid hz
      clear hcell hz
      by_cases hz : (x1.size : Int) = 0
      · have hRn := heldGo_bad hgo.out hlt HZ.out (.inl hz)
        obtain rfl : x1 = ⟨#[]⟩ := ByteArray.ext (Array.eq_empty_of_size_eq_zero (by simpa using hz))
        have HRN := Lib.hid hRn
        clear hRn
        go_wp2_with fail
        go_ret
        exact ⟨by rw [hb.out, HRN.out]; rfl, (by repeat (first | with_reducible exact Below.refl _ _ | with_reducible assumption | with_reducible refine Below.drew ?_ | with_reducible refine Below.alloc ?_ (by first | exact Nat.le_refl _ | omega | (simp; done) | (simp; omega)) _ | with_reducible refine Below.setCell ?_ (by first | exact Nat.le_refl _ | omega | (simp; done) | (simp; omega)) _ | (with_reducible refine ext_trans ?_ (by with_reducible assumption))))⟩
      have hsz1 := bs_ne_nil (X := x1) (by omega)
      have hsz2 := bs_isEmpty (X := x1) (by omega)
      by_cases ho : x0 ≤ e
      · have HRN := Lib.hid (heldGo_bad hgo.out hlt HZ.out (.inr (.inl ho)))
        go_wp2_with fail
        go_ret
        exact ⟨by rw [hb.out, HRN.out]; rfl, (by repeat (first | with_reducible exact Below.refl _ _ | with_reducible assumption | with_reducible refine Below.drew ?_ | with_reducible refine Below.alloc ?_ (by first | exact Nat.le_refl _ | omega | (simp; done) | (simp; omega)) _ | with_reducible refine Below.setCell ?_ (by first | exact Nat.le_refl _ | omega | (simp; done) | (simp; omega)) _ | (with_reducible refine ext_trans ?_ (by with_reducible assumption))))⟩
      by_cases hm : Wn - (x1.size : Int) < x0
      · have HRN := Lib.hid (heldGo_bad hgo.out hlt HZ.out (.inr (.inr hm)))
        by_cases hx : Wn < x0
        · go_wp2_with fail
          go_ret
          exact ⟨by rw [hb.out, HRN.out]; rfl, (by repeat (first | with_reducible exact Below.refl _ _ | with_reducible assumption | with_reducible refine Below.drew ?_ | with_reducible refine Below.alloc ?_ (by first | exact Nat.le_refl _ | omega | (simp; done) | (simp; omega)) _ | with_reducible refine Below.setCell ?_ (by first | exact Nat.le_refl _ | omega | (simp; done) | (simp; omega)) _ | (with_reducible refine ext_trans ?_ (by with_reducible assumption))))⟩
        · have hx3 : Wn < x0 + (x1.size : Int) := by omega
          go_wp2_with fail
          go_ret
          exact ⟨by rw [hb.out, HRN.out]; rfl, (by repeat (first | with_reducible exact Below.refl _ _ | with_reducible assumption | with_reducible refine Below.drew ?_ | with_reducible refine Below.alloc ?_ (by first | exact Nat.le_refl _ | omega | (simp; done) | (simp; omega)) _ | with_reducible refine Below.setCell ?_ (by first | exact Nat.le_refl _ | omega | (simp; done) | (simp; omega)) _ | (with_reducible refine ext_trans ?_ (by with_reducible assumption))))⟩
      have HGO := Lib.hid (heldGo_good (p := (x0, x1)) hgo.out hlt HZ.out (by dsimp only; omega))
      have gx1 : decide (Wn < x0) = false := decide_eq_false (by omega)
      have gx2 : decide (Wn < x0 + (x1.size : Int)) = false := decide_eq_false (by omega)
      go_wp2_with fail
      exact ⟨⟨q + 1, _, by omega, by go_num, rfl, ⟨by omega, by omega⟩, HGO.out, (Below.heap_alloc _ _ _ hlR).trans hRw.out, (by repeat (first | with_reducible exact Below.refl _ _ | with_reducible assumption | with_reducible refine Below.drew ?_ | with_reducible refine Below.alloc ?_ (by first | exact Nat.le_refl _ | omega | (simp; done) | (simp; omega)) _ | with_reducible refine Below.setCell ?_ (by first | exact Nat.le_refl _ | omega | (simp; done) | (simp; omega)) _ | (with_reducible refine ext_trans ?_ (by with_reducible assumption))))⟩, by simp [intOf]; omega⟩
    · obtain rfl : q = hs.length := by omega
      have hRe := heldGo_end hgo.out
      have hb2 : Hid (B = ((decide (fin < 0) || decide (e ≤ fin)) && (!dn || (decide ((hs.length : Int) = 0) && decide (fin = -1))))) := by rw [hb.out, hRe]; rfl
      clear hb HR hRe
      by_cases q1 : fin < 0 <;> by_cases q2 : e ≤ fin <;> by_cases q3 : (hs.length : Int) = 0 <;> by_cases q4 : fin = -1 <;> cases dn
      all_goals first | (exfalso; omega) | skip
      all_goals
        go_wp2_with fail
        all_goals
          go_ret
          exact ⟨by rw [hb2.out]; simp_all, (by repeat (first | with_reducible exact Below.refl _ _ | with_reducible assumption | with_reducible refine Below.drew ?_ | with_reducible refine Below.alloc ?_ (by first | exact Nat.le_refl _ | omega | (simp; done) | (simp; omega)) _ | with_reducible refine Below.setCell ?_ (by first | exact Nat.le_refl _ | omega | (simp; done) | (simp; omega)) _ | (with_reducible refine ext_trans ?_ (by with_reducible assumption))))⟩

end Go.Proofs.Ytgejnppfodpiiaa
