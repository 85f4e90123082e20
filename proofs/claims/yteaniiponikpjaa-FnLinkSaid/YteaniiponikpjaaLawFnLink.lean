/-
  The law FnLink returns true for every input. No condition.
-/
import Derived.Test.YteaniiponikpjaaLbk
import Derived.Test.YteaniiponikpjaaLlk
import Derived.Test.YteaniiponikpjaaBytes
import Derived.Test.YteaniiponikpjaaStru
import Derived.IntWalk
namespace Go.Proofs.Yteaniiponikpjaa
set_option maxRecDepth 100000
open Go.ChangeShapes Go.WideShapes Go.ChangeAt Go.RowKit

set_option maxHeartbeats 8000000 in
set_option linter.unusedSimpArgs false in
set_option linter.unusedVariables false in
theorem FnLink_walk {A : Option Addr} {n c : Nat} (hn : n ≤ maxLen) (w : World) (hb : Byts w w.heap.size A n) :
    Calls Try.prog 13 #[.slice A n c] w fun e w' => e = .returned (.bool true) ∧ Below w.heap.size w w' := by
  have hlen := hn
  unfold maxLen at hlen
  by_cases hbig : (1048576 : Int) < n
  · go_enter Try.func13, Try.ntmps13
    go_wp2_with fail
    refine (big_any hn _).mono ?_
    rintro e w' ⟨rfl, rfl⟩
    go_wp2_with fail
    go_ret
    exact ⟨rfl, Below.refl _ _⟩
  go_enter Try.func13, Try.ntmps13
  go_wp2_with fail
  refine (big_any hn _).mono ?_
  rintro e w' ⟨rfl, rfl⟩
  go_wp2_with fail
  refine (DrawLinkIn_any hn hb).mono ?_
  rintro e w1 ⟨m, q, A1, l, c1, raw, rfl, hG, hbz, hO1, hb1⟩
  have Ol_1 := Lib.hid hO1
  clear hO1 hb hn hlen
  obtain ⟨hl5, -⟩ := hG
  have ML : Hid (l.length ≤ maxLen) := (by unfold maxLen; omega : l.length ≤ maxLen)
  have ML2 : Hid (l.length ≤ 1048576) := (by omega : l.length ≤ 1048576)
  have hz1 := hb1.size
  have hw1 : Below w.heap.size w w1 := (by repeat (first | with_reducible exact Below.refl _ _ | with_reducible assumption | with_reducible refine Below.drew ?_ | with_reducible refine Below.alloc ?_ (by first | exact Nat.le_refl _ | omega | (simp; done) | (simp; omega)) _ | with_reducible refine Below.setCell ?_ (by first | exact Nat.le_refl _ | omega | (simp; done) | (simp; omega)) _ | (with_reducible refine ext_trans ?_ (by with_reducible assumption))))
  have hraw : raw.size ≤ 1048576 := by omega
  obtain ⟨f1, f2, f3, f4, hf, h4z, hf2⟩ := frR_form2 raw hraw
  obtain ⟨k1, k2, k3, k4, k5, hk, hk2⟩ := arR_form2 f4
  obtain ⟨p1, p2, p3, p4, p5, p6, hp, hp2⟩ := pkR_form2 f4
  have hss := fun W v h => sLinkIn_any ⟨m, q, l⟩ v raw hraw ML2.out W h f1 f2 f3 f4 _ hf rfl h4z k1 k2 k3 k4 k5 _ hk rfl p1 p2 p3 p4 p5 p6 _ hp rfl
  have hii := fun W v h => LinkIn_any ⟨m, q, l⟩ v raw hraw ML2.out W h f1 f2 f3 f4 _ hf rfl h4z k1 k2 k3 k4 k5 _ hk rfl p1 p2 p3 p4 p5 p6 _ hp rfl
  obtain ⟨r, hok, hcase⟩ := link_law (x := ⟨m, q, l⟩) (f1 := f1) (f3 := f3) (k1 := k1) (k5 := k5) (p2 := p2) (p4 := p4) (pk := .agg #[.int .i64 p1, .int .i64 p2, .int .i64 p3, .int .i64 p4, .int .i64 p5, .string p6]) hf2 hk2 hp2
  have hrl := linkRF_len (x := ⟨m, q, l⟩) (B := okFr raw) (BA := okAr f4) (f1 := f1) (f2 := f2) (f3 := f3) (k1 := k1) (k2 := k2) (k3 := k3) (k5 := k5) (pc := pkC f4) (p1 := p1) (p2 := p2) (p4 := p4) (pk := .agg #[.int .i64 p1, .int .i64 p2, .int .i64 p3, .int .i64 p4, .int .i64 p5, .string p6]) ML2.out
  dsimp only at hok hcase
  generalize linkRF ⟨m, q, l⟩ (okFr raw) f1 f2 f3 (okAr f4) k1 k2 k3 k5 (pkC f4) p1 p2 p4 (.agg #[.int .i64 p1, .int .i64 p2, .int .i64 p3, .int .i64 p4, .int .i64 p5, .string p6]) = R at *
  clear hf hk hp hf2 hk2 hp2 h4z
  rcases hcase with rfl | ⟨A, rfl, hfb, hx⟩ | ⟨rfl, hp2, hp4, hhw, hx⟩
  · have HS : Hid (∀ W v, RdEntry W v l → Calls Try.prog 43 #[.agg #[.int .i64 m, .int .i64 q, v], .string raw] W fun e w' => ∃ v, e = .returned (.tuple #[.agg #[.int .i64 m, .int .i64 q, v], .int .i64 0, .agg #[.int .i64 0, .int .i64 0, .int .i64 0, .int .i64 0, .int .i64 0, .string ⟨#[]⟩], .string ⟨#[]⟩]) ∧ OwnEntry w' W.heap.size v r ∧ Below W.heap.size W w') := hss
    have HI : Hid (∀ W v, RdEntry W v l → Calls Try.prog 42 #[.agg #[.int .i64 m, .int .i64 q, v], .string raw] W fun e w' => ∃ v, e = .returned (.tuple #[.agg #[.int .i64 m, .int .i64 q, v], .int .i64 0, .agg #[.int .i64 0, .int .i64 0, .int .i64 0, .int .i64 0, .int .i64 0, .string ⟨#[]⟩], .string ⟨#[]⟩]) ∧ OwnEntry w' W.heap.size v r ∧ Below W.heap.size W w') := hii
    have NR : Hid (r.length ≤ maxLen) := (by unfold maxLen; have := hrl; dsimp only at this; omega : r.length ≤ maxLen)
    have SS : Hid (∀ W v1 v2, RdEntry W v1 r → RdEntry W v2 r → Calls Try.prog 22 #[.agg #[.int .i64 m, .int .i64 q, v1], .agg #[.int .i64 m, .int .i64 q, v2]] W fun e w' => e = .returned (.bool true) ∧ Below W.heap.size W w') := fun W v1 v2 h1 h2 => by
      have hh := sSameLink_any ⟨m, q, r⟩ ⟨m, q, r⟩ v1 v2 NR.out NR.out W h1 h2
      rw [same_self] at hh
      exact hh
    have SI : Hid (∀ W v1 v2, RdEntry W v1 r → RdEntry W v2 r → Calls Try.prog 24 #[.agg #[.int .i64 m, .int .i64 q, v1], .agg #[.int .i64 m, .int .i64 q, v2]] W fun e w' => e = .returned (.bool true) ∧ Below W.heap.size W w') := fun W v1 v2 h1 h2 => by
      have hh := SameLink_any ⟨m, q, r⟩ ⟨m, q, r⟩ v1 v2 NR.out NR.out W h1 h2
      rw [same_self] at hh
      exact hh
    clear hss hii hrl
    cases hx : (⟨m, q, l⟩ : RLnk).ok
    case false =>
      have OL : Hid (∀ W v, RdEntry W v l → Calls Try.prog 26 #[.agg #[.int .i64 m, .int .i64 q, v]] W fun e w' => e = .returned (.bool false) ∧ Below W.heap.size W w') := fun W v h => by
        have hh := sLinkOk_any ⟨m, q, l⟩ v ML.out W h
        rw [hx] at hh
        exact hh
      clear hx hok
      go_wp2_with fail
      refine (HI.out _ _ (rd_own (own_below Ol_1.out (by repeat (first | with_reducible exact Below.refl _ _ | with_reducible assumption | with_reducible refine Below.drew ?_ | with_reducible refine Below.alloc ?_ (by first | exact Nat.le_refl _ | omega | (simp; done) | (simp; omega)) _ | with_reducible refine Below.setCell ?_ (by first | exact Nat.le_refl _ | omega | (simp; done) | (simp; omega)) _ | (with_reducible refine ext_trans ?_ (by with_reducible assumption))))))).mono ?_
      rintro e w2 ⟨v2, rfl, hO2, hb2⟩
      have hz2 := hb2.size
      (try simp at hz2)
      have rl_2 : w2.heap[w1.heap.size]? = some (.cells #[.int .i64 m, .int .i64 q, .slice A1 l.length c1] 37 (0, 0)) := (hb2.block _ (by first | (simp; done) | (simp; omega))).trans (by repeat (first | exact heap_new _ _ _ (by first | rfl | (simp; done) | (simp; omega)) | refine (Below.heap_alloc _ _ _ (by first | omega | (simp; done) | (simp; omega))).trans ?_))
      have Ol_2 := Lib.hid (own_below Ol_1.out (w' := w2) (by repeat (first | with_reducible exact Below.refl _ _ | with_reducible assumption | with_reducible refine Below.drew ?_ | with_reducible refine Below.alloc ?_ (by first | exact Nat.le_refl _ | omega | (simp; done) | (simp; omega)) _ | with_reducible refine Below.setCell ?_ (by first | exact Nat.le_refl _ | omega | (simp; done) | (simp; omega)) _ | (with_reducible refine ext_trans ?_ (by with_reducible assumption)))))
      have hw2 : Below w.heap.size w w2 := (by repeat (first | with_reducible exact Below.refl _ _ | with_reducible assumption | with_reducible refine Below.drew ?_ | with_reducible refine Below.alloc ?_ (by first | exact Nat.le_refl _ | omega | (simp; done) | (simp; omega)) _ | with_reducible refine Below.setCell ?_ (by first | exact Nat.le_refl _ | omega | (simp; done) | (simp; omega)) _ | (with_reducible refine ext_trans ?_ (by with_reducible assumption))))
      have lRl_2 : w1.heap.size < w2.heap.size := by omega
      have Rl_2 := Lib.hid rl_2
      have r0_rl_2 := cell_of_row _ _ 0 _ _ _ rl_2
      have r1_rl_2 := cell_of_row _ _ 1 _ _ _ rl_2
      have r2_rl_2 := cell_of_row _ _ 2 _ _ _ rl_2
      have f0_rl_2 := frozen_of_row _ _ 0 _ _ rl_2
      have f1_rl_2 := frozen_of_row _ _ 1 _ _ rl_2
      have f2_rl_2 := frozen_of_row _ _ 2 _ _ rl_2
      simp at r0_rl_2 r1_rl_2 r2_rl_2
      clear rl_2
      obtain ⟨A2, c2, rfl⟩ := hO2.form
      have Om_2 := Lib.hid hO2
      clear hO2
      go_wp2_with fail
      refine (HS.out _ _ (rd_own (own_below Ol_2.out (by repeat (first | with_reducible exact Below.refl _ _ | with_reducible assumption | with_reducible refine Below.drew ?_ | with_reducible refine Below.alloc ?_ (by first | exact Nat.le_refl _ | omega | (simp; done) | (simp; omega)) _ | with_reducible refine Below.setCell ?_ (by first | exact Nat.le_refl _ | omega | (simp; done) | (simp; omega)) _ | (with_reducible refine ext_trans ?_ (by with_reducible assumption))))))).mono ?_
      rintro e w3 ⟨v3, rfl, hO3, hb3⟩
      have hz3 := hb3.size
      (try simp at hz3)
      have rl_3 : w3.heap[w1.heap.size]? = some (.cells #[.int .i64 m, .int .i64 q, .slice A1 l.length c1] 37 (0, 0)) := (hb3.block _ (by first | omega | (simp; done) | (simp; omega))).trans (by repeat (first | (with_reducible apply heap_setCell_same) | (with_reducible apply drew_row) | (with_reducible apply drewN_row) | (with_reducible exact Rl_2.out) | (with_reducible refine (heap_setCell_other _ _ _ _ (by first | omega | (simp; done) | (simp; omega))).trans ?_) | (with_reducible refine (Below.heap_alloc _ _ _ (by first | omega | (simp; done) | (simp; omega))).trans ?_)))
      have rm_3 : w3.heap[w2.heap.size]? = some (.cells #[.int .i64 m, .int .i64 q, .slice A2 r.length c2] 37 (0, 0)) := (hb3.block _ (by first | (simp; done) | (simp; omega))).trans (by repeat (first | exact heap_new _ _ _ (by first | rfl | (simp; done) | (simp; omega)) | refine (Below.heap_alloc _ _ _ (by first | omega | (simp; done) | (simp; omega))).trans ?_))
      have rp_3 : w3.heap[w2.heap.size + 1]? = some (.cells #[.int .i64 0, .int .i64 0, .int .i64 0, .int .i64 0, .int .i64 0, .string ⟨#[]⟩] 58 (0, 0)) := (hb3.block _ (by first | (simp; done) | (simp; omega))).trans (by repeat (first | exact heap_new _ _ _ (by first | rfl | (simp; done) | (simp; omega)) | refine (Below.heap_alloc _ _ _ (by first | omega | (simp; done) | (simp; omega))).trans ?_))
      have Ol_3 := Lib.hid (own_below Ol_2.out (w' := w3) (by repeat (first | with_reducible exact Below.refl _ _ | with_reducible assumption | with_reducible refine Below.drew ?_ | with_reducible refine Below.alloc ?_ (by first | exact Nat.le_refl _ | omega | (simp; done) | (simp; omega)) _ | with_reducible refine Below.setCell ?_ (by first | exact Nat.le_refl _ | omega | (simp; done) | (simp; omega)) _ | (with_reducible refine ext_trans ?_ (by with_reducible assumption)))))
      have Om_3 := Lib.hid (OwnE.below Om_2.out (w' := w3) (by repeat (first | with_reducible exact Below.refl _ _ | with_reducible assumption | with_reducible refine Below.drew ?_ | with_reducible refine Below.alloc ?_ (by first | exact Nat.le_refl _ | omega | (simp; done) | (simp; omega)) _ | with_reducible refine Below.setCell ?_ (by first | exact Nat.le_refl _ | omega | (simp; done) | (simp; omega)) _ | (with_reducible refine ext_trans ?_ (by with_reducible assumption)))))
      have hw3 : Below w.heap.size w w3 := (by repeat (first | with_reducible exact Below.refl _ _ | with_reducible assumption | with_reducible refine Below.drew ?_ | with_reducible refine Below.alloc ?_ (by first | exact Nat.le_refl _ | omega | (simp; done) | (simp; omega)) _ | with_reducible refine Below.setCell ?_ (by first | exact Nat.le_refl _ | omega | (simp; done) | (simp; omega)) _ | (with_reducible refine ext_trans ?_ (by with_reducible assumption))))
      clear r0_rl_2 f0_rl_2 r1_rl_2 f1_rl_2 r2_rl_2 f2_rl_2
      have lRl_3 : w1.heap.size < w3.heap.size := by omega
      have Rl_3 := Lib.hid rl_3
      have r0_rl_3 := cell_of_row _ _ 0 _ _ _ rl_3
      have r1_rl_3 := cell_of_row _ _ 1 _ _ _ rl_3
      have r2_rl_3 := cell_of_row _ _ 2 _ _ _ rl_3
      have f0_rl_3 := frozen_of_row _ _ 0 _ _ rl_3
      have f1_rl_3 := frozen_of_row _ _ 1 _ _ rl_3
      have f2_rl_3 := frozen_of_row _ _ 2 _ _ rl_3
      simp at r0_rl_3 r1_rl_3 r2_rl_3
      clear rl_3
      have lRm_3 : w2.heap.size < w3.heap.size := by omega
      have Rm_3 := Lib.hid rm_3
      have r0_rm_3 := cell_of_row _ _ 0 _ _ _ rm_3
      have r1_rm_3 := cell_of_row _ _ 1 _ _ _ rm_3
      have r2_rm_3 := cell_of_row _ _ 2 _ _ _ rm_3
      have f0_rm_3 := frozen_of_row _ _ 0 _ _ rm_3
      have f1_rm_3 := frozen_of_row _ _ 1 _ _ rm_3
      have f2_rm_3 := frozen_of_row _ _ 2 _ _ rm_3
      simp at r0_rm_3 r1_rm_3 r2_rm_3
      clear rm_3
      have lRp_3 : w2.heap.size + 1 < w3.heap.size := by omega
      have Rp_3 := Lib.hid rp_3
      have r0_rp_3 := cell_of_row _ _ 0 _ _ _ rp_3
      have r1_rp_3 := cell_of_row _ _ 1 _ _ _ rp_3
      have r2_rp_3 := cell_of_row _ _ 2 _ _ _ rp_3
      have r3_rp_3 := cell_of_row _ _ 3 _ _ _ rp_3
      have r4_rp_3 := cell_of_row _ _ 4 _ _ _ rp_3
      have r5_rp_3 := cell_of_row _ _ 5 _ _ _ rp_3
      have f0_rp_3 := frozen_of_row _ _ 0 _ _ rp_3
      have f1_rp_3 := frozen_of_row _ _ 1 _ _ rp_3
      have f2_rp_3 := frozen_of_row _ _ 2 _ _ rp_3
      have f3_rp_3 := frozen_of_row _ _ 3 _ _ rp_3
      have f4_rp_3 := frozen_of_row _ _ 4 _ _ rp_3
      have f5_rp_3 := frozen_of_row _ _ 5 _ _ rp_3
      simp at r0_rp_3 r1_rp_3 r2_rp_3 r3_rp_3 r4_rp_3 r5_rp_3
      clear rp_3
      obtain ⟨A3, c3, rfl⟩ := hO3.form
      have On_3 := Lib.hid hO3
      clear hO3
      go_wp2_with fail
      refine (SS.out _ _ _ (Om_3.out.below (by repeat (first | with_reducible exact Below.refl _ _ | with_reducible assumption | with_reducible refine Below.drew ?_ | with_reducible refine Below.alloc ?_ (by first | exact Nat.le_refl _ | omega | (simp; done) | (simp; omega)) _ | with_reducible refine Below.setCell ?_ (by first | exact Nat.le_refl _ | omega | (simp; done) | (simp; omega)) _ | (with_reducible refine ext_trans ?_ (by with_reducible assumption))))).rd (On_3.out.below (by repeat (first | with_reducible exact Below.refl _ _ | with_reducible assumption | with_reducible refine Below.drew ?_ | with_reducible refine Below.alloc ?_ (by first | exact Nat.le_refl _ | omega | (simp; done) | (simp; omega)) _ | with_reducible refine Below.setCell ?_ (by first | exact Nat.le_refl _ | omega | (simp; done) | (simp; omega)) _ | (with_reducible refine ext_trans ?_ (by with_reducible assumption))))).rd).mono ?_
      rintro e w4 ⟨rfl, hb4⟩
      have hz4 := hb4.size
      (try simp at hz4)
      have rl_4 : w4.heap[w1.heap.size]? = some (.cells #[.int .i64 m, .int .i64 q, .slice A1 l.length c1] 37 (0, 0)) := (hb4.block _ (by first | omega | (simp; done) | (simp; omega))).trans (by repeat (first | (with_reducible apply heap_setCell_same) | (with_reducible apply drew_row) | (with_reducible apply drewN_row) | (with_reducible exact Rl_3.out) | (with_reducible refine (heap_setCell_other _ _ _ _ (by first | omega | (simp; done) | (simp; omega))).trans ?_) | (with_reducible refine (Below.heap_alloc _ _ _ (by first | omega | (simp; done) | (simp; omega))).trans ?_)))
      have rm_4 : w4.heap[w2.heap.size]? = some (.cells #[.int .i64 m, .int .i64 q, .slice A2 r.length c2] 37 (0, 0)) := (hb4.block _ (by first | omega | (simp; done) | (simp; omega))).trans (by repeat (first | (with_reducible apply heap_setCell_same) | (with_reducible apply drew_row) | (with_reducible apply drewN_row) | (with_reducible exact Rm_3.out) | (with_reducible refine (heap_setCell_other _ _ _ _ (by first | omega | (simp; done) | (simp; omega))).trans ?_) | (with_reducible refine (Below.heap_alloc _ _ _ (by first | omega | (simp; done) | (simp; omega))).trans ?_)))
      have rp_4 : w4.heap[w2.heap.size + 1]? = some (.cells #[.int .i64 0, .int .i64 0, .int .i64 0, .int .i64 0, .int .i64 0, .string ⟨#[]⟩] 58 (0, 0)) := (hb4.block _ (by first | omega | (simp; done) | (simp; omega))).trans (by repeat (first | (with_reducible apply heap_setCell_same) | (with_reducible apply drew_row) | (with_reducible apply drewN_row) | (with_reducible exact Rp_3.out) | (with_reducible refine (heap_setCell_other _ _ _ _ (by first | omega | (simp; done) | (simp; omega))).trans ?_) | (with_reducible refine (Below.heap_alloc _ _ _ (by first | omega | (simp; done) | (simp; omega))).trans ?_)))
      have rn_4 : w4.heap[w3.heap.size]? = some (.cells #[.int .i64 m, .int .i64 q, .slice A3 r.length c3] 37 (0, 0)) := (hb4.block _ (by first | (simp; done) | (simp; omega))).trans (by repeat (first | exact heap_new _ _ _ (by first | rfl | (simp; done) | (simp; omega)) | refine (Below.heap_alloc _ _ _ (by first | omega | (simp; done) | (simp; omega))).trans ?_))
      have rq_4 : w4.heap[w3.heap.size + 1]? = some (.cells #[.int .i64 0, .int .i64 0, .int .i64 0, .int .i64 0, .int .i64 0, .string ⟨#[]⟩] 58 (0, 0)) := (hb4.block _ (by first | (simp; done) | (simp; omega))).trans (by repeat (first | exact heap_new _ _ _ (by first | rfl | (simp; done) | (simp; omega)) | refine (Below.heap_alloc _ _ _ (by first | omega | (simp; done) | (simp; omega))).trans ?_))
      have Ol_4 := Lib.hid (own_below Ol_3.out (w' := w4) (by repeat (first | with_reducible exact Below.refl _ _ | with_reducible assumption | with_reducible refine Below.drew ?_ | with_reducible refine Below.alloc ?_ (by first | exact Nat.le_refl _ | omega | (simp; done) | (simp; omega)) _ | with_reducible refine Below.setCell ?_ (by first | exact Nat.le_refl _ | omega | (simp; done) | (simp; omega)) _ | (with_reducible refine ext_trans ?_ (by with_reducible assumption)))))
      have Om_4 := Lib.hid (OwnE.below Om_3.out (w' := w4) (by repeat (first | with_reducible exact Below.refl _ _ | with_reducible assumption | with_reducible refine Below.drew ?_ | with_reducible refine Below.alloc ?_ (by first | exact Nat.le_refl _ | omega | (simp; done) | (simp; omega)) _ | with_reducible refine Below.setCell ?_ (by first | exact Nat.le_refl _ | omega | (simp; done) | (simp; omega)) _ | (with_reducible refine ext_trans ?_ (by with_reducible assumption)))))
      have On_4 := Lib.hid (OwnE.below On_3.out (w' := w4) (by repeat (first | with_reducible exact Below.refl _ _ | with_reducible assumption | with_reducible refine Below.drew ?_ | with_reducible refine Below.alloc ?_ (by first | exact Nat.le_refl _ | omega | (simp; done) | (simp; omega)) _ | with_reducible refine Below.setCell ?_ (by first | exact Nat.le_refl _ | omega | (simp; done) | (simp; omega)) _ | (with_reducible refine ext_trans ?_ (by with_reducible assumption)))))
      have hw4 : Below w.heap.size w w4 := (by repeat (first | with_reducible exact Below.refl _ _ | with_reducible assumption | with_reducible refine Below.drew ?_ | with_reducible refine Below.alloc ?_ (by first | exact Nat.le_refl _ | omega | (simp; done) | (simp; omega)) _ | with_reducible refine Below.setCell ?_ (by first | exact Nat.le_refl _ | omega | (simp; done) | (simp; omega)) _ | (with_reducible refine ext_trans ?_ (by with_reducible assumption))))
      clear r0_rl_3 f0_rl_3 r1_rl_3 f1_rl_3 r2_rl_3 f2_rl_3
      clear r0_rm_3 f0_rm_3 r1_rm_3 f1_rm_3 r2_rm_3 f2_rm_3
      clear r0_rp_3 f0_rp_3 r1_rp_3 f1_rp_3 r2_rp_3 f2_rp_3 r3_rp_3 f3_rp_3 r4_rp_3 f4_rp_3 r5_rp_3 f5_rp_3
      have lRl_4 : w1.heap.size < w4.heap.size := by omega
      have Rl_4 := Lib.hid rl_4
      have r0_rl_4 := cell_of_row _ _ 0 _ _ _ rl_4
      have r1_rl_4 := cell_of_row _ _ 1 _ _ _ rl_4
      have r2_rl_4 := cell_of_row _ _ 2 _ _ _ rl_4
      have f0_rl_4 := frozen_of_row _ _ 0 _ _ rl_4
      have f1_rl_4 := frozen_of_row _ _ 1 _ _ rl_4
      have f2_rl_4 := frozen_of_row _ _ 2 _ _ rl_4
      simp at r0_rl_4 r1_rl_4 r2_rl_4
      clear rl_4
      have lRm_4 : w2.heap.size < w4.heap.size := by omega
      have Rm_4 := Lib.hid rm_4
      have r0_rm_4 := cell_of_row _ _ 0 _ _ _ rm_4
      have r1_rm_4 := cell_of_row _ _ 1 _ _ _ rm_4
      have r2_rm_4 := cell_of_row _ _ 2 _ _ _ rm_4
      have f0_rm_4 := frozen_of_row _ _ 0 _ _ rm_4
      have f1_rm_4 := frozen_of_row _ _ 1 _ _ rm_4
      have f2_rm_4 := frozen_of_row _ _ 2 _ _ rm_4
      simp at r0_rm_4 r1_rm_4 r2_rm_4
      clear rm_4
      have lRp_4 : w2.heap.size + 1 < w4.heap.size := by omega
      have Rp_4 := Lib.hid rp_4
      have r0_rp_4 := cell_of_row _ _ 0 _ _ _ rp_4
      have r1_rp_4 := cell_of_row _ _ 1 _ _ _ rp_4
      have r2_rp_4 := cell_of_row _ _ 2 _ _ _ rp_4
      have r3_rp_4 := cell_of_row _ _ 3 _ _ _ rp_4
      have r4_rp_4 := cell_of_row _ _ 4 _ _ _ rp_4
      have r5_rp_4 := cell_of_row _ _ 5 _ _ _ rp_4
      have f0_rp_4 := frozen_of_row _ _ 0 _ _ rp_4
      have f1_rp_4 := frozen_of_row _ _ 1 _ _ rp_4
      have f2_rp_4 := frozen_of_row _ _ 2 _ _ rp_4
      have f3_rp_4 := frozen_of_row _ _ 3 _ _ rp_4
      have f4_rp_4 := frozen_of_row _ _ 4 _ _ rp_4
      have f5_rp_4 := frozen_of_row _ _ 5 _ _ rp_4
      simp at r0_rp_4 r1_rp_4 r2_rp_4 r3_rp_4 r4_rp_4 r5_rp_4
      clear rp_4
      have lRn_4 : w3.heap.size < w4.heap.size := by omega
      have Rn_4 := Lib.hid rn_4
      have r0_rn_4 := cell_of_row _ _ 0 _ _ _ rn_4
      have r1_rn_4 := cell_of_row _ _ 1 _ _ _ rn_4
      have r2_rn_4 := cell_of_row _ _ 2 _ _ _ rn_4
      have f0_rn_4 := frozen_of_row _ _ 0 _ _ rn_4
      have f1_rn_4 := frozen_of_row _ _ 1 _ _ rn_4
      have f2_rn_4 := frozen_of_row _ _ 2 _ _ rn_4
      simp at r0_rn_4 r1_rn_4 r2_rn_4
      clear rn_4
      have lRq_4 : w3.heap.size + 1 < w4.heap.size := by omega
      have Rq_4 := Lib.hid rq_4
      have r0_rq_4 := cell_of_row _ _ 0 _ _ _ rq_4
      have r1_rq_4 := cell_of_row _ _ 1 _ _ _ rq_4
      have r2_rq_4 := cell_of_row _ _ 2 _ _ _ rq_4
      have r3_rq_4 := cell_of_row _ _ 3 _ _ _ rq_4
      have r4_rq_4 := cell_of_row _ _ 4 _ _ _ rq_4
      have r5_rq_4 := cell_of_row _ _ 5 _ _ _ rq_4
      have f0_rq_4 := frozen_of_row _ _ 0 _ _ rq_4
      have f1_rq_4 := frozen_of_row _ _ 1 _ _ rq_4
      have f2_rq_4 := frozen_of_row _ _ 2 _ _ rq_4
      have f3_rq_4 := frozen_of_row _ _ 3 _ _ rq_4
      have f4_rq_4 := frozen_of_row _ _ 4 _ _ rq_4
      have f5_rq_4 := frozen_of_row _ _ 5 _ _ rq_4
      simp at r0_rq_4 r1_rq_4 r2_rq_4 r3_rq_4 r4_rq_4 r5_rq_4
      clear rq_4
      go_wp2_with fail
      refine (SI.out _ _ _ Om_4.out.rd On_4.out.rd).mono ?_
      rintro e w5 ⟨rfl, hb5⟩
      have hz5 := hb5.size
      (try simp at hz5)
      have rl_5 : w5.heap[w1.heap.size]? = some (.cells #[.int .i64 m, .int .i64 q, .slice A1 l.length c1] 37 (0, 0)) := (hb5.block _ (by first | omega | (simp; done) | (simp; omega))).trans (by repeat (first | (with_reducible apply heap_setCell_same) | (with_reducible apply drew_row) | (with_reducible apply drewN_row) | (with_reducible exact Rl_4.out) | (with_reducible refine (heap_setCell_other _ _ _ _ (by first | omega | (simp; done) | (simp; omega))).trans ?_) | (with_reducible refine (Below.heap_alloc _ _ _ (by first | omega | (simp; done) | (simp; omega))).trans ?_)))
      have rm_5 : w5.heap[w2.heap.size]? = some (.cells #[.int .i64 m, .int .i64 q, .slice A2 r.length c2] 37 (0, 0)) := (hb5.block _ (by first | omega | (simp; done) | (simp; omega))).trans (by repeat (first | (with_reducible apply heap_setCell_same) | (with_reducible apply drew_row) | (with_reducible apply drewN_row) | (with_reducible exact Rm_4.out) | (with_reducible refine (heap_setCell_other _ _ _ _ (by first | omega | (simp; done) | (simp; omega))).trans ?_) | (with_reducible refine (Below.heap_alloc _ _ _ (by first | omega | (simp; done) | (simp; omega))).trans ?_)))
      have rp_5 : w5.heap[w2.heap.size + 1]? = some (.cells #[.int .i64 0, .int .i64 0, .int .i64 0, .int .i64 0, .int .i64 0, .string ⟨#[]⟩] 58 (0, 0)) := (hb5.block _ (by first | omega | (simp; done) | (simp; omega))).trans (by repeat (first | (with_reducible apply heap_setCell_same) | (with_reducible apply drew_row) | (with_reducible apply drewN_row) | (with_reducible exact Rp_4.out) | (with_reducible refine (heap_setCell_other _ _ _ _ (by first | omega | (simp; done) | (simp; omega))).trans ?_) | (with_reducible refine (Below.heap_alloc _ _ _ (by first | omega | (simp; done) | (simp; omega))).trans ?_)))
      have rn_5 : w5.heap[w3.heap.size]? = some (.cells #[.int .i64 m, .int .i64 q, .slice A3 r.length c3] 37 (0, 0)) := (hb5.block _ (by first | omega | (simp; done) | (simp; omega))).trans (by repeat (first | (with_reducible apply heap_setCell_same) | (with_reducible apply drew_row) | (with_reducible apply drewN_row) | (with_reducible exact Rn_4.out) | (with_reducible refine (heap_setCell_other _ _ _ _ (by first | omega | (simp; done) | (simp; omega))).trans ?_) | (with_reducible refine (Below.heap_alloc _ _ _ (by first | omega | (simp; done) | (simp; omega))).trans ?_)))
      have rq_5 : w5.heap[w3.heap.size + 1]? = some (.cells #[.int .i64 0, .int .i64 0, .int .i64 0, .int .i64 0, .int .i64 0, .string ⟨#[]⟩] 58 (0, 0)) := (hb5.block _ (by first | omega | (simp; done) | (simp; omega))).trans (by repeat (first | (with_reducible apply heap_setCell_same) | (with_reducible apply drew_row) | (with_reducible apply drewN_row) | (with_reducible exact Rq_4.out) | (with_reducible refine (heap_setCell_other _ _ _ _ (by first | omega | (simp; done) | (simp; omega))).trans ?_) | (with_reducible refine (Below.heap_alloc _ _ _ (by first | omega | (simp; done) | (simp; omega))).trans ?_)))
      have Ol_5 := Lib.hid (own_below Ol_4.out (w' := w5) (by repeat (first | with_reducible exact Below.refl _ _ | with_reducible assumption | with_reducible refine Below.drew ?_ | with_reducible refine Below.alloc ?_ (by first | exact Nat.le_refl _ | omega | (simp; done) | (simp; omega)) _ | with_reducible refine Below.setCell ?_ (by first | exact Nat.le_refl _ | omega | (simp; done) | (simp; omega)) _ | (with_reducible refine ext_trans ?_ (by with_reducible assumption)))))
      have Om_5 := Lib.hid (OwnE.below Om_4.out (w' := w5) (by repeat (first | with_reducible exact Below.refl _ _ | with_reducible assumption | with_reducible refine Below.drew ?_ | with_reducible refine Below.alloc ?_ (by first | exact Nat.le_refl _ | omega | (simp; done) | (simp; omega)) _ | with_reducible refine Below.setCell ?_ (by first | exact Nat.le_refl _ | omega | (simp; done) | (simp; omega)) _ | (with_reducible refine ext_trans ?_ (by with_reducible assumption)))))
      have On_5 := Lib.hid (OwnE.below On_4.out (w' := w5) (by repeat (first | with_reducible exact Below.refl _ _ | with_reducible assumption | with_reducible refine Below.drew ?_ | with_reducible refine Below.alloc ?_ (by first | exact Nat.le_refl _ | omega | (simp; done) | (simp; omega)) _ | with_reducible refine Below.setCell ?_ (by first | exact Nat.le_refl _ | omega | (simp; done) | (simp; omega)) _ | (with_reducible refine ext_trans ?_ (by with_reducible assumption)))))
      have hw5 : Below w.heap.size w w5 := (by repeat (first | with_reducible exact Below.refl _ _ | with_reducible assumption | with_reducible refine Below.drew ?_ | with_reducible refine Below.alloc ?_ (by first | exact Nat.le_refl _ | omega | (simp; done) | (simp; omega)) _ | with_reducible refine Below.setCell ?_ (by first | exact Nat.le_refl _ | omega | (simp; done) | (simp; omega)) _ | (with_reducible refine ext_trans ?_ (by with_reducible assumption))))
      clear r0_rl_4 f0_rl_4 r1_rl_4 f1_rl_4 r2_rl_4 f2_rl_4
      clear r0_rm_4 f0_rm_4 r1_rm_4 f1_rm_4 r2_rm_4 f2_rm_4
      clear r0_rp_4 f0_rp_4 r1_rp_4 f1_rp_4 r2_rp_4 f2_rp_4 r3_rp_4 f3_rp_4 r4_rp_4 f4_rp_4 r5_rp_4 f5_rp_4
      clear r0_rn_4 f0_rn_4 r1_rn_4 f1_rn_4 r2_rn_4 f2_rn_4
      clear r0_rq_4 f0_rq_4 r1_rq_4 f1_rq_4 r2_rq_4 f2_rq_4 r3_rq_4 f3_rq_4 r4_rq_4 f4_rq_4 r5_rq_4 f5_rq_4
      have lRl_5 : w1.heap.size < w5.heap.size := by omega
      have Rl_5 := Lib.hid rl_5
      have r0_rl_5 := cell_of_row _ _ 0 _ _ _ rl_5
      have r1_rl_5 := cell_of_row _ _ 1 _ _ _ rl_5
      have r2_rl_5 := cell_of_row _ _ 2 _ _ _ rl_5
      have f0_rl_5 := frozen_of_row _ _ 0 _ _ rl_5
      have f1_rl_5 := frozen_of_row _ _ 1 _ _ rl_5
      have f2_rl_5 := frozen_of_row _ _ 2 _ _ rl_5
      simp at r0_rl_5 r1_rl_5 r2_rl_5
      clear rl_5
      have lRm_5 : w2.heap.size < w5.heap.size := by omega
      have Rm_5 := Lib.hid rm_5
      have r0_rm_5 := cell_of_row _ _ 0 _ _ _ rm_5
      have r1_rm_5 := cell_of_row _ _ 1 _ _ _ rm_5
      have r2_rm_5 := cell_of_row _ _ 2 _ _ _ rm_5
      have f0_rm_5 := frozen_of_row _ _ 0 _ _ rm_5
      have f1_rm_5 := frozen_of_row _ _ 1 _ _ rm_5
      have f2_rm_5 := frozen_of_row _ _ 2 _ _ rm_5
      simp at r0_rm_5 r1_rm_5 r2_rm_5
      clear rm_5
      have lRp_5 : w2.heap.size + 1 < w5.heap.size := by omega
      have Rp_5 := Lib.hid rp_5
      have r0_rp_5 := cell_of_row _ _ 0 _ _ _ rp_5
      have r1_rp_5 := cell_of_row _ _ 1 _ _ _ rp_5
      have r2_rp_5 := cell_of_row _ _ 2 _ _ _ rp_5
      have r3_rp_5 := cell_of_row _ _ 3 _ _ _ rp_5
      have r4_rp_5 := cell_of_row _ _ 4 _ _ _ rp_5
      have r5_rp_5 := cell_of_row _ _ 5 _ _ _ rp_5
      have f0_rp_5 := frozen_of_row _ _ 0 _ _ rp_5
      have f1_rp_5 := frozen_of_row _ _ 1 _ _ rp_5
      have f2_rp_5 := frozen_of_row _ _ 2 _ _ rp_5
      have f3_rp_5 := frozen_of_row _ _ 3 _ _ rp_5
      have f4_rp_5 := frozen_of_row _ _ 4 _ _ rp_5
      have f5_rp_5 := frozen_of_row _ _ 5 _ _ rp_5
      simp at r0_rp_5 r1_rp_5 r2_rp_5 r3_rp_5 r4_rp_5 r5_rp_5
      clear rp_5
      have lRn_5 : w3.heap.size < w5.heap.size := by omega
      have Rn_5 := Lib.hid rn_5
      have r0_rn_5 := cell_of_row _ _ 0 _ _ _ rn_5
      have r1_rn_5 := cell_of_row _ _ 1 _ _ _ rn_5
      have r2_rn_5 := cell_of_row _ _ 2 _ _ _ rn_5
      have f0_rn_5 := frozen_of_row _ _ 0 _ _ rn_5
      have f1_rn_5 := frozen_of_row _ _ 1 _ _ rn_5
      have f2_rn_5 := frozen_of_row _ _ 2 _ _ rn_5
      simp at r0_rn_5 r1_rn_5 r2_rn_5
      clear rn_5
      have lRq_5 : w3.heap.size + 1 < w5.heap.size := by omega
      have Rq_5 := Lib.hid rq_5
      have r0_rq_5 := cell_of_row _ _ 0 _ _ _ rq_5
      have r1_rq_5 := cell_of_row _ _ 1 _ _ _ rq_5
      have r2_rq_5 := cell_of_row _ _ 2 _ _ _ rq_5
      have r3_rq_5 := cell_of_row _ _ 3 _ _ _ rq_5
      have r4_rq_5 := cell_of_row _ _ 4 _ _ _ rq_5
      have r5_rq_5 := cell_of_row _ _ 5 _ _ _ rq_5
      have f0_rq_5 := frozen_of_row _ _ 0 _ _ rq_5
      have f1_rq_5 := frozen_of_row _ _ 1 _ _ rq_5
      have f2_rq_5 := frozen_of_row _ _ 2 _ _ rq_5
      have f3_rq_5 := frozen_of_row _ _ 3 _ _ rq_5
      have f4_rq_5 := frozen_of_row _ _ 4 _ _ rq_5
      have f5_rq_5 := frozen_of_row _ _ 5 _ _ rq_5
      simp at r0_rq_5 r1_rq_5 r2_rq_5 r3_rq_5 r4_rq_5 r5_rq_5
      clear rq_5
      go_wp2_with fail
      refine (OL.out _ _ (rd_own Ol_5.out)).mono ?_
      rintro e w6 ⟨rfl, hb6⟩
      have hz6 := hb6.size
      (try simp at hz6)
      have rl_6 : w6.heap[w1.heap.size]? = some (.cells #[.int .i64 m, .int .i64 q, .slice A1 l.length c1] 37 (0, 0)) := (hb6.block _ (by first | omega | (simp; done) | (simp; omega))).trans (by repeat (first | (with_reducible apply heap_setCell_same) | (with_reducible apply drew_row) | (with_reducible apply drewN_row) | (with_reducible exact Rl_5.out) | (with_reducible refine (heap_setCell_other _ _ _ _ (by first | omega | (simp; done) | (simp; omega))).trans ?_) | (with_reducible refine (Below.heap_alloc _ _ _ (by first | omega | (simp; done) | (simp; omega))).trans ?_)))
      have rm_6 : w6.heap[w2.heap.size]? = some (.cells #[.int .i64 m, .int .i64 q, .slice A2 r.length c2] 37 (0, 0)) := (hb6.block _ (by first | omega | (simp; done) | (simp; omega))).trans (by repeat (first | (with_reducible apply heap_setCell_same) | (with_reducible apply drew_row) | (with_reducible apply drewN_row) | (with_reducible exact Rm_5.out) | (with_reducible refine (heap_setCell_other _ _ _ _ (by first | omega | (simp; done) | (simp; omega))).trans ?_) | (with_reducible refine (Below.heap_alloc _ _ _ (by first | omega | (simp; done) | (simp; omega))).trans ?_)))
      have rp_6 : w6.heap[w2.heap.size + 1]? = some (.cells #[.int .i64 0, .int .i64 0, .int .i64 0, .int .i64 0, .int .i64 0, .string ⟨#[]⟩] 58 (0, 0)) := (hb6.block _ (by first | omega | (simp; done) | (simp; omega))).trans (by repeat (first | (with_reducible apply heap_setCell_same) | (with_reducible apply drew_row) | (with_reducible apply drewN_row) | (with_reducible exact Rp_5.out) | (with_reducible refine (heap_setCell_other _ _ _ _ (by first | omega | (simp; done) | (simp; omega))).trans ?_) | (with_reducible refine (Below.heap_alloc _ _ _ (by first | omega | (simp; done) | (simp; omega))).trans ?_)))
      have rn_6 : w6.heap[w3.heap.size]? = some (.cells #[.int .i64 m, .int .i64 q, .slice A3 r.length c3] 37 (0, 0)) := (hb6.block _ (by first | omega | (simp; done) | (simp; omega))).trans (by repeat (first | (with_reducible apply heap_setCell_same) | (with_reducible apply drew_row) | (with_reducible apply drewN_row) | (with_reducible exact Rn_5.out) | (with_reducible refine (heap_setCell_other _ _ _ _ (by first | omega | (simp; done) | (simp; omega))).trans ?_) | (with_reducible refine (Below.heap_alloc _ _ _ (by first | omega | (simp; done) | (simp; omega))).trans ?_)))
      have rq_6 : w6.heap[w3.heap.size + 1]? = some (.cells #[.int .i64 0, .int .i64 0, .int .i64 0, .int .i64 0, .int .i64 0, .string ⟨#[]⟩] 58 (0, 0)) := (hb6.block _ (by first | omega | (simp; done) | (simp; omega))).trans (by repeat (first | (with_reducible apply heap_setCell_same) | (with_reducible apply drew_row) | (with_reducible apply drewN_row) | (with_reducible exact Rq_5.out) | (with_reducible refine (heap_setCell_other _ _ _ _ (by first | omega | (simp; done) | (simp; omega))).trans ?_) | (with_reducible refine (Below.heap_alloc _ _ _ (by first | omega | (simp; done) | (simp; omega))).trans ?_)))
      have Ol_6 := Lib.hid (own_below Ol_5.out (w' := w6) (by repeat (first | with_reducible exact Below.refl _ _ | with_reducible assumption | with_reducible refine Below.drew ?_ | with_reducible refine Below.alloc ?_ (by first | exact Nat.le_refl _ | omega | (simp; done) | (simp; omega)) _ | with_reducible refine Below.setCell ?_ (by first | exact Nat.le_refl _ | omega | (simp; done) | (simp; omega)) _ | (with_reducible refine ext_trans ?_ (by with_reducible assumption)))))
      have Om_6 := Lib.hid (OwnE.below Om_5.out (w' := w6) (by repeat (first | with_reducible exact Below.refl _ _ | with_reducible assumption | with_reducible refine Below.drew ?_ | with_reducible refine Below.alloc ?_ (by first | exact Nat.le_refl _ | omega | (simp; done) | (simp; omega)) _ | with_reducible refine Below.setCell ?_ (by first | exact Nat.le_refl _ | omega | (simp; done) | (simp; omega)) _ | (with_reducible refine ext_trans ?_ (by with_reducible assumption)))))
      have On_6 := Lib.hid (OwnE.below On_5.out (w' := w6) (by repeat (first | with_reducible exact Below.refl _ _ | with_reducible assumption | with_reducible refine Below.drew ?_ | with_reducible refine Below.alloc ?_ (by first | exact Nat.le_refl _ | omega | (simp; done) | (simp; omega)) _ | with_reducible refine Below.setCell ?_ (by first | exact Nat.le_refl _ | omega | (simp; done) | (simp; omega)) _ | (with_reducible refine ext_trans ?_ (by with_reducible assumption)))))
      have hw6 : Below w.heap.size w w6 := (by repeat (first | with_reducible exact Below.refl _ _ | with_reducible assumption | with_reducible refine Below.drew ?_ | with_reducible refine Below.alloc ?_ (by first | exact Nat.le_refl _ | omega | (simp; done) | (simp; omega)) _ | with_reducible refine Below.setCell ?_ (by first | exact Nat.le_refl _ | omega | (simp; done) | (simp; omega)) _ | (with_reducible refine ext_trans ?_ (by with_reducible assumption))))
      clear r0_rl_5 f0_rl_5 r1_rl_5 f1_rl_5 r2_rl_5 f2_rl_5
      clear r0_rm_5 f0_rm_5 r1_rm_5 f1_rm_5 r2_rm_5 f2_rm_5
      clear r0_rp_5 f0_rp_5 r1_rp_5 f1_rp_5 r2_rp_5 f2_rp_5 r3_rp_5 f3_rp_5 r4_rp_5 f4_rp_5 r5_rp_5 f5_rp_5
      clear r0_rn_5 f0_rn_5 r1_rn_5 f1_rn_5 r2_rn_5 f2_rn_5
      clear r0_rq_5 f0_rq_5 r1_rq_5 f1_rq_5 r2_rq_5 f2_rq_5 r3_rq_5 f3_rq_5 r4_rq_5 f4_rq_5 r5_rq_5 f5_rq_5
      have lRl_6 : w1.heap.size < w6.heap.size := by omega
      have Rl_6 := Lib.hid rl_6
      have r0_rl_6 := cell_of_row _ _ 0 _ _ _ rl_6
      have r1_rl_6 := cell_of_row _ _ 1 _ _ _ rl_6
      have r2_rl_6 := cell_of_row _ _ 2 _ _ _ rl_6
      have f0_rl_6 := frozen_of_row _ _ 0 _ _ rl_6
      have f1_rl_6 := frozen_of_row _ _ 1 _ _ rl_6
      have f2_rl_6 := frozen_of_row _ _ 2 _ _ rl_6
      simp at r0_rl_6 r1_rl_6 r2_rl_6
      clear rl_6
      have lRm_6 : w2.heap.size < w6.heap.size := by omega
      have Rm_6 := Lib.hid rm_6
      have r0_rm_6 := cell_of_row _ _ 0 _ _ _ rm_6
      have r1_rm_6 := cell_of_row _ _ 1 _ _ _ rm_6
      have r2_rm_6 := cell_of_row _ _ 2 _ _ _ rm_6
      have f0_rm_6 := frozen_of_row _ _ 0 _ _ rm_6
      have f1_rm_6 := frozen_of_row _ _ 1 _ _ rm_6
      have f2_rm_6 := frozen_of_row _ _ 2 _ _ rm_6
      simp at r0_rm_6 r1_rm_6 r2_rm_6
      clear rm_6
      have lRp_6 : w2.heap.size + 1 < w6.heap.size := by omega
      have Rp_6 := Lib.hid rp_6
      have r0_rp_6 := cell_of_row _ _ 0 _ _ _ rp_6
      have r1_rp_6 := cell_of_row _ _ 1 _ _ _ rp_6
      have r2_rp_6 := cell_of_row _ _ 2 _ _ _ rp_6
      have r3_rp_6 := cell_of_row _ _ 3 _ _ _ rp_6
      have r4_rp_6 := cell_of_row _ _ 4 _ _ _ rp_6
      have r5_rp_6 := cell_of_row _ _ 5 _ _ _ rp_6
      have f0_rp_6 := frozen_of_row _ _ 0 _ _ rp_6
      have f1_rp_6 := frozen_of_row _ _ 1 _ _ rp_6
      have f2_rp_6 := frozen_of_row _ _ 2 _ _ rp_6
      have f3_rp_6 := frozen_of_row _ _ 3 _ _ rp_6
      have f4_rp_6 := frozen_of_row _ _ 4 _ _ rp_6
      have f5_rp_6 := frozen_of_row _ _ 5 _ _ rp_6
      simp at r0_rp_6 r1_rp_6 r2_rp_6 r3_rp_6 r4_rp_6 r5_rp_6
      clear rp_6
      have lRn_6 : w3.heap.size < w6.heap.size := by omega
      have Rn_6 := Lib.hid rn_6
      have r0_rn_6 := cell_of_row _ _ 0 _ _ _ rn_6
      have r1_rn_6 := cell_of_row _ _ 1 _ _ _ rn_6
      have r2_rn_6 := cell_of_row _ _ 2 _ _ _ rn_6
      have f0_rn_6 := frozen_of_row _ _ 0 _ _ rn_6
      have f1_rn_6 := frozen_of_row _ _ 1 _ _ rn_6
      have f2_rn_6 := frozen_of_row _ _ 2 _ _ rn_6
      simp at r0_rn_6 r1_rn_6 r2_rn_6
      clear rn_6
      have lRq_6 : w3.heap.size + 1 < w6.heap.size := by omega
      have Rq_6 := Lib.hid rq_6
      have r0_rq_6 := cell_of_row _ _ 0 _ _ _ rq_6
      have r1_rq_6 := cell_of_row _ _ 1 _ _ _ rq_6
      have r2_rq_6 := cell_of_row _ _ 2 _ _ _ rq_6
      have r3_rq_6 := cell_of_row _ _ 3 _ _ _ rq_6
      have r4_rq_6 := cell_of_row _ _ 4 _ _ _ rq_6
      have r5_rq_6 := cell_of_row _ _ 5 _ _ _ rq_6
      have f0_rq_6 := frozen_of_row _ _ 0 _ _ rq_6
      have f1_rq_6 := frozen_of_row _ _ 1 _ _ rq_6
      have f2_rq_6 := frozen_of_row _ _ 2 _ _ rq_6
      have f3_rq_6 := frozen_of_row _ _ 3 _ _ rq_6
      have f4_rq_6 := frozen_of_row _ _ 4 _ _ rq_6
      have f5_rq_6 := frozen_of_row _ _ 5 _ _ rq_6
      simp at r0_rq_6 r1_rq_6 r2_rq_6 r3_rq_6 r4_rq_6 r5_rq_6
      clear rq_6
      go_wp2_with fail
      go_ret
      exact ⟨by first | rfl | (simp; done) | (simp; rfl) | (simp; omega), (by repeat (first | with_reducible exact Below.refl _ _ | with_reducible assumption | with_reducible refine Below.drew ?_ | with_reducible refine Below.alloc ?_ (by first | exact Nat.le_refl _ | omega | (simp; done) | (simp; omega)) _ | with_reducible refine Below.setCell ?_ (by first | exact Nat.le_refl _ | omega | (simp; done) | (simp; omega)) _ | (with_reducible refine ext_trans ?_ (by with_reducible assumption))))⟩
    case true =>
      have OL : Hid (∀ W v, RdEntry W v l → Calls Try.prog 26 #[.agg #[.int .i64 m, .int .i64 q, v]] W fun e w' => e = .returned (.bool true) ∧ Below W.heap.size W w') := fun W v h => by
        have hh := sLinkOk_any ⟨m, q, l⟩ v ML.out W h
        rw [hx] at hh
        exact hh
      have OM : Hid (∀ W v, RdEntry W v r → Calls Try.prog 27 #[.agg #[.int .i64 m, .int .i64 q, v]] W fun e w' => e = .returned (.bool true) ∧ Below W.heap.size W w') := fun W v h => by
        have hh := LinkOk_any ⟨m, q, r⟩ v NR.out W h
        rw [hok hx] at hh
        exact hh
      clear hx hok
      go_wp2_with fail
      refine (HI.out _ _ (rd_own (own_below Ol_1.out (by repeat (first | with_reducible exact Below.refl _ _ | with_reducible assumption | with_reducible refine Below.drew ?_ | with_reducible refine Below.alloc ?_ (by first | exact Nat.le_refl _ | omega | (simp; done) | (simp; omega)) _ | with_reducible refine Below.setCell ?_ (by first | exact Nat.le_refl _ | omega | (simp; done) | (simp; omega)) _ | (with_reducible refine ext_trans ?_ (by with_reducible assumption))))))).mono ?_
      rintro e w2 ⟨v2, rfl, hO2, hb2⟩
      have hz2 := hb2.size
      (try simp at hz2)
      have rl_2 : w2.heap[w1.heap.size]? = some (.cells #[.int .i64 m, .int .i64 q, .slice A1 l.length c1] 37 (0, 0)) := (hb2.block _ (by first | (simp; done) | (simp; omega))).trans (by repeat (first | exact heap_new _ _ _ (by first | rfl | (simp; done) | (simp; omega)) | refine (Below.heap_alloc _ _ _ (by first | omega | (simp; done) | (simp; omega))).trans ?_))
      have Ol_2 := Lib.hid (own_below Ol_1.out (w' := w2) (by repeat (first | with_reducible exact Below.refl _ _ | with_reducible assumption | with_reducible refine Below.drew ?_ | with_reducible refine Below.alloc ?_ (by first | exact Nat.le_refl _ | omega | (simp; done) | (simp; omega)) _ | with_reducible refine Below.setCell ?_ (by first | exact Nat.le_refl _ | omega | (simp; done) | (simp; omega)) _ | (with_reducible refine ext_trans ?_ (by with_reducible assumption)))))
      have hw2 : Below w.heap.size w w2 := (by repeat (first | with_reducible exact Below.refl _ _ | with_reducible assumption | with_reducible refine Below.drew ?_ | with_reducible refine Below.alloc ?_ (by first | exact Nat.le_refl _ | omega | (simp; done) | (simp; omega)) _ | with_reducible refine Below.setCell ?_ (by first | exact Nat.le_refl _ | omega | (simp; done) | (simp; omega)) _ | (with_reducible refine ext_trans ?_ (by with_reducible assumption))))
      have lRl_2 : w1.heap.size < w2.heap.size := by omega
      have Rl_2 := Lib.hid rl_2
      have r0_rl_2 := cell_of_row _ _ 0 _ _ _ rl_2
      have r1_rl_2 := cell_of_row _ _ 1 _ _ _ rl_2
      have r2_rl_2 := cell_of_row _ _ 2 _ _ _ rl_2
      have f0_rl_2 := frozen_of_row _ _ 0 _ _ rl_2
      have f1_rl_2 := frozen_of_row _ _ 1 _ _ rl_2
      have f2_rl_2 := frozen_of_row _ _ 2 _ _ rl_2
      simp at r0_rl_2 r1_rl_2 r2_rl_2
      clear rl_2
      obtain ⟨A2, c2, rfl⟩ := hO2.form
      have Om_2 := Lib.hid hO2
      clear hO2
      go_wp2_with fail
      refine (HS.out _ _ (rd_own (own_below Ol_2.out (by repeat (first | with_reducible exact Below.refl _ _ | with_reducible assumption | with_reducible refine Below.drew ?_ | with_reducible refine Below.alloc ?_ (by first | exact Nat.le_refl _ | omega | (simp; done) | (simp; omega)) _ | with_reducible refine Below.setCell ?_ (by first | exact Nat.le_refl _ | omega | (simp; done) | (simp; omega)) _ | (with_reducible refine ext_trans ?_ (by with_reducible assumption))))))).mono ?_
      rintro e w3 ⟨v3, rfl, hO3, hb3⟩
      have hz3 := hb3.size
      (try simp at hz3)
      have rl_3 : w3.heap[w1.heap.size]? = some (.cells #[.int .i64 m, .int .i64 q, .slice A1 l.length c1] 37 (0, 0)) := (hb3.block _ (by first | omega | (simp; done) | (simp; omega))).trans (by repeat (first | (with_reducible apply heap_setCell_same) | (with_reducible apply drew_row) | (with_reducible apply drewN_row) | (with_reducible exact Rl_2.out) | (with_reducible refine (heap_setCell_other _ _ _ _ (by first | omega | (simp; done) | (simp; omega))).trans ?_) | (with_reducible refine (Below.heap_alloc _ _ _ (by first | omega | (simp; done) | (simp; omega))).trans ?_)))
      have rm_3 : w3.heap[w2.heap.size]? = some (.cells #[.int .i64 m, .int .i64 q, .slice A2 r.length c2] 37 (0, 0)) := (hb3.block _ (by first | (simp; done) | (simp; omega))).trans (by repeat (first | exact heap_new _ _ _ (by first | rfl | (simp; done) | (simp; omega)) | refine (Below.heap_alloc _ _ _ (by first | omega | (simp; done) | (simp; omega))).trans ?_))
      have rp_3 : w3.heap[w2.heap.size + 1]? = some (.cells #[.int .i64 0, .int .i64 0, .int .i64 0, .int .i64 0, .int .i64 0, .string ⟨#[]⟩] 58 (0, 0)) := (hb3.block _ (by first | (simp; done) | (simp; omega))).trans (by repeat (first | exact heap_new _ _ _ (by first | rfl | (simp; done) | (simp; omega)) | refine (Below.heap_alloc _ _ _ (by first | omega | (simp; done) | (simp; omega))).trans ?_))
      have Ol_3 := Lib.hid (own_below Ol_2.out (w' := w3) (by repeat (first | with_reducible exact Below.refl _ _ | with_reducible assumption | with_reducible refine Below.drew ?_ | with_reducible refine Below.alloc ?_ (by first | exact Nat.le_refl _ | omega | (simp; done) | (simp; omega)) _ | with_reducible refine Below.setCell ?_ (by first | exact Nat.le_refl _ | omega | (simp; done) | (simp; omega)) _ | (with_reducible refine ext_trans ?_ (by with_reducible assumption)))))
      have Om_3 := Lib.hid (OwnE.below Om_2.out (w' := w3) (by repeat (first | with_reducible exact Below.refl _ _ | with_reducible assumption | with_reducible refine Below.drew ?_ | with_reducible refine Below.alloc ?_ (by first | exact Nat.le_refl _ | omega | (simp; done) | (simp; omega)) _ | with_reducible refine Below.setCell ?_ (by first | exact Nat.le_refl _ | omega | (simp; done) | (simp; omega)) _ | (with_reducible refine ext_trans ?_ (by with_reducible assumption)))))
      have hw3 : Below w.heap.size w w3 := (by repeat (first | with_reducible exact Below.refl _ _ | with_reducible assumption | with_reducible refine Below.drew ?_ | with_reducible refine Below.alloc ?_ (by first | exact Nat.le_refl _ | omega | (simp; done) | (simp; omega)) _ | with_reducible refine Below.setCell ?_ (by first | exact Nat.le_refl _ | omega | (simp; done) | (simp; omega)) _ | (with_reducible refine ext_trans ?_ (by with_reducible assumption))))
      clear r0_rl_2 f0_rl_2 r1_rl_2 f1_rl_2 r2_rl_2 f2_rl_2
      have lRl_3 : w1.heap.size < w3.heap.size := by omega
      have Rl_3 := Lib.hid rl_3
      have r0_rl_3 := cell_of_row _ _ 0 _ _ _ rl_3
      have r1_rl_3 := cell_of_row _ _ 1 _ _ _ rl_3
      have r2_rl_3 := cell_of_row _ _ 2 _ _ _ rl_3
      have f0_rl_3 := frozen_of_row _ _ 0 _ _ rl_3
      have f1_rl_3 := frozen_of_row _ _ 1 _ _ rl_3
      have f2_rl_3 := frozen_of_row _ _ 2 _ _ rl_3
      simp at r0_rl_3 r1_rl_3 r2_rl_3
      clear rl_3
      have lRm_3 : w2.heap.size < w3.heap.size := by omega
      have Rm_3 := Lib.hid rm_3
      have r0_rm_3 := cell_of_row _ _ 0 _ _ _ rm_3
      have r1_rm_3 := cell_of_row _ _ 1 _ _ _ rm_3
      have r2_rm_3 := cell_of_row _ _ 2 _ _ _ rm_3
      have f0_rm_3 := frozen_of_row _ _ 0 _ _ rm_3
      have f1_rm_3 := frozen_of_row _ _ 1 _ _ rm_3
      have f2_rm_3 := frozen_of_row _ _ 2 _ _ rm_3
      simp at r0_rm_3 r1_rm_3 r2_rm_3
      clear rm_3
      have lRp_3 : w2.heap.size + 1 < w3.heap.size := by omega
      have Rp_3 := Lib.hid rp_3
      have r0_rp_3 := cell_of_row _ _ 0 _ _ _ rp_3
      have r1_rp_3 := cell_of_row _ _ 1 _ _ _ rp_3
      have r2_rp_3 := cell_of_row _ _ 2 _ _ _ rp_3
      have r3_rp_3 := cell_of_row _ _ 3 _ _ _ rp_3
      have r4_rp_3 := cell_of_row _ _ 4 _ _ _ rp_3
      have r5_rp_3 := cell_of_row _ _ 5 _ _ _ rp_3
      have f0_rp_3 := frozen_of_row _ _ 0 _ _ rp_3
      have f1_rp_3 := frozen_of_row _ _ 1 _ _ rp_3
      have f2_rp_3 := frozen_of_row _ _ 2 _ _ rp_3
      have f3_rp_3 := frozen_of_row _ _ 3 _ _ rp_3
      have f4_rp_3 := frozen_of_row _ _ 4 _ _ rp_3
      have f5_rp_3 := frozen_of_row _ _ 5 _ _ rp_3
      simp at r0_rp_3 r1_rp_3 r2_rp_3 r3_rp_3 r4_rp_3 r5_rp_3
      clear rp_3
      obtain ⟨A3, c3, rfl⟩ := hO3.form
      have On_3 := Lib.hid hO3
      clear hO3
      go_wp2_with fail
      refine (SS.out _ _ _ (Om_3.out.below (by repeat (first | with_reducible exact Below.refl _ _ | with_reducible assumption | with_reducible refine Below.drew ?_ | with_reducible refine Below.alloc ?_ (by first | exact Nat.le_refl _ | omega | (simp; done) | (simp; omega)) _ | with_reducible refine Below.setCell ?_ (by first | exact Nat.le_refl _ | omega | (simp; done) | (simp; omega)) _ | (with_reducible refine ext_trans ?_ (by with_reducible assumption))))).rd (On_3.out.below (by repeat (first | with_reducible exact Below.refl _ _ | with_reducible assumption | with_reducible refine Below.drew ?_ | with_reducible refine Below.alloc ?_ (by first | exact Nat.le_refl _ | omega | (simp; done) | (simp; omega)) _ | with_reducible refine Below.setCell ?_ (by first | exact Nat.le_refl _ | omega | (simp; done) | (simp; omega)) _ | (with_reducible refine ext_trans ?_ (by with_reducible assumption))))).rd).mono ?_
      rintro e w4 ⟨rfl, hb4⟩
      have hz4 := hb4.size
      (try simp at hz4)
      have rl_4 : w4.heap[w1.heap.size]? = some (.cells #[.int .i64 m, .int .i64 q, .slice A1 l.length c1] 37 (0, 0)) := (hb4.block _ (by first | omega | (simp; done) | (simp; omega))).trans (by repeat (first | (with_reducible apply heap_setCell_same) | (with_reducible apply drew_row) | (with_reducible apply drewN_row) | (with_reducible exact Rl_3.out) | (with_reducible refine (heap_setCell_other _ _ _ _ (by first | omega | (simp; done) | (simp; omega))).trans ?_) | (with_reducible refine (Below.heap_alloc _ _ _ (by first | omega | (simp; done) | (simp; omega))).trans ?_)))
      have rm_4 : w4.heap[w2.heap.size]? = some (.cells #[.int .i64 m, .int .i64 q, .slice A2 r.length c2] 37 (0, 0)) := (hb4.block _ (by first | omega | (simp; done) | (simp; omega))).trans (by repeat (first | (with_reducible apply heap_setCell_same) | (with_reducible apply drew_row) | (with_reducible apply drewN_row) | (with_reducible exact Rm_3.out) | (with_reducible refine (heap_setCell_other _ _ _ _ (by first | omega | (simp; done) | (simp; omega))).trans ?_) | (with_reducible refine (Below.heap_alloc _ _ _ (by first | omega | (simp; done) | (simp; omega))).trans ?_)))
      have rp_4 : w4.heap[w2.heap.size + 1]? = some (.cells #[.int .i64 0, .int .i64 0, .int .i64 0, .int .i64 0, .int .i64 0, .string ⟨#[]⟩] 58 (0, 0)) := (hb4.block _ (by first | omega | (simp; done) | (simp; omega))).trans (by repeat (first | (with_reducible apply heap_setCell_same) | (with_reducible apply drew_row) | (with_reducible apply drewN_row) | (with_reducible exact Rp_3.out) | (with_reducible refine (heap_setCell_other _ _ _ _ (by first | omega | (simp; done) | (simp; omega))).trans ?_) | (with_reducible refine (Below.heap_alloc _ _ _ (by first | omega | (simp; done) | (simp; omega))).trans ?_)))
      have rn_4 : w4.heap[w3.heap.size]? = some (.cells #[.int .i64 m, .int .i64 q, .slice A3 r.length c3] 37 (0, 0)) := (hb4.block _ (by first | (simp; done) | (simp; omega))).trans (by repeat (first | exact heap_new _ _ _ (by first | rfl | (simp; done) | (simp; omega)) | refine (Below.heap_alloc _ _ _ (by first | omega | (simp; done) | (simp; omega))).trans ?_))
      have rq_4 : w4.heap[w3.heap.size + 1]? = some (.cells #[.int .i64 0, .int .i64 0, .int .i64 0, .int .i64 0, .int .i64 0, .string ⟨#[]⟩] 58 (0, 0)) := (hb4.block _ (by first | (simp; done) | (simp; omega))).trans (by repeat (first | exact heap_new _ _ _ (by first | rfl | (simp; done) | (simp; omega)) | refine (Below.heap_alloc _ _ _ (by first | omega | (simp; done) | (simp; omega))).trans ?_))
      have Ol_4 := Lib.hid (own_below Ol_3.out (w' := w4) (by repeat (first | with_reducible exact Below.refl _ _ | with_reducible assumption | with_reducible refine Below.drew ?_ | with_reducible refine Below.alloc ?_ (by first | exact Nat.le_refl _ | omega | (simp; done) | (simp; omega)) _ | with_reducible refine Below.setCell ?_ (by first | exact Nat.le_refl _ | omega | (simp; done) | (simp; omega)) _ | (with_reducible refine ext_trans ?_ (by with_reducible assumption)))))
      have Om_4 := Lib.hid (OwnE.below Om_3.out (w' := w4) (by repeat (first | with_reducible exact Below.refl _ _ | with_reducible assumption | with_reducible refine Below.drew ?_ | with_reducible refine Below.alloc ?_ (by first | exact Nat.le_refl _ | omega | (simp; done) | (simp; omega)) _ | with_reducible refine Below.setCell ?_ (by first | exact Nat.le_refl _ | omega | (simp; done) | (simp; omega)) _ | (with_reducible refine ext_trans ?_ (by with_reducible assumption)))))
      have On_4 := Lib.hid (OwnE.below On_3.out (w' := w4) (by repeat (first | with_reducible exact Below.refl _ _ | with_reducible assumption | with_reducible refine Below.drew ?_ | with_reducible refine Below.alloc ?_ (by first | exact Nat.le_refl _ | omega | (simp; done) | (simp; omega)) _ | with_reducible refine Below.setCell ?_ (by first | exact Nat.le_refl _ | omega | (simp; done) | (simp; omega)) _ | (with_reducible refine ext_trans ?_ (by with_reducible assumption)))))
      have hw4 : Below w.heap.size w w4 := (by repeat (first | with_reducible exact Below.refl _ _ | with_reducible assumption | with_reducible refine Below.drew ?_ | with_reducible refine Below.alloc ?_ (by first | exact Nat.le_refl _ | omega | (simp; done) | (simp; omega)) _ | with_reducible refine Below.setCell ?_ (by first | exact Nat.le_refl _ | omega | (simp; done) | (simp; omega)) _ | (with_reducible refine ext_trans ?_ (by with_reducible assumption))))
      clear r0_rl_3 f0_rl_3 r1_rl_3 f1_rl_3 r2_rl_3 f2_rl_3
      clear r0_rm_3 f0_rm_3 r1_rm_3 f1_rm_3 r2_rm_3 f2_rm_3
      clear r0_rp_3 f0_rp_3 r1_rp_3 f1_rp_3 r2_rp_3 f2_rp_3 r3_rp_3 f3_rp_3 r4_rp_3 f4_rp_3 r5_rp_3 f5_rp_3
      have lRl_4 : w1.heap.size < w4.heap.size := by omega
      have Rl_4 := Lib.hid rl_4
      have r0_rl_4 := cell_of_row _ _ 0 _ _ _ rl_4
      have r1_rl_4 := cell_of_row _ _ 1 _ _ _ rl_4
      have r2_rl_4 := cell_of_row _ _ 2 _ _ _ rl_4
      have f0_rl_4 := frozen_of_row _ _ 0 _ _ rl_4
      have f1_rl_4 := frozen_of_row _ _ 1 _ _ rl_4
      have f2_rl_4 := frozen_of_row _ _ 2 _ _ rl_4
      simp at r0_rl_4 r1_rl_4 r2_rl_4
      clear rl_4
      have lRm_4 : w2.heap.size < w4.heap.size := by omega
      have Rm_4 := Lib.hid rm_4
      have r0_rm_4 := cell_of_row _ _ 0 _ _ _ rm_4
      have r1_rm_4 := cell_of_row _ _ 1 _ _ _ rm_4
      have r2_rm_4 := cell_of_row _ _ 2 _ _ _ rm_4
      have f0_rm_4 := frozen_of_row _ _ 0 _ _ rm_4
      have f1_rm_4 := frozen_of_row _ _ 1 _ _ rm_4
      have f2_rm_4 := frozen_of_row _ _ 2 _ _ rm_4
      simp at r0_rm_4 r1_rm_4 r2_rm_4
      clear rm_4
      have lRp_4 : w2.heap.size + 1 < w4.heap.size := by omega
      have Rp_4 := Lib.hid rp_4
      have r0_rp_4 := cell_of_row _ _ 0 _ _ _ rp_4
      have r1_rp_4 := cell_of_row _ _ 1 _ _ _ rp_4
      have r2_rp_4 := cell_of_row _ _ 2 _ _ _ rp_4
      have r3_rp_4 := cell_of_row _ _ 3 _ _ _ rp_4
      have r4_rp_4 := cell_of_row _ _ 4 _ _ _ rp_4
      have r5_rp_4 := cell_of_row _ _ 5 _ _ _ rp_4
      have f0_rp_4 := frozen_of_row _ _ 0 _ _ rp_4
      have f1_rp_4 := frozen_of_row _ _ 1 _ _ rp_4
      have f2_rp_4 := frozen_of_row _ _ 2 _ _ rp_4
      have f3_rp_4 := frozen_of_row _ _ 3 _ _ rp_4
      have f4_rp_4 := frozen_of_row _ _ 4 _ _ rp_4
      have f5_rp_4 := frozen_of_row _ _ 5 _ _ rp_4
      simp at r0_rp_4 r1_rp_4 r2_rp_4 r3_rp_4 r4_rp_4 r5_rp_4
      clear rp_4
      have lRn_4 : w3.heap.size < w4.heap.size := by omega
      have Rn_4 := Lib.hid rn_4
      have r0_rn_4 := cell_of_row _ _ 0 _ _ _ rn_4
      have r1_rn_4 := cell_of_row _ _ 1 _ _ _ rn_4
      have r2_rn_4 := cell_of_row _ _ 2 _ _ _ rn_4
      have f0_rn_4 := frozen_of_row _ _ 0 _ _ rn_4
      have f1_rn_4 := frozen_of_row _ _ 1 _ _ rn_4
      have f2_rn_4 := frozen_of_row _ _ 2 _ _ rn_4
      simp at r0_rn_4 r1_rn_4 r2_rn_4
      clear rn_4
      have lRq_4 : w3.heap.size + 1 < w4.heap.size := by omega
      have Rq_4 := Lib.hid rq_4
      have r0_rq_4 := cell_of_row _ _ 0 _ _ _ rq_4
      have r1_rq_4 := cell_of_row _ _ 1 _ _ _ rq_4
      have r2_rq_4 := cell_of_row _ _ 2 _ _ _ rq_4
      have r3_rq_4 := cell_of_row _ _ 3 _ _ _ rq_4
      have r4_rq_4 := cell_of_row _ _ 4 _ _ _ rq_4
      have r5_rq_4 := cell_of_row _ _ 5 _ _ _ rq_4
      have f0_rq_4 := frozen_of_row _ _ 0 _ _ rq_4
      have f1_rq_4 := frozen_of_row _ _ 1 _ _ rq_4
      have f2_rq_4 := frozen_of_row _ _ 2 _ _ rq_4
      have f3_rq_4 := frozen_of_row _ _ 3 _ _ rq_4
      have f4_rq_4 := frozen_of_row _ _ 4 _ _ rq_4
      have f5_rq_4 := frozen_of_row _ _ 5 _ _ rq_4
      simp at r0_rq_4 r1_rq_4 r2_rq_4 r3_rq_4 r4_rq_4 r5_rq_4
      clear rq_4
      go_wp2_with fail
      refine (SI.out _ _ _ Om_4.out.rd On_4.out.rd).mono ?_
      rintro e w5 ⟨rfl, hb5⟩
      have hz5 := hb5.size
      (try simp at hz5)
      have rl_5 : w5.heap[w1.heap.size]? = some (.cells #[.int .i64 m, .int .i64 q, .slice A1 l.length c1] 37 (0, 0)) := (hb5.block _ (by first | omega | (simp; done) | (simp; omega))).trans (by repeat (first | (with_reducible apply heap_setCell_same) | (with_reducible apply drew_row) | (with_reducible apply drewN_row) | (with_reducible exact Rl_4.out) | (with_reducible refine (heap_setCell_other _ _ _ _ (by first | omega | (simp; done) | (simp; omega))).trans ?_) | (with_reducible refine (Below.heap_alloc _ _ _ (by first | omega | (simp; done) | (simp; omega))).trans ?_)))
      have rm_5 : w5.heap[w2.heap.size]? = some (.cells #[.int .i64 m, .int .i64 q, .slice A2 r.length c2] 37 (0, 0)) := (hb5.block _ (by first | omega | (simp; done) | (simp; omega))).trans (by repeat (first | (with_reducible apply heap_setCell_same) | (with_reducible apply drew_row) | (with_reducible apply drewN_row) | (with_reducible exact Rm_4.out) | (with_reducible refine (heap_setCell_other _ _ _ _ (by first | omega | (simp; done) | (simp; omega))).trans ?_) | (with_reducible refine (Below.heap_alloc _ _ _ (by first | omega | (simp; done) | (simp; omega))).trans ?_)))
      have rp_5 : w5.heap[w2.heap.size + 1]? = some (.cells #[.int .i64 0, .int .i64 0, .int .i64 0, .int .i64 0, .int .i64 0, .string ⟨#[]⟩] 58 (0, 0)) := (hb5.block _ (by first | omega | (simp; done) | (simp; omega))).trans (by repeat (first | (with_reducible apply heap_setCell_same) | (with_reducible apply drew_row) | (with_reducible apply drewN_row) | (with_reducible exact Rp_4.out) | (with_reducible refine (heap_setCell_other _ _ _ _ (by first | omega | (simp; done) | (simp; omega))).trans ?_) | (with_reducible refine (Below.heap_alloc _ _ _ (by first | omega | (simp; done) | (simp; omega))).trans ?_)))
      have rn_5 : w5.heap[w3.heap.size]? = some (.cells #[.int .i64 m, .int .i64 q, .slice A3 r.length c3] 37 (0, 0)) := (hb5.block _ (by first | omega | (simp; done) | (simp; omega))).trans (by repeat (first | (with_reducible apply heap_setCell_same) | (with_reducible apply drew_row) | (with_reducible apply drewN_row) | (with_reducible exact Rn_4.out) | (with_reducible refine (heap_setCell_other _ _ _ _ (by first | omega | (simp; done) | (simp; omega))).trans ?_) | (with_reducible refine (Below.heap_alloc _ _ _ (by first | omega | (simp; done) | (simp; omega))).trans ?_)))
      have rq_5 : w5.heap[w3.heap.size + 1]? = some (.cells #[.int .i64 0, .int .i64 0, .int .i64 0, .int .i64 0, .int .i64 0, .string ⟨#[]⟩] 58 (0, 0)) := (hb5.block _ (by first | omega | (simp; done) | (simp; omega))).trans (by repeat (first | (with_reducible apply heap_setCell_same) | (with_reducible apply drew_row) | (with_reducible apply drewN_row) | (with_reducible exact Rq_4.out) | (with_reducible refine (heap_setCell_other _ _ _ _ (by first | omega | (simp; done) | (simp; omega))).trans ?_) | (with_reducible refine (Below.heap_alloc _ _ _ (by first | omega | (simp; done) | (simp; omega))).trans ?_)))
      have Ol_5 := Lib.hid (own_below Ol_4.out (w' := w5) (by repeat (first | with_reducible exact Below.refl _ _ | with_reducible assumption | with_reducible refine Below.drew ?_ | with_reducible refine Below.alloc ?_ (by first | exact Nat.le_refl _ | omega | (simp; done) | (simp; omega)) _ | with_reducible refine Below.setCell ?_ (by first | exact Nat.le_refl _ | omega | (simp; done) | (simp; omega)) _ | (with_reducible refine ext_trans ?_ (by with_reducible assumption)))))
      have Om_5 := Lib.hid (OwnE.below Om_4.out (w' := w5) (by repeat (first | with_reducible exact Below.refl _ _ | with_reducible assumption | with_reducible refine Below.drew ?_ | with_reducible refine Below.alloc ?_ (by first | exact Nat.le_refl _ | omega | (simp; done) | (simp; omega)) _ | with_reducible refine Below.setCell ?_ (by first | exact Nat.le_refl _ | omega | (simp; done) | (simp; omega)) _ | (with_reducible refine ext_trans ?_ (by with_reducible assumption)))))
      have On_5 := Lib.hid (OwnE.below On_4.out (w' := w5) (by repeat (first | with_reducible exact Below.refl _ _ | with_reducible assumption | with_reducible refine Below.drew ?_ | with_reducible refine Below.alloc ?_ (by first | exact Nat.le_refl _ | omega | (simp; done) | (simp; omega)) _ | with_reducible refine Below.setCell ?_ (by first | exact Nat.le_refl _ | omega | (simp; done) | (simp; omega)) _ | (with_reducible refine ext_trans ?_ (by with_reducible assumption)))))
      have hw5 : Below w.heap.size w w5 := (by repeat (first | with_reducible exact Below.refl _ _ | with_reducible assumption | with_reducible refine Below.drew ?_ | with_reducible refine Below.alloc ?_ (by first | exact Nat.le_refl _ | omega | (simp; done) | (simp; omega)) _ | with_reducible refine Below.setCell ?_ (by first | exact Nat.le_refl _ | omega | (simp; done) | (simp; omega)) _ | (with_reducible refine ext_trans ?_ (by with_reducible assumption))))
      clear r0_rl_4 f0_rl_4 r1_rl_4 f1_rl_4 r2_rl_4 f2_rl_4
      clear r0_rm_4 f0_rm_4 r1_rm_4 f1_rm_4 r2_rm_4 f2_rm_4
      clear r0_rp_4 f0_rp_4 r1_rp_4 f1_rp_4 r2_rp_4 f2_rp_4 r3_rp_4 f3_rp_4 r4_rp_4 f4_rp_4 r5_rp_4 f5_rp_4
      clear r0_rn_4 f0_rn_4 r1_rn_4 f1_rn_4 r2_rn_4 f2_rn_4
      clear r0_rq_4 f0_rq_4 r1_rq_4 f1_rq_4 r2_rq_4 f2_rq_4 r3_rq_4 f3_rq_4 r4_rq_4 f4_rq_4 r5_rq_4 f5_rq_4
      have lRl_5 : w1.heap.size < w5.heap.size := by omega
      have Rl_5 := Lib.hid rl_5
      have r0_rl_5 := cell_of_row _ _ 0 _ _ _ rl_5
      have r1_rl_5 := cell_of_row _ _ 1 _ _ _ rl_5
      have r2_rl_5 := cell_of_row _ _ 2 _ _ _ rl_5
      have f0_rl_5 := frozen_of_row _ _ 0 _ _ rl_5
      have f1_rl_5 := frozen_of_row _ _ 1 _ _ rl_5
      have f2_rl_5 := frozen_of_row _ _ 2 _ _ rl_5
      simp at r0_rl_5 r1_rl_5 r2_rl_5
      clear rl_5
      have lRm_5 : w2.heap.size < w5.heap.size := by omega
      have Rm_5 := Lib.hid rm_5
      have r0_rm_5 := cell_of_row _ _ 0 _ _ _ rm_5
      have r1_rm_5 := cell_of_row _ _ 1 _ _ _ rm_5
      have r2_rm_5 := cell_of_row _ _ 2 _ _ _ rm_5
      have f0_rm_5 := frozen_of_row _ _ 0 _ _ rm_5
      have f1_rm_5 := frozen_of_row _ _ 1 _ _ rm_5
      have f2_rm_5 := frozen_of_row _ _ 2 _ _ rm_5
      simp at r0_rm_5 r1_rm_5 r2_rm_5
      clear rm_5
      have lRp_5 : w2.heap.size + 1 < w5.heap.size := by omega
      have Rp_5 := Lib.hid rp_5
      have r0_rp_5 := cell_of_row _ _ 0 _ _ _ rp_5
      have r1_rp_5 := cell_of_row _ _ 1 _ _ _ rp_5
      have r2_rp_5 := cell_of_row _ _ 2 _ _ _ rp_5
      have r3_rp_5 := cell_of_row _ _ 3 _ _ _ rp_5
      have r4_rp_5 := cell_of_row _ _ 4 _ _ _ rp_5
      have r5_rp_5 := cell_of_row _ _ 5 _ _ _ rp_5
      have f0_rp_5 := frozen_of_row _ _ 0 _ _ rp_5
      have f1_rp_5 := frozen_of_row _ _ 1 _ _ rp_5
      have f2_rp_5 := frozen_of_row _ _ 2 _ _ rp_5
      have f3_rp_5 := frozen_of_row _ _ 3 _ _ rp_5
      have f4_rp_5 := frozen_of_row _ _ 4 _ _ rp_5
      have f5_rp_5 := frozen_of_row _ _ 5 _ _ rp_5
      simp at r0_rp_5 r1_rp_5 r2_rp_5 r3_rp_5 r4_rp_5 r5_rp_5
      clear rp_5
      have lRn_5 : w3.heap.size < w5.heap.size := by omega
      have Rn_5 := Lib.hid rn_5
      have r0_rn_5 := cell_of_row _ _ 0 _ _ _ rn_5
      have r1_rn_5 := cell_of_row _ _ 1 _ _ _ rn_5
      have r2_rn_5 := cell_of_row _ _ 2 _ _ _ rn_5
      have f0_rn_5 := frozen_of_row _ _ 0 _ _ rn_5
      have f1_rn_5 := frozen_of_row _ _ 1 _ _ rn_5
      have f2_rn_5 := frozen_of_row _ _ 2 _ _ rn_5
      simp at r0_rn_5 r1_rn_5 r2_rn_5
      clear rn_5
      have lRq_5 : w3.heap.size + 1 < w5.heap.size := by omega
      have Rq_5 := Lib.hid rq_5
      have r0_rq_5 := cell_of_row _ _ 0 _ _ _ rq_5
      have r1_rq_5 := cell_of_row _ _ 1 _ _ _ rq_5
      have r2_rq_5 := cell_of_row _ _ 2 _ _ _ rq_5
      have r3_rq_5 := cell_of_row _ _ 3 _ _ _ rq_5
      have r4_rq_5 := cell_of_row _ _ 4 _ _ _ rq_5
      have r5_rq_5 := cell_of_row _ _ 5 _ _ _ rq_5
      have f0_rq_5 := frozen_of_row _ _ 0 _ _ rq_5
      have f1_rq_5 := frozen_of_row _ _ 1 _ _ rq_5
      have f2_rq_5 := frozen_of_row _ _ 2 _ _ rq_5
      have f3_rq_5 := frozen_of_row _ _ 3 _ _ rq_5
      have f4_rq_5 := frozen_of_row _ _ 4 _ _ rq_5
      have f5_rq_5 := frozen_of_row _ _ 5 _ _ rq_5
      simp at r0_rq_5 r1_rq_5 r2_rq_5 r3_rq_5 r4_rq_5 r5_rq_5
      clear rq_5
      go_wp2_with fail
      refine (OL.out _ _ (rd_own Ol_5.out)).mono ?_
      rintro e w6 ⟨rfl, hb6⟩
      have hz6 := hb6.size
      (try simp at hz6)
      have rl_6 : w6.heap[w1.heap.size]? = some (.cells #[.int .i64 m, .int .i64 q, .slice A1 l.length c1] 37 (0, 0)) := (hb6.block _ (by first | omega | (simp; done) | (simp; omega))).trans (by repeat (first | (with_reducible apply heap_setCell_same) | (with_reducible apply drew_row) | (with_reducible apply drewN_row) | (with_reducible exact Rl_5.out) | (with_reducible refine (heap_setCell_other _ _ _ _ (by first | omega | (simp; done) | (simp; omega))).trans ?_) | (with_reducible refine (Below.heap_alloc _ _ _ (by first | omega | (simp; done) | (simp; omega))).trans ?_)))
      have rm_6 : w6.heap[w2.heap.size]? = some (.cells #[.int .i64 m, .int .i64 q, .slice A2 r.length c2] 37 (0, 0)) := (hb6.block _ (by first | omega | (simp; done) | (simp; omega))).trans (by repeat (first | (with_reducible apply heap_setCell_same) | (with_reducible apply drew_row) | (with_reducible apply drewN_row) | (with_reducible exact Rm_5.out) | (with_reducible refine (heap_setCell_other _ _ _ _ (by first | omega | (simp; done) | (simp; omega))).trans ?_) | (with_reducible refine (Below.heap_alloc _ _ _ (by first | omega | (simp; done) | (simp; omega))).trans ?_)))
      have rp_6 : w6.heap[w2.heap.size + 1]? = some (.cells #[.int .i64 0, .int .i64 0, .int .i64 0, .int .i64 0, .int .i64 0, .string ⟨#[]⟩] 58 (0, 0)) := (hb6.block _ (by first | omega | (simp; done) | (simp; omega))).trans (by repeat (first | (with_reducible apply heap_setCell_same) | (with_reducible apply drew_row) | (with_reducible apply drewN_row) | (with_reducible exact Rp_5.out) | (with_reducible refine (heap_setCell_other _ _ _ _ (by first | omega | (simp; done) | (simp; omega))).trans ?_) | (with_reducible refine (Below.heap_alloc _ _ _ (by first | omega | (simp; done) | (simp; omega))).trans ?_)))
      have rn_6 : w6.heap[w3.heap.size]? = some (.cells #[.int .i64 m, .int .i64 q, .slice A3 r.length c3] 37 (0, 0)) := (hb6.block _ (by first | omega | (simp; done) | (simp; omega))).trans (by repeat (first | (with_reducible apply heap_setCell_same) | (with_reducible apply drew_row) | (with_reducible apply drewN_row) | (with_reducible exact Rn_5.out) | (with_reducible refine (heap_setCell_other _ _ _ _ (by first | omega | (simp; done) | (simp; omega))).trans ?_) | (with_reducible refine (Below.heap_alloc _ _ _ (by first | omega | (simp; done) | (simp; omega))).trans ?_)))
      have rq_6 : w6.heap[w3.heap.size + 1]? = some (.cells #[.int .i64 0, .int .i64 0, .int .i64 0, .int .i64 0, .int .i64 0, .string ⟨#[]⟩] 58 (0, 0)) := (hb6.block _ (by first | omega | (simp; done) | (simp; omega))).trans (by repeat (first | (with_reducible apply heap_setCell_same) | (with_reducible apply drew_row) | (with_reducible apply drewN_row) | (with_reducible exact Rq_5.out) | (with_reducible refine (heap_setCell_other _ _ _ _ (by first | omega | (simp; done) | (simp; omega))).trans ?_) | (with_reducible refine (Below.heap_alloc _ _ _ (by first | omega | (simp; done) | (simp; omega))).trans ?_)))
      have Ol_6 := Lib.hid (own_below Ol_5.out (w' := w6) (by repeat (first | with_reducible exact Below.refl _ _ | with_reducible assumption | with_reducible refine Below.drew ?_ | with_reducible refine Below.alloc ?_ (by first | exact Nat.le_refl _ | omega | (simp; done) | (simp; omega)) _ | with_reducible refine Below.setCell ?_ (by first | exact Nat.le_refl _ | omega | (simp; done) | (simp; omega)) _ | (with_reducible refine ext_trans ?_ (by with_reducible assumption)))))
      have Om_6 := Lib.hid (OwnE.below Om_5.out (w' := w6) (by repeat (first | with_reducible exact Below.refl _ _ | with_reducible assumption | with_reducible refine Below.drew ?_ | with_reducible refine Below.alloc ?_ (by first | exact Nat.le_refl _ | omega | (simp; done) | (simp; omega)) _ | with_reducible refine Below.setCell ?_ (by first | exact Nat.le_refl _ | omega | (simp; done) | (simp; omega)) _ | (with_reducible refine ext_trans ?_ (by with_reducible assumption)))))
      have On_6 := Lib.hid (OwnE.below On_5.out (w' := w6) (by repeat (first | with_reducible exact Below.refl _ _ | with_reducible assumption | with_reducible refine Below.drew ?_ | with_reducible refine Below.alloc ?_ (by first | exact Nat.le_refl _ | omega | (simp; done) | (simp; omega)) _ | with_reducible refine Below.setCell ?_ (by first | exact Nat.le_refl _ | omega | (simp; done) | (simp; omega)) _ | (with_reducible refine ext_trans ?_ (by with_reducible assumption)))))
      have hw6 : Below w.heap.size w w6 := (by repeat (first | with_reducible exact Below.refl _ _ | with_reducible assumption | with_reducible refine Below.drew ?_ | with_reducible refine Below.alloc ?_ (by first | exact Nat.le_refl _ | omega | (simp; done) | (simp; omega)) _ | with_reducible refine Below.setCell ?_ (by first | exact Nat.le_refl _ | omega | (simp; done) | (simp; omega)) _ | (with_reducible refine ext_trans ?_ (by with_reducible assumption))))
      clear r0_rl_5 f0_rl_5 r1_rl_5 f1_rl_5 r2_rl_5 f2_rl_5
      clear r0_rm_5 f0_rm_5 r1_rm_5 f1_rm_5 r2_rm_5 f2_rm_5
      clear r0_rp_5 f0_rp_5 r1_rp_5 f1_rp_5 r2_rp_5 f2_rp_5 r3_rp_5 f3_rp_5 r4_rp_5 f4_rp_5 r5_rp_5 f5_rp_5
      clear r0_rn_5 f0_rn_5 r1_rn_5 f1_rn_5 r2_rn_5 f2_rn_5
      clear r0_rq_5 f0_rq_5 r1_rq_5 f1_rq_5 r2_rq_5 f2_rq_5 r3_rq_5 f3_rq_5 r4_rq_5 f4_rq_5 r5_rq_5 f5_rq_5
      have lRl_6 : w1.heap.size < w6.heap.size := by omega
      have Rl_6 := Lib.hid rl_6
      have r0_rl_6 := cell_of_row _ _ 0 _ _ _ rl_6
      have r1_rl_6 := cell_of_row _ _ 1 _ _ _ rl_6
      have r2_rl_6 := cell_of_row _ _ 2 _ _ _ rl_6
      have f0_rl_6 := frozen_of_row _ _ 0 _ _ rl_6
      have f1_rl_6 := frozen_of_row _ _ 1 _ _ rl_6
      have f2_rl_6 := frozen_of_row _ _ 2 _ _ rl_6
      simp at r0_rl_6 r1_rl_6 r2_rl_6
      clear rl_6
      have lRm_6 : w2.heap.size < w6.heap.size := by omega
      have Rm_6 := Lib.hid rm_6
      have r0_rm_6 := cell_of_row _ _ 0 _ _ _ rm_6
      have r1_rm_6 := cell_of_row _ _ 1 _ _ _ rm_6
      have r2_rm_6 := cell_of_row _ _ 2 _ _ _ rm_6
      have f0_rm_6 := frozen_of_row _ _ 0 _ _ rm_6
      have f1_rm_6 := frozen_of_row _ _ 1 _ _ rm_6
      have f2_rm_6 := frozen_of_row _ _ 2 _ _ rm_6
      simp at r0_rm_6 r1_rm_6 r2_rm_6
      clear rm_6
      have lRp_6 : w2.heap.size + 1 < w6.heap.size := by omega
      have Rp_6 := Lib.hid rp_6
      have r0_rp_6 := cell_of_row _ _ 0 _ _ _ rp_6
      have r1_rp_6 := cell_of_row _ _ 1 _ _ _ rp_6
      have r2_rp_6 := cell_of_row _ _ 2 _ _ _ rp_6
      have r3_rp_6 := cell_of_row _ _ 3 _ _ _ rp_6
      have r4_rp_6 := cell_of_row _ _ 4 _ _ _ rp_6
      have r5_rp_6 := cell_of_row _ _ 5 _ _ _ rp_6
      have f0_rp_6 := frozen_of_row _ _ 0 _ _ rp_6
      have f1_rp_6 := frozen_of_row _ _ 1 _ _ rp_6
      have f2_rp_6 := frozen_of_row _ _ 2 _ _ rp_6
      have f3_rp_6 := frozen_of_row _ _ 3 _ _ rp_6
      have f4_rp_6 := frozen_of_row _ _ 4 _ _ rp_6
      have f5_rp_6 := frozen_of_row _ _ 5 _ _ rp_6
      simp at r0_rp_6 r1_rp_6 r2_rp_6 r3_rp_6 r4_rp_6 r5_rp_6
      clear rp_6
      have lRn_6 : w3.heap.size < w6.heap.size := by omega
      have Rn_6 := Lib.hid rn_6
      have r0_rn_6 := cell_of_row _ _ 0 _ _ _ rn_6
      have r1_rn_6 := cell_of_row _ _ 1 _ _ _ rn_6
      have r2_rn_6 := cell_of_row _ _ 2 _ _ _ rn_6
      have f0_rn_6 := frozen_of_row _ _ 0 _ _ rn_6
      have f1_rn_6 := frozen_of_row _ _ 1 _ _ rn_6
      have f2_rn_6 := frozen_of_row _ _ 2 _ _ rn_6
      simp at r0_rn_6 r1_rn_6 r2_rn_6
      clear rn_6
      have lRq_6 : w3.heap.size + 1 < w6.heap.size := by omega
      have Rq_6 := Lib.hid rq_6
      have r0_rq_6 := cell_of_row _ _ 0 _ _ _ rq_6
      have r1_rq_6 := cell_of_row _ _ 1 _ _ _ rq_6
      have r2_rq_6 := cell_of_row _ _ 2 _ _ _ rq_6
      have r3_rq_6 := cell_of_row _ _ 3 _ _ _ rq_6
      have r4_rq_6 := cell_of_row _ _ 4 _ _ _ rq_6
      have r5_rq_6 := cell_of_row _ _ 5 _ _ _ rq_6
      have f0_rq_6 := frozen_of_row _ _ 0 _ _ rq_6
      have f1_rq_6 := frozen_of_row _ _ 1 _ _ rq_6
      have f2_rq_6 := frozen_of_row _ _ 2 _ _ rq_6
      have f3_rq_6 := frozen_of_row _ _ 3 _ _ rq_6
      have f4_rq_6 := frozen_of_row _ _ 4 _ _ rq_6
      have f5_rq_6 := frozen_of_row _ _ 5 _ _ rq_6
      simp at r0_rq_6 r1_rq_6 r2_rq_6 r3_rq_6 r4_rq_6 r5_rq_6
      clear rq_6
      go_wp2_with fail
      refine (OM.out _ _ Om_6.out.rd).mono ?_
      rintro e w7 ⟨rfl, hb7⟩
      have hz7 := hb7.size
      (try simp at hz7)
      have rl_7 : w7.heap[w1.heap.size]? = some (.cells #[.int .i64 m, .int .i64 q, .slice A1 l.length c1] 37 (0, 0)) := (hb7.block _ (by first | omega | (simp; done) | (simp; omega))).trans (by repeat (first | (with_reducible apply heap_setCell_same) | (with_reducible apply drew_row) | (with_reducible apply drewN_row) | (with_reducible exact Rl_6.out) | (with_reducible refine (heap_setCell_other _ _ _ _ (by first | omega | (simp; done) | (simp; omega))).trans ?_) | (with_reducible refine (Below.heap_alloc _ _ _ (by first | omega | (simp; done) | (simp; omega))).trans ?_)))
      have rm_7 : w7.heap[w2.heap.size]? = some (.cells #[.int .i64 m, .int .i64 q, .slice A2 r.length c2] 37 (0, 0)) := (hb7.block _ (by first | omega | (simp; done) | (simp; omega))).trans (by repeat (first | (with_reducible apply heap_setCell_same) | (with_reducible apply drew_row) | (with_reducible apply drewN_row) | (with_reducible exact Rm_6.out) | (with_reducible refine (heap_setCell_other _ _ _ _ (by first | omega | (simp; done) | (simp; omega))).trans ?_) | (with_reducible refine (Below.heap_alloc _ _ _ (by first | omega | (simp; done) | (simp; omega))).trans ?_)))
      have rp_7 : w7.heap[w2.heap.size + 1]? = some (.cells #[.int .i64 0, .int .i64 0, .int .i64 0, .int .i64 0, .int .i64 0, .string ⟨#[]⟩] 58 (0, 0)) := (hb7.block _ (by first | omega | (simp; done) | (simp; omega))).trans (by repeat (first | (with_reducible apply heap_setCell_same) | (with_reducible apply drew_row) | (with_reducible apply drewN_row) | (with_reducible exact Rp_6.out) | (with_reducible refine (heap_setCell_other _ _ _ _ (by first | omega | (simp; done) | (simp; omega))).trans ?_) | (with_reducible refine (Below.heap_alloc _ _ _ (by first | omega | (simp; done) | (simp; omega))).trans ?_)))
      have rn_7 : w7.heap[w3.heap.size]? = some (.cells #[.int .i64 m, .int .i64 q, .slice A3 r.length c3] 37 (0, 0)) := (hb7.block _ (by first | omega | (simp; done) | (simp; omega))).trans (by repeat (first | (with_reducible apply heap_setCell_same) | (with_reducible apply drew_row) | (with_reducible apply drewN_row) | (with_reducible exact Rn_6.out) | (with_reducible refine (heap_setCell_other _ _ _ _ (by first | omega | (simp; done) | (simp; omega))).trans ?_) | (with_reducible refine (Below.heap_alloc _ _ _ (by first | omega | (simp; done) | (simp; omega))).trans ?_)))
      have rq_7 : w7.heap[w3.heap.size + 1]? = some (.cells #[.int .i64 0, .int .i64 0, .int .i64 0, .int .i64 0, .int .i64 0, .string ⟨#[]⟩] 58 (0, 0)) := (hb7.block _ (by first | omega | (simp; done) | (simp; omega))).trans (by repeat (first | (with_reducible apply heap_setCell_same) | (with_reducible apply drew_row) | (with_reducible apply drewN_row) | (with_reducible exact Rq_6.out) | (with_reducible refine (heap_setCell_other _ _ _ _ (by first | omega | (simp; done) | (simp; omega))).trans ?_) | (with_reducible refine (Below.heap_alloc _ _ _ (by first | omega | (simp; done) | (simp; omega))).trans ?_)))
      have Ol_7 := Lib.hid (own_below Ol_6.out (w' := w7) (by repeat (first | with_reducible exact Below.refl _ _ | with_reducible assumption | with_reducible refine Below.drew ?_ | with_reducible refine Below.alloc ?_ (by first | exact Nat.le_refl _ | omega | (simp; done) | (simp; omega)) _ | with_reducible refine Below.setCell ?_ (by first | exact Nat.le_refl _ | omega | (simp; done) | (simp; omega)) _ | (with_reducible refine ext_trans ?_ (by with_reducible assumption)))))
      have Om_7 := Lib.hid (OwnE.below Om_6.out (w' := w7) (by repeat (first | with_reducible exact Below.refl _ _ | with_reducible assumption | with_reducible refine Below.drew ?_ | with_reducible refine Below.alloc ?_ (by first | exact Nat.le_refl _ | omega | (simp; done) | (simp; omega)) _ | with_reducible refine Below.setCell ?_ (by first | exact Nat.le_refl _ | omega | (simp; done) | (simp; omega)) _ | (with_reducible refine ext_trans ?_ (by with_reducible assumption)))))
      have On_7 := Lib.hid (OwnE.below On_6.out (w' := w7) (by repeat (first | with_reducible exact Below.refl _ _ | with_reducible assumption | with_reducible refine Below.drew ?_ | with_reducible refine Below.alloc ?_ (by first | exact Nat.le_refl _ | omega | (simp; done) | (simp; omega)) _ | with_reducible refine Below.setCell ?_ (by first | exact Nat.le_refl _ | omega | (simp; done) | (simp; omega)) _ | (with_reducible refine ext_trans ?_ (by with_reducible assumption)))))
      have hw7 : Below w.heap.size w w7 := (by repeat (first | with_reducible exact Below.refl _ _ | with_reducible assumption | with_reducible refine Below.drew ?_ | with_reducible refine Below.alloc ?_ (by first | exact Nat.le_refl _ | omega | (simp; done) | (simp; omega)) _ | with_reducible refine Below.setCell ?_ (by first | exact Nat.le_refl _ | omega | (simp; done) | (simp; omega)) _ | (with_reducible refine ext_trans ?_ (by with_reducible assumption))))
      clear r0_rl_6 f0_rl_6 r1_rl_6 f1_rl_6 r2_rl_6 f2_rl_6
      clear r0_rm_6 f0_rm_6 r1_rm_6 f1_rm_6 r2_rm_6 f2_rm_6
      clear r0_rp_6 f0_rp_6 r1_rp_6 f1_rp_6 r2_rp_6 f2_rp_6 r3_rp_6 f3_rp_6 r4_rp_6 f4_rp_6 r5_rp_6 f5_rp_6
      clear r0_rn_6 f0_rn_6 r1_rn_6 f1_rn_6 r2_rn_6 f2_rn_6
      clear r0_rq_6 f0_rq_6 r1_rq_6 f1_rq_6 r2_rq_6 f2_rq_6 r3_rq_6 f3_rq_6 r4_rq_6 f4_rq_6 r5_rq_6 f5_rq_6
      have lRl_7 : w1.heap.size < w7.heap.size := by omega
      have Rl_7 := Lib.hid rl_7
      have r0_rl_7 := cell_of_row _ _ 0 _ _ _ rl_7
      have r1_rl_7 := cell_of_row _ _ 1 _ _ _ rl_7
      have r2_rl_7 := cell_of_row _ _ 2 _ _ _ rl_7
      have f0_rl_7 := frozen_of_row _ _ 0 _ _ rl_7
      have f1_rl_7 := frozen_of_row _ _ 1 _ _ rl_7
      have f2_rl_7 := frozen_of_row _ _ 2 _ _ rl_7
      simp at r0_rl_7 r1_rl_7 r2_rl_7
      clear rl_7
      have lRm_7 : w2.heap.size < w7.heap.size := by omega
      have Rm_7 := Lib.hid rm_7
      have r0_rm_7 := cell_of_row _ _ 0 _ _ _ rm_7
      have r1_rm_7 := cell_of_row _ _ 1 _ _ _ rm_7
      have r2_rm_7 := cell_of_row _ _ 2 _ _ _ rm_7
      have f0_rm_7 := frozen_of_row _ _ 0 _ _ rm_7
      have f1_rm_7 := frozen_of_row _ _ 1 _ _ rm_7
      have f2_rm_7 := frozen_of_row _ _ 2 _ _ rm_7
      simp at r0_rm_7 r1_rm_7 r2_rm_7
      clear rm_7
      have lRp_7 : w2.heap.size + 1 < w7.heap.size := by omega
      have Rp_7 := Lib.hid rp_7
      have r0_rp_7 := cell_of_row _ _ 0 _ _ _ rp_7
      have r1_rp_7 := cell_of_row _ _ 1 _ _ _ rp_7
      have r2_rp_7 := cell_of_row _ _ 2 _ _ _ rp_7
      have r3_rp_7 := cell_of_row _ _ 3 _ _ _ rp_7
      have r4_rp_7 := cell_of_row _ _ 4 _ _ _ rp_7
      have r5_rp_7 := cell_of_row _ _ 5 _ _ _ rp_7
      have f0_rp_7 := frozen_of_row _ _ 0 _ _ rp_7
      have f1_rp_7 := frozen_of_row _ _ 1 _ _ rp_7
      have f2_rp_7 := frozen_of_row _ _ 2 _ _ rp_7
      have f3_rp_7 := frozen_of_row _ _ 3 _ _ rp_7
      have f4_rp_7 := frozen_of_row _ _ 4 _ _ rp_7
      have f5_rp_7 := frozen_of_row _ _ 5 _ _ rp_7
      simp at r0_rp_7 r1_rp_7 r2_rp_7 r3_rp_7 r4_rp_7 r5_rp_7
      clear rp_7
      have lRn_7 : w3.heap.size < w7.heap.size := by omega
      have Rn_7 := Lib.hid rn_7
      have r0_rn_7 := cell_of_row _ _ 0 _ _ _ rn_7
      have r1_rn_7 := cell_of_row _ _ 1 _ _ _ rn_7
      have r2_rn_7 := cell_of_row _ _ 2 _ _ _ rn_7
      have f0_rn_7 := frozen_of_row _ _ 0 _ _ rn_7
      have f1_rn_7 := frozen_of_row _ _ 1 _ _ rn_7
      have f2_rn_7 := frozen_of_row _ _ 2 _ _ rn_7
      simp at r0_rn_7 r1_rn_7 r2_rn_7
      clear rn_7
      have lRq_7 : w3.heap.size + 1 < w7.heap.size := by omega
      have Rq_7 := Lib.hid rq_7
      have r0_rq_7 := cell_of_row _ _ 0 _ _ _ rq_7
      have r1_rq_7 := cell_of_row _ _ 1 _ _ _ rq_7
      have r2_rq_7 := cell_of_row _ _ 2 _ _ _ rq_7
      have r3_rq_7 := cell_of_row _ _ 3 _ _ _ rq_7
      have r4_rq_7 := cell_of_row _ _ 4 _ _ _ rq_7
      have r5_rq_7 := cell_of_row _ _ 5 _ _ _ rq_7
      have f0_rq_7 := frozen_of_row _ _ 0 _ _ rq_7
      have f1_rq_7 := frozen_of_row _ _ 1 _ _ rq_7
      have f2_rq_7 := frozen_of_row _ _ 2 _ _ rq_7
      have f3_rq_7 := frozen_of_row _ _ 3 _ _ rq_7
      have f4_rq_7 := frozen_of_row _ _ 4 _ _ rq_7
      have f5_rq_7 := frozen_of_row _ _ 5 _ _ rq_7
      simp at r0_rq_7 r1_rq_7 r2_rq_7 r3_rq_7 r4_rq_7 r5_rq_7
      clear rq_7
      go_wp2_with fail
      go_ret
      exact ⟨by first | rfl | (simp; done) | (simp; rfl) | (simp; omega), (by repeat (first | with_reducible exact Below.refl _ _ | with_reducible assumption | with_reducible refine Below.drew ?_ | with_reducible refine Below.alloc ?_ (by first | exact Nat.le_refl _ | omega | (simp; done) | (simp; omega)) _ | with_reducible refine Below.setCell ?_ (by first | exact Nat.le_refl _ | omega | (simp; done) | (simp; omega)) _ | (with_reducible refine ext_trans ?_ (by with_reducible assumption))))⟩
  · obtain ⟨b1, b2, b3, b4, b5⟩ := frame_back hfb
    have hfl := frame_le k2 m 2054 A
    have hfr : frR (frameS k2 m 2054 A) = .agg #[.int .i64 k2, .int .i64 m, .int .i64 2054, .string A] := by
      unfold frR
      rw [if_pos b1, b2, b3, b4, b5]
    have RF : Hid (∀ W, Calls Try.prog 48 #[.string (frameS k2 m 2054 A)] W fun e w' => e = .returned (.tuple #[.agg #[.int .i64 k2, .int .i64 m, .int .i64 2054, .string A], .bool true]) ∧ Below W.heap.size W w') := fun W => by
      have hh := sReadFrame_any (frameS k2 m 2054 A) (by omega) W
      unfold FrOut at hh
      rw [hfr, b1] at hh
      exact hh
    clear hfr b1 b2 b3 b4 b5 hfl hfb
    generalize frameS k2 m 2054 A = F at *
    have HS : Hid (∀ W v, RdEntry W v l → Calls Try.prog 43 #[.agg #[.int .i64 m, .int .i64 q, v], .string raw] W fun e w' => ∃ v, e = .returned (.tuple #[.agg #[.int .i64 m, .int .i64 q, v], .int .i64 1, .agg #[.int .i64 0, .int .i64 0, .int .i64 0, .int .i64 0, .int .i64 0, .string ⟨#[]⟩], .string F]) ∧ OwnEntry w' W.heap.size v r ∧ Below W.heap.size W w') := hss
    have HI : Hid (∀ W v, RdEntry W v l → Calls Try.prog 42 #[.agg #[.int .i64 m, .int .i64 q, v], .string raw] W fun e w' => ∃ v, e = .returned (.tuple #[.agg #[.int .i64 m, .int .i64 q, v], .int .i64 1, .agg #[.int .i64 0, .int .i64 0, .int .i64 0, .int .i64 0, .int .i64 0, .string ⟨#[]⟩], .string F]) ∧ OwnEntry w' W.heap.size v r ∧ Below W.heap.size W w') := hii
    have NR : Hid (r.length ≤ maxLen) := (by unfold maxLen; have := hrl; dsimp only at this; omega : r.length ≤ maxLen)
    have SS : Hid (∀ W v1 v2, RdEntry W v1 r → RdEntry W v2 r → Calls Try.prog 22 #[.agg #[.int .i64 m, .int .i64 q, v1], .agg #[.int .i64 m, .int .i64 q, v2]] W fun e w' => e = .returned (.bool true) ∧ Below W.heap.size W w') := fun W v1 v2 h1 h2 => by
      have hh := sSameLink_any ⟨m, q, r⟩ ⟨m, q, r⟩ v1 v2 NR.out NR.out W h1 h2
      rw [same_self] at hh
      exact hh
    have SI : Hid (∀ W v1 v2, RdEntry W v1 r → RdEntry W v2 r → Calls Try.prog 24 #[.agg #[.int .i64 m, .int .i64 q, v1], .agg #[.int .i64 m, .int .i64 q, v2]] W fun e w' => e = .returned (.bool true) ∧ Below W.heap.size W w') := fun W v1 v2 h1 h2 => by
      have hh := SameLink_any ⟨m, q, r⟩ ⟨m, q, r⟩ v1 v2 NR.out NR.out W h1 h2
      rw [same_self] at hh
      exact hh
    clear hss hii hrl
    have OM : Hid (∀ W v, RdEntry W v r → Calls Try.prog 27 #[.agg #[.int .i64 m, .int .i64 q, v]] W fun e w' => e = .returned (.bool true) ∧ Below W.heap.size W w') := fun W v h => by
      have hh := LinkOk_any ⟨m, q, r⟩ v NR.out W h
      rw [hok hx] at hh
      exact hh
    clear hx hok
    go_wp2_with fail
    refine (HI.out _ _ (rd_own (own_below Ol_1.out (by repeat (first | with_reducible exact Below.refl _ _ | with_reducible assumption | with_reducible refine Below.drew ?_ | with_reducible refine Below.alloc ?_ (by first | exact Nat.le_refl _ | omega | (simp; done) | (simp; omega)) _ | with_reducible refine Below.setCell ?_ (by first | exact Nat.le_refl _ | omega | (simp; done) | (simp; omega)) _ | (with_reducible refine ext_trans ?_ (by with_reducible assumption))))))).mono ?_
    rintro e w2 ⟨v2, rfl, hO2, hb2⟩
    have hz2 := hb2.size
    (try simp at hz2)
    have rl_2 : w2.heap[w1.heap.size]? = some (.cells #[.int .i64 m, .int .i64 q, .slice A1 l.length c1] 37 (0, 0)) := (hb2.block _ (by first | (simp; done) | (simp; omega))).trans (by repeat (first | exact heap_new _ _ _ (by first | rfl | (simp; done) | (simp; omega)) | refine (Below.heap_alloc _ _ _ (by first | omega | (simp; done) | (simp; omega))).trans ?_))
    have Ol_2 := Lib.hid (own_below Ol_1.out (w' := w2) (by repeat (first | with_reducible exact Below.refl _ _ | with_reducible assumption | with_reducible refine Below.drew ?_ | with_reducible refine Below.alloc ?_ (by first | exact Nat.le_refl _ | omega | (simp; done) | (simp; omega)) _ | with_reducible refine Below.setCell ?_ (by first | exact Nat.le_refl _ | omega | (simp; done) | (simp; omega)) _ | (with_reducible refine ext_trans ?_ (by with_reducible assumption)))))
    have hw2 : Below w.heap.size w w2 := (by repeat (first | with_reducible exact Below.refl _ _ | with_reducible assumption | with_reducible refine Below.drew ?_ | with_reducible refine Below.alloc ?_ (by first | exact Nat.le_refl _ | omega | (simp; done) | (simp; omega)) _ | with_reducible refine Below.setCell ?_ (by first | exact Nat.le_refl _ | omega | (simp; done) | (simp; omega)) _ | (with_reducible refine ext_trans ?_ (by with_reducible assumption))))
    have lRl_2 : w1.heap.size < w2.heap.size := by omega
    have Rl_2 := Lib.hid rl_2
    have r0_rl_2 := cell_of_row _ _ 0 _ _ _ rl_2
    have r1_rl_2 := cell_of_row _ _ 1 _ _ _ rl_2
    have r2_rl_2 := cell_of_row _ _ 2 _ _ _ rl_2
    have f0_rl_2 := frozen_of_row _ _ 0 _ _ rl_2
    have f1_rl_2 := frozen_of_row _ _ 1 _ _ rl_2
    have f2_rl_2 := frozen_of_row _ _ 2 _ _ rl_2
    simp at r0_rl_2 r1_rl_2 r2_rl_2
    clear rl_2
    obtain ⟨A2, c2, rfl⟩ := hO2.form
    have Om_2 := Lib.hid hO2
    clear hO2
    go_wp2_with fail
    refine (HS.out _ _ (rd_own (own_below Ol_2.out (by repeat (first | with_reducible exact Below.refl _ _ | with_reducible assumption | with_reducible refine Below.drew ?_ | with_reducible refine Below.alloc ?_ (by first | exact Nat.le_refl _ | omega | (simp; done) | (simp; omega)) _ | with_reducible refine Below.setCell ?_ (by first | exact Nat.le_refl _ | omega | (simp; done) | (simp; omega)) _ | (with_reducible refine ext_trans ?_ (by with_reducible assumption))))))).mono ?_
    rintro e w3 ⟨v3, rfl, hO3, hb3⟩
    have hz3 := hb3.size
    (try simp at hz3)
    have rl_3 : w3.heap[w1.heap.size]? = some (.cells #[.int .i64 m, .int .i64 q, .slice A1 l.length c1] 37 (0, 0)) := (hb3.block _ (by first | omega | (simp; done) | (simp; omega))).trans (by repeat (first | (with_reducible apply heap_setCell_same) | (with_reducible apply drew_row) | (with_reducible apply drewN_row) | (with_reducible exact Rl_2.out) | (with_reducible refine (heap_setCell_other _ _ _ _ (by first | omega | (simp; done) | (simp; omega))).trans ?_) | (with_reducible refine (Below.heap_alloc _ _ _ (by first | omega | (simp; done) | (simp; omega))).trans ?_)))
    have rm_3 : w3.heap[w2.heap.size]? = some (.cells #[.int .i64 m, .int .i64 q, .slice A2 r.length c2] 37 (0, 0)) := (hb3.block _ (by first | (simp; done) | (simp; omega))).trans (by repeat (first | exact heap_new _ _ _ (by first | rfl | (simp; done) | (simp; omega)) | refine (Below.heap_alloc _ _ _ (by first | omega | (simp; done) | (simp; omega))).trans ?_))
    have rp_3 : w3.heap[w2.heap.size + 1]? = some (.cells #[.int .i64 0, .int .i64 0, .int .i64 0, .int .i64 0, .int .i64 0, .string ⟨#[]⟩] 58 (0, 0)) := (hb3.block _ (by first | (simp; done) | (simp; omega))).trans (by repeat (first | exact heap_new _ _ _ (by first | rfl | (simp; done) | (simp; omega)) | refine (Below.heap_alloc _ _ _ (by first | omega | (simp; done) | (simp; omega))).trans ?_))
    have Ol_3 := Lib.hid (own_below Ol_2.out (w' := w3) (by repeat (first | with_reducible exact Below.refl _ _ | with_reducible assumption | with_reducible refine Below.drew ?_ | with_reducible refine Below.alloc ?_ (by first | exact Nat.le_refl _ | omega | (simp; done) | (simp; omega)) _ | with_reducible refine Below.setCell ?_ (by first | exact Nat.le_refl _ | omega | (simp; done) | (simp; omega)) _ | (with_reducible refine ext_trans ?_ (by with_reducible assumption)))))
    have Om_3 := Lib.hid (OwnE.below Om_2.out (w' := w3) (by repeat (first | with_reducible exact Below.refl _ _ | with_reducible assumption | with_reducible refine Below.drew ?_ | with_reducible refine Below.alloc ?_ (by first | exact Nat.le_refl _ | omega | (simp; done) | (simp; omega)) _ | with_reducible refine Below.setCell ?_ (by first | exact Nat.le_refl _ | omega | (simp; done) | (simp; omega)) _ | (with_reducible refine ext_trans ?_ (by with_reducible assumption)))))
    have hw3 : Below w.heap.size w w3 := (by repeat (first | with_reducible exact Below.refl _ _ | with_reducible assumption | with_reducible refine Below.drew ?_ | with_reducible refine Below.alloc ?_ (by first | exact Nat.le_refl _ | omega | (simp; done) | (simp; omega)) _ | with_reducible refine Below.setCell ?_ (by first | exact Nat.le_refl _ | omega | (simp; done) | (simp; omega)) _ | (with_reducible refine ext_trans ?_ (by with_reducible assumption))))
    clear r0_rl_2 f0_rl_2 r1_rl_2 f1_rl_2 r2_rl_2 f2_rl_2
    have lRl_3 : w1.heap.size < w3.heap.size := by omega
    have Rl_3 := Lib.hid rl_3
    have r0_rl_3 := cell_of_row _ _ 0 _ _ _ rl_3
    have r1_rl_3 := cell_of_row _ _ 1 _ _ _ rl_3
    have r2_rl_3 := cell_of_row _ _ 2 _ _ _ rl_3
    have f0_rl_3 := frozen_of_row _ _ 0 _ _ rl_3
    have f1_rl_3 := frozen_of_row _ _ 1 _ _ rl_3
    have f2_rl_3 := frozen_of_row _ _ 2 _ _ rl_3
    simp at r0_rl_3 r1_rl_3 r2_rl_3
    clear rl_3
    have lRm_3 : w2.heap.size < w3.heap.size := by omega
    have Rm_3 := Lib.hid rm_3
    have r0_rm_3 := cell_of_row _ _ 0 _ _ _ rm_3
    have r1_rm_3 := cell_of_row _ _ 1 _ _ _ rm_3
    have r2_rm_3 := cell_of_row _ _ 2 _ _ _ rm_3
    have f0_rm_3 := frozen_of_row _ _ 0 _ _ rm_3
    have f1_rm_3 := frozen_of_row _ _ 1 _ _ rm_3
    have f2_rm_3 := frozen_of_row _ _ 2 _ _ rm_3
    simp at r0_rm_3 r1_rm_3 r2_rm_3
    clear rm_3
    have lRp_3 : w2.heap.size + 1 < w3.heap.size := by omega
    have Rp_3 := Lib.hid rp_3
    have r0_rp_3 := cell_of_row _ _ 0 _ _ _ rp_3
    have r1_rp_3 := cell_of_row _ _ 1 _ _ _ rp_3
    have r2_rp_3 := cell_of_row _ _ 2 _ _ _ rp_3
    have r3_rp_3 := cell_of_row _ _ 3 _ _ _ rp_3
    have r4_rp_3 := cell_of_row _ _ 4 _ _ _ rp_3
    have r5_rp_3 := cell_of_row _ _ 5 _ _ _ rp_3
    have f0_rp_3 := frozen_of_row _ _ 0 _ _ rp_3
    have f1_rp_3 := frozen_of_row _ _ 1 _ _ rp_3
    have f2_rp_3 := frozen_of_row _ _ 2 _ _ rp_3
    have f3_rp_3 := frozen_of_row _ _ 3 _ _ rp_3
    have f4_rp_3 := frozen_of_row _ _ 4 _ _ rp_3
    have f5_rp_3 := frozen_of_row _ _ 5 _ _ rp_3
    simp at r0_rp_3 r1_rp_3 r2_rp_3 r3_rp_3 r4_rp_3 r5_rp_3
    clear rp_3
    obtain ⟨A3, c3, rfl⟩ := hO3.form
    have On_3 := Lib.hid hO3
    clear hO3
    go_wp2_with fail
    refine (SS.out _ _ _ (Om_3.out.below (by repeat (first | with_reducible exact Below.refl _ _ | with_reducible assumption | with_reducible refine Below.drew ?_ | with_reducible refine Below.alloc ?_ (by first | exact Nat.le_refl _ | omega | (simp; done) | (simp; omega)) _ | with_reducible refine Below.setCell ?_ (by first | exact Nat.le_refl _ | omega | (simp; done) | (simp; omega)) _ | (with_reducible refine ext_trans ?_ (by with_reducible assumption))))).rd (On_3.out.below (by repeat (first | with_reducible exact Below.refl _ _ | with_reducible assumption | with_reducible refine Below.drew ?_ | with_reducible refine Below.alloc ?_ (by first | exact Nat.le_refl _ | omega | (simp; done) | (simp; omega)) _ | with_reducible refine Below.setCell ?_ (by first | exact Nat.le_refl _ | omega | (simp; done) | (simp; omega)) _ | (with_reducible refine ext_trans ?_ (by with_reducible assumption))))).rd).mono ?_
    rintro e w4 ⟨rfl, hb4⟩
    have hz4 := hb4.size
    (try simp at hz4)
    have rl_4 : w4.heap[w1.heap.size]? = some (.cells #[.int .i64 m, .int .i64 q, .slice A1 l.length c1] 37 (0, 0)) := (hb4.block _ (by first | omega | (simp; done) | (simp; omega))).trans (by repeat (first | (with_reducible apply heap_setCell_same) | (with_reducible apply drew_row) | (with_reducible apply drewN_row) | (with_reducible exact Rl_3.out) | (with_reducible refine (heap_setCell_other _ _ _ _ (by first | omega | (simp; done) | (simp; omega))).trans ?_) | (with_reducible refine (Below.heap_alloc _ _ _ (by first | omega | (simp; done) | (simp; omega))).trans ?_)))
    have rm_4 : w4.heap[w2.heap.size]? = some (.cells #[.int .i64 m, .int .i64 q, .slice A2 r.length c2] 37 (0, 0)) := (hb4.block _ (by first | omega | (simp; done) | (simp; omega))).trans (by repeat (first | (with_reducible apply heap_setCell_same) | (with_reducible apply drew_row) | (with_reducible apply drewN_row) | (with_reducible exact Rm_3.out) | (with_reducible refine (heap_setCell_other _ _ _ _ (by first | omega | (simp; done) | (simp; omega))).trans ?_) | (with_reducible refine (Below.heap_alloc _ _ _ (by first | omega | (simp; done) | (simp; omega))).trans ?_)))
    have rp_4 : w4.heap[w2.heap.size + 1]? = some (.cells #[.int .i64 0, .int .i64 0, .int .i64 0, .int .i64 0, .int .i64 0, .string ⟨#[]⟩] 58 (0, 0)) := (hb4.block _ (by first | omega | (simp; done) | (simp; omega))).trans (by repeat (first | (with_reducible apply heap_setCell_same) | (with_reducible apply drew_row) | (with_reducible apply drewN_row) | (with_reducible exact Rp_3.out) | (with_reducible refine (heap_setCell_other _ _ _ _ (by first | omega | (simp; done) | (simp; omega))).trans ?_) | (with_reducible refine (Below.heap_alloc _ _ _ (by first | omega | (simp; done) | (simp; omega))).trans ?_)))
    have rn_4 : w4.heap[w3.heap.size]? = some (.cells #[.int .i64 m, .int .i64 q, .slice A3 r.length c3] 37 (0, 0)) := (hb4.block _ (by first | (simp; done) | (simp; omega))).trans (by repeat (first | exact heap_new _ _ _ (by first | rfl | (simp; done) | (simp; omega)) | refine (Below.heap_alloc _ _ _ (by first | omega | (simp; done) | (simp; omega))).trans ?_))
    have rq_4 : w4.heap[w3.heap.size + 1]? = some (.cells #[.int .i64 0, .int .i64 0, .int .i64 0, .int .i64 0, .int .i64 0, .string ⟨#[]⟩] 58 (0, 0)) := (hb4.block _ (by first | (simp; done) | (simp; omega))).trans (by repeat (first | exact heap_new _ _ _ (by first | rfl | (simp; done) | (simp; omega)) | refine (Below.heap_alloc _ _ _ (by first | omega | (simp; done) | (simp; omega))).trans ?_))
    have Ol_4 := Lib.hid (own_below Ol_3.out (w' := w4) (by repeat (first | with_reducible exact Below.refl _ _ | with_reducible assumption | with_reducible refine Below.drew ?_ | with_reducible refine Below.alloc ?_ (by first | exact Nat.le_refl _ | omega | (simp; done) | (simp; omega)) _ | with_reducible refine Below.setCell ?_ (by first | exact Nat.le_refl _ | omega | (simp; done) | (simp; omega)) _ | (with_reducible refine ext_trans ?_ (by with_reducible assumption)))))
    have Om_4 := Lib.hid (OwnE.below Om_3.out (w' := w4) (by repeat (first | with_reducible exact Below.refl _ _ | with_reducible assumption | with_reducible refine Below.drew ?_ | with_reducible refine Below.alloc ?_ (by first | exact Nat.le_refl _ | omega | (simp; done) | (simp; omega)) _ | with_reducible refine Below.setCell ?_ (by first | exact Nat.le_refl _ | omega | (simp; done) | (simp; omega)) _ | (with_reducible refine ext_trans ?_ (by with_reducible assumption)))))
    have On_4 := Lib.hid (OwnE.below On_3.out (w' := w4) (by repeat (first | with_reducible exact Below.refl _ _ | with_reducible assumption | with_reducible refine Below.drew ?_ | with_reducible refine Below.alloc ?_ (by first | exact Nat.le_refl _ | omega | (simp; done) | (simp; omega)) _ | with_reducible refine Below.setCell ?_ (by first | exact Nat.le_refl _ | omega | (simp; done) | (simp; omega)) _ | (with_reducible refine ext_trans ?_ (by with_reducible assumption)))))
    have hw4 : Below w.heap.size w w4 := (by repeat (first | with_reducible exact Below.refl _ _ | with_reducible assumption | with_reducible refine Below.drew ?_ | with_reducible refine Below.alloc ?_ (by first | exact Nat.le_refl _ | omega | (simp; done) | (simp; omega)) _ | with_reducible refine Below.setCell ?_ (by first | exact Nat.le_refl _ | omega | (simp; done) | (simp; omega)) _ | (with_reducible refine ext_trans ?_ (by with_reducible assumption))))
    clear r0_rl_3 f0_rl_3 r1_rl_3 f1_rl_3 r2_rl_3 f2_rl_3
    clear r0_rm_3 f0_rm_3 r1_rm_3 f1_rm_3 r2_rm_3 f2_rm_3
    clear r0_rp_3 f0_rp_3 r1_rp_3 f1_rp_3 r2_rp_3 f2_rp_3 r3_rp_3 f3_rp_3 r4_rp_3 f4_rp_3 r5_rp_3 f5_rp_3
    have lRl_4 : w1.heap.size < w4.heap.size := by omega
    have Rl_4 := Lib.hid rl_4
    have r0_rl_4 := cell_of_row _ _ 0 _ _ _ rl_4
    have r1_rl_4 := cell_of_row _ _ 1 _ _ _ rl_4
    have r2_rl_4 := cell_of_row _ _ 2 _ _ _ rl_4
    have f0_rl_4 := frozen_of_row _ _ 0 _ _ rl_4
    have f1_rl_4 := frozen_of_row _ _ 1 _ _ rl_4
    have f2_rl_4 := frozen_of_row _ _ 2 _ _ rl_4
    simp at r0_rl_4 r1_rl_4 r2_rl_4
    clear rl_4
    have lRm_4 : w2.heap.size < w4.heap.size := by omega
    have Rm_4 := Lib.hid rm_4
    have r0_rm_4 := cell_of_row _ _ 0 _ _ _ rm_4
    have r1_rm_4 := cell_of_row _ _ 1 _ _ _ rm_4
    have r2_rm_4 := cell_of_row _ _ 2 _ _ _ rm_4
    have f0_rm_4 := frozen_of_row _ _ 0 _ _ rm_4
    have f1_rm_4 := frozen_of_row _ _ 1 _ _ rm_4
    have f2_rm_4 := frozen_of_row _ _ 2 _ _ rm_4
    simp at r0_rm_4 r1_rm_4 r2_rm_4
    clear rm_4
    have lRp_4 : w2.heap.size + 1 < w4.heap.size := by omega
    have Rp_4 := Lib.hid rp_4
    have r0_rp_4 := cell_of_row _ _ 0 _ _ _ rp_4
    have r1_rp_4 := cell_of_row _ _ 1 _ _ _ rp_4
    have r2_rp_4 := cell_of_row _ _ 2 _ _ _ rp_4
    have r3_rp_4 := cell_of_row _ _ 3 _ _ _ rp_4
    have r4_rp_4 := cell_of_row _ _ 4 _ _ _ rp_4
    have r5_rp_4 := cell_of_row _ _ 5 _ _ _ rp_4
    have f0_rp_4 := frozen_of_row _ _ 0 _ _ rp_4
    have f1_rp_4 := frozen_of_row _ _ 1 _ _ rp_4
    have f2_rp_4 := frozen_of_row _ _ 2 _ _ rp_4
    have f3_rp_4 := frozen_of_row _ _ 3 _ _ rp_4
    have f4_rp_4 := frozen_of_row _ _ 4 _ _ rp_4
    have f5_rp_4 := frozen_of_row _ _ 5 _ _ rp_4
    simp at r0_rp_4 r1_rp_4 r2_rp_4 r3_rp_4 r4_rp_4 r5_rp_4
    clear rp_4
    have lRn_4 : w3.heap.size < w4.heap.size := by omega
    have Rn_4 := Lib.hid rn_4
    have r0_rn_4 := cell_of_row _ _ 0 _ _ _ rn_4
    have r1_rn_4 := cell_of_row _ _ 1 _ _ _ rn_4
    have r2_rn_4 := cell_of_row _ _ 2 _ _ _ rn_4
    have f0_rn_4 := frozen_of_row _ _ 0 _ _ rn_4
    have f1_rn_4 := frozen_of_row _ _ 1 _ _ rn_4
    have f2_rn_4 := frozen_of_row _ _ 2 _ _ rn_4
    simp at r0_rn_4 r1_rn_4 r2_rn_4
    clear rn_4
    have lRq_4 : w3.heap.size + 1 < w4.heap.size := by omega
    have Rq_4 := Lib.hid rq_4
    have r0_rq_4 := cell_of_row _ _ 0 _ _ _ rq_4
    have r1_rq_4 := cell_of_row _ _ 1 _ _ _ rq_4
    have r2_rq_4 := cell_of_row _ _ 2 _ _ _ rq_4
    have r3_rq_4 := cell_of_row _ _ 3 _ _ _ rq_4
    have r4_rq_4 := cell_of_row _ _ 4 _ _ _ rq_4
    have r5_rq_4 := cell_of_row _ _ 5 _ _ _ rq_4
    have f0_rq_4 := frozen_of_row _ _ 0 _ _ rq_4
    have f1_rq_4 := frozen_of_row _ _ 1 _ _ rq_4
    have f2_rq_4 := frozen_of_row _ _ 2 _ _ rq_4
    have f3_rq_4 := frozen_of_row _ _ 3 _ _ rq_4
    have f4_rq_4 := frozen_of_row _ _ 4 _ _ rq_4
    have f5_rq_4 := frozen_of_row _ _ 5 _ _ rq_4
    simp at r0_rq_4 r1_rq_4 r2_rq_4 r3_rq_4 r4_rq_4 r5_rq_4
    clear rq_4
    go_wp2_with fail
    refine (SI.out _ _ _ Om_4.out.rd On_4.out.rd).mono ?_
    rintro e w5 ⟨rfl, hb5⟩
    have hz5 := hb5.size
    (try simp at hz5)
    have rl_5 : w5.heap[w1.heap.size]? = some (.cells #[.int .i64 m, .int .i64 q, .slice A1 l.length c1] 37 (0, 0)) := (hb5.block _ (by first | omega | (simp; done) | (simp; omega))).trans (by repeat (first | (with_reducible apply heap_setCell_same) | (with_reducible apply drew_row) | (with_reducible apply drewN_row) | (with_reducible exact Rl_4.out) | (with_reducible refine (heap_setCell_other _ _ _ _ (by first | omega | (simp; done) | (simp; omega))).trans ?_) | (with_reducible refine (Below.heap_alloc _ _ _ (by first | omega | (simp; done) | (simp; omega))).trans ?_)))
    have rm_5 : w5.heap[w2.heap.size]? = some (.cells #[.int .i64 m, .int .i64 q, .slice A2 r.length c2] 37 (0, 0)) := (hb5.block _ (by first | omega | (simp; done) | (simp; omega))).trans (by repeat (first | (with_reducible apply heap_setCell_same) | (with_reducible apply drew_row) | (with_reducible apply drewN_row) | (with_reducible exact Rm_4.out) | (with_reducible refine (heap_setCell_other _ _ _ _ (by first | omega | (simp; done) | (simp; omega))).trans ?_) | (with_reducible refine (Below.heap_alloc _ _ _ (by first | omega | (simp; done) | (simp; omega))).trans ?_)))
    have rp_5 : w5.heap[w2.heap.size + 1]? = some (.cells #[.int .i64 0, .int .i64 0, .int .i64 0, .int .i64 0, .int .i64 0, .string ⟨#[]⟩] 58 (0, 0)) := (hb5.block _ (by first | omega | (simp; done) | (simp; omega))).trans (by repeat (first | (with_reducible apply heap_setCell_same) | (with_reducible apply drew_row) | (with_reducible apply drewN_row) | (with_reducible exact Rp_4.out) | (with_reducible refine (heap_setCell_other _ _ _ _ (by first | omega | (simp; done) | (simp; omega))).trans ?_) | (with_reducible refine (Below.heap_alloc _ _ _ (by first | omega | (simp; done) | (simp; omega))).trans ?_)))
    have rn_5 : w5.heap[w3.heap.size]? = some (.cells #[.int .i64 m, .int .i64 q, .slice A3 r.length c3] 37 (0, 0)) := (hb5.block _ (by first | omega | (simp; done) | (simp; omega))).trans (by repeat (first | (with_reducible apply heap_setCell_same) | (with_reducible apply drew_row) | (with_reducible apply drewN_row) | (with_reducible exact Rn_4.out) | (with_reducible refine (heap_setCell_other _ _ _ _ (by first | omega | (simp; done) | (simp; omega))).trans ?_) | (with_reducible refine (Below.heap_alloc _ _ _ (by first | omega | (simp; done) | (simp; omega))).trans ?_)))
    have rq_5 : w5.heap[w3.heap.size + 1]? = some (.cells #[.int .i64 0, .int .i64 0, .int .i64 0, .int .i64 0, .int .i64 0, .string ⟨#[]⟩] 58 (0, 0)) := (hb5.block _ (by first | omega | (simp; done) | (simp; omega))).trans (by repeat (first | (with_reducible apply heap_setCell_same) | (with_reducible apply drew_row) | (with_reducible apply drewN_row) | (with_reducible exact Rq_4.out) | (with_reducible refine (heap_setCell_other _ _ _ _ (by first | omega | (simp; done) | (simp; omega))).trans ?_) | (with_reducible refine (Below.heap_alloc _ _ _ (by first | omega | (simp; done) | (simp; omega))).trans ?_)))
    have Ol_5 := Lib.hid (own_below Ol_4.out (w' := w5) (by repeat (first | with_reducible exact Below.refl _ _ | with_reducible assumption | with_reducible refine Below.drew ?_ | with_reducible refine Below.alloc ?_ (by first | exact Nat.le_refl _ | omega | (simp; done) | (simp; omega)) _ | with_reducible refine Below.setCell ?_ (by first | exact Nat.le_refl _ | omega | (simp; done) | (simp; omega)) _ | (with_reducible refine ext_trans ?_ (by with_reducible assumption)))))
    have Om_5 := Lib.hid (OwnE.below Om_4.out (w' := w5) (by repeat (first | with_reducible exact Below.refl _ _ | with_reducible assumption | with_reducible refine Below.drew ?_ | with_reducible refine Below.alloc ?_ (by first | exact Nat.le_refl _ | omega | (simp; done) | (simp; omega)) _ | with_reducible refine Below.setCell ?_ (by first | exact Nat.le_refl _ | omega | (simp; done) | (simp; omega)) _ | (with_reducible refine ext_trans ?_ (by with_reducible assumption)))))
    have On_5 := Lib.hid (OwnE.below On_4.out (w' := w5) (by repeat (first | with_reducible exact Below.refl _ _ | with_reducible assumption | with_reducible refine Below.drew ?_ | with_reducible refine Below.alloc ?_ (by first | exact Nat.le_refl _ | omega | (simp; done) | (simp; omega)) _ | with_reducible refine Below.setCell ?_ (by first | exact Nat.le_refl _ | omega | (simp; done) | (simp; omega)) _ | (with_reducible refine ext_trans ?_ (by with_reducible assumption)))))
    have hw5 : Below w.heap.size w w5 := (by repeat (first | with_reducible exact Below.refl _ _ | with_reducible assumption | with_reducible refine Below.drew ?_ | with_reducible refine Below.alloc ?_ (by first | exact Nat.le_refl _ | omega | (simp; done) | (simp; omega)) _ | with_reducible refine Below.setCell ?_ (by first | exact Nat.le_refl _ | omega | (simp; done) | (simp; omega)) _ | (with_reducible refine ext_trans ?_ (by with_reducible assumption))))
    clear r0_rl_4 f0_rl_4 r1_rl_4 f1_rl_4 r2_rl_4 f2_rl_4
    clear r0_rm_4 f0_rm_4 r1_rm_4 f1_rm_4 r2_rm_4 f2_rm_4
    clear r0_rp_4 f0_rp_4 r1_rp_4 f1_rp_4 r2_rp_4 f2_rp_4 r3_rp_4 f3_rp_4 r4_rp_4 f4_rp_4 r5_rp_4 f5_rp_4
    clear r0_rn_4 f0_rn_4 r1_rn_4 f1_rn_4 r2_rn_4 f2_rn_4
    clear r0_rq_4 f0_rq_4 r1_rq_4 f1_rq_4 r2_rq_4 f2_rq_4 r3_rq_4 f3_rq_4 r4_rq_4 f4_rq_4 r5_rq_4 f5_rq_4
    have lRl_5 : w1.heap.size < w5.heap.size := by omega
    have Rl_5 := Lib.hid rl_5
    have r0_rl_5 := cell_of_row _ _ 0 _ _ _ rl_5
    have r1_rl_5 := cell_of_row _ _ 1 _ _ _ rl_5
    have r2_rl_5 := cell_of_row _ _ 2 _ _ _ rl_5
    have f0_rl_5 := frozen_of_row _ _ 0 _ _ rl_5
    have f1_rl_5 := frozen_of_row _ _ 1 _ _ rl_5
    have f2_rl_5 := frozen_of_row _ _ 2 _ _ rl_5
    simp at r0_rl_5 r1_rl_5 r2_rl_5
    clear rl_5
    have lRm_5 : w2.heap.size < w5.heap.size := by omega
    have Rm_5 := Lib.hid rm_5
    have r0_rm_5 := cell_of_row _ _ 0 _ _ _ rm_5
    have r1_rm_5 := cell_of_row _ _ 1 _ _ _ rm_5
    have r2_rm_5 := cell_of_row _ _ 2 _ _ _ rm_5
    have f0_rm_5 := frozen_of_row _ _ 0 _ _ rm_5
    have f1_rm_5 := frozen_of_row _ _ 1 _ _ rm_5
    have f2_rm_5 := frozen_of_row _ _ 2 _ _ rm_5
    simp at r0_rm_5 r1_rm_5 r2_rm_5
    clear rm_5
    have lRp_5 : w2.heap.size + 1 < w5.heap.size := by omega
    have Rp_5 := Lib.hid rp_5
    have r0_rp_5 := cell_of_row _ _ 0 _ _ _ rp_5
    have r1_rp_5 := cell_of_row _ _ 1 _ _ _ rp_5
    have r2_rp_5 := cell_of_row _ _ 2 _ _ _ rp_5
    have r3_rp_5 := cell_of_row _ _ 3 _ _ _ rp_5
    have r4_rp_5 := cell_of_row _ _ 4 _ _ _ rp_5
    have r5_rp_5 := cell_of_row _ _ 5 _ _ _ rp_5
    have f0_rp_5 := frozen_of_row _ _ 0 _ _ rp_5
    have f1_rp_5 := frozen_of_row _ _ 1 _ _ rp_5
    have f2_rp_5 := frozen_of_row _ _ 2 _ _ rp_5
    have f3_rp_5 := frozen_of_row _ _ 3 _ _ rp_5
    have f4_rp_5 := frozen_of_row _ _ 4 _ _ rp_5
    have f5_rp_5 := frozen_of_row _ _ 5 _ _ rp_5
    simp at r0_rp_5 r1_rp_5 r2_rp_5 r3_rp_5 r4_rp_5 r5_rp_5
    clear rp_5
    have lRn_5 : w3.heap.size < w5.heap.size := by omega
    have Rn_5 := Lib.hid rn_5
    have r0_rn_5 := cell_of_row _ _ 0 _ _ _ rn_5
    have r1_rn_5 := cell_of_row _ _ 1 _ _ _ rn_5
    have r2_rn_5 := cell_of_row _ _ 2 _ _ _ rn_5
    have f0_rn_5 := frozen_of_row _ _ 0 _ _ rn_5
    have f1_rn_5 := frozen_of_row _ _ 1 _ _ rn_5
    have f2_rn_5 := frozen_of_row _ _ 2 _ _ rn_5
    simp at r0_rn_5 r1_rn_5 r2_rn_5
    clear rn_5
    have lRq_5 : w3.heap.size + 1 < w5.heap.size := by omega
    have Rq_5 := Lib.hid rq_5
    have r0_rq_5 := cell_of_row _ _ 0 _ _ _ rq_5
    have r1_rq_5 := cell_of_row _ _ 1 _ _ _ rq_5
    have r2_rq_5 := cell_of_row _ _ 2 _ _ _ rq_5
    have r3_rq_5 := cell_of_row _ _ 3 _ _ _ rq_5
    have r4_rq_5 := cell_of_row _ _ 4 _ _ _ rq_5
    have r5_rq_5 := cell_of_row _ _ 5 _ _ _ rq_5
    have f0_rq_5 := frozen_of_row _ _ 0 _ _ rq_5
    have f1_rq_5 := frozen_of_row _ _ 1 _ _ rq_5
    have f2_rq_5 := frozen_of_row _ _ 2 _ _ rq_5
    have f3_rq_5 := frozen_of_row _ _ 3 _ _ rq_5
    have f4_rq_5 := frozen_of_row _ _ 4 _ _ rq_5
    have f5_rq_5 := frozen_of_row _ _ 5 _ _ rq_5
    simp at r0_rq_5 r1_rq_5 r2_rq_5 r3_rq_5 r4_rq_5 r5_rq_5
    clear rq_5
    go_wp2_with fail
    refine (RF.out _).mono ?_
    rintro e w6 ⟨rfl, hb6⟩
    have hz6 := hb6.size
    (try simp at hz6)
    have rl_6 : w6.heap[w1.heap.size]? = some (.cells #[.int .i64 m, .int .i64 q, .slice A1 l.length c1] 37 (0, 0)) := (hb6.block _ (by first | omega | (simp; done) | (simp; omega))).trans (by repeat (first | (with_reducible apply heap_setCell_same) | (with_reducible apply drew_row) | (with_reducible apply drewN_row) | (with_reducible exact Rl_5.out) | (with_reducible refine (heap_setCell_other _ _ _ _ (by first | omega | (simp; done) | (simp; omega))).trans ?_) | (with_reducible refine (Below.heap_alloc _ _ _ (by first | omega | (simp; done) | (simp; omega))).trans ?_)))
    have rm_6 : w6.heap[w2.heap.size]? = some (.cells #[.int .i64 m, .int .i64 q, .slice A2 r.length c2] 37 (0, 0)) := (hb6.block _ (by first | omega | (simp; done) | (simp; omega))).trans (by repeat (first | (with_reducible apply heap_setCell_same) | (with_reducible apply drew_row) | (with_reducible apply drewN_row) | (with_reducible exact Rm_5.out) | (with_reducible refine (heap_setCell_other _ _ _ _ (by first | omega | (simp; done) | (simp; omega))).trans ?_) | (with_reducible refine (Below.heap_alloc _ _ _ (by first | omega | (simp; done) | (simp; omega))).trans ?_)))
    have rp_6 : w6.heap[w2.heap.size + 1]? = some (.cells #[.int .i64 0, .int .i64 0, .int .i64 0, .int .i64 0, .int .i64 0, .string ⟨#[]⟩] 58 (0, 0)) := (hb6.block _ (by first | omega | (simp; done) | (simp; omega))).trans (by repeat (first | (with_reducible apply heap_setCell_same) | (with_reducible apply drew_row) | (with_reducible apply drewN_row) | (with_reducible exact Rp_5.out) | (with_reducible refine (heap_setCell_other _ _ _ _ (by first | omega | (simp; done) | (simp; omega))).trans ?_) | (with_reducible refine (Below.heap_alloc _ _ _ (by first | omega | (simp; done) | (simp; omega))).trans ?_)))
    have rn_6 : w6.heap[w3.heap.size]? = some (.cells #[.int .i64 m, .int .i64 q, .slice A3 r.length c3] 37 (0, 0)) := (hb6.block _ (by first | omega | (simp; done) | (simp; omega))).trans (by repeat (first | (with_reducible apply heap_setCell_same) | (with_reducible apply drew_row) | (with_reducible apply drewN_row) | (with_reducible exact Rn_5.out) | (with_reducible refine (heap_setCell_other _ _ _ _ (by first | omega | (simp; done) | (simp; omega))).trans ?_) | (with_reducible refine (Below.heap_alloc _ _ _ (by first | omega | (simp; done) | (simp; omega))).trans ?_)))
    have rq_6 : w6.heap[w3.heap.size + 1]? = some (.cells #[.int .i64 0, .int .i64 0, .int .i64 0, .int .i64 0, .int .i64 0, .string ⟨#[]⟩] 58 (0, 0)) := (hb6.block _ (by first | omega | (simp; done) | (simp; omega))).trans (by repeat (first | (with_reducible apply heap_setCell_same) | (with_reducible apply drew_row) | (with_reducible apply drewN_row) | (with_reducible exact Rq_5.out) | (with_reducible refine (heap_setCell_other _ _ _ _ (by first | omega | (simp; done) | (simp; omega))).trans ?_) | (with_reducible refine (Below.heap_alloc _ _ _ (by first | omega | (simp; done) | (simp; omega))).trans ?_)))
    have Ol_6 := Lib.hid (own_below Ol_5.out (w' := w6) (by repeat (first | with_reducible exact Below.refl _ _ | with_reducible assumption | with_reducible refine Below.drew ?_ | with_reducible refine Below.alloc ?_ (by first | exact Nat.le_refl _ | omega | (simp; done) | (simp; omega)) _ | with_reducible refine Below.setCell ?_ (by first | exact Nat.le_refl _ | omega | (simp; done) | (simp; omega)) _ | (with_reducible refine ext_trans ?_ (by with_reducible assumption)))))
    have Om_6 := Lib.hid (OwnE.below Om_5.out (w' := w6) (by repeat (first | with_reducible exact Below.refl _ _ | with_reducible assumption | with_reducible refine Below.drew ?_ | with_reducible refine Below.alloc ?_ (by first | exact Nat.le_refl _ | omega | (simp; done) | (simp; omega)) _ | with_reducible refine Below.setCell ?_ (by first | exact Nat.le_refl _ | omega | (simp; done) | (simp; omega)) _ | (with_reducible refine ext_trans ?_ (by with_reducible assumption)))))
    have On_6 := Lib.hid (OwnE.below On_5.out (w' := w6) (by repeat (first | with_reducible exact Below.refl _ _ | with_reducible assumption | with_reducible refine Below.drew ?_ | with_reducible refine Below.alloc ?_ (by first | exact Nat.le_refl _ | omega | (simp; done) | (simp; omega)) _ | with_reducible refine Below.setCell ?_ (by first | exact Nat.le_refl _ | omega | (simp; done) | (simp; omega)) _ | (with_reducible refine ext_trans ?_ (by with_reducible assumption)))))
    have hw6 : Below w.heap.size w w6 := (by repeat (first | with_reducible exact Below.refl _ _ | with_reducible assumption | with_reducible refine Below.drew ?_ | with_reducible refine Below.alloc ?_ (by first | exact Nat.le_refl _ | omega | (simp; done) | (simp; omega)) _ | with_reducible refine Below.setCell ?_ (by first | exact Nat.le_refl _ | omega | (simp; done) | (simp; omega)) _ | (with_reducible refine ext_trans ?_ (by with_reducible assumption))))
    clear r0_rl_5 f0_rl_5 r1_rl_5 f1_rl_5 r2_rl_5 f2_rl_5
    clear r0_rm_5 f0_rm_5 r1_rm_5 f1_rm_5 r2_rm_5 f2_rm_5
    clear r0_rp_5 f0_rp_5 r1_rp_5 f1_rp_5 r2_rp_5 f2_rp_5 r3_rp_5 f3_rp_5 r4_rp_5 f4_rp_5 r5_rp_5 f5_rp_5
    clear r0_rn_5 f0_rn_5 r1_rn_5 f1_rn_5 r2_rn_5 f2_rn_5
    clear r0_rq_5 f0_rq_5 r1_rq_5 f1_rq_5 r2_rq_5 f2_rq_5 r3_rq_5 f3_rq_5 r4_rq_5 f4_rq_5 r5_rq_5 f5_rq_5
    have lRl_6 : w1.heap.size < w6.heap.size := by omega
    have Rl_6 := Lib.hid rl_6
    have r0_rl_6 := cell_of_row _ _ 0 _ _ _ rl_6
    have r1_rl_6 := cell_of_row _ _ 1 _ _ _ rl_6
    have r2_rl_6 := cell_of_row _ _ 2 _ _ _ rl_6
    have f0_rl_6 := frozen_of_row _ _ 0 _ _ rl_6
    have f1_rl_6 := frozen_of_row _ _ 1 _ _ rl_6
    have f2_rl_6 := frozen_of_row _ _ 2 _ _ rl_6
    simp at r0_rl_6 r1_rl_6 r2_rl_6
    clear rl_6
    have lRm_6 : w2.heap.size < w6.heap.size := by omega
    have Rm_6 := Lib.hid rm_6
    have r0_rm_6 := cell_of_row _ _ 0 _ _ _ rm_6
    have r1_rm_6 := cell_of_row _ _ 1 _ _ _ rm_6
    have r2_rm_6 := cell_of_row _ _ 2 _ _ _ rm_6
    have f0_rm_6 := frozen_of_row _ _ 0 _ _ rm_6
    have f1_rm_6 := frozen_of_row _ _ 1 _ _ rm_6
    have f2_rm_6 := frozen_of_row _ _ 2 _ _ rm_6
    simp at r0_rm_6 r1_rm_6 r2_rm_6
    clear rm_6
    have lRp_6 : w2.heap.size + 1 < w6.heap.size := by omega
    have Rp_6 := Lib.hid rp_6
    have r0_rp_6 := cell_of_row _ _ 0 _ _ _ rp_6
    have r1_rp_6 := cell_of_row _ _ 1 _ _ _ rp_6
    have r2_rp_6 := cell_of_row _ _ 2 _ _ _ rp_6
    have r3_rp_6 := cell_of_row _ _ 3 _ _ _ rp_6
    have r4_rp_6 := cell_of_row _ _ 4 _ _ _ rp_6
    have r5_rp_6 := cell_of_row _ _ 5 _ _ _ rp_6
    have f0_rp_6 := frozen_of_row _ _ 0 _ _ rp_6
    have f1_rp_6 := frozen_of_row _ _ 1 _ _ rp_6
    have f2_rp_6 := frozen_of_row _ _ 2 _ _ rp_6
    have f3_rp_6 := frozen_of_row _ _ 3 _ _ rp_6
    have f4_rp_6 := frozen_of_row _ _ 4 _ _ rp_6
    have f5_rp_6 := frozen_of_row _ _ 5 _ _ rp_6
    simp at r0_rp_6 r1_rp_6 r2_rp_6 r3_rp_6 r4_rp_6 r5_rp_6
    clear rp_6
    have lRn_6 : w3.heap.size < w6.heap.size := by omega
    have Rn_6 := Lib.hid rn_6
    have r0_rn_6 := cell_of_row _ _ 0 _ _ _ rn_6
    have r1_rn_6 := cell_of_row _ _ 1 _ _ _ rn_6
    have r2_rn_6 := cell_of_row _ _ 2 _ _ _ rn_6
    have f0_rn_6 := frozen_of_row _ _ 0 _ _ rn_6
    have f1_rn_6 := frozen_of_row _ _ 1 _ _ rn_6
    have f2_rn_6 := frozen_of_row _ _ 2 _ _ rn_6
    simp at r0_rn_6 r1_rn_6 r2_rn_6
    clear rn_6
    have lRq_6 : w3.heap.size + 1 < w6.heap.size := by omega
    have Rq_6 := Lib.hid rq_6
    have r0_rq_6 := cell_of_row _ _ 0 _ _ _ rq_6
    have r1_rq_6 := cell_of_row _ _ 1 _ _ _ rq_6
    have r2_rq_6 := cell_of_row _ _ 2 _ _ _ rq_6
    have r3_rq_6 := cell_of_row _ _ 3 _ _ _ rq_6
    have r4_rq_6 := cell_of_row _ _ 4 _ _ _ rq_6
    have r5_rq_6 := cell_of_row _ _ 5 _ _ _ rq_6
    have f0_rq_6 := frozen_of_row _ _ 0 _ _ rq_6
    have f1_rq_6 := frozen_of_row _ _ 1 _ _ rq_6
    have f2_rq_6 := frozen_of_row _ _ 2 _ _ rq_6
    have f3_rq_6 := frozen_of_row _ _ 3 _ _ rq_6
    have f4_rq_6 := frozen_of_row _ _ 4 _ _ rq_6
    have f5_rq_6 := frozen_of_row _ _ 5 _ _ rq_6
    simp at r0_rq_6 r1_rq_6 r2_rq_6 r3_rq_6 r4_rq_6 r5_rq_6
    clear rq_6
    go_wp2_with fail
    refine (OM.out _ _ (Om_6.out.below (by repeat (first | with_reducible exact Below.refl _ _ | with_reducible assumption | with_reducible refine Below.drew ?_ | with_reducible refine Below.alloc ?_ (by first | exact Nat.le_refl _ | omega | (simp; done) | (simp; omega)) _ | with_reducible refine Below.setCell ?_ (by first | exact Nat.le_refl _ | omega | (simp; done) | (simp; omega)) _ | (with_reducible refine ext_trans ?_ (by with_reducible assumption))))).rd).mono ?_
    rintro e w7 ⟨rfl, hb7⟩
    have hz7 := hb7.size
    (try simp at hz7)
    have rl_7 : w7.heap[w1.heap.size]? = some (.cells #[.int .i64 m, .int .i64 q, .slice A1 l.length c1] 37 (0, 0)) := (hb7.block _ (by first | omega | (simp; done) | (simp; omega))).trans (by repeat (first | (with_reducible apply heap_setCell_same) | (with_reducible apply drew_row) | (with_reducible apply drewN_row) | (with_reducible exact Rl_6.out) | (with_reducible refine (heap_setCell_other _ _ _ _ (by first | omega | (simp; done) | (simp; omega))).trans ?_) | (with_reducible refine (Below.heap_alloc _ _ _ (by first | omega | (simp; done) | (simp; omega))).trans ?_)))
    have rm_7 : w7.heap[w2.heap.size]? = some (.cells #[.int .i64 m, .int .i64 q, .slice A2 r.length c2] 37 (0, 0)) := (hb7.block _ (by first | omega | (simp; done) | (simp; omega))).trans (by repeat (first | (with_reducible apply heap_setCell_same) | (with_reducible apply drew_row) | (with_reducible apply drewN_row) | (with_reducible exact Rm_6.out) | (with_reducible refine (heap_setCell_other _ _ _ _ (by first | omega | (simp; done) | (simp; omega))).trans ?_) | (with_reducible refine (Below.heap_alloc _ _ _ (by first | omega | (simp; done) | (simp; omega))).trans ?_)))
    have rp_7 : w7.heap[w2.heap.size + 1]? = some (.cells #[.int .i64 0, .int .i64 0, .int .i64 0, .int .i64 0, .int .i64 0, .string ⟨#[]⟩] 58 (0, 0)) := (hb7.block _ (by first | omega | (simp; done) | (simp; omega))).trans (by repeat (first | (with_reducible apply heap_setCell_same) | (with_reducible apply drew_row) | (with_reducible apply drewN_row) | (with_reducible exact Rp_6.out) | (with_reducible refine (heap_setCell_other _ _ _ _ (by first | omega | (simp; done) | (simp; omega))).trans ?_) | (with_reducible refine (Below.heap_alloc _ _ _ (by first | omega | (simp; done) | (simp; omega))).trans ?_)))
    have rn_7 : w7.heap[w3.heap.size]? = some (.cells #[.int .i64 m, .int .i64 q, .slice A3 r.length c3] 37 (0, 0)) := (hb7.block _ (by first | omega | (simp; done) | (simp; omega))).trans (by repeat (first | (with_reducible apply heap_setCell_same) | (with_reducible apply drew_row) | (with_reducible apply drewN_row) | (with_reducible exact Rn_6.out) | (with_reducible refine (heap_setCell_other _ _ _ _ (by first | omega | (simp; done) | (simp; omega))).trans ?_) | (with_reducible refine (Below.heap_alloc _ _ _ (by first | omega | (simp; done) | (simp; omega))).trans ?_)))
    have rq_7 : w7.heap[w3.heap.size + 1]? = some (.cells #[.int .i64 0, .int .i64 0, .int .i64 0, .int .i64 0, .int .i64 0, .string ⟨#[]⟩] 58 (0, 0)) := (hb7.block _ (by first | omega | (simp; done) | (simp; omega))).trans (by repeat (first | (with_reducible apply heap_setCell_same) | (with_reducible apply drew_row) | (with_reducible apply drewN_row) | (with_reducible exact Rq_6.out) | (with_reducible refine (heap_setCell_other _ _ _ _ (by first | omega | (simp; done) | (simp; omega))).trans ?_) | (with_reducible refine (Below.heap_alloc _ _ _ (by first | omega | (simp; done) | (simp; omega))).trans ?_)))
    have rf_7 : w7.heap[w6.heap.size]? = some (.cells #[.int .i64 k2, .int .i64 m, .int .i64 2054, .string A] 67 (0, 0)) := (hb7.block _ (by first | (simp; done) | (simp; omega))).trans (by repeat (first | exact heap_new _ _ _ (by first | rfl | (simp; done) | (simp; omega)) | refine (Below.heap_alloc _ _ _ (by first | omega | (simp; done) | (simp; omega))).trans ?_))
    have Ol_7 := Lib.hid (own_below Ol_6.out (w' := w7) (by repeat (first | with_reducible exact Below.refl _ _ | with_reducible assumption | with_reducible refine Below.drew ?_ | with_reducible refine Below.alloc ?_ (by first | exact Nat.le_refl _ | omega | (simp; done) | (simp; omega)) _ | with_reducible refine Below.setCell ?_ (by first | exact Nat.le_refl _ | omega | (simp; done) | (simp; omega)) _ | (with_reducible refine ext_trans ?_ (by with_reducible assumption)))))
    have Om_7 := Lib.hid (OwnE.below Om_6.out (w' := w7) (by repeat (first | with_reducible exact Below.refl _ _ | with_reducible assumption | with_reducible refine Below.drew ?_ | with_reducible refine Below.alloc ?_ (by first | exact Nat.le_refl _ | omega | (simp; done) | (simp; omega)) _ | with_reducible refine Below.setCell ?_ (by first | exact Nat.le_refl _ | omega | (simp; done) | (simp; omega)) _ | (with_reducible refine ext_trans ?_ (by with_reducible assumption)))))
    have On_7 := Lib.hid (OwnE.below On_6.out (w' := w7) (by repeat (first | with_reducible exact Below.refl _ _ | with_reducible assumption | with_reducible refine Below.drew ?_ | with_reducible refine Below.alloc ?_ (by first | exact Nat.le_refl _ | omega | (simp; done) | (simp; omega)) _ | with_reducible refine Below.setCell ?_ (by first | exact Nat.le_refl _ | omega | (simp; done) | (simp; omega)) _ | (with_reducible refine ext_trans ?_ (by with_reducible assumption)))))
    have hw7 : Below w.heap.size w w7 := (by repeat (first | with_reducible exact Below.refl _ _ | with_reducible assumption | with_reducible refine Below.drew ?_ | with_reducible refine Below.alloc ?_ (by first | exact Nat.le_refl _ | omega | (simp; done) | (simp; omega)) _ | with_reducible refine Below.setCell ?_ (by first | exact Nat.le_refl _ | omega | (simp; done) | (simp; omega)) _ | (with_reducible refine ext_trans ?_ (by with_reducible assumption))))
    clear r0_rl_6 f0_rl_6 r1_rl_6 f1_rl_6 r2_rl_6 f2_rl_6
    clear r0_rm_6 f0_rm_6 r1_rm_6 f1_rm_6 r2_rm_6 f2_rm_6
    clear r0_rp_6 f0_rp_6 r1_rp_6 f1_rp_6 r2_rp_6 f2_rp_6 r3_rp_6 f3_rp_6 r4_rp_6 f4_rp_6 r5_rp_6 f5_rp_6
    clear r0_rn_6 f0_rn_6 r1_rn_6 f1_rn_6 r2_rn_6 f2_rn_6
    clear r0_rq_6 f0_rq_6 r1_rq_6 f1_rq_6 r2_rq_6 f2_rq_6 r3_rq_6 f3_rq_6 r4_rq_6 f4_rq_6 r5_rq_6 f5_rq_6
    have lRl_7 : w1.heap.size < w7.heap.size := by omega
    have Rl_7 := Lib.hid rl_7
    have r0_rl_7 := cell_of_row _ _ 0 _ _ _ rl_7
    have r1_rl_7 := cell_of_row _ _ 1 _ _ _ rl_7
    have r2_rl_7 := cell_of_row _ _ 2 _ _ _ rl_7
    have f0_rl_7 := frozen_of_row _ _ 0 _ _ rl_7
    have f1_rl_7 := frozen_of_row _ _ 1 _ _ rl_7
    have f2_rl_7 := frozen_of_row _ _ 2 _ _ rl_7
    simp at r0_rl_7 r1_rl_7 r2_rl_7
    clear rl_7
    have lRm_7 : w2.heap.size < w7.heap.size := by omega
    have Rm_7 := Lib.hid rm_7
    have r0_rm_7 := cell_of_row _ _ 0 _ _ _ rm_7
    have r1_rm_7 := cell_of_row _ _ 1 _ _ _ rm_7
    have r2_rm_7 := cell_of_row _ _ 2 _ _ _ rm_7
    have f0_rm_7 := frozen_of_row _ _ 0 _ _ rm_7
    have f1_rm_7 := frozen_of_row _ _ 1 _ _ rm_7
    have f2_rm_7 := frozen_of_row _ _ 2 _ _ rm_7
    simp at r0_rm_7 r1_rm_7 r2_rm_7
    clear rm_7
    have lRp_7 : w2.heap.size + 1 < w7.heap.size := by omega
    have Rp_7 := Lib.hid rp_7
    have r0_rp_7 := cell_of_row _ _ 0 _ _ _ rp_7
    have r1_rp_7 := cell_of_row _ _ 1 _ _ _ rp_7
    have r2_rp_7 := cell_of_row _ _ 2 _ _ _ rp_7
    have r3_rp_7 := cell_of_row _ _ 3 _ _ _ rp_7
    have r4_rp_7 := cell_of_row _ _ 4 _ _ _ rp_7
    have r5_rp_7 := cell_of_row _ _ 5 _ _ _ rp_7
    have f0_rp_7 := frozen_of_row _ _ 0 _ _ rp_7
    have f1_rp_7 := frozen_of_row _ _ 1 _ _ rp_7
    have f2_rp_7 := frozen_of_row _ _ 2 _ _ rp_7
    have f3_rp_7 := frozen_of_row _ _ 3 _ _ rp_7
    have f4_rp_7 := frozen_of_row _ _ 4 _ _ rp_7
    have f5_rp_7 := frozen_of_row _ _ 5 _ _ rp_7
    simp at r0_rp_7 r1_rp_7 r2_rp_7 r3_rp_7 r4_rp_7 r5_rp_7
    clear rp_7
    have lRn_7 : w3.heap.size < w7.heap.size := by omega
    have Rn_7 := Lib.hid rn_7
    have r0_rn_7 := cell_of_row _ _ 0 _ _ _ rn_7
    have r1_rn_7 := cell_of_row _ _ 1 _ _ _ rn_7
    have r2_rn_7 := cell_of_row _ _ 2 _ _ _ rn_7
    have f0_rn_7 := frozen_of_row _ _ 0 _ _ rn_7
    have f1_rn_7 := frozen_of_row _ _ 1 _ _ rn_7
    have f2_rn_7 := frozen_of_row _ _ 2 _ _ rn_7
    simp at r0_rn_7 r1_rn_7 r2_rn_7
    clear rn_7
    have lRq_7 : w3.heap.size + 1 < w7.heap.size := by omega
    have Rq_7 := Lib.hid rq_7
    have r0_rq_7 := cell_of_row _ _ 0 _ _ _ rq_7
    have r1_rq_7 := cell_of_row _ _ 1 _ _ _ rq_7
    have r2_rq_7 := cell_of_row _ _ 2 _ _ _ rq_7
    have r3_rq_7 := cell_of_row _ _ 3 _ _ _ rq_7
    have r4_rq_7 := cell_of_row _ _ 4 _ _ _ rq_7
    have r5_rq_7 := cell_of_row _ _ 5 _ _ _ rq_7
    have f0_rq_7 := frozen_of_row _ _ 0 _ _ rq_7
    have f1_rq_7 := frozen_of_row _ _ 1 _ _ rq_7
    have f2_rq_7 := frozen_of_row _ _ 2 _ _ rq_7
    have f3_rq_7 := frozen_of_row _ _ 3 _ _ rq_7
    have f4_rq_7 := frozen_of_row _ _ 4 _ _ rq_7
    have f5_rq_7 := frozen_of_row _ _ 5 _ _ rq_7
    simp at r0_rq_7 r1_rq_7 r2_rq_7 r3_rq_7 r4_rq_7 r5_rq_7
    clear rq_7
    have lRf_7 : w6.heap.size < w7.heap.size := by omega
    have Rf_7 := Lib.hid rf_7
    have r0_rf_7 := cell_of_row _ _ 0 _ _ _ rf_7
    have r1_rf_7 := cell_of_row _ _ 1 _ _ _ rf_7
    have r2_rf_7 := cell_of_row _ _ 2 _ _ _ rf_7
    have r3_rf_7 := cell_of_row _ _ 3 _ _ _ rf_7
    have f0_rf_7 := frozen_of_row _ _ 0 _ _ rf_7
    have f1_rf_7 := frozen_of_row _ _ 1 _ _ rf_7
    have f2_rf_7 := frozen_of_row _ _ 2 _ _ rf_7
    have f3_rf_7 := frozen_of_row _ _ 3 _ _ rf_7
    simp at r0_rf_7 r1_rf_7 r2_rf_7 r3_rf_7
    clear rf_7
    go_wp2_with fail
    go_ret
    exact ⟨by first | rfl | (simp; done) | (simp; rfl) | (simp; omega), (by repeat (first | with_reducible exact Below.refl _ _ | with_reducible assumption | with_reducible refine Below.drew ?_ | with_reducible refine Below.alloc ?_ (by first | exact Nat.le_refl _ | omega | (simp; done) | (simp; omega)) _ | with_reducible refine Below.setCell ?_ (by first | exact Nat.le_refl _ | omega | (simp; done) | (simp; omega)) _ | (with_reducible refine ext_trans ?_ (by with_reducible assumption))))⟩
  · subst hp2 hp4
    have HS : Hid (∀ W v, RdEntry W v l → Calls Try.prog 43 #[.agg #[.int .i64 m, .int .i64 p2, v], .string raw] W fun e w' => ∃ v, e = .returned (.tuple #[.agg #[.int .i64 m, .int .i64 p2, v], .int .i64 2, .agg #[.int .i64 p1, .int .i64 p2, .int .i64 p3, .int .i64 6, .int .i64 p5, .string p6], .string ⟨#[]⟩]) ∧ OwnEntry w' W.heap.size v r ∧ Below W.heap.size W w') := hss
    have HI : Hid (∀ W v, RdEntry W v l → Calls Try.prog 42 #[.agg #[.int .i64 m, .int .i64 p2, v], .string raw] W fun e w' => ∃ v, e = .returned (.tuple #[.agg #[.int .i64 m, .int .i64 p2, v], .int .i64 2, .agg #[.int .i64 p1, .int .i64 p2, .int .i64 p3, .int .i64 6, .int .i64 p5, .string p6], .string ⟨#[]⟩]) ∧ OwnEntry w' W.heap.size v r ∧ Below W.heap.size W w') := hii
    have NR : Hid (r.length ≤ maxLen) := (by unfold maxLen; have := hrl; dsimp only at this; omega : r.length ≤ maxLen)
    have SS : Hid (∀ W v1 v2, RdEntry W v1 r → RdEntry W v2 r → Calls Try.prog 22 #[.agg #[.int .i64 m, .int .i64 p2, v1], .agg #[.int .i64 m, .int .i64 p2, v2]] W fun e w' => e = .returned (.bool true) ∧ Below W.heap.size W w') := fun W v1 v2 h1 h2 => by
      have hh := sSameLink_any ⟨m, p2, r⟩ ⟨m, p2, r⟩ v1 v2 NR.out NR.out W h1 h2
      rw [same_self] at hh
      exact hh
    have SI : Hid (∀ W v1 v2, RdEntry W v1 r → RdEntry W v2 r → Calls Try.prog 24 #[.agg #[.int .i64 m, .int .i64 p2, v1], .agg #[.int .i64 m, .int .i64 p2, v2]] W fun e w' => e = .returned (.bool true) ∧ Below W.heap.size W w') := fun W v1 v2 h1 h2 => by
      have hh := SameLink_any ⟨m, p2, r⟩ ⟨m, p2, r⟩ v1 v2 NR.out NR.out W h1 h2
      rw [same_self] at hh
      exact hh
    clear hss hii hrl
    have OM : Hid (∀ W v, RdEntry W v r → Calls Try.prog 27 #[.agg #[.int .i64 m, .int .i64 p2, v]] W fun e w' => e = .returned (.bool true) ∧ Below W.heap.size W w') := fun W v h => by
      have hh := LinkOk_any ⟨m, p2, r⟩ v NR.out W h
      rw [hok hx] at hh
      exact hh
    have HW : Hid (∀ W v, RdEntry W v r → Calls Try.prog 17 #[v, .int .i64 p1] W fun e w' => e = .returned (.tuple #[.int .i64 f2, .bool true]) ∧ Below W.heap.size W w') := fun W v h => by
      have hh := HwOf_any v r p1 NR.out W h
      rw [hhw] at hh
      exact hh
    clear hx hok hhw
    go_wp2_with fail
    refine (HI.out _ _ (rd_own (own_below Ol_1.out (by repeat (first | with_reducible exact Below.refl _ _ | with_reducible assumption | with_reducible refine Below.drew ?_ | with_reducible refine Below.alloc ?_ (by first | exact Nat.le_refl _ | omega | (simp; done) | (simp; omega)) _ | with_reducible refine Below.setCell ?_ (by first | exact Nat.le_refl _ | omega | (simp; done) | (simp; omega)) _ | (with_reducible refine ext_trans ?_ (by with_reducible assumption))))))).mono ?_
    rintro e w2 ⟨v2, rfl, hO2, hb2⟩
    have hz2 := hb2.size
    (try simp at hz2)
    have rl_2 : w2.heap[w1.heap.size]? = some (.cells #[.int .i64 m, .int .i64 p2, .slice A1 l.length c1] 37 (0, 0)) := (hb2.block _ (by first | (simp; done) | (simp; omega))).trans (by repeat (first | exact heap_new _ _ _ (by first | rfl | (simp; done) | (simp; omega)) | refine (Below.heap_alloc _ _ _ (by first | omega | (simp; done) | (simp; omega))).trans ?_))
    have Ol_2 := Lib.hid (own_below Ol_1.out (w' := w2) (by repeat (first | with_reducible exact Below.refl _ _ | with_reducible assumption | with_reducible refine Below.drew ?_ | with_reducible refine Below.alloc ?_ (by first | exact Nat.le_refl _ | omega | (simp; done) | (simp; omega)) _ | with_reducible refine Below.setCell ?_ (by first | exact Nat.le_refl _ | omega | (simp; done) | (simp; omega)) _ | (with_reducible refine ext_trans ?_ (by with_reducible assumption)))))
    have hw2 : Below w.heap.size w w2 := (by repeat (first | with_reducible exact Below.refl _ _ | with_reducible assumption | with_reducible refine Below.drew ?_ | with_reducible refine Below.alloc ?_ (by first | exact Nat.le_refl _ | omega | (simp; done) | (simp; omega)) _ | with_reducible refine Below.setCell ?_ (by first | exact Nat.le_refl _ | omega | (simp; done) | (simp; omega)) _ | (with_reducible refine ext_trans ?_ (by with_reducible assumption))))
    have lRl_2 : w1.heap.size < w2.heap.size := by omega
    have Rl_2 := Lib.hid rl_2
    have r0_rl_2 := cell_of_row _ _ 0 _ _ _ rl_2
    have r1_rl_2 := cell_of_row _ _ 1 _ _ _ rl_2
    have r2_rl_2 := cell_of_row _ _ 2 _ _ _ rl_2
    have f0_rl_2 := frozen_of_row _ _ 0 _ _ rl_2
    have f1_rl_2 := frozen_of_row _ _ 1 _ _ rl_2
    have f2_rl_2 := frozen_of_row _ _ 2 _ _ rl_2
    simp at r0_rl_2 r1_rl_2 r2_rl_2
    clear rl_2
    obtain ⟨A2, c2, rfl⟩ := hO2.form
    have Om_2 := Lib.hid hO2
    clear hO2
    go_wp2_with fail
    refine (HS.out _ _ (rd_own (own_below Ol_2.out (by repeat (first | with_reducible exact Below.refl _ _ | with_reducible assumption | with_reducible refine Below.drew ?_ | with_reducible refine Below.alloc ?_ (by first | exact Nat.le_refl _ | omega | (simp; done) | (simp; omega)) _ | with_reducible refine Below.setCell ?_ (by first | exact Nat.le_refl _ | omega | (simp; done) | (simp; omega)) _ | (with_reducible refine ext_trans ?_ (by with_reducible assumption))))))).mono ?_
    rintro e w3 ⟨v3, rfl, hO3, hb3⟩
    have hz3 := hb3.size
    (try simp at hz3)
    have rl_3 : w3.heap[w1.heap.size]? = some (.cells #[.int .i64 m, .int .i64 p2, .slice A1 l.length c1] 37 (0, 0)) := (hb3.block _ (by first | omega | (simp; done) | (simp; omega))).trans (by repeat (first | (with_reducible apply heap_setCell_same) | (with_reducible apply drew_row) | (with_reducible apply drewN_row) | (with_reducible exact Rl_2.out) | (with_reducible refine (heap_setCell_other _ _ _ _ (by first | omega | (simp; done) | (simp; omega))).trans ?_) | (with_reducible refine (Below.heap_alloc _ _ _ (by first | omega | (simp; done) | (simp; omega))).trans ?_)))
    have rm_3 : w3.heap[w2.heap.size]? = some (.cells #[.int .i64 m, .int .i64 p2, .slice A2 r.length c2] 37 (0, 0)) := (hb3.block _ (by first | (simp; done) | (simp; omega))).trans (by repeat (first | exact heap_new _ _ _ (by first | rfl | (simp; done) | (simp; omega)) | refine (Below.heap_alloc _ _ _ (by first | omega | (simp; done) | (simp; omega))).trans ?_))
    have rp_3 : w3.heap[w2.heap.size + 1]? = some (.cells #[.int .i64 p1, .int .i64 p2, .int .i64 p3, .int .i64 6, .int .i64 p5, .string p6] 58 (0, 0)) := (hb3.block _ (by first | (simp; done) | (simp; omega))).trans (by repeat (first | exact heap_new _ _ _ (by first | rfl | (simp; done) | (simp; omega)) | refine (Below.heap_alloc _ _ _ (by first | omega | (simp; done) | (simp; omega))).trans ?_))
    have Ol_3 := Lib.hid (own_below Ol_2.out (w' := w3) (by repeat (first | with_reducible exact Below.refl _ _ | with_reducible assumption | with_reducible refine Below.drew ?_ | with_reducible refine Below.alloc ?_ (by first | exact Nat.le_refl _ | omega | (simp; done) | (simp; omega)) _ | with_reducible refine Below.setCell ?_ (by first | exact Nat.le_refl _ | omega | (simp; done) | (simp; omega)) _ | (with_reducible refine ext_trans ?_ (by with_reducible assumption)))))
    have Om_3 := Lib.hid (OwnE.below Om_2.out (w' := w3) (by repeat (first | with_reducible exact Below.refl _ _ | with_reducible assumption | with_reducible refine Below.drew ?_ | with_reducible refine Below.alloc ?_ (by first | exact Nat.le_refl _ | omega | (simp; done) | (simp; omega)) _ | with_reducible refine Below.setCell ?_ (by first | exact Nat.le_refl _ | omega | (simp; done) | (simp; omega)) _ | (with_reducible refine ext_trans ?_ (by with_reducible assumption)))))
    have hw3 : Below w.heap.size w w3 := (by repeat (first | with_reducible exact Below.refl _ _ | with_reducible assumption | with_reducible refine Below.drew ?_ | with_reducible refine Below.alloc ?_ (by first | exact Nat.le_refl _ | omega | (simp; done) | (simp; omega)) _ | with_reducible refine Below.setCell ?_ (by first | exact Nat.le_refl _ | omega | (simp; done) | (simp; omega)) _ | (with_reducible refine ext_trans ?_ (by with_reducible assumption))))
    clear r0_rl_2 f0_rl_2 r1_rl_2 f1_rl_2 r2_rl_2 f2_rl_2
    have lRl_3 : w1.heap.size < w3.heap.size := by omega
    have Rl_3 := Lib.hid rl_3
    have r0_rl_3 := cell_of_row _ _ 0 _ _ _ rl_3
    have r1_rl_3 := cell_of_row _ _ 1 _ _ _ rl_3
    have r2_rl_3 := cell_of_row _ _ 2 _ _ _ rl_3
    have f0_rl_3 := frozen_of_row _ _ 0 _ _ rl_3
    have f1_rl_3 := frozen_of_row _ _ 1 _ _ rl_3
    have f2_rl_3 := frozen_of_row _ _ 2 _ _ rl_3
    simp at r0_rl_3 r1_rl_3 r2_rl_3
    clear rl_3
    have lRm_3 : w2.heap.size < w3.heap.size := by omega
    have Rm_3 := Lib.hid rm_3
    have r0_rm_3 := cell_of_row _ _ 0 _ _ _ rm_3
    have r1_rm_3 := cell_of_row _ _ 1 _ _ _ rm_3
    have r2_rm_3 := cell_of_row _ _ 2 _ _ _ rm_3
    have f0_rm_3 := frozen_of_row _ _ 0 _ _ rm_3
    have f1_rm_3 := frozen_of_row _ _ 1 _ _ rm_3
    have f2_rm_3 := frozen_of_row _ _ 2 _ _ rm_3
    simp at r0_rm_3 r1_rm_3 r2_rm_3
    clear rm_3
    have lRp_3 : w2.heap.size + 1 < w3.heap.size := by omega
    have Rp_3 := Lib.hid rp_3
    have r0_rp_3 := cell_of_row _ _ 0 _ _ _ rp_3
    have r1_rp_3 := cell_of_row _ _ 1 _ _ _ rp_3
    have r2_rp_3 := cell_of_row _ _ 2 _ _ _ rp_3
    have r3_rp_3 := cell_of_row _ _ 3 _ _ _ rp_3
    have r4_rp_3 := cell_of_row _ _ 4 _ _ _ rp_3
    have r5_rp_3 := cell_of_row _ _ 5 _ _ _ rp_3
    have f0_rp_3 := frozen_of_row _ _ 0 _ _ rp_3
    have f1_rp_3 := frozen_of_row _ _ 1 _ _ rp_3
    have f2_rp_3 := frozen_of_row _ _ 2 _ _ rp_3
    have f3_rp_3 := frozen_of_row _ _ 3 _ _ rp_3
    have f4_rp_3 := frozen_of_row _ _ 4 _ _ rp_3
    have f5_rp_3 := frozen_of_row _ _ 5 _ _ rp_3
    simp at r0_rp_3 r1_rp_3 r2_rp_3 r3_rp_3 r4_rp_3 r5_rp_3
    clear rp_3
    obtain ⟨A3, c3, rfl⟩ := hO3.form
    have On_3 := Lib.hid hO3
    clear hO3
    go_wp2_with fail
    refine (SS.out _ _ _ (Om_3.out.below (by repeat (first | with_reducible exact Below.refl _ _ | with_reducible assumption | with_reducible refine Below.drew ?_ | with_reducible refine Below.alloc ?_ (by first | exact Nat.le_refl _ | omega | (simp; done) | (simp; omega)) _ | with_reducible refine Below.setCell ?_ (by first | exact Nat.le_refl _ | omega | (simp; done) | (simp; omega)) _ | (with_reducible refine ext_trans ?_ (by with_reducible assumption))))).rd (On_3.out.below (by repeat (first | with_reducible exact Below.refl _ _ | with_reducible assumption | with_reducible refine Below.drew ?_ | with_reducible refine Below.alloc ?_ (by first | exact Nat.le_refl _ | omega | (simp; done) | (simp; omega)) _ | with_reducible refine Below.setCell ?_ (by first | exact Nat.le_refl _ | omega | (simp; done) | (simp; omega)) _ | (with_reducible refine ext_trans ?_ (by with_reducible assumption))))).rd).mono ?_
    rintro e w4 ⟨rfl, hb4⟩
    have hz4 := hb4.size
    (try simp at hz4)
    have rl_4 : w4.heap[w1.heap.size]? = some (.cells #[.int .i64 m, .int .i64 p2, .slice A1 l.length c1] 37 (0, 0)) := (hb4.block _ (by first | omega | (simp; done) | (simp; omega))).trans (by repeat (first | (with_reducible apply heap_setCell_same) | (with_reducible apply drew_row) | (with_reducible apply drewN_row) | (with_reducible exact Rl_3.out) | (with_reducible refine (heap_setCell_other _ _ _ _ (by first | omega | (simp; done) | (simp; omega))).trans ?_) | (with_reducible refine (Below.heap_alloc _ _ _ (by first | omega | (simp; done) | (simp; omega))).trans ?_)))
    have rm_4 : w4.heap[w2.heap.size]? = some (.cells #[.int .i64 m, .int .i64 p2, .slice A2 r.length c2] 37 (0, 0)) := (hb4.block _ (by first | omega | (simp; done) | (simp; omega))).trans (by repeat (first | (with_reducible apply heap_setCell_same) | (with_reducible apply drew_row) | (with_reducible apply drewN_row) | (with_reducible exact Rm_3.out) | (with_reducible refine (heap_setCell_other _ _ _ _ (by first | omega | (simp; done) | (simp; omega))).trans ?_) | (with_reducible refine (Below.heap_alloc _ _ _ (by first | omega | (simp; done) | (simp; omega))).trans ?_)))
    have rp_4 : w4.heap[w2.heap.size + 1]? = some (.cells #[.int .i64 p1, .int .i64 p2, .int .i64 p3, .int .i64 6, .int .i64 p5, .string p6] 58 (0, 0)) := (hb4.block _ (by first | omega | (simp; done) | (simp; omega))).trans (by repeat (first | (with_reducible apply heap_setCell_same) | (with_reducible apply drew_row) | (with_reducible apply drewN_row) | (with_reducible exact Rp_3.out) | (with_reducible refine (heap_setCell_other _ _ _ _ (by first | omega | (simp; done) | (simp; omega))).trans ?_) | (with_reducible refine (Below.heap_alloc _ _ _ (by first | omega | (simp; done) | (simp; omega))).trans ?_)))
    have rn_4 : w4.heap[w3.heap.size]? = some (.cells #[.int .i64 m, .int .i64 p2, .slice A3 r.length c3] 37 (0, 0)) := (hb4.block _ (by first | (simp; done) | (simp; omega))).trans (by repeat (first | exact heap_new _ _ _ (by first | rfl | (simp; done) | (simp; omega)) | refine (Below.heap_alloc _ _ _ (by first | omega | (simp; done) | (simp; omega))).trans ?_))
    have rq_4 : w4.heap[w3.heap.size + 1]? = some (.cells #[.int .i64 p1, .int .i64 p2, .int .i64 p3, .int .i64 6, .int .i64 p5, .string p6] 58 (0, 0)) := (hb4.block _ (by first | (simp; done) | (simp; omega))).trans (by repeat (first | exact heap_new _ _ _ (by first | rfl | (simp; done) | (simp; omega)) | refine (Below.heap_alloc _ _ _ (by first | omega | (simp; done) | (simp; omega))).trans ?_))
    have Ol_4 := Lib.hid (own_below Ol_3.out (w' := w4) (by repeat (first | with_reducible exact Below.refl _ _ | with_reducible assumption | with_reducible refine Below.drew ?_ | with_reducible refine Below.alloc ?_ (by first | exact Nat.le_refl _ | omega | (simp; done) | (simp; omega)) _ | with_reducible refine Below.setCell ?_ (by first | exact Nat.le_refl _ | omega | (simp; done) | (simp; omega)) _ | (with_reducible refine ext_trans ?_ (by with_reducible assumption)))))
    have Om_4 := Lib.hid (OwnE.below Om_3.out (w' := w4) (by repeat (first | with_reducible exact Below.refl _ _ | with_reducible assumption | with_reducible refine Below.drew ?_ | with_reducible refine Below.alloc ?_ (by first | exact Nat.le_refl _ | omega | (simp; done) | (simp; omega)) _ | with_reducible refine Below.setCell ?_ (by first | exact Nat.le_refl _ | omega | (simp; done) | (simp; omega)) _ | (with_reducible refine ext_trans ?_ (by with_reducible assumption)))))
    have On_4 := Lib.hid (OwnE.below On_3.out (w' := w4) (by repeat (first | with_reducible exact Below.refl _ _ | with_reducible assumption | with_reducible refine Below.drew ?_ | with_reducible refine Below.alloc ?_ (by first | exact Nat.le_refl _ | omega | (simp; done) | (simp; omega)) _ | with_reducible refine Below.setCell ?_ (by first | exact Nat.le_refl _ | omega | (simp; done) | (simp; omega)) _ | (with_reducible refine ext_trans ?_ (by with_reducible assumption)))))
    have hw4 : Below w.heap.size w w4 := (by repeat (first | with_reducible exact Below.refl _ _ | with_reducible assumption | with_reducible refine Below.drew ?_ | with_reducible refine Below.alloc ?_ (by first | exact Nat.le_refl _ | omega | (simp; done) | (simp; omega)) _ | with_reducible refine Below.setCell ?_ (by first | exact Nat.le_refl _ | omega | (simp; done) | (simp; omega)) _ | (with_reducible refine ext_trans ?_ (by with_reducible assumption))))
    clear r0_rl_3 f0_rl_3 r1_rl_3 f1_rl_3 r2_rl_3 f2_rl_3
    clear r0_rm_3 f0_rm_3 r1_rm_3 f1_rm_3 r2_rm_3 f2_rm_3
    clear r0_rp_3 f0_rp_3 r1_rp_3 f1_rp_3 r2_rp_3 f2_rp_3 r3_rp_3 f3_rp_3 r4_rp_3 f4_rp_3 r5_rp_3 f5_rp_3
    have lRl_4 : w1.heap.size < w4.heap.size := by omega
    have Rl_4 := Lib.hid rl_4
    have r0_rl_4 := cell_of_row _ _ 0 _ _ _ rl_4
    have r1_rl_4 := cell_of_row _ _ 1 _ _ _ rl_4
    have r2_rl_4 := cell_of_row _ _ 2 _ _ _ rl_4
    have f0_rl_4 := frozen_of_row _ _ 0 _ _ rl_4
    have f1_rl_4 := frozen_of_row _ _ 1 _ _ rl_4
    have f2_rl_4 := frozen_of_row _ _ 2 _ _ rl_4
    simp at r0_rl_4 r1_rl_4 r2_rl_4
    clear rl_4
    have lRm_4 : w2.heap.size < w4.heap.size := by omega
    have Rm_4 := Lib.hid rm_4
    have r0_rm_4 := cell_of_row _ _ 0 _ _ _ rm_4
    have r1_rm_4 := cell_of_row _ _ 1 _ _ _ rm_4
    have r2_rm_4 := cell_of_row _ _ 2 _ _ _ rm_4
    have f0_rm_4 := frozen_of_row _ _ 0 _ _ rm_4
    have f1_rm_4 := frozen_of_row _ _ 1 _ _ rm_4
    have f2_rm_4 := frozen_of_row _ _ 2 _ _ rm_4
    simp at r0_rm_4 r1_rm_4 r2_rm_4
    clear rm_4
    have lRp_4 : w2.heap.size + 1 < w4.heap.size := by omega
    have Rp_4 := Lib.hid rp_4
    have r0_rp_4 := cell_of_row _ _ 0 _ _ _ rp_4
    have r1_rp_4 := cell_of_row _ _ 1 _ _ _ rp_4
    have r2_rp_4 := cell_of_row _ _ 2 _ _ _ rp_4
    have r3_rp_4 := cell_of_row _ _ 3 _ _ _ rp_4
    have r4_rp_4 := cell_of_row _ _ 4 _ _ _ rp_4
    have r5_rp_4 := cell_of_row _ _ 5 _ _ _ rp_4
    have f0_rp_4 := frozen_of_row _ _ 0 _ _ rp_4
    have f1_rp_4 := frozen_of_row _ _ 1 _ _ rp_4
    have f2_rp_4 := frozen_of_row _ _ 2 _ _ rp_4
    have f3_rp_4 := frozen_of_row _ _ 3 _ _ rp_4
    have f4_rp_4 := frozen_of_row _ _ 4 _ _ rp_4
    have f5_rp_4 := frozen_of_row _ _ 5 _ _ rp_4
    simp at r0_rp_4 r1_rp_4 r2_rp_4 r3_rp_4 r4_rp_4 r5_rp_4
    clear rp_4
    have lRn_4 : w3.heap.size < w4.heap.size := by omega
    have Rn_4 := Lib.hid rn_4
    have r0_rn_4 := cell_of_row _ _ 0 _ _ _ rn_4
    have r1_rn_4 := cell_of_row _ _ 1 _ _ _ rn_4
    have r2_rn_4 := cell_of_row _ _ 2 _ _ _ rn_4
    have f0_rn_4 := frozen_of_row _ _ 0 _ _ rn_4
    have f1_rn_4 := frozen_of_row _ _ 1 _ _ rn_4
    have f2_rn_4 := frozen_of_row _ _ 2 _ _ rn_4
    simp at r0_rn_4 r1_rn_4 r2_rn_4
    clear rn_4
    have lRq_4 : w3.heap.size + 1 < w4.heap.size := by omega
    have Rq_4 := Lib.hid rq_4
    have r0_rq_4 := cell_of_row _ _ 0 _ _ _ rq_4
    have r1_rq_4 := cell_of_row _ _ 1 _ _ _ rq_4
    have r2_rq_4 := cell_of_row _ _ 2 _ _ _ rq_4
    have r3_rq_4 := cell_of_row _ _ 3 _ _ _ rq_4
    have r4_rq_4 := cell_of_row _ _ 4 _ _ _ rq_4
    have r5_rq_4 := cell_of_row _ _ 5 _ _ _ rq_4
    have f0_rq_4 := frozen_of_row _ _ 0 _ _ rq_4
    have f1_rq_4 := frozen_of_row _ _ 1 _ _ rq_4
    have f2_rq_4 := frozen_of_row _ _ 2 _ _ rq_4
    have f3_rq_4 := frozen_of_row _ _ 3 _ _ rq_4
    have f4_rq_4 := frozen_of_row _ _ 4 _ _ rq_4
    have f5_rq_4 := frozen_of_row _ _ 5 _ _ rq_4
    simp at r0_rq_4 r1_rq_4 r2_rq_4 r3_rq_4 r4_rq_4 r5_rq_4
    clear rq_4
    go_wp2_with fail
    refine (SI.out _ _ _ Om_4.out.rd On_4.out.rd).mono ?_
    rintro e w5 ⟨rfl, hb5⟩
    have hz5 := hb5.size
    (try simp at hz5)
    have rl_5 : w5.heap[w1.heap.size]? = some (.cells #[.int .i64 m, .int .i64 p2, .slice A1 l.length c1] 37 (0, 0)) := (hb5.block _ (by first | omega | (simp; done) | (simp; omega))).trans (by repeat (first | (with_reducible apply heap_setCell_same) | (with_reducible apply drew_row) | (with_reducible apply drewN_row) | (with_reducible exact Rl_4.out) | (with_reducible refine (heap_setCell_other _ _ _ _ (by first | omega | (simp; done) | (simp; omega))).trans ?_) | (with_reducible refine (Below.heap_alloc _ _ _ (by first | omega | (simp; done) | (simp; omega))).trans ?_)))
    have rm_5 : w5.heap[w2.heap.size]? = some (.cells #[.int .i64 m, .int .i64 p2, .slice A2 r.length c2] 37 (0, 0)) := (hb5.block _ (by first | omega | (simp; done) | (simp; omega))).trans (by repeat (first | (with_reducible apply heap_setCell_same) | (with_reducible apply drew_row) | (with_reducible apply drewN_row) | (with_reducible exact Rm_4.out) | (with_reducible refine (heap_setCell_other _ _ _ _ (by first | omega | (simp; done) | (simp; omega))).trans ?_) | (with_reducible refine (Below.heap_alloc _ _ _ (by first | omega | (simp; done) | (simp; omega))).trans ?_)))
    have rp_5 : w5.heap[w2.heap.size + 1]? = some (.cells #[.int .i64 p1, .int .i64 p2, .int .i64 p3, .int .i64 6, .int .i64 p5, .string p6] 58 (0, 0)) := (hb5.block _ (by first | omega | (simp; done) | (simp; omega))).trans (by repeat (first | (with_reducible apply heap_setCell_same) | (with_reducible apply drew_row) | (with_reducible apply drewN_row) | (with_reducible exact Rp_4.out) | (with_reducible refine (heap_setCell_other _ _ _ _ (by first | omega | (simp; done) | (simp; omega))).trans ?_) | (with_reducible refine (Below.heap_alloc _ _ _ (by first | omega | (simp; done) | (simp; omega))).trans ?_)))
    have rn_5 : w5.heap[w3.heap.size]? = some (.cells #[.int .i64 m, .int .i64 p2, .slice A3 r.length c3] 37 (0, 0)) := (hb5.block _ (by first | omega | (simp; done) | (simp; omega))).trans (by repeat (first | (with_reducible apply heap_setCell_same) | (with_reducible apply drew_row) | (with_reducible apply drewN_row) | (with_reducible exact Rn_4.out) | (with_reducible refine (heap_setCell_other _ _ _ _ (by first | omega | (simp; done) | (simp; omega))).trans ?_) | (with_reducible refine (Below.heap_alloc _ _ _ (by first | omega | (simp; done) | (simp; omega))).trans ?_)))
    have rq_5 : w5.heap[w3.heap.size + 1]? = some (.cells #[.int .i64 p1, .int .i64 p2, .int .i64 p3, .int .i64 6, .int .i64 p5, .string p6] 58 (0, 0)) := (hb5.block _ (by first | omega | (simp; done) | (simp; omega))).trans (by repeat (first | (with_reducible apply heap_setCell_same) | (with_reducible apply drew_row) | (with_reducible apply drewN_row) | (with_reducible exact Rq_4.out) | (with_reducible refine (heap_setCell_other _ _ _ _ (by first | omega | (simp; done) | (simp; omega))).trans ?_) | (with_reducible refine (Below.heap_alloc _ _ _ (by first | omega | (simp; done) | (simp; omega))).trans ?_)))
    have Ol_5 := Lib.hid (own_below Ol_4.out (w' := w5) (by repeat (first | with_reducible exact Below.refl _ _ | with_reducible assumption | with_reducible refine Below.drew ?_ | with_reducible refine Below.alloc ?_ (by first | exact Nat.le_refl _ | omega | (simp; done) | (simp; omega)) _ | with_reducible refine Below.setCell ?_ (by first | exact Nat.le_refl _ | omega | (simp; done) | (simp; omega)) _ | (with_reducible refine ext_trans ?_ (by with_reducible assumption)))))
    have Om_5 := Lib.hid (OwnE.below Om_4.out (w' := w5) (by repeat (first | with_reducible exact Below.refl _ _ | with_reducible assumption | with_reducible refine Below.drew ?_ | with_reducible refine Below.alloc ?_ (by first | exact Nat.le_refl _ | omega | (simp; done) | (simp; omega)) _ | with_reducible refine Below.setCell ?_ (by first | exact Nat.le_refl _ | omega | (simp; done) | (simp; omega)) _ | (with_reducible refine ext_trans ?_ (by with_reducible assumption)))))
    have On_5 := Lib.hid (OwnE.below On_4.out (w' := w5) (by repeat (first | with_reducible exact Below.refl _ _ | with_reducible assumption | with_reducible refine Below.drew ?_ | with_reducible refine Below.alloc ?_ (by first | exact Nat.le_refl _ | omega | (simp; done) | (simp; omega)) _ | with_reducible refine Below.setCell ?_ (by first | exact Nat.le_refl _ | omega | (simp; done) | (simp; omega)) _ | (with_reducible refine ext_trans ?_ (by with_reducible assumption)))))
    have hw5 : Below w.heap.size w w5 := (by repeat (first | with_reducible exact Below.refl _ _ | with_reducible assumption | with_reducible refine Below.drew ?_ | with_reducible refine Below.alloc ?_ (by first | exact Nat.le_refl _ | omega | (simp; done) | (simp; omega)) _ | with_reducible refine Below.setCell ?_ (by first | exact Nat.le_refl _ | omega | (simp; done) | (simp; omega)) _ | (with_reducible refine ext_trans ?_ (by with_reducible assumption))))
    clear r0_rl_4 f0_rl_4 r1_rl_4 f1_rl_4 r2_rl_4 f2_rl_4
    clear r0_rm_4 f0_rm_4 r1_rm_4 f1_rm_4 r2_rm_4 f2_rm_4
    clear r0_rp_4 f0_rp_4 r1_rp_4 f1_rp_4 r2_rp_4 f2_rp_4 r3_rp_4 f3_rp_4 r4_rp_4 f4_rp_4 r5_rp_4 f5_rp_4
    clear r0_rn_4 f0_rn_4 r1_rn_4 f1_rn_4 r2_rn_4 f2_rn_4
    clear r0_rq_4 f0_rq_4 r1_rq_4 f1_rq_4 r2_rq_4 f2_rq_4 r3_rq_4 f3_rq_4 r4_rq_4 f4_rq_4 r5_rq_4 f5_rq_4
    have lRl_5 : w1.heap.size < w5.heap.size := by omega
    have Rl_5 := Lib.hid rl_5
    have r0_rl_5 := cell_of_row _ _ 0 _ _ _ rl_5
    have r1_rl_5 := cell_of_row _ _ 1 _ _ _ rl_5
    have r2_rl_5 := cell_of_row _ _ 2 _ _ _ rl_5
    have f0_rl_5 := frozen_of_row _ _ 0 _ _ rl_5
    have f1_rl_5 := frozen_of_row _ _ 1 _ _ rl_5
    have f2_rl_5 := frozen_of_row _ _ 2 _ _ rl_5
    simp at r0_rl_5 r1_rl_5 r2_rl_5
    clear rl_5
    have lRm_5 : w2.heap.size < w5.heap.size := by omega
    have Rm_5 := Lib.hid rm_5
    have r0_rm_5 := cell_of_row _ _ 0 _ _ _ rm_5
    have r1_rm_5 := cell_of_row _ _ 1 _ _ _ rm_5
    have r2_rm_5 := cell_of_row _ _ 2 _ _ _ rm_5
    have f0_rm_5 := frozen_of_row _ _ 0 _ _ rm_5
    have f1_rm_5 := frozen_of_row _ _ 1 _ _ rm_5
    have f2_rm_5 := frozen_of_row _ _ 2 _ _ rm_5
    simp at r0_rm_5 r1_rm_5 r2_rm_5
    clear rm_5
    have lRp_5 : w2.heap.size + 1 < w5.heap.size := by omega
    have Rp_5 := Lib.hid rp_5
    have r0_rp_5 := cell_of_row _ _ 0 _ _ _ rp_5
    have r1_rp_5 := cell_of_row _ _ 1 _ _ _ rp_5
    have r2_rp_5 := cell_of_row _ _ 2 _ _ _ rp_5
    have r3_rp_5 := cell_of_row _ _ 3 _ _ _ rp_5
    have r4_rp_5 := cell_of_row _ _ 4 _ _ _ rp_5
    have r5_rp_5 := cell_of_row _ _ 5 _ _ _ rp_5
    have f0_rp_5 := frozen_of_row _ _ 0 _ _ rp_5
    have f1_rp_5 := frozen_of_row _ _ 1 _ _ rp_5
    have f2_rp_5 := frozen_of_row _ _ 2 _ _ rp_5
    have f3_rp_5 := frozen_of_row _ _ 3 _ _ rp_5
    have f4_rp_5 := frozen_of_row _ _ 4 _ _ rp_5
    have f5_rp_5 := frozen_of_row _ _ 5 _ _ rp_5
    simp at r0_rp_5 r1_rp_5 r2_rp_5 r3_rp_5 r4_rp_5 r5_rp_5
    clear rp_5
    have lRn_5 : w3.heap.size < w5.heap.size := by omega
    have Rn_5 := Lib.hid rn_5
    have r0_rn_5 := cell_of_row _ _ 0 _ _ _ rn_5
    have r1_rn_5 := cell_of_row _ _ 1 _ _ _ rn_5
    have r2_rn_5 := cell_of_row _ _ 2 _ _ _ rn_5
    have f0_rn_5 := frozen_of_row _ _ 0 _ _ rn_5
    have f1_rn_5 := frozen_of_row _ _ 1 _ _ rn_5
    have f2_rn_5 := frozen_of_row _ _ 2 _ _ rn_5
    simp at r0_rn_5 r1_rn_5 r2_rn_5
    clear rn_5
    have lRq_5 : w3.heap.size + 1 < w5.heap.size := by omega
    have Rq_5 := Lib.hid rq_5
    have r0_rq_5 := cell_of_row _ _ 0 _ _ _ rq_5
    have r1_rq_5 := cell_of_row _ _ 1 _ _ _ rq_5
    have r2_rq_5 := cell_of_row _ _ 2 _ _ _ rq_5
    have r3_rq_5 := cell_of_row _ _ 3 _ _ _ rq_5
    have r4_rq_5 := cell_of_row _ _ 4 _ _ _ rq_5
    have r5_rq_5 := cell_of_row _ _ 5 _ _ _ rq_5
    have f0_rq_5 := frozen_of_row _ _ 0 _ _ rq_5
    have f1_rq_5 := frozen_of_row _ _ 1 _ _ rq_5
    have f2_rq_5 := frozen_of_row _ _ 2 _ _ rq_5
    have f3_rq_5 := frozen_of_row _ _ 3 _ _ rq_5
    have f4_rq_5 := frozen_of_row _ _ 4 _ _ rq_5
    have f5_rq_5 := frozen_of_row _ _ 5 _ _ rq_5
    simp at r0_rq_5 r1_rq_5 r2_rq_5 r3_rq_5 r4_rq_5 r5_rq_5
    clear rq_5
    go_wp2_with fail
    refine (HW.out _ _ Om_5.out.rd).mono ?_
    rintro e w6 ⟨rfl, hb6⟩
    have hz6 := hb6.size
    (try simp at hz6)
    have rl_6 : w6.heap[w1.heap.size]? = some (.cells #[.int .i64 m, .int .i64 p2, .slice A1 l.length c1] 37 (0, 0)) := (hb6.block _ (by first | omega | (simp; done) | (simp; omega))).trans (by repeat (first | (with_reducible apply heap_setCell_same) | (with_reducible apply drew_row) | (with_reducible apply drewN_row) | (with_reducible exact Rl_5.out) | (with_reducible refine (heap_setCell_other _ _ _ _ (by first | omega | (simp; done) | (simp; omega))).trans ?_) | (with_reducible refine (Below.heap_alloc _ _ _ (by first | omega | (simp; done) | (simp; omega))).trans ?_)))
    have rm_6 : w6.heap[w2.heap.size]? = some (.cells #[.int .i64 m, .int .i64 p2, .slice A2 r.length c2] 37 (0, 0)) := (hb6.block _ (by first | omega | (simp; done) | (simp; omega))).trans (by repeat (first | (with_reducible apply heap_setCell_same) | (with_reducible apply drew_row) | (with_reducible apply drewN_row) | (with_reducible exact Rm_5.out) | (with_reducible refine (heap_setCell_other _ _ _ _ (by first | omega | (simp; done) | (simp; omega))).trans ?_) | (with_reducible refine (Below.heap_alloc _ _ _ (by first | omega | (simp; done) | (simp; omega))).trans ?_)))
    have rp_6 : w6.heap[w2.heap.size + 1]? = some (.cells #[.int .i64 p1, .int .i64 p2, .int .i64 p3, .int .i64 6, .int .i64 p5, .string p6] 58 (0, 0)) := (hb6.block _ (by first | omega | (simp; done) | (simp; omega))).trans (by repeat (first | (with_reducible apply heap_setCell_same) | (with_reducible apply drew_row) | (with_reducible apply drewN_row) | (with_reducible exact Rp_5.out) | (with_reducible refine (heap_setCell_other _ _ _ _ (by first | omega | (simp; done) | (simp; omega))).trans ?_) | (with_reducible refine (Below.heap_alloc _ _ _ (by first | omega | (simp; done) | (simp; omega))).trans ?_)))
    have rn_6 : w6.heap[w3.heap.size]? = some (.cells #[.int .i64 m, .int .i64 p2, .slice A3 r.length c3] 37 (0, 0)) := (hb6.block _ (by first | omega | (simp; done) | (simp; omega))).trans (by repeat (first | (with_reducible apply heap_setCell_same) | (with_reducible apply drew_row) | (with_reducible apply drewN_row) | (with_reducible exact Rn_5.out) | (with_reducible refine (heap_setCell_other _ _ _ _ (by first | omega | (simp; done) | (simp; omega))).trans ?_) | (with_reducible refine (Below.heap_alloc _ _ _ (by first | omega | (simp; done) | (simp; omega))).trans ?_)))
    have rq_6 : w6.heap[w3.heap.size + 1]? = some (.cells #[.int .i64 p1, .int .i64 p2, .int .i64 p3, .int .i64 6, .int .i64 p5, .string p6] 58 (0, 0)) := (hb6.block _ (by first | omega | (simp; done) | (simp; omega))).trans (by repeat (first | (with_reducible apply heap_setCell_same) | (with_reducible apply drew_row) | (with_reducible apply drewN_row) | (with_reducible exact Rq_5.out) | (with_reducible refine (heap_setCell_other _ _ _ _ (by first | omega | (simp; done) | (simp; omega))).trans ?_) | (with_reducible refine (Below.heap_alloc _ _ _ (by first | omega | (simp; done) | (simp; omega))).trans ?_)))
    have Ol_6 := Lib.hid (own_below Ol_5.out (w' := w6) (by repeat (first | with_reducible exact Below.refl _ _ | with_reducible assumption | with_reducible refine Below.drew ?_ | with_reducible refine Below.alloc ?_ (by first | exact Nat.le_refl _ | omega | (simp; done) | (simp; omega)) _ | with_reducible refine Below.setCell ?_ (by first | exact Nat.le_refl _ | omega | (simp; done) | (simp; omega)) _ | (with_reducible refine ext_trans ?_ (by with_reducible assumption)))))
    have Om_6 := Lib.hid (OwnE.below Om_5.out (w' := w6) (by repeat (first | with_reducible exact Below.refl _ _ | with_reducible assumption | with_reducible refine Below.drew ?_ | with_reducible refine Below.alloc ?_ (by first | exact Nat.le_refl _ | omega | (simp; done) | (simp; omega)) _ | with_reducible refine Below.setCell ?_ (by first | exact Nat.le_refl _ | omega | (simp; done) | (simp; omega)) _ | (with_reducible refine ext_trans ?_ (by with_reducible assumption)))))
    have On_6 := Lib.hid (OwnE.below On_5.out (w' := w6) (by repeat (first | with_reducible exact Below.refl _ _ | with_reducible assumption | with_reducible refine Below.drew ?_ | with_reducible refine Below.alloc ?_ (by first | exact Nat.le_refl _ | omega | (simp; done) | (simp; omega)) _ | with_reducible refine Below.setCell ?_ (by first | exact Nat.le_refl _ | omega | (simp; done) | (simp; omega)) _ | (with_reducible refine ext_trans ?_ (by with_reducible assumption)))))
    have hw6 : Below w.heap.size w w6 := (by repeat (first | with_reducible exact Below.refl _ _ | with_reducible assumption | with_reducible refine Below.drew ?_ | with_reducible refine Below.alloc ?_ (by first | exact Nat.le_refl _ | omega | (simp; done) | (simp; omega)) _ | with_reducible refine Below.setCell ?_ (by first | exact Nat.le_refl _ | omega | (simp; done) | (simp; omega)) _ | (with_reducible refine ext_trans ?_ (by with_reducible assumption))))
    clear r0_rl_5 f0_rl_5 r1_rl_5 f1_rl_5 r2_rl_5 f2_rl_5
    clear r0_rm_5 f0_rm_5 r1_rm_5 f1_rm_5 r2_rm_5 f2_rm_5
    clear r0_rp_5 f0_rp_5 r1_rp_5 f1_rp_5 r2_rp_5 f2_rp_5 r3_rp_5 f3_rp_5 r4_rp_5 f4_rp_5 r5_rp_5 f5_rp_5
    clear r0_rn_5 f0_rn_5 r1_rn_5 f1_rn_5 r2_rn_5 f2_rn_5
    clear r0_rq_5 f0_rq_5 r1_rq_5 f1_rq_5 r2_rq_5 f2_rq_5 r3_rq_5 f3_rq_5 r4_rq_5 f4_rq_5 r5_rq_5 f5_rq_5
    have lRl_6 : w1.heap.size < w6.heap.size := by omega
    have Rl_6 := Lib.hid rl_6
    have r0_rl_6 := cell_of_row _ _ 0 _ _ _ rl_6
    have r1_rl_6 := cell_of_row _ _ 1 _ _ _ rl_6
    have r2_rl_6 := cell_of_row _ _ 2 _ _ _ rl_6
    have f0_rl_6 := frozen_of_row _ _ 0 _ _ rl_6
    have f1_rl_6 := frozen_of_row _ _ 1 _ _ rl_6
    have f2_rl_6 := frozen_of_row _ _ 2 _ _ rl_6
    simp at r0_rl_6 r1_rl_6 r2_rl_6
    clear rl_6
    have lRm_6 : w2.heap.size < w6.heap.size := by omega
    have Rm_6 := Lib.hid rm_6
    have r0_rm_6 := cell_of_row _ _ 0 _ _ _ rm_6
    have r1_rm_6 := cell_of_row _ _ 1 _ _ _ rm_6
    have r2_rm_6 := cell_of_row _ _ 2 _ _ _ rm_6
    have f0_rm_6 := frozen_of_row _ _ 0 _ _ rm_6
    have f1_rm_6 := frozen_of_row _ _ 1 _ _ rm_6
    have f2_rm_6 := frozen_of_row _ _ 2 _ _ rm_6
    simp at r0_rm_6 r1_rm_6 r2_rm_6
    clear rm_6
    have lRp_6 : w2.heap.size + 1 < w6.heap.size := by omega
    have Rp_6 := Lib.hid rp_6
    have r0_rp_6 := cell_of_row _ _ 0 _ _ _ rp_6
    have r1_rp_6 := cell_of_row _ _ 1 _ _ _ rp_6
    have r2_rp_6 := cell_of_row _ _ 2 _ _ _ rp_6
    have r3_rp_6 := cell_of_row _ _ 3 _ _ _ rp_6
    have r4_rp_6 := cell_of_row _ _ 4 _ _ _ rp_6
    have r5_rp_6 := cell_of_row _ _ 5 _ _ _ rp_6
    have f0_rp_6 := frozen_of_row _ _ 0 _ _ rp_6
    have f1_rp_6 := frozen_of_row _ _ 1 _ _ rp_6
    have f2_rp_6 := frozen_of_row _ _ 2 _ _ rp_6
    have f3_rp_6 := frozen_of_row _ _ 3 _ _ rp_6
    have f4_rp_6 := frozen_of_row _ _ 4 _ _ rp_6
    have f5_rp_6 := frozen_of_row _ _ 5 _ _ rp_6
    simp at r0_rp_6 r1_rp_6 r2_rp_6 r3_rp_6 r4_rp_6 r5_rp_6
    clear rp_6
    have lRn_6 : w3.heap.size < w6.heap.size := by omega
    have Rn_6 := Lib.hid rn_6
    have r0_rn_6 := cell_of_row _ _ 0 _ _ _ rn_6
    have r1_rn_6 := cell_of_row _ _ 1 _ _ _ rn_6
    have r2_rn_6 := cell_of_row _ _ 2 _ _ _ rn_6
    have f0_rn_6 := frozen_of_row _ _ 0 _ _ rn_6
    have f1_rn_6 := frozen_of_row _ _ 1 _ _ rn_6
    have f2_rn_6 := frozen_of_row _ _ 2 _ _ rn_6
    simp at r0_rn_6 r1_rn_6 r2_rn_6
    clear rn_6
    have lRq_6 : w3.heap.size + 1 < w6.heap.size := by omega
    have Rq_6 := Lib.hid rq_6
    have r0_rq_6 := cell_of_row _ _ 0 _ _ _ rq_6
    have r1_rq_6 := cell_of_row _ _ 1 _ _ _ rq_6
    have r2_rq_6 := cell_of_row _ _ 2 _ _ _ rq_6
    have r3_rq_6 := cell_of_row _ _ 3 _ _ _ rq_6
    have r4_rq_6 := cell_of_row _ _ 4 _ _ _ rq_6
    have r5_rq_6 := cell_of_row _ _ 5 _ _ _ rq_6
    have f0_rq_6 := frozen_of_row _ _ 0 _ _ rq_6
    have f1_rq_6 := frozen_of_row _ _ 1 _ _ rq_6
    have f2_rq_6 := frozen_of_row _ _ 2 _ _ rq_6
    have f3_rq_6 := frozen_of_row _ _ 3 _ _ rq_6
    have f4_rq_6 := frozen_of_row _ _ 4 _ _ rq_6
    have f5_rq_6 := frozen_of_row _ _ 5 _ _ rq_6
    simp at r0_rq_6 r1_rq_6 r2_rq_6 r3_rq_6 r4_rq_6 r5_rq_6
    clear rq_6
    go_wp2_with fail
    refine (OM.out _ _ Om_6.out.rd).mono ?_
    rintro e w7 ⟨rfl, hb7⟩
    have hz7 := hb7.size
    (try simp at hz7)
    have rl_7 : w7.heap[w1.heap.size]? = some (.cells #[.int .i64 m, .int .i64 p2, .slice A1 l.length c1] 37 (0, 0)) := (hb7.block _ (by first | omega | (simp; done) | (simp; omega))).trans (by repeat (first | (with_reducible apply heap_setCell_same) | (with_reducible apply drew_row) | (with_reducible apply drewN_row) | (with_reducible exact Rl_6.out) | (with_reducible refine (heap_setCell_other _ _ _ _ (by first | omega | (simp; done) | (simp; omega))).trans ?_) | (with_reducible refine (Below.heap_alloc _ _ _ (by first | omega | (simp; done) | (simp; omega))).trans ?_)))
    have rm_7 : w7.heap[w2.heap.size]? = some (.cells #[.int .i64 m, .int .i64 p2, .slice A2 r.length c2] 37 (0, 0)) := (hb7.block _ (by first | omega | (simp; done) | (simp; omega))).trans (by repeat (first | (with_reducible apply heap_setCell_same) | (with_reducible apply drew_row) | (with_reducible apply drewN_row) | (with_reducible exact Rm_6.out) | (with_reducible refine (heap_setCell_other _ _ _ _ (by first | omega | (simp; done) | (simp; omega))).trans ?_) | (with_reducible refine (Below.heap_alloc _ _ _ (by first | omega | (simp; done) | (simp; omega))).trans ?_)))
    have rp_7 : w7.heap[w2.heap.size + 1]? = some (.cells #[.int .i64 p1, .int .i64 p2, .int .i64 p3, .int .i64 6, .int .i64 p5, .string p6] 58 (0, 0)) := (hb7.block _ (by first | omega | (simp; done) | (simp; omega))).trans (by repeat (first | (with_reducible apply heap_setCell_same) | (with_reducible apply drew_row) | (with_reducible apply drewN_row) | (with_reducible exact Rp_6.out) | (with_reducible refine (heap_setCell_other _ _ _ _ (by first | omega | (simp; done) | (simp; omega))).trans ?_) | (with_reducible refine (Below.heap_alloc _ _ _ (by first | omega | (simp; done) | (simp; omega))).trans ?_)))
    have rn_7 : w7.heap[w3.heap.size]? = some (.cells #[.int .i64 m, .int .i64 p2, .slice A3 r.length c3] 37 (0, 0)) := (hb7.block _ (by first | omega | (simp; done) | (simp; omega))).trans (by repeat (first | (with_reducible apply heap_setCell_same) | (with_reducible apply drew_row) | (with_reducible apply drewN_row) | (with_reducible exact Rn_6.out) | (with_reducible refine (heap_setCell_other _ _ _ _ (by first | omega | (simp; done) | (simp; omega))).trans ?_) | (with_reducible refine (Below.heap_alloc _ _ _ (by first | omega | (simp; done) | (simp; omega))).trans ?_)))
    have rq_7 : w7.heap[w3.heap.size + 1]? = some (.cells #[.int .i64 p1, .int .i64 p2, .int .i64 p3, .int .i64 6, .int .i64 p5, .string p6] 58 (0, 0)) := (hb7.block _ (by first | omega | (simp; done) | (simp; omega))).trans (by repeat (first | (with_reducible apply heap_setCell_same) | (with_reducible apply drew_row) | (with_reducible apply drewN_row) | (with_reducible exact Rq_6.out) | (with_reducible refine (heap_setCell_other _ _ _ _ (by first | omega | (simp; done) | (simp; omega))).trans ?_) | (with_reducible refine (Below.heap_alloc _ _ _ (by first | omega | (simp; done) | (simp; omega))).trans ?_)))
    have Ol_7 := Lib.hid (own_below Ol_6.out (w' := w7) (by repeat (first | with_reducible exact Below.refl _ _ | with_reducible assumption | with_reducible refine Below.drew ?_ | with_reducible refine Below.alloc ?_ (by first | exact Nat.le_refl _ | omega | (simp; done) | (simp; omega)) _ | with_reducible refine Below.setCell ?_ (by first | exact Nat.le_refl _ | omega | (simp; done) | (simp; omega)) _ | (with_reducible refine ext_trans ?_ (by with_reducible assumption)))))
    have Om_7 := Lib.hid (OwnE.below Om_6.out (w' := w7) (by repeat (first | with_reducible exact Below.refl _ _ | with_reducible assumption | with_reducible refine Below.drew ?_ | with_reducible refine Below.alloc ?_ (by first | exact Nat.le_refl _ | omega | (simp; done) | (simp; omega)) _ | with_reducible refine Below.setCell ?_ (by first | exact Nat.le_refl _ | omega | (simp; done) | (simp; omega)) _ | (with_reducible refine ext_trans ?_ (by with_reducible assumption)))))
    have On_7 := Lib.hid (OwnE.below On_6.out (w' := w7) (by repeat (first | with_reducible exact Below.refl _ _ | with_reducible assumption | with_reducible refine Below.drew ?_ | with_reducible refine Below.alloc ?_ (by first | exact Nat.le_refl _ | omega | (simp; done) | (simp; omega)) _ | with_reducible refine Below.setCell ?_ (by first | exact Nat.le_refl _ | omega | (simp; done) | (simp; omega)) _ | (with_reducible refine ext_trans ?_ (by with_reducible assumption)))))
    have hw7 : Below w.heap.size w w7 := (by repeat (first | with_reducible exact Below.refl _ _ | with_reducible assumption | with_reducible refine Below.drew ?_ | with_reducible refine Below.alloc ?_ (by first | exact Nat.le_refl _ | omega | (simp; done) | (simp; omega)) _ | with_reducible refine Below.setCell ?_ (by first | exact Nat.le_refl _ | omega | (simp; done) | (simp; omega)) _ | (with_reducible refine ext_trans ?_ (by with_reducible assumption))))
    clear r0_rl_6 f0_rl_6 r1_rl_6 f1_rl_6 r2_rl_6 f2_rl_6
    clear r0_rm_6 f0_rm_6 r1_rm_6 f1_rm_6 r2_rm_6 f2_rm_6
    clear r0_rp_6 f0_rp_6 r1_rp_6 f1_rp_6 r2_rp_6 f2_rp_6 r3_rp_6 f3_rp_6 r4_rp_6 f4_rp_6 r5_rp_6 f5_rp_6
    clear r0_rn_6 f0_rn_6 r1_rn_6 f1_rn_6 r2_rn_6 f2_rn_6
    clear r0_rq_6 f0_rq_6 r1_rq_6 f1_rq_6 r2_rq_6 f2_rq_6 r3_rq_6 f3_rq_6 r4_rq_6 f4_rq_6 r5_rq_6 f5_rq_6
    have lRl_7 : w1.heap.size < w7.heap.size := by omega
    have Rl_7 := Lib.hid rl_7
    have r0_rl_7 := cell_of_row _ _ 0 _ _ _ rl_7
    have r1_rl_7 := cell_of_row _ _ 1 _ _ _ rl_7
    have r2_rl_7 := cell_of_row _ _ 2 _ _ _ rl_7
    have f0_rl_7 := frozen_of_row _ _ 0 _ _ rl_7
    have f1_rl_7 := frozen_of_row _ _ 1 _ _ rl_7
    have f2_rl_7 := frozen_of_row _ _ 2 _ _ rl_7
    simp at r0_rl_7 r1_rl_7 r2_rl_7
    clear rl_7
    have lRm_7 : w2.heap.size < w7.heap.size := by omega
    have Rm_7 := Lib.hid rm_7
    have r0_rm_7 := cell_of_row _ _ 0 _ _ _ rm_7
    have r1_rm_7 := cell_of_row _ _ 1 _ _ _ rm_7
    have r2_rm_7 := cell_of_row _ _ 2 _ _ _ rm_7
    have f0_rm_7 := frozen_of_row _ _ 0 _ _ rm_7
    have f1_rm_7 := frozen_of_row _ _ 1 _ _ rm_7
    have f2_rm_7 := frozen_of_row _ _ 2 _ _ rm_7
    simp at r0_rm_7 r1_rm_7 r2_rm_7
    clear rm_7
    have lRp_7 : w2.heap.size + 1 < w7.heap.size := by omega
    have Rp_7 := Lib.hid rp_7
    have r0_rp_7 := cell_of_row _ _ 0 _ _ _ rp_7
    have r1_rp_7 := cell_of_row _ _ 1 _ _ _ rp_7
    have r2_rp_7 := cell_of_row _ _ 2 _ _ _ rp_7
    have r3_rp_7 := cell_of_row _ _ 3 _ _ _ rp_7
    have r4_rp_7 := cell_of_row _ _ 4 _ _ _ rp_7
    have r5_rp_7 := cell_of_row _ _ 5 _ _ _ rp_7
    have f0_rp_7 := frozen_of_row _ _ 0 _ _ rp_7
    have f1_rp_7 := frozen_of_row _ _ 1 _ _ rp_7
    have f2_rp_7 := frozen_of_row _ _ 2 _ _ rp_7
    have f3_rp_7 := frozen_of_row _ _ 3 _ _ rp_7
    have f4_rp_7 := frozen_of_row _ _ 4 _ _ rp_7
    have f5_rp_7 := frozen_of_row _ _ 5 _ _ rp_7
    simp at r0_rp_7 r1_rp_7 r2_rp_7 r3_rp_7 r4_rp_7 r5_rp_7
    clear rp_7
    have lRn_7 : w3.heap.size < w7.heap.size := by omega
    have Rn_7 := Lib.hid rn_7
    have r0_rn_7 := cell_of_row _ _ 0 _ _ _ rn_7
    have r1_rn_7 := cell_of_row _ _ 1 _ _ _ rn_7
    have r2_rn_7 := cell_of_row _ _ 2 _ _ _ rn_7
    have f0_rn_7 := frozen_of_row _ _ 0 _ _ rn_7
    have f1_rn_7 := frozen_of_row _ _ 1 _ _ rn_7
    have f2_rn_7 := frozen_of_row _ _ 2 _ _ rn_7
    simp at r0_rn_7 r1_rn_7 r2_rn_7
    clear rn_7
    have lRq_7 : w3.heap.size + 1 < w7.heap.size := by omega
    have Rq_7 := Lib.hid rq_7
    have r0_rq_7 := cell_of_row _ _ 0 _ _ _ rq_7
    have r1_rq_7 := cell_of_row _ _ 1 _ _ _ rq_7
    have r2_rq_7 := cell_of_row _ _ 2 _ _ _ rq_7
    have r3_rq_7 := cell_of_row _ _ 3 _ _ _ rq_7
    have r4_rq_7 := cell_of_row _ _ 4 _ _ _ rq_7
    have r5_rq_7 := cell_of_row _ _ 5 _ _ _ rq_7
    have f0_rq_7 := frozen_of_row _ _ 0 _ _ rq_7
    have f1_rq_7 := frozen_of_row _ _ 1 _ _ rq_7
    have f2_rq_7 := frozen_of_row _ _ 2 _ _ rq_7
    have f3_rq_7 := frozen_of_row _ _ 3 _ _ rq_7
    have f4_rq_7 := frozen_of_row _ _ 4 _ _ rq_7
    have f5_rq_7 := frozen_of_row _ _ 5 _ _ rq_7
    simp at r0_rq_7 r1_rq_7 r2_rq_7 r3_rq_7 r4_rq_7 r5_rq_7
    clear rq_7
    go_wp2_with fail
    go_ret
    exact ⟨by first | rfl | (simp; done) | (simp; rfl) | (simp; omega), (by repeat (first | with_reducible exact Below.refl _ _ | with_reducible assumption | with_reducible refine Below.drew ?_ | with_reducible refine Below.alloc ?_ (by first | exact Nat.le_refl _ | omega | (simp; done) | (simp; omega)) _ | with_reducible refine Below.setCell ?_ (by first | exact Nat.le_refl _ | omega | (simp; done) | (simp; omega)) _ | (with_reducible refine ext_trans ?_ (by with_reducible assumption))))⟩

set_option maxRecDepth 100000 in
theorem FnLink_lifted (os : Os) (started : os.Started) (H : Type) (enc : TypeId × Value → H) :
    ReturnsInHanded {} Try.checked os 13 .any (Rows.fnLinkSpec.pre6 enc Try.prog Try.f13 Rows.fnLinkRow.domain false) (Rows.fnLinkSpec.post enc Try.prog Try.f13 false true false false) := by
  refine law_lifted (C := Try.checked) own_ started (by kernel_rfl) Try.func13 laid_ rfl ?_ ?_ rfl Try.underlying4
    (ChangeSpec.witness6 (enc := enc) (C := Try.checked) false ⟨#[], #[.slice none 0 0], []⟩ 8 (by kernel_rfl) (by kernel_rfl) (by kernel_rfl) (by kernel_rfl)) ?_
  · intro ds h
    match ds, h with
    | [_], _ => rfl
  · intro t ht
    rw [Try.params13] at ht
    simp at ht
    subst ht
    exact ⟨by kernel_rfl, of_decide_eq_true (by kernel_rfl)⟩
  · intro W base args ds p hval hA hlt
    have hval : ∀ (j : Nat) t v, Try.f13.params[j]? = some t → args[j]? = some v → Value.okWide Try.prog W .any base t v := hval
    have hA : DataW.TrodAll enc Try.prog W 0 (fun _ => true) true Try.f13.params.toList args.toList ds p := hA
    rw [Try.params13] at hA hval
    obtain ⟨v0, d0, rfl, rfl, h0⟩ := trodAll_one hA
    obtain ⟨Aa, na, ca, rfl, wna, wba, wca⟩ := open_bytes (hval 0 42 v0 rfl rfl) h0
    exact FnLink_walk wna W wba

theorem FnLink_holds : Rows.FnLinkSaid :=
  OpenClaim.holds_of_wide 13 Try.f13 rfl rfl rfl rfl rfl rfl rfl ⟨rfl, rfl, rfl, rfl, rfl⟩ rfl rfl rfl rfl rfl (by kernel_rfl) Try.func13 (by kernel_rfl)
    (of_decide_eq_true (by kernel_rfl)) (by have hw := wrap_ (P := Try.prog) (fn := Try.f13) (by kernel_rfl); exact hw)
    (fun os started H enc _ => FnLink_lifted os started H enc)
end Go.Proofs.Yteaniiponikpjaa
