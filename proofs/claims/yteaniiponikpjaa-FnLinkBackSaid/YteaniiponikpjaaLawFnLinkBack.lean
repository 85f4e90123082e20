/-
  The law FnLinkBack returns true for every input. No condition.
-/
import Derived.Test.YteaniiponikpjaaLbk
import Derived.Test.YteaniiponikpjaaLlk
import Derived.Test.YteaniiponikpjaaBytes
import Derived.Test.YteaniiponikpjaaStru
import Derived.IntWalk
namespace Go.Proofs.Yteaniiponikpjaa
set_option maxRecDepth 100000
open Go.ChangeShapes Go.WideShapes Go.ChangeAt Go.RowKit

set_option maxHeartbeats 8000000 in
set_option linter.unusedSimpArgs false in
set_option linter.unusedVariables false in
theorem FnLinkBack_walk {A : Option Addr} {n c : Nat} (hn : n ≤ maxLen) (w : World) (hb : Byts w w.heap.size A n) :
    Calls Try.prog 11 #[.slice A n c] w fun e w' => e = .returned (.bool true) ∧ Below w.heap.size w w' := by
  have hlen := hn
  unfold maxLen at hlen
  by_cases hbig : (1048576 : Int) < n
  · go_enter Try.func11, Try.ntmps11
    go_wp2_with fail
    refine (big_any hn _).mono ?_
    rintro e w' ⟨rfl, rfl⟩
    go_wp2_with fail
    go_ret
    exact ⟨rfl, Below.refl _ _⟩
  go_enter Try.func11, Try.ntmps11
  go_wp2_with fail
  refine (big_any hn _).mono ?_
  rintro e w' ⟨rfl, rfl⟩
  go_wp2_with fail
  refine (DrawLinkOut_any hn hb).mono ?_
  rintro e w1 ⟨m, q, A1, l, c1, ip, body, rfl, hG, hbz, hO1, hb1⟩
  have Ol_1 := Lib.hid hO1
  clear hO1 hb hn hlen
  obtain ⟨hl5, -⟩ := hG
  have ML : Hid (l.length ≤ maxLen) := (by unfold maxLen; omega : l.length ≤ maxLen)
  have hz1 := hb1.size
  have hw1 : Below w.heap.size w w1 := (by repeat (first | with_reducible exact Below.refl _ _ | with_reducible assumption | with_reducible refine Below.drew ?_ | with_reducible refine Below.alloc ?_ (by first | exact Nat.le_refl _ | omega | (simp; done) | (simp; omega)) _ | with_reducible refine Below.setCell ?_ (by first | exact Nat.le_refl _ | omega | (simp; done) | (simp; omega)) _ | (with_reducible refine ext_trans ?_ (by with_reducible assumption))))
  obtain ⟨⟨o1, o2⟩, hO⟩ : ∃ R, outR ⟨m, q, l⟩ ip body = R := ⟨_, rfl⟩
  have Y1 : Hid (∀ W v, RdEntry W v l → Calls Try.prog 40 #[.agg #[.int .i64 m, .int .i64 q, v], .int .i64 ip, .string body] W fun e w' => e = .returned (.tuple #[.string o1, .bool o2]) ∧ Below W.heap.size W w') := fun W v h => by
    have hh := LinkOut_any ⟨m, q, l⟩ v ip body ML.out W h
    rw [hO] at hh
    exact hh
  have Y2 : Hid (∀ W v, RdEntry W v l → Calls Try.prog 39 #[.agg #[.int .i64 m, .int .i64 q, v], .int .i64 ip, .string body] W fun e w' => e = .returned (.tuple #[.string o1, .bool o2]) ∧ Below W.heap.size W w') := fun W v h => by
    have hh := sLinkOut_any ⟨m, q, l⟩ v ip body ML.out W h
    rw [hO] at hh
    exact hh
  rcases out_cases ⟨m, q, l⟩ ip body with h0 | ⟨hw, hh, hp, hf, h0⟩
  · rw [hO] at h0
    injection h0 with h0 h00
    subst h0 h00
    clear hO
    go_wp2_with fail
    refine (Y1.out _ _ (rd_own (own_below Ol_1.out (by repeat (first | with_reducible exact Below.refl _ _ | with_reducible assumption | with_reducible refine Below.drew ?_ | with_reducible refine Below.alloc ?_ (by first | exact Nat.le_refl _ | omega | (simp; done) | (simp; omega)) _ | with_reducible refine Below.setCell ?_ (by first | exact Nat.le_refl _ | omega | (simp; done) | (simp; omega)) _ | (with_reducible refine ext_trans ?_ (by with_reducible assumption))))))).mono ?_
    rintro e w2 ⟨rfl, hb2⟩
    have hz2 := hb2.size
    (try simp at hz2)
    have rl_2 : w2.heap[w1.heap.size]? = some (.cells #[.int .i64 m, .int .i64 q, .slice A1 l.length c1] 37 (0, 0)) := (hb2.block _ (by first | (simp; done) | (simp; omega))).trans (by repeat (first | exact heap_new _ _ _ (by first | rfl | (simp; done) | (simp; omega)) | refine (Below.heap_alloc _ _ _ (by first | omega | (simp; done) | (simp; omega))).trans ?_))
    have Ol_2 := Lib.hid (own_below Ol_1.out (w' := w2) (by repeat (first | with_reducible exact Below.refl _ _ | with_reducible assumption | with_reducible refine Below.drew ?_ | with_reducible refine Below.alloc ?_ (by first | exact Nat.le_refl _ | omega | (simp; done) | (simp; omega)) _ | with_reducible refine Below.setCell ?_ (by first | exact Nat.le_refl _ | omega | (simp; done) | (simp; omega)) _ | (with_reducible refine ext_trans ?_ (by with_reducible assumption)))))
    have hw2 : Below w.heap.size w w2 := (by repeat (first | with_reducible exact Below.refl _ _ | with_reducible assumption | with_reducible refine Below.drew ?_ | with_reducible refine Below.alloc ?_ (by first | exact Nat.le_refl _ | omega | (simp; done) | (simp; omega)) _ | with_reducible refine Below.setCell ?_ (by first | exact Nat.le_refl _ | omega | (simp; done) | (simp; omega)) _ | (with_reducible refine ext_trans ?_ (by with_reducible assumption))))
    have lRl_2 : w1.heap.size < w2.heap.size := by omega
    have Rl_2 := Lib.hid rl_2
    have r0_rl_2 := cell_of_row _ _ 0 _ _ _ rl_2
    have r1_rl_2 := cell_of_row _ _ 1 _ _ _ rl_2
    have r2_rl_2 := cell_of_row _ _ 2 _ _ _ rl_2
    have f0_rl_2 := frozen_of_row _ _ 0 _ _ rl_2
    have f1_rl_2 := frozen_of_row _ _ 1 _ _ rl_2
    have f2_rl_2 := frozen_of_row _ _ 2 _ _ rl_2
    simp at r0_rl_2 r1_rl_2 r2_rl_2
    clear rl_2
    go_wp2_with fail
    refine (Y2.out _ _ (rd_own Ol_2.out)).mono ?_
    rintro e w3 ⟨rfl, hb3⟩
    have hz3 := hb3.size
    (try simp at hz3)
    have rl_3 : w3.heap[w1.heap.size]? = some (.cells #[.int .i64 m, .int .i64 q, .slice A1 l.length c1] 37 (0, 0)) := (hb3.block _ (by first | omega | (simp; done) | (simp; omega))).trans (by repeat (first | (with_reducible apply heap_setCell_same) | (with_reducible apply drew_row) | (with_reducible apply drewN_row) | (with_reducible exact Rl_2.out) | (with_reducible refine (heap_setCell_other _ _ _ _ (by first | omega | (simp; done) | (simp; omega))).trans ?_) | (with_reducible refine (Below.heap_alloc _ _ _ (by first | omega | (simp; done) | (simp; omega))).trans ?_)))
    have Ol_3 := Lib.hid (own_below Ol_2.out (w' := w3) (by repeat (first | with_reducible exact Below.refl _ _ | with_reducible assumption | with_reducible refine Below.drew ?_ | with_reducible refine Below.alloc ?_ (by first | exact Nat.le_refl _ | omega | (simp; done) | (simp; omega)) _ | with_reducible refine Below.setCell ?_ (by first | exact Nat.le_refl _ | omega | (simp; done) | (simp; omega)) _ | (with_reducible refine ext_trans ?_ (by with_reducible assumption)))))
    have hw3 : Below w.heap.size w w3 := (by repeat (first | with_reducible exact Below.refl _ _ | with_reducible assumption | with_reducible refine Below.drew ?_ | with_reducible refine Below.alloc ?_ (by first | exact Nat.le_refl _ | omega | (simp; done) | (simp; omega)) _ | with_reducible refine Below.setCell ?_ (by first | exact Nat.le_refl _ | omega | (simp; done) | (simp; omega)) _ | (with_reducible refine ext_trans ?_ (by with_reducible assumption))))
    clear r0_rl_2 f0_rl_2 r1_rl_2 f1_rl_2 r2_rl_2 f2_rl_2
    have lRl_3 : w1.heap.size < w3.heap.size := by omega
    have Rl_3 := Lib.hid rl_3
    have r0_rl_3 := cell_of_row _ _ 0 _ _ _ rl_3
    have r1_rl_3 := cell_of_row _ _ 1 _ _ _ rl_3
    have r2_rl_3 := cell_of_row _ _ 2 _ _ _ rl_3
    have f0_rl_3 := frozen_of_row _ _ 0 _ _ rl_3
    have f1_rl_3 := frozen_of_row _ _ 1 _ _ rl_3
    have f2_rl_3 := frozen_of_row _ _ 2 _ _ rl_3
    simp at r0_rl_3 r1_rl_3 r2_rl_3
    clear rl_3
    go_wp2_with fail
    go_ret
    exact ⟨by first | rfl | (simp; done) | (simp; rfl) | (simp; omega), (by repeat (first | with_reducible exact Below.refl _ _ | with_reducible assumption | with_reducible refine Below.drew ?_ | with_reducible refine Below.alloc ?_ (by first | exact Nat.le_refl _ | omega | (simp; done) | (simp; omega)) _ | with_reducible refine Below.setCell ?_ (by first | exact Nat.le_refl _ | omega | (simp; done) | (simp; omega)) _ | (with_reducible refine ext_trans ?_ (by with_reducible assumption))))⟩
  · rw [hO] at h0
    injection h0 with h0 h00
    subst h0 h00
    clear hO
    dsimp only at hh hp hf
    obtain ⟨s1, s2, s3, s4, s5, p3, p5, s6⟩ := back_read (x := ⟨m, q, l⟩) hp hf
    dsimp only at s1 s2 s3 s4 s5 s6
    have Y3 : Hid (∀ W v, RdEntry W v l → Calls Try.prog 15 #[v, .int .i64 ip] W fun e w' => e = .returned (.tuple #[.int .i64 hw, .bool true]) ∧ Below W.heap.size W w') := fun W v h => by
      have h2 := sHwOf_any v l ip ML.out W h
      rw [hh] at h2
      exact h2
    obtain ⟨k1, k2, k3, k4, k5, hk⟩ := arR_form (packS q ip 64 6 0 body)
    obtain ⟨r, hr⟩ := back_law (x := ⟨m, q, l⟩) (k1 := k1) (k2 := k2) (k3 := k3) (k5 := k5) (BA := okAr (packS q ip 64 6 0 body)) (pk := .agg #[.int .i64 q, .int .i64 ip, .int .i64 p3, .int .i64 6, .int .i64 p5, .string body]) hp hf
    have Y4 := fun (W : World) => LinkIn_any ⟨hw, ip, []⟩ (.slice none 0 0) (frameS hw m 2048 (packS q ip 64 6 0 body)) (by omega) (by simp) W (rd_nil W _) hw m 2048 (packS q ip 64 6 0 body) true s2 s1 (by omega) k1 k2 k3 k4 k5 _ hk rfl q ip p3 6 p5 body 0 s6 s5
    dsimp only at hr
    rw [hr] at Y4
    clear hr hk s1 s2 s3 s4 s5 s6 hh hp hf
    generalize frameS hw m 2048 (packS q ip 64 6 0 body) = F at *
    by_cases he : hw = 281474976710655
    · subst he
      have Y5 : Hid (∀ W, Calls Try.prog 42 #[.agg #[.int .i64 281474976710655, .int .i64 ip, .slice none 0 0], .string F] W fun e w' => ∃ v, e = .returned (.tuple #[.agg #[.int .i64 281474976710655, .int .i64 ip, v], .int .i64 0, .agg #[.int .i64 0, .int .i64 0, .int .i64 0, .int .i64 0, .int .i64 0, .string ⟨#[]⟩], .string ⟨#[]⟩]) ∧ OwnEntry w' W.heap.size v r ∧ Below W.heap.size W w') := fun W => by
        have h2 := Y4 W
        rw [if_pos (Or.inl rfl)] at h2
        exact h2
      clear Y4
      go_wp2_with fail
      refine (Y1.out _ _ (rd_own (own_below Ol_1.out (by repeat (first | with_reducible exact Below.refl _ _ | with_reducible assumption | with_reducible refine Below.drew ?_ | with_reducible refine Below.alloc ?_ (by first | exact Nat.le_refl _ | omega | (simp; done) | (simp; omega)) _ | with_reducible refine Below.setCell ?_ (by first | exact Nat.le_refl _ | omega | (simp; done) | (simp; omega)) _ | (with_reducible refine ext_trans ?_ (by with_reducible assumption))))))).mono ?_
      rintro e w2 ⟨rfl, hb2⟩
      have hz2 := hb2.size
      (try simp at hz2)
      have rl_2 : w2.heap[w1.heap.size]? = some (.cells #[.int .i64 m, .int .i64 q, .slice A1 l.length c1] 37 (0, 0)) := (hb2.block _ (by first | (simp; done) | (simp; omega))).trans (by repeat (first | exact heap_new _ _ _ (by first | rfl | (simp; done) | (simp; omega)) | refine (Below.heap_alloc _ _ _ (by first | omega | (simp; done) | (simp; omega))).trans ?_))
      have Ol_2 := Lib.hid (own_below Ol_1.out (w' := w2) (by repeat (first | with_reducible exact Below.refl _ _ | with_reducible assumption | with_reducible refine Below.drew ?_ | with_reducible refine Below.alloc ?_ (by first | exact Nat.le_refl _ | omega | (simp; done) | (simp; omega)) _ | with_reducible refine Below.setCell ?_ (by first | exact Nat.le_refl _ | omega | (simp; done) | (simp; omega)) _ | (with_reducible refine ext_trans ?_ (by with_reducible assumption)))))
      have hw2 : Below w.heap.size w w2 := (by repeat (first | with_reducible exact Below.refl _ _ | with_reducible assumption | with_reducible refine Below.drew ?_ | with_reducible refine Below.alloc ?_ (by first | exact Nat.le_refl _ | omega | (simp; done) | (simp; omega)) _ | with_reducible refine Below.setCell ?_ (by first | exact Nat.le_refl _ | omega | (simp; done) | (simp; omega)) _ | (with_reducible refine ext_trans ?_ (by with_reducible assumption))))
      have lRl_2 : w1.heap.size < w2.heap.size := by omega
      have Rl_2 := Lib.hid rl_2
      have r0_rl_2 := cell_of_row _ _ 0 _ _ _ rl_2
      have r1_rl_2 := cell_of_row _ _ 1 _ _ _ rl_2
      have r2_rl_2 := cell_of_row _ _ 2 _ _ _ rl_2
      have f0_rl_2 := frozen_of_row _ _ 0 _ _ rl_2
      have f1_rl_2 := frozen_of_row _ _ 1 _ _ rl_2
      have f2_rl_2 := frozen_of_row _ _ 2 _ _ rl_2
      simp at r0_rl_2 r1_rl_2 r2_rl_2
      clear rl_2
      go_wp2_with fail
      refine (Y2.out _ _ (rd_own Ol_2.out)).mono ?_
      rintro e w3 ⟨rfl, hb3⟩
      have hz3 := hb3.size
      (try simp at hz3)
      have rl_3 : w3.heap[w1.heap.size]? = some (.cells #[.int .i64 m, .int .i64 q, .slice A1 l.length c1] 37 (0, 0)) := (hb3.block _ (by first | omega | (simp; done) | (simp; omega))).trans (by repeat (first | (with_reducible apply heap_setCell_same) | (with_reducible apply drew_row) | (with_reducible apply drewN_row) | (with_reducible exact Rl_2.out) | (with_reducible refine (heap_setCell_other _ _ _ _ (by first | omega | (simp; done) | (simp; omega))).trans ?_) | (with_reducible refine (Below.heap_alloc _ _ _ (by first | omega | (simp; done) | (simp; omega))).trans ?_)))
      have Ol_3 := Lib.hid (own_below Ol_2.out (w' := w3) (by repeat (first | with_reducible exact Below.refl _ _ | with_reducible assumption | with_reducible refine Below.drew ?_ | with_reducible refine Below.alloc ?_ (by first | exact Nat.le_refl _ | omega | (simp; done) | (simp; omega)) _ | with_reducible refine Below.setCell ?_ (by first | exact Nat.le_refl _ | omega | (simp; done) | (simp; omega)) _ | (with_reducible refine ext_trans ?_ (by with_reducible assumption)))))
      have hw3 : Below w.heap.size w w3 := (by repeat (first | with_reducible exact Below.refl _ _ | with_reducible assumption | with_reducible refine Below.drew ?_ | with_reducible refine Below.alloc ?_ (by first | exact Nat.le_refl _ | omega | (simp; done) | (simp; omega)) _ | with_reducible refine Below.setCell ?_ (by first | exact Nat.le_refl _ | omega | (simp; done) | (simp; omega)) _ | (with_reducible refine ext_trans ?_ (by with_reducible assumption))))
      clear r0_rl_2 f0_rl_2 r1_rl_2 f1_rl_2 r2_rl_2 f2_rl_2
      have lRl_3 : w1.heap.size < w3.heap.size := by omega
      have Rl_3 := Lib.hid rl_3
      have r0_rl_3 := cell_of_row _ _ 0 _ _ _ rl_3
      have r1_rl_3 := cell_of_row _ _ 1 _ _ _ rl_3
      have r2_rl_3 := cell_of_row _ _ 2 _ _ _ rl_3
      have f0_rl_3 := frozen_of_row _ _ 0 _ _ rl_3
      have f1_rl_3 := frozen_of_row _ _ 1 _ _ rl_3
      have f2_rl_3 := frozen_of_row _ _ 2 _ _ rl_3
      simp at r0_rl_3 r1_rl_3 r2_rl_3
      clear rl_3
      go_wp2_with fail
      refine (Y3.out _ _ (rd_own Ol_3.out)).mono ?_
      rintro e w4 ⟨rfl, hb4⟩
      have hz4 := hb4.size
      (try simp at hz4)
      have rl_4 : w4.heap[w1.heap.size]? = some (.cells #[.int .i64 m, .int .i64 q, .slice A1 l.length c1] 37 (0, 0)) := (hb4.block _ (by first | omega | (simp; done) | (simp; omega))).trans (by repeat (first | (with_reducible apply heap_setCell_same) | (with_reducible apply drew_row) | (with_reducible apply drewN_row) | (with_reducible exact Rl_3.out) | (with_reducible refine (heap_setCell_other _ _ _ _ (by first | omega | (simp; done) | (simp; omega))).trans ?_) | (with_reducible refine (Below.heap_alloc _ _ _ (by first | omega | (simp; done) | (simp; omega))).trans ?_)))
      have Ol_4 := Lib.hid (own_below Ol_3.out (w' := w4) (by repeat (first | with_reducible exact Below.refl _ _ | with_reducible assumption | with_reducible refine Below.drew ?_ | with_reducible refine Below.alloc ?_ (by first | exact Nat.le_refl _ | omega | (simp; done) | (simp; omega)) _ | with_reducible refine Below.setCell ?_ (by first | exact Nat.le_refl _ | omega | (simp; done) | (simp; omega)) _ | (with_reducible refine ext_trans ?_ (by with_reducible assumption)))))
      have hw4 : Below w.heap.size w w4 := (by repeat (first | with_reducible exact Below.refl _ _ | with_reducible assumption | with_reducible refine Below.drew ?_ | with_reducible refine Below.alloc ?_ (by first | exact Nat.le_refl _ | omega | (simp; done) | (simp; omega)) _ | with_reducible refine Below.setCell ?_ (by first | exact Nat.le_refl _ | omega | (simp; done) | (simp; omega)) _ | (with_reducible refine ext_trans ?_ (by with_reducible assumption))))
      clear r0_rl_3 f0_rl_3 r1_rl_3 f1_rl_3 r2_rl_3 f2_rl_3
      have lRl_4 : w1.heap.size < w4.heap.size := by omega
      have Rl_4 := Lib.hid rl_4
      have r0_rl_4 := cell_of_row _ _ 0 _ _ _ rl_4
      have r1_rl_4 := cell_of_row _ _ 1 _ _ _ rl_4
      have r2_rl_4 := cell_of_row _ _ 2 _ _ _ rl_4
      have f0_rl_4 := frozen_of_row _ _ 0 _ _ rl_4
      have f1_rl_4 := frozen_of_row _ _ 1 _ _ rl_4
      have f2_rl_4 := frozen_of_row _ _ 2 _ _ rl_4
      simp at r0_rl_4 r1_rl_4 r2_rl_4
      clear rl_4
      go_wp2_with fail
      refine (Y5.out _).mono ?_
      rintro e w5 ⟨v5, rfl, hO5, hb5⟩
      have hz5 := hb5.size
      (try simp at hz5)
      have rl_5 : w5.heap[w1.heap.size]? = some (.cells #[.int .i64 m, .int .i64 q, .slice A1 l.length c1] 37 (0, 0)) := (hb5.block _ (by first | omega | (simp; done) | (simp; omega))).trans (by repeat (first | (with_reducible apply heap_setCell_same) | (with_reducible apply drew_row) | (with_reducible apply drewN_row) | (with_reducible exact Rl_4.out) | (with_reducible refine (heap_setCell_other _ _ _ _ (by first | omega | (simp; done) | (simp; omega))).trans ?_) | (with_reducible refine (Below.heap_alloc _ _ _ (by first | omega | (simp; done) | (simp; omega))).trans ?_)))
      have ro_5 : w5.heap[w4.heap.size]? = some (.cells #[.int .i64 281474976710655, .int .i64 ip, .slice none 0 0] 37 (0, 0)) := (hb5.block _ (by first | (simp; done) | (simp; omega))).trans (by repeat (first | exact heap_new _ _ _ (by first | rfl | (simp; done) | (simp; omega)) | refine (Below.heap_alloc _ _ _ (by first | omega | (simp; done) | (simp; omega))).trans ?_))
      have Ol_5 := Lib.hid (own_below Ol_4.out (w' := w5) (by repeat (first | with_reducible exact Below.refl _ _ | with_reducible assumption | with_reducible refine Below.drew ?_ | with_reducible refine Below.alloc ?_ (by first | exact Nat.le_refl _ | omega | (simp; done) | (simp; omega)) _ | with_reducible refine Below.setCell ?_ (by first | exact Nat.le_refl _ | omega | (simp; done) | (simp; omega)) _ | (with_reducible refine ext_trans ?_ (by with_reducible assumption)))))
      have hw5 : Below w.heap.size w w5 := (by repeat (first | with_reducible exact Below.refl _ _ | with_reducible assumption | with_reducible refine Below.drew ?_ | with_reducible refine Below.alloc ?_ (by first | exact Nat.le_refl _ | omega | (simp; done) | (simp; omega)) _ | with_reducible refine Below.setCell ?_ (by first | exact Nat.le_refl _ | omega | (simp; done) | (simp; omega)) _ | (with_reducible refine ext_trans ?_ (by with_reducible assumption))))
      clear r0_rl_4 f0_rl_4 r1_rl_4 f1_rl_4 r2_rl_4 f2_rl_4
      have lRl_5 : w1.heap.size < w5.heap.size := by omega
      have Rl_5 := Lib.hid rl_5
      have r0_rl_5 := cell_of_row _ _ 0 _ _ _ rl_5
      have r1_rl_5 := cell_of_row _ _ 1 _ _ _ rl_5
      have r2_rl_5 := cell_of_row _ _ 2 _ _ _ rl_5
      have f0_rl_5 := frozen_of_row _ _ 0 _ _ rl_5
      have f1_rl_5 := frozen_of_row _ _ 1 _ _ rl_5
      have f2_rl_5 := frozen_of_row _ _ 2 _ _ rl_5
      simp at r0_rl_5 r1_rl_5 r2_rl_5
      clear rl_5
      have lRo_5 : w4.heap.size < w5.heap.size := by omega
      have Ro_5 := Lib.hid ro_5
      have r0_ro_5 := cell_of_row _ _ 0 _ _ _ ro_5
      have r1_ro_5 := cell_of_row _ _ 1 _ _ _ ro_5
      have r2_ro_5 := cell_of_row _ _ 2 _ _ _ ro_5
      have f0_ro_5 := frozen_of_row _ _ 0 _ _ ro_5
      have f1_ro_5 := frozen_of_row _ _ 1 _ _ ro_5
      have f2_ro_5 := frozen_of_row _ _ 2 _ _ ro_5
      simp at r0_ro_5 r1_ro_5 r2_ro_5
      clear ro_5
      obtain ⟨A5, c5, rfl⟩ := hO5.form
      clear hO5
      go_wp2_with fail
      go_ret
      exact ⟨by first | rfl | (simp; done) | (simp; rfl) | (simp; omega), (by repeat (first | with_reducible exact Below.refl _ _ | with_reducible assumption | with_reducible refine Below.drew ?_ | with_reducible refine Below.alloc ?_ (by first | exact Nat.le_refl _ | omega | (simp; done) | (simp; omega)) _ | with_reducible refine Below.setCell ?_ (by first | exact Nat.le_refl _ | omega | (simp; done) | (simp; omega)) _ | (with_reducible refine ext_trans ?_ (by with_reducible assumption))))⟩
    have he2 : (hw == 281474976710655) = false := by simpa using he
    by_cases hq : ip = q
    · subst hq
      have Y5 : Hid (∀ W, Calls Try.prog 42 #[.agg #[.int .i64 hw, .int .i64 ip, .slice none 0 0], .string F] W fun e w' => ∃ v, e = .returned (.tuple #[.agg #[.int .i64 hw, .int .i64 ip, v], .int .i64 0, .agg #[.int .i64 0, .int .i64 0, .int .i64 0, .int .i64 0, .int .i64 0, .string ⟨#[]⟩], .string ⟨#[]⟩]) ∧ OwnEntry w' W.heap.size v r ∧ Below W.heap.size W w') := fun W => by
        have h2 := Y4 W
        rw [if_pos (Or.inr rfl)] at h2
        exact h2
      clear Y4
      go_wp2_with fail
      refine (Y1.out _ _ (rd_own (own_below Ol_1.out (by repeat (first | with_reducible exact Below.refl _ _ | with_reducible assumption | with_reducible refine Below.drew ?_ | with_reducible refine Below.alloc ?_ (by first | exact Nat.le_refl _ | omega | (simp; done) | (simp; omega)) _ | with_reducible refine Below.setCell ?_ (by first | exact Nat.le_refl _ | omega | (simp; done) | (simp; omega)) _ | (with_reducible refine ext_trans ?_ (by with_reducible assumption))))))).mono ?_
      rintro e w2 ⟨rfl, hb2⟩
      have hz2 := hb2.size
      (try simp at hz2)
      have rl_2 : w2.heap[w1.heap.size]? = some (.cells #[.int .i64 m, .int .i64 ip, .slice A1 l.length c1] 37 (0, 0)) := (hb2.block _ (by first | (simp; done) | (simp; omega))).trans (by repeat (first | exact heap_new _ _ _ (by first | rfl | (simp; done) | (simp; omega)) | refine (Below.heap_alloc _ _ _ (by first | omega | (simp; done) | (simp; omega))).trans ?_))
      have Ol_2 := Lib.hid (own_below Ol_1.out (w' := w2) (by repeat (first | with_reducible exact Below.refl _ _ | with_reducible assumption | with_reducible refine Below.drew ?_ | with_reducible refine Below.alloc ?_ (by first | exact Nat.le_refl _ | omega | (simp; done) | (simp; omega)) _ | with_reducible refine Below.setCell ?_ (by first | exact Nat.le_refl _ | omega | (simp; done) | (simp; omega)) _ | (with_reducible refine ext_trans ?_ (by with_reducible assumption)))))
      have hw2 : Below w.heap.size w w2 := (by repeat (first | with_reducible exact Below.refl _ _ | with_reducible assumption | with_reducible refine Below.drew ?_ | with_reducible refine Below.alloc ?_ (by first | exact Nat.le_refl _ | omega | (simp; done) | (simp; omega)) _ | with_reducible refine Below.setCell ?_ (by first | exact Nat.le_refl _ | omega | (simp; done) | (simp; omega)) _ | (with_reducible refine ext_trans ?_ (by with_reducible assumption))))
      have lRl_2 : w1.heap.size < w2.heap.size := by omega
      have Rl_2 := Lib.hid rl_2
      have r0_rl_2 := cell_of_row _ _ 0 _ _ _ rl_2
      have r1_rl_2 := cell_of_row _ _ 1 _ _ _ rl_2
      have r2_rl_2 := cell_of_row _ _ 2 _ _ _ rl_2
      have f0_rl_2 := frozen_of_row _ _ 0 _ _ rl_2
      have f1_rl_2 := frozen_of_row _ _ 1 _ _ rl_2
      have f2_rl_2 := frozen_of_row _ _ 2 _ _ rl_2
      simp at r0_rl_2 r1_rl_2 r2_rl_2
      clear rl_2
      go_wp2_with fail
      refine (Y2.out _ _ (rd_own Ol_2.out)).mono ?_
      rintro e w3 ⟨rfl, hb3⟩
      have hz3 := hb3.size
      (try simp at hz3)
      have rl_3 : w3.heap[w1.heap.size]? = some (.cells #[.int .i64 m, .int .i64 ip, .slice A1 l.length c1] 37 (0, 0)) := (hb3.block _ (by first | omega | (simp; done) | (simp; omega))).trans (by repeat (first | (with_reducible apply heap_setCell_same) | (with_reducible apply drew_row) | (with_reducible apply drewN_row) | (with_reducible exact Rl_2.out) | (with_reducible refine (heap_setCell_other _ _ _ _ (by first | omega | (simp; done) | (simp; omega))).trans ?_) | (with_reducible refine (Below.heap_alloc _ _ _ (by first | omega | (simp; done) | (simp; omega))).trans ?_)))
      have Ol_3 := Lib.hid (own_below Ol_2.out (w' := w3) (by repeat (first | with_reducible exact Below.refl _ _ | with_reducible assumption | with_reducible refine Below.drew ?_ | with_reducible refine Below.alloc ?_ (by first | exact Nat.le_refl _ | omega | (simp; done) | (simp; omega)) _ | with_reducible refine Below.setCell ?_ (by first | exact Nat.le_refl _ | omega | (simp; done) | (simp; omega)) _ | (with_reducible refine ext_trans ?_ (by with_reducible assumption)))))
      have hw3 : Below w.heap.size w w3 := (by repeat (first | with_reducible exact Below.refl _ _ | with_reducible assumption | with_reducible refine Below.drew ?_ | with_reducible refine Below.alloc ?_ (by first | exact Nat.le_refl _ | omega | (simp; done) | (simp; omega)) _ | with_reducible refine Below.setCell ?_ (by first | exact Nat.le_refl _ | omega | (simp; done) | (simp; omega)) _ | (with_reducible refine ext_trans ?_ (by with_reducible assumption))))
      clear r0_rl_2 f0_rl_2 r1_rl_2 f1_rl_2 r2_rl_2 f2_rl_2
      have lRl_3 : w1.heap.size < w3.heap.size := by omega
      have Rl_3 := Lib.hid rl_3
      have r0_rl_3 := cell_of_row _ _ 0 _ _ _ rl_3
      have r1_rl_3 := cell_of_row _ _ 1 _ _ _ rl_3
      have r2_rl_3 := cell_of_row _ _ 2 _ _ _ rl_3
      have f0_rl_3 := frozen_of_row _ _ 0 _ _ rl_3
      have f1_rl_3 := frozen_of_row _ _ 1 _ _ rl_3
      have f2_rl_3 := frozen_of_row _ _ 2 _ _ rl_3
      simp at r0_rl_3 r1_rl_3 r2_rl_3
      clear rl_3
      go_wp2_with fail
      refine (Y3.out _ _ (rd_own Ol_3.out)).mono ?_
      rintro e w4 ⟨rfl, hb4⟩
      have hz4 := hb4.size
      (try simp at hz4)
      have rl_4 : w4.heap[w1.heap.size]? = some (.cells #[.int .i64 m, .int .i64 ip, .slice A1 l.length c1] 37 (0, 0)) := (hb4.block _ (by first | omega | (simp; done) | (simp; omega))).trans (by repeat (first | (with_reducible apply heap_setCell_same) | (with_reducible apply drew_row) | (with_reducible apply drewN_row) | (with_reducible exact Rl_3.out) | (with_reducible refine (heap_setCell_other _ _ _ _ (by first | omega | (simp; done) | (simp; omega))).trans ?_) | (with_reducible refine (Below.heap_alloc _ _ _ (by first | omega | (simp; done) | (simp; omega))).trans ?_)))
      have Ol_4 := Lib.hid (own_below Ol_3.out (w' := w4) (by repeat (first | with_reducible exact Below.refl _ _ | with_reducible assumption | with_reducible refine Below.drew ?_ | with_reducible refine Below.alloc ?_ (by first | exact Nat.le_refl _ | omega | (simp; done) | (simp; omega)) _ | with_reducible refine Below.setCell ?_ (by first | exact Nat.le_refl _ | omega | (simp; done) | (simp; omega)) _ | (with_reducible refine ext_trans ?_ (by with_reducible assumption)))))
      have hw4 : Below w.heap.size w w4 := (by repeat (first | with_reducible exact Below.refl _ _ | with_reducible assumption | with_reducible refine Below.drew ?_ | with_reducible refine Below.alloc ?_ (by first | exact Nat.le_refl _ | omega | (simp; done) | (simp; omega)) _ | with_reducible refine Below.setCell ?_ (by first | exact Nat.le_refl _ | omega | (simp; done) | (simp; omega)) _ | (with_reducible refine ext_trans ?_ (by with_reducible assumption))))
      clear r0_rl_3 f0_rl_3 r1_rl_3 f1_rl_3 r2_rl_3 f2_rl_3
      have lRl_4 : w1.heap.size < w4.heap.size := by omega
      have Rl_4 := Lib.hid rl_4
      have r0_rl_4 := cell_of_row _ _ 0 _ _ _ rl_4
      have r1_rl_4 := cell_of_row _ _ 1 _ _ _ rl_4
      have r2_rl_4 := cell_of_row _ _ 2 _ _ _ rl_4
      have f0_rl_4 := frozen_of_row _ _ 0 _ _ rl_4
      have f1_rl_4 := frozen_of_row _ _ 1 _ _ rl_4
      have f2_rl_4 := frozen_of_row _ _ 2 _ _ rl_4
      simp at r0_rl_4 r1_rl_4 r2_rl_4
      clear rl_4
      go_wp2_with fail
      refine (Y5.out _).mono ?_
      rintro e w5 ⟨v5, rfl, hO5, hb5⟩
      have hz5 := hb5.size
      (try simp at hz5)
      have rl_5 : w5.heap[w1.heap.size]? = some (.cells #[.int .i64 m, .int .i64 ip, .slice A1 l.length c1] 37 (0, 0)) := (hb5.block _ (by first | omega | (simp; done) | (simp; omega))).trans (by repeat (first | (with_reducible apply heap_setCell_same) | (with_reducible apply drew_row) | (with_reducible apply drewN_row) | (with_reducible exact Rl_4.out) | (with_reducible refine (heap_setCell_other _ _ _ _ (by first | omega | (simp; done) | (simp; omega))).trans ?_) | (with_reducible refine (Below.heap_alloc _ _ _ (by first | omega | (simp; done) | (simp; omega))).trans ?_)))
      have ro_5 : w5.heap[w4.heap.size]? = some (.cells #[.int .i64 hw, .int .i64 ip, .slice none 0 0] 37 (0, 0)) := (hb5.block _ (by first | (simp; done) | (simp; omega))).trans (by repeat (first | exact heap_new _ _ _ (by first | rfl | (simp; done) | (simp; omega)) | refine (Below.heap_alloc _ _ _ (by first | omega | (simp; done) | (simp; omega))).trans ?_))
      have Ol_5 := Lib.hid (own_below Ol_4.out (w' := w5) (by repeat (first | with_reducible exact Below.refl _ _ | with_reducible assumption | with_reducible refine Below.drew ?_ | with_reducible refine Below.alloc ?_ (by first | exact Nat.le_refl _ | omega | (simp; done) | (simp; omega)) _ | with_reducible refine Below.setCell ?_ (by first | exact Nat.le_refl _ | omega | (simp; done) | (simp; omega)) _ | (with_reducible refine ext_trans ?_ (by with_reducible assumption)))))
      have hw5 : Below w.heap.size w w5 := (by repeat (first | with_reducible exact Below.refl _ _ | with_reducible assumption | with_reducible refine Below.drew ?_ | with_reducible refine Below.alloc ?_ (by first | exact Nat.le_refl _ | omega | (simp; done) | (simp; omega)) _ | with_reducible refine Below.setCell ?_ (by first | exact Nat.le_refl _ | omega | (simp; done) | (simp; omega)) _ | (with_reducible refine ext_trans ?_ (by with_reducible assumption))))
      clear r0_rl_4 f0_rl_4 r1_rl_4 f1_rl_4 r2_rl_4 f2_rl_4
      have lRl_5 : w1.heap.size < w5.heap.size := by omega
      have Rl_5 := Lib.hid rl_5
      have r0_rl_5 := cell_of_row _ _ 0 _ _ _ rl_5
      have r1_rl_5 := cell_of_row _ _ 1 _ _ _ rl_5
      have r2_rl_5 := cell_of_row _ _ 2 _ _ _ rl_5
      have f0_rl_5 := frozen_of_row _ _ 0 _ _ rl_5
      have f1_rl_5 := frozen_of_row _ _ 1 _ _ rl_5
      have f2_rl_5 := frozen_of_row _ _ 2 _ _ rl_5
      simp at r0_rl_5 r1_rl_5 r2_rl_5
      clear rl_5
      have lRo_5 : w4.heap.size < w5.heap.size := by omega
      have Ro_5 := Lib.hid ro_5
      have r0_ro_5 := cell_of_row _ _ 0 _ _ _ ro_5
      have r1_ro_5 := cell_of_row _ _ 1 _ _ _ ro_5
      have r2_ro_5 := cell_of_row _ _ 2 _ _ _ ro_5
      have f0_ro_5 := frozen_of_row _ _ 0 _ _ ro_5
      have f1_ro_5 := frozen_of_row _ _ 1 _ _ ro_5
      have f2_ro_5 := frozen_of_row _ _ 2 _ _ ro_5
      simp at r0_ro_5 r1_ro_5 r2_ro_5
      clear ro_5
      obtain ⟨A5, c5, rfl⟩ := hO5.form
      clear hO5
      go_wp2_with fail
      go_ret
      exact ⟨by first | rfl | (simp; done) | (simp; rfl) | (simp; omega), (by repeat (first | with_reducible exact Below.refl _ _ | with_reducible assumption | with_reducible refine Below.drew ?_ | with_reducible refine Below.alloc ?_ (by first | exact Nat.le_refl _ | omega | (simp; done) | (simp; omega)) _ | with_reducible refine Below.setCell ?_ (by first | exact Nat.le_refl _ | omega | (simp; done) | (simp; omega)) _ | (with_reducible refine ext_trans ?_ (by with_reducible assumption))))⟩
    have hq2 : (ip == q) = false := by simpa using hq
    have Y5 : Hid (∀ W, Calls Try.prog 42 #[.agg #[.int .i64 hw, .int .i64 ip, .slice none 0 0], .string F] W fun e w' => ∃ v, e = .returned (.tuple #[.agg #[.int .i64 hw, .int .i64 ip, v], .int .i64 2, .agg #[.int .i64 q, .int .i64 ip, .int .i64 p3, .int .i64 6, .int .i64 p5, .string body], .string ⟨#[]⟩]) ∧ OwnEntry w' W.heap.size v r ∧ Below W.heap.size W w') := fun W => by
      have h2 := Y4 W
      rw [if_neg (by rintro (h | h); exact he h; exact hq h)] at h2
      exact h2
    clear Y4
    go_wp2_with fail
    refine (Y1.out _ _ (rd_own (own_below Ol_1.out (by repeat (first | with_reducible exact Below.refl _ _ | with_reducible assumption | with_reducible refine Below.drew ?_ | with_reducible refine Below.alloc ?_ (by first | exact Nat.le_refl _ | omega | (simp; done) | (simp; omega)) _ | with_reducible refine Below.setCell ?_ (by first | exact Nat.le_refl _ | omega | (simp; done) | (simp; omega)) _ | (with_reducible refine ext_trans ?_ (by with_reducible assumption))))))).mono ?_
    rintro e w2 ⟨rfl, hb2⟩
    have hz2 := hb2.size
    (try simp at hz2)
    have rl_2 : w2.heap[w1.heap.size]? = some (.cells #[.int .i64 m, .int .i64 q, .slice A1 l.length c1] 37 (0, 0)) := (hb2.block _ (by first | (simp; done) | (simp; omega))).trans (by repeat (first | exact heap_new _ _ _ (by first | rfl | (simp; done) | (simp; omega)) | refine (Below.heap_alloc _ _ _ (by first | omega | (simp; done) | (simp; omega))).trans ?_))
    have Ol_2 := Lib.hid (own_below Ol_1.out (w' := w2) (by repeat (first | with_reducible exact Below.refl _ _ | with_reducible assumption | with_reducible refine Below.drew ?_ | with_reducible refine Below.alloc ?_ (by first | exact Nat.le_refl _ | omega | (simp; done) | (simp; omega)) _ | with_reducible refine Below.setCell ?_ (by first | exact Nat.le_refl _ | omega | (simp; done) | (simp; omega)) _ | (with_reducible refine ext_trans ?_ (by with_reducible assumption)))))
    have hw2 : Below w.heap.size w w2 := (by repeat (first | with_reducible exact Below.refl _ _ | with_reducible assumption | with_reducible refine Below.drew ?_ | with_reducible refine Below.alloc ?_ (by first | exact Nat.le_refl _ | omega | (simp; done) | (simp; omega)) _ | with_reducible refine Below.setCell ?_ (by first | exact Nat.le_refl _ | omega | (simp; done) | (simp; omega)) _ | (with_reducible refine ext_trans ?_ (by with_reducible assumption))))
    have lRl_2 : w1.heap.size < w2.heap.size := by omega
    have Rl_2 := Lib.hid rl_2
    have r0_rl_2 := cell_of_row _ _ 0 _ _ _ rl_2
    have r1_rl_2 := cell_of_row _ _ 1 _ _ _ rl_2
    have r2_rl_2 := cell_of_row _ _ 2 _ _ _ rl_2
    have f0_rl_2 := frozen_of_row _ _ 0 _ _ rl_2
    have f1_rl_2 := frozen_of_row _ _ 1 _ _ rl_2
    have f2_rl_2 := frozen_of_row _ _ 2 _ _ rl_2
    simp at r0_rl_2 r1_rl_2 r2_rl_2
    clear rl_2
    go_wp2_with fail
    refine (Y2.out _ _ (rd_own Ol_2.out)).mono ?_
    rintro e w3 ⟨rfl, hb3⟩
    have hz3 := hb3.size
    (try simp at hz3)
    have rl_3 : w3.heap[w1.heap.size]? = some (.cells #[.int .i64 m, .int .i64 q, .slice A1 l.length c1] 37 (0, 0)) := (hb3.block _ (by first | omega | (simp; done) | (simp; omega))).trans (by repeat (first | (with_reducible apply heap_setCell_same) | (with_reducible apply drew_row) | (with_reducible apply drewN_row) | (with_reducible exact Rl_2.out) | (with_reducible refine (heap_setCell_other _ _ _ _ (by first | omega | (simp; done) | (simp; omega))).trans ?_) | (with_reducible refine (Below.heap_alloc _ _ _ (by first | omega | (simp; done) | (simp; omega))).trans ?_)))
    have Ol_3 := Lib.hid (own_below Ol_2.out (w' := w3) (by repeat (first | with_reducible exact Below.refl _ _ | with_reducible assumption | with_reducible refine Below.drew ?_ | with_reducible refine Below.alloc ?_ (by first | exact Nat.le_refl _ | omega | (simp; done) | (simp; omega)) _ | with_reducible refine Below.setCell ?_ (by first | exact Nat.le_refl _ | omega | (simp; done) | (simp; omega)) _ | (with_reducible refine ext_trans ?_ (by with_reducible assumption)))))
    have hw3 : Below w.heap.size w w3 := (by repeat (first | with_reducible exact Below.refl _ _ | with_reducible assumption | with_reducible refine Below.drew ?_ | with_reducible refine Below.alloc ?_ (by first | exact Nat.le_refl _ | omega | (simp; done) | (simp; omega)) _ | with_reducible refine Below.setCell ?_ (by first | exact Nat.le_refl _ | omega | (simp; done) | (simp; omega)) _ | (with_reducible refine ext_trans ?_ (by with_reducible assumption))))
    clear r0_rl_2 f0_rl_2 r1_rl_2 f1_rl_2 r2_rl_2 f2_rl_2
    have lRl_3 : w1.heap.size < w3.heap.size := by omega
    have Rl_3 := Lib.hid rl_3
    have r0_rl_3 := cell_of_row _ _ 0 _ _ _ rl_3
    have r1_rl_3 := cell_of_row _ _ 1 _ _ _ rl_3
    have r2_rl_3 := cell_of_row _ _ 2 _ _ _ rl_3
    have f0_rl_3 := frozen_of_row _ _ 0 _ _ rl_3
    have f1_rl_3 := frozen_of_row _ _ 1 _ _ rl_3
    have f2_rl_3 := frozen_of_row _ _ 2 _ _ rl_3
    simp at r0_rl_3 r1_rl_3 r2_rl_3
    clear rl_3
    go_wp2_with fail
    refine (Y3.out _ _ (rd_own Ol_3.out)).mono ?_
    rintro e w4 ⟨rfl, hb4⟩
    have hz4 := hb4.size
    (try simp at hz4)
    have rl_4 : w4.heap[w1.heap.size]? = some (.cells #[.int .i64 m, .int .i64 q, .slice A1 l.length c1] 37 (0, 0)) := (hb4.block _ (by first | omega | (simp; done) | (simp; omega))).trans (by repeat (first | (with_reducible apply heap_setCell_same) | (with_reducible apply drew_row) | (with_reducible apply drewN_row) | (with_reducible exact Rl_3.out) | (with_reducible refine (heap_setCell_other _ _ _ _ (by first | omega | (simp; done) | (simp; omega))).trans ?_) | (with_reducible refine (Below.heap_alloc _ _ _ (by first | omega | (simp; done) | (simp; omega))).trans ?_)))
    have Ol_4 := Lib.hid (own_below Ol_3.out (w' := w4) (by repeat (first | with_reducible exact Below.refl _ _ | with_reducible assumption | with_reducible refine Below.drew ?_ | with_reducible refine Below.alloc ?_ (by first | exact Nat.le_refl _ | omega | (simp; done) | (simp; omega)) _ | with_reducible refine Below.setCell ?_ (by first | exact Nat.le_refl _ | omega | (simp; done) | (simp; omega)) _ | (with_reducible refine ext_trans ?_ (by with_reducible assumption)))))
    have hw4 : Below w.heap.size w w4 := (by repeat (first | with_reducible exact Below.refl _ _ | with_reducible assumption | with_reducible refine Below.drew ?_ | with_reducible refine Below.alloc ?_ (by first | exact Nat.le_refl _ | omega | (simp; done) | (simp; omega)) _ | with_reducible refine Below.setCell ?_ (by first | exact Nat.le_refl _ | omega | (simp; done) | (simp; omega)) _ | (with_reducible refine ext_trans ?_ (by with_reducible assumption))))
    clear r0_rl_3 f0_rl_3 r1_rl_3 f1_rl_3 r2_rl_3 f2_rl_3
    have lRl_4 : w1.heap.size < w4.heap.size := by omega
    have Rl_4 := Lib.hid rl_4
    have r0_rl_4 := cell_of_row _ _ 0 _ _ _ rl_4
    have r1_rl_4 := cell_of_row _ _ 1 _ _ _ rl_4
    have r2_rl_4 := cell_of_row _ _ 2 _ _ _ rl_4
    have f0_rl_4 := frozen_of_row _ _ 0 _ _ rl_4
    have f1_rl_4 := frozen_of_row _ _ 1 _ _ rl_4
    have f2_rl_4 := frozen_of_row _ _ 2 _ _ rl_4
    simp at r0_rl_4 r1_rl_4 r2_rl_4
    clear rl_4
    go_wp2_with fail
    refine (Y5.out _).mono ?_
    rintro e w5 ⟨v5, rfl, hO5, hb5⟩
    have hz5 := hb5.size
    (try simp at hz5)
    have rl_5 : w5.heap[w1.heap.size]? = some (.cells #[.int .i64 m, .int .i64 q, .slice A1 l.length c1] 37 (0, 0)) := (hb5.block _ (by first | omega | (simp; done) | (simp; omega))).trans (by repeat (first | (with_reducible apply heap_setCell_same) | (with_reducible apply drew_row) | (with_reducible apply drewN_row) | (with_reducible exact Rl_4.out) | (with_reducible refine (heap_setCell_other _ _ _ _ (by first | omega | (simp; done) | (simp; omega))).trans ?_) | (with_reducible refine (Below.heap_alloc _ _ _ (by first | omega | (simp; done) | (simp; omega))).trans ?_)))
    have ro_5 : w5.heap[w4.heap.size]? = some (.cells #[.int .i64 hw, .int .i64 ip, .slice none 0 0] 37 (0, 0)) := (hb5.block _ (by first | (simp; done) | (simp; omega))).trans (by repeat (first | exact heap_new _ _ _ (by first | rfl | (simp; done) | (simp; omega)) | refine (Below.heap_alloc _ _ _ (by first | omega | (simp; done) | (simp; omega))).trans ?_))
    have Ol_5 := Lib.hid (own_below Ol_4.out (w' := w5) (by repeat (first | with_reducible exact Below.refl _ _ | with_reducible assumption | with_reducible refine Below.drew ?_ | with_reducible refine Below.alloc ?_ (by first | exact Nat.le_refl _ | omega | (simp; done) | (simp; omega)) _ | with_reducible refine Below.setCell ?_ (by first | exact Nat.le_refl _ | omega | (simp; done) | (simp; omega)) _ | (with_reducible refine ext_trans ?_ (by with_reducible assumption)))))
    have hw5 : Below w.heap.size w w5 := (by repeat (first | with_reducible exact Below.refl _ _ | with_reducible assumption | with_reducible refine Below.drew ?_ | with_reducible refine Below.alloc ?_ (by first | exact Nat.le_refl _ | omega | (simp; done) | (simp; omega)) _ | with_reducible refine Below.setCell ?_ (by first | exact Nat.le_refl _ | omega | (simp; done) | (simp; omega)) _ | (with_reducible refine ext_trans ?_ (by with_reducible assumption))))
    clear r0_rl_4 f0_rl_4 r1_rl_4 f1_rl_4 r2_rl_4 f2_rl_4
    have lRl_5 : w1.heap.size < w5.heap.size := by omega
    have Rl_5 := Lib.hid rl_5
    have r0_rl_5 := cell_of_row _ _ 0 _ _ _ rl_5
    have r1_rl_5 := cell_of_row _ _ 1 _ _ _ rl_5
    have r2_rl_5 := cell_of_row _ _ 2 _ _ _ rl_5
    have f0_rl_5 := frozen_of_row _ _ 0 _ _ rl_5
    have f1_rl_5 := frozen_of_row _ _ 1 _ _ rl_5
    have f2_rl_5 := frozen_of_row _ _ 2 _ _ rl_5
    simp at r0_rl_5 r1_rl_5 r2_rl_5
    clear rl_5
    have lRo_5 : w4.heap.size < w5.heap.size := by omega
    have Ro_5 := Lib.hid ro_5
    have r0_ro_5 := cell_of_row _ _ 0 _ _ _ ro_5
    have r1_ro_5 := cell_of_row _ _ 1 _ _ _ ro_5
    have r2_ro_5 := cell_of_row _ _ 2 _ _ _ ro_5
    have f0_ro_5 := frozen_of_row _ _ 0 _ _ ro_5
    have f1_ro_5 := frozen_of_row _ _ 1 _ _ ro_5
    have f2_ro_5 := frozen_of_row _ _ 2 _ _ ro_5
    simp at r0_ro_5 r1_ro_5 r2_ro_5
    clear ro_5
    obtain ⟨A5, c5, rfl⟩ := hO5.form
    clear hO5
    go_wp2_with fail
    go_ret
    exact ⟨by first | rfl | (simp; done) | (simp; rfl) | (simp; omega), (by repeat (first | with_reducible exact Below.refl _ _ | with_reducible assumption | with_reducible refine Below.drew ?_ | with_reducible refine Below.alloc ?_ (by first | exact Nat.le_refl _ | omega | (simp; done) | (simp; omega)) _ | with_reducible refine Below.setCell ?_ (by first | exact Nat.le_refl _ | omega | (simp; done) | (simp; omega)) _ | (with_reducible refine ext_trans ?_ (by with_reducible assumption))))⟩

set_option maxRecDepth 100000 in
theorem FnLinkBack_lifted (os : Os) (started : os.Started) (H : Type) (enc : TypeId × Value → H) :
    ReturnsInHanded {} Try.checked os 11 .any (Rows.fnLinkBackSpec.pre6 enc Try.prog Try.f11 Rows.fnLinkBackRow.domain false) (Rows.fnLinkBackSpec.post enc Try.prog Try.f11 false true false false) := by
  refine law_lifted (C := Try.checked) own_ started (by kernel_rfl) Try.func11 laid_ rfl ?_ ?_ rfl Try.underlying4
    (ChangeSpec.witness6 (enc := enc) (C := Try.checked) false ⟨#[], #[.slice none 0 0], []⟩ 8 (by kernel_rfl) (by kernel_rfl) (by kernel_rfl) (by kernel_rfl)) ?_
  · intro ds h
    match ds, h with
    | [_], _ => rfl
  · intro t ht
    rw [Try.params11] at ht
    simp at ht
    subst ht
    exact ⟨by kernel_rfl, of_decide_eq_true (by kernel_rfl)⟩
  · intro W base args ds p hval hA hlt
    have hval : ∀ (j : Nat) t v, Try.f11.params[j]? = some t → args[j]? = some v → Value.okWide Try.prog W .any base t v := hval
    have hA : DataW.TrodAll enc Try.prog W 0 (fun _ => true) true Try.f11.params.toList args.toList ds p := hA
    rw [Try.params11] at hA hval
    obtain ⟨v0, d0, rfl, rfl, h0⟩ := trodAll_one hA
    obtain ⟨Aa, na, ca, rfl, wna, wba, wca⟩ := open_bytes (hval 0 42 v0 rfl rfl) h0
    exact FnLinkBack_walk wna W wba

theorem FnLinkBack_holds : Rows.FnLinkBackSaid :=
  OpenClaim.holds_of_wide 11 Try.f11 rfl rfl rfl rfl rfl rfl rfl ⟨rfl, rfl, rfl, rfl, rfl⟩ rfl rfl rfl rfl rfl (by kernel_rfl) Try.func11 (by kernel_rfl)
    (of_decide_eq_true (by kernel_rfl)) (by have hw := wrap_ (P := Try.prog) (fn := Try.f11) (by kernel_rfl); exact hw)
    (fun os started H enc _ => FnLinkBack_lifted os started H enc)
end Go.Proofs.Yteaniiponikpjaa
