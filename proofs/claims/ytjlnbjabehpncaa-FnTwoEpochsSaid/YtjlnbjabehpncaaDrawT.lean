/-
  Contracts of the draws of tuples.
-/
import Derived.Test.YtjlnbjabehpncaaDrawN
import Derived.Test.YtjlnbjabehpncaaBytes
namespace Go.Proofs.Ytjlnbjabehpncaa
open Go.RowKit

def DrewTuple (w : World) (B g : Nat) (e : Ending) (w' : World) : Prop :=
  ∃ a b c : Int, e = .returned (.agg #[.int .i64 a, .int .i64 b, .int .i64 c]) ∧ I64 a ∧ I64 b ∧ I64 c ∧ Cur w' B g ∧ w.grownBy w' (some g)

theorem l12Tuple_any {w : World} {B g : Nat} (hcur : Cur w B g) :
    Calls Try.prog 78 #[.pointer (some ⟨g, 0, none⟩)] w (DrewTuple w B g) := by
  have hlt := hcur.lt
  have hlow := hcur.low
  go_enter Try.func78, Try.ntmps78
  go_wp2_with fail
  refine (l6Ip_any (B := B) (by repeat (first | with_reducible assumption | with_reducible refine Cur.alloc ?_ _ | with_reducible refine Cur.drew ?_ | with_reducible refine Cur.setOther ?_ (by first | omega | (simp; done) | (simp; omega)) (by first | omega | (simp; done) | (simp; omega)) _))).mono ?_
  rintro e w1 ⟨x1, rfl, ⟨hl1, hh1⟩, hc1, ho1⟩
  have hlt1 := hc1.lt
  obtain ⟨hd1, hf1⟩ := gcell ho1
  have hz1 := ho1.size
  (try simp at hz1)
  have hy1_0 : w.heap.size < w1.heap.size := by omega
  have hn1_0 : ¬ w.heap.size = g := by omega
  go_wp2_with fail
  refine (l1Pick_new (40000) (40002) (by repeat (first | with_reducible assumption | with_reducible refine Cur.alloc ?_ _ | with_reducible refine Cur.drew ?_ | with_reducible refine Cur.setOther ?_ (by first | omega | (simp; done) | (simp; omega)) (by first | omega | (simp; done) | (simp; omega)) _)) (by rfl) (by omega) (by omega) (by kernel_rfl)).mono ?_
  rintro e w2 ⟨x2, rfl, ⟨hl2, hh2⟩, hc2, ho2⟩
  have hlt2 := hc2.lt
  obtain ⟨hd2, hf2⟩ := gcell ho2
  have hz2 := ho2.size
  (try simp at hz2)
  have hy2_0 : w.heap.size < w2.heap.size := by omega
  have hn2_0 : ¬ w.heap.size = g := by omega
  go_wp2_with fail
  have hr : w2.heap[w.heap.size]? = some (.cells #[.int .i64 0, .int .i64 0, .int .i64 0] 33 (0, 0)) := (grow ho2 (by simp; omega) (by omega)).trans ((Below.heap_alloc _ _ _ (by omega)).trans ((grow ho1 (by simp) (by omega)).trans (heap_alloc_new _ _)))
  apply bodyPost_ret (results_cell_row (P := Try.prog) (fn := Try.f78) rfl _ _ _ 33 _ (0, 0) _ rfl _ Try.underlying33 rfl _) rfl
  rotate_left 2
  · repeat (first | (with_reducible apply heap_setCell_same) | (with_reducible apply drew_row) | (with_reducible apply drewN_row) | (with_reducible exact hr) | (with_reducible refine (heap_setCell_other _ _ _ _ (by first | omega | (simp; done) | (simp; omega))).trans ?_) | (with_reducible refine (Below.heap_alloc _ _ _ (by first | omega | (simp; done) | (simp; omega))).trans ?_))
  · kernel_rfl
  refine ⟨_, _, _, by simp; exact ⟨rfl, rfl, rfl⟩, ⟨by omega, by omega⟩, ⟨by omega, by omega⟩, ⟨by omega, by omega⟩, (by repeat (first | with_reducible assumption | with_reducible refine Cur.alloc ?_ _ | with_reducible refine Cur.drew ?_ | with_reducible refine Cur.setOther ?_ (by first | omega | (simp; done) | (simp; omega)) (by first | omega | (simp; done) | (simp; omega)) _)), (by repeat (first | with_reducible assumption | with_reducible exact World.grownBy.refl _ _ | with_reducible refine only_alloc ?_ _ | with_reducible refine only_drew ?_ | with_reducible refine only_drewN ?_ _ | with_reducible refine only_setNew ?_ (by first | omega | (simp; done) | (simp; omega)) _ | (with_reducible refine only_trans ?_ (by with_reducible assumption))))⟩

theorem l12Bent_any {w : World} {B g : Nat} (hcur : Cur w B g) :
    Calls Try.prog 46 #[.pointer (some ⟨g, 0, none⟩)] w (DrewTuple w B g) := by
  have hlt := hcur.lt
  have hlow := hcur.low
  go_enter Try.func46, Try.ntmps46
  go_wp2_with fail
  refine (l12Tuple_any (B := B) (by repeat (first | with_reducible assumption | with_reducible refine Cur.alloc ?_ _ | with_reducible refine Cur.drew ?_ | with_reducible refine Cur.setOther ?_ (by first | omega | (simp; done) | (simp; omega)) (by first | omega | (simp; done) | (simp; omega)) _))).mono ?_
  rintro e w1 ⟨x1a, x1b, x1c, rfl, hi1a, hi1b, hi1c, hc1, ho1⟩
  have hlt1 := hc1.lt
  obtain ⟨hd1, hf1⟩ := gcell ho1
  have hz1 := ho1.size
  (try simp at hz1)
  have hy1_0 : w.heap.size < w1.heap.size := by omega
  have hn1_0 : ¬ w.heap.size = g := by omega
  go_wp2_with fail
  refine (l1Below_any (B := B) (by repeat (first | with_reducible assumption | with_reducible refine Cur.alloc ?_ _ | with_reducible refine Cur.drew ?_ | with_reducible refine Cur.setOther ?_ (by first | omega | (simp; done) | (simp; omega)) (by first | omega | (simp; done) | (simp; omega)) _)) 10 (by omega) (by omega)).mono ?_
  rintro e w2 ⟨x2, rfl, ⟨hl2, hh2⟩, hc2, ho2⟩
  have hlt2 := hc2.lt
  obtain ⟨hd2, hf2⟩ := gcell ho2
  have hz2 := ho2.size
  (try simp at hz2)
  have hy2_0 : w.heap.size < w2.heap.size := by omega
  have hn2_0 : ¬ w.heap.size = g := by omega
  have hy2_1 : w1.heap.size < w2.heap.size := by omega
  have hn2_1 : ¬ w1.heap.size = g := by omega
  have hr2 : w2.heap[w.heap.size]? = some (.cells #[.int .i64 0, .int .i64 0, .int .i64 0] 33 (0, 0)) := (grow ho2 (by simp; omega) (by omega)).trans ((Below.heap_alloc _ _ _ (by omega)).trans ((grow ho1 (by simp) (by omega)).trans (heap_alloc_new _ _)))
  by_cases k0 : x2 = 0
  · subst k0
    go_wp2_with fail
    refine (l2Word_any hc2).mono ?_
    rintro e w3 ⟨x3, rfl, hi3, hc3, ho3⟩
    have hlt3 := hc3.lt
    obtain ⟨hd3, hf3⟩ := gcell ho3
    have hz3 := ho3.size
    (try simp at hz3)
    have hy3_0 : w.heap.size < w3.heap.size := by omega
    have hn3_0 : ¬ w.heap.size = g := by omega
    have hy3_1 : w1.heap.size < w3.heap.size := by omega
    have hn3_1 : ¬ w1.heap.size = g := by omega
    go_wp2_with fail
    have hr : w3.heap[w.heap.size]? = _ := (grow ho3 (by omega) (by omega)).trans hr2
    apply bodyPost_ret (results_cell_row (P := Try.prog) (fn := Try.f46) rfl _ _ _ 33 _ (0, 0) _ rfl _ Try.underlying33 rfl _) rfl
    rotate_left 2
    · repeat (first | (with_reducible apply heap_setCell_same) | (with_reducible apply drew_row) | (with_reducible apply drewN_row) | (with_reducible exact hr) | (with_reducible refine (heap_setCell_other _ _ _ _ (by first | omega | (simp; done) | (simp; omega))).trans ?_) | (with_reducible refine (Below.heap_alloc _ _ _ (by first | omega | (simp; done) | (simp; omega))).trans ?_))
    · kernel_rfl
    refine ⟨_, _, _, by simp, hi3, hi1b, hi1c, (by repeat (first | with_reducible assumption | with_reducible refine Cur.alloc ?_ _ | with_reducible refine Cur.drew ?_ | with_reducible refine Cur.setOther ?_ (by first | omega | (simp; done) | (simp; omega)) (by first | omega | (simp; done) | (simp; omega)) _)), (by repeat (first | with_reducible assumption | with_reducible exact World.grownBy.refl _ _ | with_reducible refine only_alloc ?_ _ | with_reducible refine only_drew ?_ | with_reducible refine only_drewN ?_ _ | with_reducible refine only_setNew ?_ (by first | omega | (simp; done) | (simp; omega)) _ | (with_reducible refine only_trans ?_ (by with_reducible assumption))))⟩
  by_cases k1 : x2 = 1
  · subst k1
    go_wp2_with fail
    refine (l2Word_any hc2).mono ?_
    rintro e w3 ⟨x3, rfl, hi3, hc3, ho3⟩
    have hlt3 := hc3.lt
    obtain ⟨hd3, hf3⟩ := gcell ho3
    have hz3 := ho3.size
    (try simp at hz3)
    have hy3_0 : w.heap.size < w3.heap.size := by omega
    have hn3_0 : ¬ w.heap.size = g := by omega
    have hy3_1 : w1.heap.size < w3.heap.size := by omega
    have hn3_1 : ¬ w1.heap.size = g := by omega
    go_wp2_with fail
    have hr : w3.heap[w.heap.size]? = _ := (grow ho3 (by omega) (by omega)).trans hr2
    apply bodyPost_ret (results_cell_row (P := Try.prog) (fn := Try.f46) rfl _ _ _ 33 _ (0, 0) _ rfl _ Try.underlying33 rfl _) rfl
    rotate_left 2
    · repeat (first | (with_reducible apply heap_setCell_same) | (with_reducible apply drew_row) | (with_reducible apply drewN_row) | (with_reducible exact hr) | (with_reducible refine (heap_setCell_other _ _ _ _ (by first | omega | (simp; done) | (simp; omega))).trans ?_) | (with_reducible refine (Below.heap_alloc _ _ _ (by first | omega | (simp; done) | (simp; omega))).trans ?_))
    · kernel_rfl
    refine ⟨_, _, _, by simp, hi1a, hi3, hi1c, (by repeat (first | with_reducible assumption | with_reducible refine Cur.alloc ?_ _ | with_reducible refine Cur.drew ?_ | with_reducible refine Cur.setOther ?_ (by first | omega | (simp; done) | (simp; omega)) (by first | omega | (simp; done) | (simp; omega)) _)), (by repeat (first | with_reducible assumption | with_reducible exact World.grownBy.refl _ _ | with_reducible refine only_alloc ?_ _ | with_reducible refine only_drew ?_ | with_reducible refine only_drewN ?_ _ | with_reducible refine only_setNew ?_ (by first | omega | (simp; done) | (simp; omega)) _ | (with_reducible refine only_trans ?_ (by with_reducible assumption))))⟩
  by_cases k2 : x2 = 2
  · subst k2
    go_wp2_with fail
    refine (l2Word_any hc2).mono ?_
    rintro e w3 ⟨x3, rfl, hi3, hc3, ho3⟩
    have hlt3 := hc3.lt
    obtain ⟨hd3, hf3⟩ := gcell ho3
    have hz3 := ho3.size
    (try simp at hz3)
    have hy3_0 : w.heap.size < w3.heap.size := by omega
    have hn3_0 : ¬ w.heap.size = g := by omega
    have hy3_1 : w1.heap.size < w3.heap.size := by omega
    have hn3_1 : ¬ w1.heap.size = g := by omega
    go_wp2_with fail
    have hr : w3.heap[w.heap.size]? = _ := (grow ho3 (by omega) (by omega)).trans hr2
    apply bodyPost_ret (results_cell_row (P := Try.prog) (fn := Try.f46) rfl _ _ _ 33 _ (0, 0) _ rfl _ Try.underlying33 rfl _) rfl
    rotate_left 2
    · repeat (first | (with_reducible apply heap_setCell_same) | (with_reducible apply drew_row) | (with_reducible apply drewN_row) | (with_reducible exact hr) | (with_reducible refine (heap_setCell_other _ _ _ _ (by first | omega | (simp; done) | (simp; omega))).trans ?_) | (with_reducible refine (Below.heap_alloc _ _ _ (by first | omega | (simp; done) | (simp; omega))).trans ?_))
    · kernel_rfl
    refine ⟨_, _, _, by simp, hi1a, hi1b, hi3, (by repeat (first | with_reducible assumption | with_reducible refine Cur.alloc ?_ _ | with_reducible refine Cur.drew ?_ | with_reducible refine Cur.setOther ?_ (by first | omega | (simp; done) | (simp; omega)) (by first | omega | (simp; done) | (simp; omega)) _)), (by repeat (first | with_reducible assumption | with_reducible exact World.grownBy.refl _ _ | with_reducible refine only_alloc ?_ _ | with_reducible refine only_drew ?_ | with_reducible refine only_drewN ?_ _ | with_reducible refine only_setNew ?_ (by first | omega | (simp; done) | (simp; omega)) _ | (with_reducible refine only_trans ?_ (by with_reducible assumption))))⟩
  have e0 : (x2 == 0) = false := by simpa using k0
  have e1 : (x2 == 1) = false := by simpa using k1
  have e2 : (x2 == 2) = false := by simpa using k2
  clear k0 k1 k2
  go_wp2_with fail
  apply bodyPost_ret (results_cell_row (P := Try.prog) (fn := Try.f46) rfl _ _ _ 33 _ (0, 0) _ rfl _ Try.underlying33 rfl _) rfl
  rotate_left 2
  · repeat (first | (with_reducible apply heap_setCell_same) | (with_reducible apply drew_row) | (with_reducible apply drewN_row) | (with_reducible exact hr2) | (with_reducible refine (heap_setCell_other _ _ _ _ (by first | omega | (simp; done) | (simp; omega))).trans ?_) | (with_reducible refine (Below.heap_alloc _ _ _ (by first | omega | (simp; done) | (simp; omega))).trans ?_))
  · kernel_rfl
  refine ⟨_, _, _, by simp, hi1a, hi1b, hi1c, (by repeat (first | with_reducible assumption | with_reducible refine Cur.alloc ?_ _ | with_reducible refine Cur.drew ?_ | with_reducible refine Cur.setOther ?_ (by first | omega | (simp; done) | (simp; omega)) (by first | omega | (simp; done) | (simp; omega)) _)), (by repeat (first | with_reducible assumption | with_reducible exact World.grownBy.refl _ _ | with_reducible refine only_alloc ?_ _ | with_reducible refine only_drew ?_ | with_reducible refine only_drewN ?_ _ | with_reducible refine only_setNew ?_ (by first | omega | (simp; done) | (simp; omega)) _ | (with_reducible refine only_trans ?_ (by with_reducible assumption))))⟩

def DrawnMacIn (w : World) (e : Ending) (w' : World) : Prop :=
  ∃ a b c s p i : Int, e = .returned (.tuple #[.agg #[.int .i64 a, .int .i64 b, .int .i64 c], .int .i64 s, .int .i64 p, .int .i64 i]) ∧ I64 a ∧ I64 b ∧ I64 c ∧ I64 s ∧ (-1 ≤ p ∧ p ≤ 4294967296) ∧ (-1 ≤ i ∧ i ≤ 8) ∧ Below w.heap.size w w'
theorem DrawMacInput_any {w : World} {A : Option Addr} {n c : Nat} (hn : n ≤ maxLen) (hb : Byts w w.heap.size A n) :
    Calls Try.prog 14 #[.slice A n c] w (DrawnMacIn w) := by
  go_enter Try.func14, Try.ntmps14
  go_wp2_with fail
  refine (l1New_any hn (hb.below ((Below.refl _ _).alloc (Nat.le_refl _) _))).mono ?_
  rintro e w1 ⟨g, rfl, hc1, hb1⟩
  have hlt1 := hc1.lt
  have hz1 := hb1.size
  have hlow := hc1.low
  simp at hz1 hlow
  go_wp2_with fail
  refine (l12Bent_any hc1).mono ?_
  rintro e w2 ⟨x2a, x2b, x2c, rfl, hi2a, hi2b, hi2c, hc2, ho2⟩
  have hlt2 := hc2.lt
  obtain ⟨hd2, hf2⟩ := gcell ho2
  have hz2 := ho2.size
  (try simp at hz2)
  have hy2_0 : w.heap.size < w2.heap.size := by omega
  have hn2_0 : ¬ w.heap.size = g := by omega
  go_wp2_with fail
  refine (l4Place_any hc2).mono ?_
  rintro e w3 ⟨x3, rfl, hi3, hc3, ho3⟩
  have hlt3 := hc3.lt
  obtain ⟨hd3, hf3⟩ := gcell ho3
  have hz3 := ho3.size
  (try simp at hz3)
  have hy3_0 : w.heap.size < w3.heap.size := by omega
  have hn3_0 : ¬ w.heap.size = g := by omega
  go_wp2_with fail
  refine (l1Pick_new (-1) (4294967296) (by repeat (first | with_reducible assumption | with_reducible refine Cur.alloc ?_ _ | with_reducible refine Cur.drew ?_ | with_reducible refine Cur.setOther ?_ (by first | omega | (simp; done) | (simp; omega)) (by first | omega | (simp; done) | (simp; omega)) _)) (by rfl) (by omega) (by omega) (by kernel_rfl)).mono ?_
  rintro e w4 ⟨x4, rfl, ⟨hl4, hh4⟩, hc4, ho4⟩
  have hlt4 := hc4.lt
  obtain ⟨hd4, hf4⟩ := gcell ho4
  have hz4 := ho4.size
  (try simp at hz4)
  have hy4_0 : w.heap.size < w4.heap.size := by omega
  have hn4_0 : ¬ w.heap.size = g := by omega
  go_wp2_with fail
  refine (l1Below_any hc4 10 (by omega) (by omega)).mono ?_
  rintro e w5 ⟨x5, rfl, ⟨hl5, hh5⟩, hc5, ho5⟩
  have hlt5 := hc5.lt
  obtain ⟨hd5, hf5⟩ := gcell ho5
  have hz5 := ho5.size
  (try simp at hz5)
  have hy5_0 : w.heap.size < w5.heap.size := by omega
  have hn5_0 : ¬ w.heap.size = g := by omega
  have hr : w5.heap[w.heap.size]? = some (.cells #[.int .i64 0, .int .i64 0, .int .i64 0] 33 (0, 0)) := (grow ho5 (by omega) (by omega)).trans ((grow ho4 (by simp; omega) (by omega)).trans ((Below.heap_alloc _ _ _ (by omega)).trans ((grow ho3 (by omega) (by omega)).trans ((grow ho2 (by omega) (by omega)).trans ((hb1.block _ (by simp)).trans (heap_alloc_new _ _))))))
  clear hd2 hf2 hd3 hf3 hd4 hf4 hd5 hf5
  have r0_hr := cell_of_row _ _ 0 _ _ _ hr
  have r1_hr := cell_of_row _ _ 1 _ _ _ hr
  have r2_hr := cell_of_row _ _ 2 _ _ _ hr
  have f0_hr := frozen_of_row _ _ 0 _ _ hr
  have f1_hr := frozen_of_row _ _ 1 _ _ hr
  have f2_hr := frozen_of_row _ _ 2 _ _ hr
  simp at r0_hr r1_hr r2_hr
  go_wp2_with fail
  apply bodyPost_ret (results_row_tmp3 (P := Try.prog) (fn := Try.f14) rfl _ _ _ 33 _ (0, 0) _ rfl _ Try.underlying33 rfl _) rfl
  rotate_left 2
  · repeat (first | (with_reducible apply heap_setCell_same) | (with_reducible apply drew_row) | (with_reducible apply drewN_row) | (with_reducible exact hr) | (with_reducible refine (heap_setCell_other _ _ _ _ (by first | omega | (simp; done) | (simp; omega))).trans ?_) | (with_reducible refine (Below.heap_alloc _ _ _ (by first | omega | (simp; done) | (simp; omega))).trans ?_))
  · kernel_rfl
  have hB : Below w.heap.size w w5 := (((Below.refl _ _).alloc (Nat.le_refl _) _).trans (hb1.mono (by simp))).trans (only_below (a := w1) (g := g) (by repeat (first | with_reducible assumption | with_reducible exact World.grownBy.refl _ _ | with_reducible refine only_alloc ?_ _ | with_reducible refine only_drew ?_ | with_reducible refine only_drewN ?_ _ | with_reducible refine only_setNew ?_ (by first | omega | (simp; done) | (simp; omega)) _ | (with_reducible refine only_trans ?_ (by with_reducible assumption)))) (by omega) (by omega))
  exact ⟨x2a, x2b, x2c, x3, x4, x5 - 1, by simp, hi2a, hi2b, hi2c, hi3, ⟨by omega, by omega⟩, ⟨by omega, by omega⟩, (by repeat (first | with_reducible exact Below.refl _ _ | with_reducible assumption | with_reducible refine Below.drew ?_ | with_reducible refine Below.alloc ?_ (by first | exact Nat.le_refl _ | omega | (simp; done) | (simp; omega)) _ | with_reducible refine Below.setCell ?_ (by first | exact Nat.le_refl _ | omega | (simp; done) | (simp; omega)) _ | (with_reducible refine ext_trans ?_ (by with_reducible assumption))))⟩
end Go.Proofs.Ytjlnbjabehpncaa
