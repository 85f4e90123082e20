/-
  The draws of messages: l6Arp, l5Frame, l7Packet.
-/
import Derived.Test.YteaniiponikpjaaEnl
import Derived.Test.YteaniiponikpjaaPkt
import Derived.Test.YteaniiponikpjaaArp
import Derived.Test.YteaniiponikpjaaBytes
import Derived.IntWalk
namespace Go.Proofs.Yteaniiponikpjaa
set_option maxRecDepth 100000
open Go.RowKit

def DrewArp (w : World) (B g : Nat) (e : Ending) (w' : World) : Prop := ∃ k1 k2 k3 k4 k5 : Int, e = .returned (.agg #[.int .i64 k1, .int .i64 k2, .int .i64 k3, .int .i64 k4, .int .i64 k5]) ∧ Cur w' B g ∧ w.grownBy w' (some g)
def DrewFrame (w : World) (B g : Nat) (e : Ending) (w' : World) : Prop := ∃ (k1 k2 k3 : Int) (s : ByteArray), e = .returned (.agg #[.int .i64 k1, .int .i64 k2, .int .i64 k3, .string s]) ∧ s.size ≤ 4096 ∧ Cur w' B g ∧ w.grownBy w' (some g)
def DrewPacket (w : World) (B g : Nat) (e : Ending) (w' : World) : Prop := ∃ (k1 k2 k3 k4 k5 : Int) (s : ByteArray), e = .returned (.agg #[.int .i64 k1, .int .i64 k2, .int .i64 k3, .int .i64 k4, .int .i64 k5, .string s]) ∧ s.size ≤ 4096 ∧ Cur w' B g ∧ w.grownBy w' (some g)
set_option maxHeartbeats 8000000 in
set_option linter.unusedVariables false in
set_option linter.unusedSimpArgs false in
theorem l6Arp_any {w : World} {B g : Nat} (hcur : Cur w B g) :
    Calls Try.prog 105 #[.pointer (some ⟨g, 0, none⟩)] w (DrewArp w B g) := by
  have hlt := hcur.lt
  have hlow := hcur.low
  go_enter Try.func105, Try.ntmps105
  go_wp2_with fail
  refine (l1Below_any (B := B) (by repeat (first | with_reducible assumption | with_reducible refine Cur.alloc ?_ _ | with_reducible refine Cur.drew ?_ | with_reducible refine Cur.setOther ?_ (by first | omega | (simp; done) | (simp; omega)) (by first | omega | (simp; done) | (simp; omega)) _)) 2 (by omega) (by omega)).mono ?_
  rintro e w1 ⟨x1, rfl, ⟨hl1, hh1⟩, hc1, ho1⟩
  have hz1 := ho1.size
  (try simp at hz1)
  have hlt1 := hc1.lt
  have hg1 : w.grownBy w1 (some g) := (by repeat (first | with_reducible assumption | with_reducible exact World.grownBy.refl _ _ | with_reducible refine only_alloc ?_ _ | with_reducible refine only_drew ?_ | with_reducible refine only_drewN ?_ _ | with_reducible refine only_setNew ?_ (by first | omega | (simp; done) | (simp; omega)) _ | (with_reducible refine only_trans ?_ (by with_reducible assumption))))
  have Rr1 : Hid (w1.heap[w.heap.size]? = some (.cells #[.int .i64 0, .int .i64 0, .int .i64 0, .int .i64 0, .int .i64 0] 91 (0, 0))) := Lib.hid ((grow ho1 (by first | omega | (simp; done) | (simp; omega)) (by omega)).trans (by repeat (first | exact heap_new _ _ _ (by first | rfl | (simp; done) | (simp; omega)) | refine (Below.heap_alloc _ _ _ (by first | omega | (simp; done) | (simp; omega))).trans ?_)))
  have lr1 : w.heap.size < w1.heap.size := by omega
  clear ho1
  go_wp2_with fail
  refine (l5Mac_any (B := B) (by repeat (first | with_reducible assumption | with_reducible refine Cur.alloc ?_ _ | with_reducible refine Cur.drew ?_ | with_reducible refine Cur.setOther ?_ (by first | omega | (simp; done) | (simp; omega)) (by first | omega | (simp; done) | (simp; omega)) _))).mono ?_
  rintro e w2 ⟨x2, rfl, ⟨hl2, hh2⟩, hc2, ho2⟩
  have hz2 := ho2.size
  (try simp at hz2)
  have hlt2 := hc2.lt
  have hg2 : w.grownBy w2 (some g) := (by repeat (first | with_reducible assumption | with_reducible exact World.grownBy.refl _ _ | with_reducible refine only_alloc ?_ _ | with_reducible refine only_drew ?_ | with_reducible refine only_drewN ?_ _ | with_reducible refine only_setNew ?_ (by first | omega | (simp; done) | (simp; omega)) _ | (with_reducible refine only_trans ?_ (by with_reducible assumption))))
  have Rr2 : Hid (w2.heap[w.heap.size]? = some (.cells #[.int .i64 0, .int .i64 0, .int .i64 0, .int .i64 0, .int .i64 0] 91 (0, 0))) := Lib.hid ((grow ho2 (by first | omega | (simp; done) | (simp; omega)) (by omega)).trans (by repeat (first | (with_reducible apply heap_setCell_same) | (with_reducible apply drew_row) | (with_reducible apply drewN_row) | (with_reducible exact Rr1.out) | (with_reducible refine (heap_setCell_other _ _ _ _ (by first | omega | (simp; done) | (simp; omega))).trans ?_) | (with_reducible refine (Below.heap_alloc _ _ _ (by first | omega | (simp; done) | (simp; omega))).trans ?_))))
  have lr2 : w.heap.size < w2.heap.size := by omega
  clear ho2
  go_wp2_with fail
  refine (l6Ip_any (B := B) (by repeat (first | with_reducible assumption | with_reducible refine Cur.alloc ?_ _ | with_reducible refine Cur.drew ?_ | with_reducible refine Cur.setOther ?_ (by first | omega | (simp; done) | (simp; omega)) (by first | omega | (simp; done) | (simp; omega)) _))).mono ?_
  rintro e w3 ⟨x3, rfl, ⟨hl3, hh3⟩, hc3, ho3⟩
  have hz3 := ho3.size
  (try simp at hz3)
  have hlt3 := hc3.lt
  have hg3 : w.grownBy w3 (some g) := (by repeat (first | with_reducible assumption | with_reducible exact World.grownBy.refl _ _ | with_reducible refine only_alloc ?_ _ | with_reducible refine only_drew ?_ | with_reducible refine only_drewN ?_ _ | with_reducible refine only_setNew ?_ (by first | omega | (simp; done) | (simp; omega)) _ | (with_reducible refine only_trans ?_ (by with_reducible assumption))))
  have Rr3 : Hid (w3.heap[w.heap.size]? = some (.cells #[.int .i64 0, .int .i64 0, .int .i64 0, .int .i64 0, .int .i64 0] 91 (0, 0))) := Lib.hid ((grow ho3 (by first | omega | (simp; done) | (simp; omega)) (by omega)).trans (by repeat (first | (with_reducible apply heap_setCell_same) | (with_reducible apply drew_row) | (with_reducible apply drewN_row) | (with_reducible exact Rr2.out) | (with_reducible refine (heap_setCell_other _ _ _ _ (by first | omega | (simp; done) | (simp; omega))).trans ?_) | (with_reducible refine (Below.heap_alloc _ _ _ (by first | omega | (simp; done) | (simp; omega))).trans ?_))))
  have lr3 : w.heap.size < w3.heap.size := by omega
  clear ho3
  go_wp2_with fail
  refine (l5Mac_any (B := B) (by repeat (first | with_reducible assumption | with_reducible refine Cur.alloc ?_ _ | with_reducible refine Cur.drew ?_ | with_reducible refine Cur.setOther ?_ (by first | omega | (simp; done) | (simp; omega)) (by first | omega | (simp; done) | (simp; omega)) _))).mono ?_
  rintro e w4 ⟨x4, rfl, ⟨hl4, hh4⟩, hc4, ho4⟩
  have hz4 := ho4.size
  (try simp at hz4)
  have hlt4 := hc4.lt
  have hg4 : w.grownBy w4 (some g) := (by repeat (first | with_reducible assumption | with_reducible exact World.grownBy.refl _ _ | with_reducible refine only_alloc ?_ _ | with_reducible refine only_drew ?_ | with_reducible refine only_drewN ?_ _ | with_reducible refine only_setNew ?_ (by first | omega | (simp; done) | (simp; omega)) _ | (with_reducible refine only_trans ?_ (by with_reducible assumption))))
  have Rr4 : Hid (w4.heap[w.heap.size]? = some (.cells #[.int .i64 0, .int .i64 0, .int .i64 0, .int .i64 0, .int .i64 0] 91 (0, 0))) := Lib.hid ((grow ho4 (by first | omega | (simp; done) | (simp; omega)) (by omega)).trans (by repeat (first | (with_reducible apply heap_setCell_same) | (with_reducible apply drew_row) | (with_reducible apply drewN_row) | (with_reducible exact Rr3.out) | (with_reducible refine (heap_setCell_other _ _ _ _ (by first | omega | (simp; done) | (simp; omega))).trans ?_) | (with_reducible refine (Below.heap_alloc _ _ _ (by first | omega | (simp; done) | (simp; omega))).trans ?_))))
  have lr4 : w.heap.size < w4.heap.size := by omega
  clear ho4
  go_wp2_with fail
  refine (l6Ip_any (B := B) (by repeat (first | with_reducible assumption | with_reducible refine Cur.alloc ?_ _ | with_reducible refine Cur.drew ?_ | with_reducible refine Cur.setOther ?_ (by first | omega | (simp; done) | (simp; omega)) (by first | omega | (simp; done) | (simp; omega)) _))).mono ?_
  rintro e w5 ⟨x5, rfl, ⟨hl5, hh5⟩, hc5, ho5⟩
  have hz5 := ho5.size
  (try simp at hz5)
  have hlt5 := hc5.lt
  have hg5 : w.grownBy w5 (some g) := (by repeat (first | with_reducible assumption | with_reducible exact World.grownBy.refl _ _ | with_reducible refine only_alloc ?_ _ | with_reducible refine only_drew ?_ | with_reducible refine only_drewN ?_ _ | with_reducible refine only_setNew ?_ (by first | omega | (simp; done) | (simp; omega)) _ | (with_reducible refine only_trans ?_ (by with_reducible assumption))))
  have Rr5 : Hid (w5.heap[w.heap.size]? = some (.cells #[.int .i64 0, .int .i64 0, .int .i64 0, .int .i64 0, .int .i64 0] 91 (0, 0))) := Lib.hid ((grow ho5 (by first | omega | (simp; done) | (simp; omega)) (by omega)).trans (by repeat (first | (with_reducible apply heap_setCell_same) | (with_reducible apply drew_row) | (with_reducible apply drewN_row) | (with_reducible exact Rr4.out) | (with_reducible refine (heap_setCell_other _ _ _ _ (by first | omega | (simp; done) | (simp; omega))).trans ?_) | (with_reducible refine (Below.heap_alloc _ _ _ (by first | omega | (simp; done) | (simp; omega))).trans ?_))))
  have lr5 : w.heap.size < w5.heap.size := by omega
  clear ho5
  go_wp2_with fail
  refine (l1Below_any (B := B) (by repeat (first | with_reducible assumption | with_reducible refine Cur.alloc ?_ _ | with_reducible refine Cur.drew ?_ | with_reducible refine Cur.setOther ?_ (by first | omega | (simp; done) | (simp; omega)) (by first | omega | (simp; done) | (simp; omega)) _)) 14 (by omega) (by omega)).mono ?_
  rintro e w6 ⟨x6, rfl, ⟨hl6, hh6⟩, hc6, ho6⟩
  have hz6 := ho6.size
  (try simp at hz6)
  have hlt6 := hc6.lt
  have hg6 : w.grownBy w6 (some g) := (by repeat (first | with_reducible assumption | with_reducible exact World.grownBy.refl _ _ | with_reducible refine only_alloc ?_ _ | with_reducible refine only_drew ?_ | with_reducible refine only_drewN ?_ _ | with_reducible refine only_setNew ?_ (by first | omega | (simp; done) | (simp; omega)) _ | (with_reducible refine only_trans ?_ (by with_reducible assumption))))
  have Rr6 : Hid (w6.heap[w.heap.size]? = some (.cells #[.int .i64 0, .int .i64 0, .int .i64 0, .int .i64 0, .int .i64 0] 91 (0, 0))) := Lib.hid ((grow ho6 (by first | omega | (simp; done) | (simp; omega)) (by omega)).trans (by repeat (first | (with_reducible apply heap_setCell_same) | (with_reducible apply drew_row) | (with_reducible apply drewN_row) | (with_reducible exact Rr5.out) | (with_reducible refine (heap_setCell_other _ _ _ _ (by first | omega | (simp; done) | (simp; omega))).trans ?_) | (with_reducible refine (Below.heap_alloc _ _ _ (by first | omega | (simp; done) | (simp; omega))).trans ?_))))
  have lr6 : w.heap.size < w6.heap.size := by omega
  have Rq6 : Hid (w6.heap[w5.heap.size]? = some (.cells #[.int .i64 (1 + x1), .int .i64 (x2), .int .i64 (x3), .int .i64 (x4), .int .i64 (x5)] 91 (0, 0))) := Lib.hid ((grow ho6 (by first | omega | (simp; done) | (simp; omega)) (by omega)).trans (by repeat (first | exact heap_new _ _ _ (by first | rfl | (simp; done) | (simp; omega)) | refine (Below.heap_alloc _ _ _ (by first | omega | (simp; done) | (simp; omega))).trans ?_)))
  have lq6 : w5.heap.size < w6.heap.size := by omega
  clear ho6
  have hng : ¬ w5.heap.size = g := by omega
  have hnr : ¬ w5.heap.size = w.heap.size := by omega
  have hnr2 : ¬ w.heap.size = w5.heap.size := by omega
  have hBq : B ≤ w5.heap.size := by omega
  by_cases h0_0 : x6 = 0
  · subst h0_0
    go_wp2_with fail
    refine (l1Below_any (B := B) (by repeat (first | with_reducible assumption | with_reducible refine Cur.alloc ?_ _ | with_reducible refine Cur.drew ?_ | with_reducible refine Cur.setOther ?_ (by first | omega | (simp; done) | (simp; omega)) (by first | omega | (simp; done) | (simp; omega)) _)) 5 (by omega) (by omega)).mono ?_
    rintro e w7 ⟨x7, rfl, ⟨hl7, hh7⟩, hc7, ho7⟩
    have hz7 := ho7.size
    (try simp at hz7)
    have hlt7 := hc7.lt
    have hg7 : w.grownBy w7 (some g) := (by repeat (first | with_reducible assumption | with_reducible exact World.grownBy.refl _ _ | with_reducible refine only_alloc ?_ _ | with_reducible refine only_drew ?_ | with_reducible refine only_drewN ?_ _ | with_reducible refine only_setNew ?_ (by first | omega | (simp; done) | (simp; omega)) _ | (with_reducible refine only_trans ?_ (by with_reducible assumption))))
    have Rr7 : Hid (w7.heap[w.heap.size]? = some (.cells #[.int .i64 0, .int .i64 0, .int .i64 0, .int .i64 0, .int .i64 0] 91 (0, 0))) := Lib.hid ((grow ho7 (by first | omega | (simp; done) | (simp; omega)) (by omega)).trans (by repeat (first | (with_reducible apply heap_setCell_same) | (with_reducible apply drew_row) | (with_reducible apply drewN_row) | (with_reducible exact Rr6.out) | (with_reducible refine (heap_setCell_other _ _ _ _ (by first | omega | (simp; done) | (simp; omega))).trans ?_) | (with_reducible refine (Below.heap_alloc _ _ _ (by first | omega | (simp; done) | (simp; omega))).trans ?_))))
    have lr7 : w.heap.size < w7.heap.size := by omega
    have Rq7 : Hid (w7.heap[w5.heap.size]? = some (.cells #[.int .i64 (1 + x1), .int .i64 (x2), .int .i64 (x3), .int .i64 (x4), .int .i64 (x5)] 91 (0, 0))) := Lib.hid ((grow ho7 (by first | omega | (simp; done) | (simp; omega)) (by omega)).trans (by repeat (first | (with_reducible apply heap_setCell_same) | (with_reducible apply drew_row) | (with_reducible apply drewN_row) | (with_reducible exact Rq6.out) | (with_reducible refine (heap_setCell_other _ _ _ _ (by first | omega | (simp; done) | (simp; omega))).trans ?_) | (with_reducible refine (Below.heap_alloc _ _ _ (by first | omega | (simp; done) | (simp; omega))).trans ?_))))
    have lq7 : w5.heap.size < w7.heap.size := by omega
    clear ho7
    have hqr := Rq7.out
    have hrr := Rr7.out
    have r0_hqr := cell_of_row _ _ 0 _ _ _ hqr
    have r1_hqr := cell_of_row _ _ 1 _ _ _ hqr
    have r2_hqr := cell_of_row _ _ 2 _ _ _ hqr
    have r3_hqr := cell_of_row _ _ 3 _ _ _ hqr
    have r4_hqr := cell_of_row _ _ 4 _ _ _ hqr
    have f0_hqr := frozen_of_row _ _ 0 _ _ hqr
    have f1_hqr := frozen_of_row _ _ 1 _ _ hqr
    have f2_hqr := frozen_of_row _ _ 2 _ _ hqr
    have f3_hqr := frozen_of_row _ _ 3 _ _ hqr
    have f4_hqr := frozen_of_row _ _ 4 _ _ hqr
    simp at r0_hqr r1_hqr r2_hqr r3_hqr r4_hqr
    have r0_hrr := cell_of_row _ _ 0 _ _ _ hrr
    have r1_hrr := cell_of_row _ _ 1 _ _ _ hrr
    have r2_hrr := cell_of_row _ _ 2 _ _ _ hrr
    have r3_hrr := cell_of_row _ _ 3 _ _ _ hrr
    have r4_hrr := cell_of_row _ _ 4 _ _ _ hrr
    have f0_hrr := frozen_of_row _ _ 0 _ _ hrr
    have f1_hrr := frozen_of_row _ _ 1 _ _ hrr
    have f2_hrr := frozen_of_row _ _ 2 _ _ hrr
    have f3_hrr := frozen_of_row _ _ 3 _ _ hrr
    have f4_hrr := frozen_of_row _ _ 4 _ _ hrr
    simp at r0_hrr r1_hrr r2_hrr r3_hrr r4_hrr
    clear hqr hrr
    go_wp2_with fail
    apply bodyPost_ret (results_cell_row (P := Try.prog) (fn := Try.f105) rfl _ _ _ 91 _ (0, 0) _ rfl _ Try.underlying91 rfl _) rfl
    rotate_left 2
    · repeat (first | (with_reducible apply heap_setCell_same) | (with_reducible apply drew_row) | (with_reducible apply drewN_row) | (with_reducible exact Rr7.out) | (with_reducible refine (heap_setCell_other _ _ _ _ (by first | omega | (simp; done) | (simp; omega))).trans ?_) | (with_reducible refine (Below.heap_alloc _ _ _ (by first | omega | (simp; done) | (simp; omega))).trans ?_))
    · kernel_rfl
    exact ⟨x7 - 1, x2, x3, x4, x5, by first | rfl | (simp; done) | (simp; rfl), (by repeat (first | with_reducible assumption | with_reducible refine Cur.alloc ?_ _ | with_reducible refine Cur.drew ?_ | with_reducible refine Cur.setOther ?_ (by first | omega | (simp; done) | (simp; omega)) (by first | omega | (simp; done) | (simp; omega)) _)), (by repeat (first | with_reducible assumption | with_reducible exact World.grownBy.refl _ _ | with_reducible refine only_alloc ?_ _ | with_reducible refine only_drew ?_ | with_reducible refine only_drewN ?_ _ | with_reducible refine only_setNew ?_ (by first | omega | (simp; done) | (simp; omega)) _ | (with_reducible refine only_trans ?_ (by with_reducible assumption))))⟩
  have h0_0 : (x6 == 0) = false := by simpa using h0_0
  by_cases h0_1 : x6 = 1
  · subst h0_1
    go_wp2_with fail
    refine (l2Word_any (B := B) (by repeat (first | with_reducible assumption | with_reducible refine Cur.alloc ?_ _ | with_reducible refine Cur.drew ?_ | with_reducible refine Cur.setOther ?_ (by first | omega | (simp; done) | (simp; omega)) (by first | omega | (simp; done) | (simp; omega)) _))).mono ?_
    rintro e w7 ⟨x7, rfl, hi7, hc7, ho7⟩
    have hz7 := ho7.size
    (try simp at hz7)
    have hlt7 := hc7.lt
    have hg7 : w.grownBy w7 (some g) := (by repeat (first | with_reducible assumption | with_reducible exact World.grownBy.refl _ _ | with_reducible refine only_alloc ?_ _ | with_reducible refine only_drew ?_ | with_reducible refine only_drewN ?_ _ | with_reducible refine only_setNew ?_ (by first | omega | (simp; done) | (simp; omega)) _ | (with_reducible refine only_trans ?_ (by with_reducible assumption))))
    have Rr7 : Hid (w7.heap[w.heap.size]? = some (.cells #[.int .i64 0, .int .i64 0, .int .i64 0, .int .i64 0, .int .i64 0] 91 (0, 0))) := Lib.hid ((grow ho7 (by first | omega | (simp; done) | (simp; omega)) (by omega)).trans (by repeat (first | (with_reducible apply heap_setCell_same) | (with_reducible apply drew_row) | (with_reducible apply drewN_row) | (with_reducible exact Rr6.out) | (with_reducible refine (heap_setCell_other _ _ _ _ (by first | omega | (simp; done) | (simp; omega))).trans ?_) | (with_reducible refine (Below.heap_alloc _ _ _ (by first | omega | (simp; done) | (simp; omega))).trans ?_))))
    have lr7 : w.heap.size < w7.heap.size := by omega
    have Rq7 : Hid (w7.heap[w5.heap.size]? = some (.cells #[.int .i64 (1 + x1), .int .i64 (x2), .int .i64 (x3), .int .i64 (x4), .int .i64 (x5)] 91 (0, 0))) := Lib.hid ((grow ho7 (by first | omega | (simp; done) | (simp; omega)) (by omega)).trans (by repeat (first | (with_reducible apply heap_setCell_same) | (with_reducible apply drew_row) | (with_reducible apply drewN_row) | (with_reducible exact Rq6.out) | (with_reducible refine (heap_setCell_other _ _ _ _ (by first | omega | (simp; done) | (simp; omega))).trans ?_) | (with_reducible refine (Below.heap_alloc _ _ _ (by first | omega | (simp; done) | (simp; omega))).trans ?_))))
    have lq7 : w5.heap.size < w7.heap.size := by omega
    clear ho7
    have hqr := Rq7.out
    have hrr := Rr7.out
    have r0_hqr := cell_of_row _ _ 0 _ _ _ hqr
    have r1_hqr := cell_of_row _ _ 1 _ _ _ hqr
    have r2_hqr := cell_of_row _ _ 2 _ _ _ hqr
    have r3_hqr := cell_of_row _ _ 3 _ _ _ hqr
    have r4_hqr := cell_of_row _ _ 4 _ _ _ hqr
    have f0_hqr := frozen_of_row _ _ 0 _ _ hqr
    have f1_hqr := frozen_of_row _ _ 1 _ _ hqr
    have f2_hqr := frozen_of_row _ _ 2 _ _ hqr
    have f3_hqr := frozen_of_row _ _ 3 _ _ hqr
    have f4_hqr := frozen_of_row _ _ 4 _ _ hqr
    simp at r0_hqr r1_hqr r2_hqr r3_hqr r4_hqr
    have r0_hrr := cell_of_row _ _ 0 _ _ _ hrr
    have r1_hrr := cell_of_row _ _ 1 _ _ _ hrr
    have r2_hrr := cell_of_row _ _ 2 _ _ _ hrr
    have r3_hrr := cell_of_row _ _ 3 _ _ _ hrr
    have r4_hrr := cell_of_row _ _ 4 _ _ _ hrr
    have f0_hrr := frozen_of_row _ _ 0 _ _ hrr
    have f1_hrr := frozen_of_row _ _ 1 _ _ hrr
    have f2_hrr := frozen_of_row _ _ 2 _ _ hrr
    have f3_hrr := frozen_of_row _ _ 3 _ _ hrr
    have f4_hrr := frozen_of_row _ _ 4 _ _ hrr
    simp at r0_hrr r1_hrr r2_hrr r3_hrr r4_hrr
    clear hqr hrr
    go_wp2_with fail
    apply bodyPost_ret (results_cell_row (P := Try.prog) (fn := Try.f105) rfl _ _ _ 91 _ (0, 0) _ rfl _ Try.underlying91 rfl _) rfl
    rotate_left 2
    · repeat (first | (with_reducible apply heap_setCell_same) | (with_reducible apply drew_row) | (with_reducible apply drewN_row) | (with_reducible exact Rr7.out) | (with_reducible refine (heap_setCell_other _ _ _ _ (by first | omega | (simp; done) | (simp; omega))).trans ?_) | (with_reducible refine (Below.heap_alloc _ _ _ (by first | omega | (simp; done) | (simp; omega))).trans ?_))
    · kernel_rfl
    exact ⟨1 + x1, x7, x3, x4, x5, by first | rfl | (simp; done) | (simp; rfl), (by repeat (first | with_reducible assumption | with_reducible refine Cur.alloc ?_ _ | with_reducible refine Cur.drew ?_ | with_reducible refine Cur.setOther ?_ (by first | omega | (simp; done) | (simp; omega)) (by first | omega | (simp; done) | (simp; omega)) _)), (by repeat (first | with_reducible assumption | with_reducible exact World.grownBy.refl _ _ | with_reducible refine only_alloc ?_ _ | with_reducible refine only_drew ?_ | with_reducible refine only_drewN ?_ _ | with_reducible refine only_setNew ?_ (by first | omega | (simp; done) | (simp; omega)) _ | (with_reducible refine only_trans ?_ (by with_reducible assumption))))⟩
  have h0_1 : (x6 == 1) = false := by simpa using h0_1
  by_cases h0_2 : x6 = 2
  · subst h0_2
    go_wp2_with fail
    refine (l2Word_any (B := B) (by repeat (first | with_reducible assumption | with_reducible refine Cur.alloc ?_ _ | with_reducible refine Cur.drew ?_ | with_reducible refine Cur.setOther ?_ (by first | omega | (simp; done) | (simp; omega)) (by first | omega | (simp; done) | (simp; omega)) _))).mono ?_
    rintro e w7 ⟨x7, rfl, hi7, hc7, ho7⟩
    have hz7 := ho7.size
    (try simp at hz7)
    have hlt7 := hc7.lt
    have hg7 : w.grownBy w7 (some g) := (by repeat (first | with_reducible assumption | with_reducible exact World.grownBy.refl _ _ | with_reducible refine only_alloc ?_ _ | with_reducible refine only_drew ?_ | with_reducible refine only_drewN ?_ _ | with_reducible refine only_setNew ?_ (by first | omega | (simp; done) | (simp; omega)) _ | (with_reducible refine only_trans ?_ (by with_reducible assumption))))
    have Rr7 : Hid (w7.heap[w.heap.size]? = some (.cells #[.int .i64 0, .int .i64 0, .int .i64 0, .int .i64 0, .int .i64 0] 91 (0, 0))) := Lib.hid ((grow ho7 (by first | omega | (simp; done) | (simp; omega)) (by omega)).trans (by repeat (first | (with_reducible apply heap_setCell_same) | (with_reducible apply drew_row) | (with_reducible apply drewN_row) | (with_reducible exact Rr6.out) | (with_reducible refine (heap_setCell_other _ _ _ _ (by first | omega | (simp; done) | (simp; omega))).trans ?_) | (with_reducible refine (Below.heap_alloc _ _ _ (by first | omega | (simp; done) | (simp; omega))).trans ?_))))
    have lr7 : w.heap.size < w7.heap.size := by omega
    have Rq7 : Hid (w7.heap[w5.heap.size]? = some (.cells #[.int .i64 (1 + x1), .int .i64 (x2), .int .i64 (x3), .int .i64 (x4), .int .i64 (x5)] 91 (0, 0))) := Lib.hid ((grow ho7 (by first | omega | (simp; done) | (simp; omega)) (by omega)).trans (by repeat (first | (with_reducible apply heap_setCell_same) | (with_reducible apply drew_row) | (with_reducible apply drewN_row) | (with_reducible exact Rq6.out) | (with_reducible refine (heap_setCell_other _ _ _ _ (by first | omega | (simp; done) | (simp; omega))).trans ?_) | (with_reducible refine (Below.heap_alloc _ _ _ (by first | omega | (simp; done) | (simp; omega))).trans ?_))))
    have lq7 : w5.heap.size < w7.heap.size := by omega
    clear ho7
    have hqr := Rq7.out
    have hrr := Rr7.out
    have r0_hqr := cell_of_row _ _ 0 _ _ _ hqr
    have r1_hqr := cell_of_row _ _ 1 _ _ _ hqr
    have r2_hqr := cell_of_row _ _ 2 _ _ _ hqr
    have r3_hqr := cell_of_row _ _ 3 _ _ _ hqr
    have r4_hqr := cell_of_row _ _ 4 _ _ _ hqr
    have f0_hqr := frozen_of_row _ _ 0 _ _ hqr
    have f1_hqr := frozen_of_row _ _ 1 _ _ hqr
    have f2_hqr := frozen_of_row _ _ 2 _ _ hqr
    have f3_hqr := frozen_of_row _ _ 3 _ _ hqr
    have f4_hqr := frozen_of_row _ _ 4 _ _ hqr
    simp at r0_hqr r1_hqr r2_hqr r3_hqr r4_hqr
    have r0_hrr := cell_of_row _ _ 0 _ _ _ hrr
    have r1_hrr := cell_of_row _ _ 1 _ _ _ hrr
    have r2_hrr := cell_of_row _ _ 2 _ _ _ hrr
    have r3_hrr := cell_of_row _ _ 3 _ _ _ hrr
    have r4_hrr := cell_of_row _ _ 4 _ _ _ hrr
    have f0_hrr := frozen_of_row _ _ 0 _ _ hrr
    have f1_hrr := frozen_of_row _ _ 1 _ _ hrr
    have f2_hrr := frozen_of_row _ _ 2 _ _ hrr
    have f3_hrr := frozen_of_row _ _ 3 _ _ hrr
    have f4_hrr := frozen_of_row _ _ 4 _ _ hrr
    simp at r0_hrr r1_hrr r2_hrr r3_hrr r4_hrr
    clear hqr hrr
    go_wp2_with fail
    apply bodyPost_ret (results_cell_row (P := Try.prog) (fn := Try.f105) rfl _ _ _ 91 _ (0, 0) _ rfl _ Try.underlying91 rfl _) rfl
    rotate_left 2
    · repeat (first | (with_reducible apply heap_setCell_same) | (with_reducible apply drew_row) | (with_reducible apply drewN_row) | (with_reducible exact Rr7.out) | (with_reducible refine (heap_setCell_other _ _ _ _ (by first | omega | (simp; done) | (simp; omega))).trans ?_) | (with_reducible refine (Below.heap_alloc _ _ _ (by first | omega | (simp; done) | (simp; omega))).trans ?_))
    · kernel_rfl
    exact ⟨1 + x1, x2, x7, x4, x5, by first | rfl | (simp; done) | (simp; rfl), (by repeat (first | with_reducible assumption | with_reducible refine Cur.alloc ?_ _ | with_reducible refine Cur.drew ?_ | with_reducible refine Cur.setOther ?_ (by first | omega | (simp; done) | (simp; omega)) (by first | omega | (simp; done) | (simp; omega)) _)), (by repeat (first | with_reducible assumption | with_reducible exact World.grownBy.refl _ _ | with_reducible refine only_alloc ?_ _ | with_reducible refine only_drew ?_ | with_reducible refine only_drewN ?_ _ | with_reducible refine only_setNew ?_ (by first | omega | (simp; done) | (simp; omega)) _ | (with_reducible refine only_trans ?_ (by with_reducible assumption))))⟩
  have h0_2 : (x6 == 2) = false := by simpa using h0_2
  by_cases h0_3 : x6 = 3
  · subst h0_3
    go_wp2_with fail
    refine (l2Word_any (B := B) (by repeat (first | with_reducible assumption | with_reducible refine Cur.alloc ?_ _ | with_reducible refine Cur.drew ?_ | with_reducible refine Cur.setOther ?_ (by first | omega | (simp; done) | (simp; omega)) (by first | omega | (simp; done) | (simp; omega)) _))).mono ?_
    rintro e w7 ⟨x7, rfl, hi7, hc7, ho7⟩
    have hz7 := ho7.size
    (try simp at hz7)
    have hlt7 := hc7.lt
    have hg7 : w.grownBy w7 (some g) := (by repeat (first | with_reducible assumption | with_reducible exact World.grownBy.refl _ _ | with_reducible refine only_alloc ?_ _ | with_reducible refine only_drew ?_ | with_reducible refine only_drewN ?_ _ | with_reducible refine only_setNew ?_ (by first | omega | (simp; done) | (simp; omega)) _ | (with_reducible refine only_trans ?_ (by with_reducible assumption))))
    have Rr7 : Hid (w7.heap[w.heap.size]? = some (.cells #[.int .i64 0, .int .i64 0, .int .i64 0, .int .i64 0, .int .i64 0] 91 (0, 0))) := Lib.hid ((grow ho7 (by first | omega | (simp; done) | (simp; omega)) (by omega)).trans (by repeat (first | (with_reducible apply heap_setCell_same) | (with_reducible apply drew_row) | (with_reducible apply drewN_row) | (with_reducible exact Rr6.out) | (with_reducible refine (heap_setCell_other _ _ _ _ (by first | omega | (simp; done) | (simp; omega))).trans ?_) | (with_reducible refine (Below.heap_alloc _ _ _ (by first | omega | (simp; done) | (simp; omega))).trans ?_))))
    have lr7 : w.heap.size < w7.heap.size := by omega
    have Rq7 : Hid (w7.heap[w5.heap.size]? = some (.cells #[.int .i64 (1 + x1), .int .i64 (x2), .int .i64 (x3), .int .i64 (x4), .int .i64 (x5)] 91 (0, 0))) := Lib.hid ((grow ho7 (by first | omega | (simp; done) | (simp; omega)) (by omega)).trans (by repeat (first | (with_reducible apply heap_setCell_same) | (with_reducible apply drew_row) | (with_reducible apply drewN_row) | (with_reducible exact Rq6.out) | (with_reducible refine (heap_setCell_other _ _ _ _ (by first | omega | (simp; done) | (simp; omega))).trans ?_) | (with_reducible refine (Below.heap_alloc _ _ _ (by first | omega | (simp; done) | (simp; omega))).trans ?_))))
    have lq7 : w5.heap.size < w7.heap.size := by omega
    clear ho7
    have hqr := Rq7.out
    have hrr := Rr7.out
    have r0_hqr := cell_of_row _ _ 0 _ _ _ hqr
    have r1_hqr := cell_of_row _ _ 1 _ _ _ hqr
    have r2_hqr := cell_of_row _ _ 2 _ _ _ hqr
    have r3_hqr := cell_of_row _ _ 3 _ _ _ hqr
    have r4_hqr := cell_of_row _ _ 4 _ _ _ hqr
    have f0_hqr := frozen_of_row _ _ 0 _ _ hqr
    have f1_hqr := frozen_of_row _ _ 1 _ _ hqr
    have f2_hqr := frozen_of_row _ _ 2 _ _ hqr
    have f3_hqr := frozen_of_row _ _ 3 _ _ hqr
    have f4_hqr := frozen_of_row _ _ 4 _ _ hqr
    simp at r0_hqr r1_hqr r2_hqr r3_hqr r4_hqr
    have r0_hrr := cell_of_row _ _ 0 _ _ _ hrr
    have r1_hrr := cell_of_row _ _ 1 _ _ _ hrr
    have r2_hrr := cell_of_row _ _ 2 _ _ _ hrr
    have r3_hrr := cell_of_row _ _ 3 _ _ _ hrr
    have r4_hrr := cell_of_row _ _ 4 _ _ _ hrr
    have f0_hrr := frozen_of_row _ _ 0 _ _ hrr
    have f1_hrr := frozen_of_row _ _ 1 _ _ hrr
    have f2_hrr := frozen_of_row _ _ 2 _ _ hrr
    have f3_hrr := frozen_of_row _ _ 3 _ _ hrr
    have f4_hrr := frozen_of_row _ _ 4 _ _ hrr
    simp at r0_hrr r1_hrr r2_hrr r3_hrr r4_hrr
    clear hqr hrr
    go_wp2_with fail
    apply bodyPost_ret (results_cell_row (P := Try.prog) (fn := Try.f105) rfl _ _ _ 91 _ (0, 0) _ rfl _ Try.underlying91 rfl _) rfl
    rotate_left 2
    · repeat (first | (with_reducible apply heap_setCell_same) | (with_reducible apply drew_row) | (with_reducible apply drewN_row) | (with_reducible exact Rr7.out) | (with_reducible refine (heap_setCell_other _ _ _ _ (by first | omega | (simp; done) | (simp; omega))).trans ?_) | (with_reducible refine (Below.heap_alloc _ _ _ (by first | omega | (simp; done) | (simp; omega))).trans ?_))
    · kernel_rfl
    exact ⟨1 + x1, x2, x3, x4, x7, by first | rfl | (simp; done) | (simp; rfl), (by repeat (first | with_reducible assumption | with_reducible refine Cur.alloc ?_ _ | with_reducible refine Cur.drew ?_ | with_reducible refine Cur.setOther ?_ (by first | omega | (simp; done) | (simp; omega)) (by first | omega | (simp; done) | (simp; omega)) _)), (by repeat (first | with_reducible assumption | with_reducible exact World.grownBy.refl _ _ | with_reducible refine only_alloc ?_ _ | with_reducible refine only_drew ?_ | with_reducible refine only_drewN ?_ _ | with_reducible refine only_setNew ?_ (by first | omega | (simp; done) | (simp; omega)) _ | (with_reducible refine only_trans ?_ (by with_reducible assumption))))⟩
  have h0_3 : (x6 == 3) = false := by simpa using h0_3
  have hqr := Rq6.out
  have hrr := Rr6.out
  have r0_hqr := cell_of_row _ _ 0 _ _ _ hqr
  have r1_hqr := cell_of_row _ _ 1 _ _ _ hqr
  have r2_hqr := cell_of_row _ _ 2 _ _ _ hqr
  have r3_hqr := cell_of_row _ _ 3 _ _ _ hqr
  have r4_hqr := cell_of_row _ _ 4 _ _ _ hqr
  have f0_hqr := frozen_of_row _ _ 0 _ _ hqr
  have f1_hqr := frozen_of_row _ _ 1 _ _ hqr
  have f2_hqr := frozen_of_row _ _ 2 _ _ hqr
  have f3_hqr := frozen_of_row _ _ 3 _ _ hqr
  have f4_hqr := frozen_of_row _ _ 4 _ _ hqr
  simp at r0_hqr r1_hqr r2_hqr r3_hqr r4_hqr
  have r0_hrr := cell_of_row _ _ 0 _ _ _ hrr
  have r1_hrr := cell_of_row _ _ 1 _ _ _ hrr
  have r2_hrr := cell_of_row _ _ 2 _ _ _ hrr
  have r3_hrr := cell_of_row _ _ 3 _ _ _ hrr
  have r4_hrr := cell_of_row _ _ 4 _ _ _ hrr
  have f0_hrr := frozen_of_row _ _ 0 _ _ hrr
  have f1_hrr := frozen_of_row _ _ 1 _ _ hrr
  have f2_hrr := frozen_of_row _ _ 2 _ _ hrr
  have f3_hrr := frozen_of_row _ _ 3 _ _ hrr
  have f4_hrr := frozen_of_row _ _ 4 _ _ hrr
  simp at r0_hrr r1_hrr r2_hrr r3_hrr r4_hrr
  clear hqr hrr
  go_wp2_with fail
  apply bodyPost_ret (results_cell_row (P := Try.prog) (fn := Try.f105) rfl _ _ _ 91 _ (0, 0) _ rfl _ Try.underlying91 rfl _) rfl
  rotate_left 2
  · repeat (first | (with_reducible apply heap_setCell_same) | (with_reducible apply drew_row) | (with_reducible apply drewN_row) | (with_reducible exact Rr6.out) | (with_reducible refine (heap_setCell_other _ _ _ _ (by first | omega | (simp; done) | (simp; omega))).trans ?_) | (with_reducible refine (Below.heap_alloc _ _ _ (by first | omega | (simp; done) | (simp; omega))).trans ?_))
  · kernel_rfl
  exact ⟨1 + x1, x2, x3, x4, x5, by first | rfl | (simp; done) | (simp; rfl), (by repeat (first | with_reducible assumption | with_reducible refine Cur.alloc ?_ _ | with_reducible refine Cur.drew ?_ | with_reducible refine Cur.setOther ?_ (by first | omega | (simp; done) | (simp; omega)) (by first | omega | (simp; done) | (simp; omega)) _)), (by repeat (first | with_reducible assumption | with_reducible exact World.grownBy.refl _ _ | with_reducible refine only_alloc ?_ _ | with_reducible refine only_drew ?_ | with_reducible refine only_drewN ?_ _ | with_reducible refine only_setNew ?_ (by first | omega | (simp; done) | (simp; omega)) _ | (with_reducible refine only_trans ?_ (by with_reducible assumption))))⟩
set_option maxHeartbeats 8000000 in
set_option linter.unusedVariables false in
set_option linter.unusedSimpArgs false in
theorem l5Frame_any {w : World} {B g : Nat} (hcur : Cur w B g) :
    Calls Try.prog 106 #[.pointer (some ⟨g, 0, none⟩)] w (DrewFrame w B g) := by
  have hlt := hcur.lt
  have hlow := hcur.low
  go_enter Try.func106, Try.ntmps106
  go_wp2_with fail
  refine (l5Mac_any (B := B) (by repeat (first | with_reducible assumption | with_reducible refine Cur.alloc ?_ _ | with_reducible refine Cur.drew ?_ | with_reducible refine Cur.setOther ?_ (by first | omega | (simp; done) | (simp; omega)) (by first | omega | (simp; done) | (simp; omega)) _))).mono ?_
  rintro e w1 ⟨x1, rfl, ⟨hl1, hh1⟩, hc1, ho1⟩
  have hz1 := ho1.size
  (try simp at hz1)
  have hlt1 := hc1.lt
  have hg1 : w.grownBy w1 (some g) := (by repeat (first | with_reducible assumption | with_reducible exact World.grownBy.refl _ _ | with_reducible refine only_alloc ?_ _ | with_reducible refine only_drew ?_ | with_reducible refine only_drewN ?_ _ | with_reducible refine only_setNew ?_ (by first | omega | (simp; done) | (simp; omega)) _ | (with_reducible refine only_trans ?_ (by with_reducible assumption))))
  have Rr1 : Hid (w1.heap[w.heap.size]? = some (.cells #[.int .i64 0, .int .i64 0, .int .i64 0, .string ⟨#[]⟩] 67 (0, 0))) := Lib.hid ((grow ho1 (by first | omega | (simp; done) | (simp; omega)) (by omega)).trans (by repeat (first | exact heap_new _ _ _ (by first | rfl | (simp; done) | (simp; omega)) | refine (Below.heap_alloc _ _ _ (by first | omega | (simp; done) | (simp; omega))).trans ?_)))
  have lr1 : w.heap.size < w1.heap.size := by omega
  clear ho1
  go_wp2_with fail
  refine (l5Mac_any (B := B) (by repeat (first | with_reducible assumption | with_reducible refine Cur.alloc ?_ _ | with_reducible refine Cur.drew ?_ | with_reducible refine Cur.setOther ?_ (by first | omega | (simp; done) | (simp; omega)) (by first | omega | (simp; done) | (simp; omega)) _))).mono ?_
  rintro e w2 ⟨x2, rfl, ⟨hl2, hh2⟩, hc2, ho2⟩
  have hz2 := ho2.size
  (try simp at hz2)
  have hlt2 := hc2.lt
  have hg2 : w.grownBy w2 (some g) := (by repeat (first | with_reducible assumption | with_reducible exact World.grownBy.refl _ _ | with_reducible refine only_alloc ?_ _ | with_reducible refine only_drew ?_ | with_reducible refine only_drewN ?_ _ | with_reducible refine only_setNew ?_ (by first | omega | (simp; done) | (simp; omega)) _ | (with_reducible refine only_trans ?_ (by with_reducible assumption))))
  have Rr2 : Hid (w2.heap[w.heap.size]? = some (.cells #[.int .i64 0, .int .i64 0, .int .i64 0, .string ⟨#[]⟩] 67 (0, 0))) := Lib.hid ((grow ho2 (by first | omega | (simp; done) | (simp; omega)) (by omega)).trans (by repeat (first | (with_reducible apply heap_setCell_same) | (with_reducible apply drew_row) | (with_reducible apply drewN_row) | (with_reducible exact Rr1.out) | (with_reducible refine (heap_setCell_other _ _ _ _ (by first | omega | (simp; done) | (simp; omega))).trans ?_) | (with_reducible refine (Below.heap_alloc _ _ _ (by first | omega | (simp; done) | (simp; omega))).trans ?_))))
  have lr2 : w.heap.size < w2.heap.size := by omega
  clear ho2
  go_wp2_with fail
  refine (l1Pick_new (B := B) (1536) (65535) (by repeat (first | with_reducible assumption | with_reducible refine Cur.alloc ?_ _ | with_reducible refine Cur.drew ?_ | with_reducible refine Cur.setOther ?_ (by first | omega | (simp; done) | (simp; omega)) (by first | omega | (simp; done) | (simp; omega)) _)) (by rfl) (by omega) (by omega) (by kernel_rfl)).mono ?_
  rintro e w3 ⟨x3, rfl, ⟨hl3, hh3⟩, hc3, ho3⟩
  have hz3 := ho3.size
  (try simp at hz3)
  have hlt3 := hc3.lt
  have hg3 : w.grownBy w3 (some g) := (by repeat (first | with_reducible assumption | with_reducible exact World.grownBy.refl _ _ | with_reducible refine only_alloc ?_ _ | with_reducible refine only_drew ?_ | with_reducible refine only_drewN ?_ _ | with_reducible refine only_setNew ?_ (by first | omega | (simp; done) | (simp; omega)) _ | (with_reducible refine only_trans ?_ (by with_reducible assumption))))
  have Rr3 : Hid (w3.heap[w.heap.size]? = some (.cells #[.int .i64 0, .int .i64 0, .int .i64 0, .string ⟨#[]⟩] 67 (0, 0))) := Lib.hid ((grow ho3 (by first | omega | (simp; done) | (simp; omega)) (by omega)).trans (by repeat (first | (with_reducible apply heap_setCell_same) | (with_reducible apply drew_row) | (with_reducible apply drewN_row) | (with_reducible exact Rr2.out) | (with_reducible refine (heap_setCell_other _ _ _ _ (by first | omega | (simp; done) | (simp; omega))).trans ?_) | (with_reducible refine (Below.heap_alloc _ _ _ (by first | omega | (simp; done) | (simp; omega))).trans ?_))))
  have lr3 : w.heap.size < w3.heap.size := by omega
  clear ho3
  go_wp2_with fail
  refine (l1Below_any (B := B) (by repeat (first | with_reducible assumption | with_reducible refine Cur.alloc ?_ _ | with_reducible refine Cur.drew ?_ | with_reducible refine Cur.setOther ?_ (by first | omega | (simp; done) | (simp; omega)) (by first | omega | (simp; done) | (simp; omega)) _)) 6 (by omega) (by omega)).mono ?_
  rintro e w4 ⟨x4, rfl, ⟨hl4, hh4⟩, hc4, ho4⟩
  have hz4 := ho4.size
  (try simp at hz4)
  have hlt4 := hc4.lt
  have hg4 : w.grownBy w4 (some g) := (by repeat (first | with_reducible assumption | with_reducible exact World.grownBy.refl _ _ | with_reducible refine only_alloc ?_ _ | with_reducible refine only_drew ?_ | with_reducible refine only_drewN ?_ _ | with_reducible refine only_setNew ?_ (by first | omega | (simp; done) | (simp; omega)) _ | (with_reducible refine only_trans ?_ (by with_reducible assumption))))
  have Rr4 : Hid (w4.heap[w.heap.size]? = some (.cells #[.int .i64 0, .int .i64 0, .int .i64 0, .string ⟨#[]⟩] 67 (0, 0))) := Lib.hid ((grow ho4 (by first | omega | (simp; done) | (simp; omega)) (by omega)).trans (by repeat (first | (with_reducible apply heap_setCell_same) | (with_reducible apply drew_row) | (with_reducible apply drewN_row) | (with_reducible exact Rr3.out) | (with_reducible refine (heap_setCell_other _ _ _ _ (by first | omega | (simp; done) | (simp; omega))).trans ?_) | (with_reducible refine (Below.heap_alloc _ _ _ (by first | omega | (simp; done) | (simp; omega))).trans ?_))))
  have lr4 : w.heap.size < w4.heap.size := by omega
  clear ho4
  go_wp2_with fail
  refine (l1Bytes_any (B := B) (by repeat (first | with_reducible assumption | with_reducible refine Cur.alloc ?_ _ | with_reducible refine Cur.drew ?_ | with_reducible refine Cur.setOther ?_ (by first | omega | (simp; done) | (simp; omega)) (by first | omega | (simp; done) | (simp; omega)) _)) _ (by omega) (by omega)).mono ?_
  rintro e w5 ⟨v5, xs5, rfl, hO5, hn5, hc5, ho5⟩
  have hz5 := ho5.size
  (try simp at hz5)
  have hlt5 := hc5.lt
  have hg5 : w.grownBy w5 (some g) := (by repeat (first | with_reducible assumption | with_reducible exact World.grownBy.refl _ _ | with_reducible refine only_alloc ?_ _ | with_reducible refine only_drew ?_ | with_reducible refine only_drewN ?_ _ | with_reducible refine only_setNew ?_ (by first | omega | (simp; done) | (simp; omega)) _ | (with_reducible refine only_trans ?_ (by with_reducible assumption))))
  have Rr5 : Hid (w5.heap[w.heap.size]? = some (.cells #[.int .i64 0, .int .i64 0, .int .i64 0, .string ⟨#[]⟩] 67 (0, 0))) := Lib.hid ((grow ho5 (by first | omega | (simp; done) | (simp; omega)) (by omega)).trans (by repeat (first | (with_reducible apply heap_setCell_same) | (with_reducible apply drew_row) | (with_reducible apply drewN_row) | (with_reducible exact Rr4.out) | (with_reducible refine (heap_setCell_other _ _ _ _ (by first | omega | (simp; done) | (simp; omega))).trans ?_) | (with_reducible refine (Below.heap_alloc _ _ _ (by first | omega | (simp; done) | (simp; omega))).trans ?_))))
  have lr5 : w.heap.size < w5.heap.size := by omega
  clear ho5
  have hcv5 := hO5.conv w5 (fun _ _ _ _ => rfl)
  have hss5 : (strOfNums xs5).size ≤ 4096 := by rw [strOfNums_size]; omega
  obtain ⟨A5, c5, rfl⟩ := hO5.form
  generalize strOfNums xs5 = s5 at hcv5 hss5
  clear hO5 hn5
  go_wp2_with fail
  refine (l1Below_any (B := B) (by repeat (first | with_reducible assumption | with_reducible refine Cur.alloc ?_ _ | with_reducible refine Cur.drew ?_ | with_reducible refine Cur.setOther ?_ (by first | omega | (simp; done) | (simp; omega)) (by first | omega | (simp; done) | (simp; omega)) _)) 12 (by omega) (by omega)).mono ?_
  rintro e w6 ⟨x6, rfl, ⟨hl6, hh6⟩, hc6, ho6⟩
  have hz6 := ho6.size
  (try simp at hz6)
  have hlt6 := hc6.lt
  have hg6 : w.grownBy w6 (some g) := (by repeat (first | with_reducible assumption | with_reducible exact World.grownBy.refl _ _ | with_reducible refine only_alloc ?_ _ | with_reducible refine only_drew ?_ | with_reducible refine only_drewN ?_ _ | with_reducible refine only_setNew ?_ (by first | omega | (simp; done) | (simp; omega)) _ | (with_reducible refine only_trans ?_ (by with_reducible assumption))))
  have Rr6 : Hid (w6.heap[w.heap.size]? = some (.cells #[.int .i64 0, .int .i64 0, .int .i64 0, .string ⟨#[]⟩] 67 (0, 0))) := Lib.hid ((grow ho6 (by first | omega | (simp; done) | (simp; omega)) (by omega)).trans (by repeat (first | (with_reducible apply heap_setCell_same) | (with_reducible apply drew_row) | (with_reducible apply drewN_row) | (with_reducible exact Rr5.out) | (with_reducible refine (heap_setCell_other _ _ _ _ (by first | omega | (simp; done) | (simp; omega))).trans ?_) | (with_reducible refine (Below.heap_alloc _ _ _ (by first | omega | (simp; done) | (simp; omega))).trans ?_))))
  have lr6 : w.heap.size < w6.heap.size := by omega
  have Rq6 : Hid (w6.heap[w5.heap.size]? = some (.cells #[.int .i64 (x1), .int .i64 (x2), .int .i64 (x3), .string s5] 67 (0, 0))) := Lib.hid ((grow ho6 (by first | omega | (simp; done) | (simp; omega)) (by omega)).trans (by repeat (first | exact heap_new _ _ _ (by first | rfl | (simp; done) | (simp; omega)) | refine (Below.heap_alloc _ _ _ (by first | omega | (simp; done) | (simp; omega))).trans ?_)))
  have lq6 : w5.heap.size < w6.heap.size := by omega
  clear ho6
  clear hcv5
  have hng : ¬ w5.heap.size = g := by omega
  have hnr : ¬ w5.heap.size = w.heap.size := by omega
  have hnr2 : ¬ w.heap.size = w5.heap.size := by omega
  have hBq : B ≤ w5.heap.size := by omega
  by_cases h0_0 : x6 = 0
  · subst h0_0
    go_wp2_with fail
    refine (l2Word_any (B := B) (by repeat (first | with_reducible assumption | with_reducible refine Cur.alloc ?_ _ | with_reducible refine Cur.drew ?_ | with_reducible refine Cur.setOther ?_ (by first | omega | (simp; done) | (simp; omega)) (by first | omega | (simp; done) | (simp; omega)) _))).mono ?_
    rintro e w7 ⟨x7, rfl, hi7, hc7, ho7⟩
    have hz7 := ho7.size
    (try simp at hz7)
    have hlt7 := hc7.lt
    have hg7 : w.grownBy w7 (some g) := (by repeat (first | with_reducible assumption | with_reducible exact World.grownBy.refl _ _ | with_reducible refine only_alloc ?_ _ | with_reducible refine only_drew ?_ | with_reducible refine only_drewN ?_ _ | with_reducible refine only_setNew ?_ (by first | omega | (simp; done) | (simp; omega)) _ | (with_reducible refine only_trans ?_ (by with_reducible assumption))))
    have Rr7 : Hid (w7.heap[w.heap.size]? = some (.cells #[.int .i64 0, .int .i64 0, .int .i64 0, .string ⟨#[]⟩] 67 (0, 0))) := Lib.hid ((grow ho7 (by first | omega | (simp; done) | (simp; omega)) (by omega)).trans (by repeat (first | (with_reducible apply heap_setCell_same) | (with_reducible apply drew_row) | (with_reducible apply drewN_row) | (with_reducible exact Rr6.out) | (with_reducible refine (heap_setCell_other _ _ _ _ (by first | omega | (simp; done) | (simp; omega))).trans ?_) | (with_reducible refine (Below.heap_alloc _ _ _ (by first | omega | (simp; done) | (simp; omega))).trans ?_))))
    have lr7 : w.heap.size < w7.heap.size := by omega
    have Rq7 : Hid (w7.heap[w5.heap.size]? = some (.cells #[.int .i64 (x1), .int .i64 (x2), .int .i64 (x3), .string s5] 67 (0, 0))) := Lib.hid ((grow ho7 (by first | omega | (simp; done) | (simp; omega)) (by omega)).trans (by repeat (first | (with_reducible apply heap_setCell_same) | (with_reducible apply drew_row) | (with_reducible apply drewN_row) | (with_reducible exact Rq6.out) | (with_reducible refine (heap_setCell_other _ _ _ _ (by first | omega | (simp; done) | (simp; omega))).trans ?_) | (with_reducible refine (Below.heap_alloc _ _ _ (by first | omega | (simp; done) | (simp; omega))).trans ?_))))
    have lq7 : w5.heap.size < w7.heap.size := by omega
    clear ho7
    have hqr := Rq7.out
    have hrr := Rr7.out
    have r0_hqr := cell_of_row _ _ 0 _ _ _ hqr
    have r1_hqr := cell_of_row _ _ 1 _ _ _ hqr
    have r2_hqr := cell_of_row _ _ 2 _ _ _ hqr
    have r3_hqr := cell_of_row _ _ 3 _ _ _ hqr
    have f0_hqr := frozen_of_row _ _ 0 _ _ hqr
    have f1_hqr := frozen_of_row _ _ 1 _ _ hqr
    have f2_hqr := frozen_of_row _ _ 2 _ _ hqr
    have f3_hqr := frozen_of_row _ _ 3 _ _ hqr
    simp at r0_hqr r1_hqr r2_hqr r3_hqr
    have r0_hrr := cell_of_row _ _ 0 _ _ _ hrr
    have r1_hrr := cell_of_row _ _ 1 _ _ _ hrr
    have r2_hrr := cell_of_row _ _ 2 _ _ _ hrr
    have r3_hrr := cell_of_row _ _ 3 _ _ _ hrr
    have f0_hrr := frozen_of_row _ _ 0 _ _ hrr
    have f1_hrr := frozen_of_row _ _ 1 _ _ hrr
    have f2_hrr := frozen_of_row _ _ 2 _ _ hrr
    have f3_hrr := frozen_of_row _ _ 3 _ _ hrr
    simp at r0_hrr r1_hrr r2_hrr r3_hrr
    clear hqr hrr
    go_wp2_with fail
    apply bodyPost_ret (results_cell_row (P := Try.prog) (fn := Try.f106) rfl _ _ _ 67 _ (0, 0) _ rfl _ Try.underlying67 rfl _) rfl
    rotate_left 2
    · repeat (first | (with_reducible apply heap_setCell_same) | (with_reducible apply drew_row) | (with_reducible apply drewN_row) | (with_reducible exact Rr7.out) | (with_reducible refine (heap_setCell_other _ _ _ _ (by first | omega | (simp; done) | (simp; omega))).trans ?_) | (with_reducible refine (Below.heap_alloc _ _ _ (by first | omega | (simp; done) | (simp; omega))).trans ?_))
    · kernel_rfl
    exact ⟨x7, x2, x3, s5, by first | rfl | (simp; done) | (simp; rfl), by omega, (by repeat (first | with_reducible assumption | with_reducible refine Cur.alloc ?_ _ | with_reducible refine Cur.drew ?_ | with_reducible refine Cur.setOther ?_ (by first | omega | (simp; done) | (simp; omega)) (by first | omega | (simp; done) | (simp; omega)) _)), (by repeat (first | with_reducible assumption | with_reducible exact World.grownBy.refl _ _ | with_reducible refine only_alloc ?_ _ | with_reducible refine only_drew ?_ | with_reducible refine only_drewN ?_ _ | with_reducible refine only_setNew ?_ (by first | omega | (simp; done) | (simp; omega)) _ | (with_reducible refine only_trans ?_ (by with_reducible assumption))))⟩
  have h0_0 : (x6 == 0) = false := by simpa using h0_0
  by_cases h0_1 : x6 = 1
  · subst h0_1
    go_wp2_with fail
    refine (l2Word_any (B := B) (by repeat (first | with_reducible assumption | with_reducible refine Cur.alloc ?_ _ | with_reducible refine Cur.drew ?_ | with_reducible refine Cur.setOther ?_ (by first | omega | (simp; done) | (simp; omega)) (by first | omega | (simp; done) | (simp; omega)) _))).mono ?_
    rintro e w7 ⟨x7, rfl, hi7, hc7, ho7⟩
    have hz7 := ho7.size
    (try simp at hz7)
    have hlt7 := hc7.lt
    have hg7 : w.grownBy w7 (some g) := (by repeat (first | with_reducible assumption | with_reducible exact World.grownBy.refl _ _ | with_reducible refine only_alloc ?_ _ | with_reducible refine only_drew ?_ | with_reducible refine only_drewN ?_ _ | with_reducible refine only_setNew ?_ (by first | omega | (simp; done) | (simp; omega)) _ | (with_reducible refine only_trans ?_ (by with_reducible assumption))))
    have Rr7 : Hid (w7.heap[w.heap.size]? = some (.cells #[.int .i64 0, .int .i64 0, .int .i64 0, .string ⟨#[]⟩] 67 (0, 0))) := Lib.hid ((grow ho7 (by first | omega | (simp; done) | (simp; omega)) (by omega)).trans (by repeat (first | (with_reducible apply heap_setCell_same) | (with_reducible apply drew_row) | (with_reducible apply drewN_row) | (with_reducible exact Rr6.out) | (with_reducible refine (heap_setCell_other _ _ _ _ (by first | omega | (simp; done) | (simp; omega))).trans ?_) | (with_reducible refine (Below.heap_alloc _ _ _ (by first | omega | (simp; done) | (simp; omega))).trans ?_))))
    have lr7 : w.heap.size < w7.heap.size := by omega
    have Rq7 : Hid (w7.heap[w5.heap.size]? = some (.cells #[.int .i64 (x1), .int .i64 (x2), .int .i64 (x3), .string s5] 67 (0, 0))) := Lib.hid ((grow ho7 (by first | omega | (simp; done) | (simp; omega)) (by omega)).trans (by repeat (first | (with_reducible apply heap_setCell_same) | (with_reducible apply drew_row) | (with_reducible apply drewN_row) | (with_reducible exact Rq6.out) | (with_reducible refine (heap_setCell_other _ _ _ _ (by first | omega | (simp; done) | (simp; omega))).trans ?_) | (with_reducible refine (Below.heap_alloc _ _ _ (by first | omega | (simp; done) | (simp; omega))).trans ?_))))
    have lq7 : w5.heap.size < w7.heap.size := by omega
    clear ho7
    have hqr := Rq7.out
    have hrr := Rr7.out
    have r0_hqr := cell_of_row _ _ 0 _ _ _ hqr
    have r1_hqr := cell_of_row _ _ 1 _ _ _ hqr
    have r2_hqr := cell_of_row _ _ 2 _ _ _ hqr
    have r3_hqr := cell_of_row _ _ 3 _ _ _ hqr
    have f0_hqr := frozen_of_row _ _ 0 _ _ hqr
    have f1_hqr := frozen_of_row _ _ 1 _ _ hqr
    have f2_hqr := frozen_of_row _ _ 2 _ _ hqr
    have f3_hqr := frozen_of_row _ _ 3 _ _ hqr
    simp at r0_hqr r1_hqr r2_hqr r3_hqr
    have r0_hrr := cell_of_row _ _ 0 _ _ _ hrr
    have r1_hrr := cell_of_row _ _ 1 _ _ _ hrr
    have r2_hrr := cell_of_row _ _ 2 _ _ _ hrr
    have r3_hrr := cell_of_row _ _ 3 _ _ _ hrr
    have f0_hrr := frozen_of_row _ _ 0 _ _ hrr
    have f1_hrr := frozen_of_row _ _ 1 _ _ hrr
    have f2_hrr := frozen_of_row _ _ 2 _ _ hrr
    have f3_hrr := frozen_of_row _ _ 3 _ _ hrr
    simp at r0_hrr r1_hrr r2_hrr r3_hrr
    clear hqr hrr
    go_wp2_with fail
    apply bodyPost_ret (results_cell_row (P := Try.prog) (fn := Try.f106) rfl _ _ _ 67 _ (0, 0) _ rfl _ Try.underlying67 rfl _) rfl
    rotate_left 2
    · repeat (first | (with_reducible apply heap_setCell_same) | (with_reducible apply drew_row) | (with_reducible apply drewN_row) | (with_reducible exact Rr7.out) | (with_reducible refine (heap_setCell_other _ _ _ _ (by first | omega | (simp; done) | (simp; omega))).trans ?_) | (with_reducible refine (Below.heap_alloc _ _ _ (by first | omega | (simp; done) | (simp; omega))).trans ?_))
    · kernel_rfl
    exact ⟨x1, x7, x3, s5, by first | rfl | (simp; done) | (simp; rfl), by omega, (by repeat (first | with_reducible assumption | with_reducible refine Cur.alloc ?_ _ | with_reducible refine Cur.drew ?_ | with_reducible refine Cur.setOther ?_ (by first | omega | (simp; done) | (simp; omega)) (by first | omega | (simp; done) | (simp; omega)) _)), (by repeat (first | with_reducible assumption | with_reducible exact World.grownBy.refl _ _ | with_reducible refine only_alloc ?_ _ | with_reducible refine only_drew ?_ | with_reducible refine only_drewN ?_ _ | with_reducible refine only_setNew ?_ (by first | omega | (simp; done) | (simp; omega)) _ | (with_reducible refine only_trans ?_ (by with_reducible assumption))))⟩
  have h0_1 : (x6 == 1) = false := by simpa using h0_1
  by_cases h0_2 : x6 = 2
  · subst h0_2
    go_wp2_with fail
    refine (l1Pick_new (B := B) (-1) (65536) (by repeat (first | with_reducible assumption | with_reducible refine Cur.alloc ?_ _ | with_reducible refine Cur.drew ?_ | with_reducible refine Cur.setOther ?_ (by first | omega | (simp; done) | (simp; omega)) (by first | omega | (simp; done) | (simp; omega)) _)) (by rfl) (by omega) (by omega) (by kernel_rfl)).mono ?_
    rintro e w7 ⟨x7, rfl, ⟨hl7, hh7⟩, hc7, ho7⟩
    have hz7 := ho7.size
    (try simp at hz7)
    have hlt7 := hc7.lt
    have hg7 : w.grownBy w7 (some g) := (by repeat (first | with_reducible assumption | with_reducible exact World.grownBy.refl _ _ | with_reducible refine only_alloc ?_ _ | with_reducible refine only_drew ?_ | with_reducible refine only_drewN ?_ _ | with_reducible refine only_setNew ?_ (by first | omega | (simp; done) | (simp; omega)) _ | (with_reducible refine only_trans ?_ (by with_reducible assumption))))
    have Rr7 : Hid (w7.heap[w.heap.size]? = some (.cells #[.int .i64 0, .int .i64 0, .int .i64 0, .string ⟨#[]⟩] 67 (0, 0))) := Lib.hid ((grow ho7 (by first | omega | (simp; done) | (simp; omega)) (by omega)).trans (by repeat (first | (with_reducible apply heap_setCell_same) | (with_reducible apply drew_row) | (with_reducible apply drewN_row) | (with_reducible exact Rr6.out) | (with_reducible refine (heap_setCell_other _ _ _ _ (by first | omega | (simp; done) | (simp; omega))).trans ?_) | (with_reducible refine (Below.heap_alloc _ _ _ (by first | omega | (simp; done) | (simp; omega))).trans ?_))))
    have lr7 : w.heap.size < w7.heap.size := by omega
    have Rq7 : Hid (w7.heap[w5.heap.size]? = some (.cells #[.int .i64 (x1), .int .i64 (x2), .int .i64 (x3), .string s5] 67 (0, 0))) := Lib.hid ((grow ho7 (by first | omega | (simp; done) | (simp; omega)) (by omega)).trans (by repeat (first | (with_reducible apply heap_setCell_same) | (with_reducible apply drew_row) | (with_reducible apply drewN_row) | (with_reducible exact Rq6.out) | (with_reducible refine (heap_setCell_other _ _ _ _ (by first | omega | (simp; done) | (simp; omega))).trans ?_) | (with_reducible refine (Below.heap_alloc _ _ _ (by first | omega | (simp; done) | (simp; omega))).trans ?_))))
    have lq7 : w5.heap.size < w7.heap.size := by omega
    clear ho7
    have hqr := Rq7.out
    have hrr := Rr7.out
    have r0_hqr := cell_of_row _ _ 0 _ _ _ hqr
    have r1_hqr := cell_of_row _ _ 1 _ _ _ hqr
    have r2_hqr := cell_of_row _ _ 2 _ _ _ hqr
    have r3_hqr := cell_of_row _ _ 3 _ _ _ hqr
    have f0_hqr := frozen_of_row _ _ 0 _ _ hqr
    have f1_hqr := frozen_of_row _ _ 1 _ _ hqr
    have f2_hqr := frozen_of_row _ _ 2 _ _ hqr
    have f3_hqr := frozen_of_row _ _ 3 _ _ hqr
    simp at r0_hqr r1_hqr r2_hqr r3_hqr
    have r0_hrr := cell_of_row _ _ 0 _ _ _ hrr
    have r1_hrr := cell_of_row _ _ 1 _ _ _ hrr
    have r2_hrr := cell_of_row _ _ 2 _ _ _ hrr
    have r3_hrr := cell_of_row _ _ 3 _ _ _ hrr
    have f0_hrr := frozen_of_row _ _ 0 _ _ hrr
    have f1_hrr := frozen_of_row _ _ 1 _ _ hrr
    have f2_hrr := frozen_of_row _ _ 2 _ _ hrr
    have f3_hrr := frozen_of_row _ _ 3 _ _ hrr
    simp at r0_hrr r1_hrr r2_hrr r3_hrr
    clear hqr hrr
    go_wp2_with fail
    apply bodyPost_ret (results_cell_row (P := Try.prog) (fn := Try.f106) rfl _ _ _ 67 _ (0, 0) _ rfl _ Try.underlying67 rfl _) rfl
    rotate_left 2
    · repeat (first | (with_reducible apply heap_setCell_same) | (with_reducible apply drew_row) | (with_reducible apply drewN_row) | (with_reducible exact Rr7.out) | (with_reducible refine (heap_setCell_other _ _ _ _ (by first | omega | (simp; done) | (simp; omega))).trans ?_) | (with_reducible refine (Below.heap_alloc _ _ _ (by first | omega | (simp; done) | (simp; omega))).trans ?_))
    · kernel_rfl
    exact ⟨x1, x2, x7, s5, by first | rfl | (simp; done) | (simp; rfl), by omega, (by repeat (first | with_reducible assumption | with_reducible refine Cur.alloc ?_ _ | with_reducible refine Cur.drew ?_ | with_reducible refine Cur.setOther ?_ (by first | omega | (simp; done) | (simp; omega)) (by first | omega | (simp; done) | (simp; omega)) _)), (by repeat (first | with_reducible assumption | with_reducible exact World.grownBy.refl _ _ | with_reducible refine only_alloc ?_ _ | with_reducible refine only_drew ?_ | with_reducible refine only_drewN ?_ _ | with_reducible refine only_setNew ?_ (by first | omega | (simp; done) | (simp; omega)) _ | (with_reducible refine only_trans ?_ (by with_reducible assumption))))⟩
  have h0_2 : (x6 == 2) = false := by simpa using h0_2
  by_cases h0_3 : x6 = 3
  · subst h0_3
    go_wp2_with fail
    refine (l1Below_any (B := B) (by repeat (first | with_reducible assumption | with_reducible refine Cur.alloc ?_ _ | with_reducible refine Cur.drew ?_ | with_reducible refine Cur.setOther ?_ (by first | omega | (simp; done) | (simp; omega)) (by first | omega | (simp; done) | (simp; omega)) _)) 4 (by omega) (by omega)).mono ?_
    rintro e w7 ⟨x7, rfl, ⟨hl7, hh7⟩, hc7, ho7⟩
    have hz7 := ho7.size
    (try simp at hz7)
    have hlt7 := hc7.lt
    have hg7 : w.grownBy w7 (some g) := (by repeat (first | with_reducible assumption | with_reducible exact World.grownBy.refl _ _ | with_reducible refine only_alloc ?_ _ | with_reducible refine only_drew ?_ | with_reducible refine only_drewN ?_ _ | with_reducible refine only_setNew ?_ (by first | omega | (simp; done) | (simp; omega)) _ | (with_reducible refine only_trans ?_ (by with_reducible assumption))))
    have Rr7 : Hid (w7.heap[w.heap.size]? = some (.cells #[.int .i64 0, .int .i64 0, .int .i64 0, .string ⟨#[]⟩] 67 (0, 0))) := Lib.hid ((grow ho7 (by first | omega | (simp; done) | (simp; omega)) (by omega)).trans (by repeat (first | (with_reducible apply heap_setCell_same) | (with_reducible apply drew_row) | (with_reducible apply drewN_row) | (with_reducible exact Rr6.out) | (with_reducible refine (heap_setCell_other _ _ _ _ (by first | omega | (simp; done) | (simp; omega))).trans ?_) | (with_reducible refine (Below.heap_alloc _ _ _ (by first | omega | (simp; done) | (simp; omega))).trans ?_))))
    have lr7 : w.heap.size < w7.heap.size := by omega
    have Rq7 : Hid (w7.heap[w5.heap.size]? = some (.cells #[.int .i64 (x1), .int .i64 (x2), .int .i64 (x3), .string s5] 67 (0, 0))) := Lib.hid ((grow ho7 (by first | omega | (simp; done) | (simp; omega)) (by omega)).trans (by repeat (first | (with_reducible apply heap_setCell_same) | (with_reducible apply drew_row) | (with_reducible apply drewN_row) | (with_reducible exact Rq6.out) | (with_reducible refine (heap_setCell_other _ _ _ _ (by first | omega | (simp; done) | (simp; omega))).trans ?_) | (with_reducible refine (Below.heap_alloc _ _ _ (by first | omega | (simp; done) | (simp; omega))).trans ?_))))
    have lq7 : w5.heap.size < w7.heap.size := by omega
    clear ho7
    go_wp2_with fail
    refine (l5Long_any _ (by omega) (by omega) _).mono ?_
    rintro e w8 ⟨⟨s8, rfl, hs8⟩, hb8⟩
    have hss8 : s8.size ≤ 4096 := by omega
    clear hs8
    have ho8 := grown_below hb8 (some g)
    have hc8 : Cur w8 B g := cur_below (by repeat (first | with_reducible assumption | with_reducible refine Cur.alloc ?_ _ | with_reducible refine Cur.drew ?_ | with_reducible refine Cur.setOther ?_ (by first | omega | (simp; done) | (simp; omega)) (by first | omega | (simp; done) | (simp; omega)) _)) hb8
    clear hb8
    have hz8 := ho8.size
    (try simp at hz8)
    have hlt8 := hc8.lt
    have hg8 : w.grownBy w8 (some g) := (by repeat (first | with_reducible assumption | with_reducible exact World.grownBy.refl _ _ | with_reducible refine only_alloc ?_ _ | with_reducible refine only_drew ?_ | with_reducible refine only_drewN ?_ _ | with_reducible refine only_setNew ?_ (by first | omega | (simp; done) | (simp; omega)) _ | (with_reducible refine only_trans ?_ (by with_reducible assumption))))
    have Rr8 : Hid (w8.heap[w.heap.size]? = some (.cells #[.int .i64 0, .int .i64 0, .int .i64 0, .string ⟨#[]⟩] 67 (0, 0))) := Lib.hid ((grow ho8 (by first | omega | (simp; done) | (simp; omega)) (by omega)).trans (by repeat (first | (with_reducible apply heap_setCell_same) | (with_reducible apply drew_row) | (with_reducible apply drewN_row) | (with_reducible exact Rr7.out) | (with_reducible refine (heap_setCell_other _ _ _ _ (by first | omega | (simp; done) | (simp; omega))).trans ?_) | (with_reducible refine (Below.heap_alloc _ _ _ (by first | omega | (simp; done) | (simp; omega))).trans ?_))))
    have lr8 : w.heap.size < w8.heap.size := by omega
    have Rq8 : Hid (w8.heap[w5.heap.size]? = some (.cells #[.int .i64 (x1), .int .i64 (x2), .int .i64 (x3), .string s5] 67 (0, 0))) := Lib.hid ((grow ho8 (by first | omega | (simp; done) | (simp; omega)) (by omega)).trans (by repeat (first | (with_reducible apply heap_setCell_same) | (with_reducible apply drew_row) | (with_reducible apply drewN_row) | (with_reducible exact Rq7.out) | (with_reducible refine (heap_setCell_other _ _ _ _ (by first | omega | (simp; done) | (simp; omega))).trans ?_) | (with_reducible refine (Below.heap_alloc _ _ _ (by first | omega | (simp; done) | (simp; omega))).trans ?_))))
    have lq8 : w5.heap.size < w8.heap.size := by omega
    clear ho8
    have hqr := Rq8.out
    have hrr := Rr8.out
    have r0_hqr := cell_of_row _ _ 0 _ _ _ hqr
    have r1_hqr := cell_of_row _ _ 1 _ _ _ hqr
    have r2_hqr := cell_of_row _ _ 2 _ _ _ hqr
    have r3_hqr := cell_of_row _ _ 3 _ _ _ hqr
    have f0_hqr := frozen_of_row _ _ 0 _ _ hqr
    have f1_hqr := frozen_of_row _ _ 1 _ _ hqr
    have f2_hqr := frozen_of_row _ _ 2 _ _ hqr
    have f3_hqr := frozen_of_row _ _ 3 _ _ hqr
    simp at r0_hqr r1_hqr r2_hqr r3_hqr
    have r0_hrr := cell_of_row _ _ 0 _ _ _ hrr
    have r1_hrr := cell_of_row _ _ 1 _ _ _ hrr
    have r2_hrr := cell_of_row _ _ 2 _ _ _ hrr
    have r3_hrr := cell_of_row _ _ 3 _ _ _ hrr
    have f0_hrr := frozen_of_row _ _ 0 _ _ hrr
    have f1_hrr := frozen_of_row _ _ 1 _ _ hrr
    have f2_hrr := frozen_of_row _ _ 2 _ _ hrr
    have f3_hrr := frozen_of_row _ _ 3 _ _ hrr
    simp at r0_hrr r1_hrr r2_hrr r3_hrr
    clear hqr hrr
    go_wp2_with fail
    apply bodyPost_ret (results_cell_row (P := Try.prog) (fn := Try.f106) rfl _ _ _ 67 _ (0, 0) _ rfl _ Try.underlying67 rfl _) rfl
    rotate_left 2
    · repeat (first | (with_reducible apply heap_setCell_same) | (with_reducible apply drew_row) | (with_reducible apply drewN_row) | (with_reducible exact Rr8.out) | (with_reducible refine (heap_setCell_other _ _ _ _ (by first | omega | (simp; done) | (simp; omega))).trans ?_) | (with_reducible refine (Below.heap_alloc _ _ _ (by first | omega | (simp; done) | (simp; omega))).trans ?_))
    · kernel_rfl
    exact ⟨x1, x2, x3, s8, by first | rfl | (simp; done) | (simp; rfl), by omega, (by repeat (first | with_reducible assumption | with_reducible refine Cur.alloc ?_ _ | with_reducible refine Cur.drew ?_ | with_reducible refine Cur.setOther ?_ (by first | omega | (simp; done) | (simp; omega)) (by first | omega | (simp; done) | (simp; omega)) _)), (by repeat (first | with_reducible assumption | with_reducible exact World.grownBy.refl _ _ | with_reducible refine only_alloc ?_ _ | with_reducible refine only_drew ?_ | with_reducible refine only_drewN ?_ _ | with_reducible refine only_setNew ?_ (by first | omega | (simp; done) | (simp; omega)) _ | (with_reducible refine only_trans ?_ (by with_reducible assumption))))⟩
  have h0_3 : (x6 == 3) = false := by simpa using h0_3
  have hqr := Rq6.out
  have hrr := Rr6.out
  have r0_hqr := cell_of_row _ _ 0 _ _ _ hqr
  have r1_hqr := cell_of_row _ _ 1 _ _ _ hqr
  have r2_hqr := cell_of_row _ _ 2 _ _ _ hqr
  have r3_hqr := cell_of_row _ _ 3 _ _ _ hqr
  have f0_hqr := frozen_of_row _ _ 0 _ _ hqr
  have f1_hqr := frozen_of_row _ _ 1 _ _ hqr
  have f2_hqr := frozen_of_row _ _ 2 _ _ hqr
  have f3_hqr := frozen_of_row _ _ 3 _ _ hqr
  simp at r0_hqr r1_hqr r2_hqr r3_hqr
  have r0_hrr := cell_of_row _ _ 0 _ _ _ hrr
  have r1_hrr := cell_of_row _ _ 1 _ _ _ hrr
  have r2_hrr := cell_of_row _ _ 2 _ _ _ hrr
  have r3_hrr := cell_of_row _ _ 3 _ _ _ hrr
  have f0_hrr := frozen_of_row _ _ 0 _ _ hrr
  have f1_hrr := frozen_of_row _ _ 1 _ _ hrr
  have f2_hrr := frozen_of_row _ _ 2 _ _ hrr
  have f3_hrr := frozen_of_row _ _ 3 _ _ hrr
  simp at r0_hrr r1_hrr r2_hrr r3_hrr
  clear hqr hrr
  go_wp2_with fail
  apply bodyPost_ret (results_cell_row (P := Try.prog) (fn := Try.f106) rfl _ _ _ 67 _ (0, 0) _ rfl _ Try.underlying67 rfl _) rfl
  rotate_left 2
  · repeat (first | (with_reducible apply heap_setCell_same) | (with_reducible apply drew_row) | (with_reducible apply drewN_row) | (with_reducible exact Rr6.out) | (with_reducible refine (heap_setCell_other _ _ _ _ (by first | omega | (simp; done) | (simp; omega))).trans ?_) | (with_reducible refine (Below.heap_alloc _ _ _ (by first | omega | (simp; done) | (simp; omega))).trans ?_))
  · kernel_rfl
  exact ⟨x1, x2, x3, s5, by first | rfl | (simp; done) | (simp; rfl), by omega, (by repeat (first | with_reducible assumption | with_reducible refine Cur.alloc ?_ _ | with_reducible refine Cur.drew ?_ | with_reducible refine Cur.setOther ?_ (by first | omega | (simp; done) | (simp; omega)) (by first | omega | (simp; done) | (simp; omega)) _)), (by repeat (first | with_reducible assumption | with_reducible exact World.grownBy.refl _ _ | with_reducible refine only_alloc ?_ _ | with_reducible refine only_drew ?_ | with_reducible refine only_drewN ?_ _ | with_reducible refine only_setNew ?_ (by first | omega | (simp; done) | (simp; omega)) _ | (with_reducible refine only_trans ?_ (by with_reducible assumption))))⟩
set_option maxHeartbeats 8000000 in
set_option linter.unusedVariables false in
set_option linter.unusedSimpArgs false in
theorem l7Packet_any {w : World} {B g : Nat} (hcur : Cur w B g) :
    Calls Try.prog 107 #[.pointer (some ⟨g, 0, none⟩)] w (DrewPacket w B g) := by
  have hlt := hcur.lt
  have hlow := hcur.low
  go_enter Try.func107, Try.ntmps107
  go_wp2_with fail
  refine (l6Ip_any (B := B) (by repeat (first | with_reducible assumption | with_reducible refine Cur.alloc ?_ _ | with_reducible refine Cur.drew ?_ | with_reducible refine Cur.setOther ?_ (by first | omega | (simp; done) | (simp; omega)) (by first | omega | (simp; done) | (simp; omega)) _))).mono ?_
  rintro e w1 ⟨x1, rfl, ⟨hl1, hh1⟩, hc1, ho1⟩
  have hz1 := ho1.size
  (try simp at hz1)
  have hlt1 := hc1.lt
  have hg1 : w.grownBy w1 (some g) := (by repeat (first | with_reducible assumption | with_reducible exact World.grownBy.refl _ _ | with_reducible refine only_alloc ?_ _ | with_reducible refine only_drew ?_ | with_reducible refine only_drewN ?_ _ | with_reducible refine only_setNew ?_ (by first | omega | (simp; done) | (simp; omega)) _ | (with_reducible refine only_trans ?_ (by with_reducible assumption))))
  have Rr1 : Hid (w1.heap[w.heap.size]? = some (.cells #[.int .i64 0, .int .i64 0, .int .i64 0, .int .i64 0, .int .i64 0, .string ⟨#[]⟩] 58 (0, 0))) := Lib.hid ((grow ho1 (by first | omega | (simp; done) | (simp; omega)) (by omega)).trans (by repeat (first | exact heap_new _ _ _ (by first | rfl | (simp; done) | (simp; omega)) | refine (Below.heap_alloc _ _ _ (by first | omega | (simp; done) | (simp; omega))).trans ?_)))
  have lr1 : w.heap.size < w1.heap.size := by omega
  clear ho1
  go_wp2_with fail
  refine (l6Ip_any (B := B) (by repeat (first | with_reducible assumption | with_reducible refine Cur.alloc ?_ _ | with_reducible refine Cur.drew ?_ | with_reducible refine Cur.setOther ?_ (by first | omega | (simp; done) | (simp; omega)) (by first | omega | (simp; done) | (simp; omega)) _))).mono ?_
  rintro e w2 ⟨x2, rfl, ⟨hl2, hh2⟩, hc2, ho2⟩
  have hz2 := ho2.size
  (try simp at hz2)
  have hlt2 := hc2.lt
  have hg2 : w.grownBy w2 (some g) := (by repeat (first | with_reducible assumption | with_reducible exact World.grownBy.refl _ _ | with_reducible refine only_alloc ?_ _ | with_reducible refine only_drew ?_ | with_reducible refine only_drewN ?_ _ | with_reducible refine only_setNew ?_ (by first | omega | (simp; done) | (simp; omega)) _ | (with_reducible refine only_trans ?_ (by with_reducible assumption))))
  have Rr2 : Hid (w2.heap[w.heap.size]? = some (.cells #[.int .i64 0, .int .i64 0, .int .i64 0, .int .i64 0, .int .i64 0, .string ⟨#[]⟩] 58 (0, 0))) := Lib.hid ((grow ho2 (by first | omega | (simp; done) | (simp; omega)) (by omega)).trans (by repeat (first | (with_reducible apply heap_setCell_same) | (with_reducible apply drew_row) | (with_reducible apply drewN_row) | (with_reducible exact Rr1.out) | (with_reducible refine (heap_setCell_other _ _ _ _ (by first | omega | (simp; done) | (simp; omega))).trans ?_) | (with_reducible refine (Below.heap_alloc _ _ _ (by first | omega | (simp; done) | (simp; omega))).trans ?_))))
  have lr2 : w.heap.size < w2.heap.size := by omega
  clear ho2
  go_wp2_with fail
  refine (l1Below_any (B := B) (by repeat (first | with_reducible assumption | with_reducible refine Cur.alloc ?_ _ | with_reducible refine Cur.drew ?_ | with_reducible refine Cur.setOther ?_ (by first | omega | (simp; done) | (simp; omega)) (by first | omega | (simp; done) | (simp; omega)) _)) 64 (by omega) (by omega)).mono ?_
  rintro e w3 ⟨x3, rfl, ⟨hl3, hh3⟩, hc3, ho3⟩
  have hz3 := ho3.size
  (try simp at hz3)
  have hlt3 := hc3.lt
  have hg3 : w.grownBy w3 (some g) := (by repeat (first | with_reducible assumption | with_reducible exact World.grownBy.refl _ _ | with_reducible refine only_alloc ?_ _ | with_reducible refine only_drew ?_ | with_reducible refine only_drewN ?_ _ | with_reducible refine only_setNew ?_ (by first | omega | (simp; done) | (simp; omega)) _ | (with_reducible refine only_trans ?_ (by with_reducible assumption))))
  have Rr3 : Hid (w3.heap[w.heap.size]? = some (.cells #[.int .i64 0, .int .i64 0, .int .i64 0, .int .i64 0, .int .i64 0, .string ⟨#[]⟩] 58 (0, 0))) := Lib.hid ((grow ho3 (by first | omega | (simp; done) | (simp; omega)) (by omega)).trans (by repeat (first | (with_reducible apply heap_setCell_same) | (with_reducible apply drew_row) | (with_reducible apply drewN_row) | (with_reducible exact Rr2.out) | (with_reducible refine (heap_setCell_other _ _ _ _ (by first | omega | (simp; done) | (simp; omega))).trans ?_) | (with_reducible refine (Below.heap_alloc _ _ _ (by first | omega | (simp; done) | (simp; omega))).trans ?_))))
  have lr3 : w.heap.size < w3.heap.size := by omega
  clear ho3
  go_wp2_with fail
  refine (l1Pick_new (B := B) (0) (17) (by repeat (first | with_reducible assumption | with_reducible refine Cur.alloc ?_ _ | with_reducible refine Cur.drew ?_ | with_reducible refine Cur.setOther ?_ (by first | omega | (simp; done) | (simp; omega)) (by first | omega | (simp; done) | (simp; omega)) _)) (by rfl) (by omega) (by omega) (by kernel_rfl)).mono ?_
  rintro e w4 ⟨x4, rfl, ⟨hl4, hh4⟩, hc4, ho4⟩
  have hz4 := ho4.size
  (try simp at hz4)
  have hlt4 := hc4.lt
  have hg4 : w.grownBy w4 (some g) := (by repeat (first | with_reducible assumption | with_reducible exact World.grownBy.refl _ _ | with_reducible refine only_alloc ?_ _ | with_reducible refine only_drew ?_ | with_reducible refine only_drewN ?_ _ | with_reducible refine only_setNew ?_ (by first | omega | (simp; done) | (simp; omega)) _ | (with_reducible refine only_trans ?_ (by with_reducible assumption))))
  have Rr4 : Hid (w4.heap[w.heap.size]? = some (.cells #[.int .i64 0, .int .i64 0, .int .i64 0, .int .i64 0, .int .i64 0, .string ⟨#[]⟩] 58 (0, 0))) := Lib.hid ((grow ho4 (by first | omega | (simp; done) | (simp; omega)) (by omega)).trans (by repeat (first | (with_reducible apply heap_setCell_same) | (with_reducible apply drew_row) | (with_reducible apply drewN_row) | (with_reducible exact Rr3.out) | (with_reducible refine (heap_setCell_other _ _ _ _ (by first | omega | (simp; done) | (simp; omega))).trans ?_) | (with_reducible refine (Below.heap_alloc _ _ _ (by first | omega | (simp; done) | (simp; omega))).trans ?_))))
  have lr4 : w.heap.size < w4.heap.size := by omega
  clear ho4
  go_wp2_with fail
  refine (l1Below_any (B := B) (by repeat (first | with_reducible assumption | with_reducible refine Cur.alloc ?_ _ | with_reducible refine Cur.drew ?_ | with_reducible refine Cur.setOther ?_ (by first | omega | (simp; done) | (simp; omega)) (by first | omega | (simp; done) | (simp; omega)) _)) 65536 (by omega) (by omega)).mono ?_
  rintro e w5 ⟨x5, rfl, ⟨hl5, hh5⟩, hc5, ho5⟩
  have hz5 := ho5.size
  (try simp at hz5)
  have hlt5 := hc5.lt
  have hg5 : w.grownBy w5 (some g) := (by repeat (first | with_reducible assumption | with_reducible exact World.grownBy.refl _ _ | with_reducible refine only_alloc ?_ _ | with_reducible refine only_drew ?_ | with_reducible refine only_drewN ?_ _ | with_reducible refine only_setNew ?_ (by first | omega | (simp; done) | (simp; omega)) _ | (with_reducible refine only_trans ?_ (by with_reducible assumption))))
  have Rr5 : Hid (w5.heap[w.heap.size]? = some (.cells #[.int .i64 0, .int .i64 0, .int .i64 0, .int .i64 0, .int .i64 0, .string ⟨#[]⟩] 58 (0, 0))) := Lib.hid ((grow ho5 (by first | omega | (simp; done) | (simp; omega)) (by omega)).trans (by repeat (first | (with_reducible apply heap_setCell_same) | (with_reducible apply drew_row) | (with_reducible apply drewN_row) | (with_reducible exact Rr4.out) | (with_reducible refine (heap_setCell_other _ _ _ _ (by first | omega | (simp; done) | (simp; omega))).trans ?_) | (with_reducible refine (Below.heap_alloc _ _ _ (by first | omega | (simp; done) | (simp; omega))).trans ?_))))
  have lr5 : w.heap.size < w5.heap.size := by omega
  clear ho5
  go_wp2_with fail
  refine (l1Below_any (B := B) (by repeat (first | with_reducible assumption | with_reducible refine Cur.alloc ?_ _ | with_reducible refine Cur.drew ?_ | with_reducible refine Cur.setOther ?_ (by first | omega | (simp; done) | (simp; omega)) (by first | omega | (simp; done) | (simp; omega)) _)) 8 (by omega) (by omega)).mono ?_
  rintro e w6 ⟨x6, rfl, ⟨hl6, hh6⟩, hc6, ho6⟩
  have hz6 := ho6.size
  (try simp at hz6)
  have hlt6 := hc6.lt
  have hg6 : w.grownBy w6 (some g) := (by repeat (first | with_reducible assumption | with_reducible exact World.grownBy.refl _ _ | with_reducible refine only_alloc ?_ _ | with_reducible refine only_drew ?_ | with_reducible refine only_drewN ?_ _ | with_reducible refine only_setNew ?_ (by first | omega | (simp; done) | (simp; omega)) _ | (with_reducible refine only_trans ?_ (by with_reducible assumption))))
  have Rr6 : Hid (w6.heap[w.heap.size]? = some (.cells #[.int .i64 0, .int .i64 0, .int .i64 0, .int .i64 0, .int .i64 0, .string ⟨#[]⟩] 58 (0, 0))) := Lib.hid ((grow ho6 (by first | omega | (simp; done) | (simp; omega)) (by omega)).trans (by repeat (first | (with_reducible apply heap_setCell_same) | (with_reducible apply drew_row) | (with_reducible apply drewN_row) | (with_reducible exact Rr5.out) | (with_reducible refine (heap_setCell_other _ _ _ _ (by first | omega | (simp; done) | (simp; omega))).trans ?_) | (with_reducible refine (Below.heap_alloc _ _ _ (by first | omega | (simp; done) | (simp; omega))).trans ?_))))
  have lr6 : w.heap.size < w6.heap.size := by omega
  clear ho6
  go_wp2_with fail
  refine (l1Bytes_any (B := B) (by repeat (first | with_reducible assumption | with_reducible refine Cur.alloc ?_ _ | with_reducible refine Cur.drew ?_ | with_reducible refine Cur.setOther ?_ (by first | omega | (simp; done) | (simp; omega)) (by first | omega | (simp; done) | (simp; omega)) _)) _ (by omega) (by omega)).mono ?_
  rintro e w7 ⟨v7, xs7, rfl, hO7, hn7, hc7, ho7⟩
  have hz7 := ho7.size
  (try simp at hz7)
  have hlt7 := hc7.lt
  have hg7 : w.grownBy w7 (some g) := (by repeat (first | with_reducible assumption | with_reducible exact World.grownBy.refl _ _ | with_reducible refine only_alloc ?_ _ | with_reducible refine only_drew ?_ | with_reducible refine only_drewN ?_ _ | with_reducible refine only_setNew ?_ (by first | omega | (simp; done) | (simp; omega)) _ | (with_reducible refine only_trans ?_ (by with_reducible assumption))))
  have Rr7 : Hid (w7.heap[w.heap.size]? = some (.cells #[.int .i64 0, .int .i64 0, .int .i64 0, .int .i64 0, .int .i64 0, .string ⟨#[]⟩] 58 (0, 0))) := Lib.hid ((grow ho7 (by first | omega | (simp; done) | (simp; omega)) (by omega)).trans (by repeat (first | (with_reducible apply heap_setCell_same) | (with_reducible apply drew_row) | (with_reducible apply drewN_row) | (with_reducible exact Rr6.out) | (with_reducible refine (heap_setCell_other _ _ _ _ (by first | omega | (simp; done) | (simp; omega))).trans ?_) | (with_reducible refine (Below.heap_alloc _ _ _ (by first | omega | (simp; done) | (simp; omega))).trans ?_))))
  have lr7 : w.heap.size < w7.heap.size := by omega
  clear ho7
  have hcv7 := hO7.conv w7 (fun _ _ _ _ => rfl)
  have hss7 : (strOfNums xs7).size ≤ 4096 := by rw [strOfNums_size]; omega
  obtain ⟨A7, c7, rfl⟩ := hO7.form
  generalize strOfNums xs7 = s7 at hcv7 hss7
  clear hO7 hn7
  go_wp2_with fail
  refine (l1Below_any (B := B) (by repeat (first | with_reducible assumption | with_reducible refine Cur.alloc ?_ _ | with_reducible refine Cur.drew ?_ | with_reducible refine Cur.setOther ?_ (by first | omega | (simp; done) | (simp; omega)) (by first | omega | (simp; done) | (simp; omega)) _)) 14 (by omega) (by omega)).mono ?_
  rintro e w8 ⟨x8, rfl, ⟨hl8, hh8⟩, hc8, ho8⟩
  have hz8 := ho8.size
  (try simp at hz8)
  have hlt8 := hc8.lt
  have hg8 : w.grownBy w8 (some g) := (by repeat (first | with_reducible assumption | with_reducible exact World.grownBy.refl _ _ | with_reducible refine only_alloc ?_ _ | with_reducible refine only_drew ?_ | with_reducible refine only_drewN ?_ _ | with_reducible refine only_setNew ?_ (by first | omega | (simp; done) | (simp; omega)) _ | (with_reducible refine only_trans ?_ (by with_reducible assumption))))
  have Rr8 : Hid (w8.heap[w.heap.size]? = some (.cells #[.int .i64 0, .int .i64 0, .int .i64 0, .int .i64 0, .int .i64 0, .string ⟨#[]⟩] 58 (0, 0))) := Lib.hid ((grow ho8 (by first | omega | (simp; done) | (simp; omega)) (by omega)).trans (by repeat (first | (with_reducible apply heap_setCell_same) | (with_reducible apply drew_row) | (with_reducible apply drewN_row) | (with_reducible exact Rr7.out) | (with_reducible refine (heap_setCell_other _ _ _ _ (by first | omega | (simp; done) | (simp; omega))).trans ?_) | (with_reducible refine (Below.heap_alloc _ _ _ (by first | omega | (simp; done) | (simp; omega))).trans ?_))))
  have lr8 : w.heap.size < w8.heap.size := by omega
  have Rq8 : Hid (w8.heap[w7.heap.size]? = some (.cells #[.int .i64 (x1), .int .i64 (x2), .int .i64 (1 + x3), .int .i64 (x4), .int .i64 (x5), .string s7] 58 (0, 0))) := Lib.hid ((grow ho8 (by first | omega | (simp; done) | (simp; omega)) (by omega)).trans (by repeat (first | exact heap_new _ _ _ (by first | rfl | (simp; done) | (simp; omega)) | refine (Below.heap_alloc _ _ _ (by first | omega | (simp; done) | (simp; omega))).trans ?_)))
  have lq8 : w7.heap.size < w8.heap.size := by omega
  clear ho8
  clear hcv7
  have hng : ¬ w7.heap.size = g := by omega
  have hnr : ¬ w7.heap.size = w.heap.size := by omega
  have hnr2 : ¬ w.heap.size = w7.heap.size := by omega
  have hBq : B ≤ w7.heap.size := by omega
  by_cases h0_0 : x8 = 0
  · subst h0_0
    go_wp2_with fail
    refine (l2Word_any (B := B) (by repeat (first | with_reducible assumption | with_reducible refine Cur.alloc ?_ _ | with_reducible refine Cur.drew ?_ | with_reducible refine Cur.setOther ?_ (by first | omega | (simp; done) | (simp; omega)) (by first | omega | (simp; done) | (simp; omega)) _))).mono ?_
    rintro e w9 ⟨x9, rfl, hi9, hc9, ho9⟩
    have hz9 := ho9.size
    (try simp at hz9)
    have hlt9 := hc9.lt
    have hg9 : w.grownBy w9 (some g) := (by repeat (first | with_reducible assumption | with_reducible exact World.grownBy.refl _ _ | with_reducible refine only_alloc ?_ _ | with_reducible refine only_drew ?_ | with_reducible refine only_drewN ?_ _ | with_reducible refine only_setNew ?_ (by first | omega | (simp; done) | (simp; omega)) _ | (with_reducible refine only_trans ?_ (by with_reducible assumption))))
    have Rr9 : Hid (w9.heap[w.heap.size]? = some (.cells #[.int .i64 0, .int .i64 0, .int .i64 0, .int .i64 0, .int .i64 0, .string ⟨#[]⟩] 58 (0, 0))) := Lib.hid ((grow ho9 (by first | omega | (simp; done) | (simp; omega)) (by omega)).trans (by repeat (first | (with_reducible apply heap_setCell_same) | (with_reducible apply drew_row) | (with_reducible apply drewN_row) | (with_reducible exact Rr8.out) | (with_reducible refine (heap_setCell_other _ _ _ _ (by first | omega | (simp; done) | (simp; omega))).trans ?_) | (with_reducible refine (Below.heap_alloc _ _ _ (by first | omega | (simp; done) | (simp; omega))).trans ?_))))
    have lr9 : w.heap.size < w9.heap.size := by omega
    have Rq9 : Hid (w9.heap[w7.heap.size]? = some (.cells #[.int .i64 (x1), .int .i64 (x2), .int .i64 (1 + x3), .int .i64 (x4), .int .i64 (x5), .string s7] 58 (0, 0))) := Lib.hid ((grow ho9 (by first | omega | (simp; done) | (simp; omega)) (by omega)).trans (by repeat (first | (with_reducible apply heap_setCell_same) | (with_reducible apply drew_row) | (with_reducible apply drewN_row) | (with_reducible exact Rq8.out) | (with_reducible refine (heap_setCell_other _ _ _ _ (by first | omega | (simp; done) | (simp; omega))).trans ?_) | (with_reducible refine (Below.heap_alloc _ _ _ (by first | omega | (simp; done) | (simp; omega))).trans ?_))))
    have lq9 : w7.heap.size < w9.heap.size := by omega
    clear ho9
    have hqr := Rq9.out
    have hrr := Rr9.out
    have r0_hqr := cell_of_row _ _ 0 _ _ _ hqr
    have r1_hqr := cell_of_row _ _ 1 _ _ _ hqr
    have r2_hqr := cell_of_row _ _ 2 _ _ _ hqr
    have r3_hqr := cell_of_row _ _ 3 _ _ _ hqr
    have r4_hqr := cell_of_row _ _ 4 _ _ _ hqr
    have r5_hqr := cell_of_row _ _ 5 _ _ _ hqr
    have f0_hqr := frozen_of_row _ _ 0 _ _ hqr
    have f1_hqr := frozen_of_row _ _ 1 _ _ hqr
    have f2_hqr := frozen_of_row _ _ 2 _ _ hqr
    have f3_hqr := frozen_of_row _ _ 3 _ _ hqr
    have f4_hqr := frozen_of_row _ _ 4 _ _ hqr
    have f5_hqr := frozen_of_row _ _ 5 _ _ hqr
    simp at r0_hqr r1_hqr r2_hqr r3_hqr r4_hqr r5_hqr
    have r0_hrr := cell_of_row _ _ 0 _ _ _ hrr
    have r1_hrr := cell_of_row _ _ 1 _ _ _ hrr
    have r2_hrr := cell_of_row _ _ 2 _ _ _ hrr
    have r3_hrr := cell_of_row _ _ 3 _ _ _ hrr
    have r4_hrr := cell_of_row _ _ 4 _ _ _ hrr
    have r5_hrr := cell_of_row _ _ 5 _ _ _ hrr
    have f0_hrr := frozen_of_row _ _ 0 _ _ hrr
    have f1_hrr := frozen_of_row _ _ 1 _ _ hrr
    have f2_hrr := frozen_of_row _ _ 2 _ _ hrr
    have f3_hrr := frozen_of_row _ _ 3 _ _ hrr
    have f4_hrr := frozen_of_row _ _ 4 _ _ hrr
    have f5_hrr := frozen_of_row _ _ 5 _ _ hrr
    simp at r0_hrr r1_hrr r2_hrr r3_hrr r4_hrr r5_hrr
    clear hqr hrr
    go_wp2_with fail
    apply bodyPost_ret (results_cell_row (P := Try.prog) (fn := Try.f107) rfl _ _ _ 58 _ (0, 0) _ rfl _ Try.underlying58 rfl _) rfl
    rotate_left 2
    · repeat (first | (with_reducible apply heap_setCell_same) | (with_reducible apply drew_row) | (with_reducible apply drewN_row) | (with_reducible exact Rr9.out) | (with_reducible refine (heap_setCell_other _ _ _ _ (by first | omega | (simp; done) | (simp; omega))).trans ?_) | (with_reducible refine (Below.heap_alloc _ _ _ (by first | omega | (simp; done) | (simp; omega))).trans ?_))
    · kernel_rfl
    exact ⟨x9, x2, 1 + x3, x4, x5, s7, by first | rfl | (simp; done) | (simp; rfl), by omega, (by repeat (first | with_reducible assumption | with_reducible refine Cur.alloc ?_ _ | with_reducible refine Cur.drew ?_ | with_reducible refine Cur.setOther ?_ (by first | omega | (simp; done) | (simp; omega)) (by first | omega | (simp; done) | (simp; omega)) _)), (by repeat (first | with_reducible assumption | with_reducible exact World.grownBy.refl _ _ | with_reducible refine only_alloc ?_ _ | with_reducible refine only_drew ?_ | with_reducible refine only_drewN ?_ _ | with_reducible refine only_setNew ?_ (by first | omega | (simp; done) | (simp; omega)) _ | (with_reducible refine only_trans ?_ (by with_reducible assumption))))⟩
  have h0_0 : (x8 == 0) = false := by simpa using h0_0
  by_cases h0_1 : x8 = 1
  · subst h0_1
    go_wp2_with fail
    refine (l1Pick_new (B := B) (0) (256) (by repeat (first | with_reducible assumption | with_reducible refine Cur.alloc ?_ _ | with_reducible refine Cur.drew ?_ | with_reducible refine Cur.setOther ?_ (by first | omega | (simp; done) | (simp; omega)) (by first | omega | (simp; done) | (simp; omega)) _)) (by rfl) (by omega) (by omega) (by kernel_rfl)).mono ?_
    rintro e w9 ⟨x9, rfl, ⟨hl9, hh9⟩, hc9, ho9⟩
    have hz9 := ho9.size
    (try simp at hz9)
    have hlt9 := hc9.lt
    have hg9 : w.grownBy w9 (some g) := (by repeat (first | with_reducible assumption | with_reducible exact World.grownBy.refl _ _ | with_reducible refine only_alloc ?_ _ | with_reducible refine only_drew ?_ | with_reducible refine only_drewN ?_ _ | with_reducible refine only_setNew ?_ (by first | omega | (simp; done) | (simp; omega)) _ | (with_reducible refine only_trans ?_ (by with_reducible assumption))))
    have Rr9 : Hid (w9.heap[w.heap.size]? = some (.cells #[.int .i64 0, .int .i64 0, .int .i64 0, .int .i64 0, .int .i64 0, .string ⟨#[]⟩] 58 (0, 0))) := Lib.hid ((grow ho9 (by first | omega | (simp; done) | (simp; omega)) (by omega)).trans (by repeat (first | (with_reducible apply heap_setCell_same) | (with_reducible apply drew_row) | (with_reducible apply drewN_row) | (with_reducible exact Rr8.out) | (with_reducible refine (heap_setCell_other _ _ _ _ (by first | omega | (simp; done) | (simp; omega))).trans ?_) | (with_reducible refine (Below.heap_alloc _ _ _ (by first | omega | (simp; done) | (simp; omega))).trans ?_))))
    have lr9 : w.heap.size < w9.heap.size := by omega
    have Rq9 : Hid (w9.heap[w7.heap.size]? = some (.cells #[.int .i64 (x1), .int .i64 (x2), .int .i64 (1 + x3), .int .i64 (x4), .int .i64 (x5), .string s7] 58 (0, 0))) := Lib.hid ((grow ho9 (by first | omega | (simp; done) | (simp; omega)) (by omega)).trans (by repeat (first | (with_reducible apply heap_setCell_same) | (with_reducible apply drew_row) | (with_reducible apply drewN_row) | (with_reducible exact Rq8.out) | (with_reducible refine (heap_setCell_other _ _ _ _ (by first | omega | (simp; done) | (simp; omega))).trans ?_) | (with_reducible refine (Below.heap_alloc _ _ _ (by first | omega | (simp; done) | (simp; omega))).trans ?_))))
    have lq9 : w7.heap.size < w9.heap.size := by omega
    clear ho9
    have hqr := Rq9.out
    have hrr := Rr9.out
    have r0_hqr := cell_of_row _ _ 0 _ _ _ hqr
    have r1_hqr := cell_of_row _ _ 1 _ _ _ hqr
    have r2_hqr := cell_of_row _ _ 2 _ _ _ hqr
    have r3_hqr := cell_of_row _ _ 3 _ _ _ hqr
    have r4_hqr := cell_of_row _ _ 4 _ _ _ hqr
    have r5_hqr := cell_of_row _ _ 5 _ _ _ hqr
    have f0_hqr := frozen_of_row _ _ 0 _ _ hqr
    have f1_hqr := frozen_of_row _ _ 1 _ _ hqr
    have f2_hqr := frozen_of_row _ _ 2 _ _ hqr
    have f3_hqr := frozen_of_row _ _ 3 _ _ hqr
    have f4_hqr := frozen_of_row _ _ 4 _ _ hqr
    have f5_hqr := frozen_of_row _ _ 5 _ _ hqr
    simp at r0_hqr r1_hqr r2_hqr r3_hqr r4_hqr r5_hqr
    have r0_hrr := cell_of_row _ _ 0 _ _ _ hrr
    have r1_hrr := cell_of_row _ _ 1 _ _ _ hrr
    have r2_hrr := cell_of_row _ _ 2 _ _ _ hrr
    have r3_hrr := cell_of_row _ _ 3 _ _ _ hrr
    have r4_hrr := cell_of_row _ _ 4 _ _ _ hrr
    have r5_hrr := cell_of_row _ _ 5 _ _ _ hrr
    have f0_hrr := frozen_of_row _ _ 0 _ _ hrr
    have f1_hrr := frozen_of_row _ _ 1 _ _ hrr
    have f2_hrr := frozen_of_row _ _ 2 _ _ hrr
    have f3_hrr := frozen_of_row _ _ 3 _ _ hrr
    have f4_hrr := frozen_of_row _ _ 4 _ _ hrr
    have f5_hrr := frozen_of_row _ _ 5 _ _ hrr
    simp at r0_hrr r1_hrr r2_hrr r3_hrr r4_hrr r5_hrr
    clear hqr hrr
    go_wp2_with fail
    apply bodyPost_ret (results_cell_row (P := Try.prog) (fn := Try.f107) rfl _ _ _ 58 _ (0, 0) _ rfl _ Try.underlying58 rfl _) rfl
    rotate_left 2
    · repeat (first | (with_reducible apply heap_setCell_same) | (with_reducible apply drew_row) | (with_reducible apply drewN_row) | (with_reducible exact Rr9.out) | (with_reducible refine (heap_setCell_other _ _ _ _ (by first | omega | (simp; done) | (simp; omega))).trans ?_) | (with_reducible refine (Below.heap_alloc _ _ _ (by first | omega | (simp; done) | (simp; omega))).trans ?_))
    · kernel_rfl
    exact ⟨x1, x2, x9, x4, x5, s7, by first | rfl | (simp; done) | (simp; rfl), by omega, (by repeat (first | with_reducible assumption | with_reducible refine Cur.alloc ?_ _ | with_reducible refine Cur.drew ?_ | with_reducible refine Cur.setOther ?_ (by first | omega | (simp; done) | (simp; omega)) (by first | omega | (simp; done) | (simp; omega)) _)), (by repeat (first | with_reducible assumption | with_reducible exact World.grownBy.refl _ _ | with_reducible refine only_alloc ?_ _ | with_reducible refine only_drew ?_ | with_reducible refine only_drewN ?_ _ | with_reducible refine only_setNew ?_ (by first | omega | (simp; done) | (simp; omega)) _ | (with_reducible refine only_trans ?_ (by with_reducible assumption))))⟩
  have h0_1 : (x8 == 1) = false := by simpa using h0_1
  by_cases h0_2 : x8 = 2
  · subst h0_2
    go_wp2_with fail
    refine (l1Below_any (B := B) (by repeat (first | with_reducible assumption | with_reducible refine Cur.alloc ?_ _ | with_reducible refine Cur.drew ?_ | with_reducible refine Cur.setOther ?_ (by first | omega | (simp; done) | (simp; omega)) (by first | omega | (simp; done) | (simp; omega)) _)) 3 (by omega) (by omega)).mono ?_
    rintro e w9 ⟨x9, rfl, ⟨hl9, hh9⟩, hc9, ho9⟩
    have hz9 := ho9.size
    (try simp at hz9)
    have hlt9 := hc9.lt
    have hg9 : w.grownBy w9 (some g) := (by repeat (first | with_reducible assumption | with_reducible exact World.grownBy.refl _ _ | with_reducible refine only_alloc ?_ _ | with_reducible refine only_drew ?_ | with_reducible refine only_drewN ?_ _ | with_reducible refine only_setNew ?_ (by first | omega | (simp; done) | (simp; omega)) _ | (with_reducible refine only_trans ?_ (by with_reducible assumption))))
    have Rr9 : Hid (w9.heap[w.heap.size]? = some (.cells #[.int .i64 0, .int .i64 0, .int .i64 0, .int .i64 0, .int .i64 0, .string ⟨#[]⟩] 58 (0, 0))) := Lib.hid ((grow ho9 (by first | omega | (simp; done) | (simp; omega)) (by omega)).trans (by repeat (first | (with_reducible apply heap_setCell_same) | (with_reducible apply drew_row) | (with_reducible apply drewN_row) | (with_reducible exact Rr8.out) | (with_reducible refine (heap_setCell_other _ _ _ _ (by first | omega | (simp; done) | (simp; omega))).trans ?_) | (with_reducible refine (Below.heap_alloc _ _ _ (by first | omega | (simp; done) | (simp; omega))).trans ?_))))
    have lr9 : w.heap.size < w9.heap.size := by omega
    have Rq9 : Hid (w9.heap[w7.heap.size]? = some (.cells #[.int .i64 (x1), .int .i64 (x2), .int .i64 (1 + x3), .int .i64 (x4), .int .i64 (x5), .string s7] 58 (0, 0))) := Lib.hid ((grow ho9 (by first | omega | (simp; done) | (simp; omega)) (by omega)).trans (by repeat (first | (with_reducible apply heap_setCell_same) | (with_reducible apply drew_row) | (with_reducible apply drewN_row) | (with_reducible exact Rq8.out) | (with_reducible refine (heap_setCell_other _ _ _ _ (by first | omega | (simp; done) | (simp; omega))).trans ?_) | (with_reducible refine (Below.heap_alloc _ _ _ (by first | omega | (simp; done) | (simp; omega))).trans ?_))))
    have lq9 : w7.heap.size < w9.heap.size := by omega
    clear ho9
    go_wp2_with fail
    refine (l5Long_any _ (by omega) (by omega) _).mono ?_
    rintro e w10 ⟨⟨s10, rfl, hs10⟩, hb10⟩
    have hss10 : s10.size ≤ 4096 := by omega
    clear hs10
    have ho10 := grown_below hb10 (some g)
    have hc10 : Cur w10 B g := cur_below (by repeat (first | with_reducible assumption | with_reducible refine Cur.alloc ?_ _ | with_reducible refine Cur.drew ?_ | with_reducible refine Cur.setOther ?_ (by first | omega | (simp; done) | (simp; omega)) (by first | omega | (simp; done) | (simp; omega)) _)) hb10
    clear hb10
    have hz10 := ho10.size
    (try simp at hz10)
    have hlt10 := hc10.lt
    have hg10 : w.grownBy w10 (some g) := (by repeat (first | with_reducible assumption | with_reducible exact World.grownBy.refl _ _ | with_reducible refine only_alloc ?_ _ | with_reducible refine only_drew ?_ | with_reducible refine only_drewN ?_ _ | with_reducible refine only_setNew ?_ (by first | omega | (simp; done) | (simp; omega)) _ | (with_reducible refine only_trans ?_ (by with_reducible assumption))))
    have Rr10 : Hid (w10.heap[w.heap.size]? = some (.cells #[.int .i64 0, .int .i64 0, .int .i64 0, .int .i64 0, .int .i64 0, .string ⟨#[]⟩] 58 (0, 0))) := Lib.hid ((grow ho10 (by first | omega | (simp; done) | (simp; omega)) (by omega)).trans (by repeat (first | (with_reducible apply heap_setCell_same) | (with_reducible apply drew_row) | (with_reducible apply drewN_row) | (with_reducible exact Rr9.out) | (with_reducible refine (heap_setCell_other _ _ _ _ (by first | omega | (simp; done) | (simp; omega))).trans ?_) | (with_reducible refine (Below.heap_alloc _ _ _ (by first | omega | (simp; done) | (simp; omega))).trans ?_))))
    have lr10 : w.heap.size < w10.heap.size := by omega
    have Rq10 : Hid (w10.heap[w7.heap.size]? = some (.cells #[.int .i64 (x1), .int .i64 (x2), .int .i64 (1 + x3), .int .i64 (x4), .int .i64 (x5), .string s7] 58 (0, 0))) := Lib.hid ((grow ho10 (by first | omega | (simp; done) | (simp; omega)) (by omega)).trans (by repeat (first | (with_reducible apply heap_setCell_same) | (with_reducible apply drew_row) | (with_reducible apply drewN_row) | (with_reducible exact Rq9.out) | (with_reducible refine (heap_setCell_other _ _ _ _ (by first | omega | (simp; done) | (simp; omega))).trans ?_) | (with_reducible refine (Below.heap_alloc _ _ _ (by first | omega | (simp; done) | (simp; omega))).trans ?_))))
    have lq10 : w7.heap.size < w10.heap.size := by omega
    clear ho10
    have hqr := Rq10.out
    have hrr := Rr10.out
    have r0_hqr := cell_of_row _ _ 0 _ _ _ hqr
    have r1_hqr := cell_of_row _ _ 1 _ _ _ hqr
    have r2_hqr := cell_of_row _ _ 2 _ _ _ hqr
    have r3_hqr := cell_of_row _ _ 3 _ _ _ hqr
    have r4_hqr := cell_of_row _ _ 4 _ _ _ hqr
    have r5_hqr := cell_of_row _ _ 5 _ _ _ hqr
    have f0_hqr := frozen_of_row _ _ 0 _ _ hqr
    have f1_hqr := frozen_of_row _ _ 1 _ _ hqr
    have f2_hqr := frozen_of_row _ _ 2 _ _ hqr
    have f3_hqr := frozen_of_row _ _ 3 _ _ hqr
    have f4_hqr := frozen_of_row _ _ 4 _ _ hqr
    have f5_hqr := frozen_of_row _ _ 5 _ _ hqr
    simp at r0_hqr r1_hqr r2_hqr r3_hqr r4_hqr r5_hqr
    have r0_hrr := cell_of_row _ _ 0 _ _ _ hrr
    have r1_hrr := cell_of_row _ _ 1 _ _ _ hrr
    have r2_hrr := cell_of_row _ _ 2 _ _ _ hrr
    have r3_hrr := cell_of_row _ _ 3 _ _ _ hrr
    have r4_hrr := cell_of_row _ _ 4 _ _ _ hrr
    have r5_hrr := cell_of_row _ _ 5 _ _ _ hrr
    have f0_hrr := frozen_of_row _ _ 0 _ _ hrr
    have f1_hrr := frozen_of_row _ _ 1 _ _ hrr
    have f2_hrr := frozen_of_row _ _ 2 _ _ hrr
    have f3_hrr := frozen_of_row _ _ 3 _ _ hrr
    have f4_hrr := frozen_of_row _ _ 4 _ _ hrr
    have f5_hrr := frozen_of_row _ _ 5 _ _ hrr
    simp at r0_hrr r1_hrr r2_hrr r3_hrr r4_hrr r5_hrr
    clear hqr hrr
    go_wp2_with fail
    apply bodyPost_ret (results_cell_row (P := Try.prog) (fn := Try.f107) rfl _ _ _ 58 _ (0, 0) _ rfl _ Try.underlying58 rfl _) rfl
    rotate_left 2
    · repeat (first | (with_reducible apply heap_setCell_same) | (with_reducible apply drew_row) | (with_reducible apply drewN_row) | (with_reducible exact Rr10.out) | (with_reducible refine (heap_setCell_other _ _ _ _ (by first | omega | (simp; done) | (simp; omega))).trans ?_) | (with_reducible refine (Below.heap_alloc _ _ _ (by first | omega | (simp; done) | (simp; omega))).trans ?_))
    · kernel_rfl
    exact ⟨x1, x2, 1 + x3, x4, x5, s10, by first | rfl | (simp; done) | (simp; rfl), by omega, (by repeat (first | with_reducible assumption | with_reducible refine Cur.alloc ?_ _ | with_reducible refine Cur.drew ?_ | with_reducible refine Cur.setOther ?_ (by first | omega | (simp; done) | (simp; omega)) (by first | omega | (simp; done) | (simp; omega)) _)), (by repeat (first | with_reducible assumption | with_reducible exact World.grownBy.refl _ _ | with_reducible refine only_alloc ?_ _ | with_reducible refine only_drew ?_ | with_reducible refine only_drewN ?_ _ | with_reducible refine only_setNew ?_ (by first | omega | (simp; done) | (simp; omega)) _ | (with_reducible refine only_trans ?_ (by with_reducible assumption))))⟩
  have h0_2 : (x8 == 2) = false := by simpa using h0_2
  by_cases h0_3 : x8 = 3
  · subst h0_3
    go_wp2_with fail
    refine (l2Word_any (B := B) (by repeat (first | with_reducible assumption | with_reducible refine Cur.alloc ?_ _ | with_reducible refine Cur.drew ?_ | with_reducible refine Cur.setOther ?_ (by first | omega | (simp; done) | (simp; omega)) (by first | omega | (simp; done) | (simp; omega)) _))).mono ?_
    rintro e w9 ⟨x9, rfl, hi9, hc9, ho9⟩
    have hz9 := ho9.size
    (try simp at hz9)
    have hlt9 := hc9.lt
    have hg9 : w.grownBy w9 (some g) := (by repeat (first | with_reducible assumption | with_reducible exact World.grownBy.refl _ _ | with_reducible refine only_alloc ?_ _ | with_reducible refine only_drew ?_ | with_reducible refine only_drewN ?_ _ | with_reducible refine only_setNew ?_ (by first | omega | (simp; done) | (simp; omega)) _ | (with_reducible refine only_trans ?_ (by with_reducible assumption))))
    have Rr9 : Hid (w9.heap[w.heap.size]? = some (.cells #[.int .i64 0, .int .i64 0, .int .i64 0, .int .i64 0, .int .i64 0, .string ⟨#[]⟩] 58 (0, 0))) := Lib.hid ((grow ho9 (by first | omega | (simp; done) | (simp; omega)) (by omega)).trans (by repeat (first | (with_reducible apply heap_setCell_same) | (with_reducible apply drew_row) | (with_reducible apply drewN_row) | (with_reducible exact Rr8.out) | (with_reducible refine (heap_setCell_other _ _ _ _ (by first | omega | (simp; done) | (simp; omega))).trans ?_) | (with_reducible refine (Below.heap_alloc _ _ _ (by first | omega | (simp; done) | (simp; omega))).trans ?_))))
    have lr9 : w.heap.size < w9.heap.size := by omega
    have Rq9 : Hid (w9.heap[w7.heap.size]? = some (.cells #[.int .i64 (x1), .int .i64 (x2), .int .i64 (1 + x3), .int .i64 (x4), .int .i64 (x5), .string s7] 58 (0, 0))) := Lib.hid ((grow ho9 (by first | omega | (simp; done) | (simp; omega)) (by omega)).trans (by repeat (first | (with_reducible apply heap_setCell_same) | (with_reducible apply drew_row) | (with_reducible apply drewN_row) | (with_reducible exact Rq8.out) | (with_reducible refine (heap_setCell_other _ _ _ _ (by first | omega | (simp; done) | (simp; omega))).trans ?_) | (with_reducible refine (Below.heap_alloc _ _ _ (by first | omega | (simp; done) | (simp; omega))).trans ?_))))
    have lq9 : w7.heap.size < w9.heap.size := by omega
    clear ho9
    have hqr := Rq9.out
    have hrr := Rr9.out
    have r0_hqr := cell_of_row _ _ 0 _ _ _ hqr
    have r1_hqr := cell_of_row _ _ 1 _ _ _ hqr
    have r2_hqr := cell_of_row _ _ 2 _ _ _ hqr
    have r3_hqr := cell_of_row _ _ 3 _ _ _ hqr
    have r4_hqr := cell_of_row _ _ 4 _ _ _ hqr
    have r5_hqr := cell_of_row _ _ 5 _ _ _ hqr
    have f0_hqr := frozen_of_row _ _ 0 _ _ hqr
    have f1_hqr := frozen_of_row _ _ 1 _ _ hqr
    have f2_hqr := frozen_of_row _ _ 2 _ _ hqr
    have f3_hqr := frozen_of_row _ _ 3 _ _ hqr
    have f4_hqr := frozen_of_row _ _ 4 _ _ hqr
    have f5_hqr := frozen_of_row _ _ 5 _ _ hqr
    simp at r0_hqr r1_hqr r2_hqr r3_hqr r4_hqr r5_hqr
    have r0_hrr := cell_of_row _ _ 0 _ _ _ hrr
    have r1_hrr := cell_of_row _ _ 1 _ _ _ hrr
    have r2_hrr := cell_of_row _ _ 2 _ _ _ hrr
    have r3_hrr := cell_of_row _ _ 3 _ _ _ hrr
    have r4_hrr := cell_of_row _ _ 4 _ _ _ hrr
    have r5_hrr := cell_of_row _ _ 5 _ _ _ hrr
    have f0_hrr := frozen_of_row _ _ 0 _ _ hrr
    have f1_hrr := frozen_of_row _ _ 1 _ _ hrr
    have f2_hrr := frozen_of_row _ _ 2 _ _ hrr
    have f3_hrr := frozen_of_row _ _ 3 _ _ hrr
    have f4_hrr := frozen_of_row _ _ 4 _ _ hrr
    have f5_hrr := frozen_of_row _ _ 5 _ _ hrr
    simp at r0_hrr r1_hrr r2_hrr r3_hrr r4_hrr r5_hrr
    clear hqr hrr
    go_wp2_with fail
    apply bodyPost_ret (results_cell_row (P := Try.prog) (fn := Try.f107) rfl _ _ _ 58 _ (0, 0) _ rfl _ Try.underlying58 rfl _) rfl
    rotate_left 2
    · repeat (first | (with_reducible apply heap_setCell_same) | (with_reducible apply drew_row) | (with_reducible apply drewN_row) | (with_reducible exact Rr9.out) | (with_reducible refine (heap_setCell_other _ _ _ _ (by first | omega | (simp; done) | (simp; omega))).trans ?_) | (with_reducible refine (Below.heap_alloc _ _ _ (by first | omega | (simp; done) | (simp; omega))).trans ?_))
    · kernel_rfl
    exact ⟨x1, x2, 1 + x3, x4, x9, s7, by first | rfl | (simp; done) | (simp; rfl), by omega, (by repeat (first | with_reducible assumption | with_reducible refine Cur.alloc ?_ _ | with_reducible refine Cur.drew ?_ | with_reducible refine Cur.setOther ?_ (by first | omega | (simp; done) | (simp; omega)) (by first | omega | (simp; done) | (simp; omega)) _)), (by repeat (first | with_reducible assumption | with_reducible exact World.grownBy.refl _ _ | with_reducible refine only_alloc ?_ _ | with_reducible refine only_drew ?_ | with_reducible refine only_drewN ?_ _ | with_reducible refine only_setNew ?_ (by first | omega | (simp; done) | (simp; omega)) _ | (with_reducible refine only_trans ?_ (by with_reducible assumption))))⟩
  have h0_3 : (x8 == 3) = false := by simpa using h0_3
  have hqr := Rq8.out
  have hrr := Rr8.out
  have r0_hqr := cell_of_row _ _ 0 _ _ _ hqr
  have r1_hqr := cell_of_row _ _ 1 _ _ _ hqr
  have r2_hqr := cell_of_row _ _ 2 _ _ _ hqr
  have r3_hqr := cell_of_row _ _ 3 _ _ _ hqr
  have r4_hqr := cell_of_row _ _ 4 _ _ _ hqr
  have r5_hqr := cell_of_row _ _ 5 _ _ _ hqr
  have f0_hqr := frozen_of_row _ _ 0 _ _ hqr
  have f1_hqr := frozen_of_row _ _ 1 _ _ hqr
  have f2_hqr := frozen_of_row _ _ 2 _ _ hqr
  have f3_hqr := frozen_of_row _ _ 3 _ _ hqr
  have f4_hqr := frozen_of_row _ _ 4 _ _ hqr
  have f5_hqr := frozen_of_row _ _ 5 _ _ hqr
  simp at r0_hqr r1_hqr r2_hqr r3_hqr r4_hqr r5_hqr
  have r0_hrr := cell_of_row _ _ 0 _ _ _ hrr
  have r1_hrr := cell_of_row _ _ 1 _ _ _ hrr
  have r2_hrr := cell_of_row _ _ 2 _ _ _ hrr
  have r3_hrr := cell_of_row _ _ 3 _ _ _ hrr
  have r4_hrr := cell_of_row _ _ 4 _ _ _ hrr
  have r5_hrr := cell_of_row _ _ 5 _ _ _ hrr
  have f0_hrr := frozen_of_row _ _ 0 _ _ hrr
  have f1_hrr := frozen_of_row _ _ 1 _ _ hrr
  have f2_hrr := frozen_of_row _ _ 2 _ _ hrr
  have f3_hrr := frozen_of_row _ _ 3 _ _ hrr
  have f4_hrr := frozen_of_row _ _ 4 _ _ hrr
  have f5_hrr := frozen_of_row _ _ 5 _ _ hrr
  simp at r0_hrr r1_hrr r2_hrr r3_hrr r4_hrr r5_hrr
  clear hqr hrr
  go_wp2_with fail
  apply bodyPost_ret (results_cell_row (P := Try.prog) (fn := Try.f107) rfl _ _ _ 58 _ (0, 0) _ rfl _ Try.underlying58 rfl _) rfl
  rotate_left 2
  · repeat (first | (with_reducible apply heap_setCell_same) | (with_reducible apply drew_row) | (with_reducible apply drewN_row) | (with_reducible exact Rr8.out) | (with_reducible refine (heap_setCell_other _ _ _ _ (by first | omega | (simp; done) | (simp; omega))).trans ?_) | (with_reducible refine (Below.heap_alloc _ _ _ (by first | omega | (simp; done) | (simp; omega))).trans ?_))
  · kernel_rfl
  exact ⟨x1, x2, 1 + x3, x4, x5, s7, by first | rfl | (simp; done) | (simp; rfl), by omega, (by repeat (first | with_reducible assumption | with_reducible refine Cur.alloc ?_ _ | with_reducible refine Cur.drew ?_ | with_reducible refine Cur.setOther ?_ (by first | omega | (simp; done) | (simp; omega)) (by first | omega | (simp; done) | (simp; omega)) _)), (by repeat (first | with_reducible assumption | with_reducible exact World.grownBy.refl _ _ | with_reducible refine only_alloc ?_ _ | with_reducible refine only_drew ?_ | with_reducible refine only_drewN ?_ _ | with_reducible refine only_setNew ?_ (by first | omega | (simp; done) | (simp; omega)) _ | (with_reducible refine only_trans ?_ (by with_reducible assumption))))⟩
end Go.Proofs.Yteaniiponikpjaa
