/-
  The draw of a frame for a link: l16Raw.
-/
import Derived.Test.YteaniiponikpjaaLtx
namespace Go.Proofs.Yteaniiponikpjaa
set_option maxRecDepth 100000
open Go.RowKit

theorem frameS_le (dst src ty : Int) (body : ByteArray) : (frameS dst src ty body).size ≤ 1600 := by
  unfold frameS
  split
  · rename_i h
    unfold frameB at h
    simp only [Bool.and_eq_true, decide_eq_true_eq] at h
    simp only [ByteArray.size_append, beS_size]
    omega
  · decide
theorem packS_le (src dst ttl proto id : Int) (body : ByteArray) : (packS src dst ttl proto id body).size ≤ 1500 := by
  unfold packS
  split
  · rename_i h
    unfold packB at h
    simp only [Bool.and_eq_true, decide_eq_true_eq] at h
    simp only [ByteArray.size_append, beS_size, packF_size, packE_size]
    omega
  · decide
theorem raw_end {w w6 w7 : World} {B g : Nat} (hc : Cur w6 B g) (hg : w.grownBy w6 (some g)) (hb : Below w6.heap.size w6 w7) : Cur w7 B g ∧ w.grownBy w7 (some g) := ⟨cur_below hc hb, only_trans hg (grown_below hb _)⟩
set_option maxHeartbeats 8000000 in
set_option linter.unusedVariables false in
theorem l16Raw_any {w : World} {B g : Nat} (hcur : Cur w B g) :
    Calls Try.prog 82 #[.pointer (some ⟨g, 0, none⟩)] w (DrewStr w B g 1600) := by
  have hlt := hcur.lt
  have hlow := hcur.low
  go_enter Try.func82, Try.ntmps82
  go_wp2_with fail
  refine (l1Pick_new (B := B) 0 281474976710655 (by repeat (first | with_reducible assumption | with_reducible refine Cur.alloc ?_ _ | with_reducible refine Cur.drew ?_ | with_reducible refine Cur.setOther ?_ (by first | omega | (simp; done) | (simp; omega)) (by first | omega | (simp; done) | (simp; omega)) _)) (by rfl) (by omega) (by omega) (by kernel_rfl)).mono ?_
  rintro e w1 ⟨x1, rfl, ⟨hl1, hh1⟩, hc1, ho1⟩
  have hg1 : w.grownBy w1 (some g) := (by repeat (first | with_reducible assumption | with_reducible exact World.grownBy.refl _ _ | with_reducible refine only_alloc ?_ _ | with_reducible refine only_drew ?_ | with_reducible refine only_drewN ?_ _ | with_reducible refine only_setNew ?_ (by first | omega | (simp; done) | (simp; omega)) _ | (with_reducible refine only_trans ?_ (by with_reducible assumption))))
  have hz1 := ho1.size
  (try simp at hz1)
  clear ho1
  go_wp2_with fail
  refine (l1Pick_new (B := B) 12 13 (by repeat (first | with_reducible assumption | with_reducible refine Cur.alloc ?_ _ | with_reducible refine Cur.drew ?_ | with_reducible refine Cur.setOther ?_ (by first | omega | (simp; done) | (simp; omega)) (by first | omega | (simp; done) | (simp; omega)) _)) (by rfl) (by omega) (by omega) (by kernel_rfl)).mono ?_
  rintro e w2 ⟨x2, rfl, ⟨hl2, hh2⟩, hc2, ho2⟩
  have hg2 : w.grownBy w2 (some g) := (by repeat (first | with_reducible assumption | with_reducible exact World.grownBy.refl _ _ | with_reducible refine only_alloc ?_ _ | with_reducible refine only_drew ?_ | with_reducible refine only_drewN ?_ _ | with_reducible refine only_setNew ?_ (by first | omega | (simp; done) | (simp; omega)) _ | (with_reducible refine only_trans ?_ (by with_reducible assumption))))
  have hz2 := ho2.size
  (try simp at hz2)
  clear ho2
  go_wp2_with fail
  refine (l1Below_any (B := B) (by repeat (first | with_reducible assumption | with_reducible refine Cur.alloc ?_ _ | with_reducible refine Cur.drew ?_ | with_reducible refine Cur.setOther ?_ (by first | omega | (simp; done) | (simp; omega)) (by first | omega | (simp; done) | (simp; omega)) _)) 4 (by omega) (by omega)).mono ?_
  rintro e w3 ⟨x3, rfl, ⟨hl3, hh3⟩, hc3, ho3⟩
  have hg3 : w.grownBy w3 (some g) := (by repeat (first | with_reducible assumption | with_reducible exact World.grownBy.refl _ _ | with_reducible refine only_alloc ?_ _ | with_reducible refine only_drew ?_ | with_reducible refine only_drewN ?_ _ | with_reducible refine only_setNew ?_ (by first | omega | (simp; done) | (simp; omega)) _ | (with_reducible refine only_trans ?_ (by with_reducible assumption))))
  have hz3 := ho3.size
  have hlt3 := hc3.lt
  clear ho3 hc1 hc2 hg1 hg2
  by_cases k0 : x3 = 0
  · subst k0
    go_wp2_with fail
    refine (l6Arp_any (B := B) hc3).mono ?_
    rintro e w4 ⟨k1, k2, k3, k4, k5, rfl, hc4, ho4⟩
    have hg4 : w.grownBy w4 (some g) := (by repeat (first | with_reducible assumption | with_reducible exact World.grownBy.refl _ _ | with_reducible refine only_alloc ?_ _ | with_reducible refine only_drew ?_ | with_reducible refine only_drewN ?_ _ | with_reducible refine only_setNew ?_ (by first | omega | (simp; done) | (simp; omega)) _ | (with_reducible refine only_trans ?_ (by with_reducible assumption))))
    have hz4 := ho4.size
    have hlt4 := hc4.lt
    clear ho4
    go_wp2_with fail
    refine (l1Once_any (B := B) (by repeat (first | with_reducible assumption | with_reducible refine Cur.alloc ?_ _ | with_reducible refine Cur.drew ?_ | with_reducible refine Cur.setOther ?_ (by first | omega | (simp; done) | (simp; omega)) (by first | omega | (simp; done) | (simp; omega)) _)) 2 (by omega) (by omega)).mono ?_
    rintro e w5 ⟨x5, rfl, hc5, ho5⟩
    have hg5 : w.grownBy w5 (some g) := (by repeat (first | with_reducible assumption | with_reducible exact World.grownBy.refl _ _ | with_reducible refine only_alloc ?_ _ | with_reducible refine only_drew ?_ | with_reducible refine only_drewN ?_ _ | with_reducible refine only_setNew ?_ (by first | omega | (simp; done) | (simp; omega)) _ | (with_reducible refine only_trans ?_ (by with_reducible assumption))))
    have hz5 := ho5.size
    (try simp at hz5)
    have hqr : w5.heap[w4.heap.size]? = some (.cells #[.int .i64 k1, .int .i64 k2, .int .i64 k3, .int .i64 k4, .int .i64 k5] 91 (0, 0)) := (grow ho5 (by simp) (by omega)).trans (heap_alloc_new _ _)
    have hlq : w4.heap.size < w5.heap.size := by omega
    have hng : ¬ w4.heap.size = g := by omega
    have hzw : w.heap.size ≤ w4.heap.size := by omega
    have r0_hqr := cell_of_row _ _ 0 _ _ _ hqr
    have r1_hqr := cell_of_row _ _ 1 _ _ _ hqr
    have r2_hqr := cell_of_row _ _ 2 _ _ _ hqr
    have r3_hqr := cell_of_row _ _ 3 _ _ _ hqr
    have r4_hqr := cell_of_row _ _ 4 _ _ _ hqr
    have f0_hqr := frozen_of_row _ _ 0 _ _ hqr
    have f1_hqr := frozen_of_row _ _ 1 _ _ hqr
    have f2_hqr := frozen_of_row _ _ 2 _ _ hqr
    have f3_hqr := frozen_of_row _ _ 3 _ _ hqr
    have f4_hqr := frozen_of_row _ _ 4 _ _ hqr
    simp at r0_hqr r1_hqr r2_hqr r3_hqr r4_hqr
    clear hqr ho5
    cases x5
    · go_wp2_with fail
      refine (sArpText_any _ _ _ _ _ _).mono ?_
      rintro e w6 ⟨rfl, hb6⟩
      obtain ⟨hc6, hg6⟩ := raw_end hc5 hg5 hb6
      generalize arpS k1 k2 k3 k4 k5 = A
      clear hb6
      go_wp2_with fail
      refine (sFrameText_any _ _ _ _ _).mono ?_
      rintro e w7 ⟨rfl, hb7⟩
      obtain ⟨hc7, hg7⟩ := raw_end hc6 hg6 hb7
      have hfl := frameS_le x1 x2 2054 A
      generalize frameS x1 x2 2054 A = F at hfl
      go_wp2_with fail
      go_ret
      exact ⟨F, rfl, hfl, hc7, hg7⟩
    · go_wp2_with fail
      refine (sArpText_any _ _ _ _ _ _).mono ?_
      rintro e w6 ⟨rfl, hb6⟩
      obtain ⟨hc6, hg6⟩ := raw_end (w := w) (B := B) (g := g) (by repeat (first | with_reducible assumption | with_reducible refine Cur.alloc ?_ _ | with_reducible refine Cur.drew ?_ | with_reducible refine Cur.setOther ?_ (by first | omega | (simp; done) | (simp; omega)) (by first | omega | (simp; done) | (simp; omega)) _)) (by repeat (first | with_reducible assumption | with_reducible exact World.grownBy.refl _ _ | with_reducible refine only_alloc ?_ _ | with_reducible refine only_drew ?_ | with_reducible refine only_drewN ?_ _ | with_reducible refine only_setNew ?_ (by first | omega | (simp; done) | (simp; omega)) _ | (with_reducible refine only_trans ?_ (by with_reducible assumption)))) hb6
      generalize arpS 1 x2 167772162 0 167772161 = A
      clear hb6
      go_wp2_with fail
      refine (sFrameText_any _ _ _ _ _).mono ?_
      rintro e w7 ⟨rfl, hb7⟩
      obtain ⟨hc7, hg7⟩ := raw_end hc6 hg6 hb7
      have hfl := frameS_le x1 x2 2054 A
      generalize frameS x1 x2 2054 A = F at hfl
      go_wp2_with fail
      go_ret
      exact ⟨F, rfl, hfl, hc7, hg7⟩
  have e0 : (x3 == 0) = false := by simpa using k0
  clear k0
  by_cases k1 : x3 = 1
  · subst k1
    go_wp2_with fail
    refine (l5Frame_any (B := B) hc3).mono ?_
    rintro e w4 ⟨k1, k2, k3, s4, rfl, hs4, hc4, ho4⟩
    have hg4 : w.grownBy w4 (some g) := (by repeat (first | with_reducible assumption | with_reducible exact World.grownBy.refl _ _ | with_reducible refine only_alloc ?_ _ | with_reducible refine only_drew ?_ | with_reducible refine only_drewN ?_ _ | with_reducible refine only_setNew ?_ (by first | omega | (simp; done) | (simp; omega)) _ | (with_reducible refine only_trans ?_ (by with_reducible assumption))))
    clear ho4
    go_wp2_with fail
    refine (sFrameText_any _ _ _ _ _).mono ?_
    rintro e w7 ⟨rfl, hb7⟩
    obtain ⟨hc7, hg7⟩ := raw_end hc4 hg4 hb7
    have hfl := frameS_le k1 k2 k3 s4
    generalize frameS k1 k2 k3 s4 = F at hfl
    go_wp2_with fail
    go_ret
    exact ⟨F, rfl, hfl, hc7, hg7⟩
  have e1 : (x3 == 1) = false := by simpa using k1
  clear k1
  go_wp2_with fail
  refine (l1Below_any (B := B) hc3 2 (by omega) (by omega)).mono ?_
  rintro e w4 ⟨x4, rfl, ⟨hl4, hh4⟩, hc4, ho4⟩
  have hg4 : w.grownBy w4 (some g) := (by repeat (first | with_reducible assumption | with_reducible exact World.grownBy.refl _ _ | with_reducible refine only_alloc ?_ _ | with_reducible refine only_drew ?_ | with_reducible refine only_drewN ?_ _ | with_reducible refine only_setNew ?_ (by first | omega | (simp; done) | (simp; omega)) _ | (with_reducible refine only_trans ?_ (by with_reducible assumption))))
  have hz4 := ho4.size
  clear ho4 hc3 hg3
  go_wp2_with fail
  refine (l1Below_any (B := B) hc4 4 (by omega) (by omega)).mono ?_
  rintro e w5 ⟨x5, rfl, ⟨hl5, hh5⟩, hc5, ho5⟩
  have hg5 : w.grownBy w5 (some g) := (by repeat (first | with_reducible assumption | with_reducible exact World.grownBy.refl _ _ | with_reducible refine only_alloc ?_ _ | with_reducible refine only_drew ?_ | with_reducible refine only_drewN ?_ _ | with_reducible refine only_setNew ?_ (by first | omega | (simp; done) | (simp; omega)) _ | (with_reducible refine only_trans ?_ (by with_reducible assumption))))
  have hz5 := ho5.size
  clear ho5 hc4 hg4
  go_wp2_with fail
  refine (l1Bytes_any (B := B) hc5 _ (by omega) (by omega)).mono ?_
  rintro e w6 ⟨v6, xs, rfl, hO6, hn6, hc6, ho6⟩
  have hg6 : w.grownBy w6 (some g) := (by repeat (first | with_reducible assumption | with_reducible exact World.grownBy.refl _ _ | with_reducible refine only_alloc ?_ _ | with_reducible refine only_drew ?_ | with_reducible refine only_drewN ?_ _ | with_reducible refine only_setNew ?_ (by first | omega | (simp; done) | (simp; omega)) _ | (with_reducible refine only_trans ?_ (by with_reducible assumption))))
  have hz6 := ho6.size
  have hlt6 := hc6.lt
  clear ho6 hc5 hg5
  have hcv := hO6.conv w6 (fun _ _ _ _ => rfl)
  have hss : (strOfNums xs).size ≤ 4096 := by rw [strOfNums_size]; omega
  obtain ⟨A6, c6, rfl⟩ := hO6.form
  generalize strOfNums xs = S at hcv hss
  clear hO6 hn6
  go_wp2_with fail
  refine (l1Once_any (B := B) (by repeat (first | with_reducible assumption | with_reducible refine Cur.alloc ?_ _ | with_reducible refine Cur.drew ?_ | with_reducible refine Cur.setOther ?_ (by first | omega | (simp; done) | (simp; omega)) (by first | omega | (simp; done) | (simp; omega)) _)) 4 (by omega) (by omega)).mono ?_
  rintro e w7 ⟨x7, rfl, hc7, ho7⟩
  have hg7 : w.grownBy w7 (some g) := (by repeat (first | with_reducible assumption | with_reducible exact World.grownBy.refl _ _ | with_reducible refine only_alloc ?_ _ | with_reducible refine only_drew ?_ | with_reducible refine only_drewN ?_ _ | with_reducible refine only_setNew ?_ (by first | omega | (simp; done) | (simp; omega)) _ | (with_reducible refine only_trans ?_ (by with_reducible assumption))))
  have hz7 := ho7.size
  (try simp at hz7)
  have HQR : Hid (w7.heap[w6.heap.size]? = some (.cells #[.int .i64 (167772162 + x4), .int .i64 167772161, .int .i64 9, .int .i64 6, .int .i64 0, .string S] 58 (0, 0))) := Lib.hid ((grow ho7 (by simp) (by omega)).trans (heap_alloc_new _ _))
  have hlq : w6.heap.size < w7.heap.size := by omega
  have hng : ¬ w6.heap.size = g := by omega
  have hzw : w.heap.size ≤ w6.heap.size := by omega
  have hBq : B ≤ w6.heap.size := by omega
  clear ho7 hcv hc6 hg6
  cases x7
  · have hqr := HQR.out
    have r0_hqr := cell_of_row _ _ 0 _ _ _ hqr
    have r1_hqr := cell_of_row _ _ 1 _ _ _ hqr
    have r2_hqr := cell_of_row _ _ 2 _ _ _ hqr
    have r3_hqr := cell_of_row _ _ 3 _ _ _ hqr
    have r4_hqr := cell_of_row _ _ 4 _ _ _ hqr
    have r5_hqr := cell_of_row _ _ 5 _ _ _ hqr
    have f0_hqr := frozen_of_row _ _ 0 _ _ hqr
    have f1_hqr := frozen_of_row _ _ 1 _ _ hqr
    have f2_hqr := frozen_of_row _ _ 2 _ _ hqr
    have f3_hqr := frozen_of_row _ _ 3 _ _ hqr
    have f4_hqr := frozen_of_row _ _ 4 _ _ hqr
    have f5_hqr := frozen_of_row _ _ 5 _ _ hqr
    simp at r0_hqr r1_hqr r2_hqr r3_hqr r4_hqr r5_hqr
    clear hqr
    go_wp2_with fail
    refine (sPacketText_any _ _ _ _ _ _ _).mono ?_
    rintro e w8 ⟨rfl, hb8⟩
    obtain ⟨hc8, hg8⟩ := raw_end hc7 hg7 hb8
    have hpl := packS_le (167772162 + x4) 167772161 9 6 0 S
    generalize packS (167772162 + x4) 167772161 9 6 0 S = P at hpl
    clear hb8
    go_wp2_with fail
    refine (l7Turned2_any P (by omega) hc8).mono ?_
    rintro e w9 ⟨T, rfl, hTz, hc9, ho9⟩
    have hg9 : w.grownBy w9 (some g) := (by repeat (first | with_reducible assumption | with_reducible exact World.grownBy.refl _ _ | with_reducible refine only_alloc ?_ _ | with_reducible refine only_drew ?_ | with_reducible refine only_drewN ?_ _ | with_reducible refine only_setNew ?_ (by first | omega | (simp; done) | (simp; omega)) _ | (with_reducible refine only_trans ?_ (by with_reducible assumption))))
    clear ho9
    go_wp2_with fail
    refine (sFrameText_any _ _ _ _ _).mono ?_
    rintro e w10 ⟨rfl, hb10⟩
    obtain ⟨hc10, hg10⟩ := raw_end hc9 hg9 hb10
    have hfl := frameS_le x1 x2 2048 T
    generalize frameS x1 x2 2048 T = F at hfl
    go_wp2_with fail
    go_ret
    exact ⟨F, rfl, hfl, hc10, hg10⟩
  · go_wp2_with fail
    refine (l7Packet_any (B := B) hc7).mono ?_
    rintro e w8 ⟨k1, k2, k3, k4, k5, s8, rfl, hs8, hc8, ho8⟩
    have hg8 : w.grownBy w8 (some g) := (by repeat (first | with_reducible assumption | with_reducible exact World.grownBy.refl _ _ | with_reducible refine only_alloc ?_ _ | with_reducible refine only_drew ?_ | with_reducible refine only_drewN ?_ _ | with_reducible refine only_setNew ?_ (by first | omega | (simp; done) | (simp; omega)) _ | (with_reducible refine only_trans ?_ (by with_reducible assumption))))
    have hz8 := ho8.size
    have hqr : w8.heap[w6.heap.size]? = some (.cells #[.int .i64 (167772162 + x4), .int .i64 167772161, .int .i64 9, .int .i64 6, .int .i64 0, .string S] 58 (0, 0)) := (grow ho8 hlq hng).trans HQR.out
    have hlq8 : w6.heap.size < w8.heap.size := by omega
    have r0_hqr := cell_of_row _ _ 0 _ _ _ hqr
    have r1_hqr := cell_of_row _ _ 1 _ _ _ hqr
    have r2_hqr := cell_of_row _ _ 2 _ _ _ hqr
    have r3_hqr := cell_of_row _ _ 3 _ _ _ hqr
    have r4_hqr := cell_of_row _ _ 4 _ _ _ hqr
    have r5_hqr := cell_of_row _ _ 5 _ _ _ hqr
    have f0_hqr := frozen_of_row _ _ 0 _ _ hqr
    have f1_hqr := frozen_of_row _ _ 1 _ _ hqr
    have f2_hqr := frozen_of_row _ _ 2 _ _ hqr
    have f3_hqr := frozen_of_row _ _ 3 _ _ hqr
    have f4_hqr := frozen_of_row _ _ 4 _ _ hqr
    have f5_hqr := frozen_of_row _ _ 5 _ _ hqr
    simp at r0_hqr r1_hqr r2_hqr r3_hqr r4_hqr r5_hqr
    clear hqr ho8
    go_wp2_with fail
    refine (sPacketText_any _ _ _ _ _ _ _).mono ?_
    rintro e w9 ⟨rfl, hb9⟩
    obtain ⟨hc9, hg9⟩ := raw_end (w := w) (B := B) (g := g) (by repeat (first | with_reducible assumption | with_reducible refine Cur.alloc ?_ _ | with_reducible refine Cur.drew ?_ | with_reducible refine Cur.setOther ?_ (by first | omega | (simp; done) | (simp; omega)) (by first | omega | (simp; done) | (simp; omega)) _)) (by repeat (first | with_reducible assumption | with_reducible exact World.grownBy.refl _ _ | with_reducible refine only_alloc ?_ _ | with_reducible refine only_drew ?_ | with_reducible refine only_drewN ?_ _ | with_reducible refine only_setNew ?_ (by first | omega | (simp; done) | (simp; omega)) _ | (with_reducible refine only_trans ?_ (by with_reducible assumption)))) hb9
    have hpl := packS_le k1 k2 k3 k4 k5 s8
    generalize packS k1 k2 k3 k4 k5 s8 = P at hpl
    clear hb9
    go_wp2_with fail
    refine (l7Turned2_any P (by omega) hc9).mono ?_
    rintro e w10 ⟨T, rfl, hTz, hc10, ho10⟩
    have hg10 : w.grownBy w10 (some g) := (by repeat (first | with_reducible assumption | with_reducible exact World.grownBy.refl _ _ | with_reducible refine only_alloc ?_ _ | with_reducible refine only_drew ?_ | with_reducible refine only_drewN ?_ _ | with_reducible refine only_setNew ?_ (by first | omega | (simp; done) | (simp; omega)) _ | (with_reducible refine only_trans ?_ (by with_reducible assumption))))
    clear ho10
    go_wp2_with fail
    refine (sFrameText_any _ _ _ _ _).mono ?_
    rintro e w11 ⟨rfl, hb11⟩
    obtain ⟨hc11, hg11⟩ := raw_end hc10 hg10 hb11
    have hfl := frameS_le x1 x2 2048 T
    generalize frameS x1 x2 2048 T = F at hfl
    go_wp2_with fail
    go_ret
    exact ⟨F, rfl, hfl, hc11, hg11⟩
end Go.Proofs.Yteaniiponikpjaa
