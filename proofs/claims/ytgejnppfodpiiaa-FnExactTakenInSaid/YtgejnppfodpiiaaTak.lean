/-
  Contracts of TakenIn, the program's and the reference's.
-/
import Derived.Test.YtgejnppfodpiiaaRok
import Derived.Deep.RegionWith
namespace Go.Proofs.Ytgejnppfodpiiaa
set_option maxRecDepth 100000
open Go.RowKit
theorem OwnE.blk {α : Type} {enc : α → List Value} {e : TypeId} {m : Nat} {w : World} {base : Nat} {v : Value} {l : List α} (h : OwnE enc e m w base v l) (g : Nat) (h0 : l ≠ []) (hv : v.ownBlock = some g) : base ≤ g ∧ g < w.heap.size := by
  obtain ⟨g', c, rfl, h1, h2⟩ := h.at h0
  simp only [Value.ownBlock, Option.some.injEq] at hv
  omega
theorem OwnE.setOther {α : Type} {enc : α → List Value} {e : TypeId} {m : Nat} {w : World} {base : Nat} {v : Value} {l : List α} (h : OwnE enc e m w base v l) {a : Addr} (hne : l ≠ [] → v.ownBlock ≠ some a.block) (u : Value) : OwnE enc e m (w.setCell a u) base v l := by
  by_cases h0 : l = []
  · exact h.nil h0 _ _
  · rcases h with h | ⟨h, _⟩
    · refine .inl (h.kept (row := some a.block) ⟨rfl, rfl, rfl, by simp [World.setCell], fun k _ hk => heap_setCell_other _ a _ _ (by simpa using hk)⟩ (.inr (hne h0)))
    · exact absurd h h0
/-- How many letters are taken. -/
def takeN (d : ByteArray) (n : Int) : Nat := if n ≤ 0 then 0 else if (d.size : Int) ≤ n then d.size else n.toNat
/-- What is left, and what is taken. -/
def RRcv.take (x : RRcv) (n : Int) : RRcv × ByteArray := if x.ok then (⟨x.nx, x.d.extract (takeN x.d n) x.d.size, x.hs, x.fin, x.dn⟩, x.d.extract 0 (takeN x.d n)) else (x, ⟨#[]⟩)
/-- A receiver made anew, and a text. -/
def NewTaken (r : RRcv × ByteArray) (W : World) (e : Ending) (w' : World) : Prop :=
  ∃ v, e = .returned (.tuple #[vR r.1 v, .string r.2]) ∧ OwnPiece w' W.heap.size v r.1.hs ∧ Below W.heap.size W w'
theorem l1MinV (a b r : Int) (h : (if a < b then a else b) = r) (w : World) : Calls Try.prog 37 #[.int .i64 a, .int .i64 b] w fun e w' => e = .returned (.int .i64 r) ∧ w = w' := by
  subst h
  exact l1Min_any a b w
theorem l1MaxV (a b r : Int) (h : (if b < a then a else b) = r) (w : World) : Calls Try.prog 29 #[.int .i64 a, .int .i64 b] w fun e w' => e = .returned (.int .i64 r) ∧ w = w' := by
  subst h
  exact l1Max_any a b w
theorem ok_size {x : RRcv} (h : x.ok = true) : (x.d.size : Int) ≤ 32 := by
  simp only [RRcv.ok, Bool.and_eq_true, decide_eq_true_eq] at h
  exact h.2.1

set_option maxHeartbeats 4000000 in
theorem TakenIn_any (x : RRcv) (v : Value) (n : Int) (hf : x.fits) (hn : x.hs.length ≤ 1048600) (hn1 : -9223372036854775808 ≤ n) (hn2 : n ≤ 9223372036854775807) (w : World) (h : RdPiece w v x.hs) :
    Calls Try.prog 22 #[vR x v, .int .i64 n] w (NewTaken (x.take n) w) := by
  obtain ⟨A, c, rfl, -⟩ := id h
  have H := Lib.hid h
  have FT := Lib.hid hf
  have HN := Lib.hid hn
  clear h hf hn
  obtain ⟨B, hB⟩ : ∃ B, x.ok = B := ⟨_, rfl⟩
  obtain ⟨R, hR⟩ : ∃ R, x.take n = R := ⟨_, rfl⟩
  rw [hR]
  have hok := fun W v h => ReceiverOk_any x v FT.out W h
  rw [hB] at hok
  have HOK := Lib.hid hok
  have HB := Lib.hid hB
  have HR := Lib.hid hR
  clear hok hR hB
  go_enter Try.func22, Try.ntmps22
  go_wp2_with fail
  refine (cloneReceiver_any x _ HN.out _ (H.out.below (by repeat (first | with_reducible exact Below.refl _ _ | with_reducible assumption | with_reducible refine Below.drew ?_ | with_reducible refine Below.alloc ?_ (by first | exact Nat.le_refl _ | omega | (simp; done) | (simp; omega)) _ | with_reducible refine Below.setCell ?_ (by first | exact Nat.le_refl _ | omega | (simp; done) | (simp; omega)) _ | (with_reducible refine ext_trans ?_ (by with_reducible assumption)))))).mono ?_
  rintro e w1 ⟨v1, rfl, hO1, hb1⟩
  obtain ⟨D, dc, rfl⟩ := hO1.form
  have Oo_1 := Lib.hid (OwnE.mono (base' := w.heap.size + 2) hO1 (by first | exact Nat.le_refl _ | (simp; done)))
  have Bo := Oo_1
  have hz1 := hb1.size
  (try simp at hz1)
  have ra_1 : w1.heap[w.heap.size]? = some (.cells #[.int .i64 x.nx, .string x.d, .slice A x.hs.length c, .int .i64 x.fin, .bool x.dn] 24 (0, 0)) := (hb1.block _ (by first | (simp; done) | (simp; omega))).trans (by repeat (first | exact heap_new _ _ _ (by first | rfl | (simp; done) | (simp; omega)) | refine (Below.heap_alloc _ _ _ (by first | omega | (simp; done) | (simp; omega))).trans ?_))
  have rr_1 : w1.heap[w.heap.size + 1]? = some (.cells #[.int .i64 0, .string ⟨#[]⟩, .slice none 0 0, .int .i64 0, .bool false] 24 (0, 0)) := (hb1.block _ (by first | (simp; done) | (simp; omega))).trans (by repeat (first | exact heap_new _ _ _ (by first | rfl | (simp; done) | (simp; omega)) | refine (Below.heap_alloc _ _ _ (by first | omega | (simp; done) | (simp; omega))).trans ?_))
  have hw1 : Below w.heap.size w w1 := (by repeat (first | with_reducible exact Below.refl _ _ | with_reducible assumption | with_reducible refine Below.drew ?_ | with_reducible refine Below.alloc ?_ (by first | exact Nat.le_refl _ | omega | (simp; done) | (simp; omega)) _ | with_reducible refine Below.setCell ?_ (by first | exact Nat.le_refl _ | omega | (simp; done) | (simp; omega)) _ | (with_reducible refine ext_trans ?_ (by with_reducible assumption))))
  have lRa_1 : w.heap.size < w1.heap.size := by omega
  have lRr_1 : w.heap.size + 1 < w1.heap.size := by omega
  have Ra_1 := Lib.hid ra_1
  have r0_ra_1 := cell_of_row _ _ 0 _ _ _ ra_1
  have r1_ra_1 := cell_of_row _ _ 1 _ _ _ ra_1
  have r2_ra_1 := cell_of_row _ _ 2 _ _ _ ra_1
  have r3_ra_1 := cell_of_row _ _ 3 _ _ _ ra_1
  have r4_ra_1 := cell_of_row _ _ 4 _ _ _ ra_1
  have f0_ra_1 := frozen_of_row _ _ 0 _ _ ra_1
  have f1_ra_1 := frozen_of_row _ _ 1 _ _ ra_1
  have f2_ra_1 := frozen_of_row _ _ 2 _ _ ra_1
  have f3_ra_1 := frozen_of_row _ _ 3 _ _ ra_1
  have f4_ra_1 := frozen_of_row _ _ 4 _ _ ra_1
  simp at r0_ra_1 r1_ra_1 r2_ra_1 r3_ra_1 r4_ra_1
  clear ra_1
  have Rr_1 := Lib.hid rr_1
  have r0_rr_1 := cell_of_row _ _ 0 _ _ _ rr_1
  have r1_rr_1 := cell_of_row _ _ 1 _ _ _ rr_1
  have r2_rr_1 := cell_of_row _ _ 2 _ _ _ rr_1
  have r3_rr_1 := cell_of_row _ _ 3 _ _ _ rr_1
  have r4_rr_1 := cell_of_row _ _ 4 _ _ _ rr_1
  have f0_rr_1 := frozen_of_row _ _ 0 _ _ rr_1
  have f1_rr_1 := frozen_of_row _ _ 1 _ _ rr_1
  have f2_rr_1 := frozen_of_row _ _ 2 _ _ rr_1
  have f3_rr_1 := frozen_of_row _ _ 3 _ _ rr_1
  have f4_rr_1 := frozen_of_row _ _ 4 _ _ rr_1
  simp at r0_rr_1 r1_rr_1 r2_rr_1 r3_rr_1 r4_rr_1
  clear rr_1
  go_wp2_with fail
  refine (HOK.out _ _ (H.out.below (by repeat (first | with_reducible exact Below.refl _ _ | with_reducible assumption | with_reducible refine Below.drew ?_ | with_reducible refine Below.alloc ?_ (by first | exact Nat.le_refl _ | omega | (simp; done) | (simp; omega)) _ | with_reducible refine Below.setCell ?_ (by first | exact Nat.le_refl _ | omega | (simp; done) | (simp; omega)) _ | (with_reducible refine ext_trans ?_ (by with_reducible assumption)))))).mono ?_
  rintro e w2 ⟨rfl, hb2⟩
  have hz2 := hb2.size
  (try simp at hz2)
  have ra_2 := (hb2.block _ (by first | omega | (simp; done) | (simp; omega))).trans ((Below.heap_alloc _ _ _ (by first | exact lRa_1 | (simp; omega))).trans Ra_1.out)
  have rr_2 := (hb2.block _ (by first | omega | (simp; done) | (simp; omega))).trans ((Below.heap_alloc _ _ _ (by first | exact lRr_1 | (simp; omega))).trans Rr_1.out)
  have ro_2 : w2.heap[w1.heap.size]? = some (.cells #[.int .i64 x.nx, .string x.d, .slice D x.hs.length dc, .int .i64 x.fin, .bool x.dn] 24 (0, 0)) := (hb2.block _ (by first | (simp; done) | (simp; omega))).trans (by repeat (first | exact heap_new _ _ _ (by first | rfl | (simp; done) | (simp; omega)) | refine (Below.heap_alloc _ _ _ (by first | omega | (simp; done) | (simp; omega))).trans ?_))
  have Oo_2 := Lib.hid (Oo_1.out.below (w' := w2) (by repeat (first | with_reducible exact Below.refl _ _ | with_reducible assumption | with_reducible refine Below.drew ?_ | with_reducible refine Below.alloc ?_ (by first | exact Nat.le_refl _ | omega | (simp; done) | (simp; omega)) _ | with_reducible refine Below.setCell ?_ (by first | exact Nat.le_refl _ | omega | (simp; done) | (simp; omega)) _ | (with_reducible refine ext_trans ?_ (by with_reducible assumption)))))
  have hw2 : Below w.heap.size w w2 := (by repeat (first | with_reducible exact Below.refl _ _ | with_reducible assumption | with_reducible refine Below.drew ?_ | with_reducible refine Below.alloc ?_ (by first | exact Nat.le_refl _ | omega | (simp; done) | (simp; omega)) _ | with_reducible refine Below.setCell ?_ (by first | exact Nat.le_refl _ | omega | (simp; done) | (simp; omega)) _ | (with_reducible refine ext_trans ?_ (by with_reducible assumption))))
  have lRa_2 : w.heap.size < w2.heap.size := by omega
  have lRr_2 : w.heap.size + 1 < w2.heap.size := by omega
  have lRo_2 : w1.heap.size < w2.heap.size := by omega
  have Ra_2 := Lib.hid ra_2
  have r0_ra_2 := cell_of_row _ _ 0 _ _ _ ra_2
  have r1_ra_2 := cell_of_row _ _ 1 _ _ _ ra_2
  have r2_ra_2 := cell_of_row _ _ 2 _ _ _ ra_2
  have r3_ra_2 := cell_of_row _ _ 3 _ _ _ ra_2
  have r4_ra_2 := cell_of_row _ _ 4 _ _ _ ra_2
  have f0_ra_2 := frozen_of_row _ _ 0 _ _ ra_2
  have f1_ra_2 := frozen_of_row _ _ 1 _ _ ra_2
  have f2_ra_2 := frozen_of_row _ _ 2 _ _ ra_2
  have f3_ra_2 := frozen_of_row _ _ 3 _ _ ra_2
  have f4_ra_2 := frozen_of_row _ _ 4 _ _ ra_2
  simp at r0_ra_2 r1_ra_2 r2_ra_2 r3_ra_2 r4_ra_2
  clear ra_2
  have Rr_2 := Lib.hid rr_2
  have r0_rr_2 := cell_of_row _ _ 0 _ _ _ rr_2
  have r1_rr_2 := cell_of_row _ _ 1 _ _ _ rr_2
  have r2_rr_2 := cell_of_row _ _ 2 _ _ _ rr_2
  have r3_rr_2 := cell_of_row _ _ 3 _ _ _ rr_2
  have r4_rr_2 := cell_of_row _ _ 4 _ _ _ rr_2
  have f0_rr_2 := frozen_of_row _ _ 0 _ _ rr_2
  have f1_rr_2 := frozen_of_row _ _ 1 _ _ rr_2
  have f2_rr_2 := frozen_of_row _ _ 2 _ _ rr_2
  have f3_rr_2 := frozen_of_row _ _ 3 _ _ rr_2
  have f4_rr_2 := frozen_of_row _ _ 4 _ _ rr_2
  simp at r0_rr_2 r1_rr_2 r2_rr_2 r3_rr_2 r4_rr_2
  clear rr_2
  have Ro_2 := Lib.hid ro_2
  have r0_ro_2 := cell_of_row _ _ 0 _ _ _ ro_2
  have r1_ro_2 := cell_of_row _ _ 1 _ _ _ ro_2
  have r2_ro_2 := cell_of_row _ _ 2 _ _ _ ro_2
  have r3_ro_2 := cell_of_row _ _ 3 _ _ _ ro_2
  have r4_ro_2 := cell_of_row _ _ 4 _ _ _ ro_2
  have f0_ro_2 := frozen_of_row _ _ 0 _ _ ro_2
  have f1_ro_2 := frozen_of_row _ _ 1 _ _ ro_2
  have f2_ro_2 := frozen_of_row _ _ 2 _ _ ro_2
  have f3_ro_2 := frozen_of_row _ _ 3 _ _ ro_2
  have f4_ro_2 := frozen_of_row _ _ 4 _ _ ro_2
  simp at r0_ro_2 r1_ro_2 r2_ro_2 r3_ro_2 r4_ro_2
  clear ro_2
  clear r0_ra_1 f0_ra_1 r1_ra_1 f1_ra_1 r2_ra_1 f2_ra_1 r3_ra_1 f3_ra_1 r4_ra_1 f4_ra_1
  clear r0_rr_1 f0_rr_1 r1_rr_1 f1_rr_1 r2_rr_1 f2_rr_1 r3_rr_1 f3_rr_1 r4_rr_1 f4_rr_1
  cases B
  case false =>
    obtain rfl : R = (x, ⟨#[]⟩) := by rw [← HR.out]; unfold RRcv.take; rw [HB.out]; rfl
    go_wp2_with fail
    apply bodyPost_ret (results_row_tmp1 (P := Try.prog) (fn := Try.f22) rfl _ _ _ 24 _ (0, 0) _ rfl _ Try.underlying24 rfl _) rfl
    rotate_left 2
    · repeat (first | (with_reducible apply heap_setCell_same) | (with_reducible apply drew_row) | (with_reducible apply drewN_row) | (with_reducible exact Rr_2.out) | (with_reducible refine (heap_setCell_other _ _ _ _ (by first | omega | (simp; done) | (simp; omega))).trans ?_) | (with_reducible refine (Below.heap_alloc _ _ _ (by first | omega | (simp; done) | (simp; omega))).trans ?_))
    · kernel_rfl
    exact ⟨_, by simp; rfl, OwnE.mono (base := w.heap.size + 2) (by repeat (first | with_reducible exact Oo_2.out | (with_reducible refine OwnE.setBelow ?_ (by first | (simp; done) | (simp; omega)) _) | with_reducible refine OwnE.alloc ?_ _ | with_reducible refine OwnE.drew ?_)) (by omega), (by repeat (first | with_reducible exact Below.refl _ _ | with_reducible assumption | with_reducible refine Below.drew ?_ | with_reducible refine Below.alloc ?_ (by first | exact Nat.le_refl _ | omega | (simp; done) | (simp; omega)) _ | with_reducible refine Below.setCell ?_ (by first | exact Nat.le_refl _ | omega | (simp; done) | (simp; omega)) _ | (with_reducible refine ext_trans ?_ (by with_reducible assumption))))⟩
  have h32 := ok_size HB.out
  obtain ⟨m, hm⟩ : ∃ m, takeN x.d n = m := ⟨_, rfl⟩
  obtain rfl : R = (⟨x.nx, x.d.extract m x.d.size, x.hs, x.fin, x.dn⟩, x.d.extract 0 m) := by rw [← HR.out, ← hm]; unfold RRcv.take; rw [HB.out]; rfl
  by_cases hn0 : n ≤ 0
  · obtain rfl : m = 0 := by rw [← hm]; simp [takeN, hn0]
    rw [show x.d.extract 0 x.d.size = x.d from by simp, show x.d.extract 0 0 = ByteArray.empty from by simp]
    clear hm
    go_wp2_with fail
    have hbs : Below w.heap.size w (w2.setCell ⟨w1.heap.size, 1, none⟩ (.string x.d)) := (by repeat (first | with_reducible exact Below.refl _ _ | with_reducible assumption | with_reducible refine Below.drew ?_ | with_reducible refine Below.alloc ?_ (by first | exact Nat.le_refl _ | omega | (simp; done) | (simp; omega)) _ | with_reducible refine Below.setCell ?_ (by first | exact Nat.le_refl _ | omega | (simp; done) | (simp; omega)) _ | (with_reducible refine ext_trans ?_ (by with_reducible assumption))))
    have ra : (w2.setCell ⟨w1.heap.size, 1, none⟩ (.string x.d)).heap[w.heap.size]? = some (.cells #[.int .i64 x.nx, .string x.d, .slice A x.hs.length c, .int .i64 x.fin, .bool x.dn] 24 (0, 0)) := (heap_setCell_other _ _ _ _ (by simp; omega)).trans Ra_2.out
    have rr : (w2.setCell ⟨w1.heap.size, 1, none⟩ (.string x.d)).heap[w.heap.size + 1]? = some (.cells #[.int .i64 0, .string ⟨#[]⟩, .slice none 0 0, .int .i64 0, .bool false] 24 (0, 0)) := (heap_setCell_other _ _ _ _ (by simp; omega)).trans Rr_2.out
    have ro : (w2.setCell ⟨w1.heap.size, 1, none⟩ (.string x.d)).heap[w1.heap.size]? = some (.cells #[.int .i64 x.nx, .string x.d, .slice D x.hs.length dc, .int .i64 x.fin, .bool x.dn] 24 (0, 0)) := (heap_setCell_same _ _ 1 _ _ _ Ro_2.out).trans (by simp)
    have oo : OwnPiece (w2.setCell ⟨w1.heap.size, 1, none⟩ (.string x.d)) (w.heap.size + 2) (.slice D x.hs.length dc) x.hs := OwnE.setOther Oo_2.out (fun h e => by obtain ⟨p, r⟩ := Bo.out.blk _ h e; first | omega | (simp at r; done) | (simp at r; omega) | (simp at p r; omega)) _
    have hz3 : w2.heap.size = (w2.setCell ⟨w1.heap.size, 1, none⟩ (.string x.d)).heap.size := by simp
    clear r0_ra_2 f0_ra_2 r1_ra_2 f1_ra_2 r2_ra_2 f2_ra_2 r3_ra_2 f3_ra_2 r4_ra_2 f4_ra_2 r0_rr_2 f0_rr_2 r1_rr_2 f1_rr_2 r2_rr_2 f2_rr_2 r3_rr_2 f3_rr_2 r4_rr_2 f4_rr_2 r0_ro_2 f0_ro_2 r1_ro_2 f1_ro_2 r2_ro_2 f2_ro_2 r3_ro_2 f3_ro_2 r4_ro_2 f4_ro_2
    generalize (w2.setCell ⟨w1.heap.size, 1, none⟩ (.string x.d)) = w9 at *
    have r0_ra := cell_of_row _ _ 0 _ _ _ ra
    have r1_ra := cell_of_row _ _ 1 _ _ _ ra
    have r2_ra := cell_of_row _ _ 2 _ _ _ ra
    have r3_ra := cell_of_row _ _ 3 _ _ _ ra
    have r4_ra := cell_of_row _ _ 4 _ _ _ ra
    have f0_ra := frozen_of_row _ _ 0 _ _ ra
    have f1_ra := frozen_of_row _ _ 1 _ _ ra
    have f2_ra := frozen_of_row _ _ 2 _ _ ra
    have f3_ra := frozen_of_row _ _ 3 _ _ ra
    have f4_ra := frozen_of_row _ _ 4 _ _ ra
    simp at r0_ra r1_ra r2_ra r3_ra r4_ra
    have r0_rr := cell_of_row _ _ 0 _ _ _ rr
    have r1_rr := cell_of_row _ _ 1 _ _ _ rr
    have r2_rr := cell_of_row _ _ 2 _ _ _ rr
    have r3_rr := cell_of_row _ _ 3 _ _ _ rr
    have r4_rr := cell_of_row _ _ 4 _ _ _ rr
    have f0_rr := frozen_of_row _ _ 0 _ _ rr
    have f1_rr := frozen_of_row _ _ 1 _ _ rr
    have f2_rr := frozen_of_row _ _ 2 _ _ rr
    have f3_rr := frozen_of_row _ _ 3 _ _ rr
    have f4_rr := frozen_of_row _ _ 4 _ _ rr
    simp at r0_rr r1_rr r2_rr r3_rr r4_rr
    have r0_ro := cell_of_row _ _ 0 _ _ _ ro
    have r1_ro := cell_of_row _ _ 1 _ _ _ ro
    have r2_ro := cell_of_row _ _ 2 _ _ _ ro
    have r3_ro := cell_of_row _ _ 3 _ _ _ ro
    have r4_ro := cell_of_row _ _ 4 _ _ _ ro
    have f0_ro := frozen_of_row _ _ 0 _ _ ro
    have f1_ro := frozen_of_row _ _ 1 _ _ ro
    have f2_ro := frozen_of_row _ _ 2 _ _ ro
    have f3_ro := frozen_of_row _ _ 3 _ _ ro
    have f4_ro := frozen_of_row _ _ 4 _ _ ro
    simp at r0_ro r1_ro r2_ro r3_ro r4_ro
    have RA := Lib.hid ra
    have RR := Lib.hid rr
    have OO := Lib.hid oo
    clear ra rr ro oo
    have hbd : Below w.heap.size w w9.drew := hbs.drew
    have RR2 : Hid (w9.drew.heap[w.heap.size + 1]? = _) := RR
    have OO2 := Lib.hid OO.out.drew
    have hz4 : w9.heap.size = w9.drew.heap.size := rfl
    have hm0 : (0 : Int) ≤ (0 : Int) := by omega
    have hm1 : (0 : Int) ≤ (x.d.size : Int) := by omega
    have hm2 : 0 ≤ x.d.size := by omega
    go_region_with (fail)
    all_goals
      go_wp2_with fail
      apply bodyPost_ret (results_row_tmp1 (P := Try.prog) (fn := Try.f22) rfl _ _ _ 24 _ (0, 0) _ rfl _ Try.underlying24 rfl _) rfl
      rotate_left 2
      · repeat (first | (with_reducible apply heap_setCell_same) | (with_reducible apply drew_row) | (with_reducible apply drewN_row) | (with_reducible exact RR.out) | (with_reducible refine (heap_setCell_other _ _ _ _ (by first | omega | (simp; done) | (simp; omega))).trans ?_) | (with_reducible refine (Below.heap_alloc _ _ _ (by first | omega | (simp; done) | (simp; omega))).trans ?_))
      · kernel_rfl
      refine ⟨.slice D x.hs.length dc, ?_, ?_, ?_⟩
      · simp
        first | rfl | exact ⟨HD0.out, rfl⟩
      · exact OwnE.mono (base := w.heap.size + 2) (by repeat (first | with_reducible exact OO.out | (with_reducible refine OwnE.setBelow ?_ (by first | (simp; done) | (simp; omega)) _) | with_reducible refine OwnE.alloc ?_ _ | with_reducible refine OwnE.drew ?_)) (by omega)
      · exact (by repeat (first | with_reducible exact Below.refl _ _ | with_reducible assumption | with_reducible refine Below.drew ?_ | with_reducible refine Below.alloc ?_ (by first | exact Nat.le_refl _ | omega | (simp; done) | (simp; omega)) _ | with_reducible refine Below.setCell ?_ (by first | exact Nat.le_refl _ | omega | (simp; done) | (simp; omega)) _ | (with_reducible refine ext_trans ?_ (by with_reducible assumption))))
  by_cases hz0 : x.d.size = 0
  · obtain rfl : m = 0 := by rw [← hm]; unfold takeN; rw [if_neg hn0, if_pos (by omega)]; exact hz0
    have HD0 : Hid (ByteArray.empty = x.d) := (ByteArray.ext (Array.eq_empty_of_size_eq_zero hz0).symm : ByteArray.empty = x.d)
    rw [show x.d.extract 0 x.d.size = x.d from by simp, show x.d.extract 0 0 = ByteArray.empty from by simp]
    clear hm
    go_wp2_with fail
    have hbs : Below w.heap.size w (w2.setCell ⟨w1.heap.size, 1, none⟩ (.string ByteArray.empty)) := (by repeat (first | with_reducible exact Below.refl _ _ | with_reducible assumption | with_reducible refine Below.drew ?_ | with_reducible refine Below.alloc ?_ (by first | exact Nat.le_refl _ | omega | (simp; done) | (simp; omega)) _ | with_reducible refine Below.setCell ?_ (by first | exact Nat.le_refl _ | omega | (simp; done) | (simp; omega)) _ | (with_reducible refine ext_trans ?_ (by with_reducible assumption))))
    have ra : (w2.setCell ⟨w1.heap.size, 1, none⟩ (.string ByteArray.empty)).heap[w.heap.size]? = some (.cells #[.int .i64 x.nx, .string x.d, .slice A x.hs.length c, .int .i64 x.fin, .bool x.dn] 24 (0, 0)) := (heap_setCell_other _ _ _ _ (by simp; omega)).trans Ra_2.out
    have rr : (w2.setCell ⟨w1.heap.size, 1, none⟩ (.string ByteArray.empty)).heap[w.heap.size + 1]? = some (.cells #[.int .i64 0, .string ⟨#[]⟩, .slice none 0 0, .int .i64 0, .bool false] 24 (0, 0)) := (heap_setCell_other _ _ _ _ (by simp; omega)).trans Rr_2.out
    have ro : (w2.setCell ⟨w1.heap.size, 1, none⟩ (.string ByteArray.empty)).heap[w1.heap.size]? = some (.cells #[.int .i64 x.nx, .string ByteArray.empty, .slice D x.hs.length dc, .int .i64 x.fin, .bool x.dn] 24 (0, 0)) := (heap_setCell_same _ _ 1 _ _ _ Ro_2.out).trans (by simp)
    have oo : OwnPiece (w2.setCell ⟨w1.heap.size, 1, none⟩ (.string ByteArray.empty)) (w.heap.size + 2) (.slice D x.hs.length dc) x.hs := OwnE.setOther Oo_2.out (fun h e => by obtain ⟨p, r⟩ := Bo.out.blk _ h e; first | omega | (simp at r; done) | (simp at r; omega) | (simp at p r; omega)) _
    have hz3 : w2.heap.size = (w2.setCell ⟨w1.heap.size, 1, none⟩ (.string ByteArray.empty)).heap.size := by simp
    clear r0_ra_2 f0_ra_2 r1_ra_2 f1_ra_2 r2_ra_2 f2_ra_2 r3_ra_2 f3_ra_2 r4_ra_2 f4_ra_2 r0_rr_2 f0_rr_2 r1_rr_2 f1_rr_2 r2_rr_2 f2_rr_2 r3_rr_2 f3_rr_2 r4_rr_2 f4_rr_2 r0_ro_2 f0_ro_2 r1_ro_2 f1_ro_2 r2_ro_2 f2_ro_2 r3_ro_2 f3_ro_2 r4_ro_2 f4_ro_2
    generalize (w2.setCell ⟨w1.heap.size, 1, none⟩ (.string ByteArray.empty)) = w9 at *
    have r0_ra := cell_of_row _ _ 0 _ _ _ ra
    have r1_ra := cell_of_row _ _ 1 _ _ _ ra
    have r2_ra := cell_of_row _ _ 2 _ _ _ ra
    have r3_ra := cell_of_row _ _ 3 _ _ _ ra
    have r4_ra := cell_of_row _ _ 4 _ _ _ ra
    have f0_ra := frozen_of_row _ _ 0 _ _ ra
    have f1_ra := frozen_of_row _ _ 1 _ _ ra
    have f2_ra := frozen_of_row _ _ 2 _ _ ra
    have f3_ra := frozen_of_row _ _ 3 _ _ ra
    have f4_ra := frozen_of_row _ _ 4 _ _ ra
    simp at r0_ra r1_ra r2_ra r3_ra r4_ra
    have r0_rr := cell_of_row _ _ 0 _ _ _ rr
    have r1_rr := cell_of_row _ _ 1 _ _ _ rr
    have r2_rr := cell_of_row _ _ 2 _ _ _ rr
    have r3_rr := cell_of_row _ _ 3 _ _ _ rr
    have r4_rr := cell_of_row _ _ 4 _ _ _ rr
    have f0_rr := frozen_of_row _ _ 0 _ _ rr
    have f1_rr := frozen_of_row _ _ 1 _ _ rr
    have f2_rr := frozen_of_row _ _ 2 _ _ rr
    have f3_rr := frozen_of_row _ _ 3 _ _ rr
    have f4_rr := frozen_of_row _ _ 4 _ _ rr
    simp at r0_rr r1_rr r2_rr r3_rr r4_rr
    have r0_ro := cell_of_row _ _ 0 _ _ _ ro
    have r1_ro := cell_of_row _ _ 1 _ _ _ ro
    have r2_ro := cell_of_row _ _ 2 _ _ _ ro
    have r3_ro := cell_of_row _ _ 3 _ _ _ ro
    have r4_ro := cell_of_row _ _ 4 _ _ _ ro
    have f0_ro := frozen_of_row _ _ 0 _ _ ro
    have f1_ro := frozen_of_row _ _ 1 _ _ ro
    have f2_ro := frozen_of_row _ _ 2 _ _ ro
    have f3_ro := frozen_of_row _ _ 3 _ _ ro
    have f4_ro := frozen_of_row _ _ 4 _ _ ro
    simp at r0_ro r1_ro r2_ro r3_ro r4_ro
    have RA := Lib.hid ra
    have RR := Lib.hid rr
    have OO := Lib.hid oo
    clear ra rr ro oo
    have hbd : Below w.heap.size w w9.drew := hbs.drew
    have RR2 : Hid (w9.drew.heap[w.heap.size + 1]? = _) := RR
    have OO2 := Lib.hid OO.out.drew
    have hz4 : w9.heap.size = w9.drew.heap.size := rfl
    have hm0 : (0 : Int) ≤ (0 : Int) := by omega
    have hm1 : (0 : Int) ≤ (x.d.size : Int) := by omega
    have hm2 : 0 ≤ x.d.size := by omega
    go_region_with (fail)
    all_goals
      go_wp2_with fail
      apply bodyPost_ret (results_row_tmp1 (P := Try.prog) (fn := Try.f22) rfl _ _ _ 24 _ (0, 0) _ rfl _ Try.underlying24 rfl _) rfl
      rotate_left 2
      · repeat (first | (with_reducible apply heap_setCell_same) | (with_reducible apply drew_row) | (with_reducible apply drewN_row) | (with_reducible exact RR.out) | (with_reducible refine (heap_setCell_other _ _ _ _ (by first | omega | (simp; done) | (simp; omega))).trans ?_) | (with_reducible refine (Below.heap_alloc _ _ _ (by first | omega | (simp; done) | (simp; omega))).trans ?_))
      · kernel_rfl
      refine ⟨.slice D x.hs.length dc, ?_, ?_, ?_⟩
      · simp
        first | rfl | exact ⟨HD0.out, rfl⟩
      · exact OwnE.mono (base := w.heap.size + 2) (by repeat (first | with_reducible exact OO.out | (with_reducible refine OwnE.setBelow ?_ (by first | (simp; done) | (simp; omega)) _) | with_reducible refine OwnE.alloc ?_ _ | with_reducible refine OwnE.drew ?_)) (by omega)
      · exact (by repeat (first | with_reducible exact Below.refl _ _ | with_reducible assumption | with_reducible refine Below.drew ?_ | with_reducible refine Below.alloc ?_ (by first | exact Nat.le_refl _ | omega | (simp; done) | (simp; omega)) _ | with_reducible refine Below.setCell ?_ (by first | exact Nat.le_refl _ | omega | (simp; done) | (simp; omega)) _ | (with_reducible refine ext_trans ?_ (by with_reducible assumption))))
  have hz1 : (0 : Int) < (x.d.size : Int) := by omega
  by_cases hn1 : (x.d.size : Int) < n
  · obtain rfl : m = x.d.size := by rw [← hm]; unfold takeN; rw [if_neg hn0, if_pos (by omega)]
    rw [show x.d.extract 0 x.d.size = x.d from by simp, show x.d.extract x.d.size x.d.size = ByteArray.empty from by simp]
    clear hm
    go_wp2_with fail
    have hbs : Below w.heap.size w (w2.setCell ⟨w1.heap.size, 1, none⟩ (.string ByteArray.empty)) := (by repeat (first | with_reducible exact Below.refl _ _ | with_reducible assumption | with_reducible refine Below.drew ?_ | with_reducible refine Below.alloc ?_ (by first | exact Nat.le_refl _ | omega | (simp; done) | (simp; omega)) _ | with_reducible refine Below.setCell ?_ (by first | exact Nat.le_refl _ | omega | (simp; done) | (simp; omega)) _ | (with_reducible refine ext_trans ?_ (by with_reducible assumption))))
    have ra : (w2.setCell ⟨w1.heap.size, 1, none⟩ (.string ByteArray.empty)).heap[w.heap.size]? = some (.cells #[.int .i64 x.nx, .string x.d, .slice A x.hs.length c, .int .i64 x.fin, .bool x.dn] 24 (0, 0)) := (heap_setCell_other _ _ _ _ (by simp; omega)).trans Ra_2.out
    have rr : (w2.setCell ⟨w1.heap.size, 1, none⟩ (.string ByteArray.empty)).heap[w.heap.size + 1]? = some (.cells #[.int .i64 0, .string ⟨#[]⟩, .slice none 0 0, .int .i64 0, .bool false] 24 (0, 0)) := (heap_setCell_other _ _ _ _ (by simp; omega)).trans Rr_2.out
    have ro : (w2.setCell ⟨w1.heap.size, 1, none⟩ (.string ByteArray.empty)).heap[w1.heap.size]? = some (.cells #[.int .i64 x.nx, .string ByteArray.empty, .slice D x.hs.length dc, .int .i64 x.fin, .bool x.dn] 24 (0, 0)) := (heap_setCell_same _ _ 1 _ _ _ Ro_2.out).trans (by simp)
    have oo : OwnPiece (w2.setCell ⟨w1.heap.size, 1, none⟩ (.string ByteArray.empty)) (w.heap.size + 2) (.slice D x.hs.length dc) x.hs := OwnE.setOther Oo_2.out (fun h e => by obtain ⟨p, r⟩ := Bo.out.blk _ h e; first | omega | (simp at r; done) | (simp at r; omega) | (simp at p r; omega)) _
    have hz3 : w2.heap.size = (w2.setCell ⟨w1.heap.size, 1, none⟩ (.string ByteArray.empty)).heap.size := by simp
    clear r0_ra_2 f0_ra_2 r1_ra_2 f1_ra_2 r2_ra_2 f2_ra_2 r3_ra_2 f3_ra_2 r4_ra_2 f4_ra_2 r0_rr_2 f0_rr_2 r1_rr_2 f1_rr_2 r2_rr_2 f2_rr_2 r3_rr_2 f3_rr_2 r4_rr_2 f4_rr_2 r0_ro_2 f0_ro_2 r1_ro_2 f1_ro_2 r2_ro_2 f2_ro_2 r3_ro_2 f3_ro_2 r4_ro_2 f4_ro_2
    generalize (w2.setCell ⟨w1.heap.size, 1, none⟩ (.string ByteArray.empty)) = w9 at *
    have r0_ra := cell_of_row _ _ 0 _ _ _ ra
    have r1_ra := cell_of_row _ _ 1 _ _ _ ra
    have r2_ra := cell_of_row _ _ 2 _ _ _ ra
    have r3_ra := cell_of_row _ _ 3 _ _ _ ra
    have r4_ra := cell_of_row _ _ 4 _ _ _ ra
    have f0_ra := frozen_of_row _ _ 0 _ _ ra
    have f1_ra := frozen_of_row _ _ 1 _ _ ra
    have f2_ra := frozen_of_row _ _ 2 _ _ ra
    have f3_ra := frozen_of_row _ _ 3 _ _ ra
    have f4_ra := frozen_of_row _ _ 4 _ _ ra
    simp at r0_ra r1_ra r2_ra r3_ra r4_ra
    have r0_rr := cell_of_row _ _ 0 _ _ _ rr
    have r1_rr := cell_of_row _ _ 1 _ _ _ rr
    have r2_rr := cell_of_row _ _ 2 _ _ _ rr
    have r3_rr := cell_of_row _ _ 3 _ _ _ rr
    have r4_rr := cell_of_row _ _ 4 _ _ _ rr
    have f0_rr := frozen_of_row _ _ 0 _ _ rr
    have f1_rr := frozen_of_row _ _ 1 _ _ rr
    have f2_rr := frozen_of_row _ _ 2 _ _ rr
    have f3_rr := frozen_of_row _ _ 3 _ _ rr
    have f4_rr := frozen_of_row _ _ 4 _ _ rr
    simp at r0_rr r1_rr r2_rr r3_rr r4_rr
    have r0_ro := cell_of_row _ _ 0 _ _ _ ro
    have r1_ro := cell_of_row _ _ 1 _ _ _ ro
    have r2_ro := cell_of_row _ _ 2 _ _ _ ro
    have r3_ro := cell_of_row _ _ 3 _ _ _ ro
    have r4_ro := cell_of_row _ _ 4 _ _ _ ro
    have f0_ro := frozen_of_row _ _ 0 _ _ ro
    have f1_ro := frozen_of_row _ _ 1 _ _ ro
    have f2_ro := frozen_of_row _ _ 2 _ _ ro
    have f3_ro := frozen_of_row _ _ 3 _ _ ro
    have f4_ro := frozen_of_row _ _ 4 _ _ ro
    simp at r0_ro r1_ro r2_ro r3_ro r4_ro
    have RA := Lib.hid ra
    have RR := Lib.hid rr
    have OO := Lib.hid oo
    clear ra rr ro oo
    have hbd : Below w.heap.size w w9.drew := hbs.drew
    have RR2 : Hid (w9.drew.heap[w.heap.size + 1]? = _) := RR
    have OO2 := Lib.hid OO.out.drew
    have hz4 : w9.heap.size = w9.drew.heap.size := rfl
    have hm0 : (0 : Int) ≤ (x.d.size : Int) := by omega
    have hm1 : (x.d.size : Int) ≤ (x.d.size : Int) := by omega
    have hm2 : x.d.size ≤ x.d.size := by omega
    go_region_with (fail)
    all_goals
      go_wp2_with fail
      apply bodyPost_ret (results_row_tmp1 (P := Try.prog) (fn := Try.f22) rfl _ _ _ 24 _ (0, 0) _ rfl _ Try.underlying24 rfl _) rfl
      rotate_left 2
      · repeat (first | (with_reducible apply heap_setCell_same) | (with_reducible apply drew_row) | (with_reducible apply drewN_row) | (with_reducible exact RR.out) | (with_reducible refine (heap_setCell_other _ _ _ _ (by first | omega | (simp; done) | (simp; omega))).trans ?_) | (with_reducible refine (Below.heap_alloc _ _ _ (by first | omega | (simp; done) | (simp; omega))).trans ?_))
      · kernel_rfl
      refine ⟨.slice D x.hs.length dc, ?_, ?_, ?_⟩
      · simp
        first | rfl | exact ⟨HD0.out, rfl⟩
      · exact OwnE.mono (base := w.heap.size + 2) (by repeat (first | with_reducible exact OO.out | (with_reducible refine OwnE.setBelow ?_ (by first | (simp; done) | (simp; omega)) _) | with_reducible refine OwnE.alloc ?_ _ | with_reducible refine OwnE.drew ?_)) (by omega)
      · exact (by repeat (first | with_reducible exact Below.refl _ _ | with_reducible assumption | with_reducible refine Below.drew ?_ | with_reducible refine Below.alloc ?_ (by first | exact Nat.le_refl _ | omega | (simp; done) | (simp; omega)) _ | with_reducible refine Below.setCell ?_ (by first | exact Nat.le_refl _ | omega | (simp; done) | (simp; omega)) _ | (with_reducible refine ext_trans ?_ (by with_reducible assumption))))
  · obtain ⟨k, rfl⟩ := Int.eq_ofNat_of_zero_le (by omega : 0 ≤ n)
    obtain rfl : m = k := by rw [← hm]; unfold takeN; rw [if_neg hn0]; split <;> omega
    clear hm
    go_wp2_with fail
    have hbs : Below w.heap.size w (w2.setCell ⟨w1.heap.size, 1, none⟩ (.string (x.d.extract m x.d.size))) := (by repeat (first | with_reducible exact Below.refl _ _ | with_reducible assumption | with_reducible refine Below.drew ?_ | with_reducible refine Below.alloc ?_ (by first | exact Nat.le_refl _ | omega | (simp; done) | (simp; omega)) _ | with_reducible refine Below.setCell ?_ (by first | exact Nat.le_refl _ | omega | (simp; done) | (simp; omega)) _ | (with_reducible refine ext_trans ?_ (by with_reducible assumption))))
    have ra : (w2.setCell ⟨w1.heap.size, 1, none⟩ (.string (x.d.extract m x.d.size))).heap[w.heap.size]? = some (.cells #[.int .i64 x.nx, .string x.d, .slice A x.hs.length c, .int .i64 x.fin, .bool x.dn] 24 (0, 0)) := (heap_setCell_other _ _ _ _ (by simp; omega)).trans Ra_2.out
    have rr : (w2.setCell ⟨w1.heap.size, 1, none⟩ (.string (x.d.extract m x.d.size))).heap[w.heap.size + 1]? = some (.cells #[.int .i64 0, .string ⟨#[]⟩, .slice none 0 0, .int .i64 0, .bool false] 24 (0, 0)) := (heap_setCell_other _ _ _ _ (by simp; omega)).trans Rr_2.out
    have ro : (w2.setCell ⟨w1.heap.size, 1, none⟩ (.string (x.d.extract m x.d.size))).heap[w1.heap.size]? = some (.cells #[.int .i64 x.nx, .string (x.d.extract m x.d.size), .slice D x.hs.length dc, .int .i64 x.fin, .bool x.dn] 24 (0, 0)) := (heap_setCell_same _ _ 1 _ _ _ Ro_2.out).trans (by simp)
    have oo : OwnPiece (w2.setCell ⟨w1.heap.size, 1, none⟩ (.string (x.d.extract m x.d.size))) (w.heap.size + 2) (.slice D x.hs.length dc) x.hs := OwnE.setOther Oo_2.out (fun h e => by obtain ⟨p, r⟩ := Bo.out.blk _ h e; first | omega | (simp at r; done) | (simp at r; omega) | (simp at p r; omega)) _
    have hz3 : w2.heap.size = (w2.setCell ⟨w1.heap.size, 1, none⟩ (.string (x.d.extract m x.d.size))).heap.size := by simp
    clear r0_ra_2 f0_ra_2 r1_ra_2 f1_ra_2 r2_ra_2 f2_ra_2 r3_ra_2 f3_ra_2 r4_ra_2 f4_ra_2 r0_rr_2 f0_rr_2 r1_rr_2 f1_rr_2 r2_rr_2 f2_rr_2 r3_rr_2 f3_rr_2 r4_rr_2 f4_rr_2 r0_ro_2 f0_ro_2 r1_ro_2 f1_ro_2 r2_ro_2 f2_ro_2 r3_ro_2 f3_ro_2 r4_ro_2 f4_ro_2
    generalize (w2.setCell ⟨w1.heap.size, 1, none⟩ (.string (x.d.extract m x.d.size))) = w9 at *
    have r0_ra := cell_of_row _ _ 0 _ _ _ ra
    have r1_ra := cell_of_row _ _ 1 _ _ _ ra
    have r2_ra := cell_of_row _ _ 2 _ _ _ ra
    have r3_ra := cell_of_row _ _ 3 _ _ _ ra
    have r4_ra := cell_of_row _ _ 4 _ _ _ ra
    have f0_ra := frozen_of_row _ _ 0 _ _ ra
    have f1_ra := frozen_of_row _ _ 1 _ _ ra
    have f2_ra := frozen_of_row _ _ 2 _ _ ra
    have f3_ra := frozen_of_row _ _ 3 _ _ ra
    have f4_ra := frozen_of_row _ _ 4 _ _ ra
    simp at r0_ra r1_ra r2_ra r3_ra r4_ra
    have r0_rr := cell_of_row _ _ 0 _ _ _ rr
    have r1_rr := cell_of_row _ _ 1 _ _ _ rr
    have r2_rr := cell_of_row _ _ 2 _ _ _ rr
    have r3_rr := cell_of_row _ _ 3 _ _ _ rr
    have r4_rr := cell_of_row _ _ 4 _ _ _ rr
    have f0_rr := frozen_of_row _ _ 0 _ _ rr
    have f1_rr := frozen_of_row _ _ 1 _ _ rr
    have f2_rr := frozen_of_row _ _ 2 _ _ rr
    have f3_rr := frozen_of_row _ _ 3 _ _ rr
    have f4_rr := frozen_of_row _ _ 4 _ _ rr
    simp at r0_rr r1_rr r2_rr r3_rr r4_rr
    have r0_ro := cell_of_row _ _ 0 _ _ _ ro
    have r1_ro := cell_of_row _ _ 1 _ _ _ ro
    have r2_ro := cell_of_row _ _ 2 _ _ _ ro
    have r3_ro := cell_of_row _ _ 3 _ _ _ ro
    have r4_ro := cell_of_row _ _ 4 _ _ _ ro
    have f0_ro := frozen_of_row _ _ 0 _ _ ro
    have f1_ro := frozen_of_row _ _ 1 _ _ ro
    have f2_ro := frozen_of_row _ _ 2 _ _ ro
    have f3_ro := frozen_of_row _ _ 3 _ _ ro
    have f4_ro := frozen_of_row _ _ 4 _ _ ro
    simp at r0_ro r1_ro r2_ro r3_ro r4_ro
    have RA := Lib.hid ra
    have RR := Lib.hid rr
    have OO := Lib.hid oo
    clear ra rr ro oo
    have hbd : Below w.heap.size w w9.drew := hbs.drew
    have RR2 : Hid (w9.drew.heap[w.heap.size + 1]? = _) := RR
    have OO2 := Lib.hid OO.out.drew
    have hz4 : w9.heap.size = w9.drew.heap.size := rfl
    have hm0 : (0 : Int) ≤ (m : Int) := by omega
    have hm1 : (m : Int) ≤ (x.d.size : Int) := by omega
    have hm2 : m ≤ x.d.size := by omega
    go_region_with (fail)
    all_goals
      go_wp2_with fail
      apply bodyPost_ret (results_row_tmp1 (P := Try.prog) (fn := Try.f22) rfl _ _ _ 24 _ (0, 0) _ rfl _ Try.underlying24 rfl _) rfl
      rotate_left 2
      · repeat (first | (with_reducible apply heap_setCell_same) | (with_reducible apply drew_row) | (with_reducible apply drewN_row) | (with_reducible exact RR.out) | (with_reducible refine (heap_setCell_other _ _ _ _ (by first | omega | (simp; done) | (simp; omega))).trans ?_) | (with_reducible refine (Below.heap_alloc _ _ _ (by first | omega | (simp; done) | (simp; omega))).trans ?_))
      · kernel_rfl
      refine ⟨.slice D x.hs.length dc, ?_, ?_, ?_⟩
      · simp
        first | rfl | exact ⟨HD0.out, rfl⟩
      · exact OwnE.mono (base := w.heap.size + 2) (by repeat (first | with_reducible exact OO.out | (with_reducible refine OwnE.setBelow ?_ (by first | (simp; done) | (simp; omega)) _) | with_reducible refine OwnE.alloc ?_ _ | with_reducible refine OwnE.drew ?_)) (by omega)
      · exact (by repeat (first | with_reducible exact Below.refl _ _ | with_reducible assumption | with_reducible refine Below.drew ?_ | with_reducible refine Below.alloc ?_ (by first | exact Nat.le_refl _ | omega | (simp; done) | (simp; omega)) _ | with_reducible refine Below.setCell ?_ (by first | exact Nat.le_refl _ | omega | (simp; done) | (simp; omega)) _ | (with_reducible refine ext_trans ?_ (by with_reducible assumption))))

set_option maxHeartbeats 4000000 in
theorem sTakenIn_any (x : RRcv) (v : Value) (n : Int) (hf : x.fits) (hn : x.hs.length ≤ 1048600) (hn1 : -9223372036854775808 ≤ n) (hn2 : n ≤ 9223372036854775807) (w : World) (h : RdPiece w v x.hs) :
    Calls Try.prog 21 #[vR x v, .int .i64 n] w (NewTaken (x.take n) w) := by
  obtain ⟨A, c, rfl, -⟩ := id h
  have H := Lib.hid h
  have FT := Lib.hid hf
  have HN := Lib.hid hn
  clear h hf hn
  obtain ⟨B, hB⟩ : ∃ B, x.ok = B := ⟨_, rfl⟩
  obtain ⟨R, hR⟩ : ∃ R, x.take n = R := ⟨_, rfl⟩
  rw [hR]
  have hok := fun W v h => sReceiverOk_any x v FT.out W h
  rw [hB] at hok
  have HOK := Lib.hid hok
  have HB := Lib.hid hB
  have HR := Lib.hid hR
  clear hok hR hB
  go_enter Try.func21, Try.ntmps21
  go_wp2_with fail
  refine (l18Copy_any x _ HN.out _ (H.out.below (by repeat (first | with_reducible exact Below.refl _ _ | with_reducible assumption | with_reducible refine Below.drew ?_ | with_reducible refine Below.alloc ?_ (by first | exact Nat.le_refl _ | omega | (simp; done) | (simp; omega)) _ | with_reducible refine Below.setCell ?_ (by first | exact Nat.le_refl _ | omega | (simp; done) | (simp; omega)) _ | (with_reducible refine ext_trans ?_ (by with_reducible assumption)))))).mono ?_
  rintro e w1 ⟨v1, rfl, hO1, hb1⟩
  obtain ⟨D, dc, rfl⟩ := hO1.form
  have Oo_1 := Lib.hid (OwnE.mono (base' := w.heap.size + 2) hO1 (by first | exact Nat.le_refl _ | (simp; done)))
  have Bo := Oo_1
  have hz1 := hb1.size
  (try simp at hz1)
  have ra_1 : w1.heap[w.heap.size]? = some (.cells #[.int .i64 x.nx, .string x.d, .slice A x.hs.length c, .int .i64 x.fin, .bool x.dn] 24 (0, 0)) := (hb1.block _ (by first | (simp; done) | (simp; omega))).trans (by repeat (first | exact heap_new _ _ _ (by first | rfl | (simp; done) | (simp; omega)) | refine (Below.heap_alloc _ _ _ (by first | omega | (simp; done) | (simp; omega))).trans ?_))
  have rr_1 : w1.heap[w.heap.size + 1]? = some (.cells #[.int .i64 0, .string ⟨#[]⟩, .slice none 0 0, .int .i64 0, .bool false] 24 (0, 0)) := (hb1.block _ (by first | (simp; done) | (simp; omega))).trans (by repeat (first | exact heap_new _ _ _ (by first | rfl | (simp; done) | (simp; omega)) | refine (Below.heap_alloc _ _ _ (by first | omega | (simp; done) | (simp; omega))).trans ?_))
  have hw1 : Below w.heap.size w w1 := (by repeat (first | with_reducible exact Below.refl _ _ | with_reducible assumption | with_reducible refine Below.drew ?_ | with_reducible refine Below.alloc ?_ (by first | exact Nat.le_refl _ | omega | (simp; done) | (simp; omega)) _ | with_reducible refine Below.setCell ?_ (by first | exact Nat.le_refl _ | omega | (simp; done) | (simp; omega)) _ | (with_reducible refine ext_trans ?_ (by with_reducible assumption))))
  have lRa_1 : w.heap.size < w1.heap.size := by omega
  have lRr_1 : w.heap.size + 1 < w1.heap.size := by omega
  have Ra_1 := Lib.hid ra_1
  have r0_ra_1 := cell_of_row _ _ 0 _ _ _ ra_1
  have r1_ra_1 := cell_of_row _ _ 1 _ _ _ ra_1
  have r2_ra_1 := cell_of_row _ _ 2 _ _ _ ra_1
  have r3_ra_1 := cell_of_row _ _ 3 _ _ _ ra_1
  have r4_ra_1 := cell_of_row _ _ 4 _ _ _ ra_1
  have f0_ra_1 := frozen_of_row _ _ 0 _ _ ra_1
  have f1_ra_1 := frozen_of_row _ _ 1 _ _ ra_1
  have f2_ra_1 := frozen_of_row _ _ 2 _ _ ra_1
  have f3_ra_1 := frozen_of_row _ _ 3 _ _ ra_1
  have f4_ra_1 := frozen_of_row _ _ 4 _ _ ra_1
  simp at r0_ra_1 r1_ra_1 r2_ra_1 r3_ra_1 r4_ra_1
  clear ra_1
  have Rr_1 := Lib.hid rr_1
  have r0_rr_1 := cell_of_row _ _ 0 _ _ _ rr_1
  have r1_rr_1 := cell_of_row _ _ 1 _ _ _ rr_1
  have r2_rr_1 := cell_of_row _ _ 2 _ _ _ rr_1
  have r3_rr_1 := cell_of_row _ _ 3 _ _ _ rr_1
  have r4_rr_1 := cell_of_row _ _ 4 _ _ _ rr_1
  have f0_rr_1 := frozen_of_row _ _ 0 _ _ rr_1
  have f1_rr_1 := frozen_of_row _ _ 1 _ _ rr_1
  have f2_rr_1 := frozen_of_row _ _ 2 _ _ rr_1
  have f3_rr_1 := frozen_of_row _ _ 3 _ _ rr_1
  have f4_rr_1 := frozen_of_row _ _ 4 _ _ rr_1
  simp at r0_rr_1 r1_rr_1 r2_rr_1 r3_rr_1 r4_rr_1
  clear rr_1
  go_wp2_with fail
  refine (HOK.out _ _ (H.out.below (by repeat (first | with_reducible exact Below.refl _ _ | with_reducible assumption | with_reducible refine Below.drew ?_ | with_reducible refine Below.alloc ?_ (by first | exact Nat.le_refl _ | omega | (simp; done) | (simp; omega)) _ | with_reducible refine Below.setCell ?_ (by first | exact Nat.le_refl _ | omega | (simp; done) | (simp; omega)) _ | (with_reducible refine ext_trans ?_ (by with_reducible assumption)))))).mono ?_
  rintro e w2 ⟨rfl, hb2⟩
  have hz2 := hb2.size
  (try simp at hz2)
  have ra_2 := (hb2.block _ (by first | omega | (simp; done) | (simp; omega))).trans ((Below.heap_alloc _ _ _ (by first | exact lRa_1 | (simp; omega))).trans Ra_1.out)
  have rr_2 := (hb2.block _ (by first | omega | (simp; done) | (simp; omega))).trans ((Below.heap_alloc _ _ _ (by first | exact lRr_1 | (simp; omega))).trans Rr_1.out)
  have ro_2 : w2.heap[w1.heap.size]? = some (.cells #[.int .i64 x.nx, .string x.d, .slice D x.hs.length dc, .int .i64 x.fin, .bool x.dn] 24 (0, 0)) := (hb2.block _ (by first | (simp; done) | (simp; omega))).trans (by repeat (first | exact heap_new _ _ _ (by first | rfl | (simp; done) | (simp; omega)) | refine (Below.heap_alloc _ _ _ (by first | omega | (simp; done) | (simp; omega))).trans ?_))
  have Oo_2 := Lib.hid (Oo_1.out.below (w' := w2) (by repeat (first | with_reducible exact Below.refl _ _ | with_reducible assumption | with_reducible refine Below.drew ?_ | with_reducible refine Below.alloc ?_ (by first | exact Nat.le_refl _ | omega | (simp; done) | (simp; omega)) _ | with_reducible refine Below.setCell ?_ (by first | exact Nat.le_refl _ | omega | (simp; done) | (simp; omega)) _ | (with_reducible refine ext_trans ?_ (by with_reducible assumption)))))
  have hw2 : Below w.heap.size w w2 := (by repeat (first | with_reducible exact Below.refl _ _ | with_reducible assumption | with_reducible refine Below.drew ?_ | with_reducible refine Below.alloc ?_ (by first | exact Nat.le_refl _ | omega | (simp; done) | (simp; omega)) _ | with_reducible refine Below.setCell ?_ (by first | exact Nat.le_refl _ | omega | (simp; done) | (simp; omega)) _ | (with_reducible refine ext_trans ?_ (by with_reducible assumption))))
  have lRa_2 : w.heap.size < w2.heap.size := by omega
  have lRr_2 : w.heap.size + 1 < w2.heap.size := by omega
  have lRo_2 : w1.heap.size < w2.heap.size := by omega
  have Ra_2 := Lib.hid ra_2
  have r0_ra_2 := cell_of_row _ _ 0 _ _ _ ra_2
  have r1_ra_2 := cell_of_row _ _ 1 _ _ _ ra_2
  have r2_ra_2 := cell_of_row _ _ 2 _ _ _ ra_2
  have r3_ra_2 := cell_of_row _ _ 3 _ _ _ ra_2
  have r4_ra_2 := cell_of_row _ _ 4 _ _ _ ra_2
  have f0_ra_2 := frozen_of_row _ _ 0 _ _ ra_2
  have f1_ra_2 := frozen_of_row _ _ 1 _ _ ra_2
  have f2_ra_2 := frozen_of_row _ _ 2 _ _ ra_2
  have f3_ra_2 := frozen_of_row _ _ 3 _ _ ra_2
  have f4_ra_2 := frozen_of_row _ _ 4 _ _ ra_2
  simp at r0_ra_2 r1_ra_2 r2_ra_2 r3_ra_2 r4_ra_2
  clear ra_2
  have Rr_2 := Lib.hid rr_2
  have r0_rr_2 := cell_of_row _ _ 0 _ _ _ rr_2
  have r1_rr_2 := cell_of_row _ _ 1 _ _ _ rr_2
  have r2_rr_2 := cell_of_row _ _ 2 _ _ _ rr_2
  have r3_rr_2 := cell_of_row _ _ 3 _ _ _ rr_2
  have r4_rr_2 := cell_of_row _ _ 4 _ _ _ rr_2
  have f0_rr_2 := frozen_of_row _ _ 0 _ _ rr_2
  have f1_rr_2 := frozen_of_row _ _ 1 _ _ rr_2
  have f2_rr_2 := frozen_of_row _ _ 2 _ _ rr_2
  have f3_rr_2 := frozen_of_row _ _ 3 _ _ rr_2
  have f4_rr_2 := frozen_of_row _ _ 4 _ _ rr_2
  simp at r0_rr_2 r1_rr_2 r2_rr_2 r3_rr_2 r4_rr_2
  clear rr_2
  have Ro_2 := Lib.hid ro_2
  have r0_ro_2 := cell_of_row _ _ 0 _ _ _ ro_2
  have r1_ro_2 := cell_of_row _ _ 1 _ _ _ ro_2
  have r2_ro_2 := cell_of_row _ _ 2 _ _ _ ro_2
  have r3_ro_2 := cell_of_row _ _ 3 _ _ _ ro_2
  have r4_ro_2 := cell_of_row _ _ 4 _ _ _ ro_2
  have f0_ro_2 := frozen_of_row _ _ 0 _ _ ro_2
  have f1_ro_2 := frozen_of_row _ _ 1 _ _ ro_2
  have f2_ro_2 := frozen_of_row _ _ 2 _ _ ro_2
  have f3_ro_2 := frozen_of_row _ _ 3 _ _ ro_2
  have f4_ro_2 := frozen_of_row _ _ 4 _ _ ro_2
  simp at r0_ro_2 r1_ro_2 r2_ro_2 r3_ro_2 r4_ro_2
  clear ro_2
  clear r0_ra_1 f0_ra_1 r1_ra_1 f1_ra_1 r2_ra_1 f2_ra_1 r3_ra_1 f3_ra_1 r4_ra_1 f4_ra_1
  clear r0_rr_1 f0_rr_1 r1_rr_1 f1_rr_1 r2_rr_1 f2_rr_1 r3_rr_1 f3_rr_1 r4_rr_1 f4_rr_1
  cases B
  case false =>
    obtain rfl : R = (x, ⟨#[]⟩) := by rw [← HR.out]; unfold RRcv.take; rw [HB.out]; rfl
    go_wp2_with fail
    apply bodyPost_ret (results_row_tmp1 (P := Try.prog) (fn := Try.f21) rfl _ _ _ 24 _ (0, 0) _ rfl _ Try.underlying24 rfl _) rfl
    rotate_left 2
    · repeat (first | (with_reducible apply heap_setCell_same) | (with_reducible apply drew_row) | (with_reducible apply drewN_row) | (with_reducible exact Rr_2.out) | (with_reducible refine (heap_setCell_other _ _ _ _ (by first | omega | (simp; done) | (simp; omega))).trans ?_) | (with_reducible refine (Below.heap_alloc _ _ _ (by first | omega | (simp; done) | (simp; omega))).trans ?_))
    · kernel_rfl
    exact ⟨_, by simp; rfl, OwnE.mono (base := w.heap.size + 2) (by repeat (first | with_reducible exact Oo_2.out | (with_reducible refine OwnE.setBelow ?_ (by first | (simp; done) | (simp; omega)) _) | with_reducible refine OwnE.alloc ?_ _ | with_reducible refine OwnE.drew ?_)) (by omega), (by repeat (first | with_reducible exact Below.refl _ _ | with_reducible assumption | with_reducible refine Below.drew ?_ | with_reducible refine Below.alloc ?_ (by first | exact Nat.le_refl _ | omega | (simp; done) | (simp; omega)) _ | with_reducible refine Below.setCell ?_ (by first | exact Nat.le_refl _ | omega | (simp; done) | (simp; omega)) _ | (with_reducible refine ext_trans ?_ (by with_reducible assumption))))⟩
  have h32 := ok_size HB.out
  obtain ⟨m, hm⟩ : ∃ m, takeN x.d n = m := ⟨_, rfl⟩
  obtain rfl : R = (⟨x.nx, x.d.extract m x.d.size, x.hs, x.fin, x.dn⟩, x.d.extract 0 m) := by rw [← HR.out, ← hm]; unfold RRcv.take; rw [HB.out]; rfl
  by_cases hn0 : n ≤ 0
  · obtain rfl : m = 0 := by rw [← hm]; simp [takeN, hn0]
    rw [show x.d.extract 0 x.d.size = x.d from by simp, show x.d.extract 0 0 = ByteArray.empty from by simp]
    clear hm
    go_wp2_with (first | (go_at_call 37; refine (l1MinV _ _ (n) (by split <;> omega) _).mono ?_; rintro e' w' ⟨rfl, rfl⟩) | (go_at_call 29; refine (l1MaxV _ _ (0) (by split <;> omega) _).mono ?_; rintro e' w' ⟨rfl, rfl⟩))
    have hbs : Below w.heap.size w (w2.setCell ⟨w1.heap.size, 1, none⟩ (.string x.d)) := (by repeat (first | with_reducible exact Below.refl _ _ | with_reducible assumption | with_reducible refine Below.drew ?_ | with_reducible refine Below.alloc ?_ (by first | exact Nat.le_refl _ | omega | (simp; done) | (simp; omega)) _ | with_reducible refine Below.setCell ?_ (by first | exact Nat.le_refl _ | omega | (simp; done) | (simp; omega)) _ | (with_reducible refine ext_trans ?_ (by with_reducible assumption))))
    have ra : (w2.setCell ⟨w1.heap.size, 1, none⟩ (.string x.d)).heap[w.heap.size]? = some (.cells #[.int .i64 x.nx, .string x.d, .slice A x.hs.length c, .int .i64 x.fin, .bool x.dn] 24 (0, 0)) := (heap_setCell_other _ _ _ _ (by simp; omega)).trans Ra_2.out
    have rr : (w2.setCell ⟨w1.heap.size, 1, none⟩ (.string x.d)).heap[w.heap.size + 1]? = some (.cells #[.int .i64 0, .string ⟨#[]⟩, .slice none 0 0, .int .i64 0, .bool false] 24 (0, 0)) := (heap_setCell_other _ _ _ _ (by simp; omega)).trans Rr_2.out
    have ro : (w2.setCell ⟨w1.heap.size, 1, none⟩ (.string x.d)).heap[w1.heap.size]? = some (.cells #[.int .i64 x.nx, .string x.d, .slice D x.hs.length dc, .int .i64 x.fin, .bool x.dn] 24 (0, 0)) := (heap_setCell_same _ _ 1 _ _ _ Ro_2.out).trans (by simp)
    have oo : OwnPiece (w2.setCell ⟨w1.heap.size, 1, none⟩ (.string x.d)) (w.heap.size + 2) (.slice D x.hs.length dc) x.hs := OwnE.setOther Oo_2.out (fun h e => by obtain ⟨p, r⟩ := Bo.out.blk _ h e; first | omega | (simp at r; done) | (simp at r; omega) | (simp at p r; omega)) _
    have hz3 : w2.heap.size = (w2.setCell ⟨w1.heap.size, 1, none⟩ (.string x.d)).heap.size := by simp
    clear r0_ra_2 f0_ra_2 r1_ra_2 f1_ra_2 r2_ra_2 f2_ra_2 r3_ra_2 f3_ra_2 r4_ra_2 f4_ra_2 r0_rr_2 f0_rr_2 r1_rr_2 f1_rr_2 r2_rr_2 f2_rr_2 r3_rr_2 f3_rr_2 r4_rr_2 f4_rr_2 r0_ro_2 f0_ro_2 r1_ro_2 f1_ro_2 r2_ro_2 f2_ro_2 r3_ro_2 f3_ro_2 r4_ro_2 f4_ro_2
    generalize (w2.setCell ⟨w1.heap.size, 1, none⟩ (.string x.d)) = w9 at *
    have r0_ra := cell_of_row _ _ 0 _ _ _ ra
    have r1_ra := cell_of_row _ _ 1 _ _ _ ra
    have r2_ra := cell_of_row _ _ 2 _ _ _ ra
    have r3_ra := cell_of_row _ _ 3 _ _ _ ra
    have r4_ra := cell_of_row _ _ 4 _ _ _ ra
    have f0_ra := frozen_of_row _ _ 0 _ _ ra
    have f1_ra := frozen_of_row _ _ 1 _ _ ra
    have f2_ra := frozen_of_row _ _ 2 _ _ ra
    have f3_ra := frozen_of_row _ _ 3 _ _ ra
    have f4_ra := frozen_of_row _ _ 4 _ _ ra
    simp at r0_ra r1_ra r2_ra r3_ra r4_ra
    have r0_rr := cell_of_row _ _ 0 _ _ _ rr
    have r1_rr := cell_of_row _ _ 1 _ _ _ rr
    have r2_rr := cell_of_row _ _ 2 _ _ _ rr
    have r3_rr := cell_of_row _ _ 3 _ _ _ rr
    have r4_rr := cell_of_row _ _ 4 _ _ _ rr
    have f0_rr := frozen_of_row _ _ 0 _ _ rr
    have f1_rr := frozen_of_row _ _ 1 _ _ rr
    have f2_rr := frozen_of_row _ _ 2 _ _ rr
    have f3_rr := frozen_of_row _ _ 3 _ _ rr
    have f4_rr := frozen_of_row _ _ 4 _ _ rr
    simp at r0_rr r1_rr r2_rr r3_rr r4_rr
    have r0_ro := cell_of_row _ _ 0 _ _ _ ro
    have r1_ro := cell_of_row _ _ 1 _ _ _ ro
    have r2_ro := cell_of_row _ _ 2 _ _ _ ro
    have r3_ro := cell_of_row _ _ 3 _ _ _ ro
    have r4_ro := cell_of_row _ _ 4 _ _ _ ro
    have f0_ro := frozen_of_row _ _ 0 _ _ ro
    have f1_ro := frozen_of_row _ _ 1 _ _ ro
    have f2_ro := frozen_of_row _ _ 2 _ _ ro
    have f3_ro := frozen_of_row _ _ 3 _ _ ro
    have f4_ro := frozen_of_row _ _ 4 _ _ ro
    simp at r0_ro r1_ro r2_ro r3_ro r4_ro
    have RA := Lib.hid ra
    have RR := Lib.hid rr
    have OO := Lib.hid oo
    clear ra rr ro oo
    have hbd : Below w.heap.size w w9.drew := hbs.drew
    have RR2 : Hid (w9.drew.heap[w.heap.size + 1]? = _) := RR
    have OO2 := Lib.hid OO.out.drew
    have hz4 : w9.heap.size = w9.drew.heap.size := rfl
    have hm0 : (0 : Int) ≤ (0 : Int) := by omega
    have hm1 : (0 : Int) ≤ (x.d.size : Int) := by omega
    have hm2 : 0 ≤ x.d.size := by omega
    go_region_with (fail)
    all_goals
      go_wp2_with fail
      apply bodyPost_ret (results_row_tmp1 (P := Try.prog) (fn := Try.f21) rfl _ _ _ 24 _ (0, 0) _ rfl _ Try.underlying24 rfl _) rfl
      rotate_left 2
      · repeat (first | (with_reducible apply heap_setCell_same) | (with_reducible apply drew_row) | (with_reducible apply drewN_row) | (with_reducible exact RR.out) | (with_reducible refine (heap_setCell_other _ _ _ _ (by first | omega | (simp; done) | (simp; omega))).trans ?_) | (with_reducible refine (Below.heap_alloc _ _ _ (by first | omega | (simp; done) | (simp; omega))).trans ?_))
      · kernel_rfl
      refine ⟨.slice D x.hs.length dc, ?_, ?_, ?_⟩
      · simp
        first | rfl | exact ⟨HD0.out, rfl⟩
      · exact OwnE.mono (base := w.heap.size + 2) (by repeat (first | with_reducible exact OO.out | (with_reducible refine OwnE.setBelow ?_ (by first | (simp; done) | (simp; omega)) _) | with_reducible refine OwnE.alloc ?_ _ | with_reducible refine OwnE.drew ?_)) (by omega)
      · exact (by repeat (first | with_reducible exact Below.refl _ _ | with_reducible assumption | with_reducible refine Below.drew ?_ | with_reducible refine Below.alloc ?_ (by first | exact Nat.le_refl _ | omega | (simp; done) | (simp; omega)) _ | with_reducible refine Below.setCell ?_ (by first | exact Nat.le_refl _ | omega | (simp; done) | (simp; omega)) _ | (with_reducible refine ext_trans ?_ (by with_reducible assumption))))
  by_cases hz0 : x.d.size = 0
  · obtain rfl : m = 0 := by rw [← hm]; unfold takeN; rw [if_neg hn0, if_pos (by omega)]; exact hz0
    have HD0 : Hid (ByteArray.empty = x.d) := (ByteArray.ext (Array.eq_empty_of_size_eq_zero hz0).symm : ByteArray.empty = x.d)
    rw [show x.d.extract 0 x.d.size = x.d from by simp, show x.d.extract 0 0 = ByteArray.empty from by simp]
    clear hm
    go_wp2_with (first | (go_at_call 37; refine (l1MinV _ _ (0) (by split <;> omega) _).mono ?_; rintro e' w' ⟨rfl, rfl⟩) | (go_at_call 29; refine (l1MaxV _ _ (0) (by split <;> omega) _).mono ?_; rintro e' w' ⟨rfl, rfl⟩))
    have hbs : Below w.heap.size w (w2.setCell ⟨w1.heap.size, 1, none⟩ (.string ByteArray.empty)) := (by repeat (first | with_reducible exact Below.refl _ _ | with_reducible assumption | with_reducible refine Below.drew ?_ | with_reducible refine Below.alloc ?_ (by first | exact Nat.le_refl _ | omega | (simp; done) | (simp; omega)) _ | with_reducible refine Below.setCell ?_ (by first | exact Nat.le_refl _ | omega | (simp; done) | (simp; omega)) _ | (with_reducible refine ext_trans ?_ (by with_reducible assumption))))
    have ra : (w2.setCell ⟨w1.heap.size, 1, none⟩ (.string ByteArray.empty)).heap[w.heap.size]? = some (.cells #[.int .i64 x.nx, .string x.d, .slice A x.hs.length c, .int .i64 x.fin, .bool x.dn] 24 (0, 0)) := (heap_setCell_other _ _ _ _ (by simp; omega)).trans Ra_2.out
    have rr : (w2.setCell ⟨w1.heap.size, 1, none⟩ (.string ByteArray.empty)).heap[w.heap.size + 1]? = some (.cells #[.int .i64 0, .string ⟨#[]⟩, .slice none 0 0, .int .i64 0, .bool false] 24 (0, 0)) := (heap_setCell_other _ _ _ _ (by simp; omega)).trans Rr_2.out
    have ro : (w2.setCell ⟨w1.heap.size, 1, none⟩ (.string ByteArray.empty)).heap[w1.heap.size]? = some (.cells #[.int .i64 x.nx, .string ByteArray.empty, .slice D x.hs.length dc, .int .i64 x.fin, .bool x.dn] 24 (0, 0)) := (heap_setCell_same _ _ 1 _ _ _ Ro_2.out).trans (by simp)
    have oo : OwnPiece (w2.setCell ⟨w1.heap.size, 1, none⟩ (.string ByteArray.empty)) (w.heap.size + 2) (.slice D x.hs.length dc) x.hs := OwnE.setOther Oo_2.out (fun h e => by obtain ⟨p, r⟩ := Bo.out.blk _ h e; first | omega | (simp at r; done) | (simp at r; omega) | (simp at p r; omega)) _
    have hz3 : w2.heap.size = (w2.setCell ⟨w1.heap.size, 1, none⟩ (.string ByteArray.empty)).heap.size := by simp
    clear r0_ra_2 f0_ra_2 r1_ra_2 f1_ra_2 r2_ra_2 f2_ra_2 r3_ra_2 f3_ra_2 r4_ra_2 f4_ra_2 r0_rr_2 f0_rr_2 r1_rr_2 f1_rr_2 r2_rr_2 f2_rr_2 r3_rr_2 f3_rr_2 r4_rr_2 f4_rr_2 r0_ro_2 f0_ro_2 r1_ro_2 f1_ro_2 r2_ro_2 f2_ro_2 r3_ro_2 f3_ro_2 r4_ro_2 f4_ro_2
    generalize (w2.setCell ⟨w1.heap.size, 1, none⟩ (.string ByteArray.empty)) = w9 at *
    have r0_ra := cell_of_row _ _ 0 _ _ _ ra
    have r1_ra := cell_of_row _ _ 1 _ _ _ ra
    have r2_ra := cell_of_row _ _ 2 _ _ _ ra
    have r3_ra := cell_of_row _ _ 3 _ _ _ ra
    have r4_ra := cell_of_row _ _ 4 _ _ _ ra
    have f0_ra := frozen_of_row _ _ 0 _ _ ra
    have f1_ra := frozen_of_row _ _ 1 _ _ ra
    have f2_ra := frozen_of_row _ _ 2 _ _ ra
    have f3_ra := frozen_of_row _ _ 3 _ _ ra
    have f4_ra := frozen_of_row _ _ 4 _ _ ra
    simp at r0_ra r1_ra r2_ra r3_ra r4_ra
    have r0_rr := cell_of_row _ _ 0 _ _ _ rr
    have r1_rr := cell_of_row _ _ 1 _ _ _ rr
    have r2_rr := cell_of_row _ _ 2 _ _ _ rr
    have r3_rr := cell_of_row _ _ 3 _ _ _ rr
    have r4_rr := cell_of_row _ _ 4 _ _ _ rr
    have f0_rr := frozen_of_row _ _ 0 _ _ rr
    have f1_rr := frozen_of_row _ _ 1 _ _ rr
    have f2_rr := frozen_of_row _ _ 2 _ _ rr
    have f3_rr := frozen_of_row _ _ 3 _ _ rr
    have f4_rr := frozen_of_row _ _ 4 _ _ rr
    simp at r0_rr r1_rr r2_rr r3_rr r4_rr
    have r0_ro := cell_of_row _ _ 0 _ _ _ ro
    have r1_ro := cell_of_row _ _ 1 _ _ _ ro
    have r2_ro := cell_of_row _ _ 2 _ _ _ ro
    have r3_ro := cell_of_row _ _ 3 _ _ _ ro
    have r4_ro := cell_of_row _ _ 4 _ _ _ ro
    have f0_ro := frozen_of_row _ _ 0 _ _ ro
    have f1_ro := frozen_of_row _ _ 1 _ _ ro
    have f2_ro := frozen_of_row _ _ 2 _ _ ro
    have f3_ro := frozen_of_row _ _ 3 _ _ ro
    have f4_ro := frozen_of_row _ _ 4 _ _ ro
    simp at r0_ro r1_ro r2_ro r3_ro r4_ro
    have RA := Lib.hid ra
    have RR := Lib.hid rr
    have OO := Lib.hid oo
    clear ra rr ro oo
    have hbd : Below w.heap.size w w9.drew := hbs.drew
    have RR2 : Hid (w9.drew.heap[w.heap.size + 1]? = _) := RR
    have OO2 := Lib.hid OO.out.drew
    have hz4 : w9.heap.size = w9.drew.heap.size := rfl
    have hm0 : (0 : Int) ≤ (0 : Int) := by omega
    have hm1 : (0 : Int) ≤ (x.d.size : Int) := by omega
    have hm2 : 0 ≤ x.d.size := by omega
    go_region_with (fail)
    all_goals
      go_wp2_with fail
      apply bodyPost_ret (results_row_tmp1 (P := Try.prog) (fn := Try.f21) rfl _ _ _ 24 _ (0, 0) _ rfl _ Try.underlying24 rfl _) rfl
      rotate_left 2
      · repeat (first | (with_reducible apply heap_setCell_same) | (with_reducible apply drew_row) | (with_reducible apply drewN_row) | (with_reducible exact RR.out) | (with_reducible refine (heap_setCell_other _ _ _ _ (by first | omega | (simp; done) | (simp; omega))).trans ?_) | (with_reducible refine (Below.heap_alloc _ _ _ (by first | omega | (simp; done) | (simp; omega))).trans ?_))
      · kernel_rfl
      refine ⟨.slice D x.hs.length dc, ?_, ?_, ?_⟩
      · simp
        first | rfl | exact ⟨HD0.out, rfl⟩
      · exact OwnE.mono (base := w.heap.size + 2) (by repeat (first | with_reducible exact OO.out | (with_reducible refine OwnE.setBelow ?_ (by first | (simp; done) | (simp; omega)) _) | with_reducible refine OwnE.alloc ?_ _ | with_reducible refine OwnE.drew ?_)) (by omega)
      · exact (by repeat (first | with_reducible exact Below.refl _ _ | with_reducible assumption | with_reducible refine Below.drew ?_ | with_reducible refine Below.alloc ?_ (by first | exact Nat.le_refl _ | omega | (simp; done) | (simp; omega)) _ | with_reducible refine Below.setCell ?_ (by first | exact Nat.le_refl _ | omega | (simp; done) | (simp; omega)) _ | (with_reducible refine ext_trans ?_ (by with_reducible assumption))))
  have hz1 : (0 : Int) < (x.d.size : Int) := by omega
  by_cases hn1 : (x.d.size : Int) < n
  · obtain rfl : m = x.d.size := by rw [← hm]; unfold takeN; rw [if_neg hn0, if_pos (by omega)]
    rw [show x.d.extract 0 x.d.size = x.d from by simp, show x.d.extract x.d.size x.d.size = ByteArray.empty from by simp]
    clear hm
    go_wp2_with (first | (go_at_call 37; refine (l1MinV _ _ (x.d.size) (by split <;> omega) _).mono ?_; rintro e' w' ⟨rfl, rfl⟩) | (go_at_call 29; refine (l1MaxV _ _ (x.d.size) (by split <;> omega) _).mono ?_; rintro e' w' ⟨rfl, rfl⟩))
    have hbs : Below w.heap.size w (w2.setCell ⟨w1.heap.size, 1, none⟩ (.string ByteArray.empty)) := (by repeat (first | with_reducible exact Below.refl _ _ | with_reducible assumption | with_reducible refine Below.drew ?_ | with_reducible refine Below.alloc ?_ (by first | exact Nat.le_refl _ | omega | (simp; done) | (simp; omega)) _ | with_reducible refine Below.setCell ?_ (by first | exact Nat.le_refl _ | omega | (simp; done) | (simp; omega)) _ | (with_reducible refine ext_trans ?_ (by with_reducible assumption))))
    have ra : (w2.setCell ⟨w1.heap.size, 1, none⟩ (.string ByteArray.empty)).heap[w.heap.size]? = some (.cells #[.int .i64 x.nx, .string x.d, .slice A x.hs.length c, .int .i64 x.fin, .bool x.dn] 24 (0, 0)) := (heap_setCell_other _ _ _ _ (by simp; omega)).trans Ra_2.out
    have rr : (w2.setCell ⟨w1.heap.size, 1, none⟩ (.string ByteArray.empty)).heap[w.heap.size + 1]? = some (.cells #[.int .i64 0, .string ⟨#[]⟩, .slice none 0 0, .int .i64 0, .bool false] 24 (0, 0)) := (heap_setCell_other _ _ _ _ (by simp; omega)).trans Rr_2.out
    have ro : (w2.setCell ⟨w1.heap.size, 1, none⟩ (.string ByteArray.empty)).heap[w1.heap.size]? = some (.cells #[.int .i64 x.nx, .string ByteArray.empty, .slice D x.hs.length dc, .int .i64 x.fin, .bool x.dn] 24 (0, 0)) := (heap_setCell_same _ _ 1 _ _ _ Ro_2.out).trans (by simp)
    have oo : OwnPiece (w2.setCell ⟨w1.heap.size, 1, none⟩ (.string ByteArray.empty)) (w.heap.size + 2) (.slice D x.hs.length dc) x.hs := OwnE.setOther Oo_2.out (fun h e => by obtain ⟨p, r⟩ := Bo.out.blk _ h e; first | omega | (simp at r; done) | (simp at r; omega) | (simp at p r; omega)) _
    have hz3 : w2.heap.size = (w2.setCell ⟨w1.heap.size, 1, none⟩ (.string ByteArray.empty)).heap.size := by simp
    clear r0_ra_2 f0_ra_2 r1_ra_2 f1_ra_2 r2_ra_2 f2_ra_2 r3_ra_2 f3_ra_2 r4_ra_2 f4_ra_2 r0_rr_2 f0_rr_2 r1_rr_2 f1_rr_2 r2_rr_2 f2_rr_2 r3_rr_2 f3_rr_2 r4_rr_2 f4_rr_2 r0_ro_2 f0_ro_2 r1_ro_2 f1_ro_2 r2_ro_2 f2_ro_2 r3_ro_2 f3_ro_2 r4_ro_2 f4_ro_2
    generalize (w2.setCell ⟨w1.heap.size, 1, none⟩ (.string ByteArray.empty)) = w9 at *
    have r0_ra := cell_of_row _ _ 0 _ _ _ ra
    have r1_ra := cell_of_row _ _ 1 _ _ _ ra
    have r2_ra := cell_of_row _ _ 2 _ _ _ ra
    have r3_ra := cell_of_row _ _ 3 _ _ _ ra
    have r4_ra := cell_of_row _ _ 4 _ _ _ ra
    have f0_ra := frozen_of_row _ _ 0 _ _ ra
    have f1_ra := frozen_of_row _ _ 1 _ _ ra
    have f2_ra := frozen_of_row _ _ 2 _ _ ra
    have f3_ra := frozen_of_row _ _ 3 _ _ ra
    have f4_ra := frozen_of_row _ _ 4 _ _ ra
    simp at r0_ra r1_ra r2_ra r3_ra r4_ra
    have r0_rr := cell_of_row _ _ 0 _ _ _ rr
    have r1_rr := cell_of_row _ _ 1 _ _ _ rr
    have r2_rr := cell_of_row _ _ 2 _ _ _ rr
    have r3_rr := cell_of_row _ _ 3 _ _ _ rr
    have r4_rr := cell_of_row _ _ 4 _ _ _ rr
    have f0_rr := frozen_of_row _ _ 0 _ _ rr
    have f1_rr := frozen_of_row _ _ 1 _ _ rr
    have f2_rr := frozen_of_row _ _ 2 _ _ rr
    have f3_rr := frozen_of_row _ _ 3 _ _ rr
    have f4_rr := frozen_of_row _ _ 4 _ _ rr
    simp at r0_rr r1_rr r2_rr r3_rr r4_rr
    have r0_ro := cell_of_row _ _ 0 _ _ _ ro
    have r1_ro := cell_of_row _ _ 1 _ _ _ ro
    have r2_ro := cell_of_row _ _ 2 _ _ _ ro
    have r3_ro := cell_of_row _ _ 3 _ _ _ ro
    have r4_ro := cell_of_row _ _ 4 _ _ _ ro
    have f0_ro := frozen_of_row _ _ 0 _ _ ro
    have f1_ro := frozen_of_row _ _ 1 _ _ ro
    have f2_ro := frozen_of_row _ _ 2 _ _ ro
    have f3_ro := frozen_of_row _ _ 3 _ _ ro
    have f4_ro := frozen_of_row _ _ 4 _ _ ro
    simp at r0_ro r1_ro r2_ro r3_ro r4_ro
    have RA := Lib.hid ra
    have RR := Lib.hid rr
    have OO := Lib.hid oo
    clear ra rr ro oo
    have hbd : Below w.heap.size w w9.drew := hbs.drew
    have RR2 : Hid (w9.drew.heap[w.heap.size + 1]? = _) := RR
    have OO2 := Lib.hid OO.out.drew
    have hz4 : w9.heap.size = w9.drew.heap.size := rfl
    have hm0 : (0 : Int) ≤ (x.d.size : Int) := by omega
    have hm1 : (x.d.size : Int) ≤ (x.d.size : Int) := by omega
    have hm2 : x.d.size ≤ x.d.size := by omega
    go_region_with (fail)
    all_goals
      go_wp2_with fail
      apply bodyPost_ret (results_row_tmp1 (P := Try.prog) (fn := Try.f21) rfl _ _ _ 24 _ (0, 0) _ rfl _ Try.underlying24 rfl _) rfl
      rotate_left 2
      · repeat (first | (with_reducible apply heap_setCell_same) | (with_reducible apply drew_row) | (with_reducible apply drewN_row) | (with_reducible exact RR.out) | (with_reducible refine (heap_setCell_other _ _ _ _ (by first | omega | (simp; done) | (simp; omega))).trans ?_) | (with_reducible refine (Below.heap_alloc _ _ _ (by first | omega | (simp; done) | (simp; omega))).trans ?_))
      · kernel_rfl
      refine ⟨.slice D x.hs.length dc, ?_, ?_, ?_⟩
      · simp
        first | rfl | exact ⟨HD0.out, rfl⟩
      · exact OwnE.mono (base := w.heap.size + 2) (by repeat (first | with_reducible exact OO.out | (with_reducible refine OwnE.setBelow ?_ (by first | (simp; done) | (simp; omega)) _) | with_reducible refine OwnE.alloc ?_ _ | with_reducible refine OwnE.drew ?_)) (by omega)
      · exact (by repeat (first | with_reducible exact Below.refl _ _ | with_reducible assumption | with_reducible refine Below.drew ?_ | with_reducible refine Below.alloc ?_ (by first | exact Nat.le_refl _ | omega | (simp; done) | (simp; omega)) _ | with_reducible refine Below.setCell ?_ (by first | exact Nat.le_refl _ | omega | (simp; done) | (simp; omega)) _ | (with_reducible refine ext_trans ?_ (by with_reducible assumption))))
  · obtain ⟨k, rfl⟩ := Int.eq_ofNat_of_zero_le (by omega : 0 ≤ n)
    obtain rfl : m = k := by rw [← hm]; unfold takeN; rw [if_neg hn0]; split <;> omega
    clear hm
    go_wp2_with (first | (go_at_call 37; refine (l1MinV _ _ (m) (by split <;> omega) _).mono ?_; rintro e' w' ⟨rfl, rfl⟩) | (go_at_call 29; refine (l1MaxV _ _ (m) (by split <;> omega) _).mono ?_; rintro e' w' ⟨rfl, rfl⟩))
    have hbs : Below w.heap.size w (w2.setCell ⟨w1.heap.size, 1, none⟩ (.string (x.d.extract m x.d.size))) := (by repeat (first | with_reducible exact Below.refl _ _ | with_reducible assumption | with_reducible refine Below.drew ?_ | with_reducible refine Below.alloc ?_ (by first | exact Nat.le_refl _ | omega | (simp; done) | (simp; omega)) _ | with_reducible refine Below.setCell ?_ (by first | exact Nat.le_refl _ | omega | (simp; done) | (simp; omega)) _ | (with_reducible refine ext_trans ?_ (by with_reducible assumption))))
    have ra : (w2.setCell ⟨w1.heap.size, 1, none⟩ (.string (x.d.extract m x.d.size))).heap[w.heap.size]? = some (.cells #[.int .i64 x.nx, .string x.d, .slice A x.hs.length c, .int .i64 x.fin, .bool x.dn] 24 (0, 0)) := (heap_setCell_other _ _ _ _ (by simp; omega)).trans Ra_2.out
    have rr : (w2.setCell ⟨w1.heap.size, 1, none⟩ (.string (x.d.extract m x.d.size))).heap[w.heap.size + 1]? = some (.cells #[.int .i64 0, .string ⟨#[]⟩, .slice none 0 0, .int .i64 0, .bool false] 24 (0, 0)) := (heap_setCell_other _ _ _ _ (by simp; omega)).trans Rr_2.out
    have ro : (w2.setCell ⟨w1.heap.size, 1, none⟩ (.string (x.d.extract m x.d.size))).heap[w1.heap.size]? = some (.cells #[.int .i64 x.nx, .string (x.d.extract m x.d.size), .slice D x.hs.length dc, .int .i64 x.fin, .bool x.dn] 24 (0, 0)) := (heap_setCell_same _ _ 1 _ _ _ Ro_2.out).trans (by simp)
    have oo : OwnPiece (w2.setCell ⟨w1.heap.size, 1, none⟩ (.string (x.d.extract m x.d.size))) (w.heap.size + 2) (.slice D x.hs.length dc) x.hs := OwnE.setOther Oo_2.out (fun h e => by obtain ⟨p, r⟩ := Bo.out.blk _ h e; first | omega | (simp at r; done) | (simp at r; omega) | (simp at p r; omega)) _
    have hz3 : w2.heap.size = (w2.setCell ⟨w1.heap.size, 1, none⟩ (.string (x.d.extract m x.d.size))).heap.size := by simp
    clear r0_ra_2 f0_ra_2 r1_ra_2 f1_ra_2 r2_ra_2 f2_ra_2 r3_ra_2 f3_ra_2 r4_ra_2 f4_ra_2 r0_rr_2 f0_rr_2 r1_rr_2 f1_rr_2 r2_rr_2 f2_rr_2 r3_rr_2 f3_rr_2 r4_rr_2 f4_rr_2 r0_ro_2 f0_ro_2 r1_ro_2 f1_ro_2 r2_ro_2 f2_ro_2 r3_ro_2 f3_ro_2 r4_ro_2 f4_ro_2
    generalize (w2.setCell ⟨w1.heap.size, 1, none⟩ (.string (x.d.extract m x.d.size))) = w9 at *
    have r0_ra := cell_of_row _ _ 0 _ _ _ ra
    have r1_ra := cell_of_row _ _ 1 _ _ _ ra
    have r2_ra := cell_of_row _ _ 2 _ _ _ ra
    have r3_ra := cell_of_row _ _ 3 _ _ _ ra
    have r4_ra := cell_of_row _ _ 4 _ _ _ ra
    have f0_ra := frozen_of_row _ _ 0 _ _ ra
    have f1_ra := frozen_of_row _ _ 1 _ _ ra
    have f2_ra := frozen_of_row _ _ 2 _ _ ra
    have f3_ra := frozen_of_row _ _ 3 _ _ ra
    have f4_ra := frozen_of_row _ _ 4 _ _ ra
    simp at r0_ra r1_ra r2_ra r3_ra r4_ra
    have r0_rr := cell_of_row _ _ 0 _ _ _ rr
    have r1_rr := cell_of_row _ _ 1 _ _ _ rr
    have r2_rr := cell_of_row _ _ 2 _ _ _ rr
    have r3_rr := cell_of_row _ _ 3 _ _ _ rr
    have r4_rr := cell_of_row _ _ 4 _ _ _ rr
    have f0_rr := frozen_of_row _ _ 0 _ _ rr
    have f1_rr := frozen_of_row _ _ 1 _ _ rr
    have f2_rr := frozen_of_row _ _ 2 _ _ rr
    have f3_rr := frozen_of_row _ _ 3 _ _ rr
    have f4_rr := frozen_of_row _ _ 4 _ _ rr
    simp at r0_rr r1_rr r2_rr r3_rr r4_rr
    have r0_ro := cell_of_row _ _ 0 _ _ _ ro
    have r1_ro := cell_of_row _ _ 1 _ _ _ ro
    have r2_ro := cell_of_row _ _ 2 _ _ _ ro
    have r3_ro := cell_of_row _ _ 3 _ _ _ ro
    have r4_ro := cell_of_row _ _ 4 _ _ _ ro
    have f0_ro := frozen_of_row _ _ 0 _ _ ro
    have f1_ro := frozen_of_row _ _ 1 _ _ ro
    have f2_ro := frozen_of_row _ _ 2 _ _ ro
    have f3_ro := frozen_of_row _ _ 3 _ _ ro
    have f4_ro := frozen_of_row _ _ 4 _ _ ro
    simp at r0_ro r1_ro r2_ro r3_ro r4_ro
    have RA := Lib.hid ra
    have RR := Lib.hid rr
    have OO := Lib.hid oo
    clear ra rr ro oo
    have hbd : Below w.heap.size w w9.drew := hbs.drew
    have RR2 : Hid (w9.drew.heap[w.heap.size + 1]? = _) := RR
    have OO2 := Lib.hid OO.out.drew
    have hz4 : w9.heap.size = w9.drew.heap.size := rfl
    have hm0 : (0 : Int) ≤ (m : Int) := by omega
    have hm1 : (m : Int) ≤ (x.d.size : Int) := by omega
    have hm2 : m ≤ x.d.size := by omega
    go_region_with (fail)
    all_goals
      go_wp2_with fail
      apply bodyPost_ret (results_row_tmp1 (P := Try.prog) (fn := Try.f21) rfl _ _ _ 24 _ (0, 0) _ rfl _ Try.underlying24 rfl _) rfl
      rotate_left 2
      · repeat (first | (with_reducible apply heap_setCell_same) | (with_reducible apply drew_row) | (with_reducible apply drewN_row) | (with_reducible exact RR.out) | (with_reducible refine (heap_setCell_other _ _ _ _ (by first | omega | (simp; done) | (simp; omega))).trans ?_) | (with_reducible refine (Below.heap_alloc _ _ _ (by first | omega | (simp; done) | (simp; omega))).trans ?_))
      · kernel_rfl
      refine ⟨.slice D x.hs.length dc, ?_, ?_, ?_⟩
      · simp
        first | rfl | exact ⟨HD0.out, rfl⟩
      · exact OwnE.mono (base := w.heap.size + 2) (by repeat (first | with_reducible exact OO.out | (with_reducible refine OwnE.setBelow ?_ (by first | (simp; done) | (simp; omega)) _) | with_reducible refine OwnE.alloc ?_ _ | with_reducible refine OwnE.drew ?_)) (by omega)
      · exact (by repeat (first | with_reducible exact Below.refl _ _ | with_reducible assumption | with_reducible refine Below.drew ?_ | with_reducible refine Below.alloc ?_ (by first | exact Nat.le_refl _ | omega | (simp; done) | (simp; omega)) _ | with_reducible refine Below.setCell ?_ (by first | exact Nat.le_refl _ | omega | (simp; done) | (simp; omega)) _ | (with_reducible refine ext_trans ?_ (by with_reducible assumption))))

end Go.Proofs.Ytgejnppfodpiiaa
