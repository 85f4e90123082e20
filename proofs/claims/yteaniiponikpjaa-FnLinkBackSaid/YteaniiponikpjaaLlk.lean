/-
  The draws of links: l16Link, l16Bent, DrawLinkIn, DrawLinkOut.
-/
import Derived.Test.YteaniiponikpjaaLrw
import Derived.Test.YteaniiponikpjaaLks
namespace Go.Proofs.Yteaniiponikpjaa
set_option maxRecDepth 100000
open Go.RowKit

theorem own_set {w : World} {base : Nat} {e : TypeId} {m : Nat} {v : Value} {n : Nat} {xs : List Value} (h : w.ownsRow base e m v n xs) {q i : Nat} (u : Value) (hne : ∀ k, v.ownBlock = some k → k ≠ q) : (w.setCell ⟨q, i, none⟩ u).ownsRow base e m v n xs :=
  h.kept (only_set (World.grownBy.refl _ _) i u) (by
    cases hv : v.ownBlock with
    | none => exact .inl rfl
    | some k => exact .inr (fun e => hne k hv (by injection e)))
/-- A link that was drawn. -/
def DrewLink (w : World) (B g : Nat) (e : Ending) (w' : World) : Prop :=
  ∃ (m q : Int) (A : Option Addr) (l : List REntry) (c : Nat), e = .returned (.agg #[.int .i64 m, .int .i64 q, .slice A l.length c]) ∧ GoodE l ∧ w'.ownsRow w.heap.size 71 3 (.slice A l.length c) l.length (cellsOf eEntry l) ∧ Cur w' B g ∧ w.grownBy w' (some g)
set_option maxHeartbeats 4000000 in
theorem l16Link_any {w : World} {B g : Nat} (hcur : Cur w B g) :
    Calls Try.prog 96 #[.pointer (some ⟨g, 0, none⟩)] w (DrewLink w B g) := by
  have hlt := hcur.lt
  have hlow := hcur.low
  go_enter Try.func96, Try.ntmps96
  go_wp2_with fail
  refine (l15Cache_any (B := B) (by repeat (first | with_reducible assumption | with_reducible refine Cur.alloc ?_ _ | with_reducible refine Cur.drew ?_ | with_reducible refine Cur.setOther ?_ (by first | omega | (simp; done) | (simp; omega)) (by first | omega | (simp; done) | (simp; omega)) _))).mono ?_
  rintro e w1 ⟨v1, l, rfl, hG, hO1, hc1, hg1⟩
  obtain ⟨A1, c1, rfl⟩ := own_formN hO1
  have hz1 := hg1.size
  simp at hz1
  have HL := Lib.hid hO1.lt
  have O1 : Hid (w1.ownsRow w.heap.size 71 3 (.slice A1 l.length c1) l.length (cellsOf eEntry l)) := Lib.hid (own_mono hO1 (by simp))
  have hr : w1.heap[w.heap.size]? = some (.cells #[.int .i64 0, .int .i64 0, .slice none 0 0] 37 (0, 0)) := (grow hg1 (by simp) (by omega)).trans (heap_alloc_new _ _)
  have HR := Lib.hid hr
  have r0_hr := cell_of_row _ _ 0 _ _ _ hr
  have r1_hr := cell_of_row _ _ 1 _ _ _ hr
  have r2_hr := cell_of_row _ _ 2 _ _ _ hr
  have f0_hr := frozen_of_row _ _ 0 _ _ hr
  have f1_hr := frozen_of_row _ _ 1 _ _ hr
  have f2_hr := frozen_of_row _ _ 2 _ _ hr
  simp at r0_hr r1_hr r2_hr
  have hgw : w.grownBy w1 (some g) := (by repeat (first | with_reducible assumption | with_reducible exact World.grownBy.refl _ _ | with_reducible refine only_alloc ?_ _ | with_reducible refine only_drew ?_ | with_reducible refine only_drewN ?_ _ | with_reducible refine only_setNew ?_ (by first | omega | (simp; done) | (simp; omega)) _ | (with_reducible refine only_trans ?_ (by with_reducible assumption))))
  have hne : ∀ k, (Value.slice A1 l.length c1).ownBlock = some k → k ≠ w.heap.size := fun k hk => by
    have := (HL.out k hk).1
    simp at this
    omega
  have HN := Lib.hid hne
  have hng : ¬ w.heap.size = g := by omega
  clear hr hg1 hO1 hne HL
  go_wp2_with fail
  apply bodyPost_ret (results_cell_row (P := Try.prog) (fn := Try.f96) rfl _ _ _ 37 _ (0, 0) _ rfl _ Try.underlying37 rfl _) rfl
  rotate_left 2
  · repeat (first | (with_reducible apply heap_setCell_same) | (with_reducible apply drew_row) | (with_reducible apply drewN_row) | (with_reducible exact HR.out) | (with_reducible refine (heap_setCell_other _ _ _ _ (by first | omega | (simp; done) | (simp; omega))).trans ?_) | (with_reducible refine (Below.heap_alloc _ _ _ (by first | omega | (simp; done) | (simp; omega))).trans ?_))
  · kernel_rfl
  exact ⟨11, 167772161, A1, l, c1, by first | rfl | (simp; done) | (simp; rfl), hG.e, (by repeat (first | exact O1.out | refine own_set ?_ _ HN.out)), (by repeat (first | with_reducible assumption | with_reducible refine Cur.alloc ?_ _ | with_reducible refine Cur.drew ?_ | with_reducible refine Cur.setOther ?_ (by first | omega | (simp; done) | (simp; omega)) (by first | omega | (simp; done) | (simp; omega)) _)), (by repeat (first | with_reducible assumption | with_reducible exact World.grownBy.refl _ _ | with_reducible refine only_alloc ?_ _ | with_reducible refine only_drew ?_ | with_reducible refine only_drewN ?_ _ | with_reducible refine only_setNew ?_ (by first | omega | (simp; done) | (simp; omega)) _ | (with_reducible refine only_trans ?_ (by with_reducible assumption))))⟩
set_option maxHeartbeats 8000000 in
set_option linter.unusedVariables false in
theorem l16Bent_any {w : World} {B g : Nat} (hcur : Cur w B g) :
    Calls Try.prog 68 #[.pointer (some ⟨g, 0, none⟩)] w (DrewLink w B g) := by
  have hlt := hcur.lt
  have hlow := hcur.low
  go_enter Try.func68, Try.ntmps68
  go_wp2_with fail
  refine (l16Link_any (B := B) (by repeat (first | with_reducible assumption | with_reducible refine Cur.alloc ?_ _ | with_reducible refine Cur.drew ?_ | with_reducible refine Cur.setOther ?_ (by first | omega | (simp; done) | (simp; omega)) (by first | omega | (simp; done) | (simp; omega)) _))).mono ?_
  rintro e w1 ⟨m, q, A1, l, c1, rfl, hG, hO1, hc1, ho1⟩
  have hz1 := ho1.size
  simp at hz1
  have hlt1 := hc1.lt
  have HL := Lib.hid hO1.lt
  have O1 := Lib.hid hO1
  clear hO1
  go_wp2_with fail
  refine (l1Below_any (B := B) (by repeat (first | with_reducible assumption | with_reducible refine Cur.alloc ?_ _ | with_reducible refine Cur.drew ?_ | with_reducible refine Cur.setOther ?_ (by first | omega | (simp; done) | (simp; omega)) (by first | omega | (simp; done) | (simp; omega)) _)) 10 (by omega) (by omega)).mono ?_
  rintro e w2 ⟨y, rfl, ⟨hy1, hy2⟩, hc2, ho2⟩
  have hz2 := ho2.size
  simp at hz2
  have hlt2 := hc2.lt
  have hg2 : w.grownBy w2 (some g) := only_trans (only_alloc (only_trans (by repeat (first | with_reducible assumption | with_reducible exact World.grownBy.refl _ _ | with_reducible refine only_alloc ?_ _ | with_reducible refine only_drew ?_ | with_reducible refine only_drewN ?_ _ | with_reducible refine only_setNew ?_ (by first | omega | (simp; done) | (simp; omega)) _ | (with_reducible refine only_trans ?_ (by with_reducible assumption)))) ho1) _) ho2
  have HR2 : Hid (w2.heap[w.heap.size]? = some (.cells #[.int .i64 0, .int .i64 0, .slice none 0 0] 37 (0, 0))) := Lib.hid ((grow ho2 (by simp; omega) (by omega)).trans ((Below.heap_alloc _ _ _ (by omega)).trans ((grow ho1 (by simp) (by omega)).trans (heap_alloc_new _ _))))
  have HQ2 : Hid (w2.heap[w1.heap.size]? = some (.cells #[.int .i64 m, .int .i64 q, .slice A1 l.length c1] 37 (0, 0))) := Lib.hid ((grow ho2 (by simp) (by omega)).trans (heap_alloc_new _ _))
  have O2 : Hid (w2.ownsRow (w.heap.size + 1) 71 3 (.slice A1 l.length c1) l.length (cellsOf eEntry l)) := Lib.hid (own_mono (own_keepg (own_below O1.out ((Below.refl _ _).alloc (Nat.le_refl _) _)) ho2 (by simp; omega)) (by simp))
  have HN : Hid (∀ k, (Value.slice A1 l.length c1).ownBlock = some k → k ≠ w.heap.size ∧ k ≠ w1.heap.size) := Lib.hid fun k hk => by
    have h1 := (HL.out k hk).1
    have h2 := (HL.out k hk).2
    simp at h1
    omega
  have hlq2 : w1.heap.size < w2.heap.size := by omega
  have hnr : ¬ w1.heap.size = w.heap.size := by omega
  have hnr2 : ¬ w.heap.size = w1.heap.size := by omega
  have hng : ¬ w1.heap.size = g := by omega
  have hng2 : ¬ w.heap.size = g := by omega
  have hBq : B ≤ w1.heap.size := by omega
  clear ho1 ho2 hcur hc1 HL O1
  by_cases h0 : y = 0
  · subst h0
    go_wp2_with fail
    refine (l2Word_any (B := B) hc2).mono ?_
    rintro e w3 ⟨x3, rfl, hi3, hc3, ho3⟩
    have hz3 := ho3.size
    have hg3 : w.grownBy w3 (some g) := (by repeat (first | with_reducible assumption | with_reducible exact World.grownBy.refl _ _ | with_reducible refine only_alloc ?_ _ | with_reducible refine only_drew ?_ | with_reducible refine only_drewN ?_ _ | with_reducible refine only_setNew ?_ (by first | omega | (simp; done) | (simp; omega)) _ | (with_reducible refine only_trans ?_ (by with_reducible assumption))))
    have O3 := Lib.hid (own_keepg O2.out ho3 (by omega))
    have hqr : w3.heap[w1.heap.size]? = some (.cells #[.int .i64 m, .int .i64 q, .slice A1 l.length c1] 37 (0, 0)) := (grow ho3 (by omega) (by omega)).trans HQ2.out
    have hrr : w3.heap[w.heap.size]? = some (.cells #[.int .i64 0, .int .i64 0, .slice none 0 0] 37 (0, 0)) := (grow ho3 (by omega) (by omega)).trans HR2.out
    have HRF := Lib.hid hrr
    have r0_hqr := cell_of_row _ _ 0 _ _ _ hqr
    have r1_hqr := cell_of_row _ _ 1 _ _ _ hqr
    have r2_hqr := cell_of_row _ _ 2 _ _ _ hqr
    have f0_hqr := frozen_of_row _ _ 0 _ _ hqr
    have f1_hqr := frozen_of_row _ _ 1 _ _ hqr
    have f2_hqr := frozen_of_row _ _ 2 _ _ hqr
    simp at r0_hqr r1_hqr r2_hqr
    have r0_hrr := cell_of_row _ _ 0 _ _ _ hrr
    have r1_hrr := cell_of_row _ _ 1 _ _ _ hrr
    have r2_hrr := cell_of_row _ _ 2 _ _ _ hrr
    have f0_hrr := frozen_of_row _ _ 0 _ _ hrr
    have f1_hrr := frozen_of_row _ _ 1 _ _ hrr
    have f2_hrr := frozen_of_row _ _ 2 _ _ hrr
    simp at r0_hrr r1_hrr r2_hrr
    clear hqr hrr
    go_wp2_with fail
    apply bodyPost_ret (results_cell_row (P := Try.prog) (fn := Try.f68) rfl _ _ _ 37 _ (0, 0) _ rfl _ Try.underlying37 rfl _) rfl
    rotate_left 2
    · repeat (first | (with_reducible apply heap_setCell_same) | (with_reducible apply drew_row) | (with_reducible apply drewN_row) | (with_reducible exact HRF.out) | (with_reducible refine (heap_setCell_other _ _ _ _ (by first | omega | (simp; done) | (simp; omega))).trans ?_) | (with_reducible refine (Below.heap_alloc _ _ _ (by first | omega | (simp; done) | (simp; omega))).trans ?_))
    · kernel_rfl
    exact ⟨x3, q, A1, l, c1, by first | rfl | (simp; done) | (simp; rfl), hG, (by repeat (first | exact own_mono O3.out (by omega) | refine own_set ?_ _ (fun k hk => by have := HN.out k hk; omega))), (by repeat (first | with_reducible assumption | with_reducible refine Cur.alloc ?_ _ | with_reducible refine Cur.drew ?_ | with_reducible refine Cur.setOther ?_ (by first | omega | (simp; done) | (simp; omega)) (by first | omega | (simp; done) | (simp; omega)) _)), (by repeat (first | with_reducible assumption | with_reducible exact World.grownBy.refl _ _ | with_reducible refine only_alloc ?_ _ | with_reducible refine only_drew ?_ | with_reducible refine only_drewN ?_ _ | with_reducible refine only_setNew ?_ (by first | omega | (simp; done) | (simp; omega)) _ | (with_reducible refine only_trans ?_ (by with_reducible assumption))))⟩
  have h0 : (y == 0) = false := by simpa using h0
  by_cases h1 : y = 1
  · subst h1
    go_wp2_with fail
    refine (l2Word_any (B := B) hc2).mono ?_
    rintro e w3 ⟨x3, rfl, hi3, hc3, ho3⟩
    have hz3 := ho3.size
    have hg3 : w.grownBy w3 (some g) := (by repeat (first | with_reducible assumption | with_reducible exact World.grownBy.refl _ _ | with_reducible refine only_alloc ?_ _ | with_reducible refine only_drew ?_ | with_reducible refine only_drewN ?_ _ | with_reducible refine only_setNew ?_ (by first | omega | (simp; done) | (simp; omega)) _ | (with_reducible refine only_trans ?_ (by with_reducible assumption))))
    have O3 := Lib.hid (own_keepg O2.out ho3 (by omega))
    have hqr : w3.heap[w1.heap.size]? = some (.cells #[.int .i64 m, .int .i64 q, .slice A1 l.length c1] 37 (0, 0)) := (grow ho3 (by omega) (by omega)).trans HQ2.out
    have hrr : w3.heap[w.heap.size]? = some (.cells #[.int .i64 0, .int .i64 0, .slice none 0 0] 37 (0, 0)) := (grow ho3 (by omega) (by omega)).trans HR2.out
    have HRF := Lib.hid hrr
    have r0_hqr := cell_of_row _ _ 0 _ _ _ hqr
    have r1_hqr := cell_of_row _ _ 1 _ _ _ hqr
    have r2_hqr := cell_of_row _ _ 2 _ _ _ hqr
    have f0_hqr := frozen_of_row _ _ 0 _ _ hqr
    have f1_hqr := frozen_of_row _ _ 1 _ _ hqr
    have f2_hqr := frozen_of_row _ _ 2 _ _ hqr
    simp at r0_hqr r1_hqr r2_hqr
    have r0_hrr := cell_of_row _ _ 0 _ _ _ hrr
    have r1_hrr := cell_of_row _ _ 1 _ _ _ hrr
    have r2_hrr := cell_of_row _ _ 2 _ _ _ hrr
    have f0_hrr := frozen_of_row _ _ 0 _ _ hrr
    have f1_hrr := frozen_of_row _ _ 1 _ _ hrr
    have f2_hrr := frozen_of_row _ _ 2 _ _ hrr
    simp at r0_hrr r1_hrr r2_hrr
    clear hqr hrr
    go_wp2_with fail
    apply bodyPost_ret (results_cell_row (P := Try.prog) (fn := Try.f68) rfl _ _ _ 37 _ (0, 0) _ rfl _ Try.underlying37 rfl _) rfl
    rotate_left 2
    · repeat (first | (with_reducible apply heap_setCell_same) | (with_reducible apply drew_row) | (with_reducible apply drewN_row) | (with_reducible exact HRF.out) | (with_reducible refine (heap_setCell_other _ _ _ _ (by first | omega | (simp; done) | (simp; omega))).trans ?_) | (with_reducible refine (Below.heap_alloc _ _ _ (by first | omega | (simp; done) | (simp; omega))).trans ?_))
    · kernel_rfl
    exact ⟨m, x3, A1, l, c1, by first | rfl | (simp; done) | (simp; rfl), hG, (by repeat (first | exact own_mono O3.out (by omega) | refine own_set ?_ _ (fun k hk => by have := HN.out k hk; omega))), (by repeat (first | with_reducible assumption | with_reducible refine Cur.alloc ?_ _ | with_reducible refine Cur.drew ?_ | with_reducible refine Cur.setOther ?_ (by first | omega | (simp; done) | (simp; omega)) (by first | omega | (simp; done) | (simp; omega)) _)), (by repeat (first | with_reducible assumption | with_reducible exact World.grownBy.refl _ _ | with_reducible refine only_alloc ?_ _ | with_reducible refine only_drew ?_ | with_reducible refine only_drewN ?_ _ | with_reducible refine only_setNew ?_ (by first | omega | (simp; done) | (simp; omega)) _ | (with_reducible refine only_trans ?_ (by with_reducible assumption))))⟩
  have h1 : (y == 1) = false := by simpa using h1
  by_cases h2 : y = 2
  · subst h2
    go_wp2_with fail
    refine (l15Bent_any (B := B) hc2).mono ?_
    rintro e w3 ⟨v3, l3, rfl, hG3, hO3, hc3, ho3⟩
    obtain ⟨A3, c3, rfl⟩ := own_formN hO3
    have hz3 := ho3.size
    have hg3 : w.grownBy w3 (some g) := (by repeat (first | with_reducible assumption | with_reducible exact World.grownBy.refl _ _ | with_reducible refine only_alloc ?_ _ | with_reducible refine only_drew ?_ | with_reducible refine only_drewN ?_ _ | with_reducible refine only_setNew ?_ (by first | omega | (simp; done) | (simp; omega)) _ | (with_reducible refine only_trans ?_ (by with_reducible assumption))))
    have HN3 : Hid (∀ k, (Value.slice A3 l3.length c3).ownBlock = some k → k ≠ w.heap.size ∧ k ≠ w1.heap.size) := Lib.hid fun k hk => by
      have h1 := (hO3.lt k hk).1
      omega
    have O3 := Lib.hid hO3
    clear hO3
    have hqr : w3.heap[w1.heap.size]? = some (.cells #[.int .i64 m, .int .i64 q, .slice A1 l.length c1] 37 (0, 0)) := (grow ho3 (by omega) (by omega)).trans HQ2.out
    have hrr : w3.heap[w.heap.size]? = some (.cells #[.int .i64 0, .int .i64 0, .slice none 0 0] 37 (0, 0)) := (grow ho3 (by omega) (by omega)).trans HR2.out
    have HRF := Lib.hid hrr
    have r0_hqr := cell_of_row _ _ 0 _ _ _ hqr
    have r1_hqr := cell_of_row _ _ 1 _ _ _ hqr
    have r2_hqr := cell_of_row _ _ 2 _ _ _ hqr
    have f0_hqr := frozen_of_row _ _ 0 _ _ hqr
    have f1_hqr := frozen_of_row _ _ 1 _ _ hqr
    have f2_hqr := frozen_of_row _ _ 2 _ _ hqr
    simp at r0_hqr r1_hqr r2_hqr
    have r0_hrr := cell_of_row _ _ 0 _ _ _ hrr
    have r1_hrr := cell_of_row _ _ 1 _ _ _ hrr
    have r2_hrr := cell_of_row _ _ 2 _ _ _ hrr
    have f0_hrr := frozen_of_row _ _ 0 _ _ hrr
    have f1_hrr := frozen_of_row _ _ 1 _ _ hrr
    have f2_hrr := frozen_of_row _ _ 2 _ _ hrr
    simp at r0_hrr r1_hrr r2_hrr
    clear hqr hrr
    go_wp2_with fail
    apply bodyPost_ret (results_cell_row (P := Try.prog) (fn := Try.f68) rfl _ _ _ 37 _ (0, 0) _ rfl _ Try.underlying37 rfl _) rfl
    rotate_left 2
    · repeat (first | (with_reducible apply heap_setCell_same) | (with_reducible apply drew_row) | (with_reducible apply drewN_row) | (with_reducible exact HRF.out) | (with_reducible refine (heap_setCell_other _ _ _ _ (by first | omega | (simp; done) | (simp; omega))).trans ?_) | (with_reducible refine (Below.heap_alloc _ _ _ (by first | omega | (simp; done) | (simp; omega))).trans ?_))
    · kernel_rfl
    exact ⟨m, q, A3, l3, c3, by first | rfl | (simp; done) | (simp; rfl), hG3, (by repeat (first | exact own_mono O3.out (by omega) | refine own_set ?_ _ (fun k hk => by have := HN3.out k hk; omega))), (by repeat (first | with_reducible assumption | with_reducible refine Cur.alloc ?_ _ | with_reducible refine Cur.drew ?_ | with_reducible refine Cur.setOther ?_ (by first | omega | (simp; done) | (simp; omega)) (by first | omega | (simp; done) | (simp; omega)) _)), (by repeat (first | with_reducible assumption | with_reducible exact World.grownBy.refl _ _ | with_reducible refine only_alloc ?_ _ | with_reducible refine only_drew ?_ | with_reducible refine only_drewN ?_ _ | with_reducible refine only_setNew ?_ (by first | omega | (simp; done) | (simp; omega)) _ | (with_reducible refine only_trans ?_ (by with_reducible assumption))))⟩
  have h2 : (y == 2) = false := by simpa using h2
  by_cases h3 : y = 3
  · subst h3
    have hqr : w2.heap[w1.heap.size]? = some (.cells #[.int .i64 m, .int .i64 q, .slice A1 l.length c1] 37 (0, 0)) := HQ2.out
    have hrr : w2.heap[w.heap.size]? = some (.cells #[.int .i64 0, .int .i64 0, .slice none 0 0] 37 (0, 0)) := HR2.out
    have HRF := Lib.hid hrr
    have r0_hqr := cell_of_row _ _ 0 _ _ _ hqr
    have r1_hqr := cell_of_row _ _ 1 _ _ _ hqr
    have r2_hqr := cell_of_row _ _ 2 _ _ _ hqr
    have f0_hqr := frozen_of_row _ _ 0 _ _ hqr
    have f1_hqr := frozen_of_row _ _ 1 _ _ hqr
    have f2_hqr := frozen_of_row _ _ 2 _ _ hqr
    simp at r0_hqr r1_hqr r2_hqr
    have r0_hrr := cell_of_row _ _ 0 _ _ _ hrr
    have r1_hrr := cell_of_row _ _ 1 _ _ _ hrr
    have r2_hrr := cell_of_row _ _ 2 _ _ _ hrr
    have f0_hrr := frozen_of_row _ _ 0 _ _ hrr
    have f1_hrr := frozen_of_row _ _ 1 _ _ hrr
    have f2_hrr := frozen_of_row _ _ 2 _ _ hrr
    simp at r0_hrr r1_hrr r2_hrr
    clear hqr hrr
    go_wp2_with fail
    apply bodyPost_ret (results_cell_row (P := Try.prog) (fn := Try.f68) rfl _ _ _ 37 _ (0, 0) _ rfl _ Try.underlying37 rfl _) rfl
    rotate_left 2
    · repeat (first | (with_reducible apply heap_setCell_same) | (with_reducible apply drew_row) | (with_reducible apply drewN_row) | (with_reducible exact HRF.out) | (with_reducible refine (heap_setCell_other _ _ _ _ (by first | omega | (simp; done) | (simp; omega))).trans ?_) | (with_reducible refine (Below.heap_alloc _ _ _ (by first | omega | (simp; done) | (simp; omega))).trans ?_))
    · kernel_rfl
    exact ⟨281474976710655, q, A1, l, c1, by first | rfl | (simp; done) | (simp; rfl), hG, (by repeat (first | exact own_mono O2.out (by omega) | refine own_set ?_ _ (fun k hk => by have := HN.out k hk; omega))), (by repeat (first | with_reducible assumption | with_reducible refine Cur.alloc ?_ _ | with_reducible refine Cur.drew ?_ | with_reducible refine Cur.setOther ?_ (by first | omega | (simp; done) | (simp; omega)) (by first | omega | (simp; done) | (simp; omega)) _)), (by repeat (first | with_reducible assumption | with_reducible exact World.grownBy.refl _ _ | with_reducible refine only_alloc ?_ _ | with_reducible refine only_drew ?_ | with_reducible refine only_drewN ?_ _ | with_reducible refine only_setNew ?_ (by first | omega | (simp; done) | (simp; omega)) _ | (with_reducible refine only_trans ?_ (by with_reducible assumption))))⟩
  have h3 : (y == 3) = false := by simpa using h3
  have hqr : w2.heap[w1.heap.size]? = some (.cells #[.int .i64 m, .int .i64 q, .slice A1 l.length c1] 37 (0, 0)) := HQ2.out
  have hrr : w2.heap[w.heap.size]? = some (.cells #[.int .i64 0, .int .i64 0, .slice none 0 0] 37 (0, 0)) := HR2.out
  have HRF := Lib.hid hrr
  have r0_hqr := cell_of_row _ _ 0 _ _ _ hqr
  have r1_hqr := cell_of_row _ _ 1 _ _ _ hqr
  have r2_hqr := cell_of_row _ _ 2 _ _ _ hqr
  have f0_hqr := frozen_of_row _ _ 0 _ _ hqr
  have f1_hqr := frozen_of_row _ _ 1 _ _ hqr
  have f2_hqr := frozen_of_row _ _ 2 _ _ hqr
  simp at r0_hqr r1_hqr r2_hqr
  have r0_hrr := cell_of_row _ _ 0 _ _ _ hrr
  have r1_hrr := cell_of_row _ _ 1 _ _ _ hrr
  have r2_hrr := cell_of_row _ _ 2 _ _ _ hrr
  have f0_hrr := frozen_of_row _ _ 0 _ _ hrr
  have f1_hrr := frozen_of_row _ _ 1 _ _ hrr
  have f2_hrr := frozen_of_row _ _ 2 _ _ hrr
  simp at r0_hrr r1_hrr r2_hrr
  clear hqr hrr
  go_wp2_with fail
  apply bodyPost_ret (results_cell_row (P := Try.prog) (fn := Try.f68) rfl _ _ _ 37 _ (0, 0) _ rfl _ Try.underlying37 rfl _) rfl
  rotate_left 2
  · repeat (first | (with_reducible apply heap_setCell_same) | (with_reducible apply drew_row) | (with_reducible apply drewN_row) | (with_reducible exact HRF.out) | (with_reducible refine (heap_setCell_other _ _ _ _ (by first | omega | (simp; done) | (simp; omega))).trans ?_) | (with_reducible refine (Below.heap_alloc _ _ _ (by first | omega | (simp; done) | (simp; omega))).trans ?_))
  · kernel_rfl
  exact ⟨m, q, A1, l, c1, by first | rfl | (simp; done) | (simp; rfl), hG, (by repeat (first | exact own_mono O2.out (by omega) | refine own_set ?_ _ (fun k hk => by have := HN.out k hk; omega))), (by repeat (first | with_reducible assumption | with_reducible refine Cur.alloc ?_ _ | with_reducible refine Cur.drew ?_ | with_reducible refine Cur.setOther ?_ (by first | omega | (simp; done) | (simp; omega)) (by first | omega | (simp; done) | (simp; omega)) _)), (by repeat (first | with_reducible assumption | with_reducible exact World.grownBy.refl _ _ | with_reducible refine only_alloc ?_ _ | with_reducible refine only_drew ?_ | with_reducible refine only_drewN ?_ _ | with_reducible refine only_setNew ?_ (by first | omega | (simp; done) | (simp; omega)) _ | (with_reducible refine only_trans ?_ (by with_reducible assumption))))⟩
/-- A link and a text, drawn. -/
def DrawnLin (w : World) (e : Ending) (w' : World) : Prop :=
  ∃ (m q : Int) (A : Option Addr) (l : List REntry) (c : Nat) (s : ByteArray), e = .returned (.tuple #[.agg #[.int .i64 m, .int .i64 q, .slice A l.length c], .string s]) ∧ GoodE l ∧ s.size ≤ 1600 ∧ w'.ownsRow w.heap.size 71 3 (.slice A l.length c) l.length (cellsOf eEntry l) ∧ Below w.heap.size w w'
set_option maxHeartbeats 8000000 in
set_option linter.unusedVariables false in
theorem DrawLinkIn_any {w : World} {A : Option Addr} {n c : Nat} (hn : n ≤ maxLen) (hb : Byts w w.heap.size A n) :
    Calls Try.prog 47 #[.slice A n c] w (DrawnLin w) := by
  go_enter Try.func47, Try.ntmps47
  go_wp2_with fail
  refine (l1New_any hn (hb.below (by repeat (first | with_reducible exact Below.refl _ _ | with_reducible assumption | with_reducible refine Below.drew ?_ | with_reducible refine Below.alloc ?_ (by first | exact Nat.le_refl _ | omega | (simp; done) | (simp; omega)) _ | with_reducible refine Below.setCell ?_ (by first | exact Nat.le_refl _ | omega | (simp; done) | (simp; omega)) _ | (with_reducible refine ext_trans ?_ (by with_reducible assumption)))))).mono ?_
  rintro e w1 ⟨g, rfl, hc1, hb1⟩
  have hlt1 := hc1.lt
  have hz1 := hb1.size
  have hlow := hc1.low
  simp at hz1 hlow hc1
  go_wp2_with fail
  refine (l16Bent_any hc1).mono ?_
  rintro e w2 ⟨m, q, A1, l, c1, rfl, hG, hO2, hc2, ho2⟩
  have hz2 := ho2.size
  have O2 := Lib.hid hO2
  clear hO2
  go_wp2_with fail
  refine (l16Raw_any hc2).mono ?_
  rintro e w3 ⟨S, rfl, hSz, hc3, ho3⟩
  have hz3 := ho3.size
  have O3 := Lib.hid (own_keepg O2.out ho3 hlt1)
  have HN : Hid (∀ k, (Value.slice A1 l.length c1).ownBlock = some k → k ≠ w.heap.size) := Lib.hid fun k hk => by
    have h1 := (O3.out.lt k hk).1
    omega
  have hr : w3.heap[w.heap.size]? = some (.cells #[.int .i64 0, .int .i64 0, .slice none 0 0] 37 (0, 0)) := (grow ho3 (by omega) (by omega)).trans ((grow ho2 (by omega) (by omega)).trans ((hb1.block _ (by simp)).trans (heap_alloc_new _ _)))
  have hbw : Below w.heap.size w w3 := ext_trans ((Below.refl _ _).alloc (Nat.le_refl _) _) (hb1.trans (only_below (a := w1) (g := g) (by repeat (first | with_reducible assumption | with_reducible exact World.grownBy.refl _ _ | with_reducible refine only_alloc ?_ _ | with_reducible refine only_drew ?_ | with_reducible refine only_drewN ?_ _ | with_reducible refine only_setNew ?_ (by first | omega | (simp; done) | (simp; omega)) _ | (with_reducible refine only_trans ?_ (by with_reducible assumption)))) hb1.size (by simpa using hlow)))
  have HR := Lib.hid hr
  have r0_hr := cell_of_row _ _ 0 _ _ _ hr
  have r1_hr := cell_of_row _ _ 1 _ _ _ hr
  have r2_hr := cell_of_row _ _ 2 _ _ _ hr
  have f0_hr := frozen_of_row _ _ 0 _ _ hr
  have f1_hr := frozen_of_row _ _ 1 _ _ hr
  have f2_hr := frozen_of_row _ _ 2 _ _ hr
  simp at r0_hr r1_hr r2_hr
  clear hr ho2 ho3 hb1
  go_wp2_with fail
  apply bodyPost_ret (results_row_tmp1 (P := Try.prog) (fn := Try.f47) rfl _ _ _ 37 _ (0, 0) _ rfl _ Try.underlying37 rfl _) rfl
  rotate_left 2
  · repeat (first | (with_reducible apply heap_setCell_same) | (with_reducible apply drew_row) | (with_reducible apply drewN_row) | (with_reducible exact HR.out) | (with_reducible refine (heap_setCell_other _ _ _ _ (by first | omega | (simp; done) | (simp; omega))).trans ?_) | (with_reducible refine (Below.heap_alloc _ _ _ (by first | omega | (simp; done) | (simp; omega))).trans ?_))
  · kernel_rfl
  exact ⟨m, q, A1, l, c1, S, by first | rfl | (simp; done) | (simp; rfl), hG, hSz, (by repeat (first | exact own_mono O3.out (by omega) | refine own_set ?_ _ HN.out)), (by repeat (first | with_reducible exact Below.refl _ _ | with_reducible assumption | with_reducible refine Below.drew ?_ | with_reducible refine Below.alloc ?_ (by first | exact Nat.le_refl _ | omega | (simp; done) | (simp; omega)) _ | with_reducible refine Below.setCell ?_ (by first | exact Nat.le_refl _ | omega | (simp; done) | (simp; omega)) _ | (with_reducible refine ext_trans ?_ (by with_reducible assumption))))⟩
theorem results_row_ttL {P : Program} {fn : Func} {p u v : Tmp} {ty : TypeId} (h : fn.results = #[.cell p ty, .tmp u, .tmp v]) (tmps : Array Value) (w : World) (g : Nat) (t : TypeId) (cs : Array Value) (fr : Nat × Nat) (d : TypeDesc)
    (hp : tmps.getD p undef = .pointer (some ⟨g, 0, none⟩)) (hg : w.heap[g]? = some (.cells cs t fr))
    (hu : P.underlying ty = some d) (hd : (match d with | .struct _ | .array _ _ => true | _ => false) = true) (hi : (P.info? ty).map (·.size) = some cs.size) :
    (results fn tmps).run P w = .ok (.tuple #[.agg cs, tmps.getD u undef, tmps.getD v undef]) w := by
  have hp' : tmps[p]?.getD undef = .pointer (some ⟨g, 0, none⟩) := by simpa using hp
  simp [results, h, hp', asAddr, run_loadVar_row w g t ty cs fr d hg hu hd hi]
/-- A link, a number and a text, drawn. -/
def DrawnLot (w : World) (e : Ending) (w' : World) : Prop :=
  ∃ (m q : Int) (A : Option Addr) (l : List REntry) (c : Nat) (ip : Int) (s : ByteArray), e = .returned (.tuple #[.agg #[.int .i64 m, .int .i64 q, .slice A l.length c], .int .i64 ip, .string s]) ∧ GoodE l ∧ s.size ≤ 4096 ∧ w'.ownsRow w.heap.size 71 3 (.slice A l.length c) l.length (cellsOf eEntry l) ∧ Below w.heap.size w w'
set_option maxHeartbeats 8000000 in
set_option linter.unusedVariables false in
theorem DrawLinkOut_any {w : World} {A : Option Addr} {n c : Nat} (hn : n ≤ maxLen) (hb : Byts w w.heap.size A n) :
    Calls Try.prog 41 #[.slice A n c] w (DrawnLot w) := by
  go_enter Try.func41, Try.ntmps41
  go_wp2_with fail
  refine (l1New_any hn (hb.below (by repeat (first | with_reducible exact Below.refl _ _ | with_reducible assumption | with_reducible refine Below.drew ?_ | with_reducible refine Below.alloc ?_ (by first | exact Nat.le_refl _ | omega | (simp; done) | (simp; omega)) _ | with_reducible refine Below.setCell ?_ (by first | exact Nat.le_refl _ | omega | (simp; done) | (simp; omega)) _ | (with_reducible refine ext_trans ?_ (by with_reducible assumption)))))).mono ?_
  rintro e w1 ⟨g, rfl, hc1, hb1⟩
  have hlt1 := hc1.lt
  have hz1 := hb1.size
  have hlow := hc1.low
  simp at hz1 hlow hc1
  have HR1 : Hid (w1.heap[w.heap.size]? = some (.cells #[.int .i64 0, .int .i64 0, .slice none 0 0] 37 (0, 0))) := Lib.hid ((hb1.block _ (by simp)).trans (heap_alloc_new _ _))
  go_wp2_with fail
  refine (l16Bent_any hc1).mono ?_
  rintro e w2 ⟨m, q, A1, l, c1, rfl, hG, hO2, hc2, ho2⟩
  have hz2 := ho2.size
  have hlt2 := hc2.lt
  have O2 := Lib.hid hO2
  have HR2 := Lib.hid ((grow ho2 (by omega) (by omega)).trans HR1.out)
  have hl5 := hG.1
  clear hO2
  go_wp2_with fail
  refine (l1Below_any (B := w.heap.size + 1) (by repeat (first | with_reducible assumption | with_reducible refine Cur.alloc ?_ _ | with_reducible refine Cur.drew ?_ | with_reducible refine Cur.setOther ?_ (by first | omega | (simp; done) | (simp; omega)) (by first | omega | (simp; done) | (simp; omega)) _)) 7 (by omega) (by omega)).mono ?_
  rintro e w3 ⟨x3, rfl, ⟨hl3, hh3⟩, hc3, ho3⟩
  have hz3 := ho3.size
  simp at hz3
  have hlt3 := hc3.lt
  have HB1 := Lib.hid hb1
  have hg3 : w1.grownBy w3 (some g) := only_trans (only_alloc ho2 _) ho3
  have O3 := Lib.hid (own_keepg (own_below O2.out ((Below.refl _ _).alloc (Nat.le_refl _) _)) ho3 hlt1)
  have HR3 : Hid (w3.heap[w.heap.size]? = some (.cells #[.int .i64 0, .int .i64 0, .slice none 0 0] 37 (0, 0))) := Lib.hid ((grow ho3 (by simp; omega) (by omega)).trans ((Below.heap_alloc _ _ _ (by omega)).trans HR2.out))
  have HQ3 : Hid (w3.heap[w2.heap.size]? = some (.cells #[.int .i64 m, .int .i64 q, .slice A1 l.length c1] 37 (0, 0))) := Lib.hid ((grow ho3 (by simp) (by omega)).trans (heap_alloc_new _ _))
  have hq3 : w2.heap.size < w3.heap.size := by omega
  have hng : ¬ w2.heap.size = g := by omega
  have HN : Hid (∀ k, (Value.slice A1 l.length c1).ownBlock = some k → k ≠ w.heap.size) := Lib.hid fun k hk => by
    have h1 := (O3.out.lt k hk).1
    omega
  clear ho2 ho3 hb1 hb HR1 HR2 O2 hc1 hc2
  have hqr := HQ3.out
  have r0_hqr := cell_of_row _ _ 0 _ _ _ hqr
  have r1_hqr := cell_of_row _ _ 1 _ _ _ hqr
  have r2_hqr := cell_of_row _ _ 2 _ _ _ hqr
  have f0_hqr := frozen_of_row _ _ 0 _ _ hqr
  have f1_hqr := frozen_of_row _ _ 1 _ _ hqr
  have f2_hqr := frozen_of_row _ _ 2 _ _ hqr
  simp at r0_hqr r1_hqr r2_hqr
  clear hqr
  by_cases hlen : (0 : Int) < (l.length : Int)
  case neg =>
    go_wp2_with fail
    refine (l1Below_any (B := w.heap.size + 1) hc3 4 (by omega) (by omega)).mono ?_
    rintro e w4 ⟨x4, rfl, ⟨hl4, hh4⟩, hc4, ho4⟩
    have hz4 := ho4.size
    have hlt4 := hc4.lt
    have hg4 : w1.grownBy w4 (some g) := only_trans hg3 ho4
    have O4 := Lib.hid (own_keepg O3.out ho4 hlt1)
    have HR4 := Lib.hid ((grow ho4 (by omega) (by omega)).trans HR3.out)
    have HQ4 := Lib.hid ((grow ho4 hq3 hng).trans HQ3.out)
    have hq4 : w2.heap.size < w4.heap.size := by omega
    clear ho4
    go_wp2_with fail
    refine (l1Bytes_any (B := w.heap.size + 1) hc4 _ (by omega) (by omega)).mono ?_
    rintro e w5 ⟨v5, xs5, rfl, hO5, hn5, hc5, ho5⟩
    have hz5 := ho5.size
    have hlt5 := hc5.lt
    have hg5 : w1.grownBy w5 (some g) := only_trans hg4 ho5
    have O5 := Lib.hid (own_keepg O4.out ho5 hlt1)
    have HR5 := Lib.hid ((grow ho5 (by omega) (by omega)).trans HR4.out)
    have HQ5 := Lib.hid ((grow ho5 hq4 hng).trans HQ4.out)
    have hq5 : w2.heap.size < w5.heap.size := by omega
    clear ho5
    have hcv := hO5.conv w5 (fun _ _ _ _ => rfl)
    have hss : (strOfNums xs5).size ≤ 4096 := by rw [strOfNums_size]; omega
    obtain ⟨A5, c5, rfl⟩ := hO5.form
    generalize strOfNums xs5 = S at hcv hss
    clear hO5 hn5
    go_wp2_with fail
    refine (l1Once_any (B := w.heap.size + 1) hc5 16 (by omega) (by omega)).mono ?_
    rintro e w6 ⟨x6, rfl, hc6, ho6⟩
    have hz6 := ho6.size
    have hlt6 := hc6.lt
    have hg6 : w1.grownBy w6 (some g) := only_trans hg5 ho6
    have O6 := Lib.hid (own_keepg O5.out ho6 hlt1)
    have HR6 := Lib.hid ((grow ho6 (by omega) (by omega)).trans HR5.out)
    have HQ6 := Lib.hid ((grow ho6 hq5 hng).trans HQ5.out)
    have hq6 : w2.heap.size < w6.heap.size := by omega
    clear ho6
    clear hcv
    cases x6
    case false =>
      have hqr := HQ6.out
      have hrr := HR6.out
      have r0_hqr := cell_of_row _ _ 0 _ _ _ hqr
      have r1_hqr := cell_of_row _ _ 1 _ _ _ hqr
      have r2_hqr := cell_of_row _ _ 2 _ _ _ hqr
      have f0_hqr := frozen_of_row _ _ 0 _ _ hqr
      have f1_hqr := frozen_of_row _ _ 1 _ _ hqr
      have f2_hqr := frozen_of_row _ _ 2 _ _ hqr
      simp at r0_hqr r1_hqr r2_hqr
      have r0_hrr := cell_of_row _ _ 0 _ _ _ hrr
      have r1_hrr := cell_of_row _ _ 1 _ _ _ hrr
      have r2_hrr := cell_of_row _ _ 2 _ _ _ hrr
      have f0_hrr := frozen_of_row _ _ 0 _ _ hrr
      have f1_hrr := frozen_of_row _ _ 1 _ _ hrr
      have f2_hrr := frozen_of_row _ _ 2 _ _ hrr
      simp at r0_hrr r1_hrr r2_hrr
      clear hqr hrr
      have hbw : Below w.heap.size w w6 := ext_trans ((Below.refl _ _).alloc (Nat.le_refl _) _) (HB1.out.trans (only_below (a := w1) (g := g) hg6 HB1.out.size (by simpa using hlow)))
      go_wp2_with fail
      apply bodyPost_ret (results_row_ttL (P := Try.prog) (fn := Try.f41) rfl _ _ _ 37 _ (0, 0) _ rfl _ Try.underlying37 rfl _) rfl
      rotate_left 2
      · repeat (first | (with_reducible apply heap_setCell_same) | (with_reducible apply drew_row) | (with_reducible apply drewN_row) | (with_reducible exact HR6.out) | (with_reducible refine (heap_setCell_other _ _ _ _ (by first | omega | (simp; done) | (simp; omega))).trans ?_) | (with_reducible refine (Below.heap_alloc _ _ _ (by first | omega | (simp; done) | (simp; omega))).trans ?_))
      · kernel_rfl
      exact ⟨m, q, _, l, c1, 167772160 + x3, S, by first | rfl | (simp; done) | (simp; rfl), hG, by omega, (by repeat (first | exact own_mono O6.out (by omega) | refine own_set ?_ _ HN.out)), (by repeat (first | with_reducible exact Below.refl _ _ | with_reducible assumption | with_reducible refine Below.drew ?_ | with_reducible refine Below.alloc ?_ (by first | exact Nat.le_refl _ | omega | (simp; done) | (simp; omega)) _ | with_reducible refine Below.setCell ?_ (by first | exact Nat.le_refl _ | omega | (simp; done) | (simp; omega)) _ | (with_reducible refine ext_trans ?_ (by with_reducible assumption))))⟩
    case true =>
      go_wp2_with fail
      refine (l1Below_any (B := w.heap.size + 1) hc6 3 (by omega) (by omega)).mono ?_
      rintro e w7 ⟨x7, rfl, ⟨hl7, hh7⟩, hc7, ho7⟩
      have hz7 := ho7.size
      have hlt7 := hc7.lt
      have hg7 : w1.grownBy w7 (some g) := only_trans hg6 ho7
      have O7 := Lib.hid (own_keepg O6.out ho7 hlt1)
      have HR7 := Lib.hid ((grow ho7 (by omega) (by omega)).trans HR6.out)
      have HQ7 := Lib.hid ((grow ho7 hq6 hng).trans HQ6.out)
      have hq7 : w2.heap.size < w7.heap.size := by omega
      clear ho7
      go_wp2_with fail
      refine (l5Long_any _ (by omega) (by omega) _).mono ?_
      rintro e w8 ⟨⟨T, rfl, hTs⟩, hb8⟩
      have hTz : T.size ≤ 4096 := by omega
      clear hTs
      have hc8 : Cur w8 (w.heap.size + 1) g := cur_below hc7 hb8
      have ho8 := grown_below hb8 (some g)
      clear hb8
      have hz8 := ho8.size
      have hlt8 := hc8.lt
      have hg8 : w1.grownBy w8 (some g) := only_trans hg7 ho8
      have O8 := Lib.hid (own_keepg O7.out ho8 hlt1)
      have HR8 := Lib.hid ((grow ho8 (by omega) (by omega)).trans HR7.out)
      have HQ8 := Lib.hid ((grow ho8 hq7 hng).trans HQ7.out)
      have hq8 : w2.heap.size < w8.heap.size := by omega
      clear ho8
      have hqr := HQ8.out
      have hrr := HR8.out
      have r0_hqr := cell_of_row _ _ 0 _ _ _ hqr
      have r1_hqr := cell_of_row _ _ 1 _ _ _ hqr
      have r2_hqr := cell_of_row _ _ 2 _ _ _ hqr
      have f0_hqr := frozen_of_row _ _ 0 _ _ hqr
      have f1_hqr := frozen_of_row _ _ 1 _ _ hqr
      have f2_hqr := frozen_of_row _ _ 2 _ _ hqr
      simp at r0_hqr r1_hqr r2_hqr
      have r0_hrr := cell_of_row _ _ 0 _ _ _ hrr
      have r1_hrr := cell_of_row _ _ 1 _ _ _ hrr
      have r2_hrr := cell_of_row _ _ 2 _ _ _ hrr
      have f0_hrr := frozen_of_row _ _ 0 _ _ hrr
      have f1_hrr := frozen_of_row _ _ 1 _ _ hrr
      have f2_hrr := frozen_of_row _ _ 2 _ _ hrr
      simp at r0_hrr r1_hrr r2_hrr
      clear hqr hrr
      have hbw : Below w.heap.size w w8 := ext_trans ((Below.refl _ _).alloc (Nat.le_refl _) _) (HB1.out.trans (only_below (a := w1) (g := g) hg8 HB1.out.size (by simpa using hlow)))
      go_wp2_with fail
      apply bodyPost_ret (results_row_ttL (P := Try.prog) (fn := Try.f41) rfl _ _ _ 37 _ (0, 0) _ rfl _ Try.underlying37 rfl _) rfl
      rotate_left 2
      · repeat (first | (with_reducible apply heap_setCell_same) | (with_reducible apply drew_row) | (with_reducible apply drewN_row) | (with_reducible exact HR8.out) | (with_reducible refine (heap_setCell_other _ _ _ _ (by first | omega | (simp; done) | (simp; omega))).trans ?_) | (with_reducible refine (Below.heap_alloc _ _ _ (by first | omega | (simp; done) | (simp; omega))).trans ?_))
      · kernel_rfl
      exact ⟨m, q, _, l, c1, 167772160 + x3, T, by first | rfl | (simp; done) | (simp; rfl), hG, by omega, (by repeat (first | exact own_mono O8.out (by omega) | refine own_set ?_ _ HN.out)), (by repeat (first | with_reducible exact Below.refl _ _ | with_reducible assumption | with_reducible refine Below.drew ?_ | with_reducible refine Below.alloc ?_ (by first | exact Nat.le_refl _ | omega | (simp; done) | (simp; omega)) _ | with_reducible refine Below.setCell ?_ (by first | exact Nat.le_refl _ | omega | (simp; done) | (simp; omega)) _ | (with_reducible refine ext_trans ?_ (by with_reducible assumption))))⟩
  case pos =>
    obtain ⟨b, hA, c00⟩ : ∃ b, A1 = some ⟨b, 0, none⟩ ∧ ∃ z : Int, w3.cell? ⟨b, 0, none⟩ = some (.int .i64 z) := by
      have hO := O3.out
      rcases O3.out.2 with ⟨h1, h0⟩ | ⟨b, cap, cur, h1, -⟩
      · exact absurd h0 (by omega)
      · injection h1 with h2 h3 h4
        subst h2
        refine ⟨b, rfl, ?_⟩
        have h5 := hO.cellAt 0 (by omega)
        cases l with
        | nil => exact absurd hlen (by simp)
        | cons x l => exact ⟨x.1, h5.trans rfl⟩
    subst hA
    obtain ⟨z, hz⟩ := c00
    go_wp2_with fail
    refine (l1Once_any (B := w.heap.size + 1) hc3 2 (by omega) (by omega)).mono ?_
    rintro e w4 ⟨x4, rfl, hc4, ho4⟩
    have hz4 := ho4.size
    have hlt4 := hc4.lt
    have hg4 : w1.grownBy w4 (some g) := only_trans hg3 ho4
    have O4 := Lib.hid (own_keepg O3.out ho4 hlt1)
    have HR4 := Lib.hid ((grow ho4 (by omega) (by omega)).trans HR3.out)
    have HQ4 := Lib.hid ((grow ho4 hq3 hng).trans HQ3.out)
    have hq4 : w2.heap.size < w4.heap.size := by omega
    have hz4' : w4.cell? ⟨b, 0, none⟩ = some (.int .i64 z) := by
      have hb0 := O3.out.lt b rfl
      exact ((gcell ho4).1 b 0 hb0.2 (by omega)).trans hz
    clear ho4 hz
    have hqr := HQ4.out
    have r0_hqr := cell_of_row _ _ 0 _ _ _ hqr
    have r1_hqr := cell_of_row _ _ 1 _ _ _ hqr
    have r2_hqr := cell_of_row _ _ 2 _ _ _ hqr
    have f0_hqr := frozen_of_row _ _ 0 _ _ hqr
    have f1_hqr := frozen_of_row _ _ 1 _ _ hqr
    have f2_hqr := frozen_of_row _ _ 2 _ _ hqr
    simp at r0_hqr r1_hqr r2_hqr
    clear hqr
    cases x4
    case false =>
      go_wp2_with fail
      refine (l1Below_any (B := w.heap.size + 1) hc4 4 (by omega) (by omega)).mono ?_
      rintro e w5 ⟨x5, rfl, ⟨hl5, hh5⟩, hc5, ho5⟩
      have hz5 := ho5.size
      have hlt5 := hc5.lt
      have hg5 : w1.grownBy w5 (some g) := only_trans hg4 ho5
      have O5 := Lib.hid (own_keepg O4.out ho5 hlt1)
      have HR5 := Lib.hid ((grow ho5 (by omega) (by omega)).trans HR4.out)
      have HQ5 := Lib.hid ((grow ho5 hq4 hng).trans HQ4.out)
      have hq5 : w2.heap.size < w5.heap.size := by omega
      clear ho5
      go_wp2_with fail
      refine (l1Bytes_any (B := w.heap.size + 1) hc5 _ (by omega) (by omega)).mono ?_
      rintro e w6 ⟨v6, xs6, rfl, hO6, hn6, hc6, ho6⟩
      have hz6 := ho6.size
      have hlt6 := hc6.lt
      have hg6 : w1.grownBy w6 (some g) := only_trans hg5 ho6
      have O6 := Lib.hid (own_keepg O5.out ho6 hlt1)
      have HR6 := Lib.hid ((grow ho6 (by omega) (by omega)).trans HR5.out)
      have HQ6 := Lib.hid ((grow ho6 hq5 hng).trans HQ5.out)
      have hq6 : w2.heap.size < w6.heap.size := by omega
      clear ho6
      have hcv := hO6.conv w6 (fun _ _ _ _ => rfl)
      have hss : (strOfNums xs6).size ≤ 4096 := by rw [strOfNums_size]; omega
      obtain ⟨A6, c6, rfl⟩ := hO6.form
      generalize strOfNums xs6 = S at hcv hss
      clear hO6 hn6
      go_wp2_with fail
      refine (l1Once_any (B := w.heap.size + 1) hc6 16 (by omega) (by omega)).mono ?_
      rintro e w7 ⟨x7, rfl, hc7, ho7⟩
      have hz7 := ho7.size
      have hlt7 := hc7.lt
      have hg7 : w1.grownBy w7 (some g) := only_trans hg6 ho7
      have O7 := Lib.hid (own_keepg O6.out ho7 hlt1)
      have HR7 := Lib.hid ((grow ho7 (by omega) (by omega)).trans HR6.out)
      have HQ7 := Lib.hid ((grow ho7 hq6 hng).trans HQ6.out)
      have hq7 : w2.heap.size < w7.heap.size := by omega
      clear ho7
      clear hcv
      cases x7
      case false =>
        have hqr := HQ7.out
        have hrr := HR7.out
        have r0_hqr := cell_of_row _ _ 0 _ _ _ hqr
        have r1_hqr := cell_of_row _ _ 1 _ _ _ hqr
        have r2_hqr := cell_of_row _ _ 2 _ _ _ hqr
        have f0_hqr := frozen_of_row _ _ 0 _ _ hqr
        have f1_hqr := frozen_of_row _ _ 1 _ _ hqr
        have f2_hqr := frozen_of_row _ _ 2 _ _ hqr
        simp at r0_hqr r1_hqr r2_hqr
        have r0_hrr := cell_of_row _ _ 0 _ _ _ hrr
        have r1_hrr := cell_of_row _ _ 1 _ _ _ hrr
        have r2_hrr := cell_of_row _ _ 2 _ _ _ hrr
        have f0_hrr := frozen_of_row _ _ 0 _ _ hrr
        have f1_hrr := frozen_of_row _ _ 1 _ _ hrr
        have f2_hrr := frozen_of_row _ _ 2 _ _ hrr
        simp at r0_hrr r1_hrr r2_hrr
        clear hqr hrr
        have hbw : Below w.heap.size w w7 := ext_trans ((Below.refl _ _).alloc (Nat.le_refl _) _) (HB1.out.trans (only_below (a := w1) (g := g) hg7 HB1.out.size (by simpa using hlow)))
        go_wp2_with fail
        apply bodyPost_ret (results_row_ttL (P := Try.prog) (fn := Try.f41) rfl _ _ _ 37 _ (0, 0) _ rfl _ Try.underlying37 rfl _) rfl
        rotate_left 2
        · repeat (first | (with_reducible apply heap_setCell_same) | (with_reducible apply drew_row) | (with_reducible apply drewN_row) | (with_reducible exact HR7.out) | (with_reducible refine (heap_setCell_other _ _ _ _ (by first | omega | (simp; done) | (simp; omega))).trans ?_) | (with_reducible refine (Below.heap_alloc _ _ _ (by first | omega | (simp; done) | (simp; omega))).trans ?_))
        · kernel_rfl
        exact ⟨m, q, _, l, c1, 167772160 + x3, S, by first | rfl | (simp; done) | (simp; rfl), hG, by omega, (by repeat (first | exact own_mono O7.out (by omega) | refine own_set ?_ _ HN.out)), (by repeat (first | with_reducible exact Below.refl _ _ | with_reducible assumption | with_reducible refine Below.drew ?_ | with_reducible refine Below.alloc ?_ (by first | exact Nat.le_refl _ | omega | (simp; done) | (simp; omega)) _ | with_reducible refine Below.setCell ?_ (by first | exact Nat.le_refl _ | omega | (simp; done) | (simp; omega)) _ | (with_reducible refine ext_trans ?_ (by with_reducible assumption))))⟩
      case true =>
        go_wp2_with fail
        refine (l1Below_any (B := w.heap.size + 1) hc7 3 (by omega) (by omega)).mono ?_
        rintro e w8 ⟨x8, rfl, ⟨hl8, hh8⟩, hc8, ho8⟩
        have hz8 := ho8.size
        have hlt8 := hc8.lt
        have hg8 : w1.grownBy w8 (some g) := only_trans hg7 ho8
        have O8 := Lib.hid (own_keepg O7.out ho8 hlt1)
        have HR8 := Lib.hid ((grow ho8 (by omega) (by omega)).trans HR7.out)
        have HQ8 := Lib.hid ((grow ho8 hq7 hng).trans HQ7.out)
        have hq8 : w2.heap.size < w8.heap.size := by omega
        clear ho8
        go_wp2_with fail
        refine (l5Long_any _ (by omega) (by omega) _).mono ?_
        rintro e w9 ⟨⟨T, rfl, hTs⟩, hb9⟩
        have hTz : T.size ≤ 4096 := by omega
        clear hTs
        have hc9 : Cur w9 (w.heap.size + 1) g := cur_below hc8 hb9
        have ho9 := grown_below hb9 (some g)
        clear hb9
        have hz9 := ho9.size
        have hlt9 := hc9.lt
        have hg9 : w1.grownBy w9 (some g) := only_trans hg8 ho9
        have O9 := Lib.hid (own_keepg O8.out ho9 hlt1)
        have HR9 := Lib.hid ((grow ho9 (by omega) (by omega)).trans HR8.out)
        have HQ9 := Lib.hid ((grow ho9 hq8 hng).trans HQ8.out)
        have hq9 : w2.heap.size < w9.heap.size := by omega
        clear ho9
        have hqr := HQ9.out
        have hrr := HR9.out
        have r0_hqr := cell_of_row _ _ 0 _ _ _ hqr
        have r1_hqr := cell_of_row _ _ 1 _ _ _ hqr
        have r2_hqr := cell_of_row _ _ 2 _ _ _ hqr
        have f0_hqr := frozen_of_row _ _ 0 _ _ hqr
        have f1_hqr := frozen_of_row _ _ 1 _ _ hqr
        have f2_hqr := frozen_of_row _ _ 2 _ _ hqr
        simp at r0_hqr r1_hqr r2_hqr
        have r0_hrr := cell_of_row _ _ 0 _ _ _ hrr
        have r1_hrr := cell_of_row _ _ 1 _ _ _ hrr
        have r2_hrr := cell_of_row _ _ 2 _ _ _ hrr
        have f0_hrr := frozen_of_row _ _ 0 _ _ hrr
        have f1_hrr := frozen_of_row _ _ 1 _ _ hrr
        have f2_hrr := frozen_of_row _ _ 2 _ _ hrr
        simp at r0_hrr r1_hrr r2_hrr
        clear hqr hrr
        have hbw : Below w.heap.size w w9 := ext_trans ((Below.refl _ _).alloc (Nat.le_refl _) _) (HB1.out.trans (only_below (a := w1) (g := g) hg9 HB1.out.size (by simpa using hlow)))
        go_wp2_with fail
        apply bodyPost_ret (results_row_ttL (P := Try.prog) (fn := Try.f41) rfl _ _ _ 37 _ (0, 0) _ rfl _ Try.underlying37 rfl _) rfl
        rotate_left 2
        · repeat (first | (with_reducible apply heap_setCell_same) | (with_reducible apply drew_row) | (with_reducible apply drewN_row) | (with_reducible exact HR9.out) | (with_reducible refine (heap_setCell_other _ _ _ _ (by first | omega | (simp; done) | (simp; omega))).trans ?_) | (with_reducible refine (Below.heap_alloc _ _ _ (by first | omega | (simp; done) | (simp; omega))).trans ?_))
        · kernel_rfl
        exact ⟨m, q, _, l, c1, 167772160 + x3, T, by first | rfl | (simp; done) | (simp; rfl), hG, by omega, (by repeat (first | exact own_mono O9.out (by omega) | refine own_set ?_ _ HN.out)), (by repeat (first | with_reducible exact Below.refl _ _ | with_reducible assumption | with_reducible refine Below.drew ?_ | with_reducible refine Below.alloc ?_ (by first | exact Nat.le_refl _ | omega | (simp; done) | (simp; omega)) _ | with_reducible refine Below.setCell ?_ (by first | exact Nat.le_refl _ | omega | (simp; done) | (simp; omega)) _ | (with_reducible refine ext_trans ?_ (by with_reducible assumption))))⟩
    case true =>
      go_wp2_with fail
      refine (l1Below_any (B := w.heap.size + 1) hc4 4 (by omega) (by omega)).mono ?_
      rintro e w5 ⟨x5, rfl, ⟨hl5, hh5⟩, hc5, ho5⟩
      have hz5 := ho5.size
      have hlt5 := hc5.lt
      have hg5 : w1.grownBy w5 (some g) := only_trans hg4 ho5
      have O5 := Lib.hid (own_keepg O4.out ho5 hlt1)
      have HR5 := Lib.hid ((grow ho5 (by omega) (by omega)).trans HR4.out)
      have HQ5 := Lib.hid ((grow ho5 hq4 hng).trans HQ4.out)
      have hq5 : w2.heap.size < w5.heap.size := by omega
      clear ho5
      go_wp2_with fail
      refine (l1Bytes_any (B := w.heap.size + 1) hc5 _ (by omega) (by omega)).mono ?_
      rintro e w6 ⟨v6, xs6, rfl, hO6, hn6, hc6, ho6⟩
      have hz6 := ho6.size
      have hlt6 := hc6.lt
      have hg6 : w1.grownBy w6 (some g) := only_trans hg5 ho6
      have O6 := Lib.hid (own_keepg O5.out ho6 hlt1)
      have HR6 := Lib.hid ((grow ho6 (by omega) (by omega)).trans HR5.out)
      have HQ6 := Lib.hid ((grow ho6 hq5 hng).trans HQ5.out)
      have hq6 : w2.heap.size < w6.heap.size := by omega
      clear ho6
      have hcv := hO6.conv w6 (fun _ _ _ _ => rfl)
      have hss : (strOfNums xs6).size ≤ 4096 := by rw [strOfNums_size]; omega
      obtain ⟨A6, c6, rfl⟩ := hO6.form
      generalize strOfNums xs6 = S at hcv hss
      clear hO6 hn6
      go_wp2_with fail
      refine (l1Once_any (B := w.heap.size + 1) hc6 16 (by omega) (by omega)).mono ?_
      rintro e w7 ⟨x7, rfl, hc7, ho7⟩
      have hz7 := ho7.size
      have hlt7 := hc7.lt
      have hg7 : w1.grownBy w7 (some g) := only_trans hg6 ho7
      have O7 := Lib.hid (own_keepg O6.out ho7 hlt1)
      have HR7 := Lib.hid ((grow ho7 (by omega) (by omega)).trans HR6.out)
      have HQ7 := Lib.hid ((grow ho7 hq6 hng).trans HQ6.out)
      have hq7 : w2.heap.size < w7.heap.size := by omega
      clear ho7
      clear hcv
      cases x7
      case false =>
        have hqr := HQ7.out
        have hrr := HR7.out
        have r0_hqr := cell_of_row _ _ 0 _ _ _ hqr
        have r1_hqr := cell_of_row _ _ 1 _ _ _ hqr
        have r2_hqr := cell_of_row _ _ 2 _ _ _ hqr
        have f0_hqr := frozen_of_row _ _ 0 _ _ hqr
        have f1_hqr := frozen_of_row _ _ 1 _ _ hqr
        have f2_hqr := frozen_of_row _ _ 2 _ _ hqr
        simp at r0_hqr r1_hqr r2_hqr
        have r0_hrr := cell_of_row _ _ 0 _ _ _ hrr
        have r1_hrr := cell_of_row _ _ 1 _ _ _ hrr
        have r2_hrr := cell_of_row _ _ 2 _ _ _ hrr
        have f0_hrr := frozen_of_row _ _ 0 _ _ hrr
        have f1_hrr := frozen_of_row _ _ 1 _ _ hrr
        have f2_hrr := frozen_of_row _ _ 2 _ _ hrr
        simp at r0_hrr r1_hrr r2_hrr
        clear hqr hrr
        have hbw : Below w.heap.size w w7 := ext_trans ((Below.refl _ _).alloc (Nat.le_refl _) _) (HB1.out.trans (only_below (a := w1) (g := g) hg7 HB1.out.size (by simpa using hlow)))
        go_wp2_with fail
        apply bodyPost_ret (results_row_ttL (P := Try.prog) (fn := Try.f41) rfl _ _ _ 37 _ (0, 0) _ rfl _ Try.underlying37 rfl _) rfl
        rotate_left 2
        · repeat (first | (with_reducible apply heap_setCell_same) | (with_reducible apply drew_row) | (with_reducible apply drewN_row) | (with_reducible exact HR7.out) | (with_reducible refine (heap_setCell_other _ _ _ _ (by first | omega | (simp; done) | (simp; omega))).trans ?_) | (with_reducible refine (Below.heap_alloc _ _ _ (by first | omega | (simp; done) | (simp; omega))).trans ?_))
        · kernel_rfl
        exact ⟨m, q, _, l, c1, z, S, by first | rfl | (simp; done) | (simp; rfl), hG, by omega, (by repeat (first | exact own_mono O7.out (by omega) | refine own_set ?_ _ HN.out)), (by repeat (first | with_reducible exact Below.refl _ _ | with_reducible assumption | with_reducible refine Below.drew ?_ | with_reducible refine Below.alloc ?_ (by first | exact Nat.le_refl _ | omega | (simp; done) | (simp; omega)) _ | with_reducible refine Below.setCell ?_ (by first | exact Nat.le_refl _ | omega | (simp; done) | (simp; omega)) _ | (with_reducible refine ext_trans ?_ (by with_reducible assumption))))⟩
      case true =>
        go_wp2_with fail
        refine (l1Below_any (B := w.heap.size + 1) hc7 3 (by omega) (by omega)).mono ?_
        rintro e w8 ⟨x8, rfl, ⟨hl8, hh8⟩, hc8, ho8⟩
        have hz8 := ho8.size
        have hlt8 := hc8.lt
        have hg8 : w1.grownBy w8 (some g) := only_trans hg7 ho8
        have O8 := Lib.hid (own_keepg O7.out ho8 hlt1)
        have HR8 := Lib.hid ((grow ho8 (by omega) (by omega)).trans HR7.out)
        have HQ8 := Lib.hid ((grow ho8 hq7 hng).trans HQ7.out)
        have hq8 : w2.heap.size < w8.heap.size := by omega
        clear ho8
        go_wp2_with fail
        refine (l5Long_any _ (by omega) (by omega) _).mono ?_
        rintro e w9 ⟨⟨T, rfl, hTs⟩, hb9⟩
        have hTz : T.size ≤ 4096 := by omega
        clear hTs
        have hc9 : Cur w9 (w.heap.size + 1) g := cur_below hc8 hb9
        have ho9 := grown_below hb9 (some g)
        clear hb9
        have hz9 := ho9.size
        have hlt9 := hc9.lt
        have hg9 : w1.grownBy w9 (some g) := only_trans hg8 ho9
        have O9 := Lib.hid (own_keepg O8.out ho9 hlt1)
        have HR9 := Lib.hid ((grow ho9 (by omega) (by omega)).trans HR8.out)
        have HQ9 := Lib.hid ((grow ho9 hq8 hng).trans HQ8.out)
        have hq9 : w2.heap.size < w9.heap.size := by omega
        clear ho9
        have hqr := HQ9.out
        have hrr := HR9.out
        have r0_hqr := cell_of_row _ _ 0 _ _ _ hqr
        have r1_hqr := cell_of_row _ _ 1 _ _ _ hqr
        have r2_hqr := cell_of_row _ _ 2 _ _ _ hqr
        have f0_hqr := frozen_of_row _ _ 0 _ _ hqr
        have f1_hqr := frozen_of_row _ _ 1 _ _ hqr
        have f2_hqr := frozen_of_row _ _ 2 _ _ hqr
        simp at r0_hqr r1_hqr r2_hqr
        have r0_hrr := cell_of_row _ _ 0 _ _ _ hrr
        have r1_hrr := cell_of_row _ _ 1 _ _ _ hrr
        have r2_hrr := cell_of_row _ _ 2 _ _ _ hrr
        have f0_hrr := frozen_of_row _ _ 0 _ _ hrr
        have f1_hrr := frozen_of_row _ _ 1 _ _ hrr
        have f2_hrr := frozen_of_row _ _ 2 _ _ hrr
        simp at r0_hrr r1_hrr r2_hrr
        clear hqr hrr
        have hbw : Below w.heap.size w w9 := ext_trans ((Below.refl _ _).alloc (Nat.le_refl _) _) (HB1.out.trans (only_below (a := w1) (g := g) hg9 HB1.out.size (by simpa using hlow)))
        go_wp2_with fail
        apply bodyPost_ret (results_row_ttL (P := Try.prog) (fn := Try.f41) rfl _ _ _ 37 _ (0, 0) _ rfl _ Try.underlying37 rfl _) rfl
        rotate_left 2
        · repeat (first | (with_reducible apply heap_setCell_same) | (with_reducible apply drew_row) | (with_reducible apply drewN_row) | (with_reducible exact HR9.out) | (with_reducible refine (heap_setCell_other _ _ _ _ (by first | omega | (simp; done) | (simp; omega))).trans ?_) | (with_reducible refine (Below.heap_alloc _ _ _ (by first | omega | (simp; done) | (simp; omega))).trans ?_))
        · kernel_rfl
        exact ⟨m, q, _, l, c1, z, T, by first | rfl | (simp; done) | (simp; rfl), hG, by omega, (by repeat (first | exact own_mono O9.out (by omega) | refine own_set ?_ _ HN.out)), (by repeat (first | with_reducible exact Below.refl _ _ | with_reducible assumption | with_reducible refine Below.drew ?_ | with_reducible refine Below.alloc ?_ (by first | exact Nat.le_refl _ | omega | (simp; done) | (simp; omega)) _ | with_reducible refine Below.setCell ?_ (by first | exact Nat.le_refl _ | omega | (simp; done) | (simp; omega)) _ | (with_reducible refine ext_trans ?_ (by with_reducible assumption))))⟩
end Go.Proofs.Yteaniiponikpjaa
