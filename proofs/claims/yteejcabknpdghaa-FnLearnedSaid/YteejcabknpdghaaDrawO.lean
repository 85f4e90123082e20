/-
  Contracts of the draws of options.
-/
import Derived.Test.YteejcabknpdghaaDrawN
import Derived.Test.YteejcabknpdghaaBytes
import Derived.Test.YteejcabknpdghaaOpt
import Derived.Deep.DeepCutAuto
namespace Go.Proofs.Yteejcabknpdghaa
open Go.RowKit

theorem Cur.below {w w' : World} {B g : Nat} (H : Cur w B g) (hb : Below w.heap.size w w') : Cur w' B g := by
  obtain ⟨A, n, c, i, h, H⟩ := H
  exact ⟨A, n, c, i, h, H.low, (hb.block g H.lt).trans H.blk, H.len, H.pos, H.byt.keep fun b hb' => hb.block b (by have := H.lt; have := H.low; omega)⟩
theorem only_of_below {a w : World} (h : Below a.heap.size a w) (row : Option Nat) : a.grownBy w row := ⟨h.os, h.tape, h.output, h.size, fun i hi _ => h.block i hi⟩

def DrewOptions (w : World) (B g : Nat) (e : Ending) (w' : World) : Prop :=
  ∃ (a b : Int) (c d : Bool) (p q : Int), e = .returned (.agg #[.int .i64 a, .int .i64 b, .bool c, .bool d, .int .i64 p, .int .i64 q]) ∧ I64 a ∧ I64 b ∧ I64 p ∧ I64 q ∧ Cur w' B g ∧ w.grownBy w' (some g)

/-- The variable in block q holds options; the result's block r is there; the cursor is sound. -/
structure OInv (w : World) (B g r q : Nat) (wx : World) : Prop where
  cur : Cur wx B g
  opt : ∃ (a b : Int) (c d : Bool) (p s : Int), I64 a ∧ I64 b ∧ I64 p ∧ I64 s ∧ wx.heap[q]? = some (.cells #[.int .i64 a, .int .i64 b, .bool c, .bool d, .int .i64 p, .int .i64 s] 42 (0, 0))
  res : wx.heap[r]? = some (.cells #[.int .i64 0, .int .i64 0, .bool false, .bool false, .int .i64 0, .int .i64 0] 42 (0, 0))
  grw : w.grownBy wx (some g)
  new : w.heap.size ≤ q
  neq : ¬ r = q
  neg : ¬ q = g
  nrg : ¬ r = g

theorem lt_of_heap {w : World} {b : Nat} {o : Obj} (h : w.heap[b]? = some o) : b < w.heap.size := by
  rcases Nat.lt_or_ge b w.heap.size with hlt | hge
  · exact hlt
  · rw [Array.getElem?_eq_none hge] at h; cases h

section
variable {w wx wy : World} {B g r q : Nat}
theorem OInv.step (H : OInv w B g r q wx) (hc : Cur wy B g) (ho : wx.grownBy wy (some g)) : OInv w B g r q wy := by
  obtain ⟨a, b, c, d, p, s, ha, hb, hp, hs, ho1⟩ := H.opt
  exact ⟨hc, ⟨a, b, c, d, p, s, ha, hb, hp, hs, (grow ho (lt_of_heap ho1) H.neg).trans ho1⟩, (grow ho (lt_of_heap H.res) H.nrg).trans H.res, only_trans H.grw ho, H.new, H.neq, H.neg, H.nrg⟩
theorem OInv.alloc (H : OInv w B g r q wx) (o : Obj) : OInv w B g r q (wx.alloc o) := H.step (H.cur.alloc o) (World.grownBy_alloc _ _ _)
theorem OInv.set (H : OInv w B g r q wx) (hB : B ≤ q) (i : Nat) (u : Value)
    (h : (∃ x, I64 x ∧ u = .int .i64 x ∧ (i = 0 ∨ i = 1 ∨ i = 4 ∨ i = 5)) ∨ (∃ x, u = .bool x ∧ (i = 2 ∨ i = 3))) : OInv w B g r q (wx.setCell ⟨q, i, none⟩ u) := by
  obtain ⟨a, b, c, d, p, s, ha, hb, hp, hs, ho1⟩ := H.opt
  have h1 := heap_setCell_same wx q i _ _ u ho1
  refine ⟨H.cur.setOther (by have := H.neg; exact fun e => this e.symm) hB u, ?_, (heap_setCell_other _ _ _ _ H.neq).trans H.res, only_setNew H.grw H.new u, H.new, H.neq, H.neg, H.nrg⟩
  rcases h with ⟨x, hx, rfl, rfl | rfl | rfl | rfl⟩ | ⟨x, rfl, rfl | rfl⟩
  · exact ⟨x, b, c, d, p, s, hx, hb, hp, hs, by simpa using h1⟩
  · exact ⟨a, x, c, d, p, s, ha, hx, hp, hs, by simpa using h1⟩
  · exact ⟨a, b, c, d, x, s, ha, hb, hx, hs, by simpa using h1⟩
  · exact ⟨a, b, c, d, p, x, ha, hb, hp, hx, by simpa using h1⟩
  · exact ⟨a, b, x, d, p, s, ha, hb, hp, hs, by simpa using h1⟩
  · exact ⟨a, b, c, x, p, s, ha, hb, hp, hs, by simpa using h1⟩
end

theorem l8Options_any {w : World} {B g : Nat} (hcur : Cur w B g) :
    Calls Try.prog 75 #[.pointer (some ⟨g, 0, none⟩)] w (DrewOptions w B g) := by
  have hlt := hcur.lt
  have hlow := hcur.low
  go_enter Try.func75, Try.ntmps75
  go_wp2_with fail
  refine (sNoOptions_any _).mono ?_
  rintro e w1 ⟨rfl, hb1⟩
  obtain ⟨hc1, hf1⟩ := bcell hb1
  have hz1 := hb1.size
  (try simp at hz1)
  have hy1_0 : w.heap.size < w1.heap.size := by omega
  have hc1 : Cur w1 B g := Cur.below (Cur.alloc hcur _) hb1
  have hI1 : OInv w B g w.heap.size w1.heap.size (w1.alloc (.cells #[.int .i64 0, .int .i64 (-1), .bool false, .bool false, .int .i64 0, .int .i64 0] 42)) :=
    ⟨hc1.alloc _, ⟨_, _, _, _, _, _, ⟨by omega, by omega⟩, ⟨by omega, by omega⟩, ⟨by omega, by omega⟩, ⟨by omega, by omega⟩, heap_alloc_new _ _⟩,
      (Below.heap_alloc _ _ _ (by omega)).trans ((hb1.block _ (by simp)).trans (heap_alloc_new _ _)), only_alloc (only_trans (World.grownBy_alloc _ _ _) (only_of_below hb1 _)) _, by omega, by omega, by omega, by omega⟩
  have hq : B ≤ w1.heap.size := by omega
  go_wp2_with fail
  refine (l1Once_any (B := B) (hc1.alloc _) 3 (by omega) (by omega)).mono ?_
  rintro e w2 ⟨x2, rfl, hc2, ho2⟩
  have hI2 := hI1.step hc2 ho2
  clear hc1 hI1 hb1 hf1 ho2
  go_upto_if 7 with fail
  go_cut [] (fun wx => OInv w B g w.heap.size w1.heap.size wx)
  case first =>
    cases x2
    · go_wp2_with fail
      refine (l1Pick_new (B := B) 0 65535 hI2.cur (by rfl) (by omega) (by omega) (by kernel_rfl)).mono ?_
      rintro e w3 ⟨x3, rfl, ⟨hl3, hh3⟩, hc3, ho3⟩
      have hlt3 := hc3.lt
      have hI3 := (hI2.alloc _).step hc3 ho3
      obtain ⟨_, _, _, _, _, _, _, _, _, _, hh⟩ := hI3.opt
      have hcell := cell_of_row _ _ 0 _ _ _ hh
      have hfr := frozen_of_row _ _ 0 _ _ hh
      simp at hcell
      clear hh
      clear hI2 ho3
      go_wp2_with fail
      go_meet
      exact hI3.set hq 0 _ (.inl ⟨_, ⟨by omega, by omega⟩, rfl, .inl rfl⟩)
    · go_wp2_with fail
      go_meet
      exact hI2
  case rest =>
    clear hI2 hc2
    have hI2 : OInv w B g w.heap.size w1.heap.size wc := hcut
    clear hcut
    go_wp2_with fail
    refine (l1Once_any hI2.cur 2 (by omega) (by omega)).mono ?_
    rintro e w3 ⟨x3, rfl, hc3, ho3⟩
    have hlt3 := hc3.lt
    have hI3 := hI2.step hc3 ho3
    clear hI2 ho3
    go_upto_if 13 with fail
    go_cut [] (fun wx => OInv w B g w.heap.size w1.heap.size wx)
    case first =>
      cases x3
      · go_wp2_with fail
        go_meet
        exact hI3
      · go_wp2_with fail
        refine (l1Below_any hI3.cur 15 (by omega) (by omega)).mono ?_
        rintro e w4 ⟨x4, rfl, ⟨hl4, hh4⟩, hc4, ho4⟩
        have hlt4 := hc4.lt
        have hI4 := hI3.step hc4 ho4
        obtain ⟨_, _, _, _, _, _, _, _, _, _, hh⟩ := hI4.opt
        have hcell := cell_of_row _ _ 1 _ _ _ hh
        have hfr := frozen_of_row _ _ 1 _ _ hh
        simp at hcell
        clear hh
        clear hI3 ho4
        go_wp2_with fail
        go_meet
        exact hI4.set hq 1 _ (.inl ⟨_, ⟨by omega, by omega⟩, rfl, .inr (.inl rfl)⟩)
    case rest =>
      clear hI3 hc3
      have hI3 := hcut
      clear hcut
      go_wp2_with fail
      refine (l1Once_any hI3.cur 2 (by omega) (by omega)).mono ?_
      rintro e w4 ⟨x4, rfl, hc4, ho4⟩
      have hlt4 := hc4.lt
      have hI4 := hI3.step hc4 ho4
      obtain ⟨_, _, _, _, _, _, _, _, _, _, hh⟩ := hI4.opt
      have hcell := cell_of_row _ _ 2 _ _ _ hh
      have hfr := frozen_of_row _ _ 2 _ _ hh
      simp at hcell
      clear hh
      clear hI3 ho4
      go_wp2_with fail
      have hI5 := hI4.set hq 2 (.bool x4) (.inr ⟨_, rfl, .inl rfl⟩)
      clear hcell hfr hI4
      refine (l1Once_any hI5.cur 2 (by omega) (by omega)).mono ?_
      rintro e w5 ⟨x5, rfl, hc5, ho5⟩
      have hI6 := hI5.step hc5 ho5
      clear hI5 ho5
      go_upto_if 21 with fail
      go_cut [] (fun wx => OInv w B g w.heap.size w1.heap.size wx)
      case first =>
        cases x5
        · go_wp2_with fail
          go_meet
          exact hI6
        · have hI7 := hI6.set hq 3 (.bool true) (.inr ⟨_, rfl, .inr rfl⟩)
          obtain ⟨_, _, _, _, _, _, _, _, _, _, hh⟩ := hI6.opt
          have hcell := cell_of_row _ _ 3 _ _ _ hh
          have hfr := frozen_of_row _ _ 3 _ _ hh
          simp at hcell
          clear hh
          go_wp2_with fail
          clear hcell hfr
          refine (l2Deep_any hI7.cur).mono ?_
          rintro e w6 ⟨x6, rfl, ⟨hl6, hh6⟩, hc6, ho6⟩
          have hI8 := hI7.step hc6 ho6
          have hI9 := hI8.set hq 4 (.int .i64 x6) (.inl ⟨_, ⟨by omega, by omega⟩, rfl, .inr (.inr (.inl rfl))⟩)
          obtain ⟨_, _, _, _, _, _, _, _, _, _, hh⟩ := hI8.opt
          have hcell := cell_of_row _ _ 4 _ _ _ hh
          have hfr := frozen_of_row _ _ 4 _ _ hh
          simp at hcell
          clear hh
          go_wp2_with fail
          clear hcell hfr
          refine (l2Deep_any hI9.cur).mono ?_
          rintro e w7 ⟨x7, rfl, ⟨hl7, hh7⟩, hc7, ho7⟩
          have hI10 := hI9.step hc7 ho7
          obtain ⟨_, _, _, _, _, _, _, _, _, _, hh⟩ := hI10.opt
          have hcell := cell_of_row _ _ 5 _ _ _ hh
          have hfr := frozen_of_row _ _ 5 _ _ hh
          simp at hcell
          clear hh
          go_wp2_with fail
          go_meet
          exact hI10.set hq 5 _ (.inl ⟨_, ⟨by omega, by omega⟩, rfl, .inr (.inr (.inr rfl))⟩)
      case rest =>
        obtain ⟨a, b, c, d, p, s, ha, hb, hp, hs, hh⟩ := hcut.opt
        have k0 := cell_of_row _ _ 0 _ _ _ hh
        have k1 := cell_of_row _ _ 1 _ _ _ hh
        have k2 := cell_of_row _ _ 2 _ _ _ hh
        have k3 := cell_of_row _ _ 3 _ _ _ hh
        have k4 := cell_of_row _ _ 4 _ _ _ hh
        have k5 := cell_of_row _ _ 5 _ _ _ hh
        have r0 := cell_of_row _ _ 0 _ _ _ hcut.res
        have r1 := cell_of_row _ _ 1 _ _ _ hcut.res
        have r2 := cell_of_row _ _ 2 _ _ _ hcut.res
        have r3 := cell_of_row _ _ 3 _ _ _ hcut.res
        have r4 := cell_of_row _ _ 4 _ _ _ hcut.res
        have r5 := cell_of_row _ _ 5 _ _ _ hcut.res
        have f0 := frozen_of_row _ _ 0 _ _ hcut.res
        have f1 := frozen_of_row _ _ 1 _ _ hcut.res
        have f2 := frozen_of_row _ _ 2 _ _ hcut.res
        have f3 := frozen_of_row _ _ 3 _ _ hcut.res
        have f4 := frozen_of_row _ _ 4 _ _ hcut.res
        have f5 := frozen_of_row _ _ 5 _ _ hcut.res
        simp at k0 k1 k2 k3 k4 k5 r0 r1 r2 r3 r4 r5
        have hr := hcut.res
        have hcc := hcut.cur
        have hgg := hcut.grw
        have hnrg := hcut.nrg
        clear hI6 hc5 hc4 hh hcut hz1 hy1_0
        go_wp2_with fail
        apply bodyPost_ret (results_cell_row (P := Try.prog) (fn := Try.f75) rfl _ _ _ 42 _ (0, 0) _ rfl _ Try.underlying42 rfl _) rfl
        rotate_left 2
        · repeat (first | (with_reducible apply heap_setCell_same) | (with_reducible exact hr) | (with_reducible refine (heap_setCell_other _ _ _ _ (by first | omega | (simp; done) | (simp; omega))).trans ?_) | (with_reducible refine (Below.heap_alloc _ _ _ (by first | omega | (simp; done) | (simp; omega))).trans ?_))
        · kernel_rfl
        refine ⟨a, b, c, d, p, s, by simp, ha, hb, hp, hs, ?_, ?_⟩
        · exact (by repeat (first | with_reducible assumption | with_reducible refine Cur.alloc ?_ _ | with_reducible refine Cur.drew ?_ | with_reducible refine Cur.setOther ?_ (by first | omega | (simp; done) | (simp; omega)) (by first | omega | (simp; done) | (simp; omega)) _))
        · exact (by repeat (first | with_reducible assumption | with_reducible exact World.grownBy.refl _ _ | with_reducible refine only_alloc ?_ _ | with_reducible refine only_drew ?_ | with_reducible refine only_drewN ?_ _ | with_reducible refine only_setNew ?_ (by first | omega | (simp; done) | (simp; omega)) _ | (with_reducible refine only_trans ?_ (by with_reducible assumption))))

theorem l8Bent_any {w : World} {B g : Nat} (hcur : Cur w B g) :
    Calls Try.prog 69 #[.pointer (some ⟨g, 0, none⟩)] w (DrewOptions w B g) := by
  have hlt := hcur.lt
  have hlow := hcur.low
  go_enter Try.func69, Try.ntmps69
  go_wp2_with fail
  refine (l8Options_any (B := B) (by repeat (first | with_reducible assumption | with_reducible refine Cur.alloc ?_ _ | with_reducible refine Cur.drew ?_ | with_reducible refine Cur.setOther ?_ (by first | omega | (simp; done) | (simp; omega)) (by first | omega | (simp; done) | (simp; omega)) _))).mono ?_
  rintro e w1 ⟨x1a, x1b, x1c, x1d, x1p, x1q, rfl, hi1a, hi1b, hi1p, hi1q, hc1, ho1⟩
  have hlt1 := hc1.lt
  obtain ⟨hd1, hf1⟩ := gcell ho1
  have hz1 := ho1.size
  (try simp at hz1)
  have hy1_0 : w.heap.size < w1.heap.size := by omega
  have hn1_0 : ¬ w.heap.size = g := by omega
  have hI1 : OInv w B g w.heap.size w1.heap.size (w1.alloc (.cells #[.int .i64 x1a, .int .i64 x1b, .bool x1c, .bool x1d, .int .i64 x1p, .int .i64 x1q] 42)) :=
    ⟨hc1.alloc _, ⟨_, _, _, _, _, _, hi1a, hi1b, hi1p, hi1q, heap_alloc_new _ _⟩,
      (Below.heap_alloc _ _ _ (by omega)).trans ((grow ho1 (by simp) (by omega)).trans (heap_alloc_new _ _)), only_alloc (only_trans (World.grownBy_alloc _ _ _) ho1) _, by omega, by omega, by omega, by omega⟩
  have hq : B ≤ w1.heap.size := by omega
  go_wp2_with fail
  refine (l1Below_any (B := B) (hc1.alloc _) 10 (by omega) (by omega)).mono ?_
  rintro e w2 ⟨x2, rfl, ⟨hl2, hh2⟩, hc2, ho2⟩
  have hI2 := hI1.step hc2 ho2
  clear hc1 hI1 hf1 ho1 ho2 hd1
  by_cases k0 : x2 = 0
  · subst k0
    go_wp2_with fail
    refine (l2Word_any hI2.cur).mono ?_
    rintro e w3 ⟨x3, rfl, hi3, hc3, ho3⟩
    have hlt3 := hc3.lt
    have hI3 := hI2.step hc3 ho3
    clear hI2 hc2 hc3 ho3
    obtain ⟨a, b, c, d, p, s, ha, hb, hp, hs, hh⟩ := hI3.opt
    have k0 := cell_of_row _ _ 0 _ _ _ hh
    have k1 := cell_of_row _ _ 1 _ _ _ hh
    have k2 := cell_of_row _ _ 2 _ _ _ hh
    have k3 := cell_of_row _ _ 3 _ _ _ hh
    have k4 := cell_of_row _ _ 4 _ _ _ hh
    have k5 := cell_of_row _ _ 5 _ _ _ hh
    have fk0 := frozen_of_row _ _ 0 _ _ hh
    have fk1 := frozen_of_row _ _ 1 _ _ hh
    have fk2 := frozen_of_row _ _ 2 _ _ hh
    have fk3 := frozen_of_row _ _ 3 _ _ hh
    have fk4 := frozen_of_row _ _ 4 _ _ hh
    have fk5 := frozen_of_row _ _ 5 _ _ hh
    have r0 := cell_of_row _ _ 0 _ _ _ hI3.res
    have r1 := cell_of_row _ _ 1 _ _ _ hI3.res
    have r2 := cell_of_row _ _ 2 _ _ _ hI3.res
    have r3 := cell_of_row _ _ 3 _ _ _ hI3.res
    have r4 := cell_of_row _ _ 4 _ _ _ hI3.res
    have r5 := cell_of_row _ _ 5 _ _ _ hI3.res
    have f0 := frozen_of_row _ _ 0 _ _ hI3.res
    have f1 := frozen_of_row _ _ 1 _ _ hI3.res
    have f2 := frozen_of_row _ _ 2 _ _ hI3.res
    have f3 := frozen_of_row _ _ 3 _ _ hI3.res
    have f4 := frozen_of_row _ _ 4 _ _ hI3.res
    have f5 := frozen_of_row _ _ 5 _ _ hI3.res
    simp at k0 k1 k2 k3 k4 k5 r0 r1 r2 r3 r4 r5
    have hr := hI3.res
    have hcc := hI3.cur
    have hgg := hI3.grw
    have hnrg := hI3.nrg
    have hnq := hI3.neq
    have hng := hI3.neg
    clear hI3 hh
    go_wp2_with fail
    apply bodyPost_ret (results_cell_row (P := Try.prog) (fn := Try.f69) rfl _ _ _ 42 _ (0, 0) _ rfl _ Try.underlying42 rfl _) rfl
    rotate_left 2
    · repeat (first | (with_reducible apply heap_setCell_same) | (with_reducible exact hr) | (with_reducible refine (heap_setCell_other _ _ _ _ (by first | omega | (simp; done) | (simp; omega))).trans ?_) | (with_reducible refine (Below.heap_alloc _ _ _ (by first | omega | (simp; done) | (simp; omega))).trans ?_))
    · kernel_rfl
    exact ⟨x3, b, c, d, p, s, by simp, hi3, hb, hp, hs, (by repeat (first | with_reducible assumption | with_reducible refine Cur.alloc ?_ _ | with_reducible refine Cur.drew ?_ | with_reducible refine Cur.setOther ?_ (by first | omega | (simp; done) | (simp; omega)) (by first | omega | (simp; done) | (simp; omega)) _)), (by repeat (first | with_reducible assumption | with_reducible exact World.grownBy.refl _ _ | with_reducible refine only_alloc ?_ _ | with_reducible refine only_drew ?_ | with_reducible refine only_drewN ?_ _ | with_reducible refine only_setNew ?_ (by first | omega | (simp; done) | (simp; omega)) _ | (with_reducible refine only_trans ?_ (by with_reducible assumption))))⟩
  by_cases k1 : x2 = 1
  · subst k1
    go_wp2_with fail
    refine (l1Pick_new (B := B) (-2) 15 hI2.cur (by rfl) (by omega) (by omega) (by kernel_rfl)).mono ?_
    rintro e w3 ⟨x3, rfl, ⟨hl3, hh3⟩, hc3, ho3⟩
    have hlt3 := hc3.lt
    have hI3 := (hI2.alloc _).step hc3 ho3
    clear hI2 hc2 hc3 ho3
    obtain ⟨a, b, c, d, p, s, ha, hb, hp, hs, hh⟩ := hI3.opt
    have k0 := cell_of_row _ _ 0 _ _ _ hh
    have k1 := cell_of_row _ _ 1 _ _ _ hh
    have k2 := cell_of_row _ _ 2 _ _ _ hh
    have k3 := cell_of_row _ _ 3 _ _ _ hh
    have k4 := cell_of_row _ _ 4 _ _ _ hh
    have k5 := cell_of_row _ _ 5 _ _ _ hh
    have fk0 := frozen_of_row _ _ 0 _ _ hh
    have fk1 := frozen_of_row _ _ 1 _ _ hh
    have fk2 := frozen_of_row _ _ 2 _ _ hh
    have fk3 := frozen_of_row _ _ 3 _ _ hh
    have fk4 := frozen_of_row _ _ 4 _ _ hh
    have fk5 := frozen_of_row _ _ 5 _ _ hh
    have r0 := cell_of_row _ _ 0 _ _ _ hI3.res
    have r1 := cell_of_row _ _ 1 _ _ _ hI3.res
    have r2 := cell_of_row _ _ 2 _ _ _ hI3.res
    have r3 := cell_of_row _ _ 3 _ _ _ hI3.res
    have r4 := cell_of_row _ _ 4 _ _ _ hI3.res
    have r5 := cell_of_row _ _ 5 _ _ _ hI3.res
    have f0 := frozen_of_row _ _ 0 _ _ hI3.res
    have f1 := frozen_of_row _ _ 1 _ _ hI3.res
    have f2 := frozen_of_row _ _ 2 _ _ hI3.res
    have f3 := frozen_of_row _ _ 3 _ _ hI3.res
    have f4 := frozen_of_row _ _ 4 _ _ hI3.res
    have f5 := frozen_of_row _ _ 5 _ _ hI3.res
    simp at k0 k1 k2 k3 k4 k5 r0 r1 r2 r3 r4 r5
    have hr := hI3.res
    have hcc := hI3.cur
    have hgg := hI3.grw
    have hnrg := hI3.nrg
    have hnq := hI3.neq
    have hng := hI3.neg
    clear hI3 hh
    go_wp2_with fail
    apply bodyPost_ret (results_cell_row (P := Try.prog) (fn := Try.f69) rfl _ _ _ 42 _ (0, 0) _ rfl _ Try.underlying42 rfl _) rfl
    rotate_left 2
    · repeat (first | (with_reducible apply heap_setCell_same) | (with_reducible exact hr) | (with_reducible refine (heap_setCell_other _ _ _ _ (by first | omega | (simp; done) | (simp; omega))).trans ?_) | (with_reducible refine (Below.heap_alloc _ _ _ (by first | omega | (simp; done) | (simp; omega))).trans ?_))
    · kernel_rfl
    exact ⟨a, x3, c, d, p, s, by simp, ha, ⟨by omega, by omega⟩, hp, hs, (by repeat (first | with_reducible assumption | with_reducible refine Cur.alloc ?_ _ | with_reducible refine Cur.drew ?_ | with_reducible refine Cur.setOther ?_ (by first | omega | (simp; done) | (simp; omega)) (by first | omega | (simp; done) | (simp; omega)) _)), (by repeat (first | with_reducible assumption | with_reducible exact World.grownBy.refl _ _ | with_reducible refine only_alloc ?_ _ | with_reducible refine only_drew ?_ | with_reducible refine only_drewN ?_ _ | with_reducible refine only_setNew ?_ (by first | omega | (simp; done) | (simp; omega)) _ | (with_reducible refine only_trans ?_ (by with_reducible assumption))))⟩
  by_cases k2 : x2 = 2
  · subst k2
    clear hc2
    obtain ⟨a, b, c, d, p, s, ha, hb, hp, hs, hh⟩ := hI2.opt
    have k0 := cell_of_row _ _ 0 _ _ _ hh
    have k1 := cell_of_row _ _ 1 _ _ _ hh
    have k2 := cell_of_row _ _ 2 _ _ _ hh
    have k3 := cell_of_row _ _ 3 _ _ _ hh
    have k4 := cell_of_row _ _ 4 _ _ _ hh
    have k5 := cell_of_row _ _ 5 _ _ _ hh
    have fk0 := frozen_of_row _ _ 0 _ _ hh
    have fk1 := frozen_of_row _ _ 1 _ _ hh
    have fk2 := frozen_of_row _ _ 2 _ _ hh
    have fk3 := frozen_of_row _ _ 3 _ _ hh
    have fk4 := frozen_of_row _ _ 4 _ _ hh
    have fk5 := frozen_of_row _ _ 5 _ _ hh
    have r0 := cell_of_row _ _ 0 _ _ _ hI2.res
    have r1 := cell_of_row _ _ 1 _ _ _ hI2.res
    have r2 := cell_of_row _ _ 2 _ _ _ hI2.res
    have r3 := cell_of_row _ _ 3 _ _ _ hI2.res
    have r4 := cell_of_row _ _ 4 _ _ _ hI2.res
    have r5 := cell_of_row _ _ 5 _ _ _ hI2.res
    have f0 := frozen_of_row _ _ 0 _ _ hI2.res
    have f1 := frozen_of_row _ _ 1 _ _ hI2.res
    have f2 := frozen_of_row _ _ 2 _ _ hI2.res
    have f3 := frozen_of_row _ _ 3 _ _ hI2.res
    have f4 := frozen_of_row _ _ 4 _ _ hI2.res
    have f5 := frozen_of_row _ _ 5 _ _ hI2.res
    simp at k0 k1 k2 k3 k4 k5 r0 r1 r2 r3 r4 r5
    have hr := hI2.res
    have hcc := hI2.cur
    have hgg := hI2.grw
    have hnrg := hI2.nrg
    have hnq := hI2.neq
    have hng := hI2.neg
    clear hI2 hh
    go_wp2_with fail
    apply bodyPost_ret (results_cell_row (P := Try.prog) (fn := Try.f69) rfl _ _ _ 42 _ (0, 0) _ rfl _ Try.underlying42 rfl _) rfl
    rotate_left 2
    · repeat (first | (with_reducible apply heap_setCell_same) | (with_reducible exact hr) | (with_reducible refine (heap_setCell_other _ _ _ _ (by first | omega | (simp; done) | (simp; omega))).trans ?_) | (with_reducible refine (Below.heap_alloc _ _ _ (by first | omega | (simp; done) | (simp; omega))).trans ?_))
    · kernel_rfl
    exact ⟨a, b, c, !d, p, s, by simp, ha, hb, hp, hs, (by repeat (first | with_reducible assumption | with_reducible refine Cur.alloc ?_ _ | with_reducible refine Cur.drew ?_ | with_reducible refine Cur.setOther ?_ (by first | omega | (simp; done) | (simp; omega)) (by first | omega | (simp; done) | (simp; omega)) _)), (by repeat (first | with_reducible assumption | with_reducible exact World.grownBy.refl _ _ | with_reducible refine only_alloc ?_ _ | with_reducible refine only_drew ?_ | with_reducible refine only_drewN ?_ _ | with_reducible refine only_setNew ?_ (by first | omega | (simp; done) | (simp; omega)) _ | (with_reducible refine only_trans ?_ (by with_reducible assumption))))⟩
  by_cases k3 : x2 = 3
  · subst k3
    go_wp2_with fail
    refine (l2Word_any hI2.cur).mono ?_
    rintro e w3 ⟨x3, rfl, hi3, hc3, ho3⟩
    have hlt3 := hc3.lt
    have hI3 := hI2.step hc3 ho3
    clear hI2 hc2 hc3 ho3
    obtain ⟨a, b, c, d, p, s, ha, hb, hp, hs, hh⟩ := hI3.opt
    have k0 := cell_of_row _ _ 0 _ _ _ hh
    have k1 := cell_of_row _ _ 1 _ _ _ hh
    have k2 := cell_of_row _ _ 2 _ _ _ hh
    have k3 := cell_of_row _ _ 3 _ _ _ hh
    have k4 := cell_of_row _ _ 4 _ _ _ hh
    have k5 := cell_of_row _ _ 5 _ _ _ hh
    have fk0 := frozen_of_row _ _ 0 _ _ hh
    have fk1 := frozen_of_row _ _ 1 _ _ hh
    have fk2 := frozen_of_row _ _ 2 _ _ hh
    have fk3 := frozen_of_row _ _ 3 _ _ hh
    have fk4 := frozen_of_row _ _ 4 _ _ hh
    have fk5 := frozen_of_row _ _ 5 _ _ hh
    have r0 := cell_of_row _ _ 0 _ _ _ hI3.res
    have r1 := cell_of_row _ _ 1 _ _ _ hI3.res
    have r2 := cell_of_row _ _ 2 _ _ _ hI3.res
    have r3 := cell_of_row _ _ 3 _ _ _ hI3.res
    have r4 := cell_of_row _ _ 4 _ _ _ hI3.res
    have r5 := cell_of_row _ _ 5 _ _ _ hI3.res
    have f0 := frozen_of_row _ _ 0 _ _ hI3.res
    have f1 := frozen_of_row _ _ 1 _ _ hI3.res
    have f2 := frozen_of_row _ _ 2 _ _ hI3.res
    have f3 := frozen_of_row _ _ 3 _ _ hI3.res
    have f4 := frozen_of_row _ _ 4 _ _ hI3.res
    have f5 := frozen_of_row _ _ 5 _ _ hI3.res
    simp at k0 k1 k2 k3 k4 k5 r0 r1 r2 r3 r4 r5
    have hr := hI3.res
    have hcc := hI3.cur
    have hgg := hI3.grw
    have hnrg := hI3.nrg
    have hnq := hI3.neq
    have hng := hI3.neg
    clear hI3 hh
    go_wp2_with fail
    apply bodyPost_ret (results_cell_row (P := Try.prog) (fn := Try.f69) rfl _ _ _ 42 _ (0, 0) _ rfl _ Try.underlying42 rfl _) rfl
    rotate_left 2
    · repeat (first | (with_reducible apply heap_setCell_same) | (with_reducible exact hr) | (with_reducible refine (heap_setCell_other _ _ _ _ (by first | omega | (simp; done) | (simp; omega))).trans ?_) | (with_reducible refine (Below.heap_alloc _ _ _ (by first | omega | (simp; done) | (simp; omega))).trans ?_))
    · kernel_rfl
    exact ⟨a, b, c, d, x3, s, by simp, ha, hb, hi3, hs, (by repeat (first | with_reducible assumption | with_reducible refine Cur.alloc ?_ _ | with_reducible refine Cur.drew ?_ | with_reducible refine Cur.setOther ?_ (by first | omega | (simp; done) | (simp; omega)) (by first | omega | (simp; done) | (simp; omega)) _)), (by repeat (first | with_reducible assumption | with_reducible exact World.grownBy.refl _ _ | with_reducible refine only_alloc ?_ _ | with_reducible refine only_drew ?_ | with_reducible refine only_drewN ?_ _ | with_reducible refine only_setNew ?_ (by first | omega | (simp; done) | (simp; omega)) _ | (with_reducible refine only_trans ?_ (by with_reducible assumption))))⟩
  have e0 : (x2 == 0) = false := by simpa using k0
  have e1 : (x2 == 1) = false := by simpa using k1
  have e2 : (x2 == 2) = false := by simpa using k2
  have e3 : (x2 == 3) = false := by simpa using k3
  clear k0 k1 k2 k3 hc2
  obtain ⟨a, b, c, d, p, s, ha, hb, hp, hs, hh⟩ := hI2.opt
  have k0 := cell_of_row _ _ 0 _ _ _ hh
  have k1 := cell_of_row _ _ 1 _ _ _ hh
  have k2 := cell_of_row _ _ 2 _ _ _ hh
  have k3 := cell_of_row _ _ 3 _ _ _ hh
  have k4 := cell_of_row _ _ 4 _ _ _ hh
  have k5 := cell_of_row _ _ 5 _ _ _ hh
  have fk0 := frozen_of_row _ _ 0 _ _ hh
  have fk1 := frozen_of_row _ _ 1 _ _ hh
  have fk2 := frozen_of_row _ _ 2 _ _ hh
  have fk3 := frozen_of_row _ _ 3 _ _ hh
  have fk4 := frozen_of_row _ _ 4 _ _ hh
  have fk5 := frozen_of_row _ _ 5 _ _ hh
  have r0 := cell_of_row _ _ 0 _ _ _ hI2.res
  have r1 := cell_of_row _ _ 1 _ _ _ hI2.res
  have r2 := cell_of_row _ _ 2 _ _ _ hI2.res
  have r3 := cell_of_row _ _ 3 _ _ _ hI2.res
  have r4 := cell_of_row _ _ 4 _ _ _ hI2.res
  have r5 := cell_of_row _ _ 5 _ _ _ hI2.res
  have f0 := frozen_of_row _ _ 0 _ _ hI2.res
  have f1 := frozen_of_row _ _ 1 _ _ hI2.res
  have f2 := frozen_of_row _ _ 2 _ _ hI2.res
  have f3 := frozen_of_row _ _ 3 _ _ hI2.res
  have f4 := frozen_of_row _ _ 4 _ _ hI2.res
  have f5 := frozen_of_row _ _ 5 _ _ hI2.res
  simp at k0 k1 k2 k3 k4 k5 r0 r1 r2 r3 r4 r5
  have hr := hI2.res
  have hcc := hI2.cur
  have hgg := hI2.grw
  have hnrg := hI2.nrg
  have hnq := hI2.neq
  have hng := hI2.neg
  clear hI2 hh
  go_wp2_with fail
  apply bodyPost_ret (results_cell_row (P := Try.prog) (fn := Try.f69) rfl _ _ _ 42 _ (0, 0) _ rfl _ Try.underlying42 rfl _) rfl
  rotate_left 2
  · repeat (first | (with_reducible apply heap_setCell_same) | (with_reducible exact hr) | (with_reducible refine (heap_setCell_other _ _ _ _ (by first | omega | (simp; done) | (simp; omega))).trans ?_) | (with_reducible refine (Below.heap_alloc _ _ _ (by first | omega | (simp; done) | (simp; omega))).trans ?_))
  · kernel_rfl
  exact ⟨a, b, c, d, p, s, by simp, ha, hb, hp, hs, (by repeat (first | with_reducible assumption | with_reducible refine Cur.alloc ?_ _ | with_reducible refine Cur.drew ?_ | with_reducible refine Cur.setOther ?_ (by first | omega | (simp; done) | (simp; omega)) (by first | omega | (simp; done) | (simp; omega)) _)), (by repeat (first | with_reducible assumption | with_reducible exact World.grownBy.refl _ _ | with_reducible refine only_alloc ?_ _ | with_reducible refine only_drew ?_ | with_reducible refine only_drewN ?_ _ | with_reducible refine only_setNew ?_ (by first | omega | (simp; done) | (simp; omega)) _ | (with_reducible refine only_trans ?_ (by with_reducible assumption))))⟩

def DrawnOptions (w : World) (e : Ending) (w' : World) : Prop :=
  ∃ (a b : Int) (c d : Bool) (p q k : Int), e = .returned (.tuple #[.agg #[.int .i64 a, .int .i64 b, .bool c, .bool d, .int .i64 p, .int .i64 q], .int .i64 k]) ∧ I64 a ∧ I64 b ∧ I64 p ∧ I64 q ∧ I64 k ∧ Below w.heap.size w w'
theorem DrawAnswerOptions_any {w : World} {A : Option Addr} {n c : Nat} (hn : n ≤ maxLen) (hb : Byts w w.heap.size A n) :
    Calls Try.prog 52 #[.slice A n c] w (DrawnOptions w) := by
  go_enter Try.func52, Try.ntmps52
  go_wp2_with fail
  refine (l1New_any hn (hb.below ((Below.refl _ _).alloc (Nat.le_refl _) _))).mono ?_
  rintro e w1 ⟨g, rfl, hc1, hb1⟩
  have hlt1 := hc1.lt
  have hz1 := hb1.size
  have hlow := hc1.low
  simp at hz1 hlow
  go_wp2_with fail
  refine (l8Bent_any hc1).mono ?_
  rintro e w2 ⟨x2a, x2b, x2c, x2d, x2p, x2q, rfl, hi2a, hi2b, hi2p, hi2q, hc2, ho2⟩
  have hlt2 := hc2.lt
  obtain ⟨hd2, hf2⟩ := gcell ho2
  have hz2 := ho2.size
  (try simp at hz2)
  have hy2_0 : w.heap.size < w2.heap.size := by omega
  have hn2_0 : ¬ w.heap.size = g := by omega
  go_wp2_with fail
  refine (l4Place_any hc2).mono ?_
  rintro e w3 ⟨x3, rfl, hi3, hc3, ho3⟩
  have hlt3 := hc3.lt
  obtain ⟨hd3, hf3⟩ := gcell ho3
  have hz3 := ho3.size
  (try simp at hz3)
  have hy3_0 : w.heap.size < w3.heap.size := by omega
  have hn3_0 : ¬ w.heap.size = g := by omega
  have hr : w3.heap[w.heap.size]? = some (.cells #[.int .i64 0, .int .i64 0, .bool false, .bool false, .int .i64 0, .int .i64 0] 42 (0, 0)) := (grow ho3 (by omega) (by omega)).trans ((grow ho2 (by omega) (by omega)).trans ((hb1.block _ (by simp)).trans (heap_alloc_new _ _)))
  clear hd2 hf2 hd3 hf3
  have r0_hr := cell_of_row _ _ 0 _ _ _ hr
  have r1_hr := cell_of_row _ _ 1 _ _ _ hr
  have r2_hr := cell_of_row _ _ 2 _ _ _ hr
  have r3_hr := cell_of_row _ _ 3 _ _ _ hr
  have r4_hr := cell_of_row _ _ 4 _ _ _ hr
  have r5_hr := cell_of_row _ _ 5 _ _ _ hr
  have f0_hr := frozen_of_row _ _ 0 _ _ hr
  have f1_hr := frozen_of_row _ _ 1 _ _ hr
  have f2_hr := frozen_of_row _ _ 2 _ _ hr
  have f3_hr := frozen_of_row _ _ 3 _ _ hr
  have f4_hr := frozen_of_row _ _ 4 _ _ hr
  have f5_hr := frozen_of_row _ _ 5 _ _ hr
  simp at r0_hr r1_hr r2_hr r3_hr r4_hr r5_hr
  go_wp2_with fail
  apply bodyPost_ret (results_row_tmp1 (P := Try.prog) (fn := Try.f52) rfl _ _ _ 42 _ (0, 0) _ rfl _ Try.underlying42 rfl _) rfl
  rotate_left 2
  · repeat (first | (with_reducible apply heap_setCell_same) | (with_reducible exact hr) | (with_reducible refine (heap_setCell_other _ _ _ _ (by first | omega | (simp; done) | (simp; omega))).trans ?_) | (with_reducible refine (Below.heap_alloc _ _ _ (by first | omega | (simp; done) | (simp; omega))).trans ?_))
  · kernel_rfl
  have hB : Below w.heap.size w w3 := (((Below.refl _ _).alloc (Nat.le_refl _) _).trans (hb1.mono (by simp))).trans (only_below (g := g) (only_trans ho2 ho3) (by omega) (by omega))
  exact ⟨x2a, x2b, x2c, x2d, x2p, x2q, x3, by simp, hi2a, hi2b, hi2p, hi2q, hi3, (by repeat (first | with_reducible exact Below.refl _ _ | with_reducible assumption | with_reducible refine Below.drew ?_ | with_reducible refine Below.alloc ?_ (by first | exact Nat.le_refl _ | omega | (simp; done) | (simp; omega)) _ | with_reducible refine Below.setCell ?_ (by first | exact Nat.le_refl _ | omega | (simp; done) | (simp; omega)) _ | (with_reducible refine ext_trans ?_ (by with_reducible assumption))))⟩
end Go.Proofs.Yteejcabknpdghaa
