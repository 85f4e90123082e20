/-
  The draws of a Sip and of a word.
-/
import Derived.Test.YtondhgmlemgoaaaKey
namespace Go.Proofs.Ytondhgmlemgoaaa
set_option maxRecDepth 100000
open Go.RowKit
def DrewSip (w : World) (B g : Nat) (e : Ending) (w' : World) : Prop := ∃ s : S4, e = .returned (vS s) ∧ Cur w' B g ∧ w.grownBy w' (some g)
theorem l10Sip_any {w : World} {B g : Nat} (hcur : Cur w B g) :
    Calls Try.prog 58 #[.pointer (some ⟨g, 0, none⟩)] w (DrewSip w B g) := by
  have hlt := hcur.lt
  have hlow := hcur.low
  go_enter Try.func58, Try.ntmps58
  go_wp2_with fail
  refine (l10Key_any (B := B) (by repeat (first | with_reducible assumption | with_reducible refine Cur.alloc ?_ _ | with_reducible refine Cur.drew ?_ | with_reducible refine Cur.setOther ?_ (by first | omega | (simp; done) | (simp; omega)) (by first | omega | (simp; done) | (simp; omega)) _))).mono ?_
  rintro e w1 ⟨x1, rfl, hc1, ho1⟩
  have hlt1 := hc1.lt
  obtain ⟨hd1, hf1⟩ := gcell ho1
  have hz1 := ho1.size
  (try simp at hz1)
  have hy1_0 : w.heap.size < w1.heap.size := by omega
  have hn1_0 : ¬ w.heap.size = g := by omega
  go_wp2_with fail
  refine (l10Key_any (B := B) hc1).mono ?_
  rintro e w2 ⟨x2, rfl, hc2, ho2⟩
  have hlt2 := hc2.lt
  obtain ⟨hd2, hf2⟩ := gcell ho2
  have hz2 := ho2.size
  (try simp at hz2)
  have hy2_0 : w.heap.size < w2.heap.size := by omega
  have hn2_0 : ¬ w.heap.size = g := by omega
  go_wp2_with fail
  refine (l10Key_any (B := B) hc2).mono ?_
  rintro e w3 ⟨x3, rfl, hc3, ho3⟩
  have hlt3 := hc3.lt
  obtain ⟨hd3, hf3⟩ := gcell ho3
  have hz3 := ho3.size
  (try simp at hz3)
  have hy3_0 : w.heap.size < w3.heap.size := by omega
  have hn3_0 : ¬ w.heap.size = g := by omega
  go_wp2_with fail
  refine (l10Key_any (B := B) hc3).mono ?_
  rintro e w4 ⟨x4, rfl, hc4, ho4⟩
  have hlt4 := hc4.lt
  obtain ⟨hd4, hf4⟩ := gcell ho4
  have hz4 := ho4.size
  (try simp at hz4)
  have hy4_0 : w.heap.size < w4.heap.size := by omega
  have hn4_0 : ¬ w.heap.size = g := by omega
  have hr : w4.heap[w.heap.size]? = some (.cells #[.int .u64 0, .int .u64 0, .int .u64 0, .int .u64 0] 26 (0, 0)) := (grow ho4 (by omega) (by omega)).trans ((grow ho3 (by omega) (by omega)).trans ((grow ho2 (by omega) (by omega)).trans ((grow ho1 (by simp) (by omega)).trans (heap_alloc_new _ _))))
  have r0_hr := cell_of_row _ _ 0 _ _ _ hr
  have r1_hr := cell_of_row _ _ 1 _ _ _ hr
  have r2_hr := cell_of_row _ _ 2 _ _ _ hr
  have r3_hr := cell_of_row _ _ 3 _ _ _ hr
  have f0_hr := frozen_of_row _ _ 0 _ _ hr
  have f1_hr := frozen_of_row _ _ 1 _ _ hr
  have f2_hr := frozen_of_row _ _ 2 _ _ hr
  have f3_hr := frozen_of_row _ _ 3 _ _ hr
  simp at r0_hr r1_hr r2_hr r3_hr
  go_wp2_with fail
  apply bodyPost_ret (results_cell_row (P := Try.prog) (fn := Try.f58) rfl _ _ _ 26 _ (0, 0) _ rfl _ Try.underlying26 rfl _) rfl
  rotate_left 2
  · repeat (first | (with_reducible apply heap_setCell_same) | (with_reducible apply drew_row) | (with_reducible apply drewN_row) | (with_reducible exact hr) | (with_reducible refine (heap_setCell_other _ _ _ _ (by first | omega | (simp; done) | (simp; omega))).trans ?_) | (with_reducible refine (Below.heap_alloc _ _ _ (by first | omega | (simp; done) | (simp; omega))).trans ?_))
  · kernel_rfl
  exact ⟨⟨x1, x2, x3, x4⟩, by simp, (by repeat (first | with_reducible assumption | with_reducible refine Cur.alloc ?_ _ | with_reducible refine Cur.drew ?_ | with_reducible refine Cur.setOther ?_ (by first | omega | (simp; done) | (simp; omega)) (by first | omega | (simp; done) | (simp; omega)) _)), (by repeat (first | with_reducible assumption | with_reducible exact World.grownBy.refl _ _ | with_reducible refine only_alloc ?_ _ | with_reducible refine only_drew ?_ | with_reducible refine only_drewN ?_ _ | with_reducible refine only_setNew ?_ (by first | omega | (simp; done) | (simp; omega)) _ | (with_reducible refine only_trans ?_ (by with_reducible assumption))))⟩
theorem Byts.wide {w : World} {B B' : Nat} {A : Option Addr} {n : Nat} (h : Byts w B A n) (hB : B ≤ B') : Byts w B' A n := fun hn => by
  obtain ⟨b, off, e, hb, hc⟩ := h hn
  exact ⟨b, off, e, Nat.lt_of_lt_of_le hb hB, hc⟩
/-- A Sip and a word, drawn. -/
def DrawnSipWord (w : World) (e : Ending) (w' : World) : Prop := ∃ (s : S4) (m : BitVec 64), e = .returned (.tuple #[vS s, .int .u64 (uI m)]) ∧ Below w.heap.size w w'
theorem DrawSipWord_any {w : World} {A : Option Addr} {n c : Nat} (hn : n ≤ maxLen) (hb : Byts w w.heap.size A n) :
    Calls Try.prog 35 #[.slice A n c] w (DrawnSipWord w) := by
  go_enter Try.func35, Try.ntmps35
  go_wp2_with fail
  refine (l1New_any hn (hb.keep (fun b hb => Below.heap_alloc w _ b hb) |>.wide (by simp))).mono ?_
  rintro e w1 ⟨g, rfl, hc1, hb1⟩
  have hlt1 := hc1.lt
  have hz1 := hb1.size
  have hlow := hc1.low
  simp at hz1 hlow
  go_wp2_with fail
  refine (l10Sip_any hc1).mono ?_
  rintro e w2 ⟨s2, rfl, hc2, ho2⟩
  have hz2 := ho2.size
  have hlt2 := hc2.lt
  go_wp2_with fail
  refine (l10Key_any hc2).mono ?_
  rintro e w3 ⟨x3, rfl, hc3, ho3⟩
  have hz3 := ho3.size
  have hr : w3.heap[w.heap.size]? = some (.cells #[.int .u64 0, .int .u64 0, .int .u64 0, .int .u64 0] 26 (0, 0)) := (grow ho3 (by omega) (by omega)).trans ((grow ho2 (by omega) (by omega)).trans ((hb1.block _ (by simp)).trans (heap_alloc_new _ _)))
  have hbw : Below w.heap.size w w3 := ext_trans ((Below.refl _ _).alloc (Nat.le_refl _) _) (hb1.trans (only_below (only_trans ho2 ho3) hb1.size (by simpa using hlow)))
  have r0_hr := cell_of_row _ _ 0 _ _ _ hr
  have r1_hr := cell_of_row _ _ 1 _ _ _ hr
  have r2_hr := cell_of_row _ _ 2 _ _ _ hr
  have r3_hr := cell_of_row _ _ 3 _ _ _ hr
  have f0_hr := frozen_of_row _ _ 0 _ _ hr
  have f1_hr := frozen_of_row _ _ 1 _ _ hr
  have f2_hr := frozen_of_row _ _ 2 _ _ hr
  have f3_hr := frozen_of_row _ _ 3 _ _ hr
  simp at r0_hr r1_hr r2_hr r3_hr
  go_wp2_with fail
  apply bodyPost_ret (results_row_tmp1 (P := Try.prog) (fn := Try.f35) rfl _ _ _ 26 _ (0, 0) _ rfl _ Try.underlying26 rfl _) rfl
  rotate_left 2
  · repeat (first | (with_reducible apply heap_setCell_same) | (with_reducible apply drew_row) | (with_reducible apply drewN_row) | (with_reducible exact hr) | (with_reducible refine (heap_setCell_other _ _ _ _ (by first | omega | (simp; done) | (simp; omega))).trans ?_) | (with_reducible refine (Below.heap_alloc _ _ _ (by first | omega | (simp; done) | (simp; omega))).trans ?_))
  · kernel_rfl
  exact ⟨s2, x3, by simp, (by repeat (first | with_reducible exact Below.refl _ _ | with_reducible assumption | with_reducible refine Below.drew ?_ | with_reducible refine Below.alloc ?_ (by first | exact Nat.le_refl _ | omega | (simp; done) | (simp; omega)) _ | with_reducible refine Below.setCell ?_ (by first | exact Nat.le_refl _ | omega | (simp; done) | (simp; omega)) _ | (with_reducible refine ext_trans ?_ (by with_reducible assumption))))⟩
end Go.Proofs.Ytondhgmlemgoaaa
