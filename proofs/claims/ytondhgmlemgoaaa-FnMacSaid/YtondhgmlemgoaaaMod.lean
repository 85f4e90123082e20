/-
  The draw of a mark's function and an input.
-/
import Derived.Test.YtondhgmlemgoaaaMdr
namespace Go.Proofs.Ytondhgmlemgoaaa
set_option maxRecDepth 100000
open Go.RowKit
/-- A mark's function and an input, drawn. -/
def DrawnMacOf (w : World) (e : Ending) (w' : World) : Prop :=
  ∃ (u : Bool) (k l : BitVec 64) (v : Value) (rs : List RMacRow) (s : ByteArray), e = .returned (.tuple #[vM u (uI k) (uI l) v, .string s]) ∧ OwnMacRow w' w.heap.size v rs ∧ rs.length ≤ 5 ∧ (∀ x ∈ rs, I64 x.2 ∧ x.1.size ≤ 2) ∧ s.size ≤ 2 ∧ Below w.heap.size w w'
theorem Byts.wideM {w : World} {B B' : Nat} {A : Option Addr} {n : Nat} (h : Byts w B A n) (hB : B ≤ B') : Byts w B' A n := fun hn => by
  obtain ⟨b, off, e, hb, hc⟩ := h hn
  exact ⟨b, off, e, Nat.lt_of_lt_of_le hb hB, hc⟩
theorem DrawMacOf_any {w : World} {A : Option Addr} {n c : Nat} (hn : n ≤ maxLen) (hb : Byts w w.heap.size A n) :
    Calls Try.prog 50 #[.slice A n c] w (DrawnMacOf w) := by
  go_enter Try.func50, Try.ntmps50
  go_wp2_with fail
  refine (l1New_any hn (hb.keep (fun b hb => Below.heap_alloc w _ b hb) |>.wideM (by simp))).mono ?_
  rintro e w1 ⟨g, rfl, hc1, hb1⟩
  have hlt1 := hc1.lt
  have hz1 := hb1.size
  have hlow := hc1.low
  simp at hz1 hlow
  go_wp2_with fail
  refine (l11Mac_any hc1).mono ?_
  rintro e w2 ⟨u, k, l, v, rs, rfl, hO2, hl2, hf2, hc2, ho2⟩
  obtain ⟨A2, c2, rfl⟩ := hO2.form
  have HO2 := Lib.hid hO2
  have HF2 := Lib.hid hf2
  clear hO2 hf2
  have hz2 := ho2.size
  have hlt2 := hc2.lt
  go_wp2_with fail
  refine (l1Pick_newS 2 hc2 (by rfl) (by omega) (by omega) (by kernel_rfl)).mono ?_
  rintro e w3 ⟨s, rfl, hs, hc3, ho3⟩
  have hz3 := ho3.size
  simp at hz3
  have HO3 := Lib.hid ((HO2.out.alloc _).grow ho3 hlt1)
  have hr : w3.heap[w.heap.size]? = some (.cells #[.bool false, .int .u64 0, .int .u64 0, .slice none 0 0] 35 (0, 0)) := (grow ho3 (by simp; omega) (by omega)).trans ((Below.heap_alloc _ _ _ (by omega)).trans ((grow ho2 (by omega) (by omega)).trans ((hb1.block _ (by simp)).trans (heap_alloc_new _ _))))
  have hbw : Below w.heap.size w w3 := ext_trans ((Below.refl _ _).alloc (Nat.le_refl _) _) (hb1.trans (only_below (a := w1) (g := g) (by repeat (first | with_reducible assumption | with_reducible exact World.grownBy.refl _ _ | with_reducible refine only_alloc ?_ _ | with_reducible refine only_drew ?_ | with_reducible refine only_drewN ?_ _ | with_reducible refine only_setNew ?_ (by first | omega | (simp; done) | (simp; omega)) _ | (with_reducible refine only_trans ?_ (by with_reducible assumption)))) hb1.size (by simpa using hlow)))
  clear HO2
  have r0_hr := cell_of_row _ _ 0 _ _ _ hr
  have r1_hr := cell_of_row _ _ 1 _ _ _ hr
  have r2_hr := cell_of_row _ _ 2 _ _ _ hr
  have r3_hr := cell_of_row _ _ 3 _ _ _ hr
  have f0_hr := frozen_of_row _ _ 0 _ _ hr
  have f1_hr := frozen_of_row _ _ 1 _ _ hr
  have f2_hr := frozen_of_row _ _ 2 _ _ hr
  have f3_hr := frozen_of_row _ _ 3 _ _ hr
  simp at r0_hr r1_hr r2_hr r3_hr
  go_wp2_with fail
  apply bodyPost_ret (results_row_tmp1 (P := Try.prog) (fn := Try.f50) rfl _ _ _ 35 _ (0, 0) _ rfl _ Try.underlying35 rfl _) rfl
  rotate_left 2
  · repeat (first | (with_reducible apply heap_setCell_same) | (with_reducible apply drew_row) | (with_reducible apply drewN_row) | (with_reducible exact hr) | (with_reducible refine (heap_setCell_other _ _ _ _ (by first | omega | (simp; done) | (simp; omega))).trans ?_) | (with_reducible refine (Below.heap_alloc _ _ _ (by first | omega | (simp; done) | (simp; omega))).trans ?_))
  · kernel_rfl
  exact ⟨u, k, l, .slice A2 rs.length c2, rs, s, by simp, OwnE.mono (base := w1.heap.size) (by repeat (first | with_reducible exact HO3.out | (with_reducible refine OwnE.setBelow ?_ (by first | (simp; done) | (simp; omega)) _) | with_reducible refine OwnE.alloc ?_ _ | with_reducible refine OwnE.drew ?_)) (by omega), hl2, HF2.out, hs, (by repeat (first | with_reducible exact Below.refl _ _ | with_reducible assumption | with_reducible refine Below.drew ?_ | with_reducible refine Below.alloc ?_ (by first | exact Nat.le_refl _ | omega | (simp; done) | (simp; omega)) _ | with_reducible refine Below.setCell ?_ (by first | exact Nat.le_refl _ | omega | (simp; done) | (simp; omega)) _ | (with_reducible refine ext_trans ?_ (by with_reducible assumption))))⟩
end Go.Proofs.Ytondhgmlemgoaaa
