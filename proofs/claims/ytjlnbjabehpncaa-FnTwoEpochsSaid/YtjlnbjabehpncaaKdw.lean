/-
  The draws out of a code: Keys and a mark's function.
-/
import Derived.Test.YtjlnbjabehpncaaKdr
namespace Go.Proofs.Ytjlnbjabehpncaa
set_option maxRecDepth 100000
open Go.RowKit
theorem results_row_row {P : Program} {fn : Func} {p p2 : Tmp} {ty ty2 : TypeId} (h : fn.results = #[.cell p ty, .cell p2 ty2]) (tmps : Array Value) (w : World) (g : Nat) (t : TypeId) (cs : Array Value) (fr : Nat × Nat) (d : TypeDesc)
    (g2 : Nat) (t2 : TypeId) (cs2 : Array Value) (fr2 : Nat × Nat) (d2 : TypeDesc)
    (hp : tmps.getD p undef = .pointer (some ⟨g, 0, none⟩)) (hp2 : tmps.getD p2 undef = .pointer (some ⟨g2, 0, none⟩)) (hg : w.heap[g]? = some (.cells cs t fr)) (hg2 : w.heap[g2]? = some (.cells cs2 t2 fr2))
    (hu : P.underlying ty = some d) (hd : (match d with | .struct _ | .array _ _ => true | _ => false) = true) (hi : (P.info? ty).map (·.size) = some cs.size)
    (hu2 : P.underlying ty2 = some d2) (hd2 : (match d2 with | .struct _ | .array _ _ => true | _ => false) = true) (hi2 : (P.info? ty2).map (·.size) = some cs2.size) :
    (results fn tmps).run P w = .ok (.tuple #[.agg cs, .agg cs2]) w := by
  have hp' : tmps[p]?.getD undef = .pointer (some ⟨g, 0, none⟩) := by simpa using hp
  have hp2' : tmps[p2]?.getD undef = .pointer (some ⟨g2, 0, none⟩) := by simpa using hp2
  simp [results, h, hp', hp2', asAddr, run_loadVar_row w g t ty cs fr d hg hu hd hi, run_loadVar_row w g2 t2 ty2 cs2 fr2 d2 hg2 hu2 hd2 hi2]
def fitRows (rs : List RMacRow) : Prop := rs.length ≤ 5 ∧ ∀ y ∈ rs, I64 y.2 ∧ y.1.size ≤ 2
/-- Keys and a mark's function, drawn. -/
def DrawnRot (w : World) (e : Ending) (w' : World) : Prop :=
  ∃ (x : RKeys) (v1 v2 : Value) (m : RMac) (v3 : Value), e = .returned (.tuple #[vK x v1 v2, vMc m v3]) ∧ OwnMacRow w' w.heap.size v1 x.now.rs ∧ OwnMacRow w' w.heap.size v2 x.bef.rs ∧ OwnMacRow w' w.heap.size v3 m.rs ∧ fitRows x.now.rs ∧ fitRows x.bef.rs ∧ fitRows m.rs ∧ (-1 ≤ x.ep ∧ x.ep ≤ 4294967296) ∧ Below w.heap.size w w'
set_option maxHeartbeats 4000000 in
theorem DrawRotated_any {w : World} {A : Option Addr} {n c : Nat} (hn : n ≤ maxLen) (hb : Byts w w.heap.size A n) :
    Calls Try.prog 13 #[.slice A n c] w (DrawnRot w) := by
  go_enter Try.func13, Try.ntmps13
  go_wp2_with fail
  refine (l1New_any hn (hb.below (by repeat (first | with_reducible exact Below.refl _ _ | with_reducible assumption | with_reducible refine Below.drew ?_ | with_reducible refine Below.alloc ?_ (by first | exact Nat.le_refl _ | omega | (simp; done) | (simp; omega)) _ | with_reducible refine Below.setCell ?_ (by first | exact Nat.le_refl _ | omega | (simp; done) | (simp; omega)) _ | (with_reducible refine ext_trans ?_ (by with_reducible assumption)))))).mono ?_
  rintro e w1 ⟨g, rfl, hc1, hb1⟩
  have hlt1 := hc1.lt
  have hz1 := hb1.size
  have hlow := hc1.low
  simp at hz1 hlow
  go_wp2_with fail
  refine (l13Bent_any hc1).mono ?_
  rintro e w2 ⟨x, v1, v2, rfl, hO1, hO2, ⟨n1, n2⟩, ⟨f1, f2⟩, ⟨he1, he2⟩, hc2, ho2⟩
  obtain ⟨A1, c1, rfl⟩ := hO1.form
  obtain ⟨A2, c2, rfl⟩ := hO2.form
  have HO1 := Lib.hid hO1
  have HO2 := Lib.hid hO2
  have HF1 : Hid (fitRows x.now.rs) := Lib.hid ⟨n1, f1⟩
  have HF2 : Hid (fitRows x.bef.rs) := Lib.hid ⟨n2, f2⟩
  have hz2 := ho2.size
  have hlt2 := hc2.lt
  clear hO1 hO2 f1 f2 n1 n2
  go_wp2_with fail
  refine (l11Mac_any hc2).mono ?_
  rintro e w3 ⟨mu, mk, ml, v3, rs, rfl, hO3, n3, f3, hc3, ho3⟩
  obtain ⟨A3, c3, rfl⟩ := hO3.form
  have HO3 := Lib.hid hO3
  have HF3 : Hid (fitRows rs) := Lib.hid ⟨n3, f3⟩
  have hz3 := ho3.size
  have HP1 := Lib.hid (HO1.out.grow ho3 hlt1)
  have HP2 := Lib.hid (HO2.out.grow ho3 hlt1)
  clear hO3 f3 n3 HO1 HO2
  have hrk : w3.heap[w.heap.size]? = some (.cells #[.int .i64 0, .bool false, .int .u64 0, .int .u64 0, .slice none 0 0, .bool false, .int .u64 0, .int .u64 0, .slice none 0 0, .bool false] 29 (0, 0)) := (grow ho3 (by omega) (by omega)).trans ((grow ho2 (by omega) (by omega)).trans ((hb1.block _ (by first | (simp; done) | (simp; omega))).trans (by repeat (first | exact heap_new _ _ _ (by first | rfl | (simp; done) | (simp; omega)) | refine (Below.heap_alloc _ _ _ (by first | omega | (simp; done) | (simp; omega))).trans ?_))))
  have hrm : w3.heap[w.heap.size + 1]? = some (.cells #[.bool false, .int .u64 0, .int .u64 0, .slice none 0 0] 27 (0, 0)) := (grow ho3 (by omega) (by omega)).trans ((grow ho2 (by omega) (by omega)).trans ((hb1.block _ (by first | (simp; done) | (simp; omega))).trans (by repeat (first | exact heap_new _ _ _ (by first | rfl | (simp; done) | (simp; omega)) | refine (Below.heap_alloc _ _ _ (by first | omega | (simp; done) | (simp; omega))).trans ?_))))
  have hbw : Below w.heap.size w w3 := ext_trans (((Below.refl _ _).alloc (Nat.le_refl _) _).alloc (by simp) _) (hb1.trans (only_below (a := w1) (g := g) (by repeat (first | with_reducible assumption | with_reducible exact World.grownBy.refl _ _ | with_reducible refine only_alloc ?_ _ | with_reducible refine only_drew ?_ | with_reducible refine only_drewN ?_ _ | with_reducible refine only_setNew ?_ (by first | omega | (simp; done) | (simp; omega)) _ | (with_reducible refine only_trans ?_ (by with_reducible assumption)))) hb1.size (by simpa using hlow)))
  have HRK := Lib.hid hrk
  have HRM := Lib.hid hrm
  have r0_hrk := cell_of_row _ _ 0 _ _ _ hrk
  have r1_hrk := cell_of_row _ _ 1 _ _ _ hrk
  have r2_hrk := cell_of_row _ _ 2 _ _ _ hrk
  have r3_hrk := cell_of_row _ _ 3 _ _ _ hrk
  have r4_hrk := cell_of_row _ _ 4 _ _ _ hrk
  have r5_hrk := cell_of_row _ _ 5 _ _ _ hrk
  have r6_hrk := cell_of_row _ _ 6 _ _ _ hrk
  have r7_hrk := cell_of_row _ _ 7 _ _ _ hrk
  have r8_hrk := cell_of_row _ _ 8 _ _ _ hrk
  have r9_hrk := cell_of_row _ _ 9 _ _ _ hrk
  have f0_hrk := frozen_of_row _ _ 0 _ _ hrk
  have f1_hrk := frozen_of_row _ _ 1 _ _ hrk
  have f2_hrk := frozen_of_row _ _ 2 _ _ hrk
  have f3_hrk := frozen_of_row _ _ 3 _ _ hrk
  have f4_hrk := frozen_of_row _ _ 4 _ _ hrk
  have f5_hrk := frozen_of_row _ _ 5 _ _ hrk
  have f6_hrk := frozen_of_row _ _ 6 _ _ hrk
  have f7_hrk := frozen_of_row _ _ 7 _ _ hrk
  have f8_hrk := frozen_of_row _ _ 8 _ _ hrk
  have f9_hrk := frozen_of_row _ _ 9 _ _ hrk
  simp at r0_hrk r1_hrk r2_hrk r3_hrk r4_hrk r5_hrk r6_hrk r7_hrk r8_hrk r9_hrk
  have r0_hrm := cell_of_row _ _ 0 _ _ _ hrm
  have r1_hrm := cell_of_row _ _ 1 _ _ _ hrm
  have r2_hrm := cell_of_row _ _ 2 _ _ _ hrm
  have r3_hrm := cell_of_row _ _ 3 _ _ _ hrm
  have f0_hrm := frozen_of_row _ _ 0 _ _ hrm
  have f1_hrm := frozen_of_row _ _ 1 _ _ hrm
  have f2_hrm := frozen_of_row _ _ 2 _ _ hrm
  have f3_hrm := frozen_of_row _ _ 3 _ _ hrm
  simp at r0_hrm r1_hrm r2_hrm r3_hrm
  clear hrk hrm
  go_wp2_with fail
  apply bodyPost_ret (results_row_row (P := Try.prog) (fn := Try.f13) rfl _ _ _ 29 _ (0, 0) _ _ 27 _ (0, 0) _ rfl rfl _ _ Try.underlying29 rfl _ Try.underlying27 rfl _) rfl
  rotate_left 3
  · repeat (first | (with_reducible apply heap_setCell_same) | (with_reducible apply drew_row) | (with_reducible apply drewN_row) | (with_reducible exact HRK.out) | (with_reducible refine (heap_setCell_other _ _ _ _ (by first | omega | (simp; done) | (simp; omega))).trans ?_) | (with_reducible refine (Below.heap_alloc _ _ _ (by first | omega | (simp; done) | (simp; omega))).trans ?_))
  · repeat (first | (with_reducible apply heap_setCell_same) | (with_reducible apply drew_row) | (with_reducible apply drewN_row) | (with_reducible exact HRM.out) | (with_reducible refine (heap_setCell_other _ _ _ _ (by first | omega | (simp; done) | (simp; omega))).trans ?_) | (with_reducible refine (Below.heap_alloc _ _ _ (by first | omega | (simp; done) | (simp; omega))).trans ?_))
  · kernel_rfl
  · kernel_rfl
  exact ⟨x, .slice A1 x.now.rs.length c1, .slice A2 x.bef.rs.length c2, ⟨mu, mk, ml, rs⟩, .slice A3 rs.length c3, by simp, OwnE.mono (base := w1.heap.size) (by repeat (first | with_reducible exact HP1.out | (with_reducible refine OwnE.setBelow ?_ (by first | (simp; done) | (simp; omega)) _) | with_reducible refine OwnE.alloc ?_ _ | with_reducible refine OwnE.drew ?_)) (by omega), OwnE.mono (base := w1.heap.size) (by repeat (first | with_reducible exact HP2.out | (with_reducible refine OwnE.setBelow ?_ (by first | (simp; done) | (simp; omega)) _) | with_reducible refine OwnE.alloc ?_ _ | with_reducible refine OwnE.drew ?_)) (by omega), OwnE.mono (base := w2.heap.size) (by repeat (first | with_reducible exact HO3.out | (with_reducible refine OwnE.setBelow ?_ (by first | (simp; done) | (simp; omega)) _) | with_reducible refine OwnE.alloc ?_ _ | with_reducible refine OwnE.drew ?_)) (by omega), HF1.out, HF2.out, HF3.out, ⟨he1, he2⟩, (by repeat (first | with_reducible exact Below.refl _ _ | with_reducible assumption | with_reducible refine Below.drew ?_ | with_reducible refine Below.alloc ?_ (by first | exact Nat.le_refl _ | omega | (simp; done) | (simp; omega)) _ | with_reducible refine Below.setCell ?_ (by first | exact Nat.le_refl _ | omega | (simp; done) | (simp; omega)) _ | (with_reducible refine ext_trans ?_ (by with_reducible assumption))))⟩
end Go.Proofs.Ytjlnbjabehpncaa
