/-
  Contracts of ArpReply, ForMe, the program's and the reference's.
-/
import Derived.Test.YteaniiponikpjaaArp
namespace Go.Proofs.Yteaniiponikpjaa
set_option maxRecDepth 100000
open Go.ChangeShapes Go.WideShapes Go.ChangeAt Go.RowKit Go.Deep

def repB (kd sh si di mac ip : Int) : Bool := decide (kd = 1) && (decide (di = ip) && arpB 2 mac ip sh si)
def repR (kd sh si di mac ip : Int) : Value := if repB kd sh si di mac ip = true then .agg #[.int .i64 2, .int .i64 mac, .int .i64 ip, .int .i64 sh, .int .i64 si] else .agg #[.int .i64 0, .int .i64 0, .int .i64 0, .int .i64 0, .int .i64 0]
set_option maxHeartbeats 4000000 in
set_option linter.unusedVariables false in
set_option linter.unusedSimpArgs false in
theorem ArpReply_any (kd sh si dh di mac ip : Int) (w : World) : Calls Try.prog 75 #[.agg #[.int .i64 kd, .int .i64 sh, .int .i64 si, .int .i64 dh, .int .i64 di], .int .i64 mac, .int .i64 ip] w fun e w' => e = .returned (.tuple #[repR kd sh si di mac ip, .bool (repB kd sh si di mac ip)]) ∧ Below w.heap.size w w' := by
  have hr : (((w.alloc (.cells #[.int .i64 kd, .int .i64 sh, .int .i64 si, .int .i64 dh, .int .i64 di] 91)).alloc (.cells #[.int .i64 0, .int .i64 0, .int .i64 0, .int .i64 0, .int .i64 0] 91)).alloc (.cells #[.int .i64 2, .int .i64 mac, .int .i64 ip, .int .i64 sh, .int .i64 si] 91)).heap[w.heap.size + 1]? = some (.cells #[.int .i64 0, .int .i64 0, .int .i64 0, .int .i64 0, .int .i64 0] 91 (0, 0)) := (by repeat (first | exact heap_new _ _ _ (by first | rfl | (simp; done) | (simp; omega)) | refine (Below.heap_alloc _ _ _ (by first | omega | (simp; done) | (simp; omega))).trans ?_))
  have hl : (((w.alloc (.cells #[.int .i64 kd, .int .i64 sh, .int .i64 si, .int .i64 dh, .int .i64 di] 91)).alloc (.cells #[.int .i64 0, .int .i64 0, .int .i64 0, .int .i64 0, .int .i64 0] 91)).alloc (.cells #[.int .i64 2, .int .i64 mac, .int .i64 ip, .int .i64 sh, .int .i64 si] 91)).heap[w.heap.size + 2]? = some (.cells #[.int .i64 2, .int .i64 mac, .int .i64 ip, .int .i64 sh, .int .i64 si] 91 (0, 0)) := (by repeat (first | exact heap_new _ _ _ (by first | rfl | (simp; done) | (simp; omega)) | refine (Below.heap_alloc _ _ _ (by first | omega | (simp; done) | (simp; omega))).trans ?_))
  have hb0 : Below w.heap.size w (((w.alloc (.cells #[.int .i64 kd, .int .i64 sh, .int .i64 si, .int .i64 dh, .int .i64 di] 91)).alloc (.cells #[.int .i64 0, .int .i64 0, .int .i64 0, .int .i64 0, .int .i64 0] 91)).alloc (.cells #[.int .i64 2, .int .i64 mac, .int .i64 ip, .int .i64 sh, .int .i64 si] 91)) := (by repeat (first | with_reducible exact Below.refl _ _ | with_reducible assumption | with_reducible refine Below.drew ?_ | with_reducible refine Below.alloc ?_ (by first | exact Nat.le_refl _ | omega | (simp; done) | (simp; omega)) _ | with_reducible refine Below.setCell ?_ (by first | exact Nat.le_refl _ | omega | (simp; done) | (simp; omega)) _ | (with_reducible refine ext_trans ?_ (by with_reducible assumption))))
  by_cases hk : kd = 1
  case neg =>
    have HV : Hid (repR kd sh si di mac ip = .agg #[.int .i64 0, .int .i64 0, .int .i64 0, .int .i64 0, .int .i64 0] ∧ repB kd sh si di mac ip = false) := by
      have h : repB kd sh si di mac ip = false := by (unfold repB; rw [decide_eq_false hk]; rfl)
      exact ⟨by unfold repR; rw [h]; rfl, h⟩
    go_enter Try.func75, Try.ntmps75
    go_wp2_with fail
    apply bodyPost_ret (results_row_tmp1 (P := Try.prog) (fn := Try.f75) rfl _ _ _ 91 _ (0, 0) _ rfl _ Try.underlying91 rfl _) rfl
    rotate_left 2
    · repeat (first | (with_reducible apply heap_setCell_same) | (with_reducible apply drew_row) | (with_reducible apply drewN_row) | (with_reducible exact hr) | (with_reducible refine (heap_setCell_other _ _ _ _ (by first | omega | (simp; done) | (simp; omega))).trans ?_) | (with_reducible refine (Below.heap_alloc _ _ _ (by first | omega | (simp; done) | (simp; omega))).trans ?_))
    · kernel_rfl
    exact ⟨by rw [HV.out.1, HV.out.2]; simp, (by repeat (first | with_reducible exact Below.refl _ _ | with_reducible assumption | with_reducible refine Below.drew ?_ | with_reducible refine Below.alloc ?_ (by first | exact Nat.le_refl _ | omega | (simp; done) | (simp; omega)) _ | with_reducible refine Below.setCell ?_ (by first | exact Nat.le_refl _ | omega | (simp; done) | (simp; omega)) _ | (with_reducible refine ext_trans ?_ (by with_reducible assumption))))⟩
  case pos =>
  subst hk
  by_cases hd : di = ip
  case neg =>
    have HV : Hid (repR 1 sh si di mac ip = .agg #[.int .i64 0, .int .i64 0, .int .i64 0, .int .i64 0, .int .i64 0] ∧ repB 1 sh si di mac ip = false) := by
      have h : repB 1 sh si di mac ip = false := by (unfold repB; rw [decide_eq_false hd, Bool.false_and, Bool.and_false])
      exact ⟨by unfold repR; rw [h]; rfl, h⟩
    go_enter Try.func75, Try.ntmps75
    go_wp2_with fail
    apply bodyPost_ret (results_row_tmp1 (P := Try.prog) (fn := Try.f75) rfl _ _ _ 91 _ (0, 0) _ rfl _ Try.underlying91 rfl _) rfl
    rotate_left 2
    · repeat (first | (with_reducible apply heap_setCell_same) | (with_reducible apply drew_row) | (with_reducible apply drewN_row) | (with_reducible exact hr) | (with_reducible refine (heap_setCell_other _ _ _ _ (by first | omega | (simp; done) | (simp; omega))).trans ?_) | (with_reducible refine (Below.heap_alloc _ _ _ (by first | omega | (simp; done) | (simp; omega))).trans ?_))
    · kernel_rfl
    exact ⟨by rw [HV.out.1, HV.out.2]; simp, (by repeat (first | with_reducible exact Below.refl _ _ | with_reducible assumption | with_reducible refine Below.drew ?_ | with_reducible refine Below.alloc ?_ (by first | exact Nat.le_refl _ | omega | (simp; done) | (simp; omega)) _ | with_reducible refine Below.setCell ?_ (by first | exact Nat.le_refl _ | omega | (simp; done) | (simp; omega)) _ | (with_reducible refine ext_trans ?_ (by with_reducible assumption))))⟩
  case pos =>
  subst hd
  have y := fun W => ArpOk_any 2 mac di sh si W
  cases hb : arpB 2 mac di sh si
  case false =>
    have HV : Hid (repR 1 sh si di mac di = .agg #[.int .i64 0, .int .i64 0, .int .i64 0, .int .i64 0, .int .i64 0] ∧ repB 1 sh si di mac di = false) := by
      have h : repB 1 sh si di mac di = false := by (unfold repB; rw [hb]; simp)
      exact ⟨by unfold repR; rw [h]; rfl, h⟩
    rw [hb] at y
    have Y := Lib.hid y
    clear y hb
    go_enter Try.func75, Try.ntmps75
    go_wp2_with fail
    refine (Y.out _).mono ?_
    rintro e w3 ⟨rfl, hb3⟩
    have hr3 := (hb3.block _ (by first | (simp; done) | (simp; omega))).trans hr
    have hl3 := (hb3.block _ (by first | (simp; done) | (simp; omega))).trans hl
    have hz3 := hb3.size
    (try simp at hz3)
    have hw3 : Below w.heap.size w w3 := (by repeat (first | with_reducible exact Below.refl _ _ | with_reducible assumption | with_reducible refine Below.drew ?_ | with_reducible refine Below.alloc ?_ (by first | exact Nat.le_refl _ | omega | (simp; done) | (simp; omega)) _ | with_reducible refine Below.setCell ?_ (by first | exact Nat.le_refl _ | omega | (simp; done) | (simp; omega)) _ | (with_reducible refine ext_trans ?_ (by with_reducible assumption))))
    have HR3 := Lib.hid hr3
    have r0_hr3 := cell_of_row _ _ 0 _ _ _ hr3
    have r1_hr3 := cell_of_row _ _ 1 _ _ _ hr3
    have r2_hr3 := cell_of_row _ _ 2 _ _ _ hr3
    have r3_hr3 := cell_of_row _ _ 3 _ _ _ hr3
    have r4_hr3 := cell_of_row _ _ 4 _ _ _ hr3
    have f0_hr3 := frozen_of_row _ _ 0 _ _ hr3
    have f1_hr3 := frozen_of_row _ _ 1 _ _ hr3
    have f2_hr3 := frozen_of_row _ _ 2 _ _ hr3
    have f3_hr3 := frozen_of_row _ _ 3 _ _ hr3
    have f4_hr3 := frozen_of_row _ _ 4 _ _ hr3
    simp at r0_hr3 r1_hr3 r2_hr3 r3_hr3 r4_hr3
    have r0_hl3 := cell_of_row _ _ 0 _ _ _ hl3
    have r1_hl3 := cell_of_row _ _ 1 _ _ _ hl3
    have r2_hl3 := cell_of_row _ _ 2 _ _ _ hl3
    have r3_hl3 := cell_of_row _ _ 3 _ _ _ hl3
    have r4_hl3 := cell_of_row _ _ 4 _ _ _ hl3
    have f0_hl3 := frozen_of_row _ _ 0 _ _ hl3
    have f1_hl3 := frozen_of_row _ _ 1 _ _ hl3
    have f2_hl3 := frozen_of_row _ _ 2 _ _ hl3
    have f3_hl3 := frozen_of_row _ _ 3 _ _ hl3
    have f4_hl3 := frozen_of_row _ _ 4 _ _ hl3
    simp at r0_hl3 r1_hl3 r2_hl3 r3_hl3 r4_hl3
    clear hr3 hl3 hr hl
    go_wp2_with fail
    apply bodyPost_ret (results_row_tmp1 (P := Try.prog) (fn := Try.f75) rfl _ _ _ 91 _ (0, 0) _ rfl _ Try.underlying91 rfl _) rfl
    rotate_left 2
    · repeat (first | (with_reducible apply heap_setCell_same) | (with_reducible apply drew_row) | (with_reducible apply drewN_row) | (with_reducible exact HR3.out) | (with_reducible refine (heap_setCell_other _ _ _ _ (by first | omega | (simp; done) | (simp; omega))).trans ?_) | (with_reducible refine (Below.heap_alloc _ _ _ (by first | omega | (simp; done) | (simp; omega))).trans ?_))
    · kernel_rfl
    exact ⟨by rw [HV.out.1, HV.out.2]; simp, (by repeat (first | with_reducible exact Below.refl _ _ | with_reducible assumption | with_reducible refine Below.drew ?_ | with_reducible refine Below.alloc ?_ (by first | exact Nat.le_refl _ | omega | (simp; done) | (simp; omega)) _ | with_reducible refine Below.setCell ?_ (by first | exact Nat.le_refl _ | omega | (simp; done) | (simp; omega)) _ | (with_reducible refine ext_trans ?_ (by with_reducible assumption))))⟩
  case true =>
    have HV : Hid (repR 1 sh si di mac di = .agg #[.int .i64 2, .int .i64 mac, .int .i64 di, .int .i64 sh, .int .i64 si] ∧ repB 1 sh si di mac di = true) := by
      have h : repB 1 sh si di mac di = true := by (unfold repB; rw [hb]; simp)
      exact ⟨by unfold repR; rw [h]; rfl, h⟩
    rw [hb] at y
    have Y := Lib.hid y
    clear y hb
    go_enter Try.func75, Try.ntmps75
    go_wp2_with fail
    refine (Y.out _).mono ?_
    rintro e w3 ⟨rfl, hb3⟩
    have hr3 := (hb3.block _ (by first | (simp; done) | (simp; omega))).trans hr
    have hl3 := (hb3.block _ (by first | (simp; done) | (simp; omega))).trans hl
    have hz3 := hb3.size
    (try simp at hz3)
    have hw3 : Below w.heap.size w w3 := (by repeat (first | with_reducible exact Below.refl _ _ | with_reducible assumption | with_reducible refine Below.drew ?_ | with_reducible refine Below.alloc ?_ (by first | exact Nat.le_refl _ | omega | (simp; done) | (simp; omega)) _ | with_reducible refine Below.setCell ?_ (by first | exact Nat.le_refl _ | omega | (simp; done) | (simp; omega)) _ | (with_reducible refine ext_trans ?_ (by with_reducible assumption))))
    have HR3 := Lib.hid hr3
    have r0_hr3 := cell_of_row _ _ 0 _ _ _ hr3
    have r1_hr3 := cell_of_row _ _ 1 _ _ _ hr3
    have r2_hr3 := cell_of_row _ _ 2 _ _ _ hr3
    have r3_hr3 := cell_of_row _ _ 3 _ _ _ hr3
    have r4_hr3 := cell_of_row _ _ 4 _ _ _ hr3
    have f0_hr3 := frozen_of_row _ _ 0 _ _ hr3
    have f1_hr3 := frozen_of_row _ _ 1 _ _ hr3
    have f2_hr3 := frozen_of_row _ _ 2 _ _ hr3
    have f3_hr3 := frozen_of_row _ _ 3 _ _ hr3
    have f4_hr3 := frozen_of_row _ _ 4 _ _ hr3
    simp at r0_hr3 r1_hr3 r2_hr3 r3_hr3 r4_hr3
    have r0_hl3 := cell_of_row _ _ 0 _ _ _ hl3
    have r1_hl3 := cell_of_row _ _ 1 _ _ _ hl3
    have r2_hl3 := cell_of_row _ _ 2 _ _ _ hl3
    have r3_hl3 := cell_of_row _ _ 3 _ _ _ hl3
    have r4_hl3 := cell_of_row _ _ 4 _ _ _ hl3
    have f0_hl3 := frozen_of_row _ _ 0 _ _ hl3
    have f1_hl3 := frozen_of_row _ _ 1 _ _ hl3
    have f2_hl3 := frozen_of_row _ _ 2 _ _ hl3
    have f3_hl3 := frozen_of_row _ _ 3 _ _ hl3
    have f4_hl3 := frozen_of_row _ _ 4 _ _ hl3
    simp at r0_hl3 r1_hl3 r2_hl3 r3_hl3 r4_hl3
    clear hr3 hl3 hr hl
    go_wp2_with fail
    apply bodyPost_ret (results_row_tmp1 (P := Try.prog) (fn := Try.f75) rfl _ _ _ 91 _ (0, 0) _ rfl _ Try.underlying91 rfl _) rfl
    rotate_left 2
    · repeat (first | (with_reducible apply heap_setCell_same) | (with_reducible apply drew_row) | (with_reducible apply drewN_row) | (with_reducible exact HR3.out) | (with_reducible refine (heap_setCell_other _ _ _ _ (by first | omega | (simp; done) | (simp; omega))).trans ?_) | (with_reducible refine (Below.heap_alloc _ _ _ (by first | omega | (simp; done) | (simp; omega))).trans ?_))
    · kernel_rfl
    exact ⟨by rw [HV.out.1, HV.out.2]; simp, (by repeat (first | with_reducible exact Below.refl _ _ | with_reducible assumption | with_reducible refine Below.drew ?_ | with_reducible refine Below.alloc ?_ (by first | exact Nat.le_refl _ | omega | (simp; done) | (simp; omega)) _ | with_reducible refine Below.setCell ?_ (by first | exact Nat.le_refl _ | omega | (simp; done) | (simp; omega)) _ | (with_reducible refine ext_trans ?_ (by with_reducible assumption))))⟩
set_option linter.unusedSimpArgs false in
theorem ForMe_any (dst src ty : Int) (body : ByteArray) (mac : Int) (w : World) : Calls Try.prog 73 #[.agg #[.int .i64 dst, .int .i64 src, .int .i64 ty, .string body], .int .i64 mac] w fun e w' => e = .returned (.bool (decide (dst = mac) || decide (dst = 281474976710655))) ∧ Below w.heap.size w w' := by
  by_cases h1 : dst = mac
  · subst h1
    go_enter Try.func73, Try.ntmps73
    go_wp2_with fail
    go_ret
    exact ⟨by simp, (by repeat (first | with_reducible exact Below.refl _ _ | with_reducible assumption | with_reducible refine Below.drew ?_ | with_reducible refine Below.alloc ?_ (by first | exact Nat.le_refl _ | omega | (simp; done) | (simp; omega)) _ | with_reducible refine Below.setCell ?_ (by first | exact Nat.le_refl _ | omega | (simp; done) | (simp; omega)) _ | (with_reducible refine ext_trans ?_ (by with_reducible assumption))))⟩
  · go_enter Try.func73, Try.ntmps73
    go_wp2_with fail
    go_ret
    exact ⟨by (simp; rw [Bool.eq_iff_iff]; simp [h1]), (by repeat (first | with_reducible exact Below.refl _ _ | with_reducible assumption | with_reducible refine Below.drew ?_ | with_reducible refine Below.alloc ?_ (by first | exact Nat.le_refl _ | omega | (simp; done) | (simp; omega)) _ | with_reducible refine Below.setCell ?_ (by first | exact Nat.le_refl _ | omega | (simp; done) | (simp; omega)) _ | (with_reducible refine ext_trans ?_ (by with_reducible assumption))))⟩
set_option maxHeartbeats 4000000 in
set_option linter.unusedVariables false in
set_option linter.unusedSimpArgs false in
theorem sArpReply_any (kd sh si dh di mac ip : Int) (w : World) : Calls Try.prog 101 #[.agg #[.int .i64 kd, .int .i64 sh, .int .i64 si, .int .i64 dh, .int .i64 di], .int .i64 mac, .int .i64 ip] w fun e w' => e = .returned (.tuple #[repR kd sh si di mac ip, .bool (repB kd sh si di mac ip)]) ∧ Below w.heap.size w w' := by
  have hr : (((w.alloc (.cells #[.int .i64 kd, .int .i64 sh, .int .i64 si, .int .i64 dh, .int .i64 di] 91)).alloc (.cells #[.int .i64 0, .int .i64 0, .int .i64 0, .int .i64 0, .int .i64 0] 91)).alloc (.cells #[.int .i64 2, .int .i64 mac, .int .i64 ip, .int .i64 sh, .int .i64 si] 91)).heap[w.heap.size + 1]? = some (.cells #[.int .i64 0, .int .i64 0, .int .i64 0, .int .i64 0, .int .i64 0] 91 (0, 0)) := (by repeat (first | exact heap_new _ _ _ (by first | rfl | (simp; done) | (simp; omega)) | refine (Below.heap_alloc _ _ _ (by first | omega | (simp; done) | (simp; omega))).trans ?_))
  have hl : (((w.alloc (.cells #[.int .i64 kd, .int .i64 sh, .int .i64 si, .int .i64 dh, .int .i64 di] 91)).alloc (.cells #[.int .i64 0, .int .i64 0, .int .i64 0, .int .i64 0, .int .i64 0] 91)).alloc (.cells #[.int .i64 2, .int .i64 mac, .int .i64 ip, .int .i64 sh, .int .i64 si] 91)).heap[w.heap.size + 2]? = some (.cells #[.int .i64 2, .int .i64 mac, .int .i64 ip, .int .i64 sh, .int .i64 si] 91 (0, 0)) := (by repeat (first | exact heap_new _ _ _ (by first | rfl | (simp; done) | (simp; omega)) | refine (Below.heap_alloc _ _ _ (by first | omega | (simp; done) | (simp; omega))).trans ?_))
  have hb0 : Below w.heap.size w (((w.alloc (.cells #[.int .i64 kd, .int .i64 sh, .int .i64 si, .int .i64 dh, .int .i64 di] 91)).alloc (.cells #[.int .i64 0, .int .i64 0, .int .i64 0, .int .i64 0, .int .i64 0] 91)).alloc (.cells #[.int .i64 2, .int .i64 mac, .int .i64 ip, .int .i64 sh, .int .i64 si] 91)) := (by repeat (first | with_reducible exact Below.refl _ _ | with_reducible assumption | with_reducible refine Below.drew ?_ | with_reducible refine Below.alloc ?_ (by first | exact Nat.le_refl _ | omega | (simp; done) | (simp; omega)) _ | with_reducible refine Below.setCell ?_ (by first | exact Nat.le_refl _ | omega | (simp; done) | (simp; omega)) _ | (with_reducible refine ext_trans ?_ (by with_reducible assumption))))
  by_cases hk : kd = 1
  case neg =>
    have HV : Hid (repR kd sh si di mac ip = .agg #[.int .i64 0, .int .i64 0, .int .i64 0, .int .i64 0, .int .i64 0] ∧ repB kd sh si di mac ip = false) := by
      have h : repB kd sh si di mac ip = false := by (unfold repB; rw [decide_eq_false hk]; rfl)
      exact ⟨by unfold repR; rw [h]; rfl, h⟩
    go_enter Try.func101, Try.ntmps101
    go_wp2_with fail
    apply bodyPost_ret (results_row_tmp1 (P := Try.prog) (fn := Try.f101) rfl _ _ _ 91 _ (0, 0) _ rfl _ Try.underlying91 rfl _) rfl
    rotate_left 2
    · repeat (first | (with_reducible apply heap_setCell_same) | (with_reducible apply drew_row) | (with_reducible apply drewN_row) | (with_reducible exact hr) | (with_reducible refine (heap_setCell_other _ _ _ _ (by first | omega | (simp; done) | (simp; omega))).trans ?_) | (with_reducible refine (Below.heap_alloc _ _ _ (by first | omega | (simp; done) | (simp; omega))).trans ?_))
    · kernel_rfl
    exact ⟨by rw [HV.out.1, HV.out.2]; simp, (by repeat (first | with_reducible exact Below.refl _ _ | with_reducible assumption | with_reducible refine Below.drew ?_ | with_reducible refine Below.alloc ?_ (by first | exact Nat.le_refl _ | omega | (simp; done) | (simp; omega)) _ | with_reducible refine Below.setCell ?_ (by first | exact Nat.le_refl _ | omega | (simp; done) | (simp; omega)) _ | (with_reducible refine ext_trans ?_ (by with_reducible assumption))))⟩
  case pos =>
  subst hk
  by_cases hd : di = ip
  case neg =>
    have HV : Hid (repR 1 sh si di mac ip = .agg #[.int .i64 0, .int .i64 0, .int .i64 0, .int .i64 0, .int .i64 0] ∧ repB 1 sh si di mac ip = false) := by
      have h : repB 1 sh si di mac ip = false := by (unfold repB; rw [decide_eq_false hd, Bool.false_and, Bool.and_false])
      exact ⟨by unfold repR; rw [h]; rfl, h⟩
    go_enter Try.func101, Try.ntmps101
    go_wp2_with fail
    apply bodyPost_ret (results_row_tmp1 (P := Try.prog) (fn := Try.f101) rfl _ _ _ 91 _ (0, 0) _ rfl _ Try.underlying91 rfl _) rfl
    rotate_left 2
    · repeat (first | (with_reducible apply heap_setCell_same) | (with_reducible apply drew_row) | (with_reducible apply drewN_row) | (with_reducible exact hr) | (with_reducible refine (heap_setCell_other _ _ _ _ (by first | omega | (simp; done) | (simp; omega))).trans ?_) | (with_reducible refine (Below.heap_alloc _ _ _ (by first | omega | (simp; done) | (simp; omega))).trans ?_))
    · kernel_rfl
    exact ⟨by rw [HV.out.1, HV.out.2]; simp, (by repeat (first | with_reducible exact Below.refl _ _ | with_reducible assumption | with_reducible refine Below.drew ?_ | with_reducible refine Below.alloc ?_ (by first | exact Nat.le_refl _ | omega | (simp; done) | (simp; omega)) _ | with_reducible refine Below.setCell ?_ (by first | exact Nat.le_refl _ | omega | (simp; done) | (simp; omega)) _ | (with_reducible refine ext_trans ?_ (by with_reducible assumption))))⟩
  case pos =>
  subst hd
  have y := fun W => sArpOk_any 2 mac di sh si W
  cases hb : arpB 2 mac di sh si
  case false =>
    have HV : Hid (repR 1 sh si di mac di = .agg #[.int .i64 0, .int .i64 0, .int .i64 0, .int .i64 0, .int .i64 0] ∧ repB 1 sh si di mac di = false) := by
      have h : repB 1 sh si di mac di = false := by (unfold repB; rw [hb]; simp)
      exact ⟨by unfold repR; rw [h]; rfl, h⟩
    rw [hb] at y
    have Y := Lib.hid y
    clear y hb
    go_enter Try.func101, Try.ntmps101
    go_wp2_with fail
    refine (Y.out _).mono ?_
    rintro e w3 ⟨rfl, hb3⟩
    have hr3 := (hb3.block _ (by first | (simp; done) | (simp; omega))).trans hr
    have hl3 := (hb3.block _ (by first | (simp; done) | (simp; omega))).trans hl
    have hz3 := hb3.size
    (try simp at hz3)
    have hw3 : Below w.heap.size w w3 := (by repeat (first | with_reducible exact Below.refl _ _ | with_reducible assumption | with_reducible refine Below.drew ?_ | with_reducible refine Below.alloc ?_ (by first | exact Nat.le_refl _ | omega | (simp; done) | (simp; omega)) _ | with_reducible refine Below.setCell ?_ (by first | exact Nat.le_refl _ | omega | (simp; done) | (simp; omega)) _ | (with_reducible refine ext_trans ?_ (by with_reducible assumption))))
    have HR3 := Lib.hid hr3
    have r0_hr3 := cell_of_row _ _ 0 _ _ _ hr3
    have r1_hr3 := cell_of_row _ _ 1 _ _ _ hr3
    have r2_hr3 := cell_of_row _ _ 2 _ _ _ hr3
    have r3_hr3 := cell_of_row _ _ 3 _ _ _ hr3
    have r4_hr3 := cell_of_row _ _ 4 _ _ _ hr3
    have f0_hr3 := frozen_of_row _ _ 0 _ _ hr3
    have f1_hr3 := frozen_of_row _ _ 1 _ _ hr3
    have f2_hr3 := frozen_of_row _ _ 2 _ _ hr3
    have f3_hr3 := frozen_of_row _ _ 3 _ _ hr3
    have f4_hr3 := frozen_of_row _ _ 4 _ _ hr3
    simp at r0_hr3 r1_hr3 r2_hr3 r3_hr3 r4_hr3
    have r0_hl3 := cell_of_row _ _ 0 _ _ _ hl3
    have r1_hl3 := cell_of_row _ _ 1 _ _ _ hl3
    have r2_hl3 := cell_of_row _ _ 2 _ _ _ hl3
    have r3_hl3 := cell_of_row _ _ 3 _ _ _ hl3
    have r4_hl3 := cell_of_row _ _ 4 _ _ _ hl3
    have f0_hl3 := frozen_of_row _ _ 0 _ _ hl3
    have f1_hl3 := frozen_of_row _ _ 1 _ _ hl3
    have f2_hl3 := frozen_of_row _ _ 2 _ _ hl3
    have f3_hl3 := frozen_of_row _ _ 3 _ _ hl3
    have f4_hl3 := frozen_of_row _ _ 4 _ _ hl3
    simp at r0_hl3 r1_hl3 r2_hl3 r3_hl3 r4_hl3
    clear hr3 hl3 hr hl
    go_wp2_with fail
    apply bodyPost_ret (results_row_tmp1 (P := Try.prog) (fn := Try.f101) rfl _ _ _ 91 _ (0, 0) _ rfl _ Try.underlying91 rfl _) rfl
    rotate_left 2
    · repeat (first | (with_reducible apply heap_setCell_same) | (with_reducible apply drew_row) | (with_reducible apply drewN_row) | (with_reducible exact HR3.out) | (with_reducible refine (heap_setCell_other _ _ _ _ (by first | omega | (simp; done) | (simp; omega))).trans ?_) | (with_reducible refine (Below.heap_alloc _ _ _ (by first | omega | (simp; done) | (simp; omega))).trans ?_))
    · kernel_rfl
    exact ⟨by rw [HV.out.1, HV.out.2]; simp, (by repeat (first | with_reducible exact Below.refl _ _ | with_reducible assumption | with_reducible refine Below.drew ?_ | with_reducible refine Below.alloc ?_ (by first | exact Nat.le_refl _ | omega | (simp; done) | (simp; omega)) _ | with_reducible refine Below.setCell ?_ (by first | exact Nat.le_refl _ | omega | (simp; done) | (simp; omega)) _ | (with_reducible refine ext_trans ?_ (by with_reducible assumption))))⟩
  case true =>
    have HV : Hid (repR 1 sh si di mac di = .agg #[.int .i64 2, .int .i64 mac, .int .i64 di, .int .i64 sh, .int .i64 si] ∧ repB 1 sh si di mac di = true) := by
      have h : repB 1 sh si di mac di = true := by (unfold repB; rw [hb]; simp)
      exact ⟨by unfold repR; rw [h]; rfl, h⟩
    rw [hb] at y
    have Y := Lib.hid y
    clear y hb
    go_enter Try.func101, Try.ntmps101
    go_wp2_with fail
    refine (Y.out _).mono ?_
    rintro e w3 ⟨rfl, hb3⟩
    have hr3 := (hb3.block _ (by first | (simp; done) | (simp; omega))).trans hr
    have hl3 := (hb3.block _ (by first | (simp; done) | (simp; omega))).trans hl
    have hz3 := hb3.size
    (try simp at hz3)
    have hw3 : Below w.heap.size w w3 := (by repeat (first | with_reducible exact Below.refl _ _ | with_reducible assumption | with_reducible refine Below.drew ?_ | with_reducible refine Below.alloc ?_ (by first | exact Nat.le_refl _ | omega | (simp; done) | (simp; omega)) _ | with_reducible refine Below.setCell ?_ (by first | exact Nat.le_refl _ | omega | (simp; done) | (simp; omega)) _ | (with_reducible refine ext_trans ?_ (by with_reducible assumption))))
    have HR3 := Lib.hid hr3
    have r0_hr3 := cell_of_row _ _ 0 _ _ _ hr3
    have r1_hr3 := cell_of_row _ _ 1 _ _ _ hr3
    have r2_hr3 := cell_of_row _ _ 2 _ _ _ hr3
    have r3_hr3 := cell_of_row _ _ 3 _ _ _ hr3
    have r4_hr3 := cell_of_row _ _ 4 _ _ _ hr3
    have f0_hr3 := frozen_of_row _ _ 0 _ _ hr3
    have f1_hr3 := frozen_of_row _ _ 1 _ _ hr3
    have f2_hr3 := frozen_of_row _ _ 2 _ _ hr3
    have f3_hr3 := frozen_of_row _ _ 3 _ _ hr3
    have f4_hr3 := frozen_of_row _ _ 4 _ _ hr3
    simp at r0_hr3 r1_hr3 r2_hr3 r3_hr3 r4_hr3
    have r0_hl3 := cell_of_row _ _ 0 _ _ _ hl3
    have r1_hl3 := cell_of_row _ _ 1 _ _ _ hl3
    have r2_hl3 := cell_of_row _ _ 2 _ _ _ hl3
    have r3_hl3 := cell_of_row _ _ 3 _ _ _ hl3
    have r4_hl3 := cell_of_row _ _ 4 _ _ _ hl3
    have f0_hl3 := frozen_of_row _ _ 0 _ _ hl3
    have f1_hl3 := frozen_of_row _ _ 1 _ _ hl3
    have f2_hl3 := frozen_of_row _ _ 2 _ _ hl3
    have f3_hl3 := frozen_of_row _ _ 3 _ _ hl3
    have f4_hl3 := frozen_of_row _ _ 4 _ _ hl3
    simp at r0_hl3 r1_hl3 r2_hl3 r3_hl3 r4_hl3
    clear hr3 hl3 hr hl
    go_wp2_with fail
    apply bodyPost_ret (results_row_tmp1 (P := Try.prog) (fn := Try.f101) rfl _ _ _ 91 _ (0, 0) _ rfl _ Try.underlying91 rfl _) rfl
    rotate_left 2
    · repeat (first | (with_reducible apply heap_setCell_same) | (with_reducible apply drew_row) | (with_reducible apply drewN_row) | (with_reducible exact HR3.out) | (with_reducible refine (heap_setCell_other _ _ _ _ (by first | omega | (simp; done) | (simp; omega))).trans ?_) | (with_reducible refine (Below.heap_alloc _ _ _ (by first | omega | (simp; done) | (simp; omega))).trans ?_))
    · kernel_rfl
    exact ⟨by rw [HV.out.1, HV.out.2]; simp, (by repeat (first | with_reducible exact Below.refl _ _ | with_reducible assumption | with_reducible refine Below.drew ?_ | with_reducible refine Below.alloc ?_ (by first | exact Nat.le_refl _ | omega | (simp; done) | (simp; omega)) _ | with_reducible refine Below.setCell ?_ (by first | exact Nat.le_refl _ | omega | (simp; done) | (simp; omega)) _ | (with_reducible refine ext_trans ?_ (by with_reducible assumption))))⟩
set_option linter.unusedSimpArgs false in
theorem sForMe_any (dst src ty : Int) (body : ByteArray) (mac : Int) (w : World) : Calls Try.prog 79 #[.agg #[.int .i64 dst, .int .i64 src, .int .i64 ty, .string body], .int .i64 mac] w fun e w' => e = .returned (.bool (decide (dst = mac) || decide (dst = 281474976710655))) ∧ Below w.heap.size w w' := by
  by_cases h1 : dst = mac
  · subst h1
    go_enter Try.func79, Try.ntmps79
    go_wp2_with fail
    go_ret
    exact ⟨by simp, (by repeat (first | with_reducible exact Below.refl _ _ | with_reducible assumption | with_reducible refine Below.drew ?_ | with_reducible refine Below.alloc ?_ (by first | exact Nat.le_refl _ | omega | (simp; done) | (simp; omega)) _ | with_reducible refine Below.setCell ?_ (by first | exact Nat.le_refl _ | omega | (simp; done) | (simp; omega)) _ | (with_reducible refine ext_trans ?_ (by with_reducible assumption))))⟩
  · go_enter Try.func79, Try.ntmps79
    go_wp2_with fail
    go_ret
    exact ⟨by (simp; rw [Bool.eq_iff_iff]; simp [h1]), (by repeat (first | with_reducible exact Below.refl _ _ | with_reducible assumption | with_reducible refine Below.drew ?_ | with_reducible refine Below.alloc ?_ (by first | exact Nat.le_refl _ | omega | (simp; done) | (simp; omega)) _ | with_reducible refine Below.setCell ?_ (by first | exact Nat.le_refl _ | omega | (simp; done) | (simp; omega)) _ | (with_reducible refine ext_trans ?_ (by with_reducible assumption))))⟩
end Go.Proofs.Yteaniiponikpjaa
