/-
  Contracts of SameLink, the program's and the reference's.
-/
import Derived.Test.YteaniiponikpjaaLks
namespace Go.Proofs.Yteaniiponikpjaa
set_option maxRecDepth 100000
open Go.RowKit
def RLnk.same (a b : RLnk) : Bool := decide (a.mac = b.mac) && (decide (a.ip = b.ip) && decide (a.ca = b.ca))
theorem EqualEntryB (v1 v2 : Value) (l1 l2 : List REntry) (B : Bool) (hB : decide (l1 = l2) = B) (n1 : l1.length ≤ maxLen) (n2 : l2.length ≤ maxLen) (w : World) (h1 : RdEntry w v1 l1) (h2 : RdEntry w v2 l2) :
    Calls Try.prog 55 #[v1, v2] w fun e w' => e = .returned (.bool B) ∧ Below w.heap.size w w' := by
  subst hB
  exact EqualEntry_any _ _ l1 l2 n1 n2 w h1 h2
set_option maxHeartbeats 1000000 in
theorem SameLink_any (a b : RLnk) (v1 v2 : Value) (n1 : a.ca.length ≤ maxLen) (n2 : b.ca.length ≤ maxLen) (w : World) (h1 : RdEntry w v1 a.ca) (h2 : RdEntry w v2 b.ca) :
    Calls Try.prog 24 #[vL a v1, vL b v2] w fun e w' => e = .returned (.bool (a.same b)) ∧ Below w.heap.size w w' := by
  obtain ⟨A1, c1, rfl, -⟩ := id h1
  obtain ⟨A2, c2, rfl, -⟩ := id h2
  obtain ⟨m, p, h⟩ := a
  obtain ⟨m', p', h'⟩ := b
  dsimp only at *
  have H1 := Lib.hid h1
  have H2 := Lib.hid h2
  have N1 := Lib.hid n1
  have N2 := Lib.hid n2
  clear h1 h2 n1 n2
  by_cases hm : m = m'
  case neg =>
    go_enter Try.func24, Try.ntmps24
    go_wp2_with fail
    all_goals
      go_ret
      exact ⟨by simp [RLnk.same, hm], (by repeat (first | with_reducible exact Below.refl _ _ | with_reducible assumption | with_reducible refine Below.drew ?_ | with_reducible refine Below.alloc ?_ (by first | exact Nat.le_refl _ | omega | (simp; done) | (simp; omega)) _ | with_reducible refine Below.setCell ?_ (by first | exact Nat.le_refl _ | omega | (simp; done) | (simp; omega)) _ | (with_reducible refine ext_trans ?_ (by with_reducible assumption))))⟩
  subst hm
  by_cases hp : p = p'
  case neg =>
    go_enter Try.func24, Try.ntmps24
    go_wp2_with fail
    all_goals
      go_ret
      exact ⟨by simp [RLnk.same, hp], (by repeat (first | with_reducible exact Below.refl _ _ | with_reducible assumption | with_reducible refine Below.drew ?_ | with_reducible refine Below.alloc ?_ (by first | exact Nat.le_refl _ | omega | (simp; done) | (simp; omega)) _ | with_reducible refine Below.setCell ?_ (by first | exact Nat.le_refl _ | omega | (simp; done) | (simp; omega)) _ | (with_reducible refine ext_trans ?_ (by with_reducible assumption))))⟩
  subst hp
  obtain ⟨B, hB⟩ : ∃ B, decide (h = h') = B := ⟨_, rfl⟩
  have hs : RLnk.same ⟨m, p, h⟩ ⟨m, p, h'⟩ = B := by simp [RLnk.same, ← hB]
  rw [hs]
  have HB := Lib.hid hB
  clear hB hs
  go_enter Try.func24, Try.ntmps24
  go_wp2_with fail
  refine (EqualEntryB _ _ h h' B HB.out N1.out N2.out _ (H1.out.below (by repeat (first | with_reducible exact Below.refl _ _ | with_reducible assumption | with_reducible refine Below.drew ?_ | with_reducible refine Below.alloc ?_ (by first | exact Nat.le_refl _ | omega | (simp; done) | (simp; omega)) _ | with_reducible refine Below.setCell ?_ (by first | exact Nat.le_refl _ | omega | (simp; done) | (simp; omega)) _ | (with_reducible refine ext_trans ?_ (by with_reducible assumption))))) (H2.out.below (by repeat (first | with_reducible exact Below.refl _ _ | with_reducible assumption | with_reducible refine Below.drew ?_ | with_reducible refine Below.alloc ?_ (by first | exact Nat.le_refl _ | omega | (simp; done) | (simp; omega)) _ | with_reducible refine Below.setCell ?_ (by first | exact Nat.le_refl _ | omega | (simp; done) | (simp; omega)) _ | (with_reducible refine ext_trans ?_ (by with_reducible assumption)))))).mono ?_
  rintro e w1 ⟨rfl, hb1⟩
  go_wp2_with fail
  all_goals
    go_ret
    exact ⟨rfl, (by repeat (first | with_reducible exact Below.refl _ _ | with_reducible assumption | with_reducible refine Below.drew ?_ | with_reducible refine Below.alloc ?_ (by first | exact Nat.le_refl _ | omega | (simp; done) | (simp; omega)) _ | with_reducible refine Below.setCell ?_ (by first | exact Nat.le_refl _ | omega | (simp; done) | (simp; omega)) _ | (with_reducible refine ext_trans ?_ (by with_reducible assumption))))⟩
set_option maxHeartbeats 2000000 in
theorem sSameLink_any (a b : RLnk) (v1 v2 : Value) (n1 : a.ca.length ≤ maxLen) (n2 : b.ca.length ≤ maxLen) (w : World) (h1 : RdEntry w v1 a.ca) (h2 : RdEntry w v2 b.ca) :
    Calls Try.prog 22 #[vL a v1, vL b v2] w fun e w' => e = .returned (.bool (a.same b)) ∧ Below w.heap.size w w' := by
  obtain ⟨A1, c1, rfl, -⟩ := id h1
  obtain ⟨A2, c2, rfl, -⟩ := id h2
  obtain ⟨m, p, r1⟩ := a
  obtain ⟨m', p', r2⟩ := b
  dsimp only at *
  unfold maxLen at n1 n2
  have H1 := Lib.hid h1
  have H2' := Lib.hid h2
  clear h1 h2
  by_cases hm : m = m'
  case neg =>
    go_enter Try.func22, Try.ntmps22
    go_wp2_with fail
    all_goals
      go_ret
      exact ⟨by simp [RLnk.same, hm], (by repeat (first | with_reducible exact Below.refl _ _ | with_reducible assumption | with_reducible refine Below.drew ?_ | with_reducible refine Below.alloc ?_ (by first | exact Nat.le_refl _ | omega | (simp; done) | (simp; omega)) _ | with_reducible refine Below.setCell ?_ (by first | exact Nat.le_refl _ | omega | (simp; done) | (simp; omega)) _ | (with_reducible refine ext_trans ?_ (by with_reducible assumption))))⟩
  subst hm
  by_cases hp : p = p'
  case neg =>
    go_enter Try.func22, Try.ntmps22
    go_wp2_with fail
    all_goals
      go_ret
      exact ⟨by simp [RLnk.same, hp], (by repeat (first | with_reducible exact Below.refl _ _ | with_reducible assumption | with_reducible refine Below.drew ?_ | with_reducible refine Below.alloc ?_ (by first | exact Nat.le_refl _ | omega | (simp; done) | (simp; omega)) _ | with_reducible refine Below.setCell ?_ (by first | exact Nat.le_refl _ | omega | (simp; done) | (simp; omega)) _ | (with_reducible refine ext_trans ?_ (by with_reducible assumption))))⟩
  subst hp
  have hs : RLnk.same ⟨m, p, r1⟩ ⟨m, p, r2⟩ = decide (r1 = r2) := by simp [RLnk.same]
  rw [hs]
  clear hs
  by_cases hr : r1.length = r2.length
  case neg =>
    have hne : ¬ ((r1.length : Int) = (r2.length : Int)) := by omega
    rw [list_len_ne hr]
    go_enter Try.func22, Try.ntmps22
    go_wp2_with fail
    all_goals
      go_ret
      exact ⟨rfl, (by repeat (first | with_reducible exact Below.refl _ _ | with_reducible assumption | with_reducible refine Below.drew ?_ | with_reducible refine Below.alloc ?_ (by first | exact Nat.le_refl _ | omega | (simp; done) | (simp; omega)) _ | with_reducible refine Below.setCell ?_ (by first | exact Nat.le_refl _ | omega | (simp; done) | (simp; omega)) _ | (with_reducible refine ext_trans ?_ (by with_reducible assumption))))⟩
  have H2 : Hid (Rd w w.heap.size (.slice A2 r1.length c2) r1.length (cellsOf eEntry r2)) := by
    have h := H2'.out
    unfold RdEntry at h
    rw [← hr] at h
    exact h
  clear H2'
  rw [← hr]
  have HL := Lib.hid hr
  clear hr n2
  go_enter Try.func22, Try.ntmps22
  go_wp2_with fail
  go_loopw [5] (fun i wr => ∃ k : Nat, k ≤ r1.length ∧ i = .int .i64 k ∧ Hid (r1.take k = r2.take k) ∧ Hid (wr.heap[w.heap.size]? = some (.cells #[.int .i64 m, .int .i64 p, .slice A1 r1.length c1] 37 (0, 0))) ∧ Hid (wr.heap[w.heap.size + 1]? = some (.cells #[.int .i64 m, .int .i64 p, .slice A2 r1.length c2] 37 (0, 0))) ∧ Below w.heap.size w wr) (fun i _ => r1.length - (intOf i).toNat)
  case atStart => exact ⟨0, by omega, rfl, rfl, (by repeat (first | exact heap_new _ _ _ (by first | rfl | (simp; done) | (simp; omega)) | refine (Below.heap_alloc _ _ _ (by first | omega | (simp; done) | (simp; omega))).trans ?_)), (by repeat (first | exact heap_new _ _ _ (by first | rfl | (simp; done) | (simp; omega)) | refine (Below.heap_alloc _ _ _ (by first | omega | (simp; done) | (simp; omega))).trans ?_)), (by repeat (first | with_reducible exact Below.refl _ _ | with_reducible assumption | with_reducible refine Below.drew ?_ | with_reducible refine Below.alloc ?_ (by first | exact Nat.le_refl _ | omega | (simp; done) | (simp; omega)) _ | with_reducible refine Below.setCell ?_ (by first | exact Nat.le_refl _ | omega | (simp; done) | (simp; omega)) _ | (with_reducible refine ext_trans ?_ (by with_reducible assumption))))⟩
  case round =>
    obtain ⟨k, hk, rfl, htk, hR1, hR2, hb⟩ := hrel
    have hr1 := hR1.out
    have hr2 := hR2.out
    have r0_hr1 := cell_of_row _ _ 0 _ _ _ hr1
    have r1_hr1 := cell_of_row _ _ 1 _ _ _ hr1
    have r2_hr1 := cell_of_row _ _ 2 _ _ _ hr1
    have f0_hr1 := frozen_of_row _ _ 0 _ _ hr1
    have f1_hr1 := frozen_of_row _ _ 1 _ _ hr1
    have f2_hr1 := frozen_of_row _ _ 2 _ _ hr1
    simp at r0_hr1 r1_hr1 r2_hr1
    have r0_hr2 := cell_of_row _ _ 0 _ _ _ hr2
    have r1_hr2 := cell_of_row _ _ 1 _ _ _ hr2
    have r2_hr2 := cell_of_row _ _ 2 _ _ _ hr2
    have f0_hr2 := frozen_of_row _ _ 0 _ _ hr2
    have f1_hr2 := frozen_of_row _ _ 1 _ _ hr2
    have f2_hr2 := frozen_of_row _ _ 2 _ _ hr2
    simp at r0_hr2 r1_hr2 r2_hr2
    clear hr1 hr2
    by_cases hlt1 : k < r1.length
    · have hlt2 : k < r2.length := by have := HL.out; omega
      obtain ⟨b1, off1, rfl, hbB1, hcell1⟩ := H1.out.elem eEntry_len (by omega) k hlt1
      obtain ⟨z1, hz1⟩ : ∃ z, r1[k] = z := ⟨_, rfl⟩
      rw [hz1] at hcell1
      obtain ⟨x0, x1, x2⟩ := z1
      have c10 : wr.cell? ⟨b1, off1 + k * 3, none⟩ = some (.int .i64 x0) := (hb.cell (p := ⟨b1, _, none⟩) hbB1).trans (hcell1 0 (by omega))
      have c11 : wr.cell? ⟨b1, off1 + k * 3 + 1, none⟩ = some (.int .i64 x1) := (hb.cell (p := ⟨b1, _, none⟩) hbB1).trans (hcell1 1 (by omega))
      have c12 : wr.cell? ⟨b1, off1 + k * 3 + 2, none⟩ = some (.int .i64 x2) := (hb.cell (p := ⟨b1, _, none⟩) hbB1).trans (hcell1 2 (by omega))
      have HZ1 := Lib.hid hz1
      clear hcell1 hz1
      obtain ⟨b2, off2, rfl, hbB2, hcell2⟩ := H2.out.elem eEntry_len (by omega) k hlt2
      obtain ⟨z2, hz2⟩ : ∃ z, r2[k] = z := ⟨_, rfl⟩
      rw [hz2] at hcell2
      obtain ⟨y0, y1, y2⟩ := z2
      have c20 : wr.cell? ⟨b2, off2 + k * 3, none⟩ = some (.int .i64 y0) := (hb.cell (p := ⟨b2, _, none⟩) hbB2).trans (hcell2 0 (by omega))
      have c21 : wr.cell? ⟨b2, off2 + k * 3 + 1, none⟩ = some (.int .i64 y1) := (hb.cell (p := ⟨b2, _, none⟩) hbB2).trans (hcell2 1 (by omega))
      have c22 : wr.cell? ⟨b2, off2 + k * 3 + 2, none⟩ = some (.int .i64 y2) := (hb.cell (p := ⟨b2, _, none⟩) hbB2).trans (hcell2 2 (by omega))
      have HZ2 := Lib.hid hz2
      clear hcell2 hz2
      have hk0 : (0 : Int) ≤ (k : Int) := by omega
      have hnk : (k : Int) < (r1.length : Int) := by omega
      have hbd : Below w.heap.size w wr.drew := hb.drew
      have hR1' : Hid (wr.drew.heap[w.heap.size]? = _) := hR1
      have hR2' : Hid (wr.drew.heap[w.heap.size + 1]? = _) := hR2
      go_wp2_with fail
      refine wp_region_still_tail 10 (by kernel_rfl) (by kernel_rfl) ?_
      simp only [List.take_succ_cons, List.take_zero, List.drop_succ_cons, List.drop_zero]
      repeat (first | still_step)
      refine wpStill_nil ?_
      change wpList _ _ _ _ _ wr.drew
      generalize wr.drew = wd at *
      go_wp2_with fail
      case roundEnd => (have e0 : x0 = y0 := (by assumption); have e1 : x1 = y1 := (by assumption); have e2 : x2 = y2 := (by assumption); subst e0 e1 e2; exact ⟨⟨k + 1, by omega, by go_num, take_more htk.out hlt1 hlt2 HZ1.out HZ2.out, hR1', hR2', (by repeat (first | with_reducible exact Below.refl _ _ | with_reducible assumption | with_reducible refine Below.drew ?_ | with_reducible refine Below.alloc ?_ (by first | exact Nat.le_refl _ | omega | (simp; done) | (simp; omega)) _ | with_reducible refine Below.setCell ?_ (by first | exact Nat.le_refl _ | omega | (simp; done) | (simp; omega)) _ | (with_reducible refine ext_trans ?_ (by with_reducible assumption))))⟩, by simp [intOf]; omega⟩)
      all_goals (go_ret; exact ⟨by rw [list_ne hlt1 hlt2 HZ1.out HZ2.out (fun h => by cases h; exact absurd rfl (by assumption))]; rfl, (by repeat (first | with_reducible exact Below.refl _ _ | with_reducible assumption | with_reducible refine Below.drew ?_ | with_reducible refine Below.alloc ?_ (by first | exact Nat.le_refl _ | omega | (simp; done) | (simp; omega)) _ | with_reducible refine Below.setCell ?_ (by first | exact Nat.le_refl _ | omega | (simp; done) | (simp; omega)) _ | (with_reducible refine ext_trans ?_ (by with_reducible assumption))))⟩)
    · obtain rfl : k = r1.length := by omega
      go_wp2_with fail
      go_ret
      exact ⟨by rw [list_same HL.out htk.out]; rfl, hb⟩
end Go.Proofs.Yteaniiponikpjaa
