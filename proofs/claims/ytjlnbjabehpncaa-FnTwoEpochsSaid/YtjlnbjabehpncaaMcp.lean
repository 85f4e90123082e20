/-
  Contracts of KeyMac, SameMac, TableMac, and of the library's Equal and Clone at rows of a Mac.
-/
import Derived.Test.YtjlnbjabehpncaaMcs
import Derived.Test.YtjlnbjabehpncaaStr
import Derived.Laws.AppendOwnNone
namespace Go.Proofs.Ytjlnbjabehpncaa
open Go.RowKit

theorem sKeyMac_any (k l : Int) (w : World) :
    Calls Try.prog 76 #[.int .u64 k, .int .u64 l] w fun e w' => e = .returned (vM false k l (.slice none 0 0)) ∧ Below w.heap.size w w' := by
  go_enter Try.func76, Try.ntmps76
  go_wp2_with fail
  exact bodyPost_ret (v := vM false k l (.slice none 0 0)) (by simp [results, Try.results76, go_sem]) rfl ⟨rfl, (by repeat (first | with_reducible exact Below.refl _ _ | with_reducible assumption | with_reducible refine Below.drew ?_ | with_reducible refine Below.alloc ?_ (by first | exact Nat.le_refl _ | omega | (simp; done) | (simp; omega)) _ | with_reducible refine Below.setCell ?_ (by first | exact Nat.le_refl _ | omega | (simp; done) | (simp; omega)) _ | (with_reducible refine ext_trans ?_ (by with_reducible assumption))))⟩
def sameB (u1 : Bool) (k1 l1 : Int) (r1 : List RMacRow) (u2 : Bool) (k2 l2 : Int) (r2 : List RMacRow) : Bool := u1 == u2 && (k1 == k2 && (l1 == l2 && decide (r1 = r2)))
set_option maxRecDepth 100000 in
theorem SameMac_any (u1 : Bool) (k1 l1 : Int) (v1 : Value) (r1 : List RMacRow) (u2 : Bool) (k2 l2 : Int) (v2 : Value) (r2 : List RMacRow) (hn1 : r1.length ≤ maxLen) (hn2 : r2.length ≤ maxLen) (w : World) (h1 : RdMacRow w v1 r1) (h2 : RdMacRow w v2 r2) :
    Calls Try.prog 54 #[vM u1 k1 l1 v1, vM u2 k2 l2 v2] w fun e w' => e = .returned (.bool (sameB u1 k1 l1 r1 u2 k2 l2 r2)) ∧ Below w.heap.size w w' := by
  obtain ⟨A1, c1, rfl, -⟩ := id h1
  obtain ⟨A2, c2, rfl, -⟩ := id h2
  have H1 := Lib.hid h1
  have H2 := Lib.hid h2
  have N1 := Lib.hid hn1
  have N2 := Lib.hid hn2
  clear h1 h2 hn1 hn2
  go_enter Try.func54, Try.ntmps54
  go_wp2_with (go_at_call 85; refine (EqualMacRow_any _ _ r1 r2 N1.out N2.out _ (H1.out.below (by repeat (first | with_reducible exact Below.refl _ _ | with_reducible assumption | with_reducible refine Below.drew ?_ | with_reducible refine Below.alloc ?_ (by first | exact Nat.le_refl _ | omega | (simp; done) | (simp; omega)) _ | with_reducible refine Below.setCell ?_ (by first | exact Nat.le_refl _ | omega | (simp; done) | (simp; omega)) _ | (with_reducible refine ext_trans ?_ (by with_reducible assumption))))) (H2.out.below (by repeat (first | with_reducible exact Below.refl _ _ | with_reducible assumption | with_reducible refine Below.drew ?_ | with_reducible refine Below.alloc ?_ (by first | exact Nat.le_refl _ | omega | (simp; done) | (simp; omega)) _ | with_reducible refine Below.setCell ?_ (by first | exact Nat.le_refl _ | omega | (simp; done) | (simp; omega)) _ | (with_reducible refine ext_trans ?_ (by with_reducible assumption)))))).mono ?_; rintro e w1 ⟨rfl, hb1⟩)
  all_goals
    go_ret
    refine ⟨?_, (by repeat (first | with_reducible exact Below.refl _ _ | with_reducible assumption | with_reducible refine Below.drew ?_ | with_reducible refine Below.alloc ?_ (by first | exact Nat.le_refl _ | omega | (simp; done) | (simp; omega)) _ | with_reducible refine Below.setCell ?_ (by first | exact Nat.le_refl _ | omega | (simp; done) | (simp; omega)) _ | (with_reducible refine ext_trans ?_ (by with_reducible assumption))))⟩
    simp_all [sameB]
set_option maxRecDepth 100000 in
set_option maxHeartbeats 1000000 in
theorem sSameMac_any (u1 : Bool) (k1 l1 : Int) (v1 : Value) (r1 : List RMacRow) (u2 : Bool) (k2 l2 : Int) (v2 : Value) (r2 : List RMacRow) (hn1 : r1.length ≤ maxLen) (_hn2 : r2.length ≤ maxLen) (w : World) (h1 : RdMacRow w v1 r1) (h2 : RdMacRow w v2 r2) :
    Calls Try.prog 50 #[vM u1 k1 l1 v1, vM u2 k2 l2 v2] w fun e w' => e = .returned (.bool (sameB u1 k1 l1 r1 u2 k2 l2 r2)) ∧ Below w.heap.size w w' := by
  unfold maxLen at hn1 _hn2
  obtain ⟨A1, c1, rfl, -⟩ := id h1
  obtain ⟨A2, c2, rfl, -⟩ := id h2
  have H1 := Lib.hid h1
  have H2' := Lib.hid h2
  clear h1 h2
  by_cases hu : u1 = u2
  · subst hu
    by_cases hk : k1 = k2
    · subst hk
      by_cases hl : l1 = l2
      · subst hl
        have hs : sameB u1 k1 l1 r1 u1 k1 l1 r2 = decide (r1 = r2) := by simp [sameB]
        rw [hs]
        clear hs
        by_cases hr : r1.length = r2.length
        · have H2 : Hid (Rd w w.heap.size (.slice A2 r1.length c2) r1.length (cellsOf eMacRow r2)) := by
            have h := H2'.out
            unfold RdMacRow at h
            rw [← hr] at h
            exact h
          clear H2'
          rw [← hr]
          have HL := Lib.hid hr
          clear hr _hn2
          go_enter Try.func50, Try.ntmps50
          go_wp2_with fail
          go_loopw [5] (fun i wr => ∃ k : Nat, k ≤ r1.length ∧ i = .int .i64 k ∧ Hid (r1.take k = r2.take k) ∧ Hid (wr.heap[w.heap.size]? = some (.cells #[.bool u1, .int .u64 k1, .int .u64 l1, .slice A1 r1.length c1] 27 (0, 0))) ∧ Hid (wr.heap[w.heap.size + 1]? = some (.cells #[.bool u1, .int .u64 k1, .int .u64 l1, .slice A2 r1.length c2] 27 (0, 0))) ∧ Below w.heap.size w wr) (fun i _ => r1.length - (intOf i).toNat)
          case atStart => exact ⟨0, by omega, rfl, rfl, (by repeat (first | exact heap_new _ _ _ (by first | rfl | (simp; done) | (simp; omega)) | refine (Below.heap_alloc _ _ _ (by first | omega | (simp; done) | (simp; omega))).trans ?_)), (by repeat (first | exact heap_new _ _ _ (by first | rfl | (simp; done) | (simp; omega)) | refine (Below.heap_alloc _ _ _ (by first | omega | (simp; done) | (simp; omega))).trans ?_)), (by repeat (first | with_reducible exact Below.refl _ _ | with_reducible assumption | with_reducible refine Below.drew ?_ | with_reducible refine Below.alloc ?_ (by first | exact Nat.le_refl _ | omega | (simp; done) | (simp; omega)) _ | with_reducible refine Below.setCell ?_ (by first | exact Nat.le_refl _ | omega | (simp; done) | (simp; omega)) _ | (with_reducible refine ext_trans ?_ (by with_reducible assumption))))⟩
          case round =>
            obtain ⟨k, hk, rfl, htk, hR1, hR2, hb⟩ := hrel
            have hr1 := hR1.out
            have hr2 := hR2.out
            have r0_hr1 := cell_of_row _ _ 0 _ _ _ hr1
            have r1_hr1 := cell_of_row _ _ 1 _ _ _ hr1
            have r2_hr1 := cell_of_row _ _ 2 _ _ _ hr1
            have r3_hr1 := cell_of_row _ _ 3 _ _ _ hr1
            have f0_hr1 := frozen_of_row _ _ 0 _ _ hr1
            have f1_hr1 := frozen_of_row _ _ 1 _ _ hr1
            have f2_hr1 := frozen_of_row _ _ 2 _ _ hr1
            have f3_hr1 := frozen_of_row _ _ 3 _ _ hr1
            simp at r0_hr1 r1_hr1 r2_hr1 r3_hr1
            have r0_hr2 := cell_of_row _ _ 0 _ _ _ hr2
            have r1_hr2 := cell_of_row _ _ 1 _ _ _ hr2
            have r2_hr2 := cell_of_row _ _ 2 _ _ _ hr2
            have r3_hr2 := cell_of_row _ _ 3 _ _ _ hr2
            have f0_hr2 := frozen_of_row _ _ 0 _ _ hr2
            have f1_hr2 := frozen_of_row _ _ 1 _ _ hr2
            have f2_hr2 := frozen_of_row _ _ 2 _ _ hr2
            have f3_hr2 := frozen_of_row _ _ 3 _ _ hr2
            simp at r0_hr2 r1_hr2 r2_hr2 r3_hr2
            clear hr1 hr2
            have HT := Lib.hid htk
            by_cases hlt1 : k < r1.length
            · have hlt2 : k < r2.length := by have := HL.out; omega
              obtain ⟨b1, off1, rfl, hbB1, hcell1⟩ := H1.out.elem eMacRow_len (by omega) k hlt1
              obtain ⟨z1, hz1⟩ : ∃ z, r1[k] = z := ⟨_, rfl⟩
              rw [hz1] at hcell1
              obtain ⟨x0, x1⟩ := z1
              have c10 : wr.cell? ⟨b1, off1 + k * 2, none⟩ = some (.string x0) := (hb.cell (p := ⟨b1, _, none⟩) hbB1).trans (hcell1 0 (by omega))
              have c11 : wr.cell? ⟨b1, off1 + k * 2 + 1, none⟩ = some (.int .i64 x1) := (hb.cell (p := ⟨b1, _, none⟩) hbB1).trans (hcell1 1 (by omega))
              have HZ1 := Lib.hid hz1
              clear hcell1 hz1
              obtain ⟨b2, off2, rfl, hbB2, hcell2⟩ := H2.out.elem eMacRow_len (by omega) k hlt2
              obtain ⟨z2, hz2⟩ : ∃ z, r2[k] = z := ⟨_, rfl⟩
              rw [hz2] at hcell2
              obtain ⟨y0, y1⟩ := z2
              have c20 : wr.cell? ⟨b2, off2 + k * 2, none⟩ = some (.string y0) := (hb.cell (p := ⟨b2, _, none⟩) hbB2).trans (hcell2 0 (by omega))
              have c21 : wr.cell? ⟨b2, off2 + k * 2 + 1, none⟩ = some (.int .i64 y1) := (hb.cell (p := ⟨b2, _, none⟩) hbB2).trans (hcell2 1 (by omega))
              have HZ2 := Lib.hid hz2
              clear hcell2 hz2
              have hk0 : (0 : Int) ≤ (k : Int) := by omega
              have hnk : (k : Int) < (r1.length : Int) := by omega
              have hbd : Below w.heap.size w wr.drew := hb.drew
              have hR1' : Hid (wr.drew.heap[w.heap.size]? = _) := hR1
              have hR2' : Hid (wr.drew.heap[w.heap.size + 1]? = _) := hR2
              go_wp2_with fail
              refine wp_region_still_tail 10 (by kernel_rfl) (by kernel_rfl) ?_
              simp only [List.take_succ_cons, List.take_zero, List.drop_succ_cons, List.drop_zero]
              repeat (first | still_step)
              refine wpStill_nil ?_
              change wpList _ _ _ _ _ wr.drew
              generalize wr.drew = wd at *
              go_wp2_with fail
              case roundEnd => (have e0 : x0 = y0 := bytes_eq (by assumption); have e1 : x1 = y1 := (by assumption); subst e0 e1; exact ⟨⟨k + 1, by omega, by go_num, take_more htk.out hlt1 hlt2 HZ1.out HZ2.out, hR1', hR2', (by repeat (first | with_reducible exact Below.refl _ _ | with_reducible assumption | with_reducible refine Below.drew ?_ | with_reducible refine Below.alloc ?_ (by first | exact Nat.le_refl _ | omega | (simp; done) | (simp; omega)) _ | with_reducible refine Below.setCell ?_ (by first | exact Nat.le_refl _ | omega | (simp; done) | (simp; omega)) _ | (with_reducible refine ext_trans ?_ (by with_reducible assumption))))⟩, by simp [intOf]; omega⟩)
              all_goals (go_ret; exact ⟨by rw [list_ne hlt1 hlt2 HZ1.out HZ2.out (fun h => by cases h; exact absurd rfl (by assumption))]; rfl, (by repeat (first | with_reducible exact Below.refl _ _ | with_reducible assumption | with_reducible refine Below.drew ?_ | with_reducible refine Below.alloc ?_ (by first | exact Nat.le_refl _ | omega | (simp; done) | (simp; omega)) _ | with_reducible refine Below.setCell ?_ (by first | exact Nat.le_refl _ | omega | (simp; done) | (simp; omega)) _ | (with_reducible refine ext_trans ?_ (by with_reducible assumption))))⟩)
            · obtain rfl : k = r1.length := by omega
              go_wp2_with fail
              go_ret
              exact ⟨by rw [list_same HL.out htk.out]; rfl, hb⟩
        · have hne : ¬ ((r1.length : Int) = (r2.length : Int)) := by omega
          rw [list_len_ne hr]
          go_enter Try.func50, Try.ntmps50
          go_wp2_with fail
          go_ret
          exact ⟨rfl, (by repeat (first | with_reducible exact Below.refl _ _ | with_reducible assumption | with_reducible refine Below.drew ?_ | with_reducible refine Below.alloc ?_ (by first | exact Nat.le_refl _ | omega | (simp; done) | (simp; omega)) _ | with_reducible refine Below.setCell ?_ (by first | exact Nat.le_refl _ | omega | (simp; done) | (simp; omega)) _ | (with_reducible refine ext_trans ?_ (by with_reducible assumption))))⟩
      · go_enter Try.func50, Try.ntmps50
        go_wp2_with fail
        go_ret
        exact ⟨by simp [sameB, hl], (by repeat (first | with_reducible exact Below.refl _ _ | with_reducible assumption | with_reducible refine Below.drew ?_ | with_reducible refine Below.alloc ?_ (by first | exact Nat.le_refl _ | omega | (simp; done) | (simp; omega)) _ | with_reducible refine Below.setCell ?_ (by first | exact Nat.le_refl _ | omega | (simp; done) | (simp; omega)) _ | (with_reducible refine ext_trans ?_ (by with_reducible assumption))))⟩
    · go_enter Try.func50, Try.ntmps50
      go_wp2_with fail
      go_ret
      exact ⟨by simp [sameB, hk], (by repeat (first | with_reducible exact Below.refl _ _ | with_reducible assumption | with_reducible refine Below.drew ?_ | with_reducible refine Below.alloc ?_ (by first | exact Nat.le_refl _ | omega | (simp; done) | (simp; omega)) _ | with_reducible refine Below.setCell ?_ (by first | exact Nat.le_refl _ | omega | (simp; done) | (simp; omega)) _ | (with_reducible refine ext_trans ?_ (by with_reducible assumption))))⟩
  · go_enter Try.func50, Try.ntmps50
    go_wp2_with fail
    go_ret
    exact ⟨by simp [sameB, hu], (by repeat (first | with_reducible exact Below.refl _ _ | with_reducible assumption | with_reducible refine Below.drew ?_ | with_reducible refine Below.alloc ?_ (by first | exact Nat.le_refl _ | omega | (simp; done) | (simp; omega)) _ | with_reducible refine Below.setCell ?_ (by first | exact Nat.le_refl _ | omega | (simp; done) | (simp; omega)) _ | (with_reducible refine ext_trans ?_ (by with_reducible assumption))))⟩
set_option maxHeartbeats 1000000 in
theorem sTableMac_any (v : Value) (rs : List RMacRow) (hn : rs.length ≤ 1048600) (w : World) (h : RdMacRow w v rs) :
    Calls Try.prog 74 #[v] w (NewMac true 0 0 rs w) := by
  obtain ⟨i0, hi, hz0, hz1, hz2⟩ := info_parts info_MacRow
  obtain ⟨A, c, rfl, ⟨hc1, hc2, hc3⟩, -⟩ := id h
  unfold maxLen at hc2
  have HH := Lib.hid h
  clear h
  cases A with
  | none =>
    obtain rfl := hc3 rfl
    obtain rfl : rs = [] := List.eq_nil_of_length_eq_zero (by omega)
    clear hc1 hc2 hc3
    go_enter Try.func74, Try.ntmps74
    go_wp2_with (refine wpList_append_own_none (by rfl) (.tmp 3) (.tmp 4) 25 (by rfl) (w.heap.size + 1) 87 i0 2 Try.underlying25 hi (.slice (some ⟨w.heap.size + 1, 0, none⟩) 0 0) 0 [] (by rfl) ?c1 (by rfl) ?_)
    case c1 =>
      have h := World.ownsRow_made (base := w.heap.size + 1) (e := 87) (size := 2) (w.alloc (.cells #[.bool false, .int .u64 0, .int .u64 0, .slice none 0 0] 27)) #[] 0 (by simp) (Nat.zero_le _) (by simp)
      rw [show (w.alloc (.cells #[.bool false, .int .u64 0, .int .u64 0, .slice none 0 0] 27)).heap.size = w.heap.size + 1 from by simp] at h
      exact h
    exact bodyPost_ret (v := vM true 0 0 (.slice (some ⟨w.heap.size + 1, 0, none⟩) 0 0)) (by simp [results, Try.results74, go_sem]) rfl ⟨_, rfl, .inr ⟨rfl, _, _, rfl, Nat.zero_le _, fun h => by cases h⟩, (by repeat (first | with_reducible exact Below.refl _ _ | with_reducible assumption | with_reducible refine Below.drew ?_ | with_reducible refine Below.alloc ?_ (by first | exact Nat.le_refl _ | omega | (simp; done) | (simp; omega)) _ | with_reducible refine Below.setCell ?_ (by first | exact Nat.le_refl _ | omega | (simp; done) | (simp; omega)) _ | (with_reducible refine ext_trans ?_ (by with_reducible assumption))))⟩
  | some ad =>
    clear hc3
    go_enter Try.func74, Try.ntmps74
    go_wp2_with (refine wpList_append_own _ (by rfl) (.tmp 3) (.tmp 4) 25 (by rfl) (w.heap.size + 1) 87 i0 _ 2 24 Try.underlying25 hi hz0 hz1 hz2 (by rfl) (by omega) (.slice (some ⟨w.heap.size + 1, 0, none⟩) 0 0) 0 [] (by rfl) ?c1 ad rs.length c (cellsOf eMacRow rs) (by rfl) ?c2 ?c3 ?c4 ?c5 ?c6 ?c7 ?_)
    case c1 =>
      have h := World.ownsRow_made (base := w.heap.size + 1) (e := 87) (size := 2) (w.alloc (.cells #[.bool false, .int .u64 0, .int .u64 0, .slice none 0 0] 27)) #[] 0 (by simp) (Nat.zero_le _) (by simp)
      rw [show (w.alloc (.cells #[.bool false, .int .u64 0, .int .u64 0, .slice none 0 0] 27)).heap.size = w.heap.size + 1 from by simp] at h
      exact h
    case c2 => exact cells_len (m := 2) eMacRow_len rs
    case c3 => exact HH.out.newsMacRow (by repeat (first | with_reducible exact Below.refl _ _ | with_reducible assumption | with_reducible refine Below.drew ?_ | with_reducible refine Below.alloc ?_ (by first | exact Nat.le_refl _ | omega | (simp; done) | (simp; omega)) _ | with_reducible refine Below.setCell ?_ (by first | exact Nat.le_refl _ | omega | (simp; done) | (simp; omega)) _ | (with_reducible refine ext_trans ?_ (by with_reducible assumption))))
    case c4 => exact oneMacRow rs
    case c5 => unfold maxLen; omega
    case c6 => omega
    case c7 => simp
    intro v' w1 hown hgr _
    obtain ⟨A', c', rfl⟩ : ∃ A' c', v' = .slice A' rs.length c' := OwnE.form (enc := eMacRow) (.inl hown)
    have HO : Hid (OwnMacRow w1 (w.heap.size + 1) (.slice A' rs.length c') rs) := .inl hown
    have hb1 : Below (w.heap.size + 1) ((w.alloc (.cells #[.bool false, .int .u64 0, .int .u64 0, .slice none 0 0] 27)).alloc (.cells #[] 87)) w1 := Below.grown (Below.refl _ _) hgr (by simp) (by simp [Value.ownBlock])
    have hr : w1.heap[w.heap.size]? = some (.cells #[.bool false, .int .u64 0, .int .u64 0, .slice none 0 0] 27 (0, 0)) := (hb1.block _ (by omega)).trans (by repeat (first | exact heap_new _ _ _ (by first | rfl | (simp; done) | (simp; omega)) | refine (Below.heap_alloc _ _ _ (by first | omega | (simp; done) | (simp; omega))).trans ?_))
    have hbw : Below w.heap.size w w1 := (((Below.refl _ _).alloc (Nat.le_refl _) _).alloc (by simp) _).trans (hb1.mono (by omega))
    have hlw := (Array.getElem?_eq_some_iff.1 hr).1
    clear hown hgr
    have r0_hr := cell_of_row _ _ 0 _ _ _ hr
    have r1_hr := cell_of_row _ _ 1 _ _ _ hr
    have r2_hr := cell_of_row _ _ 2 _ _ _ hr
    have r3_hr := cell_of_row _ _ 3 _ _ _ hr
    have f0_hr := frozen_of_row _ _ 0 _ _ hr
    have f1_hr := frozen_of_row _ _ 1 _ _ hr
    have f2_hr := frozen_of_row _ _ 2 _ _ hr
    have f3_hr := frozen_of_row _ _ 3 _ _ hr
    simp at r0_hr r1_hr r2_hr r3_hr
    go_wp2_with fail
    apply bodyPost_ret (results_cell_row (P := Try.prog) (fn := Try.f74) rfl _ _ _ 27 _ (0, 0) _ rfl _ Try.underlying27 rfl _) rfl
    rotate_left 2
    · repeat (first | (with_reducible apply heap_setCell_same) | (with_reducible apply drew_row) | (with_reducible apply drewN_row) | (with_reducible exact hr) | (with_reducible refine (heap_setCell_other _ _ _ _ (by first | omega | (simp; done) | (simp; omega))).trans ?_) | (with_reducible refine (Below.heap_alloc _ _ _ (by first | omega | (simp; done) | (simp; omega))).trans ?_))
    · kernel_rfl
    exact ⟨_, by simp; rfl, OwnE.mono (base := w.heap.size + 1) (by repeat (first | with_reducible exact HO.out | (with_reducible refine OwnE.setBelow ?_ (by first | (simp; done) | (simp; omega)) _) | with_reducible refine OwnE.alloc ?_ _ | with_reducible refine OwnE.drew ?_)) (by omega), (by repeat (first | with_reducible exact Below.refl _ _ | with_reducible assumption | with_reducible refine Below.drew ?_ | with_reducible refine Below.alloc ?_ (by first | exact Nat.le_refl _ | omega | (simp; done) | (simp; omega)) _ | with_reducible refine Below.setCell ?_ (by first | exact Nat.le_refl _ | omega | (simp; done) | (simp; omega)) _ | (with_reducible refine ext_trans ?_ (by with_reducible assumption))))⟩
end Go.Proofs.Ytjlnbjabehpncaa
