/-
  Contracts of CacheOk, the program's and the reference's.
-/
import Derived.Test.YteaniiponikpjaaEnt
namespace Go.Proofs.Yteaniiponikpjaa
set_option maxRecDepth 100000
open Go.RowKit

set_option maxHeartbeats 4000000 in
theorem CacheOk_any (v : Value) (l : List REntry) (hn : l.length ≤ maxLen) (w : World) (h : RdEntry w v l) :
    Calls Try.prog 20 #[v] w fun e w' => e = .returned (.bool (cacheB l)) ∧ Below w.heap.size w w' := by
  have N := Lib.hid hn
  obtain ⟨A, c, rfl, hcc, -⟩ := id h
  obtain ⟨hcn, hcm, -⟩ := hcc
  unfold maxLen at hn hcm
  have H := Lib.hid h
  clear h
  have HR : Hid (cacheTo l l.length = false → cacheB l = false) := fun h => by simp [cacheB, h]
  by_cases h4 : (l.length : Int) ≤ 4
  case neg =>
    go_enter Try.func20, Try.ntmps20
    go_wp2_with fail
    go_ret
    refine ⟨congrArg Ending.returned (congrArg Value.bool ?_), (by repeat (first | with_reducible exact Below.refl _ _ | with_reducible assumption | with_reducible refine Below.drew ?_ | with_reducible refine Below.alloc ?_ (by first | exact Nat.le_refl _ | omega | (simp; done) | (simp; omega)) _ | with_reducible refine Below.setCell ?_ (by first | exact Nat.le_refl _ | omega | (simp; done) | (simp; omega)) _ | (with_reducible refine ext_trans ?_ (by with_reducible assumption))))⟩
    unfold cacheB
    rw [decide_eq_false (by omega)]
    rfl
  have HC : Hid (cacheTo l l.length = true → cacheB l = true) := fun h => by (unfold cacheB; rw [h, decide_eq_true (by omega)]; rfl)
  go_enter Try.func20, Try.ntmps20
  go_wp2_with fail
  go_loopw [12] (fun i wr => ∃ q : Nat, q ≤ l.length ∧ i = .int .i64 q ∧ Hid (cacheTo l q = true) ∧ Below w.heap.size w wr) (fun i _ => l.length - (intOf i).toNat)
  case atStart => exact ⟨0, by omega, rfl, rfl, (by repeat (first | with_reducible exact Below.refl _ _ | with_reducible assumption | with_reducible refine Below.drew ?_ | with_reducible refine Below.alloc ?_ (by first | exact Nat.le_refl _ | omega | (simp; done) | (simp; omega)) _ | with_reducible refine Below.setCell ?_ (by first | exact Nat.le_refl _ | omega | (simp; done) | (simp; omega)) _ | (with_reducible refine ext_trans ?_ (by with_reducible assumption))))⟩
  case round =>
    obtain ⟨q, hq, rfl, hok, hbw⟩ := hrel
    have hbs := hbw.size
    by_cases hlt : q < l.length
    · obtain ⟨b, off, rfl, hbB, hcell⟩ := H.out.elem eEntry_len (by omega) q hlt
      obtain ⟨z, hz⟩ : ∃ z, l[q] = z := ⟨_, rfl⟩
      rw [hz] at hcell
      obtain ⟨y0, y1, y2⟩ := z
      have c0 : wr.cell? ⟨b, off + q * 3, none⟩ = some (.int .i64 y0) := (hbw.cell (p := ⟨b, _, none⟩) hbB).trans (hcell 0 (by omega))
      have c1 : wr.cell? ⟨b, off + q * 3 + 1, none⟩ = some (.int .i64 y1) := (hbw.cell (p := ⟨b, _, none⟩) hbB).trans (hcell 1 (by omega))
      have c2 : wr.cell? ⟨b, off + q * 3 + 2, none⟩ = some (.int .i64 y2) := (hbw.cell (p := ⟨b, _, none⟩) hbB).trans (hcell 2 (by omega))
      have hnq : (q : Int) < (l.length : Int) := by omega
      have HZ := Lib.hid hz
      clear hcell hz
      obtain ⟨B, hB⟩ : ∃ B, (l.take q).any (isIp y0) = B := ⟨_, rfl⟩
      have HB := Lib.hid hB
      clear hB
      have HT : Hid (∀ W, Below w.heap.size w W → Calls Try.prog 17 #[.slice (some ⟨b, off, none⟩) q c, .int .i64 y0] W fun e w' => e = .returned (.tuple #[.int .i64 (hwR (l.take q) y0).1, .bool B]) ∧ Below W.heap.size W w') := fun W hW => by
        have hh := HwOf_any (.slice (some ⟨b, off, none⟩) q c) (l.take q) y0 (by rw [List.length_take]; unfold maxLen; omega) W (by unfold RdEntry; rw [List.length_take, Nat.min_eq_left (by omega)]; exact (H.out.takeE q (by omega)).keep hW.block hW.size)
        rw [hwR_two, HB.out] at hh
        exact hh
      by_cases h1 : wordB y0 32 = true
      case neg =>
        have h1 := Bool.eq_false_iff.2 h1
        have hbad := Lib.hid (cacheTo_no (n := l.length) ((entOk_is hlt HZ.out h1 rfl rfl rfl).trans (by simp)) hlt)
        go_wp2_with (first | (go_at_call 53; refine (WordOk_any _ _ _).mono ?_; rintro e' w' ⟨rfl, rfl⟩) | (go_at_call 54; refine (within_any _ _ _ _).mono ?_; rintro e' w' ⟨rfl, rfl⟩))
        go_ret
        exact ⟨by rw [HR.out hbad.out]; rfl, (by repeat (first | with_reducible exact Below.refl _ _ | with_reducible assumption | with_reducible refine Below.drew ?_ | with_reducible refine Below.alloc ?_ (by first | exact Nat.le_refl _ | omega | (simp; done) | (simp; omega)) _ | with_reducible refine Below.setCell ?_ (by first | exact Nat.le_refl _ | omega | (simp; done) | (simp; omega)) _ | (with_reducible refine ext_trans ?_ (by with_reducible assumption))))⟩
      by_cases h2 : wordB y1 48 = true
      case neg =>
        have h2 := Bool.eq_false_iff.2 h2
        have hbad := Lib.hid (cacheTo_no (n := l.length) ((entOk_is hlt HZ.out h1 h2 rfl rfl).trans (by simp)) hlt)
        go_wp2_with (first | (go_at_call 53; refine (WordOk_any _ _ _).mono ?_; rintro e' w' ⟨rfl, rfl⟩) | (go_at_call 54; refine (within_any _ _ _ _).mono ?_; rintro e' w' ⟨rfl, rfl⟩))
        go_ret
        exact ⟨by rw [HR.out hbad.out]; rfl, (by repeat (first | with_reducible exact Below.refl _ _ | with_reducible assumption | with_reducible refine Below.drew ?_ | with_reducible refine Below.alloc ?_ (by first | exact Nat.le_refl _ | omega | (simp; done) | (simp; omega)) _ | with_reducible refine Below.setCell ?_ (by first | exact Nat.le_refl _ | omega | (simp; done) | (simp; omega)) _ | (with_reducible refine ext_trans ?_ (by with_reducible assumption))))⟩
      by_cases h3 : inB y2 0 9 = true
      case neg =>
        have h3 := Bool.eq_false_iff.2 h3
        have hbad := Lib.hid (cacheTo_no (n := l.length) ((entOk_is hlt HZ.out h1 h2 h3 rfl).trans (by simp)) hlt)
        go_wp2_with (first | (go_at_call 53; refine (WordOk_any _ _ _).mono ?_; rintro e' w' ⟨rfl, rfl⟩) | (go_at_call 54; refine (within_any _ _ _ _).mono ?_; rintro e' w' ⟨rfl, rfl⟩))
        go_ret
        exact ⟨by rw [HR.out hbad.out]; rfl, (by repeat (first | with_reducible exact Below.refl _ _ | with_reducible assumption | with_reducible refine Below.drew ?_ | with_reducible refine Below.alloc ?_ (by first | exact Nat.le_refl _ | omega | (simp; done) | (simp; omega)) _ | with_reducible refine Below.setCell ?_ (by first | exact Nat.le_refl _ | omega | (simp; done) | (simp; omega)) _ | (with_reducible refine ext_trans ?_ (by with_reducible assumption))))⟩
      have hent := Lib.hid (entOk_is hlt HZ.out h1 h2 h3 HB.out)
      go_wp2_with (first | (go_at_call 53; refine (WordOk_any _ _ _).mono ?_; rintro e' w' ⟨rfl, rfl⟩) | (go_at_call 54; refine (within_any _ _ _ _).mono ?_; rintro e' w' ⟨rfl, rfl⟩))
      have hb9 : Below w.heap.size w (wr.alloc (.cells #[.int .i64 y0, .int .i64 y1, .int .i64 y2] 71)) := (by repeat (first | with_reducible exact Below.refl _ _ | with_reducible assumption | with_reducible refine Below.drew ?_ | with_reducible refine Below.alloc ?_ (by first | exact Nat.le_refl _ | omega | (simp; done) | (simp; omega)) _ | with_reducible refine Below.setCell ?_ (by first | exact Nat.le_refl _ | omega | (simp; done) | (simp; omega)) _ | (with_reducible refine ext_trans ?_ (by with_reducible assumption))))
      have hrow : (wr.alloc (.cells #[.int .i64 y0, .int .i64 y1, .int .i64 y2] 71)).heap[wr.heap.size]? = some (.cells #[.int .i64 y0, .int .i64 y1, .int .i64 y2] 71 (0, 0)) := (by repeat (first | exact heap_new _ _ _ (by first | rfl | (simp; done) | (simp; omega)) | refine (Below.heap_alloc _ _ _ (by first | omega | (simp; done) | (simp; omega))).trans ?_))
      have hl9 : wr.heap.size < (wr.alloc (.cells #[.int .i64 y0, .int .i64 y1, .int .i64 y2] 71)).heap.size := by simp
      generalize (wr.alloc (.cells #[.int .i64 y0, .int .i64 y1, .int .i64 y2] 71)) = w9 at *
      have r0_hrow := cell_of_row _ _ 0 _ _ _ hrow
      have r1_hrow := cell_of_row _ _ 1 _ _ _ hrow
      have r2_hrow := cell_of_row _ _ 2 _ _ _ hrow
      have f0_hrow := frozen_of_row _ _ 0 _ _ hrow
      have f1_hrow := frozen_of_row _ _ 1 _ _ hrow
      have f2_hrow := frozen_of_row _ _ 2 _ _ hrow
      simp at r0_hrow r1_hrow r2_hrow
      clear hrow
      have hqc : (q : Int) ≤ (c : Int) := by omega
      have hq0 : (0 : Int) ≤ (q : Int) := by omega
      first | go_region_held3 (fun w' => (∀ b' o, b' < (w9).heap.size → w'.cell? ⟨b', o, none⟩ = (w9).cell? ⟨b', o, none⟩) ∧ Below (w9).heap.size (w9) w') (first | with_reducible assumption | (with_reducible apply rg_keep; rotate_left; with_reducible assumption; with_reducible assumption) | with_reducible exact rg_start _ | with_reducible exact rg_alloc (KeptS.out (by with_reducible assumption)) _ | with_reducible exact rg_alloc (by with_reducible assumption) _ | with_reducible exact rg_start_alloc _ _ | ((repeat (with_reducible refine rg_set ?_ _ (by first | exact Nat.le_refl _ | omega | (simp; done) | (simp; omega)) _)); first | with_reducible exact KeptS.out (by with_reducible assumption) | with_reducible assumption | with_reducible exact rg_alloc (KeptS.out (by with_reducible assumption)) _)) (first | (go_at_call 17; ((with_reducible refine (HT.out _ (ext_trans hb9 (rgBEntry (by first | with_reducible assumption | exact KeptS.out (by with_reducible assumption))))).mono ?_); (rintro e wC ⟨rfl, hbC⟩; have hSC := rg_keepK (by first | with_reducible assumption | exact KeptS.out (by with_reducible assumption)) hbC)))) | fail
      all_goals
        have hbx : Below w.heap.size w wC := ext_trans hb9 (KeptS.out (by with_reducible assumption)).2
        cases B
        · go_wp2_with fail
          exact ⟨⟨q + 1, by omega, by go_num, cacheTo_more hok.out (hent.out.trans rfl), (by repeat (first | with_reducible exact Below.refl _ _ | with_reducible assumption | with_reducible refine Below.drew ?_ | with_reducible refine Below.alloc ?_ (by first | exact Nat.le_refl _ | omega | (simp; done) | (simp; omega)) _ | with_reducible refine Below.setCell ?_ (by first | exact Nat.le_refl _ | omega | (simp; done) | (simp; omega)) _ | (with_reducible refine ext_trans ?_ (by with_reducible assumption))))⟩, by simp [intOf]; omega⟩
        · have hbad := Lib.hid (cacheTo_no (n := l.length) (hent.out.trans rfl) hlt)
          go_wp2_with fail
          go_ret
          exact ⟨by rw [HR.out hbad.out]; rfl, (by repeat (first | with_reducible exact Below.refl _ _ | with_reducible assumption | with_reducible refine Below.drew ?_ | with_reducible refine Below.alloc ?_ (by first | exact Nat.le_refl _ | omega | (simp; done) | (simp; omega)) _ | with_reducible refine Below.setCell ?_ (by first | exact Nat.le_refl _ | omega | (simp; done) | (simp; omega)) _ | (with_reducible refine ext_trans ?_ (by with_reducible assumption))))⟩
    · obtain rfl : q = l.length := by omega
      go_wp2_with fail
      go_ret
      exact ⟨by rw [HC.out hok.out]; rfl, (by repeat (first | with_reducible exact Below.refl _ _ | with_reducible assumption | with_reducible refine Below.drew ?_ | with_reducible refine Below.alloc ?_ (by first | exact Nat.le_refl _ | omega | (simp; done) | (simp; omega)) _ | with_reducible refine Below.setCell ?_ (by first | exact Nat.le_refl _ | omega | (simp; done) | (simp; omega)) _ | (with_reducible refine ext_trans ?_ (by with_reducible assumption))))⟩

set_option maxHeartbeats 4000000 in
theorem sCacheOk_any (v : Value) (l : List REntry) (hn : l.length ≤ maxLen) (w : World) (h : RdEntry w v l) :
    Calls Try.prog 19 #[v] w fun e w' => e = .returned (.bool (cacheB l)) ∧ Below w.heap.size w w' := by
  have N := Lib.hid hn
  obtain ⟨A, c, rfl, hcc, -⟩ := id h
  obtain ⟨hcn, hcm, -⟩ := hcc
  unfold maxLen at hn hcm
  have H := Lib.hid h
  clear h
  have HR : Hid (cacheTo l l.length = false → cacheB l = false) := fun h => by simp [cacheB, h]
  go_enter Try.func19, Try.ntmps19
  go_wp2_with fail
  go_loopw [3] (fun i wr => ∃ q : Nat, q ≤ l.length ∧ i = .int .i64 q ∧ Hid (cacheTo l q = true) ∧ Below w.heap.size w wr) (fun i _ => l.length - (intOf i).toNat)
  case atStart => exact ⟨0, by omega, rfl, rfl, (by repeat (first | with_reducible exact Below.refl _ _ | with_reducible assumption | with_reducible refine Below.drew ?_ | with_reducible refine Below.alloc ?_ (by first | exact Nat.le_refl _ | omega | (simp; done) | (simp; omega)) _ | with_reducible refine Below.setCell ?_ (by first | exact Nat.le_refl _ | omega | (simp; done) | (simp; omega)) _ | (with_reducible refine ext_trans ?_ (by with_reducible assumption))))⟩
  case round =>
    obtain ⟨q, hq, rfl, hok, hbw⟩ := hrel
    have hbs := hbw.size
    by_cases hlt : q < l.length
    · obtain ⟨b, off, rfl, hbB, hcell⟩ := H.out.elem eEntry_len (by omega) q hlt
      obtain ⟨z, hz⟩ : ∃ z, l[q] = z := ⟨_, rfl⟩
      rw [hz] at hcell
      obtain ⟨y0, y1, y2⟩ := z
      have c0 : wr.cell? ⟨b, off + q * 3, none⟩ = some (.int .i64 y0) := (hbw.cell (p := ⟨b, _, none⟩) hbB).trans (hcell 0 (by omega))
      have c1 : wr.cell? ⟨b, off + q * 3 + 1, none⟩ = some (.int .i64 y1) := (hbw.cell (p := ⟨b, _, none⟩) hbB).trans (hcell 1 (by omega))
      have c2 : wr.cell? ⟨b, off + q * 3 + 2, none⟩ = some (.int .i64 y2) := (hbw.cell (p := ⟨b, _, none⟩) hbB).trans (hcell 2 (by omega))
      have hnq : (q : Int) < (l.length : Int) := by omega
      have HZ := Lib.hid hz
      clear hcell hz
      obtain ⟨B, hB⟩ : ∃ B, (l.take q).any (isIp y0) = B := ⟨_, rfl⟩
      have HB := Lib.hid hB
      clear hB
      have HT : Hid (∀ W, Below w.heap.size w W → Calls Try.prog 49 #[.slice (some ⟨b, off, none⟩) q c, .int .i64 y0] W fun e w' => e = .returned (.int .i64 (atI (l.take q) y0)) ∧ W = w') := fun W hW => l15At_any (.slice (some ⟨b, off, none⟩) q c) (l.take q) y0 (by rw [List.length_take]; unfold maxLen; omega) W (by unfold RdEntry; rw [List.length_take, Nat.min_eq_left (by omega)]; exact (H.out.takeE q (by omega)).keep hW.block hW.size)
      by_cases h1 : wordB y0 32 = true
      case neg =>
        have h1 := Bool.eq_false_iff.2 h1
        have hbad := Lib.hid (cacheTo_no (n := l.length) ((entOk_is hlt HZ.out h1 rfl rfl rfl).trans (by simp)) hlt)
        go_wp2_with fail
        have hb9 : Below w.heap.size w (wr.alloc (.cells #[.int .i64 y0, .int .i64 y1, .int .i64 y2] 71)) := (by repeat (first | with_reducible exact Below.refl _ _ | with_reducible assumption | with_reducible refine Below.drew ?_ | with_reducible refine Below.alloc ?_ (by first | exact Nat.le_refl _ | omega | (simp; done) | (simp; omega)) _ | with_reducible refine Below.setCell ?_ (by first | exact Nat.le_refl _ | omega | (simp; done) | (simp; omega)) _ | (with_reducible refine ext_trans ?_ (by with_reducible assumption))))
        have hrow : (wr.alloc (.cells #[.int .i64 y0, .int .i64 y1, .int .i64 y2] 71)).heap[wr.heap.size]? = some (.cells #[.int .i64 y0, .int .i64 y1, .int .i64 y2] 71 (0, 0)) := (by repeat (first | exact heap_new _ _ _ (by first | rfl | (simp; done) | (simp; omega)) | refine (Below.heap_alloc _ _ _ (by first | omega | (simp; done) | (simp; omega))).trans ?_))
        have hl9 : wr.heap.size < (wr.alloc (.cells #[.int .i64 y0, .int .i64 y1, .int .i64 y2] 71)).heap.size := by simp
        generalize (wr.alloc (.cells #[.int .i64 y0, .int .i64 y1, .int .i64 y2] 71)) = w9 at *
        have r0_hrow := cell_of_row _ _ 0 _ _ _ hrow
        have r1_hrow := cell_of_row _ _ 1 _ _ _ hrow
        have r2_hrow := cell_of_row _ _ 2 _ _ _ hrow
        have f0_hrow := frozen_of_row _ _ 0 _ _ hrow
        have f1_hrow := frozen_of_row _ _ 1 _ _ hrow
        have f2_hrow := frozen_of_row _ _ 2 _ _ hrow
        simp at r0_hrow r1_hrow r2_hrow
        clear hrow
        have hqc : (q : Int) ≤ (c : Int) := by omega
        have hq0 : (0 : Int) ≤ (q : Int) := by omega
        have hbd : Below w.heap.size w w9.drew := hb9.drew
        refine wp_region_still_tail 24 (by kernel_rfl) (by kernel_rfl) ?_
        simp only [List.take_succ_cons, List.take_zero, List.drop_succ_cons, List.drop_zero]
        repeat (first | still_step | (refine wpStill_step (fun K hK => ?_); go_simp; with_reducible refine ⟨_, still_of (sWordOk_any y0 32 _), hK _ ?_⟩; clear hK K) | (refine wpStill_step (fun K hK => ?_); go_simp; with_reducible refine ⟨_, still_of (sWordOk_any y1 48 _), hK _ ?_⟩; clear hK K) | (refine wpStill_step (fun K hK => ?_); go_simp; with_reducible refine ⟨_, still_of (l1In_any y2 0 9 _), hK _ ?_⟩; clear hK K) | still_call (still_of (HT.out _ hbd)))
        refine wpStill_nil ?_
        change wpList _ _ _ _ _ w9.drew
        generalize w9.drew = wd at *
        go_wp2_with fail
        go_ret
        exact ⟨by rw [HR.out hbad.out]; rfl, (by repeat (first | with_reducible exact Below.refl _ _ | with_reducible assumption | with_reducible refine Below.drew ?_ | with_reducible refine Below.alloc ?_ (by first | exact Nat.le_refl _ | omega | (simp; done) | (simp; omega)) _ | with_reducible refine Below.setCell ?_ (by first | exact Nat.le_refl _ | omega | (simp; done) | (simp; omega)) _ | (with_reducible refine ext_trans ?_ (by with_reducible assumption))))⟩
      by_cases h2 : wordB y1 48 = true
      case neg =>
        have h2 := Bool.eq_false_iff.2 h2
        have hbad := Lib.hid (cacheTo_no (n := l.length) ((entOk_is hlt HZ.out h1 h2 rfl rfl).trans (by simp)) hlt)
        go_wp2_with fail
        have hb9 : Below w.heap.size w (wr.alloc (.cells #[.int .i64 y0, .int .i64 y1, .int .i64 y2] 71)) := (by repeat (first | with_reducible exact Below.refl _ _ | with_reducible assumption | with_reducible refine Below.drew ?_ | with_reducible refine Below.alloc ?_ (by first | exact Nat.le_refl _ | omega | (simp; done) | (simp; omega)) _ | with_reducible refine Below.setCell ?_ (by first | exact Nat.le_refl _ | omega | (simp; done) | (simp; omega)) _ | (with_reducible refine ext_trans ?_ (by with_reducible assumption))))
        have hrow : (wr.alloc (.cells #[.int .i64 y0, .int .i64 y1, .int .i64 y2] 71)).heap[wr.heap.size]? = some (.cells #[.int .i64 y0, .int .i64 y1, .int .i64 y2] 71 (0, 0)) := (by repeat (first | exact heap_new _ _ _ (by first | rfl | (simp; done) | (simp; omega)) | refine (Below.heap_alloc _ _ _ (by first | omega | (simp; done) | (simp; omega))).trans ?_))
        have hl9 : wr.heap.size < (wr.alloc (.cells #[.int .i64 y0, .int .i64 y1, .int .i64 y2] 71)).heap.size := by simp
        generalize (wr.alloc (.cells #[.int .i64 y0, .int .i64 y1, .int .i64 y2] 71)) = w9 at *
        have r0_hrow := cell_of_row _ _ 0 _ _ _ hrow
        have r1_hrow := cell_of_row _ _ 1 _ _ _ hrow
        have r2_hrow := cell_of_row _ _ 2 _ _ _ hrow
        have f0_hrow := frozen_of_row _ _ 0 _ _ hrow
        have f1_hrow := frozen_of_row _ _ 1 _ _ hrow
        have f2_hrow := frozen_of_row _ _ 2 _ _ hrow
        simp at r0_hrow r1_hrow r2_hrow
        clear hrow
        have hqc : (q : Int) ≤ (c : Int) := by omega
        have hq0 : (0 : Int) ≤ (q : Int) := by omega
        have hbd : Below w.heap.size w w9.drew := hb9.drew
        refine wp_region_still_tail 24 (by kernel_rfl) (by kernel_rfl) ?_
        simp only [List.take_succ_cons, List.take_zero, List.drop_succ_cons, List.drop_zero]
        repeat (first | still_step | (refine wpStill_step (fun K hK => ?_); go_simp; with_reducible refine ⟨_, still_of (sWordOk_any y0 32 _), hK _ ?_⟩; clear hK K) | (refine wpStill_step (fun K hK => ?_); go_simp; with_reducible refine ⟨_, still_of (sWordOk_any y1 48 _), hK _ ?_⟩; clear hK K) | (refine wpStill_step (fun K hK => ?_); go_simp; with_reducible refine ⟨_, still_of (l1In_any y2 0 9 _), hK _ ?_⟩; clear hK K) | still_call (still_of (HT.out _ hbd)))
        refine wpStill_nil ?_
        change wpList _ _ _ _ _ w9.drew
        generalize w9.drew = wd at *
        go_wp2_with fail
        go_ret
        exact ⟨by rw [HR.out hbad.out]; rfl, (by repeat (first | with_reducible exact Below.refl _ _ | with_reducible assumption | with_reducible refine Below.drew ?_ | with_reducible refine Below.alloc ?_ (by first | exact Nat.le_refl _ | omega | (simp; done) | (simp; omega)) _ | with_reducible refine Below.setCell ?_ (by first | exact Nat.le_refl _ | omega | (simp; done) | (simp; omega)) _ | (with_reducible refine ext_trans ?_ (by with_reducible assumption))))⟩
      by_cases h3 : inB y2 0 9 = true
      case neg =>
        have h3 := Bool.eq_false_iff.2 h3
        have hbad := Lib.hid (cacheTo_no (n := l.length) ((entOk_is hlt HZ.out h1 h2 h3 rfl).trans (by simp)) hlt)
        go_wp2_with fail
        have hb9 : Below w.heap.size w (wr.alloc (.cells #[.int .i64 y0, .int .i64 y1, .int .i64 y2] 71)) := (by repeat (first | with_reducible exact Below.refl _ _ | with_reducible assumption | with_reducible refine Below.drew ?_ | with_reducible refine Below.alloc ?_ (by first | exact Nat.le_refl _ | omega | (simp; done) | (simp; omega)) _ | with_reducible refine Below.setCell ?_ (by first | exact Nat.le_refl _ | omega | (simp; done) | (simp; omega)) _ | (with_reducible refine ext_trans ?_ (by with_reducible assumption))))
        have hrow : (wr.alloc (.cells #[.int .i64 y0, .int .i64 y1, .int .i64 y2] 71)).heap[wr.heap.size]? = some (.cells #[.int .i64 y0, .int .i64 y1, .int .i64 y2] 71 (0, 0)) := (by repeat (first | exact heap_new _ _ _ (by first | rfl | (simp; done) | (simp; omega)) | refine (Below.heap_alloc _ _ _ (by first | omega | (simp; done) | (simp; omega))).trans ?_))
        have hl9 : wr.heap.size < (wr.alloc (.cells #[.int .i64 y0, .int .i64 y1, .int .i64 y2] 71)).heap.size := by simp
        generalize (wr.alloc (.cells #[.int .i64 y0, .int .i64 y1, .int .i64 y2] 71)) = w9 at *
        have r0_hrow := cell_of_row _ _ 0 _ _ _ hrow
        have r1_hrow := cell_of_row _ _ 1 _ _ _ hrow
        have r2_hrow := cell_of_row _ _ 2 _ _ _ hrow
        have f0_hrow := frozen_of_row _ _ 0 _ _ hrow
        have f1_hrow := frozen_of_row _ _ 1 _ _ hrow
        have f2_hrow := frozen_of_row _ _ 2 _ _ hrow
        simp at r0_hrow r1_hrow r2_hrow
        clear hrow
        have hqc : (q : Int) ≤ (c : Int) := by omega
        have hq0 : (0 : Int) ≤ (q : Int) := by omega
        have hbd : Below w.heap.size w w9.drew := hb9.drew
        refine wp_region_still_tail 24 (by kernel_rfl) (by kernel_rfl) ?_
        simp only [List.take_succ_cons, List.take_zero, List.drop_succ_cons, List.drop_zero]
        repeat (first | still_step | (refine wpStill_step (fun K hK => ?_); go_simp; with_reducible refine ⟨_, still_of (sWordOk_any y0 32 _), hK _ ?_⟩; clear hK K) | (refine wpStill_step (fun K hK => ?_); go_simp; with_reducible refine ⟨_, still_of (sWordOk_any y1 48 _), hK _ ?_⟩; clear hK K) | (refine wpStill_step (fun K hK => ?_); go_simp; with_reducible refine ⟨_, still_of (l1In_any y2 0 9 _), hK _ ?_⟩; clear hK K) | still_call (still_of (HT.out _ hbd)))
        refine wpStill_nil ?_
        change wpList _ _ _ _ _ w9.drew
        generalize w9.drew = wd at *
        go_wp2_with fail
        go_ret
        exact ⟨by rw [HR.out hbad.out]; rfl, (by repeat (first | with_reducible exact Below.refl _ _ | with_reducible assumption | with_reducible refine Below.drew ?_ | with_reducible refine Below.alloc ?_ (by first | exact Nat.le_refl _ | omega | (simp; done) | (simp; omega)) _ | with_reducible refine Below.setCell ?_ (by first | exact Nat.le_refl _ | omega | (simp; done) | (simp; omega)) _ | (with_reducible refine ext_trans ?_ (by with_reducible assumption))))⟩
      have hent := Lib.hid (entOk_is hlt HZ.out h1 h2 h3 HB.out)
      have hsg := atI_sign y0 (l.take q) HB.out
      have hat : Hid (∀ (b : Bool), b = decide (0 ≤ atI (l.take q) y0) → b = B) := fun b h => h.trans hsg
      cases B
      · have hneg : ¬ (0 ≤ atI (l.take q) y0) := by simpa using hsg
        have hsg2 := hsg
        go_wp2_with fail
        have hb9 : Below w.heap.size w (wr.alloc (.cells #[.int .i64 y0, .int .i64 y1, .int .i64 y2] 71)) := (by repeat (first | with_reducible exact Below.refl _ _ | with_reducible assumption | with_reducible refine Below.drew ?_ | with_reducible refine Below.alloc ?_ (by first | exact Nat.le_refl _ | omega | (simp; done) | (simp; omega)) _ | with_reducible refine Below.setCell ?_ (by first | exact Nat.le_refl _ | omega | (simp; done) | (simp; omega)) _ | (with_reducible refine ext_trans ?_ (by with_reducible assumption))))
        have hrow : (wr.alloc (.cells #[.int .i64 y0, .int .i64 y1, .int .i64 y2] 71)).heap[wr.heap.size]? = some (.cells #[.int .i64 y0, .int .i64 y1, .int .i64 y2] 71 (0, 0)) := (by repeat (first | exact heap_new _ _ _ (by first | rfl | (simp; done) | (simp; omega)) | refine (Below.heap_alloc _ _ _ (by first | omega | (simp; done) | (simp; omega))).trans ?_))
        have hl9 : wr.heap.size < (wr.alloc (.cells #[.int .i64 y0, .int .i64 y1, .int .i64 y2] 71)).heap.size := by simp
        generalize (wr.alloc (.cells #[.int .i64 y0, .int .i64 y1, .int .i64 y2] 71)) = w9 at *
        have r0_hrow := cell_of_row _ _ 0 _ _ _ hrow
        have r1_hrow := cell_of_row _ _ 1 _ _ _ hrow
        have r2_hrow := cell_of_row _ _ 2 _ _ _ hrow
        have f0_hrow := frozen_of_row _ _ 0 _ _ hrow
        have f1_hrow := frozen_of_row _ _ 1 _ _ hrow
        have f2_hrow := frozen_of_row _ _ 2 _ _ hrow
        simp at r0_hrow r1_hrow r2_hrow
        clear hrow
        have hqc : (q : Int) ≤ (c : Int) := by omega
        have hq0 : (0 : Int) ≤ (q : Int) := by omega
        have hbd : Below w.heap.size w w9.drew := hb9.drew
        refine wp_region_still_tail 24 (by kernel_rfl) (by kernel_rfl) ?_
        simp only [List.take_succ_cons, List.take_zero, List.drop_succ_cons, List.drop_zero]
        repeat (first | still_step | (refine wpStill_step (fun K hK => ?_); go_simp; with_reducible refine ⟨_, still_of (sWordOk_any y0 32 _), hK _ ?_⟩; clear hK K) | (refine wpStill_step (fun K hK => ?_); go_simp; with_reducible refine ⟨_, still_of (sWordOk_any y1 48 _), hK _ ?_⟩; clear hK K) | (refine wpStill_step (fun K hK => ?_); go_simp; with_reducible refine ⟨_, still_of (l1In_any y2 0 9 _), hK _ ?_⟩; clear hK K) | still_call (still_of (HT.out _ hbd)))
        refine wpStill_nil ?_
        change wpList _ _ _ _ _ w9.drew
        generalize w9.drew = wd at *
        go_wp2_with fail
        exact ⟨⟨q + 1, by omega, by go_num, cacheTo_more hok.out (hent.out.trans rfl), (by repeat (first | with_reducible exact Below.refl _ _ | with_reducible assumption | with_reducible refine Below.drew ?_ | with_reducible refine Below.alloc ?_ (by first | exact Nat.le_refl _ | omega | (simp; done) | (simp; omega)) _ | with_reducible refine Below.setCell ?_ (by first | exact Nat.le_refl _ | omega | (simp; done) | (simp; omega)) _ | (with_reducible refine ext_trans ?_ (by with_reducible assumption))))⟩, by simp [intOf]; omega⟩
      · have hpos : 0 ≤ atI (l.take q) y0 := by simpa using hsg
        have hbad := Lib.hid (cacheTo_no (n := l.length) (hent.out.trans rfl) hlt)
        go_wp2_with fail
        have hb9 : Below w.heap.size w (wr.alloc (.cells #[.int .i64 y0, .int .i64 y1, .int .i64 y2] 71)) := (by repeat (first | with_reducible exact Below.refl _ _ | with_reducible assumption | with_reducible refine Below.drew ?_ | with_reducible refine Below.alloc ?_ (by first | exact Nat.le_refl _ | omega | (simp; done) | (simp; omega)) _ | with_reducible refine Below.setCell ?_ (by first | exact Nat.le_refl _ | omega | (simp; done) | (simp; omega)) _ | (with_reducible refine ext_trans ?_ (by with_reducible assumption))))
        have hrow : (wr.alloc (.cells #[.int .i64 y0, .int .i64 y1, .int .i64 y2] 71)).heap[wr.heap.size]? = some (.cells #[.int .i64 y0, .int .i64 y1, .int .i64 y2] 71 (0, 0)) := (by repeat (first | exact heap_new _ _ _ (by first | rfl | (simp; done) | (simp; omega)) | refine (Below.heap_alloc _ _ _ (by first | omega | (simp; done) | (simp; omega))).trans ?_))
        have hl9 : wr.heap.size < (wr.alloc (.cells #[.int .i64 y0, .int .i64 y1, .int .i64 y2] 71)).heap.size := by simp
        generalize (wr.alloc (.cells #[.int .i64 y0, .int .i64 y1, .int .i64 y2] 71)) = w9 at *
        have r0_hrow := cell_of_row _ _ 0 _ _ _ hrow
        have r1_hrow := cell_of_row _ _ 1 _ _ _ hrow
        have r2_hrow := cell_of_row _ _ 2 _ _ _ hrow
        have f0_hrow := frozen_of_row _ _ 0 _ _ hrow
        have f1_hrow := frozen_of_row _ _ 1 _ _ hrow
        have f2_hrow := frozen_of_row _ _ 2 _ _ hrow
        simp at r0_hrow r1_hrow r2_hrow
        clear hrow
        have hqc : (q : Int) ≤ (c : Int) := by omega
        have hq0 : (0 : Int) ≤ (q : Int) := by omega
        have hbd : Below w.heap.size w w9.drew := hb9.drew
        refine wp_region_still_tail 24 (by kernel_rfl) (by kernel_rfl) ?_
        simp only [List.take_succ_cons, List.take_zero, List.drop_succ_cons, List.drop_zero]
        repeat (first | still_step | (refine wpStill_step (fun K hK => ?_); go_simp; with_reducible refine ⟨_, still_of (sWordOk_any y0 32 _), hK _ ?_⟩; clear hK K) | (refine wpStill_step (fun K hK => ?_); go_simp; with_reducible refine ⟨_, still_of (sWordOk_any y1 48 _), hK _ ?_⟩; clear hK K) | (refine wpStill_step (fun K hK => ?_); go_simp; with_reducible refine ⟨_, still_of (l1In_any y2 0 9 _), hK _ ?_⟩; clear hK K) | still_call (still_of (HT.out _ hbd)))
        refine wpStill_nil ?_
        change wpList _ _ _ _ _ w9.drew
        generalize w9.drew = wd at *
        go_wp2_with fail
        go_ret
        exact ⟨by rw [HR.out hbad.out]; rfl, (by repeat (first | with_reducible exact Below.refl _ _ | with_reducible assumption | with_reducible refine Below.drew ?_ | with_reducible refine Below.alloc ?_ (by first | exact Nat.le_refl _ | omega | (simp; done) | (simp; omega)) _ | with_reducible refine Below.setCell ?_ (by first | exact Nat.le_refl _ | omega | (simp; done) | (simp; omega)) _ | (with_reducible refine ext_trans ?_ (by with_reducible assumption))))⟩
    · obtain rfl : q = l.length := by omega
      go_wp2_with fail
      go_ret
      refine ⟨congrArg Ending.returned (congrArg Value.bool ?_), (by repeat (first | with_reducible exact Below.refl _ _ | with_reducible assumption | with_reducible refine Below.drew ?_ | with_reducible refine Below.alloc ?_ (by first | exact Nat.le_refl _ | omega | (simp; done) | (simp; omega)) _ | with_reducible refine Below.setCell ?_ (by first | exact Nat.le_refl _ | omega | (simp; done) | (simp; omega)) _ | (with_reducible refine ext_trans ?_ (by with_reducible assumption))))⟩
      unfold cacheB
      rw [hok.out]
      by_cases h4 : l.length ≤ 4 <;> simp [h4] <;> omega

end Go.Proofs.Yteaniiponikpjaa
