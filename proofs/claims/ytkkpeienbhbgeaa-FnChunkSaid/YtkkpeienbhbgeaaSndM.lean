/-
  Contracts of the reference's NextChunk.
-/
import Derived.Test.YtkkpeienbhbgeaaSndL
namespace Go.Proofs.Ytkkpeienbhbgeaa
open Go.RowKit

theorem ext_ext (d : ByteArray) (k m : Nat) (h : k + m ≤ d.size) : (d.extract k d.size).extract 0 m = d.extract k (k + m) := by
  apply ByteArray.ext
  have h' : k + m ≤ d.data.size := h
  simp only [ByteArray.data_extract, Array.extract_extract]
  congr 1
  show min (k + m) d.data.size = k + m
  omega

set_option maxRecDepth 100000 in
set_option maxHeartbeats 4000000 in
theorem sNextChunk_core (u : Int) (d : ByteArray) (k : Nat) (f fs dn : Bool) (win mss : Int) (h : sndB u d k f fs dn = true) (hk : k ≤ d.size) (hd : d.size ≤ 48) (hw1 : -9223372036854775808 ≤ win) (hw2 : win ≤ 9223372036854775807) (hm1 : -9223372036854775808 ≤ mss) (hm2 : mss ≤ 9223372036854775807) (hu1 : -9223372036854775808 ≤ u) (hu2 : u ≤ 9223372036854775807)
    (FL : Int) (hFL : fly k fs = FL) (X : ByteArray) (hX : d.extract k d.size = X) (hXs : X.size = d.size - k) (WW : Int) (hWW : effW win FL = WW) (m : Nat) (hm : chM X.size mss WW = m) (w : World) :
    Calls Try.prog 29 #[.agg #[.int .i64 u, .string d, .int .i64 k, .bool f, .bool fs, .bool dn], .int .i64 win, .int .i64 mss] w fun e w' => e = .returned (chRes (seqAdd u FL) (X.extract 0 m) m (chFin f fs dn X.size m WW)) ∧ Below w.heap.size w w' := by
  have hd' : d.size ≤ maxLen := by unfold maxLen; omega
  have hfl : 0 ≤ fly k fs ∧ fly k fs ≤ 49 := by
    unfold fly wrap64
    split <;> omega
  obtain ⟨hfl1, hfl2⟩ := hfl
  have hfg := fun w => flown_any u d k f fs dn w
  have hno := fun w => sNextOf_any u d k f fs dn hu1 hu2 (by omega) (by omega) w
  rw [hFL] at hfl1 hfl2
  simp only [hFL] at hfg hno
  have HFG := Lib.hid hfg
  have HNO := Lib.hid hno
  clear hfg hno hFL
  obtain ⟨A, hA⟩ : ∃ A, (if win < 1000000 then win else 1000000) = A := ⟨_, rfl⟩
  obtain ⟨B, hB⟩ : ∃ B, (if A < 0 then 0 else A) = B := ⟨_, rfl⟩
  have hBb : 0 ≤ B ∧ B ≤ 1000000 := by rw [← hB, ← hA]; (repeat' split) <;> omega
  obtain ⟨hB1, hB2⟩ := hBb
  obtain ⟨D, hD⟩ : ∃ D, B - FL = D := ⟨_, rfl⟩
  have hDw : IntKind.i64.wrap (B - FL) = D := by rw [← hD]; exact IntWalk.i64_in _ ⟨by omega, by omega⟩
  obtain ⟨W, hW⟩ : ∃ W, (if D < 0 then 0 else D) = W := ⟨_, rfl⟩
  have hWb : 0 ≤ W ∧ W ≤ 1000000 := by rw [← hW, ← hD]; split <;> omega
  obtain ⟨hW1, hW2⟩ := hWb
  obtain ⟨E, hE⟩ : ∃ E, (if mss < W then mss else W) = E := ⟨_, rfl⟩
  obtain ⟨L, hL⟩ : ∃ L, (d.size : Int) - (k : Int) = L := ⟨_, rfl⟩
  have hLw : IntKind.i64.wrap ((d.size : Int) - (k : Int)) = L := by rw [← hL]; exact IntWalk.i64_in _ ⟨by omega, by omega⟩
  obtain ⟨G, hG⟩ : ∃ G, (if E < L then E else L) = G := ⟨_, rfl⟩
  have hWm : decide ((m : Int) < W) = decide ((m : Int) < WW) ∧ (if G < 0 then 0 else G) = (m : Int) := by
    have zA : A = min win 1000000 := by rw [← hA]; split <;> omega
    have zB : B = max 0 A := by rw [← hB]; split <;> omega
    have zW : W = max 0 D := by rw [← hW]; split <;> omega
    have zE : E = min mss W := by rw [← hE]; split <;> omega
    have zG : G = min E L := by rw [← hG]; split <;> omega
    have zWW : WW = max win (-1) - FL := by rw [← hWW]; unfold effW; split <;> omega
    have zm : (m : Int) = max 0 (min (min (X.size : Int) mss) WW) := by rw [← hm]; unfold chM; omega
    have zX : (X.size : Int) = L := by omega
    have z48 : L ≤ 48 := by omega
    clear hA hB hW hE hG hWW hm hDw hLw h
    constructor
    · rw [decide_eq_decide]
      omega
    · split <;> omega
  obtain ⟨hWm, hm'⟩ := hWm
  have HA := Lib.hid (fun w => by have := l1Min_any win 1000000 w; rw [hA] at this; exact this)
  have HB := Lib.hid (fun w => by have := l1Max_any 0 A w; rw [hB] at this; exact this)
  have HC := Lib.hid (fun w => by have := l1Max_any 0 D w; rw [hW] at this; exact this)
  have HE := Lib.hid (fun w => by have := l1Min_any mss W w; rw [hE] at this; exact this)
  have HG := Lib.hid (fun w => by have := l1Min_any E L w; rw [hG] at this; exact this)
  have HM := Lib.hid (fun w => by have := l1Max_any 0 G w; rw [hm'] at this; exact this)
  have HWM := Lib.hid hWm
  clear hA hB hD hW hE hL hG hm' hWm
  go_enter Try.func29, Try.ntmps29
  go_wp2_with fail
  refine (sSenderOk_any _ _ _ _ _ _ hd' _).mono ?_
  rintro e w1 ⟨rfl, hb1⟩
  obtain ⟨hc1, hf1⟩ := bcell hb1
  have hz1 := hb1.size
  (try simp at hz1)
  have hy1_0 : w.heap.size < w1.heap.size := by omega
  have hy1_1 : w.heap.size + 1 < w1.heap.size := by omega
  have hs1 : w1.heap[w.heap.size]? = some (.cells #[.int .i64 u, .string d, .int .i64 k, .bool f, .bool fs, .bool dn] 26 (0, 0)) := (hb1.block _ (by first | (simp; done) | (simp; omega))).trans (by repeat (first | exact heap_new _ _ _ (by first | rfl | (simp; done) | (simp; omega)) | refine (Below.heap_alloc _ _ _ (by first | omega | (simp; done) | (simp; omega))).trans ?_))
  have hr1 : w1.heap[w.heap.size + 1]? = some (.cells #[.int .i64 0, .string ⟨#[]⟩, .bool false] 39 (0, 0)) := (hb1.block _ (by first | (simp; done) | (simp; omega))).trans (by repeat (first | exact heap_new _ _ _ (by first | rfl | (simp; done) | (simp; omega)) | refine (Below.heap_alloc _ _ _ (by first | omega | (simp; done) | (simp; omega))).trans ?_))
  have r0_hs1 := cell_of_row _ _ 0 _ _ _ hs1
  have r1_hs1 := cell_of_row _ _ 1 _ _ _ hs1
  have r2_hs1 := cell_of_row _ _ 2 _ _ _ hs1
  have r3_hs1 := cell_of_row _ _ 3 _ _ _ hs1
  have r4_hs1 := cell_of_row _ _ 4 _ _ _ hs1
  have r5_hs1 := cell_of_row _ _ 5 _ _ _ hs1
  have f0_hs1 := frozen_of_row _ _ 0 _ _ hs1
  have f1_hs1 := frozen_of_row _ _ 1 _ _ hs1
  have f2_hs1 := frozen_of_row _ _ 2 _ _ hs1
  have f3_hs1 := frozen_of_row _ _ 3 _ _ hs1
  have f4_hs1 := frozen_of_row _ _ 4 _ _ hs1
  have f5_hs1 := frozen_of_row _ _ 5 _ _ hs1
  simp at r0_hs1 r1_hs1 r2_hs1 r3_hs1 r4_hs1 r5_hs1
  clear hc1 hf1
  go_wp2_with fail
  first | go_region_held3 (fun w' => (∀ b' o, b' < (w1).heap.size → w'.cell? ⟨b', o, none⟩ = (w1).cell? ⟨b', o, none⟩) ∧ Below (w1).heap.size (w1) w') (first | with_reducible assumption | (with_reducible apply rg_keep; rotate_left; with_reducible assumption; with_reducible assumption) | with_reducible exact rg_start _ | with_reducible exact rg_alloc (KeptS.out (by with_reducible assumption)) _ | with_reducible exact rg_alloc (by with_reducible assumption) _ | with_reducible exact rg_start_alloc _ _ | ((repeat (with_reducible refine rg_set ?_ _ (by first | exact Nat.le_refl _ | omega | (simp; done) | (simp; omega)) _)); first | with_reducible exact KeptS.out (by with_reducible assumption) | with_reducible assumption | with_reducible exact rg_alloc (KeptS.out (by with_reducible assumption)) _)) (first | (go_at_call 49; ((with_reducible refine (HA.out _).mono ?_); rintro e w' ⟨rfl, rfl⟩)) | (go_at_call 50; ((with_reducible refine (HB.out _).mono ?_); rintro e w' ⟨rfl, rfl⟩)) | (go_at_call 50; ((with_reducible refine (HC.out _).mono ?_); rintro e w' ⟨rfl, rfl⟩)) | (go_at_call 43; ((with_reducible refine (HFG.out _).mono ?_); rintro e wr ⟨rfl, hbn⟩; have hS := rg_keepK (by with_reducible assumption) hbn; have hL := hS.size; (try have hZ := row_after hbn); (try have hZ := row_after_drew hbn); (try have hZ := row_kept (by assumption) hbn); (try (have rz := row_facts hZ; obtain ⟨rz0, rz1, rz2, rz3, rz4, rz5, fz⟩ := rz))))) | fail
  have hR1 := (by assumption : _ ∧ Below w1.heap.size w1 wr)
  obtain ⟨hR1a, hR1b⟩ := hR1
  have hs2 := (hR1b.block (w.heap.size) (by omega)).trans hs1
  have hr2 := (hR1b.block (w.heap.size + 1) (by omega)).trans hr1
  clear hs1
  have r0_hs2 := cell_of_row _ _ 0 _ _ _ hs2
  have r1_hs2 := cell_of_row _ _ 1 _ _ _ hs2
  have r2_hs2 := cell_of_row _ _ 2 _ _ _ hs2
  have r3_hs2 := cell_of_row _ _ 3 _ _ _ hs2
  have r4_hs2 := cell_of_row _ _ 4 _ _ _ hs2
  have r5_hs2 := cell_of_row _ _ 5 _ _ _ hs2
  have f0_hs2 := frozen_of_row _ _ 0 _ _ hs2
  have f1_hs2 := frozen_of_row _ _ 1 _ _ hs2
  have f2_hs2 := frozen_of_row _ _ 2 _ _ hs2
  have f3_hs2 := frozen_of_row _ _ 3 _ _ hs2
  have f4_hs2 := frozen_of_row _ _ 4 _ _ hs2
  have f5_hs2 := frozen_of_row _ _ 5 _ _ hs2
  simp at r0_hs2 r1_hs2 r2_hs2 r3_hs2 r4_hs2 r5_hs2
  have hzr := hR1b.size
  have hyr : w.heap.size < wr.heap.size := by omega
  have hyr1 : w.heap.size + 1 < wr.heap.size := by omega
  clear hR1a
  rename World => wb
  go_wp2_with fail
  first | go_region_held3 (fun w' => (∀ b' o, b' < (wb).heap.size → w'.cell? ⟨b', o, none⟩ = (wb).cell? ⟨b', o, none⟩) ∧ Below (wb).heap.size (wb) w') (first | with_reducible assumption | (with_reducible apply rg_keep; rotate_left; with_reducible assumption; with_reducible assumption) | with_reducible exact rg_start _ | with_reducible exact rg_alloc (KeptS.out (by with_reducible assumption)) _ | with_reducible exact rg_alloc (by with_reducible assumption) _ | with_reducible exact rg_start_alloc _ _ | ((repeat (with_reducible refine rg_set ?_ _ (by first | exact Nat.le_refl _ | omega | (simp; done) | (simp; omega)) _)); first | with_reducible exact KeptS.out (by with_reducible assumption) | with_reducible assumption | with_reducible exact rg_alloc (KeptS.out (by with_reducible assumption)) _)) (first | (go_at_call 49; ((with_reducible refine (HE.out _).mono ?_); rintro e w' ⟨rfl, rfl⟩)) | (go_at_call 49; ((with_reducible refine (HG.out _).mono ?_); rintro e w' ⟨rfl, rfl⟩)) | (go_at_call 50; ((with_reducible refine (HM.out _).mono ?_); rintro e w' ⟨rfl, rfl⟩))) | fail
  have hR3 : Below w1.heap.size w1 wb.drew := hR1b.drew
  have hs3 : wb.drew.heap[w.heap.size]? = _ := hs2
  have hr3 : wb.drew.heap[w.heap.size + 1]? = _ := hr2
  have hy3 : w.heap.size < wb.drew.heap.size := hyr
  have hy31 : w.heap.size + 1 < wb.drew.heap.size := hyr1
  generalize wb.drew = wc at *
  have r0_hs3 := cell_of_row _ _ 0 _ _ _ hs3
  have r1_hs3 := cell_of_row _ _ 1 _ _ _ hs3
  have r2_hs3 := cell_of_row _ _ 2 _ _ _ hs3
  have r3_hs3 := cell_of_row _ _ 3 _ _ _ hs3
  have r4_hs3 := cell_of_row _ _ 4 _ _ _ hs3
  have r5_hs3 := cell_of_row _ _ 5 _ _ _ hs3
  have f0_hs3 := frozen_of_row _ _ 0 _ _ hs3
  have f1_hs3 := frozen_of_row _ _ 1 _ _ hs3
  have f2_hs3 := frozen_of_row _ _ 2 _ _ hs3
  have f3_hs3 := frozen_of_row _ _ 3 _ _ hs3
  have f4_hs3 := frozen_of_row _ _ 4 _ _ hs3
  have f5_hs3 := frozen_of_row _ _ 5 _ _ hs3
  simp at r0_hs3 r1_hs3 r2_hs3 r3_hs3 r4_hs3 r5_hs3
  go_wp2_with fail
  have hml : m ≤ X.size := by rw [← hm]; exact chM_le _ _ _
  have hkm : (k : Int) + (m : Int) ≤ (d.size : Int) := by omega
  obtain ⟨T, hT⟩ : ∃ T, d.extract k (k + m) = T := ⟨_, rfl⟩
  have hTX : X.extract 0 m = T := by
    rw [← hT, ← hX]
    exact ext_ext d k m (by omega)
  have hw3 : IntKind.i64.wrap ((k : Int) + (m : Int)) = (k : Int) + (m : Int) := IntWalk.i64_in _ ⟨by omega, by omega⟩
  have hw4 : ((k : Int) + (m : Int)).toNat = k + m := by omega
  have hw5 : (0 : Int) ≤ (k : Int) + (m : Int) := by omega
  have hw6 : (k : Int) ≤ (k : Int) + (m : Int) := by omega
  have HX := Lib.hid (And.intro hX (And.intro hXs (And.intro hWW (And.intro hm hTX))))
  clear hX hXs hWW hm hTX hDw hLw
  go_cut [10] (fun sl wx => ∃ g : Nat, sl = .pointer (some ⟨g, 0, none⟩) ∧ wx.heap[g]? = some (.cells #[.int .i64 (seqAdd u FL), .string T, .bool false] 39 (0, 0)) ∧ wc.heap.size ≤ g ∧ Below wc.heap.size wc wx)
  case first =>
    first | go_region_held3 (fun w' => (∀ b' o, b' < (wc).heap.size → w'.cell? ⟨b', o, none⟩ = (wc).cell? ⟨b', o, none⟩) ∧ Below (wc).heap.size (wc) w') (first | with_reducible assumption | (with_reducible apply rg_keep; rotate_left; with_reducible assumption; with_reducible assumption) | with_reducible exact rg_start _ | with_reducible exact rg_alloc (KeptS.out (by with_reducible assumption)) _ | with_reducible exact rg_alloc (by with_reducible assumption) _ | with_reducible exact rg_start_alloc _ _ | ((repeat (with_reducible refine rg_set ?_ _ (by first | exact Nat.le_refl _ | omega | (simp; done) | (simp; omega)) _)); first | with_reducible exact KeptS.out (by with_reducible assumption) | with_reducible assumption | with_reducible exact rg_alloc (KeptS.out (by with_reducible assumption)) _)) (first | (go_at_call 15; ((with_reducible refine (HNO.out _).mono ?_); rintro e wr ⟨rfl, hbn⟩; have hS := rg_keepK (by with_reducible assumption) hbn; have hL := hS.size; (try have hZ := row_after hbn); (try have hZ := row_after_drew hbn); (try have hZ := row_kept (by assumption) hbn); (try (have rz := row_facts hZ; obtain ⟨rz0, rz1, rz2, rz3, rz4, rz5, fz⟩ := rz))))) | fail
    all_goals
      go_wp2_with fail
      go_meet
      (refine ⟨_, rfl, ?_, ?_, ?_⟩; (first | (with_reducible apply heap_new; rfl) | (with_reducible apply stored6; with_reducible assumption) | (with_reducible apply stored4; with_reducible assumption) | (with_reducible apply stored3; with_reducible assumption) | (with_reducible apply stored2; with_reducible assumption)); (first | exact Nat.le_refl _ | omega | (simp; omega)); ((repeat (first | with_reducible refine Below.alloc ?_ (by first | exact Nat.le_refl _ | omega | (simp; done) | (simp; omega)) _ | with_reducible refine Below.setCell ?_ (by first | exact Nat.le_refl _ | omega | (simp; done) | (simp; omega)) _)); exact (KeptS.out (by with_reducible assumption)).2))
  case rest =>
    obtain ⟨g, rfl, hg, hleg, hBg⟩ := hcut
    rename World => wa
    have hR4 := ext_trans hR3 hBg
    have hlg := (Array.getElem?_eq_some_iff.1 hg).1
    have hs4 := (hBg.block (w.heap.size) hy3).trans hs3
    have hr4 := (hBg.block (w.heap.size + 1) hy31).trans hr3
    have hng : ¬ w.heap.size = g := by omega
    have hng1 : ¬ w.heap.size + 1 = g := by omega
    have r0_hs4 := cell_of_row _ _ 0 _ _ _ hs4
    have r1_hs4 := cell_of_row _ _ 1 _ _ _ hs4
    have r2_hs4 := cell_of_row _ _ 2 _ _ _ hs4
    have r3_hs4 := cell_of_row _ _ 3 _ _ _ hs4
    have r4_hs4 := cell_of_row _ _ 4 _ _ _ hs4
    have r5_hs4 := cell_of_row _ _ 5 _ _ _ hs4
    have f0_hs4 := frozen_of_row _ _ 0 _ _ hs4
    have f1_hs4 := frozen_of_row _ _ 1 _ _ hs4
    have f2_hs4 := frozen_of_row _ _ 2 _ _ hs4
    have f3_hs4 := frozen_of_row _ _ 3 _ _ hs4
    have f4_hs4 := frozen_of_row _ _ 4 _ _ hs4
    have f5_hs4 := frozen_of_row _ _ 5 _ _ hs4
    simp at r0_hs4 r1_hs4 r2_hs4 r3_hs4 r4_hs4 r5_hs4
    have r0_hg := cell_of_row _ _ 0 _ _ _ hg
    have r1_hg := cell_of_row _ _ 1 _ _ _ hg
    have r2_hg := cell_of_row _ _ 2 _ _ _ hg
    have f0_hg := frozen_of_row _ _ 0 _ _ hg
    have f1_hg := frozen_of_row _ _ 1 _ _ hg
    have f2_hg := frozen_of_row _ _ 2 _ _ hg
    simp at r0_hg r1_hg r2_hg
    have r0_hr4 := cell_of_row _ _ 0 _ _ _ hr4
    have r1_hr4 := cell_of_row _ _ 1 _ _ _ hr4
    have r2_hr4 := cell_of_row _ _ 2 _ _ _ hr4
    have f0_hr4 := frozen_of_row _ _ 0 _ _ hr4
    have f1_hr4 := frozen_of_row _ _ 1 _ _ hr4
    have f2_hr4 := frozen_of_row _ _ 2 _ _ hr4
    simp at r0_hr4 r1_hr4 r2_hr4
    go_wp2_with fail
    all_goals
      apply bodyPost_ret (results_row_tmp1 (P := Try.prog) (fn := Try.f29) rfl _ _ _ 39 _ (0, 0) _ rfl _ Try.underlying39 rfl _) rfl
      rotate_left 2
      · repeat (first | (with_reducible apply heap_setCell_same) | (with_reducible apply drew_row) | (with_reducible apply drewN_row) | (with_reducible exact hr4) | (with_reducible refine (heap_setCell_other _ _ _ _ (by first | omega | (simp; done) | (simp; omega))).trans ?_) | (with_reducible refine (Below.heap_alloc _ _ _ (by first | omega | (simp; done) | (simp; omega))).trans ?_))
      · kernel_rfl
      refine ⟨?_, (by repeat (first | with_reducible exact Below.refl _ _ | with_reducible assumption | with_reducible refine Below.drew ?_ | with_reducible refine Below.alloc ?_ (by first | exact Nat.le_refl _ | omega | (simp; done) | (simp; omega)) _ | with_reducible refine Below.setCell ?_ (by first | exact Nat.le_refl _ | omega | (simp; done) | (simp; omega)) _ | (with_reducible refine ext_trans ?_ (by with_reducible assumption))))⟩
      obtain ⟨hX, hXs, hWW, hm, hTX⟩ := HX.out
      have z1 : decide ((m : Int) < WW) = decide ((m : Int) < W) := HWM.out.symm
      have z2 : decide (m = X.size) = ((k : Int) + (m : Int) == (d.size : Int)) := by
        rw [Bool.eq_iff_iff, decide_eq_true_iff, beq_iff_eq]
        omega
      rw [hTX]
      unfold chRes chFin
      rw [z1, z2]
      clear hs2 hs3 hs4 hr1 hr2 hr3 hr4 hg hX hXs hWW hm hTX z1 z2
      simp
      clear HX HWM HA HB HC HE HG HM HFG HNO
      first
        | exact ⟨by assumption, fun h1 h2 h3 h4 => by first | omega | simp_all⟩
        | rw [if_neg (fun h => absurd h.1 (by assumption))]
        | rw [if_neg (fun h => by have := h.2; first | (simp_all; done) | (simp_all; omega))]
      all_goals
        refine congrArg (fun b => Value.tuple #[.agg #[.int .i64 (seqAdd u FL), .string T, .bool b], .bool true]) ?_
        cases f <;> cases fs <;> cases dn
        all_goals
          first
            | rfl
            | contradiction
            | (have q : ((k : Int) + (m : Int) == (d.size : Int)) = false := beq_eq_false_iff_ne.2 (by assumption); rw [q]; rfl)
            | (have q : ((k : Int) + (m : Int) == (d.size : Int)) = true := beq_iff_eq.2 (by assumption); rw [q]; rfl)
            | (have q : ((k : Int) + (m : Int) == (d.size : Int)) = true := beq_iff_eq.2 (by assumption); rw [q, (by omega : (m : Int) = 0)]; rfl)
theorem sNextChunk_no (u : Int) (d : ByteArray) (s : Int) (f fs dn : Bool) (win mss : Int) (hd' : d.size ≤ maxLen) (h : sndB u d s f fs dn = false) (w : World) :
    Calls Try.prog 29 #[.agg #[.int .i64 u, .string d, .int .i64 s, .bool f, .bool fs, .bool dn], .int .i64 win, .int .i64 mss] w fun e w' => e = .returned (.tuple #[.agg #[.int .i64 0, .string ⟨#[]⟩, .bool false], .bool false]) ∧ Below w.heap.size w w' := by
  go_enter Try.func29, Try.ntmps29
  go_wp2_with fail
  refine (sSenderOk_any _ _ _ _ _ _ hd' _).mono ?_
  rintro e w1 ⟨rfl, hb1⟩
  obtain ⟨hc1, hf1⟩ := bcell hb1
  have hz1 := hb1.size
  (try simp at hz1)
  have hy1_0 : w.heap.size < w1.heap.size := by omega
  have hy1_1 : w.heap.size + 1 < w1.heap.size := by omega
  have hr1 : w1.heap[w.heap.size + 1]? = some (.cells #[.int .i64 0, .string ⟨#[]⟩, .bool false] 39 (0, 0)) := (hb1.block _ (by first | (simp; done) | (simp; omega))).trans (by repeat (first | exact heap_new _ _ _ (by first | rfl | (simp; done) | (simp; omega)) | refine (Below.heap_alloc _ _ _ (by first | omega | (simp; done) | (simp; omega))).trans ?_))
  have r0_hr1 := cell_of_row _ _ 0 _ _ _ hr1
  have r1_hr1 := cell_of_row _ _ 1 _ _ _ hr1
  have r2_hr1 := cell_of_row _ _ 2 _ _ _ hr1
  have f0_hr1 := frozen_of_row _ _ 0 _ _ hr1
  have f1_hr1 := frozen_of_row _ _ 1 _ _ hr1
  have f2_hr1 := frozen_of_row _ _ 2 _ _ hr1
  simp at r0_hr1 r1_hr1 r2_hr1
  clear hc1 hf1
  go_wp2_with fail
  apply bodyPost_ret (results_row_tmp1 (P := Try.prog) (fn := Try.f29) rfl _ _ _ 39 _ (0, 0) _ rfl _ Try.underlying39 rfl _) rfl
  rotate_left 2
  · repeat (first | (with_reducible apply heap_setCell_same) | (with_reducible apply drew_row) | (with_reducible apply drewN_row) | (with_reducible exact hr1) | (with_reducible refine (heap_setCell_other _ _ _ _ (by first | omega | (simp; done) | (simp; omega))).trans ?_) | (with_reducible refine (Below.heap_alloc _ _ _ (by first | omega | (simp; done) | (simp; omega))).trans ?_))
  · kernel_rfl
  exact ⟨by first | rfl | (simp; done), (by repeat (first | with_reducible exact Below.refl _ _ | with_reducible assumption | with_reducible refine Below.drew ?_ | with_reducible refine Below.alloc ?_ (by first | exact Nat.le_refl _ | omega | (simp; done) | (simp; omega)) _ | with_reducible refine Below.setCell ?_ (by first | exact Nat.le_refl _ | omega | (simp; done) | (simp; omega)) _ | (with_reducible refine ext_trans ?_ (by with_reducible assumption))))⟩
theorem NextChunk_no (u : Int) (d : ByteArray) (s : Int) (f fs dn : Bool) (win mss : Int) (hd' : d.size ≤ maxLen) (h : sndB u d s f fs dn = false) (w : World) :
    Calls Try.prog 30 #[.agg #[.int .i64 u, .string d, .int .i64 s, .bool f, .bool fs, .bool dn], .int .i64 win, .int .i64 mss] w fun e w' => e = .returned (.tuple #[.agg #[.int .i64 0, .string ⟨#[]⟩, .bool false], .bool false]) ∧ Below w.heap.size w w' := by
  go_enter Try.func30, Try.ntmps30
  go_wp2_with fail
  refine (SenderOk_any _ _ _ _ _ _ hd' _).mono ?_
  rintro e w1 ⟨rfl, hb1⟩
  obtain ⟨hc1, hf1⟩ := bcell hb1
  have hz1 := hb1.size
  (try simp at hz1)
  have hy1_0 : w.heap.size < w1.heap.size := by omega
  have hy1_1 : w.heap.size + 1 < w1.heap.size := by omega
  have hr1 : w1.heap[w.heap.size + 1]? = some (.cells #[.int .i64 0, .string ⟨#[]⟩, .bool false] 39 (0, 0)) := (hb1.block _ (by first | (simp; done) | (simp; omega))).trans (by repeat (first | exact heap_new _ _ _ (by first | rfl | (simp; done) | (simp; omega)) | refine (Below.heap_alloc _ _ _ (by first | omega | (simp; done) | (simp; omega))).trans ?_))
  have r0_hr1 := cell_of_row _ _ 0 _ _ _ hr1
  have r1_hr1 := cell_of_row _ _ 1 _ _ _ hr1
  have r2_hr1 := cell_of_row _ _ 2 _ _ _ hr1
  have f0_hr1 := frozen_of_row _ _ 0 _ _ hr1
  have f1_hr1 := frozen_of_row _ _ 1 _ _ hr1
  have f2_hr1 := frozen_of_row _ _ 2 _ _ hr1
  simp at r0_hr1 r1_hr1 r2_hr1
  clear hc1 hf1
  go_wp2_with fail
  apply bodyPost_ret (results_row_tmp1 (P := Try.prog) (fn := Try.f30) rfl _ _ _ 39 _ (0, 0) _ rfl _ Try.underlying39 rfl _) rfl
  rotate_left 2
  · repeat (first | (with_reducible apply heap_setCell_same) | (with_reducible apply drew_row) | (with_reducible apply drewN_row) | (with_reducible exact hr1) | (with_reducible refine (heap_setCell_other _ _ _ _ (by first | omega | (simp; done) | (simp; omega))).trans ?_) | (with_reducible refine (Below.heap_alloc _ _ _ (by first | omega | (simp; done) | (simp; omega))).trans ?_))
  · kernel_rfl
  exact ⟨by first | rfl | (simp; done), (by repeat (first | with_reducible exact Below.refl _ _ | with_reducible assumption | with_reducible refine Below.drew ?_ | with_reducible refine Below.alloc ?_ (by first | exact Nat.le_refl _ | omega | (simp; done) | (simp; omega)) _ | with_reducible refine Below.setCell ?_ (by first | exact Nat.le_refl _ | omega | (simp; done) | (simp; omega)) _ | (with_reducible refine ext_trans ?_ (by with_reducible assumption))))⟩
end Go.Proofs.Ytkkpeienbhbgeaa
