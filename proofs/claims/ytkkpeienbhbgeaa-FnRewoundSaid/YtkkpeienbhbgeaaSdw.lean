/-
  The draw of a sender.
-/
import Derived.Test.YtkkpeienbhbgeaaSgd
import Derived.Test.YtkkpeienbhbgeaaKpt
import Derived.Test.YtkkpeienbhbgeaaLast
import Derived.Deep.DeepCutAuto
import Derived.IntWalk
namespace Go.Proofs.Ytkkpeienbhbgeaa
set_option maxRecDepth 100000
open Go.RowKit Go.Deep
/-- A sender that was drawn. -/
def DrewSnd (w : World) (B g : Nat) (e : Ending) (w' : World) : Prop := ∃ (u : Int) (d : ByteArray) (s : Int) (f fs dn : Bool), e = .returned (vSn u d s f fs dn) ∧ SndGood u d s ∧ Cur w' B g ∧ w.grownBy w' (some g)
set_option maxHeartbeats 16000000 in
set_option linter.unusedSimpArgs false in
set_option linter.unusedVariables false in
theorem l17Sender_any {w : World} {B g : Nat} (hcur : Cur w B g) :
    Calls Try.prog 60 #[.pointer (some ⟨g, 0, none⟩)] w (DrewSnd w B g) := by
  have hlt := hcur.lt
  have hlow := hcur.low
  go_enter Try.func60, Try.ntmps60
  go_wp2_with fail
  refine (l2Deep_any (B := B) (by repeat (first | with_reducible assumption | with_reducible refine Cur.alloc ?_ _ | with_reducible refine Cur.drew ?_ | with_reducible refine Cur.setOther ?_ (by first | omega | (simp; done) | (simp; omega)) (by first | omega | (simp; done) | (simp; omega)) _))).mono ?_
  rintro e w1 ⟨u0, rfl, ⟨hu1, hu2⟩, hc1, ho1⟩
  have hz1 := ho1.size
  simp at hz1
  have hlt1 := hc1.lt
  go_wp2_with fail
  refine (l1Below_any (B := B) (by repeat (first | with_reducible assumption | with_reducible refine Cur.alloc ?_ _ | with_reducible refine Cur.drew ?_ | with_reducible refine Cur.setOther ?_ (by first | omega | (simp; done) | (simp; omega)) (by first | omega | (simp; done) | (simp; omega)) _)) 6 (by omega) (by omega)).mono ?_
  rintro e w2 ⟨n0, rfl, ⟨hn1, hn2⟩, hc2, ho2⟩
  have hz2 := ho2.size
  simp at hz2
  obtain ⟨n, rfl⟩ := Int.eq_ofNat_of_zero_le hn1
  have hg2 : w.grownBy w2 (some g) := only_trans (only_alloc (only_trans (by repeat (first | with_reducible assumption | with_reducible exact World.grownBy.refl _ _ | with_reducible refine only_alloc ?_ _ | with_reducible refine only_drew ?_ | with_reducible refine only_drewN ?_ _ | with_reducible refine only_setNew ?_ (by first | omega | (simp; done) | (simp; omega)) _ | (with_reducible refine only_trans ?_ (by with_reducible assumption)))) ho1) _) ho2
  have HR2 : Hid (w2.heap[w.heap.size]? = some (.cells #[.int .i64 0, .string ⟨#[]⟩, .int .i64 0, .bool false, .bool false, .bool false] 26 (0, 0))) := Lib.hid ((grow ho2 (by simp; omega) (by omega)).trans ((Below.heap_alloc _ _ _ (by omega)).trans ((grow ho1 (by simp) (by omega)).trans (heap_alloc_new _ _))))
  have HQ2 : Hid (w2.heap[w1.heap.size]? = some (.cells #[.int .i64 u0, .string ⟨#[]⟩, .int .i64 0, .bool false, .bool false, .bool false] 26 (0, 0))) := Lib.hid ((grow ho2 (by simp) (by omega)).trans (heap_alloc_new _ _))
  clear ho1 ho2 hcur hc1
  go_wp2_with fail
  go_loopw [5] (fun i wr => ∃ (k : Nat) (u : Int) (d : ByteArray) (s : Int) (f fs dn : Bool), k ≤ n ∧ i = .int .i64 k ∧ Hid (wr.heap[w1.heap.size]? = some (.cells #[.int .i64 u, .string d, .int .i64 s, .bool f, .bool fs, .bool dn] 26 (0, 0))) ∧ Hid (SndGood u d s) ∧ Hid (wr.heap[w.heap.size]? = some (.cells #[.int .i64 0, .string ⟨#[]⟩, .int .i64 0, .bool false, .bool false, .bool false] 26 (0, 0))) ∧ Cur wr B g ∧ w.grownBy wr (some g)) (fun i _ => n - (intOf i).toNat)
  case atStart => exact ⟨0, u0, ⟨#[]⟩, 0, false, false, false, by omega, rfl, HQ2.out, ⟨⟨hu1, hu2⟩, Nat.zero_le 48, by omega⟩, HR2.out, hc2, hg2⟩
  case round =>
    obtain ⟨k, u, d, s, f, fs, dn, hk, rfl, HQr, HG, HRr, hcr, hgr⟩ := hrel
    have hltr := hcr.lt
    have hlqr := (Array.getElem?_eq_some_iff.1 HQr.out).1
    clear HQ2 HR2
    by_cases hkn : k < n
    · go_wp2_with fail
      refine (l1Below_any (B := B) hcr 4 (by omega) (by omega)).mono ?_
      rintro e w3 ⟨y, rfl, ⟨hy1, hy2⟩, hc3, ho3⟩
      have hz3 := ho3.size
      have hlt3 := hc3.lt
      have hqr := (grow ho3 hlqr (by omega)).trans HQr.out
      have HQ3 := Lib.hid hqr
      have HR3 := Lib.hid ((grow ho3 (by omega) (by omega)).trans HRr.out)
      have hg3 : w.grownBy w3 (some g) := only_trans hgr ho3
      have hlq3 : w1.heap.size < w3.heap.size := by omega
      have hgq3 : ¬ w1.heap.size = g := by omega
      clear HQr HRr ho3 hgr hcr
      have HC3 := Lib.hid hc3
      have r0_hqr := cell_of_row _ _ 0 _ _ _ hqr
      have r1_hqr := cell_of_row _ _ 1 _ _ _ hqr
      have r2_hqr := cell_of_row _ _ 2 _ _ _ hqr
      have r3_hqr := cell_of_row _ _ 3 _ _ _ hqr
      have r4_hqr := cell_of_row _ _ 4 _ _ _ hqr
      have r5_hqr := cell_of_row _ _ 5 _ _ _ hqr
      have f0_hqr := frozen_of_row _ _ 0 _ _ hqr
      have f1_hqr := frozen_of_row _ _ 1 _ _ hqr
      have f2_hqr := frozen_of_row _ _ 2 _ _ hqr
      have f3_hqr := frozen_of_row _ _ 3 _ _ hqr
      have f4_hqr := frozen_of_row _ _ 4 _ _ hqr
      have f5_hqr := frozen_of_row _ _ 5 _ _ hqr
      simp at r0_hqr r1_hqr r2_hqr r3_hqr r4_hqr r5_hqr
      clear hqr
      rcases (by omega : y = 0 ∨ y = 1 ∨ y = 2 ∨ y = 3) with rfl | rfl | rfl | rfl
      · go_wp2_with fail
        refine wp_region_noPanic ?_
        refine wp_region_owed (S := (fun w' => (∀ b' o, b' < w3.heap.size → ¬ b' = g → w'.cell? ⟨b', o, none⟩ = w3.cell? ⟨b', o, none⟩) ∧ Kept w3 B g w')) (B := (fun i => i != 9 && i != 10)) (by kernel_rfl) (kp_start hc3) (fun hHeld => ?_)
        refine owed_take (fun k => List.elem k [6, 7, 8, 9, 10]) (i := 0) (oi := _) (v := ?v0_1) rfl (by kernel_rfl) (by kernel_rfl) (by kernel_rfl) (fun _ _ _ h => h) (Or.inl ⟨by rfl, ?hy0_1⟩) (by with_reducible assumption) ?rest0_1
        case hy0_1 => ((intro w hSw; (try dsimp only at hSw); go_simp); (try with_reducible rfl))
        (try simp only [Act.put, List.getElem_toArray, List.getElem_cons_succ, List.getElem_cons_zero, List.setIfInBounds_toArray, List.set_cons_zero, List.set_cons_succ])
        refine owed_take (fun k => List.elem k [4, 5, 6, 7, 8, 9, 10]) (i := 1) (oi := _) (v := ?v1_2) rfl (by kernel_rfl) (by kernel_rfl) (by kernel_rfl) (fun _ _ _ h => h) (Or.inl ⟨by rfl, ?hy1_2⟩) (by with_reducible assumption) ?rest1_2
        case hy1_2 => ((intro w hSw; (try dsimp only at hSw); go_simp); (try with_reducible rfl))
        (try simp only [Act.put, List.getElem_toArray, List.getElem_cons_succ, List.getElem_cons_zero, List.setIfInBounds_toArray, List.set_cons_zero, List.set_cons_succ])
        refine owed_take (fun k => List.elem k [3, 4, 5, 6, 7, 8, 9, 10]) (i := 2) (oi := _) (v := ?v2_3) rfl (by kernel_rfl) (by kernel_rfl) (by kernel_rfl) (fun _ _ _ h => h) (Or.inl ⟨by rfl, ?hy2_3⟩) (by with_reducible assumption) ?rest2_3
        case hy2_3 => ((intro w hSw; (try dsimp only at hSw); go_simp); (try with_reducible rfl))
        (try simp only [Act.put, List.getElem_toArray, List.getElem_cons_succ, List.getElem_cons_zero, List.setIfInBounds_toArray, List.set_cons_zero, List.set_cons_succ])
        refine owed_ready (rs := [3]) (by kernel_rfl) (by simp) ?_
        refine owedEach.cons (o := _) rfl (fun K hK => ?_) owedEach.nil
        go_simp
        go_at_call 55; ((with_reducible refine (l1Below_any (B := B) ((by with_reducible assumption : _ ∧ Kept _ _ g _).2.cur) _ (by omega) (by omega)).mono ?_); (rintro e wA ⟨yA, rfl, ⟨hlA, hhA⟩, hcA, hoA⟩; have hSA := kp_draw (by with_reducible assumption) hcA hoA; have hLA := hSA.2.size; have hGA := hSA.2.lt; have hsA := hoA.size; (try simp at hsA); (try have hZA := rowg hoA (by first | omega | (simp; omega))); (try have hZA := rowg_drew hoA (by first | omega | (simp; omega))); (try have hZA := (grow hoA (Array.getElem?_eq_some_iff.1 (by with_reducible assumption)).1 (by omega)).trans (by with_reducible assumption))))
        go_wp2_with fail
        refine hK.out _ _ ?_ (fun hHeld => ?_)
        · intro _
          (try dsimp only)
          (first | with_reducible assumption | with_reducible exact kp_start hc3 | with_reducible exact kp_start_alloc hc3 _ | with_reducible exact kp_alloc (by with_reducible assumption) _ | ((repeat (with_reducible refine kp_set ?_ _ (by first | exact Nat.le_refl _ | omega | (simp; done) | (simp; omega)) _ (by omega))); first | with_reducible assumption | with_reducible exact kp_alloc (by with_reducible assumption) _))
        clear hK K
        replace hHeld := hHeld rfl
        (try simp only [Act.put, List.getElem_toArray, List.getElem_cons_succ, List.getElem_cons_zero, List.setIfInBounds_toArray, List.set_cons_zero, List.set_cons_succ])
        refine owed_ready (rs := [4]) (by kernel_rfl) (by simp) ?_
        refine owedEach.cons (o := _) rfl (fun K hK => ?_) owedEach.nil
        go_simp
        go_at_call 54; ((with_reducible refine (l1Bytes_any (B := B) ((by with_reducible assumption : _ ∧ Kept _ _ g _).2.cur) _ (by omega) (by omega)).mono ?_); (rintro e wB ⟨vB, xs, rfl, hOB, hlB, hcB, hoB⟩; have hSB := kp_draw (by with_reducible assumption) hcB hoB; have hcv := hOB.conv wB (fun _ _ _ _ => rfl); have hsz : (strOfNums xs).size ≤ 100 := (by rw [strOfNums_size]; omega); obtain ⟨AB, cB, rfl⟩ := hOB.form; generalize strOfNums xs = XS at hcv hsz; clear hOB hlB; have hLB := hSB.2.size; have hGB := hSB.2.lt))
        go_wp2_with fail
        refine hK.out _ _ ?_ (fun hHeld => ?_)
        · intro _
          (try dsimp only)
          (first | with_reducible assumption | with_reducible exact kp_start hc3 | with_reducible exact kp_start_alloc hc3 _ | with_reducible exact kp_alloc (by with_reducible assumption) _ | ((repeat (with_reducible refine kp_set ?_ _ (by first | exact Nat.le_refl _ | omega | (simp; done) | (simp; omega)) _ (by omega))); first | with_reducible assumption | with_reducible exact kp_alloc (by with_reducible assumption) _))
        clear hK K
        replace hHeld := hHeld rfl
        (try simp only [Act.put, List.getElem_toArray, List.getElem_cons_succ, List.getElem_cons_zero, List.setIfInBounds_toArray, List.set_cons_zero, List.set_cons_succ])
        refine owed_ready (rs := [5]) (by kernel_rfl) (by simp) ?_
        refine owedEach.cons (o := _) rfl (fun K hK => ?_) owedEach.nil
        go_simp
        refine hK.out _ _ ?_ (fun hHeld => ?_)
        · intro _
          (try dsimp only)
          (first | with_reducible assumption | with_reducible exact kp_start hc3 | with_reducible exact kp_start_alloc hc3 _ | with_reducible exact kp_alloc (by with_reducible assumption) _ | ((repeat (with_reducible refine kp_set ?_ _ (by first | exact Nat.le_refl _ | omega | (simp; done) | (simp; omega)) _ (by omega))); first | with_reducible assumption | with_reducible exact kp_alloc (by with_reducible assumption) _))
        clear hK K
        replace hHeld := hHeld rfl
        (try simp only [Act.put, List.getElem_toArray, List.getElem_cons_succ, List.getElem_cons_zero, List.setIfInBounds_toArray, List.set_cons_zero, List.set_cons_succ])
        refine owed_ready (rs := [6]) (by kernel_rfl) (by simp) ?_
        refine owedEach.cons (o := _) rfl (fun K hK => ?_) owedEach.nil
        go_simp
        clear hcv; go_at_call 23; ((with_reducible refine (sQueued_good _ _ _ _ _ _ _ HG.out hsz _).mono ?_); (rintro e wC ⟨u', d', s', f', fs', dn', nn, rfl, hG, hbC⟩; have hSC := kp_below (by with_reducible assumption) hbC; have hLC := hSC.2.size; have hGC := hSC.2.lt; have hqr := (hSC.2.row (b := w1.heap.size) (by omega) (by omega)).trans HQ3.out; have r0_hqr := cell_of_row _ _ 0 _ _ _ hqr; have f0_hqr := frozen_of_row _ _ 0 _ _ hqr; have r1_hqr := cell_of_row _ _ 1 _ _ _ hqr; have f1_hqr := frozen_of_row _ _ 1 _ _ hqr; have r2_hqr := cell_of_row _ _ 2 _ _ _ hqr; have f2_hqr := frozen_of_row _ _ 2 _ _ hqr; have r3_hqr := cell_of_row _ _ 3 _ _ _ hqr; have f3_hqr := frozen_of_row _ _ 3 _ _ hqr; have r4_hqr := cell_of_row _ _ 4 _ _ _ hqr; have f4_hqr := frozen_of_row _ _ 4 _ _ hqr; have r5_hqr := cell_of_row _ _ 5 _ _ _ hqr; have f5_hqr := frozen_of_row _ _ 5 _ _ hqr; simp at r0_hqr r1_hqr r2_hqr r3_hqr r4_hqr r5_hqr; clear hqr))
        go_wp2_with fail
        refine hK.out _ _ ?_ (fun hHeld => ?_)
        · intro _
          (try dsimp only)
          (first | with_reducible assumption | with_reducible exact kp_start hc3 | with_reducible exact kp_start_alloc hc3 _ | with_reducible exact kp_alloc (by with_reducible assumption) _ | ((repeat (with_reducible refine kp_set ?_ _ (by first | exact Nat.le_refl _ | omega | (simp; done) | (simp; omega)) _ (by omega))); first | with_reducible assumption | with_reducible exact kp_alloc (by with_reducible assumption) _))
        clear hK K
        replace hHeld := hHeld rfl
        (try simp only [Act.put, List.getElem_toArray, List.getElem_cons_succ, List.getElem_cons_zero, List.setIfInBounds_toArray, List.set_cons_zero, List.set_cons_succ])
        refine owed_take (fun k => List.elem k [8, 9, 10]) (i := 7) (oi := _) (v := ?v7_4) rfl (by kernel_rfl) (by kernel_rfl) (by kernel_rfl) (fun _ _ _ h => h) (Or.inl ⟨by rfl, ?hy7_4⟩) (by with_reducible assumption) ?rest7_4
        case hy7_4 => ((intro w hSw; (try dsimp only at hSw); go_simp); (try with_reducible rfl))
        (try simp only [Act.put, List.getElem_toArray, List.getElem_cons_succ, List.getElem_cons_zero, List.setIfInBounds_toArray, List.set_cons_zero, List.set_cons_succ])
        refine owed_take_free (fun k => List.elem k []) (i := 9) (oi := _) (v := ?v9_5) rfl (by kernel_rfl) (by kernel_rfl) (by kernel_rfl) (fun _ _ _ h => h) (Or.inl ⟨by rfl, ?hy9_5⟩) (by rfl) ?rest9_5
        case hy9_5 => ((intro w _; go_simp); (try with_reducible rfl))
        (try simp only [Act.put, List.getElem_toArray, List.getElem_cons_succ, List.getElem_cons_zero, List.setIfInBounds_toArray, List.set_cons_zero, List.set_cons_succ])
        refine owed_take (fun k => List.elem k [10]) (i := 8) (oi := _) (v := ?v8_6) rfl (by kernel_rfl) (by kernel_rfl) (by kernel_rfl) (fun _ _ _ h => h) (Or.inl ⟨by rfl, ?hy8_6⟩) (by with_reducible assumption) ?rest8_6
        case hy8_6 => ((intro w hSw; (try dsimp only at hSw); go_simp); (try with_reducible rfl))
        (try simp only [Act.put, List.getElem_toArray, List.getElem_cons_succ, List.getElem_cons_zero, List.setIfInBounds_toArray, List.set_cons_zero, List.set_cons_succ])
        refine owed_ready (rs := [10]) (by kernel_rfl) (by simp) ?_
        refine owedEach.cons (o := _) rfl (fun K hK => ?_) owedEach.nil
        go_simp
        refine hK.out _ _ ?_ (fun hHeld => ?_)
        · intro h
          exact absurd h (by decide)
        clear hK K
        (try simp only [Act.put, List.getElem_toArray, List.getElem_cons_succ, List.getElem_cons_zero, List.setIfInBounds_toArray, List.set_cons_zero, List.set_cons_succ])
        refine owed_done (by kernel_rfl) (NoPanic.normal ?_)
        go_wp2_with fail
        have hqn := stored6 ((hSC.2.row (b := w1.heap.size) (by omega) (by omega)).trans HQ3.out) (.int .i64 u') (.string d') (.int .i64 s') (.bool f') (.bool fs') (.bool dn')
        have HQN := Lib.hid hqn
        have hzn : (w1.heap.size : Nat) ≤ wC.heap.size := by omega
        have HRN := Lib.hid ((hSC.2.row (b := w.heap.size) (by omega) (by omega)).trans HR3.out)
        have HGN := Lib.hid hG
        have hcC := hSC.2.cur
        have hgC : w.grownBy wC (some g) := only_trans hg3 hSC.2.by_
        clear hqn
        go_roundw
        case rel => exact ⟨k + 1, u', d', s', f', fs', dn', by omega, by go_num, HQN.out, HGN.out, Lib.hid (by repeat (first | (with_reducible apply heap_setCell_same) | (with_reducible apply drew_row) | (with_reducible apply drewN_row) | (with_reducible exact HRN.out) | (with_reducible refine (heap_setCell_other _ _ _ _ (by first | omega | (simp; done) | (simp; omega))).trans ?_) | (with_reducible refine (Below.heap_alloc _ _ _ (by first | omega | (simp; done) | (simp; omega))).trans ?_))), (by repeat (first | with_reducible assumption | with_reducible refine Cur.alloc ?_ _ | with_reducible refine Cur.drew ?_ | with_reducible refine Cur.setOther ?_ (by first | omega | (simp; done) | (simp; omega)) (by first | omega | (simp; done) | (simp; omega)) _)), (by repeat (first | with_reducible assumption | with_reducible exact World.grownBy.refl _ _ | with_reducible refine only_alloc ?_ _ | with_reducible refine only_drew ?_ | with_reducible refine only_drewN ?_ _ | with_reducible refine only_setNew ?_ (by first | omega | (simp; done) | (simp; omega)) _ | (with_reducible refine only_trans ?_ (by with_reducible assumption))))⟩
        case measure => simp [intOf]; omega
      · go_wp2_with fail
        go_cut [6, 7] (fun p b wx => ∃ (q3 : Nat) (qq : Int) (T : ByteArray) (cf ok : Bool), p = .pointer (some ⟨q3, 0, none⟩) ∧ b = .bool ok ∧ Hid (wx.heap[q3]? = some (.cells #[.int .i64 qq, .string T, .bool cf] 39 (0, 0))) ∧ w3.heap.size ≤ q3 ∧ Hid (T.size ≤ 48) ∧ Hid (Kept w3 B g wx))
        case first =>
          obtain ⟨⟨hgu1, hgu2⟩, hgd, hgs1, hgs2⟩ := HG.out
          go_region_held3 (fun w' => (∀ b' o, b' < w3.heap.size → ¬ b' = g → w'.cell? ⟨b', o, none⟩ = w3.cell? ⟨b', o, none⟩) ∧ Kept w3 B g w') (first | with_reducible assumption | with_reducible exact kp_start hc3 | with_reducible exact kp_start_alloc hc3 _ | with_reducible exact kp_alloc (by with_reducible assumption) _ | ((repeat (with_reducible refine kp_set ?_ _ (by first | exact Nat.le_refl _ | omega | (simp; done) | (simp; omega)) _ (by omega))); first | with_reducible assumption | with_reducible exact kp_alloc (by with_reducible assumption) _)) (first | (go_at_call 55; ((with_reducible refine (l1Below_any (B := B) ((by with_reducible assumption : _ ∧ Kept _ _ g _).2.cur) _ (by omega) (by omega)).mono ?_); (rintro e wA ⟨yA, rfl, ⟨hlA, hhA⟩, hcA, hoA⟩; have hSA := kp_draw (by with_reducible assumption) hcA hoA; have hLA := hSA.2.size; have hGA := hSA.2.lt; have hsA := hoA.size; (try simp at hsA); (try have hZA := rowg hoA (by first | omega | (simp; omega))); (try have hZA := rowg_drew hoA (by first | omega | (simp; omega))); (try have hZA := (grow hoA (Array.getElem?_eq_some_iff.1 (by with_reducible assumption)).1 (by omega)).trans (by with_reducible assumption)); have hwy : IntKind.i64.wrap (1 + yA) = 1 + yA := IntWalk.i64_in _ ⟨by omega, by omega⟩; have hwy1 : 1 ≤ 1 + yA := (by omega); have hwy2 : 1 + yA ≤ 100 := (by omega)))) | (go_at_call 29; ((with_reducible refine (sNextChunk_good _ _ _ _ _ _ _ _ HG.out (by omega) (by omega) (by omega) (by omega) _).mono ?_); (rintro e wB ⟨qq, T, cf, ok, rfl, hq, hT, hbB⟩; have hSB := kp_below (by with_reducible assumption) hbB; have hLB := hSB.2.size; have hGB := hSB.2.lt; (try have hZB := row_after hbB); (try have hZB := row_after_drew hbB); (try have hZB := row_kept (by with_reducible assumption) hbB); (try (have rz := row_facts hZB; obtain ⟨rz0, rz1, rz2, rz3, rz4, rz5, fz⟩ := rz))))))
          all_goals (go_wp2_with fail; go_meet)
          all_goals
            refine ⟨_, qq, T, cf, ok, rfl, rfl, Lib.hid ?_, ?_, Lib.hid hT, Lib.hid (show _ ∧ Kept w3 B g _ from (by first | with_reducible exact kp_alloc hSB _ | ((repeat (with_reducible refine kp_set ?_ _ (by first | exact Nat.le_refl _ | omega | (simp; done) | (simp; omega)) _ (by omega))); with_reducible exact hSB))).2⟩
            · first | exact heap_alloc_new _ _ | exact stored3 hZB _ _ _
            · first | exact Nat.le_refl _ | omega | (simp; omega)
        case rest =>
        obtain ⟨q3, qq, T, cf, ok, rfl, rfl, HQC, hq3, HT, HKC⟩ := hcut
        rename World => w4
        have hz4 := HKC.out.size
        have hlt4 := HKC.out.lt
        have hl3 := (Array.getElem?_eq_some_iff.1 HQC.out).1
        have hg4 : w.grownBy w4 (some g) := only_trans hg3 HKC.out.by_
        have HR4 := Lib.hid ((HKC.out.row (b := w.heap.size) (by omega) (by omega)).trans HR3.out)
        have hqr := (HKC.out.row (b := w1.heap.size) (by omega) (by omega)).trans HQ3.out
        have HQ4 := Lib.hid hqr
        have hqc := HQC.out
        have r0_hqr := cell_of_row _ _ 0 _ _ _ hqr
        have r1_hqr := cell_of_row _ _ 1 _ _ _ hqr
        have r2_hqr := cell_of_row _ _ 2 _ _ _ hqr
        have r3_hqr := cell_of_row _ _ 3 _ _ _ hqr
        have r4_hqr := cell_of_row _ _ 4 _ _ _ hqr
        have r5_hqr := cell_of_row _ _ 5 _ _ _ hqr
        have f0_hqr := frozen_of_row _ _ 0 _ _ hqr
        have f1_hqr := frozen_of_row _ _ 1 _ _ hqr
        have f2_hqr := frozen_of_row _ _ 2 _ _ hqr
        have f3_hqr := frozen_of_row _ _ 3 _ _ hqr
        have f4_hqr := frozen_of_row _ _ 4 _ _ hqr
        have f5_hqr := frozen_of_row _ _ 5 _ _ hqr
        simp at r0_hqr r1_hqr r2_hqr r3_hqr r4_hqr r5_hqr
        have r0_hqc := cell_of_row _ _ 0 _ _ _ hqc
        have r1_hqc := cell_of_row _ _ 1 _ _ _ hqc
        have r2_hqc := cell_of_row _ _ 2 _ _ _ hqc
        have f0_hqc := frozen_of_row _ _ 0 _ _ hqc
        have f1_hqc := frozen_of_row _ _ 1 _ _ hqc
        have f2_hqc := frozen_of_row _ _ 2 _ _ hqc
        simp at r0_hqc r1_hqc r2_hqc
        clear hqr hqc
        cases ok
        · go_wp2_with fail
          have HK4 := HKC.out
          go_roundw
          case rel => exact ⟨k + 1, u, d, s, f, fs, dn, by omega, by go_num, HQ4.out, HG.out, HR4.out, HK4.cur, hg4⟩
          case measure => simp [intOf]; omega
        · go_wp2_with fail
          refine (sSentOff_good _ _ _ _ _ _ _ _ _ HG.out HT.out _).mono ?_
          rintro e wC ⟨u', d', s', f', fs', dn', rfl, hG, hbC⟩
          have hkC : w4.grownBy wC (some g) := ⟨hbC.os, hbC.tape, hbC.output, hbC.size, fun k hk _ => hbC.block k hk⟩
          have hkC' : w4.grownBy wC none := ⟨hbC.os, hbC.tape, hbC.output, hbC.size, fun k hk _ => hbC.block k hk⟩
          have hSC : True ∧ Kept w3 B g wC := ⟨trivial, HKC.out.cur.grown hkC' (fun _ h => by cases h), only_trans HKC.out.by_ hkC⟩
          have hLC := hSC.2.size
          have hGC := hSC.2.lt
          have hqr := (hSC.2.row (b := w1.heap.size) (by omega) (by omega)).trans HQ3.out
          have r0_hqr := cell_of_row _ _ 0 _ _ _ hqr
          have r1_hqr := cell_of_row _ _ 1 _ _ _ hqr
          have r2_hqr := cell_of_row _ _ 2 _ _ _ hqr
          have r3_hqr := cell_of_row _ _ 3 _ _ _ hqr
          have r4_hqr := cell_of_row _ _ 4 _ _ _ hqr
          have r5_hqr := cell_of_row _ _ 5 _ _ _ hqr
          have f0_hqr := frozen_of_row _ _ 0 _ _ hqr
          have f1_hqr := frozen_of_row _ _ 1 _ _ hqr
          have f2_hqr := frozen_of_row _ _ 2 _ _ hqr
          have f3_hqr := frozen_of_row _ _ 3 _ _ hqr
          have f4_hqr := frozen_of_row _ _ 4 _ _ hqr
          have f5_hqr := frozen_of_row _ _ 5 _ _ hqr
          simp at r0_hqr r1_hqr r2_hqr r3_hqr r4_hqr r5_hqr
          clear hqr
          go_wp2_with fail
          have hqn := stored6 ((hSC.2.row (b := w1.heap.size) (by omega) (by omega)).trans HQ3.out) (.int .i64 u') (.string d') (.int .i64 s') (.bool f') (.bool fs') (.bool dn')
          have HQN := Lib.hid hqn
          have hzn : (w1.heap.size : Nat) ≤ wC.heap.size := by omega
          have HRN := Lib.hid ((hSC.2.row (b := w.heap.size) (by omega) (by omega)).trans HR3.out)
          have HGN := Lib.hid hG
          have hcC := hSC.2.cur
          have hgC : w.grownBy wC (some g) := only_trans hg3 hSC.2.by_
          clear hqn
          go_roundw
          case rel => exact ⟨k + 1, u', d', s', f', fs', dn', by omega, by go_num, HQN.out, HGN.out, Lib.hid (by repeat (first | (with_reducible apply heap_setCell_same) | (with_reducible apply drew_row) | (with_reducible apply drewN_row) | (with_reducible exact HRN.out) | (with_reducible refine (heap_setCell_other _ _ _ _ (by first | omega | (simp; done) | (simp; omega))).trans ?_) | (with_reducible refine (Below.heap_alloc _ _ _ (by first | omega | (simp; done) | (simp; omega))).trans ?_))), (by repeat (first | with_reducible assumption | with_reducible refine Cur.alloc ?_ _ | with_reducible refine Cur.drew ?_ | with_reducible refine Cur.setOther ?_ (by first | omega | (simp; done) | (simp; omega)) (by first | omega | (simp; done) | (simp; omega)) _)), (by repeat (first | with_reducible assumption | with_reducible exact World.grownBy.refl _ _ | with_reducible refine only_alloc ?_ _ | with_reducible refine only_drew ?_ | with_reducible refine only_drewN ?_ _ | with_reducible refine only_setNew ?_ (by first | omega | (simp; done) | (simp; omega)) _ | (with_reducible refine only_trans ?_ (by with_reducible assumption))))⟩
          case measure => simp [intOf]; omega
      · obtain ⟨⟨hgu1, hgu2⟩, hgd, hgs1, hgs2⟩ := HG.out
        have hfl : 0 ≤ fly s fs ∧ fly s fs ≤ 49 := by
          unfold fly wrap64
          split <;> omega
        have hfy := fun W => flown_any u d s f fs dn W
        obtain ⟨FL, hFL⟩ : ∃ F, fly s fs = F := ⟨_, rfl⟩
        rw [hFL] at hfl
        simp only [hFL] at hfy
        obtain ⟨hfl1, hfl2⟩ := hfl
        have HFL := Lib.hid hfy
        clear hfy hFL
        have hwf : IntKind.i64.wrap (FL + 1) = FL + 1 := IntWalk.i64_in _ ⟨by omega, by omega⟩
        have hwf1 : 1 ≤ FL + 1 := by omega
        have hwf2 : FL + 1 ≤ 100 := by omega
        go_wp2_with fail
        refine wp_region_noPanic ?_
        refine wp_region_owed (S := (fun w' => (∀ b' o, b' < w3.heap.size → ¬ b' = g → w'.cell? ⟨b', o, none⟩ = w3.cell? ⟨b', o, none⟩) ∧ Kept w3 B g w')) (B := (fun i => i != 12 && i != 13)) (by kernel_rfl) (kp_start hc3) (fun hHeld => ?_)
        refine owed_take (fun k => List.elem k [9, 10, 11, 12, 13]) (i := 0) (oi := _) (v := ?v0_7) rfl (by kernel_rfl) (by kernel_rfl) (by kernel_rfl) (fun _ _ _ h => h) (Or.inl ⟨by rfl, ?hy0_7⟩) (by with_reducible assumption) ?rest0_7
        case hy0_7 => ((intro w hSw; (try dsimp only at hSw); go_simp); (try with_reducible rfl))
        (try simp only [Act.put, List.getElem_toArray, List.getElem_cons_succ, List.getElem_cons_zero, List.setIfInBounds_toArray, List.set_cons_zero, List.set_cons_succ])
        refine owed_take (fun k => List.elem k [2, 8, 9, 10, 11, 12, 13]) (i := 1) (oi := _) (v := ?v1_8) rfl (by kernel_rfl) (by kernel_rfl) (by kernel_rfl) (fun _ _ _ h => h) (Or.inl ⟨by rfl, ?hy1_8⟩) (by with_reducible assumption) ?rest1_8
        case hy1_8 => ((intro w hSw; (try dsimp only at hSw); go_simp); (try with_reducible rfl))
        (try simp only [Act.put, List.getElem_toArray, List.getElem_cons_succ, List.getElem_cons_zero, List.setIfInBounds_toArray, List.set_cons_zero, List.set_cons_succ])
        refine owed_take (fun k => List.elem k [8, 9, 10, 11, 12, 13]) (i := 2) (oi := _) (v := ?v2_9) rfl (by kernel_rfl) (by kernel_rfl) (by kernel_rfl) (fun _ _ _ h => h) (Or.inl ⟨by rfl, ?hy2_9⟩) (by with_reducible assumption) ?rest2_9
        case hy2_9 => ((intro w hSw; (try dsimp only at hSw); go_simp); (try with_reducible rfl))
        (try simp only [Act.put, List.getElem_toArray, List.getElem_cons_succ, List.getElem_cons_zero, List.setIfInBounds_toArray, List.set_cons_zero, List.set_cons_succ])
        refine owed_take (fun k => List.elem k [7, 8, 9, 10, 11, 12, 13]) (i := 3) (oi := _) (v := ?v3_10) rfl (by kernel_rfl) (by kernel_rfl) (by kernel_rfl) (fun _ _ _ h => h) (Or.inl ⟨by rfl, ?hy3_10⟩) (by with_reducible assumption) ?rest3_10
        case hy3_10 => ((intro w hSw; (try dsimp only at hSw); go_simp); (try with_reducible rfl))
        (try simp only [Act.put, List.getElem_toArray, List.getElem_cons_succ, List.getElem_cons_zero, List.setIfInBounds_toArray, List.set_cons_zero, List.set_cons_succ])
        refine owed_take (fun k => List.elem k [5, 6, 7, 8, 9, 10, 11, 12, 13]) (i := 4) (oi := _) (v := ?v4_11) rfl (by kernel_rfl) (by kernel_rfl) (by kernel_rfl) (fun _ _ _ h => h) (Or.inl ⟨by rfl, ?hy4_11⟩) (by with_reducible assumption) ?rest4_11
        case hy4_11 => ((intro w hSw; (try dsimp only at hSw); go_simp); (try with_reducible rfl))
        (try simp only [Act.put, List.getElem_toArray, List.getElem_cons_succ, List.getElem_cons_zero, List.setIfInBounds_toArray, List.set_cons_zero, List.set_cons_succ])
        refine owed_ready (rs := [5]) (by kernel_rfl) (by simp) ?_
        refine owedEach.cons (o := _) rfl (fun K hK => ?_) owedEach.nil
        go_simp
        go_at_call 43; ((with_reducible refine (HFL.out _).mono ?_); (rintro e wF ⟨rfl, hbF⟩; have hSF := kp_below (by with_reducible assumption) hbF; have hLF := hSF.2.size; have hGF := hSF.2.lt))
        go_wp2_with fail
        refine hK.out _ _ ?_ (fun hHeld => ?_)
        · intro _
          (try dsimp only)
          (first | with_reducible assumption | with_reducible exact kp_start hc3 | with_reducible exact kp_start_alloc hc3 _ | with_reducible exact kp_alloc (by with_reducible assumption) _ | ((repeat (with_reducible refine kp_set ?_ _ (by first | exact Nat.le_refl _ | omega | (simp; done) | (simp; omega)) _ (by omega))); first | with_reducible assumption | with_reducible exact kp_alloc (by with_reducible assumption) _))
        clear hK K
        replace hHeld := hHeld rfl
        (try simp only [Act.put, List.getElem_toArray, List.getElem_cons_succ, List.getElem_cons_zero, List.setIfInBounds_toArray, List.set_cons_zero, List.set_cons_succ])
        refine owed_take (fun k => List.elem k [7, 8, 9, 10, 11, 12, 13]) (i := 6) (oi := _) (v := ?v6_12) rfl (by kernel_rfl) (by kernel_rfl) (by kernel_rfl) (fun _ _ _ h => h) (Or.inl ⟨by rfl, ?hy6_12⟩) (by with_reducible assumption) ?rest6_12
        case hy6_12 => ((intro w hSw; (try dsimp only at hSw); go_simp); (try with_reducible rfl))
        (try simp only [Act.put, List.getElem_toArray, List.getElem_cons_succ, List.getElem_cons_zero, List.setIfInBounds_toArray, List.set_cons_zero, List.set_cons_succ])
        refine owed_ready (rs := [7]) (by kernel_rfl) (by simp) ?_
        refine owedEach.cons (o := _) rfl (fun K hK => ?_) owedEach.nil
        go_simp
        go_at_call 55; ((with_reducible refine (l1Below_any (B := B) ((by with_reducible assumption : _ ∧ Kept _ _ g _).2.cur) _ (by omega) (by omega)).mono ?_); (rintro e wA ⟨yA, rfl, ⟨hlA, hhA⟩, hcA, hoA⟩; have hSA := kp_draw (by with_reducible assumption) hcA hoA; have hLA := hSA.2.size; have hGA := hSA.2.lt; have hsA := hoA.size; (try simp at hsA); (try have hZA := rowg hoA (by first | omega | (simp; omega))); (try have hZA := rowg_drew hoA (by first | omega | (simp; omega))); (try have hZA := (grow hoA (Array.getElem?_eq_some_iff.1 (by with_reducible assumption)).1 (by omega)).trans (by with_reducible assumption))))
        go_wp2_with fail
        refine hK.out _ _ ?_ (fun hHeld => ?_)
        · intro _
          (try dsimp only)
          (first | with_reducible assumption | with_reducible exact kp_start hc3 | with_reducible exact kp_start_alloc hc3 _ | with_reducible exact kp_alloc (by with_reducible assumption) _ | ((repeat (with_reducible refine kp_set ?_ _ (by first | exact Nat.le_refl _ | omega | (simp; done) | (simp; omega)) _ (by omega))); first | with_reducible assumption | with_reducible exact kp_alloc (by with_reducible assumption) _))
        clear hK K
        replace hHeld := hHeld rfl
        (try simp only [Act.put, List.getElem_toArray, List.getElem_cons_succ, List.getElem_cons_zero, List.setIfInBounds_toArray, List.set_cons_zero, List.set_cons_succ])
        refine owed_ready (rs := [8]) (by kernel_rfl) (by simp) ?_
        refine owedEach.cons (o := _) rfl (fun K hK => ?_) owedEach.nil
        go_simp
        go_at_call 42; ((with_reducible refine (sSeqAdd_any _ _ (by omega) (by omega) (by omega) (by omega) _).mono ?_); (rintro e w' ⟨rfl, rfl⟩; have hqa := seqAdd_bd u yA))
        go_wp2_with fail
        refine hK.out _ _ ?_ (fun hHeld => ?_)
        · intro _
          (try dsimp only)
          (first | with_reducible assumption | with_reducible exact kp_start hc3 | with_reducible exact kp_start_alloc hc3 _ | with_reducible exact kp_alloc (by with_reducible assumption) _ | ((repeat (with_reducible refine kp_set ?_ _ (by first | exact Nat.le_refl _ | omega | (simp; done) | (simp; omega)) _ (by omega))); first | with_reducible assumption | with_reducible exact kp_alloc (by with_reducible assumption) _))
        clear hK K
        replace hHeld := hHeld rfl
        (try simp only [Act.put, List.getElem_toArray, List.getElem_cons_succ, List.getElem_cons_zero, List.setIfInBounds_toArray, List.set_cons_zero, List.set_cons_succ])
        refine owed_ready (rs := [9]) (by kernel_rfl) (by simp) ?_
        refine owedEach.cons (o := _) rfl (fun K hK => ?_) owedEach.nil
        go_simp
        go_at_call 32; ((with_reducible refine (sAcked_good _ _ _ _ _ _ _ HG.out (by omega) (by omega) _).mono ?_); (rintro e wC ⟨u', d', s', f', fs', dn', nn, rfl, hG, hbC⟩; have hSC := kp_below (by with_reducible assumption) hbC; have hLC := hSC.2.size; have hGC := hSC.2.lt; have hqr := (hSC.2.row (b := w1.heap.size) (by omega) (by omega)).trans HQ3.out; have r0_hqr := cell_of_row _ _ 0 _ _ _ hqr; have f0_hqr := frozen_of_row _ _ 0 _ _ hqr; have r1_hqr := cell_of_row _ _ 1 _ _ _ hqr; have f1_hqr := frozen_of_row _ _ 1 _ _ hqr; have r2_hqr := cell_of_row _ _ 2 _ _ _ hqr; have f2_hqr := frozen_of_row _ _ 2 _ _ hqr; have r3_hqr := cell_of_row _ _ 3 _ _ _ hqr; have f3_hqr := frozen_of_row _ _ 3 _ _ hqr; have r4_hqr := cell_of_row _ _ 4 _ _ _ hqr; have f4_hqr := frozen_of_row _ _ 4 _ _ hqr; have r5_hqr := cell_of_row _ _ 5 _ _ _ hqr; have f5_hqr := frozen_of_row _ _ 5 _ _ hqr; simp at r0_hqr r1_hqr r2_hqr r3_hqr r4_hqr r5_hqr; clear hqr))
        go_wp2_with fail
        refine hK.out _ _ ?_ (fun hHeld => ?_)
        · intro _
          (try dsimp only)
          (first | with_reducible assumption | with_reducible exact kp_start hc3 | with_reducible exact kp_start_alloc hc3 _ | with_reducible exact kp_alloc (by with_reducible assumption) _ | ((repeat (with_reducible refine kp_set ?_ _ (by first | exact Nat.le_refl _ | omega | (simp; done) | (simp; omega)) _ (by omega))); first | with_reducible assumption | with_reducible exact kp_alloc (by with_reducible assumption) _))
        clear hK K
        replace hHeld := hHeld rfl
        (try simp only [Act.put, List.getElem_toArray, List.getElem_cons_succ, List.getElem_cons_zero, List.setIfInBounds_toArray, List.set_cons_zero, List.set_cons_succ])
        refine owed_take (fun k => List.elem k [11, 12, 13]) (i := 10) (oi := _) (v := ?v10_13) rfl (by kernel_rfl) (by kernel_rfl) (by kernel_rfl) (fun _ _ _ h => h) (Or.inl ⟨by rfl, ?hy10_13⟩) (by with_reducible assumption) ?rest10_13
        case hy10_13 => ((intro w hSw; (try dsimp only at hSw); go_simp); (try with_reducible rfl))
        (try simp only [Act.put, List.getElem_toArray, List.getElem_cons_succ, List.getElem_cons_zero, List.setIfInBounds_toArray, List.set_cons_zero, List.set_cons_succ])
        refine owed_take_free (fun k => List.elem k []) (i := 12) (oi := _) (v := ?v12_14) rfl (by kernel_rfl) (by kernel_rfl) (by kernel_rfl) (fun _ _ _ h => h) (Or.inl ⟨by rfl, ?hy12_14⟩) (by rfl) ?rest12_14
        case hy12_14 => ((intro w _; go_simp); (try with_reducible rfl))
        (try simp only [Act.put, List.getElem_toArray, List.getElem_cons_succ, List.getElem_cons_zero, List.setIfInBounds_toArray, List.set_cons_zero, List.set_cons_succ])
        refine owed_take (fun k => List.elem k [13]) (i := 11) (oi := _) (v := ?v11_15) rfl (by kernel_rfl) (by kernel_rfl) (by kernel_rfl) (fun _ _ _ h => h) (Or.inl ⟨by rfl, ?hy11_15⟩) (by with_reducible assumption) ?rest11_15
        case hy11_15 => ((intro w hSw; (try dsimp only at hSw); go_simp); (try with_reducible rfl))
        (try simp only [Act.put, List.getElem_toArray, List.getElem_cons_succ, List.getElem_cons_zero, List.setIfInBounds_toArray, List.set_cons_zero, List.set_cons_succ])
        refine owed_ready (rs := [13]) (by kernel_rfl) (by simp) ?_
        refine owedEach.cons (o := _) rfl (fun K hK => ?_) owedEach.nil
        go_simp
        refine hK.out _ _ ?_ (fun hHeld => ?_)
        · intro h
          exact absurd h (by decide)
        clear hK K
        (try simp only [Act.put, List.getElem_toArray, List.getElem_cons_succ, List.getElem_cons_zero, List.setIfInBounds_toArray, List.set_cons_zero, List.set_cons_succ])
        refine owed_done (by kernel_rfl) (NoPanic.normal ?_)
        go_wp2_with fail
        have hqn := stored6 ((hSC.2.row (b := w1.heap.size) (by omega) (by omega)).trans HQ3.out) (.int .i64 u') (.string d') (.int .i64 s') (.bool f') (.bool fs') (.bool dn')
        have HQN := Lib.hid hqn
        have hzn : (w1.heap.size : Nat) ≤ wC.heap.size := by omega
        have HRN := Lib.hid ((hSC.2.row (b := w.heap.size) (by omega) (by omega)).trans HR3.out)
        have HGN := Lib.hid hG
        have hcC := hSC.2.cur
        have hgC : w.grownBy wC (some g) := only_trans hg3 hSC.2.by_
        clear hqn
        go_roundw
        case rel => exact ⟨k + 1, u', d', s', f', fs', dn', by omega, by go_num, HQN.out, HGN.out, Lib.hid (by repeat (first | (with_reducible apply heap_setCell_same) | (with_reducible apply drew_row) | (with_reducible apply drewN_row) | (with_reducible exact HRN.out) | (with_reducible refine (heap_setCell_other _ _ _ _ (by first | omega | (simp; done) | (simp; omega))).trans ?_) | (with_reducible refine (Below.heap_alloc _ _ _ (by first | omega | (simp; done) | (simp; omega))).trans ?_))), (by repeat (first | with_reducible assumption | with_reducible refine Cur.alloc ?_ _ | with_reducible refine Cur.drew ?_ | with_reducible refine Cur.setOther ?_ (by first | omega | (simp; done) | (simp; omega)) (by first | omega | (simp; done) | (simp; omega)) _)), (by repeat (first | with_reducible assumption | with_reducible exact World.grownBy.refl _ _ | with_reducible refine only_alloc ?_ _ | with_reducible refine only_drew ?_ | with_reducible refine only_drewN ?_ _ | with_reducible refine only_setNew ?_ (by first | omega | (simp; done) | (simp; omega)) _ | (with_reducible refine only_trans ?_ (by with_reducible assumption))))⟩
        case measure => simp [intOf]; omega
      · cases f
        · go_wp2_with fail
          refine (l1Once_any (B := B) hc3 2 (by omega) (by omega)).mono ?_
          rintro e wC ⟨f', rfl, hcC, hoC⟩
          have hzC := hoC.size
          have hqr := (grow hoC hlq3 hgq3).trans HQ3.out
          have HQC := Lib.hid hqr
          have hgC : w.grownBy wC (some g) := only_trans hg3 hoC
          have HRC := Lib.hid ((grow hoC (by omega) (by omega)).trans HR3.out)
          have r0_hqr := cell_of_row _ _ 0 _ _ _ hqr
          have r1_hqr := cell_of_row _ _ 1 _ _ _ hqr
          have r2_hqr := cell_of_row _ _ 2 _ _ _ hqr
          have r3_hqr := cell_of_row _ _ 3 _ _ _ hqr
          have r4_hqr := cell_of_row _ _ 4 _ _ _ hqr
          have r5_hqr := cell_of_row _ _ 5 _ _ _ hqr
          have f0_hqr := frozen_of_row _ _ 0 _ _ hqr
          have f1_hqr := frozen_of_row _ _ 1 _ _ hqr
          have f2_hqr := frozen_of_row _ _ 2 _ _ hqr
          have f3_hqr := frozen_of_row _ _ 3 _ _ hqr
          have f4_hqr := frozen_of_row _ _ 4 _ _ hqr
          have f5_hqr := frozen_of_row _ _ 5 _ _ hqr
          simp at r0_hqr r1_hqr r2_hqr r3_hqr r4_hqr r5_hqr
          clear hqr
          go_wp2_with fail
          have HQN : Hid ((wC.setCell ⟨w1.heap.size, 3, none⟩ (.bool f')).heap[w1.heap.size]? = some (.cells #[.int .i64 u, .string d, .int .i64 s, .bool f', .bool fs, .bool dn] 26 (0, 0))) := Lib.hid ((heap_setCell_same _ _ 3 _ _ (.bool f') HQC.out).trans (by simp))
          go_roundw
          case rel => exact ⟨k + 1, u, d, s, f', fs, dn, by omega, by go_num, HQN.out, HG.out, Lib.hid (by repeat (first | (with_reducible apply heap_setCell_same) | (with_reducible apply drew_row) | (with_reducible apply drewN_row) | (with_reducible exact HRC.out) | (with_reducible refine (heap_setCell_other _ _ _ _ (by first | omega | (simp; done) | (simp; omega))).trans ?_) | (with_reducible refine (Below.heap_alloc _ _ _ (by first | omega | (simp; done) | (simp; omega))).trans ?_))), (by repeat (first | with_reducible assumption | with_reducible refine Cur.alloc ?_ _ | with_reducible refine Cur.drew ?_ | with_reducible refine Cur.setOther ?_ (by first | omega | (simp; done) | (simp; omega)) (by first | omega | (simp; done) | (simp; omega)) _)), (by repeat (first | with_reducible assumption | with_reducible exact World.grownBy.refl _ _ | with_reducible refine only_alloc ?_ _ | with_reducible refine only_drew ?_ | with_reducible refine only_drewN ?_ _ | with_reducible refine only_setNew ?_ (by first | omega | (simp; done) | (simp; omega)) _ | (with_reducible refine only_trans ?_ (by with_reducible assumption))))⟩
          case measure => simp [intOf]; omega
        · go_wp2_with fail
          have HQN : Hid ((w3.setCell ⟨w1.heap.size, 3, none⟩ (.bool true)).heap[w1.heap.size]? = some (.cells #[.int .i64 u, .string d, .int .i64 s, .bool true, .bool fs, .bool dn] 26 (0, 0))) := Lib.hid ((heap_setCell_same _ _ 3 _ _ (.bool true) HQ3.out).trans (by simp))
          go_roundw
          case rel => exact ⟨k + 1, u, d, s, true, fs, dn, by omega, by go_num, HQN.out, HG.out, Lib.hid (by repeat (first | (with_reducible apply heap_setCell_same) | (with_reducible apply drew_row) | (with_reducible apply drewN_row) | (with_reducible exact HR3.out) | (with_reducible refine (heap_setCell_other _ _ _ _ (by first | omega | (simp; done) | (simp; omega))).trans ?_) | (with_reducible refine (Below.heap_alloc _ _ _ (by first | omega | (simp; done) | (simp; omega))).trans ?_))), (by repeat (first | with_reducible assumption | with_reducible refine Cur.alloc ?_ _ | with_reducible refine Cur.drew ?_ | with_reducible refine Cur.setOther ?_ (by first | omega | (simp; done) | (simp; omega)) (by first | omega | (simp; done) | (simp; omega)) _)), (by repeat (first | with_reducible assumption | with_reducible exact World.grownBy.refl _ _ | with_reducible refine only_alloc ?_ _ | with_reducible refine only_drew ?_ | with_reducible refine only_drewN ?_ _ | with_reducible refine only_setNew ?_ (by first | omega | (simp; done) | (simp; omega)) _ | (with_reducible refine only_trans ?_ (by with_reducible assumption))))⟩
          case measure => simp [intOf]; omega
    · obtain rfl : k = n := by omega
      have hqr := HQr.out
      have hrr := HRr.out
      have r0_hqr := cell_of_row _ _ 0 _ _ _ hqr
      have r1_hqr := cell_of_row _ _ 1 _ _ _ hqr
      have r2_hqr := cell_of_row _ _ 2 _ _ _ hqr
      have r3_hqr := cell_of_row _ _ 3 _ _ _ hqr
      have r4_hqr := cell_of_row _ _ 4 _ _ _ hqr
      have r5_hqr := cell_of_row _ _ 5 _ _ _ hqr
      have f0_hqr := frozen_of_row _ _ 0 _ _ hqr
      have f1_hqr := frozen_of_row _ _ 1 _ _ hqr
      have f2_hqr := frozen_of_row _ _ 2 _ _ hqr
      have f3_hqr := frozen_of_row _ _ 3 _ _ hqr
      have f4_hqr := frozen_of_row _ _ 4 _ _ hqr
      have f5_hqr := frozen_of_row _ _ 5 _ _ hqr
      simp at r0_hqr r1_hqr r2_hqr r3_hqr r4_hqr r5_hqr
      have r0_hrr := cell_of_row _ _ 0 _ _ _ hrr
      have r1_hrr := cell_of_row _ _ 1 _ _ _ hrr
      have r2_hrr := cell_of_row _ _ 2 _ _ _ hrr
      have r3_hrr := cell_of_row _ _ 3 _ _ _ hrr
      have r4_hrr := cell_of_row _ _ 4 _ _ _ hrr
      have r5_hrr := cell_of_row _ _ 5 _ _ _ hrr
      have f0_hrr := frozen_of_row _ _ 0 _ _ hrr
      have f1_hrr := frozen_of_row _ _ 1 _ _ hrr
      have f2_hrr := frozen_of_row _ _ 2 _ _ hrr
      have f3_hrr := frozen_of_row _ _ 3 _ _ hrr
      have f4_hrr := frozen_of_row _ _ 4 _ _ hrr
      have f5_hrr := frozen_of_row _ _ 5 _ _ hrr
      simp at r0_hrr r1_hrr r2_hrr r3_hrr r4_hrr r5_hrr
      clear hqr hrr
      go_wp2_with fail
      apply bodyPost_ret (results_cell_row (P := Try.prog) (fn := Try.f60) rfl _ _ _ 26 _ (0, 0) _ rfl _ Try.underlying26 rfl _) rfl
      rotate_left 2
      · repeat (first | (with_reducible apply heap_setCell_same) | (with_reducible apply drew_row) | (with_reducible apply drewN_row) | (with_reducible exact HRr.out) | (with_reducible refine (heap_setCell_other _ _ _ _ (by first | omega | (simp; done) | (simp; omega))).trans ?_) | (with_reducible refine (Below.heap_alloc _ _ _ (by first | omega | (simp; done) | (simp; omega))).trans ?_))
      · kernel_rfl
      exact ⟨u, d, s, f, fs, dn, by first | (simp; done) | (simp; rfl), HG.out, (by repeat (first | with_reducible assumption | with_reducible refine Cur.alloc ?_ _ | with_reducible refine Cur.drew ?_ | with_reducible refine Cur.setOther ?_ (by first | omega | (simp; done) | (simp; omega)) (by first | omega | (simp; done) | (simp; omega)) _)), (by repeat (first | with_reducible assumption | with_reducible exact World.grownBy.refl _ _ | with_reducible refine only_alloc ?_ _ | with_reducible refine only_drew ?_ | with_reducible refine only_drewN ?_ _ | with_reducible refine only_setNew ?_ (by first | omega | (simp; done) | (simp; omega)) _ | (with_reducible refine only_trans ?_ (by with_reducible assumption))))⟩
end Go.Proofs.Ytkkpeienbhbgeaa
