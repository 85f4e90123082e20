/-
  The draw of a sender and a text out of a code.
-/
import Derived.Test.YtkkpeienbhbgeaaSdx
namespace Go.Proofs.Ytkkpeienbhbgeaa
set_option maxRecDepth 100000
open Go.RowKit Go.Deep
/-- A sender and a text, drawn. -/
def DrawnQue (w : World) (e : Ending) (w' : World) : Prop := ∃ (u : Int) (d : ByteArray) (s : Int) (f fs dn : Bool) (t : ByteArray), e = .returned (.tuple #[vSn u d s f fs dn, .string t]) ∧ SndBent u d s ∧ t.size ≤ 60 ∧ Below w.heap.size w w'
set_option maxHeartbeats 8000000 in
set_option linter.unusedSimpArgs false in
set_option linter.unusedVariables false in
theorem DrawQueued_any {w : World} {A : Option Addr} {n c : Nat} (hn : n ≤ maxLen) (hb : Byts w w.heap.size A n) :
    Calls Try.prog 35 #[.slice A n c] w (DrawnQue w) := by
  go_enter Try.func35, Try.ntmps35
  go_wp2_with fail
  refine (l1New_any hn (hb.below (by repeat (first | with_reducible exact Below.refl _ _ | with_reducible assumption | with_reducible refine Below.drew ?_ | with_reducible refine Below.alloc ?_ (by first | exact Nat.le_refl _ | omega | (simp; done) | (simp; omega)) _ | with_reducible refine Below.setCell ?_ (by first | exact Nat.le_refl _ | omega | (simp; done) | (simp; omega)) _ | (with_reducible refine ext_trans ?_ (by with_reducible assumption)))))).mono ?_
  rintro e w1 ⟨g, rfl, hc1, hb1⟩
  have hlt1 := hc1.lt
  have hz1 := hb1.size
  have hlow := hc1.low
  simp at hz1 hlow hc1
  have hr : w1.heap[w.heap.size]? = some (.cells #[.int .i64 0, .string ⟨#[]⟩, .int .i64 0, .bool false, .bool false, .bool false] 26 (0, 0)) := (hb1.block _ (by simp)).trans (heap_alloc_new _ _)
  have HR := Lib.hid hr
  clear hr
  go_wp2_with fail
  refine wp_region_noPanic ?_
  refine wp_region_owed (S := (fun w' => (∀ b' o, b' < w1.heap.size → ¬ b' = g → w'.cell? ⟨b', o, none⟩ = w1.cell? ⟨b', o, none⟩) ∧ Kept w1 (w.heap.size + 1) g w')) (B := (fun i => i != 6 && i != 7 && i != 8)) (by kernel_rfl) (kp_start hc1) (fun hHeld => ?_)
  refine owed_take (fun k => List.elem k [1, 4, 5, 6, 7, 8]) (i := 0) (oi := _) (v := ?v0_1) rfl (by kernel_rfl) (by kernel_rfl) (by kernel_rfl) (fun _ _ _ h => h) (Or.inl ⟨by rfl, ?hy0_1⟩) (by with_reducible assumption) ?rest0_1
  case hy0_1 => ((intro w hSw; (try dsimp only at hSw); go_simp); (try with_reducible rfl))
  (try simp only [Act.put, List.getElem_toArray, List.getElem_cons_succ, List.getElem_cons_zero, List.setIfInBounds_toArray, List.set_cons_zero, List.set_cons_succ])
  refine owed_take (fun k => List.elem k [5, 6, 7, 8]) (i := 2) (oi := _) (v := ?v2_2) rfl (by kernel_rfl) (by kernel_rfl) (by kernel_rfl) (fun _ _ _ h => h) (Or.inl ⟨by rfl, ?hy2_2⟩) (by with_reducible assumption) ?rest2_2
  case hy2_2 => ((intro w hSw; (try dsimp only at hSw); go_simp); (try with_reducible rfl))
  (try simp only [Act.put, List.getElem_toArray, List.getElem_cons_succ, List.getElem_cons_zero, List.setIfInBounds_toArray, List.set_cons_zero, List.set_cons_succ])
  refine owed_take (fun k => List.elem k [4, 5, 6, 7, 8]) (i := 3) (oi := _) (v := ?v3_3) rfl (by kernel_rfl) (by kernel_rfl) (by kernel_rfl) (fun _ _ _ h => h) (Or.inl ⟨by rfl, ?hy3_3⟩) (by with_reducible assumption) ?rest3_3
  case hy3_3 => ((intro w hSw; (try dsimp only at hSw); go_simp); (try with_reducible rfl))
  (try simp only [Act.put, List.getElem_toArray, List.getElem_cons_succ, List.getElem_cons_zero, List.setIfInBounds_toArray, List.set_cons_zero, List.set_cons_succ])
  refine owed_ready (rs := [1]) (by kernel_rfl) (by simp) ?_
  refine owedEach.cons (o := _) rfl (fun K hK => ?_) owedEach.nil
  go_simp
  go_at_call 53; ((with_reducible refine (l17Bent_any (B := (w.heap.size + 1)) ((by with_reducible assumption : _ ∧ Kept _ _ g _).2.cur)).mono ?_); (rintro e wD ⟨u, d, s, f, fs, dn, rfl, hG, hcD, hoD⟩; have hSD := kp_draw (by with_reducible assumption) hcD hoD; have hLD := hSD.2.size; have hGD := hSD.2.lt; have HG := Lib.hid hG; clear hG))
  go_wp2_with fail
  refine hK.out _ _ ?_ (fun hHeld => ?_)
  · intro _
    (try dsimp only)
    (first | with_reducible assumption | with_reducible exact kp_start hc1 | with_reducible exact kp_start_alloc hc1 _ | with_reducible exact kp_alloc (by with_reducible assumption) _)
  clear hK K
  replace hHeld := hHeld rfl
  (try simp only [Act.put, List.getElem_toArray, List.getElem_cons_succ, List.getElem_cons_zero, List.setIfInBounds_toArray, List.set_cons_zero, List.set_cons_succ])
  refine owed_ready (rs := [4]) (by kernel_rfl) (by simp) ?_
  refine owedEach.cons (o := _) rfl (fun K hK => ?_) owedEach.nil
  go_simp
  go_at_call 55; ((with_reducible refine (l1Below_any (B := (w.heap.size + 1)) ((by with_reducible assumption : _ ∧ Kept _ _ g _).2.cur) _ (by omega) (by omega)).mono ?_); (rintro e wA ⟨yA, rfl, ⟨hlA, hhA⟩, hcA, hoA⟩; have hSA := kp_draw (by with_reducible assumption) hcA hoA; have hLA := hSA.2.size; have hGA := hSA.2.lt; have hsA := hoA.size))
  go_wp2_with fail
  refine hK.out _ _ ?_ (fun hHeld => ?_)
  · intro _
    (try dsimp only)
    (first | with_reducible assumption | with_reducible exact kp_start hc1 | with_reducible exact kp_start_alloc hc1 _ | with_reducible exact kp_alloc (by with_reducible assumption) _)
  clear hK K
  replace hHeld := hHeld rfl
  (try simp only [Act.put, List.getElem_toArray, List.getElem_cons_succ, List.getElem_cons_zero, List.setIfInBounds_toArray, List.set_cons_zero, List.set_cons_succ])
  refine owed_ready (rs := [5]) (by kernel_rfl) (by simp) ?_
  refine owedEach.cons (o := _) rfl (fun K hK => ?_) owedEach.nil
  go_simp
  go_at_call 54; ((with_reducible refine (l1Bytes_any (B := (w.heap.size + 1)) ((by with_reducible assumption : _ ∧ Kept _ _ g _).2.cur) _ (by omega) (by omega)).mono ?_); (rintro e wB ⟨vB, xs, rfl, hOB, hlB, hcB, hoB⟩; have hSB := kp_draw (by with_reducible assumption) hcB hoB; have hLB := hSB.2.size; have hGB := hSB.2.lt; have hcv := hOB.conv wB (fun _ _ _ _ => rfl); have hcv2 := hOB.conv ((((((wB.setCell ⟨w.heap.size, 0, none⟩ (.int .i64 u)).setCell ⟨w.heap.size, 1, none⟩ (.string d)).setCell ⟨w.heap.size, 2, none⟩ (.int .i64 s)).setCell ⟨w.heap.size, 3, none⟩ (.bool f)).setCell ⟨w.heap.size, 4, none⟩ (.bool fs)).setCell ⟨w.heap.size, 5, none⟩ (.bool dn)) (fun b o hb _ => World.cell?_of_block ((heap_setCell_other _ _ _ _ (by show b ≠ w.heap.size; omega)).trans ((heap_setCell_other _ _ _ _ (by show b ≠ w.heap.size; omega)).trans ((heap_setCell_other _ _ _ _ (by show b ≠ w.heap.size; omega)).trans ((heap_setCell_other _ _ _ _ (by show b ≠ w.heap.size; omega)).trans ((heap_setCell_other _ _ _ _ (by show b ≠ w.heap.size; omega)).trans ((heap_setCell_other _ _ _ _ (by show b ≠ w.heap.size; omega))))))))); have hsz : (strOfNums xs).size ≤ 60 := (by rw [strOfNums_size]; omega); obtain ⟨AB, cB, rfl⟩ := hOB.form; generalize strOfNums xs = XS at hcv hcv2 hsz; clear hOB hlB; have hrr := (hSB.2.row (b := w.heap.size) (by omega) (by omega)).trans HR.out; have r0_hrr := cell_of_row _ _ 0 _ _ _ hrr; have f0_hrr := frozen_of_row _ _ 0 _ _ hrr; have r1_hrr := cell_of_row _ _ 1 _ _ _ hrr; have f1_hrr := frozen_of_row _ _ 1 _ _ hrr; have r2_hrr := cell_of_row _ _ 2 _ _ _ hrr; have f2_hrr := frozen_of_row _ _ 2 _ _ hrr; have r3_hrr := cell_of_row _ _ 3 _ _ _ hrr; have f3_hrr := frozen_of_row _ _ 3 _ _ hrr; have r4_hrr := cell_of_row _ _ 4 _ _ _ hrr; have f4_hrr := frozen_of_row _ _ 4 _ _ hrr; have r5_hrr := cell_of_row _ _ 5 _ _ _ hrr; have f5_hrr := frozen_of_row _ _ 5 _ _ hrr; simp at r0_hrr r1_hrr r2_hrr r3_hrr r4_hrr r5_hrr; clear hrr))
  go_wp2_with fail
  refine hK.out _ _ ?_ (fun hHeld => ?_)
  · intro _
    (try dsimp only)
    (first | with_reducible assumption | with_reducible exact kp_start hc1 | with_reducible exact kp_start_alloc hc1 _ | with_reducible exact kp_alloc (by with_reducible assumption) _)
  clear hK K
  replace hHeld := hHeld rfl
  (try simp only [Act.put, List.getElem_toArray, List.getElem_cons_succ, List.getElem_cons_zero, List.setIfInBounds_toArray, List.set_cons_zero, List.set_cons_succ])
  refine owed_ready (rs := [6, 7]) (by kernel_rfl) (by simp) ?_
  refine owedEach.cons (o := _) rfl (fun K hK => ?_) ?_
  · go_simp
    refine hK.out _ _ ?_ (fun hHeld => ?_)
    · intro h
      exact absurd h (by decide)
    clear hK K
    (try simp only [Act.put, List.getElem_toArray, List.getElem_cons_succ, List.getElem_cons_zero, List.setIfInBounds_toArray, List.set_cons_zero, List.set_cons_succ])
    refine owed_ready (rs := [7]) (by kernel_rfl) (by simp) ?_
    refine owedEach.cons (o := _) rfl (fun K hK => ?_) owedEach.nil
    go_simp
    refine hK.out _ _ ?_ (fun hHeld => ?_)
    · intro h
      exact absurd h (by decide)
    clear hK K
    (try simp only [Act.put, List.getElem_toArray, List.getElem_cons_succ, List.getElem_cons_zero, List.setIfInBounds_toArray, List.set_cons_zero, List.set_cons_succ])
    refine owed_take_free (fun k => List.elem k []) (i := 8) (oi := _) (v := ?v8_4) rfl (by kernel_rfl) (by kernel_rfl) (by kernel_rfl) (fun _ _ _ h => h) (Or.inl ⟨by rfl, ?hy8_4⟩) (by rfl) ?rest8_4
    case hy8_4 => ((intro w _; go_simp); (try with_reducible rfl))
    (try simp only [Act.put, List.getElem_toArray, List.getElem_cons_succ, List.getElem_cons_zero, List.setIfInBounds_toArray, List.set_cons_zero, List.set_cons_succ])
    refine owed_done (by kernel_rfl) (NoPanic.normal ?_)
    go_wp2_with fail
    have hbw : Below w.heap.size w wB := ext_trans ((Below.refl _ _).alloc (Nat.le_refl _) _) (hb1.trans (only_below hSB.2.by_ hb1.size (by simpa using hlow)))
    have HRB := Lib.hid ((hSB.2.row (b := w.heap.size) (by omega) (by omega)).trans HR.out)
    apply bodyPost_ret (results_row_tmp1 (P := Try.prog) (fn := Try.f35) rfl _ _ _ 26 _ (0, 0) _ rfl _ Try.underlying26 rfl _) rfl
    rotate_left 2
    · repeat (first | (with_reducible apply heap_setCell_same) | (with_reducible apply drew_row) | (with_reducible apply drewN_row) | (with_reducible exact HRB.out) | (with_reducible refine (heap_setCell_other _ _ _ _ (by first | omega | (simp; done) | (simp; omega))).trans ?_) | (with_reducible refine (Below.heap_alloc _ _ _ (by first | omega | (simp; done) | (simp; omega))).trans ?_))
    · kernel_rfl
    exact ⟨u, d, s, f, fs, dn, XS, by first | (simp [Act.put]; done) | (simp [Act.put]; rfl), HG.out, hsz, (by repeat (first | with_reducible exact Below.refl _ _ | with_reducible assumption | with_reducible refine Below.drew ?_ | with_reducible refine Below.alloc ?_ (by first | exact Nat.le_refl _ | omega | (simp; done) | (simp; omega)) _ | with_reducible refine Below.setCell ?_ (by first | exact Nat.le_refl _ | omega | (simp; done) | (simp; omega)) _ | (with_reducible refine ext_trans ?_ (by with_reducible assumption))))⟩
  refine owedEach.cons (o := _) rfl (fun K hK => ?_) owedEach.nil
  go_simp
  refine hK.out _ _ ?_ (fun hHeld => ?_)
  · intro h
    exact absurd h (by decide)
  clear hK K
  (try simp only [Act.put, List.getElem_toArray, List.getElem_cons_succ, List.getElem_cons_zero, List.setIfInBounds_toArray, List.set_cons_zero, List.set_cons_succ])
  refine owed_ready (rs := [6]) (by kernel_rfl) (by simp) ?_
  refine owedEach.cons (o := _) rfl (fun K hK => ?_) owedEach.nil
  go_simp
  refine hK.out _ _ ?_ (fun hHeld => ?_)
  · intro h
    exact absurd h (by decide)
  clear hK K
  (try simp only [Act.put, List.getElem_toArray, List.getElem_cons_succ, List.getElem_cons_zero, List.setIfInBounds_toArray, List.set_cons_zero, List.set_cons_succ])
  refine owed_take_free (fun k => List.elem k []) (i := 8) (oi := _) (v := ?v8_5) rfl (by kernel_rfl) (by kernel_rfl) (by kernel_rfl) (fun _ _ _ h => h) (Or.inl ⟨by rfl, ?hy8_5⟩) (by rfl) ?rest8_5
  case hy8_5 => ((intro w _; go_simp); (try with_reducible rfl))
  (try simp only [Act.put, List.getElem_toArray, List.getElem_cons_succ, List.getElem_cons_zero, List.setIfInBounds_toArray, List.set_cons_zero, List.set_cons_succ])
  refine owed_done (by kernel_rfl) (NoPanic.normal ?_)
  go_wp2_with fail
  have hbw : Below w.heap.size w wB := ext_trans ((Below.refl _ _).alloc (Nat.le_refl _) _) (hb1.trans (only_below hSB.2.by_ hb1.size (by simpa using hlow)))
  have HRB := Lib.hid ((hSB.2.row (b := w.heap.size) (by omega) (by omega)).trans HR.out)
  apply bodyPost_ret (results_row_tmp1 (P := Try.prog) (fn := Try.f35) rfl _ _ _ 26 _ (0, 0) _ rfl _ Try.underlying26 rfl _) rfl
  rotate_left 2
  · repeat (first | (with_reducible apply heap_setCell_same) | (with_reducible apply drew_row) | (with_reducible apply drewN_row) | (with_reducible exact HRB.out) | (with_reducible refine (heap_setCell_other _ _ _ _ (by first | omega | (simp; done) | (simp; omega))).trans ?_) | (with_reducible refine (Below.heap_alloc _ _ _ (by first | omega | (simp; done) | (simp; omega))).trans ?_))
  · kernel_rfl
  exact ⟨u, d, s, f, fs, dn, XS, by first | (simp [Act.put]; done) | (simp [Act.put]; rfl), HG.out, hsz, (by repeat (first | with_reducible exact Below.refl _ _ | with_reducible assumption | with_reducible refine Below.drew ?_ | with_reducible refine Below.alloc ?_ (by first | exact Nat.le_refl _ | omega | (simp; done) | (simp; omega)) _ | with_reducible refine Below.setCell ?_ (by first | exact Nat.le_refl _ | omega | (simp; done) | (simp; omega)) _ | (with_reducible refine ext_trans ?_ (by with_reducible assumption))))⟩
end Go.Proofs.Ytkkpeienbhbgeaa
