/-
  The law FnExactSentOff returns true for every input. No condition.
-/
import Derived.Test.YtkkpeienbhbgeaaSndC
import Derived.Test.YtkkpeienbhbgeaaRgt
import Derived.Test.YtkkpeienbhbgeaaStru
import Derived.Deep.DeepCutAuto
namespace Go.Proofs.Ytkkpeienbhbgeaa
open Go.ChangeShapes Go.WideShapes Go.ChangeAt Go.RowKit

set_option maxHeartbeats 4000000 in
theorem FnExactSentOff_walk (u : Int) (d : ByteArray) (s : Int) (f fs dn : Bool) (hs : d.size ≤ maxLen) (q : Int) (x : ByteArray) (cf : Bool) (hx : x.size ≤ maxLen) (w : World) :
    Calls Try.prog 7 #[.agg #[.int .i64 u, .string d, .int .i64 s, .bool f, .bool fs, .bool dn], .agg #[.int .i64 q, .string x, .bool cf]] w fun e w' => e = .returned (.bool true) ∧ Below w.heap.size w w' := by
  have hz := szSender_any u d s f fs dn 1048576 (by omega) (by omega) hs
  by_cases h : (1048576 : Int) - d.size < 0
  · simp only [if_pos h] at hz
    have HZ := Lib.hid hz
    clear hz
    go_enter Try.func7, Try.ntmps7
    go_wp2_with fail
    refine (HZ.out _).mono ?_
    rintro e w1 ⟨rfl, hb1⟩
    obtain ⟨hc1, hf1⟩ := bcell hb1
    have hz1 := hb1.size
    (try simp at hz1)
    have hy1_0 : w.heap.size < w1.heap.size := by omega
    go_wp2_with fail
    go_ret
    exact ⟨rfl, (by repeat (first | with_reducible exact Below.refl _ _ | with_reducible assumption | with_reducible refine Below.drew ?_ | with_reducible refine Below.alloc ?_ (by first | exact Nat.le_refl _ | omega | (simp; done) | (simp; omega)) _ | with_reducible refine Below.setCell ?_ (by first | exact Nat.le_refl _ | omega | (simp; done) | (simp; omega)) _ | (with_reducible refine ext_trans ?_ (by with_reducible assumption))))⟩
  simp only [if_neg h] at hz
  have HZ := Lib.hid hz
  clear hz
  have hy := szChunk_any q x cf (1048576 - d.size) (by omega) (by omega) hx
  by_cases h' : (1048576 : Int) - d.size - x.size < 0
  · simp only [if_pos h'] at hy
    have HY := Lib.hid hy
    clear hy
    go_enter Try.func7, Try.ntmps7
    go_wp2_with fail
    refine (HZ.out _).mono ?_
    rintro e w1 ⟨rfl, hb1⟩
    obtain ⟨hc1, hf1⟩ := bcell hb1
    have hz1 := hb1.size
    (try simp at hz1)
    have hy1_0 : w.heap.size < w1.heap.size := by omega
    have hy1_1 : w.heap.size + 1 < w1.heap.size := by omega
    go_wp2_with fail
    go_wp2_with fail
    refine (HY.out _).mono ?_
    rintro e w2 ⟨rfl, hb2⟩
    obtain ⟨hc2, hf2⟩ := bcell hb2
    have hz2 := hb2.size
    (try simp at hz2)
    have hy2_0 : w.heap.size < w2.heap.size := by omega
    go_wp2_with fail
    go_ret
    exact ⟨rfl, (by repeat (first | with_reducible exact Below.refl _ _ | with_reducible assumption | with_reducible refine Below.drew ?_ | with_reducible refine Below.alloc ?_ (by first | exact Nat.le_refl _ | omega | (simp; done) | (simp; omega)) _ | with_reducible refine Below.setCell ?_ (by first | exact Nat.le_refl _ | omega | (simp; done) | (simp; omega)) _ | (with_reducible refine ext_trans ?_ (by with_reducible assumption))))⟩
  simp only [if_neg h'] at hy
  have HY := Lib.hid hy
  clear hy
  go_enter Try.func7, Try.ntmps7
  go_wp2_with fail
  refine (HZ.out _).mono ?_
  rintro e w1 ⟨rfl, hb1⟩
  obtain ⟨hc1, hf1⟩ := bcell hb1
  have hz1 := hb1.size
  (try simp at hz1)
  have hy1_0 : w.heap.size < w1.heap.size := by omega
  have hy1_1 : w.heap.size + 1 < w1.heap.size := by omega
  go_wp2_with fail
  go_wp2_with fail
  refine (HY.out _).mono ?_
  rintro e w2 ⟨rfl, hb2⟩
  obtain ⟨hc2, hf2⟩ := bcell hb2
  have hz2 := hb2.size
  (try simp at hz2)
  have hy2_0 : w.heap.size < w2.heap.size := by omega
  have hy2_1 : w.heap.size + 1 < w2.heap.size := by omega
  go_upto_region 8 with fail
  go_cut [6] (fun sl wx => ∃ g : Nat, sl = .pointer (some ⟨g, 0, none⟩) ∧ wx.heap[g]? = some (.cells #[.int .i64 u, .string d, .int .i64 (soS u d s f fs dn x cf), .bool f, .bool (soF u d s f fs dn x cf), .bool dn] 26 (0, 0)) ∧ w2.heap.size ≤ g ∧ Below w2.heap.size w2 wx)
  case first =>
    go_region_held3 (fun w' => (∀ b' o, b' < (w2).heap.size → w'.cell? ⟨b', o, none⟩ = (w2).cell? ⟨b', o, none⟩) ∧ Below (w2).heap.size (w2) w') (first | with_reducible assumption | (with_reducible apply rg_keep; rotate_left; with_reducible assumption; with_reducible assumption) | with_reducible exact rg_start _ | with_reducible exact rg_alloc (KeptS.out (by with_reducible assumption)) _ | with_reducible exact rg_alloc (by with_reducible assumption) _ | with_reducible exact rg_start_alloc _ _ | ((repeat (with_reducible refine rg_set ?_ _ (by first | exact Nat.le_refl _ | omega | (simp; done) | (simp; omega)) _)); first | with_reducible exact KeptS.out (by with_reducible assumption) | with_reducible assumption | with_reducible exact rg_alloc (KeptS.out (by with_reducible assumption)) _)) (first | (go_at_call 16; ((with_reducible refine (toSender_any _ _ _ _ _ _ _).mono ?_); rintro e wr ⟨rfl, hbn⟩; have hS := rg_keepK (by with_reducible assumption) hbn; have hL := hS.size; (try have hZ := row_after hbn); (try have hZ := row_after_drew hbn); (try have hZ := row_kept (by assumption) hbn); (try (have rz := row_facts hZ; obtain ⟨rz0, rz1, rz2, rz3, rz4, rz5, fz⟩ := rz)))) | (go_at_call 27; ((with_reducible refine (toChunk_any _ _ _ _).mono ?_); rintro e wr ⟨rfl, hbn⟩; have hS := rg_keepK (by with_reducible assumption) hbn; have hL := hS.size; (try have hZ := row_after hbn); (try have hZ := row_after_drew hbn); (try have hZ := row_kept (by assumption) hbn); (try (have rz := row_facts hZ; obtain ⟨rz0, rz1, rz2, rz3, rz4, rz5, fz⟩ := rz)))) | (go_at_call 26; ((with_reducible refine (sSentOff_any _ _ _ _ _ _ _ _ _ hs hx _).mono ?_); rintro e wr ⟨rfl, hbn⟩; have hS := rg_keepK (by with_reducible assumption) hbn; have hL := hS.size; (try have hZ := row_after hbn); (try have hZ := row_after_drew hbn); (try have hZ := row_kept (by assumption) hbn); (try (have rz := row_facts hZ; obtain ⟨rz0, rz1, rz2, rz3, rz4, rz5, fz⟩ := rz)))))
    all_goals
      go_wp2_with fail
      go_meet
      (refine ⟨_, rfl, ?_, ?_, ?_⟩; (first | (with_reducible exact heap_new _ _ _ rfl) | (exact stored6 (by with_reducible assumption) _ _ _ _ _ _) | (exact stored4 (by with_reducible assumption) _ _ _ _) | (exact stored3 (by with_reducible assumption) _ _ _) | (exact stored2 (by with_reducible assumption) _ _)); (first | exact Nat.le_refl _ | omega | (simp; omega)); ((repeat (first | with_reducible refine Below.alloc ?_ (by first | exact Nat.le_refl _ | omega | (simp; done) | (simp; omega)) _ | with_reducible refine Below.setCell ?_ (by first | exact Nat.le_refl _ | omega | (simp; done) | (simp; omega)) _)); exact (KeptS.out (by with_reducible assumption)).2))
  case rest =>
    obtain ⟨g, rfl, hg, hleg, hBg⟩ := hcut
    rename World => wa
    obtain ⟨hcg, hfg⟩ := bcell hBg
    have hzg := hBg.size
    have hlg := (Array.getElem?_eq_some_iff.1 hg).1
    have hya : w.heap.size < wa.heap.size := by omega
    have hyb : w.heap.size + 1 < wa.heap.size := by omega
    go_upto_region 9 with fail
    go_cut [7] (fun sl wx => ∃ g : Nat, sl = .pointer (some ⟨g, 0, none⟩) ∧ wx.heap[g]? = some (.cells #[.int .i64 u, .string d, .int .i64 (soS u d s f fs dn x cf), .bool f, .bool (soF u d s f fs dn x cf), .bool dn] 26 (0, 0)) ∧ wa.heap.size ≤ g ∧ Below wa.heap.size wa wx)
    case first =>
      go_region_held3 (fun w' => (∀ b' o, b' < (wa).heap.size → w'.cell? ⟨b', o, none⟩ = (wa).cell? ⟨b', o, none⟩) ∧ Below (wa).heap.size (wa) w') (first | with_reducible assumption | (with_reducible apply rg_keep; rotate_left; with_reducible assumption; with_reducible assumption) | with_reducible exact rg_start _ | with_reducible exact rg_alloc (KeptS.out (by with_reducible assumption)) _ | with_reducible exact rg_alloc (by with_reducible assumption) _ | with_reducible exact rg_start_alloc _ _ | ((repeat (with_reducible refine rg_set ?_ _ (by first | exact Nat.le_refl _ | omega | (simp; done) | (simp; omega)) _)); first | with_reducible exact KeptS.out (by with_reducible assumption) | with_reducible assumption | with_reducible exact rg_alloc (KeptS.out (by with_reducible assumption)) _)) (first | (go_at_call 16; ((with_reducible refine (toSender_any _ _ _ _ _ _ _).mono ?_); rintro e wr ⟨rfl, hbn⟩; have hS := rg_keepK (by with_reducible assumption) hbn; have hL := hS.size; (try have hZ := row_after hbn); (try have hZ := row_after_drew hbn); (try have hZ := row_kept (by assumption) hbn); (try (have rz := row_facts hZ; obtain ⟨rz0, rz1, rz2, rz3, rz4, rz5, fz⟩ := rz)))) | (go_at_call 27; ((with_reducible refine (toChunk_any _ _ _ _).mono ?_); rintro e wr ⟨rfl, hbn⟩; have hS := rg_keepK (by with_reducible assumption) hbn; have hL := hS.size; (try have hZ := row_after hbn); (try have hZ := row_after_drew hbn); (try have hZ := row_kept (by assumption) hbn); (try (have rz := row_facts hZ; obtain ⟨rz0, rz1, rz2, rz3, rz4, rz5, fz⟩ := rz)))) | (go_at_call 28; ((with_reducible refine (SentOff_any _ _ _ _ _ _ _ _ _ hs hx _).mono ?_); rintro e wr ⟨rfl, hbn⟩; have hS := rg_keepK (by with_reducible assumption) hbn; have hL := hS.size; (try have hZ := row_after hbn); (try have hZ := row_after_drew hbn); (try have hZ := row_kept (by assumption) hbn); (try (have rz := row_facts hZ; obtain ⟨rz0, rz1, rz2, rz3, rz4, rz5, fz⟩ := rz)))))
      all_goals
        go_wp2_with fail
        go_meet
        (refine ⟨_, rfl, ?_, ?_, ?_⟩; (first | (with_reducible exact heap_new _ _ _ rfl) | (exact stored6 (by with_reducible assumption) _ _ _ _ _ _) | (exact stored4 (by with_reducible assumption) _ _ _ _) | (exact stored3 (by with_reducible assumption) _ _ _) | (exact stored2 (by with_reducible assumption) _ _)); (first | exact Nat.le_refl _ | omega | (simp; omega)); ((repeat (first | with_reducible refine Below.alloc ?_ (by first | exact Nat.le_refl _ | omega | (simp; done) | (simp; omega)) _ | with_reducible refine Below.setCell ?_ (by first | exact Nat.le_refl _ | omega | (simp; done) | (simp; omega)) _)); exact (KeptS.out (by with_reducible assumption)).2))
    case rest =>
      obtain ⟨k, rfl, hk, hlek, hBk⟩ := hcut
      rename World => wb
      have hg2 := (hBk.block g hlg).trans hg
      have r0_hg2 := cell_of_row _ _ 0 _ _ _ hg2
      have r1_hg2 := cell_of_row _ _ 1 _ _ _ hg2
      have r2_hg2 := cell_of_row _ _ 2 _ _ _ hg2
      have r3_hg2 := cell_of_row _ _ 3 _ _ _ hg2
      have r4_hg2 := cell_of_row _ _ 4 _ _ _ hg2
      have r5_hg2 := cell_of_row _ _ 5 _ _ _ hg2
      have f0_hg2 := frozen_of_row _ _ 0 _ _ hg2
      have f1_hg2 := frozen_of_row _ _ 1 _ _ hg2
      have f2_hg2 := frozen_of_row _ _ 2 _ _ hg2
      have f3_hg2 := frozen_of_row _ _ 3 _ _ hg2
      have f4_hg2 := frozen_of_row _ _ 4 _ _ hg2
      have f5_hg2 := frozen_of_row _ _ 5 _ _ hg2
      simp at r0_hg2 r1_hg2 r2_hg2 r3_hg2 r4_hg2 r5_hg2
      have r0_hk := cell_of_row _ _ 0 _ _ _ hk
      have r1_hk := cell_of_row _ _ 1 _ _ _ hk
      have r2_hk := cell_of_row _ _ 2 _ _ _ hk
      have r3_hk := cell_of_row _ _ 3 _ _ _ hk
      have r4_hk := cell_of_row _ _ 4 _ _ _ hk
      have r5_hk := cell_of_row _ _ 5 _ _ _ hk
      have f0_hk := frozen_of_row _ _ 0 _ _ hk
      have f1_hk := frozen_of_row _ _ 1 _ _ hk
      have f2_hk := frozen_of_row _ _ 2 _ _ hk
      have f3_hk := frozen_of_row _ _ 3 _ _ hk
      have f4_hk := frozen_of_row _ _ 4 _ _ hk
      have f5_hk := frozen_of_row _ _ 5 _ _ hk
      simp at r0_hk r1_hk r2_hk r3_hk r4_hk r5_hk
      go_wp2_with fail
      refine (eqSender_same _ _ _ _ _ _ _).mono ?_
      rintro e w9 ⟨rfl, hb9⟩
      obtain ⟨hc9, hf9⟩ := bcell hb9
      have hz9 := hb9.size
      (try simp at hz9)
      go_wp2_with fail
      go_ret
      exact ⟨rfl, (by repeat (first | with_reducible exact Below.refl _ _ | with_reducible assumption | with_reducible refine Below.drew ?_ | with_reducible refine Below.alloc ?_ (by first | exact Nat.le_refl _ | omega | (simp; done) | (simp; omega)) _ | with_reducible refine Below.setCell ?_ (by first | exact Nat.le_refl _ | omega | (simp; done) | (simp; omega)) _ | (with_reducible refine ext_trans ?_ (by with_reducible assumption))))⟩

set_option maxRecDepth 100000 in
theorem FnExactSentOff_lifted (os : Os) (started : os.Started) (H : Type) (enc : TypeId × Value → H) :
    ReturnsInHanded {} Try.checked os 7 .any (Rows.fnExactSentOffSpec.pre6 enc Try.prog Try.f7 Rows.fnExactSentOffRow.domain false) (Rows.fnExactSentOffSpec.post enc Try.prog Try.f7 false true false false) := by
  refine law_lifted (C := Try.checked) own_ started (by kernel_rfl) Try.func7 laid_ rfl ?_ ?_ rfl Try.underlying4
    (ChangeSpec.witness6 (enc := enc) (C := Try.checked) false ⟨#[], #[.agg #[.int .i64 0, .string ⟨#[]⟩, .int .i64 0, .bool false, .bool false, .bool false], .agg #[.int .i64 0, .string ⟨#[]⟩, .bool false]], []⟩ 8 (by kernel_rfl) (by kernel_rfl) (by kernel_rfl) (by kernel_rfl)) ?_
  · intro ds h
    match ds, h with
    | [_, _], _ => rfl
  · intro t ht
    rw [Try.params7] at ht
    simp at ht
    rcases ht with rfl | rfl
    all_goals exact ⟨by kernel_rfl, of_decide_eq_true (by kernel_rfl)⟩
  · intro W base args ds p hval hA hlt
    have hval : ∀ (j : Nat) t v, Try.f7.params[j]? = some t → args[j]? = some v → Value.okWide Try.prog W .any base t v := hval
    have hA : DataW.TrodAll enc Try.prog W 0 (fun _ => true) true Try.f7.params.toList args.toList ds p := hA
    rw [Try.params7] at hA hval
    obtain ⟨v0, v1, d0, d1, p0, p1, rfl, rfl, rfl, h0, h1⟩ := trodAll_two hA
    obtain ⟨a0, a1, a2, a3, a4, a5, rfl, wa0, wa1, wa2⟩ := open_Sender (hval 0 23 v0 rfl rfl) h0
    obtain ⟨b0, b1, b2, rfl, wb0, wb1⟩ := open_Chunk (hval 1 36 v1 rfl rfl) h1
    exact FnExactSentOff_walk a0 a1 a2 a3 a4 a5 (by assumption) b0 b1 b2 (by assumption) W

theorem FnExactSentOff_holds : Rows.FnExactSentOffSaid :=
  OpenClaim.holds_of_wide 7 Try.f7 rfl rfl rfl rfl rfl rfl rfl ⟨rfl, rfl, rfl, rfl, rfl⟩ rfl rfl rfl rfl rfl (by kernel_rfl) Try.func7 (by kernel_rfl)
    (of_decide_eq_true (by kernel_rfl)) (by have hw := wrap_ (P := Try.prog) (fn := Try.f7) (by kernel_rfl); exact hw)
    (fun os started H enc _ => FnExactSentOff_lifted os started H enc)
end Go.Proofs.Ytkkpeienbhbgeaa
