/-
  The law FnExactMacOk returns true for every input. No condition.
-/
import Derived.Test.YtondhgmlemgoaaaMok
import Derived.Test.YtondhgmlemgoaaaSip
import Derived.Test.YtondhgmlemgoaaaOpnMacRow
namespace Go.Proofs.Ytondhgmlemgoaaa
open Go.ChangeShapes Go.WideShapes Go.ChangeAt Go.RowKit


set_option maxHeartbeats 4000000 in
theorem FnExactMacOk_walk (u : Bool) (k l : BitVec 64) (v : Value) (rs : List RMacRow) (w : World) (h : RdMacRow w v rs) (f : FitMacRow rs) (n : rs.length ≤ maxLen) (hb : ∀ x ∈ rs, -9223372036854775808 ≤ x.2 ∧ x.2 ≤ 9223372036854775807) :
    Calls Try.prog 11 #[vM u (uI k) (uI l) v] w fun e w' => e = .returned (.bool true) ∧ Below w.heap.size w w' := by
  obtain ⟨A, c, rfl, -⟩ := id h
  have H := Lib.hid h
  have F := Lib.hid f
  have N := Lib.hid n
  have B := Lib.hid hb
  clear h f n hb
  go_enter Try.func11, Try.ntmps11
  go_wp2_with fail
  refine (szMac_any u _ _ _ rs F.out N.out 1048576 (by omega) (by omega) _ (H.out.below (by repeat (first | with_reducible exact Below.refl _ _ | with_reducible assumption | with_reducible refine Below.drew ?_ | with_reducible refine Below.alloc ?_ (by first | exact Nat.le_refl _ | omega | (simp; done) | (simp; omega)) _ | with_reducible refine Below.setCell ?_ (by first | exact Nat.le_refl _ | omega | (simp; done) | (simp; omega)) _ | (with_reducible refine ext_trans ?_ (by with_reducible assumption)))))).mono ?_
  rintro e w1 ⟨x, rfl, ⟨hx1, hx2⟩, hx3, hb1⟩
  have hz1 := hb1.size
  (try simp at hz1)
  have rm_1 : w1.heap[w.heap.size]? = some (.cells #[.bool u, .int .u64 (uI k), .int .u64 (uI l), .slice A rs.length c] 44 (0, 0)) := (hb1.block _ (by first | (simp; done) | (simp; omega))).trans (by repeat (first | exact heap_new _ _ _ (by first | rfl | (simp; done) | (simp; omega)) | refine (Below.heap_alloc _ _ _ (by first | omega | (simp; done) | (simp; omega))).trans ?_))
  have hw1 : Below w.heap.size w w1 := (by repeat (first | with_reducible exact Below.refl _ _ | with_reducible assumption | with_reducible refine Below.drew ?_ | with_reducible refine Below.alloc ?_ (by first | exact Nat.le_refl _ | omega | (simp; done) | (simp; omega)) _ | with_reducible refine Below.setCell ?_ (by first | exact Nat.le_refl _ | omega | (simp; done) | (simp; omega)) _ | (with_reducible refine ext_trans ?_ (by with_reducible assumption))))
  have lRm_1 : w.heap.size < w1.heap.size := by omega
  have Rm_1 := Lib.hid rm_1
  have r0_rm_1 := cell_of_row _ _ 0 _ _ _ rm_1
  have r1_rm_1 := cell_of_row _ _ 1 _ _ _ rm_1
  have r2_rm_1 := cell_of_row _ _ 2 _ _ _ rm_1
  have r3_rm_1 := cell_of_row _ _ 3 _ _ _ rm_1
  have f0_rm_1 := frozen_of_row _ _ 0 _ _ rm_1
  have f1_rm_1 := frozen_of_row _ _ 1 _ _ rm_1
  have f2_rm_1 := frozen_of_row _ _ 2 _ _ rm_1
  have f3_rm_1 := frozen_of_row _ _ 3 _ _ rm_1
  simp at r0_rm_1 r1_rm_1 r2_rm_1 r3_rm_1
  clear rm_1
  by_cases hx : x < 0
  · go_wp2_with fail
    go_ret
    exact ⟨rfl, (by repeat (first | with_reducible exact Below.refl _ _ | with_reducible assumption | with_reducible refine Below.drew ?_ | with_reducible refine Below.alloc ?_ (by first | exact Nat.le_refl _ | omega | (simp; done) | (simp; omega)) _ | with_reducible refine Below.setCell ?_ (by first | exact Nat.le_refl _ | omega | (simp; done) | (simp; omega)) _ | (with_reducible refine ext_trans ?_ (by with_reducible assumption))))⟩
  have m : rs.length ≤ 1048576 := by have := hx3.out (by omega); omega
  have M := Lib.hid m
  clear hx3 m
  go_wp2_with fail
  refine (toMac_any u _ _ _ rs M.out _ (H.out.below hw1)).mono ?_
  rintro e w2 ⟨v2, rfl, hO2, hb2⟩
  obtain ⟨A2, c2, rfl⟩ := hO2.form
  have Oa_2 := Lib.hid hO2
  have hz2 := hb2.size
  (try simp at hz2)
  have rm_2 := (hb2.block _ (by first | omega | (simp; done) | (simp; omega))).trans Rm_1.out
  have hw2 : Below w.heap.size w w2 := (by repeat (first | with_reducible exact Below.refl _ _ | with_reducible assumption | with_reducible refine Below.drew ?_ | with_reducible refine Below.alloc ?_ (by first | exact Nat.le_refl _ | omega | (simp; done) | (simp; omega)) _ | with_reducible refine Below.setCell ?_ (by first | exact Nat.le_refl _ | omega | (simp; done) | (simp; omega)) _ | (with_reducible refine ext_trans ?_ (by with_reducible assumption))))
  have lRm_2 : w.heap.size < w2.heap.size := by omega
  have Rm_2 := Lib.hid rm_2
  have r0_rm_2 := cell_of_row _ _ 0 _ _ _ rm_2
  have r1_rm_2 := cell_of_row _ _ 1 _ _ _ rm_2
  have r2_rm_2 := cell_of_row _ _ 2 _ _ _ rm_2
  have r3_rm_2 := cell_of_row _ _ 3 _ _ _ rm_2
  have f0_rm_2 := frozen_of_row _ _ 0 _ _ rm_2
  have f1_rm_2 := frozen_of_row _ _ 1 _ _ rm_2
  have f2_rm_2 := frozen_of_row _ _ 2 _ _ rm_2
  have f3_rm_2 := frozen_of_row _ _ 3 _ _ rm_2
  simp at r0_rm_2 r1_rm_2 r2_rm_2 r3_rm_2
  clear rm_2
  clear r0_rm_1 f0_rm_1 r1_rm_1 f1_rm_1 r2_rm_1 f2_rm_1 r3_rm_1 f3_rm_1
  go_wp2_with fail
  refine (sMacOk_any u _ _ _ rs N.out _ Oa_2.out.rd B.out).mono ?_
  rintro e w3 ⟨rfl, hb3⟩
  have hz3 := hb3.size
  (try simp at hz3)
  have rm_3 := (hb3.block _ (by first | omega | (simp; done) | (simp; omega))).trans Rm_2.out
  have Oa_3 := Lib.hid (Oa_2.out.below (w' := w3) (by repeat (first | with_reducible exact Below.refl _ _ | with_reducible assumption | with_reducible refine Below.drew ?_ | with_reducible refine Below.alloc ?_ (by first | exact Nat.le_refl _ | omega | (simp; done) | (simp; omega)) _ | with_reducible refine Below.setCell ?_ (by first | exact Nat.le_refl _ | omega | (simp; done) | (simp; omega)) _ | (with_reducible refine ext_trans ?_ (by with_reducible assumption)))))
  have hw3 : Below w.heap.size w w3 := (by repeat (first | with_reducible exact Below.refl _ _ | with_reducible assumption | with_reducible refine Below.drew ?_ | with_reducible refine Below.alloc ?_ (by first | exact Nat.le_refl _ | omega | (simp; done) | (simp; omega)) _ | with_reducible refine Below.setCell ?_ (by first | exact Nat.le_refl _ | omega | (simp; done) | (simp; omega)) _ | (with_reducible refine ext_trans ?_ (by with_reducible assumption))))
  have lRm_3 : w.heap.size < w3.heap.size := by omega
  have Rm_3 := Lib.hid rm_3
  have r0_rm_3 := cell_of_row _ _ 0 _ _ _ rm_3
  have r1_rm_3 := cell_of_row _ _ 1 _ _ _ rm_3
  have r2_rm_3 := cell_of_row _ _ 2 _ _ _ rm_3
  have r3_rm_3 := cell_of_row _ _ 3 _ _ _ rm_3
  have f0_rm_3 := frozen_of_row _ _ 0 _ _ rm_3
  have f1_rm_3 := frozen_of_row _ _ 1 _ _ rm_3
  have f2_rm_3 := frozen_of_row _ _ 2 _ _ rm_3
  have f3_rm_3 := frozen_of_row _ _ 3 _ _ rm_3
  simp at r0_rm_3 r1_rm_3 r2_rm_3 r3_rm_3
  clear rm_3
  clear r0_rm_2 f0_rm_2 r1_rm_2 f1_rm_2 r2_rm_2 f2_rm_2 r3_rm_2 f3_rm_2
  go_wp2_with fail
  refine (toMac_any u _ _ _ rs M.out _ (H.out.below hw3)).mono ?_
  rintro e w4 ⟨v4, rfl, hO4, hb4⟩
  obtain ⟨A4, c4, rfl⟩ := hO4.form
  have Ox_4 := Lib.hid hO4
  have hz4 := hb4.size
  (try simp at hz4)
  have rm_4 := (hb4.block _ (by first | omega | (simp; done) | (simp; omega))).trans Rm_3.out
  have hw4 : Below w.heap.size w w4 := (by repeat (first | with_reducible exact Below.refl _ _ | with_reducible assumption | with_reducible refine Below.drew ?_ | with_reducible refine Below.alloc ?_ (by first | exact Nat.le_refl _ | omega | (simp; done) | (simp; omega)) _ | with_reducible refine Below.setCell ?_ (by first | exact Nat.le_refl _ | omega | (simp; done) | (simp; omega)) _ | (with_reducible refine ext_trans ?_ (by with_reducible assumption))))
  have lRm_4 : w.heap.size < w4.heap.size := by omega
  have Rm_4 := Lib.hid rm_4
  have r0_rm_4 := cell_of_row _ _ 0 _ _ _ rm_4
  have r1_rm_4 := cell_of_row _ _ 1 _ _ _ rm_4
  have r2_rm_4 := cell_of_row _ _ 2 _ _ _ rm_4
  have r3_rm_4 := cell_of_row _ _ 3 _ _ _ rm_4
  have f0_rm_4 := frozen_of_row _ _ 0 _ _ rm_4
  have f1_rm_4 := frozen_of_row _ _ 1 _ _ rm_4
  have f2_rm_4 := frozen_of_row _ _ 2 _ _ rm_4
  have f3_rm_4 := frozen_of_row _ _ 3 _ _ rm_4
  simp at r0_rm_4 r1_rm_4 r2_rm_4 r3_rm_4
  clear rm_4
  clear r0_rm_3 f0_rm_3 r1_rm_3 f1_rm_3 r2_rm_3 f2_rm_3 r3_rm_3 f3_rm_3
  go_wp2_with fail
  refine (MacOk_any u _ _ _ rs N.out _ (Ox_4.out.below (by repeat (first | with_reducible exact Below.refl _ _ | with_reducible assumption | with_reducible refine Below.drew ?_ | with_reducible refine Below.alloc ?_ (by first | exact Nat.le_refl _ | omega | (simp; done) | (simp; omega)) _ | with_reducible refine Below.setCell ?_ (by first | exact Nat.le_refl _ | omega | (simp; done) | (simp; omega)) _ | (with_reducible refine ext_trans ?_ (by with_reducible assumption))))).rd B.out).mono ?_
  rintro e w5 ⟨rfl, hb5⟩
  have hz5 := hb5.size
  (try simp at hz5)
  have rm_5 := (hb5.block _ (by first | omega | (simp; done) | (simp; omega))).trans ((Below.heap_alloc _ _ _ lRm_4).trans Rm_4.out)
  have rx_5 : w5.heap[w4.heap.size]? = some (.cells #[.bool u, .int .u64 (uI k), .int .u64 (uI l), .slice A4 rs.length c4] 35 (0, 0)) := (hb5.block _ (by first | (simp; done) | (simp; omega))).trans (by repeat (first | exact heap_new _ _ _ (by first | rfl | (simp; done) | (simp; omega)) | refine (Below.heap_alloc _ _ _ (by first | omega | (simp; done) | (simp; omega))).trans ?_))
  have Ox_5 := Lib.hid (Ox_4.out.below (w' := w5) (by repeat (first | with_reducible exact Below.refl _ _ | with_reducible assumption | with_reducible refine Below.drew ?_ | with_reducible refine Below.alloc ?_ (by first | exact Nat.le_refl _ | omega | (simp; done) | (simp; omega)) _ | with_reducible refine Below.setCell ?_ (by first | exact Nat.le_refl _ | omega | (simp; done) | (simp; omega)) _ | (with_reducible refine ext_trans ?_ (by with_reducible assumption)))))
  have hw5 : Below w.heap.size w w5 := (by repeat (first | with_reducible exact Below.refl _ _ | with_reducible assumption | with_reducible refine Below.drew ?_ | with_reducible refine Below.alloc ?_ (by first | exact Nat.le_refl _ | omega | (simp; done) | (simp; omega)) _ | with_reducible refine Below.setCell ?_ (by first | exact Nat.le_refl _ | omega | (simp; done) | (simp; omega)) _ | (with_reducible refine ext_trans ?_ (by with_reducible assumption))))
  have lRm_5 : w.heap.size < w5.heap.size := by omega
  have lRx_5 : w4.heap.size < w5.heap.size := by omega
  have Rm_5 := Lib.hid rm_5
  have r0_rm_5 := cell_of_row _ _ 0 _ _ _ rm_5
  have r1_rm_5 := cell_of_row _ _ 1 _ _ _ rm_5
  have r2_rm_5 := cell_of_row _ _ 2 _ _ _ rm_5
  have r3_rm_5 := cell_of_row _ _ 3 _ _ _ rm_5
  have f0_rm_5 := frozen_of_row _ _ 0 _ _ rm_5
  have f1_rm_5 := frozen_of_row _ _ 1 _ _ rm_5
  have f2_rm_5 := frozen_of_row _ _ 2 _ _ rm_5
  have f3_rm_5 := frozen_of_row _ _ 3 _ _ rm_5
  simp at r0_rm_5 r1_rm_5 r2_rm_5 r3_rm_5
  clear rm_5
  have Rx_5 := Lib.hid rx_5
  have r0_rx_5 := cell_of_row _ _ 0 _ _ _ rx_5
  have r1_rx_5 := cell_of_row _ _ 1 _ _ _ rx_5
  have r2_rx_5 := cell_of_row _ _ 2 _ _ _ rx_5
  have r3_rx_5 := cell_of_row _ _ 3 _ _ _ rx_5
  have f0_rx_5 := frozen_of_row _ _ 0 _ _ rx_5
  have f1_rx_5 := frozen_of_row _ _ 1 _ _ rx_5
  have f2_rx_5 := frozen_of_row _ _ 2 _ _ rx_5
  have f3_rx_5 := frozen_of_row _ _ 3 _ _ rx_5
  simp at r0_rx_5 r1_rx_5 r2_rx_5 r3_rx_5
  clear rx_5
  clear r0_rm_4 f0_rm_4 r1_rm_4 f1_rm_4 r2_rm_4 f2_rm_4 r3_rm_4 f3_rm_4
  go_wp2_with fail
  go_cut [26] (fun z wx => z = .bool false ∧ Below w5.heap.size w5 wx)
  case first =>
    first | go_region_held3 (fun w' => (∀ b' o, b' < (w5).heap.size → w'.cell? ⟨b', o, none⟩ = (w5).cell? ⟨b', o, none⟩) ∧ Below (w5).heap.size (w5) w') (first | with_reducible assumption | (with_reducible apply rg_keep; rotate_left; with_reducible assumption; with_reducible assumption) | with_reducible exact rg_start _ | with_reducible exact rg_alloc (KeptS.out (by with_reducible assumption)) _ | with_reducible exact rg_alloc (by with_reducible assumption) _ | with_reducible exact rg_start_alloc _ _ | ((repeat (with_reducible refine rg_set ?_ _ (by first | exact Nat.le_refl _ | omega | (simp; done) | (simp; omega)) _)); first | with_reducible exact KeptS.out (by with_reducible assumption) | with_reducible assumption | with_reducible exact rg_alloc (KeptS.out (by with_reducible assumption)) _)) (first | (go_at_call 32; ((with_reducible refine (toMac_any u _ _ _ rs M.out _ (H.out.below (ext_trans hw5 (rgBMacRow (by first | with_reducible assumption | exact KeptS.out (by with_reducible assumption)))))).mono ?_); (rintro e wA ⟨vA, rfl, hOA, hbA⟩; obtain ⟨AA, cA, rfl⟩ := hOA.form; have hSA := rg_keepK (by first | with_reducible assumption | exact KeptS.out (by with_reducible assumption)) hbA; have hLA := hSA.size; have HOA := Lib.hid hOA; clear hOA))) | (go_at_call 25; ((with_reducible refine (eqMac_same u _ _ _ _ rs N.out _ (Ox_5.out.below (rgBMacRow (by first | with_reducible assumption | exact KeptS.out (by with_reducible assumption)))).rd HOA.out.rd).mono ?_); (rintro e wC ⟨rfl, hbC⟩; have hSC := rg_keepK (by first | with_reducible assumption | exact KeptS.out (by with_reducible assumption)) hbC)))) | fail
    all_goals (go_wp2_with fail; go_meet; exact ⟨rfl, (by assumption : _ ∧ Below w5.heap.size w5 wC).2⟩)
  case rest =>
  obtain ⟨rfl, hb6⟩ := hcut
  rename World => w6
  have hz6 := hb6.size
  (try simp at hz6)
  have rm_6 := (hb6.block _ (by first | omega | (simp; done) | (simp; omega))).trans Rm_5.out
  have rx_6 := (hb6.block _ (by first | omega | (simp; done) | (simp; omega))).trans Rx_5.out
  have Ox_6 := Lib.hid (Ox_5.out.below (w' := w6) (by repeat (first | with_reducible exact Below.refl _ _ | with_reducible assumption | with_reducible refine Below.drew ?_ | with_reducible refine Below.alloc ?_ (by first | exact Nat.le_refl _ | omega | (simp; done) | (simp; omega)) _ | with_reducible refine Below.setCell ?_ (by first | exact Nat.le_refl _ | omega | (simp; done) | (simp; omega)) _ | (with_reducible refine ext_trans ?_ (by with_reducible assumption)))))
  have hw6 : Below w.heap.size w w6 := (by repeat (first | with_reducible exact Below.refl _ _ | with_reducible assumption | with_reducible refine Below.drew ?_ | with_reducible refine Below.alloc ?_ (by first | exact Nat.le_refl _ | omega | (simp; done) | (simp; omega)) _ | with_reducible refine Below.setCell ?_ (by first | exact Nat.le_refl _ | omega | (simp; done) | (simp; omega)) _ | (with_reducible refine ext_trans ?_ (by with_reducible assumption))))
  have lRm_6 : w.heap.size < w6.heap.size := by omega
  have lRx_6 : w4.heap.size < w6.heap.size := by omega
  have Rm_6 := Lib.hid rm_6
  have r0_rm_6 := cell_of_row _ _ 0 _ _ _ rm_6
  have r1_rm_6 := cell_of_row _ _ 1 _ _ _ rm_6
  have r2_rm_6 := cell_of_row _ _ 2 _ _ _ rm_6
  have r3_rm_6 := cell_of_row _ _ 3 _ _ _ rm_6
  have f0_rm_6 := frozen_of_row _ _ 0 _ _ rm_6
  have f1_rm_6 := frozen_of_row _ _ 1 _ _ rm_6
  have f2_rm_6 := frozen_of_row _ _ 2 _ _ rm_6
  have f3_rm_6 := frozen_of_row _ _ 3 _ _ rm_6
  simp at r0_rm_6 r1_rm_6 r2_rm_6 r3_rm_6
  clear rm_6
  have Rx_6 := Lib.hid rx_6
  have r0_rx_6 := cell_of_row _ _ 0 _ _ _ rx_6
  have r1_rx_6 := cell_of_row _ _ 1 _ _ _ rx_6
  have r2_rx_6 := cell_of_row _ _ 2 _ _ _ rx_6
  have r3_rx_6 := cell_of_row _ _ 3 _ _ _ rx_6
  have f0_rx_6 := frozen_of_row _ _ 0 _ _ rx_6
  have f1_rx_6 := frozen_of_row _ _ 1 _ _ rx_6
  have f2_rx_6 := frozen_of_row _ _ 2 _ _ rx_6
  have f3_rx_6 := frozen_of_row _ _ 3 _ _ rx_6
  simp at r0_rx_6 r1_rx_6 r2_rx_6 r3_rx_6
  clear rx_6
  clear r0_rm_5 f0_rm_5 r1_rm_5 f1_rm_5 r2_rm_5 f2_rm_5 r3_rm_5 f3_rm_5
  clear r0_rx_5 f0_rx_5 r1_rx_5 f1_rx_5 r2_rx_5 f2_rx_5 r3_rx_5 f3_rx_5
  go_wp2_with fail
  go_ret
  exact ⟨rfl, hw6⟩

set_option maxRecDepth 100000 in
theorem FnExactMacOk_lifted (os : Os) (started : os.Started) (H : Type) (enc : TypeId × Value → H) :
    ReturnsInHanded {} Try.checked os 11 .any (Rows.fnExactMacOkSpec.pre6 enc Try.prog Try.f11 Rows.fnExactMacOkRow.domain false) (Rows.fnExactMacOkSpec.post enc Try.prog Try.f11 false true false false) := by
  refine law_lifted (C := Try.checked) own_ started (by kernel_rfl) Try.func11 laid_ rfl ?_ ?_ rfl Try.underlying4
    (ChangeSpec.witness6 (enc := enc) (C := Try.checked) false ⟨#[], #[.agg #[.bool false, .int .u64 0, .int .u64 0, .slice none 0 0]], []⟩ 8 (by kernel_rfl) (by kernel_rfl) (by kernel_rfl) (by kernel_rfl)) ?_
  · intro ds h
    match ds, h with
    | [_], _ => rfl
  · intro t ht
    rw [Try.params11] at ht
    simp at ht
    subst ht
    exact ⟨by kernel_rfl, of_decide_eq_true (by kernel_rfl)⟩
  · intro W base args ds p hval hA hlt
    have hval : ∀ (j : Nat) t v, Try.f11.params[j]? = some t → args[j]? = some v → Value.okWide Try.prog W .any base t v := hval
    have hA : DataW.TrodAll enc Try.prog W 0 (fun _ => true) true Try.f11.params.toList args.toList ds p := hA
    rw [Try.params11] at hA hval
    obtain ⟨v0, d0, rfl, rfl, h0⟩ := trodAll_one hA
    obtain ⟨a0, a1, a2, a3, rfl, wa0, wa1, ⟨ka, ya, ta⟩⟩ := open_Mac (hval 0 44 v0 rfl rfl) h0
    obtain ⟨la, ra, fa, na⟩ := open_rowsMacRow ta
    exact (by rw [uI_of a1 (by assumption), uI_of a2 (by assumption)]; exact FnExactMacOk_walk a0 _ _ _ la W ra fa.fit na (fun x hx => bd_i64 (fa x hx).2))

theorem FnExactMacOk_holds : Rows.FnExactMacOkSaid :=
  OpenClaim.holds_of_wide 11 Try.f11 rfl rfl rfl rfl rfl rfl rfl ⟨rfl, rfl, rfl, rfl, rfl⟩ rfl rfl rfl rfl rfl (by kernel_rfl) Try.func11 (by kernel_rfl)
    (of_decide_eq_true (by kernel_rfl)) (by have hw := wrap_ (P := Try.prog) (fn := Try.f11) (by kernel_rfl); exact hw)
    (fun os started H enc _ => FnExactMacOk_lifted os started H enc)
end Go.Proofs.Ytondhgmlemgoaaa
