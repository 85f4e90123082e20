/-
  The law FnExactLinkOut returns true for every input. No condition.
-/
import Derived.Test.YteaniiponikpjaaLot
import Derived.Test.YteaniiponikpjaaOpnEntry
namespace Go.Proofs.Yteaniiponikpjaa
set_option maxRecDepth 100000
open Go.ChangeShapes Go.WideShapes Go.ChangeAt Go.RowKit

set_option maxHeartbeats 4000000 in
theorem FnExactLinkOut_walk (x1 : RLnk) (v11 : Value) (ip : Int) (body : ByteArray) (hbody : body.size ≤ maxLen) (w : World) (h11 : RdEntry w v11 x1.ca) (f11 : FitRLnk x1) (n11 : x1.ca.length ≤ maxLen) :
    Calls Try.prog 10 #[vL x1 v11, .int .i64 ip, .string body] w fun e w' => e = .returned (.bool true) ∧ Below w.heap.size w w' := by
  obtain ⟨A11, c11, rfl, -⟩ := id h11
  have H11 := Lib.hid h11
  have F11 := Lib.hid f11
  have N11 := Lib.hid n11
  clear h11 f11 n11
  have hbody2 := hbody
  unfold maxLen at hbody2
  by_cases hbig : (1048576 : Int) < (body.size : Int)
  case pos =>
    go_enter Try.func10, Try.ntmps10
    go_wp2_with fail
    go_ret
    exact ⟨rfl, (by repeat (first | with_reducible exact Below.refl _ _ | with_reducible assumption | with_reducible refine Below.drew ?_ | with_reducible refine Below.alloc ?_ (by first | exact Nat.le_refl _ | omega | (simp; done) | (simp; omega)) _ | with_reducible refine Below.setCell ?_ (by first | exact Nat.le_refl _ | omega | (simp; done) | (simp; omega)) _ | (with_reducible refine ext_trans ?_ (by with_reducible assumption))))⟩
  obtain ⟨⟨o1, o2⟩, hO⟩ : ∃ R, outR x1 ip body = R := ⟨_, rfl⟩
  have HOO := Lib.hid hO
  clear hO
  have HS : Hid (∀ W v, RdEntry W v x1.ca → Calls Try.prog 39 #[vL x1 v, .int .i64 ip, .string body] W fun e w' => e = .returned (.tuple #[.string o1, .bool o2]) ∧ Below W.heap.size W w') := fun W v h => by
    have hh := sLinkOut_any x1 v ip body N11.out W h
    rw [HOO.out] at hh
    exact hh
  have HI : Hid (∀ W v, RdEntry W v x1.ca → Calls Try.prog 40 #[vL x1 v, .int .i64 ip, .string body] W fun e w' => e = .returned (.tuple #[.string o1, .bool o2]) ∧ Below W.heap.size W w') := fun W v h => by
    have hh := LinkOut_any x1 v ip body N11.out W h
    rw [HOO.out] at hh
    exact hh
  clear HOO
  go_enter Try.func10, Try.ntmps10
  go_wp2_with fail
  refine (szLink_any x1 _ F11.out N11.out 1048576 (by omega) (by omega) _ (H11.out.below (by repeat (first | with_reducible exact Below.refl _ _ | with_reducible assumption | with_reducible refine Below.drew ?_ | with_reducible refine Below.alloc ?_ (by first | exact Nat.le_refl _ | omega | (simp; done) | (simp; omega)) _ | with_reducible refine Below.setCell ?_ (by first | exact Nat.le_refl _ | omega | (simp; done) | (simp; omega)) _ | (with_reducible refine ext_trans ?_ (by with_reducible assumption)))))).mono ?_
  rintro e w1 ⟨y1, rfl, ⟨hy1a, hy1b⟩, hs1, hb1⟩
  have hz1 := hb1.size
  (try simp at hz1)
  have ra1_1 : w1.heap[w.heap.size]? = some (.cells #[.int .i64 x1.mac, .int .i64 x1.ip, .slice A11 x1.ca.length c11] 33 (0, 0)) := (hb1.block _ (by first | (simp; done) | (simp; omega))).trans (by repeat (first | exact heap_new _ _ _ (by first | rfl | (simp; done) | (simp; omega)) | refine (Below.heap_alloc _ _ _ (by first | omega | (simp; done) | (simp; omega))).trans ?_))
  have hw1 : Below w.heap.size w w1 := (by repeat (first | with_reducible exact Below.refl _ _ | with_reducible assumption | with_reducible refine Below.drew ?_ | with_reducible refine Below.alloc ?_ (by first | exact Nat.le_refl _ | omega | (simp; done) | (simp; omega)) _ | with_reducible refine Below.setCell ?_ (by first | exact Nat.le_refl _ | omega | (simp; done) | (simp; omega)) _ | (with_reducible refine ext_trans ?_ (by with_reducible assumption))))
  have lRa1_1 : w.heap.size < w1.heap.size := by omega
  have Ra1_1 := Lib.hid ra1_1
  have r0_ra1_1 := cell_of_row _ _ 0 _ _ _ ra1_1
  have r1_ra1_1 := cell_of_row _ _ 1 _ _ _ ra1_1
  have r2_ra1_1 := cell_of_row _ _ 2 _ _ _ ra1_1
  have f0_ra1_1 := frozen_of_row _ _ 0 _ _ ra1_1
  have f1_ra1_1 := frozen_of_row _ _ 1 _ _ ra1_1
  have f2_ra1_1 := frozen_of_row _ _ 2 _ _ ra1_1
  simp at r0_ra1_1 r1_ra1_1 r2_ra1_1
  clear ra1_1
  by_cases hx1 : y1 < 0
  · go_wp2_with fail
    go_ret
    exact ⟨rfl, (by repeat (first | with_reducible exact Below.refl _ _ | with_reducible assumption | with_reducible refine Below.drew ?_ | with_reducible refine Below.alloc ?_ (by first | exact Nat.le_refl _ | omega | (simp; done) | (simp; omega)) _ | with_reducible refine Below.setCell ?_ (by first | exact Nat.le_refl _ | omega | (simp; done) | (simp; omega)) _ | (with_reducible refine ext_trans ?_ (by with_reducible assumption))))⟩
  have M11 : Hid (x1.ca.length ≤ 1048576) := (by have := hs1.out (by omega); omega : x1.ca.length ≤ 1048576)
  go_wp2_with fail
  refine (toLink_any x1 _ M11.out _ (H11.out.below (by repeat (first | with_reducible exact Below.refl _ _ | with_reducible assumption | with_reducible refine Below.drew ?_ | with_reducible refine Below.alloc ?_ (by first | exact Nat.le_refl _ | omega | (simp; done) | (simp; omega)) _ | with_reducible refine Below.setCell ?_ (by first | exact Nat.le_refl _ | omega | (simp; done) | (simp; omega)) _ | (with_reducible refine ext_trans ?_ (by with_reducible assumption)))))).mono ?_
  rintro e w2 ⟨u21, rfl, hO21, hb2⟩
  obtain ⟨A21, c21, rfl⟩ := hO21.form
  have Op1_2 := Lib.hid (OwnE.mono (base' := w1.heap.size) hO21 (by first | exact Nat.le_refl _ | (simp; done)))
  have Bp1 := Op1_2
  have hz2 := hb2.size
  (try simp at hz2)
  have ra1_2 := (hb2.block _ (by first | omega | (simp; done) | (simp; omega))).trans Ra1_1.out
  have hw2 : Below w.heap.size w w2 := (by repeat (first | with_reducible exact Below.refl _ _ | with_reducible assumption | with_reducible refine Below.drew ?_ | with_reducible refine Below.alloc ?_ (by first | exact Nat.le_refl _ | omega | (simp; done) | (simp; omega)) _ | with_reducible refine Below.setCell ?_ (by first | exact Nat.le_refl _ | omega | (simp; done) | (simp; omega)) _ | (with_reducible refine ext_trans ?_ (by with_reducible assumption))))
  have lRa1_2 : w.heap.size < w2.heap.size := by omega
  have Ra1_2 := Lib.hid ra1_2
  have r0_ra1_2 := cell_of_row _ _ 0 _ _ _ ra1_2
  have r1_ra1_2 := cell_of_row _ _ 1 _ _ _ ra1_2
  have r2_ra1_2 := cell_of_row _ _ 2 _ _ _ ra1_2
  have f0_ra1_2 := frozen_of_row _ _ 0 _ _ ra1_2
  have f1_ra1_2 := frozen_of_row _ _ 1 _ _ ra1_2
  have f2_ra1_2 := frozen_of_row _ _ 2 _ _ ra1_2
  simp at r0_ra1_2 r1_ra1_2 r2_ra1_2
  clear ra1_2
  clear r0_ra1_1 f0_ra1_1 r1_ra1_1 f1_ra1_1 r2_ra1_1 f2_ra1_1
  go_wp2_with fail
  refine (HS.out _ _ Op1_2.out.rd).mono ?_
  rintro e w3 ⟨rfl, hb3⟩
  have hz3 := hb3.size
  (try simp at hz3)
  have ra1_3 := (hb3.block _ (by first | omega | (simp; done) | (simp; omega))).trans Ra1_2.out
  have Op1_3 := Lib.hid (Op1_2.out.below (w' := w3) (by repeat (first | with_reducible exact Below.refl _ _ | with_reducible assumption | with_reducible refine Below.drew ?_ | with_reducible refine Below.alloc ?_ (by first | exact Nat.le_refl _ | omega | (simp; done) | (simp; omega)) _ | with_reducible refine Below.setCell ?_ (by first | exact Nat.le_refl _ | omega | (simp; done) | (simp; omega)) _ | (with_reducible refine ext_trans ?_ (by with_reducible assumption)))))
  have hw3 : Below w.heap.size w w3 := (by repeat (first | with_reducible exact Below.refl _ _ | with_reducible assumption | with_reducible refine Below.drew ?_ | with_reducible refine Below.alloc ?_ (by first | exact Nat.le_refl _ | omega | (simp; done) | (simp; omega)) _ | with_reducible refine Below.setCell ?_ (by first | exact Nat.le_refl _ | omega | (simp; done) | (simp; omega)) _ | (with_reducible refine ext_trans ?_ (by with_reducible assumption))))
  have lRa1_3 : w.heap.size < w3.heap.size := by omega
  have Ra1_3 := Lib.hid ra1_3
  have r0_ra1_3 := cell_of_row _ _ 0 _ _ _ ra1_3
  have r1_ra1_3 := cell_of_row _ _ 1 _ _ _ ra1_3
  have r2_ra1_3 := cell_of_row _ _ 2 _ _ _ ra1_3
  have f0_ra1_3 := frozen_of_row _ _ 0 _ _ ra1_3
  have f1_ra1_3 := frozen_of_row _ _ 1 _ _ ra1_3
  have f2_ra1_3 := frozen_of_row _ _ 2 _ _ ra1_3
  simp at r0_ra1_3 r1_ra1_3 r2_ra1_3
  clear ra1_3
  clear r0_ra1_2 f0_ra1_2 r1_ra1_2 f1_ra1_2 r2_ra1_2 f2_ra1_2
  go_wp2_with fail
  refine (toLink_any x1 _ M11.out _ (H11.out.below (by repeat (first | with_reducible exact Below.refl _ _ | with_reducible assumption | with_reducible refine Below.drew ?_ | with_reducible refine Below.alloc ?_ (by first | exact Nat.le_refl _ | omega | (simp; done) | (simp; omega)) _ | with_reducible refine Below.setCell ?_ (by first | exact Nat.le_refl _ | omega | (simp; done) | (simp; omega)) _ | (with_reducible refine ext_trans ?_ (by with_reducible assumption)))))).mono ?_
  rintro e w4 ⟨u41, rfl, hO41, hb4⟩
  obtain ⟨A41, c41, rfl⟩ := hO41.form
  have Oq1_4 := Lib.hid (OwnE.mono (base' := w3.heap.size) hO41 (by first | exact Nat.le_refl _ | (simp; done)))
  have Bq1 := Oq1_4
  have hz4 := hb4.size
  (try simp at hz4)
  have ra1_4 := (hb4.block _ (by first | omega | (simp; done) | (simp; omega))).trans Ra1_3.out
  have hw4 : Below w.heap.size w w4 := (by repeat (first | with_reducible exact Below.refl _ _ | with_reducible assumption | with_reducible refine Below.drew ?_ | with_reducible refine Below.alloc ?_ (by first | exact Nat.le_refl _ | omega | (simp; done) | (simp; omega)) _ | with_reducible refine Below.setCell ?_ (by first | exact Nat.le_refl _ | omega | (simp; done) | (simp; omega)) _ | (with_reducible refine ext_trans ?_ (by with_reducible assumption))))
  have lRa1_4 : w.heap.size < w4.heap.size := by omega
  have Ra1_4 := Lib.hid ra1_4
  have r0_ra1_4 := cell_of_row _ _ 0 _ _ _ ra1_4
  have r1_ra1_4 := cell_of_row _ _ 1 _ _ _ ra1_4
  have r2_ra1_4 := cell_of_row _ _ 2 _ _ _ ra1_4
  have f0_ra1_4 := frozen_of_row _ _ 0 _ _ ra1_4
  have f1_ra1_4 := frozen_of_row _ _ 1 _ _ ra1_4
  have f2_ra1_4 := frozen_of_row _ _ 2 _ _ ra1_4
  simp at r0_ra1_4 r1_ra1_4 r2_ra1_4
  clear ra1_4
  clear r0_ra1_3 f0_ra1_3 r1_ra1_3 f1_ra1_3 r2_ra1_3 f2_ra1_3
  go_wp2_with fail
  refine (HI.out _ _ (Oq1_4.out.below (by repeat (first | with_reducible exact Below.refl _ _ | with_reducible assumption | with_reducible refine Below.drew ?_ | with_reducible refine Below.alloc ?_ (by first | exact Nat.le_refl _ | omega | (simp; done) | (simp; omega)) _ | with_reducible refine Below.setCell ?_ (by first | exact Nat.le_refl _ | omega | (simp; done) | (simp; omega)) _ | (with_reducible refine ext_trans ?_ (by with_reducible assumption))))).rd).mono ?_
  rintro e w5 ⟨rfl, hb5⟩
  have hz5 := hb5.size
  (try simp at hz5)
  have ra1_5 := (hb5.block _ (by first | omega | (simp; done) | (simp; omega))).trans ((Below.heap_alloc _ _ _ (by first | exact lRa1_4 | (simp; omega))).trans Ra1_4.out)
  have rq_5 : w5.heap[w4.heap.size]? = some (.cells #[.int .i64 x1.mac, .int .i64 x1.ip, .slice A41 x1.ca.length c41] 37 (0, 0)) := (hb5.block _ (by first | (simp; done) | (simp; omega))).trans (by repeat (first | exact heap_new _ _ _ (by first | rfl | (simp; done) | (simp; omega)) | refine (Below.heap_alloc _ _ _ (by first | omega | (simp; done) | (simp; omega))).trans ?_))
  have Oq1_5 := Lib.hid (Oq1_4.out.below (w' := w5) (by repeat (first | with_reducible exact Below.refl _ _ | with_reducible assumption | with_reducible refine Below.drew ?_ | with_reducible refine Below.alloc ?_ (by first | exact Nat.le_refl _ | omega | (simp; done) | (simp; omega)) _ | with_reducible refine Below.setCell ?_ (by first | exact Nat.le_refl _ | omega | (simp; done) | (simp; omega)) _ | (with_reducible refine ext_trans ?_ (by with_reducible assumption)))))
  have hw5 : Below w.heap.size w w5 := (by repeat (first | with_reducible exact Below.refl _ _ | with_reducible assumption | with_reducible refine Below.drew ?_ | with_reducible refine Below.alloc ?_ (by first | exact Nat.le_refl _ | omega | (simp; done) | (simp; omega)) _ | with_reducible refine Below.setCell ?_ (by first | exact Nat.le_refl _ | omega | (simp; done) | (simp; omega)) _ | (with_reducible refine ext_trans ?_ (by with_reducible assumption))))
  have lRa1_5 : w.heap.size < w5.heap.size := by omega
  have lRq_5 : w4.heap.size < w5.heap.size := by omega
  have Ra1_5 := Lib.hid ra1_5
  have r0_ra1_5 := cell_of_row _ _ 0 _ _ _ ra1_5
  have r1_ra1_5 := cell_of_row _ _ 1 _ _ _ ra1_5
  have r2_ra1_5 := cell_of_row _ _ 2 _ _ _ ra1_5
  have f0_ra1_5 := frozen_of_row _ _ 0 _ _ ra1_5
  have f1_ra1_5 := frozen_of_row _ _ 1 _ _ ra1_5
  have f2_ra1_5 := frozen_of_row _ _ 2 _ _ ra1_5
  simp at r0_ra1_5 r1_ra1_5 r2_ra1_5
  clear ra1_5
  have Rq_5 := Lib.hid rq_5
  have r0_rq_5 := cell_of_row _ _ 0 _ _ _ rq_5
  have r1_rq_5 := cell_of_row _ _ 1 _ _ _ rq_5
  have r2_rq_5 := cell_of_row _ _ 2 _ _ _ rq_5
  have f0_rq_5 := frozen_of_row _ _ 0 _ _ rq_5
  have f1_rq_5 := frozen_of_row _ _ 1 _ _ rq_5
  have f2_rq_5 := frozen_of_row _ _ 2 _ _ rq_5
  simp at r0_rq_5 r1_rq_5 r2_rq_5
  clear rq_5
  clear r0_ra1_4 f0_ra1_4 r1_ra1_4 f1_ra1_4 r2_ra1_4 f2_ra1_4
  go_wp2_with fail
  go_cut [50] (fun z wx => z = .bool false ∧ Below w5.heap.size w5 wx)
  case first =>
    first | go_region_held3 (fun w' => (∀ b' o, b' < (w5).heap.size → w'.cell? ⟨b', o, none⟩ = (w5).cell? ⟨b', o, none⟩) ∧ Below (w5).heap.size (w5) w') (first | with_reducible assumption | (with_reducible apply rg_keep; rotate_left; with_reducible assumption; with_reducible assumption) | with_reducible exact rg_start _ | with_reducible exact rg_alloc (KeptS.out (by with_reducible assumption)) _ | with_reducible exact rg_alloc (by with_reducible assumption) _ | with_reducible exact rg_start_alloc _ _ | ((repeat (with_reducible refine rg_set ?_ _ (by first | exact Nat.le_refl _ | omega | (simp; done) | (simp; omega)) _)); first | with_reducible exact KeptS.out (by with_reducible assumption) | with_reducible assumption | with_reducible exact rg_alloc (KeptS.out (by with_reducible assumption)) _)) (first | (go_at_call 23; ((with_reducible refine (toLink_any x1 _ M11.out _ (H11.out.below (ext_trans hw5 (rgBEntry (by first | with_reducible assumption | exact KeptS.out (by with_reducible assumption)))))).mono ?_); (rintro e wA ⟨vA1, rfl, hOA1, hbA⟩; obtain ⟨AA1, cA1, rfl⟩ := hOA1.form; have hSA := rg_keepK (by first | with_reducible assumption | exact KeptS.out (by with_reducible assumption)) hbA; have hLA := hSA.size; have HOA1 := Lib.hid hOA1; clear hOA1))) | (go_at_call 25; ((with_reducible refine (eqLink_same x1 _ _ N11.out _ (Oq1_5.out.below (rgBEntry (by first | with_reducible assumption | exact KeptS.out (by with_reducible assumption)))).rd HOA1.out.rd).mono ?_); (rintro e wC ⟨rfl, hbC⟩; have hSC := rg_keepK (by first | with_reducible assumption | exact KeptS.out (by with_reducible assumption)) hbC)))) | fail
    all_goals (go_wp2_with fail; go_meet; exact ⟨rfl, (by assumption : _ ∧ Below w5.heap.size w5 wC).2⟩)
  case rest =>
  obtain ⟨rfl, hb6⟩ := hcut
  rename World => w6
  have hz6 := hb6.size
  (try simp at hz6)
  have ra1_6 := (hb6.block _ (by first | omega | (simp; done) | (simp; omega))).trans Ra1_5.out
  have rq_6 := (hb6.block _ (by first | omega | (simp; done) | (simp; omega))).trans Rq_5.out
  have Oq1_6 := Lib.hid (Oq1_5.out.below (w' := w6) (by repeat (first | with_reducible exact Below.refl _ _ | with_reducible assumption | with_reducible refine Below.drew ?_ | with_reducible refine Below.alloc ?_ (by first | exact Nat.le_refl _ | omega | (simp; done) | (simp; omega)) _ | with_reducible refine Below.setCell ?_ (by first | exact Nat.le_refl _ | omega | (simp; done) | (simp; omega)) _ | (with_reducible refine ext_trans ?_ (by with_reducible assumption)))))
  have hw6 : Below w.heap.size w w6 := (by repeat (first | with_reducible exact Below.refl _ _ | with_reducible assumption | with_reducible refine Below.drew ?_ | with_reducible refine Below.alloc ?_ (by first | exact Nat.le_refl _ | omega | (simp; done) | (simp; omega)) _ | with_reducible refine Below.setCell ?_ (by first | exact Nat.le_refl _ | omega | (simp; done) | (simp; omega)) _ | (with_reducible refine ext_trans ?_ (by with_reducible assumption))))
  have lRa1_6 : w.heap.size < w6.heap.size := by omega
  have lRq_6 : w4.heap.size < w6.heap.size := by omega
  have Ra1_6 := Lib.hid ra1_6
  have r0_ra1_6 := cell_of_row _ _ 0 _ _ _ ra1_6
  have r1_ra1_6 := cell_of_row _ _ 1 _ _ _ ra1_6
  have r2_ra1_6 := cell_of_row _ _ 2 _ _ _ ra1_6
  have f0_ra1_6 := frozen_of_row _ _ 0 _ _ ra1_6
  have f1_ra1_6 := frozen_of_row _ _ 1 _ _ ra1_6
  have f2_ra1_6 := frozen_of_row _ _ 2 _ _ ra1_6
  simp at r0_ra1_6 r1_ra1_6 r2_ra1_6
  clear ra1_6
  have Rq_6 := Lib.hid rq_6
  have r0_rq_6 := cell_of_row _ _ 0 _ _ _ rq_6
  have r1_rq_6 := cell_of_row _ _ 1 _ _ _ rq_6
  have r2_rq_6 := cell_of_row _ _ 2 _ _ _ rq_6
  have f0_rq_6 := frozen_of_row _ _ 0 _ _ rq_6
  have f1_rq_6 := frozen_of_row _ _ 1 _ _ rq_6
  have f2_rq_6 := frozen_of_row _ _ 2 _ _ rq_6
  simp at r0_rq_6 r1_rq_6 r2_rq_6
  clear rq_6
  clear r0_ra1_5 f0_ra1_5 r1_ra1_5 f1_ra1_5 r2_ra1_5 f2_ra1_5
  clear r0_rq_5 f0_rq_5 r1_rq_5 f1_rq_5 r2_rq_5 f2_rq_5
  go_wp2_with fail
  go_ret
  exact ⟨rfl, hw6⟩

set_option maxRecDepth 100000 in
theorem FnExactLinkOut_lifted (os : Os) (started : os.Started) (H : Type) (enc : TypeId × Value → H) :
    ReturnsInHanded {} Try.checked os 10 .any (Rows.fnExactLinkOutSpec.pre6 enc Try.prog Try.f10 Rows.fnExactLinkOutRow.domain false) (Rows.fnExactLinkOutSpec.post enc Try.prog Try.f10 false true false false) := by
  refine law_lifted (C := Try.checked) own_ started (by kernel_rfl) Try.func10 laid_ rfl ?_ ?_ rfl Try.underlying4
    (ChangeSpec.witness6 (enc := enc) (C := Try.checked) false ⟨#[], #[.agg #[.int .i64 0, .int .i64 0, .slice none 0 0], .int .i64 0, .string ⟨#[]⟩], []⟩ 8 (by kernel_rfl) (by kernel_rfl) (by kernel_rfl) (by kernel_rfl)) ?_
  · intro ds h
    match ds, h with
    | [_, _, _], _ => rfl
  · intro t ht
    rw [Try.params10] at ht
    simp at ht
    rcases ht with rfl | rfl | rfl
    all_goals exact ⟨by kernel_rfl, of_decide_eq_true (by kernel_rfl)⟩
  · intro W base args ds p hval hA hlt
    have hval : ∀ (j : Nat) t v, Try.f10.params[j]? = some t → args[j]? = some v → Value.okWide Try.prog W .any base t v := hval
    have hA : DataW.TrodAll enc Try.prog W 0 (fun _ => true) true Try.f10.params.toList args.toList ds p := hA
    rw [Try.params10] at hA hval
    obtain ⟨v0, v1, v2, d0, d1, d2, p0, p1, p2, rfl, rfl, rfl, h0, h1, h2⟩ := trodAll_three hA
    obtain ⟨a0, a1, a2, rfl, wa0, wa1, ⟨ka, ya, ta⟩⟩ := open_Link (hval 0 33 v0 rfl rfl) h0
    obtain ⟨la, ra, fa, na⟩ := open_rowsEntry ta
    obtain ⟨b, rfl, rfl, rfl, wb⟩ := open_int Try.underlying3 (hval 1 3 v1 rfl rfl) h1
    obtain ⟨c, rfl, rfl, rfl, wc⟩ := Go.ChangeMaps.open_string Try.underlying9 (hval 2 9 v2 rfl rfl) h2
    exact (FnExactLinkOut_walk ⟨a0, a1, la⟩ a2 b c wc W ra fa.fit na)

theorem FnExactLinkOut_holds : Rows.FnExactLinkOutSaid :=
  OpenClaim.holds_of_wide 10 Try.f10 rfl rfl rfl rfl rfl rfl rfl ⟨rfl, rfl, rfl, rfl, rfl⟩ rfl rfl rfl rfl rfl (by kernel_rfl) Try.func10 (by kernel_rfl)
    (of_decide_eq_true (by kernel_rfl)) (by have hw := wrap_ (P := Try.prog) (fn := Try.f10) (by kernel_rfl); exact hw)
    (fun os started H enc _ => FnExactLinkOut_lifted os started H enc)
end Go.Proofs.Yteaniiponikpjaa
