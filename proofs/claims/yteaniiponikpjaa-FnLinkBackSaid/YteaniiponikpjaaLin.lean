/-
  Contract of LinkIn, the program's.
-/
import Derived.Test.YteaniiponikpjaaLok
import Derived.Test.YteaniiponikpjaaSlr
import Derived.Test.YteaniiponikpjaaRdp
import Derived.Test.YteaniiponikpjaaRpl
import Derived.Test.YteaniiponikpjaaLast
namespace Go.Proofs.Yteaniiponikpjaa
set_option maxRecDepth 100000
open Go.ChangeShapes Go.WideShapes Go.ChangeAt Go.RowKit Go.Deep

theorem results_rtrt {P : Program} {fn : Func} {p p2 u v : Tmp} {ty ty2 : TypeId} (h : fn.results = #[.cell p ty, .tmp u, .cell p2 ty2, .tmp v]) (tmps : Array Value) (w : World) (g : Nat) (t : TypeId) (cs : Array Value) (fr : Nat × Nat) (d : TypeDesc)
    (g2 : Nat) (t2 : TypeId) (cs2 : Array Value) (fr2 : Nat × Nat) (d2 : TypeDesc)
    (hp : tmps.getD p undef = .pointer (some ⟨g, 0, none⟩)) (hp2 : tmps.getD p2 undef = .pointer (some ⟨g2, 0, none⟩)) (hg : w.heap[g]? = some (.cells cs t fr)) (hg2 : w.heap[g2]? = some (.cells cs2 t2 fr2))
    (hu : P.underlying ty = some d) (hd : (match d with | .struct _ | .array _ _ => true | _ => false) = true) (hi : (P.info? ty).map (·.size) = some cs.size)
    (hu2 : P.underlying ty2 = some d2) (hd2 : (match d2 with | .struct _ | .array _ _ => true | _ => false) = true) (hi2 : (P.info? ty2).map (·.size) = some cs2.size) :
    (results fn tmps).run P w = .ok (.tuple #[.agg cs, tmps.getD u undef, .agg cs2, tmps.getD v undef]) w := by
  have hp' : tmps[p]?.getD undef = .pointer (some ⟨g, 0, none⟩) := by simpa using hp
  have hp2' : tmps[p2]?.getD undef = .pointer (some ⟨g2, 0, none⟩) := by simpa using hp2
  simp [results, h, hp', hp2', asAddr, run_loadVar_row w g t ty cs fr d hg hu hd hi, run_loadVar_row w g2 t2 ty2 cs2 fr2 d2 hg2 hu2 hd2 hi2]
abbrev zPk : Value := .agg #[.int .i64 0, .int .i64 0, .int .i64 0, .int .i64 0, .int .i64 0, .string ⟨#[]⟩]
/-- What LinkIn makes of a link and of the parts of what was read. -/
def linkRF (x : RLnk) (B : Bool) (f1 f2 f3 : Int) (BA : Bool) (k1 k2 k3 k5 : Int) (pc p1 p2 p4 : Int) (pk : Value) : List REntry × Int × Value × ByteArray :=
  if (x.ok && (B && (decide (f1 = x.mac) || decide (f1 = 281474976710655)))) = true then
    if f3 = 2054 then
      if (BA && decide (k5 = x.ip)) = true then
        if repB k1 k2 k3 k5 x.mac x.ip = true then (learnedR x.ca k3 k2, 1, zPk, frameS k2 x.mac 2054 (arpS 2 x.mac x.ip k2 k3)) else (learnedR x.ca k3 k2, 0, zPk, ⟨#[]⟩)
      else (x.ca, 0, zPk, ⟨#[]⟩)
    else if f3 = 2048 then
      if pc = 0 ∧ p2 = x.ip ∧ p4 = 6 ∧ ¬ p1 = x.ip then (learnedR x.ca p1 f2, 2, pk, ⟨#[]⟩) else (x.ca, 0, zPk, ⟨#[]⟩)
    else (x.ca, 0, zPk, ⟨#[]⟩)
  else (x.ca, 0, zPk, ⟨#[]⟩)
def LinPost (x : RLnk) (R : List REntry × Int × Value × ByteArray) (w : World) (e : Ending) (w' : World) : Prop :=
  ∃ v, e = .returned (.tuple #[.agg #[.int .i64 x.mac, .int .i64 x.ip, v], .int .i64 R.2.1, R.2.2.1, .string R.2.2.2]) ∧ OwnEntry w' w.heap.size v R.1 ∧ Below w.heap.size w w'

set_option maxHeartbeats 4000000 in
set_option linter.unusedVariables false in
set_option linter.unusedSimpArgs false in
theorem LinkIn_any (x : RLnk) (v : Value) (s : ByteArray) (hz : s.size ≤ 1048576) (n1 : x.ca.length ≤ 1048576) (w : World) (h : RdEntry w v x.ca)
    (f1 f2 f3 : Int) (f4 : ByteArray) (B : Bool) (hF1 : frR s = .agg #[.int .i64 f1, .int .i64 f2, .int .i64 f3, .string f4]) (hF2 : okFr s = B) (h4z : f4.size ≤ 1048576)
    (k1 k2 k3 k4 k5 : Int) (BA : Bool) (hA1 : arR f4 = .agg #[.int .i64 k1, .int .i64 k2, .int .i64 k3, .int .i64 k4, .int .i64 k5]) (hA2 : okAr f4 = BA)
    (p1 p2 p3 p4 p5 : Int) (p6 : ByteArray) (pc : Int) (hP1 : pkR f4 = .agg #[.int .i64 p1, .int .i64 p2, .int .i64 p3, .int .i64 p4, .int .i64 p5, .string p6]) (hP2 : pkC f4 = pc) :
    Calls Try.prog 42 #[vL x v, .string s] w (LinPost x (linkRF x B f1 f2 f3 BA k1 k2 k3 k5 pc p1 p2 p4 (.agg #[.int .i64 p1, .int .i64 p2, .int .i64 p3, .int .i64 p4, .int .i64 p5, .string p6])) w) := by
  obtain ⟨m, q, l⟩ := x
  dsimp only at *
  obtain ⟨A, c, rfl, -⟩ := id h
  have H := Lib.hid h
  have N : Hid (l.length ≤ 1048600) := (by omega : l.length ≤ 1048600)
  have ML : Hid (l.length ≤ 1048576) := n1
  have NL : Hid (l.length ≤ maxLen) := (by unfold maxLen; omega : l.length ≤ maxLen)
  clear h n1
  obtain ⟨B0, hB0⟩ : ∃ B, (⟨m, q, l⟩ : RLnk).ok = B := ⟨_, rfl⟩
  have Y1 : Hid (∀ W, Calls Try.prog 72 #[.string s] W fun e w' => e = .returned (.tuple #[.agg #[.int .i64 f1, .int .i64 f2, .int .i64 f3, .string f4], .bool B]) ∧ Below W.heap.size W w') := fun W => by
    have hh := ReadFrame_any s hz W
    unfold FrOut at hh
    rw [hF1, hF2] at hh
    exact hh
  have y2 := fun W h => LinkOk_any ⟨m, q, l⟩ (.slice A l.length c) NL.out W h
  rw [hB0] at y2
  have Y2 := Lib.hid y2
  dsimp only at Y2
  clear y2
  obtain ⟨FM, hFM⟩ : ∃ X, (decide (f1 = m) || decide (f1 = 281474976710655)) = X := ⟨_, rfl⟩
  have y3 := fun W => ForMe_any f1 f2 f3 f4 m W
  rw [hFM] at y3
  have Y3 := Lib.hid y3
  clear y3
  have HE : Hid (linkRF ⟨m, q, l⟩ B f1 f2 f3 BA k1 k2 k3 k5 pc p1 p2 p4 (.agg #[.int .i64 p1, .int .i64 p2, .int .i64 p3, .int .i64 p4, .int .i64 p5, .string p6]) = if (B0 && (B && FM)) = true then (if f3 = 2054 then (if (BA && decide (k5 = q)) = true then (if repB k1 k2 k3 k5 m q = true then (learnedR l k3 k2, 1, zPk, frameS k2 m 2054 (arpS 2 m q k2 k3)) else (learnedR l k3 k2, 0, zPk, ⟨#[]⟩)) else (l, 0, zPk, ⟨#[]⟩)) else if f3 = 2048 then (if pc = 0 ∧ p2 = q ∧ p4 = 6 ∧ ¬ p1 = q then (learnedR l p1 f2, 2, .agg #[.int .i64 p1, .int .i64 p2, .int .i64 p3, .int .i64 p4, .int .i64 p5, .string p6], ⟨#[]⟩) else (l, 0, zPk, ⟨#[]⟩)) else (l, 0, zPk, ⟨#[]⟩)) else (l, 0, zPk, ⟨#[]⟩)) := (by unfold linkRF; dsimp only; rw [hB0, hFM] : linkRF ⟨m, q, l⟩ B f1 f2 f3 BA k1 k2 k3 k5 pc p1 p2 p4 (.agg #[.int .i64 p1, .int .i64 p2, .int .i64 p3, .int .i64 p4, .int .i64 p5, .string p6]) = _)
  clear hB0 hFM
  obtain ⟨R, hRR⟩ : ∃ R, linkRF ⟨m, q, l⟩ B f1 f2 f3 BA k1 k2 k3 k5 pc p1 p2 p4 (.agg #[.int .i64 p1, .int .i64 p2, .int .i64 p3, .int .i64 p4, .int .i64 p5, .string p6]) = R := ⟨_, rfl⟩
  rw [hRR] at HE ⊢
  clear hRR
  go_enter Try.func42, Try.ntmps42
  go_wp2_with fail
  refine (cloneLink_any ⟨m, q, l⟩ _ N.out _ (H.out.below (by repeat (first | with_reducible exact Below.refl _ _ | with_reducible assumption | with_reducible refine Below.drew ?_ | with_reducible refine Below.alloc ?_ (by first | exact Nat.le_refl _ | omega | (simp; done) | (simp; omega)) _ | with_reducible refine Below.setCell ?_ (by first | exact Nat.le_refl _ | omega | (simp; done) | (simp; omega)) _ | (with_reducible refine ext_trans ?_ (by with_reducible assumption)))))).mono ?_
  rintro e w1 ⟨v1, rfl, hO1, hb1⟩
  dsimp only at hO1
  obtain ⟨A1, c1, rfl⟩ := hO1.form
  have Oo1_1 := Lib.hid (OwnE.mono (base' := w.heap.size + 3) hO1 (by first | exact Nat.le_refl _ | (simp; done) | (simp; omega)))
  have Bo1 := Oo1_1
  have hz1 := hb1.size
  (try simp at hz1)
  have ra_1 : w1.heap[w.heap.size]? = some (.cells #[.int .i64 m, .int .i64 q, .slice A l.length c] 37 (0, 0)) := (hb1.block _ (by first | (simp; done) | (simp; omega))).trans (by repeat (first | exact heap_new _ _ _ (by first | rfl | (simp; done) | (simp; omega)) | refine (Below.heap_alloc _ _ _ (by first | omega | (simp; done) | (simp; omega))).trans ?_))
  have rr_1 : w1.heap[w.heap.size + 1]? = some (.cells #[.int .i64 0, .int .i64 0, .slice none 0 0] 37 (0, 0)) := (hb1.block _ (by first | (simp; done) | (simp; omega))).trans (by repeat (first | exact heap_new _ _ _ (by first | rfl | (simp; done) | (simp; omega)) | refine (Below.heap_alloc _ _ _ (by first | omega | (simp; done) | (simp; omega))).trans ?_))
  have rp_1 : w1.heap[w.heap.size + 2]? = some (.cells #[.int .i64 0, .int .i64 0, .int .i64 0, .int .i64 0, .int .i64 0, .string ⟨#[]⟩] 58 (0, 0)) := (hb1.block _ (by first | (simp; done) | (simp; omega))).trans (by repeat (first | exact heap_new _ _ _ (by first | rfl | (simp; done) | (simp; omega)) | refine (Below.heap_alloc _ _ _ (by first | omega | (simp; done) | (simp; omega))).trans ?_))
  have hw1 : Below w.heap.size w w1 := (by repeat (first | with_reducible exact Below.refl _ _ | with_reducible assumption | with_reducible refine Below.drew ?_ | with_reducible refine Below.alloc ?_ (by first | exact Nat.le_refl _ | omega | (simp; done) | (simp; omega)) _ | with_reducible refine Below.setCell ?_ (by first | exact Nat.le_refl _ | omega | (simp; done) | (simp; omega)) _ | (with_reducible refine ext_trans ?_ (by with_reducible assumption))))
  have lRa_1 : w.heap.size < w1.heap.size := by omega
  have lRr_1 : w.heap.size + 1 < w1.heap.size := by omega
  have lRp_1 : w.heap.size + 2 < w1.heap.size := by omega
  have Ra_1 := Lib.hid ra_1
  have r0_ra_1 := cell_of_row _ _ 0 _ _ _ ra_1
  have r1_ra_1 := cell_of_row _ _ 1 _ _ _ ra_1
  have r2_ra_1 := cell_of_row _ _ 2 _ _ _ ra_1
  have f0_ra_1 := frozen_of_row _ _ 0 _ _ ra_1
  have f1_ra_1 := frozen_of_row _ _ 1 _ _ ra_1
  have f2_ra_1 := frozen_of_row _ _ 2 _ _ ra_1
  simp at r0_ra_1 r1_ra_1 r2_ra_1
  clear ra_1
  have Rr_1 := Lib.hid rr_1
  have r0_rr_1 := cell_of_row _ _ 0 _ _ _ rr_1
  have r1_rr_1 := cell_of_row _ _ 1 _ _ _ rr_1
  have r2_rr_1 := cell_of_row _ _ 2 _ _ _ rr_1
  have f0_rr_1 := frozen_of_row _ _ 0 _ _ rr_1
  have f1_rr_1 := frozen_of_row _ _ 1 _ _ rr_1
  have f2_rr_1 := frozen_of_row _ _ 2 _ _ rr_1
  simp at r0_rr_1 r1_rr_1 r2_rr_1
  clear rr_1
  have Rp_1 := Lib.hid rp_1
  have r0_rp_1 := cell_of_row _ _ 0 _ _ _ rp_1
  have r1_rp_1 := cell_of_row _ _ 1 _ _ _ rp_1
  have r2_rp_1 := cell_of_row _ _ 2 _ _ _ rp_1
  have r3_rp_1 := cell_of_row _ _ 3 _ _ _ rp_1
  have r4_rp_1 := cell_of_row _ _ 4 _ _ _ rp_1
  have r5_rp_1 := cell_of_row _ _ 5 _ _ _ rp_1
  have f0_rp_1 := frozen_of_row _ _ 0 _ _ rp_1
  have f1_rp_1 := frozen_of_row _ _ 1 _ _ rp_1
  have f2_rp_1 := frozen_of_row _ _ 2 _ _ rp_1
  have f3_rp_1 := frozen_of_row _ _ 3 _ _ rp_1
  have f4_rp_1 := frozen_of_row _ _ 4 _ _ rp_1
  have f5_rp_1 := frozen_of_row _ _ 5 _ _ rp_1
  simp at r0_rp_1 r1_rp_1 r2_rp_1 r3_rp_1 r4_rp_1 r5_rp_1
  clear rp_1
  go_wp2_with fail
  refine (Y1.out _).mono ?_
  rintro e w2 ⟨rfl, hb2⟩
  have hz2 := hb2.size
  (try simp at hz2)
  have ra_2 := (hb2.block _ (by first | omega | (simp; done) | (simp; omega))).trans ((Below.heap_alloc _ _ _ (by first | exact lRa_1 | (simp; omega))).trans Ra_1.out)
  have rr_2 := (hb2.block _ (by first | omega | (simp; done) | (simp; omega))).trans ((Below.heap_alloc _ _ _ (by first | exact lRr_1 | (simp; omega))).trans Rr_1.out)
  have rp_2 := (hb2.block _ (by first | omega | (simp; done) | (simp; omega))).trans ((Below.heap_alloc _ _ _ (by first | exact lRp_1 | (simp; omega))).trans Rp_1.out)
  have ro_2 : w2.heap[w1.heap.size]? = some (.cells #[.int .i64 m, .int .i64 q, .slice A1 l.length c1] 37 (0, 0)) := (hb2.block _ (by first | (simp; done) | (simp; omega))).trans (by repeat (first | exact heap_new _ _ _ (by first | rfl | (simp; done) | (simp; omega)) | refine (Below.heap_alloc _ _ _ (by first | omega | (simp; done) | (simp; omega))).trans ?_))
  have Oo1_2 := Lib.hid (Oo1_1.out.below (w' := w2) (by repeat (first | with_reducible exact Below.refl _ _ | with_reducible assumption | with_reducible refine Below.drew ?_ | with_reducible refine Below.alloc ?_ (by first | exact Nat.le_refl _ | omega | (simp; done) | (simp; omega)) _ | with_reducible refine Below.setCell ?_ (by first | exact Nat.le_refl _ | omega | (simp; done) | (simp; omega)) _ | (with_reducible refine ext_trans ?_ (by with_reducible assumption)))))
  have hw2 : Below w.heap.size w w2 := (by repeat (first | with_reducible exact Below.refl _ _ | with_reducible assumption | with_reducible refine Below.drew ?_ | with_reducible refine Below.alloc ?_ (by first | exact Nat.le_refl _ | omega | (simp; done) | (simp; omega)) _ | with_reducible refine Below.setCell ?_ (by first | exact Nat.le_refl _ | omega | (simp; done) | (simp; omega)) _ | (with_reducible refine ext_trans ?_ (by with_reducible assumption))))
  have lRa_2 : w.heap.size < w2.heap.size := by omega
  have lRr_2 : w.heap.size + 1 < w2.heap.size := by omega
  have lRp_2 : w.heap.size + 2 < w2.heap.size := by omega
  have lRo_2 : w1.heap.size < w2.heap.size := by omega
  have Ra_2 := Lib.hid ra_2
  have r0_ra_2 := cell_of_row _ _ 0 _ _ _ ra_2
  have r1_ra_2 := cell_of_row _ _ 1 _ _ _ ra_2
  have r2_ra_2 := cell_of_row _ _ 2 _ _ _ ra_2
  have f0_ra_2 := frozen_of_row _ _ 0 _ _ ra_2
  have f1_ra_2 := frozen_of_row _ _ 1 _ _ ra_2
  have f2_ra_2 := frozen_of_row _ _ 2 _ _ ra_2
  simp at r0_ra_2 r1_ra_2 r2_ra_2
  clear ra_2
  have Rr_2 := Lib.hid rr_2
  have r0_rr_2 := cell_of_row _ _ 0 _ _ _ rr_2
  have r1_rr_2 := cell_of_row _ _ 1 _ _ _ rr_2
  have r2_rr_2 := cell_of_row _ _ 2 _ _ _ rr_2
  have f0_rr_2 := frozen_of_row _ _ 0 _ _ rr_2
  have f1_rr_2 := frozen_of_row _ _ 1 _ _ rr_2
  have f2_rr_2 := frozen_of_row _ _ 2 _ _ rr_2
  simp at r0_rr_2 r1_rr_2 r2_rr_2
  clear rr_2
  have Rp_2 := Lib.hid rp_2
  have r0_rp_2 := cell_of_row _ _ 0 _ _ _ rp_2
  have r1_rp_2 := cell_of_row _ _ 1 _ _ _ rp_2
  have r2_rp_2 := cell_of_row _ _ 2 _ _ _ rp_2
  have r3_rp_2 := cell_of_row _ _ 3 _ _ _ rp_2
  have r4_rp_2 := cell_of_row _ _ 4 _ _ _ rp_2
  have r5_rp_2 := cell_of_row _ _ 5 _ _ _ rp_2
  have f0_rp_2 := frozen_of_row _ _ 0 _ _ rp_2
  have f1_rp_2 := frozen_of_row _ _ 1 _ _ rp_2
  have f2_rp_2 := frozen_of_row _ _ 2 _ _ rp_2
  have f3_rp_2 := frozen_of_row _ _ 3 _ _ rp_2
  have f4_rp_2 := frozen_of_row _ _ 4 _ _ rp_2
  have f5_rp_2 := frozen_of_row _ _ 5 _ _ rp_2
  simp at r0_rp_2 r1_rp_2 r2_rp_2 r3_rp_2 r4_rp_2 r5_rp_2
  clear rp_2
  have Ro_2 := Lib.hid ro_2
  have r0_ro_2 := cell_of_row _ _ 0 _ _ _ ro_2
  have r1_ro_2 := cell_of_row _ _ 1 _ _ _ ro_2
  have r2_ro_2 := cell_of_row _ _ 2 _ _ _ ro_2
  have f0_ro_2 := frozen_of_row _ _ 0 _ _ ro_2
  have f1_ro_2 := frozen_of_row _ _ 1 _ _ ro_2
  have f2_ro_2 := frozen_of_row _ _ 2 _ _ ro_2
  simp at r0_ro_2 r1_ro_2 r2_ro_2
  clear ro_2
  clear r0_ra_1 f0_ra_1 r1_ra_1 f1_ra_1 r2_ra_1 f2_ra_1
  clear r0_rr_1 f0_rr_1 r1_rr_1 f1_rr_1 r2_rr_1 f2_rr_1
  clear r0_rp_1 f0_rp_1 r1_rp_1 f1_rp_1 r2_rp_1 f2_rp_1 r3_rp_1 f3_rp_1 r4_rp_1 f4_rp_1 r5_rp_1 f5_rp_1
  go_wp2_with fail
  refine (Y2.out _ (H.out.below (by repeat (first | with_reducible exact Below.refl _ _ | with_reducible assumption | with_reducible refine Below.drew ?_ | with_reducible refine Below.alloc ?_ (by first | exact Nat.le_refl _ | omega | (simp; done) | (simp; omega)) _ | with_reducible refine Below.setCell ?_ (by first | exact Nat.le_refl _ | omega | (simp; done) | (simp; omega)) _ | (with_reducible refine ext_trans ?_ (by with_reducible assumption)))))).mono ?_
  rintro e w3 ⟨rfl, hb3⟩
  have hz3 := hb3.size
  (try simp at hz3)
  have ra_3 := (hb3.block _ (by first | omega | (simp; done) | (simp; omega))).trans ((Below.heap_alloc _ _ _ (by first | exact lRa_2 | (simp; omega))).trans Ra_2.out)
  have rr_3 := (hb3.block _ (by first | omega | (simp; done) | (simp; omega))).trans ((Below.heap_alloc _ _ _ (by first | exact lRr_2 | (simp; omega))).trans Rr_2.out)
  have rp_3 := (hb3.block _ (by first | omega | (simp; done) | (simp; omega))).trans ((Below.heap_alloc _ _ _ (by first | exact lRp_2 | (simp; omega))).trans Rp_2.out)
  have ro_3 := (hb3.block _ (by first | omega | (simp; done) | (simp; omega))).trans ((Below.heap_alloc _ _ _ (by first | exact lRo_2 | (simp; omega))).trans Ro_2.out)
  have rf_3 : w3.heap[w2.heap.size]? = some (.cells #[.int .i64 f1, .int .i64 f2, .int .i64 f3, .string f4] 67 (0, 0)) := (hb3.block _ (by first | (simp; done) | (simp; omega))).trans (by repeat (first | exact heap_new _ _ _ (by first | rfl | (simp; done) | (simp; omega)) | refine (Below.heap_alloc _ _ _ (by first | omega | (simp; done) | (simp; omega))).trans ?_))
  have Oo1_3 := Lib.hid (Oo1_2.out.below (w' := w3) (by repeat (first | with_reducible exact Below.refl _ _ | with_reducible assumption | with_reducible refine Below.drew ?_ | with_reducible refine Below.alloc ?_ (by first | exact Nat.le_refl _ | omega | (simp; done) | (simp; omega)) _ | with_reducible refine Below.setCell ?_ (by first | exact Nat.le_refl _ | omega | (simp; done) | (simp; omega)) _ | (with_reducible refine ext_trans ?_ (by with_reducible assumption)))))
  have hw3 : Below w.heap.size w w3 := (by repeat (first | with_reducible exact Below.refl _ _ | with_reducible assumption | with_reducible refine Below.drew ?_ | with_reducible refine Below.alloc ?_ (by first | exact Nat.le_refl _ | omega | (simp; done) | (simp; omega)) _ | with_reducible refine Below.setCell ?_ (by first | exact Nat.le_refl _ | omega | (simp; done) | (simp; omega)) _ | (with_reducible refine ext_trans ?_ (by with_reducible assumption))))
  have lRa_3 : w.heap.size < w3.heap.size := by omega
  have lRr_3 : w.heap.size + 1 < w3.heap.size := by omega
  have lRp_3 : w.heap.size + 2 < w3.heap.size := by omega
  have lRo_3 : w1.heap.size < w3.heap.size := by omega
  have lRf_3 : w2.heap.size < w3.heap.size := by omega
  have Ra_3 := Lib.hid ra_3
  have r0_ra_3 := cell_of_row _ _ 0 _ _ _ ra_3
  have r1_ra_3 := cell_of_row _ _ 1 _ _ _ ra_3
  have r2_ra_3 := cell_of_row _ _ 2 _ _ _ ra_3
  have f0_ra_3 := frozen_of_row _ _ 0 _ _ ra_3
  have f1_ra_3 := frozen_of_row _ _ 1 _ _ ra_3
  have f2_ra_3 := frozen_of_row _ _ 2 _ _ ra_3
  simp at r0_ra_3 r1_ra_3 r2_ra_3
  clear ra_3
  have Rr_3 := Lib.hid rr_3
  have r0_rr_3 := cell_of_row _ _ 0 _ _ _ rr_3
  have r1_rr_3 := cell_of_row _ _ 1 _ _ _ rr_3
  have r2_rr_3 := cell_of_row _ _ 2 _ _ _ rr_3
  have f0_rr_3 := frozen_of_row _ _ 0 _ _ rr_3
  have f1_rr_3 := frozen_of_row _ _ 1 _ _ rr_3
  have f2_rr_3 := frozen_of_row _ _ 2 _ _ rr_3
  simp at r0_rr_3 r1_rr_3 r2_rr_3
  clear rr_3
  have Rp_3 := Lib.hid rp_3
  have r0_rp_3 := cell_of_row _ _ 0 _ _ _ rp_3
  have r1_rp_3 := cell_of_row _ _ 1 _ _ _ rp_3
  have r2_rp_3 := cell_of_row _ _ 2 _ _ _ rp_3
  have r3_rp_3 := cell_of_row _ _ 3 _ _ _ rp_3
  have r4_rp_3 := cell_of_row _ _ 4 _ _ _ rp_3
  have r5_rp_3 := cell_of_row _ _ 5 _ _ _ rp_3
  have f0_rp_3 := frozen_of_row _ _ 0 _ _ rp_3
  have f1_rp_3 := frozen_of_row _ _ 1 _ _ rp_3
  have f2_rp_3 := frozen_of_row _ _ 2 _ _ rp_3
  have f3_rp_3 := frozen_of_row _ _ 3 _ _ rp_3
  have f4_rp_3 := frozen_of_row _ _ 4 _ _ rp_3
  have f5_rp_3 := frozen_of_row _ _ 5 _ _ rp_3
  simp at r0_rp_3 r1_rp_3 r2_rp_3 r3_rp_3 r4_rp_3 r5_rp_3
  clear rp_3
  have Ro_3 := Lib.hid ro_3
  have r0_ro_3 := cell_of_row _ _ 0 _ _ _ ro_3
  have r1_ro_3 := cell_of_row _ _ 1 _ _ _ ro_3
  have r2_ro_3 := cell_of_row _ _ 2 _ _ _ ro_3
  have f0_ro_3 := frozen_of_row _ _ 0 _ _ ro_3
  have f1_ro_3 := frozen_of_row _ _ 1 _ _ ro_3
  have f2_ro_3 := frozen_of_row _ _ 2 _ _ ro_3
  simp at r0_ro_3 r1_ro_3 r2_ro_3
  clear ro_3
  have Rf_3 := Lib.hid rf_3
  have r0_rf_3 := cell_of_row _ _ 0 _ _ _ rf_3
  have r1_rf_3 := cell_of_row _ _ 1 _ _ _ rf_3
  have r2_rf_3 := cell_of_row _ _ 2 _ _ _ rf_3
  have r3_rf_3 := cell_of_row _ _ 3 _ _ _ rf_3
  have f0_rf_3 := frozen_of_row _ _ 0 _ _ rf_3
  have f1_rf_3 := frozen_of_row _ _ 1 _ _ rf_3
  have f2_rf_3 := frozen_of_row _ _ 2 _ _ rf_3
  have f3_rf_3 := frozen_of_row _ _ 3 _ _ rf_3
  simp at r0_rf_3 r1_rf_3 r2_rf_3 r3_rf_3
  clear rf_3
  clear r0_ra_2 f0_ra_2 r1_ra_2 f1_ra_2 r2_ra_2 f2_ra_2
  clear r0_rr_2 f0_rr_2 r1_rr_2 f1_rr_2 r2_rr_2 f2_rr_2
  clear r0_rp_2 f0_rp_2 r1_rp_2 f1_rp_2 r2_rp_2 f2_rp_2 r3_rp_2 f3_rp_2 r4_rp_2 f4_rp_2 r5_rp_2 f5_rp_2
  clear r0_ro_2 f0_ro_2 r1_ro_2 f1_ro_2 r2_ro_2 f2_ro_2
  cases B0
  case false =>
    have HV : Hid (R = (l, 0, zPk, ⟨#[]⟩)) := (by rw [HE.out]; simp : R = (l, 0, zPk, ⟨#[]⟩))
    go_wp2_with fail
    apply bodyPost_ret (results_rtrt (P := Try.prog) (fn := Try.f42) rfl _ _ _ 37 _ (0, 0) _ _ 58 _ (0, 0) _ rfl rfl _ _ Try.underlying37 rfl _ Try.underlying58 rfl _) rfl
    rotate_left 3
    · repeat (first | (with_reducible apply heap_setCell_same) | (with_reducible apply drew_row) | (with_reducible apply drewN_row) | (with_reducible exact Rr_3.out) | (with_reducible refine (heap_setCell_other _ _ _ _ (by first | omega | (simp; done) | (simp; omega))).trans ?_) | (with_reducible refine (Below.heap_alloc _ _ _ (by first | omega | (simp; done) | (simp; omega))).trans ?_))
    · repeat (first | (with_reducible apply heap_setCell_same) | (with_reducible apply drew_row) | (with_reducible apply drewN_row) | (with_reducible exact Rp_3.out) | (with_reducible refine (heap_setCell_other _ _ _ _ (by first | omega | (simp; done) | (simp; omega))).trans ?_) | (with_reducible refine (Below.heap_alloc _ _ _ (by first | omega | (simp; done) | (simp; omega))).trans ?_))
    · kernel_rfl
    · kernel_rfl
    exact ⟨.slice A1 l.length c1, by rw [HV.out]; simp, by rw [HV.out]; show OwnEntry _ _ _ l; exact OwnE.mono (base := w.heap.size + 3) (by repeat (first | with_reducible exact Oo1_3.out | (with_reducible refine OwnE.setBelow ?_ (by first | (simp; done) | (simp; omega)) _) | with_reducible refine OwnE.alloc ?_ _ | with_reducible refine OwnE.drew ?_)) (by omega), (by repeat (first | with_reducible exact Below.refl _ _ | with_reducible assumption | with_reducible refine Below.drew ?_ | with_reducible refine Below.alloc ?_ (by first | exact Nat.le_refl _ | omega | (simp; done) | (simp; omega)) _ | with_reducible refine Below.setCell ?_ (by first | exact Nat.le_refl _ | omega | (simp; done) | (simp; omega)) _ | (with_reducible refine ext_trans ?_ (by with_reducible assumption))))⟩
  case true =>
    cases B
    case false =>
      have HV : Hid (R = (l, 0, zPk, ⟨#[]⟩)) := (by rw [HE.out]; simp : R = (l, 0, zPk, ⟨#[]⟩))
      go_wp2_with fail
      apply bodyPost_ret (results_rtrt (P := Try.prog) (fn := Try.f42) rfl _ _ _ 37 _ (0, 0) _ _ 58 _ (0, 0) _ rfl rfl _ _ Try.underlying37 rfl _ Try.underlying58 rfl _) rfl
      rotate_left 3
      · repeat (first | (with_reducible apply heap_setCell_same) | (with_reducible apply drew_row) | (with_reducible apply drewN_row) | (with_reducible exact Rr_3.out) | (with_reducible refine (heap_setCell_other _ _ _ _ (by first | omega | (simp; done) | (simp; omega))).trans ?_) | (with_reducible refine (Below.heap_alloc _ _ _ (by first | omega | (simp; done) | (simp; omega))).trans ?_))
      · repeat (first | (with_reducible apply heap_setCell_same) | (with_reducible apply drew_row) | (with_reducible apply drewN_row) | (with_reducible exact Rp_3.out) | (with_reducible refine (heap_setCell_other _ _ _ _ (by first | omega | (simp; done) | (simp; omega))).trans ?_) | (with_reducible refine (Below.heap_alloc _ _ _ (by first | omega | (simp; done) | (simp; omega))).trans ?_))
      · kernel_rfl
      · kernel_rfl
      exact ⟨.slice A1 l.length c1, by rw [HV.out]; simp, by rw [HV.out]; show OwnEntry _ _ _ l; exact OwnE.mono (base := w.heap.size + 3) (by repeat (first | with_reducible exact Oo1_3.out | (with_reducible refine OwnE.setBelow ?_ (by first | (simp; done) | (simp; omega)) _) | with_reducible refine OwnE.alloc ?_ _ | with_reducible refine OwnE.drew ?_)) (by omega), (by repeat (first | with_reducible exact Below.refl _ _ | with_reducible assumption | with_reducible refine Below.drew ?_ | with_reducible refine Below.alloc ?_ (by first | exact Nat.le_refl _ | omega | (simp; done) | (simp; omega)) _ | with_reducible refine Below.setCell ?_ (by first | exact Nat.le_refl _ | omega | (simp; done) | (simp; omega)) _ | (with_reducible refine ext_trans ?_ (by with_reducible assumption))))⟩
    case true =>
      go_wp2_with fail
      refine (Y3.out _).mono ?_
      rintro e w4 ⟨rfl, hb4⟩
      have hz4 := hb4.size
      (try simp at hz4)
      have ra_4 := (hb4.block _ (by first | omega | (simp; done) | (simp; omega))).trans Ra_3.out
      have rr_4 := (hb4.block _ (by first | omega | (simp; done) | (simp; omega))).trans Rr_3.out
      have rp_4 := (hb4.block _ (by first | omega | (simp; done) | (simp; omega))).trans Rp_3.out
      have ro_4 := (hb4.block _ (by first | omega | (simp; done) | (simp; omega))).trans Ro_3.out
      have rf_4 := (hb4.block _ (by first | omega | (simp; done) | (simp; omega))).trans Rf_3.out
      have Oo1_4 := Lib.hid (Oo1_3.out.below (w' := w4) (by repeat (first | with_reducible exact Below.refl _ _ | with_reducible assumption | with_reducible refine Below.drew ?_ | with_reducible refine Below.alloc ?_ (by first | exact Nat.le_refl _ | omega | (simp; done) | (simp; omega)) _ | with_reducible refine Below.setCell ?_ (by first | exact Nat.le_refl _ | omega | (simp; done) | (simp; omega)) _ | (with_reducible refine ext_trans ?_ (by with_reducible assumption)))))
      have hw4 : Below w.heap.size w w4 := (by repeat (first | with_reducible exact Below.refl _ _ | with_reducible assumption | with_reducible refine Below.drew ?_ | with_reducible refine Below.alloc ?_ (by first | exact Nat.le_refl _ | omega | (simp; done) | (simp; omega)) _ | with_reducible refine Below.setCell ?_ (by first | exact Nat.le_refl _ | omega | (simp; done) | (simp; omega)) _ | (with_reducible refine ext_trans ?_ (by with_reducible assumption))))
      have lRa_4 : w.heap.size < w4.heap.size := by omega
      have lRr_4 : w.heap.size + 1 < w4.heap.size := by omega
      have lRp_4 : w.heap.size + 2 < w4.heap.size := by omega
      have lRo_4 : w1.heap.size < w4.heap.size := by omega
      have lRf_4 : w2.heap.size < w4.heap.size := by omega
      have Ra_4 := Lib.hid ra_4
      have r0_ra_4 := cell_of_row _ _ 0 _ _ _ ra_4
      have r1_ra_4 := cell_of_row _ _ 1 _ _ _ ra_4
      have r2_ra_4 := cell_of_row _ _ 2 _ _ _ ra_4
      have f0_ra_4 := frozen_of_row _ _ 0 _ _ ra_4
      have f1_ra_4 := frozen_of_row _ _ 1 _ _ ra_4
      have f2_ra_4 := frozen_of_row _ _ 2 _ _ ra_4
      simp at r0_ra_4 r1_ra_4 r2_ra_4
      clear ra_4
      have Rr_4 := Lib.hid rr_4
      have r0_rr_4 := cell_of_row _ _ 0 _ _ _ rr_4
      have r1_rr_4 := cell_of_row _ _ 1 _ _ _ rr_4
      have r2_rr_4 := cell_of_row _ _ 2 _ _ _ rr_4
      have f0_rr_4 := frozen_of_row _ _ 0 _ _ rr_4
      have f1_rr_4 := frozen_of_row _ _ 1 _ _ rr_4
      have f2_rr_4 := frozen_of_row _ _ 2 _ _ rr_4
      simp at r0_rr_4 r1_rr_4 r2_rr_4
      clear rr_4
      have Rp_4 := Lib.hid rp_4
      have r0_rp_4 := cell_of_row _ _ 0 _ _ _ rp_4
      have r1_rp_4 := cell_of_row _ _ 1 _ _ _ rp_4
      have r2_rp_4 := cell_of_row _ _ 2 _ _ _ rp_4
      have r3_rp_4 := cell_of_row _ _ 3 _ _ _ rp_4
      have r4_rp_4 := cell_of_row _ _ 4 _ _ _ rp_4
      have r5_rp_4 := cell_of_row _ _ 5 _ _ _ rp_4
      have f0_rp_4 := frozen_of_row _ _ 0 _ _ rp_4
      have f1_rp_4 := frozen_of_row _ _ 1 _ _ rp_4
      have f2_rp_4 := frozen_of_row _ _ 2 _ _ rp_4
      have f3_rp_4 := frozen_of_row _ _ 3 _ _ rp_4
      have f4_rp_4 := frozen_of_row _ _ 4 _ _ rp_4
      have f5_rp_4 := frozen_of_row _ _ 5 _ _ rp_4
      simp at r0_rp_4 r1_rp_4 r2_rp_4 r3_rp_4 r4_rp_4 r5_rp_4
      clear rp_4
      have Ro_4 := Lib.hid ro_4
      have r0_ro_4 := cell_of_row _ _ 0 _ _ _ ro_4
      have r1_ro_4 := cell_of_row _ _ 1 _ _ _ ro_4
      have r2_ro_4 := cell_of_row _ _ 2 _ _ _ ro_4
      have f0_ro_4 := frozen_of_row _ _ 0 _ _ ro_4
      have f1_ro_4 := frozen_of_row _ _ 1 _ _ ro_4
      have f2_ro_4 := frozen_of_row _ _ 2 _ _ ro_4
      simp at r0_ro_4 r1_ro_4 r2_ro_4
      clear ro_4
      have Rf_4 := Lib.hid rf_4
      have r0_rf_4 := cell_of_row _ _ 0 _ _ _ rf_4
      have r1_rf_4 := cell_of_row _ _ 1 _ _ _ rf_4
      have r2_rf_4 := cell_of_row _ _ 2 _ _ _ rf_4
      have r3_rf_4 := cell_of_row _ _ 3 _ _ _ rf_4
      have f0_rf_4 := frozen_of_row _ _ 0 _ _ rf_4
      have f1_rf_4 := frozen_of_row _ _ 1 _ _ rf_4
      have f2_rf_4 := frozen_of_row _ _ 2 _ _ rf_4
      have f3_rf_4 := frozen_of_row _ _ 3 _ _ rf_4
      simp at r0_rf_4 r1_rf_4 r2_rf_4 r3_rf_4
      clear rf_4
      clear r0_ra_3 f0_ra_3 r1_ra_3 f1_ra_3 r2_ra_3 f2_ra_3
      clear r0_rr_3 f0_rr_3 r1_rr_3 f1_rr_3 r2_rr_3 f2_rr_3
      clear r0_rp_3 f0_rp_3 r1_rp_3 f1_rp_3 r2_rp_3 f2_rp_3 r3_rp_3 f3_rp_3 r4_rp_3 f4_rp_3 r5_rp_3 f5_rp_3
      clear r0_ro_3 f0_ro_3 r1_ro_3 f1_ro_3 r2_ro_3 f2_ro_3
      clear r0_rf_3 f0_rf_3 r1_rf_3 f1_rf_3 r2_rf_3 f2_rf_3 r3_rf_3 f3_rf_3
      cases FM
      case false =>
        have HV : Hid (R = (l, 0, zPk, ⟨#[]⟩)) := (by rw [HE.out]; simp : R = (l, 0, zPk, ⟨#[]⟩))
        go_wp2_with fail
        apply bodyPost_ret (results_rtrt (P := Try.prog) (fn := Try.f42) rfl _ _ _ 37 _ (0, 0) _ _ 58 _ (0, 0) _ rfl rfl _ _ Try.underlying37 rfl _ Try.underlying58 rfl _) rfl
        rotate_left 3
        · repeat (first | (with_reducible apply heap_setCell_same) | (with_reducible apply drew_row) | (with_reducible apply drewN_row) | (with_reducible exact Rr_4.out) | (with_reducible refine (heap_setCell_other _ _ _ _ (by first | omega | (simp; done) | (simp; omega))).trans ?_) | (with_reducible refine (Below.heap_alloc _ _ _ (by first | omega | (simp; done) | (simp; omega))).trans ?_))
        · repeat (first | (with_reducible apply heap_setCell_same) | (with_reducible apply drew_row) | (with_reducible apply drewN_row) | (with_reducible exact Rp_4.out) | (with_reducible refine (heap_setCell_other _ _ _ _ (by first | omega | (simp; done) | (simp; omega))).trans ?_) | (with_reducible refine (Below.heap_alloc _ _ _ (by first | omega | (simp; done) | (simp; omega))).trans ?_))
        · kernel_rfl
        · kernel_rfl
        exact ⟨.slice A1 l.length c1, by rw [HV.out]; simp, by rw [HV.out]; show OwnEntry _ _ _ l; exact OwnE.mono (base := w.heap.size + 3) (by repeat (first | with_reducible exact Oo1_4.out | (with_reducible refine OwnE.setBelow ?_ (by first | (simp; done) | (simp; omega)) _) | with_reducible refine OwnE.alloc ?_ _ | with_reducible refine OwnE.drew ?_)) (by omega), (by repeat (first | with_reducible exact Below.refl _ _ | with_reducible assumption | with_reducible refine Below.drew ?_ | with_reducible refine Below.alloc ?_ (by first | exact Nat.le_refl _ | omega | (simp; done) | (simp; omega)) _ | with_reducible refine Below.setCell ?_ (by first | exact Nat.le_refl _ | omega | (simp; done) | (simp; omega)) _ | (with_reducible refine ext_trans ?_ (by with_reducible assumption))))⟩
      case true =>
        by_cases h54 : f3 = 2054
        case pos =>
          subst h54
          have Y4 : Hid (∀ W, Calls Try.prog 74 #[.string f4] W fun e w' => e = .returned (.tuple #[.agg #[.int .i64 k1, .int .i64 k2, .int .i64 k3, .int .i64 k4, .int .i64 k5], .bool BA]) ∧ Below W.heap.size W w') := fun W => by
            have hh := ReadArp_any f4 h4z W
            unfold ArOut at hh
            rw [hA1, hA2] at hh
            exact hh
          go_wp2_with fail
          refine (Y4.out _).mono ?_
          rintro e w5 ⟨rfl, hb5⟩
          have hz5 := hb5.size
          (try simp at hz5)
          have ra_5 := (hb5.block _ (by first | omega | (simp; done) | (simp; omega))).trans Ra_4.out
          have rr_5 := (hb5.block _ (by first | omega | (simp; done) | (simp; omega))).trans Rr_4.out
          have rp_5 := (hb5.block _ (by first | omega | (simp; done) | (simp; omega))).trans Rp_4.out
          have ro_5 := (hb5.block _ (by first | omega | (simp; done) | (simp; omega))).trans Ro_4.out
          have rf_5 := (hb5.block _ (by first | omega | (simp; done) | (simp; omega))).trans Rf_4.out
          have Oo1_5 := Lib.hid (Oo1_4.out.below (w' := w5) (by repeat (first | with_reducible exact Below.refl _ _ | with_reducible assumption | with_reducible refine Below.drew ?_ | with_reducible refine Below.alloc ?_ (by first | exact Nat.le_refl _ | omega | (simp; done) | (simp; omega)) _ | with_reducible refine Below.setCell ?_ (by first | exact Nat.le_refl _ | omega | (simp; done) | (simp; omega)) _ | (with_reducible refine ext_trans ?_ (by with_reducible assumption)))))
          have hw5 : Below w.heap.size w w5 := (by repeat (first | with_reducible exact Below.refl _ _ | with_reducible assumption | with_reducible refine Below.drew ?_ | with_reducible refine Below.alloc ?_ (by first | exact Nat.le_refl _ | omega | (simp; done) | (simp; omega)) _ | with_reducible refine Below.setCell ?_ (by first | exact Nat.le_refl _ | omega | (simp; done) | (simp; omega)) _ | (with_reducible refine ext_trans ?_ (by with_reducible assumption))))
          have lRa_5 : w.heap.size < w5.heap.size := by omega
          have lRr_5 : w.heap.size + 1 < w5.heap.size := by omega
          have lRp_5 : w.heap.size + 2 < w5.heap.size := by omega
          have lRo_5 : w1.heap.size < w5.heap.size := by omega
          have lRf_5 : w2.heap.size < w5.heap.size := by omega
          have Ra_5 := Lib.hid ra_5
          have r0_ra_5 := cell_of_row _ _ 0 _ _ _ ra_5
          have r1_ra_5 := cell_of_row _ _ 1 _ _ _ ra_5
          have r2_ra_5 := cell_of_row _ _ 2 _ _ _ ra_5
          have f0_ra_5 := frozen_of_row _ _ 0 _ _ ra_5
          have f1_ra_5 := frozen_of_row _ _ 1 _ _ ra_5
          have f2_ra_5 := frozen_of_row _ _ 2 _ _ ra_5
          simp at r0_ra_5 r1_ra_5 r2_ra_5
          clear ra_5
          have Rr_5 := Lib.hid rr_5
          have r0_rr_5 := cell_of_row _ _ 0 _ _ _ rr_5
          have r1_rr_5 := cell_of_row _ _ 1 _ _ _ rr_5
          have r2_rr_5 := cell_of_row _ _ 2 _ _ _ rr_5
          have f0_rr_5 := frozen_of_row _ _ 0 _ _ rr_5
          have f1_rr_5 := frozen_of_row _ _ 1 _ _ rr_5
          have f2_rr_5 := frozen_of_row _ _ 2 _ _ rr_5
          simp at r0_rr_5 r1_rr_5 r2_rr_5
          clear rr_5
          have Rp_5 := Lib.hid rp_5
          have r0_rp_5 := cell_of_row _ _ 0 _ _ _ rp_5
          have r1_rp_5 := cell_of_row _ _ 1 _ _ _ rp_5
          have r2_rp_5 := cell_of_row _ _ 2 _ _ _ rp_5
          have r3_rp_5 := cell_of_row _ _ 3 _ _ _ rp_5
          have r4_rp_5 := cell_of_row _ _ 4 _ _ _ rp_5
          have r5_rp_5 := cell_of_row _ _ 5 _ _ _ rp_5
          have f0_rp_5 := frozen_of_row _ _ 0 _ _ rp_5
          have f1_rp_5 := frozen_of_row _ _ 1 _ _ rp_5
          have f2_rp_5 := frozen_of_row _ _ 2 _ _ rp_5
          have f3_rp_5 := frozen_of_row _ _ 3 _ _ rp_5
          have f4_rp_5 := frozen_of_row _ _ 4 _ _ rp_5
          have f5_rp_5 := frozen_of_row _ _ 5 _ _ rp_5
          simp at r0_rp_5 r1_rp_5 r2_rp_5 r3_rp_5 r4_rp_5 r5_rp_5
          clear rp_5
          have Ro_5 := Lib.hid ro_5
          have r0_ro_5 := cell_of_row _ _ 0 _ _ _ ro_5
          have r1_ro_5 := cell_of_row _ _ 1 _ _ _ ro_5
          have r2_ro_5 := cell_of_row _ _ 2 _ _ _ ro_5
          have f0_ro_5 := frozen_of_row _ _ 0 _ _ ro_5
          have f1_ro_5 := frozen_of_row _ _ 1 _ _ ro_5
          have f2_ro_5 := frozen_of_row _ _ 2 _ _ ro_5
          simp at r0_ro_5 r1_ro_5 r2_ro_5
          clear ro_5
          have Rf_5 := Lib.hid rf_5
          have r0_rf_5 := cell_of_row _ _ 0 _ _ _ rf_5
          have r1_rf_5 := cell_of_row _ _ 1 _ _ _ rf_5
          have r2_rf_5 := cell_of_row _ _ 2 _ _ _ rf_5
          have r3_rf_5 := cell_of_row _ _ 3 _ _ _ rf_5
          have f0_rf_5 := frozen_of_row _ _ 0 _ _ rf_5
          have f1_rf_5 := frozen_of_row _ _ 1 _ _ rf_5
          have f2_rf_5 := frozen_of_row _ _ 2 _ _ rf_5
          have f3_rf_5 := frozen_of_row _ _ 3 _ _ rf_5
          simp at r0_rf_5 r1_rf_5 r2_rf_5 r3_rf_5
          clear rf_5
          clear r0_ra_4 f0_ra_4 r1_ra_4 f1_ra_4 r2_ra_4 f2_ra_4
          clear r0_rr_4 f0_rr_4 r1_rr_4 f1_rr_4 r2_rr_4 f2_rr_4
          clear r0_rp_4 f0_rp_4 r1_rp_4 f1_rp_4 r2_rp_4 f2_rp_4 r3_rp_4 f3_rp_4 r4_rp_4 f4_rp_4 r5_rp_4 f5_rp_4
          clear r0_ro_4 f0_ro_4 r1_ro_4 f1_ro_4 r2_ro_4 f2_ro_4
          clear r0_rf_4 f0_rf_4 r1_rf_4 f1_rf_4 r2_rf_4 f2_rf_4 r3_rf_4 f3_rf_4
          cases BA
          case false =>
            have HV : Hid (R = (l, 0, zPk, ⟨#[]⟩)) := (by rw [HE.out]; simp : R = (l, 0, zPk, ⟨#[]⟩))
            go_wp2_with fail
            apply bodyPost_ret (results_rtrt (P := Try.prog) (fn := Try.f42) rfl _ _ _ 37 _ (0, 0) _ _ 58 _ (0, 0) _ rfl rfl _ _ Try.underlying37 rfl _ Try.underlying58 rfl _) rfl
            rotate_left 3
            · repeat (first | (with_reducible apply heap_setCell_same) | (with_reducible apply drew_row) | (with_reducible apply drewN_row) | (with_reducible exact Rr_5.out) | (with_reducible refine (heap_setCell_other _ _ _ _ (by first | omega | (simp; done) | (simp; omega))).trans ?_) | (with_reducible refine (Below.heap_alloc _ _ _ (by first | omega | (simp; done) | (simp; omega))).trans ?_))
            · repeat (first | (with_reducible apply heap_setCell_same) | (with_reducible apply drew_row) | (with_reducible apply drewN_row) | (with_reducible exact Rp_5.out) | (with_reducible refine (heap_setCell_other _ _ _ _ (by first | omega | (simp; done) | (simp; omega))).trans ?_) | (with_reducible refine (Below.heap_alloc _ _ _ (by first | omega | (simp; done) | (simp; omega))).trans ?_))
            · kernel_rfl
            · kernel_rfl
            exact ⟨.slice A1 l.length c1, by rw [HV.out]; simp, by rw [HV.out]; show OwnEntry _ _ _ l; exact OwnE.mono (base := w.heap.size + 3) (by repeat (first | with_reducible exact Oo1_5.out | (with_reducible refine OwnE.setBelow ?_ (by first | (simp; done) | (simp; omega)) _) | with_reducible refine OwnE.alloc ?_ _ | with_reducible refine OwnE.drew ?_)) (by omega), (by repeat (first | with_reducible exact Below.refl _ _ | with_reducible assumption | with_reducible refine Below.drew ?_ | with_reducible refine Below.alloc ?_ (by first | exact Nat.le_refl _ | omega | (simp; done) | (simp; omega)) _ | with_reducible refine Below.setCell ?_ (by first | exact Nat.le_refl _ | omega | (simp; done) | (simp; omega)) _ | (with_reducible refine ext_trans ?_ (by with_reducible assumption))))⟩
          case true =>
            by_cases h5 : k5 = q
            case neg =>
              have HV : Hid (R = (l, 0, zPk, ⟨#[]⟩)) := (by rw [HE.out]; simp [h5] : R = (l, 0, zPk, ⟨#[]⟩))
              go_wp2_with fail
              apply bodyPost_ret (results_rtrt (P := Try.prog) (fn := Try.f42) rfl _ _ _ 37 _ (0, 0) _ _ 58 _ (0, 0) _ rfl rfl _ _ Try.underlying37 rfl _ Try.underlying58 rfl _) rfl
              rotate_left 3
              · repeat (first | (with_reducible apply heap_setCell_same) | (with_reducible apply drew_row) | (with_reducible apply drewN_row) | (with_reducible exact Rr_5.out) | (with_reducible refine (heap_setCell_other _ _ _ _ (by first | omega | (simp; done) | (simp; omega))).trans ?_) | (with_reducible refine (Below.heap_alloc _ _ _ (by first | omega | (simp; done) | (simp; omega))).trans ?_))
              · repeat (first | (with_reducible apply heap_setCell_same) | (with_reducible apply drew_row) | (with_reducible apply drewN_row) | (with_reducible exact Rp_5.out) | (with_reducible refine (heap_setCell_other _ _ _ _ (by first | omega | (simp; done) | (simp; omega))).trans ?_) | (with_reducible refine (Below.heap_alloc _ _ _ (by first | omega | (simp; done) | (simp; omega))).trans ?_))
              · kernel_rfl
              · kernel_rfl
              exact ⟨.slice A1 l.length c1, by rw [HV.out]; simp, by rw [HV.out]; show OwnEntry _ _ _ l; exact OwnE.mono (base := w.heap.size + 3) (by repeat (first | with_reducible exact Oo1_5.out | (with_reducible refine OwnE.setBelow ?_ (by first | (simp; done) | (simp; omega)) _) | with_reducible refine OwnE.alloc ?_ _ | with_reducible refine OwnE.drew ?_)) (by omega), (by repeat (first | with_reducible exact Below.refl _ _ | with_reducible assumption | with_reducible refine Below.drew ?_ | with_reducible refine Below.alloc ?_ (by first | exact Nat.le_refl _ | omega | (simp; done) | (simp; omega)) _ | with_reducible refine Below.setCell ?_ (by first | exact Nat.le_refl _ | omega | (simp; done) | (simp; omega)) _ | (with_reducible refine ext_trans ?_ (by with_reducible assumption))))⟩
            case pos =>
              obtain rfl : q = k5 := h5.symm
              obtain ⟨r, hr⟩ : ∃ r, learnedR l k3 k2 = r := ⟨_, rfl⟩
              rw [hr] at HE
              have y5 := fun W h => Learned_any (.slice A l.length c) l k3 k2 ML.out W h
              rw [hr] at y5
              have Y5 := Lib.hid y5
              clear y5 hr
              go_wp2_with fail
              refine (Y5.out _ (H.out.below (by repeat (first | with_reducible exact Below.refl _ _ | with_reducible assumption | with_reducible refine Below.drew ?_ | with_reducible refine Below.alloc ?_ (by first | exact Nat.le_refl _ | omega | (simp; done) | (simp; omega)) _ | with_reducible refine Below.setCell ?_ (by first | exact Nat.le_refl _ | omega | (simp; done) | (simp; omega)) _ | (with_reducible refine ext_trans ?_ (by with_reducible assumption)))))).mono ?_
              rintro e w6 ⟨v6, rfl, hO6, hb6⟩
              obtain ⟨A6, c6, rfl⟩ := hO6.form
              have Og1_6 := Lib.hid (OwnE.mono (base' := w5.heap.size + 1) hO6 (by first | exact Nat.le_refl _ | (simp; done) | (simp; omega)))
              have Bg1 := Og1_6
              have hz6 := hb6.size
              (try simp at hz6)
              have ra_6 := (hb6.block _ (by first | omega | (simp; done) | (simp; omega))).trans ((Below.heap_alloc _ _ _ (by first | exact lRa_5 | (simp; omega))).trans Ra_5.out)
              have rr_6 := (hb6.block _ (by first | omega | (simp; done) | (simp; omega))).trans ((Below.heap_alloc _ _ _ (by first | exact lRr_5 | (simp; omega))).trans Rr_5.out)
              have rp_6 := (hb6.block _ (by first | omega | (simp; done) | (simp; omega))).trans ((Below.heap_alloc _ _ _ (by first | exact lRp_5 | (simp; omega))).trans Rp_5.out)
              have ro_6 := (hb6.block _ (by first | omega | (simp; done) | (simp; omega))).trans ((Below.heap_alloc _ _ _ (by first | exact lRo_5 | (simp; omega))).trans Ro_5.out)
              have rf_6 := (hb6.block _ (by first | omega | (simp; done) | (simp; omega))).trans ((Below.heap_alloc _ _ _ (by first | exact lRf_5 | (simp; omega))).trans Rf_5.out)
              have rk_6 : w6.heap[w5.heap.size]? = some (.cells #[.int .i64 k1, .int .i64 k2, .int .i64 k3, .int .i64 k4, .int .i64 q] 91 (0, 0)) := (hb6.block _ (by first | (simp; done) | (simp; omega))).trans (by repeat (first | exact heap_new _ _ _ (by first | rfl | (simp; done) | (simp; omega)) | refine (Below.heap_alloc _ _ _ (by first | omega | (simp; done) | (simp; omega))).trans ?_))
              have Oo1_6 := Lib.hid (Oo1_5.out.below (w' := w6) (by repeat (first | with_reducible exact Below.refl _ _ | with_reducible assumption | with_reducible refine Below.drew ?_ | with_reducible refine Below.alloc ?_ (by first | exact Nat.le_refl _ | omega | (simp; done) | (simp; omega)) _ | with_reducible refine Below.setCell ?_ (by first | exact Nat.le_refl _ | omega | (simp; done) | (simp; omega)) _ | (with_reducible refine ext_trans ?_ (by with_reducible assumption)))))
              have hw6 : Below w.heap.size w w6 := (by repeat (first | with_reducible exact Below.refl _ _ | with_reducible assumption | with_reducible refine Below.drew ?_ | with_reducible refine Below.alloc ?_ (by first | exact Nat.le_refl _ | omega | (simp; done) | (simp; omega)) _ | with_reducible refine Below.setCell ?_ (by first | exact Nat.le_refl _ | omega | (simp; done) | (simp; omega)) _ | (with_reducible refine ext_trans ?_ (by with_reducible assumption))))
              have lRa_6 : w.heap.size < w6.heap.size := by omega
              have lRr_6 : w.heap.size + 1 < w6.heap.size := by omega
              have lRp_6 : w.heap.size + 2 < w6.heap.size := by omega
              have lRo_6 : w1.heap.size < w6.heap.size := by omega
              have lRf_6 : w2.heap.size < w6.heap.size := by omega
              have lRk_6 : w5.heap.size < w6.heap.size := by omega
              have Ra_6 := Lib.hid ra_6
              have r0_ra_6 := cell_of_row _ _ 0 _ _ _ ra_6
              have r1_ra_6 := cell_of_row _ _ 1 _ _ _ ra_6
              have r2_ra_6 := cell_of_row _ _ 2 _ _ _ ra_6
              have f0_ra_6 := frozen_of_row _ _ 0 _ _ ra_6
              have f1_ra_6 := frozen_of_row _ _ 1 _ _ ra_6
              have f2_ra_6 := frozen_of_row _ _ 2 _ _ ra_6
              simp at r0_ra_6 r1_ra_6 r2_ra_6
              clear ra_6
              have Rr_6 := Lib.hid rr_6
              have r0_rr_6 := cell_of_row _ _ 0 _ _ _ rr_6
              have r1_rr_6 := cell_of_row _ _ 1 _ _ _ rr_6
              have r2_rr_6 := cell_of_row _ _ 2 _ _ _ rr_6
              have f0_rr_6 := frozen_of_row _ _ 0 _ _ rr_6
              have f1_rr_6 := frozen_of_row _ _ 1 _ _ rr_6
              have f2_rr_6 := frozen_of_row _ _ 2 _ _ rr_6
              simp at r0_rr_6 r1_rr_6 r2_rr_6
              clear rr_6
              have Rp_6 := Lib.hid rp_6
              have r0_rp_6 := cell_of_row _ _ 0 _ _ _ rp_6
              have r1_rp_6 := cell_of_row _ _ 1 _ _ _ rp_6
              have r2_rp_6 := cell_of_row _ _ 2 _ _ _ rp_6
              have r3_rp_6 := cell_of_row _ _ 3 _ _ _ rp_6
              have r4_rp_6 := cell_of_row _ _ 4 _ _ _ rp_6
              have r5_rp_6 := cell_of_row _ _ 5 _ _ _ rp_6
              have f0_rp_6 := frozen_of_row _ _ 0 _ _ rp_6
              have f1_rp_6 := frozen_of_row _ _ 1 _ _ rp_6
              have f2_rp_6 := frozen_of_row _ _ 2 _ _ rp_6
              have f3_rp_6 := frozen_of_row _ _ 3 _ _ rp_6
              have f4_rp_6 := frozen_of_row _ _ 4 _ _ rp_6
              have f5_rp_6 := frozen_of_row _ _ 5 _ _ rp_6
              simp at r0_rp_6 r1_rp_6 r2_rp_6 r3_rp_6 r4_rp_6 r5_rp_6
              clear rp_6
              have Ro_6 := Lib.hid ro_6
              have r0_ro_6 := cell_of_row _ _ 0 _ _ _ ro_6
              have r1_ro_6 := cell_of_row _ _ 1 _ _ _ ro_6
              have r2_ro_6 := cell_of_row _ _ 2 _ _ _ ro_6
              have f0_ro_6 := frozen_of_row _ _ 0 _ _ ro_6
              have f1_ro_6 := frozen_of_row _ _ 1 _ _ ro_6
              have f2_ro_6 := frozen_of_row _ _ 2 _ _ ro_6
              simp at r0_ro_6 r1_ro_6 r2_ro_6
              clear ro_6
              have Rf_6 := Lib.hid rf_6
              have r0_rf_6 := cell_of_row _ _ 0 _ _ _ rf_6
              have r1_rf_6 := cell_of_row _ _ 1 _ _ _ rf_6
              have r2_rf_6 := cell_of_row _ _ 2 _ _ _ rf_6
              have r3_rf_6 := cell_of_row _ _ 3 _ _ _ rf_6
              have f0_rf_6 := frozen_of_row _ _ 0 _ _ rf_6
              have f1_rf_6 := frozen_of_row _ _ 1 _ _ rf_6
              have f2_rf_6 := frozen_of_row _ _ 2 _ _ rf_6
              have f3_rf_6 := frozen_of_row _ _ 3 _ _ rf_6
              simp at r0_rf_6 r1_rf_6 r2_rf_6 r3_rf_6
              clear rf_6
              have Rk_6 := Lib.hid rk_6
              have r0_rk_6 := cell_of_row _ _ 0 _ _ _ rk_6
              have r1_rk_6 := cell_of_row _ _ 1 _ _ _ rk_6
              have r2_rk_6 := cell_of_row _ _ 2 _ _ _ rk_6
              have r3_rk_6 := cell_of_row _ _ 3 _ _ _ rk_6
              have r4_rk_6 := cell_of_row _ _ 4 _ _ _ rk_6
              have f0_rk_6 := frozen_of_row _ _ 0 _ _ rk_6
              have f1_rk_6 := frozen_of_row _ _ 1 _ _ rk_6
              have f2_rk_6 := frozen_of_row _ _ 2 _ _ rk_6
              have f3_rk_6 := frozen_of_row _ _ 3 _ _ rk_6
              have f4_rk_6 := frozen_of_row _ _ 4 _ _ rk_6
              simp at r0_rk_6 r1_rk_6 r2_rk_6 r3_rk_6 r4_rk_6
              clear rk_6
              clear r0_ra_5 f0_ra_5 r1_ra_5 f1_ra_5 r2_ra_5 f2_ra_5
              clear r0_rr_5 f0_rr_5 r1_rr_5 f1_rr_5 r2_rr_5 f2_rr_5
              clear r0_rp_5 f0_rp_5 r1_rp_5 f1_rp_5 r2_rp_5 f2_rp_5 r3_rp_5 f3_rp_5 r4_rp_5 f4_rp_5 r5_rp_5 f5_rp_5
              clear r0_ro_5 f0_ro_5 r1_ro_5 f1_ro_5 r2_ro_5 f2_ro_5
              clear r0_rf_5 f0_rf_5 r1_rf_5 f1_rf_5 r2_rf_5 f2_rf_5 r3_rf_5 f3_rf_5
              go_wp2_with fail
              have ra_7 := (heap_setCell_other w6 ⟨w1.heap.size, 2, none⟩ _ (.slice A6 r.length c6) (by first | omega | (simp; omega))).trans Ra_6.out
              have rr_7 := (heap_setCell_other w6 ⟨w1.heap.size, 2, none⟩ _ (.slice A6 r.length c6) (by first | omega | (simp; omega))).trans Rr_6.out
              have rp_7 := (heap_setCell_other w6 ⟨w1.heap.size, 2, none⟩ _ (.slice A6 r.length c6) (by first | omega | (simp; omega))).trans Rp_6.out
              have ro_7 : (w6.setCell ⟨w1.heap.size, 2, none⟩ (.slice A6 r.length c6)).heap[w1.heap.size]? = some (.cells #[.int .i64 m, .int .i64 q, (.slice A6 r.length c6)] 37 (0, 0)) := (heap_setCell_same _ _ 2 _ _ (.slice A6 r.length c6) Ro_6.out).trans (by simp)
              have rf_7 := (heap_setCell_other w6 ⟨w1.heap.size, 2, none⟩ _ (.slice A6 r.length c6) (by first | omega | (simp; omega))).trans Rf_6.out
              have rk_7 := (heap_setCell_other w6 ⟨w1.heap.size, 2, none⟩ _ (.slice A6 r.length c6) (by first | omega | (simp; omega))).trans Rk_6.out
              have Og1_7 := Lib.hid (OwnE.setBelow Og1_6.out (a := ⟨w1.heap.size, 2, none⟩) (by first | (simp; done) | (simp; omega)) (.slice A6 r.length c6))
              have hw7 : Below w.heap.size w (w6.setCell ⟨w1.heap.size, 2, none⟩ (.slice A6 r.length c6)) := (by repeat (first | with_reducible exact Below.refl _ _ | with_reducible assumption | with_reducible refine Below.drew ?_ | with_reducible refine Below.alloc ?_ (by first | exact Nat.le_refl _ | omega | (simp; done) | (simp; omega)) _ | with_reducible refine Below.setCell ?_ (by first | exact Nat.le_refl _ | omega | (simp; done) | (simp; omega)) _ | (with_reducible refine ext_trans ?_ (by with_reducible assumption))))
              have hz7 : w6.heap.size ≤ (w6.setCell ⟨w1.heap.size, 2, none⟩ (.slice A6 r.length c6)).heap.size := by simp
              generalize (w6.setCell ⟨w1.heap.size, 2, none⟩ (.slice A6 r.length c6)) = w7 at *
              have lRa_7 : w.heap.size < w7.heap.size := by omega
              have lRr_7 : w.heap.size + 1 < w7.heap.size := by omega
              have lRp_7 : w.heap.size + 2 < w7.heap.size := by omega
              have lRo_7 : w1.heap.size < w7.heap.size := by omega
              have lRf_7 : w2.heap.size < w7.heap.size := by omega
              have lRk_7 : w5.heap.size < w7.heap.size := by omega
              clear r0_ra_6 f0_ra_6 r1_ra_6 f1_ra_6 r2_ra_6 f2_ra_6
              clear r0_rr_6 f0_rr_6 r1_rr_6 f1_rr_6 r2_rr_6 f2_rr_6
              clear r0_rp_6 f0_rp_6 r1_rp_6 f1_rp_6 r2_rp_6 f2_rp_6 r3_rp_6 f3_rp_6 r4_rp_6 f4_rp_6 r5_rp_6 f5_rp_6
              clear r0_ro_6 f0_ro_6 r1_ro_6 f1_ro_6 r2_ro_6 f2_ro_6
              clear r0_rf_6 f0_rf_6 r1_rf_6 f1_rf_6 r2_rf_6 f2_rf_6 r3_rf_6 f3_rf_6
              clear r0_rk_6 f0_rk_6 r1_rk_6 f1_rk_6 r2_rk_6 f2_rk_6 r3_rk_6 f3_rk_6 r4_rk_6 f4_rk_6
              have Ra_7 := Lib.hid ra_7
              have r0_ra_7 := cell_of_row _ _ 0 _ _ _ ra_7
              have r1_ra_7 := cell_of_row _ _ 1 _ _ _ ra_7
              have r2_ra_7 := cell_of_row _ _ 2 _ _ _ ra_7
              have f0_ra_7 := frozen_of_row _ _ 0 _ _ ra_7
              have f1_ra_7 := frozen_of_row _ _ 1 _ _ ra_7
              have f2_ra_7 := frozen_of_row _ _ 2 _ _ ra_7
              simp at r0_ra_7 r1_ra_7 r2_ra_7
              clear ra_7
              have Rr_7 := Lib.hid rr_7
              have r0_rr_7 := cell_of_row _ _ 0 _ _ _ rr_7
              have r1_rr_7 := cell_of_row _ _ 1 _ _ _ rr_7
              have r2_rr_7 := cell_of_row _ _ 2 _ _ _ rr_7
              have f0_rr_7 := frozen_of_row _ _ 0 _ _ rr_7
              have f1_rr_7 := frozen_of_row _ _ 1 _ _ rr_7
              have f2_rr_7 := frozen_of_row _ _ 2 _ _ rr_7
              simp at r0_rr_7 r1_rr_7 r2_rr_7
              clear rr_7
              have Rp_7 := Lib.hid rp_7
              have r0_rp_7 := cell_of_row _ _ 0 _ _ _ rp_7
              have r1_rp_7 := cell_of_row _ _ 1 _ _ _ rp_7
              have r2_rp_7 := cell_of_row _ _ 2 _ _ _ rp_7
              have r3_rp_7 := cell_of_row _ _ 3 _ _ _ rp_7
              have r4_rp_7 := cell_of_row _ _ 4 _ _ _ rp_7
              have r5_rp_7 := cell_of_row _ _ 5 _ _ _ rp_7
              have f0_rp_7 := frozen_of_row _ _ 0 _ _ rp_7
              have f1_rp_7 := frozen_of_row _ _ 1 _ _ rp_7
              have f2_rp_7 := frozen_of_row _ _ 2 _ _ rp_7
              have f3_rp_7 := frozen_of_row _ _ 3 _ _ rp_7
              have f4_rp_7 := frozen_of_row _ _ 4 _ _ rp_7
              have f5_rp_7 := frozen_of_row _ _ 5 _ _ rp_7
              simp at r0_rp_7 r1_rp_7 r2_rp_7 r3_rp_7 r4_rp_7 r5_rp_7
              clear rp_7
              have Ro_7 := Lib.hid ro_7
              have r0_ro_7 := cell_of_row _ _ 0 _ _ _ ro_7
              have r1_ro_7 := cell_of_row _ _ 1 _ _ _ ro_7
              have r2_ro_7 := cell_of_row _ _ 2 _ _ _ ro_7
              have f0_ro_7 := frozen_of_row _ _ 0 _ _ ro_7
              have f1_ro_7 := frozen_of_row _ _ 1 _ _ ro_7
              have f2_ro_7 := frozen_of_row _ _ 2 _ _ ro_7
              simp at r0_ro_7 r1_ro_7 r2_ro_7
              clear ro_7
              have Rf_7 := Lib.hid rf_7
              have r0_rf_7 := cell_of_row _ _ 0 _ _ _ rf_7
              have r1_rf_7 := cell_of_row _ _ 1 _ _ _ rf_7
              have r2_rf_7 := cell_of_row _ _ 2 _ _ _ rf_7
              have r3_rf_7 := cell_of_row _ _ 3 _ _ _ rf_7
              have f0_rf_7 := frozen_of_row _ _ 0 _ _ rf_7
              have f1_rf_7 := frozen_of_row _ _ 1 _ _ rf_7
              have f2_rf_7 := frozen_of_row _ _ 2 _ _ rf_7
              have f3_rf_7 := frozen_of_row _ _ 3 _ _ rf_7
              simp at r0_rf_7 r1_rf_7 r2_rf_7 r3_rf_7
              clear rf_7
              have Rk_7 := Lib.hid rk_7
              have r0_rk_7 := cell_of_row _ _ 0 _ _ _ rk_7
              have r1_rk_7 := cell_of_row _ _ 1 _ _ _ rk_7
              have r2_rk_7 := cell_of_row _ _ 2 _ _ _ rk_7
              have r3_rk_7 := cell_of_row _ _ 3 _ _ _ rk_7
              have r4_rk_7 := cell_of_row _ _ 4 _ _ _ rk_7
              have f0_rk_7 := frozen_of_row _ _ 0 _ _ rk_7
              have f1_rk_7 := frozen_of_row _ _ 1 _ _ rk_7
              have f2_rk_7 := frozen_of_row _ _ 2 _ _ rk_7
              have f3_rk_7 := frozen_of_row _ _ 3 _ _ rk_7
              have f4_rk_7 := frozen_of_row _ _ 4 _ _ rk_7
              simp at r0_rk_7 r1_rk_7 r2_rk_7 r3_rk_7 r4_rk_7
              clear rk_7
              have y6 := fun W => ArpReply_any k1 k2 k3 k4 q m q W
              cases hrb : repB k1 k2 k3 q m q
              case false =>
                have hrr : repR k1 k2 k3 q m q = .agg #[.int .i64 0, .int .i64 0, .int .i64 0, .int .i64 0, .int .i64 0] := by (unfold repR; rw [hrb]; rfl)
                rw [hrr, hrb] at y6
                have Y6 := Lib.hid y6
                clear y6 hrr
                have HV : Hid (R = (r, 0, zPk, ⟨#[]⟩)) := (by rw [HE.out, hrb]; simp : R = (r, 0, zPk, ⟨#[]⟩))
                clear hrb
                go_wp2_with fail
                refine (Y6.out _).mono ?_
                rintro e w8 ⟨rfl, hb8⟩
                have hz8 := hb8.size
                (try simp at hz8)
                have ra_8 := (hb8.block _ (by first | omega | (simp; done) | (simp; omega))).trans Ra_7.out
                have rr_8 := (hb8.block _ (by first | omega | (simp; done) | (simp; omega))).trans Rr_7.out
                have rp_8 := (hb8.block _ (by first | omega | (simp; done) | (simp; omega))).trans Rp_7.out
                have ro_8 := (hb8.block _ (by first | omega | (simp; done) | (simp; omega))).trans Ro_7.out
                have rf_8 := (hb8.block _ (by first | omega | (simp; done) | (simp; omega))).trans Rf_7.out
                have rk_8 := (hb8.block _ (by first | omega | (simp; done) | (simp; omega))).trans Rk_7.out
                have Og1_8 := Lib.hid (Og1_7.out.below (w' := w8) (by repeat (first | with_reducible exact Below.refl _ _ | with_reducible assumption | with_reducible refine Below.drew ?_ | with_reducible refine Below.alloc ?_ (by first | exact Nat.le_refl _ | omega | (simp; done) | (simp; omega)) _ | with_reducible refine Below.setCell ?_ (by first | exact Nat.le_refl _ | omega | (simp; done) | (simp; omega)) _ | (with_reducible refine ext_trans ?_ (by with_reducible assumption)))))
                have hw8 : Below w.heap.size w w8 := (by repeat (first | with_reducible exact Below.refl _ _ | with_reducible assumption | with_reducible refine Below.drew ?_ | with_reducible refine Below.alloc ?_ (by first | exact Nat.le_refl _ | omega | (simp; done) | (simp; omega)) _ | with_reducible refine Below.setCell ?_ (by first | exact Nat.le_refl _ | omega | (simp; done) | (simp; omega)) _ | (with_reducible refine ext_trans ?_ (by with_reducible assumption))))
                have lRa_8 : w.heap.size < w8.heap.size := by omega
                have lRr_8 : w.heap.size + 1 < w8.heap.size := by omega
                have lRp_8 : w.heap.size + 2 < w8.heap.size := by omega
                have lRo_8 : w1.heap.size < w8.heap.size := by omega
                have lRf_8 : w2.heap.size < w8.heap.size := by omega
                have lRk_8 : w5.heap.size < w8.heap.size := by omega
                have Ra_8 := Lib.hid ra_8
                have r0_ra_8 := cell_of_row _ _ 0 _ _ _ ra_8
                have r1_ra_8 := cell_of_row _ _ 1 _ _ _ ra_8
                have r2_ra_8 := cell_of_row _ _ 2 _ _ _ ra_8
                have f0_ra_8 := frozen_of_row _ _ 0 _ _ ra_8
                have f1_ra_8 := frozen_of_row _ _ 1 _ _ ra_8
                have f2_ra_8 := frozen_of_row _ _ 2 _ _ ra_8
                simp at r0_ra_8 r1_ra_8 r2_ra_8
                clear ra_8
                have Rr_8 := Lib.hid rr_8
                have r0_rr_8 := cell_of_row _ _ 0 _ _ _ rr_8
                have r1_rr_8 := cell_of_row _ _ 1 _ _ _ rr_8
                have r2_rr_8 := cell_of_row _ _ 2 _ _ _ rr_8
                have f0_rr_8 := frozen_of_row _ _ 0 _ _ rr_8
                have f1_rr_8 := frozen_of_row _ _ 1 _ _ rr_8
                have f2_rr_8 := frozen_of_row _ _ 2 _ _ rr_8
                simp at r0_rr_8 r1_rr_8 r2_rr_8
                clear rr_8
                have Rp_8 := Lib.hid rp_8
                have r0_rp_8 := cell_of_row _ _ 0 _ _ _ rp_8
                have r1_rp_8 := cell_of_row _ _ 1 _ _ _ rp_8
                have r2_rp_8 := cell_of_row _ _ 2 _ _ _ rp_8
                have r3_rp_8 := cell_of_row _ _ 3 _ _ _ rp_8
                have r4_rp_8 := cell_of_row _ _ 4 _ _ _ rp_8
                have r5_rp_8 := cell_of_row _ _ 5 _ _ _ rp_8
                have f0_rp_8 := frozen_of_row _ _ 0 _ _ rp_8
                have f1_rp_8 := frozen_of_row _ _ 1 _ _ rp_8
                have f2_rp_8 := frozen_of_row _ _ 2 _ _ rp_8
                have f3_rp_8 := frozen_of_row _ _ 3 _ _ rp_8
                have f4_rp_8 := frozen_of_row _ _ 4 _ _ rp_8
                have f5_rp_8 := frozen_of_row _ _ 5 _ _ rp_8
                simp at r0_rp_8 r1_rp_8 r2_rp_8 r3_rp_8 r4_rp_8 r5_rp_8
                clear rp_8
                have Ro_8 := Lib.hid ro_8
                have r0_ro_8 := cell_of_row _ _ 0 _ _ _ ro_8
                have r1_ro_8 := cell_of_row _ _ 1 _ _ _ ro_8
                have r2_ro_8 := cell_of_row _ _ 2 _ _ _ ro_8
                have f0_ro_8 := frozen_of_row _ _ 0 _ _ ro_8
                have f1_ro_8 := frozen_of_row _ _ 1 _ _ ro_8
                have f2_ro_8 := frozen_of_row _ _ 2 _ _ ro_8
                simp at r0_ro_8 r1_ro_8 r2_ro_8
                clear ro_8
                have Rf_8 := Lib.hid rf_8
                have r0_rf_8 := cell_of_row _ _ 0 _ _ _ rf_8
                have r1_rf_8 := cell_of_row _ _ 1 _ _ _ rf_8
                have r2_rf_8 := cell_of_row _ _ 2 _ _ _ rf_8
                have r3_rf_8 := cell_of_row _ _ 3 _ _ _ rf_8
                have f0_rf_8 := frozen_of_row _ _ 0 _ _ rf_8
                have f1_rf_8 := frozen_of_row _ _ 1 _ _ rf_8
                have f2_rf_8 := frozen_of_row _ _ 2 _ _ rf_8
                have f3_rf_8 := frozen_of_row _ _ 3 _ _ rf_8
                simp at r0_rf_8 r1_rf_8 r2_rf_8 r3_rf_8
                clear rf_8
                have Rk_8 := Lib.hid rk_8
                have r0_rk_8 := cell_of_row _ _ 0 _ _ _ rk_8
                have r1_rk_8 := cell_of_row _ _ 1 _ _ _ rk_8
                have r2_rk_8 := cell_of_row _ _ 2 _ _ _ rk_8
                have r3_rk_8 := cell_of_row _ _ 3 _ _ _ rk_8
                have r4_rk_8 := cell_of_row _ _ 4 _ _ _ rk_8
                have f0_rk_8 := frozen_of_row _ _ 0 _ _ rk_8
                have f1_rk_8 := frozen_of_row _ _ 1 _ _ rk_8
                have f2_rk_8 := frozen_of_row _ _ 2 _ _ rk_8
                have f3_rk_8 := frozen_of_row _ _ 3 _ _ rk_8
                have f4_rk_8 := frozen_of_row _ _ 4 _ _ rk_8
                simp at r0_rk_8 r1_rk_8 r2_rk_8 r3_rk_8 r4_rk_8
                clear rk_8
                clear r0_ra_7 f0_ra_7 r1_ra_7 f1_ra_7 r2_ra_7 f2_ra_7
                clear r0_rr_7 f0_rr_7 r1_rr_7 f1_rr_7 r2_rr_7 f2_rr_7
                clear r0_rp_7 f0_rp_7 r1_rp_7 f1_rp_7 r2_rp_7 f2_rp_7 r3_rp_7 f3_rp_7 r4_rp_7 f4_rp_7 r5_rp_7 f5_rp_7
                clear r0_ro_7 f0_ro_7 r1_ro_7 f1_ro_7 r2_ro_7 f2_ro_7
                clear r0_rf_7 f0_rf_7 r1_rf_7 f1_rf_7 r2_rf_7 f2_rf_7 r3_rf_7 f3_rf_7
                clear r0_rk_7 f0_rk_7 r1_rk_7 f1_rk_7 r2_rk_7 f2_rk_7 r3_rk_7 f3_rk_7 r4_rk_7 f4_rk_7
                go_wp2_with fail
                apply bodyPost_ret (results_rtrt (P := Try.prog) (fn := Try.f42) rfl _ _ _ 37 _ (0, 0) _ _ 58 _ (0, 0) _ rfl rfl _ _ Try.underlying37 rfl _ Try.underlying58 rfl _) rfl
                rotate_left 3
                · repeat (first | (with_reducible apply heap_setCell_same) | (with_reducible apply drew_row) | (with_reducible apply drewN_row) | (with_reducible exact Rr_8.out) | (with_reducible refine (heap_setCell_other _ _ _ _ (by first | omega | (simp; done) | (simp; omega))).trans ?_) | (with_reducible refine (Below.heap_alloc _ _ _ (by first | omega | (simp; done) | (simp; omega))).trans ?_))
                · repeat (first | (with_reducible apply heap_setCell_same) | (with_reducible apply drew_row) | (with_reducible apply drewN_row) | (with_reducible exact Rp_8.out) | (with_reducible refine (heap_setCell_other _ _ _ _ (by first | omega | (simp; done) | (simp; omega))).trans ?_) | (with_reducible refine (Below.heap_alloc _ _ _ (by first | omega | (simp; done) | (simp; omega))).trans ?_))
                · kernel_rfl
                · kernel_rfl
                have OGG := OwnE.mono (base' := w.heap.size + 3) Og1_8.out (by omega)
                exact ⟨_, by rw [HV.out]; first | rfl | (simp; done) | (simp; rfl), by rw [HV.out]; show OwnEntry _ _ _ r; exact OwnE.mono (base := w.heap.size + 3) (by repeat (first | with_reducible exact OGG | (with_reducible refine OwnE.setBelow ?_ (by first | (simp; done) | (simp; omega)) _) | with_reducible refine OwnE.alloc ?_ _ | with_reducible refine OwnE.drew ?_)) (by omega), (by repeat (first | with_reducible exact Below.refl _ _ | with_reducible assumption | with_reducible refine Below.drew ?_ | with_reducible refine Below.alloc ?_ (by first | exact Nat.le_refl _ | omega | (simp; done) | (simp; omega)) _ | with_reducible refine Below.setCell ?_ (by first | exact Nat.le_refl _ | omega | (simp; done) | (simp; omega)) _ | (with_reducible refine ext_trans ?_ (by with_reducible assumption))))⟩
              case true =>
                have hrr : repR k1 k2 k3 q m q = .agg #[.int .i64 2, .int .i64 m, .int .i64 q, .int .i64 k2, .int .i64 k3] := by (unfold repR; rw [hrb]; rfl)
                rw [hrr, hrb] at y6
                have Y6 := Lib.hid y6
                clear y6 hrr
                obtain ⟨TS, hTS⟩ : ∃ X, arpS 2 m q k2 k3 = X := ⟨_, rfl⟩
                obtain ⟨F, hFF⟩ : ∃ X, frameS k2 m 2054 TS = X := ⟨_, rfl⟩
                have HV : Hid (R = (r, 1, zPk, F)) := (by rw [HE.out, hrb, hTS, hFF]; simp : R = (r, 1, zPk, F))
                have y7 := fun W => ArpText_any 2 m q k2 k3 W
                rw [hTS] at y7
                have Y7 := Lib.hid y7
                have y8 := fun W => FrameText_any k2 m 2054 TS W
                rw [hFF] at y8
                have Y8 := Lib.hid y8
                clear y7 y8 hTS hFF hrb
                go_wp2_with fail
                refine (Y6.out _).mono ?_
                rintro e w8 ⟨rfl, hb8⟩
                have hz8 := hb8.size
                (try simp at hz8)
                have ra_8 := (hb8.block _ (by first | omega | (simp; done) | (simp; omega))).trans Ra_7.out
                have rr_8 := (hb8.block _ (by first | omega | (simp; done) | (simp; omega))).trans Rr_7.out
                have rp_8 := (hb8.block _ (by first | omega | (simp; done) | (simp; omega))).trans Rp_7.out
                have ro_8 := (hb8.block _ (by first | omega | (simp; done) | (simp; omega))).trans Ro_7.out
                have rf_8 := (hb8.block _ (by first | omega | (simp; done) | (simp; omega))).trans Rf_7.out
                have rk_8 := (hb8.block _ (by first | omega | (simp; done) | (simp; omega))).trans Rk_7.out
                have Og1_8 := Lib.hid (Og1_7.out.below (w' := w8) (by repeat (first | with_reducible exact Below.refl _ _ | with_reducible assumption | with_reducible refine Below.drew ?_ | with_reducible refine Below.alloc ?_ (by first | exact Nat.le_refl _ | omega | (simp; done) | (simp; omega)) _ | with_reducible refine Below.setCell ?_ (by first | exact Nat.le_refl _ | omega | (simp; done) | (simp; omega)) _ | (with_reducible refine ext_trans ?_ (by with_reducible assumption)))))
                have hw8 : Below w.heap.size w w8 := (by repeat (first | with_reducible exact Below.refl _ _ | with_reducible assumption | with_reducible refine Below.drew ?_ | with_reducible refine Below.alloc ?_ (by first | exact Nat.le_refl _ | omega | (simp; done) | (simp; omega)) _ | with_reducible refine Below.setCell ?_ (by first | exact Nat.le_refl _ | omega | (simp; done) | (simp; omega)) _ | (with_reducible refine ext_trans ?_ (by with_reducible assumption))))
                have lRa_8 : w.heap.size < w8.heap.size := by omega
                have lRr_8 : w.heap.size + 1 < w8.heap.size := by omega
                have lRp_8 : w.heap.size + 2 < w8.heap.size := by omega
                have lRo_8 : w1.heap.size < w8.heap.size := by omega
                have lRf_8 : w2.heap.size < w8.heap.size := by omega
                have lRk_8 : w5.heap.size < w8.heap.size := by omega
                have Ra_8 := Lib.hid ra_8
                have r0_ra_8 := cell_of_row _ _ 0 _ _ _ ra_8
                have r1_ra_8 := cell_of_row _ _ 1 _ _ _ ra_8
                have r2_ra_8 := cell_of_row _ _ 2 _ _ _ ra_8
                have f0_ra_8 := frozen_of_row _ _ 0 _ _ ra_8
                have f1_ra_8 := frozen_of_row _ _ 1 _ _ ra_8
                have f2_ra_8 := frozen_of_row _ _ 2 _ _ ra_8
                simp at r0_ra_8 r1_ra_8 r2_ra_8
                clear ra_8
                have Rr_8 := Lib.hid rr_8
                have r0_rr_8 := cell_of_row _ _ 0 _ _ _ rr_8
                have r1_rr_8 := cell_of_row _ _ 1 _ _ _ rr_8
                have r2_rr_8 := cell_of_row _ _ 2 _ _ _ rr_8
                have f0_rr_8 := frozen_of_row _ _ 0 _ _ rr_8
                have f1_rr_8 := frozen_of_row _ _ 1 _ _ rr_8
                have f2_rr_8 := frozen_of_row _ _ 2 _ _ rr_8
                simp at r0_rr_8 r1_rr_8 r2_rr_8
                clear rr_8
                have Rp_8 := Lib.hid rp_8
                have r0_rp_8 := cell_of_row _ _ 0 _ _ _ rp_8
                have r1_rp_8 := cell_of_row _ _ 1 _ _ _ rp_8
                have r2_rp_8 := cell_of_row _ _ 2 _ _ _ rp_8
                have r3_rp_8 := cell_of_row _ _ 3 _ _ _ rp_8
                have r4_rp_8 := cell_of_row _ _ 4 _ _ _ rp_8
                have r5_rp_8 := cell_of_row _ _ 5 _ _ _ rp_8
                have f0_rp_8 := frozen_of_row _ _ 0 _ _ rp_8
                have f1_rp_8 := frozen_of_row _ _ 1 _ _ rp_8
                have f2_rp_8 := frozen_of_row _ _ 2 _ _ rp_8
                have f3_rp_8 := frozen_of_row _ _ 3 _ _ rp_8
                have f4_rp_8 := frozen_of_row _ _ 4 _ _ rp_8
                have f5_rp_8 := frozen_of_row _ _ 5 _ _ rp_8
                simp at r0_rp_8 r1_rp_8 r2_rp_8 r3_rp_8 r4_rp_8 r5_rp_8
                clear rp_8
                have Ro_8 := Lib.hid ro_8
                have r0_ro_8 := cell_of_row _ _ 0 _ _ _ ro_8
                have r1_ro_8 := cell_of_row _ _ 1 _ _ _ ro_8
                have r2_ro_8 := cell_of_row _ _ 2 _ _ _ ro_8
                have f0_ro_8 := frozen_of_row _ _ 0 _ _ ro_8
                have f1_ro_8 := frozen_of_row _ _ 1 _ _ ro_8
                have f2_ro_8 := frozen_of_row _ _ 2 _ _ ro_8
                simp at r0_ro_8 r1_ro_8 r2_ro_8
                clear ro_8
                have Rf_8 := Lib.hid rf_8
                have r0_rf_8 := cell_of_row _ _ 0 _ _ _ rf_8
                have r1_rf_8 := cell_of_row _ _ 1 _ _ _ rf_8
                have r2_rf_8 := cell_of_row _ _ 2 _ _ _ rf_8
                have r3_rf_8 := cell_of_row _ _ 3 _ _ _ rf_8
                have f0_rf_8 := frozen_of_row _ _ 0 _ _ rf_8
                have f1_rf_8 := frozen_of_row _ _ 1 _ _ rf_8
                have f2_rf_8 := frozen_of_row _ _ 2 _ _ rf_8
                have f3_rf_8 := frozen_of_row _ _ 3 _ _ rf_8
                simp at r0_rf_8 r1_rf_8 r2_rf_8 r3_rf_8
                clear rf_8
                have Rk_8 := Lib.hid rk_8
                have r0_rk_8 := cell_of_row _ _ 0 _ _ _ rk_8
                have r1_rk_8 := cell_of_row _ _ 1 _ _ _ rk_8
                have r2_rk_8 := cell_of_row _ _ 2 _ _ _ rk_8
                have r3_rk_8 := cell_of_row _ _ 3 _ _ _ rk_8
                have r4_rk_8 := cell_of_row _ _ 4 _ _ _ rk_8
                have f0_rk_8 := frozen_of_row _ _ 0 _ _ rk_8
                have f1_rk_8 := frozen_of_row _ _ 1 _ _ rk_8
                have f2_rk_8 := frozen_of_row _ _ 2 _ _ rk_8
                have f3_rk_8 := frozen_of_row _ _ 3 _ _ rk_8
                have f4_rk_8 := frozen_of_row _ _ 4 _ _ rk_8
                simp at r0_rk_8 r1_rk_8 r2_rk_8 r3_rk_8 r4_rk_8
                clear rk_8
                clear r0_ra_7 f0_ra_7 r1_ra_7 f1_ra_7 r2_ra_7 f2_ra_7
                clear r0_rr_7 f0_rr_7 r1_rr_7 f1_rr_7 r2_rr_7 f2_rr_7
                clear r0_rp_7 f0_rp_7 r1_rp_7 f1_rp_7 r2_rp_7 f2_rp_7 r3_rp_7 f3_rp_7 r4_rp_7 f4_rp_7 r5_rp_7 f5_rp_7
                clear r0_ro_7 f0_ro_7 r1_ro_7 f1_ro_7 r2_ro_7 f2_ro_7
                clear r0_rf_7 f0_rf_7 r1_rf_7 f1_rf_7 r2_rf_7 f2_rf_7 r3_rf_7 f3_rf_7
                clear r0_rk_7 f0_rk_7 r1_rk_7 f1_rk_7 r2_rk_7 f2_rk_7 r3_rk_7 f3_rk_7 r4_rk_7 f4_rk_7
                go_wp2_with fail
                have hb9 : Below w8.heap.size w8 (w8.alloc (.cells #[.int .i64 2, .int .i64 m, .int .i64 q, .int .i64 k2, .int .i64 k3] 91)) := (by repeat (first | with_reducible exact Below.refl _ _ | with_reducible assumption | with_reducible refine Below.drew ?_ | with_reducible refine Below.alloc ?_ (by first | exact Nat.le_refl _ | omega | (simp; done) | (simp; omega)) _ | with_reducible refine Below.setCell ?_ (by first | exact Nat.le_refl _ | omega | (simp; done) | (simp; omega)) _ | (with_reducible refine ext_trans ?_ (by with_reducible assumption))))
                have rz_9 : (w8.alloc (.cells #[.int .i64 2, .int .i64 m, .int .i64 q, .int .i64 k2, .int .i64 k3] 91)).heap[w8.heap.size]? = some (.cells #[.int .i64 2, .int .i64 m, .int .i64 q, .int .i64 k2, .int .i64 k3] 91 (0, 0)) := (by repeat (first | exact heap_new _ _ _ (by first | rfl | (simp; done) | (simp; omega)) | refine (Below.heap_alloc _ _ _ (by first | omega | (simp; done) | (simp; omega))).trans ?_))
                have lNz_9 : w8.heap.size < (w8.alloc (.cells #[.int .i64 2, .int .i64 m, .int .i64 q, .int .i64 k2, .int .i64 k3] 91)).heap.size := by simp
                generalize (w8.alloc (.cells #[.int .i64 2, .int .i64 m, .int .i64 q, .int .i64 k2, .int .i64 k3] 91)) = w9 at *
                have hz9 := hb9.size
                (try simp at hz9)
                have ra_9 := (hb9.block _ (by first | omega | (simp; done) | (simp; omega))).trans Ra_8.out
                have rr_9 := (hb9.block _ (by first | omega | (simp; done) | (simp; omega))).trans Rr_8.out
                have rp_9 := (hb9.block _ (by first | omega | (simp; done) | (simp; omega))).trans Rp_8.out
                have ro_9 := (hb9.block _ (by first | omega | (simp; done) | (simp; omega))).trans Ro_8.out
                have rf_9 := (hb9.block _ (by first | omega | (simp; done) | (simp; omega))).trans Rf_8.out
                have rk_9 := (hb9.block _ (by first | omega | (simp; done) | (simp; omega))).trans Rk_8.out
                have Og1_9 := Lib.hid (Og1_8.out.below (w' := w9) (by repeat (first | with_reducible exact Below.refl _ _ | with_reducible assumption | with_reducible refine Below.drew ?_ | with_reducible refine Below.alloc ?_ (by first | exact Nat.le_refl _ | omega | (simp; done) | (simp; omega)) _ | with_reducible refine Below.setCell ?_ (by first | exact Nat.le_refl _ | omega | (simp; done) | (simp; omega)) _ | (with_reducible refine ext_trans ?_ (by with_reducible assumption)))))
                have hw9 : Below w.heap.size w w9 := (by repeat (first | with_reducible exact Below.refl _ _ | with_reducible assumption | with_reducible refine Below.drew ?_ | with_reducible refine Below.alloc ?_ (by first | exact Nat.le_refl _ | omega | (simp; done) | (simp; omega)) _ | with_reducible refine Below.setCell ?_ (by first | exact Nat.le_refl _ | omega | (simp; done) | (simp; omega)) _ | (with_reducible refine ext_trans ?_ (by with_reducible assumption))))
                have lRa_9 : w.heap.size < w9.heap.size := by omega
                have lRr_9 : w.heap.size + 1 < w9.heap.size := by omega
                have lRp_9 : w.heap.size + 2 < w9.heap.size := by omega
                have lRo_9 : w1.heap.size < w9.heap.size := by omega
                have lRf_9 : w2.heap.size < w9.heap.size := by omega
                have lRk_9 : w5.heap.size < w9.heap.size := by omega
                have lRz_9 : w8.heap.size < w9.heap.size := by omega
                have Ra_9 := Lib.hid ra_9
                have r0_ra_9 := cell_of_row _ _ 0 _ _ _ ra_9
                have r1_ra_9 := cell_of_row _ _ 1 _ _ _ ra_9
                have r2_ra_9 := cell_of_row _ _ 2 _ _ _ ra_9
                have f0_ra_9 := frozen_of_row _ _ 0 _ _ ra_9
                have f1_ra_9 := frozen_of_row _ _ 1 _ _ ra_9
                have f2_ra_9 := frozen_of_row _ _ 2 _ _ ra_9
                simp at r0_ra_9 r1_ra_9 r2_ra_9
                clear ra_9
                have Rr_9 := Lib.hid rr_9
                have r0_rr_9 := cell_of_row _ _ 0 _ _ _ rr_9
                have r1_rr_9 := cell_of_row _ _ 1 _ _ _ rr_9
                have r2_rr_9 := cell_of_row _ _ 2 _ _ _ rr_9
                have f0_rr_9 := frozen_of_row _ _ 0 _ _ rr_9
                have f1_rr_9 := frozen_of_row _ _ 1 _ _ rr_9
                have f2_rr_9 := frozen_of_row _ _ 2 _ _ rr_9
                simp at r0_rr_9 r1_rr_9 r2_rr_9
                clear rr_9
                have Rp_9 := Lib.hid rp_9
                have r0_rp_9 := cell_of_row _ _ 0 _ _ _ rp_9
                have r1_rp_9 := cell_of_row _ _ 1 _ _ _ rp_9
                have r2_rp_9 := cell_of_row _ _ 2 _ _ _ rp_9
                have r3_rp_9 := cell_of_row _ _ 3 _ _ _ rp_9
                have r4_rp_9 := cell_of_row _ _ 4 _ _ _ rp_9
                have r5_rp_9 := cell_of_row _ _ 5 _ _ _ rp_9
                have f0_rp_9 := frozen_of_row _ _ 0 _ _ rp_9
                have f1_rp_9 := frozen_of_row _ _ 1 _ _ rp_9
                have f2_rp_9 := frozen_of_row _ _ 2 _ _ rp_9
                have f3_rp_9 := frozen_of_row _ _ 3 _ _ rp_9
                have f4_rp_9 := frozen_of_row _ _ 4 _ _ rp_9
                have f5_rp_9 := frozen_of_row _ _ 5 _ _ rp_9
                simp at r0_rp_9 r1_rp_9 r2_rp_9 r3_rp_9 r4_rp_9 r5_rp_9
                clear rp_9
                have Ro_9 := Lib.hid ro_9
                have r0_ro_9 := cell_of_row _ _ 0 _ _ _ ro_9
                have r1_ro_9 := cell_of_row _ _ 1 _ _ _ ro_9
                have r2_ro_9 := cell_of_row _ _ 2 _ _ _ ro_9
                have f0_ro_9 := frozen_of_row _ _ 0 _ _ ro_9
                have f1_ro_9 := frozen_of_row _ _ 1 _ _ ro_9
                have f2_ro_9 := frozen_of_row _ _ 2 _ _ ro_9
                simp at r0_ro_9 r1_ro_9 r2_ro_9
                clear ro_9
                have Rf_9 := Lib.hid rf_9
                have r0_rf_9 := cell_of_row _ _ 0 _ _ _ rf_9
                have r1_rf_9 := cell_of_row _ _ 1 _ _ _ rf_9
                have r2_rf_9 := cell_of_row _ _ 2 _ _ _ rf_9
                have r3_rf_9 := cell_of_row _ _ 3 _ _ _ rf_9
                have f0_rf_9 := frozen_of_row _ _ 0 _ _ rf_9
                have f1_rf_9 := frozen_of_row _ _ 1 _ _ rf_9
                have f2_rf_9 := frozen_of_row _ _ 2 _ _ rf_9
                have f3_rf_9 := frozen_of_row _ _ 3 _ _ rf_9
                simp at r0_rf_9 r1_rf_9 r2_rf_9 r3_rf_9
                clear rf_9
                have Rk_9 := Lib.hid rk_9
                have r0_rk_9 := cell_of_row _ _ 0 _ _ _ rk_9
                have r1_rk_9 := cell_of_row _ _ 1 _ _ _ rk_9
                have r2_rk_9 := cell_of_row _ _ 2 _ _ _ rk_9
                have r3_rk_9 := cell_of_row _ _ 3 _ _ _ rk_9
                have r4_rk_9 := cell_of_row _ _ 4 _ _ _ rk_9
                have f0_rk_9 := frozen_of_row _ _ 0 _ _ rk_9
                have f1_rk_9 := frozen_of_row _ _ 1 _ _ rk_9
                have f2_rk_9 := frozen_of_row _ _ 2 _ _ rk_9
                have f3_rk_9 := frozen_of_row _ _ 3 _ _ rk_9
                have f4_rk_9 := frozen_of_row _ _ 4 _ _ rk_9
                simp at r0_rk_9 r1_rk_9 r2_rk_9 r3_rk_9 r4_rk_9
                clear rk_9
                have Rz_9 := Lib.hid rz_9
                have r0_rz_9 := cell_of_row _ _ 0 _ _ _ rz_9
                have r1_rz_9 := cell_of_row _ _ 1 _ _ _ rz_9
                have r2_rz_9 := cell_of_row _ _ 2 _ _ _ rz_9
                have r3_rz_9 := cell_of_row _ _ 3 _ _ _ rz_9
                have r4_rz_9 := cell_of_row _ _ 4 _ _ _ rz_9
                have f0_rz_9 := frozen_of_row _ _ 0 _ _ rz_9
                have f1_rz_9 := frozen_of_row _ _ 1 _ _ rz_9
                have f2_rz_9 := frozen_of_row _ _ 2 _ _ rz_9
                have f3_rz_9 := frozen_of_row _ _ 3 _ _ rz_9
                have f4_rz_9 := frozen_of_row _ _ 4 _ _ rz_9
                simp at r0_rz_9 r1_rz_9 r2_rz_9 r3_rz_9 r4_rz_9
                clear rz_9
                clear r0_ra_8 f0_ra_8 r1_ra_8 f1_ra_8 r2_ra_8 f2_ra_8
                clear r0_rr_8 f0_rr_8 r1_rr_8 f1_rr_8 r2_rr_8 f2_rr_8
                clear r0_rp_8 f0_rp_8 r1_rp_8 f1_rp_8 r2_rp_8 f2_rp_8 r3_rp_8 f3_rp_8 r4_rp_8 f4_rp_8 r5_rp_8 f5_rp_8
                clear r0_ro_8 f0_ro_8 r1_ro_8 f1_ro_8 r2_ro_8 f2_ro_8
                clear r0_rf_8 f0_rf_8 r1_rf_8 f1_rf_8 r2_rf_8 f2_rf_8 r3_rf_8 f3_rf_8
                clear r0_rk_8 f0_rk_8 r1_rk_8 f1_rk_8 r2_rk_8 f2_rk_8 r3_rk_8 f3_rk_8 r4_rk_8 f4_rk_8
                go_wp2_with fail
                refine wp_region_noPanic ?_
                refine wp_region_owed (S := (fun w' => (∀ b' o, b' < w9.heap.size → w'.cell? ⟨b', o, none⟩ = w9.cell? ⟨b', o, none⟩) ∧ Below w9.heap.size w9 w')) (B := (fun i => i != 1 && i != 10 && i != 11 && i != 12 && i != 13)) (by kernel_rfl) (rg_start _) (fun hHeld => ?_)
                refine owed_take_free (fun k => List.elem k [12, 13]) (i := 1) (oi := _) (v := ?v1_1) rfl (by kernel_rfl) (by kernel_rfl) (by kernel_rfl) (fun _ _ _ h => h) (Or.inl ⟨by rfl, ?hy1_1⟩) (by rfl) ?rest1_1
                case hy1_1 => ((intro w _; go_simp); (try with_reducible rfl))
                (try simp only [Act.put, List.getElem_toArray, List.getElem_cons_succ, List.getElem_cons_zero, List.setIfInBounds_toArray, List.set_cons_zero, List.set_cons_succ])
                refine owed_take (fun k => List.elem k [10, 11, 12, 13]) (i := 0) (oi := _) (v := ?v0_2) rfl (by kernel_rfl) (by kernel_rfl) (by kernel_rfl) (fun _ _ _ h => h) (Or.inl ⟨by rfl, ?hy0_2⟩) (by with_reducible assumption) ?rest0_2
                case hy0_2 => ((intro w hSw; (try dsimp only at hSw); go_simp); (try with_reducible rfl))
                (try simp only [Act.put, List.getElem_toArray, List.getElem_cons_succ, List.getElem_cons_zero, List.setIfInBounds_toArray, List.set_cons_zero, List.set_cons_succ])
                refine owed_take (fun k => List.elem k [3, 8, 9, 10, 11, 12, 13]) (i := 2) (oi := _) (v := ?v2_3) rfl (by kernel_rfl) (by kernel_rfl) (by kernel_rfl) (fun _ _ _ h => h) (Or.inl ⟨by rfl, ?hy2_3⟩) (by with_reducible assumption) ?rest2_3
                case hy2_3 => ((intro w hSw; (try dsimp only at hSw); go_simp); (try with_reducible rfl))
                (try simp only [Act.put, List.getElem_toArray, List.getElem_cons_succ, List.getElem_cons_zero, List.setIfInBounds_toArray, List.set_cons_zero, List.set_cons_succ])
                refine owed_take (fun k => List.elem k [8, 9, 10, 11, 12, 13]) (i := 3) (oi := _) (v := ?v3_4) rfl (by kernel_rfl) (by kernel_rfl) (by kernel_rfl) (fun _ _ _ h => h) (Or.inl ⟨by rfl, ?hy3_4⟩) (by with_reducible assumption) ?rest3_4
                case hy3_4 => ((intro w hSw; (try dsimp only at hSw); go_simp); (try with_reducible rfl))
                (try simp only [Act.put, List.getElem_toArray, List.getElem_cons_succ, List.getElem_cons_zero, List.setIfInBounds_toArray, List.set_cons_zero, List.set_cons_succ])
                refine owed_take (fun k => List.elem k [5, 8, 9, 10, 11, 12, 13]) (i := 4) (oi := _) (v := ?v4_5) rfl (by kernel_rfl) (by kernel_rfl) (by kernel_rfl) (fun _ _ _ h => h) (Or.inl ⟨by rfl, ?hy4_5⟩) (by with_reducible assumption) ?rest4_5
                case hy4_5 => ((intro w hSw; (try dsimp only at hSw); go_simp); (try with_reducible rfl))
                (try simp only [Act.put, List.getElem_toArray, List.getElem_cons_succ, List.getElem_cons_zero, List.setIfInBounds_toArray, List.set_cons_zero, List.set_cons_succ])
                refine owed_take (fun k => List.elem k [8, 9, 10, 11, 12, 13]) (i := 5) (oi := _) (v := ?v5_6) rfl (by kernel_rfl) (by kernel_rfl) (by kernel_rfl) (fun _ _ _ h => h) (Or.inl ⟨by rfl, ?hy5_6⟩) (by with_reducible assumption) ?rest5_6
                case hy5_6 => ((intro w hSw; (try dsimp only at hSw); go_simp); (try with_reducible rfl))
                (try simp only [Act.put, List.getElem_toArray, List.getElem_cons_succ, List.getElem_cons_zero, List.setIfInBounds_toArray, List.set_cons_zero, List.set_cons_succ])
                refine owed_take (fun k => List.elem k [7, 8, 9, 10, 11, 12, 13]) (i := 6) (oi := _) (v := ?v6_7) rfl (by kernel_rfl) (by kernel_rfl) (by kernel_rfl) (fun _ _ _ h => h) (Or.inl ⟨by rfl, ?hy6_7⟩) (by with_reducible assumption) ?rest6_7
                case hy6_7 => ((intro w hSw; (try dsimp only at hSw); go_simp); (try with_reducible rfl))
                (try simp only [Act.put, List.getElem_toArray, List.getElem_cons_succ, List.getElem_cons_zero, List.setIfInBounds_toArray, List.set_cons_zero, List.set_cons_succ])
                refine owed_ready (rs := [7]) (by kernel_rfl) (by simp) ?_
                refine owedEach.cons (o := _) rfl (fun K hK => ?_) owedEach.nil
                go_simp
                go_at_call 76; ((with_reducible refine (Y7.out _).mono ?_); (rintro e wA ⟨rfl, hbA⟩; have hSA := rg_keepK (by first | with_reducible assumption | exact KeptS.out (by with_reducible assumption)) hbA))
                go_wp2_with fail
                refine hK.out _ _ ?_ (fun hHeld => ?_)
                · intro _
                  (try dsimp only)
                  (first | with_reducible assumption | (with_reducible apply rg_keep; rotate_left; with_reducible assumption; with_reducible assumption) | with_reducible exact rg_start _ | with_reducible exact rg_alloc (KeptS.out (by with_reducible assumption)) _ | with_reducible exact rg_alloc (by with_reducible assumption) _ | with_reducible exact rg_start_alloc _ _ | ((repeat (with_reducible refine rg_set ?_ _ (by first | exact Nat.le_refl _ | omega | (simp; done) | (simp; omega)) _)); first | with_reducible exact KeptS.out (by with_reducible assumption) | with_reducible assumption | with_reducible exact rg_alloc (KeptS.out (by with_reducible assumption)) _))
                clear hK K
                replace hHeld := hHeld rfl
                (try simp only [Act.put, List.getElem_toArray, List.getElem_cons_succ, List.getElem_cons_zero, List.setIfInBounds_toArray, List.set_cons_zero, List.set_cons_succ])
                refine owed_take (fun k => List.elem k [9, 10, 11, 12, 13]) (i := 8) (oi := _) (v := ?v8_8) rfl (by kernel_rfl) (by kernel_rfl) (by kernel_rfl) (fun _ _ _ h => h) (Or.inl ⟨by rfl, ?hy8_8⟩) (by with_reducible assumption) ?rest8_8
                case hy8_8 => ((intro w hSw; (try dsimp only at hSw); go_simp); (try with_reducible rfl))
                (try simp only [Act.put, List.getElem_toArray, List.getElem_cons_succ, List.getElem_cons_zero, List.setIfInBounds_toArray, List.set_cons_zero, List.set_cons_succ])
                refine owed_ready (rs := [9]) (by kernel_rfl) (by simp) ?_
                refine owedEach.cons (o := _) rfl (fun K hK => ?_) owedEach.nil
                go_simp
                go_at_call 67; ((with_reducible refine (Y8.out _).mono ?_); (rintro e wB ⟨rfl, hbB⟩; have hSB := rg_keepK (by first | with_reducible assumption | exact KeptS.out (by with_reducible assumption)) hbB; have hLB := hSB.size; have hBB := (KeptS.out hSB).2; have rrB := (hBB.block _ lRr_9).trans Rr_9.out; have HrB := Lib.hid rrB; have r0_rrB := cell_of_row _ _ 0 _ _ _ rrB; have r1_rrB := cell_of_row _ _ 1 _ _ _ rrB; have r2_rrB := cell_of_row _ _ 2 _ _ _ rrB; have f0_rrB := frozen_of_row _ _ 0 _ _ rrB; have f1_rrB := frozen_of_row _ _ 1 _ _ rrB; have f2_rrB := frozen_of_row _ _ 2 _ _ rrB; simp at r0_rrB r1_rrB r2_rrB; clear rrB; have rpB := (hBB.block _ lRp_9).trans Rp_9.out; have HpB := Lib.hid rpB; have r0_rpB := cell_of_row _ _ 0 _ _ _ rpB; have r1_rpB := cell_of_row _ _ 1 _ _ _ rpB; have r2_rpB := cell_of_row _ _ 2 _ _ _ rpB; have r3_rpB := cell_of_row _ _ 3 _ _ _ rpB; have r4_rpB := cell_of_row _ _ 4 _ _ _ rpB; have r5_rpB := cell_of_row _ _ 5 _ _ _ rpB; have f0_rpB := frozen_of_row _ _ 0 _ _ rpB; have f1_rpB := frozen_of_row _ _ 1 _ _ rpB; have f2_rpB := frozen_of_row _ _ 2 _ _ rpB; have f3_rpB := frozen_of_row _ _ 3 _ _ rpB; have f4_rpB := frozen_of_row _ _ 4 _ _ rpB; have f5_rpB := frozen_of_row _ _ 5 _ _ rpB; simp at r0_rpB r1_rpB r2_rpB r3_rpB r4_rpB r5_rpB; clear rpB))
                go_wp2_with fail
                refine hK.out _ _ ?_ (fun hHeld => ?_)
                · intro _
                  (try dsimp only)
                  (first | with_reducible assumption | (with_reducible apply rg_keep; rotate_left; with_reducible assumption; with_reducible assumption) | with_reducible exact rg_start _ | with_reducible exact rg_alloc (KeptS.out (by with_reducible assumption)) _ | with_reducible exact rg_alloc (by with_reducible assumption) _ | with_reducible exact rg_start_alloc _ _ | ((repeat (with_reducible refine rg_set ?_ _ (by first | exact Nat.le_refl _ | omega | (simp; done) | (simp; omega)) _)); first | with_reducible exact KeptS.out (by with_reducible assumption) | with_reducible assumption | with_reducible exact rg_alloc (KeptS.out (by with_reducible assumption)) _))
                clear hK K
                replace hHeld := hHeld rfl
                (try simp only [Act.put, List.getElem_toArray, List.getElem_cons_succ, List.getElem_cons_zero, List.setIfInBounds_toArray, List.set_cons_zero, List.set_cons_succ])
                refine owed_ready (rs := [10]) (by kernel_rfl) (by simp) ?_
                refine owedEach.cons (o := _) rfl (fun K hK => ?_) owedEach.nil
                go_simp
                refine hK.out _ _ ?_ (fun hHeld => ?_)
                · intro h
                  exact absurd h (by decide)
                clear hK K
                (try simp only [Act.put, List.getElem_toArray, List.getElem_cons_succ, List.getElem_cons_zero, List.setIfInBounds_toArray, List.set_cons_zero, List.set_cons_succ])
                refine owed_take_free (fun k => List.elem k [12, 13]) (i := 11) (oi := _) (v := ?v11_9) rfl (by kernel_rfl) (by kernel_rfl) (by kernel_rfl) (fun _ _ _ h => h) (Or.inl ⟨by rfl, ?hy11_9⟩) (by rfl) ?rest11_9
                case hy11_9 => ((intro w _; go_simp); (try with_reducible rfl))
                (try simp only [Act.put, List.getElem_toArray, List.getElem_cons_succ, List.getElem_cons_zero, List.setIfInBounds_toArray, List.set_cons_zero, List.set_cons_succ])
                refine owed_ready (rs := [12]) (by kernel_rfl) (by simp) ?_
                refine owedEach.cons (o := _) rfl (fun K hK => ?_) owedEach.nil
                go_simp
                refine hK.out _ _ ?_ (fun hHeld => ?_)
                · intro h
                  exact absurd h (by decide)
                clear hK K
                (try simp only [Act.put, List.getElem_toArray, List.getElem_cons_succ, List.getElem_cons_zero, List.setIfInBounds_toArray, List.set_cons_zero, List.set_cons_succ])
                refine owed_take_free (fun k => List.elem k []) (i := 13) (oi := _) (v := ?v13_10) rfl (by kernel_rfl) (by kernel_rfl) (by kernel_rfl) (fun _ _ _ h => h) (Or.inl ⟨by rfl, ?hy13_10⟩) (by rfl) ?rest13_10
                case hy13_10 => ((intro w _; go_simp); (try with_reducible rfl))
                (try simp only [Act.put, List.getElem_toArray, List.getElem_cons_succ, List.getElem_cons_zero, List.setIfInBounds_toArray, List.set_cons_zero, List.set_cons_succ])
                refine owed_done (by kernel_rfl) (NoPanic.normal ?_)
                go_wp2_with fail
                apply bodyPost_ret (results_rtrt (P := Try.prog) (fn := Try.f42) rfl _ _ _ 37 _ (0, 0) _ _ 58 _ (0, 0) _ rfl rfl _ _ Try.underlying37 rfl _ Try.underlying58 rfl _) rfl
                rotate_left 3
                · repeat (first | (with_reducible apply heap_setCell_same) | (with_reducible apply drew_row) | (with_reducible apply drewN_row) | (with_reducible exact HrB.out) | (with_reducible refine (heap_setCell_other _ _ _ _ (by first | omega | (simp; done) | (simp; omega))).trans ?_) | (with_reducible refine (Below.heap_alloc _ _ _ (by first | omega | (simp; done) | (simp; omega))).trans ?_))
                · repeat (first | (with_reducible apply heap_setCell_same) | (with_reducible apply drew_row) | (with_reducible apply drewN_row) | (with_reducible exact HpB.out) | (with_reducible refine (heap_setCell_other _ _ _ _ (by first | omega | (simp; done) | (simp; omega))).trans ?_) | (with_reducible refine (Below.heap_alloc _ _ _ (by first | omega | (simp; done) | (simp; omega))).trans ?_))
                · kernel_rfl
                · kernel_rfl
                have OGG := OwnE.mono (base' := w.heap.size + 3) (Og1_9.out.below hBB) (by omega)
                have hwB : Below w.heap.size w wB := ext_trans hw9 hBB
                exact ⟨_, by rw [HV.out]; first | rfl | (simp; done) | (simp; rfl), by rw [HV.out]; show OwnEntry _ _ _ r; exact OwnE.mono (base := w.heap.size + 3) (by repeat (first | with_reducible exact OGG | (with_reducible refine OwnE.setBelow ?_ (by first | (simp; done) | (simp; omega)) _) | with_reducible refine OwnE.alloc ?_ _ | with_reducible refine OwnE.drew ?_)) (by omega), (by repeat (first | with_reducible exact Below.refl _ _ | with_reducible assumption | with_reducible refine Below.drew ?_ | with_reducible refine Below.alloc ?_ (by first | exact Nat.le_refl _ | omega | (simp; done) | (simp; omega)) _ | with_reducible refine Below.setCell ?_ (by first | exact Nat.le_refl _ | omega | (simp; done) | (simp; omega)) _ | (with_reducible refine ext_trans ?_ (by with_reducible assumption))))⟩
        case neg =>
        by_cases h48 : f3 = 2048
        case pos =>
          subst h48
          have Y4 : Hid (∀ W, Calls Try.prog 77 #[.string f4] W fun e w' => e = .returned (.tuple #[.agg #[.int .i64 p1, .int .i64 p2, .int .i64 p3, .int .i64 p4, .int .i64 p5, .string p6], .int .i64 pc]) ∧ Below W.heap.size W w') := fun W => by
            have hh := ReadPacket_any f4 h4z W
            unfold PkOut at hh
            rw [hP1, hP2] at hh
            exact hh
          go_wp2_with fail
          refine (Y4.out _).mono ?_
          rintro e w5 ⟨rfl, hb5⟩
          have hz5 := hb5.size
          (try simp at hz5)
          have ra_5 := (hb5.block _ (by first | omega | (simp; done) | (simp; omega))).trans Ra_4.out
          have rr_5 := (hb5.block _ (by first | omega | (simp; done) | (simp; omega))).trans Rr_4.out
          have rp_5 := (hb5.block _ (by first | omega | (simp; done) | (simp; omega))).trans Rp_4.out
          have ro_5 := (hb5.block _ (by first | omega | (simp; done) | (simp; omega))).trans Ro_4.out
          have rf_5 := (hb5.block _ (by first | omega | (simp; done) | (simp; omega))).trans Rf_4.out
          have Oo1_5 := Lib.hid (Oo1_4.out.below (w' := w5) (by repeat (first | with_reducible exact Below.refl _ _ | with_reducible assumption | with_reducible refine Below.drew ?_ | with_reducible refine Below.alloc ?_ (by first | exact Nat.le_refl _ | omega | (simp; done) | (simp; omega)) _ | with_reducible refine Below.setCell ?_ (by first | exact Nat.le_refl _ | omega | (simp; done) | (simp; omega)) _ | (with_reducible refine ext_trans ?_ (by with_reducible assumption)))))
          have hw5 : Below w.heap.size w w5 := (by repeat (first | with_reducible exact Below.refl _ _ | with_reducible assumption | with_reducible refine Below.drew ?_ | with_reducible refine Below.alloc ?_ (by first | exact Nat.le_refl _ | omega | (simp; done) | (simp; omega)) _ | with_reducible refine Below.setCell ?_ (by first | exact Nat.le_refl _ | omega | (simp; done) | (simp; omega)) _ | (with_reducible refine ext_trans ?_ (by with_reducible assumption))))
          have lRa_5 : w.heap.size < w5.heap.size := by omega
          have lRr_5 : w.heap.size + 1 < w5.heap.size := by omega
          have lRp_5 : w.heap.size + 2 < w5.heap.size := by omega
          have lRo_5 : w1.heap.size < w5.heap.size := by omega
          have lRf_5 : w2.heap.size < w5.heap.size := by omega
          have Ra_5 := Lib.hid ra_5
          have r0_ra_5 := cell_of_row _ _ 0 _ _ _ ra_5
          have r1_ra_5 := cell_of_row _ _ 1 _ _ _ ra_5
          have r2_ra_5 := cell_of_row _ _ 2 _ _ _ ra_5
          have f0_ra_5 := frozen_of_row _ _ 0 _ _ ra_5
          have f1_ra_5 := frozen_of_row _ _ 1 _ _ ra_5
          have f2_ra_5 := frozen_of_row _ _ 2 _ _ ra_5
          simp at r0_ra_5 r1_ra_5 r2_ra_5
          clear ra_5
          have Rr_5 := Lib.hid rr_5
          have r0_rr_5 := cell_of_row _ _ 0 _ _ _ rr_5
          have r1_rr_5 := cell_of_row _ _ 1 _ _ _ rr_5
          have r2_rr_5 := cell_of_row _ _ 2 _ _ _ rr_5
          have f0_rr_5 := frozen_of_row _ _ 0 _ _ rr_5
          have f1_rr_5 := frozen_of_row _ _ 1 _ _ rr_5
          have f2_rr_5 := frozen_of_row _ _ 2 _ _ rr_5
          simp at r0_rr_5 r1_rr_5 r2_rr_5
          clear rr_5
          have Rp_5 := Lib.hid rp_5
          have r0_rp_5 := cell_of_row _ _ 0 _ _ _ rp_5
          have r1_rp_5 := cell_of_row _ _ 1 _ _ _ rp_5
          have r2_rp_5 := cell_of_row _ _ 2 _ _ _ rp_5
          have r3_rp_5 := cell_of_row _ _ 3 _ _ _ rp_5
          have r4_rp_5 := cell_of_row _ _ 4 _ _ _ rp_5
          have r5_rp_5 := cell_of_row _ _ 5 _ _ _ rp_5
          have f0_rp_5 := frozen_of_row _ _ 0 _ _ rp_5
          have f1_rp_5 := frozen_of_row _ _ 1 _ _ rp_5
          have f2_rp_5 := frozen_of_row _ _ 2 _ _ rp_5
          have f3_rp_5 := frozen_of_row _ _ 3 _ _ rp_5
          have f4_rp_5 := frozen_of_row _ _ 4 _ _ rp_5
          have f5_rp_5 := frozen_of_row _ _ 5 _ _ rp_5
          simp at r0_rp_5 r1_rp_5 r2_rp_5 r3_rp_5 r4_rp_5 r5_rp_5
          clear rp_5
          have Ro_5 := Lib.hid ro_5
          have r0_ro_5 := cell_of_row _ _ 0 _ _ _ ro_5
          have r1_ro_5 := cell_of_row _ _ 1 _ _ _ ro_5
          have r2_ro_5 := cell_of_row _ _ 2 _ _ _ ro_5
          have f0_ro_5 := frozen_of_row _ _ 0 _ _ ro_5
          have f1_ro_5 := frozen_of_row _ _ 1 _ _ ro_5
          have f2_ro_5 := frozen_of_row _ _ 2 _ _ ro_5
          simp at r0_ro_5 r1_ro_5 r2_ro_5
          clear ro_5
          have Rf_5 := Lib.hid rf_5
          have r0_rf_5 := cell_of_row _ _ 0 _ _ _ rf_5
          have r1_rf_5 := cell_of_row _ _ 1 _ _ _ rf_5
          have r2_rf_5 := cell_of_row _ _ 2 _ _ _ rf_5
          have r3_rf_5 := cell_of_row _ _ 3 _ _ _ rf_5
          have f0_rf_5 := frozen_of_row _ _ 0 _ _ rf_5
          have f1_rf_5 := frozen_of_row _ _ 1 _ _ rf_5
          have f2_rf_5 := frozen_of_row _ _ 2 _ _ rf_5
          have f3_rf_5 := frozen_of_row _ _ 3 _ _ rf_5
          simp at r0_rf_5 r1_rf_5 r2_rf_5 r3_rf_5
          clear rf_5
          clear r0_ra_4 f0_ra_4 r1_ra_4 f1_ra_4 r2_ra_4 f2_ra_4
          clear r0_rr_4 f0_rr_4 r1_rr_4 f1_rr_4 r2_rr_4 f2_rr_4
          clear r0_rp_4 f0_rp_4 r1_rp_4 f1_rp_4 r2_rp_4 f2_rp_4 r3_rp_4 f3_rp_4 r4_rp_4 f4_rp_4 r5_rp_4 f5_rp_4
          clear r0_ro_4 f0_ro_4 r1_ro_4 f1_ro_4 r2_ro_4 f2_ro_4
          clear r0_rf_4 f0_rf_4 r1_rf_4 f1_rf_4 r2_rf_4 f2_rf_4 r3_rf_4 f3_rf_4
          by_cases g6pc : pc = 0
          case neg =>
            have HE2 : R = (l, 0, zPk, ⟨#[]⟩) := by (rw [HE.out]; simp [g6pc])
            have HV := Lib.hid HE2
            clear HE2
            go_wp2_with fail
            apply bodyPost_ret (results_rtrt (P := Try.prog) (fn := Try.f42) rfl _ _ _ 37 _ (0, 0) _ _ 58 _ (0, 0) _ rfl rfl _ _ Try.underlying37 rfl _ Try.underlying58 rfl _) rfl
            rotate_left 3
            · repeat (first | (with_reducible apply heap_setCell_same) | (with_reducible apply drew_row) | (with_reducible apply drewN_row) | (with_reducible exact Rr_5.out) | (with_reducible refine (heap_setCell_other _ _ _ _ (by first | omega | (simp; done) | (simp; omega))).trans ?_) | (with_reducible refine (Below.heap_alloc _ _ _ (by first | omega | (simp; done) | (simp; omega))).trans ?_))
            · repeat (first | (with_reducible apply heap_setCell_same) | (with_reducible apply drew_row) | (with_reducible apply drewN_row) | (with_reducible exact Rp_5.out) | (with_reducible refine (heap_setCell_other _ _ _ _ (by first | omega | (simp; done) | (simp; omega))).trans ?_) | (with_reducible refine (Below.heap_alloc _ _ _ (by first | omega | (simp; done) | (simp; omega))).trans ?_))
            · kernel_rfl
            · kernel_rfl
            exact ⟨.slice A1 l.length c1, by rw [HV.out]; simp, by rw [HV.out]; show OwnEntry _ _ _ l; exact OwnE.mono (base := w.heap.size + 3) (by repeat (first | with_reducible exact Oo1_5.out | (with_reducible refine OwnE.setBelow ?_ (by first | (simp; done) | (simp; omega)) _) | with_reducible refine OwnE.alloc ?_ _ | with_reducible refine OwnE.drew ?_)) (by omega), (by repeat (first | with_reducible exact Below.refl _ _ | with_reducible assumption | with_reducible refine Below.drew ?_ | with_reducible refine Below.alloc ?_ (by first | exact Nat.le_refl _ | omega | (simp; done) | (simp; omega)) _ | with_reducible refine Below.setCell ?_ (by first | exact Nat.le_refl _ | omega | (simp; done) | (simp; omega)) _ | (with_reducible refine ext_trans ?_ (by with_reducible assumption))))⟩
          case pos =>
          by_cases g6p2 : p2 = q
          case neg =>
            have HE2 : R = (l, 0, zPk, ⟨#[]⟩) := by (rw [HE.out]; simp [g6p2])
            have HV := Lib.hid HE2
            clear HE2
            go_wp2_with fail
            apply bodyPost_ret (results_rtrt (P := Try.prog) (fn := Try.f42) rfl _ _ _ 37 _ (0, 0) _ _ 58 _ (0, 0) _ rfl rfl _ _ Try.underlying37 rfl _ Try.underlying58 rfl _) rfl
            rotate_left 3
            · repeat (first | (with_reducible apply heap_setCell_same) | (with_reducible apply drew_row) | (with_reducible apply drewN_row) | (with_reducible exact Rr_5.out) | (with_reducible refine (heap_setCell_other _ _ _ _ (by first | omega | (simp; done) | (simp; omega))).trans ?_) | (with_reducible refine (Below.heap_alloc _ _ _ (by first | omega | (simp; done) | (simp; omega))).trans ?_))
            · repeat (first | (with_reducible apply heap_setCell_same) | (with_reducible apply drew_row) | (with_reducible apply drewN_row) | (with_reducible exact Rp_5.out) | (with_reducible refine (heap_setCell_other _ _ _ _ (by first | omega | (simp; done) | (simp; omega))).trans ?_) | (with_reducible refine (Below.heap_alloc _ _ _ (by first | omega | (simp; done) | (simp; omega))).trans ?_))
            · kernel_rfl
            · kernel_rfl
            exact ⟨.slice A1 l.length c1, by rw [HV.out]; simp, by rw [HV.out]; show OwnEntry _ _ _ l; exact OwnE.mono (base := w.heap.size + 3) (by repeat (first | with_reducible exact Oo1_5.out | (with_reducible refine OwnE.setBelow ?_ (by first | (simp; done) | (simp; omega)) _) | with_reducible refine OwnE.alloc ?_ _ | with_reducible refine OwnE.drew ?_)) (by omega), (by repeat (first | with_reducible exact Below.refl _ _ | with_reducible assumption | with_reducible refine Below.drew ?_ | with_reducible refine Below.alloc ?_ (by first | exact Nat.le_refl _ | omega | (simp; done) | (simp; omega)) _ | with_reducible refine Below.setCell ?_ (by first | exact Nat.le_refl _ | omega | (simp; done) | (simp; omega)) _ | (with_reducible refine ext_trans ?_ (by with_reducible assumption))))⟩
          case pos =>
          by_cases g6p4 : p4 = 6
          case neg =>
            have HE2 : R = (l, 0, zPk, ⟨#[]⟩) := by (rw [HE.out]; simp [g6p4])
            have HV := Lib.hid HE2
            clear HE2
            go_wp2_with fail
            apply bodyPost_ret (results_rtrt (P := Try.prog) (fn := Try.f42) rfl _ _ _ 37 _ (0, 0) _ _ 58 _ (0, 0) _ rfl rfl _ _ Try.underlying37 rfl _ Try.underlying58 rfl _) rfl
            rotate_left 3
            · repeat (first | (with_reducible apply heap_setCell_same) | (with_reducible apply drew_row) | (with_reducible apply drewN_row) | (with_reducible exact Rr_5.out) | (with_reducible refine (heap_setCell_other _ _ _ _ (by first | omega | (simp; done) | (simp; omega))).trans ?_) | (with_reducible refine (Below.heap_alloc _ _ _ (by first | omega | (simp; done) | (simp; omega))).trans ?_))
            · repeat (first | (with_reducible apply heap_setCell_same) | (with_reducible apply drew_row) | (with_reducible apply drewN_row) | (with_reducible exact Rp_5.out) | (with_reducible refine (heap_setCell_other _ _ _ _ (by first | omega | (simp; done) | (simp; omega))).trans ?_) | (with_reducible refine (Below.heap_alloc _ _ _ (by first | omega | (simp; done) | (simp; omega))).trans ?_))
            · kernel_rfl
            · kernel_rfl
            exact ⟨.slice A1 l.length c1, by rw [HV.out]; simp, by rw [HV.out]; show OwnEntry _ _ _ l; exact OwnE.mono (base := w.heap.size + 3) (by repeat (first | with_reducible exact Oo1_5.out | (with_reducible refine OwnE.setBelow ?_ (by first | (simp; done) | (simp; omega)) _) | with_reducible refine OwnE.alloc ?_ _ | with_reducible refine OwnE.drew ?_)) (by omega), (by repeat (first | with_reducible exact Below.refl _ _ | with_reducible assumption | with_reducible refine Below.drew ?_ | with_reducible refine Below.alloc ?_ (by first | exact Nat.le_refl _ | omega | (simp; done) | (simp; omega)) _ | with_reducible refine Below.setCell ?_ (by first | exact Nat.le_refl _ | omega | (simp; done) | (simp; omega)) _ | (with_reducible refine ext_trans ?_ (by with_reducible assumption))))⟩
          case pos =>
          by_cases g6p1 : p1 = q
          case pos =>
            have HE2 : R = (l, 0, zPk, ⟨#[]⟩) := by (rw [HE.out]; simp [g6p1])
            have HV := Lib.hid HE2
            clear HE2
            go_wp2_with fail
            apply bodyPost_ret (results_rtrt (P := Try.prog) (fn := Try.f42) rfl _ _ _ 37 _ (0, 0) _ _ 58 _ (0, 0) _ rfl rfl _ _ Try.underlying37 rfl _ Try.underlying58 rfl _) rfl
            rotate_left 3
            · repeat (first | (with_reducible apply heap_setCell_same) | (with_reducible apply drew_row) | (with_reducible apply drewN_row) | (with_reducible exact Rr_5.out) | (with_reducible refine (heap_setCell_other _ _ _ _ (by first | omega | (simp; done) | (simp; omega))).trans ?_) | (with_reducible refine (Below.heap_alloc _ _ _ (by first | omega | (simp; done) | (simp; omega))).trans ?_))
            · repeat (first | (with_reducible apply heap_setCell_same) | (with_reducible apply drew_row) | (with_reducible apply drewN_row) | (with_reducible exact Rp_5.out) | (with_reducible refine (heap_setCell_other _ _ _ _ (by first | omega | (simp; done) | (simp; omega))).trans ?_) | (with_reducible refine (Below.heap_alloc _ _ _ (by first | omega | (simp; done) | (simp; omega))).trans ?_))
            · kernel_rfl
            · kernel_rfl
            exact ⟨.slice A1 l.length c1, by rw [HV.out]; simp, by rw [HV.out]; show OwnEntry _ _ _ l; exact OwnE.mono (base := w.heap.size + 3) (by repeat (first | with_reducible exact Oo1_5.out | (with_reducible refine OwnE.setBelow ?_ (by first | (simp; done) | (simp; omega)) _) | with_reducible refine OwnE.alloc ?_ _ | with_reducible refine OwnE.drew ?_)) (by omega), (by repeat (first | with_reducible exact Below.refl _ _ | with_reducible assumption | with_reducible refine Below.drew ?_ | with_reducible refine Below.alloc ?_ (by first | exact Nat.le_refl _ | omega | (simp; done) | (simp; omega)) _ | with_reducible refine Below.setCell ?_ (by first | exact Nat.le_refl _ | omega | (simp; done) | (simp; omega)) _ | (with_reducible refine ext_trans ?_ (by with_reducible assumption))))⟩
          case neg =>
          have HE3 : R = (learnedR l p1 f2, 2, .agg #[.int .i64 p1, .int .i64 p2, .int .i64 p3, .int .i64 p4, .int .i64 p5, .string p6], ⟨#[]⟩) := by (rw [HE.out]; simp only [Bool.and_self, if_true]; rw [if_neg (by decide), if_pos ⟨g6pc, g6p2, g6p4, g6p1⟩])
          clear HE
          have HE := Lib.hid HE3
          clear HE3
          obtain rfl : q = p2 := g6p2.symm
          subst g6p4
          obtain ⟨r, hr⟩ : ∃ r, learnedR l p1 f2 = r := ⟨_, rfl⟩
          rw [hr] at HE
          have y5 := fun W h => Learned_any (.slice A l.length c) l p1 f2 ML.out W h
          rw [hr] at y5
          have Y5 := Lib.hid y5
          clear y5 hr
          go_wp2_with fail
          refine (Y5.out _ (H.out.below (by repeat (first | with_reducible exact Below.refl _ _ | with_reducible assumption | with_reducible refine Below.drew ?_ | with_reducible refine Below.alloc ?_ (by first | exact Nat.le_refl _ | omega | (simp; done) | (simp; omega)) _ | with_reducible refine Below.setCell ?_ (by first | exact Nat.le_refl _ | omega | (simp; done) | (simp; omega)) _ | (with_reducible refine ext_trans ?_ (by with_reducible assumption)))))).mono ?_
          rintro e w6 ⟨v6, rfl, hO6, hb6⟩
          obtain ⟨A6, c6, rfl⟩ := hO6.form
          have Og1_6 := Lib.hid (OwnE.mono (base' := w5.heap.size + 1) hO6 (by first | exact Nat.le_refl _ | (simp; done) | (simp; omega)))
          have Bg1 := Og1_6
          have hz6 := hb6.size
          (try simp at hz6)
          have ra_6 := (hb6.block _ (by first | omega | (simp; done) | (simp; omega))).trans ((Below.heap_alloc _ _ _ (by first | exact lRa_5 | (simp; omega))).trans Ra_5.out)
          have rr_6 := (hb6.block _ (by first | omega | (simp; done) | (simp; omega))).trans ((Below.heap_alloc _ _ _ (by first | exact lRr_5 | (simp; omega))).trans Rr_5.out)
          have rp_6 := (hb6.block _ (by first | omega | (simp; done) | (simp; omega))).trans ((Below.heap_alloc _ _ _ (by first | exact lRp_5 | (simp; omega))).trans Rp_5.out)
          have ro_6 := (hb6.block _ (by first | omega | (simp; done) | (simp; omega))).trans ((Below.heap_alloc _ _ _ (by first | exact lRo_5 | (simp; omega))).trans Ro_5.out)
          have rf_6 := (hb6.block _ (by first | omega | (simp; done) | (simp; omega))).trans ((Below.heap_alloc _ _ _ (by first | exact lRf_5 | (simp; omega))).trans Rf_5.out)
          have rk_6 : w6.heap[w5.heap.size]? = some (.cells #[.int .i64 p1, .int .i64 q, .int .i64 p3, .int .i64 6, .int .i64 p5, .string p6] 58 (0, 0)) := (hb6.block _ (by first | (simp; done) | (simp; omega))).trans (by repeat (first | exact heap_new _ _ _ (by first | rfl | (simp; done) | (simp; omega)) | refine (Below.heap_alloc _ _ _ (by first | omega | (simp; done) | (simp; omega))).trans ?_))
          have Oo1_6 := Lib.hid (Oo1_5.out.below (w' := w6) (by repeat (first | with_reducible exact Below.refl _ _ | with_reducible assumption | with_reducible refine Below.drew ?_ | with_reducible refine Below.alloc ?_ (by first | exact Nat.le_refl _ | omega | (simp; done) | (simp; omega)) _ | with_reducible refine Below.setCell ?_ (by first | exact Nat.le_refl _ | omega | (simp; done) | (simp; omega)) _ | (with_reducible refine ext_trans ?_ (by with_reducible assumption)))))
          have hw6 : Below w.heap.size w w6 := (by repeat (first | with_reducible exact Below.refl _ _ | with_reducible assumption | with_reducible refine Below.drew ?_ | with_reducible refine Below.alloc ?_ (by first | exact Nat.le_refl _ | omega | (simp; done) | (simp; omega)) _ | with_reducible refine Below.setCell ?_ (by first | exact Nat.le_refl _ | omega | (simp; done) | (simp; omega)) _ | (with_reducible refine ext_trans ?_ (by with_reducible assumption))))
          have lRa_6 : w.heap.size < w6.heap.size := by omega
          have lRr_6 : w.heap.size + 1 < w6.heap.size := by omega
          have lRp_6 : w.heap.size + 2 < w6.heap.size := by omega
          have lRo_6 : w1.heap.size < w6.heap.size := by omega
          have lRf_6 : w2.heap.size < w6.heap.size := by omega
          have lRk_6 : w5.heap.size < w6.heap.size := by omega
          have Ra_6 := Lib.hid ra_6
          have r0_ra_6 := cell_of_row _ _ 0 _ _ _ ra_6
          have r1_ra_6 := cell_of_row _ _ 1 _ _ _ ra_6
          have r2_ra_6 := cell_of_row _ _ 2 _ _ _ ra_6
          have f0_ra_6 := frozen_of_row _ _ 0 _ _ ra_6
          have f1_ra_6 := frozen_of_row _ _ 1 _ _ ra_6
          have f2_ra_6 := frozen_of_row _ _ 2 _ _ ra_6
          simp at r0_ra_6 r1_ra_6 r2_ra_6
          clear ra_6
          have Rr_6 := Lib.hid rr_6
          have r0_rr_6 := cell_of_row _ _ 0 _ _ _ rr_6
          have r1_rr_6 := cell_of_row _ _ 1 _ _ _ rr_6
          have r2_rr_6 := cell_of_row _ _ 2 _ _ _ rr_6
          have f0_rr_6 := frozen_of_row _ _ 0 _ _ rr_6
          have f1_rr_6 := frozen_of_row _ _ 1 _ _ rr_6
          have f2_rr_6 := frozen_of_row _ _ 2 _ _ rr_6
          simp at r0_rr_6 r1_rr_6 r2_rr_6
          clear rr_6
          have Rp_6 := Lib.hid rp_6
          have r0_rp_6 := cell_of_row _ _ 0 _ _ _ rp_6
          have r1_rp_6 := cell_of_row _ _ 1 _ _ _ rp_6
          have r2_rp_6 := cell_of_row _ _ 2 _ _ _ rp_6
          have r3_rp_6 := cell_of_row _ _ 3 _ _ _ rp_6
          have r4_rp_6 := cell_of_row _ _ 4 _ _ _ rp_6
          have r5_rp_6 := cell_of_row _ _ 5 _ _ _ rp_6
          have f0_rp_6 := frozen_of_row _ _ 0 _ _ rp_6
          have f1_rp_6 := frozen_of_row _ _ 1 _ _ rp_6
          have f2_rp_6 := frozen_of_row _ _ 2 _ _ rp_6
          have f3_rp_6 := frozen_of_row _ _ 3 _ _ rp_6
          have f4_rp_6 := frozen_of_row _ _ 4 _ _ rp_6
          have f5_rp_6 := frozen_of_row _ _ 5 _ _ rp_6
          simp at r0_rp_6 r1_rp_6 r2_rp_6 r3_rp_6 r4_rp_6 r5_rp_6
          clear rp_6
          have Ro_6 := Lib.hid ro_6
          have r0_ro_6 := cell_of_row _ _ 0 _ _ _ ro_6
          have r1_ro_6 := cell_of_row _ _ 1 _ _ _ ro_6
          have r2_ro_6 := cell_of_row _ _ 2 _ _ _ ro_6
          have f0_ro_6 := frozen_of_row _ _ 0 _ _ ro_6
          have f1_ro_6 := frozen_of_row _ _ 1 _ _ ro_6
          have f2_ro_6 := frozen_of_row _ _ 2 _ _ ro_6
          simp at r0_ro_6 r1_ro_6 r2_ro_6
          clear ro_6
          have Rf_6 := Lib.hid rf_6
          have r0_rf_6 := cell_of_row _ _ 0 _ _ _ rf_6
          have r1_rf_6 := cell_of_row _ _ 1 _ _ _ rf_6
          have r2_rf_6 := cell_of_row _ _ 2 _ _ _ rf_6
          have r3_rf_6 := cell_of_row _ _ 3 _ _ _ rf_6
          have f0_rf_6 := frozen_of_row _ _ 0 _ _ rf_6
          have f1_rf_6 := frozen_of_row _ _ 1 _ _ rf_6
          have f2_rf_6 := frozen_of_row _ _ 2 _ _ rf_6
          have f3_rf_6 := frozen_of_row _ _ 3 _ _ rf_6
          simp at r0_rf_6 r1_rf_6 r2_rf_6 r3_rf_6
          clear rf_6
          have Rk_6 := Lib.hid rk_6
          have r0_rk_6 := cell_of_row _ _ 0 _ _ _ rk_6
          have r1_rk_6 := cell_of_row _ _ 1 _ _ _ rk_6
          have r2_rk_6 := cell_of_row _ _ 2 _ _ _ rk_6
          have r3_rk_6 := cell_of_row _ _ 3 _ _ _ rk_6
          have r4_rk_6 := cell_of_row _ _ 4 _ _ _ rk_6
          have r5_rk_6 := cell_of_row _ _ 5 _ _ _ rk_6
          have f0_rk_6 := frozen_of_row _ _ 0 _ _ rk_6
          have f1_rk_6 := frozen_of_row _ _ 1 _ _ rk_6
          have f2_rk_6 := frozen_of_row _ _ 2 _ _ rk_6
          have f3_rk_6 := frozen_of_row _ _ 3 _ _ rk_6
          have f4_rk_6 := frozen_of_row _ _ 4 _ _ rk_6
          have f5_rk_6 := frozen_of_row _ _ 5 _ _ rk_6
          simp at r0_rk_6 r1_rk_6 r2_rk_6 r3_rk_6 r4_rk_6 r5_rk_6
          clear rk_6
          clear r0_ra_5 f0_ra_5 r1_ra_5 f1_ra_5 r2_ra_5 f2_ra_5
          clear r0_rr_5 f0_rr_5 r1_rr_5 f1_rr_5 r2_rr_5 f2_rr_5
          clear r0_rp_5 f0_rp_5 r1_rp_5 f1_rp_5 r2_rp_5 f2_rp_5 r3_rp_5 f3_rp_5 r4_rp_5 f4_rp_5 r5_rp_5 f5_rp_5
          clear r0_ro_5 f0_ro_5 r1_ro_5 f1_ro_5 r2_ro_5 f2_ro_5
          clear r0_rf_5 f0_rf_5 r1_rf_5 f1_rf_5 r2_rf_5 f2_rf_5 r3_rf_5 f3_rf_5
          go_wp2_with fail
          have ra_7 := (heap_setCell_other w6 ⟨w1.heap.size, 2, none⟩ _ (.slice A6 r.length c6) (by first | omega | (simp; omega))).trans Ra_6.out
          have rr_7 := (heap_setCell_other w6 ⟨w1.heap.size, 2, none⟩ _ (.slice A6 r.length c6) (by first | omega | (simp; omega))).trans Rr_6.out
          have rp_7 := (heap_setCell_other w6 ⟨w1.heap.size, 2, none⟩ _ (.slice A6 r.length c6) (by first | omega | (simp; omega))).trans Rp_6.out
          have ro_7 : (w6.setCell ⟨w1.heap.size, 2, none⟩ (.slice A6 r.length c6)).heap[w1.heap.size]? = some (.cells #[.int .i64 m, .int .i64 q, (.slice A6 r.length c6)] 37 (0, 0)) := (heap_setCell_same _ _ 2 _ _ (.slice A6 r.length c6) Ro_6.out).trans (by simp)
          have rf_7 := (heap_setCell_other w6 ⟨w1.heap.size, 2, none⟩ _ (.slice A6 r.length c6) (by first | omega | (simp; omega))).trans Rf_6.out
          have rk_7 := (heap_setCell_other w6 ⟨w1.heap.size, 2, none⟩ _ (.slice A6 r.length c6) (by first | omega | (simp; omega))).trans Rk_6.out
          have Og1_7 := Lib.hid (OwnE.setBelow Og1_6.out (a := ⟨w1.heap.size, 2, none⟩) (by first | (simp; done) | (simp; omega)) (.slice A6 r.length c6))
          have hw7 : Below w.heap.size w (w6.setCell ⟨w1.heap.size, 2, none⟩ (.slice A6 r.length c6)) := (by repeat (first | with_reducible exact Below.refl _ _ | with_reducible assumption | with_reducible refine Below.drew ?_ | with_reducible refine Below.alloc ?_ (by first | exact Nat.le_refl _ | omega | (simp; done) | (simp; omega)) _ | with_reducible refine Below.setCell ?_ (by first | exact Nat.le_refl _ | omega | (simp; done) | (simp; omega)) _ | (with_reducible refine ext_trans ?_ (by with_reducible assumption))))
          have hz7 : w6.heap.size ≤ (w6.setCell ⟨w1.heap.size, 2, none⟩ (.slice A6 r.length c6)).heap.size := by simp
          generalize (w6.setCell ⟨w1.heap.size, 2, none⟩ (.slice A6 r.length c6)) = w7 at *
          have lRa_7 : w.heap.size < w7.heap.size := by omega
          have lRr_7 : w.heap.size + 1 < w7.heap.size := by omega
          have lRp_7 : w.heap.size + 2 < w7.heap.size := by omega
          have lRo_7 : w1.heap.size < w7.heap.size := by omega
          have lRf_7 : w2.heap.size < w7.heap.size := by omega
          have lRk_7 : w5.heap.size < w7.heap.size := by omega
          clear r0_ra_6 f0_ra_6 r1_ra_6 f1_ra_6 r2_ra_6 f2_ra_6
          clear r0_rr_6 f0_rr_6 r1_rr_6 f1_rr_6 r2_rr_6 f2_rr_6
          clear r0_rp_6 f0_rp_6 r1_rp_6 f1_rp_6 r2_rp_6 f2_rp_6 r3_rp_6 f3_rp_6 r4_rp_6 f4_rp_6 r5_rp_6 f5_rp_6
          clear r0_ro_6 f0_ro_6 r1_ro_6 f1_ro_6 r2_ro_6 f2_ro_6
          clear r0_rf_6 f0_rf_6 r1_rf_6 f1_rf_6 r2_rf_6 f2_rf_6 r3_rf_6 f3_rf_6
          clear r0_rk_6 f0_rk_6 r1_rk_6 f1_rk_6 r2_rk_6 f2_rk_6 r3_rk_6 f3_rk_6 r4_rk_6 f4_rk_6 r5_rk_6 f5_rk_6
          have Ra_7 := Lib.hid ra_7
          have r0_ra_7 := cell_of_row _ _ 0 _ _ _ ra_7
          have r1_ra_7 := cell_of_row _ _ 1 _ _ _ ra_7
          have r2_ra_7 := cell_of_row _ _ 2 _ _ _ ra_7
          have f0_ra_7 := frozen_of_row _ _ 0 _ _ ra_7
          have f1_ra_7 := frozen_of_row _ _ 1 _ _ ra_7
          have f2_ra_7 := frozen_of_row _ _ 2 _ _ ra_7
          simp at r0_ra_7 r1_ra_7 r2_ra_7
          clear ra_7
          have Rr_7 := Lib.hid rr_7
          have r0_rr_7 := cell_of_row _ _ 0 _ _ _ rr_7
          have r1_rr_7 := cell_of_row _ _ 1 _ _ _ rr_7
          have r2_rr_7 := cell_of_row _ _ 2 _ _ _ rr_7
          have f0_rr_7 := frozen_of_row _ _ 0 _ _ rr_7
          have f1_rr_7 := frozen_of_row _ _ 1 _ _ rr_7
          have f2_rr_7 := frozen_of_row _ _ 2 _ _ rr_7
          simp at r0_rr_7 r1_rr_7 r2_rr_7
          clear rr_7
          have Rp_7 := Lib.hid rp_7
          have r0_rp_7 := cell_of_row _ _ 0 _ _ _ rp_7
          have r1_rp_7 := cell_of_row _ _ 1 _ _ _ rp_7
          have r2_rp_7 := cell_of_row _ _ 2 _ _ _ rp_7
          have r3_rp_7 := cell_of_row _ _ 3 _ _ _ rp_7
          have r4_rp_7 := cell_of_row _ _ 4 _ _ _ rp_7
          have r5_rp_7 := cell_of_row _ _ 5 _ _ _ rp_7
          have f0_rp_7 := frozen_of_row _ _ 0 _ _ rp_7
          have f1_rp_7 := frozen_of_row _ _ 1 _ _ rp_7
          have f2_rp_7 := frozen_of_row _ _ 2 _ _ rp_7
          have f3_rp_7 := frozen_of_row _ _ 3 _ _ rp_7
          have f4_rp_7 := frozen_of_row _ _ 4 _ _ rp_7
          have f5_rp_7 := frozen_of_row _ _ 5 _ _ rp_7
          simp at r0_rp_7 r1_rp_7 r2_rp_7 r3_rp_7 r4_rp_7 r5_rp_7
          clear rp_7
          have Ro_7 := Lib.hid ro_7
          have r0_ro_7 := cell_of_row _ _ 0 _ _ _ ro_7
          have r1_ro_7 := cell_of_row _ _ 1 _ _ _ ro_7
          have r2_ro_7 := cell_of_row _ _ 2 _ _ _ ro_7
          have f0_ro_7 := frozen_of_row _ _ 0 _ _ ro_7
          have f1_ro_7 := frozen_of_row _ _ 1 _ _ ro_7
          have f2_ro_7 := frozen_of_row _ _ 2 _ _ ro_7
          simp at r0_ro_7 r1_ro_7 r2_ro_7
          clear ro_7
          have Rf_7 := Lib.hid rf_7
          have r0_rf_7 := cell_of_row _ _ 0 _ _ _ rf_7
          have r1_rf_7 := cell_of_row _ _ 1 _ _ _ rf_7
          have r2_rf_7 := cell_of_row _ _ 2 _ _ _ rf_7
          have r3_rf_7 := cell_of_row _ _ 3 _ _ _ rf_7
          have f0_rf_7 := frozen_of_row _ _ 0 _ _ rf_7
          have f1_rf_7 := frozen_of_row _ _ 1 _ _ rf_7
          have f2_rf_7 := frozen_of_row _ _ 2 _ _ rf_7
          have f3_rf_7 := frozen_of_row _ _ 3 _ _ rf_7
          simp at r0_rf_7 r1_rf_7 r2_rf_7 r3_rf_7
          clear rf_7
          have Rk_7 := Lib.hid rk_7
          have r0_rk_7 := cell_of_row _ _ 0 _ _ _ rk_7
          have r1_rk_7 := cell_of_row _ _ 1 _ _ _ rk_7
          have r2_rk_7 := cell_of_row _ _ 2 _ _ _ rk_7
          have r3_rk_7 := cell_of_row _ _ 3 _ _ _ rk_7
          have r4_rk_7 := cell_of_row _ _ 4 _ _ _ rk_7
          have r5_rk_7 := cell_of_row _ _ 5 _ _ _ rk_7
          have f0_rk_7 := frozen_of_row _ _ 0 _ _ rk_7
          have f1_rk_7 := frozen_of_row _ _ 1 _ _ rk_7
          have f2_rk_7 := frozen_of_row _ _ 2 _ _ rk_7
          have f3_rk_7 := frozen_of_row _ _ 3 _ _ rk_7
          have f4_rk_7 := frozen_of_row _ _ 4 _ _ rk_7
          have f5_rk_7 := frozen_of_row _ _ 5 _ _ rk_7
          simp at r0_rk_7 r1_rk_7 r2_rk_7 r3_rk_7 r4_rk_7 r5_rk_7
          clear rk_7
          have HV := HE
          go_wp2_with fail
          go_region
          all_goals
            go_wp2_with fail
            apply bodyPost_ret (results_rtrt (P := Try.prog) (fn := Try.f42) rfl _ _ _ 37 _ (0, 0) _ _ 58 _ (0, 0) _ rfl rfl _ _ Try.underlying37 rfl _ Try.underlying58 rfl _) rfl
            rotate_left 3
            · repeat (first | (with_reducible apply heap_setCell_same) | (with_reducible apply drew_row) | (with_reducible apply drewN_row) | (with_reducible exact Rr_7.out) | (with_reducible refine (heap_setCell_other _ _ _ _ (by first | omega | (simp; done) | (simp; omega))).trans ?_) | (with_reducible refine (Below.heap_alloc _ _ _ (by first | omega | (simp; done) | (simp; omega))).trans ?_))
            · repeat (first | (with_reducible apply heap_setCell_same) | (with_reducible apply drew_row) | (with_reducible apply drewN_row) | (with_reducible exact Rp_7.out) | (with_reducible refine (heap_setCell_other _ _ _ _ (by first | omega | (simp; done) | (simp; omega))).trans ?_) | (with_reducible refine (Below.heap_alloc _ _ _ (by first | omega | (simp; done) | (simp; omega))).trans ?_))
            · kernel_rfl
            · kernel_rfl
            have OGG := OwnE.mono (base' := w.heap.size + 3) Og1_7.out (by omega)
            exact ⟨_, by rw [HV.out]; first | rfl | (simp; done) | (simp; rfl), by rw [HV.out]; show OwnEntry _ _ _ r; exact OwnE.mono (base := w.heap.size + 3) (by repeat (first | with_reducible exact OGG | (with_reducible refine OwnE.setBelow ?_ (by first | (simp; done) | (simp; omega)) _) | with_reducible refine OwnE.alloc ?_ _ | with_reducible refine OwnE.drew ?_)) (by omega), (by repeat (first | with_reducible exact Below.refl _ _ | with_reducible assumption | with_reducible refine Below.drew ?_ | with_reducible refine Below.alloc ?_ (by first | exact Nat.le_refl _ | omega | (simp; done) | (simp; omega)) _ | with_reducible refine Below.setCell ?_ (by first | exact Nat.le_refl _ | omega | (simp; done) | (simp; omega)) _ | (with_reducible refine ext_trans ?_ (by with_reducible assumption))))⟩
        case neg =>
        have HV : Hid (R = (l, 0, zPk, ⟨#[]⟩)) := (by rw [HE.out]; simp [h54, h48] : R = (l, 0, zPk, ⟨#[]⟩))
        go_wp2_with fail
        apply bodyPost_ret (results_rtrt (P := Try.prog) (fn := Try.f42) rfl _ _ _ 37 _ (0, 0) _ _ 58 _ (0, 0) _ rfl rfl _ _ Try.underlying37 rfl _ Try.underlying58 rfl _) rfl
        rotate_left 3
        · repeat (first | (with_reducible apply heap_setCell_same) | (with_reducible apply drew_row) | (with_reducible apply drewN_row) | (with_reducible exact Rr_4.out) | (with_reducible refine (heap_setCell_other _ _ _ _ (by first | omega | (simp; done) | (simp; omega))).trans ?_) | (with_reducible refine (Below.heap_alloc _ _ _ (by first | omega | (simp; done) | (simp; omega))).trans ?_))
        · repeat (first | (with_reducible apply heap_setCell_same) | (with_reducible apply drew_row) | (with_reducible apply drewN_row) | (with_reducible exact Rp_4.out) | (with_reducible refine (heap_setCell_other _ _ _ _ (by first | omega | (simp; done) | (simp; omega))).trans ?_) | (with_reducible refine (Below.heap_alloc _ _ _ (by first | omega | (simp; done) | (simp; omega))).trans ?_))
        · kernel_rfl
        · kernel_rfl
        exact ⟨.slice A1 l.length c1, by rw [HV.out]; simp, by rw [HV.out]; show OwnEntry _ _ _ l; exact OwnE.mono (base := w.heap.size + 3) (by repeat (first | with_reducible exact Oo1_4.out | (with_reducible refine OwnE.setBelow ?_ (by first | (simp; done) | (simp; omega)) _) | with_reducible refine OwnE.alloc ?_ _ | with_reducible refine OwnE.drew ?_)) (by omega), (by repeat (first | with_reducible exact Below.refl _ _ | with_reducible assumption | with_reducible refine Below.drew ?_ | with_reducible refine Below.alloc ?_ (by first | exact Nat.le_refl _ | omega | (simp; done) | (simp; omega)) _ | with_reducible refine Below.setCell ?_ (by first | exact Nat.le_refl _ | omega | (simp; done) | (simp; omega)) _ | (with_reducible refine ext_trans ?_ (by with_reducible assumption))))⟩
end Go.Proofs.Yteaniiponikpjaa
