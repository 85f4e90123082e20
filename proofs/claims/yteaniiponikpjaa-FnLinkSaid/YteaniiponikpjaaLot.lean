/-
  Contracts of LinkOut, the program's and the reference's.
-/
import Derived.Test.YteaniiponikpjaaLok
import Derived.Test.YteaniiponikpjaaPkt
import Derived.Test.YteaniiponikpjaaStr
namespace Go.Proofs.Yteaniiponikpjaa
set_option maxRecDepth 100000
open Go.RowKit

def outR (x : RLnk) (ip : Int) (body : ByteArray) : ByteArray × Bool :=
  if (x.ok && (hwR x.ca ip).2) = true then
    if packB x.ip ip 64 6 0 body = true then
      if frameB (hwR x.ca ip).1 x.mac 2048 (packS x.ip ip 64 6 0 body) = true then (frameS (hwR x.ca ip).1 x.mac 2048 (packS x.ip ip 64 6 0 body), true) else (⟨#[]⟩, false)
    else (⟨#[]⟩, false)
  else (⟨#[]⟩, false)
theorem pack_ne {src dst ttl proto id : Int} {body : ByteArray} (h : packB src dst ttl proto id body = true) : 0 < (packS src dst ttl proto id body).size := by
  unfold packS
  rw [if_pos h]
  simp only [ByteArray.size_append, packF_size]
  omega
theorem frame_ne {dst src ty : Int} {body : ByteArray} (h : frameB dst src ty body = true) : 0 < (frameS dst src ty body).size := by
  unfold frameS
  rw [if_pos h]
  simp only [ByteArray.size_append, beS_size]
  omega
theorem pack_no {src dst ttl proto id : Int} {body : ByteArray} (h : packB src dst ttl proto id body = false) : packS src dst ttl proto id body = ⟨#[]⟩ := by
  unfold packS
  rw [h]
  rfl
theorem frame_no {dst src ty : Int} {body : ByteArray} (h : frameB dst src ty body = false) : frameS dst src ty body = ⟨#[]⟩ := by
  unfold frameS
  rw [h]
  rfl
theorem ne_forms {P : ByteArray} (h : 0 < P.size) : P.toList.isEmpty = false ∧ ¬ P.toList = [] ∧ ¬ P = ⟨#[]⟩ :=
  ⟨bs_isEmpty h, bs_ne_nil h, fun e => by subst e; exact absurd h (by decide)⟩
set_option maxHeartbeats 4000000 in
set_option linter.unusedVariables false in
theorem LinkOut_any (x : RLnk) (v : Value) (ip : Int) (body : ByteArray) (n1 : x.ca.length ≤ maxLen) (w : World) (h : RdEntry w v x.ca) :
    Calls Try.prog 40 #[vL x v, .int .i64 ip, .string body] w fun e w' => e = .returned (.tuple #[.string (outR x ip body).1, .bool (outR x ip body).2]) ∧ Below w.heap.size w w' := by
  obtain ⟨A, c, rfl, -⟩ := id h
  obtain ⟨m, q, l⟩ := x
  dsimp only at *
  have H := Lib.hid h
  have N := Lib.hid n1
  clear h n1
  obtain ⟨⟨r1, r2⟩, hR⟩ : ∃ R, hwR l ip = R := ⟨_, rfl⟩
  obtain ⟨P, hP⟩ : ∃ P, packS q ip 64 6 0 body = P := ⟨_, rfl⟩
  obtain ⟨F, hF⟩ : ∃ F, frameS r1 m 2048 P = F := ⟨_, rfl⟩
  obtain ⟨B1, hB1⟩ : ∃ B, (⟨m, q, l⟩ : RLnk).ok = B := ⟨_, rfl⟩
  have y1 := fun W h => HwOf_any (.slice A l.length c) l ip N.out W h
  have y2 := fun W h => LinkOk_any ⟨m, q, l⟩ (.slice A l.length c) N.out W h
  have y3 := fun W => PacketText_any q ip 64 6 0 body W
  have y4 := fun W => FrameText_any r1 m 2048 P W
  rw [hR] at y1
  rw [hB1] at y2
  rw [hP] at y3
  rw [hF] at y4
  dsimp only at y1 y2 y3 y4
  have Y1 := Lib.hid y1
  have Y2 := Lib.hid y2
  have Y3 := Lib.hid y3
  have Y4 := Lib.hid y4
  clear y1 y2 y3 y4
  have HO : Hid (outR ⟨m, q, l⟩ ip body = if (B1 && r2) = true then if packB q ip 64 6 0 body = true then if frameB r1 m 2048 P = true then (F, true) else (⟨#[]⟩, false) else (⟨#[]⟩, false) else (⟨#[]⟩, false)) := (by unfold outR; dsimp only; rw [hB1, hR, hP, hF] : outR ⟨m, q, l⟩ ip body = _)
  clear hB1 hR
  cases B1
  case false =>
    clear hF
    have HV : Hid (outR ⟨m, q, l⟩ ip body = (⟨#[]⟩, false)) := (by rw [HO.out]; rfl : outR ⟨m, q, l⟩ ip body = (⟨#[]⟩, false))
    clear HO
    go_enter Try.func40, Try.ntmps40
    go_wp2_with fail
    refine (Y1.out _ (H.out.below (by repeat (first | with_reducible exact Below.refl _ _ | with_reducible assumption | with_reducible refine Below.drew ?_ | with_reducible refine Below.alloc ?_ (by first | exact Nat.le_refl _ | omega | (simp; done) | (simp; omega)) _ | with_reducible refine Below.setCell ?_ (by first | exact Nat.le_refl _ | omega | (simp; done) | (simp; omega)) _ | (with_reducible refine ext_trans ?_ (by with_reducible assumption)))))).mono ?_
    rintro e w1 ⟨rfl, hb1⟩
    have hz1 := hb1.size
    (try simp at hz1)
    have ra_1 : w1.heap[w.heap.size]? = some (.cells #[.int .i64 m, .int .i64 q, .slice A l.length c] 37 (0, 0)) := (hb1.block _ (by first | (simp; done) | (simp; omega))).trans (by repeat (first | exact heap_new _ _ _ (by first | rfl | (simp; done) | (simp; omega)) | refine (Below.heap_alloc _ _ _ (by first | omega | (simp; done) | (simp; omega))).trans ?_))
    have hw1 : Below w.heap.size w w1 := (by repeat (first | with_reducible exact Below.refl _ _ | with_reducible assumption | with_reducible refine Below.drew ?_ | with_reducible refine Below.alloc ?_ (by first | exact Nat.le_refl _ | omega | (simp; done) | (simp; omega)) _ | with_reducible refine Below.setCell ?_ (by first | exact Nat.le_refl _ | omega | (simp; done) | (simp; omega)) _ | (with_reducible refine ext_trans ?_ (by with_reducible assumption))))
    have lRa_1 : w.heap.size < w1.heap.size := by omega
    have Ra_1 := Lib.hid ra_1
    have r0_ra_1 := cell_of_row _ _ 0 _ _ _ ra_1
    have r1_ra_1 := cell_of_row _ _ 1 _ _ _ ra_1
    have r2_ra_1 := cell_of_row _ _ 2 _ _ _ ra_1
    have f0_ra_1 := frozen_of_row _ _ 0 _ _ ra_1
    have f1_ra_1 := frozen_of_row _ _ 1 _ _ ra_1
    have f2_ra_1 := frozen_of_row _ _ 2 _ _ ra_1
    simp at r0_ra_1 r1_ra_1 r2_ra_1
    clear ra_1
    go_wp2_with fail
    refine (Y3.out _).mono ?_
    rintro e w2 ⟨rfl, hb2⟩
    have hz2 := hb2.size
    (try simp at hz2)
    have ra_2 := (hb2.block _ (by first | omega | (simp; done) | (simp; omega))).trans Ra_1.out
    have hw2 : Below w.heap.size w w2 := (by repeat (first | with_reducible exact Below.refl _ _ | with_reducible assumption | with_reducible refine Below.drew ?_ | with_reducible refine Below.alloc ?_ (by first | exact Nat.le_refl _ | omega | (simp; done) | (simp; omega)) _ | with_reducible refine Below.setCell ?_ (by first | exact Nat.le_refl _ | omega | (simp; done) | (simp; omega)) _ | (with_reducible refine ext_trans ?_ (by with_reducible assumption))))
    have lRa_2 : w.heap.size < w2.heap.size := by omega
    have Ra_2 := Lib.hid ra_2
    have r0_ra_2 := cell_of_row _ _ 0 _ _ _ ra_2
    have r1_ra_2 := cell_of_row _ _ 1 _ _ _ ra_2
    have r2_ra_2 := cell_of_row _ _ 2 _ _ _ ra_2
    have f0_ra_2 := frozen_of_row _ _ 0 _ _ ra_2
    have f1_ra_2 := frozen_of_row _ _ 1 _ _ ra_2
    have f2_ra_2 := frozen_of_row _ _ 2 _ _ ra_2
    simp at r0_ra_2 r1_ra_2 r2_ra_2
    clear ra_2
    clear r0_ra_1 f0_ra_1 r1_ra_1 f1_ra_1 r2_ra_1 f2_ra_1
    go_wp2_with fail
    refine (Y2.out _ (H.out.below (by repeat (first | with_reducible exact Below.refl _ _ | with_reducible assumption | with_reducible refine Below.drew ?_ | with_reducible refine Below.alloc ?_ (by first | exact Nat.le_refl _ | omega | (simp; done) | (simp; omega)) _ | with_reducible refine Below.setCell ?_ (by first | exact Nat.le_refl _ | omega | (simp; done) | (simp; omega)) _ | (with_reducible refine ext_trans ?_ (by with_reducible assumption)))))).mono ?_
    rintro e w3 ⟨rfl, hb3⟩
    have hz3 := hb3.size
    (try simp at hz3)
    have ra_3 := (hb3.block _ (by first | omega | (simp; done) | (simp; omega))).trans Ra_2.out
    have hw3 : Below w.heap.size w w3 := (by repeat (first | with_reducible exact Below.refl _ _ | with_reducible assumption | with_reducible refine Below.drew ?_ | with_reducible refine Below.alloc ?_ (by first | exact Nat.le_refl _ | omega | (simp; done) | (simp; omega)) _ | with_reducible refine Below.setCell ?_ (by first | exact Nat.le_refl _ | omega | (simp; done) | (simp; omega)) _ | (with_reducible refine ext_trans ?_ (by with_reducible assumption))))
    have lRa_3 : w.heap.size < w3.heap.size := by omega
    have Ra_3 := Lib.hid ra_3
    have r0_ra_3 := cell_of_row _ _ 0 _ _ _ ra_3
    have r1_ra_3 := cell_of_row _ _ 1 _ _ _ ra_3
    have r2_ra_3 := cell_of_row _ _ 2 _ _ _ ra_3
    have f0_ra_3 := frozen_of_row _ _ 0 _ _ ra_3
    have f1_ra_3 := frozen_of_row _ _ 1 _ _ ra_3
    have f2_ra_3 := frozen_of_row _ _ 2 _ _ ra_3
    simp at r0_ra_3 r1_ra_3 r2_ra_3
    clear ra_3
    clear r0_ra_2 f0_ra_2 r1_ra_2 f1_ra_2 r2_ra_2 f2_ra_2
    go_wp2_with fail
    exact bodyPost_ret (v := .tuple #[.string ⟨#[]⟩, .bool false]) (by simp [results, Try.results40, go_sem]) rfl ⟨by rw [HV.out], hw3⟩
  case true =>
    cases r2
    case false =>
      clear hF
      have HV : Hid (outR ⟨m, q, l⟩ ip body = (⟨#[]⟩, false)) := (by rw [HO.out]; rfl : outR ⟨m, q, l⟩ ip body = (⟨#[]⟩, false))
      clear HO
      go_enter Try.func40, Try.ntmps40
      go_wp2_with fail
      refine (Y1.out _ (H.out.below (by repeat (first | with_reducible exact Below.refl _ _ | with_reducible assumption | with_reducible refine Below.drew ?_ | with_reducible refine Below.alloc ?_ (by first | exact Nat.le_refl _ | omega | (simp; done) | (simp; omega)) _ | with_reducible refine Below.setCell ?_ (by first | exact Nat.le_refl _ | omega | (simp; done) | (simp; omega)) _ | (with_reducible refine ext_trans ?_ (by with_reducible assumption)))))).mono ?_
      rintro e w1 ⟨rfl, hb1⟩
      have hz1 := hb1.size
      (try simp at hz1)
      have ra_1 : w1.heap[w.heap.size]? = some (.cells #[.int .i64 m, .int .i64 q, .slice A l.length c] 37 (0, 0)) := (hb1.block _ (by first | (simp; done) | (simp; omega))).trans (by repeat (first | exact heap_new _ _ _ (by first | rfl | (simp; done) | (simp; omega)) | refine (Below.heap_alloc _ _ _ (by first | omega | (simp; done) | (simp; omega))).trans ?_))
      have hw1 : Below w.heap.size w w1 := (by repeat (first | with_reducible exact Below.refl _ _ | with_reducible assumption | with_reducible refine Below.drew ?_ | with_reducible refine Below.alloc ?_ (by first | exact Nat.le_refl _ | omega | (simp; done) | (simp; omega)) _ | with_reducible refine Below.setCell ?_ (by first | exact Nat.le_refl _ | omega | (simp; done) | (simp; omega)) _ | (with_reducible refine ext_trans ?_ (by with_reducible assumption))))
      have lRa_1 : w.heap.size < w1.heap.size := by omega
      have Ra_1 := Lib.hid ra_1
      have r0_ra_1 := cell_of_row _ _ 0 _ _ _ ra_1
      have r1_ra_1 := cell_of_row _ _ 1 _ _ _ ra_1
      have r2_ra_1 := cell_of_row _ _ 2 _ _ _ ra_1
      have f0_ra_1 := frozen_of_row _ _ 0 _ _ ra_1
      have f1_ra_1 := frozen_of_row _ _ 1 _ _ ra_1
      have f2_ra_1 := frozen_of_row _ _ 2 _ _ ra_1
      simp at r0_ra_1 r1_ra_1 r2_ra_1
      clear ra_1
      go_wp2_with fail
      refine (Y3.out _).mono ?_
      rintro e w2 ⟨rfl, hb2⟩
      have hz2 := hb2.size
      (try simp at hz2)
      have ra_2 := (hb2.block _ (by first | omega | (simp; done) | (simp; omega))).trans Ra_1.out
      have hw2 : Below w.heap.size w w2 := (by repeat (first | with_reducible exact Below.refl _ _ | with_reducible assumption | with_reducible refine Below.drew ?_ | with_reducible refine Below.alloc ?_ (by first | exact Nat.le_refl _ | omega | (simp; done) | (simp; omega)) _ | with_reducible refine Below.setCell ?_ (by first | exact Nat.le_refl _ | omega | (simp; done) | (simp; omega)) _ | (with_reducible refine ext_trans ?_ (by with_reducible assumption))))
      have lRa_2 : w.heap.size < w2.heap.size := by omega
      have Ra_2 := Lib.hid ra_2
      have r0_ra_2 := cell_of_row _ _ 0 _ _ _ ra_2
      have r1_ra_2 := cell_of_row _ _ 1 _ _ _ ra_2
      have r2_ra_2 := cell_of_row _ _ 2 _ _ _ ra_2
      have f0_ra_2 := frozen_of_row _ _ 0 _ _ ra_2
      have f1_ra_2 := frozen_of_row _ _ 1 _ _ ra_2
      have f2_ra_2 := frozen_of_row _ _ 2 _ _ ra_2
      simp at r0_ra_2 r1_ra_2 r2_ra_2
      clear ra_2
      clear r0_ra_1 f0_ra_1 r1_ra_1 f1_ra_1 r2_ra_1 f2_ra_1
      go_wp2_with fail
      refine (Y2.out _ (H.out.below (by repeat (first | with_reducible exact Below.refl _ _ | with_reducible assumption | with_reducible refine Below.drew ?_ | with_reducible refine Below.alloc ?_ (by first | exact Nat.le_refl _ | omega | (simp; done) | (simp; omega)) _ | with_reducible refine Below.setCell ?_ (by first | exact Nat.le_refl _ | omega | (simp; done) | (simp; omega)) _ | (with_reducible refine ext_trans ?_ (by with_reducible assumption)))))).mono ?_
      rintro e w3 ⟨rfl, hb3⟩
      have hz3 := hb3.size
      (try simp at hz3)
      have ra_3 := (hb3.block _ (by first | omega | (simp; done) | (simp; omega))).trans Ra_2.out
      have hw3 : Below w.heap.size w w3 := (by repeat (first | with_reducible exact Below.refl _ _ | with_reducible assumption | with_reducible refine Below.drew ?_ | with_reducible refine Below.alloc ?_ (by first | exact Nat.le_refl _ | omega | (simp; done) | (simp; omega)) _ | with_reducible refine Below.setCell ?_ (by first | exact Nat.le_refl _ | omega | (simp; done) | (simp; omega)) _ | (with_reducible refine ext_trans ?_ (by with_reducible assumption))))
      have lRa_3 : w.heap.size < w3.heap.size := by omega
      have Ra_3 := Lib.hid ra_3
      have r0_ra_3 := cell_of_row _ _ 0 _ _ _ ra_3
      have r1_ra_3 := cell_of_row _ _ 1 _ _ _ ra_3
      have r2_ra_3 := cell_of_row _ _ 2 _ _ _ ra_3
      have f0_ra_3 := frozen_of_row _ _ 0 _ _ ra_3
      have f1_ra_3 := frozen_of_row _ _ 1 _ _ ra_3
      have f2_ra_3 := frozen_of_row _ _ 2 _ _ ra_3
      simp at r0_ra_3 r1_ra_3 r2_ra_3
      clear ra_3
      clear r0_ra_2 f0_ra_2 r1_ra_2 f1_ra_2 r2_ra_2 f2_ra_2
      go_wp2_with fail
      exact bodyPost_ret (v := .tuple #[.string ⟨#[]⟩, .bool false]) (by simp [results, Try.results40, go_sem]) rfl ⟨by rw [HV.out], hw3⟩
    case true =>
      cases hpb : packB q ip 64 6 0 body
      case false =>
        have HV : Hid (outR ⟨m, q, l⟩ ip body = (⟨#[]⟩, false)) := (by rw [HO.out, hpb]; rfl : outR ⟨m, q, l⟩ ip body = _)
        clear HO hF Y4
        rw [pack_no hpb] at hP
        subst hP
        clear hpb
        go_enter Try.func40, Try.ntmps40
        go_wp2_with fail
        refine (Y1.out _ (H.out.below (by repeat (first | with_reducible exact Below.refl _ _ | with_reducible assumption | with_reducible refine Below.drew ?_ | with_reducible refine Below.alloc ?_ (by first | exact Nat.le_refl _ | omega | (simp; done) | (simp; omega)) _ | with_reducible refine Below.setCell ?_ (by first | exact Nat.le_refl _ | omega | (simp; done) | (simp; omega)) _ | (with_reducible refine ext_trans ?_ (by with_reducible assumption)))))).mono ?_
        rintro e w1 ⟨rfl, hb1⟩
        have hz1 := hb1.size
        (try simp at hz1)
        have ra_1 : w1.heap[w.heap.size]? = some (.cells #[.int .i64 m, .int .i64 q, .slice A l.length c] 37 (0, 0)) := (hb1.block _ (by first | (simp; done) | (simp; omega))).trans (by repeat (first | exact heap_new _ _ _ (by first | rfl | (simp; done) | (simp; omega)) | refine (Below.heap_alloc _ _ _ (by first | omega | (simp; done) | (simp; omega))).trans ?_))
        have hw1 : Below w.heap.size w w1 := (by repeat (first | with_reducible exact Below.refl _ _ | with_reducible assumption | with_reducible refine Below.drew ?_ | with_reducible refine Below.alloc ?_ (by first | exact Nat.le_refl _ | omega | (simp; done) | (simp; omega)) _ | with_reducible refine Below.setCell ?_ (by first | exact Nat.le_refl _ | omega | (simp; done) | (simp; omega)) _ | (with_reducible refine ext_trans ?_ (by with_reducible assumption))))
        have lRa_1 : w.heap.size < w1.heap.size := by omega
        have Ra_1 := Lib.hid ra_1
        have r0_ra_1 := cell_of_row _ _ 0 _ _ _ ra_1
        have r1_ra_1 := cell_of_row _ _ 1 _ _ _ ra_1
        have r2_ra_1 := cell_of_row _ _ 2 _ _ _ ra_1
        have f0_ra_1 := frozen_of_row _ _ 0 _ _ ra_1
        have f1_ra_1 := frozen_of_row _ _ 1 _ _ ra_1
        have f2_ra_1 := frozen_of_row _ _ 2 _ _ ra_1
        simp at r0_ra_1 r1_ra_1 r2_ra_1
        clear ra_1
        go_wp2_with fail
        refine (Y3.out _).mono ?_
        rintro e w2 ⟨rfl, hb2⟩
        have hz2 := hb2.size
        (try simp at hz2)
        have ra_2 := (hb2.block _ (by first | omega | (simp; done) | (simp; omega))).trans Ra_1.out
        have hw2 : Below w.heap.size w w2 := (by repeat (first | with_reducible exact Below.refl _ _ | with_reducible assumption | with_reducible refine Below.drew ?_ | with_reducible refine Below.alloc ?_ (by first | exact Nat.le_refl _ | omega | (simp; done) | (simp; omega)) _ | with_reducible refine Below.setCell ?_ (by first | exact Nat.le_refl _ | omega | (simp; done) | (simp; omega)) _ | (with_reducible refine ext_trans ?_ (by with_reducible assumption))))
        have lRa_2 : w.heap.size < w2.heap.size := by omega
        have Ra_2 := Lib.hid ra_2
        have r0_ra_2 := cell_of_row _ _ 0 _ _ _ ra_2
        have r1_ra_2 := cell_of_row _ _ 1 _ _ _ ra_2
        have r2_ra_2 := cell_of_row _ _ 2 _ _ _ ra_2
        have f0_ra_2 := frozen_of_row _ _ 0 _ _ ra_2
        have f1_ra_2 := frozen_of_row _ _ 1 _ _ ra_2
        have f2_ra_2 := frozen_of_row _ _ 2 _ _ ra_2
        simp at r0_ra_2 r1_ra_2 r2_ra_2
        clear ra_2
        clear r0_ra_1 f0_ra_1 r1_ra_1 f1_ra_1 r2_ra_1 f2_ra_1
        go_wp2_with fail
        refine (Y2.out _ (H.out.below (by repeat (first | with_reducible exact Below.refl _ _ | with_reducible assumption | with_reducible refine Below.drew ?_ | with_reducible refine Below.alloc ?_ (by first | exact Nat.le_refl _ | omega | (simp; done) | (simp; omega)) _ | with_reducible refine Below.setCell ?_ (by first | exact Nat.le_refl _ | omega | (simp; done) | (simp; omega)) _ | (with_reducible refine ext_trans ?_ (by with_reducible assumption)))))).mono ?_
        rintro e w3 ⟨rfl, hb3⟩
        have hz3 := hb3.size
        (try simp at hz3)
        have ra_3 := (hb3.block _ (by first | omega | (simp; done) | (simp; omega))).trans Ra_2.out
        have hw3 : Below w.heap.size w w3 := (by repeat (first | with_reducible exact Below.refl _ _ | with_reducible assumption | with_reducible refine Below.drew ?_ | with_reducible refine Below.alloc ?_ (by first | exact Nat.le_refl _ | omega | (simp; done) | (simp; omega)) _ | with_reducible refine Below.setCell ?_ (by first | exact Nat.le_refl _ | omega | (simp; done) | (simp; omega)) _ | (with_reducible refine ext_trans ?_ (by with_reducible assumption))))
        have lRa_3 : w.heap.size < w3.heap.size := by omega
        have Ra_3 := Lib.hid ra_3
        have r0_ra_3 := cell_of_row _ _ 0 _ _ _ ra_3
        have r1_ra_3 := cell_of_row _ _ 1 _ _ _ ra_3
        have r2_ra_3 := cell_of_row _ _ 2 _ _ _ ra_3
        have f0_ra_3 := frozen_of_row _ _ 0 _ _ ra_3
        have f1_ra_3 := frozen_of_row _ _ 1 _ _ ra_3
        have f2_ra_3 := frozen_of_row _ _ 2 _ _ ra_3
        simp at r0_ra_3 r1_ra_3 r2_ra_3
        clear ra_3
        clear r0_ra_2 f0_ra_2 r1_ra_2 f1_ra_2 r2_ra_2 f2_ra_2
        go_wp2_with fail
        exact bodyPost_ret (v := .tuple #[.string ⟨#[]⟩, .bool false]) (by simp [results, Try.results40, go_sem]) rfl ⟨by rw [HV.out], hw3⟩
      case true =>
        obtain ⟨n1, n2, n3⟩ := ne_forms (pack_ne hpb)
        rw [hP] at n1 n2 n3
        cases hfb : frameB r1 m 2048 P
        case false =>
          have HV : Hid (outR ⟨m, q, l⟩ ip body = (⟨#[]⟩, false)) := (by rw [HO.out, hpb, hfb]; rfl : outR ⟨m, q, l⟩ ip body = _)
          clear HO hP
          rw [frame_no hfb] at hF
          subst hF
          clear hfb hpb
          go_enter Try.func40, Try.ntmps40
          go_wp2_with fail
          refine (Y1.out _ (H.out.below (by repeat (first | with_reducible exact Below.refl _ _ | with_reducible assumption | with_reducible refine Below.drew ?_ | with_reducible refine Below.alloc ?_ (by first | exact Nat.le_refl _ | omega | (simp; done) | (simp; omega)) _ | with_reducible refine Below.setCell ?_ (by first | exact Nat.le_refl _ | omega | (simp; done) | (simp; omega)) _ | (with_reducible refine ext_trans ?_ (by with_reducible assumption)))))).mono ?_
          rintro e w1 ⟨rfl, hb1⟩
          have hz1 := hb1.size
          (try simp at hz1)
          have ra_1 : w1.heap[w.heap.size]? = some (.cells #[.int .i64 m, .int .i64 q, .slice A l.length c] 37 (0, 0)) := (hb1.block _ (by first | (simp; done) | (simp; omega))).trans (by repeat (first | exact heap_new _ _ _ (by first | rfl | (simp; done) | (simp; omega)) | refine (Below.heap_alloc _ _ _ (by first | omega | (simp; done) | (simp; omega))).trans ?_))
          have hw1 : Below w.heap.size w w1 := (by repeat (first | with_reducible exact Below.refl _ _ | with_reducible assumption | with_reducible refine Below.drew ?_ | with_reducible refine Below.alloc ?_ (by first | exact Nat.le_refl _ | omega | (simp; done) | (simp; omega)) _ | with_reducible refine Below.setCell ?_ (by first | exact Nat.le_refl _ | omega | (simp; done) | (simp; omega)) _ | (with_reducible refine ext_trans ?_ (by with_reducible assumption))))
          have lRa_1 : w.heap.size < w1.heap.size := by omega
          have Ra_1 := Lib.hid ra_1
          have r0_ra_1 := cell_of_row _ _ 0 _ _ _ ra_1
          have r1_ra_1 := cell_of_row _ _ 1 _ _ _ ra_1
          have r2_ra_1 := cell_of_row _ _ 2 _ _ _ ra_1
          have f0_ra_1 := frozen_of_row _ _ 0 _ _ ra_1
          have f1_ra_1 := frozen_of_row _ _ 1 _ _ ra_1
          have f2_ra_1 := frozen_of_row _ _ 2 _ _ ra_1
          simp at r0_ra_1 r1_ra_1 r2_ra_1
          clear ra_1
          go_wp2_with fail
          refine (Y3.out _).mono ?_
          rintro e w2 ⟨rfl, hb2⟩
          have hz2 := hb2.size
          (try simp at hz2)
          have ra_2 := (hb2.block _ (by first | omega | (simp; done) | (simp; omega))).trans Ra_1.out
          have hw2 : Below w.heap.size w w2 := (by repeat (first | with_reducible exact Below.refl _ _ | with_reducible assumption | with_reducible refine Below.drew ?_ | with_reducible refine Below.alloc ?_ (by first | exact Nat.le_refl _ | omega | (simp; done) | (simp; omega)) _ | with_reducible refine Below.setCell ?_ (by first | exact Nat.le_refl _ | omega | (simp; done) | (simp; omega)) _ | (with_reducible refine ext_trans ?_ (by with_reducible assumption))))
          have lRa_2 : w.heap.size < w2.heap.size := by omega
          have Ra_2 := Lib.hid ra_2
          have r0_ra_2 := cell_of_row _ _ 0 _ _ _ ra_2
          have r1_ra_2 := cell_of_row _ _ 1 _ _ _ ra_2
          have r2_ra_2 := cell_of_row _ _ 2 _ _ _ ra_2
          have f0_ra_2 := frozen_of_row _ _ 0 _ _ ra_2
          have f1_ra_2 := frozen_of_row _ _ 1 _ _ ra_2
          have f2_ra_2 := frozen_of_row _ _ 2 _ _ ra_2
          simp at r0_ra_2 r1_ra_2 r2_ra_2
          clear ra_2
          clear r0_ra_1 f0_ra_1 r1_ra_1 f1_ra_1 r2_ra_1 f2_ra_1
          go_wp2_with fail
          refine (Y2.out _ (H.out.below (by repeat (first | with_reducible exact Below.refl _ _ | with_reducible assumption | with_reducible refine Below.drew ?_ | with_reducible refine Below.alloc ?_ (by first | exact Nat.le_refl _ | omega | (simp; done) | (simp; omega)) _ | with_reducible refine Below.setCell ?_ (by first | exact Nat.le_refl _ | omega | (simp; done) | (simp; omega)) _ | (with_reducible refine ext_trans ?_ (by with_reducible assumption)))))).mono ?_
          rintro e w3 ⟨rfl, hb3⟩
          have hz3 := hb3.size
          (try simp at hz3)
          have ra_3 := (hb3.block _ (by first | omega | (simp; done) | (simp; omega))).trans Ra_2.out
          have hw3 : Below w.heap.size w w3 := (by repeat (first | with_reducible exact Below.refl _ _ | with_reducible assumption | with_reducible refine Below.drew ?_ | with_reducible refine Below.alloc ?_ (by first | exact Nat.le_refl _ | omega | (simp; done) | (simp; omega)) _ | with_reducible refine Below.setCell ?_ (by first | exact Nat.le_refl _ | omega | (simp; done) | (simp; omega)) _ | (with_reducible refine ext_trans ?_ (by with_reducible assumption))))
          have lRa_3 : w.heap.size < w3.heap.size := by omega
          have Ra_3 := Lib.hid ra_3
          have r0_ra_3 := cell_of_row _ _ 0 _ _ _ ra_3
          have r1_ra_3 := cell_of_row _ _ 1 _ _ _ ra_3
          have r2_ra_3 := cell_of_row _ _ 2 _ _ _ ra_3
          have f0_ra_3 := frozen_of_row _ _ 0 _ _ ra_3
          have f1_ra_3 := frozen_of_row _ _ 1 _ _ ra_3
          have f2_ra_3 := frozen_of_row _ _ 2 _ _ ra_3
          simp at r0_ra_3 r1_ra_3 r2_ra_3
          clear ra_3
          clear r0_ra_2 f0_ra_2 r1_ra_2 f1_ra_2 r2_ra_2 f2_ra_2
          go_wp2_with fail
          refine (Y4.out _).mono ?_
          rintro e w4 ⟨rfl, hb4⟩
          have hz4 := hb4.size
          (try simp at hz4)
          have ra_4 := (hb4.block _ (by first | omega | (simp; done) | (simp; omega))).trans Ra_3.out
          have hw4 : Below w.heap.size w w4 := (by repeat (first | with_reducible exact Below.refl _ _ | with_reducible assumption | with_reducible refine Below.drew ?_ | with_reducible refine Below.alloc ?_ (by first | exact Nat.le_refl _ | omega | (simp; done) | (simp; omega)) _ | with_reducible refine Below.setCell ?_ (by first | exact Nat.le_refl _ | omega | (simp; done) | (simp; omega)) _ | (with_reducible refine ext_trans ?_ (by with_reducible assumption))))
          have lRa_4 : w.heap.size < w4.heap.size := by omega
          have Ra_4 := Lib.hid ra_4
          have r0_ra_4 := cell_of_row _ _ 0 _ _ _ ra_4
          have r1_ra_4 := cell_of_row _ _ 1 _ _ _ ra_4
          have r2_ra_4 := cell_of_row _ _ 2 _ _ _ ra_4
          have f0_ra_4 := frozen_of_row _ _ 0 _ _ ra_4
          have f1_ra_4 := frozen_of_row _ _ 1 _ _ ra_4
          have f2_ra_4 := frozen_of_row _ _ 2 _ _ ra_4
          simp at r0_ra_4 r1_ra_4 r2_ra_4
          clear ra_4
          clear r0_ra_3 f0_ra_3 r1_ra_3 f1_ra_3 r2_ra_3 f2_ra_3
          go_wp2_with fail
          exact bodyPost_ret (v := .tuple #[.string ⟨#[]⟩, .bool false]) (by simp [results, Try.results40, go_sem]) rfl ⟨by rw [HV.out], hw4⟩
        case true =>
          have HV : Hid (outR ⟨m, q, l⟩ ip body = (F, true)) := (by rw [HO.out, hpb, hfb]; rfl : outR ⟨m, q, l⟩ ip body = _)
          obtain ⟨o1, o2, o3⟩ := ne_forms (frame_ne hfb)
          rw [hF] at o1 o2 o3
          clear HO hP hF hfb hpb
          go_enter Try.func40, Try.ntmps40
          go_wp2_with fail
          refine (Y1.out _ (H.out.below (by repeat (first | with_reducible exact Below.refl _ _ | with_reducible assumption | with_reducible refine Below.drew ?_ | with_reducible refine Below.alloc ?_ (by first | exact Nat.le_refl _ | omega | (simp; done) | (simp; omega)) _ | with_reducible refine Below.setCell ?_ (by first | exact Nat.le_refl _ | omega | (simp; done) | (simp; omega)) _ | (with_reducible refine ext_trans ?_ (by with_reducible assumption)))))).mono ?_
          rintro e w1 ⟨rfl, hb1⟩
          have hz1 := hb1.size
          (try simp at hz1)
          have ra_1 : w1.heap[w.heap.size]? = some (.cells #[.int .i64 m, .int .i64 q, .slice A l.length c] 37 (0, 0)) := (hb1.block _ (by first | (simp; done) | (simp; omega))).trans (by repeat (first | exact heap_new _ _ _ (by first | rfl | (simp; done) | (simp; omega)) | refine (Below.heap_alloc _ _ _ (by first | omega | (simp; done) | (simp; omega))).trans ?_))
          have hw1 : Below w.heap.size w w1 := (by repeat (first | with_reducible exact Below.refl _ _ | with_reducible assumption | with_reducible refine Below.drew ?_ | with_reducible refine Below.alloc ?_ (by first | exact Nat.le_refl _ | omega | (simp; done) | (simp; omega)) _ | with_reducible refine Below.setCell ?_ (by first | exact Nat.le_refl _ | omega | (simp; done) | (simp; omega)) _ | (with_reducible refine ext_trans ?_ (by with_reducible assumption))))
          have lRa_1 : w.heap.size < w1.heap.size := by omega
          have Ra_1 := Lib.hid ra_1
          have r0_ra_1 := cell_of_row _ _ 0 _ _ _ ra_1
          have r1_ra_1 := cell_of_row _ _ 1 _ _ _ ra_1
          have r2_ra_1 := cell_of_row _ _ 2 _ _ _ ra_1
          have f0_ra_1 := frozen_of_row _ _ 0 _ _ ra_1
          have f1_ra_1 := frozen_of_row _ _ 1 _ _ ra_1
          have f2_ra_1 := frozen_of_row _ _ 2 _ _ ra_1
          simp at r0_ra_1 r1_ra_1 r2_ra_1
          clear ra_1
          go_wp2_with fail
          refine (Y3.out _).mono ?_
          rintro e w2 ⟨rfl, hb2⟩
          have hz2 := hb2.size
          (try simp at hz2)
          have ra_2 := (hb2.block _ (by first | omega | (simp; done) | (simp; omega))).trans Ra_1.out
          have hw2 : Below w.heap.size w w2 := (by repeat (first | with_reducible exact Below.refl _ _ | with_reducible assumption | with_reducible refine Below.drew ?_ | with_reducible refine Below.alloc ?_ (by first | exact Nat.le_refl _ | omega | (simp; done) | (simp; omega)) _ | with_reducible refine Below.setCell ?_ (by first | exact Nat.le_refl _ | omega | (simp; done) | (simp; omega)) _ | (with_reducible refine ext_trans ?_ (by with_reducible assumption))))
          have lRa_2 : w.heap.size < w2.heap.size := by omega
          have Ra_2 := Lib.hid ra_2
          have r0_ra_2 := cell_of_row _ _ 0 _ _ _ ra_2
          have r1_ra_2 := cell_of_row _ _ 1 _ _ _ ra_2
          have r2_ra_2 := cell_of_row _ _ 2 _ _ _ ra_2
          have f0_ra_2 := frozen_of_row _ _ 0 _ _ ra_2
          have f1_ra_2 := frozen_of_row _ _ 1 _ _ ra_2
          have f2_ra_2 := frozen_of_row _ _ 2 _ _ ra_2
          simp at r0_ra_2 r1_ra_2 r2_ra_2
          clear ra_2
          clear r0_ra_1 f0_ra_1 r1_ra_1 f1_ra_1 r2_ra_1 f2_ra_1
          go_wp2_with fail
          refine (Y2.out _ (H.out.below (by repeat (first | with_reducible exact Below.refl _ _ | with_reducible assumption | with_reducible refine Below.drew ?_ | with_reducible refine Below.alloc ?_ (by first | exact Nat.le_refl _ | omega | (simp; done) | (simp; omega)) _ | with_reducible refine Below.setCell ?_ (by first | exact Nat.le_refl _ | omega | (simp; done) | (simp; omega)) _ | (with_reducible refine ext_trans ?_ (by with_reducible assumption)))))).mono ?_
          rintro e w3 ⟨rfl, hb3⟩
          have hz3 := hb3.size
          (try simp at hz3)
          have ra_3 := (hb3.block _ (by first | omega | (simp; done) | (simp; omega))).trans Ra_2.out
          have hw3 : Below w.heap.size w w3 := (by repeat (first | with_reducible exact Below.refl _ _ | with_reducible assumption | with_reducible refine Below.drew ?_ | with_reducible refine Below.alloc ?_ (by first | exact Nat.le_refl _ | omega | (simp; done) | (simp; omega)) _ | with_reducible refine Below.setCell ?_ (by first | exact Nat.le_refl _ | omega | (simp; done) | (simp; omega)) _ | (with_reducible refine ext_trans ?_ (by with_reducible assumption))))
          have lRa_3 : w.heap.size < w3.heap.size := by omega
          have Ra_3 := Lib.hid ra_3
          have r0_ra_3 := cell_of_row _ _ 0 _ _ _ ra_3
          have r1_ra_3 := cell_of_row _ _ 1 _ _ _ ra_3
          have r2_ra_3 := cell_of_row _ _ 2 _ _ _ ra_3
          have f0_ra_3 := frozen_of_row _ _ 0 _ _ ra_3
          have f1_ra_3 := frozen_of_row _ _ 1 _ _ ra_3
          have f2_ra_3 := frozen_of_row _ _ 2 _ _ ra_3
          simp at r0_ra_3 r1_ra_3 r2_ra_3
          clear ra_3
          clear r0_ra_2 f0_ra_2 r1_ra_2 f1_ra_2 r2_ra_2 f2_ra_2
          go_wp2_with fail
          refine (Y4.out _).mono ?_
          rintro e w4 ⟨rfl, hb4⟩
          have hz4 := hb4.size
          (try simp at hz4)
          have ra_4 := (hb4.block _ (by first | omega | (simp; done) | (simp; omega))).trans Ra_3.out
          have hw4 : Below w.heap.size w w4 := (by repeat (first | with_reducible exact Below.refl _ _ | with_reducible assumption | with_reducible refine Below.drew ?_ | with_reducible refine Below.alloc ?_ (by first | exact Nat.le_refl _ | omega | (simp; done) | (simp; omega)) _ | with_reducible refine Below.setCell ?_ (by first | exact Nat.le_refl _ | omega | (simp; done) | (simp; omega)) _ | (with_reducible refine ext_trans ?_ (by with_reducible assumption))))
          have lRa_4 : w.heap.size < w4.heap.size := by omega
          have Ra_4 := Lib.hid ra_4
          have r0_ra_4 := cell_of_row _ _ 0 _ _ _ ra_4
          have r1_ra_4 := cell_of_row _ _ 1 _ _ _ ra_4
          have r2_ra_4 := cell_of_row _ _ 2 _ _ _ ra_4
          have f0_ra_4 := frozen_of_row _ _ 0 _ _ ra_4
          have f1_ra_4 := frozen_of_row _ _ 1 _ _ ra_4
          have f2_ra_4 := frozen_of_row _ _ 2 _ _ ra_4
          simp at r0_ra_4 r1_ra_4 r2_ra_4
          clear ra_4
          clear r0_ra_3 f0_ra_3 r1_ra_3 f1_ra_3 r2_ra_3 f2_ra_3
          go_wp2_with fail
          exact bodyPost_ret (v := .tuple #[.string F, .bool true]) (by simp [results, Try.results40, go_sem]) rfl ⟨by rw [HV.out], hw4⟩
set_option maxHeartbeats 4000000 in
set_option linter.unusedVariables false in
theorem sLinkOut_any (x : RLnk) (v : Value) (ip : Int) (body : ByteArray) (n1 : x.ca.length ≤ maxLen) (w : World) (h : RdEntry w v x.ca) :
    Calls Try.prog 39 #[vL x v, .int .i64 ip, .string body] w fun e w' => e = .returned (.tuple #[.string (outR x ip body).1, .bool (outR x ip body).2]) ∧ Below w.heap.size w w' := by
  obtain ⟨A, c, rfl, -⟩ := id h
  obtain ⟨m, q, l⟩ := x
  dsimp only at *
  have H := Lib.hid h
  have N := Lib.hid n1
  clear h n1
  obtain ⟨⟨r1, r2⟩, hR⟩ : ∃ R, hwR l ip = R := ⟨_, rfl⟩
  obtain ⟨P, hP⟩ : ∃ P, packS q ip 64 6 0 body = P := ⟨_, rfl⟩
  obtain ⟨F, hF⟩ : ∃ F, frameS r1 m 2048 P = F := ⟨_, rfl⟩
  obtain ⟨B1, hB1⟩ : ∃ B, (⟨m, q, l⟩ : RLnk).ok = B := ⟨_, rfl⟩
  have y1 := fun W h => sHwOf_any (.slice A l.length c) l ip N.out W h
  have y2 := fun W h => sLinkOk_any ⟨m, q, l⟩ (.slice A l.length c) N.out W h
  have y3 := fun W => sPacketText_any q ip 64 6 0 body W
  have y4 := fun W => sFrameText_any r1 m 2048 P W
  rw [hR] at y1
  rw [hB1] at y2
  rw [hP] at y3
  rw [hF] at y4
  dsimp only at y1 y2 y3 y4
  have Y1 := Lib.hid y1
  have Y2 := Lib.hid y2
  have Y3 := Lib.hid y3
  have Y4 := Lib.hid y4
  clear y1 y2 y3 y4
  have HO : Hid (outR ⟨m, q, l⟩ ip body = if (B1 && r2) = true then if packB q ip 64 6 0 body = true then if frameB r1 m 2048 P = true then (F, true) else (⟨#[]⟩, false) else (⟨#[]⟩, false) else (⟨#[]⟩, false)) := (by unfold outR; dsimp only; rw [hB1, hR, hP, hF] : outR ⟨m, q, l⟩ ip body = _)
  clear hB1 hR
  cases B1
  case false =>
    clear hF
    have HV : Hid (outR ⟨m, q, l⟩ ip body = (⟨#[]⟩, false)) := (by rw [HO.out]; rfl : outR ⟨m, q, l⟩ ip body = (⟨#[]⟩, false))
    clear HO
    go_enter Try.func39, Try.ntmps39
    go_wp2_with fail
    refine (Y1.out _ (H.out.below (by repeat (first | with_reducible exact Below.refl _ _ | with_reducible assumption | with_reducible refine Below.drew ?_ | with_reducible refine Below.alloc ?_ (by first | exact Nat.le_refl _ | omega | (simp; done) | (simp; omega)) _ | with_reducible refine Below.setCell ?_ (by first | exact Nat.le_refl _ | omega | (simp; done) | (simp; omega)) _ | (with_reducible refine ext_trans ?_ (by with_reducible assumption)))))).mono ?_
    rintro e w1 ⟨rfl, hb1⟩
    have hz1 := hb1.size
    (try simp at hz1)
    have ra_1 : w1.heap[w.heap.size]? = some (.cells #[.int .i64 m, .int .i64 q, .slice A l.length c] 37 (0, 0)) := (hb1.block _ (by first | (simp; done) | (simp; omega))).trans (by repeat (first | exact heap_new _ _ _ (by first | rfl | (simp; done) | (simp; omega)) | refine (Below.heap_alloc _ _ _ (by first | omega | (simp; done) | (simp; omega))).trans ?_))
    have hw1 : Below w.heap.size w w1 := (by repeat (first | with_reducible exact Below.refl _ _ | with_reducible assumption | with_reducible refine Below.drew ?_ | with_reducible refine Below.alloc ?_ (by first | exact Nat.le_refl _ | omega | (simp; done) | (simp; omega)) _ | with_reducible refine Below.setCell ?_ (by first | exact Nat.le_refl _ | omega | (simp; done) | (simp; omega)) _ | (with_reducible refine ext_trans ?_ (by with_reducible assumption))))
    have lRa_1 : w.heap.size < w1.heap.size := by omega
    have Ra_1 := Lib.hid ra_1
    have r0_ra_1 := cell_of_row _ _ 0 _ _ _ ra_1
    have r1_ra_1 := cell_of_row _ _ 1 _ _ _ ra_1
    have r2_ra_1 := cell_of_row _ _ 2 _ _ _ ra_1
    have f0_ra_1 := frozen_of_row _ _ 0 _ _ ra_1
    have f1_ra_1 := frozen_of_row _ _ 1 _ _ ra_1
    have f2_ra_1 := frozen_of_row _ _ 2 _ _ ra_1
    simp at r0_ra_1 r1_ra_1 r2_ra_1
    clear ra_1
    go_wp2_with fail
    refine (Y2.out _ (H.out.below (by repeat (first | with_reducible exact Below.refl _ _ | with_reducible assumption | with_reducible refine Below.drew ?_ | with_reducible refine Below.alloc ?_ (by first | exact Nat.le_refl _ | omega | (simp; done) | (simp; omega)) _ | with_reducible refine Below.setCell ?_ (by first | exact Nat.le_refl _ | omega | (simp; done) | (simp; omega)) _ | (with_reducible refine ext_trans ?_ (by with_reducible assumption)))))).mono ?_
    rintro e w2 ⟨rfl, hb2⟩
    have hz2 := hb2.size
    (try simp at hz2)
    have ra_2 := (hb2.block _ (by first | omega | (simp; done) | (simp; omega))).trans Ra_1.out
    have hw2 : Below w.heap.size w w2 := (by repeat (first | with_reducible exact Below.refl _ _ | with_reducible assumption | with_reducible refine Below.drew ?_ | with_reducible refine Below.alloc ?_ (by first | exact Nat.le_refl _ | omega | (simp; done) | (simp; omega)) _ | with_reducible refine Below.setCell ?_ (by first | exact Nat.le_refl _ | omega | (simp; done) | (simp; omega)) _ | (with_reducible refine ext_trans ?_ (by with_reducible assumption))))
    have lRa_2 : w.heap.size < w2.heap.size := by omega
    have Ra_2 := Lib.hid ra_2
    have r0_ra_2 := cell_of_row _ _ 0 _ _ _ ra_2
    have r1_ra_2 := cell_of_row _ _ 1 _ _ _ ra_2
    have r2_ra_2 := cell_of_row _ _ 2 _ _ _ ra_2
    have f0_ra_2 := frozen_of_row _ _ 0 _ _ ra_2
    have f1_ra_2 := frozen_of_row _ _ 1 _ _ ra_2
    have f2_ra_2 := frozen_of_row _ _ 2 _ _ ra_2
    simp at r0_ra_2 r1_ra_2 r2_ra_2
    clear ra_2
    clear r0_ra_1 f0_ra_1 r1_ra_1 f1_ra_1 r2_ra_1 f2_ra_1
    go_wp2_with fail
    exact bodyPost_ret (v := .tuple #[.string ⟨#[]⟩, .bool false]) (by simp [results, Try.results39, go_sem]) rfl ⟨by rw [HV.out], hw2⟩
  case true =>
    cases r2
    case false =>
      clear hF
      have HV : Hid (outR ⟨m, q, l⟩ ip body = (⟨#[]⟩, false)) := (by rw [HO.out]; rfl : outR ⟨m, q, l⟩ ip body = (⟨#[]⟩, false))
      clear HO
      go_enter Try.func39, Try.ntmps39
      go_wp2_with fail
      refine (Y1.out _ (H.out.below (by repeat (first | with_reducible exact Below.refl _ _ | with_reducible assumption | with_reducible refine Below.drew ?_ | with_reducible refine Below.alloc ?_ (by first | exact Nat.le_refl _ | omega | (simp; done) | (simp; omega)) _ | with_reducible refine Below.setCell ?_ (by first | exact Nat.le_refl _ | omega | (simp; done) | (simp; omega)) _ | (with_reducible refine ext_trans ?_ (by with_reducible assumption)))))).mono ?_
      rintro e w1 ⟨rfl, hb1⟩
      have hz1 := hb1.size
      (try simp at hz1)
      have ra_1 : w1.heap[w.heap.size]? = some (.cells #[.int .i64 m, .int .i64 q, .slice A l.length c] 37 (0, 0)) := (hb1.block _ (by first | (simp; done) | (simp; omega))).trans (by repeat (first | exact heap_new _ _ _ (by first | rfl | (simp; done) | (simp; omega)) | refine (Below.heap_alloc _ _ _ (by first | omega | (simp; done) | (simp; omega))).trans ?_))
      have hw1 : Below w.heap.size w w1 := (by repeat (first | with_reducible exact Below.refl _ _ | with_reducible assumption | with_reducible refine Below.drew ?_ | with_reducible refine Below.alloc ?_ (by first | exact Nat.le_refl _ | omega | (simp; done) | (simp; omega)) _ | with_reducible refine Below.setCell ?_ (by first | exact Nat.le_refl _ | omega | (simp; done) | (simp; omega)) _ | (with_reducible refine ext_trans ?_ (by with_reducible assumption))))
      have lRa_1 : w.heap.size < w1.heap.size := by omega
      have Ra_1 := Lib.hid ra_1
      have r0_ra_1 := cell_of_row _ _ 0 _ _ _ ra_1
      have r1_ra_1 := cell_of_row _ _ 1 _ _ _ ra_1
      have r2_ra_1 := cell_of_row _ _ 2 _ _ _ ra_1
      have f0_ra_1 := frozen_of_row _ _ 0 _ _ ra_1
      have f1_ra_1 := frozen_of_row _ _ 1 _ _ ra_1
      have f2_ra_1 := frozen_of_row _ _ 2 _ _ ra_1
      simp at r0_ra_1 r1_ra_1 r2_ra_1
      clear ra_1
      go_wp2_with fail
      refine (Y2.out _ (H.out.below (by repeat (first | with_reducible exact Below.refl _ _ | with_reducible assumption | with_reducible refine Below.drew ?_ | with_reducible refine Below.alloc ?_ (by first | exact Nat.le_refl _ | omega | (simp; done) | (simp; omega)) _ | with_reducible refine Below.setCell ?_ (by first | exact Nat.le_refl _ | omega | (simp; done) | (simp; omega)) _ | (with_reducible refine ext_trans ?_ (by with_reducible assumption)))))).mono ?_
      rintro e w2 ⟨rfl, hb2⟩
      have hz2 := hb2.size
      (try simp at hz2)
      have ra_2 := (hb2.block _ (by first | omega | (simp; done) | (simp; omega))).trans Ra_1.out
      have hw2 : Below w.heap.size w w2 := (by repeat (first | with_reducible exact Below.refl _ _ | with_reducible assumption | with_reducible refine Below.drew ?_ | with_reducible refine Below.alloc ?_ (by first | exact Nat.le_refl _ | omega | (simp; done) | (simp; omega)) _ | with_reducible refine Below.setCell ?_ (by first | exact Nat.le_refl _ | omega | (simp; done) | (simp; omega)) _ | (with_reducible refine ext_trans ?_ (by with_reducible assumption))))
      have lRa_2 : w.heap.size < w2.heap.size := by omega
      have Ra_2 := Lib.hid ra_2
      have r0_ra_2 := cell_of_row _ _ 0 _ _ _ ra_2
      have r1_ra_2 := cell_of_row _ _ 1 _ _ _ ra_2
      have r2_ra_2 := cell_of_row _ _ 2 _ _ _ ra_2
      have f0_ra_2 := frozen_of_row _ _ 0 _ _ ra_2
      have f1_ra_2 := frozen_of_row _ _ 1 _ _ ra_2
      have f2_ra_2 := frozen_of_row _ _ 2 _ _ ra_2
      simp at r0_ra_2 r1_ra_2 r2_ra_2
      clear ra_2
      clear r0_ra_1 f0_ra_1 r1_ra_1 f1_ra_1 r2_ra_1 f2_ra_1
      go_wp2_with fail
      exact bodyPost_ret (v := .tuple #[.string ⟨#[]⟩, .bool false]) (by simp [results, Try.results39, go_sem]) rfl ⟨by rw [HV.out], hw2⟩
    case true =>
      cases hpb : packB q ip 64 6 0 body
      case false =>
        have HV : Hid (outR ⟨m, q, l⟩ ip body = (⟨#[]⟩, false)) := (by rw [HO.out, hpb]; rfl : outR ⟨m, q, l⟩ ip body = _)
        clear HO hF Y4
        rw [pack_no hpb] at hP
        subst hP
        clear hpb
        go_enter Try.func39, Try.ntmps39
        go_wp2_with fail
        refine (Y1.out _ (H.out.below (by repeat (first | with_reducible exact Below.refl _ _ | with_reducible assumption | with_reducible refine Below.drew ?_ | with_reducible refine Below.alloc ?_ (by first | exact Nat.le_refl _ | omega | (simp; done) | (simp; omega)) _ | with_reducible refine Below.setCell ?_ (by first | exact Nat.le_refl _ | omega | (simp; done) | (simp; omega)) _ | (with_reducible refine ext_trans ?_ (by with_reducible assumption)))))).mono ?_
        rintro e w1 ⟨rfl, hb1⟩
        have hz1 := hb1.size
        (try simp at hz1)
        have ra_1 : w1.heap[w.heap.size]? = some (.cells #[.int .i64 m, .int .i64 q, .slice A l.length c] 37 (0, 0)) := (hb1.block _ (by first | (simp; done) | (simp; omega))).trans (by repeat (first | exact heap_new _ _ _ (by first | rfl | (simp; done) | (simp; omega)) | refine (Below.heap_alloc _ _ _ (by first | omega | (simp; done) | (simp; omega))).trans ?_))
        have hw1 : Below w.heap.size w w1 := (by repeat (first | with_reducible exact Below.refl _ _ | with_reducible assumption | with_reducible refine Below.drew ?_ | with_reducible refine Below.alloc ?_ (by first | exact Nat.le_refl _ | omega | (simp; done) | (simp; omega)) _ | with_reducible refine Below.setCell ?_ (by first | exact Nat.le_refl _ | omega | (simp; done) | (simp; omega)) _ | (with_reducible refine ext_trans ?_ (by with_reducible assumption))))
        have lRa_1 : w.heap.size < w1.heap.size := by omega
        have Ra_1 := Lib.hid ra_1
        have r0_ra_1 := cell_of_row _ _ 0 _ _ _ ra_1
        have r1_ra_1 := cell_of_row _ _ 1 _ _ _ ra_1
        have r2_ra_1 := cell_of_row _ _ 2 _ _ _ ra_1
        have f0_ra_1 := frozen_of_row _ _ 0 _ _ ra_1
        have f1_ra_1 := frozen_of_row _ _ 1 _ _ ra_1
        have f2_ra_1 := frozen_of_row _ _ 2 _ _ ra_1
        simp at r0_ra_1 r1_ra_1 r2_ra_1
        clear ra_1
        go_wp2_with fail
        refine (Y2.out _ (H.out.below (by repeat (first | with_reducible exact Below.refl _ _ | with_reducible assumption | with_reducible refine Below.drew ?_ | with_reducible refine Below.alloc ?_ (by first | exact Nat.le_refl _ | omega | (simp; done) | (simp; omega)) _ | with_reducible refine Below.setCell ?_ (by first | exact Nat.le_refl _ | omega | (simp; done) | (simp; omega)) _ | (with_reducible refine ext_trans ?_ (by with_reducible assumption)))))).mono ?_
        rintro e w2 ⟨rfl, hb2⟩
        have hz2 := hb2.size
        (try simp at hz2)
        have ra_2 := (hb2.block _ (by first | omega | (simp; done) | (simp; omega))).trans Ra_1.out
        have hw2 : Below w.heap.size w w2 := (by repeat (first | with_reducible exact Below.refl _ _ | with_reducible assumption | with_reducible refine Below.drew ?_ | with_reducible refine Below.alloc ?_ (by first | exact Nat.le_refl _ | omega | (simp; done) | (simp; omega)) _ | with_reducible refine Below.setCell ?_ (by first | exact Nat.le_refl _ | omega | (simp; done) | (simp; omega)) _ | (with_reducible refine ext_trans ?_ (by with_reducible assumption))))
        have lRa_2 : w.heap.size < w2.heap.size := by omega
        have Ra_2 := Lib.hid ra_2
        have r0_ra_2 := cell_of_row _ _ 0 _ _ _ ra_2
        have r1_ra_2 := cell_of_row _ _ 1 _ _ _ ra_2
        have r2_ra_2 := cell_of_row _ _ 2 _ _ _ ra_2
        have f0_ra_2 := frozen_of_row _ _ 0 _ _ ra_2
        have f1_ra_2 := frozen_of_row _ _ 1 _ _ ra_2
        have f2_ra_2 := frozen_of_row _ _ 2 _ _ ra_2
        simp at r0_ra_2 r1_ra_2 r2_ra_2
        clear ra_2
        clear r0_ra_1 f0_ra_1 r1_ra_1 f1_ra_1 r2_ra_1 f2_ra_1
        go_wp2_with fail
        refine (Y3.out _).mono ?_
        rintro e w3 ⟨rfl, hb3⟩
        have hz3 := hb3.size
        (try simp at hz3)
        have ra_3 := (hb3.block _ (by first | omega | (simp; done) | (simp; omega))).trans Ra_2.out
        have hw3 : Below w.heap.size w w3 := (by repeat (first | with_reducible exact Below.refl _ _ | with_reducible assumption | with_reducible refine Below.drew ?_ | with_reducible refine Below.alloc ?_ (by first | exact Nat.le_refl _ | omega | (simp; done) | (simp; omega)) _ | with_reducible refine Below.setCell ?_ (by first | exact Nat.le_refl _ | omega | (simp; done) | (simp; omega)) _ | (with_reducible refine ext_trans ?_ (by with_reducible assumption))))
        have lRa_3 : w.heap.size < w3.heap.size := by omega
        have Ra_3 := Lib.hid ra_3
        have r0_ra_3 := cell_of_row _ _ 0 _ _ _ ra_3
        have r1_ra_3 := cell_of_row _ _ 1 _ _ _ ra_3
        have r2_ra_3 := cell_of_row _ _ 2 _ _ _ ra_3
        have f0_ra_3 := frozen_of_row _ _ 0 _ _ ra_3
        have f1_ra_3 := frozen_of_row _ _ 1 _ _ ra_3
        have f2_ra_3 := frozen_of_row _ _ 2 _ _ ra_3
        simp at r0_ra_3 r1_ra_3 r2_ra_3
        clear ra_3
        clear r0_ra_2 f0_ra_2 r1_ra_2 f1_ra_2 r2_ra_2 f2_ra_2
        go_wp2_with fail
        exact bodyPost_ret (v := .tuple #[.string ⟨#[]⟩, .bool false]) (by simp [results, Try.results39, go_sem]) rfl ⟨by rw [HV.out], hw3⟩
      case true =>
        obtain ⟨n1, n2, n3⟩ := ne_forms (pack_ne hpb)
        rw [hP] at n1 n2 n3
        cases hfb : frameB r1 m 2048 P
        case false =>
          have HV : Hid (outR ⟨m, q, l⟩ ip body = (⟨#[]⟩, false)) := (by rw [HO.out, hpb, hfb]; rfl : outR ⟨m, q, l⟩ ip body = _)
          clear HO hP
          rw [frame_no hfb] at hF
          subst hF
          clear hfb hpb
          go_enter Try.func39, Try.ntmps39
          go_wp2_with fail
          refine (Y1.out _ (H.out.below (by repeat (first | with_reducible exact Below.refl _ _ | with_reducible assumption | with_reducible refine Below.drew ?_ | with_reducible refine Below.alloc ?_ (by first | exact Nat.le_refl _ | omega | (simp; done) | (simp; omega)) _ | with_reducible refine Below.setCell ?_ (by first | exact Nat.le_refl _ | omega | (simp; done) | (simp; omega)) _ | (with_reducible refine ext_trans ?_ (by with_reducible assumption)))))).mono ?_
          rintro e w1 ⟨rfl, hb1⟩
          have hz1 := hb1.size
          (try simp at hz1)
          have ra_1 : w1.heap[w.heap.size]? = some (.cells #[.int .i64 m, .int .i64 q, .slice A l.length c] 37 (0, 0)) := (hb1.block _ (by first | (simp; done) | (simp; omega))).trans (by repeat (first | exact heap_new _ _ _ (by first | rfl | (simp; done) | (simp; omega)) | refine (Below.heap_alloc _ _ _ (by first | omega | (simp; done) | (simp; omega))).trans ?_))
          have hw1 : Below w.heap.size w w1 := (by repeat (first | with_reducible exact Below.refl _ _ | with_reducible assumption | with_reducible refine Below.drew ?_ | with_reducible refine Below.alloc ?_ (by first | exact Nat.le_refl _ | omega | (simp; done) | (simp; omega)) _ | with_reducible refine Below.setCell ?_ (by first | exact Nat.le_refl _ | omega | (simp; done) | (simp; omega)) _ | (with_reducible refine ext_trans ?_ (by with_reducible assumption))))
          have lRa_1 : w.heap.size < w1.heap.size := by omega
          have Ra_1 := Lib.hid ra_1
          have r0_ra_1 := cell_of_row _ _ 0 _ _ _ ra_1
          have r1_ra_1 := cell_of_row _ _ 1 _ _ _ ra_1
          have r2_ra_1 := cell_of_row _ _ 2 _ _ _ ra_1
          have f0_ra_1 := frozen_of_row _ _ 0 _ _ ra_1
          have f1_ra_1 := frozen_of_row _ _ 1 _ _ ra_1
          have f2_ra_1 := frozen_of_row _ _ 2 _ _ ra_1
          simp at r0_ra_1 r1_ra_1 r2_ra_1
          clear ra_1
          go_wp2_with fail
          refine (Y2.out _ (H.out.below (by repeat (first | with_reducible exact Below.refl _ _ | with_reducible assumption | with_reducible refine Below.drew ?_ | with_reducible refine Below.alloc ?_ (by first | exact Nat.le_refl _ | omega | (simp; done) | (simp; omega)) _ | with_reducible refine Below.setCell ?_ (by first | exact Nat.le_refl _ | omega | (simp; done) | (simp; omega)) _ | (with_reducible refine ext_trans ?_ (by with_reducible assumption)))))).mono ?_
          rintro e w2 ⟨rfl, hb2⟩
          have hz2 := hb2.size
          (try simp at hz2)
          have ra_2 := (hb2.block _ (by first | omega | (simp; done) | (simp; omega))).trans Ra_1.out
          have hw2 : Below w.heap.size w w2 := (by repeat (first | with_reducible exact Below.refl _ _ | with_reducible assumption | with_reducible refine Below.drew ?_ | with_reducible refine Below.alloc ?_ (by first | exact Nat.le_refl _ | omega | (simp; done) | (simp; omega)) _ | with_reducible refine Below.setCell ?_ (by first | exact Nat.le_refl _ | omega | (simp; done) | (simp; omega)) _ | (with_reducible refine ext_trans ?_ (by with_reducible assumption))))
          have lRa_2 : w.heap.size < w2.heap.size := by omega
          have Ra_2 := Lib.hid ra_2
          have r0_ra_2 := cell_of_row _ _ 0 _ _ _ ra_2
          have r1_ra_2 := cell_of_row _ _ 1 _ _ _ ra_2
          have r2_ra_2 := cell_of_row _ _ 2 _ _ _ ra_2
          have f0_ra_2 := frozen_of_row _ _ 0 _ _ ra_2
          have f1_ra_2 := frozen_of_row _ _ 1 _ _ ra_2
          have f2_ra_2 := frozen_of_row _ _ 2 _ _ ra_2
          simp at r0_ra_2 r1_ra_2 r2_ra_2
          clear ra_2
          clear r0_ra_1 f0_ra_1 r1_ra_1 f1_ra_1 r2_ra_1 f2_ra_1
          go_wp2_with fail
          refine (Y3.out _).mono ?_
          rintro e w3 ⟨rfl, hb3⟩
          have hz3 := hb3.size
          (try simp at hz3)
          have ra_3 := (hb3.block _ (by first | omega | (simp; done) | (simp; omega))).trans Ra_2.out
          have hw3 : Below w.heap.size w w3 := (by repeat (first | with_reducible exact Below.refl _ _ | with_reducible assumption | with_reducible refine Below.drew ?_ | with_reducible refine Below.alloc ?_ (by first | exact Nat.le_refl _ | omega | (simp; done) | (simp; omega)) _ | with_reducible refine Below.setCell ?_ (by first | exact Nat.le_refl _ | omega | (simp; done) | (simp; omega)) _ | (with_reducible refine ext_trans ?_ (by with_reducible assumption))))
          have lRa_3 : w.heap.size < w3.heap.size := by omega
          have Ra_3 := Lib.hid ra_3
          have r0_ra_3 := cell_of_row _ _ 0 _ _ _ ra_3
          have r1_ra_3 := cell_of_row _ _ 1 _ _ _ ra_3
          have r2_ra_3 := cell_of_row _ _ 2 _ _ _ ra_3
          have f0_ra_3 := frozen_of_row _ _ 0 _ _ ra_3
          have f1_ra_3 := frozen_of_row _ _ 1 _ _ ra_3
          have f2_ra_3 := frozen_of_row _ _ 2 _ _ ra_3
          simp at r0_ra_3 r1_ra_3 r2_ra_3
          clear ra_3
          clear r0_ra_2 f0_ra_2 r1_ra_2 f1_ra_2 r2_ra_2 f2_ra_2
          go_wp2_with fail
          refine (Y4.out _).mono ?_
          rintro e w4 ⟨rfl, hb4⟩
          have hz4 := hb4.size
          (try simp at hz4)
          have ra_4 := (hb4.block _ (by first | omega | (simp; done) | (simp; omega))).trans Ra_3.out
          have hw4 : Below w.heap.size w w4 := (by repeat (first | with_reducible exact Below.refl _ _ | with_reducible assumption | with_reducible refine Below.drew ?_ | with_reducible refine Below.alloc ?_ (by first | exact Nat.le_refl _ | omega | (simp; done) | (simp; omega)) _ | with_reducible refine Below.setCell ?_ (by first | exact Nat.le_refl _ | omega | (simp; done) | (simp; omega)) _ | (with_reducible refine ext_trans ?_ (by with_reducible assumption))))
          have lRa_4 : w.heap.size < w4.heap.size := by omega
          have Ra_4 := Lib.hid ra_4
          have r0_ra_4 := cell_of_row _ _ 0 _ _ _ ra_4
          have r1_ra_4 := cell_of_row _ _ 1 _ _ _ ra_4
          have r2_ra_4 := cell_of_row _ _ 2 _ _ _ ra_4
          have f0_ra_4 := frozen_of_row _ _ 0 _ _ ra_4
          have f1_ra_4 := frozen_of_row _ _ 1 _ _ ra_4
          have f2_ra_4 := frozen_of_row _ _ 2 _ _ ra_4
          simp at r0_ra_4 r1_ra_4 r2_ra_4
          clear ra_4
          clear r0_ra_3 f0_ra_3 r1_ra_3 f1_ra_3 r2_ra_3 f2_ra_3
          go_wp2_with fail
          exact bodyPost_ret (v := .tuple #[.string ⟨#[]⟩, .bool false]) (by simp [results, Try.results39, go_sem]) rfl ⟨by rw [HV.out], hw4⟩
        case true =>
          have HV : Hid (outR ⟨m, q, l⟩ ip body = (F, true)) := (by rw [HO.out, hpb, hfb]; rfl : outR ⟨m, q, l⟩ ip body = _)
          obtain ⟨o1, o2, o3⟩ := ne_forms (frame_ne hfb)
          rw [hF] at o1 o2 o3
          clear HO hP hF hfb hpb
          go_enter Try.func39, Try.ntmps39
          go_wp2_with fail
          refine (Y1.out _ (H.out.below (by repeat (first | with_reducible exact Below.refl _ _ | with_reducible assumption | with_reducible refine Below.drew ?_ | with_reducible refine Below.alloc ?_ (by first | exact Nat.le_refl _ | omega | (simp; done) | (simp; omega)) _ | with_reducible refine Below.setCell ?_ (by first | exact Nat.le_refl _ | omega | (simp; done) | (simp; omega)) _ | (with_reducible refine ext_trans ?_ (by with_reducible assumption)))))).mono ?_
          rintro e w1 ⟨rfl, hb1⟩
          have hz1 := hb1.size
          (try simp at hz1)
          have ra_1 : w1.heap[w.heap.size]? = some (.cells #[.int .i64 m, .int .i64 q, .slice A l.length c] 37 (0, 0)) := (hb1.block _ (by first | (simp; done) | (simp; omega))).trans (by repeat (first | exact heap_new _ _ _ (by first | rfl | (simp; done) | (simp; omega)) | refine (Below.heap_alloc _ _ _ (by first | omega | (simp; done) | (simp; omega))).trans ?_))
          have hw1 : Below w.heap.size w w1 := (by repeat (first | with_reducible exact Below.refl _ _ | with_reducible assumption | with_reducible refine Below.drew ?_ | with_reducible refine Below.alloc ?_ (by first | exact Nat.le_refl _ | omega | (simp; done) | (simp; omega)) _ | with_reducible refine Below.setCell ?_ (by first | exact Nat.le_refl _ | omega | (simp; done) | (simp; omega)) _ | (with_reducible refine ext_trans ?_ (by with_reducible assumption))))
          have lRa_1 : w.heap.size < w1.heap.size := by omega
          have Ra_1 := Lib.hid ra_1
          have r0_ra_1 := cell_of_row _ _ 0 _ _ _ ra_1
          have r1_ra_1 := cell_of_row _ _ 1 _ _ _ ra_1
          have r2_ra_1 := cell_of_row _ _ 2 _ _ _ ra_1
          have f0_ra_1 := frozen_of_row _ _ 0 _ _ ra_1
          have f1_ra_1 := frozen_of_row _ _ 1 _ _ ra_1
          have f2_ra_1 := frozen_of_row _ _ 2 _ _ ra_1
          simp at r0_ra_1 r1_ra_1 r2_ra_1
          clear ra_1
          go_wp2_with fail
          refine (Y2.out _ (H.out.below (by repeat (first | with_reducible exact Below.refl _ _ | with_reducible assumption | with_reducible refine Below.drew ?_ | with_reducible refine Below.alloc ?_ (by first | exact Nat.le_refl _ | omega | (simp; done) | (simp; omega)) _ | with_reducible refine Below.setCell ?_ (by first | exact Nat.le_refl _ | omega | (simp; done) | (simp; omega)) _ | (with_reducible refine ext_trans ?_ (by with_reducible assumption)))))).mono ?_
          rintro e w2 ⟨rfl, hb2⟩
          have hz2 := hb2.size
          (try simp at hz2)
          have ra_2 := (hb2.block _ (by first | omega | (simp; done) | (simp; omega))).trans Ra_1.out
          have hw2 : Below w.heap.size w w2 := (by repeat (first | with_reducible exact Below.refl _ _ | with_reducible assumption | with_reducible refine Below.drew ?_ | with_reducible refine Below.alloc ?_ (by first | exact Nat.le_refl _ | omega | (simp; done) | (simp; omega)) _ | with_reducible refine Below.setCell ?_ (by first | exact Nat.le_refl _ | omega | (simp; done) | (simp; omega)) _ | (with_reducible refine ext_trans ?_ (by with_reducible assumption))))
          have lRa_2 : w.heap.size < w2.heap.size := by omega
          have Ra_2 := Lib.hid ra_2
          have r0_ra_2 := cell_of_row _ _ 0 _ _ _ ra_2
          have r1_ra_2 := cell_of_row _ _ 1 _ _ _ ra_2
          have r2_ra_2 := cell_of_row _ _ 2 _ _ _ ra_2
          have f0_ra_2 := frozen_of_row _ _ 0 _ _ ra_2
          have f1_ra_2 := frozen_of_row _ _ 1 _ _ ra_2
          have f2_ra_2 := frozen_of_row _ _ 2 _ _ ra_2
          simp at r0_ra_2 r1_ra_2 r2_ra_2
          clear ra_2
          clear r0_ra_1 f0_ra_1 r1_ra_1 f1_ra_1 r2_ra_1 f2_ra_1
          go_wp2_with fail
          refine (Y3.out _).mono ?_
          rintro e w3 ⟨rfl, hb3⟩
          have hz3 := hb3.size
          (try simp at hz3)
          have ra_3 := (hb3.block _ (by first | omega | (simp; done) | (simp; omega))).trans Ra_2.out
          have hw3 : Below w.heap.size w w3 := (by repeat (first | with_reducible exact Below.refl _ _ | with_reducible assumption | with_reducible refine Below.drew ?_ | with_reducible refine Below.alloc ?_ (by first | exact Nat.le_refl _ | omega | (simp; done) | (simp; omega)) _ | with_reducible refine Below.setCell ?_ (by first | exact Nat.le_refl _ | omega | (simp; done) | (simp; omega)) _ | (with_reducible refine ext_trans ?_ (by with_reducible assumption))))
          have lRa_3 : w.heap.size < w3.heap.size := by omega
          have Ra_3 := Lib.hid ra_3
          have r0_ra_3 := cell_of_row _ _ 0 _ _ _ ra_3
          have r1_ra_3 := cell_of_row _ _ 1 _ _ _ ra_3
          have r2_ra_3 := cell_of_row _ _ 2 _ _ _ ra_3
          have f0_ra_3 := frozen_of_row _ _ 0 _ _ ra_3
          have f1_ra_3 := frozen_of_row _ _ 1 _ _ ra_3
          have f2_ra_3 := frozen_of_row _ _ 2 _ _ ra_3
          simp at r0_ra_3 r1_ra_3 r2_ra_3
          clear ra_3
          clear r0_ra_2 f0_ra_2 r1_ra_2 f1_ra_2 r2_ra_2 f2_ra_2
          go_wp2_with fail
          refine (Y4.out _).mono ?_
          rintro e w4 ⟨rfl, hb4⟩
          have hz4 := hb4.size
          (try simp at hz4)
          have ra_4 := (hb4.block _ (by first | omega | (simp; done) | (simp; omega))).trans Ra_3.out
          have hw4 : Below w.heap.size w w4 := (by repeat (first | with_reducible exact Below.refl _ _ | with_reducible assumption | with_reducible refine Below.drew ?_ | with_reducible refine Below.alloc ?_ (by first | exact Nat.le_refl _ | omega | (simp; done) | (simp; omega)) _ | with_reducible refine Below.setCell ?_ (by first | exact Nat.le_refl _ | omega | (simp; done) | (simp; omega)) _ | (with_reducible refine ext_trans ?_ (by with_reducible assumption))))
          have lRa_4 : w.heap.size < w4.heap.size := by omega
          have Ra_4 := Lib.hid ra_4
          have r0_ra_4 := cell_of_row _ _ 0 _ _ _ ra_4
          have r1_ra_4 := cell_of_row _ _ 1 _ _ _ ra_4
          have r2_ra_4 := cell_of_row _ _ 2 _ _ _ ra_4
          have f0_ra_4 := frozen_of_row _ _ 0 _ _ ra_4
          have f1_ra_4 := frozen_of_row _ _ 1 _ _ ra_4
          have f2_ra_4 := frozen_of_row _ _ 2 _ _ ra_4
          simp at r0_ra_4 r1_ra_4 r2_ra_4
          clear ra_4
          clear r0_ra_3 f0_ra_3 r1_ra_3 f1_ra_3 r2_ra_3 f2_ra_3
          go_wp2_with fail
          exact bodyPost_ret (v := .tuple #[.string F, .bool true]) (by simp [results, Try.results39, go_sem]) rfl ⟨by rw [HV.out], hw4⟩
end Go.Proofs.Yteaniiponikpjaa
