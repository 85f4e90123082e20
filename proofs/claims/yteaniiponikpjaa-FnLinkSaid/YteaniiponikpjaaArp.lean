/-
  Contracts of ArpOk, ArpText, ReadArp, ArpReply, the program's and the reference's.
-/
import Derived.Test.YteaniiponikpjaaRdf
namespace Go.Proofs.Yteaniiponikpjaa
set_option maxRecDepth 100000
open Go.ChangeShapes Go.WideShapes Go.ChangeAt Go.RowKit Go.Deep

def arpB (kd sh si dh di : Int) : Bool := inB kd 1 2 && (wordB sh 48 && (wordB dh 48 && (wordB si 32 && wordB di 32)))
def arpH : ByteArray := ⟨#[0, 1, 8, 0, 6, 4]⟩
def arpS (kd sh si dh di : Int) : ByteArray := if arpB kd sh si dh di = true then (((((⟨#[0, 1, 8, 0, 6, 4]⟩ : ByteArray) ++ beS 2 kd) ++ beS 6 sh) ++ beS 4 si) ++ beS 6 dh) ++ beS 4 di else ⟨#[]⟩
theorem arp_no {kd sh si dh di : Int} (h : arpB kd sh si dh di = false) : arpS kd sh si dh di = ⟨#[]⟩ := by
  unfold arpS
  rw [h]
  rfl
theorem ext_pre (s : ByteArray) (n : Nat) : (s.extract 0 n).data.toList = s.data.toList.take n := by
  rw [ByteArray.data_extract, Array.toList_extract]
  simp [List.extract]
theorem arp_of {s : ByteArray} (h : 28 ≤ s.size) (hf : arpB (getW s 6 2) (getW s 8 6) (getW s 14 4) (getW s 18 6) (getW s 24 4) = true) :
    arpS (getW s 6 2) (getW s 8 6) (getW s 14 4) (getW s 18 6) (getW s 24 4) = s.extract 0 28 ↔ s.extract 0 6 = ⟨#[0, 1, 8, 0, 6, 4]⟩ := by
  unfold arpS
  rw [if_pos hf]
  have e : ((((((⟨#[0, 1, 8, 0, 6, 4]⟩ : ByteArray) ++ beS 2 (getW s 6 2)) ++ beS 6 (getW s 8 6)) ++ beS 4 (getW s 14 4)) ++ beS 6 (getW s 18 6)) ++ beS 4 (getW s 24 4)).data.toList = [0, 1, 8, 0, 6, 4] ++ (s.data.toList.drop 6).take 22 := by
    simp only [ByteArray.data_append, Array.toList_append, beS_getW (show 6 + 2 ≤ s.size by omega), beS_getW (show 8 + 6 ≤ s.size by omega), beS_getW (show 14 + 4 ≤ s.size by omega), beS_getW (show 18 + 6 ≤ s.size by omega), beS_getW (show 24 + 4 ≤ s.size by omega)]
    generalize s.data.toList = L
    have e1 : (L.drop 6).take 22 = (L.drop 6).take 2 ++ ((L.drop 8).take 6 ++ ((L.drop 14).take 4 ++ ((L.drop 18).take 6 ++ (L.drop 24).take 4))) := by
      rw [show (22 : Nat) = 2 + 20 from rfl, List.take_add, List.drop_drop, show (20 : Nat) = 6 + 14 from rfl, List.take_add, List.drop_drop, show (14 : Nat) = 4 + 10 from rfl, List.take_add, List.drop_drop, show (10 : Nat) = 6 + 4 from rfl, List.take_add, List.drop_drop]
    rw [e1]
    simp only [List.append_assoc]
  have e2 : (s.extract 0 28).data.toList = s.data.toList.take 6 ++ (s.data.toList.drop 6).take 22 := by
    rw [ext_pre, show (28 : Nat) = 6 + 22 from rfl, List.take_add]
  constructor
  · intro h
    have h2 := congrArg (fun b => b.data.toList) h
    (try dsimp only at h2)
    rw [e, e2] at h2
    apply ba_ext
    rw [ext_pre]
    have h6 : (s.data.toList.take 6).length = 6 := by
      rw [List.length_take, Array.length_toList]
      exact Nat.min_eq_left (by have : s.size = s.data.size := rfl; omega)
    exact (List.append_inj_left h2 (by rw [h6]; rfl)).symm
  · intro h
    apply ba_ext
    rw [e, e2]
    have h2 := congrArg (fun b => b.data.toList) h
    (try dsimp only at h2)
    rw [ext_pre] at h2
    rw [h2]
def okAr (s : ByteArray) : Bool := decide (28 ≤ s.size) && (decide (s.extract 0 6 = ⟨#[0, 1, 8, 0, 6, 4]⟩) && arpB (getW s 6 2) (getW s 8 6) (getW s 14 4) (getW s 18 6) (getW s 24 4))
def arR (s : ByteArray) : Value := if okAr s = true then .agg #[.int .i64 (getW s 6 2), .int .i64 (getW s 8 6), .int .i64 (getW s 14 4), .int .i64 (getW s 18 6), .int .i64 (getW s 24 4)] else .agg #[.int .i64 0, .int .i64 0, .int .i64 0, .int .i64 0, .int .i64 0]
def ArOut (s : ByteArray) (w : World) (e : Ending) (w' : World) : Prop := e = .returned (.tuple #[arR s, .bool (okAr s)]) ∧ Below w.heap.size w w'

set_option linter.unusedSimpArgs false in
theorem ArpOk_any (kd sh si dh di : Int) (w : World) :
    Calls Try.prog 98 #[.agg #[.int .i64 kd, .int .i64 sh, .int .i64 si, .int .i64 dh, .int .i64 di]] w fun e w' => e = .returned (.bool (arpB kd sh si dh di)) ∧ Below w.heap.size w w' := by
  cases h0 : inB kd 1 2
  case false =>
    go_enter Try.func98, Try.ntmps98
    go_wp2_with (first | (go_at_call 53; refine (WordOk_any _ _ _).mono ?_; rintro e w1 ⟨rfl, rfl⟩) | (go_at_call 54; refine (within_any _ _ _ _).mono ?_; rintro e w1 ⟨rfl, rfl⟩))
    go_ret
    exact ⟨by simp [arpB, h0], (by repeat (first | with_reducible exact Below.refl _ _ | with_reducible assumption | with_reducible refine Below.drew ?_ | with_reducible refine Below.alloc ?_ (by first | exact Nat.le_refl _ | omega | (simp; done) | (simp; omega)) _ | with_reducible refine Below.setCell ?_ (by first | exact Nat.le_refl _ | omega | (simp; done) | (simp; omega)) _ | (with_reducible refine ext_trans ?_ (by with_reducible assumption))))⟩
  case true =>
    cases h1 : wordB sh 48
    case false =>
      go_enter Try.func98, Try.ntmps98
      go_wp2_with (first | (go_at_call 53; refine (WordOk_any _ _ _).mono ?_; rintro e w1 ⟨rfl, rfl⟩) | (go_at_call 54; refine (within_any _ _ _ _).mono ?_; rintro e w1 ⟨rfl, rfl⟩))
      go_ret
      exact ⟨by simp [arpB, h0, h1], (by repeat (first | with_reducible exact Below.refl _ _ | with_reducible assumption | with_reducible refine Below.drew ?_ | with_reducible refine Below.alloc ?_ (by first | exact Nat.le_refl _ | omega | (simp; done) | (simp; omega)) _ | with_reducible refine Below.setCell ?_ (by first | exact Nat.le_refl _ | omega | (simp; done) | (simp; omega)) _ | (with_reducible refine ext_trans ?_ (by with_reducible assumption))))⟩
    case true =>
      cases h2 : wordB dh 48
      case false =>
        go_enter Try.func98, Try.ntmps98
        go_wp2_with (first | (go_at_call 53; refine (WordOk_any _ _ _).mono ?_; rintro e w1 ⟨rfl, rfl⟩) | (go_at_call 54; refine (within_any _ _ _ _).mono ?_; rintro e w1 ⟨rfl, rfl⟩))
        go_ret
        exact ⟨by simp [arpB, h0, h1, h2], (by repeat (first | with_reducible exact Below.refl _ _ | with_reducible assumption | with_reducible refine Below.drew ?_ | with_reducible refine Below.alloc ?_ (by first | exact Nat.le_refl _ | omega | (simp; done) | (simp; omega)) _ | with_reducible refine Below.setCell ?_ (by first | exact Nat.le_refl _ | omega | (simp; done) | (simp; omega)) _ | (with_reducible refine ext_trans ?_ (by with_reducible assumption))))⟩
      case true =>
        cases h3 : wordB si 32
        case false =>
          go_enter Try.func98, Try.ntmps98
          go_wp2_with (first | (go_at_call 53; refine (WordOk_any _ _ _).mono ?_; rintro e w1 ⟨rfl, rfl⟩) | (go_at_call 54; refine (within_any _ _ _ _).mono ?_; rintro e w1 ⟨rfl, rfl⟩))
          go_ret
          exact ⟨by simp [arpB, h0, h1, h2, h3], (by repeat (first | with_reducible exact Below.refl _ _ | with_reducible assumption | with_reducible refine Below.drew ?_ | with_reducible refine Below.alloc ?_ (by first | exact Nat.le_refl _ | omega | (simp; done) | (simp; omega)) _ | with_reducible refine Below.setCell ?_ (by first | exact Nat.le_refl _ | omega | (simp; done) | (simp; omega)) _ | (with_reducible refine ext_trans ?_ (by with_reducible assumption))))⟩
        case true =>
          cases h4 : wordB di 32
          case false =>
            go_enter Try.func98, Try.ntmps98
            go_wp2_with (first | (go_at_call 53; refine (WordOk_any _ _ _).mono ?_; rintro e w1 ⟨rfl, rfl⟩) | (go_at_call 54; refine (within_any _ _ _ _).mono ?_; rintro e w1 ⟨rfl, rfl⟩))
            go_ret
            exact ⟨by simp [arpB, h0, h1, h2, h3, h4], (by repeat (first | with_reducible exact Below.refl _ _ | with_reducible assumption | with_reducible refine Below.drew ?_ | with_reducible refine Below.alloc ?_ (by first | exact Nat.le_refl _ | omega | (simp; done) | (simp; omega)) _ | with_reducible refine Below.setCell ?_ (by first | exact Nat.le_refl _ | omega | (simp; done) | (simp; omega)) _ | (with_reducible refine ext_trans ?_ (by with_reducible assumption))))⟩
          case true =>
            go_enter Try.func98, Try.ntmps98
            go_wp2_with (first | (go_at_call 53; refine (WordOk_any _ _ _).mono ?_; rintro e w1 ⟨rfl, rfl⟩) | (go_at_call 54; refine (within_any _ _ _ _).mono ?_; rintro e w1 ⟨rfl, rfl⟩))
            go_ret
            exact ⟨by simp [arpB, h0, h1, h2, h3, h4], (by repeat (first | with_reducible exact Below.refl _ _ | with_reducible assumption | with_reducible refine Below.drew ?_ | with_reducible refine Below.alloc ?_ (by first | exact Nat.le_refl _ | omega | (simp; done) | (simp; omega)) _ | with_reducible refine Below.setCell ?_ (by first | exact Nat.le_refl _ | omega | (simp; done) | (simp; omega)) _ | (with_reducible refine ext_trans ?_ (by with_reducible assumption))))⟩
set_option linter.unusedSimpArgs false in
theorem sArpOk_any (kd sh si dh di : Int) (w : World) :
    Calls Try.prog 114 #[.agg #[.int .i64 kd, .int .i64 sh, .int .i64 si, .int .i64 dh, .int .i64 di]] w fun e w' => e = .returned (.bool (arpB kd sh si dh di)) ∧ Below w.heap.size w w' := by
  cases h0 : inB kd 1 2
  case false =>
    go_enter Try.func114, Try.ntmps114
    go_wp2_with (first | (go_at_call 38; refine (sWordOk_any _ _ _).mono ?_; rintro e w1 ⟨rfl, rfl⟩) | (go_at_call 52; refine (l1In_any _ _ _ _).mono ?_; rintro e w1 ⟨rfl, rfl⟩))
    go_ret
    exact ⟨by simp [arpB, h0], (by repeat (first | with_reducible exact Below.refl _ _ | with_reducible assumption | with_reducible refine Below.drew ?_ | with_reducible refine Below.alloc ?_ (by first | exact Nat.le_refl _ | omega | (simp; done) | (simp; omega)) _ | with_reducible refine Below.setCell ?_ (by first | exact Nat.le_refl _ | omega | (simp; done) | (simp; omega)) _ | (with_reducible refine ext_trans ?_ (by with_reducible assumption))))⟩
  case true =>
    cases h1 : wordB sh 48
    case false =>
      go_enter Try.func114, Try.ntmps114
      go_wp2_with (first | (go_at_call 38; refine (sWordOk_any _ _ _).mono ?_; rintro e w1 ⟨rfl, rfl⟩) | (go_at_call 52; refine (l1In_any _ _ _ _).mono ?_; rintro e w1 ⟨rfl, rfl⟩))
      go_ret
      exact ⟨by simp [arpB, h0, h1], (by repeat (first | with_reducible exact Below.refl _ _ | with_reducible assumption | with_reducible refine Below.drew ?_ | with_reducible refine Below.alloc ?_ (by first | exact Nat.le_refl _ | omega | (simp; done) | (simp; omega)) _ | with_reducible refine Below.setCell ?_ (by first | exact Nat.le_refl _ | omega | (simp; done) | (simp; omega)) _ | (with_reducible refine ext_trans ?_ (by with_reducible assumption))))⟩
    case true =>
      cases h2 : wordB dh 48
      case false =>
        go_enter Try.func114, Try.ntmps114
        go_wp2_with (first | (go_at_call 38; refine (sWordOk_any _ _ _).mono ?_; rintro e w1 ⟨rfl, rfl⟩) | (go_at_call 52; refine (l1In_any _ _ _ _).mono ?_; rintro e w1 ⟨rfl, rfl⟩))
        go_ret
        exact ⟨by simp [arpB, h0, h1, h2], (by repeat (first | with_reducible exact Below.refl _ _ | with_reducible assumption | with_reducible refine Below.drew ?_ | with_reducible refine Below.alloc ?_ (by first | exact Nat.le_refl _ | omega | (simp; done) | (simp; omega)) _ | with_reducible refine Below.setCell ?_ (by first | exact Nat.le_refl _ | omega | (simp; done) | (simp; omega)) _ | (with_reducible refine ext_trans ?_ (by with_reducible assumption))))⟩
      case true =>
        cases h3 : wordB si 32
        case false =>
          go_enter Try.func114, Try.ntmps114
          go_wp2_with (first | (go_at_call 38; refine (sWordOk_any _ _ _).mono ?_; rintro e w1 ⟨rfl, rfl⟩) | (go_at_call 52; refine (l1In_any _ _ _ _).mono ?_; rintro e w1 ⟨rfl, rfl⟩))
          go_ret
          exact ⟨by simp [arpB, h0, h1, h2, h3], (by repeat (first | with_reducible exact Below.refl _ _ | with_reducible assumption | with_reducible refine Below.drew ?_ | with_reducible refine Below.alloc ?_ (by first | exact Nat.le_refl _ | omega | (simp; done) | (simp; omega)) _ | with_reducible refine Below.setCell ?_ (by first | exact Nat.le_refl _ | omega | (simp; done) | (simp; omega)) _ | (with_reducible refine ext_trans ?_ (by with_reducible assumption))))⟩
        case true =>
          cases h4 : wordB di 32
          case false =>
            go_enter Try.func114, Try.ntmps114
            go_wp2_with (first | (go_at_call 38; refine (sWordOk_any _ _ _).mono ?_; rintro e w1 ⟨rfl, rfl⟩) | (go_at_call 52; refine (l1In_any _ _ _ _).mono ?_; rintro e w1 ⟨rfl, rfl⟩))
            go_ret
            exact ⟨by simp [arpB, h0, h1, h2, h3, h4], (by repeat (first | with_reducible exact Below.refl _ _ | with_reducible assumption | with_reducible refine Below.drew ?_ | with_reducible refine Below.alloc ?_ (by first | exact Nat.le_refl _ | omega | (simp; done) | (simp; omega)) _ | with_reducible refine Below.setCell ?_ (by first | exact Nat.le_refl _ | omega | (simp; done) | (simp; omega)) _ | (with_reducible refine ext_trans ?_ (by with_reducible assumption))))⟩
          case true =>
            go_enter Try.func114, Try.ntmps114
            go_wp2_with (first | (go_at_call 38; refine (sWordOk_any _ _ _).mono ?_; rintro e w1 ⟨rfl, rfl⟩) | (go_at_call 52; refine (l1In_any _ _ _ _).mono ?_; rintro e w1 ⟨rfl, rfl⟩))
            go_ret
            exact ⟨by simp [arpB, h0, h1, h2, h3, h4], (by repeat (first | with_reducible exact Below.refl _ _ | with_reducible assumption | with_reducible refine Below.drew ?_ | with_reducible refine Below.alloc ?_ (by first | exact Nat.le_refl _ | omega | (simp; done) | (simp; omega)) _ | with_reducible refine Below.setCell ?_ (by first | exact Nat.le_refl _ | omega | (simp; done) | (simp; omega)) _ | (with_reducible refine ext_trans ?_ (by with_reducible assumption))))⟩
set_option maxHeartbeats 4000000 in
set_option linter.unusedVariables false in
theorem ArpText_any (kd sh si dh di : Int) (w : World) :
    Calls Try.prog 76 #[.agg #[.int .i64 kd, .int .i64 sh, .int .i64 si, .int .i64 dh, .int .i64 di]] w fun e w' => e = .returned (.string (arpS kd sh si dh di)) ∧ Below w.heap.size w w' := by
  have y0 := fun W => ArpOk_any kd sh si dh di W
  cases hk : arpB kd sh si dh di
  case false =>
    rw [hk] at y0
    have Y0 := Lib.hid y0
    have HR : Hid (arpS kd sh si dh di = ⟨#[]⟩) := arp_no hk
    clear y0 hk
    go_enter Try.func76, Try.ntmps76
    go_wp2_with fail
    refine (Y0.out _).mono ?_
    rintro e w1 ⟨rfl, hb1⟩
    go_wp2_with fail
    go_ret
    exact ⟨by rw [HR.out]; rfl, (by repeat (first | with_reducible exact Below.refl _ _ | with_reducible assumption | with_reducible refine Below.drew ?_ | with_reducible refine Below.alloc ?_ (by first | exact Nat.le_refl _ | omega | (simp; done) | (simp; omega)) _ | with_reducible refine Below.setCell ?_ (by first | exact Nat.le_refl _ | omega | (simp; done) | (simp; omega)) _ | (with_reducible refine ext_trans ?_ (by with_reducible assumption))))⟩
  case true =>
  rw [hk] at y0
  have Y0 := Lib.hid y0
  have HR : Hid (arpS kd sh si dh di = (((((⟨#[0, 1, 8, 0, 6, 4]⟩ : ByteArray) ++ beS 2 kd) ++ beS 6 sh) ++ beS 4 si) ++ beS 6 dh) ++ beS 4 di) := (by unfold arpS; rw [hk]; rfl : arpS kd sh si dh di = _)
  have hk2 := hk
  simp only [arpB, Bool.and_eq_true] at hk2
  obtain ⟨g1, g2, g3, g4, g5⟩ := hk2
  have g6 := inB_iff.1 g1
  have P1 : Hid (putB kd 2 = true) := putB_2 (by omega) (by omega)
  have P2 : Hid (putB sh 6 = true) := putB_of rfl g2
  have P3 : Hid (putB si 4 = true) := putB_of rfl g4
  have P4 : Hid (putB dh 6 = true) := putB_of rfl g3
  have P5 : Hid (putB di 4 = true) := putB_of rfl g5
  clear y0 hk g1 g2 g3 g4 g5 g6
  go_enter Try.func76, Try.ntmps76
  go_wp2_with fail
  refine (Y0.out _).mono ?_
  rintro e w1 ⟨rfl, hb1⟩
  have hz1 := hb1.size
  (try simp at hz1)
  have ra_1 : w1.heap[w.heap.size]? = some (.cells #[.int .i64 kd, .int .i64 sh, .int .i64 si, .int .i64 dh, .int .i64 di] 91 (0, 0)) := (hb1.block _ (by first | (simp; done) | (simp; omega))).trans (by repeat (first | exact heap_new _ _ _ (by first | rfl | (simp; done) | (simp; omega)) | refine (Below.heap_alloc _ _ _ (by first | omega | (simp; done) | (simp; omega))).trans ?_))
  have hw1 : Below w.heap.size w w1 := (by repeat (first | with_reducible exact Below.refl _ _ | with_reducible assumption | with_reducible refine Below.drew ?_ | with_reducible refine Below.alloc ?_ (by first | exact Nat.le_refl _ | omega | (simp; done) | (simp; omega)) _ | with_reducible refine Below.setCell ?_ (by first | exact Nat.le_refl _ | omega | (simp; done) | (simp; omega)) _ | (with_reducible refine ext_trans ?_ (by with_reducible assumption))))
  have lRa_1 : w.heap.size < w1.heap.size := by omega
  have Ra_1 := Lib.hid ra_1
  have r0_ra_1 := cell_of_row _ _ 0 _ _ _ ra_1
  have r1_ra_1 := cell_of_row _ _ 1 _ _ _ ra_1
  have r2_ra_1 := cell_of_row _ _ 2 _ _ _ ra_1
  have r3_ra_1 := cell_of_row _ _ 3 _ _ _ ra_1
  have r4_ra_1 := cell_of_row _ _ 4 _ _ _ ra_1
  have f0_ra_1 := frozen_of_row _ _ 0 _ _ ra_1
  have f1_ra_1 := frozen_of_row _ _ 1 _ _ ra_1
  have f2_ra_1 := frozen_of_row _ _ 2 _ _ ra_1
  have f3_ra_1 := frozen_of_row _ _ 3 _ _ ra_1
  have f4_ra_1 := frozen_of_row _ _ 4 _ _ ra_1
  simp at r0_ra_1 r1_ra_1 r2_ra_1 r3_ra_1 r4_ra_1
  clear ra_1
  go_wp2_with fail
  go_cut [2] (fun z wx => ∃ t, z = .string t ∧ Hid (t = arpS kd sh si dh di) ∧ Below w1.heap.size w1 wx)
  case first =>
    first | go_region_held3 (fun w' => (∀ b' o, b' < (w1).heap.size → w'.cell? ⟨b', o, none⟩ = (w1).cell? ⟨b', o, none⟩) ∧ Below (w1).heap.size (w1) w') (first | with_reducible assumption | (with_reducible apply rg_keep; rotate_left; with_reducible assumption; with_reducible assumption) | with_reducible exact rg_start _ | with_reducible exact rg_alloc (KeptS.out (by with_reducible assumption)) _ | with_reducible exact rg_alloc (by with_reducible assumption) _ | with_reducible exact rg_start_alloc _ _ | ((repeat (with_reducible refine rg_set ?_ _ (by first | exact Nat.le_refl _ | omega | (simp; done) | (simp; omega)) _)); first | with_reducible exact KeptS.out (by with_reducible assumption) | with_reducible assumption | with_reducible exact rg_alloc (KeptS.out (by with_reducible assumption)) _)) (first | (go_at_call 93; ((with_reducible refine (PutStr_2 (kd) P1.out _).mono ?_); (rintro e wA ⟨s1, rfl, hzs1, hss1, hbA⟩; have hSA := rg_keepK (by first | with_reducible assumption | exact KeptS.out (by with_reducible assumption)) hbA))) | (go_at_call 93; ((with_reducible refine (PutStr_6 (sh) P2.out _).mono ?_); (rintro e wA ⟨s2, rfl, hzs2, hss2, hbA⟩; have hSA := rg_keepK (by first | with_reducible assumption | exact KeptS.out (by with_reducible assumption)) hbA))) | (go_at_call 93; ((with_reducible refine (PutStr_4 (si) P3.out _).mono ?_); (rintro e wA ⟨s3, rfl, hzs3, hss3, hbA⟩; have hSA := rg_keepK (by first | with_reducible assumption | exact KeptS.out (by with_reducible assumption)) hbA))) | (go_at_call 93; ((with_reducible refine (PutStr_6 (dh) P4.out _).mono ?_); (rintro e wA ⟨s4, rfl, hzs4, hss4, hbA⟩; have hSA := rg_keepK (by first | with_reducible assumption | exact KeptS.out (by with_reducible assumption)) hbA))) | (go_at_call 93; ((with_reducible refine (PutStr_4 (di) P5.out _).mono ?_); (rintro e wA ⟨s5, rfl, hzs5, hss5, hbA⟩; have hSA := rg_keepK (by first | with_reducible assumption | exact KeptS.out (by with_reducible assumption)) hbA)))) | fail
    all_goals (go_wp2_with fail; go_meet; exact ⟨_, rfl, by rw [HR.out, hss1.out, hss2.out, hss3.out, hss4.out, hss5.out]; rfl, (by assumption : _ ∧ Below w1.heap.size w1 wA).2⟩)
  case rest =>
  obtain ⟨t, rfl, ht, hb2⟩ := hcut
  rename World => w2
  have hz2 := hb2.size
  (try simp at hz2)
  have ra_2 := (hb2.block _ (by first | omega | (simp; done) | (simp; omega))).trans Ra_1.out
  have hw2 : Below w.heap.size w w2 := (by repeat (first | with_reducible exact Below.refl _ _ | with_reducible assumption | with_reducible refine Below.drew ?_ | with_reducible refine Below.alloc ?_ (by first | exact Nat.le_refl _ | omega | (simp; done) | (simp; omega)) _ | with_reducible refine Below.setCell ?_ (by first | exact Nat.le_refl _ | omega | (simp; done) | (simp; omega)) _ | (with_reducible refine ext_trans ?_ (by with_reducible assumption))))
  have lRa_2 : w.heap.size < w2.heap.size := by omega
  have Ra_2 := Lib.hid ra_2
  have r0_ra_2 := cell_of_row _ _ 0 _ _ _ ra_2
  have r1_ra_2 := cell_of_row _ _ 1 _ _ _ ra_2
  have r2_ra_2 := cell_of_row _ _ 2 _ _ _ ra_2
  have r3_ra_2 := cell_of_row _ _ 3 _ _ _ ra_2
  have r4_ra_2 := cell_of_row _ _ 4 _ _ _ ra_2
  have f0_ra_2 := frozen_of_row _ _ 0 _ _ ra_2
  have f1_ra_2 := frozen_of_row _ _ 1 _ _ ra_2
  have f2_ra_2 := frozen_of_row _ _ 2 _ _ ra_2
  have f3_ra_2 := frozen_of_row _ _ 3 _ _ ra_2
  have f4_ra_2 := frozen_of_row _ _ 4 _ _ ra_2
  simp at r0_ra_2 r1_ra_2 r2_ra_2 r3_ra_2 r4_ra_2
  clear ra_2
  clear r0_ra_1 f0_ra_1 r1_ra_1 f1_ra_1 r2_ra_1 f2_ra_1 r3_ra_1 f3_ra_1 r4_ra_1 f4_ra_1
  go_wp2_with fail
  go_ret
  exact ⟨by rw [ht.out]; rfl, hw2⟩
set_option maxHeartbeats 4000000 in
set_option linter.unusedVariables false in
theorem sArpText_any (kd sh si dh di : Int) (w : World) :
    Calls Try.prog 102 #[.agg #[.int .i64 kd, .int .i64 sh, .int .i64 si, .int .i64 dh, .int .i64 di]] w fun e w' => e = .returned (.string (arpS kd sh si dh di)) ∧ Below w.heap.size w w' := by
  have y0 := fun W => sArpOk_any kd sh si dh di W
  cases hk : arpB kd sh si dh di
  case false =>
    rw [hk] at y0
    have Y0 := Lib.hid y0
    have HR : Hid (arpS kd sh si dh di = ⟨#[]⟩) := arp_no hk
    clear y0 hk
    go_enter Try.func102, Try.ntmps102
    go_wp2_with fail
    refine (Y0.out _).mono ?_
    rintro e w1 ⟨rfl, hb1⟩
    go_wp2_with fail
    go_ret
    exact ⟨by rw [HR.out]; rfl, (by repeat (first | with_reducible exact Below.refl _ _ | with_reducible assumption | with_reducible refine Below.drew ?_ | with_reducible refine Below.alloc ?_ (by first | exact Nat.le_refl _ | omega | (simp; done) | (simp; omega)) _ | with_reducible refine Below.setCell ?_ (by first | exact Nat.le_refl _ | omega | (simp; done) | (simp; omega)) _ | (with_reducible refine ext_trans ?_ (by with_reducible assumption))))⟩
  case true =>
  rw [hk] at y0
  have Y0 := Lib.hid y0
  have HR : Hid (arpS kd sh si dh di = (((((⟨#[0, 1, 8, 0, 6, 4]⟩ : ByteArray) ++ beS 2 kd) ++ beS 6 sh) ++ beS 4 si) ++ beS 6 dh) ++ beS 4 di) := (by unfold arpS; rw [hk]; rfl : arpS kd sh si dh di = _)
  have hk2 := hk
  simp only [arpB, Bool.and_eq_true] at hk2
  obtain ⟨g1, g2, g3, g4, g5⟩ := hk2
  have g6 := inB_iff.1 g1
  have P1 : Hid (putB kd 2 = true) := putB_2 (by omega) (by omega)
  have P2 : Hid (putB sh 6 = true) := putB_of rfl g2
  have P3 : Hid (putB si 4 = true) := putB_of rfl g4
  have P4 : Hid (putB dh 6 = true) := putB_of rfl g3
  have P5 : Hid (putB di 4 = true) := putB_of rfl g5
  clear y0 hk g1 g2 g3 g4 g5 g6
  go_enter Try.func102, Try.ntmps102
  go_wp2_with fail
  refine (Y0.out _).mono ?_
  rintro e w1 ⟨rfl, hb1⟩
  have hz1 := hb1.size
  (try simp at hz1)
  have ra_1 : w1.heap[w.heap.size]? = some (.cells #[.int .i64 kd, .int .i64 sh, .int .i64 si, .int .i64 dh, .int .i64 di] 91 (0, 0)) := (hb1.block _ (by first | (simp; done) | (simp; omega))).trans (by repeat (first | exact heap_new _ _ _ (by first | rfl | (simp; done) | (simp; omega)) | refine (Below.heap_alloc _ _ _ (by first | omega | (simp; done) | (simp; omega))).trans ?_))
  have hw1 : Below w.heap.size w w1 := (by repeat (first | with_reducible exact Below.refl _ _ | with_reducible assumption | with_reducible refine Below.drew ?_ | with_reducible refine Below.alloc ?_ (by first | exact Nat.le_refl _ | omega | (simp; done) | (simp; omega)) _ | with_reducible refine Below.setCell ?_ (by first | exact Nat.le_refl _ | omega | (simp; done) | (simp; omega)) _ | (with_reducible refine ext_trans ?_ (by with_reducible assumption))))
  have lRa_1 : w.heap.size < w1.heap.size := by omega
  have Ra_1 := Lib.hid ra_1
  have r0_ra_1 := cell_of_row _ _ 0 _ _ _ ra_1
  have r1_ra_1 := cell_of_row _ _ 1 _ _ _ ra_1
  have r2_ra_1 := cell_of_row _ _ 2 _ _ _ ra_1
  have r3_ra_1 := cell_of_row _ _ 3 _ _ _ ra_1
  have r4_ra_1 := cell_of_row _ _ 4 _ _ _ ra_1
  have f0_ra_1 := frozen_of_row _ _ 0 _ _ ra_1
  have f1_ra_1 := frozen_of_row _ _ 1 _ _ ra_1
  have f2_ra_1 := frozen_of_row _ _ 2 _ _ ra_1
  have f3_ra_1 := frozen_of_row _ _ 3 _ _ ra_1
  have f4_ra_1 := frozen_of_row _ _ 4 _ _ ra_1
  simp at r0_ra_1 r1_ra_1 r2_ra_1 r3_ra_1 r4_ra_1
  clear ra_1
  go_wp2_with fail
  go_cut [2] (fun z wx => ∃ t, z = .string t ∧ Hid (t = arpS kd sh si dh di) ∧ Below w1.heap.size w1 wx)
  case first =>
    first | go_region_held3 (fun w' => (∀ b' o, b' < (w1).heap.size → w'.cell? ⟨b', o, none⟩ = (w1).cell? ⟨b', o, none⟩) ∧ Below (w1).heap.size (w1) w') (first | with_reducible assumption | (with_reducible apply rg_keep; rotate_left; with_reducible assumption; with_reducible assumption) | with_reducible exact rg_start _ | with_reducible exact rg_alloc (KeptS.out (by with_reducible assumption)) _ | with_reducible exact rg_alloc (by with_reducible assumption) _ | with_reducible exact rg_start_alloc _ _ | ((repeat (with_reducible refine rg_set ?_ _ (by first | exact Nat.le_refl _ | omega | (simp; done) | (simp; omega)) _)); first | with_reducible exact KeptS.out (by with_reducible assumption) | with_reducible assumption | with_reducible exact rg_alloc (KeptS.out (by with_reducible assumption)) _)) (first | (go_at_call 89; ((with_reducible refine (sPutStr_2 (kd) P1.out _).mono ?_); (rintro e wA ⟨s1, rfl, hzs1, hss1, hbA⟩; have hSA := rg_keepK (by first | with_reducible assumption | exact KeptS.out (by with_reducible assumption)) hbA))) | (go_at_call 89; ((with_reducible refine (sPutStr_6 (sh) P2.out _).mono ?_); (rintro e wA ⟨s2, rfl, hzs2, hss2, hbA⟩; have hSA := rg_keepK (by first | with_reducible assumption | exact KeptS.out (by with_reducible assumption)) hbA))) | (go_at_call 89; ((with_reducible refine (sPutStr_4 (si) P3.out _).mono ?_); (rintro e wA ⟨s3, rfl, hzs3, hss3, hbA⟩; have hSA := rg_keepK (by first | with_reducible assumption | exact KeptS.out (by with_reducible assumption)) hbA))) | (go_at_call 89; ((with_reducible refine (sPutStr_6 (dh) P4.out _).mono ?_); (rintro e wA ⟨s4, rfl, hzs4, hss4, hbA⟩; have hSA := rg_keepK (by first | with_reducible assumption | exact KeptS.out (by with_reducible assumption)) hbA))) | (go_at_call 89; ((with_reducible refine (sPutStr_4 (di) P5.out _).mono ?_); (rintro e wA ⟨s5, rfl, hzs5, hss5, hbA⟩; have hSA := rg_keepK (by first | with_reducible assumption | exact KeptS.out (by with_reducible assumption)) hbA)))) | fail
    all_goals (go_wp2_with fail; go_meet; exact ⟨_, rfl, by rw [HR.out, hss1.out, hss2.out, hss3.out, hss4.out, hss5.out]; rfl, (by assumption : _ ∧ Below w1.heap.size w1 wA).2⟩)
  case rest =>
  obtain ⟨t, rfl, ht, hb2⟩ := hcut
  rename World => w2
  have hz2 := hb2.size
  (try simp at hz2)
  have ra_2 := (hb2.block _ (by first | omega | (simp; done) | (simp; omega))).trans Ra_1.out
  have hw2 : Below w.heap.size w w2 := (by repeat (first | with_reducible exact Below.refl _ _ | with_reducible assumption | with_reducible refine Below.drew ?_ | with_reducible refine Below.alloc ?_ (by first | exact Nat.le_refl _ | omega | (simp; done) | (simp; omega)) _ | with_reducible refine Below.setCell ?_ (by first | exact Nat.le_refl _ | omega | (simp; done) | (simp; omega)) _ | (with_reducible refine ext_trans ?_ (by with_reducible assumption))))
  have lRa_2 : w.heap.size < w2.heap.size := by omega
  have Ra_2 := Lib.hid ra_2
  have r0_ra_2 := cell_of_row _ _ 0 _ _ _ ra_2
  have r1_ra_2 := cell_of_row _ _ 1 _ _ _ ra_2
  have r2_ra_2 := cell_of_row _ _ 2 _ _ _ ra_2
  have r3_ra_2 := cell_of_row _ _ 3 _ _ _ ra_2
  have r4_ra_2 := cell_of_row _ _ 4 _ _ _ ra_2
  have f0_ra_2 := frozen_of_row _ _ 0 _ _ ra_2
  have f1_ra_2 := frozen_of_row _ _ 1 _ _ ra_2
  have f2_ra_2 := frozen_of_row _ _ 2 _ _ ra_2
  have f3_ra_2 := frozen_of_row _ _ 3 _ _ ra_2
  have f4_ra_2 := frozen_of_row _ _ 4 _ _ ra_2
  simp at r0_ra_2 r1_ra_2 r2_ra_2 r3_ra_2 r4_ra_2
  clear ra_2
  clear r0_ra_1 f0_ra_1 r1_ra_1 f1_ra_1 r2_ra_1 f2_ra_1 r3_ra_1 f3_ra_1 r4_ra_1 f4_ra_1
  go_wp2_with fail
  go_ret
  exact ⟨by rw [ht.out]; rfl, hw2⟩
set_option maxHeartbeats 4000000 in
set_option linter.unusedVariables false in
set_option linter.unusedSimpArgs false in
theorem ReadArp_any (s : ByteArray) (hz : s.size ≤ 1048576) (w : World) : Calls Try.prog 74 #[.string s] w (ArOut s w) := by
  have hr : (w.alloc (.cells #[.int .i64 0, .int .i64 0, .int .i64 0, .int .i64 0, .int .i64 0] 91)).heap[w.heap.size]? = some (.cells #[.int .i64 0, .int .i64 0, .int .i64 0, .int .i64 0, .int .i64 0] 91 (0, 0)) := (by repeat (first | exact heap_new _ _ _ (by first | rfl | (simp; done) | (simp; omega)) | refine (Below.heap_alloc _ _ _ (by first | omega | (simp; done) | (simp; omega))).trans ?_))
  have hb0 : Below w.heap.size w (w.alloc (.cells #[.int .i64 0, .int .i64 0, .int .i64 0, .int .i64 0, .int .i64 0] 91)) := (by repeat (first | with_reducible exact Below.refl _ _ | with_reducible assumption | with_reducible refine Below.drew ?_ | with_reducible refine Below.alloc ?_ (by first | exact Nat.le_refl _ | omega | (simp; done) | (simp; omega)) _ | with_reducible refine Below.setCell ?_ (by first | exact Nat.le_refl _ | omega | (simp; done) | (simp; omega)) _ | (with_reducible refine ext_trans ?_ (by with_reducible assumption))))
  have hl0 : w.heap.size < (w.alloc (.cells #[.int .i64 0, .int .i64 0, .int .i64 0, .int .i64 0, .int .i64 0] 91)).heap.size := by simp
  by_cases h28 : 28 ≤ s.size
  case neg =>
    have h28' : (s.size : Int) < 28 := by omega
    have HV : Hid (arR s = .agg #[.int .i64 0, .int .i64 0, .int .i64 0, .int .i64 0, .int .i64 0] ∧ okAr s = false) := by
      have h : okAr s = false := by (unfold okAr; rw [decide_eq_false h28]; rfl)
      exact ⟨by unfold arR; rw [h]; rfl, h⟩
    go_enter Try.func74, Try.ntmps74
    generalize hW : (w.alloc (.cells #[.int .i64 0, .int .i64 0, .int .i64 0, .int .i64 0, .int .i64 0] 91)) = w1 at *
    have HR := Lib.hid hr
    have r0_hr := cell_of_row _ _ 0 _ _ _ hr
    have r1_hr := cell_of_row _ _ 1 _ _ _ hr
    have r2_hr := cell_of_row _ _ 2 _ _ _ hr
    have r3_hr := cell_of_row _ _ 3 _ _ _ hr
    have r4_hr := cell_of_row _ _ 4 _ _ _ hr
    have f0_hr := frozen_of_row _ _ 0 _ _ hr
    have f1_hr := frozen_of_row _ _ 1 _ _ hr
    have f2_hr := frozen_of_row _ _ 2 _ _ hr
    have f3_hr := frozen_of_row _ _ 3 _ _ hr
    have f4_hr := frozen_of_row _ _ 4 _ _ hr
    simp at r0_hr r1_hr r2_hr r3_hr r4_hr
    clear hr
    go_wp2_with fail
    apply bodyPost_ret (results_row_tmp1 (P := Try.prog) (fn := Try.f74) rfl _ _ _ 91 _ (0, 0) _ rfl _ Try.underlying91 rfl _) rfl
    rotate_left 2
    · repeat (first | (with_reducible apply heap_setCell_same) | (with_reducible apply drew_row) | (with_reducible apply drewN_row) | (with_reducible exact HR.out) | (with_reducible refine (heap_setCell_other _ _ _ _ (by first | omega | (simp; done) | (simp; omega))).trans ?_) | (with_reducible refine (Below.heap_alloc _ _ _ (by first | omega | (simp; done) | (simp; omega))).trans ?_))
    · kernel_rfl
    exact ⟨by rw [HV.out.1, HV.out.2]; simp, (by repeat (first | with_reducible exact Below.refl _ _ | with_reducible assumption | with_reducible refine Below.drew ?_ | with_reducible refine Below.alloc ?_ (by first | exact Nat.le_refl _ | omega | (simp; done) | (simp; omega)) _ | with_reducible refine Below.setCell ?_ (by first | exact Nat.le_refl _ | omega | (simp; done) | (simp; omega)) _ | (with_reducible refine ext_trans ?_ (by with_reducible assumption))))⟩
  case pos =>
  have h28' : ¬ ((s.size : Int) < 28) := by omega
  have h28a : (28 : Int) ≤ (s.size : Int) := by omega
  have h28b : (6 : Int) ≤ (s.size : Int) := by omega
  have hao := @arp_of s h28
  obtain ⟨a1, ha1⟩ : ∃ X, getW s 6 2 = X := ⟨_, rfl⟩
  obtain ⟨a2, ha2⟩ : ∃ X, getW s 8 6 = X := ⟨_, rfl⟩
  obtain ⟨a3, ha3⟩ : ∃ X, getW s 14 4 = X := ⟨_, rfl⟩
  obtain ⟨a4, ha4⟩ : ∃ X, getW s 18 6 = X := ⟨_, rfl⟩
  obtain ⟨a5, ha5⟩ : ∃ X, getW s 24 4 = X := ⟨_, rfl⟩
  obtain ⟨B, hB⟩ : ∃ X, arpB a1 a2 a3 a4 a5 = X := ⟨_, rfl⟩
  obtain ⟨F, hF⟩ : ∃ X, arpS a1 a2 a3 a4 a5 = X := ⟨_, rfl⟩
  obtain ⟨X6, hX6⟩ : ∃ X, s.extract 0 6 = X := ⟨_, rfl⟩
  obtain ⟨X28, hX28⟩ : ∃ X, s.extract 0 28 = X := ⟨_, rfl⟩
  rw [ha1, ha2, ha3, ha4, ha5, hB, hF, hX6, hX28] at hao
  have Y1 : Hid (∀ W, Calls Try.prog 97 #[.string s, .int .i64 6, .int .i64 2] W fun e w' => e = .returned (.int .i64 a1) ∧ W = w') := fun W => by
    rw [← ha1]; exact word_any s 6 2 (by omega) (by omega) (by omega) hz W
  have Y2 : Hid (∀ W, Calls Try.prog 97 #[.string s, .int .i64 8, .int .i64 6] W fun e w' => e = .returned (.int .i64 a2) ∧ W = w') := fun W => by
    rw [← ha2]; exact word_any s 8 6 (by omega) (by omega) (by omega) hz W
  have Y3 : Hid (∀ W, Calls Try.prog 97 #[.string s, .int .i64 14, .int .i64 4] W fun e w' => e = .returned (.int .i64 a3) ∧ W = w') := fun W => by
    rw [← ha3]; exact word_any s 14 4 (by omega) (by omega) (by omega) hz W
  have Y4 : Hid (∀ W, Calls Try.prog 97 #[.string s, .int .i64 18, .int .i64 6] W fun e w' => e = .returned (.int .i64 a4) ∧ W = w') := fun W => by
    rw [← ha4]; exact word_any s 18 6 (by omega) (by omega) (by omega) hz W
  have Y5 : Hid (∀ W, Calls Try.prog 97 #[.string s, .int .i64 24, .int .i64 4] W fun e w' => e = .returned (.int .i64 a5) ∧ W = w') := fun W => by
    rw [← ha5]; exact word_any s 24 4 (by omega) (by omega) (by omega) hz W
  have HV : Hid (arR s = (if (decide (X6 = ⟨#[0, 1, 8, 0, 6, 4]⟩) && B) = true then .agg #[.int .i64 a1, .int .i64 a2, .int .i64 a3, .int .i64 a4, .int .i64 a5] else .agg #[.int .i64 0, .int .i64 0, .int .i64 0, .int .i64 0, .int .i64 0]) ∧ okAr s = (decide (X6 = ⟨#[0, 1, 8, 0, 6, 4]⟩) && B)) := by
    have h : okAr s = (decide (X6 = ⟨#[0, 1, 8, 0, 6, 4]⟩) && B) := by (unfold okAr; rw [decide_eq_true h28, ha1, ha2, ha3, ha4, ha5, hB, hX6]; rfl)
    exact ⟨by unfold arR; rw [h, ha1, ha2, ha3, ha4, ha5], h⟩
  have y6 := fun W => ArpOk_any a1 a2 a3 a4 a5 W
  rw [hB] at y6
  have Y6 := Lib.hid y6
  clear y6 hB hF hao hX28 ha1 ha2 ha3 ha4 ha5
  by_cases hh : X6 = ⟨#[0, 1, 8, 0, 6, 4]⟩
  case neg =>
    have hh2 := bs_ne hh
    have hh3 : ¬ X6.toList = [0, 1, 8, 0, 6, 4] := fun e => hh (ba_ext (by rw [← bs_list, e]))
    have hh4 : (X6.toList == [0, 1, 8, 0, 6, 4]) = false := by simpa using hh3
    rw [decide_eq_false hh] at HV
    go_enter Try.func74, Try.ntmps74
    generalize hW : (w.alloc (.cells #[.int .i64 0, .int .i64 0, .int .i64 0, .int .i64 0, .int .i64 0] 91)) = w1 at *
    have HR := Lib.hid hr
    have r0_hr := cell_of_row _ _ 0 _ _ _ hr
    have r1_hr := cell_of_row _ _ 1 _ _ _ hr
    have r2_hr := cell_of_row _ _ 2 _ _ _ hr
    have r3_hr := cell_of_row _ _ 3 _ _ _ hr
    have r4_hr := cell_of_row _ _ 4 _ _ _ hr
    have f0_hr := frozen_of_row _ _ 0 _ _ hr
    have f1_hr := frozen_of_row _ _ 1 _ _ hr
    have f2_hr := frozen_of_row _ _ 2 _ _ hr
    have f3_hr := frozen_of_row _ _ 3 _ _ hr
    have f4_hr := frozen_of_row _ _ 4 _ _ hr
    simp at r0_hr r1_hr r2_hr r3_hr r4_hr
    clear hr
    go_wp2_with fail
    apply bodyPost_ret (results_row_tmp1 (P := Try.prog) (fn := Try.f74) rfl _ _ _ 91 _ (0, 0) _ rfl _ Try.underlying91 rfl _) rfl
    rotate_left 2
    · repeat (first | (with_reducible apply heap_setCell_same) | (with_reducible apply drew_row) | (with_reducible apply drewN_row) | (with_reducible exact HR.out) | (with_reducible refine (heap_setCell_other _ _ _ _ (by first | omega | (simp; done) | (simp; omega))).trans ?_) | (with_reducible refine (Below.heap_alloc _ _ _ (by first | omega | (simp; done) | (simp; omega))).trans ?_))
    · kernel_rfl
    exact ⟨by rw [HV.out.1, HV.out.2]; simp, (by repeat (first | with_reducible exact Below.refl _ _ | with_reducible assumption | with_reducible refine Below.drew ?_ | with_reducible refine Below.alloc ?_ (by first | exact Nat.le_refl _ | omega | (simp; done) | (simp; omega)) _ | with_reducible refine Below.setCell ?_ (by first | exact Nat.le_refl _ | omega | (simp; done) | (simp; omega)) _ | (with_reducible refine ext_trans ?_ (by with_reducible assumption))))⟩
  case pos =>
  rw [decide_eq_true hh] at HV
  subst hh
  go_enter Try.func74, Try.ntmps74
  generalize hW : (w.alloc (.cells #[.int .i64 0, .int .i64 0, .int .i64 0, .int .i64 0, .int .i64 0] 91)) = w1 at *
  have HR := Lib.hid hr
  have r0_hr := cell_of_row _ _ 0 _ _ _ hr
  have r1_hr := cell_of_row _ _ 1 _ _ _ hr
  have r2_hr := cell_of_row _ _ 2 _ _ _ hr
  have r3_hr := cell_of_row _ _ 3 _ _ _ hr
  have r4_hr := cell_of_row _ _ 4 _ _ _ hr
  have f0_hr := frozen_of_row _ _ 0 _ _ hr
  have f1_hr := frozen_of_row _ _ 1 _ _ hr
  have f2_hr := frozen_of_row _ _ 2 _ _ hr
  have f3_hr := frozen_of_row _ _ 3 _ _ hr
  have f4_hr := frozen_of_row _ _ 4 _ _ hr
  simp at r0_hr r1_hr r2_hr r3_hr r4_hr
  clear hr
  go_wp2_with (first | (go_at_call 97; (with_reducible refine (Y1.out _).mono ?_); rintro e w' ⟨rfl, rfl⟩) | (go_at_call 97; (with_reducible refine (Y2.out _).mono ?_); rintro e w' ⟨rfl, rfl⟩) | (go_at_call 97; (with_reducible refine (Y3.out _).mono ?_); rintro e w' ⟨rfl, rfl⟩) | (go_at_call 97; (with_reducible refine (Y4.out _).mono ?_); rintro e w' ⟨rfl, rfl⟩) | (go_at_call 97; (with_reducible refine (Y5.out _).mono ?_); rintro e w' ⟨rfl, rfl⟩))
  refine (Y6.out _).mono ?_
  rintro e w3 ⟨rfl, hb3⟩
  have hz3 := hb3.size
  (try simp at hz3)
  have hg3 : w3.heap[w1.heap.size]? = some (.cells #[.int .i64 a1, .int .i64 a2, .int .i64 a3, .int .i64 a4, .int .i64 a5] 91 (0, 0)) := (hb3.block _ (by first | (simp; done) | (simp; omega))).trans (by repeat (first | exact heap_new _ _ _ (by first | rfl | (simp; done) | (simp; omega)) | refine (Below.heap_alloc _ _ _ (by first | omega | (simp; done) | (simp; omega))).trans ?_))
  have hr3 := (hb3.block _ (by first | (simp; done) | (simp; omega))).trans ((Below.heap_alloc _ _ _ hl0).trans HR.out)
  have hw3 : Below w.heap.size w w3 := (by repeat (first | with_reducible exact Below.refl _ _ | with_reducible assumption | with_reducible refine Below.drew ?_ | with_reducible refine Below.alloc ?_ (by first | exact Nat.le_refl _ | omega | (simp; done) | (simp; omega)) _ | with_reducible refine Below.setCell ?_ (by first | exact Nat.le_refl _ | omega | (simp; done) | (simp; omega)) _ | (with_reducible refine ext_trans ?_ (by with_reducible assumption))))
  have hl3 : w1.heap.size < w3.heap.size := by omega
  have hne : ¬ w.heap.size = w1.heap.size := by omega
  have HR3 := Lib.hid hr3
  have r0_hg3 := cell_of_row _ _ 0 _ _ _ hg3
  have r1_hg3 := cell_of_row _ _ 1 _ _ _ hg3
  have r2_hg3 := cell_of_row _ _ 2 _ _ _ hg3
  have r3_hg3 := cell_of_row _ _ 3 _ _ _ hg3
  have r4_hg3 := cell_of_row _ _ 4 _ _ _ hg3
  have f0_hg3 := frozen_of_row _ _ 0 _ _ hg3
  have f1_hg3 := frozen_of_row _ _ 1 _ _ hg3
  have f2_hg3 := frozen_of_row _ _ 2 _ _ hg3
  have f3_hg3 := frozen_of_row _ _ 3 _ _ hg3
  have f4_hg3 := frozen_of_row _ _ 4 _ _ hg3
  simp at r0_hg3 r1_hg3 r2_hg3 r3_hg3 r4_hg3
  have r0_hr3 := cell_of_row _ _ 0 _ _ _ hr3
  have r1_hr3 := cell_of_row _ _ 1 _ _ _ hr3
  have r2_hr3 := cell_of_row _ _ 2 _ _ _ hr3
  have r3_hr3 := cell_of_row _ _ 3 _ _ _ hr3
  have r4_hr3 := cell_of_row _ _ 4 _ _ _ hr3
  have f0_hr3 := frozen_of_row _ _ 0 _ _ hr3
  have f1_hr3 := frozen_of_row _ _ 1 _ _ hr3
  have f2_hr3 := frozen_of_row _ _ 2 _ _ hr3
  have f3_hr3 := frozen_of_row _ _ 3 _ _ hr3
  have f4_hr3 := frozen_of_row _ _ 4 _ _ hr3
  simp at r0_hr3 r1_hr3 r2_hr3 r3_hr3 r4_hr3
  clear hg3 hr3
  cases B
  · go_wp2_with fail
    apply bodyPost_ret (results_row_tmp1 (P := Try.prog) (fn := Try.f74) rfl _ _ _ 91 _ (0, 0) _ rfl _ Try.underlying91 rfl _) rfl
    rotate_left 2
    · repeat (first | (with_reducible apply heap_setCell_same) | (with_reducible apply drew_row) | (with_reducible apply drewN_row) | (with_reducible exact HR3.out) | (with_reducible refine (heap_setCell_other _ _ _ _ (by first | omega | (simp; done) | (simp; omega))).trans ?_) | (with_reducible refine (Below.heap_alloc _ _ _ (by first | omega | (simp; done) | (simp; omega))).trans ?_))
    · kernel_rfl
    exact ⟨by rw [HV.out.1, HV.out.2]; simp, (by repeat (first | with_reducible exact Below.refl _ _ | with_reducible assumption | with_reducible refine Below.drew ?_ | with_reducible refine Below.alloc ?_ (by first | exact Nat.le_refl _ | omega | (simp; done) | (simp; omega)) _ | with_reducible refine Below.setCell ?_ (by first | exact Nat.le_refl _ | omega | (simp; done) | (simp; omega)) _ | (with_reducible refine ext_trans ?_ (by with_reducible assumption))))⟩
  · go_wp2_with fail
    apply bodyPost_ret (results_row_tmp1 (P := Try.prog) (fn := Try.f74) rfl _ _ _ 91 _ (0, 0) _ rfl _ Try.underlying91 rfl _) rfl
    rotate_left 2
    · repeat (first | (with_reducible apply heap_setCell_same) | (with_reducible apply drew_row) | (with_reducible apply drewN_row) | (with_reducible exact HR3.out) | (with_reducible refine (heap_setCell_other _ _ _ _ (by first | omega | (simp; done) | (simp; omega))).trans ?_) | (with_reducible refine (Below.heap_alloc _ _ _ (by first | omega | (simp; done) | (simp; omega))).trans ?_))
    · kernel_rfl
    exact ⟨by rw [HV.out.1, HV.out.2]; simp, (by repeat (first | with_reducible exact Below.refl _ _ | with_reducible assumption | with_reducible refine Below.drew ?_ | with_reducible refine Below.alloc ?_ (by first | exact Nat.le_refl _ | omega | (simp; done) | (simp; omega)) _ | with_reducible refine Below.setCell ?_ (by first | exact Nat.le_refl _ | omega | (simp; done) | (simp; omega)) _ | (with_reducible refine ext_trans ?_ (by with_reducible assumption))))⟩
set_option maxHeartbeats 4000000 in
set_option linter.unusedVariables false in
set_option linter.unusedSimpArgs false in
theorem sReadArp_any (s : ByteArray) (hz : s.size ≤ 1048576) (w : World) : Calls Try.prog 100 #[.string s] w (ArOut s w) := by
  have hr : (w.alloc (.cells #[.int .i64 0, .int .i64 0, .int .i64 0, .int .i64 0, .int .i64 0] 91)).heap[w.heap.size]? = some (.cells #[.int .i64 0, .int .i64 0, .int .i64 0, .int .i64 0, .int .i64 0] 91 (0, 0)) := (by repeat (first | exact heap_new _ _ _ (by first | rfl | (simp; done) | (simp; omega)) | refine (Below.heap_alloc _ _ _ (by first | omega | (simp; done) | (simp; omega))).trans ?_))
  have hb0 : Below w.heap.size w (w.alloc (.cells #[.int .i64 0, .int .i64 0, .int .i64 0, .int .i64 0, .int .i64 0] 91)) := (by repeat (first | with_reducible exact Below.refl _ _ | with_reducible assumption | with_reducible refine Below.drew ?_ | with_reducible refine Below.alloc ?_ (by first | exact Nat.le_refl _ | omega | (simp; done) | (simp; omega)) _ | with_reducible refine Below.setCell ?_ (by first | exact Nat.le_refl _ | omega | (simp; done) | (simp; omega)) _ | (with_reducible refine ext_trans ?_ (by with_reducible assumption))))
  have hl0 : w.heap.size < (w.alloc (.cells #[.int .i64 0, .int .i64 0, .int .i64 0, .int .i64 0, .int .i64 0] 91)).heap.size := by simp
  by_cases h28 : 28 ≤ s.size
  case neg =>
    have h28' : (s.size : Int) < 28 := by omega
    have HV : Hid (arR s = .agg #[.int .i64 0, .int .i64 0, .int .i64 0, .int .i64 0, .int .i64 0] ∧ okAr s = false) := by
      have h : okAr s = false := by (unfold okAr; rw [decide_eq_false h28]; rfl)
      exact ⟨by unfold arR; rw [h]; rfl, h⟩
    go_enter Try.func100, Try.ntmps100
    generalize hW : (w.alloc (.cells #[.int .i64 0, .int .i64 0, .int .i64 0, .int .i64 0, .int .i64 0] 91)) = w1 at *
    have HR := Lib.hid hr
    have r0_hr := cell_of_row _ _ 0 _ _ _ hr
    have r1_hr := cell_of_row _ _ 1 _ _ _ hr
    have r2_hr := cell_of_row _ _ 2 _ _ _ hr
    have r3_hr := cell_of_row _ _ 3 _ _ _ hr
    have r4_hr := cell_of_row _ _ 4 _ _ _ hr
    have f0_hr := frozen_of_row _ _ 0 _ _ hr
    have f1_hr := frozen_of_row _ _ 1 _ _ hr
    have f2_hr := frozen_of_row _ _ 2 _ _ hr
    have f3_hr := frozen_of_row _ _ 3 _ _ hr
    have f4_hr := frozen_of_row _ _ 4 _ _ hr
    simp at r0_hr r1_hr r2_hr r3_hr r4_hr
    clear hr
    go_wp2_with fail
    apply bodyPost_ret (results_row_tmp1 (P := Try.prog) (fn := Try.f100) rfl _ _ _ 91 _ (0, 0) _ rfl _ Try.underlying91 rfl _) rfl
    rotate_left 2
    · repeat (first | (with_reducible apply heap_setCell_same) | (with_reducible apply drew_row) | (with_reducible apply drewN_row) | (with_reducible exact HR.out) | (with_reducible refine (heap_setCell_other _ _ _ _ (by first | omega | (simp; done) | (simp; omega))).trans ?_) | (with_reducible refine (Below.heap_alloc _ _ _ (by first | omega | (simp; done) | (simp; omega))).trans ?_))
    · kernel_rfl
    exact ⟨by rw [HV.out.1, HV.out.2]; simp, (by repeat (first | with_reducible exact Below.refl _ _ | with_reducible assumption | with_reducible refine Below.drew ?_ | with_reducible refine Below.alloc ?_ (by first | exact Nat.le_refl _ | omega | (simp; done) | (simp; omega)) _ | with_reducible refine Below.setCell ?_ (by first | exact Nat.le_refl _ | omega | (simp; done) | (simp; omega)) _ | (with_reducible refine ext_trans ?_ (by with_reducible assumption))))⟩
  case pos =>
  have h28' : ¬ ((s.size : Int) < 28) := by omega
  have h28a : (28 : Int) ≤ (s.size : Int) := by omega
  have h28b : (6 : Int) ≤ (s.size : Int) := by omega
  have hao := @arp_of s h28
  obtain ⟨a1, ha1⟩ : ∃ X, getW s 6 2 = X := ⟨_, rfl⟩
  obtain ⟨a2, ha2⟩ : ∃ X, getW s 8 6 = X := ⟨_, rfl⟩
  obtain ⟨a3, ha3⟩ : ∃ X, getW s 14 4 = X := ⟨_, rfl⟩
  obtain ⟨a4, ha4⟩ : ∃ X, getW s 18 6 = X := ⟨_, rfl⟩
  obtain ⟨a5, ha5⟩ : ∃ X, getW s 24 4 = X := ⟨_, rfl⟩
  obtain ⟨B, hB⟩ : ∃ X, arpB a1 a2 a3 a4 a5 = X := ⟨_, rfl⟩
  obtain ⟨F, hF⟩ : ∃ X, arpS a1 a2 a3 a4 a5 = X := ⟨_, rfl⟩
  obtain ⟨X6, hX6⟩ : ∃ X, s.extract 0 6 = X := ⟨_, rfl⟩
  obtain ⟨X28, hX28⟩ : ∃ X, s.extract 0 28 = X := ⟨_, rfl⟩
  rw [ha1, ha2, ha3, ha4, ha5, hB, hF, hX6, hX28] at hao
  have Y1 : Hid (∀ W, Calls Try.prog 83 #[.string s, .int .i64 6, .int .i64 2] W fun e w' => e = .returned (.tuple #[.int .i64 a1, .bool true]) ∧ W = w') := fun W => by
    rw [← ha1]; exact sGetWord_any s 6 2 (by omega) (by omega) (by omega) hz W
  have Y2 : Hid (∀ W, Calls Try.prog 83 #[.string s, .int .i64 8, .int .i64 6] W fun e w' => e = .returned (.tuple #[.int .i64 a2, .bool true]) ∧ W = w') := fun W => by
    rw [← ha2]; exact sGetWord_any s 8 6 (by omega) (by omega) (by omega) hz W
  have Y3 : Hid (∀ W, Calls Try.prog 83 #[.string s, .int .i64 14, .int .i64 4] W fun e w' => e = .returned (.tuple #[.int .i64 a3, .bool true]) ∧ W = w') := fun W => by
    rw [← ha3]; exact sGetWord_any s 14 4 (by omega) (by omega) (by omega) hz W
  have Y4 : Hid (∀ W, Calls Try.prog 83 #[.string s, .int .i64 18, .int .i64 6] W fun e w' => e = .returned (.tuple #[.int .i64 a4, .bool true]) ∧ W = w') := fun W => by
    rw [← ha4]; exact sGetWord_any s 18 6 (by omega) (by omega) (by omega) hz W
  have Y5 : Hid (∀ W, Calls Try.prog 83 #[.string s, .int .i64 24, .int .i64 4] W fun e w' => e = .returned (.tuple #[.int .i64 a5, .bool true]) ∧ W = w') := fun W => by
    rw [← ha5]; exact sGetWord_any s 24 4 (by omega) (by omega) (by omega) hz W
  have HV : Hid (arR s = (if (decide (X6 = ⟨#[0, 1, 8, 0, 6, 4]⟩) && B) = true then .agg #[.int .i64 a1, .int .i64 a2, .int .i64 a3, .int .i64 a4, .int .i64 a5] else .agg #[.int .i64 0, .int .i64 0, .int .i64 0, .int .i64 0, .int .i64 0]) ∧ okAr s = (decide (X6 = ⟨#[0, 1, 8, 0, 6, 4]⟩) && B)) := by
    have h : okAr s = (decide (X6 = ⟨#[0, 1, 8, 0, 6, 4]⟩) && B) := by (unfold okAr; rw [decide_eq_true h28, ha1, ha2, ha3, ha4, ha5, hB, hX6]; rfl)
    exact ⟨by unfold arR; rw [h, ha1, ha2, ha3, ha4, ha5], h⟩
  have y6 := fun W => sArpText_any a1 a2 a3 a4 a5 W
  rw [hF] at y6
  have Y6 := Lib.hid y6
  have hF0 : B = false → F = ⟨#[]⟩ := fun h => by rw [← hF]; exact arp_no (hB.trans h)
  have hXs : X28.size = 28 := by rw [← hX28, ByteArray.size_extract]; omega
  have HQ : Hid (F = X28 ↔ (decide (X6 = ⟨#[0, 1, 8, 0, 6, 4]⟩) && B) = true) := by
    cases B
    · simp only [Bool.and_false, Bool.false_eq_true, iff_false]
      intro h
      rw [hF0 rfl] at h
      rw [← h] at hXs
      exact absurd hXs (by decide)
    · simp only [Bool.and_true, decide_eq_true_eq]
      exact hao rfl
  clear y6 hB hF hao ha1 ha2 ha3 ha4 ha5 hF0 hX6
  go_enter Try.func100, Try.ntmps100
  generalize hW : (w.alloc (.cells #[.int .i64 0, .int .i64 0, .int .i64 0, .int .i64 0, .int .i64 0] 91)) = w1 at *
  have HR := Lib.hid hr
  have r0_hr := cell_of_row _ _ 0 _ _ _ hr
  have r1_hr := cell_of_row _ _ 1 _ _ _ hr
  have r2_hr := cell_of_row _ _ 2 _ _ _ hr
  have r3_hr := cell_of_row _ _ 3 _ _ _ hr
  have r4_hr := cell_of_row _ _ 4 _ _ _ hr
  have f0_hr := frozen_of_row _ _ 0 _ _ hr
  have f1_hr := frozen_of_row _ _ 1 _ _ hr
  have f2_hr := frozen_of_row _ _ 2 _ _ hr
  have f3_hr := frozen_of_row _ _ 3 _ _ hr
  have f4_hr := frozen_of_row _ _ 4 _ _ hr
  simp at r0_hr r1_hr r2_hr r3_hr r4_hr
  clear hr
  go_wp2_with (first | (go_at_call 83; (with_reducible refine (Y1.out _).mono ?_); rintro e w' ⟨rfl, rfl⟩) | (go_at_call 83; (with_reducible refine (Y2.out _).mono ?_); rintro e w' ⟨rfl, rfl⟩) | (go_at_call 83; (with_reducible refine (Y3.out _).mono ?_); rintro e w' ⟨rfl, rfl⟩) | (go_at_call 83; (with_reducible refine (Y4.out _).mono ?_); rintro e w' ⟨rfl, rfl⟩) | (go_at_call 83; (with_reducible refine (Y5.out _).mono ?_); rintro e w' ⟨rfl, rfl⟩))
  obtain ⟨Z, hZ⟩ : ∃ Z, (decide (X6 = ⟨#[0, 1, 8, 0, 6, 4]⟩) && B) = Z := ⟨_, rfl⟩
  rw [hZ] at HV HQ
  clear hZ
  have hg2 : (w1.alloc (.cells #[.int .i64 a1, .int .i64 a2, .int .i64 a3, .int .i64 a4, .int .i64 a5] 91)).heap[w1.heap.size]? = some (.cells #[.int .i64 a1, .int .i64 a2, .int .i64 a3, .int .i64 a4, .int .i64 a5] 91 (0, 0)) := (by repeat (first | exact heap_new _ _ _ (by first | rfl | (simp; done) | (simp; omega)) | refine (Below.heap_alloc _ _ _ (by first | omega | (simp; done) | (simp; omega))).trans ?_))
  have hr2 := (Below.heap_alloc w1 (.cells #[.int .i64 a1, .int .i64 a2, .int .i64 a3, .int .i64 a4, .int .i64 a5] 91) _ hl0).trans HR.out
  have hb2 : Below w1.heap.size w1 (w1.alloc (.cells #[.int .i64 a1, .int .i64 a2, .int .i64 a3, .int .i64 a4, .int .i64 a5] 91)) := (by repeat (first | with_reducible exact Below.refl _ _ | with_reducible assumption | with_reducible refine Below.drew ?_ | with_reducible refine Below.alloc ?_ (by first | exact Nat.le_refl _ | omega | (simp; done) | (simp; omega)) _ | with_reducible refine Below.setCell ?_ (by first | exact Nat.le_refl _ | omega | (simp; done) | (simp; omega)) _ | (with_reducible refine ext_trans ?_ (by with_reducible assumption))))
  have hl2 : w1.heap.size < (w1.alloc (.cells #[.int .i64 a1, .int .i64 a2, .int .i64 a3, .int .i64 a4, .int .i64 a5] 91)).heap.size := by simp
  generalize (w1.alloc (.cells #[.int .i64 a1, .int .i64 a2, .int .i64 a3, .int .i64 a4, .int .i64 a5] 91)) = w2 at *
  have hw2 : Below w.heap.size w w2 := (by repeat (first | with_reducible exact Below.refl _ _ | with_reducible assumption | with_reducible refine Below.drew ?_ | with_reducible refine Below.alloc ?_ (by first | exact Nat.le_refl _ | omega | (simp; done) | (simp; omega)) _ | with_reducible refine Below.setCell ?_ (by first | exact Nat.le_refl _ | omega | (simp; done) | (simp; omega)) _ | (with_reducible refine ext_trans ?_ (by with_reducible assumption))))
  have hne : ¬ w.heap.size = w1.heap.size := by omega
  have hlw2 : w.heap.size < w2.heap.size := by omega
  have HR2 := Lib.hid hr2
  have HG2 := Lib.hid hg2
  have r0_hg2 := cell_of_row _ _ 0 _ _ _ hg2
  have r1_hg2 := cell_of_row _ _ 1 _ _ _ hg2
  have r2_hg2 := cell_of_row _ _ 2 _ _ _ hg2
  have r3_hg2 := cell_of_row _ _ 3 _ _ _ hg2
  have r4_hg2 := cell_of_row _ _ 4 _ _ _ hg2
  have f0_hg2 := frozen_of_row _ _ 0 _ _ hg2
  have f1_hg2 := frozen_of_row _ _ 1 _ _ hg2
  have f2_hg2 := frozen_of_row _ _ 2 _ _ hg2
  have f3_hg2 := frozen_of_row _ _ 3 _ _ hg2
  have f4_hg2 := frozen_of_row _ _ 4 _ _ hg2
  simp at r0_hg2 r1_hg2 r2_hg2 r3_hg2 r4_hg2
  have r0_hr2 := cell_of_row _ _ 0 _ _ _ hr2
  have r1_hr2 := cell_of_row _ _ 1 _ _ _ hr2
  have r2_hr2 := cell_of_row _ _ 2 _ _ _ hr2
  have r3_hr2 := cell_of_row _ _ 3 _ _ _ hr2
  have r4_hr2 := cell_of_row _ _ 4 _ _ _ hr2
  have f0_hr2 := frozen_of_row _ _ 0 _ _ hr2
  have f1_hr2 := frozen_of_row _ _ 1 _ _ hr2
  have f2_hr2 := frozen_of_row _ _ 2 _ _ hr2
  have f3_hr2 := frozen_of_row _ _ 3 _ _ hr2
  have f4_hr2 := frozen_of_row _ _ 4 _ _ hr2
  simp at r0_hr2 r1_hr2 r2_hr2 r3_hr2 r4_hr2
  clear hg2 hr2
  go_cut [44] (fun z wx => z = .bool (!Z) ∧ Below w2.heap.size w2 wx)
  case first =>
    cases Z
    · have hFX : ¬ F = X28 := fun h => by have := HQ.out.1 h; simp at this
      have hFX2 := bs_ne hFX
      first | go_region_held3 (fun w' => (∀ b' o, b' < (w2).heap.size → w'.cell? ⟨b', o, none⟩ = (w2).cell? ⟨b', o, none⟩) ∧ Below (w2).heap.size (w2) w') (first | with_reducible assumption | (with_reducible apply rg_keep; rotate_left; with_reducible assumption; with_reducible assumption) | with_reducible exact rg_start _ | with_reducible exact rg_alloc (KeptS.out (by with_reducible assumption)) _ | with_reducible exact rg_alloc (by with_reducible assumption) _ | with_reducible exact rg_start_alloc _ _ | ((repeat (with_reducible refine rg_set ?_ _ (by first | exact Nat.le_refl _ | omega | (simp; done) | (simp; omega)) _)); first | with_reducible exact KeptS.out (by with_reducible assumption) | with_reducible assumption | with_reducible exact rg_alloc (KeptS.out (by with_reducible assumption)) _)) (first | (go_at_call 102; ((with_reducible refine (Y6.out _).mono ?_); (rintro e wA ⟨rfl, hbA⟩; have hSA := rg_keepK (by first | with_reducible assumption | exact KeptS.out (by with_reducible assumption)) hbA)))) | fail
      all_goals (go_wp2_with fail; go_meet; exact ⟨by first | rfl | simp [hFX2], (by assumption : _ ∧ Below w2.heap.size w2 wA).2⟩)
    · obtain rfl : F = X28 := HQ.out.2 rfl
      first | go_region_held3 (fun w' => (∀ b' o, b' < (w2).heap.size → w'.cell? ⟨b', o, none⟩ = (w2).cell? ⟨b', o, none⟩) ∧ Below (w2).heap.size (w2) w') (first | with_reducible assumption | (with_reducible apply rg_keep; rotate_left; with_reducible assumption; with_reducible assumption) | with_reducible exact rg_start _ | with_reducible exact rg_alloc (KeptS.out (by with_reducible assumption)) _ | with_reducible exact rg_alloc (by with_reducible assumption) _ | with_reducible exact rg_start_alloc _ _ | ((repeat (with_reducible refine rg_set ?_ _ (by first | exact Nat.le_refl _ | omega | (simp; done) | (simp; omega)) _)); first | with_reducible exact KeptS.out (by with_reducible assumption) | with_reducible assumption | with_reducible exact rg_alloc (KeptS.out (by with_reducible assumption)) _)) (first | (go_at_call 102; ((with_reducible refine (Y6.out _).mono ?_); (rintro e wA ⟨rfl, hbA⟩; have hSA := rg_keepK (by first | with_reducible assumption | exact KeptS.out (by with_reducible assumption)) hbA)))) | fail
      all_goals (go_wp2_with fail; go_meet; exact ⟨by first | rfl | simp, (by assumption : _ ∧ Below w2.heap.size w2 wA).2⟩)
  case rest =>
  obtain ⟨rfl, hb3⟩ := hcut
  rename World => w3
  have hz3 := hb3.size
  have hr3 := (hb3.block _ hlw2).trans HR2.out
  have hg3 := (hb3.block _ hl2).trans HG2.out
  have hw3 : Below w.heap.size w w3 := (by repeat (first | with_reducible exact Below.refl _ _ | with_reducible assumption | with_reducible refine Below.drew ?_ | with_reducible refine Below.alloc ?_ (by first | exact Nat.le_refl _ | omega | (simp; done) | (simp; omega)) _ | with_reducible refine Below.setCell ?_ (by first | exact Nat.le_refl _ | omega | (simp; done) | (simp; omega)) _ | (with_reducible refine ext_trans ?_ (by with_reducible assumption))))
  have hl3 : w1.heap.size < w3.heap.size := by omega
  have HR3 := Lib.hid hr3
  have r0_hg3 := cell_of_row _ _ 0 _ _ _ hg3
  have r1_hg3 := cell_of_row _ _ 1 _ _ _ hg3
  have r2_hg3 := cell_of_row _ _ 2 _ _ _ hg3
  have r3_hg3 := cell_of_row _ _ 3 _ _ _ hg3
  have r4_hg3 := cell_of_row _ _ 4 _ _ _ hg3
  have f0_hg3 := frozen_of_row _ _ 0 _ _ hg3
  have f1_hg3 := frozen_of_row _ _ 1 _ _ hg3
  have f2_hg3 := frozen_of_row _ _ 2 _ _ hg3
  have f3_hg3 := frozen_of_row _ _ 3 _ _ hg3
  have f4_hg3 := frozen_of_row _ _ 4 _ _ hg3
  simp at r0_hg3 r1_hg3 r2_hg3 r3_hg3 r4_hg3
  have r0_hr3 := cell_of_row _ _ 0 _ _ _ hr3
  have r1_hr3 := cell_of_row _ _ 1 _ _ _ hr3
  have r2_hr3 := cell_of_row _ _ 2 _ _ _ hr3
  have r3_hr3 := cell_of_row _ _ 3 _ _ _ hr3
  have r4_hr3 := cell_of_row _ _ 4 _ _ _ hr3
  have f0_hr3 := frozen_of_row _ _ 0 _ _ hr3
  have f1_hr3 := frozen_of_row _ _ 1 _ _ hr3
  have f2_hr3 := frozen_of_row _ _ 2 _ _ hr3
  have f3_hr3 := frozen_of_row _ _ 3 _ _ hr3
  have f4_hr3 := frozen_of_row _ _ 4 _ _ hr3
  simp at r0_hr3 r1_hr3 r2_hr3 r3_hr3 r4_hr3
  clear hg3 hr3
  cases Z
  · go_wp2_with fail
    apply bodyPost_ret (results_row_tmp1 (P := Try.prog) (fn := Try.f100) rfl _ _ _ 91 _ (0, 0) _ rfl _ Try.underlying91 rfl _) rfl
    rotate_left 2
    · repeat (first | (with_reducible apply heap_setCell_same) | (with_reducible apply drew_row) | (with_reducible apply drewN_row) | (with_reducible exact HR3.out) | (with_reducible refine (heap_setCell_other _ _ _ _ (by first | omega | (simp; done) | (simp; omega))).trans ?_) | (with_reducible refine (Below.heap_alloc _ _ _ (by first | omega | (simp; done) | (simp; omega))).trans ?_))
    · kernel_rfl
    exact ⟨by rw [HV.out.1, HV.out.2]; simp, (by repeat (first | with_reducible exact Below.refl _ _ | with_reducible assumption | with_reducible refine Below.drew ?_ | with_reducible refine Below.alloc ?_ (by first | exact Nat.le_refl _ | omega | (simp; done) | (simp; omega)) _ | with_reducible refine Below.setCell ?_ (by first | exact Nat.le_refl _ | omega | (simp; done) | (simp; omega)) _ | (with_reducible refine ext_trans ?_ (by with_reducible assumption))))⟩
  · go_wp2_with fail
    apply bodyPost_ret (results_row_tmp1 (P := Try.prog) (fn := Try.f100) rfl _ _ _ 91 _ (0, 0) _ rfl _ Try.underlying91 rfl _) rfl
    rotate_left 2
    · repeat (first | (with_reducible apply heap_setCell_same) | (with_reducible apply drew_row) | (with_reducible apply drewN_row) | (with_reducible exact HR3.out) | (with_reducible refine (heap_setCell_other _ _ _ _ (by first | omega | (simp; done) | (simp; omega))).trans ?_) | (with_reducible refine (Below.heap_alloc _ _ _ (by first | omega | (simp; done) | (simp; omega))).trans ?_))
    · kernel_rfl
    exact ⟨by rw [HV.out.1, HV.out.2]; simp, (by repeat (first | with_reducible exact Below.refl _ _ | with_reducible assumption | with_reducible refine Below.drew ?_ | with_reducible refine Below.alloc ?_ (by first | exact Nat.le_refl _ | omega | (simp; done) | (simp; omega)) _ | with_reducible refine Below.setCell ?_ (by first | exact Nat.le_refl _ | omega | (simp; done) | (simp; omega)) _ | (with_reducible refine ext_trans ?_ (by with_reducible assumption))))⟩
end Go.Proofs.Yteaniiponikpjaa
