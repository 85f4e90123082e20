/-
  The law FnSip returns true for every input. No condition.
-/
import Derived.Test.YtondhgmlemgoaaaSdr
import Derived.Test.YtondhgmlemgoaaaBytes
import Derived.Test.YtondhgmlemgoaaaUnr
import Derived.Test.YtondhgmlemgoaaaReg
import Derived.Deep.DeepCutAuto
import Derived.Deep.RegionHeld3
namespace Go.Proofs.Ytondhgmlemgoaaa
set_option maxRecDepth 100000
open Go.ChangeShapes Go.WideShapes Go.ChangeAt Go.RowKit Go.Deep
theorem rgBS {W wx : World} (h : (∀ b o, b < W.heap.size → wx.cell? ⟨b, o, none⟩ = W.cell? ⟨b, o, none⟩) ∧ Below W.heap.size W wx) : Below W.heap.size W wx := h.2
theorem unround_back (s : S4) (w : World) : Calls Try.prog 36 #[vS (round s)] w fun e w' => e = .returned (vS s) ∧ Below w.heap.size w w' := by
  have h := unround_any (round s) w
  rw [unround_round] at h
  exact h
theorem word_back (s : S4) (m : BitVec 64) : (⟨(word s m).a ^^^ m, (word s m).b, (word s m).c, (word s m).d⟩ : S4) = round (round (⟨s.a, s.b, s.c, s.d ^^^ m⟩ : S4)) := by
  have h : (word s m).a ^^^ m = (round (round (⟨s.a, s.b, s.c, s.d ^^^ m⟩ : S4))).a := xor_twice _ _
  rw [h]
  rfl
theorem unround_word (s : S4) (m : BitVec 64) (w : World) : Calls Try.prog 36 #[.agg #[.int .u64 (uI ((word s m).a ^^^ m)), .int .u64 (uI (word s m).b), .int .u64 (uI (word s m).c), .int .u64 (uI (word s m).d)]] w fun e w' => e = .returned (vS (round (⟨s.a, s.b, s.c, s.d ^^^ m⟩ : S4))) ∧ Below w.heap.size w w' := by
  have h := unround_any (⟨(word s m).a ^^^ m, (word s m).b, (word s m).c, (word s m).d⟩ : S4) w
  have e : unround (⟨(word s m).a ^^^ m, (word s m).b, (word s m).c, (word s m).d⟩ : S4) = round (⟨s.a, s.b, s.c, s.d ^^^ m⟩ : S4) := by rw [word_back, unround_round]
  rw [e] at h
  exact h
set_option maxHeartbeats 4000000 in
theorem FnSip_walk {A : Option Addr} {n c : Nat} (hn : n ≤ maxLen) (w : World) (hb : Byts w w.heap.size A n) :
    Calls Try.prog 9 #[.slice A n c] w fun e w' => e = .returned (.bool true) ∧ Below w.heap.size w w' := by
  have hlen := hn
  unfold maxLen at hlen
  by_cases hbig : (1048576 : Int) < n
  · go_enter Try.func9, Try.ntmps9
    go_wp2_with fail
    refine (big_any hn _).mono ?_
    rintro e w' ⟨rfl, rfl⟩
    go_wp2_with fail
    go_ret
    exact ⟨rfl, Below.refl _ _⟩
  go_enter Try.func9, Try.ntmps9
  go_wp2_with fail
  refine (big_any hn _).mono ?_
  rintro e w' ⟨rfl, rfl⟩
  go_wp2_with fail
  refine (DrawSipWord_any hn hb).mono ?_
  rintro e w1 ⟨s, m, rfl, hb1⟩
  have hz1 := hb1.size
  (try simp at hz1)
  have hw1 : Below w.heap.size w w1 := (by repeat (first | with_reducible exact Below.refl _ _ | with_reducible assumption | with_reducible refine Below.drew ?_ | with_reducible refine Below.alloc ?_ (by first | exact Nat.le_refl _ | omega | (simp; done) | (simp; omega)) _ | with_reducible refine Below.setCell ?_ (by first | exact Nat.le_refl _ | omega | (simp; done) | (simp; omega)) _ | (with_reducible refine ext_trans ?_ (by with_reducible assumption))))
  go_wp2_with fail
  refine (SipRound_any s _).mono ?_
  rintro e w2 ⟨rfl, hb2⟩
  have hz2 := hb2.size
  (try simp at hz2)
  have rs_2 : w2.heap[w1.heap.size]? = some (.cells #[.int .u64 (uI s.a), .int .u64 (uI s.b), .int .u64 (uI s.c), .int .u64 (uI s.d)] 26 (0, 0)) := (hb2.block _ (by first | (simp; done) | (simp; omega))).trans (by repeat (first | exact heap_new _ _ _ (by first | rfl | (simp; done) | (simp; omega)) | refine (Below.heap_alloc _ _ _ (by first | omega | (simp; done) | (simp; omega))).trans ?_))
  have hw2 : Below w.heap.size w w2 := (by repeat (first | with_reducible exact Below.refl _ _ | with_reducible assumption | with_reducible refine Below.drew ?_ | with_reducible refine Below.alloc ?_ (by first | exact Nat.le_refl _ | omega | (simp; done) | (simp; omega)) _ | with_reducible refine Below.setCell ?_ (by first | exact Nat.le_refl _ | omega | (simp; done) | (simp; omega)) _ | (with_reducible refine ext_trans ?_ (by with_reducible assumption))))
  have lRs_2 : w1.heap.size < w2.heap.size := by omega
  have Rs_2 := Lib.hid rs_2
  have r0_rs_2 := cell_of_row _ _ 0 _ _ _ rs_2
  have r1_rs_2 := cell_of_row _ _ 1 _ _ _ rs_2
  have r2_rs_2 := cell_of_row _ _ 2 _ _ _ rs_2
  have r3_rs_2 := cell_of_row _ _ 3 _ _ _ rs_2
  have f0_rs_2 := frozen_of_row _ _ 0 _ _ rs_2
  have f1_rs_2 := frozen_of_row _ _ 1 _ _ rs_2
  have f2_rs_2 := frozen_of_row _ _ 2 _ _ rs_2
  have f3_rs_2 := frozen_of_row _ _ 3 _ _ rs_2
  simp at r0_rs_2 r1_rs_2 r2_rs_2 r3_rs_2
  clear rs_2
  go_wp2_with fail
  have hb3 : Below w2.heap.size w2 (w2.alloc (.cells #[.int .u64 (uI (round s).a), .int .u64 (uI (round s).b), .int .u64 (uI (round s).c), .int .u64 (uI (round s).d)] 26)) := (by repeat (first | with_reducible exact Below.refl _ _ | with_reducible assumption | with_reducible refine Below.drew ?_ | with_reducible refine Below.alloc ?_ (by first | exact Nat.le_refl _ | omega | (simp; done) | (simp; omega)) _ | with_reducible refine Below.setCell ?_ (by first | exact Nat.le_refl _ | omega | (simp; done) | (simp; omega)) _ | (with_reducible refine ext_trans ?_ (by with_reducible assumption))))
  have rx_3 : (w2.alloc (.cells #[.int .u64 (uI (round s).a), .int .u64 (uI (round s).b), .int .u64 (uI (round s).c), .int .u64 (uI (round s).d)] 26)).heap[w2.heap.size]? = some (.cells #[.int .u64 (uI (round s).a), .int .u64 (uI (round s).b), .int .u64 (uI (round s).c), .int .u64 (uI (round s).d)] 26 (0, 0)) := (by repeat (first | exact heap_new _ _ _ (by first | rfl | (simp; done) | (simp; omega)) | refine (Below.heap_alloc _ _ _ (by first | omega | (simp; done) | (simp; omega))).trans ?_))
  have lNx_3 : w2.heap.size < (w2.alloc (.cells #[.int .u64 (uI (round s).a), .int .u64 (uI (round s).b), .int .u64 (uI (round s).c), .int .u64 (uI (round s).d)] 26)).heap.size := by simp
  generalize (w2.alloc (.cells #[.int .u64 (uI (round s).a), .int .u64 (uI (round s).b), .int .u64 (uI (round s).c), .int .u64 (uI (round s).d)] 26)) = w3 at *
  have hz3 := hb3.size
  (try simp at hz3)
  have rs_3 := (hb3.block _ (by first | omega | (simp; done) | (simp; omega))).trans Rs_2.out
  have hw3 : Below w.heap.size w w3 := (by repeat (first | with_reducible exact Below.refl _ _ | with_reducible assumption | with_reducible refine Below.drew ?_ | with_reducible refine Below.alloc ?_ (by first | exact Nat.le_refl _ | omega | (simp; done) | (simp; omega)) _ | with_reducible refine Below.setCell ?_ (by first | exact Nat.le_refl _ | omega | (simp; done) | (simp; omega)) _ | (with_reducible refine ext_trans ?_ (by with_reducible assumption))))
  have lRs_3 : w1.heap.size < w3.heap.size := by omega
  have lRx_3 : w2.heap.size < w3.heap.size := by omega
  have Rs_3 := Lib.hid rs_3
  have r0_rs_3 := cell_of_row _ _ 0 _ _ _ rs_3
  have r1_rs_3 := cell_of_row _ _ 1 _ _ _ rs_3
  have r2_rs_3 := cell_of_row _ _ 2 _ _ _ rs_3
  have r3_rs_3 := cell_of_row _ _ 3 _ _ _ rs_3
  have f0_rs_3 := frozen_of_row _ _ 0 _ _ rs_3
  have f1_rs_3 := frozen_of_row _ _ 1 _ _ rs_3
  have f2_rs_3 := frozen_of_row _ _ 2 _ _ rs_3
  have f3_rs_3 := frozen_of_row _ _ 3 _ _ rs_3
  simp at r0_rs_3 r1_rs_3 r2_rs_3 r3_rs_3
  clear rs_3
  have Rx_3 := Lib.hid rx_3
  have r0_rx_3 := cell_of_row _ _ 0 _ _ _ rx_3
  have r1_rx_3 := cell_of_row _ _ 1 _ _ _ rx_3
  have r2_rx_3 := cell_of_row _ _ 2 _ _ _ rx_3
  have r3_rx_3 := cell_of_row _ _ 3 _ _ _ rx_3
  have f0_rx_3 := frozen_of_row _ _ 0 _ _ rx_3
  have f1_rx_3 := frozen_of_row _ _ 1 _ _ rx_3
  have f2_rx_3 := frozen_of_row _ _ 2 _ _ rx_3
  have f3_rx_3 := frozen_of_row _ _ 3 _ _ rx_3
  simp at r0_rx_3 r1_rx_3 r2_rx_3 r3_rx_3
  clear rx_3
  clear r0_rs_2 f0_rs_2 r1_rs_2 f1_rs_2 r2_rs_2 f2_rs_2 r3_rs_2 f3_rs_2
  go_wp2_with fail
  go_cut [26] (fun z wx => z = .bool false ∧ Below w3.heap.size w3 wx)
  case first =>
    first | go_region_held3 (fun w' => (∀ b' o, b' < (w3).heap.size → w'.cell? ⟨b', o, none⟩ = (w3).cell? ⟨b', o, none⟩) ∧ Below (w3).heap.size (w3) w') (first | with_reducible assumption | (with_reducible apply rg_keep; rotate_left; with_reducible assumption; with_reducible assumption) | with_reducible exact rg_start _ | with_reducible exact rg_alloc (KeptS.out (by with_reducible assumption)) _ | with_reducible exact rg_alloc (by with_reducible assumption) _ | with_reducible exact rg_start_alloc _ _ | ((repeat (with_reducible refine rg_set ?_ _ (by first | exact Nat.le_refl _ | omega | (simp; done) | (simp; omega)) _)); first | with_reducible exact KeptS.out (by with_reducible assumption) | with_reducible assumption | with_reducible exact rg_alloc (KeptS.out (by with_reducible assumption)) _)) (first | (go_at_call 18; ((with_reducible refine (sSipRound_any s _).mono ?_); (rintro e wA ⟨rfl, hbA⟩; have hSA := rg_keepK (by first | with_reducible assumption | exact KeptS.out (by with_reducible assumption)) hbA))) | (go_at_call 36; ((with_reducible refine (unround_back s _).mono ?_); (rintro e wB ⟨rfl, hbB⟩; have hSB := rg_keepK (by first | with_reducible assumption | exact KeptS.out (by with_reducible assumption)) hbB)))) | fail
    all_goals (go_wp2_with fail; go_meet; exact ⟨rfl, (by assumption : _ ∧ Below w3.heap.size w3 wB).2⟩)
  case rest =>
  obtain ⟨rfl, hb4⟩ := hcut
  rename World => w4
  have hz4 := hb4.size
  (try simp at hz4)
  have rs_4 := (hb4.block _ (by first | omega | (simp; done) | (simp; omega))).trans Rs_3.out
  have rx_4 := (hb4.block _ (by first | omega | (simp; done) | (simp; omega))).trans Rx_3.out
  have hw4 : Below w.heap.size w w4 := (by repeat (first | with_reducible exact Below.refl _ _ | with_reducible assumption | with_reducible refine Below.drew ?_ | with_reducible refine Below.alloc ?_ (by first | exact Nat.le_refl _ | omega | (simp; done) | (simp; omega)) _ | with_reducible refine Below.setCell ?_ (by first | exact Nat.le_refl _ | omega | (simp; done) | (simp; omega)) _ | (with_reducible refine ext_trans ?_ (by with_reducible assumption))))
  have lRs_4 : w1.heap.size < w4.heap.size := by omega
  have lRx_4 : w2.heap.size < w4.heap.size := by omega
  have Rs_4 := Lib.hid rs_4
  have r0_rs_4 := cell_of_row _ _ 0 _ _ _ rs_4
  have r1_rs_4 := cell_of_row _ _ 1 _ _ _ rs_4
  have r2_rs_4 := cell_of_row _ _ 2 _ _ _ rs_4
  have r3_rs_4 := cell_of_row _ _ 3 _ _ _ rs_4
  have f0_rs_4 := frozen_of_row _ _ 0 _ _ rs_4
  have f1_rs_4 := frozen_of_row _ _ 1 _ _ rs_4
  have f2_rs_4 := frozen_of_row _ _ 2 _ _ rs_4
  have f3_rs_4 := frozen_of_row _ _ 3 _ _ rs_4
  simp at r0_rs_4 r1_rs_4 r2_rs_4 r3_rs_4
  clear rs_4
  have Rx_4 := Lib.hid rx_4
  have r0_rx_4 := cell_of_row _ _ 0 _ _ _ rx_4
  have r1_rx_4 := cell_of_row _ _ 1 _ _ _ rx_4
  have r2_rx_4 := cell_of_row _ _ 2 _ _ _ rx_4
  have r3_rx_4 := cell_of_row _ _ 3 _ _ _ rx_4
  have f0_rx_4 := frozen_of_row _ _ 0 _ _ rx_4
  have f1_rx_4 := frozen_of_row _ _ 1 _ _ rx_4
  have f2_rx_4 := frozen_of_row _ _ 2 _ _ rx_4
  have f3_rx_4 := frozen_of_row _ _ 3 _ _ rx_4
  simp at r0_rx_4 r1_rx_4 r2_rx_4 r3_rx_4
  clear rx_4
  clear r0_rs_3 f0_rs_3 r1_rs_3 f1_rs_3 r2_rs_3 f2_rs_3 r3_rs_3 f3_rs_3
  clear r0_rx_3 f0_rx_3 r1_rx_3 f1_rx_3 r2_rx_3 f2_rx_3 r3_rx_3 f3_rx_3
  go_wp2_with fail
  refine (SipWord_any s m _).mono ?_
  rintro e w5 ⟨rfl, hb5⟩
  have hz5 := hb5.size
  (try simp at hz5)
  have rs_5 := (hb5.block _ (by first | omega | (simp; done) | (simp; omega))).trans Rs_4.out
  have rx_5 := (hb5.block _ (by first | omega | (simp; done) | (simp; omega))).trans Rx_4.out
  have hw5 : Below w.heap.size w w5 := (by repeat (first | with_reducible exact Below.refl _ _ | with_reducible assumption | with_reducible refine Below.drew ?_ | with_reducible refine Below.alloc ?_ (by first | exact Nat.le_refl _ | omega | (simp; done) | (simp; omega)) _ | with_reducible refine Below.setCell ?_ (by first | exact Nat.le_refl _ | omega | (simp; done) | (simp; omega)) _ | (with_reducible refine ext_trans ?_ (by with_reducible assumption))))
  have lRs_5 : w1.heap.size < w5.heap.size := by omega
  have lRx_5 : w2.heap.size < w5.heap.size := by omega
  have Rs_5 := Lib.hid rs_5
  have r0_rs_5 := cell_of_row _ _ 0 _ _ _ rs_5
  have r1_rs_5 := cell_of_row _ _ 1 _ _ _ rs_5
  have r2_rs_5 := cell_of_row _ _ 2 _ _ _ rs_5
  have r3_rs_5 := cell_of_row _ _ 3 _ _ _ rs_5
  have f0_rs_5 := frozen_of_row _ _ 0 _ _ rs_5
  have f1_rs_5 := frozen_of_row _ _ 1 _ _ rs_5
  have f2_rs_5 := frozen_of_row _ _ 2 _ _ rs_5
  have f3_rs_5 := frozen_of_row _ _ 3 _ _ rs_5
  simp at r0_rs_5 r1_rs_5 r2_rs_5 r3_rs_5
  clear rs_5
  have Rx_5 := Lib.hid rx_5
  have r0_rx_5 := cell_of_row _ _ 0 _ _ _ rx_5
  have r1_rx_5 := cell_of_row _ _ 1 _ _ _ rx_5
  have r2_rx_5 := cell_of_row _ _ 2 _ _ _ rx_5
  have r3_rx_5 := cell_of_row _ _ 3 _ _ _ rx_5
  have f0_rx_5 := frozen_of_row _ _ 0 _ _ rx_5
  have f1_rx_5 := frozen_of_row _ _ 1 _ _ rx_5
  have f2_rx_5 := frozen_of_row _ _ 2 _ _ rx_5
  have f3_rx_5 := frozen_of_row _ _ 3 _ _ rx_5
  simp at r0_rx_5 r1_rx_5 r2_rx_5 r3_rx_5
  clear rx_5
  clear r0_rs_4 f0_rs_4 r1_rs_4 f1_rs_4 r2_rs_4 f2_rs_4 r3_rs_4 f3_rs_4
  clear r0_rx_4 f0_rx_4 r1_rx_4 f1_rx_4 r2_rx_4 f2_rx_4 r3_rx_4 f3_rx_4
  have hxr := uI_xor
  have hx4 : s.d ^^^ m ^^^ m = s.d := xor_twice _ _
  go_wp2_with fail
  refine (unround_word s m _).mono ?_
  rintro e w6 ⟨rfl, hb6⟩
  have hz6 := hb6.size
  (try simp at hz6)
  have rs_6 := (hb6.block _ (by first | omega | (simp; done) | (simp; omega))).trans ((Below.heap_alloc _ _ _ (by first | exact lRs_5 | (simp; omega))).trans ((Below.heap_alloc _ _ _ (by first | exact lRs_5 | (simp; omega))).trans Rs_5.out))
  have rx_6 := (hb6.block _ (by first | omega | (simp; done) | (simp; omega))).trans ((Below.heap_alloc _ _ _ (by first | exact lRx_5 | (simp; omega))).trans ((Below.heap_alloc _ _ _ (by first | exact lRx_5 | (simp; omega))).trans Rx_5.out))
  have ru_6 : w6.heap[w5.heap.size]? = some (.cells #[.int .u64 (uI (word s m).a), .int .u64 (uI (word s m).b), .int .u64 (uI (word s m).c), .int .u64 (uI (word s m).d)] 26 (0, 0)) := (hb6.block _ (by first | (simp; done) | (simp; omega))).trans (by repeat (first | exact heap_new _ _ _ (by first | rfl | (simp; done) | (simp; omega)) | refine (Below.heap_alloc _ _ _ (by first | omega | (simp; done) | (simp; omega))).trans ?_))
  have rv_6 : w6.heap[w5.heap.size + 1]? = some (.cells #[.int .u64 (uI ((word s m).a ^^^ m)), .int .u64 (uI (word s m).b), .int .u64 (uI (word s m).c), .int .u64 (uI (word s m).d)] 26 (0, 0)) := (hb6.block _ (by first | (simp; done) | (simp; omega))).trans (by repeat (first | exact heap_new _ _ _ (by first | rfl | (simp; done) | (simp; omega)) | refine (Below.heap_alloc _ _ _ (by first | omega | (simp; done) | (simp; omega))).trans ?_))
  have hw6 : Below w.heap.size w w6 := (by repeat (first | with_reducible exact Below.refl _ _ | with_reducible assumption | with_reducible refine Below.drew ?_ | with_reducible refine Below.alloc ?_ (by first | exact Nat.le_refl _ | omega | (simp; done) | (simp; omega)) _ | with_reducible refine Below.setCell ?_ (by first | exact Nat.le_refl _ | omega | (simp; done) | (simp; omega)) _ | (with_reducible refine ext_trans ?_ (by with_reducible assumption))))
  have lRs_6 : w1.heap.size < w6.heap.size := by omega
  have lRx_6 : w2.heap.size < w6.heap.size := by omega
  have lRu_6 : w5.heap.size < w6.heap.size := by omega
  have lRv_6 : w5.heap.size + 1 < w6.heap.size := by omega
  have Rs_6 := Lib.hid rs_6
  have r0_rs_6 := cell_of_row _ _ 0 _ _ _ rs_6
  have r1_rs_6 := cell_of_row _ _ 1 _ _ _ rs_6
  have r2_rs_6 := cell_of_row _ _ 2 _ _ _ rs_6
  have r3_rs_6 := cell_of_row _ _ 3 _ _ _ rs_6
  have f0_rs_6 := frozen_of_row _ _ 0 _ _ rs_6
  have f1_rs_6 := frozen_of_row _ _ 1 _ _ rs_6
  have f2_rs_6 := frozen_of_row _ _ 2 _ _ rs_6
  have f3_rs_6 := frozen_of_row _ _ 3 _ _ rs_6
  simp at r0_rs_6 r1_rs_6 r2_rs_6 r3_rs_6
  clear rs_6
  have Rx_6 := Lib.hid rx_6
  have r0_rx_6 := cell_of_row _ _ 0 _ _ _ rx_6
  have r1_rx_6 := cell_of_row _ _ 1 _ _ _ rx_6
  have r2_rx_6 := cell_of_row _ _ 2 _ _ _ rx_6
  have r3_rx_6 := cell_of_row _ _ 3 _ _ _ rx_6
  have f0_rx_6 := frozen_of_row _ _ 0 _ _ rx_6
  have f1_rx_6 := frozen_of_row _ _ 1 _ _ rx_6
  have f2_rx_6 := frozen_of_row _ _ 2 _ _ rx_6
  have f3_rx_6 := frozen_of_row _ _ 3 _ _ rx_6
  simp at r0_rx_6 r1_rx_6 r2_rx_6 r3_rx_6
  clear rx_6
  have Ru_6 := Lib.hid ru_6
  have r0_ru_6 := cell_of_row _ _ 0 _ _ _ ru_6
  have r1_ru_6 := cell_of_row _ _ 1 _ _ _ ru_6
  have r2_ru_6 := cell_of_row _ _ 2 _ _ _ ru_6
  have r3_ru_6 := cell_of_row _ _ 3 _ _ _ ru_6
  have f0_ru_6 := frozen_of_row _ _ 0 _ _ ru_6
  have f1_ru_6 := frozen_of_row _ _ 1 _ _ ru_6
  have f2_ru_6 := frozen_of_row _ _ 2 _ _ ru_6
  have f3_ru_6 := frozen_of_row _ _ 3 _ _ ru_6
  simp at r0_ru_6 r1_ru_6 r2_ru_6 r3_ru_6
  clear ru_6
  have Rv_6 := Lib.hid rv_6
  have r0_rv_6 := cell_of_row _ _ 0 _ _ _ rv_6
  have r1_rv_6 := cell_of_row _ _ 1 _ _ _ rv_6
  have r2_rv_6 := cell_of_row _ _ 2 _ _ _ rv_6
  have r3_rv_6 := cell_of_row _ _ 3 _ _ _ rv_6
  have f0_rv_6 := frozen_of_row _ _ 0 _ _ rv_6
  have f1_rv_6 := frozen_of_row _ _ 1 _ _ rv_6
  have f2_rv_6 := frozen_of_row _ _ 2 _ _ rv_6
  have f3_rv_6 := frozen_of_row _ _ 3 _ _ rv_6
  simp at r0_rv_6 r1_rv_6 r2_rv_6 r3_rv_6
  clear rv_6
  clear r0_rs_5 f0_rs_5 r1_rs_5 f1_rs_5 r2_rs_5 f2_rs_5 r3_rs_5 f3_rs_5
  clear r0_rx_5 f0_rx_5 r1_rx_5 f1_rx_5 r2_rx_5 f2_rx_5 r3_rx_5 f3_rx_5
  go_wp2_with fail
  refine (unround_back (⟨s.a, s.b, s.c, s.d ^^^ m⟩ : S4) _).mono ?_
  rintro e w7 ⟨rfl, hb7⟩
  have hz7 := hb7.size
  (try simp at hz7)
  have rs_7 := (hb7.block _ (by first | omega | (simp; done) | (simp; omega))).trans Rs_6.out
  have rx_7 := (hb7.block _ (by first | omega | (simp; done) | (simp; omega))).trans Rx_6.out
  have ru_7 := (hb7.block _ (by first | omega | (simp; done) | (simp; omega))).trans Ru_6.out
  have rv_7 := (hb7.block _ (by first | omega | (simp; done) | (simp; omega))).trans Rv_6.out
  have hw7 : Below w.heap.size w w7 := (by repeat (first | with_reducible exact Below.refl _ _ | with_reducible assumption | with_reducible refine Below.drew ?_ | with_reducible refine Below.alloc ?_ (by first | exact Nat.le_refl _ | omega | (simp; done) | (simp; omega)) _ | with_reducible refine Below.setCell ?_ (by first | exact Nat.le_refl _ | omega | (simp; done) | (simp; omega)) _ | (with_reducible refine ext_trans ?_ (by with_reducible assumption))))
  have lRs_7 : w1.heap.size < w7.heap.size := by omega
  have lRx_7 : w2.heap.size < w7.heap.size := by omega
  have lRu_7 : w5.heap.size < w7.heap.size := by omega
  have lRv_7 : w5.heap.size + 1 < w7.heap.size := by omega
  have Rs_7 := Lib.hid rs_7
  have r0_rs_7 := cell_of_row _ _ 0 _ _ _ rs_7
  have r1_rs_7 := cell_of_row _ _ 1 _ _ _ rs_7
  have r2_rs_7 := cell_of_row _ _ 2 _ _ _ rs_7
  have r3_rs_7 := cell_of_row _ _ 3 _ _ _ rs_7
  have f0_rs_7 := frozen_of_row _ _ 0 _ _ rs_7
  have f1_rs_7 := frozen_of_row _ _ 1 _ _ rs_7
  have f2_rs_7 := frozen_of_row _ _ 2 _ _ rs_7
  have f3_rs_7 := frozen_of_row _ _ 3 _ _ rs_7
  simp at r0_rs_7 r1_rs_7 r2_rs_7 r3_rs_7
  clear rs_7
  have Rx_7 := Lib.hid rx_7
  have r0_rx_7 := cell_of_row _ _ 0 _ _ _ rx_7
  have r1_rx_7 := cell_of_row _ _ 1 _ _ _ rx_7
  have r2_rx_7 := cell_of_row _ _ 2 _ _ _ rx_7
  have r3_rx_7 := cell_of_row _ _ 3 _ _ _ rx_7
  have f0_rx_7 := frozen_of_row _ _ 0 _ _ rx_7
  have f1_rx_7 := frozen_of_row _ _ 1 _ _ rx_7
  have f2_rx_7 := frozen_of_row _ _ 2 _ _ rx_7
  have f3_rx_7 := frozen_of_row _ _ 3 _ _ rx_7
  simp at r0_rx_7 r1_rx_7 r2_rx_7 r3_rx_7
  clear rx_7
  have Ru_7 := Lib.hid ru_7
  have r0_ru_7 := cell_of_row _ _ 0 _ _ _ ru_7
  have r1_ru_7 := cell_of_row _ _ 1 _ _ _ ru_7
  have r2_ru_7 := cell_of_row _ _ 2 _ _ _ ru_7
  have r3_ru_7 := cell_of_row _ _ 3 _ _ _ ru_7
  have f0_ru_7 := frozen_of_row _ _ 0 _ _ ru_7
  have f1_ru_7 := frozen_of_row _ _ 1 _ _ ru_7
  have f2_ru_7 := frozen_of_row _ _ 2 _ _ ru_7
  have f3_ru_7 := frozen_of_row _ _ 3 _ _ ru_7
  simp at r0_ru_7 r1_ru_7 r2_ru_7 r3_ru_7
  clear ru_7
  have Rv_7 := Lib.hid rv_7
  have r0_rv_7 := cell_of_row _ _ 0 _ _ _ rv_7
  have r1_rv_7 := cell_of_row _ _ 1 _ _ _ rv_7
  have r2_rv_7 := cell_of_row _ _ 2 _ _ _ rv_7
  have r3_rv_7 := cell_of_row _ _ 3 _ _ _ rv_7
  have f0_rv_7 := frozen_of_row _ _ 0 _ _ rv_7
  have f1_rv_7 := frozen_of_row _ _ 1 _ _ rv_7
  have f2_rv_7 := frozen_of_row _ _ 2 _ _ rv_7
  have f3_rv_7 := frozen_of_row _ _ 3 _ _ rv_7
  simp at r0_rv_7 r1_rv_7 r2_rv_7 r3_rv_7
  clear rv_7
  clear r0_rs_6 f0_rs_6 r1_rs_6 f1_rs_6 r2_rs_6 f2_rs_6 r3_rs_6 f3_rs_6
  clear r0_rx_6 f0_rx_6 r1_rx_6 f1_rx_6 r2_rx_6 f2_rx_6 r3_rx_6 f3_rx_6
  clear r0_ru_6 f0_ru_6 r1_ru_6 f1_ru_6 r2_ru_6 f2_ru_6 r3_ru_6 f3_ru_6
  clear r0_rv_6 f0_rv_6 r1_rv_6 f1_rv_6 r2_rv_6 f2_rv_6 r3_rv_6 f3_rv_6
  go_wp2_with fail
  have hw8 : Below w.heap.size w (((((w7.setCell ⟨w5.heap.size + 1, 0, none⟩ (.int .u64 (uI s.a))).setCell ⟨w5.heap.size + 1, 1, none⟩ (.int .u64 (uI s.b))).setCell ⟨w5.heap.size + 1, 2, none⟩ (.int .u64 (uI s.c))).setCell ⟨w5.heap.size + 1, 3, none⟩ (.int .u64 (uI (s.d ^^^ m)))).setCell ⟨w5.heap.size + 1, 3, none⟩ (.int .u64 (uI s.d))) := (by repeat (first | with_reducible exact Below.refl _ _ | with_reducible assumption | with_reducible refine Below.drew ?_ | with_reducible refine Below.alloc ?_ (by first | exact Nat.le_refl _ | omega | (simp; done) | (simp; omega)) _ | with_reducible refine Below.setCell ?_ (by first | exact Nat.le_refl _ | omega | (simp; done) | (simp; omega)) _ | (with_reducible refine ext_trans ?_ (by with_reducible assumption))))
  have hz8 : w7.heap.size = (((((w7.setCell ⟨w5.heap.size + 1, 0, none⟩ (.int .u64 (uI s.a))).setCell ⟨w5.heap.size + 1, 1, none⟩ (.int .u64 (uI s.b))).setCell ⟨w5.heap.size + 1, 2, none⟩ (.int .u64 (uI s.c))).setCell ⟨w5.heap.size + 1, 3, none⟩ (.int .u64 (uI (s.d ^^^ m)))).setCell ⟨w5.heap.size + 1, 3, none⟩ (.int .u64 (uI s.d))).heap.size := by simp
  have rs_8 : (((((w7.setCell ⟨w5.heap.size + 1, 0, none⟩ (.int .u64 (uI s.a))).setCell ⟨w5.heap.size + 1, 1, none⟩ (.int .u64 (uI s.b))).setCell ⟨w5.heap.size + 1, 2, none⟩ (.int .u64 (uI s.c))).setCell ⟨w5.heap.size + 1, 3, none⟩ (.int .u64 (uI (s.d ^^^ m)))).setCell ⟨w5.heap.size + 1, 3, none⟩ (.int .u64 (uI s.d))).heap[w1.heap.size]? = some (.cells #[.int .u64 (uI s.a), .int .u64 (uI s.b), .int .u64 (uI s.c), .int .u64 (uI s.d)] 26 (0, 0)) := ((heap_setCell_other _ _ _ _ (by first | omega | (simp; done) | (simp; omega))).trans ((heap_setCell_other _ _ _ _ (by first | omega | (simp; done) | (simp; omega))).trans ((heap_setCell_other _ _ _ _ (by first | omega | (simp; done) | (simp; omega))).trans ((heap_setCell_other _ _ _ _ (by first | omega | (simp; done) | (simp; omega))).trans ((heap_setCell_other _ _ _ _ (by first | omega | (simp; done) | (simp; omega))).trans Rs_7.out)))))
  have rx_8 : (((((w7.setCell ⟨w5.heap.size + 1, 0, none⟩ (.int .u64 (uI s.a))).setCell ⟨w5.heap.size + 1, 1, none⟩ (.int .u64 (uI s.b))).setCell ⟨w5.heap.size + 1, 2, none⟩ (.int .u64 (uI s.c))).setCell ⟨w5.heap.size + 1, 3, none⟩ (.int .u64 (uI (s.d ^^^ m)))).setCell ⟨w5.heap.size + 1, 3, none⟩ (.int .u64 (uI s.d))).heap[w2.heap.size]? = some (.cells #[.int .u64 (uI (round s).a), .int .u64 (uI (round s).b), .int .u64 (uI (round s).c), .int .u64 (uI (round s).d)] 26 (0, 0)) := ((heap_setCell_other _ _ _ _ (by first | omega | (simp; done) | (simp; omega))).trans ((heap_setCell_other _ _ _ _ (by first | omega | (simp; done) | (simp; omega))).trans ((heap_setCell_other _ _ _ _ (by first | omega | (simp; done) | (simp; omega))).trans ((heap_setCell_other _ _ _ _ (by first | omega | (simp; done) | (simp; omega))).trans ((heap_setCell_other _ _ _ _ (by first | omega | (simp; done) | (simp; omega))).trans Rx_7.out)))))
  have ru_8 : (((((w7.setCell ⟨w5.heap.size + 1, 0, none⟩ (.int .u64 (uI s.a))).setCell ⟨w5.heap.size + 1, 1, none⟩ (.int .u64 (uI s.b))).setCell ⟨w5.heap.size + 1, 2, none⟩ (.int .u64 (uI s.c))).setCell ⟨w5.heap.size + 1, 3, none⟩ (.int .u64 (uI (s.d ^^^ m)))).setCell ⟨w5.heap.size + 1, 3, none⟩ (.int .u64 (uI s.d))).heap[w5.heap.size]? = some (.cells #[.int .u64 (uI (word s m).a), .int .u64 (uI (word s m).b), .int .u64 (uI (word s m).c), .int .u64 (uI (word s m).d)] 26 (0, 0)) := ((heap_setCell_other _ _ _ _ (by first | omega | (simp; done) | (simp; omega))).trans ((heap_setCell_other _ _ _ _ (by first | omega | (simp; done) | (simp; omega))).trans ((heap_setCell_other _ _ _ _ (by first | omega | (simp; done) | (simp; omega))).trans ((heap_setCell_other _ _ _ _ (by first | omega | (simp; done) | (simp; omega))).trans ((heap_setCell_other _ _ _ _ (by first | omega | (simp; done) | (simp; omega))).trans Ru_7.out)))))
  have rv_8 : (((((w7.setCell ⟨w5.heap.size + 1, 0, none⟩ (.int .u64 (uI s.a))).setCell ⟨w5.heap.size + 1, 1, none⟩ (.int .u64 (uI s.b))).setCell ⟨w5.heap.size + 1, 2, none⟩ (.int .u64 (uI s.c))).setCell ⟨w5.heap.size + 1, 3, none⟩ (.int .u64 (uI (s.d ^^^ m)))).setCell ⟨w5.heap.size + 1, 3, none⟩ (.int .u64 (uI s.d))).heap[w5.heap.size + 1]? = some (.cells #[.int .u64 (uI s.a), .int .u64 (uI s.b), .int .u64 (uI s.c), .int .u64 (uI s.d)] 26 (0, 0)) := (heap_setCell_same _ _ 3 _ _ _ (heap_setCell_same _ _ 3 _ _ _ (heap_setCell_same _ _ 2 _ _ _ (heap_setCell_same _ _ 1 _ _ _ (heap_setCell_same _ _ 0 _ _ _ Rv_7.out))))).trans (by simp)
  generalize (((((w7.setCell ⟨w5.heap.size + 1, 0, none⟩ (.int .u64 (uI s.a))).setCell ⟨w5.heap.size + 1, 1, none⟩ (.int .u64 (uI s.b))).setCell ⟨w5.heap.size + 1, 2, none⟩ (.int .u64 (uI s.c))).setCell ⟨w5.heap.size + 1, 3, none⟩ (.int .u64 (uI (s.d ^^^ m)))).setCell ⟨w5.heap.size + 1, 3, none⟩ (.int .u64 (uI s.d))) = w8 at *
  have lRs_8 : w1.heap.size < w8.heap.size := by omega
  have lRx_8 : w2.heap.size < w8.heap.size := by omega
  have lRu_8 : w5.heap.size < w8.heap.size := by omega
  have lRv_8 : w5.heap.size + 1 < w8.heap.size := by omega
  have Rs_8 := Lib.hid rs_8
  have r0_rs_8 := cell_of_row _ _ 0 _ _ _ rs_8
  have r1_rs_8 := cell_of_row _ _ 1 _ _ _ rs_8
  have r2_rs_8 := cell_of_row _ _ 2 _ _ _ rs_8
  have r3_rs_8 := cell_of_row _ _ 3 _ _ _ rs_8
  have f0_rs_8 := frozen_of_row _ _ 0 _ _ rs_8
  have f1_rs_8 := frozen_of_row _ _ 1 _ _ rs_8
  have f2_rs_8 := frozen_of_row _ _ 2 _ _ rs_8
  have f3_rs_8 := frozen_of_row _ _ 3 _ _ rs_8
  simp at r0_rs_8 r1_rs_8 r2_rs_8 r3_rs_8
  clear rs_8
  have Rx_8 := Lib.hid rx_8
  have r0_rx_8 := cell_of_row _ _ 0 _ _ _ rx_8
  have r1_rx_8 := cell_of_row _ _ 1 _ _ _ rx_8
  have r2_rx_8 := cell_of_row _ _ 2 _ _ _ rx_8
  have r3_rx_8 := cell_of_row _ _ 3 _ _ _ rx_8
  have f0_rx_8 := frozen_of_row _ _ 0 _ _ rx_8
  have f1_rx_8 := frozen_of_row _ _ 1 _ _ rx_8
  have f2_rx_8 := frozen_of_row _ _ 2 _ _ rx_8
  have f3_rx_8 := frozen_of_row _ _ 3 _ _ rx_8
  simp at r0_rx_8 r1_rx_8 r2_rx_8 r3_rx_8
  clear rx_8
  have Ru_8 := Lib.hid ru_8
  have r0_ru_8 := cell_of_row _ _ 0 _ _ _ ru_8
  have r1_ru_8 := cell_of_row _ _ 1 _ _ _ ru_8
  have r2_ru_8 := cell_of_row _ _ 2 _ _ _ ru_8
  have r3_ru_8 := cell_of_row _ _ 3 _ _ _ ru_8
  have f0_ru_8 := frozen_of_row _ _ 0 _ _ ru_8
  have f1_ru_8 := frozen_of_row _ _ 1 _ _ ru_8
  have f2_ru_8 := frozen_of_row _ _ 2 _ _ ru_8
  have f3_ru_8 := frozen_of_row _ _ 3 _ _ ru_8
  simp at r0_ru_8 r1_ru_8 r2_ru_8 r3_ru_8
  clear ru_8
  have Rv_8 := Lib.hid rv_8
  have r0_rv_8 := cell_of_row _ _ 0 _ _ _ rv_8
  have r1_rv_8 := cell_of_row _ _ 1 _ _ _ rv_8
  have r2_rv_8 := cell_of_row _ _ 2 _ _ _ rv_8
  have r3_rv_8 := cell_of_row _ _ 3 _ _ _ rv_8
  have f0_rv_8 := frozen_of_row _ _ 0 _ _ rv_8
  have f1_rv_8 := frozen_of_row _ _ 1 _ _ rv_8
  have f2_rv_8 := frozen_of_row _ _ 2 _ _ rv_8
  have f3_rv_8 := frozen_of_row _ _ 3 _ _ rv_8
  simp at r0_rv_8 r1_rv_8 r2_rv_8 r3_rv_8
  clear rv_8
  clear r0_rs_7 f0_rs_7 r1_rs_7 f1_rs_7 r2_rs_7 f2_rs_7 r3_rs_7 f3_rs_7
  clear r0_rx_7 f0_rx_7 r1_rx_7 f1_rx_7 r2_rx_7 f2_rx_7 r3_rx_7 f3_rx_7
  clear r0_ru_7 f0_ru_7 r1_ru_7 f1_ru_7 r2_ru_7 f2_ru_7 r3_ru_7 f3_ru_7
  clear r0_rv_7 f0_rv_7 r1_rv_7 f1_rv_7 r2_rv_7 f2_rv_7 r3_rv_7 f3_rv_7
  clear hxr hx4
  go_wp2_with fail
  go_cut [2] (fun z wx => z = .bool true ∧ Below w8.heap.size w8 wx)
  case first =>
    first | go_region_held3 (fun w' => (∀ b' o, b' < (w8).heap.size → w'.cell? ⟨b', o, none⟩ = (w8).cell? ⟨b', o, none⟩) ∧ Below (w8).heap.size (w8) w') (first | with_reducible assumption | (with_reducible apply rg_keep; rotate_left; with_reducible assumption; with_reducible assumption) | with_reducible exact rg_start _ | with_reducible exact rg_alloc (KeptS.out (by with_reducible assumption)) _ | with_reducible exact rg_alloc (by with_reducible assumption) _ | with_reducible exact rg_start_alloc _ _ | ((repeat (with_reducible refine rg_set ?_ _ (by first | exact Nat.le_refl _ | omega | (simp; done) | (simp; omega)) _)); first | with_reducible exact KeptS.out (by with_reducible assumption) | with_reducible assumption | with_reducible exact rg_alloc (KeptS.out (by with_reducible assumption)) _)) (first | (go_at_call 21; ((with_reducible refine (sSipWord_any s m _).mono ?_); (rintro e wC ⟨rfl, hbC⟩; have hSC := rg_keepK (by first | with_reducible assumption | exact KeptS.out (by with_reducible assumption)) hbC)))) | fail
    all_goals (go_wp2_with fail; go_meet; exact ⟨rfl, (by assumption : _ ∧ Below w8.heap.size w8 wC).2⟩)
  case rest =>
  obtain ⟨rfl, hb9⟩ := hcut
  rename World => w9
  have hz9 := hb9.size
  (try simp at hz9)
  have rs_9 := (hb9.block _ (by first | omega | (simp; done) | (simp; omega))).trans Rs_8.out
  have rx_9 := (hb9.block _ (by first | omega | (simp; done) | (simp; omega))).trans Rx_8.out
  have ru_9 := (hb9.block _ (by first | omega | (simp; done) | (simp; omega))).trans Ru_8.out
  have rv_9 := (hb9.block _ (by first | omega | (simp; done) | (simp; omega))).trans Rv_8.out
  have hw9 : Below w.heap.size w w9 := (by repeat (first | with_reducible exact Below.refl _ _ | with_reducible assumption | with_reducible refine Below.drew ?_ | with_reducible refine Below.alloc ?_ (by first | exact Nat.le_refl _ | omega | (simp; done) | (simp; omega)) _ | with_reducible refine Below.setCell ?_ (by first | exact Nat.le_refl _ | omega | (simp; done) | (simp; omega)) _ | (with_reducible refine ext_trans ?_ (by with_reducible assumption))))
  have lRs_9 : w1.heap.size < w9.heap.size := by omega
  have lRx_9 : w2.heap.size < w9.heap.size := by omega
  have lRu_9 : w5.heap.size < w9.heap.size := by omega
  have lRv_9 : w5.heap.size + 1 < w9.heap.size := by omega
  have Rs_9 := Lib.hid rs_9
  have r0_rs_9 := cell_of_row _ _ 0 _ _ _ rs_9
  have r1_rs_9 := cell_of_row _ _ 1 _ _ _ rs_9
  have r2_rs_9 := cell_of_row _ _ 2 _ _ _ rs_9
  have r3_rs_9 := cell_of_row _ _ 3 _ _ _ rs_9
  have f0_rs_9 := frozen_of_row _ _ 0 _ _ rs_9
  have f1_rs_9 := frozen_of_row _ _ 1 _ _ rs_9
  have f2_rs_9 := frozen_of_row _ _ 2 _ _ rs_9
  have f3_rs_9 := frozen_of_row _ _ 3 _ _ rs_9
  simp at r0_rs_9 r1_rs_9 r2_rs_9 r3_rs_9
  clear rs_9
  have Rx_9 := Lib.hid rx_9
  have r0_rx_9 := cell_of_row _ _ 0 _ _ _ rx_9
  have r1_rx_9 := cell_of_row _ _ 1 _ _ _ rx_9
  have r2_rx_9 := cell_of_row _ _ 2 _ _ _ rx_9
  have r3_rx_9 := cell_of_row _ _ 3 _ _ _ rx_9
  have f0_rx_9 := frozen_of_row _ _ 0 _ _ rx_9
  have f1_rx_9 := frozen_of_row _ _ 1 _ _ rx_9
  have f2_rx_9 := frozen_of_row _ _ 2 _ _ rx_9
  have f3_rx_9 := frozen_of_row _ _ 3 _ _ rx_9
  simp at r0_rx_9 r1_rx_9 r2_rx_9 r3_rx_9
  clear rx_9
  have Ru_9 := Lib.hid ru_9
  have r0_ru_9 := cell_of_row _ _ 0 _ _ _ ru_9
  have r1_ru_9 := cell_of_row _ _ 1 _ _ _ ru_9
  have r2_ru_9 := cell_of_row _ _ 2 _ _ _ ru_9
  have r3_ru_9 := cell_of_row _ _ 3 _ _ _ ru_9
  have f0_ru_9 := frozen_of_row _ _ 0 _ _ ru_9
  have f1_ru_9 := frozen_of_row _ _ 1 _ _ ru_9
  have f2_ru_9 := frozen_of_row _ _ 2 _ _ ru_9
  have f3_ru_9 := frozen_of_row _ _ 3 _ _ ru_9
  simp at r0_ru_9 r1_ru_9 r2_ru_9 r3_ru_9
  clear ru_9
  have Rv_9 := Lib.hid rv_9
  have r0_rv_9 := cell_of_row _ _ 0 _ _ _ rv_9
  have r1_rv_9 := cell_of_row _ _ 1 _ _ _ rv_9
  have r2_rv_9 := cell_of_row _ _ 2 _ _ _ rv_9
  have r3_rv_9 := cell_of_row _ _ 3 _ _ _ rv_9
  have f0_rv_9 := frozen_of_row _ _ 0 _ _ rv_9
  have f1_rv_9 := frozen_of_row _ _ 1 _ _ rv_9
  have f2_rv_9 := frozen_of_row _ _ 2 _ _ rv_9
  have f3_rv_9 := frozen_of_row _ _ 3 _ _ rv_9
  simp at r0_rv_9 r1_rv_9 r2_rv_9 r3_rv_9
  clear rv_9
  clear r0_rs_8 f0_rs_8 r1_rs_8 f1_rs_8 r2_rs_8 f2_rs_8 r3_rs_8 f3_rs_8
  clear r0_rx_8 f0_rx_8 r1_rx_8 f1_rx_8 r2_rx_8 f2_rx_8 r3_rx_8 f3_rx_8
  clear r0_ru_8 f0_ru_8 r1_ru_8 f1_ru_8 r2_ru_8 f2_ru_8 r3_ru_8 f3_ru_8
  clear r0_rv_8 f0_rv_8 r1_rv_8 f1_rv_8 r2_rv_8 f2_rv_8 r3_rv_8 f3_rv_8
  go_wp2_with fail
  go_ret
  exact ⟨rfl, hw9⟩

set_option maxRecDepth 100000 in
theorem FnSip_lifted (os : Os) (started : os.Started) (H : Type) (enc : TypeId × Value → H) :
    ReturnsInHanded {} Try.checked os 9 .any (Rows.fnSipSpec.pre6 enc Try.prog Try.f9 Rows.fnSipRow.domain false) (Rows.fnSipSpec.post enc Try.prog Try.f9 false true false false) := by
  refine law_lifted (C := Try.checked) own_ started (by kernel_rfl) Try.func9 laid_ rfl ?_ ?_ rfl Try.underlying4
    (ChangeSpec.witness6 (enc := enc) (C := Try.checked) false ⟨#[], #[.slice none 0 0], []⟩ 8 (by kernel_rfl) (by kernel_rfl) (by kernel_rfl) (by kernel_rfl)) ?_
  · intro ds h
    match ds, h with
    | [_], _ => rfl
  · intro t ht
    rw [Try.params9] at ht
    simp at ht
    subst ht
    exact ⟨by kernel_rfl, of_decide_eq_true (by kernel_rfl)⟩
  · intro W base args ds p hval hA hlt
    have hval : ∀ (j : Nat) t v, Try.f9.params[j]? = some t → args[j]? = some v → Value.okWide Try.prog W .any base t v := hval
    have hA : DataW.TrodAll enc Try.prog W 0 (fun _ => true) true Try.f9.params.toList args.toList ds p := hA
    rw [Try.params9] at hA hval
    obtain ⟨v0, d0, rfl, rfl, h0⟩ := trodAll_one hA
    obtain ⟨Aa, na, ca, rfl, wna, wba, wca⟩ := open_bytes (hval 0 48 v0 rfl rfl) h0
    exact FnSip_walk wna W wba

theorem FnSip_holds : Rows.FnSipSaid :=
  OpenClaim.holds_of_wide 9 Try.f9 rfl rfl rfl rfl rfl rfl rfl ⟨rfl, rfl, rfl, rfl, rfl⟩ rfl rfl rfl rfl rfl (by kernel_rfl) Try.func9 (by kernel_rfl)
    (of_decide_eq_true (by kernel_rfl)) (by have hw := wrap_ (P := Try.prog) (fn := Try.f9) (by kernel_rfl); exact hw)
    (fun os started H enc _ => FnSip_lifted os started H enc)
end Go.Proofs.Ytondhgmlemgoaaa
