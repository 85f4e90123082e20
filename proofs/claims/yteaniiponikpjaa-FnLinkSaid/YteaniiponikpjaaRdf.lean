/-
  Contracts of ReadFrame, the program's and the reference's.
-/
import Derived.Test.YteaniiponikpjaaPkt
import Derived.Test.YteaniiponikpjaaGet
import Derived.Test.YteaniiponikpjaaStr
import Derived.Test.YteaniiponikpjaaRgt
import Derived.Test.YteaniiponikpjaaDraw
namespace Go.Proofs.Yteaniiponikpjaa
set_option maxRecDepth 100000
open Go.ChangeShapes Go.WideShapes Go.ChangeAt Go.RowKit Go.Deep

theorem be_snoc (k : Nat) (n : Int) (b : UInt8) (_hn : 0 ≤ n) : be (k + 1) (n * 256 + (b.toNat : Int)) = be k n ++ [b] := by
  have hb : b.toNat < 256 := b.toNat_lt
  have e1 : (n * 256 + (b.toNat : Int)) / 256 = n := by omega
  have e2 : ((n * 256 + (b.toNat : Int)) % 256).toNat = b.toNat := by omega
  rw [be, e1, e2, UInt8.ofNat_toNat]
theorem be_beL : ∀ (k : Nat) (l : List UInt8), l.length = k → be k (beL l) = l
  | 0, l, h => by
    rw [List.eq_nil_of_length_eq_zero h]
    rfl
  | k + 1, l, h => by
    obtain ⟨l', b, rfl⟩ : ∃ l' b, l = l' ++ [b] := ⟨l.dropLast, l.getLast (fun e => by subst e; simp at h), (List.dropLast_concat_getLast _).symm⟩
    have hl : l'.length = k := by simpa using h
    rw [beL_snoc, be_snoc k _ b (beL_bd k l' hl).1, be_beL k l' hl]
theorem beS_getW {s : ByteArray} {a k : Nat} (h : a + k ≤ s.size) : (beS k (getW s a k)).data.toList = (s.data.toList.drop a).take k := by
  have hl : ((s.data.toList.drop a).take k).length = k := by
    rw [List.length_take, List.length_drop, Array.length_toList]
    exact Nat.min_eq_left (by have : s.size = s.data.size := rfl; omega)
  show (be k (beL _)).toArray.toList = _
  rw [be_beL k _ hl]
theorem ba_ext {a b : ByteArray} (h : a.data.toList = b.data.toList) : a = b := ByteArray.ext (Array.toList_inj.1 h)
theorem ext_list (s : ByteArray) (a : Nat) : (s.extract a s.size).data.toList = s.data.toList.drop a := by
  rw [ByteArray.data_extract, Array.toList_extract]
  exact List.take_of_length_le (by rw [List.length_drop, Array.length_toList]; exact Nat.le_refl _)
theorem frame_of {s : ByteArray} (h : 14 ≤ s.size) (hf : frameB (getW s 0 6) (getW s 6 6) (getW s 12 2) (s.extract 14 s.size) = true) : frameS (getW s 0 6) (getW s 6 6) (getW s 12 2) (s.extract 14 s.size) = s := by
  unfold frameS
  rw [if_pos hf]
  apply ba_ext
  simp only [ByteArray.data_append, Array.toList_append, beS_getW (show 0 + 6 ≤ s.size by omega), beS_getW (show 6 + 6 ≤ s.size by omega), beS_getW (show 12 + 2 ≤ s.size by omega), ext_list]
  generalize s.data.toList = L
  have e1 : L.drop 6 = (L.drop 6).take 6 ++ L.drop 12 := by
    have := (List.take_append_drop 6 (L.drop 6)).symm
    rwa [List.drop_drop] at this
  have e2 : L.drop 12 = (L.drop 12).take 2 ++ L.drop 14 := by
    have := (List.take_append_drop 2 (L.drop 12)).symm
    rwa [List.drop_drop] at this
  have e0 : L = L.take 6 ++ L.drop 6 := (List.take_append_drop 6 L).symm
  rw [List.drop_zero, List.append_assoc, List.append_assoc, ← e2, ← e1, ← e0]
theorem frame_no2 {dst src ty : Int} {body : ByteArray} (h : frameB dst src ty body = false) : frameS dst src ty body = ⟨#[]⟩ := by
  unfold frameS
  rw [h]
  rfl
def okFr (s : ByteArray) : Bool := decide (14 ≤ s.size) && frameB (getW s 0 6) (getW s 6 6) (getW s 12 2) (s.extract 14 s.size)
def frR (s : ByteArray) : Value := if okFr s = true then .agg #[.int .i64 (getW s 0 6), .int .i64 (getW s 6 6), .int .i64 (getW s 12 2), .string (s.extract 14 s.size)] else .agg #[.int .i64 0, .int .i64 0, .int .i64 0, .string ⟨#[]⟩]
def FrOut (s : ByteArray) (w : World) (e : Ending) (w' : World) : Prop := e = .returned (.tuple #[frR s, .bool (okFr s)]) ∧ Below w.heap.size w w'

set_option maxHeartbeats 4000000 in
theorem ReadFrame_any (s : ByteArray) (hz : s.size ≤ 1048576) (w : World) : Calls Try.prog 72 #[.string s] w (FrOut s w) := by
  have hr : (w.alloc (.cells #[.int .i64 0, .int .i64 0, .int .i64 0, .string ⟨#[]⟩] 67)).heap[w.heap.size]? = some (.cells #[.int .i64 0, .int .i64 0, .int .i64 0, .string ⟨#[]⟩] 67 (0, 0)) := (by repeat (first | exact heap_new _ _ _ (by first | rfl | (simp; done) | (simp; omega)) | refine (Below.heap_alloc _ _ _ (by first | omega | (simp; done) | (simp; omega))).trans ?_))
  have hb0 : Below w.heap.size w (w.alloc (.cells #[.int .i64 0, .int .i64 0, .int .i64 0, .string ⟨#[]⟩] 67)) := (by repeat (first | with_reducible exact Below.refl _ _ | with_reducible assumption | with_reducible refine Below.drew ?_ | with_reducible refine Below.alloc ?_ (by first | exact Nat.le_refl _ | omega | (simp; done) | (simp; omega)) _ | with_reducible refine Below.setCell ?_ (by first | exact Nat.le_refl _ | omega | (simp; done) | (simp; omega)) _ | (with_reducible refine ext_trans ?_ (by with_reducible assumption))))
  have hl0 : w.heap.size < (w.alloc (.cells #[.int .i64 0, .int .i64 0, .int .i64 0, .string ⟨#[]⟩] 67)).heap.size := by simp
  by_cases h14 : 14 ≤ s.size
  case neg =>
    have h14' : (s.size : Int) < 14 := by omega
    have HV : Hid (frR s = .agg #[.int .i64 0, .int .i64 0, .int .i64 0, .string ⟨#[]⟩] ∧ okFr s = false) := by
      have h : okFr s = false := by (unfold okFr; rw [decide_eq_false h14]; rfl)
      exact ⟨by unfold frR; rw [h]; rfl, h⟩
    go_enter Try.func72, Try.ntmps72
    generalize hW : (w.alloc (.cells #[.int .i64 0, .int .i64 0, .int .i64 0, .string ⟨#[]⟩] 67)) = w1 at *
    have r0_hr := cell_of_row _ _ 0 _ _ _ hr
    have r1_hr := cell_of_row _ _ 1 _ _ _ hr
    have r2_hr := cell_of_row _ _ 2 _ _ _ hr
    have r3_hr := cell_of_row _ _ 3 _ _ _ hr
    have f0_hr := frozen_of_row _ _ 0 _ _ hr
    have f1_hr := frozen_of_row _ _ 1 _ _ hr
    have f2_hr := frozen_of_row _ _ 2 _ _ hr
    have f3_hr := frozen_of_row _ _ 3 _ _ hr
    simp at r0_hr r1_hr r2_hr r3_hr
    go_wp2_with fail
    apply bodyPost_ret (results_row_tmp1 (P := Try.prog) (fn := Try.f72) rfl _ _ _ 67 _ (0, 0) _ rfl _ Try.underlying67 rfl _) rfl
    rotate_left 2
    · repeat (first | (with_reducible apply heap_setCell_same) | (with_reducible apply drew_row) | (with_reducible apply drewN_row) | (with_reducible exact hr) | (with_reducible refine (heap_setCell_other _ _ _ _ (by first | omega | (simp; done) | (simp; omega))).trans ?_) | (with_reducible refine (Below.heap_alloc _ _ _ (by first | omega | (simp; done) | (simp; omega))).trans ?_))
    · kernel_rfl
    exact ⟨by rw [HV.out.1, HV.out.2]; simp, (by repeat (first | with_reducible exact Below.refl _ _ | with_reducible assumption | with_reducible refine Below.drew ?_ | with_reducible refine Below.alloc ?_ (by first | exact Nat.le_refl _ | omega | (simp; done) | (simp; omega)) _ | with_reducible refine Below.setCell ?_ (by first | exact Nat.le_refl _ | omega | (simp; done) | (simp; omega)) _ | (with_reducible refine ext_trans ?_ (by with_reducible assumption))))⟩
  case pos =>
    have h14' : ¬ ((s.size : Int) < 14) := by omega
    have h14a : (14 : Int) ≤ (s.size : Int) := by omega
    obtain ⟨a1, ha1⟩ : ∃ X, getW s 0 6 = X := ⟨_, rfl⟩
    obtain ⟨a2, ha2⟩ : ∃ X, getW s 6 6 = X := ⟨_, rfl⟩
    obtain ⟨a3, ha3⟩ : ∃ X, getW s 12 2 = X := ⟨_, rfl⟩
    obtain ⟨a4, ha4⟩ : ∃ X, s.extract 14 s.size = X := ⟨_, rfl⟩
    obtain ⟨B, hB⟩ : ∃ X, frameB a1 a2 a3 a4 = X := ⟨_, rfl⟩
    have Y1 : Hid (∀ W, Calls Try.prog 97 #[.string s, .int .i64 0, .int .i64 6] W fun e w' => e = .returned (.int .i64 a1) ∧ W = w') := fun W => by
      rw [← ha1]; exact word_any s 0 6 (by omega) (by omega) (by omega) hz W
    have Y2 : Hid (∀ W, Calls Try.prog 97 #[.string s, .int .i64 6, .int .i64 6] W fun e w' => e = .returned (.int .i64 a2) ∧ W = w') := fun W => by
      rw [← ha2]; exact word_any s 6 6 (by omega) (by omega) (by omega) hz W
    have Y3 : Hid (∀ W, Calls Try.prog 97 #[.string s, .int .i64 12, .int .i64 2] W fun e w' => e = .returned (.int .i64 a3) ∧ W = w') := fun W => by
      rw [← ha3]; exact word_any s 12 2 (by omega) (by omega) (by omega) hz W
    have y4 := fun W => FrameOk_any a1 a2 a3 a4 W
    rw [hB] at y4
    have Y4 := Lib.hid y4
    have HV : Hid (frR s = (if B = true then .agg #[.int .i64 a1, .int .i64 a2, .int .i64 a3, .string a4] else .agg #[.int .i64 0, .int .i64 0, .int .i64 0, .string ⟨#[]⟩]) ∧ okFr s = B) := by
      have h : okFr s = B := by (unfold okFr; rw [decide_eq_true h14, ha1, ha2, ha3, ha4, hB]; rfl)
      exact ⟨by unfold frR; rw [h, ha1, ha2, ha3, ha4], h⟩
    clear y4 hB ha1 ha2 ha3
    go_enter Try.func72, Try.ntmps72
    generalize hW : (w.alloc (.cells #[.int .i64 0, .int .i64 0, .int .i64 0, .string ⟨#[]⟩] 67)) = w1 at *
    have r0_hr := cell_of_row _ _ 0 _ _ _ hr
    have r1_hr := cell_of_row _ _ 1 _ _ _ hr
    have r2_hr := cell_of_row _ _ 2 _ _ _ hr
    have r3_hr := cell_of_row _ _ 3 _ _ _ hr
    have f0_hr := frozen_of_row _ _ 0 _ _ hr
    have f1_hr := frozen_of_row _ _ 1 _ _ hr
    have f2_hr := frozen_of_row _ _ 2 _ _ hr
    have f3_hr := frozen_of_row _ _ 3 _ _ hr
    simp at r0_hr r1_hr r2_hr r3_hr
    go_wp2_with fail
    go_cut [4] (fun sl wx => ∃ g : Nat, sl = .pointer (some ⟨g, 0, none⟩) ∧ wx.heap[g]? = some (.cells #[.int .i64 a1, .int .i64 a2, .int .i64 a3, .string a4] 67 (0, 0)) ∧ w1.heap.size ≤ g ∧ Below w1.heap.size w1 wx)
    case first =>
      first | go_region_held3 (fun w' => (∀ b' o, b' < (w1).heap.size → w'.cell? ⟨b', o, none⟩ = (w1).cell? ⟨b', o, none⟩) ∧ Below (w1).heap.size (w1) w') (first | with_reducible assumption | (with_reducible apply rg_keep; rotate_left; with_reducible assumption; with_reducible assumption) | with_reducible exact rg_start _ | with_reducible exact rg_alloc (KeptS.out (by with_reducible assumption)) _ | with_reducible exact rg_alloc (by with_reducible assumption) _ | with_reducible exact rg_start_alloc _ _ | ((repeat (with_reducible refine rg_set ?_ _ (by first | exact Nat.le_refl _ | omega | (simp; done) | (simp; omega)) _)); first | with_reducible exact KeptS.out (by with_reducible assumption) | with_reducible assumption | with_reducible exact rg_alloc (KeptS.out (by with_reducible assumption)) _)) (first | (go_at_call 97; ((with_reducible refine (Y1.out _).mono ?_); rintro e w' ⟨rfl, rfl⟩)) | (go_at_call 97; ((with_reducible refine (Y2.out _).mono ?_); rintro e w' ⟨rfl, rfl⟩)) | (go_at_call 97; ((with_reducible refine (Y3.out _).mono ?_); rintro e w' ⟨rfl, rfl⟩))) | fail
      all_goals
        go_wp2_with fail
        go_meet
        exact ⟨_, rfl, (show (w1.alloc _).heap[w1.heap.size]? = _ from (by repeat (first | exact heap_new _ _ _ (by first | rfl | (simp; done) | (simp; omega)) | refine (Below.heap_alloc _ _ _ (by first | omega | (simp; done) | (simp; omega))).trans ?_))), Nat.le_refl _, (by repeat (first | with_reducible exact Below.refl _ _ | with_reducible assumption | with_reducible refine Below.drew ?_ | with_reducible refine Below.alloc ?_ (by first | exact Nat.le_refl _ | omega | (simp; done) | (simp; omega)) _ | with_reducible refine Below.setCell ?_ (by first | exact Nat.le_refl _ | omega | (simp; done) | (simp; omega)) _ | (with_reducible refine ext_trans ?_ (by with_reducible assumption))))⟩
    case rest =>
    obtain ⟨g, rfl, hg, hleg, hb2⟩ := hcut
    rename World => w2
    have hz2 := hb2.size
    have hlg := (Array.getElem?_eq_some_iff.1 hg).1
    have hr2 := (hb2.block _ hl0).trans hr
    have HG2 := Lib.hid hg
    have HR2 := Lib.hid hr2
    have r0_hg := cell_of_row _ _ 0 _ _ _ hg
    have r1_hg := cell_of_row _ _ 1 _ _ _ hg
    have r2_hg := cell_of_row _ _ 2 _ _ _ hg
    have r3_hg := cell_of_row _ _ 3 _ _ _ hg
    have f0_hg := frozen_of_row _ _ 0 _ _ hg
    have f1_hg := frozen_of_row _ _ 1 _ _ hg
    have f2_hg := frozen_of_row _ _ 2 _ _ hg
    have f3_hg := frozen_of_row _ _ 3 _ _ hg
    simp at r0_hg r1_hg r2_hg r3_hg
    have r0_hr2 := cell_of_row _ _ 0 _ _ _ hr2
    have r1_hr2 := cell_of_row _ _ 1 _ _ _ hr2
    have r2_hr2 := cell_of_row _ _ 2 _ _ _ hr2
    have r3_hr2 := cell_of_row _ _ 3 _ _ _ hr2
    have f0_hr2 := frozen_of_row _ _ 0 _ _ hr2
    have f1_hr2 := frozen_of_row _ _ 1 _ _ hr2
    have f2_hr2 := frozen_of_row _ _ 2 _ _ hr2
    have f3_hr2 := frozen_of_row _ _ 3 _ _ hr2
    simp at r0_hr2 r1_hr2 r2_hr2 r3_hr2
    clear hg hr2 hr
    go_wp2_with fail
    refine (Y4.out _).mono ?_
    rintro e w3 ⟨rfl, hb3⟩
    have hz3 := hb3.size
    have hg3 := (hb3.block _ hlg).trans HG2.out
    have hr3 := (hb3.block _ (by omega)).trans HR2.out
    have hlg3 : g < w3.heap.size := by omega
    have hw3 : Below w.heap.size w w3 := (by repeat (first | with_reducible exact Below.refl _ _ | with_reducible assumption | with_reducible refine Below.drew ?_ | with_reducible refine Below.alloc ?_ (by first | exact Nat.le_refl _ | omega | (simp; done) | (simp; omega)) _ | with_reducible refine Below.setCell ?_ (by first | exact Nat.le_refl _ | omega | (simp; done) | (simp; omega)) _ | (with_reducible refine ext_trans ?_ (by with_reducible assumption))))
    have hne : ¬ w.heap.size = g := by omega
    have HR3 := Lib.hid hr3
    have r0_hg3 := cell_of_row _ _ 0 _ _ _ hg3
    have r1_hg3 := cell_of_row _ _ 1 _ _ _ hg3
    have r2_hg3 := cell_of_row _ _ 2 _ _ _ hg3
    have r3_hg3 := cell_of_row _ _ 3 _ _ _ hg3
    have f0_hg3 := frozen_of_row _ _ 0 _ _ hg3
    have f1_hg3 := frozen_of_row _ _ 1 _ _ hg3
    have f2_hg3 := frozen_of_row _ _ 2 _ _ hg3
    have f3_hg3 := frozen_of_row _ _ 3 _ _ hg3
    simp at r0_hg3 r1_hg3 r2_hg3 r3_hg3
    have r0_hr3 := cell_of_row _ _ 0 _ _ _ hr3
    have r1_hr3 := cell_of_row _ _ 1 _ _ _ hr3
    have r2_hr3 := cell_of_row _ _ 2 _ _ _ hr3
    have r3_hr3 := cell_of_row _ _ 3 _ _ _ hr3
    have f0_hr3 := frozen_of_row _ _ 0 _ _ hr3
    have f1_hr3 := frozen_of_row _ _ 1 _ _ hr3
    have f2_hr3 := frozen_of_row _ _ 2 _ _ hr3
    have f3_hr3 := frozen_of_row _ _ 3 _ _ hr3
    simp at r0_hr3 r1_hr3 r2_hr3 r3_hr3
    clear hg3 hr3
    cases B
    · go_wp2_with fail
      apply bodyPost_ret (results_row_tmp1 (P := Try.prog) (fn := Try.f72) rfl _ _ _ 67 _ (0, 0) _ rfl _ Try.underlying67 rfl _) rfl
      rotate_left 2
      · repeat (first | (with_reducible apply heap_setCell_same) | (with_reducible apply drew_row) | (with_reducible apply drewN_row) | (with_reducible exact HR3.out) | (with_reducible refine (heap_setCell_other _ _ _ _ (by first | omega | (simp; done) | (simp; omega))).trans ?_) | (with_reducible refine (Below.heap_alloc _ _ _ (by first | omega | (simp; done) | (simp; omega))).trans ?_))
      · kernel_rfl
      exact ⟨by rw [HV.out.1, HV.out.2]; simp, (by repeat (first | with_reducible exact Below.refl _ _ | with_reducible assumption | with_reducible refine Below.drew ?_ | with_reducible refine Below.alloc ?_ (by first | exact Nat.le_refl _ | omega | (simp; done) | (simp; omega)) _ | with_reducible refine Below.setCell ?_ (by first | exact Nat.le_refl _ | omega | (simp; done) | (simp; omega)) _ | (with_reducible refine ext_trans ?_ (by with_reducible assumption))))⟩
    · go_wp2_with fail
      apply bodyPost_ret (results_row_tmp1 (P := Try.prog) (fn := Try.f72) rfl _ _ _ 67 _ (0, 0) _ rfl _ Try.underlying67 rfl _) rfl
      rotate_left 2
      · repeat (first | (with_reducible apply heap_setCell_same) | (with_reducible apply drew_row) | (with_reducible apply drewN_row) | (with_reducible exact HR3.out) | (with_reducible refine (heap_setCell_other _ _ _ _ (by first | omega | (simp; done) | (simp; omega))).trans ?_) | (with_reducible refine (Below.heap_alloc _ _ _ (by first | omega | (simp; done) | (simp; omega))).trans ?_))
      · kernel_rfl
      exact ⟨by rw [HV.out.1, HV.out.2]; simp, (by repeat (first | with_reducible exact Below.refl _ _ | with_reducible assumption | with_reducible refine Below.drew ?_ | with_reducible refine Below.alloc ?_ (by first | exact Nat.le_refl _ | omega | (simp; done) | (simp; omega)) _ | with_reducible refine Below.setCell ?_ (by first | exact Nat.le_refl _ | omega | (simp; done) | (simp; omega)) _ | (with_reducible refine ext_trans ?_ (by with_reducible assumption))))⟩
set_option maxHeartbeats 4000000 in
theorem sReadFrame_any (s : ByteArray) (hz : s.size ≤ 1048576) (w : World) : Calls Try.prog 48 #[.string s] w (FrOut s w) := by
  have hr : (w.alloc (.cells #[.int .i64 0, .int .i64 0, .int .i64 0, .string ⟨#[]⟩] 67)).heap[w.heap.size]? = some (.cells #[.int .i64 0, .int .i64 0, .int .i64 0, .string ⟨#[]⟩] 67 (0, 0)) := (by repeat (first | exact heap_new _ _ _ (by first | rfl | (simp; done) | (simp; omega)) | refine (Below.heap_alloc _ _ _ (by first | omega | (simp; done) | (simp; omega))).trans ?_))
  have hb0 : Below w.heap.size w (w.alloc (.cells #[.int .i64 0, .int .i64 0, .int .i64 0, .string ⟨#[]⟩] 67)) := (by repeat (first | with_reducible exact Below.refl _ _ | with_reducible assumption | with_reducible refine Below.drew ?_ | with_reducible refine Below.alloc ?_ (by first | exact Nat.le_refl _ | omega | (simp; done) | (simp; omega)) _ | with_reducible refine Below.setCell ?_ (by first | exact Nat.le_refl _ | omega | (simp; done) | (simp; omega)) _ | (with_reducible refine ext_trans ?_ (by with_reducible assumption))))
  have hl0 : w.heap.size < (w.alloc (.cells #[.int .i64 0, .int .i64 0, .int .i64 0, .string ⟨#[]⟩] 67)).heap.size := by simp
  by_cases h14 : 14 ≤ s.size
  case neg =>
    have h14' : (s.size : Int) < 14 := by omega
    have HV : Hid (frR s = .agg #[.int .i64 0, .int .i64 0, .int .i64 0, .string ⟨#[]⟩] ∧ okFr s = false) := by
      have h : okFr s = false := by (unfold okFr; rw [decide_eq_false h14]; rfl)
      exact ⟨by unfold frR; rw [h]; rfl, h⟩
    go_enter Try.func48, Try.ntmps48
    generalize hW : (w.alloc (.cells #[.int .i64 0, .int .i64 0, .int .i64 0, .string ⟨#[]⟩] 67)) = w1 at *
    have r0_hr := cell_of_row _ _ 0 _ _ _ hr
    have r1_hr := cell_of_row _ _ 1 _ _ _ hr
    have r2_hr := cell_of_row _ _ 2 _ _ _ hr
    have r3_hr := cell_of_row _ _ 3 _ _ _ hr
    have f0_hr := frozen_of_row _ _ 0 _ _ hr
    have f1_hr := frozen_of_row _ _ 1 _ _ hr
    have f2_hr := frozen_of_row _ _ 2 _ _ hr
    have f3_hr := frozen_of_row _ _ 3 _ _ hr
    simp at r0_hr r1_hr r2_hr r3_hr
    go_wp2_with fail
    apply bodyPost_ret (results_row_tmp1 (P := Try.prog) (fn := Try.f48) rfl _ _ _ 67 _ (0, 0) _ rfl _ Try.underlying67 rfl _) rfl
    rotate_left 2
    · repeat (first | (with_reducible apply heap_setCell_same) | (with_reducible apply drew_row) | (with_reducible apply drewN_row) | (with_reducible exact hr) | (with_reducible refine (heap_setCell_other _ _ _ _ (by first | omega | (simp; done) | (simp; omega))).trans ?_) | (with_reducible refine (Below.heap_alloc _ _ _ (by first | omega | (simp; done) | (simp; omega))).trans ?_))
    · kernel_rfl
    exact ⟨by rw [HV.out.1, HV.out.2]; simp, (by repeat (first | with_reducible exact Below.refl _ _ | with_reducible assumption | with_reducible refine Below.drew ?_ | with_reducible refine Below.alloc ?_ (by first | exact Nat.le_refl _ | omega | (simp; done) | (simp; omega)) _ | with_reducible refine Below.setCell ?_ (by first | exact Nat.le_refl _ | omega | (simp; done) | (simp; omega)) _ | (with_reducible refine ext_trans ?_ (by with_reducible assumption))))⟩
  case pos =>
    have h14' : ¬ ((s.size : Int) < 14) := by omega
    have h14a : (14 : Int) ≤ (s.size : Int) := by omega
    have hfo := frame_of h14
    obtain ⟨a1, ha1⟩ : ∃ X, getW s 0 6 = X := ⟨_, rfl⟩
    obtain ⟨a2, ha2⟩ : ∃ X, getW s 6 6 = X := ⟨_, rfl⟩
    obtain ⟨a3, ha3⟩ : ∃ X, getW s 12 2 = X := ⟨_, rfl⟩
    obtain ⟨a4, ha4⟩ : ∃ X, s.extract 14 s.size = X := ⟨_, rfl⟩
    obtain ⟨B, hB⟩ : ∃ X, frameB a1 a2 a3 a4 = X := ⟨_, rfl⟩
    obtain ⟨F, hF⟩ : ∃ X, frameS a1 a2 a3 a4 = X := ⟨_, rfl⟩
    rw [ha1, ha2, ha3, ha4, hB, hF] at hfo
    have Y1 : Hid (∀ W, Calls Try.prog 83 #[.string s, .int .i64 0, .int .i64 6] W fun e w' => e = .returned (.tuple #[.int .i64 a1, .bool true]) ∧ W = w') := fun W => by
      rw [← ha1]; exact sGetWord_any s 0 6 (by omega) (by omega) (by omega) hz W
    have Y2 : Hid (∀ W, Calls Try.prog 83 #[.string s, .int .i64 6, .int .i64 6] W fun e w' => e = .returned (.tuple #[.int .i64 a2, .bool true]) ∧ W = w') := fun W => by
      rw [← ha2]; exact sGetWord_any s 6 6 (by omega) (by omega) (by omega) hz W
    have Y3 : Hid (∀ W, Calls Try.prog 83 #[.string s, .int .i64 12, .int .i64 2] W fun e w' => e = .returned (.tuple #[.int .i64 a3, .bool true]) ∧ W = w') := fun W => by
      rw [← ha3]; exact sGetWord_any s 12 2 (by omega) (by omega) (by omega) hz W
    have y4 := fun W => sFrameText_any a1 a2 a3 a4 W
    have HV : Hid (frR s = (if B = true then .agg #[.int .i64 a1, .int .i64 a2, .int .i64 a3, .string a4] else .agg #[.int .i64 0, .int .i64 0, .int .i64 0, .string ⟨#[]⟩]) ∧ okFr s = B) := by
      have h : okFr s = B := by (unfold okFr; rw [decide_eq_true h14, ha1, ha2, ha3, ha4, hB]; rfl)
      exact ⟨by unfold frR; rw [h, ha1, ha2, ha3, ha4], h⟩
    have hF0 : B = false → F = ⟨#[]⟩ := fun h => by rw [← hF]; exact frame_no2 (hB.trans h)
    rw [hF] at y4
    have Y4 := Lib.hid y4
    have HF := Lib.hid (And.intro hfo hF0)
    clear y4 hB ha1 ha2 ha3 hfo hF hF0
    go_enter Try.func48, Try.ntmps48
    generalize hW : (w.alloc (.cells #[.int .i64 0, .int .i64 0, .int .i64 0, .string ⟨#[]⟩] 67)) = w1 at *
    have HR := Lib.hid hr
    have r0_hr := cell_of_row _ _ 0 _ _ _ hr
    have r1_hr := cell_of_row _ _ 1 _ _ _ hr
    have r2_hr := cell_of_row _ _ 2 _ _ _ hr
    have r3_hr := cell_of_row _ _ 3 _ _ _ hr
    have f0_hr := frozen_of_row _ _ 0 _ _ hr
    have f1_hr := frozen_of_row _ _ 1 _ _ hr
    have f2_hr := frozen_of_row _ _ 2 _ _ hr
    have f3_hr := frozen_of_row _ _ 3 _ _ hr
    simp at r0_hr r1_hr r2_hr r3_hr
    go_wp2_with (first | (go_at_call 83; (with_reducible refine (Y1.out _).mono ?_); rintro e w' ⟨rfl, rfl⟩) | (go_at_call 83; (with_reducible refine (Y2.out _).mono ?_); rintro e w' ⟨rfl, rfl⟩) | (go_at_call 83; (with_reducible refine (Y3.out _).mono ?_); rintro e w' ⟨rfl, rfl⟩))
    refine (Y4.out _).mono ?_
    rintro e w3 ⟨rfl, hb3⟩
    have hz3 := hb3.size
    (try simp at hz3)
    have hg3 : w3.heap[w1.heap.size]? = some (.cells #[.int .i64 a1, .int .i64 a2, .int .i64 a3, .string a4] 67 (0, 0)) := (hb3.block _ (by first | (simp; done) | (simp; omega))).trans (by repeat (first | exact heap_new _ _ _ (by first | rfl | (simp; done) | (simp; omega)) | refine (Below.heap_alloc _ _ _ (by first | omega | (simp; done) | (simp; omega))).trans ?_))
    have hr3 := (hb3.block _ (by first | (simp; done) | (simp; omega))).trans ((Below.heap_alloc _ _ _ hl0).trans HR.out)
    have hw3 : Below w.heap.size w w3 := (by repeat (first | with_reducible exact Below.refl _ _ | with_reducible assumption | with_reducible refine Below.drew ?_ | with_reducible refine Below.alloc ?_ (by first | exact Nat.le_refl _ | omega | (simp; done) | (simp; omega)) _ | with_reducible refine Below.setCell ?_ (by first | exact Nat.le_refl _ | omega | (simp; done) | (simp; omega)) _ | (with_reducible refine ext_trans ?_ (by with_reducible assumption))))
    have hl3 : w1.heap.size < w3.heap.size := by omega
    have hne : ¬ w.heap.size = w1.heap.size := by omega
    have HR3 := Lib.hid hr3
    have r0_hg3 := cell_of_row _ _ 0 _ _ _ hg3
    have r1_hg3 := cell_of_row _ _ 1 _ _ _ hg3
    have r2_hg3 := cell_of_row _ _ 2 _ _ _ hg3
    have r3_hg3 := cell_of_row _ _ 3 _ _ _ hg3
    have f0_hg3 := frozen_of_row _ _ 0 _ _ hg3
    have f1_hg3 := frozen_of_row _ _ 1 _ _ hg3
    have f2_hg3 := frozen_of_row _ _ 2 _ _ hg3
    have f3_hg3 := frozen_of_row _ _ 3 _ _ hg3
    simp at r0_hg3 r1_hg3 r2_hg3 r3_hg3
    have r0_hr3 := cell_of_row _ _ 0 _ _ _ hr3
    have r1_hr3 := cell_of_row _ _ 1 _ _ _ hr3
    have r2_hr3 := cell_of_row _ _ 2 _ _ _ hr3
    have r3_hr3 := cell_of_row _ _ 3 _ _ _ hr3
    have f0_hr3 := frozen_of_row _ _ 0 _ _ hr3
    have f1_hr3 := frozen_of_row _ _ 1 _ _ hr3
    have f2_hr3 := frozen_of_row _ _ 2 _ _ hr3
    have f3_hr3 := frozen_of_row _ _ 3 _ _ hr3
    simp at r0_hr3 r1_hr3 r2_hr3 r3_hr3
    clear hg3 hr3
    cases B
    · have hFs : ¬ F = s := fun e => by
        have h0 := HF.out.2 rfl
        rw [e] at h0
        rw [h0] at h14
        exact absurd h14 (by decide)
      have hFs2 := bs_ne hFs
      go_wp2_with fail
      apply bodyPost_ret (results_row_tmp1 (P := Try.prog) (fn := Try.f48) rfl _ _ _ 67 _ (0, 0) _ rfl _ Try.underlying67 rfl _) rfl
      rotate_left 2
      · repeat (first | (with_reducible apply heap_setCell_same) | (with_reducible apply drew_row) | (with_reducible apply drewN_row) | (with_reducible exact HR3.out) | (with_reducible refine (heap_setCell_other _ _ _ _ (by first | omega | (simp; done) | (simp; omega))).trans ?_) | (with_reducible refine (Below.heap_alloc _ _ _ (by first | omega | (simp; done) | (simp; omega))).trans ?_))
      · kernel_rfl
      exact ⟨by rw [HV.out.1, HV.out.2]; simp, (by repeat (first | with_reducible exact Below.refl _ _ | with_reducible assumption | with_reducible refine Below.drew ?_ | with_reducible refine Below.alloc ?_ (by first | exact Nat.le_refl _ | omega | (simp; done) | (simp; omega)) _ | with_reducible refine Below.setCell ?_ (by first | exact Nat.le_refl _ | omega | (simp; done) | (simp; omega)) _ | (with_reducible refine ext_trans ?_ (by with_reducible assumption))))⟩
    · obtain rfl : F = s := HF.out.1 rfl
      go_wp2_with fail
      apply bodyPost_ret (results_row_tmp1 (P := Try.prog) (fn := Try.f48) rfl _ _ _ 67 _ (0, 0) _ rfl _ Try.underlying67 rfl _) rfl
      rotate_left 2
      · repeat (first | (with_reducible apply heap_setCell_same) | (with_reducible apply drew_row) | (with_reducible apply drewN_row) | (with_reducible exact HR3.out) | (with_reducible refine (heap_setCell_other _ _ _ _ (by first | omega | (simp; done) | (simp; omega))).trans ?_) | (with_reducible refine (Below.heap_alloc _ _ _ (by first | omega | (simp; done) | (simp; omega))).trans ?_))
      · kernel_rfl
      exact ⟨by rw [HV.out.1, HV.out.2]; simp, (by repeat (first | with_reducible exact Below.refl _ _ | with_reducible assumption | with_reducible refine Below.drew ?_ | with_reducible refine Below.alloc ?_ (by first | exact Nat.le_refl _ | omega | (simp; done) | (simp; omega)) _ | with_reducible refine Below.setCell ?_ (by first | exact Nat.le_refl _ | omega | (simp; done) | (simp; omega)) _ | (with_reducible refine ext_trans ?_ (by with_reducible assumption))))⟩
end Go.Proofs.Yteaniiponikpjaa
