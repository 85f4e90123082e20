/-
  Contracts of MacOk, the program's and the reference's.
-/
import Derived.Test.YtjlnbjabehpncaaMcs
import Derived.Test.YtjlnbjabehpncaaNum
import Derived.Test.YtjlnbjabehpncaaStr
namespace Go.Proofs.Ytjlnbjabehpncaa
open Go.RowKit

def okAt (rs : List RMacRow) (i : Nat) : Bool := match rs[i]? with
  | some x => inB x.2 0 16777215 && !((rs.take i).any fun y => decide (y.1 = x.1))
  | none => true
def okTo (rs : List RMacRow) (m : Nat) : Bool := (List.range m).all (okAt rs)
theorem okTo_succ (rs : List RMacRow) (m : Nat) : okTo rs (m + 1) = (okTo rs m && okAt rs m) := by
  simp [okTo, List.range_succ]
theorem okTo_no {rs : List RMacRow} {m n : Nat} (h : okAt rs m = false) (hm : m < n) : okTo rs n = false := by
  rw [okTo, List.all_eq_false]
  exact ⟨m, by simpa using hm, by simp [h]⟩
theorem okAt_is {rs : List RMacRow} {q : Nat} {x0 : ByteArray} {x1 : Int} {a b : Bool} (hq : q < rs.length) (hz : rs[q] = (x0, x1)) (ha : inB x1 0 16777215 = a) (hb : (rs.take q).any (fun y => decide (y.1 = x0)) = b) : okAt rs q = (a && !b) := by
  unfold okAt
  rw [List.getElem?_eq_getElem hq, hz]
  simp [ha, ← hb]
theorem okTo_more {rs : List RMacRow} {q : Nat} (h : okTo rs q = true) (h2 : okAt rs q = true) : okTo rs (q + 1) = true := by
  rw [okTo_succ, h, h2]; rfl
theorem bytes_beq (x y : ByteArray) : (x.toList == y.toList) = decide (x = y) := by
  by_cases h : x = y
  · subst h; simp
  · rw [bs_ne h]; simp [h]
theorem any_no {l : List RMacRow} {p : RMacRow → Bool} {k : Nat} {y : RMacRow} (h : (l.take k).any p = false) (hk : k < l.length) (hy : l[k] = y) (hp : p y = false) : (l.take (k + 1)).any p = false := by
  rw [List.take_succ_eq_append_getElem hk, List.any_append, h, hy]
  simp [hp]
theorem any_yes {l : List RMacRow} {p : RMacRow → Bool} {k : Nat} {y : RMacRow} (hk : k < l.length) (hy : l[k] = y) (hp : p y = true) : l.any p = true := by
  rw [List.any_eq_true]
  exact ⟨y, by rw [← hy]; exact List.getElem_mem hk, hp⟩
theorem Rd.take {α : Type} {enc : α → List Value} {w : World} {B n c : Nat} {A : Option Addr} {l : List α} (h : Rd w B (.slice A n c) n (cellsOf enc l)) (q : Nat) (hq : q ≤ n) : Rd w B (.slice A q c) q (cellsOf enc (l.take q)) := by
  obtain ⟨A', c', e, ⟨h1, h2, h3⟩, hx⟩ := h
  cases e
  have hsp : cellsOf enc l = cellsOf enc (l.take q) ++ cellsOf enc (l.drop q) := by rw [← cells_append, List.take_append_drop]
  refine ⟨A, c, rfl, ⟨by omega, h2, h3⟩, fun hl => ?_⟩
  obtain ⟨b, off, ea, hb, hj⟩ := hx (by rw [hsp, List.length_append]; omega)
  refine ⟨b, off, ea, hb, fun j u hu => hj j u ?_⟩
  rw [hsp, List.getElem?_append_left (List.getElem?_eq_some_iff.1 hu).1]
  exact hu
def macB (u : Bool) (k l : Int) (rs : List RMacRow) : Bool := if u then (k == 0 && (l == 0 && (decide (rs.length ≤ 64) && okTo rs rs.length))) else decide (rs.length = 0)

theorem MacOkLit_any (x0 y0 : ByteArray) (y1 : Int) (b : Nat) (w : World) (hc : w.cell? ⟨b, 0, none⟩ = some (.string x0)) :
    Calls Try.prog 84 #[.agg #[.string y0, .int .i64 y1], .pointer (some ⟨b, 0, none⟩)] w fun e w' => e = .returned (.bool (decide (y0 = x0))) ∧ Below w.heap.size w w' := by
  have hb := block_lt_of_cell hc
  go_enter Try.func84, Try.ntmps84
  go_wp2_with fail
  go_ret
  refine ⟨?_, (by repeat (first | with_reducible exact Below.refl _ _ | with_reducible assumption | with_reducible refine Below.drew ?_ | with_reducible refine Below.alloc ?_ (by first | exact Nat.le_refl _ | omega | (simp; done) | (simp; omega)) _ | with_reducible refine Below.setCell ?_ (by first | exact Nat.le_refl _ | omega | (simp; done) | (simp; omega)) _ | (with_reducible refine ext_trans ?_ (by with_reducible assumption))))⟩
  refine congrArg Ending.returned (congrArg Value.bool ?_)
  exact bytes_beq _ _
set_option maxRecDepth 100000 in
set_option maxHeartbeats 1000000 in
theorem IndexMac_any (x0 : ByteArray) (b : Nat) (v : Value) (l : List RMacRow) (B : Bool) (hB : (l.any fun y => decide (y.1 = x0)) = B) (hn : l.length ≤ maxLen) (w : World) (h : RdMacRow w v l) (hc : w.cell? ⟨b, 0, none⟩ = some (.string x0)) :
    Calls Try.prog 99 #[v, .func (Fn.func 84) #[] #[.pointer (some ⟨b, 0, none⟩)]] w fun e w' => ∃ r : Int, e = .returned (.int .i64 r) ∧ Hid (B = true ↔ 0 ≤ r) ∧ Below w.heap.size w w' := by
  unfold maxLen at hn
  obtain ⟨A, c, rfl, -⟩ := id h
  have H := Lib.hid h
  have HB := Lib.hid hB
  have hbl := block_lt_of_cell hc
  clear h hB
  go_enter Try.func99, Try.ntmps99
  go_wp2_with fail
  go_loopw [8] (fun i wr => ∃ k : Nat, k ≤ l.length ∧ i = .int .i64 k ∧ Hid ((l.take k).any (fun y => decide (y.1 = x0)) = false) ∧ Below w.heap.size w wr) (fun i _ => l.length - (intOf i).toNat)
  case atStart => exact ⟨0, by omega, rfl, rfl, (by repeat (first | with_reducible exact Below.refl _ _ | with_reducible assumption | with_reducible refine Below.drew ?_ | with_reducible refine Below.alloc ?_ (by first | exact Nat.le_refl _ | omega | (simp; done) | (simp; omega)) _ | with_reducible refine Below.setCell ?_ (by first | exact Nat.le_refl _ | omega | (simp; done) | (simp; omega)) _ | (with_reducible refine ext_trans ?_ (by with_reducible assumption))))⟩
  case round =>
    obtain ⟨k, hk, rfl, hno, hbw⟩ := hrel
    have hbs := hbw.size
    by_cases hlt : k < l.length
    · obtain ⟨ba, off, rfl, hbB, hcell⟩ := H.out.elem eMacRow_len (by omega) k hlt
      obtain ⟨z, hz⟩ : ∃ z, l[k] = z := ⟨_, rfl⟩
      rw [hz] at hcell
      obtain ⟨y0, y1⟩ := z
      have c0 : wr.cell? ⟨ba, off + k * 2, none⟩ = some (.string y0) := (hbw.cell (p := ⟨ba, _, none⟩) hbB).trans (hcell 0 (by omega))
      have c1 : wr.cell? ⟨ba, off + k * 2 + 1, none⟩ = some (.int .i64 y1) := (hbw.cell (p := ⟨ba, _, none⟩) hbB).trans (hcell 1 (by omega))
      have cx : wr.cell? ⟨b, 0, none⟩ = some (.string x0) := (hbw.cell (p := ⟨b, 0, none⟩) hbl).trans hc
      have HZ := Lib.hid hz
      have hnk : (k : Int) < (l.length : Int) := by omega
      clear hcell hz
      by_cases hyx : y0 = x0
      · have hd : decide (y0 = x0) = true := by simp [hyx]
        have hBt : B = true := HB.out.symm.trans (any_yes (p := fun y => decide (y.1 = x0)) (y := (y0, y1)) hlt HZ.out (by simpa using hyx))
        subst hyx
        have hcal := MacOkLit_any y0 y0 y1 b wr cx
        rw [hd] at hcal
        have HC := Lib.hid hcal
        have HBT := Lib.hid hBt
        clear hd hcal hBt
        go_wp2_with fail
        refine HC.out.mono ?_
        rintro e w1 ⟨rfl, hb1⟩
        go_wp2_with fail
        go_ret
        exact ⟨_, rfl, (by rw [HBT.out]; simp : B = true ↔ (0 : Int) ≤ k), (by repeat (first | with_reducible exact Below.refl _ _ | with_reducible assumption | with_reducible refine Below.drew ?_ | with_reducible refine Below.alloc ?_ (by first | exact Nat.le_refl _ | omega | (simp; done) | (simp; omega)) _ | with_reducible refine Below.setCell ?_ (by first | exact Nat.le_refl _ | omega | (simp; done) | (simp; omega)) _ | (with_reducible refine ext_trans ?_ (by with_reducible assumption))))⟩
      · have hd : decide (y0 = x0) = false := by simp [hyx]
        have hm : (l.take (k + 1)).any (fun y => decide (y.1 = x0)) = false := any_no (y := (y0, y1)) hno.out hlt HZ.out (by simpa using hyx)
        have hcal := MacOkLit_any x0 y0 y1 b wr cx
        rw [hd] at hcal
        have HC := Lib.hid hcal
        have HM := Lib.hid hm
        clear hd hcal hm
        go_wp2_with fail
        refine HC.out.mono ?_
        rintro e w1 ⟨rfl, hb1⟩
        go_wp2_with fail
        exact ⟨⟨k + 1, by omega, by go_num, HM, (by repeat (first | with_reducible exact Below.refl _ _ | with_reducible assumption | with_reducible refine Below.drew ?_ | with_reducible refine Below.alloc ?_ (by first | exact Nat.le_refl _ | omega | (simp; done) | (simp; omega)) _ | with_reducible refine Below.setCell ?_ (by first | exact Nat.le_refl _ | omega | (simp; done) | (simp; omega)) _ | (with_reducible refine ext_trans ?_ (by with_reducible assumption))))⟩, by simp [intOf]; omega⟩
    · obtain rfl : k = l.length := by omega
      have hBf : Hid (B = false) := (by rw [← HB.out]; have := hno.out; rwa [List.take_length] at this : B = false)
      go_wp2_with fail
      go_ret
      exact ⟨-1, rfl, (by rw [hBf.out]; simp : B = true ↔ (0 : Int) ≤ -1), hbw⟩
theorem ContainsMac_any (x0 : ByteArray) (b : Nat) (v : Value) (l : List RMacRow) (B : Bool) (hB : (l.any fun y => decide (y.1 = x0)) = B) (hn : l.length ≤ maxLen) (w : World) (h : RdMacRow w v l) (hc : w.cell? ⟨b, 0, none⟩ = some (.string x0)) :
    Calls Try.prog 83 #[v, .func (Fn.func 84) #[] #[.pointer (some ⟨b, 0, none⟩)]] w fun e w' => e = .returned (.bool B) ∧ Below w.heap.size w w' := by
  obtain ⟨A, c, rfl, -⟩ := id h
  have H := Lib.hid h
  have HB := Lib.hid hB
  have HN := Lib.hid hn
  clear h hB hn
  go_enter Try.func83, Try.ntmps83
  go_wp2_with fail
  refine (IndexMac_any x0 b _ l B HB.out HN.out _ H.out hc).mono ?_
  rintro e w1 ⟨r, rfl, hr, hb1⟩
  cases B
  · have hr' : ¬ (0 ≤ r) := fun h => absurd (hr.out.2 h) (by simp)
    go_wp2_with fail
    go_ret
    exact ⟨by simp [hr'], hb1⟩
  · have hr' : 0 ≤ r := hr.out.1 rfl
    go_wp2_with fail
    go_ret
    exact ⟨by simp, hb1⟩

set_option maxRecDepth 100000 in
set_option maxHeartbeats 1000000 in
theorem MacOk_any (u : Bool) (k l : Int) (v : Value) (rs : List RMacRow) (hn : rs.length ≤ maxLen) (w : World) (h : RdMacRow w v rs) (hb : ∀ x ∈ rs, -9223372036854775808 ≤ x.2 ∧ x.2 ≤ 9223372036854775807) :
    Calls Try.prog 53 #[vM u k l v] w fun e w' => e = .returned (.bool (macB u k l rs)) ∧ Below w.heap.size w w' := by
  unfold maxLen at hn
  obtain ⟨A, c, rfl, hcc, -⟩ := id h
  have H := Lib.hid h
  have HB := Lib.hid hb
  clear h hb
  cases u
  · go_enter Try.func53, Try.ntmps53
    go_wp2_with fail
    go_ret
    refine ⟨?_, (by repeat (first | with_reducible exact Below.refl _ _ | with_reducible assumption | with_reducible refine Below.drew ?_ | with_reducible refine Below.alloc ?_ (by first | exact Nat.le_refl _ | omega | (simp; done) | (simp; omega)) _ | with_reducible refine Below.setCell ?_ (by first | exact Nat.le_refl _ | omega | (simp; done) | (simp; omega)) _ | (with_reducible refine ext_trans ?_ (by with_reducible assumption))))⟩
    simp only [macB]
    refine congrArg Ending.returned (congrArg Value.bool ?_)
    by_cases h0 : rs.length = 0 <;> simp_all
  · by_cases hk : k = 0
    · subst hk
      by_cases hl : l = 0
      · subst hl
        by_cases hlen : rs.length ≤ 64
        · have hl64 : (rs.length : Int) ≤ 64 := by omega
          have hm : macB true 0 0 rs = okTo rs rs.length := by simp [macB, hlen]
          rw [hm]
          clear hm
          go_enter Try.func53, Try.ntmps53
          go_wp2_with fail
          go_loopw [29] (fun i wr => ∃ q : Nat, q ≤ rs.length ∧ i = .int .i64 q ∧ Hid (okTo rs q = true) ∧ Hid (wr.heap[w.heap.size]? = some (.cells #[.bool true, .int .u64 0, .int .u64 0, .slice A rs.length c] 27 (0, 0))) ∧ Below w.heap.size w wr) (fun i _ => rs.length - (intOf i).toNat)
          case atStart => exact ⟨0, by omega, rfl, rfl, (by repeat (first | exact heap_new _ _ _ (by first | rfl | (simp; done) | (simp; omega)) | refine (Below.heap_alloc _ _ _ (by first | omega | (simp; done) | (simp; omega))).trans ?_)), (by repeat (first | with_reducible exact Below.refl _ _ | with_reducible assumption | with_reducible refine Below.drew ?_ | with_reducible refine Below.alloc ?_ (by first | exact Nat.le_refl _ | omega | (simp; done) | (simp; omega)) _ | with_reducible refine Below.setCell ?_ (by first | exact Nat.le_refl _ | omega | (simp; done) | (simp; omega)) _ | (with_reducible refine ext_trans ?_ (by with_reducible assumption))))⟩
          case round =>
            obtain ⟨q, hq, rfl, hok, hR, hbw⟩ := hrel
            have hr := hR.out
            have r0_hr := cell_of_row _ _ 0 _ _ _ hr
            have r1_hr := cell_of_row _ _ 1 _ _ _ hr
            have r2_hr := cell_of_row _ _ 2 _ _ _ hr
            have r3_hr := cell_of_row _ _ 3 _ _ _ hr
            have f0_hr := frozen_of_row _ _ 0 _ _ hr
            have f1_hr := frozen_of_row _ _ 1 _ _ hr
            have f2_hr := frozen_of_row _ _ 2 _ _ hr
            have f3_hr := frozen_of_row _ _ 3 _ _ hr
            simp at r0_hr r1_hr r2_hr r3_hr
            have hlR := (Array.getElem?_eq_some_iff.1 hr).1
            clear hr
            have hbs := hbw.size
            by_cases hlt : q < rs.length
            · obtain ⟨b, off, rfl, hbB, hcell⟩ := H.out.elem eMacRow_len (by omega) q hlt
              have hbx := HB.out rs[q] (by simp)
              obtain ⟨z, hz⟩ : ∃ z, rs[q] = z := ⟨_, rfl⟩
              rw [hz] at hcell hbx
              obtain ⟨x0, x1⟩ := z
              have c0 : wr.cell? ⟨b, off + q * 2, none⟩ = some (.string x0) := (hbw.cell (p := ⟨b, _, none⟩) hbB).trans (hcell 0 (by omega))
              have c1 : wr.cell? ⟨b, off + q * 2 + 1, none⟩ = some (.int .i64 x1) := (hbw.cell (p := ⟨b, _, none⟩) hbB).trans (hcell 1 (by omega))
              simp only at hbx
              obtain ⟨hx1, hx2⟩ := hbx
              have hnq : (q : Int) < (rs.length : Int) := by omega
              have HZ := Lib.hid hz
              clear hcell hz
              by_cases hin : inB x1 0 16777215 = true
              · by_cases hany : ((rs.take q).any fun y => decide (y.1 = x0)) = true
                · have hok2 := okAt_is hlt HZ.out hin hany
                  go_wp2_with (go_at_call 52; refine (within_any _ _ _ _).mono ?_; rintro e w' ⟨rfl, rfl⟩)
                  refine (ContainsMac_any x0 wr.heap.size _ (rs.take q) true hany (by simp; omega) _ ?_ ?_).mono ?_
                  · have hL : (rs.take q).length = q := by simp; omega
                    unfold RdMacRow
                    rw [hL]
                    exact ((H.out.take q (by omega)).keep hbw.block hbs).alloc _
                  · have hnew : (wr.alloc (.cells #[.string x0, .int .i64 x1] 87)).heap[wr.heap.size]? = some (.cells #[.string x0, .int .i64 x1] 87 (0, 0)) := (by repeat (first | exact heap_new _ _ _ (by first | rfl | (simp; done) | (simp; omega)) | refine (Below.heap_alloc _ _ _ (by first | omega | (simp; done) | (simp; omega))).trans ?_))
                    exact cell_of_row _ _ 0 _ _ _ hnew
                  rintro e w1 ⟨rfl, hb1⟩
                  go_wp2_with fail
                  go_ret
                  exact ⟨by rw [okTo_no hok2 hlt]; rfl, (by repeat (first | with_reducible exact Below.refl _ _ | with_reducible assumption | with_reducible refine Below.drew ?_ | with_reducible refine Below.alloc ?_ (by first | exact Nat.le_refl _ | omega | (simp; done) | (simp; omega)) _ | with_reducible refine Below.setCell ?_ (by first | exact Nat.le_refl _ | omega | (simp; done) | (simp; omega)) _ | (with_reducible refine ext_trans ?_ (by with_reducible assumption))))⟩
                · have hany := Bool.eq_false_iff.2 hany
                  have hok2 := okAt_is hlt HZ.out hin hany
                  go_wp2_with (go_at_call 52; refine (within_any _ _ _ _).mono ?_; rintro e w' ⟨rfl, rfl⟩)
                  refine (ContainsMac_any x0 wr.heap.size _ (rs.take q) false hany (by simp; omega) _ ?_ ?_).mono ?_
                  · have hL : (rs.take q).length = q := by simp; omega
                    unfold RdMacRow
                    rw [hL]
                    exact ((H.out.take q (by omega)).keep hbw.block hbs).alloc _
                  · have hnew : (wr.alloc (.cells #[.string x0, .int .i64 x1] 87)).heap[wr.heap.size]? = some (.cells #[.string x0, .int .i64 x1] 87 (0, 0)) := (by repeat (first | exact heap_new _ _ _ (by first | rfl | (simp; done) | (simp; omega)) | refine (Below.heap_alloc _ _ _ (by first | omega | (simp; done) | (simp; omega))).trans ?_))
                    exact cell_of_row _ _ 0 _ _ _ hnew
                  rintro e w1 ⟨rfl, hb1⟩
                  have hz1 := hb1.size
                  simp at hz1
                  go_wp2_with fail
                  exact ⟨⟨q + 1, by omega, by go_num, okTo_more hok.out hok2, (hb1.block _ (by simp; omega)).trans ((Below.heap_alloc _ _ _ hlR).trans hR.out), (by repeat (first | with_reducible exact Below.refl _ _ | with_reducible assumption | with_reducible refine Below.drew ?_ | with_reducible refine Below.alloc ?_ (by first | exact Nat.le_refl _ | omega | (simp; done) | (simp; omega)) _ | with_reducible refine Below.setCell ?_ (by first | exact Nat.le_refl _ | omega | (simp; done) | (simp; omega)) _ | (with_reducible refine ext_trans ?_ (by with_reducible assumption))))⟩, by simp [intOf]; omega⟩
              · have hin : inB x1 0 16777215 = false := by simpa using hin
                have hok2 := okAt_is hlt HZ.out hin rfl
                go_wp2_with (go_at_call 52; refine (within_any _ _ _ _).mono ?_; rintro e w' ⟨rfl, rfl⟩)
                go_ret
                exact ⟨by rw [okTo_no hok2 hlt]; rfl, (by repeat (first | with_reducible exact Below.refl _ _ | with_reducible assumption | with_reducible refine Below.drew ?_ | with_reducible refine Below.alloc ?_ (by first | exact Nat.le_refl _ | omega | (simp; done) | (simp; omega)) _ | with_reducible refine Below.setCell ?_ (by first | exact Nat.le_refl _ | omega | (simp; done) | (simp; omega)) _ | (with_reducible refine ext_trans ?_ (by with_reducible assumption))))⟩
            · obtain rfl : q = rs.length := by omega
              go_wp2_with fail
              go_ret
              exact ⟨by rw [hok.out]; rfl, (by repeat (first | with_reducible exact Below.refl _ _ | with_reducible assumption | with_reducible refine Below.drew ?_ | with_reducible refine Below.alloc ?_ (by first | exact Nat.le_refl _ | omega | (simp; done) | (simp; omega)) _ | with_reducible refine Below.setCell ?_ (by first | exact Nat.le_refl _ | omega | (simp; done) | (simp; omega)) _ | (with_reducible refine ext_trans ?_ (by with_reducible assumption))))⟩
        · have hl64 : ¬ ((rs.length : Int) ≤ 64) := by omega
          go_enter Try.func53, Try.ntmps53
          go_wp2_with fail
          go_ret
          exact ⟨by simp [macB, hlen], (by repeat (first | with_reducible exact Below.refl _ _ | with_reducible assumption | with_reducible refine Below.drew ?_ | with_reducible refine Below.alloc ?_ (by first | exact Nat.le_refl _ | omega | (simp; done) | (simp; omega)) _ | with_reducible refine Below.setCell ?_ (by first | exact Nat.le_refl _ | omega | (simp; done) | (simp; omega)) _ | (with_reducible refine ext_trans ?_ (by with_reducible assumption))))⟩
      · go_enter Try.func53, Try.ntmps53
        go_wp2_with fail
        go_ret
        exact ⟨by simp [macB, hl], (by repeat (first | with_reducible exact Below.refl _ _ | with_reducible assumption | with_reducible refine Below.drew ?_ | with_reducible refine Below.alloc ?_ (by first | exact Nat.le_refl _ | omega | (simp; done) | (simp; omega)) _ | with_reducible refine Below.setCell ?_ (by first | exact Nat.le_refl _ | omega | (simp; done) | (simp; omega)) _ | (with_reducible refine ext_trans ?_ (by with_reducible assumption))))⟩
    · go_enter Try.func53, Try.ntmps53
      go_wp2_with fail
      go_ret
      exact ⟨by simp [macB, hk], (by repeat (first | with_reducible exact Below.refl _ _ | with_reducible assumption | with_reducible refine Below.drew ?_ | with_reducible refine Below.alloc ?_ (by first | exact Nat.le_refl _ | omega | (simp; done) | (simp; omega)) _ | with_reducible refine Below.setCell ?_ (by first | exact Nat.le_refl _ | omega | (simp; done) | (simp; omega)) _ | (with_reducible refine ext_trans ?_ (by with_reducible assumption))))⟩
set_option maxRecDepth 100000 in
set_option maxHeartbeats 1000000 in
theorem sMacOk_any (u : Bool) (k l : Int) (v : Value) (rs : List RMacRow) (hn : rs.length ≤ maxLen) (w : World) (h : RdMacRow w v rs) (hb : ∀ x ∈ rs, -9223372036854775808 ≤ x.2 ∧ x.2 ≤ 9223372036854775807) :
    Calls Try.prog 22 #[vM u k l v] w fun e w' => e = .returned (.bool (macB u k l rs)) ∧ Below w.heap.size w w' := by
  unfold maxLen at hn
  obtain ⟨A, c, rfl, hcc, -⟩ := id h
  have H := Lib.hid h
  have HB := Lib.hid hb
  clear h hb
  cases u
  · go_enter Try.func22, Try.ntmps22
    go_wp2_with fail
    go_ret
    refine ⟨?_, (by repeat (first | with_reducible exact Below.refl _ _ | with_reducible assumption | with_reducible refine Below.drew ?_ | with_reducible refine Below.alloc ?_ (by first | exact Nat.le_refl _ | omega | (simp; done) | (simp; omega)) _ | with_reducible refine Below.setCell ?_ (by first | exact Nat.le_refl _ | omega | (simp; done) | (simp; omega)) _ | (with_reducible refine ext_trans ?_ (by with_reducible assumption))))⟩
    simp only [macB]
    refine congrArg Ending.returned (congrArg Value.bool ?_)
    by_cases h0 : rs.length = 0 <;> simp_all
  · go_enter Try.func22, Try.ntmps22
    go_wp2_with fail
    go_loopw [3] (fun i wr => ∃ q : Nat, q ≤ rs.length ∧ i = .int .i64 q ∧ Hid (okTo rs q = true) ∧ Hid (wr.heap[w.heap.size]? = some (.cells #[.bool true, .int .u64 k, .int .u64 l, .slice A rs.length c] 27 (0, 0))) ∧ Below w.heap.size w wr) (fun i _ => rs.length - (intOf i).toNat)
    case atStart => exact ⟨0, by omega, rfl, rfl, (by repeat (first | exact heap_new _ _ _ (by first | rfl | (simp; done) | (simp; omega)) | refine (Below.heap_alloc _ _ _ (by first | omega | (simp; done) | (simp; omega))).trans ?_)), (by repeat (first | with_reducible exact Below.refl _ _ | with_reducible assumption | with_reducible refine Below.drew ?_ | with_reducible refine Below.alloc ?_ (by first | exact Nat.le_refl _ | omega | (simp; done) | (simp; omega)) _ | with_reducible refine Below.setCell ?_ (by first | exact Nat.le_refl _ | omega | (simp; done) | (simp; omega)) _ | (with_reducible refine ext_trans ?_ (by with_reducible assumption))))⟩
    case round =>
      obtain ⟨q, hq, rfl, hok, hR, hbw⟩ := hrel
      have hr := hR.out
      have r0_hr := cell_of_row _ _ 0 _ _ _ hr
      have r1_hr := cell_of_row _ _ 1 _ _ _ hr
      have r2_hr := cell_of_row _ _ 2 _ _ _ hr
      have r3_hr := cell_of_row _ _ 3 _ _ _ hr
      have f0_hr := frozen_of_row _ _ 0 _ _ hr
      have f1_hr := frozen_of_row _ _ 1 _ _ hr
      have f2_hr := frozen_of_row _ _ 2 _ _ hr
      have f3_hr := frozen_of_row _ _ 3 _ _ hr
      simp at r0_hr r1_hr r2_hr r3_hr
      have hlR := (Array.getElem?_eq_some_iff.1 hr).1
      clear hr
      have hbs := hbw.size
      by_cases hlt : q < rs.length
      · obtain ⟨b, off, rfl, hbB, hcell⟩ := H.out.elem eMacRow_len (by omega) q hlt
        have hbx := HB.out rs[q] (by simp)
        obtain ⟨z, hz⟩ : ∃ z, rs[q] = z := ⟨_, rfl⟩
        rw [hz] at hcell hbx
        obtain ⟨x0, x1⟩ := z
        have c0 : wr.cell? ⟨b, off + q * 2, none⟩ = some (.string x0) := (hbw.cell (p := ⟨b, _, none⟩) hbB).trans (hcell 0 (by omega))
        have c1 : wr.cell? ⟨b, off + q * 2 + 1, none⟩ = some (.int .i64 x1) := (hbw.cell (p := ⟨b, _, none⟩) hbB).trans (hcell 1 (by omega))
        simp only at hbx
        obtain ⟨hx1, hx2⟩ := hbx
        have hnq : (q : Int) < (rs.length : Int) := by omega
        have HZ := Lib.hid hz
        clear hcell hz
        by_cases hin : inB x1 0 16777215 = true
        · go_wp2_with (go_at_call 51; refine (l1In_any _ _ _ _).mono ?_; rintro e w' ⟨rfl, rfl⟩)
          go_loopw [4] (fun i wi => ∃ p : Nat, p ≤ q ∧ i = .int .i64 p ∧ Hid ((rs.take p).any (fun y => decide (y.1 = x0)) = false) ∧ Hid (wi.heap[w.heap.size]? = some (.cells #[.bool true, .int .u64 k, .int .u64 l, .slice (some ⟨b, off, none⟩) rs.length c] 27 (0, 0))) ∧ Below w.heap.size w wi) (fun i _ => q - (intOf i).toNat)
          case atStart => exact ⟨0, by omega, rfl, rfl, hR, (by repeat (first | with_reducible exact Below.refl _ _ | with_reducible assumption | with_reducible refine Below.drew ?_ | with_reducible refine Below.alloc ?_ (by first | exact Nat.le_refl _ | omega | (simp; done) | (simp; omega)) _ | with_reducible refine Below.setCell ?_ (by first | exact Nat.le_refl _ | omega | (simp; done) | (simp; omega)) _ | (with_reducible refine ext_trans ?_ (by with_reducible assumption))))⟩
          case round =>
            clear hlR r0_hr r1_hr r2_hr r3_hr f0_hr f1_hr f2_hr f3_hr c0 c1 hR hbs hbw
            rename World => wi
            obtain ⟨p, hp, rfl, hno, hR, hbw⟩ := hrel
            have hr := hR.out
            have r0_hr := cell_of_row _ _ 0 _ _ _ hr
            have r1_hr := cell_of_row _ _ 1 _ _ _ hr
            have r2_hr := cell_of_row _ _ 2 _ _ _ hr
            have r3_hr := cell_of_row _ _ 3 _ _ _ hr
            have f0_hr := frozen_of_row _ _ 0 _ _ hr
            have f1_hr := frozen_of_row _ _ 1 _ _ hr
            have f2_hr := frozen_of_row _ _ 2 _ _ hr
            have f3_hr := frozen_of_row _ _ 3 _ _ hr
            simp at r0_hr r1_hr r2_hr r3_hr
            clear hr
            have hbs := hbw.size
            by_cases hlp : p < q
            · obtain ⟨b', off', e, hbB, hcellq⟩ := H.out.elem eMacRow_len (by omega) q hlt
              cases e
              obtain ⟨b', off', e, hbB, hcellp⟩ := H.out.elem eMacRow_len (by omega) p (by omega)
              cases e
              rw [HZ.out] at hcellq
              obtain ⟨z, hz⟩ : ∃ z, rs[p] = z := ⟨_, rfl⟩
              rw [hz] at hcellp
              obtain ⟨y0, y1⟩ := z
              have c0 : wi.cell? ⟨b, off + q * 2, none⟩ = some (.string x0) := (hbw.cell (p := ⟨b, _, none⟩) hbB).trans (hcellq 0 (by omega))
              have d0 : wi.cell? ⟨b, off + p * 2, none⟩ = some (.string y0) := (hbw.cell (p := ⟨b, _, none⟩) hbB).trans (hcellp 0 (by omega))
              have HZp := Lib.hid hz
              have hnp : (p : Int) < (q : Int) := by omega
              have hnp2 : (p : Int) < (rs.length : Int) := by omega
              have hp0 : (0 : Int) ≤ (p : Int) := by omega
              have hq0 : (0 : Int) ≤ (q : Int) := by omega
              clear hcellq hcellp hz
              have hbd : Below w.heap.size w wi.drew := hbw.drew
              have hR' : Hid (wi.drew.heap[w.heap.size]? = _) := hR
              go_wp2_with fail
              refine wp_region_still_tail 12 (by kernel_rfl) (by kernel_rfl) ?_
              simp only [List.take_succ_cons, List.take_zero, List.drop_succ_cons, List.drop_zero]
              repeat (first | still_step)
              refine wpStill_nil ?_
              change wpList _ _ _ _ _ wi.drew
              generalize wi.drew = wd at *
              go_wp2_with fail
              case roundEnd =>
                have hne : (y0.toList == x0.toList) = false := by first | assumption | simp_all
                rw [bytes_beq] at hne
                exact ⟨⟨p + 1, by omega, by go_num, any_no (p := fun y => decide (y.1 = x0)) (y := (y0, y1)) hno.out (by omega) HZp.out hne, hR', by assumption⟩, by simp [intOf]; omega⟩
              all_goals
                have hne : (y0.toList == x0.toList) = true := by first | assumption | simp_all
                rw [bytes_beq] at hne
                have hany : (rs.take q).any (fun y => decide (y.1 = x0)) = true := any_yes (k := p) (p := fun y => decide (y.1 = x0)) (y := (y0, y1)) (by simp; omega) (by rw [List.getElem_take]; exact HZp.out) hne
                have hok2 := okAt_is hlt HZ.out hin hany
                go_ret
                exact ⟨by simp [macB, okTo_no hok2 hlt], by assumption⟩
            · obtain rfl : p = q := by omega
              have hok2 := okAt_is hlt HZ.out hin hno.out
              go_wp2_with fail
              exact ⟨⟨p + 1, by omega, by go_num, okTo_more hok.out hok2, hR, hbw⟩, by simp [intOf]; omega⟩
        · have hin : inB x1 0 16777215 = false := by simpa using hin
          have hok2 := okAt_is hlt HZ.out hin rfl
          go_wp2_with (go_at_call 51; refine (l1In_any _ _ _ _).mono ?_; rintro e w' ⟨rfl, rfl⟩)
          go_ret
          exact ⟨by simp [macB, okTo_no hok2 hlt], (by repeat (first | with_reducible exact Below.refl _ _ | with_reducible assumption | with_reducible refine Below.drew ?_ | with_reducible refine Below.alloc ?_ (by first | exact Nat.le_refl _ | omega | (simp; done) | (simp; omega)) _ | with_reducible refine Below.setCell ?_ (by first | exact Nat.le_refl _ | omega | (simp; done) | (simp; omega)) _ | (with_reducible refine ext_trans ?_ (by with_reducible assumption))))⟩
      · obtain rfl : q = rs.length := by omega
        go_wp2_with fail
        all_goals
          go_ret
          exact ⟨by simp_all [macB, hok.out]; try omega, (by repeat (first | with_reducible exact Below.refl _ _ | with_reducible assumption | with_reducible refine Below.drew ?_ | with_reducible refine Below.alloc ?_ (by first | exact Nat.le_refl _ | omega | (simp; done) | (simp; omega)) _ | with_reducible refine Below.setCell ?_ (by first | exact Nat.le_refl _ | omega | (simp; done) | (simp; omega)) _ | (with_reducible refine ext_trans ?_ (by with_reducible assumption))))⟩
end Go.Proofs.Ytjlnbjabehpncaa
