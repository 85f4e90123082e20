/-
  Contracts of the functions on slices of MacRow.
-/
import Derived.Test.YtjlnbjabehpncaaRow
import Derived.Test.YtjlnbjabehpncaaTxt
import Derived.Test.YtjlnbjabehpncaaReg
import Derived.LoopTactic
import Derived.StillTailTactics
import Derived.OwnWalk
import Derived.WalkSpells
namespace Go.Proofs.Ytjlnbjabehpncaa
open Go.RowKit

abbrev RMacRow := ByteArray × Int
def eMacRow (x : RMacRow) : List Value := [.string x.1, .int .i64 x.2]
theorem eMacRow_len (x : RMacRow) : (eMacRow x).length = 2 := rfl
def zMacRow : List Value := [.string ⟨#[]⟩, .int .i64 0]
theorem zMacRow_len : zMacRow.length = 2 := rfl
abbrev OwnMacRow (w : World) (base : Nat) (v : Value) (l : List RMacRow) : Prop := OwnE eMacRow 87 2 w base v l
abbrev RdMacRow (w : World) (v : Value) (l : List RMacRow) : Prop := Rd w w.heap.size v l.length (cellsOf eMacRow l)
/-- The strings of a list fit. -/
def FitMacRow (l : List RMacRow) : Prop := ∀ x ∈ l, x.1.size ≤ maxLen

theorem info_MacRow : (Try.prog.info? 87).map (fun i => (i.zero, i.size, i.bytes)) = some (some (.agg #[.string ⟨#[]⟩, .int .i64 0]), 2, 24) := by kernel_rfl

theorem toMacRow_any (x0 : ByteArray) (x1 : Int) (w : World) :
    Calls Try.prog 96 #[.agg #[.string x0, .int .i64 x1]] w fun e w' => e = .returned (.agg #[.string x0, .int .i64 x1]) ∧ Below w.heap.size w w' := by
  go_enter Try.func96, Try.ntmps96
  go_wp2
  exact bodyPost_ret (v := .agg #[.string x0, .int .i64 x1]) (by simp [results, Try.results96, go_sem]) rfl ⟨rfl, (by repeat (first | with_reducible exact Below.refl _ _ | with_reducible assumption | with_reducible refine Below.drew ?_ | with_reducible refine Below.alloc ?_ (by first | exact Nat.le_refl _ | omega | (simp; done) | (simp; omega)) _ | with_reducible refine Below.setCell ?_ (by first | exact Nat.le_refl _ | omega | (simp; done) | (simp; omega)) _ | (with_reducible refine ext_trans ?_ (by with_reducible assumption))))⟩
theorem eqMacRow_same (x0 : ByteArray) (x1 : Int) (w : World) :
    Calls Try.prog 93 #[.agg #[.string x0, .int .i64 x1], .agg #[.string x0, .int .i64 x1]] w fun e w' => e = .returned (.bool true) ∧ Below w.heap.size w w' := by
  go_enter Try.func93, Try.ntmps93
  go_wp2
  go_ret
  exact ⟨rfl, (by repeat (first | with_reducible exact Below.refl _ _ | with_reducible assumption | with_reducible refine Below.drew ?_ | with_reducible refine Below.alloc ?_ (by first | exact Nat.le_refl _ | omega | (simp; done) | (simp; omega)) _ | with_reducible refine Below.setCell ?_ (by first | exact Nat.le_refl _ | omega | (simp; done) | (simp; omega)) _ | (with_reducible refine ext_trans ?_ (by with_reducible assumption))))⟩

def fillMacRow (l : List RMacRow) (k : Nat) : List Value := cellsOf eMacRow (l.take k) ++ cellsOf (fun _ => zMacRow) (List.replicate (l.length - k) ())
theorem fillMacRow_start (l : List RMacRow) : (madeCells #[.string ⟨#[]⟩, .int .i64 0] (l.length * 2)).toList = fillMacRow l 0 := by
  unfold fillMacRow
  simp only [List.take_zero, cells_nil, List.nil_append, Nat.sub_zero]
  apply List.ext_getElem?
  intro i
  by_cases h : i < l.length * 2
  · have hk : i / 2 < l.length := by omega
    have hj : i % 2 < 2 := by omega
    have e1 := cells_at (enc := fun _ : Unit => zMacRow) (m := 2) (fun _ => rfl) (List.replicate l.length ()) (i / 2) (i % 2) (by simpa using hk) hj
    have e2 : i / 2 * 2 + i % 2 = i := by omega
    rw [e2] at e1
    rw [e1]
    have hj' : i % 2 < ([.string ⟨#[]⟩, .int .i64 0] : List Value).length := hj
    simp only [madeCells, zMacRow]
    simp [h]
    rw [List.getElem?_eq_getElem hj']
    rfl
  · rw [List.getElem?_eq_none, List.getElem?_eq_none]
    · rw [cells_len (m := 2) (fun _ => rfl)]
      simpa using h
    · simp [madeCells]
      omega
theorem fillMacRow_step (l : List RMacRow) (k : Nat) (hk : k < l.length) : ((fillMacRow l k).set (k * 2) (.string l[k].1)).set (k * 2 + 1) (.int .i64 l[k].2) = fillMacRow l (k + 1) := by
  unfold fillMacRow
  have hl : (cellsOf eMacRow (l.take k)).length = k * 2 := by
    rw [cells_len (m := 2) eMacRow_len, List.length_take]
    congr 1
    omega
  have hr : l.length - k = (l.length - (k + 1)) + 1 := by omega
  rw [hr, List.replicate_succ, cells_cons, List.take_succ_eq_append_getElem hk, cells_append, cells_cons, cells_nil]
  generalize cellsOf eMacRow (l.take k) = P at hl
  generalize cellsOf (fun _ => zMacRow) (List.replicate (l.length - (k + 1)) ()) = Q
  refine (set2 (β := Value) _ _ _ (.string l[k].1) (.int .i64 l[k].2) Q _ hl).trans ?_
  simp [eMacRow]
theorem fillMacRow_end (l : List RMacRow) : fillMacRow l l.length = cellsOf eMacRow l := by
  unfold fillMacRow
  simp [cells_nil]
theorem fillMacRow_len (l : List RMacRow) (k : Nat) (hk : k ≤ l.length) : (fillMacRow l k).length = l.length * 2 := by
  unfold fillMacRow
  rw [List.length_append, cells_len (m := 2) eMacRow_len, cells_len (m := 2) (fun _ => zMacRow_len), List.length_take, List.length_replicate, ← Nat.add_mul]
  congr 1
  omega

/-- A slice made anew, that bears the list l. -/
def NewMacRow (W : World) (l : List RMacRow) (e : Ending) (w' : World) : Prop :=
  ∃ v, e = .returned v ∧ OwnMacRow w' W.heap.size v l ∧ Below W.heap.size W w'
set_option maxRecDepth 100000 in
theorem toMacRowS_any (v : Value) (l : List RMacRow) (hn : l.length ≤ 1048576) (w : World) (h : RdMacRow w v l) :
    Calls Try.prog 70 #[v] w (NewMacRow w l) := by
  obtain ⟨A, c, rfl, _⟩ := id h
  have HH := Lib.hid h
  clear h
  have hmk := run_make_rec (P := Try.prog) 25 87 _ _ _ Try.underlying25 info_MacRow l.length (by omega) (by omega)
  go_enter Try.func70, Try.ntmps70
  go_wp2_with fail
  clear hmk
  go_loopw [4] (fun i wr => ∃ k : Nat, k ≤ l.length ∧ i = .int .i64 k ∧ wr.heap[w.heap.size]? = some (.cells (fillMacRow l k).toArray 87 (0, 0)) ∧ Below w.heap.size w wr) (fun i _ => l.length - (intOf i).toNat)
  case atStart =>
    refine ⟨0, by omega, rfl, ?_, (by repeat (first | with_reducible exact Below.refl _ _ | with_reducible assumption | with_reducible refine Below.drew ?_ | with_reducible refine Below.alloc ?_ (by first | exact Nat.le_refl _ | omega | (simp; done) | (simp; omega)) _ | with_reducible refine Below.setCell ?_ (by first | exact Nat.le_refl _ | omega | (simp; done) | (simp; omega)) _ | (with_reducible refine ext_trans ?_ (by with_reducible assumption))))⟩
    rw [← fillMacRow_start, heap_alloc_new]
  case round =>
    obtain ⟨k, hk, rfl, hrow, hb⟩ := hrel
    by_cases hlt : k < l.length
    · obtain ⟨b, off, rfl, hbB, hcell⟩ := HH.out.elem eMacRow_len (by omega) k hlt
      have c0 : wr.cell? ⟨b, off + k * 2, none⟩ = some (.string l[k].1) := (hb.cell (p := ⟨b, _, none⟩) hbB).trans (hcell 0 (by omega))
      have c1 : wr.cell? ⟨b, off + k * 2 + 1, none⟩ = some (.int .i64 l[k].2) := (hb.cell (p := ⟨b, _, none⟩) hbB).trans (hcell 1 (by omega))
      have hst := fillMacRow_step l k hlt
      have hlen : (fillMacRow l k).length = l.length * 2 := fillMacRow_len l k hk
      generalize hx0 : l[k].1 = x0 at c0 hst
      generalize hx1 : l[k].2 = x1 at c1 hst
      have HR := Lib.hid hrow
      have HS := Lib.hid hst
      have HL := Lib.hid hlen
      have hnk : (k : Int) < (l.length : Int) := by omega
      clear hcell hrow hst hlen hx0 hx1
      have hlw : w.heap.size < wr.heap.size := (Array.getElem?_eq_some_iff.1 HR.out).1
      go_wp2_with fail
      refine (toMacRow_any x0 x1 _).mono ?_
      rintro e w1 ⟨rfl, hb1⟩
      obtain ⟨hc1, hf1⟩ := bcell hb1
      have hz1 := hb1.size
      (try simp at hz1)
      have hy1_0 : w.heap.size < w1.heap.size := by omega
      have hrow1 := (hb1.block (w.heap.size) hlw).trans HR.out
      obtain ⟨v0, d0⟩ : ∃ v, w1.cell? ⟨w.heap.size, k * 2, none⟩ = some v := ⟨_, (cell_of_row _ _ (k * 2) _ _ _ hrow1).trans (List.getElem?_toArray.trans (List.getElem?_eq_getElem (by rw [HL.out]; omega)))⟩
      obtain ⟨v1, d1⟩ : ∃ v, w1.cell? ⟨w.heap.size, k * 2 + 1, none⟩ = some v := ⟨_, (cell_of_row _ _ (k * 2 + 1) _ _ _ hrow1).trans (List.getElem?_toArray.trans (List.getElem?_eq_getElem (by rw [HL.out]; omega)))⟩
      have f0 := frozen_of_row _ _ (k * 2) _ _ hrow1
      have f1 := frozen_of_row _ _ (k * 2 + 1) _ _ hrow1
      have HR1 := Lib.hid hrow1
      clear hrow1 hc1 hf1
      have hst := (heap_setCell_same _ _ (k * 2 + 1) _ _ (.int .i64 x1) (heap_setCell_same _ _ (k * 2) _ _ (.string x0) HR1.out)).trans (by rw [List.setIfInBounds_toArray, List.setIfInBounds_toArray, HS.out])
      have HST := Lib.hid hst
      clear hst
      go_wp2_with fail
      exact ⟨⟨k + 1, by omega, by go_num, HST.out, (by repeat (first | with_reducible exact Below.refl _ _ | with_reducible assumption | with_reducible refine Below.drew ?_ | with_reducible refine Below.alloc ?_ (by first | exact Nat.le_refl _ | omega | (simp; done) | (simp; omega)) _ | with_reducible refine Below.setCell ?_ (by first | exact Nat.le_refl _ | omega | (simp; done) | (simp; omega)) _ | (with_reducible refine ext_trans ?_ (by with_reducible assumption))))⟩, by simp [intOf]; omega⟩
    · obtain rfl : k = l.length := by omega
      rw [fillMacRow_end] at hrow
      have HR := Lib.hid hrow
      clear hrow
      go_wp2_with fail
      go_ret
      exact ⟨_, rfl, .inl ⟨by rw [cells_len (m := 2) eMacRow_len], .inr ⟨w.heap.size, l.length, _, rfl, Nat.le_refl _, HR.out, Nat.le_refl _, by unfold maxLen; omega, by simp [cells_len (m := 2) eMacRow_len], by rw [← cells_len (m := 2) eMacRow_len]; simp⟩⟩, hb⟩

/-- What the measure of a list says. -/
def SzMacRow (l : List RMacRow) (left : Int) (w : World) (e : Ending) (w' : World) : Prop :=
  ∃ x : Int, e = .returned (.int .i64 x) ∧ (-1 ≤ x ∧ x ≤ left) ∧ Hid (0 ≤ x → (l.length : Int) + x ≤ left) ∧ Below w.heap.size w w'
theorem szMacRow_any (x0 : ByteArray) (x1 : Int) (left : Int) (h1 : -1 ≤ left) (h2 : left ≤ 1048576) (hs : x0.size ≤ maxLen) (w : World) :
    Calls Try.prog 95 #[.agg #[.string x0, .int .i64 x1], .int .i64 left] w fun e w' => (e = .returned (.int .i64 (if left - x0.size < 0 then -1 else left - x0.size))) ∧ Below w.heap.size w w' := by
  unfold maxLen at hs
  by_cases h : left - x0.size < 0
  · rw [if_pos h]
    go_enter Try.func95, Try.ntmps95
    go_wp2
    go_ret
    exact ⟨rfl, (by repeat (first | with_reducible exact Below.refl _ _ | with_reducible assumption | with_reducible refine Below.drew ?_ | with_reducible refine Below.alloc ?_ (by first | exact Nat.le_refl _ | omega | (simp; done) | (simp; omega)) _ | with_reducible refine Below.setCell ?_ (by first | exact Nat.le_refl _ | omega | (simp; done) | (simp; omega)) _ | (with_reducible refine ext_trans ?_ (by with_reducible assumption))))⟩
  · rw [if_neg h]
    go_enter Try.func95, Try.ntmps95
    go_wp2
    go_ret
    exact ⟨rfl, (by repeat (first | with_reducible exact Below.refl _ _ | with_reducible assumption | with_reducible refine Below.drew ?_ | with_reducible refine Below.alloc ?_ (by first | exact Nat.le_refl _ | omega | (simp; done) | (simp; omega)) _ | with_reducible refine Below.setCell ?_ (by first | exact Nat.le_refl _ | omega | (simp; done) | (simp; omega)) _ | (with_reducible refine ext_trans ?_ (by with_reducible assumption))))⟩
set_option maxRecDepth 100000 in
theorem szMacRowS_any (v : Value) (l : List RMacRow) (hfit : FitMacRow l) (hn : l.length ≤ maxLen) (left : Int) (h1 : 0 ≤ left) (h2 : left ≤ 1048576) (w : World) (h : RdMacRow w v l) :
    Calls Try.prog 69 #[v, .int .i64 left] w (SzMacRow l left w) := by
  unfold maxLen at hn
  obtain ⟨A, c, rfl, _⟩ := id h
  have HH := Lib.hid h
  have HF := Lib.hid hfit
  clear h hfit
  by_cases hl : left - l.length < 0
  · go_enter Try.func69, Try.ntmps69
    go_wp2_with fail
    go_ret
    exact ⟨_, rfl, ⟨by omega, by omega⟩, (fun h => absurd h (by omega) : (0 : Int) ≤ -1 → _), (by repeat (first | with_reducible exact Below.refl _ _ | with_reducible assumption | with_reducible refine Below.drew ?_ | with_reducible refine Below.alloc ?_ (by first | exact Nat.le_refl _ | omega | (simp; done) | (simp; omega)) _ | with_reducible refine Below.setCell ?_ (by first | exact Nat.le_refl _ | omega | (simp; done) | (simp; omega)) _ | (with_reducible refine ext_trans ?_ (by with_reducible assumption))))⟩
  · go_enter Try.func69, Try.ntmps69
    go_wp2_with fail
    go_loopw [1, 5] (fun y i wr => ∃ (k : Nat) (x : Int), k ≤ l.length ∧ i = .int .i64 k ∧ y = .int .i64 x ∧ 0 ≤ x ∧ x ≤ left - l.length ∧ Below w.heap.size w wr) (fun _ i _ => l.length - (intOf i).toNat)
    case atStart => exact ⟨0, _, by omega, rfl, rfl, by omega, by omega, (by repeat (first | with_reducible exact Below.refl _ _ | with_reducible assumption | with_reducible refine Below.drew ?_ | with_reducible refine Below.alloc ?_ (by first | exact Nat.le_refl _ | omega | (simp; done) | (simp; omega)) _ | with_reducible refine Below.setCell ?_ (by first | exact Nat.le_refl _ | omega | (simp; done) | (simp; omega)) _ | (with_reducible refine ext_trans ?_ (by with_reducible assumption))))⟩
    case round =>
      obtain ⟨k, x, hk, rfl, rfl, hx0, hx1, hb⟩ := hrel
      have hbs := hb.size
      by_cases hlt : k < l.length
      · obtain ⟨b, off, rfl, hbB, hcell⟩ := HH.out.elem eMacRow_len (by omega) k hlt
        have c0 : wr.cell? ⟨b, off + k * 2, none⟩ = some (.string l[k].1) := (hb.cell (p := ⟨b, _, none⟩) hbB).trans (hcell 0 (by omega))
        have c1 : wr.cell? ⟨b, off + k * 2 + 1, none⟩ = some (.int .i64 l[k].2) := (hb.cell (p := ⟨b, _, none⟩) hbB).trans (hcell 1 (by omega))
        have hft := HF.out l[k] (by simp)
        generalize hx0 : l[k].1 = x0 at c0
        generalize hx1 : l[k].2 = x1 at c1
        simp only [hx0] at hft
        have hz := szMacRow_any x0 x1 x (by omega) (by omega) hft
        have hnk : (k : Int) < (l.length : Int) := by omega
        clear hcell hx0 hx1
        by_cases hlx : x - x0.size < 0
        · simp only [if_pos hlx] at hz
          have HZ := Lib.hid hz
          clear hz
          go_wp2_with fail
          refine (HZ.out _).mono ?_
          rintro e w1 ⟨rfl, hb1⟩
          obtain ⟨hc1, hf1⟩ := bcell hb1
          have hz1 := hb1.size
          (try simp at hz1)
          go_wp2_with fail
          go_ret
          exact ⟨_, rfl, ⟨by omega, by omega⟩, (fun h => absurd h (by omega) : (0 : Int) ≤ -1 → _), (by repeat (first | with_reducible exact Below.refl _ _ | with_reducible assumption | with_reducible refine Below.drew ?_ | with_reducible refine Below.alloc ?_ (by first | exact Nat.le_refl _ | omega | (simp; done) | (simp; omega)) _ | with_reducible refine Below.setCell ?_ (by first | exact Nat.le_refl _ | omega | (simp; done) | (simp; omega)) _ | (with_reducible refine ext_trans ?_ (by with_reducible assumption))))⟩
        · simp only [if_neg hlx] at hz
          have HZ := Lib.hid hz
          clear hz
          go_wp2_with fail
          refine (HZ.out _).mono ?_
          rintro e w1 ⟨rfl, hb1⟩
          obtain ⟨hc1, hf1⟩ := bcell hb1
          have hz1 := hb1.size
          (try simp at hz1)
          have hlx' : 0 ≤ x - (x0.size : Int) := by omega
          go_wp2_with fail
          exact ⟨⟨k + 1, _, by omega, by go_num, rfl, by omega, by omega, (by repeat (first | with_reducible exact Below.refl _ _ | with_reducible assumption | with_reducible refine Below.drew ?_ | with_reducible refine Below.alloc ?_ (by first | exact Nat.le_refl _ | omega | (simp; done) | (simp; omega)) _ | with_reducible refine Below.setCell ?_ (by first | exact Nat.le_refl _ | omega | (simp; done) | (simp; omega)) _ | (with_reducible refine ext_trans ?_ (by with_reducible assumption))))⟩, by simp [intOf]; omega⟩
      · go_wp2_with fail
        go_ret
        exact ⟨_, rfl, ⟨by omega, by omega⟩, (fun _ => by omega : (0 : Int) ≤ x → _), hb⟩

set_option maxRecDepth 100000 in
set_option maxHeartbeats 1000000 in
theorem eqMacRowS_same (v1 v2 : Value) (l : List RMacRow) (hn : l.length ≤ maxLen) (w : World) (h1 : RdMacRow w v1 l) (h2 : RdMacRow w v2 l) :
    Calls Try.prog 66 #[v1, v2] w fun e w' => e = .returned (.bool true) ∧ Below w.heap.size w w' := by
  unfold maxLen at hn
  obtain ⟨A1, n1, rfl, _⟩ := id h1
  obtain ⟨A2, n2, rfl, _⟩ := id h2
  have H1 := Lib.hid h1
  have H2 := Lib.hid h2
  clear h1 h2
  go_enter Try.func66, Try.ntmps66
  go_wp2_with fail
  go_loopw [5] (fun i wr => ∃ k : Nat, k ≤ l.length ∧ i = .int .i64 k ∧ Below w.heap.size w wr) (fun i _ => l.length - (intOf i).toNat)
  case atStart => exact ⟨0, by omega, rfl, (by repeat (first | with_reducible exact Below.refl _ _ | with_reducible assumption | with_reducible refine Below.drew ?_ | with_reducible refine Below.alloc ?_ (by first | exact Nat.le_refl _ | omega | (simp; done) | (simp; omega)) _ | with_reducible refine Below.setCell ?_ (by first | exact Nat.le_refl _ | omega | (simp; done) | (simp; omega)) _ | (with_reducible refine ext_trans ?_ (by with_reducible assumption))))⟩
  case round =>
    obtain ⟨k, hk, rfl, hb⟩ := hrel
    have hbs := hb.size
    by_cases hlt : k < l.length
    · obtain ⟨b1, off1, rfl, hbB1, hcell1⟩ := H1.out.elem eMacRow_len (by omega) k hlt
      obtain ⟨b2, off2, rfl, hbB2, hcell2⟩ := H2.out.elem eMacRow_len (by omega) k hlt
      have c10 : wr.cell? ⟨b1, off1 + k * 2, none⟩ = some (.string l[k].1) := (hb.cell (p := ⟨b1, _, none⟩) hbB1).trans (hcell1 0 (by omega))
      have c11 : wr.cell? ⟨b1, off1 + k * 2 + 1, none⟩ = some (.int .i64 l[k].2) := (hb.cell (p := ⟨b1, _, none⟩) hbB1).trans (hcell1 1 (by omega))
      have c20 : wr.cell? ⟨b2, off2 + k * 2, none⟩ = some (.string l[k].1) := (hb.cell (p := ⟨b2, _, none⟩) hbB2).trans (hcell2 0 (by omega))
      have c21 : wr.cell? ⟨b2, off2 + k * 2 + 1, none⟩ = some (.int .i64 l[k].2) := (hb.cell (p := ⟨b2, _, none⟩) hbB2).trans (hcell2 1 (by omega))
      generalize hx0 : l[k].1 = x0 at c10 c20
      generalize hx1 : l[k].2 = x1 at c11 c21
      have hk0 : (0 : Int) ≤ (k : Int) := by omega
      have hnk : (k : Int) < (l.length : Int) := by omega
      have hbd : Below w.heap.size w wr.drew := hb.drew
      have hbs : w.heap.size ≤ wr.drew.heap.size := hbs
      clear hcell1 hcell2 hx0 hx1
      go_wp2_with fail
      refine wp_region_still_tail 8 (by kernel_rfl) (by kernel_rfl) ?_
      simp only [List.take_succ_cons, List.take_zero, List.drop_succ_cons, List.drop_zero]
      repeat (first | still_step)
      refine wpStill_nil ?_
      change wpList _ _ _ _ _ wr.drew
      generalize wr.drew = wd at *
      go_wp2_with fail
      refine (eqMacRow_same x0 x1 _).mono ?_
      rintro e w1 ⟨rfl, hb1⟩
      obtain ⟨hc1, hf1⟩ := bcell hb1
      have hz1 := hb1.size
      (try simp at hz1)
      go_wp2_with fail
      exact ⟨⟨k + 1, by omega, by go_num, (by repeat (first | with_reducible exact Below.refl _ _ | with_reducible assumption | with_reducible refine Below.drew ?_ | with_reducible refine Below.alloc ?_ (by first | exact Nat.le_refl _ | omega | (simp; done) | (simp; omega)) _ | with_reducible refine Below.setCell ?_ (by first | exact Nat.le_refl _ | omega | (simp; done) | (simp; omega)) _ | (with_reducible refine ext_trans ?_ (by with_reducible assumption))))⟩, by simp [intOf]; omega⟩
    · go_wp2_with fail
      go_ret
      exact ⟨rfl, hb⟩

/-- The n marks from k on. -/
def mkMacRow (k : Nat) : RMacRow := (markS (k), ((k + 1 : Nat) : Int))
def marksMacRow (n k : Nat) : List RMacRow := (List.range n).map fun i => mkMacRow (k + 2 * i)
theorem marksMacRow_len (n k : Nat) : (marksMacRow n k).length = n := by simp [marksMacRow]
theorem marksMacRow_succ (n k : Nat) : marksMacRow (n + 1) k = marksMacRow n k ++ [mkMacRow (k + 2 * n)] := by simp [marksMacRow, List.range_succ]
theorem marksMacRow_at (n k i : Nat) (h : i < (marksMacRow n k).length) : (marksMacRow n k)[i] = mkMacRow (k + 2 * i) := by simp [marksMacRow]
theorem marked_rdMacRow {w : World} {base n k : Nat} {v : Value} (h : OwnMacRow w base v (marksMacRow n k)) : Rd w w.heap.size v n (cellsOf eMacRow (marksMacRow n k)) := by
  have h1 := h.rd
  rw [marksMacRow_len] at h1
  exact h1
theorem markMacRow_step (l : List RMacRow) (k i : Nat) (hi : i < l.length) : ((cellsOf eMacRow (marksMacRow i k ++ l.drop i)).set (i * 2) (.string (mkMacRow (k + 2 * i)).1)).set (i * 2 + 1) (.int .i64 (mkMacRow (k + 2 * i)).2) = cellsOf eMacRow (marksMacRow (i + 1) k ++ l.drop (i + 1)) := by
  have hl : (cellsOf eMacRow (marksMacRow i k)).length = i * 2 := by rw [cells_len (m := 2) eMacRow_len, marksMacRow_len]
  rw [List.drop_eq_getElem_cons hi, marksMacRow_succ, cells_append, cells_cons, cells_append, cells_append, cells_cons, cells_nil]
  generalize cellsOf eMacRow (marksMacRow i k) = P at hl
  generalize cellsOf eMacRow (l.drop (i + 1)) = Q
  refine (set2 (β := Value) _ _ _ (.string (mkMacRow (k + 2 * i)).1) (.int .i64 (mkMacRow (k + 2 * i)).2) Q _ hl).trans ?_
  simp [eMacRow]
/-- What marking leaves. -/
def MarkedMacRow (v : Value) (n k base : Nat) (w : World) (e : Ending) (w' : World) : Prop :=
  e = .returned (.int .i64 ((k + 2 * n : Nat) : Int)) ∧ OwnMacRow w' base v (marksMacRow n k) ∧ w.grownBy w' (chg v (marksMacRow n k))
set_option maxRecDepth 100000 in
set_option maxHeartbeats 1000000 in
theorem markMacRowS_any (v : Value) (l : List RMacRow) (hn : l.length ≤ 1048576) (k : Nat) (hk1 : 1 ≤ k) (hk2 : k ≤ 100000000) (base : Nat) (w : World) (h : OwnMacRow w base v l) :
    Calls Try.prog 67 #[v, .int .i64 k] w (MarkedMacRow v l.length k base w) := by
  by_cases h0 : l = []
  · obtain ⟨A, c, rfl⟩ := h.form
    subst h0
    have HN := Lib.hid h
    clear h
    go_enter Try.func67, Try.ntmps67
    go_wp2_with fail
    refine wp_loop_rounds 1 ?_
    rw [rounds_succ]
    go_wp2_with fail
    go_ret
    exact ⟨rfl, HN.out, World.grownBy.refl _ _⟩
  · obtain ⟨g, c, rfl, hg, hgw⟩ := h.at h0
    have hown : w.ownsRow base 87 2 (.slice (some ⟨g, 0, none⟩) l.length c) l.length (cellsOf eMacRow l) := h.resolve_right fun h => h0 h.1
    have HO := Lib.hid hown
    have H0 := Lib.hid h0
    clear hown h h0
    go_enter Try.func67, Try.ntmps67
    go_wp2_with fail
    go_loopw [1, 5] (fun x y wr => ∃ i : Nat, i ≤ l.length ∧ y = .int .i64 i ∧ x = .int .i64 ((k + 2 * i : Nat) : Int) ∧ Hid (wr.ownsRow base 87 2 (.slice (some ⟨g, 0, none⟩) l.length c) l.length (cellsOf eMacRow (marksMacRow i k ++ l.drop i))) ∧ w.grownBy wr (some g)) (fun _ y _ => l.length - (intOf y).toNat)
    case atStart => exact ⟨0, by omega, rfl, rfl, HO.out, World.grownBy.refl _ _⟩
    case round =>
      obtain ⟨i, hi, rfl, rfl, hown, hgr⟩ := hrel
      by_cases hlt : i < l.length
      · have hst := markMacRow_step l k i hlt
        have hlen : (cellsOf eMacRow (marksMacRow i k ++ l.drop i)).length = l.length * 2 := by
          rw [cells_len (m := 2) eMacRow_len, List.length_append, marksMacRow_len, List.length_drop]
          congr 1
          omega
        obtain ⟨q, hq⟩ : ∃ q, k + 2 * i = q := ⟨_, rfl⟩
        rw [hq] at hst
        have hq1 : 1 ≤ q := by omega
        have hq2 : q ≤ 900000000 := by omega
        have hq3 : k + 2 * (i + 1) = q + 2 := by omega
        have hgs : g < wr.heap.size := Nat.lt_of_lt_of_le hgw hgr.size
        simp only [hq]
        have HQ := Lib.hid hq
        have HQ3 := Lib.hid hq3
        have HST := Lib.hid hst
        have HL := Lib.hid hlen
        have hni : (i : Int) < (l.length : Int) := by omega
        clear hst hlen hq hq3
        have hmt0 := fun W => markText_any (q) (by omega) (by omega) W
        have HMT0 := Lib.hid hmt0
        clear hmt0
        go_wp2_with fail
        refine (HMT0.out _).mono ?_
        rintro e w1 ⟨rfl, hb1⟩
        obtain ⟨hc1, hf1⟩ := bcell hb1
        have hz1 := hb1.size
        (try simp at hz1)
        have hown1a := Lib.hid (hown.out.kept (grown_below hb1 none) (by simp [Value.ownBlock]))
        have hgr1a := only_trans' hgr (grown_below hb1 (some g))
        clear hown hgr hc1 hf1
        obtain ⟨o0, d0⟩ : ∃ v, w1.cell? ⟨g, i * 2, none⟩ = some v := ⟨_, (hown1a.out.cellAt (i * 2) (by omega)).trans (List.getElem?_eq_getElem (by first | (rw [HL.out]; omega) | (simp only [List.length_set]; rw [HL.out]; omega)))⟩
        have f0 := hown1a.out.frozenAt (i * 2)
        have hs0 := hown1a.out.stored (i * 2) (.string (markS (q)))
        have hown0b := Lib.hid hs0.1
        have hgrX := only_trans' hgr1a hs0.2
        clear hs0
        obtain ⟨o1, d1⟩ : ∃ v, (w1.setCell ⟨g, i * 2, none⟩ (.string (markS (q)))).cell? ⟨g, i * 2 + 1, none⟩ = some v := ⟨_, (hown0b.out.cellAt (i * 2 + 1) (by omega)).trans (List.getElem?_eq_getElem (by first | (rw [HL.out]; omega) | (simp only [List.length_set]; rw [HL.out]; omega)))⟩
        have f1 := hown0b.out.frozenAt (i * 2 + 1)
        have hs1 := hown0b.out.stored (i * 2 + 1) (.int .i64 (((q + 1 : Nat)) : Int))
        have hown1b := Lib.hid hs1.1
        have hgrX := only_trans' hgrX hs1.2
        clear hs1
        go_wp2_with fail
        refine ⟨⟨i + 1, by omega, by go_num, ?_, ?_, hgrX⟩, by simp [intOf]; omega⟩
        · rw [HQ3.out]
          exact congrArg (Value.int .i64) (by omega)
        · rw [← HST.out]
          exact hown1b.out
      · obtain rfl : i = l.length := by omega
        go_wp2_with fail
        go_ret
        have hm : marksMacRow l.length k ≠ [] := fun h => H0.out (List.eq_nil_of_length_eq_zero (by rw [← marksMacRow_len l.length k, h]; rfl))
        have h1 := hown.out
        rw [List.drop_length, List.append_nil] at h1
        refine ⟨rfl, .inl ?_, ?_⟩
        · rw [marksMacRow_len]
          exact h1
        · unfold chg
          rw [marksMacRow_len, if_neg (fun h => H0.out (List.eq_nil_of_length_eq_zero h))]
          exact hgr

set_option maxRecDepth 100000 in
set_option maxHeartbeats 1000000 in
theorem heldMacRowS_any (v : Value) (n : Nat) (hn : n ≤ 1048576) (k : Nat) (hk1 : 1 ≤ k) (hk2 : k ≤ 100000000) (w : World) (h : Rd w w.heap.size v n (cellsOf eMacRow (marksMacRow n k))) :
    Calls Try.prog 68 #[v, .int .i64 k] w fun e w' => e = .returned (.int .i64 ((k + 2 * n : Nat) : Int)) ∧ Below w.heap.size w w' := by
  obtain ⟨A, c, rfl, _⟩ := id h
  have HH := Lib.hid h
  clear h
  go_enter Try.func68, Try.ntmps68
  go_wp2_with fail
  go_loopw [1, 5] (fun x y wr => ∃ i : Nat, i ≤ n ∧ y = .int .i64 i ∧ x = .int .i64 ((k + 2 * i : Nat) : Int) ∧ Below w.heap.size w wr) (fun _ y _ => n - (intOf y).toNat)
  case atStart => exact ⟨0, by omega, rfl, rfl, (by repeat (first | with_reducible exact Below.refl _ _ | with_reducible assumption | with_reducible refine Below.drew ?_ | with_reducible refine Below.alloc ?_ (by first | exact Nat.le_refl _ | omega | (simp; done) | (simp; omega)) _ | with_reducible refine Below.setCell ?_ (by first | exact Nat.le_refl _ | omega | (simp; done) | (simp; omega)) _ | (with_reducible refine ext_trans ?_ (by with_reducible assumption))))⟩
  case round =>
    obtain ⟨i, hi, rfl, rfl, hb⟩ := hrel
    obtain ⟨wl, rfl⟩ : ∃ wl : World, wl = wr := ⟨_, rfl⟩
    have hbs := hb.size
    by_cases hlt : i < n
    · obtain ⟨b, off, rfl, hbB, hcell⟩ := HH.out.elem eMacRow_len (by omega) i (by rw [marksMacRow_len]; exact hlt)
      rw [marksMacRow_at] at hcell
      obtain ⟨q, hq⟩ : ∃ q, k + 2 * i = q := ⟨_, rfl⟩
      rw [hq] at hcell
      have hq1 : 1 ≤ q := by omega
      have hq2 : q ≤ 900000000 := by omega
      have hq3 : k + 2 * (i + 1) = q + 2 := by omega
      simp only [hq]
      have HQ := Lib.hid hq
      have HQ3 := Lib.hid hq3
      have HC := Lib.hid hcell
      clear hq hq3 hcell
      have hk0 : (0 : Int) ≤ (i : Int) := by omega
      have hni : (i : Int) < (n : Int) := by omega
      have hmt0 := fun W => markText_any (q) (by omega) (by omega) W
      have HMT0 := Lib.hid hmt0
      clear hmt0
      have c0 : wl.cell? ⟨b, off + i * 2, none⟩ = some (.string (markS (q))) := (hb.cell (p := ⟨b, _, none⟩) (by omega)).trans (HC.out 0 (by omega))
      have hbl1 : b < wl.heap.size := by omega
      go_wp2_with fail
      first | go_region_held3 (fun w' => (∀ b' o, b' < (wl).heap.size → w'.cell? ⟨b', o, none⟩ = (wl).cell? ⟨b', o, none⟩) ∧ Below (wl).heap.size (wl) w') (first | with_reducible assumption | (with_reducible apply rg_keep; rotate_left; with_reducible assumption; with_reducible assumption) | with_reducible exact rg_start _ | with_reducible exact rg_alloc (KeptS.out (by with_reducible assumption)) _ | with_reducible exact rg_alloc (by with_reducible assumption) _ | with_reducible exact rg_start_alloc _ _ | ((repeat (with_reducible refine rg_set ?_ _ (by first | exact Nat.le_refl _ | omega | (simp; done) | (simp; omega)) _)); first | with_reducible exact KeptS.out (by with_reducible assumption) | with_reducible assumption | with_reducible exact rg_alloc (KeptS.out (by with_reducible assumption)) _)) (first | (go_at_call 94; ((with_reducible refine (HMT0.out _).mono ?_); rintro e wr ⟨rfl, hbn⟩; have hS := rg_keepK (by with_reducible assumption) hbn; have hL := hS.size; (try have hZ := row_after hbn); (try have hZ := row_after_drew hbn); (try have hZ := row_kept (by assumption) hbn); (try (have rz := row_facts hZ; obtain ⟨rz0, rz1, rz2, rz3, rz4, rz5, fz⟩ := rz))))) | fail
      have hR1 := (by assumption : _ ∧ Below wl.heap.size wl wr).2
      have hbw1 := ext_trans hb hR1
      have hbz1 := hbw1.size
      rename World => w1
      have c1 : wl.cell? ⟨b, off + i * 2 + 1, none⟩ = some (.int .i64 ((q : Int) + 1)) := (hb.cell (p := ⟨b, _, none⟩) (by omega)).trans (HC.out 1 (by omega))
      go_wp2_with fail
      refine ⟨⟨i + 1, by omega, by go_num, ?_, (by repeat (first | with_reducible exact Below.refl _ _ | with_reducible assumption | with_reducible refine Below.drew ?_ | with_reducible refine Below.alloc ?_ (by first | exact Nat.le_refl _ | omega | (simp; done) | (simp; omega)) _ | with_reducible refine Below.setCell ?_ (by first | exact Nat.le_refl _ | omega | (simp; done) | (simp; omega)) _ | (with_reducible refine ext_trans ?_ (by with_reducible assumption))))⟩, by simp [intOf]; omega⟩
      rw [HQ3.out]
      exact congrArg (Value.int .i64) (by omega)
    · obtain rfl : i = n := by omega
      go_wp2_with fail
      go_ret
      exact ⟨rfl, hb⟩

set_option maxRecDepth 100000 in
set_option maxHeartbeats 1000000 in
theorem EqualMacRow_any (v1 v2 : Value) (l1 l2 : List RMacRow) (hn1 : l1.length ≤ maxLen) (_hn2 : l2.length ≤ maxLen) (w : World) (h1 : RdMacRow w v1 l1) (h2 : RdMacRow w v2 l2) :
    Calls Try.prog 85 #[v1, v2] w fun e w' => e = .returned (.bool (decide (l1 = l2))) ∧ Below w.heap.size w w' := by
  unfold maxLen at hn1 _hn2
  obtain ⟨A1, n1, rfl, -⟩ := id h1
  obtain ⟨A2, n2, rfl, -⟩ := id h2
  have H1 := Lib.hid h1
  have H2' := Lib.hid h2
  clear h1 h2
  by_cases hl : l1.length = l2.length
  · have H2 : Hid (Rd w w.heap.size (.slice A2 l1.length n2) l1.length (cellsOf eMacRow l2)) := by
      have h := H2'.out
      unfold RdMacRow at h
      rw [← hl] at h
      exact h
    clear H2'
    rw [← hl]
    have HL := Lib.hid hl
    clear hl _hn2
    go_enter Try.func85, Try.ntmps85
    go_wp2_with fail
    go_loopw [13] (fun i wr => ∃ k : Nat, k ≤ l1.length ∧ i = .int .i64 k ∧ Hid (l1.take k = l2.take k) ∧ Below w.heap.size w wr) (fun i _ => l1.length - (intOf i).toNat)
    case atStart => exact ⟨0, by omega, rfl, rfl, (by repeat (first | with_reducible exact Below.refl _ _ | with_reducible assumption | with_reducible refine Below.drew ?_ | with_reducible refine Below.alloc ?_ (by first | exact Nat.le_refl _ | omega | (simp; done) | (simp; omega)) _ | with_reducible refine Below.setCell ?_ (by first | exact Nat.le_refl _ | omega | (simp; done) | (simp; omega)) _ | (with_reducible refine ext_trans ?_ (by with_reducible assumption))))⟩
    case round =>
      obtain ⟨k, hk, rfl, htk, hb⟩ := hrel
      by_cases hlt1 : k < l1.length
      · have hlt2 : k < l2.length := by have := HL.out; omega
        obtain ⟨b1, off1, rfl, hbB1, hcell1⟩ := H1.out.elem eMacRow_len (by omega) k hlt1
        obtain ⟨z1, hz1⟩ : ∃ z, l1[k] = z := ⟨_, rfl⟩
        rw [hz1] at hcell1
        obtain ⟨x0, x1⟩ := z1
        have c10 : wr.cell? ⟨b1, off1 + k * 2, none⟩ = some (.string x0) := (hb.cell (p := ⟨b1, _, none⟩) hbB1).trans (hcell1 0 (by omega))
        have c11 : wr.cell? ⟨b1, off1 + k * 2 + 1, none⟩ = some (.int .i64 x1) := (hb.cell (p := ⟨b1, _, none⟩) hbB1).trans (hcell1 1 (by omega))
        have HZ1 := Lib.hid hz1
        clear hcell1 hz1
        obtain ⟨b2, off2, rfl, hbB2, hcell2⟩ := H2.out.elem eMacRow_len (by omega) k hlt2
        obtain ⟨z2, hz2⟩ : ∃ z, l2[k] = z := ⟨_, rfl⟩
        rw [hz2] at hcell2
        obtain ⟨y0, y1⟩ := z2
        have c20 : wr.cell? ⟨b2, off2 + k * 2, none⟩ = some (.string y0) := (hb.cell (p := ⟨b2, _, none⟩) hbB2).trans (hcell2 0 (by omega))
        have c21 : wr.cell? ⟨b2, off2 + k * 2 + 1, none⟩ = some (.int .i64 y1) := (hb.cell (p := ⟨b2, _, none⟩) hbB2).trans (hcell2 1 (by omega))
        have HZ2 := Lib.hid hz2
        clear hcell2 hz2
        have hk0 : (0 : Int) ≤ (k : Int) := by omega
        have hnk : (k : Int) < (l1.length : Int) := by omega
        have hbd : Below w.heap.size w wr.drew := hb.drew
        go_wp2_with fail
        refine wp_region_still_tail 8 (by kernel_rfl) (by kernel_rfl) ?_
        simp only [List.take_succ_cons, List.take_zero, List.drop_succ_cons, List.drop_zero]
        repeat (first | still_step)
        refine wpStill_nil ?_
        change wpList _ _ _ _ _ wr.drew
        generalize wr.drew = wd at *
        go_wp2_with fail
        case roundEnd => (have e0 : x0 = y0 := bytes_eq (by assumption); have e1 : x1 = y1 := (by assumption); subst e0 e1; exact ⟨⟨k + 1, by omega, by go_num, take_more htk.out hlt1 hlt2 HZ1.out HZ2.out, (by repeat (first | with_reducible exact Below.refl _ _ | with_reducible assumption | with_reducible refine Below.drew ?_ | with_reducible refine Below.alloc ?_ (by first | exact Nat.le_refl _ | omega | (simp; done) | (simp; omega)) _ | with_reducible refine Below.setCell ?_ (by first | exact Nat.le_refl _ | omega | (simp; done) | (simp; omega)) _ | (with_reducible refine ext_trans ?_ (by with_reducible assumption))))⟩, by simp [intOf]; omega⟩)
        all_goals (go_ret; exact ⟨by rw [list_ne hlt1 hlt2 HZ1.out HZ2.out (fun h => by cases h; exact absurd rfl (by assumption))]; rfl, (by repeat (first | with_reducible exact Below.refl _ _ | with_reducible assumption | with_reducible refine Below.drew ?_ | with_reducible refine Below.alloc ?_ (by first | exact Nat.le_refl _ | omega | (simp; done) | (simp; omega)) _ | with_reducible refine Below.setCell ?_ (by first | exact Nat.le_refl _ | omega | (simp; done) | (simp; omega)) _ | (with_reducible refine ext_trans ?_ (by with_reducible assumption))))⟩)
      · obtain rfl : k = l1.length := by omega
        go_wp2_with fail
        go_ret
        exact ⟨by rw [list_same HL.out htk.out]; rfl, hb⟩
  · have hne : ¬ ((l1.length : Int) = (l2.length : Int)) := by omega
    rw [list_len_ne hl]
    go_enter Try.func85, Try.ntmps85
    go_wp2_with fail
    go_ret
    exact ⟨rfl, (by repeat (first | with_reducible exact Below.refl _ _ | with_reducible assumption | with_reducible refine Below.drew ?_ | with_reducible refine Below.alloc ?_ (by first | exact Nat.le_refl _ | omega | (simp; done) | (simp; omega)) _ | with_reducible refine Below.setCell ?_ (by first | exact Nat.le_refl _ | omega | (simp; done) | (simp; omega)) _ | (with_reducible refine ext_trans ?_ (by with_reducible assumption))))⟩

theorem oneMacRow (l : List RMacRow) : ∀ u ∈ cellsOf eMacRow l, u.oneCell' = true := fun u hu => by
  obtain ⟨x, _, hx⟩ := List.mem_flatMap.1 hu
  simp only [eMacRow, List.mem_cons, List.not_mem_nil, or_false] at hx
  rcases hx with rfl | rfl <;> rfl
theorem Rd.newsMacRow {w : World} {ad : Addr} {n c : Nat} {l : List RMacRow} (h : Rd w w.heap.size (.slice (some ad) n c) n (cellsOf eMacRow l)) {w' : World} (hb : Below w.heap.size w w') : ∀ j u, (cellsOf eMacRow l)[j]? = some u → w'.cell? (ad.add j) = some u := fun j u hu => by
  obtain ⟨A, c', e, _, hx⟩ := h
  cases e
  have hl : 0 < (cellsOf eMacRow l).length := by
    have := (List.getElem?_eq_some_iff.1 hu).1
    omega
  obtain ⟨b, off, ea, hbB, hj⟩ := hx hl
  cases ea
  have ha : (⟨b, off, none⟩ : Addr).add j = ⟨b, off + j, none⟩ := by unfold Addr.add; split <;> simp_all
  rw [ha]
  exact (hb.cell (p := ⟨b, off + j, none⟩) hbB).trans (hj j u hu)
set_option maxRecDepth 100000 in
set_option maxHeartbeats 1000000 in
theorem CloneMacRow_any (v : Value) (l : List RMacRow) (hn : l.length ≤ 1048600) (w : World) (h : RdMacRow w v l) :
    Calls Try.prog 89 #[v] w (NewMacRow w l) := by
  obtain ⟨i0, hi, hz0, hz1, hz2⟩ := info_parts info_MacRow
  obtain ⟨A, c, rfl, ⟨hc1, hc2, hc3⟩, -⟩ := id h
  have HH := Lib.hid h
  clear h
  cases A with
  | none =>
    obtain rfl := hc3 rfl
    obtain rfl : l = [] := List.eq_nil_of_length_eq_zero (by omega)
    clear hc1 hc2 hc3
    have heq := fun W => Lib.run_eql_slice_nil (P := Try.prog) W 25 87 none 0 0 0 0 Try.underlying25
    go_enter Try.func89, Try.ntmps89
    go_wp2_with fail
    go_ret
    exact ⟨_, rfl, .inl (World.ownsRow_nil _ _ _ _), (by repeat (first | with_reducible exact Below.refl _ _ | with_reducible assumption | with_reducible refine Below.drew ?_ | with_reducible refine Below.alloc ?_ (by first | exact Nat.le_refl _ | omega | (simp; done) | (simp; omega)) _ | with_reducible refine Below.setCell ?_ (by first | exact Nat.le_refl _ | omega | (simp; done) | (simp; omega)) _ | (with_reducible refine ext_trans ?_ (by with_reducible assumption))))⟩
  | some ad =>
    clear hc3
    have heq := fun W => Lib.run_eql_slice_nil (P := Try.prog) W 25 87 (some ad) l.length c 0 0 Try.underlying25
    unfold maxLen at hc2
    go_enter Try.func89, Try.ntmps89
    go_wp2_with (refine wpList_append_own _ (by rfl) (.tmp 5) (.tmp 6) 25 (by rfl) w.heap.size 87 i0 _ 2 24 Try.underlying25 hi hz0 hz1 hz2 (by rfl) (by omega) (.slice (some ⟨w.heap.size, 0, none⟩) 0 0) 0 [] (by rfl) ?c1 ad l.length c (cellsOf eMacRow l) (by rfl) ?c2 ?c3 ?c4 ?c5 ?c6 ?c7 ?_)
    case c1 => exact World.ownsRow_made _ _ _ (Nat.le_refl _) (Nat.zero_le _) (by simp)
    case c2 => exact cells_len (m := 2) eMacRow_len l
    case c3 => exact HH.out.newsMacRow (by repeat (first | with_reducible exact Below.refl _ _ | with_reducible assumption | with_reducible refine Below.drew ?_ | with_reducible refine Below.alloc ?_ (by first | exact Nat.le_refl _ | omega | (simp; done) | (simp; omega)) _ | with_reducible refine Below.setCell ?_ (by first | exact Nat.le_refl _ | omega | (simp; done) | (simp; omega)) _ | (with_reducible refine ext_trans ?_ (by with_reducible assumption))))
    case c4 => exact oneMacRow l
    case c5 => unfold maxLen; omega
    case c6 => omega
    case c7 => simp
    intro v' w1 hown hgr _
    obtain ⟨A', c', rfl⟩ : ∃ A' c', v' = .slice A' l.length c' := OwnE.form (enc := eMacRow) (.inl hown)
    have HO := Lib.hid hown
    clear hown
    go_wp2_with fail
    go_ret
    exact ⟨_, rfl, .inl HO.out, Below.grown (by repeat (first | with_reducible exact Below.refl _ _ | with_reducible assumption | with_reducible refine Below.drew ?_ | with_reducible refine Below.alloc ?_ (by first | exact Nat.le_refl _ | omega | (simp; done) | (simp; omega)) _ | with_reducible refine Below.setCell ?_ (by first | exact Nat.le_refl _ | omega | (simp; done) | (simp; omega)) _ | (with_reducible refine ext_trans ?_ (by with_reducible assumption)))) hgr (by simp) (by simp [Value.ownBlock])⟩

end Go.Proofs.Ytjlnbjabehpncaa
