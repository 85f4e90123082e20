/-
  Contracts of the functions on slices of Entry.
-/
import Derived.Test.YteaniiponikpjaaRow
import Derived.Test.YteaniiponikpjaaTxt
import Derived.Test.YteaniiponikpjaaReg
import Derived.LoopTactic
import Derived.StillTailTactics
import Derived.OwnWalk
import Derived.WalkSpells
namespace Go.Proofs.Yteaniiponikpjaa
open Go.RowKit

abbrev REntry := Int × Int × Int
def eEntry (x : REntry) : List Value := [.int .i64 x.1, .int .i64 x.2.1, .int .i64 x.2.2]
theorem eEntry_len (x : REntry) : (eEntry x).length = 3 := rfl
def zEntry : List Value := [.int .i64 0, .int .i64 0, .int .i64 0]
theorem zEntry_len : zEntry.length = 3 := rfl
abbrev OwnEntry (w : World) (base : Nat) (v : Value) (l : List REntry) : Prop := OwnE eEntry 71 3 w base v l
abbrev RdEntry (w : World) (v : Value) (l : List REntry) : Prop := Rd w w.heap.size v l.length (cellsOf eEntry l)
/-- The strings of a list fit. -/
def FitEntry (l : List REntry) : Prop := ∀ x ∈ l, True

theorem info_Entry : (Try.prog.info? 71).map (fun i => (i.zero, i.size, i.bytes)) = some (some (.agg #[.int .i64 0, .int .i64 0, .int .i64 0]), 3, 24) := by kernel_rfl

theorem toEntry_any (x0 : Int) (x1 : Int) (x2 : Int) (w : World) :
    Calls Try.prog 50 #[.agg #[.int .i64 x0, .int .i64 x1, .int .i64 x2]] w fun e w' => e = .returned (.agg #[.int .i64 x0, .int .i64 x1, .int .i64 x2]) ∧ Below w.heap.size w w' := by
  go_enter Try.func50, Try.ntmps50
  go_wp2
  exact bodyPost_ret (v := .agg #[.int .i64 x0, .int .i64 x1, .int .i64 x2]) (by simp [results, Try.results50, go_sem]) rfl ⟨rfl, (by repeat (first | with_reducible exact Below.refl _ _ | with_reducible assumption | with_reducible refine Below.drew ?_ | with_reducible refine Below.alloc ?_ (by first | exact Nat.le_refl _ | omega | (simp; done) | (simp; omega)) _ | with_reducible refine Below.setCell ?_ (by first | exact Nat.le_refl _ | omega | (simp; done) | (simp; omega)) _ | (with_reducible refine ext_trans ?_ (by with_reducible assumption))))⟩
theorem eqEntry_same (x0 : Int) (x1 : Int) (x2 : Int) (w : World) :
    Calls Try.prog 51 #[.agg #[.int .i64 x0, .int .i64 x1, .int .i64 x2], .agg #[.int .i64 x0, .int .i64 x1, .int .i64 x2]] w fun e w' => e = .returned (.bool true) ∧ Below w.heap.size w w' := by
  go_enter Try.func51, Try.ntmps51
  go_wp2
  go_ret
  exact ⟨rfl, (by repeat (first | with_reducible exact Below.refl _ _ | with_reducible assumption | with_reducible refine Below.drew ?_ | with_reducible refine Below.alloc ?_ (by first | exact Nat.le_refl _ | omega | (simp; done) | (simp; omega)) _ | with_reducible refine Below.setCell ?_ (by first | exact Nat.le_refl _ | omega | (simp; done) | (simp; omega)) _ | (with_reducible refine ext_trans ?_ (by with_reducible assumption))))⟩

def fillEntry (l : List REntry) (k : Nat) : List Value := cellsOf eEntry (l.take k) ++ cellsOf (fun _ => zEntry) (List.replicate (l.length - k) ())
theorem fillEntry_start (l : List REntry) : (madeCells #[.int .i64 0, .int .i64 0, .int .i64 0] (l.length * 3)).toList = fillEntry l 0 := by
  unfold fillEntry
  simp only [List.take_zero, cells_nil, List.nil_append, Nat.sub_zero]
  apply List.ext_getElem?
  intro i
  by_cases h : i < l.length * 3
  · have hk : i / 3 < l.length := by omega
    have hj : i % 3 < 3 := by omega
    have e1 := cells_at (enc := fun _ : Unit => zEntry) (m := 3) (fun _ => rfl) (List.replicate l.length ()) (i / 3) (i % 3) (by simpa using hk) hj
    have e2 : i / 3 * 3 + i % 3 = i := by omega
    rw [e2] at e1
    rw [e1]
    have hj' : i % 3 < ([.int .i64 0, .int .i64 0, .int .i64 0] : List Value).length := hj
    simp only [madeCells, zEntry]
    simp [h]
    rw [List.getElem?_eq_getElem hj']
    rfl
  · rw [List.getElem?_eq_none, List.getElem?_eq_none]
    · rw [cells_len (m := 3) (fun _ => rfl)]
      simpa using h
    · simp [madeCells]
      omega
theorem fillEntry_step (l : List REntry) (k : Nat) (hk : k < l.length) : (((fillEntry l k).set (k * 3) (.int .i64 l[k].1)).set (k * 3 + 1) (.int .i64 l[k].2.1)).set (k * 3 + 2) (.int .i64 l[k].2.2) = fillEntry l (k + 1) := by
  unfold fillEntry
  have hl : (cellsOf eEntry (l.take k)).length = k * 3 := by
    rw [cells_len (m := 3) eEntry_len, List.length_take]
    congr 1
    omega
  have hr : l.length - k = (l.length - (k + 1)) + 1 := by omega
  rw [hr, List.replicate_succ, cells_cons, List.take_succ_eq_append_getElem hk, cells_append, cells_cons, cells_nil]
  generalize cellsOf eEntry (l.take k) = P at hl
  generalize cellsOf (fun _ => zEntry) (List.replicate (l.length - (k + 1)) ()) = Q
  refine (set3 (β := Value) _ _ _ _ (.int .i64 l[k].1) (.int .i64 l[k].2.1) (.int .i64 l[k].2.2) Q _ hl).trans ?_
  simp [eEntry]
theorem fillEntry_end (l : List REntry) : fillEntry l l.length = cellsOf eEntry l := by
  unfold fillEntry
  simp [cells_nil]
theorem fillEntry_len (l : List REntry) (k : Nat) (hk : k ≤ l.length) : (fillEntry l k).length = l.length * 3 := by
  unfold fillEntry
  rw [List.length_append, cells_len (m := 3) eEntry_len, cells_len (m := 3) (fun _ => zEntry_len), List.length_take, List.length_replicate, ← Nat.add_mul]
  congr 1
  omega

/-- A slice made anew, that bears the list l. -/
def NewEntry (W : World) (l : List REntry) (e : Ending) (w' : World) : Prop :=
  ∃ v, e = .returned v ∧ OwnEntry w' W.heap.size v l ∧ Below W.heap.size W w'
set_option maxRecDepth 100000 in
theorem toEntryS_any (v : Value) (l : List REntry) (hn : l.length ≤ 1048576) (w : World) (h : RdEntry w v l) :
    Calls Try.prog 16 #[v] w (NewEntry w l) := by
  obtain ⟨A, c, rfl, _⟩ := id h
  have HH := Lib.hid h
  clear h
  have hmk := run_make_rec (P := Try.prog) 26 71 _ _ _ Try.underlying26 info_Entry l.length (by omega) (by omega)
  go_enter Try.func16, Try.ntmps16
  go_wp2_with fail
  clear hmk
  go_loopw [4] (fun i wr => ∃ k : Nat, k ≤ l.length ∧ i = .int .i64 k ∧ wr.heap[w.heap.size]? = some (.cells (fillEntry l k).toArray 71 (0, 0)) ∧ Below w.heap.size w wr) (fun i _ => l.length - (intOf i).toNat)
  case atStart =>
    refine ⟨0, by omega, rfl, ?_, (by repeat (first | with_reducible exact Below.refl _ _ | with_reducible assumption | with_reducible refine Below.drew ?_ | with_reducible refine Below.alloc ?_ (by first | exact Nat.le_refl _ | omega | (simp; done) | (simp; omega)) _ | with_reducible refine Below.setCell ?_ (by first | exact Nat.le_refl _ | omega | (simp; done) | (simp; omega)) _ | (with_reducible refine ext_trans ?_ (by with_reducible assumption))))⟩
    rw [← fillEntry_start, heap_alloc_new]
  case round =>
    obtain ⟨k, hk, rfl, hrow, hb⟩ := hrel
    by_cases hlt : k < l.length
    · obtain ⟨b, off, rfl, hbB, hcell⟩ := HH.out.elem eEntry_len (by omega) k hlt
      have c0 : wr.cell? ⟨b, off + k * 3, none⟩ = some (.int .i64 l[k].1) := (hb.cell (p := ⟨b, _, none⟩) hbB).trans (hcell 0 (by omega))
      have c1 : wr.cell? ⟨b, off + k * 3 + 1, none⟩ = some (.int .i64 l[k].2.1) := (hb.cell (p := ⟨b, _, none⟩) hbB).trans (hcell 1 (by omega))
      have c2 : wr.cell? ⟨b, off + k * 3 + 2, none⟩ = some (.int .i64 l[k].2.2) := (hb.cell (p := ⟨b, _, none⟩) hbB).trans (hcell 2 (by omega))
      have hst := fillEntry_step l k hlt
      have hlen : (fillEntry l k).length = l.length * 3 := fillEntry_len l k hk
      generalize hx0 : l[k].1 = x0 at c0 hst
      generalize hx1 : l[k].2.1 = x1 at c1 hst
      generalize hx2 : l[k].2.2 = x2 at c2 hst
      have HR := Lib.hid hrow
      have HS := Lib.hid hst
      have HL := Lib.hid hlen
      have hnk : (k : Int) < (l.length : Int) := by omega
      clear hcell hrow hst hlen hx0 hx1 hx2
      have hlw : w.heap.size < wr.heap.size := (Array.getElem?_eq_some_iff.1 HR.out).1
      go_wp2_with fail
      refine (toEntry_any x0 x1 x2 _).mono ?_
      rintro e w1 ⟨rfl, hb1⟩
      obtain ⟨hc1, hf1⟩ := bcell hb1
      have hz1 := hb1.size
      (try simp at hz1)
      have hy1_0 : w.heap.size < w1.heap.size := by omega
      have hrow1 := (hb1.block (w.heap.size) hlw).trans HR.out
      obtain ⟨v0, d0⟩ : ∃ v, w1.cell? ⟨w.heap.size, k * 3, none⟩ = some v := ⟨_, (cell_of_row _ _ (k * 3) _ _ _ hrow1).trans (List.getElem?_toArray.trans (List.getElem?_eq_getElem (by rw [HL.out]; omega)))⟩
      obtain ⟨v1, d1⟩ : ∃ v, w1.cell? ⟨w.heap.size, k * 3 + 1, none⟩ = some v := ⟨_, (cell_of_row _ _ (k * 3 + 1) _ _ _ hrow1).trans (List.getElem?_toArray.trans (List.getElem?_eq_getElem (by rw [HL.out]; omega)))⟩
      obtain ⟨v2, d2⟩ : ∃ v, w1.cell? ⟨w.heap.size, k * 3 + 2, none⟩ = some v := ⟨_, (cell_of_row _ _ (k * 3 + 2) _ _ _ hrow1).trans (List.getElem?_toArray.trans (List.getElem?_eq_getElem (by rw [HL.out]; omega)))⟩
      have f0 := frozen_of_row _ _ (k * 3) _ _ hrow1
      have f1 := frozen_of_row _ _ (k * 3 + 1) _ _ hrow1
      have f2 := frozen_of_row _ _ (k * 3 + 2) _ _ hrow1
      have HR1 := Lib.hid hrow1
      clear hrow1 hc1 hf1
      have hst := (heap_setCell_same _ _ (k * 3 + 2) _ _ (.int .i64 x2) (heap_setCell_same _ _ (k * 3 + 1) _ _ (.int .i64 x1) (heap_setCell_same _ _ (k * 3) _ _ (.int .i64 x0) HR1.out))).trans (by rw [List.setIfInBounds_toArray, List.setIfInBounds_toArray, List.setIfInBounds_toArray, HS.out])
      have HST := Lib.hid hst
      clear hst
      go_wp2_with fail
      exact ⟨⟨k + 1, by omega, by go_num, HST.out, (by repeat (first | with_reducible exact Below.refl _ _ | with_reducible assumption | with_reducible refine Below.drew ?_ | with_reducible refine Below.alloc ?_ (by first | exact Nat.le_refl _ | omega | (simp; done) | (simp; omega)) _ | with_reducible refine Below.setCell ?_ (by first | exact Nat.le_refl _ | omega | (simp; done) | (simp; omega)) _ | (with_reducible refine ext_trans ?_ (by with_reducible assumption))))⟩, by simp [intOf]; omega⟩
    · obtain rfl : k = l.length := by omega
      rw [fillEntry_end] at hrow
      have HR := Lib.hid hrow
      clear hrow
      go_wp2_with fail
      go_ret
      exact ⟨_, rfl, .inl ⟨by rw [cells_len (m := 3) eEntry_len], .inr ⟨w.heap.size, l.length, _, rfl, Nat.le_refl _, HR.out, Nat.le_refl _, by unfold maxLen; omega, by simp [cells_len (m := 3) eEntry_len], by rw [← cells_len (m := 3) eEntry_len]; simp⟩⟩, hb⟩

/-- What the measure of a list says. -/
def SzEntry (l : List REntry) (left : Int) (w : World) (e : Ending) (w' : World) : Prop :=
  ∃ x : Int, e = .returned (.int .i64 x) ∧ (-1 ≤ x ∧ x ≤ left) ∧ Hid (0 ≤ x → (l.length : Int) + x ≤ left) ∧ Below w.heap.size w w'
set_option maxRecDepth 100000 in
theorem szEntryS_any (v : Value) (l : List REntry) (hn : l.length ≤ maxLen) (left : Int) (h1 : 0 ≤ left) (h2 : left ≤ 1048576) (w : World) (h : RdEntry w v l) :
    Calls Try.prog 14 #[v, .int .i64 left] w (SzEntry l left w) := by
  unfold maxLen at hn
  obtain ⟨A, c, rfl, _⟩ := id h
  clear h
  by_cases hl : left - l.length < 0
  · go_enter Try.func14, Try.ntmps14
    go_wp2_with fail
    go_ret
    exact ⟨_, rfl, ⟨by omega, by omega⟩, (fun h => absurd h (by omega) : (0 : Int) ≤ -1 → _), (by repeat (first | with_reducible exact Below.refl _ _ | with_reducible assumption | with_reducible refine Below.drew ?_ | with_reducible refine Below.alloc ?_ (by first | exact Nat.le_refl _ | omega | (simp; done) | (simp; omega)) _ | with_reducible refine Below.setCell ?_ (by first | exact Nat.le_refl _ | omega | (simp; done) | (simp; omega)) _ | (with_reducible refine ext_trans ?_ (by with_reducible assumption))))⟩
  · go_enter Try.func14, Try.ntmps14
    go_wp2_with fail
    go_ret
    exact ⟨_, rfl, ⟨by omega, by omega⟩, (fun _ => by omega : (0 : Int) ≤ left - l.length → _), (by repeat (first | with_reducible exact Below.refl _ _ | with_reducible assumption | with_reducible refine Below.drew ?_ | with_reducible refine Below.alloc ?_ (by first | exact Nat.le_refl _ | omega | (simp; done) | (simp; omega)) _ | with_reducible refine Below.setCell ?_ (by first | exact Nat.le_refl _ | omega | (simp; done) | (simp; omega)) _ | (with_reducible refine ext_trans ?_ (by with_reducible assumption))))⟩

set_option maxRecDepth 100000 in
set_option maxHeartbeats 1000000 in
theorem eqEntryS_same (v1 v2 : Value) (l : List REntry) (hn : l.length ≤ maxLen) (w : World) (h1 : RdEntry w v1 l) (h2 : RdEntry w v2 l) :
    Calls Try.prog 18 #[v1, v2] w fun e w' => e = .returned (.bool true) ∧ Below w.heap.size w w' := by
  unfold maxLen at hn
  obtain ⟨A1, n1, rfl, _⟩ := id h1
  obtain ⟨A2, n2, rfl, _⟩ := id h2
  have H1 := Lib.hid h1
  have H2 := Lib.hid h2
  clear h1 h2
  go_enter Try.func18, Try.ntmps18
  go_wp2_with fail
  go_loopw [5] (fun i wr => ∃ k : Nat, k ≤ l.length ∧ i = .int .i64 k ∧ Below w.heap.size w wr) (fun i _ => l.length - (intOf i).toNat)
  case atStart => exact ⟨0, by omega, rfl, (by repeat (first | with_reducible exact Below.refl _ _ | with_reducible assumption | with_reducible refine Below.drew ?_ | with_reducible refine Below.alloc ?_ (by first | exact Nat.le_refl _ | omega | (simp; done) | (simp; omega)) _ | with_reducible refine Below.setCell ?_ (by first | exact Nat.le_refl _ | omega | (simp; done) | (simp; omega)) _ | (with_reducible refine ext_trans ?_ (by with_reducible assumption))))⟩
  case round =>
    obtain ⟨k, hk, rfl, hb⟩ := hrel
    have hbs := hb.size
    by_cases hlt : k < l.length
    · obtain ⟨b1, off1, rfl, hbB1, hcell1⟩ := H1.out.elem eEntry_len (by omega) k hlt
      obtain ⟨b2, off2, rfl, hbB2, hcell2⟩ := H2.out.elem eEntry_len (by omega) k hlt
      have c10 : wr.cell? ⟨b1, off1 + k * 3, none⟩ = some (.int .i64 l[k].1) := (hb.cell (p := ⟨b1, _, none⟩) hbB1).trans (hcell1 0 (by omega))
      have c11 : wr.cell? ⟨b1, off1 + k * 3 + 1, none⟩ = some (.int .i64 l[k].2.1) := (hb.cell (p := ⟨b1, _, none⟩) hbB1).trans (hcell1 1 (by omega))
      have c12 : wr.cell? ⟨b1, off1 + k * 3 + 2, none⟩ = some (.int .i64 l[k].2.2) := (hb.cell (p := ⟨b1, _, none⟩) hbB1).trans (hcell1 2 (by omega))
      have c20 : wr.cell? ⟨b2, off2 + k * 3, none⟩ = some (.int .i64 l[k].1) := (hb.cell (p := ⟨b2, _, none⟩) hbB2).trans (hcell2 0 (by omega))
      have c21 : wr.cell? ⟨b2, off2 + k * 3 + 1, none⟩ = some (.int .i64 l[k].2.1) := (hb.cell (p := ⟨b2, _, none⟩) hbB2).trans (hcell2 1 (by omega))
      have c22 : wr.cell? ⟨b2, off2 + k * 3 + 2, none⟩ = some (.int .i64 l[k].2.2) := (hb.cell (p := ⟨b2, _, none⟩) hbB2).trans (hcell2 2 (by omega))
      generalize hx0 : l[k].1 = x0 at c10 c20
      generalize hx1 : l[k].2.1 = x1 at c11 c21
      generalize hx2 : l[k].2.2 = x2 at c12 c22
      have hk0 : (0 : Int) ≤ (k : Int) := by omega
      have hnk : (k : Int) < (l.length : Int) := by omega
      have hbd : Below w.heap.size w wr.drew := hb.drew
      have hbs : w.heap.size ≤ wr.drew.heap.size := hbs
      clear hcell1 hcell2 hx0 hx1 hx2
      go_wp2_with fail
      refine wp_region_still_tail 8 (by kernel_rfl) (by kernel_rfl) ?_
      simp only [List.take_succ_cons, List.take_zero, List.drop_succ_cons, List.drop_zero]
      repeat (first | still_step)
      refine wpStill_nil ?_
      change wpList _ _ _ _ _ wr.drew
      generalize wr.drew = wd at *
      go_wp2_with fail
      refine (eqEntry_same x0 x1 x2 _).mono ?_
      rintro e w1 ⟨rfl, hb1⟩
      obtain ⟨hc1, hf1⟩ := bcell hb1
      have hz1 := hb1.size
      (try simp at hz1)
      go_wp2_with fail
      exact ⟨⟨k + 1, by omega, by go_num, (by repeat (first | with_reducible exact Below.refl _ _ | with_reducible assumption | with_reducible refine Below.drew ?_ | with_reducible refine Below.alloc ?_ (by first | exact Nat.le_refl _ | omega | (simp; done) | (simp; omega)) _ | with_reducible refine Below.setCell ?_ (by first | exact Nat.le_refl _ | omega | (simp; done) | (simp; omega)) _ | (with_reducible refine ext_trans ?_ (by with_reducible assumption))))⟩, by simp [intOf]; omega⟩
    · go_wp2_with fail
      go_ret
      exact ⟨rfl, hb⟩

/-- The n marks from k on. -/
def mkEntry (k : Nat) : REntry := (((k : Nat) : Int), ((k + 1 : Nat) : Int), ((k + 2 : Nat) : Int))
def marksEntry (n k : Nat) : List REntry := (List.range n).map fun i => mkEntry (k + 3 * i)
theorem marksEntry_len (n k : Nat) : (marksEntry n k).length = n := by simp [marksEntry]
theorem marksEntry_succ (n k : Nat) : marksEntry (n + 1) k = marksEntry n k ++ [mkEntry (k + 3 * n)] := by simp [marksEntry, List.range_succ]
theorem marksEntry_at (n k i : Nat) (h : i < (marksEntry n k).length) : (marksEntry n k)[i] = mkEntry (k + 3 * i) := by simp [marksEntry]
theorem marked_rdEntry {w : World} {base n k : Nat} {v : Value} (h : OwnEntry w base v (marksEntry n k)) : Rd w w.heap.size v n (cellsOf eEntry (marksEntry n k)) := by
  have h1 := h.rd
  rw [marksEntry_len] at h1
  exact h1
theorem markEntry_step (l : List REntry) (k i : Nat) (hi : i < l.length) : (((cellsOf eEntry (marksEntry i k ++ l.drop i)).set (i * 3) (.int .i64 (mkEntry (k + 3 * i)).1)).set (i * 3 + 1) (.int .i64 (mkEntry (k + 3 * i)).2.1)).set (i * 3 + 2) (.int .i64 (mkEntry (k + 3 * i)).2.2) = cellsOf eEntry (marksEntry (i + 1) k ++ l.drop (i + 1)) := by
  have hl : (cellsOf eEntry (marksEntry i k)).length = i * 3 := by rw [cells_len (m := 3) eEntry_len, marksEntry_len]
  rw [List.drop_eq_getElem_cons hi, marksEntry_succ, cells_append, cells_cons, cells_append, cells_append, cells_cons, cells_nil]
  generalize cellsOf eEntry (marksEntry i k) = P at hl
  generalize cellsOf eEntry (l.drop (i + 1)) = Q
  refine (set3 (β := Value) _ _ _ _ (.int .i64 (mkEntry (k + 3 * i)).1) (.int .i64 (mkEntry (k + 3 * i)).2.1) (.int .i64 (mkEntry (k + 3 * i)).2.2) Q _ hl).trans ?_
  simp [eEntry]
/-- What marking leaves. -/
def MarkedEntry (v : Value) (n k base : Nat) (w : World) (e : Ending) (w' : World) : Prop :=
  e = .returned (.int .i64 ((k + 3 * n : Nat) : Int)) ∧ OwnEntry w' base v (marksEntry n k) ∧ w.grownBy w' (chg v (marksEntry n k))
set_option maxRecDepth 100000 in
set_option maxHeartbeats 1000000 in
theorem markEntryS_any (v : Value) (l : List REntry) (hn : l.length ≤ 1048576) (k : Nat) (hk1 : 1 ≤ k) (hk2 : k ≤ 100000000) (base : Nat) (w : World) (h : OwnEntry w base v l) :
    Calls Try.prog 35 #[v, .int .i64 k] w (MarkedEntry v l.length k base w) := by
  by_cases h0 : l = []
  · obtain ⟨A, c, rfl⟩ := h.form
    subst h0
    have HN := Lib.hid h
    clear h
    go_enter Try.func35, Try.ntmps35
    go_wp2_with fail
    refine wp_loop_rounds 1 ?_
    rw [rounds_succ]
    go_wp2_with fail
    go_ret
    exact ⟨rfl, HN.out, World.grownBy.refl _ _⟩
  · obtain ⟨g, c, rfl, hg, hgw⟩ := h.at h0
    have hown : w.ownsRow base 71 3 (.slice (some ⟨g, 0, none⟩) l.length c) l.length (cellsOf eEntry l) := h.resolve_right fun h => h0 h.1
    have HO := Lib.hid hown
    have H0 := Lib.hid h0
    clear hown h h0
    go_enter Try.func35, Try.ntmps35
    go_wp2_with fail
    go_loopw [1, 5] (fun x y wr => ∃ i : Nat, i ≤ l.length ∧ y = .int .i64 i ∧ x = .int .i64 ((k + 3 * i : Nat) : Int) ∧ Hid (wr.ownsRow base 71 3 (.slice (some ⟨g, 0, none⟩) l.length c) l.length (cellsOf eEntry (marksEntry i k ++ l.drop i))) ∧ w.grownBy wr (some g)) (fun _ y _ => l.length - (intOf y).toNat)
    case atStart => exact ⟨0, by omega, rfl, rfl, HO.out, World.grownBy.refl _ _⟩
    case round =>
      obtain ⟨i, hi, rfl, rfl, hown, hgr⟩ := hrel
      by_cases hlt : i < l.length
      · have hst := markEntry_step l k i hlt
        have hlen : (cellsOf eEntry (marksEntry i k ++ l.drop i)).length = l.length * 3 := by
          rw [cells_len (m := 3) eEntry_len, List.length_append, marksEntry_len, List.length_drop]
          congr 1
          omega
        obtain ⟨q, hq⟩ : ∃ q, k + 3 * i = q := ⟨_, rfl⟩
        rw [hq] at hst
        have hq1 : 1 ≤ q := by omega
        have hq2 : q ≤ 900000000 := by omega
        have hq3 : k + 3 * (i + 1) = q + 3 := by omega
        have hgs : g < wr.heap.size := Nat.lt_of_lt_of_le hgw hgr.size
        simp only [hq]
        have HQ := Lib.hid hq
        have HQ3 := Lib.hid hq3
        have HST := Lib.hid hst
        have HL := Lib.hid hlen
        have hni : (i : Int) < (l.length : Int) := by omega
        clear hst hlen hq hq3
        obtain ⟨o0, d0⟩ : ∃ v, wr.cell? ⟨g, i * 3, none⟩ = some v := ⟨_, (hown.out.cellAt (i * 3) (by omega)).trans (List.getElem?_eq_getElem (by first | (rw [HL.out]; omega) | (simp only [List.length_set]; rw [HL.out]; omega)))⟩
        have f0 := hown.out.frozenAt (i * 3)
        have hs0 := hown.out.stored (i * 3) (.int .i64 (q : Int))
        have hown0b := Lib.hid hs0.1
        have hgrX := only_trans' hgr hs0.2
        clear hs0
        obtain ⟨o1, d1⟩ : ∃ v, (wr.setCell ⟨g, i * 3, none⟩ (.int .i64 (q : Int))).cell? ⟨g, i * 3 + 1, none⟩ = some v := ⟨_, (hown0b.out.cellAt (i * 3 + 1) (by omega)).trans (List.getElem?_eq_getElem (by first | (rw [HL.out]; omega) | (simp only [List.length_set]; rw [HL.out]; omega)))⟩
        have f1 := hown0b.out.frozenAt (i * 3 + 1)
        have hs1 := hown0b.out.stored (i * 3 + 1) (.int .i64 ((q : Int) + 1))
        have hown1b := Lib.hid hs1.1
        have hgrX := only_trans' hgrX hs1.2
        clear hs1
        obtain ⟨o2, d2⟩ : ∃ v, ((wr.setCell ⟨g, i * 3, none⟩ (.int .i64 (q : Int))).setCell ⟨g, i * 3 + 1, none⟩ (.int .i64 ((q : Int) + 1))).cell? ⟨g, i * 3 + 2, none⟩ = some v := ⟨_, (hown1b.out.cellAt (i * 3 + 2) (by omega)).trans (List.getElem?_eq_getElem (by first | (rw [HL.out]; omega) | (simp only [List.length_set]; rw [HL.out]; omega)))⟩
        have f2 := hown1b.out.frozenAt (i * 3 + 2)
        have hs2 := hown1b.out.stored (i * 3 + 2) (.int .i64 ((q : Int) + 2))
        have hown2b := Lib.hid hs2.1
        have hgrX := only_trans' hgrX hs2.2
        clear hs2
        go_wp2_with fail
        refine ⟨⟨i + 1, by omega, by go_num, ?_, ?_, hgrX⟩, by simp [intOf]; omega⟩
        · rw [HQ3.out]
          exact congrArg (Value.int .i64) (by omega)
        · rw [← HST.out]
          exact hown2b.out
      · obtain rfl : i = l.length := by omega
        go_wp2_with fail
        go_ret
        have hm : marksEntry l.length k ≠ [] := fun h => H0.out (List.eq_nil_of_length_eq_zero (by rw [← marksEntry_len l.length k, h]; rfl))
        have h1 := hown.out
        rw [List.drop_length, List.append_nil] at h1
        refine ⟨rfl, .inl ?_, ?_⟩
        · rw [marksEntry_len]
          exact h1
        · unfold chg
          rw [marksEntry_len, if_neg (fun h => H0.out (List.eq_nil_of_length_eq_zero h))]
          exact hgr

set_option maxRecDepth 100000 in
set_option maxHeartbeats 1000000 in
theorem heldEntryS_any (v : Value) (n : Nat) (hn : n ≤ 1048576) (k : Nat) (hk1 : 1 ≤ k) (hk2 : k ≤ 100000000) (w : World) (h : Rd w w.heap.size v n (cellsOf eEntry (marksEntry n k))) :
    Calls Try.prog 36 #[v, .int .i64 k] w fun e w' => e = .returned (.int .i64 ((k + 3 * n : Nat) : Int)) ∧ Below w.heap.size w w' := by
  obtain ⟨A, c, rfl, _⟩ := id h
  have HH := Lib.hid h
  clear h
  go_enter Try.func36, Try.ntmps36
  go_wp2_with fail
  go_loopw [1, 5] (fun x y wr => ∃ i : Nat, i ≤ n ∧ y = .int .i64 i ∧ x = .int .i64 ((k + 3 * i : Nat) : Int) ∧ Below w.heap.size w wr) (fun _ y _ => n - (intOf y).toNat)
  case atStart => exact ⟨0, by omega, rfl, rfl, (by repeat (first | with_reducible exact Below.refl _ _ | with_reducible assumption | with_reducible refine Below.drew ?_ | with_reducible refine Below.alloc ?_ (by first | exact Nat.le_refl _ | omega | (simp; done) | (simp; omega)) _ | with_reducible refine Below.setCell ?_ (by first | exact Nat.le_refl _ | omega | (simp; done) | (simp; omega)) _ | (with_reducible refine ext_trans ?_ (by with_reducible assumption))))⟩
  case round =>
    obtain ⟨i, hi, rfl, rfl, hb⟩ := hrel
    obtain ⟨wl, rfl⟩ : ∃ wl : World, wl = wr := ⟨_, rfl⟩
    have hbs := hb.size
    by_cases hlt : i < n
    · obtain ⟨b, off, rfl, hbB, hcell⟩ := HH.out.elem eEntry_len (by omega) i (by rw [marksEntry_len]; exact hlt)
      rw [marksEntry_at] at hcell
      obtain ⟨q, hq⟩ : ∃ q, k + 3 * i = q := ⟨_, rfl⟩
      rw [hq] at hcell
      have hq1 : 1 ≤ q := by omega
      have hq2 : q ≤ 900000000 := by omega
      have hq3 : k + 3 * (i + 1) = q + 3 := by omega
      simp only [hq]
      have HQ := Lib.hid hq
      have HQ3 := Lib.hid hq3
      have HC := Lib.hid hcell
      clear hq hq3 hcell
      have hk0 : (0 : Int) ≤ (i : Int) := by omega
      have hni : (i : Int) < (n : Int) := by omega
      have c0 : wl.cell? ⟨b, off + i * 3, none⟩ = some (.int .i64 (q : Int)) := (hb.cell (p := ⟨b, _, none⟩) (by omega)).trans (HC.out 0 (by omega))
      have c1 : wl.cell? ⟨b, off + i * 3 + 1, none⟩ = some (.int .i64 ((q : Int) + 1)) := (hb.cell (p := ⟨b, _, none⟩) (by omega)).trans (HC.out 1 (by omega))
      have c2 : wl.cell? ⟨b, off + i * 3 + 2, none⟩ = some (.int .i64 ((q : Int) + 2)) := (hb.cell (p := ⟨b, _, none⟩) (by omega)).trans (HC.out 2 (by omega))
      go_wp2_with fail
      refine ⟨⟨i + 1, by omega, by go_num, ?_, (by repeat (first | with_reducible exact Below.refl _ _ | with_reducible assumption | with_reducible refine Below.drew ?_ | with_reducible refine Below.alloc ?_ (by first | exact Nat.le_refl _ | omega | (simp; done) | (simp; omega)) _ | with_reducible refine Below.setCell ?_ (by first | exact Nat.le_refl _ | omega | (simp; done) | (simp; omega)) _ | (with_reducible refine ext_trans ?_ (by with_reducible assumption))))⟩, by simp [intOf]; omega⟩
      rw [HQ3.out]
      exact congrArg (Value.int .i64) (by omega)
    · obtain rfl : i = n := by omega
      go_wp2_with fail
      go_ret
      exact ⟨rfl, hb⟩

set_option maxRecDepth 100000 in
set_option maxHeartbeats 1000000 in
theorem EqualEntry_any (v1 v2 : Value) (l1 l2 : List REntry) (hn1 : l1.length ≤ maxLen) (_hn2 : l2.length ≤ maxLen) (w : World) (h1 : RdEntry w v1 l1) (h2 : RdEntry w v2 l2) :
    Calls Try.prog 55 #[v1, v2] w fun e w' => e = .returned (.bool (decide (l1 = l2))) ∧ Below w.heap.size w w' := by
  unfold maxLen at hn1 _hn2
  obtain ⟨A1, n1, rfl, -⟩ := id h1
  obtain ⟨A2, n2, rfl, -⟩ := id h2
  have H1 := Lib.hid h1
  have H2' := Lib.hid h2
  clear h1 h2
  by_cases hl : l1.length = l2.length
  · have H2 : Hid (Rd w w.heap.size (.slice A2 l1.length n2) l1.length (cellsOf eEntry l2)) := by
      have h := H2'.out
      unfold RdEntry at h
      rw [← hl] at h
      exact h
    clear H2'
    rw [← hl]
    have HL := Lib.hid hl
    clear hl _hn2
    go_enter Try.func55, Try.ntmps55
    go_wp2_with fail
    go_loopw [13] (fun i wr => ∃ k : Nat, k ≤ l1.length ∧ i = .int .i64 k ∧ Hid (l1.take k = l2.take k) ∧ Below w.heap.size w wr) (fun i _ => l1.length - (intOf i).toNat)
    case atStart => exact ⟨0, by omega, rfl, rfl, (by repeat (first | with_reducible exact Below.refl _ _ | with_reducible assumption | with_reducible refine Below.drew ?_ | with_reducible refine Below.alloc ?_ (by first | exact Nat.le_refl _ | omega | (simp; done) | (simp; omega)) _ | with_reducible refine Below.setCell ?_ (by first | exact Nat.le_refl _ | omega | (simp; done) | (simp; omega)) _ | (with_reducible refine ext_trans ?_ (by with_reducible assumption))))⟩
    case round =>
      obtain ⟨k, hk, rfl, htk, hb⟩ := hrel
      by_cases hlt1 : k < l1.length
      · have hlt2 : k < l2.length := by have := HL.out; omega
        obtain ⟨b1, off1, rfl, hbB1, hcell1⟩ := H1.out.elem eEntry_len (by omega) k hlt1
        obtain ⟨z1, hz1⟩ : ∃ z, l1[k] = z := ⟨_, rfl⟩
        rw [hz1] at hcell1
        obtain ⟨x0, x1, x2⟩ := z1
        have c10 : wr.cell? ⟨b1, off1 + k * 3, none⟩ = some (.int .i64 x0) := (hb.cell (p := ⟨b1, _, none⟩) hbB1).trans (hcell1 0 (by omega))
        have c11 : wr.cell? ⟨b1, off1 + k * 3 + 1, none⟩ = some (.int .i64 x1) := (hb.cell (p := ⟨b1, _, none⟩) hbB1).trans (hcell1 1 (by omega))
        have c12 : wr.cell? ⟨b1, off1 + k * 3 + 2, none⟩ = some (.int .i64 x2) := (hb.cell (p := ⟨b1, _, none⟩) hbB1).trans (hcell1 2 (by omega))
        have HZ1 := Lib.hid hz1
        clear hcell1 hz1
        obtain ⟨b2, off2, rfl, hbB2, hcell2⟩ := H2.out.elem eEntry_len (by omega) k hlt2
        obtain ⟨z2, hz2⟩ : ∃ z, l2[k] = z := ⟨_, rfl⟩
        rw [hz2] at hcell2
        obtain ⟨y0, y1, y2⟩ := z2
        have c20 : wr.cell? ⟨b2, off2 + k * 3, none⟩ = some (.int .i64 y0) := (hb.cell (p := ⟨b2, _, none⟩) hbB2).trans (hcell2 0 (by omega))
        have c21 : wr.cell? ⟨b2, off2 + k * 3 + 1, none⟩ = some (.int .i64 y1) := (hb.cell (p := ⟨b2, _, none⟩) hbB2).trans (hcell2 1 (by omega))
        have c22 : wr.cell? ⟨b2, off2 + k * 3 + 2, none⟩ = some (.int .i64 y2) := (hb.cell (p := ⟨b2, _, none⟩) hbB2).trans (hcell2 2 (by omega))
        have HZ2 := Lib.hid hz2
        clear hcell2 hz2
        have hk0 : (0 : Int) ≤ (k : Int) := by omega
        have hnk : (k : Int) < (l1.length : Int) := by omega
        have hbd : Below w.heap.size w wr.drew := hb.drew
        go_wp2_with fail
        refine wp_region_still_tail 8 (by kernel_rfl) (by kernel_rfl) ?_
        simp only [List.take_succ_cons, List.take_zero, List.drop_succ_cons, List.drop_zero]
        repeat (first | still_step)
        refine wpStill_nil ?_
        change wpList _ _ _ _ _ wr.drew
        generalize wr.drew = wd at *
        go_wp2_with fail
        case roundEnd => (have e0 : x0 = y0 := (by assumption); have e1 : x1 = y1 := (by assumption); have e2 : x2 = y2 := (by assumption); subst e0 e1 e2; exact ⟨⟨k + 1, by omega, by go_num, take_more htk.out hlt1 hlt2 HZ1.out HZ2.out, (by repeat (first | with_reducible exact Below.refl _ _ | with_reducible assumption | with_reducible refine Below.drew ?_ | with_reducible refine Below.alloc ?_ (by first | exact Nat.le_refl _ | omega | (simp; done) | (simp; omega)) _ | with_reducible refine Below.setCell ?_ (by first | exact Nat.le_refl _ | omega | (simp; done) | (simp; omega)) _ | (with_reducible refine ext_trans ?_ (by with_reducible assumption))))⟩, by simp [intOf]; omega⟩)
        all_goals (go_ret; exact ⟨by rw [list_ne hlt1 hlt2 HZ1.out HZ2.out (fun h => by cases h; exact absurd rfl (by assumption))]; rfl, (by repeat (first | with_reducible exact Below.refl _ _ | with_reducible assumption | with_reducible refine Below.drew ?_ | with_reducible refine Below.alloc ?_ (by first | exact Nat.le_refl _ | omega | (simp; done) | (simp; omega)) _ | with_reducible refine Below.setCell ?_ (by first | exact Nat.le_refl _ | omega | (simp; done) | (simp; omega)) _ | (with_reducible refine ext_trans ?_ (by with_reducible assumption))))⟩)
      · obtain rfl : k = l1.length := by omega
        go_wp2_with fail
        go_ret
        exact ⟨by rw [list_same HL.out htk.out]; rfl, hb⟩
  · have hne : ¬ ((l1.length : Int) = (l2.length : Int)) := by omega
    rw [list_len_ne hl]
    go_enter Try.func55, Try.ntmps55
    go_wp2_with fail
    go_ret
    exact ⟨rfl, (by repeat (first | with_reducible exact Below.refl _ _ | with_reducible assumption | with_reducible refine Below.drew ?_ | with_reducible refine Below.alloc ?_ (by first | exact Nat.le_refl _ | omega | (simp; done) | (simp; omega)) _ | with_reducible refine Below.setCell ?_ (by first | exact Nat.le_refl _ | omega | (simp; done) | (simp; omega)) _ | (with_reducible refine ext_trans ?_ (by with_reducible assumption))))⟩

theorem oneEntry (l : List REntry) : ∀ u ∈ cellsOf eEntry l, u.oneCell' = true := fun u hu => by
  obtain ⟨x, _, hx⟩ := List.mem_flatMap.1 hu
  simp only [eEntry, List.mem_cons, List.not_mem_nil, or_false] at hx
  rcases hx with rfl | rfl | rfl <;> rfl
theorem Rd.newsEntry {w : World} {ad : Addr} {n c : Nat} {l : List REntry} (h : Rd w w.heap.size (.slice (some ad) n c) n (cellsOf eEntry l)) {w' : World} (hb : Below w.heap.size w w') : ∀ j u, (cellsOf eEntry l)[j]? = some u → w'.cell? (ad.add j) = some u := fun j u hu => by
  obtain ⟨A, c', e, _, hx⟩ := h
  cases e
  have hl : 0 < (cellsOf eEntry l).length := by
    have := (List.getElem?_eq_some_iff.1 hu).1
    omega
  obtain ⟨b, off, ea, hbB, hj⟩ := hx hl
  cases ea
  have ha : (⟨b, off, none⟩ : Addr).add j = ⟨b, off + j, none⟩ := by unfold Addr.add; split <;> simp_all
  rw [ha]
  exact (hb.cell (p := ⟨b, off + j, none⟩) hbB).trans (hj j u hu)
set_option maxRecDepth 100000 in
set_option maxHeartbeats 1000000 in
theorem CloneEntry_any (v : Value) (l : List REntry) (hn : l.length ≤ 1048600) (w : World) (h : RdEntry w v l) :
    Calls Try.prog 58 #[v] w (NewEntry w l) := by
  obtain ⟨i0, hi, hz0, hz1, hz2⟩ := info_parts info_Entry
  obtain ⟨A, c, rfl, ⟨hc1, hc2, hc3⟩, -⟩ := id h
  have HH := Lib.hid h
  clear h
  cases A with
  | none =>
    obtain rfl := hc3 rfl
    obtain rfl : l = [] := List.eq_nil_of_length_eq_zero (by omega)
    clear hc1 hc2 hc3
    have heq := fun W => Lib.run_eql_slice_nil (P := Try.prog) W 26 71 none 0 0 0 0 Try.underlying26
    go_enter Try.func58, Try.ntmps58
    go_wp2_with fail
    go_ret
    exact ⟨_, rfl, .inl (World.ownsRow_nil _ _ _ _), (by repeat (first | with_reducible exact Below.refl _ _ | with_reducible assumption | with_reducible refine Below.drew ?_ | with_reducible refine Below.alloc ?_ (by first | exact Nat.le_refl _ | omega | (simp; done) | (simp; omega)) _ | with_reducible refine Below.setCell ?_ (by first | exact Nat.le_refl _ | omega | (simp; done) | (simp; omega)) _ | (with_reducible refine ext_trans ?_ (by with_reducible assumption))))⟩
  | some ad =>
    clear hc3
    have heq := fun W => Lib.run_eql_slice_nil (P := Try.prog) W 26 71 (some ad) l.length c 0 0 Try.underlying26
    unfold maxLen at hc2
    go_enter Try.func58, Try.ntmps58
    go_wp2_with (refine wpList_append_own _ (by rfl) (.tmp 5) (.tmp 6) 26 (by rfl) w.heap.size 71 i0 _ 3 24 Try.underlying26 hi hz0 hz1 hz2 (by rfl) (by omega) (.slice (some ⟨w.heap.size, 0, none⟩) 0 0) 0 [] (by rfl) ?c1 ad l.length c (cellsOf eEntry l) (by rfl) ?c2 ?c3 ?c4 ?c5 ?c6 ?c7 ?_)
    case c1 => exact World.ownsRow_made _ _ _ (Nat.le_refl _) (Nat.zero_le _) (by simp)
    case c2 => exact cells_len (m := 3) eEntry_len l
    case c3 => exact HH.out.newsEntry (by repeat (first | with_reducible exact Below.refl _ _ | with_reducible assumption | with_reducible refine Below.drew ?_ | with_reducible refine Below.alloc ?_ (by first | exact Nat.le_refl _ | omega | (simp; done) | (simp; omega)) _ | with_reducible refine Below.setCell ?_ (by first | exact Nat.le_refl _ | omega | (simp; done) | (simp; omega)) _ | (with_reducible refine ext_trans ?_ (by with_reducible assumption))))
    case c4 => exact oneEntry l
    case c5 => unfold maxLen; omega
    case c6 => omega
    case c7 => simp
    intro v' w1 hown hgr _
    obtain ⟨A', c', rfl⟩ : ∃ A' c', v' = .slice A' l.length c' := OwnE.form (enc := eEntry) (.inl hown)
    have HO := Lib.hid hown
    clear hown
    go_wp2_with fail
    go_ret
    exact ⟨_, rfl, .inl HO.out, Below.grown (by repeat (first | with_reducible exact Below.refl _ _ | with_reducible assumption | with_reducible refine Below.drew ?_ | with_reducible refine Below.alloc ?_ (by first | exact Nat.le_refl _ | omega | (simp; done) | (simp; omega)) _ | with_reducible refine Below.setCell ?_ (by first | exact Nat.le_refl _ | omega | (simp; done) | (simp; omega)) _ | (with_reducible refine ext_trans ?_ (by with_reducible assumption)))) hgr (by simp) (by simp [Value.ownBlock])⟩

end Go.Proofs.Yteaniiponikpjaa
