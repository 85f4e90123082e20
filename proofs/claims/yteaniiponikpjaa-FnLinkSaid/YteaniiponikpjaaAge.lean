/-
  Contracts of Aged, the program's and the reference's.
-/
import Derived.Test.YteaniiponikpjaaSlr
namespace Go.Proofs.Yteaniiponikpjaa
set_option maxRecDepth 100000
open Go.RowKit

/-- What is left of a list a while later. -/
def agedR (l : List REntry) : List REntry := l.filterMap fun x => if x.2.2 < 9 then some (x.1, x.2.1, x.2.2 + 1) else none
theorem aged_yes {l : List REntry} {q : Nat} {x0 x1 x2 : Int} {r : List REntry} (hr : agedR (l.take q) = r) (hq : q < l.length) (hx : l[q] = (x0, x1, x2)) (h : x2 < 9) : agedR (l.take (q + 1)) = r ++ [(x0, x1, x2 + 1)] := by
  unfold agedR at *
  rw [List.take_succ_eq_append_getElem hq, List.filterMap_append, hr, hx]
  simp [h]
theorem aged_no {l : List REntry} {q : Nat} {x0 x1 x2 : Int} {r : List REntry} (hr : agedR (l.take q) = r) (hq : q < l.length) (hx : l[q] = (x0, x1, x2)) (h : ¬ x2 < 9) : agedR (l.take (q + 1)) = r := by
  unfold agedR at *
  rw [List.take_succ_eq_append_getElem hq, List.filterMap_append, hr, hx]
  simp [h]
theorem aged_len (l : List REntry) : (agedR l).length ≤ l.length := List.length_filterMap_le _ _
theorem newsD (w : World) (cs : Array Value) (e : TypeId) (l : List Value) (hl : cs = l.toArray) (B : Nat) (hB : B = w.heap.size) : ∀ j u, l[j]? = some u → (w.alloc (.cells cs e)).cell? ((⟨B, 0, none⟩ : Addr).add j) = some u := by
  subst hB
  exact newsC w cs e l hl
set_option maxHeartbeats 4000000 in
set_option linter.unusedSimpArgs false in
theorem Aged_own (v : Value) (l : List REntry) (hn : l.length ≤ 1048576) (hage : ∀ x ∈ l, -9223372036854775808 ≤ x.2.2 ∧ x.2.2 + 1 ≤ 9223372036854775807) (w : World) (h : RdEntry w v l) :
    Calls Try.prog 30 #[v] w (NewOwn w (agedR l)) := by
  obtain ⟨i0, hi, is0, is1, is2⟩ := info_parts info_Entry
  obtain ⟨A, c, rfl, hcc, -⟩ := id h
  obtain ⟨hcn, hcm, -⟩ := hcc
  unfold maxLen at hcm
  have H := Lib.hid h
  have HG := Lib.hid hage
  clear h hage
  go_enter Try.func30, Try.ntmps30
  go_wp2_with fail
  go_loopw [3, 9] (fun o i wr => ∃ (q : Nat) (r : List REntry) (A1 : Option Addr) (c1 : Nat), q ≤ l.length ∧ i = .int .i64 q ∧ o = .slice A1 r.length c1 ∧ Hid (agedR (l.take q) = r) ∧ Hid (wr.ownsRow w.heap.size 71 3 (.slice A1 r.length c1) r.length (cellsOf eEntry r)) ∧ Below w.heap.size w wr) (fun _ i _ => l.length - (intOf i).toNat)
  case atStart => exact ⟨0, [], some ⟨w.heap.size, 0, none⟩, 0, by omega, rfl, rfl, rfl, World.ownsRow_made _ _ _ (Nat.le_refl _) (Nat.zero_le _) (by simp), (by repeat (first | with_reducible exact Below.refl _ _ | with_reducible assumption | with_reducible refine Below.drew ?_ | with_reducible refine Below.alloc ?_ (by first | exact Nat.le_refl _ | omega | (simp; done) | (simp; omega)) _ | with_reducible refine Below.setCell ?_ (by first | exact Nat.le_refl _ | omega | (simp; done) | (simp; omega)) _ | (with_reducible refine ext_trans ?_ (by with_reducible assumption))))⟩
  case round =>
    obtain ⟨q, r, A1, c1, hq, rfl, rfl, hr, HW, hbw⟩ := hrel
    have hbs := hbw.size
    have hrl : r.length ≤ l.length := by
      have := aged_len (l.take q)
      rw [hr.out, List.length_take] at this
      omega
    by_cases hlt : q < l.length
    · obtain ⟨b, off, rfl, hbB, hcell⟩ := H.out.elem eEntry_len (by omega) q hlt
      obtain ⟨z, hz⟩ : ∃ z, l[q] = z := ⟨_, rfl⟩
      have hag := HG.out _ (List.getElem_mem hlt)
      rw [hz] at hcell hag
      obtain ⟨y0, y1, y2⟩ := z
      obtain ⟨hg1, hg2⟩ := hag
      dsimp only at hg1 hg2
      have c0 : wr.cell? ⟨b, off + q * 3, none⟩ = some (.int .i64 y0) := (hbw.cell (p := ⟨b, _, none⟩) hbB).trans (hcell 0 (by omega))
      have e1 : wr.cell? ⟨b, off + q * 3 + 1, none⟩ = some (.int .i64 y1) := (hbw.cell (p := ⟨b, _, none⟩) hbB).trans (hcell 1 (by omega))
      have e2 : wr.cell? ⟨b, off + q * 3 + 2, none⟩ = some (.int .i64 y2) := (hbw.cell (p := ⟨b, _, none⟩) hbB).trans (hcell 2 (by omega))
      have hnq : (q : Int) < (l.length : Int) := by omega
      have HZ := Lib.hid hz
      clear hcell hz
      by_cases h9 : y2 < 9
      · have h9' : y2 + 1 ≤ 9 := by omega
        go_wp2_with (refine wpList_append_own _ (by rfl) (.tmp 20) (.tmp 22) 26 (by rfl) w.heap.size 71 i0 _ 3 24 Try.underlying26 hi is0 is1 is2 (by rfl) (by omega) (.slice A1 r.length c1) r.length (cellsOf eEntry r) (by rfl) ?c1 _ 1 1 (eEntry (y0, y1, y2 + 1)) (by rfl) ?c2 ?c3 ?c4 ?c5 ?c6 ?c7 ?_)
        case c1 => exact own_below HW.out (by repeat (first | with_reducible exact Below.refl _ _ | with_reducible assumption | with_reducible refine Below.drew ?_ | with_reducible refine Below.alloc ?_ (by first | exact Nat.le_refl _ | omega | (simp; done) | (simp; omega)) _ | with_reducible refine Below.setCell ?_ (by first | exact Nat.le_refl _ | omega | (simp; done) | (simp; omega)) _ | (with_reducible refine ext_trans ?_ (by with_reducible assumption))))
        case c2 => rfl
        case c3 => exact newsD _ _ _ _ rfl _ (by simp)
        case c4 => intro u hu; simp only [eEntry, List.mem_cons, List.not_mem_nil, or_false] at hu; rcases hu with rfl | rfl | rfl <;> rfl
        case c5 => unfold maxLen; omega
        case c6 => omega
        case c7 => (simp; omega)
        intro v' w4 hown4 hgr _
        have HO4 := Lib.hid (own_app hown4)
        clear hown4
        obtain ⟨A2, c2, rfl⟩ : ∃ A2 c2, v' = .slice A2 (r ++ [(y0, y1, y2 + 1)]).length c2 := OwnE.form (enc := eEntry) (.inl HO4.out)
        have hb4 : Below w.heap.size w w4 := Below.grown (by repeat (first | with_reducible exact Below.refl _ _ | with_reducible assumption | with_reducible refine Below.drew ?_ | with_reducible refine Below.alloc ?_ (by first | exact Nat.le_refl _ | omega | (simp; done) | (simp; omega)) _ | with_reducible refine Below.setCell ?_ (by first | exact Nat.le_refl _ | omega | (simp; done) | (simp; omega)) _ | (with_reducible refine ext_trans ?_ (by with_reducible assumption)))) hgr (by simp; omega) (fun q hq => (HW.out.lt q hq).1)
        have hst := Lib.hid (aged_yes hr.out hlt HZ.out h9)
        clear hgr
        go_wp2_with fail
        exact ⟨⟨q + 1, _, A2, c2, by omega, by go_num, rfl, hst.out, HO4.out, hb4⟩, by simp [intOf]; omega⟩
      · have h9' : ¬ y2 + 1 ≤ 9 := by omega
        have hst := Lib.hid (aged_no hr.out hlt HZ.out h9)
        go_wp2_with fail
        exact ⟨⟨q + 1, r, A1, c1, by omega, by go_num, rfl, hst.out, own_below HW.out (by repeat (first | with_reducible exact Below.refl _ _ | with_reducible assumption | with_reducible refine Below.drew ?_ | with_reducible refine Below.alloc ?_ (by first | exact Nat.le_refl _ | omega | (simp; done) | (simp; omega)) _ | with_reducible refine Below.setCell ?_ (by first | exact Nat.le_refl _ | omega | (simp; done) | (simp; omega)) _ | (with_reducible refine ext_trans ?_ (by with_reducible assumption)))), (by repeat (first | with_reducible exact Below.refl _ _ | with_reducible assumption | with_reducible refine Below.drew ?_ | with_reducible refine Below.alloc ?_ (by first | exact Nat.le_refl _ | omega | (simp; done) | (simp; omega)) _ | with_reducible refine Below.setCell ?_ (by first | exact Nat.le_refl _ | omega | (simp; done) | (simp; omega)) _ | (with_reducible refine ext_trans ?_ (by with_reducible assumption))))⟩, by simp [intOf]; omega⟩
    · obtain rfl : q = l.length := by omega
      have hll := hr.out
      rw [List.take_length] at hll
      have HL := Lib.hid hll
      clear hll
      go_wp2_with fail
      go_ret
      exact ⟨_, rfl, by rw [HL.out]; exact HW.out, hbw⟩

set_option maxHeartbeats 4000000 in
set_option linter.unusedSimpArgs false in
theorem sAged_own (v : Value) (l : List REntry) (hn : l.length ≤ 1048576) (hage : ∀ x ∈ l, -9223372036854775808 ≤ x.2.2 ∧ x.2.2 + 1 ≤ 9223372036854775807) (w : World) (h : RdEntry w v l) :
    Calls Try.prog 32 #[v] w (NewOwn w (agedR l)) := by
  obtain ⟨i0, hi, is0, is1, is2⟩ := info_parts info_Entry
  obtain ⟨A, c, rfl, hcc, -⟩ := id h
  obtain ⟨hcn, hcm, -⟩ := hcc
  unfold maxLen at hcm
  have H := Lib.hid h
  have HG := Lib.hid hage
  clear h hage
  go_enter Try.func32, Try.ntmps32
  go_wp2_with fail
  go_loopw [3, 4] (fun o i wr => ∃ (q : Nat) (r : List REntry) (A1 : Option Addr) (c1 : Nat), q ≤ l.length ∧ i = .int .i64 q ∧ o = .slice A1 r.length c1 ∧ Hid (agedR (l.take q) = r) ∧ Hid (wr.ownsRow w.heap.size 71 3 (.slice A1 r.length c1) r.length (cellsOf eEntry r)) ∧ Below w.heap.size w wr) (fun _ i _ => l.length - (intOf i).toNat)
  case atStart => exact ⟨0, [], some ⟨w.heap.size, 0, none⟩, 0, by omega, rfl, rfl, rfl, World.ownsRow_made _ _ _ (Nat.le_refl _) (Nat.zero_le _) (by simp), (by repeat (first | with_reducible exact Below.refl _ _ | with_reducible assumption | with_reducible refine Below.drew ?_ | with_reducible refine Below.alloc ?_ (by first | exact Nat.le_refl _ | omega | (simp; done) | (simp; omega)) _ | with_reducible refine Below.setCell ?_ (by first | exact Nat.le_refl _ | omega | (simp; done) | (simp; omega)) _ | (with_reducible refine ext_trans ?_ (by with_reducible assumption))))⟩
  case round =>
    obtain ⟨q, r, A1, c1, hq, rfl, rfl, hr, HW, hbw⟩ := hrel
    have hbs := hbw.size
    have hrl : r.length ≤ l.length := by
      have := aged_len (l.take q)
      rw [hr.out, List.length_take] at this
      omega
    by_cases hlt : q < l.length
    · obtain ⟨b, off, rfl, hbB, hcell⟩ := H.out.elem eEntry_len (by omega) q hlt
      obtain ⟨z, hz⟩ : ∃ z, l[q] = z := ⟨_, rfl⟩
      have hag := HG.out _ (List.getElem_mem hlt)
      rw [hz] at hcell hag
      obtain ⟨y0, y1, y2⟩ := z
      obtain ⟨hg1, hg2⟩ := hag
      dsimp only at hg1 hg2
      have c0 : wr.cell? ⟨b, off + q * 3, none⟩ = some (.int .i64 y0) := (hbw.cell (p := ⟨b, _, none⟩) hbB).trans (hcell 0 (by omega))
      have e1 : wr.cell? ⟨b, off + q * 3 + 1, none⟩ = some (.int .i64 y1) := (hbw.cell (p := ⟨b, _, none⟩) hbB).trans (hcell 1 (by omega))
      have e2 : wr.cell? ⟨b, off + q * 3 + 2, none⟩ = some (.int .i64 y2) := (hbw.cell (p := ⟨b, _, none⟩) hbB).trans (hcell 2 (by omega))
      have hnq : (q : Int) < (l.length : Int) := by omega
      have HZ := Lib.hid hz
      clear hcell hz
      by_cases h9 : y2 < 9
      · have h9' : y2 + 1 ≤ 9 := by omega
        go_wp2_with (refine wpList_append_own _ (by rfl) (.tmp 24) (.tmp 26) 26 (by rfl) w.heap.size 71 i0 _ 3 24 Try.underlying26 hi is0 is1 is2 (by rfl) (by omega) (.slice A1 r.length c1) r.length (cellsOf eEntry r) (by rfl) ?c1 _ 1 1 (eEntry (y0, y1, y2 + 1)) (by rfl) ?c2 ?c3 ?c4 ?c5 ?c6 ?c7 ?_)
        case c1 => exact own_below HW.out (by repeat (first | with_reducible exact Below.refl _ _ | with_reducible assumption | with_reducible refine Below.drew ?_ | with_reducible refine Below.alloc ?_ (by first | exact Nat.le_refl _ | omega | (simp; done) | (simp; omega)) _ | with_reducible refine Below.setCell ?_ (by first | exact Nat.le_refl _ | omega | (simp; done) | (simp; omega)) _ | (with_reducible refine ext_trans ?_ (by with_reducible assumption))))
        case c2 => rfl
        case c3 => exact newsD _ _ _ _ rfl _ (by simp)
        case c4 => intro u hu; simp only [eEntry, List.mem_cons, List.not_mem_nil, or_false] at hu; rcases hu with rfl | rfl | rfl <;> rfl
        case c5 => unfold maxLen; omega
        case c6 => omega
        case c7 => (simp; omega)
        intro v' w4 hown4 hgr _
        have HO4 := Lib.hid (own_app hown4)
        clear hown4
        obtain ⟨A2, c2, rfl⟩ : ∃ A2 c2, v' = .slice A2 (r ++ [(y0, y1, y2 + 1)]).length c2 := OwnE.form (enc := eEntry) (.inl HO4.out)
        have hb4 : Below w.heap.size w w4 := Below.grown (by repeat (first | with_reducible exact Below.refl _ _ | with_reducible assumption | with_reducible refine Below.drew ?_ | with_reducible refine Below.alloc ?_ (by first | exact Nat.le_refl _ | omega | (simp; done) | (simp; omega)) _ | with_reducible refine Below.setCell ?_ (by first | exact Nat.le_refl _ | omega | (simp; done) | (simp; omega)) _ | (with_reducible refine ext_trans ?_ (by with_reducible assumption)))) hgr (by simp; omega) (fun q hq => (HW.out.lt q hq).1)
        have hst := Lib.hid (aged_yes hr.out hlt HZ.out h9)
        clear hgr
        go_wp2_with fail
        exact ⟨⟨q + 1, _, A2, c2, by omega, by go_num, rfl, hst.out, HO4.out, hb4⟩, by simp [intOf]; omega⟩
      · have h9' : ¬ y2 + 1 ≤ 9 := by omega
        have hst := Lib.hid (aged_no hr.out hlt HZ.out h9)
        go_wp2_with fail
        exact ⟨⟨q + 1, r, A1, c1, by omega, by go_num, rfl, hst.out, own_below HW.out (by repeat (first | with_reducible exact Below.refl _ _ | with_reducible assumption | with_reducible refine Below.drew ?_ | with_reducible refine Below.alloc ?_ (by first | exact Nat.le_refl _ | omega | (simp; done) | (simp; omega)) _ | with_reducible refine Below.setCell ?_ (by first | exact Nat.le_refl _ | omega | (simp; done) | (simp; omega)) _ | (with_reducible refine ext_trans ?_ (by with_reducible assumption)))), (by repeat (first | with_reducible exact Below.refl _ _ | with_reducible assumption | with_reducible refine Below.drew ?_ | with_reducible refine Below.alloc ?_ (by first | exact Nat.le_refl _ | omega | (simp; done) | (simp; omega)) _ | with_reducible refine Below.setCell ?_ (by first | exact Nat.le_refl _ | omega | (simp; done) | (simp; omega)) _ | (with_reducible refine ext_trans ?_ (by with_reducible assumption))))⟩, by simp [intOf]; omega⟩
    · obtain rfl : q = l.length := by omega
      have hll := hr.out
      rw [List.take_length] at hll
      have HL := Lib.hid hll
      clear hll
      go_wp2_with fail
      go_ret
      exact ⟨_, rfl, by rw [HL.out]; exact HW.out, hbw⟩

end Go.Proofs.Yteaniiponikpjaa
