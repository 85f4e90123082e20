/-
  Contracts of MacOf, the program's and the reference's.
-/
import Derived.Test.YtjlnbjabehpncaaMcs
import Derived.Test.YtjlnbjabehpncaaHash
import Derived.Test.YtjlnbjabehpncaaStr
namespace Go.Proofs.Ytjlnbjabehpncaa
open Go.RowKit

/-- The first row of an input. -/
def macRow : List RMacRow → ByteArray → Int
  | [], _ => 0
  | x :: l, s => if x.1 = s then x.2 % 16777216 else macRow l s
theorem macRow_bd : ∀ (l : List RMacRow) (s : ByteArray), 0 ≤ macRow l s ∧ macRow l s < 16777216
  | [], _ => by simp [macRow]
  | x :: l, s => by
    unfold macRow
    split
    · omega
    · exact macRow_bd l s
theorem macRow_yes {rs : List RMacRow} {s : ByteArray} {k : Nat} {x : RMacRow} (h : macRow (rs.drop k) s = macRow rs s) (hk : k < rs.length) (hx : rs[k] = x) (he : x.1 = s) : macRow rs s = x.2 % 16777216 := by
  rw [← h, List.drop_eq_getElem_cons hk, hx, macRow, if_pos he]
theorem macRow_no {rs : List RMacRow} {s : ByteArray} {k : Nat} {x : RMacRow} (h : macRow (rs.drop k) s = macRow rs s) (hk : k < rs.length) (hx : rs[k] = x) (he : ¬ x.1 = s) : macRow (rs.drop (k + 1)) s = macRow rs s := by
  rw [← h, List.drop_eq_getElem_cons hk, hx, macRow, if_neg he]
theorem macRow_end {rs : List RMacRow} {s : ByteArray} (h : macRow (rs.drop rs.length) s = macRow rs s) : macRow rs s = 0 := by
  rw [← h, List.drop_length, macRow]
theorem tmod24 (n : Int) : n.tmod 16777216 = if 0 ≤ n then n % 16777216 else -((-n) % 16777216) := by
  split
  · rename_i h
    rw [Int.tmod_eq_emod_of_nonneg h]
  · rename_i h
    have e : n = -(-n) := by omega
    rw [e, Int.neg_tmod, Int.tmod_eq_emod_of_nonneg (by omega)]
    simp
theorem emod_of (n : Int) : (0 ≤ n.tmod 16777216 → n.tmod 16777216 = n % 16777216) ∧ (n.tmod 16777216 < 0 → n.tmod 16777216 + 16777216 = n % 16777216) := by
  have h := tmod24 n
  split at h <;> constructor <;> omega
theorem emod_three (n : Int) : (n.tmod 16777216 + 16777216) % 16777216 = n % 16777216 := by
  have h := emod_of n
  rcases Int.lt_or_le (n.tmod 16777216) 0 with h0 | h0
  · have := h.2 h0
    omega
  · have := h.1 h0
    omega
def macOf (u : Bool) (k l : BitVec 64) (rs : List RMacRow) (s : ByteArray) : Int := if u then macRow rs s else uI (sipH k l s.data.toList) % 16777216

set_option maxRecDepth 100000 in
set_option maxHeartbeats 1000000 in
theorem sMacOf_any (u : Bool) (k l : BitVec 64) (v : Value) (rs : List RMacRow) (t : ByteArray) (ht : t.size ≤ 1048576) (hn : rs.length ≤ maxLen) (w : World) (h : RdMacRow w v rs) (hb : ∀ x ∈ rs, -9223372036854775808 ≤ x.2 ∧ x.2 ≤ 9223372036854775807) :
    Calls Try.prog 64 #[vM u (uI k) (uI l) v, .string t] w fun e w' => e = .returned (.int .i64 (macOf u k l rs t)) ∧ Below w.heap.size w w' := by
  unfold maxLen at hn
  obtain ⟨A, c, rfl, -⟩ := id h
  have H := Lib.hid h
  have HB := Lib.hid hb
  clear h hb
  cases u
  · have hx := uI_bd (sipH k l t.data.toList)
    obtain ⟨hx1, hx2⟩ := hx
    have hm : macOf false k l rs t = uI (sipH k l t.data.toList) % 16777216 := rfl
    rw [hm]
    have hs := fun W => sSipHash_any k l t ht W
    generalize uI (sipH k l t.data.toList) = X at *
    have HS := Lib.hid hs
    clear hs hm
    go_enter Try.func64, Try.ntmps64
    go_wp2_with fail
    refine (HS.out _).mono ?_
    rintro e w1 ⟨rfl, hb1⟩
    obtain ⟨hc1, hf1⟩ := bcell hb1
    have hz1 := hb1.size
    (try simp at hz1)
    go_wp2_with fail
    go_ret
    exact ⟨rfl, (by repeat (first | with_reducible exact Below.refl _ _ | with_reducible assumption | with_reducible refine Below.drew ?_ | with_reducible refine Below.alloc ?_ (by first | exact Nat.le_refl _ | omega | (simp; done) | (simp; omega)) _ | with_reducible refine Below.setCell ?_ (by first | exact Nat.le_refl _ | omega | (simp; done) | (simp; omega)) _ | (with_reducible refine ext_trans ?_ (by with_reducible assumption))))⟩
  · have hm : macOf true k l rs t = macRow rs t := rfl
    rw [hm]
    clear hm
    go_enter Try.func64, Try.ntmps64
    go_wp2_with fail
    go_loopw [5] (fun i wr => ∃ q : Nat, q ≤ rs.length ∧ i = .int .i64 q ∧ Hid (macRow (rs.drop q) t = macRow rs t) ∧ Hid (wr.heap[w.heap.size]? = some (.cells #[.bool true, .int .u64 (uI k), .int .u64 (uI l), .slice A rs.length c] 27 (0, 0))) ∧ Below w.heap.size w wr) (fun i _ => rs.length - (intOf i).toNat)
    case atStart => exact ⟨0, by omega, rfl, rfl, (by repeat (first | exact heap_new _ _ _ (by first | rfl | (simp; done) | (simp; omega)) | refine (Below.heap_alloc _ _ _ (by first | omega | (simp; done) | (simp; omega))).trans ?_)), (by repeat (first | with_reducible exact Below.refl _ _ | with_reducible assumption | with_reducible refine Below.drew ?_ | with_reducible refine Below.alloc ?_ (by first | exact Nat.le_refl _ | omega | (simp; done) | (simp; omega)) _ | with_reducible refine Below.setCell ?_ (by first | exact Nat.le_refl _ | omega | (simp; done) | (simp; omega)) _ | (with_reducible refine ext_trans ?_ (by with_reducible assumption))))⟩
    case round =>
      obtain ⟨q, hq, rfl, hmr, hR, hbw⟩ := hrel
      have hr := hR.out
      have r0_hr := cell_of_row _ _ 0 _ _ _ hr
      have r1_hr := cell_of_row _ _ 1 _ _ _ hr
      have r2_hr := cell_of_row _ _ 2 _ _ _ hr
      have r3_hr := cell_of_row _ _ 3 _ _ _ hr
      have f0_hr := frozen_of_row _ _ 0 _ _ hr
      have f1_hr := frozen_of_row _ _ 1 _ _ hr
      have f2_hr := frozen_of_row _ _ 2 _ _ hr
      have f3_hr := frozen_of_row _ _ 3 _ _ hr
      simp at r0_hr r1_hr r2_hr r3_hr
      clear hr
      by_cases hlt : q < rs.length
      · obtain ⟨b, off, rfl, hbB, hcell⟩ := H.out.elem eMacRow_len (by omega) q hlt
        have hbx := HB.out rs[q] (by simp)
        obtain ⟨z, hz⟩ : ∃ z, rs[q] = z := ⟨_, rfl⟩
        rw [hz] at hcell hbx
        obtain ⟨x0, x1⟩ := z
        have c0 : wr.cell? ⟨b, off + q * 2, none⟩ = some (.string x0) := (hbw.cell (p := ⟨b, _, none⟩) hbB).trans (hcell 0 (by omega))
        have c1 : wr.cell? ⟨b, off + q * 2 + 1, none⟩ = some (.int .i64 x1) := (hbw.cell (p := ⟨b, _, none⟩) hbB).trans (hcell 1 (by omega))
        simp only at hbx
        obtain ⟨hx1, hx2⟩ := hbx
        have hnq : (q : Int) < (rs.length : Int) := by omega
        have HZ := Lib.hid hz
        clear hcell hz
        by_cases hin : x0 = t
        · subst hin
          have ht := tmod24 x1
          have hbt : -16777216 < x1.tmod 16777216 ∧ x1.tmod 16777216 < 16777216 := by rw [ht]; split <;> omega
          obtain ⟨hb1, hb2⟩ := hbt
          clear ht
          go_wp2_with fail
          all_goals
            go_ret
            refine ⟨?_, hbw⟩
            have e := macRow_yes hmr.out hlt HZ.out rfl
            rw [e]
            refine congrArg Ending.returned (congrArg (Value.int .i64) ?_)
            first | exact (emod_of x1).2 (by assumption) | exact (emod_of x1).1 (by omega)
        · have hne : ¬ x0.toList = t.toList := fun h => hin (bytes_eq h)
          have hne2 := bs_ne hin
          go_wp2_with fail
          exact ⟨⟨q + 1, by omega, by go_num, macRow_no hmr.out hlt HZ.out hin, hR, hbw⟩, by simp [intOf]; omega⟩
      · obtain rfl : q = rs.length := by omega
        go_wp2_with fail
        go_ret
        exact ⟨by rw [macRow_end hmr.out]; rfl, hbw⟩
set_option maxRecDepth 100000 in
set_option maxHeartbeats 1000000 in
theorem MacOf_any (u : Bool) (k l : BitVec 64) (v : Value) (rs : List RMacRow) (t : ByteArray) (ht : t.size ≤ 1048576) (hn : rs.length ≤ maxLen) (w : World) (h : RdMacRow w v rs) (hb : ∀ x ∈ rs, -9223372036854775808 ≤ x.2 ∧ x.2 ≤ 9223372036854775807) :
    Calls Try.prog 56 #[vM u (uI k) (uI l) v, .string t] w fun e w' => e = .returned (.int .i64 (macOf u k l rs t)) ∧ Below w.heap.size w w' := by
  unfold maxLen at hn
  obtain ⟨A, c, rfl, -⟩ := id h
  have H := Lib.hid h
  have HB := Lib.hid hb
  clear h hb
  cases u
  · have hx := uI_bd (sipH k l t.data.toList)
    obtain ⟨hx1, hx2⟩ := hx
    have hm : macOf false k l rs t = uI (sipH k l t.data.toList) % 16777216 := rfl
    rw [hm]
    have hs := fun W => SipHash_any k l t ht W
    generalize uI (sipH k l t.data.toList) = X at *
    have HS := Lib.hid hs
    clear hs hm
    go_enter Try.func56, Try.ntmps56
    go_wp2_with fail
    refine (HS.out _).mono ?_
    rintro e w1 ⟨rfl, hb1⟩
    obtain ⟨hc1, hf1⟩ := bcell hb1
    have hz1 := hb1.size
    (try simp at hz1)
    go_wp2_with fail
    go_ret
    exact ⟨rfl, (by repeat (first | with_reducible exact Below.refl _ _ | with_reducible assumption | with_reducible refine Below.drew ?_ | with_reducible refine Below.alloc ?_ (by first | exact Nat.le_refl _ | omega | (simp; done) | (simp; omega)) _ | with_reducible refine Below.setCell ?_ (by first | exact Nat.le_refl _ | omega | (simp; done) | (simp; omega)) _ | (with_reducible refine ext_trans ?_ (by with_reducible assumption))))⟩
  · have hm : macOf true k l rs t = macRow rs t := rfl
    rw [hm]
    clear hm
    go_enter Try.func56, Try.ntmps56
    go_wp2_with fail
    go_loopw [21] (fun i wr => ∃ q : Nat, q ≤ rs.length ∧ i = .int .i64 q ∧ Hid (macRow (rs.drop q) t = macRow rs t) ∧ Hid (wr.heap[w.heap.size]? = some (.cells #[.bool true, .int .u64 (uI k), .int .u64 (uI l), .slice A rs.length c] 27 (0, 0))) ∧ Below w.heap.size w wr) (fun i _ => rs.length - (intOf i).toNat)
    case atStart => exact ⟨0, by omega, rfl, rfl, (by repeat (first | exact heap_new _ _ _ (by first | rfl | (simp; done) | (simp; omega)) | refine (Below.heap_alloc _ _ _ (by first | omega | (simp; done) | (simp; omega))).trans ?_)), (by repeat (first | with_reducible exact Below.refl _ _ | with_reducible assumption | with_reducible refine Below.drew ?_ | with_reducible refine Below.alloc ?_ (by first | exact Nat.le_refl _ | omega | (simp; done) | (simp; omega)) _ | with_reducible refine Below.setCell ?_ (by first | exact Nat.le_refl _ | omega | (simp; done) | (simp; omega)) _ | (with_reducible refine ext_trans ?_ (by with_reducible assumption))))⟩
    case round =>
      obtain ⟨q, hq, rfl, hmr, hR, hbw⟩ := hrel
      have hr := hR.out
      have r0_hr := cell_of_row _ _ 0 _ _ _ hr
      have r1_hr := cell_of_row _ _ 1 _ _ _ hr
      have r2_hr := cell_of_row _ _ 2 _ _ _ hr
      have r3_hr := cell_of_row _ _ 3 _ _ _ hr
      have f0_hr := frozen_of_row _ _ 0 _ _ hr
      have f1_hr := frozen_of_row _ _ 1 _ _ hr
      have f2_hr := frozen_of_row _ _ 2 _ _ hr
      have f3_hr := frozen_of_row _ _ 3 _ _ hr
      simp at r0_hr r1_hr r2_hr r3_hr
      clear hr
      by_cases hlt : q < rs.length
      · obtain ⟨b, off, rfl, hbB, hcell⟩ := H.out.elem eMacRow_len (by omega) q hlt
        have hbx := HB.out rs[q] (by simp)
        obtain ⟨z, hz⟩ : ∃ z, rs[q] = z := ⟨_, rfl⟩
        rw [hz] at hcell hbx
        obtain ⟨x0, x1⟩ := z
        have c0 : wr.cell? ⟨b, off + q * 2, none⟩ = some (.string x0) := (hbw.cell (p := ⟨b, _, none⟩) hbB).trans (hcell 0 (by omega))
        have c1 : wr.cell? ⟨b, off + q * 2 + 1, none⟩ = some (.int .i64 x1) := (hbw.cell (p := ⟨b, _, none⟩) hbB).trans (hcell 1 (by omega))
        simp only at hbx
        obtain ⟨hx1, hx2⟩ := hbx
        have hnq : (q : Int) < (rs.length : Int) := by omega
        have HZ := Lib.hid hz
        clear hcell hz
        by_cases hin : x0 = t
        · subst hin
          have ht := tmod24 x1
          have hbt : -16777216 < x1.tmod 16777216 ∧ x1.tmod 16777216 < 16777216 := by rw [ht]; split <;> omega
          obtain ⟨hb1, hb2⟩ := hbt
          clear ht
          have hbs := hbw.size
          go_wp2_with fail
          all_goals
            go_ret
            refine ⟨?_, (by repeat (first | with_reducible exact Below.refl _ _ | with_reducible assumption | with_reducible refine Below.drew ?_ | with_reducible refine Below.alloc ?_ (by first | exact Nat.le_refl _ | omega | (simp; done) | (simp; omega)) _ | with_reducible refine Below.setCell ?_ (by first | exact Nat.le_refl _ | omega | (simp; done) | (simp; omega)) _ | (with_reducible refine ext_trans ?_ (by with_reducible assumption))))⟩
            have e := macRow_yes hmr.out hlt HZ.out rfl
            rw [e]
            refine congrArg Ending.returned (congrArg (Value.int .i64) ?_)
            exact emod_three x1
        · have hne : ¬ x0.toList = t.toList := fun h => hin (bytes_eq h)
          have hne2 := bs_ne hin
          have hbs := hbw.size
          have hlR := (Array.getElem?_eq_some_iff.1 hR.out).1
          go_wp2_with fail
          exact ⟨⟨q + 1, by omega, by go_num, macRow_no hmr.out hlt HZ.out hin, (Below.heap_alloc _ _ _ hlR).trans hR.out, (by repeat (first | with_reducible exact Below.refl _ _ | with_reducible assumption | with_reducible refine Below.drew ?_ | with_reducible refine Below.alloc ?_ (by first | exact Nat.le_refl _ | omega | (simp; done) | (simp; omega)) _ | with_reducible refine Below.setCell ?_ (by first | exact Nat.le_refl _ | omega | (simp; done) | (simp; omega)) _ | (with_reducible refine ext_trans ?_ (by with_reducible assumption))))⟩, by simp [intOf]; omega⟩
      · obtain rfl : q = rs.length := by omega
        go_wp2_with fail
        go_ret
        exact ⟨by rw [macRow_end hmr.out]; rfl, hbw⟩
end Go.Proofs.Ytjlnbjabehpncaa
