/-
  Slices that a function owns, beside a cursor.
-/
import Derived.Test.YteaniiponikpjaaCur
import Derived.Laws.AppendOwn
import Derived.Laws.MakeOwn
import Derived.Laws.OwnMore
import Derived.Laws.BytesArg
namespace Go.Proofs.Yteaniiponikpjaa
set_option maxRecDepth 100000
open Go.RowKit

theorem Cur.grown {w w' : World} {B g : Nat} {row : Option Nat} (H : Cur w B g) (h : w.grownBy w' row) (hr : ∀ k, row = some k → g < k) : Cur w' B g := by
  obtain ⟨A, n, c, i, x, H⟩ := H
  have hlt := H.lt
  have hlow := H.low
  refine ⟨A, n, c, i, x, hlow, (h.block g hlt (fun e => by have := hr g e.symm; omega)).trans H.blk, H.len, H.pos, H.byt.keep fun b hb => h.block b (by omega) (fun e => by have := hr b e.symm; omega)⟩
theorem only_own {a b c : World} {g : Nat} {row : Option Nat} (h : a.grownBy b (some g)) (k : b.grownBy c row) (hr : ∀ q, row = some q → a.heap.size ≤ q) : a.grownBy c (some g) :=
  ⟨k.os.trans h.os, k.tape.trans h.tape, k.output.trans h.output, Nat.le_trans h.size k.size, fun i hi hne => (k.block i (Nat.lt_of_lt_of_le hi h.size) (fun e => by have := hr i e.symm; omega)).trans (h.block i hi hne)⟩
theorem own_keepg {w w' : World} {base : Nat} {e : TypeId} {size : Nat} {v : Value} {n : Nat} {xs : List Value} {g : Nat} (h : w.ownsRow base e size v n xs) (hg : w.grownBy w' (some g)) (hlt : g < base) : w'.ownsRow base e size v n xs :=
  h.kept hg (by
    cases hv : v.ownBlock with
    | none => exact .inl rfl
    | some k => exact .inr (fun e => by injection e with e; have := (h.lt k hv).1; omega))
theorem own_formN {w : World} {base : Nat} {e : TypeId} {size : Nat} {v : Value} {n : Nat} {xs : List Value} (h : w.ownsRow base e size v n xs) : ∃ A c, v = .slice A n c := by
  rcases h.2 with ⟨rfl, h0⟩ | ⟨b, cap, cur, rfl, _⟩
  · subst h0
    exact ⟨_, _, rfl⟩
  · exact ⟨_, _, rfl⟩
theorem news_cells (w : World) (cs : Array Value) (e : TypeId) (l : List Value) (hl : cs = l.toArray) : ∀ j u, l[j]? = some u → (w.alloc (.cells cs e)).cell? ((⟨w.heap.size, 0, none⟩ : Addr).add j) = some u := by
  intro j u hu
  have ha : (⟨w.heap.size, 0, none⟩ : Addr).add j = ⟨w.heap.size, j, none⟩ := by unfold Addr.add; split <;> simp_all
  rw [ha, cell_of_row _ w.heap.size j cs e (0, 0) (heap_alloc_new w _), hl]
  simpa using hu

theorem info_partsN {P : Program} {t : TypeId} {z : Value} {s b : Nat} (h : (P.info? t).map (fun i => (i.zero, i.size, i.bytes)) = some (some z, s, b)) :
    ∃ i, P.info? t = some i ∧ i.zero = some z ∧ i.size = s ∧ i.bytes = b := by
  obtain ⟨i, hi, h⟩ := Option.map_eq_some_iff.1 h
  injection h with h1 h2
  injection h2 with h2 h3
  exact ⟨i, hi, h1, h2, h3⟩
theorem info_uint8 : (Try.prog.info? 5).map (fun i => (i.zero, i.size, i.bytes)) = some (some (.int .u8 0), 1, 1) := by kernel_rfl
/-- A slice of bytes that was drawn. -/
def OwnB (w : World) (base : Nat) (v : Value) (xs : List Int) : Prop :=
  w.ownsRow base 5 1 v xs.length (xs.map (Value.int .u8)) ∧ ∀ x ∈ xs, 0 ≤ x ∧ x ≤ 255
theorem OwnB.form {w : World} {base : Nat} {v : Value} {xs : List Int} (h : OwnB w base v xs) : ∃ A c, v = .slice A xs.length c := own_formN h.1
theorem OwnB.conv {w : World} {base : Nat} {v : Value} {xs : List Int} (h : OwnB w base v xs) (w' : World) (hw : ∀ b o, base ≤ b → b < w.heap.size → w'.cell? ⟨b, o, none⟩ = w.cell? ⟨b, o, none⟩) :
    (convert 42 9 v).run Try.prog w' = .ok (.string (strOfNums xs)) w' := by
  obtain ⟨h, _⟩ := h
  have h2 := h.2
  have hlt := h.lt
  rcases h2 with ⟨rfl, h0⟩ | ⟨b, cap, cur, rfl, h3⟩
  · have : xs = [] := List.length_eq_zero_iff.1 h0
    subst this
    rw [run_convert_bytes_nil (P := Try.prog) w' _ _ Try.underlying42 Try.underlying5 0 0 _ Try.underlying9]
    rfl
  · refine run_convert_bytes_arg (P := Try.prog) w' _ _ Try.underlying42 Try.underlying5 b 0 _ cap xs rfl (fun i hi => ?_) _ Try.underlying9
    have hb := hlt b rfl
    rw [Nat.zero_add, hw b i hb.1 hb.2, h.cellAt i (by omega)]
    simp [List.getD, List.getElem?_eq_getElem hi]
/-- n bytes, drawn. -/
def DrewBytes (w : World) (B g n : Nat) (e : Ending) (w' : World) : Prop :=
  ∃ (v : Value) (xs : List Int), e = .returned v ∧ OwnB w' w.heap.size v xs ∧ xs.length = n ∧ Cur w' B g ∧ w.grownBy w' (some g)
set_option maxHeartbeats 2000000 in
theorem l1Bytes_any {w : World} {B g : Nat} (hcur : Cur w B g) (m : Int) (hm0 : 0 ≤ m) (hm : m ≤ 1000) :
    Calls Try.prog 69 #[.pointer (some ⟨g, 0, none⟩), .int .i64 m] w (DrewBytes w B g m.toNat) := by
  obtain ⟨n, rfl⟩ := Int.eq_ofNat_of_zero_le hm0
  obtain ⟨i0, hi, hz0, hz1, hz2⟩ := info_partsN info_uint8
  have hlt := hcur.lt
  have hlow := hcur.low
  have hO0 : (w.alloc (.cells #[] 5)).ownsRow w.heap.size 5 1 (.slice (some ⟨w.heap.size, 0, none⟩) 0 0) 0 (([] : List Int).map (Value.int .u8)) := World.ownsRow_made _ _ _ (Nat.le_refl _) (Nat.zero_le _) (by simp)
  have HO0 := Lib.hid hO0
  have hc0 : Cur (w.alloc (.cells #[] 5)) B g := (by repeat (first | with_reducible assumption | with_reducible refine Cur.alloc ?_ _ | with_reducible refine Cur.drew ?_ | with_reducible refine Cur.setOther ?_ (by first | omega | (simp; done) | (simp; omega)) (by first | omega | (simp; done) | (simp; omega)) _))
  have hg0 : w.grownBy (w.alloc (.cells #[] 5)) (some g) := (by repeat (first | with_reducible assumption | with_reducible exact World.grownBy.refl _ _ | with_reducible refine only_alloc ?_ _ | with_reducible refine only_drew ?_ | with_reducible refine only_drewN ?_ _ | with_reducible refine only_setNew ?_ (by first | omega | (simp; done) | (simp; omega)) _ | (with_reducible refine only_trans ?_ (by with_reducible assumption))))
  clear hO0
  go_enter Try.func69, Try.ntmps69
  go_wp2_with fail
  go_loopw [5, 6] (fun v i wr => ∃ (k : Nat) (xs : List Int) (A : Option Addr) (c : Nat), k ≤ n ∧ v = .slice A k c ∧ i = .int .i64 k ∧ xs.length = k ∧ Hid (wr.ownsRow w.heap.size 5 1 (.slice A k c) k (xs.map (Value.int .u8))) ∧ Hid (∀ x ∈ xs, 0 ≤ x ∧ x ≤ 255) ∧ Cur wr B g ∧ w.grownBy wr (some g)) (fun _ i _ => n - (intOf i).toNat)
  case atStart => exact ⟨0, [], some ⟨w.heap.size, 0, none⟩, 0, by omega, rfl, rfl, rfl, HO0, Lib.hid (fun x hx => by cases hx), hc0, hg0⟩
  case round =>
    clear hc0 hg0 HO0
    obtain ⟨k, rs, A, c, hk, rfl, rfl, hrl, hown, hfit, hcr, hgr⟩ := hrel
    have hltr := hcr.lt
    have hzr := hgr.size
    by_cases hkn : k < n
    · go_wp2_with fail
      refine (l1Byte_any hcr).mono ?_
      rintro e w4 ⟨x4, rfl, ⟨hl4, hh4⟩, hc4, ho4⟩
      have hlt4 := hc4.lt
      have hgX : wr.grownBy (w4.alloc (.cells #[.int .u8 x4] 5)) (some g) := (by repeat (first | with_reducible assumption | with_reducible exact World.grownBy.refl _ _ | with_reducible refine only_alloc ?_ _ | with_reducible refine only_drew ?_ | with_reducible refine only_drewN ?_ _ | with_reducible refine only_setNew ?_ (by first | omega | (simp; done) | (simp; omega)) _ | (with_reducible refine only_trans ?_ (by with_reducible assumption))))
      have hown4 := Lib.hid (own_keepg hown.out hgX hlt)
      have hgr4 := only_trans hgr hgX
      have hcX : Cur (w4.alloc (.cells #[.int .u8 x4] 5)) B g := (by repeat (first | with_reducible assumption | with_reducible refine Cur.alloc ?_ _ | with_reducible refine Cur.drew ?_ | with_reducible refine Cur.setOther ?_ (by first | omega | (simp; done) | (simp; omega)) (by first | omega | (simp; done) | (simp; omega)) _))
      have hzX := hgr4.size
      have hx4 : IntKind.u8.wrap x4 = x4 := by
        unfold IntKind.wrap
        simp [IntKind.bits, IntKind.signed]
        omega
      clear hown
      go_wp2_with (refine wpList_append_own _ (by rfl) (.tmp 13) (.tmp 17) 42 (by rfl) w.heap.size 5 i0 _ 1 1 Try.underlying42 hi hz0 hz1 hz2 (by rfl) (by omega) (.slice A k c) k (rs.map (Value.int .u8)) (by rfl) ?c1 ⟨w4.heap.size, 0, none⟩ 1 1 [.int .u8 x4] (by rfl) ?c2 ?c3 ?c4 ?c5 ?c6 ?c7 ?_)
      case c1 => exact hown4.out
      case c2 => rfl
      case c3 => exact news_cells _ _ _ _ rfl
      case c4 => intro u hu; simp at hu; subst hu; rfl
      case c5 => unfold maxLen; omega
      case c6 => omega
      case c7 => exact hzX
      intro v' w5 hown5 hgr5 _
      have hge : ∀ q, (Value.slice A k c).ownBlock = some q → w.heap.size ≤ q := fun q hq => (hown4.out.lt q hq).1
      have hgr6 := only_own hgr4 hgr5 hge
      have hc6 := hcX.grown hgr5 (fun q hq => by have := hge q hq; omega)
      have hfit' : ∀ x ∈ rs ++ [x4], 0 ≤ x ∧ x ≤ 255 := fun x hx => by
        rcases List.mem_append.1 hx with hx | hx
        · exact hfit.out x hx
        · simp at hx
          subst hx
          exact ⟨hl4, hh4⟩
      have HO5 : Hid (w5.ownsRow w.heap.size 5 1 v' (k + 1) ((rs ++ [x4]).map (Value.int .u8))) := by
        rw [List.map_append]
        exact hown5
      clear hown5 hown4
      obtain ⟨A5, c5, rfl⟩ : ∃ A c, v' = .slice A (k + 1 : Nat) c := own_formN HO5.out
      go_wp2_with fail
      go_roundw
      case rel => exact ⟨k + 1, rs ++ [x4], A5, c5, by omega, rfl, by go_num, by simp [hrl], HO5, Lib.hid hfit', hc6, hgr6⟩
      case measure => simp [intOf]; omega
    · obtain rfl : k = n := by omega
      go_wp2_with fail
      go_ret
      exact ⟨_, rs, rfl, ⟨by rw [hrl]; exact hown.out, hfit.out⟩, by simpa using hrl, hcr, hgr⟩
/-- n bytes of nought. -/
theorem l5Long_any (m : Int) (hm0 : 0 ≤ m) (hm : m ≤ 4096) (w : World) :
    Calls Try.prog 70 #[.int .i64 m] w fun e w' => (∃ s : ByteArray, e = .returned (.string s) ∧ (s.size : Int) = m) ∧ Below w.heap.size w w' := by
  obtain ⟨n, rfl⟩ := Int.eq_ofNat_of_zero_le hm0
  obtain ⟨i0, hi, hz0, hz1, hz2⟩ := info_partsN info_uint8
  obtain ⟨w1, hrun, hown, hgr⟩ := run_make_full (P := Try.prog) w w.heap.size 42 5 i0 _ 1 Try.underlying42 hi hz0 hz1 .i64 .i64 n (by rw [hz2]; omega) (by unfold maxLen; omega) (Nat.le_refl _)
  have hO : OwnB w1 w.heap.size (.slice (some ⟨w.heap.size, 0, none⟩) n n) (List.replicate n 0) := by
    refine ⟨?_, fun x hx => by rw [List.eq_of_mem_replicate hx]; omega⟩
    have h := hown
    rw [show (Value.int .u8 0).cells = #[.int .u8 0] from rfl, Nat.mul_one, toList_madeCells_one] at h
    rw [List.length_replicate, List.map_replicate]
    exact h
  have hconv := hO.conv w1 (fun _ _ _ _ => rfl)
  have hE : Below w.heap.size w w1 := (Below.refl _ _).grown hgr (Nat.le_refl _) (fun k hk => by cases hk)
  clear hown hgr hO hi
  go_enter Try.func70, Try.ntmps70
  go_wp2_with fail
  go_ret
  exact ⟨⟨_, rfl, by simp [strOfNums_size]⟩, (by repeat (first | with_reducible exact Below.refl _ _ | with_reducible assumption | with_reducible refine Below.drew ?_ | with_reducible refine Below.alloc ?_ (by first | exact Nat.le_refl _ | omega | (simp; done) | (simp; omega)) _ | with_reducible refine Below.setCell ?_ (by first | exact Nat.le_refl _ | omega | (simp; done) | (simp; omega)) _ | (with_reducible refine ext_trans ?_ (by with_reducible assumption))))⟩
end Go.Proofs.Yteaniiponikpjaa
