/-
  The draws of texts: l1Pick, l1Turned, l7Turned, l7Turned2.
-/
import Derived.Test.YteaniiponikpjaaLdr
import Derived.Test.YteaniiponikpjaaRgt
import Derived.Test.YteaniiponikpjaaSum
import Derived.Test.YteaniiponikpjaaStr
import Derived.Laws.IdiomStrings
import Derived.Deep.RegionHeld3
namespace Go.Proofs.Yteaniiponikpjaa
set_option maxRecDepth 100000
open Go.RowKit Go.Deep

/-- What a drawn region that draws out of a cursor keeps. -/
structure Kep (W : World) (B g : Nat) (w' : World) : Prop where
  cur : Cur w' B g
  by_ : W.grownBy w' (some g)
section
variable {W wx w2 : World} {B g : Nat}
theorem kep_start (hc : Cur W B g) : Kep W B g W.drew := ⟨hc.drew, only_drew (World.grownBy.refl _ _)⟩
theorem kep_draw (h : Kep W B g wx) (hc : Cur w2 B g) (ho : wx.grownBy w2 (some g)) : Kep W B g w2 := ⟨hc, only_trans h.by_ ho⟩
theorem Kep.row (h : Kep W B g wx) {b : Nat} {o : Obj} (hb : W.heap[b]? = some o) (hg : ¬ b = g) : wx.heap[b]? = some o := (grow h.by_ (Array.getElem?_eq_some_iff.1 hb).1 hg).trans hb
end

/-- A text that was drawn. -/
def DrewStr (w : World) (B g n : Nat) (e : Ending) (w' : World) : Prop := ∃ s : ByteArray, e = .returned (.string s) ∧ s.size ≤ n ∧ Cur w' B g ∧ w.grownBy w' (some g)

def allStr (n : Nat) (cs : Array Value) : Bool := cs.toList.all fun v => match v with | .string s => decide (s.size ≤ n) | _ => false
theorem allStr_at {n : Nat} {cs : Array Value} (h : allStr n cs = true) {k : Nat} (hk : k < cs.size) : ∃ s : ByteArray, cs[k]? = some (.string s) ∧ s.size ≤ n := by
  unfold allStr at h
  rw [List.all_eq_true] at h
  have hm : cs[k] ∈ cs.toList := by simp
  have := h _ hm
  split at this
  · rename_i s e
    simp at this
    exact ⟨s, by rw [Array.getElem?_eq_getElem hk, e], this⟩
  · cases this
theorem l1PickS_any {w : World} {B g q n m : Nat} {t : TypeId} {cs : Array Value} (hcur : Cur w B g) (hq : w.heap[q]? = some (.cells cs t (0, 0))) (hne : g ≠ q) (hn : cs.size = n) (h1 : 1 ≤ n) (h2 : n ≤ 100) (ha : allStr m cs = true) :
    Calls Try.prog 118 #[.pointer (some ⟨g, 0, none⟩), .slice (some ⟨q, 0, none⟩) n n] w (DrewStr w B g m) := by
  go_enter Try.func118, Try.ntmps118
  go_wp2_with fail
  refine (l1Below_any (by assumption) _ (by omega) (by omega)).mono ?_
  rintro e w1 ⟨x, rfl, ⟨hx0, hx1⟩, hc1, ho1⟩
  obtain ⟨k, rfl⟩ := Int.eq_ofNat_of_zero_le hx0
  have hk : k < n := by omega
  obtain ⟨u, hu, hu0⟩ := allStr_at ha (k := k) (by omega)
  have hcell : w1.cell? ⟨q, k, none⟩ = some (.string u) := by
    have hlt : q < w.heap.size := by
      rcases Nat.lt_or_ge q w.heap.size with hlt | hge
      · exact hlt
      · rw [Array.getElem?_eq_none hge] at hq; cases hq
    have hq1 := (ho1.block q hlt (by intro e; injection e with e; exact hne e.symm)).trans hq
    rw [cell_of_row w1 q k cs t (0, 0) hq1, hu]
  clear hq ha hu
  go_wp2_with fail
  go_ret
  exact ⟨u, rfl, hu0, hc1, ho1⟩
set_option maxHeartbeats 4000000 in
set_option linter.unusedVariables false in
theorem l1Turned_any {w : World} {B g q n : Nat} {t : TypeId} {cs : Array Value} (s : ByteArray) (hs : s.size ≤ 100000) (hcur : Cur w B g) (hq : w.heap[q]? = some (.cells cs t (0, 0))) (hne : g ≠ q) (hn : cs.size = n) (h1 : 1 ≤ n) (h2 : n ≤ 100) (ha : allStr 1 cs = true) :
    Calls Try.prog 117 #[.pointer (some ⟨g, 0, none⟩), .string s, .slice (some ⟨q, 0, none⟩) n n] w (DrewStr w B g (s.size + 1)) := by
  have HA := Lib.hid ha
  have HQ := Lib.hid hq
  clear ha hq
  go_enter Try.func117, Try.ntmps117
  go_wp2_with fail
  refine (l1Below_any hcur _ (by omega) (by omega)).mono ?_
  rintro e w1 ⟨x1, rfl, ⟨hx0, hx1⟩, hc1, ho1⟩
  obtain ⟨k, rfl⟩ := Int.eq_ofNat_of_zero_le hx0
  have hk : k ≤ s.size := by omega
  have hk2 : (k : Int) ≤ (s.size : Int) := by omega
  go_wp2_with fail
  refine (l1Below_any hc1 6 (by omega) (by omega)).mono ?_
  rintro e w2 ⟨x2, rfl, ⟨hl2, hh2⟩, hc2, ho2⟩
  have hg2 : w.grownBy w2 (some g) := only_trans ho1 ho2
  have HQ2 : Hid (w2.heap[q]? = some (.cells cs t (0, 0))) := Lib.hid ((grow hg2 (Array.getElem?_eq_some_iff.1 HQ.out).1 (fun e => hne e.symm)).trans HQ.out)
  clear ho1 ho2 hc1
  have hlt2 := hc2.lt
  by_cases k0 : x2 = 0
  · subst k0
    have hne2 : ¬ q = g := fun e => hne e.symm
    have hz1 : (s.extract 0 k).size = k := by rw [ByteArray.size_extract]; omega
    have hz2 : (s.extract k s.size).size = s.size - k := by rw [ByteArray.size_extract]; omega
    have hz3 : min k s.size = k := by omega
    go_wp2_with fail
    go_region_held3 (fun w' => Kep w2 B g w') (first | with_reducible assumption | with_reducible exact kep_start hc2) ((go_at_call 118; ((with_reducible refine (l1PickS_any (m := 1) (by with_reducible assumption : Kep w2 B g _).cur ((by with_reducible assumption : Kep w2 B g _).row HQ2.out hne2) hne hn h1 h2 HA.out).mono ?_); (rintro e wA ⟨S, rfl, hSz, hcA, hoA⟩; have hSA := kep_draw (by with_reducible assumption : Kep w2 B g _) hcA hoA; have q1 : ¬ 9223372036854775807 < k + S.size := (by omega); have q2 : ¬ 9223372036854775807 < k + S.size + (s.size - k) := (by omega)))))
    go_wp2_with fail
    go_ret
    exact ⟨_, rfl, by simp only [ByteArray.size_append]; omega, hSA.cur, only_trans hg2 hSA.by_⟩
  by_cases k1 : x2 = 1
  · subst k1
    go_wp2_with fail
    go_ret
    exact ⟨_, rfl, by rw [ByteArray.size_extract]; omega, (by repeat (first | with_reducible assumption | with_reducible refine Cur.alloc ?_ _ | with_reducible refine Cur.drew ?_ | with_reducible refine Cur.setOther ?_ (by first | omega | (simp; done) | (simp; omega)) (by first | omega | (simp; done) | (simp; omega)) _)), (by repeat (first | with_reducible assumption | with_reducible exact World.grownBy.refl _ _ | with_reducible refine only_alloc ?_ _ | with_reducible refine only_drew ?_ | with_reducible refine only_drewN ?_ _ | with_reducible refine only_setNew ?_ (by first | omega | (simp; done) | (simp; omega)) _ | (with_reducible refine only_trans ?_ (by with_reducible assumption))))⟩
  have e0 : (x2 == 0) = false := by simpa using k0
  have e1 : (x2 == 1) = false := by simpa using k1
  clear k0 k1
  go_wp2_with fail
  go_ret
  exact ⟨_, rfl, by omega, (by repeat (first | with_reducible assumption | with_reducible refine Cur.alloc ?_ _ | with_reducible refine Cur.drew ?_ | with_reducible refine Cur.setOther ?_ (by first | omega | (simp; done) | (simp; omega)) (by first | omega | (simp; done) | (simp; omega)) _)), (by repeat (first | with_reducible assumption | with_reducible exact World.grownBy.refl _ _ | with_reducible refine only_alloc ?_ _ | with_reducible refine only_drew ?_ | with_reducible refine only_drewN ?_ _ | with_reducible refine only_setNew ?_ (by first | omega | (simp; done) | (simp; omega)) _ | (with_reducible refine only_trans ?_ (by with_reducible assumption))))⟩
theorem l1Pick_at {w : World} {B g n q : Nat} {t : TypeId} {cs : Array Value} (lo hi : Int) (hcur : Cur w B g) (hq : q = w.heap.size) (hn : cs.size = n) (h1 : 1 ≤ n) (h2 : n ≤ 100) (ha : allInts lo hi cs = true) :
    Calls Try.prog 85 #[.pointer (some ⟨g, 0, none⟩), .slice (some ⟨q, 0, none⟩) n n] (w.alloc (.cells cs t)) (DrewInt (w.alloc (.cells cs t)) B g lo hi) := by
  subst hq
  exact l1Pick_new lo hi hcur hn h1 h2 ha
/-- A row of bytes in block q: the first n may be read and written. -/
def Buf (w : World) (q n : Nat) : Prop := ∃ (C : Array Value) (fr : Nat × Nat), w.heap[q]? = some (.cells C 5 fr) ∧ n ≤ fr.1 ∧ n ≤ C.size ∧ ∀ i, i < n → ∃ u : Int, (0 ≤ u ∧ u ≤ 255) ∧ C[i]? = some (.int .u8 u)
section
variable {w w' : World} {q n : Nat}
theorem Buf.cell (h : Buf w q n) {i : Nat} (hi : i < n) : ∃ u : Int, w.cell? ⟨q, i, none⟩ = some (.int .u8 u) := by
  obtain ⟨C, fr, h1, -, -, h4⟩ := h
  obtain ⟨u, -, hu⟩ := h4 i hi
  exact ⟨u, (cell_of_row w q i C _ fr h1).trans hu⟩
theorem Buf.free (h : Buf w q n) {i : Nat} (hi : i < n) : w.frozen? ⟨q, i, none⟩ = false := by
  obtain ⟨C, ⟨lo, up⟩, h1, h2, -, -⟩ := h
  have h2 : n ≤ lo := h2
  simp [World.frozen?, h1]
  omega
theorem Buf.keep (h : Buf w q n) (hb : w'.heap[q]? = w.heap[q]?) : Buf w' q n := by
  obtain ⟨C, fr, h1, h2⟩ := h
  exact ⟨C, fr, hb.trans h1, h2⟩
theorem Buf.lt (h : Buf w q n) : q < w.heap.size := by
  obtain ⟨C, fr, h1, h2⟩ := h
  exact (Array.getElem?_eq_some_iff.1 h1).1
theorem Buf.set (h : Buf w q n) (i : Nat) {u : Int} (hu : 0 ≤ u ∧ u ≤ 255) : Buf (w.setCell ⟨q, i, none⟩ (.int .u8 u)) q n := by
  obtain ⟨C, fr, h1, h2, h3, h4⟩ := h
  refine ⟨C.setIfInBounds i (.int .u8 u), fr, by simp [World.setCell, Array.getElem?_modify, h1], h2, by simpa using h3, fun j hj => ?_⟩
  by_cases e : i = j
  · subst e
    exact ⟨u, hu, by rw [Array.getElem?_setIfInBounds, if_pos rfl, if_pos (by omega)]⟩
  · obtain ⟨v, hv, hv2⟩ := h4 j hj
    exact ⟨v, hv, by rw [Array.getElem?_setIfInBounds, if_neg e]; exact hv2⟩
theorem Buf.conv (h : Buf w q n) {m : Nat} (hm : m ≤ n) (cap : Nat) : ∃ s : ByteArray, s.size = m ∧ (convert 42 9 (.slice (some ⟨q, 0, none⟩) m cap)).run Try.prog w = .ok (.string s) w := by
  have hex : ∀ i, ∃ u : Int, i < n → w.cell? ⟨q, i, none⟩ = some (.int .u8 u) := fun i => by
    by_cases hi : i < n
    · obtain ⟨u, hu⟩ := h.cell hi
      exact ⟨u, fun _ => hu⟩
    · exact ⟨0, fun h => absurd h hi⟩
  obtain ⟨f, hf⟩ : ∃ f : Nat → Int, ∀ i, i < n → w.cell? ⟨q, i, none⟩ = some (.int .u8 (f i)) := ⟨fun i => Classical.choose (hex i), fun i => Classical.choose_spec (hex i)⟩
  refine ⟨strOfNums ((List.range m).map f), by rw [strOfNums_size]; simp, ?_⟩
  refine run_convert_bytes_arg (P := Try.prog) w _ _ Try.underlying42 Try.underlying5 q 0 m cap _ (by simp) (fun i hi => ?_) _ Try.underlying9
  rw [Nat.zero_add, hf i (by omega)]
  simp [List.getD, hi]
end
theorem buf_made (w : World) (s : ByteArray) (cap : Nat) : Buf (w.drew.alloc (.cells (bytesRow s cap) 5 ((bytesRow s cap).size, (bytesRow s cap).size + 1))) w.heap.size s.size := by
  have hz : s.size ≤ (bytesRow s cap).size := by
    unfold bytesRow
    rw [Array.size_append, Array.size_map]
    exact Nat.le_add_right s.size _
  refine ⟨_, _, heap_alloc_new w.drew _, hz, hz, fun i hi => ?_⟩
  have hi' : i < s.data.size := hi
  refine ⟨(s.data[i].toNat : Int), ⟨by omega, by have := s.data[i].toNat_lt; omega⟩, ?_⟩
  unfold bytesRow
  rw [Array.getElem?_append_left (by rw [Array.size_map]; exact hi'), Array.getElem?_map, Array.getElem?_eq_getElem hi']
  rfl
set_option maxHeartbeats 8000000 in
set_option linter.unusedVariables false in
theorem l7Turned_any {w : World} {B g : Nat} (s : ByteArray) (hs : s.size ≤ 100000) (hcur : Cur w B g) :
    Calls Try.prog 116 #[.pointer (some ⟨g, 0, none⟩), .string s] w (DrewStr w B g (s.size + 1)) := by
  have hlt := hcur.lt
  have hlow := hcur.low
  have htu : ∀ w1 : World, Cur w1 B g → Calls Try.prog 117 #[.pointer (some ⟨g, 0, none⟩), .string s, .slice (some ⟨w1.heap.size, 0, none⟩) 3 3] (w1.alloc (.cells #[.string ⟨#[0]⟩, .string ⟨#[69]⟩, .string ⟨#[120]⟩] 9)) (DrewStr (w1.alloc (.cells #[.string ⟨#[0]⟩, .string ⟨#[69]⟩, .string ⟨#[120]⟩] 9)) B g (s.size + 1)) := fun w1 hc =>
    l1Turned_any s hs (hc.alloc _) (heap_alloc_new _ _) (by have := hc.lt; omega) rfl (by omega) (by omega) (by decide)
  have HT := Lib.hid htu
  clear htu
  by_cases hsz : (s.size : Int) < 20
  · go_enter Try.func116, Try.ntmps116
    go_wp2_with fail
    refine (HT.out _ hcur).mono ?_
    rintro e w1 ⟨S, rfl, hSz, hc1, ho1⟩
    go_wp2_with fail
    go_ret
    exact ⟨S, rfl, hSz, hc1, (by repeat (first | with_reducible assumption | with_reducible exact World.grownBy.refl _ _ | with_reducible refine only_alloc ?_ _ | with_reducible refine only_drew ?_ | with_reducible refine only_drewN ?_ _ | with_reducible refine only_setNew ?_ (by first | omega | (simp; done) | (simp; omega)) _ | (with_reducible refine only_trans ?_ (by with_reducible assumption))))⟩
  go_enter Try.func116, Try.ntmps116
  go_wp2_with fail
  refine (l1Once_any hcur 3 (by omega) (by omega)).mono ?_
  rintro e w1 ⟨x1, rfl, hc1, ho1⟩
  have hlt1 := hc1.lt
  cases x1
  case true =>
    go_wp2_with fail
    refine (HT.out _ hc1).mono ?_
    rintro e w2 ⟨S, rfl, hSz, hc2, ho2⟩
    go_wp2_with fail
    go_ret
    exact ⟨S, rfl, hSz, hc2, (by repeat (first | with_reducible assumption | with_reducible exact World.grownBy.refl _ _ | with_reducible refine only_alloc ?_ _ | with_reducible refine only_drew ?_ | with_reducible refine only_drewN ?_ _ | with_reducible refine only_setNew ?_ (by first | omega | (simp; done) | (simp; omega)) _ | (with_reducible refine only_trans ?_ (by with_reducible assumption))))⟩
  have hbs := run_bytes_of_string (P := Try.prog) w1 9 42 5 s Try.underlying9 Try.underlying42 Try.underlying5
  have hB1 := buf_made w1 s (grownCap w1 s.size 0 5)
  have hcap := grownCap_ge w1 s.size 0 5
  generalize grownCap w1 s.size 0 5 = cap at hbs hB1 hcap
  generalize (((bytesRow s cap).size, (bytesRow s cap).size + 1) : Nat × Nat) = fr at hbs hB1
  generalize bytesRow s cap = C at hbs hB1
  have HB1 := Lib.hid hB1
  clear hB1
  have hcap2 : 20 ≤ cap := by omega
  have hcap3 : (20 : Int) ≤ (cap : Int) := by omega
  go_wp2_with fail
  have hcx : Cur (((w1.alloc (.cells C 5 fr)).alloc (.cells #[.int .i64 0, .int .i64 1, .int .i64 2, .int .i64 3, .int .i64 6, .int .i64 7, .int .i64 8, .int .i64 10, .int .i64 19] 3)).drew) B g := ((hc1.alloc _).alloc _).drew
  have hrx : (((w1.alloc (.cells C 5 fr)).alloc (.cells #[.int .i64 0, .int .i64 1, .int .i64 2, .int .i64 3, .int .i64 6, .int .i64 7, .int .i64 8, .int .i64 10, .int .i64 19] 3)).drew).heap[w1.heap.size + 1]? = some (.cells #[.int .i64 0, .int .i64 1, .int .i64 2, .int .i64 3, .int .i64 6, .int .i64 7, .int .i64 8, .int .i64 10, .int .i64 19] 3 (0, 0)) := drew_row (by repeat (first | exact heap_new _ _ _ (by first | rfl | (simp; done) | (simp; omega)) | refine (Below.heap_alloc _ _ _ (by first | omega | (simp; done) | (simp; omega))).trans ?_))
  have hpk := l1PickInt_any (B := B) (n := 9) 0 19 hcx hrx (by omega) (by rfl) (by omega) (by omega) (by kernel_rfl)
  have hzx : (((w1.alloc (.cells C 5 fr)).alloc (.cells #[.int .i64 0, .int .i64 1, .int .i64 2, .int .i64 3, .int .i64 6, .int .i64 7, .int .i64 8, .int .i64 10, .int .i64 19] 3)).drew).heap.size = w1.heap.size + 2 := by
    show ((w1.alloc (.cells C 5 fr)).alloc (.cells #[.int .i64 0, .int .i64 1, .int .i64 2, .int .i64 3, .int .i64 6, .int .i64 7, .int .i64 8, .int .i64 10, .int .i64 19] 3)).heap.size = _
    simp
  have HBx : Buf (((w1.alloc (.cells C 5 fr)).alloc (.cells #[.int .i64 0, .int .i64 1, .int .i64 2, .int .i64 3, .int .i64 6, .int .i64 7, .int .i64 8, .int .i64 10, .int .i64 19] 3)).drew) w1.heap.size s.size := HB1.out.keep (drew_row ((Below.heap_alloc _ _ _ (by simp)).trans rfl))
  have hgx : w.grownBy (((w1.alloc (.cells C 5 fr)).alloc (.cells #[.int .i64 0, .int .i64 1, .int .i64 2, .int .i64 3, .int .i64 6, .int .i64 7, .int .i64 8, .int .i64 10, .int .i64 19] 3)).drew) (some g) := only_drew (only_alloc (only_alloc ho1 _) _)
  with_reducible refine hpk.mono ?_
  clear hpk hrx hcx
  generalize (((w1.alloc (.cells C 5 fr)).alloc (.cells #[.int .i64 0, .int .i64 1, .int .i64 2, .int .i64 3, .int .i64 6, .int .i64 7, .int .i64 8, .int .i64 10, .int .i64 19] 3)).drew) = wx at hzx HBx hgx ⊢
  rintro e w2 ⟨x2, rfl, ⟨hl2, hh2⟩, hc2, ho2⟩
  have hz2 := ho2.size
  have HB2 : Hid (Buf w2 w1.heap.size s.size) := Lib.hid (HBx.keep (grow ho2 (by omega) (by omega)))
  have hg2 : w.grownBy w2 (some g) := only_trans hgx ho2
  clear HBx
  clear hbs ho2 HB1
  obtain ⟨k, rfl⟩ := Int.eq_ofNat_of_zero_le hl2
  have hk : k < s.size := by omega
  have hk2 : (k : Int) < (s.size : Int) := by omega
  go_wp2_with fail
  refine (l1Pick_new (B := B) 0 255 (by repeat (first | with_reducible assumption | with_reducible refine Cur.alloc ?_ _ | with_reducible refine Cur.drew ?_ | with_reducible refine Cur.setOther ?_ (by first | omega | (simp; done) | (simp; omega)) (by first | omega | (simp; done) | (simp; omega)) _)) (by rfl) (by omega) (by omega) (by kernel_rfl)).mono ?_
  rintro e w3 ⟨x3, rfl, ⟨hl3, hh3⟩, hc3, ho3⟩
  have hz3 := ho3.size
  (try simp at hz3)
  have HB3 : Hid (Buf w3 w1.heap.size s.size) := Lib.hid (HB2.out.keep ((grow ho3 (by simp; omega) (by omega)).trans (Below.heap_alloc _ _ _ (by omega))))
  have hg3 : w.grownBy w3 (some g) := only_trans (only_alloc hg2 _) ho3
  obtain ⟨u3, hu3⟩ := HB3.out.cell hk
  have hf3 := HB3.out.free hk
  clear ho3 HB2
  have hlt3 := hc3.lt
  have hBq : B ≤ w1.heap.size := by omega
  have hz1 := ho1.size
  go_wp2_with fail
  refine (l1Once_any (B := B) (by repeat (first | with_reducible assumption | with_reducible refine Cur.alloc ?_ _ | with_reducible refine Cur.drew ?_ | with_reducible refine Cur.setOther ?_ (by first | omega | (simp; done) | (simp; omega)) (by first | omega | (simp; done) | (simp; omega)) _)) 4 (by omega) (by omega)).mono ?_
  rintro e w4 ⟨x4, rfl, hc4, ho4⟩
  have hz4 := ho4.size
  (try simp at hz4)
  have HB4 : Hid (Buf w4 w1.heap.size s.size) := Lib.hid ((HB3.out.set k (u := x3) ⟨hl3, hh3⟩).keep (grow ho4 (HB3.out.set k (u := x3) ⟨hl3, hh3⟩).lt (by omega)))
  have hg4 : w.grownBy w4 (some g) := only_trans (only_setNew hg3 (by exact hz1) _) ho4
  clear ho4 hu3 hf3 HB3
  cases x4
  case true =>
    obtain ⟨S, hSz, hcv⟩ := HB4.out.conv (Nat.le_refl _) cap
    go_wp2_with fail
    go_ret
    exact ⟨S, rfl, by omega, hc4, hg4⟩
  obtain ⟨u10, hu10⟩ := HB4.out.cell (show 10 < s.size by omega)
  have hf10 := HB4.out.free (show 10 < s.size by omega)
  obtain ⟨u11, hu11⟩ := HB4.out.cell (show 11 < s.size by omega)
  have hf11 := HB4.out.free (show 11 < s.size by omega)
  have HB5 := Lib.hid ((HB4.out.set 10 (u := 0) (by omega)).set 11 (u := 0) (by omega))
  obtain ⟨S, hSz, hcv⟩ := HB5.out.conv (m := 20) (by omega) cap
  go_wp2_with fail
  refine (sSumOf_any S (by omega) _).mono ?_
  rintro e w5 ⟨rfl, hw5⟩
  clear hcv hu10 hf10 hu11 hf11
  obtain ⟨y, hy⟩ : ∃ y, sumR S.data.toList = y := ⟨_, rfl⟩
  obtain ⟨y0, y1⟩ := sumR_bd S.data.toList
  rw [hy] at y0 y1 ⊢
  have HB6 : Hid (Buf w5 w1.heap.size s.size) := Lib.hid (by rw [← hw5]; exact HB5.out)
  have hg5 : w.grownBy w5 (some g) := by rw [← hw5]; exact only_setNew (only_setNew hg4 (by exact hz1) _) (by exact hz1) _
  have hc5 : Cur w5 B g := by rw [← hw5]; exact (by repeat (first | with_reducible assumption | with_reducible refine Cur.alloc ?_ _ | with_reducible refine Cur.drew ?_ | with_reducible refine Cur.setOther ?_ (by first | omega | (simp; done) | (simp; omega)) (by first | omega | (simp; done) | (simp; omega)) _))
  clear hw5 hy HB4 HB5
  obtain ⟨u10, hu10⟩ := HB6.out.cell (show 10 < s.size by omega)
  have hf10 := HB6.out.free (show 10 < s.size by omega)
  obtain ⟨u11, hu11⟩ := HB6.out.cell (show 11 < s.size by omega)
  have hf11 := HB6.out.free (show 11 < s.size by omega)
  have HB7 := Lib.hid ((HB6.out.set 10 (u := y / 256) (by omega)).set 11 (u := y % 256) (by omega))
  obtain ⟨S2, hSz2, hcv⟩ := HB7.out.conv (Nat.le_refl _) cap
  have hq0 : 0 ≤ y / 256 := by omega
  have hq1 : y / 256 ≤ 255 := by omega
  have hr0 : 0 ≤ y % 256 := by omega
  have hr1 : y % 256 ≤ 255 := by omega
  go_wp2_with fail
  go_ret
  exact ⟨S2, rfl, by omega, (by repeat (first | with_reducible assumption | with_reducible refine Cur.alloc ?_ _ | with_reducible refine Cur.drew ?_ | with_reducible refine Cur.setOther ?_ (by first | omega | (simp; done) | (simp; omega)) (by first | omega | (simp; done) | (simp; omega)) _)), (by repeat (first | with_reducible assumption | with_reducible exact World.grownBy.refl _ _ | with_reducible refine only_alloc ?_ _ | with_reducible refine only_drew ?_ | with_reducible refine only_drewN ?_ _ | with_reducible refine only_setNew ?_ (by first | omega | (simp; done) | (simp; omega)) _ | (with_reducible refine only_trans ?_ (by with_reducible assumption))))⟩
theorem l7Turned2_any {w : World} {B g : Nat} (s : ByteArray) (hs : s.size ≤ 100000) (hcur : Cur w B g) :
    Calls Try.prog 108 #[.pointer (some ⟨g, 0, none⟩), .string s] w (DrewStr w B g (s.size + 1)) := by
  go_enter Try.func108, Try.ntmps108
  go_wp2_with fail
  refine (l1Once_any hcur 5 (by omega) (by omega)).mono ?_
  rintro e w1 ⟨x1, rfl, hc1, ho1⟩
  cases x1
  · go_wp2_with fail
    go_ret
    exact ⟨_, rfl, by omega, hc1, ho1⟩
  · go_wp2_with fail
    refine (l7Turned_any s hs hc1).mono ?_
    rintro e w2 ⟨S, rfl, hSz, hc2, ho2⟩
    go_wp2_with fail
    go_ret
    exact ⟨S, rfl, hSz, hc2, only_trans ho1 ho2⟩
end Go.Proofs.Yteaniiponikpjaa
