/-
  The draws of rows and of marks' functions.
-/
import Derived.Test.YtondhgmlemgoaaaDrawN
import Derived.Test.YtondhgmlemgoaaaKey
import Derived.Test.YtondhgmlemgoaaaMcp
import Derived.Test.YtondhgmlemgoaaaStd
import Derived.Test.YtondhgmlemgoaaaOwn
namespace Go.Proofs.Ytondhgmlemgoaaa
set_option maxRecDepth 100000
open Go.RowKit

/-- A draw that gives a short text. -/
def DrewStr (w : World) (B g m : Nat) (e : Ending) (w' : World) : Prop :=
  ∃ s : ByteArray, e = .returned (.string s) ∧ s.size ≤ m ∧ Cur w' B g ∧ w.grownBy w' (some g)
def allStrs (m : Nat) (cs : Array Value) : Bool := cs.toList.all fun v => match v with | .string s => decide (s.size ≤ m) | _ => false
theorem allStrs_at {m : Nat} {cs : Array Value} (h : allStrs m cs = true) {k : Nat} (hk : k < cs.size) : ∃ s : ByteArray, cs[k]? = some (.string s) ∧ s.size ≤ m := by
  unfold allStrs at h
  rw [List.all_eq_true] at h
  have hm : cs[k] ∈ cs.toList := by simp
  have := h _ hm
  split at this
  · rename_i u e
    simp at this
    exact ⟨u, by rw [Array.getElem?_eq_getElem hk, e], this⟩
  · cases this
theorem l1Pick_any {w : World} {B g q n : Nat} {t : TypeId} {cs : Array Value} (m : Nat) (hcur : Cur w B g) (hq : w.heap[q]? = some (.cells cs t (0, 0))) (hne : g ≠ q) (hn : cs.size = n) (h1 : 1 ≤ n) (h2 : n ≤ 100) (ha : allStrs m cs = true) :
    Calls Try.prog 75 #[.pointer (some ⟨g, 0, none⟩), .slice (some ⟨q, 0, none⟩) n n] w (DrewStr w B g m) := by
  go_enter Try.func75, Try.ntmps75
  go_wp2_with fail
  refine (l1Below_any (by assumption) _ (by omega) (by omega)).mono ?_
  rintro e w1 ⟨x, rfl, ⟨hx0, hx1⟩, hc1, ho1⟩
  obtain ⟨k, rfl⟩ := Int.eq_ofNat_of_zero_le hx0
  have hk : k < n := by omega
  obtain ⟨u, hu, hu0⟩ := allStrs_at ha (k := k) (by omega)
  have hcell : w1.cell? ⟨q, k, none⟩ = some (.string u) := by
    have hlt : q < w.heap.size := by
      rcases Nat.lt_or_ge q w.heap.size with hlt | hge
      · exact hlt
      · rw [Array.getElem?_eq_none hge] at hq; cases hq
    have hq1 := (ho1.block q hlt (by intro e; injection e with e; exact hne e.symm)).trans hq
    rw [cell_of_row w1 q k cs t (0, 0) hq1, hu]
  clear hq ha hu
  go_wp2_with fail
  go_ret
  exact ⟨u, rfl, hu0, hc1, ho1⟩
theorem l1Pick_newS {w : World} {B g n : Nat} {t : TypeId} {cs : Array Value} (m : Nat) (hcur : Cur w B g) (hn : cs.size = n) (h1 : 1 ≤ n) (h2 : n ≤ 100) (ha : allStrs m cs = true) :
    Calls Try.prog 75 #[.pointer (some ⟨g, 0, none⟩), .slice (some ⟨w.heap.size, 0, none⟩) n n] (w.alloc (.cells cs t)) (DrewStr (w.alloc (.cells cs t)) B g m) :=
  l1Pick_any m (hcur.alloc _) (heap_alloc_new w _) (by have := hcur.lt; omega) hn h1 h2 ha

/-- Rows that were drawn. -/
def DrewRows (w : World) (B g : Nat) (e : Ending) (w' : World) : Prop :=
  ∃ (v : Value) (rs : List RMacRow), e = .returned v ∧ OwnMacRow w' w.heap.size v rs ∧ rs.length ≤ 5 ∧ (∀ x ∈ rs, I64 x.2 ∧ x.1.size ≤ 2) ∧ Cur w' B g ∧ w.grownBy w' (some g)
set_option maxHeartbeats 2000000 in
theorem l11Rows_any {w : World} {B g : Nat} (hcur : Cur w B g) :
    Calls Try.prog 78 #[.pointer (some ⟨g, 0, none⟩)] w (DrewRows w B g) := by
  obtain ⟨i0, hi, iz0, iz1, iz2⟩ := info_parts info_MacRow
  have hlt := hcur.lt
  have hlow := hcur.low
  have hO0 : (w.alloc (.cells #[] 69)).ownsRow w.heap.size 69 2 (.slice (some ⟨w.heap.size, 0, none⟩) 0 0) 0 (cellsOf eMacRow []) := World.ownsRow_made _ _ _ (Nat.le_refl _) (Nat.zero_le _) (by simp)
  have HO0 := Lib.hid hO0
  clear hO0
  go_enter Try.func78, Try.ntmps78
  go_wp2_with fail
  refine (l1Below_any (B := B) (by repeat (first | with_reducible assumption | with_reducible refine Cur.alloc ?_ _ | with_reducible refine Cur.drew ?_ | with_reducible refine Cur.setOther ?_ (by first | omega | (simp; done) | (simp; omega)) (by first | omega | (simp; done) | (simp; omega)) _)) 5 (by omega) (by omega)).mono ?_
  rintro e w1 ⟨x1, rfl, ⟨hl1, hh1⟩, hc1, ho1⟩
  have hlt1 := hc1.lt
  obtain ⟨hd1, hf1⟩ := gcell ho1
  have hz1 := ho1.size
  (try simp at hz1)
  have hy1_0 : w.heap.size < w1.heap.size := by omega
  have hn1_0 : ¬ w.heap.size = g := by omega
  have HO1 := Lib.hid (own_keepg HO0.out ho1 hlt)
  have hw1 : w.grownBy w1 (some g) := (by repeat (first | with_reducible assumption | with_reducible exact World.grownBy.refl _ _ | with_reducible refine only_alloc ?_ _ | with_reducible refine only_drew ?_ | with_reducible refine only_drewN ?_ _ | with_reducible refine only_setNew ?_ (by first | omega | (simp; done) | (simp; omega)) _ | (with_reducible refine only_trans ?_ (by with_reducible assumption))))
  clear HO0 hcur hd1 hf1
  obtain ⟨n, rfl⟩ := Int.eq_ofNat_of_zero_le hl1
  go_wp2_with fail
  go_loopw [3, 5] (fun v i wr => ∃ (k : Nat) (rs : List RMacRow) (A : Option Addr) (c : Nat), k ≤ n ∧ v = .slice A k c ∧ i = .int .i64 k ∧ rs.length = k ∧ Hid (wr.ownsRow w.heap.size 69 2 (.slice A k c) k (cellsOf eMacRow rs)) ∧ Hid (∀ x ∈ rs, I64 x.2 ∧ x.1.size ≤ 2) ∧ Cur wr B g ∧ w.grownBy wr (some g)) (fun _ i _ => n - (intOf i).toNat)
  case atStart => exact ⟨0, [], some ⟨w.heap.size, 0, none⟩, 0, by omega, rfl, rfl, rfl, HO1, Lib.hid (fun x hx => by cases hx), hc1, hw1⟩
  case round =>
    obtain ⟨k, rs, A, c, hk, rfl, rfl, hrl, hown, hfit, hcr, hgr⟩ := hrel
    have hltr := hcr.lt
    have hzr := hgr.size
    by_cases hkn : k < n
    · go_wp2_with fail
      refine (l1Pick_newS 2 (by repeat (first | with_reducible assumption | with_reducible refine Cur.alloc ?_ _ | with_reducible refine Cur.drew ?_ | with_reducible refine Cur.setOther ?_ (by first | omega | (simp; done) | (simp; omega)) (by first | omega | (simp; done) | (simp; omega)) _)) (by rfl) (by omega) (by omega) (by kernel_rfl)).mono ?_
      rintro e w2 ⟨s, rfl, hs, hc2, ho2⟩
      have hlt2 := hc2.lt
      go_wp2_with fail
      refine (l1Below_any (B := B) (by repeat (first | with_reducible assumption | with_reducible refine Cur.alloc ?_ _ | with_reducible refine Cur.drew ?_ | with_reducible refine Cur.setOther ?_ (by first | omega | (simp; done) | (simp; omega)) (by first | omega | (simp; done) | (simp; omega)) _)) 16777216 (by omega) (by omega)).mono ?_
      rintro e w3 ⟨x3, rfl, ⟨hl3, hh3⟩, hc3, ho3⟩
      have hlt3 := hc3.lt
      go_wp2_with fail
      refine (l1Pick_new (0) (16777215) (by repeat (first | with_reducible assumption | with_reducible refine Cur.alloc ?_ _ | with_reducible refine Cur.drew ?_ | with_reducible refine Cur.setOther ?_ (by first | omega | (simp; done) | (simp; omega)) (by first | omega | (simp; done) | (simp; omega)) _)) (by rfl) (by omega) (by omega) (by simp [allInts]; omega)).mono ?_
      rintro e w4 ⟨x4, rfl, ⟨hl4, hh4⟩, hc4, ho4⟩
      have hlt4 := hc4.lt
      have hgX : wr.grownBy (w4.alloc (.cells #[.string s, .int .i64 x4] 69)) (some g) := (by repeat (first | with_reducible assumption | with_reducible exact World.grownBy.refl _ _ | with_reducible refine only_alloc ?_ _ | with_reducible refine only_drew ?_ | with_reducible refine only_drewN ?_ _ | with_reducible refine only_setNew ?_ (by first | omega | (simp; done) | (simp; omega)) _ | (with_reducible refine only_trans ?_ (by with_reducible assumption))))
      have hown4 := Lib.hid (own_keepg hown.out hgX hlt)
      have hgr4 := only_trans hgr hgX
      have hcX : Cur (w4.alloc (.cells #[.string s, .int .i64 x4] 69)) B g := (by repeat (first | with_reducible assumption | with_reducible refine Cur.alloc ?_ _ | with_reducible refine Cur.drew ?_ | with_reducible refine Cur.setOther ?_ (by first | omega | (simp; done) | (simp; omega)) (by first | omega | (simp; done) | (simp; omega)) _))
      have hzX := hgr4.size
      clear hown
      go_wp2_with (refine wpList_append_own _ (by rfl) (.tmp 14) (.tmp 24) 33 (by rfl) w.heap.size 69 i0 _ 2 24 Try.underlying33 hi iz0 iz1 iz2 (by rfl) (by omega) (.slice A k c) k (cellsOf eMacRow rs) (by rfl) ?c1 ⟨w4.heap.size, 0, none⟩ 1 1 [.string s, .int .i64 x4] (by rfl) ?c2 ?c3 ?c4 ?c5 ?c6 ?c7 ?_)
      case c1 => exact hown4.out
      case c2 => rfl
      case c3 => exact news_cells _ _ _ _ rfl
      case c4 => intro u hu; simp at hu; rcases hu with rfl | rfl <;> rfl
      case c5 => unfold maxLen; omega
      case c6 => omega
      case c7 => exact hzX
      intro v' w5 hown5 hgr5 _
      have hge : ∀ q, (Value.slice A k c).ownBlock = some q → w.heap.size ≤ q := fun q hq => (hown4.out.lt q hq).1
      have hgr6 := only_own hgr4 hgr5 hge
      have hc6 := hcX.grown hgr5 (fun q hq => by have := hge q hq; omega)
      have hfit' : ∀ x ∈ rs ++ [(s, x4)], I64 x.2 ∧ x.1.size ≤ 2 := fun x hx => by
        rcases List.mem_append.1 hx with hx | hx
        · exact hfit.out x hx
        · simp at hx
          subst hx
          exact ⟨⟨by dsimp only; omega, by dsimp only; omega⟩, hs⟩
      have HO5 : Hid (w5.ownsRow w.heap.size 69 2 v' (k + 1) (cellsOf eMacRow (rs ++ [(s, x4)]))) := by
        have : cellsOf eMacRow (rs ++ [(s, x4)]) = cellsOf eMacRow rs ++ [.string s, .int .i64 x4] := by rw [cells_append]; rfl
        rw [this]
        exact hown5
      clear hown5 hown4
      obtain ⟨A5, c5, rfl⟩ : ∃ A c, v' = .slice A (k + 1 : Nat) c := own_formN HO5.out
      go_wp2_with fail
      go_roundw
      case rel => exact ⟨k + 1, rs ++ [(s, x4)], A5, c5, by omega, rfl, by go_num, by simp [hrl], HO5, Lib.hid hfit', hc6, hgr6⟩
      case measure => simp [intOf]; omega
    · obtain rfl : k = n := by omega
      have HE : Hid (OwnMacRow wr w.heap.size (.slice A k c) rs) := by
        have h := hown.out
        subst hrl
        exact (.inl h : OwnMacRow wr w.heap.size _ rs)
      by_cases h0 : k = 0
      · subst h0
        go_wp2_with fail
        go_ret
        exact ⟨_, rs, rfl, HE.out, by omega, hfit.out, hcr, hgr⟩
      · obtain ⟨⟨r0, r1⟩, tl, rfl⟩ : ∃ a tl, rs = a :: tl := by
          cases rs with
          | nil => exact absurd hrl.symm h0
          | cons a tl => exact ⟨a, tl, rfl⟩
        obtain ⟨b, c0, hbe, hb1, hb2⟩ := HE.out.at (by simp)
        rw [hrl] at hbe
        injection hbe with hbA hbn hbc
        subst hbA hbc
        have hk0 : (0 : Int) < (k : Int) := by omega
        go_wp2_with fail
        refine (l1Once_any (B := B) hcr 6 (by omega) (by omega)).mono ?_
        rintro e w7 ⟨x7, rfl, hc7, ho7⟩
        have hlt7 := hc7.lt
        have hgr7 : w.grownBy w7 (some g) := (by repeat (first | with_reducible assumption | with_reducible exact World.grownBy.refl _ _ | with_reducible refine only_alloc ?_ _ | with_reducible refine only_drew ?_ | with_reducible refine only_drewN ?_ _ | with_reducible refine only_setNew ?_ (by first | omega | (simp; done) | (simp; omega)) _ | (with_reducible refine only_trans ?_ (by with_reducible assumption))))
        have hown7 := Lib.hid (own_keepg hown.out ho7 hlt)
        cases x7
        · go_wp2_with fail
          go_ret
          subst hrl
          exact ⟨_, _, rfl, (.inl hown7.out : OwnMacRow w7 w.heap.size _ _), by omega, hfit.out, hc7, hgr7⟩
        · go_wp2_with fail
          refine (l1Whole_any hc7).mono ?_
          rintro e w8 ⟨x8, rfl, hi8, hc8, ho8⟩
          have hlt8 := hc8.lt
          have hgr8 : w.grownBy w8 (some g) := (by repeat (first | with_reducible assumption | with_reducible exact World.grownBy.refl _ _ | with_reducible refine only_alloc ?_ _ | with_reducible refine only_drew ?_ | with_reducible refine only_drewN ?_ _ | with_reducible refine only_setNew ?_ (by first | omega | (simp; done) | (simp; omega)) _ | (with_reducible refine only_trans ?_ (by with_reducible assumption))))
          have hown8 := own_keepg hown7.out ho8 hlt
          have hlen : (cellsOf eMacRow ((r0, r1) :: tl)).length = k * 2 := by rw [cells_len (m := 2) eMacRow_len, hrl]
          obtain ⟨o1, d1⟩ : ∃ v, w8.cell? ⟨b, 1, none⟩ = some v := ⟨_, (hown8.cellAt 1 (by omega)).trans (List.getElem?_eq_getElem (by rw [hlen]; omega))⟩
          have f1 := hown8.frozenAt 1
          have hs1 := hown8.stored 1 (.int .i64 x8)
          have HS := Lib.hid hs1
          have hne : ¬ b = g := by omega
          have hgr9 := only_own hgr8 hs1.2 (fun q hq => by injection hq with hq; omega)
          have hc9 := hc8.grown hs1.2 (fun q hq => by injection hq with hq; omega)
          clear hs1 hown8 hown7 hown HE
          go_wp2_with fail
          go_ret
          refine ⟨_, (r0, x8) :: tl, rfl, ?_, by simp at hrl ⊢; omega, ?_, hc9, hgr9⟩
          · have h := HS.out.1
            rw [show (cellsOf eMacRow ((r0, r1) :: tl)).set 1 (.int .i64 x8) = cellsOf eMacRow ((r0, x8) :: tl) from rfl] at h
            exact .inl (by rw [show ((r0, x8) :: tl).length = k from hrl]; exact h)
          · intro y hy
            rcases List.mem_cons.1 hy with rfl | hy
            · exact ⟨hi8, (hfit.out _ (List.mem_cons_self ..)).2⟩
            · exact hfit.out y (List.mem_cons_of_mem _ hy)

/-- A mark's function that was drawn. -/
def DrewMac (w : World) (B g : Nat) (e : Ending) (w' : World) : Prop :=
  ∃ (u : Bool) (k l : BitVec 64) (v : Value) (rs : List RMacRow), e = .returned (vM u (uI k) (uI l) v) ∧ OwnMacRow w' w.heap.size v rs ∧ rs.length ≤ 5 ∧ (∀ x ∈ rs, I64 x.2 ∧ x.1.size ≤ 2) ∧ Cur w' B g ∧ w.grownBy w' (some g)
set_option maxHeartbeats 2000000 in
theorem l11Mac_any {w : World} {B g : Nat} (hcur : Cur w B g) :
    Calls Try.prog 74 #[.pointer (some ⟨g, 0, none⟩)] w (DrewMac w B g) := by
  have hlt := hcur.lt
  have hlow := hcur.low
  go_enter Try.func74, Try.ntmps74
  go_wp2_with fail
  refine (l1Once_any (B := B) (by repeat (first | with_reducible assumption | with_reducible refine Cur.alloc ?_ _ | with_reducible refine Cur.drew ?_ | with_reducible refine Cur.setOther ?_ (by first | omega | (simp; done) | (simp; omega)) (by first | omega | (simp; done) | (simp; omega)) _)) 2 (by omega) (by omega)).mono ?_
  rintro e w1 ⟨x1, rfl, hc1, ho1⟩
  have hlt1 := hc1.lt
  obtain ⟨hd1, hf1⟩ := gcell ho1
  have hz1 := ho1.size
  (try simp at hz1)
  have hy1_0 : w.heap.size < w1.heap.size := by omega
  have hn1_0 : ¬ w.heap.size = g := by omega
  have hr1 : w1.heap[w.heap.size]? = some (.cells #[.bool false, .int .u64 0, .int .u64 0, .slice none 0 0] 35 (0, 0)) := (grow ho1 (by simp) (by omega)).trans (heap_alloc_new _ _)
  have HR1 := Lib.hid hr1
  clear hd1 hf1 hr1
  cases x1
  · go_wp2_with fail
    refine (l10Key_any hc1).mono ?_
    rintro e w2 ⟨k, rfl, hc2, ho2⟩
    go_wp2_with fail
    refine (l10Key_any hc2).mono ?_
    rintro e w3 ⟨l, rfl, hc3, ho3⟩
    go_wp2_with fail
    refine (sKeyMac_any _ _ _).mono ?_
    rintro e w4 ⟨rfl, hb4⟩
    have hz2 := ho2.size
    have hz3 := ho3.size
    have hz4 := hb4.size
    have hc4 : Cur w4 B g := hc3.grown (grown_below hb4 none) (fun _ h => by cases h)
    have ho4 : w3.grownBy w4 (some g) := grown_below hb4 _
    have hw4 : w.grownBy w4 (some g) := (by repeat (first | with_reducible assumption | with_reducible exact World.grownBy.refl _ _ | with_reducible refine only_alloc ?_ _ | with_reducible refine only_drew ?_ | with_reducible refine only_drewN ?_ _ | with_reducible refine only_setNew ?_ (by first | omega | (simp; done) | (simp; omega)) _ | (with_reducible refine only_trans ?_ (by with_reducible assumption))))
    have HR4 := Lib.hid ((hb4.block _ (by omega)).trans ((grow ho3 (by omega) (by omega)).trans ((grow ho2 (by omega) (by omega)).trans HR1.out)))
    have hg4 := hc4.lt
    clear ho1 ho2 ho3 ho4 hb4 hc1 hc2 hc3 HR1
    go_wp2_with fail
    refine (l1Below_any (B := B) (by repeat (first | with_reducible assumption | with_reducible refine Cur.alloc ?_ _ | with_reducible refine Cur.drew ?_ | with_reducible refine Cur.setOther ?_ (by first | omega | (simp; done) | (simp; omega)) (by first | omega | (simp; done) | (simp; omega)) _)) 10 (by omega) (by omega)).mono ?_
    rintro e w5 ⟨x5, rfl, ⟨hl5, hh5⟩, hc5, ho5⟩
    have hlt5 := hc5.lt
    have hz5 := ho5.size
    simp at hz5
    have hw5 : w.grownBy w5 (some g) := only_trans (by repeat (first | with_reducible assumption | with_reducible exact World.grownBy.refl _ _ | with_reducible refine only_alloc ?_ _ | with_reducible refine only_drew ?_ | with_reducible refine only_drewN ?_ _ | with_reducible refine only_setNew ?_ (by first | omega | (simp; done) | (simp; omega)) _ | (with_reducible refine only_trans ?_ (by with_reducible assumption)))) ho5
    have HR5 : Hid (w5.heap[w.heap.size]? = some (.cells #[.bool false, .int .u64 0, .int .u64 0, .slice none 0 0] 35 (0, 0))) := Lib.hid ((grow ho5 (by simp; omega) (by omega)).trans (by repeat (first | (with_reducible apply heap_setCell_same) | (with_reducible apply drew_row) | (with_reducible apply drewN_row) | (with_reducible exact HR4.out) | (with_reducible refine (heap_setCell_other _ _ _ _ (by first | omega | (simp; done) | (simp; omega))).trans ?_) | (with_reducible refine (Below.heap_alloc _ _ _ (by first | omega | (simp; done) | (simp; omega))).trans ?_))))
    have HM5 : Hid (w5.heap[w4.heap.size]? = some (.cells #[.bool false, .int .u64 (uI k), .int .u64 (uI l), .slice none 0 0] 35 (0, 0))) := Lib.hid ((grow ho5 (by simp) (by omega)).trans (by repeat (first | exact heap_new _ _ _ (by first | rfl | (simp; done) | (simp; omega)) | refine (Below.heap_alloc _ _ _ (by first | omega | (simp; done) | (simp; omega))).trans ?_)))
    clear ho5 HR4
    by_cases h0 : x5 = 0
    · subst h0
      have hm5 := HM5.out
      have hr5 := HR5.out
      have r0_hm5 := cell_of_row _ _ 0 _ _ _ hm5
      have r1_hm5 := cell_of_row _ _ 1 _ _ _ hm5
      have r2_hm5 := cell_of_row _ _ 2 _ _ _ hm5
      have r3_hm5 := cell_of_row _ _ 3 _ _ _ hm5
      have f0_hm5 := frozen_of_row _ _ 0 _ _ hm5
      have f1_hm5 := frozen_of_row _ _ 1 _ _ hm5
      have f2_hm5 := frozen_of_row _ _ 2 _ _ hm5
      have f3_hm5 := frozen_of_row _ _ 3 _ _ hm5
      simp at r0_hm5 r1_hm5 r2_hm5 r3_hm5
      have r0_hr5 := cell_of_row _ _ 0 _ _ _ hr5
      have r1_hr5 := cell_of_row _ _ 1 _ _ _ hr5
      have r2_hr5 := cell_of_row _ _ 2 _ _ _ hr5
      have r3_hr5 := cell_of_row _ _ 3 _ _ _ hr5
      have f0_hr5 := frozen_of_row _ _ 0 _ _ hr5
      have f1_hr5 := frozen_of_row _ _ 1 _ _ hr5
      have f2_hr5 := frozen_of_row _ _ 2 _ _ hr5
      have f3_hr5 := frozen_of_row _ _ 3 _ _ hr5
      simp at r0_hr5 r1_hr5 r2_hr5 r3_hr5
      clear hm5 hr5
      go_wp2_with fail
      apply bodyPost_ret (results_cell_row (P := Try.prog) (fn := Try.f74) rfl _ _ _ 35 _ (0, 0) _ rfl _ Try.underlying35 rfl _) rfl
      rotate_left 2
      · repeat (first | (with_reducible apply heap_setCell_same) | (with_reducible apply drew_row) | (with_reducible apply drewN_row) | (with_reducible exact HR5.out) | (with_reducible refine (heap_setCell_other _ _ _ _ (by first | omega | (simp; done) | (simp; omega))).trans ?_) | (with_reducible refine (Below.heap_alloc _ _ _ (by first | omega | (simp; done) | (simp; omega))).trans ?_))
      · kernel_rfl
      exact ⟨true, k, l, _, [], by first | (simp; done) | (simp; rfl), own_nil _ _, by simp, (fun x hx => by cases hx), (by repeat (first | with_reducible assumption | with_reducible refine Cur.alloc ?_ _ | with_reducible refine Cur.drew ?_ | with_reducible refine Cur.setOther ?_ (by first | omega | (simp; done) | (simp; omega)) (by first | omega | (simp; done) | (simp; omega)) _)), (by repeat (first | with_reducible assumption | with_reducible exact World.grownBy.refl _ _ | with_reducible refine only_alloc ?_ _ | with_reducible refine only_drew ?_ | with_reducible refine only_drewN ?_ _ | with_reducible refine only_setNew ?_ (by first | omega | (simp; done) | (simp; omega)) _ | (with_reducible refine only_trans ?_ (by with_reducible assumption))))⟩
    by_cases h1 : x5 = 1
    · subst h1
      go_wp2_with fail
      refine (l11Rows_any hc5).mono ?_
      rintro e w6 ⟨v, rs, rfl, hO6, hl6, hf6, hc6, ho6⟩
      obtain ⟨A6, c6, rfl⟩ := hO6.form
      have hz6 := ho6.size
      have hg6 := hc6.lt
      have HR6 := Lib.hid ((grow ho6 (by omega) (by omega)).trans HR5.out)
      have HM6 := Lib.hid ((grow ho6 (by omega) (by omega)).trans HM5.out)
      have HO6 := Lib.hid hO6
      have HF6 := Lib.hid hf6
      have hw6 := only_trans hw5 ho6
      clear hO6 hf6 HR5 HM5
      have hm6 := HM6.out
      have hr6 := HR6.out
      have r0_hm6 := cell_of_row _ _ 0 _ _ _ hm6
      have r1_hm6 := cell_of_row _ _ 1 _ _ _ hm6
      have r2_hm6 := cell_of_row _ _ 2 _ _ _ hm6
      have r3_hm6 := cell_of_row _ _ 3 _ _ _ hm6
      have f0_hm6 := frozen_of_row _ _ 0 _ _ hm6
      have f1_hm6 := frozen_of_row _ _ 1 _ _ hm6
      have f2_hm6 := frozen_of_row _ _ 2 _ _ hm6
      have f3_hm6 := frozen_of_row _ _ 3 _ _ hm6
      simp at r0_hm6 r1_hm6 r2_hm6 r3_hm6
      have r0_hr6 := cell_of_row _ _ 0 _ _ _ hr6
      have r1_hr6 := cell_of_row _ _ 1 _ _ _ hr6
      have r2_hr6 := cell_of_row _ _ 2 _ _ _ hr6
      have r3_hr6 := cell_of_row _ _ 3 _ _ _ hr6
      have f0_hr6 := frozen_of_row _ _ 0 _ _ hr6
      have f1_hr6 := frozen_of_row _ _ 1 _ _ hr6
      have f2_hr6 := frozen_of_row _ _ 2 _ _ hr6
      have f3_hr6 := frozen_of_row _ _ 3 _ _ hr6
      simp at r0_hr6 r1_hr6 r2_hr6 r3_hr6
      clear hm6 hr6
      go_wp2_with fail
      apply bodyPost_ret (results_cell_row (P := Try.prog) (fn := Try.f74) rfl _ _ _ 35 _ (0, 0) _ rfl _ Try.underlying35 rfl _) rfl
      rotate_left 2
      · repeat (first | (with_reducible apply heap_setCell_same) | (with_reducible apply drew_row) | (with_reducible apply drewN_row) | (with_reducible exact HR6.out) | (with_reducible refine (heap_setCell_other _ _ _ _ (by first | omega | (simp; done) | (simp; omega))).trans ?_) | (with_reducible refine (Below.heap_alloc _ _ _ (by first | omega | (simp; done) | (simp; omega))).trans ?_))
      · kernel_rfl
      exact ⟨false, k, l, _, rs, by first | (simp; done) | (simp; rfl), OwnE.mono (base := w5.heap.size) (by repeat (first | with_reducible exact HO6.out | (with_reducible refine OwnE.setBelow ?_ (by first | (simp; done) | (simp; omega)) _) | with_reducible refine OwnE.alloc ?_ _ | with_reducible refine OwnE.drew ?_)) (by omega), hl6, HF6.out, (by repeat (first | with_reducible assumption | with_reducible refine Cur.alloc ?_ _ | with_reducible refine Cur.drew ?_ | with_reducible refine Cur.setOther ?_ (by first | omega | (simp; done) | (simp; omega)) (by first | omega | (simp; done) | (simp; omega)) _)), (by repeat (first | with_reducible assumption | with_reducible exact World.grownBy.refl _ _ | with_reducible refine only_alloc ?_ _ | with_reducible refine only_drew ?_ | with_reducible refine only_drewN ?_ _ | with_reducible refine only_setNew ?_ (by first | omega | (simp; done) | (simp; omega)) _ | (with_reducible refine only_trans ?_ (by with_reducible assumption))))⟩
    have e0 : (x5 == 0) = false := by simpa using h0
    have e1 : (x5 == 1) = false := by simpa using h1
    clear h0 h1
    have hm5 := HM5.out
    have hr5 := HR5.out
    have r0_hm5 := cell_of_row _ _ 0 _ _ _ hm5
    have r1_hm5 := cell_of_row _ _ 1 _ _ _ hm5
    have r2_hm5 := cell_of_row _ _ 2 _ _ _ hm5
    have r3_hm5 := cell_of_row _ _ 3 _ _ _ hm5
    have f0_hm5 := frozen_of_row _ _ 0 _ _ hm5
    have f1_hm5 := frozen_of_row _ _ 1 _ _ hm5
    have f2_hm5 := frozen_of_row _ _ 2 _ _ hm5
    have f3_hm5 := frozen_of_row _ _ 3 _ _ hm5
    simp at r0_hm5 r1_hm5 r2_hm5 r3_hm5
    have r0_hr5 := cell_of_row _ _ 0 _ _ _ hr5
    have r1_hr5 := cell_of_row _ _ 1 _ _ _ hr5
    have r2_hr5 := cell_of_row _ _ 2 _ _ _ hr5
    have r3_hr5 := cell_of_row _ _ 3 _ _ _ hr5
    have f0_hr5 := frozen_of_row _ _ 0 _ _ hr5
    have f1_hr5 := frozen_of_row _ _ 1 _ _ hr5
    have f2_hr5 := frozen_of_row _ _ 2 _ _ hr5
    have f3_hr5 := frozen_of_row _ _ 3 _ _ hr5
    simp at r0_hr5 r1_hr5 r2_hr5 r3_hr5
    clear hm5 hr5
    go_wp2_with fail
    apply bodyPost_ret (results_cell_row (P := Try.prog) (fn := Try.f74) rfl _ _ _ 35 _ (0, 0) _ rfl _ Try.underlying35 rfl _) rfl
    rotate_left 2
    · repeat (first | (with_reducible apply heap_setCell_same) | (with_reducible apply drew_row) | (with_reducible apply drewN_row) | (with_reducible exact HR5.out) | (with_reducible refine (heap_setCell_other _ _ _ _ (by first | omega | (simp; done) | (simp; omega))).trans ?_) | (with_reducible refine (Below.heap_alloc _ _ _ (by first | omega | (simp; done) | (simp; omega))).trans ?_))
    · kernel_rfl
    exact ⟨false, k, l, _, [], by first | (simp; done) | (simp; rfl), own_nil _ _, by simp, (fun x hx => by cases hx), (by repeat (first | with_reducible assumption | with_reducible refine Cur.alloc ?_ _ | with_reducible refine Cur.drew ?_ | with_reducible refine Cur.setOther ?_ (by first | omega | (simp; done) | (simp; omega)) (by first | omega | (simp; done) | (simp; omega)) _)), (by repeat (first | with_reducible assumption | with_reducible exact World.grownBy.refl _ _ | with_reducible refine only_alloc ?_ _ | with_reducible refine only_drew ?_ | with_reducible refine only_drewN ?_ _ | with_reducible refine only_setNew ?_ (by first | omega | (simp; done) | (simp; omega)) _ | (with_reducible refine only_trans ?_ (by with_reducible assumption))))⟩
  · go_wp2_with fail
    refine (l11Rows_any hc1).mono ?_
    rintro e w2 ⟨v, rs, rfl, hO2, hl2, hf2, hc2, ho2⟩
    obtain ⟨A2, c2, rfl⟩ := hO2.form
    have HF2 := Lib.hid hf2
    have HO2 := Lib.hid hO2
    clear hf2 hO2
    go_wp2_with fail
    refine (sTableMac_any _ rs (by omega) _ HO2.out.rd).mono ?_
    rintro e w3 ⟨v3, rfl, hO3, hb3⟩
    obtain ⟨A3, c3, rfl⟩ := hO3.form
    have hz2 := ho2.size
    have hz3 := hb3.size
    have HR3 := Lib.hid ((hb3.block _ (by omega)).trans ((grow ho2 (by omega) (by omega)).trans HR1.out))
    have HO3 := Lib.hid hO3
    have hc3 : Cur w3 B g := hc2.grown (grown_below hb3 none) (fun _ h => by cases h)
    have ho3 : w2.grownBy w3 (some g) := grown_below hb3 _
    have hw3 : w.grownBy w3 (some g) := (by repeat (first | with_reducible assumption | with_reducible exact World.grownBy.refl _ _ | with_reducible refine only_alloc ?_ _ | with_reducible refine only_drew ?_ | with_reducible refine only_drewN ?_ _ | with_reducible refine only_setNew ?_ (by first | omega | (simp; done) | (simp; omega)) _ | (with_reducible refine only_trans ?_ (by with_reducible assumption))))
    clear hO3 HO2 ho1 ho2 ho3 HR1
    have hr3 := HR3.out
    have r0_hr3 := cell_of_row _ _ 0 _ _ _ hr3
    have r1_hr3 := cell_of_row _ _ 1 _ _ _ hr3
    have r2_hr3 := cell_of_row _ _ 2 _ _ _ hr3
    have r3_hr3 := cell_of_row _ _ 3 _ _ _ hr3
    have f0_hr3 := frozen_of_row _ _ 0 _ _ hr3
    have f1_hr3 := frozen_of_row _ _ 1 _ _ hr3
    have f2_hr3 := frozen_of_row _ _ 2 _ _ hr3
    have f3_hr3 := frozen_of_row _ _ 3 _ _ hr3
    simp at r0_hr3 r1_hr3 r2_hr3 r3_hr3
    clear hr3
    go_wp2_with fail
    apply bodyPost_ret (results_cell_row (P := Try.prog) (fn := Try.f74) rfl _ _ _ 35 _ (0, 0) _ rfl _ Try.underlying35 rfl _) rfl
    rotate_left 2
    · repeat (first | (with_reducible apply heap_setCell_same) | (with_reducible apply drew_row) | (with_reducible apply drewN_row) | (with_reducible exact HR3.out) | (with_reducible refine (heap_setCell_other _ _ _ _ (by first | omega | (simp; done) | (simp; omega))).trans ?_) | (with_reducible refine (Below.heap_alloc _ _ _ (by first | omega | (simp; done) | (simp; omega))).trans ?_))
    · kernel_rfl
    have u0 : uI 0#64 = 0 := by first | rfl | simp [uI]
    exact ⟨true, 0, 0, .slice A3 rs.length c3, rs, by simp [u0], OwnE.mono (base := w2.heap.size) (by repeat (first | with_reducible exact HO3.out | (with_reducible refine OwnE.setBelow ?_ (by first | (simp; done) | (simp; omega)) _) | with_reducible refine OwnE.alloc ?_ _ | with_reducible refine OwnE.drew ?_)) (by omega), hl2, HF2.out, (by repeat (first | with_reducible assumption | with_reducible refine Cur.alloc ?_ _ | with_reducible refine Cur.drew ?_ | with_reducible refine Cur.setOther ?_ (by first | omega | (simp; done) | (simp; omega)) (by first | omega | (simp; done) | (simp; omega)) _)), (by repeat (first | with_reducible assumption | with_reducible exact World.grownBy.refl _ _ | with_reducible refine only_alloc ?_ _ | with_reducible refine only_drew ?_ | with_reducible refine only_drewN ?_ _ | with_reducible refine only_setNew ?_ (by first | omega | (simp; done) | (simp; omega)) _ | (with_reducible refine only_trans ?_ (by with_reducible assumption))))⟩
end Go.Proofs.Ytondhgmlemgoaaa
