/-
  Lists of Entry that a cursor draws.
-/
import Derived.Test.YteaniiponikpjaaAge
import Derived.Test.YteaniiponikpjaaOwn
import Derived.Test.YteaniiponikpjaaDraw
import Derived.Test.YteaniiponikpjaaDrawN
namespace Go.Proofs.Yteaniiponikpjaa
set_option maxRecDepth 100000
open Go.RowKit

theorem cur_below {w w' : World} {B g : Nat} (H : Cur w B g) (hb : Below w.heap.size w w') : Cur w' B g := H.grown (row := none) (grown_below hb none) (fun _ h => by cases h)
def GoodC (l : List REntry) : Prop := l.length ≤ 4 ∧ ∀ x ∈ l, 0 ≤ x.2.2 ∧ x.2.2 ≤ 9
def GoodE (l : List REntry) : Prop := l.length ≤ 5 ∧ ∀ x ∈ l, -1 ≤ x.2.2 ∧ x.2.2 ≤ 10
theorem GoodC.e {l : List REntry} (h : GoodC l) : GoodE l := ⟨by have := h.1; omega, fun x hx => by have := h.2 x hx; omega⟩
theorem GoodC.learned {l : List REntry} (h : GoodC l) (ip hw : Int) : GoodC (learnedR l ip hw) := by
  obtain ⟨h1, h2⟩ := h
  unfold learnedR
  split
  · split
    · have hr : (roomR l).length ≤ 3 := by
        unfold roomR
        split
        · rename_i h4
          have := oldTo_lt l (by omega) l.length (Nat.le_refl _)
          rw [List.length_append, List.length_take, List.length_drop]
          omega
        · omega
      refine ⟨by rw [List.length_append, List.length_singleton]; omega, fun x hx => ?_⟩
      rcases List.mem_append.1 hx with hx | hx
      · refine h2 x ?_
        unfold roomR at hx
        split at hx
        · rcases List.mem_append.1 hx with hx | hx
          · exact List.mem_of_mem_take hx
          · exact List.mem_of_mem_drop hx
        · exact hx
      · rw [List.mem_singleton.1 hx]
        simp
    · refine ⟨by rw [List.length_set]; exact h1, fun x hx => ?_⟩
      rcases List.mem_or_eq_of_mem_set hx with hx | rfl
      · exact h2 x hx
      · simp
  · exact ⟨h1, h2⟩
theorem GoodC.aged {l : List REntry} (h : GoodC l) : GoodC (agedR l) := by
  refine ⟨Nat.le_trans (aged_len l) h.1, fun x hx => ?_⟩
  unfold agedR at hx
  obtain ⟨y, hy, hxy⟩ := List.mem_filterMap.1 hx
  have := h.2 y hy
  split at hxy
  · cases hxy
    dsimp only
    omega
  · cases hxy
theorem GoodE.app {l : List REntry} (h : GoodE l) (hl : l.length ≤ 4) {x : REntry} (h1 : -1 ≤ x.2.2) (h2 : x.2.2 ≤ 10) : GoodE (l ++ [x]) := by
  refine ⟨by rw [List.length_append, List.length_singleton]; omega, fun y hy => ?_⟩
  rcases List.mem_append.1 hy with hy | hy
  · exact h.2 y hy
  · rw [List.mem_singleton.1 hy]
    exact ⟨h1, h2⟩
/-- A list that was drawn. -/
def DrewE (G : List REntry → Prop) (w : World) (B g : Nat) (e : Ending) (w' : World) : Prop :=
  ∃ v l, e = .returned v ∧ G l ∧ w'.ownsRow w.heap.size 71 3 v l.length (cellsOf eEntry l) ∧ Cur w' B g ∧ w.grownBy w' (some g)
def lenOf : Value → Nat
  | .slice _ n _ => n
  | _ => 0

set_option maxHeartbeats 4000000 in
theorem l15Cache_any {w : World} {B g : Nat} (hcur : Cur w B g) : Calls Try.prog 84 #[.pointer (some ⟨g, 0, none⟩)] w (DrewE GoodC w B g) := by
  have hlt := hcur.lt
  go_enter Try.func84, Try.ntmps84
  go_wp2_with fail
  refine (l1Below_any (hcur.alloc _) 6 (by omega) (by omega)).mono ?_
  rintro e w1 ⟨x1, rfl, ⟨hl1, hh1⟩, hc1, ho1⟩
  have hg1 : w.grownBy w1 (some g) := only_trans (only_alloc (World.grownBy.refl _ _) _) ho1
  have O1 := Lib.hid (own_keepg (World.ownsRow_made (base := w.heap.size) (e := 71) (size := 3) w #[] 0 (Nat.le_refl _) (Nat.zero_le _) (by simp)) ho1 hlt)
  clear ho1
  go_wp2_with fail
  go_loopw [3, 5] (fun o i wr => ∃ (q : Nat) (r : List REntry) (A1 : Option Addr) (c1 : Nat), q ≤ 5 ∧ i = .int .i64 q ∧ o = .slice A1 r.length c1 ∧ GoodC r ∧ Hid (wr.ownsRow w.heap.size 71 3 (.slice A1 r.length c1) r.length (cellsOf eEntry r)) ∧ Cur wr B g ∧ w.grownBy wr (some g)) (fun _ i _ => 6 - (intOf i).toNat)
  case atStart => exact ⟨0, [], some ⟨w.heap.size, 0, none⟩, 0, by omega, rfl, rfl, ⟨by simp, fun x hx => by cases hx⟩, O1, hc1, hg1⟩
  case round =>
    obtain ⟨q, r, A1, c1, hq, rfl, rfl, hG, OW, hcr, hgr⟩ := hrel
    by_cases hqx : (q : Int) < x1
    · go_wp2_with fail
      refine (l1Below_any hcr 7 (by omega) (by omega)).mono ?_
      rintro e w3 ⟨x3, rfl, ⟨hl3, hh3⟩, hc3, ho3⟩
      have O3 := Lib.hid (own_keepg OW.out ho3 hlt)
      have hg3 := only_trans hgr ho3
      clear ho3
      go_wp2_with fail
      refine (l1Below_any hc3 3 (by omega) (by omega)).mono ?_
      rintro e w4 ⟨x4, rfl, ⟨hl4, hh4⟩, hc4, ho4⟩
      have O4 := Lib.hid (own_keepg O3.out ho4 hlt)
      have hg4 := only_trans hg3 ho4
      clear ho4
      go_wp2_with fail
      refine (sLearned_own (.slice A1 r.length c1) r (167772160 + x3) (11 + x4) (by have := hG.1; omega) w4 (rd_own O4.out)).mono ?_
      rintro e w5 ⟨v5, rfl, hO5, hb5⟩
      obtain ⟨A5, c5, rfl⟩ := own_formN hO5
      have hz4 := hg4.size
      have O5 := Lib.hid (own_mono hO5 hz4)
      have hg5 := only_trans hg4 (grown_below hb5 (some g))
      have hc5 := cur_below hc4 hb5
      have hG5 := hG.learned (167772160 + x3) (11 + x4)
      obtain ⟨r5, hr5⟩ : ∃ r5, learnedR r (167772160 + x3) (11 + x4) = r5 := ⟨_, rfl⟩
      rw [hr5] at O5 hG5 ⊢
      clear hO5 hb5 hr5
      go_wp2_with fail
      refine (l1Once_any hc5 2 (by omega) (by omega)).mono ?_
      rintro e w6 ⟨x6, rfl, hc6, ho6⟩
      have O6 := Lib.hid (own_keepg O5.out ho6 hlt)
      have hg6 := only_trans hg5 ho6
      clear ho6
      cases x6
      · go_wp2_with fail
        exact ⟨⟨q + 1, r5, A5, c5, by omega, by go_num, rfl, hG5, O6.out, hc6, hg6⟩, by simp [intOf]; omega⟩
      · go_wp2_with fail
        refine (sAged_own (.slice A5 r5.length c5) r5 (by have := hG5.1; omega) (fun x hx => by have := hG5.2 x hx; omega) w6 (rd_own O6.out)).mono ?_
        rintro e w7 ⟨v7, rfl, hO7, hb7⟩
        obtain ⟨A7, c7, rfl⟩ := own_formN hO7
        have hz6 := hg6.size
        have O7 := Lib.hid (own_mono hO7 hz6)
        have hg7 := only_trans hg6 (grown_below hb7 (some g))
        have hc7 := cur_below hc6 hb7
        have hG7 := hG5.aged
        clear hO7 hb7
        go_wp2_with fail
        exact ⟨⟨q + 1, agedR r5, A7, c7, by omega, by go_num, rfl, hG7, O7.out, hc7, hg7⟩, by simp [intOf]; omega⟩
    · go_wp2_with fail
      go_ret
      exact ⟨_, r, rfl, hG, OW.out, hcr, hgr⟩

set_option maxHeartbeats 4000000 in
set_option linter.unusedSimpArgs false in
theorem l15Bent_any {w : World} {B g : Nat} (hcur : Cur w B g) : Calls Try.prog 56 #[.pointer (some ⟨g, 0, none⟩)] w (DrewE GoodE w B g) := by
  obtain ⟨i0, hi, is0, is1, is2⟩ := info_parts info_Entry
  have hlt := hcur.lt
  go_enter Try.func56, Try.ntmps56
  go_wp2_with fail
  refine (l15Cache_any hcur).mono ?_
  rintro e w1 ⟨v1, l, rfl, hG, hO1, hc1, hg1⟩
  obtain ⟨A1, c1, rfl⟩ := own_formN hO1
  have O1 := Lib.hid hO1
  clear hO1
  have hl4 := hG.1
  go_wp2_with fail
  refine (l1Below_any hc1 8 (by omega) (by omega)).mono ?_
  rintro e w2 ⟨x2, rfl, ⟨hl2, hh2⟩, hc2, ho2⟩
  have O2 := Lib.hid (own_keepg O1.out ho2 hlt)
  have hg2 := only_trans hg1 ho2
  clear ho2
  by_cases h0 : x2 = 0
  · subst h0
    go_wp2_with fail
    refine (l2Word_any hc2).mono ?_
    rintro e w3 ⟨x3, rfl, hx3, hc3, ho3⟩
    have O3 := Lib.hid (own_keepg O2.out ho3 hlt)
    have hg3 := only_trans hg2 ho3
    clear ho3
    go_wp2_with fail
    refine (l2Word_any hc3).mono ?_
    rintro e w4 ⟨x4, rfl, hx4, hc4, ho4⟩
    have O4 := Lib.hid (own_keepg O3.out ho4 hlt)
    have hg4 := only_trans hg3 ho4
    clear ho4
    go_wp2_with fail
    refine (l1Pick_new (-1) (10) (by repeat (first | with_reducible assumption | with_reducible refine Cur.alloc ?_ _ | with_reducible refine Cur.drew ?_ | with_reducible refine Cur.setOther ?_ (by first | omega | (simp; done) | (simp; omega)) (by first | omega | (simp; done) | (simp; omega)) _)) (by rfl) (by omega) (by omega) (by kernel_rfl)).mono ?_
    rintro e w5 ⟨x5, rfl, ⟨hl5, hh5⟩, hc5, ho5⟩
    have O5 := Lib.hid (own_keepg (own_below O4.out (by repeat (first | with_reducible exact Below.refl _ _ | with_reducible assumption | with_reducible refine Below.drew ?_ | with_reducible refine Below.alloc ?_ (by first | exact Nat.le_refl _ | omega | (simp; done) | (simp; omega)) _ | with_reducible refine Below.setCell ?_ (by first | exact Nat.le_refl _ | omega | (simp; done) | (simp; omega)) _ | (with_reducible refine ext_trans ?_ (by with_reducible assumption))))) ho5 hlt)
    have hg5 := only_trans (only_alloc hg4 _) ho5
    clear ho5
    have hz5 := hg5.size
    go_wp2_with (refine wpList_append_own _ (by rfl) (.tmp 10) (.tmp 19) 26 (by rfl) w.heap.size 71 i0 _ 3 24 Try.underlying26 hi is0 is1 is2 (by rfl) (by omega) (.slice A1 l.length c1) l.length (cellsOf eEntry l) (by rfl) ?c1 _ 1 1 (eEntry (x3, x4, x5)) (by rfl) ?c2 ?c3 ?c4 ?c5 ?c6 ?c7 ?_)
    case c1 => exact own_below O5.out (by repeat (first | with_reducible exact Below.refl _ _ | with_reducible assumption | with_reducible refine Below.drew ?_ | with_reducible refine Below.alloc ?_ (by first | exact Nat.le_refl _ | omega | (simp; done) | (simp; omega)) _ | with_reducible refine Below.setCell ?_ (by first | exact Nat.le_refl _ | omega | (simp; done) | (simp; omega)) _ | (with_reducible refine ext_trans ?_ (by with_reducible assumption))))
    case c2 => rfl
    case c3 => exact newsD _ _ _ _ rfl _ (by simp)
    case c4 => intro u hu; simp only [eEntry, List.mem_cons, List.not_mem_nil, or_false] at hu; rcases hu with rfl | rfl | rfl <;> rfl
    case c5 => unfold maxLen; omega
    case c6 => omega
    case c7 => (simp; omega)
    intro v' w6 hown6 hgr6 _
    have HO6 := Lib.hid (own_app hown6)
    clear hown6
    have hc6 : Cur w6 B g := (hc5.alloc _).grown hgr6 (fun q hq => by have := (O5.out.lt q hq).1; omega)
    have hg6 : w.grownBy w6 (some g) := only_own (only_alloc hg5 _) hgr6 (fun q hq => (O5.out.lt q hq).1)
    go_wp2_with fail
    go_ret
    exact ⟨_, _, rfl, hG.e.app hl4 hl5 hh5, HO6.out, hc6, hg6⟩
  · by_cases h1 : x2 = 1
    · subst h1
      go_wp2_with fail
      go_loopw [3] (fun o wr => ∃ (r : List REntry) (A1 : Option Addr) (c1 : Nat), o = .slice A1 r.length c1 ∧ GoodE r ∧ Hid (wr.ownsRow w.heap.size 71 3 (.slice A1 r.length c1) r.length (cellsOf eEntry r)) ∧ Cur wr B g ∧ w.grownBy wr (some g)) (fun o _ => 6 - lenOf o)
      case atStart => exact ⟨l, A1, c1, rfl, hG.e, O2.out, hc2, hg2⟩
      case round =>
        obtain ⟨r, A2, c2, rfl, hGr, OW, hcr, hgr⟩ := hrel
        have hr5 := hGr.1
        go_wp2_with fail
        refine (l1Below_any hcr 2 (by omega) (by omega)).mono ?_
        rintro e w3 ⟨x3, rfl, ⟨hl3, hh3⟩, hc3, ho3⟩
        have O3 := Lib.hid (own_keepg OW.out ho3 hlt)
        have hg3 := only_trans hgr ho3
        clear ho3
        by_cases hrl : (r.length : Int) < 4 + x3
        · go_wp2_with fail
          refine (l1Below_any hc3 10 (by omega) (by omega)).mono ?_
          rintro e w4 ⟨x4, rfl, ⟨hl4, hh4⟩, hc4, ho4⟩
          have O4 := Lib.hid (own_keepg O3.out ho4 hlt)
          have hg4 := only_trans hg3 ho4
          clear ho4
          have hz4 := hg4.size
          go_wp2_with (refine wpList_append_own _ (by rfl) (.tmp 29) (.tmp 35) 26 (by rfl) w.heap.size 71 i0 _ 3 24 Try.underlying26 hi is0 is1 is2 (by rfl) (by omega) (.slice A2 r.length c2) r.length (cellsOf eEntry r) (by rfl) ?c1 _ 1 1 (eEntry ((r.length : Int), 0, x4)) (by rfl) ?c2 ?c3 ?c4 ?c5 ?c6 ?c7 ?_)
          case c1 => exact own_below O4.out (by repeat (first | with_reducible exact Below.refl _ _ | with_reducible assumption | with_reducible refine Below.drew ?_ | with_reducible refine Below.alloc ?_ (by first | exact Nat.le_refl _ | omega | (simp; done) | (simp; omega)) _ | with_reducible refine Below.setCell ?_ (by first | exact Nat.le_refl _ | omega | (simp; done) | (simp; omega)) _ | (with_reducible refine ext_trans ?_ (by with_reducible assumption))))
          case c2 => rfl
          case c3 => exact newsD _ _ _ _ rfl _ (by simp)
          case c4 => intro u hu; simp only [eEntry, List.mem_cons, List.not_mem_nil, or_false] at hu; rcases hu with rfl | rfl | rfl <;> rfl
          case c5 => unfold maxLen; omega
          case c6 => omega
          case c7 => (simp; omega)
          intro v' w6 hown6 hgr6 _
          have HO6 := Lib.hid (own_app hown6)
          clear hown6
          obtain ⟨A6, c6, rfl⟩ := own_formN HO6.out
          have hc6 : Cur w6 B g := (hc4.alloc _).grown hgr6 (fun q hq => by have := (O4.out.lt q hq).1; omega)
          have hg6 : w.grownBy w6 (some g) := only_own (only_alloc hg4 _) hgr6 (fun q hq => (O4.out.lt q hq).1)
          clear hgr6
          go_wp2_with fail
          exact ⟨⟨_, A6, c6, rfl, hGr.app (by omega) (by dsimp only; omega) (by dsimp only; omega), HO6.out, hc6, hg6⟩, by simp [lenOf]; omega⟩
        · go_wp2_with fail
          go_ret
          exact ⟨_, r, rfl, hGr, O3.out, hc3, hg3⟩
    · go_wp2_with fail
      go_ret
      exact ⟨_, l, rfl, hG.e, O2.out, hc2, hg2⟩
end Go.Proofs.Yteaniiponikpjaa
