/-
  Contracts of the draws of numbers.
-/
import Derived.Test.YtkkpeienbhbgeaaDraw
namespace Go.Proofs.Ytkkpeienbhbgeaa
open Go.RowKit

/-- A draw that gives a number of the machine. -/
def DrewI64 (w : World) (B g : Nat) (e : Ending) (w' : World) : Prop := ∃ x : Int, e = .returned (.int .i64 x) ∧ I64 x ∧ Cur w' B g ∧ w.grownBy w' (some g)
theorem DrewInt.i64 {w : World} {B g : Nat} {lo hi : Int} {e : Ending} {w' : World} (h1 : -9223372036854775808 ≤ lo) (h2 : hi ≤ 9223372036854775807) (h : DrewInt w B g lo hi e w') : DrewI64 w B g e w' := by
  obtain ⟨x, rfl, ⟨h3, h4⟩, hc, ho⟩ := h
  exact ⟨x, rfl, ⟨by omega, by omega⟩, hc, ho⟩

theorem l1Whole_any {w : World} {B g : Nat} (hcur : Cur w B g) :
    Calls Try.prog 64 #[.pointer (some ⟨g, 0, none⟩)] w (DrewI64 w B g) := by
  go_enter Try.func64, Try.ntmps64
  go_wp2_with fail
  refine (l1Below_any hcur 3 (by omega) (by omega)).mono ?_
  rintro e w1 ⟨x1, rfl, ⟨hl1, hh1⟩, hc1, ho1⟩
  have hlt1 := hc1.lt
  rcases (by omega : x1 = 0 ∨ x1 = 1 ∨ x1 = 2) with rfl | rfl | rfl
  · go_wp2_with fail
    refine (l1Pick_new (-9223372036854775808) (9223372036854775807) (by repeat (first | with_reducible assumption | with_reducible refine Cur.alloc ?_ _ | with_reducible refine Cur.drew ?_ | with_reducible refine Cur.setOther ?_ (by first | omega | (simp; done) | (simp; omega)) (by first | omega | (simp; done) | (simp; omega)) _)) (by rfl) (by omega) (by omega) (by kernel_rfl)).mono ?_
    rintro e w2 ⟨x2, rfl, ⟨hl2, hh2⟩, hc2, ho2⟩
    have hlt2 := hc2.lt
    go_wp2_with fail
    go_ret
    exact ⟨_, rfl, ⟨by omega, by omega⟩, hc2, (by repeat (first | with_reducible assumption | with_reducible exact World.grownBy.refl _ _ | with_reducible refine only_alloc ?_ _ | with_reducible refine only_drew ?_ | with_reducible refine only_drewN ?_ _ | with_reducible refine only_setNew ?_ (by first | omega | (simp; done) | (simp; omega)) _ | (with_reducible refine only_trans ?_ (by with_reducible assumption))))⟩
  · go_wp2_with fail
    refine (l1Below_any hc1 1000000 (by omega) (by omega)).mono ?_
    rintro e w2 ⟨x2, rfl, ⟨hl2, hh2⟩, hc2, ho2⟩
    have hlt2 := hc2.lt
    go_wp2_with fail
    go_ret
    exact ⟨_, rfl, ⟨by omega, by omega⟩, hc2, (by repeat (first | with_reducible assumption | with_reducible exact World.grownBy.refl _ _ | with_reducible refine only_alloc ?_ _ | with_reducible refine only_drew ?_ | with_reducible refine only_drewN ?_ _ | with_reducible refine only_setNew ?_ (by first | omega | (simp; done) | (simp; omega)) _ | (with_reducible refine only_trans ?_ (by with_reducible assumption))))⟩
  · go_wp2_with fail
    refine (l1Below_any hc1 20 (by omega) (by omega)).mono ?_
    rintro e w2 ⟨x2, rfl, ⟨hl2, hh2⟩, hc2, ho2⟩
    have hlt2 := hc2.lt
    go_wp2_with fail
    go_ret
    exact ⟨_, rfl, ⟨by omega, by omega⟩, hc2, (by repeat (first | with_reducible assumption | with_reducible exact World.grownBy.refl _ _ | with_reducible refine only_alloc ?_ _ | with_reducible refine only_drew ?_ | with_reducible refine only_drewN ?_ _ | with_reducible refine only_setNew ?_ (by first | omega | (simp; done) | (simp; omega)) _ | (with_reducible refine only_trans ?_ (by with_reducible assumption))))⟩
theorem l2Deep_any {w : World} {B g : Nat} (hcur : Cur w B g) :
    Calls Try.prog 65 #[.pointer (some ⟨g, 0, none⟩)] w (DrewInt w B g 0 4294967295) := by
  go_enter Try.func65, Try.ntmps65
  go_wp2_with fail
  refine (l1Once_any hcur 3 (by omega) (by omega)).mono ?_
  rintro e w1 ⟨x1, rfl, hc1, ho1⟩
  have hlt1 := hc1.lt
  cases x1
  · go_wp2_with fail
    go_loopw [3, 4] (fun n i wr => ∃ (k : Nat) (x : Int), k ≤ 4 ∧ i = .int .i64 k ∧ n = .int .i64 x ∧ (0 ≤ x ∧ x ≤ 4294967295 ∧ (k ≤ 3 → x ≤ 16777215) ∧ (k ≤ 2 → x ≤ 65535) ∧ (k ≤ 1 → x ≤ 255) ∧ (k = 0 → x = 0)) ∧ Cur wr B g ∧ w1.grownBy wr (some g)) (fun _ i _ => 4 - (intOf i).toNat)
    case atStart => exact ⟨0, 0, by omega, rfl, rfl, by omega, hc1, World.grownBy.refl _ _⟩
    case round =>
      obtain ⟨k, x, hk, rfl, rfl, ⟨hx0, hx1, hx2, hx3, hx4, hx5⟩, hcr, hor⟩ := hrel
      have hxs : k < 4 → x ≤ 16777215 := fun _ => hx2 (by omega)
      by_cases hlt : k < 4
      · have hxb := hxs hlt
        have HX := Lib.hid (And.intro hx3 (And.intro hx4 hx5))
        clear hx2 hx3 hx4 hx5 hxs
        go_wp2_with fail
        refine (l1Byte_any hcr).mono ?_
        rintro e w2 ⟨y, rfl, ⟨hy0, hy1⟩, hc2, ho2⟩
        go_wp2_with fail
        have hx := HX.out
        go_roundw
        case rel => exact ⟨k + 1, _, by omega, by go_num, rfl, by omega, hc2, only_trans hor ho2⟩
        case measure => simp [intOf]; omega
      · clear hx2 hx3 hx4 hx5 hxs
        go_wp2_with fail
        go_ret
        exact ⟨_, rfl, ⟨hx0, hx1⟩, hcr, only_trans ho1 hor⟩
  · go_wp2_with fail
    refine (l1Pick_new (0) (4294967295) (by repeat (first | with_reducible assumption | with_reducible refine Cur.alloc ?_ _ | with_reducible refine Cur.drew ?_ | with_reducible refine Cur.setOther ?_ (by first | omega | (simp; done) | (simp; omega)) (by first | omega | (simp; done) | (simp; omega)) _)) (by rfl) (by omega) (by omega) (by kernel_rfl)).mono ?_
    rintro e w2 ⟨x2, rfl, ⟨hl2, hh2⟩, hc2, ho2⟩
    have hlt2 := hc2.lt
    go_wp2_with fail
    go_ret
    exact ⟨_, rfl, ⟨by omega, by omega⟩, hc2, (by repeat (first | with_reducible assumption | with_reducible exact World.grownBy.refl _ _ | with_reducible refine only_alloc ?_ _ | with_reducible refine only_drew ?_ | with_reducible refine only_drewN ?_ _ | with_reducible refine only_setNew ?_ (by first | omega | (simp; done) | (simp; omega)) _ | (with_reducible refine only_trans ?_ (by with_reducible assumption))))⟩
theorem l2Word_any {w : World} {B g : Nat} (hcur : Cur w B g) :
    Calls Try.prog 61 #[.pointer (some ⟨g, 0, none⟩)] w (DrewI64 w B g) := by
  go_enter Try.func61, Try.ntmps61
  go_wp2_with fail
  refine (l1Below_any hcur 3 (by omega) (by omega)).mono ?_
  rintro e w1 ⟨x1, rfl, ⟨hl1, hh1⟩, hc1, ho1⟩
  have hlt1 := hc1.lt
  rcases (by omega : x1 = 0 ∨ x1 = 1 ∨ x1 = 2) with rfl | rfl | rfl
  · go_wp2_with fail
    refine (l1Whole_any hc1).mono ?_
    rintro e w2 ⟨x2, rfl, hi2, hc2, ho2⟩
    have hlt2 := hc2.lt
    go_wp2_with fail
    go_ret
    exact ⟨_, rfl, hi2, hc2, (by repeat (first | with_reducible assumption | with_reducible exact World.grownBy.refl _ _ | with_reducible refine only_alloc ?_ _ | with_reducible refine only_drew ?_ | with_reducible refine only_drewN ?_ _ | with_reducible refine only_setNew ?_ (by first | omega | (simp; done) | (simp; omega)) _ | (with_reducible refine only_trans ?_ (by with_reducible assumption))))⟩
  · go_wp2_with fail
    refine (l1Pick_new (0) (281474976710656) (by repeat (first | with_reducible assumption | with_reducible refine Cur.alloc ?_ _ | with_reducible refine Cur.drew ?_ | with_reducible refine Cur.setOther ?_ (by first | omega | (simp; done) | (simp; omega)) (by first | omega | (simp; done) | (simp; omega)) _)) (by rfl) (by omega) (by omega) (by kernel_rfl)).mono ?_
    rintro e w2 ⟨x2, rfl, ⟨hl2, hh2⟩, hc2, ho2⟩
    have hlt2 := hc2.lt
    go_wp2_with fail
    go_ret
    exact ⟨_, rfl, ⟨by omega, by omega⟩, hc2, (by repeat (first | with_reducible assumption | with_reducible exact World.grownBy.refl _ _ | with_reducible refine only_alloc ?_ _ | with_reducible refine only_drew ?_ | with_reducible refine only_drewN ?_ _ | with_reducible refine only_setNew ?_ (by first | omega | (simp; done) | (simp; omega)) _ | (with_reducible refine only_trans ?_ (by with_reducible assumption))))⟩
  · go_wp2_with fail
    refine (l1Below_any hc1 65536 (by omega) (by omega)).mono ?_
    rintro e w2 ⟨x2, rfl, ⟨hl2, hh2⟩, hc2, ho2⟩
    have hlt2 := hc2.lt
    go_wp2_with fail
    go_ret
    exact ⟨_, rfl, ⟨by omega, by omega⟩, hc2, (by repeat (first | with_reducible assumption | with_reducible exact World.grownBy.refl _ _ | with_reducible refine only_alloc ?_ _ | with_reducible refine only_drew ?_ | with_reducible refine only_drewN ?_ _ | with_reducible refine only_setNew ?_ (by first | omega | (simp; done) | (simp; omega)) _ | (with_reducible refine only_trans ?_ (by with_reducible assumption))))⟩
theorem l4Place_any {w : World} {B g : Nat} (hcur : Cur w B g) :
    Calls Try.prog 58 #[.pointer (some ⟨g, 0, none⟩)] w (DrewI64 w B g) := by
  go_enter Try.func58, Try.ntmps58
  go_wp2_with fail
  refine (l1Once_any hcur 12 (by omega) (by omega)).mono ?_
  rintro e w1 ⟨x1, rfl, hc1, ho1⟩
  have hlt1 := hc1.lt
  cases x1
  · go_wp2_with fail
    refine (l2Deep_any hc1).mono ?_
    rintro e w2 ⟨x2, rfl, ⟨hl2, hh2⟩, hc2, ho2⟩
    have hlt2 := hc2.lt
    go_wp2_with fail
    go_ret
    exact ⟨_, rfl, ⟨by omega, by omega⟩, hc2, (by repeat (first | with_reducible assumption | with_reducible exact World.grownBy.refl _ _ | with_reducible refine only_alloc ?_ _ | with_reducible refine only_drew ?_ | with_reducible refine only_drewN ?_ _ | with_reducible refine only_setNew ?_ (by first | omega | (simp; done) | (simp; omega)) _ | (with_reducible refine only_trans ?_ (by with_reducible assumption))))⟩
  · go_wp2_with fail
    refine (l1Whole_any hc1).mono ?_
    rintro e w2 ⟨x2, rfl, hi2, hc2, ho2⟩
    have hlt2 := hc2.lt
    go_wp2_with fail
    go_ret
    exact ⟨_, rfl, hi2, hc2, (by repeat (first | with_reducible assumption | with_reducible exact World.grownBy.refl _ _ | with_reducible refine only_alloc ?_ _ | with_reducible refine only_drew ?_ | with_reducible refine only_drewN ?_ _ | with_reducible refine only_setNew ?_ (by first | omega | (simp; done) | (simp; omega)) _ | (with_reducible refine only_trans ?_ (by with_reducible assumption))))⟩
end Go.Proofs.Ytkkpeienbhbgeaa
