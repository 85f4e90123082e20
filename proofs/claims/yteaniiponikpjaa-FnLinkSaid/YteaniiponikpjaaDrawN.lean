/-
  Contracts of the draws of numbers.
-/
import Derived.Test.YteaniiponikpjaaDraw
namespace Go.Proofs.Yteaniiponikpjaa
open Go.RowKit

/-- A draw that gives a number of the machine. -/
def DrewI64 (w : World) (B g : Nat) (e : Ending) (w' : World) : Prop := ∃ x : Int, e = .returned (.int .i64 x) ∧ I64 x ∧ Cur w' B g ∧ w.grownBy w' (some g)
theorem DrewInt.i64 {w : World} {B g : Nat} {lo hi : Int} {e : Ending} {w' : World} (h1 : -9223372036854775808 ≤ lo) (h2 : hi ≤ 9223372036854775807) (h : DrewInt w B g lo hi e w') : DrewI64 w B g e w' := by
  obtain ⟨x, rfl, ⟨h3, h4⟩, hc, ho⟩ := h
  exact ⟨x, rfl, ⟨by omega, by omega⟩, hc, ho⟩

theorem l1Whole_any {w : World} {B g : Nat} (hcur : Cur w B g) :
    Calls Try.prog 87 #[.pointer (some ⟨g, 0, none⟩)] w (DrewI64 w B g) := by
  go_enter Try.func87, Try.ntmps87
  go_wp2_with fail
  refine (l1Below_any hcur 3 (by omega) (by omega)).mono ?_
  rintro e w1 ⟨x1, rfl, ⟨hl1, hh1⟩, hc1, ho1⟩
  have hlt1 := hc1.lt
  rcases (by omega : x1 = 0 ∨ x1 = 1 ∨ x1 = 2) with rfl | rfl | rfl
  · go_wp2_with fail
    refine (l1Pick_new (-9223372036854775808) (9223372036854775807) (by repeat (first | with_reducible assumption | with_reducible refine Cur.alloc ?_ _ | with_reducible refine Cur.drew ?_ | with_reducible refine Cur.setOther ?_ (by first | omega | (simp; done) | (simp; omega)) (by first | omega | (simp; done) | (simp; omega)) _)) (by rfl) (by omega) (by omega) (by kernel_rfl)).mono ?_
    rintro e w2 ⟨x2, rfl, ⟨hl2, hh2⟩, hc2, ho2⟩
    have hlt2 := hc2.lt
    go_wp2_with fail
    go_ret
    exact ⟨_, rfl, ⟨by omega, by omega⟩, hc2, (by repeat (first | with_reducible assumption | with_reducible exact World.grownBy.refl _ _ | with_reducible refine only_alloc ?_ _ | with_reducible refine only_drew ?_ | with_reducible refine only_drewN ?_ _ | with_reducible refine only_setNew ?_ (by first | omega | (simp; done) | (simp; omega)) _ | (with_reducible refine only_trans ?_ (by with_reducible assumption))))⟩
  · go_wp2_with fail
    refine (l1Below_any hc1 1000000 (by omega) (by omega)).mono ?_
    rintro e w2 ⟨x2, rfl, ⟨hl2, hh2⟩, hc2, ho2⟩
    have hlt2 := hc2.lt
    go_wp2_with fail
    go_ret
    exact ⟨_, rfl, ⟨by omega, by omega⟩, hc2, (by repeat (first | with_reducible assumption | with_reducible exact World.grownBy.refl _ _ | with_reducible refine only_alloc ?_ _ | with_reducible refine only_drew ?_ | with_reducible refine only_drewN ?_ _ | with_reducible refine only_setNew ?_ (by first | omega | (simp; done) | (simp; omega)) _ | (with_reducible refine only_trans ?_ (by with_reducible assumption))))⟩
  · go_wp2_with fail
    refine (l1Below_any hc1 20 (by omega) (by omega)).mono ?_
    rintro e w2 ⟨x2, rfl, ⟨hl2, hh2⟩, hc2, ho2⟩
    have hlt2 := hc2.lt
    go_wp2_with fail
    go_ret
    exact ⟨_, rfl, ⟨by omega, by omega⟩, hc2, (by repeat (first | with_reducible assumption | with_reducible exact World.grownBy.refl _ _ | with_reducible refine only_alloc ?_ _ | with_reducible refine only_drew ?_ | with_reducible refine only_drewN ?_ _ | with_reducible refine only_setNew ?_ (by first | omega | (simp; done) | (simp; omega)) _ | (with_reducible refine only_trans ?_ (by with_reducible assumption))))⟩
theorem l2Word_any {w : World} {B g : Nat} (hcur : Cur w B g) :
    Calls Try.prog 62 #[.pointer (some ⟨g, 0, none⟩)] w (DrewI64 w B g) := by
  go_enter Try.func62, Try.ntmps62
  go_wp2_with fail
  refine (l1Below_any hcur 3 (by omega) (by omega)).mono ?_
  rintro e w1 ⟨x1, rfl, ⟨hl1, hh1⟩, hc1, ho1⟩
  have hlt1 := hc1.lt
  rcases (by omega : x1 = 0 ∨ x1 = 1 ∨ x1 = 2) with rfl | rfl | rfl
  · go_wp2_with fail
    refine (l1Whole_any hc1).mono ?_
    rintro e w2 ⟨x2, rfl, hi2, hc2, ho2⟩
    have hlt2 := hc2.lt
    go_wp2_with fail
    go_ret
    exact ⟨_, rfl, hi2, hc2, (by repeat (first | with_reducible assumption | with_reducible exact World.grownBy.refl _ _ | with_reducible refine only_alloc ?_ _ | with_reducible refine only_drew ?_ | with_reducible refine only_drewN ?_ _ | with_reducible refine only_setNew ?_ (by first | omega | (simp; done) | (simp; omega)) _ | (with_reducible refine only_trans ?_ (by with_reducible assumption))))⟩
  · go_wp2_with fail
    refine (l1Pick_new (0) (281474976710656) (by repeat (first | with_reducible assumption | with_reducible refine Cur.alloc ?_ _ | with_reducible refine Cur.drew ?_ | with_reducible refine Cur.setOther ?_ (by first | omega | (simp; done) | (simp; omega)) (by first | omega | (simp; done) | (simp; omega)) _)) (by rfl) (by omega) (by omega) (by kernel_rfl)).mono ?_
    rintro e w2 ⟨x2, rfl, ⟨hl2, hh2⟩, hc2, ho2⟩
    have hlt2 := hc2.lt
    go_wp2_with fail
    go_ret
    exact ⟨_, rfl, ⟨by omega, by omega⟩, hc2, (by repeat (first | with_reducible assumption | with_reducible exact World.grownBy.refl _ _ | with_reducible refine only_alloc ?_ _ | with_reducible refine only_drew ?_ | with_reducible refine only_drewN ?_ _ | with_reducible refine only_setNew ?_ (by first | omega | (simp; done) | (simp; omega)) _ | (with_reducible refine only_trans ?_ (by with_reducible assumption))))⟩
  · go_wp2_with fail
    refine (l1Below_any hc1 65536 (by omega) (by omega)).mono ?_
    rintro e w2 ⟨x2, rfl, ⟨hl2, hh2⟩, hc2, ho2⟩
    have hlt2 := hc2.lt
    go_wp2_with fail
    go_ret
    exact ⟨_, rfl, ⟨by omega, by omega⟩, hc2, (by repeat (first | with_reducible assumption | with_reducible exact World.grownBy.refl _ _ | with_reducible refine only_alloc ?_ _ | with_reducible refine only_drew ?_ | with_reducible refine only_drewN ?_ _ | with_reducible refine only_setNew ?_ (by first | omega | (simp; done) | (simp; omega)) _ | (with_reducible refine only_trans ?_ (by with_reducible assumption))))⟩
theorem l6Ip_any {w : World} {B g : Nat} (hcur : Cur w B g) :
    Calls Try.prog 115 #[.pointer (some ⟨g, 0, none⟩)] w (DrewInt w B g 0 4294967295) := by
  go_enter Try.func115, Try.ntmps115
  go_wp2_with fail
  refine (l1Pick_new (0) (4294967295) (by repeat (first | with_reducible assumption | with_reducible refine Cur.alloc ?_ _ | with_reducible refine Cur.drew ?_ | with_reducible refine Cur.setOther ?_ (by first | omega | (simp; done) | (simp; omega)) (by first | omega | (simp; done) | (simp; omega)) _)) (by rfl) (by omega) (by omega) (by kernel_rfl)).mono ?_
  rintro e w1 ⟨x1, rfl, ⟨hl1, hh1⟩, hc1, ho1⟩
  have hlt1 := hc1.lt
  go_wp2_with fail
  go_ret
  exact ⟨_, rfl, ⟨by omega, by omega⟩, hc1, (by repeat (first | with_reducible assumption | with_reducible exact World.grownBy.refl _ _ | with_reducible refine only_alloc ?_ _ | with_reducible refine only_drew ?_ | with_reducible refine only_drewN ?_ _ | with_reducible refine only_setNew ?_ (by first | omega | (simp; done) | (simp; omega)) _ | (with_reducible refine only_trans ?_ (by with_reducible assumption))))⟩
end Go.Proofs.Yteaniiponikpjaa
