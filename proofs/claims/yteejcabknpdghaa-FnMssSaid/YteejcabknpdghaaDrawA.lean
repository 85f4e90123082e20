/-
  Contracts of the draws out of a code: numbers.
-/
import Derived.Test.YteejcabknpdghaaDrawN
import Derived.Test.YteejcabknpdghaaBytes
namespace Go.Proofs.Yteejcabknpdghaa
open Go.RowKit

theorem DrawMssIndex_any {w : World} {A : Option Addr} {n c : Nat} (hn : n ≤ maxLen) (hb : Byts w w.heap.size A n) :
    Calls Try.prog 39 #[.slice A n c] w (DrawnI64 w) := by
  go_enter Try.func39, Try.ntmps39
  go_wp2_with fail
  refine (l1New_any hn hb).mono ?_
  rintro e w1 ⟨g, rfl, hc1, hb1⟩
  have hlt1 := hc1.lt
  go_wp2_with fail
  refine (l1Pick_new (-9223372036854775808) (9223372036854775807) (by repeat (first | with_reducible assumption | with_reducible refine Cur.alloc ?_ _ | with_reducible refine Cur.drew ?_ | with_reducible refine Cur.setOther ?_ (by first | omega | (simp; done) | (simp; omega)) (by first | omega | (simp; done) | (simp; omega)) _)) (by rfl) (by omega) (by omega) (by kernel_rfl)).mono ?_
  rintro e w2 ⟨x2, rfl, ⟨hl2, hh2⟩, hc2, ho2⟩
  have hlt2 := hc2.lt
  go_wp2_with fail
  go_ret
  exact ⟨_, rfl, ⟨by omega, by omega⟩, hb1.trans (only_below (by repeat (first | with_reducible assumption | with_reducible exact World.grownBy.refl _ _ | with_reducible refine only_alloc ?_ _ | with_reducible refine only_drew ?_ | with_reducible refine only_drewN ?_ _ | with_reducible refine only_setNew ?_ (by first | omega | (simp; done) | (simp; omega)) _ | (with_reducible refine only_trans ?_ (by with_reducible assumption)))) hb1.size hc2.low)⟩
theorem DrawCookieParts_any {w : World} {A : Option Addr} {n c : Nat} (hn : n ≤ maxLen) (hb : Byts w w.heap.size A n) :
    Calls Try.prog 40 #[.slice A n c] w (DrawnI64 w) := by
  go_enter Try.func40, Try.ntmps40
  go_wp2_with fail
  refine (l1New_any hn hb).mono ?_
  rintro e w1 ⟨g, rfl, hc1, hb1⟩
  go_wp2_with fail
  refine (l4Place_any hc1).mono ?_
  rintro e w2 ⟨x2, rfl, hi2, hc2, ho2⟩
  have hlt2 := hc2.lt
  go_wp2_with fail
  go_ret
  exact ⟨_, rfl, hi2, hb1.trans (only_below ho2 hb1.size hc2.low)⟩
theorem DrawStampIn_any {w : World} {A : Option Addr} {n c : Nat} (hn : n ≤ maxLen) (hb : Byts w w.heap.size A n) :
    Calls Try.prog 49 #[.slice A n c] w (DrawnI64 w) := by
  go_enter Try.func49, Try.ntmps49
  go_wp2_with fail
  refine (l1New_any hn hb).mono ?_
  rintro e w1 ⟨g, rfl, hc1, hb1⟩
  go_wp2_with fail
  refine (l4Place_any hc1).mono ?_
  rintro e w2 ⟨x2, rfl, hi2, hc2, ho2⟩
  have hlt2 := hc2.lt
  go_wp2_with fail
  go_ret
  exact ⟨_, rfl, hi2, hb1.trans (only_below ho2 hb1.size hc2.low)⟩
def DrawnStamp (w : World) (e : Ending) (w' : World) : Prop := ∃ (x y : Int) (z : Bool), e = .returned (.tuple #[.int .i64 x, .int .i64 y, .bool z]) ∧ (-9223372036854775808 ≤ x ∧ x ≤ 9223372036854775807) ∧ (-2 ≤ y ∧ y ≤ 15) ∧ Below w.heap.size w w'
theorem DrawStampOf_any {w : World} {A : Option Addr} {n c : Nat} (hn : n ≤ maxLen) (hb : Byts w w.heap.size A n) :
    Calls Try.prog 48 #[.slice A n c] w (DrawnStamp w) := by
  go_enter Try.func48, Try.ntmps48
  go_wp2_with fail
  refine (l1New_any hn hb).mono ?_
  rintro e w1 ⟨g, rfl, hc1, hb1⟩
  go_wp2_with fail
  refine (l4Place_any hc1).mono ?_
  rintro e w2 ⟨x2, rfl, hi2, hc2, ho2⟩
  have hlt2 := hc2.lt
  go_wp2_with fail
  refine (l1Below_any hc2 18 (by omega) (by omega)).mono ?_
  rintro e w3 ⟨x3, rfl, ⟨hl3, hh3⟩, hc3, ho3⟩
  have hlt3 := hc3.lt
  go_wp2_with fail
  refine (l1Once_any hc3 2 (by omega) (by omega)).mono ?_
  rintro e w4 ⟨x4, rfl, hc4, ho4⟩
  have hlt4 := hc4.lt
  go_wp2_with fail
  go_ret3
  exact ⟨_, _, _, rfl, hi2, ⟨by omega, by omega⟩, hb1.trans (only_below (by repeat (first | with_reducible assumption | with_reducible exact World.grownBy.refl _ _ | with_reducible refine only_alloc ?_ _ | with_reducible refine only_drew ?_ | with_reducible refine only_drewN ?_ _ | with_reducible refine only_setNew ?_ (by first | omega | (simp; done) | (simp; omega)) _ | (with_reducible refine only_trans ?_ (by with_reducible assumption)))) hb1.size hc2.low)⟩
end Go.Proofs.Yteejcabknpdghaa
