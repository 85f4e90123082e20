/-
  The draw of a text and two keys.
-/
import Derived.Test.YtondhgmlemgoaaaDrawN
import Derived.Test.YtondhgmlemgoaaaOwn
import Derived.Test.YtondhgmlemgoaaaKey
namespace Go.Proofs.Ytondhgmlemgoaaa
set_option maxRecDepth 100000
open Go.RowKit
/-- Two keys and a text, drawn. -/
def DrawnSipH (w : World) (e : Ending) (w' : World) : Prop := ∃ (k l : BitVec 64) (s : ByteArray), e = .returned (.tuple #[.int .u64 (uI k), .int .u64 (uI l), .string s]) ∧ s.size ≤ 300 ∧ Below w.heap.size w w'
theorem grown_belowK {w w' : World} (hb : Below w.heap.size w w') (row : Option Nat) : w.grownBy w' row := ⟨hb.os, hb.tape, hb.output, hb.size, fun k hk _ => hb.block k hk⟩
theorem DrawSipHash_any {w : World} {A : Option Addr} {n c : Nat} (hn : n ≤ maxLen) (hb : Byts w w.heap.size A n) :
    Calls Try.prog 45 #[.slice A n c] w (DrawnSipH w) := by
  go_enter Try.func45, Try.ntmps45
  go_wp2_with fail
  refine (l1New_any hn hb).mono ?_
  rintro e w1 ⟨g, rfl, hc1, hb1⟩
  have hlt1 := hc1.lt
  have hz1 := hb1.size
  have hlow := hc1.low
  go_wp2_with fail
  refine (l1Below_any hc1 20 (by omega) (by omega)).mono ?_
  rintro e w2 ⟨x2, rfl, ⟨hl2, hh2⟩, hc2, ho2⟩
  have hlt2 := hc2.lt
  go_wp2_with fail
  refine (l1Bytes_any hc2 _ (by omega) (by omega)).mono ?_
  rintro e w3 ⟨v3, xs, rfl, hO3, hl3, hc3, ho3⟩
  have hcv := hO3.conv w3 (fun _ _ _ _ => rfl)
  have hsz : (strOfNums xs).size ≤ 300 := by rw [strOfNums_size]; omega
  obtain ⟨A3, c3, rfl⟩ := hO3.form
  generalize strOfNums xs = S at hcv hsz
  clear hO3 hl3
  have hw3 : w1.grownBy w3 (some g) := (by repeat (first | with_reducible assumption | with_reducible exact World.grownBy.refl _ _ | with_reducible refine only_alloc ?_ _ | with_reducible refine only_drew ?_ | with_reducible refine only_drewN ?_ _ | with_reducible refine only_setNew ?_ (by first | omega | (simp; done) | (simp; omega)) _ | (with_reducible refine only_trans ?_ (by with_reducible assumption))))
  clear ho2 ho3
  go_wp2_with fail
  refine (l1Once_any hc3 20 (by omega) (by omega)).mono ?_
  rintro e w4 ⟨x4, rfl, hc4, ho4⟩
  clear hcv
  cases x4
  · go_wp2_with fail
    refine (l10Key_any hc4).mono ?_
    rintro e w5 ⟨k, rfl, hc5, ho5⟩
    go_wp2_with fail
    refine (l10Key_any hc5).mono ?_
    rintro e w6 ⟨l, rfl, hc6, ho6⟩
    have hw : Below w.heap.size w w6 := hb1.trans (only_below (a := w1) (g := g) (by repeat (first | with_reducible assumption | with_reducible exact World.grownBy.refl _ _ | with_reducible refine only_alloc ?_ _ | with_reducible refine only_drew ?_ | with_reducible refine only_drewN ?_ _ | with_reducible refine only_setNew ?_ (by first | omega | (simp; done) | (simp; omega)) _ | (with_reducible refine only_trans ?_ (by with_reducible assumption)))) hz1 hlow)
    go_wp2_with fail
    go_ret3
    exact ⟨k, l, S, rfl, hsz, hw⟩
  · go_wp2_with fail
    refine (l1Below_any hc4 10 (by omega) (by omega)).mono ?_
    rintro e w5 ⟨x5, rfl, ⟨hl5, hh5⟩, hc5, ho5⟩
    have hlt5 := hc5.lt
    go_wp2_with fail
    refine (l5Long_any _ (by omega) (by omega) _).mono ?_
    rintro e w6 ⟨⟨S', rfl, hs⟩, hb6⟩
    have hs' : S'.size ≤ 300 := by omega
    clear hs
    have hc6 : Cur w6 w.heap.size g := hc5.grown (grown_belowK hb6 none) (fun _ h => by cases h)
    have ho6 : w5.grownBy w6 (some g) := grown_belowK hb6 _
    go_wp2_with fail
    refine (l10Key_any hc6).mono ?_
    rintro e w7 ⟨k, rfl, hc7, ho7⟩
    go_wp2_with fail
    refine (l10Key_any hc7).mono ?_
    rintro e w8 ⟨l, rfl, hc8, ho8⟩
    have hw : Below w.heap.size w w8 := hb1.trans (only_below (a := w1) (g := g) (by repeat (first | with_reducible assumption | with_reducible exact World.grownBy.refl _ _ | with_reducible refine only_alloc ?_ _ | with_reducible refine only_drew ?_ | with_reducible refine only_drewN ?_ _ | with_reducible refine only_setNew ?_ (by first | omega | (simp; done) | (simp; omega)) _ | (with_reducible refine only_trans ?_ (by with_reducible assumption)))) hz1 hlow)
    go_wp2_with fail
    go_ret3
    exact ⟨k, l, S', rfl, hs', hw⟩
end Go.Proofs.Ytondhgmlemgoaaa
