/-
  sameEntries, and the draws of the laws on caches.
-/
import Derived.Test.YteaniiponikpjaaEdr
import Derived.Test.YteaniiponikpjaaPln
namespace Go.Proofs.Yteaniiponikpjaa
set_option maxRecDepth 100000
open Go.RowKit

set_option maxHeartbeats 4000000 in
theorem sameEntries_same (v1 v2 : Value) (l : List REntry) (hn : l.length ≤ maxLen) (w : World) (h1 : RdEntry w v1 l) (h2 : RdEntry w v2 l) :
    Calls Try.prog 31 #[v1, v2] w fun e w' => e = .returned (.bool true) ∧ Below w.heap.size w w' := by
  unfold maxLen at hn
  obtain ⟨A1, n1, rfl, _⟩ := id h1
  obtain ⟨A2, n2, rfl, _⟩ := id h2
  have H1 := Lib.hid h1
  have H2 := Lib.hid h2
  clear h1 h2
  go_enter Try.func31, Try.ntmps31
  go_wp2_with fail
  go_loopw [5] (fun i wr => ∃ k : Nat, k ≤ l.length ∧ i = .int .i64 k ∧ Below w.heap.size w wr) (fun i _ => l.length - (intOf i).toNat)
  case atStart => exact ⟨0, by omega, rfl, (by repeat (first | with_reducible exact Below.refl _ _ | with_reducible assumption | with_reducible refine Below.drew ?_ | with_reducible refine Below.alloc ?_ (by first | exact Nat.le_refl _ | omega | (simp; done) | (simp; omega)) _ | with_reducible refine Below.setCell ?_ (by first | exact Nat.le_refl _ | omega | (simp; done) | (simp; omega)) _ | (with_reducible refine ext_trans ?_ (by with_reducible assumption))))⟩
  case round =>
    obtain ⟨k, hk, rfl, hb⟩ := hrel
    by_cases hlt : k < l.length
    · obtain ⟨b1, off1, rfl, hbB1, hcell1⟩ := H1.out.elem eEntry_len (by omega) k hlt
      obtain ⟨b2, off2, rfl, hbB2, hcell2⟩ := H2.out.elem eEntry_len (by omega) k hlt
      obtain ⟨z1, hz1⟩ : ∃ z, l[k] = z := ⟨_, rfl⟩
      rw [hz1] at hcell1 hcell2
      obtain ⟨x0, x1, x2⟩ := z1
      have c10 : wr.cell? ⟨b1, off1 + k * 3, none⟩ = some (.int .i64 x0) := (hb.cell (p := ⟨b1, _, none⟩) hbB1).trans (hcell1 0 (by omega))
      have c11 : wr.cell? ⟨b1, off1 + k * 3 + 1, none⟩ = some (.int .i64 x1) := (hb.cell (p := ⟨b1, _, none⟩) hbB1).trans (hcell1 1 (by omega))
      have c12 : wr.cell? ⟨b1, off1 + k * 3 + 2, none⟩ = some (.int .i64 x2) := (hb.cell (p := ⟨b1, _, none⟩) hbB1).trans (hcell1 2 (by omega))
      have c20 : wr.cell? ⟨b2, off2 + k * 3, none⟩ = some (.int .i64 x0) := (hb.cell (p := ⟨b2, _, none⟩) hbB2).trans (hcell2 0 (by omega))
      have c21 : wr.cell? ⟨b2, off2 + k * 3 + 1, none⟩ = some (.int .i64 x1) := (hb.cell (p := ⟨b2, _, none⟩) hbB2).trans (hcell2 1 (by omega))
      have c22 : wr.cell? ⟨b2, off2 + k * 3 + 2, none⟩ = some (.int .i64 x2) := (hb.cell (p := ⟨b2, _, none⟩) hbB2).trans (hcell2 2 (by omega))
      clear hcell1 hcell2 hz1
      have hk0 : (0 : Int) ≤ (k : Int) := by omega
      have hnk : (k : Int) < (l.length : Int) := by omega
      have hbd : Below w.heap.size w wr.drew := hb.drew
      go_wp2_with fail
      refine wp_region_still_tail 8 (by kernel_rfl) (by kernel_rfl) ?_
      simp only [List.take_succ_cons, List.take_zero, List.drop_succ_cons, List.drop_zero]
      repeat (first | still_step)
      refine wpStill_nil ?_
      change wpList _ _ _ _ _ wr.drew
      generalize wr.drew = wd at *
      go_wp2_with fail
      exact ⟨⟨k + 1, by omega, by go_num, hbd⟩, by simp [intOf]; omega⟩
    · obtain rfl : k = l.length := by omega
      go_wp2_with fail
      go_ret
      exact ⟨rfl, hb⟩

theorem l5Mac_any {w : World} {B g : Nat} (hcur : Cur w B g) :
    Calls Try.prog 63 #[.pointer (some ⟨g, 0, none⟩)] w (DrewInt w B g 0 281474976710655) := by
  go_enter Try.func63, Try.ntmps63
  go_wp2_with fail
  refine (l1Pick_new (0) (281474976710655) (by repeat (first | with_reducible assumption | with_reducible refine Cur.alloc ?_ _ | with_reducible refine Cur.drew ?_ | with_reducible refine Cur.setOther ?_ (by first | omega | (simp; done) | (simp; omega)) (by first | omega | (simp; done) | (simp; omega)) _)) (by rfl) (by omega) (by omega) (by kernel_rfl)).mono ?_
  rintro e w1 ⟨x1, rfl, ⟨hl1, hh1⟩, hc1, ho1⟩
  have hlt1 := hc1.lt
  go_wp2_with fail
  go_ret
  exact ⟨_, rfl, ⟨by omega, by omega⟩, hc1, (by repeat (first | with_reducible assumption | with_reducible exact World.grownBy.refl _ _ | with_reducible refine only_alloc ?_ _ | with_reducible refine only_drew ?_ | with_reducible refine only_drewN ?_ _ | with_reducible refine only_setNew ?_ (by first | omega | (simp; done) | (simp; omega)) _ | (with_reducible refine only_trans ?_ (by with_reducible assumption))))⟩

/-- A list that was drawn from the code. -/
def DrewL (w : World) (e : Ending) (w' : World) : Prop :=
  ∃ v l, e = .returned v ∧ GoodE l ∧ w'.ownsRow w.heap.size 71 3 v l.length (cellsOf eEntry l) ∧ Below w.heap.size w w'
theorem DrawAged_any {w : World} {A : Option Addr} {n c : Nat} (hn : n ≤ maxLen) (hb : Byts w w.heap.size A n) :
    Calls Try.prog 29 #[.slice A n c] w (DrewL w) := by
  go_enter Try.func29, Try.ntmps29
  go_wp2_with fail
  refine (l1New_any hn hb).mono ?_
  rintro e w1 ⟨g, rfl, hc1, hb1⟩
  go_wp2_with fail
  refine (l15Bent_any hc1).mono ?_
  rintro e w2 ⟨v, l, rfl, hG, hO, hc2, ho2⟩
  go_wp2_with fail
  go_ret
  exact ⟨v, l, rfl, hG, own_mono hO hb1.size, hb1.trans (only_below (a := w1) (g := g) ho2 hb1.size hc1.low)⟩
theorem DrawLearned_any {w : World} {A : Option Addr} {n c : Nat} (hn : n ≤ maxLen) (hb : Byts w w.heap.size A n) :
    Calls Try.prog 37 #[.slice A n c] w fun e w' => ∃ v l ip hw, e = .returned (.tuple #[v, .int .i64 ip, .int .i64 hw]) ∧ GoodE l ∧ w'.ownsRow w.heap.size 71 3 v l.length (cellsOf eEntry l) ∧ Below w.heap.size w w' := by
  go_enter Try.func37, Try.ntmps37
  go_wp2_with fail
  refine (l1New_any hn hb).mono ?_
  rintro e w1 ⟨g, rfl, hc1, hb1⟩
  go_wp2_with fail
  refine (l1Below_any hc1 8 (by omega) (by omega)).mono ?_
  rintro e w2 ⟨x2, rfl, ⟨hl2, hh2⟩, hc2, ho2⟩
  go_wp2_with fail
  refine (l1Once_any hc2 10 (by omega) (by omega)).mono ?_
  rintro e w3 ⟨x3, rfl, hc3, ho3⟩
  have hg3 := only_trans ho2 ho3
  clear ho2 ho3
  have hlow := hc1.low
  cases x3
  · go_wp2_with fail
    refine (l15Bent_any hc3).mono ?_
    rintro e w4 ⟨v, l, rfl, hG, hO, hc4, ho4⟩
    have hg4 := only_trans hg3 ho4
    have hlt3 := hc3.lt
    go_wp2_with fail
    refine (l5Mac_any hc4).mono ?_
    rintro e w5 ⟨x5, rfl, ⟨hl5, hh5⟩, hc5, ho5⟩
    have hg5 := only_trans hg4 ho5
    go_wp2_with fail
    refine bodyPost_ret (v := .tuple #[v, .int .i64 (167772160 + x2), .int .i64 x5]) (by simp [results, Try.results37, go_sem]) rfl ?_
    exact ⟨v, l, _, x5, rfl, hG, own_mono (own_keepg hO ho5 hlt3) (Nat.le_trans hb1.size hg3.size), hb1.trans (only_below (a := w1) (g := g) hg5 hb1.size hlow)⟩
  · go_wp2_with fail
    refine (l2Word_any hc3).mono ?_
    rintro e w9 ⟨x9, rfl, hx9, hc9, ho9⟩
    have hg9 := only_trans hg3 ho9
    go_wp2_with fail
    refine (l15Bent_any hc9).mono ?_
    rintro e w4 ⟨v, l, rfl, hG, hO, hc4, ho4⟩
    have hg4 := only_trans hg9 ho4
    have hlt3 := hc9.lt
    go_wp2_with fail
    refine (l5Mac_any hc4).mono ?_
    rintro e w5 ⟨x5, rfl, ⟨hl5, hh5⟩, hc5, ho5⟩
    have hg5 := only_trans hg4 ho5
    go_wp2_with fail
    refine bodyPost_ret (v := .tuple #[v, .int .i64 x9, .int .i64 x5]) (by simp [results, Try.results37, go_sem]) rfl ?_
    exact ⟨v, l, _, x5, rfl, hG, own_mono (own_keepg hO ho5 hlt3) (Nat.le_trans hb1.size hg9.size), hb1.trans (only_below (a := w1) (g := g) hg5 hb1.size hlow)⟩
end Go.Proofs.Yteaniiponikpjaa
