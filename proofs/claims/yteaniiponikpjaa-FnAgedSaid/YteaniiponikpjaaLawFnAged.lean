/-
  The law FnAged returns true for every input. No condition.
-/
import Derived.Test.YteaniiponikpjaaEnl
import Derived.Test.YteaniiponikpjaaBytes
import Derived.Test.YteaniiponikpjaaStru
import Derived.IntWalk
namespace Go.Proofs.Yteaniiponikpjaa
set_option maxRecDepth 100000
open Go.ChangeShapes Go.WideShapes Go.ChangeAt Go.RowKit

set_option maxHeartbeats 8000000 in
set_option linter.unusedSimpArgs false in
set_option linter.unusedVariables false in
theorem FnAged_walk {A : Option Addr} {n c : Nat} (hn : n ≤ maxLen) (w : World) (hb : Byts w w.heap.size A n) :
    Calls Try.prog 7 #[.slice A n c] w fun e w' => e = .returned (.bool true) ∧ Below w.heap.size w w' := by
  have hlen := hn
  unfold maxLen at hlen
  by_cases hbig : (1048576 : Int) < n
  · go_enter Try.func7, Try.ntmps7
    go_wp2_with fail
    refine (big_any hn _).mono ?_
    rintro e w' ⟨rfl, rfl⟩
    go_wp2_with fail
    go_ret
    exact ⟨rfl, Below.refl _ _⟩
  go_enter Try.func7, Try.ntmps7
  go_wp2_with fail
  refine (big_any hn _).mono ?_
  rintro e w' ⟨rfl, rfl⟩
  go_wp2_with fail
  refine (DrawAged_any hn hb).mono ?_
  rintro e w1 ⟨v1, l, rfl, hG, hO1, hb1⟩
  obtain ⟨A1, c1, rfl⟩ := own_formN hO1
  have O1 := Lib.hid hO1
  clear hO1 hb hn hlen
  obtain ⟨hl5, hag⟩ := hG
  have M1 : Hid (l.length ≤ 1048576) := (by omega : l.length ≤ 1048576)
  have G1 : Hid (∀ x ∈ l, -9223372036854775808 ≤ x.2.2 ∧ x.2.2 + 1 ≤ 9223372036854775807) := fun x hx => by have := hag x hx; omega
  clear hag
  go_wp2_with fail
  refine (Aged_own _ l M1.out G1.out w1 (rd_own O1.out)).mono ?_
  rintro e w2 ⟨v2, rfl, hO2, hb2⟩
  obtain ⟨A2, c2, rfl⟩ := own_formN hO2
  have O2 := Lib.hid hO2
  have P1 := Lib.hid (own_below O1.out hb2)
  have hz2 := hb1.size
  have hz2' := hb2.size
  have hw2 : Below w.heap.size w w2 := (by repeat (first | with_reducible exact Below.refl _ _ | with_reducible assumption | with_reducible refine Below.drew ?_ | with_reducible refine Below.alloc ?_ (by first | exact Nat.le_refl _ | omega | (simp; done) | (simp; omega)) _ | with_reducible refine Below.setCell ?_ (by first | exact Nat.le_refl _ | omega | (simp; done) | (simp; omega)) _ | (with_reducible refine ext_trans ?_ (by with_reducible assumption))))
  have HA : Hid ((agedR l).length ≤ 5) := (by have := aged_len l; omega : (agedR l).length ≤ 5)
  have MA : Hid ((agedR l).length ≤ maxLen) := (by have := HA.out; unfold maxLen; omega : (agedR l).length ≤ maxLen)
  clear hO2 O1
  go_wp2_with fail
  refine (sAged_own _ l M1.out G1.out w2 (rd_own P1.out)).mono ?_
  rintro e w3 ⟨v3, rfl, hO3, hb3⟩
  obtain ⟨A3, c3, rfl⟩ := own_formN hO3
  have O3 := Lib.hid hO3
  have Q2 := Lib.hid (own_below O2.out hb3)
  have Q1 := Lib.hid (own_below P1.out hb3)
  have hz3 := hb3.size
  have hw3 : Below w.heap.size w w3 := (by repeat (first | with_reducible exact Below.refl _ _ | with_reducible assumption | with_reducible refine Below.drew ?_ | with_reducible refine Below.alloc ?_ (by first | exact Nat.le_refl _ | omega | (simp; done) | (simp; omega)) _ | with_reducible refine Below.setCell ?_ (by first | exact Nat.le_refl _ | omega | (simp; done) | (simp; omega)) _ | (with_reducible refine ext_trans ?_ (by with_reducible assumption))))
  clear hO3 O2 P1
  go_wp2_with fail
  refine (sameEntries_same _ _ (agedR l) MA.out w3 (rd_own Q2.out) (rd_own O3.out)).mono ?_
  rintro e w4 ⟨rfl, hb4⟩
  have R2 := Lib.hid (own_below Q2.out hb4)
  have R1 := Lib.hid (own_below Q1.out hb4)
  have hz4 := hb4.size
  have hw4 : Below w.heap.size w w4 := (by repeat (first | with_reducible exact Below.refl _ _ | with_reducible assumption | with_reducible refine Below.drew ?_ | with_reducible refine Below.alloc ?_ (by first | exact Nat.le_refl _ | omega | (simp; done) | (simp; omega)) _ | with_reducible refine Below.setCell ?_ (by first | exact Nat.le_refl _ | omega | (simp; done) | (simp; omega)) _ | (with_reducible refine ext_trans ?_ (by with_reducible assumption))))
  clear Q2 Q1 O3
  go_wp2_with fail
  refine (sCacheOk_any _ l (by have := M1.out; unfold maxLen; omega) w4 (rd_own R1.out)).mono ?_
  rintro e w5 ⟨rfl, hb5⟩
  have S2 := Lib.hid (own_below R2.out hb5)
  have hz5 := hb5.size
  have hw5 : Below w.heap.size w w5 := (by repeat (first | with_reducible exact Below.refl _ _ | with_reducible assumption | with_reducible refine Below.drew ?_ | with_reducible refine Below.alloc ?_ (by first | exact Nat.le_refl _ | omega | (simp; done) | (simp; omega)) _ | with_reducible refine Below.setCell ?_ (by first | exact Nat.le_refl _ | omega | (simp; done) | (simp; omega)) _ | (with_reducible refine ext_trans ?_ (by with_reducible assumption))))
  clear R2 R1
  cases hok : cacheB l
  case false =>
    go_wp2_with fail
    go_ret
    exact ⟨rfl, hw5⟩
  case true =>
    have HK : Hid (cacheB (agedR l) = true ∧ ∀ x ∈ agedR l, ((0 : Nat) : Int) + 1 ≤ x.2.2) := ⟨aged_ok hok, aged_age fun x hx => (ages hok x hx).1⟩
    go_wp2_with fail
    clear hok
    go_loopw [4, 5] (fun o i wr => ∃ (q : Nat) (r : List REntry) (A4 : Option Addr) (c4 base : Nat), q ≤ 9 ∧ i = .int .i64 q ∧ o = .slice A4 r.length c4 ∧ r.length ≤ 5 ∧ Hid (cacheB r = true ∧ ∀ x ∈ r, (q : Int) + 1 ≤ x.2.2) ∧ Hid (wr.ownsRow base 71 3 (.slice A4 r.length c4) r.length (cellsOf eEntry r)) ∧ Below w.heap.size w wr) (fun _ i _ => 10 - (intOf i).toNat)
    case atStart => exact ⟨0, agedR l, A2, c2, _, by omega, rfl, rfl, HA.out, HK, S2, hw5⟩
    case round =>
      obtain ⟨q, r, A4, c4, base, hq, rfl, rfl, hr5, HKr, OW, hwr⟩ := hrel
      have hzr := hwr.size
      by_cases hq9 : q < 9
      · have hq9' : (q : Int) < 9 := by omega
        have HN : Hid (cacheB (agedR r) = true ∧ ∀ x ∈ agedR r, ((q + 1 : Nat) : Int) + 1 ≤ x.2.2) := ⟨aged_ok HKr.out.1, fun x hx => by have := aged_age HKr.out.2 x hx; omega⟩
        have hn5 : (agedR r).length ≤ 5 := Nat.le_trans (aged_len r) hr5
        go_wp2_with fail
        refine (Aged_own _ r (by omega) (fun x hx => by have := ages HKr.out.1 x hx; omega) wr (rd_own OW.out)).mono ?_
        rintro e w6 ⟨v6, rfl, hO6, hb6⟩
        obtain ⟨A6, c6, rfl⟩ := own_formN hO6
        have O6 := Lib.hid hO6
        have hw6 : Below w.heap.size w w6 := (by repeat (first | with_reducible exact Below.refl _ _ | with_reducible assumption | with_reducible refine Below.drew ?_ | with_reducible refine Below.alloc ?_ (by first | exact Nat.le_refl _ | omega | (simp; done) | (simp; omega)) _ | with_reducible refine Below.setCell ?_ (by first | exact Nat.le_refl _ | omega | (simp; done) | (simp; omega)) _ | (with_reducible refine ext_trans ?_ (by with_reducible assumption))))
        have hz6 := hb6.size
        clear hO6 OW
        obtain ⟨r6, hr6⟩ : ∃ r6, agedR r = r6 := ⟨_, rfl⟩
        rw [hr6] at O6 HN hn5 ⊢
        have hk := fun W h => CacheOk_any (.slice A6 r6.length c6) r6 (by unfold maxLen; omega) W h
        rw [HN.out.1] at hk
        have HKK := Lib.hid hk
        clear hk hr6
        go_wp2_with fail
        refine (HKK.out w6 (rd_own O6.out)).mono ?_
        rintro e w7 ⟨rfl, hb7⟩
        have hw7 : Below w.heap.size w w7 := (by repeat (first | with_reducible exact Below.refl _ _ | with_reducible assumption | with_reducible refine Below.drew ?_ | with_reducible refine Below.alloc ?_ (by first | exact Nat.le_refl _ | omega | (simp; done) | (simp; omega)) _ | with_reducible refine Below.setCell ?_ (by first | exact Nat.le_refl _ | omega | (simp; done) | (simp; omega)) _ | (with_reducible refine ext_trans ?_ (by with_reducible assumption))))
        have O7 := Lib.hid (own_below O6.out hb7)
        go_wp2_with fail
        exact ⟨⟨q + 1, r6, A6, c6, _, by omega, by go_num, rfl, hn5, HN, O7, hw7⟩, by simp [intOf]; omega⟩
      · obtain rfl : q = 9 := by omega
        obtain rfl : r = [] := old_nil HKr.out.1 (fun x hx => by have := HKr.out.2 x hx; omega)
        go_wp2_with fail
        go_ret
        exact ⟨rfl, hwr⟩

set_option maxRecDepth 100000 in
theorem FnAged_lifted (os : Os) (started : os.Started) (H : Type) (enc : TypeId × Value → H) :
    ReturnsInHanded {} Try.checked os 7 .any (Rows.fnAgedSpec.pre6 enc Try.prog Try.f7 Rows.fnAgedRow.domain false) (Rows.fnAgedSpec.post enc Try.prog Try.f7 false true false false) := by
  refine law_lifted (C := Try.checked) own_ started (by kernel_rfl) Try.func7 laid_ rfl ?_ ?_ rfl Try.underlying4
    (ChangeSpec.witness6 (enc := enc) (C := Try.checked) false ⟨#[], #[.slice none 0 0], []⟩ 8 (by kernel_rfl) (by kernel_rfl) (by kernel_rfl) (by kernel_rfl)) ?_
  · intro ds h
    match ds, h with
    | [_], _ => rfl
  · intro t ht
    rw [Try.params7] at ht
    simp at ht
    subst ht
    exact ⟨by kernel_rfl, of_decide_eq_true (by kernel_rfl)⟩
  · intro W base args ds p hval hA hlt
    have hval : ∀ (j : Nat) t v, Try.f7.params[j]? = some t → args[j]? = some v → Value.okWide Try.prog W .any base t v := hval
    have hA : DataW.TrodAll enc Try.prog W 0 (fun _ => true) true Try.f7.params.toList args.toList ds p := hA
    rw [Try.params7] at hA hval
    obtain ⟨v0, d0, rfl, rfl, h0⟩ := trodAll_one hA
    obtain ⟨Aa, na, ca, rfl, wna, wba, wca⟩ := open_bytes (hval 0 42 v0 rfl rfl) h0
    exact FnAged_walk wna W wba

theorem FnAged_holds : Rows.FnAgedSaid :=
  OpenClaim.holds_of_wide 7 Try.f7 rfl rfl rfl rfl rfl rfl rfl ⟨rfl, rfl, rfl, rfl, rfl⟩ rfl rfl rfl rfl rfl (by kernel_rfl) Try.func7 (by kernel_rfl)
    (of_decide_eq_true (by kernel_rfl)) (by have hw := wrap_ (P := Try.prog) (fn := Try.f7) (by kernel_rfl); exact hw)
    (fun os started H enc _ => FnAged_lifted os started H enc)
end Go.Proofs.Yteaniiponikpjaa
