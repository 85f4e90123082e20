/-
  The law FnCache returns true for every input. No condition.
-/
import Derived.Test.YteaniiponikpjaaEnl
import Derived.Test.YteaniiponikpjaaBytes
import Derived.Test.YteaniiponikpjaaStru
import Derived.IntWalk
namespace Go.Proofs.Yteaniiponikpjaa
set_option maxRecDepth 100000
open Go.ChangeShapes Go.WideShapes Go.ChangeAt Go.RowKit

set_option maxHeartbeats 8000000 in
set_option linter.unusedSimpArgs false in
set_option linter.unusedVariables false in
theorem FnCache_walk {A : Option Addr} {n c : Nat} (hn : n ≤ maxLen) (w : World) (hb : Byts w w.heap.size A n) :
    Calls Try.prog 9 #[.slice A n c] w fun e w' => e = .returned (.bool true) ∧ Below w.heap.size w w' := by
  have hlen := hn
  unfold maxLen at hlen
  by_cases hbig : (1048576 : Int) < n
  · go_enter Try.func9, Try.ntmps9
    go_wp2_with fail
    refine (big_any hn _).mono ?_
    rintro e w' ⟨rfl, rfl⟩
    go_wp2_with fail
    go_ret
    exact ⟨rfl, Below.refl _ _⟩
  go_enter Try.func9, Try.ntmps9
  go_wp2_with fail
  refine (big_any hn _).mono ?_
  rintro e w' ⟨rfl, rfl⟩
  go_wp2_with fail
  refine (DrawLearned_any hn hb).mono ?_
  rintro e w1 ⟨v1, l, ip, hw, rfl, hG, hO1, hb1⟩
  obtain ⟨A1, c1, rfl⟩ := own_formN hO1
  have O1 := Lib.hid hO1
  clear hO1 hb hn hlen
  obtain ⟨hl5, -⟩ := hG
  have M1 : Hid (l.length ≤ 1048576) := (by omega : l.length ≤ 1048576)
  have ML : Hid (l.length ≤ maxLen) := (by unfold maxLen; omega : l.length ≤ maxLen)
  have hz1 := hb1.size
  cases ha : cacheB l
  case false =>
    have HRR : learnedR l ip hw = l := by (unfold learnedR; rw [ha]; rfl)
    have hi := fun W h => Learned_any (.slice A1 l.length c1) l ip hw M1.out W h
    have hs := fun W h => sLearned_any (.slice A1 l.length c1) l ip hw M1.out W h
    rw [HRR] at hi hs
    have HI := Lib.hid hi
    have HS := Lib.hid hs
    clear hi hs
    have ki := fun W h => CacheOk_any (.slice A1 l.length c1) l ML.out W h
    have ks := fun W h => sCacheOk_any (.slice A1 l.length c1) l ML.out W h
    rw [ha] at ki ks
    have KI := Lib.hid ki
    have KS := Lib.hid ks
    clear ki ks ha
    go_wp2_with fail
    refine (HI.out w1 (rd_own O1.out)).mono ?_
    rintro e w2 ⟨v2, rfl, hO2, hb2⟩
    obtain ⟨A2, c2, rfl⟩ := hO2.form
    have O2 := Lib.hid hO2
    have P1 := Lib.hid (own_below O1.out hb2)
    have hz2 := hb2.size
    have hw2 : Below w.heap.size w w2 := (by repeat (first | with_reducible exact Below.refl _ _ | with_reducible assumption | with_reducible refine Below.drew ?_ | with_reducible refine Below.alloc ?_ (by first | exact Nat.le_refl _ | omega | (simp; done) | (simp; omega)) _ | with_reducible refine Below.setCell ?_ (by first | exact Nat.le_refl _ | omega | (simp; done) | (simp; omega)) _ | (with_reducible refine ext_trans ?_ (by with_reducible assumption))))
    clear hO2
    go_wp2_with fail
    refine (HS.out w2 (rd_own P1.out)).mono ?_
    rintro e w3 ⟨v3, rfl, hO3, hb3⟩
    obtain ⟨A3, c3, rfl⟩ := hO3.form
    have O3 := Lib.hid hO3
    have Q1 := Lib.hid (own_below P1.out hb3)
    have Q2 := Lib.hid (O2.out.below hb3)
    have hz3 := hb3.size
    have hw3 : Below w.heap.size w w3 := (by repeat (first | with_reducible exact Below.refl _ _ | with_reducible assumption | with_reducible refine Below.drew ?_ | with_reducible refine Below.alloc ?_ (by first | exact Nat.le_refl _ | omega | (simp; done) | (simp; omega)) _ | with_reducible refine Below.setCell ?_ (by first | exact Nat.le_refl _ | omega | (simp; done) | (simp; omega)) _ | (with_reducible refine ext_trans ?_ (by with_reducible assumption))))
    clear hO3
    go_wp2_with fail
    refine (sameEntries_same _ _ l ML.out w3 Q2.out.rd O3.out.rd).mono ?_
    rintro e w4 ⟨rfl, hb4⟩
    have R1 := Lib.hid (own_below Q1.out hb4)
    have R2 := Lib.hid (Q2.out.below hb4)
    have hz4 := hb4.size
    have hw4 : Below w.heap.size w w4 := (by repeat (first | with_reducible exact Below.refl _ _ | with_reducible assumption | with_reducible refine Below.drew ?_ | with_reducible refine Below.alloc ?_ (by first | exact Nat.le_refl _ | omega | (simp; done) | (simp; omega)) _ | with_reducible refine Below.setCell ?_ (by first | exact Nat.le_refl _ | omega | (simp; done) | (simp; omega)) _ | (with_reducible refine ext_trans ?_ (by with_reducible assumption))))
    go_wp2_with fail
    refine (KI.out w4 (rd_own R1.out)).mono ?_
    rintro e w5 ⟨rfl, hb5⟩
    have S1 := Lib.hid (own_below R1.out hb5)
    have S2 := Lib.hid (R2.out.below hb5)
    have hz5 := hb5.size
    have hw5 : Below w.heap.size w w5 := (by repeat (first | with_reducible exact Below.refl _ _ | with_reducible assumption | with_reducible refine Below.drew ?_ | with_reducible refine Below.alloc ?_ (by first | exact Nat.le_refl _ | omega | (simp; done) | (simp; omega)) _ | with_reducible refine Below.setCell ?_ (by first | exact Nat.le_refl _ | omega | (simp; done) | (simp; omega)) _ | (with_reducible refine ext_trans ?_ (by with_reducible assumption))))
    go_wp2_with fail
    refine (KS.out w5 (rd_own S1.out)).mono ?_
    rintro e w6 ⟨rfl, hb6⟩
    have T1 := Lib.hid (own_below S1.out hb6)
    have T2 := Lib.hid (S2.out.below hb6)
    have hz6 := hb6.size
    have hw6 : Below w.heap.size w w6 := (by repeat (first | with_reducible exact Below.refl _ _ | with_reducible assumption | with_reducible refine Below.drew ?_ | with_reducible refine Below.alloc ?_ (by first | exact Nat.le_refl _ | omega | (simp; done) | (simp; omega)) _ | with_reducible refine Below.setCell ?_ (by first | exact Nat.le_refl _ | omega | (simp; done) | (simp; omega)) _ | (with_reducible refine ext_trans ?_ (by with_reducible assumption))))
    go_wp2_with fail
    refine (KS.out w6 (rd_own T1.out)).mono ?_
    rintro e w7 ⟨rfl, hb7⟩
    have U1 := Lib.hid (own_below T1.out hb7)
    have U2 := Lib.hid (T2.out.below hb7)
    have hz7 := hb7.size
    have hw7 : Below w.heap.size w w7 := (by repeat (first | with_reducible exact Below.refl _ _ | with_reducible assumption | with_reducible refine Below.drew ?_ | with_reducible refine Below.alloc ?_ (by first | exact Nat.le_refl _ | omega | (simp; done) | (simp; omega)) _ | with_reducible refine Below.setCell ?_ (by first | exact Nat.le_refl _ | omega | (simp; done) | (simp; omega)) _ | (with_reducible refine ext_trans ?_ (by with_reducible assumption))))
    clear O1 O2 O3 P1 Q1 Q2 R1 R2 S1 S2 T1 T2
    go_wp2_with (go_at_call 38; refine (sWordOk_any _ _ _).mono ?_; rintro e' w' ⟨rfl, rfl⟩)
    refine (sameEntries_same _ _ l ML.out w7 U2.out.rd (rd_own U1.out)).mono ?_
    rintro e w8 ⟨rfl, hb8⟩
    go_wp2_with fail
    go_ret
    exact ⟨rfl, (by repeat (first | with_reducible exact Below.refl _ _ | with_reducible assumption | with_reducible refine Below.drew ?_ | with_reducible refine Below.alloc ?_ (by first | exact Nat.le_refl _ | omega | (simp; done) | (simp; omega)) _ | with_reducible refine Below.setCell ?_ (by first | exact Nat.le_refl _ | omega | (simp; done) | (simp; omega)) _ | (with_reducible refine ext_trans ?_ (by with_reducible assumption))))⟩
  case true =>
    cases hwi : wordB ip 32
    case false =>
      have HRR : learnedR l ip hw = l := by (unfold learnedR; rw [ha, hwi]; rfl)
      have hi := fun W h => Learned_any (.slice A1 l.length c1) l ip hw M1.out W h
      have hs := fun W h => sLearned_any (.slice A1 l.length c1) l ip hw M1.out W h
      rw [HRR] at hi hs
      have HI := Lib.hid hi
      have HS := Lib.hid hs
      clear hi hs
      have ki := fun W h => CacheOk_any (.slice A1 l.length c1) l ML.out W h
      have ks := fun W h => sCacheOk_any (.slice A1 l.length c1) l ML.out W h
      rw [ha] at ki ks
      have KI := Lib.hid ki
      have KS := Lib.hid ks
      clear ki ks ha
      go_wp2_with fail
      refine (HI.out w1 (rd_own O1.out)).mono ?_
      rintro e w2 ⟨v2, rfl, hO2, hb2⟩
      obtain ⟨A2, c2, rfl⟩ := hO2.form
      have O2 := Lib.hid hO2
      have P1 := Lib.hid (own_below O1.out hb2)
      have hz2 := hb2.size
      have hw2 : Below w.heap.size w w2 := (by repeat (first | with_reducible exact Below.refl _ _ | with_reducible assumption | with_reducible refine Below.drew ?_ | with_reducible refine Below.alloc ?_ (by first | exact Nat.le_refl _ | omega | (simp; done) | (simp; omega)) _ | with_reducible refine Below.setCell ?_ (by first | exact Nat.le_refl _ | omega | (simp; done) | (simp; omega)) _ | (with_reducible refine ext_trans ?_ (by with_reducible assumption))))
      clear hO2
      go_wp2_with fail
      refine (HS.out w2 (rd_own P1.out)).mono ?_
      rintro e w3 ⟨v3, rfl, hO3, hb3⟩
      obtain ⟨A3, c3, rfl⟩ := hO3.form
      have O3 := Lib.hid hO3
      have Q1 := Lib.hid (own_below P1.out hb3)
      have Q2 := Lib.hid (O2.out.below hb3)
      have hz3 := hb3.size
      have hw3 : Below w.heap.size w w3 := (by repeat (first | with_reducible exact Below.refl _ _ | with_reducible assumption | with_reducible refine Below.drew ?_ | with_reducible refine Below.alloc ?_ (by first | exact Nat.le_refl _ | omega | (simp; done) | (simp; omega)) _ | with_reducible refine Below.setCell ?_ (by first | exact Nat.le_refl _ | omega | (simp; done) | (simp; omega)) _ | (with_reducible refine ext_trans ?_ (by with_reducible assumption))))
      clear hO3
      go_wp2_with fail
      refine (sameEntries_same _ _ l ML.out w3 Q2.out.rd O3.out.rd).mono ?_
      rintro e w4 ⟨rfl, hb4⟩
      have R1 := Lib.hid (own_below Q1.out hb4)
      have R2 := Lib.hid (Q2.out.below hb4)
      have hz4 := hb4.size
      have hw4 : Below w.heap.size w w4 := (by repeat (first | with_reducible exact Below.refl _ _ | with_reducible assumption | with_reducible refine Below.drew ?_ | with_reducible refine Below.alloc ?_ (by first | exact Nat.le_refl _ | omega | (simp; done) | (simp; omega)) _ | with_reducible refine Below.setCell ?_ (by first | exact Nat.le_refl _ | omega | (simp; done) | (simp; omega)) _ | (with_reducible refine ext_trans ?_ (by with_reducible assumption))))
      go_wp2_with fail
      refine (KI.out w4 (rd_own R1.out)).mono ?_
      rintro e w5 ⟨rfl, hb5⟩
      have S1 := Lib.hid (own_below R1.out hb5)
      have S2 := Lib.hid (R2.out.below hb5)
      have hz5 := hb5.size
      have hw5 : Below w.heap.size w w5 := (by repeat (first | with_reducible exact Below.refl _ _ | with_reducible assumption | with_reducible refine Below.drew ?_ | with_reducible refine Below.alloc ?_ (by first | exact Nat.le_refl _ | omega | (simp; done) | (simp; omega)) _ | with_reducible refine Below.setCell ?_ (by first | exact Nat.le_refl _ | omega | (simp; done) | (simp; omega)) _ | (with_reducible refine ext_trans ?_ (by with_reducible assumption))))
      go_wp2_with fail
      refine (KS.out w5 (rd_own S1.out)).mono ?_
      rintro e w6 ⟨rfl, hb6⟩
      have T1 := Lib.hid (own_below S1.out hb6)
      have T2 := Lib.hid (S2.out.below hb6)
      have hz6 := hb6.size
      have hw6 : Below w.heap.size w w6 := (by repeat (first | with_reducible exact Below.refl _ _ | with_reducible assumption | with_reducible refine Below.drew ?_ | with_reducible refine Below.alloc ?_ (by first | exact Nat.le_refl _ | omega | (simp; done) | (simp; omega)) _ | with_reducible refine Below.setCell ?_ (by first | exact Nat.le_refl _ | omega | (simp; done) | (simp; omega)) _ | (with_reducible refine ext_trans ?_ (by with_reducible assumption))))
      go_wp2_with fail
      refine (KS.out w6 (rd_own T1.out)).mono ?_
      rintro e w7 ⟨rfl, hb7⟩
      have U1 := Lib.hid (own_below T1.out hb7)
      have U2 := Lib.hid (T2.out.below hb7)
      have hz7 := hb7.size
      have hw7 : Below w.heap.size w w7 := (by repeat (first | with_reducible exact Below.refl _ _ | with_reducible assumption | with_reducible refine Below.drew ?_ | with_reducible refine Below.alloc ?_ (by first | exact Nat.le_refl _ | omega | (simp; done) | (simp; omega)) _ | with_reducible refine Below.setCell ?_ (by first | exact Nat.le_refl _ | omega | (simp; done) | (simp; omega)) _ | (with_reducible refine ext_trans ?_ (by with_reducible assumption))))
      clear O1 O2 O3 P1 Q1 Q2 R1 R2 S1 S2 T1 T2
      go_wp2_with (go_at_call 38; refine (sWordOk_any _ _ _).mono ?_; rintro e' w' ⟨rfl, rfl⟩)
      refine (sameEntries_same _ _ l ML.out w7 U2.out.rd (rd_own U1.out)).mono ?_
      rintro e w8 ⟨rfl, hb8⟩
      go_wp2_with fail
      go_ret
      exact ⟨rfl, (by repeat (first | with_reducible exact Below.refl _ _ | with_reducible assumption | with_reducible refine Below.drew ?_ | with_reducible refine Below.alloc ?_ (by first | exact Nat.le_refl _ | omega | (simp; done) | (simp; omega)) _ | with_reducible refine Below.setCell ?_ (by first | exact Nat.le_refl _ | omega | (simp; done) | (simp; omega)) _ | (with_reducible refine ext_trans ?_ (by with_reducible assumption))))⟩
    case true =>
      cases hwh : wordB hw 48
      case false =>
        have HRR : learnedR l ip hw = l := by (unfold learnedR; rw [ha, hwi, hwh]; rfl)
        have hi := fun W h => Learned_any (.slice A1 l.length c1) l ip hw M1.out W h
        have hs := fun W h => sLearned_any (.slice A1 l.length c1) l ip hw M1.out W h
        rw [HRR] at hi hs
        have HI := Lib.hid hi
        have HS := Lib.hid hs
        clear hi hs
        have ki := fun W h => CacheOk_any (.slice A1 l.length c1) l ML.out W h
        have ks := fun W h => sCacheOk_any (.slice A1 l.length c1) l ML.out W h
        rw [ha] at ki ks
        have KI := Lib.hid ki
        have KS := Lib.hid ks
        clear ki ks ha
        go_wp2_with fail
        refine (HI.out w1 (rd_own O1.out)).mono ?_
        rintro e w2 ⟨v2, rfl, hO2, hb2⟩
        obtain ⟨A2, c2, rfl⟩ := hO2.form
        have O2 := Lib.hid hO2
        have P1 := Lib.hid (own_below O1.out hb2)
        have hz2 := hb2.size
        have hw2 : Below w.heap.size w w2 := (by repeat (first | with_reducible exact Below.refl _ _ | with_reducible assumption | with_reducible refine Below.drew ?_ | with_reducible refine Below.alloc ?_ (by first | exact Nat.le_refl _ | omega | (simp; done) | (simp; omega)) _ | with_reducible refine Below.setCell ?_ (by first | exact Nat.le_refl _ | omega | (simp; done) | (simp; omega)) _ | (with_reducible refine ext_trans ?_ (by with_reducible assumption))))
        clear hO2
        go_wp2_with fail
        refine (HS.out w2 (rd_own P1.out)).mono ?_
        rintro e w3 ⟨v3, rfl, hO3, hb3⟩
        obtain ⟨A3, c3, rfl⟩ := hO3.form
        have O3 := Lib.hid hO3
        have Q1 := Lib.hid (own_below P1.out hb3)
        have Q2 := Lib.hid (O2.out.below hb3)
        have hz3 := hb3.size
        have hw3 : Below w.heap.size w w3 := (by repeat (first | with_reducible exact Below.refl _ _ | with_reducible assumption | with_reducible refine Below.drew ?_ | with_reducible refine Below.alloc ?_ (by first | exact Nat.le_refl _ | omega | (simp; done) | (simp; omega)) _ | with_reducible refine Below.setCell ?_ (by first | exact Nat.le_refl _ | omega | (simp; done) | (simp; omega)) _ | (with_reducible refine ext_trans ?_ (by with_reducible assumption))))
        clear hO3
        go_wp2_with fail
        refine (sameEntries_same _ _ l ML.out w3 Q2.out.rd O3.out.rd).mono ?_
        rintro e w4 ⟨rfl, hb4⟩
        have R1 := Lib.hid (own_below Q1.out hb4)
        have R2 := Lib.hid (Q2.out.below hb4)
        have hz4 := hb4.size
        have hw4 : Below w.heap.size w w4 := (by repeat (first | with_reducible exact Below.refl _ _ | with_reducible assumption | with_reducible refine Below.drew ?_ | with_reducible refine Below.alloc ?_ (by first | exact Nat.le_refl _ | omega | (simp; done) | (simp; omega)) _ | with_reducible refine Below.setCell ?_ (by first | exact Nat.le_refl _ | omega | (simp; done) | (simp; omega)) _ | (with_reducible refine ext_trans ?_ (by with_reducible assumption))))
        go_wp2_with fail
        refine (KI.out w4 (rd_own R1.out)).mono ?_
        rintro e w5 ⟨rfl, hb5⟩
        have S1 := Lib.hid (own_below R1.out hb5)
        have S2 := Lib.hid (R2.out.below hb5)
        have hz5 := hb5.size
        have hw5 : Below w.heap.size w w5 := (by repeat (first | with_reducible exact Below.refl _ _ | with_reducible assumption | with_reducible refine Below.drew ?_ | with_reducible refine Below.alloc ?_ (by first | exact Nat.le_refl _ | omega | (simp; done) | (simp; omega)) _ | with_reducible refine Below.setCell ?_ (by first | exact Nat.le_refl _ | omega | (simp; done) | (simp; omega)) _ | (with_reducible refine ext_trans ?_ (by with_reducible assumption))))
        go_wp2_with fail
        refine (KS.out w5 (rd_own S1.out)).mono ?_
        rintro e w6 ⟨rfl, hb6⟩
        have T1 := Lib.hid (own_below S1.out hb6)
        have T2 := Lib.hid (S2.out.below hb6)
        have hz6 := hb6.size
        have hw6 : Below w.heap.size w w6 := (by repeat (first | with_reducible exact Below.refl _ _ | with_reducible assumption | with_reducible refine Below.drew ?_ | with_reducible refine Below.alloc ?_ (by first | exact Nat.le_refl _ | omega | (simp; done) | (simp; omega)) _ | with_reducible refine Below.setCell ?_ (by first | exact Nat.le_refl _ | omega | (simp; done) | (simp; omega)) _ | (with_reducible refine ext_trans ?_ (by with_reducible assumption))))
        go_wp2_with fail
        refine (KS.out w6 (rd_own T1.out)).mono ?_
        rintro e w7 ⟨rfl, hb7⟩
        have U1 := Lib.hid (own_below T1.out hb7)
        have U2 := Lib.hid (T2.out.below hb7)
        have hz7 := hb7.size
        have hw7 : Below w.heap.size w w7 := (by repeat (first | with_reducible exact Below.refl _ _ | with_reducible assumption | with_reducible refine Below.drew ?_ | with_reducible refine Below.alloc ?_ (by first | exact Nat.le_refl _ | omega | (simp; done) | (simp; omega)) _ | with_reducible refine Below.setCell ?_ (by first | exact Nat.le_refl _ | omega | (simp; done) | (simp; omega)) _ | (with_reducible refine ext_trans ?_ (by with_reducible assumption))))
        clear O1 O2 O3 P1 Q1 Q2 R1 R2 S1 S2 T1 T2
        go_wp2_with (go_at_call 38; refine (sWordOk_any _ _ _).mono ?_; rintro e' w' ⟨rfl, rfl⟩)
        refine (sameEntries_same _ _ l ML.out w7 U2.out.rd (rd_own U1.out)).mono ?_
        rintro e w8 ⟨rfl, hb8⟩
        go_wp2_with fail
        go_ret
        exact ⟨rfl, (by repeat (first | with_reducible exact Below.refl _ _ | with_reducible assumption | with_reducible refine Below.drew ?_ | with_reducible refine Below.alloc ?_ (by first | exact Nat.le_refl _ | omega | (simp; done) | (simp; omega)) _ | with_reducible refine Below.setCell ?_ (by first | exact Nat.le_refl _ | omega | (simp; done) | (simp; omega)) _ | (with_reducible refine ext_trans ?_ (by with_reducible assumption))))⟩
      case true =>
        obtain ⟨f1, f2, f3, f4⟩ := learned_law ha hwi hwh
        obtain ⟨r, hr⟩ : ∃ r, learnedR l ip hw = r := ⟨_, rfl⟩
        rw [hr] at f1 f2 f3 f4
        have MR : Hid (r.length ≤ maxLen) := (by unfold maxLen; omega : r.length ≤ maxLen)
        have hh := fun W v h => HwOf_any v r ip MR.out W h
        rw [f1] at hh
        have HH0 := Lib.hid hh
        have HH : Hid (∀ W {v}, RdEntry W v r → Calls Try.prog 17 #[v, .int .i64 ip] W fun e w' => e = .returned (.tuple #[.int .i64 hw, .bool true]) ∧ Below W.heap.size W w') := fun W {v} h => HH0.out W v h
        have kr := fun W v h => CacheOk_any v r MR.out W h
        rw [f2] at kr
        have KR0 := Lib.hid kr
        have KR : Hid (∀ W {v}, RdEntry W v r → Calls Try.prog 20 #[v] W fun e w' => e = .returned (.bool true) ∧ Below W.heap.size W w') := fun W {v} h => KR0.out W v h
        clear hh kr HH0 KR0 f1 f2
        have f3z : (r.length : Int) ≤ 4 := by omega
        have f4z : (l.length : Int) ≤ (r.length : Int) := by omega
        have hi := fun W h => Learned_any (.slice A1 l.length c1) l ip hw M1.out W h
        have hs := fun W h => sLearned_any (.slice A1 l.length c1) l ip hw M1.out W h
        rw [hr] at hi hs
        have HI := Lib.hid hi
        have HS := Lib.hid hs
        clear hi hs
        have ki := fun W h => CacheOk_any (.slice A1 l.length c1) l ML.out W h
        have ks := fun W h => sCacheOk_any (.slice A1 l.length c1) l ML.out W h
        rw [ha] at ki ks
        have KI := Lib.hid ki
        have KS := Lib.hid ks
        clear ki ks ha
        go_wp2_with fail
        refine (HI.out w1 (rd_own O1.out)).mono ?_
        rintro e w2 ⟨v2, rfl, hO2, hb2⟩
        obtain ⟨A2, c2, rfl⟩ := hO2.form
        have O2 := Lib.hid hO2
        have P1 := Lib.hid (own_below O1.out hb2)
        have hz2 := hb2.size
        have hw2 : Below w.heap.size w w2 := (by repeat (first | with_reducible exact Below.refl _ _ | with_reducible assumption | with_reducible refine Below.drew ?_ | with_reducible refine Below.alloc ?_ (by first | exact Nat.le_refl _ | omega | (simp; done) | (simp; omega)) _ | with_reducible refine Below.setCell ?_ (by first | exact Nat.le_refl _ | omega | (simp; done) | (simp; omega)) _ | (with_reducible refine ext_trans ?_ (by with_reducible assumption))))
        clear hO2
        go_wp2_with fail
        refine (HS.out w2 (rd_own P1.out)).mono ?_
        rintro e w3 ⟨v3, rfl, hO3, hb3⟩
        obtain ⟨A3, c3, rfl⟩ := hO3.form
        have O3 := Lib.hid hO3
        have Q1 := Lib.hid (own_below P1.out hb3)
        have Q2 := Lib.hid (O2.out.below hb3)
        have hz3 := hb3.size
        have hw3 : Below w.heap.size w w3 := (by repeat (first | with_reducible exact Below.refl _ _ | with_reducible assumption | with_reducible refine Below.drew ?_ | with_reducible refine Below.alloc ?_ (by first | exact Nat.le_refl _ | omega | (simp; done) | (simp; omega)) _ | with_reducible refine Below.setCell ?_ (by first | exact Nat.le_refl _ | omega | (simp; done) | (simp; omega)) _ | (with_reducible refine ext_trans ?_ (by with_reducible assumption))))
        clear hO3
        go_wp2_with fail
        refine (sameEntries_same _ _ r MR.out w3 Q2.out.rd O3.out.rd).mono ?_
        rintro e w4 ⟨rfl, hb4⟩
        have R1 := Lib.hid (own_below Q1.out hb4)
        have R2 := Lib.hid (Q2.out.below hb4)
        have hz4 := hb4.size
        have hw4 : Below w.heap.size w w4 := (by repeat (first | with_reducible exact Below.refl _ _ | with_reducible assumption | with_reducible refine Below.drew ?_ | with_reducible refine Below.alloc ?_ (by first | exact Nat.le_refl _ | omega | (simp; done) | (simp; omega)) _ | with_reducible refine Below.setCell ?_ (by first | exact Nat.le_refl _ | omega | (simp; done) | (simp; omega)) _ | (with_reducible refine ext_trans ?_ (by with_reducible assumption))))
        go_wp2_with fail
        refine (KI.out w4 (rd_own R1.out)).mono ?_
        rintro e w5 ⟨rfl, hb5⟩
        have S1 := Lib.hid (own_below R1.out hb5)
        have S2 := Lib.hid (R2.out.below hb5)
        have hz5 := hb5.size
        have hw5 : Below w.heap.size w w5 := (by repeat (first | with_reducible exact Below.refl _ _ | with_reducible assumption | with_reducible refine Below.drew ?_ | with_reducible refine Below.alloc ?_ (by first | exact Nat.le_refl _ | omega | (simp; done) | (simp; omega)) _ | with_reducible refine Below.setCell ?_ (by first | exact Nat.le_refl _ | omega | (simp; done) | (simp; omega)) _ | (with_reducible refine ext_trans ?_ (by with_reducible assumption))))
        go_wp2_with fail
        refine (KS.out w5 (rd_own S1.out)).mono ?_
        rintro e w6 ⟨rfl, hb6⟩
        have T1 := Lib.hid (own_below S1.out hb6)
        have T2 := Lib.hid (S2.out.below hb6)
        have hz6 := hb6.size
        have hw6 : Below w.heap.size w w6 := (by repeat (first | with_reducible exact Below.refl _ _ | with_reducible assumption | with_reducible refine Below.drew ?_ | with_reducible refine Below.alloc ?_ (by first | exact Nat.le_refl _ | omega | (simp; done) | (simp; omega)) _ | with_reducible refine Below.setCell ?_ (by first | exact Nat.le_refl _ | omega | (simp; done) | (simp; omega)) _ | (with_reducible refine ext_trans ?_ (by with_reducible assumption))))
        go_wp2_with fail
        refine (KS.out w6 (rd_own T1.out)).mono ?_
        rintro e w7 ⟨rfl, hb7⟩
        have U1 := Lib.hid (own_below T1.out hb7)
        have U2 := Lib.hid (T2.out.below hb7)
        have hz7 := hb7.size
        have hw7 : Below w.heap.size w w7 := (by repeat (first | with_reducible exact Below.refl _ _ | with_reducible assumption | with_reducible refine Below.drew ?_ | with_reducible refine Below.alloc ?_ (by first | exact Nat.le_refl _ | omega | (simp; done) | (simp; omega)) _ | with_reducible refine Below.setCell ?_ (by first | exact Nat.le_refl _ | omega | (simp; done) | (simp; omega)) _ | (with_reducible refine ext_trans ?_ (by with_reducible assumption))))
        clear O1 O2 O3 P1 Q1 Q2 R1 R2 S1 S2 T1 T2
        go_wp2_with (go_at_call 38; refine (sWordOk_any _ _ _).mono ?_; rintro e' w' ⟨rfl, rfl⟩)
        refine (HH.out w7 U2.out.rd).mono ?_
        rintro e w8 ⟨rfl, hb8⟩
        have V2 := Lib.hid (U2.out.below hb8)
        have hz8 := hb8.size
        have hw8 : Below w.heap.size w w8 := (by repeat (first | with_reducible exact Below.refl _ _ | with_reducible assumption | with_reducible refine Below.drew ?_ | with_reducible refine Below.alloc ?_ (by first | exact Nat.le_refl _ | omega | (simp; done) | (simp; omega)) _ | with_reducible refine Below.setCell ?_ (by first | exact Nat.le_refl _ | omega | (simp; done) | (simp; omega)) _ | (with_reducible refine ext_trans ?_ (by with_reducible assumption))))
        go_wp2_with fail
        refine (KR.out w8 V2.out.rd).mono ?_
        rintro e w9 ⟨rfl, hb9⟩
        go_wp2_with fail
        go_ret
        exact ⟨by first | rfl | (simp; done) | (simp; omega), (by repeat (first | with_reducible exact Below.refl _ _ | with_reducible assumption | with_reducible refine Below.drew ?_ | with_reducible refine Below.alloc ?_ (by first | exact Nat.le_refl _ | omega | (simp; done) | (simp; omega)) _ | with_reducible refine Below.setCell ?_ (by first | exact Nat.le_refl _ | omega | (simp; done) | (simp; omega)) _ | (with_reducible refine ext_trans ?_ (by with_reducible assumption))))⟩

set_option maxRecDepth 100000 in
theorem FnCache_lifted (os : Os) (started : os.Started) (H : Type) (enc : TypeId × Value → H) :
    ReturnsInHanded {} Try.checked os 9 .any (Rows.fnCacheSpec.pre6 enc Try.prog Try.f9 Rows.fnCacheRow.domain false) (Rows.fnCacheSpec.post enc Try.prog Try.f9 false true false false) := by
  refine law_lifted (C := Try.checked) own_ started (by kernel_rfl) Try.func9 laid_ rfl ?_ ?_ rfl Try.underlying4
    (ChangeSpec.witness6 (enc := enc) (C := Try.checked) false ⟨#[], #[.slice none 0 0], []⟩ 8 (by kernel_rfl) (by kernel_rfl) (by kernel_rfl) (by kernel_rfl)) ?_
  · intro ds h
    match ds, h with
    | [_], _ => rfl
  · intro t ht
    rw [Try.params9] at ht
    simp at ht
    subst ht
    exact ⟨by kernel_rfl, of_decide_eq_true (by kernel_rfl)⟩
  · intro W base args ds p hval hA hlt
    have hval : ∀ (j : Nat) t v, Try.f9.params[j]? = some t → args[j]? = some v → Value.okWide Try.prog W .any base t v := hval
    have hA : DataW.TrodAll enc Try.prog W 0 (fun _ => true) true Try.f9.params.toList args.toList ds p := hA
    rw [Try.params9] at hA hval
    obtain ⟨v0, d0, rfl, rfl, h0⟩ := trodAll_one hA
    obtain ⟨Aa, na, ca, rfl, wna, wba, wca⟩ := open_bytes (hval 0 42 v0 rfl rfl) h0
    exact FnCache_walk wna W wba

theorem FnCache_holds : Rows.FnCacheSaid :=
  OpenClaim.holds_of_wide 9 Try.f9 rfl rfl rfl rfl rfl rfl rfl ⟨rfl, rfl, rfl, rfl, rfl⟩ rfl rfl rfl rfl rfl (by kernel_rfl) Try.func9 (by kernel_rfl)
    (of_decide_eq_true (by kernel_rfl)) (by have hw := wrap_ (P := Try.prog) (fn := Try.f9) (by kernel_rfl); exact hw)
    (fun os started H enc _ => FnCache_lifted os started H enc)
end Go.Proofs.Yteaniiponikpjaa
