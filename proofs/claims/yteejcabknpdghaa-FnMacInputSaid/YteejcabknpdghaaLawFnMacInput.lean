/-
  The law FnMacInput returns true for every input. No condition.
-/
import Derived.Test.YteejcabknpdghaaDrawT
import Derived.Test.YteejcabknpdghaaMac
import Derived.Test.YteejcabknpdghaaStr
namespace Go.Proofs.Yteejcabknpdghaa
open Go.ChangeShapes Go.WideShapes Go.ChangeAt Go.RowKit

theorem be_inj : ∀ (k : Nat) (a b : Int), 0 ≤ a → a < 256 ^ k → 0 ≤ b → b < 256 ^ k → be k a = be k b → a = b
  | 0, a, b, h1, h2, h3, h4, _ => by simp at h2 h4; omega
  | k + 1, a, b, h1, h2, h3, h4, h => by
    simp only [be] at h
    have h5 := List.append_inj' h rfl
    have h6 : a % 256 = b % 256 := by
      have := h5.2
      simp only [List.cons.injEq, and_true] at this
      have e : (UInt8.ofNat (a % 256).toNat).toNat = (UInt8.ofNat (b % 256).toNat).toNat := by rw [this]
      rw [UInt8.toNat_ofNat', UInt8.toNat_ofNat'] at e
      omega
    have hp : (256 : Int) ^ (k + 1) = 256 ^ k * 256 := Int.pow_succ 256 k
    have h7 := be_inj k (a / 256) (b / 256) (by omega) (Int.ediv_lt_of_lt_mul (by omega) (by omega)) (by omega) (Int.ediv_lt_of_lt_mul (by omega) (by omega)) h5.1
    omega
theorem word_bd {n : Int} {b : Nat} (h : wordB n b = true) : 0 ≤ n ∧ n < 2 ^ b := by
  simp [wordB, inB] at h
  omega
theorem mac_inj {a b c s p i a' b' c' s' p' i' : Int} (h : macOk a b c s p i = true) (h' : macOk a' b' c' s' p' i' = true) (e : macIn a b c s p i = macIn a' b' c' s' p' i') :
    a = a' ∧ b = b' ∧ c = c' ∧ s = s' ∧ p = p' ∧ i = i' := by
  simp only [macOk, tupleB, Bool.and_eq_true] at h h'
  obtain ⟨⟨h1, h2, h3⟩, h4, h5, h6⟩ := h
  obtain ⟨⟨h1', h2', h3'⟩, h4', h5', h6'⟩ := h'
  have k1 := word_bd (b := 32) h1; have k2 := word_bd (b := 16) h2; have k3 := word_bd (b := 16) h3; have k4 := word_bd (b := 32) h4; have k5 := word_bd (b := 32) h5; have k6 := inB_iff.1 h6
  have k1' := word_bd (b := 32) h1'; have k2' := word_bd (b := 16) h2'; have k3' := word_bd (b := 16) h3'; have k4' := word_bd (b := 32) h4'; have k5' := word_bd (b := 32) h5'; have k6' := inB_iff.1 h6'
  unfold macIn at e
  obtain ⟨e, e6⟩ := List.append_inj' e (by simp [be_len])
  obtain ⟨e, e5⟩ := List.append_inj' e (by simp [be_len])
  obtain ⟨e, e4⟩ := List.append_inj' e (by simp [be_len])
  obtain ⟨e, e3⟩ := List.append_inj' e (by simp [be_len])
  obtain ⟨e1, e2⟩ := List.append_inj' e (by simp [be_len])
  simp at k1 k2 k3 k4 k5 k1' k2' k3' k4' k5'
  exact ⟨be_inj 4 _ _ (by omega) (by simp; omega) (by omega) (by simp; omega) e1, be_inj 2 _ _ (by omega) (by simp; omega) (by omega) (by simp; omega) e2, be_inj 2 _ _ (by omega) (by simp; omega) (by omega) (by simp; omega) e3,
    be_inj 4 _ _ (by omega) (by simp; omega) (by omega) (by simp; omega) e4, be_inj 4 _ _ (by omega) (by simp; omega) (by omega) (by simp; omega) e5, be_inj 1 _ _ (by omega) (by simp; omega) (by omega) (by simp; omega) e6⟩
theorem mac_size {a b c s p i : Int} : (macIn a b c s p i).length = 17 := by simp [macIn, be_len]

theorem FnMacInput_walk {A : Option Addr} {n c : Nat} (hn : n ≤ maxLen) (w : World) (hb : Byts w w.heap.size A n) (hcc : n ≤ c ∧ c ≤ maxLen) :
    Calls Try.prog 16 #[.slice A n c] w fun e w' => e = .returned (.bool true) ∧ Below w.heap.size w w' := by
  have hlen := hn
  unfold maxLen at hlen
  by_cases hbig : (1048576 : Int) < n
  · go_enter Try.func16, Try.ntmps16
    go_wp2_with fail
    refine (big_any hn _).mono ?_
    rintro e w' ⟨rfl, rfl⟩
    go_wp2_with fail
    go_ret
    exact ⟨rfl, Below.refl _ _⟩
  · go_enter Try.func16, Try.ntmps16
    go_wp2_with fail
    refine (big_any hn _).mono ?_
    rintro e w' ⟨rfl, rfl⟩
    go_wp2_with fail
    refine (DrawMacInput_any hn hb).mono ?_
    rintro e w1 ⟨a, b, cc, s, p, i, rfl, ha, hb', hcc', hs, hp, hi, hb1⟩
    have hz1 := hb1.size
    have hbt := Byts.below hb hb1
    clear ha hb' hcc' hs hp hi
    go_wp2_with fail
    refine (tail_any hn (hbt.below ((Below.refl _ _).alloc (Nat.le_refl _) _)) hcc).mono ?_
    rintro e w' ⟨A', n', c', rfl, hn', hb2, rfl⟩
    go_wp2_with fail
    refine (DrawMacInput_any hn' hb2).mono ?_
    rintro e w2 ⟨a', b', cc', s', p', i', rfl, _, _, _, _, _, _, hb2'⟩
    obtain ⟨hc2, hf2⟩ := bcell hb2'
    have hz2 := hb2'.size
    (try simp at hz2)
    have hy2 : w1.heap.size < w2.heap.size := by omega
    by_cases h : macOk a b cc s p i = true
    · have hX : macS a b cc s p i = ⟨(macIn a b cc s p i).toArray⟩ := by simp [macS, h]
      have sX : (macS a b cc s p i).size = 17 := by rw [hX]; show (macIn a b cc s p i).toArray.size = 17; simp [mac_size]
      have nX := bs_ne_nil (X := macS a b cc s p i) (by omega)
      have eX := bs_isEmpty (X := macS a b cc s p i) (by omega)
      by_cases h' : macOk a' b' cc' s' p' i' = true
      · have hY : macS a' b' cc' s' p' i' = ⟨(macIn a' b' cc' s' p' i').toArray⟩ := by simp [macS, h']
        have sY : (macS a' b' cc' s' p' i').size = 17 := by rw [hY]; show (macIn a' b' cc' s' p' i').toArray.size = 17; simp [mac_size]
        have nY := bs_ne_nil (X := macS a' b' cc' s' p' i') (by omega)
        have eY := bs_isEmpty (X := macS a' b' cc' s' p' i') (by omega)
        by_cases hq : a = a' ∧ b = b' ∧ cc = cc' ∧ s = s' ∧ p = p' ∧ i = i'
        · obtain ⟨rfl, rfl, rfl, rfl, rfl, rfl⟩ := hq
          clear hX hY
          go_wp2_with fail
          refine (MacInput_any _ _ _ _ _ _ _).mono ?_
          rintro e w3 ⟨rfl, hb3⟩
          obtain ⟨hc3, hf3⟩ := bcell hb3
          have hz3 := hb3.size
          (try simp at hz3)
          have hy3_0 : w1.heap.size < w3.heap.size := by omega
          have hy3_1 : w2.heap.size < w3.heap.size := by omega
          go_wp2_with fail
          refine (MacInput_any _ _ _ _ _ _ _).mono ?_
          rintro e w4 ⟨rfl, hb4⟩
          obtain ⟨hc4, hf4⟩ := bcell hb4
          have hz4 := hb4.size
          (try simp at hz4)
          have hy4_0 : w1.heap.size < w4.heap.size := by omega
          have hy4_1 : w2.heap.size < w4.heap.size := by omega
          go_wp2_with fail
          refine (sMacInput_any _ _ _ _ _ _ _).mono ?_
          rintro e w5 ⟨rfl, hb5⟩
          obtain ⟨hc5, hf5⟩ := bcell hb5
          have hz5 := hb5.size
          (try simp at hz5)
          have hy5_0 : w1.heap.size < w5.heap.size := by omega
          have hy5_1 : w2.heap.size < w5.heap.size := by omega
          go_wp2_with fail
          go_ret
          exact ⟨by simp, (by repeat (first | with_reducible exact Below.refl _ _ | with_reducible assumption | with_reducible refine Below.drew ?_ | with_reducible refine Below.alloc ?_ (by first | exact Nat.le_refl _ | omega | (simp; done) | (simp; omega)) _ | with_reducible refine Below.setCell ?_ (by first | exact Nat.le_refl _ | omega | (simp; done) | (simp; omega)) _ | (with_reducible refine ext_trans ?_ (by with_reducible assumption))))⟩
        · have hne : ¬ macS a b cc s p i = macS a' b' cc' s' p' i' := fun e => by
            rw [hX, hY] at e
            injection e with e
            exact hq (mac_inj h h' (by simpa using e))
          have bXY := bs_ne hne
          have HQ := Lib.hid hq
          clear hX hY hne hq
          go_wp2_with fail
          refine (MacInput_any _ _ _ _ _ _ _).mono ?_
          rintro e w3 ⟨rfl, hb3⟩
          obtain ⟨hc3, hf3⟩ := bcell hb3
          have hz3 := hb3.size
          (try simp at hz3)
          have hy3_0 : w1.heap.size < w3.heap.size := by omega
          have hy3_1 : w2.heap.size < w3.heap.size := by omega
          go_wp2_with fail
          refine (MacInput_any _ _ _ _ _ _ _).mono ?_
          rintro e w4 ⟨rfl, hb4⟩
          obtain ⟨hc4, hf4⟩ := bcell hb4
          have hz4 := hb4.size
          (try simp at hz4)
          have hy4_0 : w1.heap.size < w4.heap.size := by omega
          have hy4_1 : w2.heap.size < w4.heap.size := by omega
          go_wp2_with fail
          refine (sMacInput_any _ _ _ _ _ _ _).mono ?_
          rintro e w5 ⟨rfl, hb5⟩
          obtain ⟨hc5, hf5⟩ := bcell hb5
          have hz5 := hb5.size
          (try simp at hz5)
          have hy5_0 : w1.heap.size < w5.heap.size := by omega
          have hy5_1 : w2.heap.size < w5.heap.size := by omega
          generalize macS a b cc s p i = X at *
          generalize macS a' b' cc' s' p' i' = Y at *
          go_wp2_with fail
          all_goals
            go_ret
            refine ⟨?_, (by repeat (first | with_reducible exact Below.refl _ _ | with_reducible assumption | with_reducible refine Below.drew ?_ | with_reducible refine Below.alloc ?_ (by first | exact Nat.le_refl _ | omega | (simp; done) | (simp; omega)) _ | with_reducible refine Below.setCell ?_ (by first | exact Nat.le_refl _ | omega | (simp; done) | (simp; omega)) _ | (with_reducible refine ext_trans ?_ (by with_reducible assumption))))⟩
            have hq := HQ.out
            simp
            try (intro hi; exact hq ⟨by assumption, by assumption, by assumption, by assumption, by assumption, hi⟩)
      · have hY : macS a' b' cc' s' p' i' = ⟨#[]⟩ := by simp [macS, h']
        go_wp2_with fail
        refine (MacInput_any _ _ _ _ _ _ _).mono ?_
        rintro e w3 ⟨rfl, hb3⟩
        obtain ⟨hc3, hf3⟩ := bcell hb3
        have hz3 := hb3.size
        (try simp at hz3)
        have hy3_0 : w1.heap.size < w3.heap.size := by omega
        have hy3_1 : w2.heap.size < w3.heap.size := by omega
        go_wp2_with fail
        refine (MacInput_any _ _ _ _ _ _ _).mono ?_
        rintro e w4 ⟨rfl, hb4⟩
        obtain ⟨hc4, hf4⟩ := bcell hb4
        have hz4 := hb4.size
        (try simp at hz4)
        have hy4_0 : w1.heap.size < w4.heap.size := by omega
        have hy4_1 : w2.heap.size < w4.heap.size := by omega
        go_wp2_with fail
        refine (sMacInput_any _ _ _ _ _ _ _).mono ?_
        rintro e w5 ⟨rfl, hb5⟩
        obtain ⟨hc5, hf5⟩ := bcell hb5
        have hz5 := hb5.size
        (try simp at hz5)
        have hy5_0 : w1.heap.size < w5.heap.size := by omega
        have hy5_1 : w2.heap.size < w5.heap.size := by omega
        go_wp2_with fail
        go_wp2_with fail
        refine (sMacInput_any _ _ _ _ _ _ _).mono ?_
        rintro e w6 ⟨rfl, hb6⟩
        obtain ⟨hc6, hf6⟩ := bcell hb6
        have hz6 := hb6.size
        (try simp at hz6)
        have hy6_0 : w1.heap.size < w6.heap.size := by omega
        have hy6_1 : w2.heap.size < w6.heap.size := by omega
        go_wp2_with fail
        go_ret
        exact ⟨by simp, (by repeat (first | with_reducible exact Below.refl _ _ | with_reducible assumption | with_reducible refine Below.drew ?_ | with_reducible refine Below.alloc ?_ (by first | exact Nat.le_refl _ | omega | (simp; done) | (simp; omega)) _ | with_reducible refine Below.setCell ?_ (by first | exact Nat.le_refl _ | omega | (simp; done) | (simp; omega)) _ | (with_reducible refine ext_trans ?_ (by with_reducible assumption))))⟩
    · have hX : macS a b cc s p i = ⟨#[]⟩ := by simp [macS, h]
      go_wp2_with fail
      refine (MacInput_any _ _ _ _ _ _ _).mono ?_
      rintro e w3 ⟨rfl, hb3⟩
      obtain ⟨hc3, hf3⟩ := bcell hb3
      have hz3 := hb3.size
      (try simp at hz3)
      have hy3_0 : w1.heap.size < w3.heap.size := by omega
      have hy3_1 : w2.heap.size < w3.heap.size := by omega
      go_wp2_with fail
      refine (MacInput_any _ _ _ _ _ _ _).mono ?_
      rintro e w4 ⟨rfl, hb4⟩
      obtain ⟨hc4, hf4⟩ := bcell hb4
      have hz4 := hb4.size
      (try simp at hz4)
      have hy4_0 : w1.heap.size < w4.heap.size := by omega
      have hy4_1 : w2.heap.size < w4.heap.size := by omega
      go_wp2_with fail
      refine (sMacInput_any _ _ _ _ _ _ _).mono ?_
      rintro e w5 ⟨rfl, hb5⟩
      obtain ⟨hc5, hf5⟩ := bcell hb5
      have hz5 := hb5.size
      (try simp at hz5)
      have hy5_0 : w1.heap.size < w5.heap.size := by omega
      have hy5_1 : w2.heap.size < w5.heap.size := by omega
      go_wp2_with fail
      refine (sMacInput_any _ _ _ _ _ _ _).mono ?_
      rintro e w6 ⟨rfl, hb6⟩
      obtain ⟨hc6, hf6⟩ := bcell hb6
      have hz6 := hb6.size
      (try simp at hz6)
      have hy6_0 : w1.heap.size < w6.heap.size := by omega
      have hy6_1 : w2.heap.size < w6.heap.size := by omega
      go_wp2_with fail
      go_ret
      exact ⟨by simp, (by repeat (first | with_reducible exact Below.refl _ _ | with_reducible assumption | with_reducible refine Below.drew ?_ | with_reducible refine Below.alloc ?_ (by first | exact Nat.le_refl _ | omega | (simp; done) | (simp; omega)) _ | with_reducible refine Below.setCell ?_ (by first | exact Nat.le_refl _ | omega | (simp; done) | (simp; omega)) _ | (with_reducible refine ext_trans ?_ (by with_reducible assumption))))⟩

set_option maxRecDepth 100000 in
theorem FnMacInput_lifted (os : Os) (started : os.Started) (H : Type) (enc : TypeId × Value → H) :
    ReturnsInHanded {} Try.checked os 16 .any (Rows.fnMacInputSpec.pre6 enc Try.prog Try.f16 Rows.fnMacInputRow.domain false) (Rows.fnMacInputSpec.post enc Try.prog Try.f16 false true false false) := by
  refine law_lifted (C := Try.checked) own_ started (by kernel_rfl) Try.func16 laid_ rfl ?_ ?_ rfl Try.underlying4
    (ChangeSpec.witness6 (enc := enc) (C := Try.checked) false ⟨#[], #[.slice none 0 0], []⟩ 8 (by kernel_rfl) (by kernel_rfl) (by kernel_rfl) (by kernel_rfl)) ?_
  · intro ds h
    match ds, h with
    | [_], _ => rfl
  · intro t ht
    rw [Try.params16] at ht
    simp at ht
    subst ht
    exact ⟨by kernel_rfl, of_decide_eq_true (by kernel_rfl)⟩
  · intro W base args ds p hval hA hlt
    have hval : ∀ (j : Nat) t v, Try.f16.params[j]? = some t → args[j]? = some v → Value.okWide Try.prog W .any base t v := hval
    have hA : DataW.TrodAll enc Try.prog W 0 (fun _ => true) true Try.f16.params.toList args.toList ds p := hA
    rw [Try.params16] at hA hval
    obtain ⟨v0, d0, rfl, rfl, h0⟩ := trodAll_one hA
    obtain ⟨Aa, na, ca, rfl, wna, wba, wca⟩ := open_bytes (hval 0 50 v0 rfl rfl) h0
    exact FnMacInput_walk wna W wba wca

theorem FnMacInput_holds : Rows.FnMacInputSaid :=
  OpenClaim.holds_of_wide 16 Try.f16 rfl rfl rfl rfl rfl rfl rfl ⟨rfl, rfl, rfl, rfl, rfl⟩ rfl rfl rfl rfl rfl (by kernel_rfl) Try.func16 (by kernel_rfl)
    (of_decide_eq_true (by kernel_rfl)) (by have hw := wrap_ (P := Try.prog) (fn := Try.f16) (by kernel_rfl); exact hw)
    (fun os started H enc _ => FnMacInput_lifted os started H enc)
end Go.Proofs.Yteejcabknpdghaa
