/-
  Contracts of CheckCookie, the program's and the reference's.
-/
import Derived.Test.YtjlnbjabehpncaaCok
import Derived.Test.YtjlnbjabehpncaaStamp
namespace Go.Proofs.Ytjlnbjabehpncaa
set_option maxRecDepth 100000
open Go.RowKit
theorem RKeys.ok_bd {x : RKeys} (h : x.ok = true) : 0 ≤ x.ep ∧ x.ep ≤ 4294967295 ∧ (x.two = true → 1 ≤ x.ep) := by
  unfold RKeys.ok at h
  rw [Bool.and_eq_true] at h
  have h1 := inB_iff.1 h.1
  split at h1
  · exact ⟨by omega, by omega, fun _ => by omega⟩
  · rename_i h2
    exact ⟨by omega, by omega, fun h => absurd h h2⟩
def ckI (ck : Int) : Int := ck / 16777216 % 8
/-- What CheckCookie answers. -/
def checkR (x : RKeys) (a b c seq ck : Int) : Int × Int × Bool :=
  if x.ok && wordB ck 32 then
    if cookieI x.now a b c seq x.ep (ckI ck) = ck then (x.ep, ckI ck, true)
    else if x.two && decide (cookieI x.bef a b c seq (x.ep - 1) (ckI ck) = ck) then (x.ep - 1, ckI ck, true) else (0, 0, false)
  else (0, 0, false)
abbrev vCk (r : Int × Int × Bool) : Value := .tuple #[.int .i64 r.1, .int .i64 r.2.1, .bool r.2.2]

set_option maxHeartbeats 4000000 in
theorem CheckCookie_any (x : RKeys) (v1 v2 : Value) (a b c seq ck : Int) (f1 : x.now.fits) (f2 : x.bef.fits) (n1 : x.now.rs.length ≤ 1048600) (n2 : x.bef.rs.length ≤ 1048600) (w : World) (h1 : RdMacRow w v1 x.now.rs) (h2 : RdMacRow w v2 x.bef.rs) :
    Calls Try.prog 20 #[vK x v1 v2, .agg #[.int .i64 a, .int .i64 b, .int .i64 c], .int .i64 seq, .int .i64 ck] w fun e w' => e = .returned (vCk (checkR x a b c seq ck)) ∧ Below w.heap.size w w' := by
  obtain ⟨A1, c1, rfl, -⟩ := id h1
  obtain ⟨A2, c2, rfl, -⟩ := id h2
  obtain ⟨e, m1, m2, t⟩ := x
  dsimp only at *
  have H1 := Lib.hid h1
  have H2 := Lib.hid h2
  have F1 := Lib.hid f1
  have F2 := Lib.hid f2
  have N1 := Lib.hid n1
  have N2 := Lib.hid n2
  clear h1 h2 f1 f2 n1 n2
  obtain ⟨B, hB⟩ : ∃ B, RKeys.ok ⟨e, m1, m2, t⟩ = B := ⟨_, rfl⟩
  have HB := Lib.hid hB
  obtain ⟨R, hR⟩ : ∃ R, checkR ⟨e, m1, m2, t⟩ a b c seq ck = R := ⟨_, rfl⟩
  rw [hR]
  have HR := Lib.hid hR
  clear hR
  cases B
  · have hr : R = (0, 0, false) := by rw [← HR.out]; simp [checkR, hB]
    clear hB HR
    subst hr
    go_enter Try.func20, Try.ntmps20
    go_wp2_with fail
    refine (KeysOk_any ⟨e, m1, m2, t⟩ _ _ F1.out F2.out _ (H1.out.below (by repeat (first | with_reducible exact Below.refl _ _ | with_reducible assumption | with_reducible refine Below.drew ?_ | with_reducible refine Below.alloc ?_ (by first | exact Nat.le_refl _ | omega | (simp; done) | (simp; omega)) _ | with_reducible refine Below.setCell ?_ (by first | exact Nat.le_refl _ | omega | (simp; done) | (simp; omega)) _ | (with_reducible refine ext_trans ?_ (by with_reducible assumption))))) (H2.out.below (by repeat (first | with_reducible exact Below.refl _ _ | with_reducible assumption | with_reducible refine Below.drew ?_ | with_reducible refine Below.alloc ?_ (by first | exact Nat.le_refl _ | omega | (simp; done) | (simp; omega)) _ | with_reducible refine Below.setCell ?_ (by first | exact Nat.le_refl _ | omega | (simp; done) | (simp; omega)) _ | (with_reducible refine ext_trans ?_ (by with_reducible assumption)))))).mono ?_
    rw [HB.out]
    rintro e' w1 ⟨rfl, hb1⟩
    have hz1 := hb1.size
    (try simp at hz1)
    go_wp2_with fail
    go_ret3
    exact ⟨rfl, (by repeat (first | with_reducible exact Below.refl _ _ | with_reducible assumption | with_reducible refine Below.drew ?_ | with_reducible refine Below.alloc ?_ (by first | exact Nat.le_refl _ | omega | (simp; done) | (simp; omega)) _ | with_reducible refine Below.setCell ?_ (by first | exact Nat.le_refl _ | omega | (simp; done) | (simp; omega)) _ | (with_reducible refine ext_trans ?_ (by with_reducible assumption))))⟩
  by_cases hw : wordB ck 32 = true
  case neg =>
    have hw := Bool.eq_false_iff.2 hw
    have hr : R = (0, 0, false) := by rw [← HR.out]; simp [checkR, hw]
    clear hB HR
    subst hr
    go_enter Try.func20, Try.ntmps20
    go_wp2_with fail
    refine (KeysOk_any ⟨e, m1, m2, t⟩ _ _ F1.out F2.out _ (H1.out.below (by repeat (first | with_reducible exact Below.refl _ _ | with_reducible assumption | with_reducible refine Below.drew ?_ | with_reducible refine Below.alloc ?_ (by first | exact Nat.le_refl _ | omega | (simp; done) | (simp; omega)) _ | with_reducible refine Below.setCell ?_ (by first | exact Nat.le_refl _ | omega | (simp; done) | (simp; omega)) _ | (with_reducible refine ext_trans ?_ (by with_reducible assumption))))) (H2.out.below (by repeat (first | with_reducible exact Below.refl _ _ | with_reducible assumption | with_reducible refine Below.drew ?_ | with_reducible refine Below.alloc ?_ (by first | exact Nat.le_refl _ | omega | (simp; done) | (simp; omega)) _ | with_reducible refine Below.setCell ?_ (by first | exact Nat.le_refl _ | omega | (simp; done) | (simp; omega)) _ | (with_reducible refine ext_trans ?_ (by with_reducible assumption)))))).mono ?_
    rw [HB.out]
    rintro e' w1 ⟨rfl, hb1⟩
    have hz1 := hb1.size
    (try simp at hz1)
    have hk1 : w1.heap[w.heap.size]? = some (.cells #[.int .i64 e, .bool m1.u, .int .u64 (uI m1.k), .int .u64 (uI m1.l), .slice A1 m1.rs.length c1, .bool m2.u, .int .u64 (uI m2.k), .int .u64 (uI m2.l), .slice A2 m2.rs.length c2, .bool t] 29 (0, 0)) := (hb1.block _ (by first | (simp; done) | (simp; omega))).trans (by repeat (first | exact heap_new _ _ _ (by first | rfl | (simp; done) | (simp; omega)) | refine (Below.heap_alloc _ _ _ (by first | omega | (simp; done) | (simp; omega))).trans ?_))
    have ht1 : w1.heap[w.heap.size + 1]? = some (.cells #[.int .i64 a, .int .i64 b, .int .i64 c] 33 (0, 0)) := (hb1.block _ (by first | (simp; done) | (simp; omega))).trans (by repeat (first | exact heap_new _ _ _ (by first | rfl | (simp; done) | (simp; omega)) | refine (Below.heap_alloc _ _ _ (by first | omega | (simp; done) | (simp; omega))).trans ?_))
    have r0_hk1 := cell_of_row _ _ 0 _ _ _ hk1
    have r1_hk1 := cell_of_row _ _ 1 _ _ _ hk1
    have r2_hk1 := cell_of_row _ _ 2 _ _ _ hk1
    have r3_hk1 := cell_of_row _ _ 3 _ _ _ hk1
    have r4_hk1 := cell_of_row _ _ 4 _ _ _ hk1
    have r5_hk1 := cell_of_row _ _ 5 _ _ _ hk1
    have r6_hk1 := cell_of_row _ _ 6 _ _ _ hk1
    have r7_hk1 := cell_of_row _ _ 7 _ _ _ hk1
    have r8_hk1 := cell_of_row _ _ 8 _ _ _ hk1
    have r9_hk1 := cell_of_row _ _ 9 _ _ _ hk1
    have f0_hk1 := frozen_of_row _ _ 0 _ _ hk1
    have f1_hk1 := frozen_of_row _ _ 1 _ _ hk1
    have f2_hk1 := frozen_of_row _ _ 2 _ _ hk1
    have f3_hk1 := frozen_of_row _ _ 3 _ _ hk1
    have f4_hk1 := frozen_of_row _ _ 4 _ _ hk1
    have f5_hk1 := frozen_of_row _ _ 5 _ _ hk1
    have f6_hk1 := frozen_of_row _ _ 6 _ _ hk1
    have f7_hk1 := frozen_of_row _ _ 7 _ _ hk1
    have f8_hk1 := frozen_of_row _ _ 8 _ _ hk1
    have f9_hk1 := frozen_of_row _ _ 9 _ _ hk1
    simp at r0_hk1 r1_hk1 r2_hk1 r3_hk1 r4_hk1 r5_hk1 r6_hk1 r7_hk1 r8_hk1 r9_hk1
    have HK1 := Lib.hid hk1
    have HT1 := Lib.hid ht1
    clear hk1 ht1
    go_wp2_with (go_at_call 57; refine (WordOk_any _ _ _).mono ?_; rintro e' w' ⟨rfl, rfl⟩)
    go_ret3
    exact ⟨rfl, (by repeat (first | with_reducible exact Below.refl _ _ | with_reducible assumption | with_reducible refine Below.drew ?_ | with_reducible refine Below.alloc ?_ (by first | exact Nat.le_refl _ | omega | (simp; done) | (simp; omega)) _ | with_reducible refine Below.setCell ?_ (by first | exact Nat.le_refl _ | omega | (simp; done) | (simp; omega)) _ | (with_reducible refine ext_trans ?_ (by with_reducible assumption))))⟩
  have hck : 0 ≤ ck ∧ ck ≤ 4294967295 := by have h := hw; rw [wordB32] at h; exact inB_iff.1 h
  obtain ⟨hck1, hck2⟩ := hck
  obtain ⟨hep1, hep2, hep3⟩ := RKeys.ok_bd hB
  dsimp only at hep1 hep2 hep3
  have HE3 := Lib.hid hep3
  have HWR : Hid (wrap64 (e - 1) = e - 1) := (by (unfold wrap64; omega) : wrap64 (e - 1) = e - 1)
  have hr : Hid (R = if cookieI m1 a b c seq e (ckI ck) = ck then (e, ckI ck, true) else if t && decide (cookieI m2 a b c seq (e - 1) (ckI ck) = ck) then (e - 1, ckI ck, true) else (0, 0, false)) := by
    refine HR.out.symm.trans ?_
    unfold checkR
    rw [hB, hw]
    rfl
  have hI : 0 ≤ ck / 16777216 % 8 ∧ ck / 16777216 % 8 ≤ 7 := by omega
  obtain ⟨hI1, hI2⟩ := hI
  obtain ⟨X1, hX1⟩ : ∃ X, cookieI m1 a b c seq e (ckI ck) = X := ⟨_, rfl⟩
  obtain ⟨X2, hX2⟩ : ∃ X, cookieI m2 a b c seq (e - 1) (ckI ck) = X := ⟨_, rfl⟩
  have hr1 : Hid (R = if X1 = ck then (e, ckI ck, true) else if t && decide (X2 = ck) then (e - 1, ckI ck, true) else (0, 0, false)) := by rw [← hX1, ← hX2]; exact hr.out
  have hg1 := fun W v h => CookieOf_any m1 v a b c seq e (ckI ck) F1.out W h
  have hg2 := fun W v h => CookieOf_any m2 v a b c seq (e - 1) (ckI ck) F2.out W h
  rw [hX1] at hg1
  rw [hX2] at hg2
  unfold ckI at hg1 hg2 hr1
  have HG1 := Lib.hid hg1
  have HG2 := Lib.hid hg2
  clear hB HR hg1 hg2 hX1 hX2 hr hep3
  have HC1 : Hid (0 ≤ ck) := hck1
  have HC2 : Hid (ck ≤ 4294967295) := hck2
  go_enter Try.func20, Try.ntmps20
  go_wp2_with fail
  refine (KeysOk_any ⟨e, m1, m2, t⟩ _ _ F1.out F2.out _ (H1.out.below (by repeat (first | with_reducible exact Below.refl _ _ | with_reducible assumption | with_reducible refine Below.drew ?_ | with_reducible refine Below.alloc ?_ (by first | exact Nat.le_refl _ | omega | (simp; done) | (simp; omega)) _ | with_reducible refine Below.setCell ?_ (by first | exact Nat.le_refl _ | omega | (simp; done) | (simp; omega)) _ | (with_reducible refine ext_trans ?_ (by with_reducible assumption))))) (H2.out.below (by repeat (first | with_reducible exact Below.refl _ _ | with_reducible assumption | with_reducible refine Below.drew ?_ | with_reducible refine Below.alloc ?_ (by first | exact Nat.le_refl _ | omega | (simp; done) | (simp; omega)) _ | with_reducible refine Below.setCell ?_ (by first | exact Nat.le_refl _ | omega | (simp; done) | (simp; omega)) _ | (with_reducible refine ext_trans ?_ (by with_reducible assumption)))))).mono ?_
  rw [HB.out]
  rintro e' w1 ⟨rfl, hb1⟩
  have hz1 := hb1.size
  (try simp at hz1)
  have hk1 : w1.heap[w.heap.size]? = some (.cells #[.int .i64 e, .bool m1.u, .int .u64 (uI m1.k), .int .u64 (uI m1.l), .slice A1 m1.rs.length c1, .bool m2.u, .int .u64 (uI m2.k), .int .u64 (uI m2.l), .slice A2 m2.rs.length c2, .bool t] 29 (0, 0)) := (hb1.block _ (by first | (simp; done) | (simp; omega))).trans (by repeat (first | exact heap_new _ _ _ (by first | rfl | (simp; done) | (simp; omega)) | refine (Below.heap_alloc _ _ _ (by first | omega | (simp; done) | (simp; omega))).trans ?_))
  have ht1 : w1.heap[w.heap.size + 1]? = some (.cells #[.int .i64 a, .int .i64 b, .int .i64 c] 33 (0, 0)) := (hb1.block _ (by first | (simp; done) | (simp; omega))).trans (by repeat (first | exact heap_new _ _ _ (by first | rfl | (simp; done) | (simp; omega)) | refine (Below.heap_alloc _ _ _ (by first | omega | (simp; done) | (simp; omega))).trans ?_))
  have r0_hk1 := cell_of_row _ _ 0 _ _ _ hk1
  have r1_hk1 := cell_of_row _ _ 1 _ _ _ hk1
  have r2_hk1 := cell_of_row _ _ 2 _ _ _ hk1
  have r3_hk1 := cell_of_row _ _ 3 _ _ _ hk1
  have r4_hk1 := cell_of_row _ _ 4 _ _ _ hk1
  have r5_hk1 := cell_of_row _ _ 5 _ _ _ hk1
  have r6_hk1 := cell_of_row _ _ 6 _ _ _ hk1
  have r7_hk1 := cell_of_row _ _ 7 _ _ _ hk1
  have r8_hk1 := cell_of_row _ _ 8 _ _ _ hk1
  have r9_hk1 := cell_of_row _ _ 9 _ _ _ hk1
  have f0_hk1 := frozen_of_row _ _ 0 _ _ hk1
  have f1_hk1 := frozen_of_row _ _ 1 _ _ hk1
  have f2_hk1 := frozen_of_row _ _ 2 _ _ hk1
  have f3_hk1 := frozen_of_row _ _ 3 _ _ hk1
  have f4_hk1 := frozen_of_row _ _ 4 _ _ hk1
  have f5_hk1 := frozen_of_row _ _ 5 _ _ hk1
  have f6_hk1 := frozen_of_row _ _ 6 _ _ hk1
  have f7_hk1 := frozen_of_row _ _ 7 _ _ hk1
  have f8_hk1 := frozen_of_row _ _ 8 _ _ hk1
  have f9_hk1 := frozen_of_row _ _ 9 _ _ hk1
  simp at r0_hk1 r1_hk1 r2_hk1 r3_hk1 r4_hk1 r5_hk1 r6_hk1 r7_hk1 r8_hk1 r9_hk1
  have HK1 := Lib.hid hk1
  have HT1 := Lib.hid ht1
  clear hk1 ht1
  go_wp2_with (first | (go_at_call 57; refine (WordOk_any _ _ _).mono ?_; rintro e' w' ⟨rfl, rfl⟩) | (go_at_call 58; refine (CookieParts_yes _ hw HC1.out HC2.out _).mono ?_; rintro e' w' ⟨rfl, rfl⟩))
  generalize ck / 16777216 % 8 = I at *
  go_loopw [14] (fun i wr => ∃ z : Int, i = .int .i64 z ∧ Hid (z = e ∨ (z = e - 1 ∧ ¬ X1 = ck) ∨ (z = e - 2 ∧ ¬ X1 = ck ∧ ¬ (t = true ∧ X2 = ck))) ∧ Hid (wr.heap[w.heap.size]? = some (.cells #[.int .i64 e, .bool m1.u, .int .u64 (uI m1.k), .int .u64 (uI m1.l), .slice A1 m1.rs.length c1, .bool m2.u, .int .u64 (uI m2.k), .int .u64 (uI m2.l), .slice A2 m2.rs.length c2, .bool t] 29 (0, 0))) ∧ Hid (wr.heap[w.heap.size + 1]? = some (.cells #[.int .i64 a, .int .i64 b, .int .i64 c] 33 (0, 0))) ∧ Below w.heap.size w wr) (fun i _ => ((intOf i) - (e - 3)).toNat)
  case atStart => exact ⟨e, rfl, .inl rfl, HK1.out, HT1.out, (by repeat (first | with_reducible exact Below.refl _ _ | with_reducible assumption | with_reducible refine Below.drew ?_ | with_reducible refine Below.alloc ?_ (by first | exact Nat.le_refl _ | omega | (simp; done) | (simp; omega)) _ | with_reducible refine Below.setCell ?_ (by first | exact Nat.le_refl _ | omega | (simp; done) | (simp; omega)) _ | (with_reducible refine ext_trans ?_ (by with_reducible assumption))))⟩
  case round =>
    clear HK1 HT1 r0_hk1 r1_hk1 r2_hk1 r3_hk1 r4_hk1 r5_hk1 r6_hk1 r7_hk1 r8_hk1 r9_hk1 f0_hk1 f1_hk1 f2_hk1 f3_hk1 f4_hk1 f5_hk1 f6_hk1 f7_hk1 f8_hk1 f9_hk1
    obtain ⟨z, rfl, hz, hK, hT, hbw⟩ := hrel
    have hk := hK.out
    have ht := hT.out
    have hlK := (Array.getElem?_eq_some_iff.1 ht).1
    have r0_hk := cell_of_row _ _ 0 _ _ _ hk
    have r1_hk := cell_of_row _ _ 1 _ _ _ hk
    have r2_hk := cell_of_row _ _ 2 _ _ _ hk
    have r3_hk := cell_of_row _ _ 3 _ _ _ hk
    have r4_hk := cell_of_row _ _ 4 _ _ _ hk
    have r5_hk := cell_of_row _ _ 5 _ _ _ hk
    have r6_hk := cell_of_row _ _ 6 _ _ _ hk
    have r7_hk := cell_of_row _ _ 7 _ _ _ hk
    have r8_hk := cell_of_row _ _ 8 _ _ _ hk
    have r9_hk := cell_of_row _ _ 9 _ _ _ hk
    have f0_hk := frozen_of_row _ _ 0 _ _ hk
    have f1_hk := frozen_of_row _ _ 1 _ _ hk
    have f2_hk := frozen_of_row _ _ 2 _ _ hk
    have f3_hk := frozen_of_row _ _ 3 _ _ hk
    have f4_hk := frozen_of_row _ _ 4 _ _ hk
    have f5_hk := frozen_of_row _ _ 5 _ _ hk
    have f6_hk := frozen_of_row _ _ 6 _ _ hk
    have f7_hk := frozen_of_row _ _ 7 _ _ hk
    have f8_hk := frozen_of_row _ _ 8 _ _ hk
    have f9_hk := frozen_of_row _ _ 9 _ _ hk
    simp at r0_hk r1_hk r2_hk r3_hk r4_hk r5_hk r6_hk r7_hk r8_hk r9_hk
    have r0_ht := cell_of_row _ _ 0 _ _ _ ht
    have r1_ht := cell_of_row _ _ 1 _ _ _ ht
    have r2_ht := cell_of_row _ _ 2 _ _ _ ht
    have f0_ht := frozen_of_row _ _ 0 _ _ ht
    have f1_ht := frozen_of_row _ _ 1 _ _ ht
    have f2_ht := frozen_of_row _ _ 2 _ _ ht
    simp at r0_ht r1_ht r2_ht
    clear hk ht
    have hbs := hbw.size
    have HZ := Lib.hid hz.out
    clear hz

    rcases HZ.out with hz | ⟨hz, hn1⟩ | ⟨hz, hn1, hn2⟩
    · clear HZ
      subst z
      by_cases h12 : 1 < e
      all_goals
        have HS : Hid (RKeys.secret ⟨e, m1, m2, t⟩ (e) = some m1) := (by simp [RKeys.secret] : RKeys.secret ⟨e, m1, m2, t⟩ e = some m1)
        go_wp2_with fail
        refine (SecretOf_high ⟨e, m1, m2, t⟩ _ _ (e) N1.out N2.out ⟨by omega, by omega⟩ ⟨by dsimp only; omega, by dsimp only; omega⟩ _ (H1.out.below (by repeat (first | with_reducible exact Below.refl _ _ | with_reducible assumption | with_reducible refine Below.drew ?_ | with_reducible refine Below.alloc ?_ (by first | exact Nat.le_refl _ | omega | (simp; done) | (simp; omega)) _ | with_reducible refine Below.setCell ?_ (by first | exact Nat.le_refl _ | omega | (simp; done) | (simp; omega)) _ | (with_reducible refine ext_trans ?_ (by with_reducible assumption))))) (H2.out.below (by repeat (first | with_reducible exact Below.refl _ _ | with_reducible assumption | with_reducible refine Below.drew ?_ | with_reducible refine Below.alloc ?_ (by first | exact Nat.le_refl _ | omega | (simp; done) | (simp; omega)) _ | with_reducible refine Below.setCell ?_ (by first | exact Nat.le_refl _ | omega | (simp; done) | (simp; omega)) _ | (with_reducible refine ext_trans ?_ (by with_reducible assumption)))))).mono ?_
        rintro e' w2 ⟨m, v3, rfl, hm, hO, hb2⟩
        rw [HS.out] at hm
        obtain rfl : m = m1 := hm
        rw [HS.out]
        obtain ⟨A3, c3, rfl⟩ := hO.form
        have HO := Lib.hid hO.rd
        have hz2 := hb2.size
        have hk2 := (hb2.block _ (by omega)).trans hK.out
        have ht2 := (hb2.block _ (by omega)).trans hT.out
        have r0_hk2 := cell_of_row _ _ 0 _ _ _ hk2
        have r1_hk2 := cell_of_row _ _ 1 _ _ _ hk2
        have r2_hk2 := cell_of_row _ _ 2 _ _ _ hk2
        have r3_hk2 := cell_of_row _ _ 3 _ _ _ hk2
        have r4_hk2 := cell_of_row _ _ 4 _ _ _ hk2
        have r5_hk2 := cell_of_row _ _ 5 _ _ _ hk2
        have r6_hk2 := cell_of_row _ _ 6 _ _ _ hk2
        have r7_hk2 := cell_of_row _ _ 7 _ _ _ hk2
        have r8_hk2 := cell_of_row _ _ 8 _ _ _ hk2
        have r9_hk2 := cell_of_row _ _ 9 _ _ _ hk2
        have f0_hk2 := frozen_of_row _ _ 0 _ _ hk2
        have f1_hk2 := frozen_of_row _ _ 1 _ _ hk2
        have f2_hk2 := frozen_of_row _ _ 2 _ _ hk2
        have f3_hk2 := frozen_of_row _ _ 3 _ _ hk2
        have f4_hk2 := frozen_of_row _ _ 4 _ _ hk2
        have f5_hk2 := frozen_of_row _ _ 5 _ _ hk2
        have f6_hk2 := frozen_of_row _ _ 6 _ _ hk2
        have f7_hk2 := frozen_of_row _ _ 7 _ _ hk2
        have f8_hk2 := frozen_of_row _ _ 8 _ _ hk2
        have f9_hk2 := frozen_of_row _ _ 9 _ _ hk2
        simp at r0_hk2 r1_hk2 r2_hk2 r3_hk2 r4_hk2 r5_hk2 r6_hk2 r7_hk2 r8_hk2 r9_hk2
        have r0_ht2 := cell_of_row _ _ 0 _ _ _ ht2
        have r1_ht2 := cell_of_row _ _ 1 _ _ _ ht2
        have r2_ht2 := cell_of_row _ _ 2 _ _ _ ht2
        have f0_ht2 := frozen_of_row _ _ 0 _ _ ht2
        have f1_ht2 := frozen_of_row _ _ 1 _ _ ht2
        have f2_ht2 := frozen_of_row _ _ 2 _ _ ht2
        simp at r0_ht2 r1_ht2 r2_ht2
        have HK2 := Lib.hid hk2
        have HT2 := Lib.hid ht2
        clear hk2 ht2 hO
        have hl2 : w.heap.size + 1 < w2.heap.size := by omega
        have hl2' : w.heap.size < w2.heap.size := by omega
        clear r0_hk f0_hk r1_hk f1_hk r2_hk f2_hk r3_hk f3_hk r4_hk f4_hk r5_hk f5_hk r6_hk f6_hk r7_hk f7_hk r8_hk f8_hk r9_hk f9_hk r0_ht f0_ht r1_ht f1_ht r2_ht f2_ht
        go_wp2_with fail
        refine (HG1.out _ _ (HO.out.alloc _)).mono ?_
        rintro e' w3 ⟨rfl, hb3⟩
        have hz3 := hb3.size
        simp at hz3
        by_cases hx : X1 = ck
        · go_wp2_with fail
          go_ret3
          exact ⟨by rw [hr1.out, if_pos hx]; rfl, (by repeat (first | with_reducible exact Below.refl _ _ | with_reducible assumption | with_reducible refine Below.drew ?_ | with_reducible refine Below.alloc ?_ (by first | exact Nat.le_refl _ | omega | (simp; done) | (simp; omega)) _ | with_reducible refine Below.setCell ?_ (by first | exact Nat.le_refl _ | omega | (simp; done) | (simp; omega)) _ | (with_reducible refine ext_trans ?_ (by with_reducible assumption))))⟩
        · go_wp2_with fail
          exact ⟨⟨_, rfl, (.inr (.inl ⟨rfl, hx⟩) : _ ∨ _ ∨ _), (hb3.block _ (by simp; omega)).trans ((Below.heap_alloc _ _ _ (by omega)).trans HK2.out), (hb3.block _ (by simp; omega)).trans ((Below.heap_alloc _ _ _ (by omega)).trans HT2.out), (by repeat (first | with_reducible exact Below.refl _ _ | with_reducible assumption | with_reducible refine Below.drew ?_ | with_reducible refine Below.alloc ?_ (by first | exact Nat.le_refl _ | omega | (simp; done) | (simp; omega)) _ | with_reducible refine Below.setCell ?_ (by first | exact Nat.le_refl _ | omega | (simp; done) | (simp; omega)) _ | (with_reducible refine ext_trans ?_ (by with_reducible assumption))))⟩, by simp [intOf]; omega⟩
    · clear HZ
      subst z
      by_cases h1 : 1 ≤ e
      · cases t
        · by_cases h12 : 1 < e
          all_goals
           have HS : Hid (RKeys.secret ⟨e, m1, m2, false⟩ (e - 1) = none) := (by (simp [RKeys.secret]; omega) : RKeys.secret ⟨e, m1, m2, false⟩ (e - 1) = none)
           go_wp2_with fail
           refine (SecretOf_high ⟨e, m1, m2, false⟩ _ _ (e - 1) N1.out N2.out ⟨by omega, by omega⟩ ⟨by dsimp only; omega, by dsimp only; omega⟩ _ (H1.out.below (by repeat (first | with_reducible exact Below.refl _ _ | with_reducible assumption | with_reducible refine Below.drew ?_ | with_reducible refine Below.alloc ?_ (by first | exact Nat.le_refl _ | omega | (simp; done) | (simp; omega)) _ | with_reducible refine Below.setCell ?_ (by first | exact Nat.le_refl _ | omega | (simp; done) | (simp; omega)) _ | (with_reducible refine ext_trans ?_ (by with_reducible assumption))))) (H2.out.below (by repeat (first | with_reducible exact Below.refl _ _ | with_reducible assumption | with_reducible refine Below.drew ?_ | with_reducible refine Below.alloc ?_ (by first | exact Nat.le_refl _ | omega | (simp; done) | (simp; omega)) _ | with_reducible refine Below.setCell ?_ (by first | exact Nat.le_refl _ | omega | (simp; done) | (simp; omega)) _ | (with_reducible refine ext_trans ?_ (by with_reducible assumption)))))).mono ?_
           rintro e' w2 ⟨m, v3, rfl, hm, hO, hb2⟩
           rw [HS.out]
           obtain ⟨A3, c3, rfl⟩ := hO.form
           have hz2 := hb2.size
           have hk2 := (hb2.block _ (by omega)).trans hK.out
           have ht2 := (hb2.block _ (by omega)).trans hT.out
           have r0_hk2 := cell_of_row _ _ 0 _ _ _ hk2
           have r1_hk2 := cell_of_row _ _ 1 _ _ _ hk2
           have r2_hk2 := cell_of_row _ _ 2 _ _ _ hk2
           have r3_hk2 := cell_of_row _ _ 3 _ _ _ hk2
           have r4_hk2 := cell_of_row _ _ 4 _ _ _ hk2
           have r5_hk2 := cell_of_row _ _ 5 _ _ _ hk2
           have r6_hk2 := cell_of_row _ _ 6 _ _ _ hk2
           have r7_hk2 := cell_of_row _ _ 7 _ _ _ hk2
           have r8_hk2 := cell_of_row _ _ 8 _ _ _ hk2
           have r9_hk2 := cell_of_row _ _ 9 _ _ _ hk2
           have f0_hk2 := frozen_of_row _ _ 0 _ _ hk2
           have f1_hk2 := frozen_of_row _ _ 1 _ _ hk2
           have f2_hk2 := frozen_of_row _ _ 2 _ _ hk2
           have f3_hk2 := frozen_of_row _ _ 3 _ _ hk2
           have f4_hk2 := frozen_of_row _ _ 4 _ _ hk2
           have f5_hk2 := frozen_of_row _ _ 5 _ _ hk2
           have f6_hk2 := frozen_of_row _ _ 6 _ _ hk2
           have f7_hk2 := frozen_of_row _ _ 7 _ _ hk2
           have f8_hk2 := frozen_of_row _ _ 8 _ _ hk2
           have f9_hk2 := frozen_of_row _ _ 9 _ _ hk2
           simp at r0_hk2 r1_hk2 r2_hk2 r3_hk2 r4_hk2 r5_hk2 r6_hk2 r7_hk2 r8_hk2 r9_hk2
           have HK2 := Lib.hid hk2
           have HT2 := Lib.hid ht2
           clear hk2 ht2 hO hm
           clear r0_hk f0_hk r1_hk f1_hk r2_hk f2_hk r3_hk f3_hk r4_hk f4_hk r5_hk f5_hk r6_hk f6_hk r7_hk f7_hk r8_hk f8_hk r9_hk f9_hk r0_ht f0_ht r1_ht f1_ht r2_ht f2_ht
           go_wp2_with fail
           exact ⟨⟨_, rfl, (.inr (.inr ⟨by omega, hn1, fun h => by cases h.1⟩) : _ ∨ _ ∨ _), (Below.heap_alloc _ _ _ (by omega)).trans HK2.out, (Below.heap_alloc _ _ _ (by omega)).trans HT2.out, (by repeat (first | with_reducible exact Below.refl _ _ | with_reducible assumption | with_reducible refine Below.drew ?_ | with_reducible refine Below.alloc ?_ (by first | exact Nat.le_refl _ | omega | (simp; done) | (simp; omega)) _ | with_reducible refine Below.setCell ?_ (by first | exact Nat.le_refl _ | omega | (simp; done) | (simp; omega)) _ | (with_reducible refine ext_trans ?_ (by with_reducible assumption))))⟩, by simp [intOf]; omega⟩
        · by_cases h12 : 1 < e
          all_goals
           have HS : Hid (RKeys.secret ⟨e, m1, m2, true⟩ (e - 1) = some m2) := (by (simp [RKeys.secret, HWR.out]; omega) : RKeys.secret ⟨e, m1, m2, true⟩ (e - 1) = some m2)
           go_wp2_with fail
           refine (SecretOf_high ⟨e, m1, m2, true⟩ _ _ (e - 1) N1.out N2.out ⟨by omega, by omega⟩ ⟨by dsimp only; omega, by dsimp only; omega⟩ _ (H1.out.below (by repeat (first | with_reducible exact Below.refl _ _ | with_reducible assumption | with_reducible refine Below.drew ?_ | with_reducible refine Below.alloc ?_ (by first | exact Nat.le_refl _ | omega | (simp; done) | (simp; omega)) _ | with_reducible refine Below.setCell ?_ (by first | exact Nat.le_refl _ | omega | (simp; done) | (simp; omega)) _ | (with_reducible refine ext_trans ?_ (by with_reducible assumption))))) (H2.out.below (by repeat (first | with_reducible exact Below.refl _ _ | with_reducible assumption | with_reducible refine Below.drew ?_ | with_reducible refine Below.alloc ?_ (by first | exact Nat.le_refl _ | omega | (simp; done) | (simp; omega)) _ | with_reducible refine Below.setCell ?_ (by first | exact Nat.le_refl _ | omega | (simp; done) | (simp; omega)) _ | (with_reducible refine ext_trans ?_ (by with_reducible assumption)))))).mono ?_
           rintro e' w2 ⟨m, v3, rfl, hm, hO, hb2⟩
           rw [HS.out] at hm
           obtain rfl : m = m2 := hm
           rw [HS.out]
           obtain ⟨A3, c3, rfl⟩ := hO.form
           have HO := Lib.hid hO.rd
           have hz2 := hb2.size
           have hk2 := (hb2.block _ (by omega)).trans hK.out
           have ht2 := (hb2.block _ (by omega)).trans hT.out
           have r0_hk2 := cell_of_row _ _ 0 _ _ _ hk2
           have r1_hk2 := cell_of_row _ _ 1 _ _ _ hk2
           have r2_hk2 := cell_of_row _ _ 2 _ _ _ hk2
           have r3_hk2 := cell_of_row _ _ 3 _ _ _ hk2
           have r4_hk2 := cell_of_row _ _ 4 _ _ _ hk2
           have r5_hk2 := cell_of_row _ _ 5 _ _ _ hk2
           have r6_hk2 := cell_of_row _ _ 6 _ _ _ hk2
           have r7_hk2 := cell_of_row _ _ 7 _ _ _ hk2
           have r8_hk2 := cell_of_row _ _ 8 _ _ _ hk2
           have r9_hk2 := cell_of_row _ _ 9 _ _ _ hk2
           have f0_hk2 := frozen_of_row _ _ 0 _ _ hk2
           have f1_hk2 := frozen_of_row _ _ 1 _ _ hk2
           have f2_hk2 := frozen_of_row _ _ 2 _ _ hk2
           have f3_hk2 := frozen_of_row _ _ 3 _ _ hk2
           have f4_hk2 := frozen_of_row _ _ 4 _ _ hk2
           have f5_hk2 := frozen_of_row _ _ 5 _ _ hk2
           have f6_hk2 := frozen_of_row _ _ 6 _ _ hk2
           have f7_hk2 := frozen_of_row _ _ 7 _ _ hk2
           have f8_hk2 := frozen_of_row _ _ 8 _ _ hk2
           have f9_hk2 := frozen_of_row _ _ 9 _ _ hk2
           simp at r0_hk2 r1_hk2 r2_hk2 r3_hk2 r4_hk2 r5_hk2 r6_hk2 r7_hk2 r8_hk2 r9_hk2
           have r0_ht2 := cell_of_row _ _ 0 _ _ _ ht2
           have r1_ht2 := cell_of_row _ _ 1 _ _ _ ht2
           have r2_ht2 := cell_of_row _ _ 2 _ _ _ ht2
           have f0_ht2 := frozen_of_row _ _ 0 _ _ ht2
           have f1_ht2 := frozen_of_row _ _ 1 _ _ ht2
           have f2_ht2 := frozen_of_row _ _ 2 _ _ ht2
           simp at r0_ht2 r1_ht2 r2_ht2
           have HK2 := Lib.hid hk2
           have HT2 := Lib.hid ht2
           clear hk2 ht2 hO
           have hl2 : w.heap.size + 1 < w2.heap.size := by omega
           have hl2' : w.heap.size < w2.heap.size := by omega
           clear r0_hk f0_hk r1_hk f1_hk r2_hk f2_hk r3_hk f3_hk r4_hk f4_hk r5_hk f5_hk r6_hk f6_hk r7_hk f7_hk r8_hk f8_hk r9_hk f9_hk r0_ht f0_ht r1_ht f1_ht r2_ht f2_ht
           go_wp2_with fail
           refine (HG2.out _ _ (HO.out.alloc _)).mono ?_
           rintro e' w3 ⟨rfl, hb3⟩
           have hz3 := hb3.size
           simp at hz3
           by_cases hx : X2 = ck
           · go_wp2_with fail
             go_ret3
             exact ⟨by rw [hr1.out, if_neg hn1, if_pos (by simp [hx])]; rfl, (by repeat (first | with_reducible exact Below.refl _ _ | with_reducible assumption | with_reducible refine Below.drew ?_ | with_reducible refine Below.alloc ?_ (by first | exact Nat.le_refl _ | omega | (simp; done) | (simp; omega)) _ | with_reducible refine Below.setCell ?_ (by first | exact Nat.le_refl _ | omega | (simp; done) | (simp; omega)) _ | (with_reducible refine ext_trans ?_ (by with_reducible assumption))))⟩
           · go_wp2_with fail
             exact ⟨⟨_, rfl, (.inr (.inr ⟨by omega, hn1, fun h => hx h.2⟩) : _ ∨ _ ∨ _), (hb3.block _ (by simp; omega)).trans ((Below.heap_alloc _ _ _ (by omega)).trans HK2.out), (hb3.block _ (by simp; omega)).trans ((Below.heap_alloc _ _ _ (by omega)).trans HT2.out), (by repeat (first | with_reducible exact Below.refl _ _ | with_reducible assumption | with_reducible refine Below.drew ?_ | with_reducible refine Below.alloc ?_ (by first | exact Nat.le_refl _ | omega | (simp; done) | (simp; omega)) _ | with_reducible refine Below.setCell ?_ (by first | exact Nat.le_refl _ | omega | (simp; done) | (simp; omega)) _ | (with_reducible refine ext_trans ?_ (by with_reducible assumption))))⟩, by simp [intOf]; omega⟩
      · have ht : t = false := by cases t; rfl; exact absurd (HE3.out rfl) h1
        subst ht
        have h12 : ¬ 1 < e := by omega
        go_wp2_with fail
        go_ret3
        exact ⟨by rw [hr1.out, if_neg hn1]; rfl, (by repeat (first | with_reducible exact Below.refl _ _ | with_reducible assumption | with_reducible refine Below.drew ?_ | with_reducible refine Below.alloc ?_ (by first | exact Nat.le_refl _ | omega | (simp; done) | (simp; omega)) _ | with_reducible refine Below.setCell ?_ (by first | exact Nat.le_refl _ | omega | (simp; done) | (simp; omega)) _ | (with_reducible refine ext_trans ?_ (by with_reducible assumption))))⟩
    · clear HZ
      subst z
      have hn3 : (t && decide (X2 = ck)) = false := by cases t <;> simp_all
      have HN3 := Lib.hid hn3
      have HN1 := Lib.hid hn1
      clear hn1 hn2 hn3
      by_cases h12 : 1 < e
      all_goals
        go_wp2_with fail
        go_ret3
        exact ⟨by rw [hr1.out, if_neg HN1.out, HN3.out]; rfl, (by repeat (first | with_reducible exact Below.refl _ _ | with_reducible assumption | with_reducible refine Below.drew ?_ | with_reducible refine Below.alloc ?_ (by first | exact Nat.le_refl _ | omega | (simp; done) | (simp; omega)) _ | with_reducible refine Below.setCell ?_ (by first | exact Nat.le_refl _ | omega | (simp; done) | (simp; omega)) _ | (with_reducible refine ext_trans ?_ (by with_reducible assumption))))⟩

set_option maxHeartbeats 4000000 in
theorem sCheckCookie_any (x : RKeys) (v1 v2 : Value) (a b c seq ck : Int) (f1 : x.now.fits) (f2 : x.bef.fits) (n1 : x.now.rs.length ≤ 1048600) (n2 : x.bef.rs.length ≤ 1048600) (w : World) (h1 : RdMacRow w v1 x.now.rs) (h2 : RdMacRow w v2 x.bef.rs) :
    Calls Try.prog 25 #[vK x v1 v2, .agg #[.int .i64 a, .int .i64 b, .int .i64 c], .int .i64 seq, .int .i64 ck] w fun e w' => e = .returned (vCk (checkR x a b c seq ck)) ∧ Below w.heap.size w w' := by
  obtain ⟨A1, c1, rfl, -⟩ := id h1
  obtain ⟨A2, c2, rfl, -⟩ := id h2
  obtain ⟨e, m1, m2, t⟩ := x
  dsimp only at *
  have H1 := Lib.hid h1
  have H2 := Lib.hid h2
  have F1 := Lib.hid f1
  have F2 := Lib.hid f2
  have N1 := Lib.hid n1
  have N2 := Lib.hid n2
  clear h1 h2 f1 f2 n1 n2
  obtain ⟨B, hB⟩ : ∃ B, RKeys.ok ⟨e, m1, m2, t⟩ = B := ⟨_, rfl⟩
  have HB := Lib.hid hB
  obtain ⟨R, hR⟩ : ∃ R, checkR ⟨e, m1, m2, t⟩ a b c seq ck = R := ⟨_, rfl⟩
  rw [hR]
  have HR := Lib.hid hR
  clear hR
  by_cases hw : wordB ck 32 = true
  case neg =>
    have hw := Bool.eq_false_iff.2 hw
    have hr : R = (0, 0, false) := by rw [← HR.out]; simp [checkR, hw]
    clear hB HR
    subst hr
    go_enter Try.func25, Try.ntmps25
    go_wp2_with (go_at_call 28; refine (sCookieParts_no _ hw _).mono ?_; rintro e' w' ⟨rfl, rfl⟩)
    refine (sKeysOk_any ⟨e, m1, m2, t⟩ _ _ F1.out F2.out _ (H1.out.below (by repeat (first | with_reducible exact Below.refl _ _ | with_reducible assumption | with_reducible refine Below.drew ?_ | with_reducible refine Below.alloc ?_ (by first | exact Nat.le_refl _ | omega | (simp; done) | (simp; omega)) _ | with_reducible refine Below.setCell ?_ (by first | exact Nat.le_refl _ | omega | (simp; done) | (simp; omega)) _ | (with_reducible refine ext_trans ?_ (by with_reducible assumption))))) (H2.out.below (by repeat (first | with_reducible exact Below.refl _ _ | with_reducible assumption | with_reducible refine Below.drew ?_ | with_reducible refine Below.alloc ?_ (by first | exact Nat.le_refl _ | omega | (simp; done) | (simp; omega)) _ | with_reducible refine Below.setCell ?_ (by first | exact Nat.le_refl _ | omega | (simp; done) | (simp; omega)) _ | (with_reducible refine ext_trans ?_ (by with_reducible assumption)))))).mono ?_
    rw [HB.out]
    rintro e' w1 ⟨rfl, hb1⟩
    have hz1 := hb1.size
    (try simp at hz1)
    have hk1 : w1.heap[w.heap.size]? = some (.cells #[.int .i64 e, .bool m1.u, .int .u64 (uI m1.k), .int .u64 (uI m1.l), .slice A1 m1.rs.length c1, .bool m2.u, .int .u64 (uI m2.k), .int .u64 (uI m2.l), .slice A2 m2.rs.length c2, .bool t] 29 (0, 0)) := (hb1.block _ (by first | (simp; done) | (simp; omega))).trans (by repeat (first | exact heap_new _ _ _ (by first | rfl | (simp; done) | (simp; omega)) | refine (Below.heap_alloc _ _ _ (by first | omega | (simp; done) | (simp; omega))).trans ?_))
    have ht1 : w1.heap[w.heap.size + 1]? = some (.cells #[.int .i64 a, .int .i64 b, .int .i64 c] 33 (0, 0)) := (hb1.block _ (by first | (simp; done) | (simp; omega))).trans (by repeat (first | exact heap_new _ _ _ (by first | rfl | (simp; done) | (simp; omega)) | refine (Below.heap_alloc _ _ _ (by first | omega | (simp; done) | (simp; omega))).trans ?_))
    have r0_hk1 := cell_of_row _ _ 0 _ _ _ hk1
    have r1_hk1 := cell_of_row _ _ 1 _ _ _ hk1
    have r2_hk1 := cell_of_row _ _ 2 _ _ _ hk1
    have r3_hk1 := cell_of_row _ _ 3 _ _ _ hk1
    have r4_hk1 := cell_of_row _ _ 4 _ _ _ hk1
    have r5_hk1 := cell_of_row _ _ 5 _ _ _ hk1
    have r6_hk1 := cell_of_row _ _ 6 _ _ _ hk1
    have r7_hk1 := cell_of_row _ _ 7 _ _ _ hk1
    have r8_hk1 := cell_of_row _ _ 8 _ _ _ hk1
    have r9_hk1 := cell_of_row _ _ 9 _ _ _ hk1
    have f0_hk1 := frozen_of_row _ _ 0 _ _ hk1
    have f1_hk1 := frozen_of_row _ _ 1 _ _ hk1
    have f2_hk1 := frozen_of_row _ _ 2 _ _ hk1
    have f3_hk1 := frozen_of_row _ _ 3 _ _ hk1
    have f4_hk1 := frozen_of_row _ _ 4 _ _ hk1
    have f5_hk1 := frozen_of_row _ _ 5 _ _ hk1
    have f6_hk1 := frozen_of_row _ _ 6 _ _ hk1
    have f7_hk1 := frozen_of_row _ _ 7 _ _ hk1
    have f8_hk1 := frozen_of_row _ _ 8 _ _ hk1
    have f9_hk1 := frozen_of_row _ _ 9 _ _ hk1
    simp at r0_hk1 r1_hk1 r2_hk1 r3_hk1 r4_hk1 r5_hk1 r6_hk1 r7_hk1 r8_hk1 r9_hk1
    have HK1 := Lib.hid hk1
    have HT1 := Lib.hid ht1
    clear hk1 ht1
    cases B
    · go_wp2_with fail
      go_ret3
      exact ⟨rfl, (by repeat (first | with_reducible exact Below.refl _ _ | with_reducible assumption | with_reducible refine Below.drew ?_ | with_reducible refine Below.alloc ?_ (by first | exact Nat.le_refl _ | omega | (simp; done) | (simp; omega)) _ | with_reducible refine Below.setCell ?_ (by first | exact Nat.le_refl _ | omega | (simp; done) | (simp; omega)) _ | (with_reducible refine ext_trans ?_ (by with_reducible assumption))))⟩
    · go_wp2_with fail
      go_ret3
      exact ⟨rfl, (by repeat (first | with_reducible exact Below.refl _ _ | with_reducible assumption | with_reducible refine Below.drew ?_ | with_reducible refine Below.alloc ?_ (by first | exact Nat.le_refl _ | omega | (simp; done) | (simp; omega)) _ | with_reducible refine Below.setCell ?_ (by first | exact Nat.le_refl _ | omega | (simp; done) | (simp; omega)) _ | (with_reducible refine ext_trans ?_ (by with_reducible assumption))))⟩
  have hck : 0 ≤ ck ∧ ck ≤ 4294967295 := by have h := hw; rw [wordB32] at h; exact inB_iff.1 h
  obtain ⟨hck1, hck2⟩ := hck
  cases B
  · have hr : R = (0, 0, false) := by rw [← HR.out]; simp [checkR, hB]
    clear hB HR
    subst hr
    go_enter Try.func25, Try.ntmps25
    go_wp2_with (go_at_call 28; refine (sCookieParts_yes _ hw hck1 hck2 _).mono ?_; rintro e' w' ⟨rfl, rfl⟩)
    refine (sKeysOk_any ⟨e, m1, m2, t⟩ _ _ F1.out F2.out _ (H1.out.below (by repeat (first | with_reducible exact Below.refl _ _ | with_reducible assumption | with_reducible refine Below.drew ?_ | with_reducible refine Below.alloc ?_ (by first | exact Nat.le_refl _ | omega | (simp; done) | (simp; omega)) _ | with_reducible refine Below.setCell ?_ (by first | exact Nat.le_refl _ | omega | (simp; done) | (simp; omega)) _ | (with_reducible refine ext_trans ?_ (by with_reducible assumption))))) (H2.out.below (by repeat (first | with_reducible exact Below.refl _ _ | with_reducible assumption | with_reducible refine Below.drew ?_ | with_reducible refine Below.alloc ?_ (by first | exact Nat.le_refl _ | omega | (simp; done) | (simp; omega)) _ | with_reducible refine Below.setCell ?_ (by first | exact Nat.le_refl _ | omega | (simp; done) | (simp; omega)) _ | (with_reducible refine ext_trans ?_ (by with_reducible assumption)))))).mono ?_
    rw [HB.out]
    rintro e' w1 ⟨rfl, hb1⟩
    have hz1 := hb1.size
    (try simp at hz1)
    go_wp2_with fail
    go_ret3
    exact ⟨rfl, (by repeat (first | with_reducible exact Below.refl _ _ | with_reducible assumption | with_reducible refine Below.drew ?_ | with_reducible refine Below.alloc ?_ (by first | exact Nat.le_refl _ | omega | (simp; done) | (simp; omega)) _ | with_reducible refine Below.setCell ?_ (by first | exact Nat.le_refl _ | omega | (simp; done) | (simp; omega)) _ | (with_reducible refine ext_trans ?_ (by with_reducible assumption))))⟩
  obtain ⟨hep1, hep2, hep3⟩ := RKeys.ok_bd hB
  dsimp only at hep1 hep2 hep3
  have HE3 := Lib.hid hep3
  have HWR : Hid (wrap64 (e - 1) = e - 1) := (by (unfold wrap64; omega) : wrap64 (e - 1) = e - 1)
  have hr : Hid (R = if cookieI m1 a b c seq e (ckI ck) = ck then (e, ckI ck, true) else if t && decide (cookieI m2 a b c seq (e - 1) (ckI ck) = ck) then (e - 1, ckI ck, true) else (0, 0, false)) := by
    refine HR.out.symm.trans ?_
    unfold checkR
    rw [hB, hw]
    rfl
  have hI : 0 ≤ ck / 16777216 % 8 ∧ ck / 16777216 % 8 ≤ 7 := by omega
  obtain ⟨hI1, hI2⟩ := hI
  obtain ⟨X1, hX1⟩ : ∃ X, cookieI m1 a b c seq e (ckI ck) = X := ⟨_, rfl⟩
  obtain ⟨X2, hX2⟩ : ∃ X, cookieI m2 a b c seq (e - 1) (ckI ck) = X := ⟨_, rfl⟩
  have hr1 : Hid (R = if X1 = ck then (e, ckI ck, true) else if t && decide (X2 = ck) then (e - 1, ckI ck, true) else (0, 0, false)) := by rw [← hX1, ← hX2]; exact hr.out
  have hg1 := fun W v h => sCookieOf_any m1 v a b c seq e (ckI ck) F1.out W h
  have hg2 := fun W v h => sCookieOf_any m2 v a b c seq (e - 1) (ckI ck) F2.out W h
  rw [hX1] at hg1
  rw [hX2] at hg2
  unfold ckI at hg1 hg2 hr1
  have HG1 := Lib.hid hg1
  have HG2 := Lib.hid hg2
  clear hB HR hg1 hg2 hX1 hX2 hr hep3
  go_enter Try.func25, Try.ntmps25
  go_wp2_with (go_at_call 28; refine (sCookieParts_yes _ hw hck1 hck2 _).mono ?_; rintro e' w' ⟨rfl, rfl⟩)
  refine (sKeysOk_any ⟨e, m1, m2, t⟩ _ _ F1.out F2.out _ (H1.out.below (by repeat (first | with_reducible exact Below.refl _ _ | with_reducible assumption | with_reducible refine Below.drew ?_ | with_reducible refine Below.alloc ?_ (by first | exact Nat.le_refl _ | omega | (simp; done) | (simp; omega)) _ | with_reducible refine Below.setCell ?_ (by first | exact Nat.le_refl _ | omega | (simp; done) | (simp; omega)) _ | (with_reducible refine ext_trans ?_ (by with_reducible assumption))))) (H2.out.below (by repeat (first | with_reducible exact Below.refl _ _ | with_reducible assumption | with_reducible refine Below.drew ?_ | with_reducible refine Below.alloc ?_ (by first | exact Nat.le_refl _ | omega | (simp; done) | (simp; omega)) _ | with_reducible refine Below.setCell ?_ (by first | exact Nat.le_refl _ | omega | (simp; done) | (simp; omega)) _ | (with_reducible refine ext_trans ?_ (by with_reducible assumption)))))).mono ?_
  rw [HB.out]
  rintro e' w1 ⟨rfl, hb1⟩
  have hz1 := hb1.size
  (try simp at hz1)
  have hk1 : w1.heap[w.heap.size]? = some (.cells #[.int .i64 e, .bool m1.u, .int .u64 (uI m1.k), .int .u64 (uI m1.l), .slice A1 m1.rs.length c1, .bool m2.u, .int .u64 (uI m2.k), .int .u64 (uI m2.l), .slice A2 m2.rs.length c2, .bool t] 29 (0, 0)) := (hb1.block _ (by first | (simp; done) | (simp; omega))).trans (by repeat (first | exact heap_new _ _ _ (by first | rfl | (simp; done) | (simp; omega)) | refine (Below.heap_alloc _ _ _ (by first | omega | (simp; done) | (simp; omega))).trans ?_))
  have ht1 : w1.heap[w.heap.size + 1]? = some (.cells #[.int .i64 a, .int .i64 b, .int .i64 c] 33 (0, 0)) := (hb1.block _ (by first | (simp; done) | (simp; omega))).trans (by repeat (first | exact heap_new _ _ _ (by first | rfl | (simp; done) | (simp; omega)) | refine (Below.heap_alloc _ _ _ (by first | omega | (simp; done) | (simp; omega))).trans ?_))
  have r0_hk1 := cell_of_row _ _ 0 _ _ _ hk1
  have r1_hk1 := cell_of_row _ _ 1 _ _ _ hk1
  have r2_hk1 := cell_of_row _ _ 2 _ _ _ hk1
  have r3_hk1 := cell_of_row _ _ 3 _ _ _ hk1
  have r4_hk1 := cell_of_row _ _ 4 _ _ _ hk1
  have r5_hk1 := cell_of_row _ _ 5 _ _ _ hk1
  have r6_hk1 := cell_of_row _ _ 6 _ _ _ hk1
  have r7_hk1 := cell_of_row _ _ 7 _ _ _ hk1
  have r8_hk1 := cell_of_row _ _ 8 _ _ _ hk1
  have r9_hk1 := cell_of_row _ _ 9 _ _ _ hk1
  have f0_hk1 := frozen_of_row _ _ 0 _ _ hk1
  have f1_hk1 := frozen_of_row _ _ 1 _ _ hk1
  have f2_hk1 := frozen_of_row _ _ 2 _ _ hk1
  have f3_hk1 := frozen_of_row _ _ 3 _ _ hk1
  have f4_hk1 := frozen_of_row _ _ 4 _ _ hk1
  have f5_hk1 := frozen_of_row _ _ 5 _ _ hk1
  have f6_hk1 := frozen_of_row _ _ 6 _ _ hk1
  have f7_hk1 := frozen_of_row _ _ 7 _ _ hk1
  have f8_hk1 := frozen_of_row _ _ 8 _ _ hk1
  have f9_hk1 := frozen_of_row _ _ 9 _ _ hk1
  simp at r0_hk1 r1_hk1 r2_hk1 r3_hk1 r4_hk1 r5_hk1 r6_hk1 r7_hk1 r8_hk1 r9_hk1
  have HK1 := Lib.hid hk1
  have HT1 := Lib.hid ht1
  clear hk1 ht1
  go_wp2_with fail
  generalize ck / 16777216 % 8 = I at *
  go_loopw [14] (fun i wr => ∃ z : Int, i = .int .i64 z ∧ Hid (z = e ∨ (z = e - 1 ∧ ¬ X1 = ck) ∨ (z = e - 2 ∧ ¬ X1 = ck ∧ ¬ (t = true ∧ X2 = ck))) ∧ Hid (wr.heap[w.heap.size]? = some (.cells #[.int .i64 e, .bool m1.u, .int .u64 (uI m1.k), .int .u64 (uI m1.l), .slice A1 m1.rs.length c1, .bool m2.u, .int .u64 (uI m2.k), .int .u64 (uI m2.l), .slice A2 m2.rs.length c2, .bool t] 29 (0, 0))) ∧ Hid (wr.heap[w.heap.size + 1]? = some (.cells #[.int .i64 a, .int .i64 b, .int .i64 c] 33 (0, 0))) ∧ Below w.heap.size w wr) (fun i _ => ((intOf i) - (e - 3)).toNat)
  case atStart => exact ⟨e, rfl, .inl rfl, HK1.out, HT1.out, (by repeat (first | with_reducible exact Below.refl _ _ | with_reducible assumption | with_reducible refine Below.drew ?_ | with_reducible refine Below.alloc ?_ (by first | exact Nat.le_refl _ | omega | (simp; done) | (simp; omega)) _ | with_reducible refine Below.setCell ?_ (by first | exact Nat.le_refl _ | omega | (simp; done) | (simp; omega)) _ | (with_reducible refine ext_trans ?_ (by with_reducible assumption))))⟩
  case round =>
    clear HK1 HT1 r0_hk1 r1_hk1 r2_hk1 r3_hk1 r4_hk1 r5_hk1 r6_hk1 r7_hk1 r8_hk1 r9_hk1 f0_hk1 f1_hk1 f2_hk1 f3_hk1 f4_hk1 f5_hk1 f6_hk1 f7_hk1 f8_hk1 f9_hk1
    obtain ⟨z, rfl, hz, hK, hT, hbw⟩ := hrel
    have hk := hK.out
    have ht := hT.out
    have hlK := (Array.getElem?_eq_some_iff.1 ht).1
    have r0_hk := cell_of_row _ _ 0 _ _ _ hk
    have r1_hk := cell_of_row _ _ 1 _ _ _ hk
    have r2_hk := cell_of_row _ _ 2 _ _ _ hk
    have r3_hk := cell_of_row _ _ 3 _ _ _ hk
    have r4_hk := cell_of_row _ _ 4 _ _ _ hk
    have r5_hk := cell_of_row _ _ 5 _ _ _ hk
    have r6_hk := cell_of_row _ _ 6 _ _ _ hk
    have r7_hk := cell_of_row _ _ 7 _ _ _ hk
    have r8_hk := cell_of_row _ _ 8 _ _ _ hk
    have r9_hk := cell_of_row _ _ 9 _ _ _ hk
    have f0_hk := frozen_of_row _ _ 0 _ _ hk
    have f1_hk := frozen_of_row _ _ 1 _ _ hk
    have f2_hk := frozen_of_row _ _ 2 _ _ hk
    have f3_hk := frozen_of_row _ _ 3 _ _ hk
    have f4_hk := frozen_of_row _ _ 4 _ _ hk
    have f5_hk := frozen_of_row _ _ 5 _ _ hk
    have f6_hk := frozen_of_row _ _ 6 _ _ hk
    have f7_hk := frozen_of_row _ _ 7 _ _ hk
    have f8_hk := frozen_of_row _ _ 8 _ _ hk
    have f9_hk := frozen_of_row _ _ 9 _ _ hk
    simp at r0_hk r1_hk r2_hk r3_hk r4_hk r5_hk r6_hk r7_hk r8_hk r9_hk
    have r0_ht := cell_of_row _ _ 0 _ _ _ ht
    have r1_ht := cell_of_row _ _ 1 _ _ _ ht
    have r2_ht := cell_of_row _ _ 2 _ _ _ ht
    have f0_ht := frozen_of_row _ _ 0 _ _ ht
    have f1_ht := frozen_of_row _ _ 1 _ _ ht
    have f2_ht := frozen_of_row _ _ 2 _ _ ht
    simp at r0_ht r1_ht r2_ht
    clear hk ht
    have hbs := hbw.size
    have HZ := Lib.hid hz.out
    clear hz

    rcases HZ.out with hz | ⟨hz, hn1⟩ | ⟨hz, hn1, hn2⟩
    · clear HZ
      subst z
      by_cases h12 : 1 < e
      all_goals
        have HS : Hid (RKeys.secret ⟨e, m1, m2, t⟩ (e) = some m1) := (by simp [RKeys.secret] : RKeys.secret ⟨e, m1, m2, t⟩ e = some m1)
        go_wp2_with fail
        refine (sSecretOf_high ⟨e, m1, m2, t⟩ _ _ (e) N1.out N2.out ⟨by omega, by omega⟩ ⟨by dsimp only; omega, by dsimp only; omega⟩ _ (H1.out.below (by repeat (first | with_reducible exact Below.refl _ _ | with_reducible assumption | with_reducible refine Below.drew ?_ | with_reducible refine Below.alloc ?_ (by first | exact Nat.le_refl _ | omega | (simp; done) | (simp; omega)) _ | with_reducible refine Below.setCell ?_ (by first | exact Nat.le_refl _ | omega | (simp; done) | (simp; omega)) _ | (with_reducible refine ext_trans ?_ (by with_reducible assumption))))) (H2.out.below (by repeat (first | with_reducible exact Below.refl _ _ | with_reducible assumption | with_reducible refine Below.drew ?_ | with_reducible refine Below.alloc ?_ (by first | exact Nat.le_refl _ | omega | (simp; done) | (simp; omega)) _ | with_reducible refine Below.setCell ?_ (by first | exact Nat.le_refl _ | omega | (simp; done) | (simp; omega)) _ | (with_reducible refine ext_trans ?_ (by with_reducible assumption)))))).mono ?_
        rintro e' w2 ⟨m, v3, rfl, hm, hO, hb2⟩
        rw [HS.out] at hm
        obtain rfl : m = m1 := hm
        rw [HS.out]
        obtain ⟨A3, c3, rfl⟩ := hO.form
        have HO := Lib.hid hO.rd
        have hz2 := hb2.size
        have hk2 := (hb2.block _ (by omega)).trans hK.out
        have ht2 := (hb2.block _ (by omega)).trans hT.out
        have r0_hk2 := cell_of_row _ _ 0 _ _ _ hk2
        have r1_hk2 := cell_of_row _ _ 1 _ _ _ hk2
        have r2_hk2 := cell_of_row _ _ 2 _ _ _ hk2
        have r3_hk2 := cell_of_row _ _ 3 _ _ _ hk2
        have r4_hk2 := cell_of_row _ _ 4 _ _ _ hk2
        have r5_hk2 := cell_of_row _ _ 5 _ _ _ hk2
        have r6_hk2 := cell_of_row _ _ 6 _ _ _ hk2
        have r7_hk2 := cell_of_row _ _ 7 _ _ _ hk2
        have r8_hk2 := cell_of_row _ _ 8 _ _ _ hk2
        have r9_hk2 := cell_of_row _ _ 9 _ _ _ hk2
        have f0_hk2 := frozen_of_row _ _ 0 _ _ hk2
        have f1_hk2 := frozen_of_row _ _ 1 _ _ hk2
        have f2_hk2 := frozen_of_row _ _ 2 _ _ hk2
        have f3_hk2 := frozen_of_row _ _ 3 _ _ hk2
        have f4_hk2 := frozen_of_row _ _ 4 _ _ hk2
        have f5_hk2 := frozen_of_row _ _ 5 _ _ hk2
        have f6_hk2 := frozen_of_row _ _ 6 _ _ hk2
        have f7_hk2 := frozen_of_row _ _ 7 _ _ hk2
        have f8_hk2 := frozen_of_row _ _ 8 _ _ hk2
        have f9_hk2 := frozen_of_row _ _ 9 _ _ hk2
        simp at r0_hk2 r1_hk2 r2_hk2 r3_hk2 r4_hk2 r5_hk2 r6_hk2 r7_hk2 r8_hk2 r9_hk2
        have r0_ht2 := cell_of_row _ _ 0 _ _ _ ht2
        have r1_ht2 := cell_of_row _ _ 1 _ _ _ ht2
        have r2_ht2 := cell_of_row _ _ 2 _ _ _ ht2
        have f0_ht2 := frozen_of_row _ _ 0 _ _ ht2
        have f1_ht2 := frozen_of_row _ _ 1 _ _ ht2
        have f2_ht2 := frozen_of_row _ _ 2 _ _ ht2
        simp at r0_ht2 r1_ht2 r2_ht2
        have HK2 := Lib.hid hk2
        have HT2 := Lib.hid ht2
        clear hk2 ht2 hO
        have hl2 : w.heap.size + 1 < w2.heap.size := by omega
        have hl2' : w.heap.size < w2.heap.size := by omega
        clear r0_hk f0_hk r1_hk f1_hk r2_hk f2_hk r3_hk f3_hk r4_hk f4_hk r5_hk f5_hk r6_hk f6_hk r7_hk f7_hk r8_hk f8_hk r9_hk f9_hk r0_ht f0_ht r1_ht f1_ht r2_ht f2_ht
        go_wp2_with fail
        refine (HG1.out _ _ (HO.out.alloc _)).mono ?_
        rintro e' w3 ⟨rfl, hb3⟩
        have hz3 := hb3.size
        simp at hz3
        by_cases hx : X1 = ck
        · go_wp2_with fail
          go_ret3
          exact ⟨by rw [hr1.out, if_pos hx]; rfl, (by repeat (first | with_reducible exact Below.refl _ _ | with_reducible assumption | with_reducible refine Below.drew ?_ | with_reducible refine Below.alloc ?_ (by first | exact Nat.le_refl _ | omega | (simp; done) | (simp; omega)) _ | with_reducible refine Below.setCell ?_ (by first | exact Nat.le_refl _ | omega | (simp; done) | (simp; omega)) _ | (with_reducible refine ext_trans ?_ (by with_reducible assumption))))⟩
        · go_wp2_with fail
          exact ⟨⟨_, rfl, (.inr (.inl ⟨rfl, hx⟩) : _ ∨ _ ∨ _), (hb3.block _ (by simp; omega)).trans ((Below.heap_alloc _ _ _ (by omega)).trans HK2.out), (hb3.block _ (by simp; omega)).trans ((Below.heap_alloc _ _ _ (by omega)).trans HT2.out), (by repeat (first | with_reducible exact Below.refl _ _ | with_reducible assumption | with_reducible refine Below.drew ?_ | with_reducible refine Below.alloc ?_ (by first | exact Nat.le_refl _ | omega | (simp; done) | (simp; omega)) _ | with_reducible refine Below.setCell ?_ (by first | exact Nat.le_refl _ | omega | (simp; done) | (simp; omega)) _ | (with_reducible refine ext_trans ?_ (by with_reducible assumption))))⟩, by simp [intOf]; omega⟩
    · clear HZ
      subst z
      by_cases h1 : 1 ≤ e
      · cases t
        · by_cases h12 : 1 < e
          all_goals
           have HS : Hid (RKeys.secret ⟨e, m1, m2, false⟩ (e - 1) = none) := (by (simp [RKeys.secret]; omega) : RKeys.secret ⟨e, m1, m2, false⟩ (e - 1) = none)
           go_wp2_with fail
           refine (sSecretOf_high ⟨e, m1, m2, false⟩ _ _ (e - 1) N1.out N2.out ⟨by omega, by omega⟩ ⟨by dsimp only; omega, by dsimp only; omega⟩ _ (H1.out.below (by repeat (first | with_reducible exact Below.refl _ _ | with_reducible assumption | with_reducible refine Below.drew ?_ | with_reducible refine Below.alloc ?_ (by first | exact Nat.le_refl _ | omega | (simp; done) | (simp; omega)) _ | with_reducible refine Below.setCell ?_ (by first | exact Nat.le_refl _ | omega | (simp; done) | (simp; omega)) _ | (with_reducible refine ext_trans ?_ (by with_reducible assumption))))) (H2.out.below (by repeat (first | with_reducible exact Below.refl _ _ | with_reducible assumption | with_reducible refine Below.drew ?_ | with_reducible refine Below.alloc ?_ (by first | exact Nat.le_refl _ | omega | (simp; done) | (simp; omega)) _ | with_reducible refine Below.setCell ?_ (by first | exact Nat.le_refl _ | omega | (simp; done) | (simp; omega)) _ | (with_reducible refine ext_trans ?_ (by with_reducible assumption)))))).mono ?_
           rintro e' w2 ⟨m, v3, rfl, hm, hO, hb2⟩
           rw [HS.out]
           obtain ⟨A3, c3, rfl⟩ := hO.form
           have hz2 := hb2.size
           have hk2 := (hb2.block _ (by omega)).trans hK.out
           have ht2 := (hb2.block _ (by omega)).trans hT.out
           have r0_hk2 := cell_of_row _ _ 0 _ _ _ hk2
           have r1_hk2 := cell_of_row _ _ 1 _ _ _ hk2
           have r2_hk2 := cell_of_row _ _ 2 _ _ _ hk2
           have r3_hk2 := cell_of_row _ _ 3 _ _ _ hk2
           have r4_hk2 := cell_of_row _ _ 4 _ _ _ hk2
           have r5_hk2 := cell_of_row _ _ 5 _ _ _ hk2
           have r6_hk2 := cell_of_row _ _ 6 _ _ _ hk2
           have r7_hk2 := cell_of_row _ _ 7 _ _ _ hk2
           have r8_hk2 := cell_of_row _ _ 8 _ _ _ hk2
           have r9_hk2 := cell_of_row _ _ 9 _ _ _ hk2
           have f0_hk2 := frozen_of_row _ _ 0 _ _ hk2
           have f1_hk2 := frozen_of_row _ _ 1 _ _ hk2
           have f2_hk2 := frozen_of_row _ _ 2 _ _ hk2
           have f3_hk2 := frozen_of_row _ _ 3 _ _ hk2
           have f4_hk2 := frozen_of_row _ _ 4 _ _ hk2
           have f5_hk2 := frozen_of_row _ _ 5 _ _ hk2
           have f6_hk2 := frozen_of_row _ _ 6 _ _ hk2
           have f7_hk2 := frozen_of_row _ _ 7 _ _ hk2
           have f8_hk2 := frozen_of_row _ _ 8 _ _ hk2
           have f9_hk2 := frozen_of_row _ _ 9 _ _ hk2
           simp at r0_hk2 r1_hk2 r2_hk2 r3_hk2 r4_hk2 r5_hk2 r6_hk2 r7_hk2 r8_hk2 r9_hk2
           have HK2 := Lib.hid hk2
           have HT2 := Lib.hid ht2
           clear hk2 ht2 hO hm
           clear r0_hk f0_hk r1_hk f1_hk r2_hk f2_hk r3_hk f3_hk r4_hk f4_hk r5_hk f5_hk r6_hk f6_hk r7_hk f7_hk r8_hk f8_hk r9_hk f9_hk r0_ht f0_ht r1_ht f1_ht r2_ht f2_ht
           go_wp2_with fail
           exact ⟨⟨_, rfl, (.inr (.inr ⟨by omega, hn1, fun h => by cases h.1⟩) : _ ∨ _ ∨ _), (Below.heap_alloc _ _ _ (by omega)).trans HK2.out, (Below.heap_alloc _ _ _ (by omega)).trans HT2.out, (by repeat (first | with_reducible exact Below.refl _ _ | with_reducible assumption | with_reducible refine Below.drew ?_ | with_reducible refine Below.alloc ?_ (by first | exact Nat.le_refl _ | omega | (simp; done) | (simp; omega)) _ | with_reducible refine Below.setCell ?_ (by first | exact Nat.le_refl _ | omega | (simp; done) | (simp; omega)) _ | (with_reducible refine ext_trans ?_ (by with_reducible assumption))))⟩, by simp [intOf]; omega⟩
        · by_cases h12 : 1 < e
          all_goals
           have HS : Hid (RKeys.secret ⟨e, m1, m2, true⟩ (e - 1) = some m2) := (by (simp [RKeys.secret, HWR.out]; omega) : RKeys.secret ⟨e, m1, m2, true⟩ (e - 1) = some m2)
           go_wp2_with fail
           refine (sSecretOf_high ⟨e, m1, m2, true⟩ _ _ (e - 1) N1.out N2.out ⟨by omega, by omega⟩ ⟨by dsimp only; omega, by dsimp only; omega⟩ _ (H1.out.below (by repeat (first | with_reducible exact Below.refl _ _ | with_reducible assumption | with_reducible refine Below.drew ?_ | with_reducible refine Below.alloc ?_ (by first | exact Nat.le_refl _ | omega | (simp; done) | (simp; omega)) _ | with_reducible refine Below.setCell ?_ (by first | exact Nat.le_refl _ | omega | (simp; done) | (simp; omega)) _ | (with_reducible refine ext_trans ?_ (by with_reducible assumption))))) (H2.out.below (by repeat (first | with_reducible exact Below.refl _ _ | with_reducible assumption | with_reducible refine Below.drew ?_ | with_reducible refine Below.alloc ?_ (by first | exact Nat.le_refl _ | omega | (simp; done) | (simp; omega)) _ | with_reducible refine Below.setCell ?_ (by first | exact Nat.le_refl _ | omega | (simp; done) | (simp; omega)) _ | (with_reducible refine ext_trans ?_ (by with_reducible assumption)))))).mono ?_
           rintro e' w2 ⟨m, v3, rfl, hm, hO, hb2⟩
           rw [HS.out] at hm
           obtain rfl : m = m2 := hm
           rw [HS.out]
           obtain ⟨A3, c3, rfl⟩ := hO.form
           have HO := Lib.hid hO.rd
           have hz2 := hb2.size
           have hk2 := (hb2.block _ (by omega)).trans hK.out
           have ht2 := (hb2.block _ (by omega)).trans hT.out
           have r0_hk2 := cell_of_row _ _ 0 _ _ _ hk2
           have r1_hk2 := cell_of_row _ _ 1 _ _ _ hk2
           have r2_hk2 := cell_of_row _ _ 2 _ _ _ hk2
           have r3_hk2 := cell_of_row _ _ 3 _ _ _ hk2
           have r4_hk2 := cell_of_row _ _ 4 _ _ _ hk2
           have r5_hk2 := cell_of_row _ _ 5 _ _ _ hk2
           have r6_hk2 := cell_of_row _ _ 6 _ _ _ hk2
           have r7_hk2 := cell_of_row _ _ 7 _ _ _ hk2
           have r8_hk2 := cell_of_row _ _ 8 _ _ _ hk2
           have r9_hk2 := cell_of_row _ _ 9 _ _ _ hk2
           have f0_hk2 := frozen_of_row _ _ 0 _ _ hk2
           have f1_hk2 := frozen_of_row _ _ 1 _ _ hk2
           have f2_hk2 := frozen_of_row _ _ 2 _ _ hk2
           have f3_hk2 := frozen_of_row _ _ 3 _ _ hk2
           have f4_hk2 := frozen_of_row _ _ 4 _ _ hk2
           have f5_hk2 := frozen_of_row _ _ 5 _ _ hk2
           have f6_hk2 := frozen_of_row _ _ 6 _ _ hk2
           have f7_hk2 := frozen_of_row _ _ 7 _ _ hk2
           have f8_hk2 := frozen_of_row _ _ 8 _ _ hk2
           have f9_hk2 := frozen_of_row _ _ 9 _ _ hk2
           simp at r0_hk2 r1_hk2 r2_hk2 r3_hk2 r4_hk2 r5_hk2 r6_hk2 r7_hk2 r8_hk2 r9_hk2
           have r0_ht2 := cell_of_row _ _ 0 _ _ _ ht2
           have r1_ht2 := cell_of_row _ _ 1 _ _ _ ht2
           have r2_ht2 := cell_of_row _ _ 2 _ _ _ ht2
           have f0_ht2 := frozen_of_row _ _ 0 _ _ ht2
           have f1_ht2 := frozen_of_row _ _ 1 _ _ ht2
           have f2_ht2 := frozen_of_row _ _ 2 _ _ ht2
           simp at r0_ht2 r1_ht2 r2_ht2
           have HK2 := Lib.hid hk2
           have HT2 := Lib.hid ht2
           clear hk2 ht2 hO
           have hl2 : w.heap.size + 1 < w2.heap.size := by omega
           have hl2' : w.heap.size < w2.heap.size := by omega
           clear r0_hk f0_hk r1_hk f1_hk r2_hk f2_hk r3_hk f3_hk r4_hk f4_hk r5_hk f5_hk r6_hk f6_hk r7_hk f7_hk r8_hk f8_hk r9_hk f9_hk r0_ht f0_ht r1_ht f1_ht r2_ht f2_ht
           go_wp2_with fail
           refine (HG2.out _ _ (HO.out.alloc _)).mono ?_
           rintro e' w3 ⟨rfl, hb3⟩
           have hz3 := hb3.size
           simp at hz3
           by_cases hx : X2 = ck
           · go_wp2_with fail
             go_ret3
             exact ⟨by rw [hr1.out, if_neg hn1, if_pos (by simp [hx])]; rfl, (by repeat (first | with_reducible exact Below.refl _ _ | with_reducible assumption | with_reducible refine Below.drew ?_ | with_reducible refine Below.alloc ?_ (by first | exact Nat.le_refl _ | omega | (simp; done) | (simp; omega)) _ | with_reducible refine Below.setCell ?_ (by first | exact Nat.le_refl _ | omega | (simp; done) | (simp; omega)) _ | (with_reducible refine ext_trans ?_ (by with_reducible assumption))))⟩
           · go_wp2_with fail
             exact ⟨⟨_, rfl, (.inr (.inr ⟨by omega, hn1, fun h => hx h.2⟩) : _ ∨ _ ∨ _), (hb3.block _ (by simp; omega)).trans ((Below.heap_alloc _ _ _ (by omega)).trans HK2.out), (hb3.block _ (by simp; omega)).trans ((Below.heap_alloc _ _ _ (by omega)).trans HT2.out), (by repeat (first | with_reducible exact Below.refl _ _ | with_reducible assumption | with_reducible refine Below.drew ?_ | with_reducible refine Below.alloc ?_ (by first | exact Nat.le_refl _ | omega | (simp; done) | (simp; omega)) _ | with_reducible refine Below.setCell ?_ (by first | exact Nat.le_refl _ | omega | (simp; done) | (simp; omega)) _ | (with_reducible refine ext_trans ?_ (by with_reducible assumption))))⟩, by simp [intOf]; omega⟩
      · have ht : t = false := by cases t; rfl; exact absurd (HE3.out rfl) h1
        subst ht
        have h12 : ¬ 1 < e := by omega
        go_wp2_with fail
        go_ret3
        exact ⟨by rw [hr1.out, if_neg hn1]; rfl, (by repeat (first | with_reducible exact Below.refl _ _ | with_reducible assumption | with_reducible refine Below.drew ?_ | with_reducible refine Below.alloc ?_ (by first | exact Nat.le_refl _ | omega | (simp; done) | (simp; omega)) _ | with_reducible refine Below.setCell ?_ (by first | exact Nat.le_refl _ | omega | (simp; done) | (simp; omega)) _ | (with_reducible refine ext_trans ?_ (by with_reducible assumption))))⟩
    · clear HZ
      subst z
      have hn3 : (t && decide (X2 = ck)) = false := by cases t <;> simp_all
      have HN3 := Lib.hid hn3
      have HN1 := Lib.hid hn1
      clear hn1 hn2 hn3
      by_cases h12 : 1 < e
      all_goals
        go_wp2_with fail
        go_ret3
        exact ⟨by rw [hr1.out, if_neg HN1.out, HN3.out]; rfl, (by repeat (first | with_reducible exact Below.refl _ _ | with_reducible assumption | with_reducible refine Below.drew ?_ | with_reducible refine Below.alloc ?_ (by first | exact Nat.le_refl _ | omega | (simp; done) | (simp; omega)) _ | with_reducible refine Below.setCell ?_ (by first | exact Nat.le_refl _ | omega | (simp; done) | (simp; omega)) _ | (with_reducible refine ext_trans ?_ (by with_reducible assumption))))⟩

end Go.Proofs.Ytjlnbjabehpncaa
