/-
  Contracts of CookieOf and SecretOf, the program's and the reference's.
-/
import Derived.Test.YtjlnbjabehpncaaKcp
import Derived.Test.YtjlnbjabehpncaaMac
import Derived.Test.YtjlnbjabehpncaaDraw
namespace Go.Proofs.Ytjlnbjabehpncaa
set_option maxRecDepth 100000
open Go.RowKit
def cookieI (m : RMac) (a b c seq ep i : Int) : Int := if macOk a b c seq ep i then ep % 32 * 134217728 + i * 16777216 + macOf m.u m.k m.l m.rs (macS a b c seq ep i) else -1
theorem macS_size {a b c seq ep i : Int} (h : macOk a b c seq ep i = true) : (macS a b c seq ep i).size = 17 := by
  unfold macS
  rw [if_pos h]
  show (macIn a b c seq ep i).toArray.size = 17
  simp [macIn, be_len]
theorem macS_none {a b c seq ep i : Int} (h : macOk a b c seq ep i = false) : macS a b c seq ep i = ⟨#[]⟩ := by
  unfold macS
  rw [if_neg (by simp [h])]
theorem macOf_bd (u : Bool) (k l : BitVec 64) (rs : List RMacRow) (s : ByteArray) : 0 ≤ macOf u k l rs s ∧ macOf u k l rs s < 16777216 := by
  unfold macOf
  split
  · exact macRow_bd rs s
  · omega
theorem macOk_bd {a b c seq ep i : Int} (h : macOk a b c seq ep i = true) : (0 ≤ ep ∧ ep ≤ 4294967295) ∧ (0 ≤ i ∧ i ≤ 7) := by
  simp only [macOk, Bool.and_eq_true] at h
  obtain ⟨_, _, he, hi⟩ := h
  rw [wordB32] at he
  exact ⟨inB_iff.1 he, inB_iff.1 hi⟩

theorem szMc_any (x : RMac) (v : Value) (f : FitMacRow x.rs) (n : x.rs.length ≤ maxLen) (left : Int) (g1 : 0 ≤ left) (g2 : left ≤ 1048576) (w : World) (h : RdMacRow w v x.rs) :
    Calls Try.prog 38 #[vMc x v, .int .i64 left] w (SzMacRow x.rs left w) := szMac_any _ _ _ v x.rs f n left g1 g2 w h
theorem toMc_any (x : RMac) (v : Value) (n : x.rs.length ≤ 1048576) (w : World) (h : RdMacRow w v x.rs) :
    Calls Try.prog 39 #[vMc x v] w (NewMac x.u (uI x.k) (uI x.l) x.rs w) := toMac_any _ _ _ v x.rs n w h
theorem eqMc_same (x : RMac) (v1 v2 : Value) (n : x.rs.length ≤ maxLen) (w : World) (h1 : RdMacRow w v1 x.rs) (h2 : RdMacRow w v2 x.rs) :
    Calls Try.prog 34 #[vMc x v1, vMc x v2] w fun e w' => e = .returned (.bool true) ∧ Below w.heap.size w w' := eqMac_same _ _ _ v1 v2 x.rs n w h1 h2
theorem markMc_any (x : RMac) (v : Value) (n : x.rs.length ≤ 1048576) (q : Nat) (hk1 : 1 ≤ q) (hk2 : q ≤ 100000000) (base : Nat) (w : World) (h : OwnMacRow w base v x.rs) :
    Calls Try.prog 36 #[vMc x v, .int .i64 q] w (MarkedMacRow v x.rs.length q base w) := markMac_any _ _ _ v x.rs n q hk1 hk2 base w h
theorem heldMc_any (x : RMac) (v : Value) (n : Nat) (hn : n ≤ 1048576) (q : Nat) (hk1 : 1 ≤ q) (hk2 : q ≤ 100000000) (w : World) (h : Rd w w.heap.size v n (cellsOf eMacRow (marksMacRow n q))) :
    Calls Try.prog 37 #[vMc x v, .int .i64 q] w fun e w' => e = .returned (.int .i64 ((q + 2 * n : Nat) : Int)) ∧ Below w.heap.size w w' := heldMac_any _ _ _ v n hn q hk1 hk2 w h

theorem CookieOf_any (m : RMac) (v : Value) (a b c seq ep i : Int) (hf : m.fits) (w : World) (h : RdMacRow w v m.rs) :
    Calls Try.prog 19 #[vMc m v, .agg #[.int .i64 a, .int .i64 b, .int .i64 c], .int .i64 seq, .int .i64 ep, .int .i64 i] w fun e w' => e = .returned (.int .i64 (cookieI m a b c seq ep i)) ∧ Below w.heap.size w w' := by
  obtain ⟨A, cc, rfl, -⟩ := id h
  have HH := Lib.hid h
  have HF := Lib.hid hf
  clear h hf
  by_cases hok : macOk a b c seq ep i = true
  · have hsz := macS_size hok
    obtain ⟨⟨he1, he2⟩, hi1, hi2⟩ := macOk_bd hok
    have hc := fun W => MacInput_any a b c seq ep i W
    have hr : cookieI m a b c seq ep i = ep % 32 * 134217728 + i * 16777216 + macOf m.u m.k m.l m.rs (macS a b c seq ep i) := if_pos hok
    rw [hr]
    generalize macS a b c seq ep i = S at *
    obtain ⟨hx1, hx2⟩ := macOf_bd m.u m.k m.l m.rs S
    have hm := fun W h => MacOf_any m.u m.k m.l (.slice A m.rs.length cc) m.rs S (by omega) HF.out.1 W h HF.out.2
    generalize macOf m.u m.k m.l m.rs S = X at *
    have HC := Lib.hid hc
    have HM := Lib.hid hm
    have hs1 := bs_ne_nil (X := S) (by omega)
    have hs2 := bs_isEmpty (X := S) (by omega)
    clear hc hm hr hok
    go_enter Try.func19, Try.ntmps19
    go_wp2_with fail
    refine (HC.out _).mono ?_
    rintro e w1 ⟨rfl, hb1⟩
    have hz1 := hb1.size
    simp at hz1
    have ha : w1.heap[w.heap.size]? = some (.cells #[.bool m.u, .int .u64 (uI m.k), .int .u64 (uI m.l), .slice A m.rs.length cc] 27 (0, 0)) := (hb1.block _ (by first | (simp; done) | (simp; omega))).trans (by repeat (first | exact heap_new _ _ _ (by first | rfl | (simp; done) | (simp; omega)) | refine (Below.heap_alloc _ _ _ (by first | omega | (simp; done) | (simp; omega))).trans ?_))
    have r0_ha := cell_of_row _ _ 0 _ _ _ ha
    have r1_ha := cell_of_row _ _ 1 _ _ _ ha
    have r2_ha := cell_of_row _ _ 2 _ _ _ ha
    have r3_ha := cell_of_row _ _ 3 _ _ _ ha
    have f0_ha := frozen_of_row _ _ 0 _ _ ha
    have f1_ha := frozen_of_row _ _ 1 _ _ ha
    have f2_ha := frozen_of_row _ _ 2 _ _ ha
    have f3_ha := frozen_of_row _ _ 3 _ _ ha
    simp at r0_ha r1_ha r2_ha r3_ha
    clear ha
    go_wp2_with fail
    refine (HM.out _ (HH.out.below (by repeat (first | with_reducible exact Below.refl _ _ | with_reducible assumption | with_reducible refine Below.drew ?_ | with_reducible refine Below.alloc ?_ (by first | exact Nat.le_refl _ | omega | (simp; done) | (simp; omega)) _ | with_reducible refine Below.setCell ?_ (by first | exact Nat.le_refl _ | omega | (simp; done) | (simp; omega)) _ | (with_reducible refine ext_trans ?_ (by with_reducible assumption)))))).mono ?_
    rintro e w2 ⟨rfl, hb2⟩
    go_wp2_with fail
    go_ret
    exact ⟨rfl, (by repeat (first | with_reducible exact Below.refl _ _ | with_reducible assumption | with_reducible refine Below.drew ?_ | with_reducible refine Below.alloc ?_ (by first | exact Nat.le_refl _ | omega | (simp; done) | (simp; omega)) _ | with_reducible refine Below.setCell ?_ (by first | exact Nat.le_refl _ | omega | (simp; done) | (simp; omega)) _ | (with_reducible refine ext_trans ?_ (by with_reducible assumption))))⟩
  · have hok := Bool.eq_false_iff.2 hok
    have hc := fun W => MacInput_any a b c seq ep i W
    rw [macS_none hok] at hc
    have hr : cookieI m a b c seq ep i = -1 := by
      unfold cookieI
      rw [hok]
      rfl
    rw [hr]
    have HC := Lib.hid hc
    clear hc hr hok
    go_enter Try.func19, Try.ntmps19
    go_wp2_with fail
    refine (HC.out _).mono ?_
    rintro e w1 ⟨rfl, hb1⟩
    go_wp2_with fail
    go_ret
    exact ⟨rfl, (by repeat (first | with_reducible exact Below.refl _ _ | with_reducible assumption | with_reducible refine Below.drew ?_ | with_reducible refine Below.alloc ?_ (by first | exact Nat.le_refl _ | omega | (simp; done) | (simp; omega)) _ | with_reducible refine Below.setCell ?_ (by first | exact Nat.le_refl _ | omega | (simp; done) | (simp; omega)) _ | (with_reducible refine ext_trans ?_ (by with_reducible assumption))))⟩

theorem sCookieOf_any (m : RMac) (v : Value) (a b c seq ep i : Int) (hf : m.fits) (w : World) (h : RdMacRow w v m.rs) :
    Calls Try.prog 27 #[vMc m v, .agg #[.int .i64 a, .int .i64 b, .int .i64 c], .int .i64 seq, .int .i64 ep, .int .i64 i] w fun e w' => e = .returned (.int .i64 (cookieI m a b c seq ep i)) ∧ Below w.heap.size w w' := by
  obtain ⟨A, cc, rfl, -⟩ := id h
  have HH := Lib.hid h
  have HF := Lib.hid hf
  clear h hf
  by_cases hok : macOk a b c seq ep i = true
  · have hsz := macS_size hok
    obtain ⟨⟨he1, he2⟩, hi1, hi2⟩ := macOk_bd hok
    have hc := fun W => sMacInput_any a b c seq ep i W
    have hr : cookieI m a b c seq ep i = ep % 32 * 134217728 + i * 16777216 + macOf m.u m.k m.l m.rs (macS a b c seq ep i) := if_pos hok
    rw [hr]
    generalize macS a b c seq ep i = S at *
    obtain ⟨hx1, hx2⟩ := macOf_bd m.u m.k m.l m.rs S
    have hm := fun W h => sMacOf_any m.u m.k m.l (.slice A m.rs.length cc) m.rs S (by omega) HF.out.1 W h HF.out.2
    generalize macOf m.u m.k m.l m.rs S = X at *
    have HC := Lib.hid hc
    have HM := Lib.hid hm
    have hs1 := bs_ne_nil (X := S) (by omega)
    have hs2 := bs_isEmpty (X := S) (by omega)
    clear hc hm hr hok
    go_enter Try.func27, Try.ntmps27
    go_wp2_with fail
    refine (HC.out _).mono ?_
    rintro e w1 ⟨rfl, hb1⟩
    have hz1 := hb1.size
    simp at hz1
    have ha : w1.heap[w.heap.size]? = some (.cells #[.bool m.u, .int .u64 (uI m.k), .int .u64 (uI m.l), .slice A m.rs.length cc] 27 (0, 0)) := (hb1.block _ (by first | (simp; done) | (simp; omega))).trans (by repeat (first | exact heap_new _ _ _ (by first | rfl | (simp; done) | (simp; omega)) | refine (Below.heap_alloc _ _ _ (by first | omega | (simp; done) | (simp; omega))).trans ?_))
    have r0_ha := cell_of_row _ _ 0 _ _ _ ha
    have r1_ha := cell_of_row _ _ 1 _ _ _ ha
    have r2_ha := cell_of_row _ _ 2 _ _ _ ha
    have r3_ha := cell_of_row _ _ 3 _ _ _ ha
    have f0_ha := frozen_of_row _ _ 0 _ _ ha
    have f1_ha := frozen_of_row _ _ 1 _ _ ha
    have f2_ha := frozen_of_row _ _ 2 _ _ ha
    have f3_ha := frozen_of_row _ _ 3 _ _ ha
    simp at r0_ha r1_ha r2_ha r3_ha
    clear ha
    go_wp2_with fail
    refine (HM.out _ (HH.out.below (by repeat (first | with_reducible exact Below.refl _ _ | with_reducible assumption | with_reducible refine Below.drew ?_ | with_reducible refine Below.alloc ?_ (by first | exact Nat.le_refl _ | omega | (simp; done) | (simp; omega)) _ | with_reducible refine Below.setCell ?_ (by first | exact Nat.le_refl _ | omega | (simp; done) | (simp; omega)) _ | (with_reducible refine ext_trans ?_ (by with_reducible assumption)))))).mono ?_
    rintro e w2 ⟨rfl, hb2⟩
    go_wp2_with fail
    go_ret
    exact ⟨rfl, (by repeat (first | with_reducible exact Below.refl _ _ | with_reducible assumption | with_reducible refine Below.drew ?_ | with_reducible refine Below.alloc ?_ (by first | exact Nat.le_refl _ | omega | (simp; done) | (simp; omega)) _ | with_reducible refine Below.setCell ?_ (by first | exact Nat.le_refl _ | omega | (simp; done) | (simp; omega)) _ | (with_reducible refine ext_trans ?_ (by with_reducible assumption))))⟩
  · have hok := Bool.eq_false_iff.2 hok
    have hc := fun W => sMacInput_any a b c seq ep i W
    rw [macS_none hok] at hc
    have hr : cookieI m a b c seq ep i = -1 := by
      unfold cookieI
      rw [hok]
      rfl
    rw [hr]
    have HC := Lib.hid hc
    clear hc hr hok
    go_enter Try.func27, Try.ntmps27
    go_wp2_with fail
    refine (HC.out _).mono ?_
    rintro e w1 ⟨rfl, hb1⟩
    go_wp2_with fail
    go_ret
    exact ⟨rfl, (by repeat (first | with_reducible exact Below.refl _ _ | with_reducible assumption | with_reducible refine Below.drew ?_ | with_reducible refine Below.alloc ?_ (by first | exact Nat.le_refl _ | omega | (simp; done) | (simp; omega)) _ | with_reducible refine Below.setCell ?_ (by first | exact Nat.le_refl _ | omega | (simp; done) | (simp; omega)) _ | (with_reducible refine ext_trans ?_ (by with_reducible assumption))))⟩

/-- The secret of an epoch. -/
def RKeys.secret (x : RKeys) (ep : Int) : Option RMac := if ep = x.ep then some x.now else if x.two && decide (ep = wrap64 (x.ep - 1)) then some x.bef else none
/-- A secret handed out: a copy of the Mac, or none. -/
def GotSecret (x : RKeys) (ep : Int) (W : World) (e : Ending) (w' : World) : Prop :=
  ∃ m v, e = .returned (.tuple #[vM m.u (uI m.k) (uI m.l) v, .bool (x.secret ep).isSome]) ∧ m = (x.secret ep).getD ⟨false, 0, 0, []⟩ ∧ OwnMacRow w' W.heap.size v m.rs ∧ Below W.heap.size W w'

theorem secret_len {x : RKeys} {ep : Int} {n : Nat} (h1 : x.now.rs.length ≤ n) (h2 : x.bef.rs.length ≤ n) : ((x.secret ep).getD ⟨false, 0, 0, []⟩).rs.length ≤ n := by
  unfold RKeys.secret
  split
  · exact h1
  · split
    · exact h2
    · exact Nat.zero_le _

set_option maxHeartbeats 2000000 in
theorem SecretOf_high (x : RKeys) (v1 v2 : Value) (ep : Int) (n1 : x.now.rs.length ≤ 1048600) (n2 : x.bef.rs.length ≤ 1048600) (hep : -9223372036854775808 ≤ ep ∧ ep ≤ 9223372036854775807) (hx : -9223372036854775808 ≤ x.ep - 1 ∧ x.ep ≤ 9223372036854775807) (w : World) (h1 : RdMacRow w v1 x.now.rs) (h2 : RdMacRow w v2 x.bef.rs) :
    Calls Try.prog 26 #[vK x v1 v2, .int .i64 ep] w (GotSecret x ep w) := by
  obtain ⟨A1, c1, rfl, -⟩ := id h1
  obtain ⟨A2, c2, rfl, -⟩ := id h2
  obtain ⟨e, m1, m2, t⟩ := x
  dsimp only at *
  obtain ⟨hx1, hx2⟩ := hx
  obtain ⟨hp1, hp2⟩ := hep
  have H1 := Lib.hid h1
  have H2 := Lib.hid h2
  have N1 := Lib.hid n1
  have N2 := Lib.hid n2
  clear h1 h2 n1 n2
  have hwr : Hid (wrap64 (e - 1) = e - 1) := (by (unfold wrap64; omega) : wrap64 (e - 1) = e - 1)
  by_cases h1 : ep = e
  · subst h1
    have hs : RKeys.secret ⟨ep, m1, m2, t⟩ ep = some m1 := by simp [RKeys.secret]
    have HS := Lib.hid hs
    clear hs
    go_enter Try.func26, Try.ntmps26
    go_wp2_with fail
    refine (cloneMac_any m1 _ N1.out _ (H1.out.below (by repeat (first | with_reducible exact Below.refl _ _ | with_reducible assumption | with_reducible refine Below.drew ?_ | with_reducible refine Below.alloc ?_ (by first | exact Nat.le_refl _ | omega | (simp; done) | (simp; omega)) _ | with_reducible refine Below.setCell ?_ (by first | exact Nat.le_refl _ | omega | (simp; done) | (simp; omega)) _ | (with_reducible refine ext_trans ?_ (by with_reducible assumption)))))).mono ?_
    rintro e w1 ⟨v3, rfl, hO, hb1⟩
    obtain ⟨A3, c3, rfl⟩ := hO.form
    have hz1 := hb1.size
    simp at hz1
    have hr : w1.heap[w.heap.size + 1]? = some (.cells #[.bool false, .int .u64 0, .int .u64 0, .slice none 0 0] 27 (0, 0)) := (hb1.block _ (by first | (simp; done) | (simp; omega))).trans (by repeat (first | exact heap_new _ _ _ (by first | rfl | (simp; done) | (simp; omega)) | refine (Below.heap_alloc _ _ _ (by first | omega | (simp; done) | (simp; omega))).trans ?_))
    have HO : Hid (OwnMacRow w1 (w.heap.size + 2) (.slice A3 m1.rs.length c3) m1.rs) := hO.mono (by simp)
    have hl := (Array.getElem?_eq_some_iff.1 hr).1
    clear hO
    have r0_hr := cell_of_row _ _ 0 _ _ _ hr
    have r1_hr := cell_of_row _ _ 1 _ _ _ hr
    have r2_hr := cell_of_row _ _ 2 _ _ _ hr
    have r3_hr := cell_of_row _ _ 3 _ _ _ hr
    have f0_hr := frozen_of_row _ _ 0 _ _ hr
    have f1_hr := frozen_of_row _ _ 1 _ _ hr
    have f2_hr := frozen_of_row _ _ 2 _ _ hr
    have f3_hr := frozen_of_row _ _ 3 _ _ hr
    simp at r0_hr r1_hr r2_hr r3_hr
    go_wp2_with fail
    apply bodyPost_ret (results_row_tmp1 (P := Try.prog) (fn := Try.f26) rfl _ _ _ 27 _ (0, 0) _ rfl _ Try.underlying27 rfl _) rfl
    rotate_left 2
    · repeat (first | (with_reducible apply heap_setCell_same) | (with_reducible apply drew_row) | (with_reducible apply drewN_row) | (with_reducible exact hr) | (with_reducible refine (heap_setCell_other _ _ _ _ (by first | omega | (simp; done) | (simp; omega))).trans ?_) | (with_reducible refine (Below.heap_alloc _ _ _ (by first | omega | (simp; done) | (simp; omega))).trans ?_))
    · kernel_rfl
    exact ⟨m1, _, by rw [HS.out]; simp; rfl, by rw [HS.out]; rfl, OwnE.mono (base := w.heap.size + 2) (by repeat (first | with_reducible exact HO.out | (with_reducible refine OwnE.setBelow ?_ (by first | (simp; done) | (simp; omega)) _) | with_reducible refine OwnE.alloc ?_ _ | with_reducible refine OwnE.drew ?_)) (by omega), (by repeat (first | with_reducible exact Below.refl _ _ | with_reducible assumption | with_reducible refine Below.drew ?_ | with_reducible refine Below.alloc ?_ (by first | exact Nat.le_refl _ | omega | (simp; done) | (simp; omega)) _ | with_reducible refine Below.setCell ?_ (by first | exact Nat.le_refl _ | omega | (simp; done) | (simp; omega)) _ | (with_reducible refine ext_trans ?_ (by with_reducible assumption))))⟩
  · by_cases h2 : t = true
    · subst h2
      by_cases h3 : ep = e - 1
      · subst h3
        have hs : RKeys.secret ⟨e, m1, m2, true⟩ (e - 1) = some m2 := by simp [RKeys.secret, hwr.out, h1]
        have HS := Lib.hid hs
        clear hs
        go_enter Try.func26, Try.ntmps26
        go_wp2_with fail
        refine (cloneMac_any m2 _ N2.out _ (H2.out.below (by repeat (first | with_reducible exact Below.refl _ _ | with_reducible assumption | with_reducible refine Below.drew ?_ | with_reducible refine Below.alloc ?_ (by first | exact Nat.le_refl _ | omega | (simp; done) | (simp; omega)) _ | with_reducible refine Below.setCell ?_ (by first | exact Nat.le_refl _ | omega | (simp; done) | (simp; omega)) _ | (with_reducible refine ext_trans ?_ (by with_reducible assumption)))))).mono ?_
        rintro e w1 ⟨v3, rfl, hO, hb1⟩
        obtain ⟨A3, c3, rfl⟩ := hO.form
        have hz1 := hb1.size
        simp at hz1
        have hr : w1.heap[w.heap.size + 1]? = some (.cells #[.bool false, .int .u64 0, .int .u64 0, .slice none 0 0] 27 (0, 0)) := (hb1.block _ (by first | (simp; done) | (simp; omega))).trans (by repeat (first | exact heap_new _ _ _ (by first | rfl | (simp; done) | (simp; omega)) | refine (Below.heap_alloc _ _ _ (by first | omega | (simp; done) | (simp; omega))).trans ?_))
        have HO : Hid (OwnMacRow w1 (w.heap.size + 2) (.slice A3 m2.rs.length c3) m2.rs) := hO.mono (by simp)
        have hl := (Array.getElem?_eq_some_iff.1 hr).1
        clear hO
        have r0_hr := cell_of_row _ _ 0 _ _ _ hr
        have r1_hr := cell_of_row _ _ 1 _ _ _ hr
        have r2_hr := cell_of_row _ _ 2 _ _ _ hr
        have r3_hr := cell_of_row _ _ 3 _ _ _ hr
        have f0_hr := frozen_of_row _ _ 0 _ _ hr
        have f1_hr := frozen_of_row _ _ 1 _ _ hr
        have f2_hr := frozen_of_row _ _ 2 _ _ hr
        have f3_hr := frozen_of_row _ _ 3 _ _ hr
        simp at r0_hr r1_hr r2_hr r3_hr
        go_wp2_with fail
        apply bodyPost_ret (results_row_tmp1 (P := Try.prog) (fn := Try.f26) rfl _ _ _ 27 _ (0, 0) _ rfl _ Try.underlying27 rfl _) rfl
        rotate_left 2
        · repeat (first | (with_reducible apply heap_setCell_same) | (with_reducible apply drew_row) | (with_reducible apply drewN_row) | (with_reducible exact hr) | (with_reducible refine (heap_setCell_other _ _ _ _ (by first | omega | (simp; done) | (simp; omega))).trans ?_) | (with_reducible refine (Below.heap_alloc _ _ _ (by first | omega | (simp; done) | (simp; omega))).trans ?_))
        · kernel_rfl
        exact ⟨m2, _, by rw [HS.out]; simp; rfl, by rw [HS.out]; rfl, OwnE.mono (base := w.heap.size + 2) (by repeat (first | with_reducible exact HO.out | (with_reducible refine OwnE.setBelow ?_ (by first | (simp; done) | (simp; omega)) _) | with_reducible refine OwnE.alloc ?_ _ | with_reducible refine OwnE.drew ?_)) (by omega), (by repeat (first | with_reducible exact Below.refl _ _ | with_reducible assumption | with_reducible refine Below.drew ?_ | with_reducible refine Below.alloc ?_ (by first | exact Nat.le_refl _ | omega | (simp; done) | (simp; omega)) _ | with_reducible refine Below.setCell ?_ (by first | exact Nat.le_refl _ | omega | (simp; done) | (simp; omega)) _ | (with_reducible refine ext_trans ?_ (by with_reducible assumption))))⟩
      · have hs : RKeys.secret ⟨e, m1, m2, true⟩ ep = none := by simp [RKeys.secret, hwr.out, h1, h3]
        have HS := Lib.hid hs
        clear hs
        go_enter Try.func26, Try.ntmps26
        go_wp2_with fail
        have hr : ((w.alloc (.cells #[.int .i64 e, .bool m1.u, .int .u64 (uI m1.k), .int .u64 (uI m1.l), .slice A1 m1.rs.length c1, .bool m2.u, .int .u64 (uI m2.k), .int .u64 (uI m2.l), .slice A2 m2.rs.length c2, .bool true] 29)).alloc (.cells #[.bool false, .int .u64 0, .int .u64 0, .slice none 0 0] 27)).heap[w.heap.size + 1]? = some (.cells #[.bool false, .int .u64 0, .int .u64 0, .slice none 0 0] 27 (0, 0)) := (by repeat (first | exact heap_new _ _ _ (by first | rfl | (simp; done) | (simp; omega)) | refine (Below.heap_alloc _ _ _ (by first | omega | (simp; done) | (simp; omega))).trans ?_))
        apply bodyPost_ret (results_row_tmp1 (P := Try.prog) (fn := Try.f26) rfl _ _ _ 27 _ (0, 0) _ rfl _ Try.underlying27 rfl _) rfl
        rotate_left 2
        · repeat (first | (with_reducible apply heap_setCell_same) | (with_reducible apply drew_row) | (with_reducible apply drewN_row) | (with_reducible exact hr) | (with_reducible refine (heap_setCell_other _ _ _ _ (by first | omega | (simp; done) | (simp; omega))).trans ?_) | (with_reducible refine (Below.heap_alloc _ _ _ (by first | omega | (simp; done) | (simp; omega))).trans ?_))
        · kernel_rfl
        exact ⟨⟨false, 0, 0, []⟩, _, by rw [HS.out]; simp; rfl, by rw [HS.out]; rfl, own_nil _ _, (by repeat (first | with_reducible exact Below.refl _ _ | with_reducible assumption | with_reducible refine Below.drew ?_ | with_reducible refine Below.alloc ?_ (by first | exact Nat.le_refl _ | omega | (simp; done) | (simp; omega)) _ | with_reducible refine Below.setCell ?_ (by first | exact Nat.le_refl _ | omega | (simp; done) | (simp; omega)) _ | (with_reducible refine ext_trans ?_ (by with_reducible assumption))))⟩
    · have h2 := Bool.eq_false_iff.2 h2
      subst h2
      have hs : RKeys.secret ⟨e, m1, m2, false⟩ ep = none := by simp [RKeys.secret, h1]
      have HS := Lib.hid hs
      clear hs
      go_enter Try.func26, Try.ntmps26
      go_wp2_with fail
      have hr : ((w.alloc (.cells #[.int .i64 e, .bool m1.u, .int .u64 (uI m1.k), .int .u64 (uI m1.l), .slice A1 m1.rs.length c1, .bool m2.u, .int .u64 (uI m2.k), .int .u64 (uI m2.l), .slice A2 m2.rs.length c2, .bool false] 29)).alloc (.cells #[.bool false, .int .u64 0, .int .u64 0, .slice none 0 0] 27)).heap[w.heap.size + 1]? = some (.cells #[.bool false, .int .u64 0, .int .u64 0, .slice none 0 0] 27 (0, 0)) := (by repeat (first | exact heap_new _ _ _ (by first | rfl | (simp; done) | (simp; omega)) | refine (Below.heap_alloc _ _ _ (by first | omega | (simp; done) | (simp; omega))).trans ?_))
      apply bodyPost_ret (results_row_tmp1 (P := Try.prog) (fn := Try.f26) rfl _ _ _ 27 _ (0, 0) _ rfl _ Try.underlying27 rfl _) rfl
      rotate_left 2
      · repeat (first | (with_reducible apply heap_setCell_same) | (with_reducible apply drew_row) | (with_reducible apply drewN_row) | (with_reducible exact hr) | (with_reducible refine (heap_setCell_other _ _ _ _ (by first | omega | (simp; done) | (simp; omega))).trans ?_) | (with_reducible refine (Below.heap_alloc _ _ _ (by first | omega | (simp; done) | (simp; omega))).trans ?_))
      · kernel_rfl
      exact ⟨⟨false, 0, 0, []⟩, _, by rw [HS.out]; simp; rfl, by rw [HS.out]; rfl, own_nil _ _, (by repeat (first | with_reducible exact Below.refl _ _ | with_reducible assumption | with_reducible refine Below.drew ?_ | with_reducible refine Below.alloc ?_ (by first | exact Nat.le_refl _ | omega | (simp; done) | (simp; omega)) _ | with_reducible refine Below.setCell ?_ (by first | exact Nat.le_refl _ | omega | (simp; done) | (simp; omega)) _ | (with_reducible refine ext_trans ?_ (by with_reducible assumption))))⟩

set_option maxHeartbeats 2000000 in
theorem SecretOf_low (x : RKeys) (v1 v2 : Value) (ep : Int) (n1 : x.now.rs.length ≤ 1048600) (n2 : x.bef.rs.length ≤ 1048600) (hep : -9223372036854775808 ≤ ep ∧ ep ≤ 9223372036854775807) (hx : x.ep = -9223372036854775808) (w : World) (h1 : RdMacRow w v1 x.now.rs) (h2 : RdMacRow w v2 x.bef.rs) :
    Calls Try.prog 26 #[vK x v1 v2, .int .i64 ep] w (GotSecret x ep w) := by
  obtain ⟨A1, c1, rfl, -⟩ := id h1
  obtain ⟨A2, c2, rfl, -⟩ := id h2
  obtain ⟨e, m1, m2, t⟩ := x
  dsimp only at *
  subst hx
  obtain ⟨hp1, hp2⟩ := hep
  have H1 := Lib.hid h1
  have H2 := Lib.hid h2
  have N1 := Lib.hid n1
  have N2 := Lib.hid n2
  clear h1 h2 n1 n2
  have hwr : wrap64 (-9223372036854775809) = 9223372036854775807 := by unfold wrap64; omega
  by_cases h1 : ep = (-9223372036854775808)
  · subst h1
    have hs : RKeys.secret ⟨(-9223372036854775808), m1, m2, t⟩ (-9223372036854775808) = some m1 := by simp [RKeys.secret]
    have HS := Lib.hid hs
    clear hs
    go_enter Try.func26, Try.ntmps26
    go_wp2_with fail
    refine (cloneMac_any m1 _ N1.out _ (H1.out.below (by repeat (first | with_reducible exact Below.refl _ _ | with_reducible assumption | with_reducible refine Below.drew ?_ | with_reducible refine Below.alloc ?_ (by first | exact Nat.le_refl _ | omega | (simp; done) | (simp; omega)) _ | with_reducible refine Below.setCell ?_ (by first | exact Nat.le_refl _ | omega | (simp; done) | (simp; omega)) _ | (with_reducible refine ext_trans ?_ (by with_reducible assumption)))))).mono ?_
    rintro e w1 ⟨v3, rfl, hO, hb1⟩
    obtain ⟨A3, c3, rfl⟩ := hO.form
    have hz1 := hb1.size
    simp at hz1
    have hr : w1.heap[w.heap.size + 1]? = some (.cells #[.bool false, .int .u64 0, .int .u64 0, .slice none 0 0] 27 (0, 0)) := (hb1.block _ (by first | (simp; done) | (simp; omega))).trans (by repeat (first | exact heap_new _ _ _ (by first | rfl | (simp; done) | (simp; omega)) | refine (Below.heap_alloc _ _ _ (by first | omega | (simp; done) | (simp; omega))).trans ?_))
    have HO : Hid (OwnMacRow w1 (w.heap.size + 2) (.slice A3 m1.rs.length c3) m1.rs) := hO.mono (by simp)
    have hl := (Array.getElem?_eq_some_iff.1 hr).1
    clear hO
    have r0_hr := cell_of_row _ _ 0 _ _ _ hr
    have r1_hr := cell_of_row _ _ 1 _ _ _ hr
    have r2_hr := cell_of_row _ _ 2 _ _ _ hr
    have r3_hr := cell_of_row _ _ 3 _ _ _ hr
    have f0_hr := frozen_of_row _ _ 0 _ _ hr
    have f1_hr := frozen_of_row _ _ 1 _ _ hr
    have f2_hr := frozen_of_row _ _ 2 _ _ hr
    have f3_hr := frozen_of_row _ _ 3 _ _ hr
    simp at r0_hr r1_hr r2_hr r3_hr
    go_wp2_with fail
    apply bodyPost_ret (results_row_tmp1 (P := Try.prog) (fn := Try.f26) rfl _ _ _ 27 _ (0, 0) _ rfl _ Try.underlying27 rfl _) rfl
    rotate_left 2
    · repeat (first | (with_reducible apply heap_setCell_same) | (with_reducible apply drew_row) | (with_reducible apply drewN_row) | (with_reducible exact hr) | (with_reducible refine (heap_setCell_other _ _ _ _ (by first | omega | (simp; done) | (simp; omega))).trans ?_) | (with_reducible refine (Below.heap_alloc _ _ _ (by first | omega | (simp; done) | (simp; omega))).trans ?_))
    · kernel_rfl
    exact ⟨m1, _, by rw [HS.out]; simp; rfl, by rw [HS.out]; rfl, OwnE.mono (base := w.heap.size + 2) (by repeat (first | with_reducible exact HO.out | (with_reducible refine OwnE.setBelow ?_ (by first | (simp; done) | (simp; omega)) _) | with_reducible refine OwnE.alloc ?_ _ | with_reducible refine OwnE.drew ?_)) (by omega), (by repeat (first | with_reducible exact Below.refl _ _ | with_reducible assumption | with_reducible refine Below.drew ?_ | with_reducible refine Below.alloc ?_ (by first | exact Nat.le_refl _ | omega | (simp; done) | (simp; omega)) _ | with_reducible refine Below.setCell ?_ (by first | exact Nat.le_refl _ | omega | (simp; done) | (simp; omega)) _ | (with_reducible refine ext_trans ?_ (by with_reducible assumption))))⟩
  · by_cases h2 : t = true
    · subst h2
      by_cases h3 : ep = 9223372036854775807
      · subst h3
        have hs : RKeys.secret ⟨(-9223372036854775808), m1, m2, true⟩ (9223372036854775807) = some m2 := by simp [RKeys.secret, hwr, h1]
        have HS := Lib.hid hs
        clear hs
        go_enter Try.func26, Try.ntmps26
        go_wp2_with fail
        refine (cloneMac_any m2 _ N2.out _ (H2.out.below (by repeat (first | with_reducible exact Below.refl _ _ | with_reducible assumption | with_reducible refine Below.drew ?_ | with_reducible refine Below.alloc ?_ (by first | exact Nat.le_refl _ | omega | (simp; done) | (simp; omega)) _ | with_reducible refine Below.setCell ?_ (by first | exact Nat.le_refl _ | omega | (simp; done) | (simp; omega)) _ | (with_reducible refine ext_trans ?_ (by with_reducible assumption)))))).mono ?_
        rintro e w1 ⟨v3, rfl, hO, hb1⟩
        obtain ⟨A3, c3, rfl⟩ := hO.form
        have hz1 := hb1.size
        simp at hz1
        have hr : w1.heap[w.heap.size + 1]? = some (.cells #[.bool false, .int .u64 0, .int .u64 0, .slice none 0 0] 27 (0, 0)) := (hb1.block _ (by first | (simp; done) | (simp; omega))).trans (by repeat (first | exact heap_new _ _ _ (by first | rfl | (simp; done) | (simp; omega)) | refine (Below.heap_alloc _ _ _ (by first | omega | (simp; done) | (simp; omega))).trans ?_))
        have HO : Hid (OwnMacRow w1 (w.heap.size + 2) (.slice A3 m2.rs.length c3) m2.rs) := hO.mono (by simp)
        have hl := (Array.getElem?_eq_some_iff.1 hr).1
        clear hO
        have r0_hr := cell_of_row _ _ 0 _ _ _ hr
        have r1_hr := cell_of_row _ _ 1 _ _ _ hr
        have r2_hr := cell_of_row _ _ 2 _ _ _ hr
        have r3_hr := cell_of_row _ _ 3 _ _ _ hr
        have f0_hr := frozen_of_row _ _ 0 _ _ hr
        have f1_hr := frozen_of_row _ _ 1 _ _ hr
        have f2_hr := frozen_of_row _ _ 2 _ _ hr
        have f3_hr := frozen_of_row _ _ 3 _ _ hr
        simp at r0_hr r1_hr r2_hr r3_hr
        go_wp2_with fail
        apply bodyPost_ret (results_row_tmp1 (P := Try.prog) (fn := Try.f26) rfl _ _ _ 27 _ (0, 0) _ rfl _ Try.underlying27 rfl _) rfl
        rotate_left 2
        · repeat (first | (with_reducible apply heap_setCell_same) | (with_reducible apply drew_row) | (with_reducible apply drewN_row) | (with_reducible exact hr) | (with_reducible refine (heap_setCell_other _ _ _ _ (by first | omega | (simp; done) | (simp; omega))).trans ?_) | (with_reducible refine (Below.heap_alloc _ _ _ (by first | omega | (simp; done) | (simp; omega))).trans ?_))
        · kernel_rfl
        exact ⟨m2, _, by rw [HS.out]; simp; rfl, by rw [HS.out]; rfl, OwnE.mono (base := w.heap.size + 2) (by repeat (first | with_reducible exact HO.out | (with_reducible refine OwnE.setBelow ?_ (by first | (simp; done) | (simp; omega)) _) | with_reducible refine OwnE.alloc ?_ _ | with_reducible refine OwnE.drew ?_)) (by omega), (by repeat (first | with_reducible exact Below.refl _ _ | with_reducible assumption | with_reducible refine Below.drew ?_ | with_reducible refine Below.alloc ?_ (by first | exact Nat.le_refl _ | omega | (simp; done) | (simp; omega)) _ | with_reducible refine Below.setCell ?_ (by first | exact Nat.le_refl _ | omega | (simp; done) | (simp; omega)) _ | (with_reducible refine ext_trans ?_ (by with_reducible assumption))))⟩
      · have hs : RKeys.secret ⟨(-9223372036854775808), m1, m2, true⟩ ep = none := by simp [RKeys.secret, hwr, h1, h3]
        have HS := Lib.hid hs
        clear hs
        go_enter Try.func26, Try.ntmps26
        go_wp2_with fail
        have hr : ((w.alloc (.cells #[.int .i64 (-9223372036854775808), .bool m1.u, .int .u64 (uI m1.k), .int .u64 (uI m1.l), .slice A1 m1.rs.length c1, .bool m2.u, .int .u64 (uI m2.k), .int .u64 (uI m2.l), .slice A2 m2.rs.length c2, .bool true] 29)).alloc (.cells #[.bool false, .int .u64 0, .int .u64 0, .slice none 0 0] 27)).heap[w.heap.size + 1]? = some (.cells #[.bool false, .int .u64 0, .int .u64 0, .slice none 0 0] 27 (0, 0)) := (by repeat (first | exact heap_new _ _ _ (by first | rfl | (simp; done) | (simp; omega)) | refine (Below.heap_alloc _ _ _ (by first | omega | (simp; done) | (simp; omega))).trans ?_))
        apply bodyPost_ret (results_row_tmp1 (P := Try.prog) (fn := Try.f26) rfl _ _ _ 27 _ (0, 0) _ rfl _ Try.underlying27 rfl _) rfl
        rotate_left 2
        · repeat (first | (with_reducible apply heap_setCell_same) | (with_reducible apply drew_row) | (with_reducible apply drewN_row) | (with_reducible exact hr) | (with_reducible refine (heap_setCell_other _ _ _ _ (by first | omega | (simp; done) | (simp; omega))).trans ?_) | (with_reducible refine (Below.heap_alloc _ _ _ (by first | omega | (simp; done) | (simp; omega))).trans ?_))
        · kernel_rfl
        exact ⟨⟨false, 0, 0, []⟩, _, by rw [HS.out]; simp; rfl, by rw [HS.out]; rfl, own_nil _ _, (by repeat (first | with_reducible exact Below.refl _ _ | with_reducible assumption | with_reducible refine Below.drew ?_ | with_reducible refine Below.alloc ?_ (by first | exact Nat.le_refl _ | omega | (simp; done) | (simp; omega)) _ | with_reducible refine Below.setCell ?_ (by first | exact Nat.le_refl _ | omega | (simp; done) | (simp; omega)) _ | (with_reducible refine ext_trans ?_ (by with_reducible assumption))))⟩
    · have h2 := Bool.eq_false_iff.2 h2
      subst h2
      have hs : RKeys.secret ⟨(-9223372036854775808), m1, m2, false⟩ ep = none := by simp [RKeys.secret, h1]
      have HS := Lib.hid hs
      clear hs
      go_enter Try.func26, Try.ntmps26
      go_wp2_with fail
      have hr : ((w.alloc (.cells #[.int .i64 (-9223372036854775808), .bool m1.u, .int .u64 (uI m1.k), .int .u64 (uI m1.l), .slice A1 m1.rs.length c1, .bool m2.u, .int .u64 (uI m2.k), .int .u64 (uI m2.l), .slice A2 m2.rs.length c2, .bool false] 29)).alloc (.cells #[.bool false, .int .u64 0, .int .u64 0, .slice none 0 0] 27)).heap[w.heap.size + 1]? = some (.cells #[.bool false, .int .u64 0, .int .u64 0, .slice none 0 0] 27 (0, 0)) := (by repeat (first | exact heap_new _ _ _ (by first | rfl | (simp; done) | (simp; omega)) | refine (Below.heap_alloc _ _ _ (by first | omega | (simp; done) | (simp; omega))).trans ?_))
      apply bodyPost_ret (results_row_tmp1 (P := Try.prog) (fn := Try.f26) rfl _ _ _ 27 _ (0, 0) _ rfl _ Try.underlying27 rfl _) rfl
      rotate_left 2
      · repeat (first | (with_reducible apply heap_setCell_same) | (with_reducible apply drew_row) | (with_reducible apply drewN_row) | (with_reducible exact hr) | (with_reducible refine (heap_setCell_other _ _ _ _ (by first | omega | (simp; done) | (simp; omega))).trans ?_) | (with_reducible refine (Below.heap_alloc _ _ _ (by first | omega | (simp; done) | (simp; omega))).trans ?_))
      · kernel_rfl
      exact ⟨⟨false, 0, 0, []⟩, _, by rw [HS.out]; simp; rfl, by rw [HS.out]; rfl, own_nil _ _, (by repeat (first | with_reducible exact Below.refl _ _ | with_reducible assumption | with_reducible refine Below.drew ?_ | with_reducible refine Below.alloc ?_ (by first | exact Nat.le_refl _ | omega | (simp; done) | (simp; omega)) _ | with_reducible refine Below.setCell ?_ (by first | exact Nat.le_refl _ | omega | (simp; done) | (simp; omega)) _ | (with_reducible refine ext_trans ?_ (by with_reducible assumption))))⟩

theorem SecretOf_any (x : RKeys) (v1 v2 : Value) (ep : Int) (n1 : x.now.rs.length ≤ 1048600) (n2 : x.bef.rs.length ≤ 1048600) (hep : -9223372036854775808 ≤ ep ∧ ep ≤ 9223372036854775807) (hx : -9223372036854775808 ≤ x.ep ∧ x.ep ≤ 9223372036854775807) (w : World) (h1 : RdMacRow w v1 x.now.rs) (h2 : RdMacRow w v2 x.bef.rs) :
    Calls Try.prog 26 #[vK x v1 v2, .int .i64 ep] w fun e w' => ∃ v, e = .returned (.tuple #[vMc ((x.secret ep).getD ⟨false, 0, 0, []⟩) v, .bool (x.secret ep).isSome]) ∧ OwnMacRow w' w.heap.size v ((x.secret ep).getD ⟨false, 0, 0, []⟩).rs ∧ Below w.heap.size w w' := by
  by_cases h : x.ep = -9223372036854775808
  · refine (SecretOf_low x v1 v2 ep n1 n2 hep h w h1 h2).mono ?_
    rintro e w' ⟨m, v, rfl, rfl, h⟩
    exact ⟨v, rfl, h⟩
  · refine (SecretOf_high x v1 v2 ep n1 n2 hep ⟨by omega, hx.2⟩ w h1 h2).mono ?_
    rintro e w' ⟨m, v, rfl, rfl, h⟩
    exact ⟨v, rfl, h⟩

set_option maxHeartbeats 2000000 in
theorem sSecretOf_high (x : RKeys) (v1 v2 : Value) (ep : Int) (n1 : x.now.rs.length ≤ 1048600) (n2 : x.bef.rs.length ≤ 1048600) (hep : -9223372036854775808 ≤ ep ∧ ep ≤ 9223372036854775807) (hx : -9223372036854775808 ≤ x.ep - 1 ∧ x.ep ≤ 9223372036854775807) (w : World) (h1 : RdMacRow w v1 x.now.rs) (h2 : RdMacRow w v2 x.bef.rs) :
    Calls Try.prog 29 #[vK x v1 v2, .int .i64 ep] w (GotSecret x ep w) := by
  obtain ⟨A1, c1, rfl, -⟩ := id h1
  obtain ⟨A2, c2, rfl, -⟩ := id h2
  obtain ⟨e, m1, m2, t⟩ := x
  dsimp only at *
  obtain ⟨hx1, hx2⟩ := hx
  obtain ⟨hp1, hp2⟩ := hep
  have H1 := Lib.hid h1
  have H2 := Lib.hid h2
  have N1 := Lib.hid n1
  have N2 := Lib.hid n2
  clear h1 h2 n1 n2
  have hwr : Hid (wrap64 (e - 1) = e - 1) := (by (unfold wrap64; omega) : wrap64 (e - 1) = e - 1)
  by_cases h1 : ep = e
  · subst h1
    have hs : RKeys.secret ⟨ep, m1, m2, t⟩ ep = some m1 := by simp [RKeys.secret]
    have HS := Lib.hid hs
    clear hs
    go_enter Try.func29, Try.ntmps29
    go_wp2_with fail
    refine (l11Copy_any m1 _ N1.out _ (H1.out.below (by repeat (first | with_reducible exact Below.refl _ _ | with_reducible assumption | with_reducible refine Below.drew ?_ | with_reducible refine Below.alloc ?_ (by first | exact Nat.le_refl _ | omega | (simp; done) | (simp; omega)) _ | with_reducible refine Below.setCell ?_ (by first | exact Nat.le_refl _ | omega | (simp; done) | (simp; omega)) _ | (with_reducible refine ext_trans ?_ (by with_reducible assumption)))))).mono ?_
    rintro e w1 ⟨v3, rfl, hO, hb1⟩
    obtain ⟨A3, c3, rfl⟩ := hO.form
    have hz1 := hb1.size
    simp at hz1
    have hr : w1.heap[w.heap.size + 1]? = some (.cells #[.bool false, .int .u64 0, .int .u64 0, .slice none 0 0] 27 (0, 0)) := (hb1.block _ (by first | (simp; done) | (simp; omega))).trans (by repeat (first | exact heap_new _ _ _ (by first | rfl | (simp; done) | (simp; omega)) | refine (Below.heap_alloc _ _ _ (by first | omega | (simp; done) | (simp; omega))).trans ?_))
    have HO : Hid (OwnMacRow w1 (w.heap.size + 2) (.slice A3 m1.rs.length c3) m1.rs) := hO.mono (by simp)
    have hl := (Array.getElem?_eq_some_iff.1 hr).1
    clear hO
    have r0_hr := cell_of_row _ _ 0 _ _ _ hr
    have r1_hr := cell_of_row _ _ 1 _ _ _ hr
    have r2_hr := cell_of_row _ _ 2 _ _ _ hr
    have r3_hr := cell_of_row _ _ 3 _ _ _ hr
    have f0_hr := frozen_of_row _ _ 0 _ _ hr
    have f1_hr := frozen_of_row _ _ 1 _ _ hr
    have f2_hr := frozen_of_row _ _ 2 _ _ hr
    have f3_hr := frozen_of_row _ _ 3 _ _ hr
    simp at r0_hr r1_hr r2_hr r3_hr
    go_wp2_with fail
    apply bodyPost_ret (results_row_tmp1 (P := Try.prog) (fn := Try.f29) rfl _ _ _ 27 _ (0, 0) _ rfl _ Try.underlying27 rfl _) rfl
    rotate_left 2
    · repeat (first | (with_reducible apply heap_setCell_same) | (with_reducible apply drew_row) | (with_reducible apply drewN_row) | (with_reducible exact hr) | (with_reducible refine (heap_setCell_other _ _ _ _ (by first | omega | (simp; done) | (simp; omega))).trans ?_) | (with_reducible refine (Below.heap_alloc _ _ _ (by first | omega | (simp; done) | (simp; omega))).trans ?_))
    · kernel_rfl
    exact ⟨m1, _, by rw [HS.out]; simp; rfl, by rw [HS.out]; rfl, OwnE.mono (base := w.heap.size + 2) (by repeat (first | with_reducible exact HO.out | (with_reducible refine OwnE.setBelow ?_ (by first | (simp; done) | (simp; omega)) _) | with_reducible refine OwnE.alloc ?_ _ | with_reducible refine OwnE.drew ?_)) (by omega), (by repeat (first | with_reducible exact Below.refl _ _ | with_reducible assumption | with_reducible refine Below.drew ?_ | with_reducible refine Below.alloc ?_ (by first | exact Nat.le_refl _ | omega | (simp; done) | (simp; omega)) _ | with_reducible refine Below.setCell ?_ (by first | exact Nat.le_refl _ | omega | (simp; done) | (simp; omega)) _ | (with_reducible refine ext_trans ?_ (by with_reducible assumption))))⟩
  · by_cases h2 : t = true
    · subst h2
      by_cases h3 : ep = e - 1
      · subst h3
        have hs : RKeys.secret ⟨e, m1, m2, true⟩ (e - 1) = some m2 := by simp [RKeys.secret, hwr.out, h1]
        have HS := Lib.hid hs
        clear hs
        go_enter Try.func29, Try.ntmps29
        go_wp2_with fail
        refine (l11Copy_any m2 _ N2.out _ (H2.out.below (by repeat (first | with_reducible exact Below.refl _ _ | with_reducible assumption | with_reducible refine Below.drew ?_ | with_reducible refine Below.alloc ?_ (by first | exact Nat.le_refl _ | omega | (simp; done) | (simp; omega)) _ | with_reducible refine Below.setCell ?_ (by first | exact Nat.le_refl _ | omega | (simp; done) | (simp; omega)) _ | (with_reducible refine ext_trans ?_ (by with_reducible assumption)))))).mono ?_
        rintro e w1 ⟨v3, rfl, hO, hb1⟩
        obtain ⟨A3, c3, rfl⟩ := hO.form
        have hz1 := hb1.size
        simp at hz1
        have hr : w1.heap[w.heap.size + 1]? = some (.cells #[.bool false, .int .u64 0, .int .u64 0, .slice none 0 0] 27 (0, 0)) := (hb1.block _ (by first | (simp; done) | (simp; omega))).trans (by repeat (first | exact heap_new _ _ _ (by first | rfl | (simp; done) | (simp; omega)) | refine (Below.heap_alloc _ _ _ (by first | omega | (simp; done) | (simp; omega))).trans ?_))
        have HO : Hid (OwnMacRow w1 (w.heap.size + 2) (.slice A3 m2.rs.length c3) m2.rs) := hO.mono (by simp)
        have hl := (Array.getElem?_eq_some_iff.1 hr).1
        clear hO
        have r0_hr := cell_of_row _ _ 0 _ _ _ hr
        have r1_hr := cell_of_row _ _ 1 _ _ _ hr
        have r2_hr := cell_of_row _ _ 2 _ _ _ hr
        have r3_hr := cell_of_row _ _ 3 _ _ _ hr
        have f0_hr := frozen_of_row _ _ 0 _ _ hr
        have f1_hr := frozen_of_row _ _ 1 _ _ hr
        have f2_hr := frozen_of_row _ _ 2 _ _ hr
        have f3_hr := frozen_of_row _ _ 3 _ _ hr
        simp at r0_hr r1_hr r2_hr r3_hr
        go_wp2_with fail
        apply bodyPost_ret (results_row_tmp1 (P := Try.prog) (fn := Try.f29) rfl _ _ _ 27 _ (0, 0) _ rfl _ Try.underlying27 rfl _) rfl
        rotate_left 2
        · repeat (first | (with_reducible apply heap_setCell_same) | (with_reducible apply drew_row) | (with_reducible apply drewN_row) | (with_reducible exact hr) | (with_reducible refine (heap_setCell_other _ _ _ _ (by first | omega | (simp; done) | (simp; omega))).trans ?_) | (with_reducible refine (Below.heap_alloc _ _ _ (by first | omega | (simp; done) | (simp; omega))).trans ?_))
        · kernel_rfl
        exact ⟨m2, _, by rw [HS.out]; simp; rfl, by rw [HS.out]; rfl, OwnE.mono (base := w.heap.size + 2) (by repeat (first | with_reducible exact HO.out | (with_reducible refine OwnE.setBelow ?_ (by first | (simp; done) | (simp; omega)) _) | with_reducible refine OwnE.alloc ?_ _ | with_reducible refine OwnE.drew ?_)) (by omega), (by repeat (first | with_reducible exact Below.refl _ _ | with_reducible assumption | with_reducible refine Below.drew ?_ | with_reducible refine Below.alloc ?_ (by first | exact Nat.le_refl _ | omega | (simp; done) | (simp; omega)) _ | with_reducible refine Below.setCell ?_ (by first | exact Nat.le_refl _ | omega | (simp; done) | (simp; omega)) _ | (with_reducible refine ext_trans ?_ (by with_reducible assumption))))⟩
      · have hs : RKeys.secret ⟨e, m1, m2, true⟩ ep = none := by simp [RKeys.secret, hwr.out, h1, h3]
        have HS := Lib.hid hs
        clear hs
        go_enter Try.func29, Try.ntmps29
        go_wp2_with fail
        have hr : ((w.alloc (.cells #[.int .i64 e, .bool m1.u, .int .u64 (uI m1.k), .int .u64 (uI m1.l), .slice A1 m1.rs.length c1, .bool m2.u, .int .u64 (uI m2.k), .int .u64 (uI m2.l), .slice A2 m2.rs.length c2, .bool true] 29)).alloc (.cells #[.bool false, .int .u64 0, .int .u64 0, .slice none 0 0] 27)).heap[w.heap.size + 1]? = some (.cells #[.bool false, .int .u64 0, .int .u64 0, .slice none 0 0] 27 (0, 0)) := (by repeat (first | exact heap_new _ _ _ (by first | rfl | (simp; done) | (simp; omega)) | refine (Below.heap_alloc _ _ _ (by first | omega | (simp; done) | (simp; omega))).trans ?_))
        apply bodyPost_ret (results_row_tmp1 (P := Try.prog) (fn := Try.f29) rfl _ _ _ 27 _ (0, 0) _ rfl _ Try.underlying27 rfl _) rfl
        rotate_left 2
        · repeat (first | (with_reducible apply heap_setCell_same) | (with_reducible apply drew_row) | (with_reducible apply drewN_row) | (with_reducible exact hr) | (with_reducible refine (heap_setCell_other _ _ _ _ (by first | omega | (simp; done) | (simp; omega))).trans ?_) | (with_reducible refine (Below.heap_alloc _ _ _ (by first | omega | (simp; done) | (simp; omega))).trans ?_))
        · kernel_rfl
        exact ⟨⟨false, 0, 0, []⟩, _, by rw [HS.out]; simp; rfl, by rw [HS.out]; rfl, own_nil _ _, (by repeat (first | with_reducible exact Below.refl _ _ | with_reducible assumption | with_reducible refine Below.drew ?_ | with_reducible refine Below.alloc ?_ (by first | exact Nat.le_refl _ | omega | (simp; done) | (simp; omega)) _ | with_reducible refine Below.setCell ?_ (by first | exact Nat.le_refl _ | omega | (simp; done) | (simp; omega)) _ | (with_reducible refine ext_trans ?_ (by with_reducible assumption))))⟩
    · have h2 := Bool.eq_false_iff.2 h2
      subst h2
      have hs : RKeys.secret ⟨e, m1, m2, false⟩ ep = none := by simp [RKeys.secret, h1]
      have HS := Lib.hid hs
      clear hs
      go_enter Try.func29, Try.ntmps29
      go_wp2_with fail
      have hr : ((w.alloc (.cells #[.int .i64 e, .bool m1.u, .int .u64 (uI m1.k), .int .u64 (uI m1.l), .slice A1 m1.rs.length c1, .bool m2.u, .int .u64 (uI m2.k), .int .u64 (uI m2.l), .slice A2 m2.rs.length c2, .bool false] 29)).alloc (.cells #[.bool false, .int .u64 0, .int .u64 0, .slice none 0 0] 27)).heap[w.heap.size + 1]? = some (.cells #[.bool false, .int .u64 0, .int .u64 0, .slice none 0 0] 27 (0, 0)) := (by repeat (first | exact heap_new _ _ _ (by first | rfl | (simp; done) | (simp; omega)) | refine (Below.heap_alloc _ _ _ (by first | omega | (simp; done) | (simp; omega))).trans ?_))
      apply bodyPost_ret (results_row_tmp1 (P := Try.prog) (fn := Try.f29) rfl _ _ _ 27 _ (0, 0) _ rfl _ Try.underlying27 rfl _) rfl
      rotate_left 2
      · repeat (first | (with_reducible apply heap_setCell_same) | (with_reducible apply drew_row) | (with_reducible apply drewN_row) | (with_reducible exact hr) | (with_reducible refine (heap_setCell_other _ _ _ _ (by first | omega | (simp; done) | (simp; omega))).trans ?_) | (with_reducible refine (Below.heap_alloc _ _ _ (by first | omega | (simp; done) | (simp; omega))).trans ?_))
      · kernel_rfl
      exact ⟨⟨false, 0, 0, []⟩, _, by rw [HS.out]; simp; rfl, by rw [HS.out]; rfl, own_nil _ _, (by repeat (first | with_reducible exact Below.refl _ _ | with_reducible assumption | with_reducible refine Below.drew ?_ | with_reducible refine Below.alloc ?_ (by first | exact Nat.le_refl _ | omega | (simp; done) | (simp; omega)) _ | with_reducible refine Below.setCell ?_ (by first | exact Nat.le_refl _ | omega | (simp; done) | (simp; omega)) _ | (with_reducible refine ext_trans ?_ (by with_reducible assumption))))⟩

set_option maxHeartbeats 2000000 in
theorem sSecretOf_low (x : RKeys) (v1 v2 : Value) (ep : Int) (n1 : x.now.rs.length ≤ 1048600) (n2 : x.bef.rs.length ≤ 1048600) (hep : -9223372036854775808 ≤ ep ∧ ep ≤ 9223372036854775807) (hx : x.ep = -9223372036854775808) (w : World) (h1 : RdMacRow w v1 x.now.rs) (h2 : RdMacRow w v2 x.bef.rs) :
    Calls Try.prog 29 #[vK x v1 v2, .int .i64 ep] w (GotSecret x ep w) := by
  obtain ⟨A1, c1, rfl, -⟩ := id h1
  obtain ⟨A2, c2, rfl, -⟩ := id h2
  obtain ⟨e, m1, m2, t⟩ := x
  dsimp only at *
  subst hx
  obtain ⟨hp1, hp2⟩ := hep
  have H1 := Lib.hid h1
  have H2 := Lib.hid h2
  have N1 := Lib.hid n1
  have N2 := Lib.hid n2
  clear h1 h2 n1 n2
  have hwr : wrap64 (-9223372036854775809) = 9223372036854775807 := by unfold wrap64; omega
  by_cases h1 : ep = (-9223372036854775808)
  · subst h1
    have hs : RKeys.secret ⟨(-9223372036854775808), m1, m2, t⟩ (-9223372036854775808) = some m1 := by simp [RKeys.secret]
    have HS := Lib.hid hs
    clear hs
    go_enter Try.func29, Try.ntmps29
    go_wp2_with fail
    refine (l11Copy_any m1 _ N1.out _ (H1.out.below (by repeat (first | with_reducible exact Below.refl _ _ | with_reducible assumption | with_reducible refine Below.drew ?_ | with_reducible refine Below.alloc ?_ (by first | exact Nat.le_refl _ | omega | (simp; done) | (simp; omega)) _ | with_reducible refine Below.setCell ?_ (by first | exact Nat.le_refl _ | omega | (simp; done) | (simp; omega)) _ | (with_reducible refine ext_trans ?_ (by with_reducible assumption)))))).mono ?_
    rintro e w1 ⟨v3, rfl, hO, hb1⟩
    obtain ⟨A3, c3, rfl⟩ := hO.form
    have hz1 := hb1.size
    simp at hz1
    have hr : w1.heap[w.heap.size + 1]? = some (.cells #[.bool false, .int .u64 0, .int .u64 0, .slice none 0 0] 27 (0, 0)) := (hb1.block _ (by first | (simp; done) | (simp; omega))).trans (by repeat (first | exact heap_new _ _ _ (by first | rfl | (simp; done) | (simp; omega)) | refine (Below.heap_alloc _ _ _ (by first | omega | (simp; done) | (simp; omega))).trans ?_))
    have HO : Hid (OwnMacRow w1 (w.heap.size + 2) (.slice A3 m1.rs.length c3) m1.rs) := hO.mono (by simp)
    have hl := (Array.getElem?_eq_some_iff.1 hr).1
    clear hO
    have r0_hr := cell_of_row _ _ 0 _ _ _ hr
    have r1_hr := cell_of_row _ _ 1 _ _ _ hr
    have r2_hr := cell_of_row _ _ 2 _ _ _ hr
    have r3_hr := cell_of_row _ _ 3 _ _ _ hr
    have f0_hr := frozen_of_row _ _ 0 _ _ hr
    have f1_hr := frozen_of_row _ _ 1 _ _ hr
    have f2_hr := frozen_of_row _ _ 2 _ _ hr
    have f3_hr := frozen_of_row _ _ 3 _ _ hr
    simp at r0_hr r1_hr r2_hr r3_hr
    go_wp2_with fail
    apply bodyPost_ret (results_row_tmp1 (P := Try.prog) (fn := Try.f29) rfl _ _ _ 27 _ (0, 0) _ rfl _ Try.underlying27 rfl _) rfl
    rotate_left 2
    · repeat (first | (with_reducible apply heap_setCell_same) | (with_reducible apply drew_row) | (with_reducible apply drewN_row) | (with_reducible exact hr) | (with_reducible refine (heap_setCell_other _ _ _ _ (by first | omega | (simp; done) | (simp; omega))).trans ?_) | (with_reducible refine (Below.heap_alloc _ _ _ (by first | omega | (simp; done) | (simp; omega))).trans ?_))
    · kernel_rfl
    exact ⟨m1, _, by rw [HS.out]; simp; rfl, by rw [HS.out]; rfl, OwnE.mono (base := w.heap.size + 2) (by repeat (first | with_reducible exact HO.out | (with_reducible refine OwnE.setBelow ?_ (by first | (simp; done) | (simp; omega)) _) | with_reducible refine OwnE.alloc ?_ _ | with_reducible refine OwnE.drew ?_)) (by omega), (by repeat (first | with_reducible exact Below.refl _ _ | with_reducible assumption | with_reducible refine Below.drew ?_ | with_reducible refine Below.alloc ?_ (by first | exact Nat.le_refl _ | omega | (simp; done) | (simp; omega)) _ | with_reducible refine Below.setCell ?_ (by first | exact Nat.le_refl _ | omega | (simp; done) | (simp; omega)) _ | (with_reducible refine ext_trans ?_ (by with_reducible assumption))))⟩
  · by_cases h2 : t = true
    · subst h2
      by_cases h3 : ep = 9223372036854775807
      · subst h3
        have hs : RKeys.secret ⟨(-9223372036854775808), m1, m2, true⟩ (9223372036854775807) = some m2 := by simp [RKeys.secret, hwr, h1]
        have HS := Lib.hid hs
        clear hs
        go_enter Try.func29, Try.ntmps29
        go_wp2_with fail
        refine (l11Copy_any m2 _ N2.out _ (H2.out.below (by repeat (first | with_reducible exact Below.refl _ _ | with_reducible assumption | with_reducible refine Below.drew ?_ | with_reducible refine Below.alloc ?_ (by first | exact Nat.le_refl _ | omega | (simp; done) | (simp; omega)) _ | with_reducible refine Below.setCell ?_ (by first | exact Nat.le_refl _ | omega | (simp; done) | (simp; omega)) _ | (with_reducible refine ext_trans ?_ (by with_reducible assumption)))))).mono ?_
        rintro e w1 ⟨v3, rfl, hO, hb1⟩
        obtain ⟨A3, c3, rfl⟩ := hO.form
        have hz1 := hb1.size
        simp at hz1
        have hr : w1.heap[w.heap.size + 1]? = some (.cells #[.bool false, .int .u64 0, .int .u64 0, .slice none 0 0] 27 (0, 0)) := (hb1.block _ (by first | (simp; done) | (simp; omega))).trans (by repeat (first | exact heap_new _ _ _ (by first | rfl | (simp; done) | (simp; omega)) | refine (Below.heap_alloc _ _ _ (by first | omega | (simp; done) | (simp; omega))).trans ?_))
        have HO : Hid (OwnMacRow w1 (w.heap.size + 2) (.slice A3 m2.rs.length c3) m2.rs) := hO.mono (by simp)
        have hl := (Array.getElem?_eq_some_iff.1 hr).1
        clear hO
        have r0_hr := cell_of_row _ _ 0 _ _ _ hr
        have r1_hr := cell_of_row _ _ 1 _ _ _ hr
        have r2_hr := cell_of_row _ _ 2 _ _ _ hr
        have r3_hr := cell_of_row _ _ 3 _ _ _ hr
        have f0_hr := frozen_of_row _ _ 0 _ _ hr
        have f1_hr := frozen_of_row _ _ 1 _ _ hr
        have f2_hr := frozen_of_row _ _ 2 _ _ hr
        have f3_hr := frozen_of_row _ _ 3 _ _ hr
        simp at r0_hr r1_hr r2_hr r3_hr
        go_wp2_with fail
        apply bodyPost_ret (results_row_tmp1 (P := Try.prog) (fn := Try.f29) rfl _ _ _ 27 _ (0, 0) _ rfl _ Try.underlying27 rfl _) rfl
        rotate_left 2
        · repeat (first | (with_reducible apply heap_setCell_same) | (with_reducible apply drew_row) | (with_reducible apply drewN_row) | (with_reducible exact hr) | (with_reducible refine (heap_setCell_other _ _ _ _ (by first | omega | (simp; done) | (simp; omega))).trans ?_) | (with_reducible refine (Below.heap_alloc _ _ _ (by first | omega | (simp; done) | (simp; omega))).trans ?_))
        · kernel_rfl
        exact ⟨m2, _, by rw [HS.out]; simp; rfl, by rw [HS.out]; rfl, OwnE.mono (base := w.heap.size + 2) (by repeat (first | with_reducible exact HO.out | (with_reducible refine OwnE.setBelow ?_ (by first | (simp; done) | (simp; omega)) _) | with_reducible refine OwnE.alloc ?_ _ | with_reducible refine OwnE.drew ?_)) (by omega), (by repeat (first | with_reducible exact Below.refl _ _ | with_reducible assumption | with_reducible refine Below.drew ?_ | with_reducible refine Below.alloc ?_ (by first | exact Nat.le_refl _ | omega | (simp; done) | (simp; omega)) _ | with_reducible refine Below.setCell ?_ (by first | exact Nat.le_refl _ | omega | (simp; done) | (simp; omega)) _ | (with_reducible refine ext_trans ?_ (by with_reducible assumption))))⟩
      · have hs : RKeys.secret ⟨(-9223372036854775808), m1, m2, true⟩ ep = none := by simp [RKeys.secret, hwr, h1, h3]
        have HS := Lib.hid hs
        clear hs
        go_enter Try.func29, Try.ntmps29
        go_wp2_with fail
        have hr : ((w.alloc (.cells #[.int .i64 (-9223372036854775808), .bool m1.u, .int .u64 (uI m1.k), .int .u64 (uI m1.l), .slice A1 m1.rs.length c1, .bool m2.u, .int .u64 (uI m2.k), .int .u64 (uI m2.l), .slice A2 m2.rs.length c2, .bool true] 29)).alloc (.cells #[.bool false, .int .u64 0, .int .u64 0, .slice none 0 0] 27)).heap[w.heap.size + 1]? = some (.cells #[.bool false, .int .u64 0, .int .u64 0, .slice none 0 0] 27 (0, 0)) := (by repeat (first | exact heap_new _ _ _ (by first | rfl | (simp; done) | (simp; omega)) | refine (Below.heap_alloc _ _ _ (by first | omega | (simp; done) | (simp; omega))).trans ?_))
        apply bodyPost_ret (results_row_tmp1 (P := Try.prog) (fn := Try.f29) rfl _ _ _ 27 _ (0, 0) _ rfl _ Try.underlying27 rfl _) rfl
        rotate_left 2
        · repeat (first | (with_reducible apply heap_setCell_same) | (with_reducible apply drew_row) | (with_reducible apply drewN_row) | (with_reducible exact hr) | (with_reducible refine (heap_setCell_other _ _ _ _ (by first | omega | (simp; done) | (simp; omega))).trans ?_) | (with_reducible refine (Below.heap_alloc _ _ _ (by first | omega | (simp; done) | (simp; omega))).trans ?_))
        · kernel_rfl
        exact ⟨⟨false, 0, 0, []⟩, _, by rw [HS.out]; simp; rfl, by rw [HS.out]; rfl, own_nil _ _, (by repeat (first | with_reducible exact Below.refl _ _ | with_reducible assumption | with_reducible refine Below.drew ?_ | with_reducible refine Below.alloc ?_ (by first | exact Nat.le_refl _ | omega | (simp; done) | (simp; omega)) _ | with_reducible refine Below.setCell ?_ (by first | exact Nat.le_refl _ | omega | (simp; done) | (simp; omega)) _ | (with_reducible refine ext_trans ?_ (by with_reducible assumption))))⟩
    · have h2 := Bool.eq_false_iff.2 h2
      subst h2
      have hs : RKeys.secret ⟨(-9223372036854775808), m1, m2, false⟩ ep = none := by simp [RKeys.secret, h1]
      have HS := Lib.hid hs
      clear hs
      go_enter Try.func29, Try.ntmps29
      go_wp2_with fail
      have hr : ((w.alloc (.cells #[.int .i64 (-9223372036854775808), .bool m1.u, .int .u64 (uI m1.k), .int .u64 (uI m1.l), .slice A1 m1.rs.length c1, .bool m2.u, .int .u64 (uI m2.k), .int .u64 (uI m2.l), .slice A2 m2.rs.length c2, .bool false] 29)).alloc (.cells #[.bool false, .int .u64 0, .int .u64 0, .slice none 0 0] 27)).heap[w.heap.size + 1]? = some (.cells #[.bool false, .int .u64 0, .int .u64 0, .slice none 0 0] 27 (0, 0)) := (by repeat (first | exact heap_new _ _ _ (by first | rfl | (simp; done) | (simp; omega)) | refine (Below.heap_alloc _ _ _ (by first | omega | (simp; done) | (simp; omega))).trans ?_))
      apply bodyPost_ret (results_row_tmp1 (P := Try.prog) (fn := Try.f29) rfl _ _ _ 27 _ (0, 0) _ rfl _ Try.underlying27 rfl _) rfl
      rotate_left 2
      · repeat (first | (with_reducible apply heap_setCell_same) | (with_reducible apply drew_row) | (with_reducible apply drewN_row) | (with_reducible exact hr) | (with_reducible refine (heap_setCell_other _ _ _ _ (by first | omega | (simp; done) | (simp; omega))).trans ?_) | (with_reducible refine (Below.heap_alloc _ _ _ (by first | omega | (simp; done) | (simp; omega))).trans ?_))
      · kernel_rfl
      exact ⟨⟨false, 0, 0, []⟩, _, by rw [HS.out]; simp; rfl, by rw [HS.out]; rfl, own_nil _ _, (by repeat (first | with_reducible exact Below.refl _ _ | with_reducible assumption | with_reducible refine Below.drew ?_ | with_reducible refine Below.alloc ?_ (by first | exact Nat.le_refl _ | omega | (simp; done) | (simp; omega)) _ | with_reducible refine Below.setCell ?_ (by first | exact Nat.le_refl _ | omega | (simp; done) | (simp; omega)) _ | (with_reducible refine ext_trans ?_ (by with_reducible assumption))))⟩

theorem sSecretOf_any (x : RKeys) (v1 v2 : Value) (ep : Int) (n1 : x.now.rs.length ≤ 1048600) (n2 : x.bef.rs.length ≤ 1048600) (hep : -9223372036854775808 ≤ ep ∧ ep ≤ 9223372036854775807) (hx : -9223372036854775808 ≤ x.ep ∧ x.ep ≤ 9223372036854775807) (w : World) (h1 : RdMacRow w v1 x.now.rs) (h2 : RdMacRow w v2 x.bef.rs) :
    Calls Try.prog 29 #[vK x v1 v2, .int .i64 ep] w fun e w' => ∃ v, e = .returned (.tuple #[vMc ((x.secret ep).getD ⟨false, 0, 0, []⟩) v, .bool (x.secret ep).isSome]) ∧ OwnMacRow w' w.heap.size v ((x.secret ep).getD ⟨false, 0, 0, []⟩).rs ∧ Below w.heap.size w w' := by
  by_cases h : x.ep = -9223372036854775808
  · refine (sSecretOf_low x v1 v2 ep n1 n2 hep h w h1 h2).mono ?_
    rintro e w' ⟨m, v, rfl, rfl, h⟩
    exact ⟨v, rfl, h⟩
  · refine (sSecretOf_high x v1 v2 ep n1 n2 hep ⟨by omega, hx.2⟩ w h1 h2).mono ?_
    rintro e w' ⟨m, v, rfl, rfl, h⟩
    exact ⟨v, rfl, h⟩

end Go.Proofs.Ytjlnbjabehpncaa
