/-
  The draw out of a code: Keys, a tuple, a place and a cookie.
-/
import Derived.Test.YtjlnbjabehpncaaKdr
import Derived.Test.YtjlnbjabehpncaaCok
import Derived.Test.YtjlnbjabehpncaaKpt
import Derived.Test.YtjlnbjabehpncaaKdw
import Derived.Test.YtjlnbjabehpncaaCkl
import Derived.Deep.DeepCutAuto
import Derived.Deep.RegionHeld3
import Derived.IntWalk
namespace Go.Proofs.Ytjlnbjabehpncaa
set_option maxRecDepth 100000
open Go.RowKit Go.Deep
theorem l1Max_any (a b : Int) (w : World) : Calls Try.prog 61 #[.int .i64 a, .int .i64 b] w fun e w' => e = .returned (.int .i64 (if b < a then a else b)) ∧ w = w' := by
  by_cases h : b < a
  · rw [if_pos h]
    go_enter Try.func61, Try.ntmps61
    go_wp2
    go_ret
    exact ⟨rfl, rfl⟩
  · rw [if_neg h]
    go_enter Try.func61, Try.ntmps61
    go_wp2
    go_ret
    exact ⟨rfl, rfl⟩
theorem l1Max_bd (b : Int) (h1 : -100 ≤ b) (h2 : b ≤ 4294967296) (w : World) : Calls Try.prog 61 #[.int .i64 0, .int .i64 b] w fun e w' => (∃ y : Int, e = .returned (.int .i64 y) ∧ 0 ≤ y ∧ y ≤ 4294967296) ∧ w = w' := by
  refine (l1Max_any 0 b w).mono ?_
  rintro e w' ⟨rfl, rfl⟩
  exact ⟨⟨_, rfl, by split <;> omega, by split <;> omega⟩, rfl⟩
theorem l4Rest_some (n : Int) (w : World) (h1 : -9223372036854775808 ≤ n) (h2 : n ≤ 9223372036854775807) : Calls Try.prog 104 #[.int .i64 n] w fun e w' => e = .returned (.int .i64 (n % 4294967296)) ∧ w = w' := by
  by_cases h : 0 ≤ n
  · have h3 : ¬ n < 0 := by omega
    go_enter Try.func104, Try.ntmps104
    go_wp2
    go_ret
    exact ⟨rfl, rfl⟩
  · have e : n.tmod 4294967296 = -((-n) % 4294967296) := by
      have e1 : n = -(-n) := by omega
      rw [e1, Int.neg_tmod, Int.tmod_eq_emod_of_nonneg (by omega)]
      simp
    obtain ⟨T, hT⟩ : ∃ T, n.tmod 4294967296 = T := ⟨_, rfl⟩
    have hb : -4294967296 < T ∧ T ≤ 0 := by omega
    obtain ⟨hb1, hb2⟩ := hb
    have hf : (T < 0 → T + 4294967296 = n % 4294967296) ∧ (¬ T < 0 → T = n % 4294967296) := by constructor <;> omega
    have HF := Lib.hid hf
    clear e hf
    by_cases hneg : T < 0
    · go_enter Try.func104, Try.ntmps104
      go_wp2
      go_ret
      exact ⟨by rw [← HF.out.1 hneg]; rfl, rfl⟩
    · go_enter Try.func104, Try.ntmps104
      go_wp2
      go_ret
      exact ⟨by rw [← HF.out.2 hneg]; rfl, rfl⟩
theorem sSeqAdd_some (a n : Int) (h1 : -9223372036854775808 ≤ a) (h2 : a ≤ 9223372036854775807) (h3 : -9223372036854775808 ≤ n) (h4 : n ≤ 9223372036854775807) (w : World) :
    Calls Try.prog 90 #[.int .i64 a, .int .i64 n] w fun e w' => (∃ x : Int, e = .returned (.int .i64 x) ∧ 0 ≤ x ∧ x ≤ 4294967295) ∧ w = w' := by
  go_enter Try.func90, Try.ntmps90
  go_wp2_with (go_at_call 104; refine (l4Rest_some _ _ (by omega) (by omega)).mono ?_; rintro e w' ⟨rfl, rfl⟩)
  go_ret
  exact ⟨⟨_, rfl, by omega, by omega⟩, rfl⟩
theorem l4Near_any {w : World} {B g : Nat} (hcur : Cur w B g) (x : Int) (h1 : -9223372036854775808 ≤ x) (h2 : x ≤ 9223372036854775807) :
    Calls Try.prog 62 #[.pointer (some ⟨g, 0, none⟩), .int .i64 x] w (DrewI64 w B g) := by
  go_enter Try.func62, Try.ntmps62
  go_wp2_with fail
  refine (l1Below_any hcur 4 (by omega) (by omega)).mono ?_
  rintro e w1 ⟨x1, rfl, ⟨hl1, hh1⟩, hc1, ho1⟩
  have hlt1 := hc1.lt
  by_cases k0 : x1 = 0
  · subst k0
    go_wp2_with fail
    refine (l4Place_any hc1).mono ?_
    rintro e w2 ⟨x2, rfl, hi2, hc2, ho2⟩
    have hlt2 := hc2.lt
    go_wp2_with fail
    go_ret
    exact ⟨_, rfl, hi2, hc2, (by repeat (first | with_reducible assumption | with_reducible exact World.grownBy.refl _ _ | with_reducible refine only_alloc ?_ _ | with_reducible refine only_drew ?_ | with_reducible refine only_drewN ?_ _ | with_reducible refine only_setNew ?_ (by first | omega | (simp; done) | (simp; omega)) _ | (with_reducible refine only_trans ?_ (by with_reducible assumption))))⟩
  have e0 : (x1 == 0) = false := by simpa using k0
  by_cases k1 : x1 = 1
  · subst k1
    go_wp2_with fail
    refine (l1Pick_new (-1) (2147483648) (by repeat (first | with_reducible assumption | with_reducible refine Cur.alloc ?_ _ | with_reducible refine Cur.drew ?_ | with_reducible refine Cur.setOther ?_ (by first | omega | (simp; done) | (simp; omega)) (by first | omega | (simp; done) | (simp; omega)) _)) (by rfl) (by omega) (by omega) (by kernel_rfl)).mono ?_
    rintro e w2 ⟨x2, rfl, ⟨hl2, hh2⟩, hc2, ho2⟩
    have hlt2 := hc2.lt
    go_wp2_with fail
    refine (sSeqAdd_some _ _ h1 h2 (by omega) (by omega) _).mono ?_
    rintro e w' ⟨⟨y, rfl, hy1, hy2⟩, rfl⟩
    go_wp2_with fail
    go_ret
    exact ⟨_, rfl, ⟨by omega, by omega⟩, hc2, (by repeat (first | with_reducible assumption | with_reducible exact World.grownBy.refl _ _ | with_reducible refine only_alloc ?_ _ | with_reducible refine only_drew ?_ | with_reducible refine only_drewN ?_ _ | with_reducible refine only_setNew ?_ (by first | omega | (simp; done) | (simp; omega)) _ | (with_reducible refine only_trans ?_ (by with_reducible assumption))))⟩
  have e1 : (x1 == 1) = false := by simpa using k1
  clear k0 k1
  go_wp2_with fail
  refine (l1Below_any hc1 41 (by omega) (by omega)).mono ?_
  rintro e w2 ⟨x2, rfl, ⟨hl2, hh2⟩, hc2, ho2⟩
  have hlt2 := hc2.lt
  go_wp2_with fail
  refine (sSeqAdd_some _ _ h1 h2 (by omega) (by omega) _).mono ?_
  rintro e w' ⟨⟨y, rfl, hy1, hy2⟩, rfl⟩
  go_wp2_with fail
  go_ret
  exact ⟨_, rfl, ⟨by omega, by omega⟩, hc2, (by repeat (first | with_reducible assumption | with_reducible exact World.grownBy.refl _ _ | with_reducible refine only_alloc ?_ _ | with_reducible refine only_drew ?_ | with_reducible refine only_drewN ?_ _ | with_reducible refine only_setNew ?_ (by first | omega | (simp; done) | (simp; omega)) _ | (with_reducible refine only_trans ?_ (by with_reducible assumption))))⟩
theorem results_row_row_tt {P : Program} {fn : Func} {p p2 u v : Tmp} {ty ty2 : TypeId} (h : fn.results = #[.cell p ty, .cell p2 ty2, .tmp u, .tmp v]) (tmps : Array Value) (w : World) (g : Nat) (t : TypeId) (cs : Array Value) (fr : Nat × Nat) (d : TypeDesc)
    (g2 : Nat) (t2 : TypeId) (cs2 : Array Value) (fr2 : Nat × Nat) (d2 : TypeDesc)
    (hp : tmps.getD p undef = .pointer (some ⟨g, 0, none⟩)) (hp2 : tmps.getD p2 undef = .pointer (some ⟨g2, 0, none⟩)) (hg : w.heap[g]? = some (.cells cs t fr)) (hg2 : w.heap[g2]? = some (.cells cs2 t2 fr2))
    (hu : P.underlying ty = some d) (hd : (match d with | .struct _ | .array _ _ => true | _ => false) = true) (hi : (P.info? ty).map (·.size) = some cs.size)
    (hu2 : P.underlying ty2 = some d2) (hd2 : (match d2 with | .struct _ | .array _ _ => true | _ => false) = true) (hi2 : (P.info? ty2).map (·.size) = some cs2.size) :
    (results fn tmps).run P w = .ok (.tuple #[.agg cs, .agg cs2, tmps.getD u undef, tmps.getD v undef]) w := by
  have hp' : tmps[p]?.getD undef = .pointer (some ⟨g, 0, none⟩) := by simpa using hp
  have hp2' : tmps[p2]?.getD undef = .pointer (some ⟨g2, 0, none⟩) := by simpa using hp2
  simp [results, h, hp', hp2', asAddr, run_loadVar_row w g t ty cs fr d hg hu hd hi, run_loadVar_row w g2 t2 ty2 cs2 fr2 d2 hg2 hu2 hd2 hi2]
theorem cookie_bd (m : RMac) (a b c seq ep i : Int) : -1 ≤ cookieI m a b c seq ep i ∧ cookieI m a b c seq ep i ≤ 4294967295 := by
  cases h : macOk a b c seq ep i
  · rw [cookie_none h]
    omega
  · obtain ⟨M, h0, h1, e⟩ := cookie_form (m := m) h
    obtain ⟨_, hi0, hi1⟩ := macOk_bd h
    rw [e]
    omega
theorem ck_i64 (m : RMac) (a b c seq ep i : Int) : I64 (cookieI m a b c seq ep i) := by
  have := cookie_bd m a b c seq ep i
  exact ⟨by omega, by omega⟩
theorem secret_fit {x : RKeys} {ep : Int} (h1 : fitRows x.now.rs) (h2 : fitRows x.bef.rs) : fitRows ((x.secret ep).getD ⟨false, 0, 0, []⟩).rs := by
  unfold RKeys.secret
  split
  · exact h1
  · split
    · exact h2
    · exact ⟨by simp, fun y hy => by cases hy⟩
theorem fit_fits {m : RMac} (h : fitRows m.rs) : m.fits := ⟨by have := h.1; unfold maxLen; omega, fun y hy => (h.2 y hy).1⟩
theorem fit_len {rs : List RMacRow} (h : fitRows rs) : rs.length ≤ 1048600 := by have := h.1; omega
/-- Keys, a tuple, a place and a cookie, drawn. -/
def DrawnCk (w : World) (e : Ending) (w' : World) : Prop :=
  ∃ (x : RKeys) (v1 v2 : Value) (ta tb tc sq ck : Int), e = .returned (.tuple #[vK x v1 v2, .agg #[.int .i64 ta, .int .i64 tb, .int .i64 tc], .int .i64 sq, .int .i64 ck]) ∧ OwnMacRow w' w.heap.size v1 x.now.rs ∧ OwnMacRow w' w.heap.size v2 x.bef.rs ∧ fitRows x.now.rs ∧ fitRows x.bef.rs ∧ (-1 ≤ x.ep ∧ x.ep ≤ 4294967296) ∧ I64 sq ∧ I64 ck ∧ Below w.heap.size w w'
set_option maxHeartbeats 8000000 in
theorem DrawCheckCookie_any {w : World} {A : Option Addr} {n c : Nat} (hn : n ≤ maxLen) (hb : Byts w w.heap.size A n) :
    Calls Try.prog 24 #[.slice A n c] w (DrawnCk w) := by
  go_enter Try.func24, Try.ntmps24
  go_wp2_with fail
  refine (l1New_any hn (hb.below (by repeat (first | with_reducible exact Below.refl _ _ | with_reducible assumption | with_reducible refine Below.drew ?_ | with_reducible refine Below.alloc ?_ (by first | exact Nat.le_refl _ | omega | (simp; done) | (simp; omega)) _ | with_reducible refine Below.setCell ?_ (by first | exact Nat.le_refl _ | omega | (simp; done) | (simp; omega)) _ | (with_reducible refine ext_trans ?_ (by with_reducible assumption)))))).mono ?_
  rintro e w1 ⟨g, rfl, hc1, hb1⟩
  have hlt1 := hc1.lt
  have hz1 := hb1.size
  have hlow := hc1.low
  simp at hz1 hlow hc1
  go_wp2_with fail
  refine (l13Bent_any hc1).mono ?_
  rintro e w2 ⟨x, v1, v2, rfl, hO1, hO2, ⟨n1, n2⟩, ⟨f1, f2⟩, ⟨he1, he2⟩, hc2, ho2⟩
  obtain ⟨A1, c1, rfl⟩ := hO1.form
  obtain ⟨A2, c2, rfl⟩ := hO2.form
  have HF1 : Hid (fitRows x.now.rs) := Lib.hid ⟨n1, f1⟩
  have HF2 : Hid (fitRows x.bef.rs) := Lib.hid ⟨n2, f2⟩
  have hz2 := ho2.size
  have hlt2 := hc2.lt
  have hO1 := Lib.hid (hO1.alloc (.cells #[.int .i64 x.ep, .bool x.now.u, .int .u64 (uI x.now.k), .int .u64 (uI x.now.l), .slice A1 x.now.rs.length c1, .bool x.bef.u, .int .u64 (uI x.bef.k), .int .u64 (uI x.bef.l), .slice A2 x.bef.rs.length c2, .bool x.two] 29))
  have hO2 := Lib.hid (hO2.alloc (.cells #[.int .i64 x.ep, .bool x.now.u, .int .u64 (uI x.now.k), .int .u64 (uI x.now.l), .slice A1 x.now.rs.length c1, .bool x.bef.u, .int .u64 (uI x.bef.k), .int .u64 (uI x.bef.l), .slice A2 x.bef.rs.length c2, .bool x.two] 29))
  clear f1 f2 n1 n2
  go_wp2_with fail
  refine (l12Bent_any (B := (w.heap.size + 1 + 1)) (by repeat (first | with_reducible assumption | with_reducible refine Cur.alloc ?_ _ | with_reducible refine Cur.drew ?_ | with_reducible refine Cur.setOther ?_ (by first | omega | (simp; done) | (simp; omega)) (by first | omega | (simp; done) | (simp; omega)) _))).mono ?_
  rintro e w3 ⟨x3a, x3b, x3c, rfl, hi3a, hi3b, hi3c, hc3, ho3⟩
  have hlt3 := hc3.lt
  obtain ⟨hd3, hf3⟩ := gcell ho3
  have hz3 := ho3.size
  (try simp at hz3)
  have hy3_0 : w2.heap.size < w3.heap.size := by omega
  have hn3_0 : ¬ w2.heap.size = g := by omega
  go_wp2_with fail
  refine (l4Place_any (B := (w.heap.size + 1 + 1)) (by repeat (first | with_reducible assumption | with_reducible refine Cur.alloc ?_ _ | with_reducible refine Cur.drew ?_ | with_reducible refine Cur.setOther ?_ (by first | omega | (simp; done) | (simp; omega)) (by first | omega | (simp; done) | (simp; omega)) _))).mono ?_
  rintro e w4 ⟨x4, rfl, hi4, hc4, ho4⟩
  have hz4 := ho4.size
  simp at hz4
  have hlt4 := hc4.lt
  have hk4 : w1.grownBy w4 (some g) := (by repeat (first | with_reducible assumption | with_reducible exact World.grownBy.refl _ _ | with_reducible refine only_alloc ?_ _ | with_reducible refine only_drew ?_ | with_reducible refine only_drewN ?_ _ | with_reducible refine only_setNew ?_ (by first | omega | (simp; done) | (simp; omega)) _ | (with_reducible refine only_trans ?_ (by with_reducible assumption))))
  have hrk : w4.heap[w.heap.size]? = some (.cells #[.int .i64 0, .bool false, .int .u64 0, .int .u64 0, .slice none 0 0, .bool false, .int .u64 0, .int .u64 0, .slice none 0 0, .bool false] 29 (0, 0)) := (grow hk4 (by omega) (by omega)).trans ((hb1.block _ (by first | (simp; done) | (simp; omega))).trans (by repeat (first | exact heap_new _ _ _ (by first | rfl | (simp; done) | (simp; omega)) | refine (Below.heap_alloc _ _ _ (by first | omega | (simp; done) | (simp; omega))).trans ?_)))
  have hrt : w4.heap[w.heap.size + 1]? = some (.cells #[.int .i64 0, .int .i64 0, .int .i64 0] 33 (0, 0)) := (grow hk4 (by omega) (by omega)).trans ((hb1.block _ (by first | (simp; done) | (simp; omega))).trans (by repeat (first | exact heap_new _ _ _ (by first | rfl | (simp; done) | (simp; omega)) | refine (Below.heap_alloc _ _ _ (by first | omega | (simp; done) | (simp; omega))).trans ?_)))
  have hq1 : w4.heap[w2.heap.size]? = some (.cells #[.int .i64 x.ep, .bool x.now.u, .int .u64 (uI x.now.k), .int .u64 (uI x.now.l), .slice A1 x.now.rs.length c1, .bool x.bef.u, .int .u64 (uI x.bef.k), .int .u64 (uI x.bef.l), .slice A2 x.bef.rs.length c2, .bool x.two] 29 (0, 0)) := (grow ho4 (by first | (simp; done) | (simp; omega)) (by omega)).trans ((Below.heap_alloc _ _ _ (by omega)).trans ((grow ho3 (by simp) (by omega)).trans (heap_alloc_new _ _)))
  have hq2 : w4.heap[w3.heap.size]? = some (.cells #[.int .i64 x3a, .int .i64 x3b, .int .i64 x3c] 33 (0, 0)) := (grow ho4 (by simp) (by omega)).trans (heap_alloc_new _ _)
  have H1w4 := Lib.hid (((hO1.out.grow ho3 hlt1).alloc (.cells #[.int .i64 x3a, .int .i64 x3b, .int .i64 x3c] 33)).grow ho4 hlt1)
  have H2w4 := Lib.hid (((hO2.out.grow ho3 hlt1).alloc (.cells #[.int .i64 x3a, .int .i64 x3b, .int .i64 x3c] 33)).grow ho4 hlt1)
  have hw4 : Below w.heap.size w w4 := ext_trans (((Below.refl _ _).alloc (Nat.le_refl _) _).alloc (by simp) _) (hb1.trans (only_below hk4 (by simpa using hz1) (by simpa using hlow)))
  have HRK := Lib.hid hrk
  have HRT := Lib.hid hrt
  have HQ1 := Lib.hid hq1
  have HQ2 := Lib.hid hq2
  clear hO1 hO2 hd3 hf3 ho2 ho3 ho4 hc1 hc2 hc3 hrk hrt hb hk4
  have r0_hq1 := cell_of_row _ _ 0 _ _ _ hq1
  have r1_hq1 := cell_of_row _ _ 1 _ _ _ hq1
  have r2_hq1 := cell_of_row _ _ 2 _ _ _ hq1
  have r3_hq1 := cell_of_row _ _ 3 _ _ _ hq1
  have r4_hq1 := cell_of_row _ _ 4 _ _ _ hq1
  have r5_hq1 := cell_of_row _ _ 5 _ _ _ hq1
  have r6_hq1 := cell_of_row _ _ 6 _ _ _ hq1
  have r7_hq1 := cell_of_row _ _ 7 _ _ _ hq1
  have r8_hq1 := cell_of_row _ _ 8 _ _ _ hq1
  have r9_hq1 := cell_of_row _ _ 9 _ _ _ hq1
  have f0_hq1 := frozen_of_row _ _ 0 _ _ hq1
  have f1_hq1 := frozen_of_row _ _ 1 _ _ hq1
  have f2_hq1 := frozen_of_row _ _ 2 _ _ hq1
  have f3_hq1 := frozen_of_row _ _ 3 _ _ hq1
  have f4_hq1 := frozen_of_row _ _ 4 _ _ hq1
  have f5_hq1 := frozen_of_row _ _ 5 _ _ hq1
  have f6_hq1 := frozen_of_row _ _ 6 _ _ hq1
  have f7_hq1 := frozen_of_row _ _ 7 _ _ hq1
  have f8_hq1 := frozen_of_row _ _ 8 _ _ hq1
  have f9_hq1 := frozen_of_row _ _ 9 _ _ hq1
  simp at r0_hq1 r1_hq1 r2_hq1 r3_hq1 r4_hq1 r5_hq1 r6_hq1 r7_hq1 r8_hq1 r9_hq1
  clear hq1 hq2
  have hgq1 : ¬ w2.heap.size = g := by omega
  have hgq2 : ¬ w3.heap.size = g := by omega
  have hlq1 : w2.heap.size < w4.heap.size := by omega
  have hlq2 : w3.heap.size < w4.heap.size := by omega
  go_wp2_with fail
  go_cut [10, 11] (fun p b wx => ∃ (q3 : Nat) (m : RMac) (A c : _) (bb : Bool), p = .pointer (some ⟨q3, 0, none⟩) ∧ b = .bool bb ∧ Hid (wx.heap[q3]? = some (.cells #[.bool m.u, .int .u64 (uI m.k), .int .u64 (uI m.l), .slice A m.rs.length c] 27 (0, 0))) ∧ w4.heap.size ≤ q3 ∧ Hid (OwnMacRow wx w4.heap.size (.slice A m.rs.length c) m.rs) ∧ Hid (fitRows m.rs) ∧ Hid (Kept w4 (w.heap.size + 1 + 1) g wx))
  case first =>
    go_region_held3 (fun w' => (∀ b' o, b' < w4.heap.size → ¬ b' = g → w'.cell? ⟨b', o, none⟩ = w4.cell? ⟨b', o, none⟩) ∧ Kept w4 (w.heap.size + 1 + 1) g w') (first | with_reducible assumption | with_reducible exact kp_start hc4 | with_reducible exact kp_start_alloc hc4 _ | with_reducible exact kp_alloc (by with_reducible assumption) _ | ((repeat (with_reducible refine kp_set ?_ _ (by first | exact Nat.le_refl _ | omega | (simp; done) | (simp; omega)) _ (by omega))); first | with_reducible assumption | with_reducible exact kp_alloc (by with_reducible assumption) _)) (first | (go_at_call 49; ((with_reducible refine (l1Below_any (B := (w.heap.size + 1 + 1)) ((by with_reducible assumption : _ ∧ Kept _ _ g _).2.cur) 2 (by omega) (by omega)).mono ?_); (rintro e wA ⟨yA, rfl, ⟨hlA, hhA⟩, hcA, hoA⟩; have hSA := kp_draw (by with_reducible assumption) hcA hoA; have hLA := hSA.2.size; have hGA := hSA.2.lt; have hsA := hoA.size; (try simp at hsA); (try have hZA := rowg hoA (by first | omega | (simp; omega))); (try have hZA := rowg_drew hoA (by first | omega | (simp; omega))); have hwy : IntKind.i64.wrap (x.ep - yA) = x.ep - yA := IntWalk.i64_in _ ⟨by omega, by omega⟩; have hwy1 : -2 ≤ x.ep - yA := (by omega); have hwy2 : x.ep - yA ≤ 4294967296 := (by omega)))) | (go_at_call 29; ((with_reducible refine (sSecretOf_any x _ _ _ (fit_len HF1.out) (fit_len HF2.out) (by first | (rw [hwy]; exact ⟨by omega, by omega⟩) | exact ⟨by omega, by omega⟩) ⟨by omega, by omega⟩ _ (H1w4.out.grow (by with_reducible assumption : _ ∧ Kept _ _ g _).2.by_ hlt1).rd (H2w4.out.grow (by with_reducible assumption : _ ∧ Kept _ _ g _).2.by_ hlt1).rd).mono ?_); (rintro e wB ⟨vB, rfl, hOB, hbB⟩; obtain ⟨AB, cB, rfl⟩ := hOB.form; have HOB := Lib.hid hOB; clear hOB; have hSB := kp_below (by with_reducible assumption) hbB; have hLB := hSB.2.size; have hGB := hSB.2.lt; (try have hZB := row_after hbB); (try have hZB := row_after_drew hbB); (try have hZB := row_kept (by with_reducible assumption) hbB); (try (have rz := row_facts hZB; obtain ⟨rz0, rz1, rz2, rz3, rz4, rz5, fz⟩ := rz))))))
    all_goals (go_wp2_with fail; go_meet)
    all_goals
      refine ⟨_, (x.secret (x.ep - yA)).getD ⟨false, 0, 0, []⟩, AB, cB, _, rfl, rfl, Lib.hid ?_, ?_, Lib.hid ?_, Lib.hid (secret_fit HF1.out HF2.out), Lib.hid (show _ ∧ Kept w4 (w.heap.size + 1 + 1) g _ from (by first | with_reducible exact kp_alloc hSB _ | ((repeat (with_reducible refine kp_set ?_ _ (by first | exact Nat.le_refl _ | omega | (simp; done) | (simp; omega)) _ (by omega))); with_reducible exact hSB))).2⟩
      · first | exact heap_alloc_new _ _ | exact stored4 hZB _ _ _ _
      · first | exact Nat.le_refl _ | omega | (simp; omega)
      · first
          | (refine OwnE.mono (base := wA.heap.size) ?_ (by omega); (repeat (first | with_reducible exact HOB.out | (with_reducible refine OwnE.setBelow ?_ (by first | (simp; done) | (simp; omega)) _) | with_reducible refine OwnE.alloc ?_ _)); done)
          | (refine OwnE.mono (base := (wA.alloc (.cells #[.bool false, .int .u64 0, .int .u64 0, .slice none 0 0] 27)).heap.size) ?_ (by simp; omega); (repeat (first | with_reducible exact HOB.out | (with_reducible refine OwnE.setBelow ?_ (by first | (simp; done) | (simp; omega)) _) | with_reducible refine OwnE.alloc ?_ _)); done)
  case rest =>
  obtain ⟨q3, m, A3, c3, bb, rfl, rfl, HQ3, hq3, HOM, HFM, HKP⟩ := hcut
  rename World => w5
  have hz5 := HKP.out.size
  have hc5 := HKP.out.cur
  have hlt5 := hc5.lt
  have H1w5 := Lib.hid (H1w4.out.grow HKP.out.by_ hlt1)
  have H2w5 := Lib.hid (H2w4.out.grow HKP.out.by_ hlt1)
  have hq1 := (HKP.out.row hlq1 hgq1).trans HQ1.out
  have hq2 := (HKP.out.row hlq2 hgq2).trans HQ2.out
  have HQ1w5 := Lib.hid hq1
  have HQ2w5 := Lib.hid hq2
  have hl3 : q3 < w5.heap.size := (Array.getElem?_eq_some_iff.1 HQ3.out).1
  have hgq3 : ¬ q3 = g := by omega
  have hlq1' : w2.heap.size < w5.heap.size := by omega
  have hlq2' : w3.heap.size < w5.heap.size := by omega
  clear r0_hq1 f0_hq1 r1_hq1 f1_hq1 r2_hq1 f2_hq1 r3_hq1 f3_hq1 r4_hq1 f4_hq1 r5_hq1 f5_hq1 r6_hq1 f6_hq1 r7_hq1 f7_hq1 r8_hq1 f8_hq1 r9_hq1 f9_hq1
  have hq3r := HQ3.out
  have r0_hq1 := cell_of_row _ _ 0 _ _ _ hq1
  have r1_hq1 := cell_of_row _ _ 1 _ _ _ hq1
  have r2_hq1 := cell_of_row _ _ 2 _ _ _ hq1
  have r3_hq1 := cell_of_row _ _ 3 _ _ _ hq1
  have r4_hq1 := cell_of_row _ _ 4 _ _ _ hq1
  have r5_hq1 := cell_of_row _ _ 5 _ _ _ hq1
  have r6_hq1 := cell_of_row _ _ 6 _ _ _ hq1
  have r7_hq1 := cell_of_row _ _ 7 _ _ _ hq1
  have r8_hq1 := cell_of_row _ _ 8 _ _ _ hq1
  have r9_hq1 := cell_of_row _ _ 9 _ _ _ hq1
  have f0_hq1 := frozen_of_row _ _ 0 _ _ hq1
  have f1_hq1 := frozen_of_row _ _ 1 _ _ hq1
  have f2_hq1 := frozen_of_row _ _ 2 _ _ hq1
  have f3_hq1 := frozen_of_row _ _ 3 _ _ hq1
  have f4_hq1 := frozen_of_row _ _ 4 _ _ hq1
  have f5_hq1 := frozen_of_row _ _ 5 _ _ hq1
  have f6_hq1 := frozen_of_row _ _ 6 _ _ hq1
  have f7_hq1 := frozen_of_row _ _ 7 _ _ hq1
  have f8_hq1 := frozen_of_row _ _ 8 _ _ hq1
  have f9_hq1 := frozen_of_row _ _ 9 _ _ hq1
  simp at r0_hq1 r1_hq1 r2_hq1 r3_hq1 r4_hq1 r5_hq1 r6_hq1 r7_hq1 r8_hq1 r9_hq1
  have r0_hq2 := cell_of_row _ _ 0 _ _ _ hq2
  have r1_hq2 := cell_of_row _ _ 1 _ _ _ hq2
  have r2_hq2 := cell_of_row _ _ 2 _ _ _ hq2
  have f0_hq2 := frozen_of_row _ _ 0 _ _ hq2
  have f1_hq2 := frozen_of_row _ _ 1 _ _ hq2
  have f2_hq2 := frozen_of_row _ _ 2 _ _ hq2
  simp at r0_hq2 r1_hq2 r2_hq2
  have r0_hq3r := cell_of_row _ _ 0 _ _ _ hq3r
  have r1_hq3r := cell_of_row _ _ 1 _ _ _ hq3r
  have r2_hq3r := cell_of_row _ _ 2 _ _ _ hq3r
  have r3_hq3r := cell_of_row _ _ 3 _ _ _ hq3r
  have f0_hq3r := frozen_of_row _ _ 0 _ _ hq3r
  have f1_hq3r := frozen_of_row _ _ 1 _ _ hq3r
  have f2_hq3r := frozen_of_row _ _ 2 _ _ hq3r
  have f3_hq3r := frozen_of_row _ _ 3 _ _ hq3r
  simp at r0_hq3r r1_hq3r r2_hq3r r3_hq3r
  clear hq1 hq2 hq3r
  go_wp2_with fail
  go_cut [12] (fun z wx => ∃ ck : Int, z = .int .i64 ck ∧ Hid (I64 ck) ∧ Hid (Kept w5 (w.heap.size + 1 + 1) g wx))
  case first =>
    go_region_held3 (fun w' => (∀ b' o, b' < w5.heap.size → ¬ b' = g → w'.cell? ⟨b', o, none⟩ = w5.cell? ⟨b', o, none⟩) ∧ Kept w5 (w.heap.size + 1 + 1) g w') (first | with_reducible assumption | with_reducible exact kp_start hc5 | with_reducible exact kp_start_alloc hc5 _ | with_reducible exact kp_alloc (by with_reducible assumption) _ | ((repeat (with_reducible refine kp_set ?_ _ (by first | exact Nat.le_refl _ | omega | (simp; done) | (simp; omega)) _ (by omega))); first | with_reducible assumption | with_reducible exact kp_alloc (by with_reducible assumption) _)) (first | (go_at_call 49; ((with_reducible refine (l1Below_any (B := (w.heap.size + 1 + 1)) ((by with_reducible assumption : _ ∧ Kept _ _ g _).2.cur) _ (by omega) (by omega)).mono ?_); (rintro e wA ⟨yA, rfl, ⟨hlA, hhA⟩, hcA, hoA⟩; have hSA := kp_draw (by with_reducible assumption) hcA hoA; have hLA := hSA.2.size; have hGA := hSA.2.lt; have hsA := hoA.size; (try simp at hsA); (try have hZA := rowg hoA (by first | omega | (simp; omega))); (try have hZA := rowg_drew hoA (by first | omega | (simp; omega))); have hwy : IntKind.i64.wrap (x.ep - yA) = x.ep - yA := IntWalk.i64_in _ ⟨by omega, by omega⟩))) | (go_at_call 61; ((with_reducible refine (l1Max_bd _ (by omega) (by omega) _).mono ?_); (rintro e w' ⟨⟨yM, rfl, hlM, hhM⟩, rfl⟩))) | (go_at_call 27; ((with_reducible refine (sCookieOf_any m _ x3a x3b x3c x4 _ _ (fit_fits HFM.out) _ (HOM.out.grow (by with_reducible assumption : _ ∧ Kept _ _ g _).2.by_ hlt4).rd).mono ?_); (rintro e wC ⟨rfl, hbC⟩; have hSC := kp_below (by with_reducible assumption) hbC))))
    all_goals (go_wp2_with fail; go_meet; exact ⟨_, rfl, Lib.hid (ck_i64 _ _ _ _ _ _ _), Lib.hid (by with_reducible assumption : _ ∧ Kept w5 (w.heap.size + 1 + 1) g _).2⟩)
  case rest =>
  obtain ⟨ck, rfl, HCK, HKQ⟩ := hcut
  rename World => w6
  have hz6 := HKQ.out.size
  have hc6 := HKQ.out.cur
  have HK6 : Hid (Kept w4 (w.heap.size + 1 + 1) g w6) := Lib.hid ⟨hc6, only_trans HKP.out.by_ HKQ.out.by_⟩
  clear r0_hq1 f0_hq1 r1_hq1 f1_hq1 r2_hq1 f2_hq1 r3_hq1 f3_hq1 r4_hq1 f4_hq1 r5_hq1 f5_hq1 r6_hq1 f6_hq1 r7_hq1 f7_hq1 r8_hq1 f8_hq1 r9_hq1 f9_hq1 r0_hq2 f0_hq2 r1_hq2 f1_hq2 r2_hq2 f2_hq2 r0_hq3r f0_hq3r r1_hq3r f1_hq3r r2_hq3r f2_hq3r r3_hq3r f3_hq3r
  go_wp2_with fail
  refine (l1Below_any (B := (w.heap.size + 1 + 1)) hc6 4 (by omega) (by omega)).mono ?_
  rintro e w7 ⟨y7, rfl, ⟨hl7, hh7⟩, hc7, ho7⟩
  have hz7 := ho7.size
  have HK7 : Hid (Kept w4 (w.heap.size + 1 + 1) g w7) := Lib.hid ⟨hc7, only_trans HK6.out.by_ ho7⟩
  have hq3r := (grow ho7 (by omega) hgq3).trans ((HKQ.out.row hl3 hgq3).trans HQ3.out)
  have HQ37 := Lib.hid hq3r
  clear hq3r
  by_cases k0 : y7 = 0
  · subst k0
    go_wp2_with fail
    refine (l4Near_any hc7 ck HCK.out.1 HCK.out.2).mono ?_
    rintro e w8 ⟨x8, rfl, hi8, hc8, ho8⟩
    have HK8 : Hid (Kept w4 (w.heap.size + 1 + 1) g w8) := Lib.hid ⟨hc8, only_trans HK7.out.by_ ho8⟩
    have HV8 := Lib.hid hi8
    clear hi8 ho8
    have hzz := HK8.out.size
    have hrk := (HK8.out.row (b := w.heap.size) (by omega) (by omega)).trans HRK.out
    have hrt := (HK8.out.row (b := w.heap.size + 1) (by omega) (by omega)).trans HRT.out
    have hq1 := (HK8.out.row hlq1 hgq1).trans HQ1.out
    have hq2 := (HK8.out.row hlq2 hgq2).trans HQ2.out
    have H1z := Lib.hid (H1w4.out.grow HK8.out.by_ hlt1)
    have H2z := Lib.hid (H2w4.out.grow HK8.out.by_ hlt1)
    have hwz : Below w.heap.size w w8 := hw4.trans (only_below HK8.out.by_ (by omega) (by omega))
    have HRKz := Lib.hid hrk
    have HRTz := Lib.hid hrt
    have r0_hrk := cell_of_row _ _ 0 _ _ _ hrk
    have r1_hrk := cell_of_row _ _ 1 _ _ _ hrk
    have r2_hrk := cell_of_row _ _ 2 _ _ _ hrk
    have r3_hrk := cell_of_row _ _ 3 _ _ _ hrk
    have r4_hrk := cell_of_row _ _ 4 _ _ _ hrk
    have r5_hrk := cell_of_row _ _ 5 _ _ _ hrk
    have r6_hrk := cell_of_row _ _ 6 _ _ _ hrk
    have r7_hrk := cell_of_row _ _ 7 _ _ _ hrk
    have r8_hrk := cell_of_row _ _ 8 _ _ _ hrk
    have r9_hrk := cell_of_row _ _ 9 _ _ _ hrk
    have f0_hrk := frozen_of_row _ _ 0 _ _ hrk
    have f1_hrk := frozen_of_row _ _ 1 _ _ hrk
    have f2_hrk := frozen_of_row _ _ 2 _ _ hrk
    have f3_hrk := frozen_of_row _ _ 3 _ _ hrk
    have f4_hrk := frozen_of_row _ _ 4 _ _ hrk
    have f5_hrk := frozen_of_row _ _ 5 _ _ hrk
    have f6_hrk := frozen_of_row _ _ 6 _ _ hrk
    have f7_hrk := frozen_of_row _ _ 7 _ _ hrk
    have f8_hrk := frozen_of_row _ _ 8 _ _ hrk
    have f9_hrk := frozen_of_row _ _ 9 _ _ hrk
    simp at r0_hrk r1_hrk r2_hrk r3_hrk r4_hrk r5_hrk r6_hrk r7_hrk r8_hrk r9_hrk
    have r0_hrt := cell_of_row _ _ 0 _ _ _ hrt
    have r1_hrt := cell_of_row _ _ 1 _ _ _ hrt
    have r2_hrt := cell_of_row _ _ 2 _ _ _ hrt
    have f0_hrt := frozen_of_row _ _ 0 _ _ hrt
    have f1_hrt := frozen_of_row _ _ 1 _ _ hrt
    have f2_hrt := frozen_of_row _ _ 2 _ _ hrt
    simp at r0_hrt r1_hrt r2_hrt
    have r0_hq1 := cell_of_row _ _ 0 _ _ _ hq1
    have r1_hq1 := cell_of_row _ _ 1 _ _ _ hq1
    have r2_hq1 := cell_of_row _ _ 2 _ _ _ hq1
    have r3_hq1 := cell_of_row _ _ 3 _ _ _ hq1
    have r4_hq1 := cell_of_row _ _ 4 _ _ _ hq1
    have r5_hq1 := cell_of_row _ _ 5 _ _ _ hq1
    have r6_hq1 := cell_of_row _ _ 6 _ _ _ hq1
    have r7_hq1 := cell_of_row _ _ 7 _ _ _ hq1
    have r8_hq1 := cell_of_row _ _ 8 _ _ _ hq1
    have r9_hq1 := cell_of_row _ _ 9 _ _ _ hq1
    have f0_hq1 := frozen_of_row _ _ 0 _ _ hq1
    have f1_hq1 := frozen_of_row _ _ 1 _ _ hq1
    have f2_hq1 := frozen_of_row _ _ 2 _ _ hq1
    have f3_hq1 := frozen_of_row _ _ 3 _ _ hq1
    have f4_hq1 := frozen_of_row _ _ 4 _ _ hq1
    have f5_hq1 := frozen_of_row _ _ 5 _ _ hq1
    have f6_hq1 := frozen_of_row _ _ 6 _ _ hq1
    have f7_hq1 := frozen_of_row _ _ 7 _ _ hq1
    have f8_hq1 := frozen_of_row _ _ 8 _ _ hq1
    have f9_hq1 := frozen_of_row _ _ 9 _ _ hq1
    simp at r0_hq1 r1_hq1 r2_hq1 r3_hq1 r4_hq1 r5_hq1 r6_hq1 r7_hq1 r8_hq1 r9_hq1
    have r0_hq2 := cell_of_row _ _ 0 _ _ _ hq2
    have r1_hq2 := cell_of_row _ _ 1 _ _ _ hq2
    have r2_hq2 := cell_of_row _ _ 2 _ _ _ hq2
    have f0_hq2 := frozen_of_row _ _ 0 _ _ hq2
    have f1_hq2 := frozen_of_row _ _ 1 _ _ hq2
    have f2_hq2 := frozen_of_row _ _ 2 _ _ hq2
    simp at r0_hq2 r1_hq2 r2_hq2
    clear hrk hrt hq1 hq2
    go_wp2_with fail
    go_region_with (fail)
    all_goals
      go_wp2_with fail
      apply bodyPost_ret (results_row_row_tt (P := Try.prog) (fn := Try.f24) rfl _ _ _ 29 _ (0, 0) _ _ 33 _ (0, 0) _ rfl rfl _ _ Try.underlying29 rfl _ Try.underlying33 rfl _) rfl
      rotate_left 3
      · repeat (first | (with_reducible apply heap_setCell_same) | (with_reducible apply drew_row) | (with_reducible apply drewN_row) | (with_reducible exact HRKz.out) | (with_reducible refine (heap_setCell_other _ _ _ _ (by first | omega | (simp; done) | (simp; omega))).trans ?_) | (with_reducible refine (Below.heap_alloc _ _ _ (by first | omega | (simp; done) | (simp; omega))).trans ?_))
      · repeat (first | (with_reducible apply heap_setCell_same) | (with_reducible apply drew_row) | (with_reducible apply drewN_row) | (with_reducible exact HRTz.out) | (with_reducible refine (heap_setCell_other _ _ _ _ (by first | omega | (simp; done) | (simp; omega))).trans ?_) | (with_reducible refine (Below.heap_alloc _ _ _ (by first | omega | (simp; done) | (simp; omega))).trans ?_))
      · kernel_rfl
      · kernel_rfl
      exact ⟨x, .slice A1 x.now.rs.length c1, .slice A2 x.bef.rs.length c2, x3a, x3b, x3c, x4, x8, by simp [Act.put], OwnE.mono (base := w1.heap.size) (by repeat (first | with_reducible exact H1z.out | (with_reducible refine OwnE.setBelow ?_ (by first | (simp; done) | (simp; omega)) _) | with_reducible refine OwnE.alloc ?_ _ | with_reducible refine OwnE.drew ?_)) (by omega), OwnE.mono (base := w1.heap.size) (by repeat (first | with_reducible exact H2z.out | (with_reducible refine OwnE.setBelow ?_ (by first | (simp; done) | (simp; omega)) _) | with_reducible refine OwnE.alloc ?_ _ | with_reducible refine OwnE.drew ?_)) (by omega), HF1.out, HF2.out, ⟨he1, he2⟩, hi4, HV8.out, (by repeat (first | with_reducible exact Below.refl _ _ | with_reducible assumption | with_reducible refine Below.drew ?_ | with_reducible refine Below.alloc ?_ (by first | exact Nat.le_refl _ | omega | (simp; done) | (simp; omega)) _ | with_reducible refine Below.setCell ?_ (by first | exact Nat.le_refl _ | omega | (simp; done) | (simp; omega)) _ | (with_reducible refine ext_trans ?_ (by with_reducible assumption))))⟩
  have e0 : (y7 == 0) = false := by simpa using k0
  by_cases k1 : y7 = 1
  · subst k1
    obtain ⟨m', hm'⟩ : ∃ m', (x.secret x.ep).getD ⟨false, 0, 0, []⟩ = m' := ⟨_, rfl⟩
    have hfm' : fitRows m'.rs := by rw [← hm']; exact secret_fit HF1.out HF2.out
    have HFM' := Lib.hid hfm'
    have hsc := fun W v1 v2 h1 h2 => sSecretOf_any x v1 v2 x.ep (fit_len HF1.out) (fit_len HF2.out) ⟨by omega, by omega⟩ ⟨by omega, by omega⟩ W h1 h2
    rw [hm'] at hsc
    have HSC := Lib.hid hsc
    clear hsc hm' hfm' k0 e0
    have hq1 := (HK7.out.row hlq1 hgq1).trans HQ1.out
    have r0_hq1 := cell_of_row _ _ 0 _ _ _ hq1
    have r1_hq1 := cell_of_row _ _ 1 _ _ _ hq1
    have r2_hq1 := cell_of_row _ _ 2 _ _ _ hq1
    have r3_hq1 := cell_of_row _ _ 3 _ _ _ hq1
    have r4_hq1 := cell_of_row _ _ 4 _ _ _ hq1
    have r5_hq1 := cell_of_row _ _ 5 _ _ _ hq1
    have r6_hq1 := cell_of_row _ _ 6 _ _ _ hq1
    have r7_hq1 := cell_of_row _ _ 7 _ _ _ hq1
    have r8_hq1 := cell_of_row _ _ 8 _ _ _ hq1
    have r9_hq1 := cell_of_row _ _ 9 _ _ _ hq1
    have f0_hq1 := frozen_of_row _ _ 0 _ _ hq1
    have f1_hq1 := frozen_of_row _ _ 1 _ _ hq1
    have f2_hq1 := frozen_of_row _ _ 2 _ _ hq1
    have f3_hq1 := frozen_of_row _ _ 3 _ _ hq1
    have f4_hq1 := frozen_of_row _ _ 4 _ _ hq1
    have f5_hq1 := frozen_of_row _ _ 5 _ _ hq1
    have f6_hq1 := frozen_of_row _ _ 6 _ _ hq1
    have f7_hq1 := frozen_of_row _ _ 7 _ _ hq1
    have f8_hq1 := frozen_of_row _ _ 8 _ _ hq1
    have f9_hq1 := frozen_of_row _ _ 9 _ _ hq1
    simp at r0_hq1 r1_hq1 r2_hq1 r3_hq1 r4_hq1 r5_hq1 r6_hq1 r7_hq1 r8_hq1 r9_hq1
    clear hq1
    go_wp2_with fail
    refine (HSC.out _ _ _ (H1w4.out.grow HK7.out.by_ hlt1).rd (H2w4.out.grow HK7.out.by_ hlt1).rd).mono ?_
    rintro e w8 ⟨v8, rfl, hO8, hb8⟩
    obtain ⟨A8, c8, rfl⟩ := hO8.form
    have HO8 := Lib.hid hO8
    have hz8 := hb8.size
    have hc8 : Cur w8 (w.heap.size + 1 + 1) g := hc7.grown (grown_below hb8 none) (fun _ h => by cases h)
    have hk8 : w7.grownBy w8 (some g) := grown_below hb8 _
    have hq3r := (hb8.block q3 (by omega)).trans HQ37.out
    have HQ38 := Lib.hid hq3r
    clear hO8 r0_hq1 f0_hq1 r1_hq1 f1_hq1 r2_hq1 f2_hq1 r3_hq1 f3_hq1 r4_hq1 f4_hq1 r5_hq1 f5_hq1 r6_hq1 f6_hq1 r7_hq1 f7_hq1 r8_hq1 f8_hq1 r9_hq1 f9_hq1
    have r0_hq3r := cell_of_row _ _ 0 _ _ _ hq3r
    have r1_hq3r := cell_of_row _ _ 1 _ _ _ hq3r
    have r2_hq3r := cell_of_row _ _ 2 _ _ _ hq3r
    have r3_hq3r := cell_of_row _ _ 3 _ _ _ hq3r
    have f0_hq3r := frozen_of_row _ _ 0 _ _ hq3r
    have f1_hq3r := frozen_of_row _ _ 1 _ _ hq3r
    have f2_hq3r := frozen_of_row _ _ 2 _ _ hq3r
    have f3_hq3r := frozen_of_row _ _ 3 _ _ hq3r
    simp at r0_hq3r r1_hq3r r2_hq3r r3_hq3r
    clear hq3r
    go_wp2_with fail
    have hq3n := stored4 HQ38.out (.bool m'.u) (.int .u64 (uI m'.k)) (.int .u64 (uI m'.l)) (.slice A8 m'.rs.length c8)
    have HO9 := Lib.hid (((((HO8.out.setBelow (a := ⟨q3, 0, none⟩) (by show q3 < w7.heap.size; omega) (.bool m'.u)).setBelow (a := ⟨q3, 1, none⟩) (by show q3 < w7.heap.size; omega) (.int .u64 (uI m'.k))).setBelow (a := ⟨q3, 2, none⟩) (by show q3 < w7.heap.size; omega) (.int .u64 (uI m'.l))).setBelow (a := ⟨q3, 3, none⟩) (by show q3 < w7.heap.size; omega) (.slice A8 m'.rs.length c8)))
    have hz9 : w8.heap.size = ((((w8.setCell ⟨q3, 0, none⟩ (.bool m'.u)).setCell ⟨q3, 1, none⟩ (.int .u64 (uI m'.k))).setCell ⟨q3, 2, none⟩ (.int .u64 (uI m'.l))).setCell ⟨q3, 3, none⟩ (.slice A8 m'.rs.length c8)).heap.size := by simp
    have hc9 : Cur ((((w8.setCell ⟨q3, 0, none⟩ (.bool m'.u)).setCell ⟨q3, 1, none⟩ (.int .u64 (uI m'.k))).setCell ⟨q3, 2, none⟩ (.int .u64 (uI m'.l))).setCell ⟨q3, 3, none⟩ (.slice A8 m'.rs.length c8)) (w.heap.size + 1 + 1) g := (by repeat (first | with_reducible assumption | with_reducible refine Cur.alloc ?_ _ | with_reducible refine Cur.drew ?_ | with_reducible refine Cur.setOther ?_ (by first | omega | (simp; done) | (simp; omega)) (by first | omega | (simp; done) | (simp; omega)) _))
    have hk9 : w4.grownBy ((((w8.setCell ⟨q3, 0, none⟩ (.bool m'.u)).setCell ⟨q3, 1, none⟩ (.int .u64 (uI m'.k))).setCell ⟨q3, 2, none⟩ (.int .u64 (uI m'.l))).setCell ⟨q3, 3, none⟩ (.slice A8 m'.rs.length c8)) (some g) := only_setNew (only_setNew (only_setNew (only_setNew (only_trans HK7.out.by_ hk8) hq3 _) hq3 _) hq3 _) hq3 _
    clear r0_hq3r f0_hq3r r1_hq3r f1_hq3r r2_hq3r f2_hq3r r3_hq3r f3_hq3r
    generalize ((((w8.setCell ⟨q3, 0, none⟩ (.bool m'.u)).setCell ⟨q3, 1, none⟩ (.int .u64 (uI m'.k))).setCell ⟨q3, 2, none⟩ (.int .u64 (uI m'.l))).setCell ⟨q3, 3, none⟩ (.slice A8 m'.rs.length c8)) = w9 at *
    have HK9 : Hid (Kept w4 (w.heap.size + 1 + 1) g w9) := Lib.hid ⟨hc9, hk9⟩
    have hq1 := (HK9.out.row hlq1 hgq1).trans HQ1.out
    have hq2 := (HK9.out.row hlq2 hgq2).trans HQ2.out
    have hl9a : w2.heap.size < w9.heap.size := by omega
    have hl9b : w3.heap.size < w9.heap.size := by omega
    have hl9c : q3 < w9.heap.size := by omega
    have hl9d : g < w9.heap.size := by omega
    have r0_hq1 := cell_of_row _ _ 0 _ _ _ hq1
    have r1_hq1 := cell_of_row _ _ 1 _ _ _ hq1
    have r2_hq1 := cell_of_row _ _ 2 _ _ _ hq1
    have r3_hq1 := cell_of_row _ _ 3 _ _ _ hq1
    have r4_hq1 := cell_of_row _ _ 4 _ _ _ hq1
    have r5_hq1 := cell_of_row _ _ 5 _ _ _ hq1
    have r6_hq1 := cell_of_row _ _ 6 _ _ _ hq1
    have r7_hq1 := cell_of_row _ _ 7 _ _ _ hq1
    have r8_hq1 := cell_of_row _ _ 8 _ _ _ hq1
    have r9_hq1 := cell_of_row _ _ 9 _ _ _ hq1
    have f0_hq1 := frozen_of_row _ _ 0 _ _ hq1
    have f1_hq1 := frozen_of_row _ _ 1 _ _ hq1
    have f2_hq1 := frozen_of_row _ _ 2 _ _ hq1
    have f3_hq1 := frozen_of_row _ _ 3 _ _ hq1
    have f4_hq1 := frozen_of_row _ _ 4 _ _ hq1
    have f5_hq1 := frozen_of_row _ _ 5 _ _ hq1
    have f6_hq1 := frozen_of_row _ _ 6 _ _ hq1
    have f7_hq1 := frozen_of_row _ _ 7 _ _ hq1
    have f8_hq1 := frozen_of_row _ _ 8 _ _ hq1
    have f9_hq1 := frozen_of_row _ _ 9 _ _ hq1
    simp at r0_hq1 r1_hq1 r2_hq1 r3_hq1 r4_hq1 r5_hq1 r6_hq1 r7_hq1 r8_hq1 r9_hq1
    have r0_hq2 := cell_of_row _ _ 0 _ _ _ hq2
    have r1_hq2 := cell_of_row _ _ 1 _ _ _ hq2
    have r2_hq2 := cell_of_row _ _ 2 _ _ _ hq2
    have f0_hq2 := frozen_of_row _ _ 0 _ _ hq2
    have f1_hq2 := frozen_of_row _ _ 1 _ _ hq2
    have f2_hq2 := frozen_of_row _ _ 2 _ _ hq2
    simp at r0_hq2 r1_hq2 r2_hq2
    have r0_hq3n := cell_of_row _ _ 0 _ _ _ hq3n
    have r1_hq3n := cell_of_row _ _ 1 _ _ _ hq3n
    have r2_hq3n := cell_of_row _ _ 2 _ _ _ hq3n
    have r3_hq3n := cell_of_row _ _ 3 _ _ _ hq3n
    have f0_hq3n := frozen_of_row _ _ 0 _ _ hq3n
    have f1_hq3n := frozen_of_row _ _ 1 _ _ hq3n
    have f2_hq3n := frozen_of_row _ _ 2 _ _ hq3n
    have f3_hq3n := frozen_of_row _ _ 3 _ _ hq3n
    simp at r0_hq3n r1_hq3n r2_hq3n r3_hq3n
    clear hq1 hq2 hq3n
    go_region_held3 (fun w' => (∀ b' o, b' < w9.heap.size → ¬ b' = g → w'.cell? ⟨b', o, none⟩ = w9.cell? ⟨b', o, none⟩) ∧ Kept w9 (w.heap.size + 1 + 1) g w') (first | with_reducible assumption | with_reducible exact kp_start hc9 | with_reducible exact kp_start_alloc hc9 _ | with_reducible exact kp_alloc (by with_reducible assumption) _ | ((repeat (with_reducible refine kp_set ?_ _ (by first | exact Nat.le_refl _ | omega | (simp; done) | (simp; omega)) _ (by omega))); first | with_reducible assumption | with_reducible exact kp_alloc (by with_reducible assumption) _)) (first | (go_at_call 49; ((with_reducible refine (l1Below_any (B := (w.heap.size + 1 + 1)) ((by with_reducible assumption : _ ∧ Kept _ _ g _).2.cur) _ (by omega) (by omega)).mono ?_); (rintro e wA ⟨yA, rfl, ⟨hlA, hhA⟩, hcA, hoA⟩; have hSA := kp_draw (by with_reducible assumption) hcA hoA; have hLA := hSA.2.size; have hGA := hSA.2.lt; have hsA := hoA.size; (try simp at hsA); (try have hZA := rowg hoA (by first | omega | (simp; omega))); (try have hZA := rowg_drew hoA (by first | omega | (simp; omega)))))) | (go_at_call 27; ((with_reducible refine (sCookieOf_any m' _ x3a x3b x3c x4 _ _ (fit_fits HFM'.out) _ (HO9.out.grow (by with_reducible assumption : _ ∧ Kept _ _ g _).2.by_ (by omega)).rd).mono ?_); (rintro e wC ⟨rfl, hbC⟩; have hSC := kp_below (by with_reducible assumption) hbC))))
    have hK9C := (by with_reducible assumption : _ ∧ Kept w9 (w.heap.size + 1 + 1) g wC).2
    have HK10 : Hid (Kept w4 (w.heap.size + 1 + 1) g wC) := Lib.hid ⟨hK9C.cur, only_trans HK9.out.by_ hK9C.by_⟩
    have HV10 : Hid (I64 (cookieI m' x3a x3b x3c x4 x.ep yA)) := Lib.hid (ck_i64 _ _ _ _ _ _ _)
    have hzz := HK10.out.size
    have hrk := (HK10.out.row (b := w.heap.size) (by omega) (by omega)).trans HRK.out
    have hrt := (HK10.out.row (b := w.heap.size + 1) (by omega) (by omega)).trans HRT.out
    have hq1 := (HK10.out.row hlq1 hgq1).trans HQ1.out
    have hq2 := (HK10.out.row hlq2 hgq2).trans HQ2.out
    have H1z := Lib.hid (H1w4.out.grow HK10.out.by_ hlt1)
    have H2z := Lib.hid (H2w4.out.grow HK10.out.by_ hlt1)
    have hwz : Below w.heap.size w wC := hw4.trans (only_below HK10.out.by_ (by omega) (by omega))
    have HRKz := Lib.hid hrk
    have HRTz := Lib.hid hrt
    have r0_hrk := cell_of_row _ _ 0 _ _ _ hrk
    have r1_hrk := cell_of_row _ _ 1 _ _ _ hrk
    have r2_hrk := cell_of_row _ _ 2 _ _ _ hrk
    have r3_hrk := cell_of_row _ _ 3 _ _ _ hrk
    have r4_hrk := cell_of_row _ _ 4 _ _ _ hrk
    have r5_hrk := cell_of_row _ _ 5 _ _ _ hrk
    have r6_hrk := cell_of_row _ _ 6 _ _ _ hrk
    have r7_hrk := cell_of_row _ _ 7 _ _ _ hrk
    have r8_hrk := cell_of_row _ _ 8 _ _ _ hrk
    have r9_hrk := cell_of_row _ _ 9 _ _ _ hrk
    have f0_hrk := frozen_of_row _ _ 0 _ _ hrk
    have f1_hrk := frozen_of_row _ _ 1 _ _ hrk
    have f2_hrk := frozen_of_row _ _ 2 _ _ hrk
    have f3_hrk := frozen_of_row _ _ 3 _ _ hrk
    have f4_hrk := frozen_of_row _ _ 4 _ _ hrk
    have f5_hrk := frozen_of_row _ _ 5 _ _ hrk
    have f6_hrk := frozen_of_row _ _ 6 _ _ hrk
    have f7_hrk := frozen_of_row _ _ 7 _ _ hrk
    have f8_hrk := frozen_of_row _ _ 8 _ _ hrk
    have f9_hrk := frozen_of_row _ _ 9 _ _ hrk
    simp at r0_hrk r1_hrk r2_hrk r3_hrk r4_hrk r5_hrk r6_hrk r7_hrk r8_hrk r9_hrk
    have r0_hrt := cell_of_row _ _ 0 _ _ _ hrt
    have r1_hrt := cell_of_row _ _ 1 _ _ _ hrt
    have r2_hrt := cell_of_row _ _ 2 _ _ _ hrt
    have f0_hrt := frozen_of_row _ _ 0 _ _ hrt
    have f1_hrt := frozen_of_row _ _ 1 _ _ hrt
    have f2_hrt := frozen_of_row _ _ 2 _ _ hrt
    simp at r0_hrt r1_hrt r2_hrt
    have r0_hq1 := cell_of_row _ _ 0 _ _ _ hq1
    have r1_hq1 := cell_of_row _ _ 1 _ _ _ hq1
    have r2_hq1 := cell_of_row _ _ 2 _ _ _ hq1
    have r3_hq1 := cell_of_row _ _ 3 _ _ _ hq1
    have r4_hq1 := cell_of_row _ _ 4 _ _ _ hq1
    have r5_hq1 := cell_of_row _ _ 5 _ _ _ hq1
    have r6_hq1 := cell_of_row _ _ 6 _ _ _ hq1
    have r7_hq1 := cell_of_row _ _ 7 _ _ _ hq1
    have r8_hq1 := cell_of_row _ _ 8 _ _ _ hq1
    have r9_hq1 := cell_of_row _ _ 9 _ _ _ hq1
    have f0_hq1 := frozen_of_row _ _ 0 _ _ hq1
    have f1_hq1 := frozen_of_row _ _ 1 _ _ hq1
    have f2_hq1 := frozen_of_row _ _ 2 _ _ hq1
    have f3_hq1 := frozen_of_row _ _ 3 _ _ hq1
    have f4_hq1 := frozen_of_row _ _ 4 _ _ hq1
    have f5_hq1 := frozen_of_row _ _ 5 _ _ hq1
    have f6_hq1 := frozen_of_row _ _ 6 _ _ hq1
    have f7_hq1 := frozen_of_row _ _ 7 _ _ hq1
    have f8_hq1 := frozen_of_row _ _ 8 _ _ hq1
    have f9_hq1 := frozen_of_row _ _ 9 _ _ hq1
    simp at r0_hq1 r1_hq1 r2_hq1 r3_hq1 r4_hq1 r5_hq1 r6_hq1 r7_hq1 r8_hq1 r9_hq1
    have r0_hq2 := cell_of_row _ _ 0 _ _ _ hq2
    have r1_hq2 := cell_of_row _ _ 1 _ _ _ hq2
    have r2_hq2 := cell_of_row _ _ 2 _ _ _ hq2
    have f0_hq2 := frozen_of_row _ _ 0 _ _ hq2
    have f1_hq2 := frozen_of_row _ _ 1 _ _ hq2
    have f2_hq2 := frozen_of_row _ _ 2 _ _ hq2
    simp at r0_hq2 r1_hq2 r2_hq2
    clear hrk hrt hq1 hq2
    go_wp2_with fail
    go_region_with (fail)
    all_goals
      go_wp2_with fail
      apply bodyPost_ret (results_row_row_tt (P := Try.prog) (fn := Try.f24) rfl _ _ _ 29 _ (0, 0) _ _ 33 _ (0, 0) _ rfl rfl _ _ Try.underlying29 rfl _ Try.underlying33 rfl _) rfl
      rotate_left 3
      · repeat (first | (with_reducible apply heap_setCell_same) | (with_reducible apply drew_row) | (with_reducible apply drewN_row) | (with_reducible exact HRKz.out) | (with_reducible refine (heap_setCell_other _ _ _ _ (by first | omega | (simp; done) | (simp; omega))).trans ?_) | (with_reducible refine (Below.heap_alloc _ _ _ (by first | omega | (simp; done) | (simp; omega))).trans ?_))
      · repeat (first | (with_reducible apply heap_setCell_same) | (with_reducible apply drew_row) | (with_reducible apply drewN_row) | (with_reducible exact HRTz.out) | (with_reducible refine (heap_setCell_other _ _ _ _ (by first | omega | (simp; done) | (simp; omega))).trans ?_) | (with_reducible refine (Below.heap_alloc _ _ _ (by first | omega | (simp; done) | (simp; omega))).trans ?_))
      · kernel_rfl
      · kernel_rfl
      exact ⟨x, .slice A1 x.now.rs.length c1, .slice A2 x.bef.rs.length c2, x3a, x3b, x3c, x4, (cookieI m' x3a x3b x3c x4 x.ep yA), by simp [Act.put], OwnE.mono (base := w1.heap.size) (by repeat (first | with_reducible exact H1z.out | (with_reducible refine OwnE.setBelow ?_ (by first | (simp; done) | (simp; omega)) _) | with_reducible refine OwnE.alloc ?_ _ | with_reducible refine OwnE.drew ?_)) (by omega), OwnE.mono (base := w1.heap.size) (by repeat (first | with_reducible exact H2z.out | (with_reducible refine OwnE.setBelow ?_ (by first | (simp; done) | (simp; omega)) _) | with_reducible refine OwnE.alloc ?_ _ | with_reducible refine OwnE.drew ?_)) (by omega), HF1.out, HF2.out, ⟨he1, he2⟩, hi4, HV10.out, (by repeat (first | with_reducible exact Below.refl _ _ | with_reducible assumption | with_reducible refine Below.drew ?_ | with_reducible refine Below.alloc ?_ (by first | exact Nat.le_refl _ | omega | (simp; done) | (simp; omega)) _ | with_reducible refine Below.setCell ?_ (by first | exact Nat.le_refl _ | omega | (simp; done) | (simp; omega)) _ | (with_reducible refine ext_trans ?_ (by with_reducible assumption))))⟩
  have e1 : (y7 == 1) = false := by simpa using k1
  clear k0 k1
  have hzz := HK7.out.size
  have hrk := (HK7.out.row (b := w.heap.size) (by omega) (by omega)).trans HRK.out
  have hrt := (HK7.out.row (b := w.heap.size + 1) (by omega) (by omega)).trans HRT.out
  have hq1 := (HK7.out.row hlq1 hgq1).trans HQ1.out
  have hq2 := (HK7.out.row hlq2 hgq2).trans HQ2.out
  have H1z := Lib.hid (H1w4.out.grow HK7.out.by_ hlt1)
  have H2z := Lib.hid (H2w4.out.grow HK7.out.by_ hlt1)
  have hwz : Below w.heap.size w w7 := hw4.trans (only_below HK7.out.by_ (by omega) (by omega))
  have HRKz := Lib.hid hrk
  have HRTz := Lib.hid hrt
  have r0_hrk := cell_of_row _ _ 0 _ _ _ hrk
  have r1_hrk := cell_of_row _ _ 1 _ _ _ hrk
  have r2_hrk := cell_of_row _ _ 2 _ _ _ hrk
  have r3_hrk := cell_of_row _ _ 3 _ _ _ hrk
  have r4_hrk := cell_of_row _ _ 4 _ _ _ hrk
  have r5_hrk := cell_of_row _ _ 5 _ _ _ hrk
  have r6_hrk := cell_of_row _ _ 6 _ _ _ hrk
  have r7_hrk := cell_of_row _ _ 7 _ _ _ hrk
  have r8_hrk := cell_of_row _ _ 8 _ _ _ hrk
  have r9_hrk := cell_of_row _ _ 9 _ _ _ hrk
  have f0_hrk := frozen_of_row _ _ 0 _ _ hrk
  have f1_hrk := frozen_of_row _ _ 1 _ _ hrk
  have f2_hrk := frozen_of_row _ _ 2 _ _ hrk
  have f3_hrk := frozen_of_row _ _ 3 _ _ hrk
  have f4_hrk := frozen_of_row _ _ 4 _ _ hrk
  have f5_hrk := frozen_of_row _ _ 5 _ _ hrk
  have f6_hrk := frozen_of_row _ _ 6 _ _ hrk
  have f7_hrk := frozen_of_row _ _ 7 _ _ hrk
  have f8_hrk := frozen_of_row _ _ 8 _ _ hrk
  have f9_hrk := frozen_of_row _ _ 9 _ _ hrk
  simp at r0_hrk r1_hrk r2_hrk r3_hrk r4_hrk r5_hrk r6_hrk r7_hrk r8_hrk r9_hrk
  have r0_hrt := cell_of_row _ _ 0 _ _ _ hrt
  have r1_hrt := cell_of_row _ _ 1 _ _ _ hrt
  have r2_hrt := cell_of_row _ _ 2 _ _ _ hrt
  have f0_hrt := frozen_of_row _ _ 0 _ _ hrt
  have f1_hrt := frozen_of_row _ _ 1 _ _ hrt
  have f2_hrt := frozen_of_row _ _ 2 _ _ hrt
  simp at r0_hrt r1_hrt r2_hrt
  have r0_hq1 := cell_of_row _ _ 0 _ _ _ hq1
  have r1_hq1 := cell_of_row _ _ 1 _ _ _ hq1
  have r2_hq1 := cell_of_row _ _ 2 _ _ _ hq1
  have r3_hq1 := cell_of_row _ _ 3 _ _ _ hq1
  have r4_hq1 := cell_of_row _ _ 4 _ _ _ hq1
  have r5_hq1 := cell_of_row _ _ 5 _ _ _ hq1
  have r6_hq1 := cell_of_row _ _ 6 _ _ _ hq1
  have r7_hq1 := cell_of_row _ _ 7 _ _ _ hq1
  have r8_hq1 := cell_of_row _ _ 8 _ _ _ hq1
  have r9_hq1 := cell_of_row _ _ 9 _ _ _ hq1
  have f0_hq1 := frozen_of_row _ _ 0 _ _ hq1
  have f1_hq1 := frozen_of_row _ _ 1 _ _ hq1
  have f2_hq1 := frozen_of_row _ _ 2 _ _ hq1
  have f3_hq1 := frozen_of_row _ _ 3 _ _ hq1
  have f4_hq1 := frozen_of_row _ _ 4 _ _ hq1
  have f5_hq1 := frozen_of_row _ _ 5 _ _ hq1
  have f6_hq1 := frozen_of_row _ _ 6 _ _ hq1
  have f7_hq1 := frozen_of_row _ _ 7 _ _ hq1
  have f8_hq1 := frozen_of_row _ _ 8 _ _ hq1
  have f9_hq1 := frozen_of_row _ _ 9 _ _ hq1
  simp at r0_hq1 r1_hq1 r2_hq1 r3_hq1 r4_hq1 r5_hq1 r6_hq1 r7_hq1 r8_hq1 r9_hq1
  have r0_hq2 := cell_of_row _ _ 0 _ _ _ hq2
  have r1_hq2 := cell_of_row _ _ 1 _ _ _ hq2
  have r2_hq2 := cell_of_row _ _ 2 _ _ _ hq2
  have f0_hq2 := frozen_of_row _ _ 0 _ _ hq2
  have f1_hq2 := frozen_of_row _ _ 1 _ _ hq2
  have f2_hq2 := frozen_of_row _ _ 2 _ _ hq2
  simp at r0_hq2 r1_hq2 r2_hq2
  clear hrk hrt hq1 hq2
  go_wp2_with fail
  go_region_with (fail)
  all_goals
    go_wp2_with fail
    apply bodyPost_ret (results_row_row_tt (P := Try.prog) (fn := Try.f24) rfl _ _ _ 29 _ (0, 0) _ _ 33 _ (0, 0) _ rfl rfl _ _ Try.underlying29 rfl _ Try.underlying33 rfl _) rfl
    rotate_left 3
    · repeat (first | (with_reducible apply heap_setCell_same) | (with_reducible apply drew_row) | (with_reducible apply drewN_row) | (with_reducible exact HRKz.out) | (with_reducible refine (heap_setCell_other _ _ _ _ (by first | omega | (simp; done) | (simp; omega))).trans ?_) | (with_reducible refine (Below.heap_alloc _ _ _ (by first | omega | (simp; done) | (simp; omega))).trans ?_))
    · repeat (first | (with_reducible apply heap_setCell_same) | (with_reducible apply drew_row) | (with_reducible apply drewN_row) | (with_reducible exact HRTz.out) | (with_reducible refine (heap_setCell_other _ _ _ _ (by first | omega | (simp; done) | (simp; omega))).trans ?_) | (with_reducible refine (Below.heap_alloc _ _ _ (by first | omega | (simp; done) | (simp; omega))).trans ?_))
    · kernel_rfl
    · kernel_rfl
    exact ⟨x, .slice A1 x.now.rs.length c1, .slice A2 x.bef.rs.length c2, x3a, x3b, x3c, x4, ck, by simp [Act.put], OwnE.mono (base := w1.heap.size) (by repeat (first | with_reducible exact H1z.out | (with_reducible refine OwnE.setBelow ?_ (by first | (simp; done) | (simp; omega)) _) | with_reducible refine OwnE.alloc ?_ _ | with_reducible refine OwnE.drew ?_)) (by omega), OwnE.mono (base := w1.heap.size) (by repeat (first | with_reducible exact H2z.out | (with_reducible refine OwnE.setBelow ?_ (by first | (simp; done) | (simp; omega)) _) | with_reducible refine OwnE.alloc ?_ _ | with_reducible refine OwnE.drew ?_)) (by omega), HF1.out, HF2.out, ⟨he1, he2⟩, hi4, HCK.out, (by repeat (first | with_reducible exact Below.refl _ _ | with_reducible assumption | with_reducible refine Below.drew ?_ | with_reducible refine Below.alloc ?_ (by first | exact Nat.le_refl _ | omega | (simp; done) | (simp; omega)) _ | with_reducible refine Below.setCell ?_ (by first | exact Nat.le_refl _ | omega | (simp; done) | (simp; omega)) _ | (with_reducible refine ext_trans ?_ (by with_reducible assumption))))⟩
end Go.Proofs.Ytjlnbjabehpncaa
