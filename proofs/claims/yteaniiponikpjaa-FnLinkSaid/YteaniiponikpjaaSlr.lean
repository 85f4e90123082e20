/-
  Contract of the reference's Learned.
-/
import Derived.Test.YteaniiponikpjaaLrn
import Derived.Deep.RegionLaw
import Derived.Laws.AppendOwnNone
namespace Go.Proofs.Yteaniiponikpjaa
set_option maxRecDepth 100000
open Go.RowKit

/-- append of a slice that is read to an own row, whatever the slice. -/
theorem wpList_append_rd {P : Program} {w : World} {ops : Array Oper} {rest : List Oper} {o : Oper} {a : Act} {Q : Exit → Act → World → Prop} (hgd : o.guard = none) (s x : Operand) (t : TypeId)
    (ho : o.op = .call { callee := .builtin .append, args := #[s, x], argTypes := #[t, t] })
    (base : Nat) (e : TypeId) (i : TypeInfo) (z : Value) (size bytes : Nat) (ht : P.underlying t = some (.slice e)) (hi : P.info? e = some i) (hz : i.zero = some z)
    (hsize : i.size = size) (hby : i.bytes = bytes) (hzs : z.cells.size = size) (hsz : 0 < size)
    (v : Value) (n : Nat) (xs : List Value) (hs : a.eval s = v) (hown : w.ownsRow base e size v n xs)
    (A : Option Addr) (m c : Nat) (news : List Value) (hx : a.eval x = .slice A m c) (hc : A = none → c = 0) (hmc : m ≤ c) (hl : news.length = m * size) (hnews : ∀ ad, A = some ad → ∀ j u, news[j]? = some u → w.cell? (ad.add j) = some u) (h1 : ∀ u ∈ news, u.oneCell' = true)
    (h63 : n + m ≤ maxLen) (hbytes : (n + m) * bytes ≤ 140737488355328) (hbase : base ≤ w.heap.size)
    (h : ∀ v' w', w'.ownsRow base e size v' (n + m) (xs ++ news) → w.grownBy w' v.ownBlock → wpList P ops Q rest (a.put o.dst v') w') : wpList P ops Q (o :: rest) a w := by
  cases A with
  | none =>
    obtain rfl := hc rfl
    obtain rfl : m = 0 := by omega
    obtain rfl : news = [] := List.eq_nil_of_length_eq_zero (by omega)
    refine wpList_append_own_none hgd s x t ho base e i size ht hi v n xs hs hown hx (h v w ?_ (World.grownBy.refl _ _))
    simpa using hown
  | some ad => exact wpList_append_own w hgd s x t ho base e i z size bytes ht hi hz hsize hby hzs hsz v n xs hs hown ad m c news hx hl (hnews ad rfl) h1 h63 hbytes hbase fun v' w' h2 h3 _ => h v' w' h2 h3

/-- append to an own row, as one step of a region that draws. -/
theorem step_append_own {P : Program} {ops : Array Oper} {o : Oper} {a : Act} {w : World} {K : Act → World → Prop} {Q : Exit → Act → World → Prop} {E : Prop} (hgd : o.guard = none) (s x : Operand) (t : TypeId)
    (ho : o.op = .call { callee := .builtin .append, args := #[s, x], argTypes := #[t, t] })
    (base : Nat) (e : TypeId) (i : TypeInfo) (z : Value) (size bytes : Nat) (ht : P.underlying t = some (.slice e)) (hi : P.info? e = some i) (hz : i.zero = some z)
    (hsize : i.size = size) (hby : i.bytes = bytes) (hzs : z.cells.size = size) (hsz : 0 < size)
    (v : Value) (n : Nat) (xs : List Value) (hs : a.eval s = v) (hown : w.ownsRow base e size v n xs)
    (ad : Addr) (m c : Nat) (news : List Value) (hx : a.eval x = .slice (some ad) m c) (hl : news.length = m * size) (hnews : ∀ j u, news[j]? = some u → w.cell? (ad.add j) = some u) (h1 : ∀ u ∈ news, u.oneCell' = true)
    (h63 : n + m ≤ maxLen) (hbytes : (n + m) * bytes ≤ 140737488355328) (hbase : base ≤ w.heap.size)
    (h : ∀ v' w', w'.ownsRow base e size v' (n + m) (xs ++ news) → w.grownBy w' v.ownBlock → K (a.put o.dst v') w') :
    if Region.wanted o (yielded ops a.tmps) = true then Oper.wp P o a w K Q else E := by
  have hw : Region.wanted o (yielded ops a.tmps) = true := by simp [Region.wanted, hgd]
  rw [if_pos hw]
  exact wp_append_own w s x t ho base e i z size bytes ht hi hz hsize hby hzs hsz v n xs hs hown ad m c news hx hl hnews h1 h63 hbytes hbase fun v' w' h2 h3 _ => h v' w' h2 h3

/-- The cells of a part of an own row, behind any slice expression's address. -/
theorem part_cells {w : World} {base g n c : Nat} {l : List REntry} (h : w.ownsRow base 71 3 (.slice (some ⟨g, 0, none⟩) n c) n (cellsOf eEntry l)) (a m : Nat) (ha : a + m ≤ l.length) (A : Addr) (hA : m = 0 ∨ A = ⟨g, a * 3, none⟩) :
    ∀ j u, (cellsOf eEntry ((l.drop a).take m))[j]? = some u → w.cell? (A.add j) = some u := by
  intro j u hu
  have hj : j < (cellsOf eEntry ((l.drop a).take m)).length := (List.getElem?_eq_some_iff.1 hu).1
  have hlen : (cellsOf eEntry ((l.drop a).take m)).length = m * 3 := by rw [cells_len eEntry_len, List.length_take, List.length_drop, Nat.min_eq_left (by omega)]
  rcases hA with h0 | rfl
  · omega
  rw [Addr.add_lit]
  have hn : l.length = n := by (have := h.1; rw [cells_len eEntry_len] at this; omega)
  have hll : (cellsOf eEntry l).length = l.length * 3 := cells_len eEntry_len l
  refine (h.cellAt (a * 3 + j) (by omega)).trans ?_
  have e1 : l = l.take a ++ ((l.drop a).take m ++ (l.drop a).drop m) := by rw [List.take_append_drop, List.take_append_drop]
  rw [e1, cells_append, List.getElem?_append_right (by rw [cells_len eEntry_len, List.length_take]; omega), cells_len eEntry_len, List.length_take, Nat.min_eq_left (by omega), Nat.add_sub_cancel_left, cells_append, List.getElem?_append_left hj]
  exact hu
theorem set_entry3 (l : List REntry) (k : Nat) (y : REntry) (hk : k < l.length) : ((((cellsOf eEntry l).set (k * 3) (.int .i64 y.1)).set (k * 3 + 1) (.int .i64 y.2.1)).set (k * 3 + 2) (.int .i64 y.2.2)) = cellsOf eEntry (l.set k y) := by
  obtain ⟨p, x, q, rfl, rfl⟩ : ∃ p x q, l = p ++ x :: q ∧ p.length = k := ⟨l.take k, l[k], l.drop (k + 1), by simp, by rw [List.length_take]; omega⟩
  have e1 : (p ++ x :: q).set p.length y = p ++ y :: q := by simp
  have hl : (cellsOf eEntry p).length = p.length * 3 := cells_len eEntry_len p
  rw [e1, cells_append, cells_append, cells_cons, cells_cons]
  simp only [eEntry, List.cons_append, List.nil_append]
  rw [← hl]
  simp
theorem own_mono {w : World} {b b' : Nat} {e : TypeId} {m : Nat} {v : Value} {n : Nat} {xs : List Value} (h : w.ownsRow b e m v n xs) (hb : b' ≤ b) : w.ownsRow b' e m v n xs :=
  ⟨h.1, h.2.imp id fun ⟨g, cap, cur, h1, h2, r⟩ => ⟨g, cap, cur, h1, Nat.le_trans hb h2, r⟩⟩
theorem oldTo_one (l : List REntry) : oldTo l 1 = 0 := by
  unfold oldTo
  cases h : l[0]? with
  | none => simp [oldTo]
  | some x => simp [oldTo, h]

theorem own_app {w : World} {base : Nat} {v : Value} {l : List REntry} {x : REntry} (h : w.ownsRow base 71 3 v (l.length + 1) (cellsOf eEntry l ++ eEntry x)) : w.ownsRow base 71 3 v (l ++ [x]).length (cellsOf eEntry (l ++ [x])) := by
  rw [cells_append, List.length_append]
  simpa [cells_cons, cells_nil] using h
/-- A row made anew, that bears the list l (also where it is empty). -/
def NewOwn (W : World) (l : List REntry) (e : Ending) (w' : World) : Prop :=
  ∃ v, e = .returned v ∧ w'.ownsRow W.heap.size 71 3 v l.length (cellsOf eEntry l) ∧ Below W.heap.size W w'
theorem NewOwn.entry {W : World} {l : List REntry} {e : Ending} {w' : World} (h : NewOwn W l e w') : NewEntry W l e w' :=
  let ⟨v, h1, h2, h3⟩ := h
  ⟨v, h1, .inl h2, h3⟩
set_option maxHeartbeats 4000000 in
set_option linter.unusedSimpArgs false in
theorem sLearned_own (v : Value) (l : List REntry) (ip hw : Int) (hn : l.length ≤ 1048576) (w : World) (h : RdEntry w v l) :
    Calls Try.prog 33 #[v, .int .i64 ip, .int .i64 hw] w (NewOwn w (learnedR l ip hw)) := by
  obtain ⟨i0, hi, is0, is1, is2⟩ := info_parts info_Entry
  obtain ⟨A, c, rfl, hcc, -⟩ := id h
  obtain ⟨hcn, hcm, hc0⟩ := hcc
  unfold maxLen at hcm
  have H := Lib.hid h
  have HC0 := Lib.hid hc0
  clear h hc0
  go_enter Try.func33, Try.ntmps33
  go_wp2_with (refine wpList_append_rd (by rfl) (.tmp 11) (.tmp 12) 26 (by rfl) w.heap.size 71 i0 _ 3 24 Try.underlying26 hi is0 is1 is2 (by rfl) (by omega) (.slice (some ⟨w.heap.size, 0, none⟩) 0 0) 0 [] (by rfl) ?c1 A l.length c (cellsOf eEntry l) (by rfl) HC0.out hcn ?c2 ?c3 ?c4 ?c5 ?c6 ?c7 ?_)
  case c1 => exact World.ownsRow_made _ _ _ (Nat.le_refl _) (Nat.zero_le _) (by simp)
  case c2 => exact cells_len (m := 3) eEntry_len l
  case c3 => intro ad had; subst had; exact H.out.newsEntry (by repeat (first | with_reducible exact Below.refl _ _ | with_reducible assumption | with_reducible refine Below.drew ?_ | with_reducible refine Below.alloc ?_ (by first | exact Nat.le_refl _ | omega | (simp; done) | (simp; omega)) _ | with_reducible refine Below.setCell ?_ (by first | exact Nat.le_refl _ | omega | (simp; done) | (simp; omega)) _ | (with_reducible refine ext_trans ?_ (by with_reducible assumption))))
  case c4 => exact oneEntry l
  case c5 => unfold maxLen; omega
  case c6 => omega
  case c7 => simp
  intro v1 w1 hrow hgr
  have hb1 : Below w.heap.size w w1 := Below.grown (by repeat (first | with_reducible exact Below.refl _ _ | with_reducible assumption | with_reducible refine Below.drew ?_ | with_reducible refine Below.alloc ?_ (by first | exact Nat.le_refl _ | omega | (simp; done) | (simp; omega)) _ | with_reducible refine Below.setCell ?_ (by first | exact Nat.le_refl _ | omega | (simp; done) | (simp; omega)) _ | (with_reducible refine ext_trans ?_ (by with_reducible assumption)))) hgr (by simp) (by simp [Value.ownBlock])
  have HW := Lib.hid hrow
  obtain ⟨A1, c1, rfl⟩ : ∃ A1 c1, v1 = .slice A1 l.length c1 := OwnE.form (enc := eEntry) (.inl hrow)
  clear hrow hgr
  have hz1 := hb1.size
  have H1 := Lib.hid (H.out.below hb1)
  go_wp2_with fail
  refine (sCacheOk_any _ l (by unfold maxLen; omega) _ H1.out).mono ?_
  rintro e w2 ⟨rfl, hb2⟩
  have hz2 := hb2.size
  have W2 := Lib.hid (own_below HW.out hb2)
  have H2 := Lib.hid (H1.out.below hb2)
  have hw2 : Below w.heap.size w w2 := (by repeat (first | with_reducible exact Below.refl _ _ | with_reducible assumption | with_reducible refine Below.drew ?_ | with_reducible refine Below.alloc ?_ (by first | exact Nat.le_refl _ | omega | (simp; done) | (simp; omega)) _ | with_reducible refine Below.setCell ?_ (by first | exact Nat.le_refl _ | omega | (simp; done) | (simp; omega)) _ | (with_reducible refine ext_trans ?_ (by with_reducible assumption))))
  cases ha : cacheB l
  case false =>
    have HR : Hid (learnedR l ip hw = l) := by (unfold learnedR; rw [ha]; rfl)
    go_wp2_with fail
    go_ret
    exact ⟨_, rfl, by rw [HR.out]; exact W2.out, (by repeat (first | with_reducible exact Below.refl _ _ | with_reducible assumption | with_reducible refine Below.drew ?_ | with_reducible refine Below.alloc ?_ (by first | exact Nat.le_refl _ | omega | (simp; done) | (simp; omega)) _ | with_reducible refine Below.setCell ?_ (by first | exact Nat.le_refl _ | omega | (simp; done) | (simp; omega)) _ | (with_reducible refine ext_trans ?_ (by with_reducible assumption))))⟩
  case true =>
    cases hwi : wordB ip 32
    case false =>
      have HR : Hid (learnedR l ip hw = l) := by (unfold learnedR; rw [ha, hwi]; rfl)
      go_wp2_with (go_at_call 38; refine (sWordOk_any _ _ _).mono ?_; rintro e' w' ⟨rfl, rfl⟩)
      go_ret
      exact ⟨_, rfl, by rw [HR.out]; exact W2.out, (by repeat (first | with_reducible exact Below.refl _ _ | with_reducible assumption | with_reducible refine Below.drew ?_ | with_reducible refine Below.alloc ?_ (by first | exact Nat.le_refl _ | omega | (simp; done) | (simp; omega)) _ | with_reducible refine Below.setCell ?_ (by first | exact Nat.le_refl _ | omega | (simp; done) | (simp; omega)) _ | (with_reducible refine ext_trans ?_ (by with_reducible assumption))))⟩
    case true =>
      cases hwh : wordB hw 48
      case false =>
        have HR : Hid (learnedR l ip hw = l) := by (unfold learnedR; rw [ha, hwi, hwh]; rfl)
        go_wp2_with (go_at_call 38; refine (sWordOk_any _ _ _).mono ?_; rintro e' w' ⟨rfl, rfl⟩)
        go_ret
        exact ⟨_, rfl, by rw [HR.out]; exact W2.out, (by repeat (first | with_reducible exact Below.refl _ _ | with_reducible assumption | with_reducible refine Below.drew ?_ | with_reducible refine Below.alloc ?_ (by first | exact Nat.le_refl _ | omega | (simp; done) | (simp; omega)) _ | with_reducible refine Below.setCell ?_ (by first | exact Nat.le_refl _ | omega | (simp; done) | (simp; omega)) _ | (with_reducible refine ext_trans ?_ (by with_reducible assumption))))⟩
      case true =>
        have HR : Hid (learnedR l ip hw = if atI l ip < 0 then roomR l ++ [(ip, hw, 0)] else l.set (atI l ip).toNat (ip, hw, 0)) := by (unfold learnedR; rw [ha, hwi, hwh]; rfl)
        have hq := fun W h => l15At_any (.slice A l.length c) l ip (by unfold maxLen; omega) W h
        go_wp2_with (go_at_call 38; refine (sWordOk_any _ _ _).mono ?_; rintro e' w' ⟨rfl, rfl⟩)
        clear ha hwi hwh
        rcases atI_cases ip l with ⟨hat, hno⟩ | ⟨k, hk, hat, hip, hno⟩
        · rw [hat] at hq
          have HQ := Lib.hid hq
          have HA : Hid (learnedR l ip hw = roomR l ++ [(ip, hw, 0)]) := (by rw [HR.out, hat]; rfl)
          clear hq hat hno
          refine (HQ.out _ H2.out).mono ?_
          rintro e w' ⟨rfl, rfl⟩
          by_cases h4 : l.length = 4
          case neg =>
            have h4' : ¬ ((l.length : Int) = 4) := by omega
            have HM : Hid (roomR l = l) := (by unfold roomR; rw [if_neg h4]; rfl)
            go_wp2_with (refine wpList_append_own _ (by rfl) (.tmp 71) (.tmp 75) 26 (by rfl) w.heap.size 71 i0 _ 3 24 Try.underlying26 hi is0 is1 is2 (by rfl) (by omega) (.slice A1 l.length c1) l.length (cellsOf eEntry l) (by rfl) ?c1 ⟨w2.heap.size, 0, none⟩ 1 1 (eEntry (ip, hw, 0)) (by rfl) ?c2 ?c3 ?c4 ?c5 ?c6 ?c7 ?_)
            case c1 => exact own_below W2.out (by repeat (first | with_reducible exact Below.refl _ _ | with_reducible assumption | with_reducible refine Below.drew ?_ | with_reducible refine Below.alloc ?_ (by first | exact Nat.le_refl _ | omega | (simp; done) | (simp; omega)) _ | with_reducible refine Below.setCell ?_ (by first | exact Nat.le_refl _ | omega | (simp; done) | (simp; omega)) _ | (with_reducible refine ext_trans ?_ (by with_reducible assumption))))
            case c2 => rfl
            case c3 => exact newsC _ _ _ _ rfl
            case c4 => intro u hu; simp only [eEntry, List.mem_cons, List.not_mem_nil, or_false] at hu; rcases hu with rfl | rfl | rfl <;> rfl
            case c5 => unfold maxLen; omega
            case c6 => omega
            case c7 => (simp; omega)
            intro v' w4 hown4 hgr _
            have HO4 := Lib.hid hown4
            clear hown4
            go_wp2_with fail
            go_ret
            exact ⟨_, rfl, by rw [HA.out, HM.out]; exact own_app HO4.out, Below.grown (by repeat (first | with_reducible exact Below.refl _ _ | with_reducible assumption | with_reducible refine Below.drew ?_ | with_reducible refine Below.alloc ?_ (by first | exact Nat.le_refl _ | omega | (simp; done) | (simp; omega)) _ | with_reducible refine Below.setCell ?_ (by first | exact Nat.le_refl _ | omega | (simp; done) | (simp; omega)) _ | (with_reducible refine ext_trans ?_ (by with_reducible assumption)))) hgr (by simp; omega) (fun q hq => (W2.out.lt q hq).1)⟩
          case pos =>
            have HM : Hid (roomR l = l.take (oldTo l 4) ++ l.drop (oldTo l 4 + 1)) := (by unfold roomR; rw [if_pos h4, h4]; rfl)
            rw [h4] at W2 ⊢
            rcases W2.out.2 with ⟨-, hx⟩ | ⟨g, cap, cur, hv, hg, hgw, q1, q2, q3, q4⟩
            · exact absurd hx (by omega)
            cases hv
            clear hgw q4 q3
            have H4 := Lib.hid h4
            clear h4 hcn hn
            go_wp2_with fail
            go_loopw [9, 10] (fun old i wr => ∃ q k : Nat, 1 ≤ q ∧ q ≤ 4 ∧ k < 4 ∧ i = .int .i64 q ∧ old = .int .i64 k ∧ Hid (oldTo l q = k) ∧ Below w2.heap.size w2 wr) (fun _ i _ => 4 - (intOf i).toNat)
            case atStart => exact ⟨1, 0, by omega, by omega, by omega, rfl, rfl, oldTo_one l, Below.refl _ _⟩
            case round =>
              obtain ⟨q, k, hq1, hq, hk, rfl, rfl, hold, hbx⟩ := hrel
              have hbs := hbx.size
              have OX := Lib.hid (own_below W2.out hbx)
              have hk0 : (0 : Int) ≤ (k : Int) := by omega
              have hnk : (k : Int) < 4 := by omega
              have hkl : Hid (k < l.length) := (by have := H4.out; omega : k < l.length)
              by_cases hlt : q < 4
              · obtain ⟨z, hz⟩ : ∃ z, l[q]'(by have := H4.out; omega) = z := ⟨_, rfl⟩
                have hql : Hid (q < l.length) := (by have := H4.out; omega : q < l.length)
                have HZ := Lib.hid hz
                obtain ⟨y0, y1, y2⟩ := z
                obtain ⟨t, ht⟩ : ∃ t, l[k]'(by have := H4.out; omega) = t := ⟨_, rfl⟩
                have HT := Lib.hid ht
                obtain ⟨t0, t1, t2⟩ := t
                clear hz ht
                have e2 : wr.cell? ⟨g, q * 3 + 2, none⟩ = some (.int .i64 y2) := (OX.out.cellAt (q * 3 + 2) (by omega)).trans ((cells_at eEntry_len l q 2 hql.out (by omega)).trans (by rw [HZ.out]; rfl))
                have d2 : wr.cell? ⟨g, k * 3 + 2, none⟩ = some (.int .i64 t2) := (OX.out.cellAt (k * 3 + 2) (by omega)).trans ((cells_at eEntry_len l k 2 hkl.out (by omega)).trans (by rw [HT.out]; rfl))
                have hnq : (q : Int) < 4 := by omega
                have hq0 : (0 : Int) ≤ (q : Int) := by omega
                have hbd : Below w2.heap.size w2 wr.drew := hbx.drew
                go_wp2_with fail
                refine wp_region_still_tail 10 (by kernel_rfl) (by kernel_rfl) ?_
                simp only [List.take_succ_cons, List.take_zero, List.drop_succ_cons, List.drop_zero]
                repeat (first | still_step)
                refine wpStill_nil ?_
                change wpList _ _ _ _ _ wr.drew
                generalize wr.drew = wd at *
                by_cases hgt : t2 < y2
                · have hO := Lib.hid (oldTo_yes l hql.out hkl.out hold.out HZ.out HT.out hgt)
                  go_wp2_with fail
                  exact ⟨⟨q + 1, q, by omega, by omega, hlt, by go_num, rfl, hO.out, hbd⟩, by simp [intOf]; omega⟩
                · have hO := Lib.hid (oldTo_no l hql.out hkl.out hold.out HZ.out HT.out hgt)
                  go_wp2_with fail
                  exact ⟨⟨q + 1, k, by omega, by omega, hk, by go_num, rfl, hO.out, hbd⟩, by simp [intOf]; omega⟩
              · obtain rfl : q = 4 := by omega
                have HO := hold
                have hk1 : (k : Int) + 1 ≤ 4 := by omega
                have hkc : (k : Int) ≤ (c1 : Int) := by omega
                have hkc2 : (k : Int) + 1 ≤ (c1 : Int) := by omega
                obtain ⟨A2, hA2, hA3⟩ : ∃ A2 : Addr, (if c1 = k + 1 then some (⟨g, 0, none⟩ : Addr) else some ⟨g, (k + 1) * 3, none⟩) = some A2 ∧ (4 - (k + 1) = 0 ∨ A2 = ⟨g, (k + 1) * 3, none⟩) := by
                  by_cases h : c1 = k + 1
                  · exact ⟨_, by rw [if_pos h], .inl (by omega)⟩
                  · exact ⟨_, by rw [if_neg h], .inr rfl⟩
                have N1 : Hid (∀ W, Below wr.heap.size wr W → ∀ j u, (cellsOf eEntry (l.take k))[j]? = some u → W.cell? ((⟨g, 0, none⟩ : Addr).add j) = some u) := fun W hW => part_cells (own_below OX.out hW) 0 k (by have := H4.out; omega) _ (.inr (by rw [Nat.zero_mul]))
                have N2 : Hid (∀ W, Below wr.heap.size wr W → ∀ j u, (cellsOf eEntry (l.drop (k + 1)))[j]? = some u → W.cell? (A2.add j) = some u) := fun W hW j u hu => part_cells (own_below OX.out hW) (k + 1) (4 - (k + 1)) (by have := H4.out; omega) A2 hA3 j u (by rw [List.take_of_length_le (by (have := H4.out); rw [List.length_drop]; omega)]; exact hu)
                have hl1 : Hid ((cellsOf eEntry (l.take k)).length = k * 3) := (by (have := H4.out); rw [cells_len eEntry_len, List.length_take, Nat.min_eq_left (by omega)] : (cellsOf eEntry (l.take k)).length = k * 3)
                have hl2 : Hid ((cellsOf eEntry (l.drop (k + 1))).length = (3 - k) * 3) := (by rw [cells_len eEntry_len, List.length_drop, H4.out]; omega : (cellsOf eEntry (l.drop (k + 1))).length = (3 - k) * 3)
                clear hA3
                have hwk : IntKind.i64.wrap ((k : Int) + 1) = (k : Int) + 1 := by
                  unfold IntKind.wrap
                  simp [IntKind.bits, IntKind.signed]
                  omega
                have htk : ((k : Int) + 1).toNat = k + 1 := by omega
                have hk10 : (0 : Int) ≤ (k : Int) + 1 := by omega
                go_wp2_with fail
                go_region_law (first | refine step_append_own rfl (.tmp 61) (.tmp 64) 26 rfl wr.heap.size 71 i0 _ 3 24 Try.underlying26 hi is0 is1 is2 (by rfl) (by omega) (.slice (some ⟨wr.heap.size, 0, none⟩) 0 0) 0 [] (by simp [Act.eval, Act.put]) (World.ownsRow_made _ _ _ (Nat.le_refl _) (Nat.zero_le _) (by simp)) ⟨g, 0, none⟩ k c1 (cellsOf eEntry (l.take k)) (by simp [Act.eval, Act.put]) hl1.out (N1.out _ (by repeat (first | with_reducible exact Below.refl _ _ | with_reducible assumption | with_reducible refine Below.drew ?_ | with_reducible refine Below.alloc ?_ (by first | exact Nat.le_refl _ | omega | (simp; done) | (simp; omega)) _ | with_reducible refine Below.setCell ?_ (by first | exact Nat.le_refl _ | omega | (simp; done) | (simp; omega)) _ | (with_reducible refine ext_trans ?_ (by with_reducible assumption))))) (oneEntry _) (by unfold maxLen; omega) (by omega) (by simp) (fun v5 w5 hown5 hgr5 => ?_) | refine step_append_own rfl (.tmp 65) (.tmp 69) 26 rfl wr.heap.size 71 i0 _ 3 24 Try.underlying26 hi is0 is1 is2 (by rfl) (by omega) v5 k (cellsOf eEntry (l.take k)) (by simp [Act.eval, Act.put]) (by simpa using hown5) A2 (3 - k) (c1 - (k + 1)) (cellsOf eEntry (l.drop (k + 1))) (by simp [Act.eval, Act.put]) hl2.out (N2.out w5 (Below.grown (B := wr.heap.size) (a := wr) (by repeat (first | with_reducible exact Below.refl _ _ | with_reducible assumption | with_reducible refine Below.drew ?_ | with_reducible refine Below.alloc ?_ (by first | exact Nat.le_refl _ | omega | (simp; done) | (simp; omega)) _ | with_reducible refine Below.setCell ?_ (by first | exact Nat.le_refl _ | omega | (simp; done) | (simp; omega)) _ | (with_reducible refine ext_trans ?_ (by with_reducible assumption)))) hgr5 (by simp) (by simp [Value.ownBlock]))) (oneEntry _) (by unfold maxLen; omega) (by omega) (Below.grown (B := wr.heap.size) (a := wr) (by repeat (first | with_reducible exact Below.refl _ _ | with_reducible assumption | with_reducible refine Below.drew ?_ | with_reducible refine Below.alloc ?_ (by first | exact Nat.le_refl _ | omega | (simp; done) | (simp; omega)) _ | with_reducible refine Below.setCell ?_ (by first | exact Nat.le_refl _ | omega | (simp; done) | (simp; omega)) _ | (with_reducible refine ext_trans ?_ (by with_reducible assumption)))) hgr5 (by simp) (by simp [Value.ownBlock])).size (fun v6 w6 hown6 hgr6 => ?_))
                all_goals
                  have hw5 : Below w.heap.size w w5 := Below.grown (by repeat (first | with_reducible exact Below.refl _ _ | with_reducible assumption | with_reducible refine Below.drew ?_ | with_reducible refine Below.alloc ?_ (by first | exact Nat.le_refl _ | omega | (simp; done) | (simp; omega)) _ | with_reducible refine Below.setCell ?_ (by first | exact Nat.le_refl _ | omega | (simp; done) | (simp; omega)) _ | (with_reducible refine ext_trans ?_ (by with_reducible assumption)))) hgr5 (by simp; omega) (by simp [Value.ownBlock]; omega)
                  have hz5 := hw5.size
                  have hz6 := hgr6.size
                  have hw6 : Below w.heap.size w w6 := Below.grown hw5 hgr6 hz5 (fun q hq => by (have := (hown5.lt q hq).1); omega)
                  have hl5 : (l.take k ++ l.drop (k + 1)).length = 3 := by (have := H4.out); rw [List.length_append, List.length_take, List.length_drop]; omega
                  rw [← cells_append] at hown6
                  obtain ⟨l5, hl5e⟩ : ∃ l5, l.take k ++ l.drop (k + 1) = l5 := ⟨_, rfl⟩
                  rw [hl5e] at hown6 hl5
                  have HM2 : Hid (roomR l = l5) := by (rw [HM.out, HO.out]; exact hl5e)
                  have OW6 : Hid (w6.ownsRow w.heap.size 71 3 v6 3 (cellsOf eEntry l5)) := by
                    rw [show k + (3 - k) = 3 by omega] at hown6
                    exact own_mono hown6 (by omega)
                  clear hown6 hown5 hgr5 hgr6 hl5e
                  obtain ⟨A6, c6, rfl⟩ : ∃ A6 c6, v6 = .slice A6 l5.length c6 := OwnE.form (enc := eEntry) (e := 71) (m := 3) (w := w6) (base := w.heap.size) (l := l5) (.inl (by rw [hl5]; exact OW6.out))
                  rw [hl5] at OW6 ⊢
                  go_wp2_with (refine wpList_append_own _ (by rfl) (.tmp 71) (.tmp 75) 26 (by rfl) w.heap.size 71 i0 _ 3 24 Try.underlying26 hi is0 is1 is2 (by rfl) (by omega) (.slice A6 3 c6) 3 (cellsOf eEntry l5) (by rfl) ?c1 ⟨w6.heap.size, 0, none⟩ 1 1 (eEntry (ip, hw, 0)) (by rfl) ?c2 ?c3 ?c4 ?c5 ?c6 ?c7 ?_)
                  case c1 => exact own_below OW6.out (by repeat (first | with_reducible exact Below.refl _ _ | with_reducible assumption | with_reducible refine Below.drew ?_ | with_reducible refine Below.alloc ?_ (by first | exact Nat.le_refl _ | omega | (simp; done) | (simp; omega)) _ | with_reducible refine Below.setCell ?_ (by first | exact Nat.le_refl _ | omega | (simp; done) | (simp; omega)) _ | (with_reducible refine ext_trans ?_ (by with_reducible assumption))))
                  case c2 => rfl
                  case c3 => exact newsC _ _ _ _ rfl
                  case c4 => intro u hu; simp only [eEntry, List.mem_cons, List.not_mem_nil, or_false] at hu; rcases hu with rfl | rfl | rfl <;> rfl
                  case c5 => unfold maxLen; omega
                  case c6 => omega
                  case c7 => (simp; omega)
                  intro v' w7 hown7 hgr7 _
                  have HO7 := Lib.hid hown7
                  clear hown7
                  go_wp2_with fail
                  go_ret
                  refine ⟨_, rfl, by rw [HA.out, HM2.out]; exact own_app (l := l5) (hl5.symm ▸ HO7.out), Below.grown (by repeat (first | with_reducible exact Below.refl _ _ | with_reducible assumption | with_reducible refine Below.drew ?_ | with_reducible refine Below.alloc ?_ (by first | exact Nat.le_refl _ | omega | (simp; done) | (simp; omega)) _ | with_reducible refine Below.setCell ?_ (by first | exact Nat.le_refl _ | omega | (simp; done) | (simp; omega)) _ | (with_reducible refine ext_trans ?_ (by with_reducible assumption)))) hgr7 (by simp; omega) (fun q hq => (OW6.out.lt q hq).1)⟩
        · rw [hat] at hq
          have HQ := Lib.hid hq
          have HA : Hid (learnedR l ip hw = l.set k (ip, hw, 0)) := (by rw [HR.out, hat, if_neg (by omega)]; rfl)
          have HI := Lib.hid hip
          clear hq hat hno hip
          refine (HQ.out _ H2.out).mono ?_
          rintro e w' ⟨rfl, rfl⟩
          rcases W2.out.2 with ⟨-, hx⟩ | ⟨g, cap, cur, hv, hg, hgw, q1, q2, q3, q4⟩
          · exact absurd hx (by omega)
          cases hv
          clear hgw q4 q3
          have hk0 : (0 : Int) ≤ (k : Int) := by omega
          have hnk : (k : Int) < (l.length : Int) := by omega
          have hlen : (cellsOf eEntry l).length = l.length * 3 := cells_len eEntry_len l
          have OW := W2
          obtain ⟨o0, d0⟩ : ∃ v, w2.cell? ⟨g, k * 3, none⟩ = some v := ⟨_, (OW.out.cellAt (k * 3) (by omega)).trans (List.getElem?_eq_getElem (by rw [hlen]; omega))⟩
          obtain ⟨o1, d1⟩ : ∃ v, w2.cell? ⟨g, k * 3 + 1, none⟩ = some v := ⟨_, (OW.out.cellAt (k * 3 + 1) (by omega)).trans (List.getElem?_eq_getElem (by rw [hlen]; omega))⟩
          obtain ⟨o2, d2⟩ : ∃ v, w2.cell? ⟨g, k * 3 + 2, none⟩ = some v := ⟨_, (OW.out.cellAt (k * 3 + 2) (by omega)).trans (List.getElem?_eq_getElem (by rw [hlen]; omega))⟩
          have f0 := OW.out.frozenAt (k * 3)
          have f1 := OW.out.frozenAt (k * 3 + 1)
          have f2 := OW.out.frozenAt (k * 3 + 2)
          have S1 := (OW.out.stored (k * 3) (.int .i64 ip)).1
          have S2 := (S1.stored (k * 3 + 1) (.int .i64 hw)).1
          have S3 := Lib.hid (S2.stored (k * 3 + 2) (.int .i64 0)).1
          clear S1 S2 hlen
          go_wp2_with fail
          go_ret
          refine ⟨_, rfl, ?_, (by repeat (first | with_reducible exact Below.refl _ _ | with_reducible assumption | with_reducible refine Below.drew ?_ | with_reducible refine Below.alloc ?_ (by first | exact Nat.le_refl _ | omega | (simp; done) | (simp; omega)) _ | with_reducible refine Below.setCell ?_ (by first | exact Nat.le_refl _ | omega | (simp; done) | (simp; omega)) _ | (with_reducible refine ext_trans ?_ (by with_reducible assumption))))⟩
          rw [HA.out, List.length_set, ← set_entry3 l k (ip, hw, 0) hk]
          exact S3.out
theorem sLearned_any (v : Value) (l : List REntry) (ip hw : Int) (hn : l.length ≤ 1048576) (w : World) (h : RdEntry w v l) :
    Calls Try.prog 33 #[v, .int .i64 ip, .int .i64 hw] w (NewEntry w (learnedR l ip hw)) := (sLearned_own v l ip hw hn w h).mono fun _ _ h => h.entry
end Go.Proofs.Yteaniiponikpjaa
