/-
  Contracts of Learned, the program's and the reference's.
-/
import Derived.Test.YteaniiponikpjaaCac
import Derived.Test.YteaniiponikpjaaDel
namespace Go.Proofs.Yteaniiponikpjaa
set_option maxRecDepth 100000
open Go.RowKit

/-- The first of the eldest among the first m records. -/
def oldTo (l : List REntry) : Nat → Nat
  | 0 => 0
  | m + 1 => match l[m]?, l[oldTo l m]? with
    | some x, some y => if y.2.2 < x.2.2 then m else oldTo l m
    | _, _ => oldTo l m
theorem oldTo_lt (l : List REntry) (h : 0 < l.length) : ∀ m, m ≤ l.length → oldTo l m < l.length
  | 0, _ => h
  | m + 1, hm => by
    have ih := oldTo_lt l h m (by omega)
    unfold oldTo
    rw [List.getElem?_eq_getElem (show m < l.length by omega), List.getElem?_eq_getElem ih]
    dsimp only
    split <;> omega
theorem oldTo_yes (l : List REntry) {m k : Nat} {x y : REntry} (hm : m < l.length) (hk : k < l.length) (h : oldTo l m = k) (hx : l[m] = x) (hy : l[k] = y) (hlt : y.2.2 < x.2.2) : oldTo l (m + 1) = m := by
  subst h
  unfold oldTo
  rw [List.getElem?_eq_getElem hm, List.getElem?_eq_getElem hk, hx, hy]
  dsimp only
  rw [if_pos hlt]
theorem oldTo_no (l : List REntry) {m k : Nat} {x y : REntry} (hm : m < l.length) (hk : k < l.length) (h : oldTo l m = k) (hx : l[m] = x) (hy : l[k] = y) (hlt : ¬ y.2.2 < x.2.2) : oldTo l (m + 1) = k := by
  subst h
  show (match l[m]?, l[oldTo l m]? with
    | some x, some y => if y.2.2 < x.2.2 then m else oldTo l m
    | _, _ => oldTo l m) = _
  rw [List.getElem?_eq_getElem hm, List.getElem?_eq_getElem hk, hx, hy]
  dsimp only
  rw [if_neg hlt]

theorem own_below {w w' : World} {base : Nat} {e : TypeId} {m : Nat} {v : Value} {n : Nat} {xs : List Value} (h : w.ownsRow base e m v n xs) (hb : Below w.heap.size w w') : w'.ownsRow base e m v n xs := by
  refine ⟨h.1, ?_⟩
  rcases h.2 with h2 | ⟨g, cap, cur, hv, hg, hw, r⟩
  · exact .inl h2
  · exact .inr ⟨g, cap, cur, hv, hg, (hb.block g (Array.getElem?_eq_some_iff.1 hw).1).trans hw, r⟩
theorem newsC (w : World) (cs : Array Value) (e : TypeId) (l : List Value) (hl : cs = l.toArray) : ∀ j u, l[j]? = some u → (w.alloc (.cells cs e)).cell? ((⟨w.heap.size, 0, none⟩ : Addr).add j) = some u := by
  intro j u hu
  have ha : (⟨w.heap.size, 0, none⟩ : Addr).add j = ⟨w.heap.size, j, none⟩ := by unfold Addr.add; split <;> simp_all
  rw [ha, cell_of_row _ w.heap.size j cs e (0, 0) (heap_alloc_new w _), hl]
  simpa using hu
theorem own_snoc {w : World} {base : Nat} {v : Value} {l : List REntry} {x : REntry} (h : w.ownsRow base 71 3 v (l.length + 1) (cellsOf eEntry l ++ eEntry x)) : OwnEntry w base v (l ++ [x]) := by
  refine .inl ?_
  rw [cells_append, List.length_append]
  simpa [cells_cons, cells_nil] using h
def roomR (l : List REntry) : List REntry := if l.length = 4 then l.take (oldTo l l.length) ++ l.drop (oldTo l l.length + 1) else l
def learnedR (l : List REntry) (ip hw : Int) : List REntry :=
  if (cacheB l && (wordB ip 32 && wordB hw 48)) = true then
    if atI l ip < 0 then roomR l ++ [(ip, hw, 0)] else l.set (atI l ip).toNat (ip, hw, 0)
  else l
theorem set_entry (l : List REntry) (k : Nat) (x y : REntry) (hk : k < l.length) (hx : l[k] = x) : (((cellsOf eEntry l).set (k * 3 + 1) (.int .i64 y.2.1)).set (k * 3 + 2) (.int .i64 y.2.2)) = cellsOf eEntry (l.set k (x.1, y.2)) := by
  obtain ⟨p, q, rfl, rfl⟩ : ∃ p q, l = p ++ x :: q ∧ p.length = k := ⟨l.take k, l.drop (k + 1), by rw [← hx]; simp, by rw [List.length_take]; omega⟩
  have e1 : (p ++ x :: q).set p.length (x.1, y.2) = p ++ (x.1, y.2) :: q := by simp
  have hl : (cellsOf eEntry p).length = p.length * 3 := cells_len eEntry_len p
  rw [e1, cells_append, cells_append, cells_cons, cells_cons]
  simp only [eEntry, List.cons_append, List.nil_append]
  rw [← hl]
  simp

set_option maxHeartbeats 1000000 in
/-- As CloneEntry_any, and the row is the call's own even where it is empty. -/
theorem CloneEntry_own (v : Value) (l : List REntry) (hn : l.length ≤ 1048600) (w : World) (h : RdEntry w v l) :
    Calls Try.prog 58 #[v] w fun e w' => ∃ v, e = .returned v ∧ w'.ownsRow w.heap.size 71 3 v l.length (cellsOf eEntry l) ∧ Below w.heap.size w w' := by
  obtain ⟨i0, hi, hz0, hz1, hz2⟩ := info_parts info_Entry
  obtain ⟨A, c, rfl, ⟨hc1, hc2, hc3⟩, -⟩ := id h
  have HH := Lib.hid h
  clear h
  cases A with
  | none =>
    obtain rfl := hc3 rfl
    obtain rfl : l = [] := List.eq_nil_of_length_eq_zero (by omega)
    clear hc1 hc2 hc3
    have heq := fun W => Lib.run_eql_slice_nil (P := Try.prog) W 26 71 none 0 0 0 0 Try.underlying26
    go_enter Try.func58, Try.ntmps58
    go_wp2_with fail
    go_ret
    exact ⟨_, rfl, World.ownsRow_nil _ _ _ _, (by repeat (first | with_reducible exact Below.refl _ _ | with_reducible assumption | with_reducible refine Below.drew ?_ | with_reducible refine Below.alloc ?_ (by first | exact Nat.le_refl _ | omega | (simp; done) | (simp; omega)) _ | with_reducible refine Below.setCell ?_ (by first | exact Nat.le_refl _ | omega | (simp; done) | (simp; omega)) _ | (with_reducible refine ext_trans ?_ (by with_reducible assumption))))⟩
  | some ad =>
    clear hc3
    have heq := fun W => Lib.run_eql_slice_nil (P := Try.prog) W 26 71 (some ad) l.length c 0 0 Try.underlying26
    unfold maxLen at hc2
    go_enter Try.func58, Try.ntmps58
    go_wp2_with (refine wpList_append_own _ (by rfl) (.tmp 5) (.tmp 6) 26 (by rfl) w.heap.size 71 i0 _ 3 24 Try.underlying26 hi hz0 hz1 hz2 (by rfl) (by omega) (.slice (some ⟨w.heap.size, 0, none⟩) 0 0) 0 [] (by rfl) ?c1 ad l.length c (cellsOf eEntry l) (by rfl) ?c2 ?c3 ?c4 ?c5 ?c6 ?c7 ?_)
    case c1 => exact World.ownsRow_made _ _ _ (Nat.le_refl _) (Nat.zero_le _) (by simp)
    case c2 => exact cells_len (m := 3) eEntry_len l
    case c3 => exact HH.out.newsEntry (by repeat (first | with_reducible exact Below.refl _ _ | with_reducible assumption | with_reducible refine Below.drew ?_ | with_reducible refine Below.alloc ?_ (by first | exact Nat.le_refl _ | omega | (simp; done) | (simp; omega)) _ | with_reducible refine Below.setCell ?_ (by first | exact Nat.le_refl _ | omega | (simp; done) | (simp; omega)) _ | (with_reducible refine ext_trans ?_ (by with_reducible assumption))))
    case c4 => exact oneEntry l
    case c5 => unfold maxLen; omega
    case c6 => omega
    case c7 => simp
    intro v' w1 hown hgr _
    obtain ⟨A', c', rfl⟩ : ∃ A' c', v' = .slice A' l.length c' := OwnE.form (enc := eEntry) (.inl hown)
    have HO := Lib.hid hown
    clear hown
    go_wp2_with fail
    go_ret
    exact ⟨_, rfl, HO.out, Below.grown (by repeat (first | with_reducible exact Below.refl _ _ | with_reducible assumption | with_reducible refine Below.drew ?_ | with_reducible refine Below.alloc ?_ (by first | exact Nat.le_refl _ | omega | (simp; done) | (simp; omega)) _ | with_reducible refine Below.setCell ?_ (by first | exact Nat.le_refl _ | omega | (simp; done) | (simp; omega)) _ | (with_reducible refine ext_trans ?_ (by with_reducible assumption)))) hgr (by simp) (by simp [Value.ownBlock])⟩

set_option maxHeartbeats 4000000 in
theorem Learned_any (v : Value) (l : List REntry) (ip hw : Int) (hn : l.length ≤ 1048576) (w : World) (h : RdEntry w v l) :
    Calls Try.prog 34 #[v, .int .i64 ip, .int .i64 hw] w (NewEntry w (learnedR l ip hw)) := by
  obtain ⟨i0, hi, is0, is1, is2⟩ := info_parts info_Entry
  obtain ⟨A, c, rfl, hcc, -⟩ := id h
  obtain ⟨hcn, hcm, -⟩ := hcc
  unfold maxLen at hcm
  have H := Lib.hid h
  clear h
  go_enter Try.func34, Try.ntmps34
  go_wp2_with fail
  refine (CloneEntry_own _ l (by omega) _ H.out).mono ?_
  rintro e w1 ⟨v1, rfl, hrow, hb1⟩
  have HW := Lib.hid hrow
  have hown : OwnEntry w1 w.heap.size v1 l := .inl hrow
  clear hrow
  have hz1 := hb1.size
  have HO := Lib.hid hown
  obtain ⟨A1, c1, rfl⟩ := hown.form
  clear hown
  have H1 := Lib.hid (H.out.below hb1)
  go_wp2_with fail
  refine (CacheOk_any _ l (by unfold maxLen; omega) _ H1.out).mono ?_
  rintro e w2 ⟨rfl, hb2⟩
  have hz2 := hb2.size
  have O2 := Lib.hid (HO.out.below hb2)
  have W2 := Lib.hid (own_below HW.out hb2)
  have hw2 : Below w.heap.size w w2 := (by repeat (first | with_reducible exact Below.refl _ _ | with_reducible assumption | with_reducible refine Below.drew ?_ | with_reducible refine Below.alloc ?_ (by first | exact Nat.le_refl _ | omega | (simp; done) | (simp; omega)) _ | with_reducible refine Below.setCell ?_ (by first | exact Nat.le_refl _ | omega | (simp; done) | (simp; omega)) _ | (with_reducible refine ext_trans ?_ (by with_reducible assumption))))
  cases ha : cacheB l
  case false =>
    have HR : Hid (learnedR l ip hw = l) := by (unfold learnedR; rw [ha]; rfl)
    go_wp2_with fail
    go_ret
    exact ⟨_, rfl, by rw [HR.out]; exact O2.out, (by repeat (first | with_reducible exact Below.refl _ _ | with_reducible assumption | with_reducible refine Below.drew ?_ | with_reducible refine Below.alloc ?_ (by first | exact Nat.le_refl _ | omega | (simp; done) | (simp; omega)) _ | with_reducible refine Below.setCell ?_ (by first | exact Nat.le_refl _ | omega | (simp; done) | (simp; omega)) _ | (with_reducible refine ext_trans ?_ (by with_reducible assumption))))⟩
  case true =>
    cases hwi : wordB ip 32
    case false =>
      have HR : Hid (learnedR l ip hw = l) := by (unfold learnedR; rw [ha, hwi]; rfl)
      go_wp2_with (go_at_call 53; refine (WordOk_any _ _ _).mono ?_; rintro e' w' ⟨rfl, rfl⟩)
      go_ret
      exact ⟨_, rfl, by rw [HR.out]; exact O2.out, (by repeat (first | with_reducible exact Below.refl _ _ | with_reducible assumption | with_reducible refine Below.drew ?_ | with_reducible refine Below.alloc ?_ (by first | exact Nat.le_refl _ | omega | (simp; done) | (simp; omega)) _ | with_reducible refine Below.setCell ?_ (by first | exact Nat.le_refl _ | omega | (simp; done) | (simp; omega)) _ | (with_reducible refine ext_trans ?_ (by with_reducible assumption))))⟩
    case true =>
      cases hwh : wordB hw 48
      case false =>
        have HR : Hid (learnedR l ip hw = l) := by (unfold learnedR; rw [ha, hwi, hwh]; rfl)
        go_wp2_with (go_at_call 53; refine (WordOk_any _ _ _).mono ?_; rintro e' w' ⟨rfl, rfl⟩)
        go_ret
        exact ⟨_, rfl, by rw [HR.out]; exact O2.out, (by repeat (first | with_reducible exact Below.refl _ _ | with_reducible assumption | with_reducible refine Below.drew ?_ | with_reducible refine Below.alloc ?_ (by first | exact Nat.le_refl _ | omega | (simp; done) | (simp; omega)) _ | with_reducible refine Below.setCell ?_ (by first | exact Nat.le_refl _ | omega | (simp; done) | (simp; omega)) _ | (with_reducible refine ext_trans ?_ (by with_reducible assumption))))⟩
      case true =>
        have HR : Hid (learnedR l ip hw = if atI l ip < 0 then roomR l ++ [(ip, hw, 0)] else l.set (atI l ip).toNat (ip, hw, 0)) := by (unfold learnedR; rw [ha, hwi, hwh]; rfl)
        go_wp2_with (go_at_call 53; refine (WordOk_any _ _ _).mono ?_; rintro e' w' ⟨rfl, rfl⟩)
        clear ha hwi hwh
        go_loopw [30] (fun i wr => ∃ q : Nat, q ≤ l.length ∧ i = .int .i64 q ∧ Hid ((l.take q).any (isIp ip) = false) ∧ wr = w2) (fun i _ => l.length - (intOf i).toNat)
        case atStart => exact ⟨0, by omega, rfl, rfl, rfl⟩
        case round =>
          obtain ⟨q, hq, rfl, hno, rfl⟩ := hrel
          by_cases hlt : q < l.length
          · obtain ⟨g, c', eg, hgl, hgw⟩ := O2.out.at (fun e => by rw [e] at hlt; exact absurd hlt (by simp))
            cases eg
            have hne : l ≠ [] := fun e => by rw [e] at hlt; exact absurd hlt (by simp)
            have OR := Lib.hid (O2.out.resolve_right fun h => hne h.1)
            have hlen : (cellsOf eEntry l).length = l.length * 3 := cells_len eEntry_len l
            have HL := Lib.hid hlen
            obtain ⟨z, hz⟩ : ∃ z, l[q] = z := ⟨_, rfl⟩
            have HZ := Lib.hid hz
            obtain ⟨y0, y1, y2⟩ := z
            have c0 : wr.cell? ⟨g, q * 3, none⟩ = some (.int .i64 y0) := (OR.out.cellAt (q * 3) (by omega)).trans ((cells_at eEntry_len l q 0 hlt (by omega)).trans (by rw [HZ.out]; rfl))
            have c1 : wr.cell? ⟨g, q * 3 + 1, none⟩ = some (.int .i64 y1) := (OR.out.cellAt (q * 3 + 1) (by omega)).trans ((cells_at eEntry_len l q 1 hlt (by omega)).trans (by rw [HZ.out]; rfl))
            have hnq : (q : Int) < (l.length : Int) := by omega
            clear hz hlen hne
            by_cases hin : y0 = ip
            · have HP := Lib.hid hin
              subst hin
              have f1 := OR.out.frozenAt (q * 3 + 1)
              have hs1 := OR.out.stored (q * 3 + 1) (.int .i64 hw)
              have own1 := Lib.hid hs1.1
              clear hs1
              obtain ⟨o2, d2⟩ : ∃ v, (wr.setCell ⟨g, q * 3 + 1, none⟩ (.int .i64 hw)).cell? ⟨g, q * 3 + 2, none⟩ = some v := ⟨_, (own1.out.cellAt (q * 3 + 2) (by omega)).trans (List.getElem?_eq_getElem (by simp only [List.length_set]; rw [HL.out]; omega))⟩
              have f2 := own1.out.frozenAt (q * 3 + 2)
              have hs2 := own1.out.stored (q * 3 + 2) (.int .i64 0)
              have own2 := Lib.hid hs2.1
              clear hs2
              go_wp2_with fail
              go_ret
              have ea : atI l y0 = (q : Int) := atI_at hlt hno.out HZ.out rfl
              have er : learnedR l y0 hw = l.set q (y0, hw, 0) := by rw [HR.out, ea, if_neg (by omega)]; rfl
              refine ⟨_, rfl, .inl ?_, (by repeat (first | with_reducible exact Below.refl _ _ | with_reducible assumption | with_reducible refine Below.drew ?_ | with_reducible refine Below.alloc ?_ (by first | exact Nat.le_refl _ | omega | (simp; done) | (simp; omega)) _ | with_reducible refine Below.setCell ?_ (by first | exact Nat.le_refl _ | omega | (simp; done) | (simp; omega)) _ | (with_reducible refine ext_trans ?_ (by with_reducible assumption))))⟩
              rw [er, List.length_set, ← set_entry l q (y0, y1, y2) (y0, hw, 0) hlt HZ.out]
              exact own2.out
            · have hm := Lib.hid (any_noE hno.out hlt HZ.out (by simpa [isIp] using hin))
              go_wp2_with fail
              exact ⟨⟨q + 1, by omega, by go_num, hm.out, by first | rfl | trivial⟩, by simp [intOf]; omega⟩
          · obtain rfl : q = l.length := by omega
            have hall : Hid (l.any (isIp ip) = false) := (by have := hno.out; rwa [List.take_length] at this : l.any (isIp ip) = false)
            have HA : Hid (learnedR l ip hw = roomR l ++ [(ip, hw, 0)]) := by (rw [HR.out, atI_no hall.out]; rfl)
            by_cases h4 : l.length = 4
            case neg =>
              have h4' : ¬ ((l.length : Int) = 4) := by omega
              have HM : Hid (roomR l = l) := by (unfold roomR; rw [if_neg h4]; rfl)
              go_wp2_with (refine wpList_append_own _ (by rfl) (.tmp 76) (.tmp 80) 26 (by rfl) w.heap.size 71 i0 _ 3 24 Try.underlying26 hi is0 is1 is2 (by rfl) (by omega) (.slice A1 l.length c1) l.length (cellsOf eEntry l) (by rfl) ?c1 ⟨wr.heap.size, 0, none⟩ 1 1 (eEntry (ip, hw, 0)) (by rfl) ?c2 ?c3 ?c4 ?c5 ?c6 ?c7 ?_)
              case c1 => exact own_below W2.out (by repeat (first | with_reducible exact Below.refl _ _ | with_reducible assumption | with_reducible refine Below.drew ?_ | with_reducible refine Below.alloc ?_ (by first | exact Nat.le_refl _ | omega | (simp; done) | (simp; omega)) _ | with_reducible refine Below.setCell ?_ (by first | exact Nat.le_refl _ | omega | (simp; done) | (simp; omega)) _ | (with_reducible refine ext_trans ?_ (by with_reducible assumption))))
              case c2 => rfl
              case c3 => exact newsC _ _ _ _ rfl
              case c4 => intro u hu; simp only [eEntry, List.mem_cons, List.not_mem_nil, or_false] at hu; rcases hu with rfl | rfl | rfl <;> rfl
              case c5 => unfold maxLen; omega
              case c6 => omega
              case c7 => (simp; omega)
              intro v' w4 hown4 hgr _
              have HO4 := Lib.hid hown4
              clear hown4
              go_wp2_with fail
              go_ret
              exact ⟨_, rfl, by rw [HA.out, HM.out]; exact own_snoc HO4.out, Below.grown (by repeat (first | with_reducible exact Below.refl _ _ | with_reducible assumption | with_reducible refine Below.drew ?_ | with_reducible refine Below.alloc ?_ (by first | exact Nat.le_refl _ | omega | (simp; done) | (simp; omega)) _ | with_reducible refine Below.setCell ?_ (by first | exact Nat.le_refl _ | omega | (simp; done) | (simp; omega)) _ | (with_reducible refine ext_trans ?_ (by with_reducible assumption)))) hgr (by simp; omega) (fun q hq => (W2.out.lt q hq).1)⟩
            case pos =>
              generalize wr = wa at *
              have HM : Hid (roomR l = l.take (oldTo l l.length) ++ l.drop (oldTo l l.length + 1)) := (by unfold roomR; rw [if_pos h4]; rfl)
              have h4' : (l.length : Int) = 4 := by omega
              rcases W2.out.2 with ⟨-, hx⟩ | ⟨g, cap, cur, hv, hg, hgw, q1, q2, q3, q4⟩
              · exact absurd hx (by omega)
              cases hv
              have HGW := Lib.hid hgw
              have Q4 := Lib.hid q4
              clear hgw q4
              have H4 := Lib.hid h4
              have hl0 : 0 < l.length := by omega
              go_wp2_with fail
              clear h4 h4'
              go_loopw [9, 56] (fun old i wr => ∃ q k : Nat, q ≤ l.length ∧ k < l.length ∧ i = .int .i64 q ∧ old = .int .i64 k ∧ Hid (oldTo l q = k) ∧ Below wa.heap.size wa wr) (fun _ i _ => l.length - (intOf i).toNat)
              case atStart => exact ⟨0, 0, by omega, by omega, rfl, rfl, rfl, Below.refl _ _⟩
              case round =>
                obtain ⟨q, k, hq, hk, rfl, rfl, hold, hbx⟩ := hrel
                have hbs := hbx.size
                by_cases hlt : q < l.length
                · have OX := Lib.hid (own_below W2.out hbx)
                  obtain ⟨z, hz⟩ : ∃ z, l[q] = z := ⟨_, rfl⟩
                  have HZ := Lib.hid hz
                  obtain ⟨y0, y1, y2⟩ := z
                  obtain ⟨t, ht⟩ : ∃ t, l[k] = t := ⟨_, rfl⟩
                  have HT := Lib.hid ht
                  obtain ⟨t0, t1, t2⟩ := t
                  clear hz ht
                  have hlen : (cellsOf eEntry l).length = l.length * 3 := cells_len eEntry_len l
                  have e0 : wr.cell? ⟨g, q * 3, none⟩ = some (.int .i64 y0) := (OX.out.cellAt (q * 3) (by omega)).trans ((cells_at eEntry_len l q 0 hlt (by omega)).trans (by rw [HZ.out]; rfl))
                  have e1 : wr.cell? ⟨g, q * 3 + 1, none⟩ = some (.int .i64 y1) := (OX.out.cellAt (q * 3 + 1) (by omega)).trans ((cells_at eEntry_len l q 1 hlt (by omega)).trans (by rw [HZ.out]; rfl))
                  have e2 : wr.cell? ⟨g, q * 3 + 2, none⟩ = some (.int .i64 y2) := (OX.out.cellAt (q * 3 + 2) (by omega)).trans ((cells_at eEntry_len l q 2 hlt (by omega)).trans (by rw [HZ.out]; rfl))
                  have d2 : wr.cell? ⟨g, k * 3 + 2, none⟩ = some (.int .i64 t2) := (OX.out.cellAt (k * 3 + 2) (by omega)).trans ((cells_at eEntry_len l k 2 hk (by omega)).trans (by rw [HT.out]; rfl))
                  have hnq : (q : Int) < (l.length : Int) := by omega
                  have hnk : (k : Int) < (l.length : Int) := by omega
                  have hq0 : (0 : Int) ≤ (q : Int) := by omega
                  have hk0 : (0 : Int) ≤ (k : Int) := by omega
                  have hq4 : (q : Int) < 4 := by (have := H4.out; omega)
                  have hgx : g < wr.heap.size := (OX.out.lt g rfl).2
                  clear hlen
                  go_wp2_with fail
                  have hb9 : Below wa.heap.size wa (wr.alloc (.cells #[.int .i64 y0, .int .i64 y1, .int .i64 y2] 71)) := (by repeat (first | with_reducible exact Below.refl _ _ | with_reducible assumption | with_reducible refine Below.drew ?_ | with_reducible refine Below.alloc ?_ (by first | exact Nat.le_refl _ | omega | (simp; done) | (simp; omega)) _ | with_reducible refine Below.setCell ?_ (by first | exact Nat.le_refl _ | omega | (simp; done) | (simp; omega)) _ | (with_reducible refine ext_trans ?_ (by with_reducible assumption))))
                  have hrow : (wr.alloc (.cells #[.int .i64 y0, .int .i64 y1, .int .i64 y2] 71)).heap[wr.heap.size]? = some (.cells #[.int .i64 y0, .int .i64 y1, .int .i64 y2] 71 (0, 0)) := (by repeat (first | exact heap_new _ _ _ (by first | rfl | (simp; done) | (simp; omega)) | refine (Below.heap_alloc _ _ _ (by first | omega | (simp; done) | (simp; omega))).trans ?_))
                  have d2' : (wr.alloc (.cells #[.int .i64 y0, .int .i64 y1, .int .i64 y2] 71)).cell? ⟨g, k * 3 + 2, none⟩ = some (.int .i64 t2) := (World.cell?_of_block (Below.heap_alloc _ _ _ hgx)).trans d2
                  have hl9 : wr.heap.size < (wr.alloc (.cells #[.int .i64 y0, .int .i64 y1, .int .i64 y2] 71)).heap.size := by simp
                  generalize (wr.alloc (.cells #[.int .i64 y0, .int .i64 y1, .int .i64 y2] 71)) = w9 at *
                  have r0_hrow := cell_of_row _ _ 0 _ _ _ hrow
                  have r1_hrow := cell_of_row _ _ 1 _ _ _ hrow
                  have r2_hrow := cell_of_row _ _ 2 _ _ _ hrow
                  have f0_hrow := frozen_of_row _ _ 0 _ _ hrow
                  have f1_hrow := frozen_of_row _ _ 1 _ _ hrow
                  have f2_hrow := frozen_of_row _ _ 2 _ _ hrow
                  simp at r0_hrow r1_hrow r2_hrow
                  clear hrow
                  have hbd : Below wa.heap.size wa w9.drew := hb9.drew
                  refine wp_region_still_tail 7 (by kernel_rfl) (by kernel_rfl) ?_
                  simp only [List.take_succ_cons, List.take_zero, List.drop_succ_cons, List.drop_zero]
                  repeat (first | still_step)
                  refine wpStill_nil ?_
                  change wpList _ _ _ _ _ w9.drew
                  generalize w9.drew = wd at *
                  by_cases hgt : t2 < y2
                  · have hO := Lib.hid (oldTo_yes l hlt hk hold.out HZ.out HT.out hgt)
                    go_wp2_with fail
                    exact ⟨⟨q + 1, q, by omega, hlt, by go_num, rfl, hO.out, hbd⟩, by simp [intOf]; omega⟩
                  · have hO := Lib.hid (oldTo_no l hlt hk hold.out HZ.out HT.out hgt)
                    go_wp2_with fail
                    exact ⟨⟨q + 1, k, by omega, hk, by go_num, rfl, hO.out, hbd⟩, by simp [intOf]; omega⟩
                · obtain rfl : q = l.length := by omega
                  have HO := hold
                  have hgw2 := (hbx.block g (Array.getElem?_eq_some_iff.1 HGW.out).1).trans HGW.out
                  have HGX := Lib.hid hgw2
                  have hnk : (k : Int) < (l.length : Int) := by omega
                  have hk0 : (0 : Int) ≤ (k : Int) := by omega
                  have hqq : ¬ ((l.length : Int) < 4) := by (have := H4.out; omega)
                  have DEL := Lib.hid (DeleteEntry_any w.heap.size g c1 k l hk (by omega) q1 q2 cur wr hg HGX.out q3 Q4.out)
                  clear hgw2
                  go_wp2_with fail
                  refine DEL.out.mono ?_
                  rintro e w5 ⟨rfl, hown5, hgr5⟩
                  have hb5 : Below w.heap.size w w5 := Below.grown (by repeat (first | with_reducible exact Below.refl _ _ | with_reducible assumption | with_reducible refine Below.drew ?_ | with_reducible refine Below.alloc ?_ (by first | exact Nat.le_refl _ | omega | (simp; done) | (simp; omega)) _ | with_reducible refine Below.setCell ?_ (by first | exact Nat.le_refl _ | omega | (simp; done) | (simp; omega)) _ | (with_reducible refine ext_trans ?_ (by with_reducible assumption)))) hgr5 (by omega) (fun q hq => by cases hq; exact hg)
                  have hs5 := hb5.size
                  have hl5 : (l.take k ++ l.drop (k + 1)).length = l.length - 1 := by rw [List.length_append, List.length_take, List.length_drop]; omega
                  obtain ⟨l5, hl5e⟩ : ∃ l5, l.take k ++ l.drop (k + 1) = l5 := ⟨_, rfl⟩
                  rw [hl5e] at hown5 hl5
                  have HM2 : Hid (roomR l = l5) := by (rw [HM.out, HO.out]; exact hl5e)
                  have OW5 : Hid (w5.ownsRow w.heap.size 71 3 (.slice (some ⟨g, 0, none⟩) (l.length - 1 : Nat) c1) (l.length - 1) (cellsOf eEntry l5)) := by
                    rcases hown5 with h | ⟨h, -⟩
                    · rw [hl5] at h; exact h
                    · exact absurd (congrArg List.length h) (by rw [hl5]; simp; omega)
                  clear hown5 hgr5
                  have hsz5 : w5.heap.size < (w5.alloc (.cells #[.int .i64 ip, .int .i64 hw, .int .i64 0] 71)).heap.size := by simp
                  go_wp2_with (refine wpList_append_own _ (by rfl) (.tmp 76) (.tmp 80) 26 (by rfl) w.heap.size 71 i0 _ 3 24 Try.underlying26 hi is0 is1 is2 (by rfl) (by omega) (.slice (some ⟨g, 0, none⟩) (l.length - 1 : Nat) c1) (l.length - 1) (cellsOf eEntry l5) (by rfl) ?c1 ⟨w5.heap.size, 0, none⟩ 1 1 (eEntry (ip, hw, 0)) (by rfl) ?c2 ?c3 ?c4 ?c5 ?c6 ?c7 ?_)
                  case c1 => exact own_below OW5.out (by repeat (first | with_reducible exact Below.refl _ _ | with_reducible assumption | with_reducible refine Below.drew ?_ | with_reducible refine Below.alloc ?_ (by first | exact Nat.le_refl _ | omega | (simp; done) | (simp; omega)) _ | with_reducible refine Below.setCell ?_ (by first | exact Nat.le_refl _ | omega | (simp; done) | (simp; omega)) _ | (with_reducible refine ext_trans ?_ (by with_reducible assumption))))
                  case c2 => rfl
                  case c3 => exact newsC _ _ _ _ rfl
                  case c4 => intro u hu; simp only [eEntry, List.mem_cons, List.not_mem_nil, or_false] at hu; rcases hu with rfl | rfl | rfl <;> rfl
                  case c5 => unfold maxLen; omega
                  case c6 => omega
                  case c7 => (simp; omega)
                  intro v' w6 hown6 hgr6 _
                  have HO6 := Lib.hid hown6
                  clear hown6
                  go_wp2_with fail
                  go_ret
                  refine ⟨_, rfl, by rw [HA.out, HM2.out]; exact own_snoc (l := l5) (hl5 ▸ HO6.out), Below.grown (by repeat (first | with_reducible exact Below.refl _ _ | with_reducible assumption | with_reducible refine Below.drew ?_ | with_reducible refine Below.alloc ?_ (by first | exact Nat.le_refl _ | omega | (simp; done) | (simp; omega)) _ | with_reducible refine Below.setCell ?_ (by first | exact Nat.le_refl _ | omega | (simp; done) | (simp; omega)) _ | (with_reducible refine ext_trans ?_ (by with_reducible assumption)))) hgr6 (by simp; omega) (fun q hq => by cases hq; exact hg)⟩

end Go.Proofs.Yteaniiponikpjaa
