/-
  slices.Delete of one record, in a row of the call's own.
-/
import Derived.Test.YteaniiponikpjaaEnt
import Derived.Lib.SliceRun
import Derived.Deep.RegionLaw
namespace Go.Proofs.Yteaniiponikpjaa
set_option maxRecDepth 100000
open Go.RowKit

/-- 'clear' of n > 0 elements of any width. -/
theorem run_clear_cells {P : Program} (w : World) (t e ty : TypeId) (z : Value) (ht : P.underlying t = some (.slice e)) (hv : ∀ w, (zeroValue e).run P w = .ok z w) (b o n c : Nat) (hn : 0 < n) (news : List Value)
    (hz : (Builtin.zeroCells z.cells n).toList = news) (h1 : ∀ v ∈ news, v.oneCell' = true)
    (hc : ∀ j, j < news.length → (w.cell? ⟨b, o + j, none⟩).isSome = true) (hf : ∀ j, j < news.length → w.frozen? ⟨b, o + j, none⟩ = false) :
    (Builtin.clear_ #[t] ty #[.slice (some ⟨b, o, none⟩) n c]).run P w = .ok (.tuple #[]) (w.setCells b o news) := by
  have hst := run_storeCells_cells (P := P) b o news 0 w (by simpa using hc) (by simpa using hf) h1
  simp only [Nat.add_zero] at hst
  obtain ⟨m, rfl⟩ : ∃ m, n = m + 1 := ⟨n - 1, by omega⟩
  simp [Builtin.clear_, run_underlying ht, hv, hz, hst]

theorem set_mid {α : Type} (L : List α) (o : Nat) (v : α) (r : List α) (h : o < L.length) : (L.set o v).take (o + 1) ++ r ++ (L.set o v).drop (o + 1 + r.length) = L.take o ++ v :: r ++ L.drop (o + (r.length + 1)) := by
  obtain ⟨p, u, q, rfl, rfl⟩ : ∃ p u q, L = p ++ u :: q ∧ p.length = o := ⟨L.take o, L[o], L.drop (o + 1), by simp, by rw [List.length_take]; omega⟩
  have e1 : (p ++ u :: q).set p.length v = p ++ v :: q := by simp
  have e2 : p.length + 1 + r.length = p.length + (r.length + 1) := by omega
  rw [e1, e2]
  have e3 : (p ++ v :: q).take (p.length + 1) = p ++ [v] := by rw [List.take_length_add_append]; rfl
  have e4 : (p ++ v :: q).drop (p.length + (r.length + 1)) = q.drop r.length := by rw [List.drop_length_add_append]; rfl
  have e5 : (p ++ u :: q).drop (p.length + (r.length + 1)) = q.drop r.length := by rw [List.drop_length_add_append]; rfl
  have e6 : (p ++ u :: q).take p.length = p := by simp
  rw [e3, e4, e5, e6]
  simp

/-- A row behind setCells. -/
theorem row_setCells {g : Nat} {e : TypeId} : ∀ (vs : List Value) (o : Nat) (w : World) (cs : Array Value), w.heap[g]? = some (.cells cs e (0, 0)) → o + vs.length ≤ cs.size →
    ∃ cs', (w.setCells g o vs).heap[g]? = some (.cells cs' e (0, 0)) ∧ cs'.size = cs.size ∧ cs'.toList = cs.toList.take o ++ vs ++ cs.toList.drop (o + vs.length)
  | [], o, w, cs, h, _ => ⟨cs, h, rfl, by simp⟩
  | v :: r, o, w, cs, h, hl => by
    simp only [List.length_cons] at hl
    obtain ⟨cs', h1, h2, h3⟩ := row_setCells r (o + 1) (w.setCell ⟨g, o, none⟩ v) (cs.setIfInBounds o v) (heap_setCell_same w g o cs e v h) (by rw [Array.size_setIfInBounds]; omega)
    refine ⟨cs', h1, by rw [h2, Array.size_setIfInBounds], ?_⟩
    rw [h3, Array.toList_setIfInBounds]
    exact set_mid cs.toList o v r (by rw [Array.length_toList]; omega)

/-- What a deletion of one record leaves in the row. -/
theorem del_list {α : Type} (L A B C : List α) (a b c : Nat) (ha : A.length = a) (hb : B.length = b) (hc : C.length = c) (h : L.take (a + b + c) = A ++ B ++ C) (L1 L2 : List α) (h1 : L1 = L.take a ++ C ++ L.drop (a + c)) (h2 : L2.take (a + c) = L1.take (a + c)) : L2.take (a + c) = A ++ C := by
  rw [h2, h1]
  have e : L.take a = A := by
    have := congrArg (List.take a) h
    rw [List.take_take, Nat.min_eq_left (by omega), List.append_assoc, ← ha, List.take_left] at this
    rw [← ha]; exact this
  rw [e, ← ha, ← hc, ← List.length_append, List.take_left]

theorem grown_setCells {w : World} {g : Nat} : ∀ (vs : List Value) (o : Nat) (w' : World), w.grownBy w' (some g) → w.grownBy (w'.setCells g o vs) (some g)
  | [], _, _, h => h
  | v :: r, o, w', h => grown_setCells r (o + 1) _ ⟨h.os, h.tape, h.output, by simpa using h.size, fun k hk hne => by rw [Below.heap_setCell w' ⟨g, o, none⟩ v k (fun e => hne (by rw [e]))]; exact h.block k hk hne⟩
theorem there_row {w : World} {g : Nat} {cs : Array Value} {e : TypeId} (h : w.heap[g]? = some (.cells cs e (0, 0))) (j : Nat) (hj : j < cs.size) : (w.cell? ⟨g, j, none⟩).isSome = true ∧ w.frozen? ⟨g, j, none⟩ = false := by
  constructor
  · simp [World.cell?, h, hj]
  · simp [World.frozen?, h]

set_option maxHeartbeats 4000000 in
/-- slices.Delete of the record i. -/
theorem DeleteEntry_any (base g cap i : Nat) (l : List REntry) (hi : i < l.length) (hn : l.length ≤ 1048600) (hcap : l.length ≤ cap) (hm : cap ≤ maxLen) (cur : Array Value) (w : World) (hbase : base ≤ g) (hg : w.heap[g]? = some (.cells cur 71 (0, 0))) (hsz : cur.size = cap * 3) (htk : cur.toList.take (l.length * 3) = cellsOf eEntry l) :
    Calls Try.prog 59 #[.slice (some ⟨g, 0, none⟩) l.length cap, .int .i64 i, .int .i64 (i + 1)] w fun e w' => e = .returned (.slice (some ⟨g, 0, none⟩) (l.length - 1 : Nat) cap) ∧ OwnEntry w' base (.slice (some ⟨g, 0, none⟩) (l.length - 1 : Nat) cap) (l.take i ++ l.drop (i + 1)) ∧ w.grownBy w' (some g) := by
  obtain ⟨i0, hi0, hz0, hz1, hz2⟩ := info_parts info_Entry
  obtain ⟨news, hnews⟩ : ∃ news, news = cellsOf eEntry (l.drop (i + 1)) := ⟨_, rfl⟩
  have hlen : news.length = (l.length - (i + 1)) * 3 := by rw [hnews, cells_len eEntry_len, List.length_drop]
  obtain ⟨A, hA, hsrc⟩ : ∃ A : Addr, (if cap = i + 1 then some (⟨g, 0, none⟩ : Addr) else some ⟨g, (i + 1) * 3, none⟩) = some A ∧ Hid (∀ t u, news[t]? = some u → w.drew.cell? (A.add t) = some u) := by
    by_cases h : cap = i + 1
    · refine ⟨⟨g, 0, none⟩, by simp [h], fun t u hu => ?_⟩
      have h0 : news.length = 0 := by rw [hlen]; omega
      rw [List.length_eq_zero_iff.1 h0] at hu
      simp at hu
    · refine ⟨⟨g, (i + 1) * 3, none⟩, by simp [h], fun t u hu => ?_⟩
      have ht : t < news.length := (List.getElem?_eq_some_iff.1 hu).1
      rw [Addr.add_lit]
      have e1 : cur[(i + 1) * 3 + t]? = some u := by
        have h2 : (cellsOf eEntry l)[(i + 1) * 3 + t]? = some u := by
          rw [show l = l.take (i + 1) ++ l.drop (i + 1) by simp, cells_append, List.getElem?_append_right (by rw [cells_len eEntry_len, List.length_take]; omega), cells_len eEntry_len, List.length_take, Nat.min_eq_left (by omega), Nat.add_sub_cancel_left, ← hnews]
          exact hu
        rw [← htk, List.getElem?_take, if_pos (by omega), Array.getElem?_toList] at h2
        exact h2
      show w.cell? _ = some u
      simp [World.cell?, hg, e1]
  have s1 : Hid (news.length = (l.length - (i + 1)) * 3) := hlen
  have s2 : Hid (∀ u ∈ news, u.oneCell' = true) := by rw [hnews]; exact oneEntry _
  have s3 : Hid (∀ t, t < news.length → (w.drew.cell? ⟨g, 0 + i * 3 + t, none⟩).isSome = true ∧ w.drew.frozen? ⟨g, 0 + i * 3 + t, none⟩ = false) := fun t ht => by
    rw [Nat.zero_add]
    exact there_row (w := w) hg _ (by omega)
  obtain ⟨cur1, r1, r2, r3⟩ := row_setCells (g := g) (e := 71) news (i * 3) w.drew cur hg (by omega)
  obtain ⟨W1, hW1⟩ : ∃ W1, W1 = w.drew.setCells g (0 + i * 3) news := ⟨_, rfl⟩
  rw [← (Nat.zero_add (i * 3)), ← hW1] at r1
  obtain ⟨zs, hzs⟩ : ∃ zs, zs = zEntry := ⟨_, rfl⟩
  have hzl : zs.length = 3 := by rw [hzs]; rfl
  obtain ⟨cur2, q1, q2, q3⟩ := row_setCells (g := g) (e := 71) zs ((l.length - 1) * 3) W1 cur1 r1 (by omega)
  have hcl : ∀ ty k, (Builtin.clear_ #[26] ty #[.slice (some ⟨g, (i + (l.length - (i + 1))) * 3, none⟩) (l.length - (i + (l.length - (i + 1)))) k]).run Try.prog W1 = .ok (.tuple #[]) (W1.setCells g ((l.length - 1) * 3) zs) := fun ty k => by
    rw [show i + (l.length - (i + 1)) = l.length - 1 by omega, show l.length - (l.length - 1) = 1 by omega]
    refine run_clear_cells W1 _ 71 ty (.agg #[.int .i64 0, .int .i64 0, .int .i64 0]) Try.underlying26 (fun w => by simp [zeroValue, typeInfo, hi0, hz0]) g _ 1 k (by omega) zs (by rw [hzs]; kernel_rfl) (by rw [hzs]; intro v hv; simp [zEntry] at hv; subst hv; rfl) (fun j hj => ?_) (fun j hj => ?_)
    · exact (there_row r1 _ (by omega)).1
    · exact (there_row r1 _ (by omega)).2
  have hW := Lib.hid hW1
  have hic : i ≤ cap := by omega
  have hjc : i + 1 ≤ cap := by omega
  have g1 : (0 : Int) ≤ (i : Int) + 1 := by omega
  have g2 : (i : Int) + 1 ≤ (l.length : Int) := by omega
  have R1 := Lib.hid r1
  have R2 := Lib.hid r2
  have R3 := Lib.hid r3
  have Q1 := Lib.hid q1
  have Q2 := Lib.hid q2
  have Q3 := Lib.hid q3
  have HG := Lib.hid hg
  have HT := Lib.hid htk
  have NW := Lib.hid hnews
  clear hW1 r1 r2 r3 q1 q2 q3 hg htk hnews hlen hzs
  unfold maxLen at hm
  go_enter Try.func59, Try.ntmps59
  go_wp2_with fail
  go_region_law (refine step_append_room rfl (.tmp 22) (.tmp 25) 26 rfl 71 i0 3 Try.underlying26 hi0 hz1 g 0 i cap (by simp [Act.eval, Act.put]) A (l.length - (i + 1)) (cap - (i + 1)) news (by simp [Act.eval, Act.put]) s1.out hsrc.out s2.out (by omega) s3.out ?_; rw [← hW.out])
  go_wp2
  go_ret
  have e1 : i + (l.length - (i + 1)) = l.length - 1 := by omega
  have e2 : (l.take i ++ l.drop (i + 1)).length = l.length - 1 := by rw [List.length_append, List.length_take, List.length_drop]; omega
  have e3 := HT.out
  have e4 := Q3.out
  have e5 := Q2.out
  have e6 := R2.out
  refine ⟨by rw [e1]; rfl, .inl ?_, ?_⟩
  · rw [e2]
    refine ⟨by rw [cells_len eEntry_len, e2], .inr ⟨g, cap, cur2, rfl, hbase, Q1.out, by omega, hm, by omega, ?_⟩⟩
    have k : (l.length - 1) * 3 = i * 3 + (l.length - (i + 1)) * 3 := by omega
    have hz : l.length * 3 = i * 3 + 3 + (l.length - (i + 1)) * 3 := by omega
    have hl1 : (cur1.toList.take ((l.length - 1) * 3)).length = (l.length - 1) * 3 := by (have hs : cur1.toList.length = cur1.size := Array.length_toList); rw [List.length_take]; omega
    have hl : l = l.take i ++ [l[i]] ++ l.drop (i + 1) := by simp
    have ha : (cellsOf eEntry (l.take i)).length = i * 3 := by rw [cells_len eEntry_len, List.length_take, Nat.min_eq_left (by omega)]
    have hb : (cellsOf eEntry [l[i]]).length = 3 := by rw [cells_len eEntry_len]; rfl
    have hc : (cellsOf eEntry (l.drop (i + 1))).length = (l.length - (i + 1)) * 3 := by rw [cells_len eEntry_len, List.length_drop]
    rw [k, cells_append]
    refine del_list cur.toList _ (cellsOf eEntry [l[i]]) _ (i * 3) 3 ((l.length - (i + 1)) * 3) ha hb hc ?_ cur1.toList cur2.toList ?_ ?_
    · rw [← hz, e3, ← cells_append, ← cells_append]
      exact congrArg (cellsOf eEntry) hl
    · rw [R3.out, NW.out, hc]
    · rw [e4, ← k, List.append_assoc]
      exact List.take_left' hl1
  · rw [hW.out]
    exact grown_setCells _ _ _ (grown_setCells _ _ _ (grown_below ((Below.refl w.heap.size w).drew) (some g)))

end Go.Proofs.Yteaniiponikpjaa
