/-
  Plain laws of lists of Entry: what is learned is known, what is aged is forgotten.
-/
import Derived.Test.YteaniiponikpjaaAge
namespace Go.Proofs.Yteaniiponikpjaa
set_option maxRecDepth 100000

def EntOk (x : REntry) : Prop := wordB x.1 32 = true ∧ wordB x.2.1 48 = true ∧ inB x.2.2 0 9 = true
theorem any_pair (l : List REntry) : (∀ i (h : i < l.length), (l.take i).any (isIp l[i].1) = false) ↔ l.Pairwise (fun a b => a.1 ≠ b.1) := by
  rw [List.pairwise_iff_getElem]
  constructor
  · intro h i j hi hj hij he
    have := h j hj
    rw [List.any_eq_false] at this
    refine this l[i] (List.mem_take_iff_getElem.2 ⟨i, by omega, rfl⟩) ?_
    simpa [isIp] using he
  · intro h i hi
    rw [List.any_eq_false]
    intro x hx
    obtain ⟨j, hj, rfl⟩ := List.mem_take_iff_getElem.1 hx
    have := h j i (by omega) hi (by omega)
    simpa [isIp] using this
theorem cacheB_iff {l : List REntry} : cacheB l = true ↔ l.length ≤ 4 ∧ (∀ x ∈ l, EntOk x) ∧ l.Pairwise (fun a b => a.1 ≠ b.1) := by
  have e : cacheTo l l.length = true ↔ (∀ x ∈ l, EntOk x) ∧ l.Pairwise (fun a b => a.1 ≠ b.1) := by
    rw [← any_pair]
    unfold cacheTo
    rw [List.all_eq_true]
    constructor
    · intro h
      refine ⟨fun x hx => ?_, fun i hi => ?_⟩
      · obtain ⟨i, hi, rfl⟩ := List.mem_iff_getElem.1 hx
        have := h i (List.mem_range.2 hi)
        unfold entOk at this
        rw [List.getElem?_eq_getElem hi] at this
        simp only [Bool.and_eq_true] at this
        exact ⟨this.1, this.2.1, this.2.2.1⟩
      · have := h i (List.mem_range.2 hi)
        unfold entOk at this
        rw [List.getElem?_eq_getElem hi] at this
        simp only [Bool.and_eq_true, Bool.not_eq_true'] at this
        exact this.2.2.2
    · intro ⟨h1, h2⟩ i hi
      have hi := List.mem_range.1 hi
      unfold entOk
      rw [List.getElem?_eq_getElem hi]
      obtain ⟨a, b, c⟩ := h1 _ (List.getElem_mem hi)
      simp [a, b, c, h2 i hi]
  unfold cacheB
  rw [Bool.and_eq_true, decide_eq_true_eq, e]

theorem aged_ok {l : List REntry} (h : cacheB l = true) : cacheB (agedR l) = true := by
  obtain ⟨h1, h2, h3⟩ := cacheB_iff.1 h
  refine cacheB_iff.2 ⟨Nat.le_trans (aged_len l) h1, fun x hx => ?_, ?_⟩
  · unfold agedR at hx
    obtain ⟨y, hy, hxy⟩ := List.mem_filterMap.1 hx
    obtain ⟨a, b, c⟩ := h2 y hy
    have c := inB_iff.1 c
    split at hxy
    · cases hxy
      exact ⟨a, b, inB_iff.2 (by dsimp only; omega)⟩
    · cases hxy
  · unfold agedR
    refine List.Pairwise.filterMap _ (fun a b hab c hc d hd => ?_) h3
    split at hc <;> split at hd <;> cases hc <;> cases hd
    exact hab
theorem aged_age {l : List REntry} {k : Int} (h : ∀ x ∈ l, k ≤ x.2.2) : ∀ x ∈ agedR l, k + 1 ≤ x.2.2 := by
  intro x hx
  unfold agedR at hx
  obtain ⟨y, hy, hxy⟩ := List.mem_filterMap.1 hx
  have := h y hy
  split at hxy
  · cases hxy
    dsimp only
    omega
  · cases hxy
theorem old_nil {l : List REntry} (h : cacheB l = true) (h2 : ∀ x ∈ l, 10 ≤ x.2.2) : l = [] := by
  cases l with
  | nil => rfl
  | cons a l =>
    have := h2 a List.mem_cons_self
    have := (inB_iff.1 ((cacheB_iff.1 h).2.1 a List.mem_cons_self).2.2).2
    omega
theorem ages {l : List REntry} (h : cacheB l = true) : ∀ x ∈ l, 0 ≤ x.2.2 ∧ x.2.2 ≤ 9 := fun x hx => inB_iff.1 ((cacheB_iff.1 h).2.1 x hx).2.2

theorem hw_last {l : List REntry} {ip hw a : Int} (h : l.any (isIp ip) = false) : hwR (l ++ [(ip, hw, a)]) ip = (hw, true) := by
  refine (hwR_at (k := l.length) (e := (ip, hw, a)) (by simp) (by simpa using h) (by simp) rfl).trans rfl
theorem hw_set {l : List REntry} {ip hw a : Int} {k : Nat} (hk : k < l.length) (h : (l.take k).any (isIp ip) = false) : hwR (l.set k (ip, hw, a)) ip = (hw, true) := by
  refine (hwR_at (k := k) (e := (ip, hw, a)) (by simpa using hk) ?_ (by simp) rfl).trans rfl
  rw [List.take_set_of_le (Nat.le_refl _)]
  exact h
theorem room_sub (l : List REntry) : (roomR l).Sublist l := by
  unfold roomR
  split
  · rename_i h4
    have hs : l = l.take (oldTo l l.length) ++ l.drop (oldTo l l.length) := by simp
    conv => rhs; rw [hs]
    refine List.Sublist.append (List.Sublist.refl _) ?_
    rw [← List.drop_drop]
    exact List.drop_sublist _ _
  · exact List.Sublist.refl _
theorem room_len {l : List REntry} (h : l.length ≤ 4) : (roomR l).length ≤ 3 ∧ l.length ≤ (roomR l).length + 1 := by
  unfold roomR
  split
  · rename_i h4
    have := oldTo_lt l (by omega) l.length (Nat.le_refl _)
    rw [List.length_append, List.length_take, List.length_drop]
    omega
  · omega
/-- What FnCache asks. -/
theorem learned_law {l : List REntry} {ip hw : Int} (h : cacheB l = true) (h1 : wordB ip 32 = true) (h2 : wordB hw 48 = true) :
    hwR (learnedR l ip hw) ip = (hw, true) ∧ cacheB (learnedR l ip hw) = true ∧ (learnedR l ip hw).length ≤ 4 ∧ l.length ≤ (learnedR l ip hw).length := by
  obtain ⟨c1, c2, c3⟩ := cacheB_iff.1 h
  unfold learnedR
  rw [h, h1, h2]
  simp only [Bool.and_self, if_true]
  have hnew : EntOk (ip, hw, 0) := ⟨h1, h2, (rfl : inB 0 0 9 = true)⟩
  rcases atI_cases ip l with ⟨hat, hno⟩ | ⟨k, hk, hat, hip, hno⟩
  · rw [hat, if_pos (by decide)]
    have hs := room_sub l
    obtain ⟨r1, r2⟩ := room_len c1
    have hno' : (roomR l).any (isIp ip) = false := by
      rw [List.any_eq_false] at hno ⊢
      exact fun x hx => hno x (hs.subset hx)
    have hl : (roomR l ++ [(ip, hw, 0)]).length = (roomR l).length + 1 := by simp
    refine ⟨hw_last hno', cacheB_iff.2 ⟨by omega, fun x hx => ?_, ?_⟩, by omega, by omega⟩
    · rcases List.mem_append.1 hx with hx | hx
      · exact c2 x (hs.subset hx)
      · rw [List.mem_singleton.1 hx]; exact hnew
    · rw [List.pairwise_append]
      refine ⟨c3.sublist hs, List.pairwise_singleton _ _, fun a ha b hb => ?_⟩
      rw [List.mem_singleton.1 hb]
      have := (List.any_eq_false.1 hno') a ha
      simpa [isIp] using this
  · rw [hat, if_neg (by omega), Int.toNat_natCast]
    have hl : (l.set k (ip, hw, 0)).length = l.length := by simp
    refine ⟨hw_set hk hno, cacheB_iff.2 ⟨by omega, fun x hx => ?_, ?_⟩, by omega, by omega⟩
    · rcases List.mem_or_eq_of_mem_set hx with hx | rfl
      · exact c2 x hx
      · exact hnew
    · rw [List.pairwise_iff_getElem] at c3 ⊢
      intro i j hi hj hij
      rw [hl] at hi hj
      have := c3 i j hi hj hij
      rw [List.getElem_set, List.getElem_set]
      split <;> split <;> simp_all
      all_goals omega
end Go.Proofs.Yteaniiponikpjaa
