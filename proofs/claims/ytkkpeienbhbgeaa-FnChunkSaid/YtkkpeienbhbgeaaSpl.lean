/-
  Plain words for the laws on senders.
-/
import Derived.Test.YtkkpeienbhbgeaaSndL
import Derived.Test.YtkkpeienbhbgeaaSndA
namespace Go.Proofs.Ytkkpeienbhbgeaa
open Go.RowKit
theorem isEmpty_size (d : ByteArray) : d.toList.isEmpty = decide (d.size = 0) := by
  rcases Nat.eq_zero_or_pos d.size with h | h
  · have e : d = ⟨#[]⟩ := by
      apply ByteArray.ext
      exact Array.eq_empty_of_size_eq_zero h
    rw [e, bs_list]
    rfl
  · rw [bs_isEmpty h]
    symm
    rw [decide_eq_false_iff_not]
    omega
theorem wordS32 (e : Int) : wordB e 32 = inB e 0 4294967295 := by simp [wordB, inB]
section
variable {u : Int} {d : ByteArray} {s : Int} {f fs dn : Bool}
theorem sndB_iff : sndB u d s f fs dn = true ↔ (0 ≤ u ∧ u ≤ 4294967295) ∧ d.size ≤ 48 ∧ (0 ≤ s ∧ s ≤ d.size) ∧ (fs = true → f = true ∧ s = d.size) ∧ (dn = true → f = true ∧ fs = false ∧ d.size = 0) := by
  unfold sndB
  rw [isEmpty_size, wordS32]
  cases f <;> cases fs <;> cases dn <;> simp [inB] <;> omega
theorem sndB_queued {t : ByteArray} (h : sndB u d s false fs dn = true) : fs = false ∧ dn = false ∧ sndB u (d ++ t.extract 0 (qn d t)) s false fs dn = true ∧ (qn d t ≤ t.size) ∧ (qn d t = t.size ∨ (d ++ t.extract 0 (qn d t)).size = 48) := by
  obtain ⟨h1, h2, h3, h4, h5⟩ := sndB_iff.1 h
  have hf : fs = false := by cases fs with | false => rfl | true => exact absurd (h4 rfl).1 (by simp)
  have hd : dn = false := by cases dn with | false => rfl | true => exact absurd (h5 rfl).1 (by simp)
  subst hf hd
  have hz : (d ++ t.extract 0 (qn d t)).size = d.size + qn d t := by
    unfold qn
    simp
    split <;> omega
  refine ⟨rfl, rfl, sndB_iff.2 ⟨h1, ?_, ?_, by simp, by simp⟩, ?_, ?_⟩
  · rw [hz]
    unfold qn
    split <;> omega
  · rw [hz]
    omega
  · unfold qn
    split <;> omega
  · rw [hz]
    unfold qn
    split <;> omega
/-- What a chunk that is sent says. -/
theorem chunk_facts {k m : Nat} {win mss WW : Int} (h : sndB u d k f fs dn = true) (hWW : effW win (fly k fs) = WW) (hm : chM (d.size - k) mss WW = m) (ho : ¬ (m = 0 ∧ chFin f fs dn (d.size - k) m WW = false)) :
    fs = false ∧ dn = false ∧ k + m ≤ d.size ∧ d.size ≤ 48 ∧ ((m : Int) ≤ mss ∨ m = 0) ∧ sndB u d ((k + m : Nat) : Int) f (chFin f fs dn (d.size - k) m WW) dn = true ∧ ((chFin f fs dn (d.size - k) m WW = true → ((k + m + 1 : Nat) : Int) ≤ win) ∧ ((k + m : Nat) : Int) ≤ win) := by
  obtain ⟨h1, h2, h3, h4, h5⟩ := sndB_iff.1 h
  have hfs : fs = false := by
    cases fs with
    | false => rfl
    | true =>
      exfalso
      apply ho
      have := (h4 rfl).2
      refine ⟨?_, by simp [chFin]⟩
      rw [← hm]
      unfold chM
      omega
  subst hfs
  have hdn : dn = false := by
    cases dn with
    | false => rfl
    | true =>
      exfalso
      apply ho
      have := (h5 rfl).2.2
      refine ⟨?_, by simp [chFin]⟩
      rw [← hm]
      unfold chM
      omega
  subst hdn
  have hw : WW = (if win < -1 then -1 else win) - k := by rw [← hWW]; rfl
  have hfin : chFin f false false (d.size - k) m WW = (f && (decide (m = d.size - k) && decide ((m : Int) < WW))) := by simp [chFin]
  have hle : m ≤ d.size - k := by rw [← hm]; exact chM_le _ _ _
  have hms : (m : Int) ≤ mss ∨ m = 0 := by
    rw [← hm]
    unfold chM
    omega
  have hmw : (m : Int) ≤ WW ∨ m = 0 := by
    rw [← hm]
    unfold chM
    omega
  refine ⟨rfl, rfl, by omega, h2, hms, sndB_iff.2 ⟨h1, h2, by omega, ?_, by simp⟩, ?_⟩
  · intro hf
    rw [hfin] at hf
    simp only [Bool.and_eq_true, decide_eq_true_iff] at hf
    exact ⟨hf.1, by omega⟩
  · rw [hfin] at ho ⊢
    constructor
    · intro hf
      simp only [Bool.and_eq_true, decide_eq_true_iff] at hf
      split at hw <;> omega
    · cases hq : (f && (decide (m = d.size - k) && decide ((m : Int) < WW)))
      · have : ¬ m = 0 := fun e => ho ⟨e, hq⟩
        split at hw <;> omega
      · simp only [Bool.and_eq_true, decide_eq_true_iff] at hq
        split at hw <;> omega
theorem seqDiff_add {u n : Int} (_h1 : 0 ≤ u) (_h2 : u ≤ 4294967295) (h3 : 0 ≤ n) (h4 : n ≤ 100) : seqDiff (seqAdd u n) u = n := by
  unfold seqDiff seqAdd
  split <;> omega
theorem seqAdd_add (u a b : Int) : seqAdd (seqAdd u a) b = seqAdd u (a + b) := by
  unfold seqAdd
  omega
theorem seqAdd_zero {u : Int} (h1 : 0 ≤ u) (h2 : u ≤ 4294967295) : seqAdd u 0 = u := by
  unfold seqAdd
  omega
theorem fly_nat (k : Nat) (fs : Bool) (h : k ≤ 1000) : fly k fs = ((k + (if fs then 1 else 0) : Nat) : Int) := by
  unfold fly wrap64
  cases fs <;> simp <;> omega
theorem acked_facts {k n : Nat} {ack : Int} (h : sndB u d k f fs dn = true) (hn : seqDiff ack u = n) (hf : (n : Int) ≤ fly k fs) :
    seqAdd u n = ack % 4294967296 ∧ sndB (seqAdd u n) (d.extract (min n k) d.size) ((k - min n k : Nat) : Int) f (fs && decide (n ≤ k)) (dn || decide (k < n)) = true ∧ seqAdd (seqAdd u n) (fly ((k - min n k : Nat) : Int) (fs && decide (n ≤ k))) = seqAdd u (fly k fs) := by
  obtain ⟨h1, h2, h3, h4, h5⟩ := sndB_iff.1 h
  have hk : k ≤ 48 := by omega
  rw [fly_nat k fs (by omega)] at hf ⊢
  rw [fly_nat _ _ (by omega)]
  have hq : seqAdd u n = ack % 4294967296 := by
    rw [← hn]
    unfold seqAdd seqDiff
    split <;> omega
  refine ⟨hq, sndB_iff.2 ⟨by unfold seqAdd; omega, ?_, ?_, ?_, ?_⟩, ?_⟩
  · simp
    omega
  · simp
    omega
  · intro hb
    rw [Bool.and_eq_true, decide_eq_true_iff] at hb
    have := h4 hb.1
    refine ⟨this.1, ?_⟩
    simp
    omega
  · intro hb
    rw [Bool.or_eq_true, decide_eq_true_iff] at hb
    rcases hb with hb | hb
    · have := h5 hb
      refine ⟨this.1, by rw [this.2.1]; rfl, ?_⟩
      simp
      omega
    · cases fs with
      | false => simp at hf; omega
      | true =>
        have := h4 rfl
        refine ⟨this.1, by simp; omega, ?_⟩
        simp
        omega
  · rw [seqAdd_add]
    congr 1
    cases fs with
    | false =>
      simp at hf ⊢
      omega
    | true =>
      simp at hf ⊢
      by_cases hb : n ≤ k
      · simp [hb]
        omega
      · simp [hb]
        omega
theorem rewound_facts (h : sndB u d s f fs dn = true) : sndB u d 0 f false dn = true ∧ chM (d.extract 0 d.size).size 1000 (effW 1000 (fly 0 false)) = d.size ∧ chFin f false dn (d.extract 0 d.size).size d.size (effW 1000 (fly 0 false)) = (f && !dn) ∧ (d.extract 0 d.size).extract 0 d.size = d ∧ (dn = true → d.size = 0 ∧ f = true) := by
  obtain ⟨h1, h2, h3, h4, h5⟩ := sndB_iff.1 h
  have hz : (d.extract 0 d.size).size = d.size := by simp
  have hW : effW 1000 (fly 0 false) = 1000 := rfl
  refine ⟨sndB_iff.2 ⟨h1, h2, by omega, by simp, fun hd => ⟨(h5 hd).1, rfl, (h5 hd).2.2⟩⟩, ?_, ?_, ?_, fun hd => ⟨(h5 hd).2.2, (h5 hd).1⟩⟩
  · rw [hz, hW]
    unfold chM
    omega
  · rw [hz, hW]
    unfold chFin
    have : ((d.size : Nat) : Int) < 1000 := by omega
    simp [this]
  · apply ByteArray.ext
    simp
end
end Go.Proofs.Ytkkpeienbhbgeaa
