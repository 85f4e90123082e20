/-
  What the reference's functions on senders leave of a sender of small numbers.
-/
import Derived.Test.YtkkpeienbhbgeaaSndM
import Derived.Test.YtkkpeienbhbgeaaSndA
namespace Go.Proofs.Ytkkpeienbhbgeaa
set_option maxRecDepth 100000
open Go.RowKit

abbrev vSn (u : Int) (d : ByteArray) (s : Int) (f fs dn : Bool) : Value := .agg #[.int .i64 u, .string d, .int .i64 s, .bool f, .bool fs, .bool dn]
/-- A sender of small numbers. -/
def SndGood (u : Int) (d : ByteArray) (s : Int) : Prop := (0 ≤ u ∧ u ≤ 4294967295) ∧ d.size ≤ 48 ∧ (0 ≤ s ∧ s ≤ 48)
def GoodSnd (w : World) (e : Ending) (w' : World) : Prop := ∃ (u : Int) (d : ByteArray) (s : Int) (f fs dn : Bool), e = .returned (vSn u d s f fs dn) ∧ SndGood u d s ∧ Below w.heap.size w w'
def GoodSndN (w : World) (e : Ending) (w' : World) : Prop := ∃ (u : Int) (d : ByteArray) (s : Int) (f fs dn : Bool) (n : Int), e = .returned (.tuple #[vSn u d s f fs dn, .int .i64 n]) ∧ SndGood u d s ∧ Below w.heap.size w w'
def GoodSndB (w : World) (e : Ending) (w' : World) : Prop := ∃ (u : Int) (d : ByteArray) (s : Int) (f fs dn : Bool) (b : Bool), e = .returned (.tuple #[vSn u d s f fs dn, .bool b]) ∧ SndGood u d s ∧ Below w.heap.size w w'
/-- A chunk of small numbers. -/
def GoodChunk (w : World) (e : Ending) (w' : World) : Prop := ∃ (q : Int) (T : ByteArray) (cf ok : Bool), e = .returned (.tuple #[.agg #[.int .i64 q, .string T, .bool cf], .bool ok]) ∧ (0 ≤ q ∧ q ≤ 4294967295) ∧ T.size ≤ 48 ∧ Below w.heap.size w w'
theorem size_le {d : ByteArray} (h : d.size ≤ 48) : d.size ≤ maxLen := by unfold maxLen; omega
theorem seqAdd_bd (a n : Int) : 0 ≤ seqAdd a n ∧ seqAdd a n ≤ 4294967295 := by unfold seqAdd; omega
theorem sQueued_good (u : Int) (d : ByteArray) (s : Int) (f fs dn : Bool) (x : ByteArray) (h : SndGood u d s) (hx : x.size ≤ 100) (w : World) :
    Calls Try.prog 23 #[vSn u d s f fs dn, .string x] w (GoodSndN w) := by
  obtain ⟨hu, hd, hs⟩ := h
  by_cases hb : sndB u d s f fs dn = true ∧ f = false
  · obtain ⟨h1, rfl⟩ := hb
    refine (sQueued_yes u d s fs dn x (size_le hd) (by unfold maxLen; omega) h1 hd w).mono ?_
    rintro e w' ⟨rfl, hb⟩
    refine ⟨u, _, s, false, fs, dn, _, rfl, ⟨hu, ?_, hs⟩, hb⟩
    unfold qn
    simp
    split <;> omega
  · have h' : sndB u d s f fs dn = false ∨ f = true := by
      cases h1 : sndB u d s f fs dn
      · exact .inl rfl
      · cases f
        · exact absurd ⟨h1, rfl⟩ hb
        · exact .inr rfl
    refine (sQueued_no u d s f fs dn x (size_le hd) h' w).mono ?_
    rintro e w' ⟨rfl, hb⟩
    exact ⟨u, d, s, f, fs, dn, 0, rfl, ⟨hu, hd, hs⟩, hb⟩
theorem sNextChunk_good (u : Int) (d : ByteArray) (s : Int) (f fs dn : Bool) (win mss : Int) (h : SndGood u d s) (hw1 : -9223372036854775808 ≤ win) (hw2 : win ≤ 9223372036854775807) (hm1 : -9223372036854775808 ≤ mss) (hm2 : mss ≤ 9223372036854775807) (w : World) :
    Calls Try.prog 29 #[vSn u d s f fs dn, .int .i64 win, .int .i64 mss] w (GoodChunk w) := by
  obtain ⟨hu, hd, hs⟩ := h
  cases hb : sndB u d s f fs dn
  · refine (sNextChunk_no u d s f fs dn win mss (size_le hd) hb w).mono ?_
    rintro e w' ⟨rfl, hb⟩
    exact ⟨0, ⟨#[]⟩, false, false, rfl, by omega, (Nat.zero_le 48 : (⟨#[]⟩ : ByteArray).size ≤ 48), hb⟩
  · obtain ⟨k, rfl⟩ := Int.eq_ofNat_of_zero_le hs.1
    have hk : k ≤ d.size := by have := (sndB_sent hb).2; omega
    refine (sNextChunk_core u d k f fs dn win mss hb hk hd hw1 hw2 hm1 hm2 (by omega) (by omega) (fly k fs) rfl (d.extract k d.size) rfl (ext_size d k) _ rfl _ rfl w).mono ?_
    rintro e w' ⟨rfl, hb⟩
    unfold chRes
    split
    · exact ⟨0, ⟨#[]⟩, false, false, rfl, by omega, (Nat.zero_le 48 : (⟨#[]⟩ : ByteArray).size ≤ 48), hb⟩
    · exact ⟨_, _, _, true, rfl, seqAdd_bd _ _, by simp; omega, hb⟩
theorem sSentOff_good (u : Int) (d : ByteArray) (s : Int) (f fs dn : Bool) (q : Int) (x : ByteArray) (cf : Bool) (h : SndGood u d s) (hx : x.size ≤ 48) (w : World) :
    Calls Try.prog 26 #[vSn u d s f fs dn, .agg #[.int .i64 q, .string x, .bool cf]] w (GoodSnd w) := by
  obtain ⟨hu, hd, hs⟩ := h
  refine (sSentOff_any u d s f fs dn q x cf (size_le hd) (size_le hx) w).mono ?_
  rintro e w' ⟨rfl, hb⟩
  refine ⟨u, d, _, f, _, dn, rfl, ⟨hu, hd, ?_⟩, hb⟩
  unfold soS
  split
  · rename_i h
    unfold soOk at h
    rw [Bool.and_eq_true] at h
    have := sndB_sent h.2
    omega
  · exact hs
theorem sAcked_good (u : Int) (d : ByteArray) (s : Int) (f fs dn : Bool) (ack : Int) (h : SndGood u d s) (ha1 : -9223372036854775808 ≤ ack) (ha2 : ack ≤ 9223372036854775807) (w : World) :
    Calls Try.prog 32 #[vSn u d s f fs dn, .int .i64 ack] w (GoodSndB w) := by
  obtain ⟨hu, hd, hs⟩ := h
  cases hb : sndB u d s f fs dn
  · refine (sAcked_no1 u d s f fs dn ack (size_le hd) hb ha1 ha2 (by omega) (by omega) w).mono ?_
    rintro e w' ⟨rfl, hb⟩
    exact ⟨u, d, s, f, fs, dn, false, rfl, ⟨hu, hd, hs⟩, hb⟩
  · cases hin : inB (seqDiff ack u) 0 (fly s fs)
    · refine (sAcked_no2 u d s f fs dn ack (size_le hd) hb hin ha1 ha2 (by omega) (by omega) w).mono ?_
      rintro e w' ⟨rfl, hb⟩
      exact ⟨u, d, s, f, fs, dn, false, rfl, ⟨hu, hd, hs⟩, hb⟩
    · obtain ⟨hi1, hi2⟩ := inB_iff.1 hin
      obtain ⟨k, rfl⟩ := Int.eq_ofNat_of_zero_le hs.1
      obtain ⟨n, hn⟩ := Int.eq_ofNat_of_zero_le hi1
      have hkd : k ≤ d.size := by have := (sndB_sent hb).2; omega
      rw [hn] at hi2
      refine (sAcked_yes u d k f fs dn ack hb hkd hd ha1 ha2 (by omega) (by omega) n hn hi2 w).mono ?_
      rintro e w' ⟨rfl, hb⟩
      exact ⟨_, _, _, f, _, _, true, rfl, ⟨seqAdd_bd _ _, by simp; omega, ⟨by omega, by omega⟩⟩, hb⟩
end Go.Proofs.Ytkkpeienbhbgeaa
