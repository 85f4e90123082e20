/-
  Plain words for the laws on cookies.
-/
import Derived.Test.YtjlnbjabehpncaaChk
import Derived.Test.YtjlnbjabehpncaaRot
namespace Go.Proofs.Ytjlnbjabehpncaa
open Go.RowKit
section
variable {m : RMac} {x : RKeys} {a b c seq ep i ck : Int}
theorem cookie_form (h : macOk a b c seq ep i = true) : ∃ M : Int, 0 ≤ M ∧ M < 16777216 ∧ cookieI m a b c seq ep i = ep % 32 * 134217728 + i * 16777216 + M := by
  refine ⟨_, (macOf_bd m.u m.k m.l m.rs (macS a b c seq ep i)).1, (macOf_bd _ _ _ _ _).2, ?_⟩
  rw [cookieI, if_pos h]
theorem cookie_none (h : macOk a b c seq ep i = false) : cookieI m a b c seq ep i = -1 := by
  rw [cookieI, if_neg (by simp [h])]
theorem cookie_word (h : macOk a b c seq ep i = true) : wordB (cookieI m a b c seq ep i) 32 = true ∧ ckI (cookieI m a b c seq ep i) = i := by
  obtain ⟨M, h0, h1, e⟩ := cookie_form (m := m) h
  obtain ⟨_, hi0, hi1⟩ := macOk_bd h
  rw [e]
  refine ⟨?_, ?_⟩
  · rw [wordB32, inB_iff]
    omega
  · unfold ckI
    omega
/-- Cookies of two epochs side by side differ. -/
theorem cookie_apart {m1 m2 : RMac} {j : Int} (h : macOk a b c seq ep i = true) : cookieI m1 a b c seq ep i ≠ cookieI m2 a b c seq (ep + 1) j := by
  obtain ⟨M, h0, h1, e⟩ := cookie_form (m := m1) h
  obtain ⟨_, hi0, hi1⟩ := macOk_bd h
  rw [e]
  cases hk : macOk a b c seq (ep + 1) j
  · rw [cookie_none hk]
    omega
  · obtain ⟨M', h0', h1', e'⟩ := cookie_form (m := m2) hk
    obtain ⟨_, hj0, hj1⟩ := macOk_bd hk
    rw [e']
    omega
theorem check_now (hx : x.ok = true) (h : macOk a b c seq x.ep i = true) : checkR x a b c seq (cookieI x.now a b c seq x.ep i) = (x.ep, i, true) := by
  obtain ⟨h1, h2⟩ := cookie_word (m := x.now) h
  unfold checkR
  rw [h1, h2, hx]
  simp
theorem ok_parts (hx : x.ok = true) : x.now.ok = true ∧ x.bef.ok = true := by
  unfold RKeys.ok at hx
  simp only [Bool.and_eq_true] at hx
  exact ⟨hx.2.1, hx.2.2.1⟩
theorem rot_next (hx : x.ok = true) (hm : m.ok = true) (hep : ¬ x.ep = 4294967295) : x.rot m = ⟨x.ep + 1, m, x.now, true⟩ := by
  simp [RKeys.rot, hx, hm, hep]
theorem rot_stay (h : (m.ok && !decide (x.ep = 4294967295)) = false) : x.rot m = x := by
  simp [RKeys.rot, h]
theorem next_ok (hx : x.ok = true) (hm : m.ok = true) (hep : ¬ x.ep = 4294967295) : (⟨x.ep + 1, m, x.now, true⟩ : RKeys).ok = true := by
  obtain ⟨h1, h2, _⟩ := RKeys.ok_bd hx
  unfold RKeys.ok
  simp only [Bool.and_eq_true]
  refine ⟨?_, hm, (ok_parts hx).1, by simp⟩
  rw [inB_iff]
  simp only [if_true]
  omega
theorem check_next (hx : x.ok = true) (hm : m.ok = true) (hep : ¬ x.ep = 4294967295) (h : macOk a b c seq x.ep i = true) : checkR ⟨x.ep + 1, m, x.now, true⟩ a b c seq (cookieI x.now a b c seq x.ep i) = (x.ep, i, true) := by
  obtain ⟨h1, h2⟩ := cookie_word (m := x.now) h
  have hn := cookie_apart (m1 := x.now) (m2 := m) (j := i) h
  unfold checkR
  rw [h1, h2, next_ok hx hm hep]
  have e : x.ep + 1 - 1 = x.ep := by omega
  simp only [Bool.and_self, if_true, if_neg (Ne.symm hn), e]
  simp
/-- What is believed is the number of its epoch. -/
theorem check_only {e j : Int} (h : checkR x a b c seq ck = (e, j, true)) : x.ok = true ∧ ∃ m, x.secret e = some m ∧ (e = x.ep ∨ (e = x.ep - 1 ∧ x.two = true)) ∧ cookieI m a b c seq e j = ck := by
  unfold checkR at h
  split at h
  · rename_i hx
    rw [Bool.and_eq_true] at hx
    refine ⟨hx.1, ?_⟩
    obtain ⟨h1, h2, _⟩ := RKeys.ok_bd hx.1
    split at h
    · rename_i hc
      cases h
      exact ⟨x.now, by simp [RKeys.secret], .inl rfl, hc⟩
    · split at h
      · rename_i hc
        rw [Bool.and_eq_true, decide_eq_true_iff] at hc
        cases h
        have hw : wrap64 (x.ep - 1) = x.ep - 1 := by unfold wrap64; omega
        exact ⟨x.bef, by rw [RKeys.secret, if_neg (by omega), hw, hc.1]; simp, .inr ⟨rfl, hc.1⟩, hc.2⟩
      · cases h
  · cases h
theorem check_not {e j : Int} (h : checkR x a b c seq ck = (e, j, false)) : e = 0 ∧ j = 0 := by
  unfold checkR at h
  split at h
  · split at h
    · cases h
    · split at h <;> cases h
      exact ⟨rfl, rfl⟩
  · cases h
    exact ⟨rfl, rfl⟩
end
end Go.Proofs.Ytjlnbjabehpncaa
