/-
  Contracts of LinkOk, the program's and the reference's.
-/
import Derived.Test.YteaniiponikpjaaLks
import Derived.Test.YteaniiponikpjaaCac
namespace Go.Proofs.Yteaniiponikpjaa
set_option maxRecDepth 100000
open Go.RowKit
def RLnk.ok (x : RLnk) : Bool := wordB x.mac 48 && (!decide (x.mac = 281474976710655) && (wordB x.ip 32 && cacheB x.ca))

theorem LinkOk_any (x : RLnk) (v : Value) (n1 : x.ca.length ≤ maxLen) (w : World) (h : RdEntry w v x.ca) :
    Calls Try.prog 27 #[vL x v] w fun e w' => e = .returned (.bool x.ok) ∧ Below w.heap.size w w' := by
  obtain ⟨A, c, rfl, -⟩ := id h
  obtain ⟨m, p, l⟩ := x
  dsimp only at *
  have H := Lib.hid h
  have N := Lib.hid n1
  clear h n1
  by_cases h1 : wordB m 48 = true
  case neg =>
    have h1 := Bool.eq_false_iff.2 h1
    go_enter Try.func27, Try.ntmps27
    go_wp2_with (go_at_call 53; refine (WordOk_any _ _ _).mono ?_; rintro e' w' ⟨rfl, rfl⟩)
    all_goals
      go_ret
      exact ⟨by simp [RLnk.ok, h1], (by repeat (first | with_reducible exact Below.refl _ _ | with_reducible assumption | with_reducible refine Below.drew ?_ | with_reducible refine Below.alloc ?_ (by first | exact Nat.le_refl _ | omega | (simp; done) | (simp; omega)) _ | with_reducible refine Below.setCell ?_ (by first | exact Nat.le_refl _ | omega | (simp; done) | (simp; omega)) _ | (with_reducible refine ext_trans ?_ (by with_reducible assumption))))⟩
  by_cases h2 : m = 281474976710655
  case pos =>
    subst h2
    go_enter Try.func27, Try.ntmps27
    go_wp2_with (go_at_call 53; refine (WordOk_any _ _ _).mono ?_; rintro e' w' ⟨rfl, rfl⟩)
    all_goals
      go_ret
      exact ⟨by simp [RLnk.ok], (by repeat (first | with_reducible exact Below.refl _ _ | with_reducible assumption | with_reducible refine Below.drew ?_ | with_reducible refine Below.alloc ?_ (by first | exact Nat.le_refl _ | omega | (simp; done) | (simp; omega)) _ | with_reducible refine Below.setCell ?_ (by first | exact Nat.le_refl _ | omega | (simp; done) | (simp; omega)) _ | (with_reducible refine ext_trans ?_ (by with_reducible assumption))))⟩
  by_cases h3 : wordB p 32 = true
  case neg =>
    have h3 := Bool.eq_false_iff.2 h3
    go_enter Try.func27, Try.ntmps27
    go_wp2_with (go_at_call 53; refine (WordOk_any _ _ _).mono ?_; rintro e' w' ⟨rfl, rfl⟩)
    all_goals
      go_ret
      exact ⟨by simp [RLnk.ok, h3], (by repeat (first | with_reducible exact Below.refl _ _ | with_reducible assumption | with_reducible refine Below.drew ?_ | with_reducible refine Below.alloc ?_ (by first | exact Nat.le_refl _ | omega | (simp; done) | (simp; omega)) _ | with_reducible refine Below.setCell ?_ (by first | exact Nat.le_refl _ | omega | (simp; done) | (simp; omega)) _ | (with_reducible refine ext_trans ?_ (by with_reducible assumption))))⟩
  have hs : RLnk.ok ⟨m, p, l⟩ = cacheB l := by simp [RLnk.ok, h1, h2, h3]
  rw [hs]
  clear hs
  obtain ⟨B, hB⟩ : ∃ B, cacheB l = B := ⟨_, rfl⟩
  have hc := fun W h => CacheOk_any (.slice A l.length c) l N.out W h
  rw [hB] at hc ⊢
  have HC := Lib.hid hc
  clear hc hB
  go_enter Try.func27, Try.ntmps27
  go_wp2_with (go_at_call 53; refine (WordOk_any _ _ _).mono ?_; rintro e' w' ⟨rfl, rfl⟩)
  refine (HC.out _ (H.out.below (by repeat (first | with_reducible exact Below.refl _ _ | with_reducible assumption | with_reducible refine Below.drew ?_ | with_reducible refine Below.alloc ?_ (by first | exact Nat.le_refl _ | omega | (simp; done) | (simp; omega)) _ | with_reducible refine Below.setCell ?_ (by first | exact Nat.le_refl _ | omega | (simp; done) | (simp; omega)) _ | (with_reducible refine ext_trans ?_ (by with_reducible assumption)))))).mono ?_
  rintro e w1 ⟨rfl, hb1⟩
  go_wp2_with fail
  all_goals
    go_ret
    exact ⟨by simp [h2], (by repeat (first | with_reducible exact Below.refl _ _ | with_reducible assumption | with_reducible refine Below.drew ?_ | with_reducible refine Below.alloc ?_ (by first | exact Nat.le_refl _ | omega | (simp; done) | (simp; omega)) _ | with_reducible refine Below.setCell ?_ (by first | exact Nat.le_refl _ | omega | (simp; done) | (simp; omega)) _ | (with_reducible refine ext_trans ?_ (by with_reducible assumption))))⟩

theorem sLinkOk_any (x : RLnk) (v : Value) (n1 : x.ca.length ≤ maxLen) (w : World) (h : RdEntry w v x.ca) :
    Calls Try.prog 26 #[vL x v] w fun e w' => e = .returned (.bool x.ok) ∧ Below w.heap.size w w' := by
  obtain ⟨A, c, rfl, -⟩ := id h
  obtain ⟨m, p, l⟩ := x
  dsimp only at *
  have H := Lib.hid h
  have N := Lib.hid n1
  clear h n1
  by_cases h1 : wordB m 48 = true
  case neg =>
    have h1 := Bool.eq_false_iff.2 h1
    go_enter Try.func26, Try.ntmps26
    go_wp2_with (go_at_call 38; refine (sWordOk_any _ _ _).mono ?_; rintro e' w' ⟨rfl, rfl⟩)
    all_goals
      go_ret
      exact ⟨by simp [RLnk.ok, h1], (by repeat (first | with_reducible exact Below.refl _ _ | with_reducible assumption | with_reducible refine Below.drew ?_ | with_reducible refine Below.alloc ?_ (by first | exact Nat.le_refl _ | omega | (simp; done) | (simp; omega)) _ | with_reducible refine Below.setCell ?_ (by first | exact Nat.le_refl _ | omega | (simp; done) | (simp; omega)) _ | (with_reducible refine ext_trans ?_ (by with_reducible assumption))))⟩
  by_cases h2 : m = 281474976710655
  case pos =>
    subst h2
    go_enter Try.func26, Try.ntmps26
    go_wp2_with (go_at_call 38; refine (sWordOk_any _ _ _).mono ?_; rintro e' w' ⟨rfl, rfl⟩)
    all_goals
      go_ret
      exact ⟨by simp [RLnk.ok], (by repeat (first | with_reducible exact Below.refl _ _ | with_reducible assumption | with_reducible refine Below.drew ?_ | with_reducible refine Below.alloc ?_ (by first | exact Nat.le_refl _ | omega | (simp; done) | (simp; omega)) _ | with_reducible refine Below.setCell ?_ (by first | exact Nat.le_refl _ | omega | (simp; done) | (simp; omega)) _ | (with_reducible refine ext_trans ?_ (by with_reducible assumption))))⟩
  by_cases h3 : wordB p 32 = true
  case neg =>
    have h3 := Bool.eq_false_iff.2 h3
    go_enter Try.func26, Try.ntmps26
    go_wp2_with (go_at_call 38; refine (sWordOk_any _ _ _).mono ?_; rintro e' w' ⟨rfl, rfl⟩)
    all_goals
      go_ret
      exact ⟨by simp [RLnk.ok, h3], (by repeat (first | with_reducible exact Below.refl _ _ | with_reducible assumption | with_reducible refine Below.drew ?_ | with_reducible refine Below.alloc ?_ (by first | exact Nat.le_refl _ | omega | (simp; done) | (simp; omega)) _ | with_reducible refine Below.setCell ?_ (by first | exact Nat.le_refl _ | omega | (simp; done) | (simp; omega)) _ | (with_reducible refine ext_trans ?_ (by with_reducible assumption))))⟩
  have hs : RLnk.ok ⟨m, p, l⟩ = cacheB l := by simp [RLnk.ok, h1, h2, h3]
  rw [hs]
  clear hs
  obtain ⟨B, hB⟩ : ∃ B, cacheB l = B := ⟨_, rfl⟩
  have hc := fun W h => sCacheOk_any (.slice A l.length c) l N.out W h
  rw [hB] at hc ⊢
  have HC := Lib.hid hc
  clear hc hB
  go_enter Try.func26, Try.ntmps26
  go_wp2_with (go_at_call 38; refine (sWordOk_any _ _ _).mono ?_; rintro e' w' ⟨rfl, rfl⟩)
  refine (HC.out _ (H.out.below (by repeat (first | with_reducible exact Below.refl _ _ | with_reducible assumption | with_reducible refine Below.drew ?_ | with_reducible refine Below.alloc ?_ (by first | exact Nat.le_refl _ | omega | (simp; done) | (simp; omega)) _ | with_reducible refine Below.setCell ?_ (by first | exact Nat.le_refl _ | omega | (simp; done) | (simp; omega)) _ | (with_reducible refine ext_trans ?_ (by with_reducible assumption)))))).mono ?_
  rintro e w1 ⟨rfl, hb1⟩
  go_wp2_with fail
  all_goals
    go_ret
    exact ⟨by simp [h2], (by repeat (first | with_reducible exact Below.refl _ _ | with_reducible assumption | with_reducible refine Below.drew ?_ | with_reducible refine Below.alloc ?_ (by first | exact Nat.le_refl _ | omega | (simp; done) | (simp; omega)) _ | with_reducible refine Below.setCell ?_ (by first | exact Nat.le_refl _ | omega | (simp; done) | (simp; omega)) _ | (with_reducible refine ext_trans ?_ (by with_reducible assumption))))⟩

end Go.Proofs.Yteaniiponikpjaa
