/-
  Contracts of PacketOk, FrameOk, PacketText, FrameText, the program's and the reference's.
-/
import Derived.Test.YteaniiponikpjaaPut
import Derived.Test.YteaniiponikpjaaSum
import Derived.Test.YteaniiponikpjaaStru
import Derived.Deep.DeepCutAuto
import Derived.Deep.RegionHeld3
namespace Go.Proofs.Yteaniiponikpjaa
set_option maxRecDepth 100000
open Go.ChangeShapes Go.WideShapes Go.ChangeAt Go.RowKit Go.Deep

def packB (src dst ttl proto id : Int) (body : ByteArray) : Bool := wordB src 32 && (wordB dst 32 && (inB ttl 1 255 && (wordB proto 8 && (wordB id 16 && decide ((body.size : Int) ≤ 1480)))))
def frameB (dst src ty : Int) (body : ByteArray) : Bool := wordB dst 48 && (wordB src 48 && (inB ty 1536 65535 && decide ((body.size : Int) ≤ 1586)))
def beS (k : Nat) (n : Int) : ByteArray := ⟨(be k n).toArray⟩
theorem beS_size (k : Nat) (n : Int) : (beS k n).size = k := by
  show (be k n).toArray.size = k
  simp [be_len]
def packF (ttl proto id : Int) (size : Nat) : ByteArray := ((((⟨#[69, 0]⟩ ++ beS 2 (20 + (size : Int))) ++ beS 2 id) ++ ⟨#[0, 0]⟩) ++ beS 1 ttl) ++ beS 1 proto
def packE (src dst : Int) : ByteArray := beS 4 src ++ beS 4 dst
theorem packF_size (ttl proto id : Int) (size : Nat) : (packF ttl proto id size).size = 10 := by
  unfold packF
  simp only [ByteArray.size_append, beS_size]
  rfl
theorem packE_size (src dst : Int) : (packE src dst).size = 8 := by
  unfold packE
  simp only [ByteArray.size_append, beS_size]
def packS (src dst ttl proto id : Int) (body : ByteArray) : ByteArray :=
  if packB src dst ttl proto id body = true then ((packF ttl proto id body.size ++ beS 2 (sumR (packF ttl proto id body.size ++ packE src dst).data.toList)) ++ packE src dst) ++ body else ⟨#[]⟩
def frameS (dst src ty : Int) (body : ByteArray) : ByteArray :=
  if frameB dst src ty body = true then ((beS 6 dst ++ beS 6 src) ++ beS 2 ty) ++ body else ⟨#[]⟩
theorem sum_gap (a b : ByteArray) (h : a.size % 2 = 0) : sumR ((a ++ ⟨#[0, 0]⟩) ++ b).data.toList = sumR (a ++ b).data.toList := by
  have ha : a.data.toList.length % 2 = 0 := by rw [Array.length_toList]; exact h
  have e1 : ((a ++ ⟨#[0, 0]⟩) ++ b).data.toList = a.data.toList ++ ([0, 0] ++ b.data.toList) := by simp [ByteArray.data_append]
  have e2 : (a ++ b).data.toList = a.data.toList ++ b.data.toList := by simp [ByteArray.data_append]
  rw [e1, e2]
  unfold sumR
  rw [wsF_even _ _ ha, wsF_even _ _ ha]
  have e3 : wsF true ([0, 0] ++ b.data.toList) = wsF true b.data.toList := by simp [wsF]
  rw [e3]
theorem putB_of {n : Int} {k : Int} (hk : inB k 1 6 = true) (h : wordB n (8 * k) = true) : putB n k = true := by
  unfold putB
  rw [hk, h]
  rfl
theorem putB_1 {n : Int} (h0 : 0 ≤ n) (h1 : n ≤ 255) : putB n 1 = true := by simp [putB, inB, wordB]; omega
theorem putB_2 {n : Int} (h0 : 0 ≤ n) (h1 : n ≤ 65535) : putB n 2 = true := by simp [putB, inB, wordB]; omega

set_option linter.unusedSimpArgs false in
theorem PacketOk_any (src dst ttl proto id : Int) (body : ByteArray) (w : World) :
    Calls Try.prog 92 #[.agg #[.int .i64 src, .int .i64 dst, .int .i64 ttl, .int .i64 proto, .int .i64 id, .string body]] w fun e w' => e = .returned (.bool (packB src dst ttl proto id body)) ∧ Below w.heap.size w w' := by
  cases h0 : wordB src 32
  case false =>
    go_enter Try.func92, Try.ntmps92
    go_wp2_with (first | (go_at_call 53; refine (WordOk_any _ _ _).mono ?_; rintro e w1 ⟨rfl, rfl⟩) | (go_at_call 54; refine (within_any _ _ _ _).mono ?_; rintro e w1 ⟨rfl, rfl⟩))
    go_ret
    exact ⟨by simp [packB, h0], (by repeat (first | with_reducible exact Below.refl _ _ | with_reducible assumption | with_reducible refine Below.drew ?_ | with_reducible refine Below.alloc ?_ (by first | exact Nat.le_refl _ | omega | (simp; done) | (simp; omega)) _ | with_reducible refine Below.setCell ?_ (by first | exact Nat.le_refl _ | omega | (simp; done) | (simp; omega)) _ | (with_reducible refine ext_trans ?_ (by with_reducible assumption))))⟩
  case true =>
    cases h1 : wordB dst 32
    case false =>
      go_enter Try.func92, Try.ntmps92
      go_wp2_with (first | (go_at_call 53; refine (WordOk_any _ _ _).mono ?_; rintro e w1 ⟨rfl, rfl⟩) | (go_at_call 54; refine (within_any _ _ _ _).mono ?_; rintro e w1 ⟨rfl, rfl⟩))
      go_ret
      exact ⟨by simp [packB, h0, h1], (by repeat (first | with_reducible exact Below.refl _ _ | with_reducible assumption | with_reducible refine Below.drew ?_ | with_reducible refine Below.alloc ?_ (by first | exact Nat.le_refl _ | omega | (simp; done) | (simp; omega)) _ | with_reducible refine Below.setCell ?_ (by first | exact Nat.le_refl _ | omega | (simp; done) | (simp; omega)) _ | (with_reducible refine ext_trans ?_ (by with_reducible assumption))))⟩
    case true =>
      cases h2 : inB ttl 1 255
      case false =>
        go_enter Try.func92, Try.ntmps92
        go_wp2_with (first | (go_at_call 53; refine (WordOk_any _ _ _).mono ?_; rintro e w1 ⟨rfl, rfl⟩) | (go_at_call 54; refine (within_any _ _ _ _).mono ?_; rintro e w1 ⟨rfl, rfl⟩))
        go_ret
        exact ⟨by simp [packB, h0, h1, h2], (by repeat (first | with_reducible exact Below.refl _ _ | with_reducible assumption | with_reducible refine Below.drew ?_ | with_reducible refine Below.alloc ?_ (by first | exact Nat.le_refl _ | omega | (simp; done) | (simp; omega)) _ | with_reducible refine Below.setCell ?_ (by first | exact Nat.le_refl _ | omega | (simp; done) | (simp; omega)) _ | (with_reducible refine ext_trans ?_ (by with_reducible assumption))))⟩
      case true =>
        cases h3 : wordB proto 8
        case false =>
          go_enter Try.func92, Try.ntmps92
          go_wp2_with (first | (go_at_call 53; refine (WordOk_any _ _ _).mono ?_; rintro e w1 ⟨rfl, rfl⟩) | (go_at_call 54; refine (within_any _ _ _ _).mono ?_; rintro e w1 ⟨rfl, rfl⟩))
          go_ret
          exact ⟨by simp [packB, h0, h1, h2, h3], (by repeat (first | with_reducible exact Below.refl _ _ | with_reducible assumption | with_reducible refine Below.drew ?_ | with_reducible refine Below.alloc ?_ (by first | exact Nat.le_refl _ | omega | (simp; done) | (simp; omega)) _ | with_reducible refine Below.setCell ?_ (by first | exact Nat.le_refl _ | omega | (simp; done) | (simp; omega)) _ | (with_reducible refine ext_trans ?_ (by with_reducible assumption))))⟩
        case true =>
          cases h4 : wordB id 16
          case false =>
            go_enter Try.func92, Try.ntmps92
            go_wp2_with (first | (go_at_call 53; refine (WordOk_any _ _ _).mono ?_; rintro e w1 ⟨rfl, rfl⟩) | (go_at_call 54; refine (within_any _ _ _ _).mono ?_; rintro e w1 ⟨rfl, rfl⟩))
            go_ret
            exact ⟨by simp [packB, h0, h1, h2, h3, h4], (by repeat (first | with_reducible exact Below.refl _ _ | with_reducible assumption | with_reducible refine Below.drew ?_ | with_reducible refine Below.alloc ?_ (by first | exact Nat.le_refl _ | omega | (simp; done) | (simp; omega)) _ | with_reducible refine Below.setCell ?_ (by first | exact Nat.le_refl _ | omega | (simp; done) | (simp; omega)) _ | (with_reducible refine ext_trans ?_ (by with_reducible assumption))))⟩
          case true =>
            by_cases h5 : (body.size : Int) ≤ 1480
            case neg =>
              go_enter Try.func92, Try.ntmps92
              go_wp2_with (first | (go_at_call 53; refine (WordOk_any _ _ _).mono ?_; rintro e w1 ⟨rfl, rfl⟩) | (go_at_call 54; refine (within_any _ _ _ _).mono ?_; rintro e w1 ⟨rfl, rfl⟩))
              go_ret
              exact ⟨by simp [packB, h0, h1, h2, h3, h4, h5], (by repeat (first | with_reducible exact Below.refl _ _ | with_reducible assumption | with_reducible refine Below.drew ?_ | with_reducible refine Below.alloc ?_ (by first | exact Nat.le_refl _ | omega | (simp; done) | (simp; omega)) _ | with_reducible refine Below.setCell ?_ (by first | exact Nat.le_refl _ | omega | (simp; done) | (simp; omega)) _ | (with_reducible refine ext_trans ?_ (by with_reducible assumption))))⟩
            case pos =>
              go_enter Try.func92, Try.ntmps92
              go_wp2_with (first | (go_at_call 53; refine (WordOk_any _ _ _).mono ?_; rintro e w1 ⟨rfl, rfl⟩) | (go_at_call 54; refine (within_any _ _ _ _).mono ?_; rintro e w1 ⟨rfl, rfl⟩))
              go_ret
              exact ⟨by simp [packB, h0, h1, h2, h3, h4, h5], (by repeat (first | with_reducible exact Below.refl _ _ | with_reducible assumption | with_reducible refine Below.drew ?_ | with_reducible refine Below.alloc ?_ (by first | exact Nat.le_refl _ | omega | (simp; done) | (simp; omega)) _ | with_reducible refine Below.setCell ?_ (by first | exact Nat.le_refl _ | omega | (simp; done) | (simp; omega)) _ | (with_reducible refine ext_trans ?_ (by with_reducible assumption))))⟩
set_option linter.unusedSimpArgs false in
theorem FrameOk_any (dst src ty : Int) (body : ByteArray) (w : World) :
    Calls Try.prog 95 #[.agg #[.int .i64 dst, .int .i64 src, .int .i64 ty, .string body]] w fun e w' => e = .returned (.bool (frameB dst src ty body)) ∧ Below w.heap.size w w' := by
  cases h0 : wordB dst 48
  case false =>
    go_enter Try.func95, Try.ntmps95
    go_wp2_with (first | (go_at_call 53; refine (WordOk_any _ _ _).mono ?_; rintro e w1 ⟨rfl, rfl⟩) | (go_at_call 54; refine (within_any _ _ _ _).mono ?_; rintro e w1 ⟨rfl, rfl⟩))
    go_ret
    exact ⟨by simp [frameB, h0], (by repeat (first | with_reducible exact Below.refl _ _ | with_reducible assumption | with_reducible refine Below.drew ?_ | with_reducible refine Below.alloc ?_ (by first | exact Nat.le_refl _ | omega | (simp; done) | (simp; omega)) _ | with_reducible refine Below.setCell ?_ (by first | exact Nat.le_refl _ | omega | (simp; done) | (simp; omega)) _ | (with_reducible refine ext_trans ?_ (by with_reducible assumption))))⟩
  case true =>
    cases h1 : wordB src 48
    case false =>
      go_enter Try.func95, Try.ntmps95
      go_wp2_with (first | (go_at_call 53; refine (WordOk_any _ _ _).mono ?_; rintro e w1 ⟨rfl, rfl⟩) | (go_at_call 54; refine (within_any _ _ _ _).mono ?_; rintro e w1 ⟨rfl, rfl⟩))
      go_ret
      exact ⟨by simp [frameB, h0, h1], (by repeat (first | with_reducible exact Below.refl _ _ | with_reducible assumption | with_reducible refine Below.drew ?_ | with_reducible refine Below.alloc ?_ (by first | exact Nat.le_refl _ | omega | (simp; done) | (simp; omega)) _ | with_reducible refine Below.setCell ?_ (by first | exact Nat.le_refl _ | omega | (simp; done) | (simp; omega)) _ | (with_reducible refine ext_trans ?_ (by with_reducible assumption))))⟩
    case true =>
      cases h2 : inB ty 1536 65535
      case false =>
        go_enter Try.func95, Try.ntmps95
        go_wp2_with (first | (go_at_call 53; refine (WordOk_any _ _ _).mono ?_; rintro e w1 ⟨rfl, rfl⟩) | (go_at_call 54; refine (within_any _ _ _ _).mono ?_; rintro e w1 ⟨rfl, rfl⟩))
        go_ret
        exact ⟨by simp [frameB, h0, h1, h2], (by repeat (first | with_reducible exact Below.refl _ _ | with_reducible assumption | with_reducible refine Below.drew ?_ | with_reducible refine Below.alloc ?_ (by first | exact Nat.le_refl _ | omega | (simp; done) | (simp; omega)) _ | with_reducible refine Below.setCell ?_ (by first | exact Nat.le_refl _ | omega | (simp; done) | (simp; omega)) _ | (with_reducible refine ext_trans ?_ (by with_reducible assumption))))⟩
      case true =>
        by_cases h3 : (body.size : Int) ≤ 1586
        case neg =>
          go_enter Try.func95, Try.ntmps95
          go_wp2_with (first | (go_at_call 53; refine (WordOk_any _ _ _).mono ?_; rintro e w1 ⟨rfl, rfl⟩) | (go_at_call 54; refine (within_any _ _ _ _).mono ?_; rintro e w1 ⟨rfl, rfl⟩))
          go_ret
          exact ⟨by simp [frameB, h0, h1, h2, h3], (by repeat (first | with_reducible exact Below.refl _ _ | with_reducible assumption | with_reducible refine Below.drew ?_ | with_reducible refine Below.alloc ?_ (by first | exact Nat.le_refl _ | omega | (simp; done) | (simp; omega)) _ | with_reducible refine Below.setCell ?_ (by first | exact Nat.le_refl _ | omega | (simp; done) | (simp; omega)) _ | (with_reducible refine ext_trans ?_ (by with_reducible assumption))))⟩
        case pos =>
          go_enter Try.func95, Try.ntmps95
          go_wp2_with (first | (go_at_call 53; refine (WordOk_any _ _ _).mono ?_; rintro e w1 ⟨rfl, rfl⟩) | (go_at_call 54; refine (within_any _ _ _ _).mono ?_; rintro e w1 ⟨rfl, rfl⟩))
          go_ret
          exact ⟨by simp [frameB, h0, h1, h2, h3], (by repeat (first | with_reducible exact Below.refl _ _ | with_reducible assumption | with_reducible refine Below.drew ?_ | with_reducible refine Below.alloc ?_ (by first | exact Nat.le_refl _ | omega | (simp; done) | (simp; omega)) _ | with_reducible refine Below.setCell ?_ (by first | exact Nat.le_refl _ | omega | (simp; done) | (simp; omega)) _ | (with_reducible refine ext_trans ?_ (by with_reducible assumption))))⟩
set_option linter.unusedSimpArgs false in
theorem sPacketOk_any (src dst ttl proto id : Int) (body : ByteArray) (w : World) :
    Calls Try.prog 88 #[.agg #[.int .i64 src, .int .i64 dst, .int .i64 ttl, .int .i64 proto, .int .i64 id, .string body]] w fun e w' => e = .returned (.bool (packB src dst ttl proto id body)) ∧ Below w.heap.size w w' := by
  cases h0 : wordB src 32
  case false =>
    go_enter Try.func88, Try.ntmps88
    go_wp2_with (first | (go_at_call 38; refine (sWordOk_any _ _ _).mono ?_; rintro e w1 ⟨rfl, rfl⟩) | (go_at_call 52; refine (l1In_any _ _ _ _).mono ?_; rintro e w1 ⟨rfl, rfl⟩))
    go_ret
    exact ⟨by simp [packB, h0], (by repeat (first | with_reducible exact Below.refl _ _ | with_reducible assumption | with_reducible refine Below.drew ?_ | with_reducible refine Below.alloc ?_ (by first | exact Nat.le_refl _ | omega | (simp; done) | (simp; omega)) _ | with_reducible refine Below.setCell ?_ (by first | exact Nat.le_refl _ | omega | (simp; done) | (simp; omega)) _ | (with_reducible refine ext_trans ?_ (by with_reducible assumption))))⟩
  case true =>
    cases h1 : wordB dst 32
    case false =>
      go_enter Try.func88, Try.ntmps88
      go_wp2_with (first | (go_at_call 38; refine (sWordOk_any _ _ _).mono ?_; rintro e w1 ⟨rfl, rfl⟩) | (go_at_call 52; refine (l1In_any _ _ _ _).mono ?_; rintro e w1 ⟨rfl, rfl⟩))
      go_ret
      exact ⟨by simp [packB, h0, h1], (by repeat (first | with_reducible exact Below.refl _ _ | with_reducible assumption | with_reducible refine Below.drew ?_ | with_reducible refine Below.alloc ?_ (by first | exact Nat.le_refl _ | omega | (simp; done) | (simp; omega)) _ | with_reducible refine Below.setCell ?_ (by first | exact Nat.le_refl _ | omega | (simp; done) | (simp; omega)) _ | (with_reducible refine ext_trans ?_ (by with_reducible assumption))))⟩
    case true =>
      cases h2 : inB ttl 1 255
      case false =>
        go_enter Try.func88, Try.ntmps88
        go_wp2_with (first | (go_at_call 38; refine (sWordOk_any _ _ _).mono ?_; rintro e w1 ⟨rfl, rfl⟩) | (go_at_call 52; refine (l1In_any _ _ _ _).mono ?_; rintro e w1 ⟨rfl, rfl⟩))
        go_ret
        exact ⟨by simp [packB, h0, h1, h2], (by repeat (first | with_reducible exact Below.refl _ _ | with_reducible assumption | with_reducible refine Below.drew ?_ | with_reducible refine Below.alloc ?_ (by first | exact Nat.le_refl _ | omega | (simp; done) | (simp; omega)) _ | with_reducible refine Below.setCell ?_ (by first | exact Nat.le_refl _ | omega | (simp; done) | (simp; omega)) _ | (with_reducible refine ext_trans ?_ (by with_reducible assumption))))⟩
      case true =>
        cases h3 : wordB proto 8
        case false =>
          go_enter Try.func88, Try.ntmps88
          go_wp2_with (first | (go_at_call 38; refine (sWordOk_any _ _ _).mono ?_; rintro e w1 ⟨rfl, rfl⟩) | (go_at_call 52; refine (l1In_any _ _ _ _).mono ?_; rintro e w1 ⟨rfl, rfl⟩))
          go_ret
          exact ⟨by simp [packB, h0, h1, h2, h3], (by repeat (first | with_reducible exact Below.refl _ _ | with_reducible assumption | with_reducible refine Below.drew ?_ | with_reducible refine Below.alloc ?_ (by first | exact Nat.le_refl _ | omega | (simp; done) | (simp; omega)) _ | with_reducible refine Below.setCell ?_ (by first | exact Nat.le_refl _ | omega | (simp; done) | (simp; omega)) _ | (with_reducible refine ext_trans ?_ (by with_reducible assumption))))⟩
        case true =>
          cases h4 : wordB id 16
          case false =>
            go_enter Try.func88, Try.ntmps88
            go_wp2_with (first | (go_at_call 38; refine (sWordOk_any _ _ _).mono ?_; rintro e w1 ⟨rfl, rfl⟩) | (go_at_call 52; refine (l1In_any _ _ _ _).mono ?_; rintro e w1 ⟨rfl, rfl⟩))
            go_ret
            exact ⟨by simp [packB, h0, h1, h2, h3, h4], (by repeat (first | with_reducible exact Below.refl _ _ | with_reducible assumption | with_reducible refine Below.drew ?_ | with_reducible refine Below.alloc ?_ (by first | exact Nat.le_refl _ | omega | (simp; done) | (simp; omega)) _ | with_reducible refine Below.setCell ?_ (by first | exact Nat.le_refl _ | omega | (simp; done) | (simp; omega)) _ | (with_reducible refine ext_trans ?_ (by with_reducible assumption))))⟩
          case true =>
            by_cases h5 : (body.size : Int) ≤ 1480
            case neg =>
              go_enter Try.func88, Try.ntmps88
              go_wp2_with (first | (go_at_call 38; refine (sWordOk_any _ _ _).mono ?_; rintro e w1 ⟨rfl, rfl⟩) | (go_at_call 52; refine (l1In_any _ _ _ _).mono ?_; rintro e w1 ⟨rfl, rfl⟩))
              go_ret
              exact ⟨by simp [packB, h0, h1, h2, h3, h4, h5], (by repeat (first | with_reducible exact Below.refl _ _ | with_reducible assumption | with_reducible refine Below.drew ?_ | with_reducible refine Below.alloc ?_ (by first | exact Nat.le_refl _ | omega | (simp; done) | (simp; omega)) _ | with_reducible refine Below.setCell ?_ (by first | exact Nat.le_refl _ | omega | (simp; done) | (simp; omega)) _ | (with_reducible refine ext_trans ?_ (by with_reducible assumption))))⟩
            case pos =>
              go_enter Try.func88, Try.ntmps88
              go_wp2_with (first | (go_at_call 38; refine (sWordOk_any _ _ _).mono ?_; rintro e w1 ⟨rfl, rfl⟩) | (go_at_call 52; refine (l1In_any _ _ _ _).mono ?_; rintro e w1 ⟨rfl, rfl⟩))
              go_ret
              exact ⟨by simp [packB, h0, h1, h2, h3, h4, h5], (by repeat (first | with_reducible exact Below.refl _ _ | with_reducible assumption | with_reducible refine Below.drew ?_ | with_reducible refine Below.alloc ?_ (by first | exact Nat.le_refl _ | omega | (simp; done) | (simp; omega)) _ | with_reducible refine Below.setCell ?_ (by first | exact Nat.le_refl _ | omega | (simp; done) | (simp; omega)) _ | (with_reducible refine ext_trans ?_ (by with_reducible assumption))))⟩
set_option linter.unusedSimpArgs false in
theorem sFrameOk_any (dst src ty : Int) (body : ByteArray) (w : World) :
    Calls Try.prog 91 #[.agg #[.int .i64 dst, .int .i64 src, .int .i64 ty, .string body]] w fun e w' => e = .returned (.bool (frameB dst src ty body)) ∧ Below w.heap.size w w' := by
  cases h0 : wordB dst 48
  case false =>
    go_enter Try.func91, Try.ntmps91
    go_wp2_with (first | (go_at_call 38; refine (sWordOk_any _ _ _).mono ?_; rintro e w1 ⟨rfl, rfl⟩) | (go_at_call 52; refine (l1In_any _ _ _ _).mono ?_; rintro e w1 ⟨rfl, rfl⟩))
    go_ret
    exact ⟨by simp [frameB, h0], (by repeat (first | with_reducible exact Below.refl _ _ | with_reducible assumption | with_reducible refine Below.drew ?_ | with_reducible refine Below.alloc ?_ (by first | exact Nat.le_refl _ | omega | (simp; done) | (simp; omega)) _ | with_reducible refine Below.setCell ?_ (by first | exact Nat.le_refl _ | omega | (simp; done) | (simp; omega)) _ | (with_reducible refine ext_trans ?_ (by with_reducible assumption))))⟩
  case true =>
    cases h1 : wordB src 48
    case false =>
      go_enter Try.func91, Try.ntmps91
      go_wp2_with (first | (go_at_call 38; refine (sWordOk_any _ _ _).mono ?_; rintro e w1 ⟨rfl, rfl⟩) | (go_at_call 52; refine (l1In_any _ _ _ _).mono ?_; rintro e w1 ⟨rfl, rfl⟩))
      go_ret
      exact ⟨by simp [frameB, h0, h1], (by repeat (first | with_reducible exact Below.refl _ _ | with_reducible assumption | with_reducible refine Below.drew ?_ | with_reducible refine Below.alloc ?_ (by first | exact Nat.le_refl _ | omega | (simp; done) | (simp; omega)) _ | with_reducible refine Below.setCell ?_ (by first | exact Nat.le_refl _ | omega | (simp; done) | (simp; omega)) _ | (with_reducible refine ext_trans ?_ (by with_reducible assumption))))⟩
    case true =>
      cases h2 : inB ty 1536 65535
      case false =>
        go_enter Try.func91, Try.ntmps91
        go_wp2_with (first | (go_at_call 38; refine (sWordOk_any _ _ _).mono ?_; rintro e w1 ⟨rfl, rfl⟩) | (go_at_call 52; refine (l1In_any _ _ _ _).mono ?_; rintro e w1 ⟨rfl, rfl⟩))
        go_ret
        exact ⟨by simp [frameB, h0, h1, h2], (by repeat (first | with_reducible exact Below.refl _ _ | with_reducible assumption | with_reducible refine Below.drew ?_ | with_reducible refine Below.alloc ?_ (by first | exact Nat.le_refl _ | omega | (simp; done) | (simp; omega)) _ | with_reducible refine Below.setCell ?_ (by first | exact Nat.le_refl _ | omega | (simp; done) | (simp; omega)) _ | (with_reducible refine ext_trans ?_ (by with_reducible assumption))))⟩
      case true =>
        by_cases h3 : (body.size : Int) ≤ 1586
        case neg =>
          go_enter Try.func91, Try.ntmps91
          go_wp2_with (first | (go_at_call 38; refine (sWordOk_any _ _ _).mono ?_; rintro e w1 ⟨rfl, rfl⟩) | (go_at_call 52; refine (l1In_any _ _ _ _).mono ?_; rintro e w1 ⟨rfl, rfl⟩))
          go_ret
          exact ⟨by simp [frameB, h0, h1, h2, h3], (by repeat (first | with_reducible exact Below.refl _ _ | with_reducible assumption | with_reducible refine Below.drew ?_ | with_reducible refine Below.alloc ?_ (by first | exact Nat.le_refl _ | omega | (simp; done) | (simp; omega)) _ | with_reducible refine Below.setCell ?_ (by first | exact Nat.le_refl _ | omega | (simp; done) | (simp; omega)) _ | (with_reducible refine ext_trans ?_ (by with_reducible assumption))))⟩
        case pos =>
          go_enter Try.func91, Try.ntmps91
          go_wp2_with (first | (go_at_call 38; refine (sWordOk_any _ _ _).mono ?_; rintro e w1 ⟨rfl, rfl⟩) | (go_at_call 52; refine (l1In_any _ _ _ _).mono ?_; rintro e w1 ⟨rfl, rfl⟩))
          go_ret
          exact ⟨by simp [frameB, h0, h1, h2, h3], (by repeat (first | with_reducible exact Below.refl _ _ | with_reducible assumption | with_reducible refine Below.drew ?_ | with_reducible refine Below.alloc ?_ (by first | exact Nat.le_refl _ | omega | (simp; done) | (simp; omega)) _ | with_reducible refine Below.setCell ?_ (by first | exact Nat.le_refl _ | omega | (simp; done) | (simp; omega)) _ | (with_reducible refine ext_trans ?_ (by with_reducible assumption))))⟩
set_option maxHeartbeats 4000000 in
set_option linter.unusedVariables false in
theorem FrameText_any (dst src ty : Int) (body : ByteArray) (w : World) :
    Calls Try.prog 67 #[.agg #[.int .i64 dst, .int .i64 src, .int .i64 ty, .string body]] w fun e w' => e = .returned (.string (frameS dst src ty body)) ∧ Below w.heap.size w w' := by
  have y0 := fun W => FrameOk_any dst src ty body W
  cases hk : frameB dst src ty body
  case false =>
    rw [hk] at y0
    have Y0 := Lib.hid y0
    have HR : Hid (frameS dst src ty body = ⟨#[]⟩) := (by unfold frameS; rw [hk]; rfl : frameS dst src ty body = ⟨#[]⟩)
    clear y0 hk
    go_enter Try.func67, Try.ntmps67
    go_wp2_with fail
    refine (Y0.out _).mono ?_
    rintro e w1 ⟨rfl, hb1⟩
    go_wp2_with fail
    go_ret
    exact ⟨by rw [HR.out]; rfl, (by repeat (first | with_reducible exact Below.refl _ _ | with_reducible assumption | with_reducible refine Below.drew ?_ | with_reducible refine Below.alloc ?_ (by first | exact Nat.le_refl _ | omega | (simp; done) | (simp; omega)) _ | with_reducible refine Below.setCell ?_ (by first | exact Nat.le_refl _ | omega | (simp; done) | (simp; omega)) _ | (with_reducible refine ext_trans ?_ (by with_reducible assumption))))⟩
  case true =>
  rw [hk] at y0
  have Y0 := Lib.hid y0
  have HR : Hid (frameS dst src ty body = ((beS 6 dst ++ beS 6 src) ++ beS 2 ty) ++ body) := (by unfold frameS; rw [hk]; rfl : frameS dst src ty body = _)
  have hk2 := hk
  simp only [frameB, Bool.and_eq_true, decide_eq_true_eq] at hk2
  obtain ⟨g1, g2, g3, g4⟩ := hk2
  have g5 := inB_iff.1 g3
  have P1 : Hid (putB dst 6 = true) := putB_of rfl g1
  have P2 : Hid (putB src 6 = true) := putB_of rfl g2
  have P3 : Hid (putB ty 2 = true) := putB_2 (by omega) (by omega)
  have hq1 : ¬ 9223372036854775807 < 14 + body.size := by omega
  have hq2 : 14 + body.size ≤ 9223372036854775807 := by omega
  clear y0 hk g1 g2 g3 g5
  go_enter Try.func67, Try.ntmps67
  go_wp2_with fail
  refine (Y0.out _).mono ?_
  rintro e w1 ⟨rfl, hb1⟩
  have hz1 := hb1.size
  (try simp at hz1)
  have ra_1 : w1.heap[w.heap.size]? = some (.cells #[.int .i64 dst, .int .i64 src, .int .i64 ty, .string body] 67 (0, 0)) := (hb1.block _ (by first | (simp; done) | (simp; omega))).trans (by repeat (first | exact heap_new _ _ _ (by first | rfl | (simp; done) | (simp; omega)) | refine (Below.heap_alloc _ _ _ (by first | omega | (simp; done) | (simp; omega))).trans ?_))
  have hw1 : Below w.heap.size w w1 := (by repeat (first | with_reducible exact Below.refl _ _ | with_reducible assumption | with_reducible refine Below.drew ?_ | with_reducible refine Below.alloc ?_ (by first | exact Nat.le_refl _ | omega | (simp; done) | (simp; omega)) _ | with_reducible refine Below.setCell ?_ (by first | exact Nat.le_refl _ | omega | (simp; done) | (simp; omega)) _ | (with_reducible refine ext_trans ?_ (by with_reducible assumption))))
  have lRa_1 : w.heap.size < w1.heap.size := by omega
  have Ra_1 := Lib.hid ra_1
  have r0_ra_1 := cell_of_row _ _ 0 _ _ _ ra_1
  have r1_ra_1 := cell_of_row _ _ 1 _ _ _ ra_1
  have r2_ra_1 := cell_of_row _ _ 2 _ _ _ ra_1
  have r3_ra_1 := cell_of_row _ _ 3 _ _ _ ra_1
  have f0_ra_1 := frozen_of_row _ _ 0 _ _ ra_1
  have f1_ra_1 := frozen_of_row _ _ 1 _ _ ra_1
  have f2_ra_1 := frozen_of_row _ _ 2 _ _ ra_1
  have f3_ra_1 := frozen_of_row _ _ 3 _ _ ra_1
  simp at r0_ra_1 r1_ra_1 r2_ra_1 r3_ra_1
  clear ra_1
  go_wp2_with fail
  go_cut [2] (fun z wx => ∃ t, z = .string t ∧ Hid (t = frameS dst src ty body) ∧ Below w1.heap.size w1 wx)
  case first =>
    first | go_region_held3 (fun w' => (∀ b' o, b' < (w1).heap.size → w'.cell? ⟨b', o, none⟩ = (w1).cell? ⟨b', o, none⟩) ∧ Below (w1).heap.size (w1) w') (first | with_reducible assumption | (with_reducible apply rg_keep; rotate_left; with_reducible assumption; with_reducible assumption) | with_reducible exact rg_start _ | with_reducible exact rg_alloc (KeptS.out (by with_reducible assumption)) _ | with_reducible exact rg_alloc (by with_reducible assumption) _ | with_reducible exact rg_start_alloc _ _ | ((repeat (with_reducible refine rg_set ?_ _ (by first | exact Nat.le_refl _ | omega | (simp; done) | (simp; omega)) _)); first | with_reducible exact KeptS.out (by with_reducible assumption) | with_reducible assumption | with_reducible exact rg_alloc (KeptS.out (by with_reducible assumption)) _)) (first | (go_at_call 93; ((with_reducible refine (PutStr_6 (dst) P1.out _).mono ?_); (rintro e wA ⟨s1, rfl, hzs1, hss1, hbA⟩; have hSA := rg_keepK (by first | with_reducible assumption | exact KeptS.out (by with_reducible assumption)) hbA))) | (go_at_call 93; ((with_reducible refine (PutStr_6 (src) P2.out _).mono ?_); (rintro e wA ⟨s2, rfl, hzs2, hss2, hbA⟩; have hSA := rg_keepK (by first | with_reducible assumption | exact KeptS.out (by with_reducible assumption)) hbA))) | (go_at_call 93; ((with_reducible refine (PutStr_2 (ty) P3.out _).mono ?_); (rintro e wA ⟨s3, rfl, hzs3, hss3, hbA⟩; have hSA := rg_keepK (by first | with_reducible assumption | exact KeptS.out (by with_reducible assumption)) hbA)))) | fail
    all_goals (go_wp2_with fail; go_meet; exact ⟨_, rfl, by rw [HR.out, hss1.out, hss2.out, hss3.out]; rfl, (by assumption : _ ∧ Below w1.heap.size w1 wA).2⟩)
  case rest =>
  obtain ⟨t, rfl, ht, hb2⟩ := hcut
  rename World => w2
  have hz2 := hb2.size
  (try simp at hz2)
  have ra_2 := (hb2.block _ (by first | omega | (simp; done) | (simp; omega))).trans Ra_1.out
  have hw2 : Below w.heap.size w w2 := (by repeat (first | with_reducible exact Below.refl _ _ | with_reducible assumption | with_reducible refine Below.drew ?_ | with_reducible refine Below.alloc ?_ (by first | exact Nat.le_refl _ | omega | (simp; done) | (simp; omega)) _ | with_reducible refine Below.setCell ?_ (by first | exact Nat.le_refl _ | omega | (simp; done) | (simp; omega)) _ | (with_reducible refine ext_trans ?_ (by with_reducible assumption))))
  have lRa_2 : w.heap.size < w2.heap.size := by omega
  have Ra_2 := Lib.hid ra_2
  have r0_ra_2 := cell_of_row _ _ 0 _ _ _ ra_2
  have r1_ra_2 := cell_of_row _ _ 1 _ _ _ ra_2
  have r2_ra_2 := cell_of_row _ _ 2 _ _ _ ra_2
  have r3_ra_2 := cell_of_row _ _ 3 _ _ _ ra_2
  have f0_ra_2 := frozen_of_row _ _ 0 _ _ ra_2
  have f1_ra_2 := frozen_of_row _ _ 1 _ _ ra_2
  have f2_ra_2 := frozen_of_row _ _ 2 _ _ ra_2
  have f3_ra_2 := frozen_of_row _ _ 3 _ _ ra_2
  simp at r0_ra_2 r1_ra_2 r2_ra_2 r3_ra_2
  clear ra_2
  clear r0_ra_1 f0_ra_1 r1_ra_1 f1_ra_1 r2_ra_1 f2_ra_1 r3_ra_1 f3_ra_1
  go_wp2_with fail
  go_ret
  exact ⟨by rw [ht.out]; rfl, hw2⟩
set_option maxHeartbeats 4000000 in
set_option linter.unusedVariables false in
theorem sFrameText_any (dst src ty : Int) (body : ByteArray) (w : World) :
    Calls Try.prog 65 #[.agg #[.int .i64 dst, .int .i64 src, .int .i64 ty, .string body]] w fun e w' => e = .returned (.string (frameS dst src ty body)) ∧ Below w.heap.size w w' := by
  have y0 := fun W => sFrameOk_any dst src ty body W
  cases hk : frameB dst src ty body
  case false =>
    rw [hk] at y0
    have Y0 := Lib.hid y0
    have HR : Hid (frameS dst src ty body = ⟨#[]⟩) := (by unfold frameS; rw [hk]; rfl : frameS dst src ty body = ⟨#[]⟩)
    clear y0 hk
    go_enter Try.func65, Try.ntmps65
    go_wp2_with fail
    refine (Y0.out _).mono ?_
    rintro e w1 ⟨rfl, hb1⟩
    go_wp2_with fail
    go_ret
    exact ⟨by rw [HR.out]; rfl, (by repeat (first | with_reducible exact Below.refl _ _ | with_reducible assumption | with_reducible refine Below.drew ?_ | with_reducible refine Below.alloc ?_ (by first | exact Nat.le_refl _ | omega | (simp; done) | (simp; omega)) _ | with_reducible refine Below.setCell ?_ (by first | exact Nat.le_refl _ | omega | (simp; done) | (simp; omega)) _ | (with_reducible refine ext_trans ?_ (by with_reducible assumption))))⟩
  case true =>
  rw [hk] at y0
  have Y0 := Lib.hid y0
  have HR : Hid (frameS dst src ty body = ((beS 6 dst ++ beS 6 src) ++ beS 2 ty) ++ body) := (by unfold frameS; rw [hk]; rfl : frameS dst src ty body = _)
  have hk2 := hk
  simp only [frameB, Bool.and_eq_true, decide_eq_true_eq] at hk2
  obtain ⟨g1, g2, g3, g4⟩ := hk2
  have g5 := inB_iff.1 g3
  have P1 : Hid (putB dst 6 = true) := putB_of rfl g1
  have P2 : Hid (putB src 6 = true) := putB_of rfl g2
  have P3 : Hid (putB ty 2 = true) := putB_2 (by omega) (by omega)
  have hq1 : ¬ 9223372036854775807 < 14 + body.size := by omega
  have hq2 : 14 + body.size ≤ 9223372036854775807 := by omega
  clear y0 hk g1 g2 g3 g5
  go_enter Try.func65, Try.ntmps65
  go_wp2_with fail
  refine (Y0.out _).mono ?_
  rintro e w1 ⟨rfl, hb1⟩
  have hz1 := hb1.size
  (try simp at hz1)
  have ra_1 : w1.heap[w.heap.size]? = some (.cells #[.int .i64 dst, .int .i64 src, .int .i64 ty, .string body] 67 (0, 0)) := (hb1.block _ (by first | (simp; done) | (simp; omega))).trans (by repeat (first | exact heap_new _ _ _ (by first | rfl | (simp; done) | (simp; omega)) | refine (Below.heap_alloc _ _ _ (by first | omega | (simp; done) | (simp; omega))).trans ?_))
  have hw1 : Below w.heap.size w w1 := (by repeat (first | with_reducible exact Below.refl _ _ | with_reducible assumption | with_reducible refine Below.drew ?_ | with_reducible refine Below.alloc ?_ (by first | exact Nat.le_refl _ | omega | (simp; done) | (simp; omega)) _ | with_reducible refine Below.setCell ?_ (by first | exact Nat.le_refl _ | omega | (simp; done) | (simp; omega)) _ | (with_reducible refine ext_trans ?_ (by with_reducible assumption))))
  have lRa_1 : w.heap.size < w1.heap.size := by omega
  have Ra_1 := Lib.hid ra_1
  have r0_ra_1 := cell_of_row _ _ 0 _ _ _ ra_1
  have r1_ra_1 := cell_of_row _ _ 1 _ _ _ ra_1
  have r2_ra_1 := cell_of_row _ _ 2 _ _ _ ra_1
  have r3_ra_1 := cell_of_row _ _ 3 _ _ _ ra_1
  have f0_ra_1 := frozen_of_row _ _ 0 _ _ ra_1
  have f1_ra_1 := frozen_of_row _ _ 1 _ _ ra_1
  have f2_ra_1 := frozen_of_row _ _ 2 _ _ ra_1
  have f3_ra_1 := frozen_of_row _ _ 3 _ _ ra_1
  simp at r0_ra_1 r1_ra_1 r2_ra_1 r3_ra_1
  clear ra_1
  go_wp2_with fail
  go_cut [2] (fun z wx => ∃ t, z = .string t ∧ Hid (t = frameS dst src ty body) ∧ Below w1.heap.size w1 wx)
  case first =>
    first | go_region_held3 (fun w' => (∀ b' o, b' < (w1).heap.size → w'.cell? ⟨b', o, none⟩ = (w1).cell? ⟨b', o, none⟩) ∧ Below (w1).heap.size (w1) w') (first | with_reducible assumption | (with_reducible apply rg_keep; rotate_left; with_reducible assumption; with_reducible assumption) | with_reducible exact rg_start _ | with_reducible exact rg_alloc (KeptS.out (by with_reducible assumption)) _ | with_reducible exact rg_alloc (by with_reducible assumption) _ | with_reducible exact rg_start_alloc _ _ | ((repeat (with_reducible refine rg_set ?_ _ (by first | exact Nat.le_refl _ | omega | (simp; done) | (simp; omega)) _)); first | with_reducible exact KeptS.out (by with_reducible assumption) | with_reducible assumption | with_reducible exact rg_alloc (KeptS.out (by with_reducible assumption)) _)) (first | (go_at_call 89; ((with_reducible refine (sPutStr_6 (dst) P1.out _).mono ?_); (rintro e wA ⟨s1, rfl, hzs1, hss1, hbA⟩; have hSA := rg_keepK (by first | with_reducible assumption | exact KeptS.out (by with_reducible assumption)) hbA))) | (go_at_call 89; ((with_reducible refine (sPutStr_6 (src) P2.out _).mono ?_); (rintro e wA ⟨s2, rfl, hzs2, hss2, hbA⟩; have hSA := rg_keepK (by first | with_reducible assumption | exact KeptS.out (by with_reducible assumption)) hbA))) | (go_at_call 89; ((with_reducible refine (sPutStr_2 (ty) P3.out _).mono ?_); (rintro e wA ⟨s3, rfl, hzs3, hss3, hbA⟩; have hSA := rg_keepK (by first | with_reducible assumption | exact KeptS.out (by with_reducible assumption)) hbA)))) | fail
    all_goals (go_wp2_with fail; go_meet; exact ⟨_, rfl, by rw [HR.out, hss1.out, hss2.out, hss3.out]; rfl, (by assumption : _ ∧ Below w1.heap.size w1 wA).2⟩)
  case rest =>
  obtain ⟨t, rfl, ht, hb2⟩ := hcut
  rename World => w2
  have hz2 := hb2.size
  (try simp at hz2)
  have ra_2 := (hb2.block _ (by first | omega | (simp; done) | (simp; omega))).trans Ra_1.out
  have hw2 : Below w.heap.size w w2 := (by repeat (first | with_reducible exact Below.refl _ _ | with_reducible assumption | with_reducible refine Below.drew ?_ | with_reducible refine Below.alloc ?_ (by first | exact Nat.le_refl _ | omega | (simp; done) | (simp; omega)) _ | with_reducible refine Below.setCell ?_ (by first | exact Nat.le_refl _ | omega | (simp; done) | (simp; omega)) _ | (with_reducible refine ext_trans ?_ (by with_reducible assumption))))
  have lRa_2 : w.heap.size < w2.heap.size := by omega
  have Ra_2 := Lib.hid ra_2
  have r0_ra_2 := cell_of_row _ _ 0 _ _ _ ra_2
  have r1_ra_2 := cell_of_row _ _ 1 _ _ _ ra_2
  have r2_ra_2 := cell_of_row _ _ 2 _ _ _ ra_2
  have r3_ra_2 := cell_of_row _ _ 3 _ _ _ ra_2
  have f0_ra_2 := frozen_of_row _ _ 0 _ _ ra_2
  have f1_ra_2 := frozen_of_row _ _ 1 _ _ ra_2
  have f2_ra_2 := frozen_of_row _ _ 2 _ _ ra_2
  have f3_ra_2 := frozen_of_row _ _ 3 _ _ ra_2
  simp at r0_ra_2 r1_ra_2 r2_ra_2 r3_ra_2
  clear ra_2
  clear r0_ra_1 f0_ra_1 r1_ra_1 f1_ra_1 r2_ra_1 f2_ra_1 r3_ra_1 f3_ra_1
  go_wp2_with fail
  go_ret
  exact ⟨by rw [ht.out]; rfl, hw2⟩
set_option maxHeartbeats 4000000 in
set_option linter.unusedVariables false in
theorem PacketText_any (src dst ttl proto id : Int) (body : ByteArray) (w : World) :
    Calls Try.prog 66 #[.agg #[.int .i64 src, .int .i64 dst, .int .i64 ttl, .int .i64 proto, .int .i64 id, .string body]] w fun e w' => e = .returned (.string (packS src dst ttl proto id body)) ∧ Below w.heap.size w w' := by
  have y0 := fun W => PacketOk_any src dst ttl proto id body W
  cases hk : packB src dst ttl proto id body
  case false =>
    rw [hk] at y0
    have Y0 := Lib.hid y0
    have HR : Hid (packS src dst ttl proto id body = ⟨#[]⟩) := (by unfold packS; rw [hk]; rfl : packS src dst ttl proto id body = ⟨#[]⟩)
    clear y0 hk
    go_enter Try.func66, Try.ntmps66
    go_wp2_with fail
    refine (Y0.out _).mono ?_
    rintro e w1 ⟨rfl, hb1⟩
    go_wp2_with fail
    go_ret
    exact ⟨by rw [HR.out]; rfl, (by repeat (first | with_reducible exact Below.refl _ _ | with_reducible assumption | with_reducible refine Below.drew ?_ | with_reducible refine Below.alloc ?_ (by first | exact Nat.le_refl _ | omega | (simp; done) | (simp; omega)) _ | with_reducible refine Below.setCell ?_ (by first | exact Nat.le_refl _ | omega | (simp; done) | (simp; omega)) _ | (with_reducible refine ext_trans ?_ (by with_reducible assumption))))⟩
  case true =>
  rw [hk] at y0
  have Y0 := Lib.hid y0
  have HR : Hid (packS src dst ttl proto id body = ((packF ttl proto id body.size ++ beS 2 (sumR (packF ttl proto id body.size ++ packE src dst).data.toList)) ++ packE src dst) ++ body) := (by unfold packS; rw [hk]; rfl : packS src dst ttl proto id body = _)
  have hk2 := hk
  simp only [packB, Bool.and_eq_true, decide_eq_true_eq] at hk2
  obtain ⟨g1, g2, g3, g4, g5, g6⟩ := hk2
  have g7 := inB_iff.1 g3
  have P1 : Hid (putB src 4 = true) := putB_of rfl g1
  have P2 : Hid (putB dst 4 = true) := putB_of rfl g2
  have P3 : Hid (putB ttl 1 = true) := putB_1 (by omega) (by omega)
  have P4 : Hid (putB proto 1 = true) := putB_of rfl g4
  have P5 : Hid (putB id 2 = true) := putB_of rfl g5
  have P6 : Hid (putB (20 + (body.size : Int)) 2 = true) := putB_2 (by omega) (by omega)
  have hq1 : ¬ 9223372036854775807 < 20 + body.size := by omega
  have hq2 : 20 + body.size ≤ 9223372036854775807 := by omega
  have hq3 : IntKind.i64.wrap (20 + (body.size : Int)) = 20 + (body.size : Int) := IntWalk.i64_in _ ⟨by omega, by omega⟩
  clear y0 hk g1 g2 g3 g4 g5 g7
  go_enter Try.func66, Try.ntmps66
  go_wp2_with fail
  refine (Y0.out _).mono ?_
  rintro e w1 ⟨rfl, hb1⟩
  have hz1 := hb1.size
  (try simp at hz1)
  have ra_1 : w1.heap[w.heap.size]? = some (.cells #[.int .i64 src, .int .i64 dst, .int .i64 ttl, .int .i64 proto, .int .i64 id, .string body] 58 (0, 0)) := (hb1.block _ (by first | (simp; done) | (simp; omega))).trans (by repeat (first | exact heap_new _ _ _ (by first | rfl | (simp; done) | (simp; omega)) | refine (Below.heap_alloc _ _ _ (by first | omega | (simp; done) | (simp; omega))).trans ?_))
  have hw1 : Below w.heap.size w w1 := (by repeat (first | with_reducible exact Below.refl _ _ | with_reducible assumption | with_reducible refine Below.drew ?_ | with_reducible refine Below.alloc ?_ (by first | exact Nat.le_refl _ | omega | (simp; done) | (simp; omega)) _ | with_reducible refine Below.setCell ?_ (by first | exact Nat.le_refl _ | omega | (simp; done) | (simp; omega)) _ | (with_reducible refine ext_trans ?_ (by with_reducible assumption))))
  have lRa_1 : w.heap.size < w1.heap.size := by omega
  have Ra_1 := Lib.hid ra_1
  have r0_ra_1 := cell_of_row _ _ 0 _ _ _ ra_1
  have r1_ra_1 := cell_of_row _ _ 1 _ _ _ ra_1
  have r2_ra_1 := cell_of_row _ _ 2 _ _ _ ra_1
  have r3_ra_1 := cell_of_row _ _ 3 _ _ _ ra_1
  have r4_ra_1 := cell_of_row _ _ 4 _ _ _ ra_1
  have r5_ra_1 := cell_of_row _ _ 5 _ _ _ ra_1
  have f0_ra_1 := frozen_of_row _ _ 0 _ _ ra_1
  have f1_ra_1 := frozen_of_row _ _ 1 _ _ ra_1
  have f2_ra_1 := frozen_of_row _ _ 2 _ _ ra_1
  have f3_ra_1 := frozen_of_row _ _ 3 _ _ ra_1
  have f4_ra_1 := frozen_of_row _ _ 4 _ _ ra_1
  have f5_ra_1 := frozen_of_row _ _ 5 _ _ ra_1
  simp at r0_ra_1 r1_ra_1 r2_ra_1 r3_ra_1 r4_ra_1 r5_ra_1
  clear ra_1
  go_wp2_with fail
  go_cut [3] (fun z wx => ∃ t, z = .string t ∧ t.size = 10 ∧ Hid (t = packF ttl proto id body.size) ∧ Below w1.heap.size w1 wx)
  case first =>
    first | go_region_held3 (fun w' => (∀ b' o, b' < (w1).heap.size → w'.cell? ⟨b', o, none⟩ = (w1).cell? ⟨b', o, none⟩) ∧ Below (w1).heap.size (w1) w') (first | with_reducible assumption | (with_reducible apply rg_keep; rotate_left; with_reducible assumption; with_reducible assumption) | with_reducible exact rg_start _ | with_reducible exact rg_alloc (KeptS.out (by with_reducible assumption)) _ | with_reducible exact rg_alloc (by with_reducible assumption) _ | with_reducible exact rg_start_alloc _ _ | ((repeat (with_reducible refine rg_set ?_ _ (by first | exact Nat.le_refl _ | omega | (simp; done) | (simp; omega)) _)); first | with_reducible exact KeptS.out (by with_reducible assumption) | with_reducible assumption | with_reducible exact rg_alloc (KeptS.out (by with_reducible assumption)) _)) (first | (go_at_call 93; ((with_reducible refine (PutStr_2 (20 + (body.size : Int)) P6.out _).mono ?_); (rintro e wA ⟨s1, rfl, hzs1, hss1, hbA⟩; have hSA := rg_keepK (by first | with_reducible assumption | exact KeptS.out (by with_reducible assumption)) hbA))) | (go_at_call 93; ((with_reducible refine (PutStr_2 (id) P5.out _).mono ?_); (rintro e wA ⟨s2, rfl, hzs2, hss2, hbA⟩; have hSA := rg_keepK (by first | with_reducible assumption | exact KeptS.out (by with_reducible assumption)) hbA))) | (go_at_call 93; ((with_reducible refine (PutStr_1 (ttl) P3.out _).mono ?_); (rintro e wA ⟨s3, rfl, hzs3, hss3, hbA⟩; have hSA := rg_keepK (by first | with_reducible assumption | exact KeptS.out (by with_reducible assumption)) hbA))) | (go_at_call 93; ((with_reducible refine (PutStr_1 (proto) P4.out _).mono ?_); (rintro e wA ⟨s4, rfl, hzs4, hss4, hbA⟩; have hSA := rg_keepK (by first | with_reducible assumption | exact KeptS.out (by with_reducible assumption)) hbA)))) | fail
    all_goals (go_wp2_with fail; go_meet; exact ⟨_, rfl, by simp only [ByteArray.size_append, hzs1, hzs2, hzs3, hzs4]; rfl, by rw [hss1.out, hss2.out, hss3.out, hss4.out]; rfl, (by assumption : _ ∧ Below w1.heap.size w1 wA).2⟩)
  case rest =>
  obtain ⟨tF, rfl, hFz, hF, hb2⟩ := hcut
  rename World => w2
  have hz2 := hb2.size
  (try simp at hz2)
  have ra_2 := (hb2.block _ (by first | omega | (simp; done) | (simp; omega))).trans Ra_1.out
  have hw2 : Below w.heap.size w w2 := (by repeat (first | with_reducible exact Below.refl _ _ | with_reducible assumption | with_reducible refine Below.drew ?_ | with_reducible refine Below.alloc ?_ (by first | exact Nat.le_refl _ | omega | (simp; done) | (simp; omega)) _ | with_reducible refine Below.setCell ?_ (by first | exact Nat.le_refl _ | omega | (simp; done) | (simp; omega)) _ | (with_reducible refine ext_trans ?_ (by with_reducible assumption))))
  have lRa_2 : w.heap.size < w2.heap.size := by omega
  have Ra_2 := Lib.hid ra_2
  have r0_ra_2 := cell_of_row _ _ 0 _ _ _ ra_2
  have r1_ra_2 := cell_of_row _ _ 1 _ _ _ ra_2
  have r2_ra_2 := cell_of_row _ _ 2 _ _ _ ra_2
  have r3_ra_2 := cell_of_row _ _ 3 _ _ _ ra_2
  have r4_ra_2 := cell_of_row _ _ 4 _ _ _ ra_2
  have r5_ra_2 := cell_of_row _ _ 5 _ _ _ ra_2
  have f0_ra_2 := frozen_of_row _ _ 0 _ _ ra_2
  have f1_ra_2 := frozen_of_row _ _ 1 _ _ ra_2
  have f2_ra_2 := frozen_of_row _ _ 2 _ _ ra_2
  have f3_ra_2 := frozen_of_row _ _ 3 _ _ ra_2
  have f4_ra_2 := frozen_of_row _ _ 4 _ _ ra_2
  have f5_ra_2 := frozen_of_row _ _ 5 _ _ ra_2
  simp at r0_ra_2 r1_ra_2 r2_ra_2 r3_ra_2 r4_ra_2 r5_ra_2
  clear ra_2
  clear r0_ra_1 f0_ra_1 r1_ra_1 f1_ra_1 r2_ra_1 f2_ra_1 r3_ra_1 f3_ra_1 r4_ra_1 f4_ra_1 r5_ra_1 f5_ra_1
  go_wp2_with fail
  go_cut [4] (fun z wx => ∃ t, z = .string t ∧ t.size = 8 ∧ Hid (t = packE src dst) ∧ Below w2.heap.size w2 wx)
  case first =>
    first | go_region_held3 (fun w' => (∀ b' o, b' < (w2).heap.size → w'.cell? ⟨b', o, none⟩ = (w2).cell? ⟨b', o, none⟩) ∧ Below (w2).heap.size (w2) w') (first | with_reducible assumption | (with_reducible apply rg_keep; rotate_left; with_reducible assumption; with_reducible assumption) | with_reducible exact rg_start _ | with_reducible exact rg_alloc (KeptS.out (by with_reducible assumption)) _ | with_reducible exact rg_alloc (by with_reducible assumption) _ | with_reducible exact rg_start_alloc _ _ | ((repeat (with_reducible refine rg_set ?_ _ (by first | exact Nat.le_refl _ | omega | (simp; done) | (simp; omega)) _)); first | with_reducible exact KeptS.out (by with_reducible assumption) | with_reducible assumption | with_reducible exact rg_alloc (KeptS.out (by with_reducible assumption)) _)) (first | (go_at_call 93; ((with_reducible refine (PutStr_4 (src) P1.out _).mono ?_); (rintro e wA ⟨s1, rfl, hzs1, hss1, hbA⟩; have hSA := rg_keepK (by first | with_reducible assumption | exact KeptS.out (by with_reducible assumption)) hbA))) | (go_at_call 93; ((with_reducible refine (PutStr_4 (dst) P2.out _).mono ?_); (rintro e wA ⟨s2, rfl, hzs2, hss2, hbA⟩; have hSA := rg_keepK (by first | with_reducible assumption | exact KeptS.out (by with_reducible assumption)) hbA)))) | fail
    all_goals (go_wp2_with fail; go_meet; exact ⟨_, rfl, by simp only [ByteArray.size_append, hzs1, hzs2], by rw [hss1.out, hss2.out]; rfl, (by assumption : _ ∧ Below w2.heap.size w2 wA).2⟩)
  case rest =>
  obtain ⟨tE, rfl, hEz, hE, hb3⟩ := hcut
  rename World => w3
  have hz3 := hb3.size
  (try simp at hz3)
  have ra_3 := (hb3.block _ (by first | omega | (simp; done) | (simp; omega))).trans Ra_2.out
  have hw3 : Below w.heap.size w w3 := (by repeat (first | with_reducible exact Below.refl _ _ | with_reducible assumption | with_reducible refine Below.drew ?_ | with_reducible refine Below.alloc ?_ (by first | exact Nat.le_refl _ | omega | (simp; done) | (simp; omega)) _ | with_reducible refine Below.setCell ?_ (by first | exact Nat.le_refl _ | omega | (simp; done) | (simp; omega)) _ | (with_reducible refine ext_trans ?_ (by with_reducible assumption))))
  have lRa_3 : w.heap.size < w3.heap.size := by omega
  have Ra_3 := Lib.hid ra_3
  have r0_ra_3 := cell_of_row _ _ 0 _ _ _ ra_3
  have r1_ra_3 := cell_of_row _ _ 1 _ _ _ ra_3
  have r2_ra_3 := cell_of_row _ _ 2 _ _ _ ra_3
  have r3_ra_3 := cell_of_row _ _ 3 _ _ _ ra_3
  have r4_ra_3 := cell_of_row _ _ 4 _ _ _ ra_3
  have r5_ra_3 := cell_of_row _ _ 5 _ _ _ ra_3
  have f0_ra_3 := frozen_of_row _ _ 0 _ _ ra_3
  have f1_ra_3 := frozen_of_row _ _ 1 _ _ ra_3
  have f2_ra_3 := frozen_of_row _ _ 2 _ _ ra_3
  have f3_ra_3 := frozen_of_row _ _ 3 _ _ ra_3
  have f4_ra_3 := frozen_of_row _ _ 4 _ _ ra_3
  have f5_ra_3 := frozen_of_row _ _ 5 _ _ ra_3
  simp at r0_ra_3 r1_ra_3 r2_ra_3 r3_ra_3 r4_ra_3 r5_ra_3
  clear ra_3
  clear r0_ra_2 f0_ra_2 r1_ra_2 f1_ra_2 r2_ra_2 f2_ra_2 r3_ra_2 f3_ra_2 r4_ra_2 f4_ra_2 r5_ra_2 f5_ra_2
  have ys := fun W => SumOf_any ((tF ++ ⟨#[0, 0]⟩) ++ tE) (by simp only [ByteArray.size_append, hFz, hEz]; decide) W
  rw [sum_gap _ _ (by rw [hFz])] at ys
  obtain ⟨S, hS⟩ : ∃ S, sumR (tF ++ tE).data.toList = S := ⟨_, rfl⟩
  have hSb := sumR_bd (tF ++ tE).data.toList
  rw [hS] at ys hSb
  have YS := Lib.hid ys
  have P7 : Hid (putB S 2 = true) := putB_2 (by omega) (by omega)
  have HS := Lib.hid hS
  clear ys hS
  go_wp2_with fail
  go_cut [2] (fun z wx => ∃ t, z = .string t ∧ Hid (t = packS src dst ttl proto id body) ∧ Below w3.heap.size w3 wx)
  case first =>
    first | go_region_held3 (fun w' => (∀ b' o, b' < (w3).heap.size → w'.cell? ⟨b', o, none⟩ = (w3).cell? ⟨b', o, none⟩) ∧ Below (w3).heap.size (w3) w') (first | with_reducible assumption | (with_reducible apply rg_keep; rotate_left; with_reducible assumption; with_reducible assumption) | with_reducible exact rg_start _ | with_reducible exact rg_alloc (KeptS.out (by with_reducible assumption)) _ | with_reducible exact rg_alloc (by with_reducible assumption) _ | with_reducible exact rg_start_alloc _ _ | ((repeat (with_reducible refine rg_set ?_ _ (by first | exact Nat.le_refl _ | omega | (simp; done) | (simp; omega)) _)); first | with_reducible exact KeptS.out (by with_reducible assumption) | with_reducible assumption | with_reducible exact rg_alloc (KeptS.out (by with_reducible assumption)) _)) (first | (go_at_call 94; ((with_reducible refine (YS.out _).mono ?_); rintro e w' ⟨rfl, rfl⟩)) | (go_at_call 93; ((with_reducible refine (PutStr_2 (S) P7.out _).mono ?_); (rintro e wA ⟨s1, rfl, hzs1, hss1, hbA⟩; have hSA := rg_keepK (by first | with_reducible assumption | exact KeptS.out (by with_reducible assumption)) hbA)))) | fail
    all_goals (go_wp2_with fail; go_meet; exact ⟨_, rfl, by rw [HR.out, hss1.out, ← hF.out, ← hE.out, HS.out]; rfl, (by assumption : _ ∧ Below w3.heap.size w3 wA).2⟩)
  case rest =>
  obtain ⟨t, rfl, ht, hb4⟩ := hcut
  rename World => w4
  have hz4 := hb4.size
  (try simp at hz4)
  have ra_4 := (hb4.block _ (by first | omega | (simp; done) | (simp; omega))).trans Ra_3.out
  have hw4 : Below w.heap.size w w4 := (by repeat (first | with_reducible exact Below.refl _ _ | with_reducible assumption | with_reducible refine Below.drew ?_ | with_reducible refine Below.alloc ?_ (by first | exact Nat.le_refl _ | omega | (simp; done) | (simp; omega)) _ | with_reducible refine Below.setCell ?_ (by first | exact Nat.le_refl _ | omega | (simp; done) | (simp; omega)) _ | (with_reducible refine ext_trans ?_ (by with_reducible assumption))))
  have lRa_4 : w.heap.size < w4.heap.size := by omega
  have Ra_4 := Lib.hid ra_4
  have r0_ra_4 := cell_of_row _ _ 0 _ _ _ ra_4
  have r1_ra_4 := cell_of_row _ _ 1 _ _ _ ra_4
  have r2_ra_4 := cell_of_row _ _ 2 _ _ _ ra_4
  have r3_ra_4 := cell_of_row _ _ 3 _ _ _ ra_4
  have r4_ra_4 := cell_of_row _ _ 4 _ _ _ ra_4
  have r5_ra_4 := cell_of_row _ _ 5 _ _ _ ra_4
  have f0_ra_4 := frozen_of_row _ _ 0 _ _ ra_4
  have f1_ra_4 := frozen_of_row _ _ 1 _ _ ra_4
  have f2_ra_4 := frozen_of_row _ _ 2 _ _ ra_4
  have f3_ra_4 := frozen_of_row _ _ 3 _ _ ra_4
  have f4_ra_4 := frozen_of_row _ _ 4 _ _ ra_4
  have f5_ra_4 := frozen_of_row _ _ 5 _ _ ra_4
  simp at r0_ra_4 r1_ra_4 r2_ra_4 r3_ra_4 r4_ra_4 r5_ra_4
  clear ra_4
  clear r0_ra_3 f0_ra_3 r1_ra_3 f1_ra_3 r2_ra_3 f2_ra_3 r3_ra_3 f3_ra_3 r4_ra_3 f4_ra_3 r5_ra_3 f5_ra_3
  go_wp2_with fail
  go_ret
  exact ⟨by rw [ht.out]; rfl, hw4⟩
set_option maxHeartbeats 4000000 in
set_option linter.unusedVariables false in
theorem sPacketText_any (src dst ttl proto id : Int) (body : ByteArray) (w : World) :
    Calls Try.prog 64 #[.agg #[.int .i64 src, .int .i64 dst, .int .i64 ttl, .int .i64 proto, .int .i64 id, .string body]] w fun e w' => e = .returned (.string (packS src dst ttl proto id body)) ∧ Below w.heap.size w w' := by
  have y0 := fun W => sPacketOk_any src dst ttl proto id body W
  cases hk : packB src dst ttl proto id body
  case false =>
    rw [hk] at y0
    have Y0 := Lib.hid y0
    have HR : Hid (packS src dst ttl proto id body = ⟨#[]⟩) := (by unfold packS; rw [hk]; rfl : packS src dst ttl proto id body = ⟨#[]⟩)
    clear y0 hk
    go_enter Try.func64, Try.ntmps64
    go_wp2_with fail
    refine (Y0.out _).mono ?_
    rintro e w1 ⟨rfl, hb1⟩
    go_wp2_with fail
    go_ret
    exact ⟨by rw [HR.out]; rfl, (by repeat (first | with_reducible exact Below.refl _ _ | with_reducible assumption | with_reducible refine Below.drew ?_ | with_reducible refine Below.alloc ?_ (by first | exact Nat.le_refl _ | omega | (simp; done) | (simp; omega)) _ | with_reducible refine Below.setCell ?_ (by first | exact Nat.le_refl _ | omega | (simp; done) | (simp; omega)) _ | (with_reducible refine ext_trans ?_ (by with_reducible assumption))))⟩
  case true =>
  rw [hk] at y0
  have Y0 := Lib.hid y0
  have HR : Hid (packS src dst ttl proto id body = ((packF ttl proto id body.size ++ beS 2 (sumR (packF ttl proto id body.size ++ packE src dst).data.toList)) ++ packE src dst) ++ body) := (by unfold packS; rw [hk]; rfl : packS src dst ttl proto id body = _)
  have hk2 := hk
  simp only [packB, Bool.and_eq_true, decide_eq_true_eq] at hk2
  obtain ⟨g1, g2, g3, g4, g5, g6⟩ := hk2
  have g7 := inB_iff.1 g3
  have P1 : Hid (putB src 4 = true) := putB_of rfl g1
  have P2 : Hid (putB dst 4 = true) := putB_of rfl g2
  have P3 : Hid (putB ttl 1 = true) := putB_1 (by omega) (by omega)
  have P4 : Hid (putB proto 1 = true) := putB_of rfl g4
  have P5 : Hid (putB id 2 = true) := putB_of rfl g5
  have P6 : Hid (putB (20 + (body.size : Int)) 2 = true) := putB_2 (by omega) (by omega)
  have hq1 : ¬ 9223372036854775807 < 20 + body.size := by omega
  have hq2 : 20 + body.size ≤ 9223372036854775807 := by omega
  have hq3 : IntKind.i64.wrap (20 + (body.size : Int)) = 20 + (body.size : Int) := IntWalk.i64_in _ ⟨by omega, by omega⟩
  clear y0 hk g1 g2 g3 g4 g5 g7
  go_enter Try.func64, Try.ntmps64
  go_wp2_with fail
  refine (Y0.out _).mono ?_
  rintro e w1 ⟨rfl, hb1⟩
  have hz1 := hb1.size
  (try simp at hz1)
  have ra_1 : w1.heap[w.heap.size]? = some (.cells #[.int .i64 src, .int .i64 dst, .int .i64 ttl, .int .i64 proto, .int .i64 id, .string body] 58 (0, 0)) := (hb1.block _ (by first | (simp; done) | (simp; omega))).trans (by repeat (first | exact heap_new _ _ _ (by first | rfl | (simp; done) | (simp; omega)) | refine (Below.heap_alloc _ _ _ (by first | omega | (simp; done) | (simp; omega))).trans ?_))
  have hw1 : Below w.heap.size w w1 := (by repeat (first | with_reducible exact Below.refl _ _ | with_reducible assumption | with_reducible refine Below.drew ?_ | with_reducible refine Below.alloc ?_ (by first | exact Nat.le_refl _ | omega | (simp; done) | (simp; omega)) _ | with_reducible refine Below.setCell ?_ (by first | exact Nat.le_refl _ | omega | (simp; done) | (simp; omega)) _ | (with_reducible refine ext_trans ?_ (by with_reducible assumption))))
  have lRa_1 : w.heap.size < w1.heap.size := by omega
  have Ra_1 := Lib.hid ra_1
  have r0_ra_1 := cell_of_row _ _ 0 _ _ _ ra_1
  have r1_ra_1 := cell_of_row _ _ 1 _ _ _ ra_1
  have r2_ra_1 := cell_of_row _ _ 2 _ _ _ ra_1
  have r3_ra_1 := cell_of_row _ _ 3 _ _ _ ra_1
  have r4_ra_1 := cell_of_row _ _ 4 _ _ _ ra_1
  have r5_ra_1 := cell_of_row _ _ 5 _ _ _ ra_1
  have f0_ra_1 := frozen_of_row _ _ 0 _ _ ra_1
  have f1_ra_1 := frozen_of_row _ _ 1 _ _ ra_1
  have f2_ra_1 := frozen_of_row _ _ 2 _ _ ra_1
  have f3_ra_1 := frozen_of_row _ _ 3 _ _ ra_1
  have f4_ra_1 := frozen_of_row _ _ 4 _ _ ra_1
  have f5_ra_1 := frozen_of_row _ _ 5 _ _ ra_1
  simp at r0_ra_1 r1_ra_1 r2_ra_1 r3_ra_1 r4_ra_1 r5_ra_1
  clear ra_1
  go_wp2_with fail
  go_cut [3] (fun z wx => ∃ t, z = .string t ∧ t.size = 10 ∧ Hid (t = packF ttl proto id body.size) ∧ Below w1.heap.size w1 wx)
  case first =>
    first | go_region_held3 (fun w' => (∀ b' o, b' < (w1).heap.size → w'.cell? ⟨b', o, none⟩ = (w1).cell? ⟨b', o, none⟩) ∧ Below (w1).heap.size (w1) w') (first | with_reducible assumption | (with_reducible apply rg_keep; rotate_left; with_reducible assumption; with_reducible assumption) | with_reducible exact rg_start _ | with_reducible exact rg_alloc (KeptS.out (by with_reducible assumption)) _ | with_reducible exact rg_alloc (by with_reducible assumption) _ | with_reducible exact rg_start_alloc _ _ | ((repeat (with_reducible refine rg_set ?_ _ (by first | exact Nat.le_refl _ | omega | (simp; done) | (simp; omega)) _)); first | with_reducible exact KeptS.out (by with_reducible assumption) | with_reducible assumption | with_reducible exact rg_alloc (KeptS.out (by with_reducible assumption)) _)) (first | (go_at_call 89; ((with_reducible refine (sPutStr_2 (20 + (body.size : Int)) P6.out _).mono ?_); (rintro e wA ⟨s1, rfl, hzs1, hss1, hbA⟩; have hSA := rg_keepK (by first | with_reducible assumption | exact KeptS.out (by with_reducible assumption)) hbA))) | (go_at_call 89; ((with_reducible refine (sPutStr_2 (id) P5.out _).mono ?_); (rintro e wA ⟨s2, rfl, hzs2, hss2, hbA⟩; have hSA := rg_keepK (by first | with_reducible assumption | exact KeptS.out (by with_reducible assumption)) hbA))) | (go_at_call 89; ((with_reducible refine (sPutStr_1 (ttl) P3.out _).mono ?_); (rintro e wA ⟨s3, rfl, hzs3, hss3, hbA⟩; have hSA := rg_keepK (by first | with_reducible assumption | exact KeptS.out (by with_reducible assumption)) hbA))) | (go_at_call 89; ((with_reducible refine (sPutStr_1 (proto) P4.out _).mono ?_); (rintro e wA ⟨s4, rfl, hzs4, hss4, hbA⟩; have hSA := rg_keepK (by first | with_reducible assumption | exact KeptS.out (by with_reducible assumption)) hbA)))) | fail
    all_goals (go_wp2_with fail; go_meet; exact ⟨_, rfl, by simp only [ByteArray.size_append, hzs1, hzs2, hzs3, hzs4]; rfl, by rw [hss1.out, hss2.out, hss3.out, hss4.out]; rfl, (by assumption : _ ∧ Below w1.heap.size w1 wA).2⟩)
  case rest =>
  obtain ⟨tF, rfl, hFz, hF, hb2⟩ := hcut
  rename World => w2
  have hz2 := hb2.size
  (try simp at hz2)
  have ra_2 := (hb2.block _ (by first | omega | (simp; done) | (simp; omega))).trans Ra_1.out
  have hw2 : Below w.heap.size w w2 := (by repeat (first | with_reducible exact Below.refl _ _ | with_reducible assumption | with_reducible refine Below.drew ?_ | with_reducible refine Below.alloc ?_ (by first | exact Nat.le_refl _ | omega | (simp; done) | (simp; omega)) _ | with_reducible refine Below.setCell ?_ (by first | exact Nat.le_refl _ | omega | (simp; done) | (simp; omega)) _ | (with_reducible refine ext_trans ?_ (by with_reducible assumption))))
  have lRa_2 : w.heap.size < w2.heap.size := by omega
  have Ra_2 := Lib.hid ra_2
  have r0_ra_2 := cell_of_row _ _ 0 _ _ _ ra_2
  have r1_ra_2 := cell_of_row _ _ 1 _ _ _ ra_2
  have r2_ra_2 := cell_of_row _ _ 2 _ _ _ ra_2
  have r3_ra_2 := cell_of_row _ _ 3 _ _ _ ra_2
  have r4_ra_2 := cell_of_row _ _ 4 _ _ _ ra_2
  have r5_ra_2 := cell_of_row _ _ 5 _ _ _ ra_2
  have f0_ra_2 := frozen_of_row _ _ 0 _ _ ra_2
  have f1_ra_2 := frozen_of_row _ _ 1 _ _ ra_2
  have f2_ra_2 := frozen_of_row _ _ 2 _ _ ra_2
  have f3_ra_2 := frozen_of_row _ _ 3 _ _ ra_2
  have f4_ra_2 := frozen_of_row _ _ 4 _ _ ra_2
  have f5_ra_2 := frozen_of_row _ _ 5 _ _ ra_2
  simp at r0_ra_2 r1_ra_2 r2_ra_2 r3_ra_2 r4_ra_2 r5_ra_2
  clear ra_2
  clear r0_ra_1 f0_ra_1 r1_ra_1 f1_ra_1 r2_ra_1 f2_ra_1 r3_ra_1 f3_ra_1 r4_ra_1 f4_ra_1 r5_ra_1 f5_ra_1
  go_wp2_with fail
  go_cut [4] (fun z wx => ∃ t, z = .string t ∧ t.size = 8 ∧ Hid (t = packE src dst) ∧ Below w2.heap.size w2 wx)
  case first =>
    first | go_region_held3 (fun w' => (∀ b' o, b' < (w2).heap.size → w'.cell? ⟨b', o, none⟩ = (w2).cell? ⟨b', o, none⟩) ∧ Below (w2).heap.size (w2) w') (first | with_reducible assumption | (with_reducible apply rg_keep; rotate_left; with_reducible assumption; with_reducible assumption) | with_reducible exact rg_start _ | with_reducible exact rg_alloc (KeptS.out (by with_reducible assumption)) _ | with_reducible exact rg_alloc (by with_reducible assumption) _ | with_reducible exact rg_start_alloc _ _ | ((repeat (with_reducible refine rg_set ?_ _ (by first | exact Nat.le_refl _ | omega | (simp; done) | (simp; omega)) _)); first | with_reducible exact KeptS.out (by with_reducible assumption) | with_reducible assumption | with_reducible exact rg_alloc (KeptS.out (by with_reducible assumption)) _)) (first | (go_at_call 89; ((with_reducible refine (sPutStr_4 (src) P1.out _).mono ?_); (rintro e wA ⟨s1, rfl, hzs1, hss1, hbA⟩; have hSA := rg_keepK (by first | with_reducible assumption | exact KeptS.out (by with_reducible assumption)) hbA))) | (go_at_call 89; ((with_reducible refine (sPutStr_4 (dst) P2.out _).mono ?_); (rintro e wA ⟨s2, rfl, hzs2, hss2, hbA⟩; have hSA := rg_keepK (by first | with_reducible assumption | exact KeptS.out (by with_reducible assumption)) hbA)))) | fail
    all_goals (go_wp2_with fail; go_meet; exact ⟨_, rfl, by simp only [ByteArray.size_append, hzs1, hzs2], by rw [hss1.out, hss2.out]; rfl, (by assumption : _ ∧ Below w2.heap.size w2 wA).2⟩)
  case rest =>
  obtain ⟨tE, rfl, hEz, hE, hb3⟩ := hcut
  rename World => w3
  have hz3 := hb3.size
  (try simp at hz3)
  have ra_3 := (hb3.block _ (by first | omega | (simp; done) | (simp; omega))).trans Ra_2.out
  have hw3 : Below w.heap.size w w3 := (by repeat (first | with_reducible exact Below.refl _ _ | with_reducible assumption | with_reducible refine Below.drew ?_ | with_reducible refine Below.alloc ?_ (by first | exact Nat.le_refl _ | omega | (simp; done) | (simp; omega)) _ | with_reducible refine Below.setCell ?_ (by first | exact Nat.le_refl _ | omega | (simp; done) | (simp; omega)) _ | (with_reducible refine ext_trans ?_ (by with_reducible assumption))))
  have lRa_3 : w.heap.size < w3.heap.size := by omega
  have Ra_3 := Lib.hid ra_3
  have r0_ra_3 := cell_of_row _ _ 0 _ _ _ ra_3
  have r1_ra_3 := cell_of_row _ _ 1 _ _ _ ra_3
  have r2_ra_3 := cell_of_row _ _ 2 _ _ _ ra_3
  have r3_ra_3 := cell_of_row _ _ 3 _ _ _ ra_3
  have r4_ra_3 := cell_of_row _ _ 4 _ _ _ ra_3
  have r5_ra_3 := cell_of_row _ _ 5 _ _ _ ra_3
  have f0_ra_3 := frozen_of_row _ _ 0 _ _ ra_3
  have f1_ra_3 := frozen_of_row _ _ 1 _ _ ra_3
  have f2_ra_3 := frozen_of_row _ _ 2 _ _ ra_3
  have f3_ra_3 := frozen_of_row _ _ 3 _ _ ra_3
  have f4_ra_3 := frozen_of_row _ _ 4 _ _ ra_3
  have f5_ra_3 := frozen_of_row _ _ 5 _ _ ra_3
  simp at r0_ra_3 r1_ra_3 r2_ra_3 r3_ra_3 r4_ra_3 r5_ra_3
  clear ra_3
  clear r0_ra_2 f0_ra_2 r1_ra_2 f1_ra_2 r2_ra_2 f2_ra_2 r3_ra_2 f3_ra_2 r4_ra_2 f4_ra_2 r5_ra_2 f5_ra_2
  have ys := fun W => sSumOf_any (tF ++ tE) (by simp only [ByteArray.size_append, hFz, hEz]; decide) W
  obtain ⟨S, hS⟩ : ∃ S, sumR (tF ++ tE).data.toList = S := ⟨_, rfl⟩
  have hSb := sumR_bd (tF ++ tE).data.toList
  rw [hS] at ys hSb
  have YS := Lib.hid ys
  have P7 : Hid (putB S 2 = true) := putB_2 (by omega) (by omega)
  have HS := Lib.hid hS
  clear ys hS
  go_wp2_with fail
  go_cut [2] (fun z wx => ∃ t, z = .string t ∧ Hid (t = packS src dst ttl proto id body) ∧ Below w3.heap.size w3 wx)
  case first =>
    first | go_region_held3 (fun w' => (∀ b' o, b' < (w3).heap.size → w'.cell? ⟨b', o, none⟩ = (w3).cell? ⟨b', o, none⟩) ∧ Below (w3).heap.size (w3) w') (first | with_reducible assumption | (with_reducible apply rg_keep; rotate_left; with_reducible assumption; with_reducible assumption) | with_reducible exact rg_start _ | with_reducible exact rg_alloc (KeptS.out (by with_reducible assumption)) _ | with_reducible exact rg_alloc (by with_reducible assumption) _ | with_reducible exact rg_start_alloc _ _ | ((repeat (with_reducible refine rg_set ?_ _ (by first | exact Nat.le_refl _ | omega | (simp; done) | (simp; omega)) _)); first | with_reducible exact KeptS.out (by with_reducible assumption) | with_reducible assumption | with_reducible exact rg_alloc (KeptS.out (by with_reducible assumption)) _)) (first | (go_at_call 90; ((with_reducible refine (YS.out _).mono ?_); rintro e w' ⟨rfl, rfl⟩)) | (go_at_call 89; ((with_reducible refine (sPutStr_2 (S) P7.out _).mono ?_); (rintro e wA ⟨s1, rfl, hzs1, hss1, hbA⟩; have hSA := rg_keepK (by first | with_reducible assumption | exact KeptS.out (by with_reducible assumption)) hbA)))) | fail
    all_goals (go_wp2_with fail; go_meet; exact ⟨_, rfl, by rw [HR.out, hss1.out, ← hF.out, ← hE.out, HS.out]; rfl, (by assumption : _ ∧ Below w3.heap.size w3 wA).2⟩)
  case rest =>
  obtain ⟨t, rfl, ht, hb4⟩ := hcut
  rename World => w4
  have hz4 := hb4.size
  (try simp at hz4)
  have ra_4 := (hb4.block _ (by first | omega | (simp; done) | (simp; omega))).trans Ra_3.out
  have hw4 : Below w.heap.size w w4 := (by repeat (first | with_reducible exact Below.refl _ _ | with_reducible assumption | with_reducible refine Below.drew ?_ | with_reducible refine Below.alloc ?_ (by first | exact Nat.le_refl _ | omega | (simp; done) | (simp; omega)) _ | with_reducible refine Below.setCell ?_ (by first | exact Nat.le_refl _ | omega | (simp; done) | (simp; omega)) _ | (with_reducible refine ext_trans ?_ (by with_reducible assumption))))
  have lRa_4 : w.heap.size < w4.heap.size := by omega
  have Ra_4 := Lib.hid ra_4
  have r0_ra_4 := cell_of_row _ _ 0 _ _ _ ra_4
  have r1_ra_4 := cell_of_row _ _ 1 _ _ _ ra_4
  have r2_ra_4 := cell_of_row _ _ 2 _ _ _ ra_4
  have r3_ra_4 := cell_of_row _ _ 3 _ _ _ ra_4
  have r4_ra_4 := cell_of_row _ _ 4 _ _ _ ra_4
  have r5_ra_4 := cell_of_row _ _ 5 _ _ _ ra_4
  have f0_ra_4 := frozen_of_row _ _ 0 _ _ ra_4
  have f1_ra_4 := frozen_of_row _ _ 1 _ _ ra_4
  have f2_ra_4 := frozen_of_row _ _ 2 _ _ ra_4
  have f3_ra_4 := frozen_of_row _ _ 3 _ _ ra_4
  have f4_ra_4 := frozen_of_row _ _ 4 _ _ ra_4
  have f5_ra_4 := frozen_of_row _ _ 5 _ _ ra_4
  simp at r0_ra_4 r1_ra_4 r2_ra_4 r3_ra_4 r4_ra_4 r5_ra_4
  clear ra_4
  clear r0_ra_3 f0_ra_3 r1_ra_3 f1_ra_3 r2_ra_3 f2_ra_3 r3_ra_3 f3_ra_3 r4_ra_3 f4_ra_3 r5_ra_3 f5_ra_3
  go_wp2_with fail
  go_ret
  exact ⟨by rw [ht.out]; rfl, hw4⟩
end Go.Proofs.Yteaniiponikpjaa
