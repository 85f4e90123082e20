/-
  Plain words for the law on LinkIn: the forms of what was read, the length of the list.
-/
import Derived.Test.YteaniiponikpjaaLns
namespace Go.Proofs.Yteaniiponikpjaa
set_option maxRecDepth 100000
open Go.RowKit

theorem frR_form (s : ByteArray) (hz : s.size ≤ 1048576) : ∃ (f1 f2 f3 : Int) (f4 : ByteArray), frR s = .agg #[.int .i64 f1, .int .i64 f2, .int .i64 f3, .string f4] ∧ f4.size ≤ 1048576 := by
  unfold frR
  split
  · exact ⟨_, _, _, _, rfl, by rw [ByteArray.size_extract]; omega⟩
  · exact ⟨_, _, _, _, rfl, by decide⟩
theorem arR_form (s : ByteArray) : ∃ (k1 k2 k3 k4 k5 : Int), arR s = .agg #[.int .i64 k1, .int .i64 k2, .int .i64 k3, .int .i64 k4, .int .i64 k5] := by
  unfold arR
  split
  · exact ⟨_, _, _, _, _, rfl⟩
  · exact ⟨_, _, _, _, _, rfl⟩
theorem pkR_form (s : ByteArray) : ∃ (p1 p2 p3 p4 p5 : Int) (p6 : ByteArray), pkR s = .agg #[.int .i64 p1, .int .i64 p2, .int .i64 p3, .int .i64 p4, .int .i64 p5, .string p6] := by
  unfold pkR
  split
  · exact ⟨_, _, _, _, _, _, rfl⟩
  · exact ⟨_, _, _, _, _, _, rfl⟩
theorem learnedR_bd (l : List REntry) (ip hw : Int) (h : l.length ≤ 1048576) : (learnedR l ip hw).length ≤ 1048576 := by
  unfold learnedR
  split
  · rename_i hc
    have h4 : l.length ≤ 4 := by
      simp only [cacheB, Bool.and_eq_true, decide_eq_true_eq] at hc
      exact hc.1.1
    have hr : (roomR l).length ≤ 4 := by
      unfold roomR
      split
      · rw [List.length_append, List.length_take, List.length_drop]; omega
      · exact h4
    split
    · rw [List.length_append, List.length_singleton]; omega
    · rw [List.length_set]; exact h
  · exact h
section
variable {x : RLnk} {B BA : Bool} {f1 f2 f3 k1 k2 k3 k5 pc p1 p2 p4 : Int} {pk : Value}
theorem linkRF_len (h : x.ca.length ≤ 1048576) : (linkRF x B f1 f2 f3 BA k1 k2 k3 k5 pc p1 p2 p4 pk).1.length ≤ 1048576 := by
  unfold linkRF
  repeat (first | split | exact h | exact learnedR_bd _ _ _ h)
theorem linkRF_pk (h : ∃ (b1 b2 b3 b4 b5 : Int) (b6 : ByteArray), pk = .agg #[.int .i64 b1, .int .i64 b2, .int .i64 b3, .int .i64 b4, .int .i64 b5, .string b6]) :
    ∃ (b1 b2 b3 b4 b5 : Int) (b6 : ByteArray), (linkRF x B f1 f2 f3 BA k1 k2 k3 k5 pc p1 p2 p4 pk).2.2.1 = .agg #[.int .i64 b1, .int .i64 b2, .int .i64 b3, .int .i64 b4, .int .i64 b5, .string b6] := by
  unfold linkRF
  repeat (first | split | exact h | exact ⟨0, 0, 0, 0, 0, ⟨#[]⟩, rfl⟩)
end
theorem eqPacket_same (b1 b2 b3 b4 b5 : Int) (b6 : ByteArray) (w : World) :
    Calls Try.prog 44 #[.agg #[.int .i64 b1, .int .i64 b2, .int .i64 b3, .int .i64 b4, .int .i64 b5, .string b6], .agg #[.int .i64 b1, .int .i64 b2, .int .i64 b3, .int .i64 b4, .int .i64 b5, .string b6]] w fun e w' => e = .returned (.bool true) ∧ Below w.heap.size w w' := by
  go_enter Try.func44, Try.ntmps44
  go_wp2_with fail
  go_ret
  exact ⟨rfl, (by repeat (first | with_reducible exact Below.refl _ _ | with_reducible assumption | with_reducible refine Below.drew ?_ | with_reducible refine Below.alloc ?_ (by first | exact Nat.le_refl _ | omega | (simp; done) | (simp; omega)) _ | with_reducible refine Below.setCell ?_ (by first | exact Nat.le_refl _ | omega | (simp; done) | (simp; omega)) _ | (with_reducible refine ext_trans ?_ (by with_reducible assumption))))⟩
end Go.Proofs.Yteaniiponikpjaa
