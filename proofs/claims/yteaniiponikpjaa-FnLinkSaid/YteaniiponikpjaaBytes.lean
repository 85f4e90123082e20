/-
  A slice of bytes as a law's argument.
-/
import Derived.Test.YteaniiponikpjaaDraw
namespace Go.Proofs.Yteaniiponikpjaa
set_option maxRecDepth 100000
open Go.ChangeShapes Go.WideShapes Go.ChangeAt Go.RowKit

theorem open_bytes {H : Type} {enc : TypeId × Value → H} {w w' : World} {base : Nat} {r : Reach} {b0 : Nat} {v : Value} {d : DataW H} {p : List MemPlace} (hv : Value.okWide Try.prog w' r b0 42 v) (h : DataW.Trod enc Try.prog w base (fun _ => true) true 42 v d p) :
    ∃ (A : Option Addr) (n c : Nat), v = .slice A n c ∧ n ≤ maxLen ∧ Byts w w.heap.size A n ∧ (n ≤ c ∧ c ≤ maxLen) := by
  obtain ⟨A, n, c, rfl⟩ := okWide_slice Try.underlying42 hv
  obtain ⟨fuel, hf⟩ := h
  suffices h : n ≤ maxLen ∧ (n ≤ c ∧ c ≤ maxLen) ∧ Byts w w.heap.size A n from ⟨A, n, c, rfl, h.1, h.2.2, h.2.1⟩
  rcases open_ints Try.underlying42 Try.underlying5 (by kernel_rfl) hf with ⟨hcs, _⟩ | ⟨a, len, cap, zs, hcs, _, hl, hm, hz, _, hcell, hwf⟩
  · simp [Value.cells] at hcs
    obtain ⟨rfl, rfl, rfl⟩ := hcs
    exact ⟨by unfold maxLen; omega, ⟨by omega, by unfold maxLen; omega⟩, fun h => absurd h (by omega)⟩
  · simp [Value.cells] at hcs
    obtain ⟨rfl, rfl, rfl⟩ := hcs
    refine ⟨by omega, ⟨by omega, by omega⟩, fun hn => ?_⟩
    simp only [if_true] at hz
    obtain ⟨b, off, spot⟩ := a
    have hspot : spot = none := by simpa [Addr.add] using World.cell?_spot (hcell 0 (by omega))
    subst hspot
    have hadd : ∀ k, (⟨b, off, none⟩ : Addr).add k = ⟨b, off + k, none⟩ := fun k => by unfold Addr.add; split <;> simp_all
    refine ⟨b, off, rfl, ?_, fun k hk => ?_⟩
    · have := block_lt_of_cell (hcell 0 (by omega))
      rw [hadd] at this
      exact this
    · have hmem : zs.getD k 0 ∈ zs := by
        rw [List.getD_eq_getElem?_getD, List.getElem?_eq_getElem (by omega)]
        simp
      have hw := hwf _ hmem
      have hb : 0 ≤ zs.getD k 0 ∧ zs.getD k 0 ≤ 255 := by
        generalize zs.getD k 0 = z at hw
        simp [Lit.wf, IntKind.min, IntKind.max, IntKind.signed, IntKind.bits] at hw
        omega
      refine ⟨zs.getD k 0, hb.1, hb.2, ?_⟩
      rw [← hadd]
      exact hcell k (by omega)

theorem Byts.below {w w' : World} {A : Option Addr} {n : Nat} (H : Byts w w.heap.size A n) (hb : Below w.heap.size w w') : Byts w' w'.heap.size A n := fun hn => by
  obtain ⟨b, off, e, hlt, hc⟩ := H hn
  have := hb.size
  refine ⟨b, off, e, by omega, fun k hk => ?_⟩
  obtain ⟨u, h0, h1, hu⟩ := hc k hk
  exact ⟨u, h0, h1, (hb.cell (p := ⟨b, off + k, none⟩) hlt).trans hu⟩

theorem big_any {A : Option Addr} {n c : Nat} (_hn : n ≤ maxLen) (w : World) :
    Calls Try.prog 28 #[.slice A n c] w fun e w' => e = .returned (.bool (decide ((1048576 : Int) < n))) ∧ w = w' := by
  go_enter Try.func28, Try.ntmps28
  go_wp2
  go_ret
  exact ⟨rfl, rfl⟩

/-- A draw out of the code: a number of the machine; everything that lay before is as it was. -/
def DrawnI64 (w : World) (e : Ending) (w' : World) : Prop := ∃ x : Int, e = .returned (.int .i64 x) ∧ I64 x ∧ Below w.heap.size w w'
end Go.Proofs.Yteaniiponikpjaa
