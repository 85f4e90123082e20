/-
  Contracts of the functions that draw numbers out of small tables.
-/
import Derived.Test.YteaniiponikpjaaCur
namespace Go.Proofs.Yteaniiponikpjaa
open Go.RowKit

theorem gcell {W w1 : World} {g : Nat} (h : W.grownBy w1 (some g)) : (∀ b o, b < W.heap.size → ¬ b = g → w1.cell? ⟨b, o, none⟩ = W.cell? ⟨b, o, none⟩) ∧ (∀ b o, b < W.heap.size → ¬ b = g → w1.frozen? ⟨b, o, none⟩ = W.frozen? ⟨b, o, none⟩) :=
  ⟨fun b o hb hg => World.cell?_of_block (h.block b hb (by simpa using hg)), fun b o hb hg => World.frozen?_of_block (h.block b hb (by simpa using hg))⟩
theorem grow {W w1 : World} {g : Nat} (h : W.grownBy w1 (some g)) {b : Nat} (hb : b < W.heap.size) (hg : ¬ b = g) : w1.heap[b]? = W.heap[b]? := h.block b hb (by simpa using hg)
theorem l1Pick_new {w : World} {B g n : Nat} {t : TypeId} {cs : Array Value} (lo hi : Int) (hcur : Cur w B g) (hn : cs.size = n) (h1 : 1 ≤ n) (h2 : n ≤ 100) (ha : allInts lo hi cs = true) :
    Calls Try.prog 85 #[.pointer (some ⟨g, 0, none⟩), .slice (some ⟨w.heap.size, 0, none⟩) n n] (w.alloc (.cells cs t)) (DrewInt (w.alloc (.cells cs t)) B g lo hi) :=
  l1PickInt_any lo hi (hcur.alloc _) (heap_alloc_new w _) (by have := hcur.lt; omega) hn h1 h2 ha
theorem results_row_tmp1 {P : Program} {fn : Func} {p u : Tmp} {ty : TypeId} (h : fn.results = #[.cell p ty, .tmp u]) (tmps : Array Value) (w : World) (g : Nat) (t : TypeId) (cs : Array Value) (fr : Nat × Nat) (d : TypeDesc)
    (hp : tmps.getD p undef = .pointer (some ⟨g, 0, none⟩)) (hg : w.heap[g]? = some (.cells cs t fr))
    (hu : P.underlying ty = some d) (hd : (match d with | .struct _ | .array _ _ => true | _ => false) = true) (hi : (P.info? ty).map (·.size) = some cs.size) :
    (results fn tmps).run P w = .ok (.tuple #[.agg cs, tmps.getD u undef]) w := by
  have hp' : tmps[p]?.getD undef = .pointer (some ⟨g, 0, none⟩) := by simpa using hp
  simp [results, h, hp', asAddr, run_loadVar_row w g t ty cs fr d hg hu hd hi]
theorem results_row_tmp3 {P : Program} {fn : Func} {p u v x : Tmp} {ty : TypeId} (h : fn.results = #[.cell p ty, .tmp u, .tmp v, .tmp x]) (tmps : Array Value) (w : World) (g : Nat) (t : TypeId) (cs : Array Value) (fr : Nat × Nat) (d : TypeDesc)
    (hp : tmps.getD p undef = .pointer (some ⟨g, 0, none⟩)) (hg : w.heap[g]? = some (.cells cs t fr))
    (hu : P.underlying ty = some d) (hd : (match d with | .struct _ | .array _ _ => true | _ => false) = true) (hi : (P.info? ty).map (·.size) = some cs.size) :
    (results fn tmps).run P w = .ok (.tuple #[.agg cs, tmps.getD u undef, tmps.getD v undef, tmps.getD x undef]) w := by
  have hp' : tmps[p]?.getD undef = .pointer (some ⟨g, 0, none⟩) := by simpa using hp
  simp [results, h, hp', asAddr, run_loadVar_row w g t ty cs fr d hg hu hd hi]
/-- A cursor just made. -/
def NewCur (w : World) (e : Ending) (w' : World) : Prop :=
  ∃ g, e = .returned (.pointer (some ⟨g, 0, none⟩)) ∧ Cur w' w.heap.size g ∧ Below w.heap.size w w'

set_option maxRecDepth 100000 in
theorem l1New_any {w : World} {A : Option Addr} {n c : Nat} (hn : n ≤ maxLen) (hb : Byts w w.heap.size A n) :
    Calls Try.prog 57 #[.slice A n c] w (NewCur w) := by
  have hlen := hn
  unfold maxLen at hlen
  have a30 := and_30bits
  go_enter Try.func57, Try.ntmps57
  go_wp2
  go_loop [3, 4] (fun h i => ∃ (k : Nat) (x : Int), k ≤ n ∧ i = .int .i64 k ∧ h = .int .i64 x) (fun _ i => n - (intOf i).toNat)
  case atStart => exact ⟨0, _, by omega, rfl, rfl⟩
  case round =>
    obtain ⟨k, x, hk, rfl, rfl⟩ := hrel
    have hfin : ∀ (h : Int), NewCur w (.returned (.pointer (some ⟨w.heap.size, 0, none⟩))) (w.alloc (.cells #[.slice A n c, .int .i64 0, .int .i64 h] 104)) := fun h =>
      ⟨w.heap.size, rfl, ⟨A, n, c, 0, h, Nat.le_refl _, by simpa using heap_alloc_new w _, hn, by omega, hb.keep fun b hb => Below.heap_alloc w _ b hb⟩, (Below.refl _ _).alloc (Nat.le_refl _) _⟩
    have HF := Lib.hid hfin
    clear hfin
    by_cases hlt : k < n
    · by_cases h4 : k < 4000
      · obtain ⟨b, off, rfl, hbB, hby⟩ := hb (by omega)
        obtain ⟨u, hu0, hu1, hu⟩ := hby k hlt
        clear hby hb
        go_wp2
        go_round
        case rel => exact ⟨k + 1, _, by omega, by go_num, rfl⟩
        case measure => simp [intOf]; omega
      · clear hb
        go_wp2
        go_ret
        exact HF.out _
    · clear hb
      go_wp2
      go_ret
      exact HF.out _
end Go.Proofs.Yteaniiponikpjaa
