/-
  No cell of these rows narrows 'for every input' (looked for: loops, veiled, ifaces, maps, wideKeys, modest, calm, conditions, laid).
  DERIVED. THE GIVEN ROWS OF THIS SEAT. 5 by the template 'for every input the law returns true; each argument reads behind the call as it read before'; 0 by the template 'total and deterministic' (their statements: YtgejnppfodpiiaaTotals.lean).
  GIVEN WITH THE SEED: the statements are not yours to turn. If you find one false, say at which input.
  Laid BY PROGRAM, IN A SANDBOX (cutbox-rows.mjs): the forced cells as the released guide's own fill.sh prints them over the translation 4d6e688a207c5c32… (all of the seat's roots in one cut). By AI agents, Wed Nov 11 2026. No macro, syntax, notation, axiom, sorry.
-/
import Derived.Test.YtgejnppfodpiiaaChecked
import GoSem.Claim
import GoSem.ClaimJoined
import GoSem.ClaimMapViews
import Derived.JoinedTies
import Derived.KernelRfl
namespace Go.Proofs.Ytgejnppfodpiiaa
/- THE CELL 'sum', in the pinned program and in every row, IS THE sha256 OF THE DUMP (.gsa) THAT YtgejnppfodpiiaaProg.lean LOADS. Nothing in Lean hashes anything: it is a label: what it is worth is what the hold of that sum in a sandbox is worth. -/
noncomputable def Try.pinned : Pinned := { name := "ytgejnppfodpiiaa", sum := "4d6e688a207c5c32903bd2e9f39eaf7ba934a01e2bd6fe9e5cd96577713ade4e", checked := Try.checked }
namespace Rows
def none {H : Type} : Left H := { results := [], args := [] }

/-- 'laws.FnExactReceiverNew': WHATEVER THE INPUT: true; the input reads as it did. -/
def fnExactReceiverNewSpec : ChangeSpec := { name := "fnExactReceiverNew", fn := fun _ => fun
  | [d] => { results := [.lit (.bool true)], args := [d] }
  | _ => none }
def fnExactReceiverNewRow : OpenClaim := { program := "ytgejnppfodpiiaa", sum := "4d6e688a207c5c32903bd2e9f39eaf7ba934a01e2bd6fe9e5cd96577713ade4e", func := "loop.example/g00504/laws.FnExactReceiverNew", spec := "fnExactReceiverNew", apart := false }
def FnExactReceiverNewSaid : Prop := fnExactReceiverNewRow.holds Try.pinned (OpenSpec.ofChange fnExactReceiverNewSpec)

/-- ITS FALSE NEIGHBOUR: 'it returns false'. Refute it at one input. -/
def fnExactReceiverNewWrong : ChangeSpec := { name := "fnExactReceiverNew", fn := fun _ => fun
  | [d] => { results := [.lit (.bool false)], args := [d] }
  | _ => none }
def FnExactReceiverNewWrongFalsely : Prop := fnExactReceiverNewRow.holds Try.pinned (OpenSpec.ofChange fnExactReceiverNewWrong)

/-- 'laws.FnExactWindowOf': WHATEVER THE INPUT: true; the input reads as it did. -/
def fnExactWindowOfSpec : ChangeSpec := { name := "fnExactWindowOf", fn := fun _ => fun
  | [d] => { results := [.lit (.bool true)], args := [d] }
  | _ => none }
def fnExactWindowOfRow : OpenClaim := { program := "ytgejnppfodpiiaa", sum := "4d6e688a207c5c32903bd2e9f39eaf7ba934a01e2bd6fe9e5cd96577713ade4e", func := "loop.example/g00504/laws.FnExactWindowOf", spec := "fnExactWindowOf", apart := false }
def FnExactWindowOfSaid : Prop := fnExactWindowOfRow.holds Try.pinned (OpenSpec.ofChange fnExactWindowOfSpec)

/-- ITS FALSE NEIGHBOUR: 'it returns false'. Refute it at one input. -/
def fnExactWindowOfWrong : ChangeSpec := { name := "fnExactWindowOf", fn := fun _ => fun
  | [d] => { results := [.lit (.bool false)], args := [d] }
  | _ => none }
def FnExactWindowOfWrongFalsely : Prop := fnExactWindowOfRow.holds Try.pinned (OpenSpec.ofChange fnExactWindowOfWrong)

/-- 'laws.FnExactSameReceiver': WHATEVER THE INPUT: true; the input reads as it did. -/
def fnExactSameReceiverSpec : ChangeSpec := { name := "fnExactSameReceiver", fn := fun _ => fun
  | [d1, d2] => { results := [.lit (.bool true)], args := [d1, d2] }
  | _ => none }
def fnExactSameReceiverRow : OpenClaim := { program := "ytgejnppfodpiiaa", sum := "4d6e688a207c5c32903bd2e9f39eaf7ba934a01e2bd6fe9e5cd96577713ade4e", func := "loop.example/g00504/laws.FnExactSameReceiver", spec := "fnExactSameReceiver", apart := false }
def FnExactSameReceiverSaid : Prop := fnExactSameReceiverRow.holds Try.pinned (OpenSpec.ofChange fnExactSameReceiverSpec)

/-- ITS FALSE NEIGHBOUR: 'it returns false'. Refute it at one input. -/
def fnExactSameReceiverWrong : ChangeSpec := { name := "fnExactSameReceiver", fn := fun _ => fun
  | [d1, d2] => { results := [.lit (.bool false)], args := [d1, d2] }
  | _ => none }
def FnExactSameReceiverWrongFalsely : Prop := fnExactSameReceiverRow.holds Try.pinned (OpenSpec.ofChange fnExactSameReceiverWrong)

/-- 'laws.FnExactReceiverOk': WHATEVER THE INPUT: true; the input reads as it did. -/
def fnExactReceiverOkSpec : ChangeSpec := { name := "fnExactReceiverOk", fn := fun _ => fun
  | [d] => { results := [.lit (.bool true)], args := [d] }
  | _ => none }
def fnExactReceiverOkRow : OpenClaim := { program := "ytgejnppfodpiiaa", sum := "4d6e688a207c5c32903bd2e9f39eaf7ba934a01e2bd6fe9e5cd96577713ade4e", func := "loop.example/g00504/laws.FnExactReceiverOk", spec := "fnExactReceiverOk", apart := false }
def FnExactReceiverOkSaid : Prop := fnExactReceiverOkRow.holds Try.pinned (OpenSpec.ofChange fnExactReceiverOkSpec)

/-- ITS FALSE NEIGHBOUR: 'it returns false'. Refute it at one input. -/
def fnExactReceiverOkWrong : ChangeSpec := { name := "fnExactReceiverOk", fn := fun _ => fun
  | [d] => { results := [.lit (.bool false)], args := [d] }
  | _ => none }
def FnExactReceiverOkWrongFalsely : Prop := fnExactReceiverOkRow.holds Try.pinned (OpenSpec.ofChange fnExactReceiverOkWrong)

/-- 'laws.FnExactTakenIn': WHATEVER THE INPUT: true; the input reads as it did. -/
def fnExactTakenInSpec : ChangeSpec := { name := "fnExactTakenIn", fn := fun _ => fun
  | [d1, d2] => { results := [.lit (.bool true)], args := [d1, d2] }
  | _ => none }
def fnExactTakenInRow : OpenClaim := { program := "ytgejnppfodpiiaa", sum := "4d6e688a207c5c32903bd2e9f39eaf7ba934a01e2bd6fe9e5cd96577713ade4e", func := "loop.example/g00504/laws.FnExactTakenIn", spec := "fnExactTakenIn", apart := false }
def FnExactTakenInSaid : Prop := fnExactTakenInRow.holds Try.pinned (OpenSpec.ofChange fnExactTakenInSpec)

/-- ITS FALSE NEIGHBOUR: 'it returns false'. Refute it at one input. -/
def fnExactTakenInWrong : ChangeSpec := { name := "fnExactTakenIn", fn := fun _ => fun
  | [d1, d2] => { results := [.lit (.bool false)], args := [d1, d2] }
  | _ => none }
def FnExactTakenInWrongFalsely : Prop := fnExactTakenInRow.holds Try.pinned (OpenSpec.ofChange fnExactTakenInWrong)

/- THE SECOND FORM. 'bulk': how many values and letters a reading holds, each counted each time it is reached (what is shared counts as often as it is met; a slice's spare places count too). A statement '..UptoSaid' is the law's where the arguments, and the package variables that the reading takes, are together of bulk at most 1048576: NARROWER than '..Said'. Prove '..Said' where nothing that the law and all that it calls make is longer than what came in: it says more and counts as full. Else prove '..UptoSaid'. A law counts once. -/
mutual
def uptoBulk {H : Type} : DataW H → Nat
  | .lit (.string bytes) => bytes.length + 1
  | .lit _ => 1
  | .nil => 1
  | .ptr d => uptoBulk d + 1
  | .slice elems spare => uptoBulkAll elems + uptoBulkAll spare + 1
  | .agg parts => uptoBulkAll parts + 1
  | .iface _ d => uptoBulk d + 1
  | .map entries => uptoBulkEntries entries + 1
  | .held _ => 1
def uptoBulkAll {H : Type} : List (DataW H) → Nat
  | [] => 0
  | d :: r => uptoBulk d + uptoBulkAll r
def uptoBulkEntries {H : Type} : List (Lit × DataW H) → Nat
  | [] => 0
  | x :: r => uptoBulkEntry x + uptoBulkEntries r
def uptoBulkEntry {H : Type} : Lit × DataW H → Nat
  | (.string bytes, d) => bytes.length + uptoBulk d + 1
  | (_, d) => uptoBulk d + 1
 end
def uptoSmall : (H : Type) → List (DataW H) → Bool := fun _ ds => decide (uptoBulkAll ds ≤ 1048576)
def OpenSpec.upto (s : _root_.Go.ChangeSpec) : _root_.Go.OpenSpec := { _root_.Go.OpenSpec.ofChange s with cond := some uptoSmall }

/-- 'laws.FnExactReceiverNew', WHERE WHAT IT READS IS OF BULK AT MOST 1048576: true; the input reads as it did. -/
def fnExactReceiverNewUptoRow : OpenClaim := { program := "ytgejnppfodpiiaa", sum := "4d6e688a207c5c32903bd2e9f39eaf7ba934a01e2bd6fe9e5cd96577713ade4e", func := "loop.example/g00504/laws.FnExactReceiverNew", spec := "fnExactReceiverNew", apart := false, narrowed := true }
def FnExactReceiverNewUptoSaid : Prop := fnExactReceiverNewUptoRow.holds Try.pinned (OpenSpec.upto fnExactReceiverNewSpec)

/-- 'laws.FnExactWindowOf', WHERE WHAT IT READS IS OF BULK AT MOST 1048576: true; the input reads as it did. -/
def fnExactWindowOfUptoRow : OpenClaim := { program := "ytgejnppfodpiiaa", sum := "4d6e688a207c5c32903bd2e9f39eaf7ba934a01e2bd6fe9e5cd96577713ade4e", func := "loop.example/g00504/laws.FnExactWindowOf", spec := "fnExactWindowOf", apart := false, narrowed := true }
def FnExactWindowOfUptoSaid : Prop := fnExactWindowOfUptoRow.holds Try.pinned (OpenSpec.upto fnExactWindowOfSpec)

/-- 'laws.FnExactSameReceiver', WHERE WHAT IT READS IS OF BULK AT MOST 1048576: true; the input reads as it did. -/
def fnExactSameReceiverUptoRow : OpenClaim := { program := "ytgejnppfodpiiaa", sum := "4d6e688a207c5c32903bd2e9f39eaf7ba934a01e2bd6fe9e5cd96577713ade4e", func := "loop.example/g00504/laws.FnExactSameReceiver", spec := "fnExactSameReceiver", apart := false, narrowed := true }
def FnExactSameReceiverUptoSaid : Prop := fnExactSameReceiverUptoRow.holds Try.pinned (OpenSpec.upto fnExactSameReceiverSpec)

/-- 'laws.FnExactReceiverOk', WHERE WHAT IT READS IS OF BULK AT MOST 1048576: true; the input reads as it did. -/
def fnExactReceiverOkUptoRow : OpenClaim := { program := "ytgejnppfodpiiaa", sum := "4d6e688a207c5c32903bd2e9f39eaf7ba934a01e2bd6fe9e5cd96577713ade4e", func := "loop.example/g00504/laws.FnExactReceiverOk", spec := "fnExactReceiverOk", apart := false, narrowed := true }
def FnExactReceiverOkUptoSaid : Prop := fnExactReceiverOkUptoRow.holds Try.pinned (OpenSpec.upto fnExactReceiverOkSpec)

/-- 'laws.FnExactTakenIn', WHERE WHAT IT READS IS OF BULK AT MOST 1048576: true; the input reads as it did. -/
def fnExactTakenInUptoRow : OpenClaim := { program := "ytgejnppfodpiiaa", sum := "4d6e688a207c5c32903bd2e9f39eaf7ba934a01e2bd6fe9e5cd96577713ade4e", func := "loop.example/g00504/laws.FnExactTakenIn", spec := "fnExactTakenIn", apart := false, narrowed := true }
def FnExactTakenInUptoSaid : Prop := fnExactTakenInUptoRow.holds Try.pinned (OpenSpec.upto fnExactTakenInSpec)

end Rows
end Go.Proofs.Ytgejnppfodpiiaa
