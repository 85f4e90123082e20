/-
  No cell of these rows narrows 'for every input' (looked for: loops, veiled, ifaces, maps, wideKeys, modest, calm, conditions, laid).
  DERIVED. THE GIVEN ROWS OF THIS SEAT. 15 by the template 'for every input the law returns true; each argument reads behind the call as it read before'; 0 by the template 'total and deterministic' (their statements: YteejcabknpdghaaTotals.lean).
  GIVEN WITH THE SEED: the statements are not yours to turn. If you find one false, say at which input.
  Laid BY PROGRAM, IN A SANDBOX (cutbox-rows.mjs): the forced cells as the released guide's own fill.sh prints them over the translation 34f1e1a980e91538… (all of the seat's roots in one cut). By AI agents, Wed Nov 11 2026. No macro, syntax, notation, axiom, sorry.
-/
import Derived.Test.YteejcabknpdghaaChecked
import GoSem.Claim
import GoSem.ClaimJoined
import GoSem.ClaimMapViews
import Derived.JoinedTies
import Derived.KernelRfl
namespace Go.Proofs.Yteejcabknpdghaa
/- THE CELL 'sum', in the pinned program and in every row, IS THE sha256 OF THE DUMP (.gsa) THAT YteejcabknpdghaaProg.lean LOADS. Nothing in Lean hashes anything: it is a label: what it is worth is what the hold of that sum in a sandbox is worth. -/
noncomputable def Try.pinned : Pinned := { name := "yteejcabknpdghaa", sum := "34f1e1a980e91538dc1bd95bef46be1a93633989e8e5108b568daef6c5b61522", checked := Try.checked }
namespace Rows
def none {H : Type} : Left H := { results := [], args := [] }

/-- 'laws.FnExactMssOf': WHATEVER THE INPUT: true; the input reads as it did. -/
def fnExactMssOfSpec : ChangeSpec := { name := "fnExactMssOf", fn := fun _ => fun
  | [d] => { results := [.lit (.bool true)], args := [d] }
  | _ => none }
def fnExactMssOfRow : OpenClaim := { program := "yteejcabknpdghaa", sum := "34f1e1a980e91538dc1bd95bef46be1a93633989e8e5108b568daef6c5b61522", func := "loop.example/g00504/laws.FnExactMssOf", spec := "fnExactMssOf", apart := false }
def FnExactMssOfSaid : Prop := fnExactMssOfRow.holds Try.pinned (OpenSpec.ofChange fnExactMssOfSpec)

/-- ITS FALSE NEIGHBOUR: 'it returns false'. Refute it at one input. -/
def fnExactMssOfWrong : ChangeSpec := { name := "fnExactMssOf", fn := fun _ => fun
  | [d] => { results := [.lit (.bool false)], args := [d] }
  | _ => none }
def FnExactMssOfWrongFalsely : Prop := fnExactMssOfRow.holds Try.pinned (OpenSpec.ofChange fnExactMssOfWrong)

/-- 'laws.FnExactTupleOk': WHATEVER THE INPUT: true; the input reads as it did. -/
def fnExactTupleOkSpec : ChangeSpec := { name := "fnExactTupleOk", fn := fun _ => fun
  | [d] => { results := [.lit (.bool true)], args := [d] }
  | _ => none }
def fnExactTupleOkRow : OpenClaim := { program := "yteejcabknpdghaa", sum := "34f1e1a980e91538dc1bd95bef46be1a93633989e8e5108b568daef6c5b61522", func := "loop.example/g00504/laws.FnExactTupleOk", spec := "fnExactTupleOk", apart := false }
def FnExactTupleOkSaid : Prop := fnExactTupleOkRow.holds Try.pinned (OpenSpec.ofChange fnExactTupleOkSpec)

/-- ITS FALSE NEIGHBOUR: 'it returns false'. Refute it at one input. -/
def fnExactTupleOkWrong : ChangeSpec := { name := "fnExactTupleOk", fn := fun _ => fun
  | [d] => { results := [.lit (.bool false)], args := [d] }
  | _ => none }
def FnExactTupleOkWrongFalsely : Prop := fnExactTupleOkRow.holds Try.pinned (OpenSpec.ofChange fnExactTupleOkWrong)

/-- 'laws.FnExactCookieParts': WHATEVER THE INPUT: true; the input reads as it did. -/
def fnExactCookiePartsSpec : ChangeSpec := { name := "fnExactCookieParts", fn := fun _ => fun
  | [d] => { results := [.lit (.bool true)], args := [d] }
  | _ => none }
def fnExactCookiePartsRow : OpenClaim := { program := "yteejcabknpdghaa", sum := "34f1e1a980e91538dc1bd95bef46be1a93633989e8e5108b568daef6c5b61522", func := "loop.example/g00504/laws.FnExactCookieParts", spec := "fnExactCookieParts", apart := false }
def FnExactCookiePartsSaid : Prop := fnExactCookiePartsRow.holds Try.pinned (OpenSpec.ofChange fnExactCookiePartsSpec)

/-- ITS FALSE NEIGHBOUR: 'it returns false'. Refute it at one input. -/
def fnExactCookiePartsWrong : ChangeSpec := { name := "fnExactCookieParts", fn := fun _ => fun
  | [d] => { results := [.lit (.bool false)], args := [d] }
  | _ => none }
def FnExactCookiePartsWrongFalsely : Prop := fnExactCookiePartsRow.holds Try.pinned (OpenSpec.ofChange fnExactCookiePartsWrong)

/-- 'laws.FnExactStampIn': WHATEVER THE INPUT: true; the input reads as it did. -/
def fnExactStampInSpec : ChangeSpec := { name := "fnExactStampIn", fn := fun _ => fun
  | [d] => { results := [.lit (.bool true)], args := [d] }
  | _ => none }
def fnExactStampInRow : OpenClaim := { program := "yteejcabknpdghaa", sum := "34f1e1a980e91538dc1bd95bef46be1a93633989e8e5108b568daef6c5b61522", func := "loop.example/g00504/laws.FnExactStampIn", spec := "fnExactStampIn", apart := false }
def FnExactStampInSaid : Prop := fnExactStampInRow.holds Try.pinned (OpenSpec.ofChange fnExactStampInSpec)

/-- ITS FALSE NEIGHBOUR: 'it returns false'. Refute it at one input. -/
def fnExactStampInWrong : ChangeSpec := { name := "fnExactStampIn", fn := fun _ => fun
  | [d] => { results := [.lit (.bool false)], args := [d] }
  | _ => none }
def FnExactStampInWrongFalsely : Prop := fnExactStampInRow.holds Try.pinned (OpenSpec.ofChange fnExactStampInWrong)

/-- 'laws.FnExactStampOf': WHATEVER THE INPUT: true; the input reads as it did. -/
def fnExactStampOfSpec : ChangeSpec := { name := "fnExactStampOf", fn := fun _ => fun
  | [d1, d2, d3] => { results := [.lit (.bool true)], args := [d1, d2, d3] }
  | _ => none }
def fnExactStampOfRow : OpenClaim := { program := "yteejcabknpdghaa", sum := "34f1e1a980e91538dc1bd95bef46be1a93633989e8e5108b568daef6c5b61522", func := "loop.example/g00504/laws.FnExactStampOf", spec := "fnExactStampOf", apart := false }
def FnExactStampOfSaid : Prop := fnExactStampOfRow.holds Try.pinned (OpenSpec.ofChange fnExactStampOfSpec)

/-- ITS FALSE NEIGHBOUR: 'it returns false'. Refute it at one input. -/
def fnExactStampOfWrong : ChangeSpec := { name := "fnExactStampOf", fn := fun _ => fun
  | [d1, d2, d3] => { results := [.lit (.bool false)], args := [d1, d2, d3] }
  | _ => none }
def FnExactStampOfWrongFalsely : Prop := fnExactStampOfRow.holds Try.pinned (OpenSpec.ofChange fnExactStampOfWrong)

/-- 'laws.FnExactMssIndex': WHATEVER THE INPUT: true; the input reads as it did. -/
def fnExactMssIndexSpec : ChangeSpec := { name := "fnExactMssIndex", fn := fun _ => fun
  | [d] => { results := [.lit (.bool true)], args := [d] }
  | _ => none }
def fnExactMssIndexRow : OpenClaim := { program := "yteejcabknpdghaa", sum := "34f1e1a980e91538dc1bd95bef46be1a93633989e8e5108b568daef6c5b61522", func := "loop.example/g00504/laws.FnExactMssIndex", spec := "fnExactMssIndex", apart := false }
def FnExactMssIndexSaid : Prop := fnExactMssIndexRow.holds Try.pinned (OpenSpec.ofChange fnExactMssIndexSpec)

/-- ITS FALSE NEIGHBOUR: 'it returns false'. Refute it at one input. -/
def fnExactMssIndexWrong : ChangeSpec := { name := "fnExactMssIndex", fn := fun _ => fun
  | [d] => { results := [.lit (.bool false)], args := [d] }
  | _ => none }
def FnExactMssIndexWrongFalsely : Prop := fnExactMssIndexRow.holds Try.pinned (OpenSpec.ofChange fnExactMssIndexWrong)

/-- 'laws.FnExactTupleOf': WHATEVER THE INPUT: true; the input reads as it did. -/
def fnExactTupleOfSpec : ChangeSpec := { name := "fnExactTupleOf", fn := fun _ => fun
  | [d1, d2] => { results := [.lit (.bool true)], args := [d1, d2] }
  | _ => none }
def fnExactTupleOfRow : OpenClaim := { program := "yteejcabknpdghaa", sum := "34f1e1a980e91538dc1bd95bef46be1a93633989e8e5108b568daef6c5b61522", func := "loop.example/g00504/laws.FnExactTupleOf", spec := "fnExactTupleOf", apart := false }
def FnExactTupleOfSaid : Prop := fnExactTupleOfRow.holds Try.pinned (OpenSpec.ofChange fnExactTupleOfSpec)

/-- ITS FALSE NEIGHBOUR: 'it returns false'. Refute it at one input. -/
def fnExactTupleOfWrong : ChangeSpec := { name := "fnExactTupleOf", fn := fun _ => fun
  | [d1, d2] => { results := [.lit (.bool false)], args := [d1, d2] }
  | _ => none }
def FnExactTupleOfWrongFalsely : Prop := fnExactTupleOfRow.holds Try.pinned (OpenSpec.ofChange fnExactTupleOfWrong)

/-- 'laws.FnExactMacInput': WHATEVER THE INPUT: true; the input reads as it did. -/
def fnExactMacInputSpec : ChangeSpec := { name := "fnExactMacInput", fn := fun _ => fun
  | [d1, d2, d3, d4] => { results := [.lit (.bool true)], args := [d1, d2, d3, d4] }
  | _ => none }
def fnExactMacInputRow : OpenClaim := { program := "yteejcabknpdghaa", sum := "34f1e1a980e91538dc1bd95bef46be1a93633989e8e5108b568daef6c5b61522", func := "loop.example/g00504/laws.FnExactMacInput", spec := "fnExactMacInput", apart := false }
def FnExactMacInputSaid : Prop := fnExactMacInputRow.holds Try.pinned (OpenSpec.ofChange fnExactMacInputSpec)

/-- ITS FALSE NEIGHBOUR: 'it returns false'. Refute it at one input. -/
def fnExactMacInputWrong : ChangeSpec := { name := "fnExactMacInput", fn := fun _ => fun
  | [d1, d2, d3, d4] => { results := [.lit (.bool false)], args := [d1, d2, d3, d4] }
  | _ => none }
def FnExactMacInputWrongFalsely : Prop := fnExactMacInputRow.holds Try.pinned (OpenSpec.ofChange fnExactMacInputWrong)

/-- 'laws.FnMss': WHATEVER THE INPUT: true; the input reads as it did. -/
def fnMssSpec : ChangeSpec := { name := "fnMss", fn := fun _ => fun
  | [d] => { results := [.lit (.bool true)], args := [d] }
  | _ => none }
def fnMssRow : OpenClaim := { program := "yteejcabknpdghaa", sum := "34f1e1a980e91538dc1bd95bef46be1a93633989e8e5108b568daef6c5b61522", func := "loop.example/g00504/laws.FnMss", spec := "fnMss", apart := false }
def FnMssSaid : Prop := fnMssRow.holds Try.pinned (OpenSpec.ofChange fnMssSpec)

/-- ITS FALSE NEIGHBOUR: 'it returns false'. Refute it at one input. -/
def fnMssWrong : ChangeSpec := { name := "fnMss", fn := fun _ => fun
  | [d] => { results := [.lit (.bool false)], args := [d] }
  | _ => none }
def FnMssWrongFalsely : Prop := fnMssRow.holds Try.pinned (OpenSpec.ofChange fnMssWrong)

/-- 'laws.FnCookieParts': WHATEVER THE INPUT: true; the input reads as it did. -/
def fnCookiePartsSpec : ChangeSpec := { name := "fnCookieParts", fn := fun _ => fun
  | [d] => { results := [.lit (.bool true)], args := [d] }
  | _ => none }
def fnCookiePartsRow : OpenClaim := { program := "yteejcabknpdghaa", sum := "34f1e1a980e91538dc1bd95bef46be1a93633989e8e5108b568daef6c5b61522", func := "loop.example/g00504/laws.FnCookieParts", spec := "fnCookieParts", apart := false }
def FnCookiePartsSaid : Prop := fnCookiePartsRow.holds Try.pinned (OpenSpec.ofChange fnCookiePartsSpec)

/-- ITS FALSE NEIGHBOUR: 'it returns false'. Refute it at one input. -/
def fnCookiePartsWrong : ChangeSpec := { name := "fnCookieParts", fn := fun _ => fun
  | [d] => { results := [.lit (.bool false)], args := [d] }
  | _ => none }
def FnCookiePartsWrongFalsely : Prop := fnCookiePartsRow.holds Try.pinned (OpenSpec.ofChange fnCookiePartsWrong)

/-- 'laws.FnExactAnswerOptions': WHATEVER THE INPUT: true; the input reads as it did. -/
def fnExactAnswerOptionsSpec : ChangeSpec := { name := "fnExactAnswerOptions", fn := fun _ => fun
  | [d1, d2] => { results := [.lit (.bool true)], args := [d1, d2] }
  | _ => none }
def fnExactAnswerOptionsRow : OpenClaim := { program := "yteejcabknpdghaa", sum := "34f1e1a980e91538dc1bd95bef46be1a93633989e8e5108b568daef6c5b61522", func := "loop.example/g00504/laws.FnExactAnswerOptions", spec := "fnExactAnswerOptions", apart := false }
def FnExactAnswerOptionsSaid : Prop := fnExactAnswerOptionsRow.holds Try.pinned (OpenSpec.ofChange fnExactAnswerOptionsSpec)

/-- ITS FALSE NEIGHBOUR: 'it returns false'. Refute it at one input. -/
def fnExactAnswerOptionsWrong : ChangeSpec := { name := "fnExactAnswerOptions", fn := fun _ => fun
  | [d1, d2] => { results := [.lit (.bool false)], args := [d1, d2] }
  | _ => none }
def FnExactAnswerOptionsWrongFalsely : Prop := fnExactAnswerOptionsRow.holds Try.pinned (OpenSpec.ofChange fnExactAnswerOptionsWrong)

/-- 'laws.FnExactLearnedOptions': WHATEVER THE INPUT: true; the input reads as it did. -/
def fnExactLearnedOptionsSpec : ChangeSpec := { name := "fnExactLearnedOptions", fn := fun _ => fun
  | [d1, d2] => { results := [.lit (.bool true)], args := [d1, d2] }
  | _ => none }
def fnExactLearnedOptionsRow : OpenClaim := { program := "yteejcabknpdghaa", sum := "34f1e1a980e91538dc1bd95bef46be1a93633989e8e5108b568daef6c5b61522", func := "loop.example/g00504/laws.FnExactLearnedOptions", spec := "fnExactLearnedOptions", apart := false }
def FnExactLearnedOptionsSaid : Prop := fnExactLearnedOptionsRow.holds Try.pinned (OpenSpec.ofChange fnExactLearnedOptionsSpec)

/-- ITS FALSE NEIGHBOUR: 'it returns false'. Refute it at one input. -/
def fnExactLearnedOptionsWrong : ChangeSpec := { name := "fnExactLearnedOptions", fn := fun _ => fun
  | [d1, d2] => { results := [.lit (.bool false)], args := [d1, d2] }
  | _ => none }
def FnExactLearnedOptionsWrongFalsely : Prop := fnExactLearnedOptionsRow.holds Try.pinned (OpenSpec.ofChange fnExactLearnedOptionsWrong)

/-- 'laws.FnStamp': WHATEVER THE INPUT: true; the input reads as it did. -/
def fnStampSpec : ChangeSpec := { name := "fnStamp", fn := fun _ => fun
  | [d] => { results := [.lit (.bool true)], args := [d] }
  | _ => none }
def fnStampRow : OpenClaim := { program := "yteejcabknpdghaa", sum := "34f1e1a980e91538dc1bd95bef46be1a93633989e8e5108b568daef6c5b61522", func := "loop.example/g00504/laws.FnStamp", spec := "fnStamp", apart := false }
def FnStampSaid : Prop := fnStampRow.holds Try.pinned (OpenSpec.ofChange fnStampSpec)

/-- ITS FALSE NEIGHBOUR: 'it returns false'. Refute it at one input. -/
def fnStampWrong : ChangeSpec := { name := "fnStamp", fn := fun _ => fun
  | [d] => { results := [.lit (.bool false)], args := [d] }
  | _ => none }
def FnStampWrongFalsely : Prop := fnStampRow.holds Try.pinned (OpenSpec.ofChange fnStampWrong)

/-- 'laws.FnMacInput': WHATEVER THE INPUT: true; the input reads as it did. -/
def fnMacInputSpec : ChangeSpec := { name := "fnMacInput", fn := fun _ => fun
  | [d] => { results := [.lit (.bool true)], args := [d] }
  | _ => none }
def fnMacInputRow : OpenClaim := { program := "yteejcabknpdghaa", sum := "34f1e1a980e91538dc1bd95bef46be1a93633989e8e5108b568daef6c5b61522", func := "loop.example/g00504/laws.FnMacInput", spec := "fnMacInput", apart := false }
def FnMacInputSaid : Prop := fnMacInputRow.holds Try.pinned (OpenSpec.ofChange fnMacInputSpec)

/-- ITS FALSE NEIGHBOUR: 'it returns false'. Refute it at one input. -/
def fnMacInputWrong : ChangeSpec := { name := "fnMacInput", fn := fun _ => fun
  | [d] => { results := [.lit (.bool false)], args := [d] }
  | _ => none }
def FnMacInputWrongFalsely : Prop := fnMacInputRow.holds Try.pinned (OpenSpec.ofChange fnMacInputWrong)

/-- 'laws.FnLearned': WHATEVER THE INPUT: true; the input reads as it did. -/
def fnLearnedSpec : ChangeSpec := { name := "fnLearned", fn := fun _ => fun
  | [d] => { results := [.lit (.bool true)], args := [d] }
  | _ => none }
def fnLearnedRow : OpenClaim := { program := "yteejcabknpdghaa", sum := "34f1e1a980e91538dc1bd95bef46be1a93633989e8e5108b568daef6c5b61522", func := "loop.example/g00504/laws.FnLearned", spec := "fnLearned", apart := false }
def FnLearnedSaid : Prop := fnLearnedRow.holds Try.pinned (OpenSpec.ofChange fnLearnedSpec)

/-- ITS FALSE NEIGHBOUR: 'it returns false'. Refute it at one input. -/
def fnLearnedWrong : ChangeSpec := { name := "fnLearned", fn := fun _ => fun
  | [d] => { results := [.lit (.bool false)], args := [d] }
  | _ => none }
def FnLearnedWrongFalsely : Prop := fnLearnedRow.holds Try.pinned (OpenSpec.ofChange fnLearnedWrong)

/- THE SECOND FORM. 'bulk': how many values and letters a reading holds, each counted each time it is reached (what is shared counts as often as it is met; a slice's spare places count too). A statement '..UptoSaid' is the law's where the arguments, and the package variables that the reading takes, are together of bulk at most 1048576: NARROWER than '..Said'. Prove '..Said' where nothing that the law and all that it calls make is longer than what came in: it says more and counts as full. Else prove '..UptoSaid'. A law counts once. -/
mutual
def uptoBulk {H : Type} : DataW H → Nat
  | .lit (.string bytes) => bytes.length + 1
  | .lit _ => 1
  | .nil => 1
  | .ptr d => uptoBulk d + 1
  | .slice elems spare => uptoBulkAll elems + uptoBulkAll spare + 1
  | .agg parts => uptoBulkAll parts + 1
  | .iface _ d => uptoBulk d + 1
  | .map entries => uptoBulkEntries entries + 1
  | .held _ => 1
def uptoBulkAll {H : Type} : List (DataW H) → Nat
  | [] => 0
  | d :: r => uptoBulk d + uptoBulkAll r
def uptoBulkEntries {H : Type} : List (Lit × DataW H) → Nat
  | [] => 0
  | x :: r => uptoBulkEntry x + uptoBulkEntries r
def uptoBulkEntry {H : Type} : Lit × DataW H → Nat
  | (.string bytes, d) => bytes.length + uptoBulk d + 1
  | (_, d) => uptoBulk d + 1
 end
def uptoSmall : (H : Type) → List (DataW H) → Bool := fun _ ds => decide (uptoBulkAll ds ≤ 1048576)
def OpenSpec.upto (s : _root_.Go.ChangeSpec) : _root_.Go.OpenSpec := { _root_.Go.OpenSpec.ofChange s with cond := some uptoSmall }

/-- 'laws.FnExactMssOf', WHERE WHAT IT READS IS OF BULK AT MOST 1048576: true; the input reads as it did. -/
def fnExactMssOfUptoRow : OpenClaim := { program := "yteejcabknpdghaa", sum := "34f1e1a980e91538dc1bd95bef46be1a93633989e8e5108b568daef6c5b61522", func := "loop.example/g00504/laws.FnExactMssOf", spec := "fnExactMssOf", apart := false, narrowed := true }
def FnExactMssOfUptoSaid : Prop := fnExactMssOfUptoRow.holds Try.pinned (OpenSpec.upto fnExactMssOfSpec)

/-- 'laws.FnExactTupleOk', WHERE WHAT IT READS IS OF BULK AT MOST 1048576: true; the input reads as it did. -/
def fnExactTupleOkUptoRow : OpenClaim := { program := "yteejcabknpdghaa", sum := "34f1e1a980e91538dc1bd95bef46be1a93633989e8e5108b568daef6c5b61522", func := "loop.example/g00504/laws.FnExactTupleOk", spec := "fnExactTupleOk", apart := false, narrowed := true }
def FnExactTupleOkUptoSaid : Prop := fnExactTupleOkUptoRow.holds Try.pinned (OpenSpec.upto fnExactTupleOkSpec)

/-- 'laws.FnExactCookieParts', WHERE WHAT IT READS IS OF BULK AT MOST 1048576: true; the input reads as it did. -/
def fnExactCookiePartsUptoRow : OpenClaim := { program := "yteejcabknpdghaa", sum := "34f1e1a980e91538dc1bd95bef46be1a93633989e8e5108b568daef6c5b61522", func := "loop.example/g00504/laws.FnExactCookieParts", spec := "fnExactCookieParts", apart := false, narrowed := true }
def FnExactCookiePartsUptoSaid : Prop := fnExactCookiePartsUptoRow.holds Try.pinned (OpenSpec.upto fnExactCookiePartsSpec)

/-- 'laws.FnExactStampIn', WHERE WHAT IT READS IS OF BULK AT MOST 1048576: true; the input reads as it did. -/
def fnExactStampInUptoRow : OpenClaim := { program := "yteejcabknpdghaa", sum := "34f1e1a980e91538dc1bd95bef46be1a93633989e8e5108b568daef6c5b61522", func := "loop.example/g00504/laws.FnExactStampIn", spec := "fnExactStampIn", apart := false, narrowed := true }
def FnExactStampInUptoSaid : Prop := fnExactStampInUptoRow.holds Try.pinned (OpenSpec.upto fnExactStampInSpec)

/-- 'laws.FnExactStampOf', WHERE WHAT IT READS IS OF BULK AT MOST 1048576: true; the input reads as it did. -/
def fnExactStampOfUptoRow : OpenClaim := { program := "yteejcabknpdghaa", sum := "34f1e1a980e91538dc1bd95bef46be1a93633989e8e5108b568daef6c5b61522", func := "loop.example/g00504/laws.FnExactStampOf", spec := "fnExactStampOf", apart := false, narrowed := true }
def FnExactStampOfUptoSaid : Prop := fnExactStampOfUptoRow.holds Try.pinned (OpenSpec.upto fnExactStampOfSpec)

/-- 'laws.FnExactMssIndex', WHERE WHAT IT READS IS OF BULK AT MOST 1048576: true; the input reads as it did. -/
def fnExactMssIndexUptoRow : OpenClaim := { program := "yteejcabknpdghaa", sum := "34f1e1a980e91538dc1bd95bef46be1a93633989e8e5108b568daef6c5b61522", func := "loop.example/g00504/laws.FnExactMssIndex", spec := "fnExactMssIndex", apart := false, narrowed := true }
def FnExactMssIndexUptoSaid : Prop := fnExactMssIndexUptoRow.holds Try.pinned (OpenSpec.upto fnExactMssIndexSpec)

/-- 'laws.FnExactTupleOf', WHERE WHAT IT READS IS OF BULK AT MOST 1048576: true; the input reads as it did. -/
def fnExactTupleOfUptoRow : OpenClaim := { program := "yteejcabknpdghaa", sum := "34f1e1a980e91538dc1bd95bef46be1a93633989e8e5108b568daef6c5b61522", func := "loop.example/g00504/laws.FnExactTupleOf", spec := "fnExactTupleOf", apart := false, narrowed := true }
def FnExactTupleOfUptoSaid : Prop := fnExactTupleOfUptoRow.holds Try.pinned (OpenSpec.upto fnExactTupleOfSpec)

/-- 'laws.FnExactMacInput', WHERE WHAT IT READS IS OF BULK AT MOST 1048576: true; the input reads as it did. -/
def fnExactMacInputUptoRow : OpenClaim := { program := "yteejcabknpdghaa", sum := "34f1e1a980e91538dc1bd95bef46be1a93633989e8e5108b568daef6c5b61522", func := "loop.example/g00504/laws.FnExactMacInput", spec := "fnExactMacInput", apart := false, narrowed := true }
def FnExactMacInputUptoSaid : Prop := fnExactMacInputUptoRow.holds Try.pinned (OpenSpec.upto fnExactMacInputSpec)

/-- 'laws.FnMss', WHERE WHAT IT READS IS OF BULK AT MOST 1048576: true; the input reads as it did. -/
def fnMssUptoRow : OpenClaim := { program := "yteejcabknpdghaa", sum := "34f1e1a980e91538dc1bd95bef46be1a93633989e8e5108b568daef6c5b61522", func := "loop.example/g00504/laws.FnMss", spec := "fnMss", apart := false, narrowed := true }
def FnMssUptoSaid : Prop := fnMssUptoRow.holds Try.pinned (OpenSpec.upto fnMssSpec)

/-- 'laws.FnCookieParts', WHERE WHAT IT READS IS OF BULK AT MOST 1048576: true; the input reads as it did. -/
def fnCookiePartsUptoRow : OpenClaim := { program := "yteejcabknpdghaa", sum := "34f1e1a980e91538dc1bd95bef46be1a93633989e8e5108b568daef6c5b61522", func := "loop.example/g00504/laws.FnCookieParts", spec := "fnCookieParts", apart := false, narrowed := true }
def FnCookiePartsUptoSaid : Prop := fnCookiePartsUptoRow.holds Try.pinned (OpenSpec.upto fnCookiePartsSpec)

/-- 'laws.FnExactAnswerOptions', WHERE WHAT IT READS IS OF BULK AT MOST 1048576: true; the input reads as it did. -/
def fnExactAnswerOptionsUptoRow : OpenClaim := { program := "yteejcabknpdghaa", sum := "34f1e1a980e91538dc1bd95bef46be1a93633989e8e5108b568daef6c5b61522", func := "loop.example/g00504/laws.FnExactAnswerOptions", spec := "fnExactAnswerOptions", apart := false, narrowed := true }
def FnExactAnswerOptionsUptoSaid : Prop := fnExactAnswerOptionsUptoRow.holds Try.pinned (OpenSpec.upto fnExactAnswerOptionsSpec)

/-- 'laws.FnExactLearnedOptions', WHERE WHAT IT READS IS OF BULK AT MOST 1048576: true; the input reads as it did. -/
def fnExactLearnedOptionsUptoRow : OpenClaim := { program := "yteejcabknpdghaa", sum := "34f1e1a980e91538dc1bd95bef46be1a93633989e8e5108b568daef6c5b61522", func := "loop.example/g00504/laws.FnExactLearnedOptions", spec := "fnExactLearnedOptions", apart := false, narrowed := true }
def FnExactLearnedOptionsUptoSaid : Prop := fnExactLearnedOptionsUptoRow.holds Try.pinned (OpenSpec.upto fnExactLearnedOptionsSpec)

/-- 'laws.FnStamp', WHERE WHAT IT READS IS OF BULK AT MOST 1048576: true; the input reads as it did. -/
def fnStampUptoRow : OpenClaim := { program := "yteejcabknpdghaa", sum := "34f1e1a980e91538dc1bd95bef46be1a93633989e8e5108b568daef6c5b61522", func := "loop.example/g00504/laws.FnStamp", spec := "fnStamp", apart := false, narrowed := true }
def FnStampUptoSaid : Prop := fnStampUptoRow.holds Try.pinned (OpenSpec.upto fnStampSpec)

/-- 'laws.FnMacInput', WHERE WHAT IT READS IS OF BULK AT MOST 1048576: true; the input reads as it did. -/
def fnMacInputUptoRow : OpenClaim := { program := "yteejcabknpdghaa", sum := "34f1e1a980e91538dc1bd95bef46be1a93633989e8e5108b568daef6c5b61522", func := "loop.example/g00504/laws.FnMacInput", spec := "fnMacInput", apart := false, narrowed := true }
def FnMacInputUptoSaid : Prop := fnMacInputUptoRow.holds Try.pinned (OpenSpec.upto fnMacInputSpec)

/-- 'laws.FnLearned', WHERE WHAT IT READS IS OF BULK AT MOST 1048576: true; the input reads as it did. -/
def fnLearnedUptoRow : OpenClaim := { program := "yteejcabknpdghaa", sum := "34f1e1a980e91538dc1bd95bef46be1a93633989e8e5108b568daef6c5b61522", func := "loop.example/g00504/laws.FnLearned", spec := "fnLearned", apart := false, narrowed := true }
def FnLearnedUptoSaid : Prop := fnLearnedUptoRow.holds Try.pinned (OpenSpec.upto fnLearnedSpec)

end Rows
end Go.Proofs.Yteejcabknpdghaa
