/-
  No cell of these rows narrows 'for every input' (looked for: loops, veiled, ifaces, maps, wideKeys, modest, calm, conditions, laid).
  DERIVED. THE GIVEN ROWS OF THIS SEAT. 12 by the template 'for every input the law returns true; each argument reads behind the call as it read before'; 0 by the template 'total and deterministic' (their statements: YtofoedbppeigoaaTotals.lean).
  GIVEN WITH THE SEED: the statements are not yours to turn. If you find one false, say at which input.
  Laid BY PROGRAM, IN A SANDBOX (cutbox-rows.mjs): the forced cells as the released guide's own fill.sh prints them over the translation 64e57fe576fbd53b… (all of the seat's roots in one cut). By AI agents, Wed Nov 11 2026. No macro, syntax, notation, axiom, sorry.
-/
import Derived.Test.YtofoedbppeigoaaChecked
import GoSem.Claim
import GoSem.ClaimJoined
import GoSem.ClaimMapViews
import Derived.JoinedTies
import Derived.KernelRfl
namespace Go.Proofs.Ytofoedbppeigoaa
/- THE CELL 'sum', in the pinned program and in every row, IS THE sha256 OF THE DUMP (.gsa) THAT YtofoedbppeigoaaProg.lean LOADS. Nothing in Lean hashes anything: it is a label: what it is worth is what the hold of that sum in a sandbox is worth. -/
noncomputable def Try.pinned : Pinned := { name := "ytofoedbppeigoaa", sum := "64e57fe576fbd53b0bd69ce9b59fa7c3bee3018c3872c9712d9d214c834f173b", checked := Try.checked }
namespace Rows
def none {H : Type} : Left H := { results := [], args := [] }

/-- 'laws.FnExactConstants': WHATEVER THE INPUT: true; the input reads as it did. -/
def fnExactConstantsSpec : ChangeSpec := { name := "fnExactConstants", fn := fun _ => fun
  | [] => { results := [.lit (.bool true)], args := [] }
  | _ => none }
def fnExactConstantsRow : OpenClaim := { program := "ytofoedbppeigoaa", sum := "64e57fe576fbd53b0bd69ce9b59fa7c3bee3018c3872c9712d9d214c834f173b", func := "loop.example/g00397/laws.FnExactConstants", spec := "fnExactConstants", apart := false }
def FnExactConstantsSaid : Prop := fnExactConstantsRow.holds Try.pinned (OpenSpec.ofChange fnExactConstantsSpec)

/-- ITS FALSE NEIGHBOUR: 'it returns false'. Refute it at one input. -/
def fnExactConstantsWrong : ChangeSpec := { name := "fnExactConstants", fn := fun _ => fun
  | [] => { results := [.lit (.bool false)], args := [] }
  | _ => none }
def FnExactConstantsWrongFalsely : Prop := fnExactConstantsRow.holds Try.pinned (OpenSpec.ofChange fnExactConstantsWrong)

/-- 'laws.FnExactHalfOk': WHATEVER THE INPUT: true; the input reads as it did. -/
def fnExactHalfOkSpec : ChangeSpec := { name := "fnExactHalfOk", fn := fun _ => fun
  | [d] => { results := [.lit (.bool true)], args := [d] }
  | _ => none }
def fnExactHalfOkRow : OpenClaim := { program := "ytofoedbppeigoaa", sum := "64e57fe576fbd53b0bd69ce9b59fa7c3bee3018c3872c9712d9d214c834f173b", func := "loop.example/g00397/laws.FnExactHalfOk", spec := "fnExactHalfOk", apart := false }
def FnExactHalfOkSaid : Prop := fnExactHalfOkRow.holds Try.pinned (OpenSpec.ofChange fnExactHalfOkSpec)

/-- ITS FALSE NEIGHBOUR: 'it returns false'. Refute it at one input. -/
def fnExactHalfOkWrong : ChangeSpec := { name := "fnExactHalfOk", fn := fun _ => fun
  | [d] => { results := [.lit (.bool false)], args := [d] }
  | _ => none }
def FnExactHalfOkWrongFalsely : Prop := fnExactHalfOkRow.holds Try.pinned (OpenSpec.ofChange fnExactHalfOkWrong)

/-- 'laws.FnExactWideOk': WHATEVER THE INPUT: true; the input reads as it did. -/
def fnExactWideOkSpec : ChangeSpec := { name := "fnExactWideOk", fn := fun _ => fun
  | [d] => { results := [.lit (.bool true)], args := [d] }
  | _ => none }
def fnExactWideOkRow : OpenClaim := { program := "ytofoedbppeigoaa", sum := "64e57fe576fbd53b0bd69ce9b59fa7c3bee3018c3872c9712d9d214c834f173b", func := "loop.example/g00397/laws.FnExactWideOk", spec := "fnExactWideOk", apart := false }
def FnExactWideOkSaid : Prop := fnExactWideOkRow.holds Try.pinned (OpenSpec.ofChange fnExactWideOkSpec)

/-- ITS FALSE NEIGHBOUR: 'it returns false'. Refute it at one input. -/
def fnExactWideOkWrong : ChangeSpec := { name := "fnExactWideOk", fn := fun _ => fun
  | [d] => { results := [.lit (.bool false)], args := [d] }
  | _ => none }
def FnExactWideOkWrongFalsely : Prop := fnExactWideOkRow.holds Try.pinned (OpenSpec.ofChange fnExactWideOkWrong)

/-- 'laws.FnExactActionIn': WHATEVER THE INPUT: true; the input reads as it did. -/
def fnExactActionInSpec : ChangeSpec := { name := "fnExactActionIn", fn := fun _ => fun
  | [d] => { results := [.lit (.bool true)], args := [d] }
  | _ => none }
def fnExactActionInRow : OpenClaim := { program := "ytofoedbppeigoaa", sum := "64e57fe576fbd53b0bd69ce9b59fa7c3bee3018c3872c9712d9d214c834f173b", func := "loop.example/g00397/laws.FnExactActionIn", spec := "fnExactActionIn", apart := false }
def FnExactActionInSaid : Prop := fnExactActionInRow.holds Try.pinned (OpenSpec.ofChange fnExactActionInSpec)

/-- ITS FALSE NEIGHBOUR: 'it returns false'. Refute it at one input. -/
def fnExactActionInWrong : ChangeSpec := { name := "fnExactActionIn", fn := fun _ => fun
  | [d] => { results := [.lit (.bool false)], args := [d] }
  | _ => none }
def FnExactActionInWrongFalsely : Prop := fnExactActionInRow.holds Try.pinned (OpenSpec.ofChange fnExactActionInWrong)

/-- 'laws.FnExactResultOf': WHATEVER THE INPUT: true; the input reads as it did. -/
def fnExactResultOfSpec : ChangeSpec := { name := "fnExactResultOf", fn := fun _ => fun
  | [d1, d2] => { results := [.lit (.bool true)], args := [d1, d2] }
  | _ => none }
def fnExactResultOfRow : OpenClaim := { program := "ytofoedbppeigoaa", sum := "64e57fe576fbd53b0bd69ce9b59fa7c3bee3018c3872c9712d9d214c834f173b", func := "loop.example/g00397/laws.FnExactResultOf", spec := "fnExactResultOf", apart := false }
def FnExactResultOfSaid : Prop := fnExactResultOfRow.holds Try.pinned (OpenSpec.ofChange fnExactResultOfSpec)

/-- ITS FALSE NEIGHBOUR: 'it returns false'. Refute it at one input. -/
def fnExactResultOfWrong : ChangeSpec := { name := "fnExactResultOf", fn := fun _ => fun
  | [d1, d2] => { results := [.lit (.bool false)], args := [d1, d2] }
  | _ => none }
def FnExactResultOfWrongFalsely : Prop := fnExactResultOfRow.holds Try.pinned (OpenSpec.ofChange fnExactResultOfWrong)

/-- 'laws.FnExactActionName': WHATEVER THE INPUT: true; the input reads as it did. -/
def fnExactActionNameSpec : ChangeSpec := { name := "fnExactActionName", fn := fun _ => fun
  | [d] => { results := [.lit (.bool true)], args := [d] }
  | _ => none }
def fnExactActionNameRow : OpenClaim := { program := "ytofoedbppeigoaa", sum := "64e57fe576fbd53b0bd69ce9b59fa7c3bee3018c3872c9712d9d214c834f173b", func := "loop.example/g00397/laws.FnExactActionName", spec := "fnExactActionName", apart := false }
def FnExactActionNameSaid : Prop := fnExactActionNameRow.holds Try.pinned (OpenSpec.ofChange fnExactActionNameSpec)

/-- ITS FALSE NEIGHBOUR: 'it returns false'. Refute it at one input. -/
def fnExactActionNameWrong : ChangeSpec := { name := "fnExactActionName", fn := fun _ => fun
  | [d] => { results := [.lit (.bool false)], args := [d] }
  | _ => none }
def FnExactActionNameWrongFalsely : Prop := fnExactActionNameRow.holds Try.pinned (OpenSpec.ofChange fnExactActionNameWrong)

/-- 'laws.FnExactPadText': WHATEVER THE INPUT: true; the input reads as it did. -/
def fnExactPadTextSpec : ChangeSpec := { name := "fnExactPadText", fn := fun _ => fun
  | [d] => { results := [.lit (.bool true)], args := [d] }
  | _ => none }
def fnExactPadTextRow : OpenClaim := { program := "ytofoedbppeigoaa", sum := "64e57fe576fbd53b0bd69ce9b59fa7c3bee3018c3872c9712d9d214c834f173b", func := "loop.example/g00397/laws.FnExactPadText", spec := "fnExactPadText", apart := false }
def FnExactPadTextSaid : Prop := fnExactPadTextRow.holds Try.pinned (OpenSpec.ofChange fnExactPadTextSpec)

/-- ITS FALSE NEIGHBOUR: 'it returns false'. Refute it at one input. -/
def fnExactPadTextWrong : ChangeSpec := { name := "fnExactPadText", fn := fun _ => fun
  | [d] => { results := [.lit (.bool false)], args := [d] }
  | _ => none }
def FnExactPadTextWrongFalsely : Prop := fnExactPadTextRow.holds Try.pinned (OpenSpec.ofChange fnExactPadTextWrong)

/-- 'laws.FnExactCallNumber': WHATEVER THE INPUT: true; the input reads as it did. -/
def fnExactCallNumberSpec : ChangeSpec := { name := "fnExactCallNumber", fn := fun _ => fun
  | [d] => { results := [.lit (.bool true)], args := [d] }
  | _ => none }
def fnExactCallNumberRow : OpenClaim := { program := "ytofoedbppeigoaa", sum := "64e57fe576fbd53b0bd69ce9b59fa7c3bee3018c3872c9712d9d214c834f173b", func := "loop.example/g00397/laws.FnExactCallNumber", spec := "fnExactCallNumber", apart := false }
def FnExactCallNumberSaid : Prop := fnExactCallNumberRow.holds Try.pinned (OpenSpec.ofChange fnExactCallNumberSpec)

/-- ITS FALSE NEIGHBOUR: 'it returns false'. Refute it at one input. -/
def fnExactCallNumberWrong : ChangeSpec := { name := "fnExactCallNumber", fn := fun _ => fun
  | [d] => { results := [.lit (.bool false)], args := [d] }
  | _ => none }
def FnExactCallNumberWrongFalsely : Prop := fnExactCallNumberRow.holds Try.pinned (OpenSpec.ofChange fnExactCallNumberWrong)

/-- 'laws.FnExactSumMore': WHATEVER THE INPUT: true; the input reads as it did. -/
def fnExactSumMoreSpec : ChangeSpec := { name := "fnExactSumMore", fn := fun _ => fun
  | [d1, d2] => { results := [.lit (.bool true)], args := [d1, d2] }
  | _ => none }
def fnExactSumMoreRow : OpenClaim := { program := "ytofoedbppeigoaa", sum := "64e57fe576fbd53b0bd69ce9b59fa7c3bee3018c3872c9712d9d214c834f173b", func := "loop.example/g00397/laws.FnExactSumMore", spec := "fnExactSumMore", apart := false }
def FnExactSumMoreSaid : Prop := fnExactSumMoreRow.holds Try.pinned (OpenSpec.ofChange fnExactSumMoreSpec)

/-- ITS FALSE NEIGHBOUR: 'it returns false'. Refute it at one input. -/
def fnExactSumMoreWrong : ChangeSpec := { name := "fnExactSumMore", fn := fun _ => fun
  | [d1, d2] => { results := [.lit (.bool false)], args := [d1, d2] }
  | _ => none }
def FnExactSumMoreWrongFalsely : Prop := fnExactSumMoreRow.holds Try.pinned (OpenSpec.ofChange fnExactSumMoreWrong)

/-- 'laws.FnExactHex': WHATEVER THE INPUT: true; the input reads as it did. -/
def fnExactHexSpec : ChangeSpec := { name := "fnExactHex", fn := fun _ => fun
  | [d] => { results := [.lit (.bool true)], args := [d] }
  | _ => none }
def fnExactHexRow : OpenClaim := { program := "ytofoedbppeigoaa", sum := "64e57fe576fbd53b0bd69ce9b59fa7c3bee3018c3872c9712d9d214c834f173b", func := "loop.example/g00397/laws.FnExactHex", spec := "fnExactHex", apart := false }
def FnExactHexSaid : Prop := fnExactHexRow.holds Try.pinned (OpenSpec.ofChange fnExactHexSpec)

/-- ITS FALSE NEIGHBOUR: 'it returns false'. Refute it at one input. -/
def fnExactHexWrong : ChangeSpec := { name := "fnExactHex", fn := fun _ => fun
  | [d] => { results := [.lit (.bool false)], args := [d] }
  | _ => none }
def FnExactHexWrongFalsely : Prop := fnExactHexRow.holds Try.pinned (OpenSpec.ofChange fnExactHexWrong)

/-- 'laws.FnExactStricter': WHATEVER THE INPUT: true; the input reads as it did. -/
def fnExactStricterSpec : ChangeSpec := { name := "fnExactStricter", fn := fun _ => fun
  | [d1, d2] => { results := [.lit (.bool true)], args := [d1, d2] }
  | _ => none }
def fnExactStricterRow : OpenClaim := { program := "ytofoedbppeigoaa", sum := "64e57fe576fbd53b0bd69ce9b59fa7c3bee3018c3872c9712d9d214c834f173b", func := "loop.example/g00397/laws.FnExactStricter", spec := "fnExactStricter", apart := false }
def FnExactStricterSaid : Prop := fnExactStricterRow.holds Try.pinned (OpenSpec.ofChange fnExactStricterSpec)

/-- ITS FALSE NEIGHBOUR: 'it returns false'. Refute it at one input. -/
def fnExactStricterWrong : ChangeSpec := { name := "fnExactStricter", fn := fun _ => fun
  | [d1, d2] => { results := [.lit (.bool false)], args := [d1, d2] }
  | _ => none }
def FnExactStricterWrongFalsely : Prop := fnExactStricterRow.holds Try.pinned (OpenSpec.ofChange fnExactStricterWrong)

/-- 'laws.FnExactVarText': WHATEVER THE INPUT: true; the input reads as it did. -/
def fnExactVarTextSpec : ChangeSpec := { name := "fnExactVarText", fn := fun _ => fun
  | [d] => { results := [.lit (.bool true)], args := [d] }
  | _ => none }
def fnExactVarTextRow : OpenClaim := { program := "ytofoedbppeigoaa", sum := "64e57fe576fbd53b0bd69ce9b59fa7c3bee3018c3872c9712d9d214c834f173b", func := "loop.example/g00397/laws.FnExactVarText", spec := "fnExactVarText", apart := false }
def FnExactVarTextSaid : Prop := fnExactVarTextRow.holds Try.pinned (OpenSpec.ofChange fnExactVarTextSpec)

/-- ITS FALSE NEIGHBOUR: 'it returns false'. Refute it at one input. -/
def fnExactVarTextWrong : ChangeSpec := { name := "fnExactVarText", fn := fun _ => fun
  | [d] => { results := [.lit (.bool false)], args := [d] }
  | _ => none }
def FnExactVarTextWrongFalsely : Prop := fnExactVarTextRow.holds Try.pinned (OpenSpec.ofChange fnExactVarTextWrong)

/- THE SECOND FORM. 'bulk': how many values and letters a reading holds, each counted each time it is reached (what is shared counts as often as it is met; a slice's spare places count too). A statement '..UptoSaid' is the law's where the arguments, and the package variables that the reading takes, are together of bulk at most 1048576: NARROWER than '..Said'. Prove '..Said' where nothing that the law and all that it calls make is longer than what came in: it says more and counts as full. Else prove '..UptoSaid'. A law counts once. -/
mutual
def uptoBulk {H : Type} : DataW H → Nat
  | .lit (.string bytes) => bytes.length + 1
  | .lit _ => 1
  | .nil => 1
  | .ptr d => uptoBulk d + 1
  | .slice elems spare => uptoBulkAll elems + uptoBulkAll spare + 1
  | .agg parts => uptoBulkAll parts + 1
  | .iface _ d => uptoBulk d + 1
  | .map entries => uptoBulkEntries entries + 1
  | .held _ => 1
def uptoBulkAll {H : Type} : List (DataW H) → Nat
  | [] => 0
  | d :: r => uptoBulk d + uptoBulkAll r
def uptoBulkEntries {H : Type} : List (Lit × DataW H) → Nat
  | [] => 0
  | x :: r => uptoBulkEntry x + uptoBulkEntries r
def uptoBulkEntry {H : Type} : Lit × DataW H → Nat
  | (.string bytes, d) => bytes.length + uptoBulk d + 1
  | (_, d) => uptoBulk d + 1
 end
def uptoSmall : (H : Type) → List (DataW H) → Bool := fun _ ds => decide (uptoBulkAll ds ≤ 1048576)
def OpenSpec.upto (s : _root_.Go.ChangeSpec) : _root_.Go.OpenSpec := { _root_.Go.OpenSpec.ofChange s with cond := some uptoSmall }

/-- 'laws.FnExactConstants', WHERE WHAT IT READS IS OF BULK AT MOST 1048576: true; the input reads as it did. -/
def fnExactConstantsUptoRow : OpenClaim := { program := "ytofoedbppeigoaa", sum := "64e57fe576fbd53b0bd69ce9b59fa7c3bee3018c3872c9712d9d214c834f173b", func := "loop.example/g00397/laws.FnExactConstants", spec := "fnExactConstants", apart := false, narrowed := true }
def FnExactConstantsUptoSaid : Prop := fnExactConstantsUptoRow.holds Try.pinned (OpenSpec.upto fnExactConstantsSpec)

/-- 'laws.FnExactHalfOk', WHERE WHAT IT READS IS OF BULK AT MOST 1048576: true; the input reads as it did. -/
def fnExactHalfOkUptoRow : OpenClaim := { program := "ytofoedbppeigoaa", sum := "64e57fe576fbd53b0bd69ce9b59fa7c3bee3018c3872c9712d9d214c834f173b", func := "loop.example/g00397/laws.FnExactHalfOk", spec := "fnExactHalfOk", apart := false, narrowed := true }
def FnExactHalfOkUptoSaid : Prop := fnExactHalfOkUptoRow.holds Try.pinned (OpenSpec.upto fnExactHalfOkSpec)

/-- 'laws.FnExactWideOk', WHERE WHAT IT READS IS OF BULK AT MOST 1048576: true; the input reads as it did. -/
def fnExactWideOkUptoRow : OpenClaim := { program := "ytofoedbppeigoaa", sum := "64e57fe576fbd53b0bd69ce9b59fa7c3bee3018c3872c9712d9d214c834f173b", func := "loop.example/g00397/laws.FnExactWideOk", spec := "fnExactWideOk", apart := false, narrowed := true }
def FnExactWideOkUptoSaid : Prop := fnExactWideOkUptoRow.holds Try.pinned (OpenSpec.upto fnExactWideOkSpec)

/-- 'laws.FnExactActionIn', WHERE WHAT IT READS IS OF BULK AT MOST 1048576: true; the input reads as it did. -/
def fnExactActionInUptoRow : OpenClaim := { program := "ytofoedbppeigoaa", sum := "64e57fe576fbd53b0bd69ce9b59fa7c3bee3018c3872c9712d9d214c834f173b", func := "loop.example/g00397/laws.FnExactActionIn", spec := "fnExactActionIn", apart := false, narrowed := true }
def FnExactActionInUptoSaid : Prop := fnExactActionInUptoRow.holds Try.pinned (OpenSpec.upto fnExactActionInSpec)

/-- 'laws.FnExactResultOf', WHERE WHAT IT READS IS OF BULK AT MOST 1048576: true; the input reads as it did. -/
def fnExactResultOfUptoRow : OpenClaim := { program := "ytofoedbppeigoaa", sum := "64e57fe576fbd53b0bd69ce9b59fa7c3bee3018c3872c9712d9d214c834f173b", func := "loop.example/g00397/laws.FnExactResultOf", spec := "fnExactResultOf", apart := false, narrowed := true }
def FnExactResultOfUptoSaid : Prop := fnExactResultOfUptoRow.holds Try.pinned (OpenSpec.upto fnExactResultOfSpec)

/-- 'laws.FnExactActionName', WHERE WHAT IT READS IS OF BULK AT MOST 1048576: true; the input reads as it did. -/
def fnExactActionNameUptoRow : OpenClaim := { program := "ytofoedbppeigoaa", sum := "64e57fe576fbd53b0bd69ce9b59fa7c3bee3018c3872c9712d9d214c834f173b", func := "loop.example/g00397/laws.FnExactActionName", spec := "fnExactActionName", apart := false, narrowed := true }
def FnExactActionNameUptoSaid : Prop := fnExactActionNameUptoRow.holds Try.pinned (OpenSpec.upto fnExactActionNameSpec)

/-- 'laws.FnExactPadText', WHERE WHAT IT READS IS OF BULK AT MOST 1048576: true; the input reads as it did. -/
def fnExactPadTextUptoRow : OpenClaim := { program := "ytofoedbppeigoaa", sum := "64e57fe576fbd53b0bd69ce9b59fa7c3bee3018c3872c9712d9d214c834f173b", func := "loop.example/g00397/laws.FnExactPadText", spec := "fnExactPadText", apart := false, narrowed := true }
def FnExactPadTextUptoSaid : Prop := fnExactPadTextUptoRow.holds Try.pinned (OpenSpec.upto fnExactPadTextSpec)

/-- 'laws.FnExactCallNumber', WHERE WHAT IT READS IS OF BULK AT MOST 1048576: true; the input reads as it did. -/
def fnExactCallNumberUptoRow : OpenClaim := { program := "ytofoedbppeigoaa", sum := "64e57fe576fbd53b0bd69ce9b59fa7c3bee3018c3872c9712d9d214c834f173b", func := "loop.example/g00397/laws.FnExactCallNumber", spec := "fnExactCallNumber", apart := false, narrowed := true }
def FnExactCallNumberUptoSaid : Prop := fnExactCallNumberUptoRow.holds Try.pinned (OpenSpec.upto fnExactCallNumberSpec)

/-- 'laws.FnExactSumMore', WHERE WHAT IT READS IS OF BULK AT MOST 1048576: true; the input reads as it did. -/
def fnExactSumMoreUptoRow : OpenClaim := { program := "ytofoedbppeigoaa", sum := "64e57fe576fbd53b0bd69ce9b59fa7c3bee3018c3872c9712d9d214c834f173b", func := "loop.example/g00397/laws.FnExactSumMore", spec := "fnExactSumMore", apart := false, narrowed := true }
def FnExactSumMoreUptoSaid : Prop := fnExactSumMoreUptoRow.holds Try.pinned (OpenSpec.upto fnExactSumMoreSpec)

/-- 'laws.FnExactHex', WHERE WHAT IT READS IS OF BULK AT MOST 1048576: true; the input reads as it did. -/
def fnExactHexUptoRow : OpenClaim := { program := "ytofoedbppeigoaa", sum := "64e57fe576fbd53b0bd69ce9b59fa7c3bee3018c3872c9712d9d214c834f173b", func := "loop.example/g00397/laws.FnExactHex", spec := "fnExactHex", apart := false, narrowed := true }
def FnExactHexUptoSaid : Prop := fnExactHexUptoRow.holds Try.pinned (OpenSpec.upto fnExactHexSpec)

/-- 'laws.FnExactStricter', WHERE WHAT IT READS IS OF BULK AT MOST 1048576: true; the input reads as it did. -/
def fnExactStricterUptoRow : OpenClaim := { program := "ytofoedbppeigoaa", sum := "64e57fe576fbd53b0bd69ce9b59fa7c3bee3018c3872c9712d9d214c834f173b", func := "loop.example/g00397/laws.FnExactStricter", spec := "fnExactStricter", apart := false, narrowed := true }
def FnExactStricterUptoSaid : Prop := fnExactStricterUptoRow.holds Try.pinned (OpenSpec.upto fnExactStricterSpec)

/-- 'laws.FnExactVarText', WHERE WHAT IT READS IS OF BULK AT MOST 1048576: true; the input reads as it did. -/
def fnExactVarTextUptoRow : OpenClaim := { program := "ytofoedbppeigoaa", sum := "64e57fe576fbd53b0bd69ce9b59fa7c3bee3018c3872c9712d9d214c834f173b", func := "loop.example/g00397/laws.FnExactVarText", spec := "fnExactVarText", apart := false, narrowed := true }
def FnExactVarTextUptoSaid : Prop := fnExactVarTextUptoRow.holds Try.pinned (OpenSpec.upto fnExactVarTextSpec)

end Rows
end Go.Proofs.Ytofoedbppeigoaa
