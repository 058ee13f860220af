/-
  No cell of these rows narrows 'for every input' (looked for: loops, veiled, ifaces, maps, wideKeys, modest, calm, conditions, laid).
  DERIVED. THE GIVEN ROWS OF THIS SEAT. 12 by the template 'for every input the law returns true; each argument reads behind the call as it read before'; 0 by the template 'total and deterministic' (their statements: YtfchokhdhnfajaaTotals.lean).
  GIVEN WITH THE SEED: the statements are not yours to turn. If you find one false, say at which input.
  Laid BY PROGRAM, IN A SANDBOX (cutbox-rows.mjs): the forced cells as the released guide's own fill.sh prints them over the translation 18a6abf294f1d685… (all of the seat's roots in one cut). By AI agents, Wed Nov 11 2026. No macro, syntax, notation, axiom, sorry.
-/
import Derived.Test.YtfchokhdhnfajaaChecked
import GoSem.Claim
import GoSem.ClaimJoined
import GoSem.ClaimMapViews
import Derived.JoinedTies
import Derived.KernelRfl
namespace Go.Proofs.Ytfchokhdhnfajaa
/- THE CELL 'sum', in the pinned program and in every row, IS THE sha256 OF THE DUMP (.gsa) THAT YtfchokhdhnfajaaProg.lean LOADS. Nothing in Lean hashes anything: it is a label: what it is worth is what the hold of that sum in a sandbox is worth. -/
noncomputable def Try.pinned : Pinned := { name := "ytfchokhdhnfajaa", sum := "18a6abf294f1d6854e816dd4b13f454f7f54df1b806d4becd3c14aab94facde8", checked := Try.checked }
namespace Rows
def none {H : Type} : Left H := { results := [], args := [] }

/-- 'laws.FnExactInsOk': WHATEVER THE INPUT: true; the input reads as it did. -/
def fnExactInsOkSpec : ChangeSpec := { name := "fnExactInsOk", fn := fun _ => fun
  | [d] => { results := [.lit (.bool true)], args := [d] }
  | _ => none }
def fnExactInsOkRow : OpenClaim := { program := "ytfchokhdhnfajaa", sum := "18a6abf294f1d6854e816dd4b13f454f7f54df1b806d4becd3c14aab94facde8", func := "loop.example/g00397/laws.FnExactInsOk", spec := "fnExactInsOk", apart := false }
def FnExactInsOkSaid : Prop := fnExactInsOkRow.holds Try.pinned (OpenSpec.ofChange fnExactInsOkSpec)

/-- ITS FALSE NEIGHBOUR: 'it returns false'. Refute it at one input. -/
def fnExactInsOkWrong : ChangeSpec := { name := "fnExactInsOk", fn := fun _ => fun
  | [d] => { results := [.lit (.bool false)], args := [d] }
  | _ => none }
def FnExactInsOkWrongFalsely : Prop := fnExactInsOkRow.holds Try.pinned (OpenSpec.ofChange fnExactInsOkWrong)

/-- 'laws.FnExactInsText': WHATEVER THE INPUT: true; the input reads as it did. -/
def fnExactInsTextSpec : ChangeSpec := { name := "fnExactInsText", fn := fun _ => fun
  | [d] => { results := [.lit (.bool true)], args := [d] }
  | _ => none }
def fnExactInsTextRow : OpenClaim := { program := "ytfchokhdhnfajaa", sum := "18a6abf294f1d6854e816dd4b13f454f7f54df1b806d4becd3c14aab94facde8", func := "loop.example/g00397/laws.FnExactInsText", spec := "fnExactInsText", apart := false }
def FnExactInsTextSaid : Prop := fnExactInsTextRow.holds Try.pinned (OpenSpec.ofChange fnExactInsTextSpec)

/-- ITS FALSE NEIGHBOUR: 'it returns false'. Refute it at one input. -/
def fnExactInsTextWrong : ChangeSpec := { name := "fnExactInsText", fn := fun _ => fun
  | [d] => { results := [.lit (.bool false)], args := [d] }
  | _ => none }
def FnExactInsTextWrongFalsely : Prop := fnExactInsTextRow.holds Try.pinned (OpenSpec.ofChange fnExactInsTextWrong)

/-- 'laws.FnExactReadIns': WHATEVER THE INPUT: true; the input reads as it did. -/
def fnExactReadInsSpec : ChangeSpec := { name := "fnExactReadIns", fn := fun _ => fun
  | [d] => { results := [.lit (.bool true)], args := [d] }
  | _ => none }
def fnExactReadInsRow : OpenClaim := { program := "ytfchokhdhnfajaa", sum := "18a6abf294f1d6854e816dd4b13f454f7f54df1b806d4becd3c14aab94facde8", func := "loop.example/g00397/laws.FnExactReadIns", spec := "fnExactReadIns", apart := false }
def FnExactReadInsSaid : Prop := fnExactReadInsRow.holds Try.pinned (OpenSpec.ofChange fnExactReadInsSpec)

/-- ITS FALSE NEIGHBOUR: 'it returns false'. Refute it at one input. -/
def fnExactReadInsWrong : ChangeSpec := { name := "fnExactReadIns", fn := fun _ => fun
  | [d] => { results := [.lit (.bool false)], args := [d] }
  | _ => none }
def FnExactReadInsWrongFalsely : Prop := fnExactReadInsRow.holds Try.pinned (OpenSpec.ofChange fnExactReadInsWrong)

/-- 'laws.FnExactProgramText': WHATEVER THE INPUT: true; the input reads as it did. -/
def fnExactProgramTextSpec : ChangeSpec := { name := "fnExactProgramText", fn := fun _ => fun
  | [d] => { results := [.lit (.bool true)], args := [d] }
  | _ => none }
def fnExactProgramTextRow : OpenClaim := { program := "ytfchokhdhnfajaa", sum := "18a6abf294f1d6854e816dd4b13f454f7f54df1b806d4becd3c14aab94facde8", func := "loop.example/g00397/laws.FnExactProgramText", spec := "fnExactProgramText", apart := false }
def FnExactProgramTextSaid : Prop := fnExactProgramTextRow.holds Try.pinned (OpenSpec.ofChange fnExactProgramTextSpec)

/-- ITS FALSE NEIGHBOUR: 'it returns false'. Refute it at one input. -/
def fnExactProgramTextWrong : ChangeSpec := { name := "fnExactProgramText", fn := fun _ => fun
  | [d] => { results := [.lit (.bool false)], args := [d] }
  | _ => none }
def FnExactProgramTextWrongFalsely : Prop := fnExactProgramTextRow.holds Try.pinned (OpenSpec.ofChange fnExactProgramTextWrong)

/-- 'laws.FnExactReadProgram': WHATEVER THE INPUT: true; the input reads as it did. -/
def fnExactReadProgramSpec : ChangeSpec := { name := "fnExactReadProgram", fn := fun _ => fun
  | [d] => { results := [.lit (.bool true)], args := [d] }
  | _ => none }
def fnExactReadProgramRow : OpenClaim := { program := "ytfchokhdhnfajaa", sum := "18a6abf294f1d6854e816dd4b13f454f7f54df1b806d4becd3c14aab94facde8", func := "loop.example/g00397/laws.FnExactReadProgram", spec := "fnExactReadProgram", apart := false }
def FnExactReadProgramSaid : Prop := fnExactReadProgramRow.holds Try.pinned (OpenSpec.ofChange fnExactReadProgramSpec)

/-- ITS FALSE NEIGHBOUR: 'it returns false'. Refute it at one input. -/
def fnExactReadProgramWrong : ChangeSpec := { name := "fnExactReadProgram", fn := fun _ => fun
  | [d] => { results := [.lit (.bool false)], args := [d] }
  | _ => none }
def FnExactReadProgramWrongFalsely : Prop := fnExactReadProgramRow.holds Try.pinned (OpenSpec.ofChange fnExactReadProgramWrong)

/-- 'laws.FnPrograms': WHATEVER THE INPUT: true; the input reads as it did. -/
def fnProgramsSpec : ChangeSpec := { name := "fnPrograms", fn := fun _ => fun
  | [d] => { results := [.lit (.bool true)], args := [d] }
  | _ => none }
def fnProgramsRow : OpenClaim := { program := "ytfchokhdhnfajaa", sum := "18a6abf294f1d6854e816dd4b13f454f7f54df1b806d4becd3c14aab94facde8", func := "loop.example/g00397/laws.FnPrograms", spec := "fnPrograms", apart := false }
def FnProgramsSaid : Prop := fnProgramsRow.holds Try.pinned (OpenSpec.ofChange fnProgramsSpec)

/-- ITS FALSE NEIGHBOUR: 'it returns false'. Refute it at one input. -/
def fnProgramsWrong : ChangeSpec := { name := "fnPrograms", fn := fun _ => fun
  | [d] => { results := [.lit (.bool false)], args := [d] }
  | _ => none }
def FnProgramsWrongFalsely : Prop := fnProgramsRow.holds Try.pinned (OpenSpec.ofChange fnProgramsWrong)

/-- 'laws.FnExactCheckProgram': WHATEVER THE INPUT: true; the input reads as it did. -/
def fnExactCheckProgramSpec : ChangeSpec := { name := "fnExactCheckProgram", fn := fun _ => fun
  | [d] => { results := [.lit (.bool true)], args := [d] }
  | _ => none }
def fnExactCheckProgramRow : OpenClaim := { program := "ytfchokhdhnfajaa", sum := "18a6abf294f1d6854e816dd4b13f454f7f54df1b806d4becd3c14aab94facde8", func := "loop.example/g00397/laws.FnExactCheckProgram", spec := "fnExactCheckProgram", apart := false }
def FnExactCheckProgramSaid : Prop := fnExactCheckProgramRow.holds Try.pinned (OpenSpec.ofChange fnExactCheckProgramSpec)

/-- ITS FALSE NEIGHBOUR: 'it returns false'. Refute it at one input. -/
def fnExactCheckProgramWrong : ChangeSpec := { name := "fnExactCheckProgram", fn := fun _ => fun
  | [d] => { results := [.lit (.bool false)], args := [d] }
  | _ => none }
def FnExactCheckProgramWrongFalsely : Prop := fnExactCheckProgramRow.holds Try.pinned (OpenSpec.ofChange fnExactCheckProgramWrong)

/-- 'laws.FnExactRun': WHATEVER THE INPUT: true; the input reads as it did. -/
def fnExactRunSpec : ChangeSpec := { name := "fnExactRun", fn := fun _ => fun
  | [d1, d2] => { results := [.lit (.bool true)], args := [d1, d2] }
  | _ => none }
def fnExactRunRow : OpenClaim := { program := "ytfchokhdhnfajaa", sum := "18a6abf294f1d6854e816dd4b13f454f7f54df1b806d4becd3c14aab94facde8", func := "loop.example/g00397/laws.FnExactRun", spec := "fnExactRun", apart := false }
def FnExactRunSaid : Prop := fnExactRunRow.holds Try.pinned (OpenSpec.ofChange fnExactRunSpec)

/-- ITS FALSE NEIGHBOUR: 'it returns false'. Refute it at one input. -/
def fnExactRunWrong : ChangeSpec := { name := "fnExactRun", fn := fun _ => fun
  | [d1, d2] => { results := [.lit (.bool false)], args := [d1, d2] }
  | _ => none }
def FnExactRunWrongFalsely : Prop := fnExactRunRow.holds Try.pinned (OpenSpec.ofChange fnExactRunWrong)

/-- 'laws.FnRunTold': WHATEVER THE INPUT: true; the input reads as it did. -/
def fnRunToldSpec : ChangeSpec := { name := "fnRunTold", fn := fun _ => fun
  | [d] => { results := [.lit (.bool true)], args := [d] }
  | _ => none }
def fnRunToldRow : OpenClaim := { program := "ytfchokhdhnfajaa", sum := "18a6abf294f1d6854e816dd4b13f454f7f54df1b806d4becd3c14aab94facde8", func := "loop.example/g00397/laws.FnRunTold", spec := "fnRunTold", apart := false }
def FnRunToldSaid : Prop := fnRunToldRow.holds Try.pinned (OpenSpec.ofChange fnRunToldSpec)

/-- ITS FALSE NEIGHBOUR: 'it returns false'. Refute it at one input. -/
def fnRunToldWrong : ChangeSpec := { name := "fnRunTold", fn := fun _ => fun
  | [d] => { results := [.lit (.bool false)], args := [d] }
  | _ => none }
def FnRunToldWrongFalsely : Prop := fnRunToldRow.holds Try.pinned (OpenSpec.ofChange fnRunToldWrong)

/-- 'laws.FnExactReached': WHATEVER THE INPUT: true; the input reads as it did. -/
def fnExactReachedSpec : ChangeSpec := { name := "fnExactReached", fn := fun _ => fun
  | [d] => { results := [.lit (.bool true)], args := [d] }
  | _ => none }
def fnExactReachedRow : OpenClaim := { program := "ytfchokhdhnfajaa", sum := "18a6abf294f1d6854e816dd4b13f454f7f54df1b806d4becd3c14aab94facde8", func := "loop.example/g00397/laws.FnExactReached", spec := "fnExactReached", apart := false }
def FnExactReachedSaid : Prop := fnExactReachedRow.holds Try.pinned (OpenSpec.ofChange fnExactReachedSpec)

/-- ITS FALSE NEIGHBOUR: 'it returns false'. Refute it at one input. -/
def fnExactReachedWrong : ChangeSpec := { name := "fnExactReached", fn := fun _ => fun
  | [d] => { results := [.lit (.bool false)], args := [d] }
  | _ => none }
def FnExactReachedWrongFalsely : Prop := fnExactReachedRow.holds Try.pinned (OpenSpec.ofChange fnExactReachedWrong)

/-- 'laws.FnEnds': WHATEVER THE INPUT: true; the input reads as it did. -/
def fnEndsSpec : ChangeSpec := { name := "fnEnds", fn := fun _ => fun
  | [d] => { results := [.lit (.bool true)], args := [d] }
  | _ => none }
def fnEndsRow : OpenClaim := { program := "ytfchokhdhnfajaa", sum := "18a6abf294f1d6854e816dd4b13f454f7f54df1b806d4becd3c14aab94facde8", func := "loop.example/g00397/laws.FnEnds", spec := "fnEnds", apart := false }
def FnEndsSaid : Prop := fnEndsRow.holds Try.pinned (OpenSpec.ofChange fnEndsSpec)

/-- ITS FALSE NEIGHBOUR: 'it returns false'. Refute it at one input. -/
def fnEndsWrong : ChangeSpec := { name := "fnEnds", fn := fun _ => fun
  | [d] => { results := [.lit (.bool false)], args := [d] }
  | _ => none }
def FnEndsWrongFalsely : Prop := fnEndsRow.holds Try.pinned (OpenSpec.ofChange fnEndsWrong)

/-- 'laws.FnActions': WHATEVER THE INPUT: true; the input reads as it did. -/
def fnActionsSpec : ChangeSpec := { name := "fnActions", fn := fun _ => fun
  | [d] => { results := [.lit (.bool true)], args := [d] }
  | _ => none }
def fnActionsRow : OpenClaim := { program := "ytfchokhdhnfajaa", sum := "18a6abf294f1d6854e816dd4b13f454f7f54df1b806d4becd3c14aab94facde8", func := "loop.example/g00397/laws.FnActions", spec := "fnActions", apart := false }
def FnActionsSaid : Prop := fnActionsRow.holds Try.pinned (OpenSpec.ofChange fnActionsSpec)

/-- ITS FALSE NEIGHBOUR: 'it returns false'. Refute it at one input. -/
def fnActionsWrong : ChangeSpec := { name := "fnActions", fn := fun _ => fun
  | [d] => { results := [.lit (.bool false)], args := [d] }
  | _ => none }
def FnActionsWrongFalsely : Prop := fnActionsRow.holds Try.pinned (OpenSpec.ofChange fnActionsWrong)

/- THE SECOND FORM. 'bulk': how many values and letters a reading holds, each counted each time it is reached (what is shared counts as often as it is met; a slice's spare places count too). A statement '..UptoSaid' is the law's where the arguments, and the package variables that the reading takes, are together of bulk at most 1048576: NARROWER than '..Said'. Prove '..Said' where nothing that the law and all that it calls make is longer than what came in: it says more and counts as full. Else prove '..UptoSaid'. A law counts once. -/
mutual
def uptoBulk {H : Type} : DataW H → Nat
  | .lit (.string bytes) => bytes.length + 1
  | .lit _ => 1
  | .nil => 1
  | .ptr d => uptoBulk d + 1
  | .slice elems spare => uptoBulkAll elems + uptoBulkAll spare + 1
  | .agg parts => uptoBulkAll parts + 1
  | .iface _ d => uptoBulk d + 1
  | .map entries => uptoBulkEntries entries + 1
  | .held _ => 1
def uptoBulkAll {H : Type} : List (DataW H) → Nat
  | [] => 0
  | d :: r => uptoBulk d + uptoBulkAll r
def uptoBulkEntries {H : Type} : List (Lit × DataW H) → Nat
  | [] => 0
  | x :: r => uptoBulkEntry x + uptoBulkEntries r
def uptoBulkEntry {H : Type} : Lit × DataW H → Nat
  | (.string bytes, d) => bytes.length + uptoBulk d + 1
  | (_, d) => uptoBulk d + 1
 end
def uptoSmall : (H : Type) → List (DataW H) → Bool := fun _ ds => decide (uptoBulkAll ds ≤ 1048576)
def OpenSpec.upto (s : _root_.Go.ChangeSpec) : _root_.Go.OpenSpec := { _root_.Go.OpenSpec.ofChange s with cond := some uptoSmall }

/-- 'laws.FnExactInsOk', WHERE WHAT IT READS IS OF BULK AT MOST 1048576: true; the input reads as it did. -/
def fnExactInsOkUptoRow : OpenClaim := { program := "ytfchokhdhnfajaa", sum := "18a6abf294f1d6854e816dd4b13f454f7f54df1b806d4becd3c14aab94facde8", func := "loop.example/g00397/laws.FnExactInsOk", spec := "fnExactInsOk", apart := false, narrowed := true }
def FnExactInsOkUptoSaid : Prop := fnExactInsOkUptoRow.holds Try.pinned (OpenSpec.upto fnExactInsOkSpec)

/-- 'laws.FnExactInsText', WHERE WHAT IT READS IS OF BULK AT MOST 1048576: true; the input reads as it did. -/
def fnExactInsTextUptoRow : OpenClaim := { program := "ytfchokhdhnfajaa", sum := "18a6abf294f1d6854e816dd4b13f454f7f54df1b806d4becd3c14aab94facde8", func := "loop.example/g00397/laws.FnExactInsText", spec := "fnExactInsText", apart := false, narrowed := true }
def FnExactInsTextUptoSaid : Prop := fnExactInsTextUptoRow.holds Try.pinned (OpenSpec.upto fnExactInsTextSpec)

/-- 'laws.FnExactReadIns', WHERE WHAT IT READS IS OF BULK AT MOST 1048576: true; the input reads as it did. -/
def fnExactReadInsUptoRow : OpenClaim := { program := "ytfchokhdhnfajaa", sum := "18a6abf294f1d6854e816dd4b13f454f7f54df1b806d4becd3c14aab94facde8", func := "loop.example/g00397/laws.FnExactReadIns", spec := "fnExactReadIns", apart := false, narrowed := true }
def FnExactReadInsUptoSaid : Prop := fnExactReadInsUptoRow.holds Try.pinned (OpenSpec.upto fnExactReadInsSpec)

/-- 'laws.FnExactProgramText', WHERE WHAT IT READS IS OF BULK AT MOST 1048576: true; the input reads as it did. -/
def fnExactProgramTextUptoRow : OpenClaim := { program := "ytfchokhdhnfajaa", sum := "18a6abf294f1d6854e816dd4b13f454f7f54df1b806d4becd3c14aab94facde8", func := "loop.example/g00397/laws.FnExactProgramText", spec := "fnExactProgramText", apart := false, narrowed := true }
def FnExactProgramTextUptoSaid : Prop := fnExactProgramTextUptoRow.holds Try.pinned (OpenSpec.upto fnExactProgramTextSpec)

/-- 'laws.FnExactReadProgram', WHERE WHAT IT READS IS OF BULK AT MOST 1048576: true; the input reads as it did. -/
def fnExactReadProgramUptoRow : OpenClaim := { program := "ytfchokhdhnfajaa", sum := "18a6abf294f1d6854e816dd4b13f454f7f54df1b806d4becd3c14aab94facde8", func := "loop.example/g00397/laws.FnExactReadProgram", spec := "fnExactReadProgram", apart := false, narrowed := true }
def FnExactReadProgramUptoSaid : Prop := fnExactReadProgramUptoRow.holds Try.pinned (OpenSpec.upto fnExactReadProgramSpec)

/-- 'laws.FnPrograms', WHERE WHAT IT READS IS OF BULK AT MOST 1048576: true; the input reads as it did. -/
def fnProgramsUptoRow : OpenClaim := { program := "ytfchokhdhnfajaa", sum := "18a6abf294f1d6854e816dd4b13f454f7f54df1b806d4becd3c14aab94facde8", func := "loop.example/g00397/laws.FnPrograms", spec := "fnPrograms", apart := false, narrowed := true }
def FnProgramsUptoSaid : Prop := fnProgramsUptoRow.holds Try.pinned (OpenSpec.upto fnProgramsSpec)

/-- 'laws.FnExactCheckProgram', WHERE WHAT IT READS IS OF BULK AT MOST 1048576: true; the input reads as it did. -/
def fnExactCheckProgramUptoRow : OpenClaim := { program := "ytfchokhdhnfajaa", sum := "18a6abf294f1d6854e816dd4b13f454f7f54df1b806d4becd3c14aab94facde8", func := "loop.example/g00397/laws.FnExactCheckProgram", spec := "fnExactCheckProgram", apart := false, narrowed := true }
def FnExactCheckProgramUptoSaid : Prop := fnExactCheckProgramUptoRow.holds Try.pinned (OpenSpec.upto fnExactCheckProgramSpec)

/-- 'laws.FnExactRun', WHERE WHAT IT READS IS OF BULK AT MOST 1048576: true; the input reads as it did. -/
def fnExactRunUptoRow : OpenClaim := { program := "ytfchokhdhnfajaa", sum := "18a6abf294f1d6854e816dd4b13f454f7f54df1b806d4becd3c14aab94facde8", func := "loop.example/g00397/laws.FnExactRun", spec := "fnExactRun", apart := false, narrowed := true }
def FnExactRunUptoSaid : Prop := fnExactRunUptoRow.holds Try.pinned (OpenSpec.upto fnExactRunSpec)

/-- 'laws.FnRunTold', WHERE WHAT IT READS IS OF BULK AT MOST 1048576: true; the input reads as it did. -/
def fnRunToldUptoRow : OpenClaim := { program := "ytfchokhdhnfajaa", sum := "18a6abf294f1d6854e816dd4b13f454f7f54df1b806d4becd3c14aab94facde8", func := "loop.example/g00397/laws.FnRunTold", spec := "fnRunTold", apart := false, narrowed := true }
def FnRunToldUptoSaid : Prop := fnRunToldUptoRow.holds Try.pinned (OpenSpec.upto fnRunToldSpec)

/-- 'laws.FnExactReached', WHERE WHAT IT READS IS OF BULK AT MOST 1048576: true; the input reads as it did. -/
def fnExactReachedUptoRow : OpenClaim := { program := "ytfchokhdhnfajaa", sum := "18a6abf294f1d6854e816dd4b13f454f7f54df1b806d4becd3c14aab94facde8", func := "loop.example/g00397/laws.FnExactReached", spec := "fnExactReached", apart := false, narrowed := true }
def FnExactReachedUptoSaid : Prop := fnExactReachedUptoRow.holds Try.pinned (OpenSpec.upto fnExactReachedSpec)

/-- 'laws.FnEnds', WHERE WHAT IT READS IS OF BULK AT MOST 1048576: true; the input reads as it did. -/
def fnEndsUptoRow : OpenClaim := { program := "ytfchokhdhnfajaa", sum := "18a6abf294f1d6854e816dd4b13f454f7f54df1b806d4becd3c14aab94facde8", func := "loop.example/g00397/laws.FnEnds", spec := "fnEnds", apart := false, narrowed := true }
def FnEndsUptoSaid : Prop := fnEndsUptoRow.holds Try.pinned (OpenSpec.upto fnEndsSpec)

/-- 'laws.FnActions', WHERE WHAT IT READS IS OF BULK AT MOST 1048576: true; the input reads as it did. -/
def fnActionsUptoRow : OpenClaim := { program := "ytfchokhdhnfajaa", sum := "18a6abf294f1d6854e816dd4b13f454f7f54df1b806d4becd3c14aab94facde8", func := "loop.example/g00397/laws.FnActions", spec := "fnActions", apart := false, narrowed := true }
def FnActionsUptoSaid : Prop := fnActionsUptoRow.holds Try.pinned (OpenSpec.upto fnActionsSpec)

end Rows
end Go.Proofs.Ytfchokhdhnfajaa
