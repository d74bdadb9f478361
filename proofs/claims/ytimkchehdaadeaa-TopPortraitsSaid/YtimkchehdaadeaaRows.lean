/-
  No cell of these rows narrows 'for every input' (looked for: loops, veiled, ifaces, maps, wideKeys, modest, calm, conditions, laid).
  DERIVED. THE GIVEN ROWS OF THIS SEAT. 15 by the template 'for every input the law returns true; each argument reads behind the call as it read before'; 0 by the template 'total and deterministic' (their statements: YtimkchehdaadeaaTotals.lean).
  GIVEN WITH THE SEED: the statements are not yours to turn. If you find one false, say at which input.
  Laid BY PROGRAM, IN A SANDBOX (cutbox-rows.mjs): the forced cells as the released guide's own fill.sh prints them over the translation 3662a1663b2bafa5… (all of the seat's roots in one cut). By AI agents, Wed Nov 11 2026. No macro, syntax, notation, axiom, sorry.
-/
import Derived.Test.YtimkchehdaadeaaChecked
import GoSem.Claim
import GoSem.ClaimJoined
import GoSem.ClaimMapViews
import Derived.JoinedTies
import Derived.KernelRfl
namespace Go.Proofs.Ytimkchehdaadeaa
/- THE CELL 'sum', in the pinned program and in every row, IS THE sha256 OF THE DUMP (.gsa) THAT YtimkchehdaadeaaProg.lean LOADS. Nothing in Lean hashes anything: it is a label: what it is worth is what the hold of that sum in a sandbox is worth. -/
noncomputable def Try.pinned : Pinned := { name := "ytimkchehdaadeaa", sum := "3662a1663b2bafa532004c385c0ba4eab520a16c0a74a54b9b7d740f5cfd1f5b", checked := Try.checked }
namespace Rows
def none {H : Type} : Left H := { results := [], args := [] }

/-- 'padlocklaw01.CodesAnswers': WHATEVER THE INPUT: true; the input reads as it did. -/
def codesAnswersSpec : ChangeSpec := { name := "codesAnswers", fn := fun _ => fun
  | [d1, d2, d3] => { results := [.lit (.bool true)], args := [d1, d2, d3] }
  | _ => none }
def codesAnswersRow : OpenClaim := { program := "ytimkchehdaadeaa", sum := "3662a1663b2bafa532004c385c0ba4eab520a16c0a74a54b9b7d740f5cfd1f5b", func := "padlock/padlocklaw01.CodesAnswers", spec := "codesAnswers", unfollowed := true, recurses := true, apart := false }
def CodesAnswersSaid : Prop := codesAnswersRow.holds Try.pinned (OpenSpec.ofChange codesAnswersSpec)

/-- ITS FALSE NEIGHBOUR: 'it returns false'. Refute it at one input. -/
def codesAnswersWrong : ChangeSpec := { name := "codesAnswers", fn := fun _ => fun
  | [d1, d2, d3] => { results := [.lit (.bool false)], args := [d1, d2, d3] }
  | _ => none }
def CodesAnswersWrongFalsely : Prop := codesAnswersRow.holds Try.pinned (OpenSpec.ofChange codesAnswersWrong)

/-- 'padlocklaw01.CodesMirror': WHATEVER THE INPUT: true; the input reads as it did. -/
def codesMirrorSpec : ChangeSpec := { name := "codesMirror", fn := fun _ => fun
  | [d1, d2, d3] => { results := [.lit (.bool true)], args := [d1, d2, d3] }
  | _ => none }
def codesMirrorRow : OpenClaim := { program := "ytimkchehdaadeaa", sum := "3662a1663b2bafa532004c385c0ba4eab520a16c0a74a54b9b7d740f5cfd1f5b", func := "padlock/padlocklaw01.CodesMirror", spec := "codesMirror", unfollowed := true, recurses := true, apart := false }
def CodesMirrorSaid : Prop := codesMirrorRow.holds Try.pinned (OpenSpec.ofChange codesMirrorSpec)

/-- ITS FALSE NEIGHBOUR: 'it returns false'. Refute it at one input. -/
def codesMirrorWrong : ChangeSpec := { name := "codesMirror", fn := fun _ => fun
  | [d1, d2, d3] => { results := [.lit (.bool false)], args := [d1, d2, d3] }
  | _ => none }
def CodesMirrorWrongFalsely : Prop := codesMirrorRow.holds Try.pinned (OpenSpec.ofChange codesMirrorWrong)

/-- 'padlocklaw01.CodesFits': WHATEVER THE INPUT: true; the input reads as it did. -/
def codesFitsSpec : ChangeSpec := { name := "codesFits", fn := fun _ => fun
  | [d1, d2, d3] => { results := [.lit (.bool true)], args := [d1, d2, d3] }
  | _ => none }
def codesFitsRow : OpenClaim := { program := "ytimkchehdaadeaa", sum := "3662a1663b2bafa532004c385c0ba4eab520a16c0a74a54b9b7d740f5cfd1f5b", func := "padlock/padlocklaw01.CodesFits", spec := "codesFits", unfollowed := true, recurses := true, apart := false }
def CodesFitsSaid : Prop := codesFitsRow.holds Try.pinned (OpenSpec.ofChange codesFitsSpec)

/-- ITS FALSE NEIGHBOUR: 'it returns false'. Refute it at one input. -/
def codesFitsWrong : ChangeSpec := { name := "codesFits", fn := fun _ => fun
  | [d1, d2, d3] => { results := [.lit (.bool false)], args := [d1, d2, d3] }
  | _ => none }
def CodesFitsWrongFalsely : Prop := codesFitsRow.holds Try.pinned (OpenSpec.ofChange codesFitsWrong)

/-- 'padlocklaw01.CodesChecks': WHATEVER THE INPUT: true; the input reads as it did. -/
def codesChecksSpec : ChangeSpec := { name := "codesChecks", fn := fun _ => fun
  | [d1, d2, d3] => { results := [.lit (.bool true)], args := [d1, d2, d3] }
  | _ => none }
def codesChecksRow : OpenClaim := { program := "ytimkchehdaadeaa", sum := "3662a1663b2bafa532004c385c0ba4eab520a16c0a74a54b9b7d740f5cfd1f5b", func := "padlock/padlocklaw01.CodesChecks", spec := "codesChecks", unfollowed := true, recurses := true, apart := false }
def CodesChecksSaid : Prop := codesChecksRow.holds Try.pinned (OpenSpec.ofChange codesChecksSpec)

/-- ITS FALSE NEIGHBOUR: 'it returns false'. Refute it at one input. -/
def codesChecksWrong : ChangeSpec := { name := "codesChecks", fn := fun _ => fun
  | [d1, d2, d3] => { results := [.lit (.bool false)], args := [d1, d2, d3] }
  | _ => none }
def CodesChecksWrongFalsely : Prop := codesChecksRow.holds Try.pinned (OpenSpec.ofChange codesChecksWrong)

/-- 'padlocklaw01.CodesImplies': WHATEVER THE INPUT: true; the input reads as it did. -/
def codesImpliesSpec : ChangeSpec := { name := "codesImplies", fn := fun _ => fun
  | [d1, d2, d3] => { results := [.lit (.bool true)], args := [d1, d2, d3] }
  | _ => none }
def codesImpliesRow : OpenClaim := { program := "ytimkchehdaadeaa", sum := "3662a1663b2bafa532004c385c0ba4eab520a16c0a74a54b9b7d740f5cfd1f5b", func := "padlock/padlocklaw01.CodesImplies", spec := "codesImplies", unfollowed := true, recurses := true, apart := false }
def CodesImpliesSaid : Prop := codesImpliesRow.holds Try.pinned (OpenSpec.ofChange codesImpliesSpec)

/-- ITS FALSE NEIGHBOUR: 'it returns false'. Refute it at one input. -/
def codesImpliesWrong : ChangeSpec := { name := "codesImplies", fn := fun _ => fun
  | [d1, d2, d3] => { results := [.lit (.bool false)], args := [d1, d2, d3] }
  | _ => none }
def CodesImpliesWrongFalsely : Prop := codesImpliesRow.holds Try.pinned (OpenSpec.ofChange codesImpliesWrong)

/-- 'padlocklaw01.CodesExact': WHATEVER THE INPUT: true; the input reads as it did. -/
def codesExactSpec : ChangeSpec := { name := "codesExact", fn := fun _ => fun
  | [d1, d2, d3] => { results := [.lit (.bool true)], args := [d1, d2, d3] }
  | _ => none }
def codesExactRow : OpenClaim := { program := "ytimkchehdaadeaa", sum := "3662a1663b2bafa532004c385c0ba4eab520a16c0a74a54b9b7d740f5cfd1f5b", func := "padlock/padlocklaw01.CodesExact", spec := "codesExact", unfollowed := true, recurses := true, apart := false }
def CodesExactSaid : Prop := codesExactRow.holds Try.pinned (OpenSpec.ofChange codesExactSpec)

/-- ITS FALSE NEIGHBOUR: 'it returns false'. Refute it at one input. -/
def codesExactWrong : ChangeSpec := { name := "codesExact", fn := fun _ => fun
  | [d1, d2, d3] => { results := [.lit (.bool false)], args := [d1, d2, d3] }
  | _ => none }
def CodesExactWrongFalsely : Prop := codesExactRow.holds Try.pinned (OpenSpec.ofChange codesExactWrong)

/-- 'padlocktop.TopPortraits': WHATEVER THE INPUT: true; the input reads as it did. -/
def topPortraitsSpec : ChangeSpec := { name := "topPortraits", fn := fun _ => fun
  | [d1, d2] => { results := [.lit (.bool true)], args := [d1, d2] }
  | _ => none }
def topPortraitsRow : OpenClaim := { program := "ytimkchehdaadeaa", sum := "3662a1663b2bafa532004c385c0ba4eab520a16c0a74a54b9b7d740f5cfd1f5b", func := "padlock/padlocktop.TopPortraits", spec := "topPortraits", unfollowed := true, recurses := true, apart := false }
def TopPortraitsSaid : Prop := topPortraitsRow.holds Try.pinned (OpenSpec.ofChange topPortraitsSpec)

/-- ITS FALSE NEIGHBOUR: 'it returns false'. Refute it at one input. -/
def topPortraitsWrong : ChangeSpec := { name := "topPortraits", fn := fun _ => fun
  | [d1, d2] => { results := [.lit (.bool false)], args := [d1, d2] }
  | _ => none }
def TopPortraitsWrongFalsely : Prop := topPortraitsRow.holds Try.pinned (OpenSpec.ofChange topPortraitsWrong)

/-- 'padlocklaw01.CodesNext': WHATEVER THE INPUT: true; the input reads as it did. -/
def codesNextSpec : ChangeSpec := { name := "codesNext", fn := fun _ => fun
  | [d1, d2] => { results := [.lit (.bool true)], args := [d1, d2] }
  | _ => none }
def codesNextRow : OpenClaim := { program := "ytimkchehdaadeaa", sum := "3662a1663b2bafa532004c385c0ba4eab520a16c0a74a54b9b7d740f5cfd1f5b", func := "padlock/padlocklaw01.CodesNext", spec := "codesNext", unfollowed := true, recurses := true, apart := false }
def CodesNextSaid : Prop := codesNextRow.holds Try.pinned (OpenSpec.ofChange codesNextSpec)

/-- ITS FALSE NEIGHBOUR: 'it returns false'. Refute it at one input. -/
def codesNextWrong : ChangeSpec := { name := "codesNext", fn := fun _ => fun
  | [d1, d2] => { results := [.lit (.bool false)], args := [d1, d2] }
  | _ => none }
def CodesNextWrongFalsely : Prop := codesNextRow.holds Try.pinned (OpenSpec.ofChange codesNextWrong)

/-- 'padlocklaw01.CodesReads': WHATEVER THE INPUT: true; the input reads as it did. -/
def codesReadsSpec : ChangeSpec := { name := "codesReads", fn := fun _ => fun
  | [d1, d2, d3] => { results := [.lit (.bool true)], args := [d1, d2, d3] }
  | _ => none }
def codesReadsRow : OpenClaim := { program := "ytimkchehdaadeaa", sum := "3662a1663b2bafa532004c385c0ba4eab520a16c0a74a54b9b7d740f5cfd1f5b", func := "padlock/padlocklaw01.CodesReads", spec := "codesReads", unfollowed := true, recurses := true, apart := false }
def CodesReadsSaid : Prop := codesReadsRow.holds Try.pinned (OpenSpec.ofChange codesReadsSpec)

/-- ITS FALSE NEIGHBOUR: 'it returns false'. Refute it at one input. -/
def codesReadsWrong : ChangeSpec := { name := "codesReads", fn := fun _ => fun
  | [d1, d2, d3] => { results := [.lit (.bool false)], args := [d1, d2, d3] }
  | _ => none }
def CodesReadsWrongFalsely : Prop := codesReadsRow.holds Try.pinned (OpenSpec.ofChange codesReadsWrong)

/-- 'padlocklaw01.CodesLeft': WHATEVER THE INPUT: true; the input reads as it did. -/
def codesLeftSpec : ChangeSpec := { name := "codesLeft", fn := fun _ => fun
  | [d1, d2, d3] => { results := [.lit (.bool true)], args := [d1, d2, d3] }
  | _ => none }
def codesLeftRow : OpenClaim := { program := "ytimkchehdaadeaa", sum := "3662a1663b2bafa532004c385c0ba4eab520a16c0a74a54b9b7d740f5cfd1f5b", func := "padlock/padlocklaw01.CodesLeft", spec := "codesLeft", unfollowed := true, recurses := true, apart := false }
def CodesLeftSaid : Prop := codesLeftRow.holds Try.pinned (OpenSpec.ofChange codesLeftSpec)

/-- ITS FALSE NEIGHBOUR: 'it returns false'. Refute it at one input. -/
def codesLeftWrong : ChangeSpec := { name := "codesLeft", fn := fun _ => fun
  | [d1, d2, d3] => { results := [.lit (.bool false)], args := [d1, d2, d3] }
  | _ => none }
def CodesLeftWrongFalsely : Prop := codesLeftRow.holds Try.pinned (OpenSpec.ofChange codesLeftWrong)

/-- 'padlocklaw01.CodesCores': WHATEVER THE INPUT: true; the input reads as it did. -/
def codesCoresSpec : ChangeSpec := { name := "codesCores", fn := fun _ => fun
  | [d1, d2] => { results := [.lit (.bool true)], args := [d1, d2] }
  | _ => none }
def codesCoresRow : OpenClaim := { program := "ytimkchehdaadeaa", sum := "3662a1663b2bafa532004c385c0ba4eab520a16c0a74a54b9b7d740f5cfd1f5b", func := "padlock/padlocklaw01.CodesCores", spec := "codesCores", unfollowed := true, recurses := true, apart := false }
def CodesCoresSaid : Prop := codesCoresRow.holds Try.pinned (OpenSpec.ofChange codesCoresSpec)

/-- ITS FALSE NEIGHBOUR: 'it returns false'. Refute it at one input. -/
def codesCoresWrong : ChangeSpec := { name := "codesCores", fn := fun _ => fun
  | [d1, d2] => { results := [.lit (.bool false)], args := [d1, d2] }
  | _ => none }
def CodesCoresWrongFalsely : Prop := codesCoresRow.holds Try.pinned (OpenSpec.ofChange codesCoresWrong)

/-- 'padlocklaw01.CodesChooses': WHATEVER THE INPUT: true; the input reads as it did. -/
def codesChoosesSpec : ChangeSpec := { name := "codesChooses", fn := fun _ => fun
  | [d1, d2, d3] => { results := [.lit (.bool true)], args := [d1, d2, d3] }
  | _ => none }
def codesChoosesRow : OpenClaim := { program := "ytimkchehdaadeaa", sum := "3662a1663b2bafa532004c385c0ba4eab520a16c0a74a54b9b7d740f5cfd1f5b", func := "padlock/padlocklaw01.CodesChooses", spec := "codesChooses", unfollowed := true, recurses := true, apart := false }
def CodesChoosesSaid : Prop := codesChoosesRow.holds Try.pinned (OpenSpec.ofChange codesChoosesSpec)

/-- ITS FALSE NEIGHBOUR: 'it returns false'. Refute it at one input. -/
def codesChoosesWrong : ChangeSpec := { name := "codesChooses", fn := fun _ => fun
  | [d1, d2, d3] => { results := [.lit (.bool false)], args := [d1, d2, d3] }
  | _ => none }
def CodesChoosesWrongFalsely : Prop := codesChoosesRow.holds Try.pinned (OpenSpec.ofChange codesChoosesWrong)

/-- 'padlocklaw01.CodesDecoys': WHATEVER THE INPUT: true; the input reads as it did. -/
def codesDecoysSpec : ChangeSpec := { name := "codesDecoys", fn := fun _ => fun
  | [d1, d2] => { results := [.lit (.bool true)], args := [d1, d2] }
  | _ => none }
def codesDecoysRow : OpenClaim := { program := "ytimkchehdaadeaa", sum := "3662a1663b2bafa532004c385c0ba4eab520a16c0a74a54b9b7d740f5cfd1f5b", func := "padlock/padlocklaw01.CodesDecoys", spec := "codesDecoys", unfollowed := true, recurses := true, apart := false }
def CodesDecoysSaid : Prop := codesDecoysRow.holds Try.pinned (OpenSpec.ofChange codesDecoysSpec)

/-- ITS FALSE NEIGHBOUR: 'it returns false'. Refute it at one input. -/
def codesDecoysWrong : ChangeSpec := { name := "codesDecoys", fn := fun _ => fun
  | [d1, d2] => { results := [.lit (.bool false)], args := [d1, d2] }
  | _ => none }
def CodesDecoysWrongFalsely : Prop := codesDecoysRow.holds Try.pinned (OpenSpec.ofChange codesDecoysWrong)

/-- 'padlocklaw01.CodesFewest': WHATEVER THE INPUT: true; the input reads as it did. -/
def codesFewestSpec : ChangeSpec := { name := "codesFewest", fn := fun _ => fun
  | [d1, d2, d3] => { results := [.lit (.bool true)], args := [d1, d2, d3] }
  | _ => none }
def codesFewestRow : OpenClaim := { program := "ytimkchehdaadeaa", sum := "3662a1663b2bafa532004c385c0ba4eab520a16c0a74a54b9b7d740f5cfd1f5b", func := "padlock/padlocklaw01.CodesFewest", spec := "codesFewest", unfollowed := true, recurses := true, apart := false }
def CodesFewestSaid : Prop := codesFewestRow.holds Try.pinned (OpenSpec.ofChange codesFewestSpec)

/-- ITS FALSE NEIGHBOUR: 'it returns false'. Refute it at one input. -/
def codesFewestWrong : ChangeSpec := { name := "codesFewest", fn := fun _ => fun
  | [d1, d2, d3] => { results := [.lit (.bool false)], args := [d1, d2, d3] }
  | _ => none }
def CodesFewestWrongFalsely : Prop := codesFewestRow.holds Try.pinned (OpenSpec.ofChange codesFewestWrong)

/-- 'padlocklaw01.CodesOne': WHATEVER THE INPUT: true; the input reads as it did. -/
def codesOneSpec : ChangeSpec := { name := "codesOne", fn := fun _ => fun
  | [d1, d2, d3] => { results := [.lit (.bool true)], args := [d1, d2, d3] }
  | _ => none }
def codesOneRow : OpenClaim := { program := "ytimkchehdaadeaa", sum := "3662a1663b2bafa532004c385c0ba4eab520a16c0a74a54b9b7d740f5cfd1f5b", func := "padlock/padlocklaw01.CodesOne", spec := "codesOne", unfollowed := true, recurses := true, apart := false }
def CodesOneSaid : Prop := codesOneRow.holds Try.pinned (OpenSpec.ofChange codesOneSpec)

/-- ITS FALSE NEIGHBOUR: 'it returns false'. Refute it at one input. -/
def codesOneWrong : ChangeSpec := { name := "codesOne", fn := fun _ => fun
  | [d1, d2, d3] => { results := [.lit (.bool false)], args := [d1, d2, d3] }
  | _ => none }
def CodesOneWrongFalsely : Prop := codesOneRow.holds Try.pinned (OpenSpec.ofChange codesOneWrong)

/- THE SECOND FORM. 'bulk': how many values and letters a reading holds, each counted each time it is reached (what is shared counts as often as it is met; a slice's spare places count too). A statement '..UptoSaid' is the law's where the arguments, and the package variables that the reading takes, are together of bulk at most 1048576: NARROWER than '..Said'. Prove '..Said' where nothing that the law and all that it calls make is longer than what came in: it says more and counts as full. Else prove '..UptoSaid'. A law counts once. -/
mutual
def uptoBulk {H : Type} : DataW H → Nat
  | .lit (.string bytes) => bytes.length + 1
  | .lit _ => 1
  | .nil => 1
  | .ptr d => uptoBulk d + 1
  | .slice elems spare => uptoBulkAll elems + uptoBulkAll spare + 1
  | .agg parts => uptoBulkAll parts + 1
  | .iface _ d => uptoBulk d + 1
  | .map entries => uptoBulkEntries entries + 1
  | .held _ => 1
def uptoBulkAll {H : Type} : List (DataW H) → Nat
  | [] => 0
  | d :: r => uptoBulk d + uptoBulkAll r
def uptoBulkEntries {H : Type} : List (Lit × DataW H) → Nat
  | [] => 0
  | x :: r => uptoBulkEntry x + uptoBulkEntries r
def uptoBulkEntry {H : Type} : Lit × DataW H → Nat
  | (.string bytes, d) => bytes.length + uptoBulk d + 1
  | (_, d) => uptoBulk d + 1
 end
def uptoSmall : (H : Type) → List (DataW H) → Bool := fun _ ds => decide (uptoBulkAll ds ≤ 1048576)
def OpenSpec.upto (s : _root_.Go.ChangeSpec) : _root_.Go.OpenSpec := { _root_.Go.OpenSpec.ofChange s with cond := some uptoSmall }

/-- 'padlocklaw01.CodesAnswers', WHERE WHAT IT READS IS OF BULK AT MOST 1048576: true; the input reads as it did. -/
def codesAnswersUptoRow : OpenClaim := { program := "ytimkchehdaadeaa", sum := "3662a1663b2bafa532004c385c0ba4eab520a16c0a74a54b9b7d740f5cfd1f5b", func := "padlock/padlocklaw01.CodesAnswers", spec := "codesAnswers", unfollowed := true, recurses := true, apart := false, narrowed := true }
def CodesAnswersUptoSaid : Prop := codesAnswersUptoRow.holds Try.pinned (OpenSpec.upto codesAnswersSpec)

/-- 'padlocklaw01.CodesMirror', WHERE WHAT IT READS IS OF BULK AT MOST 1048576: true; the input reads as it did. -/
def codesMirrorUptoRow : OpenClaim := { program := "ytimkchehdaadeaa", sum := "3662a1663b2bafa532004c385c0ba4eab520a16c0a74a54b9b7d740f5cfd1f5b", func := "padlock/padlocklaw01.CodesMirror", spec := "codesMirror", unfollowed := true, recurses := true, apart := false, narrowed := true }
def CodesMirrorUptoSaid : Prop := codesMirrorUptoRow.holds Try.pinned (OpenSpec.upto codesMirrorSpec)

/-- 'padlocklaw01.CodesFits', WHERE WHAT IT READS IS OF BULK AT MOST 1048576: true; the input reads as it did. -/
def codesFitsUptoRow : OpenClaim := { program := "ytimkchehdaadeaa", sum := "3662a1663b2bafa532004c385c0ba4eab520a16c0a74a54b9b7d740f5cfd1f5b", func := "padlock/padlocklaw01.CodesFits", spec := "codesFits", unfollowed := true, recurses := true, apart := false, narrowed := true }
def CodesFitsUptoSaid : Prop := codesFitsUptoRow.holds Try.pinned (OpenSpec.upto codesFitsSpec)

/-- 'padlocklaw01.CodesChecks', WHERE WHAT IT READS IS OF BULK AT MOST 1048576: true; the input reads as it did. -/
def codesChecksUptoRow : OpenClaim := { program := "ytimkchehdaadeaa", sum := "3662a1663b2bafa532004c385c0ba4eab520a16c0a74a54b9b7d740f5cfd1f5b", func := "padlock/padlocklaw01.CodesChecks", spec := "codesChecks", unfollowed := true, recurses := true, apart := false, narrowed := true }
def CodesChecksUptoSaid : Prop := codesChecksUptoRow.holds Try.pinned (OpenSpec.upto codesChecksSpec)

/-- 'padlocklaw01.CodesImplies', WHERE WHAT IT READS IS OF BULK AT MOST 1048576: true; the input reads as it did. -/
def codesImpliesUptoRow : OpenClaim := { program := "ytimkchehdaadeaa", sum := "3662a1663b2bafa532004c385c0ba4eab520a16c0a74a54b9b7d740f5cfd1f5b", func := "padlock/padlocklaw01.CodesImplies", spec := "codesImplies", unfollowed := true, recurses := true, apart := false, narrowed := true }
def CodesImpliesUptoSaid : Prop := codesImpliesUptoRow.holds Try.pinned (OpenSpec.upto codesImpliesSpec)

/-- 'padlocklaw01.CodesExact', WHERE WHAT IT READS IS OF BULK AT MOST 1048576: true; the input reads as it did. -/
def codesExactUptoRow : OpenClaim := { program := "ytimkchehdaadeaa", sum := "3662a1663b2bafa532004c385c0ba4eab520a16c0a74a54b9b7d740f5cfd1f5b", func := "padlock/padlocklaw01.CodesExact", spec := "codesExact", unfollowed := true, recurses := true, apart := false, narrowed := true }
def CodesExactUptoSaid : Prop := codesExactUptoRow.holds Try.pinned (OpenSpec.upto codesExactSpec)

/-- 'padlocktop.TopPortraits', WHERE WHAT IT READS IS OF BULK AT MOST 1048576: true; the input reads as it did. -/
def topPortraitsUptoRow : OpenClaim := { program := "ytimkchehdaadeaa", sum := "3662a1663b2bafa532004c385c0ba4eab520a16c0a74a54b9b7d740f5cfd1f5b", func := "padlock/padlocktop.TopPortraits", spec := "topPortraits", unfollowed := true, recurses := true, apart := false, narrowed := true }
def TopPortraitsUptoSaid : Prop := topPortraitsUptoRow.holds Try.pinned (OpenSpec.upto topPortraitsSpec)

/-- 'padlocklaw01.CodesNext', WHERE WHAT IT READS IS OF BULK AT MOST 1048576: true; the input reads as it did. -/
def codesNextUptoRow : OpenClaim := { program := "ytimkchehdaadeaa", sum := "3662a1663b2bafa532004c385c0ba4eab520a16c0a74a54b9b7d740f5cfd1f5b", func := "padlock/padlocklaw01.CodesNext", spec := "codesNext", unfollowed := true, recurses := true, apart := false, narrowed := true }
def CodesNextUptoSaid : Prop := codesNextUptoRow.holds Try.pinned (OpenSpec.upto codesNextSpec)

/-- 'padlocklaw01.CodesReads', WHERE WHAT IT READS IS OF BULK AT MOST 1048576: true; the input reads as it did. -/
def codesReadsUptoRow : OpenClaim := { program := "ytimkchehdaadeaa", sum := "3662a1663b2bafa532004c385c0ba4eab520a16c0a74a54b9b7d740f5cfd1f5b", func := "padlock/padlocklaw01.CodesReads", spec := "codesReads", unfollowed := true, recurses := true, apart := false, narrowed := true }
def CodesReadsUptoSaid : Prop := codesReadsUptoRow.holds Try.pinned (OpenSpec.upto codesReadsSpec)

/-- 'padlocklaw01.CodesLeft', WHERE WHAT IT READS IS OF BULK AT MOST 1048576: true; the input reads as it did. -/
def codesLeftUptoRow : OpenClaim := { program := "ytimkchehdaadeaa", sum := "3662a1663b2bafa532004c385c0ba4eab520a16c0a74a54b9b7d740f5cfd1f5b", func := "padlock/padlocklaw01.CodesLeft", spec := "codesLeft", unfollowed := true, recurses := true, apart := false, narrowed := true }
def CodesLeftUptoSaid : Prop := codesLeftUptoRow.holds Try.pinned (OpenSpec.upto codesLeftSpec)

/-- 'padlocklaw01.CodesCores', WHERE WHAT IT READS IS OF BULK AT MOST 1048576: true; the input reads as it did. -/
def codesCoresUptoRow : OpenClaim := { program := "ytimkchehdaadeaa", sum := "3662a1663b2bafa532004c385c0ba4eab520a16c0a74a54b9b7d740f5cfd1f5b", func := "padlock/padlocklaw01.CodesCores", spec := "codesCores", unfollowed := true, recurses := true, apart := false, narrowed := true }
def CodesCoresUptoSaid : Prop := codesCoresUptoRow.holds Try.pinned (OpenSpec.upto codesCoresSpec)

/-- 'padlocklaw01.CodesChooses', WHERE WHAT IT READS IS OF BULK AT MOST 1048576: true; the input reads as it did. -/
def codesChoosesUptoRow : OpenClaim := { program := "ytimkchehdaadeaa", sum := "3662a1663b2bafa532004c385c0ba4eab520a16c0a74a54b9b7d740f5cfd1f5b", func := "padlock/padlocklaw01.CodesChooses", spec := "codesChooses", unfollowed := true, recurses := true, apart := false, narrowed := true }
def CodesChoosesUptoSaid : Prop := codesChoosesUptoRow.holds Try.pinned (OpenSpec.upto codesChoosesSpec)

/-- 'padlocklaw01.CodesDecoys', WHERE WHAT IT READS IS OF BULK AT MOST 1048576: true; the input reads as it did. -/
def codesDecoysUptoRow : OpenClaim := { program := "ytimkchehdaadeaa", sum := "3662a1663b2bafa532004c385c0ba4eab520a16c0a74a54b9b7d740f5cfd1f5b", func := "padlock/padlocklaw01.CodesDecoys", spec := "codesDecoys", unfollowed := true, recurses := true, apart := false, narrowed := true }
def CodesDecoysUptoSaid : Prop := codesDecoysUptoRow.holds Try.pinned (OpenSpec.upto codesDecoysSpec)

/-- 'padlocklaw01.CodesFewest', WHERE WHAT IT READS IS OF BULK AT MOST 1048576: true; the input reads as it did. -/
def codesFewestUptoRow : OpenClaim := { program := "ytimkchehdaadeaa", sum := "3662a1663b2bafa532004c385c0ba4eab520a16c0a74a54b9b7d740f5cfd1f5b", func := "padlock/padlocklaw01.CodesFewest", spec := "codesFewest", unfollowed := true, recurses := true, apart := false, narrowed := true }
def CodesFewestUptoSaid : Prop := codesFewestUptoRow.holds Try.pinned (OpenSpec.upto codesFewestSpec)

/-- 'padlocklaw01.CodesOne', WHERE WHAT IT READS IS OF BULK AT MOST 1048576: true; the input reads as it did. -/
def codesOneUptoRow : OpenClaim := { program := "ytimkchehdaadeaa", sum := "3662a1663b2bafa532004c385c0ba4eab520a16c0a74a54b9b7d740f5cfd1f5b", func := "padlock/padlocklaw01.CodesOne", spec := "codesOne", unfollowed := true, recurses := true, apart := false, narrowed := true }
def CodesOneUptoSaid : Prop := codesOneUptoRow.holds Try.pinned (OpenSpec.upto codesOneSpec)

end Rows
end Go.Proofs.Ytimkchehdaadeaa
