/-
  No cell of these rows narrows 'for every input' (looked for: loops, veiled, ifaces, maps, wideKeys, modest, calm, conditions, laid).
  DERIVED. THE GIVEN ROWS OF THIS SEAT. 9 by the template 'for every input the law returns true; each argument reads behind the call as it read before'; 0 by the template 'total and deterministic' (their statements: YtmeopnnhoodlaaaTotals.lean).
  GIVEN WITH THE SEED: the statements are not yours to turn. If you find one false, say at which input.
  Laid BY PROGRAM, IN A SANDBOX (cutbox-rows.mjs): the forced cells as the released guide's own fill.sh prints them over the translation dffb48cd5f7666f0… (all of the seat's roots in one cut). By AI agents, Wed Nov 11 2026. No macro, syntax, notation, axiom, sorry.
-/
import Derived.Test.YtmeopnnhoodlaaaChecked
import GoSem.Claim
import GoSem.ClaimJoined
import GoSem.ClaimMapViews
import Derived.JoinedTies
import Derived.KernelRfl
namespace Go.Proofs.Ytmeopnnhoodlaaa
/- THE CELL 'sum', in the pinned program and in every row, IS THE sha256 OF THE DUMP (.gsa) THAT YtmeopnnhoodlaaaProg.lean LOADS. Nothing in Lean hashes anything: it is a label: what it is worth is what the hold of that sum in a sandbox is worth. -/
noncomputable def Try.pinned : Pinned := { name := "ytmeopnnhoodlaaa", sum := "dffb48cd5f7666f0a474558b19da1c40d841baed71cd2d9ce4a23d1d7d5d20d9", checked := Try.checked }
namespace Rows
def none {H : Type} : Left H := { results := [], args := [] }

/-- 'watchwordlaw1.Shas': WHATEVER THE INPUT: true; the input reads as it did. -/
def shasSpec : ChangeSpec := { name := "shas", fn := fun _ => fun
  | [d] => { results := [.lit (.bool true)], args := [d] }
  | _ => none }
def shasRow : OpenClaim := { program := "ytmeopnnhoodlaaa", sum := "dffb48cd5f7666f0a474558b19da1c40d841baed71cd2d9ce4a23d1d7d5d20d9", func := "watchword/watchwordlaw1.Shas", spec := "shas", inPlace := ["internal/abi.NoEscape", "internal/bytealg.MakeNoZero"], apart := false }
def ShasSaid : Prop := shasRow.holds Try.pinned (OpenSpec.ofChange shasSpec)

/-- ITS FALSE NEIGHBOUR: 'it returns false'. Refute it at one input. -/
def shasWrong : ChangeSpec := { name := "shas", fn := fun _ => fun
  | [d] => { results := [.lit (.bool false)], args := [d] }
  | _ => none }
def ShasWrongFalsely : Prop := shasRow.holds Try.pinned (OpenSpec.ofChange shasWrong)

/-- 'watchwordlaw1.ShaLengths': WHATEVER THE INPUT: true; the input reads as it did. -/
def shaLengthsSpec : ChangeSpec := { name := "shaLengths", fn := fun _ => fun
  | [d1, d2] => { results := [.lit (.bool true)], args := [d1, d2] }
  | _ => none }
def shaLengthsRow : OpenClaim := { program := "ytmeopnnhoodlaaa", sum := "dffb48cd5f7666f0a474558b19da1c40d841baed71cd2d9ce4a23d1d7d5d20d9", func := "watchword/watchwordlaw1.ShaLengths", spec := "shaLengths", inPlace := ["internal/abi.NoEscape", "internal/bytealg.MakeNoZero"], apart := false }
def ShaLengthsSaid : Prop := shaLengthsRow.holds Try.pinned (OpenSpec.ofChange shaLengthsSpec)

/-- ITS FALSE NEIGHBOUR: 'it returns false'. Refute it at one input. -/
def shaLengthsWrong : ChangeSpec := { name := "shaLengths", fn := fun _ => fun
  | [d1, d2] => { results := [.lit (.bool false)], args := [d1, d2] }
  | _ => none }
def ShaLengthsWrongFalsely : Prop := shaLengthsRow.holds Try.pinned (OpenSpec.ofChange shaLengthsWrong)

/-- 'watchwordlaw1.ShaVectors': WHATEVER THE INPUT: true; the input reads as it did. -/
def shaVectorsSpec : ChangeSpec := { name := "shaVectors", fn := fun _ => fun
  | [d] => { results := [.lit (.bool true)], args := [d] }
  | _ => none }
def shaVectorsRow : OpenClaim := { program := "ytmeopnnhoodlaaa", sum := "dffb48cd5f7666f0a474558b19da1c40d841baed71cd2d9ce4a23d1d7d5d20d9", func := "watchword/watchwordlaw1.ShaVectors", spec := "shaVectors", inPlace := ["internal/abi.NoEscape", "internal/bytealg.MakeNoZero"], apart := false }
def ShaVectorsSaid : Prop := shaVectorsRow.holds Try.pinned (OpenSpec.ofChange shaVectorsSpec)

/-- ITS FALSE NEIGHBOUR: 'it returns false'. Refute it at one input. -/
def shaVectorsWrong : ChangeSpec := { name := "shaVectors", fn := fun _ => fun
  | [d] => { results := [.lit (.bool false)], args := [d] }
  | _ => none }
def ShaVectorsWrongFalsely : Prop := shaVectorsRow.holds Try.pinned (OpenSpec.ofChange shaVectorsWrong)

/-- 'watchwordlaw1.ShaTwice': WHATEVER THE INPUT: true; the input reads as it did. -/
def shaTwiceSpec : ChangeSpec := { name := "shaTwice", fn := fun _ => fun
  | [d1, d2] => { results := [.lit (.bool true)], args := [d1, d2] }
  | _ => none }
def shaTwiceRow : OpenClaim := { program := "ytmeopnnhoodlaaa", sum := "dffb48cd5f7666f0a474558b19da1c40d841baed71cd2d9ce4a23d1d7d5d20d9", func := "watchword/watchwordlaw1.ShaTwice", spec := "shaTwice", inPlace := ["internal/abi.NoEscape", "internal/bytealg.MakeNoZero"], apart := false }
def ShaTwiceSaid : Prop := shaTwiceRow.holds Try.pinned (OpenSpec.ofChange shaTwiceSpec)

/-- ITS FALSE NEIGHBOUR: 'it returns false'. Refute it at one input. -/
def shaTwiceWrong : ChangeSpec := { name := "shaTwice", fn := fun _ => fun
  | [d1, d2] => { results := [.lit (.bool false)], args := [d1, d2] }
  | _ => none }
def ShaTwiceWrongFalsely : Prop := shaTwiceRow.holds Try.pinned (OpenSpec.ofChange shaTwiceWrong)

/-- 'watchwordlaw1.ShaParts': WHATEVER THE INPUT: true; the input reads as it did. -/
def shaPartsSpec : ChangeSpec := { name := "shaParts", fn := fun _ => fun
  | [d1, d2] => { results := [.lit (.bool true)], args := [d1, d2] }
  | _ => none }
def shaPartsRow : OpenClaim := { program := "ytmeopnnhoodlaaa", sum := "dffb48cd5f7666f0a474558b19da1c40d841baed71cd2d9ce4a23d1d7d5d20d9", func := "watchword/watchwordlaw1.ShaParts", spec := "shaParts", inPlace := ["internal/abi.NoEscape", "internal/bytealg.MakeNoZero"], apart := false }
def ShaPartsSaid : Prop := shaPartsRow.holds Try.pinned (OpenSpec.ofChange shaPartsSpec)

/-- ITS FALSE NEIGHBOUR: 'it returns false'. Refute it at one input. -/
def shaPartsWrong : ChangeSpec := { name := "shaParts", fn := fun _ => fun
  | [d1, d2] => { results := [.lit (.bool false)], args := [d1, d2] }
  | _ => none }
def ShaPartsWrongFalsely : Prop := shaPartsRow.holds Try.pinned (OpenSpec.ofChange shaPartsWrong)

/-- 'watchwordlaw2.Macs': WHATEVER THE INPUT: true; the input reads as it did. -/
def macsSpec : ChangeSpec := { name := "macs", fn := fun _ => fun
  | [d1, d2, d3] => { results := [.lit (.bool true)], args := [d1, d2, d3] }
  | _ => none }
def macsRow : OpenClaim := { program := "ytmeopnnhoodlaaa", sum := "dffb48cd5f7666f0a474558b19da1c40d841baed71cd2d9ce4a23d1d7d5d20d9", func := "watchword/watchwordlaw2.Macs", spec := "macs", inPlace := ["internal/abi.NoEscape", "internal/bytealg.MakeNoZero"], apart := false }
def MacsSaid : Prop := macsRow.holds Try.pinned (OpenSpec.ofChange macsSpec)

/-- ITS FALSE NEIGHBOUR: 'it returns false'. Refute it at one input. -/
def macsWrong : ChangeSpec := { name := "macs", fn := fun _ => fun
  | [d1, d2, d3] => { results := [.lit (.bool false)], args := [d1, d2, d3] }
  | _ => none }
def MacsWrongFalsely : Prop := macsRow.holds Try.pinned (OpenSpec.ofChange macsWrong)

/-- 'watchwordlaw2.MacForms': WHATEVER THE INPUT: true; the input reads as it did. -/
def macFormsSpec : ChangeSpec := { name := "macForms", fn := fun _ => fun
  | [d1, d2] => { results := [.lit (.bool true)], args := [d1, d2] }
  | _ => none }
def macFormsRow : OpenClaim := { program := "ytmeopnnhoodlaaa", sum := "dffb48cd5f7666f0a474558b19da1c40d841baed71cd2d9ce4a23d1d7d5d20d9", func := "watchword/watchwordlaw2.MacForms", spec := "macForms", inPlace := ["internal/abi.NoEscape", "internal/bytealg.MakeNoZero"], apart := false }
def MacFormsSaid : Prop := macFormsRow.holds Try.pinned (OpenSpec.ofChange macFormsSpec)

/-- ITS FALSE NEIGHBOUR: 'it returns false'. Refute it at one input. -/
def macFormsWrong : ChangeSpec := { name := "macForms", fn := fun _ => fun
  | [d1, d2] => { results := [.lit (.bool false)], args := [d1, d2] }
  | _ => none }
def MacFormsWrongFalsely : Prop := macFormsRow.holds Try.pinned (OpenSpec.ofChange macFormsWrong)

/-- 'watchwordlaw2.MacTurned': WHATEVER THE INPUT: true; the input reads as it did. -/
def macTurnedSpec : ChangeSpec := { name := "macTurned", fn := fun _ => fun
  | [d1, d2, d3, d4] => { results := [.lit (.bool true)], args := [d1, d2, d3, d4] }
  | _ => none }
def macTurnedRow : OpenClaim := { program := "ytmeopnnhoodlaaa", sum := "dffb48cd5f7666f0a474558b19da1c40d841baed71cd2d9ce4a23d1d7d5d20d9", func := "watchword/watchwordlaw2.MacTurned", spec := "macTurned", inPlace := ["internal/abi.NoEscape", "internal/bytealg.MakeNoZero"], apart := false }
def MacTurnedSaid : Prop := macTurnedRow.holds Try.pinned (OpenSpec.ofChange macTurnedSpec)

/-- ITS FALSE NEIGHBOUR: 'it returns false'. Refute it at one input. -/
def macTurnedWrong : ChangeSpec := { name := "macTurned", fn := fun _ => fun
  | [d1, d2, d3, d4] => { results := [.lit (.bool false)], args := [d1, d2, d3, d4] }
  | _ => none }
def MacTurnedWrongFalsely : Prop := macTurnedRow.holds Try.pinned (OpenSpec.ofChange macTurnedWrong)

/-- 'watchwordlaw2.MacKeys': WHATEVER THE INPUT: true; the input reads as it did. -/
def macKeysSpec : ChangeSpec := { name := "macKeys", fn := fun _ => fun
  | [d1, d2] => { results := [.lit (.bool true)], args := [d1, d2] }
  | _ => none }
def macKeysRow : OpenClaim := { program := "ytmeopnnhoodlaaa", sum := "dffb48cd5f7666f0a474558b19da1c40d841baed71cd2d9ce4a23d1d7d5d20d9", func := "watchword/watchwordlaw2.MacKeys", spec := "macKeys", inPlace := ["internal/abi.NoEscape", "internal/bytealg.MakeNoZero"], apart := false }
def MacKeysSaid : Prop := macKeysRow.holds Try.pinned (OpenSpec.ofChange macKeysSpec)

/-- ITS FALSE NEIGHBOUR: 'it returns false'. Refute it at one input. -/
def macKeysWrong : ChangeSpec := { name := "macKeys", fn := fun _ => fun
  | [d1, d2] => { results := [.lit (.bool false)], args := [d1, d2] }
  | _ => none }
def MacKeysWrongFalsely : Prop := macKeysRow.holds Try.pinned (OpenSpec.ofChange macKeysWrong)

/- THE SECOND FORM. 'bulk': how many values and letters a reading holds, each counted each time it is reached (what is shared counts as often as it is met; a slice's spare places count too). A statement '..UptoSaid' is the law's where the arguments, and the package variables that the reading takes, are together of bulk at most 1048576: NARROWER than '..Said'. Prove '..Said' where nothing that the law and all that it calls make is longer than what came in: it says more and counts as full. Else prove '..UptoSaid'. A law counts once. -/
mutual
def uptoBulk {H : Type} : DataW H → Nat
  | .lit (.string bytes) => bytes.length + 1
  | .lit _ => 1
  | .nil => 1
  | .ptr d => uptoBulk d + 1
  | .slice elems spare => uptoBulkAll elems + uptoBulkAll spare + 1
  | .agg parts => uptoBulkAll parts + 1
  | .iface _ d => uptoBulk d + 1
  | .map entries => uptoBulkEntries entries + 1
  | .held _ => 1
def uptoBulkAll {H : Type} : List (DataW H) → Nat
  | [] => 0
  | d :: r => uptoBulk d + uptoBulkAll r
def uptoBulkEntries {H : Type} : List (Lit × DataW H) → Nat
  | [] => 0
  | x :: r => uptoBulkEntry x + uptoBulkEntries r
def uptoBulkEntry {H : Type} : Lit × DataW H → Nat
  | (.string bytes, d) => bytes.length + uptoBulk d + 1
  | (_, d) => uptoBulk d + 1
 end
def uptoSmall : (H : Type) → List (DataW H) → Bool := fun _ ds => decide (uptoBulkAll ds ≤ 1048576)
def OpenSpec.upto (s : _root_.Go.ChangeSpec) : _root_.Go.OpenSpec := { _root_.Go.OpenSpec.ofChange s with cond := some uptoSmall }

/-- 'watchwordlaw1.Shas', WHERE WHAT IT READS IS OF BULK AT MOST 1048576: true; the input reads as it did. -/
def shasUptoRow : OpenClaim := { program := "ytmeopnnhoodlaaa", sum := "dffb48cd5f7666f0a474558b19da1c40d841baed71cd2d9ce4a23d1d7d5d20d9", func := "watchword/watchwordlaw1.Shas", spec := "shas", inPlace := ["internal/abi.NoEscape", "internal/bytealg.MakeNoZero"], apart := false, narrowed := true }
def ShasUptoSaid : Prop := shasUptoRow.holds Try.pinned (OpenSpec.upto shasSpec)

/-- 'watchwordlaw1.ShaLengths', WHERE WHAT IT READS IS OF BULK AT MOST 1048576: true; the input reads as it did. -/
def shaLengthsUptoRow : OpenClaim := { program := "ytmeopnnhoodlaaa", sum := "dffb48cd5f7666f0a474558b19da1c40d841baed71cd2d9ce4a23d1d7d5d20d9", func := "watchword/watchwordlaw1.ShaLengths", spec := "shaLengths", inPlace := ["internal/abi.NoEscape", "internal/bytealg.MakeNoZero"], apart := false, narrowed := true }
def ShaLengthsUptoSaid : Prop := shaLengthsUptoRow.holds Try.pinned (OpenSpec.upto shaLengthsSpec)

/-- 'watchwordlaw1.ShaVectors', WHERE WHAT IT READS IS OF BULK AT MOST 1048576: true; the input reads as it did. -/
def shaVectorsUptoRow : OpenClaim := { program := "ytmeopnnhoodlaaa", sum := "dffb48cd5f7666f0a474558b19da1c40d841baed71cd2d9ce4a23d1d7d5d20d9", func := "watchword/watchwordlaw1.ShaVectors", spec := "shaVectors", inPlace := ["internal/abi.NoEscape", "internal/bytealg.MakeNoZero"], apart := false, narrowed := true }
def ShaVectorsUptoSaid : Prop := shaVectorsUptoRow.holds Try.pinned (OpenSpec.upto shaVectorsSpec)

/-- 'watchwordlaw1.ShaTwice', WHERE WHAT IT READS IS OF BULK AT MOST 1048576: true; the input reads as it did. -/
def shaTwiceUptoRow : OpenClaim := { program := "ytmeopnnhoodlaaa", sum := "dffb48cd5f7666f0a474558b19da1c40d841baed71cd2d9ce4a23d1d7d5d20d9", func := "watchword/watchwordlaw1.ShaTwice", spec := "shaTwice", inPlace := ["internal/abi.NoEscape", "internal/bytealg.MakeNoZero"], apart := false, narrowed := true }
def ShaTwiceUptoSaid : Prop := shaTwiceUptoRow.holds Try.pinned (OpenSpec.upto shaTwiceSpec)

/-- 'watchwordlaw1.ShaParts', WHERE WHAT IT READS IS OF BULK AT MOST 1048576: true; the input reads as it did. -/
def shaPartsUptoRow : OpenClaim := { program := "ytmeopnnhoodlaaa", sum := "dffb48cd5f7666f0a474558b19da1c40d841baed71cd2d9ce4a23d1d7d5d20d9", func := "watchword/watchwordlaw1.ShaParts", spec := "shaParts", inPlace := ["internal/abi.NoEscape", "internal/bytealg.MakeNoZero"], apart := false, narrowed := true }
def ShaPartsUptoSaid : Prop := shaPartsUptoRow.holds Try.pinned (OpenSpec.upto shaPartsSpec)

/-- 'watchwordlaw2.Macs', WHERE WHAT IT READS IS OF BULK AT MOST 1048576: true; the input reads as it did. -/
def macsUptoRow : OpenClaim := { program := "ytmeopnnhoodlaaa", sum := "dffb48cd5f7666f0a474558b19da1c40d841baed71cd2d9ce4a23d1d7d5d20d9", func := "watchword/watchwordlaw2.Macs", spec := "macs", inPlace := ["internal/abi.NoEscape", "internal/bytealg.MakeNoZero"], apart := false, narrowed := true }
def MacsUptoSaid : Prop := macsUptoRow.holds Try.pinned (OpenSpec.upto macsSpec)

/-- 'watchwordlaw2.MacForms', WHERE WHAT IT READS IS OF BULK AT MOST 1048576: true; the input reads as it did. -/
def macFormsUptoRow : OpenClaim := { program := "ytmeopnnhoodlaaa", sum := "dffb48cd5f7666f0a474558b19da1c40d841baed71cd2d9ce4a23d1d7d5d20d9", func := "watchword/watchwordlaw2.MacForms", spec := "macForms", inPlace := ["internal/abi.NoEscape", "internal/bytealg.MakeNoZero"], apart := false, narrowed := true }
def MacFormsUptoSaid : Prop := macFormsUptoRow.holds Try.pinned (OpenSpec.upto macFormsSpec)

/-- 'watchwordlaw2.MacTurned', WHERE WHAT IT READS IS OF BULK AT MOST 1048576: true; the input reads as it did. -/
def macTurnedUptoRow : OpenClaim := { program := "ytmeopnnhoodlaaa", sum := "dffb48cd5f7666f0a474558b19da1c40d841baed71cd2d9ce4a23d1d7d5d20d9", func := "watchword/watchwordlaw2.MacTurned", spec := "macTurned", inPlace := ["internal/abi.NoEscape", "internal/bytealg.MakeNoZero"], apart := false, narrowed := true }
def MacTurnedUptoSaid : Prop := macTurnedUptoRow.holds Try.pinned (OpenSpec.upto macTurnedSpec)

/-- 'watchwordlaw2.MacKeys', WHERE WHAT IT READS IS OF BULK AT MOST 1048576: true; the input reads as it did. -/
def macKeysUptoRow : OpenClaim := { program := "ytmeopnnhoodlaaa", sum := "dffb48cd5f7666f0a474558b19da1c40d841baed71cd2d9ce4a23d1d7d5d20d9", func := "watchword/watchwordlaw2.MacKeys", spec := "macKeys", inPlace := ["internal/abi.NoEscape", "internal/bytealg.MakeNoZero"], apart := false, narrowed := true }
def MacKeysUptoSaid : Prop := macKeysUptoRow.holds Try.pinned (OpenSpec.upto macKeysSpec)

end Rows
end Go.Proofs.Ytmeopnnhoodlaaa
