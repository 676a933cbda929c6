/-
  No cell of these rows narrows 'for every input' (looked for: loops, veiled, ifaces, maps, wideKeys, modest, calm, conditions, laid).
  DERIVED. THE GIVEN ROWS OF THIS SEAT. 8 by the template 'for every input the law returns true; each argument reads behind the call as it read before'; 0 by the template 'total and deterministic' (their statements: YtpgkgpecbjjifaaGreatTotals.lean).
  GIVEN WITH THE SEED: the statements are not yours to turn. If you find one false, say at which input.
  Laid BY PROGRAM, IN A SANDBOX (cutbox-rows.mjs): the forced cells as the released guide's own fill.sh prints them over the translation ff0a199cbd7a253f… (all of the seat's roots in one cut). By AI agents, Wed Nov 11 2026. No macro, syntax, notation, axiom, sorry.
-/
import Derived.Test.YtpgkgpecbjjifaaGreatChecked
import GoSem.Claim
import GoSem.ClaimJoined
import GoSem.ClaimMapViews
import Derived.JoinedTies
import Derived.KernelRfl
namespace Go.Proofs.YtpgkgpecbjjifaaGreat
/- THE CELL 'sum', in the pinned program and in every row, IS THE sha256 OF THE DUMP (.gsa) THAT YtpgkgpecbjjifaaGreatProg.lean LOADS. Nothing in Lean hashes anything: it is a label: what it is worth is what the hold of that sum in a sandbox is worth. -/
noncomputable def Tryz.pinned : Pinned := { name := "ytpgkgpecbjjifaagreat", sum := "ff0a199cbd7a253fae12527ff72d2f677692a5a25667dcff1e9cb3983454a760", checked := Tryz.checked }
namespace Rows
def none {H : Type} : Left H := { results := [], args := [] }

/-- 'watchwordtop.TopNumbers': WHATEVER THE INPUT: true; the input reads as it did. -/
def topNumbersSpec : ChangeSpec := { name := "topNumbers", fn := fun _ => fun
  | [d1, d2] => { results := [.lit (.bool true)], args := [d1, d2] }
  | _ => none }
def topNumbersRow : OpenClaim := { program := "ytpgkgpecbjjifaagreat", sum := "ff0a199cbd7a253fae12527ff72d2f677692a5a25667dcff1e9cb3983454a760", func := "watchword/watchwordtop.TopNumbers", spec := "topNumbers", inPlace := ["internal/abi.NoEscape", "internal/bytealg.MakeNoZero", "slices.overlaps[watchword/api.Lsa]", "slices.overlaps[watchword/api.Last]", "slices.overlaps[watchword/api.Near]", "slices.overlaps[watchword/api.Key]", "slices.overlaps[watchword/api.Link]", "internal/bytealg.IndexByteString", "internal/bytealg.IndexString"], unfollowed := true, recurses := true, named := ["internal/bytealg.MaxLen"], apart := false }
def TopNumbersSaid : Prop := topNumbersRow.holds Tryz.pinned (OpenSpec.ofChange topNumbersSpec)

/-- ITS FALSE NEIGHBOUR: 'it returns false'. Refute it at one input. -/
def topNumbersWrong : ChangeSpec := { name := "topNumbers", fn := fun _ => fun
  | [d1, d2] => { results := [.lit (.bool false)], args := [d1, d2] }
  | _ => none }
def TopNumbersWrongFalsely : Prop := topNumbersRow.holds Tryz.pinned (OpenSpec.ofChange topNumbersWrong)

/-- 'watchwordtop.TopElsewhere': WHATEVER THE INPUT: true; the input reads as it did. -/
def topElsewhereSpec : ChangeSpec := { name := "topElsewhere", fn := fun _ => fun
  | [d1, d2, d3, d4] => { results := [.lit (.bool true)], args := [d1, d2, d3, d4] }
  | _ => none }
def topElsewhereRow : OpenClaim := { program := "ytpgkgpecbjjifaagreat", sum := "ff0a199cbd7a253fae12527ff72d2f677692a5a25667dcff1e9cb3983454a760", func := "watchword/watchwordtop.TopElsewhere", spec := "topElsewhere", inPlace := ["internal/abi.NoEscape", "internal/bytealg.MakeNoZero", "slices.overlaps[watchword/api.Lsa]", "slices.overlaps[watchword/api.Last]", "slices.overlaps[watchword/api.Near]", "slices.overlaps[watchword/api.Key]", "slices.overlaps[watchword/api.Link]", "internal/bytealg.IndexByteString", "internal/bytealg.IndexString"], unfollowed := true, recurses := true, named := ["internal/bytealg.MaxLen"], apart := false }
def TopElsewhereSaid : Prop := topElsewhereRow.holds Tryz.pinned (OpenSpec.ofChange topElsewhereSpec)

/-- ITS FALSE NEIGHBOUR: 'it returns false'. Refute it at one input. -/
def topElsewhereWrong : ChangeSpec := { name := "topElsewhere", fn := fun _ => fun
  | [d1, d2, d3, d4] => { results := [.lit (.bool false)], args := [d1, d2, d3, d4] }
  | _ => none }
def TopElsewhereWrongFalsely : Prop := topElsewhereRow.holds Tryz.pinned (OpenSpec.ofChange topElsewhereWrong)

/-- 'watchwordtop.TopBytes': WHATEVER THE INPUT: true; the input reads as it did. -/
def topBytesSpec : ChangeSpec := { name := "topBytes", fn := fun _ => fun
  | [d1, d2] => { results := [.lit (.bool true)], args := [d1, d2] }
  | _ => none }
def topBytesRow : OpenClaim := { program := "ytpgkgpecbjjifaagreat", sum := "ff0a199cbd7a253fae12527ff72d2f677692a5a25667dcff1e9cb3983454a760", func := "watchword/watchwordtop.TopBytes", spec := "topBytes", inPlace := ["internal/abi.NoEscape", "internal/bytealg.MakeNoZero", "slices.overlaps[watchword/api.Lsa]", "slices.overlaps[watchword/api.Last]", "slices.overlaps[watchword/api.Near]", "slices.overlaps[watchword/api.Key]", "slices.overlaps[watchword/api.Link]", "internal/bytealg.IndexByteString", "internal/bytealg.IndexString"], unfollowed := true, recurses := true, named := ["internal/bytealg.MaxLen"], apart := false }
def TopBytesSaid : Prop := topBytesRow.holds Tryz.pinned (OpenSpec.ofChange topBytesSpec)

/-- ITS FALSE NEIGHBOUR: 'it returns false'. Refute it at one input. -/
def topBytesWrong : ChangeSpec := { name := "topBytes", fn := fun _ => fun
  | [d1, d2] => { results := [.lit (.bool false)], args := [d1, d2] }
  | _ => none }
def TopBytesWrongFalsely : Prop := topBytesRow.holds Tryz.pinned (OpenSpec.ofChange topBytesWrong)

/-- 'watchwordlaw15.Seals': WHATEVER THE INPUT: true; the input reads as it did. -/
def sealsSpec : ChangeSpec := { name := "seals", fn := fun _ => fun
  | [d1, d2, d3, d4] => { results := [.lit (.bool true)], args := [d1, d2, d3, d4] }
  | _ => none }
def sealsRow : OpenClaim := { program := "ytpgkgpecbjjifaagreat", sum := "ff0a199cbd7a253fae12527ff72d2f677692a5a25667dcff1e9cb3983454a760", func := "watchword/watchwordlaw15.Seals", spec := "seals", inPlace := ["internal/abi.NoEscape", "internal/bytealg.MakeNoZero"], apart := false }
def SealsSaid : Prop := sealsRow.holds Tryz.pinned (OpenSpec.ofChange sealsSpec)

/-- ITS FALSE NEIGHBOUR: 'it returns false'. Refute it at one input. -/
def sealsWrong : ChangeSpec := { name := "seals", fn := fun _ => fun
  | [d1, d2, d3, d4] => { results := [.lit (.bool false)], args := [d1, d2, d3, d4] }
  | _ => none }
def SealsWrongFalsely : Prop := sealsRow.holds Tryz.pinned (OpenSpec.ofChange sealsWrong)

/-- 'watchwordtop.TopSigned': WHATEVER THE INPUT: true; the input reads as it did. -/
def topSignedSpec : ChangeSpec := { name := "topSigned", fn := fun _ => fun
  | [d1, d2, d3, d4, d5] => { results := [.lit (.bool true)], args := [d1, d2, d3, d4, d5] }
  | _ => none }
def topSignedRow : OpenClaim := { program := "ytpgkgpecbjjifaagreat", sum := "ff0a199cbd7a253fae12527ff72d2f677692a5a25667dcff1e9cb3983454a760", func := "watchword/watchwordtop.TopSigned", spec := "topSigned", inPlace := ["internal/abi.NoEscape", "internal/bytealg.MakeNoZero", "slices.overlaps[watchword/api.Lsa]", "slices.overlaps[watchword/api.Last]", "slices.overlaps[watchword/api.Near]", "slices.overlaps[watchword/api.Key]", "slices.overlaps[watchword/api.Link]", "internal/bytealg.IndexByteString", "internal/bytealg.IndexString"], unfollowed := true, recurses := true, named := ["internal/bytealg.MaxLen"], apart := false }
def TopSignedSaid : Prop := topSignedRow.holds Tryz.pinned (OpenSpec.ofChange topSignedSpec)

/-- ITS FALSE NEIGHBOUR: 'it returns false'. Refute it at one input. -/
def topSignedWrong : ChangeSpec := { name := "topSigned", fn := fun _ => fun
  | [d1, d2, d3, d4, d5] => { results := [.lit (.bool false)], args := [d1, d2, d3, d4, d5] }
  | _ => none }
def TopSignedWrongFalsely : Prop := topSignedRow.holds Tryz.pinned (OpenSpec.ofChange topSignedWrong)

/-- 'watchwordtop.TopRolls': WHATEVER THE INPUT: true; the input reads as it did. -/
def topRollsSpec : ChangeSpec := { name := "topRolls", fn := fun _ => fun
  | [d1, d2] => { results := [.lit (.bool true)], args := [d1, d2] }
  | _ => none }
def topRollsRow : OpenClaim := { program := "ytpgkgpecbjjifaagreat", sum := "ff0a199cbd7a253fae12527ff72d2f677692a5a25667dcff1e9cb3983454a760", func := "watchword/watchwordtop.TopRolls", spec := "topRolls", inPlace := ["internal/abi.NoEscape", "internal/bytealg.MakeNoZero", "slices.overlaps[watchword/api.Lsa]", "slices.overlaps[watchword/api.Last]", "slices.overlaps[watchword/api.Near]", "slices.overlaps[watchword/api.Key]", "slices.overlaps[watchword/api.Link]", "internal/bytealg.IndexByteString", "internal/bytealg.IndexString"], unfollowed := true, recurses := true, named := ["internal/bytealg.MaxLen"], apart := false }
def TopRollsSaid : Prop := topRollsRow.holds Tryz.pinned (OpenSpec.ofChange topRollsSpec)

/-- ITS FALSE NEIGHBOUR: 'it returns false'. Refute it at one input. -/
def topRollsWrong : ChangeSpec := { name := "topRolls", fn := fun _ => fun
  | [d1, d2] => { results := [.lit (.bool false)], args := [d1, d2] }
  | _ => none }
def TopRollsWrongFalsely : Prop := topRollsRow.holds Tryz.pinned (OpenSpec.ofChange topRollsWrong)

/-- 'watchwordtop.TopStores': WHATEVER THE INPUT: true; the input reads as it did. -/
def topStoresSpec : ChangeSpec := { name := "topStores", fn := fun _ => fun
  | [d1, d2] => { results := [.lit (.bool true)], args := [d1, d2] }
  | _ => none }
def topStoresRow : OpenClaim := { program := "ytpgkgpecbjjifaagreat", sum := "ff0a199cbd7a253fae12527ff72d2f677692a5a25667dcff1e9cb3983454a760", func := "watchword/watchwordtop.TopStores", spec := "topStores", inPlace := ["internal/abi.NoEscape", "internal/bytealg.MakeNoZero", "slices.overlaps[watchword/api.Lsa]", "slices.overlaps[watchword/api.Last]", "slices.overlaps[watchword/api.Near]", "slices.overlaps[watchword/api.Key]", "slices.overlaps[watchword/api.Link]", "internal/bytealg.IndexByteString", "internal/bytealg.IndexString"], unfollowed := true, recurses := true, named := ["internal/bytealg.MaxLen"], apart := false }
def TopStoresSaid : Prop := topStoresRow.holds Tryz.pinned (OpenSpec.ofChange topStoresSpec)

/-- ITS FALSE NEIGHBOUR: 'it returns false'. Refute it at one input. -/
def topStoresWrong : ChangeSpec := { name := "topStores", fn := fun _ => fun
  | [d1, d2] => { results := [.lit (.bool false)], args := [d1, d2] }
  | _ => none }
def TopStoresWrongFalsely : Prop := topStoresRow.holds Tryz.pinned (OpenSpec.ofChange topStoresWrong)

/-- 'watchwordtop.TopCopies': WHATEVER THE INPUT: true; the input reads as it did. -/
def topCopiesSpec : ChangeSpec := { name := "topCopies", fn := fun _ => fun
  | [d1, d2] => { results := [.lit (.bool true)], args := [d1, d2] }
  | _ => none }
def topCopiesRow : OpenClaim := { program := "ytpgkgpecbjjifaagreat", sum := "ff0a199cbd7a253fae12527ff72d2f677692a5a25667dcff1e9cb3983454a760", func := "watchword/watchwordtop.TopCopies", spec := "topCopies", inPlace := ["internal/abi.NoEscape", "internal/bytealg.MakeNoZero", "slices.overlaps[watchword/api.Lsa]", "slices.overlaps[watchword/api.Last]", "slices.overlaps[watchword/api.Near]", "slices.overlaps[watchword/api.Key]", "slices.overlaps[watchword/api.Link]", "internal/bytealg.IndexByteString", "internal/bytealg.IndexString"], unfollowed := true, recurses := true, named := ["internal/bytealg.MaxLen"], apart := false }
def TopCopiesSaid : Prop := topCopiesRow.holds Tryz.pinned (OpenSpec.ofChange topCopiesSpec)

/-- ITS FALSE NEIGHBOUR: 'it returns false'. Refute it at one input. -/
def topCopiesWrong : ChangeSpec := { name := "topCopies", fn := fun _ => fun
  | [d1, d2] => { results := [.lit (.bool false)], args := [d1, d2] }
  | _ => none }
def TopCopiesWrongFalsely : Prop := topCopiesRow.holds Tryz.pinned (OpenSpec.ofChange topCopiesWrong)

/- THE SECOND FORM. 'bulk': how many values and letters a reading holds, each counted each time it is reached (what is shared counts as often as it is met; a slice's spare places count too). A statement '..UptoSaid' is the law's where the arguments, and the package variables that the reading takes, are together of bulk at most 1048576: NARROWER than '..Said'. Prove '..Said' where nothing that the law and all that it calls make is longer than what came in: it says more and counts as full. Else prove '..UptoSaid'. A law counts once. -/
mutual
def uptoBulk {H : Type} : DataW H → Nat
  | .lit (.string bytes) => bytes.length + 1
  | .lit _ => 1
  | .nil => 1
  | .ptr d => uptoBulk d + 1
  | .slice elems spare => uptoBulkAll elems + uptoBulkAll spare + 1
  | .agg parts => uptoBulkAll parts + 1
  | .iface _ d => uptoBulk d + 1
  | .map entries => uptoBulkEntries entries + 1
  | .held _ => 1
def uptoBulkAll {H : Type} : List (DataW H) → Nat
  | [] => 0
  | d :: r => uptoBulk d + uptoBulkAll r
def uptoBulkEntries {H : Type} : List (Lit × DataW H) → Nat
  | [] => 0
  | x :: r => uptoBulkEntry x + uptoBulkEntries r
def uptoBulkEntry {H : Type} : Lit × DataW H → Nat
  | (.string bytes, d) => bytes.length + uptoBulk d + 1
  | (_, d) => uptoBulk d + 1
 end
def uptoSmall : (H : Type) → List (DataW H) → Bool := fun _ ds => decide (uptoBulkAll ds ≤ 1048576)
def OpenSpec.upto (s : _root_.Go.ChangeSpec) : _root_.Go.OpenSpec := { _root_.Go.OpenSpec.ofChange s with cond := some uptoSmall }

/-- 'watchwordtop.TopNumbers', WHERE WHAT IT READS IS OF BULK AT MOST 1048576: true; the input reads as it did. -/
def topNumbersUptoRow : OpenClaim := { program := "ytpgkgpecbjjifaagreat", sum := "ff0a199cbd7a253fae12527ff72d2f677692a5a25667dcff1e9cb3983454a760", func := "watchword/watchwordtop.TopNumbers", spec := "topNumbers", inPlace := ["internal/abi.NoEscape", "internal/bytealg.MakeNoZero", "slices.overlaps[watchword/api.Lsa]", "slices.overlaps[watchword/api.Last]", "slices.overlaps[watchword/api.Near]", "slices.overlaps[watchword/api.Key]", "slices.overlaps[watchword/api.Link]", "internal/bytealg.IndexByteString", "internal/bytealg.IndexString"], unfollowed := true, recurses := true, named := ["internal/bytealg.MaxLen"], apart := false, narrowed := true }
def TopNumbersUptoSaid : Prop := topNumbersUptoRow.holds Tryz.pinned (OpenSpec.upto topNumbersSpec)

/-- 'watchwordtop.TopElsewhere', WHERE WHAT IT READS IS OF BULK AT MOST 1048576: true; the input reads as it did. -/
def topElsewhereUptoRow : OpenClaim := { program := "ytpgkgpecbjjifaagreat", sum := "ff0a199cbd7a253fae12527ff72d2f677692a5a25667dcff1e9cb3983454a760", func := "watchword/watchwordtop.TopElsewhere", spec := "topElsewhere", inPlace := ["internal/abi.NoEscape", "internal/bytealg.MakeNoZero", "slices.overlaps[watchword/api.Lsa]", "slices.overlaps[watchword/api.Last]", "slices.overlaps[watchword/api.Near]", "slices.overlaps[watchword/api.Key]", "slices.overlaps[watchword/api.Link]", "internal/bytealg.IndexByteString", "internal/bytealg.IndexString"], unfollowed := true, recurses := true, named := ["internal/bytealg.MaxLen"], apart := false, narrowed := true }
def TopElsewhereUptoSaid : Prop := topElsewhereUptoRow.holds Tryz.pinned (OpenSpec.upto topElsewhereSpec)

/-- 'watchwordtop.TopBytes', WHERE WHAT IT READS IS OF BULK AT MOST 1048576: true; the input reads as it did. -/
def topBytesUptoRow : OpenClaim := { program := "ytpgkgpecbjjifaagreat", sum := "ff0a199cbd7a253fae12527ff72d2f677692a5a25667dcff1e9cb3983454a760", func := "watchword/watchwordtop.TopBytes", spec := "topBytes", inPlace := ["internal/abi.NoEscape", "internal/bytealg.MakeNoZero", "slices.overlaps[watchword/api.Lsa]", "slices.overlaps[watchword/api.Last]", "slices.overlaps[watchword/api.Near]", "slices.overlaps[watchword/api.Key]", "slices.overlaps[watchword/api.Link]", "internal/bytealg.IndexByteString", "internal/bytealg.IndexString"], unfollowed := true, recurses := true, named := ["internal/bytealg.MaxLen"], apart := false, narrowed := true }
def TopBytesUptoSaid : Prop := topBytesUptoRow.holds Tryz.pinned (OpenSpec.upto topBytesSpec)

/-- 'watchwordlaw15.Seals', WHERE WHAT IT READS IS OF BULK AT MOST 1048576: true; the input reads as it did. -/
def sealsUptoRow : OpenClaim := { program := "ytpgkgpecbjjifaagreat", sum := "ff0a199cbd7a253fae12527ff72d2f677692a5a25667dcff1e9cb3983454a760", func := "watchword/watchwordlaw15.Seals", spec := "seals", inPlace := ["internal/abi.NoEscape", "internal/bytealg.MakeNoZero"], apart := false, narrowed := true }
def SealsUptoSaid : Prop := sealsUptoRow.holds Tryz.pinned (OpenSpec.upto sealsSpec)

/-- 'watchwordtop.TopSigned', WHERE WHAT IT READS IS OF BULK AT MOST 1048576: true; the input reads as it did. -/
def topSignedUptoRow : OpenClaim := { program := "ytpgkgpecbjjifaagreat", sum := "ff0a199cbd7a253fae12527ff72d2f677692a5a25667dcff1e9cb3983454a760", func := "watchword/watchwordtop.TopSigned", spec := "topSigned", inPlace := ["internal/abi.NoEscape", "internal/bytealg.MakeNoZero", "slices.overlaps[watchword/api.Lsa]", "slices.overlaps[watchword/api.Last]", "slices.overlaps[watchword/api.Near]", "slices.overlaps[watchword/api.Key]", "slices.overlaps[watchword/api.Link]", "internal/bytealg.IndexByteString", "internal/bytealg.IndexString"], unfollowed := true, recurses := true, named := ["internal/bytealg.MaxLen"], apart := false, narrowed := true }
def TopSignedUptoSaid : Prop := topSignedUptoRow.holds Tryz.pinned (OpenSpec.upto topSignedSpec)

/-- 'watchwordtop.TopRolls', WHERE WHAT IT READS IS OF BULK AT MOST 1048576: true; the input reads as it did. -/
def topRollsUptoRow : OpenClaim := { program := "ytpgkgpecbjjifaagreat", sum := "ff0a199cbd7a253fae12527ff72d2f677692a5a25667dcff1e9cb3983454a760", func := "watchword/watchwordtop.TopRolls", spec := "topRolls", inPlace := ["internal/abi.NoEscape", "internal/bytealg.MakeNoZero", "slices.overlaps[watchword/api.Lsa]", "slices.overlaps[watchword/api.Last]", "slices.overlaps[watchword/api.Near]", "slices.overlaps[watchword/api.Key]", "slices.overlaps[watchword/api.Link]", "internal/bytealg.IndexByteString", "internal/bytealg.IndexString"], unfollowed := true, recurses := true, named := ["internal/bytealg.MaxLen"], apart := false, narrowed := true }
def TopRollsUptoSaid : Prop := topRollsUptoRow.holds Tryz.pinned (OpenSpec.upto topRollsSpec)

/-- 'watchwordtop.TopStores', WHERE WHAT IT READS IS OF BULK AT MOST 1048576: true; the input reads as it did. -/
def topStoresUptoRow : OpenClaim := { program := "ytpgkgpecbjjifaagreat", sum := "ff0a199cbd7a253fae12527ff72d2f677692a5a25667dcff1e9cb3983454a760", func := "watchword/watchwordtop.TopStores", spec := "topStores", inPlace := ["internal/abi.NoEscape", "internal/bytealg.MakeNoZero", "slices.overlaps[watchword/api.Lsa]", "slices.overlaps[watchword/api.Last]", "slices.overlaps[watchword/api.Near]", "slices.overlaps[watchword/api.Key]", "slices.overlaps[watchword/api.Link]", "internal/bytealg.IndexByteString", "internal/bytealg.IndexString"], unfollowed := true, recurses := true, named := ["internal/bytealg.MaxLen"], apart := false, narrowed := true }
def TopStoresUptoSaid : Prop := topStoresUptoRow.holds Tryz.pinned (OpenSpec.upto topStoresSpec)

/-- 'watchwordtop.TopCopies', WHERE WHAT IT READS IS OF BULK AT MOST 1048576: true; the input reads as it did. -/
def topCopiesUptoRow : OpenClaim := { program := "ytpgkgpecbjjifaagreat", sum := "ff0a199cbd7a253fae12527ff72d2f677692a5a25667dcff1e9cb3983454a760", func := "watchword/watchwordtop.TopCopies", spec := "topCopies", inPlace := ["internal/abi.NoEscape", "internal/bytealg.MakeNoZero", "slices.overlaps[watchword/api.Lsa]", "slices.overlaps[watchword/api.Last]", "slices.overlaps[watchword/api.Near]", "slices.overlaps[watchword/api.Key]", "slices.overlaps[watchword/api.Link]", "internal/bytealg.IndexByteString", "internal/bytealg.IndexString"], unfollowed := true, recurses := true, named := ["internal/bytealg.MaxLen"], apart := false, narrowed := true }
def TopCopiesUptoSaid : Prop := topCopiesUptoRow.holds Tryz.pinned (OpenSpec.upto topCopiesSpec)

end Rows
end Go.Proofs.YtpgkgpecbjjifaaGreat
