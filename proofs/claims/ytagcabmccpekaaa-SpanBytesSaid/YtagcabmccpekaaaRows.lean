/-
  No cell of these rows narrows 'for every input' (looked for: loops, veiled, ifaces, maps, wideKeys, modest, calm, conditions, laid).
  DERIVED. THE GIVEN ROWS OF THIS SEAT. 8 by the template 'for every input the law returns true; each argument reads behind the call as it read before'; 0 by the template 'total and deterministic' (their statements: YtagcabmccpekaaaTotals.lean).
  GIVEN WITH THE SEED: the statements are not yours to turn. If you find one false, say at which input.
  Laid BY PROGRAM, IN A SANDBOX (cutbox-rows.mjs): the forced cells as the released guide's own fill.sh prints them over the translation 9c5095febc2c349a… (all of the seat's roots in one cut). By AI agents, Wed Nov 11 2026. No macro, syntax, notation, axiom, sorry.
-/
import Derived.Test.YtagcabmccpekaaaChecked
import GoSem.Claim
import GoSem.ClaimJoined
import GoSem.ClaimMapViews
import Derived.JoinedTies
import Derived.KernelRfl
namespace Go.Proofs.Ytagcabmccpekaaa
/- THE CELL 'sum', in the pinned program and in every row, IS THE sha256 OF THE DUMP (.gsa) THAT YtagcabmccpekaaaProg.lean LOADS. Nothing in Lean hashes anything: it is a label: what it is worth is what the hold of that sum in a sandbox is worth. -/
noncomputable def Try.pinned : Pinned := { name := "ytagcabmccpekaaa", sum := "9c5095febc2c349ac87c46d5ff0f28c7454b07d1999cb30280a9be0c30f4927e", checked := Try.checked }
namespace Rows
def none {H : Type} : Left H := { results := [], args := [] }

/-- 'massiflaw20.SpanPlaces': WHATEVER THE INPUT: true; the input reads as it did. -/
def spanPlacesSpec : ChangeSpec := { name := "spanPlaces", fn := fun _ => fun
  | [d1, d2, d3] => { results := [.lit (.bool true)], args := [d1, d2, d3] }
  | _ => none }
def spanPlacesRow : OpenClaim := { program := "ytagcabmccpekaaa", sum := "9c5095febc2c349ac87c46d5ff0f28c7454b07d1999cb30280a9be0c30f4927e", func := "massif/massiflaw20.SpanPlaces", spec := "spanPlaces", unfollowed := true, recurses := true, apart := false }
def SpanPlacesSaid : Prop := spanPlacesRow.holds Try.pinned (OpenSpec.ofChange spanPlacesSpec)

/-- ITS FALSE NEIGHBOUR: 'it returns false'. Refute it at one input. -/
def spanPlacesWrong : ChangeSpec := { name := "spanPlaces", fn := fun _ => fun
  | [d1, d2, d3] => { results := [.lit (.bool false)], args := [d1, d2, d3] }
  | _ => none }
def SpanPlacesWrongFalsely : Prop := spanPlacesRow.holds Try.pinned (OpenSpec.ofChange spanPlacesWrong)

/-- 'massiflaw7.ProofSets': WHATEVER THE INPUT: true; the input reads as it did. -/
def proofSetsSpec : ChangeSpec := { name := "proofSets", fn := fun _ => fun
  | [d1, d2] => { results := [.lit (.bool true)], args := [d1, d2] }
  | _ => none }
def proofSetsRow : OpenClaim := { program := "ytagcabmccpekaaa", sum := "9c5095febc2c349ac87c46d5ff0f28c7454b07d1999cb30280a9be0c30f4927e", func := "massif/massiflaw7.ProofSets", spec := "proofSets", apart := false }
def ProofSetsSaid : Prop := proofSetsRow.holds Try.pinned (OpenSpec.ofChange proofSetsSpec)

/-- ITS FALSE NEIGHBOUR: 'it returns false'. Refute it at one input. -/
def proofSetsWrong : ChangeSpec := { name := "proofSets", fn := fun _ => fun
  | [d1, d2] => { results := [.lit (.bool false)], args := [d1, d2] }
  | _ => none }
def ProofSetsWrongFalsely : Prop := proofSetsRow.holds Try.pinned (OpenSpec.ofChange proofSetsWrong)

/-- 'massiflaw20.SpanBytes': WHATEVER THE INPUT: true; the input reads as it did. -/
def spanBytesSpec : ChangeSpec := { name := "spanBytes", fn := fun _ => fun
  | [d1, d2] => { results := [.lit (.bool true)], args := [d1, d2] }
  | _ => none }
def spanBytesRow : OpenClaim := { program := "ytagcabmccpekaaa", sum := "9c5095febc2c349ac87c46d5ff0f28c7454b07d1999cb30280a9be0c30f4927e", func := "massif/massiflaw20.SpanBytes", spec := "spanBytes", unfollowed := true, recurses := true, apart := false }
def SpanBytesSaid : Prop := spanBytesRow.holds Try.pinned (OpenSpec.ofChange spanBytesSpec)

/-- ITS FALSE NEIGHBOUR: 'it returns false'. Refute it at one input. -/
def spanBytesWrong : ChangeSpec := { name := "spanBytes", fn := fun _ => fun
  | [d1, d2] => { results := [.lit (.bool false)], args := [d1, d2] }
  | _ => none }
def SpanBytesWrongFalsely : Prop := spanBytesRow.holds Try.pinned (OpenSpec.ofChange spanBytesWrong)

/-- 'massiflaw20.SpanRound': WHATEVER THE INPUT: true; the input reads as it did. -/
def spanRoundSpec : ChangeSpec := { name := "spanRound", fn := fun _ => fun
  | [d1, d2] => { results := [.lit (.bool true)], args := [d1, d2] }
  | _ => none }
def spanRoundRow : OpenClaim := { program := "ytagcabmccpekaaa", sum := "9c5095febc2c349ac87c46d5ff0f28c7454b07d1999cb30280a9be0c30f4927e", func := "massif/massiflaw20.SpanRound", spec := "spanRound", unfollowed := true, recurses := true, apart := false }
def SpanRoundSaid : Prop := spanRoundRow.holds Try.pinned (OpenSpec.ofChange spanRoundSpec)

/-- ITS FALSE NEIGHBOUR: 'it returns false'. Refute it at one input. -/
def spanRoundWrong : ChangeSpec := { name := "spanRound", fn := fun _ => fun
  | [d1, d2] => { results := [.lit (.bool false)], args := [d1, d2] }
  | _ => none }
def SpanRoundWrongFalsely : Prop := spanRoundRow.holds Try.pinned (OpenSpec.ofChange spanRoundWrong)

/-- 'massiflaw10.ManyPlaces': WHATEVER THE INPUT: true; the input reads as it did. -/
def manyPlacesSpec : ChangeSpec := { name := "manyPlaces", fn := fun _ => fun
  | [d1, d2] => { results := [.lit (.bool true)], args := [d1, d2] }
  | _ => none }
def manyPlacesRow : OpenClaim := { program := "ytagcabmccpekaaa", sum := "9c5095febc2c349ac87c46d5ff0f28c7454b07d1999cb30280a9be0c30f4927e", func := "massif/massiflaw10.ManyPlaces", spec := "manyPlaces", unfollowed := true, recurses := true, apart := false }
def ManyPlacesSaid : Prop := manyPlacesRow.holds Try.pinned (OpenSpec.ofChange manyPlacesSpec)

/-- ITS FALSE NEIGHBOUR: 'it returns false'. Refute it at one input. -/
def manyPlacesWrong : ChangeSpec := { name := "manyPlaces", fn := fun _ => fun
  | [d1, d2] => { results := [.lit (.bool false)], args := [d1, d2] }
  | _ => none }
def ManyPlacesWrongFalsely : Prop := manyPlacesRow.holds Try.pinned (OpenSpec.ofChange manyPlacesWrong)

/-- 'massiflaw10.ManySets': WHATEVER THE INPUT: true; the input reads as it did. -/
def manySetsSpec : ChangeSpec := { name := "manySets", fn := fun _ => fun
  | [d1, d2] => { results := [.lit (.bool true)], args := [d1, d2] }
  | _ => none }
def manySetsRow : OpenClaim := { program := "ytagcabmccpekaaa", sum := "9c5095febc2c349ac87c46d5ff0f28c7454b07d1999cb30280a9be0c30f4927e", func := "massif/massiflaw10.ManySets", spec := "manySets", unfollowed := true, recurses := true, apart := false }
def ManySetsSaid : Prop := manySetsRow.holds Try.pinned (OpenSpec.ofChange manySetsSpec)

/-- ITS FALSE NEIGHBOUR: 'it returns false'. Refute it at one input. -/
def manySetsWrong : ChangeSpec := { name := "manySets", fn := fun _ => fun
  | [d1, d2] => { results := [.lit (.bool false)], args := [d1, d2] }
  | _ => none }
def ManySetsWrongFalsely : Prop := manySetsRow.holds Try.pinned (OpenSpec.ofChange manySetsWrong)

/-- 'massiflaw20.SpanSets': WHATEVER THE INPUT: true; the input reads as it did. -/
def spanSetsSpec : ChangeSpec := { name := "spanSets", fn := fun _ => fun
  | [d1, d2, d3] => { results := [.lit (.bool true)], args := [d1, d2, d3] }
  | _ => none }
def spanSetsRow : OpenClaim := { program := "ytagcabmccpekaaa", sum := "9c5095febc2c349ac87c46d5ff0f28c7454b07d1999cb30280a9be0c30f4927e", func := "massif/massiflaw20.SpanSets", spec := "spanSets", unfollowed := true, recurses := true, apart := false }
def SpanSetsSaid : Prop := spanSetsRow.holds Try.pinned (OpenSpec.ofChange spanSetsSpec)

/-- ITS FALSE NEIGHBOUR: 'it returns false'. Refute it at one input. -/
def spanSetsWrong : ChangeSpec := { name := "spanSets", fn := fun _ => fun
  | [d1, d2, d3] => { results := [.lit (.bool false)], args := [d1, d2, d3] }
  | _ => none }
def SpanSetsWrongFalsely : Prop := spanSetsRow.holds Try.pinned (OpenSpec.ofChange spanSetsWrong)

/-- 'massiflaw10.ManyOne': WHATEVER THE INPUT: true; the input reads as it did. -/
def manyOneSpec : ChangeSpec := { name := "manyOne", fn := fun _ => fun
  | [d1, d2, d3] => { results := [.lit (.bool true)], args := [d1, d2, d3] }
  | _ => none }
def manyOneRow : OpenClaim := { program := "ytagcabmccpekaaa", sum := "9c5095febc2c349ac87c46d5ff0f28c7454b07d1999cb30280a9be0c30f4927e", func := "massif/massiflaw10.ManyOne", spec := "manyOne", unfollowed := true, recurses := true, apart := false }
def ManyOneSaid : Prop := manyOneRow.holds Try.pinned (OpenSpec.ofChange manyOneSpec)

/-- ITS FALSE NEIGHBOUR: 'it returns false'. Refute it at one input. -/
def manyOneWrong : ChangeSpec := { name := "manyOne", fn := fun _ => fun
  | [d1, d2, d3] => { results := [.lit (.bool false)], args := [d1, d2, d3] }
  | _ => none }
def ManyOneWrongFalsely : Prop := manyOneRow.holds Try.pinned (OpenSpec.ofChange manyOneWrong)

/- THE SECOND FORM. 'bulk': how many values and letters a reading holds, each counted each time it is reached (what is shared counts as often as it is met; a slice's spare places count too). A statement '..UptoSaid' is the law's where the arguments, and the package variables that the reading takes, are together of bulk at most 1048576: NARROWER than '..Said'. Prove '..Said' where nothing that the law and all that it calls make is longer than what came in: it says more and counts as full. Else prove '..UptoSaid'. A law counts once. -/
mutual
def uptoBulk {H : Type} : DataW H → Nat
  | .lit (.string bytes) => bytes.length + 1
  | .lit _ => 1
  | .nil => 1
  | .ptr d => uptoBulk d + 1
  | .slice elems spare => uptoBulkAll elems + uptoBulkAll spare + 1
  | .agg parts => uptoBulkAll parts + 1
  | .iface _ d => uptoBulk d + 1
  | .map entries => uptoBulkEntries entries + 1
  | .held _ => 1
def uptoBulkAll {H : Type} : List (DataW H) → Nat
  | [] => 0
  | d :: r => uptoBulk d + uptoBulkAll r
def uptoBulkEntries {H : Type} : List (Lit × DataW H) → Nat
  | [] => 0
  | x :: r => uptoBulkEntry x + uptoBulkEntries r
def uptoBulkEntry {H : Type} : Lit × DataW H → Nat
  | (.string bytes, d) => bytes.length + uptoBulk d + 1
  | (_, d) => uptoBulk d + 1
 end
def uptoSmall : (H : Type) → List (DataW H) → Bool := fun _ ds => decide (uptoBulkAll ds ≤ 1048576)
def OpenSpec.upto (s : _root_.Go.ChangeSpec) : _root_.Go.OpenSpec := { _root_.Go.OpenSpec.ofChange s with cond := some uptoSmall }

/-- 'massiflaw20.SpanPlaces', WHERE WHAT IT READS IS OF BULK AT MOST 1048576: true; the input reads as it did. -/
def spanPlacesUptoRow : OpenClaim := { program := "ytagcabmccpekaaa", sum := "9c5095febc2c349ac87c46d5ff0f28c7454b07d1999cb30280a9be0c30f4927e", func := "massif/massiflaw20.SpanPlaces", spec := "spanPlaces", unfollowed := true, recurses := true, apart := false, narrowed := true }
def SpanPlacesUptoSaid : Prop := spanPlacesUptoRow.holds Try.pinned (OpenSpec.upto spanPlacesSpec)

/-- 'massiflaw7.ProofSets', WHERE WHAT IT READS IS OF BULK AT MOST 1048576: true; the input reads as it did. -/
def proofSetsUptoRow : OpenClaim := { program := "ytagcabmccpekaaa", sum := "9c5095febc2c349ac87c46d5ff0f28c7454b07d1999cb30280a9be0c30f4927e", func := "massif/massiflaw7.ProofSets", spec := "proofSets", apart := false, narrowed := true }
def ProofSetsUptoSaid : Prop := proofSetsUptoRow.holds Try.pinned (OpenSpec.upto proofSetsSpec)

/-- 'massiflaw20.SpanBytes', WHERE WHAT IT READS IS OF BULK AT MOST 1048576: true; the input reads as it did. -/
def spanBytesUptoRow : OpenClaim := { program := "ytagcabmccpekaaa", sum := "9c5095febc2c349ac87c46d5ff0f28c7454b07d1999cb30280a9be0c30f4927e", func := "massif/massiflaw20.SpanBytes", spec := "spanBytes", unfollowed := true, recurses := true, apart := false, narrowed := true }
def SpanBytesUptoSaid : Prop := spanBytesUptoRow.holds Try.pinned (OpenSpec.upto spanBytesSpec)

/-- 'massiflaw20.SpanRound', WHERE WHAT IT READS IS OF BULK AT MOST 1048576: true; the input reads as it did. -/
def spanRoundUptoRow : OpenClaim := { program := "ytagcabmccpekaaa", sum := "9c5095febc2c349ac87c46d5ff0f28c7454b07d1999cb30280a9be0c30f4927e", func := "massif/massiflaw20.SpanRound", spec := "spanRound", unfollowed := true, recurses := true, apart := false, narrowed := true }
def SpanRoundUptoSaid : Prop := spanRoundUptoRow.holds Try.pinned (OpenSpec.upto spanRoundSpec)

/-- 'massiflaw10.ManyPlaces', WHERE WHAT IT READS IS OF BULK AT MOST 1048576: true; the input reads as it did. -/
def manyPlacesUptoRow : OpenClaim := { program := "ytagcabmccpekaaa", sum := "9c5095febc2c349ac87c46d5ff0f28c7454b07d1999cb30280a9be0c30f4927e", func := "massif/massiflaw10.ManyPlaces", spec := "manyPlaces", unfollowed := true, recurses := true, apart := false, narrowed := true }
def ManyPlacesUptoSaid : Prop := manyPlacesUptoRow.holds Try.pinned (OpenSpec.upto manyPlacesSpec)

/-- 'massiflaw10.ManySets', WHERE WHAT IT READS IS OF BULK AT MOST 1048576: true; the input reads as it did. -/
def manySetsUptoRow : OpenClaim := { program := "ytagcabmccpekaaa", sum := "9c5095febc2c349ac87c46d5ff0f28c7454b07d1999cb30280a9be0c30f4927e", func := "massif/massiflaw10.ManySets", spec := "manySets", unfollowed := true, recurses := true, apart := false, narrowed := true }
def ManySetsUptoSaid : Prop := manySetsUptoRow.holds Try.pinned (OpenSpec.upto manySetsSpec)

/-- 'massiflaw20.SpanSets', WHERE WHAT IT READS IS OF BULK AT MOST 1048576: true; the input reads as it did. -/
def spanSetsUptoRow : OpenClaim := { program := "ytagcabmccpekaaa", sum := "9c5095febc2c349ac87c46d5ff0f28c7454b07d1999cb30280a9be0c30f4927e", func := "massif/massiflaw20.SpanSets", spec := "spanSets", unfollowed := true, recurses := true, apart := false, narrowed := true }
def SpanSetsUptoSaid : Prop := spanSetsUptoRow.holds Try.pinned (OpenSpec.upto spanSetsSpec)

/-- 'massiflaw10.ManyOne', WHERE WHAT IT READS IS OF BULK AT MOST 1048576: true; the input reads as it did. -/
def manyOneUptoRow : OpenClaim := { program := "ytagcabmccpekaaa", sum := "9c5095febc2c349ac87c46d5ff0f28c7454b07d1999cb30280a9be0c30f4927e", func := "massif/massiflaw10.ManyOne", spec := "manyOne", unfollowed := true, recurses := true, apart := false, narrowed := true }
def ManyOneUptoSaid : Prop := manyOneUptoRow.holds Try.pinned (OpenSpec.upto manyOneSpec)

end Rows
end Go.Proofs.Ytagcabmccpekaaa
