/-
  NARROWER THAN 'FOR EVERY INPUT', by the rows' own cells (each row's printed sentence says how): ClashHolds: laid · ProofPlaces: laid · ProofWrites: laid · ProofAsks: laid · ClashPeaks: laid · ProofSpans: laid · ProofReads: laid · ProofRound: laid.
  DERIVED. THE GIVEN ROWS OF THIS SEAT. 8 by the template 'for every input the law returns true; each argument reads behind the call as it read before'; 0 by the template 'total and deterministic' (their statements: YtefnonlhepekdaaDoorTotals.lean).
  GIVEN WITH THE SEED: the statements are not yours to turn. If you find one false, say at which input.
  Laid BY PROGRAM, IN A SANDBOX (cutbox-rows.mjs): the forced cells as the released guide's own fill.sh prints them over the translation 140f0763de62bd73… (all of the seat's roots in one cut). By AI agents, Wed Nov 11 2026. No macro, syntax, notation, axiom, sorry.
-/
import Derived.Test.YtefnonlhepekdaaDoorChecked
import GoSem.Claim
import GoSem.ClaimJoined
import GoSem.ClaimMapViews
import Derived.JoinedTies
import Derived.KernelRfl
namespace Go.Proofs.YtefnonlhepekdaaDoor
/- THE CELL 'sum', in the pinned program and in every row, IS THE sha256 OF THE DUMP (.gsa) THAT YtefnonlhepekdaaDoorProg.lean LOADS. Nothing in Lean hashes anything: it is a label: what it is worth is what the hold of that sum in a sandbox is worth. -/
noncomputable def Tryd.pinned : Pinned := { name := "ytefnonlhepekdaadoor", sum := "140f0763de62bd73e334a6f0873e1e11cbf780214ee4ed4f4ad7a8e693d1f293", checked := Tryd.checked }
namespace Rows
def none {H : Type} : Left H := { results := [], args := [] }

/- WHAT THE LISTED PACKAGE-LEVEL VARIABLES READ AS WHEN THE CALL BEGINS. Each datum BY PROGRAM (the guide's laid-datum.mjs) off the statement by which the dump's own 'gosem.cut.vars' lays the variable. In a bare row this is a premise. The card (YtefnonlhepekdaaDoorCards.lean) ties it to the program's text. -/
def laid_massif_hash_k {H : Type} : DataW H := .agg [.lit (.int .u32 1116352408), .lit (.int .u32 1899447441), .lit (.int .u32 3049323471), .lit (.int .u32 3921009573), .lit (.int .u32 961987163), .lit (.int .u32 1508970993), .lit (.int .u32 2453635748), .lit (.int .u32 2870763221), .lit (.int .u32 3624381080), .lit (.int .u32 310598401), .lit (.int .u32 607225278), .lit (.int .u32 1426881987), .lit (.int .u32 1925078388), .lit (.int .u32 2162078206), .lit (.int .u32 2614888103), .lit (.int .u32 3248222580), .lit (.int .u32 3835390401), .lit (.int .u32 4022224774), .lit (.int .u32 264347078), .lit (.int .u32 604807628), .lit (.int .u32 770255983), .lit (.int .u32 1249150122), .lit (.int .u32 1555081692), .lit (.int .u32 1996064986), .lit (.int .u32 2554220882), .lit (.int .u32 2821834349), .lit (.int .u32 2952996808), .lit (.int .u32 3210313671), .lit (.int .u32 3336571891), .lit (.int .u32 3584528711), .lit (.int .u32 113926993), .lit (.int .u32 338241895), .lit (.int .u32 666307205), .lit (.int .u32 773529912), .lit (.int .u32 1294757372), .lit (.int .u32 1396182291), .lit (.int .u32 1695183700), .lit (.int .u32 1986661051), .lit (.int .u32 2177026350), .lit (.int .u32 2456956037), .lit (.int .u32 2730485921), .lit (.int .u32 2820302411), .lit (.int .u32 3259730800), .lit (.int .u32 3345764771), .lit (.int .u32 3516065817), .lit (.int .u32 3600352804), .lit (.int .u32 4094571909), .lit (.int .u32 275423344), .lit (.int .u32 430227734), .lit (.int .u32 506948616), .lit (.int .u32 659060556), .lit (.int .u32 883997877), .lit (.int .u32 958139571), .lit (.int .u32 1322822218), .lit (.int .u32 1537002063), .lit (.int .u32 1747873779), .lit (.int .u32 1955562222), .lit (.int .u32 2024104815), .lit (.int .u32 2227730452), .lit (.int .u32 2361852424), .lit (.int .u32 2428436474), .lit (.int .u32 2756734187), .lit (.int .u32 3204031479), .lit (.int .u32 3329325298)]
def laid_massif_hash_first {H : Type} : DataW H := .agg [.lit (.int .u8 106), .lit (.int .u8 9), .lit (.int .u8 230), .lit (.int .u8 103), .lit (.int .u8 187), .lit (.int .u8 103), .lit (.int .u8 174), .lit (.int .u8 133), .lit (.int .u8 60), .lit (.int .u8 110), .lit (.int .u8 243), .lit (.int .u8 114), .lit (.int .u8 165), .lit (.int .u8 79), .lit (.int .u8 245), .lit (.int .u8 58), .lit (.int .u8 81), .lit (.int .u8 14), .lit (.int .u8 82), .lit (.int .u8 127), .lit (.int .u8 155), .lit (.int .u8 5), .lit (.int .u8 104), .lit (.int .u8 140), .lit (.int .u8 31), .lit (.int .u8 131), .lit (.int .u8 217), .lit (.int .u8 171), .lit (.int .u8 91), .lit (.int .u8 224), .lit (.int .u8 205), .lit (.int .u8 25)]
def laid_math_bits_deBruijn64tab {H : Type} : DataW H := .agg [.lit (.int .u8 0), .lit (.int .u8 1), .lit (.int .u8 56), .lit (.int .u8 2), .lit (.int .u8 57), .lit (.int .u8 49), .lit (.int .u8 28), .lit (.int .u8 3), .lit (.int .u8 61), .lit (.int .u8 58), .lit (.int .u8 42), .lit (.int .u8 50), .lit (.int .u8 38), .lit (.int .u8 29), .lit (.int .u8 17), .lit (.int .u8 4), .lit (.int .u8 62), .lit (.int .u8 47), .lit (.int .u8 59), .lit (.int .u8 36), .lit (.int .u8 45), .lit (.int .u8 43), .lit (.int .u8 51), .lit (.int .u8 22), .lit (.int .u8 53), .lit (.int .u8 39), .lit (.int .u8 33), .lit (.int .u8 30), .lit (.int .u8 24), .lit (.int .u8 18), .lit (.int .u8 12), .lit (.int .u8 5), .lit (.int .u8 63), .lit (.int .u8 55), .lit (.int .u8 48), .lit (.int .u8 27), .lit (.int .u8 60), .lit (.int .u8 41), .lit (.int .u8 37), .lit (.int .u8 16), .lit (.int .u8 46), .lit (.int .u8 35), .lit (.int .u8 44), .lit (.int .u8 21), .lit (.int .u8 52), .lit (.int .u8 32), .lit (.int .u8 23), .lit (.int .u8 11), .lit (.int .u8 54), .lit (.int .u8 26), .lit (.int .u8 40), .lit (.int .u8 15), .lit (.int .u8 34), .lit (.int .u8 20), .lit (.int .u8 31), .lit (.int .u8 10), .lit (.int .u8 25), .lit (.int .u8 14), .lit (.int .u8 19), .lit (.int .u8 9), .lit (.int .u8 13), .lit (.int .u8 8), .lit (.int .u8 7), .lit (.int .u8 6)]

/-- 'massiflaw9.ClashHolds': WHATEVER THE INPUT: true; the input reads as it did. -/
def clashHoldsSpec : ChangeSpec := { name := "clashHolds", fn := fun _ => fun
  | [d1, d2, d3] => { results := [.lit (.bool true)], args := [d1, d2, d3] }
  | _ => none }
def clashHoldsRow : OpenClaim := { program := "ytefnonlhepekdaadoor", sum := "140f0763de62bd73e334a6f0873e1e11cbf780214ee4ed4f4ad7a8e693d1f293", func := "massif/massiflaw9.ClashHolds", spec := "clashHolds", named := ["massif/hash.first", "massif/hash.k"], plainKeys := false, apart := false, laid := [("massif/hash.k", laid_massif_hash_k), ("massif/hash.first", laid_massif_hash_first)] }
def ClashHoldsSaid : Prop := clashHoldsRow.holds Tryd.pinned (OpenSpec.ofChange clashHoldsSpec)

/-- ITS FALSE NEIGHBOUR: 'it returns false'. Refute it at one input. -/
def clashHoldsWrong : ChangeSpec := { name := "clashHolds", fn := fun _ => fun
  | [d1, d2, d3] => { results := [.lit (.bool false)], args := [d1, d2, d3] }
  | _ => none }
def ClashHoldsWrongFalsely : Prop := clashHoldsRow.holds Tryd.pinned (OpenSpec.ofChange clashHoldsWrong)

/-- 'massiflaw7.ProofPlaces': WHATEVER THE INPUT: true; the input reads as it did. -/
def proofPlacesSpec : ChangeSpec := { name := "proofPlaces", fn := fun _ => fun
  | [d1, d2, d3] => { results := [.lit (.bool true)], args := [d1, d2, d3] }
  | _ => none }
def proofPlacesRow : OpenClaim := { program := "ytefnonlhepekdaadoor", sum := "140f0763de62bd73e334a6f0873e1e11cbf780214ee4ed4f4ad7a8e693d1f293", func := "massif/massiflaw7.ProofPlaces", spec := "proofPlaces", named := ["math/bits.deBruijn64tab"], plainKeys := false, apart := false, laid := [("math/bits.deBruijn64tab", laid_math_bits_deBruijn64tab)] }
def ProofPlacesSaid : Prop := proofPlacesRow.holds Tryd.pinned (OpenSpec.ofChange proofPlacesSpec)

/-- ITS FALSE NEIGHBOUR: 'it returns false'. Refute it at one input. -/
def proofPlacesWrong : ChangeSpec := { name := "proofPlaces", fn := fun _ => fun
  | [d1, d2, d3] => { results := [.lit (.bool false)], args := [d1, d2, d3] }
  | _ => none }
def ProofPlacesWrongFalsely : Prop := proofPlacesRow.holds Tryd.pinned (OpenSpec.ofChange proofPlacesWrong)

/-- 'massiflaw7.ProofWrites': WHATEVER THE INPUT: true; the input reads as it did. -/
def proofWritesSpec : ChangeSpec := { name := "proofWrites", fn := fun _ => fun
  | [d1, d2] => { results := [.lit (.bool true)], args := [d1, d2] }
  | _ => none }
def proofWritesRow : OpenClaim := { program := "ytefnonlhepekdaadoor", sum := "140f0763de62bd73e334a6f0873e1e11cbf780214ee4ed4f4ad7a8e693d1f293", func := "massif/massiflaw7.ProofWrites", spec := "proofWrites", named := ["math/bits.deBruijn64tab"], plainKeys := false, apart := false, laid := [("math/bits.deBruijn64tab", laid_math_bits_deBruijn64tab)] }
def ProofWritesSaid : Prop := proofWritesRow.holds Tryd.pinned (OpenSpec.ofChange proofWritesSpec)

/-- ITS FALSE NEIGHBOUR: 'it returns false'. Refute it at one input. -/
def proofWritesWrong : ChangeSpec := { name := "proofWrites", fn := fun _ => fun
  | [d1, d2] => { results := [.lit (.bool false)], args := [d1, d2] }
  | _ => none }
def ProofWritesWrongFalsely : Prop := proofWritesRow.holds Tryd.pinned (OpenSpec.ofChange proofWritesWrong)

/-- 'massiflaw7.ProofAsks': WHATEVER THE INPUT: true; the input reads as it did. -/
def proofAsksSpec : ChangeSpec := { name := "proofAsks", fn := fun _ => fun
  | [d1, d2, d3, d4] => { results := [.lit (.bool true)], args := [d1, d2, d3, d4] }
  | _ => none }
def proofAsksRow : OpenClaim := { program := "ytefnonlhepekdaadoor", sum := "140f0763de62bd73e334a6f0873e1e11cbf780214ee4ed4f4ad7a8e693d1f293", func := "massif/massiflaw7.ProofAsks", spec := "proofAsks", unfollowed := true, recurses := true, named := ["math/bits.deBruijn64tab"], plainKeys := false, apart := false, laid := [("math/bits.deBruijn64tab", laid_math_bits_deBruijn64tab)] }
def ProofAsksSaid : Prop := proofAsksRow.holds Tryd.pinned (OpenSpec.ofChange proofAsksSpec)

/-- ITS FALSE NEIGHBOUR: 'it returns false'. Refute it at one input. -/
def proofAsksWrong : ChangeSpec := { name := "proofAsks", fn := fun _ => fun
  | [d1, d2, d3, d4] => { results := [.lit (.bool false)], args := [d1, d2, d3, d4] }
  | _ => none }
def ProofAsksWrongFalsely : Prop := proofAsksRow.holds Tryd.pinned (OpenSpec.ofChange proofAsksWrong)

/-- 'massiflaw9.ClashPeaks': WHATEVER THE INPUT: true; the input reads as it did. -/
def clashPeaksSpec : ChangeSpec := { name := "clashPeaks", fn := fun _ => fun
  | [d1, d2, d3, d4] => { results := [.lit (.bool true)], args := [d1, d2, d3, d4] }
  | _ => none }
def clashPeaksRow : OpenClaim := { program := "ytefnonlhepekdaadoor", sum := "140f0763de62bd73e334a6f0873e1e11cbf780214ee4ed4f4ad7a8e693d1f293", func := "massif/massiflaw9.ClashPeaks", spec := "clashPeaks", named := ["massif/hash.first", "massif/hash.k"], plainKeys := false, apart := false, laid := [("massif/hash.k", laid_massif_hash_k), ("massif/hash.first", laid_massif_hash_first)] }
def ClashPeaksSaid : Prop := clashPeaksRow.holds Tryd.pinned (OpenSpec.ofChange clashPeaksSpec)

/-- ITS FALSE NEIGHBOUR: 'it returns false'. Refute it at one input. -/
def clashPeaksWrong : ChangeSpec := { name := "clashPeaks", fn := fun _ => fun
  | [d1, d2, d3, d4] => { results := [.lit (.bool false)], args := [d1, d2, d3, d4] }
  | _ => none }
def ClashPeaksWrongFalsely : Prop := clashPeaksRow.holds Tryd.pinned (OpenSpec.ofChange clashPeaksWrong)

/-- 'massiflaw7.ProofSpans': WHATEVER THE INPUT: true; the input reads as it did. -/
def proofSpansSpec : ChangeSpec := { name := "proofSpans", fn := fun _ => fun
  | [d1, d2] => { results := [.lit (.bool true)], args := [d1, d2] }
  | _ => none }
def proofSpansRow : OpenClaim := { program := "ytefnonlhepekdaadoor", sum := "140f0763de62bd73e334a6f0873e1e11cbf780214ee4ed4f4ad7a8e693d1f293", func := "massif/massiflaw7.ProofSpans", spec := "proofSpans", named := ["math/bits.deBruijn64tab"], plainKeys := false, apart := false, laid := [("math/bits.deBruijn64tab", laid_math_bits_deBruijn64tab)] }
def ProofSpansSaid : Prop := proofSpansRow.holds Tryd.pinned (OpenSpec.ofChange proofSpansSpec)

/-- ITS FALSE NEIGHBOUR: 'it returns false'. Refute it at one input. -/
def proofSpansWrong : ChangeSpec := { name := "proofSpans", fn := fun _ => fun
  | [d1, d2] => { results := [.lit (.bool false)], args := [d1, d2] }
  | _ => none }
def ProofSpansWrongFalsely : Prop := proofSpansRow.holds Tryd.pinned (OpenSpec.ofChange proofSpansWrong)

/-- 'massiflaw7.ProofReads': WHATEVER THE INPUT: true; the input reads as it did. -/
def proofReadsSpec : ChangeSpec := { name := "proofReads", fn := fun _ => fun
  | [d] => { results := [.lit (.bool true)], args := [d] }
  | _ => none }
def proofReadsRow : OpenClaim := { program := "ytefnonlhepekdaadoor", sum := "140f0763de62bd73e334a6f0873e1e11cbf780214ee4ed4f4ad7a8e693d1f293", func := "massif/massiflaw7.ProofReads", spec := "proofReads", unfollowed := true, recurses := true, named := ["math/bits.deBruijn64tab"], plainKeys := false, apart := false, laid := [("math/bits.deBruijn64tab", laid_math_bits_deBruijn64tab)] }
def ProofReadsSaid : Prop := proofReadsRow.holds Tryd.pinned (OpenSpec.ofChange proofReadsSpec)

/-- ITS FALSE NEIGHBOUR: 'it returns false'. Refute it at one input. -/
def proofReadsWrong : ChangeSpec := { name := "proofReads", fn := fun _ => fun
  | [d] => { results := [.lit (.bool false)], args := [d] }
  | _ => none }
def ProofReadsWrongFalsely : Prop := proofReadsRow.holds Tryd.pinned (OpenSpec.ofChange proofReadsWrong)

/-- 'massiflaw7.ProofRound': WHATEVER THE INPUT: true; the input reads as it did. -/
def proofRoundSpec : ChangeSpec := { name := "proofRound", fn := fun _ => fun
  | [d1, d2, d3] => { results := [.lit (.bool true)], args := [d1, d2, d3] }
  | _ => none }
def proofRoundRow : OpenClaim := { program := "ytefnonlhepekdaadoor", sum := "140f0763de62bd73e334a6f0873e1e11cbf780214ee4ed4f4ad7a8e693d1f293", func := "massif/massiflaw7.ProofRound", spec := "proofRound", unfollowed := true, recurses := true, named := ["math/bits.deBruijn64tab"], plainKeys := false, apart := false, laid := [("math/bits.deBruijn64tab", laid_math_bits_deBruijn64tab)] }
def ProofRoundSaid : Prop := proofRoundRow.holds Tryd.pinned (OpenSpec.ofChange proofRoundSpec)

/-- ITS FALSE NEIGHBOUR: 'it returns false'. Refute it at one input. -/
def proofRoundWrong : ChangeSpec := { name := "proofRound", fn := fun _ => fun
  | [d1, d2, d3] => { results := [.lit (.bool false)], args := [d1, d2, d3] }
  | _ => none }
def ProofRoundWrongFalsely : Prop := proofRoundRow.holds Tryd.pinned (OpenSpec.ofChange proofRoundWrong)

/- THE SECOND FORM. 'bulk': how many values and letters a reading holds, each counted each time it is reached (what is shared counts as often as it is met; a slice's spare places count too). A statement '..UptoSaid' is the law's where the arguments, and the package variables that the reading takes, are together of bulk at most 1048576: NARROWER than '..Said'. Prove '..Said' where nothing that the law and all that it calls make is longer than what came in: it says more and counts as full. Else prove '..UptoSaid'. A law counts once. -/
mutual
def uptoBulk {H : Type} : DataW H → Nat
  | .lit (.string bytes) => bytes.length + 1
  | .lit _ => 1
  | .nil => 1
  | .ptr d => uptoBulk d + 1
  | .slice elems spare => uptoBulkAll elems + uptoBulkAll spare + 1
  | .agg parts => uptoBulkAll parts + 1
  | .iface _ d => uptoBulk d + 1
  | .map entries => uptoBulkEntries entries + 1
  | .held _ => 1
def uptoBulkAll {H : Type} : List (DataW H) → Nat
  | [] => 0
  | d :: r => uptoBulk d + uptoBulkAll r
def uptoBulkEntries {H : Type} : List (Lit × DataW H) → Nat
  | [] => 0
  | x :: r => uptoBulkEntry x + uptoBulkEntries r
def uptoBulkEntry {H : Type} : Lit × DataW H → Nat
  | (.string bytes, d) => bytes.length + uptoBulk d + 1
  | (_, d) => uptoBulk d + 1
 end
def uptoSmall : (H : Type) → List (DataW H) → Bool := fun _ ds => decide (uptoBulkAll ds ≤ 1048576)
def OpenSpec.upto (s : _root_.Go.ChangeSpec) : _root_.Go.OpenSpec := { _root_.Go.OpenSpec.ofChange s with cond := some uptoSmall }

/-- 'massiflaw9.ClashHolds', WHERE WHAT IT READS IS OF BULK AT MOST 1048576: true; the input reads as it did. -/
def clashHoldsUptoRow : OpenClaim := { program := "ytefnonlhepekdaadoor", sum := "140f0763de62bd73e334a6f0873e1e11cbf780214ee4ed4f4ad7a8e693d1f293", func := "massif/massiflaw9.ClashHolds", spec := "clashHolds", named := ["massif/hash.first", "massif/hash.k"], plainKeys := false, apart := false, laid := [("massif/hash.k", laid_massif_hash_k), ("massif/hash.first", laid_massif_hash_first)], narrowed := true }
def ClashHoldsUptoSaid : Prop := clashHoldsUptoRow.holds Tryd.pinned (OpenSpec.upto clashHoldsSpec)

/-- 'massiflaw7.ProofPlaces', WHERE WHAT IT READS IS OF BULK AT MOST 1048576: true; the input reads as it did. -/
def proofPlacesUptoRow : OpenClaim := { program := "ytefnonlhepekdaadoor", sum := "140f0763de62bd73e334a6f0873e1e11cbf780214ee4ed4f4ad7a8e693d1f293", func := "massif/massiflaw7.ProofPlaces", spec := "proofPlaces", named := ["math/bits.deBruijn64tab"], plainKeys := false, apart := false, laid := [("math/bits.deBruijn64tab", laid_math_bits_deBruijn64tab)], narrowed := true }
def ProofPlacesUptoSaid : Prop := proofPlacesUptoRow.holds Tryd.pinned (OpenSpec.upto proofPlacesSpec)

/-- 'massiflaw7.ProofWrites', WHERE WHAT IT READS IS OF BULK AT MOST 1048576: true; the input reads as it did. -/
def proofWritesUptoRow : OpenClaim := { program := "ytefnonlhepekdaadoor", sum := "140f0763de62bd73e334a6f0873e1e11cbf780214ee4ed4f4ad7a8e693d1f293", func := "massif/massiflaw7.ProofWrites", spec := "proofWrites", named := ["math/bits.deBruijn64tab"], plainKeys := false, apart := false, laid := [("math/bits.deBruijn64tab", laid_math_bits_deBruijn64tab)], narrowed := true }
def ProofWritesUptoSaid : Prop := proofWritesUptoRow.holds Tryd.pinned (OpenSpec.upto proofWritesSpec)

/-- 'massiflaw7.ProofAsks', WHERE WHAT IT READS IS OF BULK AT MOST 1048576: true; the input reads as it did. -/
def proofAsksUptoRow : OpenClaim := { program := "ytefnonlhepekdaadoor", sum := "140f0763de62bd73e334a6f0873e1e11cbf780214ee4ed4f4ad7a8e693d1f293", func := "massif/massiflaw7.ProofAsks", spec := "proofAsks", unfollowed := true, recurses := true, named := ["math/bits.deBruijn64tab"], plainKeys := false, apart := false, laid := [("math/bits.deBruijn64tab", laid_math_bits_deBruijn64tab)], narrowed := true }
def ProofAsksUptoSaid : Prop := proofAsksUptoRow.holds Tryd.pinned (OpenSpec.upto proofAsksSpec)

/-- 'massiflaw9.ClashPeaks', WHERE WHAT IT READS IS OF BULK AT MOST 1048576: true; the input reads as it did. -/
def clashPeaksUptoRow : OpenClaim := { program := "ytefnonlhepekdaadoor", sum := "140f0763de62bd73e334a6f0873e1e11cbf780214ee4ed4f4ad7a8e693d1f293", func := "massif/massiflaw9.ClashPeaks", spec := "clashPeaks", named := ["massif/hash.first", "massif/hash.k"], plainKeys := false, apart := false, laid := [("massif/hash.k", laid_massif_hash_k), ("massif/hash.first", laid_massif_hash_first)], narrowed := true }
def ClashPeaksUptoSaid : Prop := clashPeaksUptoRow.holds Tryd.pinned (OpenSpec.upto clashPeaksSpec)

/-- 'massiflaw7.ProofSpans', WHERE WHAT IT READS IS OF BULK AT MOST 1048576: true; the input reads as it did. -/
def proofSpansUptoRow : OpenClaim := { program := "ytefnonlhepekdaadoor", sum := "140f0763de62bd73e334a6f0873e1e11cbf780214ee4ed4f4ad7a8e693d1f293", func := "massif/massiflaw7.ProofSpans", spec := "proofSpans", named := ["math/bits.deBruijn64tab"], plainKeys := false, apart := false, laid := [("math/bits.deBruijn64tab", laid_math_bits_deBruijn64tab)], narrowed := true }
def ProofSpansUptoSaid : Prop := proofSpansUptoRow.holds Tryd.pinned (OpenSpec.upto proofSpansSpec)

/-- 'massiflaw7.ProofReads', WHERE WHAT IT READS IS OF BULK AT MOST 1048576: true; the input reads as it did. -/
def proofReadsUptoRow : OpenClaim := { program := "ytefnonlhepekdaadoor", sum := "140f0763de62bd73e334a6f0873e1e11cbf780214ee4ed4f4ad7a8e693d1f293", func := "massif/massiflaw7.ProofReads", spec := "proofReads", unfollowed := true, recurses := true, named := ["math/bits.deBruijn64tab"], plainKeys := false, apart := false, laid := [("math/bits.deBruijn64tab", laid_math_bits_deBruijn64tab)], narrowed := true }
def ProofReadsUptoSaid : Prop := proofReadsUptoRow.holds Tryd.pinned (OpenSpec.upto proofReadsSpec)

/-- 'massiflaw7.ProofRound', WHERE WHAT IT READS IS OF BULK AT MOST 1048576: true; the input reads as it did. -/
def proofRoundUptoRow : OpenClaim := { program := "ytefnonlhepekdaadoor", sum := "140f0763de62bd73e334a6f0873e1e11cbf780214ee4ed4f4ad7a8e693d1f293", func := "massif/massiflaw7.ProofRound", spec := "proofRound", unfollowed := true, recurses := true, named := ["math/bits.deBruijn64tab"], plainKeys := false, apart := false, laid := [("math/bits.deBruijn64tab", laid_math_bits_deBruijn64tab)], narrowed := true }
def ProofRoundUptoSaid : Prop := proofRoundUptoRow.holds Tryd.pinned (OpenSpec.upto proofRoundSpec)

end Rows
end Go.Proofs.YtefnonlhepekdaaDoor
