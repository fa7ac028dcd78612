/-
  DERIVED. GIVEN WITH THE SEED: THE CARDS: each row of YtefnonlhepekdaaDoorRows.lean that lists a variable, with what it lists TIED to the program's text (the seventh form; the later family's looks); each row that meets fmt, with fmt's text TOLD by the authors' own Lean function (tested against real Go, not proved from fmt's source: count such statements apart). THE CARD IS WHAT COUNTS. Prove the row's statement (the work); the ties are given (YtefnonlhepekdaaDoorTie.lean); close each card by the builder's one call (the guide's Derived/Test/ToyasCard.lean, 'card_holds'). Laid BY PROGRAM, IN A SANDBOX (cutbox-door.mjs). By AI agents, Wed Nov 11 2026. No macro, syntax, notation, axiom, sorry.
-/
import Derived.Test.YtefnonlhepekdaaDoorRows
import GoSem.ClaimSeven
namespace Go.Proofs.YtefnonlhepekdaaDoor
namespace Rows

/-- THE TIED CARD OF 'massiflaw9.ClashHolds'. -/
def clashHoldsCard : Claim7 := { stood := { row := clashHoldsRow, standIns := [], harness := (true, "7351b14138971b69c16d772bb8c603b0288d367313bb3eef82b2a9cca9ace7ee"), looks := false }, kinds := [], alts := [], laidByText := true, laidKinds := [.data, .data], laidTests := true, laidLooks := .later }
def ClashHoldsCardSaid : Prop := Claim7.holds Tryd.pinned (.plain (OpenSpec.ofChange clashHoldsSpec)) clashHoldsCard

/-- THE TIED CARD OF 'massiflaw7.ProofPlaces'. -/
def proofPlacesCard : Claim7 := { stood := { row := proofPlacesRow, standIns := [], harness := (true, "7351b14138971b69c16d772bb8c603b0288d367313bb3eef82b2a9cca9ace7ee"), looks := false }, kinds := [], alts := [], laidByText := true, laidKinds := [.data], laidTests := true, laidLooks := .later }
def ProofPlacesCardSaid : Prop := Claim7.holds Tryd.pinned (.plain (OpenSpec.ofChange proofPlacesSpec)) proofPlacesCard

/-- THE TIED CARD OF 'massiflaw7.ProofWrites'. -/
def proofWritesCard : Claim7 := { stood := { row := proofWritesRow, standIns := [], harness := (true, "7351b14138971b69c16d772bb8c603b0288d367313bb3eef82b2a9cca9ace7ee"), looks := false }, kinds := [], alts := [], laidByText := true, laidKinds := [.data], laidTests := true, laidLooks := .later }
def ProofWritesCardSaid : Prop := Claim7.holds Tryd.pinned (.plain (OpenSpec.ofChange proofWritesSpec)) proofWritesCard

/-- THE TIED CARD OF 'massiflaw7.ProofAsks'. -/
def proofAsksCard : Claim7 := { stood := { row := proofAsksRow, standIns := [], harness := (true, "7351b14138971b69c16d772bb8c603b0288d367313bb3eef82b2a9cca9ace7ee"), looks := false }, kinds := [], alts := [], laidByText := true, laidKinds := [.data], laidTests := true, laidLooks := .later }
def ProofAsksCardSaid : Prop := Claim7.holds Tryd.pinned (.plain (OpenSpec.ofChange proofAsksSpec)) proofAsksCard

/-- THE TIED CARD OF 'massiflaw9.ClashPeaks'. -/
def clashPeaksCard : Claim7 := { stood := { row := clashPeaksRow, standIns := [], harness := (true, "7351b14138971b69c16d772bb8c603b0288d367313bb3eef82b2a9cca9ace7ee"), looks := false }, kinds := [], alts := [], laidByText := true, laidKinds := [.data, .data], laidTests := true, laidLooks := .later }
def ClashPeaksCardSaid : Prop := Claim7.holds Tryd.pinned (.plain (OpenSpec.ofChange clashPeaksSpec)) clashPeaksCard

/-- THE TIED CARD OF 'massiflaw7.ProofSpans'. -/
def proofSpansCard : Claim7 := { stood := { row := proofSpansRow, standIns := [], harness := (true, "7351b14138971b69c16d772bb8c603b0288d367313bb3eef82b2a9cca9ace7ee"), looks := false }, kinds := [], alts := [], laidByText := true, laidKinds := [.data], laidTests := true, laidLooks := .later }
def ProofSpansCardSaid : Prop := Claim7.holds Tryd.pinned (.plain (OpenSpec.ofChange proofSpansSpec)) proofSpansCard

/-- THE TIED CARD OF 'massiflaw7.ProofReads'. -/
def proofReadsCard : Claim7 := { stood := { row := proofReadsRow, standIns := [], harness := (true, "7351b14138971b69c16d772bb8c603b0288d367313bb3eef82b2a9cca9ace7ee"), looks := false }, kinds := [], alts := [], laidByText := true, laidKinds := [.data], laidTests := true, laidLooks := .later }
def ProofReadsCardSaid : Prop := Claim7.holds Tryd.pinned (.plain (OpenSpec.ofChange proofReadsSpec)) proofReadsCard

/-- THE TIED CARD OF 'massiflaw7.ProofRound'. -/
def proofRoundCard : Claim7 := { stood := { row := proofRoundRow, standIns := [], harness := (true, "7351b14138971b69c16d772bb8c603b0288d367313bb3eef82b2a9cca9ace7ee"), looks := false }, kinds := [], alts := [], laidByText := true, laidKinds := [.data], laidTests := true, laidLooks := .later }
def ProofRoundCardSaid : Prop := Claim7.holds Tryd.pinned (.plain (OpenSpec.ofChange proofRoundSpec)) proofRoundCard

/-- THE SECOND FORM's CARD OF 'massiflaw9.ClashHolds'. -/
def clashHoldsUptoCard : Claim7 := { stood := { row := clashHoldsUptoRow, standIns := [], harness := (true, "7351b14138971b69c16d772bb8c603b0288d367313bb3eef82b2a9cca9ace7ee"), looks := false }, kinds := [], alts := [], laidByText := true, laidKinds := [.data, .data], laidTests := true, laidLooks := .later }
def ClashHoldsUptoCardSaid : Prop := Claim7.holds Tryd.pinned (.plain (OpenSpec.upto clashHoldsSpec)) clashHoldsUptoCard

/-- THE SECOND FORM's CARD OF 'massiflaw7.ProofPlaces'. -/
def proofPlacesUptoCard : Claim7 := { stood := { row := proofPlacesUptoRow, standIns := [], harness := (true, "7351b14138971b69c16d772bb8c603b0288d367313bb3eef82b2a9cca9ace7ee"), looks := false }, kinds := [], alts := [], laidByText := true, laidKinds := [.data], laidTests := true, laidLooks := .later }
def ProofPlacesUptoCardSaid : Prop := Claim7.holds Tryd.pinned (.plain (OpenSpec.upto proofPlacesSpec)) proofPlacesUptoCard

/-- THE SECOND FORM's CARD OF 'massiflaw7.ProofWrites'. -/
def proofWritesUptoCard : Claim7 := { stood := { row := proofWritesUptoRow, standIns := [], harness := (true, "7351b14138971b69c16d772bb8c603b0288d367313bb3eef82b2a9cca9ace7ee"), looks := false }, kinds := [], alts := [], laidByText := true, laidKinds := [.data], laidTests := true, laidLooks := .later }
def ProofWritesUptoCardSaid : Prop := Claim7.holds Tryd.pinned (.plain (OpenSpec.upto proofWritesSpec)) proofWritesUptoCard

/-- THE SECOND FORM's CARD OF 'massiflaw7.ProofAsks'. -/
def proofAsksUptoCard : Claim7 := { stood := { row := proofAsksUptoRow, standIns := [], harness := (true, "7351b14138971b69c16d772bb8c603b0288d367313bb3eef82b2a9cca9ace7ee"), looks := false }, kinds := [], alts := [], laidByText := true, laidKinds := [.data], laidTests := true, laidLooks := .later }
def ProofAsksUptoCardSaid : Prop := Claim7.holds Tryd.pinned (.plain (OpenSpec.upto proofAsksSpec)) proofAsksUptoCard

/-- THE SECOND FORM's CARD OF 'massiflaw9.ClashPeaks'. -/
def clashPeaksUptoCard : Claim7 := { stood := { row := clashPeaksUptoRow, standIns := [], harness := (true, "7351b14138971b69c16d772bb8c603b0288d367313bb3eef82b2a9cca9ace7ee"), looks := false }, kinds := [], alts := [], laidByText := true, laidKinds := [.data, .data], laidTests := true, laidLooks := .later }
def ClashPeaksUptoCardSaid : Prop := Claim7.holds Tryd.pinned (.plain (OpenSpec.upto clashPeaksSpec)) clashPeaksUptoCard

/-- THE SECOND FORM's CARD OF 'massiflaw7.ProofSpans'. -/
def proofSpansUptoCard : Claim7 := { stood := { row := proofSpansUptoRow, standIns := [], harness := (true, "7351b14138971b69c16d772bb8c603b0288d367313bb3eef82b2a9cca9ace7ee"), looks := false }, kinds := [], alts := [], laidByText := true, laidKinds := [.data], laidTests := true, laidLooks := .later }
def ProofSpansUptoCardSaid : Prop := Claim7.holds Tryd.pinned (.plain (OpenSpec.upto proofSpansSpec)) proofSpansUptoCard

/-- THE SECOND FORM's CARD OF 'massiflaw7.ProofReads'. -/
def proofReadsUptoCard : Claim7 := { stood := { row := proofReadsUptoRow, standIns := [], harness := (true, "7351b14138971b69c16d772bb8c603b0288d367313bb3eef82b2a9cca9ace7ee"), looks := false }, kinds := [], alts := [], laidByText := true, laidKinds := [.data], laidTests := true, laidLooks := .later }
def ProofReadsUptoCardSaid : Prop := Claim7.holds Tryd.pinned (.plain (OpenSpec.upto proofReadsSpec)) proofReadsUptoCard

/-- THE SECOND FORM's CARD OF 'massiflaw7.ProofRound'. -/
def proofRoundUptoCard : Claim7 := { stood := { row := proofRoundUptoRow, standIns := [], harness := (true, "7351b14138971b69c16d772bb8c603b0288d367313bb3eef82b2a9cca9ace7ee"), looks := false }, kinds := [], alts := [], laidByText := true, laidKinds := [.data], laidTests := true, laidLooks := .later }
def ProofRoundUptoCardSaid : Prop := Claim7.holds Tryd.pinned (.plain (OpenSpec.upto proofRoundSpec)) proofRoundUptoCard
end Rows
end Go.Proofs.YtefnonlhepekdaaDoor
