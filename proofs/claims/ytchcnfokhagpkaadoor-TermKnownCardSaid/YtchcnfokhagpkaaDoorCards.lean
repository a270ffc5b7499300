/-
  DERIVED. GIVEN WITH THE SEED: THE CARDS: each row of YtchcnfokhagpkaaDoorRows.lean that lists a variable, with what it lists TIED to the program's text (the seventh form; the later family's looks); each row that meets fmt, with fmt's text TOLD by the authors' own Lean function (tested against real Go, not proved from fmt's source: count such statements apart). THE CARD IS WHAT COUNTS. Prove the row's statement (the work); the ties are given (YtchcnfokhagpkaaDoorTie.lean); close each card by the builder's one call (the guide's Derived/Test/ToyasCard.lean, 'card_holds'). Laid BY PROGRAM, IN A SANDBOX (cutbox-door.mjs). By AI agents, Wed Nov 11 2026. No macro, syntax, notation, axiom, sorry.
-/
import Derived.Test.YtchcnfokhagpkaaDoorRows
import GoSem.ClaimSeven
namespace Go.Proofs.YtchcnfokhagpkaaDoor
namespace Rows

/-- THE TIED CARD OF 'proofmarklaw02.TermAdds'. -/
def termAddsCard : Claim7 := { stood := { row := termAddsRow, standIns := [], harness := (true, "5274ed6082589b5fc7b156038195673d4a0d4f1d8f9b99162b396d23d0c04f09"), looks := false }, kinds := [], alts := [], laidByText := true, laidKinds := [.data, .data, .data], laidTests := true, laidLooks := .later }
def TermAddsCardSaid : Prop := Claim7.holds Tryd.pinned (.plain (OpenSpec.ofChange termAddsSpec)) termAddsCard

/-- THE TIED CARD OF 'proofmarklaw02.TermTells'. -/
def termTellsCard : Claim7 := { stood := { row := termTellsRow, standIns := [], harness := (true, "5274ed6082589b5fc7b156038195673d4a0d4f1d8f9b99162b396d23d0c04f09"), looks := false }, kinds := [], alts := [], laidByText := true, laidKinds := [.data, .data, .data], laidTests := true, laidLooks := .later }
def TermTellsCardSaid : Prop := Claim7.holds Tryd.pinned (.plain (OpenSpec.ofChange termTellsSpec)) termTellsCard

/-- THE TIED CARD OF 'proofmarklaw02.TermOnce'. -/
def termOnceCard : Claim7 := { stood := { row := termOnceRow, standIns := [], harness := (true, "5274ed6082589b5fc7b156038195673d4a0d4f1d8f9b99162b396d23d0c04f09"), looks := false }, kinds := [], alts := [], laidByText := true, laidKinds := [.data, .data, .data], laidTests := true, laidLooks := .later }
def TermOnceCardSaid : Prop := Claim7.holds Tryd.pinned (.plain (OpenSpec.ofChange termOnceSpec)) termOnceCard

/-- THE TIED CARD OF 'proofmarklaw02.TermGrows'. -/
def termGrowsCard : Claim7 := { stood := { row := termGrowsRow, standIns := [], harness := (true, "5274ed6082589b5fc7b156038195673d4a0d4f1d8f9b99162b396d23d0c04f09"), looks := false }, kinds := [], alts := [], laidByText := true, laidKinds := [.data, .data, .data], laidTests := true, laidLooks := .later }
def TermGrowsCardSaid : Prop := Claim7.holds Tryd.pinned (.plain (OpenSpec.ofChange termGrowsSpec)) termGrowsCard

/-- THE TIED CARD OF 'proofmarklaw02.TermKnown'. -/
def termKnownCard : Claim7 := { stood := { row := termKnownRow, standIns := [], harness := (true, "5274ed6082589b5fc7b156038195673d4a0d4f1d8f9b99162b396d23d0c04f09"), looks := false }, kinds := [], alts := [], laidByText := true, laidKinds := [.data, .data, .data], laidTests := true, laidLooks := .later }
def TermKnownCardSaid : Prop := Claim7.holds Tryd.pinned (.plain (OpenSpec.ofChange termKnownSpec)) termKnownCard

/-- THE SECOND FORM's CARD OF 'proofmarklaw02.TermAdds'. -/
def termAddsUptoCard : Claim7 := { stood := { row := termAddsUptoRow, standIns := [], harness := (true, "5274ed6082589b5fc7b156038195673d4a0d4f1d8f9b99162b396d23d0c04f09"), looks := false }, kinds := [], alts := [], laidByText := true, laidKinds := [.data, .data, .data], laidTests := true, laidLooks := .later }
def TermAddsUptoCardSaid : Prop := Claim7.holds Tryd.pinned (.plain (OpenSpec.upto termAddsSpec)) termAddsUptoCard

/-- THE SECOND FORM's CARD OF 'proofmarklaw02.TermTells'. -/
def termTellsUptoCard : Claim7 := { stood := { row := termTellsUptoRow, standIns := [], harness := (true, "5274ed6082589b5fc7b156038195673d4a0d4f1d8f9b99162b396d23d0c04f09"), looks := false }, kinds := [], alts := [], laidByText := true, laidKinds := [.data, .data, .data], laidTests := true, laidLooks := .later }
def TermTellsUptoCardSaid : Prop := Claim7.holds Tryd.pinned (.plain (OpenSpec.upto termTellsSpec)) termTellsUptoCard

/-- THE SECOND FORM's CARD OF 'proofmarklaw02.TermOnce'. -/
def termOnceUptoCard : Claim7 := { stood := { row := termOnceUptoRow, standIns := [], harness := (true, "5274ed6082589b5fc7b156038195673d4a0d4f1d8f9b99162b396d23d0c04f09"), looks := false }, kinds := [], alts := [], laidByText := true, laidKinds := [.data, .data, .data], laidTests := true, laidLooks := .later }
def TermOnceUptoCardSaid : Prop := Claim7.holds Tryd.pinned (.plain (OpenSpec.upto termOnceSpec)) termOnceUptoCard

/-- THE SECOND FORM's CARD OF 'proofmarklaw02.TermGrows'. -/
def termGrowsUptoCard : Claim7 := { stood := { row := termGrowsUptoRow, standIns := [], harness := (true, "5274ed6082589b5fc7b156038195673d4a0d4f1d8f9b99162b396d23d0c04f09"), looks := false }, kinds := [], alts := [], laidByText := true, laidKinds := [.data, .data, .data], laidTests := true, laidLooks := .later }
def TermGrowsUptoCardSaid : Prop := Claim7.holds Tryd.pinned (.plain (OpenSpec.upto termGrowsSpec)) termGrowsUptoCard

/-- THE SECOND FORM's CARD OF 'proofmarklaw02.TermKnown'. -/
def termKnownUptoCard : Claim7 := { stood := { row := termKnownUptoRow, standIns := [], harness := (true, "5274ed6082589b5fc7b156038195673d4a0d4f1d8f9b99162b396d23d0c04f09"), looks := false }, kinds := [], alts := [], laidByText := true, laidKinds := [.data, .data, .data], laidTests := true, laidLooks := .later }
def TermKnownUptoCardSaid : Prop := Claim7.holds Tryd.pinned (.plain (OpenSpec.upto termKnownSpec)) termKnownUptoCard
end Rows
end Go.Proofs.YtchcnfokhagpkaaDoor
