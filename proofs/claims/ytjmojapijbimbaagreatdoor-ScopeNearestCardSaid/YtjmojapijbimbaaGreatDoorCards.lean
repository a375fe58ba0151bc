/-
  DERIVED. GIVEN WITH THE SEED: THE CARDS: each row of YtjmojapijbimbaaGreatDoorRows.lean that lists a variable, with what it lists TIED to the program's text (the seventh form; the later family's looks); each row that meets fmt, with fmt's text TOLD by the authors' own Lean function (tested against real Go, not proved from fmt's source: count such statements apart). THE CARD IS WHAT COUNTS. Prove the row's statement (the work); the ties are given (YtjmojapijbimbaaGreatDoorTie.lean); close each card by the builder's one call (the guide's Derived/Test/ToyasCard.lean, 'card_holds'). Laid BY PROGRAM, IN A SANDBOX (cutbox-door.mjs). By AI agents, Wed Nov 11 2026. No macro, syntax, notation, axiom, sorry.
-/
import Derived.Test.YtjmojapijbimbaaGreatDoorRows
import GoSem.ClaimSeven
namespace Go.Proofs.YtjmojapijbimbaaGreatDoor
namespace Rows

/-- THE TIED CARD OF 'pandectlaw13.ScopeMatchesReference'. -/
def scopeMatchesReferenceCard : Claim7 := { stood := { row := scopeMatchesReferenceRow, standIns := [], harness := (true, "c88d5c1c955562aef3d73ef3ebadea5967c04a6b99d55d496fc3fb2305561204"), looks := true }, kinds := [], alts := [], laidByText := true, laidKinds := [.data, .data, .data, .sentinel, .sentinel], laidTests := true, laidLooks := .later }
def ScopeMatchesReferenceCardSaid : Prop := Claim7.holds Tryz.pinned (.plain (OpenSpec.ofChange scopeMatchesReferenceSpec)) scopeMatchesReferenceCard

/-- THE TIED CARD OF 'pandectlaw13.ScopeLawMatchesReference'. -/
def scopeLawMatchesReferenceCard : Claim7 := { stood := { row := scopeLawMatchesReferenceRow, standIns := [], harness := (true, "c88d5c1c955562aef3d73ef3ebadea5967c04a6b99d55d496fc3fb2305561204"), looks := true }, kinds := [], alts := [], laidByText := true, laidKinds := [.data, .data, .data, .sentinel, .sentinel], laidTests := true, laidLooks := .later }
def ScopeLawMatchesReferenceCardSaid : Prop := Claim7.holds Tryz.pinned (.plain (OpenSpec.ofChange scopeLawMatchesReferenceSpec)) scopeLawMatchesReferenceCard

/-- THE TIED CARD OF 'pandectlaw13.ScopeNearest'. -/
def scopeNearestCard : Claim7 := { stood := { row := scopeNearestRow, standIns := [], harness := (true, "c88d5c1c955562aef3d73ef3ebadea5967c04a6b99d55d496fc3fb2305561204"), looks := true }, kinds := [], alts := [], laidByText := true, laidKinds := [.data, .data, .data, .sentinel, .sentinel], laidTests := true, laidLooks := .later }
def ScopeNearestCardSaid : Prop := Claim7.holds Tryz.pinned (.plain (OpenSpec.ofChange scopeNearestSpec)) scopeNearestCard

/-- THE TIED CARD OF 'pandectlaw13.ScopeCircles'. -/
def scopeCirclesCard : Claim7 := { stood := { row := scopeCirclesRow, standIns := [], harness := (true, "c88d5c1c955562aef3d73ef3ebadea5967c04a6b99d55d496fc3fb2305561204"), looks := true }, kinds := [], alts := [], laidByText := true, laidKinds := [.data, .data, .data, .sentinel, .sentinel], laidTests := true, laidLooks := .later }
def ScopeCirclesCardSaid : Prop := Claim7.holds Tryz.pinned (.plain (OpenSpec.ofChange scopeCirclesSpec)) scopeCirclesCard

/-- THE TIED CARD OF 'pandectlaw13.ScopeElsewhere'. -/
def scopeElsewhereCard : Claim7 := { stood := { row := scopeElsewhereRow, standIns := [], harness := (true, "c88d5c1c955562aef3d73ef3ebadea5967c04a6b99d55d496fc3fb2305561204"), looks := true }, kinds := [], alts := [], laidByText := true, laidKinds := [.data, .data, .data, .sentinel, .sentinel], laidTests := true, laidLooks := .later }
def ScopeElsewhereCardSaid : Prop := Claim7.holds Tryz.pinned (.plain (OpenSpec.ofChange scopeElsewhereSpec)) scopeElsewhereCard

/-- THE TIED CARD OF 'pandectlaw13.ScopeLaws'. -/
def scopeLawsCard : Claim7 := { stood := { row := scopeLawsRow, standIns := [], harness := (true, "c88d5c1c955562aef3d73ef3ebadea5967c04a6b99d55d496fc3fb2305561204"), looks := true }, kinds := [], alts := [], laidByText := true, laidKinds := [.data, .data, .data, .sentinel, .sentinel], laidTests := true, laidLooks := .later }
def ScopeLawsCardSaid : Prop := Claim7.holds Tryz.pinned (.plain (OpenSpec.ofChange scopeLawsSpec)) scopeLawsCard

/-- THE TIED CARD OF 'pandectlaw13.ScopeRenamed'. -/
def scopeRenamedCard : Claim7 := { stood := { row := scopeRenamedRow, standIns := [], harness := (true, "c88d5c1c955562aef3d73ef3ebadea5967c04a6b99d55d496fc3fb2305561204"), looks := true }, kinds := [], alts := [], laidByText := true, laidKinds := [.data, .data, .data, .sentinel, .sentinel], laidTests := true, laidLooks := .later }
def ScopeRenamedCardSaid : Prop := Claim7.holds Tryz.pinned (.plain (OpenSpec.ofChange scopeRenamedSpec)) scopeRenamedCard

/-- THE TIED CARD OF 'pandectlaw13.ScopeMeaning'. -/
def scopeMeaningCard : Claim7 := { stood := { row := scopeMeaningRow, standIns := [], harness := (true, "c88d5c1c955562aef3d73ef3ebadea5967c04a6b99d55d496fc3fb2305561204"), looks := true }, kinds := [], alts := [], laidByText := true, laidKinds := [.data, .data, .data, .sentinel, .sentinel], laidTests := true, laidLooks := .later }
def ScopeMeaningCardSaid : Prop := Claim7.holds Tryz.pinned (.plain (OpenSpec.ofChange scopeMeaningSpec)) scopeMeaningCard

/-- THE SECOND FORM's CARD OF 'pandectlaw13.ScopeMatchesReference'. -/
def scopeMatchesReferenceUptoCard : Claim7 := { stood := { row := scopeMatchesReferenceUptoRow, standIns := [], harness := (true, "c88d5c1c955562aef3d73ef3ebadea5967c04a6b99d55d496fc3fb2305561204"), looks := true }, kinds := [], alts := [], laidByText := true, laidKinds := [.data, .data, .data, .sentinel, .sentinel], laidTests := true, laidLooks := .later }
def ScopeMatchesReferenceUptoCardSaid : Prop := Claim7.holds Tryz.pinned (.plain (OpenSpec.upto scopeMatchesReferenceSpec)) scopeMatchesReferenceUptoCard

/-- THE SECOND FORM's CARD OF 'pandectlaw13.ScopeLawMatchesReference'. -/
def scopeLawMatchesReferenceUptoCard : Claim7 := { stood := { row := scopeLawMatchesReferenceUptoRow, standIns := [], harness := (true, "c88d5c1c955562aef3d73ef3ebadea5967c04a6b99d55d496fc3fb2305561204"), looks := true }, kinds := [], alts := [], laidByText := true, laidKinds := [.data, .data, .data, .sentinel, .sentinel], laidTests := true, laidLooks := .later }
def ScopeLawMatchesReferenceUptoCardSaid : Prop := Claim7.holds Tryz.pinned (.plain (OpenSpec.upto scopeLawMatchesReferenceSpec)) scopeLawMatchesReferenceUptoCard

/-- THE SECOND FORM's CARD OF 'pandectlaw13.ScopeNearest'. -/
def scopeNearestUptoCard : Claim7 := { stood := { row := scopeNearestUptoRow, standIns := [], harness := (true, "c88d5c1c955562aef3d73ef3ebadea5967c04a6b99d55d496fc3fb2305561204"), looks := true }, kinds := [], alts := [], laidByText := true, laidKinds := [.data, .data, .data, .sentinel, .sentinel], laidTests := true, laidLooks := .later }
def ScopeNearestUptoCardSaid : Prop := Claim7.holds Tryz.pinned (.plain (OpenSpec.upto scopeNearestSpec)) scopeNearestUptoCard

/-- THE SECOND FORM's CARD OF 'pandectlaw13.ScopeCircles'. -/
def scopeCirclesUptoCard : Claim7 := { stood := { row := scopeCirclesUptoRow, standIns := [], harness := (true, "c88d5c1c955562aef3d73ef3ebadea5967c04a6b99d55d496fc3fb2305561204"), looks := true }, kinds := [], alts := [], laidByText := true, laidKinds := [.data, .data, .data, .sentinel, .sentinel], laidTests := true, laidLooks := .later }
def ScopeCirclesUptoCardSaid : Prop := Claim7.holds Tryz.pinned (.plain (OpenSpec.upto scopeCirclesSpec)) scopeCirclesUptoCard

/-- THE SECOND FORM's CARD OF 'pandectlaw13.ScopeElsewhere'. -/
def scopeElsewhereUptoCard : Claim7 := { stood := { row := scopeElsewhereUptoRow, standIns := [], harness := (true, "c88d5c1c955562aef3d73ef3ebadea5967c04a6b99d55d496fc3fb2305561204"), looks := true }, kinds := [], alts := [], laidByText := true, laidKinds := [.data, .data, .data, .sentinel, .sentinel], laidTests := true, laidLooks := .later }
def ScopeElsewhereUptoCardSaid : Prop := Claim7.holds Tryz.pinned (.plain (OpenSpec.upto scopeElsewhereSpec)) scopeElsewhereUptoCard

/-- THE SECOND FORM's CARD OF 'pandectlaw13.ScopeLaws'. -/
def scopeLawsUptoCard : Claim7 := { stood := { row := scopeLawsUptoRow, standIns := [], harness := (true, "c88d5c1c955562aef3d73ef3ebadea5967c04a6b99d55d496fc3fb2305561204"), looks := true }, kinds := [], alts := [], laidByText := true, laidKinds := [.data, .data, .data, .sentinel, .sentinel], laidTests := true, laidLooks := .later }
def ScopeLawsUptoCardSaid : Prop := Claim7.holds Tryz.pinned (.plain (OpenSpec.upto scopeLawsSpec)) scopeLawsUptoCard

/-- THE SECOND FORM's CARD OF 'pandectlaw13.ScopeRenamed'. -/
def scopeRenamedUptoCard : Claim7 := { stood := { row := scopeRenamedUptoRow, standIns := [], harness := (true, "c88d5c1c955562aef3d73ef3ebadea5967c04a6b99d55d496fc3fb2305561204"), looks := true }, kinds := [], alts := [], laidByText := true, laidKinds := [.data, .data, .data, .sentinel, .sentinel], laidTests := true, laidLooks := .later }
def ScopeRenamedUptoCardSaid : Prop := Claim7.holds Tryz.pinned (.plain (OpenSpec.upto scopeRenamedSpec)) scopeRenamedUptoCard

/-- THE SECOND FORM's CARD OF 'pandectlaw13.ScopeMeaning'. -/
def scopeMeaningUptoCard : Claim7 := { stood := { row := scopeMeaningUptoRow, standIns := [], harness := (true, "c88d5c1c955562aef3d73ef3ebadea5967c04a6b99d55d496fc3fb2305561204"), looks := true }, kinds := [], alts := [], laidByText := true, laidKinds := [.data, .data, .data, .sentinel, .sentinel], laidTests := true, laidLooks := .later }
def ScopeMeaningUptoCardSaid : Prop := Claim7.holds Tryz.pinned (.plain (OpenSpec.upto scopeMeaningSpec)) scopeMeaningUptoCard
end Rows
end Go.Proofs.YtjmojapijbimbaaGreatDoor
