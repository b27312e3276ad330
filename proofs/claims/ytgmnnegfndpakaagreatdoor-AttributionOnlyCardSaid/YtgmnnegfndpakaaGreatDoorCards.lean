/-
  DERIVED. GIVEN WITH THE SEED: THE CARDS: each row of YtgmnnegfndpakaaGreatDoorRows.lean that lists a variable, with what it lists TIED to the program's text (the seventh form; the later family's looks); each row that meets fmt, with fmt's text TOLD by the authors' own Lean function (tested against real Go, not proved from fmt's source: count such statements apart). THE CARD IS WHAT COUNTS. Prove the row's statement (the work); the ties are given (YtgmnnegfndpakaaGreatDoorTie.lean); close each card by the builder's one call (the guide's Derived/Test/ToyasCard.lean, 'card_holds'). Laid BY PROGRAM, IN A SANDBOX (cutbox-door.mjs). By AI agents, Wed Nov 11 2026. No macro, syntax, notation, axiom, sorry.
-/
import Derived.Test.YtgmnnegfndpakaaGreatDoorRows
import GoSem.ClaimSeven
namespace Go.Proofs.YtgmnnegfndpakaaGreatDoor
namespace Rows

/-- THE TIED CARD OF 'gabaritlaw16.ContentChecks'. -/
def contentChecksCard : Claim7 := { stood := { row := contentChecksRow, standIns := [], harness := (true, "3c2bffbd3973d55bfdac09406538d5020e7e400fc1c5ea7ccd42144280e23d18"), looks := false }, kinds := [], alts := [], laidByText := true, laidKinds := [.data, .data, .data], laidTests := true, laidLooks := .later }
def ContentChecksCardSaid : Prop := Claim7.holds Tryz.pinned (.plain (OpenSpec.ofChange contentChecksSpec)) contentChecksCard

/-- THE TIED CARD OF 'gabaritlaw16.ContentIncludes'. -/
def contentIncludesCard : Claim7 := { stood := { row := contentIncludesRow, standIns := [], harness := (true, "3c2bffbd3973d55bfdac09406538d5020e7e400fc1c5ea7ccd42144280e23d18"), looks := false }, kinds := [], alts := [], laidByText := true, laidKinds := [.data, .data, .data], laidTests := true, laidLooks := .later }
def ContentIncludesCardSaid : Prop := Claim7.holds Tryz.pinned (.plain (OpenSpec.ofChange contentIncludesSpec)) contentIncludesCard

/-- THE TIED CARD OF 'gabaritlaw16.ContentMeans'. -/
def contentMeansCard : Claim7 := { stood := { row := contentMeansRow, standIns := [], harness := (true, "3c2bffbd3973d55bfdac09406538d5020e7e400fc1c5ea7ccd42144280e23d18"), looks := false }, kinds := [], alts := [], laidByText := true, laidKinds := [.data, .data, .data], laidTests := true, laidLooks := .later }
def ContentMeansCardSaid : Prop := Claim7.holds Tryz.pinned (.plain (OpenSpec.ofChange contentMeansSpec)) contentMeansCard

/-- THE TIED CARD OF 'gabaritlaw16.ContentMakes'. -/
def contentMakesCard : Claim7 := { stood := { row := contentMakesRow, standIns := [], harness := (true, "3c2bffbd3973d55bfdac09406538d5020e7e400fc1c5ea7ccd42144280e23d18"), looks := false }, kinds := [], alts := [], laidByText := true, laidKinds := [.data, .data, .data], laidTests := true, laidLooks := .later }
def ContentMakesCardSaid : Prop := Claim7.holds Tryz.pinned (.plain (OpenSpec.ofChange contentMakesSpec)) contentMakesCard

/-- THE TIED CARD OF 'gabaritlaw16.ContentAgrees'. -/
def contentAgreesCard : Claim7 := { stood := { row := contentAgreesRow, standIns := [], harness := (true, "3c2bffbd3973d55bfdac09406538d5020e7e400fc1c5ea7ccd42144280e23d18"), looks := false }, kinds := [], alts := [], laidByText := true, laidKinds := [.data, .data, .data], laidTests := true, laidLooks := .later }
def ContentAgreesCardSaid : Prop := Claim7.holds Tryz.pinned (.plain (OpenSpec.ofChange contentAgreesSpec)) contentAgreesCard

/-- THE TIED CARD OF 'gabaritlaw17.AttributionClashes'. -/
def attributionClashesCard : Claim7 := { stood := { row := attributionClashesRow, standIns := [], harness := (true, "3c2bffbd3973d55bfdac09406538d5020e7e400fc1c5ea7ccd42144280e23d18"), looks := false }, kinds := [], alts := [], laidByText := true, laidKinds := [.data, .data, .data], laidTests := true, laidLooks := .later }
def AttributionClashesCardSaid : Prop := Claim7.holds Tryz.pinned (.plain (OpenSpec.ofChange attributionClashesSpec)) attributionClashesCard

/-- THE TIED CARD OF 'gabaritlaw17.AttributionOnly'. -/
def attributionOnlyCard : Claim7 := { stood := { row := attributionOnlyRow, standIns := [], harness := (true, "3c2bffbd3973d55bfdac09406538d5020e7e400fc1c5ea7ccd42144280e23d18"), looks := false }, kinds := [], alts := [], laidByText := true, laidKinds := [.data, .data, .data], laidTests := true, laidLooks := .later }
def AttributionOnlyCardSaid : Prop := Claim7.holds Tryz.pinned (.plain (OpenSpec.ofChange attributionOnlySpec)) attributionOnlyCard

/-- THE TIED CARD OF 'gabaritlaw17.AttributionKeeps'. -/
def attributionKeepsCard : Claim7 := { stood := { row := attributionKeepsRow, standIns := [], harness := (true, "3c2bffbd3973d55bfdac09406538d5020e7e400fc1c5ea7ccd42144280e23d18"), looks := false }, kinds := [], alts := [], laidByText := true, laidKinds := [.data, .data, .data], laidTests := true, laidLooks := .later }
def AttributionKeepsCardSaid : Prop := Claim7.holds Tryz.pinned (.plain (OpenSpec.ofChange attributionKeepsSpec)) attributionKeepsCard

/-- THE SECOND FORM's CARD OF 'gabaritlaw16.ContentChecks'. -/
def contentChecksUptoCard : Claim7 := { stood := { row := contentChecksUptoRow, standIns := [], harness := (true, "3c2bffbd3973d55bfdac09406538d5020e7e400fc1c5ea7ccd42144280e23d18"), looks := false }, kinds := [], alts := [], laidByText := true, laidKinds := [.data, .data, .data], laidTests := true, laidLooks := .later }
def ContentChecksUptoCardSaid : Prop := Claim7.holds Tryz.pinned (.plain (OpenSpec.upto contentChecksSpec)) contentChecksUptoCard

/-- THE SECOND FORM's CARD OF 'gabaritlaw16.ContentIncludes'. -/
def contentIncludesUptoCard : Claim7 := { stood := { row := contentIncludesUptoRow, standIns := [], harness := (true, "3c2bffbd3973d55bfdac09406538d5020e7e400fc1c5ea7ccd42144280e23d18"), looks := false }, kinds := [], alts := [], laidByText := true, laidKinds := [.data, .data, .data], laidTests := true, laidLooks := .later }
def ContentIncludesUptoCardSaid : Prop := Claim7.holds Tryz.pinned (.plain (OpenSpec.upto contentIncludesSpec)) contentIncludesUptoCard

/-- THE SECOND FORM's CARD OF 'gabaritlaw16.ContentMeans'. -/
def contentMeansUptoCard : Claim7 := { stood := { row := contentMeansUptoRow, standIns := [], harness := (true, "3c2bffbd3973d55bfdac09406538d5020e7e400fc1c5ea7ccd42144280e23d18"), looks := false }, kinds := [], alts := [], laidByText := true, laidKinds := [.data, .data, .data], laidTests := true, laidLooks := .later }
def ContentMeansUptoCardSaid : Prop := Claim7.holds Tryz.pinned (.plain (OpenSpec.upto contentMeansSpec)) contentMeansUptoCard

/-- THE SECOND FORM's CARD OF 'gabaritlaw16.ContentMakes'. -/
def contentMakesUptoCard : Claim7 := { stood := { row := contentMakesUptoRow, standIns := [], harness := (true, "3c2bffbd3973d55bfdac09406538d5020e7e400fc1c5ea7ccd42144280e23d18"), looks := false }, kinds := [], alts := [], laidByText := true, laidKinds := [.data, .data, .data], laidTests := true, laidLooks := .later }
def ContentMakesUptoCardSaid : Prop := Claim7.holds Tryz.pinned (.plain (OpenSpec.upto contentMakesSpec)) contentMakesUptoCard

/-- THE SECOND FORM's CARD OF 'gabaritlaw16.ContentAgrees'. -/
def contentAgreesUptoCard : Claim7 := { stood := { row := contentAgreesUptoRow, standIns := [], harness := (true, "3c2bffbd3973d55bfdac09406538d5020e7e400fc1c5ea7ccd42144280e23d18"), looks := false }, kinds := [], alts := [], laidByText := true, laidKinds := [.data, .data, .data], laidTests := true, laidLooks := .later }
def ContentAgreesUptoCardSaid : Prop := Claim7.holds Tryz.pinned (.plain (OpenSpec.upto contentAgreesSpec)) contentAgreesUptoCard

/-- THE SECOND FORM's CARD OF 'gabaritlaw17.AttributionClashes'. -/
def attributionClashesUptoCard : Claim7 := { stood := { row := attributionClashesUptoRow, standIns := [], harness := (true, "3c2bffbd3973d55bfdac09406538d5020e7e400fc1c5ea7ccd42144280e23d18"), looks := false }, kinds := [], alts := [], laidByText := true, laidKinds := [.data, .data, .data], laidTests := true, laidLooks := .later }
def AttributionClashesUptoCardSaid : Prop := Claim7.holds Tryz.pinned (.plain (OpenSpec.upto attributionClashesSpec)) attributionClashesUptoCard

/-- THE SECOND FORM's CARD OF 'gabaritlaw17.AttributionOnly'. -/
def attributionOnlyUptoCard : Claim7 := { stood := { row := attributionOnlyUptoRow, standIns := [], harness := (true, "3c2bffbd3973d55bfdac09406538d5020e7e400fc1c5ea7ccd42144280e23d18"), looks := false }, kinds := [], alts := [], laidByText := true, laidKinds := [.data, .data, .data], laidTests := true, laidLooks := .later }
def AttributionOnlyUptoCardSaid : Prop := Claim7.holds Tryz.pinned (.plain (OpenSpec.upto attributionOnlySpec)) attributionOnlyUptoCard

/-- THE SECOND FORM's CARD OF 'gabaritlaw17.AttributionKeeps'. -/
def attributionKeepsUptoCard : Claim7 := { stood := { row := attributionKeepsUptoRow, standIns := [], harness := (true, "3c2bffbd3973d55bfdac09406538d5020e7e400fc1c5ea7ccd42144280e23d18"), looks := false }, kinds := [], alts := [], laidByText := true, laidKinds := [.data, .data, .data], laidTests := true, laidLooks := .later }
def AttributionKeepsUptoCardSaid : Prop := Claim7.holds Tryz.pinned (.plain (OpenSpec.upto attributionKeepsSpec)) attributionKeepsUptoCard
end Rows
end Go.Proofs.YtgmnnegfndpakaaGreatDoor
