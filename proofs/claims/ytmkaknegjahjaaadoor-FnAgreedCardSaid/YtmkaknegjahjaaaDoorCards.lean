/-
  DERIVED. GIVEN WITH THE SEED: THE CARDS: each row of YtmkaknegjahjaaaDoorRows.lean that lists a variable, with what it lists TIED to the program's text (the seventh form; the later family's looks); each row that meets fmt, with fmt's text TOLD by the authors' own Lean function (tested against real Go, not proved from fmt's source: count such statements apart). THE CARD IS WHAT COUNTS. Prove the row's statement (the work); the ties are given (YtmkaknegjahjaaaDoorTie.lean); close each card by the builder's one call (the guide's Derived/Test/ToyasCard.lean, 'card_holds'). Laid BY PROGRAM, IN A SANDBOX (cutbox-door.mjs). By AI agents, Wed Nov 11 2026. No macro, syntax, notation, axiom, sorry.
-/
import Derived.Test.YtmkaknegjahjaaaDoorRows
import GoSem.ClaimSeven
namespace Go.Proofs.YtmkaknegjahjaaaDoor
namespace Rows

/-- THE TIED CARD OF 'laws.FnHash'. -/
def fnHashCard : Claim7 := { stood := { row := fnHashRow, standIns := [], harness := (true, "f826c8bcbfcd37441bd9634777cc90420b5f7f0b7ab6503daca6d284be377300"), looks := false }, kinds := [], alts := [], laidByText := true, laidKinds := [.data], laidTests := true, laidLooks := .later }
def FnHashCardSaid : Prop := Claim7.holds Tryd.pinned (.plain (OpenSpec.ofChange fnHashSpec)) fnHashCard

/-- THE TIED CARD OF 'laws.FnChain'. -/
def fnChainCard : Claim7 := { stood := { row := fnChainRow, standIns := [], harness := (true, "f826c8bcbfcd37441bd9634777cc90420b5f7f0b7ab6503daca6d284be377300"), looks := false }, kinds := [], alts := [], laidByText := true, laidKinds := [.data], laidTests := true, laidLooks := .later }
def FnChainCardSaid : Prop := Claim7.holds Tryd.pinned (.plain (OpenSpec.ofChange fnChainSpec)) fnChainCard

/-- THE TIED CARD OF 'laws.FnLamport'. -/
def fnLamportCard : Claim7 := { stood := { row := fnLamportRow, standIns := [], harness := (true, "f826c8bcbfcd37441bd9634777cc90420b5f7f0b7ab6503daca6d284be377300"), looks := false }, kinds := [], alts := [], laidByText := true, laidKinds := [.data], laidTests := true, laidLooks := .later }
def FnLamportCardSaid : Prop := Claim7.holds Tryd.pinned (.plain (OpenSpec.ofChange fnLamportSpec)) fnLamportCard

/-- THE TIED CARD OF 'laws.FnExactTableDigest'. -/
def fnExactTableDigestCard : Claim7 := { stood := { row := fnExactTableDigestRow, standIns := [], harness := (true, "f826c8bcbfcd37441bd9634777cc90420b5f7f0b7ab6503daca6d284be377300"), looks := false }, kinds := [], alts := [], laidByText := true, laidKinds := [.data], laidTests := true, laidLooks := .later }
def FnExactTableDigestCardSaid : Prop := Claim7.holds Tryd.pinned (.plain (OpenSpec.ofChange fnExactTableDigestSpec)) fnExactTableDigestCard

/-- THE TIED CARD OF 'laws.FnExactReadingsTime'. -/
def fnExactReadingsTimeCard : Claim7 := { stood := { row := fnExactReadingsTimeRow, standIns := [], harness := (true, "f826c8bcbfcd37441bd9634777cc90420b5f7f0b7ab6503daca6d284be377300"), looks := false }, kinds := [], alts := [], laidByText := true, laidKinds := [.data], laidTests := true, laidLooks := .later }
def FnExactReadingsTimeCardSaid : Prop := Claim7.holds Tryd.pinned (.plain (OpenSpec.ofChange fnExactReadingsTimeSpec)) fnExactReadingsTimeCard

/-- THE TIED CARD OF 'laws.FnExactAgreedTime'. -/
def fnExactAgreedTimeCard : Claim7 := { stood := { row := fnExactAgreedTimeRow, standIns := [], harness := (true, "f826c8bcbfcd37441bd9634777cc90420b5f7f0b7ab6503daca6d284be377300"), looks := false }, kinds := [], alts := [], laidByText := true, laidKinds := [.data], laidTests := true, laidLooks := .later }
def FnExactAgreedTimeCardSaid : Prop := Claim7.holds Tryd.pinned (.plain (OpenSpec.ofChange fnExactAgreedTimeSpec)) fnExactAgreedTimeCard

/-- THE TIED CARD OF 'laws.FnAgreed'. -/
def fnAgreedCard : Claim7 := { stood := { row := fnAgreedRow, standIns := [], harness := (true, "f826c8bcbfcd37441bd9634777cc90420b5f7f0b7ab6503daca6d284be377300"), looks := false }, kinds := [], alts := [], laidByText := true, laidKinds := [.data], laidTests := true, laidLooks := .later }
def FnAgreedCardSaid : Prop := Claim7.holds Tryd.pinned (.plain (OpenSpec.ofChange fnAgreedSpec)) fnAgreedCard

/-- THE SECOND FORM's CARD OF 'laws.FnHash'. -/
def fnHashUptoCard : Claim7 := { stood := { row := fnHashUptoRow, standIns := [], harness := (true, "f826c8bcbfcd37441bd9634777cc90420b5f7f0b7ab6503daca6d284be377300"), looks := false }, kinds := [], alts := [], laidByText := true, laidKinds := [.data], laidTests := true, laidLooks := .later }
def FnHashUptoCardSaid : Prop := Claim7.holds Tryd.pinned (.plain (OpenSpec.upto fnHashSpec)) fnHashUptoCard

/-- THE SECOND FORM's CARD OF 'laws.FnChain'. -/
def fnChainUptoCard : Claim7 := { stood := { row := fnChainUptoRow, standIns := [], harness := (true, "f826c8bcbfcd37441bd9634777cc90420b5f7f0b7ab6503daca6d284be377300"), looks := false }, kinds := [], alts := [], laidByText := true, laidKinds := [.data], laidTests := true, laidLooks := .later }
def FnChainUptoCardSaid : Prop := Claim7.holds Tryd.pinned (.plain (OpenSpec.upto fnChainSpec)) fnChainUptoCard

/-- THE SECOND FORM's CARD OF 'laws.FnLamport'. -/
def fnLamportUptoCard : Claim7 := { stood := { row := fnLamportUptoRow, standIns := [], harness := (true, "f826c8bcbfcd37441bd9634777cc90420b5f7f0b7ab6503daca6d284be377300"), looks := false }, kinds := [], alts := [], laidByText := true, laidKinds := [.data], laidTests := true, laidLooks := .later }
def FnLamportUptoCardSaid : Prop := Claim7.holds Tryd.pinned (.plain (OpenSpec.upto fnLamportSpec)) fnLamportUptoCard

/-- THE SECOND FORM's CARD OF 'laws.FnExactTableDigest'. -/
def fnExactTableDigestUptoCard : Claim7 := { stood := { row := fnExactTableDigestUptoRow, standIns := [], harness := (true, "f826c8bcbfcd37441bd9634777cc90420b5f7f0b7ab6503daca6d284be377300"), looks := false }, kinds := [], alts := [], laidByText := true, laidKinds := [.data], laidTests := true, laidLooks := .later }
def FnExactTableDigestUptoCardSaid : Prop := Claim7.holds Tryd.pinned (.plain (OpenSpec.upto fnExactTableDigestSpec)) fnExactTableDigestUptoCard

/-- THE SECOND FORM's CARD OF 'laws.FnExactReadingsTime'. -/
def fnExactReadingsTimeUptoCard : Claim7 := { stood := { row := fnExactReadingsTimeUptoRow, standIns := [], harness := (true, "f826c8bcbfcd37441bd9634777cc90420b5f7f0b7ab6503daca6d284be377300"), looks := false }, kinds := [], alts := [], laidByText := true, laidKinds := [.data], laidTests := true, laidLooks := .later }
def FnExactReadingsTimeUptoCardSaid : Prop := Claim7.holds Tryd.pinned (.plain (OpenSpec.upto fnExactReadingsTimeSpec)) fnExactReadingsTimeUptoCard

/-- THE SECOND FORM's CARD OF 'laws.FnExactAgreedTime'. -/
def fnExactAgreedTimeUptoCard : Claim7 := { stood := { row := fnExactAgreedTimeUptoRow, standIns := [], harness := (true, "f826c8bcbfcd37441bd9634777cc90420b5f7f0b7ab6503daca6d284be377300"), looks := false }, kinds := [], alts := [], laidByText := true, laidKinds := [.data], laidTests := true, laidLooks := .later }
def FnExactAgreedTimeUptoCardSaid : Prop := Claim7.holds Tryd.pinned (.plain (OpenSpec.upto fnExactAgreedTimeSpec)) fnExactAgreedTimeUptoCard

/-- THE SECOND FORM's CARD OF 'laws.FnAgreed'. -/
def fnAgreedUptoCard : Claim7 := { stood := { row := fnAgreedUptoRow, standIns := [], harness := (true, "f826c8bcbfcd37441bd9634777cc90420b5f7f0b7ab6503daca6d284be377300"), looks := false }, kinds := [], alts := [], laidByText := true, laidKinds := [.data], laidTests := true, laidLooks := .later }
def FnAgreedUptoCardSaid : Prop := Claim7.holds Tryd.pinned (.plain (OpenSpec.upto fnAgreedSpec)) fnAgreedUptoCard
end Rows
end Go.Proofs.YtmkaknegjahjaaaDoor
