/-
  DERIVED. GIVEN WITH THE SEED: THE CARDS: each row of YtgknilganicofaaDoorRows.lean that lists a variable, with what it lists TIED to the program's text (the seventh form; the later family's looks); each row that meets fmt, with fmt's text TOLD by the authors' own Lean function (tested against real Go, not proved from fmt's source: count such statements apart). THE CARD IS WHAT COUNTS. Prove the row's statement (the work); the ties are given (YtgknilganicofaaDoorTie.lean); close each card by the builder's one call (the guide's Derived/Test/ToyasCard.lean, 'card_holds'). Laid BY PROGRAM, IN A SANDBOX (cutbox-door.mjs). By AI agents, Wed Nov 11 2026. No macro, syntax, notation, axiom, sorry.
-/
import Derived.Test.YtgknilganicofaaDoorRows
import GoSem.ClaimSeven
namespace Go.Proofs.YtgknilganicofaaDoor
namespace Rows

/-- THE TIED CARD OF 'laws.FnExactHash'. -/
def fnExactHashCard : Claim7 := { stood := { row := fnExactHashRow, standIns := [], harness := (true, "9d6af0a908e6099cdeb097d0880774c0520c63795da99e62befc09a2ccf02f7d"), looks := false }, kinds := [], alts := [], laidByText := true, laidKinds := [.data], laidTests := true, laidLooks := .later }
def FnExactHashCardSaid : Prop := Claim7.holds Tryd.pinned (.plain (OpenSpec.ofChange fnExactHashSpec)) fnExactHashCard

/-- THE TIED CARD OF 'laws.FnExactBodyDigest'. -/
def fnExactBodyDigestCard : Claim7 := { stood := { row := fnExactBodyDigestRow, standIns := [], harness := (true, "9d6af0a908e6099cdeb097d0880774c0520c63795da99e62befc09a2ccf02f7d"), looks := false }, kinds := [], alts := [], laidByText := true, laidKinds := [.data], laidTests := true, laidLooks := .later }
def FnExactBodyDigestCardSaid : Prop := Claim7.holds Tryd.pinned (.plain (OpenSpec.ofChange fnExactBodyDigestSpec)) fnExactBodyDigestCard

/-- THE TIED CARD OF 'laws.FnExactMessageBits'. -/
def fnExactMessageBitsCard : Claim7 := { stood := { row := fnExactMessageBitsRow, standIns := [], harness := (true, "9d6af0a908e6099cdeb097d0880774c0520c63795da99e62befc09a2ccf02f7d"), looks := false }, kinds := [], alts := [], laidByText := true, laidKinds := [.data], laidTests := true, laidLooks := .later }
def FnExactMessageBitsCardSaid : Prop := Claim7.holds Tryd.pinned (.plain (OpenSpec.ofChange fnExactMessageBitsSpec)) fnExactMessageBitsCard

/-- THE TIED CARD OF 'laws.FnExactReadingMac'. -/
def fnExactReadingMacCard : Claim7 := { stood := { row := fnExactReadingMacRow, standIns := [], harness := (true, "9d6af0a908e6099cdeb097d0880774c0520c63795da99e62befc09a2ccf02f7d"), looks := false }, kinds := [], alts := [], laidByText := true, laidKinds := [.data], laidTests := true, laidLooks := .later }
def FnExactReadingMacCardSaid : Prop := Claim7.holds Tryd.pinned (.plain (OpenSpec.ofChange fnExactReadingMacSpec)) fnExactReadingMacCard

/-- THE TIED CARD OF 'laws.FnExactSecretAt'. -/
def fnExactSecretAtCard : Claim7 := { stood := { row := fnExactSecretAtRow, standIns := [], harness := (true, "9d6af0a908e6099cdeb097d0880774c0520c63795da99e62befc09a2ccf02f7d"), looks := false }, kinds := [], alts := [], laidByText := true, laidKinds := [.data], laidTests := true, laidLooks := .later }
def FnExactSecretAtCardSaid : Prop := Claim7.holds Tryd.pinned (.plain (OpenSpec.ofChange fnExactSecretAtSpec)) fnExactSecretAtCard

/-- THE TIED CARD OF 'laws.FnExactOneTimeKey'. -/
def fnExactOneTimeKeyCard : Claim7 := { stood := { row := fnExactOneTimeKeyRow, standIns := [], harness := (true, "9d6af0a908e6099cdeb097d0880774c0520c63795da99e62befc09a2ccf02f7d"), looks := false }, kinds := [], alts := [], laidByText := true, laidKinds := [.data], laidTests := true, laidLooks := .later }
def FnExactOneTimeKeyCardSaid : Prop := Claim7.holds Tryd.pinned (.plain (OpenSpec.ofChange fnExactOneTimeKeySpec)) fnExactOneTimeKeyCard

/-- THE TIED CARD OF 'laws.FnExactMessageSigned'. -/
def fnExactMessageSignedCard : Claim7 := { stood := { row := fnExactMessageSignedRow, standIns := [], harness := (true, "9d6af0a908e6099cdeb097d0880774c0520c63795da99e62befc09a2ccf02f7d"), looks := false }, kinds := [], alts := [], laidByText := true, laidKinds := [.data], laidTests := true, laidLooks := .later }
def FnExactMessageSignedCardSaid : Prop := Claim7.holds Tryd.pinned (.plain (OpenSpec.ofChange fnExactMessageSignedSpec)) fnExactMessageSignedCard

/-- THE TIED CARD OF 'laws.FnExactSignMessage'. -/
def fnExactSignMessageCard : Claim7 := { stood := { row := fnExactSignMessageRow, standIns := [], harness := (true, "9d6af0a908e6099cdeb097d0880774c0520c63795da99e62befc09a2ccf02f7d"), looks := false }, kinds := [], alts := [], laidByText := true, laidKinds := [.data], laidTests := true, laidLooks := .later }
def FnExactSignMessageCardSaid : Prop := Claim7.holds Tryd.pinned (.plain (OpenSpec.ofChange fnExactSignMessageSpec)) fnExactSignMessageCard

/-- THE TIED CARD OF 'laws.FnExactChainRoot'. -/
def fnExactChainRootCard : Claim7 := { stood := { row := fnExactChainRootRow, standIns := [], harness := (true, "9d6af0a908e6099cdeb097d0880774c0520c63795da99e62befc09a2ccf02f7d"), looks := false }, kinds := [], alts := [], laidByText := true, laidKinds := [.data], laidTests := true, laidLooks := .later }
def FnExactChainRootCardSaid : Prop := Claim7.holds Tryd.pinned (.plain (OpenSpec.ofChange fnExactChainRootSpec)) fnExactChainRootCard

/-- THE TIED CARD OF 'laws.FnExactCheckSignature'. -/
def fnExactCheckSignatureCard : Claim7 := { stood := { row := fnExactCheckSignatureRow, standIns := [], harness := (true, "9d6af0a908e6099cdeb097d0880774c0520c63795da99e62befc09a2ccf02f7d"), looks := false }, kinds := [], alts := [], laidByText := true, laidKinds := [.data], laidTests := true, laidLooks := .later }
def FnExactCheckSignatureCardSaid : Prop := Claim7.holds Tryd.pinned (.plain (OpenSpec.ofChange fnExactCheckSignatureSpec)) fnExactCheckSignatureCard

/-- THE TIED CARD OF 'laws.FnExactSignAt'. -/
def fnExactSignAtCard : Claim7 := { stood := { row := fnExactSignAtRow, standIns := [], harness := (true, "9d6af0a908e6099cdeb097d0880774c0520c63795da99e62befc09a2ccf02f7d"), looks := false }, kinds := [], alts := [], laidByText := true, laidKinds := [.data], laidTests := true, laidLooks := .later }
def FnExactSignAtCardSaid : Prop := Claim7.holds Tryd.pinned (.plain (OpenSpec.ofChange fnExactSignAtSpec)) fnExactSignAtCard

/-- THE TIED CARD OF 'laws.FnExactSignNext'. -/
def fnExactSignNextCard : Claim7 := { stood := { row := fnExactSignNextRow, standIns := [], harness := (true, "9d6af0a908e6099cdeb097d0880774c0520c63795da99e62befc09a2ccf02f7d"), looks := false }, kinds := [], alts := [], laidByText := true, laidKinds := [.data], laidTests := true, laidLooks := .later }
def FnExactSignNextCardSaid : Prop := Claim7.holds Tryd.pinned (.plain (OpenSpec.ofChange fnExactSignNextSpec)) fnExactSignNextCard

/-- THE SECOND FORM's CARD OF 'laws.FnExactHash'. -/
def fnExactHashUptoCard : Claim7 := { stood := { row := fnExactHashUptoRow, standIns := [], harness := (true, "9d6af0a908e6099cdeb097d0880774c0520c63795da99e62befc09a2ccf02f7d"), looks := false }, kinds := [], alts := [], laidByText := true, laidKinds := [.data], laidTests := true, laidLooks := .later }
def FnExactHashUptoCardSaid : Prop := Claim7.holds Tryd.pinned (.plain (OpenSpec.upto fnExactHashSpec)) fnExactHashUptoCard

/-- THE SECOND FORM's CARD OF 'laws.FnExactBodyDigest'. -/
def fnExactBodyDigestUptoCard : Claim7 := { stood := { row := fnExactBodyDigestUptoRow, standIns := [], harness := (true, "9d6af0a908e6099cdeb097d0880774c0520c63795da99e62befc09a2ccf02f7d"), looks := false }, kinds := [], alts := [], laidByText := true, laidKinds := [.data], laidTests := true, laidLooks := .later }
def FnExactBodyDigestUptoCardSaid : Prop := Claim7.holds Tryd.pinned (.plain (OpenSpec.upto fnExactBodyDigestSpec)) fnExactBodyDigestUptoCard

/-- THE SECOND FORM's CARD OF 'laws.FnExactMessageBits'. -/
def fnExactMessageBitsUptoCard : Claim7 := { stood := { row := fnExactMessageBitsUptoRow, standIns := [], harness := (true, "9d6af0a908e6099cdeb097d0880774c0520c63795da99e62befc09a2ccf02f7d"), looks := false }, kinds := [], alts := [], laidByText := true, laidKinds := [.data], laidTests := true, laidLooks := .later }
def FnExactMessageBitsUptoCardSaid : Prop := Claim7.holds Tryd.pinned (.plain (OpenSpec.upto fnExactMessageBitsSpec)) fnExactMessageBitsUptoCard

/-- THE SECOND FORM's CARD OF 'laws.FnExactReadingMac'. -/
def fnExactReadingMacUptoCard : Claim7 := { stood := { row := fnExactReadingMacUptoRow, standIns := [], harness := (true, "9d6af0a908e6099cdeb097d0880774c0520c63795da99e62befc09a2ccf02f7d"), looks := false }, kinds := [], alts := [], laidByText := true, laidKinds := [.data], laidTests := true, laidLooks := .later }
def FnExactReadingMacUptoCardSaid : Prop := Claim7.holds Tryd.pinned (.plain (OpenSpec.upto fnExactReadingMacSpec)) fnExactReadingMacUptoCard

/-- THE SECOND FORM's CARD OF 'laws.FnExactSecretAt'. -/
def fnExactSecretAtUptoCard : Claim7 := { stood := { row := fnExactSecretAtUptoRow, standIns := [], harness := (true, "9d6af0a908e6099cdeb097d0880774c0520c63795da99e62befc09a2ccf02f7d"), looks := false }, kinds := [], alts := [], laidByText := true, laidKinds := [.data], laidTests := true, laidLooks := .later }
def FnExactSecretAtUptoCardSaid : Prop := Claim7.holds Tryd.pinned (.plain (OpenSpec.upto fnExactSecretAtSpec)) fnExactSecretAtUptoCard

/-- THE SECOND FORM's CARD OF 'laws.FnExactOneTimeKey'. -/
def fnExactOneTimeKeyUptoCard : Claim7 := { stood := { row := fnExactOneTimeKeyUptoRow, standIns := [], harness := (true, "9d6af0a908e6099cdeb097d0880774c0520c63795da99e62befc09a2ccf02f7d"), looks := false }, kinds := [], alts := [], laidByText := true, laidKinds := [.data], laidTests := true, laidLooks := .later }
def FnExactOneTimeKeyUptoCardSaid : Prop := Claim7.holds Tryd.pinned (.plain (OpenSpec.upto fnExactOneTimeKeySpec)) fnExactOneTimeKeyUptoCard

/-- THE SECOND FORM's CARD OF 'laws.FnExactMessageSigned'. -/
def fnExactMessageSignedUptoCard : Claim7 := { stood := { row := fnExactMessageSignedUptoRow, standIns := [], harness := (true, "9d6af0a908e6099cdeb097d0880774c0520c63795da99e62befc09a2ccf02f7d"), looks := false }, kinds := [], alts := [], laidByText := true, laidKinds := [.data], laidTests := true, laidLooks := .later }
def FnExactMessageSignedUptoCardSaid : Prop := Claim7.holds Tryd.pinned (.plain (OpenSpec.upto fnExactMessageSignedSpec)) fnExactMessageSignedUptoCard

/-- THE SECOND FORM's CARD OF 'laws.FnExactSignMessage'. -/
def fnExactSignMessageUptoCard : Claim7 := { stood := { row := fnExactSignMessageUptoRow, standIns := [], harness := (true, "9d6af0a908e6099cdeb097d0880774c0520c63795da99e62befc09a2ccf02f7d"), looks := false }, kinds := [], alts := [], laidByText := true, laidKinds := [.data], laidTests := true, laidLooks := .later }
def FnExactSignMessageUptoCardSaid : Prop := Claim7.holds Tryd.pinned (.plain (OpenSpec.upto fnExactSignMessageSpec)) fnExactSignMessageUptoCard

/-- THE SECOND FORM's CARD OF 'laws.FnExactChainRoot'. -/
def fnExactChainRootUptoCard : Claim7 := { stood := { row := fnExactChainRootUptoRow, standIns := [], harness := (true, "9d6af0a908e6099cdeb097d0880774c0520c63795da99e62befc09a2ccf02f7d"), looks := false }, kinds := [], alts := [], laidByText := true, laidKinds := [.data], laidTests := true, laidLooks := .later }
def FnExactChainRootUptoCardSaid : Prop := Claim7.holds Tryd.pinned (.plain (OpenSpec.upto fnExactChainRootSpec)) fnExactChainRootUptoCard

/-- THE SECOND FORM's CARD OF 'laws.FnExactCheckSignature'. -/
def fnExactCheckSignatureUptoCard : Claim7 := { stood := { row := fnExactCheckSignatureUptoRow, standIns := [], harness := (true, "9d6af0a908e6099cdeb097d0880774c0520c63795da99e62befc09a2ccf02f7d"), looks := false }, kinds := [], alts := [], laidByText := true, laidKinds := [.data], laidTests := true, laidLooks := .later }
def FnExactCheckSignatureUptoCardSaid : Prop := Claim7.holds Tryd.pinned (.plain (OpenSpec.upto fnExactCheckSignatureSpec)) fnExactCheckSignatureUptoCard

/-- THE SECOND FORM's CARD OF 'laws.FnExactSignAt'. -/
def fnExactSignAtUptoCard : Claim7 := { stood := { row := fnExactSignAtUptoRow, standIns := [], harness := (true, "9d6af0a908e6099cdeb097d0880774c0520c63795da99e62befc09a2ccf02f7d"), looks := false }, kinds := [], alts := [], laidByText := true, laidKinds := [.data], laidTests := true, laidLooks := .later }
def FnExactSignAtUptoCardSaid : Prop := Claim7.holds Tryd.pinned (.plain (OpenSpec.upto fnExactSignAtSpec)) fnExactSignAtUptoCard

/-- THE SECOND FORM's CARD OF 'laws.FnExactSignNext'. -/
def fnExactSignNextUptoCard : Claim7 := { stood := { row := fnExactSignNextUptoRow, standIns := [], harness := (true, "9d6af0a908e6099cdeb097d0880774c0520c63795da99e62befc09a2ccf02f7d"), looks := false }, kinds := [], alts := [], laidByText := true, laidKinds := [.data], laidTests := true, laidLooks := .later }
def FnExactSignNextUptoCardSaid : Prop := Claim7.holds Tryd.pinned (.plain (OpenSpec.upto fnExactSignNextSpec)) fnExactSignNextUptoCard
end Rows
end Go.Proofs.YtgknilganicofaaDoor
