/-
  DERIVED. GIVEN WITH THE SEED: THE CARDS: each row of YtjkanhjapddhnaaDoorRows.lean that lists a variable, with what it lists TIED to the program's text (the seventh form; the later family's looks); each row that meets fmt, with fmt's text TOLD by the authors' own Lean function (tested against real Go, not proved from fmt's source: count such statements apart). THE CARD IS WHAT COUNTS. Prove the row's statement (the work); the ties are given (YtjkanhjapddhnaaDoorTie.lean); close each card by the builder's one call (the guide's Derived/Test/ToyasCard.lean, 'card_holds'). Laid BY PROGRAM, IN A SANDBOX (cutbox-door.mjs). By AI agents, Wed Nov 11 2026. No macro, syntax, notation, axiom, sorry.
-/
import Derived.Test.YtjkanhjapddhnaaDoorRows
import GoSem.ClaimSeven
namespace Go.Proofs.YtjkanhjapddhnaaDoor
namespace Rows

/-- THE TIED CARD OF 'laws.FnExactTableDigest'. -/
def fnExactTableDigestCard : Claim7 := { stood := { row := fnExactTableDigestRow, standIns := [], harness := (true, "f0107409fc3d21374cd13967dafe8c0bb4bd3d812cda98be8bb7430f7d55d63d"), looks := false }, kinds := [], alts := [], laidByText := true, laidKinds := [.data], laidTests := true, laidLooks := .later }
def FnExactTableDigestCardSaid : Prop := Claim7.holds Tryd.pinned (.plain (OpenSpec.ofChange fnExactTableDigestSpec)) fnExactTableDigestCard

/-- THE SECOND FORM's CARD OF 'laws.FnExactTableDigest'. -/
def fnExactTableDigestUptoCard : Claim7 := { stood := { row := fnExactTableDigestUptoRow, standIns := [], harness := (true, "f0107409fc3d21374cd13967dafe8c0bb4bd3d812cda98be8bb7430f7d55d63d"), looks := false }, kinds := [], alts := [], laidByText := true, laidKinds := [.data], laidTests := true, laidLooks := .later }
def FnExactTableDigestUptoCardSaid : Prop := Claim7.holds Tryd.pinned (.plain (OpenSpec.upto fnExactTableDigestSpec)) fnExactTableDigestUptoCard
end Rows
end Go.Proofs.YtjkanhjapddhnaaDoor
