/-
  DERIVED. GIVEN WITH THE SEED: THE CARDS: each row of YtfhblnbicnmndaaDoorRows.lean that lists a variable, with what it lists TIED to the program's text (the seventh form; the later family's looks); each row that meets fmt, with fmt's text TOLD by the authors' own Lean function (tested against real Go, not proved from fmt's source: count such statements apart). THE CARD IS WHAT COUNTS. Prove the row's statement (the work); the ties are given (YtfhblnbicnmndaaDoorTie.lean); close each card by the builder's one call (the guide's Derived/Test/ToyasCard.lean, 'card_holds'). Laid BY PROGRAM, IN A SANDBOX (cutbox-door.mjs). By AI agents, Wed Nov 11 2026. No macro, syntax, notation, axiom, sorry.
-/
import Derived.Test.YtfhblnbicnmndaaDoorRows
import GoSem.ClaimSeven
namespace Go.Proofs.YtfhblnbicnmndaaDoor
namespace Rows

/-- THE TIED CARD OF 'laws.FnPols'. -/
def fnPolsCard : Claim7 := { stood := { row := fnPolsRow, standIns := [], harness := (true, "e7ac492a84310d822e064ff9ded7b054ed8e164979d8ae9d9fe3bea3f7ddf665"), looks := false }, kinds := [], alts := [], laidByText := true, laidKinds := [.data, .data, .data], laidTests := true, laidLooks := .later }
def FnPolsCardSaid : Prop := Claim7.holds Tryd.pinned (.plain (OpenSpec.ofChange fnPolsSpec)) fnPolsCard

/-- THE TIED CARD OF 'laws.FnExactPolText'. -/
def fnExactPolTextCard : Claim7 := { stood := { row := fnExactPolTextRow, standIns := [], harness := (true, "e7ac492a84310d822e064ff9ded7b054ed8e164979d8ae9d9fe3bea3f7ddf665"), looks := false }, kinds := [], alts := [], laidByText := true, laidKinds := [.data, .data, .data], laidTests := true, laidLooks := .later }
def FnExactPolTextCardSaid : Prop := Claim7.holds Tryd.pinned (.plain (OpenSpec.ofChange fnExactPolTextSpec)) fnExactPolTextCard

/-- THE SECOND FORM's CARD OF 'laws.FnPols'. -/
def fnPolsUptoCard : Claim7 := { stood := { row := fnPolsUptoRow, standIns := [], harness := (true, "e7ac492a84310d822e064ff9ded7b054ed8e164979d8ae9d9fe3bea3f7ddf665"), looks := false }, kinds := [], alts := [], laidByText := true, laidKinds := [.data, .data, .data], laidTests := true, laidLooks := .later }
def FnPolsUptoCardSaid : Prop := Claim7.holds Tryd.pinned (.plain (OpenSpec.upto fnPolsSpec)) fnPolsUptoCard

/-- THE SECOND FORM's CARD OF 'laws.FnExactPolText'. -/
def fnExactPolTextUptoCard : Claim7 := { stood := { row := fnExactPolTextUptoRow, standIns := [], harness := (true, "e7ac492a84310d822e064ff9ded7b054ed8e164979d8ae9d9fe3bea3f7ddf665"), looks := false }, kinds := [], alts := [], laidByText := true, laidKinds := [.data, .data, .data], laidTests := true, laidLooks := .later }
def FnExactPolTextUptoCardSaid : Prop := Claim7.holds Tryd.pinned (.plain (OpenSpec.upto fnExactPolTextSpec)) fnExactPolTextUptoCard
end Rows
end Go.Proofs.YtfhblnbicnmndaaDoor
