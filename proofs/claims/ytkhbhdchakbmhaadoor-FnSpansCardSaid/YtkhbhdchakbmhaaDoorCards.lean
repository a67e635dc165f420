/-
  DERIVED. GIVEN WITH THE SEED: THE CARDS: each row of YtkhbhdchakbmhaaDoorRows.lean that lists a variable, with what it lists TIED to the program's text (the seventh form; the later family's looks); each row that meets fmt, with fmt's text TOLD by the authors' own Lean function (tested against real Go, not proved from fmt's source: count such statements apart). THE CARD IS WHAT COUNTS. Prove the row's statement (the work); the ties are given (YtkhbhdchakbmhaaDoorTie.lean); close each card by the builder's one call (the guide's Derived/Test/ToyasCard.lean, 'card_holds'). Laid BY PROGRAM, IN A SANDBOX (cutbox-door.mjs). By AI agents, Wed Nov 11 2026. No macro, syntax, notation, axiom, sorry.
-/
import Derived.Test.YtkhbhdchakbmhaaDoorRows
import GoSem.ClaimSeven
namespace Go.Proofs.YtkhbhdchakbmhaaDoor
namespace Rows

/-- THE TIED CARD OF 'laws.FnExactNumText'. -/
def fnExactNumTextCard : Claim7 := { stood := { row := fnExactNumTextRow, standIns := [], harness := (true, "d05e36542d3483f72a62a0ed6febd28ffb77c4291a9c9794084382db8ca93287"), looks := true }, kinds := [], alts := [], laidByText := true, laidKinds := [.data, .data, .data], laidTests := true, laidLooks := .later }
def FnExactNumTextCardSaid : Prop := Claim7.holds Tryd.pinned (.plain (OpenSpec.ofChange fnExactNumTextSpec)) fnExactNumTextCard

/-- THE TIED CARD OF 'laws.FnExactAttrText'. -/
def fnExactAttrTextCard : Claim7 := { stood := { row := fnExactAttrTextRow, standIns := [], harness := (true, "d05e36542d3483f72a62a0ed6febd28ffb77c4291a9c9794084382db8ca93287"), looks := true }, kinds := [], alts := [], laidByText := true, laidKinds := [.data, .data, .data], laidTests := true, laidLooks := .later }
def FnExactAttrTextCardSaid : Prop := Claim7.holds Tryd.pinned (.plain (OpenSpec.ofChange fnExactAttrTextSpec)) fnExactAttrTextCard

/-- THE TIED CARD OF 'laws.FnExactSpanText'. -/
def fnExactSpanTextCard : Claim7 := { stood := { row := fnExactSpanTextRow, standIns := [], harness := (true, "d05e36542d3483f72a62a0ed6febd28ffb77c4291a9c9794084382db8ca93287"), looks := true }, kinds := [], alts := [], laidByText := true, laidKinds := [.data, .data, .data], laidTests := true, laidLooks := .later }
def FnExactSpanTextCardSaid : Prop := Claim7.holds Tryd.pinned (.plain (OpenSpec.ofChange fnExactSpanTextSpec)) fnExactSpanTextCard

/-- THE TIED CARD OF 'laws.FnExactParseNum'. -/
def fnExactParseNumCard : Claim7 := { stood := { row := fnExactParseNumRow, standIns := [], harness := (true, "d05e36542d3483f72a62a0ed6febd28ffb77c4291a9c9794084382db8ca93287"), looks := true }, kinds := [], alts := [], laidByText := true, laidKinds := [.data, .data, .data, .sentinel, .sentinel], laidTests := true, laidLooks := .later }
def FnExactParseNumCardSaid : Prop := Claim7.holds Tryd.pinned (.plain (OpenSpec.ofChange fnExactParseNumSpec)) fnExactParseNumCard

/-- THE TIED CARD OF 'laws.FnAttrs'. -/
def fnAttrsCard : Claim7 := { stood := { row := fnAttrsRow, standIns := [], harness := (true, "d05e36542d3483f72a62a0ed6febd28ffb77c4291a9c9794084382db8ca93287"), looks := true }, kinds := [], alts := [], laidByText := true, laidKinds := [.data, .data, .data], laidTests := true, laidLooks := .later }
def FnAttrsCardSaid : Prop := Claim7.holds Tryd.pinned (.plain (OpenSpec.ofChange fnAttrsSpec)) fnAttrsCard

/-- THE TIED CARD OF 'laws.FnSpans'. -/
def fnSpansCard : Claim7 := { stood := { row := fnSpansRow, standIns := [], harness := (true, "d05e36542d3483f72a62a0ed6febd28ffb77c4291a9c9794084382db8ca93287"), looks := true }, kinds := [], alts := [], laidByText := true, laidKinds := [.data, .data, .data], laidTests := true, laidLooks := .later }
def FnSpansCardSaid : Prop := Claim7.holds Tryd.pinned (.plain (OpenSpec.ofChange fnSpansSpec)) fnSpansCard

/-- THE TIED CARD OF 'laws.FnDigits'. -/
def fnDigitsCard : Claim7 := { stood := { row := fnDigitsRow, standIns := [], harness := (true, "d05e36542d3483f72a62a0ed6febd28ffb77c4291a9c9794084382db8ca93287"), looks := true }, kinds := [], alts := [], laidByText := true, laidKinds := [.data, .data, .data, .sentinel, .sentinel], laidTests := true, laidLooks := .later }
def FnDigitsCardSaid : Prop := Claim7.holds Tryd.pinned (.plain (OpenSpec.ofChange fnDigitsSpec)) fnDigitsCard

/-- THE SECOND FORM's CARD OF 'laws.FnExactNumText'. -/
def fnExactNumTextUptoCard : Claim7 := { stood := { row := fnExactNumTextUptoRow, standIns := [], harness := (true, "d05e36542d3483f72a62a0ed6febd28ffb77c4291a9c9794084382db8ca93287"), looks := true }, kinds := [], alts := [], laidByText := true, laidKinds := [.data, .data, .data], laidTests := true, laidLooks := .later }
def FnExactNumTextUptoCardSaid : Prop := Claim7.holds Tryd.pinned (.plain (OpenSpec.upto fnExactNumTextSpec)) fnExactNumTextUptoCard

/-- THE SECOND FORM's CARD OF 'laws.FnExactAttrText'. -/
def fnExactAttrTextUptoCard : Claim7 := { stood := { row := fnExactAttrTextUptoRow, standIns := [], harness := (true, "d05e36542d3483f72a62a0ed6febd28ffb77c4291a9c9794084382db8ca93287"), looks := true }, kinds := [], alts := [], laidByText := true, laidKinds := [.data, .data, .data], laidTests := true, laidLooks := .later }
def FnExactAttrTextUptoCardSaid : Prop := Claim7.holds Tryd.pinned (.plain (OpenSpec.upto fnExactAttrTextSpec)) fnExactAttrTextUptoCard

/-- THE SECOND FORM's CARD OF 'laws.FnExactSpanText'. -/
def fnExactSpanTextUptoCard : Claim7 := { stood := { row := fnExactSpanTextUptoRow, standIns := [], harness := (true, "d05e36542d3483f72a62a0ed6febd28ffb77c4291a9c9794084382db8ca93287"), looks := true }, kinds := [], alts := [], laidByText := true, laidKinds := [.data, .data, .data], laidTests := true, laidLooks := .later }
def FnExactSpanTextUptoCardSaid : Prop := Claim7.holds Tryd.pinned (.plain (OpenSpec.upto fnExactSpanTextSpec)) fnExactSpanTextUptoCard

/-- THE SECOND FORM's CARD OF 'laws.FnExactParseNum'. -/
def fnExactParseNumUptoCard : Claim7 := { stood := { row := fnExactParseNumUptoRow, standIns := [], harness := (true, "d05e36542d3483f72a62a0ed6febd28ffb77c4291a9c9794084382db8ca93287"), looks := true }, kinds := [], alts := [], laidByText := true, laidKinds := [.data, .data, .data, .sentinel, .sentinel], laidTests := true, laidLooks := .later }
def FnExactParseNumUptoCardSaid : Prop := Claim7.holds Tryd.pinned (.plain (OpenSpec.upto fnExactParseNumSpec)) fnExactParseNumUptoCard

/-- THE SECOND FORM's CARD OF 'laws.FnAttrs'. -/
def fnAttrsUptoCard : Claim7 := { stood := { row := fnAttrsUptoRow, standIns := [], harness := (true, "d05e36542d3483f72a62a0ed6febd28ffb77c4291a9c9794084382db8ca93287"), looks := true }, kinds := [], alts := [], laidByText := true, laidKinds := [.data, .data, .data], laidTests := true, laidLooks := .later }
def FnAttrsUptoCardSaid : Prop := Claim7.holds Tryd.pinned (.plain (OpenSpec.upto fnAttrsSpec)) fnAttrsUptoCard

/-- THE SECOND FORM's CARD OF 'laws.FnSpans'. -/
def fnSpansUptoCard : Claim7 := { stood := { row := fnSpansUptoRow, standIns := [], harness := (true, "d05e36542d3483f72a62a0ed6febd28ffb77c4291a9c9794084382db8ca93287"), looks := true }, kinds := [], alts := [], laidByText := true, laidKinds := [.data, .data, .data], laidTests := true, laidLooks := .later }
def FnSpansUptoCardSaid : Prop := Claim7.holds Tryd.pinned (.plain (OpenSpec.upto fnSpansSpec)) fnSpansUptoCard

/-- THE SECOND FORM's CARD OF 'laws.FnDigits'. -/
def fnDigitsUptoCard : Claim7 := { stood := { row := fnDigitsUptoRow, standIns := [], harness := (true, "d05e36542d3483f72a62a0ed6febd28ffb77c4291a9c9794084382db8ca93287"), looks := true }, kinds := [], alts := [], laidByText := true, laidKinds := [.data, .data, .data, .sentinel, .sentinel], laidTests := true, laidLooks := .later }
def FnDigitsUptoCardSaid : Prop := Claim7.holds Tryd.pinned (.plain (OpenSpec.upto fnDigitsSpec)) fnDigitsUptoCard
end Rows
end Go.Proofs.YtkhbhdchakbmhaaDoor
