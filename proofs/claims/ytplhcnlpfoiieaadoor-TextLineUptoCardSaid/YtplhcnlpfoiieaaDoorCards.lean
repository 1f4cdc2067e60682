/-
  DERIVED. GIVEN WITH THE SEED: THE CARDS: each row of YtplhcnlpfoiieaaDoorRows.lean that lists a variable, with what it lists TIED to the program's text (the seventh form; the later family's looks); each row that meets fmt, with fmt's text TOLD by the authors' own Lean function (tested against real Go, not proved from fmt's source: count such statements apart). THE CARD IS WHAT COUNTS. Prove the row's statement (the work); the ties are given (YtplhcnlpfoiieaaDoorTie.lean); close each card by the builder's one call (the guide's Derived/Test/ToyasCard.lean, 'card_holds'). Laid BY PROGRAM, IN A SANDBOX (cutbox-door.mjs). By AI agents, Wed Nov 11 2026. No macro, syntax, notation, axiom, sorry.
-/
import Derived.Test.YtplhcnlpfoiieaaDoorRows
import GoSem.ClaimSeven
namespace Go.Proofs.YtplhcnlpfoiieaaDoor
namespace Rows

/-- THE TIED CARD OF 'shardlaw1.TextNames'. -/
def textNamesCard : Claim7 := { stood := { row := textNamesRow, standIns := [], harness := (true, "4099d4fb00d464828acacaf79b4f467ac9aac739b0a2e9c455a1fc6effd931a2"), looks := false }, kinds := [], alts := [], laidByText := true, laidKinds := [.data], laidTests := true, laidLooks := .later }
def TextNamesCardSaid : Prop := Claim7.holds Tryd.pinned (.plain (OpenSpec.ofChange textNamesSpec)) textNamesCard

/-- THE TIED CARD OF 'shardlaw1.TextFolds'. -/
def textFoldsCard : Claim7 := { stood := { row := textFoldsRow, standIns := [], harness := (true, "4099d4fb00d464828acacaf79b4f467ac9aac739b0a2e9c455a1fc6effd931a2"), looks := false }, kinds := [], alts := [], laidByText := true, laidKinds := [.data], laidTests := true, laidLooks := .later }
def TextFoldsCardSaid : Prop := Claim7.holds Tryd.pinned (.plain (OpenSpec.ofChange textFoldsSpec)) textFoldsCard

/-- THE TIED CARD OF 'shardlaw1.TextUnquotes'. -/
def textUnquotesCard : Claim7 := { stood := { row := textUnquotesRow, standIns := [], harness := (true, "4099d4fb00d464828acacaf79b4f467ac9aac739b0a2e9c455a1fc6effd931a2"), looks := false }, kinds := [], alts := [], laidByText := true, laidKinds := [.data, .pinned], laidTests := true, laidLooks := .later }
def TextUnquotesCardSaid : Prop := Claim7.holds Tryd.pinned (.plain (OpenSpec.ofChange textUnquotesSpec)) textUnquotesCard

/-- THE TIED CARD OF 'shardlaw1.TextDigits'. -/
def textDigitsCard : Claim7 := { stood := { row := textDigitsRow, standIns := [], harness := (true, "4099d4fb00d464828acacaf79b4f467ac9aac739b0a2e9c455a1fc6effd931a2"), looks := false }, kinds := [], alts := [], laidByText := true, laidKinds := [.data, .data, .data], laidTests := true, laidLooks := .later }
def TextDigitsCardSaid : Prop := Claim7.holds Tryd.pinned (.plain (OpenSpec.ofChange textDigitsSpec)) textDigitsCard

/-- THE TIED CARD OF 'shardlaw1.TextWords'. -/
def textWordsCard : Claim7 := { stood := { row := textWordsRow, standIns := [], harness := (true, "4099d4fb00d464828acacaf79b4f467ac9aac739b0a2e9c455a1fc6effd931a2"), looks := false }, kinds := [], alts := [], laidByText := true, laidKinds := [.data, .pinned], laidTests := true, laidLooks := .later }
def TextWordsCardSaid : Prop := Claim7.holds Tryd.pinned (.plain (OpenSpec.ofChange textWordsSpec)) textWordsCard

/-- THE TIED CARD OF 'shardlaw1.TextCounts'. -/
def textCountsCard : Claim7 := { stood := { row := textCountsRow, standIns := [], harness := (true, "4099d4fb00d464828acacaf79b4f467ac9aac739b0a2e9c455a1fc6effd931a2"), looks := false }, kinds := [], alts := [], laidByText := true, laidKinds := [.data, .data, .data], laidTests := true, laidLooks := .later }
def TextCountsCardSaid : Prop := Claim7.holds Tryd.pinned (.plain (OpenSpec.ofChange textCountsSpec)) textCountsCard

/-- THE TIED CARD OF 'shardlaw1.TextComesBack'. -/
def textComesBackCard : Claim7 := { stood := { row := textComesBackRow, standIns := [], harness := (true, "4099d4fb00d464828acacaf79b4f467ac9aac739b0a2e9c455a1fc6effd931a2"), looks := false }, kinds := [], alts := [], laidByText := true, laidKinds := [.data, .pinned], laidTests := true, laidLooks := .later }
def TextComesBackCardSaid : Prop := Claim7.holds Tryd.pinned (.plain (OpenSpec.ofChange textComesBackSpec)) textComesBackCard

/-- THE TIED CARD OF 'shardlaw1.TextLine'. -/
def textLineCard : Claim7 := { stood := { row := textLineRow, standIns := [], harness := (true, "4099d4fb00d464828acacaf79b4f467ac9aac739b0a2e9c455a1fc6effd931a2"), looks := false }, kinds := [], alts := [], laidByText := true, laidKinds := [.data, .pinned], laidTests := true, laidLooks := .later }
def TextLineCardSaid : Prop := Claim7.holds Tryd.pinned (.plain (OpenSpec.ofChange textLineSpec)) textLineCard

/-- THE TIED CARD OF 'shardlaw1.TextBare'. -/
def textBareCard : Claim7 := { stood := { row := textBareRow, standIns := [], harness := (true, "4099d4fb00d464828acacaf79b4f467ac9aac739b0a2e9c455a1fc6effd931a2"), looks := false }, kinds := [], alts := [], laidByText := true, laidKinds := [.data, .pinned], laidTests := true, laidLooks := .later }
def TextBareCardSaid : Prop := Claim7.holds Tryd.pinned (.plain (OpenSpec.ofChange textBareSpec)) textBareCard

/-- THE SECOND FORM's CARD OF 'shardlaw1.TextNames'. -/
def textNamesUptoCard : Claim7 := { stood := { row := textNamesUptoRow, standIns := [], harness := (true, "4099d4fb00d464828acacaf79b4f467ac9aac739b0a2e9c455a1fc6effd931a2"), looks := false }, kinds := [], alts := [], laidByText := true, laidKinds := [.data], laidTests := true, laidLooks := .later }
def TextNamesUptoCardSaid : Prop := Claim7.holds Tryd.pinned (.plain (OpenSpec.upto textNamesSpec)) textNamesUptoCard

/-- THE SECOND FORM's CARD OF 'shardlaw1.TextFolds'. -/
def textFoldsUptoCard : Claim7 := { stood := { row := textFoldsUptoRow, standIns := [], harness := (true, "4099d4fb00d464828acacaf79b4f467ac9aac739b0a2e9c455a1fc6effd931a2"), looks := false }, kinds := [], alts := [], laidByText := true, laidKinds := [.data], laidTests := true, laidLooks := .later }
def TextFoldsUptoCardSaid : Prop := Claim7.holds Tryd.pinned (.plain (OpenSpec.upto textFoldsSpec)) textFoldsUptoCard

/-- THE SECOND FORM's CARD OF 'shardlaw1.TextUnquotes'. -/
def textUnquotesUptoCard : Claim7 := { stood := { row := textUnquotesUptoRow, standIns := [], harness := (true, "4099d4fb00d464828acacaf79b4f467ac9aac739b0a2e9c455a1fc6effd931a2"), looks := false }, kinds := [], alts := [], laidByText := true, laidKinds := [.data, .pinned], laidTests := true, laidLooks := .later }
def TextUnquotesUptoCardSaid : Prop := Claim7.holds Tryd.pinned (.plain (OpenSpec.upto textUnquotesSpec)) textUnquotesUptoCard

/-- THE SECOND FORM's CARD OF 'shardlaw1.TextDigits'. -/
def textDigitsUptoCard : Claim7 := { stood := { row := textDigitsUptoRow, standIns := [], harness := (true, "4099d4fb00d464828acacaf79b4f467ac9aac739b0a2e9c455a1fc6effd931a2"), looks := false }, kinds := [], alts := [], laidByText := true, laidKinds := [.data, .data, .data], laidTests := true, laidLooks := .later }
def TextDigitsUptoCardSaid : Prop := Claim7.holds Tryd.pinned (.plain (OpenSpec.upto textDigitsSpec)) textDigitsUptoCard

/-- THE SECOND FORM's CARD OF 'shardlaw1.TextWords'. -/
def textWordsUptoCard : Claim7 := { stood := { row := textWordsUptoRow, standIns := [], harness := (true, "4099d4fb00d464828acacaf79b4f467ac9aac739b0a2e9c455a1fc6effd931a2"), looks := false }, kinds := [], alts := [], laidByText := true, laidKinds := [.data, .pinned], laidTests := true, laidLooks := .later }
def TextWordsUptoCardSaid : Prop := Claim7.holds Tryd.pinned (.plain (OpenSpec.upto textWordsSpec)) textWordsUptoCard

/-- THE SECOND FORM's CARD OF 'shardlaw1.TextCounts'. -/
def textCountsUptoCard : Claim7 := { stood := { row := textCountsUptoRow, standIns := [], harness := (true, "4099d4fb00d464828acacaf79b4f467ac9aac739b0a2e9c455a1fc6effd931a2"), looks := false }, kinds := [], alts := [], laidByText := true, laidKinds := [.data, .data, .data], laidTests := true, laidLooks := .later }
def TextCountsUptoCardSaid : Prop := Claim7.holds Tryd.pinned (.plain (OpenSpec.upto textCountsSpec)) textCountsUptoCard

/-- THE SECOND FORM's CARD OF 'shardlaw1.TextComesBack'. -/
def textComesBackUptoCard : Claim7 := { stood := { row := textComesBackUptoRow, standIns := [], harness := (true, "4099d4fb00d464828acacaf79b4f467ac9aac739b0a2e9c455a1fc6effd931a2"), looks := false }, kinds := [], alts := [], laidByText := true, laidKinds := [.data, .pinned], laidTests := true, laidLooks := .later }
def TextComesBackUptoCardSaid : Prop := Claim7.holds Tryd.pinned (.plain (OpenSpec.upto textComesBackSpec)) textComesBackUptoCard

/-- THE SECOND FORM's CARD OF 'shardlaw1.TextLine'. -/
def textLineUptoCard : Claim7 := { stood := { row := textLineUptoRow, standIns := [], harness := (true, "4099d4fb00d464828acacaf79b4f467ac9aac739b0a2e9c455a1fc6effd931a2"), looks := false }, kinds := [], alts := [], laidByText := true, laidKinds := [.data, .pinned], laidTests := true, laidLooks := .later }
def TextLineUptoCardSaid : Prop := Claim7.holds Tryd.pinned (.plain (OpenSpec.upto textLineSpec)) textLineUptoCard

/-- THE SECOND FORM's CARD OF 'shardlaw1.TextBare'. -/
def textBareUptoCard : Claim7 := { stood := { row := textBareUptoRow, standIns := [], harness := (true, "4099d4fb00d464828acacaf79b4f467ac9aac739b0a2e9c455a1fc6effd931a2"), looks := false }, kinds := [], alts := [], laidByText := true, laidKinds := [.data, .pinned], laidTests := true, laidLooks := .later }
def TextBareUptoCardSaid : Prop := Claim7.holds Tryd.pinned (.plain (OpenSpec.upto textBareSpec)) textBareUptoCard
end Rows
end Go.Proofs.YtplhcnlpfoiieaaDoor
