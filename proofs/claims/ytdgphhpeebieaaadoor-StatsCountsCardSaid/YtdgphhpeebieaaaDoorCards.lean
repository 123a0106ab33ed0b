/-
  DERIVED. GIVEN WITH THE SEED: THE CARDS: each row of YtdgphhpeebieaaaDoorRows.lean that lists a variable, with what it lists TIED to the program's text (the seventh form; the later family's looks); each row that meets fmt, with fmt's text TOLD by the authors' own Lean function (tested against real Go, not proved from fmt's source: count such statements apart). THE CARD IS WHAT COUNTS. Prove the row's statement (the work); the ties are given (YtdgphhpeebieaaaDoorTie.lean); close each card by the builder's one call (the guide's Derived/Test/ToyasCard.lean, 'card_holds'). Laid BY PROGRAM, IN A SANDBOX (cutbox-door.mjs). By AI agents, Wed Nov 11 2026. No macro, syntax, notation, axiom, sorry.
-/
import Derived.Test.YtdgphhpeebieaaaDoorRows
import GoSem.ClaimSeven
namespace Go.Proofs.YtdgphhpeebieaaaDoor
namespace Rows

/-- THE TIED CARD OF 'bandolierlaw04.ChanceCounts'. -/
def chanceCountsCard : Claim7 := { stood := { row := chanceCountsRow, standIns := [], harness := (true, "46e58c586e20310f63c4995d22666369f51d9b648820f4dae7a200d4e26e2148"), looks := true }, kinds := [], alts := [], laidByText := true, laidKinds := [.data, .data, .data], laidTests := true, laidLooks := .later }
def ChanceCountsCardSaid : Prop := Claim7.holds Tryd.pinned (.plain (OpenSpec.ofChange chanceCountsSpec)) chanceCountsCard

/-- THE TIED CARD OF 'bandolierlaw04.ChanceMore'. -/
def chanceMoreCard : Claim7 := { stood := { row := chanceMoreRow, standIns := [], harness := (true, "46e58c586e20310f63c4995d22666369f51d9b648820f4dae7a200d4e26e2148"), looks := true }, kinds := [], alts := [], laidByText := true, laidKinds := [.data, .data, .data], laidTests := true, laidLooks := .later }
def ChanceMoreCardSaid : Prop := Claim7.holds Tryd.pinned (.plain (OpenSpec.ofChange chanceMoreSpec)) chanceMoreCard

/-- THE TIED CARD OF 'bandolierlaw04.ChanceAdmits'. -/
def chanceAdmitsCard : Claim7 := { stood := { row := chanceAdmitsRow, standIns := [], harness := (true, "46e58c586e20310f63c4995d22666369f51d9b648820f4dae7a200d4e26e2148"), looks := true }, kinds := [], alts := [], laidByText := true, laidKinds := [.data, .data, .data], laidTests := true, laidLooks := .later }
def ChanceAdmitsCardSaid : Prop := Claim7.holds Tryd.pinned (.plain (OpenSpec.ofChange chanceAdmitsSpec)) chanceAdmitsCard

/-- THE TIED CARD OF 'bandolierlaw04.ChanceRates'. -/
def chanceRatesCard : Claim7 := { stood := { row := chanceRatesRow, standIns := [], harness := (true, "46e58c586e20310f63c4995d22666369f51d9b648820f4dae7a200d4e26e2148"), looks := true }, kinds := [], alts := [], laidByText := true, laidKinds := [.data, .data, .data], laidTests := true, laidLooks := .later }
def ChanceRatesCardSaid : Prop := Claim7.holds Tryd.pinned (.plain (OpenSpec.ofChange chanceRatesSpec)) chanceRatesCard

/-- THE TIED CARD OF 'bandolierlaw04.ChanceOrders'. -/
def chanceOrdersCard : Claim7 := { stood := { row := chanceOrdersRow, standIns := [], harness := (true, "46e58c586e20310f63c4995d22666369f51d9b648820f4dae7a200d4e26e2148"), looks := true }, kinds := [], alts := [], laidByText := true, laidKinds := [.data, .data, .data], laidTests := true, laidLooks := .later }
def ChanceOrdersCardSaid : Prop := Claim7.holds Tryd.pinned (.plain (OpenSpec.ofChange chanceOrdersSpec)) chanceOrdersCard

/-- THE TIED CARD OF 'bandolierlaw04.ChanceClamps'. -/
def chanceClampsCard : Claim7 := { stood := { row := chanceClampsRow, standIns := [], harness := (true, "46e58c586e20310f63c4995d22666369f51d9b648820f4dae7a200d4e26e2148"), looks := true }, kinds := [], alts := [], laidByText := true, laidKinds := [.data, .data, .data], laidTests := true, laidLooks := .later }
def ChanceClampsCardSaid : Prop := Claim7.holds Tryd.pinned (.plain (OpenSpec.ofChange chanceClampsSpec)) chanceClampsCard

/-- THE TIED CARD OF 'bandolierlaw22.StatsAnd'. -/
def statsAndCard : Claim7 := { stood := { row := statsAndRow, standIns := [], harness := (true, "46e58c586e20310f63c4995d22666369f51d9b648820f4dae7a200d4e26e2148"), looks := true }, kinds := [], alts := [], laidByText := true, laidKinds := [.data, .data, .data], laidTests := true, laidLooks := .later }
def StatsAndCardSaid : Prop := Claim7.holds Tryd.pinned (.plain (OpenSpec.ofChange statsAndSpec)) statsAndCard

/-- THE TIED CARD OF 'bandolierlaw04.ChanceTexts'. -/
def chanceTextsCard : Claim7 := { stood := { row := chanceTextsRow, standIns := [], harness := (true, "46e58c586e20310f63c4995d22666369f51d9b648820f4dae7a200d4e26e2148"), looks := true }, kinds := [], alts := [], laidByText := true, laidKinds := [.data, .data, .data, .sentinel, .sentinel], laidTests := true, laidLooks := .later }
def ChanceTextsCardSaid : Prop := Claim7.holds Tryd.pinned (.plain (OpenSpec.ofChange chanceTextsSpec)) chanceTextsCard

/-- THE TIED CARD OF 'bandolierlaw22.StatsCounts'. -/
def statsCountsCard : Claim7 := { stood := { row := statsCountsRow, standIns := [], harness := (true, "46e58c586e20310f63c4995d22666369f51d9b648820f4dae7a200d4e26e2148"), looks := true }, kinds := [], alts := [], laidByText := true, laidKinds := [.data, .data, .data, .data, .sentinel, .sentinel, .pinned], laidTests := true, laidLooks := .later }
def StatsCountsCardSaid : Prop := Claim7.holds Tryd.pinned (.plain (OpenSpec.ofChange statsCountsSpec)) statsCountsCard

/-- THE TIED CARD OF 'bandolierlaw22.StatsTexts'. -/
def statsTextsCard : Claim7 := { stood := { row := statsTextsRow, standIns := [], harness := (true, "46e58c586e20310f63c4995d22666369f51d9b648820f4dae7a200d4e26e2148"), looks := true }, kinds := [], alts := [], laidByText := true, laidKinds := [.data, .data, .data, .data, .sentinel, .sentinel, .pinned], laidTests := true, laidLooks := .later }
def StatsTextsCardSaid : Prop := Claim7.holds Tryd.pinned (.plain (OpenSpec.ofChange statsTextsSpec)) statsTextsCard

/-- THE SECOND FORM's CARD OF 'bandolierlaw04.ChanceCounts'. -/
def chanceCountsUptoCard : Claim7 := { stood := { row := chanceCountsUptoRow, standIns := [], harness := (true, "46e58c586e20310f63c4995d22666369f51d9b648820f4dae7a200d4e26e2148"), looks := true }, kinds := [], alts := [], laidByText := true, laidKinds := [.data, .data, .data], laidTests := true, laidLooks := .later }
def ChanceCountsUptoCardSaid : Prop := Claim7.holds Tryd.pinned (.plain (OpenSpec.upto chanceCountsSpec)) chanceCountsUptoCard

/-- THE SECOND FORM's CARD OF 'bandolierlaw04.ChanceMore'. -/
def chanceMoreUptoCard : Claim7 := { stood := { row := chanceMoreUptoRow, standIns := [], harness := (true, "46e58c586e20310f63c4995d22666369f51d9b648820f4dae7a200d4e26e2148"), looks := true }, kinds := [], alts := [], laidByText := true, laidKinds := [.data, .data, .data], laidTests := true, laidLooks := .later }
def ChanceMoreUptoCardSaid : Prop := Claim7.holds Tryd.pinned (.plain (OpenSpec.upto chanceMoreSpec)) chanceMoreUptoCard

/-- THE SECOND FORM's CARD OF 'bandolierlaw04.ChanceAdmits'. -/
def chanceAdmitsUptoCard : Claim7 := { stood := { row := chanceAdmitsUptoRow, standIns := [], harness := (true, "46e58c586e20310f63c4995d22666369f51d9b648820f4dae7a200d4e26e2148"), looks := true }, kinds := [], alts := [], laidByText := true, laidKinds := [.data, .data, .data], laidTests := true, laidLooks := .later }
def ChanceAdmitsUptoCardSaid : Prop := Claim7.holds Tryd.pinned (.plain (OpenSpec.upto chanceAdmitsSpec)) chanceAdmitsUptoCard

/-- THE SECOND FORM's CARD OF 'bandolierlaw04.ChanceRates'. -/
def chanceRatesUptoCard : Claim7 := { stood := { row := chanceRatesUptoRow, standIns := [], harness := (true, "46e58c586e20310f63c4995d22666369f51d9b648820f4dae7a200d4e26e2148"), looks := true }, kinds := [], alts := [], laidByText := true, laidKinds := [.data, .data, .data], laidTests := true, laidLooks := .later }
def ChanceRatesUptoCardSaid : Prop := Claim7.holds Tryd.pinned (.plain (OpenSpec.upto chanceRatesSpec)) chanceRatesUptoCard

/-- THE SECOND FORM's CARD OF 'bandolierlaw04.ChanceOrders'. -/
def chanceOrdersUptoCard : Claim7 := { stood := { row := chanceOrdersUptoRow, standIns := [], harness := (true, "46e58c586e20310f63c4995d22666369f51d9b648820f4dae7a200d4e26e2148"), looks := true }, kinds := [], alts := [], laidByText := true, laidKinds := [.data, .data, .data], laidTests := true, laidLooks := .later }
def ChanceOrdersUptoCardSaid : Prop := Claim7.holds Tryd.pinned (.plain (OpenSpec.upto chanceOrdersSpec)) chanceOrdersUptoCard

/-- THE SECOND FORM's CARD OF 'bandolierlaw04.ChanceClamps'. -/
def chanceClampsUptoCard : Claim7 := { stood := { row := chanceClampsUptoRow, standIns := [], harness := (true, "46e58c586e20310f63c4995d22666369f51d9b648820f4dae7a200d4e26e2148"), looks := true }, kinds := [], alts := [], laidByText := true, laidKinds := [.data, .data, .data], laidTests := true, laidLooks := .later }
def ChanceClampsUptoCardSaid : Prop := Claim7.holds Tryd.pinned (.plain (OpenSpec.upto chanceClampsSpec)) chanceClampsUptoCard

/-- THE SECOND FORM's CARD OF 'bandolierlaw22.StatsAnd'. -/
def statsAndUptoCard : Claim7 := { stood := { row := statsAndUptoRow, standIns := [], harness := (true, "46e58c586e20310f63c4995d22666369f51d9b648820f4dae7a200d4e26e2148"), looks := true }, kinds := [], alts := [], laidByText := true, laidKinds := [.data, .data, .data], laidTests := true, laidLooks := .later }
def StatsAndUptoCardSaid : Prop := Claim7.holds Tryd.pinned (.plain (OpenSpec.upto statsAndSpec)) statsAndUptoCard

/-- THE SECOND FORM's CARD OF 'bandolierlaw04.ChanceTexts'. -/
def chanceTextsUptoCard : Claim7 := { stood := { row := chanceTextsUptoRow, standIns := [], harness := (true, "46e58c586e20310f63c4995d22666369f51d9b648820f4dae7a200d4e26e2148"), looks := true }, kinds := [], alts := [], laidByText := true, laidKinds := [.data, .data, .data, .sentinel, .sentinel], laidTests := true, laidLooks := .later }
def ChanceTextsUptoCardSaid : Prop := Claim7.holds Tryd.pinned (.plain (OpenSpec.upto chanceTextsSpec)) chanceTextsUptoCard

/-- THE SECOND FORM's CARD OF 'bandolierlaw22.StatsCounts'. -/
def statsCountsUptoCard : Claim7 := { stood := { row := statsCountsUptoRow, standIns := [], harness := (true, "46e58c586e20310f63c4995d22666369f51d9b648820f4dae7a200d4e26e2148"), looks := true }, kinds := [], alts := [], laidByText := true, laidKinds := [.data, .data, .data, .data, .sentinel, .sentinel, .pinned], laidTests := true, laidLooks := .later }
def StatsCountsUptoCardSaid : Prop := Claim7.holds Tryd.pinned (.plain (OpenSpec.upto statsCountsSpec)) statsCountsUptoCard

/-- THE SECOND FORM's CARD OF 'bandolierlaw22.StatsTexts'. -/
def statsTextsUptoCard : Claim7 := { stood := { row := statsTextsUptoRow, standIns := [], harness := (true, "46e58c586e20310f63c4995d22666369f51d9b648820f4dae7a200d4e26e2148"), looks := true }, kinds := [], alts := [], laidByText := true, laidKinds := [.data, .data, .data, .data, .sentinel, .sentinel, .pinned], laidTests := true, laidLooks := .later }
def StatsTextsUptoCardSaid : Prop := Claim7.holds Tryd.pinned (.plain (OpenSpec.upto statsTextsSpec)) statsTextsUptoCard
end Rows
end Go.Proofs.YtdgphhpeebieaaaDoor
