/-
  DERIVED. GIVEN WITH THE SEED: THE CARDS: each row of YtkadihmhaoghfaaDoorRows.lean that lists a variable, with what it lists TIED to the program's text (the seventh form; the later family's looks); each row that meets fmt, with fmt's text TOLD by the authors' own Lean function (tested against real Go, not proved from fmt's source: count such statements apart). THE CARD IS WHAT COUNTS. Prove the row's statement (the work); the ties are given (YtkadihmhaoghfaaDoorTie.lean); close each card by the builder's one call (the guide's Derived/Test/ToyasCard.lean, 'card_holds'). Laid BY PROGRAM, IN A SANDBOX (cutbox-door.mjs). By AI agents, Wed Nov 11 2026. No macro, syntax, notation, axiom, sorry.
-/
import Derived.Test.YtkadihmhaoghfaaDoorRows
import GoSem.ClaimSeven
namespace Go.Proofs.YtkadihmhaoghfaaDoor
namespace Rows

/-- THE TIED CARD OF 'laws.FnExactPosetText'. -/
def fnExactPosetTextCard : Claim7 := { stood := { row := fnExactPosetTextRow, standIns := [], harness := (true, "46fa3b8250d71c45530712b44da8c031ff7a063791ba45190ca8acbd3b5b4158"), looks := true }, kinds := [], alts := [], laidByText := true, laidKinds := [.data, .data, .data], laidTests := true, laidLooks := .later }
def FnExactPosetTextCardSaid : Prop := Claim7.holds Tryd.pinned (.plain (OpenSpec.ofChange fnExactPosetTextSpec)) fnExactPosetTextCard

/-- THE TIED CARD OF 'laws.FnExactParsePoset'. -/
def fnExactParsePosetCard : Claim7 := { stood := { row := fnExactParsePosetRow, standIns := [], harness := (true, "46fa3b8250d71c45530712b44da8c031ff7a063791ba45190ca8acbd3b5b4158"), looks := true }, kinds := [], alts := [], laidByText := true, laidKinds := [.data, .data, .data, .data, .sentinel, .sentinel, .pinned], laidTests := true, laidLooks := .later }
def FnExactParsePosetCardSaid : Prop := Claim7.holds Tryd.pinned (.plain (OpenSpec.ofChange fnExactParsePosetSpec)) fnExactParsePosetCard

/-- THE SECOND FORM's CARD OF 'laws.FnExactPosetText'. -/
def fnExactPosetTextUptoCard : Claim7 := { stood := { row := fnExactPosetTextUptoRow, standIns := [], harness := (true, "46fa3b8250d71c45530712b44da8c031ff7a063791ba45190ca8acbd3b5b4158"), looks := true }, kinds := [], alts := [], laidByText := true, laidKinds := [.data, .data, .data], laidTests := true, laidLooks := .later }
def FnExactPosetTextUptoCardSaid : Prop := Claim7.holds Tryd.pinned (.plain (OpenSpec.upto fnExactPosetTextSpec)) fnExactPosetTextUptoCard

/-- THE SECOND FORM's CARD OF 'laws.FnExactParsePoset'. -/
def fnExactParsePosetUptoCard : Claim7 := { stood := { row := fnExactParsePosetUptoRow, standIns := [], harness := (true, "46fa3b8250d71c45530712b44da8c031ff7a063791ba45190ca8acbd3b5b4158"), looks := true }, kinds := [], alts := [], laidByText := true, laidKinds := [.data, .data, .data, .data, .sentinel, .sentinel, .pinned], laidTests := true, laidLooks := .later }
def FnExactParsePosetUptoCardSaid : Prop := Claim7.holds Tryd.pinned (.plain (OpenSpec.upto fnExactParsePosetSpec)) fnExactParsePosetUptoCard
end Rows
end Go.Proofs.YtkadihmhaoghfaaDoor
