/-
  DERIVED. GIVEN WITH THE SEED: THE CARDS: each row of YtoimodnlefadhaaDoorRows.lean that lists a variable, with what it lists TIED to the program's text (the seventh form; the later family's looks); each row that meets fmt, with fmt's text TOLD by the authors' own Lean function (tested against real Go, not proved from fmt's source: count such statements apart). THE CARD IS WHAT COUNTS. Prove the row's statement (the work); the ties are given (YtoimodnlefadhaaDoorTie.lean); close each card by the builder's one call (the guide's Derived/Test/ToyasCard.lean, 'card_holds'). Laid BY PROGRAM, IN A SANDBOX (cutbox-door.mjs). By AI agents, Wed Nov 11 2026. No macro, syntax, notation, axiom, sorry.
-/
import Derived.Test.YtoimodnlefadhaaDoorRows
import GoSem.ClaimSeven
namespace Go.Proofs.YtoimodnlefadhaaDoor
namespace Rows

/-- THE TIED CARD OF 'laws.FnExactTreeText'. -/
def fnExactTreeTextCard : Claim7 := { stood := { row := fnExactTreeTextRow, standIns := [], harness := (true, "3c67de3a4db7985dfa5e4437baccdc2080ee6c965d4e6f305120c505cfd55d25"), looks := false }, kinds := [], alts := [], laidByText := true, laidKinds := [.data, .data, .data], laidTests := true, laidLooks := .later }
def FnExactTreeTextCardSaid : Prop := Claim7.holds Tryd.pinned (.plain (OpenSpec.ofChange fnExactTreeTextSpec)) fnExactTreeTextCard

/-- THE TIED CARD OF 'laws.FnExactTreeTakes'. -/
def fnExactTreeTakesCard : Claim7 := { stood := { row := fnExactTreeTakesRow, standIns := [], harness := (true, "3c67de3a4db7985dfa5e4437baccdc2080ee6c965d4e6f305120c505cfd55d25"), looks := false }, kinds := [], alts := [], laidByText := true, laidKinds := [.data, .data], laidTests := true, laidLooks := .later }
def FnExactTreeTakesCardSaid : Prop := Claim7.holds Tryd.pinned (.plain (OpenSpec.ofChange fnExactTreeTakesSpec)) fnExactTreeTakesCard

/-- THE SECOND FORM's CARD OF 'laws.FnExactTreeText'. -/
def fnExactTreeTextUptoCard : Claim7 := { stood := { row := fnExactTreeTextUptoRow, standIns := [], harness := (true, "3c67de3a4db7985dfa5e4437baccdc2080ee6c965d4e6f305120c505cfd55d25"), looks := false }, kinds := [], alts := [], laidByText := true, laidKinds := [.data, .data, .data], laidTests := true, laidLooks := .later }
def FnExactTreeTextUptoCardSaid : Prop := Claim7.holds Tryd.pinned (.plain (OpenSpec.upto fnExactTreeTextSpec)) fnExactTreeTextUptoCard

/-- THE SECOND FORM's CARD OF 'laws.FnExactTreeTakes'. -/
def fnExactTreeTakesUptoCard : Claim7 := { stood := { row := fnExactTreeTakesUptoRow, standIns := [], harness := (true, "3c67de3a4db7985dfa5e4437baccdc2080ee6c965d4e6f305120c505cfd55d25"), looks := false }, kinds := [], alts := [], laidByText := true, laidKinds := [.data, .data], laidTests := true, laidLooks := .later }
def FnExactTreeTakesUptoCardSaid : Prop := Claim7.holds Tryd.pinned (.plain (OpenSpec.upto fnExactTreeTakesSpec)) fnExactTreeTakesUptoCard
end Rows
end Go.Proofs.YtoimodnlefadhaaDoor
