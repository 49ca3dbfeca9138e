/-
  DERIVED. GIVEN WITH THE SEED: THE CARDS: each row of YtemopgpcpjnmkaaDoorRows.lean that lists a variable, with what it lists TIED to the program's text (the seventh form; the later family's looks); each row that meets fmt, with fmt's text TOLD by the authors' own Lean function (tested against real Go, not proved from fmt's source: count such statements apart). THE CARD IS WHAT COUNTS. Prove the row's statement (the work); the ties are given (YtemopgpcpjnmkaaDoorTie.lean); close each card by the builder's one call (the guide's Derived/Test/ToyasCard.lean, 'card_holds'). Laid BY PROGRAM, IN A SANDBOX (cutbox-door.mjs). By AI agents, Wed Nov 11 2026. No macro, syntax, notation, axiom, sorry.
-/
import Derived.Test.YtemopgpcpjnmkaaDoorRows
import GoSem.ClaimSeven
namespace Go.Proofs.YtemopgpcpjnmkaaDoor
namespace Rows

/-- THE TIED CARD OF 'dioramatop.TopShadow'. -/
def topShadowCard : Claim7 := { stood := { row := topShadowRow, standIns := [], harness := (true, "1ada826be9b957d93ee0261e7e473f67cb496b71e85988394c841c4d81ffd2ee"), looks := false }, kinds := [], alts := [], laidByText := true, laidKinds := [.data], laidTests := true, laidLooks := .later }
def TopShadowCardSaid : Prop := Claim7.holds Tryd.pinned (.plain (OpenSpec.ofChange topShadowSpec)) topShadowCard

/-- THE SECOND FORM's CARD OF 'dioramatop.TopShadow'. -/
def topShadowUptoCard : Claim7 := { stood := { row := topShadowUptoRow, standIns := [], harness := (true, "1ada826be9b957d93ee0261e7e473f67cb496b71e85988394c841c4d81ffd2ee"), looks := false }, kinds := [], alts := [], laidByText := true, laidKinds := [.data], laidTests := true, laidLooks := .later }
def TopShadowUptoCardSaid : Prop := Claim7.holds Tryd.pinned (.plain (OpenSpec.upto topShadowSpec)) topShadowUptoCard
end Rows
end Go.Proofs.YtemopgpcpjnmkaaDoor
