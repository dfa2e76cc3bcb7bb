/-
  DERIVED. GIVEN WITH THE SEED: THE CARDS: each row of YtelmcjohkifeeaaDoorRows.lean that lists a variable, with what it lists TIED to the program's text (the seventh form; the later family's looks); each row that meets fmt, with fmt's text TOLD by the authors' own Lean function (tested against real Go, not proved from fmt's source: count such statements apart). THE CARD IS WHAT COUNTS. Prove the row's statement (the work); the ties are given (YtelmcjohkifeeaaDoorTie.lean); close each card by the builder's one call (the guide's Derived/Test/ToyasCard.lean, 'card_holds'). Laid BY PROGRAM, IN A SANDBOX (cutbox-door.mjs). By AI agents, Wed Nov 11 2026. No macro, syntax, notation, axiom, sorry.
-/
import Derived.Test.YtelmcjohkifeeaaDoorRows
import GoSem.ClaimSeven
namespace Go.Proofs.YtelmcjohkifeeaaDoor
namespace Rows

/-- THE TIED CARD OF 'laws.FnExactFormatPolicy'. -/
def fnExactFormatPolicyCard : Claim7 := { stood := { row := fnExactFormatPolicyRow, standIns := [], harness := (true, "33199562a3aa06b725f937001932c06747771f5ac55b233276f58a0cd59d9007"), looks := false }, kinds := [], alts := [], laidByText := true, laidKinds := [.data, .data, .data], laidTests := true, laidLooks := .later }
def FnExactFormatPolicyCardSaid : Prop := Claim7.holds Tryd.pinned (.plain (OpenSpec.ofChange fnExactFormatPolicySpec)) fnExactFormatPolicyCard

/-- THE SECOND FORM's CARD OF 'laws.FnExactFormatPolicy'. -/
def fnExactFormatPolicyUptoCard : Claim7 := { stood := { row := fnExactFormatPolicyUptoRow, standIns := [], harness := (true, "33199562a3aa06b725f937001932c06747771f5ac55b233276f58a0cd59d9007"), looks := false }, kinds := [], alts := [], laidByText := true, laidKinds := [.data, .data, .data], laidTests := true, laidLooks := .later }
def FnExactFormatPolicyUptoCardSaid : Prop := Claim7.holds Tryd.pinned (.plain (OpenSpec.upto fnExactFormatPolicySpec)) fnExactFormatPolicyUptoCard
end Rows
end Go.Proofs.YtelmcjohkifeeaaDoor
