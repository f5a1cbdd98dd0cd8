/-
  DERIVED. GIVEN WITH THE SEED: THE CARDS: each row of YtmnojegajblagabDoorRows.lean that lists a variable, with what it lists TIED to the program's text (the seventh form; the later family's looks); each row that meets fmt, with fmt's text TOLD by the authors' own Lean function (tested against real Go, not proved from fmt's source: count such statements apart). THE CARD IS WHAT COUNTS. Prove the row's statement (the work); the ties are given (YtmnojegajblagabDoorTie.lean); close each card by the builder's one call (the guide's Derived/Test/ToyasCard.lean, 'card_holds'). Laid BY PROGRAM, IN A SANDBOX (cutbox-door.mjs). By AI agents, Wed Nov 11 2026. No macro, syntax, notation, axiom, sorry.
-/
import Derived.Test.YtmnojegajblagabDoorRows
import GoSem.ClaimSeven
namespace Go.Proofs.YtmnojegajblagabDoor
namespace Rows

/-- THE TIED CARD OF 'laws.FnExactFormatAcl'. -/
def fnExactFormatAclCard : Claim7 := { stood := { row := fnExactFormatAclRow, standIns := [], harness := (true, "77e45dfdb3eceaf151ae7f5334b883586b734da02ba89b2b6f5f7872ac26a959"), looks := true }, kinds := [], alts := [], laidByText := true, laidKinds := [.data, .data, .data], laidTests := true, laidLooks := .later }
def FnExactFormatAclCardSaid : Prop := Claim7.holds Tryd.pinned (.plain (OpenSpec.ofChange fnExactFormatAclSpec)) fnExactFormatAclCard

/-- THE TIED CARD OF 'laws.FnExactParseInt'. -/
def fnExactParseIntCard : Claim7 := { stood := { row := fnExactParseIntRow, standIns := [], harness := (true, "77e45dfdb3eceaf151ae7f5334b883586b734da02ba89b2b6f5f7872ac26a959"), looks := true }, kinds := [], alts := [], laidByText := true, laidKinds := [.data, .data, .data, .sentinel, .sentinel], laidTests := true, laidLooks := .later }
def FnExactParseIntCardSaid : Prop := Claim7.holds Tryd.pinned (.plain (OpenSpec.ofChange fnExactParseIntSpec)) fnExactParseIntCard

/-- THE SECOND FORM's CARD OF 'laws.FnExactFormatAcl'. -/
def fnExactFormatAclUptoCard : Claim7 := { stood := { row := fnExactFormatAclUptoRow, standIns := [], harness := (true, "77e45dfdb3eceaf151ae7f5334b883586b734da02ba89b2b6f5f7872ac26a959"), looks := true }, kinds := [], alts := [], laidByText := true, laidKinds := [.data, .data, .data], laidTests := true, laidLooks := .later }
def FnExactFormatAclUptoCardSaid : Prop := Claim7.holds Tryd.pinned (.plain (OpenSpec.upto fnExactFormatAclSpec)) fnExactFormatAclUptoCard

/-- THE SECOND FORM's CARD OF 'laws.FnExactParseInt'. -/
def fnExactParseIntUptoCard : Claim7 := { stood := { row := fnExactParseIntUptoRow, standIns := [], harness := (true, "77e45dfdb3eceaf151ae7f5334b883586b734da02ba89b2b6f5f7872ac26a959"), looks := true }, kinds := [], alts := [], laidByText := true, laidKinds := [.data, .data, .data, .sentinel, .sentinel], laidTests := true, laidLooks := .later }
def FnExactParseIntUptoCardSaid : Prop := Claim7.holds Tryd.pinned (.plain (OpenSpec.upto fnExactParseIntSpec)) fnExactParseIntUptoCard
end Rows
end Go.Proofs.YtmnojegajblagabDoor
