/-
  DERIVED. GIVEN WITH THE SEED: THE CARDS: each row of YtmnojegajblagacDoorRows.lean that lists a variable, with what it lists TIED to the program's text (the seventh form; the later family's looks); each row that meets fmt, with fmt's text TOLD by the authors' own Lean function (tested against real Go, not proved from fmt's source: count such statements apart). THE CARD IS WHAT COUNTS. Prove the row's statement (the work); the ties are given (YtmnojegajblagacDoorTie.lean); close each card by the builder's one call (the guide's Derived/Test/ToyasCard.lean, 'card_holds'). Laid BY PROGRAM, IN A SANDBOX (cutbox-door.mjs). By AI agents, Wed Nov 11 2026. No macro, syntax, notation, axiom, sorry.
-/
import Derived.Test.YtmnojegajblagacDoorRows
import GoSem.ClaimSeven
namespace Go.Proofs.YtmnojegajblagacDoor
namespace Rows

/-- THE TIED CARD OF 'laws.FnExactParseAcl'. -/
def fnExactParseAclCard : Claim7 := { stood := { row := fnExactParseAclRow, standIns := [], harness := (true, "31e07b88407f5f8c198433cb3c01c261269b71c4017485d4d3992cb741e4801d"), looks := false }, kinds := [], alts := [], laidByText := true, laidKinds := [.data, .data, .data], laidTests := true, laidLooks := .later }
def FnExactParseAclCardSaid : Prop := Claim7.holds Tryd.pinned (.plain (OpenSpec.ofChange fnExactParseAclSpec)) fnExactParseAclCard

/-- THE TIED CARD OF 'laws.FnAcls'. -/
def fnAclsCard : Claim7 := { stood := { row := fnAclsRow, standIns := [], harness := (true, "31e07b88407f5f8c198433cb3c01c261269b71c4017485d4d3992cb741e4801d"), looks := false }, kinds := [], alts := [], laidByText := true, laidKinds := [.data, .data, .data], laidTests := true, laidLooks := .later }
def FnAclsCardSaid : Prop := Claim7.holds Tryd.pinned (.plain (OpenSpec.ofChange fnAclsSpec)) fnAclsCard

/-- THE SECOND FORM's CARD OF 'laws.FnExactParseAcl'. -/
def fnExactParseAclUptoCard : Claim7 := { stood := { row := fnExactParseAclUptoRow, standIns := [], harness := (true, "31e07b88407f5f8c198433cb3c01c261269b71c4017485d4d3992cb741e4801d"), looks := false }, kinds := [], alts := [], laidByText := true, laidKinds := [.data, .data, .data], laidTests := true, laidLooks := .later }
def FnExactParseAclUptoCardSaid : Prop := Claim7.holds Tryd.pinned (.plain (OpenSpec.upto fnExactParseAclSpec)) fnExactParseAclUptoCard

/-- THE SECOND FORM's CARD OF 'laws.FnAcls'. -/
def fnAclsUptoCard : Claim7 := { stood := { row := fnAclsUptoRow, standIns := [], harness := (true, "31e07b88407f5f8c198433cb3c01c261269b71c4017485d4d3992cb741e4801d"), looks := false }, kinds := [], alts := [], laidByText := true, laidKinds := [.data, .data, .data], laidTests := true, laidLooks := .later }
def FnAclsUptoCardSaid : Prop := Claim7.holds Tryd.pinned (.plain (OpenSpec.upto fnAclsSpec)) fnAclsUptoCard
end Rows
end Go.Proofs.YtmnojegajblagacDoor
