/-
  DERIVED. GIVEN WITH THE SEED: THE CARDS: each row of YtaoemgkalmhnbaaDoorRows.lean that lists a variable, with what it lists TIED to the program's text (the seventh form; the later family's looks); each row that meets fmt, with fmt's text TOLD by the authors' own Lean function (tested against real Go, not proved from fmt's source: count such statements apart). THE CARD IS WHAT COUNTS. Prove the row's statement (the work); the ties are given (YtaoemgkalmhnbaaDoorTie.lean); close each card by the builder's one call (the guide's Derived/Test/ToyasCard.lean, 'card_holds'). Laid BY PROGRAM, IN A SANDBOX (cutbox-door.mjs). By AI agents, Wed Nov 11 2026. No macro, syntax, notation, axiom, sorry.
-/
import Derived.Test.YtaoemgkalmhnbaaDoorRows
import GoSem.ClaimSeven
namespace Go.Proofs.YtaoemgkalmhnbaaDoor
namespace Rows

/-- THE TIED CARD OF 'laws.FnExactGammaOf'. -/
def fnExactGammaOfCard : Claim7 := { stood := { row := fnExactGammaOfRow, standIns := [], harness := (true, "cb9aa21cf8ffb6a5e5b810da7c60f0c97828772c6f79fed4f60ae8dc0ff2b482"), looks := false }, kinds := [], alts := [], laidByText := true, laidKinds := [.data, .data, .data], laidTests := true, laidLooks := .later }
def FnExactGammaOfCardSaid : Prop := Claim7.holds Tryd.pinned (.plain (OpenSpec.ofChange fnExactGammaOfSpec)) fnExactGammaOfCard

/-- THE TIED CARD OF 'laws.FnExactDeltaOf'. -/
def fnExactDeltaOfCard : Claim7 := { stood := { row := fnExactDeltaOfRow, standIns := [], harness := (true, "cb9aa21cf8ffb6a5e5b810da7c60f0c97828772c6f79fed4f60ae8dc0ff2b482"), looks := false }, kinds := [], alts := [], laidByText := true, laidKinds := [.data, .data, .data], laidTests := true, laidLooks := .later }
def FnExactDeltaOfCardSaid : Prop := Claim7.holds Tryd.pinned (.plain (OpenSpec.ofChange fnExactDeltaOfSpec)) fnExactDeltaOfCard

/-- THE TIED CARD OF 'laws.FnExactRiceOf'. -/
def fnExactRiceOfCard : Claim7 := { stood := { row := fnExactRiceOfRow, standIns := [], harness := (true, "cb9aa21cf8ffb6a5e5b810da7c60f0c97828772c6f79fed4f60ae8dc0ff2b482"), looks := false }, kinds := [], alts := [], laidByText := true, laidKinds := [.data, .data, .data], laidTests := true, laidLooks := .later }
def FnExactRiceOfCardSaid : Prop := Claim7.holds Tryd.pinned (.plain (OpenSpec.ofChange fnExactRiceOfSpec)) fnExactRiceOfCard

/-- THE TIED CARD OF 'laws.FnExactTakeGamma'. -/
def fnExactTakeGammaCard : Claim7 := { stood := { row := fnExactTakeGammaRow, standIns := [], harness := (true, "cb9aa21cf8ffb6a5e5b810da7c60f0c97828772c6f79fed4f60ae8dc0ff2b482"), looks := false }, kinds := [], alts := [], laidByText := true, laidKinds := [.data, .data, .data], laidTests := true, laidLooks := .later }
def FnExactTakeGammaCardSaid : Prop := Claim7.holds Tryd.pinned (.plain (OpenSpec.ofChange fnExactTakeGammaSpec)) fnExactTakeGammaCard

/-- THE SECOND FORM's CARD OF 'laws.FnExactGammaOf'. -/
def fnExactGammaOfUptoCard : Claim7 := { stood := { row := fnExactGammaOfUptoRow, standIns := [], harness := (true, "cb9aa21cf8ffb6a5e5b810da7c60f0c97828772c6f79fed4f60ae8dc0ff2b482"), looks := false }, kinds := [], alts := [], laidByText := true, laidKinds := [.data, .data, .data], laidTests := true, laidLooks := .later }
def FnExactGammaOfUptoCardSaid : Prop := Claim7.holds Tryd.pinned (.plain (OpenSpec.upto fnExactGammaOfSpec)) fnExactGammaOfUptoCard

/-- THE SECOND FORM's CARD OF 'laws.FnExactDeltaOf'. -/
def fnExactDeltaOfUptoCard : Claim7 := { stood := { row := fnExactDeltaOfUptoRow, standIns := [], harness := (true, "cb9aa21cf8ffb6a5e5b810da7c60f0c97828772c6f79fed4f60ae8dc0ff2b482"), looks := false }, kinds := [], alts := [], laidByText := true, laidKinds := [.data, .data, .data], laidTests := true, laidLooks := .later }
def FnExactDeltaOfUptoCardSaid : Prop := Claim7.holds Tryd.pinned (.plain (OpenSpec.upto fnExactDeltaOfSpec)) fnExactDeltaOfUptoCard

/-- THE SECOND FORM's CARD OF 'laws.FnExactRiceOf'. -/
def fnExactRiceOfUptoCard : Claim7 := { stood := { row := fnExactRiceOfUptoRow, standIns := [], harness := (true, "cb9aa21cf8ffb6a5e5b810da7c60f0c97828772c6f79fed4f60ae8dc0ff2b482"), looks := false }, kinds := [], alts := [], laidByText := true, laidKinds := [.data, .data, .data], laidTests := true, laidLooks := .later }
def FnExactRiceOfUptoCardSaid : Prop := Claim7.holds Tryd.pinned (.plain (OpenSpec.upto fnExactRiceOfSpec)) fnExactRiceOfUptoCard

/-- THE SECOND FORM's CARD OF 'laws.FnExactTakeGamma'. -/
def fnExactTakeGammaUptoCard : Claim7 := { stood := { row := fnExactTakeGammaUptoRow, standIns := [], harness := (true, "cb9aa21cf8ffb6a5e5b810da7c60f0c97828772c6f79fed4f60ae8dc0ff2b482"), looks := false }, kinds := [], alts := [], laidByText := true, laidKinds := [.data, .data, .data], laidTests := true, laidLooks := .later }
def FnExactTakeGammaUptoCardSaid : Prop := Claim7.holds Tryd.pinned (.plain (OpenSpec.upto fnExactTakeGammaSpec)) fnExactTakeGammaUptoCard
end Rows
end Go.Proofs.YtaoemgkalmhnbaaDoor
