/-
  DERIVED. GIVEN WITH THE SEED: THE CARDS: each row of YtaofmiigbhfnbaaDoorRows.lean that lists a variable, with what it lists TIED to the program's text (the seventh form; the later family's looks); each row that meets fmt, with fmt's text TOLD by the authors' own Lean function (tested against real Go, not proved from fmt's source: count such statements apart). THE CARD IS WHAT COUNTS. Prove the row's statement (the work); the ties are given (YtaofmiigbhfnbaaDoorTie.lean); close each card by the builder's one call (the guide's Derived/Test/ToyasCard.lean, 'card_holds'). Laid BY PROGRAM, IN A SANDBOX (cutbox-door.mjs). By AI agents, Wed Nov 11 2026. No macro, syntax, notation, axiom, sorry.
-/
import Derived.Test.YtaofmiigbhfnbaaDoorRows
import GoSem.ClaimSeven
namespace Go.Proofs.YtaofmiigbhfnbaaDoor
namespace Rows

/-- THE TIED CARD OF 'laws.FnExactDistanceBits'. -/
def fnExactDistanceBitsCard : Claim7 := { stood := { row := fnExactDistanceBitsRow, standIns := [], harness := (true, "893399246dd0f1c96caf2c2aed3de310c9affe37e227828f549add89f29083ca"), looks := false }, kinds := [], alts := [], laidByText := true, laidKinds := [.data, .pinned], laidTests := true, laidLooks := .later }
def FnExactDistanceBitsCardSaid : Prop := Claim7.holds Tryd.pinned (.plain (OpenSpec.ofChange fnExactDistanceBitsSpec)) fnExactDistanceBitsCard

/-- THE TIED CARD OF 'laws.FnExactFlipBits'. -/
def fnExactFlipBitsCard : Claim7 := { stood := { row := fnExactFlipBitsRow, standIns := [], harness := (true, "893399246dd0f1c96caf2c2aed3de310c9affe37e227828f549add89f29083ca"), looks := false }, kinds := [], alts := [], laidByText := true, laidKinds := [.data, .pinned], laidTests := true, laidLooks := .later }
def FnExactFlipBitsCardSaid : Prop := Claim7.holds Tryd.pinned (.plain (OpenSpec.ofChange fnExactFlipBitsSpec)) fnExactFlipBitsCard

/-- THE TIED CARD OF 'laws.FnExactBestPaths'. -/
def fnExactBestPathsCard : Claim7 := { stood := { row := fnExactBestPathsRow, standIns := [], harness := (true, "893399246dd0f1c96caf2c2aed3de310c9affe37e227828f549add89f29083ca"), looks := false }, kinds := [], alts := [], laidByText := true, laidKinds := [.data, .pinned], laidTests := true, laidLooks := .later }
def FnExactBestPathsCardSaid : Prop := Claim7.holds Tryd.pinned (.plain (OpenSpec.ofChange fnExactBestPathsSpec)) fnExactBestPathsCard

/-- THE TIED CARD OF 'laws.FnExactEncodeBits'. -/
def fnExactEncodeBitsCard : Claim7 := { stood := { row := fnExactEncodeBitsRow, standIns := [], harness := (true, "893399246dd0f1c96caf2c2aed3de310c9affe37e227828f549add89f29083ca"), looks := false }, kinds := [], alts := [], laidByText := true, laidKinds := [.data, .pinned], laidTests := true, laidLooks := .later }
def FnExactEncodeBitsCardSaid : Prop := Claim7.holds Tryd.pinned (.plain (OpenSpec.ofChange fnExactEncodeBitsSpec)) fnExactEncodeBitsCard

/-- THE TIED CARD OF 'laws.FnExactCostOf'. -/
def fnExactCostOfCard : Claim7 := { stood := { row := fnExactCostOfRow, standIns := [], harness := (true, "893399246dd0f1c96caf2c2aed3de310c9affe37e227828f549add89f29083ca"), looks := false }, kinds := [], alts := [], laidByText := true, laidKinds := [.data, .pinned], laidTests := true, laidLooks := .later }
def FnExactCostOfCardSaid : Prop := Claim7.holds Tryd.pinned (.plain (OpenSpec.ofChange fnExactCostOfSpec)) fnExactCostOfCard

/-- THE TIED CARD OF 'laws.FnExactDecodeBits'. -/
def fnExactDecodeBitsCard : Claim7 := { stood := { row := fnExactDecodeBitsRow, standIns := [], harness := (true, "893399246dd0f1c96caf2c2aed3de310c9affe37e227828f549add89f29083ca"), looks := false }, kinds := [], alts := [], laidByText := true, laidKinds := [.data, .pinned], laidTests := true, laidLooks := .later }
def FnExactDecodeBitsCardSaid : Prop := Claim7.holds Tryd.pinned (.plain (OpenSpec.ofChange fnExactDecodeBitsSpec)) fnExactDecodeBitsCard

/-- THE TIED CARD OF 'laws.FnViterbi'. -/
def fnViterbiCard : Claim7 := { stood := { row := fnViterbiRow, standIns := [], harness := (true, "893399246dd0f1c96caf2c2aed3de310c9affe37e227828f549add89f29083ca"), looks := false }, kinds := [], alts := [], laidByText := true, laidKinds := [.data, .pinned], laidTests := true, laidLooks := .later }
def FnViterbiCardSaid : Prop := Claim7.holds Tryd.pinned (.plain (OpenSpec.ofChange fnViterbiSpec)) fnViterbiCard

/-- THE TIED CARD OF 'laws.FnFree'. -/
def fnFreeCard : Claim7 := { stood := { row := fnFreeRow, standIns := [], harness := (true, "893399246dd0f1c96caf2c2aed3de310c9affe37e227828f549add89f29083ca"), looks := false }, kinds := [], alts := [], laidByText := true, laidKinds := [.data, .pinned], laidTests := true, laidLooks := .later }
def FnFreeCardSaid : Prop := Claim7.holds Tryd.pinned (.plain (OpenSpec.ofChange fnFreeSpec)) fnFreeCard

/-- THE SECOND FORM's CARD OF 'laws.FnExactDistanceBits'. -/
def fnExactDistanceBitsUptoCard : Claim7 := { stood := { row := fnExactDistanceBitsUptoRow, standIns := [], harness := (true, "893399246dd0f1c96caf2c2aed3de310c9affe37e227828f549add89f29083ca"), looks := false }, kinds := [], alts := [], laidByText := true, laidKinds := [.data, .pinned], laidTests := true, laidLooks := .later }
def FnExactDistanceBitsUptoCardSaid : Prop := Claim7.holds Tryd.pinned (.plain (OpenSpec.upto fnExactDistanceBitsSpec)) fnExactDistanceBitsUptoCard

/-- THE SECOND FORM's CARD OF 'laws.FnExactFlipBits'. -/
def fnExactFlipBitsUptoCard : Claim7 := { stood := { row := fnExactFlipBitsUptoRow, standIns := [], harness := (true, "893399246dd0f1c96caf2c2aed3de310c9affe37e227828f549add89f29083ca"), looks := false }, kinds := [], alts := [], laidByText := true, laidKinds := [.data, .pinned], laidTests := true, laidLooks := .later }
def FnExactFlipBitsUptoCardSaid : Prop := Claim7.holds Tryd.pinned (.plain (OpenSpec.upto fnExactFlipBitsSpec)) fnExactFlipBitsUptoCard

/-- THE SECOND FORM's CARD OF 'laws.FnExactBestPaths'. -/
def fnExactBestPathsUptoCard : Claim7 := { stood := { row := fnExactBestPathsUptoRow, standIns := [], harness := (true, "893399246dd0f1c96caf2c2aed3de310c9affe37e227828f549add89f29083ca"), looks := false }, kinds := [], alts := [], laidByText := true, laidKinds := [.data, .pinned], laidTests := true, laidLooks := .later }
def FnExactBestPathsUptoCardSaid : Prop := Claim7.holds Tryd.pinned (.plain (OpenSpec.upto fnExactBestPathsSpec)) fnExactBestPathsUptoCard

/-- THE SECOND FORM's CARD OF 'laws.FnExactEncodeBits'. -/
def fnExactEncodeBitsUptoCard : Claim7 := { stood := { row := fnExactEncodeBitsUptoRow, standIns := [], harness := (true, "893399246dd0f1c96caf2c2aed3de310c9affe37e227828f549add89f29083ca"), looks := false }, kinds := [], alts := [], laidByText := true, laidKinds := [.data, .pinned], laidTests := true, laidLooks := .later }
def FnExactEncodeBitsUptoCardSaid : Prop := Claim7.holds Tryd.pinned (.plain (OpenSpec.upto fnExactEncodeBitsSpec)) fnExactEncodeBitsUptoCard

/-- THE SECOND FORM's CARD OF 'laws.FnExactCostOf'. -/
def fnExactCostOfUptoCard : Claim7 := { stood := { row := fnExactCostOfUptoRow, standIns := [], harness := (true, "893399246dd0f1c96caf2c2aed3de310c9affe37e227828f549add89f29083ca"), looks := false }, kinds := [], alts := [], laidByText := true, laidKinds := [.data, .pinned], laidTests := true, laidLooks := .later }
def FnExactCostOfUptoCardSaid : Prop := Claim7.holds Tryd.pinned (.plain (OpenSpec.upto fnExactCostOfSpec)) fnExactCostOfUptoCard

/-- THE SECOND FORM's CARD OF 'laws.FnExactDecodeBits'. -/
def fnExactDecodeBitsUptoCard : Claim7 := { stood := { row := fnExactDecodeBitsUptoRow, standIns := [], harness := (true, "893399246dd0f1c96caf2c2aed3de310c9affe37e227828f549add89f29083ca"), looks := false }, kinds := [], alts := [], laidByText := true, laidKinds := [.data, .pinned], laidTests := true, laidLooks := .later }
def FnExactDecodeBitsUptoCardSaid : Prop := Claim7.holds Tryd.pinned (.plain (OpenSpec.upto fnExactDecodeBitsSpec)) fnExactDecodeBitsUptoCard

/-- THE SECOND FORM's CARD OF 'laws.FnViterbi'. -/
def fnViterbiUptoCard : Claim7 := { stood := { row := fnViterbiUptoRow, standIns := [], harness := (true, "893399246dd0f1c96caf2c2aed3de310c9affe37e227828f549add89f29083ca"), looks := false }, kinds := [], alts := [], laidByText := true, laidKinds := [.data, .pinned], laidTests := true, laidLooks := .later }
def FnViterbiUptoCardSaid : Prop := Claim7.holds Tryd.pinned (.plain (OpenSpec.upto fnViterbiSpec)) fnViterbiUptoCard

/-- THE SECOND FORM's CARD OF 'laws.FnFree'. -/
def fnFreeUptoCard : Claim7 := { stood := { row := fnFreeUptoRow, standIns := [], harness := (true, "893399246dd0f1c96caf2c2aed3de310c9affe37e227828f549add89f29083ca"), looks := false }, kinds := [], alts := [], laidByText := true, laidKinds := [.data, .pinned], laidTests := true, laidLooks := .later }
def FnFreeUptoCardSaid : Prop := Claim7.holds Tryd.pinned (.plain (OpenSpec.upto fnFreeSpec)) fnFreeUptoCard
end Rows
end Go.Proofs.YtaofmiigbhfnbaaDoor
