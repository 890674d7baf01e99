/-
  DERIVED. GIVEN WITH THE SEED: THE CARDS: each row of YtbkodnhnadkhdaaDoorRows.lean that lists a variable, with what it lists TIED to the program's text (the seventh form; the later family's looks); each row that meets fmt, with fmt's text TOLD by the authors' own Lean function (tested against real Go, not proved from fmt's source: count such statements apart). THE CARD IS WHAT COUNTS. Prove the row's statement (the work); the ties are given (YtbkodnhnadkhdaaDoorTie.lean); close each card by the builder's one call (the guide's Derived/Test/ToyasCard.lean, 'card_holds'). Laid BY PROGRAM, IN A SANDBOX (cutbox-door.mjs). By AI agents, Wed Nov 11 2026. No macro, syntax, notation, axiom, sorry.
-/
import Derived.Test.YtbkodnhnadkhdaaDoorRows
import GoSem.ClaimSeven
namespace Go.Proofs.YtbkodnhnadkhdaaDoor
namespace Rows

/-- THE TIED CARD OF 'laws.FnExactMixStrong'. -/
def fnExactMixStrongCard : Claim7 := { stood := { row := fnExactMixStrongRow, standIns := [], harness := (true, "7c278433f54fa446e70a63eed24b6a966ab2152817d538fd93c03ad2e75c1e0c"), looks := false }, kinds := [], alts := [], laidByText := true, laidKinds := [.data, .data], laidTests := true, laidLooks := .later }
def FnExactMixStrongCardSaid : Prop := Claim7.holds Tryd.pinned (.plain (OpenSpec.ofChange fnExactMixStrongSpec)) fnExactMixStrongCard

/-- THE TIED CARD OF 'laws.FnExactStrongOf'. -/
def fnExactStrongOfCard : Claim7 := { stood := { row := fnExactStrongOfRow, standIns := [], harness := (true, "7c278433f54fa446e70a63eed24b6a966ab2152817d538fd93c03ad2e75c1e0c"), looks := false }, kinds := [], alts := [], laidByText := true, laidKinds := [.data, .data], laidTests := true, laidLooks := .later }
def FnExactStrongOfCardSaid : Prop := Claim7.holds Tryd.pinned (.plain (OpenSpec.ofChange fnExactStrongOfSpec)) fnExactStrongOfCard

/-- THE TIED CARD OF 'laws.FnExactSeedStrong'. -/
def fnExactSeedStrongCard : Claim7 := { stood := { row := fnExactSeedStrongRow, standIns := [], harness := (true, "7c278433f54fa446e70a63eed24b6a966ab2152817d538fd93c03ad2e75c1e0c"), looks := false }, kinds := [], alts := [], laidByText := true, laidKinds := [.data, .data], laidTests := true, laidLooks := .later }
def FnExactSeedStrongCardSaid : Prop := Claim7.holds Tryd.pinned (.plain (OpenSpec.ofChange fnExactSeedStrongSpec)) fnExactSeedStrongCard

/-- THE TIED CARD OF 'laws.FnExactShortSum'. -/
def fnExactShortSumCard : Claim7 := { stood := { row := fnExactShortSumRow, standIns := [], harness := (true, "7c278433f54fa446e70a63eed24b6a966ab2152817d538fd93c03ad2e75c1e0c"), looks := false }, kinds := [], alts := [], laidByText := true, laidKinds := [.data, .data], laidTests := true, laidLooks := .later }
def FnExactShortSumCardSaid : Prop := Claim7.holds Tryd.pinned (.plain (OpenSpec.ofChange fnExactShortSumSpec)) fnExactShortSumCard

/-- THE TIED CARD OF 'laws.FnExactSigOf'. -/
def fnExactSigOfCard : Claim7 := { stood := { row := fnExactSigOfRow, standIns := [], harness := (true, "7c278433f54fa446e70a63eed24b6a966ab2152817d538fd93c03ad2e75c1e0c"), looks := false }, kinds := [], alts := [], laidByText := true, laidKinds := [.data, .data], laidTests := true, laidLooks := .later }
def FnExactSigOfCardSaid : Prop := Claim7.holds Tryd.pinned (.plain (OpenSpec.ofChange fnExactSigOfSpec)) fnExactSigOfCard

/-- THE TIED CARD OF 'laws.FnExactBlockFits'. -/
def fnExactBlockFitsCard : Claim7 := { stood := { row := fnExactBlockFitsRow, standIns := [], harness := (true, "7c278433f54fa446e70a63eed24b6a966ab2152817d538fd93c03ad2e75c1e0c"), looks := false }, kinds := [], alts := [], laidByText := true, laidKinds := [.data, .data], laidTests := true, laidLooks := .later }
def FnExactBlockFitsCardSaid : Prop := Claim7.holds Tryd.pinned (.plain (OpenSpec.ofChange fnExactBlockFitsSpec)) fnExactBlockFitsCard

/-- THE TIED CARD OF 'laws.FnTransfer'. -/
def fnTransferCard : Claim7 := { stood := { row := fnTransferRow, standIns := [], harness := (true, "7c278433f54fa446e70a63eed24b6a966ab2152817d538fd93c03ad2e75c1e0c"), looks := false }, kinds := [], alts := [], laidByText := true, laidKinds := [.data, .data], laidTests := true, laidLooks := .later }
def FnTransferCardSaid : Prop := Claim7.holds Tryd.pinned (.plain (OpenSpec.ofChange fnTransferSpec)) fnTransferCard

/-- THE TIED CARD OF 'laws.FnExactDeltaOf'. -/
def fnExactDeltaOfCard : Claim7 := { stood := { row := fnExactDeltaOfRow, standIns := [], harness := (true, "7c278433f54fa446e70a63eed24b6a966ab2152817d538fd93c03ad2e75c1e0c"), looks := false }, kinds := [], alts := [], laidByText := true, laidKinds := [.data, .data], laidTests := true, laidLooks := .later }
def FnExactDeltaOfCardSaid : Prop := Claim7.holds Tryd.pinned (.plain (OpenSpec.ofChange fnExactDeltaOfSpec)) fnExactDeltaOfCard

/-- THE TIED CARD OF 'laws.FnExactTransfer'. -/
def fnExactTransferCard : Claim7 := { stood := { row := fnExactTransferRow, standIns := [], harness := (true, "7c278433f54fa446e70a63eed24b6a966ab2152817d538fd93c03ad2e75c1e0c"), looks := false }, kinds := [], alts := [], laidByText := true, laidKinds := [.data, .data], laidTests := true, laidLooks := .later }
def FnExactTransferCardSaid : Prop := Claim7.holds Tryd.pinned (.plain (OpenSpec.ofChange fnExactTransferSpec)) fnExactTransferCard

/-- THE SECOND FORM's CARD OF 'laws.FnExactMixStrong'. -/
def fnExactMixStrongUptoCard : Claim7 := { stood := { row := fnExactMixStrongUptoRow, standIns := [], harness := (true, "7c278433f54fa446e70a63eed24b6a966ab2152817d538fd93c03ad2e75c1e0c"), looks := false }, kinds := [], alts := [], laidByText := true, laidKinds := [.data, .data], laidTests := true, laidLooks := .later }
def FnExactMixStrongUptoCardSaid : Prop := Claim7.holds Tryd.pinned (.plain (OpenSpec.upto fnExactMixStrongSpec)) fnExactMixStrongUptoCard

/-- THE SECOND FORM's CARD OF 'laws.FnExactStrongOf'. -/
def fnExactStrongOfUptoCard : Claim7 := { stood := { row := fnExactStrongOfUptoRow, standIns := [], harness := (true, "7c278433f54fa446e70a63eed24b6a966ab2152817d538fd93c03ad2e75c1e0c"), looks := false }, kinds := [], alts := [], laidByText := true, laidKinds := [.data, .data], laidTests := true, laidLooks := .later }
def FnExactStrongOfUptoCardSaid : Prop := Claim7.holds Tryd.pinned (.plain (OpenSpec.upto fnExactStrongOfSpec)) fnExactStrongOfUptoCard

/-- THE SECOND FORM's CARD OF 'laws.FnExactSeedStrong'. -/
def fnExactSeedStrongUptoCard : Claim7 := { stood := { row := fnExactSeedStrongUptoRow, standIns := [], harness := (true, "7c278433f54fa446e70a63eed24b6a966ab2152817d538fd93c03ad2e75c1e0c"), looks := false }, kinds := [], alts := [], laidByText := true, laidKinds := [.data, .data], laidTests := true, laidLooks := .later }
def FnExactSeedStrongUptoCardSaid : Prop := Claim7.holds Tryd.pinned (.plain (OpenSpec.upto fnExactSeedStrongSpec)) fnExactSeedStrongUptoCard

/-- THE SECOND FORM's CARD OF 'laws.FnExactShortSum'. -/
def fnExactShortSumUptoCard : Claim7 := { stood := { row := fnExactShortSumUptoRow, standIns := [], harness := (true, "7c278433f54fa446e70a63eed24b6a966ab2152817d538fd93c03ad2e75c1e0c"), looks := false }, kinds := [], alts := [], laidByText := true, laidKinds := [.data, .data], laidTests := true, laidLooks := .later }
def FnExactShortSumUptoCardSaid : Prop := Claim7.holds Tryd.pinned (.plain (OpenSpec.upto fnExactShortSumSpec)) fnExactShortSumUptoCard

/-- THE SECOND FORM's CARD OF 'laws.FnExactSigOf'. -/
def fnExactSigOfUptoCard : Claim7 := { stood := { row := fnExactSigOfUptoRow, standIns := [], harness := (true, "7c278433f54fa446e70a63eed24b6a966ab2152817d538fd93c03ad2e75c1e0c"), looks := false }, kinds := [], alts := [], laidByText := true, laidKinds := [.data, .data], laidTests := true, laidLooks := .later }
def FnExactSigOfUptoCardSaid : Prop := Claim7.holds Tryd.pinned (.plain (OpenSpec.upto fnExactSigOfSpec)) fnExactSigOfUptoCard

/-- THE SECOND FORM's CARD OF 'laws.FnExactBlockFits'. -/
def fnExactBlockFitsUptoCard : Claim7 := { stood := { row := fnExactBlockFitsUptoRow, standIns := [], harness := (true, "7c278433f54fa446e70a63eed24b6a966ab2152817d538fd93c03ad2e75c1e0c"), looks := false }, kinds := [], alts := [], laidByText := true, laidKinds := [.data, .data], laidTests := true, laidLooks := .later }
def FnExactBlockFitsUptoCardSaid : Prop := Claim7.holds Tryd.pinned (.plain (OpenSpec.upto fnExactBlockFitsSpec)) fnExactBlockFitsUptoCard

/-- THE SECOND FORM's CARD OF 'laws.FnTransfer'. -/
def fnTransferUptoCard : Claim7 := { stood := { row := fnTransferUptoRow, standIns := [], harness := (true, "7c278433f54fa446e70a63eed24b6a966ab2152817d538fd93c03ad2e75c1e0c"), looks := false }, kinds := [], alts := [], laidByText := true, laidKinds := [.data, .data], laidTests := true, laidLooks := .later }
def FnTransferUptoCardSaid : Prop := Claim7.holds Tryd.pinned (.plain (OpenSpec.upto fnTransferSpec)) fnTransferUptoCard

/-- THE SECOND FORM's CARD OF 'laws.FnExactDeltaOf'. -/
def fnExactDeltaOfUptoCard : Claim7 := { stood := { row := fnExactDeltaOfUptoRow, standIns := [], harness := (true, "7c278433f54fa446e70a63eed24b6a966ab2152817d538fd93c03ad2e75c1e0c"), looks := false }, kinds := [], alts := [], laidByText := true, laidKinds := [.data, .data], laidTests := true, laidLooks := .later }
def FnExactDeltaOfUptoCardSaid : Prop := Claim7.holds Tryd.pinned (.plain (OpenSpec.upto fnExactDeltaOfSpec)) fnExactDeltaOfUptoCard

/-- THE SECOND FORM's CARD OF 'laws.FnExactTransfer'. -/
def fnExactTransferUptoCard : Claim7 := { stood := { row := fnExactTransferUptoRow, standIns := [], harness := (true, "7c278433f54fa446e70a63eed24b6a966ab2152817d538fd93c03ad2e75c1e0c"), looks := false }, kinds := [], alts := [], laidByText := true, laidKinds := [.data, .data], laidTests := true, laidLooks := .later }
def FnExactTransferUptoCardSaid : Prop := Claim7.holds Tryd.pinned (.plain (OpenSpec.upto fnExactTransferSpec)) fnExactTransferUptoCard
end Rows
end Go.Proofs.YtbkodnhnadkhdaaDoor
