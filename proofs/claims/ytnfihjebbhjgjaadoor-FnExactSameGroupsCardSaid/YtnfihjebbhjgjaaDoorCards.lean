/-
  DERIVED. GIVEN WITH THE SEED: THE CARDS: each row of YtnfihjebbhjgjaaDoorRows.lean that lists a variable, with what it lists TIED to the program's text (the seventh form; the later family's looks); each row that meets fmt, with fmt's text TOLD by the authors' own Lean function (tested against real Go, not proved from fmt's source: count such statements apart). THE CARD IS WHAT COUNTS. Prove the row's statement (the work); the ties are given (YtnfihjebbhjgjaaDoorTie.lean); close each card by the builder's one call (the guide's Derived/Test/ToyasCard.lean, 'card_holds'). Laid BY PROGRAM, IN A SANDBOX (cutbox-door.mjs). By AI agents, Wed Nov 11 2026. No macro, syntax, notation, axiom, sorry.
-/
import Derived.Test.YtnfihjebbhjgjaaDoorRows
import GoSem.ClaimSeven
namespace Go.Proofs.YtnfihjebbhjgjaaDoor
namespace Rows

/-- THE TIED CARD OF 'laws.FnExactSameGroups'. -/
def fnExactSameGroupsCard : Claim7 := { stood := { row := fnExactSameGroupsRow, standIns := [], harness := (true, "df4b6fa463f3ae5465a7dc923b8b9ca372043e815497ff86df3af9dd18d94ec7"), looks := false }, kinds := [], alts := [], laidByText := true, laidKinds := [.data, .pinned], laidTests := true, laidLooks := .later }
def FnExactSameGroupsCardSaid : Prop := Claim7.holds Tryd.pinned (.plain (OpenSpec.ofChange fnExactSameGroupsSpec)) fnExactSameGroupsCard

/-- THE TIED CARD OF 'laws.FnExactPathOk'. -/
def fnExactPathOkCard : Claim7 := { stood := { row := fnExactPathOkRow, standIns := [], harness := (true, "df4b6fa463f3ae5465a7dc923b8b9ca372043e815497ff86df3af9dd18d94ec7"), looks := false }, kinds := [], alts := [], laidByText := true, laidKinds := [.data, .pinned], laidTests := true, laidLooks := .later }
def FnExactPathOkCardSaid : Prop := Claim7.holds Tryd.pinned (.plain (OpenSpec.ofChange fnExactPathOkSpec)) fnExactPathOkCard

/-- THE TIED CARD OF 'laws.FnExactDeepOf'. -/
def fnExactDeepOfCard : Claim7 := { stood := { row := fnExactDeepOfRow, standIns := [], harness := (true, "df4b6fa463f3ae5465a7dc923b8b9ca372043e815497ff86df3af9dd18d94ec7"), looks := false }, kinds := [], alts := [], laidByText := true, laidKinds := [.data, .pinned], laidTests := true, laidLooks := .later }
def FnExactDeepOfCardSaid : Prop := Claim7.holds Tryd.pinned (.plain (OpenSpec.ofChange fnExactDeepOfSpec)) fnExactDeepOfCard

/-- THE TIED CARD OF 'laws.FnExactBaseOf'. -/
def fnExactBaseOfCard : Claim7 := { stood := { row := fnExactBaseOfRow, standIns := [], harness := (true, "df4b6fa463f3ae5465a7dc923b8b9ca372043e815497ff86df3af9dd18d94ec7"), looks := false }, kinds := [], alts := [], laidByText := true, laidKinds := [.data, .pinned], laidTests := true, laidLooks := .later }
def FnExactBaseOfCardSaid : Prop := Claim7.holds Tryd.pinned (.plain (OpenSpec.ofChange fnExactBaseOfSpec)) fnExactBaseOfCard

/-- THE TIED CARD OF 'laws.FnExactJoinPath'. -/
def fnExactJoinPathCard : Claim7 := { stood := { row := fnExactJoinPathRow, standIns := [], harness := (true, "df4b6fa463f3ae5465a7dc923b8b9ca372043e815497ff86df3af9dd18d94ec7"), looks := false }, kinds := [], alts := [], laidByText := true, laidKinds := [.data, .pinned], laidTests := true, laidLooks := .later }
def FnExactJoinPathCardSaid : Prop := Claim7.holds Tryd.pinned (.plain (OpenSpec.ofChange fnExactJoinPathSpec)) fnExactJoinPathCard

/-- THE TIED CARD OF 'laws.FnExactUnder'. -/
def fnExactUnderCard : Claim7 := { stood := { row := fnExactUnderRow, standIns := [], harness := (true, "df4b6fa463f3ae5465a7dc923b8b9ca372043e815497ff86df3af9dd18d94ec7"), looks := false }, kinds := [], alts := [], laidByText := true, laidKinds := [.data, .pinned], laidTests := true, laidLooks := .later }
def FnExactUnderCardSaid : Prop := Claim7.holds Tryd.pinned (.plain (OpenSpec.ofChange fnExactUnderSpec)) fnExactUnderCard

/-- THE TIED CARD OF 'laws.FnExactNames'. -/
def fnExactNamesCard : Claim7 := { stood := { row := fnExactNamesRow, standIns := [], harness := (true, "df4b6fa463f3ae5465a7dc923b8b9ca372043e815497ff86df3af9dd18d94ec7"), looks := false }, kinds := [], alts := [], laidByText := true, laidKinds := [.data, .pinned], laidTests := true, laidLooks := .later }
def FnExactNamesCardSaid : Prop := Claim7.holds Tryd.pinned (.plain (OpenSpec.ofChange fnExactNamesSpec)) fnExactNamesCard

/-- THE TIED CARD OF 'laws.FnExactNodeOk'. -/
def fnExactNodeOkCard : Claim7 := { stood := { row := fnExactNodeOkRow, standIns := [], harness := (true, "df4b6fa463f3ae5465a7dc923b8b9ca372043e815497ff86df3af9dd18d94ec7"), looks := false }, kinds := [], alts := [], laidByText := true, laidKinds := [.data, .pinned], laidTests := true, laidLooks := .later }
def FnExactNodeOkCardSaid : Prop := Claim7.holds Tryd.pinned (.plain (OpenSpec.ofChange fnExactNodeOkSpec)) fnExactNodeOkCard

/-- THE TIED CARD OF 'laws.FnExactParentOf'. -/
def fnExactParentOfCard : Claim7 := { stood := { row := fnExactParentOfRow, standIns := [], harness := (true, "df4b6fa463f3ae5465a7dc923b8b9ca372043e815497ff86df3af9dd18d94ec7"), looks := false }, kinds := [], alts := [], laidByText := true, laidKinds := [.data, .pinned], laidTests := true, laidLooks := .later }
def FnExactParentOfCardSaid : Prop := Claim7.holds Tryd.pinned (.plain (OpenSpec.ofChange fnExactParentOfSpec)) fnExactParentOfCard

/-- THE TIED CARD OF 'laws.FnPaths'. -/
def fnPathsCard : Claim7 := { stood := { row := fnPathsRow, standIns := [], harness := (true, "df4b6fa463f3ae5465a7dc923b8b9ca372043e815497ff86df3af9dd18d94ec7"), looks := false }, kinds := [], alts := [], laidByText := true, laidKinds := [.data, .pinned], laidTests := true, laidLooks := .later }
def FnPathsCardSaid : Prop := Claim7.holds Tryd.pinned (.plain (OpenSpec.ofChange fnPathsSpec)) fnPathsCard

/-- THE TIED CARD OF 'laws.FnExactTreeOk'. -/
def fnExactTreeOkCard : Claim7 := { stood := { row := fnExactTreeOkRow, standIns := [], harness := (true, "df4b6fa463f3ae5465a7dc923b8b9ca372043e815497ff86df3af9dd18d94ec7"), looks := false }, kinds := [], alts := [], laidByText := true, laidKinds := [.data, .pinned], laidTests := true, laidLooks := .later }
def FnExactTreeOkCardSaid : Prop := Claim7.holds Tryd.pinned (.plain (OpenSpec.ofChange fnExactTreeOkSpec)) fnExactTreeOkCard

/-- THE TIED CARD OF 'laws.FnExactFind'. -/
def fnExactFindCard : Claim7 := { stood := { row := fnExactFindRow, standIns := [], harness := (true, "df4b6fa463f3ae5465a7dc923b8b9ca372043e815497ff86df3af9dd18d94ec7"), looks := false }, kinds := [], alts := [], laidByText := true, laidKinds := [.data, .pinned], laidTests := true, laidLooks := .later }
def FnExactFindCardSaid : Prop := Claim7.holds Tryd.pinned (.plain (OpenSpec.ofChange fnExactFindSpec)) fnExactFindCard

/-- THE SECOND FORM's CARD OF 'laws.FnExactSameGroups'. -/
def fnExactSameGroupsUptoCard : Claim7 := { stood := { row := fnExactSameGroupsUptoRow, standIns := [], harness := (true, "df4b6fa463f3ae5465a7dc923b8b9ca372043e815497ff86df3af9dd18d94ec7"), looks := false }, kinds := [], alts := [], laidByText := true, laidKinds := [.data, .pinned], laidTests := true, laidLooks := .later }
def FnExactSameGroupsUptoCardSaid : Prop := Claim7.holds Tryd.pinned (.plain (OpenSpec.upto fnExactSameGroupsSpec)) fnExactSameGroupsUptoCard

/-- THE SECOND FORM's CARD OF 'laws.FnExactPathOk'. -/
def fnExactPathOkUptoCard : Claim7 := { stood := { row := fnExactPathOkUptoRow, standIns := [], harness := (true, "df4b6fa463f3ae5465a7dc923b8b9ca372043e815497ff86df3af9dd18d94ec7"), looks := false }, kinds := [], alts := [], laidByText := true, laidKinds := [.data, .pinned], laidTests := true, laidLooks := .later }
def FnExactPathOkUptoCardSaid : Prop := Claim7.holds Tryd.pinned (.plain (OpenSpec.upto fnExactPathOkSpec)) fnExactPathOkUptoCard

/-- THE SECOND FORM's CARD OF 'laws.FnExactDeepOf'. -/
def fnExactDeepOfUptoCard : Claim7 := { stood := { row := fnExactDeepOfUptoRow, standIns := [], harness := (true, "df4b6fa463f3ae5465a7dc923b8b9ca372043e815497ff86df3af9dd18d94ec7"), looks := false }, kinds := [], alts := [], laidByText := true, laidKinds := [.data, .pinned], laidTests := true, laidLooks := .later }
def FnExactDeepOfUptoCardSaid : Prop := Claim7.holds Tryd.pinned (.plain (OpenSpec.upto fnExactDeepOfSpec)) fnExactDeepOfUptoCard

/-- THE SECOND FORM's CARD OF 'laws.FnExactBaseOf'. -/
def fnExactBaseOfUptoCard : Claim7 := { stood := { row := fnExactBaseOfUptoRow, standIns := [], harness := (true, "df4b6fa463f3ae5465a7dc923b8b9ca372043e815497ff86df3af9dd18d94ec7"), looks := false }, kinds := [], alts := [], laidByText := true, laidKinds := [.data, .pinned], laidTests := true, laidLooks := .later }
def FnExactBaseOfUptoCardSaid : Prop := Claim7.holds Tryd.pinned (.plain (OpenSpec.upto fnExactBaseOfSpec)) fnExactBaseOfUptoCard

/-- THE SECOND FORM's CARD OF 'laws.FnExactJoinPath'. -/
def fnExactJoinPathUptoCard : Claim7 := { stood := { row := fnExactJoinPathUptoRow, standIns := [], harness := (true, "df4b6fa463f3ae5465a7dc923b8b9ca372043e815497ff86df3af9dd18d94ec7"), looks := false }, kinds := [], alts := [], laidByText := true, laidKinds := [.data, .pinned], laidTests := true, laidLooks := .later }
def FnExactJoinPathUptoCardSaid : Prop := Claim7.holds Tryd.pinned (.plain (OpenSpec.upto fnExactJoinPathSpec)) fnExactJoinPathUptoCard

/-- THE SECOND FORM's CARD OF 'laws.FnExactUnder'. -/
def fnExactUnderUptoCard : Claim7 := { stood := { row := fnExactUnderUptoRow, standIns := [], harness := (true, "df4b6fa463f3ae5465a7dc923b8b9ca372043e815497ff86df3af9dd18d94ec7"), looks := false }, kinds := [], alts := [], laidByText := true, laidKinds := [.data, .pinned], laidTests := true, laidLooks := .later }
def FnExactUnderUptoCardSaid : Prop := Claim7.holds Tryd.pinned (.plain (OpenSpec.upto fnExactUnderSpec)) fnExactUnderUptoCard

/-- THE SECOND FORM's CARD OF 'laws.FnExactNames'. -/
def fnExactNamesUptoCard : Claim7 := { stood := { row := fnExactNamesUptoRow, standIns := [], harness := (true, "df4b6fa463f3ae5465a7dc923b8b9ca372043e815497ff86df3af9dd18d94ec7"), looks := false }, kinds := [], alts := [], laidByText := true, laidKinds := [.data, .pinned], laidTests := true, laidLooks := .later }
def FnExactNamesUptoCardSaid : Prop := Claim7.holds Tryd.pinned (.plain (OpenSpec.upto fnExactNamesSpec)) fnExactNamesUptoCard

/-- THE SECOND FORM's CARD OF 'laws.FnExactNodeOk'. -/
def fnExactNodeOkUptoCard : Claim7 := { stood := { row := fnExactNodeOkUptoRow, standIns := [], harness := (true, "df4b6fa463f3ae5465a7dc923b8b9ca372043e815497ff86df3af9dd18d94ec7"), looks := false }, kinds := [], alts := [], laidByText := true, laidKinds := [.data, .pinned], laidTests := true, laidLooks := .later }
def FnExactNodeOkUptoCardSaid : Prop := Claim7.holds Tryd.pinned (.plain (OpenSpec.upto fnExactNodeOkSpec)) fnExactNodeOkUptoCard

/-- THE SECOND FORM's CARD OF 'laws.FnExactParentOf'. -/
def fnExactParentOfUptoCard : Claim7 := { stood := { row := fnExactParentOfUptoRow, standIns := [], harness := (true, "df4b6fa463f3ae5465a7dc923b8b9ca372043e815497ff86df3af9dd18d94ec7"), looks := false }, kinds := [], alts := [], laidByText := true, laidKinds := [.data, .pinned], laidTests := true, laidLooks := .later }
def FnExactParentOfUptoCardSaid : Prop := Claim7.holds Tryd.pinned (.plain (OpenSpec.upto fnExactParentOfSpec)) fnExactParentOfUptoCard

/-- THE SECOND FORM's CARD OF 'laws.FnPaths'. -/
def fnPathsUptoCard : Claim7 := { stood := { row := fnPathsUptoRow, standIns := [], harness := (true, "df4b6fa463f3ae5465a7dc923b8b9ca372043e815497ff86df3af9dd18d94ec7"), looks := false }, kinds := [], alts := [], laidByText := true, laidKinds := [.data, .pinned], laidTests := true, laidLooks := .later }
def FnPathsUptoCardSaid : Prop := Claim7.holds Tryd.pinned (.plain (OpenSpec.upto fnPathsSpec)) fnPathsUptoCard

/-- THE SECOND FORM's CARD OF 'laws.FnExactTreeOk'. -/
def fnExactTreeOkUptoCard : Claim7 := { stood := { row := fnExactTreeOkUptoRow, standIns := [], harness := (true, "df4b6fa463f3ae5465a7dc923b8b9ca372043e815497ff86df3af9dd18d94ec7"), looks := false }, kinds := [], alts := [], laidByText := true, laidKinds := [.data, .pinned], laidTests := true, laidLooks := .later }
def FnExactTreeOkUptoCardSaid : Prop := Claim7.holds Tryd.pinned (.plain (OpenSpec.upto fnExactTreeOkSpec)) fnExactTreeOkUptoCard

/-- THE SECOND FORM's CARD OF 'laws.FnExactFind'. -/
def fnExactFindUptoCard : Claim7 := { stood := { row := fnExactFindUptoRow, standIns := [], harness := (true, "df4b6fa463f3ae5465a7dc923b8b9ca372043e815497ff86df3af9dd18d94ec7"), looks := false }, kinds := [], alts := [], laidByText := true, laidKinds := [.data, .pinned], laidTests := true, laidLooks := .later }
def FnExactFindUptoCardSaid : Prop := Claim7.holds Tryd.pinned (.plain (OpenSpec.upto fnExactFindSpec)) fnExactFindUptoCard
end Rows
end Go.Proofs.YtnfihjebbhjgjaaDoor
