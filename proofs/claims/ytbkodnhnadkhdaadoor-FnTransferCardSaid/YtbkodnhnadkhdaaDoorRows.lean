/-
  NARROWER THAN 'FOR EVERY INPUT', by the rows' own cells (each row's printed sentence says how): FnExactMixStrong: laid · FnExactStrongOf: laid · FnExactSeedStrong: laid · FnExactShortSum: laid · FnExactSigOf: laid · FnExactBlockFits: laid · FnTransfer: laid · FnExactDeltaOf: laid · FnExactTransfer: laid.
  DERIVED. THE GIVEN ROWS OF THIS SEAT. 9 by the template 'for every input the law returns true; each argument reads behind the call as it read before'; 0 by the template 'total and deterministic' (their statements: YtbkodnhnadkhdaaDoorTotals.lean).
  GIVEN WITH THE SEED: the statements are not yours to turn. If you find one false, say at which input.
  Laid BY PROGRAM, IN A SANDBOX (cutbox-rows.mjs): the forced cells as the released guide's own fill.sh prints them over the translation 160389fe896c9bee… (all of the seat's roots in one cut). By AI agents, Wed Nov 11 2026. No macro, syntax, notation, axiom, sorry.
-/
import Derived.Test.YtbkodnhnadkhdaaDoorChecked
import GoSem.Claim
import GoSem.ClaimJoined
import GoSem.ClaimMapViews
import Derived.JoinedTies
import Derived.KernelRfl
namespace Go.Proofs.YtbkodnhnadkhdaaDoor
/- THE CELL 'sum', in the pinned program and in every row, IS THE sha256 OF THE DUMP (.gsa) THAT YtbkodnhnadkhdaaDoorProg.lean LOADS. Nothing in Lean hashes anything: it is a label: what it is worth is what the hold of that sum in a sandbox is worth. -/
noncomputable def Tryd.pinned : Pinned := { name := "ytbkodnhnadkhdaadoor", sum := "160389fe896c9bee8067e7bf09ae5ad439901102fad5711d5ded8e4dabee9024", checked := Tryd.checked }
namespace Rows
def none {H : Type} : Left H := { results := [], args := [] }

/- WHAT THE LISTED PACKAGE-LEVEL VARIABLES READ AS WHEN THE CALL BEGINS. Each datum BY PROGRAM (the guide's laid-datum.mjs) off the statement by which the dump's own 'gosem.cut.vars' lays the variable. In a bare row this is a premise. The card (YtbkodnhnadkhdaaDoorCards.lean) ties it to the program's text. -/
def laid_loop_example_g00100_impl_sines {H : Type} : DataW H := .agg [.lit (.int .u32 3614090360), .lit (.int .u32 3905402710), .lit (.int .u32 606105819), .lit (.int .u32 3250441966), .lit (.int .u32 4118548399), .lit (.int .u32 1200080426), .lit (.int .u32 2821735955), .lit (.int .u32 4249261313), .lit (.int .u32 1770035416), .lit (.int .u32 2336552879), .lit (.int .u32 4294925233), .lit (.int .u32 2304563134), .lit (.int .u32 1804603682), .lit (.int .u32 4254626195), .lit (.int .u32 2792965006), .lit (.int .u32 1236535329), .lit (.int .u32 4129170786), .lit (.int .u32 3225465664), .lit (.int .u32 643717713), .lit (.int .u32 3921069994), .lit (.int .u32 3593408605), .lit (.int .u32 38016083), .lit (.int .u32 3634488961), .lit (.int .u32 3889429448), .lit (.int .u32 568446438), .lit (.int .u32 3275163606), .lit (.int .u32 4107603335), .lit (.int .u32 1163531501), .lit (.int .u32 2850285829), .lit (.int .u32 4243563512), .lit (.int .u32 1735328473), .lit (.int .u32 2368359562), .lit (.int .u32 4294588738), .lit (.int .u32 2272392833), .lit (.int .u32 1839030562), .lit (.int .u32 4259657740), .lit (.int .u32 2763975236), .lit (.int .u32 1272893353), .lit (.int .u32 4139469664), .lit (.int .u32 3200236656), .lit (.int .u32 681279174), .lit (.int .u32 3936430074), .lit (.int .u32 3572445317), .lit (.int .u32 76029189), .lit (.int .u32 3654602809), .lit (.int .u32 3873151461), .lit (.int .u32 530742520), .lit (.int .u32 3299628645), .lit (.int .u32 4096336452), .lit (.int .u32 1126891415), .lit (.int .u32 2878612391), .lit (.int .u32 4237533241), .lit (.int .u32 1700485571), .lit (.int .u32 2399980690), .lit (.int .u32 4293915773), .lit (.int .u32 2240044497), .lit (.int .u32 1873313359), .lit (.int .u32 4264355552), .lit (.int .u32 2734768916), .lit (.int .u32 1309151649), .lit (.int .u32 4149444226), .lit (.int .u32 3174756917), .lit (.int .u32 718787259), .lit (.int .u32 3951481745)]
def laid_loop_example_g00100_impl_turns {H : Type} : DataW H := .agg [.agg [.lit (.int .i64 7), .lit (.int .i64 12), .lit (.int .i64 17), .lit (.int .i64 22)], .agg [.lit (.int .i64 5), .lit (.int .i64 9), .lit (.int .i64 14), .lit (.int .i64 20)], .agg [.lit (.int .i64 4), .lit (.int .i64 11), .lit (.int .i64 16), .lit (.int .i64 23)], .agg [.lit (.int .i64 6), .lit (.int .i64 10), .lit (.int .i64 15), .lit (.int .i64 21)]]

/-- 'laws.FnExactMixStrong': WHATEVER THE INPUT: true; the input reads as it did. -/
def fnExactMixStrongSpec : ChangeSpec := { name := "fnExactMixStrong", vars := ["loop.example/g00100/impl.sines", "loop.example/g00100/impl.turns"], fn := fun _ => fun
  | [d1, d2, g1, g2] => { results := [.lit (.bool true)], args := [d1, d2], vars := [g1, g2] }
  | _ => none }
def fnExactMixStrongRow : OpenClaim := { program := "ytbkodnhnadkhdaadoor", sum := "160389fe896c9bee8067e7bf09ae5ad439901102fad5711d5ded8e4dabee9024", func := "loop.example/g00100/laws.FnExactMixStrong", spec := "fnExactMixStrong", named := ["loop.example/g00100/impl.sines", "loop.example/g00100/impl.turns"], apart := false, laid := [("loop.example/g00100/impl.sines", laid_loop_example_g00100_impl_sines), ("loop.example/g00100/impl.turns", laid_loop_example_g00100_impl_turns)] }
def FnExactMixStrongSaid : Prop := fnExactMixStrongRow.holds Tryd.pinned (OpenSpec.ofChange fnExactMixStrongSpec)

/-- ITS FALSE NEIGHBOUR: 'it returns false'. Refute it at one input. -/
def fnExactMixStrongWrong : ChangeSpec := { name := "fnExactMixStrong", vars := ["loop.example/g00100/impl.sines", "loop.example/g00100/impl.turns"], fn := fun _ => fun
  | [d1, d2, g1, g2] => { results := [.lit (.bool false)], args := [d1, d2], vars := [g1, g2] }
  | _ => none }
def FnExactMixStrongWrongFalsely : Prop := fnExactMixStrongRow.holds Tryd.pinned (OpenSpec.ofChange fnExactMixStrongWrong)

/-- 'laws.FnExactStrongOf': WHATEVER THE INPUT: true; the input reads as it did. -/
def fnExactStrongOfSpec : ChangeSpec := { name := "fnExactStrongOf", vars := ["loop.example/g00100/impl.sines", "loop.example/g00100/impl.turns"], fn := fun _ => fun
  | [d, g1, g2] => { results := [.lit (.bool true)], args := [d], vars := [g1, g2] }
  | _ => none }
def fnExactStrongOfRow : OpenClaim := { program := "ytbkodnhnadkhdaadoor", sum := "160389fe896c9bee8067e7bf09ae5ad439901102fad5711d5ded8e4dabee9024", func := "loop.example/g00100/laws.FnExactStrongOf", spec := "fnExactStrongOf", named := ["loop.example/g00100/impl.sines", "loop.example/g00100/impl.turns"], apart := false, laid := [("loop.example/g00100/impl.sines", laid_loop_example_g00100_impl_sines), ("loop.example/g00100/impl.turns", laid_loop_example_g00100_impl_turns)] }
def FnExactStrongOfSaid : Prop := fnExactStrongOfRow.holds Tryd.pinned (OpenSpec.ofChange fnExactStrongOfSpec)

/-- ITS FALSE NEIGHBOUR: 'it returns false'. Refute it at one input. -/
def fnExactStrongOfWrong : ChangeSpec := { name := "fnExactStrongOf", vars := ["loop.example/g00100/impl.sines", "loop.example/g00100/impl.turns"], fn := fun _ => fun
  | [d, g1, g2] => { results := [.lit (.bool false)], args := [d], vars := [g1, g2] }
  | _ => none }
def FnExactStrongOfWrongFalsely : Prop := fnExactStrongOfRow.holds Tryd.pinned (OpenSpec.ofChange fnExactStrongOfWrong)

/-- 'laws.FnExactSeedStrong': WHATEVER THE INPUT: true; the input reads as it did. -/
def fnExactSeedStrongSpec : ChangeSpec := { name := "fnExactSeedStrong", vars := ["loop.example/g00100/impl.sines", "loop.example/g00100/impl.turns"], fn := fun _ => fun
  | [d1, d2, g1, g2] => { results := [.lit (.bool true)], args := [d1, d2], vars := [g1, g2] }
  | _ => none }
def fnExactSeedStrongRow : OpenClaim := { program := "ytbkodnhnadkhdaadoor", sum := "160389fe896c9bee8067e7bf09ae5ad439901102fad5711d5ded8e4dabee9024", func := "loop.example/g00100/laws.FnExactSeedStrong", spec := "fnExactSeedStrong", named := ["loop.example/g00100/impl.sines", "loop.example/g00100/impl.turns"], apart := false, laid := [("loop.example/g00100/impl.sines", laid_loop_example_g00100_impl_sines), ("loop.example/g00100/impl.turns", laid_loop_example_g00100_impl_turns)] }
def FnExactSeedStrongSaid : Prop := fnExactSeedStrongRow.holds Tryd.pinned (OpenSpec.ofChange fnExactSeedStrongSpec)

/-- ITS FALSE NEIGHBOUR: 'it returns false'. Refute it at one input. -/
def fnExactSeedStrongWrong : ChangeSpec := { name := "fnExactSeedStrong", vars := ["loop.example/g00100/impl.sines", "loop.example/g00100/impl.turns"], fn := fun _ => fun
  | [d1, d2, g1, g2] => { results := [.lit (.bool false)], args := [d1, d2], vars := [g1, g2] }
  | _ => none }
def FnExactSeedStrongWrongFalsely : Prop := fnExactSeedStrongRow.holds Tryd.pinned (OpenSpec.ofChange fnExactSeedStrongWrong)

/-- 'laws.FnExactShortSum': WHATEVER THE INPUT: true; the input reads as it did. -/
def fnExactShortSumSpec : ChangeSpec := { name := "fnExactShortSum", vars := ["loop.example/g00100/impl.sines", "loop.example/g00100/impl.turns"], fn := fun _ => fun
  | [d1, d2, d3, g1, g2] => { results := [.lit (.bool true)], args := [d1, d2, d3], vars := [g1, g2] }
  | _ => none }
def fnExactShortSumRow : OpenClaim := { program := "ytbkodnhnadkhdaadoor", sum := "160389fe896c9bee8067e7bf09ae5ad439901102fad5711d5ded8e4dabee9024", func := "loop.example/g00100/laws.FnExactShortSum", spec := "fnExactShortSum", named := ["loop.example/g00100/impl.sines", "loop.example/g00100/impl.turns"], apart := false, laid := [("loop.example/g00100/impl.sines", laid_loop_example_g00100_impl_sines), ("loop.example/g00100/impl.turns", laid_loop_example_g00100_impl_turns)] }
def FnExactShortSumSaid : Prop := fnExactShortSumRow.holds Tryd.pinned (OpenSpec.ofChange fnExactShortSumSpec)

/-- ITS FALSE NEIGHBOUR: 'it returns false'. Refute it at one input. -/
def fnExactShortSumWrong : ChangeSpec := { name := "fnExactShortSum", vars := ["loop.example/g00100/impl.sines", "loop.example/g00100/impl.turns"], fn := fun _ => fun
  | [d1, d2, d3, g1, g2] => { results := [.lit (.bool false)], args := [d1, d2, d3], vars := [g1, g2] }
  | _ => none }
def FnExactShortSumWrongFalsely : Prop := fnExactShortSumRow.holds Tryd.pinned (OpenSpec.ofChange fnExactShortSumWrong)

/-- 'laws.FnExactSigOf': WHATEVER THE INPUT: true; the input reads as it did. -/
def fnExactSigOfSpec : ChangeSpec := { name := "fnExactSigOf", vars := ["loop.example/g00100/impl.sines", "loop.example/g00100/impl.turns"], fn := fun _ => fun
  | [d1, d2, d3, g1, g2] => { results := [.lit (.bool true)], args := [d1, d2, d3], vars := [g1, g2] }
  | _ => none }
def fnExactSigOfRow : OpenClaim := { program := "ytbkodnhnadkhdaadoor", sum := "160389fe896c9bee8067e7bf09ae5ad439901102fad5711d5ded8e4dabee9024", func := "loop.example/g00100/laws.FnExactSigOf", spec := "fnExactSigOf", named := ["loop.example/g00100/impl.sines", "loop.example/g00100/impl.turns"], apart := false, laid := [("loop.example/g00100/impl.sines", laid_loop_example_g00100_impl_sines), ("loop.example/g00100/impl.turns", laid_loop_example_g00100_impl_turns)] }
def FnExactSigOfSaid : Prop := fnExactSigOfRow.holds Tryd.pinned (OpenSpec.ofChange fnExactSigOfSpec)

/-- ITS FALSE NEIGHBOUR: 'it returns false'. Refute it at one input. -/
def fnExactSigOfWrong : ChangeSpec := { name := "fnExactSigOf", vars := ["loop.example/g00100/impl.sines", "loop.example/g00100/impl.turns"], fn := fun _ => fun
  | [d1, d2, d3, g1, g2] => { results := [.lit (.bool false)], args := [d1, d2, d3], vars := [g1, g2] }
  | _ => none }
def FnExactSigOfWrongFalsely : Prop := fnExactSigOfRow.holds Tryd.pinned (OpenSpec.ofChange fnExactSigOfWrong)

/-- 'laws.FnExactBlockFits': WHATEVER THE INPUT: true; the input reads as it did. -/
def fnExactBlockFitsSpec : ChangeSpec := { name := "fnExactBlockFits", vars := ["loop.example/g00100/impl.sines", "loop.example/g00100/impl.turns"], fn := fun _ => fun
  | [d1, d2, d3, d4, g1, g2] => { results := [.lit (.bool true)], args := [d1, d2, d3, d4], vars := [g1, g2] }
  | _ => none }
def fnExactBlockFitsRow : OpenClaim := { program := "ytbkodnhnadkhdaadoor", sum := "160389fe896c9bee8067e7bf09ae5ad439901102fad5711d5ded8e4dabee9024", func := "loop.example/g00100/laws.FnExactBlockFits", spec := "fnExactBlockFits", unfollowed := true, recurses := true, named := ["loop.example/g00100/impl.sines", "loop.example/g00100/impl.turns"], apart := false, laid := [("loop.example/g00100/impl.sines", laid_loop_example_g00100_impl_sines), ("loop.example/g00100/impl.turns", laid_loop_example_g00100_impl_turns)] }
def FnExactBlockFitsSaid : Prop := fnExactBlockFitsRow.holds Tryd.pinned (OpenSpec.ofChange fnExactBlockFitsSpec)

/-- ITS FALSE NEIGHBOUR: 'it returns false'. Refute it at one input. -/
def fnExactBlockFitsWrong : ChangeSpec := { name := "fnExactBlockFits", vars := ["loop.example/g00100/impl.sines", "loop.example/g00100/impl.turns"], fn := fun _ => fun
  | [d1, d2, d3, d4, g1, g2] => { results := [.lit (.bool false)], args := [d1, d2, d3, d4], vars := [g1, g2] }
  | _ => none }
def FnExactBlockFitsWrongFalsely : Prop := fnExactBlockFitsRow.holds Tryd.pinned (OpenSpec.ofChange fnExactBlockFitsWrong)

/-- 'laws.FnTransfer': WHATEVER THE INPUT: true; the input reads as it did. -/
def fnTransferSpec : ChangeSpec := { name := "fnTransfer", vars := ["loop.example/g00100/impl.sines", "loop.example/g00100/impl.turns"], fn := fun _ => fun
  | [d, g1, g2] => { results := [.lit (.bool true)], args := [d], vars := [g1, g2] }
  | _ => none }
def fnTransferRow : OpenClaim := { program := "ytbkodnhnadkhdaadoor", sum := "160389fe896c9bee8067e7bf09ae5ad439901102fad5711d5ded8e4dabee9024", func := "loop.example/g00100/laws.FnTransfer", spec := "fnTransfer", unfollowed := true, recurses := true, named := ["loop.example/g00100/impl.sines", "loop.example/g00100/impl.turns"], apart := false, laid := [("loop.example/g00100/impl.sines", laid_loop_example_g00100_impl_sines), ("loop.example/g00100/impl.turns", laid_loop_example_g00100_impl_turns)] }
def FnTransferSaid : Prop := fnTransferRow.holds Tryd.pinned (OpenSpec.ofChange fnTransferSpec)

/-- ITS FALSE NEIGHBOUR: 'it returns false'. Refute it at one input. -/
def fnTransferWrong : ChangeSpec := { name := "fnTransfer", vars := ["loop.example/g00100/impl.sines", "loop.example/g00100/impl.turns"], fn := fun _ => fun
  | [d, g1, g2] => { results := [.lit (.bool false)], args := [d], vars := [g1, g2] }
  | _ => none }
def FnTransferWrongFalsely : Prop := fnTransferRow.holds Tryd.pinned (OpenSpec.ofChange fnTransferWrong)

/-- 'laws.FnExactDeltaOf': WHATEVER THE INPUT: true; the input reads as it did. -/
def fnExactDeltaOfSpec : ChangeSpec := { name := "fnExactDeltaOf", vars := ["loop.example/g00100/impl.sines", "loop.example/g00100/impl.turns"], fn := fun _ => fun
  | [d1, d2, d3, g1, g2] => { results := [.lit (.bool true)], args := [d1, d2, d3], vars := [g1, g2] }
  | _ => none }
def fnExactDeltaOfRow : OpenClaim := { program := "ytbkodnhnadkhdaadoor", sum := "160389fe896c9bee8067e7bf09ae5ad439901102fad5711d5ded8e4dabee9024", func := "loop.example/g00100/laws.FnExactDeltaOf", spec := "fnExactDeltaOf", unfollowed := true, recurses := true, named := ["loop.example/g00100/impl.sines", "loop.example/g00100/impl.turns"], apart := false, laid := [("loop.example/g00100/impl.sines", laid_loop_example_g00100_impl_sines), ("loop.example/g00100/impl.turns", laid_loop_example_g00100_impl_turns)] }
def FnExactDeltaOfSaid : Prop := fnExactDeltaOfRow.holds Tryd.pinned (OpenSpec.ofChange fnExactDeltaOfSpec)

/-- ITS FALSE NEIGHBOUR: 'it returns false'. Refute it at one input. -/
def fnExactDeltaOfWrong : ChangeSpec := { name := "fnExactDeltaOf", vars := ["loop.example/g00100/impl.sines", "loop.example/g00100/impl.turns"], fn := fun _ => fun
  | [d1, d2, d3, g1, g2] => { results := [.lit (.bool false)], args := [d1, d2, d3], vars := [g1, g2] }
  | _ => none }
def FnExactDeltaOfWrongFalsely : Prop := fnExactDeltaOfRow.holds Tryd.pinned (OpenSpec.ofChange fnExactDeltaOfWrong)

/-- 'laws.FnExactTransfer': WHATEVER THE INPUT: true; the input reads as it did. -/
def fnExactTransferSpec : ChangeSpec := { name := "fnExactTransfer", vars := ["loop.example/g00100/impl.sines", "loop.example/g00100/impl.turns"], fn := fun _ => fun
  | [d1, d2, d3, g1, g2] => { results := [.lit (.bool true)], args := [d1, d2, d3], vars := [g1, g2] }
  | _ => none }
def fnExactTransferRow : OpenClaim := { program := "ytbkodnhnadkhdaadoor", sum := "160389fe896c9bee8067e7bf09ae5ad439901102fad5711d5ded8e4dabee9024", func := "loop.example/g00100/laws.FnExactTransfer", spec := "fnExactTransfer", named := ["loop.example/g00100/impl.sines", "loop.example/g00100/impl.turns"], apart := false, laid := [("loop.example/g00100/impl.sines", laid_loop_example_g00100_impl_sines), ("loop.example/g00100/impl.turns", laid_loop_example_g00100_impl_turns)] }
def FnExactTransferSaid : Prop := fnExactTransferRow.holds Tryd.pinned (OpenSpec.ofChange fnExactTransferSpec)

/-- ITS FALSE NEIGHBOUR: 'it returns false'. Refute it at one input. -/
def fnExactTransferWrong : ChangeSpec := { name := "fnExactTransfer", vars := ["loop.example/g00100/impl.sines", "loop.example/g00100/impl.turns"], fn := fun _ => fun
  | [d1, d2, d3, g1, g2] => { results := [.lit (.bool false)], args := [d1, d2, d3], vars := [g1, g2] }
  | _ => none }
def FnExactTransferWrongFalsely : Prop := fnExactTransferRow.holds Tryd.pinned (OpenSpec.ofChange fnExactTransferWrong)

/- THE SECOND FORM. 'bulk': how many values and letters a reading holds, each counted each time it is reached (what is shared counts as often as it is met; a slice's spare places count too). A statement '..UptoSaid' is the law's where the arguments, and the package variables that the reading takes, are together of bulk at most 1048576: NARROWER than '..Said'. Prove '..Said' where nothing that the law and all that it calls make is longer than what came in: it says more and counts as full. Else prove '..UptoSaid'. A law counts once. -/
mutual
def uptoBulk {H : Type} : DataW H → Nat
  | .lit (.string bytes) => bytes.length + 1
  | .lit _ => 1
  | .nil => 1
  | .ptr d => uptoBulk d + 1
  | .slice elems spare => uptoBulkAll elems + uptoBulkAll spare + 1
  | .agg parts => uptoBulkAll parts + 1
  | .iface _ d => uptoBulk d + 1
  | .map entries => uptoBulkEntries entries + 1
  | .held _ => 1
def uptoBulkAll {H : Type} : List (DataW H) → Nat
  | [] => 0
  | d :: r => uptoBulk d + uptoBulkAll r
def uptoBulkEntries {H : Type} : List (Lit × DataW H) → Nat
  | [] => 0
  | x :: r => uptoBulkEntry x + uptoBulkEntries r
def uptoBulkEntry {H : Type} : Lit × DataW H → Nat
  | (.string bytes, d) => bytes.length + uptoBulk d + 1
  | (_, d) => uptoBulk d + 1
 end
def uptoSmall : (H : Type) → List (DataW H) → Bool := fun _ ds => decide (uptoBulkAll ds ≤ 1048576)
def OpenSpec.upto (s : _root_.Go.ChangeSpec) : _root_.Go.OpenSpec := { _root_.Go.OpenSpec.ofChange s with cond := some uptoSmall }

/-- 'laws.FnExactMixStrong', WHERE WHAT IT READS IS OF BULK AT MOST 1048576: true; the input reads as it did. -/
def fnExactMixStrongUptoRow : OpenClaim := { program := "ytbkodnhnadkhdaadoor", sum := "160389fe896c9bee8067e7bf09ae5ad439901102fad5711d5ded8e4dabee9024", func := "loop.example/g00100/laws.FnExactMixStrong", spec := "fnExactMixStrong", named := ["loop.example/g00100/impl.sines", "loop.example/g00100/impl.turns"], apart := false, laid := [("loop.example/g00100/impl.sines", laid_loop_example_g00100_impl_sines), ("loop.example/g00100/impl.turns", laid_loop_example_g00100_impl_turns)], narrowed := true }
def FnExactMixStrongUptoSaid : Prop := fnExactMixStrongUptoRow.holds Tryd.pinned (OpenSpec.upto fnExactMixStrongSpec)

/-- 'laws.FnExactStrongOf', WHERE WHAT IT READS IS OF BULK AT MOST 1048576: true; the input reads as it did. -/
def fnExactStrongOfUptoRow : OpenClaim := { program := "ytbkodnhnadkhdaadoor", sum := "160389fe896c9bee8067e7bf09ae5ad439901102fad5711d5ded8e4dabee9024", func := "loop.example/g00100/laws.FnExactStrongOf", spec := "fnExactStrongOf", named := ["loop.example/g00100/impl.sines", "loop.example/g00100/impl.turns"], apart := false, laid := [("loop.example/g00100/impl.sines", laid_loop_example_g00100_impl_sines), ("loop.example/g00100/impl.turns", laid_loop_example_g00100_impl_turns)], narrowed := true }
def FnExactStrongOfUptoSaid : Prop := fnExactStrongOfUptoRow.holds Tryd.pinned (OpenSpec.upto fnExactStrongOfSpec)

/-- 'laws.FnExactSeedStrong', WHERE WHAT IT READS IS OF BULK AT MOST 1048576: true; the input reads as it did. -/
def fnExactSeedStrongUptoRow : OpenClaim := { program := "ytbkodnhnadkhdaadoor", sum := "160389fe896c9bee8067e7bf09ae5ad439901102fad5711d5ded8e4dabee9024", func := "loop.example/g00100/laws.FnExactSeedStrong", spec := "fnExactSeedStrong", named := ["loop.example/g00100/impl.sines", "loop.example/g00100/impl.turns"], apart := false, laid := [("loop.example/g00100/impl.sines", laid_loop_example_g00100_impl_sines), ("loop.example/g00100/impl.turns", laid_loop_example_g00100_impl_turns)], narrowed := true }
def FnExactSeedStrongUptoSaid : Prop := fnExactSeedStrongUptoRow.holds Tryd.pinned (OpenSpec.upto fnExactSeedStrongSpec)

/-- 'laws.FnExactShortSum', WHERE WHAT IT READS IS OF BULK AT MOST 1048576: true; the input reads as it did. -/
def fnExactShortSumUptoRow : OpenClaim := { program := "ytbkodnhnadkhdaadoor", sum := "160389fe896c9bee8067e7bf09ae5ad439901102fad5711d5ded8e4dabee9024", func := "loop.example/g00100/laws.FnExactShortSum", spec := "fnExactShortSum", named := ["loop.example/g00100/impl.sines", "loop.example/g00100/impl.turns"], apart := false, laid := [("loop.example/g00100/impl.sines", laid_loop_example_g00100_impl_sines), ("loop.example/g00100/impl.turns", laid_loop_example_g00100_impl_turns)], narrowed := true }
def FnExactShortSumUptoSaid : Prop := fnExactShortSumUptoRow.holds Tryd.pinned (OpenSpec.upto fnExactShortSumSpec)

/-- 'laws.FnExactSigOf', WHERE WHAT IT READS IS OF BULK AT MOST 1048576: true; the input reads as it did. -/
def fnExactSigOfUptoRow : OpenClaim := { program := "ytbkodnhnadkhdaadoor", sum := "160389fe896c9bee8067e7bf09ae5ad439901102fad5711d5ded8e4dabee9024", func := "loop.example/g00100/laws.FnExactSigOf", spec := "fnExactSigOf", named := ["loop.example/g00100/impl.sines", "loop.example/g00100/impl.turns"], apart := false, laid := [("loop.example/g00100/impl.sines", laid_loop_example_g00100_impl_sines), ("loop.example/g00100/impl.turns", laid_loop_example_g00100_impl_turns)], narrowed := true }
def FnExactSigOfUptoSaid : Prop := fnExactSigOfUptoRow.holds Tryd.pinned (OpenSpec.upto fnExactSigOfSpec)

/-- 'laws.FnExactBlockFits', WHERE WHAT IT READS IS OF BULK AT MOST 1048576: true; the input reads as it did. -/
def fnExactBlockFitsUptoRow : OpenClaim := { program := "ytbkodnhnadkhdaadoor", sum := "160389fe896c9bee8067e7bf09ae5ad439901102fad5711d5ded8e4dabee9024", func := "loop.example/g00100/laws.FnExactBlockFits", spec := "fnExactBlockFits", unfollowed := true, recurses := true, named := ["loop.example/g00100/impl.sines", "loop.example/g00100/impl.turns"], apart := false, laid := [("loop.example/g00100/impl.sines", laid_loop_example_g00100_impl_sines), ("loop.example/g00100/impl.turns", laid_loop_example_g00100_impl_turns)], narrowed := true }
def FnExactBlockFitsUptoSaid : Prop := fnExactBlockFitsUptoRow.holds Tryd.pinned (OpenSpec.upto fnExactBlockFitsSpec)

/-- 'laws.FnTransfer', WHERE WHAT IT READS IS OF BULK AT MOST 1048576: true; the input reads as it did. -/
def fnTransferUptoRow : OpenClaim := { program := "ytbkodnhnadkhdaadoor", sum := "160389fe896c9bee8067e7bf09ae5ad439901102fad5711d5ded8e4dabee9024", func := "loop.example/g00100/laws.FnTransfer", spec := "fnTransfer", unfollowed := true, recurses := true, named := ["loop.example/g00100/impl.sines", "loop.example/g00100/impl.turns"], apart := false, laid := [("loop.example/g00100/impl.sines", laid_loop_example_g00100_impl_sines), ("loop.example/g00100/impl.turns", laid_loop_example_g00100_impl_turns)], narrowed := true }
def FnTransferUptoSaid : Prop := fnTransferUptoRow.holds Tryd.pinned (OpenSpec.upto fnTransferSpec)

/-- 'laws.FnExactDeltaOf', WHERE WHAT IT READS IS OF BULK AT MOST 1048576: true; the input reads as it did. -/
def fnExactDeltaOfUptoRow : OpenClaim := { program := "ytbkodnhnadkhdaadoor", sum := "160389fe896c9bee8067e7bf09ae5ad439901102fad5711d5ded8e4dabee9024", func := "loop.example/g00100/laws.FnExactDeltaOf", spec := "fnExactDeltaOf", unfollowed := true, recurses := true, named := ["loop.example/g00100/impl.sines", "loop.example/g00100/impl.turns"], apart := false, laid := [("loop.example/g00100/impl.sines", laid_loop_example_g00100_impl_sines), ("loop.example/g00100/impl.turns", laid_loop_example_g00100_impl_turns)], narrowed := true }
def FnExactDeltaOfUptoSaid : Prop := fnExactDeltaOfUptoRow.holds Tryd.pinned (OpenSpec.upto fnExactDeltaOfSpec)

/-- 'laws.FnExactTransfer', WHERE WHAT IT READS IS OF BULK AT MOST 1048576: true; the input reads as it did. -/
def fnExactTransferUptoRow : OpenClaim := { program := "ytbkodnhnadkhdaadoor", sum := "160389fe896c9bee8067e7bf09ae5ad439901102fad5711d5ded8e4dabee9024", func := "loop.example/g00100/laws.FnExactTransfer", spec := "fnExactTransfer", named := ["loop.example/g00100/impl.sines", "loop.example/g00100/impl.turns"], apart := false, laid := [("loop.example/g00100/impl.sines", laid_loop_example_g00100_impl_sines), ("loop.example/g00100/impl.turns", laid_loop_example_g00100_impl_turns)], narrowed := true }
def FnExactTransferUptoSaid : Prop := fnExactTransferUptoRow.holds Tryd.pinned (OpenSpec.upto fnExactTransferSpec)

end Rows
end Go.Proofs.YtbkodnhnadkhdaaDoor
