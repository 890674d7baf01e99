/-
  No cell of these rows narrows 'for every input' (looked for: loops, veiled, ifaces, maps, wideKeys, modest, calm, conditions, laid).
  DERIVED. THE GIVEN ROWS OF THIS SEAT. 12 by the template 'for every input the law returns true; each argument reads behind the call as it read before'; 0 by the template 'total and deterministic' (their statements: YtadcjkendddgdaaTotals.lean).
  GIVEN WITH THE SEED: the statements are not yours to turn. If you find one false, say at which input.
  Laid BY PROGRAM, IN A SANDBOX (cutbox-rows.mjs): the forced cells as the released guide's own fill.sh prints them over the translation 3d7e3292049096fe… (all of the seat's roots in one cut). By AI agents, Wed Nov 11 2026. No macro, syntax, notation, axiom, sorry.
-/
import Derived.Test.YtadcjkendddgdaaChecked
import GoSem.Claim
import GoSem.ClaimJoined
import GoSem.ClaimMapViews
import Derived.JoinedTies
import Derived.KernelRfl
namespace Go.Proofs.Ytadcjkendddgdaa
/- THE CELL 'sum', in the pinned program and in every row, IS THE sha256 OF THE DUMP (.gsa) THAT YtadcjkendddgdaaProg.lean LOADS. Nothing in Lean hashes anything: it is a label: what it is worth is what the hold of that sum in a sandbox is worth. -/
noncomputable def Try.pinned : Pinned := { name := "ytadcjkendddgdaa", sum := "3d7e3292049096fe36fe0da6bba9f80ae8b2a9d2f57c50608d40088aa1a609e3", checked := Try.checked }
namespace Rows
def none {H : Type} : Left H := { results := [], args := [] }

/-- 'laws.FnExactConstants': WHATEVER THE INPUT: true; the input reads as it did. -/
def fnExactConstantsSpec : ChangeSpec := { name := "fnExactConstants", fn := fun _ => fun
  | [] => { results := [.lit (.bool true)], args := [] }
  | _ => none }
def fnExactConstantsRow : OpenClaim := { program := "ytadcjkendddgdaa", sum := "3d7e3292049096fe36fe0da6bba9f80ae8b2a9d2f57c50608d40088aa1a609e3", func := "loop.example/g00100/laws.FnExactConstants", spec := "fnExactConstants", apart := false }
def FnExactConstantsSaid : Prop := fnExactConstantsRow.holds Try.pinned (OpenSpec.ofChange fnExactConstantsSpec)

/-- ITS FALSE NEIGHBOUR: 'it returns false'. Refute it at one input. -/
def fnExactConstantsWrong : ChangeSpec := { name := "fnExactConstants", fn := fun _ => fun
  | [] => { results := [.lit (.bool false)], args := [] }
  | _ => none }
def FnExactConstantsWrongFalsely : Prop := fnExactConstantsRow.holds Try.pinned (OpenSpec.ofChange fnExactConstantsWrong)

/-- 'laws.FnExactBlockSize': WHATEVER THE INPUT: true; the input reads as it did. -/
def fnExactBlockSizeSpec : ChangeSpec := { name := "fnExactBlockSize", fn := fun _ => fun
  | [d] => { results := [.lit (.bool true)], args := [d] }
  | _ => none }
def fnExactBlockSizeRow : OpenClaim := { program := "ytadcjkendddgdaa", sum := "3d7e3292049096fe36fe0da6bba9f80ae8b2a9d2f57c50608d40088aa1a609e3", func := "loop.example/g00100/laws.FnExactBlockSize", spec := "fnExactBlockSize", apart := false }
def FnExactBlockSizeSaid : Prop := fnExactBlockSizeRow.holds Try.pinned (OpenSpec.ofChange fnExactBlockSizeSpec)

/-- ITS FALSE NEIGHBOUR: 'it returns false'. Refute it at one input. -/
def fnExactBlockSizeWrong : ChangeSpec := { name := "fnExactBlockSize", fn := fun _ => fun
  | [d] => { results := [.lit (.bool false)], args := [d] }
  | _ => none }
def FnExactBlockSizeWrongFalsely : Prop := fnExactBlockSizeRow.holds Try.pinned (OpenSpec.ofChange fnExactBlockSizeWrong)

/-- 'laws.FnExactWeakJoin': WHATEVER THE INPUT: true; the input reads as it did. -/
def fnExactWeakJoinSpec : ChangeSpec := { name := "fnExactWeakJoin", fn := fun _ => fun
  | [d1, d2, d3] => { results := [.lit (.bool true)], args := [d1, d2, d3] }
  | _ => none }
def fnExactWeakJoinRow : OpenClaim := { program := "ytadcjkendddgdaa", sum := "3d7e3292049096fe36fe0da6bba9f80ae8b2a9d2f57c50608d40088aa1a609e3", func := "loop.example/g00100/laws.FnExactWeakJoin", spec := "fnExactWeakJoin", apart := false }
def FnExactWeakJoinSaid : Prop := fnExactWeakJoinRow.holds Try.pinned (OpenSpec.ofChange fnExactWeakJoinSpec)

/-- ITS FALSE NEIGHBOUR: 'it returns false'. Refute it at one input. -/
def fnExactWeakJoinWrong : ChangeSpec := { name := "fnExactWeakJoin", fn := fun _ => fun
  | [d1, d2, d3] => { results := [.lit (.bool false)], args := [d1, d2, d3] }
  | _ => none }
def FnExactWeakJoinWrongFalsely : Prop := fnExactWeakJoinRow.holds Try.pinned (OpenSpec.ofChange fnExactWeakJoinWrong)

/-- 'laws.FnExactNameOk': WHATEVER THE INPUT: true; the input reads as it did. -/
def fnExactNameOkSpec : ChangeSpec := { name := "fnExactNameOk", fn := fun _ => fun
  | [d] => { results := [.lit (.bool true)], args := [d] }
  | _ => none }
def fnExactNameOkRow : OpenClaim := { program := "ytadcjkendddgdaa", sum := "3d7e3292049096fe36fe0da6bba9f80ae8b2a9d2f57c50608d40088aa1a609e3", func := "loop.example/g00100/laws.FnExactNameOk", spec := "fnExactNameOk", apart := false }
def FnExactNameOkSaid : Prop := fnExactNameOkRow.holds Try.pinned (OpenSpec.ofChange fnExactNameOkSpec)

/-- ITS FALSE NEIGHBOUR: 'it returns false'. Refute it at one input. -/
def fnExactNameOkWrong : ChangeSpec := { name := "fnExactNameOk", fn := fun _ => fun
  | [d] => { results := [.lit (.bool false)], args := [d] }
  | _ => none }
def FnExactNameOkWrongFalsely : Prop := fnExactNameOkRow.holds Try.pinned (OpenSpec.ofChange fnExactNameOkWrong)

/-- 'laws.FnExactWeakRoll': WHATEVER THE INPUT: true; the input reads as it did. -/
def fnExactWeakRollSpec : ChangeSpec := { name := "fnExactWeakRoll", fn := fun _ => fun
  | [d1, d2, d3, d4] => { results := [.lit (.bool true)], args := [d1, d2, d3, d4] }
  | _ => none }
def fnExactWeakRollRow : OpenClaim := { program := "ytadcjkendddgdaa", sum := "3d7e3292049096fe36fe0da6bba9f80ae8b2a9d2f57c50608d40088aa1a609e3", func := "loop.example/g00100/laws.FnExactWeakRoll", spec := "fnExactWeakRoll", apart := false }
def FnExactWeakRollSaid : Prop := fnExactWeakRollRow.holds Try.pinned (OpenSpec.ofChange fnExactWeakRollSpec)

/-- ITS FALSE NEIGHBOUR: 'it returns false'. Refute it at one input. -/
def fnExactWeakRollWrong : ChangeSpec := { name := "fnExactWeakRoll", fn := fun _ => fun
  | [d1, d2, d3, d4] => { results := [.lit (.bool false)], args := [d1, d2, d3, d4] }
  | _ => none }
def FnExactWeakRollWrongFalsely : Prop := fnExactWeakRollRow.holds Try.pinned (OpenSpec.ofChange fnExactWeakRollWrong)

/-- 'laws.FnExactWeakOf': WHATEVER THE INPUT: true; the input reads as it did. -/
def fnExactWeakOfSpec : ChangeSpec := { name := "fnExactWeakOf", fn := fun _ => fun
  | [d] => { results := [.lit (.bool true)], args := [d] }
  | _ => none }
def fnExactWeakOfRow : OpenClaim := { program := "ytadcjkendddgdaa", sum := "3d7e3292049096fe36fe0da6bba9f80ae8b2a9d2f57c50608d40088aa1a609e3", func := "loop.example/g00100/laws.FnExactWeakOf", spec := "fnExactWeakOf", apart := false }
def FnExactWeakOfSaid : Prop := fnExactWeakOfRow.holds Try.pinned (OpenSpec.ofChange fnExactWeakOfSpec)

/-- ITS FALSE NEIGHBOUR: 'it returns false'. Refute it at one input. -/
def fnExactWeakOfWrong : ChangeSpec := { name := "fnExactWeakOf", fn := fun _ => fun
  | [d] => { results := [.lit (.bool false)], args := [d] }
  | _ => none }
def FnExactWeakOfWrongFalsely : Prop := fnExactWeakOfRow.holds Try.pinned (OpenSpec.ofChange fnExactWeakOfWrong)

/-- 'laws.FnExactGetWord': WHATEVER THE INPUT: true; the input reads as it did. -/
def fnExactGetWordSpec : ChangeSpec := { name := "fnExactGetWord", fn := fun _ => fun
  | [d] => { results := [.lit (.bool true)], args := [d] }
  | _ => none }
def fnExactGetWordRow : OpenClaim := { program := "ytadcjkendddgdaa", sum := "3d7e3292049096fe36fe0da6bba9f80ae8b2a9d2f57c50608d40088aa1a609e3", func := "loop.example/g00100/laws.FnExactGetWord", spec := "fnExactGetWord", apart := false }
def FnExactGetWordSaid : Prop := fnExactGetWordRow.holds Try.pinned (OpenSpec.ofChange fnExactGetWordSpec)

/-- ITS FALSE NEIGHBOUR: 'it returns false'. Refute it at one input. -/
def fnExactGetWordWrong : ChangeSpec := { name := "fnExactGetWord", fn := fun _ => fun
  | [d] => { results := [.lit (.bool false)], args := [d] }
  | _ => none }
def FnExactGetWordWrongFalsely : Prop := fnExactGetWordRow.holds Try.pinned (OpenSpec.ofChange fnExactGetWordWrong)

/-- 'laws.FnExactPutWord': WHATEVER THE INPUT: true; the input reads as it did. -/
def fnExactPutWordSpec : ChangeSpec := { name := "fnExactPutWord", fn := fun _ => fun
  | [d] => { results := [.lit (.bool true)], args := [d] }
  | _ => none }
def fnExactPutWordRow : OpenClaim := { program := "ytadcjkendddgdaa", sum := "3d7e3292049096fe36fe0da6bba9f80ae8b2a9d2f57c50608d40088aa1a609e3", func := "loop.example/g00100/laws.FnExactPutWord", spec := "fnExactPutWord", apart := false }
def FnExactPutWordSaid : Prop := fnExactPutWordRow.holds Try.pinned (OpenSpec.ofChange fnExactPutWordSpec)

/-- ITS FALSE NEIGHBOUR: 'it returns false'. Refute it at one input. -/
def fnExactPutWordWrong : ChangeSpec := { name := "fnExactPutWord", fn := fun _ => fun
  | [d] => { results := [.lit (.bool false)], args := [d] }
  | _ => none }
def FnExactPutWordWrongFalsely : Prop := fnExactPutWordRow.holds Try.pinned (OpenSpec.ofChange fnExactPutWordWrong)

/-- 'laws.FnExactTokenOk': WHATEVER THE INPUT: true; the input reads as it did. -/
def fnExactTokenOkSpec : ChangeSpec := { name := "fnExactTokenOk", fn := fun _ => fun
  | [d] => { results := [.lit (.bool true)], args := [d] }
  | _ => none }
def fnExactTokenOkRow : OpenClaim := { program := "ytadcjkendddgdaa", sum := "3d7e3292049096fe36fe0da6bba9f80ae8b2a9d2f57c50608d40088aa1a609e3", func := "loop.example/g00100/laws.FnExactTokenOk", spec := "fnExactTokenOk", apart := false }
def FnExactTokenOkSaid : Prop := fnExactTokenOkRow.holds Try.pinned (OpenSpec.ofChange fnExactTokenOkSpec)

/-- ITS FALSE NEIGHBOUR: 'it returns false'. Refute it at one input. -/
def fnExactTokenOkWrong : ChangeSpec := { name := "fnExactTokenOk", fn := fun _ => fun
  | [d] => { results := [.lit (.bool false)], args := [d] }
  | _ => none }
def FnExactTokenOkWrongFalsely : Prop := fnExactTokenOkRow.holds Try.pinned (OpenSpec.ofChange fnExactTokenOkWrong)

/-- 'laws.FnExactHexText': WHATEVER THE INPUT: true; the input reads as it did. -/
def fnExactHexTextSpec : ChangeSpec := { name := "fnExactHexText", fn := fun _ => fun
  | [d] => { results := [.lit (.bool true)], args := [d] }
  | _ => none }
def fnExactHexTextRow : OpenClaim := { program := "ytadcjkendddgdaa", sum := "3d7e3292049096fe36fe0da6bba9f80ae8b2a9d2f57c50608d40088aa1a609e3", func := "loop.example/g00100/laws.FnExactHexText", spec := "fnExactHexText", apart := false }
def FnExactHexTextSaid : Prop := fnExactHexTextRow.holds Try.pinned (OpenSpec.ofChange fnExactHexTextSpec)

/-- ITS FALSE NEIGHBOUR: 'it returns false'. Refute it at one input. -/
def fnExactHexTextWrong : ChangeSpec := { name := "fnExactHexText", fn := fun _ => fun
  | [d] => { results := [.lit (.bool false)], args := [d] }
  | _ => none }
def FnExactHexTextWrongFalsely : Prop := fnExactHexTextRow.holds Try.pinned (OpenSpec.ofChange fnExactHexTextWrong)

/-- 'laws.FnSizes': WHATEVER THE INPUT: true; the input reads as it did. -/
def fnSizesSpec : ChangeSpec := { name := "fnSizes", fn := fun _ => fun
  | [d] => { results := [.lit (.bool true)], args := [d] }
  | _ => none }
def fnSizesRow : OpenClaim := { program := "ytadcjkendddgdaa", sum := "3d7e3292049096fe36fe0da6bba9f80ae8b2a9d2f57c50608d40088aa1a609e3", func := "loop.example/g00100/laws.FnSizes", spec := "fnSizes", apart := false }
def FnSizesSaid : Prop := fnSizesRow.holds Try.pinned (OpenSpec.ofChange fnSizesSpec)

/-- ITS FALSE NEIGHBOUR: 'it returns false'. Refute it at one input. -/
def fnSizesWrong : ChangeSpec := { name := "fnSizes", fn := fun _ => fun
  | [d] => { results := [.lit (.bool false)], args := [d] }
  | _ => none }
def FnSizesWrongFalsely : Prop := fnSizesRow.holds Try.pinned (OpenSpec.ofChange fnSizesWrong)

/-- 'laws.FnExactQuote': WHATEVER THE INPUT: true; the input reads as it did. -/
def fnExactQuoteSpec : ChangeSpec := { name := "fnExactQuote", fn := fun _ => fun
  | [d] => { results := [.lit (.bool true)], args := [d] }
  | _ => none }
def fnExactQuoteRow : OpenClaim := { program := "ytadcjkendddgdaa", sum := "3d7e3292049096fe36fe0da6bba9f80ae8b2a9d2f57c50608d40088aa1a609e3", func := "loop.example/g00100/laws.FnExactQuote", spec := "fnExactQuote", inPlace := ["internal/bytealg.IndexByteString", "internal/abi.NoEscape"], apart := false }
def FnExactQuoteSaid : Prop := fnExactQuoteRow.holds Try.pinned (OpenSpec.ofChange fnExactQuoteSpec)

/-- ITS FALSE NEIGHBOUR: 'it returns false'. Refute it at one input. -/
def fnExactQuoteWrong : ChangeSpec := { name := "fnExactQuote", fn := fun _ => fun
  | [d] => { results := [.lit (.bool false)], args := [d] }
  | _ => none }
def FnExactQuoteWrongFalsely : Prop := fnExactQuoteRow.holds Try.pinned (OpenSpec.ofChange fnExactQuoteWrong)

/- THE SECOND FORM. 'bulk': how many values and letters a reading holds, each counted each time it is reached (what is shared counts as often as it is met; a slice's spare places count too). A statement '..UptoSaid' is the law's where the arguments, and the package variables that the reading takes, are together of bulk at most 1048576: NARROWER than '..Said'. Prove '..Said' where nothing that the law and all that it calls make is longer than what came in: it says more and counts as full. Else prove '..UptoSaid'. A law counts once. -/
mutual
def uptoBulk {H : Type} : DataW H → Nat
  | .lit (.string bytes) => bytes.length + 1
  | .lit _ => 1
  | .nil => 1
  | .ptr d => uptoBulk d + 1
  | .slice elems spare => uptoBulkAll elems + uptoBulkAll spare + 1
  | .agg parts => uptoBulkAll parts + 1
  | .iface _ d => uptoBulk d + 1
  | .map entries => uptoBulkEntries entries + 1
  | .held _ => 1
def uptoBulkAll {H : Type} : List (DataW H) → Nat
  | [] => 0
  | d :: r => uptoBulk d + uptoBulkAll r
def uptoBulkEntries {H : Type} : List (Lit × DataW H) → Nat
  | [] => 0
  | x :: r => uptoBulkEntry x + uptoBulkEntries r
def uptoBulkEntry {H : Type} : Lit × DataW H → Nat
  | (.string bytes, d) => bytes.length + uptoBulk d + 1
  | (_, d) => uptoBulk d + 1
 end
def uptoSmall : (H : Type) → List (DataW H) → Bool := fun _ ds => decide (uptoBulkAll ds ≤ 1048576)
def OpenSpec.upto (s : _root_.Go.ChangeSpec) : _root_.Go.OpenSpec := { _root_.Go.OpenSpec.ofChange s with cond := some uptoSmall }

/-- 'laws.FnExactConstants', WHERE WHAT IT READS IS OF BULK AT MOST 1048576: true; the input reads as it did. -/
def fnExactConstantsUptoRow : OpenClaim := { program := "ytadcjkendddgdaa", sum := "3d7e3292049096fe36fe0da6bba9f80ae8b2a9d2f57c50608d40088aa1a609e3", func := "loop.example/g00100/laws.FnExactConstants", spec := "fnExactConstants", apart := false, narrowed := true }
def FnExactConstantsUptoSaid : Prop := fnExactConstantsUptoRow.holds Try.pinned (OpenSpec.upto fnExactConstantsSpec)

/-- 'laws.FnExactBlockSize', WHERE WHAT IT READS IS OF BULK AT MOST 1048576: true; the input reads as it did. -/
def fnExactBlockSizeUptoRow : OpenClaim := { program := "ytadcjkendddgdaa", sum := "3d7e3292049096fe36fe0da6bba9f80ae8b2a9d2f57c50608d40088aa1a609e3", func := "loop.example/g00100/laws.FnExactBlockSize", spec := "fnExactBlockSize", apart := false, narrowed := true }
def FnExactBlockSizeUptoSaid : Prop := fnExactBlockSizeUptoRow.holds Try.pinned (OpenSpec.upto fnExactBlockSizeSpec)

/-- 'laws.FnExactWeakJoin', WHERE WHAT IT READS IS OF BULK AT MOST 1048576: true; the input reads as it did. -/
def fnExactWeakJoinUptoRow : OpenClaim := { program := "ytadcjkendddgdaa", sum := "3d7e3292049096fe36fe0da6bba9f80ae8b2a9d2f57c50608d40088aa1a609e3", func := "loop.example/g00100/laws.FnExactWeakJoin", spec := "fnExactWeakJoin", apart := false, narrowed := true }
def FnExactWeakJoinUptoSaid : Prop := fnExactWeakJoinUptoRow.holds Try.pinned (OpenSpec.upto fnExactWeakJoinSpec)

/-- 'laws.FnExactNameOk', WHERE WHAT IT READS IS OF BULK AT MOST 1048576: true; the input reads as it did. -/
def fnExactNameOkUptoRow : OpenClaim := { program := "ytadcjkendddgdaa", sum := "3d7e3292049096fe36fe0da6bba9f80ae8b2a9d2f57c50608d40088aa1a609e3", func := "loop.example/g00100/laws.FnExactNameOk", spec := "fnExactNameOk", apart := false, narrowed := true }
def FnExactNameOkUptoSaid : Prop := fnExactNameOkUptoRow.holds Try.pinned (OpenSpec.upto fnExactNameOkSpec)

/-- 'laws.FnExactWeakRoll', WHERE WHAT IT READS IS OF BULK AT MOST 1048576: true; the input reads as it did. -/
def fnExactWeakRollUptoRow : OpenClaim := { program := "ytadcjkendddgdaa", sum := "3d7e3292049096fe36fe0da6bba9f80ae8b2a9d2f57c50608d40088aa1a609e3", func := "loop.example/g00100/laws.FnExactWeakRoll", spec := "fnExactWeakRoll", apart := false, narrowed := true }
def FnExactWeakRollUptoSaid : Prop := fnExactWeakRollUptoRow.holds Try.pinned (OpenSpec.upto fnExactWeakRollSpec)

/-- 'laws.FnExactWeakOf', WHERE WHAT IT READS IS OF BULK AT MOST 1048576: true; the input reads as it did. -/
def fnExactWeakOfUptoRow : OpenClaim := { program := "ytadcjkendddgdaa", sum := "3d7e3292049096fe36fe0da6bba9f80ae8b2a9d2f57c50608d40088aa1a609e3", func := "loop.example/g00100/laws.FnExactWeakOf", spec := "fnExactWeakOf", apart := false, narrowed := true }
def FnExactWeakOfUptoSaid : Prop := fnExactWeakOfUptoRow.holds Try.pinned (OpenSpec.upto fnExactWeakOfSpec)

/-- 'laws.FnExactGetWord', WHERE WHAT IT READS IS OF BULK AT MOST 1048576: true; the input reads as it did. -/
def fnExactGetWordUptoRow : OpenClaim := { program := "ytadcjkendddgdaa", sum := "3d7e3292049096fe36fe0da6bba9f80ae8b2a9d2f57c50608d40088aa1a609e3", func := "loop.example/g00100/laws.FnExactGetWord", spec := "fnExactGetWord", apart := false, narrowed := true }
def FnExactGetWordUptoSaid : Prop := fnExactGetWordUptoRow.holds Try.pinned (OpenSpec.upto fnExactGetWordSpec)

/-- 'laws.FnExactPutWord', WHERE WHAT IT READS IS OF BULK AT MOST 1048576: true; the input reads as it did. -/
def fnExactPutWordUptoRow : OpenClaim := { program := "ytadcjkendddgdaa", sum := "3d7e3292049096fe36fe0da6bba9f80ae8b2a9d2f57c50608d40088aa1a609e3", func := "loop.example/g00100/laws.FnExactPutWord", spec := "fnExactPutWord", apart := false, narrowed := true }
def FnExactPutWordUptoSaid : Prop := fnExactPutWordUptoRow.holds Try.pinned (OpenSpec.upto fnExactPutWordSpec)

/-- 'laws.FnExactTokenOk', WHERE WHAT IT READS IS OF BULK AT MOST 1048576: true; the input reads as it did. -/
def fnExactTokenOkUptoRow : OpenClaim := { program := "ytadcjkendddgdaa", sum := "3d7e3292049096fe36fe0da6bba9f80ae8b2a9d2f57c50608d40088aa1a609e3", func := "loop.example/g00100/laws.FnExactTokenOk", spec := "fnExactTokenOk", apart := false, narrowed := true }
def FnExactTokenOkUptoSaid : Prop := fnExactTokenOkUptoRow.holds Try.pinned (OpenSpec.upto fnExactTokenOkSpec)

/-- 'laws.FnExactHexText', WHERE WHAT IT READS IS OF BULK AT MOST 1048576: true; the input reads as it did. -/
def fnExactHexTextUptoRow : OpenClaim := { program := "ytadcjkendddgdaa", sum := "3d7e3292049096fe36fe0da6bba9f80ae8b2a9d2f57c50608d40088aa1a609e3", func := "loop.example/g00100/laws.FnExactHexText", spec := "fnExactHexText", apart := false, narrowed := true }
def FnExactHexTextUptoSaid : Prop := fnExactHexTextUptoRow.holds Try.pinned (OpenSpec.upto fnExactHexTextSpec)

/-- 'laws.FnSizes', WHERE WHAT IT READS IS OF BULK AT MOST 1048576: true; the input reads as it did. -/
def fnSizesUptoRow : OpenClaim := { program := "ytadcjkendddgdaa", sum := "3d7e3292049096fe36fe0da6bba9f80ae8b2a9d2f57c50608d40088aa1a609e3", func := "loop.example/g00100/laws.FnSizes", spec := "fnSizes", apart := false, narrowed := true }
def FnSizesUptoSaid : Prop := fnSizesUptoRow.holds Try.pinned (OpenSpec.upto fnSizesSpec)

/-- 'laws.FnExactQuote', WHERE WHAT IT READS IS OF BULK AT MOST 1048576: true; the input reads as it did. -/
def fnExactQuoteUptoRow : OpenClaim := { program := "ytadcjkendddgdaa", sum := "3d7e3292049096fe36fe0da6bba9f80ae8b2a9d2f57c50608d40088aa1a609e3", func := "loop.example/g00100/laws.FnExactQuote", spec := "fnExactQuote", inPlace := ["internal/bytealg.IndexByteString", "internal/abi.NoEscape"], apart := false, narrowed := true }
def FnExactQuoteUptoSaid : Prop := fnExactQuoteUptoRow.holds Try.pinned (OpenSpec.upto fnExactQuoteSpec)

end Rows
end Go.Proofs.Ytadcjkendddgdaa
