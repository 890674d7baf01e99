/-
  No cell of these rows narrows 'for every input' (looked for: loops, veiled, ifaces, maps, wideKeys, modest, calm, conditions, laid).
  DERIVED. THE GIVEN ROWS OF THIS SEAT. 11 by the template 'for every input the law returns true; each argument reads behind the call as it read before'; 0 by the template 'total and deterministic' (their statements: YtbkodnhnadkhdaaTotals.lean).
  GIVEN WITH THE SEED: the statements are not yours to turn. If you find one false, say at which input.
  Laid BY PROGRAM, IN A SANDBOX (cutbox-rows.mjs): the forced cells as the released guide's own fill.sh prints them over the translation 30ad0f836b0ab18f… (all of the seat's roots in one cut). By AI agents, Wed Nov 11 2026. No macro, syntax, notation, axiom, sorry.
-/
import Derived.Test.YtbkodnhnadkhdaaChecked
import GoSem.Claim
import GoSem.ClaimJoined
import GoSem.ClaimMapViews
import Derived.JoinedTies
import Derived.KernelRfl
namespace Go.Proofs.Ytbkodnhnadkhdaa
/- THE CELL 'sum', in the pinned program and in every row, IS THE sha256 OF THE DUMP (.gsa) THAT YtbkodnhnadkhdaaProg.lean LOADS. Nothing in Lean hashes anything: it is a label: what it is worth is what the hold of that sum in a sandbox is worth. -/
noncomputable def Try.pinned : Pinned := { name := "ytbkodnhnadkhdaa", sum := "30ad0f836b0ab18fe2ffd6cf5154614d10760bc44fa50334c9dd1617f722b733", checked := Try.checked }
namespace Rows
def none {H : Type} : Left H := { results := [], args := [] }

/-- 'laws.FnExactPadStrong': WHATEVER THE INPUT: true; the input reads as it did. -/
def fnExactPadStrongSpec : ChangeSpec := { name := "fnExactPadStrong", fn := fun _ => fun
  | [d] => { results := [.lit (.bool true)], args := [d] }
  | _ => none }
def fnExactPadStrongRow : OpenClaim := { program := "ytbkodnhnadkhdaa", sum := "30ad0f836b0ab18fe2ffd6cf5154614d10760bc44fa50334c9dd1617f722b733", func := "loop.example/g00100/laws.FnExactPadStrong", spec := "fnExactPadStrong", apart := false }
def FnExactPadStrongSaid : Prop := fnExactPadStrongRow.holds Try.pinned (OpenSpec.ofChange fnExactPadStrongSpec)

/-- ITS FALSE NEIGHBOUR: 'it returns false'. Refute it at one input. -/
def fnExactPadStrongWrong : ChangeSpec := { name := "fnExactPadStrong", fn := fun _ => fun
  | [d] => { results := [.lit (.bool false)], args := [d] }
  | _ => none }
def FnExactPadStrongWrongFalsely : Prop := fnExactPadStrongRow.holds Try.pinned (OpenSpec.ofChange fnExactPadStrongWrong)

/-- 'laws.FnExactWeakAll': WHATEVER THE INPUT: true; the input reads as it did. -/
def fnExactWeakAllSpec : ChangeSpec := { name := "fnExactWeakAll", fn := fun _ => fun
  | [d1, d2] => { results := [.lit (.bool true)], args := [d1, d2] }
  | _ => none }
def fnExactWeakAllRow : OpenClaim := { program := "ytbkodnhnadkhdaa", sum := "30ad0f836b0ab18fe2ffd6cf5154614d10760bc44fa50334c9dd1617f722b733", func := "loop.example/g00100/laws.FnExactWeakAll", spec := "fnExactWeakAll", apart := false }
def FnExactWeakAllSaid : Prop := fnExactWeakAllRow.holds Try.pinned (OpenSpec.ofChange fnExactWeakAllSpec)

/-- ITS FALSE NEIGHBOUR: 'it returns false'. Refute it at one input. -/
def fnExactWeakAllWrong : ChangeSpec := { name := "fnExactWeakAll", fn := fun _ => fun
  | [d1, d2] => { results := [.lit (.bool false)], args := [d1, d2] }
  | _ => none }
def FnExactWeakAllWrongFalsely : Prop := fnExactWeakAllRow.holds Try.pinned (OpenSpec.ofChange fnExactWeakAllWrong)

/-- 'laws.FnExactOnlyLiterals': WHATEVER THE INPUT: true; the input reads as it did. -/
def fnExactOnlyLiteralsSpec : ChangeSpec := { name := "fnExactOnlyLiterals", fn := fun _ => fun
  | [d] => { results := [.lit (.bool true)], args := [d] }
  | _ => none }
def fnExactOnlyLiteralsRow : OpenClaim := { program := "ytbkodnhnadkhdaa", sum := "30ad0f836b0ab18fe2ffd6cf5154614d10760bc44fa50334c9dd1617f722b733", func := "loop.example/g00100/laws.FnExactOnlyLiterals", spec := "fnExactOnlyLiterals", apart := false }
def FnExactOnlyLiteralsSaid : Prop := fnExactOnlyLiteralsRow.holds Try.pinned (OpenSpec.ofChange fnExactOnlyLiteralsSpec)

/-- ITS FALSE NEIGHBOUR: 'it returns false'. Refute it at one input. -/
def fnExactOnlyLiteralsWrong : ChangeSpec := { name := "fnExactOnlyLiterals", fn := fun _ => fun
  | [d] => { results := [.lit (.bool false)], args := [d] }
  | _ => none }
def FnExactOnlyLiteralsWrongFalsely : Prop := fnExactOnlyLiteralsRow.holds Try.pinned (OpenSpec.ofChange fnExactOnlyLiteralsWrong)

/-- 'laws.FnExactLiteralBytes': WHATEVER THE INPUT: true; the input reads as it did. -/
def fnExactLiteralBytesSpec : ChangeSpec := { name := "fnExactLiteralBytes", fn := fun _ => fun
  | [d] => { results := [.lit (.bool true)], args := [d] }
  | _ => none }
def fnExactLiteralBytesRow : OpenClaim := { program := "ytbkodnhnadkhdaa", sum := "30ad0f836b0ab18fe2ffd6cf5154614d10760bc44fa50334c9dd1617f722b733", func := "loop.example/g00100/laws.FnExactLiteralBytes", spec := "fnExactLiteralBytes", unfollowed := true, recurses := true, apart := false }
def FnExactLiteralBytesSaid : Prop := fnExactLiteralBytesRow.holds Try.pinned (OpenSpec.ofChange fnExactLiteralBytesSpec)

/-- ITS FALSE NEIGHBOUR: 'it returns false'. Refute it at one input. -/
def fnExactLiteralBytesWrong : ChangeSpec := { name := "fnExactLiteralBytes", fn := fun _ => fun
  | [d] => { results := [.lit (.bool false)], args := [d] }
  | _ => none }
def FnExactLiteralBytesWrongFalsely : Prop := fnExactLiteralBytesRow.holds Try.pinned (OpenSpec.ofChange fnExactLiteralBytesWrong)

/-- 'laws.FnExactSigLen': WHATEVER THE INPUT: true; the input reads as it did. -/
def fnExactSigLenSpec : ChangeSpec := { name := "fnExactSigLen", fn := fun _ => fun
  | [d] => { results := [.lit (.bool true)], args := [d] }
  | _ => none }
def fnExactSigLenRow : OpenClaim := { program := "ytbkodnhnadkhdaa", sum := "30ad0f836b0ab18fe2ffd6cf5154614d10760bc44fa50334c9dd1617f722b733", func := "loop.example/g00100/laws.FnExactSigLen", spec := "fnExactSigLen", apart := false }
def FnExactSigLenSaid : Prop := fnExactSigLenRow.holds Try.pinned (OpenSpec.ofChange fnExactSigLenSpec)

/-- ITS FALSE NEIGHBOUR: 'it returns false'. Refute it at one input. -/
def fnExactSigLenWrong : ChangeSpec := { name := "fnExactSigLen", fn := fun _ => fun
  | [d] => { results := [.lit (.bool false)], args := [d] }
  | _ => none }
def FnExactSigLenWrongFalsely : Prop := fnExactSigLenRow.holds Try.pinned (OpenSpec.ofChange fnExactSigLenWrong)

/-- 'laws.FnExactPatch': WHATEVER THE INPUT: true; the input reads as it did. -/
def fnExactPatchSpec : ChangeSpec := { name := "fnExactPatch", fn := fun _ => fun
  | [d1, d2, d3] => { results := [.lit (.bool true)], args := [d1, d2, d3] }
  | _ => none }
def fnExactPatchRow : OpenClaim := { program := "ytbkodnhnadkhdaa", sum := "30ad0f836b0ab18fe2ffd6cf5154614d10760bc44fa50334c9dd1617f722b733", func := "loop.example/g00100/laws.FnExactPatch", spec := "fnExactPatch", apart := false }
def FnExactPatchSaid : Prop := fnExactPatchRow.holds Try.pinned (OpenSpec.ofChange fnExactPatchSpec)

/-- ITS FALSE NEIGHBOUR: 'it returns false'. Refute it at one input. -/
def fnExactPatchWrong : ChangeSpec := { name := "fnExactPatch", fn := fun _ => fun
  | [d1, d2, d3] => { results := [.lit (.bool false)], args := [d1, d2, d3] }
  | _ => none }
def FnExactPatchWrongFalsely : Prop := fnExactPatchRow.holds Try.pinned (OpenSpec.ofChange fnExactPatchWrong)

/-- 'laws.FnExactSigOk': WHATEVER THE INPUT: true; the input reads as it did. -/
def fnExactSigOkSpec : ChangeSpec := { name := "fnExactSigOk", fn := fun _ => fun
  | [d] => { results := [.lit (.bool true)], args := [d] }
  | _ => none }
def fnExactSigOkRow : OpenClaim := { program := "ytbkodnhnadkhdaa", sum := "30ad0f836b0ab18fe2ffd6cf5154614d10760bc44fa50334c9dd1617f722b733", func := "loop.example/g00100/laws.FnExactSigOk", spec := "fnExactSigOk", unfollowed := true, recurses := true, apart := false }
def FnExactSigOkSaid : Prop := fnExactSigOkRow.holds Try.pinned (OpenSpec.ofChange fnExactSigOkSpec)

/-- ITS FALSE NEIGHBOUR: 'it returns false'. Refute it at one input. -/
def fnExactSigOkWrong : ChangeSpec := { name := "fnExactSigOk", fn := fun _ => fun
  | [d] => { results := [.lit (.bool false)], args := [d] }
  | _ => none }
def FnExactSigOkWrongFalsely : Prop := fnExactSigOkRow.holds Try.pinned (OpenSpec.ofChange fnExactSigOkWrong)

/-- 'laws.FnExactBlockAt': WHATEVER THE INPUT: true; the input reads as it did. -/
def fnExactBlockAtSpec : ChangeSpec := { name := "fnExactBlockAt", fn := fun _ => fun
  | [d1, d2] => { results := [.lit (.bool true)], args := [d1, d2] }
  | _ => none }
def fnExactBlockAtRow : OpenClaim := { program := "ytbkodnhnadkhdaa", sum := "30ad0f836b0ab18fe2ffd6cf5154614d10760bc44fa50334c9dd1617f722b733", func := "loop.example/g00100/laws.FnExactBlockAt", spec := "fnExactBlockAt", unfollowed := true, recurses := true, apart := false }
def FnExactBlockAtSaid : Prop := fnExactBlockAtRow.holds Try.pinned (OpenSpec.ofChange fnExactBlockAtSpec)

/-- ITS FALSE NEIGHBOUR: 'it returns false'. Refute it at one input. -/
def fnExactBlockAtWrong : ChangeSpec := { name := "fnExactBlockAt", fn := fun _ => fun
  | [d1, d2] => { results := [.lit (.bool false)], args := [d1, d2] }
  | _ => none }
def FnExactBlockAtWrongFalsely : Prop := fnExactBlockAtRow.holds Try.pinned (OpenSpec.ofChange fnExactBlockAtWrong)

/-- 'laws.FnExactTokensLen': WHATEVER THE INPUT: true; the input reads as it did. -/
def fnExactTokensLenSpec : ChangeSpec := { name := "fnExactTokensLen", fn := fun _ => fun
  | [d] => { results := [.lit (.bool true)], args := [d] }
  | _ => none }
def fnExactTokensLenRow : OpenClaim := { program := "ytbkodnhnadkhdaa", sum := "30ad0f836b0ab18fe2ffd6cf5154614d10760bc44fa50334c9dd1617f722b733", func := "loop.example/g00100/laws.FnExactTokensLen", spec := "fnExactTokensLen", inPlace := ["internal/abi.NoEscape"], unfollowed := true, recurses := true, apart := false }
def FnExactTokensLenSaid : Prop := fnExactTokensLenRow.holds Try.pinned (OpenSpec.ofChange fnExactTokensLenSpec)

/-- ITS FALSE NEIGHBOUR: 'it returns false'. Refute it at one input. -/
def fnExactTokensLenWrong : ChangeSpec := { name := "fnExactTokensLen", fn := fun _ => fun
  | [d] => { results := [.lit (.bool false)], args := [d] }
  | _ => none }
def FnExactTokensLenWrongFalsely : Prop := fnExactTokensLenRow.holds Try.pinned (OpenSpec.ofChange fnExactTokensLenWrong)

/-- 'laws.FnExactPutTokens': WHATEVER THE INPUT: true; the input reads as it did. -/
def fnExactPutTokensSpec : ChangeSpec := { name := "fnExactPutTokens", fn := fun _ => fun
  | [d] => { results := [.lit (.bool true)], args := [d] }
  | _ => none }
def fnExactPutTokensRow : OpenClaim := { program := "ytbkodnhnadkhdaa", sum := "30ad0f836b0ab18fe2ffd6cf5154614d10760bc44fa50334c9dd1617f722b733", func := "loop.example/g00100/laws.FnExactPutTokens", spec := "fnExactPutTokens", inPlace := ["internal/abi.NoEscape"], unfollowed := true, recurses := true, apart := false }
def FnExactPutTokensSaid : Prop := fnExactPutTokensRow.holds Try.pinned (OpenSpec.ofChange fnExactPutTokensSpec)

/-- ITS FALSE NEIGHBOUR: 'it returns false'. Refute it at one input. -/
def fnExactPutTokensWrong : ChangeSpec := { name := "fnExactPutTokens", fn := fun _ => fun
  | [d] => { results := [.lit (.bool false)], args := [d] }
  | _ => none }
def FnExactPutTokensWrongFalsely : Prop := fnExactPutTokensRow.holds Try.pinned (OpenSpec.ofChange fnExactPutTokensWrong)

/-- 'laws.FnExactPutSig': WHATEVER THE INPUT: true; the input reads as it did. -/
def fnExactPutSigSpec : ChangeSpec := { name := "fnExactPutSig", fn := fun _ => fun
  | [d] => { results := [.lit (.bool true)], args := [d] }
  | _ => none }
def fnExactPutSigRow : OpenClaim := { program := "ytbkodnhnadkhdaa", sum := "30ad0f836b0ab18fe2ffd6cf5154614d10760bc44fa50334c9dd1617f722b733", func := "loop.example/g00100/laws.FnExactPutSig", spec := "fnExactPutSig", inPlace := ["internal/abi.NoEscape"], unfollowed := true, recurses := true, apart := false }
def FnExactPutSigSaid : Prop := fnExactPutSigRow.holds Try.pinned (OpenSpec.ofChange fnExactPutSigSpec)

/-- ITS FALSE NEIGHBOUR: 'it returns false'. Refute it at one input. -/
def fnExactPutSigWrong : ChangeSpec := { name := "fnExactPutSig", fn := fun _ => fun
  | [d] => { results := [.lit (.bool false)], args := [d] }
  | _ => none }
def FnExactPutSigWrongFalsely : Prop := fnExactPutSigRow.holds Try.pinned (OpenSpec.ofChange fnExactPutSigWrong)

/- THE SECOND FORM. 'bulk': how many values and letters a reading holds, each counted each time it is reached (what is shared counts as often as it is met; a slice's spare places count too). A statement '..UptoSaid' is the law's where the arguments, and the package variables that the reading takes, are together of bulk at most 1048576: NARROWER than '..Said'. Prove '..Said' where nothing that the law and all that it calls make is longer than what came in: it says more and counts as full. Else prove '..UptoSaid'. A law counts once. -/
mutual
def uptoBulk {H : Type} : DataW H → Nat
  | .lit (.string bytes) => bytes.length + 1
  | .lit _ => 1
  | .nil => 1
  | .ptr d => uptoBulk d + 1
  | .slice elems spare => uptoBulkAll elems + uptoBulkAll spare + 1
  | .agg parts => uptoBulkAll parts + 1
  | .iface _ d => uptoBulk d + 1
  | .map entries => uptoBulkEntries entries + 1
  | .held _ => 1
def uptoBulkAll {H : Type} : List (DataW H) → Nat
  | [] => 0
  | d :: r => uptoBulk d + uptoBulkAll r
def uptoBulkEntries {H : Type} : List (Lit × DataW H) → Nat
  | [] => 0
  | x :: r => uptoBulkEntry x + uptoBulkEntries r
def uptoBulkEntry {H : Type} : Lit × DataW H → Nat
  | (.string bytes, d) => bytes.length + uptoBulk d + 1
  | (_, d) => uptoBulk d + 1
 end
def uptoSmall : (H : Type) → List (DataW H) → Bool := fun _ ds => decide (uptoBulkAll ds ≤ 1048576)
def OpenSpec.upto (s : _root_.Go.ChangeSpec) : _root_.Go.OpenSpec := { _root_.Go.OpenSpec.ofChange s with cond := some uptoSmall }

/-- 'laws.FnExactPadStrong', WHERE WHAT IT READS IS OF BULK AT MOST 1048576: true; the input reads as it did. -/
def fnExactPadStrongUptoRow : OpenClaim := { program := "ytbkodnhnadkhdaa", sum := "30ad0f836b0ab18fe2ffd6cf5154614d10760bc44fa50334c9dd1617f722b733", func := "loop.example/g00100/laws.FnExactPadStrong", spec := "fnExactPadStrong", apart := false, narrowed := true }
def FnExactPadStrongUptoSaid : Prop := fnExactPadStrongUptoRow.holds Try.pinned (OpenSpec.upto fnExactPadStrongSpec)

/-- 'laws.FnExactWeakAll', WHERE WHAT IT READS IS OF BULK AT MOST 1048576: true; the input reads as it did. -/
def fnExactWeakAllUptoRow : OpenClaim := { program := "ytbkodnhnadkhdaa", sum := "30ad0f836b0ab18fe2ffd6cf5154614d10760bc44fa50334c9dd1617f722b733", func := "loop.example/g00100/laws.FnExactWeakAll", spec := "fnExactWeakAll", apart := false, narrowed := true }
def FnExactWeakAllUptoSaid : Prop := fnExactWeakAllUptoRow.holds Try.pinned (OpenSpec.upto fnExactWeakAllSpec)

/-- 'laws.FnExactOnlyLiterals', WHERE WHAT IT READS IS OF BULK AT MOST 1048576: true; the input reads as it did. -/
def fnExactOnlyLiteralsUptoRow : OpenClaim := { program := "ytbkodnhnadkhdaa", sum := "30ad0f836b0ab18fe2ffd6cf5154614d10760bc44fa50334c9dd1617f722b733", func := "loop.example/g00100/laws.FnExactOnlyLiterals", spec := "fnExactOnlyLiterals", apart := false, narrowed := true }
def FnExactOnlyLiteralsUptoSaid : Prop := fnExactOnlyLiteralsUptoRow.holds Try.pinned (OpenSpec.upto fnExactOnlyLiteralsSpec)

/-- 'laws.FnExactLiteralBytes', WHERE WHAT IT READS IS OF BULK AT MOST 1048576: true; the input reads as it did. -/
def fnExactLiteralBytesUptoRow : OpenClaim := { program := "ytbkodnhnadkhdaa", sum := "30ad0f836b0ab18fe2ffd6cf5154614d10760bc44fa50334c9dd1617f722b733", func := "loop.example/g00100/laws.FnExactLiteralBytes", spec := "fnExactLiteralBytes", unfollowed := true, recurses := true, apart := false, narrowed := true }
def FnExactLiteralBytesUptoSaid : Prop := fnExactLiteralBytesUptoRow.holds Try.pinned (OpenSpec.upto fnExactLiteralBytesSpec)

/-- 'laws.FnExactSigLen', WHERE WHAT IT READS IS OF BULK AT MOST 1048576: true; the input reads as it did. -/
def fnExactSigLenUptoRow : OpenClaim := { program := "ytbkodnhnadkhdaa", sum := "30ad0f836b0ab18fe2ffd6cf5154614d10760bc44fa50334c9dd1617f722b733", func := "loop.example/g00100/laws.FnExactSigLen", spec := "fnExactSigLen", apart := false, narrowed := true }
def FnExactSigLenUptoSaid : Prop := fnExactSigLenUptoRow.holds Try.pinned (OpenSpec.upto fnExactSigLenSpec)

/-- 'laws.FnExactPatch', WHERE WHAT IT READS IS OF BULK AT MOST 1048576: true; the input reads as it did. -/
def fnExactPatchUptoRow : OpenClaim := { program := "ytbkodnhnadkhdaa", sum := "30ad0f836b0ab18fe2ffd6cf5154614d10760bc44fa50334c9dd1617f722b733", func := "loop.example/g00100/laws.FnExactPatch", spec := "fnExactPatch", apart := false, narrowed := true }
def FnExactPatchUptoSaid : Prop := fnExactPatchUptoRow.holds Try.pinned (OpenSpec.upto fnExactPatchSpec)

/-- 'laws.FnExactSigOk', WHERE WHAT IT READS IS OF BULK AT MOST 1048576: true; the input reads as it did. -/
def fnExactSigOkUptoRow : OpenClaim := { program := "ytbkodnhnadkhdaa", sum := "30ad0f836b0ab18fe2ffd6cf5154614d10760bc44fa50334c9dd1617f722b733", func := "loop.example/g00100/laws.FnExactSigOk", spec := "fnExactSigOk", unfollowed := true, recurses := true, apart := false, narrowed := true }
def FnExactSigOkUptoSaid : Prop := fnExactSigOkUptoRow.holds Try.pinned (OpenSpec.upto fnExactSigOkSpec)

/-- 'laws.FnExactBlockAt', WHERE WHAT IT READS IS OF BULK AT MOST 1048576: true; the input reads as it did. -/
def fnExactBlockAtUptoRow : OpenClaim := { program := "ytbkodnhnadkhdaa", sum := "30ad0f836b0ab18fe2ffd6cf5154614d10760bc44fa50334c9dd1617f722b733", func := "loop.example/g00100/laws.FnExactBlockAt", spec := "fnExactBlockAt", unfollowed := true, recurses := true, apart := false, narrowed := true }
def FnExactBlockAtUptoSaid : Prop := fnExactBlockAtUptoRow.holds Try.pinned (OpenSpec.upto fnExactBlockAtSpec)

/-- 'laws.FnExactTokensLen', WHERE WHAT IT READS IS OF BULK AT MOST 1048576: true; the input reads as it did. -/
def fnExactTokensLenUptoRow : OpenClaim := { program := "ytbkodnhnadkhdaa", sum := "30ad0f836b0ab18fe2ffd6cf5154614d10760bc44fa50334c9dd1617f722b733", func := "loop.example/g00100/laws.FnExactTokensLen", spec := "fnExactTokensLen", inPlace := ["internal/abi.NoEscape"], unfollowed := true, recurses := true, apart := false, narrowed := true }
def FnExactTokensLenUptoSaid : Prop := fnExactTokensLenUptoRow.holds Try.pinned (OpenSpec.upto fnExactTokensLenSpec)

/-- 'laws.FnExactPutTokens', WHERE WHAT IT READS IS OF BULK AT MOST 1048576: true; the input reads as it did. -/
def fnExactPutTokensUptoRow : OpenClaim := { program := "ytbkodnhnadkhdaa", sum := "30ad0f836b0ab18fe2ffd6cf5154614d10760bc44fa50334c9dd1617f722b733", func := "loop.example/g00100/laws.FnExactPutTokens", spec := "fnExactPutTokens", inPlace := ["internal/abi.NoEscape"], unfollowed := true, recurses := true, apart := false, narrowed := true }
def FnExactPutTokensUptoSaid : Prop := fnExactPutTokensUptoRow.holds Try.pinned (OpenSpec.upto fnExactPutTokensSpec)

/-- 'laws.FnExactPutSig', WHERE WHAT IT READS IS OF BULK AT MOST 1048576: true; the input reads as it did. -/
def fnExactPutSigUptoRow : OpenClaim := { program := "ytbkodnhnadkhdaa", sum := "30ad0f836b0ab18fe2ffd6cf5154614d10760bc44fa50334c9dd1617f722b733", func := "loop.example/g00100/laws.FnExactPutSig", spec := "fnExactPutSig", inPlace := ["internal/abi.NoEscape"], unfollowed := true, recurses := true, apart := false, narrowed := true }
def FnExactPutSigUptoSaid : Prop := fnExactPutSigUptoRow.holds Try.pinned (OpenSpec.upto fnExactPutSigSpec)

end Rows
end Go.Proofs.Ytbkodnhnadkhdaa
