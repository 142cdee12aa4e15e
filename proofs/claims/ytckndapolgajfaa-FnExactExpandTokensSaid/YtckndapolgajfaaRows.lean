/-
  No cell of these rows narrows 'for every input' (looked for: loops, veiled, ifaces, maps, wideKeys, modest, calm, conditions, laid).
  DERIVED. THE GIVEN ROWS OF THIS SEAT. 14 by the template 'for every input the law returns true; each argument reads behind the call as it read before'; 0 by the template 'total and deterministic' (their statements: YtckndapolgajfaaTotals.lean).
  GIVEN WITH THE SEED: the statements are not yours to turn. If you find one false, say at which input.
  Laid BY PROGRAM, IN A SANDBOX (cutbox-rows.mjs): the forced cells as the released guide's own fill.sh prints them over the translation b64b3f9a8bf1a7ad… (all of the seat's roots in one cut). By AI agents, Wed Nov 11 2026. No macro, syntax, notation, axiom, sorry.
-/
import Derived.Test.YtckndapolgajfaaChecked
import GoSem.Claim
import GoSem.ClaimJoined
import GoSem.ClaimMapViews
import Derived.JoinedTies
import Derived.KernelRfl
namespace Go.Proofs.Ytckndapolgajfaa
/- THE CELL 'sum', in the pinned program and in every row, IS THE sha256 OF THE DUMP (.gsa) THAT YtckndapolgajfaaProg.lean LOADS. Nothing in Lean hashes anything: it is a label: what it is worth is what the hold of that sum in a sandbox is worth. -/
noncomputable def Try.pinned : Pinned := { name := "ytckndapolgajfaa", sum := "b64b3f9a8bf1a7adf87d48e2333d7fede7884485b61c3e5e1b8b7628e37ae375", checked := Try.checked }
namespace Rows
def none {H : Type} : Left H := { results := [], args := [] }

/-- 'laws.FnExactCanonicalCodes': WHATEVER THE INPUT: true; the input reads as it did. -/
def fnExactCanonicalCodesSpec : ChangeSpec := { name := "fnExactCanonicalCodes", fn := fun _ => fun
  | [d] => { results := [.lit (.bool true)], args := [d] }
  | _ => none }
def fnExactCanonicalCodesRow : OpenClaim := { program := "ytckndapolgajfaa", sum := "b64b3f9a8bf1a7adf87d48e2333d7fede7884485b61c3e5e1b8b7628e37ae375", func := "loop.example/pixelworks/laws.FnExactCanonicalCodes", spec := "fnExactCanonicalCodes", apart := false }
def FnExactCanonicalCodesSaid : Prop := fnExactCanonicalCodesRow.holds Try.pinned (OpenSpec.ofChange fnExactCanonicalCodesSpec)

/-- ITS FALSE NEIGHBOUR: 'it returns false'. Refute it at one input. -/
def fnExactCanonicalCodesWrong : ChangeSpec := { name := "fnExactCanonicalCodes", fn := fun _ => fun
  | [d] => { results := [.lit (.bool false)], args := [d] }
  | _ => none }
def FnExactCanonicalCodesWrongFalsely : Prop := fnExactCanonicalCodesRow.holds Try.pinned (OpenSpec.ofChange fnExactCanonicalCodesWrong)

/-- 'laws.FnExpandTokens': WHATEVER THE INPUT: true; the input reads as it did. -/
def fnExpandTokensSpec : ChangeSpec := { name := "fnExpandTokens", fn := fun _ => fun
  | [d] => { results := [.lit (.bool true)], args := [d] }
  | _ => none }
def fnExpandTokensRow : OpenClaim := { program := "ytckndapolgajfaa", sum := "b64b3f9a8bf1a7adf87d48e2333d7fede7884485b61c3e5e1b8b7628e37ae375", func := "loop.example/pixelworks/laws.FnExpandTokens", spec := "fnExpandTokens", unfollowed := true, recurses := true, apart := false }
def FnExpandTokensSaid : Prop := fnExpandTokensRow.holds Try.pinned (OpenSpec.ofChange fnExpandTokensSpec)

/-- ITS FALSE NEIGHBOUR: 'it returns false'. Refute it at one input. -/
def fnExpandTokensWrong : ChangeSpec := { name := "fnExpandTokens", fn := fun _ => fun
  | [d] => { results := [.lit (.bool false)], args := [d] }
  | _ => none }
def FnExpandTokensWrongFalsely : Prop := fnExpandTokensRow.holds Try.pinned (OpenSpec.ofChange fnExpandTokensWrong)

/-- 'laws.FnExactTokenCost': WHATEVER THE INPUT: true; the input reads as it did. -/
def fnExactTokenCostSpec : ChangeSpec := { name := "fnExactTokenCost", fn := fun _ => fun
  | [d] => { results := [.lit (.bool true)], args := [d] }
  | _ => none }
def fnExactTokenCostRow : OpenClaim := { program := "ytckndapolgajfaa", sum := "b64b3f9a8bf1a7adf87d48e2333d7fede7884485b61c3e5e1b8b7628e37ae375", func := "loop.example/pixelworks/laws.FnExactTokenCost", spec := "fnExactTokenCost", apart := false }
def FnExactTokenCostSaid : Prop := fnExactTokenCostRow.holds Try.pinned (OpenSpec.ofChange fnExactTokenCostSpec)

/-- ITS FALSE NEIGHBOUR: 'it returns false'. Refute it at one input. -/
def fnExactTokenCostWrong : ChangeSpec := { name := "fnExactTokenCost", fn := fun _ => fun
  | [d] => { results := [.lit (.bool false)], args := [d] }
  | _ => none }
def FnExactTokenCostWrongFalsely : Prop := fnExactTokenCostRow.holds Try.pinned (OpenSpec.ofChange fnExactTokenCostWrong)

/-- 'laws.FnExactLongestMatch': WHATEVER THE INPUT: true; the input reads as it did. -/
def fnExactLongestMatchSpec : ChangeSpec := { name := "fnExactLongestMatch", fn := fun _ => fun
  | [d1, d2] => { results := [.lit (.bool true)], args := [d1, d2] }
  | _ => none }
def fnExactLongestMatchRow : OpenClaim := { program := "ytckndapolgajfaa", sum := "b64b3f9a8bf1a7adf87d48e2333d7fede7884485b61c3e5e1b8b7628e37ae375", func := "loop.example/pixelworks/laws.FnExactLongestMatch", spec := "fnExactLongestMatch", unfollowed := true, recurses := true, apart := false }
def FnExactLongestMatchSaid : Prop := fnExactLongestMatchRow.holds Try.pinned (OpenSpec.ofChange fnExactLongestMatchSpec)

/-- ITS FALSE NEIGHBOUR: 'it returns false'. Refute it at one input. -/
def fnExactLongestMatchWrong : ChangeSpec := { name := "fnExactLongestMatch", fn := fun _ => fun
  | [d1, d2] => { results := [.lit (.bool false)], args := [d1, d2] }
  | _ => none }
def FnExactLongestMatchWrongFalsely : Prop := fnExactLongestMatchRow.holds Try.pinned (OpenSpec.ofChange fnExactLongestMatchWrong)

/-- 'laws.FnBestTokens': WHATEVER THE INPUT: true; the input reads as it did. -/
def fnBestTokensSpec : ChangeSpec := { name := "fnBestTokens", fn := fun _ => fun
  | [d] => { results := [.lit (.bool true)], args := [d] }
  | _ => none }
def fnBestTokensRow : OpenClaim := { program := "ytckndapolgajfaa", sum := "b64b3f9a8bf1a7adf87d48e2333d7fede7884485b61c3e5e1b8b7628e37ae375", func := "loop.example/pixelworks/laws.FnBestTokens", spec := "fnBestTokens", unfollowed := true, recurses := true, apart := false }
def FnBestTokensSaid : Prop := fnBestTokensRow.holds Try.pinned (OpenSpec.ofChange fnBestTokensSpec)

/-- ITS FALSE NEIGHBOUR: 'it returns false'. Refute it at one input. -/
def fnBestTokensWrong : ChangeSpec := { name := "fnBestTokens", fn := fun _ => fun
  | [d] => { results := [.lit (.bool false)], args := [d] }
  | _ => none }
def FnBestTokensWrongFalsely : Prop := fnBestTokensRow.holds Try.pinned (OpenSpec.ofChange fnBestTokensWrong)

/-- 'laws.FnExactExpandTokens': WHATEVER THE INPUT: true; the input reads as it did. -/
def fnExactExpandTokensSpec : ChangeSpec := { name := "fnExactExpandTokens", fn := fun _ => fun
  | [d] => { results := [.lit (.bool true)], args := [d] }
  | _ => none }
def fnExactExpandTokensRow : OpenClaim := { program := "ytckndapolgajfaa", sum := "b64b3f9a8bf1a7adf87d48e2333d7fede7884485b61c3e5e1b8b7628e37ae375", func := "loop.example/pixelworks/laws.FnExactExpandTokens", spec := "fnExactExpandTokens", apart := false }
def FnExactExpandTokensSaid : Prop := fnExactExpandTokensRow.holds Try.pinned (OpenSpec.ofChange fnExactExpandTokensSpec)

/-- ITS FALSE NEIGHBOUR: 'it returns false'. Refute it at one input. -/
def fnExactExpandTokensWrong : ChangeSpec := { name := "fnExactExpandTokens", fn := fun _ => fun
  | [d] => { results := [.lit (.bool false)], args := [d] }
  | _ => none }
def FnExactExpandTokensWrongFalsely : Prop := fnExactExpandTokensRow.holds Try.pinned (OpenSpec.ofChange fnExactExpandTokensWrong)

/-- 'laws.FnLongestMatch': WHATEVER THE INPUT: true; the input reads as it did. -/
def fnLongestMatchSpec : ChangeSpec := { name := "fnLongestMatch", fn := fun _ => fun
  | [d] => { results := [.lit (.bool true)], args := [d] }
  | _ => none }
def fnLongestMatchRow : OpenClaim := { program := "ytckndapolgajfaa", sum := "b64b3f9a8bf1a7adf87d48e2333d7fede7884485b61c3e5e1b8b7628e37ae375", func := "loop.example/pixelworks/laws.FnLongestMatch", spec := "fnLongestMatch", unfollowed := true, recurses := true, apart := false }
def FnLongestMatchSaid : Prop := fnLongestMatchRow.holds Try.pinned (OpenSpec.ofChange fnLongestMatchSpec)

/-- ITS FALSE NEIGHBOUR: 'it returns false'. Refute it at one input. -/
def fnLongestMatchWrong : ChangeSpec := { name := "fnLongestMatch", fn := fun _ => fun
  | [d] => { results := [.lit (.bool false)], args := [d] }
  | _ => none }
def FnLongestMatchWrongFalsely : Prop := fnLongestMatchRow.holds Try.pinned (OpenSpec.ofChange fnLongestMatchWrong)

/-- 'laws.FnLongestMatchBest': WHATEVER THE INPUT: true; the input reads as it did. -/
def fnLongestMatchBestSpec : ChangeSpec := { name := "fnLongestMatchBest", fn := fun _ => fun
  | [d] => { results := [.lit (.bool true)], args := [d] }
  | _ => none }
def fnLongestMatchBestRow : OpenClaim := { program := "ytckndapolgajfaa", sum := "b64b3f9a8bf1a7adf87d48e2333d7fede7884485b61c3e5e1b8b7628e37ae375", func := "loop.example/pixelworks/laws.FnLongestMatchBest", spec := "fnLongestMatchBest", unfollowed := true, recurses := true, apart := false }
def FnLongestMatchBestSaid : Prop := fnLongestMatchBestRow.holds Try.pinned (OpenSpec.ofChange fnLongestMatchBestSpec)

/-- ITS FALSE NEIGHBOUR: 'it returns false'. Refute it at one input. -/
def fnLongestMatchBestWrong : ChangeSpec := { name := "fnLongestMatchBest", fn := fun _ => fun
  | [d] => { results := [.lit (.bool false)], args := [d] }
  | _ => none }
def FnLongestMatchBestWrongFalsely : Prop := fnLongestMatchBestRow.holds Try.pinned (OpenSpec.ofChange fnLongestMatchBestWrong)

/-- 'laws.FnTokenCost': WHATEVER THE INPUT: true; the input reads as it did. -/
def fnTokenCostSpec : ChangeSpec := { name := "fnTokenCost", fn := fun _ => fun
  | [d] => { results := [.lit (.bool true)], args := [d] }
  | _ => none }
def fnTokenCostRow : OpenClaim := { program := "ytckndapolgajfaa", sum := "b64b3f9a8bf1a7adf87d48e2333d7fede7884485b61c3e5e1b8b7628e37ae375", func := "loop.example/pixelworks/laws.FnTokenCost", spec := "fnTokenCost", apart := false }
def FnTokenCostSaid : Prop := fnTokenCostRow.holds Try.pinned (OpenSpec.ofChange fnTokenCostSpec)

/-- ITS FALSE NEIGHBOUR: 'it returns false'. Refute it at one input. -/
def fnTokenCostWrong : ChangeSpec := { name := "fnTokenCost", fn := fun _ => fun
  | [d] => { results := [.lit (.bool false)], args := [d] }
  | _ => none }
def FnTokenCostWrongFalsely : Prop := fnTokenCostRow.holds Try.pinned (OpenSpec.ofChange fnTokenCostWrong)

/-- 'laws.FnExactGreedyTokens': WHATEVER THE INPUT: true; the input reads as it did. -/
def fnExactGreedyTokensSpec : ChangeSpec := { name := "fnExactGreedyTokens", fn := fun _ => fun
  | [d] => { results := [.lit (.bool true)], args := [d] }
  | _ => none }
def fnExactGreedyTokensRow : OpenClaim := { program := "ytckndapolgajfaa", sum := "b64b3f9a8bf1a7adf87d48e2333d7fede7884485b61c3e5e1b8b7628e37ae375", func := "loop.example/pixelworks/laws.FnExactGreedyTokens", spec := "fnExactGreedyTokens", unfollowed := true, recurses := true, apart := false }
def FnExactGreedyTokensSaid : Prop := fnExactGreedyTokensRow.holds Try.pinned (OpenSpec.ofChange fnExactGreedyTokensSpec)

/-- ITS FALSE NEIGHBOUR: 'it returns false'. Refute it at one input. -/
def fnExactGreedyTokensWrong : ChangeSpec := { name := "fnExactGreedyTokens", fn := fun _ => fun
  | [d] => { results := [.lit (.bool false)], args := [d] }
  | _ => none }
def FnExactGreedyTokensWrongFalsely : Prop := fnExactGreedyTokensRow.holds Try.pinned (OpenSpec.ofChange fnExactGreedyTokensWrong)

/-- 'laws.FnExactBestTokens': WHATEVER THE INPUT: true; the input reads as it did. -/
def fnExactBestTokensSpec : ChangeSpec := { name := "fnExactBestTokens", fn := fun _ => fun
  | [d] => { results := [.lit (.bool true)], args := [d] }
  | _ => none }
def fnExactBestTokensRow : OpenClaim := { program := "ytckndapolgajfaa", sum := "b64b3f9a8bf1a7adf87d48e2333d7fede7884485b61c3e5e1b8b7628e37ae375", func := "loop.example/pixelworks/laws.FnExactBestTokens", spec := "fnExactBestTokens", unfollowed := true, recurses := true, apart := false }
def FnExactBestTokensSaid : Prop := fnExactBestTokensRow.holds Try.pinned (OpenSpec.ofChange fnExactBestTokensSpec)

/-- ITS FALSE NEIGHBOUR: 'it returns false'. Refute it at one input. -/
def fnExactBestTokensWrong : ChangeSpec := { name := "fnExactBestTokens", fn := fun _ => fun
  | [d] => { results := [.lit (.bool false)], args := [d] }
  | _ => none }
def FnExactBestTokensWrongFalsely : Prop := fnExactBestTokensRow.holds Try.pinned (OpenSpec.ofChange fnExactBestTokensWrong)

/-- 'laws.FnGreedyTokens': WHATEVER THE INPUT: true; the input reads as it did. -/
def fnGreedyTokensSpec : ChangeSpec := { name := "fnGreedyTokens", fn := fun _ => fun
  | [d] => { results := [.lit (.bool true)], args := [d] }
  | _ => none }
def fnGreedyTokensRow : OpenClaim := { program := "ytckndapolgajfaa", sum := "b64b3f9a8bf1a7adf87d48e2333d7fede7884485b61c3e5e1b8b7628e37ae375", func := "loop.example/pixelworks/laws.FnGreedyTokens", spec := "fnGreedyTokens", unfollowed := true, recurses := true, apart := false }
def FnGreedyTokensSaid : Prop := fnGreedyTokensRow.holds Try.pinned (OpenSpec.ofChange fnGreedyTokensSpec)

/-- ITS FALSE NEIGHBOUR: 'it returns false'. Refute it at one input. -/
def fnGreedyTokensWrong : ChangeSpec := { name := "fnGreedyTokens", fn := fun _ => fun
  | [d] => { results := [.lit (.bool false)], args := [d] }
  | _ => none }
def FnGreedyTokensWrongFalsely : Prop := fnGreedyTokensRow.holds Try.pinned (OpenSpec.ofChange fnGreedyTokensWrong)

/-- 'laws.FnTokensOfEqualBytes': WHATEVER THE INPUT: true; the input reads as it did. -/
def fnTokensOfEqualBytesSpec : ChangeSpec := { name := "fnTokensOfEqualBytes", fn := fun _ => fun
  | [d] => { results := [.lit (.bool true)], args := [d] }
  | _ => none }
def fnTokensOfEqualBytesRow : OpenClaim := { program := "ytckndapolgajfaa", sum := "b64b3f9a8bf1a7adf87d48e2333d7fede7884485b61c3e5e1b8b7628e37ae375", func := "loop.example/pixelworks/laws.FnTokensOfEqualBytes", spec := "fnTokensOfEqualBytes", unfollowed := true, recurses := true, apart := false }
def FnTokensOfEqualBytesSaid : Prop := fnTokensOfEqualBytesRow.holds Try.pinned (OpenSpec.ofChange fnTokensOfEqualBytesSpec)

/-- ITS FALSE NEIGHBOUR: 'it returns false'. Refute it at one input. -/
def fnTokensOfEqualBytesWrong : ChangeSpec := { name := "fnTokensOfEqualBytes", fn := fun _ => fun
  | [d] => { results := [.lit (.bool false)], args := [d] }
  | _ => none }
def FnTokensOfEqualBytesWrongFalsely : Prop := fnTokensOfEqualBytesRow.holds Try.pinned (OpenSpec.ofChange fnTokensOfEqualBytesWrong)

/-- 'laws.FnBestTokensRest': WHATEVER THE INPUT: true; the input reads as it did. -/
def fnBestTokensRestSpec : ChangeSpec := { name := "fnBestTokensRest", fn := fun _ => fun
  | [d] => { results := [.lit (.bool true)], args := [d] }
  | _ => none }
def fnBestTokensRestRow : OpenClaim := { program := "ytckndapolgajfaa", sum := "b64b3f9a8bf1a7adf87d48e2333d7fede7884485b61c3e5e1b8b7628e37ae375", func := "loop.example/pixelworks/laws.FnBestTokensRest", spec := "fnBestTokensRest", unfollowed := true, recurses := true, apart := false }
def FnBestTokensRestSaid : Prop := fnBestTokensRestRow.holds Try.pinned (OpenSpec.ofChange fnBestTokensRestSpec)

/-- ITS FALSE NEIGHBOUR: 'it returns false'. Refute it at one input. -/
def fnBestTokensRestWrong : ChangeSpec := { name := "fnBestTokensRest", fn := fun _ => fun
  | [d] => { results := [.lit (.bool false)], args := [d] }
  | _ => none }
def FnBestTokensRestWrongFalsely : Prop := fnBestTokensRestRow.holds Try.pinned (OpenSpec.ofChange fnBestTokensRestWrong)

/- THE SECOND FORM. 'bulk': how many values and letters a reading holds, each counted each time it is reached (what is shared counts as often as it is met; a slice's spare places count too). A statement '..UptoSaid' is the law's where the arguments, and the package variables that the reading takes, are together of bulk at most 1048576: NARROWER than '..Said'. Prove '..Said' where nothing that the law and all that it calls make is longer than what came in: it says more and counts as full. Else prove '..UptoSaid'. A law counts once. -/
mutual
def uptoBulk {H : Type} : DataW H → Nat
  | .lit (.string bytes) => bytes.length + 1
  | .lit _ => 1
  | .nil => 1
  | .ptr d => uptoBulk d + 1
  | .slice elems spare => uptoBulkAll elems + uptoBulkAll spare + 1
  | .agg parts => uptoBulkAll parts + 1
  | .iface _ d => uptoBulk d + 1
  | .map entries => uptoBulkEntries entries + 1
  | .held _ => 1
def uptoBulkAll {H : Type} : List (DataW H) → Nat
  | [] => 0
  | d :: r => uptoBulk d + uptoBulkAll r
def uptoBulkEntries {H : Type} : List (Lit × DataW H) → Nat
  | [] => 0
  | x :: r => uptoBulkEntry x + uptoBulkEntries r
def uptoBulkEntry {H : Type} : Lit × DataW H → Nat
  | (.string bytes, d) => bytes.length + uptoBulk d + 1
  | (_, d) => uptoBulk d + 1
 end
def uptoSmall : (H : Type) → List (DataW H) → Bool := fun _ ds => decide (uptoBulkAll ds ≤ 1048576)
def OpenSpec.upto (s : _root_.Go.ChangeSpec) : _root_.Go.OpenSpec := { _root_.Go.OpenSpec.ofChange s with cond := some uptoSmall }

/-- 'laws.FnExactCanonicalCodes', WHERE WHAT IT READS IS OF BULK AT MOST 1048576: true; the input reads as it did. -/
def fnExactCanonicalCodesUptoRow : OpenClaim := { program := "ytckndapolgajfaa", sum := "b64b3f9a8bf1a7adf87d48e2333d7fede7884485b61c3e5e1b8b7628e37ae375", func := "loop.example/pixelworks/laws.FnExactCanonicalCodes", spec := "fnExactCanonicalCodes", apart := false, narrowed := true }
def FnExactCanonicalCodesUptoSaid : Prop := fnExactCanonicalCodesUptoRow.holds Try.pinned (OpenSpec.upto fnExactCanonicalCodesSpec)

/-- 'laws.FnExpandTokens', WHERE WHAT IT READS IS OF BULK AT MOST 1048576: true; the input reads as it did. -/
def fnExpandTokensUptoRow : OpenClaim := { program := "ytckndapolgajfaa", sum := "b64b3f9a8bf1a7adf87d48e2333d7fede7884485b61c3e5e1b8b7628e37ae375", func := "loop.example/pixelworks/laws.FnExpandTokens", spec := "fnExpandTokens", unfollowed := true, recurses := true, apart := false, narrowed := true }
def FnExpandTokensUptoSaid : Prop := fnExpandTokensUptoRow.holds Try.pinned (OpenSpec.upto fnExpandTokensSpec)

/-- 'laws.FnExactTokenCost', WHERE WHAT IT READS IS OF BULK AT MOST 1048576: true; the input reads as it did. -/
def fnExactTokenCostUptoRow : OpenClaim := { program := "ytckndapolgajfaa", sum := "b64b3f9a8bf1a7adf87d48e2333d7fede7884485b61c3e5e1b8b7628e37ae375", func := "loop.example/pixelworks/laws.FnExactTokenCost", spec := "fnExactTokenCost", apart := false, narrowed := true }
def FnExactTokenCostUptoSaid : Prop := fnExactTokenCostUptoRow.holds Try.pinned (OpenSpec.upto fnExactTokenCostSpec)

/-- 'laws.FnExactLongestMatch', WHERE WHAT IT READS IS OF BULK AT MOST 1048576: true; the input reads as it did. -/
def fnExactLongestMatchUptoRow : OpenClaim := { program := "ytckndapolgajfaa", sum := "b64b3f9a8bf1a7adf87d48e2333d7fede7884485b61c3e5e1b8b7628e37ae375", func := "loop.example/pixelworks/laws.FnExactLongestMatch", spec := "fnExactLongestMatch", unfollowed := true, recurses := true, apart := false, narrowed := true }
def FnExactLongestMatchUptoSaid : Prop := fnExactLongestMatchUptoRow.holds Try.pinned (OpenSpec.upto fnExactLongestMatchSpec)

/-- 'laws.FnBestTokens', WHERE WHAT IT READS IS OF BULK AT MOST 1048576: true; the input reads as it did. -/
def fnBestTokensUptoRow : OpenClaim := { program := "ytckndapolgajfaa", sum := "b64b3f9a8bf1a7adf87d48e2333d7fede7884485b61c3e5e1b8b7628e37ae375", func := "loop.example/pixelworks/laws.FnBestTokens", spec := "fnBestTokens", unfollowed := true, recurses := true, apart := false, narrowed := true }
def FnBestTokensUptoSaid : Prop := fnBestTokensUptoRow.holds Try.pinned (OpenSpec.upto fnBestTokensSpec)

/-- 'laws.FnExactExpandTokens', WHERE WHAT IT READS IS OF BULK AT MOST 1048576: true; the input reads as it did. -/
def fnExactExpandTokensUptoRow : OpenClaim := { program := "ytckndapolgajfaa", sum := "b64b3f9a8bf1a7adf87d48e2333d7fede7884485b61c3e5e1b8b7628e37ae375", func := "loop.example/pixelworks/laws.FnExactExpandTokens", spec := "fnExactExpandTokens", apart := false, narrowed := true }
def FnExactExpandTokensUptoSaid : Prop := fnExactExpandTokensUptoRow.holds Try.pinned (OpenSpec.upto fnExactExpandTokensSpec)

/-- 'laws.FnLongestMatch', WHERE WHAT IT READS IS OF BULK AT MOST 1048576: true; the input reads as it did. -/
def fnLongestMatchUptoRow : OpenClaim := { program := "ytckndapolgajfaa", sum := "b64b3f9a8bf1a7adf87d48e2333d7fede7884485b61c3e5e1b8b7628e37ae375", func := "loop.example/pixelworks/laws.FnLongestMatch", spec := "fnLongestMatch", unfollowed := true, recurses := true, apart := false, narrowed := true }
def FnLongestMatchUptoSaid : Prop := fnLongestMatchUptoRow.holds Try.pinned (OpenSpec.upto fnLongestMatchSpec)

/-- 'laws.FnLongestMatchBest', WHERE WHAT IT READS IS OF BULK AT MOST 1048576: true; the input reads as it did. -/
def fnLongestMatchBestUptoRow : OpenClaim := { program := "ytckndapolgajfaa", sum := "b64b3f9a8bf1a7adf87d48e2333d7fede7884485b61c3e5e1b8b7628e37ae375", func := "loop.example/pixelworks/laws.FnLongestMatchBest", spec := "fnLongestMatchBest", unfollowed := true, recurses := true, apart := false, narrowed := true }
def FnLongestMatchBestUptoSaid : Prop := fnLongestMatchBestUptoRow.holds Try.pinned (OpenSpec.upto fnLongestMatchBestSpec)

/-- 'laws.FnTokenCost', WHERE WHAT IT READS IS OF BULK AT MOST 1048576: true; the input reads as it did. -/
def fnTokenCostUptoRow : OpenClaim := { program := "ytckndapolgajfaa", sum := "b64b3f9a8bf1a7adf87d48e2333d7fede7884485b61c3e5e1b8b7628e37ae375", func := "loop.example/pixelworks/laws.FnTokenCost", spec := "fnTokenCost", apart := false, narrowed := true }
def FnTokenCostUptoSaid : Prop := fnTokenCostUptoRow.holds Try.pinned (OpenSpec.upto fnTokenCostSpec)

/-- 'laws.FnExactGreedyTokens', WHERE WHAT IT READS IS OF BULK AT MOST 1048576: true; the input reads as it did. -/
def fnExactGreedyTokensUptoRow : OpenClaim := { program := "ytckndapolgajfaa", sum := "b64b3f9a8bf1a7adf87d48e2333d7fede7884485b61c3e5e1b8b7628e37ae375", func := "loop.example/pixelworks/laws.FnExactGreedyTokens", spec := "fnExactGreedyTokens", unfollowed := true, recurses := true, apart := false, narrowed := true }
def FnExactGreedyTokensUptoSaid : Prop := fnExactGreedyTokensUptoRow.holds Try.pinned (OpenSpec.upto fnExactGreedyTokensSpec)

/-- 'laws.FnExactBestTokens', WHERE WHAT IT READS IS OF BULK AT MOST 1048576: true; the input reads as it did. -/
def fnExactBestTokensUptoRow : OpenClaim := { program := "ytckndapolgajfaa", sum := "b64b3f9a8bf1a7adf87d48e2333d7fede7884485b61c3e5e1b8b7628e37ae375", func := "loop.example/pixelworks/laws.FnExactBestTokens", spec := "fnExactBestTokens", unfollowed := true, recurses := true, apart := false, narrowed := true }
def FnExactBestTokensUptoSaid : Prop := fnExactBestTokensUptoRow.holds Try.pinned (OpenSpec.upto fnExactBestTokensSpec)

/-- 'laws.FnGreedyTokens', WHERE WHAT IT READS IS OF BULK AT MOST 1048576: true; the input reads as it did. -/
def fnGreedyTokensUptoRow : OpenClaim := { program := "ytckndapolgajfaa", sum := "b64b3f9a8bf1a7adf87d48e2333d7fede7884485b61c3e5e1b8b7628e37ae375", func := "loop.example/pixelworks/laws.FnGreedyTokens", spec := "fnGreedyTokens", unfollowed := true, recurses := true, apart := false, narrowed := true }
def FnGreedyTokensUptoSaid : Prop := fnGreedyTokensUptoRow.holds Try.pinned (OpenSpec.upto fnGreedyTokensSpec)

/-- 'laws.FnTokensOfEqualBytes', WHERE WHAT IT READS IS OF BULK AT MOST 1048576: true; the input reads as it did. -/
def fnTokensOfEqualBytesUptoRow : OpenClaim := { program := "ytckndapolgajfaa", sum := "b64b3f9a8bf1a7adf87d48e2333d7fede7884485b61c3e5e1b8b7628e37ae375", func := "loop.example/pixelworks/laws.FnTokensOfEqualBytes", spec := "fnTokensOfEqualBytes", unfollowed := true, recurses := true, apart := false, narrowed := true }
def FnTokensOfEqualBytesUptoSaid : Prop := fnTokensOfEqualBytesUptoRow.holds Try.pinned (OpenSpec.upto fnTokensOfEqualBytesSpec)

/-- 'laws.FnBestTokensRest', WHERE WHAT IT READS IS OF BULK AT MOST 1048576: true; the input reads as it did. -/
def fnBestTokensRestUptoRow : OpenClaim := { program := "ytckndapolgajfaa", sum := "b64b3f9a8bf1a7adf87d48e2333d7fede7884485b61c3e5e1b8b7628e37ae375", func := "loop.example/pixelworks/laws.FnBestTokensRest", spec := "fnBestTokensRest", unfollowed := true, recurses := true, apart := false, narrowed := true }
def FnBestTokensRestUptoSaid : Prop := fnBestTokensRestUptoRow.holds Try.pinned (OpenSpec.upto fnBestTokensRestSpec)

end Rows
end Go.Proofs.Ytckndapolgajfaa
