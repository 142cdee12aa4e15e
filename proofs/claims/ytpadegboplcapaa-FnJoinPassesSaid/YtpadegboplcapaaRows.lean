/-
  No cell of these rows narrows 'for every input' (looked for: loops, veiled, ifaces, maps, wideKeys, modest, calm, conditions, laid).
  DERIVED. THE GIVEN ROWS OF THIS SEAT. 7 by the template 'for every input the law returns true; each argument reads behind the call as it read before'; 0 by the template 'total and deterministic' (their statements: YtpadegboplcapaaTotals.lean).
  GIVEN WITH THE SEED: the statements are not yours to turn. If you find one false, say at which input.
  Laid BY PROGRAM, IN A SANDBOX (cutbox-rows.mjs): the forced cells as the released guide's own fill.sh prints them over the translation 9e0831efff49d522… (all of the seat's roots in one cut). By AI agents, Wed Nov 11 2026. No macro, syntax, notation, axiom, sorry.
-/
import Derived.Test.YtpadegboplcapaaChecked
import GoSem.Claim
import GoSem.ClaimJoined
import GoSem.ClaimMapViews
import Derived.JoinedTies
import Derived.KernelRfl
namespace Go.Proofs.Ytpadegboplcapaa
/- THE CELL 'sum', in the pinned program and in every row, IS THE sha256 OF THE DUMP (.gsa) THAT YtpadegboplcapaaProg.lean LOADS. Nothing in Lean hashes anything: it is a label: what it is worth is what the hold of that sum in a sandbox is worth. -/
noncomputable def Try.pinned : Pinned := { name := "ytpadegboplcapaa", sum := "9e0831efff49d522da2cedcc02d8ba31e8ec6e9f17fffda0a5fbab4813a87729", checked := Try.checked }
namespace Rows
def none {H : Type} : Left H := { results := [], args := [] }

/-- 'laws.FnExactPassSize': WHATEVER THE INPUT: true; the input reads as it did. -/
def fnExactPassSizeSpec : ChangeSpec := { name := "fnExactPassSize", fn := fun _ => fun
  | [d1, d2, d3] => { results := [.lit (.bool true)], args := [d1, d2, d3] }
  | _ => none }
def fnExactPassSizeRow : OpenClaim := { program := "ytpadegboplcapaa", sum := "9e0831efff49d522da2cedcc02d8ba31e8ec6e9f17fffda0a5fbab4813a87729", func := "loop.example/pixelworks/laws.FnExactPassSize", spec := "fnExactPassSize", apart := false }
def FnExactPassSizeSaid : Prop := fnExactPassSizeRow.holds Try.pinned (OpenSpec.ofChange fnExactPassSizeSpec)

/-- ITS FALSE NEIGHBOUR: 'it returns false'. Refute it at one input. -/
def fnExactPassSizeWrong : ChangeSpec := { name := "fnExactPassSize", fn := fun _ => fun
  | [d1, d2, d3] => { results := [.lit (.bool false)], args := [d1, d2, d3] }
  | _ => none }
def FnExactPassSizeWrongFalsely : Prop := fnExactPassSizeRow.holds Try.pinned (OpenSpec.ofChange fnExactPassSizeWrong)

/-- 'laws.FnPassSize': WHATEVER THE INPUT: true; the input reads as it did. -/
def fnPassSizeSpec : ChangeSpec := { name := "fnPassSize", fn := fun _ => fun
  | [d] => { results := [.lit (.bool true)], args := [d] }
  | _ => none }
def fnPassSizeRow : OpenClaim := { program := "ytpadegboplcapaa", sum := "9e0831efff49d522da2cedcc02d8ba31e8ec6e9f17fffda0a5fbab4813a87729", func := "loop.example/pixelworks/laws.FnPassSize", spec := "fnPassSize", apart := false }
def FnPassSizeSaid : Prop := fnPassSizeRow.holds Try.pinned (OpenSpec.ofChange fnPassSizeSpec)

/-- ITS FALSE NEIGHBOUR: 'it returns false'. Refute it at one input. -/
def fnPassSizeWrong : ChangeSpec := { name := "fnPassSize", fn := fun _ => fun
  | [d] => { results := [.lit (.bool false)], args := [d] }
  | _ => none }
def FnPassSizeWrongFalsely : Prop := fnPassSizeRow.holds Try.pinned (OpenSpec.ofChange fnPassSizeWrong)

/-- 'laws.FnJoinPasses': WHATEVER THE INPUT: true; the input reads as it did. -/
def fnJoinPassesSpec : ChangeSpec := { name := "fnJoinPasses", fn := fun _ => fun
  | [d] => { results := [.lit (.bool true)], args := [d] }
  | _ => none }
def fnJoinPassesRow : OpenClaim := { program := "ytpadegboplcapaa", sum := "9e0831efff49d522da2cedcc02d8ba31e8ec6e9f17fffda0a5fbab4813a87729", func := "loop.example/pixelworks/laws.FnJoinPasses", spec := "fnJoinPasses", unfollowed := true, recurses := true, apart := false }
def FnJoinPassesSaid : Prop := fnJoinPassesRow.holds Try.pinned (OpenSpec.ofChange fnJoinPassesSpec)

/-- ITS FALSE NEIGHBOUR: 'it returns false'. Refute it at one input. -/
def fnJoinPassesWrong : ChangeSpec := { name := "fnJoinPasses", fn := fun _ => fun
  | [d] => { results := [.lit (.bool false)], args := [d] }
  | _ => none }
def FnJoinPassesWrongFalsely : Prop := fnJoinPassesRow.holds Try.pinned (OpenSpec.ofChange fnJoinPassesWrong)

/-- 'laws.FnExactPassData': WHATEVER THE INPUT: true; the input reads as it did. -/
def fnExactPassDataSpec : ChangeSpec := { name := "fnExactPassData", fn := fun _ => fun
  | [d1, d2] => { results := [.lit (.bool true)], args := [d1, d2] }
  | _ => none }
def fnExactPassDataRow : OpenClaim := { program := "ytpadegboplcapaa", sum := "9e0831efff49d522da2cedcc02d8ba31e8ec6e9f17fffda0a5fbab4813a87729", func := "loop.example/pixelworks/laws.FnExactPassData", spec := "fnExactPassData", unfollowed := true, recurses := true, apart := false }
def FnExactPassDataSaid : Prop := fnExactPassDataRow.holds Try.pinned (OpenSpec.ofChange fnExactPassDataSpec)

/-- ITS FALSE NEIGHBOUR: 'it returns false'. Refute it at one input. -/
def fnExactPassDataWrong : ChangeSpec := { name := "fnExactPassData", fn := fun _ => fun
  | [d1, d2] => { results := [.lit (.bool false)], args := [d1, d2] }
  | _ => none }
def FnExactPassDataWrongFalsely : Prop := fnExactPassDataRow.holds Try.pinned (OpenSpec.ofChange fnExactPassDataWrong)

/-- 'laws.FnPassData': WHATEVER THE INPUT: true; the input reads as it did. -/
def fnPassDataSpec : ChangeSpec := { name := "fnPassData", fn := fun _ => fun
  | [d] => { results := [.lit (.bool true)], args := [d] }
  | _ => none }
def fnPassDataRow : OpenClaim := { program := "ytpadegboplcapaa", sum := "9e0831efff49d522da2cedcc02d8ba31e8ec6e9f17fffda0a5fbab4813a87729", func := "loop.example/pixelworks/laws.FnPassData", spec := "fnPassData", unfollowed := true, recurses := true, apart := false }
def FnPassDataSaid : Prop := fnPassDataRow.holds Try.pinned (OpenSpec.ofChange fnPassDataSpec)

/-- ITS FALSE NEIGHBOUR: 'it returns false'. Refute it at one input. -/
def fnPassDataWrong : ChangeSpec := { name := "fnPassData", fn := fun _ => fun
  | [d] => { results := [.lit (.bool false)], args := [d] }
  | _ => none }
def FnPassDataWrongFalsely : Prop := fnPassDataRow.holds Try.pinned (OpenSpec.ofChange fnPassDataWrong)

/-- 'laws.FnPassRoundTrip': WHATEVER THE INPUT: true; the input reads as it did. -/
def fnPassRoundTripSpec : ChangeSpec := { name := "fnPassRoundTrip", fn := fun _ => fun
  | [d] => { results := [.lit (.bool true)], args := [d] }
  | _ => none }
def fnPassRoundTripRow : OpenClaim := { program := "ytpadegboplcapaa", sum := "9e0831efff49d522da2cedcc02d8ba31e8ec6e9f17fffda0a5fbab4813a87729", func := "loop.example/pixelworks/laws.FnPassRoundTrip", spec := "fnPassRoundTrip", unfollowed := true, recurses := true, apart := false }
def FnPassRoundTripSaid : Prop := fnPassRoundTripRow.holds Try.pinned (OpenSpec.ofChange fnPassRoundTripSpec)

/-- ITS FALSE NEIGHBOUR: 'it returns false'. Refute it at one input. -/
def fnPassRoundTripWrong : ChangeSpec := { name := "fnPassRoundTrip", fn := fun _ => fun
  | [d] => { results := [.lit (.bool false)], args := [d] }
  | _ => none }
def FnPassRoundTripWrongFalsely : Prop := fnPassRoundTripRow.holds Try.pinned (OpenSpec.ofChange fnPassRoundTripWrong)

/-- 'laws.FnExactJoinPasses': WHATEVER THE INPUT: true; the input reads as it did. -/
def fnExactJoinPassesSpec : ChangeSpec := { name := "fnExactJoinPasses", fn := fun _ => fun
  | [d1, d2, d3, d4] => { results := [.lit (.bool true)], args := [d1, d2, d3, d4] }
  | _ => none }
def fnExactJoinPassesRow : OpenClaim := { program := "ytpadegboplcapaa", sum := "9e0831efff49d522da2cedcc02d8ba31e8ec6e9f17fffda0a5fbab4813a87729", func := "loop.example/pixelworks/laws.FnExactJoinPasses", spec := "fnExactJoinPasses", unfollowed := true, recurses := true, apart := false }
def FnExactJoinPassesSaid : Prop := fnExactJoinPassesRow.holds Try.pinned (OpenSpec.ofChange fnExactJoinPassesSpec)

/-- ITS FALSE NEIGHBOUR: 'it returns false'. Refute it at one input. -/
def fnExactJoinPassesWrong : ChangeSpec := { name := "fnExactJoinPasses", fn := fun _ => fun
  | [d1, d2, d3, d4] => { results := [.lit (.bool false)], args := [d1, d2, d3, d4] }
  | _ => none }
def FnExactJoinPassesWrongFalsely : Prop := fnExactJoinPassesRow.holds Try.pinned (OpenSpec.ofChange fnExactJoinPassesWrong)

/- THE SECOND FORM. 'bulk': how many values and letters a reading holds, each counted each time it is reached (what is shared counts as often as it is met; a slice's spare places count too). A statement '..UptoSaid' is the law's where the arguments, and the package variables that the reading takes, are together of bulk at most 1048576: NARROWER than '..Said'. Prove '..Said' where nothing that the law and all that it calls make is longer than what came in: it says more and counts as full. Else prove '..UptoSaid'. A law counts once. -/
mutual
def uptoBulk {H : Type} : DataW H → Nat
  | .lit (.string bytes) => bytes.length + 1
  | .lit _ => 1
  | .nil => 1
  | .ptr d => uptoBulk d + 1
  | .slice elems spare => uptoBulkAll elems + uptoBulkAll spare + 1
  | .agg parts => uptoBulkAll parts + 1
  | .iface _ d => uptoBulk d + 1
  | .map entries => uptoBulkEntries entries + 1
  | .held _ => 1
def uptoBulkAll {H : Type} : List (DataW H) → Nat
  | [] => 0
  | d :: r => uptoBulk d + uptoBulkAll r
def uptoBulkEntries {H : Type} : List (Lit × DataW H) → Nat
  | [] => 0
  | x :: r => uptoBulkEntry x + uptoBulkEntries r
def uptoBulkEntry {H : Type} : Lit × DataW H → Nat
  | (.string bytes, d) => bytes.length + uptoBulk d + 1
  | (_, d) => uptoBulk d + 1
 end
def uptoSmall : (H : Type) → List (DataW H) → Bool := fun _ ds => decide (uptoBulkAll ds ≤ 1048576)
def OpenSpec.upto (s : _root_.Go.ChangeSpec) : _root_.Go.OpenSpec := { _root_.Go.OpenSpec.ofChange s with cond := some uptoSmall }

/-- 'laws.FnExactPassSize', WHERE WHAT IT READS IS OF BULK AT MOST 1048576: true; the input reads as it did. -/
def fnExactPassSizeUptoRow : OpenClaim := { program := "ytpadegboplcapaa", sum := "9e0831efff49d522da2cedcc02d8ba31e8ec6e9f17fffda0a5fbab4813a87729", func := "loop.example/pixelworks/laws.FnExactPassSize", spec := "fnExactPassSize", apart := false, narrowed := true }
def FnExactPassSizeUptoSaid : Prop := fnExactPassSizeUptoRow.holds Try.pinned (OpenSpec.upto fnExactPassSizeSpec)

/-- 'laws.FnPassSize', WHERE WHAT IT READS IS OF BULK AT MOST 1048576: true; the input reads as it did. -/
def fnPassSizeUptoRow : OpenClaim := { program := "ytpadegboplcapaa", sum := "9e0831efff49d522da2cedcc02d8ba31e8ec6e9f17fffda0a5fbab4813a87729", func := "loop.example/pixelworks/laws.FnPassSize", spec := "fnPassSize", apart := false, narrowed := true }
def FnPassSizeUptoSaid : Prop := fnPassSizeUptoRow.holds Try.pinned (OpenSpec.upto fnPassSizeSpec)

/-- 'laws.FnJoinPasses', WHERE WHAT IT READS IS OF BULK AT MOST 1048576: true; the input reads as it did. -/
def fnJoinPassesUptoRow : OpenClaim := { program := "ytpadegboplcapaa", sum := "9e0831efff49d522da2cedcc02d8ba31e8ec6e9f17fffda0a5fbab4813a87729", func := "loop.example/pixelworks/laws.FnJoinPasses", spec := "fnJoinPasses", unfollowed := true, recurses := true, apart := false, narrowed := true }
def FnJoinPassesUptoSaid : Prop := fnJoinPassesUptoRow.holds Try.pinned (OpenSpec.upto fnJoinPassesSpec)

/-- 'laws.FnExactPassData', WHERE WHAT IT READS IS OF BULK AT MOST 1048576: true; the input reads as it did. -/
def fnExactPassDataUptoRow : OpenClaim := { program := "ytpadegboplcapaa", sum := "9e0831efff49d522da2cedcc02d8ba31e8ec6e9f17fffda0a5fbab4813a87729", func := "loop.example/pixelworks/laws.FnExactPassData", spec := "fnExactPassData", unfollowed := true, recurses := true, apart := false, narrowed := true }
def FnExactPassDataUptoSaid : Prop := fnExactPassDataUptoRow.holds Try.pinned (OpenSpec.upto fnExactPassDataSpec)

/-- 'laws.FnPassData', WHERE WHAT IT READS IS OF BULK AT MOST 1048576: true; the input reads as it did. -/
def fnPassDataUptoRow : OpenClaim := { program := "ytpadegboplcapaa", sum := "9e0831efff49d522da2cedcc02d8ba31e8ec6e9f17fffda0a5fbab4813a87729", func := "loop.example/pixelworks/laws.FnPassData", spec := "fnPassData", unfollowed := true, recurses := true, apart := false, narrowed := true }
def FnPassDataUptoSaid : Prop := fnPassDataUptoRow.holds Try.pinned (OpenSpec.upto fnPassDataSpec)

/-- 'laws.FnPassRoundTrip', WHERE WHAT IT READS IS OF BULK AT MOST 1048576: true; the input reads as it did. -/
def fnPassRoundTripUptoRow : OpenClaim := { program := "ytpadegboplcapaa", sum := "9e0831efff49d522da2cedcc02d8ba31e8ec6e9f17fffda0a5fbab4813a87729", func := "loop.example/pixelworks/laws.FnPassRoundTrip", spec := "fnPassRoundTrip", unfollowed := true, recurses := true, apart := false, narrowed := true }
def FnPassRoundTripUptoSaid : Prop := fnPassRoundTripUptoRow.holds Try.pinned (OpenSpec.upto fnPassRoundTripSpec)

/-- 'laws.FnExactJoinPasses', WHERE WHAT IT READS IS OF BULK AT MOST 1048576: true; the input reads as it did. -/
def fnExactJoinPassesUptoRow : OpenClaim := { program := "ytpadegboplcapaa", sum := "9e0831efff49d522da2cedcc02d8ba31e8ec6e9f17fffda0a5fbab4813a87729", func := "loop.example/pixelworks/laws.FnExactJoinPasses", spec := "fnExactJoinPasses", unfollowed := true, recurses := true, apart := false, narrowed := true }
def FnExactJoinPassesUptoSaid : Prop := fnExactJoinPassesUptoRow.holds Try.pinned (OpenSpec.upto fnExactJoinPassesSpec)

end Rows
end Go.Proofs.Ytpadegboplcapaa
