/-
  No cell of these rows narrows 'for every input' (looked for: loops, veiled, ifaces, maps, wideKeys, modest, calm, conditions, laid).
  DERIVED. THE GIVEN ROWS OF THIS SEAT. 10 by the template 'for every input the law returns true; each argument reads behind the call as it read before'; 0 by the template 'total and deterministic' (their statements: YtikgepiglmnehaaTotals.lean).
  GIVEN WITH THE SEED: the statements are not yours to turn. If you find one false, say at which input.
  Laid BY PROGRAM, IN A SANDBOX (cutbox-rows.mjs): the forced cells as the released guide's own fill.sh prints them over the translation da594dd8b6608094… (all of the seat's roots in one cut). By AI agents, Wed Nov 11 2026. No macro, syntax, notation, axiom, sorry.
-/
import Derived.Test.YtikgepiglmnehaaChecked
import GoSem.Claim
import GoSem.ClaimJoined
import GoSem.ClaimMapViews
import Derived.JoinedTies
import Derived.KernelRfl
namespace Go.Proofs.Ytikgepiglmnehaa
/- THE CELL 'sum', in the pinned program and in every row, IS THE sha256 OF THE DUMP (.gsa) THAT YtikgepiglmnehaaProg.lean LOADS. Nothing in Lean hashes anything: it is a label: what it is worth is what the hold of that sum in a sandbox is worth. -/
noncomputable def Try.pinned : Pinned := { name := "ytikgepiglmnehaa", sum := "da594dd8b6608094f1ad7895f9c69b84ac3986e60058a2320ad9da7c89d2fd2c", checked := Try.checked }
namespace Rows
def none {H : Type} : Left H := { results := [], args := [] }

/-- 'laws.FnExactConstants': WHATEVER THE INPUT: true; the input reads as it did. -/
def fnExactConstantsSpec : ChangeSpec := { name := "fnExactConstants", fn := fun _ => fun
  | [] => { results := [.lit (.bool true)], args := [] }
  | _ => none }
def fnExactConstantsRow : OpenClaim := { program := "ytikgepiglmnehaa", sum := "da594dd8b6608094f1ad7895f9c69b84ac3986e60058a2320ad9da7c89d2fd2c", func := "loop.example/pixelworks/laws.FnExactConstants", spec := "fnExactConstants", apart := false }
def FnExactConstantsSaid : Prop := fnExactConstantsRow.holds Try.pinned (OpenSpec.ofChange fnExactConstantsSpec)

/-- ITS FALSE NEIGHBOUR: 'it returns false'. Refute it at one input. -/
def fnExactConstantsWrong : ChangeSpec := { name := "fnExactConstants", fn := fun _ => fun
  | [] => { results := [.lit (.bool false)], args := [] }
  | _ => none }
def FnExactConstantsWrongFalsely : Prop := fnExactConstantsRow.holds Try.pinned (OpenSpec.ofChange fnExactConstantsWrong)

/-- 'laws.FnExactExpandDepth': WHATEVER THE INPUT: true; the input reads as it did. -/
def fnExactExpandDepthSpec : ChangeSpec := { name := "fnExactExpandDepth", fn := fun _ => fun
  | [d1, d2] => { results := [.lit (.bool true)], args := [d1, d2] }
  | _ => none }
def fnExactExpandDepthRow : OpenClaim := { program := "ytikgepiglmnehaa", sum := "da594dd8b6608094f1ad7895f9c69b84ac3986e60058a2320ad9da7c89d2fd2c", func := "loop.example/pixelworks/laws.FnExactExpandDepth", spec := "fnExactExpandDepth", apart := false }
def FnExactExpandDepthSaid : Prop := fnExactExpandDepthRow.holds Try.pinned (OpenSpec.ofChange fnExactExpandDepthSpec)

/-- ITS FALSE NEIGHBOUR: 'it returns false'. Refute it at one input. -/
def fnExactExpandDepthWrong : ChangeSpec := { name := "fnExactExpandDepth", fn := fun _ => fun
  | [d1, d2] => { results := [.lit (.bool false)], args := [d1, d2] }
  | _ => none }
def FnExactExpandDepthWrongFalsely : Prop := fnExactExpandDepthRow.holds Try.pinned (OpenSpec.ofChange fnExactExpandDepthWrong)

/-- 'laws.FnExactReduceDepth': WHATEVER THE INPUT: true; the input reads as it did. -/
def fnExactReduceDepthSpec : ChangeSpec := { name := "fnExactReduceDepth", fn := fun _ => fun
  | [d1, d2] => { results := [.lit (.bool true)], args := [d1, d2] }
  | _ => none }
def fnExactReduceDepthRow : OpenClaim := { program := "ytikgepiglmnehaa", sum := "da594dd8b6608094f1ad7895f9c69b84ac3986e60058a2320ad9da7c89d2fd2c", func := "loop.example/pixelworks/laws.FnExactReduceDepth", spec := "fnExactReduceDepth", apart := false }
def FnExactReduceDepthSaid : Prop := fnExactReduceDepthRow.holds Try.pinned (OpenSpec.ofChange fnExactReduceDepthSpec)

/-- ITS FALSE NEIGHBOUR: 'it returns false'. Refute it at one input. -/
def fnExactReduceDepthWrong : ChangeSpec := { name := "fnExactReduceDepth", fn := fun _ => fun
  | [d1, d2] => { results := [.lit (.bool false)], args := [d1, d2] }
  | _ => none }
def FnExactReduceDepthWrongFalsely : Prop := fnExactReduceDepthRow.holds Try.pinned (OpenSpec.ofChange fnExactReduceDepthWrong)

/-- 'laws.FnExpandDepth': WHATEVER THE INPUT: true; the input reads as it did. -/
def fnExpandDepthSpec : ChangeSpec := { name := "fnExpandDepth", fn := fun _ => fun
  | [d] => { results := [.lit (.bool true)], args := [d] }
  | _ => none }
def fnExpandDepthRow : OpenClaim := { program := "ytikgepiglmnehaa", sum := "da594dd8b6608094f1ad7895f9c69b84ac3986e60058a2320ad9da7c89d2fd2c", func := "loop.example/pixelworks/laws.FnExpandDepth", spec := "fnExpandDepth", apart := false }
def FnExpandDepthSaid : Prop := fnExpandDepthRow.holds Try.pinned (OpenSpec.ofChange fnExpandDepthSpec)

/-- ITS FALSE NEIGHBOUR: 'it returns false'. Refute it at one input. -/
def fnExpandDepthWrong : ChangeSpec := { name := "fnExpandDepth", fn := fun _ => fun
  | [d] => { results := [.lit (.bool false)], args := [d] }
  | _ => none }
def FnExpandDepthWrongFalsely : Prop := fnExpandDepthRow.holds Try.pinned (OpenSpec.ofChange fnExpandDepthWrong)

/-- 'laws.FnReduceDepth': WHATEVER THE INPUT: true; the input reads as it did. -/
def fnReduceDepthSpec : ChangeSpec := { name := "fnReduceDepth", fn := fun _ => fun
  | [d] => { results := [.lit (.bool true)], args := [d] }
  | _ => none }
def fnReduceDepthRow : OpenClaim := { program := "ytikgepiglmnehaa", sum := "da594dd8b6608094f1ad7895f9c69b84ac3986e60058a2320ad9da7c89d2fd2c", func := "loop.example/pixelworks/laws.FnReduceDepth", spec := "fnReduceDepth", apart := false }
def FnReduceDepthSaid : Prop := fnReduceDepthRow.holds Try.pinned (OpenSpec.ofChange fnReduceDepthSpec)

/-- ITS FALSE NEIGHBOUR: 'it returns false'. Refute it at one input. -/
def fnReduceDepthWrong : ChangeSpec := { name := "fnReduceDepth", fn := fun _ => fun
  | [d] => { results := [.lit (.bool false)], args := [d] }
  | _ => none }
def FnReduceDepthWrongFalsely : Prop := fnReduceDepthRow.holds Try.pinned (OpenSpec.ofChange fnReduceDepthWrong)

/-- 'laws.FnExactPackRow': WHATEVER THE INPUT: true; the input reads as it did. -/
def fnExactPackRowSpec : ChangeSpec := { name := "fnExactPackRow", fn := fun _ => fun
  | [d1, d2] => { results := [.lit (.bool true)], args := [d1, d2] }
  | _ => none }
def fnExactPackRowRow : OpenClaim := { program := "ytikgepiglmnehaa", sum := "da594dd8b6608094f1ad7895f9c69b84ac3986e60058a2320ad9da7c89d2fd2c", func := "loop.example/pixelworks/laws.FnExactPackRow", spec := "fnExactPackRow", unfollowed := true, recurses := true, apart := false }
def FnExactPackRowSaid : Prop := fnExactPackRowRow.holds Try.pinned (OpenSpec.ofChange fnExactPackRowSpec)

/-- ITS FALSE NEIGHBOUR: 'it returns false'. Refute it at one input. -/
def fnExactPackRowWrong : ChangeSpec := { name := "fnExactPackRow", fn := fun _ => fun
  | [d1, d2] => { results := [.lit (.bool false)], args := [d1, d2] }
  | _ => none }
def FnExactPackRowWrongFalsely : Prop := fnExactPackRowRow.holds Try.pinned (OpenSpec.ofChange fnExactPackRowWrong)

/-- 'laws.FnExactUnpackRow': WHATEVER THE INPUT: true; the input reads as it did. -/
def fnExactUnpackRowSpec : ChangeSpec := { name := "fnExactUnpackRow", fn := fun _ => fun
  | [d1, d2, d3] => { results := [.lit (.bool true)], args := [d1, d2, d3] }
  | _ => none }
def fnExactUnpackRowRow : OpenClaim := { program := "ytikgepiglmnehaa", sum := "da594dd8b6608094f1ad7895f9c69b84ac3986e60058a2320ad9da7c89d2fd2c", func := "loop.example/pixelworks/laws.FnExactUnpackRow", spec := "fnExactUnpackRow", unfollowed := true, recurses := true, apart := false }
def FnExactUnpackRowSaid : Prop := fnExactUnpackRowRow.holds Try.pinned (OpenSpec.ofChange fnExactUnpackRowSpec)

/-- ITS FALSE NEIGHBOUR: 'it returns false'. Refute it at one input. -/
def fnExactUnpackRowWrong : ChangeSpec := { name := "fnExactUnpackRow", fn := fun _ => fun
  | [d1, d2, d3] => { results := [.lit (.bool false)], args := [d1, d2, d3] }
  | _ => none }
def FnExactUnpackRowWrongFalsely : Prop := fnExactUnpackRowRow.holds Try.pinned (OpenSpec.ofChange fnExactUnpackRowWrong)

/-- 'laws.FnPackRowDouble': WHATEVER THE INPUT: true; the input reads as it did. -/
def fnPackRowDoubleSpec : ChangeSpec := { name := "fnPackRowDouble", fn := fun _ => fun
  | [d] => { results := [.lit (.bool true)], args := [d] }
  | _ => none }
def fnPackRowDoubleRow : OpenClaim := { program := "ytikgepiglmnehaa", sum := "da594dd8b6608094f1ad7895f9c69b84ac3986e60058a2320ad9da7c89d2fd2c", func := "loop.example/pixelworks/laws.FnPackRowDouble", spec := "fnPackRowDouble", unfollowed := true, recurses := true, apart := false }
def FnPackRowDoubleSaid : Prop := fnPackRowDoubleRow.holds Try.pinned (OpenSpec.ofChange fnPackRowDoubleSpec)

/-- ITS FALSE NEIGHBOUR: 'it returns false'. Refute it at one input. -/
def fnPackRowDoubleWrong : ChangeSpec := { name := "fnPackRowDouble", fn := fun _ => fun
  | [d] => { results := [.lit (.bool false)], args := [d] }
  | _ => none }
def FnPackRowDoubleWrongFalsely : Prop := fnPackRowDoubleRow.holds Try.pinned (OpenSpec.ofChange fnPackRowDoubleWrong)

/-- 'laws.FnPackRow': WHATEVER THE INPUT: true; the input reads as it did. -/
def fnPackRowSpec : ChangeSpec := { name := "fnPackRow", fn := fun _ => fun
  | [d] => { results := [.lit (.bool true)], args := [d] }
  | _ => none }
def fnPackRowRow : OpenClaim := { program := "ytikgepiglmnehaa", sum := "da594dd8b6608094f1ad7895f9c69b84ac3986e60058a2320ad9da7c89d2fd2c", func := "loop.example/pixelworks/laws.FnPackRow", spec := "fnPackRow", unfollowed := true, recurses := true, apart := false }
def FnPackRowSaid : Prop := fnPackRowRow.holds Try.pinned (OpenSpec.ofChange fnPackRowSpec)

/-- ITS FALSE NEIGHBOUR: 'it returns false'. Refute it at one input. -/
def fnPackRowWrong : ChangeSpec := { name := "fnPackRow", fn := fun _ => fun
  | [d] => { results := [.lit (.bool false)], args := [d] }
  | _ => none }
def FnPackRowWrongFalsely : Prop := fnPackRowRow.holds Try.pinned (OpenSpec.ofChange fnPackRowWrong)

/-- 'laws.FnUnpackRow': WHATEVER THE INPUT: true; the input reads as it did. -/
def fnUnpackRowSpec : ChangeSpec := { name := "fnUnpackRow", fn := fun _ => fun
  | [d] => { results := [.lit (.bool true)], args := [d] }
  | _ => none }
def fnUnpackRowRow : OpenClaim := { program := "ytikgepiglmnehaa", sum := "da594dd8b6608094f1ad7895f9c69b84ac3986e60058a2320ad9da7c89d2fd2c", func := "loop.example/pixelworks/laws.FnUnpackRow", spec := "fnUnpackRow", unfollowed := true, recurses := true, apart := false }
def FnUnpackRowSaid : Prop := fnUnpackRowRow.holds Try.pinned (OpenSpec.ofChange fnUnpackRowSpec)

/-- ITS FALSE NEIGHBOUR: 'it returns false'. Refute it at one input. -/
def fnUnpackRowWrong : ChangeSpec := { name := "fnUnpackRow", fn := fun _ => fun
  | [d] => { results := [.lit (.bool false)], args := [d] }
  | _ => none }
def FnUnpackRowWrongFalsely : Prop := fnUnpackRowRow.holds Try.pinned (OpenSpec.ofChange fnUnpackRowWrong)

/- THE SECOND FORM. 'bulk': how many values and letters a reading holds, each counted each time it is reached (what is shared counts as often as it is met; a slice's spare places count too). A statement '..UptoSaid' is the law's where the arguments, and the package variables that the reading takes, are together of bulk at most 1048576: NARROWER than '..Said'. Prove '..Said' where nothing that the law and all that it calls make is longer than what came in: it says more and counts as full. Else prove '..UptoSaid'. A law counts once. -/
mutual
def uptoBulk {H : Type} : DataW H → Nat
  | .lit (.string bytes) => bytes.length + 1
  | .lit _ => 1
  | .nil => 1
  | .ptr d => uptoBulk d + 1
  | .slice elems spare => uptoBulkAll elems + uptoBulkAll spare + 1
  | .agg parts => uptoBulkAll parts + 1
  | .iface _ d => uptoBulk d + 1
  | .map entries => uptoBulkEntries entries + 1
  | .held _ => 1
def uptoBulkAll {H : Type} : List (DataW H) → Nat
  | [] => 0
  | d :: r => uptoBulk d + uptoBulkAll r
def uptoBulkEntries {H : Type} : List (Lit × DataW H) → Nat
  | [] => 0
  | x :: r => uptoBulkEntry x + uptoBulkEntries r
def uptoBulkEntry {H : Type} : Lit × DataW H → Nat
  | (.string bytes, d) => bytes.length + uptoBulk d + 1
  | (_, d) => uptoBulk d + 1
 end
def uptoSmall : (H : Type) → List (DataW H) → Bool := fun _ ds => decide (uptoBulkAll ds ≤ 1048576)
def OpenSpec.upto (s : _root_.Go.ChangeSpec) : _root_.Go.OpenSpec := { _root_.Go.OpenSpec.ofChange s with cond := some uptoSmall }

/-- 'laws.FnExactConstants', WHERE WHAT IT READS IS OF BULK AT MOST 1048576: true; the input reads as it did. -/
def fnExactConstantsUptoRow : OpenClaim := { program := "ytikgepiglmnehaa", sum := "da594dd8b6608094f1ad7895f9c69b84ac3986e60058a2320ad9da7c89d2fd2c", func := "loop.example/pixelworks/laws.FnExactConstants", spec := "fnExactConstants", apart := false, narrowed := true }
def FnExactConstantsUptoSaid : Prop := fnExactConstantsUptoRow.holds Try.pinned (OpenSpec.upto fnExactConstantsSpec)

/-- 'laws.FnExactExpandDepth', WHERE WHAT IT READS IS OF BULK AT MOST 1048576: true; the input reads as it did. -/
def fnExactExpandDepthUptoRow : OpenClaim := { program := "ytikgepiglmnehaa", sum := "da594dd8b6608094f1ad7895f9c69b84ac3986e60058a2320ad9da7c89d2fd2c", func := "loop.example/pixelworks/laws.FnExactExpandDepth", spec := "fnExactExpandDepth", apart := false, narrowed := true }
def FnExactExpandDepthUptoSaid : Prop := fnExactExpandDepthUptoRow.holds Try.pinned (OpenSpec.upto fnExactExpandDepthSpec)

/-- 'laws.FnExactReduceDepth', WHERE WHAT IT READS IS OF BULK AT MOST 1048576: true; the input reads as it did. -/
def fnExactReduceDepthUptoRow : OpenClaim := { program := "ytikgepiglmnehaa", sum := "da594dd8b6608094f1ad7895f9c69b84ac3986e60058a2320ad9da7c89d2fd2c", func := "loop.example/pixelworks/laws.FnExactReduceDepth", spec := "fnExactReduceDepth", apart := false, narrowed := true }
def FnExactReduceDepthUptoSaid : Prop := fnExactReduceDepthUptoRow.holds Try.pinned (OpenSpec.upto fnExactReduceDepthSpec)

/-- 'laws.FnExpandDepth', WHERE WHAT IT READS IS OF BULK AT MOST 1048576: true; the input reads as it did. -/
def fnExpandDepthUptoRow : OpenClaim := { program := "ytikgepiglmnehaa", sum := "da594dd8b6608094f1ad7895f9c69b84ac3986e60058a2320ad9da7c89d2fd2c", func := "loop.example/pixelworks/laws.FnExpandDepth", spec := "fnExpandDepth", apart := false, narrowed := true }
def FnExpandDepthUptoSaid : Prop := fnExpandDepthUptoRow.holds Try.pinned (OpenSpec.upto fnExpandDepthSpec)

/-- 'laws.FnReduceDepth', WHERE WHAT IT READS IS OF BULK AT MOST 1048576: true; the input reads as it did. -/
def fnReduceDepthUptoRow : OpenClaim := { program := "ytikgepiglmnehaa", sum := "da594dd8b6608094f1ad7895f9c69b84ac3986e60058a2320ad9da7c89d2fd2c", func := "loop.example/pixelworks/laws.FnReduceDepth", spec := "fnReduceDepth", apart := false, narrowed := true }
def FnReduceDepthUptoSaid : Prop := fnReduceDepthUptoRow.holds Try.pinned (OpenSpec.upto fnReduceDepthSpec)

/-- 'laws.FnExactPackRow', WHERE WHAT IT READS IS OF BULK AT MOST 1048576: true; the input reads as it did. -/
def fnExactPackRowUptoRow : OpenClaim := { program := "ytikgepiglmnehaa", sum := "da594dd8b6608094f1ad7895f9c69b84ac3986e60058a2320ad9da7c89d2fd2c", func := "loop.example/pixelworks/laws.FnExactPackRow", spec := "fnExactPackRow", unfollowed := true, recurses := true, apart := false, narrowed := true }
def FnExactPackRowUptoSaid : Prop := fnExactPackRowUptoRow.holds Try.pinned (OpenSpec.upto fnExactPackRowSpec)

/-- 'laws.FnExactUnpackRow', WHERE WHAT IT READS IS OF BULK AT MOST 1048576: true; the input reads as it did. -/
def fnExactUnpackRowUptoRow : OpenClaim := { program := "ytikgepiglmnehaa", sum := "da594dd8b6608094f1ad7895f9c69b84ac3986e60058a2320ad9da7c89d2fd2c", func := "loop.example/pixelworks/laws.FnExactUnpackRow", spec := "fnExactUnpackRow", unfollowed := true, recurses := true, apart := false, narrowed := true }
def FnExactUnpackRowUptoSaid : Prop := fnExactUnpackRowUptoRow.holds Try.pinned (OpenSpec.upto fnExactUnpackRowSpec)

/-- 'laws.FnPackRowDouble', WHERE WHAT IT READS IS OF BULK AT MOST 1048576: true; the input reads as it did. -/
def fnPackRowDoubleUptoRow : OpenClaim := { program := "ytikgepiglmnehaa", sum := "da594dd8b6608094f1ad7895f9c69b84ac3986e60058a2320ad9da7c89d2fd2c", func := "loop.example/pixelworks/laws.FnPackRowDouble", spec := "fnPackRowDouble", unfollowed := true, recurses := true, apart := false, narrowed := true }
def FnPackRowDoubleUptoSaid : Prop := fnPackRowDoubleUptoRow.holds Try.pinned (OpenSpec.upto fnPackRowDoubleSpec)

/-- 'laws.FnPackRow', WHERE WHAT IT READS IS OF BULK AT MOST 1048576: true; the input reads as it did. -/
def fnPackRowUptoRow : OpenClaim := { program := "ytikgepiglmnehaa", sum := "da594dd8b6608094f1ad7895f9c69b84ac3986e60058a2320ad9da7c89d2fd2c", func := "loop.example/pixelworks/laws.FnPackRow", spec := "fnPackRow", unfollowed := true, recurses := true, apart := false, narrowed := true }
def FnPackRowUptoSaid : Prop := fnPackRowUptoRow.holds Try.pinned (OpenSpec.upto fnPackRowSpec)

/-- 'laws.FnUnpackRow', WHERE WHAT IT READS IS OF BULK AT MOST 1048576: true; the input reads as it did. -/
def fnUnpackRowUptoRow : OpenClaim := { program := "ytikgepiglmnehaa", sum := "da594dd8b6608094f1ad7895f9c69b84ac3986e60058a2320ad9da7c89d2fd2c", func := "loop.example/pixelworks/laws.FnUnpackRow", spec := "fnUnpackRow", unfollowed := true, recurses := true, apart := false, narrowed := true }
def FnUnpackRowUptoSaid : Prop := fnUnpackRowUptoRow.holds Try.pinned (OpenSpec.upto fnUnpackRowSpec)

end Rows
end Go.Proofs.Ytikgepiglmnehaa
