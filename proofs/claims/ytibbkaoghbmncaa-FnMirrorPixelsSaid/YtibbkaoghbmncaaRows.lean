/-
  No cell of these rows narrows 'for every input' (looked for: loops, veiled, ifaces, maps, wideKeys, modest, calm, conditions, laid).
  DERIVED. THE GIVEN ROWS OF THIS SEAT. 9 by the template 'for every input the law returns true; each argument reads behind the call as it read before'; 0 by the template 'total and deterministic' (their statements: YtibbkaoghbmncaaTotals.lean).
  GIVEN WITH THE SEED: the statements are not yours to turn. If you find one false, say at which input.
  Laid BY PROGRAM, IN A SANDBOX (cutbox-rows.mjs): the forced cells as the released guide's own fill.sh prints them over the translation 709172fc195906a2… (all of the seat's roots in one cut). By AI agents, Wed Nov 11 2026. No macro, syntax, notation, axiom, sorry.
-/
import Derived.Test.YtibbkaoghbmncaaChecked
import GoSem.Claim
import GoSem.ClaimJoined
import GoSem.ClaimMapViews
import Derived.JoinedTies
import Derived.KernelRfl
namespace Go.Proofs.Ytibbkaoghbmncaa
/- THE CELL 'sum', in the pinned program and in every row, IS THE sha256 OF THE DUMP (.gsa) THAT YtibbkaoghbmncaaProg.lean LOADS. Nothing in Lean hashes anything: it is a label: what it is worth is what the hold of that sum in a sandbox is worth. -/
noncomputable def Try.pinned : Pinned := { name := "ytibbkaoghbmncaa", sum := "709172fc195906a27aea55b4bcfb7bf0b5034d2a3ac8d18d500ace595f433ce4", checked := Try.checked }
namespace Rows
def none {H : Type} : Left H := { results := [], args := [] }

/-- 'laws.FnExactTransposeImage': WHATEVER THE INPUT: true; the input reads as it did. -/
def fnExactTransposeImageSpec : ChangeSpec := { name := "fnExactTransposeImage", fn := fun _ => fun
  | [d] => { results := [.lit (.bool true)], args := [d] }
  | _ => none }
def fnExactTransposeImageRow : OpenClaim := { program := "ytibbkaoghbmncaa", sum := "709172fc195906a27aea55b4bcfb7bf0b5034d2a3ac8d18d500ace595f433ce4", func := "loop.example/pixelworks/laws.FnExactTransposeImage", spec := "fnExactTransposeImage", unfollowed := true, recurses := true, apart := false }
def FnExactTransposeImageSaid : Prop := fnExactTransposeImageRow.holds Try.pinned (OpenSpec.ofChange fnExactTransposeImageSpec)

/-- ITS FALSE NEIGHBOUR: 'it returns false'. Refute it at one input. -/
def fnExactTransposeImageWrong : ChangeSpec := { name := "fnExactTransposeImage", fn := fun _ => fun
  | [d] => { results := [.lit (.bool false)], args := [d] }
  | _ => none }
def FnExactTransposeImageWrongFalsely : Prop := fnExactTransposeImageRow.holds Try.pinned (OpenSpec.ofChange fnExactTransposeImageWrong)

/-- 'laws.FnTransposeImage': WHATEVER THE INPUT: true; the input reads as it did. -/
def fnTransposeImageSpec : ChangeSpec := { name := "fnTransposeImage", fn := fun _ => fun
  | [d] => { results := [.lit (.bool true)], args := [d] }
  | _ => none }
def fnTransposeImageRow : OpenClaim := { program := "ytibbkaoghbmncaa", sum := "709172fc195906a27aea55b4bcfb7bf0b5034d2a3ac8d18d500ace595f433ce4", func := "loop.example/pixelworks/laws.FnTransposeImage", spec := "fnTransposeImage", unfollowed := true, recurses := true, apart := false }
def FnTransposeImageSaid : Prop := fnTransposeImageRow.holds Try.pinned (OpenSpec.ofChange fnTransposeImageSpec)

/-- ITS FALSE NEIGHBOUR: 'it returns false'. Refute it at one input. -/
def fnTransposeImageWrong : ChangeSpec := { name := "fnTransposeImage", fn := fun _ => fun
  | [d] => { results := [.lit (.bool false)], args := [d] }
  | _ => none }
def FnTransposeImageWrongFalsely : Prop := fnTransposeImageRow.holds Try.pinned (OpenSpec.ofChange fnTransposeImageWrong)

/-- 'laws.FnTurnImage': WHATEVER THE INPUT: true; the input reads as it did. -/
def fnTurnImageSpec : ChangeSpec := { name := "fnTurnImage", fn := fun _ => fun
  | [d] => { results := [.lit (.bool true)], args := [d] }
  | _ => none }
def fnTurnImageRow : OpenClaim := { program := "ytibbkaoghbmncaa", sum := "709172fc195906a27aea55b4bcfb7bf0b5034d2a3ac8d18d500ace595f433ce4", func := "loop.example/pixelworks/laws.FnTurnImage", spec := "fnTurnImage", unfollowed := true, recurses := true, apart := false }
def FnTurnImageSaid : Prop := fnTurnImageRow.holds Try.pinned (OpenSpec.ofChange fnTurnImageSpec)

/-- ITS FALSE NEIGHBOUR: 'it returns false'. Refute it at one input. -/
def fnTurnImageWrong : ChangeSpec := { name := "fnTurnImage", fn := fun _ => fun
  | [d] => { results := [.lit (.bool false)], args := [d] }
  | _ => none }
def FnTurnImageWrongFalsely : Prop := fnTurnImageRow.holds Try.pinned (OpenSpec.ofChange fnTurnImageWrong)

/-- 'laws.FnExactTurnImage': WHATEVER THE INPUT: true; the input reads as it did. -/
def fnExactTurnImageSpec : ChangeSpec := { name := "fnExactTurnImage", fn := fun _ => fun
  | [d1, d2] => { results := [.lit (.bool true)], args := [d1, d2] }
  | _ => none }
def fnExactTurnImageRow : OpenClaim := { program := "ytibbkaoghbmncaa", sum := "709172fc195906a27aea55b4bcfb7bf0b5034d2a3ac8d18d500ace595f433ce4", func := "loop.example/pixelworks/laws.FnExactTurnImage", spec := "fnExactTurnImage", unfollowed := true, recurses := true, apart := false }
def FnExactTurnImageSaid : Prop := fnExactTurnImageRow.holds Try.pinned (OpenSpec.ofChange fnExactTurnImageSpec)

/-- ITS FALSE NEIGHBOUR: 'it returns false'. Refute it at one input. -/
def fnExactTurnImageWrong : ChangeSpec := { name := "fnExactTurnImage", fn := fun _ => fun
  | [d1, d2] => { results := [.lit (.bool false)], args := [d1, d2] }
  | _ => none }
def FnExactTurnImageWrongFalsely : Prop := fnExactTurnImageRow.holds Try.pinned (OpenSpec.ofChange fnExactTurnImageWrong)

/-- 'laws.FnTurnMirror': WHATEVER THE INPUT: true; the input reads as it did. -/
def fnTurnMirrorSpec : ChangeSpec := { name := "fnTurnMirror", fn := fun _ => fun
  | [d] => { results := [.lit (.bool true)], args := [d] }
  | _ => none }
def fnTurnMirrorRow : OpenClaim := { program := "ytibbkaoghbmncaa", sum := "709172fc195906a27aea55b4bcfb7bf0b5034d2a3ac8d18d500ace595f433ce4", func := "loop.example/pixelworks/laws.FnTurnMirror", spec := "fnTurnMirror", unfollowed := true, recurses := true, apart := false }
def FnTurnMirrorSaid : Prop := fnTurnMirrorRow.holds Try.pinned (OpenSpec.ofChange fnTurnMirrorSpec)

/-- ITS FALSE NEIGHBOUR: 'it returns false'. Refute it at one input. -/
def fnTurnMirrorWrong : ChangeSpec := { name := "fnTurnMirror", fn := fun _ => fun
  | [d] => { results := [.lit (.bool false)], args := [d] }
  | _ => none }
def FnTurnMirrorWrongFalsely : Prop := fnTurnMirrorRow.holds Try.pinned (OpenSpec.ofChange fnTurnMirrorWrong)

/-- 'laws.FnFillImageTurn': WHATEVER THE INPUT: true; the input reads as it did. -/
def fnFillImageTurnSpec : ChangeSpec := { name := "fnFillImageTurn", fn := fun _ => fun
  | [d] => { results := [.lit (.bool true)], args := [d] }
  | _ => none }
def fnFillImageTurnRow : OpenClaim := { program := "ytibbkaoghbmncaa", sum := "709172fc195906a27aea55b4bcfb7bf0b5034d2a3ac8d18d500ace595f433ce4", func := "loop.example/pixelworks/laws.FnFillImageTurn", spec := "fnFillImageTurn", unfollowed := true, recurses := true, apart := false }
def FnFillImageTurnSaid : Prop := fnFillImageTurnRow.holds Try.pinned (OpenSpec.ofChange fnFillImageTurnSpec)

/-- ITS FALSE NEIGHBOUR: 'it returns false'. Refute it at one input. -/
def fnFillImageTurnWrong : ChangeSpec := { name := "fnFillImageTurn", fn := fun _ => fun
  | [d] => { results := [.lit (.bool false)], args := [d] }
  | _ => none }
def FnFillImageTurnWrongFalsely : Prop := fnFillImageTurnRow.holds Try.pinned (OpenSpec.ofChange fnFillImageTurnWrong)

/-- 'laws.FnMirrorPixels': WHATEVER THE INPUT: true; the input reads as it did. -/
def fnMirrorPixelsSpec : ChangeSpec := { name := "fnMirrorPixels", fn := fun _ => fun
  | [d] => { results := [.lit (.bool true)], args := [d] }
  | _ => none }
def fnMirrorPixelsRow : OpenClaim := { program := "ytibbkaoghbmncaa", sum := "709172fc195906a27aea55b4bcfb7bf0b5034d2a3ac8d18d500ace595f433ce4", func := "loop.example/pixelworks/laws.FnMirrorPixels", spec := "fnMirrorPixels", unfollowed := true, recurses := true, apart := false }
def FnMirrorPixelsSaid : Prop := fnMirrorPixelsRow.holds Try.pinned (OpenSpec.ofChange fnMirrorPixelsSpec)

/-- ITS FALSE NEIGHBOUR: 'it returns false'. Refute it at one input. -/
def fnMirrorPixelsWrong : ChangeSpec := { name := "fnMirrorPixels", fn := fun _ => fun
  | [d] => { results := [.lit (.bool false)], args := [d] }
  | _ => none }
def FnMirrorPixelsWrongFalsely : Prop := fnMirrorPixelsRow.holds Try.pinned (OpenSpec.ofChange fnMirrorPixelsWrong)

/-- 'laws.FnExactMirrorImage': WHATEVER THE INPUT: true; the input reads as it did. -/
def fnExactMirrorImageSpec : ChangeSpec := { name := "fnExactMirrorImage", fn := fun _ => fun
  | [d] => { results := [.lit (.bool true)], args := [d] }
  | _ => none }
def fnExactMirrorImageRow : OpenClaim := { program := "ytibbkaoghbmncaa", sum := "709172fc195906a27aea55b4bcfb7bf0b5034d2a3ac8d18d500ace595f433ce4", func := "loop.example/pixelworks/laws.FnExactMirrorImage", spec := "fnExactMirrorImage", unfollowed := true, recurses := true, apart := false }
def FnExactMirrorImageSaid : Prop := fnExactMirrorImageRow.holds Try.pinned (OpenSpec.ofChange fnExactMirrorImageSpec)

/-- ITS FALSE NEIGHBOUR: 'it returns false'. Refute it at one input. -/
def fnExactMirrorImageWrong : ChangeSpec := { name := "fnExactMirrorImage", fn := fun _ => fun
  | [d] => { results := [.lit (.bool false)], args := [d] }
  | _ => none }
def FnExactMirrorImageWrongFalsely : Prop := fnExactMirrorImageRow.holds Try.pinned (OpenSpec.ofChange fnExactMirrorImageWrong)

/-- 'laws.FnMirrorImage': WHATEVER THE INPUT: true; the input reads as it did. -/
def fnMirrorImageSpec : ChangeSpec := { name := "fnMirrorImage", fn := fun _ => fun
  | [d] => { results := [.lit (.bool true)], args := [d] }
  | _ => none }
def fnMirrorImageRow : OpenClaim := { program := "ytibbkaoghbmncaa", sum := "709172fc195906a27aea55b4bcfb7bf0b5034d2a3ac8d18d500ace595f433ce4", func := "loop.example/pixelworks/laws.FnMirrorImage", spec := "fnMirrorImage", unfollowed := true, recurses := true, apart := false }
def FnMirrorImageSaid : Prop := fnMirrorImageRow.holds Try.pinned (OpenSpec.ofChange fnMirrorImageSpec)

/-- ITS FALSE NEIGHBOUR: 'it returns false'. Refute it at one input. -/
def fnMirrorImageWrong : ChangeSpec := { name := "fnMirrorImage", fn := fun _ => fun
  | [d] => { results := [.lit (.bool false)], args := [d] }
  | _ => none }
def FnMirrorImageWrongFalsely : Prop := fnMirrorImageRow.holds Try.pinned (OpenSpec.ofChange fnMirrorImageWrong)

/- THE SECOND FORM. 'bulk': how many values and letters a reading holds, each counted each time it is reached (what is shared counts as often as it is met; a slice's spare places count too). A statement '..UptoSaid' is the law's where the arguments, and the package variables that the reading takes, are together of bulk at most 1048576: NARROWER than '..Said'. Prove '..Said' where nothing that the law and all that it calls make is longer than what came in: it says more and counts as full. Else prove '..UptoSaid'. A law counts once. -/
mutual
def uptoBulk {H : Type} : DataW H → Nat
  | .lit (.string bytes) => bytes.length + 1
  | .lit _ => 1
  | .nil => 1
  | .ptr d => uptoBulk d + 1
  | .slice elems spare => uptoBulkAll elems + uptoBulkAll spare + 1
  | .agg parts => uptoBulkAll parts + 1
  | .iface _ d => uptoBulk d + 1
  | .map entries => uptoBulkEntries entries + 1
  | .held _ => 1
def uptoBulkAll {H : Type} : List (DataW H) → Nat
  | [] => 0
  | d :: r => uptoBulk d + uptoBulkAll r
def uptoBulkEntries {H : Type} : List (Lit × DataW H) → Nat
  | [] => 0
  | x :: r => uptoBulkEntry x + uptoBulkEntries r
def uptoBulkEntry {H : Type} : Lit × DataW H → Nat
  | (.string bytes, d) => bytes.length + uptoBulk d + 1
  | (_, d) => uptoBulk d + 1
 end
def uptoSmall : (H : Type) → List (DataW H) → Bool := fun _ ds => decide (uptoBulkAll ds ≤ 1048576)
def OpenSpec.upto (s : _root_.Go.ChangeSpec) : _root_.Go.OpenSpec := { _root_.Go.OpenSpec.ofChange s with cond := some uptoSmall }

/-- 'laws.FnExactTransposeImage', WHERE WHAT IT READS IS OF BULK AT MOST 1048576: true; the input reads as it did. -/
def fnExactTransposeImageUptoRow : OpenClaim := { program := "ytibbkaoghbmncaa", sum := "709172fc195906a27aea55b4bcfb7bf0b5034d2a3ac8d18d500ace595f433ce4", func := "loop.example/pixelworks/laws.FnExactTransposeImage", spec := "fnExactTransposeImage", unfollowed := true, recurses := true, apart := false, narrowed := true }
def FnExactTransposeImageUptoSaid : Prop := fnExactTransposeImageUptoRow.holds Try.pinned (OpenSpec.upto fnExactTransposeImageSpec)

/-- 'laws.FnTransposeImage', WHERE WHAT IT READS IS OF BULK AT MOST 1048576: true; the input reads as it did. -/
def fnTransposeImageUptoRow : OpenClaim := { program := "ytibbkaoghbmncaa", sum := "709172fc195906a27aea55b4bcfb7bf0b5034d2a3ac8d18d500ace595f433ce4", func := "loop.example/pixelworks/laws.FnTransposeImage", spec := "fnTransposeImage", unfollowed := true, recurses := true, apart := false, narrowed := true }
def FnTransposeImageUptoSaid : Prop := fnTransposeImageUptoRow.holds Try.pinned (OpenSpec.upto fnTransposeImageSpec)

/-- 'laws.FnTurnImage', WHERE WHAT IT READS IS OF BULK AT MOST 1048576: true; the input reads as it did. -/
def fnTurnImageUptoRow : OpenClaim := { program := "ytibbkaoghbmncaa", sum := "709172fc195906a27aea55b4bcfb7bf0b5034d2a3ac8d18d500ace595f433ce4", func := "loop.example/pixelworks/laws.FnTurnImage", spec := "fnTurnImage", unfollowed := true, recurses := true, apart := false, narrowed := true }
def FnTurnImageUptoSaid : Prop := fnTurnImageUptoRow.holds Try.pinned (OpenSpec.upto fnTurnImageSpec)

/-- 'laws.FnExactTurnImage', WHERE WHAT IT READS IS OF BULK AT MOST 1048576: true; the input reads as it did. -/
def fnExactTurnImageUptoRow : OpenClaim := { program := "ytibbkaoghbmncaa", sum := "709172fc195906a27aea55b4bcfb7bf0b5034d2a3ac8d18d500ace595f433ce4", func := "loop.example/pixelworks/laws.FnExactTurnImage", spec := "fnExactTurnImage", unfollowed := true, recurses := true, apart := false, narrowed := true }
def FnExactTurnImageUptoSaid : Prop := fnExactTurnImageUptoRow.holds Try.pinned (OpenSpec.upto fnExactTurnImageSpec)

/-- 'laws.FnTurnMirror', WHERE WHAT IT READS IS OF BULK AT MOST 1048576: true; the input reads as it did. -/
def fnTurnMirrorUptoRow : OpenClaim := { program := "ytibbkaoghbmncaa", sum := "709172fc195906a27aea55b4bcfb7bf0b5034d2a3ac8d18d500ace595f433ce4", func := "loop.example/pixelworks/laws.FnTurnMirror", spec := "fnTurnMirror", unfollowed := true, recurses := true, apart := false, narrowed := true }
def FnTurnMirrorUptoSaid : Prop := fnTurnMirrorUptoRow.holds Try.pinned (OpenSpec.upto fnTurnMirrorSpec)

/-- 'laws.FnFillImageTurn', WHERE WHAT IT READS IS OF BULK AT MOST 1048576: true; the input reads as it did. -/
def fnFillImageTurnUptoRow : OpenClaim := { program := "ytibbkaoghbmncaa", sum := "709172fc195906a27aea55b4bcfb7bf0b5034d2a3ac8d18d500ace595f433ce4", func := "loop.example/pixelworks/laws.FnFillImageTurn", spec := "fnFillImageTurn", unfollowed := true, recurses := true, apart := false, narrowed := true }
def FnFillImageTurnUptoSaid : Prop := fnFillImageTurnUptoRow.holds Try.pinned (OpenSpec.upto fnFillImageTurnSpec)

/-- 'laws.FnMirrorPixels', WHERE WHAT IT READS IS OF BULK AT MOST 1048576: true; the input reads as it did. -/
def fnMirrorPixelsUptoRow : OpenClaim := { program := "ytibbkaoghbmncaa", sum := "709172fc195906a27aea55b4bcfb7bf0b5034d2a3ac8d18d500ace595f433ce4", func := "loop.example/pixelworks/laws.FnMirrorPixels", spec := "fnMirrorPixels", unfollowed := true, recurses := true, apart := false, narrowed := true }
def FnMirrorPixelsUptoSaid : Prop := fnMirrorPixelsUptoRow.holds Try.pinned (OpenSpec.upto fnMirrorPixelsSpec)

/-- 'laws.FnExactMirrorImage', WHERE WHAT IT READS IS OF BULK AT MOST 1048576: true; the input reads as it did. -/
def fnExactMirrorImageUptoRow : OpenClaim := { program := "ytibbkaoghbmncaa", sum := "709172fc195906a27aea55b4bcfb7bf0b5034d2a3ac8d18d500ace595f433ce4", func := "loop.example/pixelworks/laws.FnExactMirrorImage", spec := "fnExactMirrorImage", unfollowed := true, recurses := true, apart := false, narrowed := true }
def FnExactMirrorImageUptoSaid : Prop := fnExactMirrorImageUptoRow.holds Try.pinned (OpenSpec.upto fnExactMirrorImageSpec)

/-- 'laws.FnMirrorImage', WHERE WHAT IT READS IS OF BULK AT MOST 1048576: true; the input reads as it did. -/
def fnMirrorImageUptoRow : OpenClaim := { program := "ytibbkaoghbmncaa", sum := "709172fc195906a27aea55b4bcfb7bf0b5034d2a3ac8d18d500ace595f433ce4", func := "loop.example/pixelworks/laws.FnMirrorImage", spec := "fnMirrorImage", unfollowed := true, recurses := true, apart := false, narrowed := true }
def FnMirrorImageUptoSaid : Prop := fnMirrorImageUptoRow.holds Try.pinned (OpenSpec.upto fnMirrorImageSpec)

end Rows
end Go.Proofs.Ytibbkaoghbmncaa
