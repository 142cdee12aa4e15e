/-
  No cell of these rows narrows 'for every input' (looked for: loops, veiled, ifaces, maps, wideKeys, modest, calm, conditions, laid).
  DERIVED. THE GIVEN ROWS OF THIS SEAT. 8 by the template 'for every input the law returns true; each argument reads behind the call as it read before'; 0 by the template 'total and deterministic' (their statements: YtegicfkcdmhjgaaTotals.lean).
  GIVEN WITH THE SEED: the statements are not yours to turn. If you find one false, say at which input.
  Laid BY PROGRAM, IN A SANDBOX (cutbox-rows.mjs): the forced cells as the released guide's own fill.sh prints them over the translation fc579f3598b3907e… (all of the seat's roots in one cut). By AI agents, Wed Nov 11 2026. No macro, syntax, notation, axiom, sorry.
-/
import Derived.Test.YtegicfkcdmhjgaaChecked
import GoSem.Claim
import GoSem.ClaimJoined
import GoSem.ClaimMapViews
import Derived.JoinedTies
import Derived.KernelRfl
namespace Go.Proofs.Ytegicfkcdmhjgaa
/- THE CELL 'sum', in the pinned program and in every row, IS THE sha256 OF THE DUMP (.gsa) THAT YtegicfkcdmhjgaaProg.lean LOADS. Nothing in Lean hashes anything: it is a label: what it is worth is what the hold of that sum in a sandbox is worth. -/
noncomputable def Try.pinned : Pinned := { name := "ytegicfkcdmhjgaa", sum := "fc579f3598b3907e1f932f3216283d3afe10de7572629ae31914306e8942aac3", checked := Try.checked }
namespace Rows
def none {H : Type} : Left H := { results := [], args := [] }

/-- 'laws.FnExactValidImage': WHATEVER THE INPUT: true; the input reads as it did. -/
def fnExactValidImageSpec : ChangeSpec := { name := "fnExactValidImage", fn := fun _ => fun
  | [d] => { results := [.lit (.bool true)], args := [d] }
  | _ => none }
def fnExactValidImageRow : OpenClaim := { program := "ytegicfkcdmhjgaa", sum := "fc579f3598b3907e1f932f3216283d3afe10de7572629ae31914306e8942aac3", func := "loop.example/pixelworks/laws.FnExactValidImage", spec := "fnExactValidImage", unfollowed := true, recurses := true, apart := false }
def FnExactValidImageSaid : Prop := fnExactValidImageRow.holds Try.pinned (OpenSpec.ofChange fnExactValidImageSpec)

/-- ITS FALSE NEIGHBOUR: 'it returns false'. Refute it at one input. -/
def fnExactValidImageWrong : ChangeSpec := { name := "fnExactValidImage", fn := fun _ => fun
  | [d] => { results := [.lit (.bool false)], args := [d] }
  | _ => none }
def FnExactValidImageWrongFalsely : Prop := fnExactValidImageRow.holds Try.pinned (OpenSpec.ofChange fnExactValidImageWrong)

/-- 'laws.FnExactFillImage': WHATEVER THE INPUT: true; the input reads as it did. -/
def fnExactFillImageSpec : ChangeSpec := { name := "fnExactFillImage", fn := fun _ => fun
  | [d1, d2, d3] => { results := [.lit (.bool true)], args := [d1, d2, d3] }
  | _ => none }
def fnExactFillImageRow : OpenClaim := { program := "ytegicfkcdmhjgaa", sum := "fc579f3598b3907e1f932f3216283d3afe10de7572629ae31914306e8942aac3", func := "loop.example/pixelworks/laws.FnExactFillImage", spec := "fnExactFillImage", unfollowed := true, recurses := true, apart := false }
def FnExactFillImageSaid : Prop := fnExactFillImageRow.holds Try.pinned (OpenSpec.ofChange fnExactFillImageSpec)

/-- ITS FALSE NEIGHBOUR: 'it returns false'. Refute it at one input. -/
def fnExactFillImageWrong : ChangeSpec := { name := "fnExactFillImage", fn := fun _ => fun
  | [d1, d2, d3] => { results := [.lit (.bool false)], args := [d1, d2, d3] }
  | _ => none }
def FnExactFillImageWrongFalsely : Prop := fnExactFillImageRow.holds Try.pinned (OpenSpec.ofChange fnExactFillImageWrong)

/-- 'laws.FnExactPixelAt': WHATEVER THE INPUT: true; the input reads as it did. -/
def fnExactPixelAtSpec : ChangeSpec := { name := "fnExactPixelAt", fn := fun _ => fun
  | [d1, d2, d3] => { results := [.lit (.bool true)], args := [d1, d2, d3] }
  | _ => none }
def fnExactPixelAtRow : OpenClaim := { program := "ytegicfkcdmhjgaa", sum := "fc579f3598b3907e1f932f3216283d3afe10de7572629ae31914306e8942aac3", func := "loop.example/pixelworks/laws.FnExactPixelAt", spec := "fnExactPixelAt", unfollowed := true, recurses := true, apart := false }
def FnExactPixelAtSaid : Prop := fnExactPixelAtRow.holds Try.pinned (OpenSpec.ofChange fnExactPixelAtSpec)

/-- ITS FALSE NEIGHBOUR: 'it returns false'. Refute it at one input. -/
def fnExactPixelAtWrong : ChangeSpec := { name := "fnExactPixelAt", fn := fun _ => fun
  | [d1, d2, d3] => { results := [.lit (.bool false)], args := [d1, d2, d3] }
  | _ => none }
def FnExactPixelAtWrongFalsely : Prop := fnExactPixelAtRow.holds Try.pinned (OpenSpec.ofChange fnExactPixelAtWrong)

/-- 'laws.FnPixelAt': WHATEVER THE INPUT: true; the input reads as it did. -/
def fnPixelAtSpec : ChangeSpec := { name := "fnPixelAt", fn := fun _ => fun
  | [d] => { results := [.lit (.bool true)], args := [d] }
  | _ => none }
def fnPixelAtRow : OpenClaim := { program := "ytegicfkcdmhjgaa", sum := "fc579f3598b3907e1f932f3216283d3afe10de7572629ae31914306e8942aac3", func := "loop.example/pixelworks/laws.FnPixelAt", spec := "fnPixelAt", unfollowed := true, recurses := true, apart := false }
def FnPixelAtSaid : Prop := fnPixelAtRow.holds Try.pinned (OpenSpec.ofChange fnPixelAtSpec)

/-- ITS FALSE NEIGHBOUR: 'it returns false'. Refute it at one input. -/
def fnPixelAtWrong : ChangeSpec := { name := "fnPixelAt", fn := fun _ => fun
  | [d] => { results := [.lit (.bool false)], args := [d] }
  | _ => none }
def FnPixelAtWrongFalsely : Prop := fnPixelAtRow.holds Try.pinned (OpenSpec.ofChange fnPixelAtWrong)

/-- 'laws.FnInvertImage': WHATEVER THE INPUT: true; the input reads as it did. -/
def fnInvertImageSpec : ChangeSpec := { name := "fnInvertImage", fn := fun _ => fun
  | [d] => { results := [.lit (.bool true)], args := [d] }
  | _ => none }
def fnInvertImageRow : OpenClaim := { program := "ytegicfkcdmhjgaa", sum := "fc579f3598b3907e1f932f3216283d3afe10de7572629ae31914306e8942aac3", func := "loop.example/pixelworks/laws.FnInvertImage", spec := "fnInvertImage", unfollowed := true, recurses := true, apart := false }
def FnInvertImageSaid : Prop := fnInvertImageRow.holds Try.pinned (OpenSpec.ofChange fnInvertImageSpec)

/-- ITS FALSE NEIGHBOUR: 'it returns false'. Refute it at one input. -/
def fnInvertImageWrong : ChangeSpec := { name := "fnInvertImage", fn := fun _ => fun
  | [d] => { results := [.lit (.bool false)], args := [d] }
  | _ => none }
def FnInvertImageWrongFalsely : Prop := fnInvertImageRow.holds Try.pinned (OpenSpec.ofChange fnInvertImageWrong)

/-- 'laws.FnExactInvertImage': WHATEVER THE INPUT: true; the input reads as it did. -/
def fnExactInvertImageSpec : ChangeSpec := { name := "fnExactInvertImage", fn := fun _ => fun
  | [d] => { results := [.lit (.bool true)], args := [d] }
  | _ => none }
def fnExactInvertImageRow : OpenClaim := { program := "ytegicfkcdmhjgaa", sum := "fc579f3598b3907e1f932f3216283d3afe10de7572629ae31914306e8942aac3", func := "loop.example/pixelworks/laws.FnExactInvertImage", spec := "fnExactInvertImage", unfollowed := true, recurses := true, apart := false }
def FnExactInvertImageSaid : Prop := fnExactInvertImageRow.holds Try.pinned (OpenSpec.ofChange fnExactInvertImageSpec)

/-- ITS FALSE NEIGHBOUR: 'it returns false'. Refute it at one input. -/
def fnExactInvertImageWrong : ChangeSpec := { name := "fnExactInvertImage", fn := fun _ => fun
  | [d] => { results := [.lit (.bool false)], args := [d] }
  | _ => none }
def FnExactInvertImageWrongFalsely : Prop := fnExactInvertImageRow.holds Try.pinned (OpenSpec.ofChange fnExactInvertImageWrong)

/-- 'laws.FnExactSetPixel': WHATEVER THE INPUT: true; the input reads as it did. -/
def fnExactSetPixelSpec : ChangeSpec := { name := "fnExactSetPixel", fn := fun _ => fun
  | [d1, d2, d3, d4] => { results := [.lit (.bool true)], args := [d1, d2, d3, d4] }
  | _ => none }
def fnExactSetPixelRow : OpenClaim := { program := "ytegicfkcdmhjgaa", sum := "fc579f3598b3907e1f932f3216283d3afe10de7572629ae31914306e8942aac3", func := "loop.example/pixelworks/laws.FnExactSetPixel", spec := "fnExactSetPixel", unfollowed := true, recurses := true, apart := false }
def FnExactSetPixelSaid : Prop := fnExactSetPixelRow.holds Try.pinned (OpenSpec.ofChange fnExactSetPixelSpec)

/-- ITS FALSE NEIGHBOUR: 'it returns false'. Refute it at one input. -/
def fnExactSetPixelWrong : ChangeSpec := { name := "fnExactSetPixel", fn := fun _ => fun
  | [d1, d2, d3, d4] => { results := [.lit (.bool false)], args := [d1, d2, d3, d4] }
  | _ => none }
def FnExactSetPixelWrongFalsely : Prop := fnExactSetPixelRow.holds Try.pinned (OpenSpec.ofChange fnExactSetPixelWrong)

/-- 'laws.FnSetPixel': WHATEVER THE INPUT: true; the input reads as it did. -/
def fnSetPixelSpec : ChangeSpec := { name := "fnSetPixel", fn := fun _ => fun
  | [d] => { results := [.lit (.bool true)], args := [d] }
  | _ => none }
def fnSetPixelRow : OpenClaim := { program := "ytegicfkcdmhjgaa", sum := "fc579f3598b3907e1f932f3216283d3afe10de7572629ae31914306e8942aac3", func := "loop.example/pixelworks/laws.FnSetPixel", spec := "fnSetPixel", unfollowed := true, recurses := true, apart := false }
def FnSetPixelSaid : Prop := fnSetPixelRow.holds Try.pinned (OpenSpec.ofChange fnSetPixelSpec)

/-- ITS FALSE NEIGHBOUR: 'it returns false'. Refute it at one input. -/
def fnSetPixelWrong : ChangeSpec := { name := "fnSetPixel", fn := fun _ => fun
  | [d] => { results := [.lit (.bool false)], args := [d] }
  | _ => none }
def FnSetPixelWrongFalsely : Prop := fnSetPixelRow.holds Try.pinned (OpenSpec.ofChange fnSetPixelWrong)

/- THE SECOND FORM. 'bulk': how many values and letters a reading holds, each counted each time it is reached (what is shared counts as often as it is met; a slice's spare places count too). A statement '..UptoSaid' is the law's where the arguments, and the package variables that the reading takes, are together of bulk at most 1048576: NARROWER than '..Said'. Prove '..Said' where nothing that the law and all that it calls make is longer than what came in: it says more and counts as full. Else prove '..UptoSaid'. A law counts once. -/
mutual
def uptoBulk {H : Type} : DataW H → Nat
  | .lit (.string bytes) => bytes.length + 1
  | .lit _ => 1
  | .nil => 1
  | .ptr d => uptoBulk d + 1
  | .slice elems spare => uptoBulkAll elems + uptoBulkAll spare + 1
  | .agg parts => uptoBulkAll parts + 1
  | .iface _ d => uptoBulk d + 1
  | .map entries => uptoBulkEntries entries + 1
  | .held _ => 1
def uptoBulkAll {H : Type} : List (DataW H) → Nat
  | [] => 0
  | d :: r => uptoBulk d + uptoBulkAll r
def uptoBulkEntries {H : Type} : List (Lit × DataW H) → Nat
  | [] => 0
  | x :: r => uptoBulkEntry x + uptoBulkEntries r
def uptoBulkEntry {H : Type} : Lit × DataW H → Nat
  | (.string bytes, d) => bytes.length + uptoBulk d + 1
  | (_, d) => uptoBulk d + 1
 end
def uptoSmall : (H : Type) → List (DataW H) → Bool := fun _ ds => decide (uptoBulkAll ds ≤ 1048576)
def OpenSpec.upto (s : _root_.Go.ChangeSpec) : _root_.Go.OpenSpec := { _root_.Go.OpenSpec.ofChange s with cond := some uptoSmall }

/-- 'laws.FnExactValidImage', WHERE WHAT IT READS IS OF BULK AT MOST 1048576: true; the input reads as it did. -/
def fnExactValidImageUptoRow : OpenClaim := { program := "ytegicfkcdmhjgaa", sum := "fc579f3598b3907e1f932f3216283d3afe10de7572629ae31914306e8942aac3", func := "loop.example/pixelworks/laws.FnExactValidImage", spec := "fnExactValidImage", unfollowed := true, recurses := true, apart := false, narrowed := true }
def FnExactValidImageUptoSaid : Prop := fnExactValidImageUptoRow.holds Try.pinned (OpenSpec.upto fnExactValidImageSpec)

/-- 'laws.FnExactFillImage', WHERE WHAT IT READS IS OF BULK AT MOST 1048576: true; the input reads as it did. -/
def fnExactFillImageUptoRow : OpenClaim := { program := "ytegicfkcdmhjgaa", sum := "fc579f3598b3907e1f932f3216283d3afe10de7572629ae31914306e8942aac3", func := "loop.example/pixelworks/laws.FnExactFillImage", spec := "fnExactFillImage", unfollowed := true, recurses := true, apart := false, narrowed := true }
def FnExactFillImageUptoSaid : Prop := fnExactFillImageUptoRow.holds Try.pinned (OpenSpec.upto fnExactFillImageSpec)

/-- 'laws.FnExactPixelAt', WHERE WHAT IT READS IS OF BULK AT MOST 1048576: true; the input reads as it did. -/
def fnExactPixelAtUptoRow : OpenClaim := { program := "ytegicfkcdmhjgaa", sum := "fc579f3598b3907e1f932f3216283d3afe10de7572629ae31914306e8942aac3", func := "loop.example/pixelworks/laws.FnExactPixelAt", spec := "fnExactPixelAt", unfollowed := true, recurses := true, apart := false, narrowed := true }
def FnExactPixelAtUptoSaid : Prop := fnExactPixelAtUptoRow.holds Try.pinned (OpenSpec.upto fnExactPixelAtSpec)

/-- 'laws.FnPixelAt', WHERE WHAT IT READS IS OF BULK AT MOST 1048576: true; the input reads as it did. -/
def fnPixelAtUptoRow : OpenClaim := { program := "ytegicfkcdmhjgaa", sum := "fc579f3598b3907e1f932f3216283d3afe10de7572629ae31914306e8942aac3", func := "loop.example/pixelworks/laws.FnPixelAt", spec := "fnPixelAt", unfollowed := true, recurses := true, apart := false, narrowed := true }
def FnPixelAtUptoSaid : Prop := fnPixelAtUptoRow.holds Try.pinned (OpenSpec.upto fnPixelAtSpec)

/-- 'laws.FnInvertImage', WHERE WHAT IT READS IS OF BULK AT MOST 1048576: true; the input reads as it did. -/
def fnInvertImageUptoRow : OpenClaim := { program := "ytegicfkcdmhjgaa", sum := "fc579f3598b3907e1f932f3216283d3afe10de7572629ae31914306e8942aac3", func := "loop.example/pixelworks/laws.FnInvertImage", spec := "fnInvertImage", unfollowed := true, recurses := true, apart := false, narrowed := true }
def FnInvertImageUptoSaid : Prop := fnInvertImageUptoRow.holds Try.pinned (OpenSpec.upto fnInvertImageSpec)

/-- 'laws.FnExactInvertImage', WHERE WHAT IT READS IS OF BULK AT MOST 1048576: true; the input reads as it did. -/
def fnExactInvertImageUptoRow : OpenClaim := { program := "ytegicfkcdmhjgaa", sum := "fc579f3598b3907e1f932f3216283d3afe10de7572629ae31914306e8942aac3", func := "loop.example/pixelworks/laws.FnExactInvertImage", spec := "fnExactInvertImage", unfollowed := true, recurses := true, apart := false, narrowed := true }
def FnExactInvertImageUptoSaid : Prop := fnExactInvertImageUptoRow.holds Try.pinned (OpenSpec.upto fnExactInvertImageSpec)

/-- 'laws.FnExactSetPixel', WHERE WHAT IT READS IS OF BULK AT MOST 1048576: true; the input reads as it did. -/
def fnExactSetPixelUptoRow : OpenClaim := { program := "ytegicfkcdmhjgaa", sum := "fc579f3598b3907e1f932f3216283d3afe10de7572629ae31914306e8942aac3", func := "loop.example/pixelworks/laws.FnExactSetPixel", spec := "fnExactSetPixel", unfollowed := true, recurses := true, apart := false, narrowed := true }
def FnExactSetPixelUptoSaid : Prop := fnExactSetPixelUptoRow.holds Try.pinned (OpenSpec.upto fnExactSetPixelSpec)

/-- 'laws.FnSetPixel', WHERE WHAT IT READS IS OF BULK AT MOST 1048576: true; the input reads as it did. -/
def fnSetPixelUptoRow : OpenClaim := { program := "ytegicfkcdmhjgaa", sum := "fc579f3598b3907e1f932f3216283d3afe10de7572629ae31914306e8942aac3", func := "loop.example/pixelworks/laws.FnSetPixel", spec := "fnSetPixel", unfollowed := true, recurses := true, apart := false, narrowed := true }
def FnSetPixelUptoSaid : Prop := fnSetPixelUptoRow.holds Try.pinned (OpenSpec.upto fnSetPixelSpec)

end Rows
end Go.Proofs.Ytegicfkcdmhjgaa
