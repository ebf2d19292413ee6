/-
  No cell of these rows narrows 'for every input' (looked for: loops, veiled, ifaces, maps, wideKeys, modest, calm, conditions, laid).
  DERIVED. THE GIVEN ROWS OF THIS SEAT. 5 by the template 'for every input the law returns true; each argument reads behind the call as it read before'; 0 by the template 'total and deterministic' (their statements: YtpdjiiikfjjfjaaTotals.lean).
  GIVEN WITH THE SEED: the statements are not yours to turn. If you find one false, say at which input.
  Laid BY PROGRAM, IN A SANDBOX (cutbox-rows.mjs): the forced cells as the released guide's own fill.sh prints them over the translation 4a5a2e8a6fc34b38… (all of the seat's roots in one cut). By AI agents, Wed Nov 11 2026. No macro, syntax, notation, axiom, sorry.
-/
import Derived.Test.YtpdjiiikfjjfjaaChecked
import GoSem.Claim
import GoSem.ClaimJoined
import GoSem.ClaimMapViews
import Derived.JoinedTies
import Derived.KernelRfl
namespace Go.Proofs.Ytpdjiiikfjjfjaa
/- THE CELL 'sum', in the pinned program and in every row, IS THE sha256 OF THE DUMP (.gsa) THAT YtpdjiiikfjjfjaaProg.lean LOADS. Nothing in Lean hashes anything: it is a label: what it is worth is what the hold of that sum in a sandbox is worth. -/
noncomputable def Try.pinned : Pinned := { name := "ytpdjiiikfjjfjaa", sum := "4a5a2e8a6fc34b3858c5e7d067d12b339003c10a9c7c2aa66a81158b51ab1233", checked := Try.checked }
namespace Rows
def none {H : Type} : Left H := { results := [], args := [] }

/-- 'shunterlaw08.ShapeOffsets': WHATEVER THE INPUT: true; the input reads as it did. -/
def shapeOffsetsSpec : ChangeSpec := { name := "shapeOffsets", fn := fun _ => fun
  | [d] => { results := [.lit (.bool true)], args := [d] }
  | _ => none }
def shapeOffsetsRow : OpenClaim := { program := "ytpdjiiikfjjfjaa", sum := "4a5a2e8a6fc34b3858c5e7d067d12b339003c10a9c7c2aa66a81158b51ab1233", func := "shunter/shunterlaw08.ShapeOffsets", spec := "shapeOffsets", inPlace := ["internal/bytealg.IndexByteString", "internal/bytealg.IndexString", "internal/abi.NoEscape"], unfollowed := true, recurses := true, named := ["internal/bytealg.MaxLen"], apart := false }
def ShapeOffsetsSaid : Prop := shapeOffsetsRow.holds Try.pinned (OpenSpec.ofChange shapeOffsetsSpec)

/-- ITS FALSE NEIGHBOUR: 'it returns false'. Refute it at one input. -/
def shapeOffsetsWrong : ChangeSpec := { name := "shapeOffsets", fn := fun _ => fun
  | [d] => { results := [.lit (.bool false)], args := [d] }
  | _ => none }
def ShapeOffsetsWrongFalsely : Prop := shapeOffsetsRow.holds Try.pinned (OpenSpec.ofChange shapeOffsetsWrong)

/-- 'shunterlaw08.ShapeHeaders': WHATEVER THE INPUT: true; the input reads as it did. -/
def shapeHeadersSpec : ChangeSpec := { name := "shapeHeaders", fn := fun _ => fun
  | [d1, d2, d3] => { results := [.lit (.bool true)], args := [d1, d2, d3] }
  | _ => none }
def shapeHeadersRow : OpenClaim := { program := "ytpdjiiikfjjfjaa", sum := "4a5a2e8a6fc34b3858c5e7d067d12b339003c10a9c7c2aa66a81158b51ab1233", func := "shunter/shunterlaw08.ShapeHeaders", spec := "shapeHeaders", inPlace := ["internal/bytealg.IndexByteString", "internal/bytealg.IndexString", "internal/abi.NoEscape"], unfollowed := true, recurses := true, named := ["internal/bytealg.MaxLen"], apart := false }
def ShapeHeadersSaid : Prop := shapeHeadersRow.holds Try.pinned (OpenSpec.ofChange shapeHeadersSpec)

/-- ITS FALSE NEIGHBOUR: 'it returns false'. Refute it at one input. -/
def shapeHeadersWrong : ChangeSpec := { name := "shapeHeaders", fn := fun _ => fun
  | [d1, d2, d3] => { results := [.lit (.bool false)], args := [d1, d2, d3] }
  | _ => none }
def ShapeHeadersWrongFalsely : Prop := shapeHeadersRow.holds Try.pinned (OpenSpec.ofChange shapeHeadersWrong)

/-- 'shunterlaw08.ShapeVaries': WHATEVER THE INPUT: true; the input reads as it did. -/
def shapeVariesSpec : ChangeSpec := { name := "shapeVaries", fn := fun _ => fun
  | [d1, d2] => { results := [.lit (.bool true)], args := [d1, d2] }
  | _ => none }
def shapeVariesRow : OpenClaim := { program := "ytpdjiiikfjjfjaa", sum := "4a5a2e8a6fc34b3858c5e7d067d12b339003c10a9c7c2aa66a81158b51ab1233", func := "shunter/shunterlaw08.ShapeVaries", spec := "shapeVaries", inPlace := ["internal/bytealg.IndexByteString", "internal/bytealg.IndexString", "internal/abi.NoEscape"], unfollowed := true, recurses := true, named := ["internal/bytealg.MaxLen"], apart := false }
def ShapeVariesSaid : Prop := shapeVariesRow.holds Try.pinned (OpenSpec.ofChange shapeVariesSpec)

/-- ITS FALSE NEIGHBOUR: 'it returns false'. Refute it at one input. -/
def shapeVariesWrong : ChangeSpec := { name := "shapeVaries", fn := fun _ => fun
  | [d1, d2] => { results := [.lit (.bool false)], args := [d1, d2] }
  | _ => none }
def ShapeVariesWrongFalsely : Prop := shapeVariesRow.holds Try.pinned (OpenSpec.ofChange shapeVariesWrong)

/-- 'shunterlaw08.ShapeFits': WHATEVER THE INPUT: true; the input reads as it did. -/
def shapeFitsSpec : ChangeSpec := { name := "shapeFits", fn := fun _ => fun
  | [d] => { results := [.lit (.bool true)], args := [d] }
  | _ => none }
def shapeFitsRow : OpenClaim := { program := "ytpdjiiikfjjfjaa", sum := "4a5a2e8a6fc34b3858c5e7d067d12b339003c10a9c7c2aa66a81158b51ab1233", func := "shunter/shunterlaw08.ShapeFits", spec := "shapeFits", inPlace := ["internal/bytealg.IndexByteString", "internal/bytealg.IndexString", "internal/abi.NoEscape"], unfollowed := true, recurses := true, named := ["internal/bytealg.MaxLen"], apart := false }
def ShapeFitsSaid : Prop := shapeFitsRow.holds Try.pinned (OpenSpec.ofChange shapeFitsSpec)

/-- ITS FALSE NEIGHBOUR: 'it returns false'. Refute it at one input. -/
def shapeFitsWrong : ChangeSpec := { name := "shapeFits", fn := fun _ => fun
  | [d] => { results := [.lit (.bool false)], args := [d] }
  | _ => none }
def ShapeFitsWrongFalsely : Prop := shapeFitsRow.holds Try.pinned (OpenSpec.ofChange shapeFitsWrong)

/-- 'shunterlaw08.ShapeInsts': WHATEVER THE INPUT: true; the input reads as it did. -/
def shapeInstsSpec : ChangeSpec := { name := "shapeInsts", fn := fun _ => fun
  | [d1, d2, d3] => { results := [.lit (.bool true)], args := [d1, d2, d3] }
  | _ => none }
def shapeInstsRow : OpenClaim := { program := "ytpdjiiikfjjfjaa", sum := "4a5a2e8a6fc34b3858c5e7d067d12b339003c10a9c7c2aa66a81158b51ab1233", func := "shunter/shunterlaw08.ShapeInsts", spec := "shapeInsts", inPlace := ["internal/bytealg.IndexByteString", "internal/bytealg.IndexString", "internal/abi.NoEscape"], unfollowed := true, recurses := true, named := ["internal/bytealg.MaxLen"], apart := false }
def ShapeInstsSaid : Prop := shapeInstsRow.holds Try.pinned (OpenSpec.ofChange shapeInstsSpec)

/-- ITS FALSE NEIGHBOUR: 'it returns false'. Refute it at one input. -/
def shapeInstsWrong : ChangeSpec := { name := "shapeInsts", fn := fun _ => fun
  | [d1, d2, d3] => { results := [.lit (.bool false)], args := [d1, d2, d3] }
  | _ => none }
def ShapeInstsWrongFalsely : Prop := shapeInstsRow.holds Try.pinned (OpenSpec.ofChange shapeInstsWrong)

/- THE SECOND FORM. 'bulk': how many values and letters a reading holds, each counted each time it is reached (what is shared counts as often as it is met; a slice's spare places count too). A statement '..UptoSaid' is the law's where the arguments, and the package variables that the reading takes, are together of bulk at most 1048576: NARROWER than '..Said'. Prove '..Said' where nothing that the law and all that it calls make is longer than what came in: it says more and counts as full. Else prove '..UptoSaid'. A law counts once. -/
mutual
def uptoBulk {H : Type} : DataW H → Nat
  | .lit (.string bytes) => bytes.length + 1
  | .lit _ => 1
  | .nil => 1
  | .ptr d => uptoBulk d + 1
  | .slice elems spare => uptoBulkAll elems + uptoBulkAll spare + 1
  | .agg parts => uptoBulkAll parts + 1
  | .iface _ d => uptoBulk d + 1
  | .map entries => uptoBulkEntries entries + 1
  | .held _ => 1
def uptoBulkAll {H : Type} : List (DataW H) → Nat
  | [] => 0
  | d :: r => uptoBulk d + uptoBulkAll r
def uptoBulkEntries {H : Type} : List (Lit × DataW H) → Nat
  | [] => 0
  | x :: r => uptoBulkEntry x + uptoBulkEntries r
def uptoBulkEntry {H : Type} : Lit × DataW H → Nat
  | (.string bytes, d) => bytes.length + uptoBulk d + 1
  | (_, d) => uptoBulk d + 1
 end
def uptoSmall : (H : Type) → List (DataW H) → Bool := fun _ ds => decide (uptoBulkAll ds ≤ 1048576)
def OpenSpec.upto (s : _root_.Go.ChangeSpec) : _root_.Go.OpenSpec := { _root_.Go.OpenSpec.ofChange s with cond := some uptoSmall }

/-- 'shunterlaw08.ShapeOffsets', WHERE WHAT IT READS IS OF BULK AT MOST 1048576: true; the input reads as it did. -/
def shapeOffsetsUptoRow : OpenClaim := { program := "ytpdjiiikfjjfjaa", sum := "4a5a2e8a6fc34b3858c5e7d067d12b339003c10a9c7c2aa66a81158b51ab1233", func := "shunter/shunterlaw08.ShapeOffsets", spec := "shapeOffsets", inPlace := ["internal/bytealg.IndexByteString", "internal/bytealg.IndexString", "internal/abi.NoEscape"], unfollowed := true, recurses := true, named := ["internal/bytealg.MaxLen"], apart := false, narrowed := true }
def ShapeOffsetsUptoSaid : Prop := shapeOffsetsUptoRow.holds Try.pinned (OpenSpec.upto shapeOffsetsSpec)

/-- 'shunterlaw08.ShapeHeaders', WHERE WHAT IT READS IS OF BULK AT MOST 1048576: true; the input reads as it did. -/
def shapeHeadersUptoRow : OpenClaim := { program := "ytpdjiiikfjjfjaa", sum := "4a5a2e8a6fc34b3858c5e7d067d12b339003c10a9c7c2aa66a81158b51ab1233", func := "shunter/shunterlaw08.ShapeHeaders", spec := "shapeHeaders", inPlace := ["internal/bytealg.IndexByteString", "internal/bytealg.IndexString", "internal/abi.NoEscape"], unfollowed := true, recurses := true, named := ["internal/bytealg.MaxLen"], apart := false, narrowed := true }
def ShapeHeadersUptoSaid : Prop := shapeHeadersUptoRow.holds Try.pinned (OpenSpec.upto shapeHeadersSpec)

/-- 'shunterlaw08.ShapeVaries', WHERE WHAT IT READS IS OF BULK AT MOST 1048576: true; the input reads as it did. -/
def shapeVariesUptoRow : OpenClaim := { program := "ytpdjiiikfjjfjaa", sum := "4a5a2e8a6fc34b3858c5e7d067d12b339003c10a9c7c2aa66a81158b51ab1233", func := "shunter/shunterlaw08.ShapeVaries", spec := "shapeVaries", inPlace := ["internal/bytealg.IndexByteString", "internal/bytealg.IndexString", "internal/abi.NoEscape"], unfollowed := true, recurses := true, named := ["internal/bytealg.MaxLen"], apart := false, narrowed := true }
def ShapeVariesUptoSaid : Prop := shapeVariesUptoRow.holds Try.pinned (OpenSpec.upto shapeVariesSpec)

/-- 'shunterlaw08.ShapeFits', WHERE WHAT IT READS IS OF BULK AT MOST 1048576: true; the input reads as it did. -/
def shapeFitsUptoRow : OpenClaim := { program := "ytpdjiiikfjjfjaa", sum := "4a5a2e8a6fc34b3858c5e7d067d12b339003c10a9c7c2aa66a81158b51ab1233", func := "shunter/shunterlaw08.ShapeFits", spec := "shapeFits", inPlace := ["internal/bytealg.IndexByteString", "internal/bytealg.IndexString", "internal/abi.NoEscape"], unfollowed := true, recurses := true, named := ["internal/bytealg.MaxLen"], apart := false, narrowed := true }
def ShapeFitsUptoSaid : Prop := shapeFitsUptoRow.holds Try.pinned (OpenSpec.upto shapeFitsSpec)

/-- 'shunterlaw08.ShapeInsts', WHERE WHAT IT READS IS OF BULK AT MOST 1048576: true; the input reads as it did. -/
def shapeInstsUptoRow : OpenClaim := { program := "ytpdjiiikfjjfjaa", sum := "4a5a2e8a6fc34b3858c5e7d067d12b339003c10a9c7c2aa66a81158b51ab1233", func := "shunter/shunterlaw08.ShapeInsts", spec := "shapeInsts", inPlace := ["internal/bytealg.IndexByteString", "internal/bytealg.IndexString", "internal/abi.NoEscape"], unfollowed := true, recurses := true, named := ["internal/bytealg.MaxLen"], apart := false, narrowed := true }
def ShapeInstsUptoSaid : Prop := shapeInstsUptoRow.holds Try.pinned (OpenSpec.upto shapeInstsSpec)

end Rows
end Go.Proofs.Ytpdjiiikfjjfjaa
