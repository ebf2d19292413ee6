/-
  No cell of these rows narrows 'for every input' (looked for: loops, veiled, ifaces, maps, wideKeys, modest, calm, conditions, laid).
  DERIVED. THE GIVEN ROWS OF THIS SEAT. 12 by the template 'for every input the law returns true; each argument reads behind the call as it read before'; 0 by the template 'total and deterministic' (their statements: YtjbpianofkblbaaTotals.lean).
  GIVEN WITH THE SEED: the statements are not yours to turn. If you find one false, say at which input.
  Laid BY PROGRAM, IN A SANDBOX (cutbox-rows.mjs): the forced cells as the released guide's own fill.sh prints them over the translation 14cb42d713c4cb49… (all of the seat's roots in one cut). By AI agents, Wed Nov 11 2026. No macro, syntax, notation, axiom, sorry.
-/
import Derived.Test.YtjbpianofkblbaaChecked
import GoSem.Claim
import GoSem.ClaimJoined
import GoSem.ClaimMapViews
import Derived.JoinedTies
import Derived.KernelRfl
namespace Go.Proofs.Ytjbpianofkblbaa
/- THE CELL 'sum', in the pinned program and in every row, IS THE sha256 OF THE DUMP (.gsa) THAT YtjbpianofkblbaaProg.lean LOADS. Nothing in Lean hashes anything: it is a label: what it is worth is what the hold of that sum in a sandbox is worth. -/
noncomputable def Try.pinned : Pinned := { name := "ytjbpianofkblbaa", sum := "14cb42d713c4cb4981b2a71c0070ca44073eb14609e485037593be53fe2c3aea", checked := Try.checked }
namespace Rows
def none {H : Type} : Left H := { results := [], args := [] }

/-- 'shunterlaw03.BitsGets': WHATEVER THE INPUT: true; the input reads as it did. -/
def bitsGetsSpec : ChangeSpec := { name := "bitsGets", fn := fun _ => fun
  | [d1, d2, d3] => { results := [.lit (.bool true)], args := [d1, d2, d3] }
  | _ => none }
def bitsGetsRow : OpenClaim := { program := "ytjbpianofkblbaa", sum := "14cb42d713c4cb4981b2a71c0070ca44073eb14609e485037593be53fe2c3aea", func := "shunter/shunterlaw03.BitsGets", spec := "bitsGets", inPlace := ["math/bits.Sub64"], recurses := true, apart := false }
def BitsGetsSaid : Prop := bitsGetsRow.holds Try.pinned (OpenSpec.ofChange bitsGetsSpec)

/-- ITS FALSE NEIGHBOUR: 'it returns false'. Refute it at one input. -/
def bitsGetsWrong : ChangeSpec := { name := "bitsGets", fn := fun _ => fun
  | [d1, d2, d3] => { results := [.lit (.bool false)], args := [d1, d2, d3] }
  | _ => none }
def BitsGetsWrongFalsely : Prop := bitsGetsRow.holds Try.pinned (OpenSpec.ofChange bitsGetsWrong)

/-- 'shunterlaw05.NameNames': WHATEVER THE INPUT: true; the input reads as it did. -/
def nameNamesSpec : ChangeSpec := { name := "nameNames", fn := fun _ => fun
  | [d1, d2] => { results := [.lit (.bool true)], args := [d1, d2] }
  | _ => none }
def nameNamesRow : OpenClaim := { program := "ytjbpianofkblbaa", sum := "14cb42d713c4cb4981b2a71c0070ca44073eb14609e485037593be53fe2c3aea", func := "shunter/shunterlaw05.NameNames", spec := "nameNames", inPlace := ["internal/abi.NoEscape"], apart := false }
def NameNamesSaid : Prop := nameNamesRow.holds Try.pinned (OpenSpec.ofChange nameNamesSpec)

/-- ITS FALSE NEIGHBOUR: 'it returns false'. Refute it at one input. -/
def nameNamesWrong : ChangeSpec := { name := "nameNames", fn := fun _ => fun
  | [d1, d2] => { results := [.lit (.bool false)], args := [d1, d2] }
  | _ => none }
def NameNamesWrongFalsely : Prop := nameNamesRow.holds Try.pinned (OpenSpec.ofChange nameNamesWrong)

/-- 'shunterlaw05.NameIndex': WHATEVER THE INPUT: true; the input reads as it did. -/
def nameIndexSpec : ChangeSpec := { name := "nameIndex", fn := fun _ => fun
  | [d1, d2] => { results := [.lit (.bool true)], args := [d1, d2] }
  | _ => none }
def nameIndexRow : OpenClaim := { program := "ytjbpianofkblbaa", sum := "14cb42d713c4cb4981b2a71c0070ca44073eb14609e485037593be53fe2c3aea", func := "shunter/shunterlaw05.NameIndex", spec := "nameIndex", inPlace := ["internal/abi.NoEscape"], unfollowed := true, recurses := true, apart := false }
def NameIndexSaid : Prop := nameIndexRow.holds Try.pinned (OpenSpec.ofChange nameIndexSpec)

/-- ITS FALSE NEIGHBOUR: 'it returns false'. Refute it at one input. -/
def nameIndexWrong : ChangeSpec := { name := "nameIndex", fn := fun _ => fun
  | [d1, d2] => { results := [.lit (.bool false)], args := [d1, d2] }
  | _ => none }
def NameIndexWrongFalsely : Prop := nameIndexRow.holds Try.pinned (OpenSpec.ofChange nameIndexWrong)

/-- 'shunterlaw05.NameRunes': WHATEVER THE INPUT: true; the input reads as it did. -/
def nameRunesSpec : ChangeSpec := { name := "nameRunes", fn := fun _ => fun
  | [d1, d2] => { results := [.lit (.bool true)], args := [d1, d2] }
  | _ => none }
def nameRunesRow : OpenClaim := { program := "ytjbpianofkblbaa", sum := "14cb42d713c4cb4981b2a71c0070ca44073eb14609e485037593be53fe2c3aea", func := "shunter/shunterlaw05.NameRunes", spec := "nameRunes", inPlace := ["internal/abi.NoEscape"], apart := false }
def NameRunesSaid : Prop := nameRunesRow.holds Try.pinned (OpenSpec.ofChange nameRunesSpec)

/-- ITS FALSE NEIGHBOUR: 'it returns false'. Refute it at one input. -/
def nameRunesWrong : ChangeSpec := { name := "nameRunes", fn := fun _ => fun
  | [d1, d2] => { results := [.lit (.bool false)], args := [d1, d2] }
  | _ => none }
def NameRunesWrongFalsely : Prop := nameRunesRow.holds Try.pinned (OpenSpec.ofChange nameRunesWrong)

/-- 'shunterlaw03.BitsPuts': WHATEVER THE INPUT: true; the input reads as it did. -/
def bitsPutsSpec : ChangeSpec := { name := "bitsPuts", fn := fun _ => fun
  | [d1, d2, d3] => { results := [.lit (.bool true)], args := [d1, d2, d3] }
  | _ => none }
def bitsPutsRow : OpenClaim := { program := "ytjbpianofkblbaa", sum := "14cb42d713c4cb4981b2a71c0070ca44073eb14609e485037593be53fe2c3aea", func := "shunter/shunterlaw03.BitsPuts", spec := "bitsPuts", inPlace := ["math/bits.Sub64"], recurses := true, apart := false }
def BitsPutsSaid : Prop := bitsPutsRow.holds Try.pinned (OpenSpec.ofChange bitsPutsSpec)

/-- ITS FALSE NEIGHBOUR: 'it returns false'. Refute it at one input. -/
def bitsPutsWrong : ChangeSpec := { name := "bitsPuts", fn := fun _ => fun
  | [d1, d2, d3] => { results := [.lit (.bool false)], args := [d1, d2, d3] }
  | _ => none }
def BitsPutsWrongFalsely : Prop := bitsPutsRow.holds Try.pinned (OpenSpec.ofChange bitsPutsWrong)

/-- 'shunterlaw03.BitsTakes': WHATEVER THE INPUT: true; the input reads as it did. -/
def bitsTakesSpec : ChangeSpec := { name := "bitsTakes", fn := fun _ => fun
  | [d1, d2] => { results := [.lit (.bool true)], args := [d1, d2] }
  | _ => none }
def bitsTakesRow : OpenClaim := { program := "ytjbpianofkblbaa", sum := "14cb42d713c4cb4981b2a71c0070ca44073eb14609e485037593be53fe2c3aea", func := "shunter/shunterlaw03.BitsTakes", spec := "bitsTakes", inPlace := ["math/bits.Sub64"], recurses := true, apart := false }
def BitsTakesSaid : Prop := bitsTakesRow.holds Try.pinned (OpenSpec.ofChange bitsTakesSpec)

/-- ITS FALSE NEIGHBOUR: 'it returns false'. Refute it at one input. -/
def bitsTakesWrong : ChangeSpec := { name := "bitsTakes", fn := fun _ => fun
  | [d1, d2] => { results := [.lit (.bool false)], args := [d1, d2] }
  | _ => none }
def BitsTakesWrongFalsely : Prop := bitsTakesRow.holds Try.pinned (OpenSpec.ofChange bitsTakesWrong)

/-- 'shunterlaw05.NameKeys': WHATEVER THE INPUT: true; the input reads as it did. -/
def nameKeysSpec : ChangeSpec := { name := "nameKeys", fn := fun _ => fun
  | [d1, d2] => { results := [.lit (.bool true)], args := [d1, d2] }
  | _ => none }
def nameKeysRow : OpenClaim := { program := "ytjbpianofkblbaa", sum := "14cb42d713c4cb4981b2a71c0070ca44073eb14609e485037593be53fe2c3aea", func := "shunter/shunterlaw05.NameKeys", spec := "nameKeys", inPlace := ["internal/abi.NoEscape"], apart := false }
def NameKeysSaid : Prop := nameKeysRow.holds Try.pinned (OpenSpec.ofChange nameKeysSpec)

/-- ITS FALSE NEIGHBOUR: 'it returns false'. Refute it at one input. -/
def nameKeysWrong : ChangeSpec := { name := "nameKeys", fn := fun _ => fun
  | [d1, d2] => { results := [.lit (.bool false)], args := [d1, d2] }
  | _ => none }
def NameKeysWrongFalsely : Prop := nameKeysRow.holds Try.pinned (OpenSpec.ofChange nameKeysWrong)

/-- 'shunterlaw05.NameOrders': WHATEVER THE INPUT: true; the input reads as it did. -/
def nameOrdersSpec : ChangeSpec := { name := "nameOrders", fn := fun _ => fun
  | [d1, d2, d3] => { results := [.lit (.bool true)], args := [d1, d2, d3] }
  | _ => none }
def nameOrdersRow : OpenClaim := { program := "ytjbpianofkblbaa", sum := "14cb42d713c4cb4981b2a71c0070ca44073eb14609e485037593be53fe2c3aea", func := "shunter/shunterlaw05.NameOrders", spec := "nameOrders", inPlace := ["internal/abi.NoEscape"], apart := false }
def NameOrdersSaid : Prop := nameOrdersRow.holds Try.pinned (OpenSpec.ofChange nameOrdersSpec)

/-- ITS FALSE NEIGHBOUR: 'it returns false'. Refute it at one input. -/
def nameOrdersWrong : ChangeSpec := { name := "nameOrders", fn := fun _ => fun
  | [d1, d2, d3] => { results := [.lit (.bool false)], args := [d1, d2, d3] }
  | _ => none }
def NameOrdersWrongFalsely : Prop := nameOrdersRow.holds Try.pinned (OpenSpec.ofChange nameOrdersWrong)

/-- 'shunterlaw03.BitsRows': WHATEVER THE INPUT: true; the input reads as it did. -/
def bitsRowsSpec : ChangeSpec := { name := "bitsRows", fn := fun _ => fun
  | [d] => { results := [.lit (.bool true)], args := [d] }
  | _ => none }
def bitsRowsRow : OpenClaim := { program := "ytjbpianofkblbaa", sum := "14cb42d713c4cb4981b2a71c0070ca44073eb14609e485037593be53fe2c3aea", func := "shunter/shunterlaw03.BitsRows", spec := "bitsRows", inPlace := ["math/bits.Sub64"], recurses := true, apart := false }
def BitsRowsSaid : Prop := bitsRowsRow.holds Try.pinned (OpenSpec.ofChange bitsRowsSpec)

/-- ITS FALSE NEIGHBOUR: 'it returns false'. Refute it at one input. -/
def bitsRowsWrong : ChangeSpec := { name := "bitsRows", fn := fun _ => fun
  | [d] => { results := [.lit (.bool false)], args := [d] }
  | _ => none }
def BitsRowsWrongFalsely : Prop := bitsRowsRow.holds Try.pinned (OpenSpec.ofChange bitsRowsWrong)

/-- 'shunterlaw03.BitsBack': WHATEVER THE INPUT: true; the input reads as it did. -/
def bitsBackSpec : ChangeSpec := { name := "bitsBack", fn := fun _ => fun
  | [d] => { results := [.lit (.bool true)], args := [d] }
  | _ => none }
def bitsBackRow : OpenClaim := { program := "ytjbpianofkblbaa", sum := "14cb42d713c4cb4981b2a71c0070ca44073eb14609e485037593be53fe2c3aea", func := "shunter/shunterlaw03.BitsBack", spec := "bitsBack", inPlace := ["math/bits.Sub64"], recurses := true, apart := false }
def BitsBackSaid : Prop := bitsBackRow.holds Try.pinned (OpenSpec.ofChange bitsBackSpec)

/-- ITS FALSE NEIGHBOUR: 'it returns false'. Refute it at one input. -/
def bitsBackWrong : ChangeSpec := { name := "bitsBack", fn := fun _ => fun
  | [d] => { results := [.lit (.bool false)], args := [d] }
  | _ => none }
def BitsBackWrongFalsely : Prop := bitsBackRow.holds Try.pinned (OpenSpec.ofChange bitsBackWrong)

/-- 'shunterlaw05.NamePlaces': WHATEVER THE INPUT: true; the input reads as it did. -/
def namePlacesSpec : ChangeSpec := { name := "namePlaces", fn := fun _ => fun
  | [d1, d2] => { results := [.lit (.bool true)], args := [d1, d2] }
  | _ => none }
def namePlacesRow : OpenClaim := { program := "ytjbpianofkblbaa", sum := "14cb42d713c4cb4981b2a71c0070ca44073eb14609e485037593be53fe2c3aea", func := "shunter/shunterlaw05.NamePlaces", spec := "namePlaces", inPlace := ["internal/abi.NoEscape", "internal/bytealg.IndexByteString", "internal/bytealg.IndexString"], named := ["internal/bytealg.MaxLen"], apart := false }
def NamePlacesSaid : Prop := namePlacesRow.holds Try.pinned (OpenSpec.ofChange namePlacesSpec)

/-- ITS FALSE NEIGHBOUR: 'it returns false'. Refute it at one input. -/
def namePlacesWrong : ChangeSpec := { name := "namePlaces", fn := fun _ => fun
  | [d1, d2] => { results := [.lit (.bool false)], args := [d1, d2] }
  | _ => none }
def NamePlacesWrongFalsely : Prop := namePlacesRow.holds Try.pinned (OpenSpec.ofChange namePlacesWrong)

/-- 'shunterlaw03.BitsNils': WHATEVER THE INPUT: true; the input reads as it did. -/
def bitsNilsSpec : ChangeSpec := { name := "bitsNils", fn := fun _ => fun
  | [d1, d2] => { results := [.lit (.bool true)], args := [d1, d2] }
  | _ => none }
def bitsNilsRow : OpenClaim := { program := "ytjbpianofkblbaa", sum := "14cb42d713c4cb4981b2a71c0070ca44073eb14609e485037593be53fe2c3aea", func := "shunter/shunterlaw03.BitsNils", spec := "bitsNils", inPlace := ["math/bits.Sub64"], recurses := true, apart := false }
def BitsNilsSaid : Prop := bitsNilsRow.holds Try.pinned (OpenSpec.ofChange bitsNilsSpec)

/-- ITS FALSE NEIGHBOUR: 'it returns false'. Refute it at one input. -/
def bitsNilsWrong : ChangeSpec := { name := "bitsNils", fn := fun _ => fun
  | [d1, d2] => { results := [.lit (.bool false)], args := [d1, d2] }
  | _ => none }
def BitsNilsWrongFalsely : Prop := bitsNilsRow.holds Try.pinned (OpenSpec.ofChange bitsNilsWrong)

/- THE SECOND FORM. 'bulk': how many values and letters a reading holds, each counted each time it is reached (what is shared counts as often as it is met; a slice's spare places count too). A statement '..UptoSaid' is the law's where the arguments, and the package variables that the reading takes, are together of bulk at most 1048576: NARROWER than '..Said'. Prove '..Said' where nothing that the law and all that it calls make is longer than what came in: it says more and counts as full. Else prove '..UptoSaid'. A law counts once. -/
mutual
def uptoBulk {H : Type} : DataW H → Nat
  | .lit (.string bytes) => bytes.length + 1
  | .lit _ => 1
  | .nil => 1
  | .ptr d => uptoBulk d + 1
  | .slice elems spare => uptoBulkAll elems + uptoBulkAll spare + 1
  | .agg parts => uptoBulkAll parts + 1
  | .iface _ d => uptoBulk d + 1
  | .map entries => uptoBulkEntries entries + 1
  | .held _ => 1
def uptoBulkAll {H : Type} : List (DataW H) → Nat
  | [] => 0
  | d :: r => uptoBulk d + uptoBulkAll r
def uptoBulkEntries {H : Type} : List (Lit × DataW H) → Nat
  | [] => 0
  | x :: r => uptoBulkEntry x + uptoBulkEntries r
def uptoBulkEntry {H : Type} : Lit × DataW H → Nat
  | (.string bytes, d) => bytes.length + uptoBulk d + 1
  | (_, d) => uptoBulk d + 1
 end
def uptoSmall : (H : Type) → List (DataW H) → Bool := fun _ ds => decide (uptoBulkAll ds ≤ 1048576)
def OpenSpec.upto (s : _root_.Go.ChangeSpec) : _root_.Go.OpenSpec := { _root_.Go.OpenSpec.ofChange s with cond := some uptoSmall }

/-- 'shunterlaw03.BitsGets', WHERE WHAT IT READS IS OF BULK AT MOST 1048576: true; the input reads as it did. -/
def bitsGetsUptoRow : OpenClaim := { program := "ytjbpianofkblbaa", sum := "14cb42d713c4cb4981b2a71c0070ca44073eb14609e485037593be53fe2c3aea", func := "shunter/shunterlaw03.BitsGets", spec := "bitsGets", inPlace := ["math/bits.Sub64"], recurses := true, apart := false, narrowed := true }
def BitsGetsUptoSaid : Prop := bitsGetsUptoRow.holds Try.pinned (OpenSpec.upto bitsGetsSpec)

/-- 'shunterlaw05.NameNames', WHERE WHAT IT READS IS OF BULK AT MOST 1048576: true; the input reads as it did. -/
def nameNamesUptoRow : OpenClaim := { program := "ytjbpianofkblbaa", sum := "14cb42d713c4cb4981b2a71c0070ca44073eb14609e485037593be53fe2c3aea", func := "shunter/shunterlaw05.NameNames", spec := "nameNames", inPlace := ["internal/abi.NoEscape"], apart := false, narrowed := true }
def NameNamesUptoSaid : Prop := nameNamesUptoRow.holds Try.pinned (OpenSpec.upto nameNamesSpec)

/-- 'shunterlaw05.NameIndex', WHERE WHAT IT READS IS OF BULK AT MOST 1048576: true; the input reads as it did. -/
def nameIndexUptoRow : OpenClaim := { program := "ytjbpianofkblbaa", sum := "14cb42d713c4cb4981b2a71c0070ca44073eb14609e485037593be53fe2c3aea", func := "shunter/shunterlaw05.NameIndex", spec := "nameIndex", inPlace := ["internal/abi.NoEscape"], unfollowed := true, recurses := true, apart := false, narrowed := true }
def NameIndexUptoSaid : Prop := nameIndexUptoRow.holds Try.pinned (OpenSpec.upto nameIndexSpec)

/-- 'shunterlaw05.NameRunes', WHERE WHAT IT READS IS OF BULK AT MOST 1048576: true; the input reads as it did. -/
def nameRunesUptoRow : OpenClaim := { program := "ytjbpianofkblbaa", sum := "14cb42d713c4cb4981b2a71c0070ca44073eb14609e485037593be53fe2c3aea", func := "shunter/shunterlaw05.NameRunes", spec := "nameRunes", inPlace := ["internal/abi.NoEscape"], apart := false, narrowed := true }
def NameRunesUptoSaid : Prop := nameRunesUptoRow.holds Try.pinned (OpenSpec.upto nameRunesSpec)

/-- 'shunterlaw03.BitsPuts', WHERE WHAT IT READS IS OF BULK AT MOST 1048576: true; the input reads as it did. -/
def bitsPutsUptoRow : OpenClaim := { program := "ytjbpianofkblbaa", sum := "14cb42d713c4cb4981b2a71c0070ca44073eb14609e485037593be53fe2c3aea", func := "shunter/shunterlaw03.BitsPuts", spec := "bitsPuts", inPlace := ["math/bits.Sub64"], recurses := true, apart := false, narrowed := true }
def BitsPutsUptoSaid : Prop := bitsPutsUptoRow.holds Try.pinned (OpenSpec.upto bitsPutsSpec)

/-- 'shunterlaw03.BitsTakes', WHERE WHAT IT READS IS OF BULK AT MOST 1048576: true; the input reads as it did. -/
def bitsTakesUptoRow : OpenClaim := { program := "ytjbpianofkblbaa", sum := "14cb42d713c4cb4981b2a71c0070ca44073eb14609e485037593be53fe2c3aea", func := "shunter/shunterlaw03.BitsTakes", spec := "bitsTakes", inPlace := ["math/bits.Sub64"], recurses := true, apart := false, narrowed := true }
def BitsTakesUptoSaid : Prop := bitsTakesUptoRow.holds Try.pinned (OpenSpec.upto bitsTakesSpec)

/-- 'shunterlaw05.NameKeys', WHERE WHAT IT READS IS OF BULK AT MOST 1048576: true; the input reads as it did. -/
def nameKeysUptoRow : OpenClaim := { program := "ytjbpianofkblbaa", sum := "14cb42d713c4cb4981b2a71c0070ca44073eb14609e485037593be53fe2c3aea", func := "shunter/shunterlaw05.NameKeys", spec := "nameKeys", inPlace := ["internal/abi.NoEscape"], apart := false, narrowed := true }
def NameKeysUptoSaid : Prop := nameKeysUptoRow.holds Try.pinned (OpenSpec.upto nameKeysSpec)

/-- 'shunterlaw05.NameOrders', WHERE WHAT IT READS IS OF BULK AT MOST 1048576: true; the input reads as it did. -/
def nameOrdersUptoRow : OpenClaim := { program := "ytjbpianofkblbaa", sum := "14cb42d713c4cb4981b2a71c0070ca44073eb14609e485037593be53fe2c3aea", func := "shunter/shunterlaw05.NameOrders", spec := "nameOrders", inPlace := ["internal/abi.NoEscape"], apart := false, narrowed := true }
def NameOrdersUptoSaid : Prop := nameOrdersUptoRow.holds Try.pinned (OpenSpec.upto nameOrdersSpec)

/-- 'shunterlaw03.BitsRows', WHERE WHAT IT READS IS OF BULK AT MOST 1048576: true; the input reads as it did. -/
def bitsRowsUptoRow : OpenClaim := { program := "ytjbpianofkblbaa", sum := "14cb42d713c4cb4981b2a71c0070ca44073eb14609e485037593be53fe2c3aea", func := "shunter/shunterlaw03.BitsRows", spec := "bitsRows", inPlace := ["math/bits.Sub64"], recurses := true, apart := false, narrowed := true }
def BitsRowsUptoSaid : Prop := bitsRowsUptoRow.holds Try.pinned (OpenSpec.upto bitsRowsSpec)

/-- 'shunterlaw03.BitsBack', WHERE WHAT IT READS IS OF BULK AT MOST 1048576: true; the input reads as it did. -/
def bitsBackUptoRow : OpenClaim := { program := "ytjbpianofkblbaa", sum := "14cb42d713c4cb4981b2a71c0070ca44073eb14609e485037593be53fe2c3aea", func := "shunter/shunterlaw03.BitsBack", spec := "bitsBack", inPlace := ["math/bits.Sub64"], recurses := true, apart := false, narrowed := true }
def BitsBackUptoSaid : Prop := bitsBackUptoRow.holds Try.pinned (OpenSpec.upto bitsBackSpec)

/-- 'shunterlaw05.NamePlaces', WHERE WHAT IT READS IS OF BULK AT MOST 1048576: true; the input reads as it did. -/
def namePlacesUptoRow : OpenClaim := { program := "ytjbpianofkblbaa", sum := "14cb42d713c4cb4981b2a71c0070ca44073eb14609e485037593be53fe2c3aea", func := "shunter/shunterlaw05.NamePlaces", spec := "namePlaces", inPlace := ["internal/abi.NoEscape", "internal/bytealg.IndexByteString", "internal/bytealg.IndexString"], named := ["internal/bytealg.MaxLen"], apart := false, narrowed := true }
def NamePlacesUptoSaid : Prop := namePlacesUptoRow.holds Try.pinned (OpenSpec.upto namePlacesSpec)

/-- 'shunterlaw03.BitsNils', WHERE WHAT IT READS IS OF BULK AT MOST 1048576: true; the input reads as it did. -/
def bitsNilsUptoRow : OpenClaim := { program := "ytjbpianofkblbaa", sum := "14cb42d713c4cb4981b2a71c0070ca44073eb14609e485037593be53fe2c3aea", func := "shunter/shunterlaw03.BitsNils", spec := "bitsNils", inPlace := ["math/bits.Sub64"], recurses := true, apart := false, narrowed := true }
def BitsNilsUptoSaid : Prop := bitsNilsUptoRow.holds Try.pinned (OpenSpec.upto bitsNilsSpec)

end Rows
end Go.Proofs.Ytjbpianofkblbaa
