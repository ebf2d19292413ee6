/-
  No cell of these rows narrows 'for every input' (looked for: loops, veiled, ifaces, maps, wideKeys, modest, calm, conditions, laid).
  DERIVED. THE GIVEN ROWS OF THIS SEAT. 13 by the template 'for every input the law returns true; each argument reads behind the call as it read before'; 0 by the template 'total and deterministic' (their statements: YtfdbcnbakchcgaaTotals.lean).
  GIVEN WITH THE SEED: the statements are not yours to turn. If you find one false, say at which input.
  Laid BY PROGRAM, IN A SANDBOX (cutbox-rows.mjs): the forced cells as the released guide's own fill.sh prints them over the translation 54c4521561c78dd2… (all of the seat's roots in one cut). By AI agents, Wed Nov 11 2026. No macro, syntax, notation, axiom, sorry.
-/
import Derived.Test.YtfdbcnbakchcgaaChecked
import GoSem.Claim
import GoSem.ClaimJoined
import GoSem.ClaimMapViews
import Derived.JoinedTies
import Derived.KernelRfl
namespace Go.Proofs.Ytfdbcnbakchcgaa
/- THE CELL 'sum', in the pinned program and in every row, IS THE sha256 OF THE DUMP (.gsa) THAT YtfdbcnbakchcgaaProg.lean LOADS. Nothing in Lean hashes anything: it is a label: what it is worth is what the hold of that sum in a sandbox is worth. -/
noncomputable def Try.pinned : Pinned := { name := "ytfdbcnbakchcgaa", sum := "54c4521561c78dd284af8c5245b74023d83e4a75090971e15a2c14604a14cf94", checked := Try.checked }
namespace Rows
def none {H : Type} : Left H := { results := [], args := [] }

/-- 'shunterlaw20.TriePlays': WHATEVER THE INPUT: true; the input reads as it did. -/
def triePlaysSpec : ChangeSpec := { name := "triePlays", fn := fun _ => fun
  | [d1, d2] => { results := [.lit (.bool true)], args := [d1, d2] }
  | _ => none }
def triePlaysRow : OpenClaim := { program := "ytfdbcnbakchcgaa", sum := "54c4521561c78dd284af8c5245b74023d83e4a75090971e15a2c14604a14cf94", func := "shunter/shunterlaw20.TriePlays", spec := "triePlays", inPlace := ["math/bits.Sub64"], unfollowed := true, recurses := true, apart := false }
def TriePlaysSaid : Prop := triePlaysRow.holds Try.pinned (OpenSpec.ofChange triePlaysSpec)

/-- ITS FALSE NEIGHBOUR: 'it returns false'. Refute it at one input. -/
def triePlaysWrong : ChangeSpec := { name := "triePlays", fn := fun _ => fun
  | [d1, d2] => { results := [.lit (.bool false)], args := [d1, d2] }
  | _ => none }
def TriePlaysWrongFalsely : Prop := triePlaysRow.holds Try.pinned (OpenSpec.ofChange triePlaysWrong)

/-- 'shunterlaw20.TrieLongest': WHATEVER THE INPUT: true; the input reads as it did. -/
def trieLongestSpec : ChangeSpec := { name := "trieLongest", fn := fun _ => fun
  | [d1, d2, d3] => { results := [.lit (.bool true)], args := [d1, d2, d3] }
  | _ => none }
def trieLongestRow : OpenClaim := { program := "ytfdbcnbakchcgaa", sum := "54c4521561c78dd284af8c5245b74023d83e4a75090971e15a2c14604a14cf94", func := "shunter/shunterlaw20.TrieLongest", spec := "trieLongest", inPlace := ["math/bits.Sub64"], unfollowed := true, recurses := true, apart := false }
def TrieLongestSaid : Prop := trieLongestRow.holds Try.pinned (OpenSpec.ofChange trieLongestSpec)

/-- ITS FALSE NEIGHBOUR: 'it returns false'. Refute it at one input. -/
def trieLongestWrong : ChangeSpec := { name := "trieLongest", fn := fun _ => fun
  | [d1, d2, d3] => { results := [.lit (.bool false)], args := [d1, d2, d3] }
  | _ => none }
def TrieLongestWrongFalsely : Prop := trieLongestRow.holds Try.pinned (OpenSpec.ofChange trieLongestWrong)

/-- 'shunterlaw20.TrieLists': WHATEVER THE INPUT: true; the input reads as it did. -/
def trieListsSpec : ChangeSpec := { name := "trieLists", fn := fun _ => fun
  | [d1, d2] => { results := [.lit (.bool true)], args := [d1, d2] }
  | _ => none }
def trieListsRow : OpenClaim := { program := "ytfdbcnbakchcgaa", sum := "54c4521561c78dd284af8c5245b74023d83e4a75090971e15a2c14604a14cf94", func := "shunter/shunterlaw20.TrieLists", spec := "trieLists", inPlace := ["math/bits.Sub64"], unfollowed := true, recurses := true, apart := false }
def TrieListsSaid : Prop := trieListsRow.holds Try.pinned (OpenSpec.ofChange trieListsSpec)

/-- ITS FALSE NEIGHBOUR: 'it returns false'. Refute it at one input. -/
def trieListsWrong : ChangeSpec := { name := "trieLists", fn := fun _ => fun
  | [d1, d2] => { results := [.lit (.bool false)], args := [d1, d2] }
  | _ => none }
def TrieListsWrongFalsely : Prop := trieListsRow.holds Try.pinned (OpenSpec.ofChange trieListsWrong)

/-- 'shunterlaw20.TrieBack': WHATEVER THE INPUT: true; the input reads as it did. -/
def trieBackSpec : ChangeSpec := { name := "trieBack", fn := fun _ => fun
  | [d1, d2] => { results := [.lit (.bool true)], args := [d1, d2] }
  | _ => none }
def trieBackRow : OpenClaim := { program := "ytfdbcnbakchcgaa", sum := "54c4521561c78dd284af8c5245b74023d83e4a75090971e15a2c14604a14cf94", func := "shunter/shunterlaw20.TrieBack", spec := "trieBack", inPlace := ["math/bits.Sub64"], unfollowed := true, recurses := true, apart := false }
def TrieBackSaid : Prop := trieBackRow.holds Try.pinned (OpenSpec.ofChange trieBackSpec)

/-- ITS FALSE NEIGHBOUR: 'it returns false'. Refute it at one input. -/
def trieBackWrong : ChangeSpec := { name := "trieBack", fn := fun _ => fun
  | [d1, d2] => { results := [.lit (.bool false)], args := [d1, d2] }
  | _ => none }
def TrieBackWrongFalsely : Prop := trieBackRow.holds Try.pinned (OpenSpec.ofChange trieBackWrong)

/-- 'shunterlaw20.TrieCopies': WHATEVER THE INPUT: true; the input reads as it did. -/
def trieCopiesSpec : ChangeSpec := { name := "trieCopies", fn := fun _ => fun
  | [d1, d2] => { results := [.lit (.bool true)], args := [d1, d2] }
  | _ => none }
def trieCopiesRow : OpenClaim := { program := "ytfdbcnbakchcgaa", sum := "54c4521561c78dd284af8c5245b74023d83e4a75090971e15a2c14604a14cf94", func := "shunter/shunterlaw20.TrieCopies", spec := "trieCopies", inPlace := ["math/bits.Sub64"], unfollowed := true, recurses := true, apart := false }
def TrieCopiesSaid : Prop := trieCopiesRow.holds Try.pinned (OpenSpec.ofChange trieCopiesSpec)

/-- ITS FALSE NEIGHBOUR: 'it returns false'. Refute it at one input. -/
def trieCopiesWrong : ChangeSpec := { name := "trieCopies", fn := fun _ => fun
  | [d1, d2] => { results := [.lit (.bool false)], args := [d1, d2] }
  | _ => none }
def TrieCopiesWrongFalsely : Prop := trieCopiesRow.holds Try.pinned (OpenSpec.ofChange trieCopiesWrong)

/-- 'shunterlaw21.TernShadows': WHATEVER THE INPUT: true; the input reads as it did. -/
def ternShadowsSpec : ChangeSpec := { name := "ternShadows", fn := fun _ => fun
  | [d1, d2, d3] => { results := [.lit (.bool true)], args := [d1, d2, d3] }
  | _ => none }
def ternShadowsRow : OpenClaim := { program := "ytfdbcnbakchcgaa", sum := "54c4521561c78dd284af8c5245b74023d83e4a75090971e15a2c14604a14cf94", func := "shunter/shunterlaw21.TernShadows", spec := "ternShadows", inPlace := ["math/bits.Sub64", "slices.overlaps[shunter/tern.Item]"], unfollowed := true, recurses := true, apart := false }
def TernShadowsSaid : Prop := ternShadowsRow.holds Try.pinned (OpenSpec.ofChange ternShadowsSpec)

/-- ITS FALSE NEIGHBOUR: 'it returns false'. Refute it at one input. -/
def ternShadowsWrong : ChangeSpec := { name := "ternShadows", fn := fun _ => fun
  | [d1, d2, d3] => { results := [.lit (.bool false)], args := [d1, d2, d3] }
  | _ => none }
def TernShadowsWrongFalsely : Prop := ternShadowsRow.holds Try.pinned (OpenSpec.ofChange ternShadowsWrong)

/-- 'shunterlaw21.TernFirst': WHATEVER THE INPUT: true; the input reads as it did. -/
def ternFirstSpec : ChangeSpec := { name := "ternFirst", fn := fun _ => fun
  | [d1, d2, d3] => { results := [.lit (.bool true)], args := [d1, d2, d3] }
  | _ => none }
def ternFirstRow : OpenClaim := { program := "ytfdbcnbakchcgaa", sum := "54c4521561c78dd284af8c5245b74023d83e4a75090971e15a2c14604a14cf94", func := "shunter/shunterlaw21.TernFirst", spec := "ternFirst", inPlace := ["math/bits.Sub64", "slices.overlaps[shunter/tern.Item]"], unfollowed := true, recurses := true, apart := false }
def TernFirstSaid : Prop := ternFirstRow.holds Try.pinned (OpenSpec.ofChange ternFirstSpec)

/-- ITS FALSE NEIGHBOUR: 'it returns false'. Refute it at one input. -/
def ternFirstWrong : ChangeSpec := { name := "ternFirst", fn := fun _ => fun
  | [d1, d2, d3] => { results := [.lit (.bool false)], args := [d1, d2, d3] }
  | _ => none }
def TernFirstWrongFalsely : Prop := ternFirstRow.holds Try.pinned (OpenSpec.ofChange ternFirstWrong)

/-- 'shunterlaw21.TernPlays': WHATEVER THE INPUT: true; the input reads as it did. -/
def ternPlaysSpec : ChangeSpec := { name := "ternPlays", fn := fun _ => fun
  | [d1, d2] => { results := [.lit (.bool true)], args := [d1, d2] }
  | _ => none }
def ternPlaysRow : OpenClaim := { program := "ytfdbcnbakchcgaa", sum := "54c4521561c78dd284af8c5245b74023d83e4a75090971e15a2c14604a14cf94", func := "shunter/shunterlaw21.TernPlays", spec := "ternPlays", inPlace := ["math/bits.Sub64", "slices.overlaps[shunter/tern.Item]"], unfollowed := true, recurses := true, apart := false }
def TernPlaysSaid : Prop := ternPlaysRow.holds Try.pinned (OpenSpec.ofChange ternPlaysSpec)

/-- ITS FALSE NEIGHBOUR: 'it returns false'. Refute it at one input. -/
def ternPlaysWrong : ChangeSpec := { name := "ternPlays", fn := fun _ => fun
  | [d1, d2] => { results := [.lit (.bool false)], args := [d1, d2] }
  | _ => none }
def TernPlaysWrongFalsely : Prop := ternPlaysRow.holds Try.pinned (OpenSpec.ofChange ternPlaysWrong)

/-- 'shunterlaw21.TernCopies': WHATEVER THE INPUT: true; the input reads as it did. -/
def ternCopiesSpec : ChangeSpec := { name := "ternCopies", fn := fun _ => fun
  | [d1, d2] => { results := [.lit (.bool true)], args := [d1, d2] }
  | _ => none }
def ternCopiesRow : OpenClaim := { program := "ytfdbcnbakchcgaa", sum := "54c4521561c78dd284af8c5245b74023d83e4a75090971e15a2c14604a14cf94", func := "shunter/shunterlaw21.TernCopies", spec := "ternCopies", inPlace := ["math/bits.Sub64", "slices.overlaps[shunter/tern.Item]"], unfollowed := true, recurses := true, apart := false }
def TernCopiesSaid : Prop := ternCopiesRow.holds Try.pinned (OpenSpec.ofChange ternCopiesSpec)

/-- ITS FALSE NEIGHBOUR: 'it returns false'. Refute it at one input. -/
def ternCopiesWrong : ChangeSpec := { name := "ternCopies", fn := fun _ => fun
  | [d1, d2] => { results := [.lit (.bool false)], args := [d1, d2] }
  | _ => none }
def TernCopiesWrongFalsely : Prop := ternCopiesRow.holds Try.pinned (OpenSpec.ofChange ternCopiesWrong)

/-- 'shunterlaw22.SpanWider': WHATEVER THE INPUT: true; the input reads as it did. -/
def spanWiderSpec : ChangeSpec := { name := "spanWider", fn := fun _ => fun
  | [d1, d2, d3] => { results := [.lit (.bool true)], args := [d1, d2, d3] }
  | _ => none }
def spanWiderRow : OpenClaim := { program := "ytfdbcnbakchcgaa", sum := "54c4521561c78dd284af8c5245b74023d83e4a75090971e15a2c14604a14cf94", func := "shunter/shunterlaw22.SpanWider", spec := "spanWider", inPlace := ["math/bits.Sub64", "slices.overlaps[shunter/span.Item]"], unfollowed := true, recurses := true, apart := false }
def SpanWiderSaid : Prop := spanWiderRow.holds Try.pinned (OpenSpec.ofChange spanWiderSpec)

/-- ITS FALSE NEIGHBOUR: 'it returns false'. Refute it at one input. -/
def spanWiderWrong : ChangeSpec := { name := "spanWider", fn := fun _ => fun
  | [d1, d2, d3] => { results := [.lit (.bool false)], args := [d1, d2, d3] }
  | _ => none }
def SpanWiderWrongFalsely : Prop := spanWiderRow.holds Try.pinned (OpenSpec.ofChange spanWiderWrong)

/-- 'shunterlaw22.SpanFirst': WHATEVER THE INPUT: true; the input reads as it did. -/
def spanFirstSpec : ChangeSpec := { name := "spanFirst", fn := fun _ => fun
  | [d1, d2, d3] => { results := [.lit (.bool true)], args := [d1, d2, d3] }
  | _ => none }
def spanFirstRow : OpenClaim := { program := "ytfdbcnbakchcgaa", sum := "54c4521561c78dd284af8c5245b74023d83e4a75090971e15a2c14604a14cf94", func := "shunter/shunterlaw22.SpanFirst", spec := "spanFirst", inPlace := ["math/bits.Sub64", "slices.overlaps[shunter/span.Item]"], unfollowed := true, recurses := true, apart := false }
def SpanFirstSaid : Prop := spanFirstRow.holds Try.pinned (OpenSpec.ofChange spanFirstSpec)

/-- ITS FALSE NEIGHBOUR: 'it returns false'. Refute it at one input. -/
def spanFirstWrong : ChangeSpec := { name := "spanFirst", fn := fun _ => fun
  | [d1, d2, d3] => { results := [.lit (.bool false)], args := [d1, d2, d3] }
  | _ => none }
def SpanFirstWrongFalsely : Prop := spanFirstRow.holds Try.pinned (OpenSpec.ofChange spanFirstWrong)

/-- 'shunterlaw22.SpanPlays': WHATEVER THE INPUT: true; the input reads as it did. -/
def spanPlaysSpec : ChangeSpec := { name := "spanPlays", fn := fun _ => fun
  | [d1, d2, d3] => { results := [.lit (.bool true)], args := [d1, d2, d3] }
  | _ => none }
def spanPlaysRow : OpenClaim := { program := "ytfdbcnbakchcgaa", sum := "54c4521561c78dd284af8c5245b74023d83e4a75090971e15a2c14604a14cf94", func := "shunter/shunterlaw22.SpanPlays", spec := "spanPlays", inPlace := ["math/bits.Sub64", "slices.overlaps[shunter/span.Item]"], unfollowed := true, recurses := true, apart := false }
def SpanPlaysSaid : Prop := spanPlaysRow.holds Try.pinned (OpenSpec.ofChange spanPlaysSpec)

/-- ITS FALSE NEIGHBOUR: 'it returns false'. Refute it at one input. -/
def spanPlaysWrong : ChangeSpec := { name := "spanPlays", fn := fun _ => fun
  | [d1, d2, d3] => { results := [.lit (.bool false)], args := [d1, d2, d3] }
  | _ => none }
def SpanPlaysWrongFalsely : Prop := spanPlaysRow.holds Try.pinned (OpenSpec.ofChange spanPlaysWrong)

/-- 'shunterlaw22.SpanCopies': WHATEVER THE INPUT: true; the input reads as it did. -/
def spanCopiesSpec : ChangeSpec := { name := "spanCopies", fn := fun _ => fun
  | [d1, d2, d3] => { results := [.lit (.bool true)], args := [d1, d2, d3] }
  | _ => none }
def spanCopiesRow : OpenClaim := { program := "ytfdbcnbakchcgaa", sum := "54c4521561c78dd284af8c5245b74023d83e4a75090971e15a2c14604a14cf94", func := "shunter/shunterlaw22.SpanCopies", spec := "spanCopies", inPlace := ["math/bits.Sub64", "slices.overlaps[shunter/span.Item]"], unfollowed := true, recurses := true, apart := false }
def SpanCopiesSaid : Prop := spanCopiesRow.holds Try.pinned (OpenSpec.ofChange spanCopiesSpec)

/-- ITS FALSE NEIGHBOUR: 'it returns false'. Refute it at one input. -/
def spanCopiesWrong : ChangeSpec := { name := "spanCopies", fn := fun _ => fun
  | [d1, d2, d3] => { results := [.lit (.bool false)], args := [d1, d2, d3] }
  | _ => none }
def SpanCopiesWrongFalsely : Prop := spanCopiesRow.holds Try.pinned (OpenSpec.ofChange spanCopiesWrong)

/- THE SECOND FORM. 'bulk': how many values and letters a reading holds, each counted each time it is reached (what is shared counts as often as it is met; a slice's spare places count too). A statement '..UptoSaid' is the law's where the arguments, and the package variables that the reading takes, are together of bulk at most 1048576: NARROWER than '..Said'. Prove '..Said' where nothing that the law and all that it calls make is longer than what came in: it says more and counts as full. Else prove '..UptoSaid'. A law counts once. -/
mutual
def uptoBulk {H : Type} : DataW H → Nat
  | .lit (.string bytes) => bytes.length + 1
  | .lit _ => 1
  | .nil => 1
  | .ptr d => uptoBulk d + 1
  | .slice elems spare => uptoBulkAll elems + uptoBulkAll spare + 1
  | .agg parts => uptoBulkAll parts + 1
  | .iface _ d => uptoBulk d + 1
  | .map entries => uptoBulkEntries entries + 1
  | .held _ => 1
def uptoBulkAll {H : Type} : List (DataW H) → Nat
  | [] => 0
  | d :: r => uptoBulk d + uptoBulkAll r
def uptoBulkEntries {H : Type} : List (Lit × DataW H) → Nat
  | [] => 0
  | x :: r => uptoBulkEntry x + uptoBulkEntries r
def uptoBulkEntry {H : Type} : Lit × DataW H → Nat
  | (.string bytes, d) => bytes.length + uptoBulk d + 1
  | (_, d) => uptoBulk d + 1
 end
def uptoSmall : (H : Type) → List (DataW H) → Bool := fun _ ds => decide (uptoBulkAll ds ≤ 1048576)
def OpenSpec.upto (s : _root_.Go.ChangeSpec) : _root_.Go.OpenSpec := { _root_.Go.OpenSpec.ofChange s with cond := some uptoSmall }

/-- 'shunterlaw20.TriePlays', WHERE WHAT IT READS IS OF BULK AT MOST 1048576: true; the input reads as it did. -/
def triePlaysUptoRow : OpenClaim := { program := "ytfdbcnbakchcgaa", sum := "54c4521561c78dd284af8c5245b74023d83e4a75090971e15a2c14604a14cf94", func := "shunter/shunterlaw20.TriePlays", spec := "triePlays", inPlace := ["math/bits.Sub64"], unfollowed := true, recurses := true, apart := false, narrowed := true }
def TriePlaysUptoSaid : Prop := triePlaysUptoRow.holds Try.pinned (OpenSpec.upto triePlaysSpec)

/-- 'shunterlaw20.TrieLongest', WHERE WHAT IT READS IS OF BULK AT MOST 1048576: true; the input reads as it did. -/
def trieLongestUptoRow : OpenClaim := { program := "ytfdbcnbakchcgaa", sum := "54c4521561c78dd284af8c5245b74023d83e4a75090971e15a2c14604a14cf94", func := "shunter/shunterlaw20.TrieLongest", spec := "trieLongest", inPlace := ["math/bits.Sub64"], unfollowed := true, recurses := true, apart := false, narrowed := true }
def TrieLongestUptoSaid : Prop := trieLongestUptoRow.holds Try.pinned (OpenSpec.upto trieLongestSpec)

/-- 'shunterlaw20.TrieLists', WHERE WHAT IT READS IS OF BULK AT MOST 1048576: true; the input reads as it did. -/
def trieListsUptoRow : OpenClaim := { program := "ytfdbcnbakchcgaa", sum := "54c4521561c78dd284af8c5245b74023d83e4a75090971e15a2c14604a14cf94", func := "shunter/shunterlaw20.TrieLists", spec := "trieLists", inPlace := ["math/bits.Sub64"], unfollowed := true, recurses := true, apart := false, narrowed := true }
def TrieListsUptoSaid : Prop := trieListsUptoRow.holds Try.pinned (OpenSpec.upto trieListsSpec)

/-- 'shunterlaw20.TrieBack', WHERE WHAT IT READS IS OF BULK AT MOST 1048576: true; the input reads as it did. -/
def trieBackUptoRow : OpenClaim := { program := "ytfdbcnbakchcgaa", sum := "54c4521561c78dd284af8c5245b74023d83e4a75090971e15a2c14604a14cf94", func := "shunter/shunterlaw20.TrieBack", spec := "trieBack", inPlace := ["math/bits.Sub64"], unfollowed := true, recurses := true, apart := false, narrowed := true }
def TrieBackUptoSaid : Prop := trieBackUptoRow.holds Try.pinned (OpenSpec.upto trieBackSpec)

/-- 'shunterlaw20.TrieCopies', WHERE WHAT IT READS IS OF BULK AT MOST 1048576: true; the input reads as it did. -/
def trieCopiesUptoRow : OpenClaim := { program := "ytfdbcnbakchcgaa", sum := "54c4521561c78dd284af8c5245b74023d83e4a75090971e15a2c14604a14cf94", func := "shunter/shunterlaw20.TrieCopies", spec := "trieCopies", inPlace := ["math/bits.Sub64"], unfollowed := true, recurses := true, apart := false, narrowed := true }
def TrieCopiesUptoSaid : Prop := trieCopiesUptoRow.holds Try.pinned (OpenSpec.upto trieCopiesSpec)

/-- 'shunterlaw21.TernShadows', WHERE WHAT IT READS IS OF BULK AT MOST 1048576: true; the input reads as it did. -/
def ternShadowsUptoRow : OpenClaim := { program := "ytfdbcnbakchcgaa", sum := "54c4521561c78dd284af8c5245b74023d83e4a75090971e15a2c14604a14cf94", func := "shunter/shunterlaw21.TernShadows", spec := "ternShadows", inPlace := ["math/bits.Sub64", "slices.overlaps[shunter/tern.Item]"], unfollowed := true, recurses := true, apart := false, narrowed := true }
def TernShadowsUptoSaid : Prop := ternShadowsUptoRow.holds Try.pinned (OpenSpec.upto ternShadowsSpec)

/-- 'shunterlaw21.TernFirst', WHERE WHAT IT READS IS OF BULK AT MOST 1048576: true; the input reads as it did. -/
def ternFirstUptoRow : OpenClaim := { program := "ytfdbcnbakchcgaa", sum := "54c4521561c78dd284af8c5245b74023d83e4a75090971e15a2c14604a14cf94", func := "shunter/shunterlaw21.TernFirst", spec := "ternFirst", inPlace := ["math/bits.Sub64", "slices.overlaps[shunter/tern.Item]"], unfollowed := true, recurses := true, apart := false, narrowed := true }
def TernFirstUptoSaid : Prop := ternFirstUptoRow.holds Try.pinned (OpenSpec.upto ternFirstSpec)

/-- 'shunterlaw21.TernPlays', WHERE WHAT IT READS IS OF BULK AT MOST 1048576: true; the input reads as it did. -/
def ternPlaysUptoRow : OpenClaim := { program := "ytfdbcnbakchcgaa", sum := "54c4521561c78dd284af8c5245b74023d83e4a75090971e15a2c14604a14cf94", func := "shunter/shunterlaw21.TernPlays", spec := "ternPlays", inPlace := ["math/bits.Sub64", "slices.overlaps[shunter/tern.Item]"], unfollowed := true, recurses := true, apart := false, narrowed := true }
def TernPlaysUptoSaid : Prop := ternPlaysUptoRow.holds Try.pinned (OpenSpec.upto ternPlaysSpec)

/-- 'shunterlaw21.TernCopies', WHERE WHAT IT READS IS OF BULK AT MOST 1048576: true; the input reads as it did. -/
def ternCopiesUptoRow : OpenClaim := { program := "ytfdbcnbakchcgaa", sum := "54c4521561c78dd284af8c5245b74023d83e4a75090971e15a2c14604a14cf94", func := "shunter/shunterlaw21.TernCopies", spec := "ternCopies", inPlace := ["math/bits.Sub64", "slices.overlaps[shunter/tern.Item]"], unfollowed := true, recurses := true, apart := false, narrowed := true }
def TernCopiesUptoSaid : Prop := ternCopiesUptoRow.holds Try.pinned (OpenSpec.upto ternCopiesSpec)

/-- 'shunterlaw22.SpanWider', WHERE WHAT IT READS IS OF BULK AT MOST 1048576: true; the input reads as it did. -/
def spanWiderUptoRow : OpenClaim := { program := "ytfdbcnbakchcgaa", sum := "54c4521561c78dd284af8c5245b74023d83e4a75090971e15a2c14604a14cf94", func := "shunter/shunterlaw22.SpanWider", spec := "spanWider", inPlace := ["math/bits.Sub64", "slices.overlaps[shunter/span.Item]"], unfollowed := true, recurses := true, apart := false, narrowed := true }
def SpanWiderUptoSaid : Prop := spanWiderUptoRow.holds Try.pinned (OpenSpec.upto spanWiderSpec)

/-- 'shunterlaw22.SpanFirst', WHERE WHAT IT READS IS OF BULK AT MOST 1048576: true; the input reads as it did. -/
def spanFirstUptoRow : OpenClaim := { program := "ytfdbcnbakchcgaa", sum := "54c4521561c78dd284af8c5245b74023d83e4a75090971e15a2c14604a14cf94", func := "shunter/shunterlaw22.SpanFirst", spec := "spanFirst", inPlace := ["math/bits.Sub64", "slices.overlaps[shunter/span.Item]"], unfollowed := true, recurses := true, apart := false, narrowed := true }
def SpanFirstUptoSaid : Prop := spanFirstUptoRow.holds Try.pinned (OpenSpec.upto spanFirstSpec)

/-- 'shunterlaw22.SpanPlays', WHERE WHAT IT READS IS OF BULK AT MOST 1048576: true; the input reads as it did. -/
def spanPlaysUptoRow : OpenClaim := { program := "ytfdbcnbakchcgaa", sum := "54c4521561c78dd284af8c5245b74023d83e4a75090971e15a2c14604a14cf94", func := "shunter/shunterlaw22.SpanPlays", spec := "spanPlays", inPlace := ["math/bits.Sub64", "slices.overlaps[shunter/span.Item]"], unfollowed := true, recurses := true, apart := false, narrowed := true }
def SpanPlaysUptoSaid : Prop := spanPlaysUptoRow.holds Try.pinned (OpenSpec.upto spanPlaysSpec)

/-- 'shunterlaw22.SpanCopies', WHERE WHAT IT READS IS OF BULK AT MOST 1048576: true; the input reads as it did. -/
def spanCopiesUptoRow : OpenClaim := { program := "ytfdbcnbakchcgaa", sum := "54c4521561c78dd284af8c5245b74023d83e4a75090971e15a2c14604a14cf94", func := "shunter/shunterlaw22.SpanCopies", spec := "spanCopies", inPlace := ["math/bits.Sub64", "slices.overlaps[shunter/span.Item]"], unfollowed := true, recurses := true, apart := false, narrowed := true }
def SpanCopiesUptoSaid : Prop := spanCopiesUptoRow.holds Try.pinned (OpenSpec.upto spanCopiesSpec)

end Rows
end Go.Proofs.Ytfdbcnbakchcgaa
