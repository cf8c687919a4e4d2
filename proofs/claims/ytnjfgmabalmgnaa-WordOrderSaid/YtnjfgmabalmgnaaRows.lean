/-
  No cell of these rows narrows 'for every input' (looked for: loops, veiled, ifaces, maps, wideKeys, modest, calm, conditions, laid).
  DERIVED. THE GIVEN ROWS OF THIS SEAT. 7 by the template 'for every input the law returns true; each argument reads behind the call as it read before'; 0 by the template 'total and deterministic' (their statements: YtnjfgmabalmgnaaTotals.lean).
  GIVEN WITH THE SEED: the statements are not yours to turn. If you find one false, say at which input.
  Laid BY PROGRAM, IN A SANDBOX (cutbox-rows.mjs): the forced cells as the released guide's own fill.sh prints them over the translation bb655d241f46a358… (all of the seat's roots in one cut). By AI agents, Wed Nov 11 2026. No macro, syntax, notation, axiom, sorry.
-/
import Derived.Test.YtnjfgmabalmgnaaChecked
import GoSem.Claim
import GoSem.ClaimJoined
import GoSem.ClaimMapViews
import Derived.JoinedTies
import Derived.KernelRfl
namespace Go.Proofs.Ytnjfgmabalmgnaa
/- THE CELL 'sum', in the pinned program and in every row, IS THE sha256 OF THE DUMP (.gsa) THAT YtnjfgmabalmgnaaProg.lean LOADS. Nothing in Lean hashes anything: it is a label: what it is worth is what the hold of that sum in a sandbox is worth. -/
noncomputable def Try.pinned : Pinned := { name := "ytnjfgmabalmgnaa", sum := "bb655d241f46a35832419f09743d0c3d604e8e7ed35696be91b8b5bcf9b1c0bb", checked := Try.checked }
namespace Rows
def none {H : Type} : Left H := { results := [], args := [] }

/-- 'withylaw01.WordTells': WHATEVER THE INPUT: true; the input reads as it did. -/
def wordTellsSpec : ChangeSpec := { name := "wordTells", fn := fun _ => fun
  | [d1, d2, d3] => { results := [.lit (.bool true)], args := [d1, d2, d3] }
  | _ => none }
def wordTellsRow : OpenClaim := { program := "ytnjfgmabalmgnaa", sum := "bb655d241f46a35832419f09743d0c3d604e8e7ed35696be91b8b5bcf9b1c0bb", func := "withy/withylaw01.WordTells", spec := "wordTells", apart := false }
def WordTellsSaid : Prop := wordTellsRow.holds Try.pinned (OpenSpec.ofChange wordTellsSpec)

/-- ITS FALSE NEIGHBOUR: 'it returns false'. Refute it at one input. -/
def wordTellsWrong : ChangeSpec := { name := "wordTells", fn := fun _ => fun
  | [d1, d2, d3] => { results := [.lit (.bool false)], args := [d1, d2, d3] }
  | _ => none }
def WordTellsWrongFalsely : Prop := wordTellsRow.holds Try.pinned (OpenSpec.ofChange wordTellsWrong)

/-- 'withylaw01.WordOrder': WHATEVER THE INPUT: true; the input reads as it did. -/
def wordOrderSpec : ChangeSpec := { name := "wordOrder", fn := fun _ => fun
  | [d1, d2, d3] => { results := [.lit (.bool true)], args := [d1, d2, d3] }
  | _ => none }
def wordOrderRow : OpenClaim := { program := "ytnjfgmabalmgnaa", sum := "bb655d241f46a35832419f09743d0c3d604e8e7ed35696be91b8b5bcf9b1c0bb", func := "withy/withylaw01.WordOrder", spec := "wordOrder", apart := false }
def WordOrderSaid : Prop := wordOrderRow.holds Try.pinned (OpenSpec.ofChange wordOrderSpec)

/-- ITS FALSE NEIGHBOUR: 'it returns false'. Refute it at one input. -/
def wordOrderWrong : ChangeSpec := { name := "wordOrder", fn := fun _ => fun
  | [d1, d2, d3] => { results := [.lit (.bool false)], args := [d1, d2, d3] }
  | _ => none }
def WordOrderWrongFalsely : Prop := wordOrderRow.holds Try.pinned (OpenSpec.ofChange wordOrderWrong)

/-- 'withylaw01.WordBack': WHATEVER THE INPUT: true; the input reads as it did. -/
def wordBackSpec : ChangeSpec := { name := "wordBack", fn := fun _ => fun
  | [d1, d2, d3] => { results := [.lit (.bool true)], args := [d1, d2, d3] }
  | _ => none }
def wordBackRow : OpenClaim := { program := "ytnjfgmabalmgnaa", sum := "bb655d241f46a35832419f09743d0c3d604e8e7ed35696be91b8b5bcf9b1c0bb", func := "withy/withylaw01.WordBack", spec := "wordBack", apart := false }
def WordBackSaid : Prop := wordBackRow.holds Try.pinned (OpenSpec.ofChange wordBackSpec)

/-- ITS FALSE NEIGHBOUR: 'it returns false'. Refute it at one input. -/
def wordBackWrong : ChangeSpec := { name := "wordBack", fn := fun _ => fun
  | [d1, d2, d3] => { results := [.lit (.bool false)], args := [d1, d2, d3] }
  | _ => none }
def WordBackWrongFalsely : Prop := wordBackRow.holds Try.pinned (OpenSpec.ofChange wordBackWrong)

/-- 'withylaw01.WordOnce': WHATEVER THE INPUT: true; the input reads as it did. -/
def wordOnceSpec : ChangeSpec := { name := "wordOnce", fn := fun _ => fun
  | [d1, d2] => { results := [.lit (.bool true)], args := [d1, d2] }
  | _ => none }
def wordOnceRow : OpenClaim := { program := "ytnjfgmabalmgnaa", sum := "bb655d241f46a35832419f09743d0c3d604e8e7ed35696be91b8b5bcf9b1c0bb", func := "withy/withylaw01.WordOnce", spec := "wordOnce", apart := false }
def WordOnceSaid : Prop := wordOnceRow.holds Try.pinned (OpenSpec.ofChange wordOnceSpec)

/-- ITS FALSE NEIGHBOUR: 'it returns false'. Refute it at one input. -/
def wordOnceWrong : ChangeSpec := { name := "wordOnce", fn := fun _ => fun
  | [d1, d2] => { results := [.lit (.bool false)], args := [d1, d2] }
  | _ => none }
def WordOnceWrongFalsely : Prop := wordOnceRow.holds Try.pinned (OpenSpec.ofChange wordOnceWrong)

/-- 'withylaw01.WordFour': WHATEVER THE INPUT: true; the input reads as it did. -/
def wordFourSpec : ChangeSpec := { name := "wordFour", fn := fun _ => fun
  | [d1, d2, d3] => { results := [.lit (.bool true)], args := [d1, d2, d3] }
  | _ => none }
def wordFourRow : OpenClaim := { program := "ytnjfgmabalmgnaa", sum := "bb655d241f46a35832419f09743d0c3d604e8e7ed35696be91b8b5bcf9b1c0bb", func := "withy/withylaw01.WordFour", spec := "wordFour", apart := false }
def WordFourSaid : Prop := wordFourRow.holds Try.pinned (OpenSpec.ofChange wordFourSpec)

/-- ITS FALSE NEIGHBOUR: 'it returns false'. Refute it at one input. -/
def wordFourWrong : ChangeSpec := { name := "wordFour", fn := fun _ => fun
  | [d1, d2, d3] => { results := [.lit (.bool false)], args := [d1, d2, d3] }
  | _ => none }
def WordFourWrongFalsely : Prop := wordFourRow.holds Try.pinned (OpenSpec.ofChange wordFourWrong)

/-- 'withylaw01.WordGrows': WHATEVER THE INPUT: true; the input reads as it did. -/
def wordGrowsSpec : ChangeSpec := { name := "wordGrows", fn := fun _ => fun
  | [d1, d2] => { results := [.lit (.bool true)], args := [d1, d2] }
  | _ => none }
def wordGrowsRow : OpenClaim := { program := "ytnjfgmabalmgnaa", sum := "bb655d241f46a35832419f09743d0c3d604e8e7ed35696be91b8b5bcf9b1c0bb", func := "withy/withylaw01.WordGrows", spec := "wordGrows", apart := false }
def WordGrowsSaid : Prop := wordGrowsRow.holds Try.pinned (OpenSpec.ofChange wordGrowsSpec)

/-- ITS FALSE NEIGHBOUR: 'it returns false'. Refute it at one input. -/
def wordGrowsWrong : ChangeSpec := { name := "wordGrows", fn := fun _ => fun
  | [d1, d2] => { results := [.lit (.bool false)], args := [d1, d2] }
  | _ => none }
def WordGrowsWrongFalsely : Prop := wordGrowsRow.holds Try.pinned (OpenSpec.ofChange wordGrowsWrong)

/-- 'withylaw01.WordLists': WHATEVER THE INPUT: true; the input reads as it did. -/
def wordListsSpec : ChangeSpec := { name := "wordLists", fn := fun _ => fun
  | [d1, d2] => { results := [.lit (.bool true)], args := [d1, d2] }
  | _ => none }
def wordListsRow : OpenClaim := { program := "ytnjfgmabalmgnaa", sum := "bb655d241f46a35832419f09743d0c3d604e8e7ed35696be91b8b5bcf9b1c0bb", func := "withy/withylaw01.WordLists", spec := "wordLists", apart := false }
def WordListsSaid : Prop := wordListsRow.holds Try.pinned (OpenSpec.ofChange wordListsSpec)

/-- ITS FALSE NEIGHBOUR: 'it returns false'. Refute it at one input. -/
def wordListsWrong : ChangeSpec := { name := "wordLists", fn := fun _ => fun
  | [d1, d2] => { results := [.lit (.bool false)], args := [d1, d2] }
  | _ => none }
def WordListsWrongFalsely : Prop := wordListsRow.holds Try.pinned (OpenSpec.ofChange wordListsWrong)

/- THE SECOND FORM. 'bulk': how many values and letters a reading holds, each counted each time it is reached (what is shared counts as often as it is met; a slice's spare places count too). A statement '..UptoSaid' is the law's where the arguments, and the package variables that the reading takes, are together of bulk at most 1048576: NARROWER than '..Said'. Prove '..Said' where nothing that the law and all that it calls make is longer than what came in: it says more and counts as full. Else prove '..UptoSaid'. A law counts once. -/
mutual
def uptoBulk {H : Type} : DataW H → Nat
  | .lit (.string bytes) => bytes.length + 1
  | .lit _ => 1
  | .nil => 1
  | .ptr d => uptoBulk d + 1
  | .slice elems spare => uptoBulkAll elems + uptoBulkAll spare + 1
  | .agg parts => uptoBulkAll parts + 1
  | .iface _ d => uptoBulk d + 1
  | .map entries => uptoBulkEntries entries + 1
  | .held _ => 1
def uptoBulkAll {H : Type} : List (DataW H) → Nat
  | [] => 0
  | d :: r => uptoBulk d + uptoBulkAll r
def uptoBulkEntries {H : Type} : List (Lit × DataW H) → Nat
  | [] => 0
  | x :: r => uptoBulkEntry x + uptoBulkEntries r
def uptoBulkEntry {H : Type} : Lit × DataW H → Nat
  | (.string bytes, d) => bytes.length + uptoBulk d + 1
  | (_, d) => uptoBulk d + 1
 end
def uptoSmall : (H : Type) → List (DataW H) → Bool := fun _ ds => decide (uptoBulkAll ds ≤ 1048576)
def OpenSpec.upto (s : _root_.Go.ChangeSpec) : _root_.Go.OpenSpec := { _root_.Go.OpenSpec.ofChange s with cond := some uptoSmall }

/-- 'withylaw01.WordTells', WHERE WHAT IT READS IS OF BULK AT MOST 1048576: true; the input reads as it did. -/
def wordTellsUptoRow : OpenClaim := { program := "ytnjfgmabalmgnaa", sum := "bb655d241f46a35832419f09743d0c3d604e8e7ed35696be91b8b5bcf9b1c0bb", func := "withy/withylaw01.WordTells", spec := "wordTells", apart := false, narrowed := true }
def WordTellsUptoSaid : Prop := wordTellsUptoRow.holds Try.pinned (OpenSpec.upto wordTellsSpec)

/-- 'withylaw01.WordOrder', WHERE WHAT IT READS IS OF BULK AT MOST 1048576: true; the input reads as it did. -/
def wordOrderUptoRow : OpenClaim := { program := "ytnjfgmabalmgnaa", sum := "bb655d241f46a35832419f09743d0c3d604e8e7ed35696be91b8b5bcf9b1c0bb", func := "withy/withylaw01.WordOrder", spec := "wordOrder", apart := false, narrowed := true }
def WordOrderUptoSaid : Prop := wordOrderUptoRow.holds Try.pinned (OpenSpec.upto wordOrderSpec)

/-- 'withylaw01.WordBack', WHERE WHAT IT READS IS OF BULK AT MOST 1048576: true; the input reads as it did. -/
def wordBackUptoRow : OpenClaim := { program := "ytnjfgmabalmgnaa", sum := "bb655d241f46a35832419f09743d0c3d604e8e7ed35696be91b8b5bcf9b1c0bb", func := "withy/withylaw01.WordBack", spec := "wordBack", apart := false, narrowed := true }
def WordBackUptoSaid : Prop := wordBackUptoRow.holds Try.pinned (OpenSpec.upto wordBackSpec)

/-- 'withylaw01.WordOnce', WHERE WHAT IT READS IS OF BULK AT MOST 1048576: true; the input reads as it did. -/
def wordOnceUptoRow : OpenClaim := { program := "ytnjfgmabalmgnaa", sum := "bb655d241f46a35832419f09743d0c3d604e8e7ed35696be91b8b5bcf9b1c0bb", func := "withy/withylaw01.WordOnce", spec := "wordOnce", apart := false, narrowed := true }
def WordOnceUptoSaid : Prop := wordOnceUptoRow.holds Try.pinned (OpenSpec.upto wordOnceSpec)

/-- 'withylaw01.WordFour', WHERE WHAT IT READS IS OF BULK AT MOST 1048576: true; the input reads as it did. -/
def wordFourUptoRow : OpenClaim := { program := "ytnjfgmabalmgnaa", sum := "bb655d241f46a35832419f09743d0c3d604e8e7ed35696be91b8b5bcf9b1c0bb", func := "withy/withylaw01.WordFour", spec := "wordFour", apart := false, narrowed := true }
def WordFourUptoSaid : Prop := wordFourUptoRow.holds Try.pinned (OpenSpec.upto wordFourSpec)

/-- 'withylaw01.WordGrows', WHERE WHAT IT READS IS OF BULK AT MOST 1048576: true; the input reads as it did. -/
def wordGrowsUptoRow : OpenClaim := { program := "ytnjfgmabalmgnaa", sum := "bb655d241f46a35832419f09743d0c3d604e8e7ed35696be91b8b5bcf9b1c0bb", func := "withy/withylaw01.WordGrows", spec := "wordGrows", apart := false, narrowed := true }
def WordGrowsUptoSaid : Prop := wordGrowsUptoRow.holds Try.pinned (OpenSpec.upto wordGrowsSpec)

/-- 'withylaw01.WordLists', WHERE WHAT IT READS IS OF BULK AT MOST 1048576: true; the input reads as it did. -/
def wordListsUptoRow : OpenClaim := { program := "ytnjfgmabalmgnaa", sum := "bb655d241f46a35832419f09743d0c3d604e8e7ed35696be91b8b5bcf9b1c0bb", func := "withy/withylaw01.WordLists", spec := "wordLists", apart := false, narrowed := true }
def WordListsUptoSaid : Prop := wordListsUptoRow.holds Try.pinned (OpenSpec.upto wordListsSpec)

end Rows
end Go.Proofs.Ytnjfgmabalmgnaa
