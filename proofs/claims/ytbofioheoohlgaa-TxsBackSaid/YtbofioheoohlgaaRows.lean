/-
  No cell of these rows narrows 'for every input' (looked for: loops, veiled, ifaces, maps, wideKeys, modest, calm, conditions, laid).
  DERIVED. THE GIVEN ROWS OF THIS SEAT. 8 by the template 'for every input the law returns true; each argument reads behind the call as it read before'; 0 by the template 'total and deterministic' (their statements: YtbofioheoohlgaaTotals.lean).
  GIVEN WITH THE SEED: the statements are not yours to turn. If you find one false, say at which input.
  Laid BY PROGRAM, IN A SANDBOX (cutbox-rows.mjs): the forced cells as the released guide's own fill.sh prints them over the translation 3aad367c7fae333f… (all of the seat's roots in one cut). By AI agents, Wed Nov 11 2026. No macro, syntax, notation, axiom, sorry.
-/
import Derived.Test.YtbofioheoohlgaaChecked
import GoSem.Claim
import GoSem.ClaimJoined
import GoSem.ClaimMapViews
import Derived.JoinedTies
import Derived.KernelRfl
namespace Go.Proofs.Ytbofioheoohlgaa
/- THE CELL 'sum', in the pinned program and in every row, IS THE sha256 OF THE DUMP (.gsa) THAT YtbofioheoohlgaaProg.lean LOADS. Nothing in Lean hashes anything: it is a label: what it is worth is what the hold of that sum in a sandbox is worth. -/
noncomputable def Try.pinned : Pinned := { name := "ytbofioheoohlgaa", sum := "3aad367c7fae333f8755c4c9030892be7a8edb6ae1ffb9446540286aa0b702d8", checked := Try.checked }
namespace Rows
def none {H : Type} : Left H := { results := [], args := [] }

/-- 'narrowslaw07.DealPayloads': WHATEVER THE INPUT: true; the input reads as it did. -/
def dealPayloadsSpec : ChangeSpec := { name := "dealPayloads", fn := fun _ => fun
  | [d1, d2, d3] => { results := [.lit (.bool true)], args := [d1, d2, d3] }
  | _ => none }
def dealPayloadsRow : OpenClaim := { program := "ytbofioheoohlgaa", sum := "3aad367c7fae333f8755c4c9030892be7a8edb6ae1ffb9446540286aa0b702d8", func := "narrows/narrowslaw07.DealPayloads", spec := "dealPayloads", unfollowed := true, recurses := true, apart := false }
def DealPayloadsSaid : Prop := dealPayloadsRow.holds Try.pinned (OpenSpec.ofChange dealPayloadsSpec)

/-- ITS FALSE NEIGHBOUR: 'it returns false'. Refute it at one input. -/
def dealPayloadsWrong : ChangeSpec := { name := "dealPayloads", fn := fun _ => fun
  | [d1, d2, d3] => { results := [.lit (.bool false)], args := [d1, d2, d3] }
  | _ => none }
def DealPayloadsWrongFalsely : Prop := dealPayloadsRow.holds Try.pinned (OpenSpec.ofChange dealPayloadsWrong)

/-- 'narrowslaw07.DealTells': WHATEVER THE INPUT: true; the input reads as it did. -/
def dealTellsSpec : ChangeSpec := { name := "dealTells", fn := fun _ => fun
  | [d1, d2, d3, d4, d5] => { results := [.lit (.bool true)], args := [d1, d2, d3, d4, d5] }
  | _ => none }
def dealTellsRow : OpenClaim := { program := "ytbofioheoohlgaa", sum := "3aad367c7fae333f8755c4c9030892be7a8edb6ae1ffb9446540286aa0b702d8", func := "narrows/narrowslaw07.DealTells", spec := "dealTells", unfollowed := true, recurses := true, apart := false }
def DealTellsSaid : Prop := dealTellsRow.holds Try.pinned (OpenSpec.ofChange dealTellsSpec)

/-- ITS FALSE NEIGHBOUR: 'it returns false'. Refute it at one input. -/
def dealTellsWrong : ChangeSpec := { name := "dealTells", fn := fun _ => fun
  | [d1, d2, d3, d4, d5] => { results := [.lit (.bool false)], args := [d1, d2, d3, d4, d5] }
  | _ => none }
def DealTellsWrongFalsely : Prop := dealTellsRow.holds Try.pinned (OpenSpec.ofChange dealTellsWrong)

/-- 'narrowslaw07.DealReads': WHATEVER THE INPUT: true; the input reads as it did. -/
def dealReadsSpec : ChangeSpec := { name := "dealReads", fn := fun _ => fun
  | [d] => { results := [.lit (.bool true)], args := [d] }
  | _ => none }
def dealReadsRow : OpenClaim := { program := "ytbofioheoohlgaa", sum := "3aad367c7fae333f8755c4c9030892be7a8edb6ae1ffb9446540286aa0b702d8", func := "narrows/narrowslaw07.DealReads", spec := "dealReads", unfollowed := true, recurses := true, apart := false }
def DealReadsSaid : Prop := dealReadsRow.holds Try.pinned (OpenSpec.ofChange dealReadsSpec)

/-- ITS FALSE NEIGHBOUR: 'it returns false'. Refute it at one input. -/
def dealReadsWrong : ChangeSpec := { name := "dealReads", fn := fun _ => fun
  | [d] => { results := [.lit (.bool false)], args := [d] }
  | _ => none }
def DealReadsWrongFalsely : Prop := dealReadsRow.holds Try.pinned (OpenSpec.ofChange dealReadsWrong)

/-- 'narrowslaw07.DealBack': WHATEVER THE INPUT: true; the input reads as it did. -/
def dealBackSpec : ChangeSpec := { name := "dealBack", fn := fun _ => fun
  | [d1, d2] => { results := [.lit (.bool true)], args := [d1, d2] }
  | _ => none }
def dealBackRow : OpenClaim := { program := "ytbofioheoohlgaa", sum := "3aad367c7fae333f8755c4c9030892be7a8edb6ae1ffb9446540286aa0b702d8", func := "narrows/narrowslaw07.DealBack", spec := "dealBack", unfollowed := true, recurses := true, apart := false }
def DealBackSaid : Prop := dealBackRow.holds Try.pinned (OpenSpec.ofChange dealBackSpec)

/-- ITS FALSE NEIGHBOUR: 'it returns false'. Refute it at one input. -/
def dealBackWrong : ChangeSpec := { name := "dealBack", fn := fun _ => fun
  | [d1, d2] => { results := [.lit (.bool false)], args := [d1, d2] }
  | _ => none }
def DealBackWrongFalsely : Prop := dealBackRow.holds Try.pinned (OpenSpec.ofChange dealBackWrong)

/-- 'narrowslaw09.TxsPuts': WHATEVER THE INPUT: true; the input reads as it did. -/
def txsPutsSpec : ChangeSpec := { name := "txsPuts", fn := fun _ => fun
  | [d] => { results := [.lit (.bool true)], args := [d] }
  | _ => none }
def txsPutsRow : OpenClaim := { program := "ytbofioheoohlgaa", sum := "3aad367c7fae333f8755c4c9030892be7a8edb6ae1ffb9446540286aa0b702d8", func := "narrows/narrowslaw09.TxsPuts", spec := "txsPuts", unfollowed := true, recurses := true, apart := false }
def TxsPutsSaid : Prop := txsPutsRow.holds Try.pinned (OpenSpec.ofChange txsPutsSpec)

/-- ITS FALSE NEIGHBOUR: 'it returns false'. Refute it at one input. -/
def txsPutsWrong : ChangeSpec := { name := "txsPuts", fn := fun _ => fun
  | [d] => { results := [.lit (.bool false)], args := [d] }
  | _ => none }
def TxsPutsWrongFalsely : Prop := txsPutsRow.holds Try.pinned (OpenSpec.ofChange txsPutsWrong)

/-- 'narrowslaw09.TxsTells': WHATEVER THE INPUT: true; the input reads as it did. -/
def txsTellsSpec : ChangeSpec := { name := "txsTells", fn := fun _ => fun
  | [d1, d2] => { results := [.lit (.bool true)], args := [d1, d2] }
  | _ => none }
def txsTellsRow : OpenClaim := { program := "ytbofioheoohlgaa", sum := "3aad367c7fae333f8755c4c9030892be7a8edb6ae1ffb9446540286aa0b702d8", func := "narrows/narrowslaw09.TxsTells", spec := "txsTells", unfollowed := true, recurses := true, apart := false }
def TxsTellsSaid : Prop := txsTellsRow.holds Try.pinned (OpenSpec.ofChange txsTellsSpec)

/-- ITS FALSE NEIGHBOUR: 'it returns false'. Refute it at one input. -/
def txsTellsWrong : ChangeSpec := { name := "txsTells", fn := fun _ => fun
  | [d1, d2] => { results := [.lit (.bool false)], args := [d1, d2] }
  | _ => none }
def TxsTellsWrongFalsely : Prop := txsTellsRow.holds Try.pinned (OpenSpec.ofChange txsTellsWrong)

/-- 'narrowslaw09.TxsReads': WHATEVER THE INPUT: true; the input reads as it did. -/
def txsReadsSpec : ChangeSpec := { name := "txsReads", fn := fun _ => fun
  | [d] => { results := [.lit (.bool true)], args := [d] }
  | _ => none }
def txsReadsRow : OpenClaim := { program := "ytbofioheoohlgaa", sum := "3aad367c7fae333f8755c4c9030892be7a8edb6ae1ffb9446540286aa0b702d8", func := "narrows/narrowslaw09.TxsReads", spec := "txsReads", apart := false }
def TxsReadsSaid : Prop := txsReadsRow.holds Try.pinned (OpenSpec.ofChange txsReadsSpec)

/-- ITS FALSE NEIGHBOUR: 'it returns false'. Refute it at one input. -/
def txsReadsWrong : ChangeSpec := { name := "txsReads", fn := fun _ => fun
  | [d] => { results := [.lit (.bool false)], args := [d] }
  | _ => none }
def TxsReadsWrongFalsely : Prop := txsReadsRow.holds Try.pinned (OpenSpec.ofChange txsReadsWrong)

/-- 'narrowslaw09.TxsBack': WHATEVER THE INPUT: true; the input reads as it did. -/
def txsBackSpec : ChangeSpec := { name := "txsBack", fn := fun _ => fun
  | [d1, d2] => { results := [.lit (.bool true)], args := [d1, d2] }
  | _ => none }
def txsBackRow : OpenClaim := { program := "ytbofioheoohlgaa", sum := "3aad367c7fae333f8755c4c9030892be7a8edb6ae1ffb9446540286aa0b702d8", func := "narrows/narrowslaw09.TxsBack", spec := "txsBack", unfollowed := true, recurses := true, apart := false }
def TxsBackSaid : Prop := txsBackRow.holds Try.pinned (OpenSpec.ofChange txsBackSpec)

/-- ITS FALSE NEIGHBOUR: 'it returns false'. Refute it at one input. -/
def txsBackWrong : ChangeSpec := { name := "txsBack", fn := fun _ => fun
  | [d1, d2] => { results := [.lit (.bool false)], args := [d1, d2] }
  | _ => none }
def TxsBackWrongFalsely : Prop := txsBackRow.holds Try.pinned (OpenSpec.ofChange txsBackWrong)

/- THE SECOND FORM. 'bulk': how many values and letters a reading holds, each counted each time it is reached (what is shared counts as often as it is met; a slice's spare places count too). A statement '..UptoSaid' is the law's where the arguments, and the package variables that the reading takes, are together of bulk at most 1048576: NARROWER than '..Said'. Prove '..Said' where nothing that the law and all that it calls make is longer than what came in: it says more and counts as full. Else prove '..UptoSaid'. A law counts once. -/
mutual
def uptoBulk {H : Type} : DataW H → Nat
  | .lit (.string bytes) => bytes.length + 1
  | .lit _ => 1
  | .nil => 1
  | .ptr d => uptoBulk d + 1
  | .slice elems spare => uptoBulkAll elems + uptoBulkAll spare + 1
  | .agg parts => uptoBulkAll parts + 1
  | .iface _ d => uptoBulk d + 1
  | .map entries => uptoBulkEntries entries + 1
  | .held _ => 1
def uptoBulkAll {H : Type} : List (DataW H) → Nat
  | [] => 0
  | d :: r => uptoBulk d + uptoBulkAll r
def uptoBulkEntries {H : Type} : List (Lit × DataW H) → Nat
  | [] => 0
  | x :: r => uptoBulkEntry x + uptoBulkEntries r
def uptoBulkEntry {H : Type} : Lit × DataW H → Nat
  | (.string bytes, d) => bytes.length + uptoBulk d + 1
  | (_, d) => uptoBulk d + 1
 end
def uptoSmall : (H : Type) → List (DataW H) → Bool := fun _ ds => decide (uptoBulkAll ds ≤ 1048576)
def OpenSpec.upto (s : _root_.Go.ChangeSpec) : _root_.Go.OpenSpec := { _root_.Go.OpenSpec.ofChange s with cond := some uptoSmall }

/-- 'narrowslaw07.DealPayloads', WHERE WHAT IT READS IS OF BULK AT MOST 1048576: true; the input reads as it did. -/
def dealPayloadsUptoRow : OpenClaim := { program := "ytbofioheoohlgaa", sum := "3aad367c7fae333f8755c4c9030892be7a8edb6ae1ffb9446540286aa0b702d8", func := "narrows/narrowslaw07.DealPayloads", spec := "dealPayloads", unfollowed := true, recurses := true, apart := false, narrowed := true }
def DealPayloadsUptoSaid : Prop := dealPayloadsUptoRow.holds Try.pinned (OpenSpec.upto dealPayloadsSpec)

/-- 'narrowslaw07.DealTells', WHERE WHAT IT READS IS OF BULK AT MOST 1048576: true; the input reads as it did. -/
def dealTellsUptoRow : OpenClaim := { program := "ytbofioheoohlgaa", sum := "3aad367c7fae333f8755c4c9030892be7a8edb6ae1ffb9446540286aa0b702d8", func := "narrows/narrowslaw07.DealTells", spec := "dealTells", unfollowed := true, recurses := true, apart := false, narrowed := true }
def DealTellsUptoSaid : Prop := dealTellsUptoRow.holds Try.pinned (OpenSpec.upto dealTellsSpec)

/-- 'narrowslaw07.DealReads', WHERE WHAT IT READS IS OF BULK AT MOST 1048576: true; the input reads as it did. -/
def dealReadsUptoRow : OpenClaim := { program := "ytbofioheoohlgaa", sum := "3aad367c7fae333f8755c4c9030892be7a8edb6ae1ffb9446540286aa0b702d8", func := "narrows/narrowslaw07.DealReads", spec := "dealReads", unfollowed := true, recurses := true, apart := false, narrowed := true }
def DealReadsUptoSaid : Prop := dealReadsUptoRow.holds Try.pinned (OpenSpec.upto dealReadsSpec)

/-- 'narrowslaw07.DealBack', WHERE WHAT IT READS IS OF BULK AT MOST 1048576: true; the input reads as it did. -/
def dealBackUptoRow : OpenClaim := { program := "ytbofioheoohlgaa", sum := "3aad367c7fae333f8755c4c9030892be7a8edb6ae1ffb9446540286aa0b702d8", func := "narrows/narrowslaw07.DealBack", spec := "dealBack", unfollowed := true, recurses := true, apart := false, narrowed := true }
def DealBackUptoSaid : Prop := dealBackUptoRow.holds Try.pinned (OpenSpec.upto dealBackSpec)

/-- 'narrowslaw09.TxsPuts', WHERE WHAT IT READS IS OF BULK AT MOST 1048576: true; the input reads as it did. -/
def txsPutsUptoRow : OpenClaim := { program := "ytbofioheoohlgaa", sum := "3aad367c7fae333f8755c4c9030892be7a8edb6ae1ffb9446540286aa0b702d8", func := "narrows/narrowslaw09.TxsPuts", spec := "txsPuts", unfollowed := true, recurses := true, apart := false, narrowed := true }
def TxsPutsUptoSaid : Prop := txsPutsUptoRow.holds Try.pinned (OpenSpec.upto txsPutsSpec)

/-- 'narrowslaw09.TxsTells', WHERE WHAT IT READS IS OF BULK AT MOST 1048576: true; the input reads as it did. -/
def txsTellsUptoRow : OpenClaim := { program := "ytbofioheoohlgaa", sum := "3aad367c7fae333f8755c4c9030892be7a8edb6ae1ffb9446540286aa0b702d8", func := "narrows/narrowslaw09.TxsTells", spec := "txsTells", unfollowed := true, recurses := true, apart := false, narrowed := true }
def TxsTellsUptoSaid : Prop := txsTellsUptoRow.holds Try.pinned (OpenSpec.upto txsTellsSpec)

/-- 'narrowslaw09.TxsReads', WHERE WHAT IT READS IS OF BULK AT MOST 1048576: true; the input reads as it did. -/
def txsReadsUptoRow : OpenClaim := { program := "ytbofioheoohlgaa", sum := "3aad367c7fae333f8755c4c9030892be7a8edb6ae1ffb9446540286aa0b702d8", func := "narrows/narrowslaw09.TxsReads", spec := "txsReads", apart := false, narrowed := true }
def TxsReadsUptoSaid : Prop := txsReadsUptoRow.holds Try.pinned (OpenSpec.upto txsReadsSpec)

/-- 'narrowslaw09.TxsBack', WHERE WHAT IT READS IS OF BULK AT MOST 1048576: true; the input reads as it did. -/
def txsBackUptoRow : OpenClaim := { program := "ytbofioheoohlgaa", sum := "3aad367c7fae333f8755c4c9030892be7a8edb6ae1ffb9446540286aa0b702d8", func := "narrows/narrowslaw09.TxsBack", spec := "txsBack", unfollowed := true, recurses := true, apart := false, narrowed := true }
def TxsBackUptoSaid : Prop := txsBackUptoRow.holds Try.pinned (OpenSpec.upto txsBackSpec)

end Rows
end Go.Proofs.Ytbofioheoohlgaa
