/-
  No cell of these rows narrows 'for every input' (looked for: loops, veiled, ifaces, maps, wideKeys, modest, calm, conditions, laid).
  DERIVED. THE GIVEN ROWS OF THIS SEAT. 12 by the template 'for every input the law returns true; each argument reads behind the call as it read before'; 0 by the template 'total and deterministic' (their statements: YtkcfmefleghnnaaTotals.lean).
  GIVEN WITH THE SEED: the statements are not yours to turn. If you find one false, say at which input.
  Laid BY PROGRAM, IN A SANDBOX (cutbox-rows.mjs): the forced cells as the released guide's own fill.sh prints them over the translation 7c8152e1cd112bf5… (all of the seat's roots in one cut). By AI agents, Wed Nov 11 2026. No macro, syntax, notation, axiom, sorry.
-/
import Derived.Test.YtkcfmefleghnnaaChecked
import GoSem.Claim
import GoSem.ClaimJoined
import GoSem.ClaimMapViews
import Derived.JoinedTies
import Derived.KernelRfl
namespace Go.Proofs.Ytkcfmefleghnnaa
/- THE CELL 'sum', in the pinned program and in every row, IS THE sha256 OF THE DUMP (.gsa) THAT YtkcfmefleghnnaaProg.lean LOADS. Nothing in Lean hashes anything: it is a label: what it is worth is what the hold of that sum in a sandbox is worth. -/
noncomputable def Try.pinned : Pinned := { name := "ytkcfmefleghnnaa", sum := "7c8152e1cd112bf5571fe68e6a2c75cac0dff2ebd5d19a28238f8ac7c5423ce1", checked := Try.checked }
namespace Rows
def none {H : Type} : Left H := { results := [], args := [] }

/-- 'narrowslaw02.BlobTells': WHATEVER THE INPUT: true; the input reads as it did. -/
def blobTellsSpec : ChangeSpec := { name := "blobTells", fn := fun _ => fun
  | [d1, d2, d3, d4] => { results := [.lit (.bool true)], args := [d1, d2, d3, d4] }
  | _ => none }
def blobTellsRow : OpenClaim := { program := "ytkcfmefleghnnaa", sum := "7c8152e1cd112bf5571fe68e6a2c75cac0dff2ebd5d19a28238f8ac7c5423ce1", func := "narrows/narrowslaw02.BlobTells", spec := "blobTells", unfollowed := true, recurses := true, apart := false }
def BlobTellsSaid : Prop := blobTellsRow.holds Try.pinned (OpenSpec.ofChange blobTellsSpec)

/-- ITS FALSE NEIGHBOUR: 'it returns false'. Refute it at one input. -/
def blobTellsWrong : ChangeSpec := { name := "blobTells", fn := fun _ => fun
  | [d1, d2, d3, d4] => { results := [.lit (.bool false)], args := [d1, d2, d3, d4] }
  | _ => none }
def BlobTellsWrongFalsely : Prop := blobTellsRow.holds Try.pinned (OpenSpec.ofChange blobTellsWrong)

/-- 'narrowslaw02.BlobBack': WHATEVER THE INPUT: true; the input reads as it did. -/
def blobBackSpec : ChangeSpec := { name := "blobBack", fn := fun _ => fun
  | [d1, d2] => { results := [.lit (.bool true)], args := [d1, d2] }
  | _ => none }
def blobBackRow : OpenClaim := { program := "ytkcfmefleghnnaa", sum := "7c8152e1cd112bf5571fe68e6a2c75cac0dff2ebd5d19a28238f8ac7c5423ce1", func := "narrows/narrowslaw02.BlobBack", spec := "blobBack", unfollowed := true, recurses := true, apart := false }
def BlobBackSaid : Prop := blobBackRow.holds Try.pinned (OpenSpec.ofChange blobBackSpec)

/-- ITS FALSE NEIGHBOUR: 'it returns false'. Refute it at one input. -/
def blobBackWrong : ChangeSpec := { name := "blobBack", fn := fun _ => fun
  | [d1, d2] => { results := [.lit (.bool false)], args := [d1, d2] }
  | _ => none }
def BlobBackWrongFalsely : Prop := blobBackRow.holds Try.pinned (OpenSpec.ofChange blobBackWrong)

/-- 'narrowslaw02.BlobCuts': WHATEVER THE INPUT: true; the input reads as it did. -/
def blobCutsSpec : ChangeSpec := { name := "blobCuts", fn := fun _ => fun
  | [d1, d2] => { results := [.lit (.bool true)], args := [d1, d2] }
  | _ => none }
def blobCutsRow : OpenClaim := { program := "ytkcfmefleghnnaa", sum := "7c8152e1cd112bf5571fe68e6a2c75cac0dff2ebd5d19a28238f8ac7c5423ce1", func := "narrows/narrowslaw02.BlobCuts", spec := "blobCuts", unfollowed := true, recurses := true, apart := false }
def BlobCutsSaid : Prop := blobCutsRow.holds Try.pinned (OpenSpec.ofChange blobCutsSpec)

/-- ITS FALSE NEIGHBOUR: 'it returns false'. Refute it at one input. -/
def blobCutsWrong : ChangeSpec := { name := "blobCuts", fn := fun _ => fun
  | [d1, d2] => { results := [.lit (.bool false)], args := [d1, d2] }
  | _ => none }
def BlobCutsWrongFalsely : Prop := blobCutsRow.holds Try.pinned (OpenSpec.ofChange blobCutsWrong)

/-- 'narrowslaw02.BlobOwn': WHATEVER THE INPUT: true; the input reads as it did. -/
def blobOwnSpec : ChangeSpec := { name := "blobOwn", fn := fun _ => fun
  | [d] => { results := [.lit (.bool true)], args := [d] }
  | _ => none }
def blobOwnRow : OpenClaim := { program := "ytkcfmefleghnnaa", sum := "7c8152e1cd112bf5571fe68e6a2c75cac0dff2ebd5d19a28238f8ac7c5423ce1", func := "narrows/narrowslaw02.BlobOwn", spec := "blobOwn", unfollowed := true, recurses := true, apart := false }
def BlobOwnSaid : Prop := blobOwnRow.holds Try.pinned (OpenSpec.ofChange blobOwnSpec)

/-- ITS FALSE NEIGHBOUR: 'it returns false'. Refute it at one input. -/
def blobOwnWrong : ChangeSpec := { name := "blobOwn", fn := fun _ => fun
  | [d] => { results := [.lit (.bool false)], args := [d] }
  | _ => none }
def BlobOwnWrongFalsely : Prop := blobOwnRow.holds Try.pinned (OpenSpec.ofChange blobOwnWrong)

/-- 'narrowslaw08.BidOrder': WHATEVER THE INPUT: true; the input reads as it did. -/
def bidOrderSpec : ChangeSpec := { name := "bidOrder", fn := fun _ => fun
  | [d1, d2, d3] => { results := [.lit (.bool true)], args := [d1, d2, d3] }
  | _ => none }
def bidOrderRow : OpenClaim := { program := "ytkcfmefleghnnaa", sum := "7c8152e1cd112bf5571fe68e6a2c75cac0dff2ebd5d19a28238f8ac7c5423ce1", func := "narrows/narrowslaw08.BidOrder", spec := "bidOrder", unfollowed := true, recurses := true, apart := false }
def BidOrderSaid : Prop := bidOrderRow.holds Try.pinned (OpenSpec.ofChange bidOrderSpec)

/-- ITS FALSE NEIGHBOUR: 'it returns false'. Refute it at one input. -/
def bidOrderWrong : ChangeSpec := { name := "bidOrder", fn := fun _ => fun
  | [d1, d2, d3] => { results := [.lit (.bool false)], args := [d1, d2, d3] }
  | _ => none }
def BidOrderWrongFalsely : Prop := bidOrderRow.holds Try.pinned (OpenSpec.ofChange bidOrderWrong)

/-- 'narrowslaw15.DiskSure': WHATEVER THE INPUT: true; the input reads as it did. -/
def diskSureSpec : ChangeSpec := { name := "diskSure", fn := fun _ => fun
  | [d1, d2, d3, d4] => { results := [.lit (.bool true)], args := [d1, d2, d3, d4] }
  | _ => none }
def diskSureRow : OpenClaim := { program := "ytkcfmefleghnnaa", sum := "7c8152e1cd112bf5571fe68e6a2c75cac0dff2ebd5d19a28238f8ac7c5423ce1", func := "narrows/narrowslaw15.DiskSure", spec := "diskSure", apart := false }
def DiskSureSaid : Prop := diskSureRow.holds Try.pinned (OpenSpec.ofChange diskSureSpec)

/-- ITS FALSE NEIGHBOUR: 'it returns false'. Refute it at one input. -/
def diskSureWrong : ChangeSpec := { name := "diskSure", fn := fun _ => fun
  | [d1, d2, d3, d4] => { results := [.lit (.bool false)], args := [d1, d2, d3, d4] }
  | _ => none }
def DiskSureWrongFalsely : Prop := diskSureRow.holds Try.pinned (OpenSpec.ofChange diskSureWrong)

/-- 'narrowslaw15.DiskRuns': WHATEVER THE INPUT: true; the input reads as it did. -/
def diskRunsSpec : ChangeSpec := { name := "diskRuns", fn := fun _ => fun
  | [d1, d2] => { results := [.lit (.bool true)], args := [d1, d2] }
  | _ => none }
def diskRunsRow : OpenClaim := { program := "ytkcfmefleghnnaa", sum := "7c8152e1cd112bf5571fe68e6a2c75cac0dff2ebd5d19a28238f8ac7c5423ce1", func := "narrows/narrowslaw15.DiskRuns", spec := "diskRuns", apart := false }
def DiskRunsSaid : Prop := diskRunsRow.holds Try.pinned (OpenSpec.ofChange diskRunsSpec)

/-- ITS FALSE NEIGHBOUR: 'it returns false'. Refute it at one input. -/
def diskRunsWrong : ChangeSpec := { name := "diskRuns", fn := fun _ => fun
  | [d1, d2] => { results := [.lit (.bool false)], args := [d1, d2] }
  | _ => none }
def DiskRunsWrongFalsely : Prop := diskRunsRow.holds Try.pinned (OpenSpec.ofChange diskRunsWrong)

/-- 'narrowslaw15.DiskNobody': WHATEVER THE INPUT: true; the input reads as it did. -/
def diskNobodySpec : ChangeSpec := { name := "diskNobody", fn := fun _ => fun
  | [d1, d2] => { results := [.lit (.bool true)], args := [d1, d2] }
  | _ => none }
def diskNobodyRow : OpenClaim := { program := "ytkcfmefleghnnaa", sum := "7c8152e1cd112bf5571fe68e6a2c75cac0dff2ebd5d19a28238f8ac7c5423ce1", func := "narrows/narrowslaw15.DiskNobody", spec := "diskNobody", apart := false }
def DiskNobodySaid : Prop := diskNobodyRow.holds Try.pinned (OpenSpec.ofChange diskNobodySpec)

/-- ITS FALSE NEIGHBOUR: 'it returns false'. Refute it at one input. -/
def diskNobodyWrong : ChangeSpec := { name := "diskNobody", fn := fun _ => fun
  | [d1, d2] => { results := [.lit (.bool false)], args := [d1, d2] }
  | _ => none }
def DiskNobodyWrongFalsely : Prop := diskNobodyRow.holds Try.pinned (OpenSpec.ofChange diskNobodyWrong)

/-- 'narrowslaw23.NetOrder': WHATEVER THE INPUT: true; the input reads as it did. -/
def netOrderSpec : ChangeSpec := { name := "netOrder", fn := fun _ => fun
  | [d1, d2] => { results := [.lit (.bool true)], args := [d1, d2] }
  | _ => none }
def netOrderRow : OpenClaim := { program := "ytkcfmefleghnnaa", sum := "7c8152e1cd112bf5571fe68e6a2c75cac0dff2ebd5d19a28238f8ac7c5423ce1", func := "narrows/narrowslaw23.NetOrder", spec := "netOrder", apart := false }
def NetOrderSaid : Prop := netOrderRow.holds Try.pinned (OpenSpec.ofChange netOrderSpec)

/-- ITS FALSE NEIGHBOUR: 'it returns false'. Refute it at one input. -/
def netOrderWrong : ChangeSpec := { name := "netOrder", fn := fun _ => fun
  | [d1, d2] => { results := [.lit (.bool false)], args := [d1, d2] }
  | _ => none }
def NetOrderWrongFalsely : Prop := netOrderRow.holds Try.pinned (OpenSpec.ofChange netOrderWrong)

/-- 'narrowslaw23.NetFull': WHATEVER THE INPUT: true; the input reads as it did. -/
def netFullSpec : ChangeSpec := { name := "netFull", fn := fun _ => fun
  | [d1, d2] => { results := [.lit (.bool true)], args := [d1, d2] }
  | _ => none }
def netFullRow : OpenClaim := { program := "ytkcfmefleghnnaa", sum := "7c8152e1cd112bf5571fe68e6a2c75cac0dff2ebd5d19a28238f8ac7c5423ce1", func := "narrows/narrowslaw23.NetFull", spec := "netFull", apart := false }
def NetFullSaid : Prop := netFullRow.holds Try.pinned (OpenSpec.ofChange netFullSpec)

/-- ITS FALSE NEIGHBOUR: 'it returns false'. Refute it at one input. -/
def netFullWrong : ChangeSpec := { name := "netFull", fn := fun _ => fun
  | [d1, d2] => { results := [.lit (.bool false)], args := [d1, d2] }
  | _ => none }
def NetFullWrongFalsely : Prop := netFullRow.holds Try.pinned (OpenSpec.ofChange netFullWrong)

/-- 'narrowslaw23.NetOwn': WHATEVER THE INPUT: true; the input reads as it did. -/
def netOwnSpec : ChangeSpec := { name := "netOwn", fn := fun _ => fun
  | [d1, d2] => { results := [.lit (.bool true)], args := [d1, d2] }
  | _ => none }
def netOwnRow : OpenClaim := { program := "ytkcfmefleghnnaa", sum := "7c8152e1cd112bf5571fe68e6a2c75cac0dff2ebd5d19a28238f8ac7c5423ce1", func := "narrows/narrowslaw23.NetOwn", spec := "netOwn", unfollowed := true, recurses := true, apart := false }
def NetOwnSaid : Prop := netOwnRow.holds Try.pinned (OpenSpec.ofChange netOwnSpec)

/-- ITS FALSE NEIGHBOUR: 'it returns false'. Refute it at one input. -/
def netOwnWrong : ChangeSpec := { name := "netOwn", fn := fun _ => fun
  | [d1, d2] => { results := [.lit (.bool false)], args := [d1, d2] }
  | _ => none }
def NetOwnWrongFalsely : Prop := netOwnRow.holds Try.pinned (OpenSpec.ofChange netOwnWrong)

/-- 'narrowslaw23.NetTells': WHATEVER THE INPUT: true; the input reads as it did. -/
def netTellsSpec : ChangeSpec := { name := "netTells", fn := fun _ => fun
  | [d1, d2, d3, d4] => { results := [.lit (.bool true)], args := [d1, d2, d3, d4] }
  | _ => none }
def netTellsRow : OpenClaim := { program := "ytkcfmefleghnnaa", sum := "7c8152e1cd112bf5571fe68e6a2c75cac0dff2ebd5d19a28238f8ac7c5423ce1", func := "narrows/narrowslaw23.NetTells", spec := "netTells", unfollowed := true, recurses := true, apart := false }
def NetTellsSaid : Prop := netTellsRow.holds Try.pinned (OpenSpec.ofChange netTellsSpec)

/-- ITS FALSE NEIGHBOUR: 'it returns false'. Refute it at one input. -/
def netTellsWrong : ChangeSpec := { name := "netTells", fn := fun _ => fun
  | [d1, d2, d3, d4] => { results := [.lit (.bool false)], args := [d1, d2, d3, d4] }
  | _ => none }
def NetTellsWrongFalsely : Prop := netTellsRow.holds Try.pinned (OpenSpec.ofChange netTellsWrong)

/- THE SECOND FORM. 'bulk': how many values and letters a reading holds, each counted each time it is reached (what is shared counts as often as it is met; a slice's spare places count too). A statement '..UptoSaid' is the law's where the arguments, and the package variables that the reading takes, are together of bulk at most 1048576: NARROWER than '..Said'. Prove '..Said' where nothing that the law and all that it calls make is longer than what came in: it says more and counts as full. Else prove '..UptoSaid'. A law counts once. -/
mutual
def uptoBulk {H : Type} : DataW H → Nat
  | .lit (.string bytes) => bytes.length + 1
  | .lit _ => 1
  | .nil => 1
  | .ptr d => uptoBulk d + 1
  | .slice elems spare => uptoBulkAll elems + uptoBulkAll spare + 1
  | .agg parts => uptoBulkAll parts + 1
  | .iface _ d => uptoBulk d + 1
  | .map entries => uptoBulkEntries entries + 1
  | .held _ => 1
def uptoBulkAll {H : Type} : List (DataW H) → Nat
  | [] => 0
  | d :: r => uptoBulk d + uptoBulkAll r
def uptoBulkEntries {H : Type} : List (Lit × DataW H) → Nat
  | [] => 0
  | x :: r => uptoBulkEntry x + uptoBulkEntries r
def uptoBulkEntry {H : Type} : Lit × DataW H → Nat
  | (.string bytes, d) => bytes.length + uptoBulk d + 1
  | (_, d) => uptoBulk d + 1
 end
def uptoSmall : (H : Type) → List (DataW H) → Bool := fun _ ds => decide (uptoBulkAll ds ≤ 1048576)
def OpenSpec.upto (s : _root_.Go.ChangeSpec) : _root_.Go.OpenSpec := { _root_.Go.OpenSpec.ofChange s with cond := some uptoSmall }

/-- 'narrowslaw02.BlobTells', WHERE WHAT IT READS IS OF BULK AT MOST 1048576: true; the input reads as it did. -/
def blobTellsUptoRow : OpenClaim := { program := "ytkcfmefleghnnaa", sum := "7c8152e1cd112bf5571fe68e6a2c75cac0dff2ebd5d19a28238f8ac7c5423ce1", func := "narrows/narrowslaw02.BlobTells", spec := "blobTells", unfollowed := true, recurses := true, apart := false, narrowed := true }
def BlobTellsUptoSaid : Prop := blobTellsUptoRow.holds Try.pinned (OpenSpec.upto blobTellsSpec)

/-- 'narrowslaw02.BlobBack', WHERE WHAT IT READS IS OF BULK AT MOST 1048576: true; the input reads as it did. -/
def blobBackUptoRow : OpenClaim := { program := "ytkcfmefleghnnaa", sum := "7c8152e1cd112bf5571fe68e6a2c75cac0dff2ebd5d19a28238f8ac7c5423ce1", func := "narrows/narrowslaw02.BlobBack", spec := "blobBack", unfollowed := true, recurses := true, apart := false, narrowed := true }
def BlobBackUptoSaid : Prop := blobBackUptoRow.holds Try.pinned (OpenSpec.upto blobBackSpec)

/-- 'narrowslaw02.BlobCuts', WHERE WHAT IT READS IS OF BULK AT MOST 1048576: true; the input reads as it did. -/
def blobCutsUptoRow : OpenClaim := { program := "ytkcfmefleghnnaa", sum := "7c8152e1cd112bf5571fe68e6a2c75cac0dff2ebd5d19a28238f8ac7c5423ce1", func := "narrows/narrowslaw02.BlobCuts", spec := "blobCuts", unfollowed := true, recurses := true, apart := false, narrowed := true }
def BlobCutsUptoSaid : Prop := blobCutsUptoRow.holds Try.pinned (OpenSpec.upto blobCutsSpec)

/-- 'narrowslaw02.BlobOwn', WHERE WHAT IT READS IS OF BULK AT MOST 1048576: true; the input reads as it did. -/
def blobOwnUptoRow : OpenClaim := { program := "ytkcfmefleghnnaa", sum := "7c8152e1cd112bf5571fe68e6a2c75cac0dff2ebd5d19a28238f8ac7c5423ce1", func := "narrows/narrowslaw02.BlobOwn", spec := "blobOwn", unfollowed := true, recurses := true, apart := false, narrowed := true }
def BlobOwnUptoSaid : Prop := blobOwnUptoRow.holds Try.pinned (OpenSpec.upto blobOwnSpec)

/-- 'narrowslaw08.BidOrder', WHERE WHAT IT READS IS OF BULK AT MOST 1048576: true; the input reads as it did. -/
def bidOrderUptoRow : OpenClaim := { program := "ytkcfmefleghnnaa", sum := "7c8152e1cd112bf5571fe68e6a2c75cac0dff2ebd5d19a28238f8ac7c5423ce1", func := "narrows/narrowslaw08.BidOrder", spec := "bidOrder", unfollowed := true, recurses := true, apart := false, narrowed := true }
def BidOrderUptoSaid : Prop := bidOrderUptoRow.holds Try.pinned (OpenSpec.upto bidOrderSpec)

/-- 'narrowslaw15.DiskSure', WHERE WHAT IT READS IS OF BULK AT MOST 1048576: true; the input reads as it did. -/
def diskSureUptoRow : OpenClaim := { program := "ytkcfmefleghnnaa", sum := "7c8152e1cd112bf5571fe68e6a2c75cac0dff2ebd5d19a28238f8ac7c5423ce1", func := "narrows/narrowslaw15.DiskSure", spec := "diskSure", apart := false, narrowed := true }
def DiskSureUptoSaid : Prop := diskSureUptoRow.holds Try.pinned (OpenSpec.upto diskSureSpec)

/-- 'narrowslaw15.DiskRuns', WHERE WHAT IT READS IS OF BULK AT MOST 1048576: true; the input reads as it did. -/
def diskRunsUptoRow : OpenClaim := { program := "ytkcfmefleghnnaa", sum := "7c8152e1cd112bf5571fe68e6a2c75cac0dff2ebd5d19a28238f8ac7c5423ce1", func := "narrows/narrowslaw15.DiskRuns", spec := "diskRuns", apart := false, narrowed := true }
def DiskRunsUptoSaid : Prop := diskRunsUptoRow.holds Try.pinned (OpenSpec.upto diskRunsSpec)

/-- 'narrowslaw15.DiskNobody', WHERE WHAT IT READS IS OF BULK AT MOST 1048576: true; the input reads as it did. -/
def diskNobodyUptoRow : OpenClaim := { program := "ytkcfmefleghnnaa", sum := "7c8152e1cd112bf5571fe68e6a2c75cac0dff2ebd5d19a28238f8ac7c5423ce1", func := "narrows/narrowslaw15.DiskNobody", spec := "diskNobody", apart := false, narrowed := true }
def DiskNobodyUptoSaid : Prop := diskNobodyUptoRow.holds Try.pinned (OpenSpec.upto diskNobodySpec)

/-- 'narrowslaw23.NetOrder', WHERE WHAT IT READS IS OF BULK AT MOST 1048576: true; the input reads as it did. -/
def netOrderUptoRow : OpenClaim := { program := "ytkcfmefleghnnaa", sum := "7c8152e1cd112bf5571fe68e6a2c75cac0dff2ebd5d19a28238f8ac7c5423ce1", func := "narrows/narrowslaw23.NetOrder", spec := "netOrder", apart := false, narrowed := true }
def NetOrderUptoSaid : Prop := netOrderUptoRow.holds Try.pinned (OpenSpec.upto netOrderSpec)

/-- 'narrowslaw23.NetFull', WHERE WHAT IT READS IS OF BULK AT MOST 1048576: true; the input reads as it did. -/
def netFullUptoRow : OpenClaim := { program := "ytkcfmefleghnnaa", sum := "7c8152e1cd112bf5571fe68e6a2c75cac0dff2ebd5d19a28238f8ac7c5423ce1", func := "narrows/narrowslaw23.NetFull", spec := "netFull", apart := false, narrowed := true }
def NetFullUptoSaid : Prop := netFullUptoRow.holds Try.pinned (OpenSpec.upto netFullSpec)

/-- 'narrowslaw23.NetOwn', WHERE WHAT IT READS IS OF BULK AT MOST 1048576: true; the input reads as it did. -/
def netOwnUptoRow : OpenClaim := { program := "ytkcfmefleghnnaa", sum := "7c8152e1cd112bf5571fe68e6a2c75cac0dff2ebd5d19a28238f8ac7c5423ce1", func := "narrows/narrowslaw23.NetOwn", spec := "netOwn", unfollowed := true, recurses := true, apart := false, narrowed := true }
def NetOwnUptoSaid : Prop := netOwnUptoRow.holds Try.pinned (OpenSpec.upto netOwnSpec)

/-- 'narrowslaw23.NetTells', WHERE WHAT IT READS IS OF BULK AT MOST 1048576: true; the input reads as it did. -/
def netTellsUptoRow : OpenClaim := { program := "ytkcfmefleghnnaa", sum := "7c8152e1cd112bf5571fe68e6a2c75cac0dff2ebd5d19a28238f8ac7c5423ce1", func := "narrows/narrowslaw23.NetTells", spec := "netTells", unfollowed := true, recurses := true, apart := false, narrowed := true }
def NetTellsUptoSaid : Prop := netTellsUptoRow.holds Try.pinned (OpenSpec.upto netTellsSpec)

end Rows
end Go.Proofs.Ytkcfmefleghnnaa
