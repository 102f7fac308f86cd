/-
  No cell of these rows narrows 'for every input' (looked for: loops, veiled, ifaces, maps, wideKeys, modest, calm, conditions, laid).
  DERIVED. THE GIVEN ROWS OF THIS SEAT. 6 by the template 'for every input the law returns true; each argument reads behind the call as it read before'; 0 by the template 'total and deterministic' (their statements: YtancdgbclbkpkaaTotals.lean).
  GIVEN WITH THE SEED: the statements are not yours to turn. If you find one false, say at which input.
  Laid BY PROGRAM, IN A SANDBOX (cutbox-rows.mjs): the forced cells as the released guide's own fill.sh prints them over the translation 9234e4cea65a5a89… (all of the seat's roots in one cut). By AI agents, Wed Nov 11 2026. No macro, syntax, notation, axiom, sorry.
-/
import Derived.Test.YtancdgbclbkpkaaChecked
import GoSem.Claim
import GoSem.ClaimJoined
import GoSem.ClaimMapViews
import Derived.JoinedTies
import Derived.KernelRfl
namespace Go.Proofs.Ytancdgbclbkpkaa
/- THE CELL 'sum', in the pinned program and in every row, IS THE sha256 OF THE DUMP (.gsa) THAT YtancdgbclbkpkaaProg.lean LOADS. Nothing in Lean hashes anything: it is a label: what it is worth is what the hold of that sum in a sandbox is worth. -/
noncomputable def Try.pinned : Pinned := { name := "ytancdgbclbkpkaa", sum := "9234e4cea65a5a892be292c01d603e13b33770d49ad162150340d3fb3c482299", checked := Try.checked }
namespace Rows
def none {H : Type} : Left H := { results := [], args := [] }

/-- 'narrowslaw14.ScanOnce': WHATEVER THE INPUT: true; the input reads as it did. -/
def scanOnceSpec : ChangeSpec := { name := "scanOnce", fn := fun _ => fun
  | [d1, d2] => { results := [.lit (.bool true)], args := [d1, d2] }
  | _ => none }
def scanOnceRow : OpenClaim := { program := "ytancdgbclbkpkaa", sum := "9234e4cea65a5a892be292c01d603e13b33770d49ad162150340d3fb3c482299", func := "narrows/narrowslaw14.ScanOnce", spec := "scanOnce", unfollowed := true, recurses := true, apart := false }
def ScanOnceSaid : Prop := scanOnceRow.holds Try.pinned (OpenSpec.ofChange scanOnceSpec)

/-- ITS FALSE NEIGHBOUR: 'it returns false'. Refute it at one input. -/
def scanOnceWrong : ChangeSpec := { name := "scanOnce", fn := fun _ => fun
  | [d1, d2] => { results := [.lit (.bool false)], args := [d1, d2] }
  | _ => none }
def ScanOnceWrongFalsely : Prop := scanOnceRow.holds Try.pinned (OpenSpec.ofChange scanOnceWrong)

/-- 'narrowslaw14.ScanMore': WHATEVER THE INPUT: true; the input reads as it did. -/
def scanMoreSpec : ChangeSpec := { name := "scanMore", fn := fun _ => fun
  | [d1, d2, d3] => { results := [.lit (.bool true)], args := [d1, d2, d3] }
  | _ => none }
def scanMoreRow : OpenClaim := { program := "ytancdgbclbkpkaa", sum := "9234e4cea65a5a892be292c01d603e13b33770d49ad162150340d3fb3c482299", func := "narrows/narrowslaw14.ScanMore", spec := "scanMore", unfollowed := true, recurses := true, apart := false }
def ScanMoreSaid : Prop := scanMoreRow.holds Try.pinned (OpenSpec.ofChange scanMoreSpec)

/-- ITS FALSE NEIGHBOUR: 'it returns false'. Refute it at one input. -/
def scanMoreWrong : ChangeSpec := { name := "scanMore", fn := fun _ => fun
  | [d1, d2, d3] => { results := [.lit (.bool false)], args := [d1, d2, d3] }
  | _ => none }
def ScanMoreWrongFalsely : Prop := scanMoreRow.holds Try.pinned (OpenSpec.ofChange scanMoreWrong)

/-- 'narrowslaw14.ScanTells': WHATEVER THE INPUT: true; the input reads as it did. -/
def scanTellsSpec : ChangeSpec := { name := "scanTells", fn := fun _ => fun
  | [d1, d2, d3] => { results := [.lit (.bool true)], args := [d1, d2, d3] }
  | _ => none }
def scanTellsRow : OpenClaim := { program := "ytancdgbclbkpkaa", sum := "9234e4cea65a5a892be292c01d603e13b33770d49ad162150340d3fb3c482299", func := "narrows/narrowslaw14.ScanTells", spec := "scanTells", unfollowed := true, recurses := true, apart := false }
def ScanTellsSaid : Prop := scanTellsRow.holds Try.pinned (OpenSpec.ofChange scanTellsSpec)

/-- ITS FALSE NEIGHBOUR: 'it returns false'. Refute it at one input. -/
def scanTellsWrong : ChangeSpec := { name := "scanTells", fn := fun _ => fun
  | [d1, d2, d3] => { results := [.lit (.bool false)], args := [d1, d2, d3] }
  | _ => none }
def ScanTellsWrongFalsely : Prop := scanTellsRow.holds Try.pinned (OpenSpec.ofChange scanTellsWrong)

/-- 'narrowslaw30.ReceiptTells': WHATEVER THE INPUT: true; the input reads as it did. -/
def receiptTellsSpec : ChangeSpec := { name := "receiptTells", fn := fun _ => fun
  | [d1, d2] => { results := [.lit (.bool true)], args := [d1, d2] }
  | _ => none }
def receiptTellsRow : OpenClaim := { program := "ytancdgbclbkpkaa", sum := "9234e4cea65a5a892be292c01d603e13b33770d49ad162150340d3fb3c482299", func := "narrows/narrowslaw30.ReceiptTells", spec := "receiptTells", unfollowed := true, recurses := true, apart := false }
def ReceiptTellsSaid : Prop := receiptTellsRow.holds Try.pinned (OpenSpec.ofChange receiptTellsSpec)

/-- ITS FALSE NEIGHBOUR: 'it returns false'. Refute it at one input. -/
def receiptTellsWrong : ChangeSpec := { name := "receiptTells", fn := fun _ => fun
  | [d1, d2] => { results := [.lit (.bool false)], args := [d1, d2] }
  | _ => none }
def ReceiptTellsWrongFalsely : Prop := receiptTellsRow.holds Try.pinned (OpenSpec.ofChange receiptTellsWrong)

/-- 'narrowslaw30.ReceiptBack': WHATEVER THE INPUT: true; the input reads as it did. -/
def receiptBackSpec : ChangeSpec := { name := "receiptBack", fn := fun _ => fun
  | [d1, d2, d3] => { results := [.lit (.bool true)], args := [d1, d2, d3] }
  | _ => none }
def receiptBackRow : OpenClaim := { program := "ytancdgbclbkpkaa", sum := "9234e4cea65a5a892be292c01d603e13b33770d49ad162150340d3fb3c482299", func := "narrows/narrowslaw30.ReceiptBack", spec := "receiptBack", unfollowed := true, recurses := true, apart := false }
def ReceiptBackSaid : Prop := receiptBackRow.holds Try.pinned (OpenSpec.ofChange receiptBackSpec)

/-- ITS FALSE NEIGHBOUR: 'it returns false'. Refute it at one input. -/
def receiptBackWrong : ChangeSpec := { name := "receiptBack", fn := fun _ => fun
  | [d1, d2, d3] => { results := [.lit (.bool false)], args := [d1, d2, d3] }
  | _ => none }
def ReceiptBackWrongFalsely : Prop := receiptBackRow.holds Try.pinned (OpenSpec.ofChange receiptBackWrong)

/-- 'narrowslaw30.ReceiptChecks': WHATEVER THE INPUT: true; the input reads as it did. -/
def receiptChecksSpec : ChangeSpec := { name := "receiptChecks", fn := fun _ => fun
  | [d1, d2, d3, d4, d5] => { results := [.lit (.bool true)], args := [d1, d2, d3, d4, d5] }
  | _ => none }
def receiptChecksRow : OpenClaim := { program := "ytancdgbclbkpkaa", sum := "9234e4cea65a5a892be292c01d603e13b33770d49ad162150340d3fb3c482299", func := "narrows/narrowslaw30.ReceiptChecks", spec := "receiptChecks", unfollowed := true, recurses := true, apart := false }
def ReceiptChecksSaid : Prop := receiptChecksRow.holds Try.pinned (OpenSpec.ofChange receiptChecksSpec)

/-- ITS FALSE NEIGHBOUR: 'it returns false'. Refute it at one input. -/
def receiptChecksWrong : ChangeSpec := { name := "receiptChecks", fn := fun _ => fun
  | [d1, d2, d3, d4, d5] => { results := [.lit (.bool false)], args := [d1, d2, d3, d4, d5] }
  | _ => none }
def ReceiptChecksWrongFalsely : Prop := receiptChecksRow.holds Try.pinned (OpenSpec.ofChange receiptChecksWrong)

/- THE SECOND FORM. 'bulk': how many values and letters a reading holds, each counted each time it is reached (what is shared counts as often as it is met; a slice's spare places count too). A statement '..UptoSaid' is the law's where the arguments, and the package variables that the reading takes, are together of bulk at most 1048576: NARROWER than '..Said'. Prove '..Said' where nothing that the law and all that it calls make is longer than what came in: it says more and counts as full. Else prove '..UptoSaid'. A law counts once. -/
mutual
def uptoBulk {H : Type} : DataW H → Nat
  | .lit (.string bytes) => bytes.length + 1
  | .lit _ => 1
  | .nil => 1
  | .ptr d => uptoBulk d + 1
  | .slice elems spare => uptoBulkAll elems + uptoBulkAll spare + 1
  | .agg parts => uptoBulkAll parts + 1
  | .iface _ d => uptoBulk d + 1
  | .map entries => uptoBulkEntries entries + 1
  | .held _ => 1
def uptoBulkAll {H : Type} : List (DataW H) → Nat
  | [] => 0
  | d :: r => uptoBulk d + uptoBulkAll r
def uptoBulkEntries {H : Type} : List (Lit × DataW H) → Nat
  | [] => 0
  | x :: r => uptoBulkEntry x + uptoBulkEntries r
def uptoBulkEntry {H : Type} : Lit × DataW H → Nat
  | (.string bytes, d) => bytes.length + uptoBulk d + 1
  | (_, d) => uptoBulk d + 1
 end
def uptoSmall : (H : Type) → List (DataW H) → Bool := fun _ ds => decide (uptoBulkAll ds ≤ 1048576)
def OpenSpec.upto (s : _root_.Go.ChangeSpec) : _root_.Go.OpenSpec := { _root_.Go.OpenSpec.ofChange s with cond := some uptoSmall }

/-- 'narrowslaw14.ScanOnce', WHERE WHAT IT READS IS OF BULK AT MOST 1048576: true; the input reads as it did. -/
def scanOnceUptoRow : OpenClaim := { program := "ytancdgbclbkpkaa", sum := "9234e4cea65a5a892be292c01d603e13b33770d49ad162150340d3fb3c482299", func := "narrows/narrowslaw14.ScanOnce", spec := "scanOnce", unfollowed := true, recurses := true, apart := false, narrowed := true }
def ScanOnceUptoSaid : Prop := scanOnceUptoRow.holds Try.pinned (OpenSpec.upto scanOnceSpec)

/-- 'narrowslaw14.ScanMore', WHERE WHAT IT READS IS OF BULK AT MOST 1048576: true; the input reads as it did. -/
def scanMoreUptoRow : OpenClaim := { program := "ytancdgbclbkpkaa", sum := "9234e4cea65a5a892be292c01d603e13b33770d49ad162150340d3fb3c482299", func := "narrows/narrowslaw14.ScanMore", spec := "scanMore", unfollowed := true, recurses := true, apart := false, narrowed := true }
def ScanMoreUptoSaid : Prop := scanMoreUptoRow.holds Try.pinned (OpenSpec.upto scanMoreSpec)

/-- 'narrowslaw14.ScanTells', WHERE WHAT IT READS IS OF BULK AT MOST 1048576: true; the input reads as it did. -/
def scanTellsUptoRow : OpenClaim := { program := "ytancdgbclbkpkaa", sum := "9234e4cea65a5a892be292c01d603e13b33770d49ad162150340d3fb3c482299", func := "narrows/narrowslaw14.ScanTells", spec := "scanTells", unfollowed := true, recurses := true, apart := false, narrowed := true }
def ScanTellsUptoSaid : Prop := scanTellsUptoRow.holds Try.pinned (OpenSpec.upto scanTellsSpec)

/-- 'narrowslaw30.ReceiptTells', WHERE WHAT IT READS IS OF BULK AT MOST 1048576: true; the input reads as it did. -/
def receiptTellsUptoRow : OpenClaim := { program := "ytancdgbclbkpkaa", sum := "9234e4cea65a5a892be292c01d603e13b33770d49ad162150340d3fb3c482299", func := "narrows/narrowslaw30.ReceiptTells", spec := "receiptTells", unfollowed := true, recurses := true, apart := false, narrowed := true }
def ReceiptTellsUptoSaid : Prop := receiptTellsUptoRow.holds Try.pinned (OpenSpec.upto receiptTellsSpec)

/-- 'narrowslaw30.ReceiptBack', WHERE WHAT IT READS IS OF BULK AT MOST 1048576: true; the input reads as it did. -/
def receiptBackUptoRow : OpenClaim := { program := "ytancdgbclbkpkaa", sum := "9234e4cea65a5a892be292c01d603e13b33770d49ad162150340d3fb3c482299", func := "narrows/narrowslaw30.ReceiptBack", spec := "receiptBack", unfollowed := true, recurses := true, apart := false, narrowed := true }
def ReceiptBackUptoSaid : Prop := receiptBackUptoRow.holds Try.pinned (OpenSpec.upto receiptBackSpec)

/-- 'narrowslaw30.ReceiptChecks', WHERE WHAT IT READS IS OF BULK AT MOST 1048576: true; the input reads as it did. -/
def receiptChecksUptoRow : OpenClaim := { program := "ytancdgbclbkpkaa", sum := "9234e4cea65a5a892be292c01d603e13b33770d49ad162150340d3fb3c482299", func := "narrows/narrowslaw30.ReceiptChecks", spec := "receiptChecks", unfollowed := true, recurses := true, apart := false, narrowed := true }
def ReceiptChecksUptoSaid : Prop := receiptChecksUptoRow.holds Try.pinned (OpenSpec.upto receiptChecksSpec)

end Rows
end Go.Proofs.Ytancdgbclbkpkaa
