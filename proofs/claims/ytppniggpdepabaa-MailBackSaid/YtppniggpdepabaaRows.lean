/-
  No cell of these rows narrows 'for every input' (looked for: loops, veiled, ifaces, maps, wideKeys, modest, calm, conditions, laid).
  DERIVED. THE GIVEN ROWS OF THIS SEAT. 6 by the template 'for every input the law returns true; each argument reads behind the call as it read before'; 0 by the template 'total and deterministic' (their statements: YtppniggpdepabaaTotals.lean).
  GIVEN WITH THE SEED: the statements are not yours to turn. If you find one false, say at which input.
  Laid BY PROGRAM, IN A SANDBOX (cutbox-rows.mjs): the forced cells as the released guide's own fill.sh prints them over the translation 35431da166033d5d… (all of the seat's roots in one cut). By AI agents, Wed Nov 11 2026. No macro, syntax, notation, axiom, sorry.
-/
import Derived.Test.YtppniggpdepabaaChecked
import GoSem.Claim
import GoSem.ClaimJoined
import GoSem.ClaimMapViews
import Derived.JoinedTies
import Derived.KernelRfl
namespace Go.Proofs.Ytppniggpdepabaa
/- THE CELL 'sum', in the pinned program and in every row, IS THE sha256 OF THE DUMP (.gsa) THAT YtppniggpdepabaaProg.lean LOADS. Nothing in Lean hashes anything: it is a label: what it is worth is what the hold of that sum in a sandbox is worth. -/
noncomputable def Try.pinned : Pinned := { name := "ytppniggpdepabaa", sum := "35431da166033d5d8b521a94a05b9c1dcc7e1e41b61cbf17045887022982eba4", checked := Try.checked }
namespace Rows
def none {H : Type} : Left H := { results := [], args := [] }

/-- 'narrowslaw08.BidAsks': WHATEVER THE INPUT: true; the input reads as it did. -/
def bidAsksSpec : ChangeSpec := { name := "bidAsks", fn := fun _ => fun
  | [d1, d2] => { results := [.lit (.bool true)], args := [d1, d2] }
  | _ => none }
def bidAsksRow : OpenClaim := { program := "ytppniggpdepabaa", sum := "35431da166033d5d8b521a94a05b9c1dcc7e1e41b61cbf17045887022982eba4", func := "narrows/narrowslaw08.BidAsks", spec := "bidAsks", unfollowed := true, recurses := true, apart := false }
def BidAsksSaid : Prop := bidAsksRow.holds Try.pinned (OpenSpec.ofChange bidAsksSpec)

/-- ITS FALSE NEIGHBOUR: 'it returns false'. Refute it at one input. -/
def bidAsksWrong : ChangeSpec := { name := "bidAsks", fn := fun _ => fun
  | [d1, d2] => { results := [.lit (.bool false)], args := [d1, d2] }
  | _ => none }
def BidAsksWrongFalsely : Prop := bidAsksRow.holds Try.pinned (OpenSpec.ofChange bidAsksWrong)

/-- 'narrowslaw08.BidTells': WHATEVER THE INPUT: true; the input reads as it did. -/
def bidTellsSpec : ChangeSpec := { name := "bidTells", fn := fun _ => fun
  | [d1, d2, d3] => { results := [.lit (.bool true)], args := [d1, d2, d3] }
  | _ => none }
def bidTellsRow : OpenClaim := { program := "ytppniggpdepabaa", sum := "35431da166033d5d8b521a94a05b9c1dcc7e1e41b61cbf17045887022982eba4", func := "narrows/narrowslaw08.BidTells", spec := "bidTells", unfollowed := true, recurses := true, apart := false }
def BidTellsSaid : Prop := bidTellsRow.holds Try.pinned (OpenSpec.ofChange bidTellsSpec)

/-- ITS FALSE NEIGHBOUR: 'it returns false'. Refute it at one input. -/
def bidTellsWrong : ChangeSpec := { name := "bidTells", fn := fun _ => fun
  | [d1, d2, d3] => { results := [.lit (.bool false)], args := [d1, d2, d3] }
  | _ => none }
def BidTellsWrongFalsely : Prop := bidTellsRow.holds Try.pinned (OpenSpec.ofChange bidTellsWrong)

/-- 'narrowslaw08.BidBack': WHATEVER THE INPUT: true; the input reads as it did. -/
def bidBackSpec : ChangeSpec := { name := "bidBack", fn := fun _ => fun
  | [d1, d2] => { results := [.lit (.bool true)], args := [d1, d2] }
  | _ => none }
def bidBackRow : OpenClaim := { program := "ytppniggpdepabaa", sum := "35431da166033d5d8b521a94a05b9c1dcc7e1e41b61cbf17045887022982eba4", func := "narrows/narrowslaw08.BidBack", spec := "bidBack", unfollowed := true, recurses := true, apart := false }
def BidBackSaid : Prop := bidBackRow.holds Try.pinned (OpenSpec.ofChange bidBackSpec)

/-- ITS FALSE NEIGHBOUR: 'it returns false'. Refute it at one input. -/
def bidBackWrong : ChangeSpec := { name := "bidBack", fn := fun _ => fun
  | [d1, d2] => { results := [.lit (.bool false)], args := [d1, d2] }
  | _ => none }
def BidBackWrongFalsely : Prop := bidBackRow.holds Try.pinned (OpenSpec.ofChange bidBackWrong)

/-- 'narrowslaw10.MailTells': WHATEVER THE INPUT: true; the input reads as it did. -/
def mailTellsSpec : ChangeSpec := { name := "mailTells", fn := fun _ => fun
  | [d1, d2] => { results := [.lit (.bool true)], args := [d1, d2] }
  | _ => none }
def mailTellsRow : OpenClaim := { program := "ytppniggpdepabaa", sum := "35431da166033d5d8b521a94a05b9c1dcc7e1e41b61cbf17045887022982eba4", func := "narrows/narrowslaw10.MailTells", spec := "mailTells", unfollowed := true, recurses := true, apart := false }
def MailTellsSaid : Prop := mailTellsRow.holds Try.pinned (OpenSpec.ofChange mailTellsSpec)

/-- ITS FALSE NEIGHBOUR: 'it returns false'. Refute it at one input. -/
def mailTellsWrong : ChangeSpec := { name := "mailTells", fn := fun _ => fun
  | [d1, d2] => { results := [.lit (.bool false)], args := [d1, d2] }
  | _ => none }
def MailTellsWrongFalsely : Prop := mailTellsRow.holds Try.pinned (OpenSpec.ofChange mailTellsWrong)

/-- 'narrowslaw10.MailBack': WHATEVER THE INPUT: true; the input reads as it did. -/
def mailBackSpec : ChangeSpec := { name := "mailBack", fn := fun _ => fun
  | [d1, d2] => { results := [.lit (.bool true)], args := [d1, d2] }
  | _ => none }
def mailBackRow : OpenClaim := { program := "ytppniggpdepabaa", sum := "35431da166033d5d8b521a94a05b9c1dcc7e1e41b61cbf17045887022982eba4", func := "narrows/narrowslaw10.MailBack", spec := "mailBack", unfollowed := true, recurses := true, apart := false }
def MailBackSaid : Prop := mailBackRow.holds Try.pinned (OpenSpec.ofChange mailBackSpec)

/-- ITS FALSE NEIGHBOUR: 'it returns false'. Refute it at one input. -/
def mailBackWrong : ChangeSpec := { name := "mailBack", fn := fun _ => fun
  | [d1, d2] => { results := [.lit (.bool false)], args := [d1, d2] }
  | _ => none }
def MailBackWrongFalsely : Prop := mailBackRow.holds Try.pinned (OpenSpec.ofChange mailBackWrong)

/-- 'narrowslaw10.MailCuts': WHATEVER THE INPUT: true; the input reads as it did. -/
def mailCutsSpec : ChangeSpec := { name := "mailCuts", fn := fun _ => fun
  | [d1, d2, d3] => { results := [.lit (.bool true)], args := [d1, d2, d3] }
  | _ => none }
def mailCutsRow : OpenClaim := { program := "ytppniggpdepabaa", sum := "35431da166033d5d8b521a94a05b9c1dcc7e1e41b61cbf17045887022982eba4", func := "narrows/narrowslaw10.MailCuts", spec := "mailCuts", unfollowed := true, recurses := true, apart := false }
def MailCutsSaid : Prop := mailCutsRow.holds Try.pinned (OpenSpec.ofChange mailCutsSpec)

/-- ITS FALSE NEIGHBOUR: 'it returns false'. Refute it at one input. -/
def mailCutsWrong : ChangeSpec := { name := "mailCuts", fn := fun _ => fun
  | [d1, d2, d3] => { results := [.lit (.bool false)], args := [d1, d2, d3] }
  | _ => none }
def MailCutsWrongFalsely : Prop := mailCutsRow.holds Try.pinned (OpenSpec.ofChange mailCutsWrong)

/- THE SECOND FORM. 'bulk': how many values and letters a reading holds, each counted each time it is reached (what is shared counts as often as it is met; a slice's spare places count too). A statement '..UptoSaid' is the law's where the arguments, and the package variables that the reading takes, are together of bulk at most 1048576: NARROWER than '..Said'. Prove '..Said' where nothing that the law and all that it calls make is longer than what came in: it says more and counts as full. Else prove '..UptoSaid'. A law counts once. -/
mutual
def uptoBulk {H : Type} : DataW H → Nat
  | .lit (.string bytes) => bytes.length + 1
  | .lit _ => 1
  | .nil => 1
  | .ptr d => uptoBulk d + 1
  | .slice elems spare => uptoBulkAll elems + uptoBulkAll spare + 1
  | .agg parts => uptoBulkAll parts + 1
  | .iface _ d => uptoBulk d + 1
  | .map entries => uptoBulkEntries entries + 1
  | .held _ => 1
def uptoBulkAll {H : Type} : List (DataW H) → Nat
  | [] => 0
  | d :: r => uptoBulk d + uptoBulkAll r
def uptoBulkEntries {H : Type} : List (Lit × DataW H) → Nat
  | [] => 0
  | x :: r => uptoBulkEntry x + uptoBulkEntries r
def uptoBulkEntry {H : Type} : Lit × DataW H → Nat
  | (.string bytes, d) => bytes.length + uptoBulk d + 1
  | (_, d) => uptoBulk d + 1
 end
def uptoSmall : (H : Type) → List (DataW H) → Bool := fun _ ds => decide (uptoBulkAll ds ≤ 1048576)
def OpenSpec.upto (s : _root_.Go.ChangeSpec) : _root_.Go.OpenSpec := { _root_.Go.OpenSpec.ofChange s with cond := some uptoSmall }

/-- 'narrowslaw08.BidAsks', WHERE WHAT IT READS IS OF BULK AT MOST 1048576: true; the input reads as it did. -/
def bidAsksUptoRow : OpenClaim := { program := "ytppniggpdepabaa", sum := "35431da166033d5d8b521a94a05b9c1dcc7e1e41b61cbf17045887022982eba4", func := "narrows/narrowslaw08.BidAsks", spec := "bidAsks", unfollowed := true, recurses := true, apart := false, narrowed := true }
def BidAsksUptoSaid : Prop := bidAsksUptoRow.holds Try.pinned (OpenSpec.upto bidAsksSpec)

/-- 'narrowslaw08.BidTells', WHERE WHAT IT READS IS OF BULK AT MOST 1048576: true; the input reads as it did. -/
def bidTellsUptoRow : OpenClaim := { program := "ytppniggpdepabaa", sum := "35431da166033d5d8b521a94a05b9c1dcc7e1e41b61cbf17045887022982eba4", func := "narrows/narrowslaw08.BidTells", spec := "bidTells", unfollowed := true, recurses := true, apart := false, narrowed := true }
def BidTellsUptoSaid : Prop := bidTellsUptoRow.holds Try.pinned (OpenSpec.upto bidTellsSpec)

/-- 'narrowslaw08.BidBack', WHERE WHAT IT READS IS OF BULK AT MOST 1048576: true; the input reads as it did. -/
def bidBackUptoRow : OpenClaim := { program := "ytppniggpdepabaa", sum := "35431da166033d5d8b521a94a05b9c1dcc7e1e41b61cbf17045887022982eba4", func := "narrows/narrowslaw08.BidBack", spec := "bidBack", unfollowed := true, recurses := true, apart := false, narrowed := true }
def BidBackUptoSaid : Prop := bidBackUptoRow.holds Try.pinned (OpenSpec.upto bidBackSpec)

/-- 'narrowslaw10.MailTells', WHERE WHAT IT READS IS OF BULK AT MOST 1048576: true; the input reads as it did. -/
def mailTellsUptoRow : OpenClaim := { program := "ytppniggpdepabaa", sum := "35431da166033d5d8b521a94a05b9c1dcc7e1e41b61cbf17045887022982eba4", func := "narrows/narrowslaw10.MailTells", spec := "mailTells", unfollowed := true, recurses := true, apart := false, narrowed := true }
def MailTellsUptoSaid : Prop := mailTellsUptoRow.holds Try.pinned (OpenSpec.upto mailTellsSpec)

/-- 'narrowslaw10.MailBack', WHERE WHAT IT READS IS OF BULK AT MOST 1048576: true; the input reads as it did. -/
def mailBackUptoRow : OpenClaim := { program := "ytppniggpdepabaa", sum := "35431da166033d5d8b521a94a05b9c1dcc7e1e41b61cbf17045887022982eba4", func := "narrows/narrowslaw10.MailBack", spec := "mailBack", unfollowed := true, recurses := true, apart := false, narrowed := true }
def MailBackUptoSaid : Prop := mailBackUptoRow.holds Try.pinned (OpenSpec.upto mailBackSpec)

/-- 'narrowslaw10.MailCuts', WHERE WHAT IT READS IS OF BULK AT MOST 1048576: true; the input reads as it did. -/
def mailCutsUptoRow : OpenClaim := { program := "ytppniggpdepabaa", sum := "35431da166033d5d8b521a94a05b9c1dcc7e1e41b61cbf17045887022982eba4", func := "narrows/narrowslaw10.MailCuts", spec := "mailCuts", unfollowed := true, recurses := true, apart := false, narrowed := true }
def MailCutsUptoSaid : Prop := mailCutsUptoRow.holds Try.pinned (OpenSpec.upto mailCutsSpec)

end Rows
end Go.Proofs.Ytppniggpdepabaa
