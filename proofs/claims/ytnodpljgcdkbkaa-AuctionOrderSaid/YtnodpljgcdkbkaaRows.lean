/-
  No cell of these rows narrows 'for every input' (looked for: loops, veiled, ifaces, maps, wideKeys, modest, calm, conditions, laid).
  DERIVED. THE GIVEN ROWS OF THIS SEAT. 7 by the template 'for every input the law returns true; each argument reads behind the call as it read before'; 0 by the template 'total and deterministic' (their statements: YtnodpljgcdkbkaaTotals.lean).
  GIVEN WITH THE SEED: the statements are not yours to turn. If you find one false, say at which input.
  Laid BY PROGRAM, IN A SANDBOX (cutbox-rows.mjs): the forced cells as the released guide's own fill.sh prints them over the translation 885e10111c489d8e… (all of the seat's roots in one cut). By AI agents, Wed Nov 11 2026. No macro, syntax, notation, axiom, sorry.
-/
import Derived.Test.YtnodpljgcdkbkaaChecked
import GoSem.Claim
import GoSem.ClaimJoined
import GoSem.ClaimMapViews
import Derived.JoinedTies
import Derived.KernelRfl
namespace Go.Proofs.Ytnodpljgcdkbkaa
/- THE CELL 'sum', in the pinned program and in every row, IS THE sha256 OF THE DUMP (.gsa) THAT YtnodpljgcdkbkaaProg.lean LOADS. Nothing in Lean hashes anything: it is a label: what it is worth is what the hold of that sum in a sandbox is worth. -/
noncomputable def Try.pinned : Pinned := { name := "ytnodpljgcdkbkaa", sum := "885e10111c489d8e6bfe2fb983251a9e88ad0029c4c0c97f59742cea0b85d8a6", checked := Try.checked }
namespace Rows
def none {H : Type} : Left H := { results := [], args := [] }

/-- 'narrowslaw10.MailCuts': WHATEVER THE INPUT: true; the input reads as it did. -/
def mailCutsSpec : ChangeSpec := { name := "mailCuts", fn := fun _ => fun
  | [d1, d2, d3] => { results := [.lit (.bool true)], args := [d1, d2, d3] }
  | _ => none }
def mailCutsRow : OpenClaim := { program := "ytnodpljgcdkbkaa", sum := "885e10111c489d8e6bfe2fb983251a9e88ad0029c4c0c97f59742cea0b85d8a6", func := "narrows/narrowslaw10.MailCuts", spec := "mailCuts", unfollowed := true, recurses := true, apart := false }
def MailCutsSaid : Prop := mailCutsRow.holds Try.pinned (OpenSpec.ofChange mailCutsSpec)

/-- ITS FALSE NEIGHBOUR: 'it returns false'. Refute it at one input. -/
def mailCutsWrong : ChangeSpec := { name := "mailCuts", fn := fun _ => fun
  | [d1, d2, d3] => { results := [.lit (.bool false)], args := [d1, d2, d3] }
  | _ => none }
def MailCutsWrongFalsely : Prop := mailCutsRow.holds Try.pinned (OpenSpec.ofChange mailCutsWrong)

/-- 'narrowslaw08.BidTells': WHATEVER THE INPUT: true; the input reads as it did. -/
def bidTellsSpec : ChangeSpec := { name := "bidTells", fn := fun _ => fun
  | [d1, d2, d3] => { results := [.lit (.bool true)], args := [d1, d2, d3] }
  | _ => none }
def bidTellsRow : OpenClaim := { program := "ytnodpljgcdkbkaa", sum := "885e10111c489d8e6bfe2fb983251a9e88ad0029c4c0c97f59742cea0b85d8a6", func := "narrows/narrowslaw08.BidTells", spec := "bidTells", unfollowed := true, recurses := true, apart := false }
def BidTellsSaid : Prop := bidTellsRow.holds Try.pinned (OpenSpec.ofChange bidTellsSpec)

/-- ITS FALSE NEIGHBOUR: 'it returns false'. Refute it at one input. -/
def bidTellsWrong : ChangeSpec := { name := "bidTells", fn := fun _ => fun
  | [d1, d2, d3] => { results := [.lit (.bool false)], args := [d1, d2, d3] }
  | _ => none }
def BidTellsWrongFalsely : Prop := bidTellsRow.holds Try.pinned (OpenSpec.ofChange bidTellsWrong)

/-- 'narrowslaw35.ForgeMeets': WHATEVER THE INPUT: true; the input reads as it did. -/
def forgeMeetsSpec : ChangeSpec := { name := "forgeMeets", fn := fun _ => fun
  | [d1, d2, d3] => { results := [.lit (.bool true)], args := [d1, d2, d3] }
  | _ => none }
def forgeMeetsRow : OpenClaim := { program := "ytnodpljgcdkbkaa", sum := "885e10111c489d8e6bfe2fb983251a9e88ad0029c4c0c97f59742cea0b85d8a6", func := "narrows/narrowslaw35.ForgeMeets", spec := "forgeMeets", unfollowed := true, recurses := true, apart := false }
def ForgeMeetsSaid : Prop := forgeMeetsRow.holds Try.pinned (OpenSpec.ofChange forgeMeetsSpec)

/-- ITS FALSE NEIGHBOUR: 'it returns false'. Refute it at one input. -/
def forgeMeetsWrong : ChangeSpec := { name := "forgeMeets", fn := fun _ => fun
  | [d1, d2, d3] => { results := [.lit (.bool false)], args := [d1, d2, d3] }
  | _ => none }
def ForgeMeetsWrongFalsely : Prop := forgeMeetsRow.holds Try.pinned (OpenSpec.ofChange forgeMeetsWrong)

/-- 'narrowslaw35.ForgeOwn': WHATEVER THE INPUT: true; the input reads as it did. -/
def forgeOwnSpec : ChangeSpec := { name := "forgeOwn", fn := fun _ => fun
  | [d1, d2, d3] => { results := [.lit (.bool true)], args := [d1, d2, d3] }
  | _ => none }
def forgeOwnRow : OpenClaim := { program := "ytnodpljgcdkbkaa", sum := "885e10111c489d8e6bfe2fb983251a9e88ad0029c4c0c97f59742cea0b85d8a6", func := "narrows/narrowslaw35.ForgeOwn", spec := "forgeOwn", unfollowed := true, recurses := true, apart := false }
def ForgeOwnSaid : Prop := forgeOwnRow.holds Try.pinned (OpenSpec.ofChange forgeOwnSpec)

/-- ITS FALSE NEIGHBOUR: 'it returns false'. Refute it at one input. -/
def forgeOwnWrong : ChangeSpec := { name := "forgeOwn", fn := fun _ => fun
  | [d1, d2, d3] => { results := [.lit (.bool false)], args := [d1, d2, d3] }
  | _ => none }
def ForgeOwnWrongFalsely : Prop := forgeOwnRow.holds Try.pinned (OpenSpec.ofChange forgeOwnWrong)

/-- 'narrowslaw08.BidBack': WHATEVER THE INPUT: true; the input reads as it did. -/
def bidBackSpec : ChangeSpec := { name := "bidBack", fn := fun _ => fun
  | [d1, d2] => { results := [.lit (.bool true)], args := [d1, d2] }
  | _ => none }
def bidBackRow : OpenClaim := { program := "ytnodpljgcdkbkaa", sum := "885e10111c489d8e6bfe2fb983251a9e88ad0029c4c0c97f59742cea0b85d8a6", func := "narrows/narrowslaw08.BidBack", spec := "bidBack", unfollowed := true, recurses := true, apart := false }
def BidBackSaid : Prop := bidBackRow.holds Try.pinned (OpenSpec.ofChange bidBackSpec)

/-- ITS FALSE NEIGHBOUR: 'it returns false'. Refute it at one input. -/
def bidBackWrong : ChangeSpec := { name := "bidBack", fn := fun _ => fun
  | [d1, d2] => { results := [.lit (.bool false)], args := [d1, d2] }
  | _ => none }
def BidBackWrongFalsely : Prop := bidBackRow.holds Try.pinned (OpenSpec.ofChange bidBackWrong)

/-- 'narrowslaw19.AuctionNobody': WHATEVER THE INPUT: true; the input reads as it did. -/
def auctionNobodySpec : ChangeSpec := { name := "auctionNobody", fn := fun _ => fun
  | [d1, d2] => { results := [.lit (.bool true)], args := [d1, d2] }
  | _ => none }
def auctionNobodyRow : OpenClaim := { program := "ytnodpljgcdkbkaa", sum := "885e10111c489d8e6bfe2fb983251a9e88ad0029c4c0c97f59742cea0b85d8a6", func := "narrows/narrowslaw19.AuctionNobody", spec := "auctionNobody", unfollowed := true, recurses := true, apart := false }
def AuctionNobodySaid : Prop := auctionNobodyRow.holds Try.pinned (OpenSpec.ofChange auctionNobodySpec)

/-- ITS FALSE NEIGHBOUR: 'it returns false'. Refute it at one input. -/
def auctionNobodyWrong : ChangeSpec := { name := "auctionNobody", fn := fun _ => fun
  | [d1, d2] => { results := [.lit (.bool false)], args := [d1, d2] }
  | _ => none }
def AuctionNobodyWrongFalsely : Prop := auctionNobodyRow.holds Try.pinned (OpenSpec.ofChange auctionNobodyWrong)

/-- 'narrowslaw19.AuctionOrder': WHATEVER THE INPUT: true; the input reads as it did. -/
def auctionOrderSpec : ChangeSpec := { name := "auctionOrder", fn := fun _ => fun
  | [d1, d2, d3] => { results := [.lit (.bool true)], args := [d1, d2, d3] }
  | _ => none }
def auctionOrderRow : OpenClaim := { program := "ytnodpljgcdkbkaa", sum := "885e10111c489d8e6bfe2fb983251a9e88ad0029c4c0c97f59742cea0b85d8a6", func := "narrows/narrowslaw19.AuctionOrder", spec := "auctionOrder", unfollowed := true, recurses := true, apart := false }
def AuctionOrderSaid : Prop := auctionOrderRow.holds Try.pinned (OpenSpec.ofChange auctionOrderSpec)

/-- ITS FALSE NEIGHBOUR: 'it returns false'. Refute it at one input. -/
def auctionOrderWrong : ChangeSpec := { name := "auctionOrder", fn := fun _ => fun
  | [d1, d2, d3] => { results := [.lit (.bool false)], args := [d1, d2, d3] }
  | _ => none }
def AuctionOrderWrongFalsely : Prop := auctionOrderRow.holds Try.pinned (OpenSpec.ofChange auctionOrderWrong)

/- THE SECOND FORM. 'bulk': how many values and letters a reading holds, each counted each time it is reached (what is shared counts as often as it is met; a slice's spare places count too). A statement '..UptoSaid' is the law's where the arguments, and the package variables that the reading takes, are together of bulk at most 1048576: NARROWER than '..Said'. Prove '..Said' where nothing that the law and all that it calls make is longer than what came in: it says more and counts as full. Else prove '..UptoSaid'. A law counts once. -/
mutual
def uptoBulk {H : Type} : DataW H → Nat
  | .lit (.string bytes) => bytes.length + 1
  | .lit _ => 1
  | .nil => 1
  | .ptr d => uptoBulk d + 1
  | .slice elems spare => uptoBulkAll elems + uptoBulkAll spare + 1
  | .agg parts => uptoBulkAll parts + 1
  | .iface _ d => uptoBulk d + 1
  | .map entries => uptoBulkEntries entries + 1
  | .held _ => 1
def uptoBulkAll {H : Type} : List (DataW H) → Nat
  | [] => 0
  | d :: r => uptoBulk d + uptoBulkAll r
def uptoBulkEntries {H : Type} : List (Lit × DataW H) → Nat
  | [] => 0
  | x :: r => uptoBulkEntry x + uptoBulkEntries r
def uptoBulkEntry {H : Type} : Lit × DataW H → Nat
  | (.string bytes, d) => bytes.length + uptoBulk d + 1
  | (_, d) => uptoBulk d + 1
 end
def uptoSmall : (H : Type) → List (DataW H) → Bool := fun _ ds => decide (uptoBulkAll ds ≤ 1048576)
def OpenSpec.upto (s : _root_.Go.ChangeSpec) : _root_.Go.OpenSpec := { _root_.Go.OpenSpec.ofChange s with cond := some uptoSmall }

/-- 'narrowslaw10.MailCuts', WHERE WHAT IT READS IS OF BULK AT MOST 1048576: true; the input reads as it did. -/
def mailCutsUptoRow : OpenClaim := { program := "ytnodpljgcdkbkaa", sum := "885e10111c489d8e6bfe2fb983251a9e88ad0029c4c0c97f59742cea0b85d8a6", func := "narrows/narrowslaw10.MailCuts", spec := "mailCuts", unfollowed := true, recurses := true, apart := false, narrowed := true }
def MailCutsUptoSaid : Prop := mailCutsUptoRow.holds Try.pinned (OpenSpec.upto mailCutsSpec)

/-- 'narrowslaw08.BidTells', WHERE WHAT IT READS IS OF BULK AT MOST 1048576: true; the input reads as it did. -/
def bidTellsUptoRow : OpenClaim := { program := "ytnodpljgcdkbkaa", sum := "885e10111c489d8e6bfe2fb983251a9e88ad0029c4c0c97f59742cea0b85d8a6", func := "narrows/narrowslaw08.BidTells", spec := "bidTells", unfollowed := true, recurses := true, apart := false, narrowed := true }
def BidTellsUptoSaid : Prop := bidTellsUptoRow.holds Try.pinned (OpenSpec.upto bidTellsSpec)

/-- 'narrowslaw35.ForgeMeets', WHERE WHAT IT READS IS OF BULK AT MOST 1048576: true; the input reads as it did. -/
def forgeMeetsUptoRow : OpenClaim := { program := "ytnodpljgcdkbkaa", sum := "885e10111c489d8e6bfe2fb983251a9e88ad0029c4c0c97f59742cea0b85d8a6", func := "narrows/narrowslaw35.ForgeMeets", spec := "forgeMeets", unfollowed := true, recurses := true, apart := false, narrowed := true }
def ForgeMeetsUptoSaid : Prop := forgeMeetsUptoRow.holds Try.pinned (OpenSpec.upto forgeMeetsSpec)

/-- 'narrowslaw35.ForgeOwn', WHERE WHAT IT READS IS OF BULK AT MOST 1048576: true; the input reads as it did. -/
def forgeOwnUptoRow : OpenClaim := { program := "ytnodpljgcdkbkaa", sum := "885e10111c489d8e6bfe2fb983251a9e88ad0029c4c0c97f59742cea0b85d8a6", func := "narrows/narrowslaw35.ForgeOwn", spec := "forgeOwn", unfollowed := true, recurses := true, apart := false, narrowed := true }
def ForgeOwnUptoSaid : Prop := forgeOwnUptoRow.holds Try.pinned (OpenSpec.upto forgeOwnSpec)

/-- 'narrowslaw08.BidBack', WHERE WHAT IT READS IS OF BULK AT MOST 1048576: true; the input reads as it did. -/
def bidBackUptoRow : OpenClaim := { program := "ytnodpljgcdkbkaa", sum := "885e10111c489d8e6bfe2fb983251a9e88ad0029c4c0c97f59742cea0b85d8a6", func := "narrows/narrowslaw08.BidBack", spec := "bidBack", unfollowed := true, recurses := true, apart := false, narrowed := true }
def BidBackUptoSaid : Prop := bidBackUptoRow.holds Try.pinned (OpenSpec.upto bidBackSpec)

/-- 'narrowslaw19.AuctionNobody', WHERE WHAT IT READS IS OF BULK AT MOST 1048576: true; the input reads as it did. -/
def auctionNobodyUptoRow : OpenClaim := { program := "ytnodpljgcdkbkaa", sum := "885e10111c489d8e6bfe2fb983251a9e88ad0029c4c0c97f59742cea0b85d8a6", func := "narrows/narrowslaw19.AuctionNobody", spec := "auctionNobody", unfollowed := true, recurses := true, apart := false, narrowed := true }
def AuctionNobodyUptoSaid : Prop := auctionNobodyUptoRow.holds Try.pinned (OpenSpec.upto auctionNobodySpec)

/-- 'narrowslaw19.AuctionOrder', WHERE WHAT IT READS IS OF BULK AT MOST 1048576: true; the input reads as it did. -/
def auctionOrderUptoRow : OpenClaim := { program := "ytnodpljgcdkbkaa", sum := "885e10111c489d8e6bfe2fb983251a9e88ad0029c4c0c97f59742cea0b85d8a6", func := "narrows/narrowslaw19.AuctionOrder", spec := "auctionOrder", unfollowed := true, recurses := true, apart := false, narrowed := true }
def AuctionOrderUptoSaid : Prop := auctionOrderUptoRow.holds Try.pinned (OpenSpec.upto auctionOrderSpec)

end Rows
end Go.Proofs.Ytnodpljgcdkbkaa
