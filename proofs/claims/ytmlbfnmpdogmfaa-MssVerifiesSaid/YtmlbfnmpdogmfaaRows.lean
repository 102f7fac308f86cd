/-
  No cell of these rows narrows 'for every input' (looked for: loops, veiled, ifaces, maps, wideKeys, modest, calm, conditions, laid).
  DERIVED. THE GIVEN ROWS OF THIS SEAT. 7 by the template 'for every input the law returns true; each argument reads behind the call as it read before'; 0 by the template 'total and deterministic' (their statements: YtmlbfnmpdogmfaaTotals.lean).
  GIVEN WITH THE SEED: the statements are not yours to turn. If you find one false, say at which input.
  Laid BY PROGRAM, IN A SANDBOX (cutbox-rows.mjs): the forced cells as the released guide's own fill.sh prints them over the translation c68ae74d18b68bbf… (all of the seat's roots in one cut). By AI agents, Wed Nov 11 2026. No macro, syntax, notation, axiom, sorry.
-/
import Derived.Test.YtmlbfnmpdogmfaaChecked
import GoSem.Claim
import GoSem.ClaimJoined
import GoSem.ClaimMapViews
import Derived.JoinedTies
import Derived.KernelRfl
namespace Go.Proofs.Ytmlbfnmpdogmfaa
/- THE CELL 'sum', in the pinned program and in every row, IS THE sha256 OF THE DUMP (.gsa) THAT YtmlbfnmpdogmfaaProg.lean LOADS. Nothing in Lean hashes anything: it is a label: what it is worth is what the hold of that sum in a sandbox is worth. -/
noncomputable def Try.pinned : Pinned := { name := "ytmlbfnmpdogmfaa", sum := "c68ae74d18b68bbfc6d9b90f6914e8cf3fb583d5ca90c61307eafb3d71b759f7", checked := Try.checked }
namespace Rows
def none {H : Type} : Left H := { results := [], args := [] }

/-- 'narrowslaw04.OtsDigits': WHATEVER THE INPUT: true; the input reads as it did. -/
def otsDigitsSpec : ChangeSpec := { name := "otsDigits", fn := fun _ => fun
  | [d] => { results := [.lit (.bool true)], args := [d] }
  | _ => none }
def otsDigitsRow : OpenClaim := { program := "ytmlbfnmpdogmfaa", sum := "c68ae74d18b68bbfc6d9b90f6914e8cf3fb583d5ca90c61307eafb3d71b759f7", func := "narrows/narrowslaw04.OtsDigits", spec := "otsDigits", unfollowed := true, recurses := true, apart := false }
def OtsDigitsSaid : Prop := otsDigitsRow.holds Try.pinned (OpenSpec.ofChange otsDigitsSpec)

/-- ITS FALSE NEIGHBOUR: 'it returns false'. Refute it at one input. -/
def otsDigitsWrong : ChangeSpec := { name := "otsDigits", fn := fun _ => fun
  | [d] => { results := [.lit (.bool false)], args := [d] }
  | _ => none }
def OtsDigitsWrongFalsely : Prop := otsDigitsRow.holds Try.pinned (OpenSpec.ofChange otsDigitsWrong)

/-- 'narrowslaw04.OtsTells': WHATEVER THE INPUT: true; the input reads as it did. -/
def otsTellsSpec : ChangeSpec := { name := "otsTells", fn := fun _ => fun
  | [d1, d2, d3, d4] => { results := [.lit (.bool true)], args := [d1, d2, d3, d4] }
  | _ => none }
def otsTellsRow : OpenClaim := { program := "ytmlbfnmpdogmfaa", sum := "c68ae74d18b68bbfc6d9b90f6914e8cf3fb583d5ca90c61307eafb3d71b759f7", func := "narrows/narrowslaw04.OtsTells", spec := "otsTells", unfollowed := true, recurses := true, apart := false }
def OtsTellsSaid : Prop := otsTellsRow.holds Try.pinned (OpenSpec.ofChange otsTellsSpec)

/-- ITS FALSE NEIGHBOUR: 'it returns false'. Refute it at one input. -/
def otsTellsWrong : ChangeSpec := { name := "otsTells", fn := fun _ => fun
  | [d1, d2, d3, d4] => { results := [.lit (.bool false)], args := [d1, d2, d3, d4] }
  | _ => none }
def OtsTellsWrongFalsely : Prop := otsTellsRow.holds Try.pinned (OpenSpec.ofChange otsTellsWrong)

/-- 'narrowslaw04.OtsOpens': WHATEVER THE INPUT: true; the input reads as it did. -/
def otsOpensSpec : ChangeSpec := { name := "otsOpens", fn := fun _ => fun
  | [d1, d2] => { results := [.lit (.bool true)], args := [d1, d2] }
  | _ => none }
def otsOpensRow : OpenClaim := { program := "ytmlbfnmpdogmfaa", sum := "c68ae74d18b68bbfc6d9b90f6914e8cf3fb583d5ca90c61307eafb3d71b759f7", func := "narrows/narrowslaw04.OtsOpens", spec := "otsOpens", unfollowed := true, recurses := true, apart := false }
def OtsOpensSaid : Prop := otsOpensRow.holds Try.pinned (OpenSpec.ofChange otsOpensSpec)

/-- ITS FALSE NEIGHBOUR: 'it returns false'. Refute it at one input. -/
def otsOpensWrong : ChangeSpec := { name := "otsOpens", fn := fun _ => fun
  | [d1, d2] => { results := [.lit (.bool false)], args := [d1, d2] }
  | _ => none }
def OtsOpensWrongFalsely : Prop := otsOpensRow.holds Try.pinned (OpenSpec.ofChange otsOpensWrong)

/-- 'narrowslaw04.OtsBack': WHATEVER THE INPUT: true; the input reads as it did. -/
def otsBackSpec : ChangeSpec := { name := "otsBack", fn := fun _ => fun
  | [d1, d2, d3] => { results := [.lit (.bool true)], args := [d1, d2, d3] }
  | _ => none }
def otsBackRow : OpenClaim := { program := "ytmlbfnmpdogmfaa", sum := "c68ae74d18b68bbfc6d9b90f6914e8cf3fb583d5ca90c61307eafb3d71b759f7", func := "narrows/narrowslaw04.OtsBack", spec := "otsBack", unfollowed := true, recurses := true, apart := false }
def OtsBackSaid : Prop := otsBackRow.holds Try.pinned (OpenSpec.ofChange otsBackSpec)

/-- ITS FALSE NEIGHBOUR: 'it returns false'. Refute it at one input. -/
def otsBackWrong : ChangeSpec := { name := "otsBack", fn := fun _ => fun
  | [d1, d2, d3] => { results := [.lit (.bool false)], args := [d1, d2, d3] }
  | _ => none }
def OtsBackWrongFalsely : Prop := otsBackRow.holds Try.pinned (OpenSpec.ofChange otsBackWrong)

/-- 'narrowslaw05.MssTells': WHATEVER THE INPUT: true; the input reads as it did. -/
def mssTellsSpec : ChangeSpec := { name := "mssTells", fn := fun _ => fun
  | [d1, d2, d3] => { results := [.lit (.bool true)], args := [d1, d2, d3] }
  | _ => none }
def mssTellsRow : OpenClaim := { program := "ytmlbfnmpdogmfaa", sum := "c68ae74d18b68bbfc6d9b90f6914e8cf3fb583d5ca90c61307eafb3d71b759f7", func := "narrows/narrowslaw05.MssTells", spec := "mssTells", unfollowed := true, recurses := true, apart := false }
def MssTellsSaid : Prop := mssTellsRow.holds Try.pinned (OpenSpec.ofChange mssTellsSpec)

/-- ITS FALSE NEIGHBOUR: 'it returns false'. Refute it at one input. -/
def mssTellsWrong : ChangeSpec := { name := "mssTells", fn := fun _ => fun
  | [d1, d2, d3] => { results := [.lit (.bool false)], args := [d1, d2, d3] }
  | _ => none }
def MssTellsWrongFalsely : Prop := mssTellsRow.holds Try.pinned (OpenSpec.ofChange mssTellsWrong)

/-- 'narrowslaw05.MssVerifies': WHATEVER THE INPUT: true; the input reads as it did. -/
def mssVerifiesSpec : ChangeSpec := { name := "mssVerifies", fn := fun _ => fun
  | [d1, d2, d3] => { results := [.lit (.bool true)], args := [d1, d2, d3] }
  | _ => none }
def mssVerifiesRow : OpenClaim := { program := "ytmlbfnmpdogmfaa", sum := "c68ae74d18b68bbfc6d9b90f6914e8cf3fb583d5ca90c61307eafb3d71b759f7", func := "narrows/narrowslaw05.MssVerifies", spec := "mssVerifies", unfollowed := true, recurses := true, apart := false }
def MssVerifiesSaid : Prop := mssVerifiesRow.holds Try.pinned (OpenSpec.ofChange mssVerifiesSpec)

/-- ITS FALSE NEIGHBOUR: 'it returns false'. Refute it at one input. -/
def mssVerifiesWrong : ChangeSpec := { name := "mssVerifies", fn := fun _ => fun
  | [d1, d2, d3] => { results := [.lit (.bool false)], args := [d1, d2, d3] }
  | _ => none }
def MssVerifiesWrongFalsely : Prop := mssVerifiesRow.holds Try.pinned (OpenSpec.ofChange mssVerifiesWrong)

/-- 'narrowslaw05.MssBack': WHATEVER THE INPUT: true; the input reads as it did. -/
def mssBackSpec : ChangeSpec := { name := "mssBack", fn := fun _ => fun
  | [d1, d2] => { results := [.lit (.bool true)], args := [d1, d2] }
  | _ => none }
def mssBackRow : OpenClaim := { program := "ytmlbfnmpdogmfaa", sum := "c68ae74d18b68bbfc6d9b90f6914e8cf3fb583d5ca90c61307eafb3d71b759f7", func := "narrows/narrowslaw05.MssBack", spec := "mssBack", unfollowed := true, recurses := true, apart := false }
def MssBackSaid : Prop := mssBackRow.holds Try.pinned (OpenSpec.ofChange mssBackSpec)

/-- ITS FALSE NEIGHBOUR: 'it returns false'. Refute it at one input. -/
def mssBackWrong : ChangeSpec := { name := "mssBack", fn := fun _ => fun
  | [d1, d2] => { results := [.lit (.bool false)], args := [d1, d2] }
  | _ => none }
def MssBackWrongFalsely : Prop := mssBackRow.holds Try.pinned (OpenSpec.ofChange mssBackWrong)

/- THE SECOND FORM. 'bulk': how many values and letters a reading holds, each counted each time it is reached (what is shared counts as often as it is met; a slice's spare places count too). A statement '..UptoSaid' is the law's where the arguments, and the package variables that the reading takes, are together of bulk at most 1048576: NARROWER than '..Said'. Prove '..Said' where nothing that the law and all that it calls make is longer than what came in: it says more and counts as full. Else prove '..UptoSaid'. A law counts once. -/
mutual
def uptoBulk {H : Type} : DataW H → Nat
  | .lit (.string bytes) => bytes.length + 1
  | .lit _ => 1
  | .nil => 1
  | .ptr d => uptoBulk d + 1
  | .slice elems spare => uptoBulkAll elems + uptoBulkAll spare + 1
  | .agg parts => uptoBulkAll parts + 1
  | .iface _ d => uptoBulk d + 1
  | .map entries => uptoBulkEntries entries + 1
  | .held _ => 1
def uptoBulkAll {H : Type} : List (DataW H) → Nat
  | [] => 0
  | d :: r => uptoBulk d + uptoBulkAll r
def uptoBulkEntries {H : Type} : List (Lit × DataW H) → Nat
  | [] => 0
  | x :: r => uptoBulkEntry x + uptoBulkEntries r
def uptoBulkEntry {H : Type} : Lit × DataW H → Nat
  | (.string bytes, d) => bytes.length + uptoBulk d + 1
  | (_, d) => uptoBulk d + 1
 end
def uptoSmall : (H : Type) → List (DataW H) → Bool := fun _ ds => decide (uptoBulkAll ds ≤ 1048576)
def OpenSpec.upto (s : _root_.Go.ChangeSpec) : _root_.Go.OpenSpec := { _root_.Go.OpenSpec.ofChange s with cond := some uptoSmall }

/-- 'narrowslaw04.OtsDigits', WHERE WHAT IT READS IS OF BULK AT MOST 1048576: true; the input reads as it did. -/
def otsDigitsUptoRow : OpenClaim := { program := "ytmlbfnmpdogmfaa", sum := "c68ae74d18b68bbfc6d9b90f6914e8cf3fb583d5ca90c61307eafb3d71b759f7", func := "narrows/narrowslaw04.OtsDigits", spec := "otsDigits", unfollowed := true, recurses := true, apart := false, narrowed := true }
def OtsDigitsUptoSaid : Prop := otsDigitsUptoRow.holds Try.pinned (OpenSpec.upto otsDigitsSpec)

/-- 'narrowslaw04.OtsTells', WHERE WHAT IT READS IS OF BULK AT MOST 1048576: true; the input reads as it did. -/
def otsTellsUptoRow : OpenClaim := { program := "ytmlbfnmpdogmfaa", sum := "c68ae74d18b68bbfc6d9b90f6914e8cf3fb583d5ca90c61307eafb3d71b759f7", func := "narrows/narrowslaw04.OtsTells", spec := "otsTells", unfollowed := true, recurses := true, apart := false, narrowed := true }
def OtsTellsUptoSaid : Prop := otsTellsUptoRow.holds Try.pinned (OpenSpec.upto otsTellsSpec)

/-- 'narrowslaw04.OtsOpens', WHERE WHAT IT READS IS OF BULK AT MOST 1048576: true; the input reads as it did. -/
def otsOpensUptoRow : OpenClaim := { program := "ytmlbfnmpdogmfaa", sum := "c68ae74d18b68bbfc6d9b90f6914e8cf3fb583d5ca90c61307eafb3d71b759f7", func := "narrows/narrowslaw04.OtsOpens", spec := "otsOpens", unfollowed := true, recurses := true, apart := false, narrowed := true }
def OtsOpensUptoSaid : Prop := otsOpensUptoRow.holds Try.pinned (OpenSpec.upto otsOpensSpec)

/-- 'narrowslaw04.OtsBack', WHERE WHAT IT READS IS OF BULK AT MOST 1048576: true; the input reads as it did. -/
def otsBackUptoRow : OpenClaim := { program := "ytmlbfnmpdogmfaa", sum := "c68ae74d18b68bbfc6d9b90f6914e8cf3fb583d5ca90c61307eafb3d71b759f7", func := "narrows/narrowslaw04.OtsBack", spec := "otsBack", unfollowed := true, recurses := true, apart := false, narrowed := true }
def OtsBackUptoSaid : Prop := otsBackUptoRow.holds Try.pinned (OpenSpec.upto otsBackSpec)

/-- 'narrowslaw05.MssTells', WHERE WHAT IT READS IS OF BULK AT MOST 1048576: true; the input reads as it did. -/
def mssTellsUptoRow : OpenClaim := { program := "ytmlbfnmpdogmfaa", sum := "c68ae74d18b68bbfc6d9b90f6914e8cf3fb583d5ca90c61307eafb3d71b759f7", func := "narrows/narrowslaw05.MssTells", spec := "mssTells", unfollowed := true, recurses := true, apart := false, narrowed := true }
def MssTellsUptoSaid : Prop := mssTellsUptoRow.holds Try.pinned (OpenSpec.upto mssTellsSpec)

/-- 'narrowslaw05.MssVerifies', WHERE WHAT IT READS IS OF BULK AT MOST 1048576: true; the input reads as it did. -/
def mssVerifiesUptoRow : OpenClaim := { program := "ytmlbfnmpdogmfaa", sum := "c68ae74d18b68bbfc6d9b90f6914e8cf3fb583d5ca90c61307eafb3d71b759f7", func := "narrows/narrowslaw05.MssVerifies", spec := "mssVerifies", unfollowed := true, recurses := true, apart := false, narrowed := true }
def MssVerifiesUptoSaid : Prop := mssVerifiesUptoRow.holds Try.pinned (OpenSpec.upto mssVerifiesSpec)

/-- 'narrowslaw05.MssBack', WHERE WHAT IT READS IS OF BULK AT MOST 1048576: true; the input reads as it did. -/
def mssBackUptoRow : OpenClaim := { program := "ytmlbfnmpdogmfaa", sum := "c68ae74d18b68bbfc6d9b90f6914e8cf3fb583d5ca90c61307eafb3d71b759f7", func := "narrows/narrowslaw05.MssBack", spec := "mssBack", unfollowed := true, recurses := true, apart := false, narrowed := true }
def MssBackUptoSaid : Prop := mssBackUptoRow.holds Try.pinned (OpenSpec.upto mssBackSpec)

end Rows
end Go.Proofs.Ytmlbfnmpdogmfaa
