/-
  ABSTRACT MACHINE, 23: from a contract to what a row asks.
-/
import Derived.Test.YtplfajhaehkhnaaA22
namespace Go.Proofs.Ytplfajhaehkhnaa
open Go

/-- Read-only for a law: every block of cells that lay when it was called. -/
def CellsAt (w : World) (k : Nat) : Prop := ∃ (c : Array Value) (e : TypeId) (f : Nat × Nat), w.heap[k]? = some (Obj.cells c e f)

theorem law_start (w : World) : HRel (callCtx w ⟨0, [], false⟩ (CellsAt w) []) (CellsAt w) [] ⟨0, [], false⟩ w where
  os := rfl
  tape := rfl
  output := rfl
  size := Nat.le_refl _
  keep _ _ _ := rfl
  shape _ c _ f h := ⟨c, f, h, rfl⟩
  r0 _ h := h
  rO _ h := .inl h
  rlt k h := by obtain ⟨c, e, f, h1⟩ := h; exact (Array.getElem?_eq_some_iff.1 h1).1
  rc _ h := h
  mu _ _ h := h
  len := rfl
  live β blk hg := by simp [Hp.get, Hp.look] at hg
  inj β β' blk blk' b b' o o' hg := by simp [Hp.get, Hp.look] at hg
  inv := trivial

/-- A LAW HOLDS: it returns true; the world is as it was, but for what was laid anew. -/
theorem law_calls {P : Program} {f : FuncId} {as : List AVal} {b : Bool} (hs : Pur P f as (.r (.bool b))) {w : World} {cargs : List Value} (ha : ARels (CellsAt w) [] w as cargs) :
    Calls P f ⟨cargs⟩ w fun e w' => e = .returned (.bool b) ∧ w'.os = w.os ∧ w'.tape = w.tape ∧ w'.output = w.output ∧ w.heap.size ≤ w'.heap.size ∧ ∀ k, k < w.heap.size → w'.heap[k]? = w.heap[k]? := by
  refine (hs.run (CellsAt w) [] w cargs (law_start w) ha).mono ?_
  rintro e w' ⟨v, rfl, R', μ', av, h', h1, h2, rfl⟩
  simp only [ARel, RRel] at h1
  subst h1
  exact ⟨rfl, h2.os, h2.tape, h2.output, h2.size, fun k hk => h2.keep k hk (fun ho => by
    obtain ⟨β, blk, o, hg, _⟩ := ho
    simp [Hp.get, Hp.look] at hg)⟩

end Go.Proofs.Ytplfajhaehkhnaa
