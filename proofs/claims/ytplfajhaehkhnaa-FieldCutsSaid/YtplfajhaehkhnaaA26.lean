/-
  ABSTRACT MACHINE, 26: a law's row.
-/
import Derived.Test.YtplfajhaehkhnaaA25
namespace Go.Proofs.Ytplfajhaehkhnaa
open Go Go.RowKit Go.ChangeShapes Go.WideShapes Go.ChangeAt

/-- WHAT A LAW's ROW ASKS BEHIND THE CALL: true; the arguments read as they did. -/
theorem post_law {H : Type} {enc : TypeId × Value → H} {P : Program} {f : Func} {s : ChangeSpec} {fresh handsOn again : Bool} {W W' : World} {args : Array Value} {ds gs : List (DataW H)} {before : List MemPlace} {tb : TypeId}
    (hW : DataW.Whole enc P f.params.toList s.vars false W args.toList ds gs before) (hv : s.vars = []) (h1 : (s.fn H (ds ++ gs)).results = [.lit (.bool true)]) (h2 : (s.fn H (ds ++ gs)).args = ds) (h3 : (s.fn H (ds ++ gs)).vars = [])
    (hl : laidOutB P = true) (hr : ∀ t ∈ f.params.toList, P.readableRec t = true ∧ t < P.types.size) (hb : Below W.heap.size W W') (hres : f.resultTypes = #[tb]) (hub : P.underlying tb = some .bool) :
    s.post enc P f false fresh handsOn again W args (.bool true) W' := by
  have hlt := hW.lt
  have hW0 := hW
  obtain ⟨p, q, hA, hV, rfl, hz, hn⟩ := hW
  rw [hv] at hV
  obtain ⟨rfl, rfl⟩ := trodVars_none hV
  simp only [List.append_nil] at hlt hz hW0
  have hargs0 := fun (sp : Nat → Bool) (hsp : ∀ x ∈ p, sp x.block = true) => below_trodAll hl hb sp hr (fun x hx => ⟨hlt x hx, hsp x hx⟩) hA
  have hrs : ∀ (b : Nat) (sp : Nat → Bool) (hd : Bool), DataW.TrodAll enc P W' b sp hd f.resultTypes.toList ((Value.bool true).resultList f.resultTypes.size) (s.fn H (ds ++ [])).results [] := by
    intro b sp hd
    rw [h1, hres]
    exact ⟨[], [], ⟨1, by simp [DataW.trod, hub, Value.cells]⟩, rfl, rfl⟩
  have hold : ∀ x ∈ p, (fun b => decide (b < W.heap.size)) x.block = true := fun x hx => by simpa using hlt x hx
  refine ⟨ds, [], p, [], p, [], hW0, hrs _ _ _, by rw [h2]; exact hargs0 _ hold, by rw [h3, hv]; trivial, hb.frame _, fun _ => ?_⟩
  refine ⟨ok_one hres rfl (by simp [Value.okWide, hub, Cell.okWide, Cell.ok]), _, _, ([] ++ p) ++ [], ⟨[] ++ p, [], trodAll_append (hargs0 _ (fun _ _ => rfl)) (hrs _ _ _), by rw [hv]; exact (show DataW.TrodVars enc P W' (fun _ => true) [] [] [] from rfl), rfl, ?_, fun h => by simp at h⟩, ?_⟩
  · intro b off hp
    have hp' : MemPlace.cell b off ∈ p := by simpa using hp
    have := hz b off hp'
    unfold World.frozen? at this ⊢
    rw [hb.block b (hlt _ hp')]
    exact this
  · intro x hx _
    simpa using hx

end Go.Proofs.Ytplfajhaehkhnaa
