/-
  THE LAW JournalLasts, for arguments that hold at most 1048576 values and letters: for all texts and every number, it returns true, and what it was handed is as it was.
-/
import Derived.Test.YtopfpkmdkcjjlaaLJour2
import Derived.Test.YtopfpkmdkcjjlaaMD
import Derived.Test.YtopfpkmdkcjjlaaRows
import Derived.WalkKit
import Derived.ProofKit
import Derived.OpenShut
import Derived.JoinedOf
import Derived.SizedLaws
import Derived.JoinedCond
import Derived.Deep.CondSized
namespace Go.Proofs.Ytopfpkmdkcjjlaa.journalLasts
open Go Go.ChangeShapes Go.WideShapes Go.ChangeAt Go.RowKit

theorem own : ownKnob Try.prog.godebug = none := by kernel_rfl
theorem laidOut : laidOutB Try.prog = true := by kernel_rfl
def types : List TypeId := [22, 27, 5, 3]
theorem good : goodG T types = true := by kernel_rfl
theorem parms : Try.f11.params.toList = [22, 22, 3, 27] := rfl
theorem rec3 : Try.prog.readableRec 3 = true ∧ 3 < Try.prog.types.size := ⟨by kernel_rfl, of_decide_eq_true (by kernel_rfl)⟩
theorem rec22 : Try.prog.readableRec 22 = true ∧ 22 < Try.prog.types.size := ⟨by kernel_rfl, of_decide_eq_true (by kernel_rfl)⟩
theorem rec27 : Try.prog.readableRec 27 = true ∧ 27 < Try.prog.types.size := ⟨by kernel_rfl, of_decide_eq_true (by kernel_rfl)⟩

theorem texts_of {fuel : Nat} : ∀ (parts : List (List RVal)), (∀ p ∈ parts, Fits T fuel 27 p) → ∃ L : List (List UInt8), parts.flatten = L.map .bs ∧ L.length = parts.length
  | [], _ => ⟨[], rfl, rfl⟩
  | p :: ps, h => by
    obtain ⟨L, h1, h2⟩ := texts_of ps (fun q hq => h q (by simp [hq]))
    obtain ⟨s, rfl, _⟩ := (h p (by simp)).bytes rfl rfl
    exact ⟨s :: L, by rw [List.flatten_cons, h1]; rfl, by simp [h2]⟩
theorem rszs_bs : ∀ L : List (List UInt8), rszs (L.map .bs) = L.flatten.length
  | [] => rfl
  | s :: L => by simp only [List.map_cons, rszs, rsz, rszs_bs L, List.flatten_cons, List.length_append]
theorem list_of {a : AVal} (h : FitsA T 22 a) : ∃ L : List (List UInt8), a = roL L ∧ L.flatten.length ≤ asz a ∧ L.length ≤ asz a := by
  obtain ⟨fuel, n, parts, rfl, _, hl, hp⟩ := h.slice rfl rfl (by simp)
  obtain ⟨L, h2, h3⟩ := texts_of parts (fun p hq => (hp p hq).2)
  rw [h2]
  obtain rfl : n = L.length := by omega
  exact ⟨L, rfl, by simp only [asz, rsz, rszs_bs]; omega, by simp only [asz, rsz, rszs_bs]; omega⟩

theorem core (vs : List AVal) (h : FitsAs T [22, 22, 3, 27] vs) (hM : aszs vs ≤ 1048576) : Pur Try.prog 11 vs (.r (.bool true)) := by
  obtain ⟨a0, vs1, rfl, h0, h⟩ := h.cons
  obtain ⟨a1, vs1, rfl, h1, h⟩ := h.cons
  obtain ⟨a2, vs1, rfl, h2, h⟩ := h.cons
  obtain ⟨a3, vs1, rfl, h3, h⟩ := h.cons
  obtain rfl := h.nil
  obtain ⟨a, rfl, hza⟩ := list_of h0
  obtain ⟨b, rfl, hzb⟩ := list_of h1
  obtain ⟨n, rfl, _, hn⟩ := h2.int rfl
  obtain ⟨c, rfl, _, hc⟩ := h3.bytes rfl rfl
  simp only [aszs] at hM
  have hc2 : c.length ≤ asz (.r (.bs c)) := by simp [asz, rsz]
  exact w_JournalLasts a b n c (by rw [frms_len]; omega) (by rw [frms_len]; omega) (by omega)

theorem spec_fn {H : Type} : ∀ ds : List (DataW H), ds.length = Try.f11.params.toList.length → (Rows.journalLastsSpec.fn H ds).results = [.lit (.bool true)] ∧ (Rows.journalLastsSpec.fn H ds).args = ds ∧ (Rows.journalLastsSpec.fn H ds).vars = [] := by
  rw [parms]
  intro ds h
  match ds, h with
  | [_, _, _, _], _ => exact ⟨rfl, rfl, rfl⟩

mutual
theorem bulk_le {H : Type} : ∀ d : DataW H, dsz d ≤ Rows.uptoBulk d
  | .lit l => by cases l <;> simp [dsz, Rows.uptoBulk]
  | .nil => by simp [dsz]
  | .ptr d => by simp [dsz]
  | .slice elems spare => by
    have h1 := bulks_le elems
    simp only [dsz, Rows.uptoBulk]
    omega
  | .agg parts => by
    have h1 := bulks_le parts
    simp only [dsz, Rows.uptoBulk]
    omega
  | .iface _ d => by simp [dsz]
  | .map entries => by simp [dsz]
  | .held _ => by simp [dsz]
theorem bulks_le {H : Type} : ∀ ds : List (DataW H), dszs ds ≤ Rows.uptoBulkAll ds ∧ ds.length ≤ Rows.uptoBulkAll ds
  | [] => by simp [dszs]
  | d :: r => by
    have h1 := bulk_le d
    have h2 := bulks_le r
    have h3 : 1 ≤ Rows.uptoBulk d := by cases d <;> first | (simp only [Rows.uptoBulk]; omega) | (rename_i l; cases l <;> simp [Rows.uptoBulk])
    simp only [dszs, Rows.uptoBulkAll, List.length_cons]
    omega
end

set_option maxRecDepth 100000 in
theorem contract (H : Type) (enc : TypeId × Value → H) (W : World) (base : Nat) (args : Array Value) (ds gs : List (DataW H)) (before : List MemPlace)
    (hval : ∀ (j : Nat) t v, Try.f11.params[j]? = some t → args[j]? = some v → Value.okWide Try.prog W .any base t v)
    (hW : DataW.Whole enc Try.prog Try.f11.params.toList Rows.journalLastsSpec.vars false W args.toList ds gs before)
    (hsz : (DataW.weightsEach Try.prog (Try.f11.params.toList ++ Rows.journalLastsSpec.plain.varTypes Try.prog) (ds ++ gs)).all (· ≤ reachBytes) = true) (hk : Rows.uptoSmall H (ds ++ gs) = true) :
    Calls Try.prog 11 args W fun e W' => ∃ v, e = .returned v ∧ Rows.journalLastsSpec.post enc Try.prog Try.f11 false true false false W args v W' :=
  law_contractM (M := 1048576) tOk good (by rw [parms]; decide) (by rw [parms]; exact core) rfl spec_fn laidOut
    (by rw [parms]; intro t ht; simp only [List.mem_cons, List.not_mem_nil, or_false] at ht; rcases ht with rfl | rfl | rfl | rfl <;> first | exact rec3 | exact rec22 | exact rec27) rfl Try.underlying4 W base args ds gs before hval hW hsz (by
      have h1 : Rows.uptoBulkAll (ds ++ gs) ≤ 1048576 := of_decide_eq_true hk
      have h2 := (bulks_le (ds ++ gs)).1
      have h3 : ∀ (a b : List (DataW H)), dszs a ≤ dszs (a ++ b) := fun a b => by
        induction a with
        | nil => simp [dszs]
        | cons x a ih => simp only [List.cons_append, dszs]; omega
      have := h3 ds gs
      omega)

set_option maxRecDepth 100000 in
theorem lifted (os : Os) (started : os.Started) (H : Type) (enc : TypeId × Value → H) (F : Stop.Interp) :
    ReturnsInHanded {} Try.checked os 11 .any ((Rows.OpenSpec.upto Rows.journalLastsSpec).pre6 enc Try.prog Try.f11 [] false) (((Rows.OpenSpec.upto Rows.journalLastsSpec).at F).post enc Try.prog Try.f11 false true false false) := by
  refine returnsInHanded_of_cond_sized (C := Try.checked) (s := Rows.OpenSpec.upto Rows.journalLastsSpec) (k := Rows.uptoSmall) rfl own started (by kernel_rfl) Try.func11
    (OpenSpec.witness (enc := enc) (C := Try.checked) (s := Rows.OpenSpec.upto Rows.journalLastsSpec) (k := Rows.uptoSmall) rfl false ⟨#[], #[.slice none 0 0, .slice none 0 0, .int .i64 0, .slice none 0 0], []⟩ 8 (by kernel_rfl) (by kernel_rfl) (by kernel_rfl)
      (x := ([.nil, .nil, .lit (.int .i64 0), .nil], [], [])) (by kernel_rfl) rfl (by kernel_rfl)) ?_
  intro W base args ds gs before hval hW _ hk hsz _
  exact contract H enc W base args ds gs before hval hW hsz hk

theorem proved : Rows.JournalLastsUptoSaid :=
  OpenClaim.holds_of_cond 11 Try.f11 rfl rfl rfl rfl rfl rfl rfl ⟨rfl, rfl, rfl, rfl, rfl⟩ rfl rfl rfl rfl rfl (by kernel_rfl) Try.func11 (by kernel_rfl)
    (of_decide_eq_true (by kernel_rfl)) (by unfold Func.isWrapper; first | (rw [if_pos (by decide +kernel)]; kernel_rfl) | (rw [if_neg (by decide +kernel)]; exact ⟨rfl, rfl⟩))
    (fun os started H enc _ F => lifted os started H enc F)
end Go.Proofs.Ytopfpkmdkcjjlaa.journalLasts
