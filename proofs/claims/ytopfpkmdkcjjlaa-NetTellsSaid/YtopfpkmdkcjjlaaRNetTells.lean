/-
  THE LAW NetTells: for all mail, texts and numbers, it returns true, and what it was handed is as it was. No condition.
-/
import Derived.Test.YtopfpkmdkcjjlaaLNet4
import Derived.Test.YtopfpkmdkcjjlaaMD
import Derived.Test.YtopfpkmdkcjjlaaRows
import Derived.WalkKit
import Derived.ProofKit
import Derived.OpenShut
import Derived.JoinedOf
import Derived.SizedLaws
namespace Go.Proofs.Ytopfpkmdkcjjlaa.netTells
open Go Go.ChangeShapes Go.WideShapes Go.ChangeAt Go.RowKit
theorem own : ownKnob Try.prog.godebug = none := by kernel_rfl
theorem laidOut : laidOutB Try.prog = true := by kernel_rfl
def types : List TypeId := [25, 29, 22, 27, 5, 3]
theorem good : goodG T types = true := by kernel_rfl
theorem parms : Try.f6.params.toList = [25, 3, 22, 3] := rfl
theorem rec3 : Try.prog.readableRec 3 = true ∧ 3 < Try.prog.types.size := ⟨by kernel_rfl, of_decide_eq_true (by kernel_rfl)⟩
theorem rec22 : Try.prog.readableRec 22 = true ∧ 22 < Try.prog.types.size := ⟨by kernel_rfl, of_decide_eq_true (by kernel_rfl)⟩
theorem rec25 : Try.prog.readableRec 25 = true ∧ 25 < Try.prog.types.size := ⟨by kernel_rfl, of_decide_eq_true (by kernel_rfl)⟩
theorem texts_of {fuel : Nat} : ∀ (parts : List (List RVal)), (∀ p ∈ parts, Fits T fuel 27 p) → ∃ L : List (List UInt8), parts.flatten = L.map .bs ∧ L.length = parts.length ∧ ∀ p ∈ L, p.length ≤ 140737488355328
  | [], _ => ⟨[], rfl, rfl, fun _ h => absurd h (by simp)⟩
  | p :: ps, h => by
    obtain ⟨L, h1, h2, h3⟩ := texts_of ps (fun q hq => h q (by simp [hq]))
    obtain ⟨s, rfl, _, hs⟩ := (h p (by simp)).bytes rfl rfl
    refine ⟨s :: L, by rw [List.flatten_cons, h1]; rfl, by simp [h2], fun q hq => ?_⟩
    rcases List.mem_cons.1 hq with rfl | hq
    · simp only [reachBytes] at hs; omega
    · exact h3 q hq
theorem textl_of {a : AVal} (h : FitsA T 22 a) : ∃ L : List (List UInt8), a = roL L ∧ (∀ p ∈ L, p.length ≤ 140737488355328) ∧ L.length ≤ 140737488355328 := by
  obtain ⟨fuel, n, parts, rfl, hb, hl, hp⟩ := h.slice rfl rfl (by simp)
  obtain ⟨L, h2, h3, h4⟩ := texts_of parts (fun p hq => (hp p hq).2)
  rw [h2]
  obtain rfl : n = L.length := by omega
  exact ⟨L, rfl, h4, by simp only [reachBytes] at hb; omega⟩
theorem mail_ofs {fuel : Nat} {rs : List RVal} (hh : Fits T fuel 29 rs) : ∃ v : NmV, rs = nmC v ∧ okS v := by
  obtain ⟨fuel1, parts, rfl, p0, ps, rfl, h0, p1, ps, rfl, h1, rfl⟩ := hh.struct rfl
  obtain ⟨t, rfl, _⟩ := h0.int rfl
  obtain ⟨s, rfl, _, hs⟩ := h1.bytes rfl rfl
  exact ⟨⟨t, some s⟩, rfl, s, rfl, by simp only [reachBytes] at hs; omega⟩
theorem mails_of {fuel : Nat} : ∀ (parts : List (List RVal)), (∀ p ∈ parts, Fits T fuel 29 p) → ∃ L : List NmV, parts.flatten = nmsC L ∧ L.length = parts.length ∧ ∀ e ∈ L, okS e
  | [], _ => ⟨[], rfl, rfl, by simp⟩
  | p :: ps, h => by
    obtain ⟨L, h1, h2, h3⟩ := mails_of ps (fun q hq => h q (by simp [hq]))
    obtain ⟨s, rfl, hs⟩ := mail_ofs (h p (by simp))
    exact ⟨s :: L, by rw [List.flatten_cons, h1]; rfl, by simp [h2], by intro e he; rcases List.mem_cons.1 he with q | q; rw [q]; exact hs; exact h3 e q⟩
theorem maill_of {a : AVal} (h : FitsA T 25 a) : ∃ L : List NmV, a = roN L ∧ (∀ e ∈ L, okS e) ∧ L.length ≤ 140737488355328 := by
  obtain ⟨fuel, n, parts, rfl, hb, hl, hp⟩ := h.slice rfl rfl (by simp)
  obtain ⟨L, h2, h3, h4⟩ := mails_of parts (fun p hq => (hp p hq).2)
  rw [h2]
  obtain rfl : n = L.length := by omega
  exact ⟨L, rfl, h4, by simp only [reachBytes] at hb; omega⟩
theorem core (vs : List AVal) (h : FitsAs T [25, 3, 22, 3] vs) : Pur Try.prog 6 vs (.r (.bool true)) := by
  obtain ⟨a0, vs1, rfl, h0, h⟩ := h.cons
  obtain ⟨a1, vs1, rfl, h1, h⟩ := h.cons
  obtain ⟨a2, vs1, rfl, h2, h⟩ := h.cons
  obtain ⟨a3, vs1, rfl, h3, h⟩ := h.cons
  obtain rfl := h.nil
  obtain ⟨L, rfl, hok, hLb⟩ := maill_of h0
  obtain ⟨n, rfl, hn⟩ := h1.int rfl
  obtain ⟨D, rfl, hD, hl⟩ := textl_of h2
  obtain ⟨k, rfl, hk⟩ := h3.int rfl
  exact w_NetTells L hok hLb n D hD hl k
theorem spec_fn {H : Type} : ∀ ds : List (DataW H), ds.length = Try.f6.params.toList.length → (Rows.netTellsSpec.fn H ds).results = [.lit (.bool true)] ∧ (Rows.netTellsSpec.fn H ds).args = ds ∧ (Rows.netTellsSpec.fn H ds).vars = [] := by
  rw [parms]
  intro ds h
  match ds, h with
  | [_, _, _, _], _ => exact ⟨rfl, rfl, rfl⟩
set_option maxRecDepth 100000 in
theorem contract (H : Type) (enc : TypeId × Value → H) (W : World) (base : Nat) (args : Array Value) (ds gs : List (DataW H)) (before : List MemPlace)
    (hval : ∀ (j : Nat) t v, Try.f6.params[j]? = some t → args[j]? = some v → Value.okWide Try.prog W .any base t v)
    (hW : DataW.Whole enc Try.prog Try.f6.params.toList Rows.netTellsSpec.vars false W args.toList ds gs before)
    (hsz : (DataW.weightsEach Try.prog (Try.f6.params.toList ++ Rows.netTellsSpec.plain.varTypes Try.prog) (ds ++ gs)).all (· ≤ reachBytes) = true) :
    Calls Try.prog 6 args W fun e W' => ∃ v, e = .returned v ∧ Rows.netTellsSpec.post enc Try.prog Try.f6 false true false false W args v W' :=
  law_contract tOk good (by rw [parms]; decide) (by rw [parms]; exact core) rfl spec_fn laidOut
    (by rw [parms]; intro t ht; simp only [List.mem_cons, List.not_mem_nil, or_false] at ht; rcases ht with rfl | rfl | rfl | rfl <;> first | exact rec3 | exact rec22 | exact rec25) rfl Try.underlying4 W base args ds gs before hval hW hsz
set_option maxRecDepth 100000 in
theorem lifted (os : Os) (started : os.Started) (H : Type) (enc : TypeId × Value → H) :
    ReturnsInHanded {} Try.checked os 6 .any (Rows.netTellsSpec.pre6 enc Try.prog Try.f6 [] false) (Rows.netTellsSpec.post enc Try.prog Try.f6 false true false false) := by
  refine returnsInHanded_of_change_sized (C := Try.checked) own started (by kernel_rfl) Try.func6
    (ChangeSpec.witness6 (enc := enc) (C := Try.checked) (s := Rows.netTellsSpec) false ⟨#[], #[.slice none 0 0, .int .i64 0, .slice none 0 0, .int .i64 0], []⟩ 8 (by kernel_rfl) (by kernel_rfl) (by kernel_rfl) (by kernel_rfl)) ?_
  intro W base args ds gs before hval hW _ hsz _
  exact contract H enc W base args ds gs before hval hW hsz
theorem proved : Rows.NetTellsSaid :=
  OpenClaim.holds_of_wide 6 Try.f6 rfl rfl rfl rfl rfl rfl rfl ⟨rfl, rfl, rfl, rfl, rfl⟩ rfl rfl rfl rfl rfl (by kernel_rfl) Try.func6 (by kernel_rfl)
    (of_decide_eq_true (by kernel_rfl)) (by unfold Func.isWrapper; first | (rw [if_pos (by decide +kernel)]; kernel_rfl) | (rw [if_neg (by decide +kernel)]; exact ⟨rfl, rfl⟩))
    (fun os started H enc _ => lifted os started H enc)
end Go.Proofs.Ytopfpkmdkcjjlaa.netTells

