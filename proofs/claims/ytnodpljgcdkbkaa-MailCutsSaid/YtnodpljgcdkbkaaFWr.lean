/-
  WALKS: fields written, by the program and by the reference: the law FieldWrites. (Printed by gen.py out of w_fwr.py.)
-/
import Derived.Test.YtnodpljgcdkbkaaFRef
namespace Go.Proofs.Ytnodpljgcdkbkaa
open Go
set_option maxRecDepth 20000
set_option linter.unusedVariables false
set_option linter.unusedSimpArgs false

def fbytes (f : Fd) : List UInt8 := if f.kd = 0 then numL 6 f.n else if f.kd = 1 then txt f.t else wideL f.x0 f.x1 f.x2 f.x3
def fcode (f : Fd) : Int := if f.kd = 0 then (if badN f.n then 4 else 0) else if f.kd = 1 then (if f.t.length > 1024 then 5 else 0) else 0
def wstep (w : List UInt8 × Int) (f : Fd) : List UInt8 × Int := wput w (if fcode f ≠ 0 then [] else fbytes f) (fcode f)
def wf (L : List Fd) (i : Nat) : List UInt8 × Int := (L.take i).foldl wstep ([], 0)
theorem wf_next {L : List Fd} {i : Nat} {f : Fd} (h : L[i]? = some f) : wf L (i + 1) = wstep (wf L i) f := by
  unfold wf; rw [List.take_add_one, h]; simp
theorem wput_len {w : List UInt8 × Int} {b : List UInt8} {e : Int} (h : w.1.length ≤ 8192) : (wput w b e).1.length ≤ 8192 := by
  unfold wput
  split
  · exact h
  · split
    · simp
    · split
      · simp
      · simp; omega
theorem wf_len (L : List Fd) : ∀ i, (wf L i).1.length ≤ 8192
  | 0 => by simp [wf]
  | i + 1 => by
    cases h : L[i]? with
    | none =>
      have : wf L (i + 1) = wf L i := by unfold wf; rw [List.take_add_one, h]; simp
      rw [this]; exact wf_len L i
    | some f => rw [wf_next h]; exact wput_len (wf_len L i)
theorem w_rNumA (w : List UInt8 × Int) (f : Fd) (hw : w.1.length ≤ 8192) (hk : f.kd = 0) : Pur Try.prog 64 [wV w, .r (.int .i64 f.n)] (wV (wstep w f)) := by
  unfold wstep fcode fbytes
  rw [if_pos hk, if_pos hk]
  by_cases hn : badN f.n
  · rw [if_pos hn, if_pos (by decide)]; exact w_rNumR w f.n hn
  · rw [if_neg hn, if_neg (by decide)]; exact w_rNumW w f.n hw hn
theorem w_rTextA (w : List UInt8 × Int) (f : Fd) (hw : w.1.length ≤ 8192) (h0 : ¬ f.kd = 0) (hk : f.kd = 1) : Pur Try.prog 67 [wV w, .r (.str f.t)] (wV (wstep w f)) := by
  unfold wstep fcode fbytes
  rw [if_neg h0, if_neg h0, if_pos hk, if_pos hk]
  by_cases hn : f.t.length > 1024
  · rw [if_pos hn, if_pos (by decide)]; exact w_rTextR w f.t hn
  · rw [if_neg hn, if_neg (by decide)]; exact w_rTextW w f.t hw hn
theorem w_rWideA (w : List UInt8 × Int) (f : Fd) (hw : w.1.length ≤ 8192) (h0 : ¬ f.kd = 0) (hk : ¬ f.kd = 1) (hf : f.ok) : Pur Try.prog 65 [wV w, wA f.x0 f.x1 f.x2 f.x3] (wV (wstep w f)) := by
  unfold wstep fcode fbytes
  rw [if_neg h0, if_neg h0, if_neg hk, if_neg hk, if_neg (by decide)]
  exact w_rWideW w f.x0 f.x1 f.x2 f.x3 hf.2.1 hf.2.2.1 hf.2.2.2.1 hf.2.2.2.2 hw
def roF (L : List Fd) : AVal := .r (.ro L.length (fldC L))
def hW6 (w : List UInt8 × Int) : Hp := ⟨2, [(0, some (.mixed [.r .nil, .r (.int .i64 0)])), (1, some (.mixed [.r (.bs w.1), .r (.int .i64 w.2)]))], false⟩
theorem get_fd {L : List Fd} {i : Nat} (h : i < L.length) : ∃ f, L[i]? = some f := ⟨L[i], by simp [h]⟩
theorem ok_fd {L : List Fd} {i : Nat} {f : Fd} (hF : ∀ f ∈ L, f.ok) (h : L[i]? = some f) : f.ok := hF f (List.mem_of_getElem? h)

theorem w_NumEAN (n e : Int) (he : e ≠ 0) : Spec Try.prog 42 [.ptr 0 0, .r (.int .i64 n)] (oN e true) (fun v h' => v = .tuple [] ∧ h' = oN e true) := by
  by_cases hn : n < 0 ∨ n > 1099511627776
  · exact w_NumENr n e he hn
  · exact w_NumEN n e he hn
theorem w_NumEAB (s : List UInt8) (n e : Int) (he : e ≠ 0) : Spec Try.prog 42 [.ptr 0 0, .r (.int .i64 n)] (oB s e true) (fun v h' => v = .tuple [] ∧ h' = oB s e true) := by
  by_cases hn : n < 0 ∨ n > 1099511627776
  · exact w_NumEBr s n e he hn
  · exact w_NumEB s n e he hn
theorem w_TextEAN (t : List UInt8) (ht : t.length ≤ 140737488351232) (e : Int) (he : e ≠ 0) : Spec Try.prog 45 [.ptr 0 0, .r (.str t)] (oN e true) (fun v h' => v = .tuple [] ∧ h' = oN e true) := by
  by_cases hn : t.length > 1024
  · exact w_TextENr t ht e he hn
  · exact w_TextEN t ht e he hn
theorem w_TextEAB (s t : List UInt8) (ht : t.length ≤ 140737488351232) (e : Int) (he : e ≠ 0) : Spec Try.prog 45 [.ptr 0 0, .r (.str t)] (oB s e true) (fun v h' => v = .tuple [] ∧ h' = oB s e true) := by
  by_cases hn : t.length > 1024
  · exact w_TextEBr s t ht e he hn
  · exact w_TextEB s t ht e he hn
/-- Fields on their way: no octets; some; an error. -/
inductive OR where
  | nil : OR
  | buf (s : List UInt8) : OR
  | errN (e : Int) : OR
  | errB (s : List UInt8) (e : Int) : OR
def OR.hp : OR → Hp
  | .nil => oN 0 true
  | .buf s => oB s 0 true
  | .errN e => oN e true
  | .errB s e => oB s e true
def rel : OR → List UInt8 × Int → Prop
  | .nil, w => w = ([], 0)
  | .buf s, w => w = (s, 0) ∧ s.length ≤ 8192
  | .errN e, w => w = ([], e) ∧ e ≠ 0
  | .errB _ e, w => w = ([], e) ∧ e ≠ 0
section
variable {w : List UInt8 × Int} {f : Fd} {s b : List UInt8} {e : Int}
theorem rel_nilR (h : rel .nil w) (he : fcode f = e) (h0 : e ≠ 0) : rel (.errN e) (wstep w f) := by
  simp only [rel] at h ⊢
  subst h
  exact ⟨by simp [wstep, he, h0, wput], h0⟩
theorem rel_nilW (h : rel .nil w) (he : fcode f = 0) (hb : fbytes f = b) (hl : b.length ≤ 8192) : rel (.buf b) (wstep w f) := by
  simp only [rel] at h ⊢
  subst h
  refine ⟨?_, hl⟩
  simp only [wstep, he, wput, hb]
  simp
  omega
theorem rel_bufR (h : rel (.buf s) w) (he : fcode f = e) (h0 : e ≠ 0) : rel (.errB s e) (wstep w f) := by
  simp only [rel] at h ⊢
  obtain ⟨rfl, _⟩ := h
  exact ⟨by simp [wstep, he, h0, wput], h0⟩
theorem rel_bufL (h : rel (.buf s) w) (he : fcode f = 0) (hb : fbytes f = b) (hl : s.length + b.length > 8192) : rel (.errB s 5) (wstep w f) := by
  simp only [rel] at h ⊢
  obtain ⟨rfl, _⟩ := h
  refine ⟨?_, by decide⟩
  simp only [wstep, he, wput, hb]
  simp
  omega
theorem rel_bufW (h : rel (.buf s) w) (he : fcode f = 0) (hb : fbytes f = b) (hl : s.length + b.length ≤ 8192) : rel (.buf (s ++ b)) (wstep w f) := by
  simp only [rel] at h ⊢
  obtain ⟨rfl, _⟩ := h
  refine ⟨?_, by simp; omega⟩
  simp only [wstep, he, wput, hb]
  simp
  omega
theorem rel_errN (h : rel (.errN e) w) : rel (.errN e) (wstep w f) := by
  simp only [rel] at h ⊢
  obtain ⟨rfl, h0⟩ := h
  exact ⟨by simp [wstep, wput, h0], h0⟩
theorem rel_errB (h : rel (.errB s e) w) : rel (.errB s e) (wstep w f) := by
  simp only [rel] at h ⊢
  obtain ⟨rfl, h0⟩ := h
  exact ⟨by simp [wstep, wput, h0], h0⟩
end

end Go.Proofs.Ytnodpljgcdkbkaa
