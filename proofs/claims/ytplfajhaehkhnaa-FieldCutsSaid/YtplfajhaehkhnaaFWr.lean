/-
  WALKS: fields written, by the program and by the reference: the law FieldWrites. (Printed by gen.py out of w_fwr.py.)
-/
import Derived.Test.YtplfajhaehkhnaaFRef
namespace Go.Proofs.Ytplfajhaehkhnaa
open Go
set_option maxRecDepth 20000
set_option linter.unusedVariables false
set_option linter.unusedSimpArgs false

def fbytes (f : Fd) : List UInt8 := if f.kd = 0 then numL 6 f.n else if f.kd = 1 then txt f.t else wideL f.x0 f.x1 f.x2 f.x3
def fcode (f : Fd) : Int := if f.kd = 0 then (if badN f.n then 4 else 0) else if f.kd = 1 then (if f.t.length > 1024 then 5 else 0) else 0
def wstep (w : List UInt8 × Int) (f : Fd) : List UInt8 × Int := wput w (if fcode f ≠ 0 then [] else fbytes f) (fcode f)
def wf (L : List Fd) (i : Nat) : List UInt8 × Int := (L.take i).foldl wstep ([], 0)
theorem wf_next {L : List Fd} {i : Nat} {f : Fd} (h : L[i]? = some f) : wf L (i + 1) = wstep (wf L i) f := by
  unfold wf; rw [List.take_add_one, h]; simp
theorem wput_len {w : List UInt8 × Int} {b : List UInt8} {e : Int} (h : w.1.length ≤ 8192) : (wput w b e).1.length ≤ 8192 := by
  unfold wput
  split
  · exact h
  · split
    · simp
    · split
      · simp
      · simp; omega
theorem wf_len (L : List Fd) : ∀ i, (wf L i).1.length ≤ 8192
  | 0 => by simp [wf]
  | i + 1 => by
    cases h : L[i]? with
    | none =>
      have : wf L (i + 1) = wf L i := by unfold wf; rw [List.take_add_one, h]; simp
      rw [this]; exact wf_len L i
    | some f => rw [wf_next h]; exact wput_len (wf_len L i)
theorem w_rNumA (w : List UInt8 × Int) (f : Fd) (hw : w.1.length ≤ 8192) (hk : f.kd = 0) : Pur Try.prog 42 [wV w, .r (.int .i64 f.n)] (wV (wstep w f)) := by
  unfold wstep fcode fbytes
  rw [if_pos hk, if_pos hk]
  by_cases hn : badN f.n
  · rw [if_pos hn, if_pos (by decide)]; exact w_rNumR w f.n hn
  · rw [if_neg hn, if_neg (by decide)]; exact w_rNumW w f.n hw hn
theorem w_rTextA (w : List UInt8 × Int) (f : Fd) (hw : w.1.length ≤ 8192) (h0 : ¬ f.kd = 0) (hk : f.kd = 1) : Pur Try.prog 43 [wV w, .r (.str f.t)] (wV (wstep w f)) := by
  unfold wstep fcode fbytes
  rw [if_neg h0, if_neg h0, if_pos hk, if_pos hk]
  by_cases hn : f.t.length > 1024
  · rw [if_pos hn, if_pos (by decide)]; exact w_rTextR w f.t hn
  · rw [if_neg hn, if_neg (by decide)]; exact w_rTextW w f.t hw hn
theorem w_rWideA (w : List UInt8 × Int) (f : Fd) (hw : w.1.length ≤ 8192) (h0 : ¬ f.kd = 0) (hk : ¬ f.kd = 1) (hf : f.ok) : Pur Try.prog 44 [wV w, wA f.x0 f.x1 f.x2 f.x3] (wV (wstep w f)) := by
  unfold wstep fcode fbytes
  rw [if_neg h0, if_neg h0, if_neg hk, if_neg hk, if_neg (by decide)]
  exact w_rWideW w f.x0 f.x1 f.x2 f.x3 hf.2.1 hf.2.2.1 hf.2.2.2.1 hf.2.2.2.2 hw
def roF (L : List Fd) : AVal := .r (.ro L.length (fldC L))
def hW6 (w : List UInt8 × Int) : Hp := ⟨2, [(0, some (.mixed [.r .nil, .r (.int .i64 0)])), (1, some (.mixed [.r (.bs w.1), .r (.int .i64 w.2)]))], false⟩
theorem get_fd {L : List Fd} {i : Nat} (h : i < L.length) : ∃ f, L[i]? = some f := ⟨L[i], by simp [h]⟩
theorem ok_fd {L : List Fd} {i : Nat} {f : Fd} (hF : ∀ f ∈ L, f.ok) (h : L[i]? = some f) : f.ok := hF f (List.mem_of_getElem? h)

def stPutL_0 (L : List Fd) : Nat → Regs × Hp := fun i => ([(0, roF L), (2, .ptr 0 0), (3, .ptr 1 0), (4, .r (.int .i64 (i : Int)))], hW6 (wf L i))
def prPutL_0 (L : List Fd) : Nat → Prop := fun i => i ≤ L.length
theorem w_putL (L : List Fd) (hL : L.length ≤ 140737488355328) (hF : ∀ f ∈ L, f.ok) : Pur Try.prog 12 [roF L] (wV (wf L L.length)) := by
  refine spec_of_go (N := 43) Try.func12 rfl (by decide) rfl rfl ?_
  refine ag_seq ?_
  refine ag_reg ?_
  refine ar_new tOk rfl rfl rfl ?_ ?_
  · simp
  refine ar_nil ?_
  refine ag_seq ?_
  refine ag_reg ?_
  refine ar_pure tOk rfl rfl rfl ?_ ?_
  · simp
  refine ar_new tOk rfl rfl rfl ?_ ?_
  · simp
  refine ar_store tOk rfl rfl rfl trivial ?_
  refine ar_nil ?_
  refine ag_seq ?_
  refine ag_seq ?_
  refine ag_reg ?_
  refine ar_pure tOk rfl rfl rfl trivial ?_
  refine ar_nil ?_
  refine ag_ent (ent_blk 1 (.mixed [.r .nil, .r (.int .i64 0)]) (.mixed [.r (.bs []), .r (.int .i64 0)]) rfl (fun _ _ _ _ h => nil_bs h)) ?_
  refine ag_block ?_
  refine ag_loopS (stPutL_0 L) (prPutL_0 L) (fun (i : Nat) => L.length - i) 0 (ent_weak [0, 1] rfl rfl rfl rfl ?_ ?_ rfl) (show prPutL_0 L 0 from ?_) ?_
  · exact ⟨⟨rfl, rfl⟩, ⟨rfl, rfl⟩, ⟨rfl, rfl⟩, ⟨rfl, rfl⟩, trivial⟩
  · exact ⟨⟨rfl, rfl, rfl⟩, ⟨rfl, rfl, rfl⟩, trivial⟩
  · exact Nat.zero_le _
  rintro i hp hrec
  refine ag_seq ?_
  refine ag_seq ?_
  refine ag_reg ?_
  refine ar_pure tOk rfl rfl rfl trivial ?_
  refine ar_pure tOk rfl rfl rfl trivial ?_
  refine ar_pure tOk rfl rfl rfl trivial ?_
  refine ar_pure tOk rfl rfl rfl trivial ?_
  refine ar_nil ?_
  refine ag_if rfl ?_ ?_
  · intro h9
    have hlt : i < L.length := by omega
    obtain ⟨f, hs⟩ := get_fd hlt
    have hok := ok_fd hF hs
    refine ag_skip ?_
    refine ag_seq ?_
    refine ag_block ?_
    refine ag_seq ?_
    refine ag_reg ?_
    refine ar_pure tOk rfl rfl rfl trivial ?_
    refine ar_pure tOk rfl rfl rfl trivial ?_
    refine ar_pure tOk rfl rfl rfl ?_ ?_
    · refine ⟨?_, ?_⟩ <;> first | omega | exact fldC_ne hs | (refine ⟨?_, ?_⟩ <;> omega)
    refine ar_loadAs tOk (.agg (f.cells.map .r)) rfl rfl rfl rfl rfl rfl rfl (.inr ⟨rfl, _, rfl, by rw [mulz_eq, Int.toNat_natCast]; exact fldC_agg hs, rfl⟩) ?_
    refine ar_pur (w_kind f) rfl rfl rfl rfl rfl rfl rfl ?_
    refine ar_nil ?_
    refine ag_block ?_
    refine ag_seq ?_
    refine ag_reg ?_
    refine ar_pure tOk rfl rfl rfl trivial ?_
    refine ar_pure tOk rfl rfl rfl trivial ?_
    refine ar_nil ?_
    refine ag_if rfl ?_ ?_
    · intro h24
      apply ag_draw1 [] (by kernel_rfl) (by kernel_rfl)
      refine aq_load0 tOk rfl (by kernel_rfl) rfl rfl trivial ?_
      refine aq_pure tOk rfl rfl rfl trivial ?_
      refine aq_pure tOk rfl rfl rfl trivial ?_
      refine aq_pure tOk rfl rfl rfl ?_ ?_
      · refine ⟨?_, ?_⟩ <;> first | omega | exact fldC_ne hs | (refine ⟨?_, ?_⟩ <;> omega)
      refine aq_pure tOk rfl rfl rfl trivial ?_
      refine aq_loadAs0 tOk (.r (.int .i64 f.n)) rfl rfl rfl rfl rfl (by kernel_rfl) rfl rfl (.inl ⟨rfl, by rw [addo_eq, mulz_eq, Int.toNat_natCast]; exact fldC_at hs rfl⟩) ?_
      refine aq_pur (w_rNumA (wf L i) f (wf_len L i) h24) rfl rfl rfl rfl rfl rfl rfl ?_
      refine aq_store10 tOk rfl rfl rfl rfl trivial ?_
      refine aq_nil rfl ?_
      refine ag_inBlock ?_
      refine ag_inBlock ?_
      refine ag_reg ?_
      refine ar_pure tOk rfl rfl rfl trivial ?_
      refine ar_pure tOk rfl rfl rfl ?_ ?_
      · unfold inI64; omega
      refine ar_pure tOk rfl rfl rfl trivial ?_
      refine ar_nil ?_
      refine ag_ent (ent_weak (g' := (stPutL_0 L (i + 1)).1) (h' := (stPutL_0 L (i + 1)).2) [0, 1] rfl rfl rfl rfl ?_ ?_ rfl) (hrec _ (show prPutL_0 L (i + 1) from ?_) (show _ < _ from ?_))
      · exact ⟨⟨rfl, rfl⟩, ⟨rfl, rfl⟩, ⟨rfl, rfl⟩, ⟨rfl, by exact eqI (by omega)⟩, trivial⟩
      · exact ⟨⟨rfl, rfl, rfl⟩, ⟨rfl, rfl, by rw [wf_next hs]; rfl⟩, trivial⟩
      · show i + 1 ≤ L.length; omega
      · show L.length - (i + 1) < L.length - i; omega
    · intro h24
      refine ag_seq ?_
      refine ag_reg ?_
      refine ar_pure tOk rfl rfl rfl trivial ?_
      refine ar_pure tOk rfl rfl rfl trivial ?_
      refine ar_nil ?_
      refine ag_if rfl ?_ ?_
      · intro h33
        apply ag_draw1 [] (by kernel_rfl) (by kernel_rfl)
        refine aq_load0 tOk rfl (by kernel_rfl) rfl rfl trivial ?_
        refine aq_pure tOk rfl rfl rfl trivial ?_
        refine aq_pure tOk rfl rfl rfl trivial ?_
        refine aq_pure tOk rfl rfl rfl ?_ ?_
        · refine ⟨?_, ?_⟩ <;> first | omega | exact fldC_ne hs | (refine ⟨?_, ?_⟩ <;> omega)
        refine aq_pure tOk rfl rfl rfl trivial ?_
        refine aq_loadAs0 tOk (.r (.str f.t)) rfl rfl rfl rfl rfl (by kernel_rfl) rfl rfl (.inl ⟨rfl, by rw [addo_eq, mulz_eq, Int.toNat_natCast]; exact fldC_at hs rfl⟩) ?_
        refine aq_pur (w_rTextA (wf L i) f (wf_len L i) h24 h33) rfl rfl rfl rfl rfl rfl rfl ?_
        refine aq_store10 tOk rfl rfl rfl rfl trivial ?_
        refine aq_nil rfl ?_
        refine ag_inBlock ?_
        refine ag_inBlock ?_
        refine ag_reg ?_
        refine ar_pure tOk rfl rfl rfl trivial ?_
        refine ar_pure tOk rfl rfl rfl ?_ ?_
        · unfold inI64; omega
        refine ar_pure tOk rfl rfl rfl trivial ?_
        refine ar_nil ?_
        refine ag_ent (ent_weak (g' := (stPutL_0 L (i + 1)).1) (h' := (stPutL_0 L (i + 1)).2) [0, 1] rfl rfl rfl rfl ?_ ?_ rfl) (hrec _ (show prPutL_0 L (i + 1) from ?_) (show _ < _ from ?_))
        · exact ⟨⟨rfl, rfl⟩, ⟨rfl, rfl⟩, ⟨rfl, rfl⟩, ⟨rfl, by exact eqI (by omega)⟩, trivial⟩
        · exact ⟨⟨rfl, rfl, rfl⟩, ⟨rfl, rfl, by rw [wf_next hs]; rfl⟩, trivial⟩
        · show i + 1 ≤ L.length; omega
        · show L.length - (i + 1) < L.length - i; omega
      · intro h33
        apply ag_draw1 [] (by kernel_rfl) (by kernel_rfl)
        refine aq_load0 tOk rfl (by kernel_rfl) rfl rfl trivial ?_
        refine aq_pure tOk rfl rfl rfl trivial ?_
        refine aq_pure tOk rfl rfl rfl trivial ?_
        refine aq_pure tOk rfl rfl rfl ?_ ?_
        · refine ⟨?_, ?_⟩ <;> first | omega | exact fldC_ne hs | (refine ⟨?_, ?_⟩ <;> omega)
        refine aq_pure tOk rfl rfl rfl trivial ?_
        refine aq_loadAs0 tOk (wA f.x0 f.x1 f.x2 f.x3) rfl rfl rfl rfl rfl (by kernel_rfl) rfl rfl (.inr ⟨rfl, _, rfl, by rw [addo_eq, mulz_eq, Int.toNat_natCast]; exact fldC_wide hs, rfl⟩) ?_
        refine aq_pur (w_rWideA (wf L i) f (wf_len L i) h24 h33 hok) rfl rfl rfl rfl rfl rfl rfl ?_
        refine aq_store10 tOk rfl rfl rfl rfl trivial ?_
        refine aq_nil rfl ?_
        refine ag_inBlock ?_
        refine ag_inBlock ?_
        refine ag_reg ?_
        refine ar_pure tOk rfl rfl rfl trivial ?_
        refine ar_pure tOk rfl rfl rfl ?_ ?_
        · unfold inI64; omega
        refine ar_pure tOk rfl rfl rfl trivial ?_
        refine ar_nil ?_
        refine ag_ent (ent_weak (g' := (stPutL_0 L (i + 1)).1) (h' := (stPutL_0 L (i + 1)).2) [0, 1] rfl rfl rfl rfl ?_ ?_ rfl) (hrec _ (show prPutL_0 L (i + 1) from ?_) (show _ < _ from ?_))
        · exact ⟨⟨rfl, rfl⟩, ⟨rfl, rfl⟩, ⟨rfl, rfl⟩, ⟨rfl, by exact eqI (by omega)⟩, trivial⟩
        · exact ⟨⟨rfl, rfl, rfl⟩, ⟨rfl, rfl, by rw [wf_next hs]; rfl⟩, trivial⟩
        · show i + 1 ≤ L.length; omega
        · show L.length - (i + 1) < L.length - i; omega
  · intro h9
    refine ag_exit rfl ?_
    refine ag_seq ?_
    refine ag_reg ?_
    refine ar_load tOk rfl rfl rfl trivial ?_
    refine ar_store tOk rfl rfl rfl trivial ?_
    refine ar_nil ?_
    have hi : i = L.length := by have : i ≤ L.length := hp; omega
    subst hi
    refine ag_ret tOk Try.func12 rfl rfl (⟨trivial, trivial⟩) ?_
    rfl

theorem w_NumEAN (n e : Int) (he : e ≠ 0) : Spec Try.prog 28 [.ptr 0 0, .r (.int .i64 n)] (oN e true) (fun v h' => v = .tuple [] ∧ h' = oN e true) := by
  by_cases hn : n < 0 ∨ n > 1099511627776
  · exact w_NumENr n e he hn
  · exact w_NumEN n e he hn
theorem w_NumEAB (s : List UInt8) (n e : Int) (he : e ≠ 0) : Spec Try.prog 28 [.ptr 0 0, .r (.int .i64 n)] (oB s e true) (fun v h' => v = .tuple [] ∧ h' = oB s e true) := by
  by_cases hn : n < 0 ∨ n > 1099511627776
  · exact w_NumEBr s n e he hn
  · exact w_NumEB s n e he hn
theorem w_TextEAN (t : List UInt8) (ht : t.length ≤ 140737488351232) (e : Int) (he : e ≠ 0) : Spec Try.prog 29 [.ptr 0 0, .r (.str t)] (oN e true) (fun v h' => v = .tuple [] ∧ h' = oN e true) := by
  by_cases hn : t.length > 1024
  · exact w_TextENr t ht e he hn
  · exact w_TextEN t ht e he hn
theorem w_TextEAB (s t : List UInt8) (ht : t.length ≤ 140737488351232) (e : Int) (he : e ≠ 0) : Spec Try.prog 29 [.ptr 0 0, .r (.str t)] (oB s e true) (fun v h' => v = .tuple [] ∧ h' = oB s e true) := by
  by_cases hn : t.length > 1024
  · exact w_TextEBr s t ht e he hn
  · exact w_TextEB s t ht e he hn
/-- Fields on their way: no octets; some; an error. -/
inductive OR where
  | nil : OR
  | buf (s : List UInt8) : OR
  | errN (e : Int) : OR
  | errB (s : List UInt8) (e : Int) : OR
def OR.hp : OR → Hp
  | .nil => oN 0 true
  | .buf s => oB s 0 true
  | .errN e => oN e true
  | .errB s e => oB s e true
def rel : OR → List UInt8 × Int → Prop
  | .nil, w => w = ([], 0)
  | .buf s, w => w = (s, 0) ∧ s.length ≤ 8192
  | .errN e, w => w = ([], e) ∧ e ≠ 0
  | .errB _ e, w => w = ([], e) ∧ e ≠ 0
section
variable {w : List UInt8 × Int} {f : Fd} {s b : List UInt8} {e : Int}
theorem rel_nilR (h : rel .nil w) (he : fcode f = e) (h0 : e ≠ 0) : rel (.errN e) (wstep w f) := by
  simp only [rel] at h ⊢
  subst h
  exact ⟨by simp [wstep, he, h0, wput], h0⟩
theorem rel_nilW (h : rel .nil w) (he : fcode f = 0) (hb : fbytes f = b) (hl : b.length ≤ 8192) : rel (.buf b) (wstep w f) := by
  simp only [rel] at h ⊢
  subst h
  refine ⟨?_, hl⟩
  simp only [wstep, he, wput, hb]
  simp
  omega
theorem rel_bufR (h : rel (.buf s) w) (he : fcode f = e) (h0 : e ≠ 0) : rel (.errB s e) (wstep w f) := by
  simp only [rel] at h ⊢
  obtain ⟨rfl, _⟩ := h
  exact ⟨by simp [wstep, he, h0, wput], h0⟩
theorem rel_bufL (h : rel (.buf s) w) (he : fcode f = 0) (hb : fbytes f = b) (hl : s.length + b.length > 8192) : rel (.errB s 5) (wstep w f) := by
  simp only [rel] at h ⊢
  obtain ⟨rfl, _⟩ := h
  refine ⟨?_, by decide⟩
  simp only [wstep, he, wput, hb]
  simp
  omega
theorem rel_bufW (h : rel (.buf s) w) (he : fcode f = 0) (hb : fbytes f = b) (hl : s.length + b.length ≤ 8192) : rel (.buf (s ++ b)) (wstep w f) := by
  simp only [rel] at h ⊢
  obtain ⟨rfl, _⟩ := h
  refine ⟨?_, by simp; omega⟩
  simp only [wstep, he, wput, hb]
  simp
  omega
theorem rel_errN (h : rel (.errN e) w) : rel (.errN e) (wstep w f) := by
  simp only [rel] at h ⊢
  obtain ⟨rfl, h0⟩ := h
  exact ⟨by simp [wstep, wput, h0], h0⟩
theorem rel_errB (h : rel (.errB s e) w) : rel (.errB s e) (wstep w f) := by
  simp only [rel] at h ⊢
  obtain ⟨rfl, h0⟩ := h
  exact ⟨by simp [wstep, wput, h0], h0⟩
end

def stOutL_0 (L : List Fd) : Nat × OR → Regs × Hp := fun x => ([(0, roF L), (4, .ptr 0 0), (5, .r (.int .i64 (x.1 : Int)))], x.2.hp)
def prOutL_0 (L : List Fd) : Nat × OR → Prop := fun ⟨i, r⟩ => i ≤ L.length ∧ rel r (wf L i)
theorem w_out (L : List Fd) (hL : L.length ≤ 140737488355328) (hF : ∀ f ∈ L, f.ok) : Pur Try.prog 11 [roF L] (.tuple [.r (.bs (wf L L.length).1), .r (.int .i64 (wf L L.length).2)]) := by
  refine spec_of_go (N := 47) Try.func11 rfl (by decide) rfl rfl ?_
  refine ag_seq ?_
  refine ag_reg ?_
  refine ar_pure tOk rfl rfl rfl trivial ?_
  refine ar_pure tOk rfl rfl rfl trivial ?_
  refine ar_nil ?_
  refine ag_seq ?_
  refine ag_reg ?_
  refine ar_obj [] (w_NewO) rfl rfl (handed_of rfl rfl (by decide) trivial) rfl rfl rfl rfl ?_
  rintro _ _ ⟨rfl, rfl⟩
  refine ⟨_, _, rfl, ?_⟩
  refine ar_pure tOk rfl rfl rfl trivial ?_
  refine ar_nil ?_
  refine ag_seq ?_
  refine ag_seq ?_
  refine ag_reg ?_
  refine ar_pure tOk rfl rfl rfl trivial ?_
  refine ar_nil ?_
  refine ag_block ?_
  refine ag_loopS (stOutL_0 L) (prOutL_0 L) (fun ⟨i, r⟩ => L.length - i) (0, OR.nil) (ent_weak [0] rfl rfl rfl rfl ?_ ?_ rfl) (show prOutL_0 L (0, OR.nil) from ?_) ?_
  · exact ⟨⟨rfl, rfl⟩, ⟨rfl, rfl⟩, ⟨rfl, rfl⟩, trivial⟩
  · exact ⟨⟨rfl, rfl, rfl⟩, trivial⟩
  · exact ⟨Nat.zero_le _, rfl⟩
  rintro ⟨i, r⟩ hp hrec
  cases r with
  | nil =>
    obtain ⟨hi, hr⟩ : _ := hp
    refine ag_ent (ent_weak (g' := [(0, roF L), (4, .ptr 0 0), (5, .r (.int .i64 (i : Int)))]) (h' := oN 0 true) [0] rfl rfl rfl rfl ?_ ?_ rfl) ?_
    · exact ⟨⟨rfl, rfl⟩, ⟨rfl, rfl⟩, ⟨rfl, rfl⟩, trivial⟩
    · exact ⟨⟨rfl, rfl, rfl⟩, trivial⟩
    refine ag_seq ?_
    refine ag_seq ?_
    refine ag_reg ?_
    refine ar_pure tOk rfl rfl rfl trivial ?_
    refine ar_pure tOk rfl rfl rfl trivial ?_
    refine ar_pure tOk rfl rfl rfl trivial ?_
    refine ar_pure tOk rfl rfl rfl trivial ?_
    refine ar_nil ?_
    refine ag_if rfl ?_ ?_
    · intro h10
      have hlt : i < L.length := by omega
      obtain ⟨f, hs⟩ := get_fd hlt
      have hok := ok_fd hF hs
      refine ag_skip ?_
      refine ag_seq ?_
      refine ag_block ?_
      refine ag_seq ?_
      refine ag_reg ?_
      refine ar_pure tOk rfl rfl rfl trivial ?_
      refine ar_pure tOk rfl rfl rfl trivial ?_
      refine ar_pure tOk rfl rfl rfl ?_ ?_
      · refine ⟨?_, ?_⟩ <;> first | omega | exact fldC_ne hs | (refine ⟨?_, ?_⟩ <;> omega)
      refine ar_loadAs tOk (.agg (f.cells.map .r)) rfl rfl rfl rfl rfl rfl rfl (.inr ⟨rfl, _, rfl, by rw [mulz_eq, Int.toNat_natCast]; exact fldC_agg hs, rfl⟩) ?_
      refine ar_pur (w_kind f) rfl rfl rfl rfl rfl rfl rfl ?_
      refine ar_nil ?_
      refine ag_block ?_
      refine ag_seq ?_
      refine ag_reg ?_
      refine ar_pure tOk rfl rfl rfl trivial ?_
      refine ar_pure tOk rfl rfl rfl trivial ?_
      refine ar_nil ?_
      refine ag_if rfl ?_ ?_
      · intro h25
        by_cases hn : (f.n < 0 ∨ f.n > 1099511627776)
        · skip
          refine ag_reg ?_
          refine ar_pure tOk rfl rfl rfl trivial ?_
          refine ar_pure tOk rfl rfl rfl trivial ?_
          refine ar_pure tOk rfl rfl rfl trivial ?_
          refine ar_pure tOk rfl rfl rfl ?_ ?_
          · refine ⟨?_, ?_⟩ <;> first | omega | exact fldC_ne hs | (refine ⟨?_, ?_⟩ <;> omega)
          refine ar_pure tOk rfl rfl rfl trivial ?_
          refine ar_loadAs tOk (.r (.int .i64 f.n)) rfl rfl rfl rfl rfl rfl rfl (.inl ⟨rfl, by rw [addo_eq, mulz_eq, Int.toNat_natCast]; exact fldC_at hs rfl⟩) ?_
          refine ar_obj [0] (w_NumRN f.n hn) rfl rfl (handed_of rfl rfl (by decide) ⟨rfl, rfl, rfl, trivial⟩) rfl rfl rfl rfl ?_
          rintro _ _ ⟨rfl, rfl⟩
          refine ⟨_, _, rfl, ?_⟩
          refine ar_nil ?_
          refine ag_inBlock ?_
          refine ag_inBlock ?_
          refine ag_ent (ent_weak (g' := [(0, roF L), (4, .ptr 0 0), (5, .r (.int .i64 (i : Int)))]) (h' := oN (4) true) [0] rfl rfl rfl rfl ?_ ?_ rfl) ?_
          · exact ⟨⟨rfl, rfl⟩, ⟨rfl, rfl⟩, ⟨rfl, rfl⟩, trivial⟩
          · exact ⟨⟨rfl, rfl, rfl⟩, trivial⟩
          refine ag_reg ?_
          refine ar_pure tOk rfl rfl rfl trivial ?_
          refine ar_pure tOk rfl rfl rfl ?_ ?_
          · unfold inI64; omega
          refine ar_pure tOk rfl rfl rfl trivial ?_
          refine ar_nil ?_
          refine ag_ent (ent_weak (g' := (stOutL_0 L (i + 1, OR.errN (4))).1) (h' := (stOutL_0 L (i + 1, OR.errN (4))).2) [0] rfl rfl rfl rfl ?_ ?_ rfl) (hrec _ (show prOutL_0 L (i + 1, OR.errN (4)) from ?_) (show _ < _ from ?_))
          · exact ⟨⟨rfl, rfl⟩, ⟨rfl, rfl⟩, ⟨rfl, by exact eqI (by omega)⟩, trivial⟩
          · exact ⟨⟨rfl, rfl, rfl⟩, trivial⟩
          · refine ⟨by omega, ?_⟩
            rw [wf_next hs]
            exact rel_nilR hr (by simp [fcode, badN, h25, hn]) (by decide)
          · show L.length - (i + 1) < L.length - i; omega
        · skip
          refine ag_reg ?_
          refine ar_pure tOk rfl rfl rfl trivial ?_
          refine ar_pure tOk rfl rfl rfl trivial ?_
          refine ar_pure tOk rfl rfl rfl trivial ?_
          refine ar_pure tOk rfl rfl rfl ?_ ?_
          · refine ⟨?_, ?_⟩ <;> first | omega | exact fldC_ne hs | (refine ⟨?_, ?_⟩ <;> omega)
          refine ar_pure tOk rfl rfl rfl trivial ?_
          refine ar_loadAs tOk (.r (.int .i64 f.n)) rfl rfl rfl rfl rfl rfl rfl (.inl ⟨rfl, by rw [addo_eq, mulz_eq, Int.toNat_natCast]; exact fldC_at hs rfl⟩) ?_
          refine ar_obj [0] (w_NumWN f.n hn) rfl rfl (handed_of rfl rfl (by decide) ⟨rfl, rfl, rfl, trivial⟩) rfl rfl rfl rfl ?_
          rintro _ _ ⟨rfl, rfl⟩
          refine ⟨_, _, rfl, ?_⟩
          refine ar_nil ?_
          refine ag_inBlock ?_
          refine ag_inBlock ?_
          refine ag_ent (ent_weak (g' := [(0, roF L), (4, .ptr 0 0), (5, .r (.int .i64 (i : Int)))]) (h' := oB (numL 6 f.n) 0 true) [0, 1] rfl rfl rfl rfl ?_ ?_ rfl) ?_
          · exact ⟨⟨rfl, rfl⟩, ⟨rfl, rfl⟩, ⟨rfl, rfl⟩, trivial⟩
          · exact ⟨⟨rfl, rfl, rfl⟩, ⟨rfl, rfl, rfl⟩, trivial⟩
          refine ag_reg ?_
          refine ar_pure tOk rfl rfl rfl trivial ?_
          refine ar_pure tOk rfl rfl rfl ?_ ?_
          · unfold inI64; omega
          refine ar_pure tOk rfl rfl rfl trivial ?_
          refine ar_nil ?_
          refine ag_ent (ent_weak (g' := (stOutL_0 L (i + 1, OR.buf (numL 6 f.n))).1) (h' := (stOutL_0 L (i + 1, OR.buf (numL 6 f.n))).2) [0, 1] rfl rfl rfl rfl ?_ ?_ rfl) (hrec _ (show prOutL_0 L (i + 1, OR.buf (numL 6 f.n)) from ?_) (show _ < _ from ?_))
          · exact ⟨⟨rfl, rfl⟩, ⟨rfl, rfl⟩, ⟨rfl, by exact eqI (by omega)⟩, trivial⟩
          · exact ⟨⟨rfl, rfl, rfl⟩, ⟨rfl, rfl, rfl⟩, trivial⟩
          · refine ⟨by omega, ?_⟩
            rw [wf_next hs]
            exact rel_nilW hr (by simp [fcode, badN, h25, hn]) (by simp [fbytes, h25]) (by rw [numL_length]; omega)
          · show L.length - (i + 1) < L.length - i; omega
      · intro h25
        refine ag_seq ?_
        refine ag_reg ?_
        refine ar_pure tOk rfl rfl rfl trivial ?_
        refine ar_pure tOk rfl rfl rfl trivial ?_
        refine ar_nil ?_
        refine ag_if rfl ?_ ?_
        · intro h34
          by_cases hn : f.t.length > 1024
          · skip
            refine ag_reg ?_
            refine ar_pure tOk rfl rfl rfl trivial ?_
            refine ar_pure tOk rfl rfl rfl trivial ?_
            refine ar_pure tOk rfl rfl rfl trivial ?_
            refine ar_pure tOk rfl rfl rfl ?_ ?_
            · refine ⟨?_, ?_⟩ <;> first | omega | exact fldC_ne hs | (refine ⟨?_, ?_⟩ <;> omega)
            refine ar_pure tOk rfl rfl rfl trivial ?_
            refine ar_loadAs tOk (.r (.str f.t)) rfl rfl rfl rfl rfl rfl rfl (.inl ⟨rfl, by rw [addo_eq, mulz_eq, Int.toNat_natCast]; exact fldC_at hs rfl⟩) ?_
            refine ar_obj [0] (w_TextRN f.t hok.1 hn) rfl rfl (handed_of rfl rfl (by decide) ⟨rfl, rfl, rfl, trivial⟩) rfl rfl rfl rfl ?_
            rintro _ _ ⟨rfl, rfl⟩
            refine ⟨_, _, rfl, ?_⟩
            refine ar_nil ?_
            refine ag_inBlock ?_
            refine ag_inBlock ?_
            refine ag_ent (ent_weak (g' := [(0, roF L), (4, .ptr 0 0), (5, .r (.int .i64 (i : Int)))]) (h' := oN (5) true) [0] rfl rfl rfl rfl ?_ ?_ rfl) ?_
            · exact ⟨⟨rfl, rfl⟩, ⟨rfl, rfl⟩, ⟨rfl, rfl⟩, trivial⟩
            · exact ⟨⟨rfl, rfl, rfl⟩, trivial⟩
            refine ag_reg ?_
            refine ar_pure tOk rfl rfl rfl trivial ?_
            refine ar_pure tOk rfl rfl rfl ?_ ?_
            · unfold inI64; omega
            refine ar_pure tOk rfl rfl rfl trivial ?_
            refine ar_nil ?_
            refine ag_ent (ent_weak (g' := (stOutL_0 L (i + 1, OR.errN (5))).1) (h' := (stOutL_0 L (i + 1, OR.errN (5))).2) [0] rfl rfl rfl rfl ?_ ?_ rfl) (hrec _ (show prOutL_0 L (i + 1, OR.errN (5)) from ?_) (show _ < _ from ?_))
            · exact ⟨⟨rfl, rfl⟩, ⟨rfl, rfl⟩, ⟨rfl, by exact eqI (by omega)⟩, trivial⟩
            · exact ⟨⟨rfl, rfl, rfl⟩, trivial⟩
            · refine ⟨by omega, ?_⟩
              rw [wf_next hs]
              exact rel_nilR hr (by simp [fcode, badN, h25, h34, hn]) (by decide)
            · show L.length - (i + 1) < L.length - i; omega
          · skip
            refine ag_reg ?_
            refine ar_pure tOk rfl rfl rfl trivial ?_
            refine ar_pure tOk rfl rfl rfl trivial ?_
            refine ar_pure tOk rfl rfl rfl trivial ?_
            refine ar_pure tOk rfl rfl rfl ?_ ?_
            · refine ⟨?_, ?_⟩ <;> first | omega | exact fldC_ne hs | (refine ⟨?_, ?_⟩ <;> omega)
            refine ar_pure tOk rfl rfl rfl trivial ?_
            refine ar_loadAs tOk (.r (.str f.t)) rfl rfl rfl rfl rfl rfl rfl (.inl ⟨rfl, by rw [addo_eq, mulz_eq, Int.toNat_natCast]; exact fldC_at hs rfl⟩) ?_
            refine ar_obj [0] (w_TextWN f.t hok.1 hn) rfl rfl (handed_of rfl rfl (by decide) ⟨rfl, rfl, rfl, trivial⟩) rfl rfl rfl rfl ?_
            rintro _ _ ⟨rfl, rfl⟩
            refine ⟨_, _, rfl, ?_⟩
            refine ar_nil ?_
            refine ag_inBlock ?_
            refine ag_inBlock ?_
            refine ag_ent (ent_weak (g' := [(0, roF L), (4, .ptr 0 0), (5, .r (.int .i64 (i : Int)))]) (h' := oB (txt f.t) 0 true) [0, 1] rfl rfl rfl rfl ?_ ?_ rfl) ?_
            · exact ⟨⟨rfl, rfl⟩, ⟨rfl, rfl⟩, ⟨rfl, rfl⟩, trivial⟩
            · exact ⟨⟨rfl, rfl, rfl⟩, ⟨rfl, rfl, rfl⟩, trivial⟩
            refine ag_reg ?_
            refine ar_pure tOk rfl rfl rfl trivial ?_
            refine ar_pure tOk rfl rfl rfl ?_ ?_
            · unfold inI64; omega
            refine ar_pure tOk rfl rfl rfl trivial ?_
            refine ar_nil ?_
            refine ag_ent (ent_weak (g' := (stOutL_0 L (i + 1, OR.buf (txt f.t))).1) (h' := (stOutL_0 L (i + 1, OR.buf (txt f.t))).2) [0, 1] rfl rfl rfl rfl ?_ ?_ rfl) (hrec _ (show prOutL_0 L (i + 1, OR.buf (txt f.t)) from ?_) (show _ < _ from ?_))
            · exact ⟨⟨rfl, rfl⟩, ⟨rfl, rfl⟩, ⟨rfl, by exact eqI (by omega)⟩, trivial⟩
            · exact ⟨⟨rfl, rfl, rfl⟩, ⟨rfl, rfl, rfl⟩, trivial⟩
            · refine ⟨by omega, ?_⟩
              rw [wf_next hs]
              exact rel_nilW hr (by simp [fcode, badN, h25, h34, hn]) (by simp [fbytes, h25, h34]) (by rw [txt_length]; omega)
            · show L.length - (i + 1) < L.length - i; omega
        · intro h34
          refine ag_reg ?_
          refine ar_pure tOk rfl rfl rfl trivial ?_
          refine ar_pure tOk rfl rfl rfl trivial ?_
          refine ar_pure tOk rfl rfl rfl trivial ?_
          refine ar_pure tOk rfl rfl rfl ?_ ?_
          · refine ⟨?_, ?_⟩ <;> first | omega | exact fldC_ne hs | (refine ⟨?_, ?_⟩ <;> omega)
          refine ar_pure tOk rfl rfl rfl trivial ?_
          refine ar_loadAs tOk (wA f.x0 f.x1 f.x2 f.x3) rfl rfl rfl rfl rfl rfl rfl (.inr ⟨rfl, _, rfl, by rw [addo_eq, mulz_eq, Int.toNat_natCast]; exact fldC_wide hs, rfl⟩) ?_
          refine ar_obj [0] (w_WideWN f.x0 f.x1 f.x2 f.x3 hok.2.1 hok.2.2.1 hok.2.2.2.1 hok.2.2.2.2) rfl rfl (handed_of rfl rfl (by decide) ⟨rfl, rfl, rfl, trivial⟩) rfl rfl rfl rfl ?_
          rintro _ _ ⟨rfl, rfl⟩
          refine ⟨_, _, rfl, ?_⟩
          refine ar_nil ?_
          refine ag_inBlock ?_
          refine ag_inBlock ?_
          refine ag_ent (ent_weak (g' := [(0, roF L), (4, .ptr 0 0), (5, .r (.int .i64 (i : Int)))]) (h' := oB (wideL f.x0 f.x1 f.x2 f.x3) 0 true) [0, 1] rfl rfl rfl rfl ?_ ?_ rfl) ?_
          · exact ⟨⟨rfl, rfl⟩, ⟨rfl, rfl⟩, ⟨rfl, rfl⟩, trivial⟩
          · exact ⟨⟨rfl, rfl, rfl⟩, ⟨rfl, rfl, rfl⟩, trivial⟩
          refine ag_reg ?_
          refine ar_pure tOk rfl rfl rfl trivial ?_
          refine ar_pure tOk rfl rfl rfl ?_ ?_
          · unfold inI64; omega
          refine ar_pure tOk rfl rfl rfl trivial ?_
          refine ar_nil ?_
          refine ag_ent (ent_weak (g' := (stOutL_0 L (i + 1, OR.buf (wideL f.x0 f.x1 f.x2 f.x3))).1) (h' := (stOutL_0 L (i + 1, OR.buf (wideL f.x0 f.x1 f.x2 f.x3))).2) [0, 1] rfl rfl rfl rfl ?_ ?_ rfl) (hrec _ (show prOutL_0 L (i + 1, OR.buf (wideL f.x0 f.x1 f.x2 f.x3)) from ?_) (show _ < _ from ?_))
          · exact ⟨⟨rfl, rfl⟩, ⟨rfl, rfl⟩, ⟨rfl, by exact eqI (by omega)⟩, trivial⟩
          · exact ⟨⟨rfl, rfl, rfl⟩, ⟨rfl, rfl, rfl⟩, trivial⟩
          · refine ⟨by omega, ?_⟩
            rw [wf_next hs]
            exact rel_nilW hr (by simp [fcode, badN, h25, h34]) (by simp [fbytes, h25, h34]) (by rw [wideL_length]; omega)
          · show L.length - (i + 1) < L.length - i; omega
    · intro h10
      refine ag_exit rfl ?_
      refine ag_seq ?_
      refine ag_reg ?_
      refine ar_pure tOk rfl rfl rfl trivial ?_
      refine ar_qd rfl (qop_objR [0] (w_DoneN) (by rintro _ _ ⟨rfl, rfl⟩; exact ⟨rfl, rfl⟩) rfl rfl (handed_of rfl rfl (by decide) ⟨rfl, rfl, rfl, trivial⟩) rfl rfl) rfl rfl rfl rfl ?_
      refine ar_pure tOk rfl rfl rfl trivial ?_
      refine ar_pure tOk rfl rfl rfl trivial ?_
      refine ar_pure tOk rfl rfl rfl trivial ?_
      refine ar_pure tOk rfl rfl rfl trivial ?_
      refine ar_nil ?_
      have hiL : i = L.length := by omega
      subst hiL
      have hr2 : wf L L.length = _ := hr
      refine ag_ret tOk Try.func11 rfl rfl (by simp) ?_
      rw [hr2]; rfl
  | buf s =>
    obtain ⟨hi, hr⟩ : _ := hp
    refine ag_ent (ent_weak (g' := [(0, roF L), (4, .ptr 0 0), (5, .r (.int .i64 (i : Int)))]) (h' := oB (s) 0 true) [0, 1] rfl rfl rfl rfl ?_ ?_ rfl) ?_
    · exact ⟨⟨rfl, rfl⟩, ⟨rfl, rfl⟩, ⟨rfl, rfl⟩, trivial⟩
    · exact ⟨⟨rfl, rfl, rfl⟩, ⟨rfl, rfl, rfl⟩, trivial⟩
    have hsl : s.length ≤ 8192 := hr.2
    refine ag_seq ?_
    refine ag_seq ?_
    refine ag_reg ?_
    refine ar_pure tOk rfl rfl rfl trivial ?_
    refine ar_pure tOk rfl rfl rfl trivial ?_
    refine ar_pure tOk rfl rfl rfl trivial ?_
    refine ar_pure tOk rfl rfl rfl trivial ?_
    refine ar_nil ?_
    refine ag_if rfl ?_ ?_
    · intro h10
      have hlt : i < L.length := by omega
      obtain ⟨f, hs⟩ := get_fd hlt
      have hok := ok_fd hF hs
      refine ag_skip ?_
      refine ag_seq ?_
      refine ag_block ?_
      refine ag_seq ?_
      refine ag_reg ?_
      refine ar_pure tOk rfl rfl rfl trivial ?_
      refine ar_pure tOk rfl rfl rfl trivial ?_
      refine ar_pure tOk rfl rfl rfl ?_ ?_
      · refine ⟨?_, ?_⟩ <;> first | omega | exact fldC_ne hs | (refine ⟨?_, ?_⟩ <;> omega)
      refine ar_loadAs tOk (.agg (f.cells.map .r)) rfl rfl rfl rfl rfl rfl rfl (.inr ⟨rfl, _, rfl, by rw [mulz_eq, Int.toNat_natCast]; exact fldC_agg hs, rfl⟩) ?_
      refine ar_pur (w_kind f) rfl rfl rfl rfl rfl rfl rfl ?_
      refine ar_nil ?_
      refine ag_block ?_
      refine ag_seq ?_
      refine ag_reg ?_
      refine ar_pure tOk rfl rfl rfl trivial ?_
      refine ar_pure tOk rfl rfl rfl trivial ?_
      refine ar_nil ?_
      refine ag_if rfl ?_ ?_
      · intro h25
        rcases (show (f.n < 0 ∨ f.n > 1099511627776) ∨ (¬ (f.n < 0 ∨ f.n > 1099511627776) ∧ s.length + 6 > 8192) ∨ (¬ (f.n < 0 ∨ f.n > 1099511627776) ∧ s.length + 6 ≤ 8192) by omega) with hn | ⟨hn, hl⟩ | ⟨hn, hl⟩
        · skip
          refine ag_reg ?_
          refine ar_pure tOk rfl rfl rfl trivial ?_
          refine ar_pure tOk rfl rfl rfl trivial ?_
          refine ar_pure tOk rfl rfl rfl trivial ?_
          refine ar_pure tOk rfl rfl rfl ?_ ?_
          · refine ⟨?_, ?_⟩ <;> first | omega | exact fldC_ne hs | (refine ⟨?_, ?_⟩ <;> omega)
          refine ar_pure tOk rfl rfl rfl trivial ?_
          refine ar_loadAs tOk (.r (.int .i64 f.n)) rfl rfl rfl rfl rfl rfl rfl (.inl ⟨rfl, by rw [addo_eq, mulz_eq, Int.toNat_natCast]; exact fldC_at hs rfl⟩) ?_
          refine ar_obj [0, 1] (w_NumRB s f.n hn) rfl rfl (handed_of rfl rfl (by decide) ⟨rfl, rfl, rfl, rfl, rfl, rfl, trivial⟩) rfl rfl rfl rfl ?_
          rintro _ _ ⟨rfl, rfl⟩
          refine ⟨_, _, rfl, ?_⟩
          refine ar_nil ?_
          refine ag_inBlock ?_
          refine ag_inBlock ?_
          refine ag_ent (ent_weak (g' := [(0, roF L), (4, .ptr 0 0), (5, .r (.int .i64 (i : Int)))]) (h' := oB (s) (4) true) [0, 1] rfl rfl rfl rfl ?_ ?_ rfl) ?_
          · exact ⟨⟨rfl, rfl⟩, ⟨rfl, rfl⟩, ⟨rfl, rfl⟩, trivial⟩
          · exact ⟨⟨rfl, rfl, rfl⟩, ⟨rfl, rfl, rfl⟩, trivial⟩
          refine ag_reg ?_
          refine ar_pure tOk rfl rfl rfl trivial ?_
          refine ar_pure tOk rfl rfl rfl ?_ ?_
          · unfold inI64; omega
          refine ar_pure tOk rfl rfl rfl trivial ?_
          refine ar_nil ?_
          refine ag_ent (ent_weak (g' := (stOutL_0 L (i + 1, OR.errB (s) (4))).1) (h' := (stOutL_0 L (i + 1, OR.errB (s) (4))).2) [0, 1] rfl rfl rfl rfl ?_ ?_ rfl) (hrec _ (show prOutL_0 L (i + 1, OR.errB (s) (4)) from ?_) (show _ < _ from ?_))
          · exact ⟨⟨rfl, rfl⟩, ⟨rfl, rfl⟩, ⟨rfl, by exact eqI (by omega)⟩, trivial⟩
          · exact ⟨⟨rfl, rfl, rfl⟩, ⟨rfl, rfl, rfl⟩, trivial⟩
          · refine ⟨by omega, ?_⟩
            rw [wf_next hs]
            exact rel_bufR hr (by simp [fcode, badN, h25, hn]) (by decide)
          · show L.length - (i + 1) < L.length - i; omega
        · skip
          refine ag_reg ?_
          refine ar_pure tOk rfl rfl rfl trivial ?_
          refine ar_pure tOk rfl rfl rfl trivial ?_
          refine ar_pure tOk rfl rfl rfl trivial ?_
          refine ar_pure tOk rfl rfl rfl ?_ ?_
          · refine ⟨?_, ?_⟩ <;> first | omega | exact fldC_ne hs | (refine ⟨?_, ?_⟩ <;> omega)
          refine ar_pure tOk rfl rfl rfl trivial ?_
          refine ar_loadAs tOk (.r (.int .i64 f.n)) rfl rfl rfl rfl rfl rfl rfl (.inl ⟨rfl, by rw [addo_eq, mulz_eq, Int.toNat_natCast]; exact fldC_at hs rfl⟩) ?_
          refine ar_obj [0, 1] (w_NumLB s f.n hn hsl hl) rfl rfl (handed_of rfl rfl (by decide) ⟨rfl, rfl, rfl, rfl, rfl, rfl, trivial⟩) rfl rfl rfl rfl ?_
          rintro _ _ ⟨rfl, rfl⟩
          refine ⟨_, _, rfl, ?_⟩
          refine ar_nil ?_
          refine ag_inBlock ?_
          refine ag_inBlock ?_
          refine ag_ent (ent_weak (g' := [(0, roF L), (4, .ptr 0 0), (5, .r (.int .i64 (i : Int)))]) (h' := oB (s) (5) true) [0, 1] rfl rfl rfl rfl ?_ ?_ rfl) ?_
          · exact ⟨⟨rfl, rfl⟩, ⟨rfl, rfl⟩, ⟨rfl, rfl⟩, trivial⟩
          · exact ⟨⟨rfl, rfl, rfl⟩, ⟨rfl, rfl, rfl⟩, trivial⟩
          refine ag_reg ?_
          refine ar_pure tOk rfl rfl rfl trivial ?_
          refine ar_pure tOk rfl rfl rfl ?_ ?_
          · unfold inI64; omega
          refine ar_pure tOk rfl rfl rfl trivial ?_
          refine ar_nil ?_
          refine ag_ent (ent_weak (g' := (stOutL_0 L (i + 1, OR.errB (s) (5))).1) (h' := (stOutL_0 L (i + 1, OR.errB (s) (5))).2) [0, 1] rfl rfl rfl rfl ?_ ?_ rfl) (hrec _ (show prOutL_0 L (i + 1, OR.errB (s) (5)) from ?_) (show _ < _ from ?_))
          · exact ⟨⟨rfl, rfl⟩, ⟨rfl, rfl⟩, ⟨rfl, by exact eqI (by omega)⟩, trivial⟩
          · exact ⟨⟨rfl, rfl, rfl⟩, ⟨rfl, rfl, rfl⟩, trivial⟩
          · refine ⟨by omega, ?_⟩
            rw [wf_next hs]
            exact rel_bufL (b := numL 6 f.n) hr (by simp [fcode, badN, h25, hn]) (by simp [fbytes, h25]) (by rw [numL_length]; omega)
          · show L.length - (i + 1) < L.length - i; omega
        · skip
          refine ag_reg ?_
          refine ar_pure tOk rfl rfl rfl trivial ?_
          refine ar_pure tOk rfl rfl rfl trivial ?_
          refine ar_pure tOk rfl rfl rfl trivial ?_
          refine ar_pure tOk rfl rfl rfl ?_ ?_
          · refine ⟨?_, ?_⟩ <;> first | omega | exact fldC_ne hs | (refine ⟨?_, ?_⟩ <;> omega)
          refine ar_pure tOk rfl rfl rfl trivial ?_
          refine ar_loadAs tOk (.r (.int .i64 f.n)) rfl rfl rfl rfl rfl rfl rfl (.inl ⟨rfl, by rw [addo_eq, mulz_eq, Int.toNat_natCast]; exact fldC_at hs rfl⟩) ?_
          refine ar_obj [0, 1] (w_NumWB s f.n hn hl) rfl rfl (handed_of rfl rfl (by decide) ⟨rfl, rfl, rfl, rfl, rfl, rfl, trivial⟩) rfl rfl rfl rfl ?_
          rintro _ _ ⟨rfl, rfl⟩
          refine ⟨_, _, rfl, ?_⟩
          refine ar_nil ?_
          refine ag_inBlock ?_
          refine ag_inBlock ?_
          refine ag_ent (ent_weak (g' := [(0, roF L), (4, .ptr 0 0), (5, .r (.int .i64 (i : Int)))]) (h' := oB (s ++ numL 6 f.n) 0 true) [0, 2] rfl rfl rfl rfl ?_ ?_ rfl) ?_
          · exact ⟨⟨rfl, rfl⟩, ⟨rfl, rfl⟩, ⟨rfl, rfl⟩, trivial⟩
          · exact ⟨⟨rfl, rfl, rfl⟩, ⟨rfl, rfl, rfl⟩, trivial⟩
          refine ag_reg ?_
          refine ar_pure tOk rfl rfl rfl trivial ?_
          refine ar_pure tOk rfl rfl rfl ?_ ?_
          · unfold inI64; omega
          refine ar_pure tOk rfl rfl rfl trivial ?_
          refine ar_nil ?_
          refine ag_ent (ent_weak (g' := (stOutL_0 L (i + 1, OR.buf (s ++ numL 6 f.n))).1) (h' := (stOutL_0 L (i + 1, OR.buf (s ++ numL 6 f.n))).2) [0, 1] rfl rfl rfl rfl ?_ ?_ rfl) (hrec _ (show prOutL_0 L (i + 1, OR.buf (s ++ numL 6 f.n)) from ?_) (show _ < _ from ?_))
          · exact ⟨⟨rfl, rfl⟩, ⟨rfl, rfl⟩, ⟨rfl, by exact eqI (by omega)⟩, trivial⟩
          · exact ⟨⟨rfl, rfl, rfl⟩, ⟨rfl, rfl, rfl⟩, trivial⟩
          · refine ⟨by omega, ?_⟩
            rw [wf_next hs]
            exact rel_bufW hr (by simp [fcode, badN, h25, hn]) (by simp [fbytes, h25]) (by rw [numL_length]; omega)
          · show L.length - (i + 1) < L.length - i; omega
      · intro h25
        refine ag_seq ?_
        refine ag_reg ?_
        refine ar_pure tOk rfl rfl rfl trivial ?_
        refine ar_pure tOk rfl rfl rfl trivial ?_
        refine ar_nil ?_
        refine ag_if rfl ?_ ?_
        · intro h34
          rcases (show f.t.length > 1024 ∨ (¬ f.t.length > 1024 ∧ s.length + (2 + f.t.length) > 8192) ∨ (¬ f.t.length > 1024 ∧ s.length + (2 + f.t.length) ≤ 8192) by omega) with hn | ⟨hn, hl⟩ | ⟨hn, hl⟩
          · skip
            refine ag_reg ?_
            refine ar_pure tOk rfl rfl rfl trivial ?_
            refine ar_pure tOk rfl rfl rfl trivial ?_
            refine ar_pure tOk rfl rfl rfl trivial ?_
            refine ar_pure tOk rfl rfl rfl ?_ ?_
            · refine ⟨?_, ?_⟩ <;> first | omega | exact fldC_ne hs | (refine ⟨?_, ?_⟩ <;> omega)
            refine ar_pure tOk rfl rfl rfl trivial ?_
            refine ar_loadAs tOk (.r (.str f.t)) rfl rfl rfl rfl rfl rfl rfl (.inl ⟨rfl, by rw [addo_eq, mulz_eq, Int.toNat_natCast]; exact fldC_at hs rfl⟩) ?_
            refine ar_obj [0, 1] (w_TextRB s f.t hok.1 hn) rfl rfl (handed_of rfl rfl (by decide) ⟨rfl, rfl, rfl, rfl, rfl, rfl, trivial⟩) rfl rfl rfl rfl ?_
            rintro _ _ ⟨rfl, rfl⟩
            refine ⟨_, _, rfl, ?_⟩
            refine ar_nil ?_
            refine ag_inBlock ?_
            refine ag_inBlock ?_
            refine ag_ent (ent_weak (g' := [(0, roF L), (4, .ptr 0 0), (5, .r (.int .i64 (i : Int)))]) (h' := oB (s) (5) true) [0, 1] rfl rfl rfl rfl ?_ ?_ rfl) ?_
            · exact ⟨⟨rfl, rfl⟩, ⟨rfl, rfl⟩, ⟨rfl, rfl⟩, trivial⟩
            · exact ⟨⟨rfl, rfl, rfl⟩, ⟨rfl, rfl, rfl⟩, trivial⟩
            refine ag_reg ?_
            refine ar_pure tOk rfl rfl rfl trivial ?_
            refine ar_pure tOk rfl rfl rfl ?_ ?_
            · unfold inI64; omega
            refine ar_pure tOk rfl rfl rfl trivial ?_
            refine ar_nil ?_
            refine ag_ent (ent_weak (g' := (stOutL_0 L (i + 1, OR.errB (s) (5))).1) (h' := (stOutL_0 L (i + 1, OR.errB (s) (5))).2) [0, 1] rfl rfl rfl rfl ?_ ?_ rfl) (hrec _ (show prOutL_0 L (i + 1, OR.errB (s) (5)) from ?_) (show _ < _ from ?_))
            · exact ⟨⟨rfl, rfl⟩, ⟨rfl, rfl⟩, ⟨rfl, by exact eqI (by omega)⟩, trivial⟩
            · exact ⟨⟨rfl, rfl, rfl⟩, ⟨rfl, rfl, rfl⟩, trivial⟩
            · refine ⟨by omega, ?_⟩
              rw [wf_next hs]
              exact rel_bufR hr (by simp [fcode, badN, h25, h34, hn]) (by decide)
            · show L.length - (i + 1) < L.length - i; omega
          · skip
            refine ag_reg ?_
            refine ar_pure tOk rfl rfl rfl trivial ?_
            refine ar_pure tOk rfl rfl rfl trivial ?_
            refine ar_pure tOk rfl rfl rfl trivial ?_
            refine ar_pure tOk rfl rfl rfl ?_ ?_
            · refine ⟨?_, ?_⟩ <;> first | omega | exact fldC_ne hs | (refine ⟨?_, ?_⟩ <;> omega)
            refine ar_pure tOk rfl rfl rfl trivial ?_
            refine ar_loadAs tOk (.r (.str f.t)) rfl rfl rfl rfl rfl rfl rfl (.inl ⟨rfl, by rw [addo_eq, mulz_eq, Int.toNat_natCast]; exact fldC_at hs rfl⟩) ?_
            refine ar_obj [0, 1] (w_TextLB s f.t hok.1 hn hsl hl) rfl rfl (handed_of rfl rfl (by decide) ⟨rfl, rfl, rfl, rfl, rfl, rfl, trivial⟩) rfl rfl rfl rfl ?_
            rintro _ _ ⟨rfl, rfl⟩
            refine ⟨_, _, rfl, ?_⟩
            refine ar_nil ?_
            refine ag_inBlock ?_
            refine ag_inBlock ?_
            refine ag_ent (ent_weak (g' := [(0, roF L), (4, .ptr 0 0), (5, .r (.int .i64 (i : Int)))]) (h' := oB (s) (5) true) [0, 1] rfl rfl rfl rfl ?_ ?_ rfl) ?_
            · exact ⟨⟨rfl, rfl⟩, ⟨rfl, rfl⟩, ⟨rfl, rfl⟩, trivial⟩
            · exact ⟨⟨rfl, rfl, rfl⟩, ⟨rfl, rfl, rfl⟩, trivial⟩
            refine ag_reg ?_
            refine ar_pure tOk rfl rfl rfl trivial ?_
            refine ar_pure tOk rfl rfl rfl ?_ ?_
            · unfold inI64; omega
            refine ar_pure tOk rfl rfl rfl trivial ?_
            refine ar_nil ?_
            refine ag_ent (ent_weak (g' := (stOutL_0 L (i + 1, OR.errB (s) (5))).1) (h' := (stOutL_0 L (i + 1, OR.errB (s) (5))).2) [0, 1] rfl rfl rfl rfl ?_ ?_ rfl) (hrec _ (show prOutL_0 L (i + 1, OR.errB (s) (5)) from ?_) (show _ < _ from ?_))
            · exact ⟨⟨rfl, rfl⟩, ⟨rfl, rfl⟩, ⟨rfl, by exact eqI (by omega)⟩, trivial⟩
            · exact ⟨⟨rfl, rfl, rfl⟩, ⟨rfl, rfl, rfl⟩, trivial⟩
            · refine ⟨by omega, ?_⟩
              rw [wf_next hs]
              exact rel_bufL (b := txt f.t) hr (by simp [fcode, badN, h25, h34, hn]) (by simp [fbytes, h25, h34]) (by rw [txt_length]; omega)
            · show L.length - (i + 1) < L.length - i; omega
          · skip
            refine ag_reg ?_
            refine ar_pure tOk rfl rfl rfl trivial ?_
            refine ar_pure tOk rfl rfl rfl trivial ?_
            refine ar_pure tOk rfl rfl rfl trivial ?_
            refine ar_pure tOk rfl rfl rfl ?_ ?_
            · refine ⟨?_, ?_⟩ <;> first | omega | exact fldC_ne hs | (refine ⟨?_, ?_⟩ <;> omega)
            refine ar_pure tOk rfl rfl rfl trivial ?_
            refine ar_loadAs tOk (.r (.str f.t)) rfl rfl rfl rfl rfl rfl rfl (.inl ⟨rfl, by rw [addo_eq, mulz_eq, Int.toNat_natCast]; exact fldC_at hs rfl⟩) ?_
            refine ar_obj [0, 1] (w_TextWB s f.t hok.1 hn hl) rfl rfl (handed_of rfl rfl (by decide) ⟨rfl, rfl, rfl, rfl, rfl, rfl, trivial⟩) rfl rfl rfl rfl ?_
            rintro _ _ ⟨rfl, rfl⟩
            refine ⟨_, _, rfl, ?_⟩
            refine ar_nil ?_
            refine ag_inBlock ?_
            refine ag_inBlock ?_
            refine ag_ent (ent_weak (g' := [(0, roF L), (4, .ptr 0 0), (5, .r (.int .i64 (i : Int)))]) (h' := oB (s ++ txt f.t) 0 true) [0, 2] rfl rfl rfl rfl ?_ ?_ rfl) ?_
            · exact ⟨⟨rfl, rfl⟩, ⟨rfl, rfl⟩, ⟨rfl, rfl⟩, trivial⟩
            · exact ⟨⟨rfl, rfl, rfl⟩, ⟨rfl, rfl, rfl⟩, trivial⟩
            refine ag_reg ?_
            refine ar_pure tOk rfl rfl rfl trivial ?_
            refine ar_pure tOk rfl rfl rfl ?_ ?_
            · unfold inI64; omega
            refine ar_pure tOk rfl rfl rfl trivial ?_
            refine ar_nil ?_
            refine ag_ent (ent_weak (g' := (stOutL_0 L (i + 1, OR.buf (s ++ txt f.t))).1) (h' := (stOutL_0 L (i + 1, OR.buf (s ++ txt f.t))).2) [0, 1] rfl rfl rfl rfl ?_ ?_ rfl) (hrec _ (show prOutL_0 L (i + 1, OR.buf (s ++ txt f.t)) from ?_) (show _ < _ from ?_))
            · exact ⟨⟨rfl, rfl⟩, ⟨rfl, rfl⟩, ⟨rfl, by exact eqI (by omega)⟩, trivial⟩
            · exact ⟨⟨rfl, rfl, rfl⟩, ⟨rfl, rfl, rfl⟩, trivial⟩
            · refine ⟨by omega, ?_⟩
              rw [wf_next hs]
              exact rel_bufW hr (by simp [fcode, badN, h25, h34, hn]) (by simp [fbytes, h25, h34]) (by rw [txt_length]; omega)
            · show L.length - (i + 1) < L.length - i; omega
        · intro h34
          rcases (show s.length + 32 > 8192 ∨ s.length + 32 ≤ 8192 by omega) with hl | hl
          · skip
            refine ag_reg ?_
            refine ar_pure tOk rfl rfl rfl trivial ?_
            refine ar_pure tOk rfl rfl rfl trivial ?_
            refine ar_pure tOk rfl rfl rfl trivial ?_
            refine ar_pure tOk rfl rfl rfl ?_ ?_
            · refine ⟨?_, ?_⟩ <;> first | omega | exact fldC_ne hs | (refine ⟨?_, ?_⟩ <;> omega)
            refine ar_pure tOk rfl rfl rfl trivial ?_
            refine ar_loadAs tOk (wA f.x0 f.x1 f.x2 f.x3) rfl rfl rfl rfl rfl rfl rfl (.inr ⟨rfl, _, rfl, by rw [addo_eq, mulz_eq, Int.toNat_natCast]; exact fldC_wide hs, rfl⟩) ?_
            refine ar_obj [0, 1] (w_WideLB s f.x0 f.x1 f.x2 f.x3 hok.2.1 hok.2.2.1 hok.2.2.2.1 hok.2.2.2.2 hsl hl) rfl rfl (handed_of rfl rfl (by decide) ⟨rfl, rfl, rfl, rfl, rfl, rfl, trivial⟩) rfl rfl rfl rfl ?_
            rintro _ _ ⟨rfl, rfl⟩
            refine ⟨_, _, rfl, ?_⟩
            refine ar_nil ?_
            refine ag_inBlock ?_
            refine ag_inBlock ?_
            refine ag_ent (ent_weak (g' := [(0, roF L), (4, .ptr 0 0), (5, .r (.int .i64 (i : Int)))]) (h' := oB (s) (5) true) [0, 1] rfl rfl rfl rfl ?_ ?_ rfl) ?_
            · exact ⟨⟨rfl, rfl⟩, ⟨rfl, rfl⟩, ⟨rfl, rfl⟩, trivial⟩
            · exact ⟨⟨rfl, rfl, rfl⟩, ⟨rfl, rfl, rfl⟩, trivial⟩
            refine ag_reg ?_
            refine ar_pure tOk rfl rfl rfl trivial ?_
            refine ar_pure tOk rfl rfl rfl ?_ ?_
            · unfold inI64; omega
            refine ar_pure tOk rfl rfl rfl trivial ?_
            refine ar_nil ?_
            refine ag_ent (ent_weak (g' := (stOutL_0 L (i + 1, OR.errB (s) (5))).1) (h' := (stOutL_0 L (i + 1, OR.errB (s) (5))).2) [0, 1] rfl rfl rfl rfl ?_ ?_ rfl) (hrec _ (show prOutL_0 L (i + 1, OR.errB (s) (5)) from ?_) (show _ < _ from ?_))
            · exact ⟨⟨rfl, rfl⟩, ⟨rfl, rfl⟩, ⟨rfl, by exact eqI (by omega)⟩, trivial⟩
            · exact ⟨⟨rfl, rfl, rfl⟩, ⟨rfl, rfl, rfl⟩, trivial⟩
            · refine ⟨by omega, ?_⟩
              rw [wf_next hs]
              exact rel_bufL (b := wideL f.x0 f.x1 f.x2 f.x3) hr (by simp [fcode, badN, h25, h34]) (by simp [fbytes, h25, h34]) (by rw [wideL_length]; omega)
            · show L.length - (i + 1) < L.length - i; omega
          · skip
            refine ag_reg ?_
            refine ar_pure tOk rfl rfl rfl trivial ?_
            refine ar_pure tOk rfl rfl rfl trivial ?_
            refine ar_pure tOk rfl rfl rfl trivial ?_
            refine ar_pure tOk rfl rfl rfl ?_ ?_
            · refine ⟨?_, ?_⟩ <;> first | omega | exact fldC_ne hs | (refine ⟨?_, ?_⟩ <;> omega)
            refine ar_pure tOk rfl rfl rfl trivial ?_
            refine ar_loadAs tOk (wA f.x0 f.x1 f.x2 f.x3) rfl rfl rfl rfl rfl rfl rfl (.inr ⟨rfl, _, rfl, by rw [addo_eq, mulz_eq, Int.toNat_natCast]; exact fldC_wide hs, rfl⟩) ?_
            refine ar_obj [0, 1] (w_WideWB s f.x0 f.x1 f.x2 f.x3 hok.2.1 hok.2.2.1 hok.2.2.2.1 hok.2.2.2.2 hl) rfl rfl (handed_of rfl rfl (by decide) ⟨rfl, rfl, rfl, rfl, rfl, rfl, trivial⟩) rfl rfl rfl rfl ?_
            rintro _ _ ⟨rfl, rfl⟩
            refine ⟨_, _, rfl, ?_⟩
            refine ar_nil ?_
            refine ag_inBlock ?_
            refine ag_inBlock ?_
            refine ag_ent (ent_weak (g' := [(0, roF L), (4, .ptr 0 0), (5, .r (.int .i64 (i : Int)))]) (h' := oB (s ++ wideL f.x0 f.x1 f.x2 f.x3) 0 true) [0, 2] rfl rfl rfl rfl ?_ ?_ rfl) ?_
            · exact ⟨⟨rfl, rfl⟩, ⟨rfl, rfl⟩, ⟨rfl, rfl⟩, trivial⟩
            · exact ⟨⟨rfl, rfl, rfl⟩, ⟨rfl, rfl, rfl⟩, trivial⟩
            refine ag_reg ?_
            refine ar_pure tOk rfl rfl rfl trivial ?_
            refine ar_pure tOk rfl rfl rfl ?_ ?_
            · unfold inI64; omega
            refine ar_pure tOk rfl rfl rfl trivial ?_
            refine ar_nil ?_
            refine ag_ent (ent_weak (g' := (stOutL_0 L (i + 1, OR.buf (s ++ wideL f.x0 f.x1 f.x2 f.x3))).1) (h' := (stOutL_0 L (i + 1, OR.buf (s ++ wideL f.x0 f.x1 f.x2 f.x3))).2) [0, 1] rfl rfl rfl rfl ?_ ?_ rfl) (hrec _ (show prOutL_0 L (i + 1, OR.buf (s ++ wideL f.x0 f.x1 f.x2 f.x3)) from ?_) (show _ < _ from ?_))
            · exact ⟨⟨rfl, rfl⟩, ⟨rfl, rfl⟩, ⟨rfl, by exact eqI (by omega)⟩, trivial⟩
            · exact ⟨⟨rfl, rfl, rfl⟩, ⟨rfl, rfl, rfl⟩, trivial⟩
            · refine ⟨by omega, ?_⟩
              rw [wf_next hs]
              exact rel_bufW hr (by simp [fcode, badN, h25, h34]) (by simp [fbytes, h25, h34]) (by rw [wideL_length]; omega)
            · show L.length - (i + 1) < L.length - i; omega
    · intro h10
      refine ag_exit rfl ?_
      refine ag_seq ?_
      refine ag_reg ?_
      refine ar_pure tOk rfl rfl rfl trivial ?_
      refine ar_qd rfl (qop_objR [0, 1] (w_DoneB s (by omega)) (by rintro _ _ ⟨rfl, rfl⟩; exact ⟨rfl, rfl⟩) rfl rfl (handed_of rfl rfl (by decide) ⟨rfl, rfl, rfl, rfl, rfl, rfl, trivial⟩) rfl rfl) rfl rfl rfl rfl ?_
      refine ar_pure tOk rfl rfl rfl trivial ?_
      refine ar_pure tOk rfl rfl rfl trivial ?_
      refine ar_pure tOk rfl rfl rfl trivial ?_
      refine ar_pure tOk rfl rfl rfl trivial ?_
      refine ar_nil ?_
      have hiL : i = L.length := by omega
      subst hiL
      have hr2 : wf L L.length = _ := hr.1
      refine ag_ret tOk Try.func11 rfl rfl (by simp) ?_
      rw [hr2]; rfl
  | errN e =>
    obtain ⟨hi, hr⟩ : _ := hp
    refine ag_ent (ent_weak (g' := [(0, roF L), (4, .ptr 0 0), (5, .r (.int .i64 (i : Int)))]) (h' := oN (e) true) [0] rfl rfl rfl rfl ?_ ?_ rfl) ?_
    · exact ⟨⟨rfl, rfl⟩, ⟨rfl, rfl⟩, ⟨rfl, rfl⟩, trivial⟩
    · exact ⟨⟨rfl, rfl, rfl⟩, trivial⟩
    have he : e ≠ 0 := hr.2
    refine ag_seq ?_
    refine ag_seq ?_
    refine ag_reg ?_
    refine ar_pure tOk rfl rfl rfl trivial ?_
    refine ar_pure tOk rfl rfl rfl trivial ?_
    refine ar_pure tOk rfl rfl rfl trivial ?_
    refine ar_pure tOk rfl rfl rfl trivial ?_
    refine ar_nil ?_
    refine ag_if rfl ?_ ?_
    · intro h10
      have hlt : i < L.length := by omega
      obtain ⟨f, hs⟩ := get_fd hlt
      have hok := ok_fd hF hs
      refine ag_skip ?_
      refine ag_seq ?_
      refine ag_block ?_
      refine ag_seq ?_
      refine ag_reg ?_
      refine ar_pure tOk rfl rfl rfl trivial ?_
      refine ar_pure tOk rfl rfl rfl trivial ?_
      refine ar_pure tOk rfl rfl rfl ?_ ?_
      · refine ⟨?_, ?_⟩ <;> first | omega | exact fldC_ne hs | (refine ⟨?_, ?_⟩ <;> omega)
      refine ar_loadAs tOk (.agg (f.cells.map .r)) rfl rfl rfl rfl rfl rfl rfl (.inr ⟨rfl, _, rfl, by rw [mulz_eq, Int.toNat_natCast]; exact fldC_agg hs, rfl⟩) ?_
      refine ar_pur (w_kind f) rfl rfl rfl rfl rfl rfl rfl ?_
      refine ar_nil ?_
      refine ag_block ?_
      refine ag_seq ?_
      refine ag_reg ?_
      refine ar_pure tOk rfl rfl rfl trivial ?_
      refine ar_pure tOk rfl rfl rfl trivial ?_
      refine ar_nil ?_
      refine ag_if rfl ?_ ?_
      · intro h25
        refine ag_reg ?_
        refine ar_pure tOk rfl rfl rfl trivial ?_
        refine ar_pure tOk rfl rfl rfl trivial ?_
        refine ar_pure tOk rfl rfl rfl trivial ?_
        refine ar_pure tOk rfl rfl rfl ?_ ?_
        · refine ⟨?_, ?_⟩ <;> first | omega | exact fldC_ne hs | (refine ⟨?_, ?_⟩ <;> omega)
        refine ar_pure tOk rfl rfl rfl trivial ?_
        refine ar_loadAs tOk (.r (.int .i64 f.n)) rfl rfl rfl rfl rfl rfl rfl (.inl ⟨rfl, by rw [addo_eq, mulz_eq, Int.toNat_natCast]; exact fldC_at hs rfl⟩) ?_
        refine ar_obj [0] (w_NumEAN f.n e he) rfl rfl (handed_of rfl rfl (by decide) ⟨rfl, rfl, rfl, trivial⟩) rfl rfl rfl rfl ?_
        rintro _ _ ⟨rfl, rfl⟩
        refine ⟨_, _, rfl, ?_⟩
        refine ar_nil ?_
        refine ag_inBlock ?_
        refine ag_inBlock ?_
        refine ag_ent (ent_weak (g' := [(0, roF L), (4, .ptr 0 0), (5, .r (.int .i64 (i : Int)))]) (h' := oN (e) true) [0] rfl rfl rfl rfl ?_ ?_ rfl) ?_
        · exact ⟨⟨rfl, rfl⟩, ⟨rfl, rfl⟩, ⟨rfl, rfl⟩, trivial⟩
        · exact ⟨⟨rfl, rfl, rfl⟩, trivial⟩
        refine ag_reg ?_
        refine ar_pure tOk rfl rfl rfl trivial ?_
        refine ar_pure tOk rfl rfl rfl ?_ ?_
        · unfold inI64; omega
        refine ar_pure tOk rfl rfl rfl trivial ?_
        refine ar_nil ?_
        refine ag_ent (ent_weak (g' := (stOutL_0 L (i + 1, OR.errN (e))).1) (h' := (stOutL_0 L (i + 1, OR.errN (e))).2) [0] rfl rfl rfl rfl ?_ ?_ rfl) (hrec _ (show prOutL_0 L (i + 1, OR.errN (e)) from ?_) (show _ < _ from ?_))
        · exact ⟨⟨rfl, rfl⟩, ⟨rfl, rfl⟩, ⟨rfl, by exact eqI (by omega)⟩, trivial⟩
        · exact ⟨⟨rfl, rfl, rfl⟩, trivial⟩
        · refine ⟨by omega, ?_⟩
          rw [wf_next hs]
          exact rel_errN hr
        · show L.length - (i + 1) < L.length - i; omega
      · intro h25
        refine ag_seq ?_
        refine ag_reg ?_
        refine ar_pure tOk rfl rfl rfl trivial ?_
        refine ar_pure tOk rfl rfl rfl trivial ?_
        refine ar_nil ?_
        refine ag_if rfl ?_ ?_
        · intro h34
          refine ag_reg ?_
          refine ar_pure tOk rfl rfl rfl trivial ?_
          refine ar_pure tOk rfl rfl rfl trivial ?_
          refine ar_pure tOk rfl rfl rfl trivial ?_
          refine ar_pure tOk rfl rfl rfl ?_ ?_
          · refine ⟨?_, ?_⟩ <;> first | omega | exact fldC_ne hs | (refine ⟨?_, ?_⟩ <;> omega)
          refine ar_pure tOk rfl rfl rfl trivial ?_
          refine ar_loadAs tOk (.r (.str f.t)) rfl rfl rfl rfl rfl rfl rfl (.inl ⟨rfl, by rw [addo_eq, mulz_eq, Int.toNat_natCast]; exact fldC_at hs rfl⟩) ?_
          refine ar_obj [0] (w_TextEAN f.t hok.1 e he) rfl rfl (handed_of rfl rfl (by decide) ⟨rfl, rfl, rfl, trivial⟩) rfl rfl rfl rfl ?_
          rintro _ _ ⟨rfl, rfl⟩
          refine ⟨_, _, rfl, ?_⟩
          refine ar_nil ?_
          refine ag_inBlock ?_
          refine ag_inBlock ?_
          refine ag_ent (ent_weak (g' := [(0, roF L), (4, .ptr 0 0), (5, .r (.int .i64 (i : Int)))]) (h' := oN (e) true) [0] rfl rfl rfl rfl ?_ ?_ rfl) ?_
          · exact ⟨⟨rfl, rfl⟩, ⟨rfl, rfl⟩, ⟨rfl, rfl⟩, trivial⟩
          · exact ⟨⟨rfl, rfl, rfl⟩, trivial⟩
          refine ag_reg ?_
          refine ar_pure tOk rfl rfl rfl trivial ?_
          refine ar_pure tOk rfl rfl rfl ?_ ?_
          · unfold inI64; omega
          refine ar_pure tOk rfl rfl rfl trivial ?_
          refine ar_nil ?_
          refine ag_ent (ent_weak (g' := (stOutL_0 L (i + 1, OR.errN (e))).1) (h' := (stOutL_0 L (i + 1, OR.errN (e))).2) [0] rfl rfl rfl rfl ?_ ?_ rfl) (hrec _ (show prOutL_0 L (i + 1, OR.errN (e)) from ?_) (show _ < _ from ?_))
          · exact ⟨⟨rfl, rfl⟩, ⟨rfl, rfl⟩, ⟨rfl, by exact eqI (by omega)⟩, trivial⟩
          · exact ⟨⟨rfl, rfl, rfl⟩, trivial⟩
          · refine ⟨by omega, ?_⟩
            rw [wf_next hs]
            exact rel_errN hr
          · show L.length - (i + 1) < L.length - i; omega
        · intro h34
          refine ag_reg ?_
          refine ar_pure tOk rfl rfl rfl trivial ?_
          refine ar_pure tOk rfl rfl rfl trivial ?_
          refine ar_pure tOk rfl rfl rfl trivial ?_
          refine ar_pure tOk rfl rfl rfl ?_ ?_
          · refine ⟨?_, ?_⟩ <;> first | omega | exact fldC_ne hs | (refine ⟨?_, ?_⟩ <;> omega)
          refine ar_pure tOk rfl rfl rfl trivial ?_
          refine ar_loadAs tOk (wA f.x0 f.x1 f.x2 f.x3) rfl rfl rfl rfl rfl rfl rfl (.inr ⟨rfl, _, rfl, by rw [addo_eq, mulz_eq, Int.toNat_natCast]; exact fldC_wide hs, rfl⟩) ?_
          refine ar_obj [0] (w_WideEN f.x0 f.x1 f.x2 f.x3 hok.2.1 hok.2.2.1 hok.2.2.2.1 hok.2.2.2.2 e he) rfl rfl (handed_of rfl rfl (by decide) ⟨rfl, rfl, rfl, trivial⟩) rfl rfl rfl rfl ?_
          rintro _ _ ⟨rfl, rfl⟩
          refine ⟨_, _, rfl, ?_⟩
          refine ar_nil ?_
          refine ag_inBlock ?_
          refine ag_inBlock ?_
          refine ag_ent (ent_weak (g' := [(0, roF L), (4, .ptr 0 0), (5, .r (.int .i64 (i : Int)))]) (h' := oN (e) true) [0] rfl rfl rfl rfl ?_ ?_ rfl) ?_
          · exact ⟨⟨rfl, rfl⟩, ⟨rfl, rfl⟩, ⟨rfl, rfl⟩, trivial⟩
          · exact ⟨⟨rfl, rfl, rfl⟩, trivial⟩
          refine ag_reg ?_
          refine ar_pure tOk rfl rfl rfl trivial ?_
          refine ar_pure tOk rfl rfl rfl ?_ ?_
          · unfold inI64; omega
          refine ar_pure tOk rfl rfl rfl trivial ?_
          refine ar_nil ?_
          refine ag_ent (ent_weak (g' := (stOutL_0 L (i + 1, OR.errN (e))).1) (h' := (stOutL_0 L (i + 1, OR.errN (e))).2) [0] rfl rfl rfl rfl ?_ ?_ rfl) (hrec _ (show prOutL_0 L (i + 1, OR.errN (e)) from ?_) (show _ < _ from ?_))
          · exact ⟨⟨rfl, rfl⟩, ⟨rfl, rfl⟩, ⟨rfl, by exact eqI (by omega)⟩, trivial⟩
          · exact ⟨⟨rfl, rfl, rfl⟩, trivial⟩
          · refine ⟨by omega, ?_⟩
            rw [wf_next hs]
            exact rel_errN hr
          · show L.length - (i + 1) < L.length - i; omega
    · intro h10
      refine ag_exit rfl ?_
      refine ag_seq ?_
      refine ag_reg ?_
      refine ar_pure tOk rfl rfl rfl trivial ?_
      refine ar_qd rfl (qop_objR [0] (w_DoneEN e he) (by rintro _ _ ⟨rfl, rfl⟩; exact ⟨rfl, rfl⟩) rfl rfl (handed_of rfl rfl (by decide) ⟨rfl, rfl, rfl, trivial⟩) rfl rfl) rfl rfl rfl rfl ?_
      refine ar_pure tOk rfl rfl rfl trivial ?_
      refine ar_pure tOk rfl rfl rfl trivial ?_
      refine ar_pure tOk rfl rfl rfl trivial ?_
      refine ar_pure tOk rfl rfl rfl trivial ?_
      refine ar_nil ?_
      have hiL : i = L.length := by omega
      subst hiL
      have hr2 : wf L L.length = _ := hr.1
      refine ag_ret tOk Try.func11 rfl rfl (by simp) ?_
      rw [hr2]; rfl
  | errB s e =>
    obtain ⟨hi, hr⟩ : _ := hp
    refine ag_ent (ent_weak (g' := [(0, roF L), (4, .ptr 0 0), (5, .r (.int .i64 (i : Int)))]) (h' := oB (s) (e) true) [0, 1] rfl rfl rfl rfl ?_ ?_ rfl) ?_
    · exact ⟨⟨rfl, rfl⟩, ⟨rfl, rfl⟩, ⟨rfl, rfl⟩, trivial⟩
    · exact ⟨⟨rfl, rfl, rfl⟩, ⟨rfl, rfl, rfl⟩, trivial⟩
    have he : e ≠ 0 := hr.2
    refine ag_seq ?_
    refine ag_seq ?_
    refine ag_reg ?_
    refine ar_pure tOk rfl rfl rfl trivial ?_
    refine ar_pure tOk rfl rfl rfl trivial ?_
    refine ar_pure tOk rfl rfl rfl trivial ?_
    refine ar_pure tOk rfl rfl rfl trivial ?_
    refine ar_nil ?_
    refine ag_if rfl ?_ ?_
    · intro h10
      have hlt : i < L.length := by omega
      obtain ⟨f, hs⟩ := get_fd hlt
      have hok := ok_fd hF hs
      refine ag_skip ?_
      refine ag_seq ?_
      refine ag_block ?_
      refine ag_seq ?_
      refine ag_reg ?_
      refine ar_pure tOk rfl rfl rfl trivial ?_
      refine ar_pure tOk rfl rfl rfl trivial ?_
      refine ar_pure tOk rfl rfl rfl ?_ ?_
      · refine ⟨?_, ?_⟩ <;> first | omega | exact fldC_ne hs | (refine ⟨?_, ?_⟩ <;> omega)
      refine ar_loadAs tOk (.agg (f.cells.map .r)) rfl rfl rfl rfl rfl rfl rfl (.inr ⟨rfl, _, rfl, by rw [mulz_eq, Int.toNat_natCast]; exact fldC_agg hs, rfl⟩) ?_
      refine ar_pur (w_kind f) rfl rfl rfl rfl rfl rfl rfl ?_
      refine ar_nil ?_
      refine ag_block ?_
      refine ag_seq ?_
      refine ag_reg ?_
      refine ar_pure tOk rfl rfl rfl trivial ?_
      refine ar_pure tOk rfl rfl rfl trivial ?_
      refine ar_nil ?_
      refine ag_if rfl ?_ ?_
      · intro h25
        refine ag_reg ?_
        refine ar_pure tOk rfl rfl rfl trivial ?_
        refine ar_pure tOk rfl rfl rfl trivial ?_
        refine ar_pure tOk rfl rfl rfl trivial ?_
        refine ar_pure tOk rfl rfl rfl ?_ ?_
        · refine ⟨?_, ?_⟩ <;> first | omega | exact fldC_ne hs | (refine ⟨?_, ?_⟩ <;> omega)
        refine ar_pure tOk rfl rfl rfl trivial ?_
        refine ar_loadAs tOk (.r (.int .i64 f.n)) rfl rfl rfl rfl rfl rfl rfl (.inl ⟨rfl, by rw [addo_eq, mulz_eq, Int.toNat_natCast]; exact fldC_at hs rfl⟩) ?_
        refine ar_obj [0, 1] (w_NumEAB s f.n e he) rfl rfl (handed_of rfl rfl (by decide) ⟨rfl, rfl, rfl, rfl, rfl, rfl, trivial⟩) rfl rfl rfl rfl ?_
        rintro _ _ ⟨rfl, rfl⟩
        refine ⟨_, _, rfl, ?_⟩
        refine ar_nil ?_
        refine ag_inBlock ?_
        refine ag_inBlock ?_
        refine ag_ent (ent_weak (g' := [(0, roF L), (4, .ptr 0 0), (5, .r (.int .i64 (i : Int)))]) (h' := oB (s) (e) true) [0, 1] rfl rfl rfl rfl ?_ ?_ rfl) ?_
        · exact ⟨⟨rfl, rfl⟩, ⟨rfl, rfl⟩, ⟨rfl, rfl⟩, trivial⟩
        · exact ⟨⟨rfl, rfl, rfl⟩, ⟨rfl, rfl, rfl⟩, trivial⟩
        refine ag_reg ?_
        refine ar_pure tOk rfl rfl rfl trivial ?_
        refine ar_pure tOk rfl rfl rfl ?_ ?_
        · unfold inI64; omega
        refine ar_pure tOk rfl rfl rfl trivial ?_
        refine ar_nil ?_
        refine ag_ent (ent_weak (g' := (stOutL_0 L (i + 1, OR.errB (s) (e))).1) (h' := (stOutL_0 L (i + 1, OR.errB (s) (e))).2) [0, 1] rfl rfl rfl rfl ?_ ?_ rfl) (hrec _ (show prOutL_0 L (i + 1, OR.errB (s) (e)) from ?_) (show _ < _ from ?_))
        · exact ⟨⟨rfl, rfl⟩, ⟨rfl, rfl⟩, ⟨rfl, by exact eqI (by omega)⟩, trivial⟩
        · exact ⟨⟨rfl, rfl, rfl⟩, ⟨rfl, rfl, rfl⟩, trivial⟩
        · refine ⟨by omega, ?_⟩
          rw [wf_next hs]
          exact rel_errB hr
        · show L.length - (i + 1) < L.length - i; omega
      · intro h25
        refine ag_seq ?_
        refine ag_reg ?_
        refine ar_pure tOk rfl rfl rfl trivial ?_
        refine ar_pure tOk rfl rfl rfl trivial ?_
        refine ar_nil ?_
        refine ag_if rfl ?_ ?_
        · intro h34
          refine ag_reg ?_
          refine ar_pure tOk rfl rfl rfl trivial ?_
          refine ar_pure tOk rfl rfl rfl trivial ?_
          refine ar_pure tOk rfl rfl rfl trivial ?_
          refine ar_pure tOk rfl rfl rfl ?_ ?_
          · refine ⟨?_, ?_⟩ <;> first | omega | exact fldC_ne hs | (refine ⟨?_, ?_⟩ <;> omega)
          refine ar_pure tOk rfl rfl rfl trivial ?_
          refine ar_loadAs tOk (.r (.str f.t)) rfl rfl rfl rfl rfl rfl rfl (.inl ⟨rfl, by rw [addo_eq, mulz_eq, Int.toNat_natCast]; exact fldC_at hs rfl⟩) ?_
          refine ar_obj [0, 1] (w_TextEAB s f.t hok.1 e he) rfl rfl (handed_of rfl rfl (by decide) ⟨rfl, rfl, rfl, rfl, rfl, rfl, trivial⟩) rfl rfl rfl rfl ?_
          rintro _ _ ⟨rfl, rfl⟩
          refine ⟨_, _, rfl, ?_⟩
          refine ar_nil ?_
          refine ag_inBlock ?_
          refine ag_inBlock ?_
          refine ag_ent (ent_weak (g' := [(0, roF L), (4, .ptr 0 0), (5, .r (.int .i64 (i : Int)))]) (h' := oB (s) (e) true) [0, 1] rfl rfl rfl rfl ?_ ?_ rfl) ?_
          · exact ⟨⟨rfl, rfl⟩, ⟨rfl, rfl⟩, ⟨rfl, rfl⟩, trivial⟩
          · exact ⟨⟨rfl, rfl, rfl⟩, ⟨rfl, rfl, rfl⟩, trivial⟩
          refine ag_reg ?_
          refine ar_pure tOk rfl rfl rfl trivial ?_
          refine ar_pure tOk rfl rfl rfl ?_ ?_
          · unfold inI64; omega
          refine ar_pure tOk rfl rfl rfl trivial ?_
          refine ar_nil ?_
          refine ag_ent (ent_weak (g' := (stOutL_0 L (i + 1, OR.errB (s) (e))).1) (h' := (stOutL_0 L (i + 1, OR.errB (s) (e))).2) [0, 1] rfl rfl rfl rfl ?_ ?_ rfl) (hrec _ (show prOutL_0 L (i + 1, OR.errB (s) (e)) from ?_) (show _ < _ from ?_))
          · exact ⟨⟨rfl, rfl⟩, ⟨rfl, rfl⟩, ⟨rfl, by exact eqI (by omega)⟩, trivial⟩
          · exact ⟨⟨rfl, rfl, rfl⟩, ⟨rfl, rfl, rfl⟩, trivial⟩
          · refine ⟨by omega, ?_⟩
            rw [wf_next hs]
            exact rel_errB hr
          · show L.length - (i + 1) < L.length - i; omega
        · intro h34
          refine ag_reg ?_
          refine ar_pure tOk rfl rfl rfl trivial ?_
          refine ar_pure tOk rfl rfl rfl trivial ?_
          refine ar_pure tOk rfl rfl rfl trivial ?_
          refine ar_pure tOk rfl rfl rfl ?_ ?_
          · refine ⟨?_, ?_⟩ <;> first | omega | exact fldC_ne hs | (refine ⟨?_, ?_⟩ <;> omega)
          refine ar_pure tOk rfl rfl rfl trivial ?_
          refine ar_loadAs tOk (wA f.x0 f.x1 f.x2 f.x3) rfl rfl rfl rfl rfl rfl rfl (.inr ⟨rfl, _, rfl, by rw [addo_eq, mulz_eq, Int.toNat_natCast]; exact fldC_wide hs, rfl⟩) ?_
          refine ar_obj [0, 1] (w_WideEB s f.x0 f.x1 f.x2 f.x3 hok.2.1 hok.2.2.1 hok.2.2.2.1 hok.2.2.2.2 e he) rfl rfl (handed_of rfl rfl (by decide) ⟨rfl, rfl, rfl, rfl, rfl, rfl, trivial⟩) rfl rfl rfl rfl ?_
          rintro _ _ ⟨rfl, rfl⟩
          refine ⟨_, _, rfl, ?_⟩
          refine ar_nil ?_
          refine ag_inBlock ?_
          refine ag_inBlock ?_
          refine ag_ent (ent_weak (g' := [(0, roF L), (4, .ptr 0 0), (5, .r (.int .i64 (i : Int)))]) (h' := oB (s) (e) true) [0, 1] rfl rfl rfl rfl ?_ ?_ rfl) ?_
          · exact ⟨⟨rfl, rfl⟩, ⟨rfl, rfl⟩, ⟨rfl, rfl⟩, trivial⟩
          · exact ⟨⟨rfl, rfl, rfl⟩, ⟨rfl, rfl, rfl⟩, trivial⟩
          refine ag_reg ?_
          refine ar_pure tOk rfl rfl rfl trivial ?_
          refine ar_pure tOk rfl rfl rfl ?_ ?_
          · unfold inI64; omega
          refine ar_pure tOk rfl rfl rfl trivial ?_
          refine ar_nil ?_
          refine ag_ent (ent_weak (g' := (stOutL_0 L (i + 1, OR.errB (s) (e))).1) (h' := (stOutL_0 L (i + 1, OR.errB (s) (e))).2) [0, 1] rfl rfl rfl rfl ?_ ?_ rfl) (hrec _ (show prOutL_0 L (i + 1, OR.errB (s) (e)) from ?_) (show _ < _ from ?_))
          · exact ⟨⟨rfl, rfl⟩, ⟨rfl, rfl⟩, ⟨rfl, by exact eqI (by omega)⟩, trivial⟩
          · exact ⟨⟨rfl, rfl, rfl⟩, ⟨rfl, rfl, rfl⟩, trivial⟩
          · refine ⟨by omega, ?_⟩
            rw [wf_next hs]
            exact rel_errB hr
          · show L.length - (i + 1) < L.length - i; omega
    · intro h10
      refine ag_exit rfl ?_
      refine ag_seq ?_
      refine ag_reg ?_
      refine ar_pure tOk rfl rfl rfl trivial ?_
      refine ar_qd rfl (qop_objR [0, 1] (w_DoneEB s e he) (by rintro _ _ ⟨rfl, rfl⟩; exact ⟨rfl, rfl⟩) rfl rfl (handed_of rfl rfl (by decide) ⟨rfl, rfl, rfl, rfl, rfl, rfl, trivial⟩) rfl rfl) rfl rfl rfl rfl ?_
      refine ar_pure tOk rfl rfl rfl trivial ?_
      refine ar_pure tOk rfl rfl rfl trivial ?_
      refine ar_pure tOk rfl rfl rfl trivial ?_
      refine ar_pure tOk rfl rfl rfl trivial ?_
      refine ar_nil ?_
      have hiL : i = L.length := by omega
      subst hiL
      have hr2 : wf L L.length = _ := hr.1
      refine ag_ret tOk Try.func11 rfl rfl (by simp) ?_
      rw [hr2]; rfl

theorem w_FieldWrites (L : List Fd) (hL : L.length ≤ 140737488355328) (hF : ∀ f ∈ L, f.ok) : Pur Try.prog 3 [roF L] (.r (.bool true)) := by
  refine spec_of_go (N := 29) Try.func3 rfl (by decide) rfl rfl ?_
  refine ag_seq ?_
  refine ag_reg ?_
  refine ar_pure tOk rfl rfl rfl trivial ?_
  refine ar_nil ?_
  refine ag_seq ?_
  refine ag_reg ?_
  refine ar_pure tOk rfl rfl rfl trivial ?_
  refine ar_pur (w_out L hL hF) rfl rfl rfl rfl rfl rfl rfl ?_
  refine ar_pure tOk rfl rfl rfl trivial ?_
  refine ar_pure tOk rfl rfl rfl trivial ?_
  refine ar_pure tOk rfl rfl rfl trivial ?_
  refine ar_pure tOk rfl rfl rfl trivial ?_
  refine ar_pure tOk rfl rfl rfl trivial ?_
  refine ar_nil ?_
  refine ag_seq ?_
  refine ag_reg ?_
  refine ar_pure tOk rfl rfl rfl trivial ?_
  refine ar_pur (w_putL L hL hF) rfl rfl rfl rfl rfl rfl rfl ?_
  refine ar_new tOk rfl rfl rfl ?_ ?_
  · simp
  refine ar_store tOk rfl rfl rfl trivial ?_
  refine ar_nil ?_
  refine ag_seq ?_
  refine ag_draw0 (by kernel_rfl) (by kernel_rfl) ?_
  refine aq_pure tOk rfl rfl rfl trivial ?_
  refine aq_pur (w_num06 _) rfl rfl rfl rfl rfl rfl rfl ?_
  refine aq_pure tOk rfl rfl rfl trivial ?_
  refine aq_load0 tOk rfl (by kernel_rfl) rfl rfl trivial ?_
  refine aq_pure tOk rfl rfl rfl trivial ?_
  refine aq_pure tOk rfl rfl rfl trivial ?_
  refine aq_pure tOk rfl rfl (by simp) trivial ?_
  refine aq_pure tOk rfl rfl (by simp) trivial ?_
  refine aq_pure tOk rfl rfl (by simp) trivial ?_
  refine aq_load0 tOk rfl (by kernel_rfl) rfl (by simp) trivial ?_
  refine aq_pure tOk rfl rfl (by simp) trivial ?_
  refine aq_pure tOk rfl rfl (by simp) trivial ?_
  refine aq_pure tOk rfl rfl rfl trivial ?_
  refine aq_pure tOk rfl rfl rfl trivial ?_
  refine aq_pur (w_alive06) rfl rfl rfl rfl rfl rfl (by simp) ?_
  refine aq_pure tOk rfl rfl rfl trivial ?_
  refine aq_pure tOk rfl rfl rfl trivial ?_
  refine aq_nil rfl ?_
  refine ag_ret tOk Try.func3 rfl rfl (by simp) ?_
  exact eqB (by simp)

end Go.Proofs.Ytplfajhaehkhnaa
