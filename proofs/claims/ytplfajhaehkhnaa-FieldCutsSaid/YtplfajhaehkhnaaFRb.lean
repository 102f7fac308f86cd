/-
  WALKS: the laws FieldBack and FieldCuts. (Printed by gen.py out of w_frb.py.)
-/
import Derived.Test.YtplfajhaehkhnaaFRl
namespace Go.Proofs.Ytplfajhaehkhnaa
open Go
set_option maxRecDepth 20000
set_option linter.unusedVariables false
set_option linter.unusedSimpArgs false

theorem wf_stop {L : List Fd} {i : Nat} (h : (wf L (i + 1)).2 = 0) : (wf L i).2 = 0 := by
  cases hi : L[i]? with
  | none =>
    have : wf L (i + 1) = wf L i := by unfold wf; rw [List.take_add_one, hi]; simp
    rwa [this] at h
  | some f =>
    by_cases e : (wf L i).2 = 0
    · exact e
    · rw [wf_next hi] at h
      unfold wstep wput at h
      rw [if_pos e] at h
      exact h
theorem wf_stops {L : List Fd} : ∀ {k i : Nat}, (wf L (i + k)).2 = 0 → (wf L i).2 = 0
  | 0, _, h => h
  | k + 1, i, h => wf_stops (k := k) (wf_stop (i := i + k) h)
theorem wf_put {L : List Fd} {i : Nat} {f : Fd} (hs : L[i]? = some f) (h : (wf L (i + 1)).2 = 0) : fcode f = 0 ∧ (wf L (i + 1)).1 = (wf L i).1 ++ fbytes f := by
  have h0 := wf_stop h
  rw [wf_next hs] at h ⊢
  by_cases hc : fcode f = 0
  · have e1 : wstep (wf L i) f = wput (wf L i) (fbytes f) 0 := by unfold wstep; rw [hc, if_neg (by decide)]
    rw [e1] at h ⊢
    unfold wput at h ⊢
    rw [if_neg (by simp [h0]), if_neg (by decide)] at h ⊢
    split at h
    · simp at h
    · rename_i hl
      rw [if_neg hl]
      exact ⟨hc, rfl⟩
  · exfalso
    unfold wstep wput at h
    rw [if_neg (by simp [h0]), if_pos hc] at h
    exact hc h
theorem wf_prefix {L : List Fd} : ∀ {k i : Nat}, (wf L (i + k)).2 = 0 → ∃ r, (wf L (i + k)).1 = (wf L i).1 ++ r
  | 0, _, _ => ⟨[], by simp⟩
  | k + 1, i, h => by
    obtain ⟨r, hr⟩ := wf_prefix (k := k) (i := i) (wf_stop (i := i + k) h)
    cases hi : L[i + k]? with
    | none =>
      have : wf L (i + k + 1) = wf L (i + k) := by unfold wf; rw [List.take_add_one, hi]; simp
      exact ⟨r, by rw [← Nat.add_assoc, this, hr]⟩
    | some f =>
      have := (wf_put hi h).2
      exact ⟨r ++ fbytes f, by rw [← Nat.add_assoc, this, hr, List.append_assoc]⟩
/-- What lies behind the first i fields. -/
def rst (L : List Fd) (i : Nat) : List UInt8 := (wf L L.length).1.drop (wf L i).1.length
theorem rst_step {L : List Fd} {i : Nat} {f : Fd} (he : (wf L L.length).2 = 0) (hs : L[i]? = some f) : fcode f = 0 ∧ rst L i = fbytes f ++ rst L (i + 1) ∧ (wf L (i + 1)).1.length = (wf L i).1.length + (fbytes f).length := by
  have hi : i < L.length := (List.getElem?_eq_some_iff.1 hs).1
  have hk : i + 1 + (L.length - (i + 1)) = L.length := by omega
  have h1 : (wf L (i + 1)).2 = 0 := wf_stops (k := L.length - (i + 1)) (by rw [hk]; exact he)
  obtain ⟨h2, h3⟩ := wf_put hs h1
  obtain ⟨r, hr⟩ := wf_prefix (k := L.length - (i + 1)) (i := i + 1) (by rw [hk]; exact he)
  rw [hk] at hr
  refine ⟨h2, ?_, by rw [h3]; simp⟩
  unfold rst
  rw [hr, List.drop_left, h3, List.append_assoc, List.drop_left]
theorem rst_zero (L : List Fd) : rst L 0 = (wf L L.length).1 := by simp [rst, wf]
theorem rst_end (L : List Fd) : rst L L.length = [] := by simp [rst]
theorem gone_wf (L : List Fd) : ∀ i, gone (wf L i)
  | 0 => by intro h; simp [wf] at h
  | i + 1 => by
    cases hi : L[i]? with
    | none =>
      have : wf L (i + 1) = wf L i := by unfold wf; rw [List.take_add_one, hi]; simp
      rw [this]; exact gone_wf L i
    | some f =>
      rw [wf_next hi]
      unfold wstep wput gone
      split
      · exact gone_wf L i
      · split
        · intro _; rfl
        · split
          · intro _; rfl
          · intro h; simp at h
theorem tkR_app {a r : List UInt8} {n : Int} (hn : n = (a.length : Nat)) : tkR (a ++ r, 0) n = (a, (r, 0)) := by
  subst hn
  rw [tkR_w (by simp)]
  simp
theorem intB_num {n : Int} {k : Nat} (hk : k ≤ 7) (h : 0 ≤ n ∧ n < 256 ^ k) : intB (numL k n) = n := by
  rw [intB, List.take_of_length_le (by rw [numL_length]; omega), intF_numL]
  exact Int.emod_eq_of_lt h.1 h.2
theorem gNu_app {n : Int} {r : List UInt8} (hn : ¬ badN n) : gNu (numL 6 n ++ r, 0) 1099511627776 = (n, (r, 0)) := by
  unfold badN at hn
  unfold gNu
  rw [tkR_app (by rw [numL_length]; rfl), intB_num (by decide) ⟨by omega, by omega⟩, if_neg (by omega)]
theorem gTx_app {t r : List UInt8} (ht : ¬ t.length > 1024) : gTx (txt t ++ r, 0) 1024 = (t, (r, 0)) := by
  unfold gTx
  have e : txt t ++ r = numL 2 (t.length : Int) ++ (t ++ r) := by simp [txt]
  rw [e, tkR_app (by rw [numL_length]; rfl), intB_num (by decide) ⟨by omega, by omega⟩, if_neg (by omega)]
  exact tkR_app rfl
theorem tkW_app {x0 x1 x2 x3 : Int} {r : List UInt8} : tkR (wideL x0 x1 x2 x3 ++ r, 0) 32 = (wideL x0 x1 x2 x3, (r, 0)) := tkR_app (by rw [wideL_length]; rfl)
theorem tkW_fB {f : Fd} {r : List UInt8} (hf : f.ok) : fB (tkR (wideL f.x0 f.x1 f.x2 f.x3 ++ r, 0) 32).1 24 8 = f.x0 ∧ fB (tkR (wideL f.x0 f.x1 f.x2 f.x3 ++ r, 0) 32).1 16 8 = f.x1 ∧ fB (tkR (wideL f.x0 f.x1 f.x2 f.x3 ++ r, 0) 32).1 8 8 = f.x2 ∧ fB (tkR (wideL f.x0 f.x1 f.x2 f.x3 ++ r, 0) 32).1 0 8 = f.x3 := by
  rw [tkW_app]
  have h := fB_wide f.x0 f.x1 f.x2 f.x3 hf.2.1 hf.2.2.1 hf.2.2.2.1 hf.2.2.2.2
  simp only [wA, AVal.agg.injEq, List.cons.injEq, AVal.r.injEq, RVal.int.injEq, true_and, and_true] at h
  exact h
theorem fc_num {f : Fd} (hk : f.kd = 0) (hc : fcode f = 0) : ¬ badN f.n ∧ fbytes f = numL 6 f.n := by
  unfold fcode at hc; unfold fbytes
  rw [if_pos hk] at hc ⊢
  refine ⟨fun h => ?_, rfl⟩
  rw [if_pos h] at hc; exact absurd hc (by decide)
theorem fc_txt {f : Fd} (h0 : ¬ f.kd = 0) (hk : f.kd = 1) (hc : fcode f = 0) : ¬ f.t.length > 1024 ∧ fbytes f = txt f.t := by
  unfold fcode at hc; unfold fbytes
  rw [if_neg h0, if_pos hk] at hc ⊢
  refine ⟨fun h => ?_, rfl⟩
  rw [if_pos h] at hc; exact absurd hc (by decide)
theorem fc_wide {f : Fd} (h0 : ¬ f.kd = 0) (hk : ¬ f.kd = 1) : fbytes f = wideL f.x0 f.x1 f.x2 f.x3 := by
  unfold fbytes; rw [if_neg h0, if_neg hk]
theorem opR_wf (L : List Fd) : opR (wf L L.length).1 = ((wf L L.length).1, 0) := by
  unfold opR; rw [if_neg (by have := wf_len L L.length; omega)]
def hI (w : List UInt8 × Int) : Hp := ⟨1, [(0, some (.mixed [.r (.bs w.1), .r (.int .i64 w.2), .r (.bool true)]))], false⟩

theorem w_FieldBackE (L : List Fd) (hL : L.length ≤ 140737488355328) (hF : ∀ f ∈ L, f.ok) (he : (wf L L.length).2 ≠ 0) : Pur Try.prog 6 [roF L] (.r (.bool true)) := by
  refine spec_of_go (N := 68) Try.func6 rfl (by decide) rfl rfl ?_
  refine ag_seq ?_
  refine ag_reg ?_
  refine ar_pure tOk rfl rfl rfl trivial ?_
  refine ar_nil ?_
  refine ag_seq ?_
  refine ag_seq ?_
  refine ag_reg ?_
  refine ar_pur (w_alive06) rfl rfl rfl rfl rfl rfl rfl ?_
  refine ar_pure tOk rfl rfl rfl trivial ?_
  refine ar_nil ?_
  refine ag_false rfl (rfl) ?_
  refine ag_skip ?_
  refine ag_seq ?_
  refine ag_reg ?_
  refine ar_pure tOk rfl rfl rfl trivial ?_
  refine ar_pur (w_out L hL hF) rfl rfl rfl rfl rfl rfl rfl ?_
  refine ar_pure tOk rfl rfl rfl trivial ?_
  refine ar_pure tOk rfl rfl rfl trivial ?_
  refine ar_pure tOk rfl rfl rfl trivial ?_
  refine ar_pure tOk rfl rfl rfl trivial ?_
  refine ar_pure tOk rfl rfl rfl trivial ?_
  refine ar_nil ?_
  refine ag_seq ?_
  refine ag_seq ?_
  refine ag_reg ?_
  refine ar_pure tOk rfl rfl rfl trivial ?_
  refine ar_pure tOk rfl rfl rfl trivial ?_
  refine ar_nil ?_
  refine ag_true rfl (by simp [he]) ?_
  refine ag_seq ?_
  refine ag_reg ?_
  refine ar_pure tOk rfl rfl rfl trivial ?_
  refine ar_pure tOk rfl rfl rfl trivial ?_
  refine ar_pure tOk rfl rfl rfl trivial ?_
  refine ar_pure tOk rfl rfl rfl trivial ?_
  refine ar_nil ?_
  refine ag_ret tOk Try.func6 rfl rfl (by simp) ?_
  exact eqB (by simp [gone_wf L L.length he])

def stFBk_0 (L : List Fd) : Nat × (List UInt8 × Int) → Regs × Hp := fun x => ([(0, roF L), (5, .ptr 0 0), (6, .r (.int .i64 (x.1 : Int)))], hI x.2)
def prFBk_0 (L : List Fd) : Nat × (List UInt8 × Int) → Prop := fun ⟨i, w⟩ => i ≤ L.length ∧ w = (rst L i, 0)
theorem w_FieldBackK (L : List Fd) (hL : L.length ≤ 140737488355328) (hF : ∀ f ∈ L, f.ok) (he : (wf L L.length).2 = 0) : Pur Try.prog 6 [roF L] (.r (.bool true)) := by
  refine spec_of_go (N := 68) Try.func6 rfl (by decide) rfl rfl ?_
  refine ag_seq ?_
  refine ag_reg ?_
  refine ar_pure tOk rfl rfl rfl trivial ?_
  refine ar_nil ?_
  refine ag_seq ?_
  refine ag_seq ?_
  refine ag_reg ?_
  refine ar_pur (w_alive06) rfl rfl rfl rfl rfl rfl rfl ?_
  refine ar_pure tOk rfl rfl rfl trivial ?_
  refine ar_nil ?_
  refine ag_false rfl (rfl) ?_
  refine ag_skip ?_
  refine ag_seq ?_
  refine ag_reg ?_
  refine ar_pure tOk rfl rfl rfl trivial ?_
  refine ar_pur (w_out L hL hF) rfl rfl rfl rfl rfl rfl rfl ?_
  refine ar_pure tOk rfl rfl rfl trivial ?_
  refine ar_pure tOk rfl rfl rfl trivial ?_
  refine ar_pure tOk rfl rfl rfl trivial ?_
  refine ar_pure tOk rfl rfl rfl trivial ?_
  refine ar_pure tOk rfl rfl rfl trivial ?_
  refine ar_nil ?_
  refine ag_seq ?_
  refine ag_seq ?_
  refine ag_reg ?_
  refine ar_pure tOk rfl rfl rfl trivial ?_
  refine ar_pure tOk rfl rfl rfl trivial ?_
  refine ar_nil ?_
  refine ag_false rfl (by simp [he]) ?_
  refine ag_skip ?_
  refine ag_seq ?_
  refine ag_reg ?_
  refine ar_pure tOk rfl rfl rfl trivial ?_
  refine ar_obj [] (w_IOpen (wf L L.length).1) rfl rfl (handed_of rfl rfl (by decide) trivial) rfl rfl rfl rfl ?_
  rintro _ _ ⟨rfl, rfl⟩
  refine ⟨_, _, rfl, ?_⟩
  refine ar_pure tOk rfl rfl rfl trivial ?_
  refine ar_nil ?_
  refine ag_seq ?_
  refine ag_seq ?_
  refine ag_reg ?_
  refine ar_pure tOk rfl rfl rfl trivial ?_
  refine ar_nil ?_
  refine ag_block ?_
  refine ag_loopS (stFBk_0 L) (prFBk_0 L) (fun ⟨i, w⟩ => L.length - i) (0, opR (wf L L.length).1) (ent_weak [0] rfl rfl rfl rfl ?_ ?_ rfl) (show prFBk_0 L (0, opR (wf L L.length).1) from ?_) ?_
  · exact ⟨⟨rfl, rfl⟩, ⟨rfl, rfl⟩, ⟨rfl, rfl⟩, trivial⟩
  · exact ⟨⟨rfl, rfl, rfl⟩, trivial⟩
  · exact ⟨Nat.zero_le _, by rw [opR_wf, rst_zero]⟩
  rintro ⟨i, w⟩ hp hrec
  obtain ⟨hi, hw⟩ : _ := hp
  refine ag_seq ?_
  refine ag_seq ?_
  refine ag_reg ?_
  refine ar_pure tOk rfl rfl rfl trivial ?_
  refine ar_pure tOk rfl rfl rfl trivial ?_
  refine ar_pure tOk rfl rfl rfl trivial ?_
  refine ar_pure tOk rfl rfl rfl trivial ?_
  refine ar_nil ?_
  refine ag_if rfl ?_ ?_
  · intro h24
    have hlt : i < L.length := by omega
    obtain ⟨f, hs⟩ := get_fd hlt
    have hok := ok_fd hF hs
    have hst := rst_step he hs
    refine ag_skip ?_
    refine ag_seq ?_
    refine ag_block ?_
    refine ag_seq ?_
    refine ag_reg ?_
    refine ar_pure tOk rfl rfl rfl trivial ?_
    refine ar_pure tOk rfl rfl rfl trivial ?_
    refine ar_pure tOk rfl rfl rfl ?_ ?_
    · refine ⟨?_, ?_⟩ <;> first | omega | exact fldC_ne hs | (refine ⟨?_, ?_⟩ <;> omega)
    refine ar_loadAs tOk (.agg (f.cells.map .r)) rfl rfl rfl rfl rfl rfl rfl (.inr ⟨rfl, _, rfl, by rw [mulz_eq, Int.toNat_natCast]; exact fldC_agg hs, rfl⟩) ?_
    refine ar_pur (w_kind f) rfl rfl rfl rfl rfl rfl rfl ?_
    refine ar_nil ?_
    refine ag_block ?_
    refine ag_seq ?_
    refine ag_reg ?_
    refine ar_pure tOk rfl rfl rfl trivial ?_
    refine ar_pure tOk rfl rfl rfl trivial ?_
    refine ar_nil ?_
    refine ag_if rfl ?_ ?_
    · intro h40
      refine ag_seq ?_
      obtain ⟨hg, hb⟩ := fc_num h40 hst.1
      have hv : gNu w 1099511627776 = (f.n, (rst L (i + 1), 0)) := by rw [hw, hst.2.1, hb]; exact gNu_app hg
      apply ag_draw1 [43] (by kernel_rfl) (by kernel_rfl)
      refine aq_pure tOk rfl rfl rfl trivial ?_
      refine aq_obj10 [0] (w_INum w 1099511627776) rfl rfl (handed_of rfl rfl (by decide) ⟨rfl, rfl, rfl, trivial⟩) rfl rfl rfl rfl rfl rfl rfl ?_
      refine aq_pure tOk rfl rfl rfl trivial ?_
      refine aq_pure tOk rfl rfl rfl trivial ?_
      refine aq_pure tOk rfl rfl rfl ?_ ?_
      · refine ⟨?_, ?_⟩ <;> first | omega | exact fldC_ne hs | (refine ⟨?_, ?_⟩ <;> omega)
      refine aq_pure tOk rfl rfl rfl trivial ?_
      refine aq_loadAs tOk (.r (.int .i64 f.n)) rfl rfl rfl rfl (fun _ => rfl) rfl rfl (.inl ⟨rfl, by rw [addo_eq, mulz_eq, Int.toNat_natCast]; exact fldC_at hs rfl⟩) ?_
      refine aq_pure tOk rfl rfl rfl trivial ?_
      refine aq_nil rfl ?_
      refine ag_false rfl (by simp [hv]) ?_
      refine ag_skip ?_
      refine ag_inBlock ?_
      refine ag_inBlock ?_
      refine ag_reg ?_
      refine ar_pure tOk rfl rfl rfl trivial ?_
      refine ar_pure tOk rfl rfl rfl ?_ ?_
      · unfold inI64; omega
      refine ar_pure tOk rfl rfl rfl trivial ?_
      refine ar_nil ?_
      refine ag_ent (ent_weak (g' := (stFBk_0 L (i + 1, (gNu w 1099511627776).2)).1) (h' := (stFBk_0 L (i + 1, (gNu w 1099511627776).2)).2) [0] rfl rfl rfl rfl ?_ ?_ rfl) (hrec _ (show prFBk_0 L (i + 1, (gNu w 1099511627776).2) from ?_) (show _ < _ from ?_))
      · exact ⟨⟨rfl, rfl⟩, ⟨rfl, rfl⟩, ⟨rfl, by exact eqI (by omega)⟩, trivial⟩
      · exact ⟨⟨rfl, rfl, rfl⟩, trivial⟩
      · exact ⟨by omega, by rw [hv]⟩
      · show L.length - (i + 1) < L.length - i; omega
    · intro h40
      refine ag_seq ?_
      refine ag_reg ?_
      refine ar_pure tOk rfl rfl rfl trivial ?_
      refine ar_pure tOk rfl rfl rfl trivial ?_
      refine ar_nil ?_
      refine ag_if rfl ?_ ?_
      · intro h50
        refine ag_seq ?_
        obtain ⟨hg, hb⟩ := fc_txt h40 h50 hst.1
        have hv : gTx w 1024 = (f.t, (rst L (i + 1), 0)) := by rw [hw, hst.2.1, hb]; exact gTx_app hg
        apply ag_draw1 [53] (by kernel_rfl) (by kernel_rfl)
        refine aq_pure tOk rfl rfl rfl trivial ?_
        refine aq_obj10 [0] (w_IText w 1024) rfl rfl (handed_of rfl rfl (by decide) ⟨rfl, rfl, rfl, trivial⟩) rfl rfl rfl rfl rfl rfl rfl ?_
        refine aq_pure tOk rfl rfl rfl trivial ?_
        refine aq_pure tOk rfl rfl rfl trivial ?_
        refine aq_pure tOk rfl rfl rfl ?_ ?_
        · refine ⟨?_, ?_⟩ <;> first | omega | exact fldC_ne hs | (refine ⟨?_, ?_⟩ <;> omega)
        refine aq_pure tOk rfl rfl rfl trivial ?_
        refine aq_loadAs tOk (.r (.str f.t)) rfl rfl rfl rfl (fun _ => rfl) rfl rfl (.inl ⟨rfl, by rw [addo_eq, mulz_eq, Int.toNat_natCast]; exact fldC_at hs rfl⟩) ?_
        refine aq_pure tOk rfl rfl rfl trivial ?_
        refine aq_nil rfl ?_
        refine ag_false rfl (by simp [hv]) ?_
        refine ag_skip ?_
        refine ag_inBlock ?_
        refine ag_inBlock ?_
        refine ag_reg ?_
        refine ar_pure tOk rfl rfl rfl trivial ?_
        refine ar_pure tOk rfl rfl rfl ?_ ?_
        · unfold inI64; omega
        refine ar_pure tOk rfl rfl rfl trivial ?_
        refine ar_nil ?_
        refine ag_ent (ent_weak (g' := (stFBk_0 L (i + 1, (gTx w 1024).2)).1) (h' := (stFBk_0 L (i + 1, (gTx w 1024).2)).2) [0] rfl rfl rfl rfl ?_ ?_ rfl) (hrec _ (show prFBk_0 L (i + 1, (gTx w 1024).2) from ?_) (show _ < _ from ?_))
        · exact ⟨⟨rfl, rfl⟩, ⟨rfl, rfl⟩, ⟨rfl, by exact eqI (by omega)⟩, trivial⟩
        · exact ⟨⟨rfl, rfl, rfl⟩, trivial⟩
        · exact ⟨by omega, by rw [hv]⟩
        · show L.length - (i + 1) < L.length - i; omega
      · intro h50
        refine ag_seq ?_
        have hb := fc_wide h40 h50
        have hv : tkR w 32 = (wideL f.x0 f.x1 f.x2 f.x3, (rst L (i + 1), 0)) := by rw [hw, hst.2.1, hb]; exact tkW_app
        have hx := tkW_fB (r := rst L (i + 1)) hok
        rw [← hb, ← hst.2.1, ← hw] at hx
        obtain ⟨x0, x1, x2, x3⟩ := hx
        apply ag_draw1 [33] (by kernel_rfl) (by kernel_rfl)
        refine aq_pure tOk rfl rfl rfl trivial ?_
        refine aq_obj10 [0] (w_IWide w) rfl rfl (handed_of rfl rfl (by decide) ⟨rfl, rfl, rfl, trivial⟩) rfl rfl rfl rfl rfl rfl rfl ?_
        refine aq_pure tOk rfl rfl rfl trivial ?_
        refine aq_pure tOk rfl rfl rfl trivial ?_
        refine aq_pure tOk rfl rfl rfl ?_ ?_
        · refine ⟨?_, ?_⟩ <;> first | omega | exact fldC_ne hs | (refine ⟨?_, ?_⟩ <;> omega)
        refine aq_pure tOk rfl rfl rfl trivial ?_
        refine aq_loadAs tOk (wA f.x0 f.x1 f.x2 f.x3) rfl rfl rfl rfl (fun _ => rfl) rfl rfl (.inr ⟨rfl, _, rfl, by rw [addo_eq, mulz_eq, Int.toNat_natCast]; exact fldC_wide hs, rfl⟩) ?_
        refine aq_pure tOk rfl rfl rfl trivial ?_
        refine aq_nil rfl ?_
        refine ag_false rfl (by simp [x0, x1, x2, x3]) ?_
        refine ag_skip ?_
        refine ag_inBlock ?_
        refine ag_inBlock ?_
        refine ag_reg ?_
        refine ar_pure tOk rfl rfl rfl trivial ?_
        refine ar_pure tOk rfl rfl rfl ?_ ?_
        · unfold inI64; omega
        refine ar_pure tOk rfl rfl rfl trivial ?_
        refine ar_nil ?_
        refine ag_ent (ent_weak (g' := (stFBk_0 L (i + 1, (tkR w 32).2)).1) (h' := (stFBk_0 L (i + 1, (tkR w 32).2)).2) [0] rfl rfl rfl rfl ?_ ?_ rfl) (hrec _ (show prFBk_0 L (i + 1, (tkR w 32).2) from ?_) (show _ < _ from ?_))
        · exact ⟨⟨rfl, rfl⟩, ⟨rfl, rfl⟩, ⟨rfl, by exact eqI (by omega)⟩, trivial⟩
        · exact ⟨⟨rfl, rfl, rfl⟩, trivial⟩
        · exact ⟨by omega, by rw [hv]⟩
        · show L.length - (i + 1) < L.length - i; omega
  · intro h24
    have hiL : i = L.length := by omega
    have hw2 : w = ([], 0) := by rw [hw, hiL, rst_end]
    subst hw2
    refine ag_exit rfl ?_
    refine ag_seq ?_
    refine ag_reg ?_
    refine ar_pure tOk rfl rfl rfl trivial ?_
    refine ar_qd rfl (qop_objR [0] (w_Err [] 0) (by rintro _ _ ⟨rfl, rfl⟩; exact ⟨rfl, rfl⟩) rfl rfl (handed_of rfl rfl (by decide) ⟨rfl, rfl, rfl, trivial⟩) rfl rfl) rfl rfl rfl rfl ?_
    refine ar_pure tOk rfl rfl rfl trivial ?_
    refine ar_pure tOk rfl rfl rfl trivial ?_
    refine ar_pure tOk rfl rfl (by simp) trivial ?_
    refine ar_qd rfl (qop_objR [0] (w_Left [] 0) (by rintro _ _ ⟨rfl, rfl⟩; exact ⟨rfl, rfl⟩) rfl rfl (handed_of rfl rfl (by decide) ⟨rfl, rfl, rfl, trivial⟩) rfl rfl) rfl (by simp) rfl rfl ?_
    refine ar_pure tOk rfl rfl (by simp) trivial ?_
    refine ar_pure tOk rfl rfl rfl trivial ?_
    refine ar_pure tOk rfl rfl rfl trivial ?_
    refine ar_nil ?_
    refine ag_ret tOk Try.func6 rfl rfl (by simp) ?_
    rfl

theorem w_FieldBack (L : List Fd) (hL : L.length ≤ 140737488355328) (hF : ∀ f ∈ L, f.ok) : Pur Try.prog 6 [roF L] (.r (.bool true)) := by
  by_cases he : (wf L L.length).2 = 0
  · exact w_FieldBackK L hL hF he
  · exact w_FieldBackE L hL hF he
theorem gNu_err (m : Int) : (gNu ([], 16) m).2 = ([], 16) := by
  unfold gNu
  rw [tkR_e 6 (by decide), if_neg (fun h => absurd h.1 (by decide))]
theorem gTx_err (m : Int) : (gTx ([], 16) m).2 = ([], 16) := by
  unfold gTx
  rw [tkR_e 2 (by decide), if_neg (fun h => absurd h.1 (by decide)), intB_nil]
  simp only
  rw [tkR_e 0 (by decide)]
theorem tkW_err : (tkR ([], 16) 32).2 = ([], 16) := by rw [tkR_e 32 (by decide)]
theorem gNu_short {q : List UInt8} (m : Int) (h : q.length < 6) : (gNu (q, 0) m).2 = ([], 16) := by
  unfold gNu
  rw [tkR_l (by omega), if_neg (fun h => absurd h.1 (by decide))]
theorem tkW_short {q : List UInt8} (h : q.length < 32) : (tkR (q, 0) 32).2 = ([], 16) := by rw [tkR_l (by omega)]
theorem gTx_short {t : List UInt8} {k : Nat} (ht : ¬ t.length > 1024) (h : k < (txt t).length) : (gTx ((txt t).take k, 0) 1024).2 = ([], 16) := by
  rw [txt_length] at h
  by_cases h2 : k < 2
  · unfold gTx
    rw [tkR_l (by simp; omega), if_neg (fun h => absurd h.1 (by decide)), intB_nil]
    simp only
    rw [tkR_e 0 (by decide)]
  · have e : (txt t).take k = numL 2 (t.length : Int) ++ t.take (k - 2) := by
      unfold txt
      rw [List.take_append, numL_length, List.take_of_length_le (by rw [numL_length]; omega)]
    unfold gTx
    rw [e, tkR_app (by rw [numL_length]; rfl), intB_num (by decide) ⟨by omega, by omega⟩, if_neg (by omega)]
    simp only
    rw [tkR_l (by simp; omega)]
/-- The state behind i fields, of the first C octets. -/
def cutst (L : List Fd) (C i : Nat) (w : List UInt8 × Int) : Prop := w = ([], 16) ∨ ((wf L i).1.length ≤ C ∧ w = ((rst L i).take (C - (wf L i).1.length), 0))
theorem cut_step {L : List Fd} {C i : Nat} {w w2 : List UInt8 × Int} {f : Fd} (he : (wf L L.length).2 = 0) (hs : L[i]? = some f) (h : cutst L C i w)
    (h1 : w = ([], 16) → w2 = ([], 16)) (h2 : ∀ r, w = (fbytes f ++ r, 0) → w2 = (r, 0)) (h3 : ∀ k, k < (fbytes f).length → w = ((fbytes f).take k, 0) → w2 = ([], 16)) : cutst L C (i + 1) w2 := by
  obtain ⟨_, hr, hl⟩ := rst_step he hs
  rcases h with h | ⟨ha, hb⟩
  · exact .inl (h1 h)
  · by_cases hk : C - (wf L i).1.length < (fbytes f).length
    · refine .inl (h3 _ hk ?_)
      rw [hb, hr, List.take_append_of_le_length (by omega)]
    · refine .inr ⟨by omega, h2 _ ?_⟩
      rw [hb, hr, List.take_append, List.take_of_length_le (by omega), hl]
      congr 2
      congr 1
      omega
theorem cut_end {L : List Fd} {C : Nat} {w : List UInt8 × Int} (hC : C < (wf L L.length).1.length) (h : cutst L C L.length w) : w = ([], 16) := by
  rcases h with h | ⟨ha, _⟩
  · exact h
  · omega
theorem cut_zero {L : List Fd} {C : Nat} (hC : C < (wf L L.length).1.length) : cutst L C 0 (opR ((wf L L.length).1.take C)) := by
  refine .inr ⟨by simp [wf], ?_⟩
  have := wf_len L L.length
  unfold opR
  rw [if_neg (by simp; omega), rst_zero]
  simp [wf]

theorem w_FieldCutsE (L : List Fd) (c : Int) (hL : L.length ≤ 140737488355328) (hF : ∀ f ∈ L, f.ok) (he : (wf L L.length).2 ≠ 0) : Pur Try.prog 7 [roF L, .r (.int .i64 c)] (.r (.bool true)) := by
  refine spec_of_go (N := 66) Try.func7 rfl (by decide) rfl rfl ?_
  refine ag_seq ?_
  refine ag_reg ?_
  refine ar_pure tOk rfl rfl rfl trivial ?_
  refine ar_nil ?_
  refine ag_seq ?_
  refine ag_seq ?_
  refine ag_reg ?_
  refine ar_pur (w_alive06) rfl rfl rfl rfl rfl rfl rfl ?_
  refine ar_pure tOk rfl rfl rfl trivial ?_
  refine ar_nil ?_
  refine ag_false rfl (rfl) ?_
  refine ag_skip ?_
  refine ag_seq ?_
  refine ag_reg ?_
  refine ar_pure tOk rfl rfl rfl trivial ?_
  refine ar_pur (w_out L hL hF) rfl rfl rfl rfl rfl rfl rfl ?_
  refine ar_pure tOk rfl rfl rfl trivial ?_
  refine ar_pure tOk rfl rfl rfl trivial ?_
  refine ar_pure tOk rfl rfl rfl trivial ?_
  refine ar_pure tOk rfl rfl rfl trivial ?_
  refine ar_pure tOk rfl rfl rfl trivial ?_
  refine ar_nil ?_
  refine ag_seq ?_
  refine ag_seq ?_
  refine ag_reg ?_
  refine ar_pure tOk rfl rfl rfl trivial ?_
  refine ar_pure tOk rfl rfl rfl trivial ?_
  refine ar_ent (ent_reg 17 (.r (.bool true)) (by show AVal.r (.bool _) = _; exact eqB (by simp [he]))) ?_
  refine ar_pure tOk rfl rfl rfl trivial ?_
  refine ar_skip rfl rfl rfl ?_
  refine ar_skip rfl rfl rfl ?_
  refine ar_skip rfl rfl rfl ?_
  refine ar_pure tOk rfl rfl rfl trivial ?_
  refine ar_nil ?_
  refine ag_true rfl (rfl) ?_
  refine ag_seq ?_
  refine ag_reg ?_
  refine ar_pure tOk rfl rfl rfl trivial ?_
  refine ar_nil ?_
  refine ag_ret tOk Try.func7 rfl rfl (by simp) ?_
  rfl

theorem w_FieldCutsZ (L : List Fd) (c : Int) (hL : L.length ≤ 140737488355328) (hF : ∀ f ∈ L, f.ok) (he : (wf L L.length).2 = 0) (hz : (wf L L.length).1.length = 0) : Pur Try.prog 7 [roF L, .r (.int .i64 c)] (.r (.bool true)) := by
  refine spec_of_go (N := 66) Try.func7 rfl (by decide) rfl rfl ?_
  refine ag_seq ?_
  refine ag_reg ?_
  refine ar_pure tOk rfl rfl rfl trivial ?_
  refine ar_nil ?_
  refine ag_seq ?_
  refine ag_seq ?_
  refine ag_reg ?_
  refine ar_pur (w_alive06) rfl rfl rfl rfl rfl rfl rfl ?_
  refine ar_pure tOk rfl rfl rfl trivial ?_
  refine ar_nil ?_
  refine ag_false rfl (rfl) ?_
  refine ag_skip ?_
  refine ag_seq ?_
  refine ag_reg ?_
  refine ar_pure tOk rfl rfl rfl trivial ?_
  refine ar_pur (w_out L hL hF) rfl rfl rfl rfl rfl rfl rfl ?_
  refine ar_pure tOk rfl rfl rfl trivial ?_
  refine ar_pure tOk rfl rfl rfl trivial ?_
  refine ar_pure tOk rfl rfl rfl trivial ?_
  refine ar_pure tOk rfl rfl rfl trivial ?_
  refine ar_pure tOk rfl rfl rfl trivial ?_
  refine ar_nil ?_
  refine ag_seq ?_
  refine ag_seq ?_
  refine ag_reg ?_
  refine ar_pure tOk rfl rfl rfl trivial ?_
  refine ar_pure tOk rfl rfl rfl trivial ?_
  refine ar_pure tOk rfl rfl rfl trivial ?_
  refine ar_pure tOk rfl rfl (by simp [he]) trivial ?_
  refine ar_pure tOk rfl rfl (by simp [he]) trivial ?_
  refine ar_pure tOk rfl rfl (by simp [he]) trivial ?_
  refine ar_pure tOk rfl rfl rfl trivial ?_
  refine ar_nil ?_
  refine ag_true rfl (by simp [hz]) ?_
  refine ag_seq ?_
  refine ag_reg ?_
  refine ar_pure tOk rfl rfl rfl trivial ?_
  refine ar_nil ?_
  refine ag_ret tOk Try.func7 rfl rfl (by simp) ?_
  rfl

def stFCk_0 (L : List Fd) (C : Nat) : Nat × (List UInt8 × Int) → Regs × Hp := fun x => ([(0, roF L), (7, .ptr 0 0), (8, .r (.int .i64 (x.1 : Int)))], hI x.2)
def prFCk_0 (L : List Fd) (C : Nat) : Nat × (List UInt8 × Int) → Prop := fun ⟨i, w⟩ => i ≤ L.length ∧ cutst L C i w
theorem w_FieldCutsK (L : List Fd) (c : Int) (hL : L.length ≤ 140737488355328) (hF : ∀ f ∈ L, f.ok) (C : Nat) (he : (wf L L.length).2 = 0) (hcc : (c.tmod ((wf L L.length).1.length : Int) + ((wf L L.length).1.length : Int)).tmod ((wf L L.length).1.length : Int) = (C : Int)) (hC : C < (wf L L.length).1.length) : Pur Try.prog 7 [roF L, .r (.int .i64 c)] (.r (.bool true)) := by
  have hn1 := Int.lt_tmod_of_pos c (show (0 : Int) < ((wf L L.length).1.length : Int) by omega)
  have hn2 := Int.tmod_lt_of_pos c (show (0 : Int) < ((wf L L.length).1.length : Int) by omega)
  have hn3 := wf_len L L.length
  refine spec_of_go (N := 66) Try.func7 rfl (by decide) rfl rfl ?_
  refine ag_seq ?_
  refine ag_reg ?_
  refine ar_pure tOk rfl rfl rfl trivial ?_
  refine ar_nil ?_
  refine ag_seq ?_
  refine ag_seq ?_
  refine ag_reg ?_
  refine ar_pur (w_alive06) rfl rfl rfl rfl rfl rfl rfl ?_
  refine ar_pure tOk rfl rfl rfl trivial ?_
  refine ar_nil ?_
  refine ag_false rfl (rfl) ?_
  refine ag_skip ?_
  refine ag_seq ?_
  refine ag_reg ?_
  refine ar_pure tOk rfl rfl rfl trivial ?_
  refine ar_pur (w_out L hL hF) rfl rfl rfl rfl rfl rfl rfl ?_
  refine ar_pure tOk rfl rfl rfl trivial ?_
  refine ar_pure tOk rfl rfl rfl trivial ?_
  refine ar_pure tOk rfl rfl rfl trivial ?_
  refine ar_pure tOk rfl rfl rfl trivial ?_
  refine ar_pure tOk rfl rfl rfl trivial ?_
  refine ar_nil ?_
  refine ag_seq ?_
  refine ag_seq ?_
  refine ag_reg ?_
  refine ar_pure tOk rfl rfl rfl trivial ?_
  refine ar_pure tOk rfl rfl rfl trivial ?_
  refine ar_pure tOk rfl rfl rfl trivial ?_
  refine ar_pure tOk rfl rfl (by simp [he]) trivial ?_
  refine ar_pure tOk rfl rfl (by simp [he]) trivial ?_
  refine ar_pure tOk rfl rfl (by simp [he]) trivial ?_
  refine ar_pure tOk rfl rfl rfl trivial ?_
  refine ar_nil ?_
  refine ag_false rfl (by simp [he]; intro h; rw [h] at hC; simp at hC) ?_
  refine ag_skip ?_
  refine ag_seq ?_
  refine ag_reg ?_
  refine ar_pure tOk rfl rfl rfl trivial ?_
  refine ar_pure tOk rfl rfl rfl trivial ?_
  refine ar_pure tOk rfl rfl rfl trivial ?_
  refine ar_pure tOk rfl rfl rfl ?_ ?_
  · simp only [ne_eq]; omega
  refine ar_pure tOk rfl rfl rfl trivial ?_
  refine ar_pure tOk rfl rfl rfl trivial ?_
  refine ar_pure tOk rfl rfl rfl ?_ ?_
  · unfold inI64; omega
  refine ar_pure tOk rfl rfl rfl trivial ?_
  refine ar_pure tOk rfl rfl rfl trivial ?_
  refine ar_pure tOk rfl rfl rfl ?_ ?_
  · simp only [ne_eq]; omega
  refine ar_ent (ent_reg 32 (.r (.int .i64 (C : Int))) (by show AVal.r (.int _ _) = _; exact eqI hcc)) ?_
  refine ar_pure tOk rfl rfl rfl trivial ?_
  refine ar_nil ?_
  refine ag_seq ?_
  refine ag_reg ?_
  refine ar_pure tOk rfl rfl rfl trivial ?_
  refine ar_pure tOk rfl rfl rfl trivial ?_
  refine ar_pure tOk rfl rfl rfl ?_ ?_
  · simp only [boundsOk]; omega
  refine ar_ent (ent_reg 35 (.r (.bs ((wf L L.length).1.take C))) (by show AVal.r (.bs _) = _; exact eqBsv (by simp [cutL, mulz]))) ?_
  refine ar_obj [] (w_IOpen ((wf L L.length).1.take C)) rfl rfl (handed_of rfl rfl (by decide) trivial) rfl rfl rfl rfl ?_
  rintro _ _ ⟨rfl, rfl⟩
  refine ⟨_, _, rfl, ?_⟩
  refine ar_pure tOk rfl rfl rfl trivial ?_
  refine ar_nil ?_
  refine ag_seq ?_
  refine ag_seq ?_
  refine ag_reg ?_
  refine ar_pure tOk rfl rfl rfl trivial ?_
  refine ar_nil ?_
  refine ag_block ?_
  refine ag_loopS (stFCk_0 L C) (prFCk_0 L C) (fun ⟨i, w⟩ => L.length - i) (0, opR ((wf L L.length).1.take C)) (ent_weak [0] rfl rfl rfl rfl ?_ ?_ rfl) (show prFCk_0 L C (0, opR ((wf L L.length).1.take C)) from ?_) ?_
  · exact ⟨⟨rfl, rfl⟩, ⟨rfl, rfl⟩, ⟨rfl, rfl⟩, trivial⟩
  · exact ⟨⟨rfl, rfl, rfl⟩, trivial⟩
  · exact ⟨Nat.zero_le _, cut_zero hC⟩
  rintro ⟨i, w⟩ hp hrec
  obtain ⟨hi, hw⟩ : _ := hp
  refine ag_seq ?_
  refine ag_seq ?_
  refine ag_reg ?_
  refine ar_pure tOk rfl rfl rfl trivial ?_
  refine ar_pure tOk rfl rfl rfl trivial ?_
  refine ar_pure tOk rfl rfl rfl trivial ?_
  refine ar_pure tOk rfl rfl rfl trivial ?_
  refine ar_nil ?_
  refine ag_if rfl ?_ ?_
  · intro h40
    have hlt : i < L.length := by omega
    obtain ⟨f, hs⟩ := get_fd hlt
    have hok := ok_fd hF hs
    have hst := rst_step he hs
    refine ag_skip ?_
    refine ag_seq ?_
    refine ag_block ?_
    refine ag_seq ?_
    refine ag_reg ?_
    refine ar_pure tOk rfl rfl rfl trivial ?_
    refine ar_pure tOk rfl rfl rfl trivial ?_
    refine ar_pure tOk rfl rfl rfl ?_ ?_
    · refine ⟨?_, ?_⟩ <;> first | omega | exact fldC_ne hs | (refine ⟨?_, ?_⟩ <;> omega)
    refine ar_loadAs tOk (.agg (f.cells.map .r)) rfl rfl rfl rfl rfl rfl rfl (.inr ⟨rfl, _, rfl, by rw [mulz_eq, Int.toNat_natCast]; exact fldC_agg hs, rfl⟩) ?_
    refine ar_pur (w_kind f) rfl rfl rfl rfl rfl rfl rfl ?_
    refine ar_nil ?_
    refine ag_block ?_
    refine ag_seq ?_
    refine ag_reg ?_
    refine ar_pure tOk rfl rfl rfl trivial ?_
    refine ar_pure tOk rfl rfl rfl trivial ?_
    refine ar_nil ?_
    refine ag_if rfl ?_ ?_
    · intro h50
      refine ag_reg ?_
      refine ar_pure tOk rfl rfl rfl trivial ?_
      refine ar_obj [0] (w_INum w 1099511627776) rfl rfl (handed_of rfl rfl (by decide) ⟨rfl, rfl, rfl, trivial⟩) rfl rfl rfl rfl ?_
      rintro _ _ ⟨rfl, rfl⟩
      refine ⟨_, _, rfl, ?_⟩
      refine ar_nil ?_
      refine ag_inBlock ?_
      refine ag_inBlock ?_
      refine ag_reg ?_
      refine ar_pure tOk rfl rfl rfl trivial ?_
      refine ar_pure tOk rfl rfl rfl ?_ ?_
      · unfold inI64; omega
      refine ar_pure tOk rfl rfl rfl trivial ?_
      refine ar_nil ?_
      refine ag_ent (ent_weak (g' := (stFCk_0 L C (i + 1, (gNu w 1099511627776).2)).1) (h' := (stFCk_0 L C (i + 1, (gNu w 1099511627776).2)).2) [0] rfl rfl rfl rfl ?_ ?_ rfl) (hrec _ (show prFCk_0 L C (i + 1, (gNu w 1099511627776).2) from ?_) (show _ < _ from ?_))
      · exact ⟨⟨rfl, rfl⟩, ⟨rfl, rfl⟩, ⟨rfl, by exact eqI (by omega)⟩, trivial⟩
      · exact ⟨⟨rfl, rfl, rfl⟩, trivial⟩
      · obtain ⟨hg, hb⟩ := fc_num h50 hst.1
        exact ⟨by omega, cut_step he hs hw (fun h => by rw [h]; exact gNu_err _) (fun r h => by rw [h, hb, gNu_app hg]) (fun k hk h => by rw [h]; exact gNu_short _ (by rw [hb, numL_length] at hk; rw [List.length_take]; omega))⟩
      · show L.length - (i + 1) < L.length - i; omega
    · intro h50
      refine ag_seq ?_
      refine ag_reg ?_
      refine ar_pure tOk rfl rfl rfl trivial ?_
      refine ar_pure tOk rfl rfl rfl trivial ?_
      refine ar_nil ?_
      refine ag_if rfl ?_ ?_
      · intro h54
        refine ag_reg ?_
        refine ar_pure tOk rfl rfl rfl trivial ?_
        refine ar_obj [0] (w_IText w 1024) rfl rfl (handed_of rfl rfl (by decide) ⟨rfl, rfl, rfl, trivial⟩) rfl rfl rfl rfl ?_
        rintro _ _ ⟨rfl, rfl⟩
        refine ⟨_, _, rfl, ?_⟩
        refine ar_nil ?_
        refine ag_inBlock ?_
        refine ag_inBlock ?_
        refine ag_reg ?_
        refine ar_pure tOk rfl rfl rfl trivial ?_
        refine ar_pure tOk rfl rfl rfl ?_ ?_
        · unfold inI64; omega
        refine ar_pure tOk rfl rfl rfl trivial ?_
        refine ar_nil ?_
        refine ag_ent (ent_weak (g' := (stFCk_0 L C (i + 1, (gTx w 1024).2)).1) (h' := (stFCk_0 L C (i + 1, (gTx w 1024).2)).2) [0] rfl rfl rfl rfl ?_ ?_ rfl) (hrec _ (show prFCk_0 L C (i + 1, (gTx w 1024).2) from ?_) (show _ < _ from ?_))
        · exact ⟨⟨rfl, rfl⟩, ⟨rfl, rfl⟩, ⟨rfl, by exact eqI (by omega)⟩, trivial⟩
        · exact ⟨⟨rfl, rfl, rfl⟩, trivial⟩
        · obtain ⟨hg, hb⟩ := fc_txt h50 h54 hst.1
          exact ⟨by omega, cut_step he hs hw (fun h => by rw [h]; exact gTx_err _) (fun r h => by rw [h, hb, gTx_app hg]) (fun k hk h => by rw [h, hb]; exact gTx_short hg (by rwa [hb] at hk))⟩
        · show L.length - (i + 1) < L.length - i; omega
      · intro h54
        refine ag_reg ?_
        refine ar_pure tOk rfl rfl rfl trivial ?_
        refine ar_obj [0] (w_IWide w) rfl rfl (handed_of rfl rfl (by decide) ⟨rfl, rfl, rfl, trivial⟩) rfl rfl rfl rfl ?_
        rintro _ _ ⟨rfl, rfl⟩
        refine ⟨_, _, rfl, ?_⟩
        refine ar_nil ?_
        refine ag_inBlock ?_
        refine ag_inBlock ?_
        refine ag_reg ?_
        refine ar_pure tOk rfl rfl rfl trivial ?_
        refine ar_pure tOk rfl rfl rfl ?_ ?_
        · unfold inI64; omega
        refine ar_pure tOk rfl rfl rfl trivial ?_
        refine ar_nil ?_
        refine ag_ent (ent_weak (g' := (stFCk_0 L C (i + 1, (tkR w 32).2)).1) (h' := (stFCk_0 L C (i + 1, (tkR w 32).2)).2) [0] rfl rfl rfl rfl ?_ ?_ rfl) (hrec _ (show prFCk_0 L C (i + 1, (tkR w 32).2) from ?_) (show _ < _ from ?_))
        · exact ⟨⟨rfl, rfl⟩, ⟨rfl, rfl⟩, ⟨rfl, by exact eqI (by omega)⟩, trivial⟩
        · exact ⟨⟨rfl, rfl, rfl⟩, trivial⟩
        · have hb := fc_wide h50 h54
          exact ⟨by omega, cut_step he hs hw (fun h => by rw [h]; exact tkW_err) (fun r h => by rw [h, hb, tkW_app]) (fun k hk h => by rw [h]; exact tkW_short (by rw [hb, wideL_length] at hk; rw [List.length_take]; omega))⟩
        · show L.length - (i + 1) < L.length - i; omega
  · intro h40
    have hiL : i = L.length := by omega
    subst hiL
    have hw2 : w = ([], 16) := cut_end hC hw
    subst hw2
    refine ag_exit rfl ?_
    refine ag_seq ?_
    refine ag_reg ?_
    refine ar_pure tOk rfl rfl rfl trivial ?_
    refine ar_qd rfl (qop_objR [0] (w_Err [] 16) (by rintro _ _ ⟨rfl, rfl⟩; exact ⟨rfl, rfl⟩) rfl rfl (handed_of rfl rfl (by decide) ⟨rfl, rfl, rfl, trivial⟩) rfl rfl) rfl rfl rfl rfl ?_
    refine ar_pure tOk rfl rfl rfl trivial ?_
    refine ar_pure tOk rfl rfl rfl trivial ?_
    refine ar_pure tOk rfl rfl rfl trivial ?_
    refine ar_qd rfl (qop_objR [0] (w_Left [] 16) (by rintro _ _ ⟨rfl, rfl⟩; exact ⟨rfl, rfl⟩) rfl rfl (handed_of rfl rfl (by decide) ⟨rfl, rfl, rfl, trivial⟩) rfl rfl) rfl rfl rfl rfl ?_
    refine ar_pure tOk rfl rfl rfl trivial ?_
    refine ar_pure tOk rfl rfl rfl trivial ?_
    refine ar_pure tOk rfl rfl rfl trivial ?_
    refine ar_nil ?_
    refine ag_ret tOk Try.func7 rfl rfl (by simp) ?_
    rfl

theorem w_FieldCuts (L : List Fd) (c : Int) (hL : L.length ≤ 140737488355328) (hF : ∀ f ∈ L, f.ok) : Pur Try.prog 7 [roF L, .r (.int .i64 c)] (.r (.bool true)) := by
  by_cases he : (wf L L.length).2 = 0
  · by_cases hz : (wf L L.length).1.length = 0
    · exact w_FieldCutsZ L c hL hF he hz
    · have hn1 := Int.lt_tmod_of_pos c (show (0 : Int) < ((wf L L.length).1.length : Int) by omega)
      have h1 := Int.tmod_nonneg ((wf L L.length).1.length : Int) (show 0 ≤ c.tmod ((wf L L.length).1.length : Int) + ((wf L L.length).1.length : Int) by omega)
      have h2 := Int.tmod_lt_of_pos (c.tmod ((wf L L.length).1.length : Int) + ((wf L L.length).1.length : Int)) (show (0 : Int) < ((wf L L.length).1.length : Int) by omega)
      obtain ⟨C, hC⟩ := Int.eq_ofNat_of_zero_le h1
      exact w_FieldCutsK L c hL hF C he hC (by omega)
  · exact w_FieldCutsE L c hL hF he

end Go.Proofs.Ytplfajhaehkhnaa
