/-
  WALKS: the laws JournalTells, JournalAll. (Printed by gen.py out of w_ljour.py.)
-/
import Derived.Test.YtopfpkmdkcjjlaaJour4
namespace Go.Proofs.Ytopfpkmdkcjjlaa
open Go
set_option maxRecDepth 20000
set_option linter.unusedVariables false
set_option linter.unusedSimpArgs false

theorem w_JournalTells (b : List UInt8) (n : Int) (hb : b.length ≤ 1048576) : Pur Try.prog 8 [.r (.bs b), .r (.int .i64 n)] (.r (.bool true)) := by
  refine spec_of_go (N := 74) Try.func8 rfl (by decide) rfl rfl ?_
  refine zB ?_
  refine pA ?_
  refine zA ?_
  refine zB ?_
  refine ar_pur (w_alive16) rfl rfl rfl rfl rfl rfl rfl ?_
  refine pA ?_
  refine ar_nil ?_
  refine ag_false rfl (rfl) ?_
  refine ag_skip ?_
  refine ag_seq ?_
  refine zB ?_
  iterate 3 refine pA ?_
  refine ar_guard (t := decide (n > 1000)) (fun ht => ?_) (fun ht => ?_)
  · refine ar_ent (ent_reg 16 (.r (.bool true)) (by show AVal.r (.bool _) = _; exact eqB ht)) ?_
    have hk := of_decide_eq_true ht
    iterate 3 refine pA ?_
    refine ar_nil ?_
    refine ag_if rfl ?_ ?_
    · intro h19
      refine ag_reg ?_
      refine pA ?_
      refine ar_qd rfl (qop_makeRo tOk rfl ?_ rfl) rfl rfl rfl rfl ?_
      · refine ⟨?_, ?_⟩ <;> first | omega | (simp; done) | (simp; omega) | (refine ⟨?_, ?_⟩ <;> first | omega | (simp; done) | (simp; omega))
      refine pA ?_
      refine zA ?_
      obtain ⟨c, hcl, hce⟩ : ∃ c : List UInt8, c.length ≤ 1048576 ∧ c = List.replicate n.toNat 0 := ⟨_, by rw [List.length_replicate]; omega, rfl⟩
      refine ag_ent (ent_weak (g' := [(0, .r (.bs c))]) (h' := ⟨0, [], false⟩) [] rfl rfl rfl rfl ?_ ?_ rfl) ?_
      · exact ⟨⟨rfl, by rw [hce]; rfl⟩, trivial⟩
      · trivial
      have hs := w_Split c (by omega)
      have hr := w_rSplit c (by omega)
      have hsl := spl_len c
      generalize splL c = S at hs hr hsl
      clear hce
      rcases (show ¬ c.length ≤ 1024 ∨ c.length ≤ 1024 by omega) with hl | hl
      · skip
        refine ag_reg ?_
        refine pA ?_
        refine ar_pur (w_FrameL c hl) rfl rfl rfl rfl rfl rfl rfl ?_
        iterate 5 refine pA ?_
        refine zC ?_
        refine pA ?_
        refine ar_pur (hs) rfl rfl rfl rfl rfl rfl rfl ?_
        iterate 5 refine pA ?_
        refine zC ?_
        refine pA ?_
        refine ar_pur (hr) rfl rfl rfl rfl rfl rfl rfl ?_
        iterate 5 refine pA ?_
        refine zA ?_
        refine zB ?_
        iterate 2 refine pA ?_
        refine ar_pur (w_Lists _ _ (by omega)) rfl rfl rfl rfl rfl rfl rfl ?_
        iterate 2 refine pA ?_
        refine ar_ent (ent_reg 41 (.r (.bool false)) (by show AVal.r (.bool _) = _; exact eqB (by simp))) ?_
        iterate 4 refine pA ?_
        refine ar_nil ?_
        refine ag_false rfl (by simp) ?_
        refine ag_skip ?_
        refine ag_seq ?_
        refine zB ?_
        iterate 3 refine pA ?_
        refine ar_nil ?_
        refine ag_true rfl (by simp; omega) ?_
        refine zB ?_
        iterate 3 refine pA ?_
        refine ar_ent (ent_reg 51 (.r (.bool true)) (by show AVal.r (.bool _) = _; exact eqB (by simp))) ?_
        iterate 5 refine pA ?_
        refine ar_nil ?_
        refine ag_ret tOk Try.func8 rfl rfl (by simp) ?_
        exact eqB (by simp)
      · skip
        refine ag_reg ?_
        refine pA ?_
        refine ar_pur (w_FrameS c hl) rfl rfl rfl rfl rfl rfl rfl ?_
        iterate 5 refine pA ?_
        refine zC ?_
        refine pA ?_
        refine ar_pur (hs) rfl rfl rfl rfl rfl rfl rfl ?_
        iterate 5 refine pA ?_
        refine zC ?_
        refine pA ?_
        refine ar_pur (hr) rfl rfl rfl rfl rfl rfl rfl ?_
        iterate 5 refine pA ?_
        refine zA ?_
        refine zB ?_
        iterate 2 refine pA ?_
        refine ar_pur (w_Lists _ _ (by omega)) rfl rfl rfl rfl rfl rfl rfl ?_
        iterate 2 refine pA ?_
        refine ar_ent (ent_reg 41 (.r (.bool false)) (by show AVal.r (.bool _) = _; exact eqB (by simp))) ?_
        iterate 4 refine pA ?_
        refine ar_nil ?_
        refine ag_false rfl (by simp) ?_
        refine ag_skip ?_
        refine ag_seq ?_
        refine zB ?_
        iterate 3 refine pA ?_
        refine ar_nil ?_
        refine ag_false rfl (by simp; omega) ?_
        refine ag_skip ?_
        refine zB ?_
        iterate 2 refine pA ?_
        refine ar_pur (own_ro_bytes (w_rNum (c.length : Int) 2 2 (by decide)) (by rw [numL_length])) rfl rfl rfl rfl rfl rfl rfl ?_
        refine pA ?_
        refine ar_pur (w_rSum c (by omega)) rfl rfl rfl rfl rfl rfl rfl ?_
        refine ar_pure tOk rfl rfl rfl ?_ ?_
        · simp only [boundsOk]; rw [sha_length]; omega
        refine ar_ent (ent_reg 61 (.r (.bs ((sha c).take 4))) (by show AVal.r (.bs _) = _; exact eqBsv (by simp [cutL, mulz]))) ?_
        refine ar_pur (w_rCat _ _ (by rw [numL_length, sha4_length]; decide)) rfl rfl rfl rfl rfl rfl rfl ?_
        refine pA ?_
        refine ar_pur (w_rCat _ _ (by rw [List.length_append, numL_length, sha4_length]; omega)) rfl rfl rfl rfl rfl rfl rfl ?_
        refine pA ?_
        refine zC ?_
        iterate 3 refine pA ?_
        refine ar_ent (ent_reg 67 (.r (.bool true)) (by show AVal.r (.bool _) = _; exact eqB (by simp))) ?_
        iterate 7 refine pA ?_
        refine ar_nil ?_
        refine ag_ret tOk Try.func8 rfl rfl (by simp) ?_
        exact eqB (by simp [frm])
    · intro h19
      refine ag_skip ?_
      refine ag_seq ?_
      obtain ⟨c, hcl, hce⟩ : ∃ c : List UInt8, c.length ≤ 1048576 ∧ c = b := ⟨b, hb, rfl⟩
      refine ag_ent (ent_weak (g' := [(0, .r (.bs c))]) (h' := ⟨0, [], false⟩) [] rfl rfl rfl rfl ?_ ?_ rfl) ?_
      · exact ⟨⟨rfl, by rw [hce]; rfl⟩, trivial⟩
      · trivial
      have hs := w_Split c (by omega)
      have hr := w_rSplit c (by omega)
      have hsl := spl_len c
      generalize splL c = S at hs hr hsl
      clear hce
      rcases (show ¬ c.length ≤ 1024 ∨ c.length ≤ 1024 by omega) with hl | hl
      · skip
        refine ag_reg ?_
        refine pA ?_
        refine ar_pur (w_FrameL c hl) rfl rfl rfl rfl rfl rfl rfl ?_
        iterate 5 refine pA ?_
        refine zC ?_
        refine pA ?_
        refine ar_pur (hs) rfl rfl rfl rfl rfl rfl rfl ?_
        iterate 5 refine pA ?_
        refine zC ?_
        refine pA ?_
        refine ar_pur (hr) rfl rfl rfl rfl rfl rfl rfl ?_
        iterate 5 refine pA ?_
        refine zA ?_
        refine zB ?_
        iterate 2 refine pA ?_
        refine ar_pur (w_Lists _ _ (by omega)) rfl rfl rfl rfl rfl rfl rfl ?_
        iterate 2 refine pA ?_
        refine ar_ent (ent_reg 41 (.r (.bool false)) (by show AVal.r (.bool _) = _; exact eqB (by simp))) ?_
        iterate 4 refine pA ?_
        refine ar_nil ?_
        refine ag_false rfl (by simp) ?_
        refine ag_skip ?_
        refine ag_seq ?_
        refine zB ?_
        iterate 3 refine pA ?_
        refine ar_nil ?_
        refine ag_true rfl (by simp; omega) ?_
        refine zB ?_
        iterate 3 refine pA ?_
        refine ar_ent (ent_reg 51 (.r (.bool true)) (by show AVal.r (.bool _) = _; exact eqB (by simp))) ?_
        iterate 5 refine pA ?_
        refine ar_nil ?_
        refine ag_ret tOk Try.func8 rfl rfl (by simp) ?_
        exact eqB (by simp)
      · skip
        refine ag_reg ?_
        refine pA ?_
        refine ar_pur (w_FrameS c hl) rfl rfl rfl rfl rfl rfl rfl ?_
        iterate 5 refine pA ?_
        refine zC ?_
        refine pA ?_
        refine ar_pur (hs) rfl rfl rfl rfl rfl rfl rfl ?_
        iterate 5 refine pA ?_
        refine zC ?_
        refine pA ?_
        refine ar_pur (hr) rfl rfl rfl rfl rfl rfl rfl ?_
        iterate 5 refine pA ?_
        refine zA ?_
        refine zB ?_
        iterate 2 refine pA ?_
        refine ar_pur (w_Lists _ _ (by omega)) rfl rfl rfl rfl rfl rfl rfl ?_
        iterate 2 refine pA ?_
        refine ar_ent (ent_reg 41 (.r (.bool false)) (by show AVal.r (.bool _) = _; exact eqB (by simp))) ?_
        iterate 4 refine pA ?_
        refine ar_nil ?_
        refine ag_false rfl (by simp) ?_
        refine ag_skip ?_
        refine ag_seq ?_
        refine zB ?_
        iterate 3 refine pA ?_
        refine ar_nil ?_
        refine ag_false rfl (by simp; omega) ?_
        refine ag_skip ?_
        refine zB ?_
        iterate 2 refine pA ?_
        refine ar_pur (own_ro_bytes (w_rNum (c.length : Int) 2 2 (by decide)) (by rw [numL_length])) rfl rfl rfl rfl rfl rfl rfl ?_
        refine pA ?_
        refine ar_pur (w_rSum c (by omega)) rfl rfl rfl rfl rfl rfl rfl ?_
        refine ar_pure tOk rfl rfl rfl ?_ ?_
        · simp only [boundsOk]; rw [sha_length]; omega
        refine ar_ent (ent_reg 61 (.r (.bs ((sha c).take 4))) (by show AVal.r (.bs _) = _; exact eqBsv (by simp [cutL, mulz]))) ?_
        refine ar_pur (w_rCat _ _ (by rw [numL_length, sha4_length]; decide)) rfl rfl rfl rfl rfl rfl rfl ?_
        refine pA ?_
        refine ar_pur (w_rCat _ _ (by rw [List.length_append, numL_length, sha4_length]; omega)) rfl rfl rfl rfl rfl rfl rfl ?_
        refine pA ?_
        refine zC ?_
        iterate 3 refine pA ?_
        refine ar_ent (ent_reg 67 (.r (.bool true)) (by show AVal.r (.bool _) = _; exact eqB (by simp))) ?_
        iterate 7 refine pA ?_
        refine ar_nil ?_
        refine ag_ret tOk Try.func8 rfl rfl (by simp) ?_
        exact eqB (by simp [frm])
  · refine ar_ent (ent_reg 16 (.r (.bool false)) (by show AVal.r (.bool _) = _; exact eqB ht)) ?_
    have hk := of_decide_eq_false ht
    repeat (first | refine ar_skip rfl rfl rfl ?_ | refine ar_pure tOk rfl rfl rfl trivial ?_)
    refine ar_nil ?_
    refine ag_false rfl (rfl) ?_
    refine ag_skip ?_
    refine ag_seq ?_
    obtain ⟨c, hcl, hce⟩ : ∃ c : List UInt8, c.length ≤ 1048576 ∧ c = b := ⟨b, hb, rfl⟩
    refine ag_ent (ent_weak (g' := [(0, .r (.bs c))]) (h' := ⟨0, [], false⟩) [] rfl rfl rfl rfl ?_ ?_ rfl) ?_
    · exact ⟨⟨rfl, by rw [hce]; rfl⟩, trivial⟩
    · trivial
    have hs := w_Split c (by omega)
    have hr := w_rSplit c (by omega)
    have hsl := spl_len c
    generalize splL c = S at hs hr hsl
    clear hce
    rcases (show ¬ c.length ≤ 1024 ∨ c.length ≤ 1024 by omega) with hl | hl
    · skip
      refine ag_reg ?_
      refine pA ?_
      refine ar_pur (w_FrameL c hl) rfl rfl rfl rfl rfl rfl rfl ?_
      iterate 5 refine pA ?_
      refine zC ?_
      refine pA ?_
      refine ar_pur (hs) rfl rfl rfl rfl rfl rfl rfl ?_
      iterate 5 refine pA ?_
      refine zC ?_
      refine pA ?_
      refine ar_pur (hr) rfl rfl rfl rfl rfl rfl rfl ?_
      iterate 5 refine pA ?_
      refine zA ?_
      refine zB ?_
      iterate 2 refine pA ?_
      refine ar_pur (w_Lists _ _ (by omega)) rfl rfl rfl rfl rfl rfl rfl ?_
      iterate 2 refine pA ?_
      refine ar_ent (ent_reg 41 (.r (.bool false)) (by show AVal.r (.bool _) = _; exact eqB (by simp))) ?_
      iterate 4 refine pA ?_
      refine ar_nil ?_
      refine ag_false rfl (by simp) ?_
      refine ag_skip ?_
      refine ag_seq ?_
      refine zB ?_
      iterate 3 refine pA ?_
      refine ar_nil ?_
      refine ag_true rfl (by simp; omega) ?_
      refine zB ?_
      iterate 3 refine pA ?_
      refine ar_ent (ent_reg 51 (.r (.bool true)) (by show AVal.r (.bool _) = _; exact eqB (by simp))) ?_
      iterate 5 refine pA ?_
      refine ar_nil ?_
      refine ag_ret tOk Try.func8 rfl rfl (by simp) ?_
      exact eqB (by simp)
    · skip
      refine ag_reg ?_
      refine pA ?_
      refine ar_pur (w_FrameS c hl) rfl rfl rfl rfl rfl rfl rfl ?_
      iterate 5 refine pA ?_
      refine zC ?_
      refine pA ?_
      refine ar_pur (hs) rfl rfl rfl rfl rfl rfl rfl ?_
      iterate 5 refine pA ?_
      refine zC ?_
      refine pA ?_
      refine ar_pur (hr) rfl rfl rfl rfl rfl rfl rfl ?_
      iterate 5 refine pA ?_
      refine zA ?_
      refine zB ?_
      iterate 2 refine pA ?_
      refine ar_pur (w_Lists _ _ (by omega)) rfl rfl rfl rfl rfl rfl rfl ?_
      iterate 2 refine pA ?_
      refine ar_ent (ent_reg 41 (.r (.bool false)) (by show AVal.r (.bool _) = _; exact eqB (by simp))) ?_
      iterate 4 refine pA ?_
      refine ar_nil ?_
      refine ag_false rfl (by simp) ?_
      refine ag_skip ?_
      refine ag_seq ?_
      refine zB ?_
      iterate 3 refine pA ?_
      refine ar_nil ?_
      refine ag_false rfl (by simp; omega) ?_
      refine ag_skip ?_
      refine zB ?_
      iterate 2 refine pA ?_
      refine ar_pur (own_ro_bytes (w_rNum (c.length : Int) 2 2 (by decide)) (by rw [numL_length])) rfl rfl rfl rfl rfl rfl rfl ?_
      refine pA ?_
      refine ar_pur (w_rSum c (by omega)) rfl rfl rfl rfl rfl rfl rfl ?_
      refine ar_pure tOk rfl rfl rfl ?_ ?_
      · simp only [boundsOk]; rw [sha_length]; omega
      refine ar_ent (ent_reg 61 (.r (.bs ((sha c).take 4))) (by show AVal.r (.bs _) = _; exact eqBsv (by simp [cutL, mulz]))) ?_
      refine ar_pur (w_rCat _ _ (by rw [numL_length, sha4_length]; decide)) rfl rfl rfl rfl rfl rfl rfl ?_
      refine pA ?_
      refine ar_pur (w_rCat _ _ (by rw [List.length_append, numL_length, sha4_length]; omega)) rfl rfl rfl rfl rfl rfl rfl ?_
      refine pA ?_
      refine zC ?_
      iterate 3 refine pA ?_
      refine ar_ent (ent_reg 67 (.r (.bool true)) (by show AVal.r (.bool _) = _; exact eqB (by simp))) ?_
      iterate 7 refine pA ?_
      refine ar_nil ?_
      refine ag_ret tOk Try.func8 rfl rfl (by simp) ?_
      exact eqB (by simp [frm])

theorem shrt_next {l : List (List UInt8)} {i : Nat} {x : List UInt8} (h : l[i]? = some x) : shrt (l.take (i + 1)) ↔ shrt (l.take i) ∧ x.length ≤ 1024 := by
  rw [List.take_add_one, h]
  unfold shrt
  constructor
  · intro q; exact ⟨fun y hy => q y (by simp [hy]), q x (by simp)⟩
  · rintro ⟨q, r⟩ y hy
    rcases List.mem_append.1 hy with hy | hy
    · exact q y hy
    · simp at hy; rw [hy]; exact r

def stJAl_0 (l : List (List UInt8)) (room : Int) : Nat → Regs × Hp := fun i => ([(0, roL l), (1, .r (.int .i64 room)), (5, .ptr 0 0), (6, .r (.int .i64 ((frms (l.take i)).length : Int))), (7, .r (.bool (decide (¬ shrt (l.take i))))), (8, .r (.int .i64 (i : Int)))], obAt none [.int .i64 0, .int .i64 room, .bool true] 0 1 ⟨2, [], false⟩)
def prJAl_0 (l : List (List UInt8)) (room : Int) : Nat → Prop := fun i => i ≤ l.length
theorem w_JournalAll0 (l : List (List UInt8)) (hF : (frms l).length ≤ 4000000000000) (room0 room : Int) (hm : -80 < room0.tmod 80 ∧ room0.tmod 80 < 80) (hr : (room0.tmod 80 + 80).tmod 80 = room) (hr1 : 0 ≤ room) (hr2 : room ≤ 79) : Pur Try.prog 9 [roL l, .r (.int .i64 room0)] (.r (.bool true)) := by
  have hLl := frms_len l
  refine spec_of_go (N := 98) Try.func9 rfl (by decide) rfl rfl ?_
  refine zB ?_
  refine pA ?_
  refine zA ?_
  refine zB ?_
  refine ar_pur (w_alive16) rfl rfl rfl rfl rfl rfl rfl ?_
  refine pA ?_
  refine ar_nil ?_
  refine ag_false rfl (rfl) ?_
  refine ag_skip ?_
  refine zB ?_
  refine pA ?_
  refine ar_pure tOk rfl rfl rfl ?_ ?_
  · decide
  refine ar_pure tOk rfl rfl rfl ?_ ?_
  · unfold inI64; omega
  refine ar_pure tOk rfl rfl rfl ?_ ?_
  · decide
  refine ar_ent (ent_reg 20 (.r (.int .i64 (room))) (by show AVal.r (.int _ _) = _; exact eqI (hr))) ?_
  refine pA ?_
  refine zC ?_
  refine pA ?_
  refine ar_obj [] (w_New room) rfl rfl (handed_of rfl rfl (by decide) trivial) rfl rfl rfl rfl ?_
  rintro _ _ ⟨rfl, rfl⟩
  refine ⟨_, _, rfl, ?_⟩
  refine pA ?_
  refine ar_nil ?_
  refine ag_ent (ent_weak (g' := [(0, roL l), (1, .r (.int .i64 room)), (5, .ptr 0 0)]) (h' := dN 0 room true) [0] rfl rfl rfl rfl ?_ ?_ rfl) ?_
  · exact ⟨⟨rfl, rfl⟩, ⟨rfl, rfl⟩, ⟨rfl, rfl⟩, trivial⟩
  · exact ⟨⟨rfl, rfl, eqMxN rfl (by omega)⟩, trivial⟩
  refine ag_ent ent_dead ?_
  refine ag_ent (ent_same (h' := obAt none [.int .i64 0, .int .i64 room, .bool true] 0 1 ⟨2, [], false⟩) rfl rfl ⟨rfl, rfl, trivial⟩) ?_
  refine zB ?_
  iterate 2 refine pA ?_
  refine zA ?_
  refine zB ?_
  refine pA ?_
  refine ar_nil ?_
  refine ag_block ?_
  refine ag_loopS (stJAl_0 l room) (prJAl_0 l room) (fun (i : Nat) => l.length - i) 0 (ent_weak [0, 1] rfl rfl rfl rfl ?_ ?_ rfl) (show prJAl_0 l room 0 from ?_) ?_
  · exact ⟨⟨rfl, rfl⟩, ⟨rfl, rfl⟩, ⟨rfl, rfl⟩, ⟨rfl, rfl⟩, ⟨rfl, rfl⟩, ⟨rfl, rfl⟩, trivial⟩
  · exact ⟨⟨rfl, rfl, rfl⟩, trivial⟩
  · exact Nat.zero_le _
  rintro i hi hrec
  have hi : i ≤ l.length := hi
  refine ag_seq ?_
  refine zB ?_
  iterate 4 refine pA ?_
  refine ar_nil ?_
  refine ag_if rfl ?_ ?_
  · intro h26
    obtain ⟨x, hx⟩ : ∃ x, l[i]? = some x := ⟨l[i]'(by omega), by simp⟩
    have hfl := frms_take l (i + 1)
    rw [frms_next hx, List.length_append, frm_length] at hfl
    refine ag_skip ?_
    refine ag_seq ?_
    refine ag_block ?_
    refine zB ?_
    refine pA ?_
    refine ar_pure tOk rfl rfl rfl ?_ ?_
    · unfold inI64; omega
    iterate 2 refine pA ?_
    refine ar_pure tOk rfl rfl rfl ?_ ?_
    · refine ⟨?_, ?_⟩ <;> first | omega | exact ne_mpB hx | (refine ⟨?_, ?_⟩ <;> omega)
    refine ar_loadAs tOk (.r (.bs x)) rfl rfl rfl rfl rfl rfl rfl (.inl ⟨rfl, by simp [Body.cells, mulz_eq, hx]⟩) ?_
    refine pA ?_
    refine ar_pure tOk rfl rfl rfl ?_ ?_
    · unfold inI64; omega
    refine pA ?_
    refine ar_nil ?_
    refine ag_reg ?_
    iterate 2 refine pA ?_
    refine ar_guard (t := decide (¬ shrt (l.take i))) (fun ht => ?_) (fun ht => ?_)
    · refine ar_ent (ent_reg 38 (.r (.bool true)) (by show AVal.r (.bool _) = _; exact eqB ht)) ?_
      have hk := of_decide_eq_true ht
      repeat (first | refine ar_skip rfl rfl rfl ?_ | refine ar_pure tOk rfl rfl rfl trivial ?_)
      refine ar_nil ?_
      refine ag_inBlock ?_
      refine ag_reg ?_
      refine pA ?_
      refine ar_pure tOk rfl rfl rfl ?_ ?_
      · unfold inI64; omega
      refine pA ?_
      refine ar_nil ?_
      refine ag_ent (ent_weak (g' := (stJAl_0 l room (i + 1)).1) (h' := (stJAl_0 l room (i + 1)).2) [0, 1] rfl rfl rfl rfl ?_ ?_ rfl) ?_
      · exact ⟨⟨rfl, rfl⟩, ⟨rfl, rfl⟩, ⟨rfl, rfl⟩, ⟨rfl, by exact eqI (by rw [frms_next hx, List.length_append, frm_length]; omega)⟩, ⟨rfl, by exact eqB (decide_eq_true (fun q => hk ((shrt_next hx).1 q).1))⟩, ⟨rfl, by exact eqI (by omega)⟩, trivial⟩
      · exact ⟨⟨rfl, rfl, rfl⟩, trivial⟩
      have hnx := hrec (i + 1)
      refine hnx ?_ ?_
      · show i + 1 ≤ l.length; omega
      · show l.length - (i + 1) < l.length - i; omega
    · refine ar_ent (ent_reg 38 (.r (.bool false)) (by show AVal.r (.bool _) = _; exact eqB ht)) ?_
      have hk := Decidable.not_not.1 (of_decide_eq_false ht)
      iterate 2 refine pA ?_
      refine ar_pure tOk rfl rfl rfl ?_ ?_
      · refine ⟨?_, ?_⟩ <;> first | omega | exact ne_mpB hx | (refine ⟨?_, ?_⟩ <;> omega)
      refine ar_loadAs tOk (.r (.bs x)) rfl rfl rfl rfl rfl rfl rfl (.inl ⟨rfl, by simp [Body.cells, mulz_eq, hx]⟩) ?_
      refine pA ?_
      skip
      iterate 3 refine pA ?_
      refine ar_nil ?_
      refine ag_inBlock ?_
      refine ag_reg ?_
      refine pA ?_
      refine ar_pure tOk rfl rfl rfl ?_ ?_
      · unfold inI64; omega
      refine pA ?_
      refine ar_nil ?_
      refine ag_ent (ent_weak (g' := (stJAl_0 l room (i + 1)).1) (h' := (stJAl_0 l room (i + 1)).2) [0, 1] rfl rfl rfl rfl ?_ ?_ rfl) ?_
      · exact ⟨⟨rfl, rfl⟩, ⟨rfl, rfl⟩, ⟨rfl, rfl⟩, ⟨rfl, by exact eqI (by rw [frms_next hx, List.length_append, frm_length]; omega)⟩, ⟨rfl, by exact eqB (by have e := shrt_next hx; by_cases q : x.length ≤ 1024 <;> simp [e, hk, q] <;> omega)⟩, ⟨rfl, by exact eqI (by omega)⟩, trivial⟩
      · exact ⟨⟨rfl, rfl, rfl⟩, trivial⟩
      have hnx := hrec (i + 1)
      refine hnx ?_ ?_
      · show i + 1 ≤ l.length; omega
      · show l.length - (i + 1) < l.length - i; omega
  · intro h26
    obtain rfl : i = l.length := by omega
    refine ag_ent (ent_weak (g' := [(0, roL l), (1, .r (.int .i64 room)), (5, .ptr 0 0), (6, .r (.int .i64 ((frms l).length : Int))), (7, .r (.bool (decide (¬ shrt l))))]) (h' := obAt none [.int .i64 0, .int .i64 room, .bool true] 0 1 ⟨2, [], false⟩) [0, 1] rfl rfl rfl rfl ?_ ?_ rfl) ?_
    · exact ⟨⟨rfl, rfl⟩, ⟨rfl, rfl⟩, ⟨rfl, rfl⟩, ⟨rfl, by exact eqI (by rw [List.take_length])⟩, ⟨rfl, by exact eqB (by rw [List.take_length])⟩, trivial⟩
    · exact ⟨⟨rfl, rfl, rfl⟩, trivial⟩
    refine ag_exit rfl ?_
    refine zB ?_
    iterate 2 refine pA ?_
    refine ar_ob (w_KAppend [] 0 room none [.int .i64 0, .int .i64 room, .bool true] (kRel0 (by omega) (by omega)) l hF) rfl rfl rfl rfl rfl rfl rfl (by intro d hd; cases hd; rfl) ?_
    rintro _ sl tl ⟨rfl, hr⟩
    refine ⟨rfl, ?_⟩
    refine pA ?_
    refine zC ?_
    refine pA ?_
    refine zC ?_
    refine pA ?_
    refine ar_pur (w_Load0) rfl rfl rfl rfl rfl rfl rfl ?_
    iterate 5 refine pA ?_
    refine zA ?_
    refine zB ?_
    iterate 3 refine pA ?_
    refine ar_ent (ent_reg 56 (.r (.bool false)) (by show AVal.r (.bool _) = _; exact eqB (by simp))) ?_
    iterate 2 refine pA ?_
    refine ar_pur (w_Append0 l) rfl rfl rfl rfl rfl rfl rfl ?_
    iterate 2 refine pA ?_
    refine ar_nil ?_
    refine ag_false rfl (by simp) ?_
    refine ag_skip ?_
    refine ag_seq ?_
    refine ag_block ?_
    refine zB ?_
    iterate 2 refine pA ?_
    refine ar_nil ?_
    refine ag_if rfl ?_ ?_
    · intro h62
      have hns : ¬ shrt l := h62
      have hE : apE [] room l = 5 := by rw [apE, if_neg hns]
      rw [ap_no (by rw [hE]; decide)] at hr
      refine zB ?_
      iterate 3 refine pA ?_
      refine ar_ent (ent_reg 66 (.r (.bool true)) (by show AVal.r (.bool _) = _; exact eqB (by simp [hE]))) ?_
      refine pA ?_
      refine ar_ob (w_KFresh _ _ _ _ _ hr) rfl rfl rfl rfl rfl rfl rfl (by intro d hd; cases hd; rfl) ?_
      rintro _ sl tl ⟨rfl, hr⟩
      refine ⟨rfl, ?_⟩
      iterate 3 refine pA ?_
      refine ar_nil ?_
      refine ag_ret tOk Try.func9 rfl rfl (by simp) ?_
      exact eqB (by simp)
    · intro h62
      have hsh : shrt l := Decidable.not_not.1 h62
      refine zB ?_
      iterate 4 refine pA ?_
      refine ar_nil ?_
      refine ag_if rfl ?_ ?_
      · intro h71
        have hE : apE [] room l = 10 := by rw [apE, if_pos hsh, if_pos (by simp; omega)]
        rw [ap_no (by rw [hE]; decide)] at hr
        refine zB ?_
        iterate 3 refine pA ?_
        refine ar_ent (ent_reg 77 (.r (.bool true)) (by show AVal.r (.bool _) = _; exact eqB (by simp [hE]))) ?_
        refine pA ?_
        refine ar_ob (w_KFresh _ _ _ _ _ hr) rfl rfl rfl rfl rfl rfl rfl (by intro d hd; cases hd; rfl) ?_
        rintro _ sl tl ⟨rfl, hr⟩
        refine ⟨rfl, ?_⟩
        iterate 3 refine pA ?_
        refine ar_nil ?_
        refine ag_ret tOk Try.func9 rfl rfl (by simp) ?_
        exact eqB (by simp)
      · intro h71
        have hE : apE [] room l = 0 := by rw [apE, if_pos hsh, if_neg (by simp; omega)]
        rw [(ap_ok hE).2.2, List.nil_append] at hr
        refine ag_skip ?_
        refine ag_inBlock ?_
        refine zB ?_
        refine pA ?_
        refine ar_ob (w_KLoad _ _ _ _ _ hr) rfl rfl rfl rfl rfl rfl rfl (by intro d hd; cases hd; rfl) ?_
        rintro _ sl tl ⟨rfl, hr⟩
        refine ⟨rfl, ?_⟩
        iterate 5 refine pA ?_
        refine zA ?_
        have hsp := spl_all hsh
        have hLs := w_Lists l l (by omega)
        refine ag_ent (ent_reg 13 (roL l) (by show roL (splL (frms l)).1 = _; rw [hsp])) ?_
        refine ag_reg ?_
        iterate 3 refine pA ?_
        refine ar_ent (ent_reg 89 (.r (.bool true)) (by show AVal.r (.bool _) = _; exact eqB (by simp [hE]))) ?_
        iterate 3 refine pA ?_
        skip
        refine pA ?_
        refine ar_ent (ent_reg 93 (.r (.bool true)) (by show AVal.r (.bool _) = _; exact eqB (by simp [hE]))) ?_
        iterate 2 refine pA ?_
        refine ar_pur (hLs) rfl rfl rfl rfl rfl rfl rfl ?_
        iterate 2 refine pA ?_
        refine ar_nil ?_
        refine ag_ret tOk Try.func9 rfl rfl (by simp) ?_
        exact eqB (by simp)

theorem w_JournalAll (l : List (List UInt8)) (hF : (frms l).length ≤ 4000000000000) (room0 : Int) : Pur Try.prog 9 [roL l, .r (.int .i64 room0)] (.r (.bool true)) := by
  have h1 : -80 < room0.tmod 80 ∧ room0.tmod 80 < 80 := ⟨Int.lt_tmod_of_pos room0 (by decide), Int.tmod_lt_of_pos room0 (by decide)⟩
  have h2 : 0 ≤ (room0.tmod 80 + 80).tmod 80 := Int.tmod_nonneg 80 (by omega)
  have h3 : (room0.tmod 80 + 80).tmod 80 < 80 := Int.tmod_lt_of_pos _ (by decide)
  exact w_JournalAll0 l hF room0 _ h1 rfl h2 (by omega)

end Go.Proofs.Ytopfpkmdkcjjlaa
