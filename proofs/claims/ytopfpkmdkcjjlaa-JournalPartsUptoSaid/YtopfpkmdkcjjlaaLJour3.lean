/-
  WALKS: the law JournalParts. (Printed by gen.py out of w_ljour3.py.)
-/
import Derived.Test.YtopfpkmdkcjjlaaJour4
namespace Go.Proofs.Ytopfpkmdkcjjlaa
open Go
set_option maxRecDepth 20000
set_option linter.unusedVariables false
set_option linter.unusedSimpArgs false

def slO : List UInt8 → Option (List UInt8)
  | [] => none
  | a :: r => some (a :: r)
theorem frms_ne {l : List (List UInt8)} (h : l ≠ []) : frms l ≠ [] := by
  cases l with
  | nil => exact absurd rfl h
  | cons x l => rw [frms_cons]; obtain ⟨a, b, e⟩ := frm_cons x; rw [e]; simp
theorem w_OctBX (x : List UInt8) (n : Nat) (s : List UInt8) (su ro : Int) (hn : n ≤ s.length) (h2 : n ≤ 65536) (hx : s.take n = x) : Spec Try.prog 35 [.ptr 0 0] (dB n s su ro true) (fun v h' => v = .r (.bs x) ∧ h' = dB n s su ro true) := hx ▸ w_OctetsB n s su ro hn h2

theorem w_PartsE  : Pur Try.prog 10 [roL []] (.r (.bool true)) := by
  have hE0 : apE [] 65536 [] = 0 := by decide
  have hB0 : apB [] 65536 [] = [] := by decide
  have hLs := w_Lists [] [] (by decide)
  refine spec_of_go (N := 56) Try.func10 rfl (by decide) rfl rfl ?_
  refine zB ?_
  refine pA ?_
  refine zA ?_
  refine zB ?_
  refine ar_pur (w_alive16) rfl rfl rfl rfl rfl rfl rfl ?_
  refine pA ?_
  refine ar_nil ?_
  refine ag_false rfl (rfl) ?_
  refine ag_skip ?_
  refine zB ?_
  refine ar_obj [] (w_New 65536) rfl rfl (handed_of rfl rfl (by decide) trivial) rfl rfl rfl rfl ?_
  rintro _ _ ⟨rfl, rfl⟩
  refine ⟨_, _, rfl, ?_⟩
  refine ar_obj [] (w_New 65536) rfl rfl (handed_of rfl rfl (by decide) trivial) rfl rfl rfl rfl ?_
  rintro _ _ ⟨rfl, rfl⟩
  refine ⟨_, _, rfl, ?_⟩
  iterate 2 refine pA ?_
  refine ar_nil ?_
  refine ag_ent (ent_weak (g' := [(0, roL []), (3, .ptr 0 0), (4, .ptr 1 0)]) (h' := ⟨2, [(0, some (.mixed [.r .nil, .r (.int .i64 0), .r (.int .i64 65536), .r (.bool true)])), (1, some (.mixed [.r .nil, .r (.int .i64 0), .r (.int .i64 65536), .r (.bool true)]))], false⟩) [0, 1] rfl rfl rfl rfl ?_ ?_ rfl) ?_
  · exact ⟨⟨rfl, rfl⟩, ⟨rfl, rfl⟩, ⟨rfl, rfl⟩, trivial⟩
  · exact ⟨⟨rfl, rfl, eqMxN rfl (by decide)⟩, ⟨rfl, rfl, eqMxN rfl (by decide)⟩, trivial⟩
  refine ag_ent ent_dead ?_
  refine ag_ent (ent_same (h' := obAt none [.int .i64 0, .int .i64 65536, .bool true] 0 2 ⟨3, [(1, some (.mixed [.r .nil, .r (.int .i64 0), .r (.int .i64 65536), .r (.bool true)]))], false⟩) rfl rfl ⟨rfl, rfl, rfl, trivial⟩) ?_
  refine zB ?_
  iterate 2 refine pA ?_
  refine ar_ob (w_KAppend [] 0 65536 none [.int .i64 0, .int .i64 65536, .bool true] (kRel0 (by decide) (by decide)) [] (by decide)) rfl rfl rfl rfl rfl rfl rfl (by intro d hd; cases hd; rfl) ?_
  rintro _ sl tl ⟨rfl, hr⟩
  refine ⟨rfl, ?_⟩
  refine pA ?_
  refine zA ?_
  refine zB ?_
  iterate 2 refine pA ?_
  refine ar_nil ?_
  refine ag_false rfl (by rw [hE0]; decide) ?_
  refine ag_skip ?_
  iterate 2 refine ag_seq ?_
  rw [hB0] at hr
  obtain ⟨rfl, hs, -⟩ := hr
  rcases sl with _ | s
  · skip
    refine ag_ent ent_dead ?_
    refine ag_ent (ent_same (h' := obAt none [.int .i64 0, .int .i64 65536, .bool true] 1 3 ⟨4, [(0, some (.mixed [.r .nil, .r (.int .i64 0), .r (.int .i64 65536), .r (.bool true)]))], false⟩) rfl rfl ⟨rfl, rfl, rfl, trivial⟩) ?_
    refine ag_reg ?_
    refine pA ?_
    refine ar_nil ?_
    refine ag_block ?_
    refine ag_unroll ?_
    refine ag_seq ?_
    refine zB ?_
    iterate 4 refine pA ?_
    refine ar_nil ?_
    refine ag_false rfl (by decide) ?_
    refine ag_exit rfl ?_
    refine zB ?_
    refine pA ?_
    refine ar_ob (w_KLoad [] 0 65536 none [.int .i64 0, .int .i64 65536, .bool true] (kRel0 (by decide) (by decide))) rfl rfl rfl rfl rfl rfl rfl (by intro d hd; cases hd; rfl) ?_
    rintro _ sl tl ⟨rfl, hr⟩
    refine ⟨rfl, ?_⟩
    iterate 5 refine pA ?_
    refine zA ?_
    rw [spl_none (nx_short (by decide))] at hr
    obtain ⟨rfl, hs, -⟩ := hr
    rcases sl with _ | s
    · skip
      refine ag_ent (ent_reg 7 (roL []) (by show roL (splL []).1 = _; rw [spl_none (nx_short (by decide))])) ?_
      refine ag_draw0 (by kernel_rfl) (by kernel_rfl) ?_
      refine aq_pure tOk rfl rfl rfl trivial ?_
      refine aq_qd0 (qop_objR [0] (w_OctetsN 0 65536) (by rintro _ _ ⟨rfl, rfl⟩; exact ⟨rfl, rfl⟩) rfl rfl (handed_of rfl rfl (by decide) ⟨rfl, rfl, rfl, trivial⟩) rfl rfl) (by kernel_rfl) rfl rfl rfl rfl ?_
      iterate 2 refine aq_pure tOk rfl rfl rfl trivial ?_
      refine aq_qd0 (qop_objR [1] (w_OctetsN 0 65536) (by rintro _ _ ⟨rfl, rfl⟩; exact ⟨rfl, rfl⟩) rfl rfl (handed_of rfl rfl (by decide) ⟨rfl, rfl, rfl, trivial⟩) rfl rfl) (by kernel_rfl) rfl rfl rfl rfl ?_
      refine aq_pure tOk rfl rfl rfl trivial ?_
      refine aq_pureE tOk (.r (.bool true)) rfl (by show AVal.r (.bool _) = _; exact eqB (by simp)) rfl (by rfl) trivial ?_
      iterate 2 refine aq_pure tOk rfl rfl rfl trivial ?_
      refine aq_pureE tOk (.r (.bool true)) rfl (by show AVal.r (.bool _) = _; exact eqB (by simp)) rfl (by rfl) trivial ?_
      iterate 4 refine aq_pure tOk rfl rfl rfl trivial ?_
      refine aq_pur (hLs) rfl rfl rfl rfl rfl rfl rfl ?_
      iterate 2 refine aq_pure tOk rfl rfl rfl trivial ?_
      refine aq_nil rfl ?_
      refine ag_ret tOk Try.func10 rfl rfl (by simp) ?_
      exact eqB (by simp)
    · skip
      obtain rfl : [] = s := hs
      refine ag_ent (ent_reg 7 (roL []) (by show roL (splL []).1 = _; rw [spl_none (nx_short (by decide))])) ?_
      refine ag_draw0 (by kernel_rfl) (by kernel_rfl) ?_
      refine aq_pure tOk rfl rfl rfl trivial ?_
      refine aq_qd0 (qop_objR [0] (w_OctetsN 0 65536) (by rintro _ _ ⟨rfl, rfl⟩; exact ⟨rfl, rfl⟩) rfl rfl (handed_of rfl rfl (by decide) ⟨rfl, rfl, rfl, trivial⟩) rfl rfl) (by kernel_rfl) rfl rfl rfl rfl ?_
      iterate 2 refine aq_pure tOk rfl rfl rfl trivial ?_
      refine aq_qd0 (qop_objR [1, 3] (w_OctBX [] 0 [] 0 65536 (by decide) (by decide) rfl) (by rintro _ _ ⟨rfl, rfl⟩; exact ⟨rfl, rfl⟩) rfl rfl (handed_of rfl rfl (by decide) ⟨rfl, rfl, rfl, rfl, rfl, rfl, trivial⟩) rfl rfl) (by kernel_rfl) rfl rfl rfl rfl ?_
      refine aq_pure tOk rfl rfl rfl trivial ?_
      refine aq_pureE tOk (.r (.bool true)) rfl (by show AVal.r (.bool _) = _; exact eqB (by simp)) rfl (by rfl) trivial ?_
      iterate 2 refine aq_pure tOk rfl rfl rfl trivial ?_
      refine aq_pureE tOk (.r (.bool true)) rfl (by show AVal.r (.bool _) = _; exact eqB (by simp)) rfl (by rfl) trivial ?_
      iterate 4 refine aq_pure tOk rfl rfl rfl trivial ?_
      refine aq_pur (hLs) rfl rfl rfl rfl rfl rfl rfl ?_
      iterate 2 refine aq_pure tOk rfl rfl rfl trivial ?_
      refine aq_nil rfl ?_
      refine ag_ret tOk Try.func10 rfl rfl (by simp) ?_
      exact eqB (by simp)
  · skip
    obtain rfl : [] = s := hs
    refine ag_ent ent_dead ?_
    refine ag_ent (ent_same (h' := obAt none [.int .i64 0, .int .i64 65536, .bool true] 1 3 ⟨4, [(2, some (.bytes ([] : List UInt8))), (0, some (.mixed [.sl 2 0 (([] : List UInt8)).length 1, .r (.int .i64 0), .r (.int .i64 65536), .r (.bool true)]))], false⟩) rfl rfl ⟨rfl, rfl, rfl, rfl, trivial⟩) ?_
    refine ag_reg ?_
    refine pA ?_
    refine ar_nil ?_
    refine ag_block ?_
    refine ag_unroll ?_
    refine ag_seq ?_
    refine zB ?_
    iterate 4 refine pA ?_
    refine ar_nil ?_
    refine ag_false rfl (by decide) ?_
    refine ag_exit rfl ?_
    refine zB ?_
    refine pA ?_
    refine ar_ob (w_KLoad [] 0 65536 none [.int .i64 0, .int .i64 65536, .bool true] (kRel0 (by decide) (by decide))) rfl rfl rfl rfl rfl rfl rfl (by intro d hd; cases hd; rfl) ?_
    rintro _ sl tl ⟨rfl, hr⟩
    refine ⟨rfl, ?_⟩
    iterate 5 refine pA ?_
    refine zA ?_
    rw [spl_none (nx_short (by decide))] at hr
    obtain ⟨rfl, hs, -⟩ := hr
    rcases sl with _ | s
    · skip
      refine ag_ent (ent_reg 7 (roL []) (by show roL (splL []).1 = _; rw [spl_none (nx_short (by decide))])) ?_
      refine ag_draw0 (by kernel_rfl) (by kernel_rfl) ?_
      refine aq_pure tOk rfl rfl rfl trivial ?_
      refine aq_qd0 (qop_objR [0, 2] (w_OctBX [] 0 [] 0 65536 (by decide) (by decide) rfl) (by rintro _ _ ⟨rfl, rfl⟩; exact ⟨rfl, rfl⟩) rfl rfl (handed_of rfl rfl (by decide) ⟨rfl, rfl, rfl, rfl, rfl, rfl, trivial⟩) rfl rfl) (by kernel_rfl) rfl rfl rfl rfl ?_
      iterate 2 refine aq_pure tOk rfl rfl rfl trivial ?_
      refine aq_qd0 (qop_objR [1] (w_OctetsN 0 65536) (by rintro _ _ ⟨rfl, rfl⟩; exact ⟨rfl, rfl⟩) rfl rfl (handed_of rfl rfl (by decide) ⟨rfl, rfl, rfl, trivial⟩) rfl rfl) (by kernel_rfl) rfl rfl rfl rfl ?_
      refine aq_pure tOk rfl rfl rfl trivial ?_
      refine aq_pureE tOk (.r (.bool true)) rfl (by show AVal.r (.bool _) = _; exact eqB (by simp)) rfl (by rfl) trivial ?_
      iterate 2 refine aq_pure tOk rfl rfl rfl trivial ?_
      refine aq_pureE tOk (.r (.bool true)) rfl (by show AVal.r (.bool _) = _; exact eqB (by simp)) rfl (by rfl) trivial ?_
      iterate 4 refine aq_pure tOk rfl rfl rfl trivial ?_
      refine aq_pur (hLs) rfl rfl rfl rfl rfl rfl rfl ?_
      iterate 2 refine aq_pure tOk rfl rfl rfl trivial ?_
      refine aq_nil rfl ?_
      refine ag_ret tOk Try.func10 rfl rfl (by simp) ?_
      exact eqB (by simp)
    · skip
      obtain rfl : [] = s := hs
      refine ag_ent (ent_reg 7 (roL []) (by show roL (splL []).1 = _; rw [spl_none (nx_short (by decide))])) ?_
      refine ag_draw0 (by kernel_rfl) (by kernel_rfl) ?_
      refine aq_pure tOk rfl rfl rfl trivial ?_
      refine aq_qd0 (qop_objR [0, 2] (w_OctBX [] 0 [] 0 65536 (by decide) (by decide) rfl) (by rintro _ _ ⟨rfl, rfl⟩; exact ⟨rfl, rfl⟩) rfl rfl (handed_of rfl rfl (by decide) ⟨rfl, rfl, rfl, rfl, rfl, rfl, trivial⟩) rfl rfl) (by kernel_rfl) rfl rfl rfl rfl ?_
      iterate 2 refine aq_pure tOk rfl rfl rfl trivial ?_
      refine aq_qd0 (qop_objR [1, 3] (w_OctBX [] 0 [] 0 65536 (by decide) (by decide) rfl) (by rintro _ _ ⟨rfl, rfl⟩; exact ⟨rfl, rfl⟩) rfl rfl (handed_of rfl rfl (by decide) ⟨rfl, rfl, rfl, rfl, rfl, rfl, trivial⟩) rfl rfl) (by kernel_rfl) rfl rfl rfl rfl ?_
      refine aq_pure tOk rfl rfl rfl trivial ?_
      refine aq_pureE tOk (.r (.bool true)) rfl (by show AVal.r (.bool _) = _; exact eqB (by simp)) rfl (by rfl) trivial ?_
      iterate 2 refine aq_pure tOk rfl rfl rfl trivial ?_
      refine aq_pureE tOk (.r (.bool true)) rfl (by show AVal.r (.bool _) = _; exact eqB (by simp)) rfl (by rfl) trivial ?_
      iterate 4 refine aq_pure tOk rfl rfl rfl trivial ?_
      refine aq_pur (hLs) rfl rfl rfl rfl rfl rfl rfl ?_
      iterate 2 refine aq_pure tOk rfl rfl rfl trivial ?_
      refine aq_nil rfl ?_
      refine ag_ret tOk Try.func10 rfl rfl (by simp) ?_
      exact eqB (by simp)

def stJPs_0 (l : List (List UInt8)) : Nat × List UInt8 → Regs × Hp := fun ⟨i, acc⟩ => ([(0, roL l), (3, .ptr 0 0), (4, .ptr 1 0), (6, .r (.int .i64 (i : Int)))], obAt (slO acc) [.int .i64 0, .int .i64 65536, .bool true] 1 3 ⟨4, [(2, some (.bytes (frms l))), (0, some (.mixed [.sl 2 0 (frms l).length 1, .r (.int .i64 0), .r (.int .i64 65536), .r (.bool true)]))], false⟩)
def prJPs_0 (l : List (List UInt8)) : Nat × List UInt8 → Prop := fun ⟨i, acc⟩ => i ≤ l.length ∧ acc = frms (l.take i)
theorem w_PartsS (l : List (List UInt8)) (hF : (frms l).length ≤ 4000000000000) (hne : l ≠ []) : Pur Try.prog 10 [roL l] (.r (.bool true)) := by
  have hLl := frms_len l
  have hfn := frms_ne hne
  have hLs := w_Lists l l (by omega)
  refine spec_of_go (N := 56) Try.func10 rfl (by decide) rfl rfl ?_
  refine zB ?_
  refine pA ?_
  refine zA ?_
  refine zB ?_
  refine ar_pur (w_alive16) rfl rfl rfl rfl rfl rfl rfl ?_
  refine pA ?_
  refine ar_nil ?_
  refine ag_false rfl (rfl) ?_
  refine ag_skip ?_
  refine zB ?_
  refine ar_obj [] (w_New 65536) rfl rfl (handed_of rfl rfl (by decide) trivial) rfl rfl rfl rfl ?_
  rintro _ _ ⟨rfl, rfl⟩
  refine ⟨_, _, rfl, ?_⟩
  refine ar_obj [] (w_New 65536) rfl rfl (handed_of rfl rfl (by decide) trivial) rfl rfl rfl rfl ?_
  rintro _ _ ⟨rfl, rfl⟩
  refine ⟨_, _, rfl, ?_⟩
  iterate 2 refine pA ?_
  refine ar_nil ?_
  refine ag_ent (ent_weak (g' := [(0, roL l), (3, .ptr 0 0), (4, .ptr 1 0)]) (h' := ⟨2, [(0, some (.mixed [.r .nil, .r (.int .i64 0), .r (.int .i64 65536), .r (.bool true)])), (1, some (.mixed [.r .nil, .r (.int .i64 0), .r (.int .i64 65536), .r (.bool true)]))], false⟩) [0, 1] rfl rfl rfl rfl ?_ ?_ rfl) ?_
  · exact ⟨⟨rfl, rfl⟩, ⟨rfl, rfl⟩, ⟨rfl, rfl⟩, trivial⟩
  · exact ⟨⟨rfl, rfl, eqMxN rfl (by decide)⟩, ⟨rfl, rfl, eqMxN rfl (by decide)⟩, trivial⟩
  refine ag_ent ent_dead ?_
  refine ag_ent (ent_same (h' := obAt none [.int .i64 0, .int .i64 65536, .bool true] 0 2 ⟨3, [(1, some (.mixed [.r .nil, .r (.int .i64 0), .r (.int .i64 65536), .r (.bool true)]))], false⟩) rfl rfl ⟨rfl, rfl, rfl, trivial⟩) ?_
  refine zB ?_
  iterate 2 refine pA ?_
  refine ar_ob (w_KAppend [] 0 65536 none [.int .i64 0, .int .i64 65536, .bool true] (kRel0 (by decide) (by decide)) l hF) rfl rfl rfl rfl rfl rfl rfl (by intro d hd; cases hd; rfl) ?_
  rintro _ sl tl ⟨rfl, hr⟩
  refine ⟨rfl, ?_⟩
  refine pA ?_
  refine zA ?_
  refine zB ?_
  iterate 2 refine pA ?_
  refine ar_nil ?_
  refine ag_if rfl ?_ ?_
  · intro h17
    rw [ap_no h17] at hr
    refine zB ?_
    refine pA ?_
    refine ar_ob (w_KFresh _ _ _ _ _ hr) rfl rfl rfl rfl rfl rfl rfl (by intro d hd; cases hd; rfl) ?_
    rintro _ sl tl ⟨rfl, hr⟩
    refine ⟨rfl, ?_⟩
    iterate 2 refine pA ?_
    refine ar_nil ?_
    refine ag_ret tOk Try.func10 rfl rfl (by simp) ?_
    exact eqB (by simp)
  · intro h17
    obtain ⟨hsh, hle, hBe⟩ := ap_ok (Decidable.not_not.1 h17)
    rw [hBe, List.nil_append] at hr
    obtain ⟨rfl, hs, -⟩ := hr
    obtain rfl : sl = some (frms l) := by
      cases sl with
      | none => exact absurd hs hfn
      | some s => rw [show frms l = s from hs]
    refine ag_ent ent_dead ?_
    refine ag_ent (ent_same (h' := obAt none [.int .i64 0, .int .i64 65536, .bool true] 1 3 ⟨4, [(2, some (.bytes (frms l))), (0, some (.mixed [.sl 2 0 ((frms l)).length 1, .r (.int .i64 0), .r (.int .i64 65536), .r (.bool true)]))], false⟩) rfl rfl ⟨rfl, rfl, rfl, rfl, trivial⟩) ?_
    refine ag_skip ?_
    refine ag_seq ?_
    refine zB ?_
    refine pA ?_
    refine ar_nil ?_
    refine ag_block ?_
    refine ag_loopS (stJPs_0 l) (prJPs_0 l) (fun ⟨i, acc⟩ => l.length - i) (0, []) (ent_weak [0, 1, 2, 3] rfl rfl rfl rfl ?_ ?_ rfl) (show prJPs_0 l (0, []) from ?_) ?_
    · exact ⟨⟨rfl, rfl⟩, ⟨rfl, rfl⟩, ⟨rfl, rfl⟩, ⟨rfl, rfl⟩, trivial⟩
    · exact ⟨⟨rfl, rfl, rfl⟩, ⟨rfl, rfl, rfl⟩, ⟨rfl, rfl, rfl⟩, trivial⟩
    · exact ⟨Nat.zero_le _, rfl⟩
    rintro ⟨i, acc⟩ hp hrec
    cases acc with
    | nil =>
      obtain ⟨hi, hacc⟩ : _ := hp
      refine ag_ent (ent_weak (g' := [(0, roL l), (3, .ptr 0 0), (4, .ptr 1 0), (6, .r (.int .i64 (i : Int)))]) (h' := obAt none [.int .i64 0, .int .i64 65536, .bool true] 1 3 ⟨4, [(2, some (.bytes (frms l))), (0, some (.mixed [.sl 2 0 (frms l).length 1, .r (.int .i64 0), .r (.int .i64 65536), .r (.bool true)]))], false⟩) [0, 1, 2, 3] rfl rfl rfl rfl ?_ ?_ rfl) ?_
      · exact ⟨⟨rfl, rfl⟩, ⟨rfl, rfl⟩, ⟨rfl, rfl⟩, ⟨rfl, rfl⟩, trivial⟩
      · exact ⟨⟨rfl, rfl, rfl⟩, ⟨rfl, rfl, rfl⟩, ⟨rfl, rfl, rfl⟩, trivial⟩
      refine ag_seq ?_
      refine zB ?_
      iterate 4 refine pA ?_
      refine ar_nil ?_
      refine ag_if rfl ?_ ?_
      · intro h24
        obtain ⟨x, hx⟩ : ∃ x, l[i]? = some x := ⟨l[i]'(by omega), by simp⟩
        have hxm := frms_next hx
        have hfl := frms_take l (i + 1)
        have hxl : x.length ≤ 1024 := hsh x (List.mem_of_getElem? hx)
        have hfx := frm_length x
        obtain ⟨f0, f1, hfe⟩ := frm_cons x
        rw [hfe] at hfx hxm
        rw [hxm, List.length_append, ← hacc] at hfl
        simp only [List.length_cons, List.length_nil] at hfx hfl
        have hF1 : frms [x] = f0 :: f1 := by simp [frms, hfe]
        have hs1 : shrt [x] := by intro y hy; simp at hy; rw [hy]; exact hxl
        refine ag_skip ?_
        refine ag_seq ?_
        refine ag_block ?_
        refine zB ?_
        iterate 3 refine pA ?_
        refine ar_pure tOk rfl rfl rfl ?_ ?_
        · refine ⟨?_, ?_⟩ <;> first | omega | exact ne_mpB hx | (refine ⟨?_, ?_⟩ <;> omega)
        refine ar_loadAs tOk (.r (.bs x)) rfl rfl rfl rfl rfl rfl rfl (.inl ⟨rfl, by simp [Body.cells, mulz_eq, hx]⟩) ?_
        refine ar_qd rfl (qop_buildRo tOk rfl ?_ rfl) rfl rfl rfl rfl ?_
        · repeat any_goals (first | trivial | decide | omega | (simp; done) | (rw [wu8]; omega) | refine ⟨?_, ?_⟩)
        refine ar_ob (w_KAppend [] 0 65536 none [.int .i64 0, .int .i64 65536, .bool true] (kRel0 (by decide) (by decide)) [x] (by rw [hF1]; simp only [List.length_cons]; omega)) rfl rfl rfl rfl rfl rfl rfl (by intro d hd; cases hd; rfl) ?_
        rintro _ sl tl ⟨rfl, hr⟩
        refine ⟨rfl, ?_⟩
        have hE : apE [] 65536 [x] = 0 := by rw [apE, if_pos hs1, if_neg (by rw [hF1]; simp only [List.length_cons, List.length_nil]; omega)]
        rw [(ap_ok hE).2.2, hF1] at hr
        obtain ⟨rfl, hs, hk1, hk2, hk3, hk4⟩ := hr
        obtain rfl : sl = some ([] ++ f0 :: f1) := by
          cases sl with
          | none => exact absurd (show [] ++ f0 :: f1 = [] from hs) (by simp)
          | some s => rw [show [] ++ f0 :: f1 = s from hs]
        refine pA ?_
        refine ar_nil ?_
        refine ag_false rfl (by rw [hE]; simp) ?_
        refine ag_skip ?_
        refine ag_inBlock ?_
        refine ag_reg ?_
        refine pA ?_
        refine ar_pure tOk rfl rfl rfl ?_ ?_
        · unfold inI64; omega
        refine pA ?_
        refine ar_nil ?_
        refine ag_ent (ent_weak (g' := (stJPs_0 l (i + 1, f0 :: f1)).1) (h' := (stJPs_0 l (i + 1, f0 :: f1)).2) [0, 1, 2, 3] rfl rfl rfl rfl ?_ ?_ rfl) ?_
        · exact ⟨⟨rfl, rfl⟩, ⟨rfl, rfl⟩, ⟨rfl, rfl⟩, ⟨rfl, by exact eqI (by omega)⟩, trivial⟩
        · exact ⟨⟨rfl, rfl, rfl⟩, ⟨rfl, rfl, rfl⟩, ⟨rfl, rfl, rfl⟩, ⟨rfl, rfl, rfl⟩, trivial⟩
        have hnx := hrec (i + 1, f0 :: f1)
        refine hnx ?_ ?_
        · exact ⟨by omega, by rw [hxm, ← hacc]; try rfl⟩
        · show l.length - (i + 1) < l.length - i; omega
      · intro h24
        exfalso
        obtain rfl : i = l.length := by omega
        rw [List.take_length] at hacc
        exact hfn hacc.symm
    | cons a r =>
      obtain ⟨hi, hacc⟩ : _ := hp
      refine ag_ent (ent_weak (g' := [(0, roL l), (3, .ptr 0 0), (4, .ptr 1 0), (6, .r (.int .i64 (i : Int)))]) (h' := obAt (some (a :: r)) [.int .i64 0, .int .i64 65536, .bool true] 1 3 ⟨4, [(2, some (.bytes (frms l))), (0, some (.mixed [.sl 2 0 (frms l).length 1, .r (.int .i64 0), .r (.int .i64 65536), .r (.bool true)]))], false⟩) [0, 1, 2, 3] rfl rfl rfl rfl ?_ ?_ rfl) ?_
      · exact ⟨⟨rfl, rfl⟩, ⟨rfl, rfl⟩, ⟨rfl, rfl⟩, ⟨rfl, rfl⟩, trivial⟩
      · exact ⟨⟨rfl, rfl, rfl⟩, ⟨rfl, rfl, rfl⟩, ⟨rfl, rfl, rfl⟩, ⟨rfl, rfl, rfl⟩, trivial⟩
      refine ag_seq ?_
      refine zB ?_
      iterate 4 refine pA ?_
      refine ar_nil ?_
      refine ag_if rfl ?_ ?_
      · intro h24
        obtain ⟨x, hx⟩ : ∃ x, l[i]? = some x := ⟨l[i]'(by omega), by simp⟩
        have hxm := frms_next hx
        have hfl := frms_take l (i + 1)
        have hxl : x.length ≤ 1024 := hsh x (List.mem_of_getElem? hx)
        have hfx := frm_length x
        obtain ⟨f0, f1, hfe⟩ := frm_cons x
        rw [hfe] at hfx hxm
        rw [hxm, List.length_append, ← hacc] at hfl
        simp only [List.length_cons, List.length_nil] at hfx hfl
        have hF1 : frms [x] = f0 :: f1 := by simp [frms, hfe]
        have hs1 : shrt [x] := by intro y hy; simp at hy; rw [hy]; exact hxl
        refine ag_skip ?_
        refine ag_seq ?_
        refine ag_block ?_
        refine zB ?_
        iterate 3 refine pA ?_
        refine ar_pure tOk rfl rfl rfl ?_ ?_
        · refine ⟨?_, ?_⟩ <;> first | omega | exact ne_mpB hx | (refine ⟨?_, ?_⟩ <;> omega)
        refine ar_loadAs tOk (.r (.bs x)) rfl rfl rfl rfl rfl rfl rfl (.inl ⟨rfl, by simp [Body.cells, mulz_eq, hx]⟩) ?_
        refine ar_qd rfl (qop_buildRo tOk rfl ?_ rfl) rfl rfl rfl rfl ?_
        · repeat any_goals (first | trivial | decide | omega | (simp; done) | (rw [wu8]; omega) | refine ⟨?_, ?_⟩)
        refine ar_ob (w_KAppend (a :: r) 0 65536 (some (a :: r)) [.int .i64 0, .int .i64 65536, .bool true] ⟨rfl, rfl, by decide, by simp only [List.length_cons]; omega, by simp only [List.length_cons]; omega, by decide⟩ [x] (by rw [hF1]; simp only [List.length_cons]; omega)) rfl rfl rfl rfl rfl rfl rfl (by intro d hd; cases hd; rfl) ?_
        rintro _ sl tl ⟨rfl, hr⟩
        refine ⟨rfl, ?_⟩
        have hE : apE (a :: r) 65536 [x] = 0 := by rw [apE, if_pos hs1, if_neg (by rw [hF1]; simp only [List.length_cons, List.length_nil]; omega)]
        rw [(ap_ok hE).2.2, hF1] at hr
        obtain ⟨rfl, hs, hk1, hk2, hk3, hk4⟩ := hr
        obtain rfl : sl = some ((a :: r) ++ f0 :: f1) := by
          cases sl with
          | none => exact absurd (show (a :: r) ++ f0 :: f1 = [] from hs) (by simp)
          | some s => rw [show (a :: r) ++ f0 :: f1 = s from hs]
        refine pA ?_
        refine ar_nil ?_
        refine ag_false rfl (by rw [hE]; simp) ?_
        refine ag_skip ?_
        refine ag_inBlock ?_
        refine ag_reg ?_
        refine pA ?_
        refine ar_pure tOk rfl rfl rfl ?_ ?_
        · unfold inI64; omega
        refine pA ?_
        refine ar_nil ?_
        refine ag_ent (ent_weak (g' := (stJPs_0 l (i + 1, a :: r ++ f0 :: f1)).1) (h' := (stJPs_0 l (i + 1, a :: r ++ f0 :: f1)).2) [0, 1, 2, 3] rfl rfl rfl rfl ?_ ?_ rfl) ?_
        · exact ⟨⟨rfl, rfl⟩, ⟨rfl, rfl⟩, ⟨rfl, rfl⟩, ⟨rfl, by exact eqI (by omega)⟩, trivial⟩
        · exact ⟨⟨rfl, rfl, rfl⟩, ⟨rfl, rfl, rfl⟩, ⟨rfl, rfl, rfl⟩, ⟨rfl, rfl, rfl⟩, trivial⟩
        have hnx := hrec (i + 1, a :: r ++ f0 :: f1)
        refine hnx ?_ ?_
        · exact ⟨by omega, by rw [hxm, ← hacc]; try rfl⟩
        · show l.length - (i + 1) < l.length - i; omega
      · intro h24
        obtain rfl : i = l.length := by omega
        rw [List.take_length] at hacc
        refine ag_exit rfl ?_
        refine zB ?_
        refine pA ?_
        refine ar_ob (w_KLoad (a :: r) 0 65536 (some (a :: r)) [.int .i64 0, .int .i64 65536, .bool true] ⟨rfl, rfl, by decide, by simp only [List.length_cons]; omega, by rw [hacc]; omega, by decide⟩) rfl rfl rfl rfl rfl rfl rfl (by intro d hd; cases hd; rfl) ?_
        rintro _ sl tl ⟨rfl, hr⟩
        refine ⟨rfl, ?_⟩
        iterate 5 refine pA ?_
        refine zA ?_
        have hsp := spl_all hsh
        rw [← hacc] at hsp
        refine ag_ent (ent_reg 7 (roL l) (by show roL (splL (a :: r)).1 = _; rw [hsp])) ?_
        rw [hsp] at hr
        rw [List.length_nil, Nat.sub_zero, List.take_length, hacc] at hr
        obtain ⟨rfl, hs, -⟩ := hr
        obtain rfl : sl = some (frms l) := by
          cases sl with
          | none => exact absurd hs hfn
          | some s => rw [show frms l = s from hs]
        refine ag_draw0 (by kernel_rfl) (by kernel_rfl) ?_
        refine aq_pure tOk rfl rfl rfl trivial ?_
        refine aq_qd0 (qop_objR [0, 2] (w_OctBX (frms l) (frms l).length (frms l) 0 65536 (Nat.le_refl _) (by omega) List.take_length) (by rintro _ _ ⟨rfl, rfl⟩; exact ⟨rfl, rfl⟩) rfl rfl (handed_of rfl rfl (by decide) ⟨rfl, rfl, rfl, rfl, rfl, rfl, trivial⟩) rfl rfl) (by kernel_rfl) rfl rfl rfl rfl ?_
        iterate 2 refine aq_pure tOk rfl rfl rfl trivial ?_
        refine aq_qd0 (qop_objR [1, 3] (w_OctBX (frms l) (frms l).length (frms l) ((frms l).length : Int) 65536 (Nat.le_refl _) (by omega) List.take_length) (by rintro _ _ ⟨rfl, rfl⟩; exact ⟨rfl, rfl⟩) rfl rfl (handed_of rfl rfl (by decide) ⟨rfl, rfl, rfl, rfl, rfl, rfl, trivial⟩) rfl rfl) (by kernel_rfl) rfl rfl rfl rfl ?_
        refine aq_pure tOk rfl rfl rfl trivial ?_
        refine aq_pureE tOk (.r (.bool true)) rfl (by show AVal.r (.bool _) = _; exact eqB (by simp)) rfl (by rfl) trivial ?_
        iterate 2 refine aq_pure tOk rfl rfl rfl trivial ?_
        refine aq_pureE tOk (.r (.bool true)) rfl (by show AVal.r (.bool _) = _; exact eqB (by simp)) rfl (by rfl) trivial ?_
        iterate 4 refine aq_pure tOk rfl rfl rfl trivial ?_
        refine aq_pur (hLs) rfl rfl rfl rfl rfl rfl rfl ?_
        iterate 2 refine aq_pure tOk rfl rfl rfl trivial ?_
        refine aq_nil rfl ?_
        refine ag_ret tOk Try.func10 rfl rfl (by simp) ?_
        exact eqB (by simp)

theorem w_JournalParts (l : List (List UInt8)) (hF : (frms l).length ≤ 4000000000000) : Pur Try.prog 10 [roL l] (.r (.bool true)) := by
  by_cases h : l = []
  · subst h; exact w_PartsE
  · exact w_PartsS l hF h

end Go.Proofs.Ytopfpkmdkcjjlaa
