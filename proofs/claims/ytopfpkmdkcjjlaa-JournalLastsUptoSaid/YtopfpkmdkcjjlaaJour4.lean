/-
  WALKS: what is loaded of a disk; records come back (plain). (Printed by gen.py out of w_jour4.py.)
-/
import Derived.Test.YtopfpkmdkcjjlaaJour3
namespace Go.Proofs.Ytopfpkmdkcjjlaa
open Go
set_option maxRecDepth 20000
set_option linter.unusedVariables false
set_option linter.unusedSimpArgs false

theorem ap_ok {B : List UInt8} {ro : Int} {L : List (List UInt8)} (h : apE B ro L = 0) : shrt L ∧ ((frms L).length : Int) ≤ ro - B.length ∧ apB B ro L = B ++ frms L := by
  unfold apE at h
  split at h
  · rename_i q
    split at h
    · exact absurd h (by decide)
    · rename_i r
      exact ⟨q, by omega, by rw [apB, if_pos q, if_neg r]⟩
  · exact absurd h (by decide)
theorem ap_no {B : List UInt8} {ro : Int} {L : List (List UInt8)} (h : apE B ro L ≠ 0) : apB B ro L = B := by
  unfold apB
  split
  · rename_i q
    split
    · rfl
    · rename_i r
      exact absurd (by rw [apE, if_pos q, if_neg r]) h
  · rfl
theorem w_KAppend (B : List UInt8) (su ro : Int) (sl : Option (List UInt8)) (tl : List RVal) (hr : kRel B su ro sl tl) (L : List (List UInt8)) (hF : (frms L).length ≤ 4000000000000) : Spec Try.prog 32 [.ptr 0 0, roL L] (obP sl tl) (fun v h' => ∃ sl' tl', (v = .r (.int .i64 (apE B ro L)) ∧ kRel (apB B ro L) su ro sl' tl') ∧ ObIs sl' tl' h') := by
  have hr' := hr
  obtain ⟨rfl, hs, h1, h2, h3, h4⟩ := hr
  cases sl with
  | none =>
    obtain rfl : B = [] := hs
    obtain rfl : su = 0 := by simp at h2; omega
    exact w_AppendN ro L hF hr'
  | some s =>
    obtain rfl : B = s := hs
    exact w_AppendS B su ro L hF hr'

theorem w_Append0 (L : List (List UInt8)) : Pur Try.prog 32 [.r .nilp, roL L] (.r (.int .i64 9)) := by
  refine spec_of_go (N := 37) Try.func32 rfl (by decide) rfl rfl ?_
  refine zB ?_
  refine pA ?_
  refine zA ?_
  refine zB ?_
  refine pA ?_
  refine ar_pur (Spec.nils (w_Write0 []) (by exact ⟨rfl, trivial, trivial⟩)) rfl rfl rfl rfl rfl rfl rfl ?_
  refine pA ?_
  refine zC ?_
  iterate 2 refine pA ?_
  refine ar_nil ?_
  refine ag_true rfl (by decide) ?_
  refine zB ?_
  iterate 2 refine pA ?_
  refine ar_nil ?_
  refine ag_ret tOk Try.func32 rfl rfl (by simp) ?_
  rfl

theorem w_Load0  : Pur Try.prog 33 [.r .nilp] (.tuple [.r .nil, .r (.int .i64 9)]) := by
  have hsp := w_Split [] (by decide)
  rw [spl_none (nx_short (by decide))] at hsp
  refine spec_of_go (N := 20) Try.func33 rfl (by decide) rfl rfl ?_
  refine zB ?_
  iterate 2 refine pA ?_
  refine zC ?_
  refine pA ?_
  refine ar_pur (w_Octets0) rfl rfl rfl rfl rfl rfl rfl ?_
  refine ar_pur (hsp) rfl rfl rfl rfl rfl rfl rfl ?_
  iterate 5 refine pA ?_
  refine zA ?_
  refine zB ?_
  iterate 2 refine pA ?_
  refine ar_pur (w_Trim0 _) rfl rfl rfl rfl rfl rfl rfl ?_
  refine pA ?_
  refine zC ?_
  iterate 2 refine pA ?_
  refine ar_nil ?_
  refine ag_true rfl (by decide) ?_
  refine zB ?_
  iterate 3 refine pA ?_
  refine ar_nil ?_
  refine ag_ret tOk Try.func33 rfl rfl (by first | trivial | exact ⟨trivial, trivial⟩ | exact ⟨trivial, trivial, trivial⟩ | simp) ?_
  rfl

theorem w_KLoad (B : List UInt8) (su ro : Int) (sl : Option (List UInt8)) (tl : List RVal) (hr : kRel B su ro sl tl) : Spec Try.prog 33 [.ptr 0 0] (obP sl tl) (fun v h' => ∃ sl' tl', (v = .tuple [roL (splL B).1, .r (.int .i64 0)] ∧ kRel (B.take (B.length - (splL B).2.length)) ((B.length - (splL B).2.length : Nat) : Int) ro sl' tl') ∧ ObIs sl' tl' h') := by
  have hB : B.length ≤ 65536 := by have h3 := hr.2.2.2.2.1; have h4 := hr.2.2.2.2.2; omega
  have hsp := w_Split B (by omega)
  have hsl := spl_len B
  generalize splL B = S at hsp hsl ⊢
  refine spec_of_go (N := 20) Try.func33 rfl (by decide) rfl rfl ?_
  refine ag_ent (ent_ob rfl rfl) ?_
  refine zB ?_
  iterate 2 refine pA ?_
  refine zC ?_
  refine pA ?_
  refine ar_ob (w_KOctets _ _ _ _ _ hr) rfl rfl (obOk_of rfl) rfl rfl rfl rfl (by intro d hd; cases hd; rfl) ?_
  rintro _ sl tl ⟨rfl, hr⟩
  refine ⟨rfl, ?_⟩
  refine ar_pur (hsp) rfl rfl rfl rfl rfl rfl rfl ?_
  iterate 3 refine pA ?_
  refine ar_ent (ent_reg 12 (.r (.int .i64 (((B.length - S.2.length : Nat) : Int)))) (by show AVal.r (.int _ _) = _; exact eqI (by omega))) ?_
  iterate 2 refine pA ?_
  refine zA ?_
  refine zB ?_
  iterate 2 refine pA ?_
  refine ar_ob (w_KTrim (B.length - S.2.length) _ _ _ _ _ hr (by omega)) rfl rfl (obOk_of rfl) rfl rfl rfl rfl (by intro d hd; cases hd; rfl) ?_
  rintro _ sl tl ⟨rfl, hr⟩
  refine ⟨rfl, ?_⟩
  refine pA ?_
  refine zC ?_
  iterate 2 refine pA ?_
  refine ar_nil ?_
  refine ag_false rfl (rfl) ?_
  refine ag_skip ?_
  refine zB ?_
  iterate 3 refine pA ?_
  refine ar_nil ?_
  refine ag_ret tOk Try.func33 rfl rfl (by first | trivial | exact ⟨trivial, trivial⟩ | exact ⟨trivial, trivial, trivial⟩ | simp) ?_
  exact ⟨_, _, ⟨rfl, hr⟩, ob_is (by decide) rfl⟩

theorem take_front {α : Type} {A B : List α} {n : Nat} (h : n ≤ A.length) : (A ++ B).take n = A.take n := by rw [List.take_append_of_le_length h]
theorem int2_numL {n : Nat} (h : n ≤ 1024) {r : List UInt8} : nxN (numL 2 (n : Int) ++ r) = n := by
  have hl : (numL 2 (n : Int)).length = 2 := numL_length _ _
  have e : (numL 2 (n : Int) ++ r).take 2 = numL 2 (n : Int) := by rw [take_front (by omega)]; exact List.take_of_length_le (by omega)
  unfold nxN intB
  rw [e, List.take_of_length_le (by omega), intF_numL]
  omega
theorem frm_eq (b r : List UInt8) : frm b ++ r = numL 2 (b.length : Int) ++ ((sha b).take 4 ++ (b ++ r)) := by simp [frm]
theorem nx_frm {b : List UInt8} (h : b.length ≤ 1024) (r : List UInt8) : nx (frm b ++ r) = some (b, r) := by
  have hl : (numL 2 (b.length : Int)).length = 2 := numL_length _ _
  have h4 := sha4_length b
  have hN : nxN (frm b ++ r) = b.length := by rw [frm_eq]; exact int2_numL h
  have d2 : (frm b ++ r).drop 2 = (sha b).take 4 ++ (b ++ r) := by rw [frm_eq, List.drop_append_of_le_length (by omega), List.drop_of_length_le (by omega), List.nil_append]
  have d6 : (frm b ++ r).drop 6 = b ++ r := by
    rw [show (6 : Nat) = 2 + 4 from rfl, ← List.drop_drop, d2, List.drop_append_of_le_length (by omega), List.drop_of_length_le (by omega), List.nil_append]
  have e1 : ((frm b ++ r).drop 6).take b.length = b := by rw [d6, take_front (Nat.le_refl _), List.take_length]
  have e2 : ((frm b ++ r).drop 2).take 4 = (sha b).take 4 := by rw [d2, take_front (by omega), List.take_of_length_le (by omega)]
  have e3 : (frm b ++ r).drop (6 + b.length) = r := by rw [← List.drop_drop, d6, List.drop_left]
  unfold nx
  rw [hN, e1, e2, e3, if_pos]
  rw [List.length_append, frm_length]
  exact ⟨by omega, h, by omega, rfl⟩
theorem nx_part {b : List UInt8} (h : b.length ≤ 1024) {k : Nat} (hk : k < (frm b).length) : nx ((frm b).take k) = none := by
  rw [frm_length] at hk
  have hl : (numL 2 (b.length : Int)).length = 2 := numL_length _ _
  by_cases h6 : k < 6
  · exact nx_short (by rw [List.length_take]; omega)
  have e : (frm b).take k = numL 2 (b.length : Int) ++ (((sha b).take 4 ++ b).take (k - 2)) := by
    rw [frm, List.take_append, List.take_of_length_le (by omega), hl]
  have hN : nxN ((frm b).take k) = b.length := by rw [e]; exact int2_numL h
  unfold nx
  rw [hN, if_neg]
  rw [List.length_take, frm_length]
  omega
theorem spl_frms : ∀ (L : List (List UInt8)) (r : List UInt8), shrt L → splL (frms L ++ r) = (L ++ (splL r).1, (splL r).2)
  | [], r, _ => by simp [frms]
  | x :: L, r, h => by
    have hx : x.length ≤ 1024 := h x (by simp)
    have ih := spl_frms L r (fun y hy => h y (by simp [hy]))
    rw [frms_cons, List.append_assoc, spl_some (nx_frm hx _), ih]
    rfl
theorem spl_cut : ∀ (L : List (List UInt8)) (k : Nat), shrt L → ∃ m, m ≤ L.length ∧ (splL ((frms L).take k)).1 = L.take m ∧ (frms L).take k = frms (L.take m) ++ (splL ((frms L).take k)).2
  | [], k, _ => ⟨0, Nat.le_refl _, by rw [frms_nil, List.take_nil, spl_none (nx_short (by decide))]; rfl, by rw [frms_nil, List.take_nil, spl_none (nx_short (by decide))]; rfl⟩
  | x :: L, k, h => by
    have hx : x.length ≤ 1024 := h x (by simp)
    by_cases hk : k < (frm x).length
    · refine ⟨0, Nat.zero_le _, ?_, ?_⟩ <;> rw [frms_cons, take_front (by omega), spl_none (nx_part hx hk)]
      · rfl
      · rfl
    · obtain ⟨m, h1, h2, h3⟩ := spl_cut L (k - (frm x).length) (fun y hy => h y (by simp [hy]))
      have e : (frms (x :: L)).take k = frm x ++ (frms L).take (k - (frm x).length) := by rw [frms_cons, List.take_append, List.take_of_length_le (by omega)]
      refine ⟨m + 1, by simp; omega, ?_, ?_⟩
      · rw [e, spl_some (nx_frm hx _), h2]; rfl
      · rw [e, spl_some (nx_frm hx _), List.take_succ_cons, frms_cons, List.append_assoc, ← h3]
/-- Behind a fall. -/
theorem spl_fall {a b : List (List UInt8)} {j : Nat} (ha : shrt a) (hb : shrt b) (hj : (frms a).length ≤ j) : ∃ m, m ≤ b.length ∧ (splL ((frms a ++ frms b).take j)).1 = a ++ b.take m ∧
    ((frms a ++ frms b).take j).take (((frms a ++ frms b).take j).length - (splL ((frms a ++ frms b).take j)).2.length) = frms (a ++ b.take m) := by
  obtain ⟨m, h1, h2, h3⟩ := spl_cut b (j - (frms a).length) hb
  have e : (frms a ++ frms b).take j = frms a ++ (frms b).take (j - (frms a).length) := by rw [List.take_append, List.take_of_length_le hj]
  refine ⟨m, h1, ?_, ?_⟩
  · rw [e, spl_frms a _ ha, h2]
  · rw [e, spl_frms a _ ha]
    simp only
    generalize (splL ((frms b).take (j - (frms a).length))).2 = R at h3
    rw [h3, ← List.append_assoc, ← frms_app, List.length_append, Nat.add_sub_cancel, List.take_left]
theorem spl_all {L : List (List UInt8)} (h : shrt L) : splL (frms L) = (L, []) := by
  have := spl_frms L [] h
  rw [spl_none (b := ([] : List UInt8)) (nx_short (by decide))] at this
  simpa using this

theorem w_alive16  : Pur Try.prog 24 [] (.r (.bool true)) := by
  have hf := w_FrameS [97] (by decide)
  have hs := w_Split (frm [97]) (by rw [frm_length]; decide)
  have h7 := frm_length [97]
  have hsp := spl_all (L := [[97]]) (by decide)
  rw [show frms [[97]] = frm [97] by simp [frms]] at hsp
  rw [hsp] at hs
  clear hsp
  generalize frm [97] = f at hf hs h7
  simp only [List.length_cons, List.length_nil] at h7 hs
  refine spec_of_go (N := 32) Try.func24 rfl (by decide) rfl rfl ?_
  refine zB ?_
  refine pA ?_
  refine zC ?_
  refine ar_new tOk rfl rfl rfl ?_ ?_
  · simp
  refine ar_ent (ent_body 0 (.mixed [.r (.int .u8 97)]) (.bytes [97]) rfl rfl) ?_
  refine ar_qd rfl (qop_convSl tOk rfl) rfl rfl rfl rfl ?_
  refine ar_ent (ent_freeze 7 rfl rfl rfl ⟨by decide, rfl⟩) ?_
  refine ar_ent (ent_reg 7 (.r (.bs [97])) rfl) ?_
  refine ar_pur (hf) rfl rfl rfl rfl rfl rfl rfl ?_
  iterate 5 refine pA ?_
  refine zC ?_
  refine pA ?_
  refine ar_pur (hs) rfl rfl rfl rfl rfl rfl rfl ?_
  iterate 5 refine pA ?_
  refine zC ?_
  iterate 6 refine pA ?_
  refine ar_ent (ent_reg 21 (.r (.bool true)) (by show AVal.r (.bool _) = _; exact eqB (by simp [h7]))) ?_
  iterate 9 refine pA ?_
  refine ar_ent (ent_reg 30 (.r (.bool true)) (by show AVal.r (.bool _) = _; exact eqB (by simp [h7]))) ?_
  iterate 2 refine pA ?_
  refine ar_nil ?_
  refine ag_ret tOk Try.func24 rfl rfl (by simp) ?_
  rfl

end Go.Proofs.Ytopfpkmdkcjjlaa
