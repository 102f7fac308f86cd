/-
  WALKS: the law JournalLasts. (Printed by gen.py out of w_ljour2.py.)
-/
import Derived.Test.YtopfpkmdkcjjlaaJour4
namespace Go.Proofs.Ytopfpkmdkcjjlaa
open Go
set_option maxRecDepth 20000
set_option linter.unusedVariables false
set_option linter.unusedSimpArgs false

theorem takeB {L M : List (List UInt8)} {n : Int} (h : L.take n.toNat = M ∧ n.toNat ≤ L.length) : AVal.r (.ro n.toNat (List.take (mulz n 1) (L.map .bs))) = roL M := by
  obtain ⟨h, h2⟩ := h
  subst h
  have : mulz n 1 = n.toNat := by simp [mulz_eq]
  rw [this, roL, List.length_take, Nat.min_eq_left h2, List.map_take]
theorem roL_cut {L : List (List UInt8)} {n : Nat} (h : n = L.length) : AVal.r (.ro n (cutA (L.map .bs) 0 (n * 1))) = roL L := by
  subst h
  rw [cutA_eq, List.drop_zero, List.take_of_length_le (by simp)]
  rfl

theorem shrt_app {a b : List (List UInt8)} (ha : shrt a) (hb : shrt b) : shrt (a ++ b) := fun y hy => (List.mem_append.1 hy).elim (ha y) (hb y)
theorem shrt_take {a : List (List UInt8)} (ha : shrt a) (m : Nat) : shrt (a.take m) := fun y hy => ha y (List.mem_of_mem_take hy)
theorem roL_cut2 {a b : List (List UInt8)} {n : Nat} {l : List RVal} (h : n = a.length + b.length) (hl : l = a.map .bs ++ b.map .bs) : AVal.r (.ro n (cutA l 0 (n * 1))) = roL (a ++ b) := by
  subst h hl
  rw [cutA_eq, List.drop_zero, List.take_of_length_le (by simp), roL, List.length_append, List.map_append]

theorem w_JournalLasts (a b : List (List UInt8)) (keep : Int) (c : List UInt8) (hA : (frms a).length ≤ 4000000000000) (hB : (frms b).length ≤ 4000000000000) (hC : c.length ≤ 1048576) : Pur Try.prog 11 [roL a, roL b, .r (.int .i64 keep), .r (.bs c)] (.r (.bool true)) := by
  have hLa := frms_len a
  have hLb := frms_len b
  have hfc : (frms [c]).length = c.length + 6 := by rw [frms_len]; simp
  refine spec_of_go (N := 110) Try.func11 rfl (by decide) rfl rfl ?_
  refine zB ?_
  refine pA ?_
  refine zA ?_
  refine zB ?_
  refine ar_pur (w_alive16) rfl rfl rfl rfl rfl rfl rfl ?_
  refine pA ?_
  refine ar_nil ?_
  refine ag_false rfl (rfl) ?_
  refine ag_skip ?_
  refine zB ?_
  refine ar_obj [] (w_New 65536) rfl rfl (handed_of rfl rfl (by decide) trivial) rfl rfl rfl rfl ?_
  rintro _ _ ⟨rfl, rfl⟩
  refine ⟨_, _, rfl, ?_⟩
  refine pA ?_
  refine ar_nil ?_
  refine ag_ent (ent_weak (g' := [(0, roL a), (1, roL b), (2, .r (.int .i64 keep)), (3, .r (.bs c)), (9, .ptr 0 0)]) (h' := dN 0 65536 true) [0] rfl rfl rfl rfl ?_ ?_ rfl) ?_
  · exact ⟨⟨rfl, rfl⟩, ⟨rfl, rfl⟩, ⟨rfl, rfl⟩, ⟨rfl, rfl⟩, ⟨rfl, rfl⟩, trivial⟩
  · exact ⟨⟨rfl, rfl, eqMxN rfl (by decide)⟩, trivial⟩
  refine ag_ent ent_dead ?_
  refine ag_ent (ent_same (h' := obAt none [.int .i64 0, .int .i64 65536, .bool true] 0 1 ⟨2, [], false⟩) rfl rfl ⟨rfl, rfl, trivial⟩) ?_
  refine ag_seq ?_
  refine zB ?_
  iterate 2 refine pA ?_
  refine ar_ob (w_KAppend [] 0 65536 none [.int .i64 0, .int .i64 65536, .bool true] (kRel0 (by decide) (by decide)) a hA) rfl rfl rfl rfl rfl rfl rfl (by intro d hd; cases hd; rfl) ?_
  rintro _ sl tl ⟨rfl, hr⟩
  refine ⟨rfl, ?_⟩
  refine pA ?_
  refine ar_nil ?_
  refine ag_if rfl ?_ ?_
  · intro h21
    rw [ap_no h21] at hr
    refine zB ?_
    refine pA ?_
    refine ar_ob (w_KFresh _ _ _ _ _ hr) rfl rfl rfl rfl rfl rfl rfl (by intro d hd; cases hd; rfl) ?_
    rintro _ sl tl ⟨rfl, hr⟩
    refine ⟨rfl, ?_⟩
    iterate 2 refine pA ?_
    refine ar_nil ?_
    refine ag_ret tOk Try.func11 rfl rfl (by simp) ?_
    exact eqB (by simp)
  · intro h21
    obtain ⟨hsa, hla, hBa⟩ := ap_ok (Decidable.not_not.1 h21)
    rw [hBa, List.nil_append] at hr
    refine ag_skip ?_
    refine zB ?_
    refine pA ?_
    refine ar_ob (w_KSync _ _ _ _ _ hr) rfl rfl rfl rfl rfl rfl rfl (by intro d hd; cases hd; rfl) ?_
    rintro _ sl tl ⟨rfl, hr⟩
    refine ⟨rfl, ?_⟩
    refine zA ?_
    refine zB ?_
    iterate 2 refine pA ?_
    refine ar_ob (w_KAppend _ _ _ _ _ hr b hB) rfl rfl rfl rfl rfl rfl rfl (by intro d hd; cases hd; rfl) ?_
    rintro _ sl tl ⟨rfl, hr⟩
    refine ⟨rfl, ?_⟩
    refine pA ?_
    refine ar_nil ?_
    refine ag_if rfl ?_ ?_
    · intro h30
      refine zB ?_
      refine pA ?_
      refine ar_nil ?_
      refine ag_ret tOk Try.func11 rfl rfl (by simp) ?_
      rfl
    · intro h30
      obtain ⟨hsb, hlb, hBb⟩ := ap_ok (Decidable.not_not.1 h30)
      rw [hBb] at hr
      have hfab : (frms a ++ frms b).length = (frms a).length + (frms b).length := List.length_append
      obtain ⟨j, hj⟩ : ∃ j : Nat, (j : Int) = (frms a).length + min (max keep 0) (((frms a ++ frms b).length : Int) - (frms a).length) := ⟨((frms a).length + min (max keep 0) (((frms a ++ frms b).length : Int) - (frms a).length)).toNat, by omega⟩
      refine ag_skip ?_
      refine zB ?_
      iterate 2 refine pA ?_
      refine ar_ob (w_KFall keep j _ _ _ _ _ hr hj) rfl rfl rfl rfl rfl rfl rfl (by intro d hd; cases hd; rfl) ?_
      rintro _ sl tl ⟨rfl, hr⟩
      refine ⟨rfl, ?_⟩
      refine zA ?_
      obtain ⟨m, hm, hsp, hcut⟩ := spl_fall (j := j) hsa hsb (by omega)
      refine ag_reg ?_
      refine pA ?_
      refine ar_ob (w_KLoad _ _ _ _ _ hr) rfl rfl rfl rfl rfl rfl rfl (by intro d hd; cases hd; rfl) ?_
      rintro _ sl tl ⟨rfl, hr⟩
      refine ⟨rfl, ?_⟩
      iterate 5 refine pA ?_
      refine zC ?_
      refine pA ?_
      refine zA ?_
      rcases (show (a = [] ∧ b = []) ∨ (a = [] ∧ b ≠ []) ∨ (a ≠ [] ∧ b = []) ∨ (a ≠ [] ∧ b ≠ []) by by_cases p : a = [] <;> by_cases q : b = [] <;> simp [p, q]) with ⟨ea, eb⟩ | ⟨ea, eb⟩ | ⟨ea, eb⟩ | ⟨ea, eb⟩
      · skip
        refine ag_ent (ent_reg 0 (.r (.ro 0 [])) (by show roL a = roL []; rw [ea])) ?_
        refine ag_ent (ent_reg 1 (.r (.ro 0 [])) (by show roL b = roL []; rw [eb])) ?_
        refine ag_reg ?_
        iterate 2 refine pA ?_
        refine ar_qd rfl (qop_app0 tOk rfl ⟨⟨rfl, rfl⟩, by simp, rfl⟩) rfl rfl rfl rfl ?_
        refine pA ?_
        refine ar_qd rfl (qop_app0 tOk rfl ⟨⟨rfl, rfl⟩, by simp, rfl⟩) rfl rfl rfl rfl ?_
        refine pA ?_
        refine zA ?_
        refine ag_seq ?_
        refine ag_ent (ent_nil 12 (.ro 0 []) rfl (.inr rfl)) ?_
        refine ag_ent (ent_reg 12 (roL (a ++ b)) (by rw [ea, eb]; rfl)) ?_
        have hll : (a ++ b.take m).length = a.length + m := by rw [List.length_append, List.length_take]; omega
        have htk : (a ++ b).take (a ++ b.take m).length = a ++ b.take m := by rw [hll, List.take_append, List.take_of_length_le (by omega), Nat.add_sub_cancel_left]
        obtain ⟨z, hz⟩ : ∃ z, z = a ++ b.take m := ⟨_, rfl⟩
        rw [← hz] at hll htk
        have hzl : z.length ≤ (a ++ b).length := by rw [List.length_append]; omega
        have hL1 := w_Lists z z (by omega)
        have hfz : (frms z).length ≤ 65536 := by have h := hr.2.2.2.2.1; rw [hcut, ← hz] at h; omega
        refine ag_ent (ent_reg 10 (roL z) (by show roL (splL _).1 = _; rw [hsp, hz])) ?_
        refine ag_reg ?_
        iterate 3 refine pA ?_
        refine ar_ent (ent_reg 46 (.r (.bool false)) (by show AVal.r (.bool _) = _; exact eqB (by simp))) ?_
        iterate 7 refine pA ?_
        refine ar_ent (ent_reg 53 (.r (.bool false)) (by show AVal.r (.bool _) = _; exact eqB (by first | (simp; done) | (simp; omega)))) ?_
        iterate 7 refine pA ?_
        refine ar_ent (ent_reg 60 (.r (.bool false)) (by show AVal.r (.bool _) = _; exact eqB (by rw [List.length_append] at hzl; first | (simp; done) | (simp; omega)))) ?_
        iterate 4 refine pA ?_
        refine ar_pure tOk rfl rfl rfl ?_ ?_
        · simp only [boundsOk]; omega
        refine ar_ent (ent_reg 65 (roL z) (by show AVal.r (.ro _ (List.take (mulz _ 1) _)) = _; exact takeB (L := a ++ b) (n := (z.length : Int)) (by rw [Int.toNat_natCast]; exact ⟨htk, hzl⟩))) ?_
        refine ar_pur (hL1) rfl rfl rfl rfl rfl rfl rfl ?_
        refine pA ?_
        refine ar_ent (ent_reg 67 (.r (.bool false)) (by show AVal.r (.bool _) = _; exact eqB (by simp))) ?_
        refine pA ?_
        refine ar_nil ?_
        refine ag_false rfl (by simp) ?_
        refine ag_skip ?_
        iterate 2 refine ag_seq ?_
        rw [hcut, ← hz] at hr
        refine ag_reg ?_
        iterate 2 refine pA ?_
        refine ar_qd rfl (qop_buildRo tOk rfl ?_ rfl) rfl rfl rfl rfl ?_
        · repeat any_goals (first | trivial | decide | omega | (simp; done) | (rw [wu8]; omega) | refine ⟨?_, ?_⟩)
        refine ar_ob (w_KAppend _ _ _ _ _ hr [c] (by omega)) rfl rfl rfl rfl rfl rfl rfl (by intro d hd; cases hd; rfl) ?_
        rintro _ sl tl ⟨rfl, hr⟩
        refine ⟨rfl, ?_⟩
        refine pA ?_
        refine ar_nil ?_
        refine ag_if rfl ?_ ?_
        · intro h73
          refine zB ?_
          refine pA ?_
          refine ar_nil ?_
          refine ag_ret tOk Try.func11 rfl rfl (by simp) ?_
          exact eqB (by simp)
        · intro h73
          obtain ⟨hsc, hlc, hBc⟩ := ap_ok (Decidable.not_not.1 h73)
          rw [hBc, ← frms_app] at hr
          refine ag_skip ?_
          refine zB ?_
          refine pA ?_
          refine ar_ob (w_KSync _ _ _ _ _ hr) rfl rfl rfl rfl rfl rfl rfl (by intro d hd; cases hd; rfl) ?_
          rintro _ sl tl ⟨rfl, hr⟩
          refine ⟨rfl, ?_⟩
          refine zC ?_
          refine pA ?_
          refine ar_ob (w_KLoad _ _ _ _ _ hr) rfl rfl rfl rfl rfl rfl rfl (by intro d hd; cases hd; rfl) ?_
          rintro _ sl tl ⟨rfl, hr⟩
          refine ⟨rfl, ?_⟩
          iterate 5 refine pA ?_
          refine zA ?_
          have hsz : shrt (z ++ [c]) := shrt_app (by rw [hz]; exact shrt_app hsa (shrt_take hsb m)) hsc
          refine ag_ent (ent_reg 13 (roL (z ++ [c])) (by show roL (splL _).1 = _; rw [spl_all hsz])) ?_
          have hL2 : Pur Try.prog 28 [.r (.ro (z.length : Int).toNat (List.take (mulz (z.length : Int) 1) ((z ++ [c]).map .bs))), roL z] (.r (.bool true)) := by rw [takeB (M := z) (by simp)]; exact (w_Lists z z (by omega)).mono_r (by simp)
          have hgz : (z ++ [c])[z.length]? = some c := by simp
          have hzl2 : (z ++ [c]).length = z.length + 1 := by simp
          refine ag_draw0 (by kernel_rfl) (by kernel_rfl) ?_
          refine aq_pure tOk rfl rfl rfl trivial ?_
          refine aq_pureE tOk (.r (.bool true)) rfl (by show AVal.r (.bool _) = _; exact eqB (by simp)) rfl (by rfl) trivial ?_
          iterate 5 refine aq_pure tOk rfl rfl rfl trivial ?_
          refine aq_pure tOk rfl rfl rfl ?_ ?_
          · unfold inI64; omega
          refine aq_pureE tOk (.r (.bool true)) rfl (by show AVal.r (.bool _) = _; exact eqB (by simp)) rfl (by rfl) trivial ?_
          iterate 5 refine aq_pure tOk rfl rfl rfl trivial ?_
          refine aq_pure tOk rfl rfl rfl ?_ ?_
          · simp only [boundsOk]; omega
          refine aq_pure tOk rfl rfl rfl trivial ?_
          refine aq_pur (hL2) rfl rfl rfl rfl rfl rfl rfl ?_
          iterate 5 refine aq_pure tOk rfl rfl rfl trivial ?_
          refine aq_pure tOk rfl rfl rfl ?_ ?_
          · refine ⟨?_, ?_⟩ <;> first | omega | exact ne_mpB hgz | (refine ⟨?_, ?_⟩ <;> omega)
          refine aq_loadAs tOk (.r (.bs c)) rfl rfl rfl rfl (fun _ => rfl) rfl rfl (.inl ⟨rfl, by simp [Body.cells, mulz_eq]⟩) ?_
          iterate 6 refine aq_pure tOk rfl rfl rfl trivial ?_
          refine aq_nil rfl ?_
          refine ag_ret tOk Try.func11 rfl rfl (by simp) ?_
          exact eqB (by simp)
      · skip
        refine ag_ent (ent_reg 0 (.r (.ro 0 [])) (by show roL a = roL []; rw [ea])) ?_
        have lb : 0 < b.length := List.length_pos_iff.2 eb
        refine ag_reg ?_
        iterate 2 refine pA ?_
        refine ar_qd rfl (qop_app0 tOk rfl ⟨⟨rfl, rfl⟩, by simp, rfl⟩) rfl rfl rfl rfl ?_
        refine pA ?_
        refine ar_app tOk rfl rfl rfl ?_ ?_
        · refine ⟨⟨?_, ?_, ?_⟩, ⟨?_, ?_⟩, ⟨?_, ?_⟩, ?_⟩ <;> first | trivial | decide | omega | (simp; done) | (simp; omega) | (simp at *; omega)
        refine pA ?_
        refine zA ?_
        refine ag_seq ?_
        refine ag_ent (ent_freeze 12 rfl rfl rfl trivial) ?_
        refine ag_ent (ent_reg 12 (roL (a ++ b)) (by show AVal.r (.ro _ (cutA _ 0 _)) = _; exact by rw [ea, List.nil_append]; exact roL_cut (L := b) (by simp))) ?_
        refine ag_ent (ent_same (h' := obAt sl tl 0 1 ⟨3, [], false⟩) rfl rfl ⟨rfl, rfl, trivial⟩) ?_
        have hll : (a ++ b.take m).length = a.length + m := by rw [List.length_append, List.length_take]; omega
        have htk : (a ++ b).take (a ++ b.take m).length = a ++ b.take m := by rw [hll, List.take_append, List.take_of_length_le (by omega), Nat.add_sub_cancel_left]
        obtain ⟨z, hz⟩ : ∃ z, z = a ++ b.take m := ⟨_, rfl⟩
        rw [← hz] at hll htk
        have hzl : z.length ≤ (a ++ b).length := by rw [List.length_append]; omega
        have hL1 := w_Lists z z (by omega)
        have hfz : (frms z).length ≤ 65536 := by have h := hr.2.2.2.2.1; rw [hcut, ← hz] at h; omega
        refine ag_ent (ent_reg 10 (roL z) (by show roL (splL _).1 = _; rw [hsp, hz])) ?_
        refine ag_reg ?_
        iterate 3 refine pA ?_
        refine ar_ent (ent_reg 46 (.r (.bool false)) (by show AVal.r (.bool _) = _; exact eqB (by simp))) ?_
        iterate 7 refine pA ?_
        refine ar_ent (ent_reg 53 (.r (.bool false)) (by show AVal.r (.bool _) = _; exact eqB (by first | (simp; done) | (simp; omega)))) ?_
        iterate 7 refine pA ?_
        refine ar_ent (ent_reg 60 (.r (.bool false)) (by show AVal.r (.bool _) = _; exact eqB (by rw [List.length_append] at hzl; first | (simp; done) | (simp; omega)))) ?_
        iterate 4 refine pA ?_
        refine ar_pure tOk rfl rfl rfl ?_ ?_
        · simp only [boundsOk]; omega
        refine ar_ent (ent_reg 65 (roL z) (by show AVal.r (.ro _ (List.take (mulz _ 1) _)) = _; exact takeB (L := a ++ b) (n := (z.length : Int)) (by rw [Int.toNat_natCast]; exact ⟨htk, hzl⟩))) ?_
        refine ar_pur (hL1) rfl rfl rfl rfl rfl rfl rfl ?_
        refine pA ?_
        refine ar_ent (ent_reg 67 (.r (.bool false)) (by show AVal.r (.bool _) = _; exact eqB (by simp))) ?_
        refine pA ?_
        refine ar_nil ?_
        refine ag_false rfl (by simp) ?_
        refine ag_skip ?_
        iterate 2 refine ag_seq ?_
        rw [hcut, ← hz] at hr
        refine ag_reg ?_
        iterate 2 refine pA ?_
        refine ar_qd rfl (qop_buildRo tOk rfl ?_ rfl) rfl rfl rfl rfl ?_
        · repeat any_goals (first | trivial | decide | omega | (simp; done) | (rw [wu8]; omega) | refine ⟨?_, ?_⟩)
        refine ar_ob (w_KAppend _ _ _ _ _ hr [c] (by omega)) rfl rfl rfl rfl rfl rfl rfl (by intro d hd; cases hd; rfl) ?_
        rintro _ sl tl ⟨rfl, hr⟩
        refine ⟨rfl, ?_⟩
        refine pA ?_
        refine ar_nil ?_
        refine ag_if rfl ?_ ?_
        · intro h73
          refine zB ?_
          refine pA ?_
          refine ar_nil ?_
          refine ag_ret tOk Try.func11 rfl rfl (by simp) ?_
          exact eqB (by simp)
        · intro h73
          obtain ⟨hsc, hlc, hBc⟩ := ap_ok (Decidable.not_not.1 h73)
          rw [hBc, ← frms_app] at hr
          refine ag_skip ?_
          refine zB ?_
          refine pA ?_
          refine ar_ob (w_KSync _ _ _ _ _ hr) rfl rfl rfl rfl rfl rfl rfl (by intro d hd; cases hd; rfl) ?_
          rintro _ sl tl ⟨rfl, hr⟩
          refine ⟨rfl, ?_⟩
          refine zC ?_
          refine pA ?_
          refine ar_ob (w_KLoad _ _ _ _ _ hr) rfl rfl rfl rfl rfl rfl rfl (by intro d hd; cases hd; rfl) ?_
          rintro _ sl tl ⟨rfl, hr⟩
          refine ⟨rfl, ?_⟩
          iterate 5 refine pA ?_
          refine zA ?_
          have hsz : shrt (z ++ [c]) := shrt_app (by rw [hz]; exact shrt_app hsa (shrt_take hsb m)) hsc
          refine ag_ent (ent_reg 13 (roL (z ++ [c])) (by show roL (splL _).1 = _; rw [spl_all hsz])) ?_
          have hL2 : Pur Try.prog 28 [.r (.ro (z.length : Int).toNat (List.take (mulz (z.length : Int) 1) ((z ++ [c]).map .bs))), roL z] (.r (.bool true)) := by rw [takeB (M := z) (by simp)]; exact (w_Lists z z (by omega)).mono_r (by simp)
          have hgz : (z ++ [c])[z.length]? = some c := by simp
          have hzl2 : (z ++ [c]).length = z.length + 1 := by simp
          refine ag_draw0 (by kernel_rfl) (by kernel_rfl) ?_
          refine aq_pure tOk rfl rfl rfl trivial ?_
          refine aq_pureE tOk (.r (.bool true)) rfl (by show AVal.r (.bool _) = _; exact eqB (by simp)) rfl (by rfl) trivial ?_
          iterate 5 refine aq_pure tOk rfl rfl rfl trivial ?_
          refine aq_pure tOk rfl rfl rfl ?_ ?_
          · unfold inI64; omega
          refine aq_pureE tOk (.r (.bool true)) rfl (by show AVal.r (.bool _) = _; exact eqB (by simp)) rfl (by rfl) trivial ?_
          iterate 5 refine aq_pure tOk rfl rfl rfl trivial ?_
          refine aq_pure tOk rfl rfl rfl ?_ ?_
          · simp only [boundsOk]; omega
          refine aq_pure tOk rfl rfl rfl trivial ?_
          refine aq_pur (hL2) rfl rfl rfl rfl rfl rfl rfl ?_
          iterate 5 refine aq_pure tOk rfl rfl rfl trivial ?_
          refine aq_pure tOk rfl rfl rfl ?_ ?_
          · refine ⟨?_, ?_⟩ <;> first | omega | exact ne_mpB hgz | (refine ⟨?_, ?_⟩ <;> omega)
          refine aq_loadAs tOk (.r (.bs c)) rfl rfl rfl rfl (fun _ => rfl) rfl rfl (.inl ⟨rfl, by simp [Body.cells, mulz_eq]⟩) ?_
          iterate 6 refine aq_pure tOk rfl rfl rfl trivial ?_
          refine aq_nil rfl ?_
          refine ag_ret tOk Try.func11 rfl rfl (by simp) ?_
          exact eqB (by simp)
      · skip
        have la : 0 < a.length := List.length_pos_iff.2 ea
        refine ag_ent (ent_reg 1 (.r (.ro 0 [])) (by show roL b = roL []; rw [eb])) ?_
        refine ag_reg ?_
        iterate 2 refine pA ?_
        refine ar_app tOk rfl rfl rfl ?_ ?_
        · refine ⟨⟨?_, ?_, ?_⟩, ⟨?_, ?_⟩, ⟨?_, ?_⟩, ?_⟩ <;> first | trivial | decide | omega | (simp; done) | (simp; omega) | (simp at *; omega)
        refine pA ?_
        refine ar_app tOk rfl rfl rfl ?_ ?_
        · refine ⟨⟨?_, ?_, ?_⟩, ⟨?_, ?_⟩, ⟨?_, ?_⟩, ?_⟩ <;> first | trivial | decide | omega | (simp; done) | (simp; omega) | (simp at *; omega)
        refine pA ?_
        refine zA ?_
        refine ag_seq ?_
        refine ag_ent (ent_freeze 12 rfl rfl rfl trivial) ?_
        refine ag_ent (ent_reg 12 (roL (a ++ b)) (by show AVal.r (.ro _ (cutA _ 0 _)) = _; exact roL_cut2 (a := a) (b := b) (by simp [eb]) (by simp [eb, cutA_eq, List.take_of_length_le]))) ?_
        refine ag_ent (ent_same (h' := obAt sl tl 0 1 ⟨4, [], false⟩) rfl rfl ⟨rfl, rfl, trivial⟩) ?_
        have hll : (a ++ b.take m).length = a.length + m := by rw [List.length_append, List.length_take]; omega
        have htk : (a ++ b).take (a ++ b.take m).length = a ++ b.take m := by rw [hll, List.take_append, List.take_of_length_le (by omega), Nat.add_sub_cancel_left]
        obtain ⟨z, hz⟩ : ∃ z, z = a ++ b.take m := ⟨_, rfl⟩
        rw [← hz] at hll htk
        have hzl : z.length ≤ (a ++ b).length := by rw [List.length_append]; omega
        have hL1 := w_Lists z z (by omega)
        have hfz : (frms z).length ≤ 65536 := by have h := hr.2.2.2.2.1; rw [hcut, ← hz] at h; omega
        refine ag_ent (ent_reg 10 (roL z) (by show roL (splL _).1 = _; rw [hsp, hz])) ?_
        refine ag_reg ?_
        iterate 3 refine pA ?_
        refine ar_ent (ent_reg 46 (.r (.bool false)) (by show AVal.r (.bool _) = _; exact eqB (by simp))) ?_
        iterate 7 refine pA ?_
        refine ar_ent (ent_reg 53 (.r (.bool false)) (by show AVal.r (.bool _) = _; exact eqB (by first | (simp; done) | (simp; omega)))) ?_
        iterate 7 refine pA ?_
        refine ar_ent (ent_reg 60 (.r (.bool false)) (by show AVal.r (.bool _) = _; exact eqB (by rw [List.length_append] at hzl; first | (simp; done) | (simp; omega)))) ?_
        iterate 4 refine pA ?_
        refine ar_pure tOk rfl rfl rfl ?_ ?_
        · simp only [boundsOk]; omega
        refine ar_ent (ent_reg 65 (roL z) (by show AVal.r (.ro _ (List.take (mulz _ 1) _)) = _; exact takeB (L := a ++ b) (n := (z.length : Int)) (by rw [Int.toNat_natCast]; exact ⟨htk, hzl⟩))) ?_
        refine ar_pur (hL1) rfl rfl rfl rfl rfl rfl rfl ?_
        refine pA ?_
        refine ar_ent (ent_reg 67 (.r (.bool false)) (by show AVal.r (.bool _) = _; exact eqB (by simp))) ?_
        refine pA ?_
        refine ar_nil ?_
        refine ag_false rfl (by simp) ?_
        refine ag_skip ?_
        iterate 2 refine ag_seq ?_
        rw [hcut, ← hz] at hr
        refine ag_reg ?_
        iterate 2 refine pA ?_
        refine ar_qd rfl (qop_buildRo tOk rfl ?_ rfl) rfl rfl rfl rfl ?_
        · repeat any_goals (first | trivial | decide | omega | (simp; done) | (rw [wu8]; omega) | refine ⟨?_, ?_⟩)
        refine ar_ob (w_KAppend _ _ _ _ _ hr [c] (by omega)) rfl rfl rfl rfl rfl rfl rfl (by intro d hd; cases hd; rfl) ?_
        rintro _ sl tl ⟨rfl, hr⟩
        refine ⟨rfl, ?_⟩
        refine pA ?_
        refine ar_nil ?_
        refine ag_if rfl ?_ ?_
        · intro h73
          refine zB ?_
          refine pA ?_
          refine ar_nil ?_
          refine ag_ret tOk Try.func11 rfl rfl (by simp) ?_
          exact eqB (by simp)
        · intro h73
          obtain ⟨hsc, hlc, hBc⟩ := ap_ok (Decidable.not_not.1 h73)
          rw [hBc, ← frms_app] at hr
          refine ag_skip ?_
          refine zB ?_
          refine pA ?_
          refine ar_ob (w_KSync _ _ _ _ _ hr) rfl rfl rfl rfl rfl rfl rfl (by intro d hd; cases hd; rfl) ?_
          rintro _ sl tl ⟨rfl, hr⟩
          refine ⟨rfl, ?_⟩
          refine zC ?_
          refine pA ?_
          refine ar_ob (w_KLoad _ _ _ _ _ hr) rfl rfl rfl rfl rfl rfl rfl (by intro d hd; cases hd; rfl) ?_
          rintro _ sl tl ⟨rfl, hr⟩
          refine ⟨rfl, ?_⟩
          iterate 5 refine pA ?_
          refine zA ?_
          have hsz : shrt (z ++ [c]) := shrt_app (by rw [hz]; exact shrt_app hsa (shrt_take hsb m)) hsc
          refine ag_ent (ent_reg 13 (roL (z ++ [c])) (by show roL (splL _).1 = _; rw [spl_all hsz])) ?_
          have hL2 : Pur Try.prog 28 [.r (.ro (z.length : Int).toNat (List.take (mulz (z.length : Int) 1) ((z ++ [c]).map .bs))), roL z] (.r (.bool true)) := by rw [takeB (M := z) (by simp)]; exact (w_Lists z z (by omega)).mono_r (by simp)
          have hgz : (z ++ [c])[z.length]? = some c := by simp
          have hzl2 : (z ++ [c]).length = z.length + 1 := by simp
          refine ag_draw0 (by kernel_rfl) (by kernel_rfl) ?_
          refine aq_pure tOk rfl rfl rfl trivial ?_
          refine aq_pureE tOk (.r (.bool true)) rfl (by show AVal.r (.bool _) = _; exact eqB (by simp)) rfl (by rfl) trivial ?_
          iterate 5 refine aq_pure tOk rfl rfl rfl trivial ?_
          refine aq_pure tOk rfl rfl rfl ?_ ?_
          · unfold inI64; omega
          refine aq_pureE tOk (.r (.bool true)) rfl (by show AVal.r (.bool _) = _; exact eqB (by simp)) rfl (by rfl) trivial ?_
          iterate 5 refine aq_pure tOk rfl rfl rfl trivial ?_
          refine aq_pure tOk rfl rfl rfl ?_ ?_
          · simp only [boundsOk]; omega
          refine aq_pure tOk rfl rfl rfl trivial ?_
          refine aq_pur (hL2) rfl rfl rfl rfl rfl rfl rfl ?_
          iterate 5 refine aq_pure tOk rfl rfl rfl trivial ?_
          refine aq_pure tOk rfl rfl rfl ?_ ?_
          · refine ⟨?_, ?_⟩ <;> first | omega | exact ne_mpB hgz | (refine ⟨?_, ?_⟩ <;> omega)
          refine aq_loadAs tOk (.r (.bs c)) rfl rfl rfl rfl (fun _ => rfl) rfl rfl (.inl ⟨rfl, by simp [Body.cells, mulz_eq]⟩) ?_
          iterate 6 refine aq_pure tOk rfl rfl rfl trivial ?_
          refine aq_nil rfl ?_
          refine ag_ret tOk Try.func11 rfl rfl (by simp) ?_
          exact eqB (by simp)
      · skip
        have la : 0 < a.length := List.length_pos_iff.2 ea
        have lb : 0 < b.length := List.length_pos_iff.2 eb
        refine ag_reg ?_
        iterate 2 refine pA ?_
        refine ar_app tOk rfl rfl rfl ?_ ?_
        · refine ⟨⟨?_, ?_, ?_⟩, ⟨?_, ?_⟩, ⟨?_, ?_⟩, ?_⟩ <;> first | trivial | decide | omega | (simp; done) | (simp; omega) | (simp at *; omega)
        refine pA ?_
        refine ar_app tOk rfl rfl rfl ?_ ?_
        · refine ⟨⟨?_, ?_, ?_⟩, ⟨?_, ?_⟩, ⟨?_, ?_⟩, ?_⟩ <;> first | trivial | decide | omega | (simp; done) | (simp; omega) | (simp at *; omega)
        refine pA ?_
        refine zA ?_
        refine ag_seq ?_
        refine ag_ent (ent_freeze 12 rfl rfl rfl trivial) ?_
        refine ag_ent (ent_reg 12 (roL (a ++ b)) (by show AVal.r (.ro _ (cutA _ 0 _)) = _; exact roL_cut2 (a := a) (b := b) (by simp) (by simp [cutA_eq, List.take_of_length_le]))) ?_
        refine ag_ent (ent_same (h' := obAt sl tl 0 1 ⟨4, [], false⟩) rfl rfl ⟨rfl, rfl, trivial⟩) ?_
        have hll : (a ++ b.take m).length = a.length + m := by rw [List.length_append, List.length_take]; omega
        have htk : (a ++ b).take (a ++ b.take m).length = a ++ b.take m := by rw [hll, List.take_append, List.take_of_length_le (by omega), Nat.add_sub_cancel_left]
        obtain ⟨z, hz⟩ : ∃ z, z = a ++ b.take m := ⟨_, rfl⟩
        rw [← hz] at hll htk
        have hzl : z.length ≤ (a ++ b).length := by rw [List.length_append]; omega
        have hL1 := w_Lists z z (by omega)
        have hfz : (frms z).length ≤ 65536 := by have h := hr.2.2.2.2.1; rw [hcut, ← hz] at h; omega
        refine ag_ent (ent_reg 10 (roL z) (by show roL (splL _).1 = _; rw [hsp, hz])) ?_
        refine ag_reg ?_
        iterate 3 refine pA ?_
        refine ar_ent (ent_reg 46 (.r (.bool false)) (by show AVal.r (.bool _) = _; exact eqB (by simp))) ?_
        iterate 7 refine pA ?_
        refine ar_ent (ent_reg 53 (.r (.bool false)) (by show AVal.r (.bool _) = _; exact eqB (by first | (simp; done) | (simp; omega)))) ?_
        iterate 7 refine pA ?_
        refine ar_ent (ent_reg 60 (.r (.bool false)) (by show AVal.r (.bool _) = _; exact eqB (by rw [List.length_append] at hzl; first | (simp; done) | (simp; omega)))) ?_
        iterate 4 refine pA ?_
        refine ar_pure tOk rfl rfl rfl ?_ ?_
        · simp only [boundsOk]; omega
        refine ar_ent (ent_reg 65 (roL z) (by show AVal.r (.ro _ (List.take (mulz _ 1) _)) = _; exact takeB (L := a ++ b) (n := (z.length : Int)) (by rw [Int.toNat_natCast]; exact ⟨htk, hzl⟩))) ?_
        refine ar_pur (hL1) rfl rfl rfl rfl rfl rfl rfl ?_
        refine pA ?_
        refine ar_ent (ent_reg 67 (.r (.bool false)) (by show AVal.r (.bool _) = _; exact eqB (by simp))) ?_
        refine pA ?_
        refine ar_nil ?_
        refine ag_false rfl (by simp) ?_
        refine ag_skip ?_
        iterate 2 refine ag_seq ?_
        rw [hcut, ← hz] at hr
        refine ag_reg ?_
        iterate 2 refine pA ?_
        refine ar_qd rfl (qop_buildRo tOk rfl ?_ rfl) rfl rfl rfl rfl ?_
        · repeat any_goals (first | trivial | decide | omega | (simp; done) | (rw [wu8]; omega) | refine ⟨?_, ?_⟩)
        refine ar_ob (w_KAppend _ _ _ _ _ hr [c] (by omega)) rfl rfl rfl rfl rfl rfl rfl (by intro d hd; cases hd; rfl) ?_
        rintro _ sl tl ⟨rfl, hr⟩
        refine ⟨rfl, ?_⟩
        refine pA ?_
        refine ar_nil ?_
        refine ag_if rfl ?_ ?_
        · intro h73
          refine zB ?_
          refine pA ?_
          refine ar_nil ?_
          refine ag_ret tOk Try.func11 rfl rfl (by simp) ?_
          exact eqB (by simp)
        · intro h73
          obtain ⟨hsc, hlc, hBc⟩ := ap_ok (Decidable.not_not.1 h73)
          rw [hBc, ← frms_app] at hr
          refine ag_skip ?_
          refine zB ?_
          refine pA ?_
          refine ar_ob (w_KSync _ _ _ _ _ hr) rfl rfl rfl rfl rfl rfl rfl (by intro d hd; cases hd; rfl) ?_
          rintro _ sl tl ⟨rfl, hr⟩
          refine ⟨rfl, ?_⟩
          refine zC ?_
          refine pA ?_
          refine ar_ob (w_KLoad _ _ _ _ _ hr) rfl rfl rfl rfl rfl rfl rfl (by intro d hd; cases hd; rfl) ?_
          rintro _ sl tl ⟨rfl, hr⟩
          refine ⟨rfl, ?_⟩
          iterate 5 refine pA ?_
          refine zA ?_
          have hsz : shrt (z ++ [c]) := shrt_app (by rw [hz]; exact shrt_app hsa (shrt_take hsb m)) hsc
          refine ag_ent (ent_reg 13 (roL (z ++ [c])) (by show roL (splL _).1 = _; rw [spl_all hsz])) ?_
          have hL2 : Pur Try.prog 28 [.r (.ro (z.length : Int).toNat (List.take (mulz (z.length : Int) 1) ((z ++ [c]).map .bs))), roL z] (.r (.bool true)) := by rw [takeB (M := z) (by simp)]; exact (w_Lists z z (by omega)).mono_r (by simp)
          have hgz : (z ++ [c])[z.length]? = some c := by simp
          have hzl2 : (z ++ [c]).length = z.length + 1 := by simp
          refine ag_draw0 (by kernel_rfl) (by kernel_rfl) ?_
          refine aq_pure tOk rfl rfl rfl trivial ?_
          refine aq_pureE tOk (.r (.bool true)) rfl (by show AVal.r (.bool _) = _; exact eqB (by simp)) rfl (by rfl) trivial ?_
          iterate 5 refine aq_pure tOk rfl rfl rfl trivial ?_
          refine aq_pure tOk rfl rfl rfl ?_ ?_
          · unfold inI64; omega
          refine aq_pureE tOk (.r (.bool true)) rfl (by show AVal.r (.bool _) = _; exact eqB (by simp)) rfl (by rfl) trivial ?_
          iterate 5 refine aq_pure tOk rfl rfl rfl trivial ?_
          refine aq_pure tOk rfl rfl rfl ?_ ?_
          · simp only [boundsOk]; omega
          refine aq_pure tOk rfl rfl rfl trivial ?_
          refine aq_pur (hL2) rfl rfl rfl rfl rfl rfl rfl ?_
          iterate 5 refine aq_pure tOk rfl rfl rfl trivial ?_
          refine aq_pure tOk rfl rfl rfl ?_ ?_
          · refine ⟨?_, ?_⟩ <;> first | omega | exact ne_mpB hgz | (refine ⟨?_, ?_⟩ <;> omega)
          refine aq_loadAs tOk (.r (.bs c)) rfl rfl rfl rfl (fun _ => rfl) rfl rfl (.inl ⟨rfl, by simp [Body.cells, mulz_eq]⟩) ?_
          iterate 6 refine aq_pure tOk rfl rfl rfl trivial ?_
          refine aq_nil rfl ?_
          refine ag_ret tOk Try.func11 rfl rfl (by simp) ?_
          exact eqB (by simp)

end Go.Proofs.Ytopfpkmdkcjjlaa
