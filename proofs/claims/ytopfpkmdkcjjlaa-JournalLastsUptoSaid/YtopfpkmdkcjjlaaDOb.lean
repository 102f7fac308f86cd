/-
  WALKS: a disk, as one object: its octets, how many are sure, its room. (Printed by gen.py out of w_dob.py.)
-/
import Derived.Test.YtopfpkmdkcjjlaaDisk
import Derived.Test.YtopfpkmdkcjjlaaMB
namespace Go.Proofs.Ytopfpkmdkcjjlaa
open Go
set_option maxRecDepth 20000
set_option linter.unusedVariables false
set_option linter.unusedSimpArgs false

def kRel (B : List UInt8) (su ro : Int) (sl : Option (List UInt8)) (tl : List RVal) : Prop := tl = [.int .i64 su, .int .i64 ro, .bool true] ∧ (match sl with | none => B = [] | some s => B = s) ∧ 0 ≤ su ∧ su ≤ B.length ∧ (B.length : Int) ≤ ro ∧ ro ≤ 65536
theorem kRel0 {ro : Int} (h : 0 ≤ ro) (h2 : ro ≤ 65536) : kRel [] 0 ro none [.int .i64 0, .int .i64 ro, .bool true] := ⟨rfl, rfl, by decide, by simp, by simpa using h, h2⟩
theorem is_dN (su ro : Int) (m : Bool) : ObIs none [.int .i64 su, .int .i64 ro, .bool m] (dN su ro m) := ⟨1, rfl, fun s h => by cases h⟩
theorem is_dB (s : List UInt8) (n : Nat) (su ro : Int) (m : Bool) (h : n = s.length) : ObIs (some s) [.int .i64 su, .int .i64 ro, .bool m] (dB n s su ro m) := by subst h; exact ⟨1, rfl, fun s' h => by cases h; exact ⟨by decide, rfl⟩⟩
theorem is_dC (s : List UInt8) (n : Nat) (su ro : Int) (m : Bool) (h : n = s.length) : ObIs (some s) [.int .i64 su, .int .i64 ro, .bool m] (dC n s su ro m) := by subst h; exact ⟨2, rfl, fun s' h => by cases h; exact ⟨by decide, rfl⟩⟩

theorem w_TrimT (j n : Nat) (s : List UInt8) (su ro : Int) (h : j ≤ n) : Spec Try.prog 61 [.ptr 0 0, .r (.int .i64 (j : Int))] (dB n s su ro true) (fun v h' => v = .r (.int .i64 0) ∧ h' = dB j (s.take j) j ro true) := by
  refine spec_of_go (N := 35) Try.func61 rfl (by decide) rfl rfl ?_
  refine zB ?_
  refine pA ?_
  refine zA ?_
  refine ag_block ?_
  refine zB ?_
  refine pA ?_
  refine ar_qd rfl (qop_objR [0, 1] (w_isB _ _ _ _ _) (by rintro _ _ ⟨rfl, rfl⟩; exact ⟨rfl, rfl⟩) rfl rfl (handed_of rfl rfl (by decide) ⟨rfl, rfl, rfl, rfl, rfl, rfl, trivial⟩) rfl rfl) rfl rfl rfl rfl ?_
  iterate 2 refine pA ?_
  refine ar_nil ?_
  refine ag_false rfl (rfl) ?_
  refine zB ?_
  iterate 3 refine pA ?_
  refine ar_ent (ent_reg 12 (.r (.bool false)) (by show AVal.r (.bool _) = _; rw [decide_eq_false (by omega)])) ?_
  iterate 4 refine ar_pure tOk rfl rfl (by simp) trivial ?_
  refine ar_load tOk rfl rfl (by simp) trivial ?_
  iterate 2 refine ar_pure tOk rfl rfl (by simp) trivial ?_
  iterate 2 refine pA ?_
  refine ar_nil ?_
  refine ag_false rfl (by simp; omega) ?_
  refine ag_skip ?_
  refine ag_inBlock ?_
  refine zB ?_
  iterate 5 refine pA ?_
  refine pB ?_
  iterate 2 refine pA ?_
  refine ar_pure tOk rfl rfl rfl ?_ ?_
  · simp only [boundsOk]; omega
  iterate 3 refine pA ?_
  refine ar_store tOk rfl rfl rfl trivial ?_
  iterate 2 refine pA ?_
  refine ar_store tOk rfl rfl rfl trivial ?_
  refine zC ?_
  refine pA ?_
  refine ar_nil ?_
  refine ag_ent (ent_trunc 1 j s rfl) ?_
  refine ag_ent (ent_weak (g' := [(4, .r (.int .i64 0))]) (h' := dB j (s.take j) j ro true) [0, 1] rfl rfl rfl rfl ?_ ?_ rfl) ?_
  · exact ⟨⟨rfl, rfl⟩, trivial⟩
  · exact ⟨⟨rfl, rfl, eqMxB (by simp [cutN]) rfl rfl⟩, ⟨rfl, rfl, rfl⟩, trivial⟩
  refine ag_ret tOk Try.func61 rfl rfl (by simp) ?_
  exact ⟨rfl, rfl⟩

theorem w_FallT (k : Int) (n : Nat) (s : List UInt8) (su ro : Int) (su' : Nat) (h0 : 0 ≤ su) (h1 : su ≤ n) (h2 : n ≤ 65536) (hs : (su' : Int) = su + min (max k 0) ((n : Int) - su)) : Spec Try.prog 37 [.ptr 0 0, .r (.int .i64 k)] (dB n s su ro true) (fun v h' => v = .tuple [] ∧ h' = dB su' (s.take su') su' ro true) := by
  refine spec_of_go (N := 34) Try.func37 rfl (by decide) rfl rfl ?_
  refine zB ?_
  refine pA ?_
  refine ar_qd rfl (qop_objR [0, 1] (w_isB _ _ _ _ _) (by rintro _ _ ⟨rfl, rfl⟩; exact ⟨rfl, rfl⟩) rfl rfl (handed_of rfl rfl (by decide) ⟨rfl, rfl, rfl, rfl, rfl, rfl, trivial⟩) rfl rfl) rfl rfl rfl rfl ?_
  refine ar_nil ?_
  refine ag_true rfl (rfl) ?_
  refine ag_seq ?_
  apply ag_draw1 [] (by kernel_rfl) (by kernel_rfl)
  iterate 3 refine aq_pure tOk rfl rfl rfl trivial ?_
  refine aq_load0 tOk rfl (by kernel_rfl) rfl rfl trivial ?_
  iterate 3 refine aq_pure tOk rfl rfl rfl trivial ?_
  refine aq_qd0 (qop_objR [0, 1] (w_FreshB n s su ro h0 h1 h2) (by rintro _ _ ⟨rfl, rfl⟩; exact ⟨rfl, rfl⟩) rfl rfl (handed_of rfl rfl (by decide) ⟨rfl, rfl, rfl, rfl, rfl, rfl, trivial⟩) rfl rfl) (by kernel_rfl) rfl rfl rfl rfl ?_
  refine aq_pure tOk rfl rfl rfl trivial ?_
  refine aq_pure tOk rfl rfl rfl ?_ ?_
  · unfold inI64; omega
  iterate 2 refine aq_pure tOk rfl rfl rfl trivial ?_
  refine aq_store10 tOk rfl rfl rfl rfl trivial ?_
  refine aq_nil rfl ?_
  refine ag_ent (ent_weak (g' := [(0, .ptr 0 0)]) (h' := dB n s su' ro true) [0, 1] rfl rfl rfl rfl ?_ ?_ rfl) ?_
  · exact ⟨⟨rfl, rfl⟩, trivial⟩
  · exact ⟨⟨rfl, rfl, eqMxB rfl hs.symm rfl⟩, ⟨rfl, rfl, rfl⟩, trivial⟩
  apply ag_draw1 [] (by kernel_rfl) (by kernel_rfl)
  iterate 4 refine aq_pure tOk rfl rfl rfl trivial ?_
  refine aq_load0 tOk rfl (by kernel_rfl) rfl rfl trivial ?_
  iterate 3 refine aq_pure tOk rfl rfl rfl trivial ?_
  refine aq_load0 tOk rfl (by kernel_rfl) rfl rfl trivial ?_
  iterate 3 refine aq_pure tOk rfl rfl rfl trivial ?_
  refine aq_load0 tOk rfl (by kernel_rfl) rfl rfl trivial ?_
  refine aq_pure tOk rfl rfl rfl ?_ ?_
  · simp only [boundsOk]; omega
  iterate 2 refine aq_pure tOk rfl rfl rfl trivial ?_
  refine aq_store10 tOk rfl rfl rfl rfl trivial ?_
  refine aq_nil rfl ?_
  refine ag_ent (ent_trunc 1 su' s rfl) ?_
  refine ag_ent (ent_weak (g' := [(0, .ptr 0 0)]) (h' := dB su' (s.take su') su' ro true) [0, 1] rfl rfl rfl rfl ?_ ?_ rfl) ?_
  · exact ⟨⟨rfl, rfl⟩, trivial⟩
  · exact ⟨⟨rfl, rfl, eqMxB (by simp [cutN]) rfl rfl⟩, ⟨rfl, rfl, rfl⟩, trivial⟩
  refine ag_end tOk Try.func37 rfl rfl (by simp) ?_
  exact ⟨rfl, rfl⟩

theorem w_KWrite (b : List UInt8) (B : List UInt8) (su ro : Int) (sl : Option (List UInt8)) (tl : List RVal) (hr : kRel B su ro sl tl) : Spec Try.prog 60 [.ptr 0 0, .r (.bs b)] (obP sl tl) (fun v h' => ∃ sl' tl', (v = .r (.int .i64 (if (b.length : Int) > ro - B.length then 10 else 0)) ∧ kRel (if (b.length : Int) > ro - B.length then B else B ++ b) (su) ro sl' tl') ∧ ObIs sl' tl' h') := by
  have hr' := hr
  obtain ⟨rfl, hs, h1, h2, h3, h4⟩ := hr
  have h5 : (B.length : Int) ≥ 0 := by omega
  by_cases hF : (b.length : Int) > ro - B.length
  · rw [if_pos hF, if_pos hF]
    cases sl with
    | none =>
      obtain rfl : B = [] := hs
      obtain rfl : su = 0 := by simp at h2; omega
      exact Spec.mono (w_WriteFullN b ro (by omega) h4 (by simpa using hF)) (fun v h' ⟨g1, g2⟩ => ⟨none, _, ⟨g1, hr'⟩, g2 ▸ is_dN 0 ro true⟩)
    | some s =>
      obtain rfl : B = s := hs
      exact Spec.mono (w_WriteFullB b B.length B su ro (by omega) h4 (by omega) hF) (fun v h' ⟨g1, g2⟩ => ⟨some B, _, ⟨g1, hr'⟩, g2 ▸ is_dB B _ su ro true rfl⟩)
  · rw [if_neg hF, if_neg hF]
    have hn : kRel (B ++ b) su ro (some (B ++ b)) [.int .i64 su, .int .i64 ro, .bool true] := ⟨rfl, rfl, h1, by rw [List.length_append]; omega, by rw [List.length_append]; omega, h4⟩
    cases sl with
    | none =>
      obtain rfl : B = [] := hs
      obtain rfl : su = 0 := by simp at h2; omega
      by_cases hE : b = []
      · subst hE
        exact Spec.mono (w_WriteN0 ro (by omega) h4) (fun v h' ⟨g1, g2⟩ => ⟨none, _, ⟨g1, hr'⟩, g2 ▸ is_dN 0 ro true⟩)
      · exact Spec.mono (w_WriteN b ro (by omega) h4 hE (by simp at hF; omega)) (fun v h' ⟨g1, g2⟩ => ⟨some b, _, ⟨g1, hn⟩, g2 ▸ is_dB b _ 0 ro true rfl⟩)
    | some s =>
      obtain rfl : B = s := hs
      exact Spec.mono (w_WriteB b B.length B su ro (by omega) h4 (Nat.le_refl _) (by omega) (by omega)) (fun v h' ⟨g1, g2⟩ => ⟨some (B ++ b), _, ⟨g1, hn⟩, by rw [g2, List.take_length]; exact is_dC _ _ su ro true (by simp)⟩)
theorem w_KSync (B : List UInt8) (su ro : Int) (sl : Option (List UInt8)) (tl : List RVal) (hr : kRel B su ro sl tl) : Spec Try.prog 36 [.ptr 0 0] (obP sl tl) (fun v h' => ∃ sl' tl', (v = .r (.int .i64 ((B.length : Int) - su)) ∧ kRel (B) (B.length) ro sl' tl') ∧ ObIs sl' tl' h') := by
  obtain ⟨rfl, hs, h1, h2, h3, h4⟩ := hr
  cases sl with
  | none =>
    obtain rfl : B = [] := hs
    obtain rfl : su = 0 := by simp at h2; omega
    exact Spec.mono (w_SyncN ro) (fun v h' ⟨g1, g2⟩ => ⟨none, _, ⟨g1, rfl, rfl, by simp, by simp, h3, h4⟩, g2 ▸ is_dN _ ro true⟩)
  | some s =>
    obtain rfl : B = s := hs
    exact Spec.mono (w_SyncB B.length B su ro h1 h2 (by omega)) (fun v h' ⟨g1, g2⟩ => ⟨some B, _, ⟨g1, rfl, rfl, by omega, by omega, h3, h4⟩, g2 ▸ is_dB B _ _ ro true rfl⟩)
theorem w_KFresh (B : List UInt8) (su ro : Int) (sl : Option (List UInt8)) (tl : List RVal) (hr : kRel B su ro sl tl) : Spec Try.prog 34 [.ptr 0 0] (obP sl tl) (fun v h' => ∃ sl' tl', (v = .r (.int .i64 ((B.length : Int) - su)) ∧ kRel (B) (su) ro sl' tl') ∧ ObIs sl' tl' h') := by
  have hr' := hr
  obtain ⟨rfl, hs, h1, h2, h3, h4⟩ := hr
  cases sl with
  | none =>
    obtain rfl : B = [] := hs
    obtain rfl : su = 0 := by simp at h2; omega
    exact Spec.mono (w_FreshN ro) (fun v h' ⟨g1, g2⟩ => ⟨none, _, ⟨g1, hr'⟩, g2 ▸ is_dN _ ro true⟩)
  | some s =>
    obtain rfl : B = s := hs
    exact Spec.mono (w_FreshB B.length B su ro h1 h2 (by omega)) (fun v h' ⟨g1, g2⟩ => ⟨some B, _, ⟨g1, hr'⟩, g2 ▸ is_dB B _ _ ro true rfl⟩)
theorem w_KOctets (B : List UInt8) (su ro : Int) (sl : Option (List UInt8)) (tl : List RVal) (hr : kRel B su ro sl tl) : Spec Try.prog 35 [.ptr 0 0] (obP sl tl) (fun v h' => ∃ sl' tl', (v = .r (.bs B) ∧ kRel (B) (su) ro sl' tl') ∧ ObIs sl' tl' h') := by
  have hr' := hr
  obtain ⟨rfl, hs, h1, h2, h3, h4⟩ := hr
  cases sl with
  | none =>
    obtain rfl : B = [] := hs
    exact Spec.mono (w_OctetsN su ro) (fun v h' ⟨g1, g2⟩ => ⟨none, _, ⟨g1, hr'⟩, g2 ▸ is_dN _ ro true⟩)
  | some s =>
    obtain rfl : B = s := hs
    exact Spec.mono (w_OctetsB B.length B su ro (Nat.le_refl _) (by omega)) (fun v h' ⟨g1, g2⟩ => ⟨some B, _, ⟨by rw [g1, List.take_length], hr'⟩, g2 ▸ is_dB B _ _ ro true rfl⟩)
theorem w_KTrim (j : Nat) (B : List UInt8) (su ro : Int) (sl : Option (List UInt8)) (tl : List RVal) (hr : kRel B su ro sl tl) (hj : j ≤ B.length) : Spec Try.prog 61 [.ptr 0 0, .r (.int .i64 (j : Int))] (obP sl tl) (fun v h' => ∃ sl' tl', (v = .r (.int .i64 0) ∧ kRel (B.take j) (j) ro sl' tl') ∧ ObIs sl' tl' h') := by
  obtain ⟨rfl, hs, h1, h2, h3, h4⟩ := hr
  cases sl with
  | none =>
    obtain rfl : B = [] := hs
    obtain rfl : su = 0 := by simp at h2; omega
    obtain rfl : j = 0 := by simpa using hj
    exact Spec.mono (w_TrimN ro) (fun v h' ⟨g1, g2⟩ => ⟨none, _, ⟨g1, rfl, rfl, by simp, by simp, by simpa using h3, h4⟩, g2 ▸ is_dN _ ro true⟩)
  | some s =>
    obtain rfl : B = s := hs
    have hl : (B.take j).length = j := by rw [List.length_take]; omega
    exact Spec.mono (w_TrimT j B.length B su ro hj) (fun v h' ⟨g1, g2⟩ => ⟨some (B.take j), _, ⟨g1, rfl, rfl, by omega, by omega, by omega, h4⟩, g2 ▸ is_dB _ _ _ ro true hl.symm⟩)
theorem w_KFall (k : Int) (j : Nat) (B : List UInt8) (su ro : Int) (sl : Option (List UInt8)) (tl : List RVal) (hr : kRel B su ro sl tl) (hj : (j : Int) = su + min (max k 0) ((B.length : Int) - su)) : Spec Try.prog 37 [.ptr 0 0, .r (.int .i64 k)] (obP sl tl) (fun v h' => ∃ sl' tl', (v = .tuple [] ∧ kRel (B.take j) (j) ro sl' tl') ∧ ObIs sl' tl' h') := by
  obtain ⟨rfl, hs, h1, h2, h3, h4⟩ := hr
  cases sl with
  | none =>
    obtain rfl : B = [] := hs
    obtain rfl : su = 0 := by simp at h2; omega
    obtain rfl : j = 0 := by simp at hj; omega
    exact Spec.mono (w_FallN k ro) (fun v h' ⟨g1, g2⟩ => ⟨none, _, ⟨g1, rfl, rfl, by simp, by simp, by simpa using h3, h4⟩, g2 ▸ is_dN _ ro true⟩)
  | some s =>
    obtain rfl : B = s := hs
    have hl : (B.take j).length = j := by rw [List.length_take]; omega
    exact Spec.mono (w_FallT k B.length B su ro j h1 h2 (by omega) hj) (fun v h' ⟨g1, g2⟩ => ⟨some (B.take j), _, ⟨g1, rfl, rfl, by omega, by omega, by omega, h4⟩, g2 ▸ is_dB _ _ _ ro true hl.symm⟩)

end Go.Proofs.Ytopfpkmdkcjjlaa
