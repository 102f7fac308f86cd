/-
  PLAIN LAW: the words reckoned from primes are those that are told. (Printed by gen.py out of w_hrc.py.)
-/
import Derived.Test.YtopfpkmdkcjjlaaHPrm
import Derived.Test.YtopfpkmdkcjjlaaHRef
namespace Go.Proofs.Ytopfpkmdkcjjlaa
open Go
set_option maxRecDepth 20000
set_option linter.unusedVariables false
set_option linter.unusedSimpArgs false
def pF (j : Nat) : Int := ((prN 312)[j]?).getD 0
theorem root_h : (List.range 8).map (fun j => rootV 2 (pF j)) = [0x6a09e667, 0xbb67ae85, 0x3c6ef372, 0xa54ff53a, 0x510e527f, 0x9b05688c, 0x1f83d9ab, 0x5be0cd19] := by decide +kernel
section
variable {P : Program} {T : TTab} {N ix j K : Nat} {ops : Array Oper} {o : Oper} {rest : List Oper} {g : Regs} {ld : List Nat} {Hs : Nat → Hp} {F : Regs → Prop}
theorem aq_loadAs1 (hTO : TOk P T) {b : Bool} {d : Nat} {t : TypeId} {ty : Ty} {x : Operand} {bd : Body} {off : Nat} (v : AVal) (hd : o.dst = some d) (hop : o.op = .load t x) (hN : Nat.blt d N = true) (hT : T.look t = some ty)
    (ha0 : addrF (Hs 0) (evA g x) = some (bd, off)) (ha1 : addrF (Hs 1) (evA g x) = some (bd, off)) (hl1 : limAt ld ops ix = 1) (hg : guardB ops g o = some b) (ht : b = true) (hl : LoadsTo ty bd.cells off v)
    (hk : QGo P N ld ops Hs K F rest (ix + 1) j ((d, v) :: g)) : QGo P N ld ops Hs K F (o :: rest) ix j g := by
  refine aq_quiet hg ht hd hN (fun i hi => ?_) hk
  rw [hl1] at hi
  have ha : addrF (Hs i) (evA g x) = some (bd, off) := by
    rcases i with _ | i
    · exact ha0
    · have : i = 0 := by omega
      subst this; exact ha1
  intro g' hag X R μ a w Q e5 e6 e7
  rw [hop] at hag
  have ha' := ha
  rw [← hag x (by simp [Op.operands])] at ha'
  obtain ⟨b, o0, vs, h6, h7, h8⟩ := addrF_sound e7 ha' (evA_rel (a := a) e6 x)
  obtain ⟨cv, h9, h10⟩ := loadVar_sound (b := b) (o := o0) hTO hT (bodyRel_cells h7) h8 hl
  refine wp_value (u := cv) (w' := w) ?_ ⟨cv, R, μ, rfl, h10, e6, e7⟩
  simp only [execOp, hop, h6, Instr.loadAt, Instr.sureAddr, Sem.run_bind, Sem.run_pure, Result.andThen_ok, h9]
end
theorem root_k : ((List.range 64).all fun j => decide (rootV 3 (pF j) = keyF j)) = true := by decide +kernel
theorem root_k1 {j : Nat} (h : j < 64) : rootV 3 (pF j) = keyF j := by
  have := List.all_eq_true.1 root_k j (List.mem_range.2 h)
  exact of_decide_eq_true this
def rhF (i j : Nat) : Int := if j < i then rootV 2 (pF j) else 0
def rkF (i j : Nat) : Int := if j < i then rootV 3 (pF j) else 0
theorem rh_end : (fnL 8 fun j => RVal.int .u32 (rhF 64 j)) = q0.cells := by
  have e : (fnL 8 fun j => RVal.int .u32 (rhF 64 j)) = ((List.range 8).map fun j => rootV 2 (pF j)).map (RVal.int .u32) := by
    rw [fnL, List.map_map]
    apply List.map_congr_left
    intro j hj
    have := List.mem_range.1 hj
    simp only [Function.comp, rhF]
    rw [if_pos (by omega)]
  rw [e, root_h]; rfl
theorem rk_end : u64L (rkF 64) = u64L keyF := fnL_congr fun j hj => by simp only [rkF]; rw [if_pos hj, root_k1 hj]
theorem pF_at {i : Nat} {v : Int} (h : (prN 312)[i]? = some v) : pF i = v := by rw [pF, h]; rfl
theorem pF_lt : ∀ v ∈ prN 312, 0 ≤ v ∧ v < 65536 := by
  have : ((prN 312).all fun v => decide (0 ≤ v ∧ v < 65536)) = true := by decide +kernel
  intro v hv
  exact of_decide_eq_true (List.all_eq_true.1 this v hv)
def strRts_0  : Nat → Regs × Hp := fun i => ([(0, .ptr 0 0), (1, .ptr 1 0), (2, .ptr 2 0), (3, .ptr 3 0), (4, .r (.ro 64 ((prN 312).map (RVal.int .i64)))), (5, .r (.int .i64 (i : Int)))], ⟨4, [(0, some (.plain z8)), (1, some (.plain (u64L fun _ => 0))), (2, some (.plain (fnL 8 fun j => .int .u32 (rhF i j)))), (3, some (.plain (u64L (rkF i))))], false⟩)
def prrRts_0  : Nat → Prop := fun i => i ≤ 64
set_option maxHeartbeats 2000000 in
theorem w_Roots  : Pur Try.prog 20 [] (.tuple [q0.av, a64 keyF]) := by
  refine spec_of_go (N := 29) Try.func20 rfl (by decide) rfl rfl ?_
  refine zB ?_
  refine ar_new tOk rfl rfl rfl ?_ ?_
  · simp
  refine ar_new tOk rfl rfl rfl ?_ ?_
  · simp
  refine zC ?_
  refine ar_new tOk rfl rfl rfl ?_ ?_
  · simp
  refine zC ?_
  refine ar_new tOk rfl rfl rfl ?_ ?_
  · simp
  refine zC ?_
  refine ar_pur (w_prime) rfl rfl rfl rfl rfl rfl rfl ?_
  refine pA ?_
  refine zA ?_
  refine zB ?_
  refine pA ?_
  refine ar_nil ?_
  refine ag_block ?_
  refine ag_loopS (strRts_0 ) (prrRts_0 ) (fun (i : Nat) => 64 - i) 0 (ent_weak [0, 1, 2, 3] rfl rfl rfl rfl ?_ ?_ rfl) (show prrRts_0  0 from ?_) ?_
  · exact ⟨⟨rfl, rfl⟩, ⟨rfl, rfl⟩, ⟨rfl, rfl⟩, ⟨rfl, rfl⟩, ⟨rfl, rfl⟩, ⟨rfl, rfl⟩, trivial⟩
  · exact ⟨⟨rfl, rfl, rfl⟩, ⟨rfl, rfl, rfl⟩, ⟨rfl, rfl, rfl⟩, ⟨rfl, rfl, rfl⟩, trivial⟩
  · exact Nat.zero_le _
  rintro i hi hrec
  have hi : i ≤ 64 := hi
  refine ag_seq ?_
  refine zB ?_
  iterate 2 refine pA ?_
  refine ar_nil ?_
  refine ag_if rfl ?_ ?_
  · intro h8
    obtain ⟨v, hv⟩ : ∃ v, (prN 312)[i]? = some v := ⟨(prN 312)[i]'(by rw [prN_312]; omega), by simp⟩
    have hvb := pF_lt v (List.mem_of_getElem? hv)
    have hpl := prN_312
    refine ag_skip ?_
    refine ag_seq ?_
    refine ag_block ?_
    refine ag_seq ?_
    refine zB ?_
    iterate 2 refine pA ?_
    refine ar_nil ?_
    refine ag_if rfl ?_ ?_
    · intro h12
      refine ag_reg ?_
      iterate 3 refine pA ?_
      refine ar_pure tOk rfl rfl rfl ?_ ?_
      · refine ⟨?_, ?_⟩ <;> first | omega | (intro q; rw [List.map_eq_nil_iff] at q; rw [q] at hv; simp at hv; done) | (refine ⟨?_, ?_⟩ <;> omega)
      refine ar_loadAs tOk (.r (.int .i64 v)) rfl rfl rfl rfl rfl rfl rfl (.inl ⟨rfl, by rw [mulz_eq, Int.toNat_natCast, Nat.mul_one]; simp [Body.cells, hv]⟩) ?_
      refine ar_pur (w_root 2 (.inl rfl) v hvb) rfl rfl rfl rfl rfl rfl rfl ?_
      refine ar_pure tOk rfl rfl rfl ?_ ?_
      · refine ⟨?_, ?_⟩ <;> omega
      refine ar_store tOk rfl rfl rfl ?_ ?_
      · simp only [fnL_length, u64L, addo_eq, mulz_eq, Nat.mul_one]; omega
      refine ar_nil ?_
      refine ag_reg ?_
      iterate 3 refine pA ?_
      refine ar_pure tOk rfl rfl rfl ?_ ?_
      · refine ⟨?_, ?_⟩ <;> first | omega | (intro q; rw [List.map_eq_nil_iff] at q; rw [q] at hv; simp at hv; done) | (refine ⟨?_, ?_⟩ <;> omega)
      refine ar_loadAs tOk (.r (.int .i64 v)) rfl rfl rfl rfl rfl rfl rfl (.inl ⟨rfl, by rw [mulz_eq, Int.toNat_natCast, Nat.mul_one]; simp [Body.cells, hv]⟩) ?_
      refine ar_pur (w_root 3 (.inr rfl) v hvb) rfl rfl rfl rfl rfl rfl rfl ?_
      refine ar_pure tOk rfl rfl rfl ?_ ?_
      · refine ⟨?_, ?_⟩ <;> omega
      refine ar_store tOk rfl rfl rfl ?_ ?_
      · simp only [fnL_length, u64L, addo_eq, mulz_eq, Nat.mul_one]; omega
      refine ar_nil ?_
      refine ag_inBlock ?_
      refine ag_reg ?_
      refine pA ?_
      refine ar_pure tOk rfl rfl rfl ?_ ?_
      · unfold inI64; omega
      refine pA ?_
      refine ar_nil ?_
      refine ag_ent (ent_weak (g' := (strRts_0  (i + 1)).1) (h' := (strRts_0  (i + 1)).2) [0, 1, 2, 3] rfl rfl rfl rfl ?_ ?_ rfl) ?_
      · exact ⟨⟨rfl, rfl⟩, ⟨rfl, rfl⟩, ⟨rfl, rfl⟩, ⟨rfl, rfl⟩, ⟨rfl, rfl⟩, ⟨rfl, by exact eqI (by omega)⟩, trivial⟩
      · exact ⟨⟨rfl, rfl, rfl⟩, ⟨rfl, rfl, rfl⟩, ⟨rfl, rfl, by refine eqPl ?_; simp only [addo_eq, mulz_eq, Nat.mul_one, Int.toNat_natCast, Nat.zero_add]; exact fnL_set (eq32 (by rw [rhF, if_pos (by omega), pF_at hv])) (fun j _ hne => eq32 (by simp only [rhF]; by_cases q : j < i; rw [if_pos q, if_pos (by omega)]; rw [if_neg q, if_neg (by omega)]))⟩, ⟨rfl, rfl, by refine eqPl ?_; simp only [addo_eq, mulz_eq, Nat.mul_one, Int.toNat_natCast, Nat.zero_add]; exact set64 (eq32 (by rw [rkF, if_pos (by omega), pF_at hv])) (fun j _ hne => by simp only [rkF]; by_cases q : j < i; rw [if_pos q, if_pos (by omega)]; rw [if_neg q, if_neg (by omega)])⟩, trivial⟩
      have hnx := hrec (i + 1)
      refine hnx ?_ ?_
      · show i + 1 ≤ 64; omega
      · show 64 - (i + 1) < 64 - i; omega
    · intro h12
      refine ag_skip ?_
      refine ag_reg ?_
      iterate 3 refine pA ?_
      refine ar_pure tOk rfl rfl rfl ?_ ?_
      · refine ⟨?_, ?_⟩ <;> first | omega | (intro q; rw [List.map_eq_nil_iff] at q; rw [q] at hv; simp at hv; done) | (refine ⟨?_, ?_⟩ <;> omega)
      refine ar_loadAs tOk (.r (.int .i64 v)) rfl rfl rfl rfl rfl rfl rfl (.inl ⟨rfl, by rw [mulz_eq, Int.toNat_natCast, Nat.mul_one]; simp [Body.cells, hv]⟩) ?_
      refine ar_pur (w_root 3 (.inr rfl) v hvb) rfl rfl rfl rfl rfl rfl rfl ?_
      refine ar_pure tOk rfl rfl rfl ?_ ?_
      · refine ⟨?_, ?_⟩ <;> omega
      refine ar_store tOk rfl rfl rfl ?_ ?_
      · simp only [fnL_length, u64L, addo_eq, mulz_eq, Nat.mul_one]; omega
      refine ar_nil ?_
      refine ag_inBlock ?_
      refine ag_reg ?_
      refine pA ?_
      refine ar_pure tOk rfl rfl rfl ?_ ?_
      · unfold inI64; omega
      refine pA ?_
      refine ar_nil ?_
      refine ag_ent (ent_weak (g' := (strRts_0  (i + 1)).1) (h' := (strRts_0  (i + 1)).2) [0, 1, 2, 3] rfl rfl rfl rfl ?_ ?_ rfl) ?_
      · exact ⟨⟨rfl, rfl⟩, ⟨rfl, rfl⟩, ⟨rfl, rfl⟩, ⟨rfl, rfl⟩, ⟨rfl, rfl⟩, ⟨rfl, by exact eqI (by omega)⟩, trivial⟩
      · exact ⟨⟨rfl, rfl, rfl⟩, ⟨rfl, rfl, rfl⟩, ⟨rfl, rfl, by refine eqPl ?_; exact fnL_congr fun j hj => by simp only [rhF]; rw [if_pos (by omega), if_pos (by omega)]⟩, ⟨rfl, rfl, by refine eqPl ?_; simp only [addo_eq, mulz_eq, Nat.mul_one, Int.toNat_natCast, Nat.zero_add]; exact set64 (eq32 (by rw [rkF, if_pos (by omega), pF_at hv])) (fun j _ hne => by simp only [rkF]; by_cases q : j < i; rw [if_pos q, if_pos (by omega)]; rw [if_neg q, if_neg (by omega)])⟩, trivial⟩
      have hnx := hrec (i + 1)
      refine hnx ?_ ?_
      · show i + 1 ≤ 64; omega
      · show 64 - (i + 1) < 64 - i; omega
  · intro h8
    obtain rfl : i = 64 := by omega
    refine ag_ent (ent_weak (g' := [(0, .ptr 0 0), (1, .ptr 1 0), (2, .ptr 2 0), (3, .ptr 3 0)]) (h' := ⟨4, [(0, some (.plain z8)), (1, some (.plain (u64L fun _ => 0))), (2, some (.plain (q0.cells))), (3, some (.plain (u64L keyF)))], false⟩) [0, 1, 2, 3] rfl rfl rfl rfl ?_ ?_ rfl) ?_
    · exact ⟨⟨rfl, rfl⟩, ⟨rfl, rfl⟩, ⟨rfl, rfl⟩, ⟨rfl, rfl⟩, trivial⟩
    · exact ⟨⟨rfl, rfl, rfl⟩, ⟨rfl, rfl, rfl⟩, ⟨rfl, rfl, eqPl rh_end⟩, ⟨rfl, rfl, eqPl rk_end⟩, trivial⟩
    refine ag_exit rfl ?_
    refine ag_seq ?_
    refine ag_draw (Hs := hsL [⟨4, [(0, some (.plain z8)), (1, some (.plain (u64L fun _ => 0))), (2, some (.plain (q0.cells))), (3, some (.plain (u64L keyF)))], false⟩, ⟨4, [(0, some (.plain q0.cells)), (0, some (.plain z8)), (1, some (.plain (u64L fun _ => 0))), (2, some (.plain q0.cells)), (3, some (.plain (u64L keyF)))], false⟩, ⟨4, [(1, some (.plain (u64L keyF))), (0, some (.plain q0.cells)), (0, some (.plain z8)), (1, some (.plain (u64L fun _ => 0))), (2, some (.plain q0.cells)), (3, some (.plain (u64L keyF)))], false⟩]) (K := 2) [] (by kernel_rfl) (by kernel_rfl) ?_
    refine aq_loadAs0 tOk q0.av rfl rfl rfl rfl rfl (by kernel_rfl) rfl rfl (.inr ⟨rfl, _, rfl, rfl, rfl⟩) ?_
    refine aq_loadAs1 tOk (a64 keyF) rfl rfl rfl rfl rfl rfl (by kernel_rfl) rfl rfl (.inr ⟨rfl, _, rfl, agg64, by simp [u64L, fnL]⟩) ?_
    refine aq_store tOk rfl (stepStore_arr (ys := q0.cells) rfl rfl rfl rfl rfl rfl rfl rfl rfl) rfl rfl rfl trivial ?_
    refine aq_store tOk rfl (stepStore_arr (ys := u64L keyF) rfl rfl rfl rfl rfl rfl (by simp [u64L, fnL]) (by simp [u64L, fnL]) rfl) rfl rfl rfl trivial ?_
    refine aq_nil rfl ?_
    refine ag_ret (v := .tuple [q0.av, a64 keyF]) (q := True ∧ True ∧ True) tOk Try.func20 (resultsA_arr2 (ys := q0.cells) (ys' := u64L keyF) rfl rfl rfl rfl rfl rfl rfl rfl rfl (by simp [u64L, fnL])) rfl (by simp) ?_
    rfl
end Go.Proofs.Ytopfpkmdkcjjlaa

