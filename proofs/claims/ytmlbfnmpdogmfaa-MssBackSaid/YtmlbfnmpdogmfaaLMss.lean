/-
  WALKS: the laws MssTells, MssVerifies, MssBack. (Printed by gen.py out of w_lmss.py.)
-/
import Derived.Test.YtmlbfnmpdogmfaaMVer
namespace Go.Proofs.Ytmlbfnmpdogmfaa
open Go
set_option maxRecDepth 20000
set_option linter.unusedVariables false
set_option linter.unusedSimpArgs false

/-- What signing tells. -/
def sgnT (seed : List UInt8) (n : Int) (text : List UInt8) : AVal :=
  if n < 0 ∨ 8 < n then .tuple [.r (.str []), keyA [] 0, .r (.int .i64 9)] else if n = 8 then .tuple [.r (.str []), keyA [] 0, .r (.int .i64 10)] else .tuple [.r (.str (sigL seed n.toNat text)), keyA seed (n + 1), .r (.int .i64 0)]
theorem w_mSignA (seed : List UInt8) (n : Int) (text : List UInt8) (hs : seed.length ≤ 140737488352000) (hb : text.length ≤ 140737488355000) : Pur Try.prog 30 [keyA seed n, .r (.bs text)] (sgnT seed n text) := by
  unfold sgnT
  split
  · rename_i h; exact w_mSignB seed n text h
  · split
    · rename_i h; subst h; exact w_mSignF seed text
    · obtain ⟨m, rfl⟩ : ∃ m : Nat, n = (m : Int) := ⟨n.toNat, by omega⟩
      exact w_mSign seed m text hs hb (by omega)

theorem w_alive05  : Pur Try.prog 25 [] (.r (.bool true)) := by
  obtain ⟨S, hSe⟩ : ∃ S, S = sigL [120] 0 [] := ⟨_, rfl⟩
  have hSl : S.length = 145 := by rw [hSe]; exact sigL_length [120] (by decide) []
  have hA : Pur Try.prog 30 [keyA [120] 8, .r .nil] (.tuple [.r (.str []), keyA [] 0, .r (.int .i64 10)]) := Spec.nils (w_mSignF [120] []) ⟨rfl, trivial, trivial⟩
  have hB : Pur Try.prog 30 [keyA [120] 0, .r .nil] (.tuple [.r (.str S), keyA [120] 1, .r (.int .i64 0)]) := by rw [hSe]; exact Spec.nils (w_mSign [120] 0 [] (by decide) (by decide) (by decide)) ⟨rfl, trivial, trivial⟩
  refine spec_of_go (N := 35) Try.func25 rfl (by decide) rfl rfl ?_
  refine ag_seq ?_
  refine ag_reg ?_
  refine ar_pure tOk rfl rfl rfl trivial ?_
  refine ar_nil ?_
  refine ag_seq ?_
  refine ag_reg ?_
  refine ar_pure tOk rfl rfl rfl ?_ ?_
  · simp
  refine ar_pur (hA) rfl rfl rfl rfl rfl rfl rfl ?_
  refine ar_pure tOk rfl rfl rfl trivial ?_
  refine ar_pure tOk rfl rfl rfl trivial ?_
  refine ar_pure tOk rfl rfl rfl trivial ?_
  refine ar_pure tOk rfl rfl rfl trivial ?_
  refine ar_new tOk rfl rfl rfl ?_ ?_
  · simp
  refine ar_pure tOk rfl rfl rfl trivial ?_
  refine ar_store tOk rfl rfl rfl trivial ?_
  refine ar_pure tOk rfl rfl rfl trivial ?_
  refine ar_nil ?_
  refine ag_seq ?_
  refine ag_reg ?_
  refine ar_pure tOk rfl rfl rfl ?_ ?_
  · simp
  refine ar_pur (hB) rfl rfl rfl rfl rfl rfl rfl ?_
  refine ar_pure tOk rfl rfl rfl trivial ?_
  refine ar_pure tOk rfl rfl rfl trivial ?_
  refine ar_pure tOk rfl rfl rfl trivial ?_
  refine ar_pure tOk rfl rfl rfl trivial ?_
  refine ar_new tOk rfl rfl rfl ?_ ?_
  · simp
  refine ar_pure tOk rfl rfl rfl trivial ?_
  refine ar_store tOk rfl rfl rfl trivial ?_
  refine ar_pure tOk rfl rfl rfl trivial ?_
  refine ar_nil ?_
  refine ag_seq ?_
  refine ag_reg ?_
  refine ar_pure tOk rfl rfl rfl trivial ?_
  refine ar_pure tOk rfl rfl rfl trivial ?_
  refine ar_pure tOk rfl rfl rfl trivial ?_
  refine ar_pure tOk rfl rfl rfl trivial ?_
  refine ar_pure tOk rfl rfl rfl trivial ?_
  refine ar_pure tOk rfl rfl rfl trivial ?_
  refine ar_pure tOk rfl rfl rfl trivial ?_
  refine ar_pure tOk rfl rfl rfl trivial ?_
  refine ar_pure tOk rfl rfl rfl trivial ?_
  refine ar_pure tOk rfl rfl rfl trivial ?_
  refine ar_ent (ent_reg 28 (.r (.bool true)) (by show AVal.r (.bool _) = _; exact eqB (by simp [hSl]))) ?_
  refine ar_pure tOk rfl rfl rfl trivial ?_
  refine ar_pure tOk rfl rfl rfl trivial ?_
  refine ar_pure tOk rfl rfl rfl trivial ?_
  refine ar_load tOk rfl rfl rfl trivial ?_
  refine ar_pure tOk rfl rfl rfl trivial ?_
  refine ar_pure tOk rfl rfl rfl trivial ?_
  refine ar_pure tOk rfl rfl rfl trivial ?_
  refine ar_nil ?_
  refine ag_ret tOk Try.func25 rfl rfl (by simp) ?_
  rfl

theorem nil_ro {P : Program} {n : FuncId} {xs : List AVal} (hs : Pur P n xs (.r .nil)) : Pur P n xs (.r (.ro 0 [])) := by
  refine ⟨hs.can, fun R μ w cargs h1 h2 => (hs.run R μ w cargs h1 h2).mono ?_⟩
  rintro e w' ⟨u, rfl, R', μ', av, h', h3, h4, rfl⟩
  refine ⟨u, rfl, R', μ', .r (.ro 0 []), h', ?_, h4, rfl⟩
  simp only [ARel, RRel] at h3 ⊢
  obtain ⟨ad, rfl⟩ := h3
  exact ⟨ad, 0, [], rfl, Nat.le_refl _, .inl rfl, by simp [RRels]⟩
def pthA (seed : List UInt8) (leaf : Int) : List (List UInt8) := if leaf < 0 ∨ 8 ≤ leaf then [] else pthL seed leaf.toNat 3
theorem pthA_len (seed : List UInt8) (leaf : Int) : (pthA seed leaf).length ≤ 3 := by
  unfold pthA; split
  · simp
  · rw [pthL_length]; omega
theorem w_PathA (seed : List UInt8) (leaf : Int) (hs : seed.length ≤ 140737488352000) : Pur Try.prog 28 [.r (.str seed), .r (.int .i64 leaf)] (roS (pthA seed leaf)) := by
  unfold pthA; split
  · rename_i h; exact nil_ro (w_PathOut seed leaf h)
  · rename_i h
    obtain ⟨m, rfl⟩ : ∃ m : Nat, leaf = (m : Int) := ⟨leaf.toNat, by omega⟩
    exact w_PathR seed hs m (by omega)
theorem w_rPathA (seed : List UInt8) (leaf : Int) (hs : seed.length ≤ 140737488352000) : Pur Try.prog 29 [.r (.str seed), .r (.int .i64 leaf)] (roS (pthA seed leaf)) := by
  unfold pthA; split
  · rename_i h; exact nil_ro (w_rPathOut seed leaf h)
  · rename_i h
    obtain ⟨m, rfl⟩ : ∃ m : Nat, leaf = (m : Int) := ⟨leaf.toNat, by omega⟩
    exact w_rPathR seed hs m (by omega)

theorem w_TellsB (seed : List UInt8) (leaf : Int) (text : List UInt8) (hs : seed.length ≤ 140737488352000) (hb : text.length ≤ 140737488355000) (n : Int) (h : n < 0 ∨ 8 < n) : Pur Try.prog 7 [keyA seed n, .r (.int .i64 leaf), .r (.bs text)] (.r (.bool true)) := by
  obtain ⟨RT, hRT⟩ : ∃ r, r = rootL seed := ⟨_, rfl⟩
  have hr1 := w_Root seed hs
  have hr2 := w_rRoot seed hs
  rw [← hRT] at hr1 hr2
  obtain ⟨PT, hPT⟩ : ∃ r, r = pthA seed leaf := ⟨_, rfl⟩
  have hp1 := w_PathA seed leaf hs
  have hp2 := w_rPathA seed leaf hs
  have hpl := pthA_len seed leaf
  rw [← hPT] at hp1 hp2 hpl
  clear hRT hPT
  refine spec_of_go (N := 95) Try.func7 rfl (by decide) rfl rfl ?_
  refine ag_seq ?_
  refine ag_reg ?_
  refine ar_new tOk rfl rfl rfl trivial ?_
  refine ar_pure tOk rfl rfl rfl trivial ?_
  refine ar_nil ?_
  refine ag_seq ?_
  refine ag_seq ?_
  refine ag_reg ?_
  refine ar_pur (w_alive05) rfl rfl rfl rfl rfl rfl rfl ?_
  refine ar_pure tOk rfl rfl rfl trivial ?_
  refine ar_nil ?_
  refine ag_false rfl (rfl) ?_
  refine ag_skip ?_
  refine ag_seq ?_
  refine ag_seq ?_
  refine ag_draw0 (by kernel_rfl) (by kernel_rfl) ?_
  refine aq_pure tOk rfl rfl rfl trivial ?_
  refine aq_load0 tOk rfl (by kernel_rfl) rfl rfl trivial ?_
  refine aq_pur (hr1) rfl rfl rfl rfl rfl rfl rfl ?_
  refine aq_pure tOk rfl rfl rfl trivial ?_
  refine aq_load0 tOk rfl (by kernel_rfl) rfl rfl trivial ?_
  refine aq_pur (hr2) rfl rfl rfl rfl rfl rfl rfl ?_
  refine aq_pure tOk rfl rfl rfl trivial ?_
  refine aq_pure tOk rfl rfl rfl trivial ?_
  refine aq_pure tOk rfl rfl (by simp) trivial ?_
  refine aq_load0 tOk rfl (by kernel_rfl) rfl (by simp) trivial ?_
  refine aq_pure tOk rfl rfl (by simp) trivial ?_
  refine aq_pur (hp1) rfl rfl rfl rfl rfl rfl (by simp) ?_
  refine aq_pure tOk rfl rfl (by simp) trivial ?_
  refine aq_load0 tOk rfl (by kernel_rfl) rfl (by simp) trivial ?_
  refine aq_pure tOk rfl rfl (by simp) trivial ?_
  refine aq_pur (hp2) rfl rfl rfl rfl rfl rfl (by simp) ?_
  refine aq_pur (w_Texts PT PT (by omega)) rfl rfl rfl rfl rfl rfl (by simp) ?_
  refine aq_pure tOk rfl rfl (by simp) trivial ?_
  refine aq_pure tOk rfl rfl rfl trivial ?_
  refine aq_nil rfl ?_
  refine ag_false rfl (by simp) ?_
  refine ag_skip ?_
  refine ag_seq ?_
  refine ag_reg ?_
  refine ar_load tOk rfl rfl rfl trivial ?_
  refine ar_pure tOk rfl rfl rfl trivial ?_
  refine ar_pur (w_mSignB seed n text h) rfl rfl rfl rfl rfl rfl rfl ?_
  refine ar_pure tOk rfl rfl rfl trivial ?_
  refine ar_pure tOk rfl rfl rfl trivial ?_
  refine ar_pure tOk rfl rfl rfl trivial ?_
  refine ar_pure tOk rfl rfl rfl trivial ?_
  refine ar_new tOk rfl rfl rfl ?_ ?_
  · simp
  refine ar_pure tOk rfl rfl rfl trivial ?_
  refine ar_store tOk rfl rfl rfl trivial ?_
  refine ar_pure tOk rfl rfl rfl trivial ?_
  refine ar_nil ?_
  refine ag_seq ?_
  refine ag_block ?_
  refine ag_seq ?_
  refine ag_reg ?_
  refine ar_pure tOk rfl rfl rfl trivial ?_
  refine ar_load tOk rfl rfl rfl trivial ?_
  refine ar_pure tOk rfl rfl rfl trivial ?_
  refine ar_pure tOk rfl rfl rfl trivial ?_
  refine ar_guard (t := decide (n < 0)) (fun ht => ?_) (fun ht => ?_)
  · refine ar_ent (ent_reg 42 (.r (.bool true)) (by show AVal.r (.bool _) = _; rw [ht])) ?_
    refine ar_skip rfl rfl rfl ?_
    refine ar_skip rfl rfl rfl ?_
    refine ar_skip rfl rfl rfl ?_
    refine ar_pure tOk rfl rfl rfl trivial ?_
    refine ar_pure tOk rfl rfl rfl trivial ?_
    refine ar_nil ?_
    refine ag_true rfl (by rfl) ?_
    refine ag_seq ?_
    refine ag_reg ?_
    refine ar_pure tOk rfl rfl rfl trivial ?_
    refine ar_pure tOk rfl rfl rfl trivial ?_
    refine ar_pure tOk rfl rfl rfl trivial ?_
    refine ar_pure tOk rfl rfl rfl trivial ?_
    refine ar_pure tOk rfl rfl rfl trivial ?_
    refine ar_pure tOk rfl rfl rfl trivial ?_
    refine ar_pure tOk rfl rfl rfl trivial ?_
    refine ar_load tOk rfl rfl rfl trivial ?_
    refine ar_pure tOk rfl rfl rfl ?_ ?_
    · simp
    refine ar_pure tOk rfl rfl rfl trivial ?_
    refine ar_pure tOk rfl rfl rfl trivial ?_
    refine ar_pure tOk rfl rfl rfl trivial ?_
    refine ar_nil ?_
    refine ag_ret tOk Try.func7 rfl rfl (by simp) ?_
    rfl
  · refine ar_ent (ent_reg 42 (.r (.bool false)) (by show AVal.r (.bool _) = _; rw [ht])) ?_
    refine ar_pure tOk rfl rfl rfl trivial ?_
    refine ar_load tOk rfl rfl rfl trivial ?_
    refine ar_pure tOk rfl rfl rfl trivial ?_
    refine ar_pure tOk rfl rfl rfl trivial ?_
    refine ar_pure tOk rfl rfl rfl trivial ?_
    refine ar_nil ?_
    refine ag_true rfl (by have := of_decide_eq_false ht; simp; omega) ?_
    refine ag_seq ?_
    refine ag_reg ?_
    refine ar_pure tOk rfl rfl rfl trivial ?_
    refine ar_pure tOk rfl rfl rfl trivial ?_
    refine ar_pure tOk rfl rfl rfl trivial ?_
    refine ar_pure tOk rfl rfl rfl trivial ?_
    refine ar_pure tOk rfl rfl rfl trivial ?_
    refine ar_pure tOk rfl rfl rfl trivial ?_
    refine ar_pure tOk rfl rfl rfl trivial ?_
    refine ar_load tOk rfl rfl rfl trivial ?_
    refine ar_pure tOk rfl rfl rfl ?_ ?_
    · simp
    refine ar_pure tOk rfl rfl rfl trivial ?_
    refine ar_pure tOk rfl rfl rfl trivial ?_
    refine ar_pure tOk rfl rfl rfl trivial ?_
    refine ar_nil ?_
    refine ag_ret tOk Try.func7 rfl rfl (by simp) ?_
    rfl

theorem w_TellsF (seed : List UInt8) (leaf : Int) (text : List UInt8) (hs : seed.length ≤ 140737488352000) (hb : text.length ≤ 140737488355000)  : Pur Try.prog 7 [keyA seed 8, .r (.int .i64 leaf), .r (.bs text)] (.r (.bool true)) := by
  obtain ⟨RT, hRT⟩ : ∃ r, r = rootL seed := ⟨_, rfl⟩
  have hr1 := w_Root seed hs
  have hr2 := w_rRoot seed hs
  rw [← hRT] at hr1 hr2
  obtain ⟨PT, hPT⟩ : ∃ r, r = pthA seed leaf := ⟨_, rfl⟩
  have hp1 := w_PathA seed leaf hs
  have hp2 := w_rPathA seed leaf hs
  have hpl := pthA_len seed leaf
  rw [← hPT] at hp1 hp2 hpl
  clear hRT hPT
  refine spec_of_go (N := 95) Try.func7 rfl (by decide) rfl rfl ?_
  refine ag_seq ?_
  refine ag_reg ?_
  refine ar_new tOk rfl rfl rfl trivial ?_
  refine ar_pure tOk rfl rfl rfl trivial ?_
  refine ar_nil ?_
  refine ag_seq ?_
  refine ag_seq ?_
  refine ag_reg ?_
  refine ar_pur (w_alive05) rfl rfl rfl rfl rfl rfl rfl ?_
  refine ar_pure tOk rfl rfl rfl trivial ?_
  refine ar_nil ?_
  refine ag_false rfl (rfl) ?_
  refine ag_skip ?_
  refine ag_seq ?_
  refine ag_seq ?_
  refine ag_draw0 (by kernel_rfl) (by kernel_rfl) ?_
  refine aq_pure tOk rfl rfl rfl trivial ?_
  refine aq_load0 tOk rfl (by kernel_rfl) rfl rfl trivial ?_
  refine aq_pur (hr1) rfl rfl rfl rfl rfl rfl rfl ?_
  refine aq_pure tOk rfl rfl rfl trivial ?_
  refine aq_load0 tOk rfl (by kernel_rfl) rfl rfl trivial ?_
  refine aq_pur (hr2) rfl rfl rfl rfl rfl rfl rfl ?_
  refine aq_pure tOk rfl rfl rfl trivial ?_
  refine aq_pure tOk rfl rfl rfl trivial ?_
  refine aq_pure tOk rfl rfl (by simp) trivial ?_
  refine aq_load0 tOk rfl (by kernel_rfl) rfl (by simp) trivial ?_
  refine aq_pure tOk rfl rfl (by simp) trivial ?_
  refine aq_pur (hp1) rfl rfl rfl rfl rfl rfl (by simp) ?_
  refine aq_pure tOk rfl rfl (by simp) trivial ?_
  refine aq_load0 tOk rfl (by kernel_rfl) rfl (by simp) trivial ?_
  refine aq_pure tOk rfl rfl (by simp) trivial ?_
  refine aq_pur (hp2) rfl rfl rfl rfl rfl rfl (by simp) ?_
  refine aq_pur (w_Texts PT PT (by omega)) rfl rfl rfl rfl rfl rfl (by simp) ?_
  refine aq_pure tOk rfl rfl (by simp) trivial ?_
  refine aq_pure tOk rfl rfl rfl trivial ?_
  refine aq_nil rfl ?_
  refine ag_false rfl (by simp) ?_
  refine ag_skip ?_
  refine ag_seq ?_
  refine ag_reg ?_
  refine ar_load tOk rfl rfl rfl trivial ?_
  refine ar_pure tOk rfl rfl rfl trivial ?_
  refine ar_pur (w_mSignF seed text) rfl rfl rfl rfl rfl rfl rfl ?_
  refine ar_pure tOk rfl rfl rfl trivial ?_
  refine ar_pure tOk rfl rfl rfl trivial ?_
  refine ar_pure tOk rfl rfl rfl trivial ?_
  refine ar_pure tOk rfl rfl rfl trivial ?_
  refine ar_new tOk rfl rfl rfl ?_ ?_
  · simp
  refine ar_pure tOk rfl rfl rfl trivial ?_
  refine ar_store tOk rfl rfl rfl trivial ?_
  refine ar_pure tOk rfl rfl rfl trivial ?_
  refine ar_nil ?_
  refine ag_seq ?_
  refine ag_block ?_
  refine ag_seq ?_
  refine ag_reg ?_
  refine ar_pure tOk rfl rfl rfl trivial ?_
  refine ar_load tOk rfl rfl rfl trivial ?_
  refine ar_pure tOk rfl rfl rfl trivial ?_
  refine ar_pure tOk rfl rfl rfl trivial ?_
  refine ar_pure tOk rfl rfl rfl trivial ?_
  refine ar_load tOk rfl rfl rfl trivial ?_
  refine ar_pure tOk rfl rfl rfl trivial ?_
  refine ar_pure tOk rfl rfl rfl trivial ?_
  refine ar_pure tOk rfl rfl rfl trivial ?_
  refine ar_nil ?_
  refine ag_false rfl (by decide) ?_
  refine ag_seq ?_
  refine ag_reg ?_
  refine ar_pure tOk rfl rfl rfl trivial ?_
  refine ar_load tOk rfl rfl rfl trivial ?_
  refine ar_pure tOk rfl rfl rfl trivial ?_
  refine ar_pure tOk rfl rfl rfl trivial ?_
  refine ar_nil ?_
  refine ag_true rfl (by decide) ?_
  refine ag_seq ?_
  refine ag_reg ?_
  refine ar_pure tOk rfl rfl rfl trivial ?_
  refine ar_pure tOk rfl rfl rfl trivial ?_
  refine ar_pure tOk rfl rfl rfl trivial ?_
  refine ar_pure tOk rfl rfl rfl trivial ?_
  refine ar_pure tOk rfl rfl rfl trivial ?_
  refine ar_pure tOk rfl rfl rfl trivial ?_
  refine ar_pure tOk rfl rfl rfl trivial ?_
  refine ar_load tOk rfl rfl rfl trivial ?_
  refine ar_pure tOk rfl rfl rfl ?_ ?_
  · simp
  refine ar_pure tOk rfl rfl rfl trivial ?_
  refine ar_pure tOk rfl rfl rfl trivial ?_
  refine ar_pure tOk rfl rfl rfl trivial ?_
  refine ar_nil ?_
  refine ag_ret tOk Try.func7 rfl rfl (by simp) ?_
  rfl

theorem w_TellsG (seed : List UInt8) (leaf : Int) (text : List UInt8) (hs : seed.length ≤ 140737488352000) (hb : text.length ≤ 140737488355000) (n : Nat) (hn : n < 8) : Pur Try.prog 7 [keyA seed (n : Int), .r (.int .i64 leaf), .r (.bs text)] (.r (.bool true)) := by
  obtain ⟨RT, hRT⟩ : ∃ r, r = rootL seed := ⟨_, rfl⟩
  have hr1 := w_Root seed hs
  have hr2 := w_rRoot seed hs
  rw [← hRT] at hr1 hr2
  obtain ⟨PT, hPT⟩ : ∃ r, r = pthA seed leaf := ⟨_, rfl⟩
  have hp1 := w_PathA seed leaf hs
  have hp2 := w_rPathA seed leaf hs
  have hpl := pthA_len seed leaf
  rw [← hPT] at hp1 hp2 hpl
  clear hRT hPT
  have hSg := w_mSign seed n text hs hb hn
  have hSr := w_rSig seed n text hs hb hn
  generalize sigL seed n text = S at hSg hSr
  refine spec_of_go (N := 95) Try.func7 rfl (by decide) rfl rfl ?_
  refine ag_seq ?_
  refine ag_reg ?_
  refine ar_new tOk rfl rfl rfl trivial ?_
  refine ar_pure tOk rfl rfl rfl trivial ?_
  refine ar_nil ?_
  refine ag_seq ?_
  refine ag_seq ?_
  refine ag_reg ?_
  refine ar_pur (w_alive05) rfl rfl rfl rfl rfl rfl rfl ?_
  refine ar_pure tOk rfl rfl rfl trivial ?_
  refine ar_nil ?_
  refine ag_false rfl (rfl) ?_
  refine ag_skip ?_
  refine ag_seq ?_
  refine ag_seq ?_
  refine ag_draw0 (by kernel_rfl) (by kernel_rfl) ?_
  refine aq_pure tOk rfl rfl rfl trivial ?_
  refine aq_load0 tOk rfl (by kernel_rfl) rfl rfl trivial ?_
  refine aq_pur (hr1) rfl rfl rfl rfl rfl rfl rfl ?_
  refine aq_pure tOk rfl rfl rfl trivial ?_
  refine aq_load0 tOk rfl (by kernel_rfl) rfl rfl trivial ?_
  refine aq_pur (hr2) rfl rfl rfl rfl rfl rfl rfl ?_
  refine aq_pure tOk rfl rfl rfl trivial ?_
  refine aq_pure tOk rfl rfl rfl trivial ?_
  refine aq_pure tOk rfl rfl (by simp) trivial ?_
  refine aq_load0 tOk rfl (by kernel_rfl) rfl (by simp) trivial ?_
  refine aq_pure tOk rfl rfl (by simp) trivial ?_
  refine aq_pur (hp1) rfl rfl rfl rfl rfl rfl (by simp) ?_
  refine aq_pure tOk rfl rfl (by simp) trivial ?_
  refine aq_load0 tOk rfl (by kernel_rfl) rfl (by simp) trivial ?_
  refine aq_pure tOk rfl rfl (by simp) trivial ?_
  refine aq_pur (hp2) rfl rfl rfl rfl rfl rfl (by simp) ?_
  refine aq_pur (w_Texts PT PT (by omega)) rfl rfl rfl rfl rfl rfl (by simp) ?_
  refine aq_pure tOk rfl rfl (by simp) trivial ?_
  refine aq_pure tOk rfl rfl rfl trivial ?_
  refine aq_nil rfl ?_
  refine ag_false rfl (by simp) ?_
  refine ag_skip ?_
  refine ag_seq ?_
  refine ag_reg ?_
  refine ar_load tOk rfl rfl rfl trivial ?_
  refine ar_pure tOk rfl rfl rfl trivial ?_
  refine ar_pur (hSg) rfl rfl rfl rfl rfl rfl rfl ?_
  refine ar_pure tOk rfl rfl rfl trivial ?_
  refine ar_pure tOk rfl rfl rfl trivial ?_
  refine ar_pure tOk rfl rfl rfl trivial ?_
  refine ar_pure tOk rfl rfl rfl trivial ?_
  refine ar_new tOk rfl rfl rfl ?_ ?_
  · simp
  refine ar_pure tOk rfl rfl rfl trivial ?_
  refine ar_store tOk rfl rfl rfl trivial ?_
  refine ar_pure tOk rfl rfl rfl trivial ?_
  refine ar_nil ?_
  refine ag_seq ?_
  refine ag_block ?_
  refine ag_seq ?_
  refine ag_reg ?_
  refine ar_pure tOk rfl rfl rfl trivial ?_
  refine ar_load tOk rfl rfl rfl trivial ?_
  refine ar_pure tOk rfl rfl rfl trivial ?_
  refine ar_pure tOk rfl rfl rfl trivial ?_
  refine ar_ent (ent_reg 42 (.r (.bool false)) (by show AVal.r (.bool _) = _; exact eqB (decide_eq_false (by omega)))) ?_
  refine ar_pure tOk rfl rfl rfl trivial ?_
  refine ar_load tOk rfl rfl rfl trivial ?_
  refine ar_pure tOk rfl rfl rfl trivial ?_
  refine ar_ent (ent_reg 45 (.r (.bool false)) (by show AVal.r (.bool _) = _; exact eqB (decide_eq_false (by omega)))) ?_
  refine ar_pure tOk rfl rfl rfl trivial ?_
  refine ar_pure tOk rfl rfl rfl trivial ?_
  refine ar_nil ?_
  refine ag_false rfl (rfl) ?_
  refine ag_seq ?_
  refine ag_reg ?_
  refine ar_pure tOk rfl rfl rfl trivial ?_
  refine ar_load tOk rfl rfl rfl trivial ?_
  refine ar_pure tOk rfl rfl rfl trivial ?_
  refine ar_pure tOk rfl rfl rfl trivial ?_
  refine ar_nil ?_
  refine ag_false rfl (by simp; omega) ?_
  refine ag_skip ?_
  refine ag_inBlock ?_
  refine ag_seq ?_
  refine ag_reg ?_
  refine ar_pure tOk rfl rfl rfl trivial ?_
  refine ar_pure tOk rfl rfl rfl trivial ?_
  refine ar_pure tOk rfl rfl rfl trivial ?_
  refine ar_pure tOk rfl rfl rfl trivial ?_
  refine ar_pure tOk rfl rfl rfl trivial ?_
  refine ar_load tOk rfl rfl rfl trivial ?_
  refine ar_pure tOk rfl rfl rfl trivial ?_
  refine ar_load tOk rfl rfl rfl trivial ?_
  refine ar_pure tOk rfl rfl rfl trivial ?_
  refine ar_pur (hSr) rfl rfl rfl rfl rfl rfl rfl ?_
  refine ar_pure tOk rfl rfl rfl trivial ?_
  refine ar_ent (ent_reg 83 (.r (.bool true)) (by show AVal.r (.bool _) = _; exact eqB (by simp))) ?_
  refine ar_pure tOk rfl rfl rfl trivial ?_
  refine ar_pure tOk rfl rfl rfl trivial ?_
  refine ar_load tOk rfl rfl rfl trivial ?_
  refine ar_pure tOk rfl rfl rfl trivial ?_
  refine ar_load tOk rfl rfl rfl trivial ?_
  refine ar_pure tOk rfl rfl rfl trivial ?_
  refine ar_load tOk rfl rfl rfl trivial ?_
  refine ar_pure tOk rfl rfl rfl ?_ ?_
  · unfold inI64; omega
  refine ar_pure tOk rfl rfl rfl ?_ ?_
  · simp
  refine ar_pure tOk rfl rfl rfl trivial ?_
  refine ar_ent (ent_reg 93 (.r (.bool true)) (by show AVal.r (.bool _) = _; exact eqB (by simp))) ?_
  refine ar_pure tOk rfl rfl rfl trivial ?_
  refine ar_pure tOk rfl rfl rfl trivial ?_
  refine ar_nil ?_
  refine ag_ret tOk Try.func7 rfl rfl (by simp) ?_
  rfl

theorem w_MssTells (seed : List UInt8) (n leaf : Int) (text : List UInt8) (hs : seed.length ≤ 140737488352000) (hb : text.length ≤ 140737488355000) : Pur Try.prog 7 [keyA seed n, .r (.int .i64 leaf), .r (.bs text)] (.r (.bool true)) := by
  by_cases h : n < 0 ∨ 8 < n
  · exact w_TellsB seed leaf text hs hb n h
  · by_cases h8 : n = 8
    · subst h8; exact w_TellsF seed leaf text hs hb
    · obtain ⟨m, rfl⟩ : ∃ m : Nat, n = (m : Int) := ⟨n.toNat, by omega⟩
      exact w_TellsG seed leaf text hs hb m (by omega)

theorem w_VerifiesP (root text sig : List UInt8) (a : Int) (t : Bool) (hV : Pur Try.prog 32 [.r (.str root), .r (.bs text), .r (.str sig)] (.tuple [.r (.int .i64 a), .r (.bool t)])) (hR : Pur Try.prog 33 [.r (.str root), .r (.bs text), .r (.str sig)] (.tuple [.r (.int .i64 a), .r (.bool t)])) : Pur Try.prog 8 [.r (.str root), .r (.bs text), .r (.str sig)] (.r (.bool true)) := by
  refine spec_of_go (N := 49) Try.func8 rfl (by decide) rfl rfl ?_
  refine ag_seq ?_
  refine ag_reg ?_
  refine ar_pure tOk rfl rfl rfl trivial ?_
  refine ar_nil ?_
  refine ag_seq ?_
  refine ag_reg ?_
  refine ar_pure tOk rfl rfl rfl trivial ?_
  refine ar_pure tOk rfl rfl rfl trivial ?_
  refine ar_pure tOk rfl rfl rfl trivial ?_
  refine ar_pur (hV) rfl rfl rfl rfl rfl rfl rfl ?_
  refine ar_pure tOk rfl rfl rfl trivial ?_
  refine ar_pure tOk rfl rfl rfl trivial ?_
  refine ar_pure tOk rfl rfl rfl trivial ?_
  refine ar_pure tOk rfl rfl rfl trivial ?_
  refine ar_pure tOk rfl rfl rfl trivial ?_
  refine ar_nil ?_
  refine ag_seq ?_
  refine ag_reg ?_
  refine ar_pure tOk rfl rfl rfl trivial ?_
  refine ar_pure tOk rfl rfl rfl trivial ?_
  refine ar_pure tOk rfl rfl rfl trivial ?_
  refine ar_pur (hR) rfl rfl rfl rfl rfl rfl rfl ?_
  refine ar_pure tOk rfl rfl rfl trivial ?_
  refine ar_pure tOk rfl rfl rfl trivial ?_
  refine ar_pure tOk rfl rfl rfl trivial ?_
  refine ar_pure tOk rfl rfl rfl trivial ?_
  refine ar_pure tOk rfl rfl rfl trivial ?_
  refine ar_nil ?_
  refine ag_seq ?_
  refine ag_reg ?_
  refine ar_pure tOk rfl rfl rfl trivial ?_
  refine ar_nil ?_
  refine ag_seq ?_
  refine ag_seq ?_
  refine ag_reg ?_
  refine ar_pure tOk rfl rfl rfl trivial ?_
  refine ar_pure tOk rfl rfl rfl trivial ?_
  refine ar_pure tOk rfl rfl rfl trivial ?_
  refine ar_nil ?_
  refine ag_if rfl ?_ ?_
  · intro h28
    obtain ⟨c, b, hcb⟩ : ∃ c b, sig = c :: b := by cases sig with
      | nil => simp at h28
      | cons c b => exact ⟨c, b, rfl⟩
    have hlf : leafN sig = (c.toNat : Int) := by rw [hcb]; rfl
    have hu := u8_lt c
    have hget : sig.getD 0 0 = c := by rw [hcb]; rfl
    refine ag_reg ?_
    refine ar_pure tOk rfl rfl rfl trivial ?_
    refine ar_pure tOk rfl rfl rfl ?_ ?_
    · exact ⟨by decide, by omega⟩
    refine ar_pure tOk rfl rfl rfl ?_ ?_
    · show inI64 (((sig.getD 0 0).toNat : Nat) : Int)
      rw [hget]; unfold inI64; omega
    refine ar_pure tOk rfl rfl rfl trivial ?_
    refine ar_nil ?_
    refine ag_seq ?_
    refine ag_reg ?_
    refine ar_pure tOk rfl rfl rfl trivial ?_
    refine ar_pure tOk rfl rfl rfl trivial ?_
    refine ar_pure tOk rfl rfl rfl trivial ?_
    refine ar_ent (ent_reg 34 (.r (.bool true)) (by show AVal.r (.bool _) = _; exact eqB (by simp))) ?_
    refine ar_pure tOk rfl rfl rfl trivial ?_
    refine ar_pure tOk rfl rfl rfl trivial ?_
    refine ar_pure tOk rfl rfl rfl trivial ?_
    refine ar_pure tOk rfl rfl rfl trivial ?_
    refine ar_ent (ent_reg 38 (.r (.bool true)) (by show AVal.r (.bool _) = _; exact eqB (by simp))) ?_
    refine ar_pure tOk rfl rfl rfl trivial ?_
    refine ar_pure tOk rfl rfl rfl trivial ?_
    refine ar_pure tOk rfl rfl rfl trivial ?_
    refine ar_pur (w_Leaf sig) rfl rfl rfl rfl rfl rfl rfl ?_
    refine ar_pure tOk rfl rfl rfl trivial ?_
    refine ar_pure tOk rfl rfl rfl trivial ?_
    refine ar_ent (ent_reg 44 (.r (.bool true)) (by show AVal.r (.bool _) = _; exact eqB (by rw [hlf]; show decide ((c.toNat : Int) = ((sig.getD 0 0).toNat : Int)) = true; rw [hget]; simp))) ?_
    refine ar_pure tOk rfl rfl rfl trivial ?_
    refine ar_pure tOk rfl rfl rfl trivial ?_
    refine ar_pur (w_alive05) rfl rfl rfl rfl rfl rfl rfl ?_
    refine ar_pure tOk rfl rfl rfl trivial ?_
    refine ar_pure tOk rfl rfl rfl trivial ?_
    refine ar_nil ?_
    refine ag_ret tOk Try.func8 rfl rfl (by simp) ?_
    rfl
  · intro h28
    have h0 : sig = [] := by cases sig with
      | nil => rfl
      | cons c b => exact absurd (by simp only [List.length_cons]; omega) h28
    have hlf : leafN sig = -1 := by rw [h0]; rfl
    refine ag_skip ?_
    refine ag_seq ?_
    refine ag_reg ?_
    refine ar_pure tOk rfl rfl rfl trivial ?_
    refine ar_pure tOk rfl rfl rfl trivial ?_
    refine ar_pure tOk rfl rfl rfl trivial ?_
    refine ar_ent (ent_reg 34 (.r (.bool true)) (by show AVal.r (.bool _) = _; exact eqB (by simp))) ?_
    refine ar_pure tOk rfl rfl rfl trivial ?_
    refine ar_pure tOk rfl rfl rfl trivial ?_
    refine ar_pure tOk rfl rfl rfl trivial ?_
    refine ar_pure tOk rfl rfl rfl trivial ?_
    refine ar_ent (ent_reg 38 (.r (.bool true)) (by show AVal.r (.bool _) = _; exact eqB (by simp))) ?_
    refine ar_pure tOk rfl rfl rfl trivial ?_
    refine ar_pure tOk rfl rfl rfl trivial ?_
    refine ar_pure tOk rfl rfl rfl trivial ?_
    refine ar_pur (w_Leaf sig) rfl rfl rfl rfl rfl rfl rfl ?_
    refine ar_pure tOk rfl rfl rfl trivial ?_
    refine ar_pure tOk rfl rfl rfl trivial ?_
    refine ar_ent (ent_reg 44 (.r (.bool true)) (by show AVal.r (.bool _) = _; exact eqB (by rw [hlf]; simp))) ?_
    refine ar_pure tOk rfl rfl rfl trivial ?_
    refine ar_pure tOk rfl rfl rfl trivial ?_
    refine ar_pur (w_alive05) rfl rfl rfl rfl rfl rfl rfl ?_
    refine ar_pure tOk rfl rfl rfl trivial ?_
    refine ar_pure tOk rfl rfl rfl trivial ?_
    refine ar_nil ?_
    refine ag_ret tOk Try.func8 rfl rfl (by simp) ?_
    rfl

theorem w_MssVerifies (root text sig : List UInt8) (hb : text.length ≤ 140737488355000) (hsg : sig.length ≤ 9223372036854775807) : Pur Try.prog 8 [.r (.str root), .r (.bs text), .r (.str sig)] (.r (.bool true)) := by
  have h1 := w_Verify root text sig hb hsg
  have h2 := w_rVerify root text sig hb hsg
  unfold vres at h1 h2
  by_cases h : vok root text sig
  · rw [if_pos h] at h1 h2; exact w_VerifiesP root text sig _ _ h1 h2
  · rw [if_neg h] at h1 h2; exact w_VerifiesP root text sig _ _ h1 h2
theorem pcs_flat : ∀ (A : List (List UInt8)), (∀ p ∈ A, p.length = 8) → pcs A.flatten A.length = A
  | [], _ => rfl
  | a :: A, h => by
    have ha := h a (by simp)
    have ih := pcs_flat A (fun p hp => h p (by simp [hp]))
    rw [pcs, List.length_cons, List.range_succ_eq_map, List.map_cons, List.map_map, List.flatten_cons, Nat.mul_zero, List.drop_zero, List.take_append_of_le_length (by omega), List.take_of_length_le (by omega)]
    congr 1
    rw [pcs] at ih
    refine Eq.trans (List.map_congr_left (fun i _ => ?_)) ih
    simp only [Function.comp]
    rw [show 8 * (i + 1) = a.length + 8 * i by omega, ← List.drop_drop, List.drop_left]
theorem lev_step (seed : List UInt8) {k q : Nat} (h : q < 8 / 2 ^ k) (he : 2 ∣ 8 / 2 ^ k) : (lev seed (k + 1)).getD (q / 2) [] = if q % 2 = 0 then nod ((lev seed k).getD q []) ((lev seed k).getD (sibN q) []) else nod ((lev seed k).getD (sibN q) []) ((lev seed k).getD q []) := by
  obtain ⟨m, hm⟩ := he
  have h1 := lev_get seed (k := k) (j := 2 * (q / 2)) (by omega)
  have h2 := lev_get seed (k := k) (j := 2 * (q / 2) + 1) (by omega)
  rw [show lev seed (k + 1) = abv (lev seed k) from rfl, getDI (abv_get h1 h2)]
  by_cases e : q % 2 = 0
  · rw [if_pos e, sibN, if_pos e, show 2 * (q / 2) = q by omega]
  · rw [if_neg e, sibN, if_neg e, show 2 * (q / 2) = q - 1 by omega, show q - 1 + 1 = q by omega]
theorem clm_path (seed : List UInt8) {n : Nat} (hn : n < 8) : clm (pubL seed (n : Int)) n (pthL seed n 3) = rootL seed := by
  have e0 : pubL seed (n : Int) = (lev seed 0).getD n [] := by
    have := lev_row seed 0 n (by simpa using hn)
    rw [this, rowT]; simp
  have s0 := lev_step seed (k := 0) (q := n) (by simpa using hn) (by decide)
  have s1 := lev_step seed (k := 1) (q := n / 2) (by omega) (by decide)
  have s2 := lev_step seed (k := 2) (q := n / 2 / 2) (by omega) (by decide)
  have p : pthL seed n 3 = [(lev seed 0).getD (sibN n) [], (lev seed 1).getD (sibN (n / 2)) [], (lev seed 2).getD (sibN (n / 2 / 2)) []] := by
    simp [pthL, pthE, pat, qn, List.range_succ, Nat.div_div_eq_div_mul]
  rw [p, e0]
  simp only [clm]
  rw [← s0, ← s1, ← s2, show n / 2 / 2 / 2 = 0 by omega]
  rfl
theorem vres_sig (seed : List UInt8) {n : Nat} (hn : n < 8) (text : List UInt8) : vres (rootL seed) text (sigL seed n text) = .tuple [.r (.int .i64 (n : Int)), .r (.bool true)] := by
  have hl : leafN (sigL seed n text) = (n : Int) := by
    show (((UInt8.ofNat n).toNat : Nat) : Int) = (n : Int)
    simp; omega
  have hp : pcs ((sigL seed n text).drop 1) 18 = sgp seed n text := by
    have := pcs_flat (sgp seed n text) (sgp_8 seed hn text)
    rw [sgp_length] at this
    exact this
  have h1 : (sgp seed n text).take 15 = sgnL seed (n : Int) text := by
    rw [sgp, List.take_append_of_le_length (by rw [sgn_length]; omega), List.take_of_length_le (by rw [sgn_length]; omega)]
  have h2 : (sgp seed n text).drop 15 = pthL seed n 3 := by
    rw [sgp, List.drop_append_of_le_length (by rw [sgn_length]; omega), List.drop_of_length_le (by rw [sgn_length]; omega), List.nil_append]
  rw [vres_eq (sigL_length seed hn text) hl hn, hp, h1, h2, opn_sgn, clm_path seed hn, if_pos rfl]

def stLBk_0 (seed RT : List UInt8) (L : List (List UInt8)) : Nat → Regs × Hp := fun i => ([(1, roL L), (5, .r (.str RT)), (6, .ptr 0 0), (7, .r (.int .i64 (i : Int)))], ⟨1, [(0, some (.mixed [.r (.str seed), .r (.int .i64 (i : Int))]))], false⟩)
def prLBk_0 (seed RT : List UInt8) (L : List (List UInt8)) : Nat → Prop := fun i => i ≤ 8
theorem w_MssBack (seed : List UInt8) (L : List (List UInt8)) (hs : seed.length ≤ 140737488352000) (hL : ∀ p ∈ L, p.length ≤ 140737488355000) : Pur Try.prog 9 [.r (.str seed), roL L] (.r (.bool true)) := by
  obtain ⟨RT, hRT⟩ : ∃ r, r = rootL seed := ⟨_, rfl⟩
  have hr1 := w_Root seed hs
  rw [← hRT] at hr1
  refine spec_of_go (N := 72) Try.func9 rfl (by decide) rfl rfl ?_
  refine ag_seq ?_
  refine ag_reg ?_
  refine ar_pure tOk rfl rfl rfl trivial ?_
  refine ar_nil ?_
  refine ag_seq ?_
  refine ag_seq ?_
  refine ag_reg ?_
  refine ar_pur (w_alive05) rfl rfl rfl rfl rfl rfl rfl ?_
  refine ar_pure tOk rfl rfl rfl trivial ?_
  refine ar_nil ?_
  refine ag_false rfl (rfl) ?_
  refine ag_skip ?_
  refine ag_seq ?_
  refine ag_reg ?_
  refine ar_pure tOk rfl rfl rfl trivial ?_
  refine ar_pur (hr1) rfl rfl rfl rfl rfl rfl rfl ?_
  refine ar_pure tOk rfl rfl rfl trivial ?_
  refine ar_nil ?_
  refine ag_seq ?_
  refine ag_reg ?_
  refine ar_pure tOk rfl rfl rfl trivial ?_
  refine ar_pure tOk rfl rfl rfl ?_ ?_
  · simp
  refine ar_new tOk rfl rfl rfl ?_ ?_
  · simp
  refine ar_store tOk rfl rfl rfl trivial ?_
  refine ar_nil ?_
  refine ag_seq ?_
  refine ag_seq ?_
  refine ag_reg ?_
  refine ar_pure tOk rfl rfl rfl trivial ?_
  refine ar_nil ?_
  refine ag_block ?_
  refine ag_loopS (stLBk_0 seed RT L) (prLBk_0 seed RT L) (fun (i : Nat) => 9 - i) 0 (ent_weak [0] rfl rfl rfl rfl ?_ ?_ rfl) (show prLBk_0 seed RT L 0 from ?_) ?_
  · exact ⟨⟨rfl, rfl⟩, ⟨rfl, rfl⟩, ⟨rfl, rfl⟩, ⟨rfl, rfl⟩, trivial⟩
  · exact ⟨⟨rfl, rfl, rfl⟩, trivial⟩
  · exact Nat.zero_le _
  rintro i hp0 hrec
  have hi : i ≤ 8 := hp0
  refine ag_seq ?_
  refine ag_seq ?_
  refine ag_reg ?_
  refine ar_pure tOk rfl rfl rfl trivial ?_
  refine ar_pure tOk rfl rfl rfl trivial ?_
  refine ar_pure tOk rfl rfl rfl trivial ?_
  refine ar_pure tOk rfl rfl rfl trivial ?_
  refine ar_pure tOk rfl rfl rfl trivial ?_
  refine ar_guard (t := decide ((i : Int) < (L.length : Int))) (fun ht => ?_) (fun ht => ?_)
  · refine ar_ent (ent_reg 23 (.r (.bool true)) (by show AVal.r (.bool _) = _; rw [ht])) ?_
    have hil := of_decide_eq_true ht
    obtain ⟨p, hp⟩ := getI (L := L) (i := i) (by omega)
    have hpl := hL p (memI hp)
    refine ar_pure tOk rfl rfl rfl trivial ?_
    refine ar_pure tOk rfl rfl rfl trivial ?_
    refine ar_pure tOk rfl rfl rfl trivial ?_
    refine ar_nil ?_
    refine ag_true rfl (by simp; omega) ?_
    refine ag_skip ?_
    refine ag_seq ?_
    refine ag_block ?_
    refine ag_seq ?_
    rcases (show i = 8 ∨ i < 8 by omega) with h8 | h8
    · skip
      subst h8
      apply ag_draw2 (h1 := ⟨2, [(1, some (.mixed [.r (.str []), .r (.int .i64 0)])), (0, some (.mixed [.r (.str seed), .r (.int .i64 ((8 : Nat) : Int))]))], false⟩) [9] (by kernel_rfl) (by kernel_rfl)
      refine aq_load1 tOk rfl (by kernel_rfl) rfl rfl rfl rfl trivial ⟨_, rfl, trivial⟩ ?_
      refine aq_pure tOk rfl rfl rfl trivial ?_
      refine aq_pure tOk rfl rfl rfl trivial ?_
      refine aq_pure tOk rfl rfl rfl ?_ ?_
      · refine ⟨?_, ?_⟩ <;> first | omega | exact ne_mp hp | (refine ⟨?_, ?_⟩ <;> omega)
      refine aq_loadAs tOk (.r (.bs p)) rfl rfl rfl rfl (fun _ => rfl) rfl rfl (.inl ⟨rfl, by simp [Body.cells, mulz_eq, hp]⟩) ?_
      refine aq_pur (w_mSignF seed p) rfl rfl rfl rfl rfl rfl rfl ?_
      refine aq_pure tOk rfl rfl rfl trivial ?_
      refine aq_pure tOk rfl rfl rfl trivial ?_
      refine aq_pure tOk rfl rfl rfl trivial ?_
      refine aq_pure tOk rfl rfl rfl trivial ?_
      refine' aq_new20 tOk rfl rfl rfl rfl rfl ?_ ?_
      rotate_left 1
      · simp
      refine aq_pure tOk rfl rfl rfl trivial ?_
      refine aq_store21 tOk rfl rfl rfl rfl trivial ?_
      refine aq_pure tOk rfl rfl rfl trivial ?_
      refine aq_nil rfl ?_
      refine ag_seq ?_
      refine ag_seq ?_
      refine ag_reg ?_
      refine ar_pure tOk rfl rfl rfl trivial ?_
      refine ar_pure tOk rfl rfl rfl trivial ?_
      refine ar_nil ?_
      refine ag_true rfl (by decide) ?_
      refine ag_seq ?_
      refine ag_reg ?_
      refine ar_pure tOk rfl rfl rfl trivial ?_
      refine ar_pure tOk rfl rfl rfl trivial ?_
      refine ar_pure tOk rfl rfl rfl trivial ?_
      refine ar_nil ?_
      refine ag_ret tOk Try.func9 rfl rfl (by simp) ?_
      rfl
    · skip
      obtain ⟨S, hSe⟩ : ∃ S, S = sigL seed i p := ⟨_, rfl⟩
      have hSg := w_mSign seed i p hs hpl h8
      have hVf : Pur Try.prog 32 [.r (.str RT), .r (.bs p), .r (.str S)] (.tuple [.r (.int .i64 (i : Int)), .r (.bool true)]) := by rw [hSe, hRT, ← vres_sig seed h8 p]; exact w_Verify (rootL seed) p (sigL seed i p) hpl (by rw [sigL_length seed h8]; omega)
      rw [← hSe] at hSg
      clear hSe
      apply ag_draw2 (h1 := ⟨2, [(1, some (.mixed [.r (.str []), .r (.int .i64 0)])), (0, some (.mixed [.r (.str seed), .r (.int .i64 (i : Int))]))], false⟩) [9] (by kernel_rfl) (by kernel_rfl)
      refine aq_load1 tOk rfl (by kernel_rfl) rfl rfl rfl rfl trivial ⟨_, rfl, trivial⟩ ?_
      refine aq_pure tOk rfl rfl rfl trivial ?_
      refine aq_pure tOk rfl rfl rfl trivial ?_
      refine aq_pure tOk rfl rfl rfl ?_ ?_
      · refine ⟨?_, ?_⟩ <;> first | omega | exact ne_mp hp | (refine ⟨?_, ?_⟩ <;> omega)
      refine aq_loadAs tOk (.r (.bs p)) rfl rfl rfl rfl (fun _ => rfl) rfl rfl (.inl ⟨rfl, by simp [Body.cells, mulz_eq, hp]⟩) ?_
      refine aq_pur (hSg) rfl rfl rfl rfl rfl rfl rfl ?_
      refine aq_pure tOk rfl rfl rfl trivial ?_
      refine aq_pure tOk rfl rfl rfl trivial ?_
      refine aq_pure tOk rfl rfl rfl trivial ?_
      refine aq_pure tOk rfl rfl rfl trivial ?_
      refine' aq_new20 tOk rfl rfl rfl rfl rfl ?_ ?_
      rotate_left 1
      · simp
      refine aq_pure tOk rfl rfl rfl trivial ?_
      refine aq_store21 tOk rfl rfl rfl rfl trivial ?_
      refine aq_pure tOk rfl rfl rfl trivial ?_
      refine aq_nil rfl ?_
      refine ag_seq ?_
      refine ag_seq ?_
      refine ag_reg ?_
      refine ar_pure tOk rfl rfl rfl trivial ?_
      refine ar_pure tOk rfl rfl rfl trivial ?_
      refine ar_nil ?_
      refine ag_false rfl (by simp; omega) ?_
      refine ag_skip ?_
      refine ag_seq ?_
      refine ag_reg ?_
      refine ar_pure tOk rfl rfl rfl trivial ?_
      refine ar_pure tOk rfl rfl rfl trivial ?_
      refine ar_pure tOk rfl rfl rfl trivial ?_
      refine ar_pure tOk rfl rfl rfl ?_ ?_
      · refine ⟨?_, ?_⟩ <;> first | omega | exact ne_mp hp | (refine ⟨?_, ?_⟩ <;> omega)
      refine ar_loadAs tOk (.r (.bs p)) rfl rfl rfl rfl rfl rfl rfl (.inl ⟨rfl, by simp [Body.cells, mulz_eq, hp]⟩) ?_
      refine ar_pure tOk rfl rfl rfl trivial ?_
      refine ar_pur (hVf) rfl rfl rfl rfl rfl rfl rfl ?_
      refine ar_pure tOk rfl rfl rfl trivial ?_
      refine ar_pure tOk rfl rfl rfl trivial ?_
      refine ar_pure tOk rfl rfl rfl trivial ?_
      refine ar_pure tOk rfl rfl rfl trivial ?_
      refine ar_pure tOk rfl rfl rfl trivial ?_
      refine ar_nil ?_
      refine ag_seq ?_
      refine ag_seq ?_
      refine ag_reg ?_
      refine ar_pure tOk rfl rfl rfl trivial ?_
      refine ar_pure tOk rfl rfl rfl trivial ?_
      refine ar_pure tOk rfl rfl rfl trivial ?_
      refine ar_pure tOk rfl rfl rfl trivial ?_
      refine ar_pure tOk rfl rfl rfl trivial ?_
      refine ar_pure tOk rfl rfl rfl trivial ?_
      refine ar_pure tOk rfl rfl rfl trivial ?_
      refine ar_pure tOk rfl rfl rfl trivial ?_
      refine ar_pure tOk rfl rfl rfl trivial ?_
      refine ar_pure tOk rfl rfl rfl trivial ?_
      refine ar_ent (ent_reg 62 (.r (.bool false)) (by show AVal.r (.bool _) = _; exact eqB (by simp))) ?_
      refine ar_pure tOk rfl rfl rfl trivial ?_
      refine ar_pure tOk rfl rfl rfl trivial ?_
      refine ar_pure tOk rfl rfl rfl trivial ?_
      refine ar_load tOk rfl rfl rfl trivial ?_
      refine ar_pure tOk rfl rfl rfl trivial ?_
      refine ar_pure tOk rfl rfl rfl ?_ ?_
      · unfold inI64; omega
      refine ar_pure tOk rfl rfl rfl trivial ?_
      refine ar_ent (ent_reg 69 (.r (.bool false)) (by show AVal.r (.bool _) = _; exact eqB (by simp))) ?_
      refine ar_pure tOk rfl rfl rfl trivial ?_
      refine ar_nil ?_
      refine ag_false rfl (rfl) ?_
      refine ag_skip ?_
      refine ag_reg ?_
      refine ar_load tOk rfl rfl rfl trivial ?_
      refine ar_store tOk rfl rfl rfl trivial ?_
      refine ar_nil ?_
      refine ag_inBlock ?_
      refine ag_reg ?_
      refine ar_pure tOk rfl rfl rfl trivial ?_
      refine ar_pure tOk rfl rfl rfl ?_ ?_
      · unfold inI64; omega
      refine ar_pure tOk rfl rfl rfl trivial ?_
      refine ar_nil ?_
      refine ag_ent (ent_weak (g' := (stLBk_0 seed RT L (i + 1)).1) (h' := (stLBk_0 seed RT L (i + 1)).2) [0] rfl rfl rfl rfl ?_ ?_ rfl) ?_
      · exact ⟨⟨rfl, rfl⟩, ⟨rfl, rfl⟩, ⟨rfl, rfl⟩, ⟨rfl, by exact eqI (by omega)⟩, trivial⟩
      · exact ⟨⟨rfl, rfl, rfl⟩, trivial⟩
      have hnx := hrec (i + 1)
      refine hnx ?_ ?_
      · show i + 1 ≤ 8; omega
      · show 9 - (i + 1) < 9 - i; omega
  · refine ar_ent (ent_reg 23 (.r (.bool false)) (by show AVal.r (.bool _) = _; rw [ht])) ?_
    refine ar_skip rfl rfl rfl ?_
    refine ar_skip rfl rfl rfl ?_
    refine ar_pure tOk rfl rfl rfl trivial ?_
    refine ar_nil ?_
    refine ag_false rfl (rfl) ?_
    refine ag_exit rfl ?_
    refine ag_seq ?_
    refine ag_reg ?_
    refine ar_pure tOk rfl rfl rfl trivial ?_
    refine ar_nil ?_
    refine ag_ret tOk Try.func9 rfl rfl (by simp) ?_
    rfl

end Go.Proofs.Ytmlbfnmpdogmfaa
