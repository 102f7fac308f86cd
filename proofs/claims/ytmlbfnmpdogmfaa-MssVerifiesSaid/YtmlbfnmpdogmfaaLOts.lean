/-
  WALKS: the laws OtsTells, OtsOpens, OtsBack. (Printed by gen.py out of w_lots.py.)
-/
import Derived.Test.YtmlbfnmpdogmfaaOOpen
namespace Go.Proofs.Ytmlbfnmpdogmfaa
open Go
set_option maxRecDepth 20000
set_option linter.unusedVariables false
set_option linter.unusedSimpArgs false

theorem w_SignR (seed : List UInt8) (leaf : Int) (text : List UInt8) (hs : seed.length ≤ 140737488352000) (hb : text.length ≤ 140737488355000) : Pur Try.prog 21 [.r (.str seed), .r (.int .i64 leaf), .r (.bs text)] (roS (sgnL seed leaf text)) := (own_to_ro (w_Sign seed leaf text hs hb) rfl trivial).mono_r (roS_of (sgn_length _ _ _))
theorem w_PartsR (seed : List UInt8) (leaf : Int) (text : List UInt8) (hs : seed.length ≤ 140737488352000) (hb : text.length ≤ 140737488355000) : Pur Try.prog 22 [.r (.str seed), .r (.int .i64 leaf), .r (.bs text)] (roS (sgnL seed leaf text)) := (own_to_ro (w_Parts seed leaf text hs hb) rfl trivial).mono_r (roS_of (sgn_length _ _ _))

theorem w_OtsTells (seed : List UInt8) (leaf : Int) (text : List UInt8) (hs : seed.length ≤ 140737488352000) (hb : text.length ≤ 140737488355000) (steps : Int) : Pur Try.prog 4 [.r (.str seed), .r (.int .i64 leaf), .r (.bs text), .r (.int .i64 steps)] (.r (.bool true)) := by
  refine spec_of_go (N := 54) Try.func4 rfl (by decide) rfl rfl ?_
  refine ag_seq ?_
  refine ag_reg ?_
  refine ar_pure tOk rfl rfl rfl trivial ?_
  refine ar_nil ?_
  refine ag_seq ?_
  refine ag_seq ?_
  refine ag_reg ?_
  refine ar_pur (w_alive04) rfl rfl rfl rfl rfl rfl rfl ?_
  refine ar_pure tOk rfl rfl rfl trivial ?_
  refine ar_nil ?_
  refine ag_false rfl (rfl) ?_
  refine ag_skip ?_
  refine ag_seq ?_
  refine ag_reg ?_
  refine ar_pure tOk rfl rfl rfl trivial ?_
  refine ar_pur (w_DigitsR text hb) rfl rfl rfl rfl rfl rfl rfl ?_
  refine ar_pure tOk rfl rfl rfl trivial ?_
  refine ar_pur (w_rDigitsR text hb) rfl rfl rfl rfl rfl rfl rfl ?_
  refine ar_pur (w_Ints (digs text) (digs text) (by rw [digs_length]; omega)) rfl rfl rfl rfl rfl rfl rfl ?_
  refine ar_ent (ent_reg 15 (.r (.bool true)) (by show AVal.r (.bool _) = _; exact eqB (by simp))) ?_
  refine ar_pure tOk rfl rfl rfl trivial ?_
  refine ar_pure tOk rfl rfl rfl trivial ?_
  refine ar_pure tOk rfl rfl rfl trivial ?_
  refine ar_pur (w_Walk seed steps (by omega)) rfl rfl rfl rfl rfl rfl rfl ?_
  refine ar_pure tOk rfl rfl rfl trivial ?_
  refine ar_pure tOk rfl rfl rfl trivial ?_
  refine ar_pur (w_rWalk seed steps (by omega)) rfl rfl rfl rfl rfl rfl rfl ?_
  refine ar_pure tOk rfl rfl rfl trivial ?_
  refine ar_ent (ent_reg 23 (.r (.bool true)) (by show AVal.r (.bool _) = _; exact eqB (by simp))) ?_
  refine ar_pure tOk rfl rfl rfl trivial ?_
  refine ar_pure tOk rfl rfl rfl trivial ?_
  refine ar_pure tOk rfl rfl rfl trivial ?_
  refine ar_pure tOk rfl rfl rfl trivial ?_
  refine ar_pur (w_BeginR seed leaf hs) rfl rfl rfl rfl rfl rfl rfl ?_
  refine ar_pure tOk rfl rfl rfl trivial ?_
  refine ar_pure tOk rfl rfl rfl trivial ?_
  refine ar_pur (w_rBeginR seed leaf hs) rfl rfl rfl rfl rfl rfl rfl ?_
  refine ar_pur (w_Texts (begL seed leaf 15) (begL seed leaf 15) (by rw [begL_length]; omega)) rfl rfl rfl rfl rfl rfl rfl ?_
  refine ar_ent (ent_reg 32 (.r (.bool true)) (by show AVal.r (.bool _) = _; exact eqB (by simp))) ?_
  refine ar_pure tOk rfl rfl rfl trivial ?_
  refine ar_pure tOk rfl rfl rfl trivial ?_
  refine ar_pure tOk rfl rfl rfl trivial ?_
  refine ar_pure tOk rfl rfl rfl trivial ?_
  refine ar_pur (w_Public seed leaf hs) rfl rfl rfl rfl rfl rfl rfl ?_
  refine ar_pure tOk rfl rfl rfl trivial ?_
  refine ar_pure tOk rfl rfl rfl trivial ?_
  refine ar_pur (w_rPublic seed leaf hs) rfl rfl rfl rfl rfl rfl rfl ?_
  refine ar_pure tOk rfl rfl rfl trivial ?_
  refine ar_ent (ent_reg 41 (.r (.bool true)) (by show AVal.r (.bool _) = _; exact eqB (by simp))) ?_
  refine ar_pure tOk rfl rfl rfl trivial ?_
  refine ar_pure tOk rfl rfl rfl trivial ?_
  refine ar_pure tOk rfl rfl rfl trivial ?_
  refine ar_pure tOk rfl rfl rfl trivial ?_
  refine ar_pure tOk rfl rfl rfl trivial ?_
  refine ar_pur (w_SignR seed leaf text hs hb) rfl rfl rfl rfl rfl rfl rfl ?_
  refine ar_pure tOk rfl rfl rfl trivial ?_
  refine ar_pure tOk rfl rfl rfl trivial ?_
  refine ar_pure tOk rfl rfl rfl trivial ?_
  refine ar_pur (w_PartsR seed leaf text hs hb) rfl rfl rfl rfl rfl rfl rfl ?_
  refine ar_pur (w_Texts (sgnL seed leaf text) (sgnL seed leaf text) (by rw [sgn_length]; omega)) rfl rfl rfl rfl rfl rfl rfl ?_
  refine ar_ent (ent_reg 52 (.r (.bool true)) (by show AVal.r (.bool _) = _; exact eqB (by simp))) ?_
  refine ar_pure tOk rfl rfl rfl trivial ?_
  refine ar_pure tOk rfl rfl rfl trivial ?_
  refine ar_nil ?_
  refine ag_ret tOk Try.func4 rfl rfl (by simp) ?_
  rfl

theorem w_OtsOpens (text : List UInt8) (P : List (List UInt8)) (hb : text.length ≤ 140737488355000) (hP : P.length ≤ 9223372036854775807) : Pur Try.prog 5 [.r (.bs text), roS P] (.r (.bool true)) := by
  refine spec_of_go (N := 15) Try.func5 rfl (by decide) rfl rfl ?_
  refine ag_seq ?_
  refine ag_reg ?_
  refine ar_pure tOk rfl rfl rfl trivial ?_
  refine ar_nil ?_
  refine ag_seq ?_
  refine ag_reg ?_
  refine ar_pure tOk rfl rfl rfl trivial ?_
  refine ar_pure tOk rfl rfl rfl trivial ?_
  refine ar_pur (w_Open text P hb hP) rfl rfl rfl rfl rfl rfl rfl ?_
  refine ar_pure tOk rfl rfl rfl trivial ?_
  refine ar_pure tOk rfl rfl rfl trivial ?_
  refine ar_pur (w_rOpen text P hb hP) rfl rfl rfl rfl rfl rfl rfl ?_
  refine ar_pure tOk rfl rfl rfl trivial ?_
  refine ar_ent (ent_reg 11 (.r (.bool true)) (by show AVal.r (.bool _) = _; exact eqB (by simp))) ?_
  refine ar_pure tOk rfl rfl rfl trivial ?_
  refine ar_pur (w_alive04) rfl rfl rfl rfl rfl rfl rfl ?_
  refine ar_pure tOk rfl rfl rfl trivial ?_
  refine ar_pure tOk rfl rfl rfl trivial ?_
  refine ar_nil ?_
  refine ag_ret tOk Try.func5 rfl rfl (by simp) ?_
  rfl

theorem w_OtsBack (seed : List UInt8) (leaf : Int) (text : List UInt8) (hs : seed.length ≤ 140737488352000) (hb : text.length ≤ 140737488355000) : Pur Try.prog 6 [.r (.str seed), .r (.int .i64 leaf), .r (.bs text)] (.r (.bool true)) := by
  refine spec_of_go (N := 19) Try.func6 rfl (by decide) rfl rfl ?_
  refine ag_seq ?_
  refine ag_reg ?_
  refine ar_pure tOk rfl rfl rfl trivial ?_
  refine ar_nil ?_
  refine ag_seq ?_
  refine ag_seq ?_
  refine ag_reg ?_
  refine ar_pur (w_alive04) rfl rfl rfl rfl rfl rfl rfl ?_
  refine ar_pure tOk rfl rfl rfl trivial ?_
  refine ar_nil ?_
  refine ag_false rfl (rfl) ?_
  refine ag_skip ?_
  refine ag_seq ?_
  refine ag_reg ?_
  refine ar_pure tOk rfl rfl rfl trivial ?_
  refine ar_pure tOk rfl rfl rfl trivial ?_
  refine ar_pure tOk rfl rfl rfl trivial ?_
  refine ar_pure tOk rfl rfl rfl trivial ?_
  refine ar_pur (w_SignR seed leaf text hs hb) rfl rfl rfl rfl rfl rfl rfl ?_
  refine ar_pur (w_Open text (sgnL seed leaf text) hb (by rw [sgn_length]; omega)) rfl rfl rfl rfl rfl rfl rfl ?_
  refine ar_pure tOk rfl rfl rfl trivial ?_
  refine ar_pure tOk rfl rfl rfl trivial ?_
  refine ar_pur (w_Public seed leaf hs) rfl rfl rfl rfl rfl rfl rfl ?_
  refine ar_pure tOk rfl rfl rfl trivial ?_
  refine ar_pure tOk rfl rfl rfl trivial ?_
  refine ar_nil ?_
  refine ag_ret tOk Try.func6 rfl rfl (by simp) ?_
  exact eqB (by rw [opn_sgn]; simp)

end Go.Proofs.Ytmlbfnmpdogmfaa
