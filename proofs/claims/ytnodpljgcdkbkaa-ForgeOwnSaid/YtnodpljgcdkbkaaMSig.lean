/-
  WALKS: signing with a key (mss.Sign, Leaf, and the reference's). (Printed by gen.py out of w_msig.py.)
-/
import Derived.Test.YtnodpljgcdkbkaaMPath
namespace Go.Proofs.Ytnodpljgcdkbkaa
open Go
set_option maxRecDepth 20000
set_option linter.unusedVariables false
set_option linter.unusedSimpArgs false
def keyA (s : List UInt8) (n : Int) : AVal := .agg [.r (.str s), .r (.int .i64 n)]
/-- A signature's texts; a signature. -/
def sgp (seed : List UInt8) (n : Nat) (text : List UInt8) : List (List UInt8) := sgnL seed (n : Int) text ++ pthL seed n 3
def sigL (seed : List UInt8) (n : Nat) (text : List UInt8) : List UInt8 := UInt8.ofNat n :: (sgp seed n text).flatten
theorem sgp_length (seed : List UInt8) (n : Nat) (text : List UInt8) : (sgp seed n text).length = 18 := by rw [sgp, List.length_append, sgn_length, pthL_length]
theorem sgp_8 (seed : List UInt8) {n : Nat} (hn : n < 8) (text : List UInt8) : ∀ p ∈ sgp seed n text, p.length = 8 := by
  intro p hp
  rcases List.mem_append.1 hp with h | h
  · exact sgn_8 _ _ _ p h
  · exact pthL_8 seed hn p h
theorem sigL_length (seed : List UInt8) {n : Nat} (hn : n < 8) (text : List UInt8) : (sigL seed n text).length = 145 := by
  rw [sigL, List.length_cons, flat8 (sgp_8 seed hn text), sgp_length]
theorem w_PathR (seed : List UInt8) (hs : seed.length ≤ 140737488352000) (n : Nat) (hn : n < 8) : Pur Try.prog 74 [.r (.str seed), .r (.int .i64 (n : Int))] (roS (pthL seed n 3)) := (own_to_ro (w_PathIn seed hs n hn) rfl trivial).mono_r (roS_of (pthL_length _ _ _))
theorem w_rPathR (seed : List UInt8) (hs : seed.length ≤ 140737488352000) (n : Nat) (hn : n < 8) : Pur Try.prog 84 [.r (.str seed), .r (.int .i64 (n : Int))] (roS (pthL seed n 3)) := (own_to_ro (w_rPathIn seed hs n hn) rfl trivial).mono_r (roS_of (pthL_length _ _ _))
theorem flat_take8 {A : List (List UInt8)} (h : ∀ p ∈ A, p.length = 8) (i : Nat) (hi : i ≤ A.length) : (A.take i).flatten.length = 8 * i := by
  rw [flat8 (fun p hp => h p (List.mem_of_mem_take hp)), List.length_take, Nat.min_eq_left hi]
theorem roS_app {n : Nat} {P Q : List (List UInt8)} (h : P.length + Q.length = n) : AVal.r (.ro n (cutA (cutA (sL P) 0 (P.length * 1) ++ sL Q) 0 (n * 1))) = roS (P ++ Q) := by
  subst h
  rw [cutA_eq, cutA_eq, List.drop_zero, List.drop_zero, Nat.mul_one, Nat.mul_one, List.take_of_length_le (show (sL P).length ≤ P.length by simp [sL]), List.take_of_length_le (by simp [sL])]
  simp [roS, sL]
def stSg_1 (seed : List UInt8) (n : Nat) (A : List (List UInt8)) : Nat → Regs × Hp := fun i => ([(2, .ptr 0 0), (5, .ptr 1 0), (7, .sl 2 0 (1 + 8 * i) 1), (40, roS A), (41, .r (.int .i64 18)), (42, .r (.int .i64 (i : Int)))], ⟨3, [(0, some (.mixed [.r (.str seed), .r (.int .i64 (n : Int))])), (1, some (.mixed [.r (.str []), .r (.int .i64 0)])), (2, some (.bytes (UInt8.ofNat n :: (A.take i).flatten)))], false⟩)
def prSg_1 (seed : List UInt8) (n : Nat) (A : List (List UInt8)) : Nat → Prop := fun i => i ≤ 18
theorem w_mSign (seed : List UInt8) (n : Nat) (text : List UInt8) (hs : seed.length ≤ 140737488352000) (hb : text.length ≤ 140737488355000) (hn : n < 8) : Pur Try.prog 27 [keyA seed (n : Int), .r (.bs text)] (.tuple [.r (.str (sigL seed n text)), keyA seed (n + 1 : Int), .r (.int .i64 0)]) := by
  obtain ⟨P, hPe⟩ : ∃ P, P = sgnL seed (n : Int) text := ⟨_, rfl⟩
  obtain ⟨Q, hQe⟩ : ∃ Q, Q = pthL seed n 3 := ⟨_, rfl⟩
  have hsl : P.length = 15 := by rw [hPe]; exact sgn_length seed (n : Int) text
  have hpl : Q.length = 3 := by rw [hQe]; exact pthL_length seed n 3
  have hOS : Own Try.prog 73 [.r (.str seed), .r (.int .i64 (n : Int)), .r (.bs text)] 15 1 (.plain (sL P)) := by rw [hPe]; exact w_Sign seed (n : Int) text hs hb
  have hPQ : Pur Try.prog 74 [.r (.str seed), .r (.int .i64 (n : Int))] (roS Q) := by rw [hQe]; exact w_PathR seed hs n hn
  obtain ⟨A, hAe⟩ : ∃ A, A = P ++ Q := ⟨_, rfl⟩
  have hA : A.length = 18 := by rw [hAe, List.length_append]; omega
  have hA8 : ∀ p ∈ A, p.length = 8 := by rw [hAe, hPe, hQe]; exact sgp_8 seed hn text
  rw [show sigL seed n text = UInt8.ofNat n :: A.flatten by rw [hAe, hPe, hQe]; rfl]
  clear hPe hQe
  refine spec_of_go (N := 57) Try.func27 rfl (by decide) rfl rfl ?_
  refine zB ?_
  refine ar_new tOk rfl rfl rfl trivial ?_
  refine pA ?_
  refine ar_new tOk rfl rfl rfl ?_ ?_
  · simp
  refine pA ?_
  refine zA ?_
  refine ag_block ?_
  refine zB ?_
  refine pA ?_
  refine pB ?_
  iterate 2 refine pA ?_
  refine ar_ent (ent_reg 14 (.r (.bool false)) (by show AVal.r (.bool _) = _; exact eqB (decide_eq_false (by omega)))) ?_
  refine pA ?_
  refine pB ?_
  iterate 2 refine pA ?_
  refine ar_ent (ent_reg 18 (.r (.bool false)) (by show AVal.r (.bool _) = _; exact eqB (decide_eq_false (by omega)))) ?_
  refine pA ?_
  refine ar_nil ?_
  refine ag_false rfl (rfl) ?_
  refine zB ?_
  refine pA ?_
  refine pB ?_
  iterate 2 refine pA ?_
  refine ar_nil ?_
  refine ag_false rfl (by simp; omega) ?_
  refine ag_skip ?_
  refine ag_inBlock ?_
  refine zB ?_
  refine pA ?_
  refine pB ?_
  refine pA ?_
  refine ar_new tOk rfl rfl rfl ?_ ?_
  · simp
  refine ar_ent (ent_body 2 (.mixed [.r (.int .u8 (IntKind.u8.wrap (n : Int)))]) (.bytes [UInt8.ofNat n]) rfl (by simp only [Body.cells, List.map_cons, List.map_nil]; congr 3)) ?_
  refine pA ?_
  refine zA ?_
  refine ag_seq ?_
  apply ag_draw2 [34, 40] (by kernel_rfl) (by kernel_rfl)
  refine aq_pure tOk rfl rfl rfl trivial ?_
  refine aq_load0 tOk rfl (by kernel_rfl) rfl rfl trivial ?_
  refine aq_pure tOk rfl rfl rfl trivial ?_
  refine aq_load0 tOk rfl (by kernel_rfl) rfl rfl trivial ?_
  refine aq_pure tOk rfl rfl rfl trivial ?_
  refine' aq_own20 (hOS) rfl rfl rfl rfl rfl rfl rfl rfl rfl ?_
  rotate_left 1
  refine aq_pure tOk rfl rfl rfl trivial ?_
  refine aq_load1 tOk rfl (by kernel_rfl) rfl rfl rfl rfl trivial ⟨_, rfl, trivial⟩ ?_
  refine aq_pure tOk rfl rfl rfl trivial ?_
  refine aq_load1 tOk rfl (by kernel_rfl) rfl rfl rfl rfl trivial ⟨_, rfl, trivial⟩ ?_
  refine aq_pur (hPQ) rfl rfl rfl rfl rfl rfl rfl ?_
  refine aq_app21 tOk rfl rfl rfl rfl rfl ?_ ?_
  · refine ⟨⟨?_, ?_, ?_⟩, ⟨?_, ?_⟩, ⟨?_, ?_⟩, ?_⟩ <;> first | omega | exact True.intro | (simp [sL, hsl, hpl]; done) | (simp [sL, hsl, hpl]; omega)
  iterate 2 refine aq_pure tOk rfl rfl rfl trivial ?_
  refine aq_nil rfl ?_
  refine ag_ent (ent_freeze 40 rfl rfl rfl trivial) ?_
  refine ag_ent (ent_reg 40 (roS A) (by show AVal.r (.ro _ (cutA (cutA _ 0 15 ++ _) 0 _)) = _; have := roS_app (n := 15 + Q.length) (P := P) (Q := Q) (by omega); rw [hsl, ← hAe] at this; exact this)) ?_
  clear hAe
  refine ag_block ?_
  refine ag_loopS (stSg_1 seed n A) (prSg_1 seed n A) (fun (i : Nat) => 18 - i) 0 (ent_weak [0, 1, 2] rfl rfl rfl rfl ?_ ?_ rfl) (show prSg_1 seed n A 0 from ?_) ?_
  · exact ⟨⟨rfl, rfl⟩, ⟨rfl, rfl⟩, ⟨rfl, rfl⟩, ⟨rfl, rfl⟩, ⟨rfl, by exact eqI (by omega)⟩, ⟨rfl, rfl⟩, trivial⟩
  · exact ⟨⟨rfl, rfl, rfl⟩, ⟨rfl, rfl, rfl⟩, ⟨rfl, rfl, rfl⟩, trivial⟩
  · exact Nat.zero_le _
  rintro i hp0 hrec
  have hi : i ≤ 18 := hp0
  refine zB ?_
  refine pA ?_
  refine zA ?_
  refine ag_if rfl ?_ ?_
  · intro h43
    obtain ⟨p, hp⟩ := getI (L := A) (i := i) (by omega)
    have hpl8 := hA8 p (memI hp)
    have hfl := flat_take8 hA8 i (by omega)
    refine ag_skip ?_
    refine ag_seq ?_
    refine ag_block ?_
    refine zB ?_
    refine ar_pure tOk rfl rfl rfl ?_ ?_
    · refine ⟨?_, ?_⟩ <;> first | omega | exact ne_mp hp | (refine ⟨?_, ?_⟩ <;> omega)
    refine ar_loadAs tOk (.r (.str p)) rfl rfl rfl rfl rfl rfl rfl (.inl ⟨rfl, by simp [Body.cells, mulz_eq, sL, hp]⟩) ?_
    refine pA ?_
    refine ar_nil ?_
    refine ag_reg ?_
    iterate 2 refine pA ?_
    refine ar_app tOk rfl rfl rfl ?_ ?_
    · refine ⟨⟨?_, ?_, ?_⟩, ⟨?_, ?_⟩, ⟨?_, ?_⟩, ?_⟩ <;> first | trivial | omega | (simp; done) | (simp; omega) | (simp only [List.length_cons]; omega)
    refine pA ?_
    refine ar_nil ?_
    refine ag_inBlock ?_
    refine ag_reg ?_
    refine ar_pure tOk rfl rfl rfl ?_ ?_
    · unfold inI64; omega
    refine pA ?_
    refine ar_nil ?_
    refine ag_ent (ent_weak (g' := (stSg_1 seed n A (i + 1)).1) (h' := (stSg_1 seed n A (i + 1)).2) [0, 1, 3] rfl rfl rfl rfl ?_ ?_ rfl) ?_
    · exact ⟨⟨rfl, rfl⟩, ⟨rfl, rfl⟩, ⟨rfl, by exact eqSl (by omega)⟩, ⟨rfl, rfl⟩, ⟨rfl, rfl⟩, ⟨rfl, by exact eqI (by omega)⟩, trivial⟩
    · exact ⟨⟨rfl, rfl, rfl⟩, ⟨rfl, rfl, rfl⟩, ⟨rfl, rfl, by exact eqBs (by rw [cutA_eq, List.drop_zero, List.take_of_length_le (by simp only [List.length_cons]; omega), take_next hp]; rfl)⟩, trivial⟩
    have hnx := hrec (i + 1)
    refine hnx ?_ ?_
    · show i + 1 ≤ 18; omega
    · show 18 - (i + 1) < 18 - i; omega
  · intro h43
    obtain rfl : i = 18 := by omega
    have hfl := flat_take8 hA8 18 (by omega)
    refine ag_exit rfl ?_
    refine zB ?_
    refine pA ?_
    refine pB ?_
    refine ar_pure tOk rfl rfl rfl ?_ ?_
    · unfold inI64; omega
    refine pA ?_
    refine ar_store tOk rfl rfl rfl trivial ?_
    refine zA ?_
    refine ag_ent (ent_freeze 7 rfl rfl rfl ⟨by simp only [List.length_cons]; omega, rfl⟩) ?_
    refine ag_ent (ent_reg 7 (.r (.bs (UInt8.ofNat n :: A.flatten))) (by show AVal.r (.bs _) = _; exact eqBsv (by rw [cutA_eq, List.drop_zero, List.take_of_length_le (by simp only [List.length_cons]; omega), List.take_of_length_le (by omega)]))) ?_
    apply ag_draw1 [] (by kernel_rfl) (by kernel_rfl)
    iterate 2 refine aq_pure tOk rfl rfl rfl trivial ?_
    refine aq_load0 tOk rfl (by kernel_rfl) rfl rfl trivial ?_
    refine aq_pure tOk rfl rfl rfl trivial ?_
    refine aq_store10 tOk rfl rfl rfl rfl trivial ?_
    refine aq_pure tOk rfl rfl rfl trivial ?_
    refine aq_nil rfl ?_
    refine ag_ret tOk Try.func27 rfl rfl (by first | trivial | exact ⟨trivial, trivial⟩ | simp) ?_
    rfl
def strSg_0 (n : Nat) (A : List (List UInt8)) : Nat → Regs × Hp := fun i => ([(7, .r (.str (UInt8.ofNat n :: (A.take i).flatten))), (8, roS A), (9, .r (.int .i64 (i : Int)))], ⟨0, [], false⟩)
def prrSg_0 (n : Nat) (A : List (List UInt8)) : Nat → Prop := fun i => i ≤ 18
theorem w_rSig (seed : List UInt8) (n : Nat) (text : List UInt8) (hs : seed.length ≤ 140737488352000) (hb : text.length ≤ 140737488355000) (hn : n < 8) : Pur Try.prog 31 [.r (.str seed), .r (.int .i64 (n : Int)), .r (.bs text)] (.r (.str (sigL seed n text))) := by
  obtain ⟨P, hPe⟩ : ∃ P, P = sgnL seed (n : Int) text := ⟨_, rfl⟩
  obtain ⟨Q, hQe⟩ : ∃ Q, Q = pthL seed n 3 := ⟨_, rfl⟩
  have hsl : P.length = 15 := by rw [hPe]; exact sgn_length seed (n : Int) text
  have hpl : Q.length = 3 := by rw [hQe]; exact pthL_length seed n 3
  have hOS : Own Try.prog 83 [.r (.str seed), .r (.int .i64 (n : Int)), .r (.bs text)] 15 1 (.plain (sL P)) := by rw [hPe]; exact w_Parts seed (n : Int) text hs hb
  have hPQ : Pur Try.prog 84 [.r (.str seed), .r (.int .i64 (n : Int))] (roS Q) := by rw [hQe]; exact w_rPathR seed hs n hn
  obtain ⟨A, hAe⟩ : ∃ A, A = P ++ Q := ⟨_, rfl⟩
  have hA : A.length = 18 := by rw [hAe, List.length_append]; omega
  have hA8 : ∀ p ∈ A, p.length = 8 := by rw [hAe, hPe, hQe]; exact sgp_8 seed hn text
  rw [show sigL seed n text = UInt8.ofNat n :: A.flatten by rw [hAe, hPe, hQe]; rfl]
  clear hPe hQe
  refine spec_of_go (N := 35) Try.func31 rfl (by decide) rfl rfl ?_
  refine zB ?_
  refine pA ?_
  refine zC ?_
  iterate 2 refine pA ?_
  refine ar_qd rfl (qop_buildRo tOk rfl ?_ rfl) rfl rfl rfl rfl ?_
  · repeat any_goals (first | trivial | decide | omega | (simp; done) | (rw [wu8]; omega) | refine ⟨?_, ?_⟩)
  refine ar_ent (ent_reg 12 (.r (.bs [UInt8.ofNat n])) (by show AVal.r (.bs _) = _; exact eqBsv (by rw [u8n (by omega)]))) ?_
  iterate 2 refine pA ?_
  refine zC ?_
  iterate 3 refine pA ?_
  refine ar_own (hOS) rfl rfl rfl rfl rfl rfl rfl ?_
  iterate 2 refine pA ?_
  refine ar_pur (hPQ) rfl rfl rfl rfl rfl rfl rfl ?_
  refine ar_app tOk rfl rfl rfl ?_ ?_
  · refine ⟨⟨?_, ?_, ?_⟩, ⟨?_, ?_⟩, ⟨?_, ?_⟩, ?_⟩ <;> first | omega | exact True.intro | (simp [sL, hsl, hpl]; done) | (simp [sL, hsl, hpl]; omega)
  refine pA ?_
  refine ar_nil ?_
  refine ag_ent (ent_freeze 8 rfl rfl rfl trivial) ?_
  refine ag_ent (ent_reg 8 (roS A) (by show AVal.r (.ro _ (cutA (cutA _ 0 15 ++ _) 0 _)) = _; have := roS_app (n := 15 + Q.length) (P := P) (Q := Q) (by omega); rw [hsl, ← hAe] at this; exact this)) ?_
  clear hAe
  refine ag_seq ?_
  refine zB ?_
  refine pA ?_
  refine ar_nil ?_
  refine ag_block ?_
  refine ag_loopS (strSg_0 n A) (prrSg_0 n A) (fun (i : Nat) => 18 - i) 0 (ent_weak [] rfl rfl rfl rfl ?_ ?_ rfl) (show prrSg_0 n A 0 from ?_) ?_
  · exact ⟨⟨rfl, rfl⟩, ⟨rfl, rfl⟩, ⟨rfl, rfl⟩, trivial⟩
  · trivial
  · exact Nat.zero_le _
  rintro i hp0 hrec
  have hi : i ≤ 18 := hp0
  refine ag_seq ?_
  refine zB ?_
  iterate 4 refine pA ?_
  refine ar_nil ?_
  refine ag_if rfl ?_ ?_
  · intro h25
    obtain ⟨p, hp⟩ := getI (L := A) (i := i) (by omega)
    have hpl8 := hA8 p (memI hp)
    have hfl := flat_take8 hA8 i (by omega)
    refine ag_skip ?_
    refine ag_seq ?_
    refine ag_block ?_
    refine ag_reg ?_
    iterate 3 refine pA ?_
    refine ar_pure tOk rfl rfl rfl ?_ ?_
    · refine ⟨?_, ?_⟩ <;> first | omega | exact ne_mp hp | (refine ⟨?_, ?_⟩ <;> omega)
    refine ar_loadAs tOk (.r (.str p)) rfl rfl rfl rfl rfl rfl rfl (.inl ⟨rfl, by simp [Body.cells, mulz_eq, sL, hp]⟩) ?_
    refine ar_pure tOk rfl rfl rfl ?_ ?_
    · simp only [List.length_cons]; omega
    refine pA ?_
    refine ar_nil ?_
    refine ag_inBlock ?_
    refine ag_reg ?_
    refine pA ?_
    refine ar_pure tOk rfl rfl rfl ?_ ?_
    · unfold inI64; omega
    refine pA ?_
    refine ar_nil ?_
    refine ag_ent (ent_weak (g' := (strSg_0 n A (i + 1)).1) (h' := (strSg_0 n A (i + 1)).2) [] rfl rfl rfl rfl ?_ ?_ rfl) ?_
    · exact ⟨⟨rfl, by exact eqStr (by rw [take_next hp]; rfl)⟩, ⟨rfl, rfl⟩, ⟨rfl, by exact eqI (by omega)⟩, trivial⟩
    · trivial
    have hnx := hrec (i + 1)
    refine hnx ?_ ?_
    · show i + 1 ≤ 18; omega
    · show 18 - (i + 1) < 18 - i; omega
  · intro h25
    obtain rfl : i = 18 := by omega
    refine ag_exit rfl ?_
    refine zB ?_
    iterate 2 refine pA ?_
    refine ar_nil ?_
    refine ag_ret tOk Try.func31 rfl rfl (by simp) ?_
    exact eqStr (by rw [List.take_of_length_le (by omega)])
def leafN : List UInt8 → Int
  | [] => -1
  | b :: _ => (b.toNat : Int)
theorem w_Leaf (s : List UInt8) : Pur Try.prog 112 [.r (.str s)] (.r (.int .i64 (leafN s))) := by
  refine spec_of_go (N := 8) Try.func112 rfl (by decide) rfl rfl ?_
  refine zB ?_
  refine pA ?_
  refine zA ?_
  refine zB ?_
  iterate 2 refine pA ?_
  refine ar_nil ?_
  refine ag_if rfl ?_ ?_
  · intro h4
    have h0 : s = [] := h4
    subst h0
    refine zB ?_
    refine pA ?_
    refine ar_nil ?_
    refine ag_ret tOk Try.func112 rfl rfl (by simp) ?_
    rfl
  · intro h4
    obtain ⟨b, r, rfl⟩ : ∃ b r, s = b :: r := by cases s with
      | nil => exact absurd rfl h4
      | cons b r => exact ⟨b, r, rfl⟩
    have hb := u8_lt b
    refine ag_skip ?_
    refine zB ?_
    refine pA ?_
    refine ar_pure tOk rfl rfl rfl ?_ ?_
    · exact ⟨by decide, by simp only [List.length_cons]; omega⟩
    refine ar_pure tOk rfl rfl rfl ?_ ?_
    · show inI64 ((b.toNat : Nat) : Int); unfold inI64; omega
    refine pA ?_
    refine ar_nil ?_
    refine ag_ret tOk Try.func112 rfl rfl (by simp) ?_
    rfl
end Go.Proofs.Ytnodpljgcdkbkaa

