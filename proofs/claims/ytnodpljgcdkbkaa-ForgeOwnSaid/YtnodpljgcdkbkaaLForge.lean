/-
  WALKS: the laws ForgeMeets, ForgeOwn. (Printed by gen.py out of w_lforge.py.)
-/
import Derived.Test.YtnodpljgcdkbkaaForge
namespace Go.Proofs.Ytnodpljgcdkbkaa
open Go
set_option maxRecDepth 20000
set_option linter.unusedVariables false
set_option linter.unusedSimpArgs false
theorem w_oDigR (text : List UInt8) (hb : text.length ≤ 140737488355000) : Pur Try.prog 77 [.r (.bs text)] (roI (digs text)) := by
  have h := own_to_ro (w_oDigits text hb) rfl trivial
  refine h.mono_r ?_
  rw [roI, digs_length, cutA_eq, List.drop_zero, List.take_of_length_le (by simp [iL, digs_length])]
theorem w_oSignR (seed : List UInt8) (leaf : Int) (text : List UInt8) (hs : seed.length ≤ 140737488352000) (hb : text.length ≤ 140737488355000) : Pur Try.prog 73 [.r (.str seed), .r (.int .i64 leaf), .r (.bs text)] (roS (sgnL seed leaf text)) := (own_to_ro (w_Sign seed leaf text hs hb) rfl trivial).mono_r (roS_of (sgn_length _ _ _))
theorem drop_roS {C : List (List UInt8)} : AVal.r (.ro (C.length - (15 : Int).toNat) (List.drop (mulz 15 1) (sL C))) = roS (C.drop 15) := by simp [roS, sL, mulz_eq]
theorem take_roS {C : List (List UInt8)} (h : 15 ≤ C.length) : AVal.r (.ro (Int.toNat 15) (List.take (mulz 15 1) (sL C))) = roS (C.take 15) := by
  simp [roS, sL, mulz_eq, List.map_take, Nat.min_eq_left h]
theorem fnd_facts (seed : List UInt8) (hs : seed.length ≤ 140737488352000) (text : List UInt8) (hb : text.length ≤ 140737488355000) (n : Nat) (hn : n < 8) : ∃ (S RT F : List UInt8) (C P R : List (List UInt8)) (D : List Int) (X : List UInt8) (Q : List (List UInt8)), sigL seed n text = S ∧ cutL S 1 (some 1) none = F ∧ C.length = 18 ∧ C.take 15 = P ∧ P.length = 15 ∧ (∀ p ∈ P, p.length = 8) ∧ D.length = 15 ∧ (∀ d ∈ D, 0 ≤ d ∧ d ≤ 3) ∧ R.length ≤ 1000 ∧
    Pur Try.prog 32 [.r (.str seed)] (.r (.str RT)) ∧ Pur Try.prog 68 [.r (.str RT), .r (.bs text), .r (.str S)] (.tuple [.r (.int .i64 (n : Int)), .r (.bool true)]) ∧
    Pur Try.prog 76 [.r (.bs F), .r (.int .i64 8)] (roL C) ∧ Pur Try.prog 75 [roL C] (roS C) ∧ Pur Try.prog 77 [.r (.bs text)] (roI D) ∧
    Pur Try.prog 79 [.r (.bs text), .r (.ro (Int.toNat 15) (List.take (mulz 15 1) (sL C)))] (.r (.str X)) ∧
    Pur Try.prog 78 [.r (.str seed), .r (.int .i64 (n : Int)), .r (.str X), .r (.ro (C.length - (15 : Int).toNat) (List.drop (mulz 15 1) (sL C)))] (roS R) ∧
    Pur Try.prog 80 [.r (.str seed), .r (.int .i64 (n : Int))] (.r (.str X)) ∧ Pur Try.prog 74 [.r (.str seed), .r (.int .i64 (n : Int))] (roS Q) ∧
    Pur Try.prog 78 [.r (.str seed), .r (.int .i64 (n : Int)), .r (.str X), roS Q] (roS R) ∧
    Pur Try.prog 73 [.r (.str seed), .r (.int .i64 (n : Int)), .r (.bs text)] (roS P) := by
  have hS := sigL_length seed hn text
  have hp : pcs ((sigL seed n text).drop 1) 18 = sgp seed n text := by
    have := pcs_flat (sgp seed n text) (sgp_8 seed hn text)
    rw [sgp_length] at this
    exact this
  have hCl : (sgp seed n text).length = 18 := sgp_length _ _ _
  have h1 : (sgp seed n text).take 15 = sgnL seed (n : Int) text := by
    rw [sgp, List.take_append_of_le_length (by rw [sgn_length]; omega), List.take_of_length_le (by rw [sgn_length]; omega)]
  have h2 : (sgp seed n text).drop 15 = pthL seed n 3 := by
    rw [sgp, List.drop_append_of_le_length (by rw [sgn_length]; omega), List.drop_of_length_le (by rw [sgn_length]; omega), List.nil_append]
  have hv := w_Verify (rootL seed) text (sigL seed n text) hb (by omega)
  rw [vres_sig seed hn text] at hv
  have hX : (pubL seed (n : Int)).length = 8 := pubL_length _ _
  have hrw := w_rows seed n (pubL seed (n : Int)) (pthL seed n 3) (by omega) (by omega) (by rw [pthL_length]; decide) (pthL_8 seed hn)
  have hR : (rwsL n (pubL seed (n : Int)) (pthL seed n 3)).length ≤ 1000 := by
    have : ∀ (P : List (List UInt8)) (m : Nat) (s : List UInt8), (rwsL m s P).length = P.length := by
      intro P
      induction P with
      | nil => intro m s; rfl
      | cons p r ih => intro m s; rw [rwsL]; split <;> simp [ih]
    rw [this, pthL_length]; decide
  refine ⟨_, rootL seed, (sigL seed n text).drop 1, sgp seed n text, sgnL seed (n : Int) text, rwsL n (pubL seed (n : Int)) (pthL seed n 3), digs text, pubL seed (n : Int), pthL seed n 3, rfl, by simp [cutL, mulz], hCl, h1, sgn_length _ _ _, sgn_8 _ _ _, digs_length _, digs_bound _, hR, w_Root seed hs, hv, ?_, w_texts _ (by omega) (sgp_8 seed hn text), w_oDigR text hb, ?_, ?_, w_Public seed (n : Int) hs, w_PathR seed hs n hn, hrw, w_oSignR seed (n : Int) text hs hb⟩
  · exact (w_CutA ((sigL seed n text).drop 1) 8 (by decide) (by decide) (by rw [List.length_drop]; omega)).mono_r (by rw [show (8 : Int).toNat = 8 from rfl, cut_pcs 18 _ (by rw [List.length_drop]; omega), hp]; rfl)
  · rw [take_roS (by omega), h1]
    have := w_Open text (sgnL seed (n : Int) text) hb (by rw [sgn_length]; decide)
    rw [opn_sgn] at this
    exact this
  · rw [drop_roS, h2]; exact hrw
def stfFd_0 (P : List (List UInt8)) (D : List Int) : Nat → Regs × Hp := fun i => ([(12, roI D), (18, roS P), (88, roS P), (89, .r (.int .i64 15)), (90, .r (.int .i64 (i : Int)))], ⟨0, [], false⟩)
def prfFd_0 (P : List (List UInt8)) (D : List Int) : Nat → Prop := fun i => i ≤ 15
theorem w_FindOwn (seed : List UInt8) (hs : seed.length ≤ 140737488352000) (text : List UInt8) (hb : text.length ≤ 140737488355000) (n : Nat) (hn : n < 8) : Pur Try.prog 28 [.r (.str seed), .r (.bs text), .r (.str (sigL seed n text))] (.tuple [.r (.str []), .r (.str []), .r (.int .i64 2)]) := by
  have hSl := sigL_length seed hn text
  obtain ⟨S, RT, FF, C, P, R, D, X, Q, hS, hF, hC, hCP, hP, hP8, hD, hDb, hR, c1, c2, c3, c4, c5, c6, c7, c8, c9, c10, c11⟩ := fnd_facts seed hs text hb n hn
  rw [hS] at hSl ⊢
  clear hS
  have hsC : (sL C).length = 18 := by simp [sL]; omega
  have cE := w_ends P D hP hD hP8 hDb
  generalize (wks (fun d => 3 - d) P D).flatten = E at cE
  refine spec_of_go (N := 114) Try.func28 rfl (by decide) rfl rfl ?_
  refine zB ?_
  iterate 3 refine pA ?_
  refine zC ?_
  refine pA ?_
  refine ar_pur (c1) rfl rfl rfl rfl rfl rfl rfl ?_
  iterate 2 refine pA ?_
  refine ar_pur (c2) rfl rfl rfl rfl rfl rfl rfl ?_
  iterate 5 refine pA ?_
  refine zA ?_
  refine zB ?_
  iterate 2 refine pA ?_
  refine ar_nil ?_
  refine ag_false rfl (rfl) ?_
  refine ag_skip ?_
  refine zB ?_
  refine pA ?_
  refine ar_pure tOk rfl rfl rfl ?_ ?_
  · first | (simp only [boundsOk]; omega) | (refine ⟨?_, ?_⟩ <;> first | trivial | omega | (simp only [boundsOk]; omega) | (simp; done))
  refine ar_ent (ent_reg 37 (.r (.str (FF))) (by show AVal.r (.str _) = _; exact eqStr (hF))) ?_
  refine ar_qd rfl (qop_strBytes tOk rfl) rfl rfl rfl rfl ?_
  refine ar_pur (c3) rfl rfl rfl rfl rfl rfl rfl ?_
  refine ar_pur (c4) rfl rfl rfl rfl rfl rfl rfl ?_
  refine pA ?_
  refine zC ?_
  refine pA ?_
  refine ar_pur (c5) rfl rfl rfl rfl rfl rfl rfl ?_
  refine pA ?_
  refine zA ?_
  refine ag_draw0 (by kernel_rfl) (by kernel_rfl) ?_
  iterate 4 refine aq_pure tOk rfl rfl rfl trivial ?_
  refine aq_pure tOk rfl rfl rfl ?_ ?_
  · simp only [boundsOk]; omega
  refine aq_pur (c6) rfl rfl rfl rfl rfl rfl rfl ?_
  refine aq_pure tOk rfl rfl rfl trivial ?_
  refine aq_pure tOk rfl rfl rfl ?_ ?_
  · simp only [boundsOk]; omega
  refine aq_pur (c7) rfl rfl rfl rfl rfl rfl rfl ?_
  refine aq_pure tOk rfl rfl rfl trivial ?_
  refine aq_nil rfl ?_
  refine zB ?_
  iterate 4 refine pA ?_
  refine ar_pur (c8) rfl rfl rfl rfl rfl rfl rfl ?_
  iterate 2 refine pA ?_
  refine ar_pur (c9) rfl rfl rfl rfl rfl rfl rfl ?_
  refine ar_pur (c10) rfl rfl rfl rfl rfl rfl rfl ?_
  refine pA ?_
  refine zA ?_
  refine zB ?_
  iterate 2 refine pA ?_
  refine ar_pur (w_fabove R hR) rfl rfl rfl rfl rfl rfl rfl ?_
  iterate 7 refine pA ?_
  refine zC ?_
  refine pA ?_
  refine ar_nil ?_
  refine ag_false rfl (rfl) ?_
  refine ag_skip ?_
  refine zB ?_
  iterate 3 refine pA ?_
  refine ar_pur (c11) rfl rfl rfl rfl rfl rfl rfl ?_
  refine pA ?_
  refine zA ?_
  refine zB ?_
  refine pA ?_
  refine ar_pure tOk rfl rfl rfl ?_ ?_
  · simp only [boundsOk]; omega
  refine ar_ent (ent_reg 76 (roS P) (by rw [← hCP]; exact take_roS (by omega))) ?_
  refine pA ?_
  refine ar_pur (cE) rfl rfl rfl rfl rfl rfl rfl ?_
  iterate 2 refine pA ?_
  refine ar_pur (cE) rfl rfl rfl rfl rfl rfl rfl ?_
  iterate 2 refine pA ?_
  refine zC ?_
  iterate 3 refine pA ?_
  refine ar_nil ?_
  refine ag_false rfl (by simp) ?_
  refine ag_skip ?_
  refine ag_seq ?_
  refine zB ?_
  refine pA ?_
  refine ar_pure tOk rfl rfl rfl ?_ ?_
  · simp only [boundsOk]; omega
  refine ar_ent (ent_reg 88 (roS P) (by rw [← hCP]; exact take_roS (by omega))) ?_
  iterate 2 refine pA ?_
  refine ar_nil ?_
  refine ag_block ?_
  refine ag_loopS (stfFd_0 P D) (prfFd_0 P D) (fun (i : Nat) => 15 - i) 0 (ent_weak [] rfl rfl rfl rfl ?_ ?_ rfl) (show prfFd_0 P D 0 from ?_) ?_
  · exact ⟨⟨rfl, rfl⟩, ⟨rfl, rfl⟩, ⟨rfl, rfl⟩, ⟨rfl, by exact eqI (by rw [hP]; rfl)⟩, ⟨rfl, rfl⟩, trivial⟩
  · trivial
  · exact Nat.zero_le _
  rintro i hi0 hrec
  have hi : i ≤ 15 := hi0
  refine zB ?_
  refine pA ?_
  refine zA ?_
  refine ag_if rfl ?_ ?_
  · intro h91
    obtain ⟨p, d, hp, hd⟩ := getI3 (A := P) (B := D) (i := i) (n := 15) (by omega) hP hD
    have hpl := hP8 p (memI hp)
    have hdb := hDb d (memI hd)
    have cM := w_Meets p p (3 - d) (by omega) (by omega)
    rw [show metL p p (3 - d) = ([], [], false) by rw [metL, if_pos rfl]] at cM
    refine ag_skip ?_
    refine ag_seq ?_
    refine ag_block ?_
    refine zB ?_
    refine pA ?_
    refine ar_pure tOk rfl rfl rfl ?_ ?_
    · refine ⟨?_, ?_⟩ <;> first | omega | exact ne_mp hp | (refine ⟨?_, ?_⟩ <;> omega)
    refine ar_loadAs tOk (.r (.str p)) rfl rfl rfl rfl rfl rfl rfl (.inl ⟨rfl, by simp [Body.cells, mulz_eq, sL, hp]⟩) ?_
    iterate 2 refine pA ?_
    refine zA ?_
    refine ag_draw0 (by kernel_rfl) (by kernel_rfl) ?_
    iterate 3 refine aq_pure tOk rfl rfl rfl trivial ?_
    refine aq_pure tOk rfl rfl rfl ?_ ?_
    · refine ⟨?_, ?_⟩ <;> first | omega | exact ne_mp hp | (refine ⟨?_, ?_⟩ <;> omega)
    refine aq_loadAs tOk (.r (.str p)) rfl rfl rfl rfl (fun _ => rfl) rfl rfl (.inl ⟨rfl, by simp [Body.cells, mulz_eq, sL, hp]⟩) ?_
    iterate 2 refine aq_pure tOk rfl rfl rfl trivial ?_
    refine aq_pure tOk rfl rfl rfl ?_ ?_
    · refine ⟨?_, ?_⟩ <;> first | omega | exact ne_mp hd | (refine ⟨?_, ?_⟩ <;> omega)
    refine aq_loadAs tOk (.r (.int .i64 d)) rfl rfl rfl rfl (fun _ => rfl) rfl rfl (.inl ⟨rfl, by simp [Body.cells, mulz_eq, iL, hd]⟩) ?_
    refine aq_pure tOk rfl rfl rfl ?_ ?_
    · unfold inI64; omega
    refine aq_pur (cM) rfl rfl rfl rfl rfl rfl rfl ?_
    iterate 7 refine aq_pure tOk rfl rfl rfl trivial ?_
    refine aq_nil rfl ?_
    refine zB ?_
    refine pA ?_
    refine ar_nil ?_
    refine ag_false rfl (rfl) ?_
    refine ag_skip ?_
    refine ag_inBlock ?_
    refine ag_reg ?_
    refine ar_pure tOk rfl rfl rfl ?_ ?_
    · unfold inI64; omega
    refine pA ?_
    refine ar_nil ?_
    refine ag_ent (ent_weak (g' := (stfFd_0 P D (i + 1)).1) (h' := (stfFd_0 P D (i + 1)).2) [] rfl rfl rfl rfl ?_ ?_ rfl) ?_
    · exact ⟨⟨rfl, rfl⟩, ⟨rfl, rfl⟩, ⟨rfl, rfl⟩, ⟨rfl, rfl⟩, ⟨rfl, by exact eqI (by omega)⟩, trivial⟩
    · trivial
    have hnx := hrec (i + 1)
    refine hnx ?_ ?_
    · show i + 1 ≤ 15; omega
    · show 15 - (i + 1) < 15 - i; omega
  · intro h91
    refine ag_exit rfl ?_
    refine zB ?_
    iterate 3 refine pA ?_
    refine ar_nil ?_
    refine ag_ret tOk Try.func28 rfl rfl (by first | trivial | exact ⟨trivial, trivial⟩ | simp) ?_
    rfl
theorem w_alive35  : Pur Try.prog 24 [] (.r (.bool true)) := by
  have cS := w_rSig [120] 2 [116] (by decide) (by decide) (by decide)
  have cF := w_FindOwn [120] (by decide) [116] (by decide) 2 (by decide)
  generalize sigL [120] 2 [116] = S at cS cF
  have cS2 : Pur Try.prog 31 [.r (.str [120]), .r (.int .i64 2), .r (.bs [116])] (.r (.str S)) := cS
  refine spec_of_go (N := 28) Try.func24 rfl (by decide) rfl rfl ?_
  refine zB ?_
  refine pA ?_
  refine zC ?_
  refine ar_new tOk rfl rfl rfl ?_ ?_
  · simp
  refine ar_ent (ent_body 0 (.mixed [.r (.int .u8 116)]) (.bytes [116]) rfl rfl) ?_
  refine ar_qd rfl (qop_convSl tOk rfl) rfl rfl rfl rfl ?_
  refine ar_ent (ent_freeze 6 rfl rfl rfl ⟨by decide, rfl⟩) ?_
  refine ar_ent (ent_reg 6 (.r (.bs [116])) rfl) ?_
  refine ar_new tOk rfl rfl rfl ?_ ?_
  · simp
  refine ar_ent (ent_body 1 (.mixed [.r (.int .u8 116)]) (.bytes [116]) rfl rfl) ?_
  refine ar_qd rfl (qop_convSl tOk rfl) rfl rfl rfl rfl ?_
  refine ar_ent (ent_freeze 8 rfl rfl rfl ⟨by decide, rfl⟩) ?_
  refine ar_ent (ent_reg 8 (.r (.bs [116])) rfl) ?_
  refine ar_pur (cS2) rfl rfl rfl rfl rfl rfl rfl ?_
  refine ar_pur (cF) rfl rfl rfl rfl rfl rfl rfl ?_
  iterate 7 refine pA ?_
  refine zC ?_
  iterate 3 refine pA ?_
  refine ar_ent (ent_reg 16 (.r (.bool true)) (by show AVal.r (.bool _) = _; exact eqB (by rfl))) ?_
  iterate 4 refine pA ?_
  refine ar_ent (ent_reg 20 (.r (.bool true)) (by show AVal.r (.bool _) = _; exact eqB (by rfl))) ?_
  iterate 4 refine pA ?_
  refine ar_ent (ent_reg 24 (.r (.bool true)) (by show AVal.r (.bool _) = _; exact eqB (by rfl))) ?_
  refine ar_pur (w_Joined [97] [98] (by decide)) rfl rfl rfl rfl rfl rfl rfl ?_
  iterate 3 refine pA ?_
  refine ar_nil ?_
  refine ag_ret tOk Try.func24 rfl rfl (by simp) ?_
  exact eqB (by decide)
theorem w_ForgeOwn (seed : List UInt8) (hs : seed.length ≤ 140737488352000) (nx : Int) (text : List UInt8) (hb : text.length ≤ 140737488355000) : Pur Try.prog 6 [.r (.str seed), .r (.int .i64 nx), .r (.bs text)] (.r (.bool true)) := by
  have q1 := Int.lt_tmod_of_pos nx (show (0 : Int) < 8 by decide)
  have q2 := Int.tmod_lt_of_pos nx (show (0 : Int) < 8 by decide)
  have q3 := Int.tmod_lt_of_pos (nx.tmod 8 + 8) (show (0 : Int) < 8 by decide)
  obtain ⟨m, hm⟩ : ∃ m : Nat, Int.tmod (Int.tmod nx 8 + 8) 8 = (m : Int) := ⟨_, (Int.toNat_of_nonneg (Int.tmod_nonneg _ (by omega))).symm⟩
  rw [hm] at q3
  have hm8 : m < 8 := by omega
  have cS := w_mSign seed m text hs hb hm8
  have cF := w_FindOwn seed hs text hb m hm8
  generalize sigL seed m text = S at cS cF
  refine spec_of_go (N := 47) Try.func6 rfl (by decide) rfl rfl ?_
  refine zB ?_
  refine pA ?_
  refine zA ?_
  refine zB ?_
  refine ar_pur (w_alive35) rfl rfl rfl rfl rfl rfl rfl ?_
  refine pA ?_
  refine ar_nil ?_
  refine ag_false rfl (rfl) ?_
  refine ag_skip ?_
  refine zB ?_
  iterate 2 refine pA ?_
  refine ar_pure tOk rfl rfl rfl ?_ ?_
  · decide
  refine ar_pure tOk rfl rfl rfl ?_ ?_
  · unfold inI64; omega
  refine ar_pure tOk rfl rfl rfl ?_ ?_
  · decide
  refine ar_ent (ent_reg 20 (.r (.int .i64 ((m : Int)))) (by show AVal.r (.int _ _) = _; exact eqI (hm))) ?_
  refine ar_pure tOk rfl rfl rfl ?_ ?_
  · simp
  refine pA ?_
  refine ar_pur (cS) rfl rfl rfl rfl rfl rfl rfl ?_
  iterate 4 refine pA ?_
  refine ar_new tOk rfl rfl rfl ?_ ?_
  · simp
  refine pA ?_
  refine ar_store tOk rfl rfl rfl trivial ?_
  refine pA ?_
  refine zC ?_
  iterate 3 refine pA ?_
  refine ar_pur (cF) rfl rfl rfl rfl rfl rfl rfl ?_
  iterate 7 refine pA ?_
  refine zC ?_
  iterate 3 refine pA ?_
  refine ar_ent (ent_reg 37 (.r (.bool true)) (by show AVal.r (.bool _) = _; exact eqB (by rfl))) ?_
  iterate 4 refine pA ?_
  refine ar_ent (ent_reg 41 (.r (.bool true)) (by show AVal.r (.bool _) = _; exact eqB (by rfl))) ?_
  iterate 2 refine pA ?_
  refine ar_pure tOk rfl rfl rfl ?_ ?_
  · decide
  iterate 3 refine pA ?_
  refine ar_nil ?_
  refine ag_ret tOk Try.func6 rfl rfl (by simp) ?_
  exact eqB (by decide)
end Go.Proofs.Ytnodpljgcdkbkaa

